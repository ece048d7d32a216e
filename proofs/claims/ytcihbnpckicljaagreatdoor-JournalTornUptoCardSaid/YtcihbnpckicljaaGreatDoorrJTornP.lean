/- Blocks made one behind another; frames cut anywhere; how long frames are. No conditions. -/
import Derived.Test.YtcihbnpckicljaaGreatDoorrJChain
import Derived.Test.YtcihbnpckicljaaGreatDoorrGR
set_option linter.unusedVariables false
set_option linter.unusedSimpArgs false
namespace Go.Proofs.YtcihbnpckicljaaGreatDoor
open Go Go.RowKit Go.BigFrame
open Go.Lib(hid)
set_option maxRecDepth 100000
def chainP :List (List DRev)->Nat->List UInt8->List DBlk
 |[],_,_=>[]
 |r::l,c,prev=>if(makeP (c+1) prev [[115]] r).2≠0 then chainP l c prev else(makeP (c+1) prev [[115]] r).1::chainP l (c+1) (digP (shortP (makeP (c+1) prev [[115]] r).1).1)
theorem makeP_ok {seq:Nat} {prev:List UInt8} {sts:List (List UInt8)} {revs:List DRev} (h:(makeP seq prev sts revs).2=0):(makeP seq prev sts revs).1=⟨seq,prev,rootL (textsP revs).1,sts,revs⟩/\(wholeP (makeP seq prev sts revs).1).2=0:=by
 unfold makeP at h⊢
 by_cases h1:makeE seq prev sts revs≠0
 ·rw[if_pos h1]at h;exact absurd h h1
 rw[if_neg h1]
 refine⟨rfl,?_⟩
 unfold makeE at h1
 by_cases h2:(partsP ⟨seq,prev,zero32,sts,revs⟩).2≠0
 ·rw[if_pos h2]at h1;exact absurd h2 h1
 rw[if_neg h2]at h1
 simpa using h1
theorem chainP_chain :∀(l:List (List DRev)) (c:Nat) (prev:List UInt8),(∀x∈l,∀r∈x,wfR r)->c+l.length<4611686018427387904->Chain c prev (chainP l c prev)
 |[],_,_,_,_=>trivial
 |r::l,c,prev,h,hc=>by
  rw[chainP]
  have hl:=chainP_chain l
  rw[List.length_cons]at hc
  by_cases h1:(makeP (c+1) prev [[115]] r).2≠0
  ·rw[if_pos h1]
   exact hl c prev (fun x hx=>h x (by simp[hx])) (by omega)
  ·rw[if_neg h1]
   obtain⟨h2,h3⟩:=makeP_ok (show(makeP (c+1) prev [[115]] r).2=0 by simpa using h1)
   refine⟨h3,?_,by rw[h2],by rw[h2],hl _ _ (fun x hx=>h x (by simp[hx])) (by omega)⟩
   rw[h2]
   exact⟨show c+1<_ by omega,h r (by simp)⟩
theorem chainP_len :∀(l:List (List DRev)) (c:Nat) (prev:List UInt8),(chainP l c prev).length<=l.length
 |[],_,_=>Nat.le_refl _
 |r::l,c,prev=>by
  rw[chainP]
  split
  ·have:=chainP_len l c prev;rw[List.length_cons];omega
  ·have:=chainP_len l (c+1) (digP (shortP (makeP (c+1) prev [[115]] r).1).1)
   rw[List.length_cons,List.length_cons];omega
theorem chain_take :∀{l:List DBlk} {c:Nat} {prev:List UInt8} (m:Nat),Chain c prev l->Chain c prev (l.take m)
 |[],_,_,m,_=>by rw[List.take_nil];trivial
 |b::l,c,prev,0,_=>trivial
 |b::l,c,prev,m+1,h=>⟨h.1,h.2.1,h.2.2.1,h.2.2.2.1,chain_take m h.2.2.2.2⟩
theorem frames_app (l m:List DBlk):framesOf (l++m)=framesOf l++framesOf m:=List.flatMap_append
theorem frames_len :∀(l:List DBlk),l.length<=(framesOf l).length
 |[]=>Nat.zero_le _
 |b::l=>by
  have:=frames_len l
  unfold framesOf at this⊢
  rw[List.flatMap_cons,List.length_append,framed_len,List.length_cons]
  omega
theorem torn {l:List DBlk} {m cut:Nat} (hc:Chain 0 zero32 l) (hm:m<=l.length) (h1:(framesOf (l.take m)).length<=cut) (h2:cut<=(framesOf l).length) (h3:m<l.length->cut<(framesOf (l.take (m+1))).length):
 scanV ((framesOf l).take cut)=(l.take m,(framesOf (l.take m)).length):=by
 have hct:=chain_take m hc
 have hsp:framesOf l=framesOf (l.take m)++framesOf (l.drop m):=by rw[←frames_app,List.take_append_drop]
 have hfl:=frames_len (l.take m)
 obtain⟨k,hk⟩:∃k,k=cut-(framesOf (l.take m)).length:=⟨_,rfl⟩
 have ht:(framesOf l).take cut=framesOf (l.take m)++(framesOf (l.drop m)).take k:=by
  rw[hsp,List.take_append,List.take_of_length_le h1,hk]
 have hst:stepP ((framesOf (l.drop m)).take k)=none:=by
  by_cases hlt:m<l.length
  ·rw[List.drop_eq_getElem_cons hlt]
   have h4:=h3 hlt
   have hw:(wholeP l[m]).2=0:=(chain_bounds hc _ (List.getElem_mem hlt)).1
   have hwl:=whole_len hw
   have htk:l.take (m+1)=l.take m++[l[m]]:=by rw[List.take_add_one,List.getElem?_eq_getElem hlt];rfl
   have h5:(framesOf (l.take (m+1))).length=(framesOf (l.take m)).length+(12+(wholeP l[m]).1.length):=by
    rw[htk,frames_app,List.length_append]
    unfold framesOf
    rw[List.flatMap_cons,List.flatMap_nil,List.append_nil,framed_len]
   have e:framesOf (l[m]::l.drop (m+1))=framedP (wholeP l[m]).1++framesOf (l.drop (m+1)):=by
    unfold framesOf
    rw[List.flatMap_cons]
   rw[e]
   exact step_torn (by omega) _ (by omega)
  ·have:l.drop m=[]:=List.drop_eq_nil_of_le (by omega)
   rw[this]
   unfold framesOf
   rw[List.flatMap_nil,List.take_nil]
   rfl
 unfold scanV
 rw[ht]
 refine scan_torn _ _ _ _ _ hct ?_ hst
 rw[List.length_append]
 omega
def bulkR (l:List DRev):Nat:=(l.map fun r=>r.t.length+bulkV r.v+1).sum
theorem textsP_len :∀(l:List DRev),((textsP l).1.map List.length).sum+11*(textsP l).1.length<=300*bulkR l
 |[]=>by simp[textsP]
 |r::l=>by
  have ih:=textsP_len l
  have h1:=revV_len r
  have h2:=tlV r.v
  have hb:bulkR (r::l)=r.t.length+bulkV r.v+1+bulkR l:=by unfold bulkR;rw[List.map_cons,List.sum_cons]
  have h3:(revT r).1.length<=(textV (revV r)).length:=by
   unfold revT
   split
   ·simp
   ·split
    ·simp
    ·show(wrP (revV r)).1.length<=_
     unfold wrP
     repeat' split
     all_goals simp
  rw[textsP]
  split
  ·simp
  ·split
   ·simp
   ·rw[List.map_cons,List.sum_cons,List.length_cons,hb]
    omega
theorem textL_sum :∀(l:List (List UInt8)),(textL (l.map vBlob)).length<=(l.map List.length).sum+11*l.length
 |[]=>by simp[textL]
 |s::l=>by
  have h1:=textL_sum l
  have h2:=vBlob_len s
  rw[List.map_cons,textL,List.length_append,List.length_cons,List.map_cons,List.sum_cons]
  omega
theorem whole_bulk {seq:Nat} {prev root:List UInt8} {revs:List DRev} (h:(wholeP ⟨seq,prev,root,[[115]],revs⟩).2=0):12+(wholeP ⟨seq,prev,root,[[115]],revs⟩).1.length<=300*bulkR revs+250:=by
 have hf:=parts_full (whole_parts h)
 have hp:prev.length=32:=hf.1
 have hr:root.length=32:=hf.2.1
 obtain⟨_,_,_,_,h5,h6⟩:=whole_ok h
 rw[h6,wrP_text h5]
 have h1:=textsP_len revs
 have h2:=textL_sum (textsP revs).1
 have h3:=vList_len [vInt seq,vBlob prev,vBlob root,vList ([[115]].map vTxt),vList ((textsP revs).1.map vBlob)]
 rw[textL_five]at h3
 have a1:=vInt_len seq
 have a2:=vBlob_len prev
 have a3:=vBlob_len root
 have a4:=vList_len (([[115]]:List (List UInt8)).map vTxt)
 have a5:=vList_len ((textsP revs).1.map vBlob)
 have a6:(textL (([[115]]:List (List UInt8)).map vTxt)).length<=12:=by decide
 show 12+(textV (vList [vInt seq,vBlob prev,vBlob root,vList ([[115]].map vTxt),vList ((textsP revs).1.map vBlob)])).length<=_
 omega
def bulkRR (l:List (List DRev)):Nat:=(l.map fun x=>bulkR x+1).sum
theorem frames_bulk :∀(l:List (List DRev)) (c:Nat) (prev:List UInt8),(framesOf (chainP l c prev)).length<=300*bulkRR l
 |[],_,_=>Nat.zero_le _
 |r::l,c,prev=>by
  have hb:bulkRR (r::l)=bulkR r+1+bulkRR l:=by unfold bulkRR;rw[List.map_cons,List.sum_cons]
  rw[chainP,hb]
  by_cases h1:(makeP (c+1) prev [[115]] r).2≠0
  ·rw[if_pos h1]
   have:=frames_bulk l c prev
   omega
  ·rw[if_neg h1]
   obtain⟨h2,h3⟩:=makeP_ok (show(makeP (c+1) prev [[115]] r).2=0 by simpa using h1)
   have ih:=frames_bulk l (c+1) (digP (shortP (makeP (c+1) prev [[115]] r).1).1)
   rw[h2]at h3
   have h4:=whole_bulk h3
   unfold framesOf at ih⊢
   rw[List.flatMap_cons,List.length_append,framed_len]
   rw[h2]at ih⊢
   omega
end Go.Proofs.YtcihbnpckicljaaGreatDoor
