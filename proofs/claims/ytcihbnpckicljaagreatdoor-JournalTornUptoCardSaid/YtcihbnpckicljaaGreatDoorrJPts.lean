/- The texts of a block's revisions; why its parts are not right: journal.parts, the document's texts and parts. Conditions: a block lies in memory; its revisions' texts no longer than 2^39 bytes; utf8's tables read as the text lays them. -/
import Derived.Test.YtcihbnpckicljaaGreatDoorrJRevT
import Derived.Test.YtcihbnpckicljaaGreatDoorrJReadP
set_option linter.unusedVariables false
set_option linter.unusedSimpArgs false
namespace Go.Proofs.YtcihbnpckicljaaGreatDoor
open Go Go.RowKit Go.BigFrame
open Go.Lib(hid)
set_option maxRecDepth 100000
theorem CellsAt.ten {S:Nat->Prop} {w:World} {g o:Nat} {c0 c1 c2 c3 c4 c5 c6 c7 c8 c9:Value} (h:CellsAt S w g o [c0,c1,c2,c3,c4,c5,c6,c7,c8,c9]):
 w.cell? ⟨g,o,none⟩=some c0/\w.cell? ⟨g,o+1,none⟩=some c1/\w.cell? ⟨g,o+2,none⟩=some c2/\w.cell? ⟨g,o+3,none⟩=some c3/\w.cell? ⟨g,o+4,none⟩=some c4/\w.cell? ⟨g,o+5,none⟩=some c5/\w.cell? ⟨g,o+6,none⟩=some c6/\w.cell? ⟨g,o+7,none⟩=some c7/\w.cell? ⟨g,o+8,none⟩=some c8/\w.cell? ⟨g,o+9,none⟩=some c9:=
 ⟨h.2.2 0 (by simp),h.2.2 1 (by simp),h.2.2 2 (by simp),h.2.2 3 (by simp),h.2.2 4 (by simp),h.2.2 5 (by simp),h.2.2 6 (by simp),h.2.2 7 (by simp),h.2.2 8 (by simp),h.2.2 9 (by simp)⟩
theorem hasS_cap {R:Nat} {w:World} {v:Value} {l:List (List UInt8)} (h:w.ownsRow R 9 1 v l.length (l.map fun s=>Value.string (bs s))):∃p c,v=.slice p l.length c/\l.length<=c/\c<=maxLen/\HasS (fun x=>R<=x) w p l:=by
 rcases h.2 with⟨rfl,h0'⟩|⟨g,cap,cur,rfl,_,_,hnc,hcm,_⟩
 ·exact⟨none,0,by rw[h0'],by omega,by unfold maxLen;omega,fun j hj=>by omega⟩
 ·obtain⟨p,c,he,hs⟩:=hasS_own h
  injection he with e1 _ e3
  subst e1
  subst e3
  exact⟨_,_,rfl,hnc,hcm,hs⟩
def TextsOut (w:World) (P:List (List UInt8)×Int) (e':Ending) (w':World):Prop:=∃p c,e'=.returned (.tuple #[.slice p P.1.length c,.int .i64 P.2])/\(P.1.length<=c/\c<=maxLen)/\HasS (fun x=>w.heap.size<=x) w' p P.1/\Below w.heap.size w w'
theorem texts_fail :∀{l:List DRev} {j:Nat} (hj:j<l.length),(∀r∈l.take j,(revT r).2=0)->(revT l[j]).2≠0->textsP l=([],(revT l[j]).2)
 |r::l,0,_,_,h=>by
  rw[textsP,if_pos (by simpa using h)]
  rfl
 |r::l,j+1,hj,h1,h2=>by
  have h0:(revT r).2=0:=h1 r (by simp)
  have h3:=texts_fail (l:=l) (j:=j) (by simpa using hj) (fun x hx=>h1 x (by simp[hx])) (by simpa using h2)
  rw[textsP,if_neg (by simpa using h0),h3,if_pos (by simpa using h2)]
  rfl
theorem stE_fail :∀{l:List (List UInt8)} {j:Nat} (hj:j<l.length),(∀s∈l.take j,utfE s=0)->utfE l[j]≠0->stE l=utfE l[j]
 |s::l,0,_,_,h=>by
  rw[stE,if_pos (by simpa using h)]
  rfl
 |s::l,j+1,hj,h1,h2=>by
  have h0:utfE s=0:=h1 s (by simp)
  have h3:=stE_fail (l:=l) (j:=j) (by simpa using hj) (fun x hx=>h1 x (by simp[hx])) (by simpa using h2)
  rw[stE,if_neg (by simpa using h0),h3]
  rfl
theorem stE_of :∀{l:List (List UInt8)},(∀s∈l,utfE s=0)->stE l=0
 |[],_=>rfl
 |s::l,h=>by rw[stE,if_neg (by simpa using h s (by simp)),stE_of (l:=l) (fun x hx=>h x (by simp[hx]))]
theorem take_snoc {α:Type} {l:List α} {j:Nat} (h:j<l.length):l.take (j+1)=l.take j++[l[j]]:=by
 rw[List.take_add_one,List.getElem?_eq_getElem h]
 rfl
theorem take_mem_snoc {α:Type} {p:α->Prop} {l:List α} {j:Nat} (h:j<l.length) (h1:∀x∈l.take j,p x) (h2:p l[j]):∀x∈l.take (j+1),p x:=by
 intro x hx
 rw[take_snoc h]at hx
 rcases List.mem_append.1 hx with hx|hx
 ·exact h1 x hx
 ·obtain rfl:=List.mem_singleton.1 hx
  exact h2
def txV (l:List DRev):List Value:=l.map fun r=>Value.string (bs (revT r).1)
theorem txV_len (l:List DRev):(txV l).length=l.length:=List.length_map _
theorem texts_has {B:Nat} {w:World} {v:Value} {l:List DRev} (h:w.ownsRow B 9 1 v l.length (txV l)) (hl:∀r∈l,(revT r).2=0):∃p c,v=.slice p (textsP l).1.length c/\((textsP l).1.length<=c/\c<=maxLen)/\HasS (fun x=>B<=x) w p (textsP l).1:=by
 have e:(textsP l).1=l.map fun r=>(revT r).1:=by rw[texts_of hl]
 rw[e]
 have h2:w.ownsRow B 9 1 v (l.map fun r=>(revT r).1).length ((l.map fun r=>(revT r).1).map fun s=>Value.string (bs s)):=by
  rw[List.length_map,List.map_map]
  exact h
 obtain⟨p,c,h3,h4,h5,h6⟩:=hasS_cap h2
 exact⟨p,c,h3,⟨h4,h5⟩,h6⟩
set_option maxHeartbeats 4000000 in
theorem texts_any (l:List DRev) (S:Nat->Prop) (p:Option Addr) (c:Nat) (w:World) (hl:RowIn HasRev 10 S w p l) (hn:l.length<=1073741824) (hk:∀r∈l,okR r) (hT:U8T w):
 Calls Tryz.prog 73 #[.slice p l.length c] w (TextsOut w (textsP l)):=by
 have HL:=hid hl
 have HK:=hid hk
 have HT:=hid hT
 obtain⟨n,hnl⟩:∃n,n=l.length:=⟨_,rfl⟩
 rw[←hnl]at hn⊢
 have HN:=hid hnl
 clear hl hk hT hnl
 go_enter Tryz.func73,Tryz.ntmps73
 go_wp2
 go_loopw [4,11] (fun a b wr=>∃j:Nat,b=.int .i64 (j:Int)/\j<=n/\(∀r∈l.take j,(revT r).2=0)/\wr.ownsRow w.heap.size 9 1 a j (txV (l.take j))/\Below w.heap.size w wr) (fun _ b _=>n-(intOf b).toNat)
 case atStart=>exact⟨0,rfl,Nat.zero_le _,by simp,⟨rfl,Or.inl ⟨rfl,rfl⟩⟩,Below.refl _ _⟩
 case round=>
 obtain⟨j,rfl,hj,hok,hown,hbw⟩:=hrel
 have hszw:=hbw.size
 have HOK:=hid hok
 have HO:=hid hown
 have HBW:=hid hbw
 by_cases hlt:j<n
 ·have hltl:j<l.length:=by rw[←HN.out];exact hlt
  obtain⟨g,o,cs,rfl,hcells,hrev⟩:=(HL.out.ext relR hbw) j hltl
  have hx:=HK.out _ (List.getElem_mem hltl)
  have htk:=take_snoc hltl
  have hfail:=texts_fail hltl hok
  have hnew:=fun h2=>take_mem_snoc (p:=fun r=>(revT r).2=0) hltl hok h2
  generalize hxe:l[j]=r at hcells hrev hx htk hfail hnew
  have HTK:=hid htk
  have HFL:=hid hfail
  have HNW:=hid hnew
  obtain⟨q,hq⟩:∃q,q=(revT r).2:=⟨_,rfl⟩
  obtain⟨x,hxx⟩:∃x,x=(revT r).1:=⟨_,rfl⟩
  have HQ:=hid hq
  have HX:=hid hxx
  have HCT:Hid (∀w',Below wr.heap.size wr w'->Calls Tryz.prog 38 #[.agg cs.toArray] w' fun e' w2=>e'=.returned (.tuple #[.string (bs x),.int .i64 q])/\Below w'.heap.size w' w2):=hid (fun w' hb=>by
   rw[hq,hxx]
   exact rrevText_any r S cs w' (relR.kept hrev (fun _ h=>h) (fun b _ hlt=>hb.block b hlt)) (U8T_ext (U8T_ext HT.out HBW.out) hb) hx.len)
  clear hok hown hbw hx htk hfail hnew hxe hq hxx
  obtain⟨rk,rt,rd,rn,rv⟩:=r
  obtain⟨cs',rfl,hbd,hv⟩:=hrev
  obtain⟨vk,vb,vn,vs,vl,vf⟩:=rv
  obtain⟨pl,cl,pf,cf,rfl,_⟩:=hasVal_mk.1 hv
  obtain⟨e0,e1,e2,e3,e4,e5,e6,e7,e8,e9⟩:=hcells.ten
  have hgr:=hcells.2.1
  clear hcells hv hbd
  go_wp2_with fail
  go_at_call 38
  refine(HCT.out _ ((Below.refl _ _).alloc (Nat.le_refl _) _)).mono ?_
  rintro e' w1 ⟨rfl,hb1⟩
  have hb2:=below_ext ((Below.refl wr.heap.size wr).alloc (Nat.le_refl _) _) hb1
  have HB2:=hid (below_ext HBW.out hb2)
  have hsz1:=hb2.size
  have hO1:=own_ext HO.out hb2
  have HO1:=hid hO1
  clear e0 e1 e2 e3 e4 e5 e6 e7 e8 e9 hb1 hb2 hO1 HO HBW
  by_cases hq0:q=0
  case neg=>
   have hqb:(q !=0)=true:=by rw[bne_iff_ne];exact hq0
   have HP:Hid (textsP l=([],q)):=hid (by rw[HQ.out];exact HFL.out (by rw[←HQ.out];exact hq0))
   clear hq0
   go_wp2
   go_ret2
   rw[HP.out]
   exact⟨none,0,rfl,⟨by simp,by unfold maxLen;omega⟩,fun i hi=>by simp at hi,HB2.out⟩
  subst hq0
  go_wp2_with(at_builtin;refine push_one w.heap.size rfl _ _ 25 9 (.string ⟨#[]⟩) 16 rfl Tryz.underlying25 (by kernel_rfl) rfl (by decide) _ (txV (l.take j)) (by rw[txV_len,List.length_take,Nat.min_eq_left (by omega)];exact HO1.out) (.string (bs x)) rfl rfl rfl (by omega) (by rw[txV_len,List.length_take];omega) ?_)
  intro v1 w3 hown3 hg3
  have hown4:w3.ownsRow w.heap.size 9 1 v1 (j+1) (txV (l.take (j+1))):=by
   rw[txV_len,List.length_take,Nat.min_eq_left (by omega)]at hown3
   rw[HTK.out]
   unfold txV at hown3⊢
   rw[List.map_append,List.map_cons,List.map_nil,←HX.out]
   exact hown3
  have hb3:=below_grown HB2.out hg3 (by omega) (fun k hk=>(HO1.out.lt k hk).1)
  have HB3:=hid hb3
  have HO3:=hid hown4
  have HN2:=hid (HNW.out HQ.out.symm)
  clear hown3 hg3 hown4 hb3
  go_wp2
  go_roundw
  case rel=>exact⟨j+1,by go_num,hlt,HN2.out,HO3.out,HB3.out⟩
  case measure=>simp[intOf];omega
 obtain rfl:j=n:=by omega
 have hall:l.take j=l:=by rw[HN.out,List.take_length]
 rw[hall]at hok hown
 rw[HN.out]at hown
 obtain⟨p1,c1,rfl,hc1,hs1⟩:=texts_has hown hok
 have H0:Hid ((textsP l).2=0):=hid (by rw[texts_of hok])
 have HS1:=hid hs1
 clear hok hown hbw hall hs1 HOK HO
 go_wp2
 go_ret2
 exact⟨p1,c1,by rw[H0.out];rfl,hc1,HS1.out,HBW.out⟩
set_option maxHeartbeats 8000000 in
theorem parts_any (b:DBlk) (S:Nat->Prop) (cs:List Value) (w:World) (hb:HasBlk S w b cs) (hk:∀r∈b.revs,okR r) (hT:U8T w):
 Calls Tryz.prog 67 #[.agg cs.toArray] w (TextsOut w (partsP b)):=by
 obtain⟨P,hP⟩:∃P,P=partsP b:=⟨_,rfl⟩
 rw[←hP]
 obtain⟨seq,prev,root,sts,revs⟩:=b
 obtain⟨ps,cp,pr,cr,rfl,hbd,hS,hR⟩:=hb
 have hP2:P=if seq<1\/4611686018427387904<seq then([],2)else if prev.length≠32\/root.length≠32 then([],4)else if 64<sts.length\/revs.length<1\/64<revs.length then([],3)else if stE sts≠0 then([],stE sts)else textsP revs:=by
  rw[hP]
  unfold partsP partsE
  simp only
  repeat' split
  all_goals first|rfl|(exfalso;simp_all;done)|simp_all
 have HS:=hid hS
 have HR:=hid hR
 have HK:=hid hk
 have HT:=hid hT
 have hp1:seq<18446744073709551616:=hbd.1
 have hp2:prev.length<=1073741824:=hbd.2.1
 have hp3:root.length<=1073741824:=hbd.2.2.1
 have hp4:sts.length<=1073741824:=hbd.2.2.2.1
 have hp5:revs.length<=1073741824:=hbd.2.2.2.2.1
 have HLS:Hid (∀s∈sts,s.length<=1073741824):=hid hbd.2.2.2.2.2.2.2.2.2
 clear hS hR hk hT hbd hP
 have hz1:=bs_size prev
 have hz2:=bs_size root
 obtain⟨ns,hns⟩:∃ns,ns=sts.length:=⟨_,rfl⟩
 obtain⟨nr,hnr⟩:∃nr,nr=revs.length:=⟨_,rfl⟩
 obtain⟨np,hnp⟩:∃np,np=prev.length:=⟨_,rfl⟩
 obtain⟨nt,hnt⟩:∃nt,nt=root.length:=⟨_,rfl⟩
 rw[←hns,←hnr,←hnp,←hnt]at hP2
 rw[←hnp]at hz1 hp2
 rw[←hnt]at hz2 hp3
 rw[←hns]at hp4
 rw[←hnr]at hp5
 have HP:=hid hP2
 have HNS:=hid hns
 have HNR:=hid hnr
 clear hP2 hnp hnt
 show Calls Tryz.prog 67 #[.agg #[.int .u64 (seq:Int),.string (bs prev),.string (bs root),.slice ps sts.length cp,.slice pr revs.length cr]] w _
 rw[←hns,←hnr]
 clear hns hnr
 by_cases hc:seq<1
 ·have HP2:Hid (P=([],2)):=hid (by rw[HP.out];rw[if_pos (.inl hc)])
  have hI:(seq:Int)<1:=by omega
  clear HP hc
  go_enter Tryz.func67,Tryz.ntmps67
  go_wp2
  go_ret2
  rw[HP2.out]
  exact⟨none,0,rfl,⟨by simp,by unfold maxLen;omega⟩,fun i hi=>by simp at hi,(Below.refl _ _).alloc (Nat.le_refl _) _⟩
 have hn0: ¬(seq<1):=hc
 clear hc
 by_cases hc:4611686018427387904<seq
 ·have HP2:Hid (P=([],2)):=hid (by rw[HP.out];rw[if_pos (.inr hc)])
  have hI:(4611686018427387904:Int)<(seq:Int):=by omega
  have hI0:(1:Int)<=(seq:Int):=by omega
  clear HP hc
  go_enter Tryz.func67,Tryz.ntmps67
  go_wp2
  go_ret2
  rw[HP2.out]
  exact⟨none,0,rfl,⟨by simp,by unfold maxLen;omega⟩,fun i hi=>by simp at hi,(Below.refl _ _).alloc (Nat.le_refl _) _⟩
 have hn1: ¬(4611686018427387904<seq):=hc
 clear hc
 by_cases hc:np≠32
 ·have HP2:Hid (P=([],4)):=hid (by rw[HP.out];rw[if_neg (by omega),if_pos (.inl hc)])
  have hI:((np:Int) !=32)=true:=by rw[bne_iff_ne];omega
  have hI0:(1:Int)<=(seq:Int):=by omega
  have hI1:(seq:Int)<=4611686018427387904:=by omega
  clear HP hc
  go_enter Tryz.func67,Tryz.ntmps67
  go_wp2
  go_ret2
  rw[HP2.out]
  exact⟨none,0,rfl,⟨by simp,by unfold maxLen;omega⟩,fun i hi=>by simp at hi,(Below.refl _ _).alloc (Nat.le_refl _) _⟩
 have hn2: ¬(np≠32):=hc
 clear hc
 by_cases hc:nt≠32
 ·have HP2:Hid (P=([],4)):=hid (by rw[HP.out];rw[if_neg (by omega),if_pos (.inr hc)])
  have hI:((nt:Int) !=32)=true:=by rw[bne_iff_ne];omega
  have hJ:((np:Int) !=32)=false:=by rw[bne_eq_false_iff_eq];omega
  have hI0:(1:Int)<=(seq:Int):=by omega
  have hI1:(seq:Int)<=4611686018427387904:=by omega
  clear HP hc
  go_enter Tryz.func67,Tryz.ntmps67
  go_wp2
  go_ret2
  rw[HP2.out]
  exact⟨none,0,rfl,⟨by simp,by unfold maxLen;omega⟩,fun i hi=>by simp at hi,(Below.refl _ _).alloc (Nat.le_refl _) _⟩
 have hn3: ¬(nt≠32):=hc
 clear hc
 by_cases hc:64<ns
 ·have HP2:Hid (P=([],3)):=hid (by rw[HP.out];rw[if_neg (by omega),if_neg (by omega),if_pos (.inl hc)])
  have hI:(64:Int)<(ns:Int):=by omega
  have hJ:((np:Int) !=32)=false:=by rw[bne_eq_false_iff_eq];omega
  have hJ2:((nt:Int) !=32)=false:=by rw[bne_eq_false_iff_eq];omega
  have hI0:(1:Int)<=(seq:Int):=by omega
  have hI1:(seq:Int)<=4611686018427387904:=by omega
  clear HP hc
  go_enter Tryz.func67,Tryz.ntmps67
  go_wp2
  go_ret2
  rw[HP2.out]
  exact⟨none,0,rfl,⟨by simp,by unfold maxLen;omega⟩,fun i hi=>by simp at hi,(Below.refl _ _).alloc (Nat.le_refl _) _⟩
 have hn4: ¬(64<ns):=hc
 clear hc
 by_cases hc:nr<1
 ·have HP2:Hid (P=([],3)):=hid (by rw[HP.out];rw[if_neg (by omega),if_neg (by omega),if_pos (.inr (.inl hc))])
  have hI:(nr:Int)<1:=by omega
  have hI2:(ns:Int)<=64:=by omega
  have hJ:((np:Int) !=32)=false:=by rw[bne_eq_false_iff_eq];omega
  have hJ2:((nt:Int) !=32)=false:=by rw[bne_eq_false_iff_eq];omega
  have hI0:(1:Int)<=(seq:Int):=by omega
  have hI1:(seq:Int)<=4611686018427387904:=by omega
  clear HP hc
  go_enter Tryz.func67,Tryz.ntmps67
  go_wp2
  go_ret2
  rw[HP2.out]
  exact⟨none,0,rfl,⟨by simp,by unfold maxLen;omega⟩,fun i hi=>by simp at hi,(Below.refl _ _).alloc (Nat.le_refl _) _⟩
 have hn5: ¬(nr<1):=hc
 clear hc
 by_cases hc:64<nr
 ·have HP2:Hid (P=([],3)):=hid (by rw[HP.out];rw[if_neg (by omega),if_neg (by omega),if_pos (.inr (.inr hc))])
  have hI:(64:Int)<(nr:Int):=by omega
  have hI2:(ns:Int)<=64:=by omega
  have hI3:(1:Int)<=(nr:Int):=by omega
  have hJ:((np:Int) !=32)=false:=by rw[bne_eq_false_iff_eq];omega
  have hJ2:((nt:Int) !=32)=false:=by rw[bne_eq_false_iff_eq];omega
  have hI0:(1:Int)<=(seq:Int):=by omega
  have hI1:(seq:Int)<=4611686018427387904:=by omega
  clear HP hc
  go_enter Tryz.func67,Tryz.ntmps67
  go_wp2
  go_ret2
  rw[HP2.out]
  exact⟨none,0,rfl,⟨by simp,by unfold maxLen;omega⟩,fun i hi=>by simp at hi,(Below.refl _ _).alloc (Nat.le_refl _) _⟩
 have hn6: ¬(64<nr):=hc
 clear hc
 have HP2:Hid (P=if stE sts≠0 then([],stE sts)else textsP revs):=hid (by rw[HP.out,if_neg (by omega),if_neg (by omega),if_neg (by omega)])
 have hI:(ns:Int)<=64:=by omega
 have hI2:(nr:Int)<=64:=by omega
 have hI3:(1:Int)<=(nr:Int):=by omega
 have hJ:((np:Int) !=32)=false:=by rw[bne_eq_false_iff_eq];omega
 have hJ2:((nt:Int) !=32)=false:=by rw[bne_eq_false_iff_eq];omega
 have hI0:(1:Int)<=(seq:Int):=by omega
 have hI1:(seq:Int)<=4611686018427387904:=by omega
 clear HP hn0 hn1 hn2 hn3 hn4 hn5 hn6
 go_enter Tryz.func67,Tryz.ntmps67
 go_upto_region 7 with(fail)
 clear hI hI2 hI3 hJ hJ2 hI0 hI1
 generalize hW0:World.alloc w _=W0
 have hb0:Below w.heap.size w W0:=by rw[←hW0];exact(Below.refl _ _).alloc (Nat.le_refl _) _
 have hd1:IsBlk W0 w.heap.size #[.int .u64 (seq:Int),.string (bs prev),.string (bs root),.slice ps ns cp,.slice pr nr cr] 28:=by rw[←hW0];exact IsBlk.new _ _ _
 have HB0:=hid hb0
 have HD:=hid hd1
 have hlt0:=hd1.lt
 have x0:=hd1.cell (i:=0) rfl
 have x1:=hd1.cell (i:=1) rfl
 have x2:=hd1.cell (i:=2) rfl
 have x3:=hd1.cell (i:=3) rfl
 have x4:=hd1.cell (i:=4) rfl
 clear hW0 hd1 hb0
 go_wp2
 clear x0 x1 x2 x3 x4
 go_loopw [52] (fun a wr=>∃j:Nat,a=.int .i64 (j:Int)/\j<=ns/\(∀s∈sts.take j,utfE s=0)/\Below W0.heap.size W0 wr) (fun a _=>ns-(intOf a).toNat)
 case atStart=>exact⟨0,rfl,Nat.zero_le _,by simp,Below.refl _ _⟩
 case round=>
 obtain⟨j,rfl,hj,hok,hbw⟩:=hrel
 have hszw:=hbw.size
 have HOK:=hid hok
 have HBW:=hid hbw
 by_cases hlt:j<ns
 ·have hltl:j<sts.length:=by rw[←HNS.out];exact hlt
  obtain⟨g,o,rfl,_,hgl,hcell⟩:=(HS.out.ext (below_ext HB0.out hbw)) j hltl
  have hx:=HLS.out _ (List.getElem_mem hltl)
  have hfail:=stE_fail hltl hok
  have hnew:=fun h2=>take_mem_snoc (p:=fun s=>utfE s=0) hltl hok h2
  generalize hxe:sts[j]=x at hcell hx hfail hnew
  have HFL:=hid hfail
  have HNW:=hid hnew
  have hszx:=bs_size x
  have hT2:=U8T_ext HT.out (below_ext HB0.out hbw)
  have HT2:=hid hT2
  clear hok hbw hfail hnew hxe hT2
  obtain⟨U,hU⟩:∃U,U=utfE x:=⟨_,rfl⟩
  rw[←hU]at HFL HNW
  have HU:Hid (Calls Tryz.prog 93 #[.string (bs x)] wr fun e' w2=>e'=.returned (.int .i64 U)/\Below wr.heap.size wr w2):=hid (by rw[hU];exact utf_any x wr (by omega) HT2.out)
  clear hU
  go_wp2_with fail
  go_at_call 93
  refine HU.out.mono ?_
  rintro e' w1 ⟨rfl,hb1⟩
  have HB1:=hid (below_ext HBW.out hb1)
  have hsz1:=hb1.size
  clear hb1 hcell
  by_cases hu:U=0
  case neg=>
   have hub:(U !=0)=true:=by rw[bne_iff_ne];exact hu
   have HP3:Hid (P=([],U)):=hid (by rw[HP2.out,HFL.out hu,if_pos hu])
   clear hu
   go_wp2
   go_ret2
   rw[HP3.out]
   exact⟨none,0,rfl,⟨by simp,by unfold maxLen;omega⟩,fun i hi=>by simp at hi,below_ext HB0.out HB1.out⟩
  subst hu
  have HN2:=hid (HNW.out rfl)
  go_wp2
  go_roundw
  case rel=>exact⟨j+1,by go_num,hlt,HN2.out,HB1.out⟩
  case measure=>simp[intOf];omega
 obtain rfl:j=ns:=by omega
 have hall:sts.take j=sts:=by rw[HNS.out,List.take_length]
 rw[hall]at hok
 have HP3:Hid (P=textsP revs):=hid (by rw[HP2.out,stE_of hok,if_neg (by simp)])
 have hbw0:=below_ext HB0.out hbw
 have HBA:=hid hbw0
 have hszA:=hbw0.size
 have hd1:=HD.out.ext hbw
 have hlt1:=hd1.lt
 have x0:=hd1.cell (i:=0) rfl
 have x1:=hd1.cell (i:=1) rfl
 have x2:=hd1.cell (i:=2) rfl
 have x3:=hd1.cell (i:=3) rfl
 have x4:=hd1.cell (i:=4) rfl
 have HT2:=hid (U8T_ext HT.out hbw0)
 have HR2:=hid (HR.out.ext relR hbw0)
 clear hok hall hbw hbw0 hd1 HS HLS HP2 HOK HNS HBW HR HT
 rename World=>wa
 go_wp2
 clear x0 x1 x2 x3 x4
 go_loopw [7,65] (fun a b wr=>∃i:Nat,b=.int .i64 (i:Int)/\i<=nr/\(∀r∈revs.take i,(revT r).2=0)/\wr.ownsRow wa.heap.size 9 1 a i (txV (revs.take i))/\Below wa.heap.size wa wr) (fun _ b _=>nr-(intOf b).toNat)
 case atStart=>exact⟨0,rfl,Nat.zero_le _,by simp,⟨rfl,Or.inl ⟨rfl,rfl⟩⟩,Below.refl _ _⟩
 case round=>
 obtain⟨i,rfl,hi,hok,hown,hbw⟩:=hrel
 have hszw:=hbw.size
 have HOK:=hid hok
 have HO:=hid hown
 have HBW:=hid hbw
 by_cases hlt:i<nr
 ·have hltl:i<revs.length:=by rw[←HNR.out];exact hlt
  obtain⟨g,o,cs,rfl,hcells,hrev⟩:=(HR2.out.ext relR hbw) i hltl
  have hx:=HK.out _ (List.getElem_mem hltl)
  have htk:=take_snoc hltl
  have hfail:=texts_fail hltl hok
  have hnew:=fun h2=>take_mem_snoc (p:=fun r=>(revT r).2=0) hltl hok h2
  generalize hxe:revs[i]=r at hcells hrev hx htk hfail hnew
  have HTK:=hid htk
  have HFL:=hid hfail
  have HNW:=hid hnew
  obtain⟨q,hq⟩:∃q,q=(revT r).2:=⟨_,rfl⟩
  obtain⟨x,hxx⟩:∃x,x=(revT r).1:=⟨_,rfl⟩
  have HQ:=hid hq
  have HX:=hid hxx
  have HCT:Hid (∀w',Below wr.heap.size wr w'->Calls Tryz.prog 24 #[.agg cs.toArray] w' fun e' w2=>e'=.returned (.tuple #[.string (bs x),.int .i64 q])/\Below w'.heap.size w' w2):=hid (fun w' hb=>by
   rw[hq,hxx]
   exact revText_any r S cs w' (relR.kept hrev (fun _ h=>h) (fun b _ hlt=>hb.block b hlt)) (U8T_ext (U8T_ext HT2.out HBW.out) hb) hx.len)
  clear hok hown hbw hx htk hfail hnew hxe hq hxx
  obtain⟨rk,rt,rd,rn,rv⟩:=r
  obtain⟨cs',rfl,hbd,hv⟩:=hrev
  obtain⟨vk,vb,vn,vs,vl,vf⟩:=rv
  obtain⟨pl,cl,pf,cf,rfl,_⟩:=hasVal_mk.1 hv
  obtain⟨e0,e1,e2,e3,e4,e5,e6,e7,e8,e9⟩:=hcells.ten
  have hgr:=hcells.2.1
  clear hcells hv hbd
  go_wp2_with fail
  go_at_call 24
  refine(HCT.out _ ((Below.refl _ _).alloc (Nat.le_refl _) _)).mono ?_
  rintro e' w1 ⟨rfl,hb1⟩
  have hb2:=below_ext ((Below.refl wr.heap.size wr).alloc (Nat.le_refl _) _) hb1
  have HB2:=hid (below_ext HBW.out hb2)
  have hsz1:=hb2.size
  have hO1:=own_ext HO.out hb2
  have HO1:=hid hO1
  clear e0 e1 e2 e3 e4 e5 e6 e7 e8 e9 hb1 hb2 hO1 HO HBW
  by_cases hq0:q=0
  case neg=>
   have hqb:(q !=0)=true:=by rw[bne_iff_ne];exact hq0
   have HP:Hid (P=([],q)):=hid (by rw[HP3.out,HQ.out];exact HFL.out (by rw[←HQ.out];exact hq0))
   clear hq0
   go_wp2
   go_ret2
   rw[HP.out]
   exact⟨none,0,rfl,⟨by simp,by unfold maxLen;omega⟩,fun i hi=>by simp at hi,HBA.out.trans (HB2.out.mono hszA)⟩
  subst hq0
  go_wp2_with(at_builtin;refine push_one wa.heap.size rfl _ _ 25 9 (.string ⟨#[]⟩) 16 rfl Tryz.underlying25 (by kernel_rfl) rfl (by decide) _ (txV (revs.take i)) (by rw[txV_len,List.length_take,Nat.min_eq_left (by omega)];exact HO1.out) (.string (bs x)) rfl rfl rfl (by omega) (by rw[txV_len,List.length_take];omega) ?_)
  intro v1 w3 hown3 hg3
  have hown4:w3.ownsRow wa.heap.size 9 1 v1 (i+1) (txV (revs.take (i+1))):=by
   rw[txV_len,List.length_take,Nat.min_eq_left (by omega)]at hown3
   rw[HTK.out]
   unfold txV at hown3⊢
   rw[List.map_append,List.map_cons,List.map_nil,←HX.out]
   exact hown3
  have hb3:=below_grown HB2.out hg3 (by omega) (fun k hk=>(HO1.out.lt k hk).1)
  have HB3:=hid hb3
  have HO3:=hid hown4
  have HN2:=hid (HNW.out HQ.out.symm)
  clear hown3 hg3 hown4 hb3
  go_wp2
  go_roundw
  case rel=>exact⟨i+1,by go_num,hlt,HN2.out,HO3.out,HB3.out⟩
  case measure=>simp[intOf];omega
 obtain rfl:i=nr:=by omega
 have hall:revs.take i=revs:=by rw[HNR.out,List.take_length]
 rw[hall]at hok hown
 rw[HNR.out]at hown
 obtain⟨p1,c1,rfl,hc1,hs1⟩:=texts_has hown hok
 have H0:Hid ((textsP revs).2=0):=hid (by rw[texts_of hok])
 have HS1:=hid hs1
 clear hok hown hbw hall hs1 HOK HO
 go_wp2
 go_ret2
 rw[HP3.out]
 exact⟨p1,c1,by rw[H0.out];rfl,hc1,HS1.out.ext_to (fun b hb=>Nat.le_trans hszA hb) (fun _ _ _=>rfl),HBA.out.trans (HBW.out.mono hszA)⟩
set_option maxHeartbeats 8000000 in
theorem rparts_any (b:DBlk) (S:Nat->Prop) (cs:List Value) (w:World) (hb:HasBlk S w b cs) (hk:∀r∈b.revs,okR r) (hT:U8T w):
 Calls Tryz.prog 72 #[.agg cs.toArray] w (fun e' w'=>e'=.returned (.int .i64 (partsP b).2)/\Below w.heap.size w w'):=by
 obtain⟨P,hP⟩:∃P,P=partsP b:=⟨_,rfl⟩
 rw[←hP]
 obtain⟨seq,prev,root,sts,revs⟩:=b
 obtain⟨ps,cp,pr,cr,rfl,hbd,hS,hR⟩:=hb
 have hP2:P=if seq<1\/4611686018427387904<seq then([],2)else if prev.length≠32\/root.length≠32 then([],4)else if 64<sts.length\/revs.length<1\/64<revs.length then([],3)else if stE sts≠0 then([],stE sts)else textsP revs:=by
  rw[hP]
  unfold partsP partsE
  simp only
  repeat' split
  all_goals first|rfl|(exfalso;simp_all;done)|simp_all
 have HS:=hid hS
 have HR:=hid hR
 have HK:=hid hk
 have HT:=hid hT
 have hp1:seq<18446744073709551616:=hbd.1
 have hp2:prev.length<=1073741824:=hbd.2.1
 have hp3:root.length<=1073741824:=hbd.2.2.1
 have hp4:sts.length<=1073741824:=hbd.2.2.2.1
 have hp5:revs.length<=1073741824:=hbd.2.2.2.2.1
 have HLS:Hid (∀s∈sts,s.length<=1073741824):=hid hbd.2.2.2.2.2.2.2.2.2
 clear hS hR hk hT hbd hP
 have hz1:=bs_size prev
 have hz2:=bs_size root
 obtain⟨ns,hns⟩:∃ns,ns=sts.length:=⟨_,rfl⟩
 obtain⟨nr,hnr⟩:∃nr,nr=revs.length:=⟨_,rfl⟩
 obtain⟨np,hnp⟩:∃np,np=prev.length:=⟨_,rfl⟩
 obtain⟨nt,hnt⟩:∃nt,nt=root.length:=⟨_,rfl⟩
 rw[←hns,←hnr,←hnp,←hnt]at hP2
 rw[←hnp]at hz1 hp2
 rw[←hnt]at hz2 hp3
 rw[←hns]at hp4
 rw[←hnr]at hp5
 have HP:=hid hP2
 have HNS:=hid hns
 have HNR:=hid hnr
 clear hP2 hnp hnt
 show Calls Tryz.prog 72 #[.agg #[.int .u64 (seq:Int),.string (bs prev),.string (bs root),.slice ps sts.length cp,.slice pr revs.length cr]] w _
 rw[←hns,←hnr]
 clear hns hnr
 by_cases hc:seq<1
 ·have HP2:Hid (P=([],2)):=hid (by rw[HP.out];rw[if_pos (.inl hc)])
  have hI:(seq:Int)<1:=by omega
  clear HP hc
  go_enter Tryz.func72,Tryz.ntmps72
  go_wp2
  go_ret
  exact⟨by rw[HP2.out];rfl,(Below.refl _ _).alloc (Nat.le_refl _) _⟩
 have hn0: ¬(seq<1):=hc
 clear hc
 by_cases hc:4611686018427387904<seq
 ·have HP2:Hid (P=([],2)):=hid (by rw[HP.out];rw[if_pos (.inr hc)])
  have hI:(4611686018427387904:Int)<(seq:Int):=by omega
  have hI0:(1:Int)<=(seq:Int):=by omega
  clear HP hc
  go_enter Tryz.func72,Tryz.ntmps72
  go_wp2
  go_ret
  exact⟨by rw[HP2.out];rfl,(Below.refl _ _).alloc (Nat.le_refl _) _⟩
 have hn1: ¬(4611686018427387904<seq):=hc
 clear hc
 by_cases hc:np≠32
 ·have HP2:Hid (P=([],4)):=hid (by rw[HP.out];rw[if_neg (by omega),if_pos (.inl hc)])
  have hI:((np:Int) !=32)=true:=by rw[bne_iff_ne];omega
  have hI0:(1:Int)<=(seq:Int):=by omega
  have hI1:(seq:Int)<=4611686018427387904:=by omega
  clear HP hc
  go_enter Tryz.func72,Tryz.ntmps72
  go_wp2
  go_ret
  exact⟨by rw[HP2.out];rfl,(Below.refl _ _).alloc (Nat.le_refl _) _⟩
 have hn2: ¬(np≠32):=hc
 clear hc
 by_cases hc:nt≠32
 ·have HP2:Hid (P=([],4)):=hid (by rw[HP.out];rw[if_neg (by omega),if_pos (.inr hc)])
  have hI:((nt:Int) !=32)=true:=by rw[bne_iff_ne];omega
  have hJ:((np:Int) !=32)=false:=by rw[bne_eq_false_iff_eq];omega
  have hI0:(1:Int)<=(seq:Int):=by omega
  have hI1:(seq:Int)<=4611686018427387904:=by omega
  clear HP hc
  go_enter Tryz.func72,Tryz.ntmps72
  go_wp2
  go_ret
  exact⟨by rw[HP2.out];rfl,(Below.refl _ _).alloc (Nat.le_refl _) _⟩
 have hn3: ¬(nt≠32):=hc
 clear hc
 by_cases hc:64<ns
 ·have HP2:Hid (P=([],3)):=hid (by rw[HP.out];rw[if_neg (by omega),if_neg (by omega),if_pos (.inl hc)])
  have hI:(64:Int)<(ns:Int):=by omega
  have hJ:((np:Int) !=32)=false:=by rw[bne_eq_false_iff_eq];omega
  have hJ2:((nt:Int) !=32)=false:=by rw[bne_eq_false_iff_eq];omega
  have hI0:(1:Int)<=(seq:Int):=by omega
  have hI1:(seq:Int)<=4611686018427387904:=by omega
  clear HP hc
  go_enter Tryz.func72,Tryz.ntmps72
  go_wp2
  go_ret
  exact⟨by rw[HP2.out];rfl,(Below.refl _ _).alloc (Nat.le_refl _) _⟩
 have hn4: ¬(64<ns):=hc
 clear hc
 by_cases hc:nr<1
 ·have HP2:Hid (P=([],3)):=hid (by rw[HP.out];rw[if_neg (by omega),if_neg (by omega),if_pos (.inr (.inl hc))])
  have hI:(nr:Int)<1:=by omega
  have hI2:(ns:Int)<=64:=by omega
  have hJ:((np:Int) !=32)=false:=by rw[bne_eq_false_iff_eq];omega
  have hJ2:((nt:Int) !=32)=false:=by rw[bne_eq_false_iff_eq];omega
  have hI0:(1:Int)<=(seq:Int):=by omega
  have hI1:(seq:Int)<=4611686018427387904:=by omega
  clear HP hc
  go_enter Tryz.func72,Tryz.ntmps72
  go_wp2
  go_ret
  exact⟨by rw[HP2.out];rfl,(Below.refl _ _).alloc (Nat.le_refl _) _⟩
 have hn5: ¬(nr<1):=hc
 clear hc
 by_cases hc:64<nr
 ·have HP2:Hid (P=([],3)):=hid (by rw[HP.out];rw[if_neg (by omega),if_neg (by omega),if_pos (.inr (.inr hc))])
  have hI:(64:Int)<(nr:Int):=by omega
  have hI2:(ns:Int)<=64:=by omega
  have hI3:(1:Int)<=(nr:Int):=by omega
  have hJ:((np:Int) !=32)=false:=by rw[bne_eq_false_iff_eq];omega
  have hJ2:((nt:Int) !=32)=false:=by rw[bne_eq_false_iff_eq];omega
  have hI0:(1:Int)<=(seq:Int):=by omega
  have hI1:(seq:Int)<=4611686018427387904:=by omega
  clear HP hc
  go_enter Tryz.func72,Tryz.ntmps72
  go_wp2
  go_ret
  exact⟨by rw[HP2.out];rfl,(Below.refl _ _).alloc (Nat.le_refl _) _⟩
 have hn6: ¬(64<nr):=hc
 clear hc
 have HP2:Hid (P=if stE sts≠0 then([],stE sts)else textsP revs):=hid (by rw[HP.out,if_neg (by omega),if_neg (by omega),if_neg (by omega)])
 have hI:(ns:Int)<=64:=by omega
 have hI2:(nr:Int)<=64:=by omega
 have hI3:(1:Int)<=(nr:Int):=by omega
 have hJ:((np:Int) !=32)=false:=by rw[bne_eq_false_iff_eq];omega
 have hJ2:((nt:Int) !=32)=false:=by rw[bne_eq_false_iff_eq];omega
 have hI0:(1:Int)<=(seq:Int):=by omega
 have hI1:(seq:Int)<=4611686018427387904:=by omega
 clear HP hn0 hn1 hn2 hn3 hn4 hn5 hn6
 go_enter Tryz.func72,Tryz.ntmps72
 go_upto_region 7 with(fail)
 clear hI hI2 hI3 hJ hJ2 hI0 hI1
 generalize hW0:World.alloc w _=W0
 have hb0:Below w.heap.size w W0:=by rw[←hW0];exact(Below.refl _ _).alloc (Nat.le_refl _) _
 have hd1:IsBlk W0 w.heap.size #[.int .u64 (seq:Int),.string (bs prev),.string (bs root),.slice ps ns cp,.slice pr nr cr] 28:=by rw[←hW0];exact IsBlk.new _ _ _
 have HB0:=hid hb0
 have HD:=hid hd1
 have hlt0:=hd1.lt
 have x0:=hd1.cell (i:=0) rfl
 have x1:=hd1.cell (i:=1) rfl
 have x2:=hd1.cell (i:=2) rfl
 have x3:=hd1.cell (i:=3) rfl
 have x4:=hd1.cell (i:=4) rfl
 clear hW0 hd1 hb0
 go_wp2
 clear x0 x1 x2 x3 x4
 go_loopw [44] (fun a wr=>∃j:Nat,a=.int .i64 (j:Int)/\j<=ns/\(∀s∈sts.take j,utfE s=0)/\Below W0.heap.size W0 wr) (fun a _=>ns-(intOf a).toNat)
 case atStart=>exact⟨0,rfl,Nat.zero_le _,by simp,Below.refl _ _⟩
 case round=>
 obtain⟨j,rfl,hj,hok,hbw⟩:=hrel
 have hszw:=hbw.size
 have HOK:=hid hok
 have HBW:=hid hbw
 by_cases hlt:j<ns
 ·have hltl:j<sts.length:=by rw[←HNS.out];exact hlt
  obtain⟨g,o,rfl,_,hgl,hcell⟩:=(HS.out.ext (below_ext HB0.out hbw)) j hltl
  have hx:=HLS.out _ (List.getElem_mem hltl)
  have hfail:=stE_fail hltl hok
  have hnew:=fun h2=>take_mem_snoc (p:=fun s=>utfE s=0) hltl hok h2
  generalize hxe:sts[j]=x at hcell hx hfail hnew
  have HFL:=hid hfail
  have HNW:=hid hnew
  have hszx:=bs_size x
  have hT2:=U8T_ext HT.out (below_ext HB0.out hbw)
  have HT2:=hid hT2
  clear hok hbw hfail hnew hxe hT2
  by_cases hl:1024<x.length
  ·have hlI:(1024:Int)<(x.length:Int):=by omega
   have HU:Hid (utfE x=4):=hid (by unfold utfE;rw[if_pos hl])
   have HP3:Hid (P=([],4)):=hid (by rw[HP2.out,HFL.out (by rw[HU.out];decide),HU.out,if_pos (by decide)])
   clear hl
   go_wp2
   go_ret
   exact⟨by rw[HP3.out];rfl,below_ext HB0.out HBW.out⟩
  have hlI:(x.length:Int)<=1024:=by omega
  obtain⟨V,hV⟩:∃V,V=Lib.validD x:=⟨_,rfl⟩
  have HU:Hid (utfE x=if V=true then 0 else 9):=hid (by unfold utfE;rw[if_neg hl,hV])
  have HUT:Hid (Calls Tryz.prog 103 #[.string (bs x)] wr fun e' w2=>e'=.returned (.bool V)/\Below wr.heap.size wr w2):=hid (by rw[hV];exact ref_utf_any x wr (by omega))
  clear hl hV
  go_wp2_with fail
  go_at_call 103
  refine HUT.out.mono ?_
  rintro e' w1 ⟨rfl,hb1⟩
  have HB1:=hid (below_ext HBW.out hb1)
  have hsz1:=hb1.size
  clear hb1 hcell
  by_cases hu:V=true
  case neg=>
   obtain rfl:V=false:=by simpa using hu
   have HP3:Hid (P=([],9)):=hid (by rw[HP2.out,HFL.out (by rw[HU.out];decide),HU.out];rfl)
   clear hu
   go_wp2
   go_ret
   exact⟨by rw[HP3.out];rfl,below_ext HB0.out HB1.out⟩
  subst hu
  have HN2:=hid (HNW.out (by rw[HU.out];rfl))
  go_wp2
  go_roundw
  case rel=>exact⟨j+1,by go_num,hlt,HN2.out,HB1.out⟩
  case measure=>simp[intOf];omega
 obtain rfl:j=ns:=by omega
 have hall:sts.take j=sts:=by rw[HNS.out,List.take_length]
 rw[hall]at hok
 have HP3:Hid (P=textsP revs):=hid (by rw[HP2.out,stE_of hok,if_neg (by simp)])
 have hbw0:=below_ext HB0.out hbw
 have HBA:=hid hbw0
 have hszA:=hbw0.size
 have hd1:=HD.out.ext hbw
 have hlt1:=hd1.lt
 have x0:=hd1.cell (i:=0) rfl
 have x1:=hd1.cell (i:=1) rfl
 have x2:=hd1.cell (i:=2) rfl
 have x3:=hd1.cell (i:=3) rfl
 have x4:=hd1.cell (i:=4) rfl
 have HT2:=hid (U8T_ext HT.out hbw0)
 have HR2:=hid (HR.out.ext relR hbw0)
 clear hok hall hbw hbw0 hd1 HS HLS HP2 HOK HNS HBW HR HT
 have HTX:Hid (Calls Tryz.prog 73 #[.slice pr nr cr] wr (TextsOut wr P)):=hid (by rw[HP3.out,HNR.out];exact texts_any revs S pr cr wr HR2.out (by rw[←HNR.out];exact hp5) HK.out HT2.out)
 clear HR2 HT2 HK HNR HP3
 go_wp2_with fail
 go_at_call 73
 refine HTX.out.mono ?_
 rintro e' w5 ⟨p5,c5,rfl,_,_,hb5⟩
 have HB5:=hid (HBA.out.trans (hb5.mono hszA))
 clear hb5
 go_wp2
 go_ret
 exact⟨rfl,HB5.out⟩
end Go.Proofs.YtcihbnpckicljaaGreatDoor
