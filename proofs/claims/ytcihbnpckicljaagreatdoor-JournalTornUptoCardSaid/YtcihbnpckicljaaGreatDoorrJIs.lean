/- Blocks that are read or made, with their cells. No conditions. -/
import Derived.Test.YtcihbnpckicljaaGreatDoorrJLives
set_option linter.unusedVariables false
set_option linter.unusedSimpArgs false
namespace Go.Proofs.YtcihbnpckicljaaGreatDoor
open Go Go.RowKit Go.BigFrame
open Go.Lib(hid)
set_option maxRecDepth 100000
theorem hasBlk_wf {S:Nat->Prop} {w:World} {b:DBlk} {cs:List Value} (h:HasBlk S w b cs):wfB b:=by
 obtain⟨ps,cp,pr,cr,_,hbd,_,hr⟩:=h
 refine⟨hbd.1,fun r hm=>?_⟩
 obtain⟨i,hi,rfl⟩:=List.getElem_of_mem hm
 obtain⟨g,o,cs,_,_,⟨cs',_,hb,hv⟩⟩:=hr i hi
 exact⟨hb.1,hb.2.2.1,hb.2.2.2,hv.rng⟩
theorem whole_okv {b:DBlk} (h:(wholeP b).2=0):∀r∈b.revs,(textV r.v).length<=16384:=fun r hr=>by
 obtain⟨_,h2,_⟩:=whole_ok h
 obtain⟨_,h4,_⟩:=revT_ok ((texts_ok h2).1 r hr)
 have h5:=(wrP_ok.1 h4).2
 have h6:(textV r.v).length<=(textL [vInt r.k,vTxt r.t,vInt r.d,vInt r.n,r.v]).length:=textL_mem (by simp)
 have h7:(textV (revV r)).length=((6::(numL 5++textL [vInt r.k,vTxt r.t,vInt r.d,vInt r.n,r.v])):List UInt8).length:=rfl
 rw[h7,List.length_cons,List.length_append]at h5
 omega
theorem short_is {b:DBlk} (h:(wholeP b).2=0):shortP b=(⟨b.seq,b.prev,b.root,b.revs.length,stsT b.sts⟩,0):=by
 unfold shortP
 rw[if_neg (by simp[h])]
theorem chain_drop {c:Nat} {prev:List UInt8} {l:List DBlk} {j:Nat} (hj:j<l.length) (h:Chain c prev (l.drop j)):(wholeP l[j]).2=0/\wfB l[j]/\l[j].seq=c+1/\l[j].prev=prev/\Chain (c+1) (digP (shortP l[j]).1) (l.drop (j+1)):=by
 rw[List.drop_eq_getElem_cons hj]at h
 exact h
def BlkIs (w:World) (b:DBlk) (q:Int) (e':Ending) (w':World):Prop:=∃ps cp pr cr,e'=.returned (.tuple #[.agg #[.int .u64 (b.seq:Int),.string (bs b.prev),.string (bs b.root),.slice ps b.sts.length cp,.slice pr b.revs.length cr],.int .i64 q])∧
 HasBlk (fun x=>w.heap.size<=x) w' b [.int .u64 (b.seq:Int),.string (bs b.prev),.string (bs b.root),.slice ps b.sts.length cp,.slice pr b.revs.length cr]/\Below w.heap.size w w'
theorem BlkOut.is {w:World} {r:DBlk×Int} {e':Ending} {w':World} (h:BlkOut w r e' w'):BlkIs w r.1 r.2 e' w':=by
 obtain⟨cs,rfl,hb,hw⟩:=h
 have hb':=hb
 obtain⟨ps,cp,pr,cr,rfl,_⟩:=hb'
 exact⟨ps,cp,pr,cr,rfl,hb,hw⟩
end Go.Proofs.YtcihbnpckicljaaGreatDoor
