/- append of a row of texts, wherever it lies, to a row that the call owns. Conditions: the rows' bytes fit. -/
import Derived.Test.YtcihbnpckicljaaGreatDoorrGA
import Derived.Laws.AppendOwnNone
set_option linter.unusedVariables false
set_option linter.unusedSimpArgs false
namespace Go.Proofs.YtcihbnpckicljaaGreatDoor
open Go Go.RowKit
open Go.Lib(hid)
section
variable {ops:Array Oper} {rest:List Oper} {o:Oper} {a:Act} {Q:Exit->Act->World->Prop}
theorem push_texts {W:World} (base:Nat) (hgd:o.guard=none) (s x:Operand) (ho:o.op=.call {callee:=.builtin .append,args:= #[s,x],argTypes:= #[25,25]})
 (v:Value) (l:List (List UInt8)) (HO:W.ownsRow base 9 1 v l.length (l.map fun s=>Value.string (bs s))) (S:Nat->Prop) (p:Option Addr) (c:Nat) (m:List (List UInt8)) (hS:HasS S W p m) (hnone:p=none->c=0) (hs:a.eval s=v) (hx:a.eval x=.slice p m.length c)
 (hbase:base<=W.heap.size) (hl:(l.length+m.length)*16<=140737488355328)
 (h:∀v1 w1,w1.ownsRow base 9 1 v1 (l++m).length ((l++m).map fun s=>Value.string (bs s))->W.grownBy w1 v.ownBlock->wpList Tryz.prog ops Q rest (a.put o.dst v1) w1):
 wpList Tryz.prog ops Q (o::rest) a W:=by
 have hinfo:(Tryz.prog.info? 9).map (fun i=>(i.zero,i.size,i.bytes))=some (some (.string (bs [])),1,16):=by kernel_rfl
 obtain⟨i0,hi,hzz⟩:=Option.map_eq_some_iff.1 hinfo
 simp only[Prod.mk.injEq]at hzz
 obtain⟨hz0,hz1,hz2⟩:=hzz
 cases p with
 |none=>
  have hm0:m=[]:=by
   cases m with
   |nil=>rfl
   |cons t m=>obtain⟨_,_,h,_⟩:=hS 0 (by simp);cases h
  subst hm0
  rw[hnone rfl]at hx
  refine wpList_append_own_none hgd s x 25 ho base 9 i0 1 Tryz.underlying25 hi v l.length _ hs HO hx ?_
  refine h v W ?_ ⟨rfl,rfl,rfl,Nat.le_refl _,fun _ _ _=>rfl⟩
  rw[List.append_nil]
  exact HO
 |some ad=>
 refine wpList_append_own W hgd s x 25 ho base 9 i0 (.string (bs [])) 1 16 Tryz.underlying25 hi hz0 hz1 hz2 rfl (by omega) v l.length _ hs HO ad m.length c (m.map fun s=>Value.string (bs s)) hx (by simp) ?_ ?_ (by simp only[maxLen];omega) hl hbase ?_
 ·intro j u hj
  rw[List.getElem?_map]at hj
  obtain⟨t,ht,rfl⟩:=Option.map_eq_some_iff.1 hj
  obtain⟨hj1,ht1⟩:=List.getElem?_eq_some_iff.1 ht
  obtain⟨g2,o2,q1,_,_,q4⟩:=hS j hj1
  obtain rfl:=Option.some.inj q1
  have he:(⟨g2,o2,none⟩:Addr).add j=⟨g2,o2+j,none⟩:=by unfold Addr.add;split<;>simp_all
  rw[he,q4,ht1]
 ·intro u hu
  obtain⟨t,_,rfl⟩:=List.mem_map.1 hu
  simp[Value.oneCell']
 ·intro v1 w1 hown hg _
  refine h v1 w1 ?_ hg
  rw[List.length_append,List.map_append]
  exact hown
end
end Go.Proofs.YtcihbnpckicljaaGreatDoor
