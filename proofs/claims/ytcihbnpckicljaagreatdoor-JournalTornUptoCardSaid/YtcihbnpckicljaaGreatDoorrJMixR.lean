/- Regions that draw their order within a round of a range over a function. No conditions. -/
import Derived.Test.YtcihbnpckicljaaGreatDoorrJRScan
import Derived.RangeFuncNested
import Derived.RangeFuncBound
import Derived.RangeFuncCalls
import Derived.RangeFuncLeaves
import Derived.Shelf.Abstract
import Derived.Shelf.RegionOpen
import Derived.WalkKit
import Derived.OwnWalkIn
import Derived.TacticsInMore
import Derived.LoopNIn
import Derived.LoopIn
set_option linter.unusedVariables false
set_option linter.unusedSimpArgs false
namespace Go.Proofs.YtcihbnpckicljaaGreatDoor
open Go Go.RowKit Go.BigFrame Go.Shelf
open Go.Lib(hid)
set_option maxRecDepth 100000
section
variable {P:Program} {ops:Array Oper} {Q:Exit->Act->World->Prop}
theorem upon_in {l n:Nat} {o:Oper} {a:Act} {w:World} {K:Act->World->Prop} (hnd:∀c,o.op≠ .defer c) (h:o.wp P a w K Q):o.wpIn (Fence.wide.inRound l) n P a w K Q:=by
 unfold Oper.wpIn
 refine⟨fun _ _=>trivial,?_⟩
 have e:o.semAt (Fence.wide.inRound l).round a.eval=execOp a.eval o:=Oper.semAt_some l a.eval o hnd
 rw[e]
 unfold Oper.wp at h
 generalize(execOp a.eval o).run P w=r at h⊢
 cases r with
 |ok x w'=>
  cases x<;>simp only[Oper.upon,Oper.uponIn]at h⊢ <;>
   first
    |exact h
    |exact⟨fun k=>by simp[Fence.inRound,Fence.wide]at k,CallsIn.inRound l (callsIn_wide.2 h)⟩
    |exact⟨fun k=>by simp[Fence.inRound,Fence.wide]at k,fun c cs _=>let⟨v,w2,q,s⟩:=h c cs;⟨v,w2,q,stepsIn_wide.2 s⟩⟩
 |halt x w'=>cases x<;>simp only[Oper.upon,Oper.uponIn]at h⊢ <;>exact h
theorem wpOpIn_of {l n i:Nat} {a:Act} {w:World} {K:Act->World->Prop} (hnd:∀(i:Nat) (o:Oper),ops[i]?=some o->∀c,o.op≠ .defer c) (hlo: ¬LetsOut Q) (h:wpOp P ops Q i K a w):wpOpIn (Fence.wide.inRound l) n P ops Q i K a w:=by
 unfold wpOp at h
 unfold wpOpIn
 cases ho:ops[i]? with
 |none=>simpa[ho]using h
 |some o=>
  simp only[ho]at h⊢
  split
  ·rename_i hw
   rw[if_pos hw]at h
   rcases h with h|⟨_,h⟩
   ·exact upon_in (hnd i o ho) h
   ·exact absurd h hlo
  ·rename_i hw
   rw[if_neg hw]at h
   exact⟨fun _ _=>trivial,h⟩
theorem wpAnyIn_of {l n:Nat} (hnd:∀(i:Nat) (o:Oper),ops[i]?=some o->∀c,o.op≠ .defer c) (hlo: ¬LetsOut Q):∀(fuel:Nat) (listed:Array Bool) (a:Act) (w:World),wpAny P .any ops Q fuel listed a w->wpAnyIn (Fence.wide.inRound l) n P .any ops Q fuel listed a w
 |0,_,_,_,h=>h
 |fuel+1,_,_,_,h=>⟨h.1,fun i hi=>wpOpIn_mono (fun a' w' hk=>wpAnyIn_of hnd hlo fuel _ a' w' hk) (wpOpIn_of hnd hlo (h.2 i hi))⟩
def noDefer (ops:Array Oper):Bool:=ops.toList.all fun o=>match o.op with| .defer _=>false|_=>true
theorem noDefer_ok (h:noDefer ops=true):∀(i:Nat) (o:Oper),ops[i]?=some o->∀c,o.op≠ .defer c:=by
 intro i o ho c hc
 unfold noDefer at h
 rw[List.all_eq_true]at h
 have h1:=h o (by
  obtain⟨hi,rfl⟩:=Array.getElem?_eq_some_iff.1 ho
  exact Array.mem_toList_iff.2 (Array.getElem_mem hi))
 rw[hc]at h1
 cases h1
theorem mixR_start {C:World->Prop} {id l n:Nat} {a:Act} {w:World} (T:List Nat) (C:World->Prop) (hm:P.follows .mixedOrders=true) (hd:noDefer ops=true) (hlo: ¬LetsOut Q) (hC:C {w with drawn:=w.drawn+1})
 (h:C {w with drawn:=w.drawn+1}->mixB P ops T C Q ops.size (Array.replicate ops.size false) a {w with drawn:=w.drawn+1}):(Code.region id ops true).wpIn (Fence.wide.inRound l) n P Q a w:=
 wpIn_region_any hm (wpAnyIn_of (noDefer_ok hd) hlo _ _ _ _ (wpAny_of_anyM _ _ _ _ (h hC)))
end
end Go.Proofs.YtcihbnpckicljaaGreatDoor
