/- What lies in memory lies in blocks of cells: it stays where blocks that are none are turned. No conditions. -/
import Derived.Test.YtcihbnpckicljaaGreatDoorrJRScan
import Derived.RangeFuncOwn
set_option linter.unusedVariables false
set_option linter.unusedSimpArgs false
namespace Go.Proofs.YtcihbnpckicljaaGreatDoor
open Go Go.RowKit Go.BigFrame
open Go.Lib(hid)
set_option maxRecDepth 100000
def IsC (w:World) (b:Nat):Prop:=∃o:Obj,w.heap[b]?=some o/\o.isCells=true
theorem cellsAt_c {S:Nat->Prop} {w:World} {g o:Nat} {cs:List Value} (h:CellsAt S w g o cs) (hl:0<cs.length):IsC w g:=by
 have h0:=h.2.2 0 hl
 rw[List.getElem?_eq_getElem hl]at h0
 exact cells_of_cell h0
theorem hasVal_c :∀(m:Nat) (v:DVal) (S:Nat->Prop) (w:World) (cs:List Value),SizeOf.sizeOf v<m->HasVal S w v cs->HasVal (fun b=>S b/\IsC w b) w v cs:=by
 intro m
 induction m with
 |zero=>intro v S w cs h;omega
 |succ m ih=>
  intro v S w cs hm h
  obtain⟨k,b,n,s,l,f⟩:=v
  obtain⟨pl,cl,pf,cf,rfl,hb,hl,hf⟩:=hasVal_mk.1 h
  refine hasVal_mk.2 ⟨pl,cl,pf,cf,rfl,hb,?_,?_⟩
  ·intro i hi
   obtain⟨g,o,cs,h1,h2,h3⟩:=hl i hi
   have hz:=DVal.size_l (k:=k) (b:=b) (n:=n) (s:=s) (f:=f) l[i] (List.getElem_mem _)
   exact⟨g,o,cs,h1,⟨⟨h2.1,cellsAt_c h2 (by rw[h3.len];omega)⟩,h2.2⟩,ih _ _ _ _ (by omega) h3⟩
  ·intro i hi
   obtain⟨g,o,cs,h1,h2,h3⟩:=hf i hi
   have hz:=DVal.size_f (k:=k) (b:=b) (n:=n) (s:=s) (l:=l) f[i] (List.getElem_mem _)
   exact⟨g,o,cs,h1,⟨h2.1,⟨h2.2.1,cellsAt_c h2.2 (by simp)⟩,h2.2.2⟩,ih _ _ _ _ (by omega) h3⟩
theorem hasRev_c {S:Nat->Prop} {w:World} {r:DRev} {cs:List Value} (h:HasRev S w r cs):HasRev (fun b=>S b/\IsC w b) w r cs:=by
 obtain⟨c,h1,h2,h3⟩:=h
 exact⟨c,h1,h2,hasVal_c _ _ _ _ _ (Nat.lt_succ_self _) h3⟩
theorem hasBlk_c {S:Nat->Prop} {w:World} {b:DBlk} {cs:List Value} (h:HasBlk S w b cs):HasBlk (fun b=>S b/\IsC w b) w b cs:=by
 obtain⟨ps,cp,pr,cr,h0,hbd,h1,h2⟩:=h
 refine⟨ps,cp,pr,cr,h0,hbd,fun i hi=>?_,fun i hi=>?_⟩
 ·obtain⟨g,o,e1,e2,e3,e4⟩:=h1 i hi
  exact⟨g,o,e1,⟨e2,cells_of_cell e4⟩,e3,e4⟩
 ·obtain⟨g,o,cs,e1,e2,e3⟩:=h2 i hi
  exact⟨g,o,cs,e1,⟨⟨e2.1,cellsAt_c e2 (by rw[relR.len e3];omega)⟩,e2.2⟩,hasRev_c e3⟩
theorem blk_turned {w w':World} {g:Nat} {cs:Array Value} {t:TypeId} {row:Option Nat} (h:IsBlk w g cs t) (hg:w.grownBy w' row) (hrow:∀r,row=some r->∃o:Obj,w.heap[r]?=some o/\o.isCells=false):IsBlk w' g cs t:=
 (grownBy_keeps_cells hg hrow h rfl).trans h
theorem accB_turned {w w':World} {B:Nat} {e:TypeId} {v:Value} {vs:List DBlk} {row:Option Nat} (h:Acc HasBlk B e 5 w v vs) (hg:w.grownBy w' row) (hrow:∀r,row=some r->∃o:Obj,w.heap[r]?=some o/\o.isCells=false):Acc HasBlk B e 5 w' v vs:=by
 obtain⟨css,h1,h2,h3⟩:=h
 refine⟨css,h1.kept hg ?_,h2,fun i hi hi'=>?_⟩
 ·rcases h1.2 with⟨rfl,_⟩|⟨g,cap,cur,rfl,_,hc,_⟩
  ·exact .inl rfl
  ·refine .inr (fun e'=>?_)
   obtain⟨o,ho,hn⟩:=hrow g e'.symm
   rw[hc]at ho
   obtain rfl:=Option.some.inj ho
   cases hn
 ·exact(hasBlk_c (h3 i hi hi')).kept (fun b hb=>hb.1) (fun b hb _=>by
   obtain⟨o,ho,hc⟩:=hb.2
   exact grownBy_keeps_cells hg hrow ho hc)
end Go.Proofs.YtcihbnpckicljaaGreatDoor
