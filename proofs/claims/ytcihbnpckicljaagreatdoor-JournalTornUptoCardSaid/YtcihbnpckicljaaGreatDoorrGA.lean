/- Regions that draw their order: whatever order is drawn, one walk serves. Conditions: a Bool over the operations, checked by the kernel. Regions that draw their order, at a world that is known outright: floating operations, operations that come alone, several that come in any order, a tail. No conditions. Words for worlds: a class of worlds that grew out of one; blocks that are known whole. No conditions. Rows of bytes that a call owns; their conversion into a string. No conditions. Rows that a call owns: append, conversion. No conditions. append of what a block holds; what an own row holds, cell for cell. No conditions. Texts as lists of bytes: parts, comparisons. No conditions. Rows of texts in memory (as in MkA, for the seats without merkle). No conditions. Values as a plain type; what memory says of one. No conditions. Rows of structs that a call owns: what each part is, and append of one more. No conditions. Rows of structs in memory: their cells; a part of an own row that is stored anew; slices.Clone of such rows. Conditions: at most 2^30 parts. slices.Insert of one field at the end of a row that the call owns. Conditions: at most 2^30 fields. What every row of this seat wants: the arguments read behind the call as they did; a state opened. No conditions. -/
import Derived.Deep.Quiet
import Derived.Below
import Derived.WalkKit
import Derived.Lib.Hide
import Derived.Test.YtcihbnpckicljaaGreatDoorProg
import Derived.Laws.BytesArg
import Derived.Laws.MakeOwn
import Derived.Laws.OwnMore
import Derived.OwnWalk
import Derived.Maps.AppendAt
import Derived.Laws.Rows
import Derived.Laws.ResultCell
import Derived.Deep.AppendLies
import Derived.WalkSpells
import Derived.BigQuiet
import Derived.BigRegion
import Derived.Laws.IdiomCopy
import Derived.WalkLawsBesides
import Derived.Outline
import Derived.Deep.DeepCutAuto
import Derived.ProofKit
import Derived.OpenShut
import Derived.Carry
set_option linter.unusedVariables false
set_option linter.unusedSimpArgs false
namespace Go.Proofs.YtcihbnpckicljaaGreatDoor
open Go Go.RowKit
open Go.Lib(hid)
section
variable {P:Program} {ops:Array Oper} {T:List Nat} {C:World->Prop} {Q:Exit->Act->World->Prop}
def Calm (Q:Exit->Act->World->Prop):Exit->Act->World->Prop
 | .panic _,_,_=>False
 | .normal,a,w=>Q .normal a w
 | .exit i,a,w=>Q (.exit i) a w
 | .goto i,a,w=>Q (.goto i) a w
 | .ret,a,w=>Q .ret a w
 | .outgrown,a,w=>Q .outgrown a w
theorem Calm.normal {a:Act} {w:World} (h:Q .normal a w):Calm Q .normal a w:=h
theorem Calm.imp :∀(e:Exit) (a:Act) (w:World),Calm Q e a w->Q e a w:=fun e a w h=>by
 cases e<;>first|exact h|exact(h:False).elim
def plainOp :Op->Bool
 | .move _| .assign _| .pick .. | .load .. | .nilCheck _| .binOp .. | .unOp .. | .convert .. | .slice .. | .fieldAddr .. | .field .. | .indexAddr .. | .index .. | .extract .. | .makeInterface .. | .makeFunc .. | .lookup .. =>true
 | .call {callee:=.builtin .len,.. }| .call {callee:=.builtin .cap,.. }| .call {callee:=.builtin .min,.. }| .call {callee:=.builtin .max,.. }=>true
 |_=>false
def AllV (P:Program) (s:Sem Next):Prop:=∀w w' n,s.run P w=.ok n w'->∃v,n=.value v
theorem allV_pure (v:Value):AllV P (pure (.value v)):=fun w w' n h=>by
 have h':Result.ok (Next.value v) w=.ok n w':=h
 injection h' with h1 _
 exact⟨v,h1.symm⟩
theorem allV_bind {α:Type} (x:Sem α) (f:α->Sem Next) (h:∀a,AllV P (f a)):AllV P (x>>=f):=fun w w' n hr=>by
 rw[Sem.run_bind]at hr
 cases hx:x.run P w with
 |ok a w1=>rw[hx]at hr;exact h a w1 w' n hr
 |halt e w1=>rw[hx]at hr;cases hr
theorem allV_v (s:Sem Value):AllV P (do pure (Next.value (←s))):=allV_bind s _ fun a=>allV_pure a
theorem plain_value {o:Oper} (hp:plainOp o.op=true) (ρ:Operand->Value):AllV P (execOp ρ o):=by
 obtain⟨dst,op,type,pos,after,guard⟩:=o
 cases op<;>simp only[plainOp,Bool.false_eq_true]at hp<;>simp only[execOp]
 case move x=>exact allV_pure _
 case assign x=>exact allV_pure _
 case pick c a b=>exact allV_bind _ _ fun x=>by cases x<;>exact allV_pure _
 case nilCheck x=>
  split
  ·exact fun w w' n h=>by cases h
  ·exact fun w w' n h=>by cases h
  ·exact fun w w' n h=>by cases h
  ·split
   ·exact fun w w' n h=>by cases h
   ·refine allV_bind _ _ fun p=>allV_bind _ _ fun q=>?_
    split
    ·exact allV_bind _ _ fun _=>allV_pure _
    ·exact allV_pure _
   ·exact allV_pure _
  ·exact allV_pure _
 case call c=>
  obtain⟨callee,args,argTypes⟩:=c
  cases callee with
  |builtin b=>
   cases b<;>simp only[Bool.false_eq_true]at hp<;>exact allV_v (P:=P) _
  |value f=>simp at hp
  |invoke r m=>simp at hp
 all_goals exact allV_v _
def Flt (P:Program) (ops:Array Oper) (C:World->Prop) (o:Oper) (v:Value) (a:Act):Prop:=
 (Region.wanted o (yielded ops a.tmps)=true/\∀w,C w->(execOp a.eval o).run P w=.ok (.value v) w)\/(Region.wanted o (yielded ops a.tmps)=false/\v=undef)
theorem Flt.of_same {o:Oper} {v:Value} {a a':Act} (hy:Flt P ops C o v a) (he:execOp a'.eval o=execOp a.eval o)
 (hw:Region.wanted o (yielded ops a'.tmps)=Region.wanted o (yielded ops a.tmps)):Flt P ops C o v a':=by
 unfold Flt at*
 rw[he,hw]
 exact hy
theorem flt_of_quiet {i:Nat} {o:Oper} {a:Act} {K:Act->Prop} (hi:ops[i]?=some o) (hp:plainOp o.op=true) (h:wpQuiet P ops C K [o] a):∃v,Flt P ops C o v a/\K (a.put o.dst v):=by
 simp only[wpQuiet]at h
 by_cases hw:Region.wanted o (yielded ops a.tmps)=true
 ·rw[if_pos hw]at h
  obtain⟨v,h1,h2⟩:=h
  refine⟨v,.inl ⟨hw,fun w hc=>?_⟩,h2⟩
  have h3:=h1 w hc
  unfold Oper.quietAt at h3
  cases hr:(execOp a.eval o).run P w with
  |halt e w1=>rw[hr]at h3;exact h3.elim
  |ok n w1=>
   obtain⟨u,rfl⟩:=plain_value hp a.eval w w1 n hr
   rw[hr]at h3
   obtain⟨rfl,rfl⟩:=h3
   rfl
 ·rw[if_neg hw]at h
  exact⟨undef,.inr ⟨by simpa using hw,rfl⟩,h⟩
theorem Flt.wpOp {i:Nat} {o:Oper} {v:Value} {a:Act} (hi:ops[i]?=some o) (hy:Flt P ops C o v a) {K:Act->World->Prop} {w:World} (hw:C w) (h:K (a.put o.dst v) w):wpOp P ops Q i K a w:=by
 unfold Go.wpOp
 simp only[hi]
 rcases hy with⟨hg,hv⟩|⟨hg,rfl⟩
 ·rw[if_pos hg]
  refine .inl ?_
  unfold Oper.wp
  rw[hv w hw]
  exact h
 ·rw[if_neg (by rw[hg];exact Bool.false_ne_true)]
  exact h
theorem wpOp_flt {j:Nat} {oi oj:Oper} {v:Value} (hj:ops[j]?=some oj) (hap:oi.apart ops oj=true)
 (hsi:∀cs b,oi.op≠ .select cs b) (hsj:∀cs b,oj.op≠ .select cs b) {K:Act->World->Prop} {a:Act} {w:World}
 (hy:Flt P ops C oi v a) (h:wpOp P ops (Calm Q) j K (a.put oi.dst v) w):
 wpOp P ops (Calm Q) j (fun a' w'=>Flt P ops C oi v a'/\K (a'.put oi.dst v) w') a w:=by
 obtain⟨h1,h2,h3⟩:=Oper.apart_spec hap
 have keep:∀(a:Act),Flt P ops C oi v a->∀u,Flt P ops C oi v (a.put oj.dst u):=fun a hy u=>
  hy.of_same (execOp_put oi hsi a oj.dst u h3) (wanted_put oi a oj.dst u h3)
 have keepD:∀d,Flt P ops C oi v {a with defers:=d::a.defers}:=fun d=>hy.of_same rfl rfl
 unfold wpOp at*
 simp only[hj]at*
 rw[wanted_put oj a oi.dst v h1]at h
 by_cases hw:Region.wanted oj (yielded ops a.tmps)=true
 ·rw[if_pos hw]at h⊢
  rcases h with h|⟨hasks,hlets⟩
  case inr=>exact .inr ⟨by unfold Oper.asks at*;rw[execOp_put oj hsj a oi.dst v h1]at hasks;exact hasks,hlets⟩
  refine .inl ?_
  unfold Oper.wp at*
  rw[execOp_put oj hsj a oi.dst v h1]at h
  generalize(execOp a.eval oj).run P w=r at h⊢
  cases r with
  |ok n w'=>
   cases n<;>simp only[Oper.upon]at h⊢
   case value u=>exact⟨keep a hy u,by rw[←Act.put_comm a v u h2];exact h⟩
   case skip=>exact⟨keep a hy _,by rw[←Act.put_comm a v undef h2];exact h⟩
   case defer d=>
    refine⟨keep _ (keepD d) _,?_⟩
    rw[←Act.put_comm _ v undef h2,←Act.put_defers]
    exact h
   case enter f args=>
    refine Calls.mono h fun e w'' he=>?_
    cases e with
    |returned u=>exact⟨keep a hy u,by rw[←Act.put_comm a v u h2];exact he⟩
    |panicked c=>exact he
    |outgrown=>exact he
   case row row args=>exact Rows.mono h fun u w'' he=>⟨keep a hy u,by rw[←Act.put_comm a v u h2];exact he⟩
  |halt x w'=>
   cases x<;>simp only[Oper.upon]at h⊢
   case panic u=>exact h
 ·rw[if_neg hw]at h⊢
  exact⟨keep a hy _,by rw[←Act.put_comm a v undef h2];exact h⟩
def anyK (P:Program) (ops:Array Oper) (T:List Nat) (C:World->Prop) (Q:Exit->Act->World->Prop):Nat->Array Bool->Act->World->Prop
 |0,listed,a,w=>Region.ready .any ops listed=[]/\Q .normal a w
 |fuel+1,listed,a,w=>
  (Region.ready .any ops listed=[]->Q .normal a w)∧
  ∀i∈Region.ready .any ops listed,wpOp P ops (Calm Q) i (fun a' w'=>(i∈T\/C w')/\anyK P ops T C Q fuel (listed.setIfInBounds i true) a' w') a w
theorem wpOp_calm {i:Nat} {K:Act->World->Prop} {a:Act} {w:World} (h:wpOp P ops (Calm Q) i K a w):wpOp P ops Q i K a w:=by
 unfold wpOp at*
 split
 ·rename_i ho;simp only[ho]at h;exact h
 ·rename_i o ho
  simp only[ho]at h
  by_cases hw:Region.wanted o (yielded ops a.tmps)=true
  ·rw[if_pos hw]at h⊢
   rcases h with h|⟨h1,a',w',h2⟩
   ·refine .inl ?_
    unfold Oper.wp at*
    generalize(execOp a.eval o).run P w=r at h⊢
    cases r with
    |ok n w'=>
     cases n<;>simp only[Oper.upon]at h⊢
     case enter f args=>
      refine Calls.mono h fun e w'' he=>?_
      cases e with
      |returned u=>exact he
      |panicked c=>exact he.elim
      |outgrown=>obtain⟨a',w',h2⟩:=he;exact⟨a',w',h2⟩
     all_goals exact h
    |halt x w'=>
     cases x<;>simp only[Oper.upon]at h⊢
     case panic u=>exact h.elim
   ·exact .inr ⟨h1,a',w',h2⟩
  ·rw[if_neg hw]at h⊢
   exact h
theorem wpAny_of_anyK :∀(fuel:Nat) (listed:Array Bool) (a:Act) (w:World),anyK P ops T C Q fuel listed a w->wpAny P .any ops Q fuel listed a w
 |0,_,_,_,h=>h
 |fuel+1,_,_,_,h=>⟨h.1,fun i hi=>wpOp_mono (fun a' w' hk=>wpAny_of_anyK fuel _ a' w' hk.2) (wpOp_calm (h.2 i hi))⟩
theorem anyK_class {C':World->Prop} (hc:∀x,C' x->C x):∀(fuel:Nat) (listed:Array Bool) (a:Act) (w:World),anyK P ops T C' Q fuel listed a w->anyK P ops T C Q fuel listed a w
 |0,_,_,_,h=>h
 |fuel+1,_,_,_,h=>⟨h.1,fun i hi=>wpOp_mono (fun a' w' hk=>⟨hk.1.imp id (hc _),anyK_class hc fuel _ a' w' hk.2⟩) (h.2 i hi)⟩
inductive Waits (ops:Array Oper):Nat->Nat->Prop
 |one {j i:Nat} {oj:Oper} (hj:ops[j]?=some oj) {e:Edge} (he:e∈oj.after) (hb:Region.binds .any e=true) (ho:e.on=i):Waits ops j i
 |more {j k i:Nat} {oj:Oper} (hj:ops[j]?=some oj) {e:Edge} (he:e∈oj.after) (hb:Region.binds .any e=true) (ho:e.on=k) (h:Waits ops k i):Waits ops j i
def Closed (ops:Array Oper) (listed:Array Bool):Prop:=∀k ok,ops[k]?=some ok->listed.getD k false=true->∀e∈ok.after,Region.binds .any e=true->listed.getD e.on false=true
theorem Closed.waits {listed:Array Bool} (hc:Closed ops listed) {j i:Nat} (h:Waits ops j i):listed.getD j false=true->listed.getD i false=true:=by
 induction h with
 |one hj he hb ho=>intro hl;rw[←ho];exact hc _ _ hj hl _ he hb
 |more hj he hb ho _ ih=>intro hl;exact ih (by rw[←ho];exact hc _ _ hj hl _ he hb)
theorem Closed.ready {listed:Array Bool} (hc:Closed ops listed) {j i:Nat} (hr:j∈Region.ready .any ops listed) (h:Waits ops j i):listed.getD i false=true:=by
 obtain⟨_,oj,hoj,hall⟩:=mem_ready.1 hr
 cases h with
 |one hj he hb ho=>obtain rfl:oj=_:=Option.some.inj (hoj.symm.trans hj);rw[←ho];exact hall _ he hb
 |more hj he hb ho hw=>obtain rfl:oj=_:=Option.some.inj (hoj.symm.trans hj);exact hc.waits hw (by rw[←ho];exact hall _ he hb)
theorem Closed.set {listed:Array Bool} (hc:Closed ops listed) {j:Nat} (hr:j∈Region.ready .any ops listed):Closed ops (listed.setIfInBounds j true):=by
 intro k ok hk hl e he hb
 obtain⟨_,oj,hoj,hall⟩:=mem_ready.1 hr
 by_cases hjk:j=k
 ·subst hjk
  obtain rfl:oj=ok:=Option.some.inj (hoj.symm.trans hk)
  exact getD_set_true (hall e he hb)
 ·rw[getD_set_ne false hjk]at hl
  exact getD_set_true (hc k ok hk hl e he hb)
theorem anyK_first {i:Nat} {oi:Oper} {v:Value} (hi:ops[i]?=some oi) (hsel:∀(j:Nat) (o:Oper) cs b,ops[j]?=some o->o.op≠ .select cs b)
 (hT:∀j∈T,Waits ops j i):
 ∀(fuel:Nat) (listed:Array Bool) (a:Act) (w:World),C w->Closed ops listed→
  (∀j oj,ops[j]?=some oj->j≠i->listed.getD j true=false->(∀e∈oj.after,Region.binds .any e=true->e.on≠i)->oi.apart ops oj=true)→
  i∈Region.ready .any ops listed->Flt P ops C oi v a→
  anyK P ops T C Q fuel (listed.setIfInBounds i true) (a.put oi.dst v) w->anyK P ops T C Q (fuel+1) listed a w:=by
 intro fuel
 induction fuel with
 |zero=>
  intro listed a w hw hcl _ hr hy H
  refine⟨fun h=>(by rw[h]at hr;cases hr),fun j hj=>?_⟩
  by_cases hji:j=i
  ·subst hji;exact hy.wpOp hi hw ⟨.inr hw,H⟩
  ·have:=ready_mono hj hji
   rw[H.1]at this
   cases this
 |succ fuel ih=>
  intro listed a w hw hcl hfree hr hy H
  refine⟨fun h=>(by rw[h]at hr;cases hr),fun j hj=>?_⟩
  by_cases hji:j=i
  ·subst hji;exact hy.wpOp hi hw ⟨.inr hw,H⟩
  ·have h1:=H.2 j (ready_mono hj hji)
   obtain⟨hjun,oj,hoj,hall⟩:=mem_ready.1 hj
   have hun:listed.getD i false=false:=by
    have h0:=(mem_ready.1 hr).1
    rcases Nat.lt_or_ge i listed.size with h'|h'
    ·simp[h']at h0⊢;exact h0
    ·simp[Array.getElem?_eq_none h']at h0
   have hnot:∀e∈oj.after,Region.binds .any e=true->e.on≠i:=fun e he hb heq=>by
    have h2:=hall e he hb
    rw[heq,hun]at h2
    cases h2
   have hjT:j∉T:=fun hm=>by
    have:=hcl.ready hj (hT j hm)
    rw[hun]at this
    cases this
   have h2:=wpOp_flt hoj (hfree j oj hoj hji hjun hnot) (fun cs b=>hsel i oi cs b hi) (fun cs b=>hsel j oj cs b hoj) hy h1
   have hfree':∀k ok,ops[k]?=some ok->k≠i->(listed.setIfInBounds j true).getD k true=false→
    (∀e∈ok.after,Region.binds .any e=true->e.on≠i)->oi.apart ops ok=true:=fun k ok hk hki hun hno=>by
    refine hfree k ok hk hki ?_ hno
    by_cases hjk:j=k
    ·subst hjk;exact hjun
    ·rw[getD_set_ne true hjk]at hun;exact hun
   refine wpOp_mono (fun a' w' h3=>?_) h2
   obtain⟨h4,h5,h6⟩:=h3
   have hw':C w':=h5.resolve_left hjT
   refine⟨.inr hw',ih (listed.setIfInBounds j true) a' w' hw' (hcl.set hj) hfree' (ready_mono hr (Ne.symm hji)) h4 ?_⟩
   rw[Array.setIfInBounds_comm _ _ hji]
   exact h6
def mixAt (P:Program) (ops:Array Oper) (T:List Nat) (C:World->Prop) (Q:Exit->Act->World->Prop) (fuel:Nat) (listed:Array Bool) (a:Act):Prop:=∀w,C w->anyK P ops T C Q fuel listed a w
def waitsB (ops:Array Oper):Nat->Nat->Nat->Bool
 |0,_,_=>false
 |n+1,j,i=>match ops[j]? with
  |some oj=>oj.after.any fun e=>Region.binds .any e&&(e.on==i||waitsB ops n e.on i)
  |none=>false
theorem waitsB_spec :∀(n j i:Nat),waitsB ops n j i=true->Waits ops j i
 |0,_,_,h=>by cases h
 |n+1,j,i,h=>by
  unfold waitsB at h
  split at h
  ·rename_i oj hj
   obtain⟨e,he,hb⟩:=Array.any_eq_true'.1 h
   simp only[Bool.and_eq_true,Bool.or_eq_true,beq_iff_eq]at hb
   rcases hb.2 with ho|hw
   ·exact .one hj he hb.1 ho
   ·exact .more hj he hb.1 rfl (waitsB_spec n _ _ hw)
  ·cases h
def edgeB (ops:Array Oper) (j i:Nat):Bool:=match ops[j]? with
 |some oj=>oj.after.any fun e=>Region.binds .any e&&e.on==i
 |none=>false
def reachL (ops:Array Oper):Nat->List Nat->List Nat
 |0,_=>[]
 |n+1,fr=>((List.range ops.size).filter fun i=>fr.any fun j=>edgeB ops j i)++reachL ops n ((List.range ops.size).filter fun i=>fr.any fun j=>edgeB ops j i)
theorem edgeB_spec {j i:Nat} (h:edgeB ops j i=true):∃oj,ops[j]?=some oj/\∃e∈oj.after,Region.binds .any e=true/\e.on=i:=by
 unfold edgeB at h
 split at h
 ·rename_i oj hj
  obtain⟨e,he,hb⟩:=Array.any_eq_true'.1 h
  simp only[Bool.and_eq_true,beq_iff_eq]at hb
  exact⟨oj,hj,e,he,hb.1,hb.2⟩
 ·cases h
theorem reachL_spec :∀(n:Nat) (fr:List Nat) (k:Nat),k∈reachL ops n fr->∃j∈fr,Waits ops j k
 |0,_,_,h=>by cases h
 |n+1,fr,k,h=>by
  rw[reachL,List.mem_append]at h
  rcases h with h|h
  ·rw[List.mem_filter,List.any_eq_true]at h
   obtain⟨_,j,hj,he⟩:=h
   obtain⟨oj,hoj,e,hee,hb,ho⟩:=edgeB_spec he
   exact⟨j,hj,.one hoj hee hb ho⟩
  ·obtain⟨m,hm,hw⟩:=reachL_spec n _ k h
   rw[List.mem_filter,List.any_eq_true]at hm
   obtain⟨_,j,hj,he⟩:=hm
   obtain⟨oj,hoj,e,hee,hb,ho⟩:=edgeB_spec he
   exact⟨j,hj,.more hoj hee hb ho hw⟩
def tailsB (ops:Array Oper) (T:List Nat) (i:Nat):Bool:=T.all fun j=>waitsB ops 3 j i||(reachL ops 12 [j]).contains i
def closedB (ops:Array Oper) (listed:Array Bool):Bool:=(List.range ops.size).all fun k=>!listed.getD k false||match ops[k]? with
 |some ok=>ok.after.all fun e=>!Region.binds .any e||listed.getD e.on false
 |none=>true
theorem closedB_spec {listed:Array Bool} (h:closedB ops listed=true):Closed ops listed:=by
 intro k ok hk hl e he hb
 have h1:=List.all_eq_true.1 h k (List.mem_range.2 (Array.getElem?_eq_some_iff.1 hk).1)
 simp only[hl,hk,Bool.not_true,Bool.false_or]at h1
 have h2:=Array.all_eq_true_iff_forall_mem.1 h1 e he
 simpa[hb]using h2
theorem zo1 {α β:Type} {f:α->β} {a:α} {l:List α}:(a::l).map f=f a::l.map f:=rfl
theorem zo2 {α β:Type} {f:α->β}:([]:List α).map f=[]:=rfl
theorem zo3 {α:Type} (a:List α):a.toArray.toList=a:=rfl
theorem zo4 {α:Type} {x d:α} {l:List α} {n:Nat}:(x::l).getD (n+1) d=l.getD n d:=rfl
theorem zo5 {α:Type} {x d:α} {l:List α}:(x::l).getD 0 d=x:=rfl
def fltB (ops:Array Oper) (T:List Nat):List Nat->Array Bool->Bool
 |[],_=>true
 |i::l,listed=>(Region.ready .any ops listed).contains i&&Region.free .any ops listed i&&tailsB ops T i&&((ops[i]?).map fun o=>plainOp o.op).getD false&&fltB ops T l (listed.setIfInBounds i true)
def listAll :List Nat->Array Bool->Array Bool
 |[],listed=>listed
 |i::l,listed=>listAll l (listed.setIfInBounds i true)
def opsAt (ops:Array Oper) (l:List Nat):List Oper:=l.map fun i=>ops.toList.getD i default
theorem opsAt_cons {i:Nat} {l:List Nat} {o:Oper} (ho:ops[i]?=some o):opsAt ops (i::l)=o::opsAt ops l:=by
 have h:ops.toList.getD i default=o:=by
  rw[List.getD_eq_getElem?_getD,Array.getElem?_toList,ho]
  rfl
 unfold opsAt
 rw[List.map_cons,h]
theorem tailsB_spec {i:Nat} (h:tailsB ops T i=true):∀j∈T,Waits ops j i:=fun j hj=>by
 have h1:=List.all_eq_true.1 h j hj
 rw[Bool.or_eq_true]at h1
 rcases h1 with h1|h1
 ·exact waitsB_spec _ _ _ h1
 ·obtain⟨m,hm,hw⟩:=reachL_spec 12 [j] i (by simpa using h1)
  rw[List.mem_singleton]at hm
  rw[←hm]
  exact hw
theorem wpQuiet_split {K:Act->Prop} {o:Oper} {l:List Oper} {a:Act} (h:wpQuiet P ops C K (o::l) a):wpQuiet P ops C (wpQuiet P ops C K l) [o] a:=h
theorem mix_flt0 (hs:Region.noSelect ops=true):∀(l:List Nat) (fuel:Nat) (listed:Array Bool) (a:Act),Closed ops listed->fltB ops T l listed=true→
 wpQuiet P ops C (mixAt P ops T C Q fuel (listAll l listed)) (opsAt ops l) a->mixAt P ops T C Q (l.length+fuel) listed a
 |[],fuel,listed,a,_,_,h=>by
  rw[show([]:List Nat).length+fuel=fuel by simp]
  exact h
 |i::l,fuel,listed,a,hcl,hB,h=>by
  simp only[fltB,Bool.and_eq_true]at hB
  obtain⟨⟨⟨⟨hr,hf⟩,ht⟩,hp⟩,hB'⟩:=hB
  cases ho:ops[i]? with
  |none=>rw[ho]at hp;cases hp
  |some o=>
   rw[ho]at hp
   have hl:opsAt ops (i::l)=o::opsAt ops l:=opsAt_cons ho
   rw[hl]at h
   obtain⟨v,hy,hK⟩:=flt_of_quiet ho (by simpa using hp) (wpQuiet_split h)
   have hm:=mix_flt0 hs l fuel (listed.setIfInBounds i true) (a.put o.dst v) (hcl.set (by simpa using hr)) hB' hK
   intro w hw
   have:=anyK_first (T:=T) (C:=C) (Q:=Q) ho (Region.noSelect_spec hs) (tailsB_spec ht) (l.length+fuel) listed a w hw hcl (Region.free_spec ho hf) (by simpa using hr) hy (hm w hw)
   rw[show(i::l).length+fuel=l.length+fuel+1 by simp;omega]
   exact this
theorem mix_flt (hs:Region.noSelect ops=true) (l:List Nat) (fuel:Nat) (listed:Array Bool) (a:Act) (hB:(closedB ops listed&&fltB ops T l listed)=true)
 (h:wpQuiet P ops C (mixAt P ops T C Q fuel (listAll l listed)) (opsAt ops l) a):mixAt P ops T C Q (l.length+fuel) listed a:=by
 simp only[Bool.and_eq_true]at hB
 exact mix_flt0 hs l fuel listed a (closedB_spec hB.1) hB.2 h
def Then (P:Program) (ops:Array Oper) (T:List Nat) (C:World->Prop) (Q:Exit->Act->World->Prop) (fuel:Nat) (listed:Array Bool) (a:Act) (w:World):Prop:=
 ∃C':World->Prop,C' w/\(∀x,C' x->C x)/\mixAt P ops T C' Q fuel listed a
theorem Then.same {fuel:Nat} {listed:Array Bool} {a:Act} {w:World} (hw:C w) (h:mixAt P ops T C Q fuel listed a):Then P ops T C Q fuel listed a w:=⟨C,hw,fun _ h=>h,h⟩
theorem wpOp_of_list {i:Nat} {o:Oper} {K:Act->World->Prop} {a:Act} {w:World} (ho:ops[i]?=some o) (h:wpList P ops (Exit.then K (Calm Q)) [o] a w):wpOp P ops (Calm Q) i K a w:=by
 unfold wpOp
 simp only[ho]
 simp only[wpList]at h
 by_cases hw:Region.wanted o (yielded ops a.tmps)=true
 ·rw[if_pos hw]at h⊢
  rcases h with h|⟨h1,a',w',h2⟩
  ·refine .inl ?_
   unfold Oper.wp at*
   generalize(execOp a.eval o).run P w=r at h⊢
   cases r with
   |ok n w'=>
    cases n<;>simp only[Oper.upon]at h⊢
    case enter f args=>
     refine Calls.mono h fun e w'' he=>?_
     cases e with
     |returned u=>exact he
     |panicked c=>exact he
     |outgrown=>obtain⟨a',w',h2⟩:=he;exact⟨a',w',h2⟩
    all_goals exact h
   |halt x w'=>
    cases x<;>simp only[Oper.upon]at h⊢
    case panic u=>exact h
  ·exact .inr ⟨h1,a',w',h2⟩
 ·rw[if_neg hw]at h⊢
  exact h
theorem mix_ch {i:Nat} {fuel:Nat} {listed:Array Bool} {a:Act} (hr:Region.ready .any ops listed=[i]) (o:Oper) (ho:ops[i]?=some o)
 (h:∀w,C w->wpList P ops (Exit.then (Then P ops T C Q fuel (listed.setIfInBounds i true)) (Calm Q)) [o] a w):mixAt P ops T C Q (fuel+1) listed a:=by
 intro w hw
 refine⟨fun h0=>(by rw[h0]at hr;cases hr),fun j hj=>?_⟩
 rw[hr]at hj
 obtain rfl:j=i:=by simpa using hj
 refine wpOp_mono (fun a' w' hk=>?_) (wpOp_of_list ho (h w hw))
 obtain⟨C',h1,h2,h3⟩:=hk
 exact⟨.inr (h2 _ h1),anyK_class h2 _ _ _ _ (h3 _ h1)⟩
def tailB (ops:Array Oper) (T:List Nat):List Nat->Array Bool->Bool
 |[],listed=>(Region.ready .any ops listed).isEmpty
 |i::l,listed=>(Region.ready .any ops listed==[i])&&T.contains i&&(ops[i]?).isSome&&tailB ops T l (listed.setIfInBounds i true)
theorem anyK_tail :∀(l:List Nat) (listed:Array Bool) (a:Act) (w:World),tailB ops T l listed=true->wpList P ops (Calm Q) (opsAt ops l) a w->anyK P ops T C Q l.length listed a w
 |[],listed,a,w,hB,h=>⟨by simpa[tailB]using hB,h⟩
 |i::l,listed,a,w,hB,h=>by
  simp only[tailB,Bool.and_eq_true,beq_iff_eq]at hB
  obtain⟨⟨⟨hr,hT⟩,hs⟩,hB'⟩:=hB
  cases ho:ops[i]? with
  |none=>rw[ho]at hs;cases hs
  |some o=>
   have hl:opsAt ops (i::l)=o::opsAt ops l:=opsAt_cons ho
   rw[hl]at h
   refine⟨fun h0=>(by rw[h0]at hr;cases hr),fun j hj=>?_⟩
   rw[hr]at hj
   obtain rfl:j=i:=by simpa using hj
   have h':wpOp P ops (Calm Q) j (wpList P ops (Calm Q) (opsAt ops l)) a w:=by
    unfold wpOp
    simp only[ho]
    exact h
   exact wpOp_mono (fun a' w' hk=>⟨.inl (by simpa using hT),anyK_tail l _ a' w' hB' hk⟩) h'
theorem mix_end (l:List Nat) {listed:Array Bool} {a:Act} (hB:tailB ops T l listed=true) (h:∀w,C w->wpList P ops (Calm Q) (opsAt ops l) a w):mixAt P ops T C Q l.length listed a:=
 fun w hw=>anyK_tail l listed a w hB (h w hw)
theorem mix_start {id:Nat} {a:Act} {w:World} (T:List Nat) (C:World->Prop) (hm:P.follows .mixedOrders=true) (hC:C {w with drawn:=w.drawn+1})
 (h:mixAt P ops T C Q ops.size (Array.replicate ops.size false) a):(Code.region id ops true).wp P Q a w:=
 wp_region_any hm (wpAny_of_anyK _ _ _ _ (h _ hC))
end
section
variable {P:Program} {ops:Array Oper} {T:List Nat} {C:World->Prop} {Q:Exit->Act->World->Prop}
def buildOp :Op->Bool
 | .build .. =>true
 |_=>false
def plainOp2 (o:Op):Bool:=buildOp o||plainOp o
theorem plain_value2 {o:Oper} (hp:plainOp2 o.op=true) (ρ:Operand->Value):AllV P (execOp ρ o):=by
 unfold plainOp2 at hp
 rcases Bool.or_eq_true_iff.1 hp with h|h
 ·obtain⟨dst,op,type,pos,after,guard⟩:=o
  cases op<;>simp only[buildOp,Bool.false_eq_true]at h
  simp only[execOp]
  exact allV_v _
 ·exact plain_value h ρ
theorem flt_of_quiet2 {i:Nat} {o:Oper} {a:Act} {K:Act->Prop} (hi:ops[i]?=some o) (hp:plainOp2 o.op=true) (h:wpQuiet P ops C K [o] a):∃v,Flt P ops C o v a/\K (a.put o.dst v):=by
 simp only[wpQuiet]at h
 by_cases hw:Region.wanted o (yielded ops a.tmps)=true
 ·rw[if_pos hw]at h
  obtain⟨v,h1,h2⟩:=h
  refine⟨v,.inl ⟨hw,fun w hc=>?_⟩,h2⟩
  have h3:=h1 w hc
  unfold Oper.quietAt at h3
  cases hr:(execOp a.eval o).run P w with
  |halt e w1=>rw[hr]at h3;exact h3.elim
  |ok n w1=>
   obtain⟨u,rfl⟩:=plain_value2 hp a.eval w w1 n hr
   rw[hr]at h3
   obtain⟨rfl,rfl⟩:=h3
   rfl
 ·rw[if_neg hw]at h
  exact⟨undef,.inr ⟨by simpa using hw,rfl⟩,h⟩
def moveOp :Op->Bool
 | .move _| .assign _=>true
 |_=>false
theorem Flt.any {o:Oper} {v:Value} {a:Act} (hm:moveOp o.op=true) (hC:∃w,C w) (h:Flt P ops C o v a):Flt P ops (fun _=>True) o v a:=by
 rcases h with⟨h1,h2⟩|h
 ·refine .inl ⟨h1,fun w _=>?_⟩
  obtain⟨w0,hw0⟩:=hC
  have h3:=h2 w0 hw0
  obtain⟨dst,op,type,pos,after,guard⟩:=o
  cases op<;>simp only[moveOp,Bool.false_eq_true]at hm
  all_goals
   have h4:(Result.ok (Next.value _) w0:Result Next)=.ok (.value v) w0:=h3
   injection h4 with h5 _
   show(Result.ok (Next.value _) w:Result Next)=.ok (.value v) w
   rw[h5]
 ·exact .inr h
def anyM (P:Program) (ops:Array Oper) (T:List Nat) (C:World->Prop) (Q:Exit->Act->World->Prop):Nat->Array Bool->Act->World->Prop
 |0,listed,a,w=>Region.ready .any ops listed=[]/\Q .normal a w
 |fuel+1,listed,a,w=>
  (Region.ready .any ops listed=[]->Q .normal a w)∧
  ∀i∈Region.ready .any ops listed,wpOp P ops (Calm Q) i (fun a' w'=>(i∈T\/w'=w\/C w')/\anyM P ops T C Q fuel (listed.setIfInBounds i true) a' w') a w
theorem wpAny_of_anyM :∀(fuel:Nat) (listed:Array Bool) (a:Act) (w:World),anyM P ops T C Q fuel listed a w->wpAny P .any ops Q fuel listed a w
 |0,_,_,_,h=>h
 |fuel+1,_,_,_,h=>⟨h.1,fun i hi=>wpOp_mono (fun a' w' hk=>wpAny_of_anyM fuel _ a' w' hk.2) (wpOp_calm (h.2 i hi))⟩
theorem anyM_first {i:Nat} {oi:Oper} {v:Value} (hi:ops[i]?=some oi) (hsel:∀(j:Nat) (o:Oper) cs b,ops[j]?=some o->o.op≠ .select cs b)
 (hT:∀j∈T,Waits ops j i):
 ∀(fuel:Nat) (listed:Array Bool) (a:Act) (w:World),C w->Closed ops listed→
  (∀j oj,ops[j]?=some oj->j≠i->listed.getD j true=false->(∀e∈oj.after,Region.binds .any e=true->e.on≠i)->oi.apart ops oj=true)→
  i∈Region.ready .any ops listed->Flt P ops C oi v a→
  anyM P ops T C Q fuel (listed.setIfInBounds i true) (a.put oi.dst v) w->anyM P ops T C Q (fuel+1) listed a w:=by
 intro fuel
 induction fuel with
 |zero=>
  intro listed a w hw hcl _ hr hy H
  refine⟨fun h=>(by rw[h]at hr;cases hr),fun j hj=>?_⟩
  by_cases hji:j=i
  ·subst hji;exact hy.wpOp hi hw ⟨.inr (.inl rfl),H⟩
  ·have:=ready_mono hj hji
   rw[H.1]at this
   cases this
 |succ fuel ih=>
  intro listed a w hw hcl hfree hr hy H
  refine⟨fun h=>(by rw[h]at hr;cases hr),fun j hj=>?_⟩
  by_cases hji:j=i
  ·subst hji;exact hy.wpOp hi hw ⟨.inr (.inl rfl),H⟩
  ·have h1:=H.2 j (ready_mono hj hji)
   obtain⟨hjun,oj,hoj,hall⟩:=mem_ready.1 hj
   have hun:listed.getD i false=false:=by
    have h0:=(mem_ready.1 hr).1
    rcases Nat.lt_or_ge i listed.size with h'|h'
    ·simp[h']at h0⊢;exact h0
    ·simp[Array.getElem?_eq_none h']at h0
   have hnot:∀e∈oj.after,Region.binds .any e=true->e.on≠i:=fun e he hb heq=>by
    have h2:=hall e he hb
    rw[heq,hun]at h2
    cases h2
   have hjT:j∉T:=fun hm=>by
    have:=hcl.ready hj (hT j hm)
    rw[hun]at this
    cases this
   have h2:=wpOp_flt hoj (hfree j oj hoj hji hjun hnot) (fun cs b=>hsel i oi cs b hi) (fun cs b=>hsel j oj cs b hoj) hy h1
   have hfree':∀k ok,ops[k]?=some ok->k≠i->(listed.setIfInBounds j true).getD k true=false→
    (∀e∈ok.after,Region.binds .any e=true->e.on≠i)->oi.apart ops ok=true:=fun k ok hk hki hun hno=>by
    refine hfree k ok hk hki ?_ hno
    by_cases hjk:j=k
    ·subst hjk;exact hjun
    ·rw[getD_set_ne true hjk]at hun;exact hun
   refine wpOp_mono (fun a' w' h3=>?_) h2
   obtain⟨h4,h5,h6⟩:=h3
   have hw':C w':=by
    rcases h5 with h5|h5|h5
    ·exact absurd h5 hjT
    ·rw[h5];exact hw
    ·exact h5
   refine⟨.inr (.inr hw'),ih (listed.setIfInBounds j true) a' w' hw' (hcl.set hj) hfree' (ready_mono hr (Ne.symm hji)) h4 ?_⟩
   rw[Array.setIfInBounds_comm _ _ hji]
   exact h6
theorem anyM_firstP {i:Nat} {oi:Oper} {v:Value} (hi:ops[i]?=some oi) (hsel:∀(j:Nat) (o:Oper) cs b,ops[j]?=some o->o.op≠ .select cs b):
 ∀(fuel:Nat) (listed:Array Bool) (a:Act) (w:World),Closed ops listed→
  (∀j oj,ops[j]?=some oj->j≠i->listed.getD j true=false->(∀e∈oj.after,Region.binds .any e=true->e.on≠i)->oi.apart ops oj=true)→
  i∈Region.ready .any ops listed->Flt P ops (fun _=>True) oi v a→
  anyM P ops T C Q fuel (listed.setIfInBounds i true) (a.put oi.dst v) w->anyM P ops T C Q (fuel+1) listed a w:=by
 intro fuel
 induction fuel with
 |zero=>
  intro listed a w hcl _ hr hy H
  refine⟨fun h=>(by rw[h]at hr;cases hr),fun j hj=>?_⟩
  by_cases hji:j=i
  ·subst hji;exact hy.wpOp hi trivial ⟨.inr (.inl rfl),H⟩
  ·have:=ready_mono hj hji
   rw[H.1]at this
   cases this
 |succ fuel ih=>
  intro listed a w hcl hfree hr hy H
  refine⟨fun h=>(by rw[h]at hr;cases hr),fun j hj=>?_⟩
  by_cases hji:j=i
  ·subst hji;exact hy.wpOp hi trivial ⟨.inr (.inl rfl),H⟩
  ·have h1:=H.2 j (ready_mono hj hji)
   obtain⟨hjun,oj,hoj,hall⟩:=mem_ready.1 hj
   have hun:listed.getD i false=false:=by
    have h0:=(mem_ready.1 hr).1
    rcases Nat.lt_or_ge i listed.size with h'|h'
    ·simp[h']at h0⊢;exact h0
    ·simp[Array.getElem?_eq_none h']at h0
   have hnot:∀e∈oj.after,Region.binds .any e=true->e.on≠i:=fun e he hb heq=>by
    have h2:=hall e he hb
    rw[heq,hun]at h2
    cases h2
   have h2:=wpOp_flt hoj (hfree j oj hoj hji hjun hnot) (fun cs b=>hsel i oi cs b hi) (fun cs b=>hsel j oj cs b hoj) hy h1
   have hfree':∀k ok,ops[k]?=some ok->k≠i->(listed.setIfInBounds j true).getD k true=false→
    (∀e∈ok.after,Region.binds .any e=true->e.on≠i)->oi.apart ops ok=true:=fun k ok hk hki hun hno=>by
    refine hfree k ok hk hki ?_ hno
    by_cases hjk:j=k
    ·subst hjk;exact hjun
    ·rw[getD_set_ne true hjk]at hun;exact hun
   refine wpOp_mono (fun a' w' h3=>?_) h2
   obtain⟨h4,h5,h6⟩:=h3
   refine⟨h5,ih (listed.setIfInBounds j true) a' w' (hcl.set hj) hfree' (ready_mono hr (Ne.symm hji)) h4 ?_⟩
   rw[Array.setIfInBounds_comm _ _ hji]
   exact h6
def mixB (P:Program) (ops:Array Oper) (T:List Nat) (C:World->Prop) (Q:Exit->Act->World->Prop) (fuel:Nat) (listed:Array Bool) (a:Act) (w:World):Prop:=anyM P ops T C Q fuel listed a w
def ThenB (P:Program) (ops:Array Oper) (T:List Nat) (C:World->Prop) (Q:Exit->Act->World->Prop) (fuel:Nat) (listed:Array Bool) (a:Act) (w:World):Prop:=C w/\mixB P ops T C Q fuel listed a w
theorem ThenB.mk {fuel:Nat} {listed:Array Bool} {a:Act} {w:World} (hw:C w) (h:C w->mixB P ops T C Q fuel listed a w):ThenB P ops T C Q fuel listed a w:=⟨hw,h hw⟩
def moveAt (ops:Array Oper) (i:Nat):Bool:=((ops[i]?).map fun o=>moveOp o.op).getD false
def fltB2 (ops:Array Oper) (T:List Nat):List Nat->Array Bool->Bool
 |[],_=>true
 |i::l,listed=>(Region.ready .any ops listed).contains i&&Region.free .any ops listed i&&(tailsB ops T i||moveAt ops i)&&((ops[i]?).map fun o=>plainOp2 o.op).getD false&&fltB2 ops T l (listed.setIfInBounds i true)
theorem mixB_flt0 (hs:Region.noSelect ops=true):∀(l:List Nat) (fuel:Nat) (listed:Array Bool) (a:Act) (w:World),C w->Closed ops listed->fltB2 ops T l listed=true→
 wpQuiet P ops C (fun a'=>mixB P ops T C Q fuel (listAll l listed) a' w) (opsAt ops l) a->mixB P ops T C Q (l.length+fuel) listed a w
 |[],fuel,listed,a,w,_,_,_,h=>by
  rw[show([]:List Nat).length+fuel=fuel by simp]
  exact h
 |i::l,fuel,listed,a,w,hw,hcl,hB,h=>by
  simp only[fltB2,Bool.and_eq_true,Bool.or_eq_true]at hB
  obtain⟨⟨⟨⟨hr,hf⟩,ht⟩,hp⟩,hB'⟩:=hB
  cases ho:ops[i]? with
  |none=>rw[ho]at hp;cases hp
  |some o=>
   rw[ho]at hp
   have hl:opsAt ops (i::l)=o::opsAt ops l:=opsAt_cons ho
   rw[hl]at h
   obtain⟨v,hy,hK⟩:=flt_of_quiet2 ho (by simpa using hp) (wpQuiet_split h)
   have hm:=mixB_flt0 hs l fuel (listed.setIfInBounds i true) (a.put o.dst v) w hw (hcl.set (by simpa using hr)) hB' hK
   rw[show(i::l).length+fuel=l.length+fuel+1 by simp;omega]
   rcases ht with ht|ht
   ·exact anyM_first (T:=T) (C:=C) (Q:=Q) ho (Region.noSelect_spec hs) (tailsB_spec ht) (l.length+fuel) listed a w hw hcl (Region.free_spec ho hf) (by simpa using hr) hy hm
   ·have hmo:moveOp o.op=true:=by
     unfold moveAt at ht
     rw[ho]at ht
     simpa using ht
    exact anyM_firstP (T:=T) (C:=C) (Q:=Q) ho (Region.noSelect_spec hs) (l.length+fuel) listed a w hcl (Region.free_spec ho hf) (by simpa using hr) (hy.any hmo ⟨w,hw⟩) hm
theorem mixB_flt (hs:Region.noSelect ops=true) (l:List Nat) (fuel:Nat) (listed:Array Bool) (a:Act) {w:World} (hw:C w) (hB:(closedB ops listed&&fltB2 ops T l listed)=true)
 (h:wpQuiet P ops C (fun a'=>mixB P ops T C Q fuel (listAll l listed) a' w) (opsAt ops l) a):mixB P ops T C Q (l.length+fuel) listed a w:=by
 simp only[Bool.and_eq_true]at hB
 exact mixB_flt0 hs l fuel listed a w hw (closedB_spec hB.1) hB.2 h
theorem mixB_one {i:Nat} {K:Act->World->Prop} {a:Act} {w:World} (hi:(ops[i]?).isSome=true) (h:wpList P ops (Exit.then K (Calm Q)) (opsAt ops [i]) a w):wpOp P ops (Calm Q) i K a w:=by
 obtain⟨o,ho⟩:=Option.isSome_iff_exists.1 hi
 rw[opsAt_cons ho]at h
 exact wpOp_of_list ho h
theorem mixB_ch {i:Nat} {fuel:Nat} {listed:Array Bool} {a:Act} {w:World} (hr:Region.ready .any ops listed=[i]) (hi:(ops[i]?).isSome=true)
 (h:wpList P ops (Exit.then (ThenB P ops T C Q fuel (listed.setIfInBounds i true)) (Calm Q)) (opsAt ops [i]) a w):mixB P ops T C Q (fuel+1) listed a w:=by
 refine⟨fun h0=>(by rw[h0]at hr;cases hr),fun j hj=>?_⟩
 rw[hr]at hj
 obtain rfl:j=i:=by simpa using hj
 exact wpOp_mono (fun a' w' hk=>⟨.inr (.inr hk.1),hk.2⟩) (mixB_one hi h)
theorem mixB_br {i j:Nat} {fuel:Nat} {listed:Array Bool} {a:Act} {w:World} (hr:Region.ready .any ops listed=[i,j]) (hi:((ops[i]?).isSome&&(ops[j]?).isSome)=true)
 (h1:wpList P ops (Exit.then (ThenB P ops T C Q fuel (listed.setIfInBounds i true)) (Calm Q)) (opsAt ops [i]) a w)
 (h2:wpList P ops (Exit.then (ThenB P ops T C Q fuel (listed.setIfInBounds j true)) (Calm Q)) (opsAt ops [j]) a w):mixB P ops T C Q (fuel+1) listed a w:=by
 simp only[Bool.and_eq_true]at hi
 refine⟨fun h0=>(by rw[h0]at hr;cases hr),fun k hk=>?_⟩
 rw[hr]at hk
 have hk2:k=i\/k=j:=by simpa using hk
 rcases hk2 with rfl|rfl
 ·exact wpOp_mono (fun a' w' hk=>⟨.inr (.inr hk.1),hk.2⟩) (mixB_one hi.1 h1)
 ·exact wpOp_mono (fun a' w' hk=>⟨.inr (.inr hk.1),hk.2⟩) (mixB_one hi.2 h2)
theorem anyM_tail :∀(l:List Nat) (listed:Array Bool) (a:Act) (w:World),tailB ops T l listed=true->wpList P ops (Calm Q) (opsAt ops l) a w->anyM P ops T C Q l.length listed a w
 |[],listed,a,w,hB,h=>⟨by simpa[tailB]using hB,h⟩
 |i::l,listed,a,w,hB,h=>by
  simp only[tailB,Bool.and_eq_true,beq_iff_eq]at hB
  obtain⟨⟨⟨hr,hT⟩,hs⟩,hB'⟩:=hB
  cases ho:ops[i]? with
  |none=>rw[ho]at hs;cases hs
  |some o=>
   have hl:opsAt ops (i::l)=o::opsAt ops l:=opsAt_cons ho
   rw[hl]at h
   refine⟨fun h0=>(by rw[h0]at hr;cases hr),fun j hj=>?_⟩
   rw[hr]at hj
   obtain rfl:j=i:=by simpa using hj
   have h':wpOp P ops (Calm Q) j (wpList P ops (Calm Q) (opsAt ops l)) a w:=by
    unfold wpOp
    simp only[ho]
    exact h
   exact wpOp_mono (fun a' w' hk=>⟨.inl (by simpa using hT),anyM_tail l _ a' w' hB' hk⟩) h'
theorem mixB_end (l:List Nat) {listed:Array Bool} {a:Act} {w:World} (hB:tailB ops T l listed=true) (h:wpList P ops (Calm Q) (opsAt ops l) a w):mixB P ops T C Q l.length listed a w:=
 anyM_tail l listed a w hB h
theorem mixB_start {id:Nat} {a:Act} {w:World} (T:List Nat) (C:World->Prop) (hm:P.follows .mixedOrders=true) (hC:C {w with drawn:=w.drawn+1})
 (h:C {w with drawn:=w.drawn+1}->mixB P ops T C Q ops.size (Array.replicate ops.size false) a {w with drawn:=w.drawn+1}):(Code.region id ops true).wp P Q a w:=
 wp_region_any hm (wpAny_of_anyM _ _ _ _ (h hC))
end
def KeptG (g:Nat) (w w':World):Prop:=w.heap.size<=w'.heap.size/\∀b,b<w.heap.size->b≠g->w'.heap[b]?=w.heap[b]?
theorem KeptG.refl (g:Nat) (w:World):KeptG g w w:=⟨Nat.le_refl _,fun _ _ _=>rfl⟩
theorem KeptG.trans {g:Nat} {a b c:World} (h:KeptG g a b) (k:KeptG g b c):KeptG g a c:=⟨Nat.le_trans h.1 k.1,fun i hi hg=>by rw[k.2 i (Nat.lt_of_lt_of_le hi h.1) hg,h.2 i hi hg]⟩
theorem KeptG.of_below {g:Nat} {w w':World} (h:Below w.heap.size w w'):KeptG g w w':=⟨h.size,fun b hb _=>h.block b hb⟩
theorem KeptG.set (g o:Nat) (w:World) (u:Value):KeptG g w (w.setCell ⟨g,o,none⟩ u):=⟨by simp,fun b _ hne=>Below.heap_setCell _ _ _ _ hne⟩
theorem KeptG.drew {g:Nat} {w w':World} (h:KeptG g w w'):KeptG g w w'.drew:=h
open Classical in
noncomputable def extG (g:Nat) (w x:World):World:=if KeptG g w x then x else w
theorem extG_kept (g:Nat) (w x:World):KeptG g w (extG g w x):=by
 unfold extG
 split
 ·assumption
 ·exact KeptG.refl _ _
theorem extG_of {g:Nat} {w x:World} (h:KeptG g w x):x=extG g w x:=by
 unfold extG
 rw[if_pos h]
def ClsG (g:Nat) (w:World):World->Prop:=fun w'=>∃x,w'=extG g w x
theorem ClsG_def (g:Nat) (w:World):ClsG g w=fun w'=>∃x,w'=extG g w x:=rfl
theorem ClsG.of {g:Nat} {w x:World} (h:KeptG g w x):ClsG g w x:=⟨x,extG_of h⟩
theorem ClsG.kept {g:Nat} {w x:World} (h:ClsG g w x):KeptG g w x:=by
 obtain⟨y,rfl⟩:=h
 exact extG_kept g w y
theorem ClsG.drew (g:Nat) (w:World):ClsG g w {w with drawn:=w.drawn+1}:=.of ⟨Nat.le_refl _,fun _ _ _=>rfl⟩
theorem ClsG.trans {g:Nat} {w x y:World} (h:ClsG g w x) (k:KeptG g x y):ClsG g w y:=.of (h.kept.trans k)
def Og (g:Nat) (w:World) (b:Nat):Prop:=b<w.heap.size/\b≠g
@[go_sem] theorem extG_cell (g : Nat) (w x : World) (b o : Nat) (h : Og g w b) : (extG g w x).cell? ⟨b, o, none⟩ = w.cell? ⟨b, o, none⟩ := by
  unfold World.cell?
  rw[(extG_kept g w x).2 b h.1 h.2]
@[go_sem] theorem extG_frozen (g : Nat) (w x : World) (b o : Nat) (h : Og g w b) : (extG g w x).frozen? ⟨b, o, none⟩ = w.frozen? ⟨b, o, none⟩ := by
  unfold World.frozen?
  rw[(extG_kept g w x).2 b h.1 h.2]
open Classical in
noncomputable def ext (w x:World):World:=if Below w.heap.size w x then x else w
theorem ext_below (w x:World):Below w.heap.size w (ext w x):=by
 unfold ext
 split
 ·assumption
 ·exact Below.refl _ _
theorem ext_of {w x:World} (h:Below w.heap.size w x):x=ext w x:=by
 unfold ext
 rw[if_pos h]
def Cls (w:World):World->Prop:=fun w'=>∃x,w'=ext w x
theorem Cls_def (w:World):Cls w=fun w'=>∃x,w'=ext w x:=rfl
theorem Cls.of {w x:World} (h:Below w.heap.size w x):Cls w x:=⟨x,ext_of h⟩
theorem Cls.below {w x:World} (h:Cls w x):Below w.heap.size w x:=by
 obtain⟨y,rfl⟩:=h
 exact ext_below w y
theorem Cls.self (w:World):Cls w w:=.of (Below.refl _ _)
theorem Cls.drew (w:World):Cls w {w with drawn:=w.drawn+1}:=.of ((Below.refl _ _).drew)
theorem below_ext {a b c:World} (h:Below a.heap.size a b) (k:Below b.heap.size b c):Below a.heap.size a c:=
 h.trans (k.mono h.size)
theorem Cls.trans {w x y:World} (h:Cls w x) (k:Below x.heap.size x y):Cls w y:=.of (below_ext h.below k)
@[go_sem] theorem ext_cell (w x : World) (b o : Nat) (h : b < w.heap.size) : (ext w x).cell? ⟨b, o, none⟩ = w.cell? ⟨b, o, none⟩ := (ext_below w x).cell (p := ⟨b, o, none⟩) h
@[go_sem] theorem ext_frozen (w x : World) (b o : Nat) (h : b < w.heap.size) : (ext w x).frozen? ⟨b, o, none⟩ = w.frozen? ⟨b, o, none⟩ := (ext_below w x).frozen (p := ⟨b, o, none⟩) h
def IsBlk (w:World) (g:Nat) (cs:Array Value) (t:TypeId):Prop:=w.heap[g]?=some (.cells cs t (0,0))
section
variable {w w':World} {g:Nat} {cs:Array Value} {t:TypeId}
theorem IsBlk.cell (h:IsBlk w g cs t) {i:Nat} {v:Value} (hv:cs[i]?=some v):w.cell? ⟨g,i,none⟩=some v:=by
 unfold IsBlk at h;simp[World.cell?,h,hv]
theorem IsBlk.add (h:IsBlk w g cs t) {o j:Nat} {v:Value} (hv:cs[o+j]?=some v):w.cell? ((⟨g,o,none⟩:Addr).add j)=some v:=by
 have e:((⟨g,o,none⟩:Addr).add j)=⟨g,o+j,none⟩:=by
  unfold Addr.add
  split
  ·rename_i hj;subst hj;rfl
  ·rfl
 rw[e]
 exact h.cell hv
theorem IsBlk.frozen (h:IsBlk w g cs t) (i:Nat):w.frozen? ⟨g,i,none⟩=false:=by
 unfold IsBlk at h;simp[World.frozen?,h]
theorem IsBlk.lt (h:IsBlk w g cs t):g<w.heap.size:=by
 unfold IsBlk at h
 rcases Nat.lt_or_ge g w.heap.size with h'|h'
 ·exact h'
 ·simp[Array.getElem?_eq_none h']at h
theorem IsBlk.set (h:IsBlk w g cs t) (i:Nat) (v:Value):IsBlk (w.setCell ⟨g,i,none⟩ v) g (cs.setIfInBounds i v) t:=by
 have hlt:=h.lt
 have h':w.heap[g]=.cells cs t (0,0):=by simpa[IsBlk,Array.getElem?_eq_getElem hlt]using h
 show(w.heap.modify g _)[g]?=_
 rw[Array.getElem?_eq_getElem (by simpa using hlt),Array.getElem_modify_self,h']
 rfl
theorem IsBlk.set_other (h:IsBlk w g cs t) {a:Addr} (ha:a.block≠g) (v:Value):IsBlk (w.setCell a v) g cs t:=by
 unfold IsBlk
 rw[Below.heap_setCell _ _ _ _ (Ne.symm ha)]
 exact h
theorem IsBlk.drew (h:IsBlk w g cs t):IsBlk w.drew g cs t:=h
theorem IsBlk.below (h:IsBlk w g cs t) {B:Nat} (hb:Below B w w') (hg:g<B):IsBlk w' g cs t:=(hb.block g hg).trans h
theorem IsBlk.ext (h:IsBlk w g cs t) (hb:Below w.heap.size w w'):IsBlk w' g cs t:=h.below hb h.lt
theorem IsBlk.alloc (h:IsBlk w g cs t) (o:Obj):IsBlk (w.alloc o) g cs t:=h.below ((Below.refl w.heap.size w).alloc (Nat.le_refl _) o) h.lt
theorem IsBlk.new_at {k:Nat} (hk:k=w.heap.size):IsBlk (w.alloc (.cells cs t)) k cs t:=by
 subst hk
 show(w.heap.push _)[w.heap.size]?=_
 simp
theorem IsBlk.new (w:World) (cs:Array Value) (t:TypeId):IsBlk (w.alloc (.cells cs t)) w.heap.size cs t:=by
 show(w.heap.push _)[w.heap.size]?=_
 simp
end
def bs (l:List UInt8):ByteArray:=⟨l.toArray⟩
theorem bs_of {s:ByteArray} {l:List UInt8} (h:s.data.toList=l):s=bs l:=by
 subst h
 rfl
theorem bs_toList (l:List UInt8):(bs l).data.toList=l:=rfl
theorem bs_size (l:List UInt8):(bs l).size=l.length:=by
 show l.toArray.size=_
 simp
theorem ba_size (s:ByteArray):s.size=s.data.toList.length:=by
 show s.data.size=_
 simp
theorem bs_app (l m:List UInt8):bs l++bs m=bs (l++m):=bs_of (by simp[bs_toList])
def u8s (l:List UInt8):List Value:=l.map fun b=> .int .u8 (b.toNat:Int)
theorem u8s_length (l:List UInt8):(u8s l).length=l.length:=by simp[u8s]
theorem u8s_append (l m:List UInt8):u8s (l++m)=u8s l++u8s m:=by simp[u8s]
theorem u8s_one (b:UInt8):u8s [b]=[.int .u8 (b.toNat:Int)]:=rfl
theorem u8_of {n:Int} (h0:0<=n) (h:n<256):n=((UInt8.ofNat n.toNat).toNat:Int):=by
 rw[UInt8.toNat_ofNat']
 omega
theorem strOfNums_u8 (l:List UInt8):strOfNums (l.map fun b=>(b.toNat:Int))=bs l:=by
 apply bs_of
 rw[strOfNums_data,List.map_map]
 conv=>rhs;rw[←List.map_id l]
 apply List.map_congr_left
 intro b _
 simp
section
variable {P:Program} {w:World}
theorem run_string_own (src e dst:TypeId) (hs:P.underlying src=some (.slice e)) (he:P.underlying e=some (.int .u8)) (hd:P.underlying dst=some .string) {base n:Nat} {e':TypeId} {v:Value} {l:List UInt8} (h:w.ownsRow base e' 1 v n (u8s l)):
 (convert src dst v).run P w=.ok (.string (bs l)) w:=by
 have hl:l.length=n:=by have:=h.1;simpa[u8s]using this
 rcases h.2 with⟨rfl,rfl⟩|⟨g,cap,cur,rfl,_⟩
 ·obtain rfl:l=[]:=List.eq_nil_of_length_eq_zero hl
  exact run_convert_bytes_nil w src e hs he 0 0 dst hd
 ·have:=run_convert_bytes_arg (P:=P) w src e hs he g 0 n cap (l.map fun b=>(b.toNat:Int)) (by simpa using hl) (fun i hi=>?_) dst hd
  ·rw[this,strOfNums_u8]
  ·have hc:=h.cells (g:=g) rfl i (.int .u8 ((l.map fun b=>(b.toNat:Int)).getD i 0)) (by simp[u8s,show i<l.length by omega])
   have ha:(⟨g,0,none⟩:Addr).add i=⟨g,0+i,none⟩:=by unfold Addr.add;split<;>simp_all
   rwa[ha]at hc
theorem run_string_blk (src e dst:TypeId) (hs:P.underlying src=some (.slice e)) (he:P.underlying e=some (.int .u8)) (hd:P.underlying dst=some .string) {g n cap:Nat} {t:TypeId} {l:List UInt8} (hl:l.length=n) (h:IsBlk w g (u8s l).toArray t):
 (convert src dst (.slice (some ⟨g,0,none⟩) n cap)).run P w=.ok (.string (bs l)) w:=by
 have:=run_convert_bytes_arg (P:=P) w src e hs he g 0 n cap (l.map fun b=>(b.toNat:Int)) (by simpa using hl) (fun i hi=>?_) dst hd
 ·rw[this,strOfNums_u8]
 ·rw[Nat.zero_add]
  exact h.cell (by simp[u8s,show i<l.length by omega])
end
theorem own_of_blk {w:World} {g n cap base:Nat} {e:TypeId} {cur:Array Value} {xs:List Value} (h:IsBlk w g cur e) (hb:base<=g) (hn:n<=cap) (hc:cap<=maxLen) (hs:cur.size=cap) (hx:cur.toList.take n=xs):w.ownsRow base e 1 (.slice (some ⟨g,0,none⟩) n cap) n xs:=by
 refine⟨?_,.inr ⟨g,cap,cur,rfl,hb,h,hn,hc,by omega,by rw[Nat.mul_one];exact hx⟩⟩
 rw[←hx,List.length_take]
 simp
 omega
section
variable {P:Program} {ops:Array Oper} {rest:List Oper} {o:Oper} {a:Act} {Q:Exit->Act->World->Prop}
theorem push_one {W:World} (base:Nat) (hgd:o.guard=none) (s x:Operand) (t e:TypeId) (z:Value) (bytes:Nat)
 (ho:o.op=.call {callee:=.builtin .append,args:= #[s,x],argTypes:= #[t,t]})
 (ht:P.underlying t=some (.slice e)) (hinfo:(P.info? e).map (fun i=>(i.zero,i.size,i.bytes))=some (some z,1,bytes)) (hz:z.cells.size=1) (hb0:0<bytes)
 (v:Value) (xs:List Value) (HO:W.ownsRow base e 1 v xs.length xs) (y:Value) (hs:a.eval s=v) (hx:a.eval x=.slice (some ⟨W.heap.size,0,none⟩) 1 1) (h1:y.oneCell'=true)
 (hbase:base<=W.heap.size) (hl:(xs.length+1)*bytes<=140737488355328)
 (h:∀v1 w1,w1.ownsRow base e 1 v1 (xs.length+1) (xs++[y])->W.grownBy w1 v.ownBlock->wpList P ops Q rest (a.put o.dst v1) w1):
 wpList P ops Q (o::rest) a (W.alloc (.cells #[y] e)):=by
 obtain⟨i0,hi,hzz⟩:=Option.map_eq_some_iff.1 hinfo
 simp only[Prod.mk.injEq]at hzz
 obtain⟨hz0,hz1,hz2⟩:=hzz
 have hlen:xs.length+1<=140737488355328:=Nat.le_trans (Nat.le_mul_of_pos_right _ hb0) hl
 refine wpList_append_own (W.alloc (.cells #[y] e)) hgd s x t ho base e i0 z 1 bytes ht hi hz0 hz1 hz2 hz (by omega) v xs.length xs hs (HO.alloc _) ⟨W.heap.size,0,none⟩ 1 1 [y] hx rfl ?_ (by simpa using h1) (by simp only[maxLen];omega) hl (by simp;omega) ?_
 ·intro j u hj
  have hj0:j=0:=by
   rcases Nat.lt_or_ge j 1 with h'|h'
   ·omega
   ·rw[List.getElem?_eq_none (by simpa using h')]at hj;cases hj
  subst hj0
  exact(IsBlk.new W #[y] e).add (o:=0) (by simpa using hj)
 ·intro v1 w1 hown hg _
  exact h v1 w1 hown (World.grownBy.trans (World.grownBy_alloc W _ _) hg)
end
theorem below_set {B:Nat} {w0 w:World} (h:Below B w0 w) {b o:Nat} {u:Value} (hb:B<=b):Below B w0 (w.setCell ⟨b,o,none⟩ u):=h.setCell (p:=⟨b,o,none⟩) hb u
theorem results_ct {P:Program} {fn:Func} {p u:Tmp} {ty:TypeId} (h:fn.results= #[.cell p ty,.tmp u]) {tmps:Array Value} {w:World} {g:Nat} {t:TypeId} {cs:Array Value} {d:TypeDesc}
 (hp:tmps.getD p undef=.pointer (some ⟨g,0,none⟩)) (hg:IsBlk w g cs t) (hu:P.underlying ty=some d) (hd:(match d with| .struct _| .array _ _=>true|_=>false)=true) (hi:(P.info? ty).map (·.size)=some cs.size) {v:Value} (hv:tmps.getD u undef=v):
 (results fn tmps).run P w=.ok (.tuple #[.agg cs,v]) w:=by
 have hp':tmps[p]?.getD undef=.pointer (some ⟨g,0,none⟩):=by simpa using hp
 have hv':tmps[u]?.getD undef=v:=by simpa using hv
 simp[results,h,hp',hv',asAddr,run_loadVar_row w g t ty cs (0,0) d hg hu hd hi]
theorem blk_grown {w w1:World} {g:Nat} {cs:Array Value} {t:TypeId} {row:Option Nat} (h:IsBlk w g cs t) (hg:w.grownBy w1 row) (hne:row≠some g):IsBlk w1 g cs t:=(hg.block g h.lt (fun e=>hne e.symm)).trans h
theorem below_grown {B:Nat} {w0 w w1:World} {row:Option Nat} (h:Below B w0 w) (hg:w.grownBy w1 row) (hB:B<=w.heap.size) (hr:∀k,row=some k->B<=k):Below B w0 w1:=h.grown hg hB hr
theorem own_ext {w w1:World} {base:Nat} {e:TypeId} {size n:Nat} {v:Value} {xs:List Value} (h:w.ownsRow base e size v n xs) (hb:Below w.heap.size w w1):w1.ownsRow base e size v n xs:=
 h.kept (row:=none) ⟨hb.os,hb.tape,hb.output,hb.size,fun k hk _=>hb.block k hk⟩ (by cases v.ownBlock<;>simp)
section
variable {P:Program} {ops:Array Oper} {rest:List Oper} {o:Oper} {a:Act} {Q:Exit->Act->World->Prop}
theorem push_at {W:World} (base:Nat) (hgd:o.guard=none) (s x:Operand) (t e:TypeId) (z:Value) (bytes:Nat)
 (ho:o.op=.call {callee:=.builtin .append,args:= #[s,x],argTypes:= #[t,t]})
 (ht:P.underlying t=some (.slice e)) (hinfo:(P.info? e).map (fun i=>(i.zero,i.size,i.bytes))=some (some z,1,bytes)) (hz:z.cells.size=1) (hb0:0<bytes)
 (v:Value) (n:Nat) (xs:List Value) (HO:W.ownsRow base e 1 v n xs) (g m:Nat) (news:List Value) (hG:IsBlk W g news.toArray e) (hnl:news.length=m) (hs:a.eval s=v) (hx:a.eval x=.slice (some ⟨g,0,none⟩) m m) (h1:∀u∈news,u.oneCell'=true)
 (hbase:base<=W.heap.size) (hl:(n+m)*bytes<=140737488355328)
 (h:∀v1 w1,w1.ownsRow base e 1 v1 (n+m) (xs++news)->W.grownBy w1 v.ownBlock->wpList P ops Q rest (a.put o.dst v1) w1):
 wpList P ops Q (o::rest) a W:=by
 obtain⟨i0,hi,hzz⟩:=Option.map_eq_some_iff.1 hinfo
 simp only[Prod.mk.injEq]at hzz
 obtain⟨hz0,hz1,hz2⟩:=hzz
 have hlen:n+m<=140737488355328:=Nat.le_trans (Nat.le_mul_of_pos_right _ hb0) hl
 refine wpList_append_own W hgd s x t ho base e i0 z 1 bytes ht hi hz0 hz1 hz2 hz (by omega) v n xs hs HO ⟨g,0,none⟩ m m news hx (by omega) ?_ h1 (by simp only[maxLen];omega) hl hbase ?_
 ·intro j u hj
  exact hG.add (o:=0) (by simpa using hj)
 ·intro v1 w1 hown hg _
  exact h v1 w1 hown hg
end
theorem own_open {w:World} {base n:Nat} {e:TypeId} {v:Value} {xs:List Value} (h:w.ownsRow base e 1 v n xs) (hn:0<n):
 ∃g cap,v=.slice (some ⟨g,0,none⟩) n cap/\base<=g/\g<w.heap.size/\n<=cap/\∀i x,i<n->xs[i]?=some x->w.cell? ⟨g,i,none⟩=some x:=by
 obtain⟨hl,h⟩:=h
 rcases h with⟨_,h0⟩|⟨g,cap,cur,rfl,hb,hh,hnc,hcm,hcs,hx⟩
 ·omega
 ·refine⟨g,cap,rfl,hb,(Array.getElem?_eq_some_iff.1 hh).1,hnc,fun i x hi hxi=>?_⟩
  rw[←hx,List.getElem?_take_of_lt (by omega)]at hxi
  exact(show IsBlk w g cur e from hh).cell (by simpa using hxi)
theorem own_alloc {w:World} {base n:Nat} {e:TypeId} {v:Value} {xs:List Value} (h:w.ownsRow base e 1 v n xs) (o:Obj):(w.alloc o).ownsRow base e 1 v n xs:=own_ext h ((Below.refl _ _).alloc (Nat.le_refl _) o)
theorem own_lit {w:World} {base g:Nat} {e:TypeId} {cs:List Value} {n:Nat} (h:IsBlk w g cs.toArray e) (hb:base<=g) (hn:cs.length=n) (hm:n<=maxLen):w.ownsRow base e 1 (.slice (some ⟨g,0,none⟩) n n) n cs:=
 own_of_blk h hb (Nat.le_refl _) hm (by simpa using hn) (by rw[List.take_of_length_le (by simp;omega)])
section
variable {P:Program} {ops:Array Oper} {T:List Nat} {Q:Exit->Act->World->Prop}
theorem Then.alloc {wr w1:World} {fuel:Nat} {listed:Array Bool} {a:Act} {o:Obj} (hw1:Cls wr w1) (h:mixAt P ops T (Cls (w1.alloc o)) Q fuel listed a):Then P ops T (Cls wr) Q fuel listed a (w1.alloc o):=
 ⟨Cls (w1.alloc o),Cls.self _,fun x hx=>hw1.trans (below_ext ((Below.refl _ _).alloc (Nat.le_refl _) o) hx.below),h⟩
end
theorem toList_data (s:ByteArray):s.toList=s.data.toList:=ByteArray.toList_eq s
theorem tl_bs (l:List UInt8):(bs l).toList=l:=toList_data _
theorem bs_data (s:ByteArray):bs s.data.toList=s:=rfl
theorem extract_data (s:ByteArray) (a b:Nat):(s.extract a b).data.toList=(s.data.toList.take b).drop a:=by
 simp[ByteArray.data_extract,Array.toList_extract,List.extract_eq_take_drop,List.drop_take]
theorem bs_extract (l:List UInt8) (a b:Nat):(bs l).extract a b=bs ((l.take b).drop a):=bs_of (extract_data _ a b)
theorem tl_extract (s:ByteArray) (a b:Nat):(s.extract a b).toList=(s.data.toList.take b).drop a:=by rw[toList_data,extract_data]
theorem bs_head (l:List UInt8) (b:Nat):(bs l).extract 0 b=bs (l.take b):=by rw[bs_extract,List.drop_zero]
theorem bs_get (l:List UInt8) (i:Nat) (h:i<(bs l).size):(bs l)[i]=l[i]'(by rw[bs_size]at h;exact h):=rfl
def HasS (S:Nat->Prop) (w:World) (p:Option Addr) (l:List (List UInt8)):Prop:=∀i (h:i<l.length),∃g o,p=some ⟨g,o,none⟩/\S g/\g<w.heap.size/\w.cell? ⟨g,o+i,none⟩=some (.string (bs l[i]))
theorem HasS.ext_to {S S':Nat->Prop} {w w':World} {p:Option Addr} {l:List (List UInt8)} (h:HasS S w p l) (hS:∀b,S b->S' b) (hw:∀b,S b->b<w.heap.size->w'.heap[b]?=w.heap[b]?):HasS S' w' p l:=by
 intro i hi
 obtain⟨g,o,h1,h2,h3,h4⟩:=h i hi
 have hb:=hw g h2 h3
 refine⟨g,o,h1,hS g h2,?_,?_⟩
 ·rcases Nat.lt_or_ge g w'.heap.size with h'|h'
  ·exact h'
  ·rw[Array.getElem?_eq_none h',Array.getElem?_eq_getElem h3]at hb
   cases hb
 ·rw[←h4]
  unfold World.cell?
  simp only[hb]
theorem HasS.ext {S:Nat->Prop} {w w':World} {p:Option Addr} {l:List (List UInt8)} (h:HasS S w p l) (hb:Below w.heap.size w w'):HasS S w' p l:=h.ext_to (fun _ h=>h) (fun b _ hlt=>hb.block b hlt)
inductive DVal where
 |mk (k:Nat) (b:Bool) (n:Int) (s:List UInt8) (l:List DVal) (f:List (List UInt8×DVal))
def DVal.zero :DVal:=.mk 0 false 0 [] [] []
theorem DVal.size_l {k b n s l f} (v:DVal) (h:v∈l):SizeOf.sizeOf v<SizeOf.sizeOf (DVal.mk k b n s l f):=by
 have:=List.sizeOf_lt_of_mem h
 simp
 omega
theorem DVal.size_f {k b n s l f} (x:List UInt8×DVal) (h:x∈f):SizeOf.sizeOf x.2<SizeOf.sizeOf (DVal.mk k b n s l f):=by
 have:=List.sizeOf_lt_of_mem h
 obtain⟨a,b⟩:=x
 simp at*
 omega
def CellsAt (S:Nat->Prop) (w:World) (g o:Nat) (cs:List Value):Prop:=S g/\g<w.heap.size/\∀j,j<cs.length->w.cell? ⟨g,o+j,none⟩=cs[j]?
def HasVal (S:Nat->Prop) (w:World):DVal->List Value->Prop
 | .mk k b n s l f,cs=>∃pl cl pf cf,cs=[.int .u8 (k:Int),.bool b,.int .i64 n,.string (bs s),.slice pl l.length cl,.slice pf f.length cf]∧
    (k<256/\ -9223372036854775808<=n/\n<=9223372036854775807/\s.length<=1073741824/\l.length<=1073741824/\f.length<=1073741824/\l.length<=cl/\cl<=maxLen/\f.length<=cf/\cf<=maxLen)∧
    (∀i (h:i<l.length),∃g o cs,pl=some ⟨g,o,none⟩/\CellsAt S w g (o+i*6) cs/\HasVal S w l[i] cs)∧
    (∀i (h:i<f.length),∃g o cs,pf=some ⟨g,o,none⟩/\(f[i].1.length<=1073741824/\CellsAt S w g (o+i*7) (.string (bs f[i].1)::cs))/\HasVal S w f[i].2 cs)
termination_by v =>SizeOf.sizeOf v
decreasing_by
 ·exact DVal.size_l _ (List.getElem_mem _)
 ·exact DVal.size_f _ (List.getElem_mem _)
def HasL (S:Nat->Prop) (w:World) (p:Option Addr) (l:List DVal):Prop:=∀i (h:i<l.length),∃g o cs,p=some ⟨g,o,none⟩/\CellsAt S w g (o+i*6) cs/\HasVal S w l[i] cs
def HasF (S:Nat->Prop) (w:World) (p:Option Addr) (f:List (List UInt8×DVal)):Prop:=∀i (h:i<f.length),∃g o cs,p=some ⟨g,o,none⟩/\(f[i].1.length<=1073741824/\CellsAt S w g (o+i*7) (.string (bs f[i].1)::cs))/\HasVal S w f[i].2 cs
theorem hasVal_mk {S:Nat->Prop} {w:World} {k:Nat} {b:Bool} {n:Int} {s:List UInt8} {l:List DVal} {f:List (List UInt8×DVal)} {cs:List Value}:
 HasVal S w (.mk k b n s l f) cs↔∃pl cl pf cf,cs=[.int .u8 (k:Int),.bool b,.int .i64 n,.string (bs s),.slice pl l.length cl,.slice pf f.length cf]∧
  (k<256/\ -9223372036854775808<=n/\n<=9223372036854775807/\s.length<=1073741824/\l.length<=1073741824/\f.length<=1073741824/\l.length<=cl/\cl<=maxLen/\f.length<=cf/\cf<=maxLen)/\HasL S w pl l/\HasF S w pf f:=by
 rw[HasVal]
 rfl
theorem HasVal.len {S:Nat->Prop} {w:World} {v:DVal} {cs:List Value} (h:HasVal S w v cs):cs.length=6:=by
 obtain⟨k,b,n,s,l,f⟩:=v
 obtain⟨_,_,_,_,rfl,_⟩:=hasVal_mk.1 h
 rfl
theorem CellsAt.kept {S S':Nat->Prop} {w w':World} {g o:Nat} {cs:List Value} (h:CellsAt S w g o cs) (hS:∀b,S b->S' b) (hw:∀b,S b->b<w.heap.size->w'.heap[b]?=w.heap[b]?):CellsAt S' w' g o cs:=by
 obtain⟨h1,h2,h3⟩:=h
 have hb:=hw g h1 h2
 refine⟨hS g h1,?_,fun j hj=>?_⟩
 ·rcases Nat.lt_or_ge g w'.heap.size with h'|h'
  ·exact h'
  ·rw[Array.getElem?_eq_none h',Array.getElem?_eq_getElem h2]at hb
   cases hb
 ·rw[←h3 j hj]
  unfold World.cell?
  simp only[hb]
theorem HasVal.kept {S S':Nat->Prop} {w w':World} (hS:∀b,S b->S' b) (hw:∀b,S b->b<w.heap.size->w'.heap[b]?=w.heap[b]?):∀(m:Nat) (v:DVal) (cs:List Value),SizeOf.sizeOf v<m->HasVal S w v cs->HasVal S' w' v cs:=by
 intro m
 induction m with
 |zero=>intro v cs h;omega
 |succ m ih=>
  intro v cs hm h
  obtain⟨k,b,n,s,l,f⟩:=v
  obtain⟨pl,cl,pf,cf,rfl,hb,hl,hf⟩:=hasVal_mk.1 h
  refine hasVal_mk.2 ⟨pl,cl,pf,cf,rfl,hb,?_,?_⟩
  ·intro i hi
   obtain⟨g,o,cs,h1,h2,h3⟩:=hl i hi
   have hz:=DVal.size_l (k:=k) (b:=b) (n:=n) (s:=s) (f:=f) l[i] (List.getElem_mem _)
   exact⟨g,o,cs,h1,h2.kept hS hw,ih _ _ (by omega) h3⟩
  ·intro i hi
   obtain⟨g,o,cs,h1,h2,h3⟩:=hf i hi
   have hz:=DVal.size_f (k:=k) (b:=b) (n:=n) (s:=s) (l:=l) f[i] (List.getElem_mem _)
   exact⟨g,o,cs,h1,⟨h2.1,h2.2.kept hS hw⟩,ih _ _ (by omega) h3⟩
theorem HasVal.ext {S:Nat->Prop} {w w':World} {v:DVal} {cs:List Value} (h:HasVal S w v cs) (hb:Below w.heap.size w w'):HasVal S w' v cs:=
 HasVal.kept (fun _ h=>h) (fun b _ hlt=>hb.block b hlt) _ v cs (Nat.lt_succ_self _) h
theorem HasVal.ext_to {S S':Nat->Prop} {w w':World} {v:DVal} {cs:List Value} (h:HasVal S w v cs) (hS:∀b,S b->S' b) (hw:∀b,S b->b<w.heap.size->w'.heap[b]?=w.heap[b]?):HasVal S' w' v cs:=
 HasVal.kept hS hw _ v cs (Nat.lt_succ_self _) h
theorem HasL.ext_to {S S':Nat->Prop} {w w':World} {p:Option Addr} {l:List DVal} (h:HasL S w p l) (hS:∀b,S b->S' b) (hw:∀b,S b->b<w.heap.size->w'.heap[b]?=w.heap[b]?):HasL S' w' p l:=by
 intro i hi
 obtain⟨g,o,cs,h1,h2,h3⟩:=h i hi
 exact⟨g,o,cs,h1,h2.kept hS hw,h3.ext_to hS hw⟩
theorem HasF.ext_to {S S':Nat->Prop} {w w':World} {p:Option Addr} {l:List (List UInt8×DVal)} (h:HasF S w p l) (hS:∀b,S b->S' b) (hw:∀b,S b->b<w.heap.size->w'.heap[b]?=w.heap[b]?):HasF S' w' p l:=by
 intro i hi
 obtain⟨g,o,cs,h1,h2,h3⟩:=h i hi
 exact⟨g,o,cs,h1,⟨h2.1,h2.2.kept hS hw⟩,h3.ext_to hS hw⟩
theorem HasL.ext {S:Nat->Prop} {w w':World} {p:Option Addr} {l:List DVal} (h:HasL S w p l) (hb:Below w.heap.size w w'):HasL S w' p l:=h.ext_to (fun _ h=>h) (fun b _ hlt=>hb.block b hlt)
theorem HasF.ext {S:Nat->Prop} {w w':World} {p:Option Addr} {l:List (List UInt8×DVal)} (h:HasF S w p l) (hb:Below w.heap.size w w'):HasF S w' p l:=h.ext_to (fun _ h=>h) (fun b _ hlt=>hb.block b hlt)
theorem CellsAt.six {S:Nat->Prop} {w:World} {g o:Nat} {c0 c1 c2 c3 c4 c5:Value} (h:CellsAt S w g o [c0,c1,c2,c3,c4,c5]):
 w.cell? ⟨g,o,none⟩=some c0/\w.cell? ⟨g,o+1,none⟩=some c1/\w.cell? ⟨g,o+2,none⟩=some c2/\w.cell? ⟨g,o+3,none⟩=some c3/\w.cell? ⟨g,o+4,none⟩=some c4/\w.cell? ⟨g,o+5,none⟩=some c5:=
 ⟨h.2.2 0 (by simp),h.2.2 1 (by simp),h.2.2 2 (by simp),h.2.2 3 (by simp),h.2.2 4 (by simp),h.2.2 5 (by simp)⟩
theorem CellsAt.seven {S:Nat->Prop} {w:World} {g o:Nat} {c0 c1 c2 c3 c4 c5 c6:Value} (h:CellsAt S w g o [c0,c1,c2,c3,c4,c5,c6]):
 w.cell? ⟨g,o,none⟩=some c0/\w.cell? ⟨g,o+1,none⟩=some c1/\w.cell? ⟨g,o+2,none⟩=some c2/\w.cell? ⟨g,o+3,none⟩=some c3/\w.cell? ⟨g,o+4,none⟩=some c4/\w.cell? ⟨g,o+5,none⟩=some c5/\w.cell? ⟨g,o+6,none⟩=some c6:=
 ⟨h.2.2 0 (by simp),h.2.2 1 (by simp),h.2.2 2 (by simp),h.2.2 3 (by simp),h.2.2 4 (by simp),h.2.2 5 (by simp),h.2.2 6 (by simp)⟩
mutual
def bulkV :DVal->Nat
 | .mk _ _ _ s l f=>s.length+bulkL l+bulkF f
def bulkL :List DVal->Nat
 |[]=>0
 |v::l=>1+bulkV v+bulkL l
def bulkF :List (List UInt8×DVal)->Nat
 |[]=>0
 |(x,v)::l=>1+x.length+bulkV v+bulkF l
end
mutual
def sameV :DVal->DVal->Bool
 | .mk k b n s l f,.mk k' b' n' s' l' f'=>k==k'&&b==b'&&n==n'&&s==s'&&sameL l l'&&sameF f f'
def sameL :List DVal->List DVal->Bool
 |[],[]=>true
 |a::l,b::m=>sameV a b&&sameL l m
 |_,_=>false
def sameF :List (List UInt8×DVal)->List (List UInt8×DVal)->Bool
 |[],[]=>true
 |(x,a)::l,(y,b)::m=>x==y&&sameV a b&&sameF l m
 |_,_=>false
end
mutual
theorem sameV_iff :∀a b,sameV a b=true↔a=b
 | .mk k b n s l f,.mk k' b' n' s' l' f'=>by
   rw[sameV]
   simp[sameL_iff l l',sameF_iff f f',and_assoc]
theorem sameL_iff :∀a b,sameL a b=true↔a=b
 |[],[]=>by simp[sameL]
 |a::l,[]=>by simp[sameL]
 |[],a::l=>by simp[sameL]
 |a::l,b::m=>by simp[sameL,sameV_iff a b,sameL_iff l m]
theorem sameF_iff :∀a b,sameF a b=true↔a=b
 |[],[]=>by simp[sameF]
 |a::l,[]=>by simp[sameF]
 |[],a::l=>by simp[sameF]
 |(x,a)::l,(y,b)::m=>by simp[sameF,sameV_iff a b,sameF_iff l m]
end
structure Rel {α:Type} (R:(Nat->Prop)->World->α->List Value->Prop) (sz:Nat):Prop where
 kept:∀{S S':Nat->Prop} {w w':World} {a:α} {cs:List Value},R S w a cs->(∀b,S b->S' b)->(∀b,S b->b<w.heap.size->w'.heap[b]?=w.heap[b]?)->R S' w' a cs
 lt:∀{S:Nat->Prop} {w:World} {a:α} {cs:List Value},R S w a cs->R (fun b=>S b/\b<w.heap.size) w a cs
 len:∀{S:Nat->Prop} {w:World} {a:α} {cs:List Value},R S w a cs->cs.length=sz
 one:∀{S:Nat->Prop} {w:World} {a:α} {cs:List Value},R S w a cs->∀u∈cs,u.oneCell'=true
def Acc {α:Type} (R:(Nat->Prop)->World->α->List Value->Prop) (B:Nat) (e:TypeId) (sz:Nat) (w:World) (v:Value) (vs:List α):Prop:=
 ∃css:List (List Value),w.ownsRow B e sz v vs.length css.flatten/\css.length=vs.length/\∀i (h:i<vs.length) (h':i<css.length),R (fun b=>B<=b/\v.ownBlock≠some b) w vs[i] css[i]
section
variable {α:Type} {R:(Nat->Prop)->World->α->List Value->Prop} {sz:Nat}
theorem Acc.nil (B:Nat) (e:TypeId) (w:World):Acc R B e sz w (.slice none 0 0) []:=⟨[],⟨by simp,Or.inl ⟨rfl,rfl⟩⟩,rfl,fun i h=>by simp at h⟩
theorem owns_kept {w w':World} {B n:Nat} {e:TypeId} {v:Value} {xs:List Value} (h:w.ownsRow B e sz v n xs) (hk:∀b,v.ownBlock=some b->w'.heap[b]?=w.heap[b]?):w'.ownsRow B e sz v n xs:=by
 obtain⟨h1,h2⟩:=h
 refine⟨h1,?_⟩
 rcases h2 with h2|⟨g,cap,cur,rfl,hb,hg,hr⟩
 ·exact Or.inl h2
 ·exact Or.inr ⟨g,cap,cur,rfl,hb,(hk g rfl).trans hg,hr⟩
theorem Acc.kept (hR:Rel R sz) {B:Nat} {e:TypeId} {w w':World} {v:Value} {vs:List α} (h:Acc R B e sz w v vs) (hk:∀b,B<=b->b<w.heap.size->w'.heap[b]?=w.heap[b]?):Acc R B e sz w' v vs:=by
 obtain⟨css,h1,h2,h3⟩:=h
 exact⟨css,owns_kept h1 (fun b hb=>hk b (h1.lt b hb).1 (h1.lt b hb).2),h2,fun i hi hi'=>hR.kept (h3 i hi hi') (fun _ h=>h) (fun b hb hlt=>hk b hb.1 hlt)⟩
theorem Acc.lt {B:Nat} {e:TypeId} {w:World} {v:Value} {vs:List α} (h:Acc R B e sz w v vs):∀k,v.ownBlock=some k->B<=k/\k<w.heap.size:=by
 obtain⟨css,h1,_⟩:=h
 exact fun k hk=>h1.lt k hk
theorem Acc.slice {B:Nat} {e:TypeId} {w:World} {v:Value} {vs:List α} (h:Acc R B e sz w v vs):∃p c,v=.slice p vs.length c:=by
 obtain⟨css,h1,_⟩:=h
 rcases h1.2 with⟨rfl,h0⟩|⟨g,cap,cur,rfl,_⟩
 ·exact⟨none,0,by rw[h0]⟩
 ·exact⟨_,_,rfl⟩
theorem flatten_get {css:List (List Value)} (hl:∀c∈css,c.length=sz):∀{i j:Nat} (hi:i<css.length) (hj:j<sz),css.flatten[i*sz+j]?=css[i][j]?:=by
 induction css with
 |nil=>intro i j hi;simp at hi
 |cons c css ih=>
  intro i j hi hj
  have hc:=hl c (by simp)
  rw[List.flatten_cons]
  cases i with
  |zero=>rw[Nat.zero_mul,Nat.zero_add,List.getElem?_append_left (by omega)];rfl
  |succ i=>
   rw[List.getElem?_append_right (by rw[hc,Nat.succ_mul];omega),hc,show(i+1)*sz+j-sz=i*sz+j by rw[Nat.succ_mul];omega,ih (fun d hd=>hl d (by simp[hd])) (by simpa using hi) hj]
   rfl
theorem Acc.cells (hR:Rel R sz) {B:Nat} {e:TypeId} {w:World} {v:Value} {vs:List α} (h:Acc R B e sz w v vs) {S:Nat->Prop} (hS:∀b,B<=b->S b):
 ∃p c,v=.slice p vs.length c/\vs.length<=c/\c<=maxLen/\∀i (hi:i<vs.length),∃g cs,p=some ⟨g,0,none⟩/\CellsAt S w g (0+i*sz) cs/\R S w vs[i] cs:=by
 obtain⟨css,h1,h2,h3⟩:=h
 have hl:∀c∈css,c.length=sz:=fun c hc=>by
  obtain⟨i,hi,rfl⟩:=List.getElem_of_mem hc
  exact hR.len (h3 i (by omega) hi)
 rcases h1.2 with⟨rfl,h0⟩|⟨g,cap,cur,rfl,hb,hg,hnc,hcm,hcs,hx⟩
 ·exact⟨none,0,by rw[h0],by omega,by unfold maxLen;omega,fun i hi=>by omega⟩
 ·refine⟨_,cap,rfl,hnc,hcm,fun i hi=>?_⟩
  have hi':i<css.length:=by omega
  refine⟨g,css[i],rfl,⟨hS g hb,(show IsBlk w g cur e from hg).lt,fun j hj=>?_⟩,hR.kept (h3 i hi hi') (fun b hb=>hS b hb.1) (fun _ _ _=>rfl)⟩
  have hjs:j<sz:=by rw[←hl _ (List.getElem_mem hi')];exact hj
  have hg2:=flatten_get hl hi' hjs
  rw[←hx,List.getElem?_take]at hg2
  have hle:i*sz+j<vs.length*sz:=by
   have:(i+1)*sz<=vs.length*sz:=Nat.mul_le_mul_right _ (by omega)
   rw[Nat.succ_mul]at this
   omega
  rw[if_pos hle]at hg2
  have hv:css[i][j]?=some (css[i][j]):=List.getElem?_eq_getElem hj
  rw[hv]at hg2⊢
  rw[Nat.zero_add]
  exact(show IsBlk w g cur e from hg).cell (by simpa using hg2)
section
variable {P:Program} {ops:Array Oper} {rest:List Oper} {o:Oper} {a:Act} {Q:Exit->Act->World->Prop}
theorem push_acc (hR:Rel R sz) {W:World} (B:Nat) (hgd:o.guard=none) (s x:Operand) (t e:TypeId) (z:Value) (bytes:Nat)
 (ho:o.op=.call {callee:=.builtin .append,args:= #[s,x],argTypes:= #[t,t]})
 (ht:P.underlying t=some (.slice e)) (hinfo:(P.info? e).map (fun i=>(i.zero,i.size,i.bytes))=some (some z,sz,bytes)) (hz:z.cells.size=sz) (hsz:0<sz)
 (v:Value) (vs:List α) (HA:Acc R B e sz W v vs) (g:Nat) (cs:List Value) (y:α) (hG:IsBlk W g cs.toArray e) (hy:R (fun b=>B<=b/\v.ownBlock≠some b) W y cs) (hs:a.eval s=v) (hx:a.eval x=.slice (some ⟨g,0,none⟩) 1 1)
 (hB:B<=W.heap.size) (hl:(vs.length+1)*bytes<=140737488355328) (hl2:vs.length+1<=maxLen)
 (h:∀g1 cap w1,Acc R B e sz w1 (.slice (some ⟨g1,0,none⟩) (vs.length+1) cap) (vs++[y])->W.grownBy w1 v.ownBlock->B<=g1->(v.ownBlock=some g1\/g1=W.heap.size)->g1<w1.heap.size->wpList P ops Q rest (a.put o.dst (.slice (some ⟨g1,0,none⟩) (vs.length+1) cap)) w1):
 wpList P ops Q (o::rest) a W:=by
 obtain⟨i0,hi,hzz⟩:=Option.map_eq_some_iff.1 hinfo
 simp only[Prod.mk.injEq]at hzz
 obtain⟨hz0,hz1,hz2⟩:=hzz
 obtain⟨css,h1,h2,h3⟩:=HA
 refine wpList_append_lies W hgd s x t ho B e i0 z sz bytes ht hi hz0 hz1 hz2 hz hsz v vs.length css.flatten hs h1 ⟨g,0,none⟩ 1 1 cs hx (by rw[hR.len hy];omega) ?_ (hR.one hy) (by omega) hl2 hl hB W.heap.size rfl ?_
 ·intro j u hj
  exact hG.add (o:=0) (by simpa using hj)
 ·intro g1 cap w1 hown hg hor hlt
  have hB1:B<=g1:=by
   rcases hor with hor|hor
   ·exact(h1.lt g1 hor).1
   ·omega
  refine h g1 cap w1 ⟨css++[cs],?_,by simp[h2],fun i hi' hi2=>?_⟩ hg hB1 hor hlt
  ·have:(css++[cs]).flatten=css.flatten++cs:=by simp
   rw[this,List.length_append]
   exact hown
  ·have key:∀(y:α) (cs:List Value),R (fun b=>B<=b/\v.ownBlock≠some b) W y cs->R (fun b=>B<=b/\(Value.slice (some ⟨g1,0,none⟩) (vs.length+1) cap).ownBlock≠some b) w1 y cs:=fun y cs hr=>by
    refine hR.kept (hR.lt hr) (fun b hb=>⟨hb.1.1,fun e=>?_⟩) (fun b hb hlt=>hg.block b hlt (fun e=>hb.1.2 e.symm))
    have e2:g1=b:=Option.some.inj e
    subst e2
    rcases hor with hor|hor
    ·exact hb.1.2 hor
    ·omega
   rcases Nat.lt_or_ge i vs.length with hlt2|hge
   ·have e1:(vs++[y])[i]=vs[i]:=List.getElem_append_left hlt2
    have e2:(css++[cs])[i]=css[i]:=List.getElem_append_left (by omega)
    rw[e1,e2]
    exact key _ _ (h3 i hlt2 (by omega))
   ·have hie:i=vs.length:=by simp at hi';omega
    subst hie
    have e1:(vs++[y])[vs.length]=y:=by simp
    have e2:(css++[cs])[vs.length]=cs:=by simp[←h2]
    rw[e1,e2]
    exact key _ _ hy
end
end
theorem hasVal_lt :∀(m:Nat) (v:DVal) (S:Nat->Prop) (w:World) (cs:List Value),SizeOf.sizeOf v<m->HasVal S w v cs->HasVal (fun b=>S b/\b<w.heap.size) w v cs:=by
 intro m
 induction m with
 |zero=>intro v S w cs h;omega
 |succ m ih=>
  intro v S w cs hm h
  obtain⟨k,b,n,s,l,f⟩:=v
  obtain⟨pl,cl,pf,cf,rfl,hb,hl,hf⟩:=hasVal_mk.1 h
  refine hasVal_mk.2 ⟨pl,cl,pf,cf,rfl,hb,?_,?_⟩
  ·intro i hi
   obtain⟨g,o,cs,h1,h2,h3⟩:=hl i hi
   have hz:=DVal.size_l (k:=k) (b:=b) (n:=n) (s:=s) (f:=f) l[i] (List.getElem_mem _)
   exact⟨g,o,cs,h1,⟨⟨h2.1,h2.2.1⟩,h2.2⟩,ih _ _ _ _ (by omega) h3⟩
  ·intro i hi
   obtain⟨g,o,cs,h1,h2,h3⟩:=hf i hi
   have hz:=DVal.size_f (k:=k) (b:=b) (n:=n) (s:=s) (l:=l) f[i] (List.getElem_mem _)
   exact⟨g,o,cs,h1,⟨h2.1,⟨h2.2.1,h2.2.2.1⟩,h2.2.2⟩,ih _ _ _ _ (by omega) h3⟩
theorem relV :Rel HasVal 6 where
 kept:=fun h h1 h2=>h.ext_to h1 h2
 lt:=fun h=>hasVal_lt _ _ _ _ _ (Nat.lt_succ_self _) h
 len:=fun h=>h.len
 one:=fun{S w a cs} h=>by
  obtain⟨k,b,n,s,l,f⟩:=a
  obtain⟨pl,cl,pf,cf,rfl,_⟩:=hasVal_mk.1 h
  simp[Value.oneCell']
def HasFld (S:Nat->Prop) (w:World) (p:List UInt8×DVal) (cs:List Value):Prop:=∃cs',cs=.string (bs p.1)::cs'/\p.1.length<=1073741824/\HasVal S w p.2 cs'
theorem relF :Rel HasFld 7 where
 kept:=fun⟨c,h,hl,hv⟩ h1 h2=>⟨c,h,hl,hv.ext_to h1 h2⟩
 lt:=fun⟨c,h,hl,hv⟩=>⟨c,h,hl,relV.lt hv⟩
 len:=fun⟨c,h,hl,hv⟩=>by rw[h,List.length_cons,hv.len]
 one:=fun⟨c,h,hl,hv⟩=>by
  intro u hu
  rw[h]at hu
  rcases List.mem_cons.1 hu with rfl|hu
  ·simp[Value.oneCell']
  ·exact relV.one hv u hu
open Go Go.RowKit Go.BigFrame
open Go.Lib(hid)
set_option maxRecDepth 100000
theorem list_of' {α:Type} {Q:Nat->α->Prop}:∀n,(∀i,i<n->∃v,Q i v)->∃l:List α,l.length=n/\∀i (h:i<l.length),Q i l[i]:=by
 intro n
 induction n with
 |zero=>intro _;exact⟨[],rfl,fun i h=>by simp at h⟩
 |succ n ih=>
  intro h
  obtain⟨l,hl,hq⟩:=ih (fun i hi=>h i (by omega))
  obtain⟨v,hv⟩:=h n (by omega)
  refine⟨l++[v],by simp[hl],fun i hi=>?_⟩
  rcases Nat.lt_or_ge i l.length with h1|h1
  ·rw[List.getElem_append_left h1]
   exact hq i h1
  ·have:i=l.length:=by simp at hi;omega
   subst this
   simp only[List.getElem_concat_length]
   rw[hl]
   exact hv
def RowIn {α:Type} (R:(Nat->Prop)->World->α->List Value->Prop) (sz:Nat) (S:Nat->Prop) (w:World) (p:Option Addr) (vs:List α):Prop:=∀i (h:i<vs.length),∃g o cs,p=some ⟨g,o,none⟩/\CellsAt S w g (o+i*sz) cs/\R S w vs[i] cs
theorem hasL_row {S:Nat->Prop} {w:World} {p:Option Addr} {l:List DVal}:HasL S w p l↔RowIn HasVal 6 S w p l:=Iff.rfl
theorem hasF_row {S:Nat->Prop} {w:World} {p:Option Addr} {f:List (List UInt8×DVal)}:HasF S w p f↔RowIn HasFld 7 S w p f:=by
 constructor
 ·intro h i hi
  obtain⟨g,o,cs,h1,⟨h2,h3⟩,h4⟩:=h i hi
  exact⟨g,o,_,h1,h3,cs,rfl,h2,h4⟩
 ·intro h i hi
  obtain⟨g,o,cs,h1,h2,cs',rfl,h3,h4⟩:=h i hi
  exact⟨g,o,cs',h1,⟨h3,h2⟩,h4⟩
section
variable {α:Type} {R:(Nat->Prop)->World->α->List Value->Prop} {sz:Nat}
theorem RowIn.css (hR:Rel R sz) (hsz:0<sz) {S:Nat->Prop} {w:World} {p:Option Addr} {vs:List α} (h:RowIn R sz S w p vs):
 ∃css:List (List Value),css.length=vs.length/\(∀c∈css,c.length=sz)/\(∀i (hi:i<vs.length) (hi':i<css.length),R S w vs[i] css[i])/\∀a,p=some a->∀j u,css.flatten[j]?=some u->w.cell? (a.add j)=some u:=by
 obtain⟨css,h1,h2⟩:=list_of' (Q:=fun i (cs:List Value)=>∀hi:i<vs.length,(∃g o,p=some ⟨g,o,none⟩/\CellsAt S w g (o+i*sz) cs)/\R S w vs[i] cs) vs.length (fun i hi=>by
  obtain⟨g,o,cs,q1,q2,q3⟩:=h i hi
  exact⟨cs,fun _=>⟨⟨g,o,q1,q2⟩,q3⟩⟩)
 have hl:∀c∈css,c.length=sz:=fun c hc=>by
  obtain⟨i,hi,rfl⟩:=List.getElem_of_mem hc
  exact hR.len (h2 i hi (by omega)).2
 refine⟨css,h1,hl,fun i hi hi'=>(h2 i hi' hi).2,?_⟩
 rintro a rfl j u hj
 have hjl:j<css.flatten.length:=(List.getElem?_eq_some_iff.1 hj).1
 have hfl:css.flatten.length=css.length*sz:=by
  clear h2 h1 hj hjl h
  induction css with
  |nil=>simp
  |cons c css ih=>rw[List.flatten_cons,List.length_append,hl c (by simp),ih (fun d hd=>hl d (by simp[hd])),List.length_cons,Nat.succ_mul];omega
 have hi:j/sz<css.length:=by rw[Nat.div_lt_iff_lt_mul hsz];omega
 have hr:=Nat.mod_lt j hsz
 have hjd:j/sz*sz+j%sz=j:=by rw[Nat.mul_comm];exact Nat.div_add_mod j sz
 have hg:=flatten_get hl hi hr
 rw[hjd,hj]at hg
 obtain⟨⟨g,o,q1,_,_,q4⟩,_⟩:=h2 _ hi (by omega)
 obtain rfl:=Option.some.inj q1
 have h5:=q4 (j%sz) (by rw[hl _ (List.getElem_mem hi)];exact hr)
 rw[←hg]at h5
 have e:(⟨g,o,none⟩:Addr).add j=⟨g,o+j/sz*sz+j%sz,none⟩:=by
  rw[Nat.add_assoc,hjd]
  unfold Addr.add;split<;>simp_all
 rw[e]
 exact h5
theorem RowIn.kept (hR:Rel R sz) {S S':Nat->Prop} {w w':World} {p:Option Addr} {vs:List α} (h:RowIn R sz S w p vs) (hS:∀b,S b->S' b) (hw:∀b,S b->b<w.heap.size->w'.heap[b]?=w.heap[b]?):RowIn R sz S' w' p vs:=fun i hi=>by
 obtain⟨g,o,cs,h1,h2,h3⟩:=h i hi
 exact⟨g,o,cs,h1,h2.kept hS hw,hR.kept h3 hS hw⟩
theorem RowIn.ext (hR:Rel R sz) {S:Nat->Prop} {w w':World} {p:Option Addr} {vs:List α} (h:RowIn R sz S w p vs) (hb:Below w.heap.size w w'):RowIn R sz S w' p vs:=h.kept hR (fun _ h=>h) (fun b _ hlt=>hb.block b hlt)
def putAt (xs:List Value):Nat->List Value->List Value
 |_,[]=>xs
 |o,v::vs=>putAt (xs.set o v) (o+1) vs
theorem putAt_mid :∀(old new A C:List Value),old.length=new.length->putAt (A++old++C) A.length new=A++new++C
 |[],[],A,C,_=>rfl
 |x::old,v::new,A,C,h=>by
  rw[putAt]
  have e1:(A++x::old++C).set A.length v=A++[v]++old++C:=by
   rw[List.append_assoc,List.set_append_right _ _ (Nat.le_refl _),Nat.sub_self,List.cons_append,List.set_cons_zero]
   simp
  have:=putAt_mid old new (A++[v]) C (by simpa using h)
  rw[List.length_append,List.length_singleton]at this
  rw[e1,this]
  simp
theorem flatten_take {css:List (List Value)} (hl:∀c∈css,c.length=sz):∀j,j<=css.length->(css.take j).flatten.length=j*sz:=by
 induction css with
 |nil=>intro j hj;simp at hj;subst hj;simp
 |cons c css ih=>
  intro j hj
  cases j with
  |zero=>simp
  |succ j=>
   rw[List.take_succ_cons,List.flatten_cons,List.length_append,hl c (by simp),ih (fun d hd=>hl d (by simp[hd])) j (by simpa using hj),Nat.succ_mul]
   omega
theorem putAt_flat {css:List (List Value)} {pad pre old new:List Value} {j:Nat} (hl:∀c∈css,c.length=sz) (hj:j<css.length) (ho:css[j]=pre++old) (hn:(pre++new).length=sz):putAt (css.flatten++pad) (j*sz+pre.length) new=(css.set j (pre++new)).flatten++pad:=by
 have e1:css=css.take j++css[j]::css.drop (j+1):=by rw[←List.drop_eq_getElem_cons hj,List.take_append_drop]
 have e2:css.flatten++pad=(css.take j).flatten++pre++old++((css.drop (j+1)).flatten++pad):=by
  have h:=congrArg List.flatten e1
  rw[List.flatten_append,List.flatten_cons,ho]at h
  rw[h]
  simp only[List.append_assoc]
 have e3:(css.set j (pre++new)).flatten++pad=(css.take j).flatten++pre++new++((css.drop (j+1)).flatten++pad):=by
  rw[List.set_eq_take_append_cons_drop,if_pos hj]
  simp[List.append_assoc]
 have h3:=flatten_take hl j (by omega)
 have h4:((css.take j).flatten++pre).length=j*sz+pre.length:=by rw[List.length_append,h3]
 have h5:=hl _ (List.getElem_mem hj)
 rw[ho,List.length_append]at h5
 rw[List.length_append]at hn
 rw[e2,e3,←h4]
 exact putAt_mid _ _ _ _ (by omega)
theorem blk_setCells {g:Nat} {t:TypeId}:∀(vs:List Value) (o:Nat) (w:World) (cs:List Value),IsBlk w g cs.toArray t->IsBlk (w.setCells g o vs) g (putAt cs o vs).toArray t
 |[],o,w,cs,h=>h
 |v::vs,o,w,cs,h=>by
  rw[World.setCells,putAt]
  have h2:=h.set o v
  rw[List.setIfInBounds_toArray]at h2
  exact blk_setCells vs (o+1) _ _ h2
theorem other_setCells {g b:Nat} (hne:b≠g):∀(vs:List Value) (o:Nat) (w:World),(w.setCells g o vs).heap[b]?=w.heap[b]?
 |[],o,w=>rfl
 |v::vs,o,w=>by
  rw[World.setCells,other_setCells hne vs]
  exact Below.heap_setCell _ _ _ _ hne
theorem below_setCells {B:Nat} {w0:World} {g:Nat} (hg:B<=g):∀(vs:List Value) (o:Nat) (w:World),Below B w0 w->Below B w0 (w.setCells g o vs)
 |[],o,w,h=>h
 |v::vs,o,w,h=>by
  rw[World.setCells]
  exact below_setCells hg vs (o+1) _ (below_set h hg)
def Half (R:(Nat->Prop)->World->α->List Value->Prop) (sz B:Nat) (D S:Nat->Prop) (e:TypeId) (w:World) (v:Value) (vs:List α) (j:Nat):Prop:=
 ∃css:List (List Value),w.ownsRow B e sz v vs.length css.flatten/\css.length=vs.length/\(∀c∈css,c.length=sz)/\∀i (h:i<vs.length) (h':i<css.length),(i<j->R D w vs[i] css[i])/\(j<=i->R S w vs[i] css[i])
theorem Half.acc (hR:Rel R sz) {B:Nat} {D S:Nat->Prop} {e:TypeId} {w:World} {v:Value} {vs:List α} (h:Half R sz B D S e w v vs vs.length) (hD:∀b,D b->B<=b/\v.ownBlock≠some b):Acc R B e sz w v vs:=by
 obtain⟨css,h1,h2,h3,h4⟩:=h
 exact⟨css,h1,h2,fun i hi hi'=>hR.kept ((h4 i hi hi').1 hi) hD (fun _ _ _=>rfl)⟩
theorem Half.kept (hR:Rel R sz) {B:Nat} {D S:Nat->Prop} {e:TypeId} {w w':World} {v:Value} {vs:List α} {j:Nat} (h:Half R sz B D S e w v vs j) (hk:∀b,v.ownBlock=some b->w'.heap[b]?=w.heap[b]?) (hD:∀b,D b->b<w.heap.size->w'.heap[b]?=w.heap[b]?) (hS:∀b,S b->b<w.heap.size->w'.heap[b]?=w.heap[b]?):Half R sz B D S e w' v vs j:=by
 obtain⟨css,h1,h2,h3,h4⟩:=h
 exact⟨css,owns_kept h1 hk,h2,h3,fun i hi hi'=>⟨fun hj=>hR.kept ((h4 i hi hi').1 hj) (fun _ h=>h) hD,fun hj=>hR.kept ((h4 i hi hi').2 hj) (fun _ h=>h) hS⟩⟩
theorem Half.ext (hR:Rel R sz) {B:Nat} {D S:Nat->Prop} {e:TypeId} {w w':World} {v:Value} {vs:List α} {j:Nat} (h:Half R sz B D S e w v vs j) (hb:Below w.heap.size w w'):Half R sz B D S e w' v vs j:=by
 have h':=h
 obtain⟨css,h1,_⟩:=h'
 exact h.kept hR (fun b hb'=>hb.block b (h1.lt b hb').2) (fun b _ hlt=>hb.block b hlt) (fun b _ hlt=>hb.block b hlt)
theorem Half.base {B B':Nat} {D S:Nat->Prop} {e:TypeId} {w:World} {v:Value} {vs:List α} {j:Nat} (h:Half R sz B D S e w v vs j) (hB:B'<=B):Half R sz B' D S e w v vs j:=by
 obtain⟨css,⟨h0,h1⟩,h2⟩:=h
 refine⟨css,⟨h0,?_⟩,h2⟩
 rcases h1 with h1|⟨g,cap,cur,e1,e2,e3⟩
 ·exact .inl h1
 ·exact .inr ⟨g,cap,cur,e1,by omega,e3⟩
theorem Half.slice {B:Nat} {D S:Nat->Prop} {e:TypeId} {w:World} {v:Value} {vs:List α} {j:Nat} (h:Half R sz B D S e w v vs j):∃p c,v=.slice p vs.length c/\(∀k,v.ownBlock=some k->B<=k/\k<w.heap.size):=by
 obtain⟨css,h1,_⟩:=h
 rcases h1.2 with⟨rfl,h0⟩|⟨g,cap,cur,rfl,_⟩
 ·exact⟨none,0,by rw[h0],fun k hk=>h1.lt k hk⟩
 ·exact⟨_,_,rfl,fun k hk=>h1.lt k hk⟩
theorem Half.next {B:Nat} {D S:Nat->Prop} {e:TypeId} {w:World} {v:Value} {vs:List α} {j:Nat} (h:Half R sz B D S e w v vs j) (hj:j<vs.length):
 ∃g cap cs,v=.slice (some ⟨g,0,none⟩) vs.length cap/\B<=g/\g<w.heap.size/\vs.length<=cap/\cap<=maxLen/\R S w vs[j] cs/\cs.length=sz/\(∀r,r<sz->w.cell? ⟨g,j*sz+r,none⟩=cs[r]?)/\∀o,w.frozen? ⟨g,o,none⟩=false:=by
 obtain⟨css,h1,h2,h3,h4⟩:=h
 rcases h1.2 with⟨rfl,h0⟩|⟨g,cap,cur,rfl,hb,hg,hnc,hcm,hcs,hx⟩
 ·omega
 ·have hj':j<css.length:=by omega
  have hgb:IsBlk w g cur e:=hg
  refine⟨g,cap,css[j],rfl,hb,hgb.lt,hnc,hcm,(h4 j hj hj').2 (Nat.le_refl _),h3 _ (List.getElem_mem hj'),fun r hr=>?_,fun o=>hgb.frozen o⟩
  have hg2:=flatten_get h3 hj' hr
  rw[←hx,List.getElem?_take]at hg2
  have hle:j*sz+r<vs.length*sz:=by
   have:(j+1)*sz<=vs.length*sz:=Nat.mul_le_mul_right _ (by omega)
   rw[Nat.succ_mul]at this
   omega
  rw[if_pos hle]at hg2
  have hv:css[j][r]?=some (css[j][r]'(by rw[h3 _ (List.getElem_mem hj')];exact hr)):=List.getElem?_eq_getElem _
  rw[hv]at hg2⊢
  exact hgb.cell (by simpa using hg2)
theorem Half.cells (hR:Rel R sz) {B:Nat} {D S S':Nat->Prop} {e:TypeId} {w:World} {v:Value} {vs:List α} (h:Half R sz B D S' e w v vs vs.length) (hown:∀g,v.ownBlock=some g->S g) (hD:∀b,D b->S b):
 ∃p c,v=.slice p vs.length c/\vs.length<=c/\c<=maxLen/\∀i (hi:i<vs.length),∃g cs,p=some ⟨g,0,none⟩/\CellsAt S w g (0+i*sz) cs/\R S w vs[i] cs:=by
 obtain⟨css,h1,h2,hl,h3⟩:=h
 rcases h1.2 with⟨rfl,h0⟩|⟨g,cap,cur,rfl,hb,hg,hnc,hcm,hcs,hx⟩
 ·exact⟨none,0,by rw[h0],by omega,by unfold maxLen;omega,fun i hi=>by omega⟩
 ·refine⟨_,cap,rfl,hnc,hcm,fun i hi=>?_⟩
  have hi':i<css.length:=by omega
  refine⟨g,css[i],rfl,⟨hown g rfl,(show IsBlk w g cur e from hg).lt,fun j hj=>?_⟩,hR.kept ((h3 i hi hi').1 hi) hD (fun _ _ _=>rfl)⟩
  have hjs:j<sz:=by rw[←hl _ (List.getElem_mem hi')];exact hj
  have hg2:=flatten_get hl hi' hjs
  rw[←hx,List.getElem?_take]at hg2
  have hle:i*sz+j<vs.length*sz:=by
   have:(i+1)*sz<=vs.length*sz:=Nat.mul_le_mul_right _ (by omega)
   rw[Nat.succ_mul]at this
   omega
  rw[if_pos hle]at hg2
  have hv:css[i][j]?=some (css[i][j]):=List.getElem?_eq_getElem hj
  rw[hv]at hg2⊢
  rw[Nat.zero_add]
  exact(show IsBlk w g cur e from hg).cell (by simpa using hg2)
theorem Half.step (hR:Rel R sz) {B:Nat} {D S:Nat->Prop} {e:TypeId} {w w2:World} {g n cap:Nat} {vs:List α} {j:Nat} {pre new:List Value} (h:Half R sz B D S e w (.slice (some ⟨g,0,none⟩) n cap) vs j) (hbw:Below w.heap.size w w2) (hj:j<vs.length) (hgS:∀b,S b->b≠g) (hDn:∀b,w.heap.size<=b->D b) (hDg:∀b,D b->b≠g)
 (hpre:∀(S:Nat->Prop) (w:World) (cs:List Value),R S w vs[j] cs->∃old,cs=pre++old) (hn:R (fun b=>w.heap.size<=b) w2 vs[j] (pre++new)):Half R sz B D S e (w2.setCells g (j*sz+pre.length) new) (.slice (some ⟨g,0,none⟩) n cap) vs (j+1):=by
 obtain⟨css,h1,h2,h3,h4⟩:=h
 have hj':j<css.length:=by omega
 rcases h1.2 with⟨hx,_⟩|⟨g',cap',cur,hv,hBg,hg,hnc,hcm,hcs,hx⟩
 ·cases hx
 ·have hv2:=Value.slice.inj hv
  obtain⟨e1,e2,e3⟩:=hv2
  obtain rfl:g=g':=by simpa using e1
  subst e2
  subst e3
  have hgb:IsBlk w g cur e:=hg
  have hgl:=hgb.lt
  have hgb2:IsBlk w2 g (cur.toList).toArray e:=by simpa using hgb.ext hbw
  have hcl:=hR.len hn
  have hpad:cur.toList=css.flatten++cur.toList.drop (vs.length*sz):=by rw[←hx,List.take_append_drop]
  obtain⟨old,hold⟩:=hpre _ _ _ ((h4 j hj hj').2 (Nat.le_refl _))
  have hgb3:=blk_setCells new (j*sz+pre.length) w2 _ hgb2
  rw[hpad,putAt_flat h3 hj' hold hcl]at hgb3
  obtain⟨cs',hcs'⟩:∃cs',cs'=pre++new:=⟨_,rfl⟩
  rw[←hcs']at hgb3 hcl hn
  have hl':∀c∈css.set j cs',c.length=sz:=fun c hc=>by
   rcases List.mem_or_eq_of_mem_set hc with h|h
   ·exact h3 c h
   ·rw[h];exact hcl
  have hfl:((css.set j cs').flatten).length=vs.length*sz:=by
   have:=flatten_take hl' (css.set j cs').length (Nat.le_refl _)
   rw[List.take_length,List.length_set]at this
   rw[this,h2]
  have hcur:cur.toList.length=cap*sz:=by simpa using hcs
  have hoth:∀b,b≠g->(w2.setCells g (j*sz+pre.length) new).heap[b]?=w2.heap[b]?:=fun b hb=>other_setCells hb new _ _
  refine⟨css.set j cs',⟨hfl,.inr ⟨g,cap,_,rfl,hBg,hgb3,hnc,hcm,?_,?_⟩⟩,by rw[List.length_set,h2],hl',fun i hi hi'=>?_⟩
  ·have h6:vs.length*sz<=cap*sz:=Nat.mul_le_mul_right _ hnc
   rw[List.size_toArray,List.length_append,hfl,List.length_drop,hcur]
   omega
  ·rw[←hfl]
   exact List.take_left
  ·rw[List.length_set]at hi'
   by_cases hij:i=j
   ·subst hij
    refine⟨fun _=>?_,fun h=>by omega⟩
    rw[List.getElem_set_self]
    exact hR.kept hn hDn (fun b hb hlt=>hoth b (fun e=>by have h6:w.heap.size<=b:=hb;omega))
   ·have e1:(css.set j cs')[i]'(by rw[List.length_set];exact hi')=css[i]:=List.getElem_set_ne (fun e=>hij e.symm) _
    rw[e1]
    refine⟨fun h=>?_,fun h=>?_⟩
    ·refine hR.kept ((h4 i hi hi').1 (by omega)) (fun _ h=>h) (fun b hb hlt=>?_)
     rw[hoth b (hDg b hb)]
     exact hbw.block b hlt
    ·refine hR.kept ((h4 i hi hi').2 (by omega)) (fun _ h=>h) (fun b hb hlt=>?_)
     rw[hoth b (hgS b hb)]
     exact hbw.block b hlt
end
def Full {α:Type} (R:(Nat->Prop)->World->α->List Value->Prop) (sz B:Nat) (D:Nat->Prop) (e:TypeId) (w:World) (v:Value) (vs:List α):Prop:=
 ∃css:List (List Value),w.ownsRow B e sz v vs.length css.flatten/\css.length=vs.length/\∀i (h:i<vs.length) (h':i<css.length),R D w vs[i] css[i]
section
variable {α:Type} {R:(Nat->Prop)->World->α->List Value->Prop} {sz:Nat}
theorem Acc.full (hR:Rel R sz) {B:Nat} {e:TypeId} {w:World} {v:Value} {vs:List α} (h:Acc R B e sz w v vs):Full R sz B (fun b=>(B<=b/\v.ownBlock≠some b)/\b<w.heap.size) e w v vs:=by
 obtain⟨css,h1,h2,h3⟩:=h
 exact⟨css,h1,h2,fun i hi hi'=>hR.lt (h3 i hi hi')⟩
theorem Full.kept (hR:Rel R sz) {B:Nat} {D D':Nat->Prop} {e:TypeId} {w w':World} {v:Value} {vs:List α} (h:Full R sz B D e w v vs) (hD:∀b,D b->D' b) (ho:∀b,v.ownBlock=some b->w'.heap[b]?=w.heap[b]?) (hw:∀b,D b->b<w.heap.size->w'.heap[b]?=w.heap[b]?):Full R sz B D' e w' v vs:=by
 obtain⟨css,h1,h2,h3⟩:=h
 exact⟨css,owns_kept h1 ho,h2,fun i hi hi'=>hR.kept (h3 i hi hi') hD hw⟩
theorem Full.lt {B:Nat} {D:Nat->Prop} {e:TypeId} {w:World} {v:Value} {vs:List α} (h:Full R sz B D e w v vs):∀k,v.ownBlock=some k->B<=k/\k<w.heap.size:=by
 obtain⟨css,h1,_⟩:=h
 exact fun k hk=>h1.lt k hk
theorem Full.ext (hR:Rel R sz) {B:Nat} {D:Nat->Prop} {e:TypeId} {w w':World} {v:Value} {vs:List α} (h:Full R sz B D e w v vs) (hb:Below w.heap.size w w'):Full R sz B D e w' v vs:=h.kept hR (fun _ h=>h) (fun b hb'=>hb.block b (h.lt b hb').2) (fun b _ hlt=>hb.block b hlt)
theorem Full.slice {B:Nat} {D:Nat->Prop} {e:TypeId} {w:World} {v:Value} {vs:List α} (h:Full R sz B D e w v vs):∃p c,v=.slice p vs.length c/\vs.length<=c/\c<=maxLen:=by
 obtain⟨css,h1,_⟩:=h
 rcases h1.2 with⟨rfl,h0⟩|⟨g,cap,cur,rfl,_,_,hnc,hcm,_⟩
 ·exact⟨none,0,by rw[h0],by omega,Nat.zero_le _⟩
 ·exact⟨_,_,rfl,hnc,hcm⟩
theorem Full.cells (hR:Rel R sz) {B:Nat} {D S:Nat->Prop} {e:TypeId} {w:World} {v:Value} {vs:List α} (h:Full R sz B D e w v vs) (hown:∀g,v.ownBlock=some g->S g) (hD:∀b,D b->S b):
 ∃p c,v=.slice p vs.length c/\vs.length<=c/\c<=maxLen/\∀i (hi:i<vs.length),∃g cs,p=some ⟨g,0,none⟩/\CellsAt S w g (0+i*sz) cs/\R S w vs[i] cs:=by
 obtain⟨css,h1,h2,h3⟩:=h
 have hl:∀c∈css,c.length=sz:=fun c hc=>by
  obtain⟨i,hi,rfl⟩:=List.getElem_of_mem hc
  exact hR.len (h3 i (by omega) hi)
 exact Half.cells (D:=D) (S':=fun _=>False) hR ⟨css,h1,h2,hl,fun i hi hi'=>⟨fun _=>h3 i hi hi',fun h=>by omega⟩⟩ hown hD
section
variable {P:Program} {ops:Array Oper} {rest:List Oper} {o:Oper} {a:Act} {Q:Exit->Act->World->Prop}
end
end
open Go Go.RowKit Go.ChangeShapes
open Go.Lib(hid)
section
variable {H:Type} {enc:TypeId×Value->H} {P:Program}
theorem below_trodAll (hl:laidOutB P=true) {W W':World} (hb:Below W.heap.size W W'):
 ∀{ts:List TypeId} {vs:List Value} {ds:List (DataW H)} {ps:List MemPlace},(ts.all fun t=>P.readableRec t&&decide (t<P.types.size))=true->DataW.TrodAll enc P W 0 (fun _=>true) true ts vs ds ps->(∀x∈ps,x.block<W.heap.size)→
  DataW.TrodAll enc P W' 0 (fun b=>decide (b<W.heap.size)) true ts vs ds ps
 |[],_,_,_,_,h,_=>by
  obtain⟨rfl,rfl,rfl⟩:=trodAll_nil h
  exact trodAll_mk0
 |t::ts,_,_,_,hr,h,hlt=>by
  obtain⟨v,vs1,d,ds1,a,b,rfl,rfl,rfl,h1,h2⟩:=trodAll_cons h
  simp only[List.all_cons,Bool.and_eq_true,decide_eq_true_eq]at hr
  exact⟨a,b,Below.trod hl hr.1.1 hr.1.2 h1 hb (fun x hx=>hlt x (by simp[hx])),below_trodAll hl hb (by simpa using hr.2) h2 (fun x hx=>hlt x (by simp[hx])),rfl⟩
theorem post_true {f:Func} {s:ChangeSpec} (tb:TypeId) (hl:laidOutB P=true) (hr:(f.params.toList.all fun t=>P.readableRec t&&decide (t<P.types.size))=true) (hres:f.resultTypes= #[tb]) (htb:P.underlying tb=some .bool) (hv:s.vars=[])
 {W W':World} {args:Array Value} {ds gs:List (DataW H)} {before:List MemPlace} (hW:DataW.Whole enc P f.params.toList s.vars false W args.toList ds gs before) (hfn:s.fn H ds={results:=[.lit (.bool true)],args:=ds}) (hb:Below W.heap.size W W'):
 s.post enc P f false true false false W args (.bool true) W':=by
 have hlt:=hW.lt
 have hW':=hW
 obtain⟨p,q,hA,hV,rfl,_,_⟩:=hW
 rw[hv]at hV
 obtain⟨rfl,rfl⟩:=trodVars_none hV
 refine⟨ds,[],_,[],p,[],hW',?_,?_,?_,hb.frame _,fun h=>by cases h⟩
 ·rw[List.append_nil,hfn,hres]
  exact trodAll_cons_mk (shut_bool htb true) trodAll_mk0
 ·rw[List.append_nil,hfn]
  exact below_trodAll hl hb hr hA (fun x hx=>hlt x (by simp[hx]))
 ·rw[hv,List.append_nil,hfn]
  exact rfl
end
end Go.Proofs.YtcihbnpckicljaaGreatDoor
