/- Values' texts: how long they are; there and back. No conditions. codicilref03: zig, zag, Bytes; codicilref02.Utf. No conditions. codicilref03.text, Write. Conditions: the value lies in memory, is right, and its text is no longer than 2^40 bytes. codicilref03.Write, bytes. Conditions: the value lies in memory, its text is no longer than 2^40 bytes; the text is no longer than 2^40 bytes. codicilref03.value, Read. Condition: the text is no longer than 16384 bytes (value). What bin reads is what the document reads. No conditions. -/
import Derived.Test.YtcihbnpckicljaaGreatDoorqGB
import Derived.Test.YtcihbnpckicljaaGreatDoorqGC
import Derived.Test.YtcihbnpckicljaaGreatDoorqGA
set_option linter.unusedVariables false
set_option linter.unusedSimpArgs false
namespace Go.Proofs.YtcihbnpckicljaaGreatDoor
open Go Go.RowKit Go.BigFrame
open Go.Lib(hid)
set_option maxRecDepth 100000
theorem orE_0 {a b:Int} (h:orE a b=0):a=0/\b=0:=by
 unfold orE at h
 split at h
 ·exact⟨by assumption,h⟩
 ·exact absurd h (by assumption)
theorem wrP_ok {v:DVal}:(wrP v).2=0↔checkV 0 v=0/\(textV v).length<=16384:=by
 unfold wrP
 by_cases h:checkV 0 v=0
 ·by_cases h2:16384<(textV v).length
  ·rw[if_neg (by simpa using h),if_pos h2]
   constructor
   ·intro h3;cases h3
   ·intro h3;omega
  ·rw[if_neg (by simpa using h),if_neg h2]
   exact⟨fun _=>⟨h,by omega⟩,fun _=>rfl⟩
 ·rw[if_pos h]
  exact⟨fun h3=>absurd h3 h,fun h3=>absurd h3.1 h⟩
theorem wrP_text {v:DVal} (h:(wrP v).2=0):(wrP v).1=textV v:=by
 obtain⟨h1,h2⟩:=wrP_ok.1 h
 unfold wrP
 rw[if_neg (by simpa using h1),if_neg (by omega)]
theorem zag_zig (n:Int):zagN (zigN n)=n:=by
 unfold zigN
 by_cases h:0<=n
 ·rw[if_pos h,zagN,if_pos (by omega)];omega
 ·rw[if_neg h,zagN,if_neg (by omega)];omega
theorem zig_zag (n:Nat):zigN (zagN n)=n:=by
 unfold zagN
 by_cases h:n%2=0
 ·rw[if_pos h,zigN,if_pos (by omega)];omega
 ·rw[if_neg h,zigN,if_neg (by omega)];omega
theorem numP_text (n:Nat) (hn:n<18446744073709551616) (rest:List UInt8):numP (numL n++rest,false)=(n,(rest,false)):=by
 unfold numP
 simp only[readNum_numL n hn rest]
 rw[List.drop_left]
 rfl
theorem takeP_text (s rest:List UInt8):takeP s.length (s++rest,false)=(s,(rest,false)):=by
 unfold takeP
 rw[if_neg (by simp)]
 simp
theorem manyP_text (n:Nat) (hn:n<=64) (rest:List UInt8):manyP (numL n++rest,false)=(n,(rest,false)):=by
 unfold manyP
 rw[numP_text n (by omega) rest,if_neg (by simp;omega)]
mutual
def rngV :DVal->Prop
 | .mk k b n s l f=>(-9223372036854775808<=n/\n<=9223372036854775807)/\rngL l/\rngF f
def rngL :List DVal->Prop
 |[]=>True
 |v::l=>rngV v/\rngL l
def rngF :List (List UInt8×DVal)->Prop
 |[]=>True
 |(x,v)::l=>rngV v/\rngF l
end
theorem rngL_mk :∀{l:List DVal},(∀v∈l,rngV v)->rngL l
 |[],_=>trivial
 |v::l,h=>⟨h v (by simp),rngL_mk (fun u hu=>h u (by simp[hu]))⟩
theorem rngF_mk :∀{l:List (List UInt8×DVal)},(∀p∈l,rngV p.2)->rngF l
 |[],_=>trivial
 |(x,v)::l,h=>⟨h (x,v) (by simp),rngF_mk (fun u hu=>h u (by simp[hu]))⟩
theorem rng_of :∀(m:Nat) (v:DVal) (S:Nat->Prop) (w:World) (cs:List Value),SizeOf.sizeOf v<m->HasVal S w v cs->rngV v:=by
 intro m
 induction m with
 |zero=>intro v S w cs h;omega
 |succ m ih=>
  intro v S w cs hm h
  obtain⟨k,b,n,s,l,f⟩:=v
  obtain⟨pl,cl,pf,cf,rfl,hb,hl,hf⟩:=hasVal_mk.1 h
  refine⟨⟨hb.2.1,hb.2.2.1⟩,rngL_mk (fun v hv=>?_),rngF_mk (fun p hp=>?_)⟩
  ·obtain⟨i,hi,rfl⟩:=List.getElem_of_mem hv
   obtain⟨g,o,cs,_,_,h3⟩:=hl i hi
   have hz:=DVal.size_l (k:=k) (b:=b) (n:=n) (s:=s) (f:=f) l[i] (List.getElem_mem _)
   exact ih _ _ _ _ (by omega) h3
  ·obtain⟨i,hi,rfl⟩:=List.getElem_of_mem hp
   obtain⟨g,o,cs,_,_,h3⟩:=hf i hi
   have hz:=DVal.size_f (k:=k) (b:=b) (n:=n) (s:=s) (l:=l) f[i] (List.getElem_mem _)
   exact ih _ _ _ _ (by omega) h3
theorem HasVal.rng {S:Nat->Prop} {w:World} {v:DVal} {cs:List Value} (h:HasVal S w v cs):rngV v:=rng_of _ v S w cs (Nat.lt_succ_self _) h
theorem bare_shape {k:Nat} {b:Bool} {n:Int} {s:List UInt8} {ll lf:Nat} (h:bareB (k:Int) b n s ll lf=true):
 (k≠1->b=false)/\(k≠2->n=0)/\(k≠3->k≠4->s=[])/\(k≠5->ll=0)/\(k≠6->lf=0):=by
 unfold bareB flatB at h
 have h:=of_decide_eq_true h
 refine⟨fun hk=>?_,fun hk=>?_,fun hk hk4=>?_,fun hk=>?_,fun hk=>?_⟩
 ·have:=h.2.1;rwa[sel_f (by simp;omega)]at this
 ·have:=h.2.2.1;rwa[sel_f (by simp;omega)]at this
 ·have:=h.2.2.2.1;rwa[sel_f (by simp;omega)]at this
 ·have:=h.2.2.2.2.1;rwa[sel_f (by simp;omega)]at this
 ·have:=h.2.2.2.2.2;rwa[sel_f (by simp;omega)]at this
theorem nameE_len {x:List UInt8} (h:nameE x=0):x.length<=1024:=by
 unfold nameE at h
 by_cases hc:x=[]\/1024<x.length
 ·rw[if_pos hc]at h;cases h
 ·omega
mutual
theorem rtV :∀(v:DVal) (d k:Nat),checkV d v=0->rngV v->d+k=7->1<=k->∀rest,valueP k (textV v++rest,false)=(v,(rest,false))
 | .mk kd b n s l f,d,k,h,hr,hdk,hk1,rest=>by
   obtain⟨k,rfl⟩:∃k',k=k'+1:=⟨k-1,by omega⟩
   rw[checkV]at h
   obtain⟨h0,h⟩:=orE_0 h
   obtain⟨hl,hf⟩:=orE_0 h
   obtain⟨hk7,hbare,hs,hu,hll,hlf,hdep⟩:=why0_ok h0
   obtain⟨p1,p2,p3,p4,p5⟩:=bare_shape hbare
   have hl0:kd≠5->l=[]:=fun hk=>List.eq_nil_of_length_eq_zero (p4 hk)
   have hf0:kd≠6->f=[]:=fun hk=>List.eq_nil_of_length_eq_zero (p5 hk)
   rw[rngV]at hr
   have hkk:kd=0\/kd=1\/kd=2\/kd=3\/kd=4\/kd=5\/kd=6:=by omega
   rcases hkk with rfl|rfl|rfl|rfl|rfl|rfl|rfl
   ·rw[p1 (by decide),p2 (by decide),p3 (by decide) (by decide),hl0 (by decide),hf0 (by decide)]
    rfl
   ·rw[p2 (by decide),p3 (by decide) (by decide),hl0 (by decide),hf0 (by decide)]
    cases b<;>rfl
   ·rw[p1 (by decide),p3 (by decide) (by decide),hl0 (by decide),hf0 (by decide)]
    have hz:=numP_text (zigN n) (zigN_lt hr.1.1 hr.1.2) rest
    show valueP (k+1) (3::(numL (zigN n)++rest),false)=_
    rw[valueP,if_neg (by decide)]
    simp only[hz,zag_zig]
    rfl
   ·rw[p1 (by decide),p2 (by decide),hl0 (by decide),hf0 (by decide)]
    have hz:=numP_text s.length (by omega) (s++rest)
    have ht:=takeP_text s rest
    show valueP (k+1) (4::((numL s.length++s)++rest),false)=_
    rw[List.append_assoc,valueP,if_neg (by decide)]
    simp only[hz,ht]
    rfl
   ·rw[p1 (by decide),p2 (by decide),hl0 (by decide),hf0 (by decide)]
    have hz:=numP_text s.length (by omega) (s++rest)
    have ht:=takeP_text s rest
    show valueP (k+1) (5::((numL s.length++s)++rest),false)=_
    rw[List.append_assoc,valueP,if_neg (by decide)]
    simp only[hz,ht]
    rfl
   ·rw[p1 (by decide),p2 (by decide),p3 (by decide) (by decide),hf0 (by decide)]
    have hd:=hdep (Or.inl rfl)
    have hz:=manyP_text l.length hll (textL l++rest)
    have ht:=rtL l (d+1) k hl hr.2.1 (by omega) (by omega) rest
    show valueP (k+1) (6::((numL l.length++textL l)++rest),false)=_
    rw[List.append_assoc,valueP,if_neg (by decide)]
    simp only[hz,ht]
    rfl
   ·rw[p1 (by decide),p2 (by decide),p3 (by decide) (by decide),hl0 (by decide)]
    have hd:=hdep (Or.inr rfl)
    have hz:=manyP_text f.length hlf (textF f++rest)
    have ht:=rtF f (d+1) [] k hf hr.2.2 (by omega) (by omega) rest
    show valueP (k+1) (7::((numL f.length++textF f)++rest),false)=_
    rw[List.append_assoc,valueP,if_neg (by decide)]
    simp only[hz,ht]
    rfl
theorem rtL :∀(l:List DVal) (d k:Nat),checkL d l=0->rngL l->d+k=7->1<=k->∀rest,repN (valueP k) l.length (textL l++rest,false)=(l,(rest,false))
 |[],_,_,_,_,_,_,rest=>rfl
 |v::l,d,k,h,hr,hdk,hk1,rest=>by
  rw[checkL]at h
  obtain⟨h0,h⟩:=orE_0 h
  rw[rngL]at hr
  have h1:=rtV v d k h0 hr.1 hdk hk1 (textL l++rest)
  have h2:=rtL l d k h hr.2 hdk hk1 rest
  rw[textL,List.append_assoc,List.length_cons,repN_more,h1]
  simp only[h2]
theorem rtF :∀(f:List (List UInt8×DVal)) (d:Nat) (last:List UInt8) (k:Nat),checkF d last f=0->rngF f->d+k=7->1<=k->∀rest,repN (fieldP (valueP k)) f.length (textF f++rest,false)=(f,(rest,false))
 |[],_,_,_,_,_,_,_,rest=>rfl
 |(x,v)::f,d,last,k,h,hr,hdk,hk1,rest=>by
  rw[checkF]at h
  obtain⟨hn,h⟩:=orE_0 h
  obtain⟨hn,_⟩:=orE_0 hn
  obtain⟨h0,h⟩:=orE_0 h
  rw[rngF]at hr
  have hx:=nameE_len hn
  have h1:=rtV v d k h0 hr.1 hdk hk1 (textF f++rest)
  have h2:=rtF f d x k h hr.2 hdk hk1 rest
  have hz:=numP_text x.length (by omega) (x++(textV v++(textF f++rest)))
  have ht:=takeP_text x (textV v++(textF f++rest))
  have hfp:fieldP (valueP k) (bytesL x++(textV v++(textF f++rest)),false)=((x,v),(textF f++rest,false)):=by
   rw[bytesL,List.append_assoc]
   simp only[fieldP,hz,ht,h1]
  rw[textF,List.append_assoc,List.append_assoc,List.length_cons,repN_more,hfp]
  simp only[h2]
end
theorem read_text {v:DVal} (h:(wrP v).2=0) (hr:rngV v):rdV (wrP v).1=(v,0):=by
 obtain⟨hc,hl⟩:=wrP_ok.1 h
 have h7:=rtV v 0 7 hc hr rfl (by decide) []
 rw[List.append_nil]at h7
 rw[wrP_text h,rdV,if_neg (by omega),h7]
 simp[hc]
theorem numP_inv {l rest:List UInt8} {n:Nat} (h:numP (l,false)=(n,(rest,false))):numL n++rest=l:=by
 unfold numP at h
 cases hr:readNum l with
 |none=>simp[hr]at h
 |some p=>
  obtain⟨v,k⟩:=p
  simp[hr]at h
  obtain⟨rfl,rfl⟩:=h
  rw[(readNum_some hr).1,List.take_append_drop]
theorem takeP_inv {l s rest:List UInt8} {n:Nat} (h:takeP n (l,false)=(s,(rest,false))):s++rest=l/\s.length=n:=by
 unfold takeP at h
 by_cases hc:(l,false).2=true\/(l,false).1.length<n
 ·rw[if_pos hc]at h;simp at h
 ·rw[if_neg hc]at h
  simp at h hc
  obtain⟨rfl,rfl⟩:=h
  exact⟨List.take_append_drop _ _,by simp;omega⟩
theorem takeP_bad (n:Nat) (l:List UInt8):(takeP n (l,true)).2.2=true:=by
 unfold takeP
 rw[if_pos (Or.inl rfl)]
theorem manyP_inv {l rest:List UInt8} {n:Nat} (h:manyP (l,false)=(n,(rest,false))):numL n++rest=l:=by
 unfold manyP at h
 split at h
 ·simp at h
 ·exact numP_inv h
theorem valueP_bad :∀(k:Nat) (l:List UInt8),(valueP k (l,true)).2.2=true
 |0,_=>rfl
 |_+1,_=>rfl
theorem repN_inv {α:Type} (g:α->List UInt8) (f:St->α×St) (hf:∀l a rest,f (l,false)=(a,(rest,false))->g a++rest=l):∀(n:Nat) (l:List UInt8) (zs:List α) (rest:List UInt8),repN f n (l,false)=(zs,(rest,false))->zs.length=n/\zs.flatMap g++rest=l
 |0,l,zs,rest,h=>by
  rw[repN_zero]at h
  simp only[Prod.mk.injEq]at h
  obtain⟨rfl,rfl,_⟩:=h
  exact⟨rfl,rfl⟩
 |n+1,l,zs,rest,h=>by
  rw[repN_more]at h
  obtain⟨a,l2,b2,hfa⟩:∃a l2 b2,f (l,false)=(a,(l2,b2)):=⟨_,_,_,rfl⟩
  rw[hfa]at h
  simp only[Prod.mk.injEq]at h
  obtain⟨rfl,h2⟩:=h
  cases b2
  ·obtain⟨bs2,l3,b3,hr⟩:∃bs2 l3 b3,repN f n (l2,false)=(bs2,(l3,b3)):=⟨_,_,_,rfl⟩
   rw[hr]at h2
   simp only[Prod.mk.injEq]at h2
   obtain⟨rfl,rfl⟩:=h2
   obtain⟨h3,h4⟩:=repN_inv g f hf n l2 bs2 l3 hr
   have h5:=hf l a l2 hfa
   refine⟨by simp only[hr,List.length_cons,h3],?_⟩
   simp only[hr,List.flatMap_cons,List.append_assoc,h4,h5]
  ·rw[repN_bad]at h2
   simp at h2
theorem textL_flat :∀l:List DVal,textL l=l.flatMap textV
 |[]=>rfl
 |v::l=>by rw[textL,textL_flat l];rfl
theorem textF_flat :∀l:List (List UInt8×DVal),textF l=l.flatMap fun p=>bytesL p.1++textV p.2
 |[]=>rfl
 |(x,v)::l=>by rw[textF,textF_flat l];rfl
theorem valueP_inv :∀(k:Nat) (l:List UInt8) (v:DVal) (rest:List UInt8),valueP k (l,false)=(v,(rest,false))->textV v++rest=l:=by
 intro k
 induction k with
 |zero=>intro l v rest h;simp[valueP]at h
 |succ k ih=>
  intro l v rest h
  cases l with
  |nil=>simp[valueP]at h
  |cons b l=>
   rw[valueP,if_neg (by decide)]at h
   (try simp only[]at h)
   have hfld:∀l a rest,fieldP (valueP k) (l,false)=(a,(rest,false))->(bytesL a.1++textV a.2)++rest=l:=by
    intro l a rest h
    obtain⟨n,l1,b1,h1⟩:∃n l1 b1,numP (l,false)=(n,(l1,b1)):=⟨_,_,_,rfl⟩
    obtain⟨s,l2,b2,h2⟩:∃s l2 b2,takeP n (l1,b1)=(s,(l2,b2)):=⟨_,_,_,rfl⟩
    obtain⟨u,l3,b3,h3⟩:∃u l3 b3,valueP k (l2,b2)=(u,(l3,b3)):=⟨_,_,_,rfl⟩
    simp only[fieldP,h1,h2,h3,Prod.mk.injEq]at h
    obtain⟨rfl,rfl,rfl⟩:=h
    cases b2
    ·cases b1
     ·have e1:=numP_inv h1
      obtain⟨e2,e3⟩:=takeP_inv h2
      have e4:=ih _ _ _ h3
      show(bytesL s++textV u)++l3=l
      rw[List.append_assoc,e4,bytesL,List.append_assoc,e2,e3,e1]
     ·have:=takeP_bad n l1
      rw[h2]at this
      cases this
    ·have:=valueP_bad k l2
     rw[h3]at this
     cases this
   by_cases b0:b=0
   ·rw[if_pos b0]at h
    simp only[Prod.mk.injEq,and_true]at h
    obtain⟨rfl,rfl⟩:=h
    rw[b0];rfl
   rw[if_neg b0]at h
   by_cases b1:b=1
   ·rw[if_pos b1]at h
    simp only[Prod.mk.injEq,and_true]at h
    obtain⟨rfl,rfl⟩:=h
    rw[b1];rfl
   rw[if_neg b1]at h
   by_cases b2:b=2
   ·rw[if_pos b2]at h
    simp only[Prod.mk.injEq,and_true]at h
    obtain⟨rfl,rfl⟩:=h
    rw[b2];rfl
   rw[if_neg b2]at h
   by_cases b3:b=3
   ·rw[if_pos b3]at h
    obtain⟨n,l1,c1,h1⟩:∃n l1 c1,numP (l,false)=(n,(l1,c1)):=⟨_,_,_,rfl⟩
    rw[h1]at h
    simp only[Prod.mk.injEq]at h
    obtain⟨rfl,rfl,rfl⟩:=h
    have e1:=numP_inv h1
    rw[b3]
    show 3::(numL (zigN (zagN n))++l1)=3::l
    rw[zig_zag,e1]
   rw[if_neg b3]at h
   by_cases b4:b=4
   ·rw[if_pos b4]at h
    obtain⟨n,l1,c1,h1⟩:∃n l1 c1,numP (l,false)=(n,(l1,c1)):=⟨_,_,_,rfl⟩
    obtain⟨s,l2,c2,h2⟩:∃s l2 c2,takeP n (l1,c1)=(s,(l2,c2)):=⟨_,_,_,rfl⟩
    rw[h1]at h
    simp only[h2,Prod.mk.injEq]at h
    obtain⟨rfl,rfl,rfl⟩:=h
    cases c1
    ·have e1:=numP_inv h1
     obtain⟨e2,e3⟩:=takeP_inv h2
     rw[b4]
     show 4::((numL s.length++s)++l2)=4::l
     rw[List.append_assoc,e2,e3,e1]
    ·have:=takeP_bad n l1
     rw[h2]at this
     cases this
   rw[if_neg b4]at h
   by_cases b5:b=5
   ·rw[if_pos b5]at h
    obtain⟨n,l1,c1,h1⟩:∃n l1 c1,numP (l,false)=(n,(l1,c1)):=⟨_,_,_,rfl⟩
    obtain⟨s,l2,c2,h2⟩:∃s l2 c2,takeP n (l1,c1)=(s,(l2,c2)):=⟨_,_,_,rfl⟩
    rw[h1]at h
    simp only[h2,Prod.mk.injEq]at h
    obtain⟨rfl,rfl,rfl⟩:=h
    cases c1
    ·have e1:=numP_inv h1
     obtain⟨e2,e3⟩:=takeP_inv h2
     rw[b5]
     show 5::((numL s.length++s)++l2)=5::l
     rw[List.append_assoc,e2,e3,e1]
    ·have:=takeP_bad n l1
     rw[h2]at this
     cases this
   rw[if_neg b5]at h
   by_cases b6:b=6
   ·rw[if_pos b6]at h
    obtain⟨n,l1,c1,h1⟩:∃n l1 c1,manyP (l,false)=(n,(l1,c1)):=⟨_,_,_,rfl⟩
    obtain⟨s,l2,c2,h2⟩:∃s l2 c2,repN (valueP k) n (l1,c1)=(s,(l2,c2)):=⟨_,_,_,rfl⟩
    rw[h1]at h
    simp only[h2,Prod.mk.injEq]at h
    obtain⟨rfl,rfl,rfl⟩:=h
    cases c1
    ·have e1:=manyP_inv h1
     obtain⟨e2,e3⟩:=repN_inv textV (valueP k) ih n l1 s l2 h2
     rw[b6]
     show 6::((numL s.length++textL s)++l2)=6::l
     rw[List.append_assoc,textL_flat,e3,e2,e1]
    ·rw[repN_bad]at h2
     simp at h2
   rw[if_neg b6]at h
   by_cases b7:b=7
   ·rw[if_pos b7]at h
    obtain⟨n,l1,c1,h1⟩:∃n l1 c1,manyP (l,false)=(n,(l1,c1)):=⟨_,_,_,rfl⟩
    obtain⟨s,l2,c2,h2⟩:∃s l2 c2,repN (fieldP (valueP k)) n (l1,c1)=(s,(l2,c2)):=⟨_,_,_,rfl⟩
    rw[h1]at h
    simp only[h2,Prod.mk.injEq]at h
    obtain⟨rfl,rfl,rfl⟩:=h
    cases c1
    ·have e1:=manyP_inv h1
     obtain⟨e2,e3⟩:=repN_inv (fun p=>bytesL p.1++textV p.2) (fieldP (valueP k)) hfld n l1 s l2 h2
     rw[b7]
     show 7::((numL s.length++textF s)++l2)=7::l
     rw[List.append_assoc,textF_flat,e3,e2,e1]
    ·rw[repN_bad]at h2
     simp at h2
   rw[if_neg b7]at h
   simp at h
theorem write_read {s:List UInt8} (h:(rdV s).2=0):wrP (rdV s).1=(s,0)/\checkV 0 (rdV s).1=0:=by
 unfold rdV at h⊢
 by_cases h16:16384<s.length
 ·rw[if_pos h16]at h;cases h
 ·rw[if_neg h16]at h⊢
  by_cases hc:(valueP 7 (s,false)).2.2=true\/(valueP 7 (s,false)).2.1≠[]\/checkV 0 (valueP 7 (s,false)).1≠0
  ·rw[if_pos hc]at h;cases h
  ·rw[if_neg hc]
   obtain⟨v,l,b,hv⟩:∃v l b,valueP 7 (s,false)=(v,(l,b)):=⟨_,_,_,rfl⟩
   rw[hv]at hc⊢
   simp only[not_or,ne_eq,Decidable.not_not,Bool.not_eq_true]at hc
   obtain⟨rfl,rfl,hck⟩:=hc
   have ht:=valueP_inv 7 s v [] hv
   rw[List.append_nil]at ht
   refine⟨?_,hck⟩
   unfold wrP
   rw[if_neg (by simpa using hck),ht,if_neg h16]
theorem rdV_zero {s:List UInt8} (h:(rdV s).2≠0):(rdV s).1=.zero:=by
 unfold rdV at h⊢
 repeat' split
 ·rfl
 ·rfl
 ·rename_i h1 h2
  rw[if_neg h1,if_neg h2]at h
  exact absurd rfl h
set_option maxHeartbeats 1000000 in
theorem ref_zig_any (n:Int) (w:World) (h0: -9223372036854775808<=n) (h1:n<=9223372036854775807):
 Calls Tryz.prog 122 #[.int .i64 n] w fun e' w'=>e'=.returned (.int .u64 ((zigN n:Nat):Int))/\w=w':=by
 obtain⟨R,hR⟩:∃R:Int,R=((zigN n:Nat):Int):=⟨_,rfl⟩
 rw[←hR]
 by_cases hn:0<=n
 ·have hr:R=2*n:=by rw[hR,zigN,if_pos hn];omega
  have HR:=hid hr
  clear hR hr
  go_enter Tryz.func122,Tryz.ntmps122
  go_wp2
  go_ret
  exact⟨by rw[HR.out];rfl,rfl⟩
 ·have hr:R=2*(-(n+1))+1:=by rw[hR,zigN,if_neg hn];omega
  have HR:=hid hr
  clear hR hr
  have hlt:n<0:=by omega
  go_enter Tryz.func122,Tryz.ntmps122
  go_wp2
  go_ret
  exact⟨by rw[HR.out];rfl,rfl⟩
set_option maxHeartbeats 1000000 in
theorem ref_zag_any (n:Nat) (w:World) (hn:n<18446744073709551616):
 Calls Tryz.prog 110 #[.int .u64 (n:Int)] w fun e' w'=>e'=.returned (.int .i64 (zagN n))/\w=w':=by
 obtain⟨R,hR⟩:∃R:Int,R=zagN n:=⟨_,rfl⟩
 rw[←hR]
 by_cases h2:n%2=0
 ·have hr:R=(n:Int)/2:=by rw[hR,zagN,if_pos h2];omega
  have hI:((n:Int)%2==0)=true:=by simp;omega
  have HR:=hid hr
  clear hR hr h2
  go_enter Tryz.func110,Tryz.ntmps110
  go_wp2
  go_ret
  exact⟨by rw[HR.out];rfl,rfl⟩
 ·have hr:R= -((n:Int)/2)-1:=by rw[hR,zagN,if_neg h2];omega
  have hI:((n:Int)%2==0)=false:=by simp;omega
  have HR:=hid hr
  clear hR hr h2
  go_enter Tryz.func110,Tryz.ntmps110
  go_wp2
  go_ret
  exact⟨by rw[HR.out];rfl,rfl⟩
set_option maxHeartbeats 1000000 in
theorem ref_bytes_any (s:List UInt8) (w:World) (hs:s.length<=1099511627776):
 Calls Tryz.prog 123 #[.string (bs s)] w fun e' w'=>e'=.returned (.string (bs (bytesL s)))/\Below w.heap.size w w':=by
 have hsz:=bs_size s
 have hn:=numL_length s.length
 have hsN:=bs_size (numL s.length)
 go_enter Tryz.func123,Tryz.ntmps123
 go_wp2_with fail
 go_at_call 121
 refine(ref_number_any s.length w (by omega)).mono ?_
 rintro e' w1 ⟨rfl,hb⟩
 have HB:=hid hb
 clear hb
 go_wp2
 go_ret
 exact⟨by rw[bytesL,←bs_app];rfl,HB.out⟩
theorem orE_0R {a b:Int} (h:orE a b=0):a=0/\b=0:=by
 unfold orE at h
 split at h
 ·exact⟨by assumption,h⟩
 ·exact absurd h (by assumption)
theorem checkL_mem {d:Nat}:∀{l:List DVal},checkL d l=0->∀v∈l,checkV d v=0
 |[],_,v,hv=>by cases hv
 |a::l,h,v,hv=>by
  rw[checkL]at h
  rcases List.mem_cons.1 hv with rfl|hv
  ·exact(orE_0R h).1
  ·exact checkL_mem (orE_0R h).2 v hv
theorem checkF_mem {d:Nat}:∀{f:List (List UInt8×DVal)} {last:List UInt8},checkF d last f=0->∀p∈f,checkV d p.2=0
 |[],_,_,p,hp=>by cases hp
 |(x,v)::f,last,h,p,hp=>by
  rw[checkF]at h
  have h2:=orE_0R (orE_0R h).2
  rcases List.mem_cons.1 hp with rfl|hp
  ·exact h2.1
  ·exact checkF_mem h2.2 p hp
theorem check_parts {d k:Nat} {b:Bool} {n:Int} {s:List UInt8} {l:List DVal} {f:List (List UInt8×DVal)} (h:checkV d (.mk k b n s l f)=0):
 k<7/\s.length<=1024/\l.length<=64/\f.length<=64/\checkL (d+1) l=0/\checkF (d+1) [] f=0:=by
 rw[checkV]at h
 obtain⟨h0,h1⟩:=orE_0R h
 obtain⟨h2,h3⟩:=orE_0R h1
 obtain⟨a1,_,a2,_,a3,a4,_⟩:=why0_ok h0
 exact⟨by omega,a2,a3,a4,h2,h3⟩
theorem bs_consW (c:UInt8) (l:List UInt8):bs (c::l)=bs [c]++bs l:=by rw[bs_app];rfl
theorem bs_cons2W (c:UInt8) (l m:List UInt8):bs (c::(l++m))=bs [c]++bs l++bs m:=by rw[bs_app,bs_app];rfl
theorem textL_drop {l:List DVal} {i:Nat} (h:i<l.length):textL (l.drop i)=textV l[i]++textL (l.drop (i+1)):=by
 rw[List.drop_eq_getElem_cons h,textL]
theorem textF_drop {l:List (List UInt8×DVal)} {i:Nat} (h:i<l.length):textF (l.drop i)=(bytesL l[i].1++textV l[i].2)++textF (l.drop (i+1)):=by
 rw[List.drop_eq_getElem_cons h]
 generalize l[i]=p
 obtain⟨x,v⟩:=p
 rw[textF]
def TextOk (a:DVal):Prop:=∀(d:Nat) (S:Nat->Prop) (cs:List Value) (w:World),HasVal S w a cs->checkV d a=0->(textV a).length<=1099511627776→
 Calls Tryz.prog 89 #[.agg cs.toArray] w fun e' w'=>e'=.returned (.string (bs (textV a)))/\Below w.heap.size w w'
set_option maxHeartbeats 4000000 in
theorem ref_text_step (k:Nat) (b:Bool) (n:Int) (s:List UInt8) (l:List DVal) (f:List (List UInt8×DVal)) (ihL:∀v∈l,TextOk v) (ihF:∀p∈f,TextOk p.2):TextOk (.mk k b n s l f):=by
 intro d S cs w hv hck hbig
 obtain⟨pl,cl,pf,cf,rfl,hbd,hL,hF⟩:=hasVal_mk.1 hv
 clear hv
 obtain⟨hk7,hs,hll,hlf,hckL,hckF⟩:=check_parts hck
 clear hck
 have hnlo:=hbd.2.1
 have hnhi:=hbd.2.2.1
 clear hbd
 obtain⟨R,hR⟩:∃R,R=textV (.mk k b n s l f):=⟨_,rfl⟩
 rw[←hR]at hbig⊢
 rw[textV]at hR
 show Calls Tryz.prog 89 #[.agg #[.int .u8 (k:Int),.bool b,.int .i64 n,.string (bs s),.slice pl l.length cl,.slice pf f.length cf]] w _
 obtain⟨nl,hnl⟩:∃nl,nl=l.length:=⟨_,rfl⟩
 obtain⟨nf,hnf⟩:∃nf,nf=f.length:=⟨_,rfl⟩
 rw[←hnl,←hnf]
 rw[←hnl]at hll hR
 rw[←hnf]at hlf hR
 have HNL:=hid hnl
 have HNF:=hid hnf
 have HL:=hid hL
 have HF:=hid hF
 have HIL:=hid ihL
 have HIF:=hid ihF
 have HCL:=hid (checkL_mem hckL)
 have HCF:=hid (checkF_mem hckF)
 have hsz:=bs_size s
 clear hnl hnf hL hF ihL ihF hckL hckF
 have hk:k=0\/k=1\/k=2\/k=3\/k=4\/k=5\/k=6:=by omega
 clear hk7
 rcases hk with rfl|rfl|rfl|rfl|rfl|rfl|rfl
 ·have HR2:Hid (R=[0]):=hid (by rw[hR,if_pos rfl])
  clear hR
  go_enter Tryz.func89,Tryz.ntmps89
  go_wp2
  go_ret
  exact⟨by rw[HR2.out];rfl,(Below.refl _ _).alloc (Nat.le_refl _) _⟩
 ·have HR2:Hid (R=[if b then 2 else 1]):=hid (by rw[hR,if_neg (by decide),if_pos rfl])
  clear hR
  cases b
  all_goals
   go_enter Tryz.func89,Tryz.ntmps89
   go_wp2
   go_ret
   exact⟨by rw[HR2.out];rfl,(Below.refl _ _).alloc (Nat.le_refl _) _⟩
 ·have HR2:Hid (R=3::numL (zigN n)):=hid (by rw[hR,if_neg (by decide),if_neg (by decide),if_pos rfl])
  clear hR
  have hzl:=zigN_lt hnlo hnhi
  have hsN:=bs_size (numL (zigN n))
  have hn10:=numL_length (zigN n)
  go_enter Tryz.func89,Tryz.ntmps89
  go_wp2_with fail
  go_at_call 122
  refine(ref_zig_any n _ hnlo hnhi).mono ?_
  rintro e' w1 ⟨rfl,rfl⟩
  go_wp2_with fail
  go_at_call 121
  refine(ref_number_any (zigN n) _ hzl).mono ?_
  rintro e' w1 ⟨rfl,hb⟩
  have HB:=hid (below_ext ((Below.refl _ _).alloc (Nat.le_refl _) _) hb)
  clear hb
  go_wp2
  go_ret
  exact⟨by rw[HR2.out,bs_consW];rfl,HB.out⟩
 ·have HR2:Hid (R=4::bytesL s):=hid (by rw[hR];rfl)
  clear hR
  have hsN:=bs_size (bytesL s)
  have hbl:(bytesL s).length<=s.length+10:=by have:=numL_length s.length;rw[bytesL,List.length_append];omega
  go_enter Tryz.func89,Tryz.ntmps89
  go_wp2_with fail
  go_at_call 123
  refine(ref_bytes_any s _ (by omega)).mono ?_
  rintro e' w1 ⟨rfl,hb⟩
  have HB:=hid (below_ext ((Below.refl _ _).alloc (Nat.le_refl _) _) hb)
  clear hb
  go_wp2
  go_ret
  exact⟨by rw[HR2.out,bs_consW];rfl,HB.out⟩
 ·have HR2:Hid (R=5::bytesL s):=hid (by rw[hR];rfl)
  clear hR
  have hsN:=bs_size (bytesL s)
  have hbl:(bytesL s).length<=s.length+10:=by have:=numL_length s.length;rw[bytesL,List.length_append];omega
  go_enter Tryz.func89,Tryz.ntmps89
  go_wp2_with fail
  go_at_call 123
  refine(ref_bytes_any s _ (by omega)).mono ?_
  rintro e' w1 ⟨rfl,hb⟩
  have HB:=hid (below_ext ((Below.refl _ _).alloc (Nat.le_refl _) _) hb)
  clear hb
  go_wp2
  go_ret
  exact⟨by rw[HR2.out,bs_consW];rfl,HB.out⟩
 ·have HR2:Hid (R=6::(numL nl++textL l)):=hid (by rw[hR];rfl)
  clear hR
  rw[show((5:Nat):Int)=5 from rfl]
  obtain⟨T,hT⟩:∃T,T=textL l:=⟨_,rfl⟩
  have hTl:T.length<=1099511627776:=by
   have:=congrArg List.length HR2.out
   rw[List.length_cons,List.length_append,←hT]at this
   omega
  have HT:=hid hT;clear hT
  have hn10:=numL_length nl
  have hsN:=bs_size (numL nl)
  go_enter Tryz.func89,Tryz.ntmps89
  go_upto_region 14 with(fail)
  generalize hW0:World.alloc w _=W0
  have hd1:IsBlk W0 w.heap.size #[.int .u8 5,.bool b,.int .i64 n,.string (bs s),.slice pl nl cl,.slice pf nf cf] 52:=by rw[←hW0];exact IsBlk.new _ _ _
  have hb0:Below w.heap.size w W0:=by rw[←hW0];exact(Below.refl _ _).alloc (Nat.le_refl _) _
  have hlt1:w.heap.size<W0.heap.size:=hd1.lt
  clear hW0
  have c14:W0.cell? ⟨w.heap.size,4,none⟩=some (.slice pl nl cl):=hd1.cell rfl
  have HD1:=hid hd1
  have HB0:=hid hb0
  clear hd1 hb0
  go_wp2
  clear c14
  go_loopw [38,3] (fun i v wr=>∃(j:Nat) (P:List UInt8),i=.int .i64 j/\v=.string (bs P)/\j<=nl/\P++textL (l.drop j)=T/\Below W0.heap.size W0 wr) (fun i _ _=>nl-(intOf i).toNat)
  case atStart=>exact⟨0,[],rfl,rfl,by omega,HT.out.symm,Below.refl _ _⟩
  case round=>
  obtain⟨j,P,rfl,rfl,hj,hrel,hbw⟩:=hrel
  have hwr:=hbw.size
  have HBW:=hid hbw
  clear hbw
  have hP:=bs_size P
  by_cases hlt:j<nl
  ·have hj1:j<l.length:=by rw[←HNL.out];exact hlt
   have hbwr:=Below.trans HB0.out (HBW.out.mono (by omega))
   obtain⟨g1,o1,cs1,hp1,hc1,hv1⟩:=(HL.out.ext hbwr) j hj1
   have hok:=HIL.out _ (List.getElem_mem hj1)
   have hck:=HCL.out _ (List.getElem_mem hj1)
   rw[textL_drop hj1]at hrel
   generalize l[j]=u1 at hv1 hok hrel hck
   obtain⟨k1,b1,n1,s1,l1,f1⟩:=u1
   obtain⟨q,hq⟩:∃q,q=textV (.mk k1 b1 n1 s1 l1 f1):=⟨_,rfl⟩
   rw[←hq,←List.append_assoc]at hrel
   have hlen:P.length+q.length<=1099511627776:=by
    have:=congrArg List.length hrel
    rw[List.length_append,List.length_append]at this
    omega
   have hqs:=bs_size q
   have HQ:=hid hq
   have HOK:=hid hok
   have HCK:=hid hck
   have HREL2:=hid hrel
   have HV1:=hid hv1
   obtain⟨pl1,cl1,pf1,cf1,rfl,_,_,_⟩:=hasVal_mk.1 hv1
   obtain⟨d0,d1,d2,d3,d4,d5⟩:=hc1.six
   have hg1:=hc1.2.1
   clear hv1 hok hc1 hbwr hrel hq hck
   subst hp1
   obtain⟨m1,hm1⟩:∃m1,m1=l1.length:=⟨_,rfl⟩
   obtain⟨m2,hm2⟩:∃m2,m2=f1.length:=⟨_,rfl⟩
   rw[←hm1,←hm2]at HV1
   rw[←hm1]at d4
   rw[←hm2]at d5
   clear hm1 hm2
   have hbx:Below wr.heap.size wr (wr.alloc (.cells #[.int .u8 (k1:Int),.bool b1,.int .i64 n1,.string (bs s1),.slice pl1 m1 cl1,.slice pf1 m2 cf1] 52)):=(Below.refl _ _).alloc (Nat.le_refl _) _
   have HBX:=hid hbx
   clear hbx
   go_wp2_with fail
   go_at_call 89
   refine(HOK.out _ S _ _ (HV1.out.ext HBX.out) HCK.out (by rw[←HQ.out];omega)).mono ?_
   rintro e' w1 ⟨he,hb⟩
   rw[←HQ.out]at he
   subst he
   have HB1:=hid (below_ext HBW.out (below_ext HBX.out hb))
   clear hb d0 d1 d2 d3 d4 d5
   go_wp2
   go_roundw
   case rel=>exact⟨j+1,P++q,by go_num,by rw[bs_app],by omega,HREL2.out,HB1.out⟩
   case measure=>simp[intOf];omega
  ·have hrel2:P=T:=by
    rw[List.drop_eq_nil_of_le (by rw[←HNL.out];omega),textL,List.append_nil]at hrel
    exact hrel
   clear hrel
   subst hrel2
   have c15:wr.cell? ⟨w.heap.size,4,none⟩=some (.slice pl nl cl):=(HD1.out.below HBW.out hlt1).cell rfl
   go_wp2_with fail
   go_at_call 121
   refine(ref_number_any nl _ (by omega)).mono ?_
   rintro e' w1 ⟨rfl,hb⟩
   have HB:=hid (Below.trans HB0.out ((below_ext HBW.out hb).mono (by omega)))
   clear hb c15
   go_wp2
   go_ret
   exact⟨by rw[HR2.out,←HT.out,bs_cons2W];rfl,HB.out⟩
 ·have HR2:Hid (R=7::(numL nf++textF f)):=hid (by rw[hR];rfl)
  clear hR
  rw[show((6:Nat):Int)=6 from rfl]
  obtain⟨T,hT⟩:∃T,T=textF f:=⟨_,rfl⟩
  have hTl:T.length<=1099511627776:=by
   have:=congrArg List.length HR2.out
   rw[List.length_cons,List.length_append,←hT]at this
   omega
  have HT:=hid hT;clear hT
  have hn10:=numL_length nf
  have hsN:=bs_size (numL nf)
  go_enter Tryz.func89,Tryz.ntmps89
  go_upto_region 21 with(fail)
  generalize hW0:World.alloc w _=W0
  have hd1:IsBlk W0 w.heap.size #[.int .u8 6,.bool b,.int .i64 n,.string (bs s),.slice pl nl cl,.slice pf nf cf] 52:=by rw[←hW0];exact IsBlk.new _ _ _
  have hb0:Below w.heap.size w W0:=by rw[←hW0];exact(Below.refl _ _).alloc (Nat.le_refl _) _
  have hlt1:w.heap.size<W0.heap.size:=hd1.lt
  clear hW0
  have c14:W0.cell? ⟨w.heap.size,5,none⟩=some (.slice pf nf cf):=hd1.cell rfl
  have HD1:=hid hd1
  have HB0:=hid hb0
  clear hd1 hb0
  go_wp2
  clear c14
  go_loopw [60,3] (fun i v wr=>∃(j:Nat) (P:List UInt8),i=.int .i64 j/\v=.string (bs P)/\j<=nf/\P++textF (f.drop j)=T/\Below W0.heap.size W0 wr) (fun i _ _=>nf-(intOf i).toNat)
  case atStart=>exact⟨0,[],rfl,rfl,by omega,HT.out.symm,Below.refl _ _⟩
  case round=>
  obtain⟨j,P,rfl,rfl,hj,hrel,hbw⟩:=hrel
  have hwr:=hbw.size
  have HBW:=hid hbw
  clear hbw
  have hP:=bs_size P
  by_cases hlt:j<nf
  ·have hj1:j<f.length:=by rw[←HNF.out];exact hlt
   have hbwr:=Below.trans HB0.out (HBW.out.mono (by omega))
   obtain⟨g1,o1,cs1,hp1,⟨hxl,hc1⟩,hv1⟩:=(HF.out.ext hbwr) j hj1
   have hok:=HIF.out _ (List.getElem_mem hj1)
   have hck:=HCF.out _ (List.getElem_mem hj1)
   rw[textF_drop hj1]at hrel
   generalize f[j]=p1 at hv1 hok hrel hck hxl hc1
   obtain⟨x1,u1⟩:=p1
   simp only[]at hv1 hok hrel hck hxl hc1
   obtain⟨k1,b1,n1,s1,l1,f1⟩:=u1
   obtain⟨q,hq⟩:∃q,q=textV (.mk k1 b1 n1 s1 l1 f1):=⟨_,rfl⟩
   obtain⟨y1,hy1⟩:∃y1,y1=bytesL x1:=⟨_,rfl⟩
   rw[←hq,←hy1,←List.append_assoc]at hrel
   have hlen:P.length+(y1.length+q.length)<=1099511627776:=by
    have:=congrArg List.length hrel
    rw[List.length_append,List.length_append,List.length_append]at this
    omega
   have hqs:=bs_size q
   have hys:=bs_size y1
   have HQ:=hid hq
   have HY:=hid hy1
   have HOK:=hid hok
   have HCK:=hid hck
   have HREL2:=hid hrel
   have HV1:=hid hv1
   obtain⟨pl1,cl1,pf1,cf1,rfl,_,_,_⟩:=hasVal_mk.1 hv1
   obtain⟨d0,d1,d2,d3,d4,d5,d6⟩:=hc1.seven
   have hg1:=hc1.2.1
   clear hv1 hok hc1 hbwr hrel hq hck hy1
   subst hp1
   obtain⟨m1,hm1⟩:∃m1,m1=l1.length:=⟨_,rfl⟩
   obtain⟨m2,hm2⟩:∃m2,m2=f1.length:=⟨_,rfl⟩
   rw[←hm1,←hm2]at HV1
   rw[←hm1]at d5
   rw[←hm2]at d6
   clear hm1 hm2
   go_upto_region 24 with(fail)
   generalize hW2:World.alloc wr _=W2
   have hblk2:IsBlk W2 wr.heap.size #[.string (bs x1),.int .u8 (k1:Int),.bool b1,.int .i64 n1,.string (bs s1),.slice pl1 m1 cl1,.slice pf1 m2 cf1] 66:=by rw[←hW2];exact IsBlk.new _ _ _
   have hb2:Below wr.heap.size wr W2:=by rw[←hW2];exact(Below.refl _ _).alloc (Nat.le_refl _) _
   have hlt2:wr.heap.size<W2.heap.size:=hblk2.lt
   clear hW2 d0 d1 d2 d3 d4 d5 d6
   have HB2:=hid hb2;clear hb2
   have d0:W2.cell? ⟨wr.heap.size,0,none⟩=some (.string (bs x1)):=hblk2.cell rfl
   have d1:W2.cell? ⟨wr.heap.size,1,none⟩=some (.int .u8 (k1:Int)):=hblk2.cell rfl
   have d2:W2.cell? ⟨wr.heap.size,2,none⟩=some (.bool b1):=hblk2.cell rfl
   have d3:W2.cell? ⟨wr.heap.size,3,none⟩=some (.int .i64 n1):=hblk2.cell rfl
   have d4:W2.cell? ⟨wr.heap.size,4,none⟩=some (.string (bs s1)):=hblk2.cell rfl
   have d5:W2.cell? ⟨wr.heap.size,5,none⟩=some (.slice pl1 m1 cl1):=hblk2.cell rfl
   have d6:W2.cell? ⟨wr.heap.size,6,none⟩=some (.slice pf1 m2 cf1):=hblk2.cell rfl
   clear hblk2
   refine mix_start [] (Cls W2) (by kernel_rfl) (Cls.of ((Below.refl _ _).drew)) ?_
   refine mix_flt (by kernel_rfl) [0,1,2,4,5] 5 _ _ (by kernel_rfl) ?_
   simp only[opsAt,zo1,zo2,zo3,zo4,zo5]
   unfold Cls
   repeat(go_big_quiet_step (fail))
   refine wpQuiet_nil ?_
   (try rw[←Cls_def])
   refine mix_ch (i:=3) (fuel:=4) (by kernel_rfl) _ rfl (fun w1 hw1=>?_)
   go_wp2_with(go_at_call 123;refine(ref_bytes_any x1 _ (by omega)).mono ?_;rintro e' w' ⟨he,hb⟩;rw[←HY.out]at he;subst he)
   refine Then.same (hw1.trans hb) ?_
   refine mix_ch (i:=6) (fuel:=3) (by kernel_rfl) _ rfl (fun w1 hw1=>?_)
   go_wp2_with(go_at_call 89;refine(HOK.out _ S _ _ (HV1.out.ext (below_ext HB2.out hw1.below)) HCK.out (by rw[←HQ.out];omega)).mono ?_;rintro e' w' ⟨he,hb⟩;rw[←HQ.out]at he;subst he)
   refine Then.same (hw1.trans hb) ?_
   refine mix_flt (by kernel_rfl) [7,8,9] 0 _ _ (by kernel_rfl) ?_
   simp only[opsAt,zo1,zo2,zo3,zo4,zo5]
   unfold Cls
   repeat(go_big_quiet_step (fail))
   refine wpQuiet_nil ?_
   (try rw[←Cls_def])
   refine mix_end [] (by kernel_rfl) (fun w1 hw1=>?_)
   refine wpList_nil ?_
   refine Calm.normal ?_
   have HB1:=hid (below_ext HBW.out (below_ext HB2.out hw1.below))
   clear hb hw1 d0 d1 d2 d3 d4 d5 d6
   go_wp2
   go_roundw
   case rel=>exact⟨j+1,P++(y1++q),by go_num,by rw[bs_app,bs_app],by omega,HREL2.out,HB1.out⟩
   case measure=>simp[intOf];omega
  ·have hrel2:P=T:=by
    rw[List.drop_eq_nil_of_le (by rw[←HNF.out];omega),textF,List.append_nil]at hrel
    exact hrel
   clear hrel
   subst hrel2
   have c15:wr.cell? ⟨w.heap.size,5,none⟩=some (.slice pf nf cf):=(HD1.out.below HBW.out hlt1).cell rfl
   go_wp2_with fail
   go_at_call 121
   refine(ref_number_any nf _ (by omega)).mono ?_
   rintro e' w1 ⟨rfl,hb⟩
   have HB:=hid (Below.trans HB0.out ((below_ext HBW.out hb).mono (by omega)))
   clear hb c15
   go_wp2
   go_ret
   exact⟨by rw[HR2.out,←HT.out,bs_cons2W];rfl,HB.out⟩
theorem ref_text_all :∀(m:Nat) (v:DVal),SizeOf.sizeOf v<m->TextOk v:=by
 intro m
 induction m with
 |zero=>intro v h;omega
 |succ m ih=>
  intro v h
  obtain⟨k,b,n,s,l,f⟩:=v
  exact ref_text_step k b n s l f (fun v hv=>ih v (by have:=DVal.size_l (k:=k) (b:=b) (n:=n) (s:=s) (f:=f) v hv;omega)) (fun p hp=>ih p.2 (by have:=DVal.size_f (k:=k) (b:=b) (n:=n) (s:=s) (l:=l) p hp;omega))
theorem ref_text_any (v:DVal):TextOk v:=ref_text_all _ v (Nat.lt_succ_self _)
set_option maxHeartbeats 2000000 in
theorem ref_write_any (v:DVal) (S:Nat->Prop) (cs:List Value) (w:World) (hv:HasVal S w v cs) (hl:(textV v).length<=1099511627776):
 Calls Tryz.prog 56 #[.agg cs.toArray] w fun e' w'=>e'=.returned (.tuple #[.string (bs (wrP v).1),.int .i64 (wrP v).2])/\Below w.heap.size w w':=by
 have HV:=hid hv
 obtain⟨V,hV⟩:∃V,V=v:=⟨_,rfl⟩
 rw[←hV]at HV hl⊢
 obtain⟨T,hTx⟩:∃T,T=textV V:=⟨_,rfl⟩
 obtain⟨C,hC⟩:∃C,C=checkV 0 V:=⟨_,rfl⟩
 obtain⟨R,hR⟩:∃R,R=wrP V:=⟨_,rfl⟩
 rw[←hR]
 rw[wrP,←hTx,←hC]at hR
 rw[←hTx]at hl
 obtain⟨k,b,n,s,l,f⟩:=v
 obtain⟨pl,cl,pf,cf,rfl,_,_,_⟩:=hasVal_mk.1 hv
 clear hv hV
 have HTX:=hid hTx
 have HC:=hid hC
 have HR:=hid hR
 clear hTx hC hR
 obtain⟨nl,hnl⟩:∃nl,nl=l.length:=⟨_,rfl⟩
 obtain⟨nf,hnf⟩:∃nf,nf=f.length:=⟨_,rfl⟩
 show Calls Tryz.prog 56 #[.agg #[.int .u8 (k:Int),.bool b,.int .i64 n,.string (bs s),.slice pl l.length cl,.slice pf f.length cf]] w _
 rw[←hnl,←hnf]at HV⊢
 clear hnl hnf
 go_enter Tryz.func56,Tryz.ntmps56
 go_wp2_with fail
 go_at_call 82
 have hb1:Below w.heap.size w (w.alloc (.cells #[.int .u8 (k:Int),.bool b,.int .i64 n,.string (bs s),.slice pl nl cl,.slice pf nf cf] 52)):=(Below.refl _ _).alloc (Nat.le_refl _) _
 refine(ref_check_any V S _ _ (HV.out.ext hb1)).mono ?_
 rintro e' w1 ⟨he,hb⟩
 rw[←HC.out]at he
 subst he
 have hd1:IsBlk w1 w.heap.size #[.int .u8 (k:Int),.bool b,.int .i64 n,.string (bs s),.slice pl nl cl,.slice pf nf cf] 52:=(IsBlk.new w _ _).ext hb
 have hbw:=below_ext hb1 hb
 have c0:=hd1.cell (i:=0) rfl
 have c1:=hd1.cell (i:=1) rfl
 have c2:=hd1.cell (i:=2) rfl
 have c3:=hd1.cell (i:=3) rfl
 have c4:=hd1.cell (i:=4) rfl
 have c5:=hd1.cell (i:=5) rfl
 have HB:=hid hbw
 clear hb hb1 hbw hd1
 by_cases hc:C=0
 ·have hR2:R=if 16384<T.length then([],4)else(T,0):=by rw[HR.out,if_neg (by simpa using hc)]
  have HR2:=hid hR2
  have HC0:Hid (checkV 0 V=0):=hid (by rw[←HC.out,hc])
  clear hR2 HR HC
  subst hc
  have hsT:=bs_size T
  go_wp2_with fail
  go_at_call 89
  refine(ref_text_any V 0 S _ _ (HV.out.ext HB.out) HC0.out (by rw[←HTX.out];omega)).mono ?_
  rintro e' w2 ⟨he,hb⟩
  rw[←HTX.out]at he
  subst he
  have HB2:=hid (below_ext HB.out hb)
  clear hb c0 c1 c2 c3 c4 c5
  by_cases h16:16384<T.length
  ·have hI:(16384:Int)<(T.length:Int):=by omega
   have hr:=HR2.out
   rw[if_pos h16]at hr
   clear HR2 h16
   subst hr
   go_wp2
   go_ret2
   exact⟨rfl,HB2.out⟩
  ·have hI:(T.length:Int)<=16384:=by omega
   have hr:=HR2.out
   rw[if_neg h16]at hr
   clear HR2 h16
   subst hr
   go_wp2
   go_ret2
   exact⟨rfl,HB2.out⟩
 ·have hR2:R=([],C):=by rw[HR.out,if_pos (by simpa using hc)]
  have hcb:(C !=0)=true:=by simpa using hc
  clear HR
  subst hR2
  go_wp2
  go_ret2
  exact⟨rfl,HB.out⟩
def bytesP (s:List UInt8):List UInt8×List UInt8×Bool:=if(takeP (numP (s,false)).1 (numP (s,false)).2).2.2=true then([],[],false)else((takeP (numP (s,false)).1 (numP (s,false)).2).1,(takeP (numP (s,false)).1 (numP (s,false)).2).2.1,true)
theorem bytesP_none {s:List UInt8} (h:readNum s=none):bytesP s=([],[],false):=by
 simp[bytesP,numP,h,takeP]
theorem bytesP_short {s:List UInt8} {v c:Nat} (h:readNum s=some (v,c)) (hl:s.length-c<v):bytesP s=([],[],false):=by
 simp[bytesP,numP,h,takeP,hl]
theorem bytesP_some {s:List UInt8} {v c:Nat} (h:readNum s=some (v,c)) (hl:v<=s.length-c):bytesP s=((s.drop c).take v,s.drop (c+v),true):=by
 simp[bytesP,numP,h,takeP,show¬s.length-c<v by omega]
set_option maxHeartbeats 2000000 in
theorem ref_bytes2_any (s:List UInt8) (w:World) (hs:s.length<=1099511627776):
 Calls Tryz.prog 111 #[.string (bs s)] w fun e' w'=>e'=.returned (.tuple #[.string (bs (bytesP s).1),.string (bs (bytesP s).2.1),.bool (bytesP s).2.2])/\Below w.heap.size w w':=by
 have hsz:=bs_size s
 obtain⟨R,hR⟩:∃R,R=bytesP s:=⟨_,rfl⟩
 rw[←hR]
 have HR:=hid hR;clear hR
 go_enter Tryz.func111,Tryz.ntmps111
 go_wp2_with fail
 go_at_call 109
 refine(ref_readNumber_any (bs s) w (by omega)).mono ?_
 rw[bs_toList]
 rintro e' w1 ⟨he,hb⟩
 have HB:=hid hb;clear hb
 cases hn:readNum s with
 |none=>
  have hr:R=([],[],false):=by rw[HR.out,bytesP_none hn]
  rw[hn]at he
  clear HR hn
  subst hr
  subst he
  simp only[rdP]
  go_wp2
  go_ret3
  exact⟨rfl,HB.out⟩
 |some p=>
  obtain⟨v,c⟩:=p
  rw[hn]at he
  subst he
  obtain⟨_,hc,hc1,hc10⟩:=readNum_some hn
  have hv64:=readNum_lt hn
  simp only[rdP]
  by_cases hlt:s.length-c<v
  ·have hr:R=([],[],false):=by rw[HR.out,bytesP_short hn hlt]
   have hI:(s.length:Int)-(c:Int)<(v:Int):=by omega
   clear HR hn
   subst hr
   go_wp2
   go_ret3
   exact⟨rfl,HB.out⟩
  ·have hr:R=((s.drop c).take v,s.drop (c+v),true):=by rw[HR.out,bytesP_some hn (by omega)]
   have hI:(v:Int)<=(s.length:Int)-(c:Int):=by omega
   have HR:=hid hr
   clear hn hr hlt
   have he1:(bs s).extract c (c+v)=bs ((s.drop c).take v):=by rw[bs_extract,List.drop_take,Nat.add_sub_cancel_left]
   have he2:(bs s).extract (c+v) s.length=bs (s.drop (c+v)):=by rw[bs_extract,List.take_length]
   have HE1:=hid he1
   have HE2:=hid he2
   clear he1 he2
   go_upto_region 4 with(fail)
   refine mix_start [] (Cls w1) (by kernel_rfl) (Cls.of ((Below.refl _ _).drew)) ?_
   refine mix_flt (by kernel_rfl) [0,1,2,3,4,5,6,7,8,9,10,11,12,13,14,15] 0 _ _ (by kernel_rfl) ?_
   simp only[opsAt,zo1,zo2,zo3,zo4,zo5]
   unfold Cls
   repeat(go_big_quiet_step (fail))
   refine wpQuiet_nil ?_
   (try rw[←Cls_def])
   refine mix_end [] (by kernel_rfl) (fun w1 hw1=>?_)
   refine wpList_nil ?_
   refine Calm.normal ?_
   have HB2:=hid (below_ext HB.out hw1.below)
   clear hw1
   go_wp2
   go_ret3
   exact⟨by rw[HR.out,←HE1.out,←HE2.out];rfl,HB2.out⟩
def RfPost (w:World) (r:DVal×St) (e':Ending) (w':World):Prop:=∃(V:DVal) (cs:List Value) (rest:List UInt8) (ok:Bool),e'=.returned (.tuple #[.agg cs.toArray,.string (bs rest),.bool ok])/\HasVal (fun b=>w.heap.size<=b) w' V cs/\Below w.heap.size w w'/\r.2.2=!ok/\(ok=true->V=r.1/\rest=r.2.1)
def RfOk (k:Nat):Prop:=∀(s:List UInt8) (dI:Int) (w:World),dI=11-(k:Int)->s.length<=16384->Calls Tryz.prog 81 #[.string (bs s),.int .i64 dI] w (RfPost w (valueP k (s,false)))
theorem results_ctt {P:Program} {fn:Func} {p u u2:Tmp} {ty:TypeId} (h:fn.results= #[.cell p ty,.tmp u,.tmp u2]) {tmps:Array Value} {w:World} {g:Nat} {t:TypeId} {cs:Array Value} {d:TypeDesc}
 (hp:tmps.getD p undef=.pointer (some ⟨g,0,none⟩)) (hg:IsBlk w g cs t) (hu:P.underlying ty=some d) (hd:(match d with| .struct _| .array _ _=>true|_=>false)=true) (hi:(P.info? ty).map (·.size)=some cs.size) {v v2:Value} (hv:tmps.getD u undef=v) (hv2:tmps.getD u2 undef=v2):
 (results fn tmps).run P w=.ok (.tuple #[.agg cs,v,v2]) w:=by
 have hp':tmps[p]?.getD undef=.pointer (some ⟨g,0,none⟩):=by simpa using hp
 have hv':tmps[u]?.getD undef=v:=by simpa using hv
 have hv2':tmps[u2]?.getD undef=v2:=by simpa using hv2
 simp[results,h,hp',hv',hv2',asAddr,run_loadVar_row w g t ty cs (0,0) d hg hu hd hi]
theorem KeptGW.set6 {g:Nat} {w:World} (c0 c1 c2 c3 c4 c5:Value):KeptGW g w ((((((w.setCell ⟨g,0,none⟩ c0).setCell ⟨g,1,none⟩ c1).setCell ⟨g,2,none⟩ c2).setCell ⟨g,3,none⟩ c3).setCell ⟨g,4,none⟩ c4).setCell ⟨g,5,none⟩ c5):=
 ⟨by simp,fun b _ hne=>by
   have e:∀(W:World) (o:Nat) (u:Value),(W.setCell ⟨g,o,none⟩ u).heap[b]?=W.heap[b]?:=fun W o u=>Below.heap_setCell _ _ _ _ hne
   rw[e,e,e,e,e,e]⟩
theorem KeptGW.drew {g:Nat} {w w':World} (h:KeptGW g w w'):KeptGW g w w'.drew:=h
theorem KeptGW.set6d {g:Nat} {w:World} (c0 c1 c2 c3 c4 c5:Value):KeptGW g w ((((((w.setCell ⟨g,0,none⟩ c0).setCell ⟨g,1,none⟩ c1).setCell ⟨g,2,none⟩ c2).setCell ⟨g,3,none⟩ c3).setCell ⟨g,4,none⟩ c4).setCell ⟨g,5,none⟩ c5).drew:=(KeptGW.set6 c0 c1 c2 c3 c4 c5).drew
theorem rf_ret {tmps:Array Value} {w w2:World} {h:Nat} {r:DVal×St} {V:DVal} {rest:List UInt8} {ok:Bool} {cs:List Value} (hp:tmps.getD 4 undef=.pointer (some ⟨h,0,none⟩)) (h5:tmps.getD 5 undef=.string (bs rest)) (h6:tmps.getD 6 undef=.bool ok)
 (hz:IsBlk w2 h cs.toArray 52) (hv:HasVal (fun b=>w.heap.size<=b) w2 V cs) (hb:Below w.heap.size w w2) (hr:r.2.2=!ok) (hr2:ok=true->V=r.1/\rest=r.2.1):
 bodyPost Tryz.prog Tryz.f81 (RfPost w r) Exit.ret {tmps:=tmps,defers:=[]} w2:=
 bodyPost_ret (v:=.tuple #[.agg cs.toArray,.string (bs rest),.bool ok]) (results_ctt (p:=4) (u:=5) (u2:=6) (ty:=52) Tryz.results81 hp hz Tryz.underlying52 rfl (by rw[List.size_toArray,hv.len];kernel_rfl) h5 h6) rfl ⟨V,cs,rest,ok,rfl,hv,hb,hr,hr2⟩
theorem rf_fin {tmps:Array Value} {w w2:World} {h:Nat} {r:DVal×St} {V:DVal} {rest:List UInt8} {ok:Bool} {a0 a1 a2 a3 a4 a5 c0 c1 c2 c3 c4 c5:Value} (hp:tmps.getD 4 undef=.pointer (some ⟨h,0,none⟩)) (h5:tmps.getD 5 undef=.string (bs rest)) (h6:tmps.getD 6 undef=.bool ok)
 (hz:IsBlk w2 h #[a0,a1,a2,a3,a4,a5] 52) (hb:Below w.heap.size w w2) (hh:w.heap.size<=h) (hv:∀w',(∀b,b≠h->w'.heap[b]?=w2.heap[b]?)->HasVal (fun b=>w.heap.size<=b) w' V [c0,c1,c2,c3,c4,c5]) (hr:r.2.2=!ok) (hr2:ok=true->V=r.1/\rest=r.2.1):
 bodyPost Tryz.prog Tryz.f81 (RfPost w r) Exit.ret {tmps:=tmps,defers:=[]}
  ((((((w2.setCell ⟨h,0,none⟩ c0).setCell ⟨h,1,none⟩ c1).setCell ⟨h,2,none⟩ c2).setCell ⟨h,3,none⟩ c3).setCell ⟨h,4,none⟩ c4).setCell ⟨h,5,none⟩ c5):=by
 refine rf_ret hp h5 h6 (cs:=[c0,c1,c2,c3,c4,c5]) (set6 hz c0 c1 c2 c3 c4 c5) (hv _ (fun b hb=>?_)) (below6 hb hh c0 c1 c2 c3 c4 c5) hr hr2
 have e:∀(W:World) (o:Nat) (u:Value),(W.setCell ⟨h,o,none⟩ u).heap[b]?=W.heap[b]?:=fun W o u=>Below.heap_setCell _ _ _ _ hb
 rw[e,e,e,e,e,e]
theorem rf_finD {tmps:Array Value} {w w2:World} {h:Nat} {r:DVal×St} {V:DVal} {rest:List UInt8} {ok:Bool} {a0 a1 a2 a3 a4 a5 c0 c1 c2 c3 c4 c5:Value} (hp:tmps.getD 4 undef=.pointer (some ⟨h,0,none⟩)) (h5:tmps.getD 5 undef=.string (bs rest)) (h6:tmps.getD 6 undef=.bool ok)
 (hz:IsBlk w2 h #[a0,a1,a2,a3,a4,a5] 52) (hb:Below w.heap.size w w2) (hh:w.heap.size<=h) (hv:∀w',(∀b,b≠h->w'.heap[b]?=w2.heap[b]?)->HasVal (fun b=>w.heap.size<=b) w' V [c0,c1,c2,c3,c4,c5]) (hr:r.2.2=!ok) (hr2:ok=true->V=r.1/\rest=r.2.1):
 bodyPost Tryz.prog Tryz.f81 (RfPost w r) Exit.ret {tmps:=tmps,defers:=[]}
  ((((((w2.setCell ⟨h,0,none⟩ c0).setCell ⟨h,1,none⟩ c1).setCell ⟨h,2,none⟩ c2).setCell ⟨h,3,none⟩ c3).setCell ⟨h,4,none⟩ c4).setCell ⟨h,5,none⟩ c5).drew:=by
 have h1:=set6 hz c0 c1 c2 c3 c4 c5
 have h2:=below6 hb hh c0 c1 c2 c3 c4 c5
 have h3:∀b,b≠h->((((((w2.setCell ⟨h,0,none⟩ c0).setCell ⟨h,1,none⟩ c1).setCell ⟨h,2,none⟩ c2).setCell ⟨h,3,none⟩ c3).setCell ⟨h,4,none⟩ c4).setCell ⟨h,5,none⟩ c5).heap[b]?=w2.heap[b]?:=fun b hb=>by
  have e:∀(W:World) (o:Nat) (u:Value),(W.setCell ⟨h,o,none⟩ u).heap[b]?=W.heap[b]?:=fun W o u=>Below.heap_setCell _ _ _ _ hb
  rw[e,e,e,e,e,e]
 generalize((((((w2.setCell ⟨h,0,none⟩ c0).setCell ⟨h,1,none⟩ c1).setCell ⟨h,2,none⟩ c2).setCell ⟨h,3,none⟩ c3).setCell ⟨h,4,none⟩ c4).setCell ⟨h,5,none⟩ c5)=W at h1 h2 h3⊢
 exact rf_ret hp h5 h6 (cs:=[c0,c1,c2,c3,c4,c5]) h1.drew (hv W.drew h3) h2.drew hr hr2
theorem bytesP_len (s:List UInt8):(bytesP s).1.length<=s.length:=by
 unfold bytesP
 split
 ·simp
 ·simp only[takeP]
  split
  ·simp
  ·have:=numP_len (s,false)
   simp only[List.length_take]at this⊢
   omega
theorem bytesP_eq (s:List UInt8):(takeP (numP (s,false)).1 (numP (s,false)).2).2.2=!(bytesP s).2.2/\((bytesP s).2.2=true->(bytesP s).1=(takeP (numP (s,false)).1 (numP (s,false)).2).1/\(bytesP s).2.1=(takeP (numP (s,false)).1 (numP (s,false)).2).2.1):=by
 unfold bytesP
 split
 ·rename_i h
  exact⟨h,fun h=>by cases h⟩
 ·rename_i h
  exact⟨by simpa using h,fun _=>⟨rfl,rfl⟩⟩
theorem accL_val {S:Nat->Prop} {w:World} {B c:Nat} {p:Option Addr} {vs:List DVal} (h:Acc HasVal B 52 6 w (.slice p vs.length c) vs) (hS:∀b,B<=b->S b) (hl:vs.length<=1073741824):
 HasVal S w (.mk 5 false 0 [] vs []) [.int .u8 5,.bool false,.int .i64 0,.string (bs []),.slice p vs.length c,.slice none 0 0]:=by
 obtain⟨p',c',hpc,h1,h2,hcl⟩:=h.cells relV hS
 injection hpc with e1 _ e2
 subst e1
 subst e2
 refine hasVal_mk.2 ⟨p,c,none,0,rfl,⟨by decide,by decide,by decide,by simp,hl,by simp,h1,h2,by simp,by unfold maxLen;omega⟩,fun i hi=>?_,fun i hi=>by simp at hi⟩
 obtain⟨gg,cs,e1,e2,e3⟩:=hcl i hi
 exact⟨gg,0,cs,e1,e2,e3⟩
theorem accF_val {S:Nat->Prop} {w:World} {B c:Nat} {p:Option Addr} {vs:List (List UInt8×DVal)} (h:Acc HasFld B 66 7 w (.slice p vs.length c) vs) (hS:∀b,B<=b->S b) (hl:vs.length<=1073741824):
 HasVal S w (.mk 6 false 0 [] [] vs) [.int .u8 6,.bool false,.int .i64 0,.string (bs []),.slice none 0 0,.slice p vs.length c]:=by
 obtain⟨p',c',hpc,h1,h2,hcl⟩:=h.cells relF hS
 injection hpc with e1 _ e2
 subst e1
 subst e2
 refine hasVal_mk.2 ⟨none,0,p,c,rfl,⟨by decide,by decide,by decide,by simp,by simp,hl,by simp,by unfold maxLen;omega,h1,h2⟩,fun i hi=>by simp at hi,fun i hi=>?_⟩
 obtain⟨gg,cs,e1,e2,cs',e3,e4,e5⟩:=hcl i hi
 subst e3
 exact⟨gg,0,cs',e1,⟨e4,e2⟩,e5⟩
theorem bytesP_rest (s:List UInt8):(bytesP s).2.2=true->(bytesP s).1.length<=s.length/\(bytesP s).2.1.length<=s.length:=by
 intro h
 refine⟨bytesP_len s,?_⟩
 rw[((bytesP_eq s).2 h).2]
 exact Nat.le_trans (takeP_len _ _) (numP_len (s,false))
theorem fieldP_some (f:St->DVal×St) {st x rest:List UInt8} (h:bytesP st=(x,rest,true)):fieldP f (st,false)=((x,(f (rest,false)).1),(f (rest,false)).2):=by
 have h1:=bytesP_eq st
 rw[h]at h1
 obtain⟨h2,h3⟩:=h1
 obtain⟨h4,h5⟩:=h3 rfl
 unfold fieldP
 generalize takeP (numP (st,false)).1 (numP (st,false)).2=q at h2 h4 h5⊢
 obtain⟨q1,q2,q3⟩:=q
 simp only[Bool.not_true]at h2 h4 h5
 subst h2 h4 h5
 rfl
theorem fieldP_none {k:Nat} {st:List UInt8} (h:(bytesP st).2.2=false):(fieldP (valueP k) (st,false)).2.2=true:=by
 have h1:=(bytesP_eq st).1
 rw[h]at h1
 unfold fieldP
 generalize takeP (numP (st,false)).1 (numP (st,false)).2=q at h1⊢
 obtain⟨q1,q2,q3⟩:=q
 simp only[Bool.not_false]at h1
 subst h1
 cases k<;>rfl
set_option maxHeartbeats 8000000 in
theorem rf_step (k:Nat) (ih:∀k',k=k'+1->RfOk k') (hk:k<=11):RfOk k:=by
 intro s dI w hd hs
 have IH:=hid ih;clear ih
 obtain⟨R,hR⟩:∃R,R=valueP k (s,false):=⟨_,rfl⟩
 rw[←hR]
 cases s with
 |nil=>
  have hrb:R.2.2=true:=by rw[hR];cases k<;>rfl
  have HRB:=hid hrb
  clear hrb hR
  have he:((bs []).toList==([]:List UInt8))=true:=by rw[tl_bs];rfl
  go_enter Tryz.func81,Tryz.ntmps81
  go_wp2
  exact rf_ret rfl rfl rfl (IsBlk.new _ _ _) (zero_hasW _ _) ((Below.refl _ _).alloc (Nat.le_refl _) _) HRB.out (fun h=>by cases h)
 |cons b l=>
 have he:((bs (b::l)).toList==([]:List UInt8))=false:=by rw[tl_bs];rfl
 have hsz:(bs (b::l)).size=l.length+1:=by rw[bs_size];rfl
 have hszl:=bs_size l
 have hll:l.length<=16383:=by rw[List.length_cons]at hs;omega
 have htl:(bs (b::l)).extract 1 (l.length+1)=bs l:=by rw[bs_extract];simp
 have hq256:b.toNat<256:=b.toNat_lt
 obtain⟨Q,hQ⟩:∃Q,Q=b.toNat:=⟨_,rfl⟩
 have hb0:∀h,((bs (b::l))[0]'h).toNat=Q:=fun _=>hQ.symm
 rw[←hQ]at hq256
 by_cases hf:7<Q\/k=0
 ·have hrb:R.2.2=true:=by
   rw[hR]
   rcases hf with hf|rfl
   ·cases k with
    |zero=>rfl
    |succ k=>
     have hn:∀c:UInt8,c.toNat<=7-> ¬b=c:=fun c hc e=>by subst e;omega
     rw[valueP,if_neg (by decide)]
     rw[if_neg (hn 0 (by decide)),if_neg (hn 1 (by decide)),if_neg (hn 2 (by decide)),if_neg (hn 3 (by decide)),if_neg (hn 4 (by decide)),if_neg (hn 5 (by decide)),if_neg (hn 6 (by decide)),if_neg (hn 7 (by decide))]
   ·rfl
  have HRB:=hid hrb
  have hf2:(decide (7<(Q:Int))=true)\/(decide (7<(Q:Int))=false/\10<dI):=by
   by_cases h7:7<Q
   ·left;exact decide_eq_true (by omega)
   ·right;exact⟨decide_eq_false (by omega),by omega⟩
  clear hrb hR hf hd hk hQ
  rcases hf2 with hf2|⟨hf2,hf3⟩
  ·go_enter Tryz.func81,Tryz.ntmps81
   go_wp2
   exact rf_ret rfl rfl rfl (IsBlk.new _ _ _) (zero_hasW _ _) ((Below.refl _ _).alloc (Nat.le_refl _) _) HRB.out (fun h=>by cases h)
  ·have hf4:decide (10<dI)=true:=decide_eq_true hf3
   go_enter Tryz.func81,Tryz.ntmps81
   go_wp2
   exact rf_ret rfl rfl rfl (IsBlk.new _ _ _) (zero_hasW _ _) ((Below.refl _ _).alloc (Nat.le_refl _) _) HRB.out (fun h=>by cases h)
 obtain⟨k,rfl⟩:∃k',k=k'+1:=⟨k-1,by omega⟩
 have hIH:=IH.out k rfl
 have IH2:=hid hIH
 clear hIH IH
 have hd7:decide (7<(Q:Int))=false:=decide_eq_false (by omega)
 have hd10:decide (10<dI)=false:=decide_eq_false (by omega)
 have hdI10:dI<=10:=by omega
 have hdI0:0<=dI:=by omega
 have hdk:dI+1=11-(k:Int):=by omega
 have HDK:=hid hdk
 have hq:Q=0\/Q=1\/Q=2\/Q=3\/Q=4\/Q=5\/Q=6\/Q=7:=by omega
 rw[valueP,if_neg (by decide)]at hR
 have hbn:∀c:UInt8,Q=c.toNat->b=c:=fun c h=>UInt8.toNat_inj.1 (hQ.symm.trans h)
 clear hf hd hk hdk hq256 hQ
 rcases hq with hb|hb|hb|hb|hb|hb|hb|hb
 ·obtain rfl:=hbn 0 hb
  have HR:Hid (R=(.zero,(l,false))):=hid hR
  clear hR hbn
  subst hb
  go_enter Tryz.func81,Tryz.ntmps81
  go_wp2
  exact rf_ret rfl rfl rfl ((IsBlk.new _ _ _).alloc _) (zero_hasW _ _) (((Below.refl _ _).alloc (Nat.le_refl _) _).alloc (by simp) _) (by rw[HR.out];rfl) (fun _=>by rw[HR.out];exact⟨rfl,rfl⟩)
 ·obtain rfl:=hbn 1 hb
  have HR:Hid (R=(.mk 1 false 0 [] [] [],(l,false))):=hid hR
  clear hR hbn
  subst hb
  go_enter Tryz.func81,Tryz.ntmps81
  go_wp2
  exact rf_ret rfl rfl rfl ((IsBlk.new _ _ _).alloc _) (flat_has _ _ 1 (by decide) false 0 (by decide) (by decide) [] (by decide)) (((Below.refl _ _).alloc (Nat.le_refl _) _).alloc (by simp) _) (by rw[HR.out];rfl) (fun _=>by rw[HR.out];exact⟨rfl,rfl⟩)
 ·obtain rfl:=hbn 2 hb
  have HR:Hid (R=(.mk 1 true 0 [] [] [],(l,false))):=hid hR
  clear hR hbn
  subst hb
  go_enter Tryz.func81,Tryz.ntmps81
  go_wp2
  exact rf_ret rfl rfl rfl ((IsBlk.new _ _ _).alloc _) (flat_has _ _ 1 (by decide) true 0 (by decide) (by decide) [] (by decide)) (((Below.refl _ _).alloc (Nat.le_refl _) _).alloc (by simp) _) (by rw[HR.out];rfl) (fun _=>by rw[HR.out];exact⟨rfl,rfl⟩)
 ·obtain rfl:=hbn 3 hb
  have HR:Hid (R=(.mk 2 false (zagN (numP (l,false)).1) [] [] [],(numP (l,false)).2)):=hid hR
  clear hR hbn
  subst hb
  go_enter Tryz.func81,Tryz.ntmps81
  go_upto_region 13 with(fail)
  generalize hW0:World.alloc (World.alloc w _) _=W0
  have hz0:IsBlk W0 w.heap.size #[.int .u8 0,.bool false,.int .i64 0,.string (bs []),.slice none 0 0,.slice none 0 0] 52:=by rw[←hW0];exact(IsBlk.new _ _ _).alloc _
  have hv0:IsBlk W0 (w.heap.size+1) #[.int .u8 0,.bool false,.int .i64 0,.string (bs []),.slice none 0 0,.slice none 0 0] 52:=by rw[←hW0];exact IsBlk.new_at (by simp)
  have hbw0:Below w.heap.size w W0:=by rw[←hW0];exact((Below.refl _ _).alloc (Nat.le_refl _) _).alloc (by simp) _
  clear hW0
  go_wp2_with fail
  go_at_call 109
  refine(ref_readNumber_any (bs l) _ (by omega)).mono ?_
  rw[bs_toList]
  rintro e' w1 ⟨hen,hb⟩
  have hz1:=hz0.ext hb
  have hv1:=hv0.ext hb
  have HBW:=hid (hbw0.trans (hb.mono (by have:=hz0.lt;omega)))
  have hlt1:=hz1.lt
  clear hb hz0 hv0 hbw0
  cases hn:readNum l with
  |none=>
   have HR2:Hid (R.2.2=true):=hid (by rw[HR.out];simp[numP,hn])
   rw[hn]at hen
   clear HR hn
   subst hen
   simp only[rdP]
   have c0:=hv1.cell (i:=0) rfl
   have c1:=hv1.cell (i:=1) rfl
   have c2:=hv1.cell (i:=2) rfl
   have c3:=hv1.cell (i:=3) rfl
   have c4:=hv1.cell (i:=4) rfl
   have c5:=hv1.cell (i:=5) rfl
   have z0:=hz1.cell (i:=0) rfl
   have z1:=hz1.cell (i:=1) rfl
   have z2:=hz1.cell (i:=2) rfl
   have z3:=hz1.cell (i:=3) rfl
   have z4:=hz1.cell (i:=4) rfl
   have z5:=hz1.cell (i:=5) rfl
   have f0:=hz1.frozen 0
   have f1:=hz1.frozen 1
   have f2:=hz1.frozen 2
   have f3:=hz1.frozen 3
   have f4:=hz1.frozen 4
   have f5:=hz1.frozen 5
   have HZ1:=hid hz1
   clear hz1 hv1
   go_wp2
   exact rf_fin rfl rfl rfl HZ1.out HBW.out (Nat.le_refl _) (fun w' _=>zero_hasW _ w') (by rw[HR2.out];rfl) (fun h=>by cases h)
  |some p=>
   obtain⟨v,c⟩:=p
   rw[hn]at hen
   subst hen
   obtain⟨_,hc,hc1,hc10⟩:=readNum_some hn
   have hv64:=readNum_lt hn
   have hzr:=zagN_range v hv64
   have HR2:Hid (R=(.mk 2 false (zagN v) [] [] [],(l.drop c,false))):=hid (by rw[HR.out];simp[numP,hn])
   clear HR hn hv1
   simp only[rdP]
   have he2:(bs l).extract c l.length=bs (l.drop c):=by rw[bs_extract,List.take_length]
   have hcI:(c:Int)<=(l.length:Int):=by omega
   have hc0I:(0:Int)<=(c:Int):=by omega
   have HZ1:=hid hz1
   clear hz1
   go_upto_region 16 with(fail)
   have z0:=HZ1.out.cell (i:=0) rfl
   have z1:=HZ1.out.cell (i:=1) rfl
   have z2:=HZ1.out.cell (i:=2) rfl
   have z3:=HZ1.out.cell (i:=3) rfl
   have z4:=HZ1.out.cell (i:=4) rfl
   have z5:=HZ1.out.cell (i:=5) rfl
   have f0:=HZ1.out.frozen 0
   have f1:=HZ1.out.frozen 1
   have f2:=HZ1.out.frozen 2
   have f3:=HZ1.out.frozen 3
   have f4:=HZ1.out.frozen 4
   have f5:=HZ1.out.frozen 5
   refine mixW_start [] (ClsGW w.heap.size w1) (by kernel_rfl) (ClsGW.drew w.heap.size w1) (fun hCw=>?_)
   refine mixW_flt (by kernel_rfl) [0,3,4,5] 5 _ _ hCw (by kernel_rfl) ?_
   simp only[opsAt,zo1,zo2,zo3,zo4,zo5]
   unfold ClsGW
   repeat(go_big_quiet_step (fail))
   refine wpQuiet_nil ?_
   (try rw[←ClsGW_def])
   refine mixW_ch (i:=1) (fuel:=4) (by kernel_rfl) _ rfl ?_
   go_wp2_with(go_at_call 110;refine(ref_zag_any v _ hv64).mono ?_;rintro e' w5 ⟨rfl,rfl⟩)
   refine ThenW.mk (hCw) (fun hCw=>?_)
   refine mixW_ch (i:=2) (fuel:=3) (by kernel_rfl) _ rfl ?_
   go_wp2_with(fail)
   refine ThenW.mk (hCw) (fun hCw=>?_)
   refine mixW_ch (i:=6) (fuel:=2) (by kernel_rfl) _ rfl ?_
   go_wp2_with(fail)
   refine ThenW.mk (.of (KeptGW.set6d _ _ _ _ _ _)) (fun hCw=>?_)
   refine mixW_flt (by kernel_rfl) [7,8] 0 _ _ hCw (by kernel_rfl) ?_
   simp only[opsAt,zo1,zo2,zo3,zo4,zo5]
   unfold ClsGW
   repeat(go_big_quiet_step (fail))
   refine wpQuiet_nil ?_
   (try rw[←ClsGW_def])
   refine mixW_end [] (by kernel_rfl) ?_
   refine wpList_nil ?_
   refine Calm.normal ?_
   go_wp2
   exact rf_finD rfl rfl rfl HZ1.out HBW.out (Nat.le_refl _) (fun w' _=>flat_has _ w' 2 (by decide) false _ hzr.1 hzr.2 [] (by decide)) (by rw[HR2.out];rfl) (fun _=>by rw[HR2.out];exact⟨rfl,rfl⟩)
 ·obtain rfl:=hbn 4 hb
  have HR:Hid (R=(.mk 3 false 0 (takeP (numP (l,false)).1 (numP (l,false)).2).1 [] [],(takeP (numP (l,false)).1 (numP (l,false)).2).2)):=hid hR
  clear hR hbn
  subst hb
  go_enter Tryz.func81,Tryz.ntmps81
  go_upto_region 19 with(fail)
  generalize hW0:World.alloc (World.alloc w _) _=W0
  have hz0:IsBlk W0 w.heap.size #[.int .u8 0,.bool false,.int .i64 0,.string (bs []),.slice none 0 0,.slice none 0 0] 52:=by rw[←hW0];exact(IsBlk.new _ _ _).alloc _
  have hbw0:Below w.heap.size w W0:=by rw[←hW0];exact((Below.refl _ _).alloc (Nat.le_refl _) _).alloc (by simp) _
  clear hW0
  go_wp2_with fail
  go_at_call 111
  refine(ref_bytes2_any l _ (by omega)).mono ?_
  rintro e' w1 ⟨rfl,hb⟩
  have hz1:=hz0.ext hb
  have HBW:=hid (hbw0.trans (hb.mono (by have:=hz0.lt;omega)))
  clear hb hz0 hbw0
  have hxl:(bytesP l).1.length<=l.length:=bytesP_len l
  have hbp:=bytesP_eq l
  generalize bytesP l=xp at hxl hbp⊢
  obtain⟨x,rest,ok⟩:=xp
  simp only[]at hxl hbp⊢
  have HR2:Hid (R.2.2=!ok/\(ok=true-> .mk 3 false 0 x [] []=R.1/\rest=R.2.1)):=hid (by rw[HR.out];exact⟨hbp.1,fun h=>⟨by rw[(hbp.2 h).1],(hbp.2 h).2⟩⟩)
  have HX:=hid hxl
  clear hxl hbp HR
  have z0:=hz1.cell (i:=0) rfl
  have z1:=hz1.cell (i:=1) rfl
  have z2:=hz1.cell (i:=2) rfl
  have z3:=hz1.cell (i:=3) rfl
  have z4:=hz1.cell (i:=4) rfl
  have z5:=hz1.cell (i:=5) rfl
  have f0:=hz1.frozen 0
  have f1:=hz1.frozen 1
  have f2:=hz1.frozen 2
  have f3:=hz1.frozen 3
  have f4:=hz1.frozen 4
  have f5:=hz1.frozen 5
  have HZ1:=hid hz1
  clear hz1
  go_wp2
  exact rf_fin rfl rfl rfl HZ1.out HBW.out (Nat.le_refl _) (fun w' _=>flat_has _ w' 3 (by decide) false 0 (by decide) (by decide) x (by have:=HX.out;omega)) HR2.out.1 HR2.out.2
 ·obtain rfl:=hbn 5 hb
  have HR:Hid (R=(.mk 4 false 0 (takeP (numP (l,false)).1 (numP (l,false)).2).1 [] [],(takeP (numP (l,false)).1 (numP (l,false)).2).2)):=hid hR
  clear hR hbn
  subst hb
  go_enter Tryz.func81,Tryz.ntmps81
  go_upto_region 19 with(fail)
  generalize hW0:World.alloc (World.alloc w _) _=W0
  have hz0:IsBlk W0 w.heap.size #[.int .u8 0,.bool false,.int .i64 0,.string (bs []),.slice none 0 0,.slice none 0 0] 52:=by rw[←hW0];exact(IsBlk.new _ _ _).alloc _
  have hbw0:Below w.heap.size w W0:=by rw[←hW0];exact((Below.refl _ _).alloc (Nat.le_refl _) _).alloc (by simp) _
  clear hW0
  go_wp2_with fail
  go_at_call 111
  refine(ref_bytes2_any l _ (by omega)).mono ?_
  rintro e' w1 ⟨rfl,hb⟩
  have hz1:=hz0.ext hb
  have HBW:=hid (hbw0.trans (hb.mono (by have:=hz0.lt;omega)))
  clear hb hz0 hbw0
  have hxl:(bytesP l).1.length<=l.length:=bytesP_len l
  have hbp:=bytesP_eq l
  generalize bytesP l=xp at hxl hbp⊢
  obtain⟨x,rest,ok⟩:=xp
  simp only[]at hxl hbp⊢
  have HR2:Hid (R.2.2=!ok/\(ok=true-> .mk 4 false 0 x [] []=R.1/\rest=R.2.1)):=hid (by rw[HR.out];exact⟨hbp.1,fun h=>⟨by rw[(hbp.2 h).1],(hbp.2 h).2⟩⟩)
  have HX:=hid hxl
  clear hxl hbp HR
  have z0:=hz1.cell (i:=0) rfl
  have z1:=hz1.cell (i:=1) rfl
  have z2:=hz1.cell (i:=2) rfl
  have z3:=hz1.cell (i:=3) rfl
  have z4:=hz1.cell (i:=4) rfl
  have z5:=hz1.cell (i:=5) rfl
  have f0:=hz1.frozen 0
  have f1:=hz1.frozen 1
  have f2:=hz1.frozen 2
  have f3:=hz1.frozen 3
  have f4:=hz1.frozen 4
  have f5:=hz1.frozen 5
  have HZ1:=hid hz1
  clear hz1
  go_wp2
  exact rf_fin rfl rfl rfl HZ1.out HBW.out (Nat.le_refl _) (fun w' _=>flat_has _ w' 4 (by decide) false 0 (by decide) (by decide) x (by have:=HX.out;omega)) HR2.out.1 HR2.out.2
 ·obtain rfl:=hbn 6 hb
  have HR:Hid (R=(.mk 5 false 0 [] (repN (valueP k) (manyP (l,false)).1 (manyP (l,false)).2).1 [],(repN (valueP k) (manyP (l,false)).1 (manyP (l,false)).2).2)):=hid hR
  clear hR hbn
  subst hb
  go_enter Tryz.func81,Tryz.ntmps81
  go_upto_region 21 with(fail)
  generalize hW0:World.alloc (World.alloc w _) _=W0
  have hz0:IsBlk W0 w.heap.size #[.int .u8 0,.bool false,.int .i64 0,.string (bs []),.slice none 0 0,.slice none 0 0] 52:=by rw[←hW0];exact(IsBlk.new _ _ _).alloc _
  have hv0:IsBlk W0 (w.heap.size+1) #[.int .u8 0,.bool false,.int .i64 0,.string (bs []),.slice none 0 0,.slice none 0 0] 52:=by rw[←hW0];exact IsBlk.new_at (by simp)
  have hbw0:Below w.heap.size w W0:=by rw[←hW0];exact((Below.refl _ _).alloc (Nat.le_refl _) _).alloc (by simp) _
  clear hW0
  go_wp2_with fail
  go_at_call 109
  refine(ref_readNumber_any (bs l) _ (by omega)).mono ?_
  rw[bs_toList]
  rintro e' w1 ⟨hen,hb⟩
  have hz1:=hz0.ext hb
  have hv1:=hv0.ext hb
  have HBW:=hid (hbw0.trans (hb.mono (by have:=hz0.lt;omega)))
  have hlt1:=hv1.lt
  clear hb hz0 hv0 hbw0
  cases hn:readNum l with
  |none=>
   have HR2:Hid (R.2.2=true):=hid (by rw[HR.out];simp[manyP,numP,hn,repN_bad])
   rw[hn]at hen
   clear HR hn
   subst hen
   simp only[rdP]
   have c0:=hv1.cell (i:=0) rfl
   have c1:=hv1.cell (i:=1) rfl
   have c2:=hv1.cell (i:=2) rfl
   have c3:=hv1.cell (i:=3) rfl
   have c4:=hv1.cell (i:=4) rfl
   have c5:=hv1.cell (i:=5) rfl
   have z0:=hz1.cell (i:=0) rfl
   have z1:=hz1.cell (i:=1) rfl
   have z2:=hz1.cell (i:=2) rfl
   have z3:=hz1.cell (i:=3) rfl
   have z4:=hz1.cell (i:=4) rfl
   have z5:=hz1.cell (i:=5) rfl
   have f0:=hz1.frozen 0
   have f1:=hz1.frozen 1
   have f2:=hz1.frozen 2
   have f3:=hz1.frozen 3
   have f4:=hz1.frozen 4
   have f5:=hz1.frozen 5
   have HZ1:=hid hz1
   clear hz1 hv1
   go_wp2
   exact rf_fin rfl rfl rfl HZ1.out HBW.out (Nat.le_refl _) (fun w' _=>zero_hasW _ w') (by rw[HR2.out];rfl) (fun h=>by cases h)
  |some p=>
   obtain⟨m,c⟩:=p
   rw[hn]at hen
   subst hen
   obtain⟨_,hc,hc1,hc10⟩:=readNum_some hn
   have hm64:=readNum_lt hn
   simp only[rdP]
   by_cases hm:m<=64
   case neg=>
    have HR2:Hid (R.2.2=true):=hid (by rw[HR.out];simp[manyP,numP,hn,repN_bad,show 64<m by omega])
    clear HR hn
    have c0:=hv1.cell (i:=0) rfl
    have c1:=hv1.cell (i:=1) rfl
    have c2:=hv1.cell (i:=2) rfl
    have c3:=hv1.cell (i:=3) rfl
    have c4:=hv1.cell (i:=4) rfl
    have c5:=hv1.cell (i:=5) rfl
    have z0:=hz1.cell (i:=0) rfl
    have z1:=hz1.cell (i:=1) rfl
    have z2:=hz1.cell (i:=2) rfl
    have z3:=hz1.cell (i:=3) rfl
    have z4:=hz1.cell (i:=4) rfl
    have z5:=hz1.cell (i:=5) rfl
    have f0:=hz1.frozen 0
    have f1:=hz1.frozen 1
    have f2:=hz1.frozen 2
    have f3:=hz1.frozen 3
    have f4:=hz1.frozen 4
    have f5:=hz1.frozen 5
    have HZ1:=hid hz1
    have hmI:(64:Int)<(m:Int):=by omega
    clear hz1 hv1 hm
    go_wp2
    exact rf_fin rfl rfl rfl HZ1.out HBW.out (Nat.le_refl _) (fun w' _=>zero_hasW _ w') (by rw[HR2.out];rfl) (fun h=>by cases h)
   have HR2:Hid (R=(.mk 5 false 0 [] ([]++(repN (valueP k) (m-0) (l.drop c,false)).1) [],(repN (valueP k) (m-0) (l.drop c,false)).2)):=hid (by rw[HR.out];simp[manyP,numP,hn,show¬64<m by omega])
   clear HR hn
   have hmI:(m:Int)<=64:=by omega
   have he2:(bs l).extract c l.length=bs (l.drop c):=by rw[bs_extract,List.take_length]
   have hcI:(c:Int)<=(l.length:Int):=by omega
   have v0:=hv1.cell (i:=0) rfl
   have vf:=hv1.frozen 0
   have HZ1:=hid hz1
   have HV1:=hid hv1
   clear hz1 hv1
   go_upto_block 1 with(fail)
   generalize hW2:World.setCell w1 _ _=W2
   have hv2:IsBlk W2 (w.heap.size+1) #[.int .u8 5,.bool false,.int .i64 0,.string (bs []),.slice none 0 0,.slice none 0 0] 52:=by rw[←hW2];simpa using HV1.out.set 0 (.int .u8 5)
   have hz2:IsBlk W2 w.heap.size #[.int .u8 0,.bool false,.int .i64 0,.string (bs []),.slice none 0 0,.slice none 0 0] 52:=by rw[←hW2];exact HZ1.out.set_other (show w.heap.size+1≠w.heap.size by omega) _
   have hb2:Below w.heap.size w W2:=by rw[←hW2];exact below_set HBW.out (by omega)
   have HV2:=hid hv2
   have HZ2:=hid hz2
   have HB2:=hid hb2
   clear hW2 hv2 hz2 hb2 v0 vf HV1 HZ1 HBW he2 hlt1
   go_wp2
   go_loopw [18,0] (fun i sv wr=>∃(j:Nat) (vs:List DVal) (st:List UInt8) (lv:Value),i=.int .u64 j/\sv=.string (bs st)/\j<=m/\vs.length=j/\IsBlk wr (w.heap.size+1) #[.int .u8 5,.bool false,.int .i64 0,.string (bs []),lv,.slice none 0 0] 52/\Acc HasVal (w.heap.size+2) 52 6 wr lv vs/\st.length<=16384/\IsBlk wr w.heap.size #[.int .u8 0,.bool false,.int .i64 0,.string (bs []),.slice none 0 0,.slice none 0 0] 52/\Below w.heap.size w wr/\R=(.mk 5 false 0 [] (vs++(repN (valueP k) (m-j) (st,false)).1) [],(repN (valueP k) (m-j) (st,false)).2)) (fun i _ _=>m-(intOf i).toNat)
   case atStart=>exact⟨0,[],l.drop c,.slice none 0 0,rfl,rfl,by omega,rfl,HV2.out,Acc.nil _ _ _,by rw[List.length_drop];omega,HZ2.out,HB2.out,HR2.out⟩
   case round=>
   clear HV2 HZ2 HB2 HR2
   obtain⟨j,vs,st,lv,rfl,rfl,hjm,hvj,hv7,hacc,hsl,hz7,hb7,hRR⟩:=hrel
   have hst:=bs_size st
   have hh7:=hv7.lt
   have hwr:=hb7.size
   obtain⟨p7,c7,hlv⟩:=hacc.slice
   subst hlv
   have hown:=hacc.lt
   have HOW:=hid hown
   have HV7:=hid hv7
   have HAC:=hid hacc
   have HZ7:=hid hz7
   have HB7:=hid hb7
   have HVJ:=hid hvj
   have hvl64:vs.length<=64:=by omega
   clear hown hv7 hacc hz7 hb7 hvj
   by_cases hlt:j<m
   ·rw[show m-j=(m-(j+1))+1 by omega,repN_more]at hRR
    obtain⟨r5,hr5⟩:∃r5,r5=valueP k (st,false):=⟨_,rfl⟩
    have hvl:=valueP_len k (st,false)
    rw[←hr5]at hRR hvl
    have HRR:=hid hRR
    have HR5:=hid hr5
    have HVL:=hid hvl
    clear hRR hr5 hvl
    go_wp2_with fail
    go_at_call 81
    refine(IH2.out st (dI+1) _ HDK.out (by omega)).mono ?_
    rintro e' w5 ⟨V5,cs5,rest5,ok5,rfl,hval,hbx,hok,hok2⟩
    rw[←HR5.out]at hok hok2
    obtain⟨k1,b1,n1,s1,l1,f1⟩:=V5
    have hval2:=hval
    obtain⟨pl1,cl1,pf1,cf1,rfl,hr1⟩:=hasVal_mk.1 hval2
    clear hval2 hr1
    have hac5:=HAC.out.kept relV (fun b hb hlt=>hbx.block b hlt)
    have hv5:=HV7.out.ext hbx
    have hz5:=HZ7.out.ext hbx
    have hbw5:=HB7.out.trans (hbx.mono (by omega))
    have hs5:=hbx.size
    have HOK:=hid hok
    have HOK2:=hid hok2
    clear hbx hok hok2 HR5
    go_upto_region 37 with(fail)
    generalize hW6:World.alloc w5 _=W6
    have hbA:Below w5.heap.size w5 W6:=by rw[←hW6];exact(Below.refl _ _).alloc (Nat.le_refl _) _
    have hx6:IsBlk W6 w5.heap.size #[.int .u8 (k1:Int),.bool b1,.int .i64 n1,.string (bs s1),.slice pl1 l1.length cl1,.slice pf1 f1.length cf1] 52:=by rw[←hW6];exact IsBlk.new _ _ _
    have hac6:=hac5.kept relV (fun b hb hlt=>hbA.block b hlt)
    have hv6:=hv5.ext hbA
    have hz6:=hz5.ext hbA
    have hbw6:=hbw5.trans (hbA.mono (by omega))
    have hval6:=hval.ext hbA
    have hs6:=hx6.lt
    clear hW6 hbA hac5 hv5 hz5 hbw5 hval
    cases ok5
    ·have HR3:Hid (R.2.2=true):=hid (by
      rw[HRR.out]
      have hbad:=HOK.out
      obtain⟨q1,q2,q3⟩:=r5
      simp only[Bool.not_false]at hbad
      subst hbad
      rw[repN_bad])
     have hfin:∀w',(∀b,b≠w.heap.size->w'.heap[b]?=W6.heap[b]?)->HasVal (fun b=>w.heap.size<=b) w' (.mk 5 false 0 [] vs []) [.int .u8 5,.bool false,.int .i64 0,.string (bs []),.slice p7 vs.length c7,.slice none 0 0]:=fun w' hw'=>accL_val (hac6.kept relV (fun b hb _=>hw' b (by omega))) (fun b hb=>by omega) (by omega)
     have HFIN:=hid hfin
     have c0:=hv6.cell (i:=0) rfl
     have c1:=hv6.cell (i:=1) rfl
     have c2:=hv6.cell (i:=2) rfl
     have c3:=hv6.cell (i:=3) rfl
     have c4:=hv6.cell (i:=4) rfl
     have c5:=hv6.cell (i:=5) rfl
     have z0:=hz6.cell (i:=0) rfl
     have z1:=hz6.cell (i:=1) rfl
     have z2:=hz6.cell (i:=2) rfl
     have z3:=hz6.cell (i:=3) rfl
     have z4:=hz6.cell (i:=4) rfl
     have z5:=hz6.cell (i:=5) rfl
     have f0:=hz6.frozen 0
     have f1:=hz6.frozen 1
     have f2:=hz6.frozen 2
     have f3:=hz6.frozen 3
     have f4:=hz6.frozen 4
     have f5:=hz6.frozen 5
     have HZ6:=hid hz6
     have HB6:=hid hbw6
     clear hfin hac6 hv6 hz6 hbw6 hval6 hx6
     go_wp2
     exact rf_fin rfl rfl rfl HZ6.out HB6.out (Nat.le_refl _) HFIN.out (by rw[HR3.out];rfl) (fun h=>by cases h)
    ·obtain⟨hV5,hrest5⟩:=HOK2.out rfl
     have hbad:=HOK.out
     have HRS:Hid (R=(.mk 5 false 0 [] ((vs++[.mk k1 b1 n1 s1 l1 f1])++(repN (valueP k) (m-(j+1)) (rest5,false)).1) [],(repN (valueP k) (m-(j+1)) (rest5,false)).2)):=hid (by
      rw[HRR.out]
      obtain⟨q1,q2,q3⟩:=r5
      simp only[Bool.not_true]at hbad hV5 hrest5
      subst hbad hV5 hrest5
      simp)
     have hrl5:rest5.length<=16384:=by
      have:=HVL.out
      rw[←hrest5]at this
      omega
     clear HRR HOK HOK2 hV5 hrest5 hbad HVL
     have hbB:Below W6.heap.size W6 (W6.alloc (.cells #[.int .u8 (k1:Int),.bool b1,.int .i64 n1,.string (bs s1),.slice pl1 l1.length cl1,.slice pf1 f1.length cf1] 52)):=(Below.refl _ _).alloc (Nat.le_refl _) _
     have HA:=hid (hac6.kept relV (fun b hb hlt=>hbB.block b hlt))
     have hyv:HasVal (fun b=>w.heap.size+2<=b/\(Value.slice p7 vs.length c7).ownBlock≠some b) (W6.alloc (.cells #[.int .u8 (k1:Int),.bool b1,.int .i64 n1,.string (bs s1),.slice pl1 l1.length cl1,.slice pf1 f1.length cf1] 52)) (.mk k1 b1 n1 s1 l1 f1) [.int .u8 (k1:Int),.bool b1,.int .i64 n1,.string (bs s1),.slice pl1 l1.length cl1,.slice pf1 f1.length cf1]:=HasVal.ext_to (S:=fun b=>wr.heap.size<=b) hval6 (fun b hb=>⟨by omega,fun e=>by have:=(HOW.out b e).2;omega⟩) (fun b _ hlt=>hbB.block b hlt)
     have HY:=hid hyv
     have HVA:=hid (hv6.ext hbB)
     have HZA:=hid (hz6.ext hbB)
     have HBA:=hid (hbw6.trans (hbB.mono (by omega)))
     have d0:=hx6.cell (i:=0) rfl
     have d1:=hx6.cell (i:=1) rfl
     have d2:=hx6.cell (i:=2) rfl
     have d3:=hx6.cell (i:=3) rfl
     have d4:=hx6.cell (i:=4) rfl
     have d5:=hx6.cell (i:=5) rfl
     have c4:=hv6.cell (i:=4) rfl
     clear hyv hbB hac6 hv6 hz6 hbw6 hval6 hx6
     go_wp2_with(at_builtin;refine push_acc relV (w.heap.size+2) rfl _ _ 49 52 (.agg #[.int .u8 0,.bool false,.int .i64 0,.string ⟨#[]⟩,.slice none 0 0,.slice none 0 0]) 80 rfl Tryz.underlying49 (by kernel_rfl) rfl (by decide) _ vs HA.out W6.heap.size [.int .u8 (k1:Int),.bool b1,.int .i64 n1,.string (bs s1),.slice pl1 l1.length cl1,.slice pf1 f1.length cf1] (.mk k1 b1 n1 s1 l1 f1) (IsBlk.new _ _ _) HY.out rfl rfl (by simp;omega) (by omega) (by unfold maxLen;omega) ?_)
     intro g1 cap w7 hacc7 hg7 hB1 hor hlt7
     have hrow:∀j,(Value.slice p7 vs.length c7).ownBlock=some j->w.heap.size+2<=j:=fun j hj=>(HA.out.lt j hj).1
     have hv7:=blk_grown HVA.out hg7 (fun e=>by have:=hrow _ e;omega)
     have hz7:=blk_grown HZA.out hg7 (fun e=>by have:=hrow _ e;omega)
     have hb7:=below_grown HBA.out hg7 (by simp;omega) (fun j hj=>by have:=hrow j hj;omega)
     have f7:=hv7.frozen 4
     have d7:=hv7.cell (i:=4) rfl
     have HAS:Hid (Acc HasVal (w.heap.size+2) 52 6 (w7.setCell ⟨w.heap.size+1,4,none⟩ (.slice (some ⟨g1,0,none⟩) (vs.length+1) cap)) (.slice (some ⟨g1,0,none⟩) (vs.length+1) cap) (vs++[.mk k1 b1 n1 s1 l1 f1])):=hid (hacc7.kept relV (fun b hb _=>Below.heap_setCell _ _ _ _ (show b≠w.heap.size+1 by omega)))
     have HVS:=hid (hv7.set 4 (.slice (some ⟨g1,0,none⟩) (vs.length+1) cap))
     have HZS:=hid (hz7.set_other (a:=⟨w.heap.size+1,4,none⟩) (show w.heap.size+1≠w.heap.size by omega) (.slice (some ⟨g1,0,none⟩) (vs.length+1) cap))
     have HBS:=hid (below_set hb7 (b:=w.heap.size+1) (o:=4) (u:=.slice (some ⟨g1,0,none⟩) (vs.length+1) cap) (by omega))
     clear hacc7 hg7 hv7 hz7 hb7 hrow hor d0 d1 d2 d3 d4 d5 c4
     go_wp2
     go_roundw
     case rel=>exact⟨j+1,vs++[.mk k1 b1 n1 s1 l1 f1],rest5,.slice (some ⟨g1,0,none⟩) (vs.length+1) cap,by go_num,rfl,by omega,by rw[List.length_append,HVJ.out];rfl,by simpa using HVS.out,HAS.out,hrl5,HZS.out,HBS.out,HRS.out⟩
     case measure=>simp[intOf];omega
   ·have HRE:Hid (R=(.mk 5 false 0 [] vs [],(st,false))):=hid (by rw[hRR,show m-j=0 by omega,repN_zero];simp)
    have hfin:∀w',(∀b,b≠w.heap.size->w'.heap[b]?=wr.heap[b]?)->HasVal (fun b=>w.heap.size<=b) w' (.mk 5 false 0 [] vs []) [.int .u8 5,.bool false,.int .i64 0,.string (bs []),.slice p7 vs.length c7,.slice none 0 0]:=fun w' hw'=>accL_val (HAC.out.kept relV (fun b hb _=>hw' b (by omega))) (fun b hb=>by omega) (by omega)
    have HFIN:=hid hfin
    have c0:=HV7.out.cell (i:=0) rfl
    have c1:=HV7.out.cell (i:=1) rfl
    have c2:=HV7.out.cell (i:=2) rfl
    have c3:=HV7.out.cell (i:=3) rfl
    have c4:=HV7.out.cell (i:=4) rfl
    have c5:=HV7.out.cell (i:=5) rfl
    have z0:=HZ7.out.cell (i:=0) rfl
    have z1:=HZ7.out.cell (i:=1) rfl
    have z2:=HZ7.out.cell (i:=2) rfl
    have z3:=HZ7.out.cell (i:=3) rfl
    have z4:=HZ7.out.cell (i:=4) rfl
    have z5:=HZ7.out.cell (i:=5) rfl
    have f0:=HZ7.out.frozen 0
    have f1:=HZ7.out.frozen 1
    have f2:=HZ7.out.frozen 2
    have f3:=HZ7.out.frozen 3
    have f4:=HZ7.out.frozen 4
    have f5:=HZ7.out.frozen 5
    clear hfin hRR
    go_wp2
    exact rf_fin rfl rfl rfl HZ7.out HB7.out (Nat.le_refl _) HFIN.out (by rw[HRE.out];rfl) (fun _=>by rw[HRE.out];exact⟨rfl,rfl⟩)
 ·obtain rfl:=hbn 7 hb
  have HR:Hid (R=(.mk 6 false 0 [] [] (repN (fieldP (valueP k)) (manyP (l,false)).1 (manyP (l,false)).2).1,(repN (fieldP (valueP k)) (manyP (l,false)).1 (manyP (l,false)).2).2)):=hid hR
  clear hR hbn
  subst hb
  go_enter Tryz.func81,Tryz.ntmps81
  go_upto_region 21 with(fail)
  generalize hW0:World.alloc (World.alloc w _) _=W0
  have hz0:IsBlk W0 w.heap.size #[.int .u8 0,.bool false,.int .i64 0,.string (bs []),.slice none 0 0,.slice none 0 0] 52:=by rw[←hW0];exact(IsBlk.new _ _ _).alloc _
  have hv0:IsBlk W0 (w.heap.size+1) #[.int .u8 0,.bool false,.int .i64 0,.string (bs []),.slice none 0 0,.slice none 0 0] 52:=by rw[←hW0];exact IsBlk.new_at (by simp)
  have hbw0:Below w.heap.size w W0:=by rw[←hW0];exact((Below.refl _ _).alloc (Nat.le_refl _) _).alloc (by simp) _
  clear hW0
  go_wp2_with fail
  go_at_call 109
  refine(ref_readNumber_any (bs l) _ (by omega)).mono ?_
  rw[bs_toList]
  rintro e' w1 ⟨hen,hb⟩
  have hz1:=hz0.ext hb
  have hv1:=hv0.ext hb
  have HBW:=hid (hbw0.trans (hb.mono (by have:=hz0.lt;omega)))
  have hlt1:=hv1.lt
  clear hb hz0 hv0 hbw0
  cases hn:readNum l with
  |none=>
   have HR2:Hid (R.2.2=true):=hid (by rw[HR.out];simp[manyP,numP,hn,repN_bad])
   rw[hn]at hen
   clear HR hn
   subst hen
   simp only[rdP]
   have c0:=hv1.cell (i:=0) rfl
   have c1:=hv1.cell (i:=1) rfl
   have c2:=hv1.cell (i:=2) rfl
   have c3:=hv1.cell (i:=3) rfl
   have c4:=hv1.cell (i:=4) rfl
   have c5:=hv1.cell (i:=5) rfl
   have z0:=hz1.cell (i:=0) rfl
   have z1:=hz1.cell (i:=1) rfl
   have z2:=hz1.cell (i:=2) rfl
   have z3:=hz1.cell (i:=3) rfl
   have z4:=hz1.cell (i:=4) rfl
   have z5:=hz1.cell (i:=5) rfl
   have f0:=hz1.frozen 0
   have f1:=hz1.frozen 1
   have f2:=hz1.frozen 2
   have f3:=hz1.frozen 3
   have f4:=hz1.frozen 4
   have f5:=hz1.frozen 5
   have HZ1:=hid hz1
   clear hz1 hv1
   go_wp2
   exact rf_fin rfl rfl rfl HZ1.out HBW.out (Nat.le_refl _) (fun w' _=>zero_hasW _ w') (by rw[HR2.out];rfl) (fun h=>by cases h)
  |some p=>
   obtain⟨m,c⟩:=p
   rw[hn]at hen
   subst hen
   obtain⟨_,hc,hc1,hc10⟩:=readNum_some hn
   have hm64:=readNum_lt hn
   simp only[rdP]
   by_cases hm:m<=64
   case neg=>
    have HR2:Hid (R.2.2=true):=hid (by rw[HR.out];simp[manyP,numP,hn,repN_bad,show 64<m by omega])
    clear HR hn
    have c0:=hv1.cell (i:=0) rfl
    have c1:=hv1.cell (i:=1) rfl
    have c2:=hv1.cell (i:=2) rfl
    have c3:=hv1.cell (i:=3) rfl
    have c4:=hv1.cell (i:=4) rfl
    have c5:=hv1.cell (i:=5) rfl
    have z0:=hz1.cell (i:=0) rfl
    have z1:=hz1.cell (i:=1) rfl
    have z2:=hz1.cell (i:=2) rfl
    have z3:=hz1.cell (i:=3) rfl
    have z4:=hz1.cell (i:=4) rfl
    have z5:=hz1.cell (i:=5) rfl
    have f0:=hz1.frozen 0
    have f1:=hz1.frozen 1
    have f2:=hz1.frozen 2
    have f3:=hz1.frozen 3
    have f4:=hz1.frozen 4
    have f5:=hz1.frozen 5
    have HZ1:=hid hz1
    have hmI:(64:Int)<(m:Int):=by omega
    clear hz1 hv1 hm
    go_wp2
    exact rf_fin rfl rfl rfl HZ1.out HBW.out (Nat.le_refl _) (fun w' _=>zero_hasW _ w') (by rw[HR2.out];rfl) (fun h=>by cases h)
   have HR2:Hid (R=(.mk 6 false 0 [] [] ([]++(repN (fieldP (valueP k)) (m-0) (l.drop c,false)).1),(repN (fieldP (valueP k)) (m-0) (l.drop c,false)).2)):=hid (by rw[HR.out];simp[manyP,numP,hn,show¬64<m by omega])
   clear HR hn
   have hmI:(m:Int)<=64:=by omega
   have he2:(bs l).extract c l.length=bs (l.drop c):=by rw[bs_extract,List.take_length]
   have hcI:(c:Int)<=(l.length:Int):=by omega
   have v0:=hv1.cell (i:=0) rfl
   have vf:=hv1.frozen 0
   have HZ1:=hid hz1
   have HV1:=hid hv1
   clear hz1 hv1
   go_upto_block 1 with(fail)
   generalize hW2:World.setCell _ _ _=W2
   have hv2:IsBlk W2 (w.heap.size+1) #[.int .u8 6,.bool false,.int .i64 0,.string (bs []),.slice none 0 0,.slice none 0 0] 52:=by rw[←hW2];simpa using(HV1.out.set 0 (.int .u8 5)).set 0 (.int .u8 6)
   have hz2:IsBlk W2 w.heap.size #[.int .u8 0,.bool false,.int .i64 0,.string (bs []),.slice none 0 0,.slice none 0 0] 52:=by rw[←hW2];exact(HZ1.out.set_other (a:=⟨w.heap.size+1,0,none⟩) (show w.heap.size+1≠w.heap.size by omega) _).set_other (a:=⟨w.heap.size+1,0,none⟩) (show w.heap.size+1≠w.heap.size by omega) _
   have hb2:Below w.heap.size w W2:=by rw[←hW2];exact below_set (below_set HBW.out (by omega)) (by omega)
   have HV2:=hid hv2
   have HZ2:=hid hz2
   have HB2:=hid hb2
   clear hW2 hv2 hz2 hb2 v0 vf HV1 HZ1 HBW he2 hlt1
   go_wp2
   go_loopw [18,0] (fun i sv wr=>∃(j:Nat) (vs:List (List UInt8×DVal)) (st:List UInt8) (lv:Value),i=.int .u64 j/\sv=.string (bs st)/\j<=m/\vs.length=j/\IsBlk wr (w.heap.size+1) #[.int .u8 6,.bool false,.int .i64 0,.string (bs []),.slice none 0 0,lv] 52/\Acc HasFld (w.heap.size+2) 66 7 wr lv vs/\st.length<=16384/\IsBlk wr w.heap.size #[.int .u8 0,.bool false,.int .i64 0,.string (bs []),.slice none 0 0,.slice none 0 0] 52/\Below w.heap.size w wr/\R=(.mk 6 false 0 [] [] (vs++(repN (fieldP (valueP k)) (m-j) (st,false)).1),(repN (fieldP (valueP k)) (m-j) (st,false)).2)) (fun i _ _=>m-(intOf i).toNat)
   case atStart=>exact⟨0,[],l.drop c,.slice none 0 0,rfl,rfl,by omega,rfl,HV2.out,Acc.nil _ _ _,by rw[List.length_drop];omega,HZ2.out,HB2.out,HR2.out⟩
   case round=>
   clear HV2 HZ2 HB2 HR2
   obtain⟨j,vs,st,lv,rfl,rfl,hjm,hvj,hv7,hacc,hsl,hz7,hb7,hRR⟩:=hrel
   have hst:=bs_size st
   have hh7:=hv7.lt
   have hwr:=hb7.size
   obtain⟨p7,c7,hlv⟩:=hacc.slice
   subst hlv
   have hown:=hacc.lt
   have HOW:=hid hown
   have HV7:=hid hv7
   have HAC:=hid hacc
   have HZ7:=hid hz7
   have HB7:=hid hb7
   have HVJ:=hid hvj
   have hvl64:vs.length<=64:=by omega
   clear hown hv7 hacc hz7 hb7 hvj
   by_cases hlt:j<m
   ·rw[show m-j=(m-(j+1))+1 by omega,repN_more]at hRR
    have hbpl:=bytesP_rest st
    cases hbp:bytesP st with
    |mk x xr=>
    obtain⟨rest,okx⟩:=xr
    rw[hbp]at hbpl
    simp only[]at hbpl
    have HBP:=hid hbp
    have HRR:=hid hRR
    clear hbp hRR
    go_wp2_with fail
    go_at_call 111
    refine(ref_bytes2_any st _ (by omega)).mono ?_
    rintro e' w4 ⟨he4,hb4⟩
    rw[HBP.out]at he4
    subst he4
    have hac4:=HAC.out.kept relF (fun b hb hlt=>hb4.block b hlt)
    have hv4:=HV7.out.ext hb4
    have hz4:=HZ7.out.ext hb4
    have hbw4:=HB7.out.trans (hb4.mono (by omega))
    have hs4:=hb4.size
    simp only[]
    cases okx
    ·have HR3:Hid (R.2.2=true):=hid (by
      rw[HRR.out]
      have hbad:=fieldP_none (k:=k) (st:=st) (by rw[HBP.out])
      generalize fieldP (valueP k) (st,false)=q at hbad⊢
      obtain⟨q1,q2,q3⟩:=q
      simp only[]at hbad
      subst hbad
      rw[repN_bad])
     have hfin:∀w',(∀b,b≠w.heap.size->w'.heap[b]?=w4.heap[b]?)->HasVal (fun b=>w.heap.size<=b) w' (.mk 6 false 0 [] [] vs) [.int .u8 6,.bool false,.int .i64 0,.string (bs []),.slice none 0 0,.slice p7 vs.length c7]:=fun w' hw'=>accF_val (hac4.kept relF (fun b hb _=>hw' b (by omega))) (fun b hb=>by omega) (by omega)
     have HFIN:=hid hfin
     have c0:=hv4.cell (i:=0) rfl
     have c1:=hv4.cell (i:=1) rfl
     have c2:=hv4.cell (i:=2) rfl
     have c3:=hv4.cell (i:=3) rfl
     have c4:=hv4.cell (i:=4) rfl
     have c5:=hv4.cell (i:=5) rfl
     have z0:=hz4.cell (i:=0) rfl
     have z1:=hz4.cell (i:=1) rfl
     have z2:=hz4.cell (i:=2) rfl
     have z3:=hz4.cell (i:=3) rfl
     have z4:=hz4.cell (i:=4) rfl
     have z5:=hz4.cell (i:=5) rfl
     have f0:=hz4.frozen 0
     have f1:=hz4.frozen 1
     have f2:=hz4.frozen 2
     have f3:=hz4.frozen 3
     have f4:=hz4.frozen 4
     have f5:=hz4.frozen 5
     have HZ4:=hid hz4
     have HB4:=hid hbw4
     clear hfin hac4 hv4 hz4 hbw4 hb4
     go_wp2
     exact rf_fin rfl rfl rfl HZ4.out HB4.out (Nat.le_refl _) HFIN.out (by rw[HR3.out];rfl) (fun h=>by cases h)
    obtain⟨hxl,hrl⟩:=hbpl rfl
    have hRR:=HRR.out
    rw[fieldP_some (valueP k) HBP.out]at hRR
    simp only[]at hRR
    clear hbpl HRR
    have HAC:=hid hac4
    have HV7:=hid hv4
    have HZ7:=hid hz4
    have HB7:=hid hbw4
    clear hac4 hv4 hz4 hbw4 hb4
    have hrst:=bs_size rest
    obtain⟨r5,hr5⟩:∃r5,r5=valueP k (rest,false):=⟨_,rfl⟩
    have hvl:=valueP_len k (rest,false)
    rw[←hr5]at hRR hvl
    have HRR:=hid hRR
    have HR5:=hid hr5
    have HVL:=hid hvl
    clear hRR hr5 hvl
    go_wp2_with fail
    go_at_call 81
    refine(IH2.out rest (dI+1) _ HDK.out (by omega)).mono ?_
    rintro e' w5 ⟨V5,cs5,rest5,ok5,rfl,hval,hbx,hok,hok2⟩
    rw[←HR5.out]at hok hok2
    obtain⟨k1,b1,n1,s1,l1,f1⟩:=V5
    have hval2:=hval
    obtain⟨pl1,cl1,pf1,cf1,rfl,hr1⟩:=hasVal_mk.1 hval2
    clear hval2 hr1
    have hac5:=HAC.out.kept relF (fun b hb hlt=>hbx.block b hlt)
    have hv5:=HV7.out.ext hbx
    have hz5:=HZ7.out.ext hbx
    have hbw5:=HB7.out.trans (hbx.mono (by omega))
    have hs5:=hbx.size
    have HOK:=hid hok
    have HOK2:=hid hok2
    clear hbx hok hok2 HR5
    go_upto_region 37 with(fail)
    generalize hW6:World.alloc w5 _=W6
    have hbA:Below w5.heap.size w5 W6:=by rw[←hW6];exact(Below.refl _ _).alloc (Nat.le_refl _) _
    have hx6:IsBlk W6 w5.heap.size #[.int .u8 (k1:Int),.bool b1,.int .i64 n1,.string (bs s1),.slice pl1 l1.length cl1,.slice pf1 f1.length cf1] 52:=by rw[←hW6];exact IsBlk.new _ _ _
    have hac6:=hac5.kept relF (fun b hb hlt=>hbA.block b hlt)
    have hv6:=hv5.ext hbA
    have hz6:=hz5.ext hbA
    have hbw6:=hbw5.trans (hbA.mono (by omega))
    have hval6:=hval.ext hbA
    have hs6:=hx6.lt
    clear hW6 hbA hac5 hv5 hz5 hbw5 hval
    cases ok5
    ·have HR3:Hid (R.2.2=true):=hid (by
      rw[HRR.out]
      have hbad:=HOK.out
      obtain⟨q1,q2,q3⟩:=r5
      simp only[Bool.not_false]at hbad
      subst hbad
      rw[repN_bad])
     have hfin:∀w',(∀b,b≠w.heap.size->w'.heap[b]?=W6.heap[b]?)->HasVal (fun b=>w.heap.size<=b) w' (.mk 6 false 0 [] [] vs) [.int .u8 6,.bool false,.int .i64 0,.string (bs []),.slice none 0 0,.slice p7 vs.length c7]:=fun w' hw'=>accF_val (hac6.kept relF (fun b hb _=>hw' b (by omega))) (fun b hb=>by omega) (by omega)
     have HFIN:=hid hfin
     have c0:=hv6.cell (i:=0) rfl
     have c1:=hv6.cell (i:=1) rfl
     have c2:=hv6.cell (i:=2) rfl
     have c3:=hv6.cell (i:=3) rfl
     have c4:=hv6.cell (i:=4) rfl
     have c5:=hv6.cell (i:=5) rfl
     have z0:=hz6.cell (i:=0) rfl
     have z1:=hz6.cell (i:=1) rfl
     have z2:=hz6.cell (i:=2) rfl
     have z3:=hz6.cell (i:=3) rfl
     have z4:=hz6.cell (i:=4) rfl
     have z5:=hz6.cell (i:=5) rfl
     have f0:=hz6.frozen 0
     have f1:=hz6.frozen 1
     have f2:=hz6.frozen 2
     have f3:=hz6.frozen 3
     have f4:=hz6.frozen 4
     have f5:=hz6.frozen 5
     have HZ6:=hid hz6
     have HB6:=hid hbw6
     clear hfin hac6 hv6 hz6 hbw6 hval6 hx6
     go_wp2
     exact rf_fin rfl rfl rfl HZ6.out HB6.out (Nat.le_refl _) HFIN.out (by rw[HR3.out];rfl) (fun h=>by cases h)
    ·obtain⟨hV5,hrest5⟩:=HOK2.out rfl
     have hbad:=HOK.out
     have HRS:Hid (R=(.mk 6 false 0 [] [] ((vs++[(x,.mk k1 b1 n1 s1 l1 f1)])++(repN (fieldP (valueP k)) (m-(j+1)) (rest5,false)).1),(repN (fieldP (valueP k)) (m-(j+1)) (rest5,false)).2)):=hid (by
      rw[HRR.out]
      obtain⟨q1,q2,q3⟩:=r5
      simp only[Bool.not_true]at hbad hV5 hrest5
      subst hbad hV5 hrest5
      simp)
     have hrl5:rest5.length<=16384:=by
      have:=HVL.out
      rw[←hrest5]at this
      omega
     clear HRR HOK HOK2 hV5 hrest5 hbad HVL
     have hbB:Below W6.heap.size W6 (W6.alloc (.cells #[.string (bs x),.int .u8 (k1:Int),.bool b1,.int .i64 n1,.string (bs s1),.slice pl1 l1.length cl1,.slice pf1 f1.length cf1] 66)):=(Below.refl _ _).alloc (Nat.le_refl _) _
     have HA:=hid (hac6.kept relF (fun b hb hlt=>hbB.block b hlt))
     have hyv:HasVal (fun b=>w.heap.size+2<=b/\(Value.slice p7 vs.length c7).ownBlock≠some b) (W6.alloc (.cells #[.string (bs x),.int .u8 (k1:Int),.bool b1,.int .i64 n1,.string (bs s1),.slice pl1 l1.length cl1,.slice pf1 f1.length cf1] 66)) (.mk k1 b1 n1 s1 l1 f1) [.int .u8 (k1:Int),.bool b1,.int .i64 n1,.string (bs s1),.slice pl1 l1.length cl1,.slice pf1 f1.length cf1]:=HasVal.ext_to (S:=fun b=>w4.heap.size<=b) hval6 (fun b hb=>⟨by omega,fun e=>by have:=(HOW.out b e).2;omega⟩) (fun b _ hlt=>hbB.block b hlt)
     have hyf:HasFld (fun b=>w.heap.size+2<=b/\(Value.slice p7 vs.length c7).ownBlock≠some b) (W6.alloc (.cells #[.string (bs x),.int .u8 (k1:Int),.bool b1,.int .i64 n1,.string (bs s1),.slice pl1 l1.length cl1,.slice pf1 f1.length cf1] 66)) ((x,.mk k1 b1 n1 s1 l1 f1)) [.string (bs x),.int .u8 (k1:Int),.bool b1,.int .i64 n1,.string (bs s1),.slice pl1 l1.length cl1,.slice pf1 f1.length cf1]:=⟨_,rfl,by simp only[];omega,hyv⟩
     have HY:=hid hyf
     clear hyf
     have HVA:=hid (hv6.ext hbB)
     have HZA:=hid (hz6.ext hbB)
     have HBA:=hid (hbw6.trans (hbB.mono (by omega)))
     have d0:=hx6.cell (i:=0) rfl
     have d1:=hx6.cell (i:=1) rfl
     have d2:=hx6.cell (i:=2) rfl
     have d3:=hx6.cell (i:=3) rfl
     have d4:=hx6.cell (i:=4) rfl
     have d5:=hx6.cell (i:=5) rfl
     have c5:=hv6.cell (i:=5) rfl
     clear hyv hbB hac6 hv6 hz6 hbw6 hval6 hx6
     go_wp2_with(at_builtin;refine push_acc relF (w.heap.size+2) rfl _ _ 50 66 (.agg #[.string ⟨#[]⟩,.int .u8 0,.bool false,.int .i64 0,.string ⟨#[]⟩,.slice none 0 0,.slice none 0 0]) 96 rfl Tryz.underlying50 (by kernel_rfl) rfl (by decide) _ vs HA.out W6.heap.size [.string (bs x),.int .u8 (k1:Int),.bool b1,.int .i64 n1,.string (bs s1),.slice pl1 l1.length cl1,.slice pf1 f1.length cf1] ((x,.mk k1 b1 n1 s1 l1 f1)) (IsBlk.new _ _ _) HY.out rfl rfl (by simp;omega) (by omega) (by unfold maxLen;omega) ?_)
     intro g1 cap w7 hacc7 hg7 hB1 hor hlt7
     have hrow:∀j,(Value.slice p7 vs.length c7).ownBlock=some j->w.heap.size+2<=j:=fun j hj=>(HA.out.lt j hj).1
     have hv7:=blk_grown HVA.out hg7 (fun e=>by have:=hrow _ e;omega)
     have hz7:=blk_grown HZA.out hg7 (fun e=>by have:=hrow _ e;omega)
     have hb7:=below_grown HBA.out hg7 (by simp;omega) (fun j hj=>by have:=hrow j hj;omega)
     have f7:=hv7.frozen 5
     have d7:=hv7.cell (i:=5) rfl
     have HAS:Hid (Acc HasFld (w.heap.size+2) 66 7 (w7.setCell ⟨w.heap.size+1,5,none⟩ (.slice (some ⟨g1,0,none⟩) (vs.length+1) cap)) (.slice (some ⟨g1,0,none⟩) (vs.length+1) cap) (vs++[(x,.mk k1 b1 n1 s1 l1 f1)])):=hid (hacc7.kept relF (fun b hb _=>Below.heap_setCell _ _ _ _ (show b≠w.heap.size+1 by omega)))
     have HVS:=hid (hv7.set 5 (.slice (some ⟨g1,0,none⟩) (vs.length+1) cap))
     have HZS:=hid (hz7.set_other (a:=⟨w.heap.size+1,5,none⟩) (show w.heap.size+1≠w.heap.size by omega) (.slice (some ⟨g1,0,none⟩) (vs.length+1) cap))
     have HBS:=hid (below_set hb7 (b:=w.heap.size+1) (o:=5) (u:=.slice (some ⟨g1,0,none⟩) (vs.length+1) cap) (by omega))
     clear hacc7 hg7 hv7 hz7 hb7 hrow hor d0 d1 d2 d3 d4 d5 c5
     go_wp2
     go_roundw
     case rel=>exact⟨j+1,vs++[(x,.mk k1 b1 n1 s1 l1 f1)],rest5,.slice (some ⟨g1,0,none⟩) (vs.length+1) cap,by go_num,rfl,by omega,by rw[List.length_append,HVJ.out];rfl,by simpa using HVS.out,HAS.out,hrl5,HZS.out,HBS.out,HRS.out⟩
     case measure=>simp[intOf];omega
   ·have HRE:Hid (R=(.mk 6 false 0 [] [] vs,(st,false))):=hid (by rw[hRR,show m-j=0 by omega,repN_zero];simp)
    have hfin:∀w',(∀b,b≠w.heap.size->w'.heap[b]?=wr.heap[b]?)->HasVal (fun b=>w.heap.size<=b) w' (.mk 6 false 0 [] [] vs) [.int .u8 6,.bool false,.int .i64 0,.string (bs []),.slice none 0 0,.slice p7 vs.length c7]:=fun w' hw'=>accF_val (HAC.out.kept relF (fun b hb _=>hw' b (by omega))) (fun b hb=>by omega) (by omega)
    have HFIN:=hid hfin
    have c0:=HV7.out.cell (i:=0) rfl
    have c1:=HV7.out.cell (i:=1) rfl
    have c2:=HV7.out.cell (i:=2) rfl
    have c3:=HV7.out.cell (i:=3) rfl
    have c4:=HV7.out.cell (i:=4) rfl
    have c5:=HV7.out.cell (i:=5) rfl
    have z0:=HZ7.out.cell (i:=0) rfl
    have z1:=HZ7.out.cell (i:=1) rfl
    have z2:=HZ7.out.cell (i:=2) rfl
    have z3:=HZ7.out.cell (i:=3) rfl
    have z4:=HZ7.out.cell (i:=4) rfl
    have z5:=HZ7.out.cell (i:=5) rfl
    have f0:=HZ7.out.frozen 0
    have f1:=HZ7.out.frozen 1
    have f2:=HZ7.out.frozen 2
    have f3:=HZ7.out.frozen 3
    have f4:=HZ7.out.frozen 4
    have f5:=HZ7.out.frozen 5
    clear hfin hRR
    go_wp2
    exact rf_fin rfl rfl rfl HZ7.out HB7.out (Nat.le_refl _) HFIN.out (by rw[HRE.out];rfl) (fun _=>by rw[HRE.out];exact⟨rfl,rfl⟩)
theorem rf_any :∀(k:Nat),k<=11->RfOk k:=by
 intro k
 induction k with
 |zero=>intro h;exact rf_step 0 (fun k' e=>by omega) h
 |succ k ih=>intro h;exact rf_step (k+1) (fun k' e=>by obtain rfl:k'=k:=by omega
                                                       exact ih (by omega)) h
def rdR (s:List UInt8):DVal×Int:=if 16384<s.length then(.zero,4)else if(valueP 11 (s,false)).2.2=true\/(valueP 11 (s,false)).2.1≠[]\/checkV 0 (valueP 11 (s,false)).1≠0 then(.zero,11)else((valueP 11 (s,false)).1,0)
theorem rr_ret {tmps:Array Value} {w w2:World} {h:Nat} {V:DVal} {y:Int} {cs:List Value} (hp:tmps.getD 2 undef=.pointer (some ⟨h,0,none⟩)) (hy:tmps.getD 3 undef=.int .i64 y) (hz:IsBlk w2 h cs.toArray 52) (hv:HasVal (fun b=>w.heap.size<=b) w2 V cs) (hb:Below w.heap.size w w2):
 bodyPost Tryz.prog Tryz.f44 (RdPost w (V,y)) Exit.ret {tmps:=tmps,defers:=[]} w2:=
 bodyPost_ret (v:=.tuple #[.agg cs.toArray,.int .i64 y]) (results_ct (p:=2) (u:=3) (ty:=52) Tryz.results44 hp hz Tryz.underlying52 rfl (by rw[List.size_toArray,hv.len];kernel_rfl) hy) rfl ⟨cs,rfl,hv,hb⟩
theorem rr_fin {tmps:Array Value} {w w2:World} {h:Nat} {V:DVal} {y:Int} {a0 a1 a2 a3 a4 a5 c0 c1 c2 c3 c4 c5:Value} (hp:tmps.getD 2 undef=.pointer (some ⟨h,0,none⟩)) (hy:tmps.getD 3 undef=.int .i64 y) (hz:IsBlk w2 h #[a0,a1,a2,a3,a4,a5] 52) (hb:Below w.heap.size w w2) (hh:w.heap.size<=h)
 (hv:∀w',(∀b,b≠h->w'.heap[b]?=w2.heap[b]?)->HasVal (fun b=>w.heap.size<=b) w' V [c0,c1,c2,c3,c4,c5]):
 bodyPost Tryz.prog Tryz.f44 (RdPost w (V,y)) Exit.ret {tmps:=tmps,defers:=[]}
  ((((((w2.setCell ⟨h,0,none⟩ c0).setCell ⟨h,1,none⟩ c1).setCell ⟨h,2,none⟩ c2).setCell ⟨h,3,none⟩ c3).setCell ⟨h,4,none⟩ c4).setCell ⟨h,5,none⟩ c5):=by
 refine rr_ret hp hy (cs:=[c0,c1,c2,c3,c4,c5]) (set6 hz c0 c1 c2 c3 c4 c5) (hv _ (fun b hb=>?_)) (below6 hb hh c0 c1 c2 c3 c4 c5)
 have e:∀(W:World) (o:Nat) (u:Value),(W.setCell ⟨h,o,none⟩ u).heap[b]?=W.heap[b]?:=fun W o u=>Below.heap_setCell _ _ _ _ hb
 rw[e,e,e,e,e,e]
set_option maxHeartbeats 4000000 in
theorem ref_read_any (s:List UInt8) (w:World) (hs:s.length<=1099511627776):Calls Tryz.prog 44 #[.string (bs s)] w (RdPost w (rdR s)):=by
 have hsz:=bs_size s
 obtain⟨R,hR⟩:∃R,R=rdR s:=⟨_,rfl⟩
 rw[←hR]
 rw[rdR]at hR
 by_cases h16:16384<s.length
 ·have hI:(16384:Int)<(s.length:Int):=by omega
  rw[if_pos h16]at hR
  clear h16
  subst hR
  go_enter Tryz.func44,Tryz.ntmps44
  go_wp2
  exact rr_ret rfl rfl (IsBlk.new _ _ _) (zero_hasW _ _) ((Below.refl _ _).alloc (Nat.le_refl _) _)
 ·have hI:(s.length:Int)<=16384:=by omega
  rw[if_neg h16]at hR
  have HR:=hid hR
  clear hR h16
  go_enter Tryz.func44,Tryz.ntmps44
  go_wp2_with fail
  go_at_call 81
  have hbA:Below w.heap.size w (w.alloc (.cells #[.int .u8 0,.bool false,.int .i64 0,.string ⟨#[]⟩,.slice none 0 0,.slice none 0 0] 52)):=(Below.refl _ _).alloc (Nat.le_refl _) _
  have hzA:IsBlk (w.alloc (.cells #[.int .u8 0,.bool false,.int .i64 0,.string ⟨#[]⟩,.slice none 0 0,.slice none 0 0] 52)) w.heap.size #[.int .u8 0,.bool false,.int .i64 0,.string (bs []),.slice none 0 0,.slice none 0 0] 52:=IsBlk.new _ _ _
  refine(rf_any 11 (Nat.le_refl _) s 0 _ (by decide) (by omega)).mono ?_
  rintro e' w3 ⟨V,cs,rest,ok,rfl,hval,hb3,hok,hok2⟩
  have hz3:=hzA.ext hb3
  have hs3:=hb3.size
  simp only[World.size_alloc]at hs3
  have hbw3:=hbA.trans (hb3.mono (by simp))
  have hval3:HasVal (fun b=>w.heap.size+1<=b) w3 V cs:=hval.ext_to (fun b hb=>by simp only[World.size_alloc]at hb;omega) (fun _ _ _=>rfl)
  clear hbA hzA hb3 hval
  obtain⟨k1,b1,n1,s1,l1,f1⟩:=V
  have hvc:=hval3
  obtain⟨pl1,cl1,pf1,cf1,rfl,hrr⟩:=hasVal_mk.1 hvc
  clear hvc hrr
  have HOK:=hid hok
  have HOK2:=hid hok2
  clear hok hok2
  have hrsz:=bs_size rest
  go_upto_region 4 with(fail)
  generalize hW4:World.alloc w3 _=W4
  have hb4:Below w3.heap.size w3 W4:=by rw[←hW4];exact(Below.refl _ _).alloc (Nat.le_refl _) _
  have hd4:IsBlk W4 w3.heap.size #[.int .u8 (k1:Int),.bool b1,.int .i64 n1,.string (bs s1),.slice pl1 l1.length cl1,.slice pf1 f1.length cf1] 52:=by rw[←hW4];exact IsBlk.new _ _ _
  have hz4:=hz3.ext hb4
  have hbw4:=hbw3.trans (hb4.mono (by omega))
  have hval4:=hval3.ext hb4
  clear hW4 hb4 hz3 hbw3 hval3
  cases ok
  ·have HR2:Hid (R=(.zero,11)):=hid (by rw[HR.out,if_pos (Or.inl (by simpa using HOK.out))])
   have z0:=hz4.cell (i:=0) rfl
   have z1:=hz4.cell (i:=1) rfl
   have z2:=hz4.cell (i:=2) rfl
   have z3:=hz4.cell (i:=3) rfl
   have z4:=hz4.cell (i:=4) rfl
   have z5:=hz4.cell (i:=5) rfl
   have f0:=hz4.frozen 0
   have f1:=hz4.frozen 1
   have f2:=hz4.frozen 2
   have f3:=hz4.frozen 3
   have f4:=hz4.frozen 4
   have f5:=hz4.frozen 5
   have HZ4:=hid hz4
   have HB4:=hid hbw4
   clear hz4 hbw4 hval4 hd4 HR
   go_wp2
   rw[HR2.out]
   exact rr_fin rfl rfl HZ4.out HB4.out (Nat.le_refl _) (fun w' _=>zero_hasW _ w')
  ·obtain⟨hV,hrest⟩:=HOK2.out rfl
   by_cases hr0:rest=[]
   ·obtain⟨C,hC⟩:∃C,C=checkV 0 (.mk k1 b1 n1 s1 l1 f1):=⟨_,rfl⟩
    have HC:=hid hC
    have HR2:Hid (R=if C≠0 then(.zero,11)else(.mk k1 b1 n1 s1 l1 f1,0)):=hid (by
     rw[HR.out,←hrest,←hV,hr0,←hC,HOK.out]
     simp)
    subst hr0
    have he:(bs []).toList.isEmpty=true:=by rw[tl_bs];rfl
    have HZ4:=hid hz4
    have HB4:=hid hbw4
    have HV4:=hid hval4
    have HD4:=hid hd4
    have d0:=hd4.cell (i:=0) rfl
    have d1:=hd4.cell (i:=1) rfl
    have d2:=hd4.cell (i:=2) rfl
    have d3:=hd4.cell (i:=3) rfl
    have d4:=hd4.cell (i:=4) rfl
    have d5:=hd4.cell (i:=5) rfl
    clear hV hrest hC hz4 hbw4 hval4 hd4 HR hrsz
    go_wp2_with fail
    go_at_call 82
    refine(ref_check_any (.mk k1 b1 n1 s1 l1 f1) _ _ _ HV4.out).mono ?_
    rintro e' w5 ⟨he5,hb5⟩
    rw[←HC.out]at he5
    subst he5
    have hz5:=HZ4.out.ext hb5
    have hd5:=HD4.out.ext hb5
    have HB5:=hid (HB4.out.trans (hb5.mono (by have:=HZ4.out.lt;omega)))
    have HV5:=hid (HV4.out.ext hb5)
    clear d0 d1 d2 d3 d4 d5 hb5
    have d0:=hd5.cell (i:=0) rfl
    have d1:=hd5.cell (i:=1) rfl
    have d2:=hd5.cell (i:=2) rfl
    have d3:=hd5.cell (i:=3) rfl
    have d4:=hd5.cell (i:=4) rfl
    have d5:=hd5.cell (i:=5) rfl
    have z0:=hz5.cell (i:=0) rfl
    have z1:=hz5.cell (i:=1) rfl
    have z2:=hz5.cell (i:=2) rfl
    have z3:=hz5.cell (i:=3) rfl
    have z4:=hz5.cell (i:=4) rfl
    have z5:=hz5.cell (i:=5) rfl
    have f0:=hz5.frozen 0
    have f1:=hz5.frozen 1
    have f2:=hz5.frozen 2
    have f3:=hz5.frozen 3
    have f4:=hz5.frozen 4
    have f5:=hz5.frozen 5
    have HZ5:=hid hz5
    clear hz5 hd5
    by_cases hc:C=0
    ·have hr:=HR2.out
     rw[if_neg (by simp[hc])]at hr
     clear HR2
     subst hr
     subst hc
     go_wp2
     exact rr_fin rfl rfl HZ5.out HB5.out (Nat.le_refl _) (fun w' hw'=>HV5.out.ext_to (fun b hb=>by omega) (fun b hb _=>hw' b (by omega)))
    ·have hr:=HR2.out
     rw[if_pos hc]at hr
     have hcb:(C !=0)=true:=by simpa using hc
     clear HR2 hc
     subst hr
     go_wp2
     exact rr_fin rfl rfl HZ5.out HB5.out (Nat.le_refl _) (fun w' _=>zero_hasW _ w')
   ·have HR2:Hid (R=(.zero,11)):=hid (by rw[HR.out,←hrest,if_pos (Or.inr (Or.inl hr0))])
    have he:(bs rest).toList.isEmpty=false:=by
     rw[tl_bs]
     cases rest with
     |nil=>exact absurd rfl hr0
     |cons a l=>rfl
    have z0:=hz4.cell (i:=0) rfl
    have z1:=hz4.cell (i:=1) rfl
    have z2:=hz4.cell (i:=2) rfl
    have z3:=hz4.cell (i:=3) rfl
    have z4:=hz4.cell (i:=4) rfl
    have z5:=hz4.cell (i:=5) rfl
    have f0:=hz4.frozen 0
    have f1:=hz4.frozen 1
    have f2:=hz4.frozen 2
    have f3:=hz4.frozen 3
    have f4:=hz4.frozen 4
    have f5:=hz4.frozen 5
    have HZ4:=hid hz4
    have HB4:=hid hbw4
    clear hz4 hbw4 hval4 hd4 HR hV hrest hr0
    go_wp2
    rw[HR2.out]
    exact rr_fin rfl rfl HZ4.out HB4.out (Nat.le_refl _) (fun w' _=>zero_hasW _ w')
theorem repN_mono {α:Type} {f g:St->α×St} (hfg:∀l a rest,f (l,false)=(a,(rest,false))->g (l,false)=(a,(rest,false))):∀(n:Nat) (l:List UInt8) (zs:List α) (rest:List UInt8),repN f n (l,false)=(zs,(rest,false))->repN g n (l,false)=(zs,(rest,false))
 |0,l,zs,rest,h=>by rw[repN_zero]at h⊢;exact h
 |n+1,l,zs,rest,h=>by
  rw[repN_more]at h⊢
  obtain⟨a,l2,b2,hfa⟩:∃a l2 b2,f (l,false)=(a,(l2,b2)):=⟨_,_,_,rfl⟩
  rw[hfa]at h
  simp only[Prod.mk.injEq]at h
  obtain⟨rfl,h2⟩:=h
  cases b2
  ·rw[hfg l a l2 hfa]
   obtain⟨bs2,l3,b3,hr⟩:∃bs2 l3 b3,repN f n (l2,false)=(bs2,(l3,b3)):=⟨_,_,_,rfl⟩
   rw[hr]at h2
   simp only[Prod.mk.injEq]at h2
   obtain⟨rfl,rfl⟩:=h2
   rw[repN_mono hfg n l2 bs2 l3 hr,hr]
  ·rw[repN_bad]at h2
   simp at h2
theorem fieldP_mono {k:Nat} {g:St->DVal×St} (hfg:∀l a rest,valueP k (l,false)=(a,(rest,false))->g (l,false)=(a,(rest,false))) (l:List UInt8) (a:List UInt8×DVal) (rest:List UInt8) (h:fieldP (valueP k) (l,false)=(a,(rest,false))):fieldP g (l,false)=(a,(rest,false)):=by
 unfold fieldP at h⊢
 generalize takeP (numP (l,false)).1 (numP (l,false)).2=q at h⊢
 obtain⟨x,l2,b2⟩:=q
 cases b2
 ·simp only[]at h⊢
  obtain⟨v,l3,b3,hv⟩:∃v l3 b3,valueP k (l2,false)=(v,(l3,b3)):=⟨_,_,_,rfl⟩
  rw[hv]at h
  simp only[Prod.mk.injEq]at h
  obtain⟨rfl,rfl,rfl⟩:=h
  rw[hfg _ _ _ hv]
 ·have:=valueP_bad k l2
  simp only[Prod.mk.injEq]at h
  rw[h.2]at this
  cases this
theorem valueP_mono :∀(k:Nat) (l:List UInt8) (v:DVal) (rest:List UInt8),valueP k (l,false)=(v,(rest,false))->valueP (k+1) (l,false)=(v,(rest,false)):=by
 intro k
 induction k with
 |zero=>intro l v rest h;rw[valueP]at h;simp at h
 |succ k ih=>
  intro l v rest h
  cases l with
  |nil=>rw[valueP,if_neg (by decide)]at h;simp at h
  |cons b l=>
   rw[valueP,if_neg (by decide)]at h
   rw[valueP,if_neg (by decide)]
   by_cases h0:b=0
   ·rw[if_pos h0]at h⊢;exact h
   rw[if_neg h0]at h⊢
   by_cases h1:b=1
   ·rw[if_pos h1]at h⊢;exact h
   rw[if_neg h1]at h⊢
   by_cases h2:b=2
   ·rw[if_pos h2]at h⊢;exact h
   rw[if_neg h2]at h⊢
   by_cases h3:b=3
   ·rw[if_pos h3]at h⊢;exact h
   rw[if_neg h3]at h⊢
   by_cases h4:b=4
   ·rw[if_pos h4]at h⊢;exact h
   rw[if_neg h4]at h⊢
   by_cases h5:b=5
   ·rw[if_pos h5]at h⊢;exact h
   rw[if_neg h5]at h⊢
   by_cases h6:b=6
   ·rw[if_pos h6]at h⊢
    generalize manyP (l,false)=q at h⊢
    obtain⟨m,l2,b2⟩:=q
    cases b2
    ·simp only[]at h⊢
     obtain⟨vs,l3,b3,hr⟩:∃vs l3 b3,repN (valueP k) m (l2,false)=(vs,(l3,b3)):=⟨_,_,_,rfl⟩
     rw[hr]at h
     simp only[Prod.mk.injEq]at h
     obtain⟨rfl,rfl,rfl⟩:=h
     rw[repN_mono ih m l2 vs _ hr]
    ·simp only[repN_bad]at h
     simp at h
   rw[if_neg h6]at h⊢
   by_cases h7:b=7
   ·rw[if_pos h7]at h⊢
    generalize manyP (l,false)=q at h⊢
    obtain⟨m,l2,b2⟩:=q
    cases b2
    ·simp only[]at h⊢
     obtain⟨vs,l3,b3,hr⟩:∃vs l3 b3,repN (fieldP (valueP k)) m (l2,false)=(vs,(l3,b3)):=⟨_,_,_,rfl⟩
     rw[hr]at h
     simp only[Prod.mk.injEq]at h
     obtain⟨rfl,rfl,rfl⟩:=h
     rw[repN_mono (fieldP_mono ih) m l2 vs _ hr]
    ·simp only[repN_bad]at h
     simp at h
   rw[if_neg h7]at h
   simp at h
theorem repN_mem {α:Type} {p:α->Prop} {f:St->α×St} (hf:∀st,p (f st).1):∀(n:Nat) (st:St),∀a∈(repN f n st).1,p a
 |0,st,a,h=>by rw[repN_zero]at h;cases h
 |n+1,(l,false),a,h=>by
  rw[repN_more]at h
  rcases List.mem_cons.1 h with rfl|h
  ·exact hf _
  ·exact repN_mem hf n _ a h
 |n+1,(l,true),a,h=>by rw[repN_bad]at h;cases h
theorem valueP_rng :∀(k:Nat) (st:St),rngV (valueP k st).1:=by
 intro k
 have hz:rngV .zero:=⟨⟨by decide,by decide⟩,trivial,trivial⟩
 induction k with
 |zero=>intro st;exact hz
 |succ k ih=>
  rintro⟨l,bad⟩
  cases bad
  ·cases l with
   |nil=>exact hz
   |cons b l=>
    rw[valueP,if_neg (by decide)]
    have hzz:=zagN_range (numP (l,false)).1 (numP_lt _)
    by_cases h0:b=0
    ·rw[if_pos h0];exact hz
    rw[if_neg h0]
    by_cases h1:b=1
    ·rw[if_pos h1];exact⟨⟨by decide,by decide⟩,trivial,trivial⟩
    rw[if_neg h1]
    by_cases h2:b=2
    ·rw[if_pos h2];exact⟨⟨by decide,by decide⟩,trivial,trivial⟩
    rw[if_neg h2]
    by_cases h3:b=3
    ·rw[if_pos h3];exact⟨hzz,trivial,trivial⟩
    rw[if_neg h3]
    by_cases h4:b=4
    ·rw[if_pos h4];exact⟨⟨by decide,by decide⟩,trivial,trivial⟩
    rw[if_neg h4]
    by_cases h5:b=5
    ·rw[if_pos h5];exact⟨⟨by decide,by decide⟩,trivial,trivial⟩
    rw[if_neg h5]
    by_cases h6:b=6
    ·rw[if_pos h6];exact⟨⟨by decide,by decide⟩,rngL_mk (repN_mem ih _ _),trivial⟩
    rw[if_neg h6]
    by_cases h7:b=7
    ·rw[if_pos h7];exact⟨⟨by decide,by decide⟩,trivial,rngF_mk (repN_mem (p:=fun p:List UInt8×DVal=>rngV p.2) (fun st=>ih _) _ _)⟩
    rw[if_neg h7]
    exact hz
  ·exact hz
theorem rdR_eq (s:List UInt8):rdR s=rdV s:=by
 rw[rdR,rdV]
 by_cases h16:16384<s.length
 ·rw[if_pos h16,if_pos h16]
 rw[if_neg h16,if_neg h16]
 obtain⟨v,rest,bad,hv⟩:∃v rest bad,valueP 7 (s,false)=(v,(rest,bad)):=⟨_,_,_,rfl⟩
 obtain⟨v2,rest2,bad2,hv2⟩:∃v rest bad,valueP 11 (s,false)=(v,(rest,bad)):=⟨_,_,_,rfl⟩
 rw[hv,hv2]
 simp only[]
 by_cases h1:bad=true\/rest≠[]\/checkV 0 v≠0
 ·rw[if_pos h1]
  by_cases h2:bad2=true\/rest2≠[]\/checkV 0 v2≠0
  ·rw[if_pos h2]
  ·exfalso
   have hb2:bad2=false:=by cases bad2<;>simp_all
   have hr2:rest2=[]:=by
    rcases rest2 with _|⟨a,l⟩
    ·rfl
    ·exact absurd (Or.inr (Or.inl (by simp))) h2
   have hc2:checkV 0 v2=0:=by
    by_cases hc:checkV 0 v2=0
    ·exact hc
    ·exact absurd (Or.inr (Or.inr hc)) h2
   subst hb2 hr2
   have hinv:=valueP_inv 11 s v2 [] hv2
   rw[List.append_nil]at hinv
   have hrng:rngV v2:=by have:=valueP_rng 11 (s,false);rwa[hv2]at this
   have hrt:=rtV v2 0 7 hc2 hrng rfl (by omega) []
   rw[List.append_nil,hinv,hv]at hrt
   simp only[Prod.mk.injEq]at hrt
   obtain⟨rfl,rfl,rfl⟩:=hrt
   rcases h1 with h|h|h
   ·cases h
   ·exact h rfl
   ·exact h hc2
 ·rw[if_neg h1]
  have hb:bad=false:=by cases bad<;>simp_all
  subst hb
  have h8:=valueP_mono 7 s v rest hv
  have h9:=valueP_mono 8 s v rest h8
  have h10:=valueP_mono 9 s v rest h9
  have h11:=valueP_mono 10 s v rest h10
  rw[hv2]at h11
  simp only[Prod.mk.injEq]at h11
  obtain⟨rfl,rfl,rfl⟩:=h11
  rw[if_neg h1]
end Go.Proofs.YtcihbnpckicljaaGreatDoor
