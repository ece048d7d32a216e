/- Values' texts: how long they are; there and back. No conditions. codicilref03: zig, zag, Bytes; codicilref02.Utf. No conditions. codicilref03.text, Write. Conditions: the value lies in memory, is right, and its text is no longer than 2^40 bytes. codicilref03.Write, bytes. Conditions: the value lies in memory, its text is no longer than 2^40 bytes; the text is no longer than 2^40 bytes. codicilref03.value, Read. Condition: the text is no longer than 16384 bytes (value). What bin reads is what the document reads. No conditions. -/
import Derived.Test.YtcihbnpckicljaaGreatDoorrGB
import Derived.Test.YtcihbnpckicljaaGreatDoorrGC
import Derived.Test.YtcihbnpckicljaaGreatDoorrGA
set_option linter.unusedVariables false
set_option linter.unusedSimpArgs false
namespace Go.Proofs.YtcihbnpckicljaaGreatDoor
open Go Go.RowKit Go.BigFrame
open Go.Lib(hid)
set_option maxRecDepth 100000
mutual
theorem tlV :∀v:DVal,(textV v).length<=24*bulkV v+11
 | .mk k b n s l f=>by
   have h1:=tlL l
   have h2:=tlF f
   have h3:=numL_length (zigN n)
   have h4:=bytesL_length s
   have h5:=numL_length l.length
   have h6:=numL_length f.length
   rw[textV,bulkV]
   repeat' split
   all_goals(simp only[List.length_cons,List.length_append,List.length_nil];omega)
theorem tlL :∀l:List DVal,(textL l).length<=24*bulkL l
 |[]=>by simp[textL]
 |v::l=>by
  have h1:=tlV v
  have h2:=tlL l
  rw[textL,bulkL,List.length_append]
  omega
theorem tlF :∀l:List (List UInt8×DVal),(textF l).length<=24*bulkF l
 |[]=>by simp[textF]
 |(x,v)::l=>by
  have h1:=tlV v
  have h2:=tlF l
  have h3:=bytesL_length x
  rw[textF,bulkF,List.length_append,List.length_append]
  omega
end
theorem orE_0 {a b:Int} (h:orE a b=0):a=0/\b=0:=by
 unfold orE at h
 split at h
 ·exact⟨by assumption,h⟩
 ·exact absurd h (by assumption)
theorem wrP_ok {v:DVal}:(wrP v).2=0↔checkV 0 v=0/\(textV v).length<=16384:=by
 unfold wrP
 by_cases h:checkV 0 v=0
 ·by_cases h2:16384<(textV v).length
  ·rw[if_neg (by simpa using h),if_pos h2]
   constructor
   ·intro h3;cases h3
   ·intro h3;omega
  ·rw[if_neg (by simpa using h),if_neg h2]
   exact⟨fun _=>⟨h,by omega⟩,fun _=>rfl⟩
 ·rw[if_pos h]
  exact⟨fun h3=>absurd h3 h,fun h3=>absurd h3.1 h⟩
theorem wrP_text {v:DVal} (h:(wrP v).2=0):(wrP v).1=textV v:=by
 obtain⟨h1,h2⟩:=wrP_ok.1 h
 unfold wrP
 rw[if_neg (by simpa using h1),if_neg (by omega)]
theorem zag_zig (n:Int):zagN (zigN n)=n:=by
 unfold zigN
 by_cases h:0<=n
 ·rw[if_pos h,zagN,if_pos (by omega)];omega
 ·rw[if_neg h,zagN,if_neg (by omega)];omega
theorem zig_zag (n:Nat):zigN (zagN n)=n:=by
 unfold zagN
 by_cases h:n%2=0
 ·rw[if_pos h,zigN,if_pos (by omega)];omega
 ·rw[if_neg h,zigN,if_neg (by omega)];omega
theorem numP_text (n:Nat) (hn:n<18446744073709551616) (rest:List UInt8):numP (numL n++rest,false)=(n,(rest,false)):=by
 unfold numP
 simp only[readNum_numL n hn rest]
 rw[List.drop_left]
 rfl
theorem takeP_text (s rest:List UInt8):takeP s.length (s++rest,false)=(s,(rest,false)):=by
 unfold takeP
 rw[if_neg (by simp)]
 simp
theorem manyP_text (n:Nat) (hn:n<=64) (rest:List UInt8):manyP (numL n++rest,false)=(n,(rest,false)):=by
 unfold manyP
 rw[numP_text n (by omega) rest,if_neg (by simp;omega)]
mutual
def rngV :DVal->Prop
 | .mk k b n s l f=>(-9223372036854775808<=n/\n<=9223372036854775807)/\rngL l/\rngF f
def rngL :List DVal->Prop
 |[]=>True
 |v::l=>rngV v/\rngL l
def rngF :List (List UInt8×DVal)->Prop
 |[]=>True
 |(x,v)::l=>rngV v/\rngF l
end
theorem rngL_mk :∀{l:List DVal},(∀v∈l,rngV v)->rngL l
 |[],_=>trivial
 |v::l,h=>⟨h v (by simp),rngL_mk (fun u hu=>h u (by simp[hu]))⟩
theorem rngF_mk :∀{l:List (List UInt8×DVal)},(∀p∈l,rngV p.2)->rngF l
 |[],_=>trivial
 |(x,v)::l,h=>⟨h (x,v) (by simp),rngF_mk (fun u hu=>h u (by simp[hu]))⟩
theorem rng_of :∀(m:Nat) (v:DVal) (S:Nat->Prop) (w:World) (cs:List Value),SizeOf.sizeOf v<m->HasVal S w v cs->rngV v:=by
 intro m
 induction m with
 |zero=>intro v S w cs h;omega
 |succ m ih=>
  intro v S w cs hm h
  obtain⟨k,b,n,s,l,f⟩:=v
  obtain⟨pl,cl,pf,cf,rfl,hb,hl,hf⟩:=hasVal_mk.1 h
  refine⟨⟨hb.2.1,hb.2.2.1⟩,rngL_mk (fun v hv=>?_),rngF_mk (fun p hp=>?_)⟩
  ·obtain⟨i,hi,rfl⟩:=List.getElem_of_mem hv
   obtain⟨g,o,cs,_,_,h3⟩:=hl i hi
   have hz:=DVal.size_l (k:=k) (b:=b) (n:=n) (s:=s) (f:=f) l[i] (List.getElem_mem _)
   exact ih _ _ _ _ (by omega) h3
  ·obtain⟨i,hi,rfl⟩:=List.getElem_of_mem hp
   obtain⟨g,o,cs,_,_,h3⟩:=hf i hi
   have hz:=DVal.size_f (k:=k) (b:=b) (n:=n) (s:=s) (l:=l) f[i] (List.getElem_mem _)
   exact ih _ _ _ _ (by omega) h3
theorem HasVal.rng {S:Nat->Prop} {w:World} {v:DVal} {cs:List Value} (h:HasVal S w v cs):rngV v:=rng_of _ v S w cs (Nat.lt_succ_self _) h
theorem bare_shape {k:Nat} {b:Bool} {n:Int} {s:List UInt8} {ll lf:Nat} (h:bareB (k:Int) b n s ll lf=true):
 (k≠1->b=false)/\(k≠2->n=0)/\(k≠3->k≠4->s=[])/\(k≠5->ll=0)/\(k≠6->lf=0):=by
 unfold bareB flatB at h
 have h:=of_decide_eq_true h
 refine⟨fun hk=>?_,fun hk=>?_,fun hk hk4=>?_,fun hk=>?_,fun hk=>?_⟩
 ·have:=h.2.1;rwa[sel_f (by simp;omega)]at this
 ·have:=h.2.2.1;rwa[sel_f (by simp;omega)]at this
 ·have:=h.2.2.2.1;rwa[sel_f (by simp;omega)]at this
 ·have:=h.2.2.2.2.1;rwa[sel_f (by simp;omega)]at this
 ·have:=h.2.2.2.2.2;rwa[sel_f (by simp;omega)]at this
theorem nameE_len {x:List UInt8} (h:nameE x=0):x.length<=1024:=by
 unfold nameE at h
 by_cases hc:x=[]\/1024<x.length
 ·rw[if_pos hc]at h;cases h
 ·omega
mutual
theorem rtV :∀(v:DVal) (d k:Nat),checkV d v=0->rngV v->d+k=7->1<=k->∀rest,valueP k (textV v++rest,false)=(v,(rest,false))
 | .mk kd b n s l f,d,k,h,hr,hdk,hk1,rest=>by
   obtain⟨k,rfl⟩:∃k',k=k'+1:=⟨k-1,by omega⟩
   rw[checkV]at h
   obtain⟨h0,h⟩:=orE_0 h
   obtain⟨hl,hf⟩:=orE_0 h
   obtain⟨hk7,hbare,hs,hu,hll,hlf,hdep⟩:=why0_ok h0
   obtain⟨p1,p2,p3,p4,p5⟩:=bare_shape hbare
   have hl0:kd≠5->l=[]:=fun hk=>List.eq_nil_of_length_eq_zero (p4 hk)
   have hf0:kd≠6->f=[]:=fun hk=>List.eq_nil_of_length_eq_zero (p5 hk)
   rw[rngV]at hr
   have hkk:kd=0\/kd=1\/kd=2\/kd=3\/kd=4\/kd=5\/kd=6:=by omega
   rcases hkk with rfl|rfl|rfl|rfl|rfl|rfl|rfl
   ·rw[p1 (by decide),p2 (by decide),p3 (by decide) (by decide),hl0 (by decide),hf0 (by decide)]
    rfl
   ·rw[p2 (by decide),p3 (by decide) (by decide),hl0 (by decide),hf0 (by decide)]
    cases b<;>rfl
   ·rw[p1 (by decide),p3 (by decide) (by decide),hl0 (by decide),hf0 (by decide)]
    have hz:=numP_text (zigN n) (zigN_lt hr.1.1 hr.1.2) rest
    show valueP (k+1) (3::(numL (zigN n)++rest),false)=_
    rw[valueP,if_neg (by decide)]
    simp only[hz,zag_zig]
    rfl
   ·rw[p1 (by decide),p2 (by decide),hl0 (by decide),hf0 (by decide)]
    have hz:=numP_text s.length (by omega) (s++rest)
    have ht:=takeP_text s rest
    show valueP (k+1) (4::((numL s.length++s)++rest),false)=_
    rw[List.append_assoc,valueP,if_neg (by decide)]
    simp only[hz,ht]
    rfl
   ·rw[p1 (by decide),p2 (by decide),hl0 (by decide),hf0 (by decide)]
    have hz:=numP_text s.length (by omega) (s++rest)
    have ht:=takeP_text s rest
    show valueP (k+1) (5::((numL s.length++s)++rest),false)=_
    rw[List.append_assoc,valueP,if_neg (by decide)]
    simp only[hz,ht]
    rfl
   ·rw[p1 (by decide),p2 (by decide),p3 (by decide) (by decide),hf0 (by decide)]
    have hd:=hdep (Or.inl rfl)
    have hz:=manyP_text l.length hll (textL l++rest)
    have ht:=rtL l (d+1) k hl hr.2.1 (by omega) (by omega) rest
    show valueP (k+1) (6::((numL l.length++textL l)++rest),false)=_
    rw[List.append_assoc,valueP,if_neg (by decide)]
    simp only[hz,ht]
    rfl
   ·rw[p1 (by decide),p2 (by decide),p3 (by decide) (by decide),hl0 (by decide)]
    have hd:=hdep (Or.inr rfl)
    have hz:=manyP_text f.length hlf (textF f++rest)
    have ht:=rtF f (d+1) [] k hf hr.2.2 (by omega) (by omega) rest
    show valueP (k+1) (7::((numL f.length++textF f)++rest),false)=_
    rw[List.append_assoc,valueP,if_neg (by decide)]
    simp only[hz,ht]
    rfl
theorem rtL :∀(l:List DVal) (d k:Nat),checkL d l=0->rngL l->d+k=7->1<=k->∀rest,repN (valueP k) l.length (textL l++rest,false)=(l,(rest,false))
 |[],_,_,_,_,_,_,rest=>rfl
 |v::l,d,k,h,hr,hdk,hk1,rest=>by
  rw[checkL]at h
  obtain⟨h0,h⟩:=orE_0 h
  rw[rngL]at hr
  have h1:=rtV v d k h0 hr.1 hdk hk1 (textL l++rest)
  have h2:=rtL l d k h hr.2 hdk hk1 rest
  rw[textL,List.append_assoc,List.length_cons,repN_more,h1]
  simp only[h2]
theorem rtF :∀(f:List (List UInt8×DVal)) (d:Nat) (last:List UInt8) (k:Nat),checkF d last f=0->rngF f->d+k=7->1<=k->∀rest,repN (fieldP (valueP k)) f.length (textF f++rest,false)=(f,(rest,false))
 |[],_,_,_,_,_,_,_,rest=>rfl
 |(x,v)::f,d,last,k,h,hr,hdk,hk1,rest=>by
  rw[checkF]at h
  obtain⟨hn,h⟩:=orE_0 h
  obtain⟨hn,_⟩:=orE_0 hn
  obtain⟨h0,h⟩:=orE_0 h
  rw[rngF]at hr
  have hx:=nameE_len hn
  have h1:=rtV v d k h0 hr.1 hdk hk1 (textF f++rest)
  have h2:=rtF f d x k h hr.2 hdk hk1 rest
  have hz:=numP_text x.length (by omega) (x++(textV v++(textF f++rest)))
  have ht:=takeP_text x (textV v++(textF f++rest))
  have hfp:fieldP (valueP k) (bytesL x++(textV v++(textF f++rest)),false)=((x,v),(textF f++rest,false)):=by
   rw[bytesL,List.append_assoc]
   simp only[fieldP,hz,ht,h1]
  rw[textF,List.append_assoc,List.append_assoc,List.length_cons,repN_more,hfp]
  simp only[h2]
end
theorem read_text {v:DVal} (h:(wrP v).2=0) (hr:rngV v):rdV (wrP v).1=(v,0):=by
 obtain⟨hc,hl⟩:=wrP_ok.1 h
 have h7:=rtV v 0 7 hc hr rfl (by decide) []
 rw[List.append_nil]at h7
 rw[wrP_text h,rdV,if_neg (by omega),h7]
 simp[hc]
theorem numP_inv {l rest:List UInt8} {n:Nat} (h:numP (l,false)=(n,(rest,false))):numL n++rest=l:=by
 unfold numP at h
 cases hr:readNum l with
 |none=>simp[hr]at h
 |some p=>
  obtain⟨v,k⟩:=p
  simp[hr]at h
  obtain⟨rfl,rfl⟩:=h
  rw[(readNum_some hr).1,List.take_append_drop]
theorem takeP_inv {l s rest:List UInt8} {n:Nat} (h:takeP n (l,false)=(s,(rest,false))):s++rest=l/\s.length=n:=by
 unfold takeP at h
 by_cases hc:(l,false).2=true\/(l,false).1.length<n
 ·rw[if_pos hc]at h;simp at h
 ·rw[if_neg hc]at h
  simp at h hc
  obtain⟨rfl,rfl⟩:=h
  exact⟨List.take_append_drop _ _,by simp;omega⟩
theorem takeP_bad (n:Nat) (l:List UInt8):(takeP n (l,true)).2.2=true:=by
 unfold takeP
 rw[if_pos (Or.inl rfl)]
theorem manyP_inv {l rest:List UInt8} {n:Nat} (h:manyP (l,false)=(n,(rest,false))):numL n++rest=l:=by
 unfold manyP at h
 split at h
 ·simp at h
 ·exact numP_inv h
theorem valueP_bad :∀(k:Nat) (l:List UInt8),(valueP k (l,true)).2.2=true
 |0,_=>rfl
 |_+1,_=>rfl
theorem repN_inv {α:Type} (g:α->List UInt8) (f:St->α×St) (hf:∀l a rest,f (l,false)=(a,(rest,false))->g a++rest=l):∀(n:Nat) (l:List UInt8) (zs:List α) (rest:List UInt8),repN f n (l,false)=(zs,(rest,false))->zs.length=n/\zs.flatMap g++rest=l
 |0,l,zs,rest,h=>by
  rw[repN_zero]at h
  simp only[Prod.mk.injEq]at h
  obtain⟨rfl,rfl,_⟩:=h
  exact⟨rfl,rfl⟩
 |n+1,l,zs,rest,h=>by
  rw[repN_more]at h
  obtain⟨a,l2,b2,hfa⟩:∃a l2 b2,f (l,false)=(a,(l2,b2)):=⟨_,_,_,rfl⟩
  rw[hfa]at h
  simp only[Prod.mk.injEq]at h
  obtain⟨rfl,h2⟩:=h
  cases b2
  ·obtain⟨bs2,l3,b3,hr⟩:∃bs2 l3 b3,repN f n (l2,false)=(bs2,(l3,b3)):=⟨_,_,_,rfl⟩
   rw[hr]at h2
   simp only[Prod.mk.injEq]at h2
   obtain⟨rfl,rfl⟩:=h2
   obtain⟨h3,h4⟩:=repN_inv g f hf n l2 bs2 l3 hr
   have h5:=hf l a l2 hfa
   refine⟨by simp only[hr,List.length_cons,h3],?_⟩
   simp only[hr,List.flatMap_cons,List.append_assoc,h4,h5]
  ·rw[repN_bad]at h2
   simp at h2
theorem textL_flat :∀l:List DVal,textL l=l.flatMap textV
 |[]=>rfl
 |v::l=>by rw[textL,textL_flat l];rfl
theorem textF_flat :∀l:List (List UInt8×DVal),textF l=l.flatMap fun p=>bytesL p.1++textV p.2
 |[]=>rfl
 |(x,v)::l=>by rw[textF,textF_flat l];rfl
theorem valueP_inv :∀(k:Nat) (l:List UInt8) (v:DVal) (rest:List UInt8),valueP k (l,false)=(v,(rest,false))->textV v++rest=l:=by
 intro k
 induction k with
 |zero=>intro l v rest h;simp[valueP]at h
 |succ k ih=>
  intro l v rest h
  cases l with
  |nil=>simp[valueP]at h
  |cons b l=>
   rw[valueP,if_neg (by decide)]at h
   (try simp only[]at h)
   have hfld:∀l a rest,fieldP (valueP k) (l,false)=(a,(rest,false))->(bytesL a.1++textV a.2)++rest=l:=by
    intro l a rest h
    obtain⟨n,l1,b1,h1⟩:∃n l1 b1,numP (l,false)=(n,(l1,b1)):=⟨_,_,_,rfl⟩
    obtain⟨s,l2,b2,h2⟩:∃s l2 b2,takeP n (l1,b1)=(s,(l2,b2)):=⟨_,_,_,rfl⟩
    obtain⟨u,l3,b3,h3⟩:∃u l3 b3,valueP k (l2,b2)=(u,(l3,b3)):=⟨_,_,_,rfl⟩
    simp only[fieldP,h1,h2,h3,Prod.mk.injEq]at h
    obtain⟨rfl,rfl,rfl⟩:=h
    cases b2
    ·cases b1
     ·have e1:=numP_inv h1
      obtain⟨e2,e3⟩:=takeP_inv h2
      have e4:=ih _ _ _ h3
      show(bytesL s++textV u)++l3=l
      rw[List.append_assoc,e4,bytesL,List.append_assoc,e2,e3,e1]
     ·have:=takeP_bad n l1
      rw[h2]at this
      cases this
    ·have:=valueP_bad k l2
     rw[h3]at this
     cases this
   by_cases b0:b=0
   ·rw[if_pos b0]at h
    simp only[Prod.mk.injEq,and_true]at h
    obtain⟨rfl,rfl⟩:=h
    rw[b0];rfl
   rw[if_neg b0]at h
   by_cases b1:b=1
   ·rw[if_pos b1]at h
    simp only[Prod.mk.injEq,and_true]at h
    obtain⟨rfl,rfl⟩:=h
    rw[b1];rfl
   rw[if_neg b1]at h
   by_cases b2:b=2
   ·rw[if_pos b2]at h
    simp only[Prod.mk.injEq,and_true]at h
    obtain⟨rfl,rfl⟩:=h
    rw[b2];rfl
   rw[if_neg b2]at h
   by_cases b3:b=3
   ·rw[if_pos b3]at h
    obtain⟨n,l1,c1,h1⟩:∃n l1 c1,numP (l,false)=(n,(l1,c1)):=⟨_,_,_,rfl⟩
    rw[h1]at h
    simp only[Prod.mk.injEq]at h
    obtain⟨rfl,rfl,rfl⟩:=h
    have e1:=numP_inv h1
    rw[b3]
    show 3::(numL (zigN (zagN n))++l1)=3::l
    rw[zig_zag,e1]
   rw[if_neg b3]at h
   by_cases b4:b=4
   ·rw[if_pos b4]at h
    obtain⟨n,l1,c1,h1⟩:∃n l1 c1,numP (l,false)=(n,(l1,c1)):=⟨_,_,_,rfl⟩
    obtain⟨s,l2,c2,h2⟩:∃s l2 c2,takeP n (l1,c1)=(s,(l2,c2)):=⟨_,_,_,rfl⟩
    rw[h1]at h
    simp only[h2,Prod.mk.injEq]at h
    obtain⟨rfl,rfl,rfl⟩:=h
    cases c1
    ·have e1:=numP_inv h1
     obtain⟨e2,e3⟩:=takeP_inv h2
     rw[b4]
     show 4::((numL s.length++s)++l2)=4::l
     rw[List.append_assoc,e2,e3,e1]
    ·have:=takeP_bad n l1
     rw[h2]at this
     cases this
   rw[if_neg b4]at h
   by_cases b5:b=5
   ·rw[if_pos b5]at h
    obtain⟨n,l1,c1,h1⟩:∃n l1 c1,numP (l,false)=(n,(l1,c1)):=⟨_,_,_,rfl⟩
    obtain⟨s,l2,c2,h2⟩:∃s l2 c2,takeP n (l1,c1)=(s,(l2,c2)):=⟨_,_,_,rfl⟩
    rw[h1]at h
    simp only[h2,Prod.mk.injEq]at h
    obtain⟨rfl,rfl,rfl⟩:=h
    cases c1
    ·have e1:=numP_inv h1
     obtain⟨e2,e3⟩:=takeP_inv h2
     rw[b5]
     show 5::((numL s.length++s)++l2)=5::l
     rw[List.append_assoc,e2,e3,e1]
    ·have:=takeP_bad n l1
     rw[h2]at this
     cases this
   rw[if_neg b5]at h
   by_cases b6:b=6
   ·rw[if_pos b6]at h
    obtain⟨n,l1,c1,h1⟩:∃n l1 c1,manyP (l,false)=(n,(l1,c1)):=⟨_,_,_,rfl⟩
    obtain⟨s,l2,c2,h2⟩:∃s l2 c2,repN (valueP k) n (l1,c1)=(s,(l2,c2)):=⟨_,_,_,rfl⟩
    rw[h1]at h
    simp only[h2,Prod.mk.injEq]at h
    obtain⟨rfl,rfl,rfl⟩:=h
    cases c1
    ·have e1:=manyP_inv h1
     obtain⟨e2,e3⟩:=repN_inv textV (valueP k) ih n l1 s l2 h2
     rw[b6]
     show 6::((numL s.length++textL s)++l2)=6::l
     rw[List.append_assoc,textL_flat,e3,e2,e1]
    ·rw[repN_bad]at h2
     simp at h2
   rw[if_neg b6]at h
   by_cases b7:b=7
   ·rw[if_pos b7]at h
    obtain⟨n,l1,c1,h1⟩:∃n l1 c1,manyP (l,false)=(n,(l1,c1)):=⟨_,_,_,rfl⟩
    obtain⟨s,l2,c2,h2⟩:∃s l2 c2,repN (fieldP (valueP k)) n (l1,c1)=(s,(l2,c2)):=⟨_,_,_,rfl⟩
    rw[h1]at h
    simp only[h2,Prod.mk.injEq]at h
    obtain⟨rfl,rfl,rfl⟩:=h
    cases c1
    ·have e1:=manyP_inv h1
     obtain⟨e2,e3⟩:=repN_inv (fun p=>bytesL p.1++textV p.2) (fieldP (valueP k)) hfld n l1 s l2 h2
     rw[b7]
     show 7::((numL s.length++textF s)++l2)=7::l
     rw[List.append_assoc,textF_flat,e3,e2,e1]
    ·rw[repN_bad]at h2
     simp at h2
   rw[if_neg b7]at h
   simp at h
theorem write_read {s:List UInt8} (h:(rdV s).2=0):wrP (rdV s).1=(s,0)/\checkV 0 (rdV s).1=0:=by
 unfold rdV at h⊢
 by_cases h16:16384<s.length
 ·rw[if_pos h16]at h;cases h
 ·rw[if_neg h16]at h⊢
  by_cases hc:(valueP 7 (s,false)).2.2=true\/(valueP 7 (s,false)).2.1≠[]\/checkV 0 (valueP 7 (s,false)).1≠0
  ·rw[if_pos hc]at h;cases h
  ·rw[if_neg hc]
   obtain⟨v,l,b,hv⟩:∃v l b,valueP 7 (s,false)=(v,(l,b)):=⟨_,_,_,rfl⟩
   rw[hv]at hc⊢
   simp only[not_or,ne_eq,Decidable.not_not,Bool.not_eq_true]at hc
   obtain⟨rfl,rfl,hck⟩:=hc
   have ht:=valueP_inv 7 s v [] hv
   rw[List.append_nil]at ht
   refine⟨?_,hck⟩
   unfold wrP
   rw[if_neg (by simpa using hck),ht,if_neg h16]
theorem rdV_zero {s:List UInt8} (h:(rdV s).2≠0):(rdV s).1=.zero:=by
 unfold rdV at h⊢
 repeat' split
 ·rfl
 ·rfl
 ·rename_i h1 h2
  rw[if_neg h1,if_neg h2]at h
  exact absurd rfl h
set_option maxHeartbeats 1000000 in
theorem ref_zig_any (n:Int) (w:World) (h0: -9223372036854775808<=n) (h1:n<=9223372036854775807):
 Calls Tryz.prog 122 #[.int .i64 n] w fun e' w'=>e'=.returned (.int .u64 ((zigN n:Nat):Int))/\w=w':=by
 obtain⟨R,hR⟩:∃R:Int,R=((zigN n:Nat):Int):=⟨_,rfl⟩
 rw[←hR]
 by_cases hn:0<=n
 ·have hr:R=2*n:=by rw[hR,zigN,if_pos hn];omega
  have HR:=hid hr
  clear hR hr
  go_enter Tryz.func122,Tryz.ntmps122
  go_wp2
  go_ret
  exact⟨by rw[HR.out];rfl,rfl⟩
 ·have hr:R=2*(-(n+1))+1:=by rw[hR,zigN,if_neg hn];omega
  have HR:=hid hr
  clear hR hr
  have hlt:n<0:=by omega
  go_enter Tryz.func122,Tryz.ntmps122
  go_wp2
  go_ret
  exact⟨by rw[HR.out];rfl,rfl⟩
set_option maxHeartbeats 1000000 in
theorem ref_bytes_any (s:List UInt8) (w:World) (hs:s.length<=1099511627776):
 Calls Tryz.prog 123 #[.string (bs s)] w fun e' w'=>e'=.returned (.string (bs (bytesL s)))/\Below w.heap.size w w':=by
 have hsz:=bs_size s
 have hn:=numL_length s.length
 have hsN:=bs_size (numL s.length)
 go_enter Tryz.func123,Tryz.ntmps123
 go_wp2_with fail
 go_at_call 121
 refine(ref_number_any s.length w (by omega)).mono ?_
 rintro e' w1 ⟨rfl,hb⟩
 have HB:=hid hb
 clear hb
 go_wp2
 go_ret
 exact⟨by rw[bytesL,←bs_app];rfl,HB.out⟩
theorem orE_0R {a b:Int} (h:orE a b=0):a=0/\b=0:=by
 unfold orE at h
 split at h
 ·exact⟨by assumption,h⟩
 ·exact absurd h (by assumption)
theorem checkL_mem {d:Nat}:∀{l:List DVal},checkL d l=0->∀v∈l,checkV d v=0
 |[],_,v,hv=>by cases hv
 |a::l,h,v,hv=>by
  rw[checkL]at h
  rcases List.mem_cons.1 hv with rfl|hv
  ·exact(orE_0R h).1
  ·exact checkL_mem (orE_0R h).2 v hv
theorem checkF_mem {d:Nat}:∀{f:List (List UInt8×DVal)} {last:List UInt8},checkF d last f=0->∀p∈f,checkV d p.2=0
 |[],_,_,p,hp=>by cases hp
 |(x,v)::f,last,h,p,hp=>by
  rw[checkF]at h
  have h2:=orE_0R (orE_0R h).2
  rcases List.mem_cons.1 hp with rfl|hp
  ·exact h2.1
  ·exact checkF_mem h2.2 p hp
theorem check_parts {d k:Nat} {b:Bool} {n:Int} {s:List UInt8} {l:List DVal} {f:List (List UInt8×DVal)} (h:checkV d (.mk k b n s l f)=0):
 k<7/\s.length<=1024/\l.length<=64/\f.length<=64/\checkL (d+1) l=0/\checkF (d+1) [] f=0:=by
 rw[checkV]at h
 obtain⟨h0,h1⟩:=orE_0R h
 obtain⟨h2,h3⟩:=orE_0R h1
 obtain⟨a1,_,a2,_,a3,a4,_⟩:=why0_ok h0
 exact⟨by omega,a2,a3,a4,h2,h3⟩
theorem bs_consW (c:UInt8) (l:List UInt8):bs (c::l)=bs [c]++bs l:=by rw[bs_app];rfl
theorem bs_cons2W (c:UInt8) (l m:List UInt8):bs (c::(l++m))=bs [c]++bs l++bs m:=by rw[bs_app,bs_app];rfl
theorem textL_drop {l:List DVal} {i:Nat} (h:i<l.length):textL (l.drop i)=textV l[i]++textL (l.drop (i+1)):=by
 rw[List.drop_eq_getElem_cons h,textL]
theorem textF_drop {l:List (List UInt8×DVal)} {i:Nat} (h:i<l.length):textF (l.drop i)=(bytesL l[i].1++textV l[i].2)++textF (l.drop (i+1)):=by
 rw[List.drop_eq_getElem_cons h]
 generalize l[i]=p
 obtain⟨x,v⟩:=p
 rw[textF]
def TextOk (a:DVal):Prop:=∀(d:Nat) (S:Nat->Prop) (cs:List Value) (w:World),HasVal S w a cs->checkV d a=0->(textV a).length<=1099511627776→
 Calls Tryz.prog 89 #[.agg cs.toArray] w fun e' w'=>e'=.returned (.string (bs (textV a)))/\Below w.heap.size w w'
set_option maxHeartbeats 4000000 in
theorem ref_text_step (k:Nat) (b:Bool) (n:Int) (s:List UInt8) (l:List DVal) (f:List (List UInt8×DVal)) (ihL:∀v∈l,TextOk v) (ihF:∀p∈f,TextOk p.2):TextOk (.mk k b n s l f):=by
 intro d S cs w hv hck hbig
 obtain⟨pl,cl,pf,cf,rfl,hbd,hL,hF⟩:=hasVal_mk.1 hv
 clear hv
 obtain⟨hk7,hs,hll,hlf,hckL,hckF⟩:=check_parts hck
 clear hck
 have hnlo:=hbd.2.1
 have hnhi:=hbd.2.2.1
 clear hbd
 obtain⟨R,hR⟩:∃R,R=textV (.mk k b n s l f):=⟨_,rfl⟩
 rw[←hR]at hbig⊢
 rw[textV]at hR
 show Calls Tryz.prog 89 #[.agg #[.int .u8 (k:Int),.bool b,.int .i64 n,.string (bs s),.slice pl l.length cl,.slice pf f.length cf]] w _
 obtain⟨nl,hnl⟩:∃nl,nl=l.length:=⟨_,rfl⟩
 obtain⟨nf,hnf⟩:∃nf,nf=f.length:=⟨_,rfl⟩
 rw[←hnl,←hnf]
 rw[←hnl]at hll hR
 rw[←hnf]at hlf hR
 have HNL:=hid hnl
 have HNF:=hid hnf
 have HL:=hid hL
 have HF:=hid hF
 have HIL:=hid ihL
 have HIF:=hid ihF
 have HCL:=hid (checkL_mem hckL)
 have HCF:=hid (checkF_mem hckF)
 have hsz:=bs_size s
 clear hnl hnf hL hF ihL ihF hckL hckF
 have hk:k=0\/k=1\/k=2\/k=3\/k=4\/k=5\/k=6:=by omega
 clear hk7
 rcases hk with rfl|rfl|rfl|rfl|rfl|rfl|rfl
 ·have HR2:Hid (R=[0]):=hid (by rw[hR,if_pos rfl])
  clear hR
  go_enter Tryz.func89,Tryz.ntmps89
  go_wp2
  go_ret
  exact⟨by rw[HR2.out];rfl,(Below.refl _ _).alloc (Nat.le_refl _) _⟩
 ·have HR2:Hid (R=[if b then 2 else 1]):=hid (by rw[hR,if_neg (by decide),if_pos rfl])
  clear hR
  cases b
  all_goals
   go_enter Tryz.func89,Tryz.ntmps89
   go_wp2
   go_ret
   exact⟨by rw[HR2.out];rfl,(Below.refl _ _).alloc (Nat.le_refl _) _⟩
 ·have HR2:Hid (R=3::numL (zigN n)):=hid (by rw[hR,if_neg (by decide),if_neg (by decide),if_pos rfl])
  clear hR
  have hzl:=zigN_lt hnlo hnhi
  have hsN:=bs_size (numL (zigN n))
  have hn10:=numL_length (zigN n)
  go_enter Tryz.func89,Tryz.ntmps89
  go_wp2_with fail
  go_at_call 122
  refine(ref_zig_any n _ hnlo hnhi).mono ?_
  rintro e' w1 ⟨rfl,rfl⟩
  go_wp2_with fail
  go_at_call 121
  refine(ref_number_any (zigN n) _ hzl).mono ?_
  rintro e' w1 ⟨rfl,hb⟩
  have HB:=hid (below_ext ((Below.refl _ _).alloc (Nat.le_refl _) _) hb)
  clear hb
  go_wp2
  go_ret
  exact⟨by rw[HR2.out,bs_consW];rfl,HB.out⟩
 ·have HR2:Hid (R=4::bytesL s):=hid (by rw[hR];rfl)
  clear hR
  have hsN:=bs_size (bytesL s)
  have hbl:(bytesL s).length<=s.length+10:=by have:=numL_length s.length;rw[bytesL,List.length_append];omega
  go_enter Tryz.func89,Tryz.ntmps89
  go_wp2_with fail
  go_at_call 123
  refine(ref_bytes_any s _ (by omega)).mono ?_
  rintro e' w1 ⟨rfl,hb⟩
  have HB:=hid (below_ext ((Below.refl _ _).alloc (Nat.le_refl _) _) hb)
  clear hb
  go_wp2
  go_ret
  exact⟨by rw[HR2.out,bs_consW];rfl,HB.out⟩
 ·have HR2:Hid (R=5::bytesL s):=hid (by rw[hR];rfl)
  clear hR
  have hsN:=bs_size (bytesL s)
  have hbl:(bytesL s).length<=s.length+10:=by have:=numL_length s.length;rw[bytesL,List.length_append];omega
  go_enter Tryz.func89,Tryz.ntmps89
  go_wp2_with fail
  go_at_call 123
  refine(ref_bytes_any s _ (by omega)).mono ?_
  rintro e' w1 ⟨rfl,hb⟩
  have HB:=hid (below_ext ((Below.refl _ _).alloc (Nat.le_refl _) _) hb)
  clear hb
  go_wp2
  go_ret
  exact⟨by rw[HR2.out,bs_consW];rfl,HB.out⟩
 ·have HR2:Hid (R=6::(numL nl++textL l)):=hid (by rw[hR];rfl)
  clear hR
  rw[show((5:Nat):Int)=5 from rfl]
  obtain⟨T,hT⟩:∃T,T=textL l:=⟨_,rfl⟩
  have hTl:T.length<=1099511627776:=by
   have:=congrArg List.length HR2.out
   rw[List.length_cons,List.length_append,←hT]at this
   omega
  have HT:=hid hT;clear hT
  have hn10:=numL_length nl
  have hsN:=bs_size (numL nl)
  go_enter Tryz.func89,Tryz.ntmps89
  go_upto_region 14 with(fail)
  generalize hW0:World.alloc w _=W0
  have hd1:IsBlk W0 w.heap.size #[.int .u8 5,.bool b,.int .i64 n,.string (bs s),.slice pl nl cl,.slice pf nf cf] 52:=by rw[←hW0];exact IsBlk.new _ _ _
  have hb0:Below w.heap.size w W0:=by rw[←hW0];exact(Below.refl _ _).alloc (Nat.le_refl _) _
  have hlt1:w.heap.size<W0.heap.size:=hd1.lt
  clear hW0
  have c14:W0.cell? ⟨w.heap.size,4,none⟩=some (.slice pl nl cl):=hd1.cell rfl
  have HD1:=hid hd1
  have HB0:=hid hb0
  clear hd1 hb0
  go_wp2
  clear c14
  go_loopw [38,3] (fun i v wr=>∃(j:Nat) (P:List UInt8),i=.int .i64 j/\v=.string (bs P)/\j<=nl/\P++textL (l.drop j)=T/\Below W0.heap.size W0 wr) (fun i _ _=>nl-(intOf i).toNat)
  case atStart=>exact⟨0,[],rfl,rfl,by omega,HT.out.symm,Below.refl _ _⟩
  case round=>
  obtain⟨j,P,rfl,rfl,hj,hrel,hbw⟩:=hrel
  have hwr:=hbw.size
  have HBW:=hid hbw
  clear hbw
  have hP:=bs_size P
  by_cases hlt:j<nl
  ·have hj1:j<l.length:=by rw[←HNL.out];exact hlt
   have hbwr:=Below.trans HB0.out (HBW.out.mono (by omega))
   obtain⟨g1,o1,cs1,hp1,hc1,hv1⟩:=(HL.out.ext hbwr) j hj1
   have hok:=HIL.out _ (List.getElem_mem hj1)
   have hck:=HCL.out _ (List.getElem_mem hj1)
   rw[textL_drop hj1]at hrel
   generalize l[j]=u1 at hv1 hok hrel hck
   obtain⟨k1,b1,n1,s1,l1,f1⟩:=u1
   obtain⟨q,hq⟩:∃q,q=textV (.mk k1 b1 n1 s1 l1 f1):=⟨_,rfl⟩
   rw[←hq,←List.append_assoc]at hrel
   have hlen:P.length+q.length<=1099511627776:=by
    have:=congrArg List.length hrel
    rw[List.length_append,List.length_append]at this
    omega
   have hqs:=bs_size q
   have HQ:=hid hq
   have HOK:=hid hok
   have HCK:=hid hck
   have HREL2:=hid hrel
   have HV1:=hid hv1
   obtain⟨pl1,cl1,pf1,cf1,rfl,_,_,_⟩:=hasVal_mk.1 hv1
   obtain⟨d0,d1,d2,d3,d4,d5⟩:=hc1.six
   have hg1:=hc1.2.1
   clear hv1 hok hc1 hbwr hrel hq hck
   subst hp1
   obtain⟨m1,hm1⟩:∃m1,m1=l1.length:=⟨_,rfl⟩
   obtain⟨m2,hm2⟩:∃m2,m2=f1.length:=⟨_,rfl⟩
   rw[←hm1,←hm2]at HV1
   rw[←hm1]at d4
   rw[←hm2]at d5
   clear hm1 hm2
   have hbx:Below wr.heap.size wr (wr.alloc (.cells #[.int .u8 (k1:Int),.bool b1,.int .i64 n1,.string (bs s1),.slice pl1 m1 cl1,.slice pf1 m2 cf1] 52)):=(Below.refl _ _).alloc (Nat.le_refl _) _
   have HBX:=hid hbx
   clear hbx
   go_wp2_with fail
   go_at_call 89
   refine(HOK.out _ S _ _ (HV1.out.ext HBX.out) HCK.out (by rw[←HQ.out];omega)).mono ?_
   rintro e' w1 ⟨he,hb⟩
   rw[←HQ.out]at he
   subst he
   have HB1:=hid (below_ext HBW.out (below_ext HBX.out hb))
   clear hb d0 d1 d2 d3 d4 d5
   go_wp2
   go_roundw
   case rel=>exact⟨j+1,P++q,by go_num,by rw[bs_app],by omega,HREL2.out,HB1.out⟩
   case measure=>simp[intOf];omega
  ·have hrel2:P=T:=by
    rw[List.drop_eq_nil_of_le (by rw[←HNL.out];omega),textL,List.append_nil]at hrel
    exact hrel
   clear hrel
   subst hrel2
   have c15:wr.cell? ⟨w.heap.size,4,none⟩=some (.slice pl nl cl):=(HD1.out.below HBW.out hlt1).cell rfl
   go_wp2_with fail
   go_at_call 121
   refine(ref_number_any nl _ (by omega)).mono ?_
   rintro e' w1 ⟨rfl,hb⟩
   have HB:=hid (Below.trans HB0.out ((below_ext HBW.out hb).mono (by omega)))
   clear hb c15
   go_wp2
   go_ret
   exact⟨by rw[HR2.out,←HT.out,bs_cons2W];rfl,HB.out⟩
 ·have HR2:Hid (R=7::(numL nf++textF f)):=hid (by rw[hR];rfl)
  clear hR
  rw[show((6:Nat):Int)=6 from rfl]
  obtain⟨T,hT⟩:∃T,T=textF f:=⟨_,rfl⟩
  have hTl:T.length<=1099511627776:=by
   have:=congrArg List.length HR2.out
   rw[List.length_cons,List.length_append,←hT]at this
   omega
  have HT:=hid hT;clear hT
  have hn10:=numL_length nf
  have hsN:=bs_size (numL nf)
  go_enter Tryz.func89,Tryz.ntmps89
  go_upto_region 21 with(fail)
  generalize hW0:World.alloc w _=W0
  have hd1:IsBlk W0 w.heap.size #[.int .u8 6,.bool b,.int .i64 n,.string (bs s),.slice pl nl cl,.slice pf nf cf] 52:=by rw[←hW0];exact IsBlk.new _ _ _
  have hb0:Below w.heap.size w W0:=by rw[←hW0];exact(Below.refl _ _).alloc (Nat.le_refl _) _
  have hlt1:w.heap.size<W0.heap.size:=hd1.lt
  clear hW0
  have c14:W0.cell? ⟨w.heap.size,5,none⟩=some (.slice pf nf cf):=hd1.cell rfl
  have HD1:=hid hd1
  have HB0:=hid hb0
  clear hd1 hb0
  go_wp2
  clear c14
  go_loopw [60,3] (fun i v wr=>∃(j:Nat) (P:List UInt8),i=.int .i64 j/\v=.string (bs P)/\j<=nf/\P++textF (f.drop j)=T/\Below W0.heap.size W0 wr) (fun i _ _=>nf-(intOf i).toNat)
  case atStart=>exact⟨0,[],rfl,rfl,by omega,HT.out.symm,Below.refl _ _⟩
  case round=>
  obtain⟨j,P,rfl,rfl,hj,hrel,hbw⟩:=hrel
  have hwr:=hbw.size
  have HBW:=hid hbw
  clear hbw
  have hP:=bs_size P
  by_cases hlt:j<nf
  ·have hj1:j<f.length:=by rw[←HNF.out];exact hlt
   have hbwr:=Below.trans HB0.out (HBW.out.mono (by omega))
   obtain⟨g1,o1,cs1,hp1,⟨hxl,hc1⟩,hv1⟩:=(HF.out.ext hbwr) j hj1
   have hok:=HIF.out _ (List.getElem_mem hj1)
   have hck:=HCF.out _ (List.getElem_mem hj1)
   rw[textF_drop hj1]at hrel
   generalize f[j]=p1 at hv1 hok hrel hck hxl hc1
   obtain⟨x1,u1⟩:=p1
   simp only[]at hv1 hok hrel hck hxl hc1
   obtain⟨k1,b1,n1,s1,l1,f1⟩:=u1
   obtain⟨q,hq⟩:∃q,q=textV (.mk k1 b1 n1 s1 l1 f1):=⟨_,rfl⟩
   obtain⟨y1,hy1⟩:∃y1,y1=bytesL x1:=⟨_,rfl⟩
   rw[←hq,←hy1,←List.append_assoc]at hrel
   have hlen:P.length+(y1.length+q.length)<=1099511627776:=by
    have:=congrArg List.length hrel
    rw[List.length_append,List.length_append,List.length_append]at this
    omega
   have hqs:=bs_size q
   have hys:=bs_size y1
   have HQ:=hid hq
   have HY:=hid hy1
   have HOK:=hid hok
   have HCK:=hid hck
   have HREL2:=hid hrel
   have HV1:=hid hv1
   obtain⟨pl1,cl1,pf1,cf1,rfl,_,_,_⟩:=hasVal_mk.1 hv1
   obtain⟨d0,d1,d2,d3,d4,d5,d6⟩:=hc1.seven
   have hg1:=hc1.2.1
   clear hv1 hok hc1 hbwr hrel hq hck hy1
   subst hp1
   obtain⟨m1,hm1⟩:∃m1,m1=l1.length:=⟨_,rfl⟩
   obtain⟨m2,hm2⟩:∃m2,m2=f1.length:=⟨_,rfl⟩
   rw[←hm1,←hm2]at HV1
   rw[←hm1]at d5
   rw[←hm2]at d6
   clear hm1 hm2
   go_upto_region 24 with(fail)
   generalize hW2:World.alloc wr _=W2
   have hblk2:IsBlk W2 wr.heap.size #[.string (bs x1),.int .u8 (k1:Int),.bool b1,.int .i64 n1,.string (bs s1),.slice pl1 m1 cl1,.slice pf1 m2 cf1] 66:=by rw[←hW2];exact IsBlk.new _ _ _
   have hb2:Below wr.heap.size wr W2:=by rw[←hW2];exact(Below.refl _ _).alloc (Nat.le_refl _) _
   have hlt2:wr.heap.size<W2.heap.size:=hblk2.lt
   clear hW2 d0 d1 d2 d3 d4 d5 d6
   have HB2:=hid hb2;clear hb2
   have d0:W2.cell? ⟨wr.heap.size,0,none⟩=some (.string (bs x1)):=hblk2.cell rfl
   have d1:W2.cell? ⟨wr.heap.size,1,none⟩=some (.int .u8 (k1:Int)):=hblk2.cell rfl
   have d2:W2.cell? ⟨wr.heap.size,2,none⟩=some (.bool b1):=hblk2.cell rfl
   have d3:W2.cell? ⟨wr.heap.size,3,none⟩=some (.int .i64 n1):=hblk2.cell rfl
   have d4:W2.cell? ⟨wr.heap.size,4,none⟩=some (.string (bs s1)):=hblk2.cell rfl
   have d5:W2.cell? ⟨wr.heap.size,5,none⟩=some (.slice pl1 m1 cl1):=hblk2.cell rfl
   have d6:W2.cell? ⟨wr.heap.size,6,none⟩=some (.slice pf1 m2 cf1):=hblk2.cell rfl
   clear hblk2
   refine mix_start [] (Cls W2) (by kernel_rfl) (Cls.of ((Below.refl _ _).drew)) ?_
   refine mix_flt (by kernel_rfl) [0,1,2,4,5] 5 _ _ (by kernel_rfl) ?_
   simp only[opsAt,zo1,zo2,zo3,zo4,zo5]
   unfold Cls
   repeat(go_big_quiet_step (fail))
   refine wpQuiet_nil ?_
   (try rw[←Cls_def])
   refine mix_ch (i:=3) (fuel:=4) (by kernel_rfl) _ rfl (fun w1 hw1=>?_)
   go_wp2_with(go_at_call 123;refine(ref_bytes_any x1 _ (by omega)).mono ?_;rintro e' w' ⟨he,hb⟩;rw[←HY.out]at he;subst he)
   refine Then.same (hw1.trans hb) ?_
   refine mix_ch (i:=6) (fuel:=3) (by kernel_rfl) _ rfl (fun w1 hw1=>?_)
   go_wp2_with(go_at_call 89;refine(HOK.out _ S _ _ (HV1.out.ext (below_ext HB2.out hw1.below)) HCK.out (by rw[←HQ.out];omega)).mono ?_;rintro e' w' ⟨he,hb⟩;rw[←HQ.out]at he;subst he)
   refine Then.same (hw1.trans hb) ?_
   refine mix_flt (by kernel_rfl) [7,8,9] 0 _ _ (by kernel_rfl) ?_
   simp only[opsAt,zo1,zo2,zo3,zo4,zo5]
   unfold Cls
   repeat(go_big_quiet_step (fail))
   refine wpQuiet_nil ?_
   (try rw[←Cls_def])
   refine mix_end [] (by kernel_rfl) (fun w1 hw1=>?_)
   refine wpList_nil ?_
   refine Calm.normal ?_
   have HB1:=hid (below_ext HBW.out (below_ext HB2.out hw1.below))
   clear hb hw1 d0 d1 d2 d3 d4 d5 d6
   go_wp2
   go_roundw
   case rel=>exact⟨j+1,P++(y1++q),by go_num,by rw[bs_app,bs_app],by omega,HREL2.out,HB1.out⟩
   case measure=>simp[intOf];omega
  ·have hrel2:P=T:=by
    rw[List.drop_eq_nil_of_le (by rw[←HNF.out];omega),textF,List.append_nil]at hrel
    exact hrel
   clear hrel
   subst hrel2
   have c15:wr.cell? ⟨w.heap.size,5,none⟩=some (.slice pf nf cf):=(HD1.out.below HBW.out hlt1).cell rfl
   go_wp2_with fail
   go_at_call 121
   refine(ref_number_any nf _ (by omega)).mono ?_
   rintro e' w1 ⟨rfl,hb⟩
   have HB:=hid (Below.trans HB0.out ((below_ext HBW.out hb).mono (by omega)))
   clear hb c15
   go_wp2
   go_ret
   exact⟨by rw[HR2.out,←HT.out,bs_cons2W];rfl,HB.out⟩
theorem ref_text_all :∀(m:Nat) (v:DVal),SizeOf.sizeOf v<m->TextOk v:=by
 intro m
 induction m with
 |zero=>intro v h;omega
 |succ m ih=>
  intro v h
  obtain⟨k,b,n,s,l,f⟩:=v
  exact ref_text_step k b n s l f (fun v hv=>ih v (by have:=DVal.size_l (k:=k) (b:=b) (n:=n) (s:=s) (f:=f) v hv;omega)) (fun p hp=>ih p.2 (by have:=DVal.size_f (k:=k) (b:=b) (n:=n) (s:=s) (l:=l) p hp;omega))
theorem ref_text_any (v:DVal):TextOk v:=ref_text_all _ v (Nat.lt_succ_self _)
set_option maxHeartbeats 2000000 in
theorem ref_write_any (v:DVal) (S:Nat->Prop) (cs:List Value) (w:World) (hv:HasVal S w v cs) (hl:(textV v).length<=1099511627776):
 Calls Tryz.prog 56 #[.agg cs.toArray] w fun e' w'=>e'=.returned (.tuple #[.string (bs (wrP v).1),.int .i64 (wrP v).2])/\Below w.heap.size w w':=by
 have HV:=hid hv
 obtain⟨V,hV⟩:∃V,V=v:=⟨_,rfl⟩
 rw[←hV]at HV hl⊢
 obtain⟨T,hTx⟩:∃T,T=textV V:=⟨_,rfl⟩
 obtain⟨C,hC⟩:∃C,C=checkV 0 V:=⟨_,rfl⟩
 obtain⟨R,hR⟩:∃R,R=wrP V:=⟨_,rfl⟩
 rw[←hR]
 rw[wrP,←hTx,←hC]at hR
 rw[←hTx]at hl
 obtain⟨k,b,n,s,l,f⟩:=v
 obtain⟨pl,cl,pf,cf,rfl,_,_,_⟩:=hasVal_mk.1 hv
 clear hv hV
 have HTX:=hid hTx
 have HC:=hid hC
 have HR:=hid hR
 clear hTx hC hR
 obtain⟨nl,hnl⟩:∃nl,nl=l.length:=⟨_,rfl⟩
 obtain⟨nf,hnf⟩:∃nf,nf=f.length:=⟨_,rfl⟩
 show Calls Tryz.prog 56 #[.agg #[.int .u8 (k:Int),.bool b,.int .i64 n,.string (bs s),.slice pl l.length cl,.slice pf f.length cf]] w _
 rw[←hnl,←hnf]at HV⊢
 clear hnl hnf
 go_enter Tryz.func56,Tryz.ntmps56
 go_wp2_with fail
 go_at_call 82
 have hb1:Below w.heap.size w (w.alloc (.cells #[.int .u8 (k:Int),.bool b,.int .i64 n,.string (bs s),.slice pl nl cl,.slice pf nf cf] 52)):=(Below.refl _ _).alloc (Nat.le_refl _) _
 refine(ref_check_any V S _ _ (HV.out.ext hb1)).mono ?_
 rintro e' w1 ⟨he,hb⟩
 rw[←HC.out]at he
 subst he
 have hd1:IsBlk w1 w.heap.size #[.int .u8 (k:Int),.bool b,.int .i64 n,.string (bs s),.slice pl nl cl,.slice pf nf cf] 52:=(IsBlk.new w _ _).ext hb
 have hbw:=below_ext hb1 hb
 have c0:=hd1.cell (i:=0) rfl
 have c1:=hd1.cell (i:=1) rfl
 have c2:=hd1.cell (i:=2) rfl
 have c3:=hd1.cell (i:=3) rfl
 have c4:=hd1.cell (i:=4) rfl
 have c5:=hd1.cell (i:=5) rfl
 have HB:=hid hbw
 clear hb hb1 hbw hd1
 by_cases hc:C=0
 ·have hR2:R=if 16384<T.length then([],4)else(T,0):=by rw[HR.out,if_neg (by simpa using hc)]
  have HR2:=hid hR2
  have HC0:Hid (checkV 0 V=0):=hid (by rw[←HC.out,hc])
  clear hR2 HR HC
  subst hc
  have hsT:=bs_size T
  go_wp2_with fail
  go_at_call 89
  refine(ref_text_any V 0 S _ _ (HV.out.ext HB.out) HC0.out (by rw[←HTX.out];omega)).mono ?_
  rintro e' w2 ⟨he,hb⟩
  rw[←HTX.out]at he
  subst he
  have HB2:=hid (below_ext HB.out hb)
  clear hb c0 c1 c2 c3 c4 c5
  by_cases h16:16384<T.length
  ·have hI:(16384:Int)<(T.length:Int):=by omega
   have hr:=HR2.out
   rw[if_pos h16]at hr
   clear HR2 h16
   subst hr
   go_wp2
   go_ret2
   exact⟨rfl,HB2.out⟩
  ·have hI:(T.length:Int)<=16384:=by omega
   have hr:=HR2.out
   rw[if_neg h16]at hr
   clear HR2 h16
   subst hr
   go_wp2
   go_ret2
   exact⟨rfl,HB2.out⟩
 ·have hR2:R=([],C):=by rw[HR.out,if_pos (by simpa using hc)]
  have hcb:(C !=0)=true:=by simpa using hc
  clear HR
  subst hR2
  go_wp2
  go_ret2
  exact⟨rfl,HB.out⟩
theorem KeptGW.set6 {g:Nat} {w:World} (c0 c1 c2 c3 c4 c5:Value):KeptGW g w ((((((w.setCell ⟨g,0,none⟩ c0).setCell ⟨g,1,none⟩ c1).setCell ⟨g,2,none⟩ c2).setCell ⟨g,3,none⟩ c3).setCell ⟨g,4,none⟩ c4).setCell ⟨g,5,none⟩ c5):=
 ⟨by simp,fun b _ hne=>by
   have e:∀(W:World) (o:Nat) (u:Value),(W.setCell ⟨g,o,none⟩ u).heap[b]?=W.heap[b]?:=fun W o u=>Below.heap_setCell _ _ _ _ hne
   rw[e,e,e,e,e,e]⟩
theorem KeptGW.drew {g:Nat} {w w':World} (h:KeptGW g w w'):KeptGW g w w'.drew:=h
theorem repN_mem {α:Type} {p:α->Prop} {f:St->α×St} (hf:∀st,p (f st).1):∀(n:Nat) (st:St),∀a∈(repN f n st).1,p a
 |0,st,a,h=>by rw[repN_zero]at h;cases h
 |n+1,(l,false),a,h=>by
  rw[repN_more]at h
  rcases List.mem_cons.1 h with rfl|h
  ·exact hf _
  ·exact repN_mem hf n _ a h
 |n+1,(l,true),a,h=>by rw[repN_bad]at h;cases h
theorem valueP_rng :∀(k:Nat) (st:St),rngV (valueP k st).1:=by
 intro k
 have hz:rngV .zero:=⟨⟨by decide,by decide⟩,trivial,trivial⟩
 induction k with
 |zero=>intro st;exact hz
 |succ k ih=>
  rintro⟨l,bad⟩
  cases bad
  ·cases l with
   |nil=>exact hz
   |cons b l=>
    rw[valueP,if_neg (by decide)]
    have hzz:=zagN_range (numP (l,false)).1 (numP_lt _)
    by_cases h0:b=0
    ·rw[if_pos h0];exact hz
    rw[if_neg h0]
    by_cases h1:b=1
    ·rw[if_pos h1];exact⟨⟨by decide,by decide⟩,trivial,trivial⟩
    rw[if_neg h1]
    by_cases h2:b=2
    ·rw[if_pos h2];exact⟨⟨by decide,by decide⟩,trivial,trivial⟩
    rw[if_neg h2]
    by_cases h3:b=3
    ·rw[if_pos h3];exact⟨hzz,trivial,trivial⟩
    rw[if_neg h3]
    by_cases h4:b=4
    ·rw[if_pos h4];exact⟨⟨by decide,by decide⟩,trivial,trivial⟩
    rw[if_neg h4]
    by_cases h5:b=5
    ·rw[if_pos h5];exact⟨⟨by decide,by decide⟩,trivial,trivial⟩
    rw[if_neg h5]
    by_cases h6:b=6
    ·rw[if_pos h6];exact⟨⟨by decide,by decide⟩,rngL_mk (repN_mem ih _ _),trivial⟩
    rw[if_neg h6]
    by_cases h7:b=7
    ·rw[if_pos h7];exact⟨⟨by decide,by decide⟩,trivial,rngF_mk (repN_mem (p:=fun p:List UInt8×DVal=>rngV p.2) (fun st=>ih _) _ _)⟩
    rw[if_neg h7]
    exact hz
  ·exact hz
end Go.Proofs.YtcihbnpckicljaaGreatDoor
