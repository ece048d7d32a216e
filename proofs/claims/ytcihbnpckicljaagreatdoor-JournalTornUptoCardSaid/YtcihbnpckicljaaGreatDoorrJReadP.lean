/- The readers of revisions and blocks, state by state, and that they read what the plain laws say. No conditions. -/
import Derived.Test.YtcihbnpckicljaaGreatDoorrJBack
set_option linter.unusedVariables false
set_option linter.unusedSimpArgs false
namespace Go.Proofs.YtcihbnpckicljaaGreatDoor
open Go Go.RowKit Go.BigFrame
open Go.Lib(hid)
set_option maxRecDepth 100000
abbrev RSt :=List DVal×Bool
def nextP (k:Nat) (st:RSt):DVal×RSt:=
 match st.1 with
 |[]=>(.zero,([],true))
 |v::l=>if kindV v=k then(v,(l,st.2))else(.zero,(v::l,true))
def ofI (n:Int):Nat:=(n%18446744073709551616).toNat
def numbP (st:RSt):Nat×RSt:=(ofI (intV (nextP 2 st).1),((nextP 2 st).2.1,(nextP 2 st).2.2||decide (intV (nextP 2 st).1<0)))
def openedP (s:List UInt8) (n:Nat):RSt:=(listV (rdV s).1,decide ((rdV s).2≠0\/kindV (rdV s).1≠5\/(listV (rdV s).1).length≠n))
def rr1 (s:List UInt8):=numbP (openedP s 5)
def rr2 (s:List UInt8):=nextP 3 (rr1 s).2
def rr3 (s:List UInt8):=numbP (rr2 s).2
def rr4 (s:List UInt8):=numbP (rr3 s).2
def rrM (s:List UInt8):DRev×Bool:=(⟨min (rr1 s).1 5,strV (rr2 s).1,(rr3 s).1,(rr4 s).1,if(rr4 s).2.2 then .zero else(rr4 s).2.1.headD .zero⟩,!(rr4 s).2.2)
def rb1 (s:List UInt8):=numbP (openedP s 5)
def rb2 (s:List UInt8):=nextP 4 (rb1 s).2
def rb3 (s:List UInt8):=nextP 4 (rb2 s).2
def rb4 (s:List UInt8):=nextP 5 (rb3 s).2
def notTxt (l:List DVal):Bool:=l.any fun v=>decide (kindV v≠3)
def notRev (l:List DVal):Bool:=l.any fun v=>decide (kindV v≠4)||!(rrM (strV v)).2
def rb5 (s:List UInt8):=nextP 5 ((rb4 s).2.1,(rb4 s).2.2||notTxt (listV (rb4 s).1))
def rbB (s:List UInt8):DBlk:=⟨(rb1 s).1,strV (rb2 s).1,strV (rb3 s).1,(listV (rb4 s).1).map strV,(listV (rb5 s).1).map fun v=>(rrM (strV v)).1⟩
def rbBad (s:List UInt8):Bool:=(rb5 s).2.2||notRev (listV (rb5 s).1)
theorem next_ok {k:Nat} {st:RSt} (h:(nextP k st).2.2=false):∃v,st.1=v::(nextP k st).2.1/\(nextP k st).1=v/\kindV v=k/\st.2=false:=by
 obtain⟨l,b⟩:=st
 cases l with
 |nil=>simp[nextP]at h
 |cons v l=>
  unfold nextP at h⊢
  simp only at h⊢
  by_cases hk:kindV v=k
  ·rw[if_pos hk]at h⊢
   exact⟨v,rfl,rfl,hk,h⟩
  ·rw[if_neg hk]at h;cases h
theorem next_cons {k:Nat} {v:DVal} {l:List DVal} (h:kindV v=k):nextP k (v::l,false)=(v,(l,false)):=by
 unfold nextP
 simp only
 rw[if_pos h]
theorem ofI_pos {n:Int} (h0:0<=n) (h1:n<18446744073709551616):ofI n=n.toNat:=by unfold ofI;omega
theorem numb_ok {st:RSt} (h:(numbP st).2.2=false):∃v,st.1=v::(numbP st).2.1/\kindV v=2/\0<=intV v/\(numbP st).1=ofI (intV v)/\st.2=false:=by
 unfold numbP at h⊢
 simp only[Bool.or_eq_false_iff,decide_eq_false_iff_not]at h
 obtain⟨v,e1,e2,e3,e4⟩:=next_ok h.1
 exact⟨v,e1,e3,by rw[←e2];omega,by rw[←e2],e4⟩
theorem numb_cons {v:DVal} {l:List DVal} (h:kindV v=2) (h0:0<=intV v):numbP (v::l,false)=(ofI (intV v),(l,false)):=by
 unfold numbP
 rw[next_cons h]
 simp only[Bool.false_or]
 rw[decide_eq_false (by omega)]
theorem natV_of {v:DVal} (h:kindV v=2) (h0:0<=intV v) (hr:rngV v):natV v=some (ofI (intV v)):=by
 unfold natV
 rw[if_pos ⟨h,h0⟩,ofI_pos h0]
 obtain⟨k,b,n,s,l,f⟩:=v
 have:=hr.1
 show n<_
 omega
theorem natV_some {v:DVal} {n:Nat} (h:natV v=some n) (hr:rngV v):kindV v=2/\0<=intV v/\ofI (intV v)=n:=by
 have h2:=h
 unfold natV at h2
 by_cases hc:kindV v=2/\0<=intV v
 ·refine⟨hc.1,hc.2,?_⟩
  rw[natV_of hc.1 hc.2 hr]at h
  exact Option.some.inj h
 ·rw[if_neg hc]at h2;cases h2
theorem opened_false {s:List UInt8} {n:Nat} (h:(openedP s n).2=false):(rdV s).2=0/\kindV (rdV s).1=5/\(listV (rdV s).1).length=n:=by
 unfold openedP at h
 simp only[decide_eq_false_iff_not]at h
 omega
theorem rd_rng (s:List UInt8):rngV (rdV s).1:=by
 unfold rdV
 split
 ·exact⟨⟨by omega,by omega⟩,trivial,trivial⟩
 ·split
  ·exact⟨⟨by omega,by omega⟩,trivial,trivial⟩
  ·exact valueP_rng _ _
theorem rng_list {v:DVal} (h:rngV v):∀u∈listV v,rngV u:=by
 obtain⟨k,b,n,s,l,f⟩:=v
 exact rngL_mem h.2.1
theorem rrM_true {s:List UInt8} (h:(rrM s).2=true):readRevP s=some (rrM s).1:=by
 have h4:(rr4 s).2.2=false:=by
  unfold rrM at h
  simpa using h
 obtain⟨d,d1,d2,d3,d4,d5⟩:=numb_ok (show(numbP (rr3 s).2).2.2=false from h4)
 obtain⟨c,c1,c2,c3,c4,c5⟩:=numb_ok (show(numbP (rr2 s).2).2.2=false from d5)
 obtain⟨b,b1,b2,b3,b5⟩:=next_ok (show(nextP 3 (rr1 s).2).2.2=false from c5)
 obtain⟨a,a1,a2,a3,a4,a5⟩:=numb_ok (show(numbP (openedP s 5)).2.2=false from b5)
 obtain⟨o1,o2,o3⟩:=opened_false a5
 have e1:listV (rdV s).1=a::(rr1 s).2.1:=a1
 have e2:(rr1 s).2.1=b::(rr2 s).2.1:=b1
 have e3:(rr2 s).2.1=c::(rr3 s).2.1:=c1
 have e4:(rr3 s).2.1=d::(rr4 s).2.1:=d1
 rw[e2,e3,e4]at e1
 rw[e1]at o3
 have hl:(rr4 s).2.1.length=1:=by simp at o3;omega
 obtain⟨e,he⟩:=List.length_eq_one_iff.1 hl
 rw[he]at e1
 have hf:fiveP s=some (a,b,c,d,e):=by
  unfold fiveP
  rw[if_neg (by omega),e1]
 have hr:=rng_list (rd_rng s)
 rw[e1]at hr
 unfold readRevP rrM
 rw[hf]
 simp only
 rw[natV_of a2 a3 (hr a (by simp)),natV_of c2 c3 (hr c (by simp)),natV_of d2 d3 (hr d (by simp))]
 simp only
 rw[if_pos b3,h4,he,if_neg (by simp)]
 have f1:(rr1 s).1=ofI (intV a):=a4
 have f2:(rr2 s).1=b:=b2
 have f3:(rr3 s).1=ofI (intV c):=c4
 have f4:(rr4 s).1=ofI (intV d):=d4
 rw[f1,f2,f3,f4]
 rfl
theorem rrM_some {s:List UInt8} {r:DRev} (h:readRevP s=some r):(rrM s).2=true:=by
 unfold readRevP at h
 cases hf:fiveP s with
 |none=>rw[hf]at h;cases h
 |some q=>
  obtain⟨a,b,c,d,e⟩:=q
  rw[hf]at h
  simp only at h
  obtain⟨hz,hrd,_,_⟩:=five_ok hf
  have hr:=rd_rng s
  rw[hrd]at hr
  have hrl:=rngL_mem hr.2.1
  cases ha:natV a with
  |none=>rw[ha]at h;simp at h
  |some k=>
  cases hb:natV c with
  |none=>rw[ha,hb]at h;simp at h
  |some x=>
  cases hd:natV d with
  |none=>rw[ha,hb,hd]at h;simp at h
  |some y=>
  rw[ha,hb,hd]at h
  simp only at h
  by_cases hk:kindV b=3
  ·obtain⟨k1,k2,_⟩:=natV_some ha (hrl a (by simp))
   obtain⟨x1,x2,_⟩:=natV_some hb (hrl c (by simp))
   obtain⟨y1,y2,_⟩:=natV_some hd (hrl d (by simp))
   have ho:openedP s 5=([a,b,c,d,e],false):=by
    unfold openedP
    rw[hrd,hz]
    rfl
   have e1:rr1 s=(ofI (intV a),([b,c,d,e],false)):=by rw[rr1,ho,numb_cons k1 k2]
   have e2:rr2 s=(b,([c,d,e],false)):=by rw[rr2,e1,next_cons hk]
   have e3:rr3 s=(ofI (intV c),([d,e],false)):=by rw[rr3,e2,numb_cons x1 x2]
   have e4:rr4 s=(ofI (intV d),([e],false)):=by rw[rr4,e3,numb_cons y1 y2]
   unfold rrM
   rw[e4]
   rfl
  ·rw[if_neg hk]at h;cases h
theorem sts_some :∀{l:List DVal},notTxt l=false->stsP l=some (l.map strV)
 |[],_=>rfl
 |v::l,h=>by
  unfold notTxt at h
  rw[List.any_cons,Bool.or_eq_false_iff]at h
  have hk:kindV v=3:=by simpa using h.1
  rw[stsP,if_pos hk,sts_some (l:=l) h.2]
  rfl
theorem sts_none :∀{l:List DVal} {x:List (List UInt8)},stsP l=some x->notTxt l=false/\x=l.map strV
 |[],x,h=>by
  obtain rfl:=Option.some.inj h
  exact⟨rfl,rfl⟩
 |v::l,x,h=>by
  rw[stsP]at h
  by_cases hk:kindV v=3
  ·rw[if_pos hk]at h
   cases hs:stsP l with
   |none=>rw[hs]at h;cases h
   |some y=>
    rw[hs]at h
    obtain rfl:=Option.some.inj h
    obtain⟨h1,rfl⟩:=sts_none hs
    refine⟨?_,rfl⟩
    unfold notTxt at h1⊢
    rw[List.any_cons,h1,decide_eq_false (by simpa using hk)]
    rfl
  ·rw[if_neg hk]at h;cases h
theorem revs_some :∀{l:List DVal},notRev l=false->revsP l=some (l.map fun v=>(rrM (strV v)).1)
 |[],_=>rfl
 |v::l,h=>by
  unfold notRev at h
  rw[List.any_cons,Bool.or_eq_false_iff,Bool.or_eq_false_iff]at h
  have hk:kindV v=4:=by simpa using h.1.1
  have hr:(rrM (strV v)).2=true:=by simpa using h.1.2
  rw[revsP,rrM_true hr]
  simp only
  rw[if_pos hk,revs_some (l:=l) h.2]
  rfl
theorem revs_none :∀{l:List DVal} {x:List DRev},revsP l=some x->notRev l=false/\x=l.map fun v=>(rrM (strV v)).1
 |[],x,h=>by
  obtain rfl:=Option.some.inj h
  exact⟨rfl,rfl⟩
 |v::l,x,h=>by
  rw[revsP]at h
  cases hr:readRevP (strV v)with
  |none=>rw[hr]at h;cases h
  |some r=>
   rw[hr]at h
   simp only at h
   by_cases hk:kindV v=4
   ·rw[if_pos hk]at h
    cases hs:revsP l with
    |none=>rw[hs]at h;cases h
    |some y=>
     rw[hs]at h
     obtain rfl:=Option.some.inj h
     obtain⟨h1,rfl⟩:=revs_none hs
     have h2:=rrM_some hr
     have h3:=rrM_true h2
     rw[hr]at h3
     obtain rfl:=Option.some.inj h3
     refine⟨?_,rfl⟩
     unfold notRev at h1⊢
     rw[List.any_cons,h1,h2,decide_eq_false (by simpa using hk)]
     rfl
   ·rw[if_neg hk]at h;cases h
theorem rb_false {s:List UInt8} (h:rbBad s=false):openP s=some (rbB s):=by
 unfold rbBad at h
 rw[Bool.or_eq_false_iff]at h
 obtain⟨e,e1,e2,e3,e5⟩:=next_ok (show(nextP 5 ((rb4 s).2.1,(rb4 s).2.2||notTxt (listV (rb4 s).1))).2.2=false from h.1)
 rw[Bool.or_eq_false_iff]at e5
 obtain⟨d,d1,d2,d3,d5⟩:=next_ok (show(nextP 5 (rb3 s).2).2.2=false from e5.1)
 obtain⟨c,c1,c2,c3,c5⟩:=next_ok (show(nextP 4 (rb2 s).2).2.2=false from d5)
 obtain⟨b,b1,b2,b3,b5⟩:=next_ok (show(nextP 4 (rb1 s).2).2.2=false from c5)
 obtain⟨a,a1,a2,a3,a4,a5⟩:=numb_ok (show(numbP (openedP s 5)).2.2=false from b5)
 obtain⟨o1,o2,o3⟩:=opened_false a5
 have f1:listV (rdV s).1=a::(rb1 s).2.1:=a1
 have f2:(rb1 s).2.1=b::(rb2 s).2.1:=b1
 have f3:(rb2 s).2.1=c::(rb3 s).2.1:=c1
 have f4:(rb3 s).2.1=d::(rb4 s).2.1:=d1
 have f5:(rb4 s).2.1=e::(rb5 s).2.1:=e1
 rw[f2,f3,f4,f5]at f1
 rw[f1]at o3
 have hl:(rb5 s).2.1=[]:=by simpa using o3
 rw[hl]at f1
 have hf:fiveP s=some (a,b,c,d,e):=by
  unfold fiveP
  rw[if_neg (by omega),f1]
 have hr:=rng_list (rd_rng s)
 rw[f1]at hr
 have g1:(rb1 s).1=ofI (intV a):=a4
 have g2:(rb2 s).1=b:=b2
 have g3:(rb3 s).1=c:=c2
 have g4:(rb4 s).1=d:=d2
 have g5:(rb5 s).1=e:=e2
 unfold openP rbB
 rw[hf]
 simp only
 rw[g5]at h⊢
 rw[g4]at e5⊢
 rw[natV_of a2 a3 (hr a (by simp)),sts_some e5.2,revs_some h.2]
 simp only
 rw[if_pos ⟨b3,c3,d3,e3⟩,g1,g2,g3]
theorem rb_some {s:List UInt8} {b:DBlk} (h:openP s=some b):rbBad s=false:=by
 unfold openP at h
 cases hf:fiveP s with
 |none=>rw[hf]at h;cases h
 |some q=>
  obtain⟨a,p,c,d,e⟩:=q
  rw[hf]at h
  simp only at h
  obtain⟨hz,hrd,_,_⟩:=five_ok hf
  have hr:=rd_rng s
  rw[hrd]at hr
  have hrl:=rngL_mem hr.2.1
  cases ha:natV a with
  |none=>rw[ha]at h;simp at h
  |some k=>
  cases hx:stsP (listV d)with
  |none=>rw[ha,hx]at h;simp at h
  |some x=>
  cases hy:revsP (listV e)with
  |none=>rw[ha,hx,hy]at h;simp at h
  |some y=>
  rw[ha,hx,hy]at h
  simp only at h
  by_cases hk:kindV p=4/\kindV c=4/\kindV d=5/\kindV e=5
  ·obtain⟨q1,q2,q3,q4⟩:=hk
   obtain⟨k1,k2,_⟩:=natV_some ha (hrl a (by simp))
   have ho:openedP s 5=([a,p,c,d,e],false):=by
    unfold openedP
    rw[hrd,hz]
    rfl
   have e1:rb1 s=(ofI (intV a),([p,c,d,e],false)):=by rw[rb1,ho,numb_cons k1 k2]
   have e2:rb2 s=(p,([c,d,e],false)):=by rw[rb2,e1,next_cons q1]
   have e3:rb3 s=(c,([d,e],false)):=by rw[rb3,e2,next_cons q2]
   have e4:rb4 s=(d,([e],false)):=by rw[rb4,e3,next_cons q3]
   have e5:rb5 s=(e,([],false)):=by rw[rb5,e4,(sts_none hx).1];exact next_cons q4
   unfold rbBad
   rw[e5,(revs_none hy).1]
   rfl
  ·rw[if_neg hk]at h;cases h
theorem readB_rb (s:List UInt8):readB s=if rbBad s=true\/(wholeP (rbB s)).2≠0 then(.zero,11)else(rbB s,0):=by
 unfold readB
 by_cases hb:rbBad s=false
 ·rw[rb_false hb,hb]
  simp
 ·have:openP s=none:=by
   cases ho:openP s with
   |none=>rfl
   |some b=>exact absurd (rb_some ho) hb
  rw[this,if_pos (.inl (by simpa using hb))]
theorem vInt_len (n:Nat):(textV (vInt n)).length<=11:=by
 have:=numL_length (zigN (toI n))
 show(3::numL (zigN (toI n))).length<=11
 rw[List.length_cons]
 omega
theorem vTxt_len (s:List UInt8):(textV (vTxt s)).length<=11+s.length:=by
 have:=bytesL_length s
 show(4::bytesL s).length<=_
 rw[List.length_cons]
 omega
theorem vBlob_len (s:List UInt8):(textV (vBlob s)).length<=11+s.length:=by
 have:=bytesL_length s
 show(5::bytesL s).length<=_
 rw[List.length_cons]
 omega
theorem vList_len (l:List DVal):(textV (vList l)).length<=11+(textL l).length:=by
 have:=numL_length l.length
 show(6::(numL l.length++textL l)).length<=_
 rw[List.length_cons,List.length_append]
 omega
theorem textL_five (a b c d e:DVal):(textL [a,b,c,d,e]).length=(textV a).length+(textV b).length+(textV c).length+(textV d).length+(textV e).length:=by
 rw[textL,textL,textL,textL,textL,textL]
 simp only[List.length_append,List.length_nil]
 omega
theorem textL_txt :∀(l:List (List UInt8)) (m:Nat),(∀s∈l,s.length<=m)->(textL (l.map vTxt)).length<=l.length*(11+m)
 |[],m,_=>by simp[textL]
 |s::l,m,h=>by
  have h1:=textL_txt l m (fun x hx=>h x (by simp[hx]))
  have h2:=vTxt_len s
  have h3:=h s (by simp)
  rw[List.map_cons,textL,List.length_append,List.length_cons,Nat.add_mul]
  omega
theorem textL_blob :∀(l:List (List UInt8)) (m:Nat),(∀s∈l,s.length<=m)->(textL (l.map vBlob)).length<=l.length*(11+m)
 |[],m,_=>by simp[textL]
 |s::l,m,h=>by
  have h1:=textL_blob l m (fun x hx=>h x (by simp[hx]))
  have h2:=vBlob_len s
  have h3:=h s (by simp)
  rw[List.map_cons,textL,List.length_append,List.length_cons,Nat.add_mul]
  omega
theorem revV_len (r:DRev):(textV (revV r)).length<=200+r.t.length+(textV r.v).length:=by
 have h1:=vInt_len r.k
 have h2:=vTxt_len r.t
 have h3:=vInt_len r.d
 have h4:=vInt_len r.n
 have h5:=vList_len [vInt r.k,vTxt r.t,vInt r.d,vInt r.n,r.v]
 rw[textL_five]at h5
 unfold revV
 omega
def okR (r:DRev):Prop:=r.t.length<=1073741824/\(textV r.v).length<=549755813888
theorem okR.len {r:DRev} (h:okR r):(textV (revV r)).length<=1099511627776:=by
 have h1:=revV_len r
 have:=h.1
 have:=h.2
 omega
theorem stE_all :∀{l:List (List UInt8)},stE l=0->∀s∈l,s.length<=1024
 |s::l,h,x,hx=>by
  rw[stE]at h
  by_cases h1:utfE s≠0
  ·rw[if_pos h1]at h;exact absurd h h1
  ·rw[if_neg h1]at h
   rcases List.mem_cons.1 hx with rfl|hx
   ·unfold utfE at h1
    by_cases h2:1024<x.length
    ·rw[if_pos h2]at h1;exact absurd (by decide) h1
    ·omega
   ·exact stE_all h x hx
theorem parts_full {b:DBlk} (h:(partsP b).2=0):b.prev.length=32/\b.root.length=32/\b.sts.length<=64/\1<=b.revs.length/\b.revs.length<=64/\(∀s∈b.sts,s.length<=1024)/\(textsP b.revs).2=0/\partsP b=textsP b.revs/\(textsP b.revs).1.length=b.revs.length/\(∀s∈(textsP b.revs).1,s.length<=1024)/\1<=b.seq/\b.seq<=4611686018427387904:=by
 unfold partsP at h⊢
 by_cases h1:partsE b≠0
 ·rw[if_pos h1]at h;exact absurd h h1
 rw[if_neg h1]at h⊢
 have h2:partsE b=0:=by simpa using h1
 unfold partsE at h2
 by_cases g1:b.seq<1\/4611686018427387904<b.seq
 ·rw[if_pos g1]at h2;cases h2
 rw[if_neg g1]at h2
 by_cases g2:b.prev.length≠32\/b.root.length≠32
 ·rw[if_pos g2]at h2;cases h2
 rw[if_neg g2]at h2
 by_cases g3:64<b.sts.length\/b.revs.length<1\/64<b.revs.length
 ·rw[if_pos g3]at h2;cases h2
 rw[if_neg g3]at h2
 obtain⟨t1,t2⟩:=texts_ok h
 refine⟨by omega,by omega,by omega,by omega,by omega,stE_all h2,h,rfl,by rw[t2,List.length_map],?_,by omega,by omega⟩
 rw[t2]
 intro s hs
 obtain⟨r,hr,rfl⟩:=List.mem_map.1 hs
 exact(revT_ok (t1 r hr)).2.2.2
theorem blk_len {b:DBlk} (h:(partsP b).2=0):(textV (blkV b (textsP b.revs).1)).length<=200000:=by
 obtain⟨p1,p2,p3,p4,p5,p6,p7,_,p8,p9,_⟩:=parts_full h
 have h1:=vInt_len b.seq
 have h2:=vBlob_len b.prev
 have h3:=vBlob_len b.root
 have h4:=vList_len (b.sts.map vTxt)
 have h5:=textL_txt b.sts 1024 p6
 have h6:=vList_len ((textsP b.revs).1.map vBlob)
 have h7:=textL_blob (textsP b.revs).1 1024 p9
 have h8:=vList_len [vInt b.seq,vBlob b.prev,vBlob b.root,vList (b.sts.map vTxt),vList ((textsP b.revs).1.map vBlob)]
 rw[textL_five]at h8
 have h9:b.sts.length*(11+1024)<=64*(11+1024):=Nat.mul_le_mul_right _ p3
 have h10:(textsP b.revs).1.length*(11+1024)<=64*(11+1024):=Nat.mul_le_mul_right _ (by omega)
 unfold blkV
 omega
theorem sts_len {b:DBlk} (h:(partsP b).2=0):(textV (vList (b.sts.map vTxt))).length<=100000:=by
 obtain⟨p1,p2,p3,p4,p5,p6,_⟩:=parts_full h
 have h4:=vList_len (b.sts.map vTxt)
 have h5:=textL_txt b.sts 1024 p6
 have h9:b.sts.length*(11+1024)<=64*(11+1024):=Nat.mul_le_mul_right _ p3
 omega
theorem whole_parts {b:DBlk} (h:(wholeP b).2=0):(partsP b).2=0:=by
 unfold wholeP at h
 by_cases h1:(partsP b).2≠0
 ·rw[if_pos h1]at h;exact absurd h h1
 ·simpa using h1
theorem textL_mem :∀{l:List DVal} {v:DVal},v∈l->(textV v).length<=(textL l).length
 |u::l,v,h=>by
  rw[textL,List.length_append]
  rcases List.mem_cons.1 h with rfl|h
  ·omega
  ·have:=textL_mem h;omega
theorem rd_len (s:List UInt8):∀v∈listV (rdV s).1,(textV v).length<=16384:=by
 intro v hv
 by_cases h:(rdV s).2=0
 ·obtain⟨h1,h2⟩:=write_read h
  have h3:(wrP (rdV s).1).2=0:=by rw[h1]
  have h4:=(wrP_ok.1 h3).2
  generalize(rdV s).1=u at hv h4 h2
  by_cases hk:kindV u=5
  ·have h5:=is_list h2 hk
   rw[h5]at h4
   have h6:(textV (vList (listV u))).length=((6::(numL (listV u).length++textL (listV u))):List UInt8).length:=rfl
   rw[h6,List.length_cons,List.length_append]at h4
   have:=textL_mem hv
   omega
  ·obtain⟨k,b,n,x,l,f⟩:=u
   obtain⟨_,_,_,q,_⟩:=check_bare h2
   have:l=[]:=q hk
   subst this
   cases hv
 ·rw[rdV_zero h]at hv
  cases hv
theorem next_mem {k:Nat} {st:RSt}:∀v∈(nextP k st).2.1,v∈st.1:=by
 intro v hv
 obtain⟨l,b⟩:=st
 cases l with
 |nil=>cases hv
 |cons u l=>
  unfold nextP at hv
  simp only at hv
  by_cases h:kindV u=k
  ·rw[if_pos h]at hv;exact List.mem_cons_of_mem _ hv
  ·rw[if_neg h]at hv;exact hv
theorem numb_mem {st:RSt}:∀v∈(numbP st).2.1,v∈st.1:=fun v hv=>next_mem (k:=2) (st:=st) v hv
theorem rrM_len (s:List UInt8):(textV (rrM s).1.v).length<=16384:=by
 have hz:(textV DVal.zero).length<=16384:=by decide
 unfold rrM
 simp only
 by_cases h:(rr4 s).2.2=true
 ·rw[if_pos h];exact hz
 ·rw[if_neg h]
  cases hl:(rr4 s).2.1 with
  |nil=>exact hz
  |cons v l=>
   have h4:v∈(rr4 s).2.1:=by rw[hl];simp
   have m3:v∈(rr3 s).2.1:=numb_mem v h4
   have m2:v∈(rr2 s).2.1:=numb_mem v m3
   have m1:v∈(rr1 s).2.1:=next_mem v m2
   have m0:v∈(openedP s 5).1:=numb_mem v m1
   exact rd_len s v m0
theorem head_len (h:DHead):(textV (headV h)).length<=200+h.prev.length+h.root.length+h.sts.length:=by
 have h1:=vInt_len h.seq
 have h2:=vBlob_len h.prev
 have h3:=vBlob_len h.root
 have h4:=vInt_len h.revs
 have h6:=vBlob_len h.sts
 have h8:=vList_len [vInt h.seq,vBlob h.prev,vBlob h.root,vInt h.revs,vBlob h.sts]
 rw[textL_five]at h8
 unfold headV
 omega
end Go.Proofs.YtcihbnpckicljaaGreatDoor
