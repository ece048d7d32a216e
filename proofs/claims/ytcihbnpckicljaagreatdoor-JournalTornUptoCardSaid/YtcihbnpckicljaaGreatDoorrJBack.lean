/- A block's text is read as the block, and what is read has the text that was read. No conditions. -/
import Derived.Test.YtcihbnpckicljaaGreatDoorrJPure
import Derived.Test.YtcihbnpckicljaaGreatDoorrGR
set_option linter.unusedVariables false
set_option linter.unusedSimpArgs false
namespace Go.Proofs.YtcihbnpckicljaaGreatDoor
open Go Go.RowKit Go.BigFrame
open Go.Lib(hid)
set_option maxRecDepth 100000
theorem wrP_two (v:DVal):(wrP v).2=0\/(wrP v).1=[]:=by
 unfold wrP
 repeat' split
 ·exact .inr rfl
 ·exact .inr rfl
 ·exact .inl rfl
theorem toI_small {n:Nat} (h:n<9223372036854775808):toI n=n:=by unfold toI;rw[if_pos h]
theorem natV_int {n:Nat} (h:n<9223372036854775808):natV (vInt n)=some n:=by
 unfold natV vInt kindV intV
 rw[toI_small h]
 simp
theorem toI_rng (n:Nat) (h:n<18446744073709551616): -9223372036854775808<=toI n/\toI n<=9223372036854775807:=by
 unfold toI
 split<;>omega
theorem rng_vInt {n:Nat} (h:n<18446744073709551616):rngV (vInt n):=⟨toI_rng n h,trivial,trivial⟩
theorem rng_vTxt (s:List UInt8):rngV (vTxt s):=⟨⟨by omega,by omega⟩,trivial,trivial⟩
theorem rng_vBlob (s:List UInt8):rngV (vBlob s):=⟨⟨by omega,by omega⟩,trivial,trivial⟩
theorem rng_vList {l:List DVal} (h:∀v∈l,rngV v):rngV (vList l):=⟨⟨by omega,by omega⟩,rngL_mk h,trivial⟩
theorem rngL_mem :∀{l:List DVal},rngL l->∀v∈l,rngV v
 |v::l,h,u,hu=>by
  rcases List.mem_cons.1 hu with rfl|hu
  ·exact h.1
  ·exact rngL_mem h.2 u hu
def wfR (r:DRev):Prop:=r.k<256/\r.d<18446744073709551616/\r.n<18446744073709551616/\rngV r.v
def wfB (b:DBlk):Prop:=b.seq<18446744073709551616/\∀r∈b.revs,wfR r
theorem rng_revV {r:DRev} (h:wfR r):rngV (revV r):=rng_vList (fun v hv=>by
 simp only[List.mem_cons,List.not_mem_nil,or_false]at hv
 rcases hv with rfl|rfl|rfl|rfl|rfl
 ·exact rng_vInt (by have:=h.1;omega)
 ·exact rng_vTxt _
 ·exact rng_vInt h.2.1
 ·exact rng_vInt h.2.2.1
 ·exact h.2.2.2)
theorem five_text {a b c d e:DVal} (h:(wrP (vList [a,b,c,d,e])).2=0) (hr:rngV (vList [a,b,c,d,e])):fiveP (wrP (vList [a,b,c,d,e])).1=some (a,b,c,d,e):=by
 unfold fiveP
 rw[read_text h hr]
 rfl
theorem revT_ok {r:DRev} (h:(revT r).2=0):checkR r=0/\(wrP (revV r)).2=0/\(revT r).1=(wrP (revV r)).1/\(revT r).1.length<=1024:=by
 unfold revT at h⊢
 by_cases h1:checkR r≠0
 ·rw[if_pos h1]at h;exact absurd h h1
 ·rw[if_neg h1]at h⊢
  by_cases h2:(wrP (revV r)).2≠0\/1024<(wrP (revV r)).1.length
  ·rw[if_pos h2]at h;cases h
  ·rw[if_neg h2]
   exact⟨by simpa using h1,by omega,rfl,by show(wrP (revV r)).1.length<=1024;omega⟩
theorem checkR_ok {r:DRev} (h:checkR r=0):(1<=r.k/\r.k<=4)/\r.t≠[]/\utfE r.t=0/\r.d<=4611686018427387904/\r.n<=4611686018427387904/\(r.k<3->r.d=0/\r.n=0)/\checkV 0 r.v=0/\wantK r.k=some (kindV r.v):=by
 unfold checkR at h
 cases hw:wantK r.k with
 |none=>rw[hw]at h;cases h
 |some q=>
  rw[hw]at h
  simp only at h
  by_cases h1:r.t=[]
  ·rw[if_pos h1]at h;cases h
  rw[if_neg h1]at h
  by_cases h2:utfE r.t≠0
  ·rw[if_pos h2]at h;exact absurd h h2
  rw[if_neg h2]at h
  by_cases h3:4611686018427387904<max r.d r.n\/(r.k<3/\0<max r.d r.n)
  ·rw[if_pos h3]at h;cases h
  rw[if_neg h3]at h
  by_cases h4:checkV 0 r.v≠0
  ·rw[if_pos h4]at h;exact absurd h h4
  rw[if_neg h4]at h
  by_cases h5:kindV r.v≠q
  ·rw[if_pos h5]at h;cases h
  have hk:1<=r.k/\r.k<=4:=by
   unfold wantK at hw
   by_cases e1:r.k=1
   ·omega
   by_cases e2:r.k=2
   ·omega
   by_cases e3:r.k=3
   ·omega
   by_cases e4:r.k=4
   ·omega
   rw[if_neg e1,if_neg e2,if_neg e3,if_neg e4]at hw
   cases hw
  refine⟨hk,h1,by simpa using h2,by omega,by omega,fun hk3=>by omega,by simpa using h4,?_⟩
  rw[show kindV r.v=q by simpa using h5]
theorem readRev_text {r:DRev} (h:(revT r).2=0) (hw:wfR r):readRevP (revT r).1=some r:=by
 obtain⟨h1,h2,h3,_⟩:=revT_ok h
 obtain⟨hk,_,_,hd,hn,_⟩:=checkR_ok h1
 rw[h3,readRevP,revV,five_text h2 (rng_revV hw)]
 simp only[natV_int (show r.k<9223372036854775808 by omega),natV_int (show r.d<9223372036854775808 by omega),natV_int (show r.n<9223372036854775808 by omega)]
 rw[if_pos (show kindV (vTxt r.t)=3 from rfl),show min r.k 5=r.k by omega]
 rfl
theorem sts_text :∀l:List (List UInt8),stsP (l.map vTxt)=some l
 |[]=>rfl
 |s::l=>by
  rw[List.map_cons,stsP,if_pos (show kindV (vTxt s)=3 from rfl),sts_text l]
  rfl
theorem texts_ok :∀{l:List DRev},(textsP l).2=0->(∀r∈l,(revT r).2=0)/\(textsP l).1=l.map fun r=>(revT r).1
 |[],_=>⟨by simp,rfl⟩
 |r::l,h=>by
  rw[textsP]at h⊢
  by_cases h1:(revT r).2≠0
  ·rw[if_pos h1]at h;exact absurd h h1
  rw[if_neg h1]at h⊢
  by_cases h2:(textsP l).2≠0
  ·rw[if_pos h2]at h;exact absurd h h2
  rw[if_neg h2]
  obtain⟨h3,h4⟩:=texts_ok (l:=l) (by simpa using h2)
  refine⟨fun x hx=>?_,by rw[h4];rfl⟩
  rcases List.mem_cons.1 hx with rfl|hx
  ·simpa using h1
  ·exact h3 x hx
theorem texts_of :∀{l:List DRev},(∀r∈l,(revT r).2=0)->textsP l=(l.map fun r=>(revT r).1,0)
 |[],_=>rfl
 |r::l,h=>by
  rw[textsP,if_neg (by simpa using h r (by simp)),texts_of (l:=l) (fun x hx=>h x (by simp[hx]))]
  rfl
theorem revs_text :∀{l:List DRev},(∀r∈l,(revT r).2=0/\wfR r)->revsP ((l.map fun r=>(revT r).1).map vBlob)=some l
 |[],_=>rfl
 |r::l,h=>by
  obtain⟨h1,h2⟩:=h r (by simp)
  rw[List.map_cons,List.map_cons,revsP]
  have:strV (vBlob (revT r).1)=(revT r).1:=rfl
  rw[this,readRev_text h1 h2,revs_text (l:=l) (fun x hx=>h x (by simp[hx]))]
  rfl
theorem whole_ok {b:DBlk} (h:(wholeP b).2=0):partsE b=0/\(textsP b.revs).2=0/\(partsP b).1=(textsP b.revs).1/\rootL (textsP b.revs).1=b.root/\(wrP (blkV b (textsP b.revs).1)).2=0/\wholeP b=wrP (blkV b (textsP b.revs).1):=by
 unfold wholeP at h⊢
 by_cases h1:(partsP b).2≠0
 ·rw[if_pos h1]at h;exact absurd h h1
 rw[if_neg h1]at h⊢
 by_cases h2:rootL (partsP b).1≠b.root
 ·rw[if_pos h2]at h;cases h
 rw[if_neg h2]at h⊢
 have h3:partsE b=0:=by
  by_cases h3:partsE b≠0
  ·unfold partsP at h1
   rw[if_pos h3]at h1
   exact absurd h3 h1
  ·simpa using h3
 have h4:partsP b=textsP b.revs:=by unfold partsP;rw[if_neg (by simpa using h3)]
 rw[h4]at h h1 h2⊢
 exact⟨h3,by simpa using h1,rfl,by simpa using h2,h,rfl⟩
theorem parts_ok {b:DBlk} (h:partsE b=0):(1<=b.seq/\b.seq<=4611686018427387904)/\b.prev.length=32/\b.root.length=32/\b.sts.length<=64/\1<=b.revs.length/\b.revs.length<=64/\stE b.sts=0:=by
 unfold partsE at h
 by_cases h1:b.seq<1\/4611686018427387904<b.seq
 ·rw[if_pos h1]at h;cases h
 rw[if_neg h1]at h
 by_cases h2:b.prev.length≠32\/b.root.length≠32
 ·rw[if_pos h2]at h;cases h
 rw[if_neg h2]at h
 by_cases h3:64<b.sts.length\/b.revs.length<1\/64<b.revs.length
 ·rw[if_pos h3]at h;cases h
 rw[if_neg h3]at h
 omega
theorem rng_blkV {b:DBlk} (h:b.seq<18446744073709551616) (l:List (List UInt8)):rngV (blkV b l):=rng_vList (fun v hv=>by
 simp only[List.mem_cons,List.not_mem_nil,or_false]at hv
 rcases hv with rfl|rfl|rfl|rfl|rfl
 ·exact rng_vInt h
 ·exact rng_vBlob _
 ·exact rng_vBlob _
 ·exact rng_vList (fun v hv=>by obtain⟨s,_,rfl⟩:=List.mem_map.1 hv;exact rng_vTxt s)
 ·exact rng_vList (fun v hv=>by obtain⟨s,_,rfl⟩:=List.mem_map.1 hv;exact rng_vBlob s))
theorem readB_text {b:DBlk} (h:(wholeP b).2=0) (hw:wfB b):readB (wholeP b).1=(b,0):=by
 obtain⟨h1,h2,h3,h4,h5,h6⟩:=whole_ok h
 obtain⟨⟨hs1,hs2⟩,_⟩:=parts_ok h1
 obtain⟨ht,hl⟩:=texts_ok h2
 have ho:openP (wholeP b).1=some b:=by
  rw[h6,openP]
  have hf:=five_text (a:=vInt b.seq) (b:=vBlob b.prev) (c:=vBlob b.root) (d:=vList (b.sts.map vTxt)) (e:=vList ((textsP b.revs).1.map vBlob)) h5 (rng_blkV hw.1 _)
  show(match fiveP (wrP (vList [vInt b.seq,vBlob b.prev,vBlob b.root,vList (b.sts.map vTxt),vList ((textsP b.revs).1.map vBlob)])).1 with
   |some (a,b,c,d,e)=>match natV a,stsP (listV d),revsP (listV e)with
    |some n,some x,some y=>if kindV b=4/\kindV c=4/\kindV d=5/\kindV e=5 then some (⟨n,strV b,strV c,x,y⟩:DBlk)else none
    |_,_,_=>none
   |none=>none)=some b
  rw[hf]
  have e1:listV (vList (b.sts.map vTxt))=b.sts.map vTxt:=rfl
  have e2:listV (vList ((textsP b.revs).1.map vBlob))=(textsP b.revs).1.map vBlob:=rfl
  simp only[e1,e2,natV_int (show b.seq<9223372036854775808 by omega),sts_text]
  rw[hl,revs_text (fun r hr=>⟨ht r hr,hw.2 r hr⟩)]
  rfl
 unfold readB
 rw[ho]
 simp only[h,ne_eq,not_true_eq_false,if_false]
theorem readB_err (s:List UInt8):((readB s).2=0/\openP s=some (readB s).1/\(wholeP (readB s).1).2=0)\/readB s=(.zero,11):=by
 unfold readB
 cases h:openP s with
 |none=>exact .inr rfl
 |some b=>
  simp only
  by_cases h1:(wholeP b).2≠0
  ·rw[if_pos h1];exact .inr rfl
  ·rw[if_neg h1];exact .inl ⟨rfl,rfl,by simpa using h1⟩
theorem check_bare {d k:Nat} {b:Bool} {n:Int} {s:List UInt8} {l:List DVal} {f:List (List UInt8×DVal)} (h:checkV d (.mk k b n s l f)=0):
 (k≠1->b=false)/\(k≠2->n=0)/\(k≠3->k≠4->s=[])/\(k≠5->l=[])/\(k≠6->f=[])/\checkL (d+1) l=0:=by
 rw[checkV]at h
 obtain⟨h0,h⟩:=orE_0 h
 obtain⟨hl,hf⟩:=orE_0 h
 obtain⟨hk7,hbare,hs,hu,hll,hlf,hdep⟩:=why0_ok h0
 obtain⟨p1,p2,p3,p4,p5⟩:=bare_shape hbare
 exact⟨p1,p2,p3,fun hk=>List.eq_nil_of_length_eq_zero (p4 hk),fun hk=>List.eq_nil_of_length_eq_zero (p5 hk),hl⟩
theorem checkL_all {d:Nat}:∀{l:List DVal},checkL d l=0->∀v∈l,checkV d v=0
 |v::l,h,u,hu=>by
  rw[checkL]at h
  obtain⟨h1,h2⟩:=orE_0 h
  rcases List.mem_cons.1 hu with rfl|hu
  ·exact h1
  ·exact checkL_all h2 u hu
theorem is_list {d:Nat} {v:DVal} (h:checkV d v=0) (hk:kindV v=5):v=vList (listV v):=by
 obtain⟨k,b,n,s,l,f⟩:=v
 obtain rfl:k=5:=hk
 obtain⟨h1,h2,h3,_,h5,_⟩:=check_bare h
 rw[h1 (by omega),h2 (by omega),h3 (by omega) (by omega),h5 (by omega)]
 rfl
theorem is_txt {d:Nat} {v:DVal} (h:checkV d v=0) (hk:kindV v=3):v=vTxt (strV v):=by
 obtain⟨k,b,n,s,l,f⟩:=v
 obtain rfl:k=3:=hk
 obtain⟨h1,h2,_,h4,h5,_⟩:=check_bare h
 rw[h1 (by omega),h2 (by omega),h4 (by omega),h5 (by omega)]
 rfl
theorem is_blob {d:Nat} {v:DVal} (h:checkV d v=0) (hk:kindV v=4):v=vBlob (strV v):=by
 obtain⟨k,b,n,s,l,f⟩:=v
 obtain rfl:k=4:=hk
 obtain⟨h1,h2,_,h4,h5,_⟩:=check_bare h
 rw[h1 (by omega),h2 (by omega),h4 (by omega),h5 (by omega)]
 rfl
theorem is_int {d n:Nat} {v:DVal} (h:checkV d v=0) (hk:natV v=some n) (hn:n<9223372036854775808):v=vInt n:=by
 obtain⟨k,b,i,s,l,f⟩:=v
 unfold natV kindV intV at hk
 simp only at hk
 by_cases hc:k=2/\0<=i
 ·rw[if_pos hc]at hk
  obtain rfl:=Option.some.inj hk
  obtain⟨rfl,h0⟩:=hc
  obtain⟨h1,_,h3,h4,h5,_⟩:=check_bare h
  rw[h1 (by omega),h3 (by omega) (by omega),h4 (by omega),h5 (by omega)]
  unfold vInt
  rw[toI_small hn]
  have:((i.toNat:Nat):Int)=i:=by omega
  rw[this]
 ·rw[if_neg hc]at hk;cases hk
theorem five_ok {s:List UInt8} {a b c d e:DVal} (h:fiveP s=some (a,b,c,d,e)):(rdV s).2=0/\(rdV s).1=vList [a,b,c,d,e]/\wrP (vList [a,b,c,d,e])=(s,0)/\∀v∈[a,b,c,d,e],checkV 1 v=0:=by
 unfold fiveP at h
 by_cases hc:(rdV s).2≠0\/kindV (rdV s).1≠5
 ·rw[if_pos hc]at h;cases h
 rw[if_neg hc]at h
 have h0:(rdV s).2=0:=by
  by_cases h0:(rdV s).2=0
  ·exact h0
  ·exact absurd (.inl h0) hc
 have h5:kindV (rdV s).1=5:=by
  by_cases h5:kindV (rdV s).1=5
  ·exact h5
  ·exact absurd (.inr h5) hc
 obtain⟨hw,hck⟩:=write_read h0
 have hl:=is_list hck h5
 generalize hL:listV (rdV s).1=L at h hl
 match L,h with
 |[a',b',c',d',e'],h=>
  obtain⟨rfl,rfl,rfl,rfl,rfl⟩:a'=a/\b'=b/\c'=c/\d'=d/\e'=e:=by
   simp only[Option.some.injEq,Prod.mk.injEq]at h
   exact h
  refine⟨h0,hl,by rw[←hl];exact hw,?_⟩
  rw[hl]at hck
  obtain⟨_,_,_,_,_,h6⟩:=check_bare hck
  exact checkL_all h6
theorem natV_lt {v:DVal} {n:Nat} (h:natV v=some n) (hr:rngV v):n<9223372036854775808:=by
 obtain⟨k,b,i,s,l,f⟩:=v
 unfold natV kindV intV at h
 simp only at h
 by_cases hc:k=2/\0<=i
 ·rw[if_pos hc]at h
  obtain rfl:=Option.some.inj h
  have:=hr.1
  omega
 ·rw[if_neg hc]at h;cases h
theorem sts_inv {d:Nat}:∀{l:List DVal} {x:List (List UInt8)},stsP l=some x->(∀v∈l,checkV d v=0)->l=x.map vTxt
 |[],x,h,_=>by
  obtain rfl:=Option.some.inj h
  rfl
 |v::l,x,h,hc=>by
  rw[stsP]at h
  by_cases hk:kindV v=3
  ·rw[if_pos hk]at h
   cases hs:stsP l with
   |none=>rw[hs]at h;cases h
   |some y=>
    rw[hs]at h
    obtain rfl:=Option.some.inj h
    rw[List.map_cons,←is_txt (hc v (by simp)) hk,←sts_inv hs (fun u hu=>hc u (by simp[hu]))]
  ·rw[if_neg hk]at h;cases h
theorem rev_inv {s:List UInt8} {r:DRev} (h:readRevP s=some r) (hr:rngV (rdV s).1):wfR r/\(r.k<5->wrP (revV r)=(s,0)):=by
 unfold readRevP at h
 cases hf:fiveP s with
 |none=>rw[hf]at h;cases h
 |some q=>
  obtain⟨a,b,c,d,e⟩:=q
  rw[hf]at h
  simp only at h
  obtain⟨_,hrd,hw,hc⟩:=five_ok hf
  rw[hrd]at hr
  have hrl:=rngL_mem hr.2.1
  cases ha:natV a with
  |none=>rw[ha]at h;simp at h
  |some k=>
  cases hb:natV c with
  |none=>rw[ha,hb]at h;simp at h
  |some x=>
  cases hd:natV d with
  |none=>rw[ha,hb,hd]at h;simp at h
  |some y=>
  rw[ha,hb,hd]at h
  simp only at h
  by_cases hk:kindV b=3
  ·rw[if_pos hk]at h
   obtain rfl:=Option.some.inj h
   have l1:=natV_lt ha (hrl a (by simp))
   have l2:=natV_lt hb (hrl c (by simp))
   have l3:=natV_lt hd (hrl d (by simp))
   refine⟨⟨by show min k 5<256;omega,by show x<_;omega,by show y<_;omega,hrl e (by simp)⟩,fun hk5=>?_⟩
   have hk5':min k 5<5:=hk5
   have hkk:min k 5=k:=by omega
   unfold revV
   simp only
   rw[hkk,←is_int (hc a (by simp)) ha l1,←is_int (hc c (by simp)) hb l2,←is_int (hc d (by simp)) hd l3,←is_txt (hc b (by simp)) hk]
   exact hw
  ·rw[if_neg hk]at h;cases h
theorem revs_inv {d:Nat}:∀{l:List DVal} {x:List DRev},revsP l=some x->(∀v∈l,checkV d v=0)->(∀v∈l,rngV (rdV (strV v)).1)→
 (∀r∈x,wfR r)/\((∀r∈x,(revT r).2=0)->l=(x.map fun r=>(revT r).1).map vBlob)
 |[],x,h,_,_=>by
  obtain rfl:=Option.some.inj h
  exact⟨by simp,fun _=>rfl⟩
 |v::l,x,h,hc,hr=>by
  rw[revsP]at h
  cases hs:readRevP (strV v)with
  |none=>rw[hs]at h;cases h
  |some r=>
   rw[hs]at h
   simp only at h
   by_cases hk:kindV v=4
   ·rw[if_pos hk]at h
    cases hl:revsP l with
    |none=>rw[hl]at h;cases h
    |some y=>
     rw[hl]at h
     obtain rfl:=Option.some.inj h
     obtain⟨h1,h2⟩:=revs_inv hl (fun u hu=>hc u (by simp[hu])) (fun u hu=>hr u (by simp[hu]))
     obtain⟨h3,h4⟩:=rev_inv hs (hr v (by simp))
     refine⟨fun z hz=>?_,fun hz=>?_⟩
     ·rcases List.mem_cons.1 hz with rfl|hz
      ·exact h3
      ·exact h1 z hz
     ·rw[List.map_cons,List.map_cons,←h2 (fun z hz'=>hz z (by simp[hz']))]
      have hr0:=hz r (by simp)
      obtain⟨q1,q2,q3,_⟩:=revT_ok hr0
      obtain⟨q4,_⟩:=checkR_ok q1
      rw[q3,h4 (by omega),←is_blob (hc v (by simp)) hk]
   ·rw[if_neg hk]at h;cases h
theorem whole_read {s:List UInt8} (h:(readB s).2=0) (hr:∀t,rngV (rdV t).1):wholeP (readB s).1=(s,0)/\wfB (readB s).1:=by
 rcases readB_err s with⟨_,ho,hw⟩|hz
 case inr=>rw[hz]at h;cases h
 generalize readB s=b at ho hw h
 generalize b.1=b at ho hw
 obtain⟨h1,h2,h3,h4,h5,h6⟩:=whole_ok hw
 unfold openP at ho
 cases hf:fiveP s with
 |none=>rw[hf]at ho;cases ho
 |some q=>
  obtain⟨a,p,c,d,e⟩:=q
  rw[hf]at ho
  simp only at ho
  obtain⟨_,hrd,hwr,hc⟩:=five_ok hf
  have hrs:=hr s
  rw[hrd]at hrs
  have hrl:=rngL_mem hrs.2.1
  cases ha:natV a with
  |none=>rw[ha]at ho;simp at ho
  |some n=>
  cases hx:stsP (listV d)with
  |none=>rw[ha,hx]at ho;simp at ho
  |some x=>
  cases hy:revsP (listV e)with
  |none=>rw[ha,hx,hy]at ho;simp at ho
  |some y=>
  rw[ha,hx,hy]at ho
  simp only at ho
  by_cases hk:kindV p=4/\kindV c=4/\kindV d=5/\kindV e=5
  ·rw[if_pos hk]at ho
   obtain rfl:=Option.some.inj ho
   obtain⟨k1,k2,k3,k4⟩:=hk
   have l1:=natV_lt ha (hrl a (by simp))
   obtain⟨ht,hl⟩:=texts_ok h2
   have hd:=is_list (hc d (by simp)) k3
   have he:=is_list (hc e (by simp)) k4
   have hcd:∀v∈listV d,checkV 2 v=0:=by
    have h9:=hc d (by simp)
    rw[hd]at h9
    exact checkL_all (check_bare h9).2.2.2.2.2
   have hce:∀v∈listV e,checkV 2 v=0:=by
    have h9:=hc e (by simp)
    rw[he]at h9
    exact checkL_all (check_bare h9).2.2.2.2.2
   obtain⟨g1,g2⟩:=revs_inv hy hce (fun v _=>hr _)
   refine⟨?_,⟨by show n<_;omega,g1⟩⟩
   rw[h6,hl]
   unfold blkV
   simp only
   rw[←sts_inv hx hcd,←g2 ht,←is_int (hc a (by simp)) ha l1,←is_blob (hc p (by simp)) k1,←is_blob (hc c (by simp)) k2,←hd,←he]
   exact hwr
  ·rw[if_neg hk]at ho;cases ho
end Go.Proofs.YtcihbnpckicljaaGreatDoor
