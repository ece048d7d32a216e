/- JournalOwn, walked. Conditions: the rows lie in memory, the revisions' texts no longer than 2^39 bytes; the tables read as the text lays them. -/
import Derived.Test.YtcihbnpckicljaaGreatDoorrJOwnO
import Derived.Test.YtcihbnpckicljaaGreatDoorrJIs
import Derived.Test.YtcihbnpckicljaaGreatDoorrJTornP
set_option linter.unusedVariables false
set_option linter.unusedSimpArgs false
namespace Go.Proofs.YtcihbnpckicljaaGreatDoor
open Go Go.RowKit Go.BigFrame
open Go.Lib(hid)
set_option maxRecDepth 100000
def Typed (gA B E n:Nat) (w:World):Prop:=∀i,i<n->∃pf nf cf,w.cell? ⟨gA,i*10+9,none⟩=some (.slice pf nf cf)/\nf<=1073741824/\(nf=0\/∃gf cur,pf=some ⟨gf,0,none⟩/\B<=gf/\gf<E/\gf≠gA/\IsBlk w gf cur 66/\nf*7<=cur.size)
theorem accO_typed {B:Nat} {w:World} {p:Option Addr} {c:Nat} {l:List DRev} (h:Acc HasRevO B 54 10 w (.slice p l.length c) l) (h0:0<l.length):∃gA,p=some ⟨gA,0,none⟩/\B<=gA/\gA<w.heap.size/\Typed gA B w.heap.size l.length w:=by
 have hcopy:=h
 obtain⟨css,h1,_,_⟩:=hcopy
 rcases h1.2 with⟨_,e⟩|⟨g,cap,cur,e,hB,hg,_⟩
 ·omega
 obtain⟨e1,_,_⟩:=Value.slice.inj e
 subst e1
 have hgb:IsBlk w g cur 54:=hg
 refine⟨g,rfl,hB,hgb.lt,fun i hi=>?_⟩
 obtain⟨p',c',hv,_,_,hc⟩:=h.cells relRO (S:=fun b=>B<=b) (fun b hb=>hb)
 obtain⟨e1,_,_⟩:=Value.slice.inj hv
 obtain⟨g',cs,hp,hcell,hrev,hfo⟩:=hc i hi
 rw[←e1]at hp
 obtain rfl:g=g':=by simpa using hp
 obtain⟨cs',rfl,_,hval⟩:=hrev
 generalize l[i].v=v at hval
 obtain⟨k,b,n,s,vl,vf⟩:=v
 obtain⟨pl,cl,pf,cf,rfl,hvb,_⟩:=hasVal_mk.1 hval
 refine⟨pf,vf.length,cf,?_,hvb.2.2.2.2.2.1,?_⟩
 ·have:=hcell.2.2 9 (by simp)
  rw[Nat.zero_add]at this
  simpa using this
 ·rcases hfo pf vf.length cf (by simp)with h2|⟨gf,cur2,e2,hB2,hb2,hz2⟩
  ·exact .inl h2
  ·refine .inr ⟨gf,cur2,e2,hB2,hb2.lt,fun e=>?_,hb2,hz2⟩
   subst e
   have h3:=(show w.heap[gf]?=_ from hgb).symm.trans hb2
   injection h3 with h3
   injection h3 with _ h3 _
   exact absurd h3 (by decide)
structure KeepO (gA B1 E:Nat) (w5 w:World):Prop where
 out:∀z,z<B1\/E<=z->w.heap[z]?=w5.heap[z]?
 row:w.heap[gA]?=w5.heap[gA]?
 blk:∀g cur,g≠gA->IsBlk w5 g cur 66->∃cur',IsBlk w g cur' 66/\cur'.size=cur.size
 size:w.heap.size=w5.heap.size
theorem KeepO.refl (gA B1 E:Nat) (w:World):KeepO gA B1 E w w:=⟨fun _ _=>rfl,rfl,fun g cur _ h=>⟨cur,h,rfl⟩,rfl⟩
theorem KeepO.set {gA B1 E:Nat} {w5 w:World} (h:KeepO gA B1 E w5 w) {g o:Nat} (v:Value) (h1:B1<=g) (h2:g<E) (h3:g≠gA):KeepO gA B1 E w5 (w.setCell ⟨g,o,none⟩ v) where
 out:=fun z hz=>(Below.heap_setCell _ _ _ _ (show z≠g by omega)).trans (h.out z hz)
 row:=(Below.heap_setCell _ _ _ _ (show gA≠g from fun e=>h3 e.symm)).trans h.row
 blk:=fun g' cur hg hb=>by
  obtain⟨cur',e1,e2⟩:=h.blk g' cur hg hb
  by_cases hgg:g'=g
  ·subst hgg
   exact⟨_,e1.set o v,by simpa using e2⟩
  ·exact⟨cur',e1.set_other (a:=⟨g,o,none⟩) (show g≠g' from fun e=>hgg e.symm) v,e2⟩
 size:=by rw[←h.size];simp
theorem row_low {S:Nat->Prop} {w:World} {p:Option Addr} {l:List DRev} (h:RowIn HasRev 10 S w p l):RowIn HasRev 10 (fun b=>S b/\b<w.heap.size) w p l:=fun i hi=>by
 obtain⟨g,o,cs,e1,e2,e3⟩:=h i hi
 exact⟨g,o,cs,e1,⟨⟨e2.1,e2.2.1⟩,e2.2⟩,relR.lt e3⟩
set_option maxHeartbeats 16000000 in
theorem ownl_any (revs:List DRev) (sts:List (List UInt8)) (S Ss:Nat->Prop) (pr ps:Option Addr) (cr cp:Nat) (w:World) (hr:RowIn HasRev 10 S w pr revs) (hrn:revs.length<=1048576) (hk:∀r∈revs,okR r)
 (hs:HasS Ss w ps sts) (hs1:sts.length<=cp) (hs2:cp<=maxLen) (hs3:sts.length<=1048576) (hs4:∀s∈sts,s.length<=1048576) (hT:U8T w) (hK:Ks w):
 Calls Tryz.prog 7 #[.slice pr revs.length cr,.slice ps sts.length cp] w fun e' w'=>e'=.returned (.bool true)/\Below w.heap.size w w':=by
 have HT:=hid hT
 have HK:=hid hK
 have HR:=hid (row_low hr)
 have HLV:Hid (∀W,Below w.heap.size w W->Calls Tryz.prog 14 #[] W fun e' w'=>e'=.returned (.bool true)/\Below W.heap.size W w'):=hid (fun W hb=>lives_any W (U8T_ext hT hb) (hK.ext hb))
 have HCP:Hid (∀W,Below w.heap.size w W->Calls Tryz.prog 28 #[.slice pr revs.length cr] W (RevsOutO W revs)):=hid (fun W h=>rcopyRevsO_any revs S pr cr W (hr.ext relR h) (by omega))
 obtain⟨M,hM⟩:∃M,M=makeP 1 zero32 sts revs:=⟨_,rfl⟩
 have HMK:Hid (∀(W:World) (p5:Option Addr) (c5:Nat) (S5:Nat->Prop),Below w.heap.size w W->RowIn HasRevO 10 S5 W p5 revs->revs.length<=c5->c5<=maxLen->Calls Tryz.prog 29 #[.int .u64 1,.string (bs zero32),.slice ps sts.length cp,.slice p5 revs.length c5] W (BlkOutO W M)):=hid (fun W p5 c5 S5 h h5 h6 h7=>by
  rw[hM]
  have h8:RowIn HasRevO 10 (fun _=>True) W p5 revs:=h5.kept relRO (fun _ _=>trivial) (fun _ _ _=>rfl)
  exact makeO_p 1 zero32 sts revs (fun _=>True) ps p5 cp c5 W ⟨_,_,_,_,rfl,⟨(show(1:Nat)<18446744073709551616 by decide),(show zero32.length<=1073741824 by decide),(show zero32.length<=1073741824 by decide),Nat.le_trans hs3 (by decide),Nat.le_trans hrn (by decide),hs1,hs2,h6,h7,fun s hs=>Nat.le_trans (hs4 s hs) (by decide)⟩,(hs.ext h).ext_to (fun _ _=>trivial) (fun _ _ _=>rfl),row_rev h8⟩ h8 hk (U8T_ext hT h) (hK.ext h))
 have hm0:(M.2=0/\M.1.revs=revs/\(wholeP M.1).2=0)\/(M.2≠0/\M.1.revs=[]):=by
  by_cases h0:M.2=0
  ·refine .inl ⟨h0,?_⟩
   rw[hM]at h0⊢
   obtain⟨h1,h2⟩:=makeP_ok h0
   exact⟨by rw[h1],h2⟩
  ·refine .inr ⟨h0,?_⟩
   rw[hM]at h0⊢
   unfold makeP at h0⊢
   by_cases h1:makeE 1 zero32 sts revs≠0
   ·rw[if_pos h1];rfl
   ·rw[if_neg h1]at h0;exact absurd rfl h0
 have HOK:=hid hk
 obtain⟨n,hnn⟩:∃n,n=revs.length:=⟨_,rfl⟩
 have HN:=hid hnn
 clear hr hk hs hs4 hT hK hM hnn
 obtain⟨⟨mq,mp,mr,ms,mv⟩,mw⟩:=M
 simp only at hm0
 have HM0:=hid hm0
 clear hm0
 go_enter Tryz.func7,Tryz.ntmps7
 go_wp2_with fail
 go_at_call 14
 refine(HLV.out _ (Below.refl _ _)).mono ?_
 rintro e' w1 ⟨rfl,hb1⟩
 have HB1:=hid hb1
 clear hb1
 go_wp2_with fail
 go_at_call 28
 refine(HCP.out _ HB1.out).mono ?_
 rintro e' w2 ⟨p5,c5,rfl,hc5,hr5,hb2⟩
 have HB2:=hid (below_ext HB1.out hb2)
 have HR5:=hid hr5
 have HG5:=hid (row_low (row_rev hr5))
 clear hb2 hr5
 go_wp2_with fail
 go_at_call 22
 refine(first6_any w2).mono ?_
 rintro e' w3 ⟨rfl,hb3⟩
 have hs23:=hb3.size
 have HB3:=hid (below_ext HB2.out hb3)
 have HR53:=hid (HR5.out.ext relRO hb3)
 have HG53:=hid (HG5.out.ext relR hb3)
 clear hb3
 go_wp2_with fail
 go_at_call 29
 refine(HMK.out _ _ _ _ HB3.out HR53.out hc5.1 hc5.2).mono ?_
 rintro e' w4 ⟨cs6,rfl,hk6,ho6,hb4⟩
 simp only at hk6 ho6
 have hk6':=hk6
 obtain⟨ps6,cp6,pr6,cr6,rfl,_⟩:=hk6'
 simp only
 have hs34:=hb4.size
 have HB4:=hid (below_ext HB3.out hb4)
 have HR54:=hid (HR53.out.ext relRO hb4)
 have HG54:=hid (HG53.out.ext relR hb4)
 have HO6:=hid ho6
 clear hb4 hk6 ho6
 go_upto_region 5 with(fail)
 generalize hW5:World.alloc w4 _=w5
 have hb5:Below w4.heap.size w4 w5:=by rw[←hW5];exact(Below.refl _ _).alloc (Nat.le_refl _) _
 have hd5:IsBlk w5 w4.heap.size #[.int .u64 (mq:Int),.string (bs mp),.string (bs mr),.slice ps6 ms.length cp6,.slice pr6 mv.length cr6] 28:=by rw[←hW5];exact IsBlk.new _ _ _
 obtain⟨b6,hb6⟩:∃b,b=w4.heap.size:=⟨_,rfl⟩
 rw[←hb6]at hd5
 rw[←hb6]
 have HE:=hid hb6
 have HB5:=hid (below_ext HB4.out hb5)
 have HB45:=hid hb5
 have HR55:=hid (HR54.out.ext relRO hb5)
 have HG55:=hid (HG54.out.ext relR hb5)
 have HD5:=hid hd5
 clear hW5 hb5 hd5 hb6
 go_wp2_with fail
 go_at_call 22
 refine(first6_any w5).mono ?_
 rintro e' w6 ⟨rfl,hb6⟩
 have HB6:=hid (below_ext HB5.out hb6)
 have HB46:=hid (below_ext HB45.out hb6)
 have HR56:=hid (HR55.out.ext relRO hb6)
 have HG56:=hid (HG55.out.ext relR hb6)
 have HD6:=hid (HD5.out.ext hb6)
 clear hb6
 go_wp2_with fail
 go_at_call 29
 refine(HMK.out _ _ _ _ HB6.out HR56.out hc5.1 hc5.2).mono ?_
 rintro e' w7 ⟨cs8,rfl,hk8,_,hb7⟩
 simp only at hk8
 have hk8':=hk8
 obtain⟨ps8,cp8,pr8,cr8,rfl,_⟩:=hk8'
 simp only
 have HB7:=hid (below_ext HB6.out hb7)
 have HB47:=hid (below_ext HB46.out hb7)
 have HG57:=hid (HG56.out.ext relR hb7)
 have HD7:=hid (HD6.out.ext hb7)
 clear hb7
 go_upto_region 6 with(fail)
 generalize hW8:World.alloc w7 _=w8
 have hb8:Below w7.heap.size w7 w8:=by rw[←hW8];exact(Below.refl _ _).alloc (Nat.le_refl _) _
 have hd8:IsBlk w8 w7.heap.size #[.int .u64 (mq:Int),.string (bs mp),.string (bs mr),.slice ps8 ms.length cp8,.slice pr8 mv.length cr8] 28:=by rw[←hW8];exact IsBlk.new _ _ _
 obtain⟨b8,hb8'⟩:∃b,b=w7.heap.size:=⟨_,rfl⟩
 rw[←hb8']at hd8
 rw[←hb8']
 have HB8:=hid (below_ext HB7.out hb8)
 have hb48:=below_ext HB47.out hb8
 have HB48:=hid hb48
 have HG58:=hid (HG57.out.ext relR hb8)
 have hd6:=HD7.out.ext hb8
 have HD6':=hid hd6
 have HD8:=hid hd8
 have HK8:=hid (hk8.ext hb8)
 have hE8:b6<=b8:=by have h1:=HE.out;have h2:=HB47.out.size;omega
 have hE6:w4.heap.size<=w6.heap.size:=HB46.out.size
 have hlt6:=hd6.lt
 have hty:∃gA B',w3.heap.size<=B'/\(0<mv.length->pr6=some ⟨gA,0,none⟩/\B'<=gA/\gA<w4.heap.size)/\Typed gA B' w4.heap.size mv.length w8:=by
  rcases HM0.out with⟨h0,_⟩|⟨_,h1⟩
  ·obtain⟨_,_,v5,e,B',hBB,hac⟩:=HO6.out h0
   simp only[List.cons.injEq,and_true,true_and]at e
   obtain⟨_,e⟩:=e
   subst e
   rcases Nat.eq_zero_or_pos mv.length with hz|hz
   ·exact⟨0,w3.heap.size,Nat.le_refl _,fun h=>by omega,fun i hi=>by omega⟩
   ·obtain⟨gA,e1,e2,e3,e4⟩:=accO_typed hac hz
    refine⟨gA,B',hBB,fun _=>⟨e1,e2,e3⟩,fun i hi=>?_⟩
    obtain⟨pf,nf,cf,c1,c0,c2⟩:=e4 i hi
    refine⟨pf,nf,cf,(hb48.cell (p:=⟨gA,i*10+9,none⟩) e3).trans c1,c0,?_⟩
    rcases c2 with c2|⟨gf,cur,a1,a2,a3,a4,a5,a6⟩
    ·exact .inl c2
    ·exact .inr ⟨gf,cur,a1,a2,a3,a4,a5.ext hb48,a6⟩
  ·rw[h1]
   exact⟨0,w3.heap.size,Nat.le_refl _,fun h=>by simp at h,fun i hi=>by simp at hi⟩
 obtain⟨gA,B',hBB,hPA,hTY⟩:=hty
 have HPA:=hid hPA
 have HTY:=hid hTY
 clear hPA hTY
 clear hW8 hb8 hd8 hb8' hb48 hk8 hd6
 have hmv20:mv.length<=1048576:=by
  rcases HM0.out with⟨_,h1,_⟩|⟨_,h1⟩
  ·rw[h1];exact hrn
  ·rw[h1];simp
 obtain⟨nm,hnm⟩:∃k,k=mv.length:=⟨_,rfl⟩
 rw[←hnm]at hmv20
 rw[←hnm]at HPA HTY
 have HNM:=hid hnm
 have hD6:IsBlk w8 b6 #[.int .u64 (mq:Int),.string (bs mp),.string (bs mr),.slice ps6 ms.length cp6,.slice pr6 nm cr6] 28:=by rw[hnm];exact HD6'.out
 have HD6N:=hid hD6
 have hE46:w4.heap.size<=b6:=by have:=HE.out;omega
 have hs38:w3.heap.size<=w8.heap.size:=by omega
 have x0:=hD6.cell (i:=0) rfl
 have x1:=hD6.cell (i:=1) rfl
 have x2:=hD6.cell (i:=2) rfl
 have x3:=hD6.cell (i:=3) rfl
 have x4:=hD6.cell (i:=4) rfl
 clear hnm hD6
 go_wp2
 clear x0 x1 x2 x3 x4
 go_loopw [33] (fun b wr=>∃i:Nat,b=.int .i64 (i:Int)/\i<=nm/\KeepO gA w3.heap.size w4.heap.size w8 wr/\Below w.heap.size w wr) (fun b _=>nm-(intOf b).toNat)
 case atStart=>exact⟨0,rfl,Nat.zero_le _,KeepO.refl _ _ _ _,HB8.out⟩
 case round=>
 obtain⟨i,rfl,hi,hkp,hbw⟩:=hrel
 have HKP:=hid hkp
 have HBW:=hid hbw
 by_cases hlt:i<nm
 ·obtain⟨hp,hBg,hgE⟩:=HPA.out (by omega)
  subst hp
  obtain⟨pf,nf,cf,hc9,hnf30,hf⟩:=HTY.out i hlt
  have HC9:=hid hc9
  have HF:=hid hf
  have hd6:IsBlk wr b6 #[.int .u64 (mq:Int),.string (bs mp),.string (bs mr),.slice ps6 ms.length cp6,.slice (some ⟨gA,0,none⟩) nm cr6] 28:=(hkp.out b6 (.inr hE46)).trans HD6N.out
  have hl6:=hd6.lt
  have hgw:gA<wr.heap.size:=by rw[hkp.size];have:=HB48.out.size;omega
  have c9:wr.cell? ⟨gA,i*10+9,none⟩=some (.slice pf nf cf):=by
   have h1:=hc9
   unfold World.cell? at h1⊢
   rw[hkp.row]
   exact h1
  have x0:=hd6.cell (i:=0) rfl
  have x1:=hd6.cell (i:=1) rfl
  have x2:=hd6.cell (i:=2) rfl
  have x3:=hd6.cell (i:=3) rfl
  have x4:=hd6.cell (i:=4) rfl
  clear hkp hbw hc9 hf hd6
  obtain⟨wO,hwO⟩:∃W,W=wr:=⟨_,rfl⟩
  subst hwO
  go_wp2
  clear x0 x1 x2 x3 x4 c9
  go_loopw [44] (fun b wr=>∃k:Nat,b=.int .i64 (k:Int)/\k<=nf/\KeepO gA w3.heap.size w4.heap.size w8 wr/\Below w.heap.size w wr) (fun b _=>nf-(intOf b).toNat)
  case atStart=>exact⟨0,rfl,Nat.zero_le _,HKP.out,HBW.out⟩
  case round=>
  obtain⟨k,rfl,hk,hkq,hbq⟩:=hrel
  have HKQ:=hid hkq
  have HBQ:=hid hbq
  by_cases hkl:k<nf
  ·have hd6:IsBlk wr b6 #[.int .u64 (mq:Int),.string (bs mp),.string (bs mr),.slice ps6 ms.length cp6,.slice (some ⟨gA,0,none⟩) nm cr6] 28:=(hkq.out b6 (.inr hE46)).trans HD6N.out
   have hl6:=hd6.lt
   have hgw2:gA<wr.heap.size:=by rw[hkq.size];have:=HB48.out.size;omega
   have c9:wr.cell? ⟨gA,i*10+9,none⟩=some (.slice pf nf cf):=by
    have h1:=HC9.out
    unfold World.cell? at h1⊢
    rw[hkq.row]
    exact h1
   rcases HF.out with h0|⟨gf,cur,hpf,hBf,hfE,hfA,hfb,hfz⟩
   ·omega
   subst hpf
   obtain⟨cur',hcb,hcz⟩:=hkq.blk gf cur hfA hfb
   have hks:k*7<cur'.size:=by omega
   have z0:=hcb.cell (i:=k*7) (Array.getElem?_eq_getElem hks)
   have y0:=hcb.frozen (k*7)
   have hlf:=hcb.lt
   have HKS:=hid (hkq.set (o:=k*7) (.string (bs [115,112,111,105,108,116])) (show w3.heap.size<=gf by omega) hfE hfA)
   have HBS:Hid (Below w.heap.size w (wr.setCell ⟨gf,k*7,none⟩ (.string (bs [115,112,111,105,108,116])))):=hid (below_set hbq (by have:=HB3.out.size;omega))
   have x0:=hd6.cell (i:=0) rfl
   have x1:=hd6.cell (i:=1) rfl
   have x2:=hd6.cell (i:=2) rfl
   have x3:=hd6.cell (i:=3) rfl
   have x4:=hd6.cell (i:=4) rfl
   clear hkq hbq hd6 hfb hcb
   go_wp2
   clear x0 x1 x2 x3 x4 c9 z0 y0
   go_roundw
   case rel=>exact⟨k+1,by go_num,hkl,HKS.out,HBS.out⟩
   case measure=>simp[intOf];omega
  obtain rfl:k=nf:=by omega
  clear hkq hbq
  go_wp2
  go_roundw
  case rel=>exact⟨i+1,by go_num,hlt,HKQ.out,HBQ.out⟩
  case measure=>simp[intOf];omega
 obtain rfl:i=nm:=by omega
 have hw1:∀z,z<w2.heap.size->wr.heap[z]?=w8.heap[z]?:=fun z hz=>hkp.out z (.inl (by omega))
 have hrg:RowIn HasRev 10 (fun _=>True) wr p5 revs:=HG58.out.kept relR (fun _ _=>trivial) (fun z hz _=>hw1 z hz.2)
 have hrr:RowIn HasRev 10 (fun _=>True) wr pr revs:=(HR.out.ext relR HB8.out).kept relR (fun _ _=>trivial) (fun z hz _=>hw1 z (by have h1:=hz.2;have h2:=HB2.out.size;omega))
 have hkb:HasBlk (fun _=>True) wr ⟨mq,mp,mr,ms,mv⟩ [.int .u64 (mq:Int),.string (bs mp),.string (bs mr),.slice ps8 ms.length cp8,.slice pr8 mv.length cr8]:=HasBlk.kept HK8.out (fun _ _=>trivial) (fun z hz _=>hkp.out z (.inr (by have h1:w6.heap.size<=z:=hz;omega)))
 have hd8:IsBlk wr b8 #[.int .u64 (mq:Int),.string (bs mp),.string (bs mr),.slice ps8 ms.length cp8,.slice pr8 mv.length cr8] 28:=(hkp.out b8 (.inr (by omega))).trans HD8.out
 have hl8:=hd8.lt
 have HRG:=hid hrg
 have HRR:=hid hrr
 have HKB:=hid hkb
 have HSR1:Hid (∀W,Below wr.heap.size wr W->Calls Tryz.prog 30 #[.slice p5 revs.length c5,.slice pr revs.length cr] W fun e' w'=>e'=.returned (.bool true)/\Below W.heap.size W w'):=hid (fun W hb=>by
  have h:=sameRevs_any revs revs _ _ p5 pr c5 cr W (HRG.out.ext relR hb) (HRR.out.ext relR hb) (by omega) (by omega)
  rw[eqv_self]at h
  exact h)
 have hmw:(mw==mw)=true:=by simp
 clear hw1 hrg hrr hkb hkp hbw
 rcases HM0.out with⟨h0,hmv,hwh⟩|⟨h0,_⟩
 case inr=>
  have hqb:(mw !=0)=true:=by rw[bne_iff_ne];exact h0
  clear h0 hd8
  go_wp2_with fail
  go_at_call 30
  refine(HSR1.out _ (Below.refl _ _)).mono ?_
  rintro e' v1 ⟨rfl,hv1⟩
  have HV1:=hid (below_ext HBW.out hv1)
  clear hv1
  go_wp2
  go_ret
  exact⟨rfl,HV1.out⟩
 subst h0
 subst hmv
 have HSR2:Hid (∀W,Below wr.heap.size wr W->Calls Tryz.prog 30 #[.slice pr8 mv.length cr8,.slice pr mv.length cr] W fun e' w'=>e'=.returned (.bool true)/\Below W.heap.size W w'):=hid (fun W hb=>by
  obtain⟨_,_,_,_,e,_,_,hrb⟩:=HKB.out
  simp only[List.cons.injEq,Value.slice.injEq,true_and,and_true]at e
  obtain⟨_,rfl,rfl⟩:=e
  have h:=sameRevs_any mv mv _ _ pr8 pr cr8 cr W (hrb.ext relR hb) (HRR.out.ext relR hb) (by omega) (by omega)
  rw[eqv_self]at h
  exact h)
 have HCK:Hid (∀W,Below wr.heap.size wr W->Calls Tryz.prog 31 #[.agg #[.int .u64 (mq:Int),.string (bs mp),.string (bs mr),.slice ps8 ms.length cp8,.slice pr8 mv.length cr8]] W fun e' w'=>e'=.returned (.int .i64 0)/\Below W.heap.size W w'):=hid (fun W hb=>by
  have h:=check_p ⟨mq,mp,mr,ms,mv⟩ _ _ W (HKB.out.ext hb) HOK.out (U8T_ext (U8T_ext HT.out HBW.out) hb) ((HK.out.ext HBW.out).ext hb)
  rw[hwh]at h
  exact h)
 have HD8':=hid hd8
 clear hd8 hwh
 go_wp2_with fail
 go_at_call 30
 refine(HSR1.out _ (Below.refl _ _)).mono ?_
 rintro e' v1 ⟨rfl,hv1⟩
 have HV1:=hid hv1
 have hd8:=HD8'.out.ext hv1
 have hl81:=hd8.lt
 have x0:=hd8.cell (i:=0) rfl
 have x1:=hd8.cell (i:=1) rfl
 have x2:=hd8.cell (i:=2) rfl
 have x3:=hd8.cell (i:=3) rfl
 have x4:=hd8.cell (i:=4) rfl
 clear hv1 hd8
 go_wp2_with fail
 go_at_call 30
 refine(HSR2.out _ HV1.out).mono ?_
 rintro e' v2 ⟨rfl,hv2⟩
 have HV2:=hid (below_ext HV1.out hv2)
 have hd8:=HD8'.out.ext (below_ext HV1.out hv2)
 have hl82:=hd8.lt
 clear x0 x1 x2 x3 x4
 have x0:=hd8.cell (i:=0) rfl
 have x1:=hd8.cell (i:=1) rfl
 have x2:=hd8.cell (i:=2) rfl
 have x3:=hd8.cell (i:=3) rfl
 have x4:=hd8.cell (i:=4) rfl
 clear hv2 hd8
 go_wp2_with fail
 go_at_call 31
 refine(HCK.out _ HV2.out).mono ?_
 rintro e' v3 ⟨rfl,hv3⟩
 have HV3:=hid (below_ext HBW.out (below_ext HV2.out hv3))
 clear x0 x1 x2 x3 x4 hv3
 go_wp2
 go_ret
 exact⟨rfl,HV3.out⟩
end Go.Proofs.YtcihbnpckicljaaGreatDoor
