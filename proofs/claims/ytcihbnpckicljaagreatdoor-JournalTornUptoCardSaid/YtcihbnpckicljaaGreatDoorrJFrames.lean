/- journal.frames: what frames are handed to a round, one by one. Conditions: bytes no more than 2^30; sha's table reads as the text lays it. -/
import Derived.Test.YtcihbnpckicljaaGreatDoorrJMixR
import Derived.Sort.CutIn
set_option linter.unusedVariables false
set_option linter.unusedSimpArgs false
namespace Go.Proofs.YtcihbnpckicljaaGreatDoor
open Go Go.RowKit Go.BigFrame Go.Shelf
open Go.Lib(hid)
set_option maxRecDepth 100000
attribute [local go_sem] Oper.semAt_some
abbrev FX :Type:={x:Nat×List UInt8//x.1<=1073741824/\x.2.length<=1073741824}
def mkF (a:Nat) (t:List UInt8):FX:=if h:a<=1073741824/\t.length<=1073741824 then⟨(a,t),h⟩else⟨(0,[]),by simp⟩
theorem mkF_ok {a:Nat} {t:List UInt8} (h1:a<=1073741824) (h2:t.length<=1073741824):(mkF a t).1=(a,t):=by
 unfold mkF
 rw[dif_pos ⟨h1,h2⟩]
def encF (x:FX):Array Value:= #[.int .i64 (x.1.1:Int),.string (bs x.1.2)]
def framesF :Nat->List UInt8->Nat->List FX
 |0,_,_=>[]
 |f+1,s,at'=>match stepP (s.drop at')with
  |none=>[]
  |some t=>mkF (at'+12+t.length) t::framesF f s (at'+12+t.length)
def KeptS (n0 b:Nat) (W W':World):Prop:=W.heap.size<=W'.heap.size/\(∀k,k<n0->W'.heap[k]?=W.heap[k]?)/\W'.heap[b]?=W.heap[b]?
theorem KeptS.refl (n0 b:Nat) (W:World):KeptS n0 b W W:=⟨Nat.le_refl _,fun _ _=>rfl,rfl⟩
theorem KeptS.trans {n0 b:Nat} {A B C:World} (h:KeptS n0 b A B) (k:KeptS n0 b B C):KeptS n0 b A C:=⟨Nat.le_trans h.1 k.1,fun i hi=>(k.2.1 i hi).trans (h.2.1 i hi),k.2.2.trans h.2.2⟩
theorem KeptS.cell {n0 b o:Nat} {A B:World} (h:KeptS n0 b A B):B.cell? ⟨b,o,none⟩=A.cell? ⟨b,o,none⟩:=by
 unfold World.cell?
 rw[h.2.2]
theorem KeptS.ks {n0 b:Nat} {A B:World} (h:KeptS n0 b A B) (hn:0<n0) (hK:Ks A):Ks B:=by
 obtain⟨t,fr,e⟩:=hK
 exact⟨t,fr,(h.2.1 _ hn).trans e⟩
theorem KeptS.of_below {n0 b:Nat} {A B:World} (h:Below A.heap.size A B) (hn:n0<=A.heap.size) (hb:b<A.heap.size):KeptS n0 b A B:=⟨h.size,fun k hk=>h.block k (by omega),h.block b hb⟩
theorem grown_of {A B:World} (h:Below A.heap.size A B):A.grownBy B none:=⟨h.os,h.tape,h.output,h.size,fun k hk _=>h.block k hk⟩
theorem or_i64 (a b:Nat) (ha:a<1099511627776) (hb:b<1099511627776):bits .or .i64 (a:Int) (b:Int)=((a|||b:Nat):Int):=by
 have hx:a|||b<2^40:=Nat.or_lt_two_pow (by omega) (by omega)
 have h1:(BitVec.ofInt 64 (a:Int)).toNat=a:=by
  rw[BitVec.ofInt_natCast,BitVec.toNat_ofNat];exact Nat.mod_eq_of_lt (by omega)
 have h2:(BitVec.ofInt 64 (b:Int)).toNat=b:=by
  rw[BitVec.ofInt_natCast,BitVec.toNat_ofNat];exact Nat.mod_eq_of_lt (by omega)
 show IntKind.i64.wrap ((BitVec.ofInt 64 (a:Int)|||BitVec.ofInt 64 (b:Int)).toNat:Int)=_
 rw[BitVec.toNat_or,h1,h2,IntKind.wrap_i64]
 omega
theorem or_join (a x i:Nat) (ha:a<2^i) (hx:x*2^i<1099511627776) (ha2:a<1099511627776):bits .or .i64 (a:Int) ((x:Int)*((2^i:Nat):Int))=((a+x*2^i:Nat):Int):=by
 have e:(x:Int)*((2^i:Nat):Int)=((x*2^i:Nat):Int):=by rw[Int.natCast_mul]
 rw[e,or_i64 _ _ ha2 hx]
 congr 1
 rw[Nat.or_comm,Nat.mul_comm,←Nat.two_pow_add_eq_or_of_lt ha,Nat.add_comm]
theorem or_four (a b c d:Nat) (ha:a<256) (hb:b<256) (hc:c<256) (hd:d<256):bits .or .i64 (bits .or .i64 (bits .or .i64 (a:Int) ((b:Int)*256)) ((c:Int)*65536)) ((d:Int)*16777216)=((a+256*b+65536*c+16777216*d:Nat):Int):=by
 have e1:bits .or .i64 (a:Int) ((b:Int)*256)=((a+b*256:Nat):Int):=or_join a b 8 (by omega) (by omega) (by omega)
 have e2:bits .or .i64 ((a+b*256:Nat):Int) ((c:Int)*65536)=((a+b*256+c*65536:Nat):Int):=or_join (a+b*256) c 16 (by omega) (by omega) (by omega)
 have e3:bits .or .i64 ((a+b*256+c*65536:Nat):Int) ((d:Int)*16777216)=((a+b*256+c*65536+d*16777216:Nat):Int):=or_join (a+b*256+c*65536) d 24 (by omega) (by omega) (by omega)
 rw[e1,e2,e3]
 congr 1
 omega
set_option maxHeartbeats 8000000 in
theorem frames1_in (n:Nat) (hn:1<=n) (l Bs n0:Nat) (s:List UInt8) (hs:s.length<=1073741824) (J Jx:List FX->World->Prop) (W:World) (hJ:AbidesFrom W.heap.size J) (hk0:0<n0) (hn0:n0<=W.heap.size) (hBs:Bs<W.heap.size)
 (hY:∀pre x W1,J pre W1->pre.length<s.length+1->YieldAt Fence.wide (n-1) Tryz.prog l (encF x) W1 fun e W'=>
   (e=.returned (.bool true)/\J (pre++[x]) W'/\KeptS n0 Bs W1 W')\/(e=.returned (.bool false)/\Jx (pre++[x]) W'))
 (hc:W.cell? ⟨Bs,0,none⟩=some (.string (bs s))) (hK:Ks W) (h0:J [] W):
 CallsIn Fence.wide n Tryz.prog 83 #[.func (.yield l) #[] #[],.pointer (some ⟨Bs,0,none⟩)] W fun e W'=>(∃v,e=.returned v)∧
  ((∃ys,ys=framesF (s.length+1) s 0/\J ys W')\/(∃pre,(∃rest,pre++rest=framesF (s.length+1) s 0)/\Jx pre W')):=by
 obtain⟨ALL,hALL⟩:∃ALL,ALL=framesF (s.length+1) s 0:=⟨_,rfl⟩
 rw[←hALL]
 have HALL:=hid hALL
 obtain⟨L,hL⟩:∃L,L=s.length:=⟨_,rfl⟩
 have hsz:=bs_size s
 rw[←hL]at hs hY hsz
 have HL:=hid hL
 have HY:=hid hY
 have HJ:=hid hJ
 have HK:=hid hK
 clear hALL hL hY hJ hK
 refine callsIn_of_wp Tryz.func83 rfl trivial ?_ rfl
 simp only[Tryz.ntmps83,List.size_toArray,List.length_cons,List.length_nil,Nat.reduceAdd,Nat.reduceSub,Array.replicate_succ,Array.replicate_zero,List.push_toArray,List.append_toArray,List.nil_append,List.cons_append]
 gi_wp2
 gi_loopw [3] (fun i wr=>∃(pre:List FX) (n1 f:Nat),i=.int .i64 (n1:Int)/\n1<=L/\(s.drop n1).length<f/\pre++framesF f s n1=ALL/\pre.length<=n1/\J pre wr/\KeptS n0 Bs W wr) (fun i _=>L-(intOf i).toNat)
 case atStart=>exact⟨[],0,L+1,rfl,Nat.zero_le _,by rw[List.drop_zero,←HL.out];omega,by rw[HALL.out,←HL.out];rfl,Nat.le_refl _,h0,KeptS.refl _ _ _⟩
 case round=>
  obtain⟨pre,n1,f,rfl,hn1,hf,hall,hpl,hJs,hkp⟩:=hrel
  have hcb:=(hkp.cell (o:=0)).trans hc
  have hKr:=hkp.ks hk0 HK.out
  have hszr:=hkp.1
  obtain⟨f,rfl⟩:∃f',f=f'+1:=⟨f-1,by omega⟩
  obtain⟨d,hd⟩:∃d,d=s.drop n1:=⟨_,rfl⟩
  rw[←hd]at hf
  have HD:=hid hd
  have hdl:d.length=L-n1:=by rw[hd,List.length_drop,HL.out]
  have HA:=hid hall
  have HKR:=hid hKr
  have HKP:=hid hkp
  have HJS:=hid hJs
  clear hd hall hKr hkp hJs
  by_cases h12:L-n1<12
  ·have hI:(L:Int)-(n1:Int)<12:=by omega
   have HP:Hid (pre=ALL):=hid (by
    rw[←HA.out,framesF,←HD.out]
    have:stepP d=none:=by unfold stepP;rw[if_pos (by omega)]
    rw[this]
    simp)
   clear h12
   gi_wp2
   go_end0
   exact⟨⟨_,rfl⟩,.inl ⟨_,HP.out,HJS.out⟩⟩
  have hI:12<=(L:Int)-(n1:Int):=by omega
  clear h12
  obtain⟨Q0,hQ0⟩:∃Q,Q=(s.getD n1 0).toNat:=⟨_,rfl⟩
  obtain⟨Q1,hQ1⟩:∃Q,Q=(s.getD (n1+1) 0).toNat:=⟨_,rfl⟩
  obtain⟨Q2,hQ2⟩:∃Q,Q=(s.getD (n1+2) 0).toNat:=⟨_,rfl⟩
  obtain⟨Q3,hQ3⟩:∃Q,Q=(s.getD (n1+3) 0).toNat:=⟨_,rfl⟩
  have hy0:∀h,((bs s)[n1]'h).toNat=Q0:=fun h=>by rw[byte_at,hQ0]
  have hy1:∀h,((bs s)[n1+1]'h).toNat=Q1:=fun h=>by rw[byte_at,hQ1]
  have hy2:∀h,((bs s)[n1+2]'h).toNat=Q2:=fun h=>by rw[byte_at,hQ2]
  have hy3:∀h,((bs s)[n1+3]'h).toNat=Q3:=fun h=>by rw[byte_at,hQ3]
  have hq0:Q0<256:=by rw[hQ0];exact UInt8.toNat_lt _
  have hq1:Q1<256:=by rw[hQ1];exact UInt8.toNat_lt _
  have hq2:Q2<256:=by rw[hQ2];exact UInt8.toNat_lt _
  have hq3:Q3<256:=by rw[hQ3];exact UInt8.toNat_lt _
  have hi0:n1<L:=by omega
  have hi1:n1+1<L:=by omega
  have hi2:n1+2<L:=by omega
  have hi3:n1+3<L:=by omega
  have hJ1:(n1:Int)+1<(L:Int):=by omega
  have hJ2:(n1:Int)+2<(L:Int):=by omega
  have hJ3:(n1:Int)+3<(L:Int):=by omega
  have hM2:((n1:Int)+2).toNat=n1+2:=by omega
  have hM3:((n1:Int)+3).toNat=n1+3:=by omega
  have HSP:Hid (sizeP d=Q0+256*Q1+65536*Q2+16777216*Q3):=hid (by
   rw[hQ0,hQ1,hQ2,hQ3,HD.out]
   unfold sizeP
   simp only[List.getD_eq_getElem?_getD,List.getElem?_drop,Nat.add_zero])
  clear hQ0 hQ1 hQ2 hQ3
  gi_upto_region 2 with(fail)
  have hBr:Bs<wr.heap.size:=by omega
  refine(wpIn_wide (n:=n)).2 ?_
  refine mixB_start [] (Cls wr) (by kernel_rfl) (Cls.of ((Below.refl _ _).drew)) (fun hCw=>?_)
  refine mixB_flt (by kernel_rfl) [0,1,2,3,4,5,6,7,8,9,10,11,12,13,14,15,16,17,18,19,20,21,22,23,24,25] 0 _ _ hCw (by kernel_rfl) ?_
  simp only[opsAt,zo1,zo2,zo3,zo4,zo5]
  unfold Cls
  repeat(go_big_quiet_step (fail))
  refine wpQuiet_nil ?_
  (try rw[←Cls_def])
  refine mixB_end [] (by kernel_rfl) ?_
  refine wpList_nil ?_
  refine Calm.normal ?_
  obtain⟨n',hn'⟩:∃n',n'=Q0+256*Q1+65536*Q2+16777216*Q3:=⟨_,rfl⟩
  rw[or_four Q0 Q1 Q2 Q3 hq0 hq1 hq2 hq3,←hn']
  have HSN:Hid (sizeP d=n'):=hid (by rw[HSP.out,hn'])
  have hnl:n'<4294967296:=by omega
  generalize hw2:({wr with drawn:=wr.drawn+1}:World)=w2
  have hb2:Below wr.heap.size wr w2:=by rw[←hw2];exact(Below.refl _ _).drew
  have hsz2:=hb2.size
  have hcb2:w2.cell? ⟨Bs,0,none⟩=some (.string (bs s)):=(hb2.cell (p:=⟨Bs,0,none⟩) hBr).trans hcb
  have HKP2:=hid (HKP.out.trans (KeptS.of_below hb2 (by omega) hBr))
  have HK2:=hid (HKR.out.ext hb2)
  have HJ2:=hid (HJ.out pre wr w2 none HJS.out (grown_of hb2) (fun r e=>by cases e))
  clear hw2 hb2 hCw hn' hy0 hy1 hy2 hy3 hq0 hq1 hq2 hq3 hi0 hi1 hi2 hi3 hJ1 hJ2 hJ3 hM2 hM3 HSP hcb HKP HKR HJS
  by_cases hgt:L-n1-12<n'
  ·have hgI:(L:Int)-(n1:Int)-12<(n':Int):=by omega
   have HP:Hid (pre=ALL):=hid (by
    rw[←HA.out,framesF,←HD.out]
    have:stepP d=none:=by unfold stepP;rw[if_neg (by omega),HSN.out,if_pos (by omega)]
    rw[this]
    simp)
   clear hgt
   gi_wp2
   refine bodyPost_ret (results_none rfl _ _ _) rfl ?_
   exact⟨⟨_,rfl⟩,.inl ⟨_,HP.out,HJ2.out⟩⟩
  have hgI:(n':Int)<=(L:Int)-(n1:Int)-12:=by omega
  obtain⟨E,hE⟩:∃E,E=n1+12+n':=⟨_,rfl⟩
  have hEI:(n1:Int)+12+(n':Int)=(E:Int):=by omega
  have hEI2:(n1:Int)+(12+(n':Int))=(E:Int):=by omega
  have hEL:E<=L:=by omega
  have hnE:n1<=E:=by omega
  have hnEI:(n1:Int)<=(E:Int):=by omega
  have hELI:(E:Int)<=(L:Int):=by omega
  obtain⟨t,ht⟩:∃t,t=(d.drop 12).take n':=⟨_,rfl⟩
  have hte:(bs s).extract (n1+12) E=bs t:=by
   rw[bs_extract,ht,HD.out,List.drop_drop,List.drop_take]
   congr 1
   rw[show E-(n1+12)=n' by omega]
  have htl:t.length=n':=by rw[ht,List.length_take,List.length_drop];omega
  obtain⟨DD,hDD⟩:∃DD,DD=d.take (12+n'):=⟨_,rfl⟩
  have hD:(bs s).extract n1 E=bs DD:=by
   rw[bs_extract,hDD,HD.out,List.drop_take]
   congr 1
   rw[show E-n1=12+n' by omega]
  obtain⟨F,hF⟩:∃F,F=framedP t:=⟨_,rfl⟩
  have HST:Hid (stepP d=if DD≠F then none else some t):=hid (by
   unfold stepP
   rw[if_neg (by omega),HSN.out,if_neg (by omega),←ht,hDD,hF])
  have HFR:Hid (∀w',Below w2.heap.size w2 w'->Calls Tryz.prog 77 #[.string (bs t)] w' fun e' w3=>e'=.returned (.string (bs F))/\Below w'.heap.size w' w3):=hid (fun w' h=>by rw[hF];exact framed_any t w' (by omega) (HK2.out.ext h))
  have HEE:=hid hE
  clear hgt hE ht hDD hF
  have hBw2:Bs<w2.heap.size:=by omega
  gi_upto_region 5 with(fail)
  rw[hte]
  clear hte
  refine(wpIn_wide (n:=n)).2 ?_
  by_cases h1:F=DD
  case neg=>
   have hne:((bs DD).toList !=(bs F).toList)=true:=by rw[bne_bs];exact decide_eq_true (fun e=>h1 e.symm)
   have hne2:((bs DD).toList==(bs F).toList)=false:=by rw[bs_beq];exact decide_eq_false (fun e=>h1 e.symm)
   have HP:Hid (pre=ALL):=hid (by
    rw[←HA.out,framesF,←HD.out,HST.out,if_pos (fun e=>h1 e.symm)]
    simp)
   clear h1
   refine mixB_start [] (Cls w2) (by kernel_rfl) (Cls.of ((Below.refl _ _).drew)) (fun hCw=>?_)
   refine mixB_flt (by kernel_rfl) [0,1,2,3,4,5,6,7] 2 _ _ hCw (by kernel_rfl) ?_
   simp only[opsAt,zo1,zo2,zo3,zo4,zo5]
   unfold Cls
   repeat(go_big_quiet_step (fail))
   refine wpQuiet_nil ?_
   (try rw[←Cls_def])
   refine mixB_ch (i:=8) (fuel:=1) (by kernel_rfl) (by kernel_rfl) ?_
   simp only[opsAt,zo1,zo2,zo3,zo4,zo5]
   go_wp2_with(go_at_call 77;refine(HFR.out _ hCw.below).mono ?_;rintro e' w5 ⟨rfl,hb5⟩)
   refine ThenB.mk (hCw.trans hb5) (fun hCw=>?_)
   refine mixB_flt (by kernel_rfl) [9] 0 _ _ hCw (by kernel_rfl) ?_
   simp only[opsAt,zo1,zo2,zo3,zo4,zo5]
   unfold Cls
   repeat(go_big_quiet_step (fail))
   refine wpQuiet_nil ?_
   (try rw[←Cls_def])
   refine mixB_end [] (by kernel_rfl) ?_
   refine wpList_nil ?_
   refine Calm.normal ?_
   have HJ5:=hid (HJ.out pre w2 w5 none HJ2.out (grown_of hCw.below) (fun r e=>by cases e))
   clear hCw hb5 hcb2
   gi_wp2
   refine bodyPost_ret (results_none rfl _ _ _) rfl ?_
   exact⟨⟨_,rfl⟩,.inl ⟨_,HP.out,HJ5.out⟩⟩
  have hne:((bs DD).toList !=(bs F).toList)=false:=by rw[bne_bs];exact decide_eq_false (by simp[h1])
  have hne2:((bs DD).toList==(bs F).toList)=true:=by rw[bs_beq];exact decide_eq_true h1.symm
  have HS2:Hid (stepP d=some t):=hid (by rw[HST.out,if_neg (by simp[h1])])
  clear h1
  refine mixB_start [] (Cls w2) (by kernel_rfl) (Cls.of ((Below.refl _ _).drew)) (fun hCw=>?_)
  refine mixB_flt (by kernel_rfl) [0,1,2,3,4,5,6,7] 2 _ _ hCw (by kernel_rfl) ?_
  simp only[opsAt,zo1,zo2,zo3,zo4,zo5]
  unfold Cls
  repeat(go_big_quiet_step (fail))
  refine wpQuiet_nil ?_
  (try rw[←Cls_def])
  refine mixB_ch (i:=8) (fuel:=1) (by kernel_rfl) (by kernel_rfl) ?_
  simp only[opsAt,zo1,zo2,zo3,zo4,zo5]
  go_wp2_with(go_at_call 77;refine(HFR.out _ hCw.below).mono ?_;rintro e' w5 ⟨rfl,hb5⟩)
  refine ThenB.mk (hCw.trans hb5) (fun hCw=>?_)
  refine mixB_flt (by kernel_rfl) [9] 0 _ _ hCw (by kernel_rfl) ?_
  simp only[opsAt,zo1,zo2,zo3,zo4,zo5]
  unfold Cls
  repeat(go_big_quiet_step (fail))
  refine wpQuiet_nil ?_
  (try rw[←Cls_def])
  refine mixB_end [] (by kernel_rfl) ?_
  refine wpList_nil ?_
  refine Calm.normal ?_
  have hb25:=hCw.below
  have HJ5:=hid (HJ.out pre w2 w5 none HJ2.out (grown_of hb25) (fun r e=>by cases e))
  have HKP5:=hid (HKP2.out.trans (KeptS.of_below hb25 (by omega) hBw2))
  have hcb5:w5.cell? ⟨Bs,0,none⟩=some (.string (bs s)):=(hb25.cell (p:=⟨Bs,0,none⟩) hBw2).trans hcb2
  have hx:(mkF E t).1=(E,t):=mkF_ok (by omega) (by omega)
  obtain⟨fn,tmps,assign,body,hy,hR⟩:=HY.out pre (mkF E t) w5 HJ5.out (by omega)
  unfold encF at hy
  rw[hx]at hy
  have hy':(Instr.yield l #[.int .i64 (E:Int),.string (bs t)]).run Tryz.prog w5=.ok (.round l fn tmps assign body) w5:=hy
  have HALL2:Hid (pre++[mkF E t]++framesF f s E=ALL):=hid (by
   rw[←HA.out,framesF,←HD.out,HS2.out]
   simp only
   rw[htl,←HEE.out,List.append_assoc]
   rfl)
  clear hCw hb5 hcb2 hne hne2 hb25 hy hx
  gi_wp2
  refine hR.mono ?_
  rintro e W3 (⟨rfl,hJ3,hk3⟩|⟨rfl,hJx3⟩)
  ·have HJ3:=hid hJ3
   have HK3:=hid hk3
   clear hJ3 hk3
   gi_wp2
   go_roundw
   case rel=>exact⟨pre++[mkF E t],E,f,rfl,hEL,by rw[List.length_drop];have:=HL.out;have:=HEE.out;omega,HALL2.out,by rw[List.length_append];have:=HEE.out;simp;omega,HJ3.out,HKP5.out.trans HK3.out⟩
   case measure=>have:=HEE.out;first|(simp[intOf];done)|(simp[intOf];omega)
  ·have HJx:=hid hJx3
   clear hJx3
   gi_wp2
   refine bodyPost_ret (results_none rfl _ _ _) rfl ?_
   exact⟨⟨_,rfl⟩,.inr ⟨_,⟨framesF f s E,HALL2.out⟩,HJx.out⟩⟩
set_option maxHeartbeats 2000000 in
theorem frames_any (s:List UInt8) (w:World):
 Calls Tryz.prog 47 #[.string (bs s)] w fun e w'=>e=.returned (.func (.func 83) #[] #[.pointer (some ⟨w.heap.size,0,none⟩)])/\w'=w.alloc (.cells #[.string (bs s)] 9):=by
 have hmf:∀(fn:Fn) (first cap:Array Value) (w:World),(Instr.makeFunc fn first cap).run Tryz.prog w=.ok (.func fn first cap) w:=fun _ _ _ _=>rfl
 go_enter Tryz.func47,Tryz.ntmps47
 go_wp2
 go_ret
 exact⟨rfl,rfl⟩
theorem frames_stops (n:Nat) (hn:1<=n) (Bs n0:Nat) (s:List UInt8) (hs:s.length<=1073741824) (w:World) (hk0:0<n0) (hn0:n0<=w.heap.size) (hBs:Bs<w.heap.size) (hc:w.cell? ⟨Bs,0,none⟩=some (.string (bs s))) (hK:Ks w):
 SeqStopsK Fence.wide n Tryz.prog 83 #[.pointer (some ⟨Bs,0,none⟩)] encF (KeptS n0 Bs) (fun ys=>ys=framesF (s.length+1) s 0) (fun pre=>∃rest,pre++rest=framesF (s.length+1) s 0) (s.length+1) w:=fun l J Jx W hW hJ _ hY h0=>by
 have hsz:=hW.size
 refine(frames1_in n hn l Bs n0 s hs J Jx W hJ hk0 (by omega) (by omega) hY ((hW.cell (p:=⟨Bs,0,none⟩) hBs).trans hc) (hK.ext hW) h0).mono ?_
 rintro e W' ⟨he,⟨ys,hys,hj⟩|⟨pre,hpre,hj⟩⟩
 ·exact⟨he,.inl ⟨_,hys,hj⟩⟩
 ·exact⟨he,.inr ⟨_,hpre,hj⟩⟩
end Go.Proofs.YtcihbnpckicljaaGreatDoor
