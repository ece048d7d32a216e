/- JournalReads, walked. Conditions: bytes no more than 2^30, a head's parts no more than 2^30; the tables read as the text lays them. -/
import Derived.Test.YtcihbnpckicljaaGreatDoorqJLives
set_option linter.unusedVariables false
set_option linter.unusedSimpArgs false
namespace Go.Proofs.YtcihbnpckicljaaGreatDoor
open Go Go.RowKit Go.BigFrame
open Go.Lib(hid)
set_option maxRecDepth 100000
theorem scan_len :∀(f:Nat) (s:List UInt8) (c:Nat) (prev:List UInt8),(scanP f s c prev).1.length<=s.length
 |0,_,_,_=>by simp[scanP]
 |f+1,s,c,prev=>by
  rw[scanP]
  cases hs:stepP s with
  |none=>simp
  |some t=>
   simp only
   by_cases h:(readB t).2≠0\/(readB t).1.seq≠c+1\/(readB t).1.prev≠prev
   ·rw[if_pos h];simp
   ·rw[if_neg h]
    have h1:=scan_len f (s.drop (12+t.length)) (c+1) (digP (shortP (readB t).1).1)
    have h2:=(step_some hs).1
    rw[List.length_drop]at h1
    rw[List.length_cons]
    omega
set_option maxHeartbeats 8000000 in
theorem reads_any (s:List UInt8) (h:DHead) (w:World) (ho:okH h) (hT:U8T w) (hK:Ks w) (hs:s.length<=1073741824):
 Calls Tryz.prog 3 #[.string (bs s),.agg (headCs h).toArray] w fun e' w'=>e'=.returned (.bool true)/\Below w.heap.size w w':=by
 have HT:=hid hT
 have HK:=hid hK
 have hsl:(scanV s).1.length<=1099511627776:=by have:=scan_len (s.length+1) s 0 zero32;unfold scanV;omega
 have HR1:Hid (∀W,Below w.heap.size w W->Calls Tryz.prog 10 #[.string (bs s)] W (BlkOut W (readB s))):=hid (fun W h=>read_p s W (U8T_ext hT h) (hK.ext h) (by omega))
 have HR2:Hid (∀W,Below w.heap.size w W->Calls Tryz.prog 11 #[.string (bs s)] W (BlkOut W (readB s))):=hid (fun W h=>rread_p s W (U8T_ext hT h) (by omega))
 have HS1:Hid (∀W,Below w.heap.size w W->Calls Tryz.prog 12 #[.string (bs s)] W (ScanOut W (scanV s))):=hid (fun W h=>scan_p s W (U8T_ext hT h) (hK.ext h) hs)
 have HS2:Hid (∀W,Below w.heap.size w W->Calls Tryz.prog 13 #[.string (bs s)] W (ScanOut W (scanV s))):=hid (fun W h=>rscan_p s W (U8T_ext hT h) (hK.ext h) hs)
 have HH1:Hid (∀W,Below w.heap.size w W->Calls Tryz.prog 17 #[.agg (headCs h).toArray] W fun e' w'=>e'=.returned (.string (bs (headT h)))/\Below W.heap.size W w'):=hid (fun W hb=>headText_any h W ho (U8T_ext hT hb))
 have HH2:Hid (∀W,Below w.heap.size w W->Calls Tryz.prog 18 #[.agg (headCs h).toArray] W fun e' w'=>e'=.returned (.string (bs (headT h)))/\Below W.heap.size W w'):=hid (fun W hb=>rheadText_any h W ho (U8T_ext hT hb))
 have HD1:Hid (∀W,Below w.heap.size w W->Calls Tryz.prog 19 #[.agg (headCs h).toArray] W fun e' w'=>e'=.returned (.string (bs (digP h)))/\Below W.heap.size W w'):=hid (fun W hb=>digest_any h W ho (U8T_ext hT hb) (hK.ext hb))
 have HD2:Hid (∀W,Below w.heap.size w W->Calls Tryz.prog 20 #[.agg (headCs h).toArray] W fun e' w'=>e'=.returned (.string (bs (digP h)))/\Below W.heap.size W w'):=hid (fun W hb=>rdigest_any h W ho (U8T_ext hT hb) (hK.ext hb))
 have HLV:Hid (∀W,Below w.heap.size w W->Calls Tryz.prog 14 #[] W fun e' w'=>e'=.returned (.bool true)/\Below W.heap.size W w'):=hid (fun W hb=>lives_any W (U8T_ext hT hb) (hK.ext hb))
 generalize readB s=rb at HR1 HR2
 generalize scanV s=sc at HS1 HS2 hsl
 generalize headT h=HTX at HH1 HH2
 generalize digP h=HDX at HD1 HD2
 obtain⟨hq,hp,hr,hn,ht⟩:=h
 obtain⟨L,n⟩:=sc
 obtain⟨bk,why⟩:=rb
 have hsl':L.length<=1099511627776:=hsl
 clear hT hK ho hsl
 unfold headCs at*
 go_enter Tryz.func3,Tryz.ntmps3
 go_upto_region 1 with(fail)
 generalize hW0:World.alloc w _=W0
 have hb0:Below w.heap.size w W0:=by rw[←hW0];exact(Below.refl _ _).alloc (Nat.le_refl _) _
 have hd0:IsBlk W0 w.heap.size #[.int .u64 (hq:Int),.string (bs hp),.string (bs hr),.int .u64 (hn:Int),.string (bs ht)] 24:=by rw[←hW0];exact IsBlk.new _ _ _
 have HB0:=hid hb0
 have HE0:=hid hd0
 clear hW0 hb0 hd0
 go_wp2_with fail
 go_at_call 10
 refine(HR1.out _ HB0.out).mono ?_
 rintro e' w1 ⟨cs1,rfl,hk1,hb1⟩
 have hk1':=hk1
 obtain⟨ps1,cp1,pr1,cr1,rfl,_⟩:=hk1'
 go_upto_region 2 with(fail)
 generalize hW2:World.alloc w1 _=w2
 have hb12:Below w1.heap.size w1 w2:=by rw[←hW2];exact(Below.refl _ _).alloc (Nat.le_refl _) _
 have hd2:IsBlk w2 w1.heap.size #[.int .u64 (bk.seq:Int),.string (bs bk.prev),.string (bs bk.root),.slice ps1 bk.sts.length cp1,.slice pr1 bk.revs.length cr1] 28:=by rw[←hW2];exact IsBlk.new _ _ _
 obtain⟨b5,hb5⟩:∃b,b=w1.heap.size:=⟨_,rfl⟩
 rw[←hb5]at hd2
 rw[←hb5]
 have h02:=below_ext hb1 hb12
 have HB2:=hid (below_ext HB0.out h02)
 have HE2:=hid (HE0.out.ext h02)
 have HX2:=hid hd2
 have HK2:=hid (hk1.ext hb12)
 clear hW2 hb12 hd2 hb5 h02 hb1 hk1
 go_wp2_with fail
 go_at_call 11
 refine(HR2.out _ HB2.out).mono ?_
 rintro e' w3 ⟨cs2,rfl,hk3,hb3⟩
 have hk3':=hk3
 obtain⟨ps2,cp2,pr2,cr2,rfl,_⟩:=hk3'
 go_upto_region 3 with(fail)
 generalize hW4:World.alloc w3 _=w4
 have hb34:Below w3.heap.size w3 w4:=by rw[←hW4];exact(Below.refl _ _).alloc (Nat.le_refl _) _
 have hd4:IsBlk w4 w3.heap.size #[.int .u64 (bk.seq:Int),.string (bs bk.prev),.string (bs bk.root),.slice ps2 bk.sts.length cp2,.slice pr2 bk.revs.length cr2] 28:=by rw[←hW4];exact IsBlk.new _ _ _
 obtain⟨b7,hb7⟩:∃b,b=w3.heap.size:=⟨_,rfl⟩
 rw[←hb7]at hd4
 rw[←hb7]
 have h24:=below_ext hb3 hb34
 have HB4:=hid (below_ext HB2.out h24)
 have HE4:=hid (HE2.out.ext h24)
 have HX4:=hid (HX2.out.ext h24)
 have HY4:=hid hd4
 have HK4:=hid (HK2.out.ext h24)
 have HL4:=hid (hk3.ext hb34)
 clear hW4 hb34 hd4 hb7 h24 hb3 hk3
 go_wp2_with fail
 go_at_call 12
 refine(HS1.out _ HB4.out).mono ?_
 rintro e' w5 ⟨p5,c5,rfl,_,hr5,hb45⟩
 have HB5:=hid (below_ext HB4.out hb45)
 have HE5:=hid (HE4.out.ext hb45)
 have HX5:=hid (HX4.out.ext hb45)
 have HY5:=hid (HY4.out.ext hb45)
 have HK5:=hid (HK4.out.ext hb45)
 have HL5:=hid (HL4.out.ext hb45)
 have HR5:=hid hr5
 clear hb45 hr5
 go_wp2_with fail
 go_at_call 13
 refine(HS2.out _ HB5.out).mono ?_
 rintro e' w6 ⟨p6,c6,rfl,_,hr6,hb56⟩
 have HB6:=hid (below_ext HB5.out hb56)
 have he6:=HE5.out.ext hb56
 have hx6:=HX5.out.ext hb56
 have hy6:=HY5.out.ext hb56
 have hk6:=HK5.out.ext hb56
 have hl6:=HL5.out.ext hb56
 have hr56:=HR5.out.ext relB hb56
 have le6:=he6.lt
 have lx6:=hx6.lt
 have ly6:=hy6.lt
 have HSM:Hid (∀W,Below w6.heap.size w6 W->Calls Tryz.prog 15 #[.agg #[.int .u64 (bk.seq:Int),.string (bs bk.prev),.string (bs bk.root),.slice ps1 bk.sts.length cp1,.slice pr1 bk.revs.length cr1],.agg #[.int .u64 (bk.seq:Int),.string (bs bk.prev),.string (bs bk.root),.slice ps2 bk.sts.length cp2,.slice pr2 bk.revs.length cr2]] W fun e' w'=>e'=.returned (.bool true)/\Below W.heap.size W w'):=hid (fun W hb=>by
  have h:=same6_any bk bk _ _ _ _ W (hk6.ext hb) (hl6.ext hb)
  rw[eqv_self]at h
  exact h)
 have HSA:Hid (∀W,Below w6.heap.size w6 W->Calls Tryz.prog 16 #[.slice p5 L.length c5,.slice p6 L.length c6] W fun e' w'=>e'=.returned (.bool true)/\Below W.heap.size W w'):=hid (fun W hb=>by
  have h:=sameAll_any L L _ _ p5 p6 c5 c6 W (hr56.ext relB hb) (hr6.ext relB hb) hsl' hsl'
  rw[eqv_self]at h
  exact h)
 have x0:=he6.cell (i:=0) rfl
 have x1:=he6.cell (i:=1) rfl
 have x2:=he6.cell (i:=2) rfl
 have x3:=he6.cell (i:=3) rfl
 have x4:=he6.cell (i:=4) rfl
 have y0:=hx6.cell (i:=0) rfl
 have y1:=hx6.cell (i:=1) rfl
 have y2:=hx6.cell (i:=2) rfl
 have y3:=hx6.cell (i:=3) rfl
 have y4:=hx6.cell (i:=4) rfl
 have z0:=hy6.cell (i:=0) rfl
 have z1:=hy6.cell (i:=1) rfl
 have z2:=hy6.cell (i:=2) rfl
 have z3:=hy6.cell (i:=3) rfl
 have z4:=hy6.cell (i:=4) rfl
 clear hb56 hr6 he6 hx6 hy6 hk6 hl6 hr56
 go_upto_region 5 with(fail)
 refine mixB_start [] (Cls w6) (by kernel_rfl) (Cls.of ((Below.refl _ _).drew)) (fun hCw=>?_)
 refine mixB_ch (i:=0) (fuel:=35) (by kernel_rfl) (by kernel_rfl) ?_
 simp only[opsAt,zo1,zo2,zo3,zo4,zo5]
 go_wp2_with(go_at_call 14;refine(HLV.out _ (below_ext HB6.out hCw.below)).mono ?_;rintro e' w7 ⟨rfl,hbx⟩)
 refine ThenB.mk (hCw.trans hbx) (fun hCw=>?_)
 refine mixB_flt (by kernel_rfl) [1,2,3] 32 _ _ hCw (by kernel_rfl) ?_
 simp only[opsAt,zo1,zo2,zo3,zo4,zo5]
 unfold Cls
 repeat(go_big_quiet_step (fail))
 refine wpQuiet_nil ?_
 (try rw[←Cls_def])
 refine mixB_ch (i:=4) (fuel:=31) (by kernel_rfl) (by kernel_rfl) ?_
 simp only[opsAt,zo1,zo2,zo3,zo4,zo5]
 go_wp2_with(go_at_call 15;refine(HSM.out _ hCw.below).mono ?_;rintro e' w8 ⟨rfl,hbx⟩)
 refine ThenB.mk (hCw.trans hbx) (fun hCw=>?_)
 refine mixB_flt (by kernel_rfl) [5,6,7,8,9,10,11,12,13] 22 _ _ hCw (by kernel_rfl) ?_
 simp only[opsAt,zo1,zo2,zo3,zo4,zo5]
 unfold Cls
 repeat(go_big_quiet_step (fail))
 refine wpQuiet_nil ?_
 (try rw[←Cls_def])
 refine mixB_ch (i:=14) (fuel:=21) (by kernel_rfl) (by kernel_rfl) ?_
 simp only[opsAt,zo1,zo2,zo3,zo4,zo5]
 go_wp2_with(go_at_call 16;refine(HSA.out _ hCw.below).mono ?_;rintro e' w9 ⟨rfl,hbx⟩)
 refine ThenB.mk (hCw.trans hbx) (fun hCw=>?_)
 refine mixB_flt (by kernel_rfl) [15,16,17,18,19,20,21,22,24] 12 _ _ hCw (by kernel_rfl) ?_
 simp only[opsAt,zo1,zo2,zo3,zo4,zo5]
 unfold Cls
 repeat(go_big_quiet_step (fail))
 refine wpQuiet_nil ?_
 (try rw[←Cls_def])
 refine mixB_ch (i:=23) (fuel:=11) (by kernel_rfl) (by kernel_rfl) ?_
 simp only[opsAt,zo1,zo2,zo3,zo4,zo5]
 go_wp2_with(go_at_call 17;refine(HH1.out _ (below_ext HB6.out hCw.below)).mono ?_;rintro e' w10 ⟨rfl,hbx⟩)
 refine ThenB.mk (hCw.trans hbx) (fun hCw=>?_)
 refine mixB_ch (i:=25) (fuel:=10) (by kernel_rfl) (by kernel_rfl) ?_
 simp only[opsAt,zo1,zo2,zo3,zo4,zo5]
 go_wp2_with(go_at_call 18;refine(HH2.out _ (below_ext HB6.out hCw.below)).mono ?_;rintro e' w11 ⟨rfl,hbx⟩)
 refine ThenB.mk (hCw.trans hbx) (fun hCw=>?_)
 refine mixB_flt (by kernel_rfl) [26,27,28,29,31] 5 _ _ hCw (by kernel_rfl) ?_
 simp only[opsAt,zo1,zo2,zo3,zo4,zo5]
 unfold Cls
 repeat(go_big_quiet_step (fail))
 refine wpQuiet_nil ?_
 (try rw[←Cls_def])
 refine mixB_ch (i:=30) (fuel:=4) (by kernel_rfl) (by kernel_rfl) ?_
 simp only[opsAt,zo1,zo2,zo3,zo4,zo5]
 go_wp2_with(go_at_call 19;refine(HD1.out _ (below_ext HB6.out hCw.below)).mono ?_;rintro e' w12 ⟨rfl,hbx⟩)
 refine ThenB.mk (hCw.trans hbx) (fun hCw=>?_)
 refine mixB_ch (i:=32) (fuel:=3) (by kernel_rfl) (by kernel_rfl) ?_
 simp only[opsAt,zo1,zo2,zo3,zo4,zo5]
 go_wp2_with(go_at_call 20;refine(HD2.out _ (below_ext HB6.out hCw.below)).mono ?_;rintro e' w13 ⟨rfl,hbx⟩)
 refine ThenB.mk (hCw.trans hbx) (fun hCw=>?_)
 refine mixB_flt (by kernel_rfl) [33,34,35] 0 _ _ hCw (by kernel_rfl) ?_
 simp only[opsAt,zo1,zo2,zo3,zo4,zo5]
 unfold Cls
 repeat(go_big_quiet_step (fail))
 refine wpQuiet_nil ?_
 (try rw[←Cls_def])
 refine mixB_end [] (by kernel_rfl) ?_
 refine wpList_nil ?_
 refine Calm.normal ?_
 have HB7:=hid (below_ext HB6.out hCw.below)
 clear hCw x0 x1 x2 x3 x4 y0 y1 y2 y3 y4 z0 z1 z2 z3 z4
 go_wp2
 go_ret
 exact⟨rfl,HB7.out⟩
end Go.Proofs.YtcihbnpckicljaaGreatDoor
