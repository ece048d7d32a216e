/- JournalBack, walked. Conditions: a block lies in memory, its revisions' texts no longer than 2^39 bytes; bytes no more than 2^40; the tables read as the text lays them. -/
import Derived.Test.YtcihbnpckicljaaGreatDoorrJIs
set_option linter.unusedVariables false
set_option linter.unusedSimpArgs false
namespace Go.Proofs.YtcihbnpckicljaaGreatDoor
open Go Go.RowKit Go.BigFrame
open Go.Lib(hid)
set_option maxRecDepth 100000
set_option maxHeartbeats 8000000 in
theorem back_any (b:DBlk) (S:Nat->Prop) (cs:List Value) (s:List UInt8) (w:World) (hb:HasBlk S w b cs) (hk:∀r∈b.revs,okR r) (hT:U8T w) (hK:Ks w) (hs:s.length<=1099511627776):
 Calls Tryz.prog 9 #[.agg cs.toArray,.string (bs s)] w fun e' w'=>e'=.returned (.bool true)/\Below w.heap.size w w':=by
 have HT:=hid hT
 have HK:=hid hK
 have HLV:Hid (∀W,Below w.heap.size w W->Calls Tryz.prog 14 #[] W fun e' w'=>e'=.returned (.bool true)/\Below W.heap.size W w'):=hid (fun W hb=>lives_any W (U8T_ext hT hb) (hK.ext hb))
 have HTX:Hid (∀W,Below w.heap.size w W->Calls Tryz.prog 33 #[.agg cs.toArray] W (TextOut W (wholeP b))):=hid (fun W h=>text_p b S cs W (hb.ext h) hk (U8T_ext hT h) (hK.ext h))
 have HCK:Hid (∀W,Below w.heap.size w W->Calls Tryz.prog 31 #[.agg cs.toArray] W fun e' w2=>e'=.returned (.int .i64 (wholeP b).2)/\Below W.heap.size W w2):=hid (fun W h=>check_p b S cs W (hb.ext h) hk (U8T_ext hT h) (hK.ext h))
 have HRT:Hid ((wholeP b).2=0->∀W,Below w.heap.size w W->Calls Tryz.prog 10 #[.string (bs (wholeP b).1)] W (BlkIs W b 0)):=hid (fun h0 W h=>by
  have h2:=(read_p (wholeP b).1 W (U8T_ext hT h) (hK.ext h) (by have:=whole_len h0;omega)).mono (fun _ _ h=>h.is)
  rw[readB_text h0 (hasBlk_wf hb)]at h2
  exact h2)
 have HSM:Hid (∀(cs':List Value) (W:World) (S':Nat->Prop),Below w.heap.size w W->HasBlk S' W b cs'->Calls Tryz.prog 15 #[.agg cs.toArray,.agg cs'.toArray] W fun e' w2=>e'=.returned (.bool true)/\Below W.heap.size W w2):=hid (fun cs' W S' h hb'=>by
  have h2:=same6_any b b S S' cs cs' W (hb.ext h) hb'
  rw[eqv_self]at h2
  exact h2)
 have HRD:Hid (∀W,Below w.heap.size w W->Calls Tryz.prog 10 #[.string (bs s)] W (BlkIs W (readB s).1 (readB s).2)):=hid (fun W h=>(read_p s W (U8T_ext hT h) (hK.ext h) hs).mono (fun _ _ h=>h.is))
 have HOK:=hid (readB_okv s)
 have hre:((readB s).2=0/\wholeP (readB s).1=(s,0))\/readB s=(.zero,11):=by
  rcases readB_err s with⟨h1,_⟩|h1
  ·exact .inl ⟨h1,(whole_read h1 rd_rng).1⟩
  ·exact .inr h1
 generalize readB s=rb at HRD HOK hre
 obtain⟨⟨kseq,kprev,kroot,ksts,krevs⟩,kwhy⟩:=rb
 have HRE:=hid hre
 have hbc:=hb
 obtain⟨ps,cp,pr,cr,rfl,_⟩:=hbc
 obtain⟨bseq,bprev,broot,bsts,brevs⟩:=b
 obtain⟨T,hTT⟩:∃T,T=(wholeP ⟨bseq,bprev,broot,bsts,brevs⟩).1:=⟨_,rfl⟩
 obtain⟨q,hqq⟩:∃q,q=(wholeP ⟨bseq,bprev,broot,bsts,brevs⟩).2:=⟨_,rfl⟩
 have HTX2:Hid (∀W,Below w.heap.size w W->Calls Tryz.prog 33 #[.agg #[.int .u64 (bseq:Int),.string (bs bprev),.string (bs broot),.slice ps bsts.length cp,.slice pr brevs.length cr]] W fun e' w'=>e'=.returned (.tuple #[.string (bs T),.int .i64 q])/\Below W.heap.size W w'):=hid (fun W h=>by
  have h2:=HTX.out W h
  unfold TextOut at h2
  rw[←hTT,←hqq]at h2
  exact h2)
 rw[←hTT,←hqq]at HRT
 rw[←hqq]at HCK
 clear hre hb hk hT hK hTT hqq HTX
 have hRE2:=HRE
 clear HRE
 go_enter Tryz.func9,Tryz.ntmps9
 go_upto_region 1 with(fail)
 generalize hW0:World.alloc w _=W0
 have hb0:Below w.heap.size w W0:=by rw[←hW0];exact(Below.refl _ _).alloc (Nat.le_refl _) _
 have hd0:IsBlk W0 w.heap.size #[.int .u64 (bseq:Int),.string (bs bprev),.string (bs broot),.slice ps bsts.length cp,.slice pr brevs.length cr] 28:=by rw[←hW0];exact IsBlk.new _ _ _
 have HB0:=hid hb0
 have HD0:=hid hd0
 clear hW0 hb0 hd0
 go_wp2_with fail
 go_at_call 14
 refine(HLV.out _ HB0.out).mono ?_
 rintro e' w1 ⟨rfl,hb1⟩
 have HB1:=hid (below_ext HB0.out hb1)
 have hd1:=HD0.out.ext hb1
 have HD1:=hid hd1
 have x0:=hd1.cell (i:=0) rfl
 have x1:=hd1.cell (i:=1) rfl
 have x2:=hd1.cell (i:=2) rfl
 have x3:=hd1.cell (i:=3) rfl
 have x4:=hd1.cell (i:=4) rfl
 clear hb1 hd1 HD0
 go_wp2_with fail
 go_at_call 33
 refine(HTX2.out _ HB1.out).mono ?_
 rintro e' w2 ⟨rfl,hb2⟩
 have HB2:=hid (below_ext HB1.out hb2)
 have hd2:=HD1.out.ext hb2
 have HD2:=hid hd2
 clear x0 x1 x2 x3 x4
 clear hb2 HD1
 by_cases hq:q=0
 case neg=>
  have hqb:(q==0)=false:=by rw[beq_eq_false_iff_ne];exact hq
  have hqb2:(q !=0)=true:=by rw[bne_iff_ne];exact hq
  clear hq hd2
  go_wp2_with fail
  go_at_call 10
  refine(HRD.out _ HB2.out).mono ?_
  rintro e' v1 ⟨ps1,cp1,pr1,cr1,rfl,hk1,hbv1⟩
  go_upto_region 9 with(fail)
  generalize hV2:World.alloc v1 _=v2
  have hbv2:Below v1.heap.size v1 v2:=by rw[←hV2];exact(Below.refl _ _).alloc (Nat.le_refl _) _
  have hdv2:IsBlk v2 v1.heap.size #[.int .u64 (kseq:Int),.string (bs kprev),.string (bs kroot),.slice ps1 ksts.length cp1,.slice pr1 krevs.length cr1] 28:=by rw[←hV2];exact IsBlk.new _ _ _
  obtain⟨b9,hb9⟩:∃b,b=v1.heap.size:=⟨_,rfl⟩
  rw[←hb9]at hdv2
  rw[←hb9]
  have HBV2:=hid (below_ext HB2.out (below_ext hbv1 hbv2))
  have HKV2:=hid (hk1.ext hbv2)
  have HDV2:=hid hdv2
  have hltv2:=hdv2.lt
  have z0:=hdv2.cell (i:=0) rfl
  have z1:=hdv2.cell (i:=1) rfl
  have z2:=hdv2.cell (i:=2) rfl
  have z3:=hdv2.cell (i:=3) rfl
  have z4:=hdv2.cell (i:=4) rfl
  clear hV2 hbv1 hbv2 hdv2 hb9 hk1
  rcases hRE2.out with⟨hz,hwz⟩|hz
  ·try simp only at hz hwz
   subst hz
   have HTV:Hid (∀W,Below v2.heap.size v2 W->Calls Tryz.prog 33 #[.agg #[.int .u64 (kseq:Int),.string (bs kprev),.string (bs kroot),.slice ps1 ksts.length cp1,.slice pr1 krevs.length cr1]] W fun e' w'=>e'=.returned (.tuple #[.string (bs s),.int .i64 0])/\Below W.heap.size W w'):=hid (fun W h=>by
    have h2:=text_p _ _ _ W (HKV2.out.ext h) (hasBlk_ok HKV2.out HOK.out) (U8T_ext (U8T_ext HT.out HBV2.out) h) ((HK.out.ext HBV2.out).ext h)
    unfold TextOut at h2
    rw[hwz]at h2
    exact h2)
   have HCV:Hid (∀W,Below v2.heap.size v2 W->Calls Tryz.prog 31 #[.agg #[.int .u64 (kseq:Int),.string (bs kprev),.string (bs kroot),.slice ps1 ksts.length cp1,.slice pr1 krevs.length cr1]] W fun e' w'=>e'=.returned (.int .i64 0)/\Below W.heap.size W w'):=hid (fun W h=>by
    have h2:=check_p _ _ _ W (HKV2.out.ext h) (hasBlk_ok HKV2.out HOK.out) (U8T_ext (U8T_ext HT.out HBV2.out) h) ((HK.out.ext HBV2.out).ext h)
    rw[hwz]at h2
    exact h2)
   clear hwz
   go_wp2_with fail
   go_at_call 33
   refine(HTV.out _ (Below.refl _ _)).mono ?_
   rintro e' v3 ⟨rfl,hbv3⟩
   have hdv3:=HDV2.out.ext hbv3
   have HBV3:=hid hbv3
   have hltv3:=hdv3.lt
   clear z0 z1 z2 z3 z4 hbv3
   have z0:=hdv3.cell (i:=0) rfl
   have z1:=hdv3.cell (i:=1) rfl
   have z2:=hdv3.cell (i:=2) rfl
   have z3:=hdv3.cell (i:=3) rfl
   have z4:=hdv3.cell (i:=4) rfl
   clear hdv3
   have hse:((bs s).toList==(bs s).toList)=true:=by simp
   go_wp2_with fail
   go_at_call 31
   refine(HCV.out _ HBV3.out).mono ?_
   rintro e' v4 ⟨rfl,hbv4⟩
   have HBV4:=hid (below_ext HBV2.out (below_ext HBV3.out hbv4))
   clear z0 z1 z2 z3 z4 hbv4
   go_wp2
   go_ret
   exact⟨rfl,HBV4.out⟩
  ·injection hz with hz1 hz2
   injection hz1 with a1 a2 a3 a4 a5
   subst a1
   subst a2
   subst a3
   subst a4
   subst a5
   subst hz2
   have HSZ:Hid (∀W,Below v2.heap.size v2 W->Calls Tryz.prog 15 #[.agg #[.int .u64 ((0:Nat):Int),.string (bs []),.string (bs []),.slice ps1 ([]:List (List UInt8)).length cp1,.slice pr1 ([]:List DRev).length cr1],.agg #[.int .u64 0,.string ⟨#[]⟩,.string ⟨#[]⟩,.slice none 0 0,.slice none 0 0]] W fun e' w'=>e'=.returned (.bool true)/\Below W.heap.size W w'):=hid (fun W h=>by
    have h2:=same6_any .zero .zero _ (fun _=>True) _ _ W (HKV2.out.ext h) (zblk_has (fun _=>True) W)
    rw[eqv_self]at h2
    exact h2)
   go_wp2_with fail
   go_at_call 15
   refine(HSZ.out _ (Below.refl _ _)).mono ?_
   rintro e' v3 ⟨rfl,hbv3⟩
   have HBV3:=hid (below_ext HBV2.out hbv3)
   clear z0 z1 z2 z3 z4 hbv3
   go_wp2
   go_ret
   exact⟨rfl,HBV3.out⟩
 case pos=>
  subst hq
  have hlt2:=hd2.lt
  have x0:=hd2.cell (i:=0) rfl
  have x1:=hd2.cell (i:=1) rfl
  have x2:=hd2.cell (i:=2) rfl
  have x3:=hd2.cell (i:=3) rfl
  have x4:=hd2.cell (i:=4) rfl
  clear hd2
  go_wp2_with fail
  go_at_call 10
  refine(HRT.out (by first|rfl|trivial) _ HB2.out).mono ?_
  rintro e' w3 ⟨ps3,cp3,pr3,cr3,rfl,hk3,hb3⟩
  have hd3:=HD2.out.ext hb3
  have HD3:=hid hd3
  have HB3:=hid (below_ext HB2.out hb3)
  clear x0 x1 x2 x3 x4 hd3 hb3
  go_upto_region 6 with(fail)
  generalize hW4:World.alloc w3 _=w4
  have hb4:Below w3.heap.size w3 w4:=by rw[←hW4];exact(Below.refl _ _).alloc (Nat.le_refl _) _
  have hd4:IsBlk w4 w3.heap.size #[.int .u64 (bseq:Int),.string (bs bprev),.string (bs broot),.slice ps3 bsts.length cp3,.slice pr3 brevs.length cr3] 28:=by rw[←hW4];exact IsBlk.new _ _ _
  obtain⟨b7,hb7⟩:∃b,b=w3.heap.size:=⟨_,rfl⟩
  rw[←hb7]at hd4
  rw[←hb7]
  have hd3:=HD3.out.ext hb4
  have HD4:=hid hd3
  have HB4:=hid (below_ext HB3.out hb4)
  have HK4:=hid (hk3.ext hb4)
  have hlt3:=hd3.lt
  have hlt4:=hd4.lt
  have x0:=hd3.cell (i:=0) rfl
  have x1:=hd3.cell (i:=1) rfl
  have x2:=hd3.cell (i:=2) rfl
  have x3:=hd3.cell (i:=3) rfl
  have x4:=hd3.cell (i:=4) rfl
  have y0:=hd4.cell (i:=0) rfl
  have y1:=hd4.cell (i:=1) rfl
  have y2:=hd4.cell (i:=2) rfl
  have y3:=hd4.cell (i:=3) rfl
  have y4:=hd4.cell (i:=4) rfl
  clear hW4 hb4 hd3 hd4 hb7 hk3
  go_wp2_with fail
  go_at_call 15
  refine(HSM.out _ _ _ HB4.out HK4.out).mono ?_
  rintro e' w5 ⟨rfl,hb5⟩
  have hd5:=HD4.out.ext hb5
  have HB5:=hid (below_ext HB4.out hb5)
  clear x0 x1 x2 x3 x4 y0 y1 y2 y3 y4 hb5
  have x0:=hd5.cell (i:=0) rfl
  have x1:=hd5.cell (i:=1) rfl
  have x2:=hd5.cell (i:=2) rfl
  have x3:=hd5.cell (i:=3) rfl
  have x4:=hd5.cell (i:=4) rfl
  clear hd5
  go_wp2_with fail
  go_at_call 31
  refine(HCK.out _ HB5.out).mono ?_
  rintro e' w6 ⟨rfl,hb6⟩
  have HB6:=hid (below_ext HB5.out hb6)
  clear x0 x1 x2 x3 x4 hb6
  go_wp2_with fail
  go_at_call 10
  refine(HRD.out _ HB6.out).mono ?_
  rintro e' v1 ⟨ps1,cp1,pr1,cr1,rfl,hk1,hbv1⟩
  go_upto_region 9 with(fail)
  generalize hV2:World.alloc v1 _=v2
  have hbv2:Below v1.heap.size v1 v2:=by rw[←hV2];exact(Below.refl _ _).alloc (Nat.le_refl _) _
  have hdv2:IsBlk v2 v1.heap.size #[.int .u64 (kseq:Int),.string (bs kprev),.string (bs kroot),.slice ps1 ksts.length cp1,.slice pr1 krevs.length cr1] 28:=by rw[←hV2];exact IsBlk.new _ _ _
  obtain⟨b9,hb9⟩:∃b,b=v1.heap.size:=⟨_,rfl⟩
  rw[←hb9]at hdv2
  rw[←hb9]
  have HBV2:=hid (below_ext HB6.out (below_ext hbv1 hbv2))
  have HKV2:=hid (hk1.ext hbv2)
  have HDV2:=hid hdv2
  have hltv2:=hdv2.lt
  have z0:=hdv2.cell (i:=0) rfl
  have z1:=hdv2.cell (i:=1) rfl
  have z2:=hdv2.cell (i:=2) rfl
  have z3:=hdv2.cell (i:=3) rfl
  have z4:=hdv2.cell (i:=4) rfl
  clear hV2 hbv1 hbv2 hdv2 hb9 hk1
  rcases hRE2.out with⟨hz,hwz⟩|hz
  ·try simp only at hz hwz
   subst hz
   have HTV:Hid (∀W,Below v2.heap.size v2 W->Calls Tryz.prog 33 #[.agg #[.int .u64 (kseq:Int),.string (bs kprev),.string (bs kroot),.slice ps1 ksts.length cp1,.slice pr1 krevs.length cr1]] W fun e' w'=>e'=.returned (.tuple #[.string (bs s),.int .i64 0])/\Below W.heap.size W w'):=hid (fun W h=>by
    have h2:=text_p _ _ _ W (HKV2.out.ext h) (hasBlk_ok HKV2.out HOK.out) (U8T_ext (U8T_ext HT.out HBV2.out) h) ((HK.out.ext HBV2.out).ext h)
    unfold TextOut at h2
    rw[hwz]at h2
    exact h2)
   have HCV:Hid (∀W,Below v2.heap.size v2 W->Calls Tryz.prog 31 #[.agg #[.int .u64 (kseq:Int),.string (bs kprev),.string (bs kroot),.slice ps1 ksts.length cp1,.slice pr1 krevs.length cr1]] W fun e' w'=>e'=.returned (.int .i64 0)/\Below W.heap.size W w'):=hid (fun W h=>by
    have h2:=check_p _ _ _ W (HKV2.out.ext h) (hasBlk_ok HKV2.out HOK.out) (U8T_ext (U8T_ext HT.out HBV2.out) h) ((HK.out.ext HBV2.out).ext h)
    rw[hwz]at h2
    exact h2)
   clear hwz
   go_wp2_with fail
   go_at_call 33
   refine(HTV.out _ (Below.refl _ _)).mono ?_
   rintro e' v3 ⟨rfl,hbv3⟩
   have hdv3:=HDV2.out.ext hbv3
   have HBV3:=hid hbv3
   have hltv3:=hdv3.lt
   clear z0 z1 z2 z3 z4 hbv3
   have z0:=hdv3.cell (i:=0) rfl
   have z1:=hdv3.cell (i:=1) rfl
   have z2:=hdv3.cell (i:=2) rfl
   have z3:=hdv3.cell (i:=3) rfl
   have z4:=hdv3.cell (i:=4) rfl
   clear hdv3
   have hse:((bs s).toList==(bs s).toList)=true:=by simp
   go_wp2_with fail
   go_at_call 31
   refine(HCV.out _ HBV3.out).mono ?_
   rintro e' v4 ⟨rfl,hbv4⟩
   have HBV4:=hid (below_ext HBV2.out (below_ext HBV3.out hbv4))
   clear z0 z1 z2 z3 z4 hbv4
   go_wp2
   go_ret
   exact⟨rfl,HBV4.out⟩
  ·injection hz with hz1 hz2
   injection hz1 with a1 a2 a3 a4 a5
   subst a1
   subst a2
   subst a3
   subst a4
   subst a5
   subst hz2
   have HSZ:Hid (∀W,Below v2.heap.size v2 W->Calls Tryz.prog 15 #[.agg #[.int .u64 ((0:Nat):Int),.string (bs []),.string (bs []),.slice ps1 ([]:List (List UInt8)).length cp1,.slice pr1 ([]:List DRev).length cr1],.agg #[.int .u64 0,.string ⟨#[]⟩,.string ⟨#[]⟩,.slice none 0 0,.slice none 0 0]] W fun e' w'=>e'=.returned (.bool true)/\Below W.heap.size W w'):=hid (fun W h=>by
    have h2:=same6_any .zero .zero _ (fun _=>True) _ _ W (HKV2.out.ext h) (zblk_has (fun _=>True) W)
    rw[eqv_self]at h2
    exact h2)
   go_wp2_with fail
   go_at_call 15
   refine(HSZ.out _ (Below.refl _ _)).mono ?_
   rintro e' v3 ⟨rfl,hbv3⟩
   have HBV3:=hid (below_ext HBV2.out hbv3)
   clear z0 z1 z2 z3 z4 hbv3
   go_wp2
   go_ret
   exact⟨rfl,HBV3.out⟩
end Go.Proofs.YtcihbnpckicljaaGreatDoor
