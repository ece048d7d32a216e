/- A block's head: journal's and the document's Short. Conditions: a block lies in memory; its revisions' texts no longer than 2^39 bytes; the tables read as the text lays them. -/
import Derived.Test.YtcihbnpckicljaaGreatDoorrJFrame
import Derived.Test.YtcihbnpckicljaaGreatDoorrJHead
import Derived.Test.YtcihbnpckicljaaGreatDoorrJRRead
set_option linter.unusedVariables false
set_option linter.unusedSimpArgs false
namespace Go.Proofs.YtcihbnpckicljaaGreatDoor
open Go Go.RowKit Go.BigFrame
open Go.Lib(hid)
set_option maxRecDepth 100000
def HeadOut (w:World) (r:DHead×Int) (e':Ending) (w':World):Prop:=e'=.returned (.tuple #[.agg #[.int .u64 (r.1.seq:Int),.string (bs r.1.prev),.string (bs r.1.root),.int .u64 (r.1.revs:Int),.string (bs r.1.sts)],.int .i64 r.2])/\Below w.heap.size w w'
theorem write_t (v:DVal) (S:Nat->Prop) (cs:List Value) (w:World) (hv:HasVal S w v cs) (hT:U8T w) (hl:(textV v).length<=1099511627776):
 Calls Tryz.prog 52 #[.agg cs.toArray] w (TextOut w (wrP v)):=write_any v S cs w hv hT hl
theorem rwrite_t (v:DVal) (S:Nat->Prop) (cs:List Value) (w:World) (hv:HasVal S w v cs) (hT:U8T w) (hl:(textV v).length<=1099511627776):
 Calls Tryz.prog 56 #[.agg cs.toArray] w (TextOut w (wrP v)):=ref_write_t v S cs w hv hT hl
theorem wrP_len (v:DVal):(wrP v).1.length<=16384:=by
 unfold wrP
 repeat' split
 ·simp
 ·simp
 ·show(textV v).length<=16384
  omega
set_option maxHeartbeats 4000000 in
theorem short_p (b:DBlk) (S:Nat->Prop) (cs:List Value) (w:World) (hb:HasBlk S w b cs) (hk:∀r∈b.revs,okR r) (hT:U8T w) (hK:Ks w):
 Calls Tryz.prog 23 #[.agg cs.toArray] w (HeadOut w (shortP b)):=by
 have HCK:Hid (∀w',Below w.heap.size w w'->Calls Tryz.prog 31 #[.agg cs.toArray] w' fun e' w2=>e'=.returned (.int .i64 (wholeP b).2)/\Below w'.heap.size w' w2):=hid (fun w' h=>check_p b S cs w' (hb.ext h) hk (U8T_ext hT h) (hK.ext h))
 obtain⟨Q,hQ⟩:∃Q,Q=shortP b:=⟨_,rfl⟩
 rw[←hQ]
 unfold shortP at hQ
 have hpf:(wholeP b).2=0->b.sts.length<=64:=fun h=>(parts_full (whole_parts h)).2.2.1
 have hsl:(wholeP b).2=0->(textV (vList (b.sts.map vTxt))).length<=100000:=fun h=>sts_len (whole_parts h)
 generalize wholeP b=P at HCK hQ hpf hsl
 have HQ:=hid hQ
 have HT:=hid hT
 have HK:=hid hK
 obtain⟨seq,prev,root,sts,revs⟩:=b
 obtain⟨ps,cp,pr,cr,rfl,hbd,hS,hR⟩:=hb
 have HS:=hid hS
 have HLS:Hid (∀s∈sts,s.length<=1073741824):=hid hbd.2.2.2.2.2.2.2.2.2
 have hrl:revs.length<=1073741824:=hbd.2.2.2.2.1
 obtain⟨T,q⟩:=P
 have HPF:Hid (q=0->sts.length<=64):=hid hpf
 have HSL:Hid (q=0->(textV (vList (sts.map vTxt))).length<=100000):=hid hsl
 clear hS hR hk hT hK hbd hQ hpf hsl
 show Calls Tryz.prog 23 #[.agg #[.int .u64 (seq:Int),.string (bs prev),.string (bs root),.slice ps sts.length cp,.slice pr revs.length cr]] w _
 go_enter Tryz.func23,Tryz.ntmps23
 go_upto_region 1 with(fail)
 generalize hW0:World.alloc (World.alloc w _) _=W0
 have hd1:IsBlk W0 w.heap.size #[.int .u64 (seq:Int),.string (bs prev),.string (bs root),.slice ps sts.length cp,.slice pr revs.length cr] 28:=by rw[←hW0];exact(IsBlk.new _ _ _).alloc _
 have hz1:IsBlk W0 (w.heap.size+1) #[.int .u64 0,.string ⟨#[]⟩,.string ⟨#[]⟩,.int .u64 0,.string ⟨#[]⟩] 24:=by rw[←hW0];exact IsBlk.new_at (by simp)
 have hb0:Below w.heap.size w W0:=by rw[←hW0];exact((Below.refl _ _).alloc (Nat.le_refl _) _).alloc (by simp) _
 have HB0:=hid hb0
 have HD:=hid hd1
 have HZ:=hid hz1
 have hlt0:=hd1.lt
 have hltz:=hz1.lt
 have x0:=hd1.cell (i:=0) rfl
 have x1:=hd1.cell (i:=1) rfl
 have x2:=hd1.cell (i:=2) rfl
 have x3:=hd1.cell (i:=3) rfl
 have x4:=hd1.cell (i:=4) rfl
 clear hW0 hd1 hb0 hz1
 go_wp2_with fail
 go_at_call 31
 refine(HCK.out _ HB0.out).mono ?_
 rintro e' w1 ⟨rfl,hb1⟩
 have HB1:=hid (below_ext HB0.out hb1)
 have hd1:=HD.out.ext hb1
 have hz1:=HZ.out.ext hb1
 have HD1:=hid hd1
 have HZ1:=hid hz1
 clear x0 x1 x2 x3 x4 hb1
 have hlt1:=hd1.lt
 have hltz1:=hz1.lt
 have x0:=hd1.cell (i:=0) rfl
 have x1:=hd1.cell (i:=1) rfl
 have x2:=hd1.cell (i:=2) rfl
 have x3:=hd1.cell (i:=3) rfl
 have x4:=hd1.cell (i:=4) rfl
 by_cases hq:q=0
 case neg=>
  have hqb:(q !=0)=true:=by rw[bne_iff_ne];exact hq
  have HQ2:Hid (Q=(.zero,q)):=hid (by rw[HQ.out,if_pos hq])
  have HFIN:=hid (put_block (B:=w.heap.size) (w0:=w) (W:=w1) [.int .u64 0,.string ⟨#[]⟩,.string ⟨#[]⟩,.int .u64 0,.string ⟨#[]⟩] hz1 rfl (by omega) HB1.out)
  have u0:=hz1.cell (i:=0) rfl
  have u1:=hz1.cell (i:=1) rfl
  have u2:=hz1.cell (i:=2) rfl
  have u3:=hz1.cell (i:=3) rfl
  have u4:=hz1.cell (i:=4) rfl
  have z0:=hz1.frozen 0
  have z1:=hz1.frozen 1
  have z2:=hz1.frozen 2
  have z3:=hz1.frozen 3
  have z4:=hz1.frozen 4
  clear hq hd1 hz1
  go_wp2
  refine bodyPost_ret (results_ct (p:=2) (u:=3) (ty:=24) Tryz.results23 rfl HFIN.out.1 Tryz.underlying24 rfl (by kernel_rfl) rfl) rfl ?_
  rw[HQ2.out]
  exact⟨rfl,HFIN.out.2.1⟩
 subst hq
 have hst:sts.length<=64:=HPF.out rfl
 have HSL2:=hid (HSL.out rfl)
 have HQ2:Hid (Q=(⟨seq,prev,root,revs.length,stsT sts⟩,0)):=hid (by rw[HQ.out,if_neg (by simp)])
 clear hd1 hz1 HQ HPF HSL HCK
 go_wp2_with fail
 go_at_call 61
 refine(each_text sts S ps cp w1 (HS.out.ext HB1.out) (by omega) HLS.out).mono ?_
 rintro e' w2 ⟨pA,cA,rfl,hA,hb2⟩
 have HB2:=hid (below_ext HB1.out hb2)
 rw[List.length_map]at hA
 have HWR:=hid (write_t _ _ _ w2 hA (U8T_ext HT.out HB2.out) (by have:=HSL2.out;omega))
 have hsm:stsT sts=shaL (wrP (vList (sts.map vTxt))).1:=rfl
 have HLEN:=hid (wrP_len (vList (sts.map vTxt)))
 generalize wrP (vList (sts.map vTxt))=WV at HWR hsm HLEN
 obtain⟨wt,wy⟩:=WV
 have HSM:Hid (stsT sts=shaL wt):=hid hsm
 have HLEN2:Hid (wt.length<=16384):=hid HLEN.out
 clear hA hsm HLEN
 have HLEN:=HLEN2
 have hd2:=HD1.out.ext hb2
 have hz2:=HZ1.out.ext hb2
 have HD2:=hid hd2
 have HZ2:=hid hz2
 clear hd2 hz2 hb2 x0 x1 x2 x3 x4
 go_wp2_with fail
 go_at_call 52
 refine HWR.out.mono ?_
 rintro e' w3 ⟨rfl,hb3⟩
 have HB3:=hid (below_ext HB2.out hb3)
 have hd3:=HD2.out.ext hb3
 have hz3:=HZ2.out.ext hb3
 have HZ3:=hid hz3
 have hlt3:=hd3.lt
 have x0:=hd3.cell (i:=0) rfl
 have x1:=hd3.cell (i:=1) rfl
 have x2:=hd3.cell (i:=2) rfl
 have x3:=hd3.cell (i:=3) rfl
 have x4:=hd3.cell (i:=4) rfl
 have hrI:IntKind.u64.wrap (revs.length:Int)=(revs.length:Int):=by
  simp only[IntKind.wrap,IntKind.bits,IntKind.signed]
  first|omega|(simp;omega)
 clear hd3 hz3 hb3
 go_upto_region 5 with(fail)
 refine mixB_start [13,14] (Cls w3) (by kernel_rfl) (Cls.of ((Below.refl _ _).drew)) (fun hCw=>?_)
 refine mixB_flt (by kernel_rfl) [0,1,2,3,4,5,6,7,8,9,10] 4 _ _ hCw (by kernel_rfl) ?_
 simp only[opsAt,zo1,zo2,zo3,zo4,zo5]
 unfold Cls
 repeat(go_big_quiet_step (fail))
 refine wpQuiet_nil ?_
 (try rw[←Cls_def])
 refine mixB_ch (i:=11) (fuel:=3) (by kernel_rfl) (by kernel_rfl) ?_
 simp only[opsAt,zo1,zo2,zo3,zo4,zo5]
 go_wp2_with(go_at_call 50;go_at_call 50;refine(sum_l _ _ rfl _ (HK.out.ext (below_ext HB3.out hCw.below)) (by have:=HLEN.out;omega)).mono ?_;rintro e' w4 ⟨rfl,hb4⟩)
 refine ThenB.mk (hCw.trans hb4) (fun hCw=>?_)
 refine mixB_flt (by kernel_rfl) [12] 2 _ _ hCw (by kernel_rfl) ?_
 simp only[opsAt,zo1,zo2,zo3,zo4,zo5]
 unfold Cls
 repeat(go_big_quiet_step (fail))
 refine wpQuiet_nil ?_
 (try rw[←Cls_def])
 refine mixB_end [13,14] (by kernel_rfl) ?_
 simp only[opsAt,zo1,zo2,zo3,zo4,zo5]
 have hb34:=hCw.below
 have hz4:=HZ3.out.ext hb34
 have HB4:=hid (below_ext HB3.out hb34)
 have HFIN:=hid (put_block (B:=w.heap.size) (w0:=w) (W:=w4) [.int .u64 (seq:Int),.string (bs prev),.string (bs root),.int .u64 (revs.length:Int),.string (bs (shaL wt))] hz4 rfl (by omega) HB4.out)
 have hltz4:=hz4.lt
 have u0:=hz4.cell (i:=0) rfl
 have u1:=hz4.cell (i:=1) rfl
 have u2:=hz4.cell (i:=2) rfl
 have u3:=hz4.cell (i:=3) rfl
 have u4:=hz4.cell (i:=4) rfl
 have z0:=hz4.frozen 0
 have z1:=hz4.frozen 1
 have z2:=hz4.frozen 2
 have z3:=hz4.frozen 3
 have z4:=hz4.frozen 4
 clear hz4 hb4 hb34 hCw hrI x0 x1 x2 x3 x4
 go_wp2
 refine Calm.normal ?_
 go_wp2
 refine bodyPost_ret (results_ct (p:=2) (u:=3) (ty:=24) Tryz.results23 rfl HFIN.out.1 Tryz.underlying24 rfl (by kernel_rfl) rfl) rfl ?_
 rw[HQ2.out,HSM.out]
 exact⟨rfl,HFIN.out.2.1⟩
set_option maxHeartbeats 4000000 in
theorem rshort_p (b:DBlk) (S:Nat->Prop) (cs:List Value) (w:World) (hb:HasBlk S w b cs) (hk:∀r∈b.revs,okR r) (hT:U8T w) (hK:Ks w):
 Calls Tryz.prog 35 #[.agg cs.toArray] w (HeadOut w (shortP b)):=by
 have HCK:Hid (∀w',Below w.heap.size w w'->Calls Tryz.prog 39 #[.agg cs.toArray] w' fun e' w2=>e'=.returned (.int .i64 (wholeP b).2)/\Below w'.heap.size w' w2):=hid (fun w' h=>rcheck_p b S cs w' (hb.ext h) hk (U8T_ext hT h))
 obtain⟨Q,hQ⟩:∃Q,Q=shortP b:=⟨_,rfl⟩
 rw[←hQ]
 unfold shortP at hQ
 have hpf:(wholeP b).2=0->b.sts.length<=64:=fun h=>(parts_full (whole_parts h)).2.2.1
 have hsl:(wholeP b).2=0->(textV (vList (b.sts.map vTxt))).length<=100000:=fun h=>sts_len (whole_parts h)
 generalize wholeP b=P at HCK hQ hpf hsl
 have HQ:=hid hQ
 have HT:=hid hT
 have HK:=hid hK
 obtain⟨seq,prev,root,sts,revs⟩:=b
 obtain⟨ps,cp,pr,cr,rfl,hbd,hS,hR⟩:=hb
 have HS:=hid hS
 have HLS:Hid (∀s∈sts,s.length<=1073741824):=hid hbd.2.2.2.2.2.2.2.2.2
 have hrl:revs.length<=1073741824:=hbd.2.2.2.2.1
 obtain⟨T,q⟩:=P
 have HPF:Hid (q=0->sts.length<=64):=hid hpf
 have HSL:Hid (q=0->(textV (vList (sts.map vTxt))).length<=100000):=hid hsl
 clear hS hR hk hT hK hbd hQ hpf hsl
 show Calls Tryz.prog 35 #[.agg #[.int .u64 (seq:Int),.string (bs prev),.string (bs root),.slice ps sts.length cp,.slice pr revs.length cr]] w _
 go_enter Tryz.func35,Tryz.ntmps35
 go_upto_region 1 with(fail)
 generalize hW0:World.alloc (World.alloc w _) _=W0
 have hd1:IsBlk W0 w.heap.size #[.int .u64 (seq:Int),.string (bs prev),.string (bs root),.slice ps sts.length cp,.slice pr revs.length cr] 28:=by rw[←hW0];exact(IsBlk.new _ _ _).alloc _
 have hz1:IsBlk W0 (w.heap.size+1) #[.int .u64 0,.string ⟨#[]⟩,.string ⟨#[]⟩,.int .u64 0,.string ⟨#[]⟩] 24:=by rw[←hW0];exact IsBlk.new_at (by simp)
 have hb0:Below w.heap.size w W0:=by rw[←hW0];exact((Below.refl _ _).alloc (Nat.le_refl _) _).alloc (by simp) _
 have HB0:=hid hb0
 have HD:=hid hd1
 have HZ:=hid hz1
 have hlt0:=hd1.lt
 have hltz:=hz1.lt
 have x0:=hd1.cell (i:=0) rfl
 have x1:=hd1.cell (i:=1) rfl
 have x2:=hd1.cell (i:=2) rfl
 have x3:=hd1.cell (i:=3) rfl
 have x4:=hd1.cell (i:=4) rfl
 clear hW0 hd1 hb0 hz1
 go_wp2_with fail
 go_at_call 39
 refine(HCK.out _ HB0.out).mono ?_
 rintro e' w1 ⟨rfl,hb1⟩
 have HB1:=hid (below_ext HB0.out hb1)
 have hd1:=HD.out.ext hb1
 have hz1:=HZ.out.ext hb1
 have HD1:=hid hd1
 have HZ1:=hid hz1
 clear x0 x1 x2 x3 x4 hb1
 have hlt1:=hd1.lt
 have hltz1:=hz1.lt
 have x0:=hd1.cell (i:=0) rfl
 have x1:=hd1.cell (i:=1) rfl
 have x2:=hd1.cell (i:=2) rfl
 have x3:=hd1.cell (i:=3) rfl
 have x4:=hd1.cell (i:=4) rfl
 by_cases hq:q=0
 case neg=>
  have hqb:(q !=0)=true:=by rw[bne_iff_ne];exact hq
  have HQ2:Hid (Q=(.zero,q)):=hid (by rw[HQ.out,if_pos hq])
  have HFIN:=hid (put_block (B:=w.heap.size) (w0:=w) (W:=w1) [.int .u64 0,.string ⟨#[]⟩,.string ⟨#[]⟩,.int .u64 0,.string ⟨#[]⟩] hz1 rfl (by omega) HB1.out)
  have u0:=hz1.cell (i:=0) rfl
  have u1:=hz1.cell (i:=1) rfl
  have u2:=hz1.cell (i:=2) rfl
  have u3:=hz1.cell (i:=3) rfl
  have u4:=hz1.cell (i:=4) rfl
  have z0:=hz1.frozen 0
  have z1:=hz1.frozen 1
  have z2:=hz1.frozen 2
  have z3:=hz1.frozen 3
  have z4:=hz1.frozen 4
  clear hq hd1 hz1
  go_wp2
  refine bodyPost_ret (results_ct (p:=2) (u:=3) (ty:=24) Tryz.results35 rfl HFIN.out.1 Tryz.underlying24 rfl (by kernel_rfl) rfl) rfl ?_
  rw[HQ2.out]
  exact⟨rfl,HFIN.out.2.1⟩
 subst hq
 have hst:sts.length<=64:=HPF.out rfl
 have HSL2:=hid (HSL.out rfl)
 have HQ2:Hid (Q=(⟨seq,prev,root,revs.length,stsT sts⟩,0)):=hid (by rw[HQ.out,if_neg (by simp)])
 clear hd1 hz1 HQ HPF HSL HCK
 go_wp2_with fail
 go_at_call 76
 refine(statements_any sts S ps cp w1 (HS.out.ext HB1.out) (by omega) HLS.out).mono ?_
 rintro e' w2 ⟨pA,cA,rfl,hA,hb2⟩
 have HB2:=hid (below_ext HB1.out hb2)
 rw[List.length_map]at hA
 have HWR:=hid (rwrite_t _ _ _ w2 hA (U8T_ext HT.out HB2.out) (by have:=HSL2.out;omega))
 have hsm:stsT sts=shaL (wrP (vList (sts.map vTxt))).1:=rfl
 have HLEN:=hid (wrP_len (vList (sts.map vTxt)))
 generalize wrP (vList (sts.map vTxt))=WV at HWR hsm HLEN
 obtain⟨wt,wy⟩:=WV
 have HSM:Hid (stsT sts=shaL wt):=hid hsm
 have HLEN2:Hid (wt.length<=16384):=hid HLEN.out
 clear hA hsm HLEN
 have HLEN:=HLEN2
 have hd2:=HD1.out.ext hb2
 have hz2:=HZ1.out.ext hb2
 have HD2:=hid hd2
 have HZ2:=hid hz2
 clear hd2 hz2 hb2 x0 x1 x2 x3 x4
 go_wp2_with fail
 go_at_call 56
 refine HWR.out.mono ?_
 rintro e' w3 ⟨rfl,hb3⟩
 have HB3:=hid (below_ext HB2.out hb3)
 have hd3:=HD2.out.ext hb3
 have hz3:=HZ2.out.ext hb3
 have HZ3:=hid hz3
 have hlt3:=hd3.lt
 have x0:=hd3.cell (i:=0) rfl
 have x1:=hd3.cell (i:=1) rfl
 have x2:=hd3.cell (i:=2) rfl
 have x3:=hd3.cell (i:=3) rfl
 have x4:=hd3.cell (i:=4) rfl
 have hrI:IntKind.u64.wrap (revs.length:Int)=(revs.length:Int):=by
  simp only[IntKind.wrap,IntKind.bits,IntKind.signed]
  first|omega|(simp;omega)
 clear hd3 hz3 hb3
 go_upto_region 5 with(fail)
 refine mixB_start [13,14] (Cls w3) (by kernel_rfl) (Cls.of ((Below.refl _ _).drew)) (fun hCw=>?_)
 refine mixB_flt (by kernel_rfl) [0,1,2,3,4,5,6,7,8,9,10] 4 _ _ hCw (by kernel_rfl) ?_
 simp only[opsAt,zo1,zo2,zo3,zo4,zo5]
 unfold Cls
 repeat(go_big_quiet_step (fail))
 refine wpQuiet_nil ?_
 (try rw[←Cls_def])
 refine mixB_ch (i:=11) (fuel:=3) (by kernel_rfl) (by kernel_rfl) ?_
 simp only[opsAt,zo1,zo2,zo3,zo4,zo5]
 go_wp2_with(go_at_call 60;go_at_call 60;refine(rsum_l _ _ rfl _ (by have:=HLEN.out;omega)).mono ?_;rintro e' w4 ⟨rfl,hb4⟩)
 refine ThenB.mk (hCw.trans hb4) (fun hCw=>?_)
 refine mixB_flt (by kernel_rfl) [12] 2 _ _ hCw (by kernel_rfl) ?_
 simp only[opsAt,zo1,zo2,zo3,zo4,zo5]
 unfold Cls
 repeat(go_big_quiet_step (fail))
 refine wpQuiet_nil ?_
 (try rw[←Cls_def])
 refine mixB_end [13,14] (by kernel_rfl) ?_
 simp only[opsAt,zo1,zo2,zo3,zo4,zo5]
 have hb34:=hCw.below
 have hz4:=HZ3.out.ext hb34
 have HB4:=hid (below_ext HB3.out hb34)
 have HFIN:=hid (put_block (B:=w.heap.size) (w0:=w) (W:=w4) [.int .u64 (seq:Int),.string (bs prev),.string (bs root),.int .u64 (revs.length:Int),.string (bs (shaL wt))] hz4 rfl (by omega) HB4.out)
 have hltz4:=hz4.lt
 have u0:=hz4.cell (i:=0) rfl
 have u1:=hz4.cell (i:=1) rfl
 have u2:=hz4.cell (i:=2) rfl
 have u3:=hz4.cell (i:=3) rfl
 have u4:=hz4.cell (i:=4) rfl
 have z0:=hz4.frozen 0
 have z1:=hz4.frozen 1
 have z2:=hz4.frozen 2
 have z3:=hz4.frozen 3
 have z4:=hz4.frozen 4
 clear hz4 hb4 hb34 hCw hrI x0 x1 x2 x3 x4
 go_wp2
 refine Calm.normal ?_
 go_wp2
 refine bodyPost_ret (results_ct (p:=2) (u:=3) (ty:=24) Tryz.results35 rfl HFIN.out.1 Tryz.underlying24 rfl (by kernel_rfl) rfl) rfl ?_
 rw[HQ2.out,HSM.out]
 exact⟨rfl,HFIN.out.2.1⟩
end Go.Proofs.YtcihbnpckicljaaGreatDoor
