/- RevText of journal and of the document. Conditions: a revision lies in memory; its text no longer than 2^40 bytes; utf8's tables read as the text lays them. -/
import Derived.Test.YtcihbnpckicljaaGreatDoorrJRev
import Derived.Test.YtcihbnpckicljaaGreatDoorrJRefRev
import Derived.Test.YtcihbnpckicljaaGreatDoorrJPure
import Derived.Test.YtcihbnpckicljaaGreatDoorrGR
set_option linter.unusedVariables false
set_option linter.unusedSimpArgs false
namespace Go.Proofs.YtcihbnpckicljaaGreatDoor
open Go Go.RowKit Go.BigFrame
open Go.Lib(hid)
set_option maxRecDepth 100000
theorem ref_write_t (v:DVal) (S:Nat->Prop) (cs:List Value) (w:World) (hv:HasVal S w v cs) (hT:U8T w) (hl:(textV v).length<=1099511627776):
 Calls Tryz.prog 56 #[.agg cs.toArray] w fun e' w'=>e'=.returned (.tuple #[.string (bs (wrP v).1),.int .i64 (wrP v).2])/\Below w.heap.size w w':=ref_write_any v S cs w hv hl
theorem has5 {S:Nat->Prop} {w:World} {g:Nat} {ty:TypeId} {a b c d e:DVal} {ca cb cc cd ce:List Value} (hG:IsBlk w g ([ca,cb,cc,cd,ce]:List (List Value)).flatten.toArray ty) (hS:S g)
 (ha:HasVal S w a ca) (hb:HasVal S w b cb) (hc:HasVal S w c cc) (hd:HasVal S w d cd) (he:HasVal S w e ce):HasVal S w (vList [a,b,c,d,e]) (cList (some ⟨g,0,none⟩) 5 5):=
 list_has (l:=[a,b,c,d,e]) (hasL_blk hG hS rfl (fun i hi _=>by
  match i,hi with
  |0,_=>exact ha
  |1,_=>exact hb
  |2,_=>exact hc
  |3,_=>exact hd
  |4,_=>exact he)) (by simp) (by simp) (by unfold maxLen;omega)
set_option maxHeartbeats 8000000 in
theorem revText_any (r:DRev) (S:Nat->Prop) (cs:List Value) (w:World) (hr:HasRev S w r cs) (hT:U8T w) (hl:(textV (revV r)).length<=1099511627776):
 Calls Tryz.prog 24 #[.agg cs.toArray] w fun e' w'=>e'=.returned (.tuple #[.string (bs (revT r).1),.int .i64 (revT r).2])/\Below w.heap.size w w':=by
 obtain⟨R,hR⟩:∃R,R=revT r:=⟨_,rfl⟩
 rw[←hR]
 rw[revT]at hR
 have HRV:=hid hr
 have HT:=hid hT
 have HLN:=hid hl
 obtain⟨C,hC⟩:∃C,C=checkR r:=⟨_,rfl⟩
 have HCK:Hid (∀w',Below w.heap.size w w'->Calls Tryz.prog 63 #[.agg cs.toArray] w' fun e' w2=>e'=.returned (.int .i64 C)/\Below w'.heap.size w' w2):=hid (fun w' hb=>by rw[hC];exact chkR_any r S cs w' (relR.kept hr (fun _ h=>h) (fun b _ hlt=>hb.block b hlt)) (U8T_ext hT hb))
 obtain⟨P,hP⟩:∃P,P=wrP (revV r):=⟨_,rfl⟩
 rw[←hC,←hP]at hR
 have HR:=hid hR
 have HP:=hid hP
 clear hR hP hC hT hl
 obtain⟨k,t,d,n,v⟩:=r
 obtain⟨cs',rfl,⟨hk,htl,hdl,hnl⟩,hv⟩:=hr
 obtain⟨vk,vb,vn,vs,vl,vf⟩:=v
 have HV:=hid hv
 obtain⟨pl,cl,pf,cf,rfl,_⟩:=hasVal_mk.1 hv
 clear hv
 have hkk:k<18446744073709551616:=by have:k<256:=hk;omega
 have hdl':d<18446744073709551616:=hdl
 have hnl':n<18446744073709551616:=hnl
 have htl':t.length<=1073741824:=htl
 clear hdl hnl htl
 show Calls Tryz.prog 24 #[.agg #[.int .u8 (k:Int),.string (bs t),.int .u64 (d:Int),.int .u64 (n:Int),.int .u8 (vk:Int),.bool vb,.int .i64 vn,.string (bs vs),.slice pl vl.length cl,.slice pf vf.length cf]] w _
 go_enter Tryz.func24,Tryz.ntmps24
 go_upto_region 1 with(fail)
 generalize hW0:World.alloc w _=W0
 have hd1:IsBlk W0 w.heap.size #[.int .u8 (k:Int),.string (bs t),.int .u64 (d:Int),.int .u64 (n:Int),.int .u8 (vk:Int),.bool vb,.int .i64 vn,.string (bs vs),.slice pl vl.length cl,.slice pf vf.length cf] 54:=by rw[←hW0];exact IsBlk.new _ _ _
 have hb0:Below w.heap.size w W0:=by rw[←hW0];exact(Below.refl _ _).alloc (Nat.le_refl _) _
 have HB0:=hid hb0
 have HD:=hid hd1
 have hlt:=hd1.lt
 have x0:=hd1.cell (i:=0) rfl
 have x1:=hd1.cell (i:=1) rfl
 have x2:=hd1.cell (i:=2) rfl
 have x3:=hd1.cell (i:=3) rfl
 have x4:=hd1.cell (i:=4) rfl
 have x5:=hd1.cell (i:=5) rfl
 have x6:=hd1.cell (i:=6) rfl
 have x7:=hd1.cell (i:=7) rfl
 have x8:=hd1.cell (i:=8) rfl
 have x9:=hd1.cell (i:=9) rfl
 clear hW0 hd1 hb0
 go_wp2_with fail
 go_at_call 63
 refine(HCK.out _ HB0.out).mono ?_
 rintro e' w1 ⟨rfl,hb1⟩
 have hd1:=HD.out.ext hb1
 have HB1:=hid (HB0.out.trans (hb1.mono HB0.out.size))
 have HD1:=hid hd1
 clear x0 x1 x2 x3 x4 x5 x6 x7 x8 x9 hb1 hlt
 have hlt:=hd1.lt
 have x0:=hd1.cell (i:=0) rfl
 have x1:=hd1.cell (i:=1) rfl
 have x2:=hd1.cell (i:=2) rfl
 have x3:=hd1.cell (i:=3) rfl
 have x4:=hd1.cell (i:=4) rfl
 have x5:=hd1.cell (i:=5) rfl
 have x6:=hd1.cell (i:=6) rfl
 have x7:=hd1.cell (i:=7) rfl
 have x8:=hd1.cell (i:=8) rfl
 have x9:=hd1.cell (i:=9) rfl
 clear hd1
 by_cases hc:C=0
 case neg=>
  have hcb:(C !=0)=true:=by rw[bne_iff_ne];exact hc
  have HR2:Hid (R=([],C)):=hid (by rw[HR.out,if_pos hc])
  clear hc
  go_wp2
  go_ret2
  exact⟨by rw[HR2.out];rfl,HB1.out⟩
 subst hc
 have HR2:Hid (R=if P.2≠0\/1024<P.1.length then([],4)else(P.1,0)):=hid (by rw[HR.out,if_neg (by simp)])
 clear HR
 go_upto_region 4 with(fail)
 refine mixB_start [] (Cls w1) (by kernel_rfl) (Cls.of ((Below.refl _ _).drew)) (fun hCw=>?_)
 refine mixB_flt (by kernel_rfl) [0,1,2,4,5,7,8,10,11,13,14] 12 _ _ hCw (by kernel_rfl) ?_
 simp only[opsAt,zo1,zo2,zo3,zo4,zo5]
 unfold Cls
 repeat(go_big_quiet_step (fail))
 refine wpQuiet_nil ?_
 (try rw[←Cls_def])
 refine mixB_ch (i:=3) (fuel:=11) (by kernel_rfl) (by kernel_rfl) ?_
 simp only[opsAt,zo1,zo2,zo3,zo4,zo5]
 go_wp2_with(go_at_call 54;refine(journal_whole k _ hkk).mono ?_;rintro e' w3 ⟨rfl,hb3⟩)
 refine ThenB.mk (hCw.trans hb3) (fun hCw=>?_)
 refine mixB_ch (i:=6) (fuel:=10) (by kernel_rfl) (by kernel_rfl) ?_
 simp only[opsAt,zo1,zo2,zo3,zo4,zo5]
 go_wp2_with(go_at_call 62;refine(journal_text t _).mono ?_;rintro e' w4 ⟨rfl,hb4⟩)
 refine ThenB.mk (hCw.trans hb4) (fun hCw=>?_)
 refine mixB_ch (i:=9) (fuel:=9) (by kernel_rfl) (by kernel_rfl) ?_
 simp only[opsAt,zo1,zo2,zo3,zo4,zo5]
 go_wp2_with(go_at_call 54;refine(journal_whole d _ hdl').mono ?_;rintro e' w5 ⟨rfl,hb5⟩)
 refine ThenB.mk (hCw.trans hb5) (fun hCw=>?_)
 refine mixB_ch (i:=12) (fuel:=8) (by kernel_rfl) (by kernel_rfl) ?_
 simp only[opsAt,zo1,zo2,zo3,zo4,zo5]
 go_wp2_with(go_at_call 54;refine(journal_whole n _ hnl').mono ?_;rintro e' w6 ⟨rfl,hb6⟩)
 refine ThenB.mk (hCw.trans hb6) (fun hCw=>?_)
 refine mixB_ch (i:=15) (fuel:=7) (by kernel_rfl) (by kernel_rfl) ?_
 simp only[opsAt,zo1,zo2,zo3,zo4,zo5]
 go_wp2_with(fail)
 refine ThenB.mk (hCw.trans ((Below.refl _ _).alloc (Nat.le_refl _) _)) (fun hCw=>?_)
 refine mixB_ch (i:=16) (fuel:=6) (by kernel_rfl) (by kernel_rfl) ?_
 simp only[opsAt,zo1,zo2,zo3,zo4,zo5]
 go_wp2_with(go_at_call 53;refine(journal_list _ 5 5 _).mono ?_;rintro e' w7 ⟨rfl,hb7⟩;have hG:=(IsBlk.new _ _ _).ext hb7)
 refine ThenB.mk (hCw.trans hb7) (fun hCw=>?_)
 have hV7:=has5 (S:=fun _=>True) (ca:=cInt k) (cb:=cTxt t) (cc:=cInt d) (cd:=cInt n) (ce:=[.int .u8 (vk:Int),.bool vb,.int .i64 vn,.string (bs vs),.slice pl vl.length cl,.slice pf vf.length cf]) hG trivial (int_has _ _ hkk) (txt_has _ _ htl') (int_has _ _ hdl') (int_has _ _ hnl') ((HV.out.ext (HB1.out.trans (hCw.below.mono HB1.out.size))).ext_to (fun _ _=>trivial) (fun _ _ _=>rfl))
 have hT7:=U8T_ext HT.out (HB1.out.trans (hCw.below.mono HB1.out.size))
 have hW8:=write_any _ _ _ _ hV7 hT7 HLN.out
 rw[show wrP (vList [vInt k,vTxt t,vInt d,vInt n,.mk vk vb vn vs vl vf])=P from HP.out.symm]at hW8
 refine mixB_ch (i:=17) (fuel:=5) (by kernel_rfl) (by kernel_rfl) ?_
 simp only[opsAt,zo1,zo2,zo3,zo4,zo5]
 go_wp2_with(go_at_call 52;refine hW8.mono ?_;rintro e' w8 ⟨rfl,hb8⟩)
 refine ThenB.mk (hCw.trans hb8) (fun hCw=>?_)
 refine mixB_flt (by kernel_rfl) [18,19,20,21,22] 0 _ _ hCw (by kernel_rfl) ?_
 simp only[opsAt,zo1,zo2,zo3,zo4,zo5]
 unfold Cls
 repeat(go_big_quiet_step (fail))
 refine wpQuiet_nil ?_
 (try rw[←Cls_def])
 refine mixB_end [] (by kernel_rfl) ?_
 refine wpList_nil ?_
 refine Calm.normal ?_
 have HB8:=hid (HB1.out.trans (hCw.below.mono HB1.out.size))
 have hpl:(bs P.1).size=P.1.length:=bs_size _
 clear hCw hb3 hb4 hb5 hb6 hb7 hb8 hG hV7 hT7 x0 x1 x2 x3 x4 x5 x6 x7 x8 x9
 obtain⟨T,y⟩:=P
 by_cases hy:y=0
 case neg=>
  have hcb:(y !=0)=true:=by rw[bne_iff_ne];exact hy
  have HR3:Hid (R=([],4)):=hid (by rw[HR2.out,if_pos (.inl hy)])
  clear hy HR2
  go_wp2
  go_ret2
  exact⟨by rw[HR3.out];rfl,HB8.out⟩
 subst hy
 by_cases hlen:1024<T.length
 ·have hlI:(1024:Int)<(T.length:Int):=by omega
  have HR3:Hid (R=([],4)):=hid (by rw[HR2.out,if_pos (.inr hlen)])
  clear HR2
  go_wp2
  go_ret2
  exact⟨by rw[HR3.out];rfl,HB8.out⟩
 ·have hlI:(T.length:Int)<=1024:=by omega
  have HR3:Hid (R=(T,0)):=hid (by rw[HR2.out,if_neg (by simp;omega)])
  clear HR2
  go_wp2
  go_ret2
  exact⟨by rw[HR3.out];rfl,HB8.out⟩
set_option maxHeartbeats 8000000 in
theorem rrevText_any (r:DRev) (S:Nat->Prop) (cs:List Value) (w:World) (hr:HasRev S w r cs) (hT:U8T w) (hl:(textV (revV r)).length<=1099511627776):
 Calls Tryz.prog 38 #[.agg cs.toArray] w fun e' w'=>e'=.returned (.tuple #[.string (bs (revT r).1),.int .i64 (revT r).2])/\Below w.heap.size w w':=by
 obtain⟨R,hR⟩:∃R,R=revT r:=⟨_,rfl⟩
 rw[←hR]
 rw[revT]at hR
 have HRV:=hid hr
 have HT:=hid hT
 have HLN:=hid hl
 obtain⟨C,hC⟩:∃C,C=checkR r:=⟨_,rfl⟩
 have HCK:Hid (∀w',Below w.heap.size w w'->Calls Tryz.prog 78 #[.agg cs.toArray] w' fun e' w2=>e'=.returned (.int .i64 C)/\Below w'.heap.size w' w2):=hid (fun w' hb=>by rw[hC];exact rchkR_any r S cs w' (relR.kept hr (fun _ h=>h) (fun b _ hlt=>hb.block b hlt)) (U8T_ext hT hb))
 obtain⟨P,hP⟩:∃P,P=wrP (revV r):=⟨_,rfl⟩
 rw[←hC,←hP]at hR
 have HR:=hid hR
 have HP:=hid hP
 clear hR hP hC hT hl
 obtain⟨k,t,d,n,v⟩:=r
 obtain⟨cs',rfl,⟨hk,htl,hdl,hnl⟩,hv⟩:=hr
 obtain⟨vk,vb,vn,vs,vl,vf⟩:=v
 have HV:=hid hv
 obtain⟨pl,cl,pf,cf,rfl,_⟩:=hasVal_mk.1 hv
 clear hv
 have hkk:k<18446744073709551616:=by have:k<256:=hk;omega
 have hdl':d<18446744073709551616:=hdl
 have hnl':n<18446744073709551616:=hnl
 have htl':t.length<=1073741824:=htl
 clear hdl hnl htl
 show Calls Tryz.prog 38 #[.agg #[.int .u8 (k:Int),.string (bs t),.int .u64 (d:Int),.int .u64 (n:Int),.int .u8 (vk:Int),.bool vb,.int .i64 vn,.string (bs vs),.slice pl vl.length cl,.slice pf vf.length cf]] w _
 go_enter Tryz.func38,Tryz.ntmps38
 go_upto_region 1 with(fail)
 generalize hW0:World.alloc w _=W0
 have hd1:IsBlk W0 w.heap.size #[.int .u8 (k:Int),.string (bs t),.int .u64 (d:Int),.int .u64 (n:Int),.int .u8 (vk:Int),.bool vb,.int .i64 vn,.string (bs vs),.slice pl vl.length cl,.slice pf vf.length cf] 54:=by rw[←hW0];exact IsBlk.new _ _ _
 have hb0:Below w.heap.size w W0:=by rw[←hW0];exact(Below.refl _ _).alloc (Nat.le_refl _) _
 have HB0:=hid hb0
 have HD:=hid hd1
 have hlt:=hd1.lt
 have x0:=hd1.cell (i:=0) rfl
 have x1:=hd1.cell (i:=1) rfl
 have x2:=hd1.cell (i:=2) rfl
 have x3:=hd1.cell (i:=3) rfl
 have x4:=hd1.cell (i:=4) rfl
 have x5:=hd1.cell (i:=5) rfl
 have x6:=hd1.cell (i:=6) rfl
 have x7:=hd1.cell (i:=7) rfl
 have x8:=hd1.cell (i:=8) rfl
 have x9:=hd1.cell (i:=9) rfl
 clear hW0 hd1 hb0
 go_wp2_with fail
 go_at_call 78
 refine(HCK.out _ HB0.out).mono ?_
 rintro e' w1 ⟨rfl,hb1⟩
 have hd1:=HD.out.ext hb1
 have HB1:=hid (HB0.out.trans (hb1.mono HB0.out.size))
 have HD1:=hid hd1
 clear x0 x1 x2 x3 x4 x5 x6 x7 x8 x9 hb1 hlt
 have hlt:=hd1.lt
 have x0:=hd1.cell (i:=0) rfl
 have x1:=hd1.cell (i:=1) rfl
 have x2:=hd1.cell (i:=2) rfl
 have x3:=hd1.cell (i:=3) rfl
 have x4:=hd1.cell (i:=4) rfl
 have x5:=hd1.cell (i:=5) rfl
 have x6:=hd1.cell (i:=6) rfl
 have x7:=hd1.cell (i:=7) rfl
 have x8:=hd1.cell (i:=8) rfl
 have x9:=hd1.cell (i:=9) rfl
 clear hd1
 by_cases hc:C=0
 case neg=>
  have hcb:(C !=0)=true:=by rw[bne_iff_ne];exact hc
  have HR2:Hid (R=([],C)):=hid (by rw[HR.out,if_pos hc])
  clear hc
  go_wp2
  go_ret2
  exact⟨by rw[HR2.out];rfl,HB1.out⟩
 subst hc
 have HR2:Hid (R=if P.2≠0\/1024<P.1.length then([],4)else(P.1,0)):=hid (by rw[HR.out,if_neg (by simp)])
 clear HR
 go_upto_region 4 with(fail)
 refine mixB_start [] (Cls w1) (by kernel_rfl) (Cls.of ((Below.refl _ _).drew)) (fun hCw=>?_)
 refine mixB_flt (by kernel_rfl) [0,1,2,4,5,7,8,10,11,13,14] 12 _ _ hCw (by kernel_rfl) ?_
 simp only[opsAt,zo1,zo2,zo3,zo4,zo5]
 unfold Cls
 repeat(go_big_quiet_step (fail))
 refine wpQuiet_nil ?_
 (try rw[←Cls_def])
 refine mixB_ch (i:=3) (fuel:=11) (by kernel_rfl) (by kernel_rfl) ?_
 simp only[opsAt,zo1,zo2,zo3,zo4,zo5]
 go_wp2_with(go_at_call 58;refine(codicilref06_whole k _ hkk).mono ?_;rintro e' w3 ⟨rfl,hb3⟩)
 refine ThenB.mk (hCw.trans hb3) (fun hCw=>?_)
 refine mixB_ch (i:=6) (fuel:=10) (by kernel_rfl) (by kernel_rfl) ?_
 simp only[opsAt,zo1,zo2,zo3,zo4,zo5]
 go_wp2_with(go_at_call 79;refine(codicilref06_text t _).mono ?_;rintro e' w4 ⟨rfl,hb4⟩)
 refine ThenB.mk (hCw.trans hb4) (fun hCw=>?_)
 refine mixB_ch (i:=9) (fuel:=9) (by kernel_rfl) (by kernel_rfl) ?_
 simp only[opsAt,zo1,zo2,zo3,zo4,zo5]
 go_wp2_with(go_at_call 58;refine(codicilref06_whole d _ hdl').mono ?_;rintro e' w5 ⟨rfl,hb5⟩)
 refine ThenB.mk (hCw.trans hb5) (fun hCw=>?_)
 refine mixB_ch (i:=12) (fuel:=8) (by kernel_rfl) (by kernel_rfl) ?_
 simp only[opsAt,zo1,zo2,zo3,zo4,zo5]
 go_wp2_with(go_at_call 58;refine(codicilref06_whole n _ hnl').mono ?_;rintro e' w6 ⟨rfl,hb6⟩)
 refine ThenB.mk (hCw.trans hb6) (fun hCw=>?_)
 refine mixB_ch (i:=15) (fuel:=7) (by kernel_rfl) (by kernel_rfl) ?_
 simp only[opsAt,zo1,zo2,zo3,zo4,zo5]
 go_wp2_with(fail)
 refine ThenB.mk (hCw.trans ((Below.refl _ _).alloc (Nat.le_refl _) _)) (fun hCw=>?_)
 refine mixB_ch (i:=16) (fuel:=6) (by kernel_rfl) (by kernel_rfl) ?_
 simp only[opsAt,zo1,zo2,zo3,zo4,zo5]
 go_wp2_with(go_at_call 57;refine(codicilref06_list _ 5 5 _).mono ?_;rintro e' w7 ⟨rfl,hb7⟩;have hG:=(IsBlk.new _ _ _).ext hb7)
 refine ThenB.mk (hCw.trans hb7) (fun hCw=>?_)
 have hV7:=has5 (S:=fun _=>True) (ca:=cInt k) (cb:=cTxt t) (cc:=cInt d) (cd:=cInt n) (ce:=[.int .u8 (vk:Int),.bool vb,.int .i64 vn,.string (bs vs),.slice pl vl.length cl,.slice pf vf.length cf]) hG trivial (int_has _ _ hkk) (txt_has _ _ htl') (int_has _ _ hdl') (int_has _ _ hnl') ((HV.out.ext (HB1.out.trans (hCw.below.mono HB1.out.size))).ext_to (fun _ _=>trivial) (fun _ _ _=>rfl))
 have hT7:=U8T_ext HT.out (HB1.out.trans (hCw.below.mono HB1.out.size))
 have hW8:=ref_write_t _ _ _ _ hV7 hT7 HLN.out
 rw[show wrP (vList [vInt k,vTxt t,vInt d,vInt n,.mk vk vb vn vs vl vf])=P from HP.out.symm]at hW8
 refine mixB_ch (i:=17) (fuel:=5) (by kernel_rfl) (by kernel_rfl) ?_
 simp only[opsAt,zo1,zo2,zo3,zo4,zo5]
 go_wp2_with(go_at_call 56;refine hW8.mono ?_;rintro e' w8 ⟨rfl,hb8⟩)
 refine ThenB.mk (hCw.trans hb8) (fun hCw=>?_)
 refine mixB_flt (by kernel_rfl) [18,19,20,21,22] 0 _ _ hCw (by kernel_rfl) ?_
 simp only[opsAt,zo1,zo2,zo3,zo4,zo5]
 unfold Cls
 repeat(go_big_quiet_step (fail))
 refine wpQuiet_nil ?_
 (try rw[←Cls_def])
 refine mixB_end [] (by kernel_rfl) ?_
 refine wpList_nil ?_
 refine Calm.normal ?_
 have HB8:=hid (HB1.out.trans (hCw.below.mono HB1.out.size))
 have hpl:(bs P.1).size=P.1.length:=bs_size _
 clear hCw hb3 hb4 hb5 hb6 hb7 hb8 hG hV7 hT7 x0 x1 x2 x3 x4 x5 x6 x7 x8 x9
 obtain⟨T,y⟩:=P
 by_cases hy:y=0
 case neg=>
  have hcb:(y !=0)=true:=by rw[bne_iff_ne];exact hy
  have HR3:Hid (R=([],4)):=hid (by rw[HR2.out,if_pos (.inl hy)])
  clear hy HR2
  go_wp2
  go_ret2
  exact⟨by rw[HR3.out];rfl,HB8.out⟩
 subst hy
 by_cases hlen:1024<T.length
 ·have hlI:(1024:Int)<(T.length:Int):=by omega
  have HR3:Hid (R=([],4)):=hid (by rw[HR2.out,if_pos (.inr hlen)])
  clear HR2
  go_wp2
  go_ret2
  exact⟨by rw[HR3.out];rfl,HB8.out⟩
 ·have hlI:(T.length:Int)<=1024:=by omega
  have HR3:Hid (R=(T,0)):=hid (by rw[HR2.out,if_neg (by simp;omega)])
  clear HR2
  go_wp2
  go_ret2
  exact⟨by rw[HR3.out];rfl,HB8.out⟩
end Go.Proofs.YtcihbnpckicljaaGreatDoor
