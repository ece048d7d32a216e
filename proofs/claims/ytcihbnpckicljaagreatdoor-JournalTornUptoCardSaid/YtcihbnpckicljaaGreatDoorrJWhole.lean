/- A block's text, or why it is not right: journal.root, whether, Check, Text; the document's raw, Check, Text. Conditions: a block lies in memory; its revisions' texts no longer than 2^39 bytes; sha's and utf8's tables read as the text lays them. -/
import Derived.Test.YtcihbnpckicljaaGreatDoorrJPts
import Derived.Test.YtcihbnpckicljaaGreatDoorrJEach
set_option linter.unusedVariables false
set_option linter.unusedSimpArgs false
namespace Go.Proofs.YtcihbnpckicljaaGreatDoor
open Go Go.RowKit Go.BigFrame
open Go.Lib(hid)
set_option maxRecDepth 100000
set_option maxHeartbeats 2000000 in
theorem root_p (l:List (List UInt8)) (S:Nat->Prop) (p:Option Addr) (c:Nat) (w:World) (hK:Ks w) (hl:HasS S w p l) (hn:l.length<=1024) (hs:∀s∈l,s.length<=1099511627776):
 Calls Tryz.prog 68 #[.slice p l.length c] w fun e' w'=>e'=.returned (.string (bs (rootL l)))/\Below w.heap.size w w':=by
 have HN:=hid (new_any l S p c w hl hn)
 have HS:=hid hs
 have HKS:=hid hK
 have hkl:=hK.lt
 obtain⟨n,hnl⟩:∃n,n=l.length:=⟨_,rfl⟩
 rw[←hnl]at HN hn⊢
 have HNL:=hid hnl
 clear hl hs hK hnl
 go_enter Tryz.func68,Tryz.ntmps68
 go_wp2_with fail
 go_at_call 25
 refine HN.out.mono ?_
 rintro e' w1 ⟨g,tp,cap,rfl,ht,hb⟩
 have hg:w.heap.size<=g:=by rcases ht with⟨_,_,h,_⟩|⟨h,_⟩<;>exact h
 have HB:=hid hb
 have HT:=hid ht
 clear hb ht
 go_wp2_with fail
 go_at_call 26
 refine(root_any (fun x=>w.heap.size<=x) l g tp cap w1 (HKS.out.ext HB.out) (by omega) (by rw[←HNL.out];omega) HS.out HT.out (fun x hx=>by have:=HB.out.size;omega)).mono ?_
 rintro e' w2 ⟨rfl,b,hk,hb2,_⟩
 have HB2:=hid (HB.out.trans (hb2.mono hg))
 clear hk hb2
 go_wp2
 go_ret
 exact⟨rfl,HB2.out⟩
theorem bne_bs (a b:List UInt8):((bs a).toList !=(bs b).toList)=decide (a≠b):=by
 rw[tl_bs,tl_bs,Bool.eq_iff_iff,bne_iff_ne,decide_eq_true_iff]
def TextOut (w:World) (P:List UInt8×Int) (e':Ending) (w':World):Prop:=e'=.returned (.tuple #[.string (bs P.1),.int .i64 P.2])/\Below w.heap.size w w'
theorem blk_has {S:Nat->Prop} {w:World} {g:Nat} {ty:TypeId} {seq:Nat} {prev root:List UInt8} {sts l:List (List UInt8)} {pA pB:Option Addr} {cA cB:Nat} (hG:IsBlk w g ([cInt seq,cBlob prev,cBlob root,cList pA sts.length cA,cList pB l.length cB]:List (List Value)).flatten.toArray ty) (hS:S g)
 (h1:seq<18446744073709551616) (h2:prev.length<=1073741824) (h3:root.length<=1073741824) (hA:HasVal S w (vList (sts.map vTxt)) (cList pA sts.length cA)) (hB:HasVal S w (vList (l.map vBlob)) (cList pB l.length cB)) (revs:List DRev):
 HasVal S w (blkV ⟨seq,prev,root,sts,revs⟩ l) (cList (some ⟨g,0,none⟩) 5 5):=has5 hG hS (int_has _ _ h1) (blob_has _ _ h2) (blob_has _ _ h3) hA hB
set_option maxHeartbeats 8000000 in
theorem whether_any (b:DBlk) (S:Nat->Prop) (cs:List Value) (w:World) (hb:HasBlk S w b cs) (hk:∀r∈b.revs,okR r) (hT:U8T w) (hK:Ks w):
 Calls Tryz.prog 71 #[.agg cs.toArray] w (TextOut w (wholeP b)):=by
 obtain⟨Q,hQ⟩:∃Q,Q=wholeP b:=⟨_,rfl⟩
 rw[←hQ]
 unfold wholeP at hQ
 have hpo:=parts_full (b:=b)
 have hbl:=blk_len (b:=b)
 have hPT:=fun w' (h:Below w.heap.size w w')=>parts_any b S cs w' (by
  obtain⟨ps,cp,pr,cr,rfl,hbd,hS,hR⟩:=hb
  exact⟨ps,cp,pr,cr,rfl,hbd,hS.ext h,hR.ext relR h⟩) hk (U8T_ext hT h)
 generalize hpe:partsP b=P at hQ hPT hpo hbl
 have HQ:=hid hQ
 have HPT:=hid hPT
 have HPO:=hid hpo
 have HBL:=hid hbl
 have HT:=hid hT
 have HKS:=hid hK
 obtain⟨seq,prev,root,sts,revs⟩:=b
 obtain⟨ps,cp,pr,cr,rfl,hbd,hS,hR⟩:=hb
 have hp1:seq<18446744073709551616:=hbd.1
 have hp2:prev.length<=1073741824:=hbd.2.1
 have hp3:root.length<=1073741824:=hbd.2.2.1
 have hp4:sts.length<=1073741824:=hbd.2.2.2.1
 have HLS:Hid (∀s∈sts,s.length<=1073741824):=hid hbd.2.2.2.2.2.2.2.2.2
 have HS:=hid hS
 clear hS hR hk hT hK hbd hQ hPT hpo hbl hpe
 show Calls Tryz.prog 71 #[.agg #[.int .u64 (seq:Int),.string (bs prev),.string (bs root),.slice ps sts.length cp,.slice pr revs.length cr]] w _
 go_enter Tryz.func71,Tryz.ntmps71
 go_upto_region 1 with(fail)
 generalize hW0:World.alloc w _=W0
 have hb0:Below w.heap.size w W0:=by rw[←hW0];exact(Below.refl _ _).alloc (Nat.le_refl _) _
 have hd1:IsBlk W0 w.heap.size #[.int .u64 (seq:Int),.string (bs prev),.string (bs root),.slice ps sts.length cp,.slice pr revs.length cr] 28:=by rw[←hW0];exact IsBlk.new _ _ _
 have HB0:=hid hb0
 have HD:=hid hd1
 have hlt0:=hd1.lt
 have x0:=hd1.cell (i:=0) rfl
 have x1:=hd1.cell (i:=1) rfl
 have x2:=hd1.cell (i:=2) rfl
 have x3:=hd1.cell (i:=3) rfl
 have x4:=hd1.cell (i:=4) rfl
 clear hW0 hd1 hb0
 go_wp2_with fail
 go_at_call 67
 refine(HPT.out _ HB0.out).mono ?_
 rintro e' w1 ⟨p1,c1,rfl,⟨hc1,hc2⟩,hs1,hb1⟩
 have HS1:=hid hs1
 have HB1:=hid (below_ext HB0.out hb1)
 have hd1:=HD.out.ext hb1
 clear x0 x1 x2 x3 x4 hb1 hs1
 have hlt1:=hd1.lt
 have x0:=hd1.cell (i:=0) rfl
 have x1:=hd1.cell (i:=1) rfl
 have x2:=hd1.cell (i:=2) rfl
 have x3:=hd1.cell (i:=3) rfl
 have x4:=hd1.cell (i:=4) rfl
 have HD1:=hid hd1
 clear hd1
 obtain⟨l,q⟩:=P
 by_cases hq:q=0
 case neg=>
  have hqb:(q !=0)=true:=by rw[bne_iff_ne];exact hq
  have HQ2:Hid (Q=([],q)):=hid (by rw[HQ.out,if_pos hq])
  clear hq
  go_wp2
  go_ret2
  exact⟨by rw[HQ2.out];rfl,HB1.out⟩
 subst hq
 obtain⟨_,_,_,_,hnr,_,_,hpl,hll,hl24,_,_⟩:=HPO.out rfl
 have hpl2:l=(textsP revs).1:=by rw[←hpl]
 have HL:Hid (∀s∈l,s.length<=1024):=hid (by rw[hpl2];exact hl24)
 have hln:l.length<=64:=by rw[hpl2,hll];exact hnr
 have HBL2:Hid ((textV (blkV ⟨seq,prev,root,sts,revs⟩ l)).length<=200000):=hid (by rw[hpl2];exact HBL.out rfl)
 have HQ2:Hid (Q=if rootL l≠root then([],11)else wrP (blkV ⟨seq,prev,root,sts,revs⟩ l)):=hid (by rw[HQ.out,if_neg (by simp)])
 clear HQ HPO HBL hpl hll hl24 hpl2 hnr HPT
 obtain⟨R,hR⟩:∃R,R=rootL l:=⟨_,rfl⟩
 have HRT:Hid (∀w',Below w1.heap.size w1 w'->Calls Tryz.prog 68 #[.slice p1 l.length c1] w' fun e' w2=>e'=.returned (.string (bs R))/\Below w'.heap.size w' w2):=hid (fun w' h=>by rw[hR];exact root_p l _ p1 c1 w' ((HKS.out.ext HB1.out).ext h) (HS1.out.ext h) (by omega) (fun s hs=>by have:=HL.out s hs;omega))
 rw[←hR]at HQ2
 clear hR
 by_cases hr:R=root
 case neg=>
  have hne:((bs R).toList !=(bs root).toList)=true:=by rw[bne_bs];exact decide_eq_true hr
  have hne2:((bs R).toList==(bs root).toList)=false:=by rw[bs_beq];exact decide_eq_false hr
  have HQ3:Hid (Q=([],11)):=hid (by rw[HQ2.out,if_pos hr])
  clear hr HQ2
  go_upto_region 4 with(fail)
  refine mixB_start [] (Cls w1) (by kernel_rfl) (Cls.of ((Below.refl _ _).drew)) (fun hCw=>?_)
  refine mixB_flt (by kernel_rfl) [0,2,3] 2 _ _ hCw (by kernel_rfl) ?_
  simp only[opsAt,zo1,zo2,zo3,zo4,zo5]
  unfold Cls
  repeat(go_big_quiet_step (fail))
  refine wpQuiet_nil ?_
  (try rw[←Cls_def])
  refine mixB_ch (i:=1) (fuel:=1) (by kernel_rfl) (by kernel_rfl) ?_
  simp only[opsAt,zo1,zo2,zo3,zo4,zo5]
  go_wp2_with(go_at_call 68;refine(HRT.out _ hCw.below).mono ?_;rintro e' w2 ⟨rfl,hb2⟩)
  refine ThenB.mk (hCw.trans hb2) (fun hCw=>?_)
  refine mixB_flt (by kernel_rfl) [4] 0 _ _ hCw (by kernel_rfl) ?_
  simp only[opsAt,zo1,zo2,zo3,zo4,zo5]
  unfold Cls
  repeat(go_big_quiet_step (fail))
  refine wpQuiet_nil ?_
  (try rw[←Cls_def])
  refine mixB_end [] (by kernel_rfl) ?_
  refine wpList_nil ?_
  refine Calm.normal ?_
  have HB2:=hid (HB1.out.trans (hCw.below.mono HB1.out.size))
  clear hCw hb2 x0 x1 x2 x3 x4
  go_wp2
  go_ret2
  exact⟨by rw[HQ3.out];rfl,HB2.out⟩
 have hne:((bs R).toList !=(bs root).toList)=false:=by rw[bne_bs];exact decide_eq_false (by simpa using hr)
 have hne2:((bs R).toList==(bs root).toList)=true:=by rw[bs_beq];exact decide_eq_true hr
 have HQ3:Hid (Q=wrP (blkV ⟨seq,prev,root,sts,revs⟩ l)):=hid (by rw[HQ2.out,if_neg (by simpa using hr)])
 clear hr HQ2
 go_upto_region 4 with(fail)
 refine mixB_start [] (Cls w1) (by kernel_rfl) (Cls.of ((Below.refl _ _).drew)) (fun hCw=>?_)
 refine mixB_flt (by kernel_rfl) [0,2,3] 2 _ _ hCw (by kernel_rfl) ?_
 simp only[opsAt,zo1,zo2,zo3,zo4,zo5]
 unfold Cls
 repeat(go_big_quiet_step (fail))
 refine wpQuiet_nil ?_
 (try rw[←Cls_def])
 refine mixB_ch (i:=1) (fuel:=1) (by kernel_rfl) (by kernel_rfl) ?_
 simp only[opsAt,zo1,zo2,zo3,zo4,zo5]
 go_wp2_with(go_at_call 68;refine(HRT.out _ hCw.below).mono ?_;rintro e' w2 ⟨rfl,hb2⟩)
 refine ThenB.mk (hCw.trans hb2) (fun hCw=>?_)
 refine mixB_flt (by kernel_rfl) [4] 0 _ _ hCw (by kernel_rfl) ?_
 simp only[opsAt,zo1,zo2,zo3,zo4,zo5]
 unfold Cls
 repeat(go_big_quiet_step (fail))
 refine wpQuiet_nil ?_
 (try rw[←Cls_def])
 refine mixB_end [] (by kernel_rfl) ?_
 refine wpList_nil ?_
 refine Calm.normal ?_
 have hb12:=hCw.below
 have HB2:=hid (below_ext HB1.out hb12)
 have hd2:=HD1.out.ext hb12
 have HS2:=hid (HS1.out.ext hb12)
 clear hCw hb2 hb12 x0 x1 x2 x3 x4 hlt1 hne hne2 HD HD1 HS1
 have hlt2:=hd2.lt
 have x0:=hd2.cell (i:=0) rfl
 have x1:=hd2.cell (i:=1) rfl
 have x2:=hd2.cell (i:=2) rfl
 have x3:=hd2.cell (i:=3) rfl
 have x4:=hd2.cell (i:=4) rfl
 clear hd2
 rename_i w2
 go_upto_region 6 with(fail)
 refine mixB_start [] (Cls w2) (by kernel_rfl) (Cls.of ((Below.refl _ _).drew)) (fun hCw=>?_)
 refine mixB_flt (by kernel_rfl) [0,1,3,4,6,7,9,10,12] 12 _ _ hCw (by kernel_rfl) ?_
 simp only[opsAt,zo1,zo2,zo3,zo4,zo5]
 unfold Cls
 repeat(go_big_quiet_step (fail))
 refine wpQuiet_nil ?_
 (try rw[←Cls_def])
 refine mixB_ch (i:=2) (fuel:=11) (by kernel_rfl) (by kernel_rfl) ?_
 simp only[opsAt,zo1,zo2,zo3,zo4,zo5]
 go_wp2_with(go_at_call 54;refine(journal_whole seq _ hp1).mono ?_;rintro e' w3 ⟨rfl,hb3⟩)
 refine ThenB.mk (hCw.trans hb3) (fun hCw=>?_)
 refine mixB_ch (i:=5) (fuel:=10) (by kernel_rfl) (by kernel_rfl) ?_
 simp only[opsAt,zo1,zo2,zo3,zo4,zo5]
 go_wp2_with(go_at_call 55;refine(journal_blob prev _).mono ?_;rintro e' w4 ⟨rfl,hb4⟩)
 refine ThenB.mk (hCw.trans hb4) (fun hCw=>?_)
 refine mixB_ch (i:=8) (fuel:=9) (by kernel_rfl) (by kernel_rfl) ?_
 simp only[opsAt,zo1,zo2,zo3,zo4,zo5]
 go_wp2_with(go_at_call 55;refine(journal_blob root _).mono ?_;rintro e' w5 ⟨rfl,hb5⟩)
 refine ThenB.mk (hCw.trans hb5) (fun hCw=>?_)
 refine mixB_ch (i:=11) (fuel:=8) (by kernel_rfl) (by kernel_rfl) ?_
 simp only[opsAt,zo1,zo2,zo3,zo4,zo5]
 go_wp2_with(go_at_call 61;refine(each_text sts S ps cp _ (HS.out.ext (below_ext HB2.out hCw.below)) (by omega) HLS.out).mono ?_;rintro e' w6 ⟨pA,cA,rfl,hA,hb6⟩)
 refine ThenB.mk (hCw.trans hb6) (fun hCw=>?_)
 refine mixB_ch (i:=13) (fuel:=7) (by kernel_rfl) (by kernel_rfl) ?_
 simp only[opsAt,zo1,zo2,zo3,zo4,zo5]
 go_wp2_with(go_at_call 61;refine(each_blob l _ p1 c1 _ (HS2.out.ext hCw.below) (by omega) (fun s hs=>by have:=HL.out s hs;omega)).mono ?_;rintro e' w7 ⟨pB,cB,rfl,hB,hb7⟩)
 refine ThenB.mk (hCw.trans hb7) (fun hCw=>?_)
 refine mixB_ch (i:=14) (fuel:=6) (by kernel_rfl) (by kernel_rfl) ?_
 simp only[opsAt,zo1,zo2,zo3,zo4,zo5]
 go_wp2_with(fail)
 refine ThenB.mk (hCw.trans ((Below.refl _ _).alloc (Nat.le_refl _) _)) (fun hCw=>?_)
 refine mixB_ch (i:=15) (fuel:=5) (by kernel_rfl) (by kernel_rfl) ?_
 simp only[opsAt,zo1,zo2,zo3,zo4,zo5]
 go_wp2_with(go_at_call 53;refine(journal_list _ 5 5 _).mono ?_;rintro e' w8 ⟨rfl,hb8⟩;have hG:=(IsBlk.new _ _ _).ext hb8)
 refine ThenB.mk (hCw.trans hb8) (fun hCw=>?_)
 have hab:=below_ext ((Below.refl _ _).alloc (Nat.le_refl _) _) hb8
 have hA8:=((hA.ext hb7).ext hab).ext_to (S':=fun _=>True) (fun _ _=>trivial) (fun _ _ _=>rfl)
 have hB8:=(hB.ext hab).ext_to (S':=fun _=>True) (fun _ _=>trivial) (fun _ _ _=>rfl)
 rw[List.length_map]at hA8 hB8
 have hV8:=blk_has (pA:=pA) (pB:=pB) (cA:=cA) (cB:=cB) hG trivial hp1 hp2 hp3 hA8 hB8 revs
 have hW8:=write_any _ _ _ _ hV8 (U8T_ext HT.out (below_ext HB2.out hCw.below)) (by have:=HBL2.out;omega)
 rw[←HQ3.out]at hW8
 refine mixB_ch (i:=16) (fuel:=4) (by kernel_rfl) (by kernel_rfl) ?_
 simp only[opsAt,zo1,zo2,zo3,zo4,zo5]
 go_wp2_with(go_at_call 52;refine hW8.mono ?_;rintro e' w9 ⟨rfl,hb9⟩)
 refine ThenB.mk (hCw.trans hb9) (fun hCw=>?_)
 refine mixB_flt (by kernel_rfl) [17,18,19,20] 0 _ _ hCw (by kernel_rfl) ?_
 simp only[opsAt,zo1,zo2,zo3,zo4,zo5]
 unfold Cls
 repeat(go_big_quiet_step (fail))
 refine wpQuiet_nil ?_
 (try rw[←Cls_def])
 refine mixB_end [] (by kernel_rfl) ?_
 refine wpList_nil ?_
 refine Calm.normal ?_
 have HB9:=hid (below_ext HB2.out hCw.below)
 clear hCw hb3 hb4 hb5 hb6 hb7 hb8 hb9 hG hab hA8 hB8 hV8 x0 x1 x2 x3 x4
 go_wp2
 go_ret2
 exact⟨rfl,HB9.out⟩
set_option maxHeartbeats 4000000 in
theorem check_p (b:DBlk) (S:Nat->Prop) (cs:List Value) (w:World) (hb:HasBlk S w b cs) (hk:∀r∈b.revs,okR r) (hT:U8T w) (hK:Ks w):
 Calls Tryz.prog 31 #[.agg cs.toArray] w fun e' w'=>e'=.returned (.int .i64 (wholeP b).2)/\Below w.heap.size w w':=by
 have HPT:Hid (∀w',Below w.heap.size w w'->Calls Tryz.prog 71 #[.agg cs.toArray] w' (TextOut w' (wholeP b))):=hid (fun w' h=>whether_any b S cs w' (by
  obtain⟨ps,cp,pr,cr,rfl,hbd,hS,hR⟩:=hb
  exact⟨ps,cp,pr,cr,rfl,hbd,hS.ext h,hR.ext relR h⟩) hk (U8T_ext hT h) (hK.ext h))
 generalize wholeP b=Q at HPT⊢
 obtain⟨ps,cp,pr,cr,rfl,hbd,hS,hR⟩:=hb
 clear hS hR hk hT hK hbd
 show Calls Tryz.prog 31 #[.agg #[.int .u64 (b.seq:Int),.string (bs b.prev),.string (bs b.root),.slice ps b.sts.length cp,.slice pr b.revs.length cr]] w _
 go_enter Tryz.func31,Tryz.ntmps31
 go_wp2_with fail
 go_at_call 71
 refine(HPT.out _ ((Below.refl _ _).alloc (Nat.le_refl _) _)).mono ?_
 rintro e' w1 ⟨rfl,hb1⟩
 have HB1:=hid (below_ext ((Below.refl _ _).alloc (Nat.le_refl _) _) hb1)
 clear hb1
 go_wp2
 go_ret
 exact⟨rfl,HB1.out⟩
set_option maxHeartbeats 4000000 in
theorem text_p (b:DBlk) (S:Nat->Prop) (cs:List Value) (w:World) (hb:HasBlk S w b cs) (hk:∀r∈b.revs,okR r) (hT:U8T w) (hK:Ks w):
 Calls Tryz.prog 33 #[.agg cs.toArray] w (TextOut w (wholeP b)):=by
 have HPT:Hid (∀w',Below w.heap.size w w'->Calls Tryz.prog 71 #[.agg cs.toArray] w' (TextOut w' (wholeP b))):=hid (fun w' h=>whether_any b S cs w' (by
  obtain⟨ps,cp,pr,cr,rfl,hbd,hS,hR⟩:=hb
  exact⟨ps,cp,pr,cr,rfl,hbd,hS.ext h,hR.ext relR h⟩) hk (U8T_ext hT h) (hK.ext h))
 generalize wholeP b=Q at HPT⊢
 obtain⟨ps,cp,pr,cr,rfl,hbd,hS,hR⟩:=hb
 clear hS hR hk hT hK hbd
 show Calls Tryz.prog 33 #[.agg #[.int .u64 (b.seq:Int),.string (bs b.prev),.string (bs b.root),.slice ps b.sts.length cp,.slice pr b.revs.length cr]] w _
 go_enter Tryz.func33,Tryz.ntmps33
 go_wp2_with fail
 go_at_call 71
 refine(HPT.out _ ((Below.refl _ _).alloc (Nat.le_refl _) _)).mono ?_
 rintro e' w1 ⟨rfl,hb1⟩
 have HB1:=hid (below_ext ((Below.refl _ _).alloc (Nat.le_refl _) _) hb1)
 clear hb1
 go_wp2
 go_ret2
 exact⟨rfl,HB1.out⟩
end Go.Proofs.YtcihbnpckicljaaGreatDoor
