/- A head's text and digest: journal's and the document's HeadText, Digest. Conditions: its texts no longer than 2^30 bytes; sha's and utf8's tables read as the text lays them. -/
import Derived.Test.YtcihbnpckicljaaGreatDoorrJRevT
import Derived.Test.YtcihbnpckicljaaGreatDoorrJReadP
set_option linter.unusedVariables false
set_option linter.unusedSimpArgs false
namespace Go.Proofs.YtcihbnpckicljaaGreatDoor
open Go Go.RowKit Go.BigFrame
open Go.Lib(hid)
set_option maxRecDepth 100000
def okH (h:DHead):Prop:=h.seq<18446744073709551616/\h.prev.length<=1073741824/\h.root.length<=1073741824/\h.revs<18446744073709551616/\h.sts.length<=1073741824
theorem head_has {S:Nat->Prop} {w:World} {g:Nat} {ty:TypeId} {h:DHead} (hG:IsBlk w g ([cInt h.seq,cBlob h.prev,cBlob h.root,cInt h.revs,cBlob h.sts]:List (List Value)).flatten.toArray ty) (hS:S g) (ho:okH h):HasVal S w (headV h) (cList (some ⟨g,0,none⟩) 5 5):=
 has5 hG hS (int_has _ _ ho.1) (blob_has _ _ ho.2.1) (blob_has _ _ ho.2.2.1) (int_has _ _ ho.2.2.2.1) (blob_has _ _ ho.2.2.2.2)
theorem headT_len {h:DHead}:(headT h).length<=16384:=by
 unfold headT wrP
 repeat' split
 ·simp
 ·simp
 ·show(textV (headV h)).length<=16384
  omega
set_option maxHeartbeats 8000000 in
theorem headText_any (h:DHead) (w:World) (ho:okH h) (hT:U8T w):
 Calls Tryz.prog 17 #[.agg (headCs h).toArray] w fun e' w'=>e'=.returned (.string (bs (headT h)))/\Below w.heap.size w w':=by
 obtain⟨P,hP⟩:∃P,P=wrP (headV h):=⟨_,rfl⟩
 have hR:headT h=P.1:=by rw[hP];rfl
 rw[hR]
 have HP:=hid hP
 have HT:=hid hT
 have HO:=hid ho
 have hln:=head_len h
 have HLN:Hid ((textV (headV h)).length<=1099511627776):=hid (by
  obtain⟨_,h1,h2,_,h3⟩:=ho
  omega)
 obtain⟨h1,h2,h3,h4,h5⟩:=ho
 clear hP hR hT hln
 obtain⟨seq,prev,root,revs,sts⟩:=h
 have h1':seq<18446744073709551616:=h1
 have h4':revs<18446744073709551616:=h4
 clear h1 h2 h3 h4 h5
 show Calls Tryz.prog 17 #[.agg #[.int .u64 (seq:Int),.string (bs prev),.string (bs root),.int .u64 (revs:Int),.string (bs sts)]] w _
 go_enter Tryz.func17,Tryz.ntmps17
 go_upto_region 1 with(fail)
 generalize hW0:World.alloc w _=W0
 have hb0:Below w.heap.size w W0:=by rw[←hW0];exact(Below.refl _ _).alloc (Nat.le_refl _) _
 have hd1:IsBlk W0 w.heap.size #[.int .u64 (seq:Int),.string (bs prev),.string (bs root),.int .u64 (revs:Int),.string (bs sts)] 24:=by rw[←hW0];exact IsBlk.new _ _ _
 have HB0:=hid hb0
 have hlt0:=hd1.lt
 have x0:=hd1.cell (i:=0) rfl
 have x1:=hd1.cell (i:=1) rfl
 have x2:=hd1.cell (i:=2) rfl
 have x3:=hd1.cell (i:=3) rfl
 have x4:=hd1.cell (i:=4) rfl
 clear hW0 hd1 hb0
 refine mixB_start [] (Cls W0) (by kernel_rfl) (Cls.of ((Below.refl _ _).drew)) (fun hCw=>?_)
 refine mixB_flt (by kernel_rfl) [0,1,3,4,6,7,9,10,12,13] 13 _ _ hCw (by kernel_rfl) ?_
 simp only[opsAt,zo1,zo2,zo3,zo4,zo5]
 unfold Cls
 repeat(go_big_quiet_step (fail))
 refine wpQuiet_nil ?_
 (try rw[←Cls_def])
 refine mixB_ch (i:=2) (fuel:=12) (by kernel_rfl) (by kernel_rfl) ?_
 simp only[opsAt,zo1,zo2,zo3,zo4,zo5]
 go_wp2_with(go_at_call 54;refine(journal_whole seq _ h1').mono ?_;rintro e' w3 ⟨rfl,hb3⟩)
 refine ThenB.mk (hCw.trans hb3) (fun hCw=>?_)
 refine mixB_ch (i:=5) (fuel:=11) (by kernel_rfl) (by kernel_rfl) ?_
 simp only[opsAt,zo1,zo2,zo3,zo4,zo5]
 go_wp2_with(go_at_call 55;refine(journal_blob prev _).mono ?_;rintro e' w4 ⟨rfl,hb4⟩)
 refine ThenB.mk (hCw.trans hb4) (fun hCw=>?_)
 refine mixB_ch (i:=8) (fuel:=10) (by kernel_rfl) (by kernel_rfl) ?_
 simp only[opsAt,zo1,zo2,zo3,zo4,zo5]
 go_wp2_with(go_at_call 55;refine(journal_blob root _).mono ?_;rintro e' w5 ⟨rfl,hb5⟩)
 refine ThenB.mk (hCw.trans hb5) (fun hCw=>?_)
 refine mixB_ch (i:=11) (fuel:=9) (by kernel_rfl) (by kernel_rfl) ?_
 simp only[opsAt,zo1,zo2,zo3,zo4,zo5]
 go_wp2_with(go_at_call 54;refine(journal_whole revs _ h4').mono ?_;rintro e' w6 ⟨rfl,hb6⟩)
 refine ThenB.mk (hCw.trans hb6) (fun hCw=>?_)
 refine mixB_ch (i:=14) (fuel:=8) (by kernel_rfl) (by kernel_rfl) ?_
 simp only[opsAt,zo1,zo2,zo3,zo4,zo5]
 go_wp2_with(go_at_call 55;refine(journal_blob sts _).mono ?_;rintro e' w7 ⟨rfl,hb7⟩)
 refine ThenB.mk (hCw.trans hb7) (fun hCw=>?_)
 refine mixB_ch (i:=15) (fuel:=7) (by kernel_rfl) (by kernel_rfl) ?_
 simp only[opsAt,zo1,zo2,zo3,zo4,zo5]
 go_wp2_with(fail)
 refine ThenB.mk (hCw.trans ((Below.refl _ _).alloc (Nat.le_refl _) _)) (fun hCw=>?_)
 refine mixB_ch (i:=16) (fuel:=6) (by kernel_rfl) (by kernel_rfl) ?_
 simp only[opsAt,zo1,zo2,zo3,zo4,zo5]
 go_wp2_with(go_at_call 53;refine(journal_list _ 5 5 _).mono ?_;rintro e' w8 ⟨rfl,hb8⟩;have hG:=(IsBlk.new _ _ _).ext hb8)
 refine ThenB.mk (hCw.trans hb8) (fun hCw=>?_)
 have hV8:=head_has (S:=fun _=>True) (h:=⟨seq,prev,root,revs,sts⟩) hG trivial HO.out
 have hW8:=write_any _ _ _ _ hV8 (U8T_ext HT.out (below_ext HB0.out hCw.below)) HLN.out
 rw[←HP.out]at hW8
 refine mixB_ch (i:=17) (fuel:=5) (by kernel_rfl) (by kernel_rfl) ?_
 simp only[opsAt,zo1,zo2,zo3,zo4,zo5]
 go_wp2_with(go_at_call 52;refine hW8.mono ?_;rintro e' w9 ⟨rfl,hb9⟩)
 refine ThenB.mk (hCw.trans hb9) (fun hCw=>?_)
 refine mixB_flt (by kernel_rfl) [18,19,20,21,22] 0 _ _ hCw (by kernel_rfl) ?_
 simp only[opsAt,zo1,zo2,zo3,zo4,zo5]
 unfold Cls
 repeat(go_big_quiet_step (fail))
 refine wpQuiet_nil ?_
 (try rw[←Cls_def])
 refine mixB_end [] (by kernel_rfl) ?_
 refine wpList_nil ?_
 refine Calm.normal ?_
 have HB9:=hid (below_ext HB0.out hCw.below)
 clear hCw hb3 hb4 hb5 hb6 hb7 hb8 hb9 hG hV8 x0 x1 x2 x3 x4
 go_wp2
 go_ret
 exact⟨rfl,HB9.out⟩
set_option maxHeartbeats 4000000 in
theorem digest_any (h:DHead) (w:World) (ho:okH h) (hT:U8T w) (hK:Ks w):
 Calls Tryz.prog 19 #[.agg (headCs h).toArray] w fun e' w'=>e'=.returned (.string (bs (digP h)))/\Below w.heap.size w w':=by
 have HK:=hid hK
 have HC:Hid (∀w',Below w.heap.size w w'->Calls Tryz.prog 17 #[.agg (headCs h).toArray] w' fun e' w2=>e'=.returned (.string (bs (headT h)))/\Below w'.heap.size w' w2):=hid (fun w' hb=>headText_any h w' ho (U8T_ext hT hb))
 clear ho hT hK
 show Calls Tryz.prog 19 #[.agg #[.int .u64 (h.seq:Int),.string (bs h.prev),.string (bs h.root),.int .u64 (h.revs:Int),.string (bs h.sts)]] w _
 go_enter Tryz.func19,Tryz.ntmps19
 go_wp2_with fail
 go_at_call 17
 refine(HC.out _ ((Below.refl _ _).alloc (Nat.le_refl _) _)).mono ?_
 rintro e' w1 ⟨rfl,hb1⟩
 have HB1:=hid (below_ext ((Below.refl _ _).alloc (Nat.le_refl _) _) hb1)
 clear hb1
 go_wp2_with fail
 go_at_call 50
 refine(sum_l (headT h) _ rfl _ (HK.out.ext HB1.out) (by have:=headT_len (h:=h);omega)).mono ?_
 rintro e' w2 ⟨rfl,hb2⟩
 have HB2:=hid (below_ext HB1.out hb2)
 clear hb2
 go_wp2
 go_ret
 exact⟨rfl,HB2.out⟩
end Go.Proofs.YtcihbnpckicljaaGreatDoor
