/- What the statements of the journal ask first: answers that the document gives. Conditions: the tables read as the text lays them. -/
import Derived.Test.YtcihbnpckicljaaGreatDoorrJMake
import Derived.Test.YtcihbnpckicljaaGreatDoorrJLivesP
set_option linter.unusedVariables false
set_option linter.unusedSimpArgs false
namespace Go.Proofs.YtcihbnpckicljaaGreatDoor
open Go Go.RowKit Go.BigFrame
open Go.Lib(hid)
set_option maxRecDepth 100000
set_option maxHeartbeats 2000000 in
theorem first6_any (w:World):Calls Tryz.prog 22 #[] w fun e' w'=>e'=.returned (.string (bs zero32))/\Below w.heap.size w w':=by
 have hmk:=make32 w
 have hcv:=conv32 w
 go_enter Tryz.func22,Tryz.ntmps22
 go_wp2
 go_ret
 exact⟨rfl,(Below.refl _ _).alloc (Nat.le_refl _) _⟩
def r0Cs :List Value:=[.int .u8 1,.string ⟨#[116]⟩,.int .u64 0,.int .u64 0,.int .u8 0,.bool false,.int .i64 0,.string ⟨#[]⟩,.slice none 0 0,.slice none 0 0]
theorem r0_has (S:Nat->Prop) (w:World):HasRev S w r0 r0Cs:=
 ⟨_,rfl,⟨by decide,by decide,by decide,by decide⟩,hasVal_mk.2 ⟨none,0,none,0,rfl,⟨by decide,by decide,by decide,by decide,by decide,by decide,Nat.le_refl _,by unfold maxLen;omega,Nat.le_refl _,by unfold maxLen;omega⟩,fun i hi=>by simp at hi,fun i hi=>by simp at hi⟩⟩
theorem r0_ok :okR r0:=⟨by decide,by decide⟩
theorem row0 {w:World} {g:Nat} (h:IsBlk w g r0Cs.toArray 54):RowIn HasRev 10 (fun _=>True) w (some ⟨g,0,none⟩) [r0]:=fun i hi=>by
 obtain rfl:i=0:=by simpa using hi
 refine⟨g,0,r0Cs,rfl,⟨trivial,h.lt,fun j hj=>?_⟩,r0_has _ _⟩
 have e:r0Cs[j]?=some r0Cs[j]:=List.getElem?_eq_getElem hj
 rw[e,Nat.zero_mul,Nat.zero_add]
 exact h.cell (by simp)
def Made0 (W:World) (e':Ending) (w':World):Prop:=∃ps cp pr cr,e'=.returned (.tuple #[.agg #[.int .u64 1,.string (bs zero32),.string (bs b0.root),.slice ps 0 cp,.slice pr 1 cr],.int .i64 0])∧
 HasBlk (fun b=>W.heap.size<=b) w' b0 [.int .u64 1,.string (bs zero32),.string (bs b0.root),.slice ps 0 cp,.slice pr 1 cr]/\Below W.heap.size W w'
theorem make0_any (W:World) (g:Nat) (h:IsBlk W g r0Cs.toArray 54) (hT:U8T W) (hK:Ks W):
 Calls Tryz.prog 29 #[.int .u64 1,.string (bs zero32),.slice none 0 0,.slice (some ⟨g,0,none⟩) 1 1] W (Made0 W):=by
 refine(make_p 1 zero32 [] [r0] (fun _=>True) none (some ⟨g,0,none⟩) 0 1 W ⟨none,0,some ⟨g,0,none⟩,1,rfl,⟨by decide,by decide,by decide,by decide,by decide,Nat.le_refl _,by unfold maxLen;omega,Nat.le_refl _,by unfold maxLen;omega,fun s hs=>by cases hs⟩,fun i hi=>by simp at hi,row0 h⟩ (fun r hr=>by
  obtain rfl:r=r0:=by simpa using hr
  exact r0_ok) hT hK).mono ?_
 rintro e' w' ⟨cs,rfl,hb,hbw⟩
 rw[make0]at hb⊢
 have hb':=hb
 obtain⟨ps,cp,pr,cr,rfl,_⟩:=hb'
 exact⟨ps,cp,pr,cr,rfl,hb,hbw⟩
theorem frame0 :frameP b0=((frameP b0).1,0):=by
 unfold frameP
 rw[whole0,if_neg (by simp)]
theorem frame0_len :(frameP b0).1.length<=20000:=by
 have h:=whole_len (b:=b0) whole0
 have hf:(frameP b0).1=framedP (wholeP b0).1:=by
  unfold frameP
  rw[whole0,if_neg (by simp)]
 rw[hf,framed_len]
 omega
theorem b0_ok :∀r∈b0.revs,okR r:=fun r hr=>by
 obtain rfl:r=r0:=by
  have:r∈[r0]:=hr
  simpa using this
 exact r0_ok
def LivesSt (w:World) (b2:Nat) (ps pr:Option Addr) (cp cr:Nat) (W:World):Prop:=Below w.heap.size w W/\IsBlk W w.heap.size #[.int .u8 1,.string ⟨#[116]⟩,.int .u64 0,.int .u64 0,.int .u8 0,.bool false,.int .i64 0,.string ⟨#[]⟩,.slice none 0 0,.slice none 0 0] 54/\IsBlk W b2 #[.int .u64 1,.string (bs zero32),.string (bs b0.root),.slice ps 0 cp,.slice pr 1 cr] 28/\HasBlk (fun b=>w.heap.size<=b/\b≠b2) W b0 [.int .u64 1,.string (bs zero32),.string (bs b0.root),.slice ps 0 cp,.slice pr 1 cr]
theorem meet_lives {w W:World} {b2:Nat} {ps pr:Option Addr} {cp cr:Nat} (hb:Below w.heap.size w W) (h1:IsBlk W w.heap.size #[.int .u8 1,.string ⟨#[116]⟩,.int .u64 0,.int .u64 0,.int .u8 0,.bool false,.int .i64 0,.string ⟨#[]⟩,.slice none 0 0,.slice none 0 0] 54) (h2:IsBlk W b2 #[.int .u64 0,.string ⟨#[]⟩,.string ⟨#[]⟩,.slice none 0 0,.slice none 0 0] 28)
 (hm:HasBlk (fun b=>w.heap.size<=b/\b≠b2) W b0 [.int .u64 1,.string (bs zero32),.string (bs b0.root),.slice ps 0 cp,.slice pr 1 cr]) (hlt:w.heap.size<b2):LivesSt w b2 ps pr cp cr (W.setCells b2 0 [.int .u64 1,.string (bs zero32),.string (bs b0.root),.slice ps 0 cp,.slice pr 1 cr]):=
 ⟨below_setCells (by omega) _ _ _ hb,(other_setCells (by omega) _ _ _).trans h1,blk_setCells [.int .u64 1,.string (bs zero32),.string (bs b0.root),.slice ps 0 cp,.slice pr 1 cr] 0 W [.int .u64 0,.string ⟨#[]⟩,.string ⟨#[]⟩,.slice none 0 0,.slice none 0 0] h2,hm.kept (fun _ h=>h) (fun b hb _=>other_setCells hb.2 _ _ _)⟩
set_option maxHeartbeats 16000000 in
theorem lives_any (w:World) (hT:U8T w) (hK:Ks w):Calls Tryz.prog 14 #[] w fun e' w'=>e'=.returned (.bool true)/\Below w.heap.size w w':=by
 have HT:=hid hT
 have HK:=hid hK
 clear hT hK
 go_enter Tryz.func14,Tryz.ntmps14
 go_upto_region 2 with(fail)
 generalize hW1:World.alloc w _=W1
 have hb1:Below w.heap.size w W1:=by rw[←hW1];exact(Below.refl _ _).alloc (Nat.le_refl _) _
 have h1:IsBlk W1 w.heap.size #[.int .u8 1,.string ⟨#[116]⟩,.int .u64 0,.int .u64 0,.int .u8 0,.bool false,.int .i64 0,.string ⟨#[]⟩,.slice none 0 0,.slice none 0 0] 54:=by rw[←hW1];exact IsBlk.new _ _ _
 have HB1:=hid hb1
 have H11:=hid h1
 have hlt1:=h1.lt
 clear hW1 hb1 h1
 go_cut [2,3] (fun s2 s3 W=>∃b2 ps cp pr cr,s2=.pointer (some ⟨b2,0,none⟩)/\s3=.int .i64 0/\LivesSt w b2 ps pr cp cr W)
 case first=>
  have h1:=H11.out
  have x0:=h1.cell (i:=0) rfl
  have x1:=h1.cell (i:=1) rfl
  have x2:=h1.cell (i:=2) rfl
  have x3:=h1.cell (i:=3) rfl
  have x4:=h1.cell (i:=4) rfl
  have x5:=h1.cell (i:=5) rfl
  have x6:=h1.cell (i:=6) rfl
  have x7:=h1.cell (i:=7) rfl
  have x8:=h1.cell (i:=8) rfl
  have x9:=h1.cell (i:=9) rfl
  refine mixB_start [9] (Cls W1) (by kernel_rfl) (Cls.of ((Below.refl _ _).drew)) (fun hCw=>?_)
  generalize hV0:({W1 with drawn:=W1.drawn+1}:World)=V0 at hCw⊢
  have hbV0:Below W1.heap.size W1 V0:=by rw[←hV0];exact(Below.refl _ _).drew
  have HBWV0:=hid (below_ext HB1.out hbV0)
  have H1V0:=hid (H11.out.ext hbV0)
  have hzV0:=hbV0.size
  clear hV0 hbV0 h1
  refine mixB_flt (by kernel_rfl) [1] 9 _ _ hCw (by kernel_rfl) ?_
  simp only[opsAt,zo1,zo2,zo3,zo4,zo5]
  unfold Cls
  repeat(go_big_quiet_step (fail))
  refine wpQuiet_nil ?_
  (try rw[←Cls_def])
  clear x0 x1 x2 x3 x4 x5 x6 x7 x8 x9
  refine mixB_br3 (i:=0) (j:=2) (k:=7) (fuel:=8) (by kernel_rfl) (by kernel_rfl) ?_ ?_ ?_
  ·simp only[opsAt,zo1,zo2,zo3,zo4,zo5]
   go_wp2_with(go_at_call 22;refine(first6_any V0).mono ?_;rintro e' V1 ⟨rfl,hbV1⟩)
   refine ThenB.mk (hCw.trans hbV1) (fun hCw=>?_)
   have HBWV1:=hid (below_ext HBWV0.out hbV1)
   have H1V1:=hid (H1V0.out.ext hbV1)
   have hzV1:=hbV1.size
   clear hbV1
   refine mixB_br (i:=2) (j:=7) (fuel:=7) (by kernel_rfl) (by kernel_rfl) ?_ ?_
   ·simp only[opsAt,zo1,zo2,zo3,zo4,zo5]
    go_wp2_with(fail)
    refine ThenB.mk (hCw.trans ((Below.refl _ _).alloc (Nat.le_refl _) _)) (fun hCw=>?_)
    obtain⟨kV2,hkV2⟩:∃k,k=V1.heap.size:=⟨_,rfl⟩
    have hnV2:IsBlk (World.alloc V1 (.cells #[.int .u8 1,.string ⟨#[116]⟩,.int .u64 0,.int .u64 0,.int .u8 0,.bool false,.int .i64 0,.string ⟨#[]⟩,.slice none 0 0,.slice none 0 0] 54)) kV2 #[.int .u8 1,.string ⟨#[116]⟩,.int .u64 0,.int .u64 0,.int .u8 0,.bool false,.int .i64 0,.string ⟨#[]⟩,.slice none 0 0,.slice none 0 0] 54:=by rw[hkV2];exact IsBlk.new _ _ _
    have hbV2:Below V1.heap.size V1 (World.alloc V1 (.cells #[.int .u8 1,.string ⟨#[116]⟩,.int .u64 0,.int .u64 0,.int .u8 0,.bool false,.int .i64 0,.string ⟨#[]⟩,.slice none 0 0,.slice none 0 0] 54)):=(Below.refl _ _).alloc (Nat.le_refl _) _
    have hgV2:V1.heap.size<=kV2:=by omega
    rw[←hkV2]
    clear hkV2
    generalize World.alloc V1 (.cells #[.int .u8 1,.string ⟨#[116]⟩,.int .u64 0,.int .u64 0,.int .u8 0,.bool false,.int .i64 0,.string ⟨#[]⟩,.slice none 0 0,.slice none 0 0] 54)=V2 at hCw hnV2 hbV2⊢
    have HBWV2:=hid (below_ext HBWV1.out hbV2)
    have H1V2:=hid (H1V1.out.ext hbV2)
    have HGV2:=hid hnV2
    have hzV2:=hbV2.size
    have hlV2:=hnV2.lt
    clear hnV2 hbV2
    refine mixB_br (i:=3) (j:=7) (fuel:=6) (by kernel_rfl) (by kernel_rfl) ?_ ?_
    ·simp only[opsAt,zo1,zo2,zo3,zo4,zo5]
     go_wp2_with(go_at_call 29;refine(make0_any V2 kV2 HGV2.out (U8T_ext HT.out HBWV2.out) (HK.out.ext HBWV2.out)).mono ?_;rintro e' V3 ⟨ps,cp,pr,cr,rfl,hmV3,hbV3⟩)
     refine ThenB.mk (hCw.trans hbV3) (fun hCw=>?_)
     have HBWV3:=hid (below_ext HBWV2.out hbV3)
     have H1V3:=hid (H1V2.out.ext hbV3)
     have HGV3:=hid (HGV2.out.ext hbV3)
     have HMV3:Hid (HasBlk (fun b=>V2.heap.size<=b/\b<V3.heap.size) V3 b0 [.int .u64 1,.string (bs zero32),.string (bs b0.root),.slice ps 0 cp,.slice pr 1 cr]):=hid (relB.lt hmV3)
     have hzV3:=hbV3.size
     clear hbV3 hmV3
     refine mixB_flt (by kernel_rfl) [4,5,6] 3 _ _ hCw (by kernel_rfl) ?_
     simp only[opsAt,zo1,zo2,zo3,zo4,zo5]
     unfold Cls
     repeat(go_big_quiet_step (fail))
     refine wpQuiet_nil ?_
     (try rw[←Cls_def])
     refine mixB_ch (i:=7) (fuel:=2) (by kernel_rfl) (by kernel_rfl) ?_
     simp only[opsAt,zo1,zo2,zo3,zo4,zo5]
     go_wp2_with(fail)
     refine ThenB.mk (hCw.trans ((Below.refl _ _).alloc (Nat.le_refl _) _)) (fun hCw=>?_)
     obtain⟨kV4,hkV4⟩:∃k,k=V3.heap.size:=⟨_,rfl⟩
     have hnV4:IsBlk (World.alloc V3 (.cells #[.int .u64 0,.string ⟨#[]⟩,.string ⟨#[]⟩,.slice none 0 0,.slice none 0 0] 28)) kV4 #[.int .u64 0,.string ⟨#[]⟩,.string ⟨#[]⟩,.slice none 0 0,.slice none 0 0] 28:=by rw[hkV4];exact IsBlk.new _ _ _
     have hbV4:Below V3.heap.size V3 (World.alloc V3 (.cells #[.int .u64 0,.string ⟨#[]⟩,.string ⟨#[]⟩,.slice none 0 0,.slice none 0 0] 28)):=(Below.refl _ _).alloc (Nat.le_refl _) _
     have hgV4:V3.heap.size<=kV4:=by omega
     rw[←hkV4]
     clear hkV4
     generalize World.alloc V3 (.cells #[.int .u64 0,.string ⟨#[]⟩,.string ⟨#[]⟩,.slice none 0 0,.slice none 0 0] 28)=V4 at hCw hnV4 hbV4⊢
     have HBWV4:=hid (below_ext HBWV3.out hbV4)
     have H1V4:=hid (H1V3.out.ext hbV4)
     have HGV4:=hid (HGV3.out.ext hbV4)
     have HMV4:=hid (HMV3.out.ext hbV4)
     have HBV4:=hid hnV4
     have hzV4:=hbV4.size
     have hlV4:=hnV4.lt
     clear hnV4 hbV4
     refine mixB_ch (i:=8) (fuel:=1) (by kernel_rfl) (by kernel_rfl) ?_
     have hz:=HBV4.out
     have z0:=hz.cell (i:=0) rfl
     have z1:=hz.cell (i:=1) rfl
     have z2:=hz.cell (i:=2) rfl
     have z3:=hz.cell (i:=3) rfl
     have z4:=hz.cell (i:=4) rfl
     have y0:=hz.frozen 0
     have y1:=hz.frozen 1
     have y2:=hz.frozen 2
     have y3:=hz.frozen 3
     have y4:=hz.frozen 4
     have hlz:=hz.lt
     clear hz
     simp only[opsAt,zo1,zo2,zo3,zo4,zo5]
     have HFIN:=hid (meet_lives (b2:=kV4) HBWV4.out H1V4.out HBV4.out (HasBlk.kept (S':=fun b=>w.heap.size<=b/\b≠kV4) HMV4.out (fun b hb=>by have h:V2.heap.size<=b/\b<V3.heap.size:=hb;omega) (fun _ _ _=>rfl)) (by omega))
     have HCC:=hid (Cls.of (below_setCells (B:=W1.heap.size) (g:=kV4) (by omega) [.int .u64 1,.string (bs zero32),.string (bs b0.root),.slice ps 0 cp,.slice pr 1 cr] 0 _ hCw.below))
     clear hCw
     go_wp2_with(fail)
     refine ThenB.mk HCC.out (fun hCw=>?_)
     refine mixB_end [9] (by kernel_rfl) ?_
     simp only[opsAt,zo1,zo2,zo3,zo4,zo5]
     clear hCw HCC z0 z1 z2 z3 z4 y0 y1 y2 y3 y4
     go_wp2
     refine Calm.normal ?_
     go_wp2_with fail
     go_meet
     exact⟨kV4,ps,cp,pr,cr,rfl,rfl,HFIN.out⟩
    ·simp only[opsAt,zo1,zo2,zo3,zo4,zo5]
     go_wp2_with(fail)
     refine ThenB.mk (hCw.trans ((Below.refl _ _).alloc (Nat.le_refl _) _)) (fun hCw=>?_)
     obtain⟨kV5,hkV5⟩:∃k,k=V2.heap.size:=⟨_,rfl⟩
     have hnV5:IsBlk (World.alloc V2 (.cells #[.int .u64 0,.string ⟨#[]⟩,.string ⟨#[]⟩,.slice none 0 0,.slice none 0 0] 28)) kV5 #[.int .u64 0,.string ⟨#[]⟩,.string ⟨#[]⟩,.slice none 0 0,.slice none 0 0] 28:=by rw[hkV5];exact IsBlk.new _ _ _
     have hbV5:Below V2.heap.size V2 (World.alloc V2 (.cells #[.int .u64 0,.string ⟨#[]⟩,.string ⟨#[]⟩,.slice none 0 0,.slice none 0 0] 28)):=(Below.refl _ _).alloc (Nat.le_refl _) _
     have hgV5:V2.heap.size<=kV5:=by omega
     rw[←hkV5]
     clear hkV5
     generalize World.alloc V2 (.cells #[.int .u64 0,.string ⟨#[]⟩,.string ⟨#[]⟩,.slice none 0 0,.slice none 0 0] 28)=V5 at hCw hnV5 hbV5⊢
     have HBWV5:=hid (below_ext HBWV2.out hbV5)
     have H1V5:=hid (H1V2.out.ext hbV5)
     have HGV5:=hid (HGV2.out.ext hbV5)
     have HBV5:=hid hnV5
     have hzV5:=hbV5.size
     have hlV5:=hnV5.lt
     clear hnV5 hbV5
     refine mixB_ch (i:=3) (fuel:=5) (by kernel_rfl) (by kernel_rfl) ?_
     simp only[opsAt,zo1,zo2,zo3,zo4,zo5]
     go_wp2_with(go_at_call 29;refine(make0_any V5 kV2 HGV5.out (U8T_ext HT.out HBWV5.out) (HK.out.ext HBWV5.out)).mono ?_;rintro e' V6 ⟨ps,cp,pr,cr,rfl,hmV6,hbV6⟩)
     refine ThenB.mk (hCw.trans hbV6) (fun hCw=>?_)
     have HBWV6:=hid (below_ext HBWV5.out hbV6)
     have H1V6:=hid (H1V5.out.ext hbV6)
     have HGV6:=hid (HGV5.out.ext hbV6)
     have HBV6:=hid (HBV5.out.ext hbV6)
     have HMV6:Hid (HasBlk (fun b=>V5.heap.size<=b/\b<V6.heap.size) V6 b0 [.int .u64 1,.string (bs zero32),.string (bs b0.root),.slice ps 0 cp,.slice pr 1 cr]):=hid (relB.lt hmV6)
     have hzV6:=hbV6.size
     clear hbV6 hmV6
     refine mixB_flt (by kernel_rfl) [4,5,6] 2 _ _ hCw (by kernel_rfl) ?_
     simp only[opsAt,zo1,zo2,zo3,zo4,zo5]
     unfold Cls
     repeat(go_big_quiet_step (fail))
     refine wpQuiet_nil ?_
     (try rw[←Cls_def])
     refine mixB_ch (i:=8) (fuel:=1) (by kernel_rfl) (by kernel_rfl) ?_
     have hz:=HBV6.out
     have z0:=hz.cell (i:=0) rfl
     have z1:=hz.cell (i:=1) rfl
     have z2:=hz.cell (i:=2) rfl
     have z3:=hz.cell (i:=3) rfl
     have z4:=hz.cell (i:=4) rfl
     have y0:=hz.frozen 0
     have y1:=hz.frozen 1
     have y2:=hz.frozen 2
     have y3:=hz.frozen 3
     have y4:=hz.frozen 4
     have hlz:=hz.lt
     clear hz
     simp only[opsAt,zo1,zo2,zo3,zo4,zo5]
     have HFIN:=hid (meet_lives (b2:=kV5) HBWV6.out H1V6.out HBV6.out (HasBlk.kept (S':=fun b=>w.heap.size<=b/\b≠kV5) HMV6.out (fun b hb=>by have h:V5.heap.size<=b/\b<V6.heap.size:=hb;omega) (fun _ _ _=>rfl)) (by omega))
     have HCC:=hid (Cls.of (below_setCells (B:=W1.heap.size) (g:=kV5) (by omega) [.int .u64 1,.string (bs zero32),.string (bs b0.root),.slice ps 0 cp,.slice pr 1 cr] 0 _ hCw.below))
     clear hCw
     go_wp2_with(fail)
     refine ThenB.mk HCC.out (fun hCw=>?_)
     refine mixB_end [9] (by kernel_rfl) ?_
     simp only[opsAt,zo1,zo2,zo3,zo4,zo5]
     clear hCw HCC z0 z1 z2 z3 z4 y0 y1 y2 y3 y4
     go_wp2
     refine Calm.normal ?_
     go_wp2_with fail
     go_meet
     exact⟨kV5,ps,cp,pr,cr,rfl,rfl,HFIN.out⟩
   ·simp only[opsAt,zo1,zo2,zo3,zo4,zo5]
    go_wp2_with(fail)
    refine ThenB.mk (hCw.trans ((Below.refl _ _).alloc (Nat.le_refl _) _)) (fun hCw=>?_)
    obtain⟨kV7,hkV7⟩:∃k,k=V1.heap.size:=⟨_,rfl⟩
    have hnV7:IsBlk (World.alloc V1 (.cells #[.int .u64 0,.string ⟨#[]⟩,.string ⟨#[]⟩,.slice none 0 0,.slice none 0 0] 28)) kV7 #[.int .u64 0,.string ⟨#[]⟩,.string ⟨#[]⟩,.slice none 0 0,.slice none 0 0] 28:=by rw[hkV7];exact IsBlk.new _ _ _
    have hbV7:Below V1.heap.size V1 (World.alloc V1 (.cells #[.int .u64 0,.string ⟨#[]⟩,.string ⟨#[]⟩,.slice none 0 0,.slice none 0 0] 28)):=(Below.refl _ _).alloc (Nat.le_refl _) _
    have hgV7:V1.heap.size<=kV7:=by omega
    rw[←hkV7]
    clear hkV7
    generalize World.alloc V1 (.cells #[.int .u64 0,.string ⟨#[]⟩,.string ⟨#[]⟩,.slice none 0 0,.slice none 0 0] 28)=V7 at hCw hnV7 hbV7⊢
    have HBWV7:=hid (below_ext HBWV1.out hbV7)
    have H1V7:=hid (H1V1.out.ext hbV7)
    have HBV7:=hid hnV7
    have hzV7:=hbV7.size
    have hlV7:=hnV7.lt
    clear hnV7 hbV7
    refine mixB_ch (i:=2) (fuel:=6) (by kernel_rfl) (by kernel_rfl) ?_
    simp only[opsAt,zo1,zo2,zo3,zo4,zo5]
    go_wp2_with(fail)
    refine ThenB.mk (hCw.trans ((Below.refl _ _).alloc (Nat.le_refl _) _)) (fun hCw=>?_)
    obtain⟨kV8,hkV8⟩:∃k,k=V7.heap.size:=⟨_,rfl⟩
    have hnV8:IsBlk (World.alloc V7 (.cells #[.int .u8 1,.string ⟨#[116]⟩,.int .u64 0,.int .u64 0,.int .u8 0,.bool false,.int .i64 0,.string ⟨#[]⟩,.slice none 0 0,.slice none 0 0] 54)) kV8 #[.int .u8 1,.string ⟨#[116]⟩,.int .u64 0,.int .u64 0,.int .u8 0,.bool false,.int .i64 0,.string ⟨#[]⟩,.slice none 0 0,.slice none 0 0] 54:=by rw[hkV8];exact IsBlk.new _ _ _
    have hbV8:Below V7.heap.size V7 (World.alloc V7 (.cells #[.int .u8 1,.string ⟨#[116]⟩,.int .u64 0,.int .u64 0,.int .u8 0,.bool false,.int .i64 0,.string ⟨#[]⟩,.slice none 0 0,.slice none 0 0] 54)):=(Below.refl _ _).alloc (Nat.le_refl _) _
    have hgV8:V7.heap.size<=kV8:=by omega
    rw[←hkV8]
    clear hkV8
    generalize World.alloc V7 (.cells #[.int .u8 1,.string ⟨#[116]⟩,.int .u64 0,.int .u64 0,.int .u8 0,.bool false,.int .i64 0,.string ⟨#[]⟩,.slice none 0 0,.slice none 0 0] 54)=V8 at hCw hnV8 hbV8⊢
    have HBWV8:=hid (below_ext HBWV7.out hbV8)
    have H1V8:=hid (H1V7.out.ext hbV8)
    have HBV8:=hid (HBV7.out.ext hbV8)
    have HGV8:=hid hnV8
    have hzV8:=hbV8.size
    have hlV8:=hnV8.lt
    clear hnV8 hbV8
    refine mixB_ch (i:=3) (fuel:=5) (by kernel_rfl) (by kernel_rfl) ?_
    simp only[opsAt,zo1,zo2,zo3,zo4,zo5]
    go_wp2_with(go_at_call 29;refine(make0_any V8 kV8 HGV8.out (U8T_ext HT.out HBWV8.out) (HK.out.ext HBWV8.out)).mono ?_;rintro e' V9 ⟨ps,cp,pr,cr,rfl,hmV9,hbV9⟩)
    refine ThenB.mk (hCw.trans hbV9) (fun hCw=>?_)
    have HBWV9:=hid (below_ext HBWV8.out hbV9)
    have H1V9:=hid (H1V8.out.ext hbV9)
    have HGV9:=hid (HGV8.out.ext hbV9)
    have HBV9:=hid (HBV8.out.ext hbV9)
    have HMV9:Hid (HasBlk (fun b=>V8.heap.size<=b/\b<V9.heap.size) V9 b0 [.int .u64 1,.string (bs zero32),.string (bs b0.root),.slice ps 0 cp,.slice pr 1 cr]):=hid (relB.lt hmV9)
    have hzV9:=hbV9.size
    clear hbV9 hmV9
    refine mixB_flt (by kernel_rfl) [4,5,6] 2 _ _ hCw (by kernel_rfl) ?_
    simp only[opsAt,zo1,zo2,zo3,zo4,zo5]
    unfold Cls
    repeat(go_big_quiet_step (fail))
    refine wpQuiet_nil ?_
    (try rw[←Cls_def])
    refine mixB_ch (i:=8) (fuel:=1) (by kernel_rfl) (by kernel_rfl) ?_
    have hz:=HBV9.out
    have z0:=hz.cell (i:=0) rfl
    have z1:=hz.cell (i:=1) rfl
    have z2:=hz.cell (i:=2) rfl
    have z3:=hz.cell (i:=3) rfl
    have z4:=hz.cell (i:=4) rfl
    have y0:=hz.frozen 0
    have y1:=hz.frozen 1
    have y2:=hz.frozen 2
    have y3:=hz.frozen 3
    have y4:=hz.frozen 4
    have hlz:=hz.lt
    clear hz
    simp only[opsAt,zo1,zo2,zo3,zo4,zo5]
    have HFIN:=hid (meet_lives (b2:=kV7) HBWV9.out H1V9.out HBV9.out (HasBlk.kept (S':=fun b=>w.heap.size<=b/\b≠kV7) HMV9.out (fun b hb=>by have h:V8.heap.size<=b/\b<V9.heap.size:=hb;omega) (fun _ _ _=>rfl)) (by omega))
    have HCC:=hid (Cls.of (below_setCells (B:=W1.heap.size) (g:=kV7) (by omega) [.int .u64 1,.string (bs zero32),.string (bs b0.root),.slice ps 0 cp,.slice pr 1 cr] 0 _ hCw.below))
    clear hCw
    go_wp2_with(fail)
    refine ThenB.mk HCC.out (fun hCw=>?_)
    refine mixB_end [9] (by kernel_rfl) ?_
    simp only[opsAt,zo1,zo2,zo3,zo4,zo5]
    clear hCw HCC z0 z1 z2 z3 z4 y0 y1 y2 y3 y4
    go_wp2
    refine Calm.normal ?_
    go_wp2_with fail
    go_meet
    exact⟨kV7,ps,cp,pr,cr,rfl,rfl,HFIN.out⟩
  ·simp only[opsAt,zo1,zo2,zo3,zo4,zo5]
   go_wp2_with(fail)
   refine ThenB.mk (hCw.trans ((Below.refl _ _).alloc (Nat.le_refl _) _)) (fun hCw=>?_)
   obtain⟨kV10,hkV10⟩:∃k,k=V0.heap.size:=⟨_,rfl⟩
   have hnV10:IsBlk (World.alloc V0 (.cells #[.int .u8 1,.string ⟨#[116]⟩,.int .u64 0,.int .u64 0,.int .u8 0,.bool false,.int .i64 0,.string ⟨#[]⟩,.slice none 0 0,.slice none 0 0] 54)) kV10 #[.int .u8 1,.string ⟨#[116]⟩,.int .u64 0,.int .u64 0,.int .u8 0,.bool false,.int .i64 0,.string ⟨#[]⟩,.slice none 0 0,.slice none 0 0] 54:=by rw[hkV10];exact IsBlk.new _ _ _
   have hbV10:Below V0.heap.size V0 (World.alloc V0 (.cells #[.int .u8 1,.string ⟨#[116]⟩,.int .u64 0,.int .u64 0,.int .u8 0,.bool false,.int .i64 0,.string ⟨#[]⟩,.slice none 0 0,.slice none 0 0] 54)):=(Below.refl _ _).alloc (Nat.le_refl _) _
   have hgV10:V0.heap.size<=kV10:=by omega
   rw[←hkV10]
   clear hkV10
   generalize World.alloc V0 (.cells #[.int .u8 1,.string ⟨#[116]⟩,.int .u64 0,.int .u64 0,.int .u8 0,.bool false,.int .i64 0,.string ⟨#[]⟩,.slice none 0 0,.slice none 0 0] 54)=V10 at hCw hnV10 hbV10⊢
   have HBWV10:=hid (below_ext HBWV0.out hbV10)
   have H1V10:=hid (H1V0.out.ext hbV10)
   have HGV10:=hid hnV10
   have hzV10:=hbV10.size
   have hlV10:=hnV10.lt
   clear hnV10 hbV10
   refine mixB_br (i:=0) (j:=7) (fuel:=7) (by kernel_rfl) (by kernel_rfl) ?_ ?_
   ·simp only[opsAt,zo1,zo2,zo3,zo4,zo5]
    go_wp2_with(go_at_call 22;refine(first6_any V10).mono ?_;rintro e' V11 ⟨rfl,hbV11⟩)
    refine ThenB.mk (hCw.trans hbV11) (fun hCw=>?_)
    have HBWV11:=hid (below_ext HBWV10.out hbV11)
    have H1V11:=hid (H1V10.out.ext hbV11)
    have HGV11:=hid (HGV10.out.ext hbV11)
    have hzV11:=hbV11.size
    clear hbV11
    refine mixB_br (i:=3) (j:=7) (fuel:=6) (by kernel_rfl) (by kernel_rfl) ?_ ?_
    ·simp only[opsAt,zo1,zo2,zo3,zo4,zo5]
     go_wp2_with(go_at_call 29;refine(make0_any V11 kV10 HGV11.out (U8T_ext HT.out HBWV11.out) (HK.out.ext HBWV11.out)).mono ?_;rintro e' V12 ⟨ps,cp,pr,cr,rfl,hmV12,hbV12⟩)
     refine ThenB.mk (hCw.trans hbV12) (fun hCw=>?_)
     have HBWV12:=hid (below_ext HBWV11.out hbV12)
     have H1V12:=hid (H1V11.out.ext hbV12)
     have HGV12:=hid (HGV11.out.ext hbV12)
     have HMV12:Hid (HasBlk (fun b=>V11.heap.size<=b/\b<V12.heap.size) V12 b0 [.int .u64 1,.string (bs zero32),.string (bs b0.root),.slice ps 0 cp,.slice pr 1 cr]):=hid (relB.lt hmV12)
     have hzV12:=hbV12.size
     clear hbV12 hmV12
     refine mixB_flt (by kernel_rfl) [4,5,6] 3 _ _ hCw (by kernel_rfl) ?_
     simp only[opsAt,zo1,zo2,zo3,zo4,zo5]
     unfold Cls
     repeat(go_big_quiet_step (fail))
     refine wpQuiet_nil ?_
     (try rw[←Cls_def])
     refine mixB_ch (i:=7) (fuel:=2) (by kernel_rfl) (by kernel_rfl) ?_
     simp only[opsAt,zo1,zo2,zo3,zo4,zo5]
     go_wp2_with(fail)
     refine ThenB.mk (hCw.trans ((Below.refl _ _).alloc (Nat.le_refl _) _)) (fun hCw=>?_)
     obtain⟨kV13,hkV13⟩:∃k,k=V12.heap.size:=⟨_,rfl⟩
     have hnV13:IsBlk (World.alloc V12 (.cells #[.int .u64 0,.string ⟨#[]⟩,.string ⟨#[]⟩,.slice none 0 0,.slice none 0 0] 28)) kV13 #[.int .u64 0,.string ⟨#[]⟩,.string ⟨#[]⟩,.slice none 0 0,.slice none 0 0] 28:=by rw[hkV13];exact IsBlk.new _ _ _
     have hbV13:Below V12.heap.size V12 (World.alloc V12 (.cells #[.int .u64 0,.string ⟨#[]⟩,.string ⟨#[]⟩,.slice none 0 0,.slice none 0 0] 28)):=(Below.refl _ _).alloc (Nat.le_refl _) _
     have hgV13:V12.heap.size<=kV13:=by omega
     rw[←hkV13]
     clear hkV13
     generalize World.alloc V12 (.cells #[.int .u64 0,.string ⟨#[]⟩,.string ⟨#[]⟩,.slice none 0 0,.slice none 0 0] 28)=V13 at hCw hnV13 hbV13⊢
     have HBWV13:=hid (below_ext HBWV12.out hbV13)
     have H1V13:=hid (H1V12.out.ext hbV13)
     have HGV13:=hid (HGV12.out.ext hbV13)
     have HMV13:=hid (HMV12.out.ext hbV13)
     have HBV13:=hid hnV13
     have hzV13:=hbV13.size
     have hlV13:=hnV13.lt
     clear hnV13 hbV13
     refine mixB_ch (i:=8) (fuel:=1) (by kernel_rfl) (by kernel_rfl) ?_
     have hz:=HBV13.out
     have z0:=hz.cell (i:=0) rfl
     have z1:=hz.cell (i:=1) rfl
     have z2:=hz.cell (i:=2) rfl
     have z3:=hz.cell (i:=3) rfl
     have z4:=hz.cell (i:=4) rfl
     have y0:=hz.frozen 0
     have y1:=hz.frozen 1
     have y2:=hz.frozen 2
     have y3:=hz.frozen 3
     have y4:=hz.frozen 4
     have hlz:=hz.lt
     clear hz
     simp only[opsAt,zo1,zo2,zo3,zo4,zo5]
     have HFIN:=hid (meet_lives (b2:=kV13) HBWV13.out H1V13.out HBV13.out (HasBlk.kept (S':=fun b=>w.heap.size<=b/\b≠kV13) HMV13.out (fun b hb=>by have h:V11.heap.size<=b/\b<V12.heap.size:=hb;omega) (fun _ _ _=>rfl)) (by omega))
     have HCC:=hid (Cls.of (below_setCells (B:=W1.heap.size) (g:=kV13) (by omega) [.int .u64 1,.string (bs zero32),.string (bs b0.root),.slice ps 0 cp,.slice pr 1 cr] 0 _ hCw.below))
     clear hCw
     go_wp2_with(fail)
     refine ThenB.mk HCC.out (fun hCw=>?_)
     refine mixB_end [9] (by kernel_rfl) ?_
     simp only[opsAt,zo1,zo2,zo3,zo4,zo5]
     clear hCw HCC z0 z1 z2 z3 z4 y0 y1 y2 y3 y4
     go_wp2
     refine Calm.normal ?_
     go_wp2_with fail
     go_meet
     exact⟨kV13,ps,cp,pr,cr,rfl,rfl,HFIN.out⟩
    ·simp only[opsAt,zo1,zo2,zo3,zo4,zo5]
     go_wp2_with(fail)
     refine ThenB.mk (hCw.trans ((Below.refl _ _).alloc (Nat.le_refl _) _)) (fun hCw=>?_)
     obtain⟨kV14,hkV14⟩:∃k,k=V11.heap.size:=⟨_,rfl⟩
     have hnV14:IsBlk (World.alloc V11 (.cells #[.int .u64 0,.string ⟨#[]⟩,.string ⟨#[]⟩,.slice none 0 0,.slice none 0 0] 28)) kV14 #[.int .u64 0,.string ⟨#[]⟩,.string ⟨#[]⟩,.slice none 0 0,.slice none 0 0] 28:=by rw[hkV14];exact IsBlk.new _ _ _
     have hbV14:Below V11.heap.size V11 (World.alloc V11 (.cells #[.int .u64 0,.string ⟨#[]⟩,.string ⟨#[]⟩,.slice none 0 0,.slice none 0 0] 28)):=(Below.refl _ _).alloc (Nat.le_refl _) _
     have hgV14:V11.heap.size<=kV14:=by omega
     rw[←hkV14]
     clear hkV14
     generalize World.alloc V11 (.cells #[.int .u64 0,.string ⟨#[]⟩,.string ⟨#[]⟩,.slice none 0 0,.slice none 0 0] 28)=V14 at hCw hnV14 hbV14⊢
     have HBWV14:=hid (below_ext HBWV11.out hbV14)
     have H1V14:=hid (H1V11.out.ext hbV14)
     have HGV14:=hid (HGV11.out.ext hbV14)
     have HBV14:=hid hnV14
     have hzV14:=hbV14.size
     have hlV14:=hnV14.lt
     clear hnV14 hbV14
     refine mixB_ch (i:=3) (fuel:=5) (by kernel_rfl) (by kernel_rfl) ?_
     simp only[opsAt,zo1,zo2,zo3,zo4,zo5]
     go_wp2_with(go_at_call 29;refine(make0_any V14 kV10 HGV14.out (U8T_ext HT.out HBWV14.out) (HK.out.ext HBWV14.out)).mono ?_;rintro e' V15 ⟨ps,cp,pr,cr,rfl,hmV15,hbV15⟩)
     refine ThenB.mk (hCw.trans hbV15) (fun hCw=>?_)
     have HBWV15:=hid (below_ext HBWV14.out hbV15)
     have H1V15:=hid (H1V14.out.ext hbV15)
     have HGV15:=hid (HGV14.out.ext hbV15)
     have HBV15:=hid (HBV14.out.ext hbV15)
     have HMV15:Hid (HasBlk (fun b=>V14.heap.size<=b/\b<V15.heap.size) V15 b0 [.int .u64 1,.string (bs zero32),.string (bs b0.root),.slice ps 0 cp,.slice pr 1 cr]):=hid (relB.lt hmV15)
     have hzV15:=hbV15.size
     clear hbV15 hmV15
     refine mixB_flt (by kernel_rfl) [4,5,6] 2 _ _ hCw (by kernel_rfl) ?_
     simp only[opsAt,zo1,zo2,zo3,zo4,zo5]
     unfold Cls
     repeat(go_big_quiet_step (fail))
     refine wpQuiet_nil ?_
     (try rw[←Cls_def])
     refine mixB_ch (i:=8) (fuel:=1) (by kernel_rfl) (by kernel_rfl) ?_
     have hz:=HBV15.out
     have z0:=hz.cell (i:=0) rfl
     have z1:=hz.cell (i:=1) rfl
     have z2:=hz.cell (i:=2) rfl
     have z3:=hz.cell (i:=3) rfl
     have z4:=hz.cell (i:=4) rfl
     have y0:=hz.frozen 0
     have y1:=hz.frozen 1
     have y2:=hz.frozen 2
     have y3:=hz.frozen 3
     have y4:=hz.frozen 4
     have hlz:=hz.lt
     clear hz
     simp only[opsAt,zo1,zo2,zo3,zo4,zo5]
     have HFIN:=hid (meet_lives (b2:=kV14) HBWV15.out H1V15.out HBV15.out (HasBlk.kept (S':=fun b=>w.heap.size<=b/\b≠kV14) HMV15.out (fun b hb=>by have h:V14.heap.size<=b/\b<V15.heap.size:=hb;omega) (fun _ _ _=>rfl)) (by omega))
     have HCC:=hid (Cls.of (below_setCells (B:=W1.heap.size) (g:=kV14) (by omega) [.int .u64 1,.string (bs zero32),.string (bs b0.root),.slice ps 0 cp,.slice pr 1 cr] 0 _ hCw.below))
     clear hCw
     go_wp2_with(fail)
     refine ThenB.mk HCC.out (fun hCw=>?_)
     refine mixB_end [9] (by kernel_rfl) ?_
     simp only[opsAt,zo1,zo2,zo3,zo4,zo5]
     clear hCw HCC z0 z1 z2 z3 z4 y0 y1 y2 y3 y4
     go_wp2
     refine Calm.normal ?_
     go_wp2_with fail
     go_meet
     exact⟨kV14,ps,cp,pr,cr,rfl,rfl,HFIN.out⟩
   ·simp only[opsAt,zo1,zo2,zo3,zo4,zo5]
    go_wp2_with(fail)
    refine ThenB.mk (hCw.trans ((Below.refl _ _).alloc (Nat.le_refl _) _)) (fun hCw=>?_)
    obtain⟨kV16,hkV16⟩:∃k,k=V10.heap.size:=⟨_,rfl⟩
    have hnV16:IsBlk (World.alloc V10 (.cells #[.int .u64 0,.string ⟨#[]⟩,.string ⟨#[]⟩,.slice none 0 0,.slice none 0 0] 28)) kV16 #[.int .u64 0,.string ⟨#[]⟩,.string ⟨#[]⟩,.slice none 0 0,.slice none 0 0] 28:=by rw[hkV16];exact IsBlk.new _ _ _
    have hbV16:Below V10.heap.size V10 (World.alloc V10 (.cells #[.int .u64 0,.string ⟨#[]⟩,.string ⟨#[]⟩,.slice none 0 0,.slice none 0 0] 28)):=(Below.refl _ _).alloc (Nat.le_refl _) _
    have hgV16:V10.heap.size<=kV16:=by omega
    rw[←hkV16]
    clear hkV16
    generalize World.alloc V10 (.cells #[.int .u64 0,.string ⟨#[]⟩,.string ⟨#[]⟩,.slice none 0 0,.slice none 0 0] 28)=V16 at hCw hnV16 hbV16⊢
    have HBWV16:=hid (below_ext HBWV10.out hbV16)
    have H1V16:=hid (H1V10.out.ext hbV16)
    have HGV16:=hid (HGV10.out.ext hbV16)
    have HBV16:=hid hnV16
    have hzV16:=hbV16.size
    have hlV16:=hnV16.lt
    clear hnV16 hbV16
    refine mixB_ch (i:=0) (fuel:=6) (by kernel_rfl) (by kernel_rfl) ?_
    simp only[opsAt,zo1,zo2,zo3,zo4,zo5]
    go_wp2_with(go_at_call 22;refine(first6_any V16).mono ?_;rintro e' V17 ⟨rfl,hbV17⟩)
    refine ThenB.mk (hCw.trans hbV17) (fun hCw=>?_)
    have HBWV17:=hid (below_ext HBWV16.out hbV17)
    have H1V17:=hid (H1V16.out.ext hbV17)
    have HGV17:=hid (HGV16.out.ext hbV17)
    have HBV17:=hid (HBV16.out.ext hbV17)
    have hzV17:=hbV17.size
    clear hbV17
    refine mixB_ch (i:=3) (fuel:=5) (by kernel_rfl) (by kernel_rfl) ?_
    simp only[opsAt,zo1,zo2,zo3,zo4,zo5]
    go_wp2_with(go_at_call 29;refine(make0_any V17 kV10 HGV17.out (U8T_ext HT.out HBWV17.out) (HK.out.ext HBWV17.out)).mono ?_;rintro e' V18 ⟨ps,cp,pr,cr,rfl,hmV18,hbV18⟩)
    refine ThenB.mk (hCw.trans hbV18) (fun hCw=>?_)
    have HBWV18:=hid (below_ext HBWV17.out hbV18)
    have H1V18:=hid (H1V17.out.ext hbV18)
    have HGV18:=hid (HGV17.out.ext hbV18)
    have HBV18:=hid (HBV17.out.ext hbV18)
    have HMV18:Hid (HasBlk (fun b=>V17.heap.size<=b/\b<V18.heap.size) V18 b0 [.int .u64 1,.string (bs zero32),.string (bs b0.root),.slice ps 0 cp,.slice pr 1 cr]):=hid (relB.lt hmV18)
    have hzV18:=hbV18.size
    clear hbV18 hmV18
    refine mixB_flt (by kernel_rfl) [4,5,6] 2 _ _ hCw (by kernel_rfl) ?_
    simp only[opsAt,zo1,zo2,zo3,zo4,zo5]
    unfold Cls
    repeat(go_big_quiet_step (fail))
    refine wpQuiet_nil ?_
    (try rw[←Cls_def])
    refine mixB_ch (i:=8) (fuel:=1) (by kernel_rfl) (by kernel_rfl) ?_
    have hz:=HBV18.out
    have z0:=hz.cell (i:=0) rfl
    have z1:=hz.cell (i:=1) rfl
    have z2:=hz.cell (i:=2) rfl
    have z3:=hz.cell (i:=3) rfl
    have z4:=hz.cell (i:=4) rfl
    have y0:=hz.frozen 0
    have y1:=hz.frozen 1
    have y2:=hz.frozen 2
    have y3:=hz.frozen 3
    have y4:=hz.frozen 4
    have hlz:=hz.lt
    clear hz
    simp only[opsAt,zo1,zo2,zo3,zo4,zo5]
    have HFIN:=hid (meet_lives (b2:=kV16) HBWV18.out H1V18.out HBV18.out (HasBlk.kept (S':=fun b=>w.heap.size<=b/\b≠kV16) HMV18.out (fun b hb=>by have h:V17.heap.size<=b/\b<V18.heap.size:=hb;omega) (fun _ _ _=>rfl)) (by omega))
    have HCC:=hid (Cls.of (below_setCells (B:=W1.heap.size) (g:=kV16) (by omega) [.int .u64 1,.string (bs zero32),.string (bs b0.root),.slice ps 0 cp,.slice pr 1 cr] 0 _ hCw.below))
    clear hCw
    go_wp2_with(fail)
    refine ThenB.mk HCC.out (fun hCw=>?_)
    refine mixB_end [9] (by kernel_rfl) ?_
    simp only[opsAt,zo1,zo2,zo3,zo4,zo5]
    clear hCw HCC z0 z1 z2 z3 z4 y0 y1 y2 y3 y4
    go_wp2
    refine Calm.normal ?_
    go_wp2_with fail
    go_meet
    exact⟨kV16,ps,cp,pr,cr,rfl,rfl,HFIN.out⟩
  ·simp only[opsAt,zo1,zo2,zo3,zo4,zo5]
   go_wp2_with(fail)
   refine ThenB.mk (hCw.trans ((Below.refl _ _).alloc (Nat.le_refl _) _)) (fun hCw=>?_)
   obtain⟨kV19,hkV19⟩:∃k,k=V0.heap.size:=⟨_,rfl⟩
   have hnV19:IsBlk (World.alloc V0 (.cells #[.int .u64 0,.string ⟨#[]⟩,.string ⟨#[]⟩,.slice none 0 0,.slice none 0 0] 28)) kV19 #[.int .u64 0,.string ⟨#[]⟩,.string ⟨#[]⟩,.slice none 0 0,.slice none 0 0] 28:=by rw[hkV19];exact IsBlk.new _ _ _
   have hbV19:Below V0.heap.size V0 (World.alloc V0 (.cells #[.int .u64 0,.string ⟨#[]⟩,.string ⟨#[]⟩,.slice none 0 0,.slice none 0 0] 28)):=(Below.refl _ _).alloc (Nat.le_refl _) _
   have hgV19:V0.heap.size<=kV19:=by omega
   rw[←hkV19]
   clear hkV19
   generalize World.alloc V0 (.cells #[.int .u64 0,.string ⟨#[]⟩,.string ⟨#[]⟩,.slice none 0 0,.slice none 0 0] 28)=V19 at hCw hnV19 hbV19⊢
   have HBWV19:=hid (below_ext HBWV0.out hbV19)
   have H1V19:=hid (H1V0.out.ext hbV19)
   have HBV19:=hid hnV19
   have hzV19:=hbV19.size
   have hlV19:=hnV19.lt
   clear hnV19 hbV19
   refine mixB_br (i:=0) (j:=2) (fuel:=7) (by kernel_rfl) (by kernel_rfl) ?_ ?_
   ·simp only[opsAt,zo1,zo2,zo3,zo4,zo5]
    go_wp2_with(go_at_call 22;refine(first6_any V19).mono ?_;rintro e' V20 ⟨rfl,hbV20⟩)
    refine ThenB.mk (hCw.trans hbV20) (fun hCw=>?_)
    have HBWV20:=hid (below_ext HBWV19.out hbV20)
    have H1V20:=hid (H1V19.out.ext hbV20)
    have HBV20:=hid (HBV19.out.ext hbV20)
    have hzV20:=hbV20.size
    clear hbV20
    refine mixB_ch (i:=2) (fuel:=6) (by kernel_rfl) (by kernel_rfl) ?_
    simp only[opsAt,zo1,zo2,zo3,zo4,zo5]
    go_wp2_with(fail)
    refine ThenB.mk (hCw.trans ((Below.refl _ _).alloc (Nat.le_refl _) _)) (fun hCw=>?_)
    obtain⟨kV21,hkV21⟩:∃k,k=V20.heap.size:=⟨_,rfl⟩
    have hnV21:IsBlk (World.alloc V20 (.cells #[.int .u8 1,.string ⟨#[116]⟩,.int .u64 0,.int .u64 0,.int .u8 0,.bool false,.int .i64 0,.string ⟨#[]⟩,.slice none 0 0,.slice none 0 0] 54)) kV21 #[.int .u8 1,.string ⟨#[116]⟩,.int .u64 0,.int .u64 0,.int .u8 0,.bool false,.int .i64 0,.string ⟨#[]⟩,.slice none 0 0,.slice none 0 0] 54:=by rw[hkV21];exact IsBlk.new _ _ _
    have hbV21:Below V20.heap.size V20 (World.alloc V20 (.cells #[.int .u8 1,.string ⟨#[116]⟩,.int .u64 0,.int .u64 0,.int .u8 0,.bool false,.int .i64 0,.string ⟨#[]⟩,.slice none 0 0,.slice none 0 0] 54)):=(Below.refl _ _).alloc (Nat.le_refl _) _
    have hgV21:V20.heap.size<=kV21:=by omega
    rw[←hkV21]
    clear hkV21
    generalize World.alloc V20 (.cells #[.int .u8 1,.string ⟨#[116]⟩,.int .u64 0,.int .u64 0,.int .u8 0,.bool false,.int .i64 0,.string ⟨#[]⟩,.slice none 0 0,.slice none 0 0] 54)=V21 at hCw hnV21 hbV21⊢
    have HBWV21:=hid (below_ext HBWV20.out hbV21)
    have H1V21:=hid (H1V20.out.ext hbV21)
    have HBV21:=hid (HBV20.out.ext hbV21)
    have HGV21:=hid hnV21
    have hzV21:=hbV21.size
    have hlV21:=hnV21.lt
    clear hnV21 hbV21
    refine mixB_ch (i:=3) (fuel:=5) (by kernel_rfl) (by kernel_rfl) ?_
    simp only[opsAt,zo1,zo2,zo3,zo4,zo5]
    go_wp2_with(go_at_call 29;refine(make0_any V21 kV21 HGV21.out (U8T_ext HT.out HBWV21.out) (HK.out.ext HBWV21.out)).mono ?_;rintro e' V22 ⟨ps,cp,pr,cr,rfl,hmV22,hbV22⟩)
    refine ThenB.mk (hCw.trans hbV22) (fun hCw=>?_)
    have HBWV22:=hid (below_ext HBWV21.out hbV22)
    have H1V22:=hid (H1V21.out.ext hbV22)
    have HGV22:=hid (HGV21.out.ext hbV22)
    have HBV22:=hid (HBV21.out.ext hbV22)
    have HMV22:Hid (HasBlk (fun b=>V21.heap.size<=b/\b<V22.heap.size) V22 b0 [.int .u64 1,.string (bs zero32),.string (bs b0.root),.slice ps 0 cp,.slice pr 1 cr]):=hid (relB.lt hmV22)
    have hzV22:=hbV22.size
    clear hbV22 hmV22
    refine mixB_flt (by kernel_rfl) [4,5,6] 2 _ _ hCw (by kernel_rfl) ?_
    simp only[opsAt,zo1,zo2,zo3,zo4,zo5]
    unfold Cls
    repeat(go_big_quiet_step (fail))
    refine wpQuiet_nil ?_
    (try rw[←Cls_def])
    refine mixB_ch (i:=8) (fuel:=1) (by kernel_rfl) (by kernel_rfl) ?_
    have hz:=HBV22.out
    have z0:=hz.cell (i:=0) rfl
    have z1:=hz.cell (i:=1) rfl
    have z2:=hz.cell (i:=2) rfl
    have z3:=hz.cell (i:=3) rfl
    have z4:=hz.cell (i:=4) rfl
    have y0:=hz.frozen 0
    have y1:=hz.frozen 1
    have y2:=hz.frozen 2
    have y3:=hz.frozen 3
    have y4:=hz.frozen 4
    have hlz:=hz.lt
    clear hz
    simp only[opsAt,zo1,zo2,zo3,zo4,zo5]
    have HFIN:=hid (meet_lives (b2:=kV19) HBWV22.out H1V22.out HBV22.out (HasBlk.kept (S':=fun b=>w.heap.size<=b/\b≠kV19) HMV22.out (fun b hb=>by have h:V21.heap.size<=b/\b<V22.heap.size:=hb;omega) (fun _ _ _=>rfl)) (by omega))
    have HCC:=hid (Cls.of (below_setCells (B:=W1.heap.size) (g:=kV19) (by omega) [.int .u64 1,.string (bs zero32),.string (bs b0.root),.slice ps 0 cp,.slice pr 1 cr] 0 _ hCw.below))
    clear hCw
    go_wp2_with(fail)
    refine ThenB.mk HCC.out (fun hCw=>?_)
    refine mixB_end [9] (by kernel_rfl) ?_
    simp only[opsAt,zo1,zo2,zo3,zo4,zo5]
    clear hCw HCC z0 z1 z2 z3 z4 y0 y1 y2 y3 y4
    go_wp2
    refine Calm.normal ?_
    go_wp2_with fail
    go_meet
    exact⟨kV19,ps,cp,pr,cr,rfl,rfl,HFIN.out⟩
   ·simp only[opsAt,zo1,zo2,zo3,zo4,zo5]
    go_wp2_with(fail)
    refine ThenB.mk (hCw.trans ((Below.refl _ _).alloc (Nat.le_refl _) _)) (fun hCw=>?_)
    obtain⟨kV23,hkV23⟩:∃k,k=V19.heap.size:=⟨_,rfl⟩
    have hnV23:IsBlk (World.alloc V19 (.cells #[.int .u8 1,.string ⟨#[116]⟩,.int .u64 0,.int .u64 0,.int .u8 0,.bool false,.int .i64 0,.string ⟨#[]⟩,.slice none 0 0,.slice none 0 0] 54)) kV23 #[.int .u8 1,.string ⟨#[116]⟩,.int .u64 0,.int .u64 0,.int .u8 0,.bool false,.int .i64 0,.string ⟨#[]⟩,.slice none 0 0,.slice none 0 0] 54:=by rw[hkV23];exact IsBlk.new _ _ _
    have hbV23:Below V19.heap.size V19 (World.alloc V19 (.cells #[.int .u8 1,.string ⟨#[116]⟩,.int .u64 0,.int .u64 0,.int .u8 0,.bool false,.int .i64 0,.string ⟨#[]⟩,.slice none 0 0,.slice none 0 0] 54)):=(Below.refl _ _).alloc (Nat.le_refl _) _
    have hgV23:V19.heap.size<=kV23:=by omega
    rw[←hkV23]
    clear hkV23
    generalize World.alloc V19 (.cells #[.int .u8 1,.string ⟨#[116]⟩,.int .u64 0,.int .u64 0,.int .u8 0,.bool false,.int .i64 0,.string ⟨#[]⟩,.slice none 0 0,.slice none 0 0] 54)=V23 at hCw hnV23 hbV23⊢
    have HBWV23:=hid (below_ext HBWV19.out hbV23)
    have H1V23:=hid (H1V19.out.ext hbV23)
    have HBV23:=hid (HBV19.out.ext hbV23)
    have HGV23:=hid hnV23
    have hzV23:=hbV23.size
    have hlV23:=hnV23.lt
    clear hnV23 hbV23
    refine mixB_ch (i:=0) (fuel:=6) (by kernel_rfl) (by kernel_rfl) ?_
    simp only[opsAt,zo1,zo2,zo3,zo4,zo5]
    go_wp2_with(go_at_call 22;refine(first6_any V23).mono ?_;rintro e' V24 ⟨rfl,hbV24⟩)
    refine ThenB.mk (hCw.trans hbV24) (fun hCw=>?_)
    have HBWV24:=hid (below_ext HBWV23.out hbV24)
    have H1V24:=hid (H1V23.out.ext hbV24)
    have HGV24:=hid (HGV23.out.ext hbV24)
    have HBV24:=hid (HBV23.out.ext hbV24)
    have hzV24:=hbV24.size
    clear hbV24
    refine mixB_ch (i:=3) (fuel:=5) (by kernel_rfl) (by kernel_rfl) ?_
    simp only[opsAt,zo1,zo2,zo3,zo4,zo5]
    go_wp2_with(go_at_call 29;refine(make0_any V24 kV23 HGV24.out (U8T_ext HT.out HBWV24.out) (HK.out.ext HBWV24.out)).mono ?_;rintro e' V25 ⟨ps,cp,pr,cr,rfl,hmV25,hbV25⟩)
    refine ThenB.mk (hCw.trans hbV25) (fun hCw=>?_)
    have HBWV25:=hid (below_ext HBWV24.out hbV25)
    have H1V25:=hid (H1V24.out.ext hbV25)
    have HGV25:=hid (HGV24.out.ext hbV25)
    have HBV25:=hid (HBV24.out.ext hbV25)
    have HMV25:Hid (HasBlk (fun b=>V24.heap.size<=b/\b<V25.heap.size) V25 b0 [.int .u64 1,.string (bs zero32),.string (bs b0.root),.slice ps 0 cp,.slice pr 1 cr]):=hid (relB.lt hmV25)
    have hzV25:=hbV25.size
    clear hbV25 hmV25
    refine mixB_flt (by kernel_rfl) [4,5,6] 2 _ _ hCw (by kernel_rfl) ?_
    simp only[opsAt,zo1,zo2,zo3,zo4,zo5]
    unfold Cls
    repeat(go_big_quiet_step (fail))
    refine wpQuiet_nil ?_
    (try rw[←Cls_def])
    refine mixB_ch (i:=8) (fuel:=1) (by kernel_rfl) (by kernel_rfl) ?_
    have hz:=HBV25.out
    have z0:=hz.cell (i:=0) rfl
    have z1:=hz.cell (i:=1) rfl
    have z2:=hz.cell (i:=2) rfl
    have z3:=hz.cell (i:=3) rfl
    have z4:=hz.cell (i:=4) rfl
    have y0:=hz.frozen 0
    have y1:=hz.frozen 1
    have y2:=hz.frozen 2
    have y3:=hz.frozen 3
    have y4:=hz.frozen 4
    have hlz:=hz.lt
    clear hz
    simp only[opsAt,zo1,zo2,zo3,zo4,zo5]
    have HFIN:=hid (meet_lives (b2:=kV19) HBWV25.out H1V25.out HBV25.out (HasBlk.kept (S':=fun b=>w.heap.size<=b/\b≠kV19) HMV25.out (fun b hb=>by have h:V24.heap.size<=b/\b<V25.heap.size:=hb;omega) (fun _ _ _=>rfl)) (by omega))
    have HCC:=hid (Cls.of (below_setCells (B:=W1.heap.size) (g:=kV19) (by omega) [.int .u64 1,.string (bs zero32),.string (bs b0.root),.slice ps 0 cp,.slice pr 1 cr] 0 _ hCw.below))
    clear hCw
    go_wp2_with(fail)
    refine ThenB.mk HCC.out (fun hCw=>?_)
    refine mixB_end [9] (by kernel_rfl) ?_
    simp only[opsAt,zo1,zo2,zo3,zo4,zo5]
    clear hCw HCC z0 z1 z2 z3 z4 y0 y1 y2 y3 y4
    go_wp2
    refine Calm.normal ?_
    go_wp2_with fail
    go_meet
    exact⟨kV19,ps,cp,pr,cr,rfl,rfl,HFIN.out⟩
 case rest=>
  rename World=>W2
  obtain⟨b2,ps,cp,pr,cr,rfl,rfl,hb,h1,h2,hm⟩:=hcut
  have HB2:=hid hb
  have H12:=hid h1
  have H22:=hid h2
  have HM2:=hid hm
  have hl1:=h1.lt
  have hl2:=h2.lt
  have hrt:Calls Tryz.prog 24 #[.agg #[.int .u8 1,.string ⟨#[116]⟩,.int .u64 0,.int .u64 0,.int .u8 0,.bool false,.int .i64 0,.string ⟨#[]⟩,.slice none 0 0,.slice none 0 0]] W2 fun e' w'=>e'=.returned (.tuple #[.string (bs T0),.int .i64 0])/\Below W2.heap.size W2 w':=by
   have h:=revText_any r0 (fun _=>True) r0Cs W2 (r0_has _ _) (U8T_ext HT.out hb) (by decide)
   rw[revT0]at h
   exact h
  have HRT:=hid hrt
  have x0:=h1.cell (i:=0) rfl
  have x1:=h1.cell (i:=1) rfl
  have x2:=h1.cell (i:=2) rfl
  have x3:=h1.cell (i:=3) rfl
  have x4:=h1.cell (i:=4) rfl
  have x5:=h1.cell (i:=5) rfl
  have x6:=h1.cell (i:=6) rfl
  have x7:=h1.cell (i:=7) rfl
  have x8:=h1.cell (i:=8) rfl
  have x9:=h1.cell (i:=9) rfl
  clear hb h1 h2 hm hrt
  go_wp2_with fail
  go_at_call 24
  refine HRT.out.mono ?_
  rintro e' w3 ⟨rfl,hb3⟩
  have HB3:=hid (below_ext HB2.out hb3)
  have HM3:=hid (HM2.out.ext hb3)
  have h23:=H22.out.ext hb3
  have hl3:=h23.lt
  have H23:=hid h23
  have z0:=h23.cell (i:=0) rfl
  have z1:=h23.cell (i:=1) rfl
  have z2:=h23.cell (i:=2) rfl
  have z3:=h23.cell (i:=3) rfl
  have z4:=h23.cell (i:=4) rfl
  clear x0 x1 x2 x3 x4 x5 x6 x7 x8 x9 hb3 h23
  obtain⟨FR,hFR⟩:∃F,F=(frameP b0).1:=⟨_,rfl⟩
  have hfr2:frameP b0=(FR,0):=by rw[hFR];exact frame0
  have hfl:FR.length<=20000:=by rw[hFR];exact frame0_len
  have hsc:scanV (FR++[120])=([b0],FR.length):=by rw[hFR];exact scan0
  have HSC:=hid hsc
  have hfp:Calls Tryz.prog 36 #[.agg #[.int .u64 1,.string (bs zero32),.string (bs b0.root),.slice ps 0 cp,.slice pr 1 cr]] w3 fun e' w'=>e'=.returned (.tuple #[.string (bs FR),.int .i64 0])/\Below w3.heap.size w3 w':=by
   have h:=frame_p b0 _ _ w3 HM3.out b0_ok (U8T_ext HT.out HB3.out) (HK.out.ext HB3.out)
   rw[hfr2]at h
   exact h
  have HFP:=hid hfp
  clear hFR hfr2 hsc hfp
  go_wp2_with fail
  go_at_call 36
  refine HFP.out.mono ?_
  rintro e' w4 ⟨rfl,hb4⟩
  have HB4:=hid (below_ext HB3.out hb4)
  have h24:=H23.out.ext hb4
  have hl4:=h24.lt
  have H24:=hid h24
  clear z0 z1 z2 z3 z4 hb4 h24
  have hsz:=bs_size FR
  go_wp2_with fail
  go_at_call 12
  clear hsz
  have hcat:bs FR++⟨#[120]⟩=bs (FR++[120]):=by rw[←bs_app];rfl
  rw[hcat]
  clear hcat
  refine(scan_p (FR++[120]) w4 (U8T_ext HT.out HB4.out) (HK.out.ext HB4.out) (by rw[List.length_append];simp;omega)).mono ?_
  rw[HSC.out]
  rintro e' w5 ⟨p5,c5,rfl,_,_,hb5⟩
  have HB5:=hid (below_ext HB4.out hb5)
  have h25:=H24.out.ext hb5
  have hl5:=h25.lt
  have hst:(bs T0).size=12:=by rw[bs_size];rfl
  have hsz:=bs_size FR
  have hz2:=h25.cell (i:=2) rfl
  have hcat:(⟨#[0]⟩:ByteArray)++bs T0=bs (0::T0):=by
   have h:=bs_app [0] T0
   exact h
  have HSM:Hid (∀W,Below w5.heap.size w5 W->Calls Tryz.prog 50 #[.string ((⟨#[0]⟩:ByteArray)++bs T0)] W fun e' w'=>e'=.returned (.string (bs b0.root))/\Below W.heap.size W w'):=hid (fun W h=>by
   rw[b0_root]
   exact sum_l (0::T0) _ hcat W ((HK.out.ext HB5.out).ext h) (by decide))
  have HCK:Hid (∀W,Below w5.heap.size w5 W->Calls Tryz.prog 31 #[.agg #[.int .u64 0,.string ⟨#[]⟩,.string ⟨#[]⟩,.slice none 0 0,.slice none 0 0]] W fun e' w'=>e'=.returned (.int .i64 2)/\Below W.heap.size W w'):=hid (fun W h=>by
   have h2:=check_p .zero (fun _=>True) _ W (zblk_has _ _) (fun r hr=>by cases hr) (U8T_ext (U8T_ext HT.out HB5.out) h) ((HK.out.ext HB5.out).ext h)
   rw[whole_zero]at h2
   exact h2)
  clear hb5 h25 hcat
  generalize b0.root=RR at hz2 HSM⊢
  go_upto_region 6 with(fail)
  refine mixB_start [] (Cls w5) (by kernel_rfl) (Cls.of ((Below.refl _ _).drew)) (fun hCw=>?_)
  refine mixB_flt (by kernel_rfl) [0,1,2,3,4,5,6,7,8,9,10] 24 _ _ hCw (by kernel_rfl) ?_
  simp only[opsAt,zo1,zo2,zo3,zo4,zo5]
  unfold Cls
  repeat(go_big_quiet_step (fail))
  refine wpQuiet_nil ?_
  (try rw[←Cls_def])
  refine mixB_ch (i:=11) (fuel:=23) (by kernel_rfl) (by kernel_rfl) ?_
  simp only[opsAt,zo1,zo2,zo3,zo4,zo5]
  go_wp2_with(go_at_call 50;refine(HSM.out _ hCw.below).mono ?_;rintro e' w6 ⟨rfl,hb6⟩)
  refine ThenB.mk (hCw.trans hb6) (fun hCw=>?_)
  refine mixB_flt (by kernel_rfl) [12,13,14,15,16,17,18,19,20,21,22,23,24,25,26,27,28,29,30] 4 _ _ hCw (by kernel_rfl) ?_
  simp only[opsAt,zo1,zo2,zo3,zo4,zo5]
  unfold Cls
  repeat(go_big_quiet_step (fail))
  refine wpQuiet_nil ?_
  (try rw[←Cls_def])
  refine mixB_ch (i:=31) (fuel:=3) (by kernel_rfl) (by kernel_rfl) ?_
  simp only[opsAt,zo1,zo2,zo3,zo4,zo5]
  go_wp2_with(go_at_call 31;refine(HCK.out _ hCw.below).mono ?_;rintro e' w7 ⟨rfl,hb7⟩)
  refine ThenB.mk (hCw.trans hb7) (fun hCw=>?_)
  refine mixB_flt (by kernel_rfl) [32,33,34] 0 _ _ hCw (by kernel_rfl) ?_
  simp only[opsAt,zo1,zo2,zo3,zo4,zo5]
  unfold Cls
  repeat(go_big_quiet_step (fail))
  refine wpQuiet_nil ?_
  (try rw[←Cls_def])
  refine mixB_end [] (by kernel_rfl) ?_
  refine wpList_nil ?_
  refine Calm.normal ?_
  have HB7:=hid (below_ext HB5.out hCw.below)
  clear hCw hz2 hsz hst
  go_wp2
  go_ret
  exact⟨rfl,HB7.out⟩
end Go.Proofs.YtcihbnpckicljaaGreatDoor
