/- JournalBlocks, walked. Conditions: the parts, the block and the revision lie in memory, the revisions' texts no longer than 2^39 bytes; the tables read as the text lays them. -/
import Derived.Test.YtcihbnpckicljaaGreatDoorrJIs
import Derived.Test.YtcihbnpckicljaaGreatDoorrJRMake
import Derived.Test.YtcihbnpckicljaaGreatDoorrJHeq
set_option linter.unusedVariables false
set_option linter.unusedSimpArgs false
namespace Go.Proofs.YtcihbnpckicljaaGreatDoor
open Go Go.RowKit Go.BigFrame
open Go.Lib(hid)
set_option maxRecDepth 100000
set_option maxHeartbeats 16000000 in
theorem blocks_any (seq:Nat) (prev:List UInt8) (sts:List (List UInt8)) (revs:List DRev) (ps pr:Option Addr) (cp cr:Nat) (b:DBlk) (cs:List Value) (r:DRev) (rs:List Value) (S Sb Sr:Nat->Prop) (w:World)
 (hm:HasBlk S w ⟨seq,prev,zero32,sts,revs⟩ [.int .u64 (seq:Int),.string (bs prev),.string (bs zero32),.slice ps sts.length cp,.slice pr revs.length cr]) (hno:ps=none->cp=0) (hk:∀r∈revs,okR r)
 (hb:HasBlk Sb w b cs) (hkb:∀r∈b.revs,okR r) (hr:HasRev Sr w r rs) (hkr:okR r) (hT:U8T w) (hK:Ks w):
 Calls Tryz.prog 8 #[.int .u64 (seq:Int),.string (bs prev),.slice ps sts.length cp,.slice pr revs.length cr,.agg cs.toArray,.agg rs.toArray] w fun e' w'=>e'=.returned (.bool true)/\Below w.heap.size w w':=by
 have HLV:Hid (∀W,Below w.heap.size w W->Calls Tryz.prog 14 #[] W fun e' w'=>e'=.returned (.bool true)/\Below W.heap.size W w'):=hid (fun W hb=>lives_any W (U8T_ext hT hb) (hK.ext hb))
 have HM1:Hid (∀W,Below w.heap.size w W->Calls Tryz.prog 29 #[.int .u64 (seq:Int),.string (bs prev),.slice ps sts.length cp,.slice pr revs.length cr] W (BlkIs W (makeP seq prev sts revs).1 (makeP seq prev sts revs).2)):=hid (fun W h=>(make_p seq prev sts revs S ps pr cp cr W (hm.ext h) hk (U8T_ext hT h) (hK.ext h)).mono (fun _ _ h=>h.is))
 have HM2:Hid (∀W,Below w.heap.size w W->Calls Tryz.prog 32 #[.int .u64 (seq:Int),.string (bs prev),.slice ps sts.length cp,.slice pr revs.length cr] W (BlkIs W (makeP seq prev sts revs).1 (makeP seq prev sts revs).2)):=hid (fun W h=>(rmake_p seq prev sts revs S ps pr cp cr W (hm.ext h) hno hk (U8T_ext hT h) (hK.ext h)).mono (fun _ _ h=>h.is))
 have HT1:Hid (∀W,Below w.heap.size w W->Calls Tryz.prog 33 #[.agg cs.toArray] W (TextOut W (wholeP b))):=hid (fun W h=>text_p b Sb cs W (hb.ext h) hkb (U8T_ext hT h) (hK.ext h))
 have HT2:Hid (∀W,Below w.heap.size w W->Calls Tryz.prog 34 #[.agg cs.toArray] W (TextOut W (wholeP b))):=hid (fun W h=>rtext_p b Sb cs W (hb.ext h) hkb (U8T_ext hT h))
 have HS1:Hid (∀W,Below w.heap.size w W->Calls Tryz.prog 23 #[.agg cs.toArray] W (HeadOut W (shortP b))):=hid (fun W h=>short_p b Sb cs W (hb.ext h) hkb (U8T_ext hT h) (hK.ext h))
 have HS2:Hid (∀W,Below w.heap.size w W->Calls Tryz.prog 35 #[.agg cs.toArray] W (HeadOut W (shortP b))):=hid (fun W h=>rshort_p b Sb cs W (hb.ext h) hkb (U8T_ext hT h) (hK.ext h))
 have HF1:Hid (∀W,Below w.heap.size w W->Calls Tryz.prog 36 #[.agg cs.toArray] W (TextOut W (frameP b))):=hid (fun W h=>frame_p b Sb cs W (hb.ext h) hkb (U8T_ext hT h) (hK.ext h))
 have HF2:Hid (∀W,Below w.heap.size w W->Calls Tryz.prog 37 #[.agg cs.toArray] W (TextOut W (frameP b))):=hid (fun W h=>rframe_p b Sb cs W (hb.ext h) hkb (U8T_ext hT h) (hK.ext h))
 have HR1:Hid (∀W,Below w.heap.size w W->Calls Tryz.prog 24 #[.agg rs.toArray] W fun e' w'=>e'=.returned (.tuple #[.string (bs (revT r).1),.int .i64 (revT r).2])/\Below W.heap.size W w'):=hid (fun W h=>revText_any r Sr rs W (relR.kept hr (fun _ h=>h) (fun b _ hlt=>h.block b hlt)) (U8T_ext hT h) hkr.len)
 have HR2:Hid (∀W,Below w.heap.size w W->Calls Tryz.prog 38 #[.agg rs.toArray] W fun e' w'=>e'=.returned (.tuple #[.string (bs (revT r).1),.int .i64 (revT r).2])/\Below W.heap.size W w'):=hid (fun W h=>rrevText_any r Sr rs W (relR.kept hr (fun _ h=>h) (fun b _ hlt=>h.block b hlt)) (U8T_ext hT h) hkr.len)
 have HC1:Hid (∀W,Below w.heap.size w W->Calls Tryz.prog 31 #[.agg cs.toArray] W fun e' w'=>e'=.returned (.int .i64 (wholeP b).2)/\Below W.heap.size W w'):=hid (fun W h=>check_p b Sb cs W (hb.ext h) hkb (U8T_ext hT h) (hK.ext h))
 have HC2:Hid (∀W,Below w.heap.size w W->Calls Tryz.prog 39 #[.agg cs.toArray] W fun e' w'=>e'=.returned (.int .i64 (wholeP b).2)/\Below W.heap.size W w'):=hid (fun W h=>rcheck_p b Sb cs W (hb.ext h) hkb (U8T_ext hT h))
 generalize makeP seq prev sts revs=M at HM1 HM2
 generalize wholeP b=X at HT1 HT2 HC1 HC2
 generalize shortP b=H at HS1 HS2
 generalize frameP b=FR at HF1 HF2
 generalize revT r=RT at HR1 HR2
 clear hm hno hk hkb hkr hT hK
 obtain⟨⟨mseq,mprev,mroot,msts,mrevs⟩,mw⟩:=M
 obtain⟨X1,X2⟩:=X
 obtain⟨⟨hq,hp,hr',hn,hs⟩,hw⟩:=H
 obtain⟨F1,F2⟩:=FR
 obtain⟨R1,R2⟩:=RT
 obtain⟨pbs,cbs,pbr,cbr,rfl,_⟩:=hb
 obtain⟨bseq,bprev,broot,bsts,brevs⟩:=b
 obtain⟨rk,rt,rd,rn,rv⟩:=r
 obtain⟨vk,vb,vn,vs,vl,vf⟩:=rv
 obtain⟨rs',rfl,_,hv⟩:=hr
 obtain⟨pl,cl,pf,cf,rfl,_⟩:=hasVal_mk.1 hv
 clear hv
 go_enter Tryz.func8,Tryz.ntmps8
 go_upto_region 1 with(fail)
 generalize hW0:World.alloc (World.alloc w _) _=w0
 have hdB:IsBlk w0 w.heap.size #[.int .u64 (bseq:Int),.string (bs bprev),.string (bs broot),.slice pbs bsts.length cbs,.slice pbr brevs.length cbr] 28:=by rw[←hW0];exact(IsBlk.new _ _ _).alloc _
 have hdR:IsBlk w0 (w.heap.size+1) #[.int .u8 (rk:Int),.string (bs rt),.int .u64 (rd:Int),.int .u64 (rn:Int),.int .u8 (vk:Int),.bool vb,.int .i64 vn,.string (bs vs),.slice pl vl.length cl,.slice pf vf.length cf] 54:=by rw[←hW0];exact IsBlk.new_at (by simp)
 have hb0:Below w.heap.size w w0:=by rw[←hW0];exact((Below.refl _ _).alloc (Nat.le_refl _) _).alloc (by simp) _
 have HB0:=hid hb0
 have HDB0:=hid hdB
 have HDR0:=hid hdR
 clear hW0 hdB hdR hb0
 go_wp2_with fail
 go_at_call 29
 refine(HM1.out _ HB0.out).mono ?_
 rintro e' v1 ⟨pa,ca,qa,da,rfl,hka,hbx⟩
 go_upto_region 2 with(fail)
 generalize hWx:World.alloc v1 _=u1
 have hby:Below v1.heap.size v1 u1:=by rw[←hWx];exact(Below.refl _ _).alloc (Nat.le_refl _) _
 have hdx:IsBlk u1 v1.heap.size #[.int .u64 (mseq:Int),.string (bs mprev),.string (bs mroot),.slice pa msts.length ca,.slice qa mrevs.length da] 28:=by rw[←hWx];exact IsBlk.new _ _ _
 obtain⟨gDA,hgx⟩:∃g,g=v1.heap.size:=⟨_,rfl⟩
 rw[←hgx]at hdx
 rw[←hgx]
 have HB1:=hid (below_ext HB0.out (below_ext hbx hby))
 have HDB1:=hid (HDB0.out.ext (below_ext hbx hby))
 have HDR1:=hid (HDR0.out.ext (below_ext hbx hby))
 have DA1:=hid hdx
 have HDA1:=hid (hka.ext hby)
 clear hka
 clear hWx hby hdx hgx hbx
 clear HB0 HDB0 HDR0
 go_wp2_with fail
 go_at_call 32
 refine(HM2.out _ HB1.out).mono ?_
 rintro e' v2 ⟨pc,cc,qc,dc,rfl,hkc,hbx⟩
 go_upto_region 3 with(fail)
 generalize hWx:World.alloc v2 _=u2
 have hby:Below v2.heap.size v2 u2:=by rw[←hWx];exact(Below.refl _ _).alloc (Nat.le_refl _) _
 have hdx:IsBlk u2 v2.heap.size #[.int .u64 (mseq:Int),.string (bs mprev),.string (bs mroot),.slice pc msts.length cc,.slice qc mrevs.length dc] 28:=by rw[←hWx];exact IsBlk.new _ _ _
 obtain⟨gDC,hgx⟩:∃g,g=v2.heap.size:=⟨_,rfl⟩
 rw[←hgx]at hdx
 rw[←hgx]
 have HB2:=hid (below_ext HB1.out (below_ext hbx hby))
 have HDB2:=hid (HDB1.out.ext (below_ext hbx hby))
 have HDR2:=hid (HDR1.out.ext (below_ext hbx hby))
 have DA2:=hid (DA1.out.ext (below_ext hbx hby))
 have HDA2:=hid (HDA1.out.ext (below_ext hbx hby))
 have DC2:=hid hdx
 have HDC2:=hid (hkc.ext hby)
 clear hkc
 clear hWx hby hdx hgx hbx
 clear HB1 HDB1 HDR1 DA1 HDA1
 have hc:=HDB2.out
 have hlc:=hc.lt
 have x0:=hc.cell (i:=0) rfl
 have x1:=hc.cell (i:=1) rfl
 have x2:=hc.cell (i:=2) rfl
 have x3:=hc.cell (i:=3) rfl
 have x4:=hc.cell (i:=4) rfl
 clear hc
 go_wp2_with fail
 go_at_call 33
 refine(HT1.out _ HB2.out).mono ?_
 rintro e' v3 ⟨rfl,hbx⟩
 clear hlc x0 x1 x2 x3 x4
 have HB3:=hid (below_ext HB2.out hbx)
 have HDB3:=hid (HDB2.out.ext hbx)
 have HDR3:=hid (HDR2.out.ext hbx)
 have DA3:=hid (DA2.out.ext hbx)
 have HDA3:=hid (HDA2.out.ext hbx)
 have DC3:=hid (DC2.out.ext hbx)
 have HDC3:=hid (HDC2.out.ext hbx)
 clear hbx
 clear HB2 HDB2 HDR2 DA2 HDA2 DC2 HDC2
 have hc:=HDB3.out
 have hlc:=hc.lt
 have x0:=hc.cell (i:=0) rfl
 have x1:=hc.cell (i:=1) rfl
 have x2:=hc.cell (i:=2) rfl
 have x3:=hc.cell (i:=3) rfl
 have x4:=hc.cell (i:=4) rfl
 clear hc
 go_wp2_with fail
 go_at_call 34
 refine(HT2.out _ HB3.out).mono ?_
 rintro e' v4 ⟨rfl,hbx⟩
 clear hlc x0 x1 x2 x3 x4
 have HB4:=hid (below_ext HB3.out hbx)
 have HDB4:=hid (HDB3.out.ext hbx)
 have HDR4:=hid (HDR3.out.ext hbx)
 have DA4:=hid (DA3.out.ext hbx)
 have HDA4:=hid (HDA3.out.ext hbx)
 have DC4:=hid (DC3.out.ext hbx)
 have HDC4:=hid (HDC3.out.ext hbx)
 clear hbx
 clear HB3 HDB3 HDR3 DA3 HDA3 DC3 HDC3
 have hc:=HDB4.out
 have hlc:=hc.lt
 have x0:=hc.cell (i:=0) rfl
 have x1:=hc.cell (i:=1) rfl
 have x2:=hc.cell (i:=2) rfl
 have x3:=hc.cell (i:=3) rfl
 have x4:=hc.cell (i:=4) rfl
 clear hc
 go_wp2_with fail
 go_at_call 23
 refine(HS1.out _ HB4.out).mono ?_
 rintro e' v5 ⟨rfl,hbx⟩
 clear hlc x0 x1 x2 x3 x4
 go_upto_region 6 with(fail)
 generalize hWx:World.alloc v5 _=u5
 have hby:Below v5.heap.size v5 u5:=by rw[←hWx];exact(Below.refl _ _).alloc (Nat.le_refl _) _
 have hdx:IsBlk u5 v5.heap.size #[.int .u64 (hq:Int),.string (bs hp),.string (bs hr'),.int .u64 (hn:Int),.string (bs hs)] 24:=by rw[←hWx];exact IsBlk.new _ _ _
 obtain⟨gDF,hgx⟩:∃g,g=v5.heap.size:=⟨_,rfl⟩
 rw[←hgx]at hdx
 rw[←hgx]
 have HB5:=hid (below_ext HB4.out (below_ext hbx hby))
 have HDB5:=hid (HDB4.out.ext (below_ext hbx hby))
 have HDR5:=hid (HDR4.out.ext (below_ext hbx hby))
 have DA5:=hid (DA4.out.ext (below_ext hbx hby))
 have HDA5:=hid (HDA4.out.ext (below_ext hbx hby))
 have DC5:=hid (DC4.out.ext (below_ext hbx hby))
 have HDC5:=hid (HDC4.out.ext (below_ext hbx hby))
 have DF5:=hid hdx
 clear hWx hby hdx hgx hbx
 clear HB4 HDB4 HDR4 DA4 HDA4 DC4 HDC4
 have hc:=HDB5.out
 have hlc:=hc.lt
 have x0:=hc.cell (i:=0) rfl
 have x1:=hc.cell (i:=1) rfl
 have x2:=hc.cell (i:=2) rfl
 have x3:=hc.cell (i:=3) rfl
 have x4:=hc.cell (i:=4) rfl
 clear hc
 go_wp2_with fail
 go_at_call 35
 refine(HS2.out _ HB5.out).mono ?_
 rintro e' v6 ⟨rfl,hbx⟩
 clear hlc x0 x1 x2 x3 x4
 go_upto_region 7 with(fail)
 generalize hWx:World.alloc v6 _=u6
 have hby:Below v6.heap.size v6 u6:=by rw[←hWx];exact(Below.refl _ _).alloc (Nat.le_refl _) _
 have hdx:IsBlk u6 v6.heap.size #[.int .u64 (hq:Int),.string (bs hp),.string (bs hr'),.int .u64 (hn:Int),.string (bs hs)] 24:=by rw[←hWx];exact IsBlk.new _ _ _
 obtain⟨gDG,hgx⟩:∃g,g=v6.heap.size:=⟨_,rfl⟩
 rw[←hgx]at hdx
 rw[←hgx]
 have HB6:=hid (below_ext HB5.out (below_ext hbx hby))
 have HDB6:=hid (HDB5.out.ext (below_ext hbx hby))
 have HDR6:=hid (HDR5.out.ext (below_ext hbx hby))
 have DA6:=hid (DA5.out.ext (below_ext hbx hby))
 have HDA6:=hid (HDA5.out.ext (below_ext hbx hby))
 have DC6:=hid (DC5.out.ext (below_ext hbx hby))
 have HDC6:=hid (HDC5.out.ext (below_ext hbx hby))
 have DF6:=hid (DF5.out.ext (below_ext hbx hby))
 have DG6:=hid hdx
 clear hWx hby hdx hgx hbx
 clear HB5 HDB5 HDR5 DA5 HDA5 DC5 HDC5 DF5
 have hc:=HDB6.out
 have hlc:=hc.lt
 have x0:=hc.cell (i:=0) rfl
 have x1:=hc.cell (i:=1) rfl
 have x2:=hc.cell (i:=2) rfl
 have x3:=hc.cell (i:=3) rfl
 have x4:=hc.cell (i:=4) rfl
 clear hc
 go_wp2_with fail
 go_at_call 36
 refine(HF1.out _ HB6.out).mono ?_
 rintro e' v7 ⟨rfl,hbx⟩
 clear hlc x0 x1 x2 x3 x4
 have HB7:=hid (below_ext HB6.out hbx)
 have HDB7:=hid (HDB6.out.ext hbx)
 have HDR7:=hid (HDR6.out.ext hbx)
 have DA7:=hid (DA6.out.ext hbx)
 have HDA7:=hid (HDA6.out.ext hbx)
 have DC7:=hid (DC6.out.ext hbx)
 have HDC7:=hid (HDC6.out.ext hbx)
 have DF7:=hid (DF6.out.ext hbx)
 have DG7:=hid (DG6.out.ext hbx)
 clear hbx
 clear HB6 HDB6 HDR6 DA6 HDA6 DC6 HDC6 DF6 DG6
 have hc:=HDB7.out
 have hlc:=hc.lt
 have x0:=hc.cell (i:=0) rfl
 have x1:=hc.cell (i:=1) rfl
 have x2:=hc.cell (i:=2) rfl
 have x3:=hc.cell (i:=3) rfl
 have x4:=hc.cell (i:=4) rfl
 clear hc
 go_wp2_with fail
 go_at_call 37
 refine(HF2.out _ HB7.out).mono ?_
 rintro e' v8 ⟨rfl,hbx⟩
 clear hlc x0 x1 x2 x3 x4
 have HB8:=hid (below_ext HB7.out hbx)
 have HDB8:=hid (HDB7.out.ext hbx)
 have HDR8:=hid (HDR7.out.ext hbx)
 have DA8:=hid (DA7.out.ext hbx)
 have HDA8:=hid (HDA7.out.ext hbx)
 have DC8:=hid (DC7.out.ext hbx)
 have HDC8:=hid (HDC7.out.ext hbx)
 have DF8:=hid (DF7.out.ext hbx)
 have DG8:=hid (DG7.out.ext hbx)
 clear hbx
 clear HB7 HDB7 HDR7 DA7 HDA7 DC7 HDC7 DF7 DG7
 have hc:=HDR8.out
 have hlc:=hc.lt
 have x0:=hc.cell (i:=0) rfl
 have x1:=hc.cell (i:=1) rfl
 have x2:=hc.cell (i:=2) rfl
 have x3:=hc.cell (i:=3) rfl
 have x4:=hc.cell (i:=4) rfl
 have x5:=hc.cell (i:=5) rfl
 have x6:=hc.cell (i:=6) rfl
 have x7:=hc.cell (i:=7) rfl
 have x8:=hc.cell (i:=8) rfl
 have x9:=hc.cell (i:=9) rfl
 clear hc
 go_wp2_with fail
 go_at_call 24
 refine(HR1.out _ HB8.out).mono ?_
 rintro e' v9 ⟨rfl,hbx⟩
 clear hlc x0 x1 x2 x3 x4 x5 x6 x7 x8 x9
 have HB9:=hid (below_ext HB8.out hbx)
 have HDB9:=hid (HDB8.out.ext hbx)
 have HDR9:=hid (HDR8.out.ext hbx)
 have DA9:=hid (DA8.out.ext hbx)
 have HDA9:=hid (HDA8.out.ext hbx)
 have DC9:=hid (DC8.out.ext hbx)
 have HDC9:=hid (HDC8.out.ext hbx)
 have DF9:=hid (DF8.out.ext hbx)
 have DG9:=hid (DG8.out.ext hbx)
 clear hbx
 clear HB8 HDB8 HDR8 DA8 HDA8 DC8 HDC8 DF8 DG8
 have hc:=HDR9.out
 have hlc:=hc.lt
 have x0:=hc.cell (i:=0) rfl
 have x1:=hc.cell (i:=1) rfl
 have x2:=hc.cell (i:=2) rfl
 have x3:=hc.cell (i:=3) rfl
 have x4:=hc.cell (i:=4) rfl
 have x5:=hc.cell (i:=5) rfl
 have x6:=hc.cell (i:=6) rfl
 have x7:=hc.cell (i:=7) rfl
 have x8:=hc.cell (i:=8) rfl
 have x9:=hc.cell (i:=9) rfl
 clear hc
 go_wp2_with fail
 go_at_call 38
 refine(HR2.out _ HB9.out).mono ?_
 rintro e' v10 ⟨rfl,hbx⟩
 clear hlc x0 x1 x2 x3 x4 x5 x6 x7 x8 x9
 have HB10:=hid (below_ext HB9.out hbx)
 have HDB10:=hid (HDB9.out.ext hbx)
 have HDR10:=hid (HDR9.out.ext hbx)
 have DA10:=hid (DA9.out.ext hbx)
 have HDA10:=hid (HDA9.out.ext hbx)
 have DC10:=hid (DC9.out.ext hbx)
 have HDC10:=hid (HDC9.out.ext hbx)
 have DF10:=hid (DF9.out.ext hbx)
 have DG10:=hid (DG9.out.ext hbx)
 clear hbx
 clear HB9 HDB9 HDR9 DA9 HDA9 DC9 HDC9 DF9 DG9
 go_wp2_with fail
 go_at_call 14
 refine(HLV.out _ HB10.out).mono ?_
 rintro e' v11 ⟨rfl,hbx⟩
 have HB11:=hid (below_ext HB10.out hbx)
 have HDB11:=hid (HDB10.out.ext hbx)
 have HDR11:=hid (HDR10.out.ext hbx)
 have DA11:=hid (DA10.out.ext hbx)
 have HDA11:=hid (HDA10.out.ext hbx)
 have DC11:=hid (DC10.out.ext hbx)
 have HDC11:=hid (HDC10.out.ext hbx)
 have DF11:=hid (DF10.out.ext hbx)
 have DG11:=hid (DG10.out.ext hbx)
 clear hbx
 clear HB10 HDB10 HDR10 DA10 HDA10 DC10 HDC10 DF10 DG10
 have HSM:Hid (∀W,Below v11.heap.size v11 W->Calls Tryz.prog 15 #[.agg #[.int .u64 (mseq:Int),.string (bs mprev),.string (bs mroot),.slice pa msts.length ca,.slice qa mrevs.length da],.agg #[.int .u64 (mseq:Int),.string (bs mprev),.string (bs mroot),.slice pc msts.length cc,.slice qc mrevs.length dc]] W fun e' w'=>e'=.returned (.bool true)/\Below W.heap.size W w'):=hid (fun W h=>by
  have h2:=same6_any _ _ _ _ _ _ W (HDA11.out.ext h) (HDC11.out.ext h)
  rw[eqv_self]at h2
  exact h2)
 have hca:=DA11.out
 have hcc:=DC11.out
 have hla:=hca.lt
 have hlc:=hcc.lt
 have x0:=hca.cell (i:=0) rfl
 have x1:=hca.cell (i:=1) rfl
 have x2:=hca.cell (i:=2) rfl
 have x3:=hca.cell (i:=3) rfl
 have x4:=hca.cell (i:=4) rfl
 have y0:=hcc.cell (i:=0) rfl
 have y1:=hcc.cell (i:=1) rfl
 have y2:=hcc.cell (i:=2) rfl
 have y3:=hcc.cell (i:=3) rfl
 have y4:=hcc.cell (i:=4) rfl
 clear hca hcc
 go_wp2_with fail
 go_at_call 15
 refine(HSM.out _ (Below.refl _ _)).mono ?_
 rintro e' z1 ⟨rfl,hbx⟩
 have HBZ:=hid (below_ext HB11.out hbx)
 have HDBZ:=hid (HDB11.out.ext hbx)
 have hcf:=DF11.out.ext hbx
 have hcg:=DG11.out.ext hbx
 have hlf:=hcf.lt
 have hlg:=hcg.lt
 clear hla hlc x0 x1 x2 x3 x4 y0 y1 y2 y3 y4 hbx
 have x0:=hcf.cell (i:=0) rfl
 have x1:=hcf.cell (i:=1) rfl
 have x2:=hcf.cell (i:=2) rfl
 have x3:=hcf.cell (i:=3) rfl
 have x4:=hcf.cell (i:=4) rfl
 have y0:=hcg.cell (i:=0) rfl
 have y1:=hcg.cell (i:=1) rfl
 have y2:=hcg.cell (i:=2) rfl
 have y3:=hcg.cell (i:=3) rfl
 have y4:=hcg.cell (i:=4) rfl
 have eX1:((bs X1).toList !=(bs X1).toList)=false:=by simp
 have fX1:((bs X1).toList==(bs X1).toList)=true:=by simp
 have eF1:((bs F1).toList !=(bs F1).toList)=false:=by simp
 have fF1:((bs F1).toList==(bs F1).toList)=true:=by simp
 have eR1:((bs R1).toList !=(bs R1).toList)=false:=by simp
 have fR1:((bs R1).toList==(bs R1).toList)=true:=by simp
 have emw:(mw !=mw)=false:=by simp
 have fmw:(mw==mw)=true:=by simp
 have eX2:(X2 !=X2)=false:=by simp
 have fX2:(X2==X2)=true:=by simp
 have ehw:(hw !=hw)=false:=by simp
 have fhw:(hw==hw)=true:=by simp
 have eF2:(F2 !=F2)=false:=by simp
 have fF2:(F2==F2)=true:=by simp
 have eR2:(R2 !=R2)=false:=by simp
 have fR2:(R2==R2)=true:=by simp
 clear hcf hcg
 go_upto_region 13 with(fail)
 clear hlf hlg x0 x1 x2 x3 x4 y0 y1 y2 y3 y4
 have hcb:=HDBZ.out
 have hlb:=hcb.lt
 have x0:=hcb.cell (i:=0) rfl
 have x1:=hcb.cell (i:=1) rfl
 have x2:=hcb.cell (i:=2) rfl
 have x3:=hcb.cell (i:=3) rfl
 have x4:=hcb.cell (i:=4) rfl
 clear hcb
 refine mixB_start [] (Cls z1) (by kernel_rfl) (Cls.of ((Below.refl _ _).drew)) (fun hCw=>?_)
 refine mixB_flt (by kernel_rfl) [0,2] 4 _ _ hCw (by kernel_rfl) ?_
 simp only[opsAt,zo1,zo2,zo3,zo4,zo5]
 unfold Cls
 repeat(go_big_quiet_step (fail))
 refine wpQuiet_nil ?_
 (try rw[←Cls_def])
 refine mixB_ch (i:=1) (fuel:=3) (by kernel_rfl) (by kernel_rfl) ?_
 simp only[opsAt,zo1,zo2,zo3,zo4,zo5]
 go_wp2_with(go_at_call 31;refine(HC1.out _ (below_ext HBZ.out hCw.below)).mono ?_;rintro e' z2 ⟨rfl,hbx⟩)
 refine ThenB.mk (hCw.trans hbx) (fun hCw=>?_)
 refine mixB_ch (i:=3) (fuel:=2) (by kernel_rfl) (by kernel_rfl) ?_
 simp only[opsAt,zo1,zo2,zo3,zo4,zo5]
 go_wp2_with(go_at_call 39;refine(HC2.out _ (below_ext HBZ.out hCw.below)).mono ?_;rintro e' z3 ⟨rfl,hby⟩)
 refine ThenB.mk (hCw.trans hby) (fun hCw=>?_)
 refine mixB_flt (by kernel_rfl) [4,5] 0 _ _ hCw (by kernel_rfl) ?_
 simp only[opsAt,zo1,zo2,zo3,zo4,zo5]
 unfold Cls
 repeat(go_big_quiet_step (fail))
 refine wpQuiet_nil ?_
 (try rw[←Cls_def])
 refine mixB_end [] (by kernel_rfl) ?_
 refine wpList_nil ?_
 refine Calm.normal ?_
 have HBE:=hid (below_ext HBZ.out hCw.below)
 clear hCw x0 x1 x2 x3 x4
 go_wp2
 go_ret
 exact⟨rfl,HBE.out⟩
end Go.Proofs.YtcihbnpckicljaaGreatDoor
