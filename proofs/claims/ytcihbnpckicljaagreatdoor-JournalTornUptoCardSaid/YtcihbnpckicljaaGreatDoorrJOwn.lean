/- journal.own: a block of its own memory. Condition: the block lies in memory. -/
import Derived.Test.YtcihbnpckicljaaGreatDoorrJSame
import Derived.Test.YtcihbnpckicljaaGreatDoorrGV
set_option linter.unusedVariables false
set_option linter.unusedSimpArgs false
namespace Go.Proofs.YtcihbnpckicljaaGreatDoor
open Go Go.RowKit Go.BigFrame
open Go.Lib(hid)
set_option maxRecDepth 100000
set_option maxHeartbeats 4000000 in
theorem cloneRev_any (vs:List DRev) (S:Nat->Prop) (p:Option Addr) (c:Nat) (w:World) (h:RowIn HasRev 10 S w p vs) (hn:vs.length<=1073741824):
 Calls Tryz.prog 100 #[.slice p vs.length c] w fun e' w'=>∃v,e'=.returned v/\(∀D,Half HasRev 10 w.heap.size D S 54 w' v vs 0)/\Below w.heap.size w w':=by
 obtain⟨css,h1,h2,h3,h4⟩:=h.css relR (by decide)
 have hfl:css.flatten.length=vs.length*10:=by
  have:=flatten_take h2 css.length (Nat.le_refl _)
  rw[List.take_length]at this
  rw[this,h1]
 have q24:∀(w:World) (a:Option Addr) (n c n' c':Nat),(binOp .eql 26 (.slice a n c) (.slice none n' c')).run Tryz.prog w=.ok (.bool a.isNone) w:=fun w a n c n' c'=>Lib.run_eql_slice_nil w _ _ a n c n' c' Tryz.underlying26
 obtain⟨n,hnl⟩:∃n0,n0=vs.length:=⟨_,rfl⟩
 have HN:=hid hnl
 rw[←hnl]at hn hfl⊢
 have H3:=hid h3
 have H4:=hid h4
 have H1:=hid h1
 have H2:=hid h2
 have HFL:=hid hfl
 have H0:=hid h
 clear h1 h2 h3 h4 hnl hfl h
 cases p with
 |none=>
  have h0:n=0:=by
   rcases Nat.eq_zero_or_pos n with h|h
   ·exact h
   ·exfalso
    obtain⟨g,o,cs,q,_⟩:=H0.out 0 (by rw[←HN.out];exact h)
    cases q
  subst h0
  go_enter Tryz.func100,Tryz.ntmps100
  go_wp2
  go_ret
  have hv:vs=[]:=List.eq_nil_of_length_eq_zero HN.out.symm
  exact⟨_,rfl,fun D=>⟨[],⟨by rw[hv];rfl,Or.inl ⟨rfl,by rw[hv];rfl⟩⟩,by rw[hv];rfl,(fun c hc=>by cases hc),fun i hi=>by rw[hv]at hi;simp at hi⟩,Below.refl _ _⟩
 |some ad=>
  have hinfo:(Tryz.prog.info? 54).map (fun i=>(i.zero,i.size,i.bytes))=some (some (.agg #[.int .u8 0,.string ⟨#[]⟩,.int .u64 0,.int .u64 0,.int .u8 0,.bool false,.int .i64 0,.string ⟨#[]⟩,.slice none 0 0,.slice none 0 0]),10,120):=by kernel_rfl
  obtain⟨i0,hi,hzz⟩:=Option.map_eq_some_iff.1 hinfo
  simp only[Prod.mk.injEq]at hzz
  obtain⟨hz0,hz1,hz2⟩:=hzz
  have HI:=hid hi
  have HZ0:=hid hz0
  have HZ1:=hid hz1
  have HZ2:=hid hz2
  clear hinfo hi hz0 hz1 hz2
  go_enter Tryz.func100,Tryz.ntmps100
  go_wp2_with(at_builtin;refine wpList_append_own _ rfl _ _ 26 rfl w.heap.size 54 i0 (.agg #[.int .u8 0,.string ⟨#[]⟩,.int .u64 0,.int .u64 0,.int .u8 0,.bool false,.int .i64 0,.string ⟨#[]⟩,.slice none 0 0,.slice none 0 0]) 10 120 Tryz.underlying26 HI.out HZ0.out HZ1.out HZ2.out rfl (by decide) _ _ _ rfl (World.ownsRow_made w #[] 0 (Nat.le_refl _) (Nat.zero_le _) rfl) ad n c css.flatten rfl ?qc1 ?qc2 ?qc3 ?qc4 ?qc5 ?qc6 ?_)
  case qc1=>exact HFL.out
  case qc2=>
   intro j u hj
   exact Lib.cell?_alloc_some _ (H4.out ad rfl j u hj)
  case qc3=>
   intro u hu
   obtain⟨cs,hc,hu⟩:=List.mem_flatten.1 hu
   obtain⟨i,hi,rfl⟩:=List.getElem_of_mem hc
   exact relR.one (H3.out i (by rw[←H1.out];exact hi) hi) u hu
  case qc4=>unfold maxLen;omega
  case qc5=>omega
  case qc6=>simp
  intro v' w1 hown hgrow hnil
  have hbw:Below w.heap.size w w1:=((Below.refl _ w).alloc (Nat.le_refl _) _).grown hgrow (by simp) (by intro k hk;simp[Value.ownBlock]at hk;omega)
  have HBW:=hid hbw
  have hhalf:∀D,Half HasRev 10 w.heap.size D S 54 w1 v' vs 0:=by
   refine fun D=>⟨css,by rw[←HN.out];simpa using hown,H1.out,H2.out,fun i hi hi'=>⟨fun h=>by omega,fun _=>relR.kept (H3.out i hi hi') (fun _ h=>h) (fun b _ hlt=>hbw.block b hlt)⟩⟩
  have HH:=hid hhalf
  clear hown hgrow hnil hbw hhalf
  go_wp2
  go_ret
  exact⟨_,rfl,HH.out,HBW.out⟩
theorem hasS_lt {S:Nat->Prop} {w:World} {p:Option Addr} {l:List (List UInt8)} (h:HasS S w p l):HasS (fun x=>S x/\x<w.heap.size) w p l:=fun i hi=>by
 obtain⟨g,o,h1,h2,h3,h4⟩:=h i hi
 exact⟨g,o,h1,⟨h2,h3⟩,h3,h4⟩
set_option maxHeartbeats 8000000 in
theorem own6_any (x:DBlk) (S:Nat->Prop) (cs:List Value) (w:World) (hx:HasBlk S w x cs):
 Calls Tryz.prog 69 #[.agg cs.toArray] w fun e' w'=>∃cs',e'=.returned (.agg cs'.toArray)/\HasBlk (fun b=>w.heap.size<=b) w' x cs'/\Below w.heap.size w w':=by
 have hx2:HasBlk (fun b=>b<w.heap.size) w x cs:=relB.kept (relB.lt hx) (fun b h=>h.2) (fun _ _ _=>rfl)
 obtain⟨sq,pv,rt,l,f⟩:=x
 obtain⟨pl,cl,pf,cf,rfl,hbd,hL,hF⟩:=hx2
 have hll:l.length<=1073741824:=hbd.2.2.2.1
 have hlf:f.length<=1073741824:=hbd.2.2.2.2.1
 show Calls Tryz.prog 69 #[.agg #[.int .u64 (sq:Int),.string (bs pv),.string (bs rt),.slice pl l.length cl,.slice pf f.length cf]] w _
 have HCL:=hid (fun w' (hb:Below w.heap.size w w')=>clone_any l _ pl cl w' (hL.ext hb) (by omega))
 have HCF:=hid (fun w' (hb:Below w.heap.size w w')=>cloneRev_any f _ pf cf w' (hF.ext relR hb) hlf)
 have HBD:=hid hbd
 clear hx hL hF hbd
 go_enter Tryz.func69,Tryz.ntmps69
 go_upto_region 1 with(fail)
 generalize hW0:World.alloc (World.alloc w _) _=W0
 have hd1:IsBlk W0 w.heap.size #[.int .u64 (sq:Int),.string (bs pv),.string (bs rt),.slice pl l.length cl,.slice pf f.length cf] 28:=by rw[←hW0];exact(IsBlk.new _ _ _).alloc _
 have hd2:IsBlk W0 (w.heap.size+1) #[.int .u64 0,.string (bs []),.string (bs []),.slice none 0 0,.slice none 0 0] 28:=by rw[←hW0];exact IsBlk.new_at (by simp)
 have hb0:Below w.heap.size w W0:=by rw[←hW0];exact((Below.refl _ _).alloc (Nat.le_refl _) _).alloc (by simp) _
 have hlt1:w.heap.size<W0.heap.size:=hd1.lt
 have hlt2:w.heap.size+1<W0.heap.size:=hd2.lt
 clear hW0
 have c4:=hd1.cell (i:=3) rfl
 have c5:=hd1.cell (i:=4) rfl
 have f4:=hd1.frozen 3
 have f5:=hd1.frozen 4
 have HD1:=hid hd1
 have HD2:=hid hd2
 have HB0:=hid hb0
 clear hd1 hd2 hb0
 refine mixB_start [7,8,9] (Cls W0) (by kernel_rfl) (Cls.of ((Below.refl _ _).drew)) (fun hCw=>?_)
 refine mixB_flt (by kernel_rfl) [0,1,3,4] 6 _ _ hCw (by kernel_rfl) ?_
 simp only[opsAt,zo1,zo2,zo3,zo4,zo5]
 unfold Cls
 repeat(go_big_quiet_step (fail))
 refine wpQuiet_nil ?_
 (try rw[←Cls_def])
 refine mixB_ch (i:=2) (fuel:=5) (by kernel_rfl) (by kernel_rfl) ?_
 simp only[opsAt,zo1,zo2,zo3,zo4,zo5]
 go_wp2_with(go_at_call 64;refine(HCL.out _ (below_ext HB0.out hCw.below)).mono ?_;rintro e' w1 ⟨v1,rfl,hh1,hb1⟩;have hC1:=hCw)
 refine ThenB.mk (hCw.trans hb1) (fun hCw=>?_)
 refine mixB_flt (by kernel_rfl) [6] 4 _ _ hCw (by kernel_rfl) ?_
 simp only[opsAt,zo1,zo2,zo3,zo4,zo5]
 unfold Cls
 repeat(go_big_quiet_step (fail))
 refine wpQuiet_nil ?_
 (try rw[←Cls_def])
 refine mixB_ch (i:=5) (fuel:=3) (by kernel_rfl) (by kernel_rfl) ?_
 simp only[opsAt,zo1,zo2,zo3,zo4,zo5]
 go_wp2_with(go_at_call 100;refine(HCF.out _ (below_ext HB0.out hCw.below)).mono ?_;rintro e' w2 ⟨v2,rfl,hh2,hb2⟩)
 refine ThenB.mk (hCw.trans hb2) (fun hCw=>?_)
 refine mixB_end [7,8,9] (by kernel_rfl) ?_
 simp only[opsAt,zo1,zo2,zo3,zo4,zo5]
 have hB01:Below W0.heap.size W0 w1:=((Below.refl _ _).drew).trans hb1
 have hz1:=hB01.size
 have hz2:=hb2.size
 obtain⟨p1,c1,rfl,hc1a,hc1b,hs1⟩:=hasS_cap hh1
 obtain⟨p2,c2,rfl,ho2⟩:=(hh2 (fun _=>True)).slice
 have hblk2:=HD1.out.ext hCw.below
 have hzer2:=HD2.out.ext hCw.below
 have HB2:=hid (below_ext HB0.out hCw.below)
 have HS1:Hid (HasS (fun x=>W0.heap.size<=x/\x<w1.heap.size) w2 p1 l):=hid ((hasS_lt hs1).ext hb2)
 have HH2:=hid hh2
 have HO2:=hid ho2
 clear c4 c5 f4 f5 hCw hb1 hb2 hh1 hh2 ho2 hB01 hs1
 have c4:=hblk2.cell (i:=3) rfl
 have c5:=hblk2.cell (i:=4) rfl
 have f4:=hblk2.frozen 3
 have f5:=hblk2.frozen 4
 have HBK2:=hid hblk2
 have HZR2:=hid hzer2
 clear hblk2 hzer2
 have hst:∀W,W=(w2.setCell ⟨w.heap.size,3,none⟩ (.slice p1 l.length c1)).setCell ⟨w.heap.size,4,none⟩ (.slice p2 f.length c2)→
  IsBlk W w.heap.size #[.int .u64 (sq:Int),.string (bs pv),.string (bs rt),.slice p1 l.length c1,.slice p2 f.length c2] 28/\IsBlk W (w.heap.size+1) #[.int .u64 0,.string (bs []),.string (bs []),.slice none 0 0,.slice none 0 0] 28/\Below w.heap.size w W/\W.heap.size=w2.heap.size/\∀z,z≠w.heap.size->W.heap[z]?=w2.heap[z]?:=by
  intro W hW
  subst hW
  have hoth:∀z,z≠w.heap.size->((w2.setCell ⟨w.heap.size,3,none⟩ (.slice p1 l.length c1)).setCell ⟨w.heap.size,4,none⟩ (.slice p2 f.length c2)).heap[z]?=w2.heap[z]?:=fun z hz=>by
   rw[Below.heap_setCell _ _ _ _ hz,Below.heap_setCell _ _ _ _ hz]
  exact⟨by simpa using(HBK2.out.set 3 (.slice p1 l.length c1)).set 4 (.slice p2 f.length c2),(hoth _ (by omega)).trans HZR2.out,below_set (below_set HB2.out (Nat.le_refl _)) (Nat.le_refl _),by simp,hoth⟩
 have HST:=hid hst
 clear hst
 go_wp2
 refine Calm.normal ?_
 generalize hW3:World.setCell _ _ _=W3
 obtain⟨e1,e2,e3,e4,e5⟩:=HST.out W3 hW3.symm
 have HS3W:Hid (HasS (fun x=>W0.heap.size<=x/\x<w1.heap.size) W3 p1 l):=hid (HS1.out.ext_to (fun _ h=>h) (fun b hb _=>e5 b (by omega)))
 have HH23:Hid (Half HasRev 10 w1.heap.size (fun z=>W3.heap.size<=z) (fun b=>b<w.heap.size) 54 W3 (.slice p2 f.length c2) f 0):=hid ((HH2.out _).kept relR (fun z hz=>e5 z (by have:=(HO2.out z hz).1;omega)) (fun z hz hlt=>by have h6:W3.heap.size<=z:=hz;omega) (fun z hz hlt=>e5 z (by have h6:z<w.heap.size:=hz;omega)))
 have HBK:=hid e1
 have HZR3:=hid e2
 have HB3:=hid e3
 have hs3:W3.heap.size=w2.heap.size:=e4
 have hlt3:w.heap.size+1<W3.heap.size:=by omega
 have c5:=e1.cell (i:=4) rfl
 clear e1 e2 e3 e4 e5 hW3 c4 f4 f5 HST HBK2 HZR2 HB2 HS1 HH2 HD1 HD2 HCL HCF
 have HS3:=hid hs3
 clear hs3
 go_wp2
 clear c5
 go_loopw [16] (fun i wr=>∃j:Nat,i=.int .i64 (j:Int)/\j<=f.length/\Half HasRev 10 w1.heap.size (fun z=>W3.heap.size<=z) (fun b=>b<w.heap.size) 54 wr (.slice p2 f.length c2) f j/\KeptO (Value.slice p2 f.length c2).ownBlock W3 wr/\Below w.heap.size w wr) (fun i _=>f.length-(intOf i).toNat)
 case atStart=>exact⟨0,rfl,Nat.zero_le _,HH23.out,KeptO.refl _ _,HB3.out⟩
 case round=>
 clear HH23
 obtain⟨j,rfl,hj,hh,hk,hbw⟩:=hrel
 have HBW':=hid hbw
 have HH':=hid hh
 have HKO':=hid hk
 have hblk:IsBlk wr w.heap.size #[.int .u64 (sq:Int),.string (bs pv),.string (bs rt),.slice p1 l.length c1,.slice p2 f.length c2] 28:=(hk.2 _ (by omega) (fun e=>by have:=(HO2.out _ e).1;omega)).trans HBK.out
 have hszw:=hk.1
 have HBK':=hid hblk
 clear hh hk hbw
 by_cases hlt:j<f.length
 ·obtain⟨g,cap,cs,hv,hBg,hgl,hnc,hcm,hval,hcl,hcells,hfz⟩:=HH'.out.next hlt
  obtain⟨e1,_,e3⟩:=Value.slice.inj hv
  subst e1
  subst e3
  have hg3:=(HO2.out g rfl)
  generalize hu:f[j]=fu at hval
  obtain⟨rk,rtb,rd,rn,k1,b1,n1,s1,l1,f1⟩:=fu
  obtain⟨cs1,rfl,hxl,hval⟩:=hval
  have hval':=hval
  obtain⟨pl1,cl1,pf1,cf1,rfl,_⟩:=hasVal_mk.1 hval
  have d0:=hcells 4 (by omega)
  have d1:=hcells 5 (by omega)
  have d2:=hcells 6 (by omega)
  have d3:=hcells 7 (by omega)
  have d4:=hcells 8 (by omega)
  have d5:=hcells 9 (by omega)
  have c5:=hblk.cell (i:=4) rfl
  have hlb2:=hblk.lt
  have HV:=hid hval'
  have HU:=hid hu
  have HXL:=hid hxl
  have HC:=hid hcells
  have HFZ:=hid hfz
  clear hval hval' hu hv hcells hfz hblk hcl hcm hxl
  go_wp2_with fail
  go_at_call 101
  refine(get_nil k1 b1 n1 s1 l1 f1 _ _ _ HV.out).mono ?_
  rintro e' w3 ⟨cs',rfl,hv3,_,hbr⟩
  obtain⟨pl3,cl3,pf3,cf3,rfl,_⟩:=hasVal_mk.1 hv3
  have hgb:=hbr.block g hgl
  have hz3:=hbr.size
  have x0:=(hbr.cell (p:=⟨g,j*10+4,none⟩) hgl).trans d0
  have x1:=(hbr.cell (p:=⟨g,j*10+5,none⟩) hgl).trans d1
  have x2:=(hbr.cell (p:=⟨g,j*10+6,none⟩) hgl).trans d2
  have x3:=(hbr.cell (p:=⟨g,j*10+7,none⟩) hgl).trans d3
  have x4:=(hbr.cell (p:=⟨g,j*10+8,none⟩) hgl).trans d4
  have x5:=(hbr.cell (p:=⟨g,j*10+9,none⟩) hgl).trans d5
  have y0:=(frozen_block (o:=j*10+4) hgb).trans (HFZ.out _)
  have y1:=(frozen_block (o:=j*10+5) hgb).trans (HFZ.out _)
  have y2:=(frozen_block (o:=j*10+6) hgb).trans (HFZ.out _)
  have y3:=(frozen_block (o:=j*10+7) hgb).trans (HFZ.out _)
  have y4:=(frozen_block (o:=j*10+8) hgb).trans (HFZ.out _)
  have y5:=(frozen_block (o:=j*10+9) hgb).trans (HFZ.out _)
  have hstep:=HH'.out.step (pre:=[.int .u8 (rk:Int),.string (bs rtb),.int .u64 (rd:Int),.int .u64 (rn:Int)]) (new:=[.int .u8 (k1:Int),.bool b1,.int .i64 n1,.string (bs s1),.slice pl3 l1.length cl3,.slice pf3 f1.length cf3]) relR hbr hlt (fun z hz e=>by have h6:z<w.heap.size:=hz;have:=hg3.1;omega) (fun z hz=>Nat.le_trans hszw hz) (fun z hz e=>by have h6:W3.heap.size<=z:=hz;have:=hg3.2;have h7:=HS3.out;omega) (fun S w cs h=>by
   rw[HU.out]at h
   obtain⟨cs',rfl,_⟩:=h
   exact⟨cs',rfl⟩) (by rw[HU.out];exact⟨_,rfl,HXL.out,hv3⟩)
  have hkn:=KeptO.sets (HKO'.out.ext hbr) (size_setCells g · · w3) (j*10+4) [.int .u8 (k1:Int),.bool b1,.int .i64 n1,.string (bs s1),.slice pl3 l1.length cl3,.slice pf3 f1.length cf3]
  have hbn:=below_setCells (B:=w.heap.size) (w0:=w) (show w.heap.size<=g by have:=hg3.1;omega) [.int .u8 (k1:Int),.bool b1,.int .i64 n1,.string (bs s1),.slice pl3 l1.length cl3,.slice pf3 f1.length cf3] (j*10+4) w3 (HBW'.out.trans (hbr.mono HBW'.out.size))
  have HF:=hid (And.intro hstep (And.intro hkn hbn))
  clear hstep hkn hbn hgb hbr hv3 d0 d1 d2 d3 d4 d5 c5
  go_wp2
  clear x0 x1 x2 x3 x4 x5 y0 y1 y2 y3 y4 y5
  go_roundw
  case rel=>exact⟨j+1,by go_num,hlt,HF.out.1,HF.out.2.1,HF.out.2.2⟩
  case measure=>simp[intOf];omega
 obtain rfl:j=f.length:=by omega
 have hzer2:IsBlk wr (w.heap.size+1) #[.int .u64 0,.string (bs []),.string (bs []),.slice none 0 0,.slice none 0 0] 28:=(HKO'.out.2 _ (by omega) (fun e=>by have:=(HO2.out _ e).1;omega)).trans HZR3.out
 have hS:HasS (fun x=>W0.heap.size<=x/\x<w1.heap.size) wr p1 l:=HS3W.out.ext_to (fun _ h=>h) (fun z hz hlt=>HKO'.out.2 z hlt (fun e=>by have:=(HO2.out z e).1;omega))
 have hF:=HH'.out
 have hend:∀W,(∀z,z≠w.heap.size+1->W.heap[z]?=wr.heap[z]?)->HasBlk (fun z=>w.heap.size<=z) W ⟨sq,pv,rt,l,f⟩ [.int .u64 (sq:Int),.string (bs pv),.string (bs rt),.slice p1 l.length c1,.slice p2 f.length c2]:=by
  intro W ho
  have hF2:=hF.kept relR (fun z hz=>ho z (by have:=(HO2.out z hz).1;omega)) (fun z hz _=>ho z (by have h7:W3.heap.size<=z:=hz;omega)) (fun z hz _=>ho z (by have h7:z<w.heap.size:=hz;omega))
  obtain⟨q2,d2,hv2,b3,b4,hc2⟩:=(hF2.acc relR (fun z hz=>⟨by have h7:W3.heap.size<=z:=hz;have h8:=HS3.out;omega,fun e=>by have h6:=(HO2.out z e).2;have h7:W3.heap.size<=z:=hz;have:=HS3.out;omega⟩)).cells relR (S:=fun z=>w.heap.size<=z) (fun z hz=>Nat.le_trans (show w.heap.size<=w1.heap.size by omega) hz)
  obtain⟨e4,_,e6⟩:=Value.slice.inj hv2
  subst e4
  subst e6
  have hbd:=HBD.out
  refine⟨_,_,_,_,rfl,⟨hbd.1,hbd.2.1,hbd.2.2.1,hbd.2.2.2.1,hbd.2.2.2.2.1,hc1a,hc1b,b3,b4,hbd.2.2.2.2.2.2.2.2.2⟩,hS.ext_to (fun z hz=>by omega) (fun z hz _=>ho z (by omega)),fun i hi=>?_⟩
  obtain⟨g,cs,x1,x2,x3⟩:=hc2 i hi
  exact⟨g,0,cs,x1,x2,x3⟩
 have HEND:=hid hend
 have b0:=HBK'.out.cell (i:=0) rfl
 have b1:=HBK'.out.cell (i:=1) rfl
 have b2:=HBK'.out.cell (i:=2) rfl
 have b3:=HBK'.out.cell (i:=3) rfl
 have b4:=HBK'.out.cell (i:=4) rfl
 have z0:=hzer2.cell (i:=0) rfl
 have z1:=hzer2.cell (i:=1) rfl
 have z2:=hzer2.cell (i:=2) rfl
 have z3:=hzer2.cell (i:=3) rfl
 have z4:=hzer2.cell (i:=4) rfl
 have y0:=hzer2.frozen 0
 have y1:=hzer2.frozen 1
 have y2:=hzer2.frozen 2
 have y3:=hzer2.frozen 3
 have y4:=hzer2.frozen 4
 have hlz:=hzer2.lt
 have hset:=blk_setCells [.int .u64 (sq:Int),.string (bs pv),.string (bs rt),.slice p1 l.length c1,.slice p2 f.length c2] 0 wr [.int .u64 0,.string (bs []),.string (bs []),.slice none 0 0,.slice none 0 0] hzer2
 have hbf:=below_setCells (B:=w.heap.size) (w0:=w) (show w.heap.size<=w.heap.size+1 by omega) [.int .u64 (sq:Int),.string (bs pv),.string (bs rt),.slice p1 l.length c1,.slice p2 f.length c2] 0 wr HBW'.out
 have HSET:=hid hset
 have HBF:=hid hbf
 have HOTH:=hid (fun z (hz:z≠w.heap.size+1)=>other_setCells hz [.int .u64 (sq:Int),.string (bs pv),.string (bs rt),.slice p1 l.length c1,.slice p2 f.length c2] 0 wr)
 clear hzer2 hS hF hend hset hbf
 go_wp2
 exact bodyPost_ret (v:=.agg #[.int .u64 (sq:Int),.string (bs pv),.string (bs rt),.slice p1 l.length c1,.slice p2 f.length c2]) (results_c (p:=2) (ty:=28) Tryz.results69 rfl HSET.out Tryz.underlying28 rfl (by kernel_rfl)) rfl ⟨[.int .u64 (sq:Int),.string (bs pv),.string (bs rt),.slice p1 l.length c1,.slice p2 f.length c2],rfl,HEND.out _ HOTH.out,HBF.out⟩
end Go.Proofs.YtcihbnpckicljaaGreatDoor
