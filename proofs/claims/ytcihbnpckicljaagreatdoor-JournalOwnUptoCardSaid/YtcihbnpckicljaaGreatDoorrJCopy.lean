/- The document's CopyRevs and Copy: a block of its own memory. Condition: the block lies in memory. -/
import Derived.Test.YtcihbnpckicljaaGreatDoorrJOwn
import Derived.Test.YtcihbnpckicljaaGreatDoorrJPushT
set_option linter.unusedVariables false
set_option linter.unusedSimpArgs false
namespace Go.Proofs.YtcihbnpckicljaaGreatDoor
open Go Go.RowKit Go.BigFrame
open Go.Lib(hid)
set_option maxRecDepth 100000
def RevsOut (w:World) (l:List DRev) (e':Ending) (w':World):Prop:=∃p c,e'=.returned (.slice p l.length c)/\(l.length<=c/\c<=maxLen)/\RowIn HasRev 10 (fun b=>w.heap.size<=b) w' p l/\Below w.heap.size w w'
theorem revs_fin {w wx:World} {v:Value} {l:List DRev} (h:Acc HasRev w.heap.size 54 10 wx v l) (hb:Below w.heap.size w wx):RevsOut w l (.returned v) wx:=by
 obtain⟨p,c,rfl,h1,h2,h3⟩:=h.cells relR (S:=fun b=>w.heap.size<=b) (fun b hb=>hb)
 refine⟨p,c,rfl,⟨h1,h2⟩,fun i hi=>?_,hb⟩
 obtain⟨g,cs,e1,e2,e3⟩:=h3 i hi
 exact⟨g,0,cs,e1,e2,e3⟩
set_option maxHeartbeats 8000000 in
theorem rcopyRevs_any (l:List DRev) (S:Nat->Prop) (p:Option Addr) (c:Nat) (w:World) (hl:RowIn HasRev 10 S w p l) (hn:l.length<=1073741824):
 Calls Tryz.prog 28 #[.slice p l.length c] w (RevsOut w l):=by
 have HL:=hid hl
 obtain⟨n,hnl⟩:∃n,n=l.length:=⟨_,rfl⟩
 rw[←hnl]at hn⊢
 have HN:=hid hnl
 clear hl hnl
 go_enter Tryz.func28,Tryz.ntmps28
 go_wp2
 go_loopw [3,8] (fun a b wr=>∃j:Nat,b=.int .i64 (j:Int)/\j<=n/\Acc HasRev w.heap.size 54 10 wr a (l.take j)/\Below w.heap.size w wr) (fun _ b _=>n-(intOf b).toNat)
 case atStart=>exact⟨0,rfl,Nat.zero_le _,Acc.nil _ _ _,Below.refl _ _⟩
 case round=>
 obtain⟨j,rfl,hj,hacc,hbw⟩:=hrel
 obtain⟨q1,d1,hav⟩:=hacc.slice
 have hszw:=hbw.size
 have htl:(l.take j).length=j:=by rw[List.length_take,←HN.out];omega
 rw[htl]at hav
 subst hav
 have HA:=hid hacc
 have HBW:=hid hbw
 by_cases hlt:j<n
 ·have hltl:j<l.length:=by rw[←HN.out];exact hlt
  obtain⟨g,o,cs,hp,hcells,hrev⟩:=(HL.out.ext relR hbw) j hltl
  have htk:=take_snoc hltl
  generalize hxe:l[j]=r at hcells hrev htk
  have HTK:=hid htk
  have hown:∀z,(Value.slice q1 j d1).ownBlock=some z->w.heap.size<=z/\z<wr.heap.size:=hacc.lt
  have HOW:=hid hown
  obtain⟨rk,rt,rd,rn,rv⟩:=r
  obtain⟨cs',rfl,hbd,hv⟩:=hrev
  have HBD:=hid hbd
  obtain⟨vk,vb,vn,vs,vl,vf⟩:=rv
  have HV:=hid hv
  obtain⟨pl,cl,pf,cf,rfl,_⟩:=hasVal_mk.1 hv
  subst hp
  obtain⟨e0,e1,e2,e3,e4,e5,e6,e7,e8,e9⟩:=hcells.ten
  have hgr:=hcells.2.1
  clear hcells hv hbd hacc hbw htk hxe hown
  simp only at*
  go_upto_region 5 with(fail)
  generalize hW1:World.alloc wr _=w1
  have hb1:Below wr.heap.size wr w1:=by rw[←hW1];exact(Below.refl _ _).alloc (Nat.le_refl _) _
  have hd1:IsBlk w1 wr.heap.size #[.int .u8 (rk:Int),.string (bs rt),.int .u64 (rd:Int),.int .u64 (rn:Int),.int .u8 (vk:Int),.bool vb,.int .i64 vn,.string (bs vs),.slice pl vl.length cl,.slice pf vf.length cf] 54:=by rw[←hW1];exact IsBlk.new _ _ _
  obtain⟨b5,hb5⟩:∃b,b=wr.heap.size:=⟨_,rfl⟩
  rw[←hb5]at hd1
  rw[←hb5]
  have hl51:=hd1.lt
  have HB5:=hid hb5
  have HD1:=hid hd1
  have HB1:=hid hb1
  have HCP:=hid (rcopy_any (.mk vk vb vn vs vl vf) _ _ w1 (HV.out.ext hb1))
  have x0:=hd1.cell (i:=0) rfl
  have x1:=hd1.cell (i:=1) rfl
  have x2:=hd1.cell (i:=2) rfl
  have x3:=hd1.cell (i:=3) rfl
  have x4:=hd1.cell (i:=4) rfl
  have x5:=hd1.cell (i:=5) rfl
  have x6:=hd1.cell (i:=6) rfl
  have x7:=hd1.cell (i:=7) rfl
  have x8:=hd1.cell (i:=8) rfl
  have x9:=hd1.cell (i:=9) rfl
  clear hW1 hb5 hb1 hd1 e0 e1 e2 e3 e4 e5 e6 e7 e8 e9 hgr
  go_wp2_with fail
  go_at_call 66
  refine HCP.out.mono ?_
  rintro e' w2 ⟨cs2,rfl,hv2,_,hb2⟩
  have hv2':=hv2
  obtain⟨pl2,cl2,pf2,cf2,rfl,_⟩:=hasVal_mk.1 hv2'
  have hd2:=HD1.out.ext hb2
  have hlt2:=hd2.lt
  have hst:∀W,W=w2.setCells b5 4 [.int .u8 (vk:Int),.bool vb,.int .i64 vn,.string (bs vs),.slice pl2 vl.length cl2,.slice pf2 vf.length cf2]→
   IsBlk W b5 #[.int .u8 (rk:Int),.string (bs rt),.int .u64 (rd:Int),.int .u64 (rn:Int),.int .u8 (vk:Int),.bool vb,.int .i64 vn,.string (bs vs),.slice pl2 vl.length cl2,.slice pf2 vf.length cf2] 54/\Below wr.heap.size wr W/\W.heap.size=w2.heap.size/\∀z,z≠b5->W.heap[z]?=w2.heap[z]?:=by
   intro W hW
   subst hW
   exact⟨blk_setCells (cs:=[.int .u8 (rk:Int),.string (bs rt),.int .u64 (rd:Int),.int .u64 (rn:Int),.int .u8 (vk:Int),.bool vb,.int .i64 vn,.string (bs vs),.slice pl vl.length cl,.slice pf vf.length cf]) _ 4 w2 hd2,
    below_setCells (by rw[HB5.out];exact Nat.le_refl _) _ _ _ (below_ext HB1.out hb2),size_setCells _ _ _ _,fun z hz=>other_setCells hz _ _ _⟩
  have HST:=hid hst
  have HV2:=hid hv2
  have hz12:=hb2.size
  have y0:=hd2.cell (i:=0) rfl
  have y1:=hd2.cell (i:=1) rfl
  have y2:=hd2.cell (i:=2) rfl
  have y3:=hd2.cell (i:=3) rfl
  have y4:=hd2.cell (i:=4) rfl
  have y5:=hd2.cell (i:=5) rfl
  have y6:=hd2.cell (i:=6) rfl
  have y7:=hd2.cell (i:=7) rfl
  have y8:=hd2.cell (i:=8) rfl
  have y9:=hd2.cell (i:=9) rfl
  have z0:=hd2.frozen 0
  have z1:=hd2.frozen 1
  have z2:=hd2.frozen 2
  have z3:=hd2.frozen 3
  have z4:=hd2.frozen 4
  have z5:=hd2.frozen 5
  have z6:=hd2.frozen 6
  have z7:=hd2.frozen 7
  have z8:=hd2.frozen 8
  have z9:=hd2.frozen 9
  clear x0 x1 x2 x3 x4 x5 x6 x7 x8 x9 hv2 hb2 hd2 hst
  go_upto_region 6 with(fail)
  generalize hW3:World.setCell _ _ _=w3
  obtain⟨hd3,hb3,hs3,ho3⟩:=HST.out w3 hW3.symm
  have hlt3:b5<w3.heap.size:=hd3.lt
  have HD3:=hid hd3
  have HS3:=hid hs3
  have HO3:=hid ho3
  have HB3:=hid (hb3)
  have x0:=hd3.cell (i:=0) rfl
  have x1:=hd3.cell (i:=1) rfl
  have x2:=hd3.cell (i:=2) rfl
  have x3:=hd3.cell (i:=3) rfl
  have x4:=hd3.cell (i:=4) rfl
  have x5:=hd3.cell (i:=5) rfl
  have x6:=hd3.cell (i:=6) rfl
  have x7:=hd3.cell (i:=7) rfl
  have x8:=hd3.cell (i:=8) rfl
  have x9:=hd3.cell (i:=9) rfl
  clear hW3 y0 y1 y2 y3 y4 y5 y6 y7 y8 y9 z0 z1 z2 z3 z4 z5 z6 z7 z8 z9 HST hd3 hb3 hs3 ho3
  have hBw3:=HBW.out.trans (HB3.out.mono hszw)
  have HBW3:=hid hBw3
  have hsz3:=HB3.out.size
  have hsw3:w.heap.size<=w3.heap.size:=by omega
  have hhb:HasRev (fun b=>w.heap.size<=b/\(Value.slice q1 j d1).ownBlock≠some b) (w3.alloc (.cells #[.int .u8 (rk:Int),.string (bs rt),.int .u64 (rd:Int),.int .u64 (rn:Int),.int .u8 (vk:Int),.bool vb,.int .i64 vn,.string (bs vs),.slice pl2 vl.length cl2,.slice pf2 vf.length cf2] 54)) ⟨rk,rt,rd,rn,.mk vk vb vn vs vl vf⟩ [.int .u8 (rk:Int),.string (bs rt),.int .u64 (rd:Int),.int .u64 (rn:Int),.int .u8 (vk:Int),.bool vb,.int .i64 vn,.string (bs vs),.slice pl2 vl.length cl2,.slice pf2 vf.length cf2]:=
   ⟨_,rfl,HBD.out,HV2.out.ext_to (fun b hb=>⟨by have h6:w1.heap.size<=b:=hb;have:=HB5.out;omega,fun e=>by have h6:w1.heap.size<=b:=hb;have:=(HOW.out b e).2;have:=HB5.out;omega⟩) (fun b hb hlt=>by
     have h6:w1.heap.size<=b:=hb
     have h7:=HS3.out
     rw[((Below.refl w3.heap.size w3).alloc (Nat.le_refl _) _).block b (by omega)]
     exact HO3.out b (by omega))⟩
  have HHB:=hid hhb
  have HA3:=hid ((HA.out.kept relR (fun z hz hlt=>HB3.out.block z hlt)).kept relR (fun z hz hlt=>((Below.refl w3.heap.size w3).alloc (Nat.le_refl _) (.cells #[.int .u8 (rk:Int),.string (bs rt),.int .u64 (rd:Int),.int .u64 (rn:Int),.int .u8 (vk:Int),.bool vb,.int .i64 vn,.string (bs vs),.slice pl2 vl.length cl2,.slice pf2 vf.length cf2] 54)).block z hlt))
  clear hhb hBw3
  go_wp2_with(at_builtin;refine push_acc relR w.heap.size rfl _ _ 26 54 (.agg #[.int .u8 0,.string ⟨#[]⟩,.int .u64 0,.int .u64 0,.int .u8 0,.bool false,.int .i64 0,.string ⟨#[]⟩,.slice none 0 0,.slice none 0 0]) 120 rfl Tryz.underlying26 (by kernel_rfl) rfl (by decide) _ (l.take j) HA3.out w3.heap.size [.int .u8 (rk:Int),.string (bs rt),.int .u64 (rd:Int),.int .u64 (rn:Int),.int .u8 (vk:Int),.bool vb,.int .i64 vn,.string (bs vs),.slice pl2 vl.length cl2,.slice pf2 vf.length cf2] ⟨rk,rt,rd,rn,.mk vk vb vn vs vl vf⟩ (IsBlk.new _ _ _) HHB.out rfl rfl (by simp;omega) (by rw[htl];omega) (by rw[htl];unfold maxLen;omega) ?_)
  intro g9 cap9 w9 hacc9 hg9 hBg hgo hglt
  have HB9:=hid ((HBW3.out.alloc hsw3 _).grown hg9 (by simp;omega) (fun z hz=>(HOW.out z hz).1))
  have HA9:Hid (Acc HasRev w.heap.size 54 10 w9 (.slice (some ⟨g9,0,none⟩) (j+1) cap9) (l.take (j+1))):=hid (by rw[HTK.out];exact hacc9)
  clear hacc9 hg9 x0 x1 x2 x3 x4 x5 x6 x7 x8 x9
  go_wp2
  go_roundw
  case rel=>exact⟨j+1,by go_num,hlt,HA9.out,HB9.out⟩
  case measure=>simp[intOf];omega
 obtain rfl:j=n:=by omega
 have hall:l.take j=l:=by rw[HN.out,List.take_length]
 rw[hall]at hacc
 have hfin:=revs_fin hacc hbw
 have HF:=hid hfin
 clear hfin hacc hbw hall HA
 go_wp2
 go_ret
 exact HF.out
def OwnOut (w:World) (b:DBlk) (e':Ending) (w':World):Prop:=∃ps cp pr cr,e'=.returned (.agg #[.int .u64 (b.seq:Int),.string (bs b.prev),.string (bs b.root),.slice ps b.sts.length cp,.slice pr b.revs.length cr])∧
 HasBlk (fun x=>w.heap.size<=x) w' b [.int .u64 (b.seq:Int),.string (bs b.prev),.string (bs b.root),.slice ps b.sts.length cp,.slice pr b.revs.length cr]/\Below w.heap.size w w'
set_option maxHeartbeats 8000000 in
theorem rcopyBlk_any (b:DBlk) (S:Nat->Prop) (ps pr:Option Addr) (cp cr:Nat) (w:World) (hb:HasBlk S w b [.int .u64 (b.seq:Int),.string (bs b.prev),.string (bs b.root),.slice ps b.sts.length cp,.slice pr b.revs.length cr]) (hnone:ps=none->cp=0):
 Calls Tryz.prog 27 #[.agg #[.int .u64 (b.seq:Int),.string (bs b.prev),.string (bs b.root),.slice ps b.sts.length cp,.slice pr b.revs.length cr]] w (OwnOut w b):=by
 obtain⟨_,_,_,_,e,hbd,hS,hR⟩:=hb
 simp only[List.cons.injEq,Value.slice.injEq,and_true,true_and]at e
 obtain⟨⟨rfl,rfl⟩,rfl,rfl⟩:=e
 obtain⟨sq,pv,rt,sts,revs⟩:=b
 simp only at hbd hS hR⊢
 have HBD:=hid hbd
 have hls:sts.length<=1073741824:=hbd.2.2.2.1
 have hlr:revs.length<=1073741824:=hbd.2.2.2.2.1
 have HS:=hid hS
 have HCR:Hid (∀W,Below w.heap.size w W->Calls Tryz.prog 28 #[.slice pr revs.length cr] W (RevsOut W revs)):=hid (fun W h=>rcopyRevs_any revs S pr cr W (hR.ext relR h) hlr)
 have HNO:=hid hnone
 clear hbd hS hR hnone
 go_enter Tryz.func27,Tryz.ntmps27
 go_upto_region 1 with(fail)
 generalize hW0:World.alloc (World.alloc w _) _=w0
 have hd1:IsBlk w0 w.heap.size #[.int .u64 (sq:Int),.string (bs pv),.string (bs rt),.slice ps sts.length cp,.slice pr revs.length cr] 28:=by rw[←hW0];exact(IsBlk.new _ _ _).alloc _
 have hd2:IsBlk w0 (w.heap.size+1) #[.int .u64 0,.string ⟨#[]⟩,.string ⟨#[]⟩,.slice none 0 0,.slice none 0 0] 28:=by rw[←hW0];exact IsBlk.new_at (by simp)
 have hb0:Below w.heap.size w w0:=by rw[←hW0];exact((Below.refl _ _).alloc (Nat.le_refl _) _).alloc (by simp) _
 have hlt1:w.heap.size<w0.heap.size:=hd1.lt
 have hlt2:w.heap.size+1<w0.heap.size:=hd2.lt
 clear hW0
 have HB0:=hid hb0
 have HD1:=hid hd1
 have HD2:=hid hd2
 have HS0:=hid (HS.out.ext hb0)
 have hnew:IsBlk (w0.alloc (.cells #[] 9)) w0.heap.size #[] 9:=IsBlk.new _ _ _
 have hb1:Below w.heap.size w (w0.alloc (.cells #[] 9)):=hb0.alloc (by omega) _
 have hb01:Below w0.heap.size w0 (w0.alloc (.cells #[] 9)):=(Below.refl _ _).alloc (Nat.le_refl _) _
 have HB1:=hid hb1
 have HB01:=hid hb01
 have HO0:=hid (own_lit (cs:=[]) hnew (Nat.le_refl _) rfl (by decide))
 have x0:=hd1.cell (i:=0) rfl
 have x1:=hd1.cell (i:=1) rfl
 have x2:=hd1.cell (i:=2) rfl
 have x3:=hd1.cell (i:=3) rfl
 have x4:=hd1.cell (i:=4) rfl
 clear hb0 hd1 hd2 hnew hb1 hb01
 go_wp2_with(at_builtin;refine push_texts w0.heap.size rfl _ _ rfl (.slice (some ⟨w0.heap.size,0,none⟩) 0 0) [] HO0.out _ _ _ sts (HS0.out.ext HB01.out) HNO.out rfl rfl (by simp) (by simp;omega) ?_)
 intro v1 w1 hown hg1
 have HB02:=hid (below_grown HB01.out hg1 (by simp) (fun z hz=>(HO0.out.lt z hz).1))
 have hszw1:=HB02.out.size
 obtain⟨p1,c1,rfl,hc1a,hc1b,hs1⟩:=hasS_cap hown
 have hd1:=HD1.out.ext HB02.out
 have HS1:=hid hs1
 have HD11:=hid hd1
 have HD12:=hid (HD2.out.ext HB02.out)
 have f3:=hd1.frozen 3
 clear x0 x1 x2 x3 x4 hown hg1 hs1
 have hst:∀W,W=w1.setCell ⟨w.heap.size,3,none⟩ (.slice p1 sts.length c1)→
  IsBlk W w.heap.size #[.int .u64 (sq:Int),.string (bs pv),.string (bs rt),.slice p1 sts.length c1,.slice pr revs.length cr] 28/\Below w.heap.size w W/\W.heap.size=w1.heap.size/\∀z,z≠w.heap.size->W.heap[z]?=w1.heap[z]?:=by
  intro W hW
  subst hW
  exact⟨by simpa using hd1.set 3 (.slice p1 sts.length c1),below_set (below_ext HB0.out HB02.out) (Nat.le_refl _),by simp,fun z hz=>Below.heap_setCell _ _ _ _ hz⟩
 have HST:=hid hst
 have x0:=hd1.cell (i:=0) rfl
 have x1:=hd1.cell (i:=1) rfl
 have x2:=hd1.cell (i:=2) rfl
 have x3:=hd1.cell (i:=3) rfl
 have x4:=hd1.cell (i:=4) rfl
 clear hd1 hst
 go_upto_region 2 with(fail)
 generalize hW2:World.setCell _ _ _=w2
 obtain⟨hd2,hb2,hs2,ho2⟩:=HST.out w2 hW2.symm
 have hlt21:w.heap.size<w2.heap.size:=hd2.lt
 have hsz2:w1.heap.size<=w2.heap.size:=by omega
 have HD2':=hid hd2
 have HB2:=hid hb2
 have HSS:Hid (HasS (fun x=>w0.heap.size<=x) w2 p1 sts):=hid (HS1.out.ext_to (fun _ h=>h) (fun b hb _=>ho2 b (by have h6:w0.heap.size<=b:=hb;omega)))
 have HDZ:Hid (IsBlk w2 (w.heap.size+1) #[.int .u64 0,.string ⟨#[]⟩,.string ⟨#[]⟩,.slice none 0 0,.slice none 0 0] 28):=hid ((ho2 _ (by omega)).trans HD12.out)
 clear x0 x1 x2 x3 x4 f3 hs2 ho2 hW2 HST
 have x0:=hd2.cell (i:=0) rfl
 have x1:=hd2.cell (i:=1) rfl
 have x2:=hd2.cell (i:=2) rfl
 have x3:=hd2.cell (i:=3) rfl
 have x4:=hd2.cell (i:=4) rfl
 clear hd2 hb2
 go_wp2_with fail
 go_at_call 28
 refine(HCR.out _ HB2.out).mono ?_
 rintro e' w3 ⟨p3,c3,rfl,hc3,hr3,hb3⟩
 have hd3:=HD2'.out.ext hb3
 have hsz3:=hb3.size
 have HB3:=hid (below_ext HB2.out hb3)
 have HD3:=hid hd3
 have HDZ3:=hid (HDZ.out.ext hb3)
 have HSS3:=hid (HSS.out.ext hb3)
 have HR3:=hid hr3
 have f4:=hd3.frozen 4
 have hst:∀W,W=w3.setCell ⟨w.heap.size,4,none⟩ (.slice p3 revs.length c3)→
  IsBlk W w.heap.size #[.int .u64 (sq:Int),.string (bs pv),.string (bs rt),.slice p1 sts.length c1,.slice p3 revs.length c3] 28/\Below w.heap.size w W/\W.heap.size=w3.heap.size/\∀z,z≠w.heap.size->W.heap[z]?=w3.heap[z]?:=by
  intro W hW
  subst hW
  exact⟨by simpa using hd3.set 4 (.slice p3 revs.length c3),below_set HB3.out (Nat.le_refl _),by simp,fun z hz=>Below.heap_setCell _ _ _ _ hz⟩
 have HST:=hid hst
 clear x0 x1 x2 x3 x4 hb3 hr3 hst
 have x0:=hd3.cell (i:=0) rfl
 have x1:=hd3.cell (i:=1) rfl
 have x2:=hd3.cell (i:=2) rfl
 have x3:=hd3.cell (i:=3) rfl
 have x4:=hd3.cell (i:=4) rfl
 clear hd3
 go_upto_region 3 with(fail)
 generalize hW4:World.setCell _ _ _=w4
 obtain⟨hd4,hb4,hs4,ho4⟩:=HST.out w4 hW4.symm
 have hzer:IsBlk w4 (w.heap.size+1) #[.int .u64 0,.string ⟨#[]⟩,.string ⟨#[]⟩,.slice none 0 0,.slice none 0 0] 28:=(ho4 _ (by omega)).trans HDZ3.out
 have hlt41:w.heap.size<w4.heap.size:=hd4.lt
 have hlt42:w.heap.size+1<w4.heap.size:=hzer.lt
 have hend:∀W,(∀z,z≠w.heap.size+1->W.heap[z]?=w4.heap[z]?)->HasBlk (fun z=>w.heap.size<=z) W ⟨sq,pv,rt,sts,revs⟩ [.int .u64 (sq:Int),.string (bs pv),.string (bs rt),.slice p1 sts.length c1,.slice p3 revs.length c3]:=by
  intro W ho
  have hbd:=HBD.out
  refine⟨_,_,_,_,rfl,⟨hbd.1,hbd.2.1,hbd.2.2.1,hbd.2.2.2.1,hbd.2.2.2.2.1,hc1a,hc1b,hc3.1,hc3.2,hbd.2.2.2.2.2.2.2.2.2⟩,HSS3.out.ext_to (fun z hz=>by have h6:w0.heap.size<=z:=hz;omega) (fun z hz _=>by have h6:w0.heap.size<=z:=hz;rw[ho z (by omega),ho4 z (by omega)]),
   HR3.out.kept relR (fun z hz=>by have h6:w2.heap.size<=z:=hz;show w.heap.size<=z;omega) (fun z hz _=>by have h6:w2.heap.size<=z:=hz;rw[ho z (by omega),ho4 z (by omega)])⟩
 have HEND:=hid hend
 have HB4:=hid hb4
 clear x0 x1 x2 x3 x4 f4 hs4 hW4 HST
 have x0:=hd4.cell (i:=0) rfl
 have x1:=hd4.cell (i:=1) rfl
 have x2:=hd4.cell (i:=2) rfl
 have x3:=hd4.cell (i:=3) rfl
 have x4:=hd4.cell (i:=4) rfl
 have z0:=hzer.cell (i:=0) rfl
 have z1:=hzer.cell (i:=1) rfl
 have z2:=hzer.cell (i:=2) rfl
 have z3:=hzer.cell (i:=3) rfl
 have z4:=hzer.cell (i:=4) rfl
 have y0:=hzer.frozen 0
 have y1:=hzer.frozen 1
 have y2:=hzer.frozen 2
 have y3:=hzer.frozen 3
 have y4:=hzer.frozen 4
 have hset:=blk_setCells [.int .u64 (sq:Int),.string (bs pv),.string (bs rt),.slice p1 sts.length c1,.slice p3 revs.length c3] 0 w4 [.int .u64 0,.string ⟨#[]⟩,.string ⟨#[]⟩,.slice none 0 0,.slice none 0 0] hzer
 have HSET:=hid hset
 have HBF:=hid (below_setCells (B:=w.heap.size) (w0:=w) (show w.heap.size<=w.heap.size+1 by omega) [.int .u64 (sq:Int),.string (bs pv),.string (bs rt),.slice p1 sts.length c1,.slice p3 revs.length c3] 0 w4 hb4)
 have HOTH:=hid (fun z (hz:z≠w.heap.size+1)=>other_setCells hz [.int .u64 (sq:Int),.string (bs pv),.string (bs rt),.slice p1 sts.length c1,.slice p3 revs.length c3] 0 w4)
 clear hd4 hzer hb4 ho4 hend hset
 go_wp2
 exact bodyPost_ret (v:=.agg #[.int .u64 (sq:Int),.string (bs pv),.string (bs rt),.slice p1 sts.length c1,.slice p3 revs.length c3]) (results_c (p:=2) (ty:=28) Tryz.results27 rfl HSET.out Tryz.underlying28 rfl (by kernel_rfl)) rfl ⟨p1,c1,p3,c3,rfl,HEND.out _ (fun z hz=>HOTH.out z hz),HBF.out⟩
end Go.Proofs.YtcihbnpckicljaaGreatDoor
