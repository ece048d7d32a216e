/- What CopyRevs and journal.Make hand back is its asker's own: the fields' rows may be written to. Conditions: as of CopyRevs and Make. -/
import Derived.Test.YtcihbnpckicljaaGreatDoorrJCopy
import Derived.Test.YtcihbnpckicljaaGreatDoorrJMake
set_option linter.unusedVariables false
set_option linter.unusedSimpArgs false
namespace Go.Proofs.YtcihbnpckicljaaGreatDoor
open Go Go.RowKit Go.BigFrame
open Go.Lib(hid)
set_option maxRecDepth 100000
def FldOwn (S:Nat->Prop) (w:World) (cs:List Value):Prop:=∀p n c,cs[9]?=some (.slice p n c)->n=0\/∃g cur,p=some ⟨g,0,none⟩/\S g/\IsBlk w g cur 66/\n*7<=cur.size
def HasRevO (S:Nat->Prop) (w:World) (r:DRev) (cs:List Value):Prop:=HasRev S w r cs/\FldOwn S w cs
theorem relRO :Rel HasRevO 10 where
 kept:=fun h h1 h2=>⟨relR.kept h.1 h1 h2,fun p n c hc=>by
  rcases h.2 p n c hc with h0|⟨g,cur,e1,e2,e3,e4⟩
  ·exact .inl h0
  ·exact .inr ⟨g,cur,e1,h1 g e2,(h2 g e2 e3.lt).trans e3,e4⟩⟩
 lt:=fun h=>⟨relR.lt h.1,fun p n c hc=>by
  rcases h.2 p n c hc with h0|⟨g,cur,e1,e2,e3,e4⟩
  ·exact .inl h0
  ·exact .inr ⟨g,cur,e1,⟨e2,e3.lt⟩,e3,e4⟩⟩
 len:=fun h=>relR.len h.1
 one:=fun h=>relR.one h.1
theorem fldOwn_of {B:Nat} {S:Nat->Prop} {w:World} {x0 x1 x2 x3:Value} {cs:List Value} {v:DVal} (h:OwnRows B w cs v) (hS:∀g,B<=g->S g):FldOwn S w (x0::x1::x2::x3::cs):=fun p n c hc=>by
 obtain⟨k,b,i,s,l,f⟩:=v
 obtain⟨p1,c1,v2,rfl,_,_,_,css,h1,_⟩:=h
 simp only[List.getElem?_cons_succ,List.getElem?_cons_zero,Option.some.injEq]at hc
 subst hc
 rcases h1.2 with⟨e,h0⟩|⟨g,cap,cur,e,hB,hg,hn,_,hz,_⟩
 ·injection e with _ e _
  exact .inl e
 ·injection e with e1 e2 e3
  refine .inr ⟨g,cur,e1,hS g hB,hg,?_⟩
  rw[hz,e2]
  exact Nat.mul_le_mul_right 7 hn
theorem row_rev {S:Nat->Prop} {w:World} {p:Option Addr} {l:List DRev} (h:RowIn HasRevO 10 S w p l):RowIn HasRev 10 S w p l:=fun i hi=>by
 obtain⟨g,o,cs,e1,e2,e3⟩:=h i hi
 exact⟨g,o,cs,e1,e2,e3.1⟩
def RevsOutO (w:World) (l:List DRev) (e':Ending) (w':World):Prop:=∃p c,e'=.returned (.slice p l.length c)/\(l.length<=c/\c<=maxLen)/\RowIn HasRevO 10 (fun b=>w.heap.size<=b) w' p l/\Below w.heap.size w w'
theorem revsO_fin {w wx:World} {v:Value} {l:List DRev} (h:Acc HasRevO w.heap.size 54 10 wx v l) (hb:Below w.heap.size w wx):RevsOutO w l (.returned v) wx:=by
 obtain⟨p,c,rfl,h1,h2,h3⟩:=h.cells relRO (S:=fun b=>w.heap.size<=b) (fun b hb=>hb)
 refine⟨p,c,rfl,⟨h1,h2⟩,fun i hi=>?_,hb⟩
 obtain⟨g,cs,e1,e2,e3⟩:=h3 i hi
 exact⟨g,0,cs,e1,e2,e3⟩
set_option maxHeartbeats 8000000 in
theorem rcopyRevsO_any (l:List DRev) (S:Nat->Prop) (p:Option Addr) (c:Nat) (w:World) (hl:RowIn HasRev 10 S w p l) (hn:l.length<=1073741824):
 Calls Tryz.prog 28 #[.slice p l.length c] w (RevsOutO w l):=by
 have HL:=hid hl
 obtain⟨n,hnl⟩:∃n,n=l.length:=⟨_,rfl⟩
 rw[←hnl]at hn⊢
 have HN:=hid hnl
 clear hl hnl
 go_enter Tryz.func28,Tryz.ntmps28
 go_wp2
 go_loopw [3,8] (fun a b wr=>∃j:Nat,b=.int .i64 (j:Int)/\j<=n/\Acc HasRevO w.heap.size 54 10 wr a (l.take j)/\Below w.heap.size w wr) (fun _ b _=>n-(intOf b).toNat)
 case atStart=>exact⟨0,rfl,Nat.zero_le _,Acc.nil _ _ _,Below.refl _ _⟩
 case round=>
 obtain⟨j,rfl,hj,hacc,hbw⟩:=hrel
 obtain⟨q1,d1,hav⟩:=hacc.slice
 have hszw:=hbw.size
 have htl:(l.take j).length=j:=by rw[List.length_take,←HN.out];omega
 rw[htl]at hav
 subst hav
 have HA:=hid hacc
 have HBW:=hid hbw
 by_cases hlt:j<n
 ·have hltl:j<l.length:=by rw[←HN.out];exact hlt
  obtain⟨g,o,cs,hp,hcells,hrev⟩:=(HL.out.ext relR hbw) j hltl
  have htk:=take_snoc hltl
  generalize hxe:l[j]=r at hcells hrev htk
  have HTK:=hid htk
  have hown:∀z,(Value.slice q1 j d1).ownBlock=some z->w.heap.size<=z/\z<wr.heap.size:=hacc.lt
  have HOW:=hid hown
  obtain⟨rk,rt,rd,rn,rv⟩:=r
  obtain⟨cs',rfl,hbd,hv⟩:=hrev
  have HBD:=hid hbd
  obtain⟨vk,vb,vn,vs,vl,vf⟩:=rv
  have HV:=hid hv
  obtain⟨pl,cl,pf,cf,rfl,_⟩:=hasVal_mk.1 hv
  subst hp
  obtain⟨e0,e1,e2,e3,e4,e5,e6,e7,e8,e9⟩:=hcells.ten
  have hgr:=hcells.2.1
  clear hcells hv hbd hacc hbw htk hxe hown
  simp only at*
  go_upto_region 5 with(fail)
  generalize hW1:World.alloc wr _=w1
  have hb1:Below wr.heap.size wr w1:=by rw[←hW1];exact(Below.refl _ _).alloc (Nat.le_refl _) _
  have hd1:IsBlk w1 wr.heap.size #[.int .u8 (rk:Int),.string (bs rt),.int .u64 (rd:Int),.int .u64 (rn:Int),.int .u8 (vk:Int),.bool vb,.int .i64 vn,.string (bs vs),.slice pl vl.length cl,.slice pf vf.length cf] 54:=by rw[←hW1];exact IsBlk.new _ _ _
  obtain⟨b5,hb5⟩:∃b,b=wr.heap.size:=⟨_,rfl⟩
  rw[←hb5]at hd1
  rw[←hb5]
  have hl51:=hd1.lt
  have HB5:=hid hb5
  have HD1:=hid hd1
  have HB1:=hid hb1
  have HCP:=hid (rcopy_any (.mk vk vb vn vs vl vf) _ _ w1 (HV.out.ext hb1))
  have x0:=hd1.cell (i:=0) rfl
  have x1:=hd1.cell (i:=1) rfl
  have x2:=hd1.cell (i:=2) rfl
  have x3:=hd1.cell (i:=3) rfl
  have x4:=hd1.cell (i:=4) rfl
  have x5:=hd1.cell (i:=5) rfl
  have x6:=hd1.cell (i:=6) rfl
  have x7:=hd1.cell (i:=7) rfl
  have x8:=hd1.cell (i:=8) rfl
  have x9:=hd1.cell (i:=9) rfl
  clear hW1 hb5 hb1 hd1 e0 e1 e2 e3 e4 e5 e6 e7 e8 e9 hgr
  go_wp2_with fail
  go_at_call 66
  refine HCP.out.mono ?_
  rintro e' w2 ⟨cs2,rfl,hv2,how2,hb2⟩
  have hv2':=hv2
  obtain⟨pl2,cl2,pf2,cf2,rfl,_⟩:=hasVal_mk.1 hv2'
  have hd2:=HD1.out.ext hb2
  have hlt2:=hd2.lt
  have hst:∀W,W=w2.setCells b5 4 [.int .u8 (vk:Int),.bool vb,.int .i64 vn,.string (bs vs),.slice pl2 vl.length cl2,.slice pf2 vf.length cf2]→
   IsBlk W b5 #[.int .u8 (rk:Int),.string (bs rt),.int .u64 (rd:Int),.int .u64 (rn:Int),.int .u8 (vk:Int),.bool vb,.int .i64 vn,.string (bs vs),.slice pl2 vl.length cl2,.slice pf2 vf.length cf2] 54/\Below wr.heap.size wr W/\W.heap.size=w2.heap.size/\∀z,z≠b5->W.heap[z]?=w2.heap[z]?:=by
   intro W hW
   subst hW
   exact⟨blk_setCells (cs:=[.int .u8 (rk:Int),.string (bs rt),.int .u64 (rd:Int),.int .u64 (rn:Int),.int .u8 (vk:Int),.bool vb,.int .i64 vn,.string (bs vs),.slice pl vl.length cl,.slice pf vf.length cf]) _ 4 w2 hd2,
    below_setCells (by rw[HB5.out];exact Nat.le_refl _) _ _ _ (below_ext HB1.out hb2),size_setCells _ _ _ _,fun z hz=>other_setCells hz _ _ _⟩
  have HST:=hid hst
  have HV2:=hid hv2
  have HOW2:=hid how2
  have hz12:=hb2.size
  have y0:=hd2.cell (i:=0) rfl
  have y1:=hd2.cell (i:=1) rfl
  have y2:=hd2.cell (i:=2) rfl
  have y3:=hd2.cell (i:=3) rfl
  have y4:=hd2.cell (i:=4) rfl
  have y5:=hd2.cell (i:=5) rfl
  have y6:=hd2.cell (i:=6) rfl
  have y7:=hd2.cell (i:=7) rfl
  have y8:=hd2.cell (i:=8) rfl
  have y9:=hd2.cell (i:=9) rfl
  have z0:=hd2.frozen 0
  have z1:=hd2.frozen 1
  have z2:=hd2.frozen 2
  have z3:=hd2.frozen 3
  have z4:=hd2.frozen 4
  have z5:=hd2.frozen 5
  have z6:=hd2.frozen 6
  have z7:=hd2.frozen 7
  have z8:=hd2.frozen 8
  have z9:=hd2.frozen 9
  clear x0 x1 x2 x3 x4 x5 x6 x7 x8 x9 hv2 how2 hb2 hd2 hst
  go_upto_region 6 with(fail)
  generalize hW3:World.setCell _ _ _=w3
  obtain⟨hd3,hb3,hs3,ho3⟩:=HST.out w3 hW3.symm
  have hlt3:b5<w3.heap.size:=hd3.lt
  have HD3:=hid hd3
  have HS3:=hid hs3
  have HO3:=hid ho3
  have HB3:=hid (hb3)
  have x0:=hd3.cell (i:=0) rfl
  have x1:=hd3.cell (i:=1) rfl
  have x2:=hd3.cell (i:=2) rfl
  have x3:=hd3.cell (i:=3) rfl
  have x4:=hd3.cell (i:=4) rfl
  have x5:=hd3.cell (i:=5) rfl
  have x6:=hd3.cell (i:=6) rfl
  have x7:=hd3.cell (i:=7) rfl
  have x8:=hd3.cell (i:=8) rfl
  have x9:=hd3.cell (i:=9) rfl
  clear hW3 y0 y1 y2 y3 y4 y5 y6 y7 y8 y9 z0 z1 z2 z3 z4 z5 z6 z7 z8 z9 HST hd3 hb3 hs3 ho3
  have hBw3:=HBW.out.trans (HB3.out.mono hszw)
  have HBW3:=hid hBw3
  have hsz3:=HB3.out.size
  have hsw3:w.heap.size<=w3.heap.size:=by omega
  have hhb:HasRevO (fun b=>w.heap.size<=b/\(Value.slice q1 j d1).ownBlock≠some b) (w3.alloc (.cells #[.int .u8 (rk:Int),.string (bs rt),.int .u64 (rd:Int),.int .u64 (rn:Int),.int .u8 (vk:Int),.bool vb,.int .i64 vn,.string (bs vs),.slice pl2 vl.length cl2,.slice pf2 vf.length cf2] 54)) ⟨rk,rt,rd,rn,.mk vk vb vn vs vl vf⟩ [.int .u8 (rk:Int),.string (bs rt),.int .u64 (rd:Int),.int .u64 (rn:Int),.int .u8 (vk:Int),.bool vb,.int .i64 vn,.string (bs vs),.slice pl2 vl.length cl2,.slice pf2 vf.length cf2]:=
   by
    have hS:∀b,w1.heap.size<=b->w.heap.size<=b/\(Value.slice q1 j d1).ownBlock≠some b:=fun b hb=>⟨by have:=HB5.out;omega,fun e=>by have:=(HOW.out b e).2;have:=HB5.out;omega⟩
    have hK:∀b,w1.heap.size<=b->b<w2.heap.size->(w3.alloc (.cells #[.int .u8 (rk:Int),.string (bs rt),.int .u64 (rd:Int),.int .u64 (rn:Int),.int .u8 (vk:Int),.bool vb,.int .i64 vn,.string (bs vs),.slice pl2 vl.length cl2,.slice pf2 vf.length cf2] 54)).heap[b]?=w2.heap[b]?:=fun b hb hlt=>by
     have h7:=HS3.out
     rw[((Below.refl w3.heap.size w3).alloc (Nat.le_refl _) _).block b (by omega)]
     exact HO3.out b (by omega)
    exact relRO.kept (S:=fun b=>w1.heap.size<=b) (w:=w2) ⟨⟨_,rfl,HBD.out,HV2.out⟩,fldOwn_of HOW2.out (fun g hg=>hg)⟩ hS hK
  have HHB:=hid hhb
  have HA3:=hid ((HA.out.kept relRO (fun z hz hlt=>HB3.out.block z hlt)).kept relRO (fun z hz hlt=>((Below.refl w3.heap.size w3).alloc (Nat.le_refl _) (.cells #[.int .u8 (rk:Int),.string (bs rt),.int .u64 (rd:Int),.int .u64 (rn:Int),.int .u8 (vk:Int),.bool vb,.int .i64 vn,.string (bs vs),.slice pl2 vl.length cl2,.slice pf2 vf.length cf2] 54)).block z hlt))
  clear hhb hBw3
  go_wp2_with(at_builtin;refine push_acc relRO w.heap.size rfl _ _ 26 54 (.agg #[.int .u8 0,.string ⟨#[]⟩,.int .u64 0,.int .u64 0,.int .u8 0,.bool false,.int .i64 0,.string ⟨#[]⟩,.slice none 0 0,.slice none 0 0]) 120 rfl Tryz.underlying26 (by kernel_rfl) rfl (by decide) _ (l.take j) HA3.out w3.heap.size [.int .u8 (rk:Int),.string (bs rt),.int .u64 (rd:Int),.int .u64 (rn:Int),.int .u8 (vk:Int),.bool vb,.int .i64 vn,.string (bs vs),.slice pl2 vl.length cl2,.slice pf2 vf.length cf2] ⟨rk,rt,rd,rn,.mk vk vb vn vs vl vf⟩ (IsBlk.new _ _ _) HHB.out rfl rfl (by simp;omega) (by rw[htl];omega) (by rw[htl];unfold maxLen;omega) ?_)
  intro g9 cap9 w9 hacc9 hg9 hBg hgo hglt
  have HB9:=hid ((HBW3.out.alloc hsw3 _).grown hg9 (by simp;omega) (fun z hz=>(HOW.out z hz).1))
  have HA9:Hid (Acc HasRevO w.heap.size 54 10 w9 (.slice (some ⟨g9,0,none⟩) (j+1) cap9) (l.take (j+1))):=hid (by rw[HTK.out];exact hacc9)
  clear hacc9 hg9 x0 x1 x2 x3 x4 x5 x6 x7 x8 x9
  go_wp2
  go_roundw
  case rel=>exact⟨j+1,by go_num,hlt,HA9.out,HB9.out⟩
  case measure=>simp[intOf];omega
 obtain rfl:j=n:=by omega
 have hall:l.take j=l:=by rw[HN.out,List.take_length]
 rw[hall]at hacc
 have hfin:=revsO_fin hacc hbw
 have HF:=hid hfin
 clear hfin hacc hbw hall HA
 go_wp2
 go_ret
 exact HF.out
def HasBlkO (S:Nat->Prop) (w:World) (b:DBlk) (cs:List Value):Prop:=HasBlk S w b cs/\∀p n c,cs[4]?=some (.slice p n c)->RowIn HasRevO 10 S w p b.revs
def HasBlkL (S:Nat->Prop) (w:World) (b:DBlk) (cs:List Value):Prop:=
 ∃ps cp pr cr,cs=[.int .u64 (b.seq:Int),.string (bs b.prev),.string (bs b.root),.slice ps b.sts.length cp,.slice pr b.revs.length cr]∧
  (b.seq<18446744073709551616/\b.prev.length<=1073741824/\b.root.length<=1073741824/\b.sts.length<=1073741824/\b.revs.length<=1073741824∧
    b.sts.length<=cp/\cp<=maxLen/\b.revs.length<=cr/\cr<=maxLen/\∀s∈b.sts,s.length<=1073741824)∧
  HasS S w ps b.sts/\RowIn HasRevO 10 S w pr b.revs
theorem HasBlkO.low {S:Nat->Prop} {w:World} {b:DBlk} {cs:List Value} (h:HasBlkO S w b cs):HasBlkL (fun b=>b<w.heap.size) w b cs:=by
 obtain⟨⟨ps,cp,pr,cr,rfl,hbd,hs,_⟩,hr⟩:=h
 refine⟨ps,cp,pr,cr,rfl,hbd,fun i hi=>?_,fun i hi=>?_⟩
 ·obtain⟨g,o,e1,e2,e3,e4⟩:=hs i hi
  exact⟨g,o,e1,e3,e3,e4⟩
 ·obtain⟨g,o,cs,e1,e2,e3⟩:=hr pr _ cr rfl i hi
  exact⟨g,o,cs,e1,⟨e2.2.1,e2.2⟩,relRO.kept (relRO.lt e3) (fun b h=>h.2) (fun _ _ _=>rfl)⟩
def OwnBlkO (B:Nat) (w:World) (b:DBlk) (cs:List Value):Prop:=∃ps cp v5,cs=[.int .u64 (b.seq:Int),.string (bs b.prev),.string (bs b.root),.slice ps b.sts.length cp,v5]/\∃B',B<=B'/\Acc HasRevO B' 54 10 w v5 b.revs
set_option maxHeartbeats 4000000 in
theorem cloneRevO_any (vs:List DRev) (S:Nat->Prop) (p:Option Addr) (c:Nat) (w:World) (h:RowIn HasRevO 10 S w p vs) (hn:vs.length<=1073741824):
 Calls Tryz.prog 100 #[.slice p vs.length c] w fun e' w'=>∃v,e'=.returned v/\(∀D,Half HasRevO 10 w.heap.size D S 54 w' v vs 0)/\Below w.heap.size w w':=by
 obtain⟨css,h1,h2,h3,h4⟩:=h.css relRO (by decide)
 have hfl:css.flatten.length=vs.length*10:=by
  have:=flatten_take h2 css.length (Nat.le_refl _)
  rw[List.take_length]at this
  rw[this,h1]
 have q24:∀(w:World) (a:Option Addr) (n c n' c':Nat),(binOp .eql 26 (.slice a n c) (.slice none n' c')).run Tryz.prog w=.ok (.bool a.isNone) w:=fun w a n c n' c'=>Lib.run_eql_slice_nil w _ _ a n c n' c' Tryz.underlying26
 obtain⟨n,hnl⟩:∃n0,n0=vs.length:=⟨_,rfl⟩
 have HN:=hid hnl
 rw[←hnl]at hn hfl⊢
 have H3:=hid h3
 have H4:=hid h4
 have H1:=hid h1
 have H2:=hid h2
 have HFL:=hid hfl
 have H0:=hid h
 clear h1 h2 h3 h4 hnl hfl h
 cases p with
 |none=>
  have h0:n=0:=by
   rcases Nat.eq_zero_or_pos n with h|h
   ·exact h
   ·exfalso
    obtain⟨g,o,cs,q,_⟩:=H0.out 0 (by rw[←HN.out];exact h)
    cases q
  subst h0
  go_enter Tryz.func100,Tryz.ntmps100
  go_wp2
  go_ret
  have hv:vs=[]:=List.eq_nil_of_length_eq_zero HN.out.symm
  exact⟨_,rfl,fun D=>⟨[],⟨by rw[hv];rfl,Or.inl ⟨rfl,by rw[hv];rfl⟩⟩,by rw[hv];rfl,(fun c hc=>by cases hc),fun i hi=>by rw[hv]at hi;simp at hi⟩,Below.refl _ _⟩
 |some ad=>
  have hinfo:(Tryz.prog.info? 54).map (fun i=>(i.zero,i.size,i.bytes))=some (some (.agg #[.int .u8 0,.string ⟨#[]⟩,.int .u64 0,.int .u64 0,.int .u8 0,.bool false,.int .i64 0,.string ⟨#[]⟩,.slice none 0 0,.slice none 0 0]),10,120):=by kernel_rfl
  obtain⟨i0,hi,hzz⟩:=Option.map_eq_some_iff.1 hinfo
  simp only[Prod.mk.injEq]at hzz
  obtain⟨hz0,hz1,hz2⟩:=hzz
  have HI:=hid hi
  have HZ0:=hid hz0
  have HZ1:=hid hz1
  have HZ2:=hid hz2
  clear hinfo hi hz0 hz1 hz2
  go_enter Tryz.func100,Tryz.ntmps100
  go_wp2_with(at_builtin;refine wpList_append_own _ rfl _ _ 26 rfl w.heap.size 54 i0 (.agg #[.int .u8 0,.string ⟨#[]⟩,.int .u64 0,.int .u64 0,.int .u8 0,.bool false,.int .i64 0,.string ⟨#[]⟩,.slice none 0 0,.slice none 0 0]) 10 120 Tryz.underlying26 HI.out HZ0.out HZ1.out HZ2.out rfl (by decide) _ _ _ rfl (World.ownsRow_made w #[] 0 (Nat.le_refl _) (Nat.zero_le _) rfl) ad n c css.flatten rfl ?qc1 ?qc2 ?qc3 ?qc4 ?qc5 ?qc6 ?_)
  case qc1=>exact HFL.out
  case qc2=>
   intro j u hj
   exact Lib.cell?_alloc_some _ (H4.out ad rfl j u hj)
  case qc3=>
   intro u hu
   obtain⟨cs,hc,hu⟩:=List.mem_flatten.1 hu
   obtain⟨i,hi,rfl⟩:=List.getElem_of_mem hc
   exact relRO.one (H3.out i (by rw[←H1.out];exact hi) hi) u hu
  case qc4=>unfold maxLen;omega
  case qc5=>omega
  case qc6=>simp
  intro v' w1 hown hgrow hnil
  have hbw:Below w.heap.size w w1:=((Below.refl _ w).alloc (Nat.le_refl _) _).grown hgrow (by simp) (by intro k hk;simp[Value.ownBlock]at hk;omega)
  have HBW:=hid hbw
  have hhalf:∀D,Half HasRevO 10 w.heap.size D S 54 w1 v' vs 0:=by
   refine fun D=>⟨css,by rw[←HN.out];simpa using hown,H1.out,H2.out,fun i hi hi'=>⟨fun h=>by omega,fun _=>relRO.kept (H3.out i hi hi') (fun _ h=>h) (fun b _ hlt=>hbw.block b hlt)⟩⟩
  have HH:=hid hhalf
  clear hown hgrow hnil hbw hhalf
  go_wp2
  go_ret
  exact⟨_,rfl,HH.out,HBW.out⟩
set_option maxHeartbeats 8000000 in
theorem own6O_any (x:DBlk) (S:Nat->Prop) (cs:List Value) (w:World) (hx:HasBlkO S w x cs):
 Calls Tryz.prog 69 #[.agg cs.toArray] w fun e' w'=>∃cs',e'=.returned (.agg cs'.toArray)/\HasBlk (fun b=>w.heap.size<=b) w' x cs'/\OwnBlkO w.heap.size w' x cs'/\Below w.heap.size w w':=by
 have hx2:=HasBlkO.low hx
 obtain⟨sq,pv,rt,l,f⟩:=x
 obtain⟨pl,cl,pf,cf,rfl,hbd,hL,hF⟩:=hx2
 have hll:l.length<=1073741824:=hbd.2.2.2.1
 have hlf:f.length<=1073741824:=hbd.2.2.2.2.1
 show Calls Tryz.prog 69 #[.agg #[.int .u64 (sq:Int),.string (bs pv),.string (bs rt),.slice pl l.length cl,.slice pf f.length cf]] w _
 have HCL:=hid (fun w' (hb:Below w.heap.size w w')=>clone_any l _ pl cl w' (hL.ext hb) (by omega))
 have HCF:=hid (fun w' (hb:Below w.heap.size w w')=>cloneRevO_any f _ pf cf w' (hF.ext relRO hb) hlf)
 have HBD:=hid hbd
 clear hx hL hF hbd
 go_enter Tryz.func69,Tryz.ntmps69
 go_upto_region 1 with(fail)
 generalize hW0:World.alloc (World.alloc w _) _=W0
 have hd1:IsBlk W0 w.heap.size #[.int .u64 (sq:Int),.string (bs pv),.string (bs rt),.slice pl l.length cl,.slice pf f.length cf] 28:=by rw[←hW0];exact(IsBlk.new _ _ _).alloc _
 have hd2:IsBlk W0 (w.heap.size+1) #[.int .u64 0,.string (bs []),.string (bs []),.slice none 0 0,.slice none 0 0] 28:=by rw[←hW0];exact IsBlk.new_at (by simp)
 have hb0:Below w.heap.size w W0:=by rw[←hW0];exact((Below.refl _ _).alloc (Nat.le_refl _) _).alloc (by simp) _
 have hlt1:w.heap.size<W0.heap.size:=hd1.lt
 have hlt2:w.heap.size+1<W0.heap.size:=hd2.lt
 clear hW0
 have c4:=hd1.cell (i:=3) rfl
 have c5:=hd1.cell (i:=4) rfl
 have f4:=hd1.frozen 3
 have f5:=hd1.frozen 4
 have HD1:=hid hd1
 have HD2:=hid hd2
 have HB0:=hid hb0
 clear hd1 hd2 hb0
 refine mixB_start [7,8,9] (Cls W0) (by kernel_rfl) (Cls.of ((Below.refl _ _).drew)) (fun hCw=>?_)
 refine mixB_flt (by kernel_rfl) [0,1,3,4] 6 _ _ hCw (by kernel_rfl) ?_
 simp only[opsAt,zo1,zo2,zo3,zo4,zo5]
 unfold Cls
 repeat(go_big_quiet_step (fail))
 refine wpQuiet_nil ?_
 (try rw[←Cls_def])
 refine mixB_ch (i:=2) (fuel:=5) (by kernel_rfl) (by kernel_rfl) ?_
 simp only[opsAt,zo1,zo2,zo3,zo4,zo5]
 go_wp2_with(go_at_call 64;refine(HCL.out _ (below_ext HB0.out hCw.below)).mono ?_;rintro e' w1 ⟨v1,rfl,hh1,hb1⟩;have hC1:=hCw)
 refine ThenB.mk (hCw.trans hb1) (fun hCw=>?_)
 refine mixB_flt (by kernel_rfl) [6] 4 _ _ hCw (by kernel_rfl) ?_
 simp only[opsAt,zo1,zo2,zo3,zo4,zo5]
 unfold Cls
 repeat(go_big_quiet_step (fail))
 refine wpQuiet_nil ?_
 (try rw[←Cls_def])
 refine mixB_ch (i:=5) (fuel:=3) (by kernel_rfl) (by kernel_rfl) ?_
 simp only[opsAt,zo1,zo2,zo3,zo4,zo5]
 go_wp2_with(go_at_call 100;refine(HCF.out _ (below_ext HB0.out hCw.below)).mono ?_;rintro e' w2 ⟨v2,rfl,hh2,hb2⟩)
 refine ThenB.mk (hCw.trans hb2) (fun hCw=>?_)
 refine mixB_end [7,8,9] (by kernel_rfl) ?_
 simp only[opsAt,zo1,zo2,zo3,zo4,zo5]
 have hB01:Below W0.heap.size W0 w1:=((Below.refl _ _).drew).trans hb1
 have hz1:=hB01.size
 have hz2:=hb2.size
 obtain⟨p1,c1,rfl,hc1a,hc1b,hs1⟩:=hasS_cap hh1
 obtain⟨p2,c2,rfl,ho2⟩:=(hh2 (fun _=>True)).slice
 have hblk2:=HD1.out.ext hCw.below
 have hzer2:=HD2.out.ext hCw.below
 have HB2:=hid (below_ext HB0.out hCw.below)
 have HS1:Hid (HasS (fun x=>W0.heap.size<=x/\x<w1.heap.size) w2 p1 l):=hid ((hasS_lt hs1).ext hb2)
 have HH2:=hid hh2
 have HO2:=hid ho2
 clear c4 c5 f4 f5 hCw hb1 hb2 hh1 hh2 ho2 hB01 hs1
 have c4:=hblk2.cell (i:=3) rfl
 have c5:=hblk2.cell (i:=4) rfl
 have f4:=hblk2.frozen 3
 have f5:=hblk2.frozen 4
 have HBK2:=hid hblk2
 have HZR2:=hid hzer2
 clear hblk2 hzer2
 have hst:∀W,W=(w2.setCell ⟨w.heap.size,3,none⟩ (.slice p1 l.length c1)).setCell ⟨w.heap.size,4,none⟩ (.slice p2 f.length c2)→
  IsBlk W w.heap.size #[.int .u64 (sq:Int),.string (bs pv),.string (bs rt),.slice p1 l.length c1,.slice p2 f.length c2] 28/\IsBlk W (w.heap.size+1) #[.int .u64 0,.string (bs []),.string (bs []),.slice none 0 0,.slice none 0 0] 28/\Below w.heap.size w W/\W.heap.size=w2.heap.size/\∀z,z≠w.heap.size->W.heap[z]?=w2.heap[z]?:=by
  intro W hW
  subst hW
  have hoth:∀z,z≠w.heap.size->((w2.setCell ⟨w.heap.size,3,none⟩ (.slice p1 l.length c1)).setCell ⟨w.heap.size,4,none⟩ (.slice p2 f.length c2)).heap[z]?=w2.heap[z]?:=fun z hz=>by
   rw[Below.heap_setCell _ _ _ _ hz,Below.heap_setCell _ _ _ _ hz]
  exact⟨by simpa using(HBK2.out.set 3 (.slice p1 l.length c1)).set 4 (.slice p2 f.length c2),(hoth _ (by omega)).trans HZR2.out,below_set (below_set HB2.out (Nat.le_refl _)) (Nat.le_refl _),by simp,hoth⟩
 have HST:=hid hst
 clear hst
 go_wp2
 refine Calm.normal ?_
 generalize hW3:World.setCell _ _ _=W3
 obtain⟨e1,e2,e3,e4,e5⟩:=HST.out W3 hW3.symm
 have HS3W:Hid (HasS (fun x=>W0.heap.size<=x/\x<w1.heap.size) W3 p1 l):=hid (HS1.out.ext_to (fun _ h=>h) (fun b hb _=>e5 b (by omega)))
 have HH23:Hid (Half HasRevO 10 w1.heap.size (fun z=>W3.heap.size<=z) (fun b=>b<w.heap.size) 54 W3 (.slice p2 f.length c2) f 0):=hid ((HH2.out _).kept relRO (fun z hz=>e5 z (by have:=(HO2.out z hz).1;omega)) (fun z hz hlt=>by have h6:W3.heap.size<=z:=hz;omega) (fun z hz hlt=>e5 z (by have h6:z<w.heap.size:=hz;omega)))
 have HBK:=hid e1
 have HZR3:=hid e2
 have HB3:=hid e3
 have hs3:W3.heap.size=w2.heap.size:=e4
 have hlt3:w.heap.size+1<W3.heap.size:=by omega
 have c5:=e1.cell (i:=4) rfl
 clear e1 e2 e3 e4 e5 hW3 c4 f4 f5 HST HBK2 HZR2 HB2 HS1 HH2 HD1 HD2 HCL HCF
 have HS3:=hid hs3
 clear hs3
 go_wp2
 clear c5
 go_loopw [16] (fun i wr=>∃j:Nat,i=.int .i64 (j:Int)/\j<=f.length/\Half HasRevO 10 w1.heap.size (fun z=>W3.heap.size<=z) (fun b=>b<w.heap.size) 54 wr (.slice p2 f.length c2) f j/\KeptO (Value.slice p2 f.length c2).ownBlock W3 wr/\Below w.heap.size w wr) (fun i _=>f.length-(intOf i).toNat)
 case atStart=>exact⟨0,rfl,Nat.zero_le _,HH23.out,KeptO.refl _ _,HB3.out⟩
 case round=>
 clear HH23
 obtain⟨j,rfl,hj,hh,hk,hbw⟩:=hrel
 have HBW':=hid hbw
 have HH':=hid hh
 have HKO':=hid hk
 have hblk:IsBlk wr w.heap.size #[.int .u64 (sq:Int),.string (bs pv),.string (bs rt),.slice p1 l.length c1,.slice p2 f.length c2] 28:=(hk.2 _ (by omega) (fun e=>by have:=(HO2.out _ e).1;omega)).trans HBK.out
 have hszw:=hk.1
 have HBK':=hid hblk
 clear hh hk hbw
 by_cases hlt:j<f.length
 ·obtain⟨g,cap,cs,hv,hBg,hgl,hnc,hcm,hval,hcl,hcells,hfz⟩:=HH'.out.next hlt
  obtain⟨e1,_,e3⟩:=Value.slice.inj hv
  subst e1
  subst e3
  have hg3:=(HO2.out g rfl)
  generalize hu:f[j]=fu at hval
  obtain⟨rk,rtb,rd,rn,k1,b1,n1,s1,l1,f1⟩:=fu
  obtain⟨⟨cs1,rfl,hxl,hval⟩,hfo0⟩:=hval
  clear hfo0
  have hval':=hval
  obtain⟨pl1,cl1,pf1,cf1,rfl,_⟩:=hasVal_mk.1 hval
  have d0:=hcells 4 (by omega)
  have d1:=hcells 5 (by omega)
  have d2:=hcells 6 (by omega)
  have d3:=hcells 7 (by omega)
  have d4:=hcells 8 (by omega)
  have d5:=hcells 9 (by omega)
  have c5:=hblk.cell (i:=4) rfl
  have hlb2:=hblk.lt
  have HV:=hid hval'
  have HU:=hid hu
  have HXL:=hid hxl
  have HC:=hid hcells
  have HFZ:=hid hfz
  clear hval hval' hu hv hcells hfz hblk hcl hcm hxl
  go_wp2_with fail
  go_at_call 101
  refine(get_nil k1 b1 n1 s1 l1 f1 _ _ _ HV.out).mono ?_
  rintro e' w3 ⟨cs',rfl,hv3,how,hbr⟩
  have hfo:=fldOwn_of (S:=fun b=>wr.heap.size<=b) (x0:=.int .u8 (rk:Int)) (x1:=.string (bs rtb)) (x2:=.int .u64 (rd:Int)) (x3:=.int .u64 (rn:Int)) how (fun g hg=>hg)
  clear how
  obtain⟨pl3,cl3,pf3,cf3,rfl,_⟩:=hasVal_mk.1 hv3
  have hgb:=hbr.block g hgl
  have hz3:=hbr.size
  have x0:=(hbr.cell (p:=⟨g,j*10+4,none⟩) hgl).trans d0
  have x1:=(hbr.cell (p:=⟨g,j*10+5,none⟩) hgl).trans d1
  have x2:=(hbr.cell (p:=⟨g,j*10+6,none⟩) hgl).trans d2
  have x3:=(hbr.cell (p:=⟨g,j*10+7,none⟩) hgl).trans d3
  have x4:=(hbr.cell (p:=⟨g,j*10+8,none⟩) hgl).trans d4
  have x5:=(hbr.cell (p:=⟨g,j*10+9,none⟩) hgl).trans d5
  have y0:=(frozen_block (o:=j*10+4) hgb).trans (HFZ.out _)
  have y1:=(frozen_block (o:=j*10+5) hgb).trans (HFZ.out _)
  have y2:=(frozen_block (o:=j*10+6) hgb).trans (HFZ.out _)
  have y3:=(frozen_block (o:=j*10+7) hgb).trans (HFZ.out _)
  have y4:=(frozen_block (o:=j*10+8) hgb).trans (HFZ.out _)
  have y5:=(frozen_block (o:=j*10+9) hgb).trans (HFZ.out _)
  have hstep:=HH'.out.step (pre:=[.int .u8 (rk:Int),.string (bs rtb),.int .u64 (rd:Int),.int .u64 (rn:Int)]) (new:=[.int .u8 (k1:Int),.bool b1,.int .i64 n1,.string (bs s1),.slice pl3 l1.length cl3,.slice pf3 f1.length cf3]) relRO hbr hlt (fun z hz e=>by have h6:z<w.heap.size:=hz;have:=hg3.1;omega) (fun z hz=>Nat.le_trans hszw hz) (fun z hz e=>by have h6:W3.heap.size<=z:=hz;have:=hg3.2;have h7:=HS3.out;omega) (fun S w cs h=>by
   rw[HU.out]at h
   obtain⟨⟨cs',rfl,_⟩,_⟩:=h
   exact⟨cs',rfl⟩) (by rw[HU.out];exact⟨⟨_,rfl,HXL.out,hv3⟩,hfo⟩)
  have hkn:=KeptO.sets (HKO'.out.ext hbr) (size_setCells g · · w3) (j*10+4) [.int .u8 (k1:Int),.bool b1,.int .i64 n1,.string (bs s1),.slice pl3 l1.length cl3,.slice pf3 f1.length cf3]
  have hbn:=below_setCells (B:=w.heap.size) (w0:=w) (show w.heap.size<=g by have:=hg3.1;omega) [.int .u8 (k1:Int),.bool b1,.int .i64 n1,.string (bs s1),.slice pl3 l1.length cl3,.slice pf3 f1.length cf3] (j*10+4) w3 (HBW'.out.trans (hbr.mono HBW'.out.size))
  have HF:=hid (And.intro hstep (And.intro hkn hbn))
  clear hstep hkn hbn hgb hbr hv3 hfo d0 d1 d2 d3 d4 d5 c5
  go_wp2
  clear x0 x1 x2 x3 x4 x5 y0 y1 y2 y3 y4 y5
  go_roundw
  case rel=>exact⟨j+1,by go_num,hlt,HF.out.1,HF.out.2.1,HF.out.2.2⟩
  case measure=>simp[intOf];omega
 obtain rfl:j=f.length:=by omega
 have hzer2:IsBlk wr (w.heap.size+1) #[.int .u64 0,.string (bs []),.string (bs []),.slice none 0 0,.slice none 0 0] 28:=(HKO'.out.2 _ (by omega) (fun e=>by have:=(HO2.out _ e).1;omega)).trans HZR3.out
 have hS:HasS (fun x=>W0.heap.size<=x/\x<w1.heap.size) wr p1 l:=HS3W.out.ext_to (fun _ h=>h) (fun z hz hlt=>HKO'.out.2 z hlt (fun e=>by have:=(HO2.out z e).1;omega))
 have hF:=HH'.out
 have hend:∀W,(∀z,z≠w.heap.size+1->W.heap[z]?=wr.heap[z]?)->HasBlk (fun z=>w.heap.size<=z) W ⟨sq,pv,rt,l,f⟩ [.int .u64 (sq:Int),.string (bs pv),.string (bs rt),.slice p1 l.length c1,.slice p2 f.length c2]/\OwnBlkO w.heap.size W ⟨sq,pv,rt,l,f⟩ [.int .u64 (sq:Int),.string (bs pv),.string (bs rt),.slice p1 l.length c1,.slice p2 f.length c2]:=by
  intro W ho
  have hF2:=hF.kept relRO (fun z hz=>ho z (by have:=(HO2.out z hz).1;omega)) (fun z hz _=>ho z (by have h7:W3.heap.size<=z:=hz;omega)) (fun z hz _=>ho z (by have h7:z<w.heap.size:=hz;omega))
  have hacc:=hF2.acc relRO (fun z hz=>⟨by have h7:W3.heap.size<=z:=hz;have h8:=HS3.out;omega,fun e=>by have h6:=(HO2.out z e).2;have h7:W3.heap.size<=z:=hz;have:=HS3.out;omega⟩)
  have hacc':=hacc
  obtain⟨q2,d2,hv2,b3,b4,hc2⟩:=hacc.cells relRO (S:=fun z=>w.heap.size<=z) (fun z hz=>Nat.le_trans (show w.heap.size<=w1.heap.size by omega) hz)
  obtain⟨e4,_,e6⟩:=Value.slice.inj hv2
  subst e4
  subst e6
  have hbd:=HBD.out
  refine⟨⟨_,_,_,_,rfl,⟨hbd.1,hbd.2.1,hbd.2.2.1,hbd.2.2.2.1,hbd.2.2.2.2.1,hc1a,hc1b,b3,b4,hbd.2.2.2.2.2.2.2.2.2⟩,hS.ext_to (fun z hz=>by omega) (fun z hz _=>ho z (by omega)),fun i hi=>?_⟩,_,_,_,rfl,w1.heap.size,by omega,hacc'⟩
  obtain⟨g,cs,x1,x2,x3⟩:=hc2 i hi
  exact⟨g,0,cs,x1,x2,x3.1⟩
 have HEND:=hid hend
 have b0:=HBK'.out.cell (i:=0) rfl
 have b1:=HBK'.out.cell (i:=1) rfl
 have b2:=HBK'.out.cell (i:=2) rfl
 have b3:=HBK'.out.cell (i:=3) rfl
 have b4:=HBK'.out.cell (i:=4) rfl
 have z0:=hzer2.cell (i:=0) rfl
 have z1:=hzer2.cell (i:=1) rfl
 have z2:=hzer2.cell (i:=2) rfl
 have z3:=hzer2.cell (i:=3) rfl
 have z4:=hzer2.cell (i:=4) rfl
 have y0:=hzer2.frozen 0
 have y1:=hzer2.frozen 1
 have y2:=hzer2.frozen 2
 have y3:=hzer2.frozen 3
 have y4:=hzer2.frozen 4
 have hlz:=hzer2.lt
 have hset:=blk_setCells [.int .u64 (sq:Int),.string (bs pv),.string (bs rt),.slice p1 l.length c1,.slice p2 f.length c2] 0 wr [.int .u64 0,.string (bs []),.string (bs []),.slice none 0 0,.slice none 0 0] hzer2
 have hbf:=below_setCells (B:=w.heap.size) (w0:=w) (show w.heap.size<=w.heap.size+1 by omega) [.int .u64 (sq:Int),.string (bs pv),.string (bs rt),.slice p1 l.length c1,.slice p2 f.length c2] 0 wr HBW'.out
 have HSET:=hid hset
 have HBF:=hid hbf
 have HOTH:=hid (fun z (hz:z≠w.heap.size+1)=>other_setCells hz [.int .u64 (sq:Int),.string (bs pv),.string (bs rt),.slice p1 l.length c1,.slice p2 f.length c2] 0 wr)
 clear hzer2 hS hF hend hset hbf
 go_wp2
 exact bodyPost_ret (v:=.agg #[.int .u64 (sq:Int),.string (bs pv),.string (bs rt),.slice p1 l.length c1,.slice p2 f.length c2]) (results_c (p:=2) (ty:=28) Tryz.results69 rfl HSET.out Tryz.underlying28 rfl (by kernel_rfl)) rfl ⟨[.int .u64 (sq:Int),.string (bs pv),.string (bs rt),.slice p1 l.length c1,.slice p2 f.length c2],rfl,(HEND.out _ HOTH.out).1,(HEND.out _ HOTH.out).2,HBF.out⟩
def BlkOutO (w:World) (r:DBlk×Int) (e':Ending) (w':World):Prop:=∃cs,e'=.returned (.tuple #[.agg cs.toArray,.int .i64 r.2])/\HasBlk (fun b=>w.heap.size<=b) w' r.1 cs/\(r.2=0->OwnBlkO w.heap.size w' r.1 cs)/\Below w.heap.size w w'
theorem makeO_zero {w W:World} {y:Int} {M:DBlk×Int} {tmps:Array Value} (hq:y≠0) (hM:M=(.zero,y)) (hp:tmps.getD 8 undef=.pointer (some ⟨w.heap.size,0,none⟩)) (hy:tmps.getD 9 undef=.int .i64 y)
 (hd:IsBlk W w.heap.size #[.int .u64 0,.string ⟨#[]⟩,.string ⟨#[]⟩,.slice none 0 0,.slice none 0 0] 28) (hb:Below w.heap.size w W):
 bodyPost Tryz.prog Tryz.f29 (BlkOutO w M) .ret {tmps:=tmps,defers:=[]} W:=by
 subst hM
 exact bodyPost_ret (v:=.tuple #[.agg #[.int .u64 0,.string ⟨#[]⟩,.string ⟨#[]⟩,.slice none 0 0,.slice none 0 0],.int .i64 y]) (results_ct (p:=8) (u:=9) (ty:=28) Tryz.results29 hp hd Tryz.underlying28 rfl (by kernel_rfl) hy) rfl ⟨_,rfl,zblk_has _ _,fun h=>absurd h hq,hb⟩
set_option maxHeartbeats 8000000 in
theorem makeO_p (seq:Nat) (prev:List UInt8) (sts:List (List UInt8)) (revs:List DRev) (S:Nat->Prop) (ps pr:Option Addr) (cp cr:Nat) (w:World)
 (hb:HasBlk S w ⟨seq,prev,zero32,sts,revs⟩ [.int .u64 (seq:Int),.string (bs prev),.string (bs zero32),.slice ps sts.length cp,.slice pr revs.length cr]) (hro:RowIn HasRevO 10 S w pr revs) (hk:∀r∈revs,okR r) (hT:U8T w) (hK:Ks w):
 Calls Tryz.prog 29 #[.int .u64 (seq:Int),.string (bs prev),.slice ps sts.length cp,.slice pr revs.length cr] w (BlkOutO w (makeP seq prev sts revs)):=by
 obtain⟨M,hM⟩:∃M,M=makeP seq prev sts revs:=⟨_,rfl⟩
 rw[←hM]
 have HM:=hid hM
 have HB:=hid hb
 have HRO:=hid hro
 have HKK:=hid hk
 have HT:=hid hT
 have HK:=hid hK
 have hpo:=parts_full (b:=⟨seq,prev,zero32,sts,revs⟩)
 have HPT:Hid (∀w',Below w.heap.size w w'->Calls Tryz.prog 67 #[.agg #[.int .u64 (seq:Int),.string (bs prev),.string (bs zero32),.slice ps sts.length cp,.slice pr revs.length cr]] w' (TextsOut w' (partsP ⟨seq,prev,zero32,sts,revs⟩))):=hid (fun w' h=>parts_any _ S _ w' (hb.ext h) hk (U8T_ext hT h))
 clear hb hk hT hK hM hro
 generalize hP:partsP ⟨seq,prev,zero32,sts,revs⟩=P at HPT hpo
 have HP:=hid hP
 have HPO:=hid hpo
 clear hP hpo
 go_enter Tryz.func29,Tryz.ntmps29
 go_upto_region 1 with(fail)
 generalize hW0:World.alloc w _=W0
 have hd0:IsBlk W0 w.heap.size #[.int .u64 0,.string ⟨#[]⟩,.string ⟨#[]⟩,.slice none 0 0,.slice none 0 0] 28:=by rw[←hW0];exact IsBlk.new _ _ _
 have hb0:Below w.heap.size w W0:=by rw[←hW0];exact(Below.refl _ _).alloc (Nat.le_refl _) _
 have hlt0:=hd0.lt
 have HD0:=hid hd0
 have HB0:=hid hb0
 clear hW0 hd0 hb0
 have hmk:=make32 W0
 have hcv:=conv32 W0
 go_upto_region 2 with(fail)
 clear hmk hcv
 generalize hW1:World.alloc _ _=W1
 have hd1:IsBlk W1 (W0.heap.size+1) #[.int .u64 (seq:Int),.string (bs prev),.string (bs zero32),.slice ps sts.length cp,.slice pr revs.length cr] 28:=by rw[←hW1];exact IsBlk.new_at (by simp)
 have hb01:Below W0.heap.size W0 W1:=by rw[←hW1];exact((Below.refl _ _).alloc (Nat.le_refl _) _).alloc (by simp) _
 obtain⟨b10,hb10⟩:∃b,b=W0.heap.size+1:=⟨_,rfl⟩
 rw[←hb10]at hd1
 rw[←hb10]
 have hg10:w.heap.size<b10:=by omega
 have HD1:=hid hd1
 have HB1:=hid (below_ext HB0.out hb01)
 have HZ1:=hid (HD0.out.ext hb01)
 have hlt1:=hd1.lt
 have x0:=hd1.cell (i:=0) rfl
 have x1:=hd1.cell (i:=1) rfl
 have x2:=hd1.cell (i:=2) rfl
 have x3:=hd1.cell (i:=3) rfl
 have x4:=hd1.cell (i:=4) rfl
 clear hW1 hd1 hb01 hb10
 go_wp2_with fail
 go_at_call 67
 refine(HPT.out _ HB1.out).mono ?_
 rintro e' w2 ⟨p1,c1,rfl,⟨hc1,hc2⟩,hs1,hb2⟩
 have HS2:=hid hs1
 have HB2:=hid (below_ext HB1.out hb2)
 have HD2:=hid (HD1.out.ext hb2)
 have hz2:=HZ1.out.ext hb2
 have HZ2:=hid hz2
 have hsz2:=hb2.size
 clear x0 x1 x2 x3 x4 hb2 hs1
 obtain⟨l,q⟩:=P
 by_cases hq:q=0
 case neg=>
  have hqb:(q !=0)=true:=by rw[bne_iff_ne];exact hq
  have HQ:=hid hq
  have HM2:Hid (M=(.zero,q)):=hid (by
   have he:makeE seq prev sts revs=q:=by unfold makeE;rw[HP.out,if_pos hq]
   rw[HM.out];unfold makeP;rw[he,if_pos hq])
  have z0:=hz2.cell (i:=0) rfl
  have z1:=hz2.cell (i:=1) rfl
  have z2:=hz2.cell (i:=2) rfl
  have z3:=hz2.cell (i:=3) rfl
  have z4:=hz2.cell (i:=4) rfl
  have y0:=hz2.frozen 0
  have y1:=hz2.frozen 1
  have y2:=hz2.frozen 2
  have y3:=hz2.frozen 3
  have y4:=hz2.frozen 4
  have hlz:=hz2.lt
  have HSET:=hid (blk_setCells [.int .u64 0,.string ⟨#[]⟩,.string ⟨#[]⟩,.slice none 0 0,.slice none 0 0] 0 w2 [.int .u64 0,.string ⟨#[]⟩,.string ⟨#[]⟩,.slice none 0 0,.slice none 0 0] hz2)
  have HBF:=hid (below_setCells (B:=w.heap.size) (w0:=w) (Nat.le_refl _) [.int .u64 0,.string ⟨#[]⟩,.string ⟨#[]⟩,.slice none 0 0,.slice none 0 0] 0 w2 HB2.out)
  clear hz2 hq
  go_wp2
  exact makeO_zero HQ.out HM2.out rfl rfl HSET.out HBF.out
 subst hq
 obtain⟨q1,q2,q3,q4,q5,q6,q7,q8,q9,q10,_⟩:=HPO.out rfl
 have q8':(l,(0:Int))=textsP revs:=q8
 have q9':(textsP revs).1.length=revs.length:=q9
 have q5':revs.length<=64:=q5
 rw[←q8']at q9' q10
 simp only at q9' q10
 obtain⟨RT,hRT⟩:∃r,r=rootL l:=⟨_,rfl⟩
 have hrl:RT.length=32:=by rw[hRT];exact rootL_len _
 have HRT:Hid (Calls Tryz.prog 68 #[.slice p1 l.length c1] w2 fun e' w3=>e'=.returned (.string (bs RT))/\Below w2.heap.size w2 w3):=hid (by
  rw[hRT]
  exact root_p l _ p1 c1 w2 (HK.out.ext HB2.out) HS2.out (by omega) (fun s hs=>by have:=q10 s hs;omega))
 have HMB:Hid (makeB seq prev sts revs=⟨seq,prev,RT,sts,revs⟩):=hid (by unfold makeB;rw[←q8',hRT])
 clear q1 q2 q3 q4 q5 q6 q7 q8 q9 q10 q8' q9' q5' hRT hz2
 go_wp2_with fail
 go_at_call 68
 refine HRT.out.mono ?_
 rintro e' w3 ⟨rfl,hb3⟩
 have HB3:=hid (below_ext HB2.out hb3)
 have hd3:=HD2.out.ext hb3
 have x2:=hd3.cell (i:=2) rfl
 have y2:=hd3.frozen 2
 have hlt3:=hd3.lt
 have HZ3:=hid (HZ2.out.ext hb3)
 have HD3:=hid hd3
 clear hd3 hb3
 go_upto_region 6 with(fail)
 clear x2 y2
 generalize hW4:World.setCell _ _ _=W4
 have hd4:IsBlk W4 b10 #[.int .u64 (seq:Int),.string (bs prev),.string (bs RT),.slice ps sts.length cp,.slice pr revs.length cr] 28:=by rw[←hW4];simpa using HD3.out.set 2 (.string (bs RT))
 have HB4:Hid (Below w.heap.size w W4):=hid (by rw[←hW4];exact below_set HB3.out (by omega))
 have HZ4:Hid (IsBlk W4 w.heap.size #[.int .u64 0,.string ⟨#[]⟩,.string ⟨#[]⟩,.slice none 0 0,.slice none 0 0] 28):=hid (by rw[←hW4];exact HZ3.out.set_other (a:=⟨b10,2,none⟩) (show b10≠w.heap.size by omega) _)
 have hbk4:=blk_root (root':=RT) (HB.out.ext HB4.out) (by omega)
 have hck:=check_p _ S _ W4 hbk4 HKK.out (U8T_ext HT.out HB4.out) (HK.out.ext HB4.out)
 have HME:Hid (makeE seq prev sts revs=(wholeP ⟨seq,prev,RT,sts,revs⟩).2):=hid (by
  unfold makeE
  rw[HP.out,if_neg (by simp),HMB.out])
 obtain⟨Y,hY⟩:∃Y,Y=(wholeP ⟨seq,prev,RT,sts,revs⟩).2:=⟨_,rfl⟩
 rw[←hY]at hck HME
 have HCK:=hid hck
 have HBK4:=hid hbk4
 have HD4:=hid hd4
 have hlt4:=hd4.lt
 have x0:=hd4.cell (i:=0) rfl
 have x1:=hd4.cell (i:=1) rfl
 have x2:=hd4.cell (i:=2) rfl
 have x3:=hd4.cell (i:=3) rfl
 have x4:=hd4.cell (i:=4) rfl
 clear hW4 hd4 hbk4 hck hY
 go_wp2_with fail
 go_at_call 31
 refine HCK.out.mono ?_
 rintro e' w5 ⟨rfl,hb5⟩
 have HB5:=hid (below_ext HB4.out hb5)
 have HBK5:=hid (HBK4.out.ext hb5)
 have hd5:=HD4.out.ext hb5
 have hz5:=HZ4.out.ext hb5
 have hlt5:=hd5.lt
 clear x0 x1 x2 x3 x4 hb5
 by_cases hq:Y=0
 case neg=>
  have hqb:(Y !=0)=true:=by rw[bne_iff_ne];exact hq
  have HQ:=hid hq
  have HM2:Hid (M=(.zero,Y)):=hid (by rw[HM.out];unfold makeP;rw[HME.out,if_pos hq])
  have z0:=hz5.cell (i:=0) rfl
  have z1:=hz5.cell (i:=1) rfl
  have z2:=hz5.cell (i:=2) rfl
  have z3:=hz5.cell (i:=3) rfl
  have z4:=hz5.cell (i:=4) rfl
  have y0:=hz5.frozen 0
  have y1:=hz5.frozen 1
  have y2:=hz5.frozen 2
  have y3:=hz5.frozen 3
  have y4:=hz5.frozen 4
  have hlz:=hz5.lt
  have HSET:=hid (blk_setCells [.int .u64 0,.string ⟨#[]⟩,.string ⟨#[]⟩,.slice none 0 0,.slice none 0 0] 0 w5 [.int .u64 0,.string ⟨#[]⟩,.string ⟨#[]⟩,.slice none 0 0,.slice none 0 0] hz5)
  have HBF:=hid (below_setCells (B:=w.heap.size) (w0:=w) (Nat.le_refl _) [.int .u64 0,.string ⟨#[]⟩,.string ⟨#[]⟩,.slice none 0 0,.slice none 0 0] 0 w5 HB5.out)
  clear hz5 hq hd5
  go_wp2
  exact makeO_zero HQ.out HM2.out rfl rfl HSET.out HBF.out
 subst hq
 have HM2:Hid (M=(⟨seq,prev,RT,sts,revs⟩,0)):=hid (by rw[HM.out];unfold makeP;rw[HME.out,if_neg (by simp),HMB.out])
 have HZ5:=hid hz5
 have x0:=hd5.cell (i:=0) rfl
 have x1:=hd5.cell (i:=1) rfl
 have x2:=hd5.cell (i:=2) rfl
 have x3:=hd5.cell (i:=3) rfl
 have x4:=hd5.cell (i:=4) rfl
 clear hz5 hd5
 go_wp2_with fail
 go_at_call 69
 refine(own6O_any ⟨seq,prev,RT,sts,revs⟩ S _ w5 ⟨HBK5.out,fun p n c hc=>by injection hc with hc;injection hc with e1 _ _;rw[←e1];exact HRO.out.ext relRO HB5.out⟩).mono ?_
 rintro e' w6 ⟨cs6,rfl,hb6k,hob6,hb6⟩
 have HB6:=hid (below_ext HB5.out hb6)
 have hsz6:=hb6.size
 have hk6:=hb6k
 obtain⟨ps6,cp6,pr6,cr6,rfl,_⟩:=hb6k
 obtain⟨_,_,v56,e56,B56,hB56,hac56⟩:=hob6
 simp only[List.cons.injEq,and_true,true_and]at e56
 obtain⟨_,e56⟩:=e56
 subst e56
 have hz6:=HZ5.out.ext hb6
 have hsz5:=HB5.out.size
 have HOW6:Hid (OwnBlkO w.heap.size (w6.setCells w.heap.size 0 [.int .u64 (seq:Int),.string (bs prev),.string (bs RT),.slice ps6 sts.length cp6,.slice pr6 revs.length cr6]) ⟨seq,prev,RT,sts,revs⟩ [.int .u64 (seq:Int),.string (bs prev),.string (bs RT),.slice ps6 sts.length cp6,.slice pr6 revs.length cr6]):=hid ⟨_,_,_,rfl,B56,by omega,hac56.kept relRO (fun z hz hlt=>other_setCells (show z≠w.heap.size by have:=HZ5.out.lt;omega) _ _ _)⟩
 clear hac56
 have HFIN:=hid (And.intro (blk_setCells [.int .u64 (seq:Int),.string (bs prev),.string (bs RT),.slice ps6 sts.length cp6,.slice pr6 revs.length cr6] 0 w6 [.int .u64 0,.string ⟨#[]⟩,.string ⟨#[]⟩,.slice none 0 0,.slice none 0 0] hz6)
  (And.intro (HasBlk.kept (S':=fun b=>w.heap.size<=b) hk6 (fun b hb=>by have:w5.heap.size<=b:=hb;omega) (fun b hb _=>other_setCells (show b≠w.heap.size by have:w5.heap.size<=b:=hb;have:=hz6.lt;have:=HZ5.out.lt;omega) [.int .u64 (seq:Int),.string (bs prev),.string (bs RT),.slice ps6 sts.length cp6,.slice pr6 revs.length cr6] 0 w6))
    (below_setCells (B:=w.heap.size) (w0:=w) (Nat.le_refl _) [.int .u64 (seq:Int),.string (bs prev),.string (bs RT),.slice ps6 sts.length cp6,.slice pr6 revs.length cr6] 0 w6 HB6.out)))
 have z0:=hz6.cell (i:=0) rfl
 have z1:=hz6.cell (i:=1) rfl
 have z2:=hz6.cell (i:=2) rfl
 have z3:=hz6.cell (i:=3) rfl
 have z4:=hz6.cell (i:=4) rfl
 have y0:=hz6.frozen 0
 have y1:=hz6.frozen 1
 have y2:=hz6.frozen 2
 have y3:=hz6.frozen 3
 have y4:=hz6.frozen 4
 have hlz:=hz6.lt
 clear x0 x1 x2 x3 x4 hb6 hk6 hz6
 go_wp2
 rw[HM2.out]
 exact bodyPost_ret (v:=.tuple #[.agg #[.int .u64 (seq:Int),.string (bs prev),.string (bs RT),.slice ps6 sts.length cp6,.slice pr6 revs.length cr6],.int .i64 0]) (results_ct (p:=8) (u:=9) (ty:=28) Tryz.results29 rfl HFIN.out.1 Tryz.underlying28 rfl (by kernel_rfl) rfl) rfl ⟨_,rfl,HFIN.out.2.1,fun _=>HOW6.out,HFIN.out.2.2⟩
end Go.Proofs.YtcihbnpckicljaaGreatDoor
