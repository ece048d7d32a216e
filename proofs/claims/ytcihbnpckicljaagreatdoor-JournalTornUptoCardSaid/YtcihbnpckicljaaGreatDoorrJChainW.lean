/- codicillaw06.chain: blocks in a row of any revisions, their frames. Conditions: the rows lie in memory, the revisions' texts no longer than 2^39 bytes; the tables read as the text lays them. -/
import Derived.Test.YtcihbnpckicljaaGreatDoorrJIs
import Derived.Test.YtcihbnpckicljaaGreatDoorrJTornP
set_option linter.unusedVariables false
set_option linter.unusedSimpArgs false
namespace Go.Proofs.YtcihbnpckicljaaGreatDoor
open Go Go.RowKit Go.BigFrame
open Go.Lib(hid)
set_option maxRecDepth 100000
def HasStr (S:Nat->Prop) (w:World) (s:List UInt8) (cs:List Value):Prop:=cs=[.string (bs s)]
theorem relStr :Rel HasStr 1 where
 kept:=fun h _ _=>h
 lt:=fun h=>h
 len:=fun h=>by rw[h];rfl
 one:=fun h=>by
  intro u hu
  rw[h]at hu
  obtain rfl:=List.mem_singleton.1 hu
  simp[Value.oneCell']
def HasRow (S:Nat->Prop) (w:World) (r:List DRev) (cs:List Value):Prop:=∃p c,cs=[.slice p r.length c]/\(r.length<=c/\c<=maxLen/\r.length<=1073741824)/\RowIn HasRev 10 S w p r
theorem relRow :Rel HasRow 1 where
 kept:=fun⟨p,c,h,hb,hr⟩ h1 h2=>⟨p,c,h,hb,hr.kept relR h1 h2⟩
 lt:=fun⟨p,c,h,hb,hr⟩=>⟨p,c,h,hb,fun i hi=>by
  obtain⟨g,o,cs,e1,e2,e3⟩:=hr i hi
  exact⟨g,o,cs,e1,⟨⟨e2.1,e2.2.1⟩,e2.2⟩,relR.lt e3⟩⟩
 len:=fun⟨p,c,h,_⟩=>by rw[h];rfl
 one:=fun⟨p,c,h,_⟩=>by
  intro u hu
  rw[h]at hu
  obtain rfl:=List.mem_singleton.1 hu
  simp[Value.oneCell']
def HasBlkX (q:Option Nat) (S:Nat->Prop) (w:World) (b:DBlk) (cs:List Value):Prop:=HasBlk (fun z=>S z/\q≠some z) w b cs
theorem relBX (q:Option Nat):Rel (HasBlkX q) 5 where
 kept:=fun h h1 h2=>HasBlk.kept h (fun b hb=>⟨h1 b hb.1,hb.2⟩) (fun b hb hlt=>h2 b hb.1 hlt)
 lt:=fun h=>HasBlk.kept (relB.lt h) (fun b hb=>⟨⟨hb.1.1,hb.2⟩,hb.1.2⟩) (fun _ _ _=>rfl)
 len:=fun h=>relB.len h
 one:=fun h=>relB.one h
theorem acc_q {q q':Option Nat} {B:Nat} {t:TypeId} {w w':World} {v:Value} {l:List DBlk} (h:Acc (HasBlkX q) B t 5 w v l) (hk:∀z,B<=z->z<w.heap.size->q≠some z->w'.heap[z]?=w.heap[z]?)
 (hv:∀z,v.ownBlock=some z->q≠some z) (hq:∀z,z<w.heap.size->q≠some z->q'≠some z):Acc (HasBlkX q') B t 5 w' v l:=by
 obtain⟨css,h1,h2,h3⟩:=h
 refine⟨css,owns_kept h1 (fun b hb=>hk b (h1.lt b hb).1 (h1.lt b hb).2 (hv b hb)),h2,fun i hi hi'=>?_⟩
 exact HasBlk.kept (relB.lt (h3 i hi hi')) (fun z hz=>⟨hz.1.1,hq z hz.2 hz.1.2⟩) (fun z hz hlt=>hk z hz.1.1.1 hlt hz.1.2)
theorem Acc.keptO {B:Nat} {t:TypeId} {w w':World} {v:Value} {l:List (List UInt8)} (h:Acc HasStr B t 1 w v l) (_hR:Rel HasStr 1) (hk:∀z,v.ownBlock=some z->w'.heap[z]?=w.heap[z]?):Acc HasStr B t 1 w' v l:=by
 obtain⟨css,h1,h2,h3⟩:=h
 exact⟨css,owns_kept h1 hk,h2,h3⟩
def frP (b:DBlk):List UInt8:=framedP (wholeP b).1
def ChainOut (w:World) (L:List DBlk) (e':Ending) (w':World):Prop:=∃p1 c1 p2 c2,e'=.returned (.tuple #[.slice p1 L.length c1,.slice p2 L.length c2])/\L.length<=c1/\RowIn HasBlk 5 (fun b=>w.heap.size<=b) w' p1 L/\HasS (fun b=>w.heap.size<=b) w' p2 (L.map frP)/\Below w.heap.size w w'
theorem chain_fin {w wx:World} {q:Option Nat} {v v2:Value} {L:List DBlk} (h:Acc (HasBlkX q) w.heap.size 28 5 wx v L) (h2:Acc HasStr w.heap.size 9 1 wx v2 (L.map frP)) (hb:Below w.heap.size w wx):ChainOut w L (.returned (.tuple #[v,v2])) wx:=by
 obtain⟨p,c,rfl,h3,h4,h5⟩:=h.cells (relBX q) (S:=fun b=>w.heap.size<=b) (fun b hb=>hb)
 obtain⟨p2,c2,rfl,h6,h7,h8⟩:=h2.cells relStr (S:=fun b=>w.heap.size<=b) (fun b hb=>hb)
 refine⟨p,c,p2,c2,by rw[List.length_map],h3,fun i hi=>?_,fun i hi=>?_,hb⟩
 ·obtain⟨g,cs,e1,e2,e3⟩:=h5 i hi
  exact⟨g,0,cs,e1,e2,HasBlk.kept e3 (fun b hb=>hb.1) (fun _ _ _=>rfl)⟩
 ·obtain⟨g,cs,e1,e2,e3⟩:=h8 i hi
  refine⟨g,0,e1,e2.1,e2.2.1,?_⟩
  have h9:=e2.2.2 0 (by rw[show cs=_ from e3];simp)
  rw[show cs=_ from e3]at h9
  simpa using h9
set_option maxHeartbeats 16000000 in
theorem chain_any (ll:List (List DRev)) (S:Nat->Prop) (p:Option Addr) (c:Nat) (w:World) (hl:RowIn HasRow 1 S w p ll) (hn:ll.length<=1048576) (hk:∀x∈ll,∀r∈x,okR r) (hT:U8T w) (hK:Ks w):
 Calls Tryz.prog 21 #[.slice p ll.length c] w (ChainOut w (chainP ll 0 zero32)):=by
 have HT:=hid hT
 have HK:=hid hK
 have HL:=hid hl
 have HOK:=hid hk
 obtain⟨n,hnn⟩:∃n,n=ll.length:=⟨_,rfl⟩
 rw[←hnn]at hn⊢
 have HN:=hid hnn
 obtain⟨L,hL⟩:∃L,L=chainP ll 0 zero32:=⟨_,rfl⟩
 rw[←hL]
 have HLL:=hid hL
 clear hT hK hl hk hnn hL
 go_enter Tryz.func21,Tryz.ntmps21
 go_wp2_with fail
 go_at_call 22
 refine(first6_any w).mono ?_
 rintro e' w0 ⟨rfl,hb0⟩
 have HB0:=hid hb0
 clear hb0
 go_wp2
 go_loopw [4,5,6,18] (fun v4 v5 v6 v18 wr=>∃(j:Nat) (prev:List UInt8) (l1:List DBlk),v18=.int .i64 (j:Int)/\v6=.string (bs prev)/\prev.length<=32/\j<=n/\l1.length<=j/\L=l1++chainP (ll.drop j) l1.length prev/\Acc (HasBlkX v5.ownBlock) w.heap.size 28 5 wr v4 l1/\Acc HasStr w.heap.size 9 1 wr v5 (l1.map frP)/\(∀z,v4.ownBlock=some z->v5.ownBlock≠some z)/\Below w.heap.size w wr) (fun _ _ _ b _=>n-(intOf b).toNat)
 case atStart=>exact⟨0,zero32,[],rfl,rfl,by simp[zero32],Nat.zero_le _,Nat.le_refl _,by rw[List.drop_zero];exact HLL.out,Acc.nil _ _ _,Acc.nil _ _ _,fun z h=>(by cases h),HB0.out⟩
 case round=>
 obtain⟨j,prev,l1,rfl,rfl,hpl,hj,hlj,hLe,ha4,ha5,hne,hbw⟩:=hrel
 obtain⟨q4,d4,rfl⟩:=ha4.slice
 obtain⟨q5,d5,hv5⟩:=ha5.slice
 rw[List.length_map]at hv5
 subst hv5
 obtain⟨k,hkl⟩:∃k,k=l1.length:=⟨_,rfl⟩
 rw[←hkl]at ha4 ha5 hne hlj hLe⊢
 have HKL:=hid hkl
 have hszw:=hbw.size
 have hw4:∀z,(Value.slice q4 k d4).ownBlock=some z->w.heap.size<=z/\z<wr.heap.size:=ha4.lt
 have hw5:∀z,(Value.slice q5 k d5).ownBlock=some z->w.heap.size<=z/\z<wr.heap.size:=ha5.lt
 have HA4:=hid ha4
 have HA5:=hid ha5
 have HNE:=hid hne
 have HW4:=hid hw4
 have HW5:=hid hw5
 have HBW:=hid hbw
 have HLE:=hid hLe
 clear ha4 ha5 hne hw4 hw5 hLe hkl
 by_cases hlt:j<n
 case neg=>
  obtain rfl:j=n:=by omega
  have hfin:ChainOut w L (.returned (.tuple #[.slice q4 k d4,.slice q5 k d5])) wr:=by
   have h1:=HLE.out
   rw[List.drop_eq_nil_of_le (by rw[←HN.out];omega)]at h1
   rw[show L=l1 by rw[h1];simp[chainP]]
   exact chain_fin HA4.out HA5.out HBW.out
  have HF:=hid hfin
  clear hfin hbw
  go_wp2
  go_ret2
  exact HF.out
 have hjl:j<ll.length:=by rw[←HN.out];exact hlt
 obtain⟨g,o,cs,hp,hcells,hrow⟩:=(HL.out.ext relRow hbw) j hjl
 have hokr:=HOK.out _ (List.getElem_mem hjl)
 have hLe:=HLE.out
 rw[List.drop_eq_getElem_cons hjl,chainP]at hLe
 generalize ll[j]=r at hrow hokr hLe
 obtain⟨pr,cr,rfl,hrb,hrow⟩:=hrow
 subst hp
 have e0:=hcells.2.2 0 (by simp)
 simp only[Nat.add_zero,List.getElem?_cons_zero,Nat.mul_one]at e0
 have hgr:=hcells.2.1
 have HRW:=hid hrow
 have HOR:=hid hokr
 obtain⟨M,hM⟩:∃M,M=makeP (k+1) prev [[115]] r:=⟨_,rfl⟩
 rw[←hM]at hLe
 have HM0:Hid (M.2=0->M.1.revs=r/\(wholeP M.1).2=0):=hid (fun h=>by
  rw[hM]at h⊢
  obtain⟨h1,h2⟩:=makeP_ok h
  exact⟨by rw[h1],h2⟩)
 have HMK:Hid (∀(W:World) (gs:Nat),Below wr.heap.size wr W->IsBlk W gs #[.string (bs [115])] 9->Calls Tryz.prog 29 #[.int .u64 ((k+1:Nat):Int),.string (bs prev),.slice (some ⟨gs,0,none⟩) 1 1,.slice pr r.length cr] W (BlkIs W M.1 M.2)):=hid (fun W gs hW hgs=>by
  rw[hM]
  refine(make_p (k+1) prev [[115]] r (fun _=>True) (some ⟨gs,0,none⟩) pr 1 cr W ?_ hokr (U8T_ext (U8T_ext HT.out HBW.out) hW) ((HK.out.ext HBW.out).ext hW)).mono (fun _ _ h=>h.is)
  exact⟨_,_,_,_,rfl,⟨by show k+1<_;omega,by show prev.length<=_;omega,(show zero32.length<=1073741824 by decide),(show([[115]]:List (List UInt8)).length<=1073741824 by decide),hrb.2.2,(show([[115]]:List (List UInt8)).length<=1 by decide),(show 1<=maxLen by unfold maxLen;omega),hrb.1,hrb.2.1,fun s hs=>by obtain rfl:=List.mem_singleton.1 hs;decide⟩,
   fun i hi=>⟨gs,0,rfl,trivial,hgs.lt,by obtain rfl:i=0:=(by simp at hi;omega);exact hgs.cell rfl⟩,(hrow.ext relR hW).kept relR (fun _ _=>trivial) (fun _ _ _=>rfl)⟩)
 have HLE2:=hid hLe
 clear hcells hrow hokr hLe hbw hM
 obtain⟨⟨mseq,mprev,mroot,msts,mrevs⟩,mw⟩:=M
 have hkI:IntKind.u64.wrap (k:Int)=(k:Int):=by
  simp only[IntKind.wrap,IntKind.bits,IntKind.signed]
  first|omega|(simp;omega)
 have hkI2:IntKind.u64.wrap ((k:Int)+1)=((k+1:Nat):Int):=by
  simp only[IntKind.wrap,IntKind.bits,IntKind.signed]
  first|omega|(simp;omega)
 go_wp2_with fail
 go_at_call 29
 refine(HMK.out _ wr.heap.size ((Below.refl _ _).alloc (Nat.le_refl _) _) (IsBlk.new _ _ _)).mono ?_
 rintro e' w2 ⟨ps2,cp2,pr2,cr2,rfl,hk2,hb2⟩
 simp only at hk2
 have hb12:=below_ext ((Below.refl wr.heap.size wr).alloc (Nat.le_refl _) _) hb2
 have hk2':=HasBlk.kept (S':=fun x=>wr.heap.size<=x) hk2 (fun x hx=>by have h6:(World.alloc wr _).heap.size<=x:=hx;simp at h6;omega) (fun _ _ _=>rfl)
 go_upto_region 8 with(fail)
 generalize hW3:World.alloc w2 _=w3
 have hb23:Below w2.heap.size w2 w3:=by rw[←hW3];exact(Below.refl _ _).alloc (Nat.le_refl _) _
 have hd3:IsBlk w3 w2.heap.size #[.int .u64 (mseq:Int),.string (bs mprev),.string (bs mroot),.slice ps2 msts.length cp2,.slice pr2 mrevs.length cr2] 28:=by rw[←hW3];exact IsBlk.new _ _ _
 obtain⟨b9,hb9⟩:∃b,b=w2.heap.size:=⟨_,rfl⟩
 rw[←hb9]at hd3
 rw[←hb9]
 have HB3:=hid (below_ext hb12 hb23)
 have HK3:=hid (hk2'.ext hb23)
 have HD3:=hid hd3
 have hlt3:=hd3.lt
 clear hW3 hb12 hb23 hk2 hk2' hb2 hb9 e0 hgr hkI hkI2
 by_cases hm:mw=0
 case neg=>
  have hqb:(mw !=0)=true:=by rw[bne_iff_ne];exact hm
  have hL3:L=l1++chainP (ll.drop (j+1)) l1.length prev:=by
   have h1:=HLE2.out
   rw[if_pos hm,HKL.out]at h1
   exact h1
  have HL3:=hid hL3
  have HX4:=hid (HA4.out.kept (relBX _) (fun z hz hlt=>HB3.out.block z hlt))
  have HX5:=hid (HA5.out.kept relStr (fun z hz hlt=>HB3.out.block z hlt))
  have HBX:=hid (HBW.out.trans (HB3.out.mono hszw))
  clear hm hd3 hlt3 hL3
  go_wp2
  go_roundw
  case rel=>exact⟨j+1,prev,l1,by go_num,rfl,hpl,hlt,by rw[←HKL.out];omega,HL3.out,HX4.out,HX5.out,HNE.out,HBX.out⟩
  case measure=>simp[intOf];omega
 subst hm
 obtain⟨hmr,hwh⟩:=HM0.out rfl
 try simp only at hmr
 have hokm:∀r∈mrevs,okR r:=by rw[hmr];exact HOR.out
 have HTW:=hid (U8T_ext HT.out HBW.out)
 have HKW:=hid (HK.out.ext HBW.out)
 obtain⟨FR,hFR⟩:∃F,F=frP ⟨mseq,mprev,mroot,msts,mrevs⟩:=⟨_,rfl⟩
 have HFR:Hid (Calls Tryz.prog 36 #[.agg #[.int .u64 (mseq:Int),.string (bs mprev),.string (bs mroot),.slice ps2 msts.length cp2,.slice pr2 mrevs.length cr2]] w3 fun e' w'=>e'=.returned (.tuple #[.string (bs FR),.int .i64 0])/\Below w3.heap.size w3 w'):=hid (by
  have h2:=frame_p ⟨mseq,mprev,mroot,msts,mrevs⟩ _ _ w3 HK3.out hokm (U8T_ext HTW.out HB3.out) (HKW.out.ext HB3.out)
  have h3:frameP ⟨mseq,mprev,mroot,msts,mrevs⟩=(FR,0):=by unfold frameP;rw[if_neg (by simp[hwh]),hFR];rfl
  rw[h3]at h2
  exact h2)
 have HFE:=hid hFR
 clear hFR
 have hsh:=short_is hwh
 have hoh:=short_okH HK3.out
 have HSR:Hid (∀W,Below w3.heap.size w3 W->Calls Tryz.prog 23 #[.agg #[.int .u64 (mseq:Int),.string (bs mprev),.string (bs mroot),.slice ps2 msts.length cp2,.slice pr2 mrevs.length cr2]] W (HeadOut W (shortP ⟨mseq,mprev,mroot,msts,mrevs⟩))):=hid (fun W h=>short_p _ _ _ W (HK3.out.ext h) hokm (U8T_ext (U8T_ext HTW.out HB3.out) h) ((HKW.out.ext HB3.out).ext h))
 obtain⟨G,hG⟩:∃G,G=digP (shortP ⟨mseq,mprev,mroot,msts,mrevs⟩).1:=⟨_,rfl⟩
 have hGl:G.length=32:=by rw[hG];exact shaL_length _
 have HDG:Hid (∀W,Below w3.heap.size w3 W->Calls Tryz.prog 19 #[.agg (headCs (shortP ⟨mseq,mprev,mroot,msts,mrevs⟩).1).toArray] W fun e' w'=>e'=.returned (.string (bs G))/\Below W.heap.size W w'):=hid (fun W hb=>by rw[hG];exact digest_any _ W hoh (U8T_ext (U8T_ext HTW.out HB3.out) hb) ((HKW.out.ext HB3.out).ext hb))
 have HL3:Hid (L=l1++((⟨mseq,mprev,mroot,msts,mrevs⟩:DBlk)::chainP (ll.drop (j+1)) (k+1) G)):=hid (by
  have h1:=HLE2.out
  rw[if_neg (by simp)]at h1
  rw[h1,hG])
 rw[hsh]at HSR HDG
 generalize stsT msts=T2 at HSR HDG
 clear hokm hwh hsh hoh hmr hG HM0 HLE2 HLE
 have x0:=hd3.cell (i:=0) rfl
 have x1:=hd3.cell (i:=1) rfl
 have x2:=hd3.cell (i:=2) rfl
 have x3:=hd3.cell (i:=3) rfl
 have x4:=hd3.cell (i:=4) rfl
 clear hd3
 go_wp2_with fail
 go_at_call 36
 refine HFR.out.mono ?_
 rintro e' w4 ⟨rfl,hb4⟩
 have hd4:=HD3.out.ext hb4
 have HD4:=hid hd4
 have HB4:=hid hb4
 have hlt4:=hd4.lt
 clear x0 x1 x2 x3 x4 hb4 hlt3
 have x0:=hd4.cell (i:=0) rfl
 have x1:=hd4.cell (i:=1) rfl
 have x2:=hd4.cell (i:=2) rfl
 have x3:=hd4.cell (i:=3) rfl
 have x4:=hd4.cell (i:=4) rfl
 clear hd4
 go_wp2_with fail
 go_at_call 23
 refine(HSR.out _ HB4.out).mono ?_
 rintro e' w5 ⟨rfl,hb5⟩
 have HB5:=hid (below_ext HB4.out hb5)
 have HD5:=hid (HD4.out.ext hb5)
 clear x0 x1 x2 x3 x4 hb5 hlt4
 go_upto_region 11 with(fail)
 generalize hW6:World.alloc w5 _=w6
 have hb6:Below w5.heap.size w5 w6:=by rw[←hW6];exact(Below.refl _ _).alloc (Nat.le_refl _) _
 have hd6:IsBlk w6 w5.heap.size #[.int .u64 (mseq:Int),.string (bs mprev),.string (bs mroot),.int .u64 (mrevs.length:Int),.string (bs T2)] 24:=by rw[←hW6];exact IsBlk.new _ _ _
 obtain⟨b13,hb13⟩:∃b,b=w5.heap.size:=⟨_,rfl⟩
 rw[←hb13]at hd6
 rw[←hb13]
 have HB6:=hid (below_ext HB5.out hb6)
 have HD6:=hid (HD5.out.ext hb6)
 have hlt6:=hd6.lt
 have x0:=hd6.cell (i:=0) rfl
 have x1:=hd6.cell (i:=1) rfl
 have x2:=hd6.cell (i:=2) rfl
 have x3:=hd6.cell (i:=3) rfl
 have x4:=hd6.cell (i:=4) rfl
 clear hW6 hb6 hd6 hb13
 go_wp2_with fail
 go_at_call 19
 refine(HDG.out _ HB6.out).mono ?_
 rintro e' w7 ⟨rfl,hb7⟩
 have HB7:=hid (below_ext HB6.out hb7)
 have hd7:=HD6.out.ext hb7
 have hlt7:=hd7.lt
 clear x0 x1 x2 x3 x4 hb7 hlt6
 have x0:=hd7.cell (i:=0) rfl
 have x1:=hd7.cell (i:=1) rfl
 have x2:=hd7.cell (i:=2) rfl
 have x3:=hd7.cell (i:=3) rfl
 have x4:=hd7.cell (i:=4) rfl
 clear hd7
 have hb37:=below_ext HB3.out HB7.out
 have hsz37:=hb37.size
 have HB37:=hid hb37
 have hsw7:w.heap.size<=w7.heap.size:=by omega
 have hA4:Acc (HasBlkX (Value.slice q5 k d5).ownBlock) w.heap.size 28 5 (w7.alloc (.cells #[.int .u64 (mseq:Int),.string (bs mprev),.string (bs mroot),.slice ps2 msts.length cp2,.slice pr2 mrevs.length cr2] 28)) (.slice q4 k d4) l1:=
  (HA4.out.kept (relBX _) (fun z hz hlt=>hb37.block z hlt)).kept (relBX _) (fun z hz hlt=>((Below.refl w7.heap.size w7).alloc (Nat.le_refl _) _).block z hlt)
 have hY:HasBlkX (Value.slice q5 k d5).ownBlock (fun b=>w.heap.size<=b/\(Value.slice q4 k d4).ownBlock≠some b) (w7.alloc (.cells #[.int .u64 (mseq:Int),.string (bs mprev),.string (bs mroot),.slice ps2 msts.length cp2,.slice pr2 mrevs.length cr2] 28)) ⟨mseq,mprev,mroot,msts,mrevs⟩ [.int .u64 (mseq:Int),.string (bs mprev),.string (bs mroot),.slice ps2 msts.length cp2,.slice pr2 mrevs.length cr2]:=
  HasBlk.kept ((HK3.out.ext HB7.out).ext ((Below.refl _ _).alloc (Nat.le_refl _) _)) (fun z hz=>⟨⟨by have h6:wr.heap.size<=z:=hz;omega,fun e=>by have h6:wr.heap.size<=z:=hz;have:=(HW4.out z e).2;omega⟩,fun e=>by have h6:wr.heap.size<=z:=hz;have:=(HW5.out z e).2;omega⟩) (fun _ _ _=>rfl)
 have HA47:=hid hA4
 have HY:=hid hY
 clear hA4 hY hb37
 go_wp2_with(at_builtin;refine push_acc (relBX (Value.slice q5 k d5).ownBlock) w.heap.size rfl _ _ 32 28 (.agg #[.int .u64 0,.string ⟨#[]⟩,.string ⟨#[]⟩,.slice none 0 0,.slice none 0 0]) 88 rfl Tryz.underlying32 (by kernel_rfl) rfl (by decide) _ l1 HA47.out w7.heap.size [.int .u64 (mseq:Int),.string (bs mprev),.string (bs mroot),.slice ps2 msts.length cp2,.slice pr2 mrevs.length cr2] ⟨mseq,mprev,mroot,msts,mrevs⟩ (IsBlk.new _ _ _) HY.out rfl rfl (by simp;omega) (by rw[←HKL.out];omega) (by rw[←HKL.out];unfold maxLen;omega) ?_)
 intro g9 cap9 w9 hacc9 hg9 hBg9 hgo9 hglt9
 rw[←HKL.out]at hacc9
 rw[←HKL.out]
 have hs79:w7.heap.size<w9.heap.size:=by have:=hg9.size;simp at this;omega
 have hother9:∀z,z<w7.heap.size->(Value.slice q4 k d4).ownBlock≠some z->w9.heap[z]?=w7.heap[z]?:=fun z hz hne=>(hg9.block z (by simp;omega) (fun e=>hne e.symm)).trans (((Below.refl w7.heap.size w7).alloc (Nat.le_refl _) _).block z hz)
 have HB9:=hid (((HBW.out.trans (HB37.out.mono hszw)).alloc hsw7 _).grown hg9 (by simp;omega) (fun z hz=>(HW4.out z hz).1))
 obtain⟨fs,hfs⟩:∃fs,fs=l1.map frP:=⟨_,rfl⟩
 have hfl:k=fs.length:=by rw[hfs,List.length_map];exact HKL.out
 have HA5':=HA5
 rw[←hfs]at HA5'
 have HFS:=hid hfs
 have HFLE:=hid hfl
 clear hfs hfl
 have hA5:Acc HasStr w.heap.size 9 1 (w9.alloc (.cells #[.string (bs FR)] 9)) (.slice q5 k d5) fs:=
  (HA5'.out.keptO relStr (fun z hz=>by
    have h6:=(HW5.out z hz).2
    rw[hother9 z (by omega) (fun e=>HNE.out z e hz)]
    exact HB37.out.block z h6)).kept relStr (fun z hz hlt=>((Below.refl w9.heap.size w9).alloc (Nat.le_refl _) _).block z hlt)
 have hge9:w.heap.size<=w9.heap.size:=by omega
 have HA59:=hid hA5
 have HO9:=hid hother9
 have HAC9:=hid hacc9
 have HGO9:=hid hgo9
 have HS79:=hid hs79
 clear hA5 hother9 hacc9 hg9 hgo9 x0 x1 x2 x3 x4 hlt7
 go_wp2_with(at_builtin;refine push_acc relStr w.heap.size rfl _ _ 25 9 (.string ⟨#[]⟩) 16 rfl Tryz.underlying25 (by kernel_rfl) rfl (by decide) _ fs HA59.out w9.heap.size [.string (bs FR)] FR (IsBlk.new _ _ _) rfl rfl rfl (by simp;omega) (by rw[←HFLE.out];omega) (by rw[←HFLE.out];unfold maxLen;omega) ?_)
 intro g11 cap11 w11 hacc11 hg11 hBg11 hgo11 hglt11
 rw[←HFLE.out]at hacc11
 rw[←HFLE.out]
 have hs911:w9.heap.size<w11.heap.size:=by have:=hg11.size;simp at this;omega
 have hother11:∀z,z<w9.heap.size->(Value.slice q5 k d5).ownBlock≠some z->w11.heap[z]?=w9.heap[z]?:=fun z hz hne=>(hg11.block z (by simp;omega) (fun e=>hne e.symm)).trans (((Below.refl w9.heap.size w9).alloc (Nat.le_refl _) _).block z hz)
 have HB11:=hid ((HB9.out.alloc hge9 _).grown hg11 (by simp;omega) (fun z hz=>(HW5.out z hz).1))
 have hlt45:∀z,(Value.slice q4 k d4).ownBlock=some z->z<w7.heap.size:=fun z hz=>by have:=(HW4.out z hz).2;omega
 have hlt55:∀z,(Value.slice q5 k d5).ownBlock=some z->z<w7.heap.size:=fun z hz=>by have:=(HW5.out z hz).2;omega
 have hn9:(Value.slice q5 k d5).ownBlock≠some g9:=fun e=>by
  rcases HGO9.out with h|h
  ·exact HNE.out g9 h e
  ·have:=hlt55 g9 e;(try simp at h);omega
 have hq11:∀z,z<w9.heap.size->(Value.slice q5 k d5).ownBlock≠some z->(some g11:Option Nat)≠some z:=fun z hz hne e=>by
  obtain rfl:=Option.some.inj e
  rcases hgo11 with h|h
  ·exact hne h
  ·(try simp at h);omega
 have hX4:Acc (HasBlkX (Value.slice (some ⟨g11,0,none⟩) (k+1) cap11).ownBlock) w.heap.size 28 5 w11 (.slice (some ⟨g9,0,none⟩) (k+1) cap9) (l1++[⟨mseq,mprev,mroot,msts,mrevs⟩]):=
  acc_q HAC9.out (fun z hz hlt hne=>hother11 z hlt hne) (fun z hz=>by obtain rfl:=Option.some.inj hz;exact hn9) hq11
 have hX5:Acc HasStr w.heap.size 9 1 w11 (.slice (some ⟨g11,0,none⟩) (k+1) cap11) ((l1++[(⟨mseq,mprev,mroot,msts,mrevs⟩:DBlk)]).map frP):=by
  rw[List.map_append,List.map_cons,List.map_nil,←HFE.out,←HFS.out]
  exact hacc11
 have hd:∀z,(Value.slice (some ⟨g9,0,none⟩) (k+1) cap9).ownBlock=some z->(Value.slice (some ⟨g11,0,none⟩) (k+1) cap11).ownBlock≠some z:=fun z hz=>by
  obtain rfl:=Option.some.inj hz
  exact hq11 g9 hglt9 hn9
 have hll:(l1++[(⟨mseq,mprev,mroot,msts,mrevs⟩:DBlk)]).length=k+1:=by rw[List.length_append,←HKL.out];rfl
 have hLf:L=(l1++[(⟨mseq,mprev,mroot,msts,mrevs⟩:DBlk)])++chainP (ll.drop (j+1)) (l1++[(⟨mseq,mprev,mroot,msts,mrevs⟩:DBlk)]).length G:=by
  rw[hll,HL3.out,List.append_assoc]
  rfl
 have HX4:=hid hX4
 have HX5:=hid hX5
 have HD:=hid hd
 have HLF:=hid hLf
 have HLLE:=hid hll
 clear hX4 hX5 hd hll hLf hacc11 hg11 hgo11 hother11 hlt45 hlt55 hn9 hq11
 go_wp2
 go_roundw
 case rel=>exact⟨j+1,G,l1++[(⟨mseq,mprev,mroot,msts,mrevs⟩:DBlk)],by go_num,rfl,by omega,hlt,by rw[HLLE.out];omega,HLF.out,HX4.out,HX5.out,HD.out,HB11.out⟩
 case measure=>simp[intOf];omega
end Go.Proofs.YtcihbnpckicljaaGreatDoor
