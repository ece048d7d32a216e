/- The document's text of a block: raw, Check, Text. Conditions: a block lies in memory; its revisions' texts no longer than 2^39 bytes; utf8's tables read as the text lays them. -/
import Derived.Test.YtcihbnpckicljaaGreatDoorrJWhole
set_option linter.unusedVariables false
set_option linter.unusedSimpArgs false
namespace Go.Proofs.YtcihbnpckicljaaGreatDoor
open Go Go.RowKit Go.BigFrame
open Go.Lib(hid)
set_option maxRecDepth 100000
theorem HasBlk.ext {S:Nat->Prop} {w w':World} {b:DBlk} {cs:List Value} (hb:HasBlk S w b cs) (h:Below w.heap.size w w'):HasBlk S w' b cs:=by
 obtain⟨ps,cp,pr,cr,rfl,hbd,hS,hR⟩:=hb
 exact⟨ps,cp,pr,cr,rfl,hbd,hS.ext h,hR.ext relR h⟩
set_option maxHeartbeats 8000000 in
theorem raw_any (b:DBlk) (S:Nat->Prop) (cs:List Value) (w:World) (hb:HasBlk S w b cs) (hk:∀r∈b.revs,okR r) (hT:U8T w) (hpo:(partsP b).2=0):
 Calls Tryz.prog 75 #[.agg cs.toArray] w (TextOut w (wrP (blkV b (textsP b.revs).1))):=by
 obtain⟨Q,hQ⟩:∃Q,Q=wrP (blkV b (textsP b.revs).1):=⟨_,rfl⟩
 rw[←hQ]
 obtain⟨_,_,_,_,hnr,_,ht0,_,hll,hl24,_,_⟩:=parts_full hpo
 have HBL:Hid ((textV (blkV b (textsP b.revs).1)).length<=200000):=hid (blk_len hpo)
 obtain⟨seq,prev,root,sts,revs⟩:=b
 obtain⟨ps,cp,pr,cr,rfl,hbd,hS,hR⟩:=hb
 have hp1:seq<18446744073709551616:=hbd.1
 have hp2:prev.length<=1073741824:=hbd.2.1
 have hp3:root.length<=1073741824:=hbd.2.2.1
 have hp4:sts.length<=1073741824:=hbd.2.2.2.1
 have HLS:Hid (∀s∈sts,s.length<=1073741824):=hid hbd.2.2.2.2.2.2.2.2.2
 have HS:=hid hS
 have HT:=hid hT
 obtain⟨l,hl⟩:∃l,l=(textsP revs).1:=⟨_,rfl⟩
 have hnr':revs.length<=64:=hnr
 have hll':l.length=revs.length:=by rw[hl];exact hll
 have HL:Hid (∀s∈l,s.length<=1024):=hid (by rw[hl];exact hl24)
 obtain⟨n,hnl⟩:∃n,n=l.length:=⟨_,rfl⟩
 have HTX:Hid (∀w',Below w.heap.size w w'->Calls Tryz.prog 73 #[.slice pr revs.length cr] w' fun e' w2=>∃p c,e'=.returned (.tuple #[.slice p n c,.int .i64 0])/\(n<=c/\c<=maxLen)/\HasS (fun x=>w'.heap.size<=x) w2 p l/\Below w'.heap.size w' w2):=hid (fun w' h=>by
  have h1:=texts_any revs S pr cr w' (hR.ext relR h) (by omega) hk (U8T_ext hT h)
  rw[show textsP revs=(l,0)from by
   rw[hl]
   exact Prod.ext rfl ht0]at h1
  rw[hnl]
  exact h1)
 have HQ:Hid (Q=wrP (blkV ⟨seq,prev,root,sts,revs⟩ l)):=hid (by rw[hl];exact hQ)
 have HBL2:Hid ((textV (blkV ⟨seq,prev,root,sts,revs⟩ l)).length<=200000):=hid (by rw[hl];exact HBL.out)
 have hn:n<=64:=by omega
 have HN:=hid hnl
 clear hS hR hk hT hbd hQ hpo ht0 hll hl24 hnr hnr' hll' hl HBL hnl
 show Calls Tryz.prog 75 #[.agg #[.int .u64 (seq:Int),.string (bs prev),.string (bs root),.slice ps sts.length cp,.slice pr revs.length cr]] w _
 go_enter Tryz.func75,Tryz.ntmps75
 go_upto_region 1 with(fail)
 generalize hW0:World.alloc w _=W0
 have hb0:Below w.heap.size w W0:=by rw[←hW0];exact(Below.refl _ _).alloc (Nat.le_refl _) _
 have hd1:IsBlk W0 w.heap.size #[.int .u64 (seq:Int),.string (bs prev),.string (bs root),.slice ps sts.length cp,.slice pr revs.length cr] 28:=by rw[←hW0];exact IsBlk.new _ _ _
 have HB0:=hid hb0
 have HD:=hid hd1
 have hlt0:=hd1.lt
 have x0:=hd1.cell (i:=0) rfl
 have x1:=hd1.cell (i:=1) rfl
 have x2:=hd1.cell (i:=2) rfl
 have x3:=hd1.cell (i:=3) rfl
 have x4:=hd1.cell (i:=4) rfl
 clear hW0 hd1 hb0
 go_wp2_with fail
 go_at_call 73
 refine(HTX.out _ HB0.out).mono ?_
 rintro e' w1 ⟨p1,c1,rfl,⟨hc1,hc2⟩,hs1,hb1⟩
 have HS1:=hid hs1
 have HB1:=hid (below_ext HB0.out hb1)
 have HD1:=hid (HD.out.ext hb1)
 clear x0 x1 x2 x3 x4 hb1 hs1 HD
 go_wp2
 rename World=>wa
 go_loopw [6,17] (fun a b wr=>∃j:Nat,b=.int .i64 (j:Int)/\j<=n/\Acc HasVal wa.heap.size 52 6 wr a ((l.take j).map vBlob)/\Below wa.heap.size wa wr) (fun _ b _=>n-(intOf b).toNat)
 case atStart=>exact⟨0,rfl,Nat.zero_le _,Acc.nil _ _ _,Below.refl _ _⟩
 case round=>
 obtain⟨j,rfl,hj,hacc,hbw⟩:=hrel
 obtain⟨q1,d1,hav⟩:=hacc.slice
 have hjl:((l.take j).map vBlob).length=j:=by rw[List.length_map,List.length_take];have:=HN.out;omega
 rw[hjl]at hav
 subst hav
 generalize hvs:(l.take j).map vBlob=vs at hacc hjl
 have HVS:=hid hvs
 clear hvs
 have HAC:=hid hacc
 have HBW:=hid hbw
 have HJL:=hid hjl
 have hszw:=hbw.size
 have hown:∀z,(Value.slice q1 j d1).ownBlock=some z->wa.heap.size<=z/\z<wr.heap.size:=hacc.lt
 have HOW:=hid hown
 by_cases hlt:j<n
 ·have hltl:j<l.length:=by rw[←HN.out];exact hlt
  obtain⟨g,o,rfl,_,hgl,hcell⟩:=(HS1.out.ext hbw) j hltl
  have hx:=HL.out _ (List.getElem_mem hltl)
  generalize hxe:l[j]=x at hcell hx
  have HX:=hid hxe
  clear hacc hbw hjl hown hxe
  go_wp2_with fail
  go_at_call 59
  refine(codicilref06_blob x _).mono ?_
  rintro e' w1 ⟨rfl,hb1⟩
  have hz1:=hb1.size
  have hbr1:=below_ext HBW.out hb1
  have hb12:Below w1.heap.size w1 (w1.alloc (.cells #[.int .u8 4,.bool false,.int .i64 0,.string (bs x),.slice none 0 0,.slice none 0 0] 52)):=(Below.refl _ _).alloc (Nat.le_refl _) _
  have hbr2:=below_ext hb1 hb12
  have HA2:=hid (HAC.out.kept relV (fun z hz hlt=>hbr2.block z hlt))
  have HB2:=hid (below_ext HBW.out hbr2)
  have hhas:=blob_has (fun z=>wa.heap.size<=z/\(Value.slice q1 j d1).ownBlock≠some z) (w1.alloc (.cells #[.int .u8 4,.bool false,.int .i64 0,.string (bs x),.slice none 0 0,.slice none 0 0] 52)) (s:=x) (by omega)
  have HHAS:=hid hhas
  clear hb1 hbr1 hb12 hbr2 hhas hcell
  go_wp2_with(at_builtin;refine push_acc relV wa.heap.size rfl _ _ 49 52 (.agg #[.int .u8 0,.bool false,.int .i64 0,.string ⟨#[]⟩,.slice none 0 0,.slice none 0 0]) 80 rfl Tryz.underlying49 (by kernel_rfl) rfl (by decide) _ vs HA2.out w1.heap.size [.int .u8 4,.bool false,.int .i64 0,.string (bs x),.slice none 0 0,.slice none 0 0] (vBlob x) (IsBlk.new _ _ _) HHAS.out rfl rfl (by simp;omega) (by rw[HJL.out];omega) (by rw[HJL.out];unfold maxLen;omega) ?_)
  intro g1 cap w3 hacc3 hg3 hBg hgo hglt
  rw[HJL.out]at hacc3
  rw[HJL.out]
  have htk:vs++[vBlob x]=(l.take (j+1)).map vBlob:=by
   rw[←HVS.out]
   rw[List.take_add_one,List.map_append,List.getElem?_eq_getElem hltl,HX.out]
   rfl
  rw[htk]at hacc3
  have hb3:Below wa.heap.size wa w3:=HB2.out.grown hg3 (by have:=HB2.out.size;omega) (fun z hz=>(HOW.out z hz).1)
  have HA3:=hid hacc3
  have HB3:=hid hb3
  clear hacc3 hg3 hb3 htk
  go_wp2
  go_roundw
  case rel=>exact⟨j+1,by go_num,hlt,HA3.out,HB3.out⟩
  case measure=>simp[intOf];omega
 obtain rfl:j=n:=by omega
 have hall:vs=l.map vBlob:=by rw[←HVS.out,HN.out,List.take_length]
 rw[hall]at hacc
 have hlm:(l.map vBlob).length=l.length:=List.length_map _
 have hvB:HasVal (fun b=>wa.heap.size<=b) wr (vList (l.map vBlob)) (cList q1 j d1):=by
  have h5:=acc_list (S:=fun b=>wa.heap.size<=b) (p:=q1) (c:=d1) (vs:=l.map vBlob) (by rw[hlm,←HN.out];exact hacc) (fun b hb=>hb) (by rw[hlm,←HN.out];omega)
  rw[hlm,←HN.out]at h5
  exact h5
 have HVB:=hid hvB
 have HBR:=hid (below_ext HB1.out hbw)
 have hd1:=HD1.out.ext hbw
 have hltr:=hd1.lt
 have x0:=hd1.cell (i:=0) rfl
 have x1:=hd1.cell (i:=1) rfl
 have x2:=hd1.cell (i:=2) rfl
 have x3:=hd1.cell (i:=3) rfl
 have x4:=hd1.cell (i:=4) rfl
 clear hd1 hacc hbw hjl hown hall hlm hvB HAC HOW HBW HVS HJL HB1 HD1
 go_upto_region 8 with(fail)
 refine mixB_start [] (Cls wr) (by kernel_rfl) (Cls.of ((Below.refl _ _).drew)) (fun hCw=>?_)
 refine mixB_flt (by kernel_rfl) [0,1,3,4,6,7,9,10,12] 12 _ _ hCw (by kernel_rfl) ?_
 simp only[opsAt,zo1,zo2,zo3,zo4,zo5]
 unfold Cls
 repeat(go_big_quiet_step (fail))
 refine wpQuiet_nil ?_
 (try rw[←Cls_def])
 refine mixB_ch (i:=2) (fuel:=11) (by kernel_rfl) (by kernel_rfl) ?_
 simp only[opsAt,zo1,zo2,zo3,zo4,zo5]
 go_wp2_with(go_at_call 58;refine(codicilref06_whole seq _ hp1).mono ?_;rintro e' w3 ⟨rfl,hb3⟩)
 refine ThenB.mk (hCw.trans hb3) (fun hCw=>?_)
 refine mixB_ch (i:=5) (fuel:=10) (by kernel_rfl) (by kernel_rfl) ?_
 simp only[opsAt,zo1,zo2,zo3,zo4,zo5]
 go_wp2_with(go_at_call 59;refine(codicilref06_blob prev _).mono ?_;rintro e' w4 ⟨rfl,hb4⟩)
 refine ThenB.mk (hCw.trans hb4) (fun hCw=>?_)
 refine mixB_ch (i:=8) (fuel:=9) (by kernel_rfl) (by kernel_rfl) ?_
 simp only[opsAt,zo1,zo2,zo3,zo4,zo5]
 go_wp2_with(go_at_call 59;refine(codicilref06_blob root _).mono ?_;rintro e' w5 ⟨rfl,hb5⟩)
 refine ThenB.mk (hCw.trans hb5) (fun hCw=>?_)
 refine mixB_ch (i:=11) (fuel:=8) (by kernel_rfl) (by kernel_rfl) ?_
 simp only[opsAt,zo1,zo2,zo3,zo4,zo5]
 go_wp2_with(go_at_call 76;refine(statements_any sts S ps cp _ (HS.out.ext (below_ext HBR.out hCw.below)) (by omega) HLS.out).mono ?_;rintro e' w6 ⟨pA,cA,rfl,hA,hb6⟩)
 refine ThenB.mk (hCw.trans hb6) (fun hCw=>?_)
 refine mixB_ch (i:=13) (fuel:=7) (by kernel_rfl) (by kernel_rfl) ?_
 simp only[opsAt,zo1,zo2,zo3,zo4,zo5]
 go_wp2_with(go_at_call 57;refine(codicilref06_list q1 j d1 _).mono ?_;rintro e' w7 ⟨rfl,hb7⟩)
 refine ThenB.mk (hCw.trans hb7) (fun hCw=>?_)
 refine mixB_ch (i:=14) (fuel:=6) (by kernel_rfl) (by kernel_rfl) ?_
 simp only[opsAt,zo1,zo2,zo3,zo4,zo5]
 go_wp2_with(fail)
 refine ThenB.mk (hCw.trans ((Below.refl _ _).alloc (Nat.le_refl _) _)) (fun hCw=>?_)
 refine mixB_ch (i:=15) (fuel:=5) (by kernel_rfl) (by kernel_rfl) ?_
 simp only[opsAt,zo1,zo2,zo3,zo4,zo5]
 go_wp2_with(go_at_call 57;refine(codicilref06_list _ 5 5 _).mono ?_;rintro e' w8 ⟨rfl,hb8⟩;have hG:=(IsBlk.new _ _ _).ext hb8)
 refine ThenB.mk (hCw.trans hb8) (fun hCw=>?_)
 have hab:=below_ext ((Below.refl _ _).alloc (Nat.le_refl _) _) hb8
 have hA8:=((hA.ext hb7).ext hab).ext_to (S':=fun _=>True) (fun _ _=>trivial) (fun _ _ _=>rfl)
 have hB8:=(HVB.out.ext hCw.below).ext_to (S':=fun _=>True) (fun _ _=>trivial) (fun _ _ _=>rfl)
 rw[List.length_map]at hA8
 have hV8:=blk_has (l:=l) (pA:=pA) (pB:=q1) (cA:=cA) (cB:=d1) (by rw[←HN.out];exact hG) trivial hp1 hp2 hp3 hA8 (by rw[←HN.out];exact hB8) revs
 have hW8:=ref_write_t _ _ _ _ hV8 (U8T_ext HT.out (below_ext HBR.out hCw.below)) (by have:=HBL2.out;omega)
 rw[←HQ.out]at hW8
 refine mixB_ch (i:=16) (fuel:=4) (by kernel_rfl) (by kernel_rfl) ?_
 simp only[opsAt,zo1,zo2,zo3,zo4,zo5]
 go_wp2_with(go_at_call 56;refine hW8.mono ?_;rintro e' w9 ⟨rfl,hb9⟩)
 refine ThenB.mk (hCw.trans hb9) (fun hCw=>?_)
 refine mixB_flt (by kernel_rfl) [17,18,19,20] 0 _ _ hCw (by kernel_rfl) ?_
 simp only[opsAt,zo1,zo2,zo3,zo4,zo5]
 unfold Cls
 repeat(go_big_quiet_step (fail))
 refine wpQuiet_nil ?_
 (try rw[←Cls_def])
 refine mixB_end [] (by kernel_rfl) ?_
 refine wpList_nil ?_
 refine Calm.normal ?_
 have HB9:=hid (below_ext HBR.out hCw.below)
 clear hCw hb3 hb4 hb5 hb6 hb7 hb8 hb9 hG hab hA8 hB8 hV8 x0 x1 x2 x3 x4
 go_wp2
 go_ret2
 exact⟨rfl,HB9.out⟩
set_option maxHeartbeats 8000000 in
theorem rcheck_p (b:DBlk) (S:Nat->Prop) (cs:List Value) (w:World) (hb:HasBlk S w b cs) (hk:∀r∈b.revs,okR r) (hT:U8T w):
 Calls Tryz.prog 39 #[.agg cs.toArray] w fun e' w'=>e'=.returned (.int .i64 (wholeP b).2)/\Below w.heap.size w w':=by
 obtain⟨Q,hQ⟩:∃Q,Q=wholeP b:=⟨_,rfl⟩
 rw[←hQ]
 unfold wholeP at hQ
 have hpo:=parts_full (b:=b)
 have HRW:Hid ((partsP b).2=0->∀w',Below w.heap.size w w'->Calls Tryz.prog 75 #[.agg cs.toArray] w' (TextOut w' (wrP (blkV b (partsP b).1)))):=hid (fun h0 w' h=>by
  have h1:=raw_any b S cs w' (hb.ext h) hk (U8T_ext hT h) h0
  rw[(parts_full h0).2.2.2.2.2.2.2.1]
  exact h1)
 have HPT:Hid (∀w',Below w.heap.size w w'->Calls Tryz.prog 72 #[.agg cs.toArray] w' fun e' w2=>e'=.returned (.int .i64 (partsP b).2)/\Below w'.heap.size w' w2):=hid (fun w' h=>rparts_any b S cs w' (hb.ext h) hk (U8T_ext hT h))
 generalize hpe:partsP b=P at hQ HPT hpo HRW
 have HQ:=hid hQ
 have HPO:=hid hpo
 obtain⟨seq,prev,root,sts,revs⟩:=b
 obtain⟨ps,cp,pr,cr,rfl,hbd,hS,hR⟩:=hb
 have HTX:Hid (P.2=0->∀w',Below w.heap.size w w'->Calls Tryz.prog 73 #[.slice pr revs.length cr] w' (TextsOut w' P)):=hid (fun h0 w' h=>by
  have h1:=texts_any revs S pr cr w' (hR.ext relR h) hbd.2.2.2.2.1 hk (U8T_ext hT h)
  rw[show textsP revs=P from(hpo h0).2.2.2.2.2.2.2.1.symm]at h1
  exact h1)
 clear hS hR hk hT hbd hQ hpo hpe
 show Calls Tryz.prog 39 #[.agg #[.int .u64 (seq:Int),.string (bs prev),.string (bs root),.slice ps sts.length cp,.slice pr revs.length cr]] w _
 go_enter Tryz.func39,Tryz.ntmps39
 go_upto_region 1 with(fail)
 generalize hW0:World.alloc w _=W0
 have hb0:Below w.heap.size w W0:=by rw[←hW0];exact(Below.refl _ _).alloc (Nat.le_refl _) _
 have hd1:IsBlk W0 w.heap.size #[.int .u64 (seq:Int),.string (bs prev),.string (bs root),.slice ps sts.length cp,.slice pr revs.length cr] 28:=by rw[←hW0];exact IsBlk.new _ _ _
 have HB0:=hid hb0
 have HD:=hid hd1
 have hlt0:=hd1.lt
 have x0:=hd1.cell (i:=0) rfl
 have x1:=hd1.cell (i:=1) rfl
 have x2:=hd1.cell (i:=2) rfl
 have x3:=hd1.cell (i:=3) rfl
 have x4:=hd1.cell (i:=4) rfl
 clear hW0 hd1 hb0
 go_wp2_with fail
 go_at_call 72
 refine(HPT.out _ HB0.out).mono ?_
 rintro e' w1 ⟨rfl,hb1⟩
 have HB1:=hid (below_ext HB0.out hb1)
 have hd1:=HD.out.ext hb1
 clear x0 x1 x2 x3 x4 hb1 HPT
 have hlt1:=hd1.lt
 have x0:=hd1.cell (i:=0) rfl
 have x1:=hd1.cell (i:=1) rfl
 have x2:=hd1.cell (i:=2) rfl
 have x3:=hd1.cell (i:=3) rfl
 have x4:=hd1.cell (i:=4) rfl
 have HD1:=hid hd1
 clear hd1 HD
 obtain⟨l,q⟩:=P
 by_cases hq:q=0
 case neg=>
  have hqb:(q !=0)=true:=by rw[bne_iff_ne];exact hq
  have HQ2:Hid (Q=([],q)):=hid (by rw[HQ.out,if_pos hq])
  clear hq
  go_wp2
  go_ret
  exact⟨by rw[HQ2.out];rfl,HB1.out⟩
 subst hq
 obtain⟨_,_,_,_,hnr,_,_,hpl,hll,hl24,_,_⟩:=HPO.out rfl
 have hpl2:l=(textsP revs).1:=by rw[←hpl]
 have HL:Hid (∀s∈l,s.length<=1024):=hid (by rw[hpl2];exact hl24)
 have hln:l.length<=64:=by rw[hpl2,hll];exact hnr
 have HQ2:Hid (Q=if rootL l≠root then([],11)else wrP (blkV ⟨seq,prev,root,sts,revs⟩ l)):=hid (by rw[HQ.out,if_neg (by simp)])
 have HRW2:=hid (HRW.out rfl)
 obtain⟨n,hnl⟩:∃n,n=l.length:=⟨_,rfl⟩
 have HNL:=hid hnl
 have HTX2:Hid (∀w',Below w.heap.size w w'->Calls Tryz.prog 73 #[.slice pr revs.length cr] w' fun e' w2=>∃p c,e'=.returned (.tuple #[.slice p n c,.int .i64 0])/\(n<=c/\c<=maxLen)/\HasS (fun x=>w'.heap.size<=x) w2 p l/\Below w'.heap.size w' w2):=hid (by rw[hnl];exact HTX.out rfl)
 clear HQ HPO hpl hll hl24 hpl2 hnr HRW HTX hnl
 go_wp2_with fail
 go_at_call 73
 refine(HTX2.out _ HB1.out).mono ?_
 rintro e' w2 ⟨p1,c1,rfl,⟨hc1,hc2⟩,hs1,hb2⟩
 have HS1:=hid hs1
 have HB2:=hid (below_ext HB1.out hb2)
 have hd1:=HD1.out.ext hb2
 clear x0 x1 x2 x3 x4 hb2 hs1 HD1 hlt1
 have hlt2:=hd1.lt
 have x0:=hd1.cell (i:=0) rfl
 have x1:=hd1.cell (i:=1) rfl
 have x2:=hd1.cell (i:=2) rfl
 have x3:=hd1.cell (i:=3) rfl
 have x4:=hd1.cell (i:=4) rfl
 have HD2:=hid hd1
 clear hd1
 obtain⟨R,hR⟩:∃R,R=rootL l:=⟨_,rfl⟩
 have HRT:Hid (∀w',Below w2.heap.size w2 w'->Calls Tryz.prog 74 #[.slice p1 n c1] w' fun e' w2=>e'=.returned (.string (bs R))/\Below w'.heap.size w' w2):=hid (fun w' h=>by
  rw[hR,HNL.out]
  exact rroot_any l _ p1 c1 w' (by rw[←HNL.out];exact hc1) (by omega) (HS1.out.ext h) (fun s hs=>by have:=HL.out s hs;omega))
 rw[←hR]at HQ2
 clear hR
 by_cases hr:R=root
 case neg=>
  have hne:((bs R).toList !=(bs root).toList)=true:=by rw[bne_bs];exact decide_eq_true hr
  have hne2:((bs R).toList==(bs root).toList)=false:=by rw[bs_beq];exact decide_eq_false hr
  have HQ3:Hid (Q=([],11)):=hid (by rw[HQ2.out,if_pos hr])
  clear hr HQ2
  go_upto_region 5 with(fail)
  refine mixB_start [] (Cls w2) (by kernel_rfl) (Cls.of ((Below.refl _ _).drew)) (fun hCw=>?_)
  refine mixB_flt (by kernel_rfl) [0,2,3] 2 _ _ hCw (by kernel_rfl) ?_
  simp only[opsAt,zo1,zo2,zo3,zo4,zo5]
  unfold Cls
  repeat(go_big_quiet_step (fail))
  refine wpQuiet_nil ?_
  (try rw[←Cls_def])
  refine mixB_ch (i:=1) (fuel:=1) (by kernel_rfl) (by kernel_rfl) ?_
  simp only[opsAt,zo1,zo2,zo3,zo4,zo5]
  go_wp2_with(go_at_call 74;refine(HRT.out _ hCw.below).mono ?_;rintro e' w3 ⟨rfl,hb2⟩)
  refine ThenB.mk (hCw.trans hb2) (fun hCw=>?_)
  refine mixB_flt (by kernel_rfl) [4] 0 _ _ hCw (by kernel_rfl) ?_
  simp only[opsAt,zo1,zo2,zo3,zo4,zo5]
  unfold Cls
  repeat(go_big_quiet_step (fail))
  refine wpQuiet_nil ?_
  (try rw[←Cls_def])
  refine mixB_end [] (by kernel_rfl) ?_
  refine wpList_nil ?_
  refine Calm.normal ?_
  have HB3:=hid (below_ext HB2.out hCw.below)
  clear hCw hb2 x0 x1 x2 x3 x4
  go_wp2
  go_ret
  exact⟨by rw[HQ3.out];rfl,HB3.out⟩
 have hne:((bs R).toList !=(bs root).toList)=false:=by rw[bne_bs];exact decide_eq_false (by simpa using hr)
 have hne2:((bs R).toList==(bs root).toList)=true:=by rw[bs_beq];exact decide_eq_true hr
 have HQ3:Hid (Q=wrP (blkV ⟨seq,prev,root,sts,revs⟩ l)):=hid (by rw[HQ2.out,if_neg (by simpa using hr)])
 clear hr HQ2
 go_upto_region 5 with(fail)
 refine mixB_start [] (Cls w2) (by kernel_rfl) (Cls.of ((Below.refl _ _).drew)) (fun hCw=>?_)
 refine mixB_flt (by kernel_rfl) [0,2,3] 2 _ _ hCw (by kernel_rfl) ?_
 simp only[opsAt,zo1,zo2,zo3,zo4,zo5]
 unfold Cls
 repeat(go_big_quiet_step (fail))
 refine wpQuiet_nil ?_
 (try rw[←Cls_def])
 refine mixB_ch (i:=1) (fuel:=1) (by kernel_rfl) (by kernel_rfl) ?_
 simp only[opsAt,zo1,zo2,zo3,zo4,zo5]
 go_wp2_with(go_at_call 74;refine(HRT.out _ hCw.below).mono ?_;rintro e' w3 ⟨rfl,hb2⟩)
 refine ThenB.mk (hCw.trans hb2) (fun hCw=>?_)
 refine mixB_flt (by kernel_rfl) [4] 0 _ _ hCw (by kernel_rfl) ?_
 simp only[opsAt,zo1,zo2,zo3,zo4,zo5]
 unfold Cls
 repeat(go_big_quiet_step (fail))
 refine wpQuiet_nil ?_
 (try rw[←Cls_def])
 refine mixB_end [] (by kernel_rfl) ?_
 refine wpList_nil ?_
 refine Calm.normal ?_
 have hb23:=hCw.below
 have HB3:=hid (below_ext HB2.out hb23)
 have hd1:=HD2.out.ext hb23
 clear hCw hb2 hb23 x0 x1 x2 x3 x4 HD2 hlt2
 have hlt3:=hd1.lt
 have x0:=hd1.cell (i:=0) rfl
 have x1:=hd1.cell (i:=1) rfl
 have x2:=hd1.cell (i:=2) rfl
 have x3:=hd1.cell (i:=3) rfl
 have x4:=hd1.cell (i:=4) rfl
 clear hd1
 go_wp2_with fail
 go_at_call 75
 refine(HRW2.out _ HB3.out).mono ?_
 rintro e' w4 ⟨rfl,hb4⟩
 have HB4:=hid (below_ext HB3.out hb4)
 clear hb4
 go_wp2
 go_ret
 exact⟨by rw[HQ3.out];rfl,HB4.out⟩
set_option maxHeartbeats 4000000 in
theorem rtext_p (b:DBlk) (S:Nat->Prop) (cs:List Value) (w:World) (hb:HasBlk S w b cs) (hk:∀r∈b.revs,okR r) (hT:U8T w):
 Calls Tryz.prog 34 #[.agg cs.toArray] w (TextOut w (wholeP b)):=by
 have HPT:Hid (∀w',Below w.heap.size w w'->Calls Tryz.prog 39 #[.agg cs.toArray] w' fun e' w2=>e'=.returned (.int .i64 (wholeP b).2)/\Below w'.heap.size w' w2):=hid (fun w' h=>rcheck_p b S cs w' (hb.ext h) hk (U8T_ext hT h))
 have HRW:Hid ((wholeP b).2=0->∀w',Below w.heap.size w w'->Calls Tryz.prog 75 #[.agg cs.toArray] w' (TextOut w' (wholeP b))):=hid (fun h0 w' h=>by
  have h1:=raw_any b S cs w' (hb.ext h) hk (U8T_ext hT h) (whole_parts h0)
  rw[(whole_ok h0).2.2.2.2.2]
  exact h1)
 have HZ:Hid ((wholeP b).2≠0->(wholeP b).1=[]):=hid (fun h=>by
  unfold wholeP at h⊢
  repeat' split
  ·rfl
  ·rfl
  ·rename_i h1 h2
   rw[if_neg h1,if_neg h2]at h
   rcases wrP_two (blkV b (partsP b).1)with h3|h3
   ·exact absurd h3 h
   ·exact h3)
 generalize wholeP b=Q at HPT HRW HZ⊢
 obtain⟨ps,cp,pr,cr,rfl,hbd,hS,hR⟩:=hb
 clear hS hR hk hT hbd
 obtain⟨T,q⟩:=Q
 show Calls Tryz.prog 34 #[.agg #[.int .u64 (b.seq:Int),.string (bs b.prev),.string (bs b.root),.slice ps b.sts.length cp,.slice pr b.revs.length cr]] w _
 go_enter Tryz.func34,Tryz.ntmps34
 go_upto_region 1 with(fail)
 generalize hW0:World.alloc w _=W0
 have hb0:Below w.heap.size w W0:=by rw[←hW0];exact(Below.refl _ _).alloc (Nat.le_refl _) _
 have hd1:IsBlk W0 w.heap.size #[.int .u64 (b.seq:Int),.string (bs b.prev),.string (bs b.root),.slice ps b.sts.length cp,.slice pr b.revs.length cr] 28:=by rw[←hW0];exact IsBlk.new _ _ _
 have HB0:=hid hb0
 have HD:=hid hd1
 have hlt0:=hd1.lt
 have x0:=hd1.cell (i:=0) rfl
 have x1:=hd1.cell (i:=1) rfl
 have x2:=hd1.cell (i:=2) rfl
 have x3:=hd1.cell (i:=3) rfl
 have x4:=hd1.cell (i:=4) rfl
 clear hW0 hd1 hb0
 go_wp2_with fail
 go_at_call 39
 refine(HPT.out _ HB0.out).mono ?_
 rintro e' w1 ⟨rfl,hb1⟩
 have HB1:=hid (below_ext HB0.out hb1)
 have hd1:=HD.out.ext hb1
 clear x0 x1 x2 x3 x4 hb1 HPT
 have hlt1:=hd1.lt
 have x0:=hd1.cell (i:=0) rfl
 have x1:=hd1.cell (i:=1) rfl
 have x2:=hd1.cell (i:=2) rfl
 have x3:=hd1.cell (i:=3) rfl
 have x4:=hd1.cell (i:=4) rfl
 clear hd1 HD
 by_cases hq:q=0
 case neg=>
  have hqb:(q !=0)=true:=by rw[bne_iff_ne];exact hq
  have H0:Hid (T=[]):=hid (HZ.out hq)
  clear hq
  go_wp2
  go_ret2
  exact⟨by rw[H0.out];rfl,HB1.out⟩
 subst hq
 have HRW2:=hid (HRW.out rfl)
 clear HRW HZ
 go_wp2_with fail
 go_at_call 75
 refine(HRW2.out _ HB1.out).mono ?_
 rintro e' w4 ⟨rfl,hb4⟩
 have HB4:=hid (below_ext HB1.out hb4)
 clear hb4
 go_wp2
 go_ret2
 exact⟨rfl,HB4.out⟩
end Go.Proofs.YtcihbnpckicljaaGreatDoor
