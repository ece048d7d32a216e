/- journal.Make. Conditions: the parts lie in memory; the revisions' texts no longer than 2^39 bytes; the tables read as the text lays them. -/
import Derived.Test.YtcihbnpckicljaaGreatDoorrJOwn
set_option linter.unusedVariables false
set_option linter.unusedSimpArgs false
namespace Go.Proofs.YtcihbnpckicljaaGreatDoor
open Go Go.RowKit Go.BigFrame
open Go.Lib(hid)
set_option maxRecDepth 100000
theorem blk_root {S:Nat->Prop} {w:World} {seq:Nat} {prev root root':List UInt8} {sts:List (List UInt8)} {revs:List DRev} {ps pr:Option Addr} {cp cr:Nat}
 (h:HasBlk S w ⟨seq,prev,root,sts,revs⟩ [.int .u64 (seq:Int),.string (bs prev),.string (bs root),.slice ps sts.length cp,.slice pr revs.length cr]) (hr:root'.length<=1073741824):
 HasBlk S w ⟨seq,prev,root',sts,revs⟩ [.int .u64 (seq:Int),.string (bs prev),.string (bs root'),.slice ps sts.length cp,.slice pr revs.length cr]:=by
 obtain⟨ps',cp',pr',cr',e,hbd,h1,h2⟩:=h
 simp only[List.cons.injEq,Value.slice.injEq,true_and,and_true]at e
 obtain⟨⟨rfl,rfl⟩,rfl,rfl⟩:=e
 exact⟨_,_,_,_,rfl,⟨hbd.1,hbd.2.1,hr,hbd.2.2.2⟩,h1,h2⟩
theorem make_zero {w W:World} {y:Int} {M:DBlk×Int} {tmps:Array Value} (hM:M=(.zero,y)) (hp:tmps.getD 8 undef=.pointer (some ⟨w.heap.size,0,none⟩)) (hy:tmps.getD 9 undef=.int .i64 y)
 (hd:IsBlk W w.heap.size #[.int .u64 0,.string ⟨#[]⟩,.string ⟨#[]⟩,.slice none 0 0,.slice none 0 0] 28) (hb:Below w.heap.size w W):
 bodyPost Tryz.prog Tryz.f29 (BlkOut w M) .ret {tmps:=tmps,defers:=[]} W:=by
 subst hM
 exact bodyPost_ret (v:=.tuple #[.agg #[.int .u64 0,.string ⟨#[]⟩,.string ⟨#[]⟩,.slice none 0 0,.slice none 0 0],.int .i64 y]) (results_ct (p:=8) (u:=9) (ty:=28) Tryz.results29 hp hd Tryz.underlying28 rfl (by kernel_rfl) hy) rfl ⟨_,rfl,zblk_has _ _,hb⟩
set_option maxHeartbeats 8000000 in
theorem make_p (seq:Nat) (prev:List UInt8) (sts:List (List UInt8)) (revs:List DRev) (S:Nat->Prop) (ps pr:Option Addr) (cp cr:Nat) (w:World)
 (hb:HasBlk S w ⟨seq,prev,zero32,sts,revs⟩ [.int .u64 (seq:Int),.string (bs prev),.string (bs zero32),.slice ps sts.length cp,.slice pr revs.length cr]) (hk:∀r∈revs,okR r) (hT:U8T w) (hK:Ks w):
 Calls Tryz.prog 29 #[.int .u64 (seq:Int),.string (bs prev),.slice ps sts.length cp,.slice pr revs.length cr] w (BlkOut w (makeP seq prev sts revs)):=by
 obtain⟨M,hM⟩:∃M,M=makeP seq prev sts revs:=⟨_,rfl⟩
 rw[←hM]
 have HM:=hid hM
 have HB:=hid hb
 have HKK:=hid hk
 have HT:=hid hT
 have HK:=hid hK
 have hpo:=parts_full (b:=⟨seq,prev,zero32,sts,revs⟩)
 have HPT:Hid (∀w',Below w.heap.size w w'->Calls Tryz.prog 67 #[.agg #[.int .u64 (seq:Int),.string (bs prev),.string (bs zero32),.slice ps sts.length cp,.slice pr revs.length cr]] w' (TextsOut w' (partsP ⟨seq,prev,zero32,sts,revs⟩))):=hid (fun w' h=>parts_any _ S _ w' (hb.ext h) hk (U8T_ext hT h))
 clear hb hk hT hK hM
 generalize hP:partsP ⟨seq,prev,zero32,sts,revs⟩=P at HPT hpo
 have HP:=hid hP
 have HPO:=hid hpo
 clear hP hpo
 go_enter Tryz.func29,Tryz.ntmps29
 go_upto_region 1 with(fail)
 generalize hW0:World.alloc w _=W0
 have hd0:IsBlk W0 w.heap.size #[.int .u64 0,.string ⟨#[]⟩,.string ⟨#[]⟩,.slice none 0 0,.slice none 0 0] 28:=by rw[←hW0];exact IsBlk.new _ _ _
 have hb0:Below w.heap.size w W0:=by rw[←hW0];exact(Below.refl _ _).alloc (Nat.le_refl _) _
 have hlt0:=hd0.lt
 have HD0:=hid hd0
 have HB0:=hid hb0
 clear hW0 hd0 hb0
 have hmk:=make32 W0
 have hcv:=conv32 W0
 go_upto_region 2 with(fail)
 clear hmk hcv
 generalize hW1:World.alloc _ _=W1
 have hd1:IsBlk W1 (W0.heap.size+1) #[.int .u64 (seq:Int),.string (bs prev),.string (bs zero32),.slice ps sts.length cp,.slice pr revs.length cr] 28:=by rw[←hW1];exact IsBlk.new_at (by simp)
 have hb01:Below W0.heap.size W0 W1:=by rw[←hW1];exact((Below.refl _ _).alloc (Nat.le_refl _) _).alloc (by simp) _
 obtain⟨b10,hb10⟩:∃b,b=W0.heap.size+1:=⟨_,rfl⟩
 rw[←hb10]at hd1
 rw[←hb10]
 have hg10:w.heap.size<b10:=by omega
 have HD1:=hid hd1
 have HB1:=hid (below_ext HB0.out hb01)
 have HZ1:=hid (HD0.out.ext hb01)
 have hlt1:=hd1.lt
 have x0:=hd1.cell (i:=0) rfl
 have x1:=hd1.cell (i:=1) rfl
 have x2:=hd1.cell (i:=2) rfl
 have x3:=hd1.cell (i:=3) rfl
 have x4:=hd1.cell (i:=4) rfl
 clear hW1 hd1 hb01 hb10
 go_wp2_with fail
 go_at_call 67
 refine(HPT.out _ HB1.out).mono ?_
 rintro e' w2 ⟨p1,c1,rfl,⟨hc1,hc2⟩,hs1,hb2⟩
 have HS2:=hid hs1
 have HB2:=hid (below_ext HB1.out hb2)
 have HD2:=hid (HD1.out.ext hb2)
 have hz2:=HZ1.out.ext hb2
 have HZ2:=hid hz2
 have hsz2:=hb2.size
 clear x0 x1 x2 x3 x4 hb2 hs1
 obtain⟨l,q⟩:=P
 by_cases hq:q=0
 case neg=>
  have hqb:(q !=0)=true:=by rw[bne_iff_ne];exact hq
  have HM2:Hid (M=(.zero,q)):=hid (by
   have he:makeE seq prev sts revs=q:=by unfold makeE;rw[HP.out,if_pos hq]
   rw[HM.out];unfold makeP;rw[he,if_pos hq])
  have z0:=hz2.cell (i:=0) rfl
  have z1:=hz2.cell (i:=1) rfl
  have z2:=hz2.cell (i:=2) rfl
  have z3:=hz2.cell (i:=3) rfl
  have z4:=hz2.cell (i:=4) rfl
  have y0:=hz2.frozen 0
  have y1:=hz2.frozen 1
  have y2:=hz2.frozen 2
  have y3:=hz2.frozen 3
  have y4:=hz2.frozen 4
  have hlz:=hz2.lt
  have HSET:=hid (blk_setCells [.int .u64 0,.string ⟨#[]⟩,.string ⟨#[]⟩,.slice none 0 0,.slice none 0 0] 0 w2 [.int .u64 0,.string ⟨#[]⟩,.string ⟨#[]⟩,.slice none 0 0,.slice none 0 0] hz2)
  have HBF:=hid (below_setCells (B:=w.heap.size) (w0:=w) (Nat.le_refl _) [.int .u64 0,.string ⟨#[]⟩,.string ⟨#[]⟩,.slice none 0 0,.slice none 0 0] 0 w2 HB2.out)
  clear hz2 hq
  go_wp2
  exact make_zero HM2.out rfl rfl HSET.out HBF.out
 subst hq
 obtain⟨q1,q2,q3,q4,q5,q6,q7,q8,q9,q10,_⟩:=HPO.out rfl
 have q8':(l,(0:Int))=textsP revs:=q8
 have q9':(textsP revs).1.length=revs.length:=q9
 have q5':revs.length<=64:=q5
 rw[←q8']at q9' q10
 simp only at q9' q10
 obtain⟨RT,hRT⟩:∃r,r=rootL l:=⟨_,rfl⟩
 have hrl:RT.length=32:=by rw[hRT];exact rootL_len _
 have HRT:Hid (Calls Tryz.prog 68 #[.slice p1 l.length c1] w2 fun e' w3=>e'=.returned (.string (bs RT))/\Below w2.heap.size w2 w3):=hid (by
  rw[hRT]
  exact root_p l _ p1 c1 w2 (HK.out.ext HB2.out) HS2.out (by omega) (fun s hs=>by have:=q10 s hs;omega))
 have HMB:Hid (makeB seq prev sts revs=⟨seq,prev,RT,sts,revs⟩):=hid (by unfold makeB;rw[←q8',hRT])
 clear q1 q2 q3 q4 q5 q6 q7 q8 q9 q10 q8' q9' q5' hRT hz2
 go_wp2_with fail
 go_at_call 68
 refine HRT.out.mono ?_
 rintro e' w3 ⟨rfl,hb3⟩
 have HB3:=hid (below_ext HB2.out hb3)
 have hd3:=HD2.out.ext hb3
 have x2:=hd3.cell (i:=2) rfl
 have y2:=hd3.frozen 2
 have hlt3:=hd3.lt
 have HZ3:=hid (HZ2.out.ext hb3)
 have HD3:=hid hd3
 clear hd3 hb3
 go_upto_region 6 with(fail)
 clear x2 y2
 generalize hW4:World.setCell _ _ _=W4
 have hd4:IsBlk W4 b10 #[.int .u64 (seq:Int),.string (bs prev),.string (bs RT),.slice ps sts.length cp,.slice pr revs.length cr] 28:=by rw[←hW4];simpa using HD3.out.set 2 (.string (bs RT))
 have HB4:Hid (Below w.heap.size w W4):=hid (by rw[←hW4];exact below_set HB3.out (by omega))
 have HZ4:Hid (IsBlk W4 w.heap.size #[.int .u64 0,.string ⟨#[]⟩,.string ⟨#[]⟩,.slice none 0 0,.slice none 0 0] 28):=hid (by rw[←hW4];exact HZ3.out.set_other (a:=⟨b10,2,none⟩) (show b10≠w.heap.size by omega) _)
 have hbk4:=blk_root (root':=RT) (HB.out.ext HB4.out) (by omega)
 have hck:=check_p _ S _ W4 hbk4 HKK.out (U8T_ext HT.out HB4.out) (HK.out.ext HB4.out)
 have HME:Hid (makeE seq prev sts revs=(wholeP ⟨seq,prev,RT,sts,revs⟩).2):=hid (by
  unfold makeE
  rw[HP.out,if_neg (by simp),HMB.out])
 obtain⟨Y,hY⟩:∃Y,Y=(wholeP ⟨seq,prev,RT,sts,revs⟩).2:=⟨_,rfl⟩
 rw[←hY]at hck HME
 have HCK:=hid hck
 have HBK4:=hid hbk4
 have HD4:=hid hd4
 have hlt4:=hd4.lt
 have x0:=hd4.cell (i:=0) rfl
 have x1:=hd4.cell (i:=1) rfl
 have x2:=hd4.cell (i:=2) rfl
 have x3:=hd4.cell (i:=3) rfl
 have x4:=hd4.cell (i:=4) rfl
 clear hW4 hd4 hbk4 hck hY
 go_wp2_with fail
 go_at_call 31
 refine HCK.out.mono ?_
 rintro e' w5 ⟨rfl,hb5⟩
 have HB5:=hid (below_ext HB4.out hb5)
 have HBK5:=hid (HBK4.out.ext hb5)
 have hd5:=HD4.out.ext hb5
 have hz5:=HZ4.out.ext hb5
 have hlt5:=hd5.lt
 clear x0 x1 x2 x3 x4 hb5
 by_cases hq:Y=0
 case neg=>
  have hqb:(Y !=0)=true:=by rw[bne_iff_ne];exact hq
  have HM2:Hid (M=(.zero,Y)):=hid (by rw[HM.out];unfold makeP;rw[HME.out,if_pos hq])
  have z0:=hz5.cell (i:=0) rfl
  have z1:=hz5.cell (i:=1) rfl
  have z2:=hz5.cell (i:=2) rfl
  have z3:=hz5.cell (i:=3) rfl
  have z4:=hz5.cell (i:=4) rfl
  have y0:=hz5.frozen 0
  have y1:=hz5.frozen 1
  have y2:=hz5.frozen 2
  have y3:=hz5.frozen 3
  have y4:=hz5.frozen 4
  have hlz:=hz5.lt
  have HSET:=hid (blk_setCells [.int .u64 0,.string ⟨#[]⟩,.string ⟨#[]⟩,.slice none 0 0,.slice none 0 0] 0 w5 [.int .u64 0,.string ⟨#[]⟩,.string ⟨#[]⟩,.slice none 0 0,.slice none 0 0] hz5)
  have HBF:=hid (below_setCells (B:=w.heap.size) (w0:=w) (Nat.le_refl _) [.int .u64 0,.string ⟨#[]⟩,.string ⟨#[]⟩,.slice none 0 0,.slice none 0 0] 0 w5 HB5.out)
  clear hz5 hq hd5
  go_wp2
  exact make_zero HM2.out rfl rfl HSET.out HBF.out
 subst hq
 have HM2:Hid (M=(⟨seq,prev,RT,sts,revs⟩,0)):=hid (by rw[HM.out];unfold makeP;rw[HME.out,if_neg (by simp),HMB.out])
 have HZ5:=hid hz5
 have x0:=hd5.cell (i:=0) rfl
 have x1:=hd5.cell (i:=1) rfl
 have x2:=hd5.cell (i:=2) rfl
 have x3:=hd5.cell (i:=3) rfl
 have x4:=hd5.cell (i:=4) rfl
 clear hz5 hd5
 go_wp2_with fail
 go_at_call 69
 refine(own6_any _ S _ w5 HBK5.out).mono ?_
 rintro e' w6 ⟨cs6,rfl,hb6k,hb6⟩
 have HB6:=hid (below_ext HB5.out hb6)
 have hsz6:=hb6.size
 have hk6:=hb6k
 obtain⟨ps6,cp6,pr6,cr6,rfl,_⟩:=hb6k
 have hz6:=HZ5.out.ext hb6
 have hsz5:=HB5.out.size
 have HFIN:=hid (And.intro (blk_setCells [.int .u64 (seq:Int),.string (bs prev),.string (bs RT),.slice ps6 sts.length cp6,.slice pr6 revs.length cr6] 0 w6 [.int .u64 0,.string ⟨#[]⟩,.string ⟨#[]⟩,.slice none 0 0,.slice none 0 0] hz6)
  (And.intro (HasBlk.kept (S':=fun b=>w.heap.size<=b) hk6 (fun b hb=>by have:w5.heap.size<=b:=hb;omega) (fun b hb _=>other_setCells (show b≠w.heap.size by have:w5.heap.size<=b:=hb;have:=hz6.lt;have:=HZ5.out.lt;omega) [.int .u64 (seq:Int),.string (bs prev),.string (bs RT),.slice ps6 sts.length cp6,.slice pr6 revs.length cr6] 0 w6))
    (below_setCells (B:=w.heap.size) (w0:=w) (Nat.le_refl _) [.int .u64 (seq:Int),.string (bs prev),.string (bs RT),.slice ps6 sts.length cp6,.slice pr6 revs.length cr6] 0 w6 HB6.out)))
 have z0:=hz6.cell (i:=0) rfl
 have z1:=hz6.cell (i:=1) rfl
 have z2:=hz6.cell (i:=2) rfl
 have z3:=hz6.cell (i:=3) rfl
 have z4:=hz6.cell (i:=4) rfl
 have y0:=hz6.frozen 0
 have y1:=hz6.frozen 1
 have y2:=hz6.frozen 2
 have y3:=hz6.frozen 3
 have y4:=hz6.frozen 4
 have hlz:=hz6.lt
 clear x0 x1 x2 x3 x4 hb6 hk6 hz6
 go_wp2
 rw[HM2.out]
 exact bodyPost_ret (v:=.tuple #[.agg #[.int .u64 (seq:Int),.string (bs prev),.string (bs RT),.slice ps6 sts.length cp6,.slice pr6 revs.length cr6],.int .i64 0]) (results_ct (p:=8) (u:=9) (ty:=28) Tryz.results29 rfl HFIN.out.1 Tryz.underlying28 rfl (by kernel_rfl) rfl) rfl ⟨_,rfl,HFIN.out.2.1,HFIN.out.2.2⟩
end Go.Proofs.YtcihbnpckicljaaGreatDoor
