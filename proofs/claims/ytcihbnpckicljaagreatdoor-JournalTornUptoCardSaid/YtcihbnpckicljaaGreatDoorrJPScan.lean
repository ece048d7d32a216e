/- journal.Scan. Conditions: bytes no more than 2^30; the tables read as the text lays them. -/
import Derived.Test.YtcihbnpckicljaaGreatDoorrJFrames
import Derived.Test.YtcihbnpckicljaaGreatDoorrJCells
set_option linter.unusedVariables false
set_option linter.unusedSimpArgs false
namespace Go.Proofs.YtcihbnpckicljaaGreatDoor
open Go Go.RowKit Go.BigFrame Go.Shelf
open Go.Lib(hid)
set_option maxRecDepth 100000
attribute [local go_sem] Oper.semAt_some
section
variable {P:Program} {ops:Array Oper} {T:List Nat} {C:World->Prop} {Q:Exit->Act->World->Prop}
theorem mixB_br3 {i j k:Nat} {fuel:Nat} {listed:Array Bool} {a:Act} {w:World} (hr:Region.ready .any ops listed=[i,j,k]) (hi:((ops[i]?).isSome&&((ops[j]?).isSome&&(ops[k]?).isSome))=true)
 (h1:wpList P ops (Exit.then (ThenB P ops T C Q fuel (listed.setIfInBounds i true)) (Calm Q)) (opsAt ops [i]) a w)
 (h2:wpList P ops (Exit.then (ThenB P ops T C Q fuel (listed.setIfInBounds j true)) (Calm Q)) (opsAt ops [j]) a w)
 (h3:wpList P ops (Exit.then (ThenB P ops T C Q fuel (listed.setIfInBounds k true)) (Calm Q)) (opsAt ops [k]) a w):mixB P ops T C Q (fuel+1) listed a w:=by
 simp only[Bool.and_eq_true]at hi
 refine⟨fun h0=>(by rw[h0]at hr;cases hr),fun m hm=>?_⟩
 rw[hr]at hm
 have hm2:m=i\/m=j\/m=k:=by simpa using hm
 rcases hm2 with rfl|rfl|rfl
 ·exact wpOp_mono (fun a' w' hk=>⟨.inr (.inr hk.1),hk.2⟩) (mixB_one hi.1 h1)
 ·exact wpOp_mono (fun a' w' hk=>⟨.inr (.inr hk.1),hk.2⟩) (mixB_one hi.2.1 h2)
 ·exact wpOp_mono (fun a' w' hk=>⟨.inr (.inr hk.1),hk.2⟩) (mixB_one hi.2.2 h3)
end
theorem calls_of_marks {P:Program} {f:FuncId} {fn:Func} {c:Code} {args:Array Value} {w:World} {R:Ending->World->Prop} (hf:P.funcs[f]?=some fn) (hb:fn.body=some c)
 (h:c.wp P (bodyPostM Fence.wide 8 P fn R) {tmps:=args++Array.replicate (fn.ntmps-args.size) undef,defers:=[]} w):Calls P f args w R:=
 (callsIn_wide (n:=8)).1 (callsIn_of_wp_marks hf hb trivial (wpIn_wide.2 h))
theorem marks_ret1 {P:Program} {fn:Func} {R:Ending->World->Prop} {a:Act} {w:World} {v:Value} {D:Nat} (hK:w.heap[D]?=some (.deferred (some []))) (hr:(results fn a.tmps).run P (w.putObj D (.deferred none))=.ok v (w.putObj D (.deferred none))) (hd:a.defers=[{target:=.collected D,args:= #[]}]) (h:R (.returned v) (w.putObj D (.deferred none))):bodyPostM Fence.wide 8 P fn R .ret a w:=by
 show LeavesInM Fence.wide 8 P fn a.tmps R a.defers .returning w
 rw[hd]
 exact⟨by simp,.inl ⟨_,_,rfl,run_takeDeferred hK,v,hr,h⟩⟩
theorem keepsOthers_below {W W':World} (h:Below W.heap.size W W'):KeepsOthers W W':=⟨h.size,fun k o hk _=>(h.block k (Array.getElem?_eq_some_iff.1 hk).1).trans hk⟩
def runS :List FX->List DBlk->Nat->List UInt8->List DBlk×Nat
 |[],l,e,_=>(l,e)
 |x::fs,l,e,prev=>if(readB x.1.2).2≠0\/(readB x.1.2).1.seq≠l.length+1\/(readB x.1.2).1.prev≠prev then(l,e)else runS fs (l++[(readB x.1.2).1]) x.1.1 (digP (shortP (readB x.1.2).1).1)
theorem runS_scan :∀(f:Nat) (s:List UInt8) (n1:Nat) (l:List DBlk) (prev:List UInt8),n1<=s.length->s.length<=1073741824->runS (framesF f s n1) l n1 prev=(l++(scanP f (s.drop n1) l.length prev).1,n1+(scanP f (s.drop n1) l.length prev).2)
 |0,s,n1,l,prev,_,_=>by
  show(l,n1)=(l++[],n1+0)
  simp
 |f+1,s,n1,l,prev,h1,h2=>by
  rw[framesF,scanP]
  cases hs:stepP (s.drop n1)with
  |none=>simp[runS]
  |some t=>
   obtain⟨h3,_⟩:=step_some hs
   rw[List.length_drop]at h3
   have hx:(mkF (n1+12+t.length) t).1=(n1+12+t.length,t):=mkF_ok (by omega) (by omega)
   simp only
   rw[runS,hx]
   simp only
   by_cases hc:(readB t).2≠0\/(readB t).1.seq≠l.length+1\/(readB t).1.prev≠prev
   ·rw[if_pos hc,if_pos hc]
    simp
   ·rw[if_neg hc,if_neg hc,runS_scan f s (n1+12+t.length) _ _ (by omega) h2,List.drop_drop,List.length_append]
    simp[Nat.add_assoc]
theorem scanV_run {s:List UInt8} (h:s.length<=1073741824):scanV s=runS (framesF (s.length+1) s 0) [] 0 zero32:=by
 rw[runS_scan _ s 0 [] zero32 (Nat.zero_le _) h,List.drop_zero]
 simp[scanV]
theorem conv_at (W:World) (g:Nat) (h:IsBlk W g (u8s zero32).toArray 5):(convert 85 9 (.slice (some ⟨g,0,none⟩) 32 32)).run Tryz.prog W=.ok (.string (bs zero32)) W:=
 run_string_blk (P:=Tryz.prog) (w:=W) 85 5 9 Tryz.underlying85 Tryz.underlying5 Tryz.underlying9 (g:=g) (n:=32) (cap:=32) (t:=5) (l:=zero32) (by simp[zero32]) h
def ScanSt (w:World) (b5 b6:Nat) (W:World):Prop:=IsBlk W w.heap.size #[.slice none 0 0] 32/\IsBlk W b5 #[.int .i64 0] 3/\IsBlk W b6 #[.string (bs zero32)] 9/\Below w.heap.size w W/\w.heap.size<b5/\w.heap.size<b6/\b5≠b6
theorem meet_scan {w W:World} {b5 b6:Nat} (h4:IsBlk W w.heap.size #[.slice none 0 0] 32) (h5:IsBlk W b5 #[.int .i64 0] 3) (h6:IsBlk W b6 #[.string ⟨#[]⟩] 9) (hb:Below w.heap.size w W) (n1:w.heap.size<b5) (n2:w.heap.size<b6) (n3:b5≠b6):
 ScanSt w b5 b6 (W.setCell ⟨b6,0,none⟩ (.string (bs zero32))):=
 ⟨h4.set_other (a:=⟨b6,0,none⟩) (show b6≠w.heap.size by omega) _,h5.set_other (a:=⟨b6,0,none⟩) (show b6≠b5 by omega) _,
  (by simpa using h6.set 0 (.string (bs zero32))),below_set hb (by omega),n1,n2,n3⟩
theorem accB_low {w:World} {B B':Nat} {e:TypeId} {v:Value} {vs:List DBlk} (h:Acc HasBlk B e 5 w v vs) (hB:B'<=B):Acc HasBlk B' e 5 w v vs:=by
 obtain⟨css,h1,h2,h3⟩:=h
 refine⟨css,⟨h1.1,?_⟩,h2,fun i hi hi'=>(h3 i hi hi').kept (fun b hb=>⟨Nat.le_trans hB hb.1,hb.2⟩) (fun _ _ _=>rfl)⟩
 rcases h1.2 with h|⟨g,cap,cur,q1,q2,q3⟩
 ·exact .inl h
 ·exact .inr ⟨g,cap,cur,q1,Nat.le_trans hB q2,q3⟩
theorem scan_done {w wl W:World} {D e:Nat} {lb:List DBlk} {v:Value} (hacc:Acc HasBlk wl.heap.size 28 5 W v lb) (hb:Below w.heap.size wl W) (hbl:Below w.heap.size w wl) (hD:wl.heap.size<=D) (hK:W.heap[D]?=some (.deferred (some []))):
 ScanOut w (lb,e) (.returned (.tuple #[v,.int .i64 (e:Int)])) (W.putObj D (.deferred none)):=by
 have hg:=grownBy_putObj' W D (.deferred none)
 have hr:∀r,some D=some r->∃o:Obj,W.heap[r]?=some o/\o.isCells=false:=fun r e=>by
  obtain rfl:=Option.some.inj e
  exact⟨_,hK,rfl⟩
 have h1:=hbl.size
 have h2:=hb.size
 exact scan_fin (accB_low (accB_turned hacc hg hr) h1) ((hbl.trans hb).grown hg (by omega) (fun r e=>by obtain rfl:=Option.some.inj e;omega))
theorem acc_cells {B:Nat} {w:World} {e:TypeId} {v:Value} {vs:List DBlk} (h:Acc HasBlk B e 5 w v vs):∀(j:Nat) (o:Obj),v.ownBlock=some j->w.heap[j]?=some o->o.isCells=true:=by
 obtain⟨css,h1,h2,h3⟩:=h
 intro j o hj ho
 rcases h1.2 with⟨rfl,_⟩|⟨g,cap,cur,rfl,_,hc,_⟩
 ·cases hj
 ·obtain rfl:g=j:=Option.some.inj (show some g=some j from hj)
  rw[hc]at ho
  obtain rfl:=Option.some.inj ho
  rfl
theorem keptS_set {n0 b:Nat} {W W':World} {g o:Nat} {u:Value} (h:KeptS n0 b W W') (hg:n0<=g) (hb:b≠g):KeptS n0 b W (W'.setCell ⟨g,o,none⟩ u):=
 h.trans ⟨by simp,fun k hk=>Below.heap_setCell _ _ _ _ (show k≠g by omega),Below.heap_setCell _ _ _ _ hb⟩
theorem scan_put {w wl W WE w9 w11:World} {b5 b6 n2 e:Nat} {s4 v va s5 s6:Value} {p:List UInt8} {vs vs':List DBlk} (hWE:Below W.heap.size W WE) (hacc0:Acc HasBlk wl.heap.size 28 5 WE v vs') (hgr:WE.grownBy w9 v.ownBlock)
 (h911:Below w9.heap.size w9 w11) (hacc:Acc HasBlk wl.heap.size 28 5 w9 va vs) (h4:IsBlk W w.heap.size #[s4] 32) (h5:IsBlk W b5 #[s5] 3) (h6:IsBlk W b6 #[s6] 9) (hbw:Below w.heap.size wl W)
 (n1:w.heap.size<b5) (n1':w.heap.size<b6) (n3:b5≠b6) (m5:b5<n2) (m6:b6<n2) (m2:n2<wl.heap.size):
 let Wf:=((w11.setCell ⟨w.heap.size,0,none⟩ va).setCell ⟨b5,0,none⟩ (.int .i64 (e:Int))).setCell ⟨b6,0,none⟩ (.string (bs p))
 KeepsOthers W Wf/\KeptS w.heap.size n2 W Wf/\Acc HasBlk wl.heap.size 28 5 Wf va vs/\IsBlk Wf w.heap.size #[va] 32/\IsBlk Wf b5 #[.int .i64 (e:Int)] 3/\IsBlk Wf b6 #[.string (bs p)] 9/\Below w.heap.size wl Wf:=by
 have hsw:=hbw.size
 have hsE:=hWE.size
 have hlt:=hacc0.lt
 have hs9:=hgr.size
 have hs11:=h911.size
 have h4E:IsBlk w11 w.heap.size #[s4] 32:=(blk_grown (h4.ext hWE) hgr (fun e=>by have:=hlt _ e;omega)).ext h911
 have h5E:IsBlk w11 b5 #[s5] 3:=(blk_grown (h5.ext hWE) hgr (fun e=>by have:=hlt _ e;omega)).ext h911
 have h6E:IsBlk w11 b6 #[s6] 9:=(blk_grown (h6.ext hWE) hgr (fun e=>by have:=hlt _ e;omega)).ext h911
 have hacc11:=hacc.kept relB (fun z hz hlt=>h911.block z hlt)
 have hb11:Below w.heap.size wl w11:=((hbw.trans (hWE.mono (by omega))).grown hgr (by omega) (fun k hk=>by have:=hlt k hk;omega)).trans (h911.mono (by omega))
 have hko:KeepsOthers W w11:=((keepsOthers_below hWE).trans (.of_grownBy hgr (acc_cells hacc0))).trans (keepsOthers_below h911)
 have hks:KeptS w.heap.size n2 W w11:=((KeptS.of_below hWE (by omega) (by omega)).trans ⟨hs9,fun k hk=>hgr.block k (by omega) (fun e=>by have:=hlt k e.symm;omega),hgr.block n2 (by omega) (fun e=>by have:=hlt n2 e.symm;omega)⟩).trans (KeptS.of_below h911 (by omega) (by omega))
 refine⟨((hko.trans (.setCell _ _ _)).trans (.setCell _ _ _)).trans (.setCell _ _ _),keptS_set (keptS_set (keptS_set hks (by omega) (by omega)) (by omega) (by omega)) (by omega) (by omega),?_,?_,?_,?_,below_set (below_set (below_set hb11 (by omega)) (by omega)) (by omega)⟩
 ·exact((hacc11.kept relB (fun b hb _=>Below.heap_setCell _ _ _ _ (show b≠w.heap.size by omega))).kept relB (fun b hb _=>Below.heap_setCell _ _ _ _ (show b≠b5 by omega))).kept relB (fun b hb _=>Below.heap_setCell _ _ _ _ (show b≠b6 by omega))
 ·have h:=h4E.set 0 va
  exact((show IsBlk _ _ #[va] _ by simpa using h).set_other (a:=⟨b5,0,none⟩) (show b5≠w.heap.size by omega) _).set_other (a:=⟨b6,0,none⟩) (show b6≠w.heap.size by omega) _
 ·have h:=(h5E.set_other (a:=⟨w.heap.size,0,none⟩) (show w.heap.size≠b5 by omega) va).set 0 (.int .i64 (e:Int))
  exact(show IsBlk _ _ #[.int .i64 (e:Int)] _ by simpa using h).set_other (a:=⟨b6,0,none⟩) (show b6≠b5 by omega) _
 ·have h:=((h6E.set_other (a:=⟨w.heap.size,0,none⟩) (show w.heap.size≠b6 by omega) va).set_other (a:=⟨b5,0,none⟩) n3 (.int .i64 (e:Int))).set 0 (.string (bs p))
  simpa using h
set_option maxHeartbeats 16000000 in
theorem scan_p (s:List UInt8) (w:World) (hT:U8T w) (hK:Ks w) (hs:s.length<=1073741824):
 Calls Tryz.prog 12 #[.string (bs s)] w (ScanOut w (scanV s)):=by
 have HT:=hid hT
 have HK:=hid hK
 obtain⟨R,hR⟩:∃R,R=scanV s:=⟨_,rfl⟩
 rw[←hR]
 have HR:=hid hR
 clear hT hK hR
 refine calls_of_marks Tryz.func12 rfl ?_
 simp only[Tryz.ntmps12,List.size_toArray,List.length_cons,List.length_nil,Nat.reduceAdd,Nat.reduceSub,Array.replicate_succ,Array.replicate_zero,List.push_toArray,List.append_toArray,List.nil_append,List.cons_append]
 go_upto_region 2 with(fail)
 generalize hW1:World.alloc w _=W1
 have hb1:Below w.heap.size w W1:=by rw[←hW1];exact(Below.refl _ _).alloc (Nat.le_refl _) _
 have h41:IsBlk W1 w.heap.size #[.slice none 0 0] 32:=by rw[←hW1];exact IsBlk.new _ _ _
 have HB1:=hid hb1
 have H41:=hid h41
 have hlt1:=h41.lt
 clear hW1 hb1 h41
 go_cut [5,6]from 13 (fun s5 s6 W=>∃b5 b6,s5=.pointer (some ⟨b5,0,none⟩)/\s6=.pointer (some ⟨b6,0,none⟩)/\ScanSt w b5 b6 W)
 case first=>
  refine mixB_start [5] (Cls W1) (by kernel_rfl) (Cls.of ((Below.refl _ _).drew)) (fun hCw=>?_)
  generalize hV0:({W1 with drawn:=W1.drawn+1}:World)=V0 at hCw⊢
  have hbV0:Below W1.heap.size W1 V0:=by rw[←hV0];exact(Below.refl _ _).drew
  have HBWV0:=hid (below_ext HB1.out hbV0)
  have H4V0:=hid (H41.out.ext hbV0)
  have hzV0:=hbV0.size
  clear hV0 hbV0
  refine mixB_br3 (i:=0) (j:=2) (k:=3) (fuel:=5) (by kernel_rfl) (by kernel_rfl) ?_ ?_ ?_
  ·have hmk:=make32 V0
   simp only[opsAt,zo1,zo2,zo3,zo4,zo5]
   go_wp2_with(fail)
   clear hmk
   refine ThenB.mk (hCw.trans ((Below.refl _ _).alloc (Nat.le_refl _) _)) (fun hCw=>?_)
   obtain⟨kV1,hkV1⟩:∃k,k=V0.heap.size:=⟨_,rfl⟩
   have hnV1:IsBlk (World.alloc V0 (.cells (u8s zero32).toArray 5)) kV1 (u8s zero32).toArray 5:=by rw[hkV1];exact IsBlk.new _ _ _
   have hbV1:Below V0.heap.size V0 (World.alloc V0 (.cells (u8s zero32).toArray 5)):=(Below.refl _ _).alloc (Nat.le_refl _) _
   have hgV1:V0.heap.size<=kV1:=by omega
   rw[←hkV1]
   clear hkV1
   generalize World.alloc V0 (.cells (u8s zero32).toArray 5)=V1 at hCw hnV1 hbV1⊢
   have HBWV1:=hid (below_ext HBWV0.out hbV1)
   have H4V1:=hid (H4V0.out.ext hbV1)
   have H13V1:=hid hnV1
   have hzV1:=hbV1.size
   have hlV1:=hnV1.lt
   clear hnV1 hbV1
   refine mixB_br3 (i:=1) (j:=2) (k:=3) (fuel:=4) (by kernel_rfl) (by kernel_rfl) ?_ ?_ ?_
   ·have hcv:=conv_at V1 kV1 H13V1.out
    simp only[opsAt,zo1,zo2,zo3,zo4,zo5]
    go_wp2_with(fail)
    clear hcv
    refine ThenB.mk hCw (fun hCw=>?_)
    refine mixB_br (i:=2) (j:=3) (fuel:=3) (by kernel_rfl) (by kernel_rfl) ?_ ?_
    ·simp only[opsAt,zo1,zo2,zo3,zo4,zo5]
     go_wp2_with(fail)
     refine ThenB.mk (hCw.trans ((Below.refl _ _).alloc (Nat.le_refl _) _)) (fun hCw=>?_)
     obtain⟨kV3,hkV3⟩:∃k,k=V1.heap.size:=⟨_,rfl⟩
     have hnV3:IsBlk (World.alloc V1 (.cells #[.int .i64 0] 3)) kV3 #[.int .i64 0] 3:=by rw[hkV3];exact IsBlk.new _ _ _
     have hbV3:Below V1.heap.size V1 (World.alloc V1 (.cells #[.int .i64 0] 3)):=(Below.refl _ _).alloc (Nat.le_refl _) _
     have hgV3:V1.heap.size<=kV3:=by omega
     rw[←hkV3]
     clear hkV3
     generalize World.alloc V1 (.cells #[.int .i64 0] 3)=V3 at hCw hnV3 hbV3⊢
     have HBWV3:=hid (below_ext HBWV1.out hbV3)
     have H4V3:=hid (H4V1.out.ext hbV3)
     have H13V3:=hid (H13V1.out.ext hbV3)
     have H5V3:=hid hnV3
     have hzV3:=hbV3.size
     have hlV3:=hnV3.lt
     clear hnV3 hbV3
     refine mixB_ch (i:=3) (fuel:=2) (by kernel_rfl) (by kernel_rfl) ?_
     simp only[opsAt,zo1,zo2,zo3,zo4,zo5]
     go_wp2_with(fail)
     refine ThenB.mk (hCw.trans ((Below.refl _ _).alloc (Nat.le_refl _) _)) (fun hCw=>?_)
     obtain⟨kV4,hkV4⟩:∃k,k=V3.heap.size:=⟨_,rfl⟩
     have hnV4:IsBlk (World.alloc V3 (.cells #[.string ⟨#[]⟩] 9)) kV4 #[.string ⟨#[]⟩] 9:=by rw[hkV4];exact IsBlk.new _ _ _
     have hbV4:Below V3.heap.size V3 (World.alloc V3 (.cells #[.string ⟨#[]⟩] 9)):=(Below.refl _ _).alloc (Nat.le_refl _) _
     have hgV4:V3.heap.size<=kV4:=by omega
     rw[←hkV4]
     clear hkV4
     generalize World.alloc V3 (.cells #[.string ⟨#[]⟩] 9)=V4 at hCw hnV4 hbV4⊢
     have HBWV4:=hid (below_ext HBWV3.out hbV4)
     have H4V4:=hid (H4V3.out.ext hbV4)
     have H13V4:=hid (H13V3.out.ext hbV4)
     have H5V4:=hid (H5V3.out.ext hbV4)
     have H6V4:=hid hnV4
     have hzV4:=hbV4.size
     have hlV4:=hnV4.lt
     clear hnV4 hbV4
     refine mixB_ch (i:=4) (fuel:=1) (by kernel_rfl) (by kernel_rfl) ?_
     have c5:=H5V4.out.cell (i:=0) rfl
     have f5:=H5V4.out.frozen 0
     simp only[opsAt,zo1,zo2,zo3,zo4,zo5]
     go_wp2_with(fail)
     clear c5 f5
     refine ThenB.mk (Cls.of (below_set hCw.below (by omega))) (fun hCw=>?_)
     have hbV5:Below w.heap.size w (V4.setCell ⟨kV3,0,none⟩ (.int .i64 0)):=below_set HBWV4.out (by omega)
     have h4V5:=H4V4.out.set_other (a:=⟨kV3,0,none⟩) (show kV3≠w.heap.size by omega) (.int .i64 0)
     have h5V5:IsBlk (V4.setCell ⟨kV3,0,none⟩ (.int .i64 0)) kV3 #[.int .i64 0] 3:=by simpa using H5V4.out.set 0 (.int .i64 0)
     have hzV5:V4.heap.size<=(V4.setCell ⟨kV3,0,none⟩ (.int .i64 0)).heap.size:=by simp
     have h13V5:=H13V4.out.set_other (a:=⟨kV3,0,none⟩) (show kV3≠kV1 by omega) (.int .i64 0)
     have h6V5:=H6V4.out.set_other (a:=⟨kV3,0,none⟩) (show kV3≠kV4 by omega) (.int .i64 0)
     generalize V4.setCell ⟨kV3,0,none⟩ (.int .i64 0)=V5 at hCw hbV5 hzV5 h4V5 h5V5 h13V5 h6V5⊢
     have HBWV5:=hid hbV5
     have H4V5:=hid h4V5
     have H5V5:=hid h5V5
     have H13V5:=hid h13V5
     have H6V5:=hid h6V5
     clear hbV5 h4V5 h5V5 h13V5 h6V5
     refine mixB_end [5] (by kernel_rfl) ?_
     have c6:=H6V5.out.cell (i:=0) rfl
     have f6:=H6V5.out.frozen 0
     simp only[opsAt,zo1,zo2,zo3,zo4,zo5]
     have HFIN:=hid (meet_scan (b5:=kV3) (b6:=kV4) H4V5.out H5V5.out H6V5.out HBWV5.out (by omega) (by omega) (by omega))
     clear hCw
     go_wp2
     refine Calm.normal ?_
     go_wp2_with fail
     go_meet
     exact⟨kV3,kV4,rfl,rfl,HFIN.out⟩
    ·simp only[opsAt,zo1,zo2,zo3,zo4,zo5]
     go_wp2_with(fail)
     refine ThenB.mk (hCw.trans ((Below.refl _ _).alloc (Nat.le_refl _) _)) (fun hCw=>?_)
     obtain⟨kV6,hkV6⟩:∃k,k=V1.heap.size:=⟨_,rfl⟩
     have hnV6:IsBlk (World.alloc V1 (.cells #[.string ⟨#[]⟩] 9)) kV6 #[.string ⟨#[]⟩] 9:=by rw[hkV6];exact IsBlk.new _ _ _
     have hbV6:Below V1.heap.size V1 (World.alloc V1 (.cells #[.string ⟨#[]⟩] 9)):=(Below.refl _ _).alloc (Nat.le_refl _) _
     have hgV6:V1.heap.size<=kV6:=by omega
     rw[←hkV6]
     clear hkV6
     generalize World.alloc V1 (.cells #[.string ⟨#[]⟩] 9)=V6 at hCw hnV6 hbV6⊢
     have HBWV6:=hid (below_ext HBWV1.out hbV6)
     have H4V6:=hid (H4V1.out.ext hbV6)
     have H13V6:=hid (H13V1.out.ext hbV6)
     have H6V6:=hid hnV6
     have hzV6:=hbV6.size
     have hlV6:=hnV6.lt
     clear hnV6 hbV6
     refine mixB_ch (i:=2) (fuel:=2) (by kernel_rfl) (by kernel_rfl) ?_
     simp only[opsAt,zo1,zo2,zo3,zo4,zo5]
     go_wp2_with(fail)
     refine ThenB.mk (hCw.trans ((Below.refl _ _).alloc (Nat.le_refl _) _)) (fun hCw=>?_)
     obtain⟨kV7,hkV7⟩:∃k,k=V6.heap.size:=⟨_,rfl⟩
     have hnV7:IsBlk (World.alloc V6 (.cells #[.int .i64 0] 3)) kV7 #[.int .i64 0] 3:=by rw[hkV7];exact IsBlk.new _ _ _
     have hbV7:Below V6.heap.size V6 (World.alloc V6 (.cells #[.int .i64 0] 3)):=(Below.refl _ _).alloc (Nat.le_refl _) _
     have hgV7:V6.heap.size<=kV7:=by omega
     rw[←hkV7]
     clear hkV7
     generalize World.alloc V6 (.cells #[.int .i64 0] 3)=V7 at hCw hnV7 hbV7⊢
     have HBWV7:=hid (below_ext HBWV6.out hbV7)
     have H4V7:=hid (H4V6.out.ext hbV7)
     have H13V7:=hid (H13V6.out.ext hbV7)
     have H6V7:=hid (H6V6.out.ext hbV7)
     have H5V7:=hid hnV7
     have hzV7:=hbV7.size
     have hlV7:=hnV7.lt
     clear hnV7 hbV7
     refine mixB_ch (i:=4) (fuel:=1) (by kernel_rfl) (by kernel_rfl) ?_
     have c5:=H5V7.out.cell (i:=0) rfl
     have f5:=H5V7.out.frozen 0
     simp only[opsAt,zo1,zo2,zo3,zo4,zo5]
     go_wp2_with(fail)
     clear c5 f5
     refine ThenB.mk (Cls.of (below_set hCw.below (by omega))) (fun hCw=>?_)
     have hbV8:Below w.heap.size w (V7.setCell ⟨kV7,0,none⟩ (.int .i64 0)):=below_set HBWV7.out (by omega)
     have h4V8:=H4V7.out.set_other (a:=⟨kV7,0,none⟩) (show kV7≠w.heap.size by omega) (.int .i64 0)
     have h5V8:IsBlk (V7.setCell ⟨kV7,0,none⟩ (.int .i64 0)) kV7 #[.int .i64 0] 3:=by simpa using H5V7.out.set 0 (.int .i64 0)
     have hzV8:V7.heap.size<=(V7.setCell ⟨kV7,0,none⟩ (.int .i64 0)).heap.size:=by simp
     have h13V8:=H13V7.out.set_other (a:=⟨kV7,0,none⟩) (show kV7≠kV1 by omega) (.int .i64 0)
     have h6V8:=H6V7.out.set_other (a:=⟨kV7,0,none⟩) (show kV7≠kV6 by omega) (.int .i64 0)
     generalize V7.setCell ⟨kV7,0,none⟩ (.int .i64 0)=V8 at hCw hbV8 hzV8 h4V8 h5V8 h13V8 h6V8⊢
     have HBWV8:=hid hbV8
     have H4V8:=hid h4V8
     have H5V8:=hid h5V8
     have H13V8:=hid h13V8
     have H6V8:=hid h6V8
     clear hbV8 h4V8 h5V8 h13V8 h6V8
     refine mixB_end [5] (by kernel_rfl) ?_
     have c6:=H6V8.out.cell (i:=0) rfl
     have f6:=H6V8.out.frozen 0
     simp only[opsAt,zo1,zo2,zo3,zo4,zo5]
     have HFIN:=hid (meet_scan (b5:=kV7) (b6:=kV6) H4V8.out H5V8.out H6V8.out HBWV8.out (by omega) (by omega) (by omega))
     clear hCw
     go_wp2
     refine Calm.normal ?_
     go_wp2_with fail
     go_meet
     exact⟨kV7,kV6,rfl,rfl,HFIN.out⟩
   ·simp only[opsAt,zo1,zo2,zo3,zo4,zo5]
    go_wp2_with(fail)
    refine ThenB.mk (hCw.trans ((Below.refl _ _).alloc (Nat.le_refl _) _)) (fun hCw=>?_)
    obtain⟨kV9,hkV9⟩:∃k,k=V1.heap.size:=⟨_,rfl⟩
    have hnV9:IsBlk (World.alloc V1 (.cells #[.int .i64 0] 3)) kV9 #[.int .i64 0] 3:=by rw[hkV9];exact IsBlk.new _ _ _
    have hbV9:Below V1.heap.size V1 (World.alloc V1 (.cells #[.int .i64 0] 3)):=(Below.refl _ _).alloc (Nat.le_refl _) _
    have hgV9:V1.heap.size<=kV9:=by omega
    rw[←hkV9]
    clear hkV9
    generalize World.alloc V1 (.cells #[.int .i64 0] 3)=V9 at hCw hnV9 hbV9⊢
    have HBWV9:=hid (below_ext HBWV1.out hbV9)
    have H4V9:=hid (H4V1.out.ext hbV9)
    have H13V9:=hid (H13V1.out.ext hbV9)
    have H5V9:=hid hnV9
    have hzV9:=hbV9.size
    have hlV9:=hnV9.lt
    clear hnV9 hbV9
    refine mixB_br (i:=1) (j:=3) (fuel:=3) (by kernel_rfl) (by kernel_rfl) ?_ ?_
    ·have hcv:=conv_at V9 kV1 H13V9.out
     simp only[opsAt,zo1,zo2,zo3,zo4,zo5]
     go_wp2_with(fail)
     clear hcv
     refine ThenB.mk hCw (fun hCw=>?_)
     refine mixB_ch (i:=3) (fuel:=2) (by kernel_rfl) (by kernel_rfl) ?_
     simp only[opsAt,zo1,zo2,zo3,zo4,zo5]
     go_wp2_with(fail)
     refine ThenB.mk (hCw.trans ((Below.refl _ _).alloc (Nat.le_refl _) _)) (fun hCw=>?_)
     obtain⟨kV11,hkV11⟩:∃k,k=V9.heap.size:=⟨_,rfl⟩
     have hnV11:IsBlk (World.alloc V9 (.cells #[.string ⟨#[]⟩] 9)) kV11 #[.string ⟨#[]⟩] 9:=by rw[hkV11];exact IsBlk.new _ _ _
     have hbV11:Below V9.heap.size V9 (World.alloc V9 (.cells #[.string ⟨#[]⟩] 9)):=(Below.refl _ _).alloc (Nat.le_refl _) _
     have hgV11:V9.heap.size<=kV11:=by omega
     rw[←hkV11]
     clear hkV11
     generalize World.alloc V9 (.cells #[.string ⟨#[]⟩] 9)=V11 at hCw hnV11 hbV11⊢
     have HBWV11:=hid (below_ext HBWV9.out hbV11)
     have H4V11:=hid (H4V9.out.ext hbV11)
     have H13V11:=hid (H13V9.out.ext hbV11)
     have H5V11:=hid (H5V9.out.ext hbV11)
     have H6V11:=hid hnV11
     have hzV11:=hbV11.size
     have hlV11:=hnV11.lt
     clear hnV11 hbV11
     refine mixB_ch (i:=4) (fuel:=1) (by kernel_rfl) (by kernel_rfl) ?_
     have c5:=H5V11.out.cell (i:=0) rfl
     have f5:=H5V11.out.frozen 0
     simp only[opsAt,zo1,zo2,zo3,zo4,zo5]
     go_wp2_with(fail)
     clear c5 f5
     refine ThenB.mk (Cls.of (below_set hCw.below (by omega))) (fun hCw=>?_)
     have hbV12:Below w.heap.size w (V11.setCell ⟨kV9,0,none⟩ (.int .i64 0)):=below_set HBWV11.out (by omega)
     have h4V12:=H4V11.out.set_other (a:=⟨kV9,0,none⟩) (show kV9≠w.heap.size by omega) (.int .i64 0)
     have h5V12:IsBlk (V11.setCell ⟨kV9,0,none⟩ (.int .i64 0)) kV9 #[.int .i64 0] 3:=by simpa using H5V11.out.set 0 (.int .i64 0)
     have hzV12:V11.heap.size<=(V11.setCell ⟨kV9,0,none⟩ (.int .i64 0)).heap.size:=by simp
     have h13V12:=H13V11.out.set_other (a:=⟨kV9,0,none⟩) (show kV9≠kV1 by omega) (.int .i64 0)
     have h6V12:=H6V11.out.set_other (a:=⟨kV9,0,none⟩) (show kV9≠kV11 by omega) (.int .i64 0)
     generalize V11.setCell ⟨kV9,0,none⟩ (.int .i64 0)=V12 at hCw hbV12 hzV12 h4V12 h5V12 h13V12 h6V12⊢
     have HBWV12:=hid hbV12
     have H4V12:=hid h4V12
     have H5V12:=hid h5V12
     have H13V12:=hid h13V12
     have H6V12:=hid h6V12
     clear hbV12 h4V12 h5V12 h13V12 h6V12
     refine mixB_end [5] (by kernel_rfl) ?_
     have c6:=H6V12.out.cell (i:=0) rfl
     have f6:=H6V12.out.frozen 0
     simp only[opsAt,zo1,zo2,zo3,zo4,zo5]
     have HFIN:=hid (meet_scan (b5:=kV9) (b6:=kV11) H4V12.out H5V12.out H6V12.out HBWV12.out (by omega) (by omega) (by omega))
     clear hCw
     go_wp2
     refine Calm.normal ?_
     go_wp2_with fail
     go_meet
     exact⟨kV9,kV11,rfl,rfl,HFIN.out⟩
    ·simp only[opsAt,zo1,zo2,zo3,zo4,zo5]
     go_wp2_with(fail)
     refine ThenB.mk (hCw.trans ((Below.refl _ _).alloc (Nat.le_refl _) _)) (fun hCw=>?_)
     obtain⟨kV13,hkV13⟩:∃k,k=V9.heap.size:=⟨_,rfl⟩
     have hnV13:IsBlk (World.alloc V9 (.cells #[.string ⟨#[]⟩] 9)) kV13 #[.string ⟨#[]⟩] 9:=by rw[hkV13];exact IsBlk.new _ _ _
     have hbV13:Below V9.heap.size V9 (World.alloc V9 (.cells #[.string ⟨#[]⟩] 9)):=(Below.refl _ _).alloc (Nat.le_refl _) _
     have hgV13:V9.heap.size<=kV13:=by omega
     rw[←hkV13]
     clear hkV13
     generalize World.alloc V9 (.cells #[.string ⟨#[]⟩] 9)=V13 at hCw hnV13 hbV13⊢
     have HBWV13:=hid (below_ext HBWV9.out hbV13)
     have H4V13:=hid (H4V9.out.ext hbV13)
     have H13V13:=hid (H13V9.out.ext hbV13)
     have H5V13:=hid (H5V9.out.ext hbV13)
     have H6V13:=hid hnV13
     have hzV13:=hbV13.size
     have hlV13:=hnV13.lt
     clear hnV13 hbV13
     refine mixB_br (i:=1) (j:=4) (fuel:=2) (by kernel_rfl) (by kernel_rfl) ?_ ?_
     ·have hcv:=conv_at V13 kV1 H13V13.out
      simp only[opsAt,zo1,zo2,zo3,zo4,zo5]
      go_wp2_with(fail)
      clear hcv
      refine ThenB.mk hCw (fun hCw=>?_)
      refine mixB_ch (i:=4) (fuel:=1) (by kernel_rfl) (by kernel_rfl) ?_
      have c5:=H5V13.out.cell (i:=0) rfl
      have f5:=H5V13.out.frozen 0
      simp only[opsAt,zo1,zo2,zo3,zo4,zo5]
      go_wp2_with(fail)
      clear c5 f5
      refine ThenB.mk (Cls.of (below_set hCw.below (by omega))) (fun hCw=>?_)
      have hbV15:Below w.heap.size w (V13.setCell ⟨kV9,0,none⟩ (.int .i64 0)):=below_set HBWV13.out (by omega)
      have h4V15:=H4V13.out.set_other (a:=⟨kV9,0,none⟩) (show kV9≠w.heap.size by omega) (.int .i64 0)
      have h5V15:IsBlk (V13.setCell ⟨kV9,0,none⟩ (.int .i64 0)) kV9 #[.int .i64 0] 3:=by simpa using H5V13.out.set 0 (.int .i64 0)
      have hzV15:V13.heap.size<=(V13.setCell ⟨kV9,0,none⟩ (.int .i64 0)).heap.size:=by simp
      have h13V15:=H13V13.out.set_other (a:=⟨kV9,0,none⟩) (show kV9≠kV1 by omega) (.int .i64 0)
      have h6V15:=H6V13.out.set_other (a:=⟨kV9,0,none⟩) (show kV9≠kV13 by omega) (.int .i64 0)
      generalize V13.setCell ⟨kV9,0,none⟩ (.int .i64 0)=V15 at hCw hbV15 hzV15 h4V15 h5V15 h13V15 h6V15⊢
      have HBWV15:=hid hbV15
      have H4V15:=hid h4V15
      have H5V15:=hid h5V15
      have H13V15:=hid h13V15
      have H6V15:=hid h6V15
      clear hbV15 h4V15 h5V15 h13V15 h6V15
      refine mixB_end [5] (by kernel_rfl) ?_
      have c6:=H6V15.out.cell (i:=0) rfl
      have f6:=H6V15.out.frozen 0
      simp only[opsAt,zo1,zo2,zo3,zo4,zo5]
      have HFIN:=hid (meet_scan (b5:=kV9) (b6:=kV13) H4V15.out H5V15.out H6V15.out HBWV15.out (by omega) (by omega) (by omega))
      clear hCw
      go_wp2
      refine Calm.normal ?_
      go_wp2_with fail
      go_meet
      exact⟨kV9,kV13,rfl,rfl,HFIN.out⟩
     ·have c5:=H5V13.out.cell (i:=0) rfl
      have f5:=H5V13.out.frozen 0
      simp only[opsAt,zo1,zo2,zo3,zo4,zo5]
      go_wp2_with(fail)
      clear c5 f5
      refine ThenB.mk (Cls.of (below_set hCw.below (by omega))) (fun hCw=>?_)
      have hbV16:Below w.heap.size w (V13.setCell ⟨kV9,0,none⟩ (.int .i64 0)):=below_set HBWV13.out (by omega)
      have h4V16:=H4V13.out.set_other (a:=⟨kV9,0,none⟩) (show kV9≠w.heap.size by omega) (.int .i64 0)
      have h5V16:IsBlk (V13.setCell ⟨kV9,0,none⟩ (.int .i64 0)) kV9 #[.int .i64 0] 3:=by simpa using H5V13.out.set 0 (.int .i64 0)
      have hzV16:V13.heap.size<=(V13.setCell ⟨kV9,0,none⟩ (.int .i64 0)).heap.size:=by simp
      have h13V16:=H13V13.out.set_other (a:=⟨kV9,0,none⟩) (show kV9≠kV1 by omega) (.int .i64 0)
      have h6V16:=H6V13.out.set_other (a:=⟨kV9,0,none⟩) (show kV9≠kV13 by omega) (.int .i64 0)
      generalize V13.setCell ⟨kV9,0,none⟩ (.int .i64 0)=V16 at hCw hbV16 hzV16 h4V16 h5V16 h13V16 h6V16⊢
      have HBWV16:=hid hbV16
      have H4V16:=hid h4V16
      have H5V16:=hid h5V16
      have H13V16:=hid h13V16
      have H6V16:=hid h6V16
      clear hbV16 h4V16 h5V16 h13V16 h6V16
      refine mixB_ch (i:=1) (fuel:=1) (by kernel_rfl) (by kernel_rfl) ?_
      have hcv:=conv_at V16 kV1 H13V16.out
      simp only[opsAt,zo1,zo2,zo3,zo4,zo5]
      go_wp2_with(fail)
      clear hcv
      refine ThenB.mk hCw (fun hCw=>?_)
      refine mixB_end [5] (by kernel_rfl) ?_
      have c6:=H6V16.out.cell (i:=0) rfl
      have f6:=H6V16.out.frozen 0
      simp only[opsAt,zo1,zo2,zo3,zo4,zo5]
      have HFIN:=hid (meet_scan (b5:=kV9) (b6:=kV13) H4V16.out H5V16.out H6V16.out HBWV16.out (by omega) (by omega) (by omega))
      clear hCw
      go_wp2
      refine Calm.normal ?_
      go_wp2_with fail
      go_meet
      exact⟨kV9,kV13,rfl,rfl,HFIN.out⟩
   ·simp only[opsAt,zo1,zo2,zo3,zo4,zo5]
    go_wp2_with(fail)
    refine ThenB.mk (hCw.trans ((Below.refl _ _).alloc (Nat.le_refl _) _)) (fun hCw=>?_)
    obtain⟨kV18,hkV18⟩:∃k,k=V1.heap.size:=⟨_,rfl⟩
    have hnV18:IsBlk (World.alloc V1 (.cells #[.string ⟨#[]⟩] 9)) kV18 #[.string ⟨#[]⟩] 9:=by rw[hkV18];exact IsBlk.new _ _ _
    have hbV18:Below V1.heap.size V1 (World.alloc V1 (.cells #[.string ⟨#[]⟩] 9)):=(Below.refl _ _).alloc (Nat.le_refl _) _
    have hgV18:V1.heap.size<=kV18:=by omega
    rw[←hkV18]
    clear hkV18
    generalize World.alloc V1 (.cells #[.string ⟨#[]⟩] 9)=V18 at hCw hnV18 hbV18⊢
    have HBWV18:=hid (below_ext HBWV1.out hbV18)
    have H4V18:=hid (H4V1.out.ext hbV18)
    have H13V18:=hid (H13V1.out.ext hbV18)
    have H6V18:=hid hnV18
    have hzV18:=hbV18.size
    have hlV18:=hnV18.lt
    clear hnV18 hbV18
    refine mixB_br (i:=1) (j:=2) (fuel:=3) (by kernel_rfl) (by kernel_rfl) ?_ ?_
    ·have hcv:=conv_at V18 kV1 H13V18.out
     simp only[opsAt,zo1,zo2,zo3,zo4,zo5]
     go_wp2_with(fail)
     clear hcv
     refine ThenB.mk hCw (fun hCw=>?_)
     refine mixB_ch (i:=2) (fuel:=2) (by kernel_rfl) (by kernel_rfl) ?_
     simp only[opsAt,zo1,zo2,zo3,zo4,zo5]
     go_wp2_with(fail)
     refine ThenB.mk (hCw.trans ((Below.refl _ _).alloc (Nat.le_refl _) _)) (fun hCw=>?_)
     obtain⟨kV20,hkV20⟩:∃k,k=V18.heap.size:=⟨_,rfl⟩
     have hnV20:IsBlk (World.alloc V18 (.cells #[.int .i64 0] 3)) kV20 #[.int .i64 0] 3:=by rw[hkV20];exact IsBlk.new _ _ _
     have hbV20:Below V18.heap.size V18 (World.alloc V18 (.cells #[.int .i64 0] 3)):=(Below.refl _ _).alloc (Nat.le_refl _) _
     have hgV20:V18.heap.size<=kV20:=by omega
     rw[←hkV20]
     clear hkV20
     generalize World.alloc V18 (.cells #[.int .i64 0] 3)=V20 at hCw hnV20 hbV20⊢
     have HBWV20:=hid (below_ext HBWV18.out hbV20)
     have H4V20:=hid (H4V18.out.ext hbV20)
     have H13V20:=hid (H13V18.out.ext hbV20)
     have H6V20:=hid (H6V18.out.ext hbV20)
     have H5V20:=hid hnV20
     have hzV20:=hbV20.size
     have hlV20:=hnV20.lt
     clear hnV20 hbV20
     refine mixB_ch (i:=4) (fuel:=1) (by kernel_rfl) (by kernel_rfl) ?_
     have c5:=H5V20.out.cell (i:=0) rfl
     have f5:=H5V20.out.frozen 0
     simp only[opsAt,zo1,zo2,zo3,zo4,zo5]
     go_wp2_with(fail)
     clear c5 f5
     refine ThenB.mk (Cls.of (below_set hCw.below (by omega))) (fun hCw=>?_)
     have hbV21:Below w.heap.size w (V20.setCell ⟨kV20,0,none⟩ (.int .i64 0)):=below_set HBWV20.out (by omega)
     have h4V21:=H4V20.out.set_other (a:=⟨kV20,0,none⟩) (show kV20≠w.heap.size by omega) (.int .i64 0)
     have h5V21:IsBlk (V20.setCell ⟨kV20,0,none⟩ (.int .i64 0)) kV20 #[.int .i64 0] 3:=by simpa using H5V20.out.set 0 (.int .i64 0)
     have hzV21:V20.heap.size<=(V20.setCell ⟨kV20,0,none⟩ (.int .i64 0)).heap.size:=by simp
     have h13V21:=H13V20.out.set_other (a:=⟨kV20,0,none⟩) (show kV20≠kV1 by omega) (.int .i64 0)
     have h6V21:=H6V20.out.set_other (a:=⟨kV20,0,none⟩) (show kV20≠kV18 by omega) (.int .i64 0)
     generalize V20.setCell ⟨kV20,0,none⟩ (.int .i64 0)=V21 at hCw hbV21 hzV21 h4V21 h5V21 h13V21 h6V21⊢
     have HBWV21:=hid hbV21
     have H4V21:=hid h4V21
     have H5V21:=hid h5V21
     have H13V21:=hid h13V21
     have H6V21:=hid h6V21
     clear hbV21 h4V21 h5V21 h13V21 h6V21
     refine mixB_end [5] (by kernel_rfl) ?_
     have c6:=H6V21.out.cell (i:=0) rfl
     have f6:=H6V21.out.frozen 0
     simp only[opsAt,zo1,zo2,zo3,zo4,zo5]
     have HFIN:=hid (meet_scan (b5:=kV20) (b6:=kV18) H4V21.out H5V21.out H6V21.out HBWV21.out (by omega) (by omega) (by omega))
     clear hCw
     go_wp2
     refine Calm.normal ?_
     go_wp2_with fail
     go_meet
     exact⟨kV20,kV18,rfl,rfl,HFIN.out⟩
    ·simp only[opsAt,zo1,zo2,zo3,zo4,zo5]
     go_wp2_with(fail)
     refine ThenB.mk (hCw.trans ((Below.refl _ _).alloc (Nat.le_refl _) _)) (fun hCw=>?_)
     obtain⟨kV22,hkV22⟩:∃k,k=V18.heap.size:=⟨_,rfl⟩
     have hnV22:IsBlk (World.alloc V18 (.cells #[.int .i64 0] 3)) kV22 #[.int .i64 0] 3:=by rw[hkV22];exact IsBlk.new _ _ _
     have hbV22:Below V18.heap.size V18 (World.alloc V18 (.cells #[.int .i64 0] 3)):=(Below.refl _ _).alloc (Nat.le_refl _) _
     have hgV22:V18.heap.size<=kV22:=by omega
     rw[←hkV22]
     clear hkV22
     generalize World.alloc V18 (.cells #[.int .i64 0] 3)=V22 at hCw hnV22 hbV22⊢
     have HBWV22:=hid (below_ext HBWV18.out hbV22)
     have H4V22:=hid (H4V18.out.ext hbV22)
     have H13V22:=hid (H13V18.out.ext hbV22)
     have H6V22:=hid (H6V18.out.ext hbV22)
     have H5V22:=hid hnV22
     have hzV22:=hbV22.size
     have hlV22:=hnV22.lt
     clear hnV22 hbV22
     refine mixB_br (i:=1) (j:=4) (fuel:=2) (by kernel_rfl) (by kernel_rfl) ?_ ?_
     ·have hcv:=conv_at V22 kV1 H13V22.out
      simp only[opsAt,zo1,zo2,zo3,zo4,zo5]
      go_wp2_with(fail)
      clear hcv
      refine ThenB.mk hCw (fun hCw=>?_)
      refine mixB_ch (i:=4) (fuel:=1) (by kernel_rfl) (by kernel_rfl) ?_
      have c5:=H5V22.out.cell (i:=0) rfl
      have f5:=H5V22.out.frozen 0
      simp only[opsAt,zo1,zo2,zo3,zo4,zo5]
      go_wp2_with(fail)
      clear c5 f5
      refine ThenB.mk (Cls.of (below_set hCw.below (by omega))) (fun hCw=>?_)
      have hbV24:Below w.heap.size w (V22.setCell ⟨kV22,0,none⟩ (.int .i64 0)):=below_set HBWV22.out (by omega)
      have h4V24:=H4V22.out.set_other (a:=⟨kV22,0,none⟩) (show kV22≠w.heap.size by omega) (.int .i64 0)
      have h5V24:IsBlk (V22.setCell ⟨kV22,0,none⟩ (.int .i64 0)) kV22 #[.int .i64 0] 3:=by simpa using H5V22.out.set 0 (.int .i64 0)
      have hzV24:V22.heap.size<=(V22.setCell ⟨kV22,0,none⟩ (.int .i64 0)).heap.size:=by simp
      have h13V24:=H13V22.out.set_other (a:=⟨kV22,0,none⟩) (show kV22≠kV1 by omega) (.int .i64 0)
      have h6V24:=H6V22.out.set_other (a:=⟨kV22,0,none⟩) (show kV22≠kV18 by omega) (.int .i64 0)
      generalize V22.setCell ⟨kV22,0,none⟩ (.int .i64 0)=V24 at hCw hbV24 hzV24 h4V24 h5V24 h13V24 h6V24⊢
      have HBWV24:=hid hbV24
      have H4V24:=hid h4V24
      have H5V24:=hid h5V24
      have H13V24:=hid h13V24
      have H6V24:=hid h6V24
      clear hbV24 h4V24 h5V24 h13V24 h6V24
      refine mixB_end [5] (by kernel_rfl) ?_
      have c6:=H6V24.out.cell (i:=0) rfl
      have f6:=H6V24.out.frozen 0
      simp only[opsAt,zo1,zo2,zo3,zo4,zo5]
      have HFIN:=hid (meet_scan (b5:=kV22) (b6:=kV18) H4V24.out H5V24.out H6V24.out HBWV24.out (by omega) (by omega) (by omega))
      clear hCw
      go_wp2
      refine Calm.normal ?_
      go_wp2_with fail
      go_meet
      exact⟨kV22,kV18,rfl,rfl,HFIN.out⟩
     ·have c5:=H5V22.out.cell (i:=0) rfl
      have f5:=H5V22.out.frozen 0
      simp only[opsAt,zo1,zo2,zo3,zo4,zo5]
      go_wp2_with(fail)
      clear c5 f5
      refine ThenB.mk (Cls.of (below_set hCw.below (by omega))) (fun hCw=>?_)
      have hbV25:Below w.heap.size w (V22.setCell ⟨kV22,0,none⟩ (.int .i64 0)):=below_set HBWV22.out (by omega)
      have h4V25:=H4V22.out.set_other (a:=⟨kV22,0,none⟩) (show kV22≠w.heap.size by omega) (.int .i64 0)
      have h5V25:IsBlk (V22.setCell ⟨kV22,0,none⟩ (.int .i64 0)) kV22 #[.int .i64 0] 3:=by simpa using H5V22.out.set 0 (.int .i64 0)
      have hzV25:V22.heap.size<=(V22.setCell ⟨kV22,0,none⟩ (.int .i64 0)).heap.size:=by simp
      have h13V25:=H13V22.out.set_other (a:=⟨kV22,0,none⟩) (show kV22≠kV1 by omega) (.int .i64 0)
      have h6V25:=H6V22.out.set_other (a:=⟨kV22,0,none⟩) (show kV22≠kV18 by omega) (.int .i64 0)
      generalize V22.setCell ⟨kV22,0,none⟩ (.int .i64 0)=V25 at hCw hbV25 hzV25 h4V25 h5V25 h13V25 h6V25⊢
      have HBWV25:=hid hbV25
      have H4V25:=hid h4V25
      have H5V25:=hid h5V25
      have H13V25:=hid h13V25
      have H6V25:=hid h6V25
      clear hbV25 h4V25 h5V25 h13V25 h6V25
      refine mixB_ch (i:=1) (fuel:=1) (by kernel_rfl) (by kernel_rfl) ?_
      have hcv:=conv_at V25 kV1 H13V25.out
      simp only[opsAt,zo1,zo2,zo3,zo4,zo5]
      go_wp2_with(fail)
      clear hcv
      refine ThenB.mk hCw (fun hCw=>?_)
      refine mixB_end [5] (by kernel_rfl) ?_
      have c6:=H6V25.out.cell (i:=0) rfl
      have f6:=H6V25.out.frozen 0
      simp only[opsAt,zo1,zo2,zo3,zo4,zo5]
      have HFIN:=hid (meet_scan (b5:=kV22) (b6:=kV18) H4V25.out H5V25.out H6V25.out HBWV25.out (by omega) (by omega) (by omega))
      clear hCw
      go_wp2
      refine Calm.normal ?_
      go_wp2_with fail
      go_meet
      exact⟨kV22,kV18,rfl,rfl,HFIN.out⟩
  ·simp only[opsAt,zo1,zo2,zo3,zo4,zo5]
   go_wp2_with(fail)
   refine ThenB.mk (hCw.trans ((Below.refl _ _).alloc (Nat.le_refl _) _)) (fun hCw=>?_)
   obtain⟨kV27,hkV27⟩:∃k,k=V0.heap.size:=⟨_,rfl⟩
   have hnV27:IsBlk (World.alloc V0 (.cells #[.int .i64 0] 3)) kV27 #[.int .i64 0] 3:=by rw[hkV27];exact IsBlk.new _ _ _
   have hbV27:Below V0.heap.size V0 (World.alloc V0 (.cells #[.int .i64 0] 3)):=(Below.refl _ _).alloc (Nat.le_refl _) _
   have hgV27:V0.heap.size<=kV27:=by omega
   rw[←hkV27]
   clear hkV27
   generalize World.alloc V0 (.cells #[.int .i64 0] 3)=V27 at hCw hnV27 hbV27⊢
   have HBWV27:=hid (below_ext HBWV0.out hbV27)
   have H4V27:=hid (H4V0.out.ext hbV27)
   have H5V27:=hid hnV27
   have hzV27:=hbV27.size
   have hlV27:=hnV27.lt
   clear hnV27 hbV27
   refine mixB_br (i:=0) (j:=3) (fuel:=4) (by kernel_rfl) (by kernel_rfl) ?_ ?_
   ·have hmk:=make32 V27
    simp only[opsAt,zo1,zo2,zo3,zo4,zo5]
    go_wp2_with(fail)
    clear hmk
    refine ThenB.mk (hCw.trans ((Below.refl _ _).alloc (Nat.le_refl _) _)) (fun hCw=>?_)
    obtain⟨kV28,hkV28⟩:∃k,k=V27.heap.size:=⟨_,rfl⟩
    have hnV28:IsBlk (World.alloc V27 (.cells (u8s zero32).toArray 5)) kV28 (u8s zero32).toArray 5:=by rw[hkV28];exact IsBlk.new _ _ _
    have hbV28:Below V27.heap.size V27 (World.alloc V27 (.cells (u8s zero32).toArray 5)):=(Below.refl _ _).alloc (Nat.le_refl _) _
    have hgV28:V27.heap.size<=kV28:=by omega
    rw[←hkV28]
    clear hkV28
    generalize World.alloc V27 (.cells (u8s zero32).toArray 5)=V28 at hCw hnV28 hbV28⊢
    have HBWV28:=hid (below_ext HBWV27.out hbV28)
    have H4V28:=hid (H4V27.out.ext hbV28)
    have H5V28:=hid (H5V27.out.ext hbV28)
    have H13V28:=hid hnV28
    have hzV28:=hbV28.size
    have hlV28:=hnV28.lt
    clear hnV28 hbV28
    refine mixB_br (i:=1) (j:=3) (fuel:=3) (by kernel_rfl) (by kernel_rfl) ?_ ?_
    ·have hcv:=conv_at V28 kV28 H13V28.out
     simp only[opsAt,zo1,zo2,zo3,zo4,zo5]
     go_wp2_with(fail)
     clear hcv
     refine ThenB.mk hCw (fun hCw=>?_)
     refine mixB_ch (i:=3) (fuel:=2) (by kernel_rfl) (by kernel_rfl) ?_
     simp only[opsAt,zo1,zo2,zo3,zo4,zo5]
     go_wp2_with(fail)
     refine ThenB.mk (hCw.trans ((Below.refl _ _).alloc (Nat.le_refl _) _)) (fun hCw=>?_)
     obtain⟨kV30,hkV30⟩:∃k,k=V28.heap.size:=⟨_,rfl⟩
     have hnV30:IsBlk (World.alloc V28 (.cells #[.string ⟨#[]⟩] 9)) kV30 #[.string ⟨#[]⟩] 9:=by rw[hkV30];exact IsBlk.new _ _ _
     have hbV30:Below V28.heap.size V28 (World.alloc V28 (.cells #[.string ⟨#[]⟩] 9)):=(Below.refl _ _).alloc (Nat.le_refl _) _
     have hgV30:V28.heap.size<=kV30:=by omega
     rw[←hkV30]
     clear hkV30
     generalize World.alloc V28 (.cells #[.string ⟨#[]⟩] 9)=V30 at hCw hnV30 hbV30⊢
     have HBWV30:=hid (below_ext HBWV28.out hbV30)
     have H4V30:=hid (H4V28.out.ext hbV30)
     have H13V30:=hid (H13V28.out.ext hbV30)
     have H5V30:=hid (H5V28.out.ext hbV30)
     have H6V30:=hid hnV30
     have hzV30:=hbV30.size
     have hlV30:=hnV30.lt
     clear hnV30 hbV30
     refine mixB_ch (i:=4) (fuel:=1) (by kernel_rfl) (by kernel_rfl) ?_
     have c5:=H5V30.out.cell (i:=0) rfl
     have f5:=H5V30.out.frozen 0
     simp only[opsAt,zo1,zo2,zo3,zo4,zo5]
     go_wp2_with(fail)
     clear c5 f5
     refine ThenB.mk (Cls.of (below_set hCw.below (by omega))) (fun hCw=>?_)
     have hbV31:Below w.heap.size w (V30.setCell ⟨kV27,0,none⟩ (.int .i64 0)):=below_set HBWV30.out (by omega)
     have h4V31:=H4V30.out.set_other (a:=⟨kV27,0,none⟩) (show kV27≠w.heap.size by omega) (.int .i64 0)
     have h5V31:IsBlk (V30.setCell ⟨kV27,0,none⟩ (.int .i64 0)) kV27 #[.int .i64 0] 3:=by simpa using H5V30.out.set 0 (.int .i64 0)
     have hzV31:V30.heap.size<=(V30.setCell ⟨kV27,0,none⟩ (.int .i64 0)).heap.size:=by simp
     have h13V31:=H13V30.out.set_other (a:=⟨kV27,0,none⟩) (show kV27≠kV28 by omega) (.int .i64 0)
     have h6V31:=H6V30.out.set_other (a:=⟨kV27,0,none⟩) (show kV27≠kV30 by omega) (.int .i64 0)
     generalize V30.setCell ⟨kV27,0,none⟩ (.int .i64 0)=V31 at hCw hbV31 hzV31 h4V31 h5V31 h13V31 h6V31⊢
     have HBWV31:=hid hbV31
     have H4V31:=hid h4V31
     have H5V31:=hid h5V31
     have H13V31:=hid h13V31
     have H6V31:=hid h6V31
     clear hbV31 h4V31 h5V31 h13V31 h6V31
     refine mixB_end [5] (by kernel_rfl) ?_
     have c6:=H6V31.out.cell (i:=0) rfl
     have f6:=H6V31.out.frozen 0
     simp only[opsAt,zo1,zo2,zo3,zo4,zo5]
     have HFIN:=hid (meet_scan (b5:=kV27) (b6:=kV30) H4V31.out H5V31.out H6V31.out HBWV31.out (by omega) (by omega) (by omega))
     clear hCw
     go_wp2
     refine Calm.normal ?_
     go_wp2_with fail
     go_meet
     exact⟨kV27,kV30,rfl,rfl,HFIN.out⟩
    ·simp only[opsAt,zo1,zo2,zo3,zo4,zo5]
     go_wp2_with(fail)
     refine ThenB.mk (hCw.trans ((Below.refl _ _).alloc (Nat.le_refl _) _)) (fun hCw=>?_)
     obtain⟨kV32,hkV32⟩:∃k,k=V28.heap.size:=⟨_,rfl⟩
     have hnV32:IsBlk (World.alloc V28 (.cells #[.string ⟨#[]⟩] 9)) kV32 #[.string ⟨#[]⟩] 9:=by rw[hkV32];exact IsBlk.new _ _ _
     have hbV32:Below V28.heap.size V28 (World.alloc V28 (.cells #[.string ⟨#[]⟩] 9)):=(Below.refl _ _).alloc (Nat.le_refl _) _
     have hgV32:V28.heap.size<=kV32:=by omega
     rw[←hkV32]
     clear hkV32
     generalize World.alloc V28 (.cells #[.string ⟨#[]⟩] 9)=V32 at hCw hnV32 hbV32⊢
     have HBWV32:=hid (below_ext HBWV28.out hbV32)
     have H4V32:=hid (H4V28.out.ext hbV32)
     have H13V32:=hid (H13V28.out.ext hbV32)
     have H5V32:=hid (H5V28.out.ext hbV32)
     have H6V32:=hid hnV32
     have hzV32:=hbV32.size
     have hlV32:=hnV32.lt
     clear hnV32 hbV32
     refine mixB_br (i:=1) (j:=4) (fuel:=2) (by kernel_rfl) (by kernel_rfl) ?_ ?_
     ·have hcv:=conv_at V32 kV28 H13V32.out
      simp only[opsAt,zo1,zo2,zo3,zo4,zo5]
      go_wp2_with(fail)
      clear hcv
      refine ThenB.mk hCw (fun hCw=>?_)
      refine mixB_ch (i:=4) (fuel:=1) (by kernel_rfl) (by kernel_rfl) ?_
      have c5:=H5V32.out.cell (i:=0) rfl
      have f5:=H5V32.out.frozen 0
      simp only[opsAt,zo1,zo2,zo3,zo4,zo5]
      go_wp2_with(fail)
      clear c5 f5
      refine ThenB.mk (Cls.of (below_set hCw.below (by omega))) (fun hCw=>?_)
      have hbV34:Below w.heap.size w (V32.setCell ⟨kV27,0,none⟩ (.int .i64 0)):=below_set HBWV32.out (by omega)
      have h4V34:=H4V32.out.set_other (a:=⟨kV27,0,none⟩) (show kV27≠w.heap.size by omega) (.int .i64 0)
      have h5V34:IsBlk (V32.setCell ⟨kV27,0,none⟩ (.int .i64 0)) kV27 #[.int .i64 0] 3:=by simpa using H5V32.out.set 0 (.int .i64 0)
      have hzV34:V32.heap.size<=(V32.setCell ⟨kV27,0,none⟩ (.int .i64 0)).heap.size:=by simp
      have h13V34:=H13V32.out.set_other (a:=⟨kV27,0,none⟩) (show kV27≠kV28 by omega) (.int .i64 0)
      have h6V34:=H6V32.out.set_other (a:=⟨kV27,0,none⟩) (show kV27≠kV32 by omega) (.int .i64 0)
      generalize V32.setCell ⟨kV27,0,none⟩ (.int .i64 0)=V34 at hCw hbV34 hzV34 h4V34 h5V34 h13V34 h6V34⊢
      have HBWV34:=hid hbV34
      have H4V34:=hid h4V34
      have H5V34:=hid h5V34
      have H13V34:=hid h13V34
      have H6V34:=hid h6V34
      clear hbV34 h4V34 h5V34 h13V34 h6V34
      refine mixB_end [5] (by kernel_rfl) ?_
      have c6:=H6V34.out.cell (i:=0) rfl
      have f6:=H6V34.out.frozen 0
      simp only[opsAt,zo1,zo2,zo3,zo4,zo5]
      have HFIN:=hid (meet_scan (b5:=kV27) (b6:=kV32) H4V34.out H5V34.out H6V34.out HBWV34.out (by omega) (by omega) (by omega))
      clear hCw
      go_wp2
      refine Calm.normal ?_
      go_wp2_with fail
      go_meet
      exact⟨kV27,kV32,rfl,rfl,HFIN.out⟩
     ·have c5:=H5V32.out.cell (i:=0) rfl
      have f5:=H5V32.out.frozen 0
      simp only[opsAt,zo1,zo2,zo3,zo4,zo5]
      go_wp2_with(fail)
      clear c5 f5
      refine ThenB.mk (Cls.of (below_set hCw.below (by omega))) (fun hCw=>?_)
      have hbV35:Below w.heap.size w (V32.setCell ⟨kV27,0,none⟩ (.int .i64 0)):=below_set HBWV32.out (by omega)
      have h4V35:=H4V32.out.set_other (a:=⟨kV27,0,none⟩) (show kV27≠w.heap.size by omega) (.int .i64 0)
      have h5V35:IsBlk (V32.setCell ⟨kV27,0,none⟩ (.int .i64 0)) kV27 #[.int .i64 0] 3:=by simpa using H5V32.out.set 0 (.int .i64 0)
      have hzV35:V32.heap.size<=(V32.setCell ⟨kV27,0,none⟩ (.int .i64 0)).heap.size:=by simp
      have h13V35:=H13V32.out.set_other (a:=⟨kV27,0,none⟩) (show kV27≠kV28 by omega) (.int .i64 0)
      have h6V35:=H6V32.out.set_other (a:=⟨kV27,0,none⟩) (show kV27≠kV32 by omega) (.int .i64 0)
      generalize V32.setCell ⟨kV27,0,none⟩ (.int .i64 0)=V35 at hCw hbV35 hzV35 h4V35 h5V35 h13V35 h6V35⊢
      have HBWV35:=hid hbV35
      have H4V35:=hid h4V35
      have H5V35:=hid h5V35
      have H13V35:=hid h13V35
      have H6V35:=hid h6V35
      clear hbV35 h4V35 h5V35 h13V35 h6V35
      refine mixB_ch (i:=1) (fuel:=1) (by kernel_rfl) (by kernel_rfl) ?_
      have hcv:=conv_at V35 kV28 H13V35.out
      simp only[opsAt,zo1,zo2,zo3,zo4,zo5]
      go_wp2_with(fail)
      clear hcv
      refine ThenB.mk hCw (fun hCw=>?_)
      refine mixB_end [5] (by kernel_rfl) ?_
      have c6:=H6V35.out.cell (i:=0) rfl
      have f6:=H6V35.out.frozen 0
      simp only[opsAt,zo1,zo2,zo3,zo4,zo5]
      have HFIN:=hid (meet_scan (b5:=kV27) (b6:=kV32) H4V35.out H5V35.out H6V35.out HBWV35.out (by omega) (by omega) (by omega))
      clear hCw
      go_wp2
      refine Calm.normal ?_
      go_wp2_with fail
      go_meet
      exact⟨kV27,kV32,rfl,rfl,HFIN.out⟩
   ·simp only[opsAt,zo1,zo2,zo3,zo4,zo5]
    go_wp2_with(fail)
    refine ThenB.mk (hCw.trans ((Below.refl _ _).alloc (Nat.le_refl _) _)) (fun hCw=>?_)
    obtain⟨kV37,hkV37⟩:∃k,k=V27.heap.size:=⟨_,rfl⟩
    have hnV37:IsBlk (World.alloc V27 (.cells #[.string ⟨#[]⟩] 9)) kV37 #[.string ⟨#[]⟩] 9:=by rw[hkV37];exact IsBlk.new _ _ _
    have hbV37:Below V27.heap.size V27 (World.alloc V27 (.cells #[.string ⟨#[]⟩] 9)):=(Below.refl _ _).alloc (Nat.le_refl _) _
    have hgV37:V27.heap.size<=kV37:=by omega
    rw[←hkV37]
    clear hkV37
    generalize World.alloc V27 (.cells #[.string ⟨#[]⟩] 9)=V37 at hCw hnV37 hbV37⊢
    have HBWV37:=hid (below_ext HBWV27.out hbV37)
    have H4V37:=hid (H4V27.out.ext hbV37)
    have H5V37:=hid (H5V27.out.ext hbV37)
    have H6V37:=hid hnV37
    have hzV37:=hbV37.size
    have hlV37:=hnV37.lt
    clear hnV37 hbV37
    refine mixB_br (i:=0) (j:=4) (fuel:=3) (by kernel_rfl) (by kernel_rfl) ?_ ?_
    ·have hmk:=make32 V37
     simp only[opsAt,zo1,zo2,zo3,zo4,zo5]
     go_wp2_with(fail)
     clear hmk
     refine ThenB.mk (hCw.trans ((Below.refl _ _).alloc (Nat.le_refl _) _)) (fun hCw=>?_)
     obtain⟨kV38,hkV38⟩:∃k,k=V37.heap.size:=⟨_,rfl⟩
     have hnV38:IsBlk (World.alloc V37 (.cells (u8s zero32).toArray 5)) kV38 (u8s zero32).toArray 5:=by rw[hkV38];exact IsBlk.new _ _ _
     have hbV38:Below V37.heap.size V37 (World.alloc V37 (.cells (u8s zero32).toArray 5)):=(Below.refl _ _).alloc (Nat.le_refl _) _
     have hgV38:V37.heap.size<=kV38:=by omega
     rw[←hkV38]
     clear hkV38
     generalize World.alloc V37 (.cells (u8s zero32).toArray 5)=V38 at hCw hnV38 hbV38⊢
     have HBWV38:=hid (below_ext HBWV37.out hbV38)
     have H4V38:=hid (H4V37.out.ext hbV38)
     have H5V38:=hid (H5V37.out.ext hbV38)
     have H6V38:=hid (H6V37.out.ext hbV38)
     have H13V38:=hid hnV38
     have hzV38:=hbV38.size
     have hlV38:=hnV38.lt
     clear hnV38 hbV38
     refine mixB_br (i:=1) (j:=4) (fuel:=2) (by kernel_rfl) (by kernel_rfl) ?_ ?_
     ·have hcv:=conv_at V38 kV38 H13V38.out
      simp only[opsAt,zo1,zo2,zo3,zo4,zo5]
      go_wp2_with(fail)
      clear hcv
      refine ThenB.mk hCw (fun hCw=>?_)
      refine mixB_ch (i:=4) (fuel:=1) (by kernel_rfl) (by kernel_rfl) ?_
      have c5:=H5V38.out.cell (i:=0) rfl
      have f5:=H5V38.out.frozen 0
      simp only[opsAt,zo1,zo2,zo3,zo4,zo5]
      go_wp2_with(fail)
      clear c5 f5
      refine ThenB.mk (Cls.of (below_set hCw.below (by omega))) (fun hCw=>?_)
      have hbV40:Below w.heap.size w (V38.setCell ⟨kV27,0,none⟩ (.int .i64 0)):=below_set HBWV38.out (by omega)
      have h4V40:=H4V38.out.set_other (a:=⟨kV27,0,none⟩) (show kV27≠w.heap.size by omega) (.int .i64 0)
      have h5V40:IsBlk (V38.setCell ⟨kV27,0,none⟩ (.int .i64 0)) kV27 #[.int .i64 0] 3:=by simpa using H5V38.out.set 0 (.int .i64 0)
      have hzV40:V38.heap.size<=(V38.setCell ⟨kV27,0,none⟩ (.int .i64 0)).heap.size:=by simp
      have h13V40:=H13V38.out.set_other (a:=⟨kV27,0,none⟩) (show kV27≠kV38 by omega) (.int .i64 0)
      have h6V40:=H6V38.out.set_other (a:=⟨kV27,0,none⟩) (show kV27≠kV37 by omega) (.int .i64 0)
      generalize V38.setCell ⟨kV27,0,none⟩ (.int .i64 0)=V40 at hCw hbV40 hzV40 h4V40 h5V40 h13V40 h6V40⊢
      have HBWV40:=hid hbV40
      have H4V40:=hid h4V40
      have H5V40:=hid h5V40
      have H13V40:=hid h13V40
      have H6V40:=hid h6V40
      clear hbV40 h4V40 h5V40 h13V40 h6V40
      refine mixB_end [5] (by kernel_rfl) ?_
      have c6:=H6V40.out.cell (i:=0) rfl
      have f6:=H6V40.out.frozen 0
      simp only[opsAt,zo1,zo2,zo3,zo4,zo5]
      have HFIN:=hid (meet_scan (b5:=kV27) (b6:=kV37) H4V40.out H5V40.out H6V40.out HBWV40.out (by omega) (by omega) (by omega))
      clear hCw
      go_wp2
      refine Calm.normal ?_
      go_wp2_with fail
      go_meet
      exact⟨kV27,kV37,rfl,rfl,HFIN.out⟩
     ·have c5:=H5V38.out.cell (i:=0) rfl
      have f5:=H5V38.out.frozen 0
      simp only[opsAt,zo1,zo2,zo3,zo4,zo5]
      go_wp2_with(fail)
      clear c5 f5
      refine ThenB.mk (Cls.of (below_set hCw.below (by omega))) (fun hCw=>?_)
      have hbV41:Below w.heap.size w (V38.setCell ⟨kV27,0,none⟩ (.int .i64 0)):=below_set HBWV38.out (by omega)
      have h4V41:=H4V38.out.set_other (a:=⟨kV27,0,none⟩) (show kV27≠w.heap.size by omega) (.int .i64 0)
      have h5V41:IsBlk (V38.setCell ⟨kV27,0,none⟩ (.int .i64 0)) kV27 #[.int .i64 0] 3:=by simpa using H5V38.out.set 0 (.int .i64 0)
      have hzV41:V38.heap.size<=(V38.setCell ⟨kV27,0,none⟩ (.int .i64 0)).heap.size:=by simp
      have h13V41:=H13V38.out.set_other (a:=⟨kV27,0,none⟩) (show kV27≠kV38 by omega) (.int .i64 0)
      have h6V41:=H6V38.out.set_other (a:=⟨kV27,0,none⟩) (show kV27≠kV37 by omega) (.int .i64 0)
      generalize V38.setCell ⟨kV27,0,none⟩ (.int .i64 0)=V41 at hCw hbV41 hzV41 h4V41 h5V41 h13V41 h6V41⊢
      have HBWV41:=hid hbV41
      have H4V41:=hid h4V41
      have H5V41:=hid h5V41
      have H13V41:=hid h13V41
      have H6V41:=hid h6V41
      clear hbV41 h4V41 h5V41 h13V41 h6V41
      refine mixB_ch (i:=1) (fuel:=1) (by kernel_rfl) (by kernel_rfl) ?_
      have hcv:=conv_at V41 kV38 H13V41.out
      simp only[opsAt,zo1,zo2,zo3,zo4,zo5]
      go_wp2_with(fail)
      clear hcv
      refine ThenB.mk hCw (fun hCw=>?_)
      refine mixB_end [5] (by kernel_rfl) ?_
      have c6:=H6V41.out.cell (i:=0) rfl
      have f6:=H6V41.out.frozen 0
      simp only[opsAt,zo1,zo2,zo3,zo4,zo5]
      have HFIN:=hid (meet_scan (b5:=kV27) (b6:=kV37) H4V41.out H5V41.out H6V41.out HBWV41.out (by omega) (by omega) (by omega))
      clear hCw
      go_wp2
      refine Calm.normal ?_
      go_wp2_with fail
      go_meet
      exact⟨kV27,kV37,rfl,rfl,HFIN.out⟩
    ·have c5:=H5V37.out.cell (i:=0) rfl
     have f5:=H5V37.out.frozen 0
     simp only[opsAt,zo1,zo2,zo3,zo4,zo5]
     go_wp2_with(fail)
     clear c5 f5
     refine ThenB.mk (Cls.of (below_set hCw.below (by omega))) (fun hCw=>?_)
     have hbV43:Below w.heap.size w (V37.setCell ⟨kV27,0,none⟩ (.int .i64 0)):=below_set HBWV37.out (by omega)
     have h4V43:=H4V37.out.set_other (a:=⟨kV27,0,none⟩) (show kV27≠w.heap.size by omega) (.int .i64 0)
     have h5V43:IsBlk (V37.setCell ⟨kV27,0,none⟩ (.int .i64 0)) kV27 #[.int .i64 0] 3:=by simpa using H5V37.out.set 0 (.int .i64 0)
     have hzV43:V37.heap.size<=(V37.setCell ⟨kV27,0,none⟩ (.int .i64 0)).heap.size:=by simp
     have h6V43:=H6V37.out.set_other (a:=⟨kV27,0,none⟩) (show kV27≠kV37 by omega) (.int .i64 0)
     generalize V37.setCell ⟨kV27,0,none⟩ (.int .i64 0)=V43 at hCw hbV43 hzV43 h4V43 h5V43 h6V43⊢
     have HBWV43:=hid hbV43
     have H4V43:=hid h4V43
     have H5V43:=hid h5V43
     have H6V43:=hid h6V43
     clear hbV43 h4V43 h5V43 h6V43
     refine mixB_ch (i:=0) (fuel:=2) (by kernel_rfl) (by kernel_rfl) ?_
     have hmk:=make32 V43
     simp only[opsAt,zo1,zo2,zo3,zo4,zo5]
     go_wp2_with(fail)
     clear hmk
     refine ThenB.mk (hCw.trans ((Below.refl _ _).alloc (Nat.le_refl _) _)) (fun hCw=>?_)
     obtain⟨kV44,hkV44⟩:∃k,k=V43.heap.size:=⟨_,rfl⟩
     have hnV44:IsBlk (World.alloc V43 (.cells (u8s zero32).toArray 5)) kV44 (u8s zero32).toArray 5:=by rw[hkV44];exact IsBlk.new _ _ _
     have hbV44:Below V43.heap.size V43 (World.alloc V43 (.cells (u8s zero32).toArray 5)):=(Below.refl _ _).alloc (Nat.le_refl _) _
     have hgV44:V43.heap.size<=kV44:=by omega
     rw[←hkV44]
     clear hkV44
     generalize World.alloc V43 (.cells (u8s zero32).toArray 5)=V44 at hCw hnV44 hbV44⊢
     have HBWV44:=hid (below_ext HBWV43.out hbV44)
     have H4V44:=hid (H4V43.out.ext hbV44)
     have H5V44:=hid (H5V43.out.ext hbV44)
     have H6V44:=hid (H6V43.out.ext hbV44)
     have H13V44:=hid hnV44
     have hzV44:=hbV44.size
     have hlV44:=hnV44.lt
     clear hnV44 hbV44
     refine mixB_ch (i:=1) (fuel:=1) (by kernel_rfl) (by kernel_rfl) ?_
     have hcv:=conv_at V44 kV44 H13V44.out
     simp only[opsAt,zo1,zo2,zo3,zo4,zo5]
     go_wp2_with(fail)
     clear hcv
     refine ThenB.mk hCw (fun hCw=>?_)
     refine mixB_end [5] (by kernel_rfl) ?_
     have c6:=H6V44.out.cell (i:=0) rfl
     have f6:=H6V44.out.frozen 0
     simp only[opsAt,zo1,zo2,zo3,zo4,zo5]
     have HFIN:=hid (meet_scan (b5:=kV27) (b6:=kV37) H4V44.out H5V44.out H6V44.out HBWV44.out (by omega) (by omega) (by omega))
     clear hCw
     go_wp2
     refine Calm.normal ?_
     go_wp2_with fail
     go_meet
     exact⟨kV27,kV37,rfl,rfl,HFIN.out⟩
  ·simp only[opsAt,zo1,zo2,zo3,zo4,zo5]
   go_wp2_with(fail)
   refine ThenB.mk (hCw.trans ((Below.refl _ _).alloc (Nat.le_refl _) _)) (fun hCw=>?_)
   obtain⟨kV46,hkV46⟩:∃k,k=V0.heap.size:=⟨_,rfl⟩
   have hnV46:IsBlk (World.alloc V0 (.cells #[.string ⟨#[]⟩] 9)) kV46 #[.string ⟨#[]⟩] 9:=by rw[hkV46];exact IsBlk.new _ _ _
   have hbV46:Below V0.heap.size V0 (World.alloc V0 (.cells #[.string ⟨#[]⟩] 9)):=(Below.refl _ _).alloc (Nat.le_refl _) _
   have hgV46:V0.heap.size<=kV46:=by omega
   rw[←hkV46]
   clear hkV46
   generalize World.alloc V0 (.cells #[.string ⟨#[]⟩] 9)=V46 at hCw hnV46 hbV46⊢
   have HBWV46:=hid (below_ext HBWV0.out hbV46)
   have H4V46:=hid (H4V0.out.ext hbV46)
   have H6V46:=hid hnV46
   have hzV46:=hbV46.size
   have hlV46:=hnV46.lt
   clear hnV46 hbV46
   refine mixB_br (i:=0) (j:=2) (fuel:=4) (by kernel_rfl) (by kernel_rfl) ?_ ?_
   ·have hmk:=make32 V46
    simp only[opsAt,zo1,zo2,zo3,zo4,zo5]
    go_wp2_with(fail)
    clear hmk
    refine ThenB.mk (hCw.trans ((Below.refl _ _).alloc (Nat.le_refl _) _)) (fun hCw=>?_)
    obtain⟨kV47,hkV47⟩:∃k,k=V46.heap.size:=⟨_,rfl⟩
    have hnV47:IsBlk (World.alloc V46 (.cells (u8s zero32).toArray 5)) kV47 (u8s zero32).toArray 5:=by rw[hkV47];exact IsBlk.new _ _ _
    have hbV47:Below V46.heap.size V46 (World.alloc V46 (.cells (u8s zero32).toArray 5)):=(Below.refl _ _).alloc (Nat.le_refl _) _
    have hgV47:V46.heap.size<=kV47:=by omega
    rw[←hkV47]
    clear hkV47
    generalize World.alloc V46 (.cells (u8s zero32).toArray 5)=V47 at hCw hnV47 hbV47⊢
    have HBWV47:=hid (below_ext HBWV46.out hbV47)
    have H4V47:=hid (H4V46.out.ext hbV47)
    have H6V47:=hid (H6V46.out.ext hbV47)
    have H13V47:=hid hnV47
    have hzV47:=hbV47.size
    have hlV47:=hnV47.lt
    clear hnV47 hbV47
    refine mixB_br (i:=1) (j:=2) (fuel:=3) (by kernel_rfl) (by kernel_rfl) ?_ ?_
    ·have hcv:=conv_at V47 kV47 H13V47.out
     simp only[opsAt,zo1,zo2,zo3,zo4,zo5]
     go_wp2_with(fail)
     clear hcv
     refine ThenB.mk hCw (fun hCw=>?_)
     refine mixB_ch (i:=2) (fuel:=2) (by kernel_rfl) (by kernel_rfl) ?_
     simp only[opsAt,zo1,zo2,zo3,zo4,zo5]
     go_wp2_with(fail)
     refine ThenB.mk (hCw.trans ((Below.refl _ _).alloc (Nat.le_refl _) _)) (fun hCw=>?_)
     obtain⟨kV49,hkV49⟩:∃k,k=V47.heap.size:=⟨_,rfl⟩
     have hnV49:IsBlk (World.alloc V47 (.cells #[.int .i64 0] 3)) kV49 #[.int .i64 0] 3:=by rw[hkV49];exact IsBlk.new _ _ _
     have hbV49:Below V47.heap.size V47 (World.alloc V47 (.cells #[.int .i64 0] 3)):=(Below.refl _ _).alloc (Nat.le_refl _) _
     have hgV49:V47.heap.size<=kV49:=by omega
     rw[←hkV49]
     clear hkV49
     generalize World.alloc V47 (.cells #[.int .i64 0] 3)=V49 at hCw hnV49 hbV49⊢
     have HBWV49:=hid (below_ext HBWV47.out hbV49)
     have H4V49:=hid (H4V47.out.ext hbV49)
     have H13V49:=hid (H13V47.out.ext hbV49)
     have H6V49:=hid (H6V47.out.ext hbV49)
     have H5V49:=hid hnV49
     have hzV49:=hbV49.size
     have hlV49:=hnV49.lt
     clear hnV49 hbV49
     refine mixB_ch (i:=4) (fuel:=1) (by kernel_rfl) (by kernel_rfl) ?_
     have c5:=H5V49.out.cell (i:=0) rfl
     have f5:=H5V49.out.frozen 0
     simp only[opsAt,zo1,zo2,zo3,zo4,zo5]
     go_wp2_with(fail)
     clear c5 f5
     refine ThenB.mk (Cls.of (below_set hCw.below (by omega))) (fun hCw=>?_)
     have hbV50:Below w.heap.size w (V49.setCell ⟨kV49,0,none⟩ (.int .i64 0)):=below_set HBWV49.out (by omega)
     have h4V50:=H4V49.out.set_other (a:=⟨kV49,0,none⟩) (show kV49≠w.heap.size by omega) (.int .i64 0)
     have h5V50:IsBlk (V49.setCell ⟨kV49,0,none⟩ (.int .i64 0)) kV49 #[.int .i64 0] 3:=by simpa using H5V49.out.set 0 (.int .i64 0)
     have hzV50:V49.heap.size<=(V49.setCell ⟨kV49,0,none⟩ (.int .i64 0)).heap.size:=by simp
     have h13V50:=H13V49.out.set_other (a:=⟨kV49,0,none⟩) (show kV49≠kV47 by omega) (.int .i64 0)
     have h6V50:=H6V49.out.set_other (a:=⟨kV49,0,none⟩) (show kV49≠kV46 by omega) (.int .i64 0)
     generalize V49.setCell ⟨kV49,0,none⟩ (.int .i64 0)=V50 at hCw hbV50 hzV50 h4V50 h5V50 h13V50 h6V50⊢
     have HBWV50:=hid hbV50
     have H4V50:=hid h4V50
     have H5V50:=hid h5V50
     have H13V50:=hid h13V50
     have H6V50:=hid h6V50
     clear hbV50 h4V50 h5V50 h13V50 h6V50
     refine mixB_end [5] (by kernel_rfl) ?_
     have c6:=H6V50.out.cell (i:=0) rfl
     have f6:=H6V50.out.frozen 0
     simp only[opsAt,zo1,zo2,zo3,zo4,zo5]
     have HFIN:=hid (meet_scan (b5:=kV49) (b6:=kV46) H4V50.out H5V50.out H6V50.out HBWV50.out (by omega) (by omega) (by omega))
     clear hCw
     go_wp2
     refine Calm.normal ?_
     go_wp2_with fail
     go_meet
     exact⟨kV49,kV46,rfl,rfl,HFIN.out⟩
    ·simp only[opsAt,zo1,zo2,zo3,zo4,zo5]
     go_wp2_with(fail)
     refine ThenB.mk (hCw.trans ((Below.refl _ _).alloc (Nat.le_refl _) _)) (fun hCw=>?_)
     obtain⟨kV51,hkV51⟩:∃k,k=V47.heap.size:=⟨_,rfl⟩
     have hnV51:IsBlk (World.alloc V47 (.cells #[.int .i64 0] 3)) kV51 #[.int .i64 0] 3:=by rw[hkV51];exact IsBlk.new _ _ _
     have hbV51:Below V47.heap.size V47 (World.alloc V47 (.cells #[.int .i64 0] 3)):=(Below.refl _ _).alloc (Nat.le_refl _) _
     have hgV51:V47.heap.size<=kV51:=by omega
     rw[←hkV51]
     clear hkV51
     generalize World.alloc V47 (.cells #[.int .i64 0] 3)=V51 at hCw hnV51 hbV51⊢
     have HBWV51:=hid (below_ext HBWV47.out hbV51)
     have H4V51:=hid (H4V47.out.ext hbV51)
     have H13V51:=hid (H13V47.out.ext hbV51)
     have H6V51:=hid (H6V47.out.ext hbV51)
     have H5V51:=hid hnV51
     have hzV51:=hbV51.size
     have hlV51:=hnV51.lt
     clear hnV51 hbV51
     refine mixB_br (i:=1) (j:=4) (fuel:=2) (by kernel_rfl) (by kernel_rfl) ?_ ?_
     ·have hcv:=conv_at V51 kV47 H13V51.out
      simp only[opsAt,zo1,zo2,zo3,zo4,zo5]
      go_wp2_with(fail)
      clear hcv
      refine ThenB.mk hCw (fun hCw=>?_)
      refine mixB_ch (i:=4) (fuel:=1) (by kernel_rfl) (by kernel_rfl) ?_
      have c5:=H5V51.out.cell (i:=0) rfl
      have f5:=H5V51.out.frozen 0
      simp only[opsAt,zo1,zo2,zo3,zo4,zo5]
      go_wp2_with(fail)
      clear c5 f5
      refine ThenB.mk (Cls.of (below_set hCw.below (by omega))) (fun hCw=>?_)
      have hbV53:Below w.heap.size w (V51.setCell ⟨kV51,0,none⟩ (.int .i64 0)):=below_set HBWV51.out (by omega)
      have h4V53:=H4V51.out.set_other (a:=⟨kV51,0,none⟩) (show kV51≠w.heap.size by omega) (.int .i64 0)
      have h5V53:IsBlk (V51.setCell ⟨kV51,0,none⟩ (.int .i64 0)) kV51 #[.int .i64 0] 3:=by simpa using H5V51.out.set 0 (.int .i64 0)
      have hzV53:V51.heap.size<=(V51.setCell ⟨kV51,0,none⟩ (.int .i64 0)).heap.size:=by simp
      have h13V53:=H13V51.out.set_other (a:=⟨kV51,0,none⟩) (show kV51≠kV47 by omega) (.int .i64 0)
      have h6V53:=H6V51.out.set_other (a:=⟨kV51,0,none⟩) (show kV51≠kV46 by omega) (.int .i64 0)
      generalize V51.setCell ⟨kV51,0,none⟩ (.int .i64 0)=V53 at hCw hbV53 hzV53 h4V53 h5V53 h13V53 h6V53⊢
      have HBWV53:=hid hbV53
      have H4V53:=hid h4V53
      have H5V53:=hid h5V53
      have H13V53:=hid h13V53
      have H6V53:=hid h6V53
      clear hbV53 h4V53 h5V53 h13V53 h6V53
      refine mixB_end [5] (by kernel_rfl) ?_
      have c6:=H6V53.out.cell (i:=0) rfl
      have f6:=H6V53.out.frozen 0
      simp only[opsAt,zo1,zo2,zo3,zo4,zo5]
      have HFIN:=hid (meet_scan (b5:=kV51) (b6:=kV46) H4V53.out H5V53.out H6V53.out HBWV53.out (by omega) (by omega) (by omega))
      clear hCw
      go_wp2
      refine Calm.normal ?_
      go_wp2_with fail
      go_meet
      exact⟨kV51,kV46,rfl,rfl,HFIN.out⟩
     ·have c5:=H5V51.out.cell (i:=0) rfl
      have f5:=H5V51.out.frozen 0
      simp only[opsAt,zo1,zo2,zo3,zo4,zo5]
      go_wp2_with(fail)
      clear c5 f5
      refine ThenB.mk (Cls.of (below_set hCw.below (by omega))) (fun hCw=>?_)
      have hbV54:Below w.heap.size w (V51.setCell ⟨kV51,0,none⟩ (.int .i64 0)):=below_set HBWV51.out (by omega)
      have h4V54:=H4V51.out.set_other (a:=⟨kV51,0,none⟩) (show kV51≠w.heap.size by omega) (.int .i64 0)
      have h5V54:IsBlk (V51.setCell ⟨kV51,0,none⟩ (.int .i64 0)) kV51 #[.int .i64 0] 3:=by simpa using H5V51.out.set 0 (.int .i64 0)
      have hzV54:V51.heap.size<=(V51.setCell ⟨kV51,0,none⟩ (.int .i64 0)).heap.size:=by simp
      have h13V54:=H13V51.out.set_other (a:=⟨kV51,0,none⟩) (show kV51≠kV47 by omega) (.int .i64 0)
      have h6V54:=H6V51.out.set_other (a:=⟨kV51,0,none⟩) (show kV51≠kV46 by omega) (.int .i64 0)
      generalize V51.setCell ⟨kV51,0,none⟩ (.int .i64 0)=V54 at hCw hbV54 hzV54 h4V54 h5V54 h13V54 h6V54⊢
      have HBWV54:=hid hbV54
      have H4V54:=hid h4V54
      have H5V54:=hid h5V54
      have H13V54:=hid h13V54
      have H6V54:=hid h6V54
      clear hbV54 h4V54 h5V54 h13V54 h6V54
      refine mixB_ch (i:=1) (fuel:=1) (by kernel_rfl) (by kernel_rfl) ?_
      have hcv:=conv_at V54 kV47 H13V54.out
      simp only[opsAt,zo1,zo2,zo3,zo4,zo5]
      go_wp2_with(fail)
      clear hcv
      refine ThenB.mk hCw (fun hCw=>?_)
      refine mixB_end [5] (by kernel_rfl) ?_
      have c6:=H6V54.out.cell (i:=0) rfl
      have f6:=H6V54.out.frozen 0
      simp only[opsAt,zo1,zo2,zo3,zo4,zo5]
      have HFIN:=hid (meet_scan (b5:=kV51) (b6:=kV46) H4V54.out H5V54.out H6V54.out HBWV54.out (by omega) (by omega) (by omega))
      clear hCw
      go_wp2
      refine Calm.normal ?_
      go_wp2_with fail
      go_meet
      exact⟨kV51,kV46,rfl,rfl,HFIN.out⟩
   ·simp only[opsAt,zo1,zo2,zo3,zo4,zo5]
    go_wp2_with(fail)
    refine ThenB.mk (hCw.trans ((Below.refl _ _).alloc (Nat.le_refl _) _)) (fun hCw=>?_)
    obtain⟨kV56,hkV56⟩:∃k,k=V46.heap.size:=⟨_,rfl⟩
    have hnV56:IsBlk (World.alloc V46 (.cells #[.int .i64 0] 3)) kV56 #[.int .i64 0] 3:=by rw[hkV56];exact IsBlk.new _ _ _
    have hbV56:Below V46.heap.size V46 (World.alloc V46 (.cells #[.int .i64 0] 3)):=(Below.refl _ _).alloc (Nat.le_refl _) _
    have hgV56:V46.heap.size<=kV56:=by omega
    rw[←hkV56]
    clear hkV56
    generalize World.alloc V46 (.cells #[.int .i64 0] 3)=V56 at hCw hnV56 hbV56⊢
    have HBWV56:=hid (below_ext HBWV46.out hbV56)
    have H4V56:=hid (H4V46.out.ext hbV56)
    have H6V56:=hid (H6V46.out.ext hbV56)
    have H5V56:=hid hnV56
    have hzV56:=hbV56.size
    have hlV56:=hnV56.lt
    clear hnV56 hbV56
    refine mixB_br (i:=0) (j:=4) (fuel:=3) (by kernel_rfl) (by kernel_rfl) ?_ ?_
    ·have hmk:=make32 V56
     simp only[opsAt,zo1,zo2,zo3,zo4,zo5]
     go_wp2_with(fail)
     clear hmk
     refine ThenB.mk (hCw.trans ((Below.refl _ _).alloc (Nat.le_refl _) _)) (fun hCw=>?_)
     obtain⟨kV57,hkV57⟩:∃k,k=V56.heap.size:=⟨_,rfl⟩
     have hnV57:IsBlk (World.alloc V56 (.cells (u8s zero32).toArray 5)) kV57 (u8s zero32).toArray 5:=by rw[hkV57];exact IsBlk.new _ _ _
     have hbV57:Below V56.heap.size V56 (World.alloc V56 (.cells (u8s zero32).toArray 5)):=(Below.refl _ _).alloc (Nat.le_refl _) _
     have hgV57:V56.heap.size<=kV57:=by omega
     rw[←hkV57]
     clear hkV57
     generalize World.alloc V56 (.cells (u8s zero32).toArray 5)=V57 at hCw hnV57 hbV57⊢
     have HBWV57:=hid (below_ext HBWV56.out hbV57)
     have H4V57:=hid (H4V56.out.ext hbV57)
     have H5V57:=hid (H5V56.out.ext hbV57)
     have H6V57:=hid (H6V56.out.ext hbV57)
     have H13V57:=hid hnV57
     have hzV57:=hbV57.size
     have hlV57:=hnV57.lt
     clear hnV57 hbV57
     refine mixB_br (i:=1) (j:=4) (fuel:=2) (by kernel_rfl) (by kernel_rfl) ?_ ?_
     ·have hcv:=conv_at V57 kV57 H13V57.out
      simp only[opsAt,zo1,zo2,zo3,zo4,zo5]
      go_wp2_with(fail)
      clear hcv
      refine ThenB.mk hCw (fun hCw=>?_)
      refine mixB_ch (i:=4) (fuel:=1) (by kernel_rfl) (by kernel_rfl) ?_
      have c5:=H5V57.out.cell (i:=0) rfl
      have f5:=H5V57.out.frozen 0
      simp only[opsAt,zo1,zo2,zo3,zo4,zo5]
      go_wp2_with(fail)
      clear c5 f5
      refine ThenB.mk (Cls.of (below_set hCw.below (by omega))) (fun hCw=>?_)
      have hbV59:Below w.heap.size w (V57.setCell ⟨kV56,0,none⟩ (.int .i64 0)):=below_set HBWV57.out (by omega)
      have h4V59:=H4V57.out.set_other (a:=⟨kV56,0,none⟩) (show kV56≠w.heap.size by omega) (.int .i64 0)
      have h5V59:IsBlk (V57.setCell ⟨kV56,0,none⟩ (.int .i64 0)) kV56 #[.int .i64 0] 3:=by simpa using H5V57.out.set 0 (.int .i64 0)
      have hzV59:V57.heap.size<=(V57.setCell ⟨kV56,0,none⟩ (.int .i64 0)).heap.size:=by simp
      have h13V59:=H13V57.out.set_other (a:=⟨kV56,0,none⟩) (show kV56≠kV57 by omega) (.int .i64 0)
      have h6V59:=H6V57.out.set_other (a:=⟨kV56,0,none⟩) (show kV56≠kV46 by omega) (.int .i64 0)
      generalize V57.setCell ⟨kV56,0,none⟩ (.int .i64 0)=V59 at hCw hbV59 hzV59 h4V59 h5V59 h13V59 h6V59⊢
      have HBWV59:=hid hbV59
      have H4V59:=hid h4V59
      have H5V59:=hid h5V59
      have H13V59:=hid h13V59
      have H6V59:=hid h6V59
      clear hbV59 h4V59 h5V59 h13V59 h6V59
      refine mixB_end [5] (by kernel_rfl) ?_
      have c6:=H6V59.out.cell (i:=0) rfl
      have f6:=H6V59.out.frozen 0
      simp only[opsAt,zo1,zo2,zo3,zo4,zo5]
      have HFIN:=hid (meet_scan (b5:=kV56) (b6:=kV46) H4V59.out H5V59.out H6V59.out HBWV59.out (by omega) (by omega) (by omega))
      clear hCw
      go_wp2
      refine Calm.normal ?_
      go_wp2_with fail
      go_meet
      exact⟨kV56,kV46,rfl,rfl,HFIN.out⟩
     ·have c5:=H5V57.out.cell (i:=0) rfl
      have f5:=H5V57.out.frozen 0
      simp only[opsAt,zo1,zo2,zo3,zo4,zo5]
      go_wp2_with(fail)
      clear c5 f5
      refine ThenB.mk (Cls.of (below_set hCw.below (by omega))) (fun hCw=>?_)
      have hbV60:Below w.heap.size w (V57.setCell ⟨kV56,0,none⟩ (.int .i64 0)):=below_set HBWV57.out (by omega)
      have h4V60:=H4V57.out.set_other (a:=⟨kV56,0,none⟩) (show kV56≠w.heap.size by omega) (.int .i64 0)
      have h5V60:IsBlk (V57.setCell ⟨kV56,0,none⟩ (.int .i64 0)) kV56 #[.int .i64 0] 3:=by simpa using H5V57.out.set 0 (.int .i64 0)
      have hzV60:V57.heap.size<=(V57.setCell ⟨kV56,0,none⟩ (.int .i64 0)).heap.size:=by simp
      have h13V60:=H13V57.out.set_other (a:=⟨kV56,0,none⟩) (show kV56≠kV57 by omega) (.int .i64 0)
      have h6V60:=H6V57.out.set_other (a:=⟨kV56,0,none⟩) (show kV56≠kV46 by omega) (.int .i64 0)
      generalize V57.setCell ⟨kV56,0,none⟩ (.int .i64 0)=V60 at hCw hbV60 hzV60 h4V60 h5V60 h13V60 h6V60⊢
      have HBWV60:=hid hbV60
      have H4V60:=hid h4V60
      have H5V60:=hid h5V60
      have H13V60:=hid h13V60
      have H6V60:=hid h6V60
      clear hbV60 h4V60 h5V60 h13V60 h6V60
      refine mixB_ch (i:=1) (fuel:=1) (by kernel_rfl) (by kernel_rfl) ?_
      have hcv:=conv_at V60 kV57 H13V60.out
      simp only[opsAt,zo1,zo2,zo3,zo4,zo5]
      go_wp2_with(fail)
      clear hcv
      refine ThenB.mk hCw (fun hCw=>?_)
      refine mixB_end [5] (by kernel_rfl) ?_
      have c6:=H6V60.out.cell (i:=0) rfl
      have f6:=H6V60.out.frozen 0
      simp only[opsAt,zo1,zo2,zo3,zo4,zo5]
      have HFIN:=hid (meet_scan (b5:=kV56) (b6:=kV46) H4V60.out H5V60.out H6V60.out HBWV60.out (by omega) (by omega) (by omega))
      clear hCw
      go_wp2
      refine Calm.normal ?_
      go_wp2_with fail
      go_meet
      exact⟨kV56,kV46,rfl,rfl,HFIN.out⟩
    ·have c5:=H5V56.out.cell (i:=0) rfl
     have f5:=H5V56.out.frozen 0
     simp only[opsAt,zo1,zo2,zo3,zo4,zo5]
     go_wp2_with(fail)
     clear c5 f5
     refine ThenB.mk (Cls.of (below_set hCw.below (by omega))) (fun hCw=>?_)
     have hbV62:Below w.heap.size w (V56.setCell ⟨kV56,0,none⟩ (.int .i64 0)):=below_set HBWV56.out (by omega)
     have h4V62:=H4V56.out.set_other (a:=⟨kV56,0,none⟩) (show kV56≠w.heap.size by omega) (.int .i64 0)
     have h5V62:IsBlk (V56.setCell ⟨kV56,0,none⟩ (.int .i64 0)) kV56 #[.int .i64 0] 3:=by simpa using H5V56.out.set 0 (.int .i64 0)
     have hzV62:V56.heap.size<=(V56.setCell ⟨kV56,0,none⟩ (.int .i64 0)).heap.size:=by simp
     have h6V62:=H6V56.out.set_other (a:=⟨kV56,0,none⟩) (show kV56≠kV46 by omega) (.int .i64 0)
     generalize V56.setCell ⟨kV56,0,none⟩ (.int .i64 0)=V62 at hCw hbV62 hzV62 h4V62 h5V62 h6V62⊢
     have HBWV62:=hid hbV62
     have H4V62:=hid h4V62
     have H5V62:=hid h5V62
     have H6V62:=hid h6V62
     clear hbV62 h4V62 h5V62 h6V62
     refine mixB_ch (i:=0) (fuel:=2) (by kernel_rfl) (by kernel_rfl) ?_
     have hmk:=make32 V62
     simp only[opsAt,zo1,zo2,zo3,zo4,zo5]
     go_wp2_with(fail)
     clear hmk
     refine ThenB.mk (hCw.trans ((Below.refl _ _).alloc (Nat.le_refl _) _)) (fun hCw=>?_)
     obtain⟨kV63,hkV63⟩:∃k,k=V62.heap.size:=⟨_,rfl⟩
     have hnV63:IsBlk (World.alloc V62 (.cells (u8s zero32).toArray 5)) kV63 (u8s zero32).toArray 5:=by rw[hkV63];exact IsBlk.new _ _ _
     have hbV63:Below V62.heap.size V62 (World.alloc V62 (.cells (u8s zero32).toArray 5)):=(Below.refl _ _).alloc (Nat.le_refl _) _
     have hgV63:V62.heap.size<=kV63:=by omega
     rw[←hkV63]
     clear hkV63
     generalize World.alloc V62 (.cells (u8s zero32).toArray 5)=V63 at hCw hnV63 hbV63⊢
     have HBWV63:=hid (below_ext HBWV62.out hbV63)
     have H4V63:=hid (H4V62.out.ext hbV63)
     have H5V63:=hid (H5V62.out.ext hbV63)
     have H6V63:=hid (H6V62.out.ext hbV63)
     have H13V63:=hid hnV63
     have hzV63:=hbV63.size
     have hlV63:=hnV63.lt
     clear hnV63 hbV63
     refine mixB_ch (i:=1) (fuel:=1) (by kernel_rfl) (by kernel_rfl) ?_
     have hcv:=conv_at V63 kV63 H13V63.out
     simp only[opsAt,zo1,zo2,zo3,zo4,zo5]
     go_wp2_with(fail)
     clear hcv
     refine ThenB.mk hCw (fun hCw=>?_)
     refine mixB_end [5] (by kernel_rfl) ?_
     have c6:=H6V63.out.cell (i:=0) rfl
     have f6:=H6V63.out.frozen 0
     simp only[opsAt,zo1,zo2,zo3,zo4,zo5]
     have HFIN:=hid (meet_scan (b5:=kV56) (b6:=kV46) H4V63.out H5V63.out H6V63.out HBWV63.out (by omega) (by omega) (by omega))
     clear hCw
     go_wp2
     refine Calm.normal ?_
     go_wp2_with fail
     go_meet
     exact⟨kV56,kV46,rfl,rfl,HFIN.out⟩
 case rest=>
  rename World=>W2
  obtain⟨b5,b6,rfl,rfl,h4,h5,h6,hb,n1,n2,n3⟩:=hcut
  have H4:=hid h4
  have H5:=hid h5
  have H6:=hid h6
  have HBW:=hid hb
  have hl4:=h4.lt
  have hl5:=h5.lt
  have hl6:=h6.lt
  clear h4 h5 h6 hb
  go_wp2_with fail
  go_at_call 47
  refine(frames_any s W2).mono ?_
  rintro e' w3 ⟨rfl,rfl⟩
  go_wp2_with fail
  obtain⟨wl,hwl⟩:∃wl,wl=W2.alloc (.cells #[.string (bs s)] 9):=⟨_,rfl⟩
  rw[←hwl]
  have hbl:Below W2.heap.size W2 wl:=by rw[hwl];exact(Below.refl _ _).alloc (Nat.le_refl _) _
  have hszl:wl.heap.size=W2.heap.size+1:=by rw[hwl];simp
  have hBk:IsBlk wl W2.heap.size #[.string (bs s)] 9:=by rw[hwl];exact IsBlk.new _ _ _
  have HBL:=hid (below_ext HBW.out hbl)
  have H4L:=hid (H4.out.ext hbl)
  have H5L:=hid (H5.out.ext hbl)
  have H6L:=hid (H6.out.ext hbl)
  have hkl:=HK.out.lt
  have hszw:=HBL.out.size
  clear hwl hbl H4 H5 H6 HBW
  refine(wpIn_wide (n:=8)).1 ?_
  refine wpIn_rangeFunc_ownF (F:=Fence.wide) rfl (by omega) (gf:=83) (lb:= #[.pointer (some ⟨W2.heap.size,0,none⟩)]) rfl trivial (enters_of Tryz.func83 (by kernel_rfl) rfl)
   (frames_stops (8-1) (by omega) W2.heap.size w.heap.size s hs wl hkl (by omega) hBk.lt (hBk.cell rfl) (HK.out.ext HBL.out)) KeptS.trans
   (fun W l o o' hl h _ _=>⟨by simp,fun k hk=>World.putObj_heap_other (by omega),World.putObj_heap_other (by omega)⟩) (Below.refl _ _) (fun _=>rfl)
   (fun pre W=>∃(lb:List DBlk) (e:Nat) (prev:List UInt8) (v:Value),(∀rest,runS (pre++rest) [] 0 zero32=runS rest lb e prev)/\lb.length<=pre.length/\prev.length<=32/\Acc HasBlk wl.heap.size 28 5 W v lb/\IsBlk W w.heap.size #[v] 32/\IsBlk W b5 #[.int .i64 (e:Int)] 3/\IsBlk W b6 #[.string (bs prev)] 9/\Below w.heap.size wl W)
   (fun c pre W=>c=.exit 0/\∃(lb:List DBlk) (e:Nat) (v:Value),(∀rest,runS (pre++rest) [] 0 zero32=(lb,e))/\Acc HasBlk wl.heap.size 28 5 W v lb/\IsBlk W w.heap.size #[v] 32/\IsBlk W b5 #[.int .i64 (e:Int)] 3/\Below w.heap.size wl W)
   (fun pre A B row hs' hg hr=>by
     obtain⟨lb,e,prev,v,k1,k2,k3,k4,k5,k6,k7,k8⟩:=hs'
     have hr2:=fun r e=>(hr r e).2
     exact⟨lb,e,prev,v,k1,k2,k3,accB_turned k4 hg hr2,blk_turned k5 hg hr2,blk_turned k6 hg hr2,blk_turned k7 hg hr2,k8.grown hg (by have:=k8.size;omega) (fun r e=>by have:=(hr r e).1;omega)⟩)
   (fun c pre A B row hs' hg hr=>by
     obtain⟨hc,lb,e,v,k1,k4,k5,k6,k8⟩:=hs'
     have hr2:=fun r e=>(hr r e).2
     exact⟨hc,lb,e,v,k1,accB_turned k4 hg hr2,blk_turned k5 hg hr2,blk_turned k6 hg hr2,k8.grown hg (by have:=k8.size;omega) (fun r e=>by have:=(hr r e).1;omega)⟩)
   ⟨[],0,zero32,.slice none 0 0,fun rest=>rfl,Nat.le_refl _,by simp[zero32],Acc.nil _ _ _,H4L.out,H5L.out,H6L.out,Below.refl _ _⟩
   (fun x=>{tmps:= #[.string (bs s),undef,.slice none 0 0,.int .i64 0,.pointer (some ⟨w.heap.size,0,none⟩),.pointer (some ⟨b5,0,none⟩),.pointer (some ⟨b6,0,none⟩),.int .i64 (x.1.1:Int),.string (bs x.1.2),undef,undef,undef,undef,u13,u14,.string (bs s),.func (.func 83) #[] #[.pointer (some ⟨W2.heap.size,0,none⟩)],.int .i64 (x.1.1:Int),.string (bs x.1.2),u19,u20,u21,u22,u23,u24,u25,u26,u27,u28,u29,u30,u31,u32,u33,u34,u35,u36,u37,u38,u39,u40,u41,u42,u43,u44,u45,u46,u47,u48,u49,u50,u51,u52,u53,u54],defers:=[]}) ?assign ?body ?done ?stop
  case assign=>
   intro l x W K hK
   simp only[encF]
   gi_wp2
   exact hK
  case body=>
   rintro l pre ⟨⟨at',t⟩,hx1,hx2⟩ W ⟨lb,e,prev,v,hrun,hll,hpl,hacc,h4,h5,h6,hbw⟩ hlen
   have hx2':t.length<=1073741824:=hx2
   have hx1':at'<=1073741824:=hx1
   simp only[]
   have hrunx:∀rest,runS ((pre++[⟨(at',t),hx1,hx2⟩])++rest) [] 0 zero32=if(readB t).2≠0\/(readB t).1.seq≠lb.length+1\/(readB t).1.prev≠prev then(lb,e)else runS rest (lb++[(readB t).1]) at' (digP (shortP (readB t).1).1):=fun rest=>by
    rw[List.append_assoc]
    exact(hrun ([⟨(at',t),hx1,hx2⟩]++rest)).trans (by rw[List.singleton_append,runS])
   have hKS:∀W':World,Below W.heap.size W W'->KeptS w.heap.size W2.heap.size W W':=fun W' h=>KeptS.of_below h (by have:=hbw.size;omega) (by have:=hbw.size;omega)
   have HKS:=hid hKS
   obtain⟨q1,d1,hav⟩:=hacc.slice
   obtain⟨k,hk⟩:∃k,k=lb.length:=⟨_,rfl⟩
   rw[←hk]at hav hll hrunx
   subst hav
   have HKL:=hid hk
   have HBW:=hid (HBL.out.trans hbw)
   have HACC:=hid hacc
   have H4W:=hid h4
   have H5W:=hid h5
   have H6W:=hid h6
   have HBLW:=hid hbw
   have hszW:=hbw.size
   have hrd:=read_p t W (U8T_ext HT.out HBW.out) (HK.out.ext HBW.out) (by omega)
   have hov:=readB_okv t
   generalize readB t=rb at hrunx hrd hov
   obtain⟨⟨bseq,bprev,broot,bsts,brevs⟩,why⟩:=rb
   have HRX:=hid hrunx
   have HRD:=hid hrd
   have HOV:Hid (∀r∈brevs,(textV r.v).length<=16384):=hid hov
   have hpl4:pre.length<=1073741824:=by omega
   clear hrun hKS hk hacc h4 h5 h6 hbw hrunx hrd hov hx1' hx2' hlen
   gi_wp2_with fail
   refine⟨trivial,(CallsIn.inRound l (callsIn_wide.2 HRD.out)).mono ?_⟩
   rintro e' w3 ⟨cs,rfl,hbk,hb3⟩
   have HBK:=hid hbk
   obtain⟨ps,cp,pr,cr,rfl,hbd,_⟩:=hbk
   have hbq:bseq<18446744073709551616:=hbd.1
   gi_upto_region 7 with(fail)
   generalize hW4:World.alloc w3 _=w4
   have hb34:Below w3.heap.size w3 w4:=by rw[←hW4];exact(Below.refl _ _).alloc (Nat.le_refl _) _
   have hd4:IsBlk w4 w3.heap.size #[.int .u64 (bseq:Int),.string (bs bprev),.string (bs broot),.slice ps bsts.length cp,.slice pr brevs.length cr] 28:=by rw[←hW4];exact IsBlk.new _ _ _
   have hb24:=below_ext hb3 hb34
   have hge9:W.heap.size<=w3.heap.size:=hb3.size
   obtain⟨b9,hb9⟩:∃b,b=w3.heap.size:=⟨_,rfl⟩
   rw[←hb9]at hd4 hge9
   rw[←hb9]
   have HB24:=hid hb24
   have HB4:=hid (below_ext HBW.out hb24)
   have HA4:=hid (HACC.out.kept relB (fun z hz hlt=>hb24.block z hlt))
   have HBK4:Hid (HasBlk (fun b=>W.heap.size<=b) w4 ⟨bseq,bprev,broot,bsts,brevs⟩ [.int .u64 (bseq:Int),.string (bs bprev),.string (bs broot),.slice ps bsts.length cp,.slice pr brevs.length cr]):=hid (HBK.out.ext hb34)
   have HD4:=hid hd4
   have H44:=hid (H4W.out.ext hb24)
   have H54:=hid (H5W.out.ext hb24)
   have H64:=hid (H6W.out.ext hb24)
   have hlt4:=hd4.lt
   have hsz24:=hb24.size
   clear hW4 hb3 hb34 hb24 hbd hd4 HBK HRD hb9
   have hkI:IntKind.u64.wrap (k:Int)=(k:Int):=by
    simp only[IntKind.wrap,IntKind.bits,IntKind.signed]
    first|omega|(simp;omega)
   have x0:=HD4.out.cell (i:=0) rfl
   have x1:=HD4.out.cell (i:=1) rfl
   have y4:=H44.out.cell (i:=0) rfl
   have y6:=H64.out.cell (i:=0) rfl
   have hstop:(why≠0\/bseq≠k+1\/bprev≠prev)->(∀rest,runS ((pre++[⟨(at',t),hx1,hx2⟩])++rest) [] 0 zero32=(lb,e)):=fun h rest=>by
    rw[HRX.out,if_pos h]
   have HSTOP:=hid hstop
   clear hstop
   have HEX:Hid ((why≠0\/bseq≠k+1\/bprev≠prev)->(KeepsOthers W w4/\∃(lb:List DBlk) (e:Nat) (v:Value),(∀rest,runS ((pre++[⟨(at',t),hx1,hx2⟩])++rest) [] 0 zero32=(lb,e))/\Acc HasBlk wl.heap.size 28 5 w4 v lb/\IsBlk w4 w.heap.size #[v] 32/\IsBlk w4 b5 #[.int .i64 (e:Int)] 3/\Below w.heap.size wl w4)):=hid (fun h=>⟨keepsOthers_below HB24.out,lb,e,_,HSTOP.out h,HA4.out,H44.out,H54.out,HBLW.out.trans (HB24.out.mono (by omega))⟩)
   by_cases h2:why=0
   case neg=>
    have hwb:(why !=0)=true:=by rw[bne_iff_ne];exact h2
    have HE2:=hid (HEX.out (.inl h2))
    clear h2
    gi_wp2
    exact⟨HE2.out.1,rfl,HE2.out.2⟩
   subst h2
   by_cases h3:bseq=k+1
   case neg=>
    have hqb:((bseq:Int) !=(k:Int)+1)=true:=by rw[bne_iff_ne];omega
    have HE2:=hid (HEX.out (.inr (.inl h3)))
    clear h3
    gi_wp2
    exact⟨HE2.out.1,rfl,HE2.out.2⟩
   have hqb:((bseq:Int) !=(k:Int)+1)=false:=by rw[bne_eq_false_iff_eq];omega
   by_cases h4:bprev=prev
   case neg=>
    have hpb:((bs bprev).toList !=(bs prev).toList)=true:=by rw[bne_bs];exact decide_eq_true h4
    have hpb2:((bs bprev).toList==(bs prev).toList)=false:=by rw[bs_beq];exact decide_eq_false h4
    have HE2:=hid (HEX.out (.inr (.inr h4)))
    clear h3 h4
    gi_wp2
    exact⟨HE2.out.1,rfl,HE2.out.2⟩
   have hpb:((bs bprev).toList !=(bs prev).toList)=false:=by rw[bne_bs];exact decide_eq_false (by simpa using h4)
   have hpb2:((bs bprev).toList==(bs prev).toList)=true:=by rw[bs_beq];exact decide_eq_true h4
   have HRY:Hid (∀rest,runS ((pre++[⟨(at',t),hx1,hx2⟩])++rest) [] 0 zero32=runS rest (lb++[(⟨bseq,bprev,broot,bsts,brevs⟩:DBlk)]) at' (digP (shortP (⟨bseq,bprev,broot,bsts,brevs⟩:DBlk)).1)):=hid (fun rest=>by
    rw[HRX.out,if_neg (by simp[h3,h4])])
   have x2:=HD4.out.cell (i:=2) rfl
   have x3:=HD4.out.cell (i:=3) rfl
   have x4:=HD4.out.cell (i:=4) rfl
   have hokr:=hasBlk_ok HBK4.out HOV.out
   have hsh:=short_p _ _ _ w4 HBK4.out hokr (U8T_ext HT.out HB4.out) (HK.out.ext HB4.out)
   have hoh:=short_okH HBK4.out
   clear h3 h4 HSTOP HEX hokr
   generalize hse:shortP ⟨bseq,bprev,broot,bsts,brevs⟩=SH at hsh hoh HRY
   obtain⟨⟨hseq,hprev,hroot,hrevs,hsts⟩,hwhy⟩:=SH
   have HSH:=hid hsh
   have HOH:Hid (okH ⟨hseq,hprev,hroot,hrevs,hsts⟩):=hid hoh
   clear hsh hoh hse
   gi_wp2_with fail
   refine⟨trivial,(CallsIn.inRound l (callsIn_wide.2 HSH.out)).mono ?_⟩
   rintro e' w6 ⟨rfl,hb6⟩
   clear x0 x1 x2 x3 x4 y4 y6 hkI hqb hpb hpb2
   gi_upto_region 9 with(fail)
   generalize hW8:World.alloc w6 _=w8
   have hb68:Below w6.heap.size w6 w8:=by rw[←hW8];exact(Below.refl _ _).alloc (Nat.le_refl _) _
   have hz8:IsBlk w8 w6.heap.size #[.int .u64 (hseq:Int),.string (bs hprev),.string (bs hroot),.int .u64 (hrevs:Int),.string (bs hsts)] 24:=by rw[←hW8];exact IsBlk.new _ _ _
   have hge11:w4.heap.size<=w6.heap.size:=hb6.size
   obtain⟨b11,hb11⟩:∃b,b=w6.heap.size:=⟨_,rfl⟩
   rw[←hb11]at hz8 hge11
   rw[←hb11]
   have hb48:=below_ext hb6 hb68
   have HBW8:=hid (below_ext HB24.out hb48)
   have HB8:=hid (below_ext HB4.out hb48)
   have HA8:=hid (HA4.out.kept relB (fun z hz hlt=>hb48.block z hlt))
   have HBK8:=hid (HBK4.out.ext hb48)
   have hd8:=HD4.out.ext hb48
   have h48:=H44.out.ext hb48
   have hsz48:=hb48.size
   have hlt9:=hd8.lt
   have hlt11:=hz8.lt
   clear hW8 hb6 hb68 hb48 hb11
   obtain⟨g,hg1,hg2,hg3⟩:∃g,(∀z,(Value.slice q1 k d1).ownBlock=some z->z=g)/\W2.heap.size<=g/\g<W.heap.size:=by
    cases ho:(Value.slice q1 k d1).ownBlock with
    |none=>exact⟨W2.heap.size,fun z h=>by(cases h),Nat.le_refl _,by omega⟩
    |some z=>exact⟨z,fun y h=>by(injection h with h;exact h.symm),by have:=HACC.out.lt z ho;omega,(HACC.out.lt z ho).2⟩
   have y4:=h48.cell (i:=0) rfl
   have o4:Og g w8 w.heap.size:=⟨by omega,by omega⟩
   have o9:Og g w8 b9:=⟨by omega,by omega⟩
   have o11:Og g w8 b11:=⟨by omega,by omega⟩
   have x0:=hd8.cell (i:=0) rfl
   have x1:=hd8.cell (i:=1) rfl
   have x2:=hd8.cell (i:=2) rfl
   have x3:=hd8.cell (i:=3) rfl
   have x4:=hd8.cell (i:=4) rfl
   have z0:=hz8.cell (i:=0) rfl
   have z1:=hz8.cell (i:=1) rfl
   have z2:=hz8.cell (i:=2) rfl
   have z3:=hz8.cell (i:=3) rfl
   have z4:=hz8.cell (i:=4) rfl
   clear hd8 h48 hz8
   refine mixR_start (C:=fun _=>True) [6,7,8,9] (ClsG g w8) (by kernel_rfl) (by kernel_rfl) ?_ (ClsG.drew g w8) (fun hCw=>?_)
   ·rintro⟨a,wx,h⟩
    exact h
   generalize hWD:({w8 with drawn:=w8.drawn+1}:World)=WD at hCw⊢
   have hbd:Below w8.heap.size w8 WD:=by rw[←hWD];exact(Below.refl _ _).drew
   have hszD:w8.heap.size<=WD.heap.size:=hbd.size
   have HBD:=hid hbd
   clear hWD hbd
   refine mixB_flt (by kernel_rfl) [0,1,4,5] 6 _ _ hCw (by kernel_rfl) ?_
   simp only[opsAt,zo1,zo2,zo3,zo4,zo5]
   unfold ClsG
   repeat(go_big_quiet_step (fail))
   refine wpQuiet_nil ?_
   (try rw[←ClsG_def])
   clear x0 x1 x2 x3 x4 z0 z1 z2 z3 z4 y4 o4 o9 o11
   refine mixB_ch (i:=2) (fuel:=5) (by kernel_rfl) (by kernel_rfl) ?_
   simp only[opsAt,zo1,zo2,zo3,zo4,zo5]
   go_wp2_with(fail)
   refine ThenB.mk (hCw.trans (KeptG.of_below ((Below.refl _ _).alloc (Nat.le_refl _) _))) (fun hCw=>?_)
   obtain⟨gb,hgb⟩:∃b,b=WD.heap.size:=⟨_,rfl⟩
   have hnb:IsBlk (World.alloc WD (.cells #[.int .u64 (bseq:Int),.string (bs bprev),.string (bs broot),.slice ps bsts.length cp,.slice pr brevs.length cr] 28)) gb #[.int .u64 (bseq:Int),.string (bs bprev),.string (bs broot),.slice ps bsts.length cp,.slice pr brevs.length cr] 28:=by rw[hgb];exact IsBlk.new _ _ _
   have hbE:Below WD.heap.size WD (World.alloc WD (.cells #[.int .u64 (bseq:Int),.string (bs bprev),.string (bs broot),.slice ps bsts.length cp,.slice pr brevs.length cr] 28)):=(Below.refl _ _).alloc (Nat.le_refl _) _
   rw[←hgb]
   clear hgb
   generalize World.alloc WD (.cells #[.int .u64 (bseq:Int),.string (bs bprev),.string (bs broot),.slice ps bsts.length cp,.slice pr brevs.length cr] 28)=WE at hCw hnb hbE⊢
   have hb8E:=below_ext HBD.out hbE
   have HBWE:=hid (below_ext HBW8.out hb8E)
   have HBE:=hid (below_ext HB8.out hb8E)
   have HAE:=hid (HA8.out.kept relB (fun z hz hlt=>hb8E.block z hlt))
   have HGB:=hid hnb
   have hyE:HasBlk (fun b=>wl.heap.size<=b/\(Value.slice q1 k d1).ownBlock≠some b) WE ⟨bseq,bprev,broot,bsts,brevs⟩ [.int .u64 (bseq:Int),.string (bs bprev),.string (bs broot),.slice ps bsts.length cp,.slice pr brevs.length cr]:=
    (HBK8.out.ext hb8E).kept (fun b hb=>⟨by omega,fun e=>by have:=hg1 b e;omega⟩) (fun _ _ _=>rfl)
   have HYE:=hid hyE
   have HG1:=hid hg1
   have hszE:=HBWE.out.size
   clear hnb hbE hb8E hyE hg1
   refine mixB_ch (i:=3) (fuel:=4) (by kernel_rfl) (by kernel_rfl) ?_
   simp only[opsAt,zo1,zo2,zo3,zo4,zo5]
   refine push_acc relB wl.heap.size rfl _ _ 32 28 (.agg #[.int .u64 0,.string ⟨#[]⟩,.string ⟨#[]⟩,.slice none 0 0,.slice none 0 0]) 88 rfl Tryz.underlying32 (by kernel_rfl) rfl (by decide) (.slice q1 k d1) lb HAE.out gb [.int .u64 (bseq:Int),.string (bs bprev),.string (bs broot),.slice ps bsts.length cp,.slice pr brevs.length cr] ⟨bseq,bprev,broot,bsts,brevs⟩ HGB.out HYE.out rfl rfl (by omega) (by rw[←HKL.out];omega) (by rw[←HKL.out];unfold maxLen;omega) ?_
   intro g9 cap9 w9 hacc9 hgr9 hBg hgo hglt
   rw[←HKL.out]at hacc9
   rw[←HKL.out]
   have HG9:=hid hgr9
   have HA9:=hid hacc9
   have hkg:KeptG g WE w9:=⟨hgr9.size,fun b hb hne=>hgr9.block b hb (fun e=>hne (HG1.out b e.symm))⟩
   have hb9:Below w.heap.size w w9:=HBE.out.grown hgr9 (by omega) (fun z hz=>by have:=HG1.out z hz;omega)
   have HB9:=hid hb9
   have HKG:=hid hkg
   clear hacc9 hgr9 hgo hkg hb9
   go_wp2_with(fail)
   refine ThenB.mk (hCw.trans HKG.out) (fun hCw=>?_)
   clear hCw HKG
   refine mixB_end [6,7,8,9] (by kernel_rfl) ?_
   simp only[opsAt,zo1,zo2,zo3,zo4,zo5]
   go_wp2_with fail
   go_at_call 19
   refine(digest_any ⟨hseq,hprev,hroot,hrevs,hsts⟩ _ HOH.out (U8T_ext HT.out HB9.out) (HK.out.ext HB9.out)).mono ?_
   rintro e' w11 ⟨rfl,hb11⟩
   have hdg:(digP ⟨hseq,hprev,hroot,hrevs,hsts⟩).length=32:=shaL_length _
   have hsz9:=hb11.size
   have h4:IsBlk w11 w.heap.size #[.slice q1 k d1] 32:=(blk_grown (H4W.out.ext HBWE.out) HG9.out (fun e=>by have:=HG1.out _ e;omega)).ext hb11
   have h5:IsBlk w11 b5 #[.int .i64 (e:Int)] 3:=(blk_grown (H5W.out.ext HBWE.out) HG9.out (fun e=>by have:=HG1.out _ e;omega)).ext hb11
   have h6:IsBlk w11 b6 #[.string (bs prev)] 9:=(blk_grown (H6W.out.ext HBWE.out) HG9.out (fun e=>by have:=HG1.out _ e;omega)).ext hb11
   have HFIN:=hid (scan_put (e:=at') (p:=digP ⟨hseq,hprev,hroot,hrevs,hsts⟩) HBWE.out HAE.out HG9.out hb11 HA9.out H4W.out H5W.out H6W.out HBLW.out n1 n2 n3 hl5 hl6 (by omega))
   have y4:=h4.cell (i:=0) rfl
   have y5:=h5.cell (i:=0) rfl
   have y6:=h6.cell (i:=0) rfl
   have f4:=h4.frozen 0
   have f5:=h5.frozen 0
   have f6:=h6.frozen 0
   have e1:b5≠w.heap.size:=by omega
   have e2:b6≠w.heap.size:=by omega
   have e3:w.heap.size≠b5:=by omega
   have e4:w.heap.size≠b6:=by omega
   have e5:b6≠b5:=by omega
   generalize digP ⟨hseq,hprev,hroot,hrevs,hsts⟩=G at hdg HFIN HRY⊢
   have HDG:=hid hdg
   have HK2:=hid hll
   clear h4 h5 h6 hb11 hdg hll
   go_wp2_with fail
   refine Calm.normal ?_
   gi_wp2
   exact⟨HFIN.out.1,HFIN.out.2.1,lb++[⟨bseq,bprev,broot,bsts,brevs⟩],at',G,_,HRY.out,by rw[List.length_append,List.length_append,←HKL.out];have:=HK2.out;simp;omega,by have:=HDG.out;omega,HFIN.out.2.2.1,HFIN.out.2.2.2.1,HFIN.out.2.2.2.2.1,HFIN.out.2.2.2.2.2.1,HFIN.out.2.2.2.2.2.2⟩
  case done=>
   rintro D ys W hD rfl ⟨lb,e,prev,v,hrun,hll,hpl,hacc,h4,h5,h6,hbw⟩ hK
   have HRR:Hid (R=(lb,e)):=hid (by
    rw[HR.out,scanV_run hs]
    have h:=hrun []
    rw[List.append_nil]at h
    exact h)
   have HACC:=hid hacc
   have HBW:=hid hbw
   have HKD:=hid hK
   have k4:=h4.cell (i:=0) rfl
   have k5:=h5.cell (i:=0) rfl
   have hlt4:=h4.lt
   have hlt5:=h5.lt
   clear hacc hbw hK h4 h5
   go_upto_region 10 with(fail)
   refine mixB_start [] (Cls W) (by kernel_rfl) (Cls.of ((Below.refl _ _).drew)) (fun hCw=>?_)
   refine mixB_flt (by kernel_rfl) [0,1,2,3] 0 _ _ hCw (by kernel_rfl) ?_
   simp only[opsAt,zo1,zo2,zo3,zo4,zo5]
   unfold Cls
   repeat(go_big_quiet_step (fail))
   refine wpQuiet_nil ?_
   (try rw[←Cls_def])
   refine mixB_end [] (by kernel_rfl) ?_
   refine wpList_nil ?_
   refine Calm.normal ?_
   generalize hWD:({W with drawn:=W.drawn+1}:World)=WD at hCw⊢
   have hbd:Below W.heap.size W WD:=by rw[←hWD];exact(Below.refl _ _).drew
   have hKD:WD.heap[D]?=some (.deferred (some [])):=by rw[←hWD];exact HKD.out
   have HKD2:=hid hKD
   have HFIN:=hid (scan_done (e:=e) (HACC.out.kept relB (fun z hz hlt=>hbd.block z hlt)) (HBW.out.trans (hbd.mono (by have:=HBW.out.size;omega))) HBL.out hD hKD)
   clear hWD hbd hKD hCw k4 k5
   go_wp2
   refine marks_ret1 HKD2.out (results_tmp2 rfl _ _ _) rfl ?_
   rw[HRR.out]
   exact HFIN.out
  case stop=>
   rintro D c pre W hD ⟨rest,hrest⟩ ⟨rfl,lb,e,v,hrun,hacc,h4,h5,hbw⟩ hK
   have HRR:Hid (R=(lb,e)):=hid (by
    rw[HR.out,scanV_run hs,←hrest]
    exact hrun rest)
   refine(wpIn_wide (n:=8)).2 ?_
   have HACC:=hid hacc
   have HBW:=hid hbw
   have HKD:=hid hK
   have k4:=h4.cell (i:=0) rfl
   have k5:=h5.cell (i:=0) rfl
   have hlt4:=h4.lt
   have hlt5:=h5.lt
   clear hacc hbw hK h4 h5
   go_upto_region 10 with(fail)
   refine mixB_start [] (Cls W) (by kernel_rfl) (Cls.of ((Below.refl _ _).drew)) (fun hCw=>?_)
   refine mixB_flt (by kernel_rfl) [0,1,2,3] 0 _ _ hCw (by kernel_rfl) ?_
   simp only[opsAt,zo1,zo2,zo3,zo4,zo5]
   unfold Cls
   repeat(go_big_quiet_step (fail))
   refine wpQuiet_nil ?_
   (try rw[←Cls_def])
   refine mixB_end [] (by kernel_rfl) ?_
   refine wpList_nil ?_
   refine Calm.normal ?_
   generalize hWD:({W with drawn:=W.drawn+1}:World)=WD at hCw⊢
   have hbd:Below W.heap.size W WD:=by rw[←hWD];exact(Below.refl _ _).drew
   have hKD:WD.heap[D]?=some (.deferred (some [])):=by rw[←hWD];exact HKD.out
   have HKD2:=hid hKD
   have HFIN:=hid (scan_done (e:=e) (HACC.out.kept relB (fun z hz hlt=>hbd.block z hlt)) (HBW.out.trans (hbd.mono (by have:=HBW.out.size;omega))) HBL.out hD hKD)
   clear hWD hbd hKD hCw k4 k5
   go_wp2
   refine marks_ret1 HKD2.out (results_tmp2 rfl _ _ _) rfl ?_
   rw[HRR.out]
   exact HFIN.out
end Go.Proofs.YtcihbnpckicljaaGreatDoor
