/- The journal's readRev. Conditions: a text no longer than 2^48 bytes; utf8's tables read as the text lays them. -/
import Derived.Test.YtcihbnpckicljaaGreatDoorrJRd
set_option linter.unusedVariables false
set_option linter.unusedSimpArgs false
namespace Go.Proofs.YtcihbnpckicljaaGreatDoor
open Go Go.RowKit Go.BigFrame
open Go.Lib(hid)
set_option maxRecDepth 100000
theorem numb_lt (st:RSt):(numbP st).1<18446744073709551616:=by
 unfold numbP ofI
 simp only
 omega
theorem rr4_one {s:List UInt8} (h:(rr4 s).2.2=false):∃e,(rr4 s).2.1=[e]:=by
 obtain⟨d,d1,d2,d3,d4,d5⟩:=numb_ok (show(numbP (rr3 s).2).2.2=false from h)
 obtain⟨c,c1,c2,c3,c4,c5⟩:=numb_ok (show(numbP (rr2 s).2).2.2=false from d5)
 obtain⟨b,b1,b2,b3,b5⟩:=next_ok (show(nextP 3 (rr1 s).2).2.2=false from c5)
 obtain⟨a,a1,a2,a3,a4,a5⟩:=numb_ok (show(numbP (openedP s 5)).2.2=false from b5)
 obtain⟨o1,o2,o3⟩:=opened_false a5
 have e1:listV (rdV s).1=a::(rr1 s).2.1:=a1
 have e2:(rr1 s).2.1=b::(rr2 s).2.1:=b1
 have e3:(rr2 s).2.1=c::(rr3 s).2.1:=c1
 have e4:(rr3 s).2.1=d::(rr4 s).2.1:=d1
 rw[e2,e3,e4]at e1
 rw[e1]at o3
 exact List.length_eq_one_iff.1 (by simp at o3;omega)
def RevOut (w:World) (r:DRev) (ok:Bool) (e':Ending) (w':World):Prop:=∃cs,e'=.returned (.tuple #[.agg cs.toArray,.bool ok])/\HasRev (fun b=>w.heap.size<=b) w' r cs/\Below w.heap.size w w'
theorem setCells_size (g:Nat):∀(cs:List Value) (o:Nat) (w:World),(w.setCells g o cs).heap.size=w.heap.size
 |[],o,w=>rfl
 |v::cs,o,w=>by
  rw[World.setCells,setCells_size g cs]
  simp
theorem keptG_cells (g:Nat) (w:World) (cs:List Value):KeptG g w (w.setCells g 0 cs):=⟨by rw[setCells_size];exact Nat.le_refl _,fun b _ hne=>other_setCells hne _ _ _⟩
theorem put_block {B h:Nat} {w0 W:World} {zs:List Value} {t:TypeId} (cs:List Value) (hz:IsBlk W h zs.toArray t) (hp:putAt zs 0 cs=cs) (hB:B<=h) (hb:Below B w0 W):IsBlk (W.setCells h 0 cs) h cs.toArray t/\Below B w0 (W.setCells h 0 cs)/\∀z,z≠h->(W.setCells h 0 cs).heap[z]?=W.heap[z]?:=by
 have h1:=blk_setCells cs 0 W zs hz
 rw[hp]at h1
 exact⟨h1,below_setCells hB cs 0 W hb,fun z hz=>other_setCells hz _ _ _⟩
set_option maxHeartbeats 1000000 in
theorem readRev_any (s:List UInt8) (w:World) (hT:U8T w) (hs:s.length<=281474976710656):
 Calls Tryz.prog 43 #[.string (bs s)] w (RevOut w (rrM s).1 (rrM s).2):=by
 have hone:=rr4_one (s:=s)
 have hRE:rrM s=(⟨min (numbP (openedP s 5)).1 5,strV (nextP 3 (numbP (openedP s 5)).2).1,(numbP (nextP 3 (numbP (openedP s 5)).2).2).1,(numbP (numbP (nextP 3 (numbP (openedP s 5)).2).2).2).1,if(numbP (numbP (nextP 3 (numbP (openedP s 5)).2).2).2).2.2 then .zero else(numbP (numbP (nextP 3 (numbP (openedP s 5)).2).2).2).2.1.headD .zero⟩,!(numbP (numbP (nextP 3 (numbP (openedP s 5)).2).2).2).2.2):=rfl
 have hone':(numbP (numbP (nextP 3 (numbP (openedP s 5)).2).2).2).2.2=false->∃e,(numbP (numbP (nextP 3 (numbP (openedP s 5)).2).2).2).2.1=[e]:=hone
 have l1:=numb_lt (openedP s 5)
 have l3:=numb_lt (nextP 3 (numbP (openedP s 5)).2).2
 have l4:=numb_lt (numbP (nextP 3 (numbP (openedP s 5)).2).2).2
 clear hone
 have HT:=hid hT
 obtain⟨R,hR⟩:∃R,R=rrM s:=⟨_,rfl⟩
 rw[←hR]
 rw[←hR]at hRE
 clear hR
 have hO:=fun(w':World) (h:Below w.heap.size w w')=>opened_any s w' (U8T_ext hT h) hs
 generalize openedP s 5=st0 at hRE hone' l1 l3 l4 hO
 have hN1:=fun(B g:Nat) (S:Nat->Prop) (w:World)=>numb_any B g st0 S w
 generalize numbP st0=q1 at hRE hone' l1 l3 l4 hN1
 obtain⟨a,st1⟩:=q1
 have hN2:=fun(B g:Nat) (S:Nat->Prop) (w:World) (hB:B<=g)=>next_any B 3 g st1 S w hB (by omega)
 generalize nextP 3 st1=q2 at hRE hone' l3 l4 hN2
 obtain⟨v,st2⟩:=q2
 have hN3:=fun(B g:Nat) (S:Nat->Prop) (w:World)=>numb_any B g st2 S w
 generalize numbP st2=q3 at hRE hone' l3 l4 hN3
 obtain⟨c,st3⟩:=q3
 have hN4:=fun(B g:Nat) (S:Nat->Prop) (w:World)=>numb_any B g st3 S w
 generalize numbP st3=q4 at hRE hone' l4 hN4
 obtain⟨d,l,bad⟩:=q4
 have HO:=hid hO
 have HN1:=hid hN1
 have HN2:=hid hN2
 have HN3:=hid hN3
 have HN4:=hid hN4
 have HRE:=hid hRE
 have HON:=hid hone'
 have l1':a<18446744073709551616:=l1
 have l3':c<18446744073709551616:=l3
 have l4':d<18446744073709551616:=l4
 clear hT hO hN1 hN2 hN3 hN4 hRE hone' l1 l3 l4
 go_enter Tryz.func43,Tryz.ntmps43
 go_upto_region 1 with(fail)
 generalize hW0:World.alloc w _=W0
 have hb0:Below w.heap.size w W0:=by rw[←hW0];exact(Below.refl _ _).alloc (Nat.le_refl _) _
 have hz0:IsBlk W0 w.heap.size #[.int .u8 0,.string ⟨#[]⟩,.int .u64 0,.int .u64 0,.int .u8 0,.bool false,.int .i64 0,.string ⟨#[]⟩,.slice none 0 0,.slice none 0 0] 54:=by rw[←hW0];exact IsBlk.new _ _ _
 have HB0:=hid hb0
 have HZ:=hid hz0
 have hlt0:=hz0.lt
 clear hW0 hb0 hz0
 go_wp2_with fail
 go_at_call 40
 refine(HO.out _ HB0.out).mono ?_
 rintro e' w1 ⟨g,rfl,hge,hr1,hb1⟩
 have HB1:=hid hb1
 have HR1:=hid hr1
 clear hb1 hr1
 go_wp2_with fail
 go_at_call 41
 refine(HN1.out W0.heap.size g _ w1 hge HR1.out (fun b hb=>hb.2)).mono ?_
 rintro e' w2 ⟨rfl,hr2,hd2⟩
 have HR2:=hid hr2
 have HB2:=hid (HB1.out.trans hd2.1)
 clear hr2 hd2
 have hmin:min (a:Int) 5=((min a 5:Nat):Int):=by omega
 go_wp2_with fail
 go_at_call 42
 refine(HN2.out W0.heap.size g _ w2 hge HR2.out (fun b hb=>hb.2)).mono ?_
 rintro e' w3 ⟨cs3,rfl,hv3,hr3,hd3⟩
 have HR3:=hid hr3
 have HB3:=hid (HB2.out.trans hd3.1)
 obtain⟨vk,vb,vn,vs,vl,vf⟩:=v
 have hv3':HasVal (fun b=>W0.heap.size<=b/\b<g) w3 (.mk vk vb vn vs vl vf) cs3:=hv3
 obtain⟨pl,cl,pf,cf,rfl,hbd,_⟩:=hasVal_mk.1 hv3'
 have hvs:vs.length<=1073741824:=hbd.2.2.2.1
 have hfd:=fld3 (.int .u8 (vk:Int)) (.bool vb) (.int .i64 vn) (.string (bs vs)) (.slice pl vl.length cl) (.slice pf vf.length cf)
 clear hr3 hd3 hv3 hv3' hbd
 go_wp2_with fail
 go_at_call 41
 clear hfd
 refine(HN3.out W0.heap.size g _ w3 hge HR3.out (fun b hb=>hb.2)).mono ?_
 rintro e' w4 ⟨rfl,hr4,hd4⟩
 have HR4:=hid hr4
 have HB4:=hid (HB3.out.trans hd4.1)
 clear hr4 hd4
 go_wp2_with fail
 go_at_call 41
 refine(HN4.out W0.heap.size g _ w4 hge HR4.out (fun b hb=>hb.2)).mono ?_
 rintro e' w5 ⟨rfl,hr5,hd5⟩
 have HB5:=hid (HB4.out.trans hd5.1)
 have hr5':RdJ (fun b=>W0.heap.size<=b/\b<g) w5 g (l,bad):=hr5
 clear hr5 hd5
 go_upto_region 4 with(fail)
 generalize hW6:World.alloc w5 _=W6
 have hb6:Below w5.heap.size w5 W6:=by rw[←hW6];exact(Below.refl _ _).alloc (Nat.le_refl _) _
 have hx6:IsBlk W6 w5.heap.size #[.int .u8 ((min a 5:Nat):Int),.string (bs vs),.int .u64 (c:Int),.int .u64 (d:Int),.int .u8 0,.bool false,.int .i64 0,.string ⟨#[]⟩,.slice none 0 0,.slice none 0 0] 54:=by rw[←hW6];exact IsBlk.new _ _ _
 have hz5:=(HZ.out.below HB5.out hlt0)
 have hz6:=hz5.ext hb6
 have hr6:=hr5'.ext hb6
 have HB6:=hid (HB5.out.trans (hb6.mono HB5.out.size))
 have HX6:=hid hx6
 have HZ6:=hid hz6
 obtain⟨p,cc,hg6,hl6,hlc6,hcm6,hlm6⟩:=hr6
 have hg6':IsBlk W6 g #[.slice p l.length cc,.bool bad] 78:=hg6
 have HG6:=hid hg6'
 have HL6:Hid (HasL (fun b=>W0.heap.size<=b/\b<g) W6 p l):=hid hl6
 have hltx:=hx6.lt
 have hltg:=hg6'.lt
 have hltz:=hz6.lt
 have hszg:g<w5.heap.size:=hr5'.lt
 have hne1:w5.heap.size≠w.heap.size:=by omega
 have hne2:g≠w.heap.size:=by omega
 have hne3:g≠w5.heap.size:=by omega
 clear hW6 hb6 hz5 hr5' hg6 hl6 hmin
 cases bad with
 |true=>
  have x0:=hg6'.cell (i:=0) rfl
  have x1:=hg6'.cell (i:=1) rfl
  have y0:=hx6.cell (i:=0) rfl
  have y1:=hx6.cell (i:=1) rfl
  have y2:=hx6.cell (i:=2) rfl
  have y3:=hx6.cell (i:=3) rfl
  have y4:=hx6.cell (i:=4) rfl
  have y5:=hx6.cell (i:=5) rfl
  have y6:=hx6.cell (i:=6) rfl
  have y7:=hx6.cell (i:=7) rfl
  have y8:=hx6.cell (i:=8) rfl
  have y9:=hx6.cell (i:=9) rfl
  have HZF:=HZ6
  have HBF:Hid (Below w.heap.size w W6):=hid (HB0.out.trans (HB6.out.mono (Nat.le_of_lt hlt0)))
  clear hg6' hx6 hz6
  have HRE2:Hid (R=(⟨min a 5,vs,c,d,.zero⟩,false)):=hid (by rw[HRE.out];rfl)
  go_upto_region 6 with(fail)
  have hog1:Og w.heap.size W6 w5.heap.size:=⟨hltx,hne1⟩
  have hog2:Og w.heap.size W6 g:=⟨hltg,hne2⟩
  refine mixB_start [] (ClsG w.heap.size W6) (by kernel_rfl) (ClsG.drew w.heap.size W6) (fun hCw=>?_)
  refine mixB_flt (by kernel_rfl) [0,1,2,3,4,5] 2 _ _ hCw (by kernel_rfl) ?_
  simp only[opsAt,zo1,zo2,zo3,zo4,zo5]
  unfold ClsG
  repeat(go_big_quiet_step (fail))
  refine wpQuiet_nil ?_
  (try rw[←ClsG_def])
  refine mixB_ch (i:=6) (fuel:=1) (by kernel_rfl) (by kernel_rfl) ?_
  simp only[opsAt,zo1,zo2,zo3,zo4,zo5]
  generalize hWD:({W6 with drawn:=W6.drawn+1}:World)=WD at hCw⊢
  have hzd:IsBlk WD w.heap.size #[.int .u8 0,.string ⟨#[]⟩,.int .u64 0,.int .u64 0,.int .u8 0,.bool false,.int .i64 0,.string ⟨#[]⟩,.slice none 0 0,.slice none 0 0] 54:=by rw[←hWD];exact HZF.out
  have hbd:Below w.heap.size w WD:=by rw[←hWD];exact HBF.out.drew
  clear hWD
  have HFIN:=hid (put_block (B:=w.heap.size) (w0:=w) (W:=WD) [.int .u8 ((min a 5:Nat):Int),.string (bs vs),.int .u64 (c:Int),.int .u64 (d:Int),.int .u8 0,.bool false,.int .i64 0,.string ⟨#[]⟩,.slice none 0 0,.slice none 0 0] hzd rfl (Nat.le_refl _) hbd)
  have u0:=hzd.cell (i:=0) rfl
  have u1:=hzd.cell (i:=1) rfl
  have u2:=hzd.cell (i:=2) rfl
  have u3:=hzd.cell (i:=3) rfl
  have u4:=hzd.cell (i:=4) rfl
  have u5:=hzd.cell (i:=5) rfl
  have u6:=hzd.cell (i:=6) rfl
  have u7:=hzd.cell (i:=7) rfl
  have u8:=hzd.cell (i:=8) rfl
  have u9:=hzd.cell (i:=9) rfl
  have z0:=hzd.frozen 0
  have z1:=hzd.frozen 1
  have z2:=hzd.frozen 2
  have z3:=hzd.frozen 3
  have z4:=hzd.frozen 4
  have z5:=hzd.frozen 5
  have z6:=hzd.frozen 6
  have z7:=hzd.frozen 7
  have z8:=hzd.frozen 8
  have z9:=hzd.frozen 9
  clear hzd hbd
  go_wp2_with(fail)
  refine ThenB.mk (hCw.trans (keptG_cells w.heap.size WD [.int .u8 ((min a 5:Nat):Int),.string (bs vs),.int .u64 (c:Int),.int .u64 (d:Int),.int .u8 0,.bool false,.int .i64 0,.string ⟨#[]⟩,.slice none 0 0,.slice none 0 0])) (fun hCw=>?_)
  refine mixB_flt (by kernel_rfl) [7] 0 _ _ hCw (by kernel_rfl) ?_
  simp only[opsAt,zo1,zo2,zo3,zo4,zo5]
  unfold ClsG
  repeat(go_big_quiet_step (fail))
  refine wpQuiet_nil ?_
  (try rw[←ClsG_def])
  refine mixB_end [] (by kernel_rfl) ?_
  refine wpList_nil ?_
  refine Calm.normal ?_
  clear hCw
  go_wp2
  refine bodyPost_ret (results_ct (p:=2) (u:=3) (ty:=54) Tryz.results43 rfl HFIN.out.1 Tryz.underlying54 rfl (by kernel_rfl) rfl) rfl ?_
  rw[HRE2.out]
  refine⟨[.int .u8 ((min a 5:Nat):Int),.string (bs vs),.int .u64 (c:Int),.int .u64 (d:Int),.int .u8 0,.bool false,.int .i64 0,.string ⟨#[]⟩,.slice none 0 0,.slice none 0 0],rfl,⟨_,rfl,⟨by show min a 5<256;omega,hvs,l3',l4'⟩,?_⟩,HFIN.out.2.1⟩
  exact zero_has' _ _
 |false=>
  obtain⟨e,he⟩:=HON.out rfl
  have he':l=[e]:=he
  subst he'
  have HRE2:Hid (R=(⟨min a 5,vs,c,d,e⟩,true)):=hid (by rw[HRE.out];rfl)
  clear he HRE HON
  obtain⟨g1,o1,cse,rfl,hce,hve⟩:=HL6.out 0 (by simp)
  rw[Nat.zero_mul,Nat.add_zero]at hce
  obtain⟨ek,eb,en,es,el,ef⟩:=e
  have hve':HasVal (fun b=>W0.heap.size<=b/\b<g) W6 (.mk ek eb en es el ef) cse:=hve
  have HVE:=hid hve'
  obtain⟨epl,ecl,epf,ecf,rfl,_⟩:=hasVal_mk.1 hve'
  obtain⟨e0,e1,e2,e3,e4,e5⟩:=hce.six
  have hg1:g1<W6.heap.size:=hce.2.1
  have hg1':g1<g:=hce.1.2
  clear hve hve' hce
  have x0:=hg6'.cell (i:=0) rfl
  have x1:=hg6'.cell (i:=1) rfl
  have u0:=hx6.cell (i:=0) rfl
  have u1:=hx6.cell (i:=1) rfl
  have u2:=hx6.cell (i:=2) rfl
  have u3:=hx6.cell (i:=3) rfl
  have u4:=hx6.cell (i:=4) rfl
  have u5:=hx6.cell (i:=5) rfl
  have u6:=hx6.cell (i:=6) rfl
  have u7:=hx6.cell (i:=7) rfl
  have u8:=hx6.cell (i:=8) rfl
  have u9:=hx6.cell (i:=9) rfl
  have y0:=hx6.frozen 0
  have y1:=hx6.frozen 1
  have y2:=hx6.frozen 2
  have y3:=hx6.frozen 3
  have y4:=hx6.frozen 4
  have y5:=hx6.frozen 5
  have y6:=hx6.frozen 6
  have y7:=hx6.frozen 7
  have y8:=hx6.frozen 8
  have y9:=hx6.frozen 9
  clear hg6' hx6 hz6
  go_upto_region 6 with(fail)
  clear u0 u1 u2 u3 u4 u5 u6 u7 u8 u9 x0 x1 y0 y1 y2 y3 y4 y5 y6 y7 y8 y9 e0 e1 e2 e3 e4 e5 hltx hltg hltz
  have hx7:=blk_setCells [.int .u8 (ek:Int),.bool eb,.int .i64 en,.string (bs es),.slice epl el.length ecl,.slice epf ef.length ecf] 4 W6 [.int .u8 ((min a 5:Nat):Int),.string (bs vs),.int .u64 (c:Int),.int .u64 (d:Int),.int .u8 0,.bool false,.int .i64 0,.string ⟨#[]⟩,.slice none 0 0,.slice none 0 0] HX6.out
  have hx7':IsBlk (W6.setCells w5.heap.size 4 [.int .u8 (ek:Int),.bool eb,.int .i64 en,.string (bs es),.slice epl el.length ecl,.slice epf ef.length ecf]) w5.heap.size #[.int .u8 ((min a 5:Nat):Int),.string (bs vs),.int .u64 (c:Int),.int .u64 (d:Int),.int .u8 (ek:Int),.bool eb,.int .i64 en,.string (bs es),.slice epl el.length ecl,.slice epf ef.length ecf] 54:=hx7
  have hb7:Below W0.heap.size W0 (W6.setCells w5.heap.size 4 [.int .u8 (ek:Int),.bool eb,.int .i64 en,.string (bs es),.slice epl el.length ecl,.slice epf ef.length ecf]):=below_setCells (show W0.heap.size<=w5.heap.size by omega) _ 4 _ HB6.out
  have ho7:∀z,z≠w5.heap.size->(W6.setCells w5.heap.size 4 [.int .u8 (ek:Int),.bool eb,.int .i64 en,.string (bs es),.slice epl el.length ecl,.slice epf ef.length ecf]).heap[z]?=W6.heap[z]?:=fun z hz=>other_setCells hz _ _ _
  show Code.wp _ _ _ _ (W6.setCells w5.heap.size 4 [.int .u8 (ek:Int),.bool eb,.int .i64 en,.string (bs es),.slice epl el.length ecl,.slice epf ef.length ecf])
  generalize W6.setCells w5.heap.size 4 [.int .u8 (ek:Int),.bool eb,.int .i64 en,.string (bs es),.slice epl el.length ecl,.slice epf ef.length ecf]=W7 at hx7' hb7 ho7⊢
  have hz7:IsBlk W7 w.heap.size #[.int .u8 0,.string ⟨#[]⟩,.int .u64 0,.int .u64 0,.int .u8 0,.bool false,.int .i64 0,.string ⟨#[]⟩,.slice none 0 0,.slice none 0 0] 54:=(ho7 _ (by omega)).trans HZ6.out
  have hg7:IsBlk W7 g #[.slice (some ⟨g1,o1,none⟩) 1 cc,.bool false] 78:=(ho7 _ hne3).trans HG6.out
  have hv7:HasVal (fun b=>W0.heap.size<=b/\b<g) W7 (.mk ek eb en es el ef) [.int .u8 (ek:Int),.bool eb,.int .i64 en,.string (bs es),.slice epl el.length ecl,.slice epf ef.length ecf]:=HVE.out.ext_to (fun _ h=>h) (fun b hb _=>ho7 b (by omega))
  have HV7:=hid hv7
  have hltx:=hx7'.lt
  have hltg:=hg7.lt
  have hltz:=hz7.lt
  have x0:=hg7.cell (i:=0) rfl
  have x1:=hg7.cell (i:=1) rfl
  have y0:=hx7'.cell (i:=0) rfl
  have y1:=hx7'.cell (i:=1) rfl
  have y2:=hx7'.cell (i:=2) rfl
  have y3:=hx7'.cell (i:=3) rfl
  have y4:=hx7'.cell (i:=4) rfl
  have y5:=hx7'.cell (i:=5) rfl
  have y6:=hx7'.cell (i:=6) rfl
  have y7:=hx7'.cell (i:=7) rfl
  have y8:=hx7'.cell (i:=8) rfl
  have y9:=hx7'.cell (i:=9) rfl
  have HZF:=hid hz7
  have HBF:Hid (Below w.heap.size w W7):=hid (HB0.out.trans (hb7.mono (Nat.le_of_lt hlt0)))
  clear hz7 hg7 hx7 hx7' hb7 ho7 hv7
  have hog1:Og w.heap.size W7 w5.heap.size:=⟨hltx,hne1⟩
  have hog2:Og w.heap.size W7 g:=⟨hltg,hne2⟩
  refine mixB_start [] (ClsG w.heap.size W7) (by kernel_rfl) (ClsG.drew w.heap.size W7) (fun hCw=>?_)
  refine mixB_flt (by kernel_rfl) [0,1,2,3,4,5] 2 _ _ hCw (by kernel_rfl) ?_
  simp only[opsAt,zo1,zo2,zo3,zo4,zo5]
  unfold ClsG
  repeat(go_big_quiet_step (fail))
  refine wpQuiet_nil ?_
  (try rw[←ClsG_def])
  refine mixB_ch (i:=6) (fuel:=1) (by kernel_rfl) (by kernel_rfl) ?_
  simp only[opsAt,zo1,zo2,zo3,zo4,zo5]
  generalize hWD:({W7 with drawn:=W7.drawn+1}:World)=WD at hCw⊢
  have hzd:IsBlk WD w.heap.size #[.int .u8 0,.string ⟨#[]⟩,.int .u64 0,.int .u64 0,.int .u8 0,.bool false,.int .i64 0,.string ⟨#[]⟩,.slice none 0 0,.slice none 0 0] 54:=by rw[←hWD];exact HZF.out
  have hbd:Below w.heap.size w WD:=by rw[←hWD];exact HBF.out.drew
  have HVD:Hid (HasVal (fun b=>W0.heap.size<=b/\b<g) WD (.mk ek eb en es el ef) [.int .u8 (ek:Int),.bool eb,.int .i64 en,.string (bs es),.slice epl el.length ecl,.slice epf ef.length ecf]):=hid (by rw[←hWD];exact HV7.out.ext_to (fun _ h=>h) (fun _ _ _=>rfl))
  clear hWD
  have HFIN:=hid (put_block (B:=w.heap.size) (w0:=w) (W:=WD) [.int .u8 ((min a 5:Nat):Int),.string (bs vs),.int .u64 (c:Int),.int .u64 (d:Int),.int .u8 (ek:Int),.bool eb,.int .i64 en,.string (bs es),.slice epl el.length ecl,.slice epf ef.length ecf] hzd rfl (Nat.le_refl _) hbd)
  have u0:=hzd.cell (i:=0) rfl
  have u1:=hzd.cell (i:=1) rfl
  have u2:=hzd.cell (i:=2) rfl
  have u3:=hzd.cell (i:=3) rfl
  have u4:=hzd.cell (i:=4) rfl
  have u5:=hzd.cell (i:=5) rfl
  have u6:=hzd.cell (i:=6) rfl
  have u7:=hzd.cell (i:=7) rfl
  have u8:=hzd.cell (i:=8) rfl
  have u9:=hzd.cell (i:=9) rfl
  have z0:=hzd.frozen 0
  have z1:=hzd.frozen 1
  have z2:=hzd.frozen 2
  have z3:=hzd.frozen 3
  have z4:=hzd.frozen 4
  have z5:=hzd.frozen 5
  have z6:=hzd.frozen 6
  have z7:=hzd.frozen 7
  have z8:=hzd.frozen 8
  have z9:=hzd.frozen 9
  clear hzd hbd
  go_wp2_with(fail)
  refine ThenB.mk (hCw.trans (keptG_cells w.heap.size WD [.int .u8 ((min a 5:Nat):Int),.string (bs vs),.int .u64 (c:Int),.int .u64 (d:Int),.int .u8 (ek:Int),.bool eb,.int .i64 en,.string (bs es),.slice epl el.length ecl,.slice epf ef.length ecf])) (fun hCw=>?_)
  refine mixB_flt (by kernel_rfl) [7] 0 _ _ hCw (by kernel_rfl) ?_
  simp only[opsAt,zo1,zo2,zo3,zo4,zo5]
  unfold ClsG
  repeat(go_big_quiet_step (fail))
  refine wpQuiet_nil ?_
  (try rw[←ClsG_def])
  refine mixB_end [] (by kernel_rfl) ?_
  refine wpList_nil ?_
  refine Calm.normal ?_
  clear hCw
  go_wp2
  refine bodyPost_ret (results_ct (p:=2) (u:=3) (ty:=54) Tryz.results43 rfl HFIN.out.1 Tryz.underlying54 rfl (by kernel_rfl) rfl) rfl ?_
  rw[HRE2.out]
  refine⟨[.int .u8 ((min a 5:Nat):Int),.string (bs vs),.int .u64 (c:Int),.int .u64 (d:Int),.int .u8 (ek:Int),.bool eb,.int .i64 en,.string (bs es),.slice epl el.length ecl,.slice epf ef.length ecf],rfl,⟨_,rfl,⟨by show min a 5<256;omega,hvs,l3',l4'⟩,?_⟩,HFIN.out.2.1⟩
  exact HVD.out.ext_to (fun b hb=>by omega) (fun b hb _=>HFIN.out.2.2 b (by omega))
end Go.Proofs.YtcihbnpckicljaaGreatDoor
