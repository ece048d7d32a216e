/- journal.Read. Conditions: a text no longer than 2^40 bytes; sha's and utf8's tables read as the text lays them. -/
import Derived.Test.YtcihbnpckicljaaGreatDoorrJRevRd
import Derived.Test.YtcihbnpckicljaaGreatDoorrJRWhole
set_option linter.unusedVariables false
set_option linter.unusedSimpArgs false
namespace Go.Proofs.YtcihbnpckicljaaGreatDoor
open Go Go.RowKit Go.BigFrame
open Go.Lib(hid)
set_option maxRecDepth 100000
def Rd2 (B g h:Nat) (w w':World):Prop:=Below B w w'/\w.heap.size<=w'.heap.size/\∀b,b<w.heap.size->b≠g->b≠h->w'.heap[b]?=w.heap[b]?
theorem Rd2.refl (B g h:Nat) (w:World):Rd2 B g h w w:=⟨Below.refl _ _,Nat.le_refl _,fun _ _ _ _=>rfl⟩
theorem Rd2.trans {B g h:Nat} {a b c:World} (k:Rd2 B g h a b) (l:Rd2 B g h b c):Rd2 B g h a c:=⟨k.1.trans l.1,Nat.le_trans k.2.1 l.2.1,fun i hi h1 h2=>(l.2.2 i (Nat.lt_of_lt_of_le hi k.2.1) h1 h2).trans (k.2.2 i hi h1 h2)⟩
theorem Rd2.of_below {B g h:Nat} {w w':World} (k:Below w.heap.size w w') (hB:B<=w.heap.size):Rd2 B g h w w':=⟨k.mono hB,k.size,fun b hb _ _=>k.block b hb⟩
theorem Rd2.of_rd {B g h:Nat} {w w':World} (k:Rd B g w w'):Rd2 B g h w w':=⟨k.1,k.2.1,fun b hb h1 _=>k.2.2 b hb h1⟩
theorem Rd2.set_g {B g h o:Nat} {w w':World} (k:Rd2 B g h w w') (hB:B<=g) (u:Value):Rd2 B g h w (w'.setCell ⟨g,o,none⟩ u):=
 ⟨below_set k.1 hB,by simpa using k.2.1,fun b hb h1 h2=>by rw[Below.heap_setCell _ _ _ _ h1];exact k.2.2 b hb h1 h2⟩
theorem Rd2.set_h {B g h o:Nat} {w w':World} (k:Rd2 B g h w w') (hB:B<=h) (u:Value):Rd2 B g h w (w'.setCell ⟨h,o,none⟩ u):=
 ⟨below_set k.1 hB,by simpa using k.2.1,fun b hb h1 h2=>by rw[Below.heap_setCell _ _ _ _ h2];exact k.2.2 b hb h1 h2⟩
theorem Rd2.grown {B g h:Nat} {w w1 w2:World} {row:Option Nat} (k:Rd2 B g h w w1) (hg:w1.grownBy w2 row) (hB:B<=w1.heap.size) (hr:∀z,row=some z->B<=z/\w.heap.size<=z):Rd2 B g h w w2:=by
 have h1:Below B w w2:=k.1.grown hg hB (fun z hz=>(hr z hz).1)
 refine⟨h1,Nat.le_trans k.2.1 hg.size,fun b hb h2 h3=>?_⟩
 rw[hg.block b (Nat.lt_of_lt_of_le hb k.2.1) (fun e=>by have:=(hr b e.symm).2;omega)]
 exact k.2.2 b hb h2 h3
theorem own_slice {w:World} {B n size:Nat} {e:TypeId} {v:Value} {xs:List Value} (h:w.ownsRow B e size v n xs):∃p c,v=.slice p n c:=by
 rcases h.2 with⟨rfl,h0⟩|⟨g,cap,cur,rfl,_⟩
 ·exact⟨none,0,by rw[h0]⟩
 ·exact⟨_,_,rfl⟩
def BlkOut (w:World) (r:DBlk×Int) (e':Ending) (w':World):Prop:=∃cs,e'=.returned (.tuple #[.agg cs.toArray,.int .i64 r.2])/\HasBlk (fun b=>w.heap.size<=b) w' r.1 cs/\Below w.heap.size w w'
theorem zblk_has (S:Nat->Prop) (w:World):HasBlk S w .zero [.int .u64 0,.string ⟨#[]⟩,.string ⟨#[]⟩,.slice none 0 0,.slice none 0 0]:=
 ⟨none,0,none,0,rfl,⟨by decide,by decide,by decide,by decide,by decide,Nat.le_refl _,by unfold maxLen;omega,Nat.le_refl _,by unfold maxLen;omega,fun s hs=>by cases hs⟩,fun i hi=>by simp[DBlk.zero]at hi,fun i hi=>by simp[DBlk.zero]at hi⟩
theorem HasBlk.kept {S S':Nat->Prop} {w w':World} {b:DBlk} {cs:List Value} (h:HasBlk S w b cs) (hS:∀b,S b->S' b) (hw:∀b,S b->b<w.heap.size->w'.heap[b]?=w.heap[b]?):HasBlk S' w' b cs:=by
 obtain⟨ps,cp,pr,cr,rfl,hbd,h1,h2⟩:=h
 exact⟨ps,cp,pr,cr,rfl,hbd,h1.ext_to hS hw,h2.kept relR hS hw⟩
def sv (l:List DVal):List Value:=l.map fun v=>Value.string (bs (strV v))
theorem sv_len (l:List DVal):(sv l).length=l.length:=List.length_map _
theorem notTxt_snoc {l:List DVal} {j:Nat} (h:j<l.length):notTxt (l.take (j+1))=(notTxt (l.take j)||decide (kindV l[j]≠3)):=by
 rw[take_snoc h]
 unfold notTxt
 rw[List.any_append,List.any_cons,List.any_nil,Bool.or_false]
theorem notRev_snoc {l:List DVal} {j:Nat} (h:j<l.length):notRev (l.take (j+1))=(notRev (l.take j)||(decide (kindV l[j]≠4)||!(rrM (strV l[j])).2)):=by
 rw[take_snoc h]
 unfold notRev
 rw[List.any_append,List.any_cons,List.any_nil,Bool.or_false]
theorem rowRev_ok {S:Nat->Prop} {w:World} {p:Option Addr} {l:List DRev} (h:RowIn HasRev 10 S w p l) (hl:∀r∈l,(textV r.v).length<=16384):∀r∈l,okR r:=fun r hr=>by
 obtain⟨i,hi,rfl⟩:=List.getElem_of_mem hr
 obtain⟨g,o,cs,_,_,⟨cs',_,hb,_⟩⟩:=h i hi
 exact⟨hb.2.1,by have:=hl _ hr;omega⟩
theorem hasL_strs {S:Nat->Prop} {w:World} {p:Option Addr} {l:List DVal} (h:HasL S w p l):∀v∈l,(strV v).length<=1073741824:=fun v hv=>by
 obtain⟨i,hi,rfl⟩:=List.getElem_of_mem hv
 obtain⟨g,o,cs,_,_,h2⟩:=h i hi
 generalize l[i]=v at h2
 obtain⟨vk,vb,vn,vs,vl,vf⟩:=v
 obtain⟨_,_,_,_,_,hb,_⟩:=hasVal_mk.1 h2
 exact hb.2.2.2.1
theorem readB_st {s:List UInt8} {a:Nat} {v1 v2 v3 v5:DVal} {st0 st1 st2 st3 st4 st5:RSt} (h0:openedP s 5=st0) (h1:numbP st0=(a,st1)) (h2:nextP 4 st1=(v1,st2)) (h3:nextP 4 st2=(v2,st3)) (h4:nextP 5 st3=(v3,st4)) (h5:nextP 5 (st4.1,st4.2||notTxt (listV v3))=(v5,st5)):
 readB s=if(st5.2||notRev (listV v5))=true\/(wholeP ⟨a,strV v1,strV v2,(listV v3).map strV,(listV v5).map fun v=>(rrM (strV v)).1⟩).2≠0 then(.zero,11)else(⟨a,strV v1,strV v2,(listV v3).map strV,(listV v5).map fun v=>(rrM (strV v)).1⟩,0):=by
 have e1:rb1 s=(a,st1):=by rw[rb1,h0,h1]
 have e2:rb2 s=(v1,st2):=by rw[rb2,e1,h2]
 have e3:rb3 s=(v2,st3):=by rw[rb3,e2,h3]
 have e4:rb4 s=(v3,st4):=by rw[rb4,e3,h4]
 have e5:rb5 s=(v5,st5):=by rw[rb5,e4,h5]
 rw[readB_rb]
 unfold rbBad rbB
 rw[e1,e2,e3,e4,e5]
set_option maxHeartbeats 8000000 in
theorem read_p (s:List UInt8) (w:World) (hT:U8T w) (hK:Ks w) (hs:s.length<=1099511627776):
 Calls Tryz.prog 10 #[.string (bs s)] w (BlkOut w (readB s)):=by
 have hO:=fun(w':World) (h:Below w.heap.size w w')=>opened_any s w' (U8T_ext hT h) (by omega)
 have HT:=hid hT
 have HKS:=hid hK
 have hRE:= @readB_st s
 obtain⟨R,hR⟩:∃R,R=readB s:=⟨_,rfl⟩
 rw[←hR]
 rw[←hR]at hRE
 clear hR
 generalize openedP s 5=st0 at hRE hO
 have hN1:=fun(B g:Nat) (S:Nat->Prop) (w:World)=>numb_any B g st0 S w
 have l1:=numb_lt st0
 generalize hq1:numbP st0=q1 at hN1 l1
 obtain⟨a,st1⟩:=q1
 have hN2:=fun(B g:Nat) (S:Nat->Prop) (w:World) (hB:B<=g)=>next_any B 4 g st1 S w hB (by omega)
 generalize hq2:nextP 4 st1=q2 at hN2
 obtain⟨v1,st2⟩:=q2
 have hN3:=fun(B g:Nat) (S:Nat->Prop) (w:World) (hB:B<=g)=>next_any B 4 g st2 S w hB (by omega)
 generalize hq3:nextP 4 st2=q3 at hN3
 obtain⟨v2,st3⟩:=q3
 have hN4:=fun(B g:Nat) (S:Nat->Prop) (w:World) (hB:B<=g)=>next_any B 5 g st3 S w hB (by omega)
 generalize hq4:nextP 5 st3=q4 at hN4
 obtain⟨v3,l4,bad4⟩:=q4
 have hN5:=fun(B g:Nat) (S:Nat->Prop) (w:World) (hB:B<=g)=>next_any B 5 g (l4,bad4||notTxt (listV v3)) S w hB (by omega)
 generalize hq5:nextP 5 (l4,bad4||notTxt (listV v3))=q5 at hN5
 obtain⟨v5,l5,bad5⟩:=q5
 have HRE:=hid (hRE rfl hq1 hq2 hq3 hq4 hq5)
 have HO:=hid hO
 have HN1:=hid hN1
 have HN2:=hid hN2
 have HN3:=hid hN3
 have HN4:=hid hN4
 have HN5:=hid hN5
 have l1':a<18446744073709551616:=l1
 clear hT hK hO hN1 hN2 hN3 hN4 hN5 hRE hq1 hq2 hq3 hq4 hq5 l1
 go_enter Tryz.func10,Tryz.ntmps10
 go_upto_region 1 with(fail)
 generalize hW0:World.alloc w _=W0
 have hb0:Below w.heap.size w W0:=by rw[←hW0];exact(Below.refl _ _).alloc (Nat.le_refl _) _
 have hz0:IsBlk W0 w.heap.size #[.int .u64 0,.string ⟨#[]⟩,.string ⟨#[]⟩,.slice none 0 0,.slice none 0 0] 28:=by rw[←hW0];exact IsBlk.new _ _ _
 have HB0:=hid hb0
 have HZ:=hid hz0
 have hlt0:=hz0.lt
 clear hW0 hb0 hz0
 go_wp2_with fail
 go_at_call 40
 refine(HO.out _ HB0.out).mono ?_
 rintro e' w1 ⟨g,rfl,hge,hr1,hb1⟩
 have HB1:=hid hb1
 have HR1:=hid hr1
 clear hb1 hr1
 go_wp2_with fail
 go_at_call 41
 refine(HN1.out W0.heap.size g _ w1 hge HR1.out (fun b hb=>hb.2)).mono ?_
 rintro e' w2 ⟨rfl,hr2,hd2⟩
 have HR2:=hid hr2
 have HB2:=hid (HB1.out.trans hd2.1)
 clear hr2 hd2
 go_wp2_with fail
 go_at_call 42
 refine(HN2.out W0.heap.size g _ w2 hge HR2.out (fun b hb=>hb.2)).mono ?_
 rintro e' w3 ⟨cs3,rfl,hv3,hr3,hd3⟩
 have HR3:=hid hr3
 have HB3:=hid (HB2.out.trans hd3.1)
 obtain⟨ak,ab,an,as',al,af⟩:=v1
 have hv3':HasVal (fun b=>W0.heap.size<=b/\b<g) w3 (.mk ak ab an as' al af) cs3:=hv3
 obtain⟨pl,cl,pf,cf,rfl,hbd,_⟩:=hasVal_mk.1 hv3'
 have hvs1:as'.length<=1073741824:=hbd.2.2.2.1
 have hfd:=fld3 (.int .u8 (ak:Int)) (.bool ab) (.int .i64 an) (.string (bs as')) (.slice pl al.length cl) (.slice pf af.length cf)
 clear hr3 hd3 hv3 hv3' hbd
 go_wp2_with fail
 go_at_call 42
 clear hfd
 refine(HN3.out W0.heap.size g _ w3 hge HR3.out (fun b hb=>hb.2)).mono ?_
 rintro e' w4 ⟨cs4,rfl,hv4,hr4,hd4⟩
 have HB4:=hid (HB3.out.trans hd4.1)
 obtain⟨bk,bb,bn,bs',bl,bf⟩:=v2
 have hv4':HasVal (fun b=>W0.heap.size<=b/\b<g) w4 (.mk bk bb bn bs' bl bf) cs4:=hv4
 obtain⟨pl2,cl2,pf2,cf2,rfl,hbd,_⟩:=hasVal_mk.1 hv4'
 have hvs2:bs'.length<=1073741824:=hbd.2.2.2.1
 have hfd:=fld3 (.int .u8 (bk:Int)) (.bool bb) (.int .i64 bn) (.string (bs bs')) (.slice pl2 bl.length cl2) (.slice pf2 bf.length cf2)
 have hr4g:=hr4.lt
 have HR4:=hid hr4
 clear hr4 hd4 hv4 hv4' hbd
 go_upto_region 3 with(fail)
 clear hfd
 generalize hW5:World.alloc w4 _=W5
 have hb5:Below w4.heap.size w4 W5:=by rw[←hW5];exact(Below.refl _ _).alloc (Nat.le_refl _) _
 have hx5:IsBlk W5 w4.heap.size #[.int .u64 (a:Int),.string (bs as'),.string (bs bs'),.slice none 0 0,.slice none 0 0] 28:=by rw[←hW5];exact IsBlk.new _ _ _
 have HB5:=hid (HB4.out.trans (hb5.mono HB4.out.size))
 have HX5:=hid hx5
 have hgh:g<w4.heap.size:=hr4g
 have hx5l:=hx5.lt
 have HR5:=hid (HR4.out.ext hb5)
 clear hW5 hb5 hx5
 go_wp2_with fail
 go_at_call 42
 refine(HN4.out W0.heap.size g _ W5 hge HR5.out (fun b hb=>hb.2)).mono ?_
 rintro e' wa ⟨cs6,rfl,hv6,hr6,hd6⟩
 obtain⟨ck,cb,cn,cs',cl',cf'⟩:=v3
 have hv6':HasVal (fun b=>W0.heap.size<=b/\b<g) wa (.mk ck cb cn cs' cl' cf') cs6:=hv6
 obtain⟨pl3,cl3,pf3,cf3,rfl,hbd,hL3,_⟩:=hasVal_mk.1 hv6'
 have hl3m:cl'.length<=1073741824:=hbd.2.2.2.2.1
 have hfd:=fld4 (.int .u8 (ck:Int)) (.bool cb) (.int .i64 cn) (.string (bs cs')) (.slice pl3 cl'.length cl3) (.slice pf3 cf'.length cf3)
 have hx6:IsBlk wa w4.heap.size #[.int .u64 (a:Int),.string (bs as'),.string (bs bs'),.slice none 0 0,.slice none 0 0] 28:=hd6.blk HX5.out (by omega)
 obtain⟨p4,c4,hg6,hl6,hlc6,hcm6,hlm6⟩:=hr6
 have hg6':IsBlk wa g #[.slice p4 l4.length c4,.bool bad4] 78:=hg6
 have HL4:Hid (HasL (fun b=>W0.heap.size<=b/\b<g) wa p4 l4):=hid hl6
 have HC4:Hid (l4.length<=c4/\c4<=maxLen/\l4.length<=1073741824):=hid ⟨hlc6,hcm6,hlm6⟩
 have HL3:=hid hL3
 have HX6:=hid hx6
 have HG6:=hid hg6'
 have HB6:=hid (HB5.out.trans hd6.1)
 have hszg:g<wa.heap.size:=hg6'.lt
 have hszh:w4.heap.size<wa.heap.size:=hx6.lt
 obtain⟨n,hn⟩:∃n,n=cl'.length:=⟨_,rfl⟩
 rw[←hn]at hfd hl3m
 rw[←hn]
 have HN:=hid hn
 clear hv6 hv6' hbd hL3 hx6 hg6 hg6' hl6 hlc6 hcm6 hlm6 hd6 hn HR1 HR2 HR3 HR4 HR5 HO HN1 HN2 HN3 HN4 HB1 HB2 HB3 HB4
 go_wp2
 clear hfd
 go_loopw [27] (fun b wr=>∃(j:Nat) (v:Value),b=.int .i64 (j:Int)/\j<=n/\wr.ownsRow wa.heap.size 9 1 v j (sv (cl'.take j))/\IsBlk wr w4.heap.size #[.int .u64 (a:Int),.string (bs as'),.string (bs bs'),v,.slice none 0 0] 28/\IsBlk wr g #[.slice p4 l4.length c4,.bool (bad4||notTxt (cl'.take j))] 78/\Rd2 W0.heap.size g w4.heap.size wa wr) (fun b _=>n-(intOf b).toNat)
 case atStart=>exact⟨0,.slice none 0 0,rfl,Nat.zero_le _,⟨rfl,Or.inl ⟨rfl,rfl⟩⟩,HX6.out,by simpa[notTxt]using HG6.out,Rd2.refl _ _ _ _⟩
 case round=>
 obtain⟨j,sv',rfl,hj,hown,hxb,hgb,hrd⟩:=hrel
 have hszw:=hrd.2.1
 have HO:=hid hown
 have HXB:=hid hxb
 have HGB:=hid hgb
 have HRD:=hid hrd
 have hnb1:sv'.ownBlock≠some g:=fun e=>by have:=(hown.lt g e).1;omega
 have hnb2:sv'.ownBlock≠some w4.heap.size:=fun e=>by have:=(hown.lt _ e).1;omega
 by_cases hlt:j<n
 ·have hltl:j<cl'.length:=by rw[←HN.out];exact hlt
  have hl3:=HL3.out.ext_to (w':=wr) (S':=fun b=>W0.heap.size<=b/\b<g) (fun _ h=>h) (fun b hb hlt=>hrd.2.2 b hlt (by omega) (by omega))
  obtain⟨g1,o1,ce,rfl,hce,hve⟩:=hl3 j hltl
  have hsn:=notTxt_snoc hltl
  have htk:=take_snoc hltl
  generalize hxe:cl'[j]=x at hve hsn htk
  obtain⟨xk,xb,xn,xs,xl,xf⟩:=x
  obtain⟨xpl,xcl,xpf,xcf,rfl,hxbd,_⟩:=hasVal_mk.1 hve
  have hxk:xk<256:=hxbd.1
  obtain⟨e0,e1,e2,e3,e4,e5⟩:=hce.six
  have hg1:g1<wr.heap.size:=hce.2.1
  have hg1g:g1<g:=hce.1.2
  have HSN:Hid (notTxt (cl'.take (j+1))=(notTxt (cl'.take j)||decide (xk≠3))):=hid hsn
  have HTK:Hid (sv (cl'.take (j+1))=sv (cl'.take j)++[.string (bs xs)]):=hid (by rw[htk];unfold sv;rw[List.map_append];rfl)
  have hltg:=hgb.lt
  have hlth:=hxb.lt
  have y0:=hgb.cell (i:=0) rfl
  have y1:=hgb.cell (i:=1) rfl
  have z0:=hgb.frozen 0
  have z1:=hgb.frozen 1
  have x0:=hxb.cell (i:=0) rfl
  have x1:=hxb.cell (i:=1) rfl
  have x2:=hxb.cell (i:=2) rfl
  have x3:=hxb.cell (i:=3) rfl
  have x4:=hxb.cell (i:=4) rfl
  have q0:=hxb.frozen 0
  have q1:=hxb.frozen 1
  have q2:=hxb.frozen 2
  have q3:=hxb.frozen 3
  have q4:=hxb.frozen 4
  generalize hbj:(bad4||notTxt (cl'.take j))=bj at y1
  have HBJ:Hid (IsBlk wr g #[.slice p4 l4.length c4,.bool bj] 78):=hid (by rw[←hbj];exact HGB.out)
  have HBJE:Hid ((bad4||notTxt (cl'.take (j+1)))=(bj||decide (xk≠3))):=hid (by rw[HSN.out,←hbj,Bool.or_assoc])
  clear hown hxb hgb hrd hve hxbd hce hsn htk hxe hbj
  cases bj with
  |true=>
   have hk3:True:=trivial
   have HNB:Hid ((bad4||notTxt (cl'.take (j+1)))=true):=hid (by rw[HBJE.out];first|rfl|simp[hk3])
   clear hk3
   go_upto_region 7 with(fail)
   generalize hW7:World.alloc (World.setCell wr _ _) _=W7
   have hs7:Rd2 W0.heap.size g w4.heap.size wa W7:=by rw[←hW7];exact(HRD.out.set_g hge _).trans (Rd2.of_below ((Below.refl _ _).alloc (Nat.le_refl _) _) (by simp;omega))
   have hx7:IsBlk W7 w4.heap.size #[.int .u64 (a:Int),.string (bs as'),.string (bs bs'),sv',.slice none 0 0] 28:=by rw[←hW7];exact(HXB.out.set_other (a:=⟨g,1,none⟩) (show g≠w4.heap.size by omega) _).alloc _
   have hg7:IsBlk W7 g #[.slice p4 l4.length c4,.bool true] 78:=by rw[←hW7];exact(HBJ.out.set 1 (.bool true)).alloc _
   have hb7:IsBlk W7 wr.heap.size #[.int .u8 (xk:Int),.bool xb,.int .i64 xn,.string (bs xs),.slice xpl xl.length xcl,.slice xpf xf.length xcf] 52:=by rw[←hW7];exact IsBlk.new_at (by simp)
   have ho7:W7.ownsRow wa.heap.size 9 1 sv' j (sv (cl'.take j)):=by
    rw[←hW7]
    exact own_alloc (owns_kept HO.out (fun z hz=>Below.heap_setCell _ _ _ _ (show z≠g from fun e=>hnb1 (e▸hz)))) _
   clear y0 y1 z0 z1 x0 x1 x2 x3 x4 q0 q1 q2 q3 q4 e0 e1 e2 e3 e4 e5 hW7 hltg hlth
   have hltg:=hg7.lt
   have hlth:=hx7.lt
   have hltb:=hb7.lt
   have x0:=hx7.cell (i:=0) rfl
   have x1:=hx7.cell (i:=1) rfl
   have x2:=hx7.cell (i:=2) rfl
   have x3:=hx7.cell (i:=3) rfl
   have x4:=hx7.cell (i:=4) rfl
   have q0:=hx7.frozen 0
   have q1:=hx7.frozen 1
   have q2:=hx7.frozen 2
   have q3:=hx7.frozen 3
   have q4:=hx7.frozen 4
   have e0:=hb7.cell (i:=0) rfl
   have e1:=hb7.cell (i:=1) rfl
   have e2:=hb7.cell (i:=2) rfl
   have e3:=hb7.cell (i:=3) rfl
   have e4:=hb7.cell (i:=4) rfl
   have e5:=hb7.cell (i:=5) rfl
   have HS7:=hid hs7
   have HX7:=hid hx7
   have HG7:=hid hg7
   have HO7:=hid ho7
   have hsz7:=hs7.2.1
   clear hs7 hx7 hg7 hb7 ho7
   go_wp2_with(at_builtin;refine push_one wa.heap.size rfl _ _ 25 9 (.string ⟨#[]⟩) 16 rfl Tryz.underlying25 (by kernel_rfl) rfl (by decide) _ (sv (cl'.take j)) (by rw[sv_len,List.length_take,Nat.min_eq_left (by omega)];exact HO7.out) (.string (bs xs)) rfl rfl rfl (by omega) (by rw[sv_len,List.length_take];omega) ?_)
   intro v8 w8 hown8 hg8
   obtain⟨p8,c8,hv8⟩:=own_slice hown8
   rw[sv_len,List.length_take,Nat.min_eq_left (by omega),←HTK.out]at hown8
   rw[sv_len,List.length_take,Nat.min_eq_left (by omega)]at hv8
   subst hv8
   have hs8:=HS7.out.grown hg8 (by omega) (fun z hz=>by have:=(HO7.out.lt z hz).1;omega)
   have hx8:=blk_grown HX7.out hg8 hnb2
   have hg8':=blk_grown HG7.out hg8 hnb1
   have hlth8:=hx8.lt
   clear x0 x1 x2 x3 x4 q0 q1 q2 q3 q4 e0 e1 e2 e3 e4 e5
   have x0:=hx8.cell (i:=0) rfl
   have x1:=hx8.cell (i:=1) rfl
   have x2:=hx8.cell (i:=2) rfl
   have x3:=hx8.cell (i:=3) rfl
   have x4:=hx8.cell (i:=4) rfl
   have q0:=hx8.frozen 0
   have q1:=hx8.frozen 1
   have q2:=hx8.frozen 2
   have q3:=hx8.frozen 3
   have q4:=hx8.frozen 4
   have hnb8:(Value.slice p8 (j+1) c8).ownBlock≠some w4.heap.size:=fun e=>by have:=(hown8.lt _ e).1;omega
   have hfin:∃(i:Nat) (v:Value),Value.int .i64 ((j:Int)+1)=.int .i64 (i:Int)/\i<=n/\(w8.setCell ⟨w4.heap.size,3,none⟩ (.slice p8 (j+1) c8)).ownsRow wa.heap.size 9 1 v i (sv (cl'.take i))/\IsBlk (w8.setCell ⟨w4.heap.size,3,none⟩ (.slice p8 (j+1) c8)) w4.heap.size #[.int .u64 (a:Int),.string (bs as'),.string (bs bs'),v,.slice none 0 0] 28/\IsBlk (w8.setCell ⟨w4.heap.size,3,none⟩ (.slice p8 (j+1) c8)) g #[.slice p4 l4.length c4,.bool (bad4||notTxt (cl'.take i))] 78/\Rd2 W0.heap.size g w4.heap.size wa (w8.setCell ⟨w4.heap.size,3,none⟩ (.slice p8 (j+1) c8)):=
    ⟨j+1,_,by go_num,hlt,owns_kept hown8 (fun z hz=>Below.heap_setCell _ _ _ _ (show z≠w4.heap.size from fun e=>hnb8 (e▸hz))),by simpa using hx8.set 3 (.slice p8 (j+1) c8),by rw[HNB.out];exact hg8'.set_other (a:=⟨w4.heap.size,3,none⟩) (show w4.heap.size≠g by omega) _,hs8.set_h (by omega) _⟩
   have HFIN:=hid hfin
   clear hown8 hg8 hs8 hx8 hg8' hfin hnb8
   go_wp2
   go_roundw
   case rel=>exact HFIN.out
   case measure=>simp[intOf];omega
  |false=>
   by_cases hk3:xk=3
   ·have hkb:((xk:Int) !=3)=false:=by rw[bne_eq_false_iff_eq];omega
    have HNB:Hid ((bad4||notTxt (cl'.take (j+1)))=false):=hid (by rw[HBJE.out];first|rfl|simp[hk3])
    clear hk3
    go_upto_region 7 with(fail)
    generalize hW7:World.alloc (World.setCell wr _ _) _=W7
    have hs7:Rd2 W0.heap.size g w4.heap.size wa W7:=by rw[←hW7];exact(HRD.out.set_g hge _).trans (Rd2.of_below ((Below.refl _ _).alloc (Nat.le_refl _) _) (by simp;omega))
    have hx7:IsBlk W7 w4.heap.size #[.int .u64 (a:Int),.string (bs as'),.string (bs bs'),sv',.slice none 0 0] 28:=by rw[←hW7];exact(HXB.out.set_other (a:=⟨g,1,none⟩) (show g≠w4.heap.size by omega) _).alloc _
    have hg7:IsBlk W7 g #[.slice p4 l4.length c4,.bool false] 78:=by rw[←hW7];exact(HBJ.out.set 1 (.bool false)).alloc _
    have hb7:IsBlk W7 wr.heap.size #[.int .u8 (xk:Int),.bool xb,.int .i64 xn,.string (bs xs),.slice xpl xl.length xcl,.slice xpf xf.length xcf] 52:=by rw[←hW7];exact IsBlk.new_at (by simp)
    have ho7:W7.ownsRow wa.heap.size 9 1 sv' j (sv (cl'.take j)):=by
     rw[←hW7]
     exact own_alloc (owns_kept HO.out (fun z hz=>Below.heap_setCell _ _ _ _ (show z≠g from fun e=>hnb1 (e▸hz)))) _
    clear y0 y1 z0 z1 x0 x1 x2 x3 x4 q0 q1 q2 q3 q4 e0 e1 e2 e3 e4 e5 hW7 hltg hlth
    have hltg:=hg7.lt
    have hlth:=hx7.lt
    have hltb:=hb7.lt
    have x0:=hx7.cell (i:=0) rfl
    have x1:=hx7.cell (i:=1) rfl
    have x2:=hx7.cell (i:=2) rfl
    have x3:=hx7.cell (i:=3) rfl
    have x4:=hx7.cell (i:=4) rfl
    have q0:=hx7.frozen 0
    have q1:=hx7.frozen 1
    have q2:=hx7.frozen 2
    have q3:=hx7.frozen 3
    have q4:=hx7.frozen 4
    have e0:=hb7.cell (i:=0) rfl
    have e1:=hb7.cell (i:=1) rfl
    have e2:=hb7.cell (i:=2) rfl
    have e3:=hb7.cell (i:=3) rfl
    have e4:=hb7.cell (i:=4) rfl
    have e5:=hb7.cell (i:=5) rfl
    have HS7:=hid hs7
    have HX7:=hid hx7
    have HG7:=hid hg7
    have HO7:=hid ho7
    have hsz7:=hs7.2.1
    clear hs7 hx7 hg7 hb7 ho7
    go_wp2_with(at_builtin;refine push_one wa.heap.size rfl _ _ 25 9 (.string ⟨#[]⟩) 16 rfl Tryz.underlying25 (by kernel_rfl) rfl (by decide) _ (sv (cl'.take j)) (by rw[sv_len,List.length_take,Nat.min_eq_left (by omega)];exact HO7.out) (.string (bs xs)) rfl rfl rfl (by omega) (by rw[sv_len,List.length_take];omega) ?_)
    intro v8 w8 hown8 hg8
    obtain⟨p8,c8,hv8⟩:=own_slice hown8
    rw[sv_len,List.length_take,Nat.min_eq_left (by omega),←HTK.out]at hown8
    rw[sv_len,List.length_take,Nat.min_eq_left (by omega)]at hv8
    subst hv8
    have hs8:=HS7.out.grown hg8 (by omega) (fun z hz=>by have:=(HO7.out.lt z hz).1;omega)
    have hx8:=blk_grown HX7.out hg8 hnb2
    have hg8':=blk_grown HG7.out hg8 hnb1
    have hlth8:=hx8.lt
    clear x0 x1 x2 x3 x4 q0 q1 q2 q3 q4 e0 e1 e2 e3 e4 e5
    have x0:=hx8.cell (i:=0) rfl
    have x1:=hx8.cell (i:=1) rfl
    have x2:=hx8.cell (i:=2) rfl
    have x3:=hx8.cell (i:=3) rfl
    have x4:=hx8.cell (i:=4) rfl
    have q0:=hx8.frozen 0
    have q1:=hx8.frozen 1
    have q2:=hx8.frozen 2
    have q3:=hx8.frozen 3
    have q4:=hx8.frozen 4
    have hnb8:(Value.slice p8 (j+1) c8).ownBlock≠some w4.heap.size:=fun e=>by have:=(hown8.lt _ e).1;omega
    have hfin:∃(i:Nat) (v:Value),Value.int .i64 ((j:Int)+1)=.int .i64 (i:Int)/\i<=n/\(w8.setCell ⟨w4.heap.size,3,none⟩ (.slice p8 (j+1) c8)).ownsRow wa.heap.size 9 1 v i (sv (cl'.take i))/\IsBlk (w8.setCell ⟨w4.heap.size,3,none⟩ (.slice p8 (j+1) c8)) w4.heap.size #[.int .u64 (a:Int),.string (bs as'),.string (bs bs'),v,.slice none 0 0] 28/\IsBlk (w8.setCell ⟨w4.heap.size,3,none⟩ (.slice p8 (j+1) c8)) g #[.slice p4 l4.length c4,.bool (bad4||notTxt (cl'.take i))] 78/\Rd2 W0.heap.size g w4.heap.size wa (w8.setCell ⟨w4.heap.size,3,none⟩ (.slice p8 (j+1) c8)):=
     ⟨j+1,_,by go_num,hlt,owns_kept hown8 (fun z hz=>Below.heap_setCell _ _ _ _ (show z≠w4.heap.size from fun e=>hnb8 (e▸hz))),by simpa using hx8.set 3 (.slice p8 (j+1) c8),by rw[HNB.out];exact hg8'.set_other (a:=⟨w4.heap.size,3,none⟩) (show w4.heap.size≠g by omega) _,hs8.set_h (by omega) _⟩
    have HFIN:=hid hfin
    clear hown8 hg8 hs8 hx8 hg8' hfin hnb8
    go_wp2
    go_roundw
    case rel=>exact HFIN.out
    case measure=>simp[intOf];omega
   ·have hkb:((xk:Int) !=3)=true:=by rw[bne_iff_ne];omega
    have HNB:Hid ((bad4||notTxt (cl'.take (j+1)))=true):=hid (by rw[HBJE.out];first|rfl|simp[hk3])
    clear hk3
    go_upto_region 7 with(fail)
    generalize hW7:World.alloc (World.setCell wr _ _) _=W7
    have hs7:Rd2 W0.heap.size g w4.heap.size wa W7:=by rw[←hW7];exact(HRD.out.set_g hge _).trans (Rd2.of_below ((Below.refl _ _).alloc (Nat.le_refl _) _) (by simp;omega))
    have hx7:IsBlk W7 w4.heap.size #[.int .u64 (a:Int),.string (bs as'),.string (bs bs'),sv',.slice none 0 0] 28:=by rw[←hW7];exact(HXB.out.set_other (a:=⟨g,1,none⟩) (show g≠w4.heap.size by omega) _).alloc _
    have hg7:IsBlk W7 g #[.slice p4 l4.length c4,.bool true] 78:=by rw[←hW7];exact(HBJ.out.set 1 (.bool true)).alloc _
    have hb7:IsBlk W7 wr.heap.size #[.int .u8 (xk:Int),.bool xb,.int .i64 xn,.string (bs xs),.slice xpl xl.length xcl,.slice xpf xf.length xcf] 52:=by rw[←hW7];exact IsBlk.new_at (by simp)
    have ho7:W7.ownsRow wa.heap.size 9 1 sv' j (sv (cl'.take j)):=by
     rw[←hW7]
     exact own_alloc (owns_kept HO.out (fun z hz=>Below.heap_setCell _ _ _ _ (show z≠g from fun e=>hnb1 (e▸hz)))) _
    clear y0 y1 z0 z1 x0 x1 x2 x3 x4 q0 q1 q2 q3 q4 e0 e1 e2 e3 e4 e5 hW7 hltg hlth
    have hltg:=hg7.lt
    have hlth:=hx7.lt
    have hltb:=hb7.lt
    have x0:=hx7.cell (i:=0) rfl
    have x1:=hx7.cell (i:=1) rfl
    have x2:=hx7.cell (i:=2) rfl
    have x3:=hx7.cell (i:=3) rfl
    have x4:=hx7.cell (i:=4) rfl
    have q0:=hx7.frozen 0
    have q1:=hx7.frozen 1
    have q2:=hx7.frozen 2
    have q3:=hx7.frozen 3
    have q4:=hx7.frozen 4
    have e0:=hb7.cell (i:=0) rfl
    have e1:=hb7.cell (i:=1) rfl
    have e2:=hb7.cell (i:=2) rfl
    have e3:=hb7.cell (i:=3) rfl
    have e4:=hb7.cell (i:=4) rfl
    have e5:=hb7.cell (i:=5) rfl
    have HS7:=hid hs7
    have HX7:=hid hx7
    have HG7:=hid hg7
    have HO7:=hid ho7
    have hsz7:=hs7.2.1
    clear hs7 hx7 hg7 hb7 ho7
    go_wp2_with(at_builtin;refine push_one wa.heap.size rfl _ _ 25 9 (.string ⟨#[]⟩) 16 rfl Tryz.underlying25 (by kernel_rfl) rfl (by decide) _ (sv (cl'.take j)) (by rw[sv_len,List.length_take,Nat.min_eq_left (by omega)];exact HO7.out) (.string (bs xs)) rfl rfl rfl (by omega) (by rw[sv_len,List.length_take];omega) ?_)
    intro v8 w8 hown8 hg8
    obtain⟨p8,c8,hv8⟩:=own_slice hown8
    rw[sv_len,List.length_take,Nat.min_eq_left (by omega),←HTK.out]at hown8
    rw[sv_len,List.length_take,Nat.min_eq_left (by omega)]at hv8
    subst hv8
    have hs8:=HS7.out.grown hg8 (by omega) (fun z hz=>by have:=(HO7.out.lt z hz).1;omega)
    have hx8:=blk_grown HX7.out hg8 hnb2
    have hg8':=blk_grown HG7.out hg8 hnb1
    have hlth8:=hx8.lt
    clear x0 x1 x2 x3 x4 q0 q1 q2 q3 q4 e0 e1 e2 e3 e4 e5
    have x0:=hx8.cell (i:=0) rfl
    have x1:=hx8.cell (i:=1) rfl
    have x2:=hx8.cell (i:=2) rfl
    have x3:=hx8.cell (i:=3) rfl
    have x4:=hx8.cell (i:=4) rfl
    have q0:=hx8.frozen 0
    have q1:=hx8.frozen 1
    have q2:=hx8.frozen 2
    have q3:=hx8.frozen 3
    have q4:=hx8.frozen 4
    have hnb8:(Value.slice p8 (j+1) c8).ownBlock≠some w4.heap.size:=fun e=>by have:=(hown8.lt _ e).1;omega
    have hfin:∃(i:Nat) (v:Value),Value.int .i64 ((j:Int)+1)=.int .i64 (i:Int)/\i<=n/\(w8.setCell ⟨w4.heap.size,3,none⟩ (.slice p8 (j+1) c8)).ownsRow wa.heap.size 9 1 v i (sv (cl'.take i))/\IsBlk (w8.setCell ⟨w4.heap.size,3,none⟩ (.slice p8 (j+1) c8)) w4.heap.size #[.int .u64 (a:Int),.string (bs as'),.string (bs bs'),v,.slice none 0 0] 28/\IsBlk (w8.setCell ⟨w4.heap.size,3,none⟩ (.slice p8 (j+1) c8)) g #[.slice p4 l4.length c4,.bool (bad4||notTxt (cl'.take i))] 78/\Rd2 W0.heap.size g w4.heap.size wa (w8.setCell ⟨w4.heap.size,3,none⟩ (.slice p8 (j+1) c8)):=
     ⟨j+1,_,by go_num,hlt,owns_kept hown8 (fun z hz=>Below.heap_setCell _ _ _ _ (show z≠w4.heap.size from fun e=>hnb8 (e▸hz))),by simpa using hx8.set 3 (.slice p8 (j+1) c8),by rw[HNB.out];exact hg8'.set_other (a:=⟨w4.heap.size,3,none⟩) (show w4.heap.size≠g by omega) _,hs8.set_h (by omega) _⟩
    have HFIN:=hid hfin
    clear hown8 hg8 hs8 hx8 hg8' hfin hnb8
    go_wp2
    go_roundw
    case rel=>exact HFIN.out
    case measure=>simp[intOf];omega
 obtain rfl:j=n:=by omega
 have hall:cl'.take j=cl':=by rw[HN.out,List.take_length]
 rw[hall]at hown hgb
 have hrow2:wr.ownsRow wa.heap.size 9 1 sv' (cl'.map strV).length ((cl'.map strV).map fun s=>Value.string (bs s)):=by
  rw[List.length_map,List.map_map,←HN.out]
  exact hown
 obtain⟨p3,c3,hsv,hc31,hc32,hs3⟩:=hasS_cap hrow2
 rw[List.length_map,←HN.out]at hsv hc31
 subst hsv
 have HS3:=hid hs3
 have HSL:=hid (hasL_strs HL3.out)
 have hl4:=HL4.out.ext_to (w':=wr) (S':=fun b=>W0.heap.size<=b/\b<g) (fun _ h=>h) (fun b hb hlt=>hrd.2.2 b hlt (by omega) (by omega))
 have hr4:RdJ (fun b=>W0.heap.size<=b/\b<g) wr g (l4,bad4||notTxt (listV (DVal.mk ck cb cn cs' cl' cf'))):=⟨p4,c4,hgb,hl4,HC4.out⟩
 have HR4:=hid hr4
 have HBb:=hid (HB6.out.trans hrd.1)
 have hltg:=hgb.lt
 clear hown hxb hgb hrd hall hrow2 hs3 hl4 hr4 HO HGB HRD HL4 HC4 HL3 HX6 HG6 HB6 HX5 HB5
 rename World=>wb
 go_wp2_with fail
 go_at_call 42
 refine(HN5.out W0.heap.size g _ wb hge HR4.out (fun b hb=>hb.2)).mono ?_
 rintro e' wc ⟨cs7,rfl,hv7,hr7,hd7⟩
 obtain⟨dk,db,dn,ds',dl,df⟩:=v5
 have hv7':HasVal (fun b=>W0.heap.size<=b/\b<g) wc (.mk dk db dn ds' dl df) cs7:=hv7
 obtain⟨pl5,cl5,pf5,cf5,rfl,hbd,hL5,_⟩:=hasVal_mk.1 hv7'
 have hl5m:dl.length<=1073741824:=hbd.2.2.2.2.1
 have hfd:=fld4 (.int .u8 (dk:Int)) (.bool db) (.int .i64 dn) (.string (bs ds')) (.slice pl5 dl.length cl5) (.slice pf5 df.length cf5)
 have hx7:=hd7.blk HXB.out (show w4.heap.size≠g by omega)
 obtain⟨p5,c5,hg7,hl7,hlc7,hcm7,hlm7⟩:=hr7
 have hg7':IsBlk wc g #[.slice p5 l5.length c5,.bool bad5] 78:=hg7
 have HS7:=hid (HS3.out.ext_to (w':=wc) (fun _ h=>h) (fun b hb hlt=>hd7.2.2 b hlt (by omega)))
 have HL5:=hid hL5
 have HX7:=hid hx7
 have HG7:=hid hg7'
 have HB7:=hid (HBb.out.trans hd7.1)
 have hszc:=hd7.2.1
 obtain⟨n2,hn2⟩:∃n2,n2=dl.length:=⟨_,rfl⟩
 rw[←hn2]at hfd hl5m
 rw[←hn2]
 have HN2:=hid hn2
 clear hv7 hv7' hbd hL5 hx7 hg7 hg7' hl7 hlc7 hcm7 hlm7 hd7 hn2 HS3 HR4 HBb HXB HN5
 go_wp2
 clear hfd
 go_loopw [55] (fun b wr=>∃(i:Nat) (v:Value),b=.int .i64 (i:Int)/\i<=n2/\Acc HasRev wc.heap.size 54 10 wr v ((dl.take i).map fun v=>(rrM (strV v)).1)/\IsBlk wr w4.heap.size #[.int .u64 (a:Int),.string (bs as'),.string (bs bs'),.slice p3 j c3,v] 28/\IsBlk wr g #[.slice p5 l5.length c5,.bool (bad5||notRev (dl.take i))] 78/\Rd2 W0.heap.size g w4.heap.size wc wr) (fun b _=>n2-(intOf b).toNat)
 case atStart=>exact⟨0,.slice none 0 0,rfl,Nat.zero_le _,Acc.nil _ _ _,HX7.out,by simpa[notRev]using HG7.out,Rd2.refl _ _ _ _⟩
 case round=>
 obtain⟨i,sv',rfl,hi,hacc,hxb,hgb,hrd⟩:=hrel
 have hszw:=hrd.2.1
 obtain⟨q1,d1,hav⟩:=hacc.slice
 have hjl:((dl.take i).map fun v=>(rrM (strV v)).1).length=i:=by rw[List.length_map,List.length_take];have:=HN2.out;omega
 rw[hjl]at hav
 subst hav
 generalize hvs:((dl.take i).map fun v=>(rrM (strV v)).1)=vs' at hacc hjl
 have HVS:=hid hvs
 have HJL:=hid hjl
 have HAC:=hid hacc
 have HXB:=hid hxb
 have HGB:=hid hgb
 have HRD:=hid hrd
 have hown:∀z,(Value.slice q1 i d1).ownBlock=some z->wc.heap.size<=z/\z<wr.heap.size:=hacc.lt
 have hnb1:(Value.slice q1 i d1).ownBlock≠some g:=fun e=>by have:=(hown g e).1;omega
 have hnb2:(Value.slice q1 i d1).ownBlock≠some w4.heap.size:=fun e=>by have:=(hown _ e).1;omega
 have HOW:=hid hown
 clear hvs hjl
 by_cases hlt:i<n2
 ·have hltl:i<dl.length:=by rw[←HN2.out];exact hlt
  have hl3:=HL5.out.ext_to (w':=wr) (S':=fun b=>W0.heap.size<=b/\b<g) (fun _ h=>h) (fun b hb hlt=>hrd.2.2 b hlt (by omega) (by omega))
  obtain⟨g1,o1,ce,rfl,hce,hve⟩:=hl3 i hltl
  have hsn:=notRev_snoc hltl
  have htk:=take_snoc hltl
  generalize hxe:dl[i]=x at hve hsn htk
  obtain⟨xk,xb,xn,xs,xl,xf⟩:=x
  obtain⟨xpl,xcl,xpf,xcf,rfl,hxbd,_⟩:=hasVal_mk.1 hve
  have hxk:xk<256:=hxbd.1
  have hxs:xs.length<=1073741824:=hxbd.2.2.2.1
  obtain⟨e0,e1,e2,e3,e4,e5⟩:=hce.six
  have hg1:g1<wr.heap.size:=hce.2.1
  have hg1g:g1<g:=hce.1.2
  have hsn':notRev (dl.take (i+1))=(notRev (dl.take i)||(decide (xk≠4)||!(rrM xs).2)):=hsn
  have htk':((dl.take (i+1)).map fun v=>(rrM (strV v)).1)=vs'++[(rrM xs).1]:=by rw[htk,List.map_append,HVS.out];rfl
  have HTC:Hid (∀w',Below wr.heap.size wr w'->Calls Tryz.prog 43 #[.string (bs xs)] w' (RevOut w' (rrM xs).1 (rrM xs).2)):=hid (fun w' h=>readRev_any xs w' (U8T_ext (HT.out) (below_ext ((HB0.out.trans (HB7.out.mono (Nat.le_of_lt hlt0))).trans (HRD.out.1.mono (Nat.le_of_lt hlt0))) h)) (by omega))
  generalize rrM xs=qr at hsn' htk' HTC
  obtain⟨r,ok⟩:=qr
  have HSN:Hid (notRev (dl.take (i+1))=(notRev (dl.take i)||(decide (xk≠4)||!ok))):=hid hsn'
  have HTK:Hid (((dl.take (i+1)).map fun v=>(rrM (strV v)).1)=vs'++[r]):=hid htk'
  have hltg:=hgb.lt
  have hlth:=hxb.lt
  generalize hbj:(bad5||notRev (dl.take i))=bj at hgb
  have HBJ:Hid (IsBlk wr g #[.slice p5 l5.length c5,.bool bj] 78):=hid hgb
  have HBJE:Hid ((bad5||notRev (dl.take (i+1)))=(bj||(decide (xk≠4)||!ok))):=hid (by rw[HSN.out,←hbj,Bool.or_assoc])
  clear hacc hown hxb hgb hrd hve hxbd hce hsn htk hsn' htk' hxe hbj HGB
  go_wp2_with fail
  go_at_call 43
  refine(HTC.out _ ((Below.refl _ _).alloc (Nat.le_refl _) _)).mono ?_
  rintro e' w6 ⟨cr,rfl,hrev,hb6⟩
  have hba:=(Below.refl wr.heap.size wr).alloc (Nat.le_refl _) (.cells #[.int .u8 (xk:Int),.bool xb,.int .i64 xn,.string (bs xs),.slice xpl xl.length xcl,.slice xpf xf.length xcf] 52)
  have hb6':=below_ext hba hb6
  have HREV:=hid hrev
  obtain⟨rk,rt,rdd,rnn,rv⟩:=r
  obtain⟨cr',rfl,hrbd,hrv⟩:=hrev
  obtain⟨vk,vb,vn,vs,vl,vf⟩:=rv
  obtain⟨vpl,vcl,vpf,vcf,rfl,_⟩:=hasVal_mk.1 hrv
  have hb6v:IsBlk w6 wr.heap.size #[.int .u8 (xk:Int),.bool xb,.int .i64 xn,.string (bs xs),.slice xpl xl.length xcl,.slice xpf xf.length xcf] 52:=(IsBlk.new _ _ _).ext hb6
  go_upto_region 13 with(fail)
  generalize hW6:World.alloc w6 _=W6
  have hb66:Below w6.heap.size w6 W6:=by rw[←hW6];exact(Below.refl _ _).alloc (Nat.le_refl _) _
  have hbr6:=below_ext hb6' hb66
  have ht6:IsBlk W6 w6.heap.size #[.int .u8 (rk:Int),.string (bs rt),.int .u64 (rdd:Int),.int .u64 (rnn:Int),.int .u8 (vk:Int),.bool vb,.int .i64 vn,.string (bs vs),.slice vpl vl.length vcl,.slice vpf vf.length vcf] 54:=by rw[←hW6];exact IsBlk.new _ _ _
  have hv6:=hb6v.ext hb66
  have hx6:=HXB.out.ext hbr6
  have hg6:=HBJ.out.ext hbr6
  have HX6:=hid hx6
  have HG6:=hid hg6
  have HT6:=hid ht6
  have HRD6:=hid (HRD.out.trans (Rd2.of_below hbr6 (by omega)))
  have HA6:=hid (HAC.out.kept relR (fun z hz hlt=>hbr6.block z hlt))
  have HRV6:=hid (relR.kept (relR.lt HREV.out) (S':=fun b=>wr.heap.size<=b/\b<w6.heap.size) (w':=W6) (fun b hb=>⟨by have:=hb.1;simp at this;omega,hb.2⟩) (fun b hb _=>hb66.block b hb.2))
  have hsz6:=hbr6.size
  have hsz66:=hb6'.size
  have hltg6:=hg6.lt
  have hlth6:=hx6.lt
  have hltv6:=hv6.lt
  have hltt6:=ht6.lt
  clear e0 e1 e2 e3 e4 e5
  have y0:=hg6.cell (i:=0) rfl
  have y1:=hg6.cell (i:=1) rfl
  have z0:=hg6.frozen 0
  have z1:=hg6.frozen 1
  have e0:=hv6.cell (i:=0) rfl
  have e1:=hv6.cell (i:=1) rfl
  have e2:=hv6.cell (i:=2) rfl
  have e3:=hv6.cell (i:=3) rfl
  have e4:=hv6.cell (i:=4) rfl
  have e5:=hv6.cell (i:=5) rfl
  clear hW6 hb66 hbr6 ht6 hv6 hx6 hg6 hba hb6 hb6' hb6v hrv hrbd HREV HTC
  cases bj with
  |true=>
   have hk4:True:=trivial
   have HNB:Hid ((bad5||notRev (dl.take (i+1)))=true):=hid (by rw[HBJE.out];first|rfl|simp[hk4])
   clear hk4
   go_upto_region 14 with(fail)
   generalize hW7:World.setCell W6 _ _=W7
   have hs7:Rd2 W0.heap.size g w4.heap.size wc W7:=by rw[←hW7];exact HRD6.out.set_g hge _
   have ho7:∀b,b≠g->W7.heap[b]?=W6.heap[b]?:=fun b hb=>by rw[←hW7];exact Below.heap_setCell _ _ _ _ hb
   have hx7:IsBlk W7 w4.heap.size #[.int .u64 (a:Int),.string (bs as'),.string (bs bs'),.slice p3 j c3,.slice q1 i d1] 28:=(ho7 _ (by omega)).trans HX6.out
   have hg7:IsBlk W7 g #[.slice p5 l5.length c5,.bool true] 78:=by rw[←hW7];exact HG6.out.set 1 (.bool true)
   have ht7:IsBlk W7 w6.heap.size #[.int .u8 (rk:Int),.string (bs rt),.int .u64 (rdd:Int),.int .u64 (rnn:Int),.int .u8 (vk:Int),.bool vb,.int .i64 vn,.string (bs vs),.slice vpl vl.length vcl,.slice vpf vf.length vcf] 54:=(ho7 _ (by omega)).trans HT6.out
   have ha7:=HA6.out.kept relR (w':=W7) (fun z hz _=>ho7 z (by omega))
   have hsz7:W7.heap.size<=W6.heap.size:=by rw[←hW7];simp
   have hsz7':W6.heap.size<=W7.heap.size:=by rw[←hW7];simp
   have hrv7:=relR.kept HRV6.out (S':=fun b=>wc.heap.size<=b/\(Value.slice q1 i d1).ownBlock≠some b) (w':=W7.alloc (.cells #[.int .u8 (rk:Int),.string (bs rt),.int .u64 (rdd:Int),.int .u64 (rnn:Int),.int .u8 (vk:Int),.bool vb,.int .i64 vn,.string (bs vs),.slice vpl vl.length vcl,.slice vpf vf.length vcf] 54)) (fun b hb=>⟨by have:=hb.1;omega,fun e=>by have:=(HOW.out b e).2;have:=hb.1;omega⟩) (fun b hb hlt=>by
    rw[((Below.refl W7.heap.size W7).alloc (Nat.le_refl _) _).block b (by omega)]
    exact ho7 b (by have:=hb.1;omega))
   clear y0 y1 z0 z1 e0 e1 e2 e3 e4 e5 hW7 hltg6 hlth6 hltv6 hltt6
   have hltg7:=hg7.lt
   have hlth7:=hx7.lt
   have hltt7:=ht7.lt
   have x0:=hx7.cell (i:=0) rfl
   have x1:=hx7.cell (i:=1) rfl
   have x2:=hx7.cell (i:=2) rfl
   have x3:=hx7.cell (i:=3) rfl
   have x4:=hx7.cell (i:=4) rfl
   have f7:=hx7.frozen 4
   have e0:=ht7.cell (i:=0) rfl
   have e1:=ht7.cell (i:=1) rfl
   have e2:=ht7.cell (i:=2) rfl
   have e3:=ht7.cell (i:=3) rfl
   have e4:=ht7.cell (i:=4) rfl
   have e5:=ht7.cell (i:=5) rfl
   have e6:=ht7.cell (i:=6) rfl
   have e7:=ht7.cell (i:=7) rfl
   have e8:=ht7.cell (i:=8) rfl
   have e9:=ht7.cell (i:=9) rfl
   have HS7':=hid hs7
   have HX7':=hid hx7
   have HG7':=hid hg7
   have HA7:=hid (ha7.kept relR (fun z hz hlt=>((Below.refl W7.heap.size W7).alloc (Nat.le_refl _) (.cells #[.int .u8 (rk:Int),.string (bs rt),.int .u64 (rdd:Int),.int .u64 (rnn:Int),.int .u8 (vk:Int),.bool vb,.int .i64 vn,.string (bs vs),.slice vpl vl.length vcl,.slice vpf vf.length vcf] 54)).block z hlt))
   have HRV7:=hid hrv7
   clear hs7 hx7 hg7 ht7 ha7 hrv7 ho7
   go_wp2_with(at_builtin;refine push_acc relR wc.heap.size rfl _ _ 26 54 (.agg #[.int .u8 0,.string ⟨#[]⟩,.int .u64 0,.int .u64 0,.int .u8 0,.bool false,.int .i64 0,.string ⟨#[]⟩,.slice none 0 0,.slice none 0 0]) 120 rfl Tryz.underlying26 (by kernel_rfl) rfl (by decide) _ vs' HA7.out W7.heap.size [.int .u8 (rk:Int),.string (bs rt),.int .u64 (rdd:Int),.int .u64 (rnn:Int),.int .u8 (vk:Int),.bool vb,.int .i64 vn,.string (bs vs),.slice vpl vl.length vcl,.slice vpf vf.length vcf] ⟨rk,rt,rdd,rnn,.mk vk vb vn vs vl vf⟩ (IsBlk.new _ _ _) HRV7.out rfl rfl (by simp;omega) (by rw[HJL.out];omega) (by rw[HJL.out];unfold maxLen;omega) ?_)
   intro g8 cap8 w8 hacc8 hg8 hBg hgo hglt
   rw[HJL.out,←HTK.out]at hacc8
   rw[HJL.out]
   have hs8:=(HS7'.out.trans (Rd2.of_below ((Below.refl W7.heap.size W7).alloc (Nat.le_refl _) _) (by omega))).grown hg8 (by simp;omega) (fun z hz=>by have:=(HOW.out z hz).1;omega)
   have hx8:=blk_grown (HX7'.out.alloc _) hg8 hnb2
   have hg8':=blk_grown (HG7'.out.alloc _) hg8 hnb1
   have hlth8:=hx8.lt
   clear x0 x1 x2 x3 x4 f7 e0 e1 e2 e3 e4 e5 e6 e7 e8 e9
   have x0:=hx8.cell (i:=0) rfl
   have x1:=hx8.cell (i:=1) rfl
   have x2:=hx8.cell (i:=2) rfl
   have x3:=hx8.cell (i:=3) rfl
   have x4:=hx8.cell (i:=4) rfl
   have f8:=hx8.frozen 4
   have hfin:∃(i':Nat) (v:Value),Value.int .i64 ((i:Int)+1)=.int .i64 (i':Int)/\i'<=n2/\Acc HasRev wc.heap.size 54 10 (w8.setCell ⟨w4.heap.size,4,none⟩ (.slice (some ⟨g8,0,none⟩) (i+1) cap8)) v ((dl.take i').map fun v=>(rrM (strV v)).1)/\IsBlk (w8.setCell ⟨w4.heap.size,4,none⟩ (.slice (some ⟨g8,0,none⟩) (i+1) cap8)) w4.heap.size #[.int .u64 (a:Int),.string (bs as'),.string (bs bs'),.slice p3 j c3,v] 28/\IsBlk (w8.setCell ⟨w4.heap.size,4,none⟩ (.slice (some ⟨g8,0,none⟩) (i+1) cap8)) g #[.slice p5 l5.length c5,.bool (bad5||notRev (dl.take i'))] 78/\Rd2 W0.heap.size g w4.heap.size wc (w8.setCell ⟨w4.heap.size,4,none⟩ (.slice (some ⟨g8,0,none⟩) (i+1) cap8)):=
    ⟨i+1,_,by go_num,hlt,hacc8.kept relR (fun z hz _=>Below.heap_setCell _ _ _ _ (show z≠w4.heap.size by omega)),by simpa using hx8.set 4 (.slice (some ⟨g8,0,none⟩) (i+1) cap8),by rw[HNB.out];exact hg8'.set_other (a:=⟨w4.heap.size,4,none⟩) (show w4.heap.size≠g by omega) _,hs8.set_h (by omega) _⟩
   have HFIN:=hid hfin
   clear hacc8 hg8 hs8 hx8 hg8' hfin
   go_wp2
   go_roundw
   case rel=>exact HFIN.out
   case measure=>simp[intOf];omega
  |false=>
   by_cases hk4:xk=4
   case neg=>
    have hkb:((xk:Int) !=4)=true:=by rw[bne_iff_ne];omega
    have HNB:Hid ((bad5||notRev (dl.take (i+1)))=true):=hid (by rw[HBJE.out];first|rfl|simp[hk4])
    clear hk4
    go_upto_region 14 with(fail)
    generalize hW7:World.setCell W6 _ _=W7
    have hs7:Rd2 W0.heap.size g w4.heap.size wc W7:=by rw[←hW7];exact HRD6.out.set_g hge _
    have ho7:∀b,b≠g->W7.heap[b]?=W6.heap[b]?:=fun b hb=>by rw[←hW7];exact Below.heap_setCell _ _ _ _ hb
    have hx7:IsBlk W7 w4.heap.size #[.int .u64 (a:Int),.string (bs as'),.string (bs bs'),.slice p3 j c3,.slice q1 i d1] 28:=(ho7 _ (by omega)).trans HX6.out
    have hg7:IsBlk W7 g #[.slice p5 l5.length c5,.bool true] 78:=by rw[←hW7];exact HG6.out.set 1 (.bool true)
    have ht7:IsBlk W7 w6.heap.size #[.int .u8 (rk:Int),.string (bs rt),.int .u64 (rdd:Int),.int .u64 (rnn:Int),.int .u8 (vk:Int),.bool vb,.int .i64 vn,.string (bs vs),.slice vpl vl.length vcl,.slice vpf vf.length vcf] 54:=(ho7 _ (by omega)).trans HT6.out
    have ha7:=HA6.out.kept relR (w':=W7) (fun z hz _=>ho7 z (by omega))
    have hsz7:W7.heap.size<=W6.heap.size:=by rw[←hW7];simp
    have hsz7':W6.heap.size<=W7.heap.size:=by rw[←hW7];simp
    have hrv7:=relR.kept HRV6.out (S':=fun b=>wc.heap.size<=b/\(Value.slice q1 i d1).ownBlock≠some b) (w':=W7.alloc (.cells #[.int .u8 (rk:Int),.string (bs rt),.int .u64 (rdd:Int),.int .u64 (rnn:Int),.int .u8 (vk:Int),.bool vb,.int .i64 vn,.string (bs vs),.slice vpl vl.length vcl,.slice vpf vf.length vcf] 54)) (fun b hb=>⟨by have:=hb.1;omega,fun e=>by have:=(HOW.out b e).2;have:=hb.1;omega⟩) (fun b hb hlt=>by
     rw[((Below.refl W7.heap.size W7).alloc (Nat.le_refl _) _).block b (by omega)]
     exact ho7 b (by have:=hb.1;omega))
    clear y0 y1 z0 z1 e0 e1 e2 e3 e4 e5 hW7 hltg6 hlth6 hltv6 hltt6
    have hltg7:=hg7.lt
    have hlth7:=hx7.lt
    have hltt7:=ht7.lt
    have x0:=hx7.cell (i:=0) rfl
    have x1:=hx7.cell (i:=1) rfl
    have x2:=hx7.cell (i:=2) rfl
    have x3:=hx7.cell (i:=3) rfl
    have x4:=hx7.cell (i:=4) rfl
    have f7:=hx7.frozen 4
    have e0:=ht7.cell (i:=0) rfl
    have e1:=ht7.cell (i:=1) rfl
    have e2:=ht7.cell (i:=2) rfl
    have e3:=ht7.cell (i:=3) rfl
    have e4:=ht7.cell (i:=4) rfl
    have e5:=ht7.cell (i:=5) rfl
    have e6:=ht7.cell (i:=6) rfl
    have e7:=ht7.cell (i:=7) rfl
    have e8:=ht7.cell (i:=8) rfl
    have e9:=ht7.cell (i:=9) rfl
    have HS7':=hid hs7
    have HX7':=hid hx7
    have HG7':=hid hg7
    have HA7:=hid (ha7.kept relR (fun z hz hlt=>((Below.refl W7.heap.size W7).alloc (Nat.le_refl _) (.cells #[.int .u8 (rk:Int),.string (bs rt),.int .u64 (rdd:Int),.int .u64 (rnn:Int),.int .u8 (vk:Int),.bool vb,.int .i64 vn,.string (bs vs),.slice vpl vl.length vcl,.slice vpf vf.length vcf] 54)).block z hlt))
    have HRV7:=hid hrv7
    clear hs7 hx7 hg7 ht7 ha7 hrv7 ho7
    go_wp2_with(at_builtin;refine push_acc relR wc.heap.size rfl _ _ 26 54 (.agg #[.int .u8 0,.string ⟨#[]⟩,.int .u64 0,.int .u64 0,.int .u8 0,.bool false,.int .i64 0,.string ⟨#[]⟩,.slice none 0 0,.slice none 0 0]) 120 rfl Tryz.underlying26 (by kernel_rfl) rfl (by decide) _ vs' HA7.out W7.heap.size [.int .u8 (rk:Int),.string (bs rt),.int .u64 (rdd:Int),.int .u64 (rnn:Int),.int .u8 (vk:Int),.bool vb,.int .i64 vn,.string (bs vs),.slice vpl vl.length vcl,.slice vpf vf.length vcf] ⟨rk,rt,rdd,rnn,.mk vk vb vn vs vl vf⟩ (IsBlk.new _ _ _) HRV7.out rfl rfl (by simp;omega) (by rw[HJL.out];omega) (by rw[HJL.out];unfold maxLen;omega) ?_)
    intro g8 cap8 w8 hacc8 hg8 hBg hgo hglt
    rw[HJL.out,←HTK.out]at hacc8
    rw[HJL.out]
    have hs8:=(HS7'.out.trans (Rd2.of_below ((Below.refl W7.heap.size W7).alloc (Nat.le_refl _) _) (by omega))).grown hg8 (by simp;omega) (fun z hz=>by have:=(HOW.out z hz).1;omega)
    have hx8:=blk_grown (HX7'.out.alloc _) hg8 hnb2
    have hg8':=blk_grown (HG7'.out.alloc _) hg8 hnb1
    have hlth8:=hx8.lt
    clear x0 x1 x2 x3 x4 f7 e0 e1 e2 e3 e4 e5 e6 e7 e8 e9
    have x0:=hx8.cell (i:=0) rfl
    have x1:=hx8.cell (i:=1) rfl
    have x2:=hx8.cell (i:=2) rfl
    have x3:=hx8.cell (i:=3) rfl
    have x4:=hx8.cell (i:=4) rfl
    have f8:=hx8.frozen 4
    have hfin:∃(i':Nat) (v:Value),Value.int .i64 ((i:Int)+1)=.int .i64 (i':Int)/\i'<=n2/\Acc HasRev wc.heap.size 54 10 (w8.setCell ⟨w4.heap.size,4,none⟩ (.slice (some ⟨g8,0,none⟩) (i+1) cap8)) v ((dl.take i').map fun v=>(rrM (strV v)).1)/\IsBlk (w8.setCell ⟨w4.heap.size,4,none⟩ (.slice (some ⟨g8,0,none⟩) (i+1) cap8)) w4.heap.size #[.int .u64 (a:Int),.string (bs as'),.string (bs bs'),.slice p3 j c3,v] 28/\IsBlk (w8.setCell ⟨w4.heap.size,4,none⟩ (.slice (some ⟨g8,0,none⟩) (i+1) cap8)) g #[.slice p5 l5.length c5,.bool (bad5||notRev (dl.take i'))] 78/\Rd2 W0.heap.size g w4.heap.size wc (w8.setCell ⟨w4.heap.size,4,none⟩ (.slice (some ⟨g8,0,none⟩) (i+1) cap8)):=
     ⟨i+1,_,by go_num,hlt,hacc8.kept relR (fun z hz _=>Below.heap_setCell _ _ _ _ (show z≠w4.heap.size by omega)),by simpa using hx8.set 4 (.slice (some ⟨g8,0,none⟩) (i+1) cap8),by rw[HNB.out];exact hg8'.set_other (a:=⟨w4.heap.size,4,none⟩) (show w4.heap.size≠g by omega) _,hs8.set_h (by omega) _⟩
    have HFIN:=hid hfin
    clear hacc8 hg8 hs8 hx8 hg8' hfin
    go_wp2
    go_roundw
    case rel=>exact HFIN.out
    case measure=>simp[intOf];omega
   have hkb:((xk:Int) !=4)=false:=by rw[bne_eq_false_iff_eq];omega
   cases ok with
   |true=>
    have HNB:Hid ((bad5||notRev (dl.take (i+1)))=false):=hid (by rw[HBJE.out];first|rfl|simp[hk4])
    clear hk4
    go_upto_region 14 with(fail)
    generalize hW7:World.setCell W6 _ _=W7
    have hs7:Rd2 W0.heap.size g w4.heap.size wc W7:=by rw[←hW7];exact HRD6.out.set_g hge _
    have ho7:∀b,b≠g->W7.heap[b]?=W6.heap[b]?:=fun b hb=>by rw[←hW7];exact Below.heap_setCell _ _ _ _ hb
    have hx7:IsBlk W7 w4.heap.size #[.int .u64 (a:Int),.string (bs as'),.string (bs bs'),.slice p3 j c3,.slice q1 i d1] 28:=(ho7 _ (by omega)).trans HX6.out
    have hg7:IsBlk W7 g #[.slice p5 l5.length c5,.bool false] 78:=by rw[←hW7];exact HG6.out.set 1 (.bool false)
    have ht7:IsBlk W7 w6.heap.size #[.int .u8 (rk:Int),.string (bs rt),.int .u64 (rdd:Int),.int .u64 (rnn:Int),.int .u8 (vk:Int),.bool vb,.int .i64 vn,.string (bs vs),.slice vpl vl.length vcl,.slice vpf vf.length vcf] 54:=(ho7 _ (by omega)).trans HT6.out
    have ha7:=HA6.out.kept relR (w':=W7) (fun z hz _=>ho7 z (by omega))
    have hsz7:W7.heap.size<=W6.heap.size:=by rw[←hW7];simp
    have hsz7':W6.heap.size<=W7.heap.size:=by rw[←hW7];simp
    have hrv7:=relR.kept HRV6.out (S':=fun b=>wc.heap.size<=b/\(Value.slice q1 i d1).ownBlock≠some b) (w':=W7.alloc (.cells #[.int .u8 (rk:Int),.string (bs rt),.int .u64 (rdd:Int),.int .u64 (rnn:Int),.int .u8 (vk:Int),.bool vb,.int .i64 vn,.string (bs vs),.slice vpl vl.length vcl,.slice vpf vf.length vcf] 54)) (fun b hb=>⟨by have:=hb.1;omega,fun e=>by have:=(HOW.out b e).2;have:=hb.1;omega⟩) (fun b hb hlt=>by
     rw[((Below.refl W7.heap.size W7).alloc (Nat.le_refl _) _).block b (by omega)]
     exact ho7 b (by have:=hb.1;omega))
    clear y0 y1 z0 z1 e0 e1 e2 e3 e4 e5 hW7 hltg6 hlth6 hltv6 hltt6
    have hltg7:=hg7.lt
    have hlth7:=hx7.lt
    have hltt7:=ht7.lt
    have x0:=hx7.cell (i:=0) rfl
    have x1:=hx7.cell (i:=1) rfl
    have x2:=hx7.cell (i:=2) rfl
    have x3:=hx7.cell (i:=3) rfl
    have x4:=hx7.cell (i:=4) rfl
    have f7:=hx7.frozen 4
    have e0:=ht7.cell (i:=0) rfl
    have e1:=ht7.cell (i:=1) rfl
    have e2:=ht7.cell (i:=2) rfl
    have e3:=ht7.cell (i:=3) rfl
    have e4:=ht7.cell (i:=4) rfl
    have e5:=ht7.cell (i:=5) rfl
    have e6:=ht7.cell (i:=6) rfl
    have e7:=ht7.cell (i:=7) rfl
    have e8:=ht7.cell (i:=8) rfl
    have e9:=ht7.cell (i:=9) rfl
    have HS7':=hid hs7
    have HX7':=hid hx7
    have HG7':=hid hg7
    have HA7:=hid (ha7.kept relR (fun z hz hlt=>((Below.refl W7.heap.size W7).alloc (Nat.le_refl _) (.cells #[.int .u8 (rk:Int),.string (bs rt),.int .u64 (rdd:Int),.int .u64 (rnn:Int),.int .u8 (vk:Int),.bool vb,.int .i64 vn,.string (bs vs),.slice vpl vl.length vcl,.slice vpf vf.length vcf] 54)).block z hlt))
    have HRV7:=hid hrv7
    clear hs7 hx7 hg7 ht7 ha7 hrv7 ho7
    go_wp2_with(at_builtin;refine push_acc relR wc.heap.size rfl _ _ 26 54 (.agg #[.int .u8 0,.string ⟨#[]⟩,.int .u64 0,.int .u64 0,.int .u8 0,.bool false,.int .i64 0,.string ⟨#[]⟩,.slice none 0 0,.slice none 0 0]) 120 rfl Tryz.underlying26 (by kernel_rfl) rfl (by decide) _ vs' HA7.out W7.heap.size [.int .u8 (rk:Int),.string (bs rt),.int .u64 (rdd:Int),.int .u64 (rnn:Int),.int .u8 (vk:Int),.bool vb,.int .i64 vn,.string (bs vs),.slice vpl vl.length vcl,.slice vpf vf.length vcf] ⟨rk,rt,rdd,rnn,.mk vk vb vn vs vl vf⟩ (IsBlk.new _ _ _) HRV7.out rfl rfl (by simp;omega) (by rw[HJL.out];omega) (by rw[HJL.out];unfold maxLen;omega) ?_)
    intro g8 cap8 w8 hacc8 hg8 hBg hgo hglt
    rw[HJL.out,←HTK.out]at hacc8
    rw[HJL.out]
    have hs8:=(HS7'.out.trans (Rd2.of_below ((Below.refl W7.heap.size W7).alloc (Nat.le_refl _) _) (by omega))).grown hg8 (by simp;omega) (fun z hz=>by have:=(HOW.out z hz).1;omega)
    have hx8:=blk_grown (HX7'.out.alloc _) hg8 hnb2
    have hg8':=blk_grown (HG7'.out.alloc _) hg8 hnb1
    have hlth8:=hx8.lt
    clear x0 x1 x2 x3 x4 f7 e0 e1 e2 e3 e4 e5 e6 e7 e8 e9
    have x0:=hx8.cell (i:=0) rfl
    have x1:=hx8.cell (i:=1) rfl
    have x2:=hx8.cell (i:=2) rfl
    have x3:=hx8.cell (i:=3) rfl
    have x4:=hx8.cell (i:=4) rfl
    have f8:=hx8.frozen 4
    have hfin:∃(i':Nat) (v:Value),Value.int .i64 ((i:Int)+1)=.int .i64 (i':Int)/\i'<=n2/\Acc HasRev wc.heap.size 54 10 (w8.setCell ⟨w4.heap.size,4,none⟩ (.slice (some ⟨g8,0,none⟩) (i+1) cap8)) v ((dl.take i').map fun v=>(rrM (strV v)).1)/\IsBlk (w8.setCell ⟨w4.heap.size,4,none⟩ (.slice (some ⟨g8,0,none⟩) (i+1) cap8)) w4.heap.size #[.int .u64 (a:Int),.string (bs as'),.string (bs bs'),.slice p3 j c3,v] 28/\IsBlk (w8.setCell ⟨w4.heap.size,4,none⟩ (.slice (some ⟨g8,0,none⟩) (i+1) cap8)) g #[.slice p5 l5.length c5,.bool (bad5||notRev (dl.take i'))] 78/\Rd2 W0.heap.size g w4.heap.size wc (w8.setCell ⟨w4.heap.size,4,none⟩ (.slice (some ⟨g8,0,none⟩) (i+1) cap8)):=
     ⟨i+1,_,by go_num,hlt,hacc8.kept relR (fun z hz _=>Below.heap_setCell _ _ _ _ (show z≠w4.heap.size by omega)),by simpa using hx8.set 4 (.slice (some ⟨g8,0,none⟩) (i+1) cap8),by rw[HNB.out];exact hg8'.set_other (a:=⟨w4.heap.size,4,none⟩) (show w4.heap.size≠g by omega) _,hs8.set_h (by omega) _⟩
    have HFIN:=hid hfin
    clear hacc8 hg8 hs8 hx8 hg8' hfin
    go_wp2
    go_roundw
    case rel=>exact HFIN.out
    case measure=>simp[intOf];omega
   |false=>
    have HNB:Hid ((bad5||notRev (dl.take (i+1)))=true):=hid (by rw[HBJE.out];first|rfl|simp[hk4])
    clear hk4
    go_upto_region 14 with(fail)
    generalize hW7:World.setCell W6 _ _=W7
    have hs7:Rd2 W0.heap.size g w4.heap.size wc W7:=by rw[←hW7];exact HRD6.out.set_g hge _
    have ho7:∀b,b≠g->W7.heap[b]?=W6.heap[b]?:=fun b hb=>by rw[←hW7];exact Below.heap_setCell _ _ _ _ hb
    have hx7:IsBlk W7 w4.heap.size #[.int .u64 (a:Int),.string (bs as'),.string (bs bs'),.slice p3 j c3,.slice q1 i d1] 28:=(ho7 _ (by omega)).trans HX6.out
    have hg7:IsBlk W7 g #[.slice p5 l5.length c5,.bool true] 78:=by rw[←hW7];exact HG6.out.set 1 (.bool true)
    have ht7:IsBlk W7 w6.heap.size #[.int .u8 (rk:Int),.string (bs rt),.int .u64 (rdd:Int),.int .u64 (rnn:Int),.int .u8 (vk:Int),.bool vb,.int .i64 vn,.string (bs vs),.slice vpl vl.length vcl,.slice vpf vf.length vcf] 54:=(ho7 _ (by omega)).trans HT6.out
    have ha7:=HA6.out.kept relR (w':=W7) (fun z hz _=>ho7 z (by omega))
    have hsz7:W7.heap.size<=W6.heap.size:=by rw[←hW7];simp
    have hsz7':W6.heap.size<=W7.heap.size:=by rw[←hW7];simp
    have hrv7:=relR.kept HRV6.out (S':=fun b=>wc.heap.size<=b/\(Value.slice q1 i d1).ownBlock≠some b) (w':=W7.alloc (.cells #[.int .u8 (rk:Int),.string (bs rt),.int .u64 (rdd:Int),.int .u64 (rnn:Int),.int .u8 (vk:Int),.bool vb,.int .i64 vn,.string (bs vs),.slice vpl vl.length vcl,.slice vpf vf.length vcf] 54)) (fun b hb=>⟨by have:=hb.1;omega,fun e=>by have:=(HOW.out b e).2;have:=hb.1;omega⟩) (fun b hb hlt=>by
     rw[((Below.refl W7.heap.size W7).alloc (Nat.le_refl _) _).block b (by omega)]
     exact ho7 b (by have:=hb.1;omega))
    clear y0 y1 z0 z1 e0 e1 e2 e3 e4 e5 hW7 hltg6 hlth6 hltv6 hltt6
    have hltg7:=hg7.lt
    have hlth7:=hx7.lt
    have hltt7:=ht7.lt
    have x0:=hx7.cell (i:=0) rfl
    have x1:=hx7.cell (i:=1) rfl
    have x2:=hx7.cell (i:=2) rfl
    have x3:=hx7.cell (i:=3) rfl
    have x4:=hx7.cell (i:=4) rfl
    have f7:=hx7.frozen 4
    have e0:=ht7.cell (i:=0) rfl
    have e1:=ht7.cell (i:=1) rfl
    have e2:=ht7.cell (i:=2) rfl
    have e3:=ht7.cell (i:=3) rfl
    have e4:=ht7.cell (i:=4) rfl
    have e5:=ht7.cell (i:=5) rfl
    have e6:=ht7.cell (i:=6) rfl
    have e7:=ht7.cell (i:=7) rfl
    have e8:=ht7.cell (i:=8) rfl
    have e9:=ht7.cell (i:=9) rfl
    have HS7':=hid hs7
    have HX7':=hid hx7
    have HG7':=hid hg7
    have HA7:=hid (ha7.kept relR (fun z hz hlt=>((Below.refl W7.heap.size W7).alloc (Nat.le_refl _) (.cells #[.int .u8 (rk:Int),.string (bs rt),.int .u64 (rdd:Int),.int .u64 (rnn:Int),.int .u8 (vk:Int),.bool vb,.int .i64 vn,.string (bs vs),.slice vpl vl.length vcl,.slice vpf vf.length vcf] 54)).block z hlt))
    have HRV7:=hid hrv7
    clear hs7 hx7 hg7 ht7 ha7 hrv7 ho7
    go_wp2_with(at_builtin;refine push_acc relR wc.heap.size rfl _ _ 26 54 (.agg #[.int .u8 0,.string ⟨#[]⟩,.int .u64 0,.int .u64 0,.int .u8 0,.bool false,.int .i64 0,.string ⟨#[]⟩,.slice none 0 0,.slice none 0 0]) 120 rfl Tryz.underlying26 (by kernel_rfl) rfl (by decide) _ vs' HA7.out W7.heap.size [.int .u8 (rk:Int),.string (bs rt),.int .u64 (rdd:Int),.int .u64 (rnn:Int),.int .u8 (vk:Int),.bool vb,.int .i64 vn,.string (bs vs),.slice vpl vl.length vcl,.slice vpf vf.length vcf] ⟨rk,rt,rdd,rnn,.mk vk vb vn vs vl vf⟩ (IsBlk.new _ _ _) HRV7.out rfl rfl (by simp;omega) (by rw[HJL.out];omega) (by rw[HJL.out];unfold maxLen;omega) ?_)
    intro g8 cap8 w8 hacc8 hg8 hBg hgo hglt
    rw[HJL.out,←HTK.out]at hacc8
    rw[HJL.out]
    have hs8:=(HS7'.out.trans (Rd2.of_below ((Below.refl W7.heap.size W7).alloc (Nat.le_refl _) _) (by omega))).grown hg8 (by simp;omega) (fun z hz=>by have:=(HOW.out z hz).1;omega)
    have hx8:=blk_grown (HX7'.out.alloc _) hg8 hnb2
    have hg8':=blk_grown (HG7'.out.alloc _) hg8 hnb1
    have hlth8:=hx8.lt
    clear x0 x1 x2 x3 x4 f7 e0 e1 e2 e3 e4 e5 e6 e7 e8 e9
    have x0:=hx8.cell (i:=0) rfl
    have x1:=hx8.cell (i:=1) rfl
    have x2:=hx8.cell (i:=2) rfl
    have x3:=hx8.cell (i:=3) rfl
    have x4:=hx8.cell (i:=4) rfl
    have f8:=hx8.frozen 4
    have hfin:∃(i':Nat) (v:Value),Value.int .i64 ((i:Int)+1)=.int .i64 (i':Int)/\i'<=n2/\Acc HasRev wc.heap.size 54 10 (w8.setCell ⟨w4.heap.size,4,none⟩ (.slice (some ⟨g8,0,none⟩) (i+1) cap8)) v ((dl.take i').map fun v=>(rrM (strV v)).1)/\IsBlk (w8.setCell ⟨w4.heap.size,4,none⟩ (.slice (some ⟨g8,0,none⟩) (i+1) cap8)) w4.heap.size #[.int .u64 (a:Int),.string (bs as'),.string (bs bs'),.slice p3 j c3,v] 28/\IsBlk (w8.setCell ⟨w4.heap.size,4,none⟩ (.slice (some ⟨g8,0,none⟩) (i+1) cap8)) g #[.slice p5 l5.length c5,.bool (bad5||notRev (dl.take i'))] 78/\Rd2 W0.heap.size g w4.heap.size wc (w8.setCell ⟨w4.heap.size,4,none⟩ (.slice (some ⟨g8,0,none⟩) (i+1) cap8)):=
     ⟨i+1,_,by go_num,hlt,hacc8.kept relR (fun z hz _=>Below.heap_setCell _ _ _ _ (show z≠w4.heap.size by omega)),by simpa using hx8.set 4 (.slice (some ⟨g8,0,none⟩) (i+1) cap8),by rw[HNB.out];exact hg8'.set_other (a:=⟨w4.heap.size,4,none⟩) (show w4.heap.size≠g by omega) _,hs8.set_h (by omega) _⟩
    have HFIN:=hid hfin
    clear hacc8 hg8 hs8 hx8 hg8' hfin
    go_wp2
    go_roundw
    case rel=>exact HFIN.out
    case measure=>simp[intOf];omega
 obtain rfl:i=n2:=by omega
 have hall:vs'=dl.map fun v=>(rrM (strV v)).1:=by rw[←HVS.out,HN2.out,List.take_length]
 have hall2:dl.take i=dl:=by rw[HN2.out,List.take_length]
 rw[hall]at hacc
 rw[hall2]at hgb
 obtain⟨pr,cr,hpc,hcr1,hcr2,hcl⟩:=hacc.cells relR (S:=fun b=>W0.heap.size<=b) (fun b hb=>by omega)
 injection hpc with e1 e2 e3
 clear e2
 subst e1
 subst e3
 have hrow:RowIn HasRev 10 (fun b=>W0.heap.size<=b) wr q1 (dl.map fun v=>(rrM (strV v)).1):=fun k hk=>by
  obtain⟨gg,cs,f1,f2,f3⟩:=hcl k hk
  exact⟨gg,0,cs,f1,f2,f3⟩
 have hm1:(cl'.map strV).length=j:=by rw[List.length_map,HN.out]
 have hm2:(dl.map fun v=>(rrM (strV v)).1).length=i:=by rw[List.length_map,HN2.out]
 have hst:HasS (fun b=>W0.heap.size<=b) wr p3 (cl'.map strV):=HS7.out.ext_to (fun b hb=>by omega) (fun b hb hlt=>hrd.2.2 b hlt (by omega) (by omega))
 have hok:∀r∈(dl.map fun v=>(rrM (strV v)).1),okR r:=rowRev_ok hrow (fun r hr=>by
  obtain⟨v,_,rfl⟩:=List.mem_map.1 hr
  exact rrM_len _)
 have hbk:HasBlk (fun b=>W0.heap.size<=b) wr ⟨a,as',bs',cl'.map strV,dl.map fun v=>(rrM (strV v)).1⟩ [.int .u64 (a:Int),.string (bs as'),.string (bs bs'),.slice p3 j c3,.slice q1 i d1]:=
  ⟨p3,c3,q1,d1,by rw[hm1,hm2],⟨l1',hvs1,hvs2,by rw[hm1];exact hl3m,by rw[hm2];exact hl5m,by rw[hm1];exact hc31,hc32,by rw[hm2];rw[hm2]at hcr1;exact hcr1,hcr2,fun s hs=>by
    obtain⟨v,hv,rfl⟩:=List.mem_map.1 hs
    exact HSL.out v hv⟩,hst,hrow⟩
 have hbw:=HB0.out.trans ((HB7.out.trans hrd.1).mono (Nat.le_of_lt hlt0))
 have hzw:=HZ.out.below (HB7.out.trans hrd.1) hlt0
 have HRE2:Hid (R=if(bad5||notRev dl)=true\/(wholeP ⟨a,as',bs',cl'.map strV,dl.map fun v=>(rrM (strV v)).1⟩).2≠0 then(.zero,11)else(⟨a,as',bs',cl'.map strV,dl.map fun v=>(rrM (strV v)).1⟩,0)):=hid HRE.out
 have HCK:Hid (Calls Tryz.prog 31 #[.agg #[.int .u64 (a:Int),.string (bs as'),.string (bs bs'),.slice p3 j c3,.slice q1 i d1]] wr fun e' w2=>e'=.returned (.int .i64 (wholeP ⟨a,as',bs',cl'.map strV,dl.map fun v=>(rrM (strV v)).1⟩).2)/\Below wr.heap.size wr w2):=hid (check_p _ _ _ wr hbk hok (U8T_ext HT.out hbw) (HKS.out.ext hbw))
 have HBK:=hid hbk
 have HBW2:=hid hbw
 have HZW:=hid hzw
 have hltg:=hgb.lt
 have hlth:=hxb.lt
 have hltz:=hzw.lt
 generalize wholeP ⟨a,as',bs',cl'.map strV,dl.map fun v=>(rrM (strV v)).1⟩=WH at HRE2 HCK
 generalize(⟨a,as',bs',cl'.map strV,dl.map fun v=>(rrM (strV v)).1⟩:DBlk)=BB at HRE2 HBK
 generalize(bad5||notRev dl)=BAD at HRE2 hgb
 have y0:=hgb.cell (i:=0) rfl
 have y1:=hgb.cell (i:=1) rfl
 have x0:=hxb.cell (i:=0) rfl
 have x1:=hxb.cell (i:=1) rfl
 have x2:=hxb.cell (i:=2) rfl
 have x3:=hxb.cell (i:=3) rfl
 have x4:=hxb.cell (i:=4) rfl
 clear hacc hown hall hall2 hcr1 hcl hrow hm1 hm2 hst hok hbk hbw HRE HVS HJL HAC HXB HRD HOW HS7 HL5 HX7 HG7 HSL
 cases BAD with
 |true=>
  have HR2:Hid (R=(.zero,11)):=hid (by rw[HRE2.out,if_pos (.inl rfl)])
  have u0:=hzw.cell (i:=0) rfl
  have u1:=hzw.cell (i:=1) rfl
  have u2:=hzw.cell (i:=2) rfl
  have u3:=hzw.cell (i:=3) rfl
  have u4:=hzw.cell (i:=4) rfl
  have z0:=hzw.frozen 0
  have z1:=hzw.frozen 1
  have z2:=hzw.frozen 2
  have z3:=hzw.frozen 3
  have z4:=hzw.frozen 4
  have HFIN:=hid (put_block (B:=w.heap.size) (w0:=w) (W:=wr) [.int .u64 0,.string ⟨#[]⟩,.string ⟨#[]⟩,.slice none 0 0,.slice none 0 0] hzw rfl (Nat.le_refl _) HBW2.out)
  clear hzw hgb hxb hrd
  go_wp2
  refine bodyPost_ret (results_ct (p:=2) (u:=3) (ty:=28) Tryz.results10 rfl HFIN.out.1 Tryz.underlying28 rfl (by kernel_rfl) rfl) rfl ?_
  rw[HR2.out]
  exact⟨_,rfl,zblk_has _ _,HFIN.out.2.1⟩
 |false=>
  have HXBB:=hid hxb
  clear hzw hgb hxb hrd
  go_wp2_with fail
  go_at_call 31
  refine HCK.out.mono ?_
  rintro e' w9 ⟨rfl,hb9⟩
  have HBW9:=hid (below_ext HBW2.out hb9)
  have HBK9:=hid (HBK.out.ext hb9)
  have hz9:=HZW.out.ext hb9
  have hx9:=HXBB.out.ext hb9
  have hltz9:=hz9.lt
  have hlth9:=hx9.lt
  clear x0 x1 x2 x3 x4 y0 y1 hb9
  have u0:=hz9.cell (i:=0) rfl
  have u1:=hz9.cell (i:=1) rfl
  have u2:=hz9.cell (i:=2) rfl
  have u3:=hz9.cell (i:=3) rfl
  have u4:=hz9.cell (i:=4) rfl
  have z0:=hz9.frozen 0
  have z1:=hz9.frozen 1
  have z2:=hz9.frozen 2
  have z3:=hz9.frozen 3
  have z4:=hz9.frozen 4
  obtain⟨WT,we⟩:=WH
  by_cases hwe:we=0
  case neg=>
   have hwb:(we !=0)=true:=by rw[bne_iff_ne];exact hwe
   have HR2:Hid (R=(.zero,11)):=hid (by rw[HRE2.out,if_pos (.inr hwe)])
   have HFIN:=hid (put_block (B:=w.heap.size) (w0:=w) (W:=w9) [.int .u64 0,.string ⟨#[]⟩,.string ⟨#[]⟩,.slice none 0 0,.slice none 0 0] hz9 rfl (Nat.le_refl _) HBW9.out)
   clear hz9 hx9 hwe
   go_wp2
   refine bodyPost_ret (results_ct (p:=2) (u:=3) (ty:=28) Tryz.results10 rfl HFIN.out.1 Tryz.underlying28 rfl (by kernel_rfl) rfl) rfl ?_
   rw[HR2.out]
   exact⟨_,rfl,zblk_has _ _,HFIN.out.2.1⟩
  subst hwe
  have HR2:Hid (R=(BB,0)):=hid (by rw[HRE2.out,if_neg (by simp)])
  have HFIN:=hid (put_block (B:=w.heap.size) (w0:=w) (W:=w9) [.int .u64 (a:Int),.string (bs as'),.string (bs bs'),.slice p3 j c3,.slice q1 i d1] hz9 rfl (Nat.le_refl _) HBW9.out)
  have x0:=hx9.cell (i:=0) rfl
  have x1:=hx9.cell (i:=1) rfl
  have x2:=hx9.cell (i:=2) rfl
  have x3:=hx9.cell (i:=3) rfl
  have x4:=hx9.cell (i:=4) rfl
  clear hz9 hx9
  go_wp2
  refine bodyPost_ret (results_ct (p:=2) (u:=3) (ty:=28) Tryz.results10 rfl HFIN.out.1 Tryz.underlying28 rfl (by kernel_rfl) rfl) rfl ?_
  rw[HR2.out]
  exact⟨_,rfl,HBK9.out.kept (fun b hb=>by omega) (fun b hb _=>HFIN.out.2.2 b (by omega)),HFIN.out.2.1⟩
end Go.Proofs.YtcihbnpckicljaaGreatDoor
