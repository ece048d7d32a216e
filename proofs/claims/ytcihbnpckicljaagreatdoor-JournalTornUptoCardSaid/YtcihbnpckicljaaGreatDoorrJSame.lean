/- The document's SameRev, SameRevs, Same, SameAll. Condition: both lie in memory. -/
import Derived.Test.YtcihbnpckicljaaGreatDoorrJPScan
set_option linter.unusedVariables false
set_option linter.unusedSimpArgs false
namespace Go.Proofs.YtcihbnpckicljaaGreatDoor
open Go Go.RowKit Go.BigFrame
open Go.Lib(hid)
set_option maxRecDepth 100000
noncomputable def eqv {α:Type} (x y:α):Bool:= @decide (x=y) (Classical.propDecidable _)
theorem eqv_self {α:Type} (x:α):eqv x x=true:= @decide_eq_true _ (Classical.propDecidable _) rfl
theorem eqv_ne {α:Type} {x y:α} (h:x≠y):eqv x y=false:= @decide_eq_false _ (Classical.propDecidable _) h
theorem eqv_iff {α:Type} {x y:α}:eqv x y=true↔x=y:=by
 by_cases h:x=y
 ·subst h;simp[eqv_self]
 ·simp[eqv_ne h,h]
theorem sameV_eqv (x y:DVal):sameV x y=eqv x y:=by
 by_cases h:x=y
 ·rw[(sameV_iff x y).2 h,h,eqv_self]
 ·rw[eqv_ne h]
  cases hs:sameV x y
  ·rfl
  ·exact absurd ((sameV_iff x y).1 hs) h
set_option maxHeartbeats 4000000 in
theorem sameRev_any (x y:DRev) (S S':Nat->Prop) (cs cs':List Value) (w:World) (hx:HasRev S w x cs) (hy:HasRev S' w y cs'):
 Calls Tryz.prog 70 #[.agg cs.toArray,.agg cs'.toArray] w fun e' w'=>e'=.returned (.bool (eqv x y))/\Below w.heap.size w w':=by
 obtain⟨k,t,d,n,v⟩:=x
 obtain⟨k',t',d',n',v'⟩:=y
 obtain⟨c,rfl,_,hv⟩:=hx
 obtain⟨c',rfl,_,hv'⟩:=hy
 obtain⟨R,hR⟩:∃R,R=eqv (⟨k,t,d,n,v⟩:DRev) ⟨k',t',d',n',v'⟩:=⟨_,rfl⟩
 rw[←hR]
 have HR:=hid hR
 have HC:Hid (∀w',Below w.heap.size w w'->Calls Tryz.prog 102 #[.agg c.toArray,.agg c'.toArray] w' fun e' w2=>e'=.returned (.bool (eqv v v'))/\Below w'.heap.size w' w2):=hid (fun w' h=>by
  rw[←sameV_eqv]
  exact ref_same_any v v' S S' c c' w' (hv.ext h) (hv'.ext h))
 obtain⟨vk,vb,vn,vs,vl,vf⟩:=v
 obtain⟨pl,cl,pf,cf,rfl,_⟩:=hasVal_mk.1 hv
 obtain⟨vk',vb',vn',vs',vl',vf'⟩:=v'
 obtain⟨pl',cl',pf',cf',rfl,_⟩:=hasVal_mk.1 hv'
 clear hv hv' hR
 generalize hV:(DVal.mk vk vb vn vs vl vf)=V at HR HC
 generalize hV':(DVal.mk vk' vb' vn' vs' vl' vf')=V' at HR HC
 clear hV hV'
 by_cases h1:k=k'
 case neg=>
  have hn1:((k:Int)==(k':Int))=false:=by rw[beq_eq_false_iff_ne];omega
  have HR2:Hid (R=false):=hid (by rw[HR.out];exact eqv_ne (fun e=>h1 (congrArg DRev.k e)))
  clear h1
  go_enter Tryz.func70,Tryz.ntmps70
  go_wp2
  go_ret
  exact⟨by rw[HR2.out];rfl,((Below.refl _ _).alloc (Nat.le_refl _) _).alloc (by simp) _⟩
 subst h1
 by_cases h2:t=t'
 case neg=>
  have hn2:((bs t).toList==(bs t').toList)=false:=by rw[bs_beq];exact decide_eq_false h2
  have HR2:Hid (R=false):=hid (by rw[HR.out];exact eqv_ne (fun e=>h2 (congrArg DRev.t e)))
  clear h2
  go_enter Tryz.func70,Tryz.ntmps70
  go_wp2
  go_ret
  exact⟨by rw[HR2.out];rfl,((Below.refl _ _).alloc (Nat.le_refl _) _).alloc (by simp) _⟩
 subst h2
 by_cases h3:d=d'
 case neg=>
  have hn3:((d:Int)==(d':Int))=false:=by rw[beq_eq_false_iff_ne];omega
  have HR2:Hid (R=false):=hid (by rw[HR.out];exact eqv_ne (fun e=>h3 (congrArg DRev.d e)))
  clear h3
  go_enter Tryz.func70,Tryz.ntmps70
  go_wp2
  go_ret
  exact⟨by rw[HR2.out];rfl,((Below.refl _ _).alloc (Nat.le_refl _) _).alloc (by simp) _⟩
 subst h3
 by_cases h4:n=n'
 case neg=>
  have hn4:((n:Int)==(n':Int))=false:=by rw[beq_eq_false_iff_ne];omega
  have HR2:Hid (R=false):=hid (by rw[HR.out];exact eqv_ne (fun e=>h4 (congrArg DRev.n e)))
  clear h4
  go_enter Tryz.func70,Tryz.ntmps70
  go_wp2
  go_ret
  exact⟨by rw[HR2.out];rfl,((Below.refl _ _).alloc (Nat.le_refl _) _).alloc (by simp) _⟩
 subst h4
 have HR2:Hid (R=eqv V V'):=hid (by
  rw[HR.out]
  by_cases h:V=V'
  ·rw[h,eqv_self,eqv_self]
  ·rw[eqv_ne h,eqv_ne (fun e=>h (congrArg DRev.v e))])
 clear HR
 go_enter Tryz.func70,Tryz.ntmps70
 go_wp2_with fail
 go_at_call 102
 have hbw:Below w.heap.size w ((w.alloc (.cells #[.int .u8 (k:Int),.string (bs t),.int .u64 (d:Int),.int .u64 (n:Int),.int .u8 (vk:Int),.bool vb,.int .i64 vn,.string (bs vs),.slice pl vl.length cl,.slice pf vf.length cf] 54)).alloc (.cells #[.int .u8 (k:Int),.string (bs t),.int .u64 (d:Int),.int .u64 (n:Int),.int .u8 (vk':Int),.bool vb',.int .i64 vn',.string (bs vs'),.slice pl' vl'.length cl',.slice pf' vf'.length cf'] 54)):=((Below.refl _ _).alloc (Nat.le_refl _) _).alloc (by simp) _
 refine(HC.out _ hbw).mono ?_
 rintro e' w3 ⟨rfl,hb3⟩
 have HB3:=hid (below_ext hbw hb3)
 clear hbw hb3
 generalize eqv V V'=E at HR2⊢
 go_wp2
 go_ret
 exact⟨by rw[HR2.out];rfl,HB3.out⟩
set_option maxHeartbeats 4000000 in
theorem sameRevs_any (l m:List DRev) (S S':Nat->Prop) (p q:Option Addr) (c d:Nat) (w:World) (hl:RowIn HasRev 10 S w p l) (hm:RowIn HasRev 10 S' w q m) (hn:l.length<=1099511627776) (hn':m.length<=1099511627776):
 Calls Tryz.prog 30 #[.slice p l.length c,.slice q m.length d] w fun e' w'=>e'=.returned (.bool (eqv l m))/\Below w.heap.size w w':=by
 obtain⟨R,hR⟩:∃R,R=eqv l m:=⟨_,rfl⟩
 rw[←hR]
 have HR:=hid hR
 have HL:=hid hl
 have HM:=hid hm
 obtain⟨n,hn1⟩:∃n,n=l.length:=⟨_,rfl⟩
 obtain⟨n',hn2⟩:∃n',n'=m.length:=⟨_,rfl⟩
 rw[←hn1]at hn⊢
 rw[←hn2]at hn'⊢
 have HN:=hid hn1
 have HN':=hid hn2
 clear hl hm hR hn1 hn2
 by_cases hne:n=n'
 case neg=>
  have HR2:Hid (R=false):=hid (by rw[HR.out,eqv_ne];intro e;apply hne;rw[HN.out,HN'.out,e])
  have hneI:((n:Int) !=(n':Int))=true:=by rw[bne_iff_ne];omega
  clear hne
  go_enter Tryz.func30,Tryz.ntmps30
  go_wp2
  go_ret
  exact⟨by rw[HR2.out];rfl,Below.refl _ _⟩
 subst hne
 go_enter Tryz.func30,Tryz.ntmps30
 go_wp2
 go_loopw [13] (fun v wr=>∃j:Nat,v=.int .i64 (j:Int)/\j<=n/\l.take j=m.take j/\Below w.heap.size w wr) (fun v _=>n-(intOf v).toNat)
 case atStart=>exact⟨0,rfl,by omega,rfl,Below.refl _ _⟩
 case round=>
 obtain⟨j,rfl,hj,hrel,hbw⟩:=hrel
 have HREL:=hid hrel
 have HBW:=hid hbw
 clear hrel hbw
 by_cases hlt:j<n
 ·have hj1:j<l.length:=by rw[←HN.out];exact hlt
  have hj2:j<m.length:=by rw[←HN'.out];exact hlt
  obtain⟨g1,o1,cs1,hp1,hc1,hv1⟩:=(HL.out.ext relR HBW.out) j hj1
  obtain⟨g2,o2,cs2,hp2,hc2,hv2⟩:=(HM.out.ext relR HBW.out) j hj2
  have hl1:=take_snoc hj1
  have hm1:=take_snoc hj2
  have hno:l[j]≠m[j]->R=false:=fun h=>by
   rw[HR.out]
   refine eqv_ne (fun e=>h ?_)
   subst e
   rfl
  have hyes:l[j]=m[j]->l.take (j+1)=m.take (j+1):=fun h=>by rw[hl1,hm1,HREL.out,h]
  generalize l[j]=a at hv1 hno hyes
  generalize m[j]=b at hv2 hno hyes
  have HNO:=hid hno
  have HYES:=hid hyes
  have HC:Hid (∀w',Below wr.heap.size wr w'->Calls Tryz.prog 70 #[.agg cs1.toArray,.agg cs2.toArray] w' fun e' w2=>e'=.returned (.bool (eqv a b))/\Below w'.heap.size w' w2):=hid (fun w' hb=>
   sameRev_any a b S S' cs1 cs2 w' (relR.kept hv1 (fun _ h=>h) (fun b _ hlt=>hb.block b hlt)) (relR.kept hv2 (fun _ h=>h) (fun b _ hlt=>hb.block b hlt)))
  clear hl1 hm1 hno hyes
  subst hp1
  subst hp2
  obtain⟨k1,t1,a1,n1,vk1,vb1,vn1,vs1,vl1,vf1⟩:=a
  obtain⟨c1,rfl,_,hv1⟩:=hv1
  obtain⟨pl1,cl1,pf1,cf1,rfl,_⟩:=hasVal_mk.1 hv1
  obtain⟨k2,t2,a2,n2,vk2,vb2,vn2,vs2,vl2,vf2⟩:=b
  obtain⟨c2,rfl,_,hv2⟩:=hv2
  obtain⟨pl2,cl2,pf2,cf2,rfl,_⟩:=hasVal_mk.1 hv2
  obtain⟨d0,d1,d2,d3,d4,d5,d6,d7,d8,d9⟩:=hc1.ten
  obtain⟨e0,e1,e2,e3,e4,e5,e6,e7,e8,e9⟩:=hc2.ten
  have hgr1:=hc1.2.1
  have hgr2:=hc2.2.1
  clear hc1 hc2
  try clear hv1 hv2
  obtain⟨E,hE⟩:∃E,E=eqv ⟨k1,t1,a1,n1,.mk vk1 vb1 vn1 vs1 vl1 vf1⟩ (⟨k2,t2,a2,n2,.mk vk2 vb2 vn2 vs2 vl2 vf2⟩:DRev):=⟨_,rfl⟩
  rw[←hE]at HC
  have HE:=hid hE
  clear hE
  cases E
  case true=>
   have HY:=hid (HYES.out (eqv_iff.1 HE.out.symm))
   clear HYES HNO HE
   go_upto_region 6 with(fail)
   refine mixB_start [] (Cls wr) (by kernel_rfl) (Cls.of ((Below.refl _ _).drew)) (fun hCw=>?_)
   refine mixB_flt (by kernel_rfl) [0,1,2,3,4,5,6,7] 2 _ _ hCw (by kernel_rfl) ?_
   simp only[opsAt,zo1,zo2,zo3,zo4,zo5]
   unfold Cls
   repeat(go_big_quiet_step (fail))
   refine wpQuiet_nil ?_
   (try rw[←Cls_def])
   refine mixB_ch (i:=8) (fuel:=1) (by kernel_rfl) (by kernel_rfl) ?_
   simp only[opsAt,zo1,zo2,zo3,zo4,zo5]
   go_wp2_with(go_at_call 70;refine(HC.out _ hCw.below).mono ?_;rintro e' w5 ⟨rfl,hb5⟩)
   refine ThenB.mk (hCw.trans hb5) (fun hCw=>?_)
   refine mixB_flt (by kernel_rfl) [9] 0 _ _ hCw (by kernel_rfl) ?_
   simp only[opsAt,zo1,zo2,zo3,zo4,zo5]
   unfold Cls
   repeat(go_big_quiet_step (fail))
   refine wpQuiet_nil ?_
   (try rw[←Cls_def])
   refine mixB_end [] (by kernel_rfl) ?_
   refine wpList_nil ?_
   refine Calm.normal ?_
   have HB5:=hid (HBW.out.trans (hCw.below.mono (by have:=HBW.out.size;omega)))
   clear hCw hb5 d0 d1 d2 d3 d4 d5 d6 d7 d8 d9 e0 e1 e2 e3 e4 e5 e6 e7 e8 e9
   go_wp2
   exact⟨⟨j+1,by go_num,by omega,HY.out,HB5.out⟩,by simp[intOf];omega⟩
  case false=>
   have HR2:=hid (HNO.out (fun e=>by have h:=HE.out;rw[e,eqv_self]at h;cases h))
   clear HYES HNO HE
   go_upto_region 6 with(fail)
   refine mixB_start [] (Cls wr) (by kernel_rfl) (Cls.of ((Below.refl _ _).drew)) (fun hCw=>?_)
   refine mixB_flt (by kernel_rfl) [0,1,2,3,4,5,6,7] 2 _ _ hCw (by kernel_rfl) ?_
   simp only[opsAt,zo1,zo2,zo3,zo4,zo5]
   unfold Cls
   repeat(go_big_quiet_step (fail))
   refine wpQuiet_nil ?_
   (try rw[←Cls_def])
   refine mixB_ch (i:=8) (fuel:=1) (by kernel_rfl) (by kernel_rfl) ?_
   simp only[opsAt,zo1,zo2,zo3,zo4,zo5]
   go_wp2_with(go_at_call 70;refine(HC.out _ hCw.below).mono ?_;rintro e' w5 ⟨rfl,hb5⟩)
   refine ThenB.mk (hCw.trans hb5) (fun hCw=>?_)
   refine mixB_flt (by kernel_rfl) [9] 0 _ _ hCw (by kernel_rfl) ?_
   simp only[opsAt,zo1,zo2,zo3,zo4,zo5]
   unfold Cls
   repeat(go_big_quiet_step (fail))
   refine wpQuiet_nil ?_
   (try rw[←Cls_def])
   refine mixB_end [] (by kernel_rfl) ?_
   refine wpList_nil ?_
   refine Calm.normal ?_
   have HB5:=hid (HBW.out.trans (hCw.below.mono (by have:=HBW.out.size;omega)))
   clear hCw hb5 d0 d1 d2 d3 d4 d5 d6 d7 d8 d9 e0 e1 e2 e3 e4 e5 e6 e7 e8 e9
   go_wp2
   go_ret
   exact⟨by rw[HR2.out];rfl,HB5.out⟩
 ·have hr:R=true:=by
   rw[HR.out]
   refine eqv_iff.2 ?_
   have h:=HREL.out
   rw[List.take_of_length_le (by rw[←HN.out];omega),List.take_of_length_le (by rw[←HN'.out];omega)]at h
   exact h
  have HR2:=hid hr
  clear hr
  go_wp2
  go_ret
  exact⟨by rw[HR2.out];rfl,HBW.out⟩
theorem CellsAt.five5 {S:Nat->Prop} {w:World} {g o:Nat} {c0 c1 c2 c3 c4:Value} (h:CellsAt S w g o [c0,c1,c2,c3,c4]):
 w.cell? ⟨g,o,none⟩=some c0/\w.cell? ⟨g,o+1,none⟩=some c1/\w.cell? ⟨g,o+2,none⟩=some c2/\w.cell? ⟨g,o+3,none⟩=some c3/\w.cell? ⟨g,o+4,none⟩=some c4:=
 ⟨h.2.2 0 (by simp),h.2.2 1 (by simp),h.2.2 2 (by simp),h.2.2 3 (by simp),h.2.2 4 (by simp)⟩
set_option maxHeartbeats 4000000 in
theorem same6_any (x y:DBlk) (S S':Nat->Prop) (cs cs':List Value) (w:World) (hx:HasBlk S w x cs) (hy:HasBlk S' w y cs'):
 Calls Tryz.prog 15 #[.agg cs.toArray,.agg cs'.toArray] w fun e' w'=>e'=.returned (.bool (eqv x y))/\Below w.heap.size w w':=by
 obtain⟨k,t,d,n,v⟩:=x
 obtain⟨k',t',d',n',v'⟩:=y
 obtain⟨ps,cp,pr,cr,rfl,hbd,hs,hr⟩:=hx
 obtain⟨ps',cp',pr',cr',rfl,hbd',hs',hr'⟩:=hy
 obtain⟨R,hR⟩:∃R,R=eqv (⟨k,t,d,n,v⟩:DBlk) ⟨k',t',d',n',v'⟩:=⟨_,rfl⟩
 rw[←hR]
 have HR:=hid hR
 have hns:n.length<=1099511627776:=by have:=hbd.2.2.2.1;exact Nat.le_trans this (by decide)
 have hns':n'.length<=1099511627776:=by have:=hbd'.2.2.2.1;exact Nat.le_trans this (by decide)
 have hnv:v.length<=1099511627776:=by have:=hbd.2.2.2.2.1;exact Nat.le_trans this (by decide)
 have hnv':v'.length<=1099511627776:=by have:=hbd'.2.2.2.2.1;exact Nat.le_trans this (by decide)
 have HC:Hid (∀w',Below w.heap.size w w'->Calls Tryz.prog 51 #[.slice ps n.length cp,.slice ps' n'.length cp'] w' fun e' w2=>e'=.returned (.bool (eqv n n'))/\Below w'.heap.size w' w2):=hid (fun w' h=>by
  have h2:=same_any n n' S S' ps ps' cp cp' w' (hs.ext h) (hs'.ext h) hns hns'
  rw[show decide (n=n')=eqv n n' by
   by_cases e:n=n'
   ·subst e;simp[eqv_self]
   ·rw[eqv_ne e,decide_eq_false e]]at h2
  exact h2)
 have HD:Hid (∀w',Below w.heap.size w w'->Calls Tryz.prog 30 #[.slice pr v.length cr,.slice pr' v'.length cr'] w' fun e' w2=>e'=.returned (.bool (eqv v v'))/\Below w'.heap.size w' w2):=hid (fun w' h=>
  sameRevs_any v v' S S' pr pr' cr cr' w' (hr.ext relR h) (hr'.ext relR h) hnv hnv')
 clear hR hbd hbd' hs hs' hr hr' hns hns' hnv hnv'
 by_cases h1:k=k'
 case neg=>
  have hn1:((k:Int)==(k':Int))=false:=by rw[beq_eq_false_iff_ne];omega
  have HR2:Hid (R=false):=hid (by rw[HR.out];exact eqv_ne (fun e=>h1 (congrArg DBlk.seq e)))
  clear h1
  go_enter Tryz.func15,Tryz.ntmps15
  go_wp2
  go_ret
  exact⟨by rw[HR2.out];rfl,((Below.refl _ _).alloc (Nat.le_refl _) _).alloc (by simp) _⟩
 subst h1
 by_cases h2:t=t'
 case neg=>
  have hn2:((bs t).toList==(bs t').toList)=false:=by rw[bs_beq];exact decide_eq_false h2
  have HR2:Hid (R=false):=hid (by rw[HR.out];exact eqv_ne (fun e=>h2 (congrArg DBlk.prev e)))
  clear h2
  go_enter Tryz.func15,Tryz.ntmps15
  go_wp2
  go_ret
  exact⟨by rw[HR2.out];rfl,((Below.refl _ _).alloc (Nat.le_refl _) _).alloc (by simp) _⟩
 subst h2
 by_cases h3:d=d'
 case neg=>
  have hn3:((bs d).toList==(bs d').toList)=false:=by rw[bs_beq];exact decide_eq_false h3
  have HR2:Hid (R=false):=hid (by rw[HR.out];exact eqv_ne (fun e=>h3 (congrArg DBlk.root e)))
  clear h3
  go_enter Tryz.func15,Tryz.ntmps15
  go_wp2
  go_ret
  exact⟨by rw[HR2.out];rfl,((Below.refl _ _).alloc (Nat.le_refl _) _).alloc (by simp) _⟩
 subst h3
 have HR2:Hid (R=(eqv n n'&&eqv v v')):=hid (by
  rw[HR.out]
  by_cases h:n=n'
  ·by_cases h2:v=v'
   ·rw[h,h2,eqv_self,eqv_self,eqv_self];rfl
   ·rw[eqv_ne h2,eqv_ne (fun e=>h2 (congrArg DBlk.revs e)),Bool.and_false]
  ·rw[eqv_ne h,eqv_ne (fun e=>h (congrArg DBlk.sts e)),Bool.false_and])
 clear HR
 generalize n.length=nn at HC⊢
 generalize n'.length=nn' at HC⊢
 generalize v.length=nv at HD⊢
 generalize v'.length=nv' at HD⊢
 generalize eqv n n'=E at HR2 HC
 generalize eqv v v'=E2 at HR2 HD
 go_enter Tryz.func15,Tryz.ntmps15
 go_wp2_with fail
 go_at_call 51
 have hbw:Below w.heap.size w ((w.alloc (.cells #[.int .u64 (k:Int),.string (bs t),.string (bs d),.slice ps nn cp,.slice pr nv cr] 28)).alloc (.cells #[.int .u64 (k:Int),.string (bs t),.string (bs d),.slice ps' nn' cp',.slice pr' nv' cr'] 28)):=((Below.refl _ _).alloc (Nat.le_refl _) _).alloc (by simp) _
 refine(HC.out _ hbw).mono ?_
 have hd1:IsBlk ((w.alloc (.cells #[.int .u64 (k:Int),.string (bs t),.string (bs d),.slice ps nn cp,.slice pr nv cr] 28)).alloc (.cells #[.int .u64 (k:Int),.string (bs t),.string (bs d),.slice ps' nn' cp',.slice pr' nv' cr'] 28)) w.heap.size #[.int .u64 (k:Int),.string (bs t),.string (bs d),.slice ps nn cp,.slice pr nv cr] 28:=(IsBlk.new _ _ _).alloc _
 have hd2:IsBlk ((w.alloc (.cells #[.int .u64 (k:Int),.string (bs t),.string (bs d),.slice ps nn cp,.slice pr nv cr] 28)).alloc (.cells #[.int .u64 (k:Int),.string (bs t),.string (bs d),.slice ps' nn' cp',.slice pr' nv' cr'] 28)) (w.heap.size+1) #[.int .u64 (k:Int),.string (bs t),.string (bs d),.slice ps' nn' cp',.slice pr' nv' cr'] 28:=IsBlk.new_at (by simp)
 rintro e' w3 ⟨rfl,hb3⟩
 have hd13:=hd1.ext hb3
 have hd23:=hd2.ext hb3
 have HB3:=hid (below_ext hbw hb3)
 have y4:=hd13.cell (i:=4) rfl
 have z4:=hd23.cell (i:=4) rfl
 clear hbw hb3 hd1 hd2 hd13 hd23
 cases E
 case false=>
  have HR3:Hid (R=false):=hid (by rw[HR2.out];rfl)
  clear HR2
  go_wp2
  go_ret
  exact⟨by rw[HR3.out];rfl,HB3.out⟩
 case true=>
  have HR3:Hid (R=E2):=hid (by rw[HR2.out];rfl)
  clear HR2
  go_wp2_with fail
  go_at_call 30
  refine(HD.out _ HB3.out).mono ?_
  rintro e' w4 ⟨rfl,hb4⟩
  have HB4:=hid (below_ext HB3.out hb4)
  clear hb4 y4 z4
  go_wp2
  go_ret
  exact⟨by rw[HR3.out];rfl,HB4.out⟩
set_option maxHeartbeats 4000000 in
theorem sameAll_any (l m:List DBlk) (S S':Nat->Prop) (p q:Option Addr) (c d:Nat) (w:World) (hl:RowIn HasBlk 5 S w p l) (hm:RowIn HasBlk 5 S' w q m) (hn:l.length<=1099511627776) (hn':m.length<=1099511627776):
 Calls Tryz.prog 16 #[.slice p l.length c,.slice q m.length d] w fun e' w'=>e'=.returned (.bool (eqv l m))/\Below w.heap.size w w':=by
 obtain⟨R,hR⟩:∃R,R=eqv l m:=⟨_,rfl⟩
 rw[←hR]
 have HR:=hid hR
 have HL:=hid hl
 have HM:=hid hm
 obtain⟨n,hn1⟩:∃n,n=l.length:=⟨_,rfl⟩
 obtain⟨n',hn2⟩:∃n',n'=m.length:=⟨_,rfl⟩
 rw[←hn1]at hn⊢
 rw[←hn2]at hn'⊢
 have HN:=hid hn1
 have HN':=hid hn2
 clear hl hm hR hn1 hn2
 by_cases hne:n=n'
 case neg=>
  have HR2:Hid (R=false):=hid (by rw[HR.out,eqv_ne];intro e;apply hne;rw[HN.out,HN'.out,e])
  have hneI:((n:Int) !=(n':Int))=true:=by rw[bne_iff_ne];omega
  clear hne
  go_enter Tryz.func16,Tryz.ntmps16
  go_wp2
  go_ret
  exact⟨by rw[HR2.out];rfl,Below.refl _ _⟩
 subst hne
 go_enter Tryz.func16,Tryz.ntmps16
 go_wp2
 go_loopw [13] (fun v wr=>∃j:Nat,v=.int .i64 (j:Int)/\j<=n/\l.take j=m.take j/\Below w.heap.size w wr) (fun v _=>n-(intOf v).toNat)
 case atStart=>exact⟨0,rfl,by omega,rfl,Below.refl _ _⟩
 case round=>
 obtain⟨j,rfl,hj,hrel,hbw⟩:=hrel
 have HREL:=hid hrel
 have HBW:=hid hbw
 clear hrel hbw
 by_cases hlt:j<n
 ·have hj1:j<l.length:=by rw[←HN.out];exact hlt
  have hj2:j<m.length:=by rw[←HN'.out];exact hlt
  obtain⟨g1,o1,cs1,hp1,hc1,hv1⟩:=(HL.out.ext relB HBW.out) j hj1
  obtain⟨g2,o2,cs2,hp2,hc2,hv2⟩:=(HM.out.ext relB HBW.out) j hj2
  have hl1:=take_snoc hj1
  have hm1:=take_snoc hj2
  have hno:l[j]≠m[j]->R=false:=fun h=>by
   rw[HR.out]
   refine eqv_ne (fun e=>h ?_)
   subst e
   rfl
  have hyes:l[j]=m[j]->l.take (j+1)=m.take (j+1):=fun h=>by rw[hl1,hm1,HREL.out,h]
  generalize l[j]=a at hv1 hno hyes
  generalize m[j]=b at hv2 hno hyes
  have HNO:=hid hno
  have HYES:=hid hyes
  have HC:Hid (∀w',Below wr.heap.size wr w'->Calls Tryz.prog 15 #[.agg cs1.toArray,.agg cs2.toArray] w' fun e' w2=>e'=.returned (.bool (eqv a b))/\Below w'.heap.size w' w2):=hid (fun w' hb=>
   same6_any a b S S' cs1 cs2 w' (relB.kept hv1 (fun _ h=>h) (fun b _ hlt=>hb.block b hlt)) (relB.kept hv2 (fun _ h=>h) (fun b _ hlt=>hb.block b hlt)))
  clear hl1 hm1 hno hyes
  subst hp1
  subst hp2
  obtain⟨q1,p1,r1,s1,v1⟩:=a
  obtain⟨ps1,cp1,pr1,cr1,rfl,_⟩:=hv1
  obtain⟨q2,p2,r2,s2,v2⟩:=b
  obtain⟨ps2,cp2,pr2,cr2,rfl,_⟩:=hv2
  obtain⟨d0,d1,d2,d3,d4⟩:=hc1.five5
  obtain⟨e0,e1,e2,e3,e4⟩:=hc2.five5
  have hgr1:=hc1.2.1
  have hgr2:=hc2.2.1
  clear hc1 hc2
  try clear hv1 hv2
  obtain⟨E,hE⟩:∃E,E=eqv ⟨q1,p1,r1,s1,v1⟩ (⟨q2,p2,r2,s2,v2⟩:DBlk):=⟨_,rfl⟩
  rw[←hE]at HC
  have HE:=hid hE
  clear hE
  cases E
  case true=>
   have HY:=hid (HYES.out (eqv_iff.1 HE.out.symm))
   clear HYES HNO HE
   go_upto_region 6 with(fail)
   refine mixB_start [] (Cls wr) (by kernel_rfl) (Cls.of ((Below.refl _ _).drew)) (fun hCw=>?_)
   refine mixB_flt (by kernel_rfl) [0,1,2,3,4,5,6,7] 2 _ _ hCw (by kernel_rfl) ?_
   simp only[opsAt,zo1,zo2,zo3,zo4,zo5]
   unfold Cls
   repeat(go_big_quiet_step (fail))
   refine wpQuiet_nil ?_
   (try rw[←Cls_def])
   refine mixB_ch (i:=8) (fuel:=1) (by kernel_rfl) (by kernel_rfl) ?_
   simp only[opsAt,zo1,zo2,zo3,zo4,zo5]
   go_wp2_with(go_at_call 15;refine(HC.out _ hCw.below).mono ?_;rintro e' w5 ⟨rfl,hb5⟩)
   refine ThenB.mk (hCw.trans hb5) (fun hCw=>?_)
   refine mixB_flt (by kernel_rfl) [9] 0 _ _ hCw (by kernel_rfl) ?_
   simp only[opsAt,zo1,zo2,zo3,zo4,zo5]
   unfold Cls
   repeat(go_big_quiet_step (fail))
   refine wpQuiet_nil ?_
   (try rw[←Cls_def])
   refine mixB_end [] (by kernel_rfl) ?_
   refine wpList_nil ?_
   refine Calm.normal ?_
   have HB5:=hid (HBW.out.trans (hCw.below.mono (by have:=HBW.out.size;omega)))
   clear hCw hb5 d0 d1 d2 d3 d4 e0 e1 e2 e3 e4
   go_wp2
   exact⟨⟨j+1,by go_num,by omega,HY.out,HB5.out⟩,by simp[intOf];omega⟩
  case false=>
   have HR2:=hid (HNO.out (fun e=>by have h:=HE.out;rw[e,eqv_self]at h;cases h))
   clear HYES HNO HE
   go_upto_region 6 with(fail)
   refine mixB_start [] (Cls wr) (by kernel_rfl) (Cls.of ((Below.refl _ _).drew)) (fun hCw=>?_)
   refine mixB_flt (by kernel_rfl) [0,1,2,3,4,5,6,7] 2 _ _ hCw (by kernel_rfl) ?_
   simp only[opsAt,zo1,zo2,zo3,zo4,zo5]
   unfold Cls
   repeat(go_big_quiet_step (fail))
   refine wpQuiet_nil ?_
   (try rw[←Cls_def])
   refine mixB_ch (i:=8) (fuel:=1) (by kernel_rfl) (by kernel_rfl) ?_
   simp only[opsAt,zo1,zo2,zo3,zo4,zo5]
   go_wp2_with(go_at_call 15;refine(HC.out _ hCw.below).mono ?_;rintro e' w5 ⟨rfl,hb5⟩)
   refine ThenB.mk (hCw.trans hb5) (fun hCw=>?_)
   refine mixB_flt (by kernel_rfl) [9] 0 _ _ hCw (by kernel_rfl) ?_
   simp only[opsAt,zo1,zo2,zo3,zo4,zo5]
   unfold Cls
   repeat(go_big_quiet_step (fail))
   refine wpQuiet_nil ?_
   (try rw[←Cls_def])
   refine mixB_end [] (by kernel_rfl) ?_
   refine wpList_nil ?_
   refine Calm.normal ?_
   have HB5:=hid (HBW.out.trans (hCw.below.mono (by have:=HBW.out.size;omega)))
   clear hCw hb5 d0 d1 d2 d3 d4 e0 e1 e2 e3 e4
   go_wp2
   go_ret
   exact⟨by rw[HR2.out];rfl,HB5.out⟩
 ·have hr:R=true:=by
   rw[HR.out]
   refine eqv_iff.2 ?_
   have h:=HREL.out
   rw[List.take_of_length_le (by rw[←HN.out];omega),List.take_of_length_le (by rw[←HN'.out];omega)]at h
   exact h
  have HR2:=hid hr
  clear hr
  go_wp2
  go_ret
  exact⟨by rw[HR2.out];rfl,HBW.out⟩
end Go.Proofs.YtcihbnpckicljaaGreatDoor
