/- The document's checkRev. Conditions: a revision lies in memory. -/
import Derived.Test.YtcihbnpckicljaaGreatDoorrJRev
set_option linter.unusedVariables false
set_option linter.unusedSimpArgs false
namespace Go.Proofs.YtcihbnpckicljaaGreatDoor
open Go Go.RowKit Go.BigFrame
open Go.Lib(hid)
set_option maxRecDepth 100000
theorem nameE_utf (t:List UInt8):nameE t=if t=[]then 4 else utfE t:=by
 unfold nameE utfE
 by_cases h:t=[]
 ·rw[if_pos (.inl h),if_pos h]
 ·rw[if_neg h]
  by_cases h2:1024<t.length
  ·rw[if_pos (.inr h2),if_pos h2]
  ·rw[if_neg (by simp[h,h2]),if_neg h2]
set_option maxHeartbeats 4000000 in
theorem rchkR_none (r:DRev) (S:Nat->Prop) (cs:List Value) (w:World) (hr:HasRev S w r cs) (hq:wantK r.k=none):
 Calls Tryz.prog 78 #[.agg cs.toArray] w fun e' w'=>e'=.returned (.int .i64 5)/\Below w.heap.size w w':=by
 obtain⟨k,t,d,n,v⟩:=r
 obtain⟨cs',rfl,_,hv⟩:=hr
 obtain⟨vk,vb,vn,vs,vl,vf⟩:=v
 obtain⟨pl,cl,pf,cf,rfl,_⟩:=hasVal_mk.1 hv
 obtain⟨n1,n2,n3,n4⟩:=wantK_none hq
 clear hv hq
 show Calls Tryz.prog 78 #[.agg #[.int .u8 (k:Int),.string (bs t),.int .u64 (d:Int),.int .u64 (n:Int),.int .u8 (vk:Int),.bool vb,.int .i64 vn,.string (bs vs),.slice pl vl.length cl,.slice pf vf.length cf]] w _
 by_cases h0:k=0
 ·subst h0
  clear n1 n2 n3 n4
  show Calls Tryz.prog 78 #[.agg #[.int .u8 0,.string (bs t),.int .u64 (d:Int),.int .u64 (n:Int),.int .u8 (vk:Int),.bool vb,.int .i64 vn,.string (bs vs),.slice pl vl.length cl,.slice pf vf.length cf]] w _
  go_enter Tryz.func78,Tryz.ntmps78
  go_wp2
  go_ret
  exact⟨rfl,(Below.refl _ _).alloc (Nat.le_refl _) _⟩
 ·have e1:(1:Int)<=(k:Int):=by have:k≠0:=h0;omega
  have e5:(5:Int)<=(k:Int):=by have a1:k≠1:=n1;have a2:k≠2:=n2;have a3:k≠3:=n3;have a4:k≠4:=n4;omega
  clear n1 n2 n3 n4 h0
  go_enter Tryz.func78,Tryz.ntmps78
  go_wp2
  go_ret
  exact⟨rfl,(Below.refl _ _).alloc (Nat.le_refl _) _⟩
set_option maxHeartbeats 8000000 in
theorem rchkR_1 (t:List UInt8) (d n:Nat) (v:DVal) (S:Nat->Prop) (cs:List Value) (w:World) (hr:HasRev S w ⟨1,t,d,n,v⟩ cs):
 Calls Tryz.prog 78 #[.agg cs.toArray] w fun e' w'=>e'=.returned (.int .i64 (checkR ⟨1,t,d,n,v⟩))/\Below w.heap.size w w':=by
 obtain⟨cs',rfl,⟨_,htl,hdl,hnl⟩,hv⟩:=hr
 have htl':t.length<=1073741824:=htl
 obtain⟨R,hR⟩:∃R,R=checkR ⟨1,t,d,n,v⟩:=⟨_,rfl⟩
 rw[←hR]
 have hR':R=if t=[]then 4 else if utfE t≠0 then utfE t else if 4611686018427387904<max d n\/(1<3/\0<max d n)then 2 else if checkV 0 v≠0 then checkV 0 v else if kindV v≠0 then 5 else 0:=hR
 have hR2:R=if nameE t≠0 then nameE t else if 4611686018427387904<max d n\/(1<3/\0<max d n)then 2 else if checkV 0 v≠0 then checkV 0 v else if kindV v≠0 then 5 else 0:=by
  rw[hR',nameE_utf]
  by_cases h:t=[]
  ·rw[if_pos h,if_pos h,if_pos (by decide)]
  ·rw[if_neg h,if_neg h]
 have HR:=hid hR2
 have HV:=hid hv
 have hsz:=bs_size t
 obtain⟨C,hC⟩:∃C,C=checkV 0 v:=⟨_,rfl⟩
 have HCV:Hid (∀w',Below w.heap.size w w'->Calls Tryz.prog 82 #[.agg cs'.toArray] w' fun e' w2=>e'=.returned (.int .i64 C)/\Below w'.heap.size w' w2):=hid (fun w' hb=>by rw[hC];exact ref_check_any v S cs' w' (hv.ext hb))
 obtain⟨U,hU⟩:∃U,U=nameE t:=⟨_,rfl⟩
 have HU:Hid (∀w',Below w.heap.size w w'->Calls Tryz.prog 107 #[.string (bs t)] w' fun e' w2=>e'=.returned (.int .i64 U)/\Below w'.heap.size w' w2):=hid (fun w' hb=>by rw[hU];exact ref_name_any t w' (by omega))
 rw[←hC,←hU]at HR
 clear hR hR' hR2 hC hU
 obtain⟨vk,vb,vn,vs,vl,vf⟩:=v
 obtain⟨pl,cl,pf,cf,rfl,_⟩:=hasVal_mk.1 hv
 have hkv:kindV (.mk vk vb vn vs vl vf)=vk:=rfl
 rw[hkv]at HR
 show Calls Tryz.prog 78 #[.agg #[.int .u8 1,.string (bs t),.int .u64 (d:Int),.int .u64 (n:Int),.int .u8 (vk:Int),.bool vb,.int .i64 vn,.string (bs vs),.slice pl vl.length cl,.slice pf vf.length cf]] w _
 clear hv hkv
 go_enter Tryz.func78,Tryz.ntmps78
 go_upto_region 1 with(fail)
 generalize hW1:World.alloc _ _=W1
 have hb1:Below w.heap.size w W1:=by rw[←hW1];exact(Below.refl _ _).alloc (Nat.le_refl _) _
 have hd1:IsBlk W1 w.heap.size #[.int .u8 1,.string (bs t),.int .u64 (d:Int),.int .u64 (n:Int),.int .u8 (vk:Int),.bool vb,.int .i64 vn,.string (bs vs),.slice pl vl.length cl,.slice pf vf.length cf] 54:=by rw[←hW1];exact IsBlk.new _ _ _
 clear hW1
 have HB1:=hid hb1
 have HBK:=hid hd1
 have hlt:=hd1.lt
 have x0:=hd1.cell (i:=0) rfl
 have x1:=hd1.cell (i:=1) rfl
 have x2:=hd1.cell (i:=2) rfl
 have x3:=hd1.cell (i:=3) rfl
 have x4:=hd1.cell (i:=4) rfl
 have x5:=hd1.cell (i:=5) rfl
 have x6:=hd1.cell (i:=6) rfl
 have x7:=hd1.cell (i:=7) rfl
 have x8:=hd1.cell (i:=8) rfl
 have x9:=hd1.cell (i:=9) rfl
 clear hd1 hb1
 go_wp2_with fail
 go_at_call 107
 refine(HU.out _ HB1.out).mono ?_
 rintro e' w2 ⟨rfl,hb2⟩
 have HB2:=hid (HB1.out.trans (hb2.mono HB1.out.size))
 have hd2:=HBK.out.ext hb2
 have HBK2:=hid hd2
 clear x0 x1 x2 x3 x4 x5 x6 x7 x8 x9 hb2 hlt HBK
 have hlt:=hd2.lt
 have x0:=hd2.cell (i:=0) rfl
 have x1:=hd2.cell (i:=1) rfl
 have x2:=hd2.cell (i:=2) rfl
 have x3:=hd2.cell (i:=3) rfl
 have x4:=hd2.cell (i:=4) rfl
 have x5:=hd2.cell (i:=5) rfl
 have x6:=hd2.cell (i:=6) rfl
 have x7:=hd2.cell (i:=7) rfl
 have x8:=hd2.cell (i:=8) rfl
 have x9:=hd2.cell (i:=9) rfl
 clear hd2
 by_cases hu:U=0
 case neg=>
  have hub:(U !=0)=true:=by rw[bne_iff_ne];exact hu
  have HR3:Hid (R=U):=hid (by rw[HR.out,if_pos hu])
  clear hu HR
  go_wp2
  go_ret
  exact⟨by rw[HR3.out];rfl,HB2.out⟩
 subst hu
 have HR3:Hid (R=if 4611686018427387904<max d n\/(1<3/\0<max d n)then 2 else if C≠0 then C else if vk≠0 then 5 else 0):=hid (by rw[HR.out,if_neg (by simp)])
 clear HR
 by_cases hm:4611686018427387904<max d n
 ·have HR4:Hid (R=2):=hid (by rw[HR3.out,if_pos (.inl hm)])
  by_cases hm1:4611686018427387904<d
  ·have hmI:(4611686018427387904:Int)<(d:Int):=by omega
   clear hm HR3 hm1
   go_wp2
   go_ret
   exact⟨by rw[HR4.out];rfl,HB2.out⟩
  ·have hmI:(d:Int)<=4611686018427387904:=by omega
   have hnI:(4611686018427387904:Int)<(n:Int):=by omega
   clear hm HR3 hm1
   go_wp2
   go_ret
   exact⟨by rw[HR4.out];rfl,HB2.out⟩
 have hmI:(d:Int)<=4611686018427387904:=by omega
 have hnI:(n:Int)<=4611686018427387904:=by omega
 by_cases hz:1<3/\0<max d n
 ·have HR4:Hid (R=2):=hid (by rw[HR3.out,if_pos (.inr hz)])
  by_cases hd0:d=0
  ·have hn0:((n:Int) !=0)=true:=by rw[bne_iff_ne];omega
   have hk3:1<3:=hz.1
   clear hm HR3 hz
   first
   |(exfalso;omega)
   |(subst hd0
     rw[show((0:Nat):Int)=0 from rfl]at*
     go_wp2
     go_ret
     exact⟨by rw[HR4.out];rfl,HB2.out⟩)
  ·have hn0:((d:Int) !=0)=true:=by rw[bne_iff_ne];omega
   have hk3:1<3:=hz.1
   clear hm HR3 hz hd0
   first
   |(exfalso;omega)
   |(go_wp2
     go_ret
     exact⟨by rw[HR4.out];rfl,HB2.out⟩)
 have HR4:Hid (R=if C≠0 then C else if vk≠0 then 5 else 0):=hid (by rw[HR3.out,if_neg (by omega)])
 have hd0:1<3->((d:Int) !=0)=false:=fun h=>by rw[bne_eq_false_iff_eq];omega
 have hn0:1<3->((n:Int) !=0)=false:=fun h=>by rw[bne_eq_false_iff_eq];omega
 try replace hd0:=hd0 (by omega)
 try replace hn0:=hn0 (by omega)
 clear hm hz HR3
 go_wp2_with fail
 go_at_call 82
 refine(HCV.out _ HB2.out).mono ?_
 rintro e' w3 ⟨rfl,hb3⟩
 have HB3:=hid (HB2.out.trans (hb3.mono HB2.out.size))
 have hd3:=HBK2.out.ext hb3
 clear x0 x1 x2 x3 x4 x5 x6 x7 x8 x9 hb3 hlt HBK2
 have hlt:=hd3.lt
 have x0:=hd3.cell (i:=0) rfl
 have x1:=hd3.cell (i:=1) rfl
 have x2:=hd3.cell (i:=2) rfl
 have x3:=hd3.cell (i:=3) rfl
 have x4:=hd3.cell (i:=4) rfl
 have x5:=hd3.cell (i:=5) rfl
 have x6:=hd3.cell (i:=6) rfl
 have x7:=hd3.cell (i:=7) rfl
 have x8:=hd3.cell (i:=8) rfl
 have x9:=hd3.cell (i:=9) rfl
 clear hd3
 by_cases hc:C=0
 case neg=>
  have hcb:(C !=0)=true:=by rw[bne_iff_ne];exact hc
  have HR5:Hid (R=C):=hid (by rw[HR4.out,if_pos hc])
  clear hc HR4
  go_wp2
  go_ret
  exact⟨by rw[HR5.out];rfl,HB3.out⟩
 subst hc
 by_cases hk:vk=0
 ·subst hk
  have HR5:Hid (R=0):=hid (by rw[HR4.out,if_neg (by simp),if_neg (by simp)])
  clear HR4
  go_wp2
  go_ret
  exact⟨by rw[HR5.out];rfl,HB3.out.alloc HB3.out.size _⟩
 ·have hkb:((vk:Int) !=0)=true:=by rw[bne_iff_ne];omega
  have HR5:Hid (R=5):=hid (by rw[HR4.out,if_neg (by simp),if_pos hk])
  clear HR4 hk
  go_wp2
  go_ret
  exact⟨by rw[HR5.out];rfl,HB3.out.alloc HB3.out.size _⟩
set_option maxHeartbeats 8000000 in
theorem rchkR_2 (t:List UInt8) (d n:Nat) (v:DVal) (S:Nat->Prop) (cs:List Value) (w:World) (hr:HasRev S w ⟨2,t,d,n,v⟩ cs):
 Calls Tryz.prog 78 #[.agg cs.toArray] w fun e' w'=>e'=.returned (.int .i64 (checkR ⟨2,t,d,n,v⟩))/\Below w.heap.size w w':=by
 obtain⟨cs',rfl,⟨_,htl,hdl,hnl⟩,hv⟩:=hr
 have htl':t.length<=1073741824:=htl
 obtain⟨R,hR⟩:∃R,R=checkR ⟨2,t,d,n,v⟩:=⟨_,rfl⟩
 rw[←hR]
 have hR':R=if t=[]then 4 else if utfE t≠0 then utfE t else if 4611686018427387904<max d n\/(2<3/\0<max d n)then 2 else if checkV 0 v≠0 then checkV 0 v else if kindV v≠3 then 5 else 0:=hR
 have hR2:R=if nameE t≠0 then nameE t else if 4611686018427387904<max d n\/(2<3/\0<max d n)then 2 else if checkV 0 v≠0 then checkV 0 v else if kindV v≠3 then 5 else 0:=by
  rw[hR',nameE_utf]
  by_cases h:t=[]
  ·rw[if_pos h,if_pos h,if_pos (by decide)]
  ·rw[if_neg h,if_neg h]
 have HR:=hid hR2
 have HV:=hid hv
 have hsz:=bs_size t
 obtain⟨C,hC⟩:∃C,C=checkV 0 v:=⟨_,rfl⟩
 have HCV:Hid (∀w',Below w.heap.size w w'->Calls Tryz.prog 82 #[.agg cs'.toArray] w' fun e' w2=>e'=.returned (.int .i64 C)/\Below w'.heap.size w' w2):=hid (fun w' hb=>by rw[hC];exact ref_check_any v S cs' w' (hv.ext hb))
 obtain⟨U,hU⟩:∃U,U=nameE t:=⟨_,rfl⟩
 have HU:Hid (∀w',Below w.heap.size w w'->Calls Tryz.prog 107 #[.string (bs t)] w' fun e' w2=>e'=.returned (.int .i64 U)/\Below w'.heap.size w' w2):=hid (fun w' hb=>by rw[hU];exact ref_name_any t w' (by omega))
 rw[←hC,←hU]at HR
 clear hR hR' hR2 hC hU
 obtain⟨vk,vb,vn,vs,vl,vf⟩:=v
 obtain⟨pl,cl,pf,cf,rfl,_⟩:=hasVal_mk.1 hv
 have hkv:kindV (.mk vk vb vn vs vl vf)=vk:=rfl
 rw[hkv]at HR
 show Calls Tryz.prog 78 #[.agg #[.int .u8 2,.string (bs t),.int .u64 (d:Int),.int .u64 (n:Int),.int .u8 (vk:Int),.bool vb,.int .i64 vn,.string (bs vs),.slice pl vl.length cl,.slice pf vf.length cf]] w _
 clear hv hkv
 go_enter Tryz.func78,Tryz.ntmps78
 go_upto_region 1 with(fail)
 generalize hW1:World.alloc _ _=W1
 have hb1:Below w.heap.size w W1:=by rw[←hW1];exact(Below.refl _ _).alloc (Nat.le_refl _) _
 have hd1:IsBlk W1 w.heap.size #[.int .u8 2,.string (bs t),.int .u64 (d:Int),.int .u64 (n:Int),.int .u8 (vk:Int),.bool vb,.int .i64 vn,.string (bs vs),.slice pl vl.length cl,.slice pf vf.length cf] 54:=by rw[←hW1];exact IsBlk.new _ _ _
 clear hW1
 have HB1:=hid hb1
 have HBK:=hid hd1
 have hlt:=hd1.lt
 have x0:=hd1.cell (i:=0) rfl
 have x1:=hd1.cell (i:=1) rfl
 have x2:=hd1.cell (i:=2) rfl
 have x3:=hd1.cell (i:=3) rfl
 have x4:=hd1.cell (i:=4) rfl
 have x5:=hd1.cell (i:=5) rfl
 have x6:=hd1.cell (i:=6) rfl
 have x7:=hd1.cell (i:=7) rfl
 have x8:=hd1.cell (i:=8) rfl
 have x9:=hd1.cell (i:=9) rfl
 clear hd1 hb1
 go_wp2_with fail
 go_at_call 107
 refine(HU.out _ HB1.out).mono ?_
 rintro e' w2 ⟨rfl,hb2⟩
 have HB2:=hid (HB1.out.trans (hb2.mono HB1.out.size))
 have hd2:=HBK.out.ext hb2
 have HBK2:=hid hd2
 clear x0 x1 x2 x3 x4 x5 x6 x7 x8 x9 hb2 hlt HBK
 have hlt:=hd2.lt
 have x0:=hd2.cell (i:=0) rfl
 have x1:=hd2.cell (i:=1) rfl
 have x2:=hd2.cell (i:=2) rfl
 have x3:=hd2.cell (i:=3) rfl
 have x4:=hd2.cell (i:=4) rfl
 have x5:=hd2.cell (i:=5) rfl
 have x6:=hd2.cell (i:=6) rfl
 have x7:=hd2.cell (i:=7) rfl
 have x8:=hd2.cell (i:=8) rfl
 have x9:=hd2.cell (i:=9) rfl
 clear hd2
 by_cases hu:U=0
 case neg=>
  have hub:(U !=0)=true:=by rw[bne_iff_ne];exact hu
  have HR3:Hid (R=U):=hid (by rw[HR.out,if_pos hu])
  clear hu HR
  go_wp2
  go_ret
  exact⟨by rw[HR3.out];rfl,HB2.out⟩
 subst hu
 have HR3:Hid (R=if 4611686018427387904<max d n\/(2<3/\0<max d n)then 2 else if C≠0 then C else if vk≠3 then 5 else 0):=hid (by rw[HR.out,if_neg (by simp)])
 clear HR
 by_cases hm:4611686018427387904<max d n
 ·have HR4:Hid (R=2):=hid (by rw[HR3.out,if_pos (.inl hm)])
  by_cases hm1:4611686018427387904<d
  ·have hmI:(4611686018427387904:Int)<(d:Int):=by omega
   clear hm HR3 hm1
   go_wp2
   go_ret
   exact⟨by rw[HR4.out];rfl,HB2.out⟩
  ·have hmI:(d:Int)<=4611686018427387904:=by omega
   have hnI:(4611686018427387904:Int)<(n:Int):=by omega
   clear hm HR3 hm1
   go_wp2
   go_ret
   exact⟨by rw[HR4.out];rfl,HB2.out⟩
 have hmI:(d:Int)<=4611686018427387904:=by omega
 have hnI:(n:Int)<=4611686018427387904:=by omega
 by_cases hz:2<3/\0<max d n
 ·have HR4:Hid (R=2):=hid (by rw[HR3.out,if_pos (.inr hz)])
  by_cases hd0:d=0
  ·have hn0:((n:Int) !=0)=true:=by rw[bne_iff_ne];omega
   have hk3:2<3:=hz.1
   clear hm HR3 hz
   first
   |(exfalso;omega)
   |(subst hd0
     rw[show((0:Nat):Int)=0 from rfl]at*
     go_wp2
     go_ret
     exact⟨by rw[HR4.out];rfl,HB2.out⟩)
  ·have hn0:((d:Int) !=0)=true:=by rw[bne_iff_ne];omega
   have hk3:2<3:=hz.1
   clear hm HR3 hz hd0
   first
   |(exfalso;omega)
   |(go_wp2
     go_ret
     exact⟨by rw[HR4.out];rfl,HB2.out⟩)
 have HR4:Hid (R=if C≠0 then C else if vk≠3 then 5 else 0):=hid (by rw[HR3.out,if_neg (by omega)])
 have hd0:2<3->((d:Int) !=0)=false:=fun h=>by rw[bne_eq_false_iff_eq];omega
 have hn0:2<3->((n:Int) !=0)=false:=fun h=>by rw[bne_eq_false_iff_eq];omega
 try replace hd0:=hd0 (by omega)
 try replace hn0:=hn0 (by omega)
 clear hm hz HR3
 go_wp2_with fail
 go_at_call 82
 refine(HCV.out _ HB2.out).mono ?_
 rintro e' w3 ⟨rfl,hb3⟩
 have HB3:=hid (HB2.out.trans (hb3.mono HB2.out.size))
 have hd3:=HBK2.out.ext hb3
 clear x0 x1 x2 x3 x4 x5 x6 x7 x8 x9 hb3 hlt HBK2
 have hlt:=hd3.lt
 have x0:=hd3.cell (i:=0) rfl
 have x1:=hd3.cell (i:=1) rfl
 have x2:=hd3.cell (i:=2) rfl
 have x3:=hd3.cell (i:=3) rfl
 have x4:=hd3.cell (i:=4) rfl
 have x5:=hd3.cell (i:=5) rfl
 have x6:=hd3.cell (i:=6) rfl
 have x7:=hd3.cell (i:=7) rfl
 have x8:=hd3.cell (i:=8) rfl
 have x9:=hd3.cell (i:=9) rfl
 clear hd3
 by_cases hc:C=0
 case neg=>
  have hcb:(C !=0)=true:=by rw[bne_iff_ne];exact hc
  have HR5:Hid (R=C):=hid (by rw[HR4.out,if_pos hc])
  clear hc HR4
  go_wp2
  go_ret
  exact⟨by rw[HR5.out];rfl,HB3.out⟩
 subst hc
 by_cases hk:vk=3
 ·subst hk
  have HR5:Hid (R=0):=hid (by rw[HR4.out,if_neg (by simp),if_neg (by simp)])
  clear HR4
  go_wp2
  go_ret
  exact⟨by rw[HR5.out];rfl,HB3.out.alloc HB3.out.size _⟩
 ·have hkb:((vk:Int) !=3)=true:=by rw[bne_iff_ne];omega
  have HR5:Hid (R=5):=hid (by rw[HR4.out,if_neg (by simp),if_pos hk])
  clear HR4 hk
  go_wp2
  go_ret
  exact⟨by rw[HR5.out];rfl,HB3.out.alloc HB3.out.size _⟩
set_option maxHeartbeats 8000000 in
theorem rchkR_3 (t:List UInt8) (d n:Nat) (v:DVal) (S:Nat->Prop) (cs:List Value) (w:World) (hr:HasRev S w ⟨3,t,d,n,v⟩ cs):
 Calls Tryz.prog 78 #[.agg cs.toArray] w fun e' w'=>e'=.returned (.int .i64 (checkR ⟨3,t,d,n,v⟩))/\Below w.heap.size w w':=by
 obtain⟨cs',rfl,⟨_,htl,hdl,hnl⟩,hv⟩:=hr
 have htl':t.length<=1073741824:=htl
 obtain⟨R,hR⟩:∃R,R=checkR ⟨3,t,d,n,v⟩:=⟨_,rfl⟩
 rw[←hR]
 have hR':R=if t=[]then 4 else if utfE t≠0 then utfE t else if 4611686018427387904<max d n\/(3<3/\0<max d n)then 2 else if checkV 0 v≠0 then checkV 0 v else if kindV v≠6 then 5 else 0:=hR
 have hR2:R=if nameE t≠0 then nameE t else if 4611686018427387904<max d n\/(3<3/\0<max d n)then 2 else if checkV 0 v≠0 then checkV 0 v else if kindV v≠6 then 5 else 0:=by
  rw[hR',nameE_utf]
  by_cases h:t=[]
  ·rw[if_pos h,if_pos h,if_pos (by decide)]
  ·rw[if_neg h,if_neg h]
 have HR:=hid hR2
 have HV:=hid hv
 have hsz:=bs_size t
 obtain⟨C,hC⟩:∃C,C=checkV 0 v:=⟨_,rfl⟩
 have HCV:Hid (∀w',Below w.heap.size w w'->Calls Tryz.prog 82 #[.agg cs'.toArray] w' fun e' w2=>e'=.returned (.int .i64 C)/\Below w'.heap.size w' w2):=hid (fun w' hb=>by rw[hC];exact ref_check_any v S cs' w' (hv.ext hb))
 obtain⟨U,hU⟩:∃U,U=nameE t:=⟨_,rfl⟩
 have HU:Hid (∀w',Below w.heap.size w w'->Calls Tryz.prog 107 #[.string (bs t)] w' fun e' w2=>e'=.returned (.int .i64 U)/\Below w'.heap.size w' w2):=hid (fun w' hb=>by rw[hU];exact ref_name_any t w' (by omega))
 rw[←hC,←hU]at HR
 clear hR hR' hR2 hC hU
 obtain⟨vk,vb,vn,vs,vl,vf⟩:=v
 obtain⟨pl,cl,pf,cf,rfl,_⟩:=hasVal_mk.1 hv
 have hkv:kindV (.mk vk vb vn vs vl vf)=vk:=rfl
 rw[hkv]at HR
 show Calls Tryz.prog 78 #[.agg #[.int .u8 3,.string (bs t),.int .u64 (d:Int),.int .u64 (n:Int),.int .u8 (vk:Int),.bool vb,.int .i64 vn,.string (bs vs),.slice pl vl.length cl,.slice pf vf.length cf]] w _
 clear hv hkv
 go_enter Tryz.func78,Tryz.ntmps78
 go_upto_region 1 with(fail)
 generalize hW1:World.alloc _ _=W1
 have hb1:Below w.heap.size w W1:=by rw[←hW1];exact(Below.refl _ _).alloc (Nat.le_refl _) _
 have hd1:IsBlk W1 w.heap.size #[.int .u8 3,.string (bs t),.int .u64 (d:Int),.int .u64 (n:Int),.int .u8 (vk:Int),.bool vb,.int .i64 vn,.string (bs vs),.slice pl vl.length cl,.slice pf vf.length cf] 54:=by rw[←hW1];exact IsBlk.new _ _ _
 clear hW1
 have HB1:=hid hb1
 have HBK:=hid hd1
 have hlt:=hd1.lt
 have x0:=hd1.cell (i:=0) rfl
 have x1:=hd1.cell (i:=1) rfl
 have x2:=hd1.cell (i:=2) rfl
 have x3:=hd1.cell (i:=3) rfl
 have x4:=hd1.cell (i:=4) rfl
 have x5:=hd1.cell (i:=5) rfl
 have x6:=hd1.cell (i:=6) rfl
 have x7:=hd1.cell (i:=7) rfl
 have x8:=hd1.cell (i:=8) rfl
 have x9:=hd1.cell (i:=9) rfl
 clear hd1 hb1
 go_wp2_with fail
 go_at_call 107
 refine(HU.out _ HB1.out).mono ?_
 rintro e' w2 ⟨rfl,hb2⟩
 have HB2:=hid (HB1.out.trans (hb2.mono HB1.out.size))
 have hd2:=HBK.out.ext hb2
 have HBK2:=hid hd2
 clear x0 x1 x2 x3 x4 x5 x6 x7 x8 x9 hb2 hlt HBK
 have hlt:=hd2.lt
 have x0:=hd2.cell (i:=0) rfl
 have x1:=hd2.cell (i:=1) rfl
 have x2:=hd2.cell (i:=2) rfl
 have x3:=hd2.cell (i:=3) rfl
 have x4:=hd2.cell (i:=4) rfl
 have x5:=hd2.cell (i:=5) rfl
 have x6:=hd2.cell (i:=6) rfl
 have x7:=hd2.cell (i:=7) rfl
 have x8:=hd2.cell (i:=8) rfl
 have x9:=hd2.cell (i:=9) rfl
 clear hd2
 by_cases hu:U=0
 case neg=>
  have hub:(U !=0)=true:=by rw[bne_iff_ne];exact hu
  have HR3:Hid (R=U):=hid (by rw[HR.out,if_pos hu])
  clear hu HR
  go_wp2
  go_ret
  exact⟨by rw[HR3.out];rfl,HB2.out⟩
 subst hu
 have HR3:Hid (R=if 4611686018427387904<max d n\/(3<3/\0<max d n)then 2 else if C≠0 then C else if vk≠6 then 5 else 0):=hid (by rw[HR.out,if_neg (by simp)])
 clear HR
 by_cases hm:4611686018427387904<max d n
 ·have HR4:Hid (R=2):=hid (by rw[HR3.out,if_pos (.inl hm)])
  by_cases hm1:4611686018427387904<d
  ·have hmI:(4611686018427387904:Int)<(d:Int):=by omega
   clear hm HR3 hm1
   go_wp2
   go_ret
   exact⟨by rw[HR4.out];rfl,HB2.out⟩
  ·have hmI:(d:Int)<=4611686018427387904:=by omega
   have hnI:(4611686018427387904:Int)<(n:Int):=by omega
   clear hm HR3 hm1
   go_wp2
   go_ret
   exact⟨by rw[HR4.out];rfl,HB2.out⟩
 have hmI:(d:Int)<=4611686018427387904:=by omega
 have hnI:(n:Int)<=4611686018427387904:=by omega
 by_cases hz:3<3/\0<max d n
 ·have HR4:Hid (R=2):=hid (by rw[HR3.out,if_pos (.inr hz)])
  by_cases hd0:d=0
  ·have hn0:((n:Int) !=0)=true:=by rw[bne_iff_ne];omega
   have hk3:3<3:=hz.1
   clear hm HR3 hz
   first
   |(exfalso;omega)
   |(subst hd0
     rw[show((0:Nat):Int)=0 from rfl]at*
     go_wp2
     go_ret
     exact⟨by rw[HR4.out];rfl,HB2.out⟩)
  ·have hn0:((d:Int) !=0)=true:=by rw[bne_iff_ne];omega
   have hk3:3<3:=hz.1
   clear hm HR3 hz hd0
   first
   |(exfalso;omega)
   |(go_wp2
     go_ret
     exact⟨by rw[HR4.out];rfl,HB2.out⟩)
 have HR4:Hid (R=if C≠0 then C else if vk≠6 then 5 else 0):=hid (by rw[HR3.out,if_neg (by omega)])
 have hd0:3<3->((d:Int) !=0)=false:=fun h=>by rw[bne_eq_false_iff_eq];omega
 have hn0:3<3->((n:Int) !=0)=false:=fun h=>by rw[bne_eq_false_iff_eq];omega
 try replace hd0:=hd0 (by omega)
 try replace hn0:=hn0 (by omega)
 clear hm hz HR3
 go_wp2_with fail
 go_at_call 82
 refine(HCV.out _ HB2.out).mono ?_
 rintro e' w3 ⟨rfl,hb3⟩
 have HB3:=hid (HB2.out.trans (hb3.mono HB2.out.size))
 have hd3:=HBK2.out.ext hb3
 clear x0 x1 x2 x3 x4 x5 x6 x7 x8 x9 hb3 hlt HBK2
 have hlt:=hd3.lt
 have x0:=hd3.cell (i:=0) rfl
 have x1:=hd3.cell (i:=1) rfl
 have x2:=hd3.cell (i:=2) rfl
 have x3:=hd3.cell (i:=3) rfl
 have x4:=hd3.cell (i:=4) rfl
 have x5:=hd3.cell (i:=5) rfl
 have x6:=hd3.cell (i:=6) rfl
 have x7:=hd3.cell (i:=7) rfl
 have x8:=hd3.cell (i:=8) rfl
 have x9:=hd3.cell (i:=9) rfl
 clear hd3
 by_cases hc:C=0
 case neg=>
  have hcb:(C !=0)=true:=by rw[bne_iff_ne];exact hc
  have HR5:Hid (R=C):=hid (by rw[HR4.out,if_pos hc])
  clear hc HR4
  go_wp2
  go_ret
  exact⟨by rw[HR5.out];rfl,HB3.out⟩
 subst hc
 by_cases hk:vk=6
 ·subst hk
  have HR5:Hid (R=0):=hid (by rw[HR4.out,if_neg (by simp),if_neg (by simp)])
  clear HR4
  go_wp2
  go_ret
  exact⟨by rw[HR5.out];rfl,HB3.out.alloc HB3.out.size _⟩
 ·have hkb:((vk:Int) !=6)=true:=by rw[bne_iff_ne];omega
  have HR5:Hid (R=5):=hid (by rw[HR4.out,if_neg (by simp),if_pos hk])
  clear HR4 hk
  go_wp2
  go_ret
  exact⟨by rw[HR5.out];rfl,HB3.out.alloc HB3.out.size _⟩
set_option maxHeartbeats 8000000 in
theorem rchkR_4 (t:List UInt8) (d n:Nat) (v:DVal) (S:Nat->Prop) (cs:List Value) (w:World) (hr:HasRev S w ⟨4,t,d,n,v⟩ cs):
 Calls Tryz.prog 78 #[.agg cs.toArray] w fun e' w'=>e'=.returned (.int .i64 (checkR ⟨4,t,d,n,v⟩))/\Below w.heap.size w w':=by
 obtain⟨cs',rfl,⟨_,htl,hdl,hnl⟩,hv⟩:=hr
 have htl':t.length<=1073741824:=htl
 obtain⟨R,hR⟩:∃R,R=checkR ⟨4,t,d,n,v⟩:=⟨_,rfl⟩
 rw[←hR]
 have hR':R=if t=[]then 4 else if utfE t≠0 then utfE t else if 4611686018427387904<max d n\/(4<3/\0<max d n)then 2 else if checkV 0 v≠0 then checkV 0 v else if kindV v≠0 then 5 else 0:=hR
 have hR2:R=if nameE t≠0 then nameE t else if 4611686018427387904<max d n\/(4<3/\0<max d n)then 2 else if checkV 0 v≠0 then checkV 0 v else if kindV v≠0 then 5 else 0:=by
  rw[hR',nameE_utf]
  by_cases h:t=[]
  ·rw[if_pos h,if_pos h,if_pos (by decide)]
  ·rw[if_neg h,if_neg h]
 have HR:=hid hR2
 have HV:=hid hv
 have hsz:=bs_size t
 obtain⟨C,hC⟩:∃C,C=checkV 0 v:=⟨_,rfl⟩
 have HCV:Hid (∀w',Below w.heap.size w w'->Calls Tryz.prog 82 #[.agg cs'.toArray] w' fun e' w2=>e'=.returned (.int .i64 C)/\Below w'.heap.size w' w2):=hid (fun w' hb=>by rw[hC];exact ref_check_any v S cs' w' (hv.ext hb))
 obtain⟨U,hU⟩:∃U,U=nameE t:=⟨_,rfl⟩
 have HU:Hid (∀w',Below w.heap.size w w'->Calls Tryz.prog 107 #[.string (bs t)] w' fun e' w2=>e'=.returned (.int .i64 U)/\Below w'.heap.size w' w2):=hid (fun w' hb=>by rw[hU];exact ref_name_any t w' (by omega))
 rw[←hC,←hU]at HR
 clear hR hR' hR2 hC hU
 obtain⟨vk,vb,vn,vs,vl,vf⟩:=v
 obtain⟨pl,cl,pf,cf,rfl,_⟩:=hasVal_mk.1 hv
 have hkv:kindV (.mk vk vb vn vs vl vf)=vk:=rfl
 rw[hkv]at HR
 show Calls Tryz.prog 78 #[.agg #[.int .u8 4,.string (bs t),.int .u64 (d:Int),.int .u64 (n:Int),.int .u8 (vk:Int),.bool vb,.int .i64 vn,.string (bs vs),.slice pl vl.length cl,.slice pf vf.length cf]] w _
 clear hv hkv
 go_enter Tryz.func78,Tryz.ntmps78
 go_upto_region 1 with(fail)
 generalize hW1:World.alloc _ _=W1
 have hb1:Below w.heap.size w W1:=by rw[←hW1];exact(Below.refl _ _).alloc (Nat.le_refl _) _
 have hd1:IsBlk W1 w.heap.size #[.int .u8 4,.string (bs t),.int .u64 (d:Int),.int .u64 (n:Int),.int .u8 (vk:Int),.bool vb,.int .i64 vn,.string (bs vs),.slice pl vl.length cl,.slice pf vf.length cf] 54:=by rw[←hW1];exact IsBlk.new _ _ _
 clear hW1
 have HB1:=hid hb1
 have HBK:=hid hd1
 have hlt:=hd1.lt
 have x0:=hd1.cell (i:=0) rfl
 have x1:=hd1.cell (i:=1) rfl
 have x2:=hd1.cell (i:=2) rfl
 have x3:=hd1.cell (i:=3) rfl
 have x4:=hd1.cell (i:=4) rfl
 have x5:=hd1.cell (i:=5) rfl
 have x6:=hd1.cell (i:=6) rfl
 have x7:=hd1.cell (i:=7) rfl
 have x8:=hd1.cell (i:=8) rfl
 have x9:=hd1.cell (i:=9) rfl
 clear hd1 hb1
 go_wp2_with fail
 go_at_call 107
 refine(HU.out _ HB1.out).mono ?_
 rintro e' w2 ⟨rfl,hb2⟩
 have HB2:=hid (HB1.out.trans (hb2.mono HB1.out.size))
 have hd2:=HBK.out.ext hb2
 have HBK2:=hid hd2
 clear x0 x1 x2 x3 x4 x5 x6 x7 x8 x9 hb2 hlt HBK
 have hlt:=hd2.lt
 have x0:=hd2.cell (i:=0) rfl
 have x1:=hd2.cell (i:=1) rfl
 have x2:=hd2.cell (i:=2) rfl
 have x3:=hd2.cell (i:=3) rfl
 have x4:=hd2.cell (i:=4) rfl
 have x5:=hd2.cell (i:=5) rfl
 have x6:=hd2.cell (i:=6) rfl
 have x7:=hd2.cell (i:=7) rfl
 have x8:=hd2.cell (i:=8) rfl
 have x9:=hd2.cell (i:=9) rfl
 clear hd2
 by_cases hu:U=0
 case neg=>
  have hub:(U !=0)=true:=by rw[bne_iff_ne];exact hu
  have HR3:Hid (R=U):=hid (by rw[HR.out,if_pos hu])
  clear hu HR
  go_wp2
  go_ret
  exact⟨by rw[HR3.out];rfl,HB2.out⟩
 subst hu
 have HR3:Hid (R=if 4611686018427387904<max d n\/(4<3/\0<max d n)then 2 else if C≠0 then C else if vk≠0 then 5 else 0):=hid (by rw[HR.out,if_neg (by simp)])
 clear HR
 by_cases hm:4611686018427387904<max d n
 ·have HR4:Hid (R=2):=hid (by rw[HR3.out,if_pos (.inl hm)])
  by_cases hm1:4611686018427387904<d
  ·have hmI:(4611686018427387904:Int)<(d:Int):=by omega
   clear hm HR3 hm1
   go_wp2
   go_ret
   exact⟨by rw[HR4.out];rfl,HB2.out⟩
  ·have hmI:(d:Int)<=4611686018427387904:=by omega
   have hnI:(4611686018427387904:Int)<(n:Int):=by omega
   clear hm HR3 hm1
   go_wp2
   go_ret
   exact⟨by rw[HR4.out];rfl,HB2.out⟩
 have hmI:(d:Int)<=4611686018427387904:=by omega
 have hnI:(n:Int)<=4611686018427387904:=by omega
 by_cases hz:4<3/\0<max d n
 ·have HR4:Hid (R=2):=hid (by rw[HR3.out,if_pos (.inr hz)])
  by_cases hd0:d=0
  ·have hn0:((n:Int) !=0)=true:=by rw[bne_iff_ne];omega
   have hk3:4<3:=hz.1
   clear hm HR3 hz
   first
   |(exfalso;omega)
   |(subst hd0
     rw[show((0:Nat):Int)=0 from rfl]at*
     go_wp2
     go_ret
     exact⟨by rw[HR4.out];rfl,HB2.out⟩)
  ·have hn0:((d:Int) !=0)=true:=by rw[bne_iff_ne];omega
   have hk3:4<3:=hz.1
   clear hm HR3 hz hd0
   first
   |(exfalso;omega)
   |(go_wp2
     go_ret
     exact⟨by rw[HR4.out];rfl,HB2.out⟩)
 have HR4:Hid (R=if C≠0 then C else if vk≠0 then 5 else 0):=hid (by rw[HR3.out,if_neg (by omega)])
 have hd0:4<3->((d:Int) !=0)=false:=fun h=>by rw[bne_eq_false_iff_eq];omega
 have hn0:4<3->((n:Int) !=0)=false:=fun h=>by rw[bne_eq_false_iff_eq];omega
 try replace hd0:=hd0 (by omega)
 try replace hn0:=hn0 (by omega)
 clear hm hz HR3
 go_wp2_with fail
 go_at_call 82
 refine(HCV.out _ HB2.out).mono ?_
 rintro e' w3 ⟨rfl,hb3⟩
 have HB3:=hid (HB2.out.trans (hb3.mono HB2.out.size))
 have hd3:=HBK2.out.ext hb3
 clear x0 x1 x2 x3 x4 x5 x6 x7 x8 x9 hb3 hlt HBK2
 have hlt:=hd3.lt
 have x0:=hd3.cell (i:=0) rfl
 have x1:=hd3.cell (i:=1) rfl
 have x2:=hd3.cell (i:=2) rfl
 have x3:=hd3.cell (i:=3) rfl
 have x4:=hd3.cell (i:=4) rfl
 have x5:=hd3.cell (i:=5) rfl
 have x6:=hd3.cell (i:=6) rfl
 have x7:=hd3.cell (i:=7) rfl
 have x8:=hd3.cell (i:=8) rfl
 have x9:=hd3.cell (i:=9) rfl
 clear hd3
 by_cases hc:C=0
 case neg=>
  have hcb:(C !=0)=true:=by rw[bne_iff_ne];exact hc
  have HR5:Hid (R=C):=hid (by rw[HR4.out,if_pos hc])
  clear hc HR4
  go_wp2
  go_ret
  exact⟨by rw[HR5.out];rfl,HB3.out⟩
 subst hc
 by_cases hk:vk=0
 ·subst hk
  have HR5:Hid (R=0):=hid (by rw[HR4.out,if_neg (by simp),if_neg (by simp)])
  clear HR4
  go_wp2
  go_ret
  exact⟨by rw[HR5.out];rfl,HB3.out.alloc HB3.out.size _⟩
 ·have hkb:((vk:Int) !=0)=true:=by rw[bne_iff_ne];omega
  have HR5:Hid (R=5):=hid (by rw[HR4.out,if_neg (by simp),if_pos hk])
  clear HR4 hk
  go_wp2
  go_ret
  exact⟨by rw[HR5.out];rfl,HB3.out.alloc HB3.out.size _⟩
theorem rchkR_any (r:DRev) (S:Nat->Prop) (cs:List Value) (w:World) (hr:HasRev S w r cs) (hT:U8T w):
 Calls Tryz.prog 78 #[.agg cs.toArray] w fun e' w'=>e'=.returned (.int .i64 (checkR r))/\Below w.heap.size w w':=by
 obtain⟨k,t,d,n,v⟩:=r
 by_cases h1:k=1
 ·subst h1;exact rchkR_1 t d n v S cs w hr
 by_cases h2:k=2
 ·subst h2;exact rchkR_2 t d n v S cs w hr
 by_cases h3:k=3
 ·subst h3;exact rchkR_3 t d n v S cs w hr
 by_cases h4:k=4
 ·subst h4;exact rchkR_4 t d n v S cs w hr
 have hn:wantK k=none:=by unfold wantK;rw[if_neg h1,if_neg h2,if_neg h3,if_neg h4]
 have hc:checkR ⟨k,t,d,n,v⟩=5:=by unfold checkR;simp only[hn]
 rw[hc]
 exact rchkR_none ⟨k,t,d,n,v⟩ S cs w hr hn
end Go.Proofs.YtcihbnpckicljaaGreatDoor
