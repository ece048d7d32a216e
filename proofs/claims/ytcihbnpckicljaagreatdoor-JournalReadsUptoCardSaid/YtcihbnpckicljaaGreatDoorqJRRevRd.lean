/- The document's number and readRev. Conditions: a value lies in memory; a text no longer than 2^48 bytes; utf8's tables read as the text lays them. -/
import Derived.Test.YtcihbnpckicljaaGreatDoorqJRevRd
set_option linter.unusedVariables false
set_option linter.unusedSimpArgs false
namespace Go.Proofs.YtcihbnpckicljaaGreatDoor
open Go Go.RowKit Go.BigFrame
open Go.Lib(hid)
set_option maxRecDepth 100000
def isNat (v:DVal):Bool:=decide (kindV v=2/\0<=intV v)
set_option maxHeartbeats 1000000 in
theorem rnumb_any (v:DVal) (S:Nat->Prop) (cs:List Value) (w:World) (hv:HasVal S w v cs):
 Calls Tryz.prog 45 #[.agg cs.toArray] w fun e' w'=>e'=.returned (.tuple #[.int .u64 ((ofI (intV v):Nat):Int),.bool (isNat v)])/\Below w.heap.size w w':=by
 obtain⟨vk,vb,vn,vs,vl,vf⟩:=v
 obtain⟨pl,cl,pf,cf,rfl,_⟩:=hasVal_mk.1 hv
 obtain⟨R,hR⟩:∃R,R=isNat (.mk vk vb vn vs vl vf):=⟨_,rfl⟩
 rw[←hR]
 have hR2:R=decide (vk=2/\0<=vn):=hR
 have HR:=hid hR2
 have hI:=wrap_ofI vn
 clear hv hR hR2
 show Calls Tryz.prog 45 #[.agg #[.int .u8 (vk:Int),.bool vb,.int .i64 vn,.string (bs vs),.slice pl vl.length cl,.slice pf vf.length cf]] w fun e' w'=>e'=.returned (.tuple #[.int .u64 ((ofI vn:Nat):Int),.bool R])/\Below w.heap.size w w'
 go_enter Tryz.func45,Tryz.ntmps45
 go_upto_region 1 with(fail)
 generalize hW0:World.alloc w _=W0
 have hb0:Below w.heap.size w W0:=by rw[←hW0];exact(Below.refl _ _).alloc (Nat.le_refl _) _
 have hd1:IsBlk W0 w.heap.size #[.int .u8 (vk:Int),.bool vb,.int .i64 vn,.string (bs vs),.slice pl vl.length cl,.slice pf vf.length cf] 52:=by rw[←hW0];exact IsBlk.new _ _ _
 have HB0:=hid hb0
 have hlt0:=hd1.lt
 have x0:=hd1.cell (i:=0) rfl
 have x1:=hd1.cell (i:=1) rfl
 have x2:=hd1.cell (i:=2) rfl
 have x3:=hd1.cell (i:=3) rfl
 have x4:=hd1.cell (i:=4) rfl
 have x5:=hd1.cell (i:=5) rfl
 clear hW0 hd1 hb0
 by_cases hk:vk=2
 case neg=>
  have hkb:((vk:Int)==2)=false:=by rw[beq_eq_false_iff_ne];omega
  have HR2:Hid (R=false):=hid (by rw[HR.out,decide_eq_false (fun h=>hk h.1)])
  clear hk
  refine mixB_start [] (Cls W0) (by kernel_rfl) (Cls.of ((Below.refl _ _).drew)) (fun hCw=>?_)
  refine mixB_flt (by kernel_rfl) [0,1,2,3,4,5,6,7,8,9,10,11,12] 0 _ _ hCw (by kernel_rfl) ?_
  simp only[opsAt,zo1,zo2,zo3,zo4,zo5]
  unfold Cls
  repeat(go_big_quiet_step (fail))
  refine wpQuiet_nil ?_
  (try rw[←Cls_def])
  refine mixB_end [] (by kernel_rfl) ?_
  refine wpList_nil ?_
  refine Calm.normal ?_
  have HB1:=hid (below_ext HB0.out hCw.below)
  clear hCw x0 x1 x2 x3 x4 x5
  go_wp2
  go_ret2
  exact⟨by rw[HR2.out];rfl,HB1.out⟩
 subst hk
 have HR2:Hid (R=decide (0<=vn)):=hid (by
  rw[HR.out,Bool.eq_iff_iff,decide_eq_true_iff,decide_eq_true_iff]
  exact⟨fun h=>h.2,fun h=>⟨rfl,h⟩⟩)
 refine mixB_start [] (Cls W0) (by kernel_rfl) (Cls.of ((Below.refl _ _).drew)) (fun hCw=>?_)
 refine mixB_flt (by kernel_rfl) [0,1,2,3,4,5,6,7,8,9,10,11,12] 0 _ _ hCw (by kernel_rfl) ?_
 simp only[opsAt,zo1,zo2,zo3,zo4,zo5]
 unfold Cls
 repeat(go_big_quiet_step (fail))
 refine wpQuiet_nil ?_
 (try rw[←Cls_def])
 refine mixB_end [] (by kernel_rfl) ?_
 refine wpList_nil ?_
 refine Calm.normal ?_
 have HB1:=hid (below_ext HB0.out hCw.below)
 clear hCw x0 x1 x2 x3 x4 x5
 go_wp2
 go_ret2
 exact⟨by rw[HR2.out];rfl,HB1.out⟩
theorem five_row {S:Nat->Prop} {w:World} {p:Option Addr} {a b c d e:DVal} (h:HasL S w p [a,b,c,d,e]):∃g o ca cb cc cd ce,p=some ⟨g,o,none⟩/\g<w.heap.size/\S g/\HasVal S w a ca/\HasVal S w b cb/\HasVal S w c cc/\HasVal S w d cd/\HasVal S w e ce∧
 CellsAt S w g o ca/\CellsAt S w g (o+6) cb/\CellsAt S w g (o+12) cc/\CellsAt S w g (o+18) cd/\CellsAt S w g (o+24) ce:=by
 obtain⟨g,o,ca,rfl,h1,h2⟩:=h 0 (by simp)
 obtain⟨g1,o1,cb,e1,h3,h4⟩:=h 1 (by simp)
 obtain⟨g2,o2,cc,e2,h5,h6⟩:=h 2 (by simp)
 obtain⟨g3,o3,cd,e3,h7,h8⟩:=h 3 (by simp)
 obtain⟨g4,o4,ce,e4,h9,h10⟩:=h 4 (by simp)
 simp only[Option.some.injEq,Addr.mk.injEq,and_true]at e1 e2 e3 e4
 obtain⟨rfl,rfl⟩:=e1
 obtain⟨rfl,rfl⟩:=e2
 obtain⟨rfl,rfl⟩:=e3
 obtain⟨rfl,rfl⟩:=e4
 exact⟨g,o,ca,cb,cc,cd,ce,rfl,h1.2.1,h1.1,h2,h4,h6,h8,h10,by simpa using h1,by simpa using h3,h5,h7,h9⟩
theorem list_five {l:List DVal} (h:l.length=5):∃a b c d e,l=[a,b,c,d,e]:=by
 match l,h with
 |[a,b,c,d,e],_=>exact⟨a,b,c,d,e,rfl⟩
theorem rread_any (s:List UInt8) (w:World) (hs:s.length<=1099511627776):Calls Tryz.prog 44 #[.string (bs s)] w (RdPost w (rdV s)):=by
 rw[←rdR_eq]
 exact ref_read_any s w hs
def RRevOut (s:List UInt8) (w:World) (e':Ending) (w':World):Prop:=∃(r:DRev) (ok:Bool) (cs:List Value),e'=.returned (.tuple #[.agg cs.toArray,.bool ok])/\HasRev (fun b=>w.heap.size<=b) w' r cs/\rrR s=(if ok then some r else none)/\Below w.heap.size w w'
theorem zrev_has (S:Nat->Prop) (w:World):HasRev S w .zero [.int .u8 0,.string ⟨#[]⟩,.int .u64 0,.int .u64 0,.int .u8 0,.bool false,.int .i64 0,.string ⟨#[]⟩,.slice none 0 0,.slice none 0 0]:=
 ⟨_,rfl,⟨by decide,by decide,by decide,by decide⟩,zero_has' S w⟩
theorem rrR_bad {s:List UInt8} (h:fiveP s=none):rrR s=none:=by unfold rrR;rw[h]
theorem five_bad1 {s:List UInt8} (h:(rdV s).2≠0\/kindV (rdV s).1≠5):fiveP s=none:=by unfold fiveP;rw[if_pos h]
theorem five_bad2 {s:List UInt8} (h:(listV (rdV s).1).length≠5):fiveP s=none:=by
 unfold fiveP
 split
 ·rfl
 ·split
  ·rename_i a b c d e he
   rw[he]at h
   exact absurd rfl h
  ·rfl
theorem five_good {s:List UInt8} {a b c d e:DVal} (h1:(rdV s).2=0) (h2:kindV (rdV s).1=5) (h3:listV (rdV s).1=[a,b,c,d,e]):fiveP s=some (a,b,c,d,e):=by
 unfold fiveP
 rw[if_neg (by omega),h3]
theorem isNat_natV {v:DVal} (hr:rngV v):natV v=if isNat v then some (ofI (intV v))else none:=by
 unfold isNat
 by_cases h:kindV v=2/\0<=intV v
 ·rw[decide_eq_true h,natV_of h.1 h.2 hr]
  rfl
 ·rw[decide_eq_false h]
  unfold natV
  rw[if_neg h]
  rfl
theorem rrR_five {s:List UInt8} {a b c d e:DVal} {A C D:Bool} {NA NC ND:Nat} (hf:fiveP s=some (a,b,c,d,e)) (h3:kindV b=3) (ha:natV a=if A then some NA else none) (hc:natV c=if C then some NC else none) (hd:natV d=if D then some ND else none):
 rrR s=if(A&&C&&D&&decide (NA<256))then some ⟨NA%256,strV b,NC,ND,e⟩else none:=by
 unfold rrR
 rw[hf]
 simp only
 rw[ha,hc,hd]
 cases A<;>cases C<;>cases D<;>try rfl
 simp only[if_true,Bool.true_and]
 by_cases h:NA<256
 ·rw[if_pos ⟨h3,h⟩,decide_eq_true h,Nat.mod_eq_of_lt h]
  rfl
 ·rw[if_neg (fun k=>h k.2),decide_eq_false h]
  rfl
set_option maxHeartbeats 4000000 in
theorem rreadRev_any (s:List UInt8) (w:World) (hs:s.length<=1099511627776):
 Calls Tryz.prog 46 #[.string (bs s)] w (RRevOut s w):=by
 have HRD:Hid (∀w',Calls Tryz.prog 44 #[.string (bs s)] w' (RdPost w' (rdV s))):=hid (fun w'=>rread_any s w' hs)
 have hb1:=five_bad1 (s:=s)
 have hb2:=five_bad2 (s:=s)
 have hgd:=fun a b c d e=>five_good (s:=s) (a:=a) (b:=b) (c:=c) (d:=d) (e:=e)
 generalize rdV s=r at HRD hb1 hb2 hgd
 obtain⟨v,why⟩:=r
 have HB1:=hid hb1
 have HB2:=hid hb2
 have HGD:=hid hgd
 clear hb1 hb2 hgd hs
 go_enter Tryz.func46,Tryz.ntmps46
 go_upto_region 1 with(fail)
 generalize hW0:World.alloc w _=W0
 have hb0:Below w.heap.size w W0:=by rw[←hW0];exact(Below.refl _ _).alloc (Nat.le_refl _) _
 have hz0:IsBlk W0 w.heap.size #[.int .u8 0,.string ⟨#[]⟩,.int .u64 0,.int .u64 0,.int .u8 0,.bool false,.int .i64 0,.string ⟨#[]⟩,.slice none 0 0,.slice none 0 0] 54:=by rw[←hW0];exact IsBlk.new _ _ _
 have HB0:=hid hb0
 have HZ:=hid hz0
 have hlt0:=hz0.lt
 clear hW0 hb0 hz0
 go_wp2_with fail
 go_at_call 44
 refine(HRD.out W0).mono ?_
 rintro e' w1 ⟨cs,rfl,hv,hb⟩
 obtain⟨vk,vb,vn,vs,vl,vf⟩:=v
 have hv':HasVal (fun b=>W0.heap.size<=b) w1 (.mk vk vb vn vs vl vf) cs:=hv
 obtain⟨pl,cl,pf,cf,rfl,hbd,hL,_⟩:=hasVal_mk.1 hv'
 have hvk:vk<256:=hbd.1
 have hll:vl.length<=1073741824:=hbd.2.2.2.2.1
 have hlc:vl.length<=cl:=hbd.2.2.2.2.2.2.1
 have hsz:=hb.size
 go_upto_region 2 with(fail)
 generalize hW2:World.alloc w1 _=W2
 have hb2:Below w1.heap.size w1 W2:=by rw[←hW2];exact(Below.refl _ _).alloc (Nat.le_refl _) _
 have hd2:IsBlk W2 w1.heap.size #[.int .u8 (vk:Int),.bool vb,.int .i64 vn,.string (bs vs),.slice pl vl.length cl,.slice pf vf.length cf] 52:=by rw[←hW2];exact IsBlk.new _ _ _
 have hb02:=below_ext hb hb2
 have hz2:=HZ.out.ext hb02
 have HB2':=hid (below_ext HB0.out hb02)
 have hL1:HasL (fun b=>W0.heap.size<=b/\b<w1.heap.size) w1 pl vl:=fun i hi=>by
  obtain⟨g,o,cs,e1,h2,h3⟩:=hL i hi
  exact⟨g,o,cs,e1,⟨⟨h2.1,h2.2.1⟩,h2.2⟩,relV.lt h3⟩
 have HL2:=hid (hL1.ext hb2)
 have HD2:=hid hd2
 have HZ2:=hid hz2
 have hltd:=hd2.lt
 have hltz:=hz2.lt
 have x0:=hd2.cell (i:=0) rfl
 have x1:=hd2.cell (i:=1) rfl
 have x2:=hd2.cell (i:=2) rfl
 have x3:=hd2.cell (i:=3) rfl
 have x4:=hd2.cell (i:=4) rfl
 have x5:=hd2.cell (i:=5) rfl
 have u0:=hz2.cell (i:=0) rfl
 have u1:=hz2.cell (i:=1) rfl
 have u2:=hz2.cell (i:=2) rfl
 have u3:=hz2.cell (i:=3) rfl
 have u4:=hz2.cell (i:=4) rfl
 have u5:=hz2.cell (i:=5) rfl
 have u6:=hz2.cell (i:=6) rfl
 have u7:=hz2.cell (i:=7) rfl
 have u8:=hz2.cell (i:=8) rfl
 have u9:=hz2.cell (i:=9) rfl
 have z0:=hz2.frozen 0
 have z1:=hz2.frozen 1
 have z2:=hz2.frozen 2
 have z3:=hz2.frozen 3
 have z4:=hz2.frozen 4
 have z5:=hz2.frozen 5
 have z6:=hz2.frozen 6
 have z7:=hz2.frozen 7
 have z8:=hz2.frozen 8
 have z9:=hz2.frozen 9
 obtain⟨n,hn⟩:∃n,n=vl.length:=⟨_,rfl⟩
 rw[←hn]at hll hlc x4
 have HN:=hid hn
 have hfin:=put_block (B:=w.heap.size) (w0:=w) (W:=W2) [.int .u8 0,.string ⟨#[]⟩,.int .u64 0,.int .u64 0,.int .u8 0,.bool false,.int .i64 0,.string ⟨#[]⟩,.slice none 0 0,.slice none 0 0] hz2 rfl (Nat.le_refl _) HB2'.out
 have HFIN:=hid hfin
 clear hW2 hb2 hd2 hb02 hz2 hv hv' hbd hL hL1 hb hfin hn
 by_cases hbad:why≠0\/vk≠5\/n≠5
 ·have HRR:Hid (rrR s=none):=hid (rrR_bad (by
   rcases hbad with h|h|h
   ·exact HB1.out (.inl h)
   ·exact HB1.out (.inr h)
   ·exact HB2.out (by have:=HN.out;show vl.length≠5;omega)))
  by_cases hw:why=0
  case neg=>
   have hwb:(why !=0)=true:=by rw[bne_iff_ne];exact hw
   clear hw hbad
   go_wp2
   refine bodyPost_ret (results_ct (p:=2) (u:=3) (ty:=54) Tryz.results46 rfl HFIN.out.1 Tryz.underlying54 rfl (by kernel_rfl) rfl) rfl ⟨.zero,false,_,rfl,zrev_has _ _,HRR.out,HFIN.out.2.1⟩
  subst hw
  by_cases hk:vk=5
  case neg=>
   have hwb:((vk:Int) !=5)=true:=by rw[bne_iff_ne];omega
   clear hk hbad
   go_wp2
   refine bodyPost_ret (results_ct (p:=2) (u:=3) (ty:=54) Tryz.results46 rfl HFIN.out.1 Tryz.underlying54 rfl (by kernel_rfl) rfl) rfl ⟨.zero,false,_,rfl,zrev_has _ _,HRR.out,HFIN.out.2.1⟩
  subst hk
  have hl:n≠5:=by simpa using hbad
  have hwb:((n:Int) !=5)=true:=by rw[bne_iff_ne];omega
  clear hl hbad
  go_wp2
  refine bodyPost_ret (results_ct (p:=2) (u:=3) (ty:=54) Tryz.results46 rfl HFIN.out.1 Tryz.underlying54 rfl (by kernel_rfl) rfl) rfl ⟨.zero,false,_,rfl,zrev_has _ _,HRR.out,HFIN.out.2.1⟩
 obtain⟨rfl,rfl,hn5⟩:why=0/\vk=5/\n=5:=by omega
 clear hbad
 obtain⟨a,b,c,d,e,hle⟩:=list_five (l:=vl) (by rw[←HN.out];exact hn5)
 subst hle
 subst hn5
 have HF:Hid (fiveP s=some (a,b,c,d,e)):=hid (HGD.out a b c d e rfl rfl rfl)
 obtain⟨g,o,ca,cb,cc,cd,ce,rfl,hg,hgS,va,vb',vc,vd,ve,ka,kb,kc,kd,ke⟩:=five_row HL2.out
 have HRA:Hid (rngV a/\rngV c/\rngV d):=hid ⟨va.rng,vc.rng,vd.rng⟩
 have HVA:=hid va
 have HVB:=hid vb'
 have HVC:=hid vc
 have HVD:=hid vd
 have HVE:=hid ve
 have HKA:=hid ka
 have HKB:=hid kb
 have HKC:=hid kc
 have HKD:=hid kd
 have HKE:=hid ke
 obtain⟨bk,bb,bn,bs',bl,bf⟩:=b
 obtain⟨bpl,bcl,bpf,bcf,rfl,hbb,_⟩:=hasVal_mk.1 vb'
 have hbk:bk<256:=hbb.1
 have hbsl:bs'.length<=1073741824:=hbb.2.2.2.1
 obtain⟨b0,b1,b2,b3,b4,b5⟩:=kb.six
 clear va vb' vc vd ve ka kb kc kd ke hbb HB1 HB2 HGD HL2
 by_cases hbk3:bk=3
 case neg=>
  have hwb:((bk:Int) !=3)=true:=by rw[bne_iff_ne];omega
  have HRR:Hid (rrR s=none):=hid (by
   unfold rrR
   rw[HF.out]
   simp only
   split
   ·rw[if_neg (fun h=>hbk3 h.1)]
   ·rfl)
  clear hbk3
  go_wp2
  refine bodyPost_ret (results_ct (p:=2) (u:=3) (ty:=54) Tryz.results46 rfl HFIN.out.1 Tryz.underlying54 rfl (by kernel_rfl) rfl) rfl ⟨.zero,false,_,rfl,zrev_has _ _,HRR.out,HFIN.out.2.1⟩
 subst hbk3
 have HNA:=hid (isNat_natV HRA.out.1)
 have HNC:=hid (isNat_natV HRA.out.2.1)
 have HND:=hid (isNat_natV HRA.out.2.2)
 obtain⟨ak,ab,an,as',al,af⟩:=a
 obtain⟨apl,acl,apf,acf,rfl,_⟩:=hasVal_mk.1 HVA.out
 obtain⟨a0,a1,a2,a3,a4,a5⟩:=HKA.out.six
 have hnb:((3:Int) !=3)=false:=rfl
 go_wp2_with fail
 go_at_call 45
 refine(rnumb_any _ _ _ W2 HVA.out).mono ?_
 rintro e' w3 ⟨rfl,hb3⟩
 have HB3:=hid hb3
 have hd3:=HD2.out.ext hb3
 have hsz3:=hb3.size
 have hkc:=HKC.out.kept (S':=fun _=>True) (w':=w3) (fun _ _=>trivial) (fun z _ hlt=>HB3.out.block z hlt)
 clear x0 x1 x2 x3 x4 x5 a0 a1 a2 a3 a4 a5 b0 b1 b2 b3 b4 b5 hb3 hnb u0 u1 u2 u3 u4 u5 u6 u7 u8 u9 z0 z1 z2 z3 z4 z5 z6 z7 z8 z9
 have hlt3:=hd3.lt
 have x0:=hd3.cell (i:=0) rfl
 have x1:=hd3.cell (i:=1) rfl
 have x2:=hd3.cell (i:=2) rfl
 have x3:=hd3.cell (i:=3) rfl
 have x4:=hd3.cell (i:=4) rfl
 have x5:=hd3.cell (i:=5) rfl
 obtain⟨ck,cb,cn,cs',cl',cf'⟩:=c
 obtain⟨cpl,ccl,cpf,ccf,rfl,_⟩:=hasVal_mk.1 HVC.out
 obtain⟨a0,a1,a2,a3,a4,a5⟩:=hkc.six
 have hg3:=hkc.2.1
 clear hd3 hkc
 go_wp2_with fail
 go_at_call 45
 refine(rnumb_any _ _ _ w3 (HVC.out.ext HB3.out)).mono ?_
 rintro e' w4 ⟨rfl,hb4⟩
 have HB4:=hid (below_ext HB3.out hb4)
 have hd4:=HD2.out.ext HB4.out
 have hsz4:=hb4.size
 have hkc:=HKD.out.kept (S':=fun _=>True) (w':=w4) (fun _ _=>trivial) (fun z _ hlt=>HB4.out.block z hlt)
 clear x0 x1 x2 x3 x4 x5 a0 a1 a2 a3 a4 a5 hb4 hlt3 hg3
 have hlt4:=hd4.lt
 have x0:=hd4.cell (i:=0) rfl
 have x1:=hd4.cell (i:=1) rfl
 have x2:=hd4.cell (i:=2) rfl
 have x3:=hd4.cell (i:=3) rfl
 have x4:=hd4.cell (i:=4) rfl
 have x5:=hd4.cell (i:=5) rfl
 obtain⟨dk,db,dn,ds',dl,df⟩:=d
 obtain⟨dpl,dcl,dpf,dcf,rfl,_⟩:=hasVal_mk.1 HVD.out
 obtain⟨a0,a1,a2,a3,a4,a5⟩:=hkc.six
 have hg4:=hkc.2.1
 clear hd4 hkc
 go_wp2_with fail
 go_at_call 45
 refine(rnumb_any _ _ _ w4 (HVD.out.ext HB4.out)).mono ?_
 rintro e' w5 ⟨rfl,hb5⟩
 have HB5:=hid (below_ext HB4.out hb5)
 have hd5:=HD2.out.ext HB5.out
 have hz5:=HZ2.out.ext HB5.out
 have hsz5:=hb5.size
 have hkc:=HKE.out.kept (S':=fun _=>True) (w':=w5) (fun _ _=>trivial) (fun z _ hlt=>HB5.out.block z hlt)
 have hkb:=HKB.out.kept (S':=fun _=>True) (w':=w5) (fun _ _=>trivial) (fun z _ hlt=>HB5.out.block z hlt)
 clear x0 x1 x2 x3 x4 x5 a0 a1 a2 a3 a4 a5 hb5 hlt4 hg4
 have hlt5:=hd5.lt
 have hltz5:=hz5.lt
 have x0:=hd5.cell (i:=0) rfl
 have x1:=hd5.cell (i:=1) rfl
 have x2:=hd5.cell (i:=2) rfl
 have x3:=hd5.cell (i:=3) rfl
 have x4:=hd5.cell (i:=4) rfl
 have x5:=hd5.cell (i:=5) rfl
 obtain⟨ek,eb,en,es,el,ef⟩:=e
 obtain⟨epl,ecl,epf,ecf,rfl,_⟩:=hasVal_mk.1 HVE.out
 obtain⟨a0,a1,a2,a3,a4,a5⟩:=hkc.six
 obtain⟨b0,b1,b2,b3,b4,b5⟩:=hkb.six
 have hg5:=hkc.2.1
 have hne1:w1.heap.size≠w.heap.size:=by omega
 have hne2:g≠w.heap.size:=by omega
 have hog1:Og w.heap.size w5 w1.heap.size:=⟨hlt5,hne1⟩
 have hog2:Og w.heap.size w5 g:=⟨hg5,hne2⟩
 have HBF:Hid (Below w.heap.size w w5):=hid (HB2'.out.trans (HB5.out.mono (by have:=HB2'.out.size;omega)))
 have HZF:=hid hz5
 obtain⟨A,hA⟩:∃A,A=isNat (.mk ak ab an as' al af):=⟨_,rfl⟩
 obtain⟨C,hC⟩:∃C,C=isNat (.mk ck cb cn cs' cl' cf'):=⟨_,rfl⟩
 obtain⟨D,hD⟩:∃D,D=isNat (.mk dk db dn ds' dl df):=⟨_,rfl⟩
 rw[←hA,←hC,←hD]
 obtain⟨NA,hNA⟩:∃NA,NA=ofI (intV (.mk ak ab an as' al af)):=⟨_,rfl⟩
 obtain⟨NC,hNC⟩:∃NC,NC=ofI (intV (.mk ck cb cn cs' cl' cf')):=⟨_,rfl⟩
 obtain⟨ND,hND⟩:∃ND,ND=ofI (intV (.mk dk db dn ds' dl df)):=⟨_,rfl⟩
 rw[←hNA,←hNC,←hND]
 have hNCl:NC<18446744073709551616:=by rw[hNC];unfold ofI;omega
 have hNDl:ND<18446744073709551616:=by rw[hND];unfold ofI;omega
 have hNAl:NA<18446744073709551616:=by rw[hNA];unfold ofI;omega
 have HRR:Hid (rrR s=if(A&&C&&D&&decide (NA<256))then some ⟨NA%256,bs',NC,ND,.mk ek eb en es el ef⟩else none):=hid (by
  rw[hNA,hNC,hND,hA,hC,hD]
  exact rrR_five HF.out rfl HNA.out HNC.out HND.out)
 have HV5:=hid (HVE.out.ext HB5.out)
 clear hA hC hD hNA hNC hND hd5 hz5 hkc hkb HF HNA HNC HND HVA HVB HVC HVD HVE HKA HKB HKC HKD HKE HRA HZ2 HFIN HD2
 by_cases hlt:NA<256
 ·have HLT:=hid hlt
  have hltI:(NA:Int)<256:=by omega
  clear hlt
  cases A with
  |false=>
   go_upto_region 7 with(fail)
   refine mixB_start [] (ClsG w.heap.size w5) (by kernel_rfl) (ClsG.drew w.heap.size w5) (fun hCw=>?_)
   refine mixB_flt (by kernel_rfl) [0,1,2,3,4,5,6,7,8,9,10,11,12,13,14,15,16,17,18,19,20,21,22,23,24] 2 _ _ hCw (by kernel_rfl) ?_
   simp only[opsAt,zo1,zo2,zo3,zo4,zo5]
   unfold ClsG
   repeat(go_big_quiet_step (fail))
   refine wpQuiet_nil ?_
   (try rw[←ClsG_def])
   refine mixB_ch (i:=25) (fuel:=1) (by kernel_rfl) (by kernel_rfl) ?_
   simp only[opsAt,zo1,zo2,zo3,zo4,zo5]
   generalize hWD:({w5 with drawn:=w5.drawn+1}:World)=WD at hCw⊢
   have hzd:IsBlk WD w.heap.size #[.int .u8 0,.string ⟨#[]⟩,.int .u64 0,.int .u64 0,.int .u8 0,.bool false,.int .i64 0,.string ⟨#[]⟩,.slice none 0 0,.slice none 0 0] 54:=by rw[←hWD];exact HZF.out
   have hbd:Below w.heap.size w WD:=by rw[←hWD];exact HBF.out.drew
   have HVD:Hid (HasVal (fun b=>W0.heap.size<=b/\b<w1.heap.size) WD (.mk ek eb en es el ef) [.int .u8 (ek:Int),.bool eb,.int .i64 en,.string (bs es),.slice epl el.length ecl,.slice epf ef.length ecf]):=hid (by rw[←hWD];exact HV5.out.ext_to (fun _ h=>h) (fun _ _ _=>rfl))
   clear hWD
   have HFIN:=hid (put_block (B:=w.heap.size) (w0:=w) (W:=WD) [.int .u8 ((NA:Nat):Int),.string (bs bs'),.int .u64 (NC:Int),.int .u64 (ND:Int),.int .u8 (ek:Int),.bool eb,.int .i64 en,.string (bs es),.slice epl el.length ecl,.slice epf ef.length ecf] hzd rfl (Nat.le_refl _) hbd)
   have u0:=hzd.cell (i:=0) rfl
   have u1:=hzd.cell (i:=1) rfl
   have u2:=hzd.cell (i:=2) rfl
   have u3:=hzd.cell (i:=3) rfl
   have u4:=hzd.cell (i:=4) rfl
   have u5:=hzd.cell (i:=5) rfl
   have u6:=hzd.cell (i:=6) rfl
   have u7:=hzd.cell (i:=7) rfl
   have u8:=hzd.cell (i:=8) rfl
   have u9:=hzd.cell (i:=9) rfl
   have z0:=hzd.frozen 0
   have z1:=hzd.frozen 1
   have z2:=hzd.frozen 2
   have z3:=hzd.frozen 3
   have z4:=hzd.frozen 4
   have z5:=hzd.frozen 5
   have z6:=hzd.frozen 6
   have z7:=hzd.frozen 7
   have z8:=hzd.frozen 8
   have z9:=hzd.frozen 9
   clear hzd hbd
   go_wp2_with(fail)
   refine ThenB.mk (hCw.trans (keptG_cells w.heap.size WD [.int .u8 ((NA:Nat):Int),.string (bs bs'),.int .u64 (NC:Int),.int .u64 (ND:Int),.int .u8 (ek:Int),.bool eb,.int .i64 en,.string (bs es),.slice epl el.length ecl,.slice epf ef.length ecf])) (fun hCw=>?_)
   refine mixB_flt (by kernel_rfl) [26] 0 _ _ hCw (by kernel_rfl) ?_
   simp only[opsAt,zo1,zo2,zo3,zo4,zo5]
   unfold ClsG
   repeat(go_big_quiet_step (fail))
   refine wpQuiet_nil ?_
   (try rw[←ClsG_def])
   refine mixB_end [] (by kernel_rfl) ?_
   refine wpList_nil ?_
   refine Calm.normal ?_
   clear hCw
   go_wp2
   refine bodyPost_ret (results_ct (p:=2) (u:=3) (ty:=54) Tryz.results46 rfl HFIN.out.1 Tryz.underlying54 rfl (by kernel_rfl) rfl) rfl ?_
   refine⟨⟨NA,bs',NC,ND,.mk ek eb en es el ef⟩,false,[.int .u8 ((NA:Nat):Int),.string (bs bs'),.int .u64 (NC:Int),.int .u64 (ND:Int),.int .u8 (ek:Int),.bool eb,.int .i64 en,.string (bs es),.slice epl el.length ecl,.slice epf ef.length ecf],rfl,⟨_,rfl,⟨by show NA<256;omega,hbsl,hNCl,hNDl⟩,HVD.out.ext_to (fun b hb=>by omega) (fun b hb _=>HFIN.out.2.2 b (by omega))⟩,?_,HFIN.out.2.1⟩
   rw[HRR.out];rfl
  |true=>
  cases C with
  |false=>
   go_upto_region 7 with(fail)
   refine mixB_start [] (ClsG w.heap.size w5) (by kernel_rfl) (ClsG.drew w.heap.size w5) (fun hCw=>?_)
   refine mixB_flt (by kernel_rfl) [0,1,2,3,4,5,6,7,8,9,10,11,12,13,14,15,16,17,18,19,20,21,22,23,24] 2 _ _ hCw (by kernel_rfl) ?_
   simp only[opsAt,zo1,zo2,zo3,zo4,zo5]
   unfold ClsG
   repeat(go_big_quiet_step (fail))
   refine wpQuiet_nil ?_
   (try rw[←ClsG_def])
   refine mixB_ch (i:=25) (fuel:=1) (by kernel_rfl) (by kernel_rfl) ?_
   simp only[opsAt,zo1,zo2,zo3,zo4,zo5]
   generalize hWD:({w5 with drawn:=w5.drawn+1}:World)=WD at hCw⊢
   have hzd:IsBlk WD w.heap.size #[.int .u8 0,.string ⟨#[]⟩,.int .u64 0,.int .u64 0,.int .u8 0,.bool false,.int .i64 0,.string ⟨#[]⟩,.slice none 0 0,.slice none 0 0] 54:=by rw[←hWD];exact HZF.out
   have hbd:Below w.heap.size w WD:=by rw[←hWD];exact HBF.out.drew
   have HVD:Hid (HasVal (fun b=>W0.heap.size<=b/\b<w1.heap.size) WD (.mk ek eb en es el ef) [.int .u8 (ek:Int),.bool eb,.int .i64 en,.string (bs es),.slice epl el.length ecl,.slice epf ef.length ecf]):=hid (by rw[←hWD];exact HV5.out.ext_to (fun _ h=>h) (fun _ _ _=>rfl))
   clear hWD
   have HFIN:=hid (put_block (B:=w.heap.size) (w0:=w) (W:=WD) [.int .u8 ((NA:Nat):Int),.string (bs bs'),.int .u64 (NC:Int),.int .u64 (ND:Int),.int .u8 (ek:Int),.bool eb,.int .i64 en,.string (bs es),.slice epl el.length ecl,.slice epf ef.length ecf] hzd rfl (Nat.le_refl _) hbd)
   have u0:=hzd.cell (i:=0) rfl
   have u1:=hzd.cell (i:=1) rfl
   have u2:=hzd.cell (i:=2) rfl
   have u3:=hzd.cell (i:=3) rfl
   have u4:=hzd.cell (i:=4) rfl
   have u5:=hzd.cell (i:=5) rfl
   have u6:=hzd.cell (i:=6) rfl
   have u7:=hzd.cell (i:=7) rfl
   have u8:=hzd.cell (i:=8) rfl
   have u9:=hzd.cell (i:=9) rfl
   have z0:=hzd.frozen 0
   have z1:=hzd.frozen 1
   have z2:=hzd.frozen 2
   have z3:=hzd.frozen 3
   have z4:=hzd.frozen 4
   have z5:=hzd.frozen 5
   have z6:=hzd.frozen 6
   have z7:=hzd.frozen 7
   have z8:=hzd.frozen 8
   have z9:=hzd.frozen 9
   clear hzd hbd
   go_wp2_with(fail)
   refine ThenB.mk (hCw.trans (keptG_cells w.heap.size WD [.int .u8 ((NA:Nat):Int),.string (bs bs'),.int .u64 (NC:Int),.int .u64 (ND:Int),.int .u8 (ek:Int),.bool eb,.int .i64 en,.string (bs es),.slice epl el.length ecl,.slice epf ef.length ecf])) (fun hCw=>?_)
   refine mixB_flt (by kernel_rfl) [26] 0 _ _ hCw (by kernel_rfl) ?_
   simp only[opsAt,zo1,zo2,zo3,zo4,zo5]
   unfold ClsG
   repeat(go_big_quiet_step (fail))
   refine wpQuiet_nil ?_
   (try rw[←ClsG_def])
   refine mixB_end [] (by kernel_rfl) ?_
   refine wpList_nil ?_
   refine Calm.normal ?_
   clear hCw
   go_wp2
   refine bodyPost_ret (results_ct (p:=2) (u:=3) (ty:=54) Tryz.results46 rfl HFIN.out.1 Tryz.underlying54 rfl (by kernel_rfl) rfl) rfl ?_
   refine⟨⟨NA,bs',NC,ND,.mk ek eb en es el ef⟩,false,[.int .u8 ((NA:Nat):Int),.string (bs bs'),.int .u64 (NC:Int),.int .u64 (ND:Int),.int .u8 (ek:Int),.bool eb,.int .i64 en,.string (bs es),.slice epl el.length ecl,.slice epf ef.length ecf],rfl,⟨_,rfl,⟨by show NA<256;omega,hbsl,hNCl,hNDl⟩,HVD.out.ext_to (fun b hb=>by omega) (fun b hb _=>HFIN.out.2.2 b (by omega))⟩,?_,HFIN.out.2.1⟩
   rw[HRR.out];rfl
  |true=>
  cases D with
  |false=>
   go_upto_region 7 with(fail)
   refine mixB_start [] (ClsG w.heap.size w5) (by kernel_rfl) (ClsG.drew w.heap.size w5) (fun hCw=>?_)
   refine mixB_flt (by kernel_rfl) [0,1,2,3,4,5,6,7,8,9,10,11,12,13,14,15,16,17,18,19,20,21,22,23,24] 2 _ _ hCw (by kernel_rfl) ?_
   simp only[opsAt,zo1,zo2,zo3,zo4,zo5]
   unfold ClsG
   repeat(go_big_quiet_step (fail))
   refine wpQuiet_nil ?_
   (try rw[←ClsG_def])
   refine mixB_ch (i:=25) (fuel:=1) (by kernel_rfl) (by kernel_rfl) ?_
   simp only[opsAt,zo1,zo2,zo3,zo4,zo5]
   generalize hWD:({w5 with drawn:=w5.drawn+1}:World)=WD at hCw⊢
   have hzd:IsBlk WD w.heap.size #[.int .u8 0,.string ⟨#[]⟩,.int .u64 0,.int .u64 0,.int .u8 0,.bool false,.int .i64 0,.string ⟨#[]⟩,.slice none 0 0,.slice none 0 0] 54:=by rw[←hWD];exact HZF.out
   have hbd:Below w.heap.size w WD:=by rw[←hWD];exact HBF.out.drew
   have HVD:Hid (HasVal (fun b=>W0.heap.size<=b/\b<w1.heap.size) WD (.mk ek eb en es el ef) [.int .u8 (ek:Int),.bool eb,.int .i64 en,.string (bs es),.slice epl el.length ecl,.slice epf ef.length ecf]):=hid (by rw[←hWD];exact HV5.out.ext_to (fun _ h=>h) (fun _ _ _=>rfl))
   clear hWD
   have HFIN:=hid (put_block (B:=w.heap.size) (w0:=w) (W:=WD) [.int .u8 ((NA:Nat):Int),.string (bs bs'),.int .u64 (NC:Int),.int .u64 (ND:Int),.int .u8 (ek:Int),.bool eb,.int .i64 en,.string (bs es),.slice epl el.length ecl,.slice epf ef.length ecf] hzd rfl (Nat.le_refl _) hbd)
   have u0:=hzd.cell (i:=0) rfl
   have u1:=hzd.cell (i:=1) rfl
   have u2:=hzd.cell (i:=2) rfl
   have u3:=hzd.cell (i:=3) rfl
   have u4:=hzd.cell (i:=4) rfl
   have u5:=hzd.cell (i:=5) rfl
   have u6:=hzd.cell (i:=6) rfl
   have u7:=hzd.cell (i:=7) rfl
   have u8:=hzd.cell (i:=8) rfl
   have u9:=hzd.cell (i:=9) rfl
   have z0:=hzd.frozen 0
   have z1:=hzd.frozen 1
   have z2:=hzd.frozen 2
   have z3:=hzd.frozen 3
   have z4:=hzd.frozen 4
   have z5:=hzd.frozen 5
   have z6:=hzd.frozen 6
   have z7:=hzd.frozen 7
   have z8:=hzd.frozen 8
   have z9:=hzd.frozen 9
   clear hzd hbd
   go_wp2_with(fail)
   refine ThenB.mk (hCw.trans (keptG_cells w.heap.size WD [.int .u8 ((NA:Nat):Int),.string (bs bs'),.int .u64 (NC:Int),.int .u64 (ND:Int),.int .u8 (ek:Int),.bool eb,.int .i64 en,.string (bs es),.slice epl el.length ecl,.slice epf ef.length ecf])) (fun hCw=>?_)
   refine mixB_flt (by kernel_rfl) [26] 0 _ _ hCw (by kernel_rfl) ?_
   simp only[opsAt,zo1,zo2,zo3,zo4,zo5]
   unfold ClsG
   repeat(go_big_quiet_step (fail))
   refine wpQuiet_nil ?_
   (try rw[←ClsG_def])
   refine mixB_end [] (by kernel_rfl) ?_
   refine wpList_nil ?_
   refine Calm.normal ?_
   clear hCw
   go_wp2
   refine bodyPost_ret (results_ct (p:=2) (u:=3) (ty:=54) Tryz.results46 rfl HFIN.out.1 Tryz.underlying54 rfl (by kernel_rfl) rfl) rfl ?_
   refine⟨⟨NA,bs',NC,ND,.mk ek eb en es el ef⟩,false,[.int .u8 ((NA:Nat):Int),.string (bs bs'),.int .u64 (NC:Int),.int .u64 (ND:Int),.int .u8 (ek:Int),.bool eb,.int .i64 en,.string (bs es),.slice epl el.length ecl,.slice epf ef.length ecf],rfl,⟨_,rfl,⟨by show NA<256;omega,hbsl,hNCl,hNDl⟩,HVD.out.ext_to (fun b hb=>by omega) (fun b hb _=>HFIN.out.2.2 b (by omega))⟩,?_,HFIN.out.2.1⟩
   rw[HRR.out];rfl
  |true=>
   go_upto_region 7 with(fail)
   refine mixB_start [] (ClsG w.heap.size w5) (by kernel_rfl) (ClsG.drew w.heap.size w5) (fun hCw=>?_)
   refine mixB_flt (by kernel_rfl) [0,1,2,3,4,5,6,7,8,9,10,11,12,13,14,15,16,17,18,19,20,21,22,23,24] 2 _ _ hCw (by kernel_rfl) ?_
   simp only[opsAt,zo1,zo2,zo3,zo4,zo5]
   unfold ClsG
   repeat(go_big_quiet_step (fail))
   refine wpQuiet_nil ?_
   (try rw[←ClsG_def])
   refine mixB_ch (i:=25) (fuel:=1) (by kernel_rfl) (by kernel_rfl) ?_
   simp only[opsAt,zo1,zo2,zo3,zo4,zo5]
   generalize hWD:({w5 with drawn:=w5.drawn+1}:World)=WD at hCw⊢
   have hzd:IsBlk WD w.heap.size #[.int .u8 0,.string ⟨#[]⟩,.int .u64 0,.int .u64 0,.int .u8 0,.bool false,.int .i64 0,.string ⟨#[]⟩,.slice none 0 0,.slice none 0 0] 54:=by rw[←hWD];exact HZF.out
   have hbd:Below w.heap.size w WD:=by rw[←hWD];exact HBF.out.drew
   have HVD:Hid (HasVal (fun b=>W0.heap.size<=b/\b<w1.heap.size) WD (.mk ek eb en es el ef) [.int .u8 (ek:Int),.bool eb,.int .i64 en,.string (bs es),.slice epl el.length ecl,.slice epf ef.length ecf]):=hid (by rw[←hWD];exact HV5.out.ext_to (fun _ h=>h) (fun _ _ _=>rfl))
   clear hWD
   have HFIN:=hid (put_block (B:=w.heap.size) (w0:=w) (W:=WD) [.int .u8 ((NA:Nat):Int),.string (bs bs'),.int .u64 (NC:Int),.int .u64 (ND:Int),.int .u8 (ek:Int),.bool eb,.int .i64 en,.string (bs es),.slice epl el.length ecl,.slice epf ef.length ecf] hzd rfl (Nat.le_refl _) hbd)
   have u0:=hzd.cell (i:=0) rfl
   have u1:=hzd.cell (i:=1) rfl
   have u2:=hzd.cell (i:=2) rfl
   have u3:=hzd.cell (i:=3) rfl
   have u4:=hzd.cell (i:=4) rfl
   have u5:=hzd.cell (i:=5) rfl
   have u6:=hzd.cell (i:=6) rfl
   have u7:=hzd.cell (i:=7) rfl
   have u8:=hzd.cell (i:=8) rfl
   have u9:=hzd.cell (i:=9) rfl
   have z0:=hzd.frozen 0
   have z1:=hzd.frozen 1
   have z2:=hzd.frozen 2
   have z3:=hzd.frozen 3
   have z4:=hzd.frozen 4
   have z5:=hzd.frozen 5
   have z6:=hzd.frozen 6
   have z7:=hzd.frozen 7
   have z8:=hzd.frozen 8
   have z9:=hzd.frozen 9
   clear hzd hbd
   go_wp2_with(fail)
   refine ThenB.mk (hCw.trans (keptG_cells w.heap.size WD [.int .u8 ((NA:Nat):Int),.string (bs bs'),.int .u64 (NC:Int),.int .u64 (ND:Int),.int .u8 (ek:Int),.bool eb,.int .i64 en,.string (bs es),.slice epl el.length ecl,.slice epf ef.length ecf])) (fun hCw=>?_)
   refine mixB_flt (by kernel_rfl) [26] 0 _ _ hCw (by kernel_rfl) ?_
   simp only[opsAt,zo1,zo2,zo3,zo4,zo5]
   unfold ClsG
   repeat(go_big_quiet_step (fail))
   refine wpQuiet_nil ?_
   (try rw[←ClsG_def])
   refine mixB_end [] (by kernel_rfl) ?_
   refine wpList_nil ?_
   refine Calm.normal ?_
   clear hCw
   go_wp2
   refine bodyPost_ret (results_ct (p:=2) (u:=3) (ty:=54) Tryz.results46 rfl HFIN.out.1 Tryz.underlying54 rfl (by kernel_rfl) rfl) rfl ?_
   refine⟨⟨NA,bs',NC,ND,.mk ek eb en es el ef⟩,true,[.int .u8 ((NA:Nat):Int),.string (bs bs'),.int .u64 (NC:Int),.int .u64 (ND:Int),.int .u8 (ek:Int),.bool eb,.int .i64 en,.string (bs es),.slice epl el.length ecl,.slice epf ef.length ecf],rfl,⟨_,rfl,⟨by show NA<256;omega,hbsl,hNCl,hNDl⟩,HVD.out.ext_to (fun b hb=>by omega) (fun b hb _=>HFIN.out.2.2 b (by omega))⟩,?_,HFIN.out.2.1⟩
   rw[HRR.out,decide_eq_true HLT.out,Nat.mod_eq_of_lt HLT.out];rfl
 ·have HLT:=hid hlt
  have hltI:(256:Int)<=(NA:Int):=by omega
  have hltD:decide ((NA:Int)<256)=false:=decide_eq_false (by omega)
  clear hlt
  cases A with
  |false=>
   go_upto_region 7 with(fail)
   refine mixB_start [] (ClsG w.heap.size w5) (by kernel_rfl) (ClsG.drew w.heap.size w5) (fun hCw=>?_)
   refine mixB_flt (by kernel_rfl) [0,1,2,3,4,5,6,7,8,9,10,11,12,13,14,15,16,17,18,19,20,21,22,23,24] 2 _ _ hCw (by kernel_rfl) ?_
   simp only[opsAt,zo1,zo2,zo3,zo4,zo5]
   unfold ClsG
   repeat(go_big_quiet_step (fail))
   refine wpQuiet_nil ?_
   (try rw[←ClsG_def])
   refine mixB_ch (i:=25) (fuel:=1) (by kernel_rfl) (by kernel_rfl) ?_
   simp only[opsAt,zo1,zo2,zo3,zo4,zo5]
   generalize hWD:({w5 with drawn:=w5.drawn+1}:World)=WD at hCw⊢
   have hzd:IsBlk WD w.heap.size #[.int .u8 0,.string ⟨#[]⟩,.int .u64 0,.int .u64 0,.int .u8 0,.bool false,.int .i64 0,.string ⟨#[]⟩,.slice none 0 0,.slice none 0 0] 54:=by rw[←hWD];exact HZF.out
   have hbd:Below w.heap.size w WD:=by rw[←hWD];exact HBF.out.drew
   have HVD:Hid (HasVal (fun b=>W0.heap.size<=b/\b<w1.heap.size) WD (.mk ek eb en es el ef) [.int .u8 (ek:Int),.bool eb,.int .i64 en,.string (bs es),.slice epl el.length ecl,.slice epf ef.length ecf]):=hid (by rw[←hWD];exact HV5.out.ext_to (fun _ h=>h) (fun _ _ _=>rfl))
   clear hWD
   have HFIN:=hid (put_block (B:=w.heap.size) (w0:=w) (W:=WD) [.int .u8 ((NA:Int)%256),.string (bs bs'),.int .u64 (NC:Int),.int .u64 (ND:Int),.int .u8 (ek:Int),.bool eb,.int .i64 en,.string (bs es),.slice epl el.length ecl,.slice epf ef.length ecf] hzd rfl (Nat.le_refl _) hbd)
   have u0:=hzd.cell (i:=0) rfl
   have u1:=hzd.cell (i:=1) rfl
   have u2:=hzd.cell (i:=2) rfl
   have u3:=hzd.cell (i:=3) rfl
   have u4:=hzd.cell (i:=4) rfl
   have u5:=hzd.cell (i:=5) rfl
   have u6:=hzd.cell (i:=6) rfl
   have u7:=hzd.cell (i:=7) rfl
   have u8:=hzd.cell (i:=8) rfl
   have u9:=hzd.cell (i:=9) rfl
   have z0:=hzd.frozen 0
   have z1:=hzd.frozen 1
   have z2:=hzd.frozen 2
   have z3:=hzd.frozen 3
   have z4:=hzd.frozen 4
   have z5:=hzd.frozen 5
   have z6:=hzd.frozen 6
   have z7:=hzd.frozen 7
   have z8:=hzd.frozen 8
   have z9:=hzd.frozen 9
   clear hzd hbd
   go_wp2_with(fail)
   refine ThenB.mk (hCw.trans (keptG_cells w.heap.size WD [.int .u8 ((NA:Int)%256),.string (bs bs'),.int .u64 (NC:Int),.int .u64 (ND:Int),.int .u8 (ek:Int),.bool eb,.int .i64 en,.string (bs es),.slice epl el.length ecl,.slice epf ef.length ecf])) (fun hCw=>?_)
   refine mixB_flt (by kernel_rfl) [26] 0 _ _ hCw (by kernel_rfl) ?_
   simp only[opsAt,zo1,zo2,zo3,zo4,zo5]
   unfold ClsG
   repeat(go_big_quiet_step (fail))
   refine wpQuiet_nil ?_
   (try rw[←ClsG_def])
   refine mixB_end [] (by kernel_rfl) ?_
   refine wpList_nil ?_
   refine Calm.normal ?_
   clear hCw
   go_wp2
   refine bodyPost_ret (results_ct (p:=2) (u:=3) (ty:=54) Tryz.results46 rfl HFIN.out.1 Tryz.underlying54 rfl (by kernel_rfl) rfl) rfl ?_
   refine⟨⟨NA%256,bs',NC,ND,.mk ek eb en es el ef⟩,false,[.int .u8 ((NA:Int)%256),.string (bs bs'),.int .u64 (NC:Int),.int .u64 (ND:Int),.int .u8 (ek:Int),.bool eb,.int .i64 en,.string (bs es),.slice epl el.length ecl,.slice epf ef.length ecf],rfl,⟨_,rfl,⟨by show NA%256<256;omega,hbsl,hNCl,hNDl⟩,HVD.out.ext_to (fun b hb=>by omega) (fun b hb _=>HFIN.out.2.2 b (by omega))⟩,?_,HFIN.out.2.1⟩
   rw[HRR.out];rfl
  |true=>
  cases C with
  |false=>
   go_upto_region 7 with(fail)
   refine mixB_start [] (ClsG w.heap.size w5) (by kernel_rfl) (ClsG.drew w.heap.size w5) (fun hCw=>?_)
   refine mixB_flt (by kernel_rfl) [0,1,2,3,4,5,6,7,8,9,10,11,12,13,14,15,16,17,18,19,20,21,22,23,24] 2 _ _ hCw (by kernel_rfl) ?_
   simp only[opsAt,zo1,zo2,zo3,zo4,zo5]
   unfold ClsG
   repeat(go_big_quiet_step (fail))
   refine wpQuiet_nil ?_
   (try rw[←ClsG_def])
   refine mixB_ch (i:=25) (fuel:=1) (by kernel_rfl) (by kernel_rfl) ?_
   simp only[opsAt,zo1,zo2,zo3,zo4,zo5]
   generalize hWD:({w5 with drawn:=w5.drawn+1}:World)=WD at hCw⊢
   have hzd:IsBlk WD w.heap.size #[.int .u8 0,.string ⟨#[]⟩,.int .u64 0,.int .u64 0,.int .u8 0,.bool false,.int .i64 0,.string ⟨#[]⟩,.slice none 0 0,.slice none 0 0] 54:=by rw[←hWD];exact HZF.out
   have hbd:Below w.heap.size w WD:=by rw[←hWD];exact HBF.out.drew
   have HVD:Hid (HasVal (fun b=>W0.heap.size<=b/\b<w1.heap.size) WD (.mk ek eb en es el ef) [.int .u8 (ek:Int),.bool eb,.int .i64 en,.string (bs es),.slice epl el.length ecl,.slice epf ef.length ecf]):=hid (by rw[←hWD];exact HV5.out.ext_to (fun _ h=>h) (fun _ _ _=>rfl))
   clear hWD
   have HFIN:=hid (put_block (B:=w.heap.size) (w0:=w) (W:=WD) [.int .u8 ((NA:Int)%256),.string (bs bs'),.int .u64 (NC:Int),.int .u64 (ND:Int),.int .u8 (ek:Int),.bool eb,.int .i64 en,.string (bs es),.slice epl el.length ecl,.slice epf ef.length ecf] hzd rfl (Nat.le_refl _) hbd)
   have u0:=hzd.cell (i:=0) rfl
   have u1:=hzd.cell (i:=1) rfl
   have u2:=hzd.cell (i:=2) rfl
   have u3:=hzd.cell (i:=3) rfl
   have u4:=hzd.cell (i:=4) rfl
   have u5:=hzd.cell (i:=5) rfl
   have u6:=hzd.cell (i:=6) rfl
   have u7:=hzd.cell (i:=7) rfl
   have u8:=hzd.cell (i:=8) rfl
   have u9:=hzd.cell (i:=9) rfl
   have z0:=hzd.frozen 0
   have z1:=hzd.frozen 1
   have z2:=hzd.frozen 2
   have z3:=hzd.frozen 3
   have z4:=hzd.frozen 4
   have z5:=hzd.frozen 5
   have z6:=hzd.frozen 6
   have z7:=hzd.frozen 7
   have z8:=hzd.frozen 8
   have z9:=hzd.frozen 9
   clear hzd hbd
   go_wp2_with(fail)
   refine ThenB.mk (hCw.trans (keptG_cells w.heap.size WD [.int .u8 ((NA:Int)%256),.string (bs bs'),.int .u64 (NC:Int),.int .u64 (ND:Int),.int .u8 (ek:Int),.bool eb,.int .i64 en,.string (bs es),.slice epl el.length ecl,.slice epf ef.length ecf])) (fun hCw=>?_)
   refine mixB_flt (by kernel_rfl) [26] 0 _ _ hCw (by kernel_rfl) ?_
   simp only[opsAt,zo1,zo2,zo3,zo4,zo5]
   unfold ClsG
   repeat(go_big_quiet_step (fail))
   refine wpQuiet_nil ?_
   (try rw[←ClsG_def])
   refine mixB_end [] (by kernel_rfl) ?_
   refine wpList_nil ?_
   refine Calm.normal ?_
   clear hCw
   go_wp2
   refine bodyPost_ret (results_ct (p:=2) (u:=3) (ty:=54) Tryz.results46 rfl HFIN.out.1 Tryz.underlying54 rfl (by kernel_rfl) rfl) rfl ?_
   refine⟨⟨NA%256,bs',NC,ND,.mk ek eb en es el ef⟩,false,[.int .u8 ((NA:Int)%256),.string (bs bs'),.int .u64 (NC:Int),.int .u64 (ND:Int),.int .u8 (ek:Int),.bool eb,.int .i64 en,.string (bs es),.slice epl el.length ecl,.slice epf ef.length ecf],rfl,⟨_,rfl,⟨by show NA%256<256;omega,hbsl,hNCl,hNDl⟩,HVD.out.ext_to (fun b hb=>by omega) (fun b hb _=>HFIN.out.2.2 b (by omega))⟩,?_,HFIN.out.2.1⟩
   rw[HRR.out];rfl
  |true=>
  cases D with
  |false=>
   go_upto_region 7 with(fail)
   refine mixB_start [] (ClsG w.heap.size w5) (by kernel_rfl) (ClsG.drew w.heap.size w5) (fun hCw=>?_)
   refine mixB_flt (by kernel_rfl) [0,1,2,3,4,5,6,7,8,9,10,11,12,13,14,15,16,17,18,19,20,21,22,23,24] 2 _ _ hCw (by kernel_rfl) ?_
   simp only[opsAt,zo1,zo2,zo3,zo4,zo5]
   unfold ClsG
   repeat(go_big_quiet_step (fail))
   refine wpQuiet_nil ?_
   (try rw[←ClsG_def])
   refine mixB_ch (i:=25) (fuel:=1) (by kernel_rfl) (by kernel_rfl) ?_
   simp only[opsAt,zo1,zo2,zo3,zo4,zo5]
   generalize hWD:({w5 with drawn:=w5.drawn+1}:World)=WD at hCw⊢
   have hzd:IsBlk WD w.heap.size #[.int .u8 0,.string ⟨#[]⟩,.int .u64 0,.int .u64 0,.int .u8 0,.bool false,.int .i64 0,.string ⟨#[]⟩,.slice none 0 0,.slice none 0 0] 54:=by rw[←hWD];exact HZF.out
   have hbd:Below w.heap.size w WD:=by rw[←hWD];exact HBF.out.drew
   have HVD:Hid (HasVal (fun b=>W0.heap.size<=b/\b<w1.heap.size) WD (.mk ek eb en es el ef) [.int .u8 (ek:Int),.bool eb,.int .i64 en,.string (bs es),.slice epl el.length ecl,.slice epf ef.length ecf]):=hid (by rw[←hWD];exact HV5.out.ext_to (fun _ h=>h) (fun _ _ _=>rfl))
   clear hWD
   have HFIN:=hid (put_block (B:=w.heap.size) (w0:=w) (W:=WD) [.int .u8 ((NA:Int)%256),.string (bs bs'),.int .u64 (NC:Int),.int .u64 (ND:Int),.int .u8 (ek:Int),.bool eb,.int .i64 en,.string (bs es),.slice epl el.length ecl,.slice epf ef.length ecf] hzd rfl (Nat.le_refl _) hbd)
   have u0:=hzd.cell (i:=0) rfl
   have u1:=hzd.cell (i:=1) rfl
   have u2:=hzd.cell (i:=2) rfl
   have u3:=hzd.cell (i:=3) rfl
   have u4:=hzd.cell (i:=4) rfl
   have u5:=hzd.cell (i:=5) rfl
   have u6:=hzd.cell (i:=6) rfl
   have u7:=hzd.cell (i:=7) rfl
   have u8:=hzd.cell (i:=8) rfl
   have u9:=hzd.cell (i:=9) rfl
   have z0:=hzd.frozen 0
   have z1:=hzd.frozen 1
   have z2:=hzd.frozen 2
   have z3:=hzd.frozen 3
   have z4:=hzd.frozen 4
   have z5:=hzd.frozen 5
   have z6:=hzd.frozen 6
   have z7:=hzd.frozen 7
   have z8:=hzd.frozen 8
   have z9:=hzd.frozen 9
   clear hzd hbd
   go_wp2_with(fail)
   refine ThenB.mk (hCw.trans (keptG_cells w.heap.size WD [.int .u8 ((NA:Int)%256),.string (bs bs'),.int .u64 (NC:Int),.int .u64 (ND:Int),.int .u8 (ek:Int),.bool eb,.int .i64 en,.string (bs es),.slice epl el.length ecl,.slice epf ef.length ecf])) (fun hCw=>?_)
   refine mixB_flt (by kernel_rfl) [26] 0 _ _ hCw (by kernel_rfl) ?_
   simp only[opsAt,zo1,zo2,zo3,zo4,zo5]
   unfold ClsG
   repeat(go_big_quiet_step (fail))
   refine wpQuiet_nil ?_
   (try rw[←ClsG_def])
   refine mixB_end [] (by kernel_rfl) ?_
   refine wpList_nil ?_
   refine Calm.normal ?_
   clear hCw
   go_wp2
   refine bodyPost_ret (results_ct (p:=2) (u:=3) (ty:=54) Tryz.results46 rfl HFIN.out.1 Tryz.underlying54 rfl (by kernel_rfl) rfl) rfl ?_
   refine⟨⟨NA%256,bs',NC,ND,.mk ek eb en es el ef⟩,false,[.int .u8 ((NA:Int)%256),.string (bs bs'),.int .u64 (NC:Int),.int .u64 (ND:Int),.int .u8 (ek:Int),.bool eb,.int .i64 en,.string (bs es),.slice epl el.length ecl,.slice epf ef.length ecf],rfl,⟨_,rfl,⟨by show NA%256<256;omega,hbsl,hNCl,hNDl⟩,HVD.out.ext_to (fun b hb=>by omega) (fun b hb _=>HFIN.out.2.2 b (by omega))⟩,?_,HFIN.out.2.1⟩
   rw[HRR.out];rfl
  |true=>
   go_upto_region 7 with(fail)
   refine mixB_start [] (ClsG w.heap.size w5) (by kernel_rfl) (ClsG.drew w.heap.size w5) (fun hCw=>?_)
   refine mixB_flt (by kernel_rfl) [0,1,2,3,4,5,6,7,8,9,10,11,12,13,14,15,16,17,18,19,20,21,22,23,24] 2 _ _ hCw (by kernel_rfl) ?_
   simp only[opsAt,zo1,zo2,zo3,zo4,zo5]
   unfold ClsG
   repeat(go_big_quiet_step (fail))
   refine wpQuiet_nil ?_
   (try rw[←ClsG_def])
   refine mixB_ch (i:=25) (fuel:=1) (by kernel_rfl) (by kernel_rfl) ?_
   simp only[opsAt,zo1,zo2,zo3,zo4,zo5]
   generalize hWD:({w5 with drawn:=w5.drawn+1}:World)=WD at hCw⊢
   have hzd:IsBlk WD w.heap.size #[.int .u8 0,.string ⟨#[]⟩,.int .u64 0,.int .u64 0,.int .u8 0,.bool false,.int .i64 0,.string ⟨#[]⟩,.slice none 0 0,.slice none 0 0] 54:=by rw[←hWD];exact HZF.out
   have hbd:Below w.heap.size w WD:=by rw[←hWD];exact HBF.out.drew
   have HVD:Hid (HasVal (fun b=>W0.heap.size<=b/\b<w1.heap.size) WD (.mk ek eb en es el ef) [.int .u8 (ek:Int),.bool eb,.int .i64 en,.string (bs es),.slice epl el.length ecl,.slice epf ef.length ecf]):=hid (by rw[←hWD];exact HV5.out.ext_to (fun _ h=>h) (fun _ _ _=>rfl))
   clear hWD
   have HFIN:=hid (put_block (B:=w.heap.size) (w0:=w) (W:=WD) [.int .u8 ((NA:Int)%256),.string (bs bs'),.int .u64 (NC:Int),.int .u64 (ND:Int),.int .u8 (ek:Int),.bool eb,.int .i64 en,.string (bs es),.slice epl el.length ecl,.slice epf ef.length ecf] hzd rfl (Nat.le_refl _) hbd)
   have u0:=hzd.cell (i:=0) rfl
   have u1:=hzd.cell (i:=1) rfl
   have u2:=hzd.cell (i:=2) rfl
   have u3:=hzd.cell (i:=3) rfl
   have u4:=hzd.cell (i:=4) rfl
   have u5:=hzd.cell (i:=5) rfl
   have u6:=hzd.cell (i:=6) rfl
   have u7:=hzd.cell (i:=7) rfl
   have u8:=hzd.cell (i:=8) rfl
   have u9:=hzd.cell (i:=9) rfl
   have z0:=hzd.frozen 0
   have z1:=hzd.frozen 1
   have z2:=hzd.frozen 2
   have z3:=hzd.frozen 3
   have z4:=hzd.frozen 4
   have z5:=hzd.frozen 5
   have z6:=hzd.frozen 6
   have z7:=hzd.frozen 7
   have z8:=hzd.frozen 8
   have z9:=hzd.frozen 9
   clear hzd hbd
   go_wp2_with(fail)
   refine ThenB.mk (hCw.trans (keptG_cells w.heap.size WD [.int .u8 ((NA:Int)%256),.string (bs bs'),.int .u64 (NC:Int),.int .u64 (ND:Int),.int .u8 (ek:Int),.bool eb,.int .i64 en,.string (bs es),.slice epl el.length ecl,.slice epf ef.length ecf])) (fun hCw=>?_)
   refine mixB_flt (by kernel_rfl) [26] 0 _ _ hCw (by kernel_rfl) ?_
   simp only[opsAt,zo1,zo2,zo3,zo4,zo5]
   unfold ClsG
   repeat(go_big_quiet_step (fail))
   refine wpQuiet_nil ?_
   (try rw[←ClsG_def])
   refine mixB_end [] (by kernel_rfl) ?_
   refine wpList_nil ?_
   refine Calm.normal ?_
   clear hCw
   go_wp2
   refine bodyPost_ret (results_ct (p:=2) (u:=3) (ty:=54) Tryz.results46 rfl HFIN.out.1 Tryz.underlying54 rfl (by kernel_rfl) rfl) rfl ?_
   refine⟨⟨NA%256,bs',NC,ND,.mk ek eb en es el ef⟩,false,[.int .u8 ((NA:Int)%256),.string (bs bs'),.int .u64 (NC:Int),.int .u64 (ND:Int),.int .u8 (ek:Int),.bool eb,.int .i64 en,.string (bs es),.slice epl el.length ecl,.slice epf ef.length ecf],rfl,⟨_,rfl,⟨by show NA%256<256;omega,hbsl,hNCl,hNDl⟩,HVD.out.ext_to (fun b hb=>by omega) (fun b hb _=>HFIN.out.2.2 b (by omega))⟩,?_,HFIN.out.2.1⟩
   rw[HRR.out,decide_eq_false HLT.out];rfl
end Go.Proofs.YtcihbnpckicljaaGreatDoor
