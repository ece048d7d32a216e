/- The document's Read. Conditions: a text no longer than 2^40 bytes; utf8's tables read as the text lays them. -/
import Derived.Test.YtcihbnpckicljaaGreatDoorqJRRevRd
import Derived.Test.YtcihbnpckicljaaGreatDoorqJRead
set_option linter.unusedVariables false
set_option linter.unusedSimpArgs false
namespace Go.Proofs.YtcihbnpckicljaaGreatDoor
open Go Go.RowKit Go.BigFrame
open Go.Lib(hid)
set_option maxRecDepth 100000
theorem stsP_fail :∀{l:List DVal} {j:Nat} (hj:j<l.length),kindV l[j]≠3->stsP l=none
 |v::l,0,_,h=>by rw[stsP,if_neg (by simpa using h)]
 |v::l,j+1,hj,h=>by
  rw[stsP]
  split
  ·rw[stsP_fail (l:=l) (j:=j) (by simpa using hj) (by simpa using h)]
   rfl
  ·rfl
theorem stsP_all :∀{l:List DVal},(∀v∈l,kindV v=3)->stsP l=some (l.map strV)
 |[],_=>rfl
 |v::l,h=>by
  rw[stsP,if_pos (h v (by simp)),stsP_all (l:=l) (fun u hu=>h u (by simp[hu]))]
  rfl
theorem revsR_fail :∀{l:List DVal} {j:Nat} (hj:j<l.length),(rrR (strV l[j])=none\/kindV l[j]≠4)->revsR l=none
 |v::l,0,_,h=>by
  rw[revsR]
  rcases h with h|h
  ·rw[show rrR (strV v)=none from h]
  ·have h': ¬kindV v=4:=h
   split
   ·rw[if_neg h']
   ·rfl
 |v::l,j+1,hj,h=>by
  rw[revsR]
  split
  ·split
   ·rw[revsR_fail (l:=l) (j:=j) (by simpa using hj) (by simpa using h)]
    rfl
   ·rfl
  ·rfl
theorem revsR_snoc :∀{l:List DVal} {x:List DRev} {v:DVal} {r:DRev},revsR l=some x->rrR (strV v)=some r->kindV v=4->revsR (l++[v])=some (x++[r])
 |[],x,v,r,h,h1,h2=>by
  obtain rfl:=Option.some.inj h
  rw[List.nil_append,revsR,h1]
  simp only
  rw[if_pos h2]
  rfl
 |u::l,x,v,r,h,h1,h2=>by
  rw[List.cons_append,revsR]
  rw[revsR]at h
  cases hu:rrR (strV u)with
  |none=>rw[hu]at h;cases h
  |some q=>
   rw[hu]at h
   simp only at h⊢
   by_cases hk:kindV u=4
   ·rw[if_pos hk]at h⊢
    cases hl:revsR l with
    |none=>rw[hl]at h;cases h
    |some y=>
     rw[hl]at h
     obtain rfl:=Option.some.inj h
     rw[revsR_snoc hl h1 h2]
     rfl
   ·rw[if_neg hk]at h;cases h
theorem readR_none {s:List UInt8} (h:openR s=none):readR s=(.zero,11):=by unfold readR;rw[h]
theorem openR_five {s:List UInt8} (h:fiveP s=none):openR s=none:=by unfold openR;rw[h]
theorem openR_some {s:List UInt8} {a b c d e:DVal} {n:Nat} {x:List (List UInt8)} {y:List DRev} (h:fiveP s=some (a,b,c,d,e)) (ha:natV a=some n) (hd:stsP (listV d)=some x) (he:revsR (listV e)=some y) (hk:kindV b=4/\kindV c=4/\kindV d=5/\kindV e=5):openR s=some ⟨n,strV b,strV c,x,y⟩:=by
 unfold openR
 rw[h]
 simp only
 rw[ha,hd,he]
 simp only
 rw[if_pos hk]
theorem openR_bad {s:List UInt8} {a b c d e:DVal} (h:fiveP s=some (a,b,c,d,e)) (hb:natV a=none\/ ¬(kindV b=4/\kindV c=4/\kindV d=5/\kindV e=5)\/stsP (listV d)=none\/revsR (listV e)=none):openR s=none:=by
 unfold openR
 rw[h]
 simp only
 rcases hb with hb|hb|hb|hb
 ·rw[hb]
 ·cases natV a<;>cases stsP (listV d)<;>cases revsR (listV e)<;>try rfl
  simp only
  rw[if_neg hb]
 ·rw[hb]
  cases natV a<;>rfl
 ·rw[hb]
  cases natV a<;>cases stsP (listV d)<;>rfl
set_option maxHeartbeats 8000000 in
theorem rread_p (s:List UInt8) (w:World) (hT:U8T w) (hs:s.length<=1099511627776):
 Calls Tryz.prog 11 #[.string (bs s)] w (BlkOut w (readB s)):=by
 rw[←readR_eq]
 have HRD:Hid (∀w',Calls Tryz.prog 44 #[.string (bs s)] w' (RdPost w' (rdV s))):=hid (fun w'=>rread_any s w' hs)
 have HT:=hid hT
 have hb1:=five_bad1 (s:=s)
 have hb2:=five_bad2 (s:=s)
 have hgd:=fun a b c d e=>five_good (s:=s) (a:=a) (b:=b) (c:=c) (d:=d) (e:=e)
 have hro:= @readR_none s
 have hr5:= @openR_five s
 have hrb:=fun a b c d e=>openR_bad (s:=s) (a:=a) (b:=b) (c:=c) (d:=d) (e:=e)
 have hre:=fun a b c d e n x y=>openR_some (s:=s) (a:=a) (b:=b) (c:=c) (d:=d) (e:=e) (n:=n) (x:=x) (y:=y)
 have hrl:readR s=match openR s with
  |some b=>if(wholeP b).2≠0 then(.zero,11)else(b,0)
  |none=>(.zero,11):=rfl
 generalize rdV s=r at HRD hb1 hb2 hgd
 obtain⟨v,why⟩:=r
 obtain⟨R,hR⟩:∃R,R=readR s:=⟨_,rfl⟩
 rw[←hR]
 rw[←hR]at hro hrl
 have HB1:=hid hb1
 have HB2:=hid hb2
 have HGD:=hid hgd
 have HRO:=hid hro
 have HR5:=hid hr5
 have HRB:=hid hrb
 have HRE:=hid hre
 have HRL:=hid hrl
 clear hb1 hb2 hgd hro hr5 hrb hre hrl hT hs hR
 go_enter Tryz.func11,Tryz.ntmps11
 go_upto_region 1 with(fail)
 generalize hW0:World.alloc w _=W0
 have hb0:Below w.heap.size w W0:=by rw[←hW0];exact(Below.refl _ _).alloc (Nat.le_refl _) _
 have hz0:IsBlk W0 w.heap.size #[.int .u64 0,.string ⟨#[]⟩,.string ⟨#[]⟩,.slice none 0 0,.slice none 0 0] 28:=by rw[←hW0];exact IsBlk.new _ _ _
 have HB0:=hid hb0
 have HZ:=hid hz0
 have hlt0:=hz0.lt
 clear hW0 hb0 hz0
 go_wp2_with fail
 go_at_call 44
 refine(HRD.out W0).mono ?_
 rintro e' w1 ⟨cs,rfl,hv,hb⟩
 obtain⟨vk,vb,vn,vs,vl,vf⟩:=v
 have hv':HasVal (fun b=>W0.heap.size<=b) w1 (.mk vk vb vn vs vl vf) cs:=hv
 obtain⟨pl,cl,pf,cf,rfl,hbd,hL,_⟩:=hasVal_mk.1 hv'
 have hvk:vk<256:=hbd.1
 have hll:vl.length<=1073741824:=hbd.2.2.2.2.1
 have hlc:vl.length<=cl:=hbd.2.2.2.2.2.2.1
 have hsz:=hb.size
 go_upto_region 2 with(fail)
 generalize hW2:World.alloc w1 _=W2
 have hb2:Below w1.heap.size w1 W2:=by rw[←hW2];exact(Below.refl _ _).alloc (Nat.le_refl _) _
 have hd2:IsBlk W2 w1.heap.size #[.int .u8 (vk:Int),.bool vb,.int .i64 vn,.string (bs vs),.slice pl vl.length cl,.slice pf vf.length cf] 52:=by rw[←hW2];exact IsBlk.new _ _ _
 have hb02:=below_ext hb hb2
 have hz2:=HZ.out.ext hb02
 have HB2':=hid hb02
 have hL1:HasL (fun b=>W0.heap.size<=b/\b<w1.heap.size) w1 pl vl:=fun i hi=>by
  obtain⟨g,o,cs,e1,h2,h3⟩:=hL i hi
  exact⟨g,o,cs,e1,⟨⟨h2.1,h2.2.1⟩,h2.2⟩,relV.lt h3⟩
 have HL2:=hid (hL1.ext hb2)
 have HD2:=hid hd2
 have HZ2:=hid hz2
 have hltd:=hd2.lt
 have hltz:=hz2.lt
 have x0:=hd2.cell (i:=0) rfl
 have x1:=hd2.cell (i:=1) rfl
 have x2:=hd2.cell (i:=2) rfl
 have x3:=hd2.cell (i:=3) rfl
 have x4:=hd2.cell (i:=4) rfl
 have x5:=hd2.cell (i:=5) rfl
 have u0:=hz2.cell (i:=0) rfl
 have u1:=hz2.cell (i:=1) rfl
 have u2:=hz2.cell (i:=2) rfl
 have u3:=hz2.cell (i:=3) rfl
 have u4:=hz2.cell (i:=4) rfl
 have z0:=hz2.frozen 0
 have z1:=hz2.frozen 1
 have z2:=hz2.frozen 2
 have z3:=hz2.frozen 3
 have z4:=hz2.frozen 4
 obtain⟨n,hn⟩:∃n,n=vl.length:=⟨_,rfl⟩
 rw[←hn]at hll hlc x4
 have HN:=hid hn
 have HFIN:=hid (put_block (B:=w.heap.size) (w0:=w) (W:=W2) [.int .u64 0,.string ⟨#[]⟩,.string ⟨#[]⟩,.slice none 0 0,.slice none 0 0] hz2 rfl (Nat.le_refl _) (below_ext HB0.out hb02))
 clear hW2 hb2 hd2 hb02 hz2 hv hv' hbd hL hL1 hb hn
 by_cases hbad:why≠0\/vk≠5\/n≠5
 ·have HR2:Hid (R=(.zero,11)):=hid (HRO.out (HR5.out (by
   rcases hbad with h|h|h
   ·exact HB1.out (.inl h)
   ·exact HB1.out (.inr h)
   ·exact HB2.out (by have:=HN.out;show vl.length≠5;omega))))
  by_cases hw:why=0
  case neg=>
   have hwb:(why !=0)=true:=by rw[bne_iff_ne];exact hw
   clear hw hbad
   go_wp2
   refine bodyPost_ret (results_ct (p:=2) (u:=3) (ty:=28) Tryz.results11 rfl HFIN.out.1 Tryz.underlying28 rfl (by kernel_rfl) rfl) rfl ?_
   rw[HR2.out]
   exact⟨_,rfl,zblk_has _ _,HFIN.out.2.1⟩
  subst hw
  by_cases hk:vk=5
  case neg=>
   have hwb:((vk:Int) !=5)=true:=by rw[bne_iff_ne];omega
   clear hk hbad
   go_wp2
   refine bodyPost_ret (results_ct (p:=2) (u:=3) (ty:=28) Tryz.results11 rfl HFIN.out.1 Tryz.underlying28 rfl (by kernel_rfl) rfl) rfl ?_
   rw[HR2.out]
   exact⟨_,rfl,zblk_has _ _,HFIN.out.2.1⟩
  subst hk
  have hl:n≠5:=by simpa using hbad
  have hwb:((n:Int) !=5)=true:=by rw[bne_iff_ne];omega
  clear hl hbad
  go_wp2
  refine bodyPost_ret (results_ct (p:=2) (u:=3) (ty:=28) Tryz.results11 rfl HFIN.out.1 Tryz.underlying28 rfl (by kernel_rfl) rfl) rfl ?_
  rw[HR2.out]
  exact⟨_,rfl,zblk_has _ _,HFIN.out.2.1⟩
 obtain⟨rfl,rfl,hn5⟩:why=0/\vk=5/\n=5:=by omega
 clear hbad
 obtain⟨a,b,c,d,e,hle⟩:=list_five (l:=vl) (by rw[←HN.out];exact hn5)
 subst hle
 subst hn5
 have HF:Hid (fiveP s=some (a,b,c,d,e)):=hid (HGD.out a b c d e rfl rfl rfl)
 obtain⟨g,o,ca,cb,cc,cd,ce,rfl,hg,hgS,va,vb',vc,vd,ve,ka,kb,kc,kd,ke⟩:=five_row HL2.out
 have HNA:=hid (isNat_natV va.rng)
 have HVD:=hid vd
 have HVE:=hid ve
 have HKB:=hid kb
 have HKC:=hid kc
 have HKD:=hid kd
 have HKE:=hid ke
 have HVA:=hid va
 obtain⟨bk,bb,bn,bs',bl,bf⟩:=b
 obtain⟨bpl,bcl,bpf,bcf,rfl,hbb,_⟩:=hasVal_mk.1 vb'
 have hbk:bk<256:=hbb.1
 have hbsl:bs'.length<=1073741824:=hbb.2.2.2.1
 obtain⟨ck,cb',cn,cs',cl',cf'⟩:=c
 obtain⟨cpl,ccl,cpf,ccf,rfl,hcb,_⟩:=hasVal_mk.1 vc
 have hck:ck<256:=hcb.1
 have hcsl:cs'.length<=1073741824:=hcb.2.2.2.1
 obtain⟨dk,db,dn,ds',dl,df⟩:=d
 obtain⟨dpl,dcl,dpf,dcf,rfl,hdb,hdL,_⟩:=hasVal_mk.1 vd
 have hdk:dk<256:=hdb.1
 have hdl:dl.length<=1073741824:=hdb.2.2.2.2.1
 obtain⟨ek,eb,en,es',el,ef⟩:=e
 obtain⟨epl,ecl,epf,ecf,rfl,heb,heL,_⟩:=hasVal_mk.1 ve
 have hek:ek<256:=heb.1
 have hel:el.length<=1073741824:=heb.2.2.2.2.1
 have HDL:=hid hdL
 have HEL:=hid heL
 have HDS:=hid (hasL_strs hdL)
 obtain⟨ak,ab,an,as',al,af⟩:=a
 obtain⟨apl,acl,apf,acf,rfl,_⟩:=hasVal_mk.1 va
 obtain⟨a0,a1,a2,a3,a4,a5⟩:=ka.six
 clear va vb' vc vd ve ka kb kc kd ke hbb hcb hdb heb hdL heL HB1 HB2 HGD HL2 HFIN HR5
 go_wp2_with fail
 go_at_call 45
 refine(rnumb_any _ _ _ W2 HVA.out).mono ?_
 rintro e' w3 ⟨rfl,hb3⟩
 have HB3:=hid hb3
 have HBW3:=hid (below_ext HB2'.out hb3)
 have hz3:=HZ2.out.ext hb3
 have hsz3:=hb3.size
 obtain⟨b0,b1,b2,b3,b4,b5⟩:=(HKB.out.kept (S':=fun _=>True) (w':=w3) (fun _ _=>trivial) (fun z _ hlt=>HB3.out.block z hlt)).six
 obtain⟨c0,c1,c2,c3,c4,c5⟩:=(HKC.out.kept (S':=fun _=>True) (w':=w3) (fun _ _=>trivial) (fun z _ hlt=>HB3.out.block z hlt)).six
 obtain⟨d0,d1,d2,d3,d4,d5⟩:=(HKD.out.kept (S':=fun _=>True) (w':=w3) (fun _ _=>trivial) (fun z _ hlt=>HB3.out.block z hlt)).six
 obtain⟨e0,e1,e2,e3,e4,e5⟩:=(HKE.out.kept (S':=fun _=>True) (w':=w3) (fun _ _=>trivial) (fun z _ hlt=>HB3.out.block z hlt)).six
 have hg3:g<w3.heap.size:=by omega
 have hltz3:=hz3.lt
 clear x0 x1 x2 x3 x4 x5 a0 a1 a2 a3 a4 a5 hb3 u0 u1 u2 u3 u4 z0 z1 z2 z3 z4
 have u0:=hz3.cell (i:=0) rfl
 have u1:=hz3.cell (i:=1) rfl
 have u2:=hz3.cell (i:=2) rfl
 have u3:=hz3.cell (i:=3) rfl
 have u4:=hz3.cell (i:=4) rfl
 have z0:=hz3.frozen 0
 have z1:=hz3.frozen 1
 have z2:=hz3.frozen 2
 have z3:=hz3.frozen 3
 have z4:=hz3.frozen 4
 have HZ3:=hid hz3
 have HFIN:=hid (put_block (B:=w.heap.size) (w0:=w) (W:=w3) [.int .u64 0,.string ⟨#[]⟩,.string ⟨#[]⟩,.slice none 0 0,.slice none 0 0] hz3 rfl (Nat.le_refl _) (below_ext HB0.out HBW3.out))
 clear hz3
 obtain⟨A,hA⟩:∃A,A=isNat (.mk ak ab an as' al af):=⟨_,rfl⟩
 obtain⟨NA,hNA⟩:∃NA,NA=ofI (intV (.mk ak ab an as' al af)):=⟨_,rfl⟩
 rw[←hA,←hNA]
 have hNAl:NA<18446744073709551616:=by rw[hNA];unfold ofI;omega
 have HNA2:Hid (natV (.mk ak ab an as' al af)=if A then some NA else none):=hid (by rw[hA,hNA];exact HNA.out)
 clear hA hNA
 cases A with
 |false=>
  have HR2:Hid (R=(.zero,11)):=hid (HRO.out (HRB.out _ _ _ _ _ HF.out (.inl (by rw[HNA2.out];rfl))))
  go_wp2
  refine bodyPost_ret (results_ct (p:=2) (u:=3) (ty:=28) Tryz.results11 rfl HFIN.out.1 Tryz.underlying28 rfl (by kernel_rfl) rfl) rfl ?_
  rw[HR2.out]
  exact⟨_,rfl,zblk_has _ _,HFIN.out.2.1⟩
 |true=>
 by_cases hk0:bk=4
 case neg=>
  have hwb:((bk:Int) !=4)=true:=by rw[bne_iff_ne];omega
  have HR2:Hid (R=(.zero,11)):=hid (HRO.out (HRB.out _ _ _ _ _ HF.out (.inr (.inl (fun h=>hk0 h.1)))))
  clear hk0
  go_wp2
  refine bodyPost_ret (results_ct (p:=2) (u:=3) (ty:=28) Tryz.results11 rfl HFIN.out.1 Tryz.underlying28 rfl (by kernel_rfl) rfl) rfl ?_
  rw[HR2.out]
  exact⟨_,rfl,zblk_has _ _,HFIN.out.2.1⟩
 subst hk0
 by_cases hk1:ck=4
 case neg=>
  have hwb:((ck:Int) !=4)=true:=by rw[bne_iff_ne];omega
  have HR2:Hid (R=(.zero,11)):=hid (HRO.out (HRB.out _ _ _ _ _ HF.out (.inr (.inl (fun h=>hk1 h.2.1)))))
  clear hk1
  go_wp2
  refine bodyPost_ret (results_ct (p:=2) (u:=3) (ty:=28) Tryz.results11 rfl HFIN.out.1 Tryz.underlying28 rfl (by kernel_rfl) rfl) rfl ?_
  rw[HR2.out]
  exact⟨_,rfl,zblk_has _ _,HFIN.out.2.1⟩
 subst hk1
 by_cases hk2:dk=5
 case neg=>
  have hwb:((dk:Int) !=5)=true:=by rw[bne_iff_ne];omega
  have HR2:Hid (R=(.zero,11)):=hid (HRO.out (HRB.out _ _ _ _ _ HF.out (.inr (.inl (fun h=>hk2 h.2.2.1)))))
  clear hk2
  go_wp2
  refine bodyPost_ret (results_ct (p:=2) (u:=3) (ty:=28) Tryz.results11 rfl HFIN.out.1 Tryz.underlying28 rfl (by kernel_rfl) rfl) rfl ?_
  rw[HR2.out]
  exact⟨_,rfl,zblk_has _ _,HFIN.out.2.1⟩
 subst hk2
 by_cases hk3:ek=5
 case neg=>
  have hwb:((ek:Int) !=5)=true:=by rw[bne_iff_ne];omega
  have HR2:Hid (R=(.zero,11)):=hid (HRO.out (HRB.out _ _ _ _ _ HF.out (.inr (.inl (fun h=>hk3 h.2.2.2)))))
  clear hk3
  go_wp2
  refine bodyPost_ret (results_ct (p:=2) (u:=3) (ty:=28) Tryz.results11 rfl HFIN.out.1 Tryz.underlying28 rfl (by kernel_rfl) rfl) rfl ?_
  rw[HR2.out]
  exact⟨_,rfl,zblk_has _ _,HFIN.out.2.1⟩
 subst hk3
 have HRB2:Hid (stsP dl=none\/revsR el=none->R=(.zero,11)):=hid (fun h=>HRO.out (HRB.out _ _ _ _ _ HF.out (.inr (.inr h))))
 have HGO:Hid (∀x y,stsP dl=some x->revsR el=some y->R=if(wholeP ⟨NA,bs',cs',x,y⟩).2≠0 then(.zero,11)else(⟨NA,bs',cs',x,y⟩,0)):=hid (fun x y hx hy=>by
  have h2:openR s=some ⟨NA,bs',cs',x,y⟩:=HRE.out _ _ _ _ _ _ _ _ HF.out (by rw[HNA2.out];rfl) hx hy ⟨rfl,rfl,rfl,rfl⟩
  rw[HRL.out,h2])
 clear HRO HRB HRE HRL HF HNA HNA2 HVA HKB HKC HVD HVE HFIN HRD HD2 HZ2 HB2'
 go_upto_region 8 with(fail)
 refine mixB_start [11] (Cls w3) (by kernel_rfl) (Cls.of ((Below.refl _ _).drew)) (fun hCw=>?_)
 refine mixB_flt (by kernel_rfl) [0,1,2,3,4,5,6,7,8,9] 2 _ _ hCw (by kernel_rfl) ?_
 simp only[opsAt,zo1,zo2,zo3,zo4,zo5]
 unfold Cls
 repeat(go_big_quiet_step (fail))
 refine wpQuiet_nil ?_
 (try rw[←Cls_def])
 refine mixB_ch (i:=10) (fuel:=1) (by kernel_rfl) (by kernel_rfl) ?_
 simp only[opsAt,zo1,zo2,zo3,zo4,zo5]
 go_wp2_with(fail)
 refine ThenB.mk (hCw.trans ((Below.refl _ _).alloc (Nat.le_refl _) _)) (fun hCw=>?_)
 refine mixB_end [11] (by kernel_rfl) ?_
 simp only[opsAt,zo1,zo2,zo3,zo4,zo5]
 go_wp2
 refine Calm.normal ?_
 generalize hWa:World.drew (World.alloc w3 _)=wa
 have hba:Below w3.heap.size w3 wa:=by rw[←hWa];exact((Below.refl _ _).alloc (Nat.le_refl _) _).drew
 have hxa:IsBlk wa w3.heap.size #[.int .u64 (NA:Int),.string (bs bs'),.string (bs cs'),.slice none 0 0,.slice none 0 0] 28:=by rw[←hWa];exact IsBlk.new w3 _ _
 have HXA:=hid hxa
 have HBA:=hid (HBW3.out.trans (hba.mono HBW3.out.size))
 have hszA:=hba.size
 have hltx:=hxa.lt
 have hba2:=below_ext HB3.out hba
 have HDLA:=hid ((HDL.out.ext HB3.out).ext hba)
 have HELA:=hid ((HEL.out.ext HB3.out).ext hba)
 have hkd:=HKD.out.kept (S':=fun _=>True) (w':=wa) (fun _ _=>trivial) (fun z _ hlt=>hba2.block z hlt)
 have HKEA:=hid (HKE.out.kept (S':=fun b=>W0.heap.size<=b/\b<w1.heap.size) (w':=wa) (fun _ h=>h) (fun z _ hlt=>hba2.block z hlt))
 have HZA:=hid (HZ3.out.ext hba)
 obtain⟨d0',d1',d2',d3',d4',d5'⟩:=hkd.six
 have hgA:g<wa.heap.size:=by omega
 obtain⟨n,hn⟩:∃n,n=dl.length:=⟨_,rfl⟩
 rw[←hn]at d4' hdl
 have HN:=hid hn
 clear hCw hWa hba hxa hba2 hkd hn b0 b1 b2 b3 b4 b5 c0 c1 c2 c3 c4 c5 d0 d1 d2 d3 d4 d5 e0 e1 e2 e3 e4 e5 u0 u1 u2 u3 u4 z0 z1 z2 z3 z4 HDL HEL HKD HKE HZ3 HB3 HBW3
 go_wp2
 clear d0' d1' d2' d3' d4' d5'
 go_loopw [90] (fun b wr=>∃(j:Nat) (v:Value),b=.int .i64 (j:Int)/\j<=n/\(∀x∈dl.take j,kindV x=3)/\wr.ownsRow wa.heap.size 9 1 v j (sv (dl.take j))/\IsBlk wr w3.heap.size #[.int .u64 (NA:Int),.string (bs bs'),.string (bs cs'),v,.slice none 0 0] 28/\Rd W0.heap.size w3.heap.size wa wr) (fun b _=>n-(intOf b).toNat)
 case atStart=>exact⟨0,.slice none 0 0,rfl,Nat.zero_le _,by simp,⟨rfl,Or.inl ⟨rfl,rfl⟩⟩,HXA.out,Rd.refl _ _ _⟩
 case round=>
 obtain⟨j,sv',rfl,hj,hal,hown,hxb,hrd⟩:=hrel
 have hszw:=hrd.2.1
 have HAL:=hid hal
 have HO:=hid hown
 have HXB:=hid hxb
 have HRDD:=hid hrd
 have hnb2:sv'.ownBlock≠some w3.heap.size:=fun e=>by have:=(hown.lt _ e).1;omega
 by_cases hlt:j<n
 ·have hltl:j<dl.length:=by rw[←HN.out];exact hlt
  have hl3:=HDLA.out.ext_to (w':=wr) (S':=fun b=>W0.heap.size<=b/\b<w1.heap.size) (fun _ h=>h) (fun b hb hlt=>hrd.2.2 b hlt (by omega))
  obtain⟨g1,o1,ce,rfl,hce,hve⟩:=hl3 j hltl
  have htk:=take_snoc hltl
  have hfl:=fun h=>stsP_fail hltl h
  have hnw:=fun h=>take_mem_snoc (p:=fun x=>kindV x=3) hltl hal h
  generalize hxe:dl[j]=x at hve htk hfl hnw
  obtain⟨xk,xb,xn,xs,xl,xf⟩:=x
  obtain⟨xpl,xcl,xpf,xcf,rfl,hxbd,_⟩:=hasVal_mk.1 hve
  have hxk:xk<256:=hxbd.1
  obtain⟨e0,e1,e2,e3,e4,e5⟩:=hce.six
  have hg1:g1<wr.heap.size:=hce.2.1
  have HFL:Hid (xk≠3->stsP dl=none):=hid hfl
  have HNW:Hid (xk=3->∀x∈dl.take (j+1),kindV x=3):=hid hnw
  have HTK:Hid (sv (dl.take (j+1))=sv (dl.take j)++[.string (bs xs)]):=hid (by rw[htk];unfold sv;rw[List.map_append];rfl)
  clear hal hown hxb hrd hve hxbd hce htk hfl hnw hxe
  go_upto_region 12 with(fail)
  generalize hW7:World.alloc wr _=W7
  have hbw7:Below wr.heap.size wr W7:=by rw[←hW7];exact(Below.refl _ _).alloc (Nat.le_refl _) _
  have hb7:IsBlk W7 wr.heap.size #[.int .u8 (xk:Int),.bool xb,.int .i64 xn,.string (bs xs),.slice xpl xl.length xcl,.slice xpf xf.length xcf] 52:=by rw[←hW7];exact IsBlk.new _ _ _
  have hs7:Rd W0.heap.size w3.heap.size wa W7:=HRDD.out.trans (Rd.of_below hbw7 (by omega))
  have hx7:=HXB.out.ext hbw7
  have ho7:=own_ext HO.out hbw7
  clear hW7 e0 e1 e2 e3 e4 e5
  have hlth:=hx7.lt
  have hltb:=hb7.lt
  have x0:=hx7.cell (i:=0) rfl
  have x1:=hx7.cell (i:=1) rfl
  have x2:=hx7.cell (i:=2) rfl
  have x3:=hx7.cell (i:=3) rfl
  have x4:=hx7.cell (i:=4) rfl
  have q0:=hx7.frozen 0
  have q1:=hx7.frozen 1
  have q2:=hx7.frozen 2
  have q3:=hx7.frozen 3
  have q4:=hx7.frozen 4
  have e0:=hb7.cell (i:=0) rfl
  have e1:=hb7.cell (i:=1) rfl
  have e2:=hb7.cell (i:=2) rfl
  have e3:=hb7.cell (i:=3) rfl
  have e4:=hb7.cell (i:=4) rfl
  have e5:=hb7.cell (i:=5) rfl
  have HS7:=hid hs7
  have HX7:=hid hx7
  have HO7:=hid ho7
  have hsz7:=hs7.2.1
  by_cases hk3:xk=3
  case neg=>
   have hkb:((xk:Int) !=3)=true:=by rw[bne_iff_ne];omega
   have HR2:Hid (R=(.zero,11)):=hid (HRB2.out (.inl (HFL.out hk3)))
   have hzr:=HZA.out.below (B:=W0.heap.size) hs7.1 hlt0
   have HFIN:=hid (put_block (B:=w.heap.size) (w0:=w) (W:=W7) [.int .u64 0,.string ⟨#[]⟩,.string ⟨#[]⟩,.slice none 0 0,.slice none 0 0] hzr rfl (Nat.le_refl _) (HB0.out.trans ((HBA.out.trans hs7.1).mono (Nat.le_of_lt hlt0))))
   have hltzr:=hzr.lt
   have u0:=hzr.cell (i:=0) rfl
   have u1:=hzr.cell (i:=1) rfl
   have u2:=hzr.cell (i:=2) rfl
   have u3:=hzr.cell (i:=3) rfl
   have u4:=hzr.cell (i:=4) rfl
   have z0:=hzr.frozen 0
   have z1:=hzr.frozen 1
   have z2:=hzr.frozen 2
   have z3:=hzr.frozen 3
   have z4:=hzr.frozen 4
   clear hzr hs7 hx7 hb7 ho7 hbw7 hk3 x0 x1 x2 x3 x4 q0 q1 q2 q3 q4
   go_wp2
   refine bodyPost_ret (results_ct (p:=2) (u:=3) (ty:=28) Tryz.results11 rfl HFIN.out.1 Tryz.underlying28 rfl (by kernel_rfl) rfl) rfl ?_
   rw[HR2.out]
   exact⟨_,rfl,zblk_has _ _,HFIN.out.2.1⟩
  have hkb:((xk:Int) !=3)=false:=by rw[bne_eq_false_iff_eq];omega
  have HAL2:=hid (HNW.out hk3)
  clear hs7 hx7 hb7 ho7 hbw7 hk3
  go_wp2_with(at_builtin;refine push_one wa.heap.size rfl _ _ 25 9 (.string ⟨#[]⟩) 16 rfl Tryz.underlying25 (by kernel_rfl) rfl (by decide) _ (sv (dl.take j)) (by rw[sv_len,List.length_take,Nat.min_eq_left (by omega)];exact HO7.out) (.string (bs xs)) rfl rfl rfl (by omega) (by rw[sv_len,List.length_take];omega) ?_)
  intro v8 w8 hown8 hg8
  obtain⟨p8,c8,hv8⟩:=own_slice hown8
  rw[sv_len,List.length_take,Nat.min_eq_left (by omega),←HTK.out]at hown8
  rw[sv_len,List.length_take,Nat.min_eq_left (by omega)]at hv8
  subst hv8
  have hs8:Rd W0.heap.size w3.heap.size wa w8:=⟨HS7.out.1.grown hg8 (by omega) (fun z hz=>by have:=(HO7.out.lt z hz).1;omega),Nat.le_trans HS7.out.2.1 hg8.size,fun b hb hne=>by
   rw[hg8.block b (by omega) (fun e=>by have:=(HO7.out.lt b e.symm).1;omega)]
   exact HS7.out.2.2 b hb hne⟩
  have hx8:=blk_grown HX7.out hg8 hnb2
  have hlth8:=hx8.lt
  clear x0 x1 x2 x3 x4 q0 q1 q2 q3 q4 e0 e1 e2 e3 e4 e5
  have x0:=hx8.cell (i:=0) rfl
  have x1:=hx8.cell (i:=1) rfl
  have x2:=hx8.cell (i:=2) rfl
  have x3:=hx8.cell (i:=3) rfl
  have x4:=hx8.cell (i:=4) rfl
  have q0:=hx8.frozen 0
  have q1:=hx8.frozen 1
  have q2:=hx8.frozen 2
  have q3:=hx8.frozen 3
  have q4:=hx8.frozen 4
  have hnb8:(Value.slice p8 (j+1) c8).ownBlock≠some w3.heap.size:=fun e=>by have:=(hown8.lt _ e).1;omega
  have hfin:∃(i:Nat) (v:Value),Value.int .i64 ((j:Int)+1)=.int .i64 (i:Int)/\i<=n/\(∀x∈dl.take i,kindV x=3)/\(w8.setCell ⟨w3.heap.size,3,none⟩ (.slice p8 (j+1) c8)).ownsRow wa.heap.size 9 1 v i (sv (dl.take i))/\IsBlk (w8.setCell ⟨w3.heap.size,3,none⟩ (.slice p8 (j+1) c8)) w3.heap.size #[.int .u64 (NA:Int),.string (bs bs'),.string (bs cs'),v,.slice none 0 0] 28/\Rd W0.heap.size w3.heap.size wa (w8.setCell ⟨w3.heap.size,3,none⟩ (.slice p8 (j+1) c8)):=
   ⟨j+1,_,by go_num,hlt,HAL2.out,owns_kept hown8 (fun z hz=>Below.heap_setCell _ _ _ _ (show z≠w3.heap.size from fun e=>hnb8 (e▸hz))),by simpa using hx8.set 3 (.slice p8 (j+1) c8),hs8.set (by omega) _⟩
  have HFN:=hid hfin
  clear hown8 hg8 hs8 hx8 hfin hnb8
  go_wp2
  go_roundw
  case rel=>exact HFN.out
  case measure=>simp[intOf];omega
 obtain rfl:j=n:=by omega
 have hall:dl.take j=dl:=by rw[HN.out,List.take_length]
 rw[hall]at hown hal
 have hrow2:wr.ownsRow wa.heap.size 9 1 sv' (dl.map strV).length ((dl.map strV).map fun s=>Value.string (bs s)):=by
  rw[List.length_map,List.map_map,←HN.out]
  exact hown
 obtain⟨p3,c3,hsv,hc31,hc32,hs3⟩:=hasS_cap hrow2
 rw[List.length_map,←HN.out]at hsv hc31
 subst hsv
 have HST3:=hid (stsP_all hal)
 have HS3:=hid hs3
 have HXB2:=hid hxb
 have HEL2:=hid (HELA.out.ext_to (w':=wr) (S':=fun b=>W0.heap.size<=b/\b<w1.heap.size) (fun _ h=>h) (fun b hb hlt=>hrd.2.2 b hlt (by omega)))
 have hke:=HKEA.out.kept (S':=fun _=>True) (w':=wr) (fun _ _=>trivial) (fun z hz hlt=>hrd.2.2 z hlt (by omega))
 have HBb:=hid (HBA.out.trans hrd.1)
 obtain⟨e0,e1,e2,e3,e4,e5⟩:=hke.six
 have hgr:=hke.2.1
 obtain⟨n2,hn2⟩:∃n2,n2=el.length:=⟨_,rfl⟩
 rw[←hn2]at e4 hel
 have HN2:=hid hn2
 clear hown hxb hrd hall hrow2 hs3 hal HO HAL HRDD HKEA HELA HDLA HXA hke hn2 HXB
 rename World=>wc
 go_wp2
 clear e0 e1 e2 e3 e4 e5
 go_loopw [111] (fun b wr=>∃(i:Nat) (v:Value) (rs:List DRev),b=.int .i64 (i:Int)/\i<=n2/\rs.length=i/\revsR (el.take i)=some rs/\Acc HasRev wc.heap.size 54 10 wr v rs/\IsBlk wr w3.heap.size #[.int .u64 (NA:Int),.string (bs bs'),.string (bs cs'),.slice p3 j c3,v] 28/\Rd W0.heap.size w3.heap.size wc wr) (fun b _=>n2-(intOf b).toNat)
 case atStart=>exact⟨0,.slice none 0 0,[],rfl,Nat.zero_le _,rfl,rfl,Acc.nil _ _ _,HXB2.out,Rd.refl _ _ _⟩
 case round=>
 obtain⟨i,sv',rs,rfl,hi,hrl,hrs,hacc,hxb,hrd⟩:=hrel
 have hszw:=hrd.2.1
 obtain⟨q1,dd1,hav⟩:=hacc.slice
 rw[hrl]at hav
 subst hav
 have HJL:=hid hrl
 have HRS:=hid hrs
 have HAC:=hid hacc
 have HXB:=hid hxb
 have HRDD:=hid hrd
 have hown:∀z,(Value.slice q1 i dd1).ownBlock=some z->wc.heap.size<=z/\z<wr.heap.size:=hacc.lt
 have hnb2:(Value.slice q1 i dd1).ownBlock≠some w3.heap.size:=fun e=>by have:=(hown _ e).1;omega
 have HOW:=hid hown
 clear hrl
 by_cases hlt:i<n2
 ·have hltl:i<el.length:=by rw[←HN2.out];exact hlt
  have hl3:=HEL2.out.ext_to (w':=wr) (S':=fun b=>W0.heap.size<=b/\b<w1.heap.size) (fun _ h=>h) (fun b hb hlt=>hrd.2.2 b hlt (by omega))
  obtain⟨g1,o1,ce,rfl,hce,hve⟩:=hl3 i hltl
  have htk:=take_snoc hltl
  have hfl:=fun h=>revsR_fail hltl h
  generalize hxe:el[i]=x at hve htk hfl
  obtain⟨xk,xb,xn,xs,xl,xf⟩:=x
  obtain⟨xpl,xcl,xpf,xcf,rfl,hxbd,_⟩:=hasVal_mk.1 hve
  have hxk:xk<256:=hxbd.1
  have hxs:xs.length<=1073741824:=hxbd.2.2.2.1
  obtain⟨e0,e1,e2,e3,e4,e5⟩:=hce.six
  have hg1:g1<wr.heap.size:=hce.2.1
  have HFL:Hid ((rrR xs=none\/xk≠4)->revsR el=none):=hid hfl
  have HTC:Hid (∀w',Calls Tryz.prog 46 #[.string (bs xs)] w' (RRevOut xs w')):=hid (fun w'=>rreadRev_any xs w' (by omega))
  have HSN:Hid (∀r,rrR xs=some r->xk=4->revsR (el.take (i+1))=some (rs++[r])):=hid (fun r h1 h2=>by rw[htk];exact revsR_snoc HRS.out h1 h2)
  clear hacc hown hxb hrd hve hxbd hce htk hfl hxe hrs
  go_wp2_with fail
  go_at_call 46
  refine(HTC.out _).mono ?_
  rintro e' w6 ⟨r,ok,cr,rfl,hrev,hrr,hb6⟩
  have HRR:=hid hrr
  have hba:=(Below.refl wr.heap.size wr).alloc (Nat.le_refl _) (.cells #[.int .u8 (xk:Int),.bool xb,.int .i64 xn,.string (bs xs),.slice xpl xl.length xcl,.slice xpf xf.length xcf] 52)
  have hb6':=below_ext hba hb6
  have HREV:=hid hrev
  obtain⟨rk,rt,rdd,rnn,rv⟩:=r
  obtain⟨cr',rfl,hrbd,hrv⟩:=hrev
  obtain⟨vk,vb',vn',vs',vl',vf'⟩:=rv
  obtain⟨vpl,vcl,vpf,vcf,rfl,_⟩:=hasVal_mk.1 hrv
  have hb6v:IsBlk w6 wr.heap.size #[.int .u8 (xk:Int),.bool xb,.int .i64 xn,.string (bs xs),.slice xpl xl.length xcl,.slice xpf xf.length xcf] 52:=(IsBlk.new _ _ _).ext hb6
  go_upto_region 20 with(fail)
  generalize hW6:World.alloc w6 _=W7
  have hb66:Below w6.heap.size w6 W7:=by rw[←hW6];exact(Below.refl _ _).alloc (Nat.le_refl _) _
  have hbr6:=below_ext hb6' hb66
  have ht7:IsBlk W7 w6.heap.size #[.int .u8 (rk:Int),.string (bs rt),.int .u64 (rdd:Int),.int .u64 (rnn:Int),.int .u8 (vk:Int),.bool vb',.int .i64 vn',.string (bs vs'),.slice vpl vl'.length vcl,.slice vpf vf'.length vcf] 54:=by rw[←hW6];exact IsBlk.new _ _ _
  have hv7:=hb6v.ext hb66
  have hx7:=HXB.out.ext hbr6
  have hs7:Rd W0.heap.size w3.heap.size wc W7:=HRDD.out.trans (Rd.of_below hbr6 (by omega))
  have HA6:=hid (HAC.out.kept relR (fun z hz hlt=>hbr6.block z hlt))
  have HRV6:=hid (relR.kept (relR.lt HREV.out) (S':=fun b=>wr.heap.size<=b/\b<w6.heap.size) (w':=W7) (fun b hb=>⟨by have:=hb.1;simp at this;omega,hb.2⟩) (fun b hb _=>hb66.block b hb.2))
  have hsz6:=hbr6.size
  have hsz66:=hb6'.size
  clear e0 e1 e2 e3 e4 e5
  have hlth:=hx7.lt
  have hltb:=hv7.lt
  have hltt:=ht7.lt
  have e0:=hv7.cell (i:=0) rfl
  have e1:=hv7.cell (i:=1) rfl
  have e2:=hv7.cell (i:=2) rfl
  have e3:=hv7.cell (i:=3) rfl
  have e4:=hv7.cell (i:=4) rfl
  have e5:=hv7.cell (i:=5) rfl
  have HS7:=hid hs7
  have HX7:=hid hx7
  have HT7:=hid ht7
  clear hW6 hb66 hba hb6 hb6' hb6v hrv hrbd HREV HTC hbr6 hrr
  by_cases hbad:ok=false\/xk≠4
  ·have HR2:Hid (R=(.zero,11)):=hid (HRB2.out (.inr (HFL.out (by
    rcases hbad with h|h
    ·left
     rw[HRR.out,h]
     rfl
    ·exact .inr h))))
   have hzr:=HZ.out.below (B:=W0.heap.size) (HBb.out.trans hs7.1) hlt0
   have HFIN:=hid (put_block (B:=w.heap.size) (w0:=w) (W:=W7) [.int .u64 0,.string ⟨#[]⟩,.string ⟨#[]⟩,.slice none 0 0,.slice none 0 0] hzr rfl (Nat.le_refl _) (HB0.out.trans ((HBb.out.trans hs7.1).mono (Nat.le_of_lt hlt0))))
   have hltzr:=hzr.lt
   have u0:=hzr.cell (i:=0) rfl
   have u1:=hzr.cell (i:=1) rfl
   have u2:=hzr.cell (i:=2) rfl
   have u3:=hzr.cell (i:=3) rfl
   have u4:=hzr.cell (i:=4) rfl
   have z0:=hzr.frozen 0
   have z1:=hzr.frozen 1
   have z2:=hzr.frozen 2
   have z3:=hzr.frozen 3
   have z4:=hzr.frozen 4
   clear hzr hs7 hx7 hv7 ht7
   cases ok with
   |false=>
    clear hbad
    go_wp2
    refine bodyPost_ret (results_ct (p:=2) (u:=3) (ty:=28) Tryz.results11 rfl HFIN.out.1 Tryz.underlying28 rfl (by kernel_rfl) rfl) rfl ?_
    rw[HR2.out]
    exact⟨_,rfl,zblk_has _ _,HFIN.out.2.1⟩
   |true=>
    have hkb:((xk:Int) !=4)=true:=by rw[bne_iff_ne];simp at hbad;omega
    clear hbad
    go_wp2
    refine bodyPost_ret (results_ct (p:=2) (u:=3) (ty:=28) Tryz.results11 rfl HFIN.out.1 Tryz.underlying28 rfl (by kernel_rfl) rfl) rfl ?_
    rw[HR2.out]
    exact⟨_,rfl,zblk_has _ _,HFIN.out.2.1⟩
  obtain⟨hok,hk4⟩:ok=true/\xk=4:=by
   cases ok with
   |false=>exact absurd (.inl rfl) hbad
   |true=>exact⟨rfl,by simpa using hbad⟩
  subst hok
  have hkb:((xk:Int) !=4)=false:=by rw[bne_eq_false_iff_eq];omega
  have HSN2:=hid (HSN.out ⟨rk,rt,rdd,rnn,.mk vk vb' vn' vs' vl' vf'⟩ HRR.out hk4)
  clear hbad hk4 HSN HFL
  have x0:=hx7.cell (i:=0) rfl
  have x1:=hx7.cell (i:=1) rfl
  have x2:=hx7.cell (i:=2) rfl
  have x3:=hx7.cell (i:=3) rfl
  have x4:=hx7.cell (i:=4) rfl
  have f7:=hx7.frozen 4
  have hrv7:=relR.kept HRV6.out (S':=fun b=>wc.heap.size<=b/\(Value.slice q1 i dd1).ownBlock≠some b) (w':=W7.alloc (.cells #[.int .u8 (rk:Int),.string (bs rt),.int .u64 (rdd:Int),.int .u64 (rnn:Int),.int .u8 (vk:Int),.bool vb',.int .i64 vn',.string (bs vs'),.slice vpl vl'.length vcl,.slice vpf vf'.length vcf] 54)) (fun b hb=>⟨by have:=hb.1;omega,fun e=>by have:=(HOW.out b e).2;have:=hb.1;omega⟩) (fun b hb hlt=>((Below.refl W7.heap.size W7).alloc (Nat.le_refl _) _).block b hlt)
  have HA7:=hid (HA6.out.kept relR (fun z hz hlt=>((Below.refl W7.heap.size W7).alloc (Nat.le_refl _) (.cells #[.int .u8 (rk:Int),.string (bs rt),.int .u64 (rdd:Int),.int .u64 (rnn:Int),.int .u8 (vk:Int),.bool vb',.int .i64 vn',.string (bs vs'),.slice vpl vl'.length vcl,.slice vpf vf'.length vcf] 54)).block z hlt))
  have HRV7:=hid hrv7
  go_upto_region 22 with(fail)
  clear e0 e1 e2 e3 e4 e5
  have e0:=ht7.cell (i:=0) rfl
  have e1:=ht7.cell (i:=1) rfl
  have e2:=ht7.cell (i:=2) rfl
  have e3:=ht7.cell (i:=3) rfl
  have e4:=ht7.cell (i:=4) rfl
  have e5:=ht7.cell (i:=5) rfl
  have e6:=ht7.cell (i:=6) rfl
  have e7:=ht7.cell (i:=7) rfl
  have e8:=ht7.cell (i:=8) rfl
  have e9:=ht7.cell (i:=9) rfl
  clear hs7 hx7 ht7 hv7 hrv7
  go_wp2_with(at_builtin;refine push_acc relR wc.heap.size rfl _ _ 26 54 (.agg #[.int .u8 0,.string ⟨#[]⟩,.int .u64 0,.int .u64 0,.int .u8 0,.bool false,.int .i64 0,.string ⟨#[]⟩,.slice none 0 0,.slice none 0 0]) 120 rfl Tryz.underlying26 (by kernel_rfl) rfl (by decide) _ rs HA7.out W7.heap.size [.int .u8 (rk:Int),.string (bs rt),.int .u64 (rdd:Int),.int .u64 (rnn:Int),.int .u8 (vk:Int),.bool vb',.int .i64 vn',.string (bs vs'),.slice vpl vl'.length vcl,.slice vpf vf'.length vcf] ⟨rk,rt,rdd,rnn,.mk vk vb' vn' vs' vl' vf'⟩ (IsBlk.new _ _ _) HRV7.out rfl rfl (by simp;omega) (by rw[HJL.out];omega) (by rw[HJL.out];unfold maxLen;omega) ?_)
  intro g8 cap8 w8 hacc8 hg8 hBg hgo hglt
  rw[HJL.out]at hacc8
  rw[HJL.out]
  have hs8:Rd W0.heap.size w3.heap.size wc w8:=by
   have hq:=HS7.out.trans (Rd.of_below (B:=W0.heap.size) (g:=w3.heap.size) ((Below.refl W7.heap.size W7).alloc (Nat.le_refl _) (.cells #[.int .u8 (rk:Int),.string (bs rt),.int .u64 (rdd:Int),.int .u64 (rnn:Int),.int .u8 (vk:Int),.bool vb',.int .i64 vn',.string (bs vs'),.slice vpl vl'.length vcl,.slice vpf vf'.length vcf] 54)) (by omega))
   refine⟨hq.1.grown hg8 (by simp;omega) (fun z hz=>by have:=(HOW.out z hz).1;omega),Nat.le_trans hq.2.1 hg8.size,fun b hb hne=>?_⟩
   rw[hg8.block b (by simp;omega) (fun e=>by have:=(HOW.out b e.symm).1;omega)]
   exact hq.2.2 b hb hne
  have hx8:=blk_grown (HX7.out.alloc _) hg8 hnb2
  have hlth8:=hx8.lt
  clear x0 x1 x2 x3 x4 f7 e0 e1 e2 e3 e4 e5 e6 e7 e8 e9
  have x0:=hx8.cell (i:=0) rfl
  have x1:=hx8.cell (i:=1) rfl
  have x2:=hx8.cell (i:=2) rfl
  have x3:=hx8.cell (i:=3) rfl
  have x4:=hx8.cell (i:=4) rfl
  have f8:=hx8.frozen 4
  have hfin:∃(i':Nat) (v:Value) (rs':List DRev),Value.int .i64 ((i:Int)+1)=.int .i64 (i':Int)/\i'<=n2/\rs'.length=i'/\revsR (el.take i')=some rs'/\Acc HasRev wc.heap.size 54 10 (w8.setCell ⟨w3.heap.size,4,none⟩ (.slice (some ⟨g8,0,none⟩) (i+1) cap8)) v rs'/\IsBlk (w8.setCell ⟨w3.heap.size,4,none⟩ (.slice (some ⟨g8,0,none⟩) (i+1) cap8)) w3.heap.size #[.int .u64 (NA:Int),.string (bs bs'),.string (bs cs'),.slice p3 j c3,v] 28/\Rd W0.heap.size w3.heap.size wc (w8.setCell ⟨w3.heap.size,4,none⟩ (.slice (some ⟨g8,0,none⟩) (i+1) cap8)):=
   ⟨i+1,_,rs++[⟨rk,rt,rdd,rnn,.mk vk vb' vn' vs' vl' vf'⟩],by go_num,hlt,by rw[List.length_append,HJL.out];rfl,HSN2.out,hacc8.kept relR (fun z hz _=>Below.heap_setCell _ _ _ _ (show z≠w3.heap.size by omega)),by simpa using hx8.set 4 (.slice (some ⟨g8,0,none⟩) (i+1) cap8),hs8.set (by omega) _⟩
  have HFN:=hid hfin
  clear hacc8 hg8 hs8 hx8 hfin
  go_wp2
  go_roundw
  case rel=>exact HFN.out
  case measure=>simp[intOf];omega
 obtain rfl:i=n2:=by omega
 have hall2:el.take i=el:=by rw[HN2.out,List.take_length]
 rw[hall2]at hrs
 obtain⟨pr,cr,hpc,hcr1,hcr2,hcl⟩:=hacc.cells relR (S:=fun b=>W0.heap.size<=b) (fun b hb=>by omega)
 injection hpc with e1 e2 e3
 clear e2
 subst e1
 subst e3
 have hrow:RowIn HasRev 10 (fun b=>W0.heap.size<=b) wr q1 rs:=fun k hk=>by
  obtain⟨gg,cs,f1,f2,f3⟩:=hcl k hk
  exact⟨gg,0,cs,f1,f2,f3⟩
 have hm1:(dl.map strV).length=j:=by rw[List.length_map,HN.out]
 have hm2:rs.length=i:=HJL.out
 have hst:HasS (fun b=>W0.heap.size<=b) wr p3 (dl.map strV):=HS3.out.ext_to (fun b hb=>by omega) (fun b hb hlt=>hrd.2.2 b hlt (by omega))
 have hok:∀r∈rs,okR r:=rowRev_ok hrow (revsR_len hrs)
 have hbk:HasBlk (fun b=>W0.heap.size<=b) wr ⟨NA,bs',cs',dl.map strV,rs⟩ [.int .u64 (NA:Int),.string (bs bs'),.string (bs cs'),.slice p3 j c3,.slice q1 i dd1]:=
  ⟨p3,c3,q1,dd1,by rw[hm1,hm2],⟨hNAl,hbsl,hcsl,by rw[hm1];exact hdl,by rw[hm2];exact hel,by rw[hm1];exact hc31,hc32,by rw[hm2];rw[hm2]at hcr1;exact hcr1,hcr2,fun s hs=>by
    obtain⟨v,hv,rfl⟩:=List.mem_map.1 hs
    exact HDS.out v hv⟩,hst,hrow⟩
 have hbw:=HB0.out.trans ((HBb.out.trans hrd.1).mono (Nat.le_of_lt hlt0))
 have hzw:=HZ.out.below (HBb.out.trans hrd.1) hlt0
 have HRE2:Hid (R=if(wholeP ⟨NA,bs',cs',dl.map strV,rs⟩).2≠0 then(.zero,11)else(⟨NA,bs',cs',dl.map strV,rs⟩,0)):=hid (HGO.out _ _ HST3.out hrs)
 have HCK:Hid (Calls Tryz.prog 39 #[.agg #[.int .u64 (NA:Int),.string (bs bs'),.string (bs cs'),.slice p3 j c3,.slice q1 i dd1]] wr fun e' w2=>e'=.returned (.int .i64 (wholeP ⟨NA,bs',cs',dl.map strV,rs⟩).2)/\Below wr.heap.size wr w2):=hid (rcheck_p _ _ _ wr hbk hok (U8T_ext HT.out hbw))
 have HBK:=hid hbk
 have HBW2:=hid hbw
 have HZW:=hid hzw
 have HXBB:=hid hxb
 have hlth:=hxb.lt
 have hltz:=hzw.lt
 generalize wholeP ⟨NA,bs',cs',dl.map strV,rs⟩=WH at HRE2 HCK
 generalize(⟨NA,bs',cs',dl.map strV,rs⟩:DBlk)=BB at HRE2 HBK
 have x0:=hxb.cell (i:=0) rfl
 have x1:=hxb.cell (i:=1) rfl
 have x2:=hxb.cell (i:=2) rfl
 have x3:=hxb.cell (i:=3) rfl
 have x4:=hxb.cell (i:=4) rfl
 clear hacc hown hall2 hrs hcr1 hcl hrow hm1 hm2 hst hok hbk hbw HGO HRB2 HJL HAC HXB HRDD HOW HS3 HEL2 HDS HRS HXB2 hzw hxb hrd
 go_wp2_with fail
 go_at_call 39
 refine HCK.out.mono ?_
 rintro e' w9 ⟨rfl,hb9⟩
 have HBW9:=hid (below_ext HBW2.out hb9)
 have HBK9:=hid (HBK.out.ext hb9)
 have hz9:=HZW.out.ext hb9
 have hx9:=HXBB.out.ext hb9
 have hltz9:=hz9.lt
 have hlth9:=hx9.lt
 clear x0 x1 x2 x3 x4 hb9
 have u0:=hz9.cell (i:=0) rfl
 have u1:=hz9.cell (i:=1) rfl
 have u2:=hz9.cell (i:=2) rfl
 have u3:=hz9.cell (i:=3) rfl
 have u4:=hz9.cell (i:=4) rfl
 have z0:=hz9.frozen 0
 have z1:=hz9.frozen 1
 have z2:=hz9.frozen 2
 have z3:=hz9.frozen 3
 have z4:=hz9.frozen 4
 obtain⟨WT,we⟩:=WH
 by_cases hwe:we=0
 case neg=>
  have hwb:(we !=0)=true:=by rw[bne_iff_ne];exact hwe
  have HR2:Hid (R=(.zero,11)):=hid (by rw[HRE2.out,if_pos hwe])
  have HFIN:=hid (put_block (B:=w.heap.size) (w0:=w) (W:=w9) [.int .u64 0,.string ⟨#[]⟩,.string ⟨#[]⟩,.slice none 0 0,.slice none 0 0] hz9 rfl (Nat.le_refl _) HBW9.out)
  clear hz9 hx9 hwe
  go_wp2
  refine bodyPost_ret (results_ct (p:=2) (u:=3) (ty:=28) Tryz.results11 rfl HFIN.out.1 Tryz.underlying28 rfl (by kernel_rfl) rfl) rfl ?_
  rw[HR2.out]
  exact⟨_,rfl,zblk_has _ _,HFIN.out.2.1⟩
 subst hwe
 have HR2:Hid (R=(BB,0)):=hid (by rw[HRE2.out,if_neg (by simp)])
 have HFIN:=hid (put_block (B:=w.heap.size) (w0:=w) (W:=w9) [.int .u64 (NA:Int),.string (bs bs'),.string (bs cs'),.slice p3 j c3,.slice q1 i dd1] hz9 rfl (Nat.le_refl _) HBW9.out)
 have x0:=hx9.cell (i:=0) rfl
 have x1:=hx9.cell (i:=1) rfl
 have x2:=hx9.cell (i:=2) rfl
 have x3:=hx9.cell (i:=3) rfl
 have x4:=hx9.cell (i:=4) rfl
 clear hz9 hx9
 go_wp2
 refine bodyPost_ret (results_ct (p:=2) (u:=3) (ty:=28) Tryz.results11 rfl HFIN.out.1 Tryz.underlying28 rfl (by kernel_rfl) rfl) rfl ?_
 rw[HR2.out]
 exact⟨_,rfl,HBK9.out.kept (fun b hb=>by omega) (fun b hb _=>HFIN.out.2.2 b (by omega)),HFIN.out.2.1⟩
end Go.Proofs.YtcihbnpckicljaaGreatDoor
