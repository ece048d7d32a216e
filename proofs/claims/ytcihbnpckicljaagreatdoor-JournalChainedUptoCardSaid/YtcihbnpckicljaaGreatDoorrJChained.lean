/- JournalChained, walked. Conditions: bytes no more than 2^30; the tables read as the text lays them. -/
import Derived.Test.YtcihbnpckicljaaGreatDoorrJIs
set_option linter.unusedVariables false
set_option linter.unusedSimpArgs false
namespace Go.Proofs.YtcihbnpckicljaaGreatDoor
open Go Go.RowKit Go.BigFrame
open Go.Lib(hid)
set_option maxRecDepth 100000
set_option maxHeartbeats 16000000 in
theorem chained_any (s:List UInt8) (w:World) (hT:U8T w) (hK:Ks w) (hs:s.length<=1073741824):
 Calls Tryz.prog 5 #[.string (bs s)] w fun e' w'=>e'=.returned (.bool true)/\Below w.heap.size w w':=by
 have HT:=hid hT
 have HK:=hid hK
 obtain⟨hch,_,hnl,_⟩:=scan_chain (s.length+1) s 0 zero32
 have hag:=scan_again s
 have hsl:(scanV s).1.length<=1099511627776:=by have:=(scan_chain (s.length+1) s 0 zero32).2.2.2;unfold scanV;omega
 have hch':Chain 0 zero32 (scanV s).1:=hch
 have hnl':(scanV s).2<=s.length:=hnl
 have HS1:Hid (∀W,Below w.heap.size w W->Calls Tryz.prog 12 #[.string (bs s)] W (ScanOut W (scanV s))):=hid (fun W h=>scan_p s W (U8T_ext hT h) (hK.ext h) hs)
 have HS2:Hid (∀W,Below w.heap.size w W->Calls Tryz.prog 12 #[.string ((bs s).extract 0 (scanV s).2)] W (ScanOut W (scanV s))):=hid (fun W h=>by
  rw[show(bs s).extract 0 (scanV s).2=bs (s.take (scanV s).2)by rw[bs_extract];simp]
  have h2:=scan_p (s.take (scanV s).2) W (U8T_ext hT h) (hK.ext h) (by rw[List.length_take];omega)
  rw[hag]at h2
  exact h2)
 clear hag hch hnl
 generalize scanV s=sc at HS1 HS2 hsl hch' hnl'
 obtain⟨L,n⟩:=sc
 have hsl2:L.length<=1099511627776:=hsl
 have hnl2:n<=s.length:=hnl'
 have HCH:Hid (Chain 0 zero32 L):=hid hch'
 have hbsz:=bs_size s
 obtain⟨LS,hLS⟩:∃LS,LS=s.length:=⟨_,rfl⟩
 rw[←hLS]at hbsz hnl2 hs
 obtain⟨N,hN⟩:∃N,N=L.length:=⟨_,rfl⟩
 rw[←hN]at hsl2
 have HN:=hid hN
 clear hT hK hsl hch' hnl' hLS hN
 go_enter Tryz.func5,Tryz.ntmps5
 go_wp2_with fail
 go_at_call 14
 refine(lives_any w HT.out HK.out).mono ?_
 rintro e' w1 ⟨rfl,hb1⟩
 have HB1:=hid hb1
 clear hb1
 go_wp2_with fail
 go_at_call 12
 refine(HS1.out _ HB1.out).mono ?_
 rintro e' w2 ⟨p2,c2,rfl,_,hr2,hb2⟩
 have HR2:=hid hr2
 have HB2:=hid (below_ext HB1.out hb2)
 clear hr2 hb2
 go_wp2_with fail
 go_at_call 22
 refine(first6_any w2).mono ?_
 rintro e' w3 ⟨rfl,hb3⟩
 have HB3:=hid (below_ext HB2.out hb3)
 have HR3:=hid (HR2.out.ext relB hb3)
 clear hb3
 simp only[←HN.out]
 go_wp2
 go_loopw [5,29] (fun a b wr=>∃(j:Nat) (prev:List UInt8),a=.string (bs prev)/\b=.int .i64 (j:Int)/\j<=N/\Chain j prev (L.drop j)/\Below w3.heap.size w3 wr) (fun _ b _=>N-(intOf b).toNat)
 case atStart=>exact⟨0,zero32,rfl,rfl,Nat.zero_le _,by rw[List.drop_zero];exact HCH.out,Below.refl _ _⟩
 case round=>
 obtain⟨j,prev,rfl,rfl,hj,hcd,hbw⟩:=hrel
 have hszw:=hbw.size
 have HBW:=hid hbw
 by_cases hlt:j<N
 ·have hj1:j<L.length:=by rw[←HN.out];exact hlt
  obtain⟨g,o,cs,hp,hcells,hblk⟩:=(HR3.out.ext relB hbw) j hj1
  obtain⟨hw0,hwf,hsq,hpv,hnx⟩:=chain_drop hj1 hcd
  have hov:=hasBlk_ok hblk (whole_okv hw0)
  have hsh:=short_is hw0
  have hoh:=short_okH hblk
  have hpf:=parts_full (whole_parts hw0)
  have hrt:=(whole_ok hw0).2.2.2.1
  have hto:=(texts_ok (whole_ok hw0).2.1).1
  generalize L[j]=b at hblk hw0 hwf hsq hpv hnx hov hsh hoh hpf hrt hto
  have HSH:=hid hsh
  have HOV:=hid hov
  have HNX:=hid hnx
  have HTO:=hid hto
  have HPF:=hid hpf
  have HRT:=hid hrt
  have HBK:=hid hblk
  have HDG:Hid (∀W,Below w.heap.size w W->Calls Tryz.prog 19 #[.agg (headCs (shortP b).1).toArray] W fun e' w'=>e'=.returned (.string (bs (digP (shortP b).1)))/\Below W.heap.size W w'):=hid (fun W hb=>digest_any _ W hoh (U8T_ext HT.out hb) (HK.out.ext hb))
  have HSR:Hid (∀W,Below wr.heap.size wr W->Calls Tryz.prog 23 #[.agg cs.toArray] W (HeadOut W (shortP b))):=hid (fun W hb=>short_p b _ cs W (HBK.out.ext hb) HOV.out (U8T_ext (U8T_ext HT.out HB3.out) (below_ext HBW.out hb)) ((HK.out.ext HB3.out).ext (below_ext HBW.out hb)))
  clear hcd hbw hw0 hwf hnx hov hoh hpf hrt hto
  rw[hsh]at HDG HSR HNX
  clear hsh HSH
  subst hp
  obtain⟨bseq,bprev,broot,bsts,brevs⟩:=b
  simp only at hsq hpv HDG HSR HNX HOV HTO HPF HRT
  have HSQ:=hid hsq
  have HPV:=hid hpv
  clear hsq hpv
  obtain⟨ps,cp,pr,cr,rfl,hbd,_⟩:=hblk
  simp only at hbd HBK
  have hbq:bseq<18446744073709551616:=hbd.1
  obtain⟨d0,d1,d2,d3,d4⟩:=hcells.five5
  have hgr:=hcells.2.1
  generalize hT2:stsT bsts=T2 at HDG HSR HNX
  obtain⟨DG,hDG⟩:∃DG,DG=digP ⟨bseq,bprev,broot,brevs.length,T2⟩:=⟨_,rfl⟩
  rw[←hDG]at HDG HNX
  obtain⟨nr,hnr⟩:∃nr,nr=brevs.length:=⟨_,rfl⟩
  rw[←hnr]at HDG HSR HBK
  have HNR:=hid hnr
  have hnr64:nr<=64:=by rw[hnr];exact HPF.out.2.2.2.2.1
  clear hcells hbd hT2 hDG
  rw[←hnr]at d4
  clear hnr
  go_upto_region 8 with(fail)
  generalize hW4:World.alloc wr _=w4
  have hb4:Below wr.heap.size wr w4:=by rw[←hW4];exact(Below.refl _ _).alloc (Nat.le_refl _) _
  have hd4:IsBlk w4 wr.heap.size #[.int .u64 (bseq:Int),.string (bs bprev),.string (bs broot),.slice ps bsts.length cp,.slice pr nr cr] 28:=by rw[←hW4];exact IsBlk.new _ _ _
  obtain⟨b7,hb7⟩:∃b,b=wr.heap.size:=⟨_,rfl⟩
  rw[←hb7]at hd4
  rw[←hb7]
  have HB4:=hid hb4
  have HD4:=hid hd4
  have hlt4:=hd4.lt
  have x0:=hd4.cell (i:=0) rfl
  have x1:=hd4.cell (i:=1) rfl
  have x2:=hd4.cell (i:=2) rfl
  have x3:=hd4.cell (i:=3) rfl
  have x4:=hd4.cell (i:=4) rfl
  clear hW4 hb4 hd4 hb7 d0 d1 d2 d3 d4 hgr
  go_wp2_with fail
  go_at_call 23
  refine(HSR.out _ HB4.out).mono ?_
  rintro e' w5 ⟨rfl,hb5⟩
  have HB5:=hid (below_ext HB4.out hb5)
  have HD5:=hid (HD4.out.ext hb5)
  clear x0 x1 x2 x3 x4 hb5
  go_upto_region 9 with(fail)
  generalize hW6:World.alloc w5 _=w6
  have hb6:Below w5.heap.size w5 w6:=by rw[←hW6];exact(Below.refl _ _).alloc (Nat.le_refl _) _
  have hd6:IsBlk w6 w5.heap.size #[.int .u64 (bseq:Int),.string (bs bprev),.string (bs broot),.int .u64 (nr:Int),.string (bs T2)] 24:=by rw[←hW6];exact IsBlk.new _ _ _
  obtain⟨b8,hb8⟩:∃b,b=w5.heap.size:=⟨_,rfl⟩
  rw[←hb8]at hd6
  rw[←hb8]
  have HB6:=hid (below_ext HB5.out hb6)
  have hd5:=HD5.out.ext hb6
  have HD6:=hid hd5
  have hlt6:=hd6.lt
  have hlt5:=hd5.lt
  have x0:=hd5.cell (i:=0) rfl
  have x1:=hd5.cell (i:=1) rfl
  have x2:=hd5.cell (i:=2) rfl
  have x3:=hd5.cell (i:=3) rfl
  have x4:=hd5.cell (i:=4) rfl
  have y0:=hd6.cell (i:=0) rfl
  have y1:=hd6.cell (i:=1) rfl
  have y2:=hd6.cell (i:=2) rfl
  have y3:=hd6.cell (i:=3) rfl
  have y4:=hd6.cell (i:=4) rfl
  clear hW6 hb6 hd5 hd6 hb8
  have hkI:IntKind.u64.wrap (j:Int)=(j:Int):=by
   simp only[IntKind.wrap,IntKind.bits,IntKind.signed]
   first|omega|(simp;omega)
  have hqb:((bseq:Int) !=(j:Int)+1)=false:=by have:=HSQ.out;rw[bne_eq_false_iff_eq];omega
  have hqb2:((bseq:Int)==(j:Int)+1)=true:=by have:=HSQ.out;rw[beq_iff_eq];omega
  have hpb:((bs bprev).toList !=(bs prev).toList)=false:=by rw[bne_bs];exact decide_eq_false (by simpa using HPV.out)
  have hpb2:((bs bprev).toList==(bs prev).toList)=true:=by rw[bs_beq];exact decide_eq_true HPV.out
  go_wp2_with fail
  go_at_call 19
  refine(HDG.out _ (below_ext (below_ext HB3.out HBW.out) HB6.out)).mono ?_
  rintro e' w7 ⟨rfl,hb7'⟩
  have HB7:=hid (below_ext HB6.out hb7')
  have hd7:=HD6.out.ext hb7'
  have HD7:=hid hd7
  have hlt7:=hd7.lt
  clear x0 x1 x2 x3 x4 y0 y1 y2 y3 y4
  have x0:=hd7.cell (i:=0) rfl
  have x1:=hd7.cell (i:=1) rfl
  have x2:=hd7.cell (i:=2) rfl
  have x3:=hd7.cell (i:=3) rfl
  have x4:=hd7.cell (i:=4) rfl
  clear hb7' hd7 hqb hqb2 hpb hpb2 hkI hbq
  have HRW:Hid (RowIn HasRev 10 (fun b=>w1.heap.size<=b) w7 pr brevs):=hid (by
   obtain⟨_,_,pr',_,e,_,_,hrr⟩:=HBK.out.ext HB7.out
   simp only[List.cons.injEq,Value.slice.injEq,and_true]at e
   obtain⟨_,_,_,_,e1,_⟩:=e
   rw[e1]
   exact hrr.kept relR (fun b hb=>hb) (fun b _ _=>rfl))
  obtain⟨wO,hwO⟩:∃W,W=wr:=⟨_,rfl⟩
  subst hwO
  go_wp2
  go_loopw [10,60] (fun a b wq=>∃k:Nat,b=.int .i64 (k:Int)/\k<=nr/\wq.ownsRow w7.heap.size 9 1 a k (txV (brevs.take k))/\Below w7.heap.size w7 wq) (fun _ b _=>nr-(intOf b).toNat)
  case atStart=>exact⟨0,rfl,Nat.zero_le _,⟨rfl,Or.inl ⟨rfl,rfl⟩⟩,Below.refl _ _⟩
  case round=>
  obtain⟨k,rfl,hk,hown,hbq⟩:=hrel
  have hszq:=hbq.size
  have HO:=hid hown
  have HBQ:=hid hbq
  by_cases hkl:k<nr
  ·have hkr:k<brevs.length:=by rw[←HNR.out];exact hkl
   obtain⟨g,o,cs,hpr,hcells,hrev⟩:=(HRW.out.ext relR hbq) k hkr
   have hx:=HOV.out _ (List.getElem_mem hkr)
   have hto:=HTO.out _ (List.getElem_mem hkr)
   have htk:=take_snoc hkr
   generalize hxe:brevs[k]=r at hcells hrev hx htk hto
   have HTK:=hid htk
   obtain⟨x,hxx⟩:∃x,x=(revT r).1:=⟨_,rfl⟩
   have HX:=hid hxx
   have HCT:Hid (∀w',Below wr.heap.size wr w'->Calls Tryz.prog 24 #[.agg cs.toArray] w' fun e' w2=>e'=.returned (.tuple #[.string (bs x),.int .i64 0])/\Below w'.heap.size w' w2):=hid (fun w' hb=>by
    have h2:=revText_any r _ cs w' (relR.kept hrev (fun _ h=>h) (fun b _ hlt=>hb.block b hlt)) (U8T_ext (U8T_ext (U8T_ext HT.out HB3.out) (below_ext HBW.out HB7.out)) (below_ext HBQ.out hb)) hx.len
    rw[hto,←hxx]at h2
    exact h2)
   clear hown hbq hx htk hto hxe hxx
   obtain⟨rk,rt,rd,rn,rv⟩:=r
   obtain⟨cs',rfl,hbd,hv⟩:=hrev
   obtain⟨vk,vb,vn,vs,vl,vf⟩:=rv
   obtain⟨pl,cl,pf,cf,rfl,_⟩:=hasVal_mk.1 hv
   subst hpr
   obtain⟨e0,e1,e2,e3,e4,e5,e6,e7,e8,e9⟩:=hcells.ten
   have hgr:=hcells.2.1
   clear hcells hv hbd
   go_wp2_with fail
   go_at_call 24
   refine(HCT.out _ ((Below.refl _ _).alloc (Nat.le_refl _) _)).mono ?_
   rintro e' w8 ⟨rfl,hb8⟩
   have hb9:=below_ext ((Below.refl wr.heap.size wr).alloc (Nat.le_refl _) _) hb8
   have HB9:=hid (below_ext HBQ.out hb9)
   have hsz9:=hb9.size
   have hO9:=own_ext HO.out hb9
   have HO9:=hid hO9
   clear e0 e1 e2 e3 e4 e5 e6 e7 e8 e9 hb8 hb9 hO9 HO HBQ
   go_wp2_with(at_builtin;refine push_one w7.heap.size rfl _ _ 25 9 (.string ⟨#[]⟩) 16 rfl Tryz.underlying25 (by kernel_rfl) rfl (by decide) _ (txV (brevs.take k)) (by rw[txV_len,List.length_take,Nat.min_eq_left (by omega)];exact HO9.out) (.string (bs x)) rfl rfl rfl (by omega) (by rw[txV_len,List.length_take];omega) ?_)
   intro v1 w10 hown3 hg3
   have hown4:w10.ownsRow w7.heap.size 9 1 v1 (k+1) (txV (brevs.take (k+1))):=by
    rw[txV_len,List.length_take,Nat.min_eq_left (by omega)]at hown3
    rw[HTK.out]
    unfold txV at hown3⊢
    rw[List.map_append,List.map_cons,List.map_nil,←HX.out]
    exact hown3
   have hb3:=below_grown HB9.out hg3 (by omega) (fun z hz=>(HO9.out.lt z hz).1)
   have HB10:=hid hb3
   have HO10:=hid hown4
   clear hown3 hg3 hown4 hb3
   go_wp2
   go_roundw
   case rel=>exact⟨k+1,by go_num,hkl,HO10.out,HB10.out⟩
   case measure=>simp[intOf];omega
  obtain rfl:k=nr:=by omega
  have hall:brevs.take k=brevs:=by rw[HNR.out,List.take_length]
  rw[hall]at hown
  rw[HNR.out]at hown
  obtain⟨p1,c1,rfl,hc1,hs1⟩:=texts_has hown HTO.out
  have hnt:(textsP brevs).1.length<=64:=by
   have h1:(textsP brevs).1.length=brevs.length:=HPF.out.2.2.2.2.2.2.2.2.1
   have h2:=HNR.out
   omega
  have hsL:∀s∈(textsP brevs).1,s.length<=1099511627776:=fun s hs=>by have:=HPF.out.2.2.2.2.2.2.2.2.2.1 s hs;omega
  have hrt:=HRT.out
  generalize(textsP brevs).1=TT at hs1 hnt hsL hrt
  have HNE:=hid (new_any TT _ p1 c1 wr hs1 (by omega))
  obtain⟨nt,hnte⟩:∃nt,nt=TT.length:=⟨_,rfl⟩
  rw[←hnte]at HNE hnt⊢
  have HNT:=hid hnte
  have HSL:=hid hsL
  have HRT2:=hid hrt
  clear hown hall hs1 hsL hrt hnte HO hbq
  go_wp2_with fail
  go_at_call 25
  refine HNE.out.mono ?_
  rintro e' w10 ⟨gt,tp,cap,rfl,htree,hb10⟩
  have hgt:wr.heap.size<=gt:=by rcases htree with⟨_,_,h,_⟩|⟨h,_⟩<;>exact h
  have hgl:gt<w10.heap.size:=by obtain⟨_,_,_,_,h⟩:=htree.block;exact h.lt
  have HKX:=hid ((((HK.out.ext HB3.out).ext HBW.out).ext HB7.out).ext HBQ.out)
  have hkl:=HKX.out.lt
  have HB10:=hid hb10
  have hsz10:=hb10.size
  have hdr:Below w10.heap.size w10 w10.drew:=(Below.refl _ _).drew
  have hro:=root_any (fun x=>wr.heap.size<=x) TT gt tp cap w10.drew ((HKX.out.ext hb10).ext hdr) (by omega) (by rw[←HNT.out];omega) HSL.out (htree.ext hdr) (fun x hx=>by have:w10.drew.heap.size=w10.heap.size:=rfl;omega)
  rw[HRT2.out]at hro
  have HRO:=hid hro
  have hd10:=(HD7.out.ext HBQ.out).ext hb10
  have hlt10:b7<w7.heap.size:=hlt7
  have og7:Og gt w10 b7:=⟨by omega,by omega⟩
  have y0:=hd10.cell (i:=0) rfl
  have y1:=hd10.cell (i:=1) rfl
  have y2:=hd10.cell (i:=2) rfl
  have y3:=hd10.cell (i:=3) rfl
  have y4:=hd10.cell (i:=4) rfl
  have hrr:((bs broot).toList !=(bs broot).toList)=false:=by simp
  have hrr2:((bs broot).toList==(bs broot).toList)=true:=by simp
  clear x0 x1 x2 x3 x4 htree hb10 hdr hro hd10
  go_upto_region 22 with(fail)
  refine mixB_start [] (ClsG gt w10) (by kernel_rfl) (ClsG.drew gt w10) (fun hCw=>?_)
  refine mixB_flt (by kernel_rfl) [0,1,2,3,5,6] 3 _ _ hCw (by kernel_rfl) ?_
  simp only[opsAt,zo1,zo2,zo3,zo4,zo5]
  unfold ClsG
  repeat(go_big_quiet_step (fail))
  refine wpQuiet_nil ?_
  (try rw[←ClsG_def])
  refine mixB_ch (i:=4) (fuel:=2) (by kernel_rfl) (by kernel_rfl) ?_
  simp only[opsAt,zo1,zo2,zo3,zo4,zo5]
  go_wp2_with(go_at_call 26;refine HRO.out.mono ?_;rintro e' w11 ⟨rfl,bq,hk11,hb11,hm11⟩)
  refine ThenB.mk (hCw.trans hk11) (fun hCw=>?_)
  refine mixB_flt (by kernel_rfl) [7,8] 0 _ _ hCw (by kernel_rfl) ?_
  simp only[opsAt,zo1,zo2,zo3,zo4,zo5]
  unfold ClsG
  repeat(go_big_quiet_step (fail))
  refine wpQuiet_nil ?_
  (try rw[←ClsG_def])
  refine mixB_end [] (by kernel_rfl) ?_
  refine wpList_nil ?_
  refine Calm.normal ?_
  have HB11:Hid (Below w3.heap.size w3 w11):=hid (below_ext (below_ext HBW.out HB7.out) (below_ext HBQ.out ((HB10.out.drew).trans (hb11.mono hgt))))
  clear hCw hk11 hb11 hm11 y0 y1 y2 y3 y4 og7 hrr hrr2
  go_wp2
  go_roundw
  case rel=>exact⟨j+1,DG,rfl,by go_num,by omega,HNX.out,HB11.out⟩
  case measure=>simp[intOf];omega
 have HBW2:=hid (below_ext HB3.out HBW.out)
 clear hcd hbw
 go_wp2_with fail
 go_at_call 12
 refine(HS2.out _ HBW2.out).mono ?_
 rintro e' w12 ⟨p12,c12,rfl,_,hr12,hb12⟩
 have HSA:Hid (∀W,Below w12.heap.size w12 W->Calls Tryz.prog 16 #[.slice p2 N c2,.slice p12 L.length c12] W fun e' w'=>e'=.returned (.bool true)/\Below W.heap.size W w'):=hid (fun W hb=>by
  have h:=sameAll_any L L _ _ p2 p12 c2 c12 W ((HR3.out.ext relB HBW.out).ext relB (below_ext hb12 hb)) (hr12.ext relB hb) (by rw[←HN.out];exact hsl2) (by rw[←HN.out];exact hsl2)
  rw[eqv_self,←HN.out]at h
  rw[←HN.out]
  exact h)
 have HB12:=hid (below_ext HBW2.out hb12)
 clear hb12 hr12
 go_wp2_with fail
 go_at_call 16
 refine(HSA.out _ (Below.refl _ _)).mono ?_
 rintro e' w13 ⟨rfl,hb13⟩
 have HB13:=hid (below_ext HB12.out hb13)
 clear hb13
 go_wp2
 go_ret
 exact⟨rfl,HB13.out⟩
end Go.Proofs.YtcihbnpckicljaaGreatDoor
