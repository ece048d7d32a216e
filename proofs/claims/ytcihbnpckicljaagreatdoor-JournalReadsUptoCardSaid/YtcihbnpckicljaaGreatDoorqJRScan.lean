/- The document's Scan. Conditions: bytes no more than 2^30; the tables read as the text lays them. -/
import Derived.Test.YtcihbnpckicljaaGreatDoorqJShort
import Derived.Test.YtcihbnpckicljaaGreatDoorqJChain
set_option linter.unusedVariables false
set_option linter.unusedSimpArgs false
namespace Go.Proofs.YtcihbnpckicljaaGreatDoor
open Go Go.RowKit Go.BigFrame
open Go.Lib(hid)
set_option maxRecDepth 100000
theorem relB :Rel HasBlk 5 where
 kept:=fun h h1 h2=>h.kept h1 h2
 lt:=fun⟨ps,cp,pr,cr,h,hbd,h1,h2⟩=>⟨ps,cp,pr,cr,h,hbd,fun i hi=>by
  obtain⟨g,o,e1,e2,e3,e4⟩:=h1 i hi
  exact⟨g,o,e1,⟨e2,e3⟩,e3,e4⟩,fun i hi=>by
  obtain⟨g,o,cs,e1,e2,e3⟩:=h2 i hi
  exact⟨g,o,cs,e1,⟨⟨e2.1,e2.2.1⟩,e2.2⟩,relR.lt e3⟩⟩
 len:=fun⟨ps,cp,pr,cr,h,_⟩=>by rw[h];rfl
 one:=fun⟨ps,cp,pr,cr,h,_⟩=>by
  intro u hu
  rw[h]at hu
  simp only[List.mem_cons,List.not_mem_nil,or_false]at hu
  rcases hu with rfl|rfl|rfl|rfl|rfl<;>simp[Value.oneCell']
def ScanOut (w:World) (r:List DBlk×Nat) (e':Ending) (w':World):Prop:=∃p c,e'=.returned (.tuple #[.slice p r.1.length c,.int .i64 (r.2:Int)])/\(r.1.length<=c/\c<=maxLen)/\RowIn HasBlk 5 (fun b=>w.heap.size<=b) w' p r.1/\Below w.heap.size w w'
theorem scan_fin {w wx:World} {v:Value} {l:List DBlk} {n:Nat} (h:Acc HasBlk w.heap.size 28 5 wx v l) (hb:Below w.heap.size w wx):ScanOut w (l,n) (.returned (.tuple #[v,.int .i64 (n:Int)])) wx:=by
 obtain⟨p,c,rfl,h1,h2,h3⟩:=h.cells relB (S:=fun b=>w.heap.size<=b) (fun b hb=>hb)
 refine⟨p,c,rfl,⟨h1,h2⟩,fun i hi=>?_,hb⟩
 obtain⟨g,cs,e1,e2,e3⟩:=h3 i hi
 exact⟨g,0,cs,e1,e2,e3⟩
theorem make32 (W:World):(Instr.makeSlice 85 (.int .i64 32) (.int .i64 32)).run Tryz.prog W=.ok (.slice (some ⟨W.heap.size,0,none⟩) 32 32) (W.alloc (.cells (u8s zero32).toArray 5)):=by
 obtain⟨i0,hi,hzz⟩:=Option.map_eq_some_iff.1 (show(Tryz.prog.info? 5).map (fun i=>(i.zero,i.size,i.bytes))=some (some (.int .u8 0),1,1)by kernel_rfl)
 simp only[Prod.mk.injEq]at hzz
 obtain⟨hz0,hz1,hz2⟩:=hzz
 have h:=run_make (P:=Tryz.prog) W 85 5 i0 (.int .u8 0) Tryz.underlying85 hi hz0 .i64 .i64 32 32 (by omega) (by omega) (by rw[hz2];omega) (by omega)
 rw[hz1]at h
 rw[h,show madeCells (Value.int .u8 0).cells (Int.toNat 32*1)=(u8s zero32).toArray by kernel_rfl]
 rfl
theorem byte_at {s:List UInt8} {i:Nat} (h:i<(bs s).size):((bs s)[i]'h).toNat=(s.getD i 0).toNat:=by
 rw[bs_get,List.getD_eq_getElem?_getD,List.getElem?_eq_getElem]
 rfl
theorem conv32 (w:World):(convert 85 9 (.slice (some ⟨w.heap.size,0,none⟩) 32 32)).run Tryz.prog (w.alloc (.cells (u8s zero32).toArray 5))=.ok (.string (bs zero32)) (w.alloc (.cells (u8s zero32).toArray 5)):=
 run_string_blk (P:=Tryz.prog) (w:=w.alloc (.cells (u8s zero32).toArray 5)) 85 5 9 Tryz.underlying85 Tryz.underlying5 Tryz.underlying9 (g:=w.heap.size) (n:=32) (cap:=32) (t:=5) (l:=zero32) (by simp[zero32]) (IsBlk.new _ _ _)
set_option maxHeartbeats 2000000 in
theorem rfirst_any (w:World):Calls Tryz.prog 48 #[] w fun e' w'=>e'=.returned (.string (bs zero32))/\Below w.heap.size w w':=by
 have hmk:=make32 w
 have hcv:=conv32 w
 go_enter Tryz.func48,Tryz.ntmps48
 go_wp2
 go_ret
 exact⟨rfl,(Below.refl _ _).alloc (Nat.le_refl _) _⟩
theorem readB_okv (t:List UInt8):∀r∈(readB t).1.revs,(textV r.v).length<=16384:=by
 intro r hr
 rw[readB_rb]at hr
 split at hr
 ·cases hr
 ·obtain⟨v,_,rfl⟩:=List.mem_map.1 hr
  exact rrM_len _
theorem hasBlk_ok {S:Nat->Prop} {w:World} {b:DBlk} {cs:List Value} (h:HasBlk S w b cs) (hl:∀r∈b.revs,(textV r.v).length<=16384):∀r∈b.revs,okR r:=by
 obtain⟨ps,cp,pr,cr,_,_,_,h2⟩:=h
 exact rowRev_ok h2 hl
theorem okH_zero :okH .zero:=⟨by decide,by decide,by decide,by decide,by decide⟩
theorem short_okH {S:Nat->Prop} {w:World} {b:DBlk} {cs:List Value} (h:HasBlk S w b cs):okH (shortP b).1:=by
 obtain⟨ps,cp,pr,cr,_,hbd,_⟩:=h
 unfold shortP
 split
 ·exact okH_zero
 ·exact⟨hbd.1,hbd.2.1,hbd.2.2.1,by have:=hbd.2.2.2.2.1;show b.revs.length<_;omega,by show(stsT b.sts).length<=_;unfold stsT;rw[shaL_length];omega⟩
theorem scan_step {d t:List UInt8} {l:List DBlk} {n1 f n:Nat} {prev:List UInt8} {R:List DBlk×Nat} (h12:12<=d.length) (hn:sizeP d=n) (hle:n<=d.length-12) (ht:t=(d.drop 12).take n)
 (hR:R=(l++(scanP (f+1) d l.length prev).1,n1+(scanP (f+1) d l.length prev).2)):
 R=if d.take (12+n)≠framedP t then(l,n1)else if(readB t).2≠0\/(readB t).1.seq≠l.length+1\/(readB t).1.prev≠prev then(l,n1)else
  ((l++[(readB t).1])++(scanP f (d.drop (12+n)) (l++[(readB t).1]).length (digP (shortP (readB t).1).1)).1,n1+12+n+(scanP f (d.drop (12+n)) (l++[(readB t).1]).length (digP (shortP (readB t).1).1)).2):=by
 have htl:t.length=n:=by rw[ht,List.length_take,List.length_drop];omega
 rw[hR,scanP]
 by_cases hf:d.take (12+n)≠framedP t
 ·have:stepP d=none:=by unfold stepP;rw[if_neg (by omega),hn,if_neg (by omega),←ht,if_pos hf]
  rw[this,if_pos hf]
  simp
 ·have:stepP d=some t:=by unfold stepP;rw[if_neg (by omega),hn,if_neg (by omega),←ht,if_neg hf]
  rw[this,if_neg hf]
  simp only
  by_cases hc:(readB t).2≠0\/(readB t).1.seq≠l.length+1\/(readB t).1.prev≠prev
  ·rw[if_pos hc,if_pos hc]
   simp
  ·rw[if_neg hc,if_neg hc,htl,List.length_append]
   simp[Nat.add_assoc]
set_option maxHeartbeats 8000000 in
theorem rscan_p (s:List UInt8) (w:World) (hT:U8T w) (hK:Ks w) (hs:s.length<=1073741824):
 Calls Tryz.prog 13 #[.string (bs s)] w (ScanOut w (scanV s)):=by
 have hsz:=bs_size s
 obtain⟨L,hL⟩:∃L,L=s.length:=⟨_,rfl⟩
 rw[←hL]at hs hsz
 have HL:=hid hL
 have HT:=hid hT
 have HK:=hid hK
 obtain⟨R,hR⟩:∃R,R=scanV s:=⟨_,rfl⟩
 rw[←hR]
 have HR:=hid hR
 clear hT hK hR hL
 go_enter Tryz.func13,Tryz.ntmps13
 go_wp2_with fail
 go_at_call 48
 refine(rfirst_any w).mono ?_
 rintro e' w1 ⟨rfl,hb1⟩
 have HB1:=hid hb1
 clear hb1
 go_wp2
 go_loopw [4,5,6] (fun v p a wr=>∃(l1:List DBlk) (n1 f:Nat) (prev:List UInt8),p=.string (bs prev)/\a=.int .i64 (n1:Int)/\n1<=L/\l1.length<=n1/\prev.length<=32/\(s.drop n1).length<f/\R=(l1++(scanP f (s.drop n1) l1.length prev).1,n1+(scanP f (s.drop n1) l1.length prev).2)/\Acc HasBlk w.heap.size 28 5 wr v l1/\Below w.heap.size w wr) (fun _ _ a _=>L-(intOf a).toNat)
 case atStart=>exact⟨[],0,s.length+1,zero32,rfl,rfl,Nat.zero_le _,Nat.le_refl _,by simp[zero32],by rw[List.drop_zero];omega,by rw[HR.out,List.drop_zero];simp[scanV],Acc.nil _ _ _,HB1.out⟩
 case round=>
 obtain⟨l1,n1,f,prev,rfl,rfl,hn1,hll,hpl,hf,hre,hacc,hbw⟩:=hrel
 obtain⟨f,rfl⟩:∃f',f=f'+1:=⟨f-1,by omega⟩
 obtain⟨q1,d1,hav⟩:=hacc.slice
 obtain⟨k,hk⟩:∃k,k=l1.length:=⟨_,rfl⟩
 rw[←hk]at hav hll
 subst hav
 have HKL:=hid hk
 clear hk
 obtain⟨d,hd⟩:∃d,d=s.drop n1:=⟨_,rfl⟩
 rw[←hd]at hf hre
 have HD:=hid hd
 have hdl:d.length=L-n1:=by rw[hd,List.length_drop,HL.out]
 have HRE:=hid hre
 have HAC:=hid hacc
 have HBW:=hid hbw
 have hszw:=hbw.size
 clear hre hacc hbw hd
 by_cases h12:L-n1<12
 ·have hI:(L:Int)-(n1:Int)<12:=by omega
  have HR2:Hid (R=(l1,n1)):=hid (by
   rw[HRE.out,scanP]
   have:stepP d=none:=by unfold stepP;rw[if_pos (by omega)]
   rw[this]
   simp)
  clear h12
  go_wp2
  go_ret2
  rw[HR2.out]
  exact scan_fin HAC.out HBW.out
 have hI:12<=(L:Int)-(n1:Int):=by omega
 clear h12
 obtain⟨Q0,hQ0⟩:∃Q,Q=(s.getD n1 0).toNat:=⟨_,rfl⟩
 obtain⟨Q1,hQ1⟩:∃Q,Q=(s.getD (n1+1) 0).toNat:=⟨_,rfl⟩
 obtain⟨Q2,hQ2⟩:∃Q,Q=(s.getD (n1+2) 0).toNat:=⟨_,rfl⟩
 obtain⟨Q3,hQ3⟩:∃Q,Q=(s.getD (n1+3) 0).toNat:=⟨_,rfl⟩
 have hy0:∀h,((bs s)[n1]'h).toNat=Q0:=fun h=>by rw[byte_at,hQ0]
 have hy1:∀h,((bs s)[n1+1]'h).toNat=Q1:=fun h=>by rw[byte_at,hQ1]
 have hy2:∀h,((bs s)[n1+2]'h).toNat=Q2:=fun h=>by rw[byte_at,hQ2]
 have hy3:∀h,((bs s)[n1+3]'h).toNat=Q3:=fun h=>by rw[byte_at,hQ3]
 have hq0:Q0<256:=by rw[hQ0];exact UInt8.toNat_lt _
 have hq1:Q1<256:=by rw[hQ1];exact UInt8.toNat_lt _
 have hq2:Q2<256:=by rw[hQ2];exact UInt8.toNat_lt _
 have hq3:Q3<256:=by rw[hQ3];exact UInt8.toNat_lt _
 have hi0:n1<L:=by omega
 have hi1:n1+1<L:=by omega
 have hi2:n1+2<L:=by omega
 have hi3:n1+3<L:=by omega
 have hJ1:(n1:Int)+1<(L:Int):=by omega
 have hJ2:(n1:Int)+2<(L:Int):=by omega
 have hJ3:(n1:Int)+3<(L:Int):=by omega
 have hM2:((n1:Int)+2).toNat=n1+2:=by omega
 have hM3:((n1:Int)+3).toNat=n1+3:=by omega
 have HSP:Hid (sizeP d=Q0+256*Q1+65536*Q2+16777216*Q3):=hid (by
  rw[hQ0,hQ1,hQ2,hQ3,HD.out]
  unfold sizeP
  simp only[List.getD_eq_getElem?_getD,List.getElem?_drop,Nat.add_zero])
 clear hQ0 hQ1 hQ2 hQ3
 go_upto_region 5 with(fail)
 refine mixB_start [] (Cls wr) (by kernel_rfl) (Cls.of ((Below.refl _ _).drew)) (fun hCw=>?_)
 refine mixB_flt (by kernel_rfl) [0,1,2,3,4,5,6,7,8,9,10,11,12,13,14,15,16,17,18,19,20,21,22,23,24,25] 0 _ _ hCw (by kernel_rfl) ?_
 simp only[opsAt,zo1,zo2,zo3,zo4,zo5]
 unfold Cls
 repeat(go_big_quiet_step (fail))
 refine wpQuiet_nil ?_
 (try rw[←Cls_def])
 refine mixB_end [] (by kernel_rfl) ?_
 refine wpList_nil ?_
 refine Calm.normal ?_
 obtain⟨n,hn⟩:∃n,n=Q0+256*Q1+65536*Q2+16777216*Q3:=⟨_,rfl⟩
 have hnI:(Q0:Int)+256*(Q1:Int)+65536*(Q2:Int)+16777216*(Q3:Int)=(n:Int):=by omega
 rw[hnI]
 have HSN:Hid (sizeP d=n):=hid (by rw[HSP.out,hn])
 have hnl:n<4294967296:=by omega
 generalize hw2:({wr with drawn:=wr.drawn+1}:World)=w2
 have hb2:Below wr.heap.size wr w2:=by rw[←hw2];exact(Below.refl _ _).drew
 have HB2:=hid (HBW.out.trans (hb2.mono hszw))
 have HA2:=hid (HAC.out.kept relB (fun z hz hlt=>hb2.block z hlt))
 clear hw2 hb2 hCw hn hnI hy0 hy1 hy2 hy3 hq0 hq1 hq2 hq3 hi0 hi1 hi2 hi3 hJ1 hJ2 hJ3 hM2 hM3 HSP HAC HBW
 by_cases hgt:L-n1-12<n
 ·have hgI:(L:Int)-(n1:Int)-12<(n:Int):=by omega
  have HR2:Hid (R=(l1,n1)):=hid (by
   rw[HRE.out,scanP]
   have:stepP d=none:=by unfold stepP;rw[if_neg (by omega),HSN.out,if_pos (by omega)]
   rw[this]
   simp)
  clear hgt
  go_wp2
  go_ret2
  rw[HR2.out]
  exact scan_fin HA2.out HB2.out
 have hgI:(n:Int)<=(L:Int)-(n1:Int)-12:=by omega
 obtain⟨E,hE⟩:∃E,E=n1+12+n:=⟨_,rfl⟩
 have hEI:(n1:Int)+12+(n:Int)=(E:Int):=by omega
 have hEL:E<=L:=by omega
 obtain⟨t,ht⟩:∃t,t=(d.drop 12).take n:=⟨_,rfl⟩
 have hte:(bs s).extract (n1+12) E=bs t:=by
  rw[bs_extract,ht,HD.out,List.drop_drop,List.drop_take]
  congr 1
  rw[show E-(n1+12)=n by omega]
 have htl:t.length=n:=by rw[ht,List.length_take,List.length_drop];omega
 have HTT:=hid ht
 have HEE:=hid hE
 clear hgt ht hE
 have hst:=scan_step (n1:=n1) (l:=l1) (by omega) HSN.out (by omega) HTT.out HRE.out
 have hD:(bs s).extract n1 E=bs (d.take (12+n)):=by
  rw[bs_extract,HD.out,List.drop_take]
  congr 1
  rw[show E-n1=12+n by have:=HEE.out;omega]
 have hrd:=rread_p t w2 (U8T_ext HT.out HB2.out) (by omega)
 have hov:=readB_okv t
 generalize readB t=rb at hst hrd hov
 obtain⟨⟨bseq,bprev,broot,bsts,brevs⟩,why⟩:=rb
 obtain⟨DD,hDD⟩:∃DD,DD=d.take (12+n):=⟨_,rfl⟩
 rw[←hDD]at hst hD
 obtain⟨F,hF⟩:∃F,F=framedP t:=⟨_,rfl⟩
 rw[←hF]at hst
 have HST:Hid (R=if DD≠F then(l1,n1)else if why≠0\/bseq≠k+1\/bprev≠prev then(l1,n1)else
  ((l1++[(⟨bseq,bprev,broot,bsts,brevs⟩:DBlk)])++(scanP f (d.drop (12+n)) (l1++[(⟨bseq,bprev,broot,bsts,brevs⟩:DBlk)]).length (digP (shortP (⟨bseq,bprev,broot,bsts,brevs⟩:DBlk)).1)).1,n1+12+n+(scanP f (d.drop (12+n)) (l1++[(⟨bseq,bprev,broot,bsts,brevs⟩:DBlk)]).length (digP (shortP (⟨bseq,bprev,broot,bsts,brevs⟩:DBlk)).1)).2)):=hid (by rw[HKL.out];exact hst)
 have HRD:=hid hrd
 have HOV:Hid (∀r∈brevs,(textV r.v).length<=16384):=hid hov
 have HFR:Hid (∀w',Below w2.heap.size w2 w'->Calls Tryz.prog 49 #[.string (bs t)] w' fun e' w2=>e'=.returned (.string (bs F))/\Below w'.heap.size w' w2):=hid (fun w' h=>by rw[hF];exact rframed_any t w' (by omega) ((HK.out.ext HB2.out).ext h))
 clear hst hrd hov hDD hF HRE HTT
 go_upto_region 9 with(fail)
 rw[hte]
 clear hte
 go_wp2_with fail
 go_at_call 11
 refine HRD.out.mono ?_
 rintro e' w3 ⟨cs,rfl,hbk,hb3⟩
 have HBK:=hid hbk
 obtain⟨ps,cp,pr,cr,rfl,hbd,_⟩:=hbk
 have hbq:bseq<18446744073709551616:=hbd.1
 go_upto_region 10 with(fail)
 generalize hW4:World.alloc w3 _=w4
 have hb34:Below w3.heap.size w3 w4:=by rw[←hW4];exact(Below.refl _ _).alloc (Nat.le_refl _) _
 have hd4:IsBlk w4 w3.heap.size #[.int .u64 (bseq:Int),.string (bs bprev),.string (bs broot),.slice ps bsts.length cp,.slice pr brevs.length cr] 28:=by rw[←hW4];exact IsBlk.new _ _ _
 have hb24:=below_ext hb3 hb34
 have HB24:=hid hb24
 have HB4:=hid (below_ext HB2.out hb24)
 have HA4:=hid (HA2.out.kept relB (fun z hz hlt=>hb24.block z hlt))
 have HBK4:Hid (HasBlk (fun b=>w2.heap.size<=b) w4 ⟨bseq,bprev,broot,bsts,brevs⟩ [.int .u64 (bseq:Int),.string (bs bprev),.string (bs broot),.slice ps bsts.length cp,.slice pr brevs.length cr]):=hid (HBK.out.ext hb34)
 have HD4:=hid hd4
 have hlt4:=hd4.lt
 have hsz24:=hb24.size
 have x0:=hd4.cell (i:=0) rfl
 have x1:=hd4.cell (i:=1) rfl
 have x2:=hd4.cell (i:=2) rfl
 have x3:=hd4.cell (i:=3) rfl
 have x4:=hd4.cell (i:=4) rfl
 clear hW4 hb3 hb34 hb24 hbd hd4 HBK HRD
 have hnE:n1<=E:=by have:=HEE.out;omega
 have hnEI:(n1:Int)<=(E:Int):=by omega
 have hELI:(E:Int)<=(L:Int):=by omega
 have hstop:(DD≠F\/why≠0\/bseq≠k+1\/bprev≠prev)->R=(l1,n1):=fun h=>by
  rw[HST.out]
  by_cases h1:DD≠F
  ·rw[if_pos h1]
  ·rw[if_neg h1,if_pos (by rcases h with h|h;exact absurd h h1;exact h)]
 have HSTOP:=hid hstop
 clear hstop
 by_cases h1:F=DD
 case neg=>
  have hne:((bs F).toList !=(bs DD).toList)=true:=by rw[bne_bs];exact decide_eq_true h1
  have hne2:((bs F).toList==(bs DD).toList)=false:=by rw[bs_beq];exact decide_eq_false h1
  have hne3:((bs F).toList==((bs s).extract n1 E).toList)=false:=by rw[hD];exact hne2
  have HR2:=hid (HSTOP.out (.inl (fun e=>h1 e.symm)))
  clear h1
  refine mixB_start [] (Cls w4) (by kernel_rfl) (Cls.of ((Below.refl _ _).drew)) (fun hCw=>?_)
  refine mixB_flt (by kernel_rfl) [0,2,3,4,5] 21 _ _ hCw (by kernel_rfl) ?_
  simp only[opsAt,zo1,zo2,zo3,zo4,zo5]
  unfold Cls
  repeat(go_big_quiet_step (fail))
  refine wpQuiet_nil ?_
  (try rw[←Cls_def])
  refine mixB_ch (i:=1) (fuel:=20) (by kernel_rfl) (by kernel_rfl) ?_
  simp only[opsAt,zo1,zo2,zo3,zo4,zo5]
  go_wp2_with(go_at_call 49;refine(HFR.out _ (HB24.out.trans (hCw.below.mono hsz24))).mono ?_;rintro e' w5 ⟨rfl,hb5⟩)
  refine ThenB.mk (hCw.trans hb5) (fun hCw=>?_)
  refine mixB_flt (by kernel_rfl) [6,7,8,9,10,11,12,13,14,15,16,17,18,19,20,21,22,23,24,25] 0 _ _ hCw (by kernel_rfl) ?_
  simp only[opsAt,zo1,zo2,zo3,zo4,zo5]
  unfold Cls
  repeat(go_big_quiet_step (fail))
  refine wpQuiet_nil ?_
  (try rw[←Cls_def])
  refine mixB_end [] (by kernel_rfl) ?_
  refine wpList_nil ?_
  refine Calm.normal ?_
  have HB5:=hid (below_ext HB4.out hCw.below)
  have HA5:=hid (HA4.out.kept relB (fun z hz hlt=>hCw.below.block z hlt))
  clear hCw hb5 x0 x1 x2 x3 x4
  go_wp2
  go_ret2
  rw[HR2.out]
  exact scan_fin HA5.out HB5.out
 have hne:((bs F).toList !=(bs DD).toList)=false:=by rw[bne_bs];exact decide_eq_false (by simpa using h1)
 have hne2:((bs F).toList==(bs DD).toList)=true:=by rw[bs_beq];exact decide_eq_true h1
 have hne3:((bs F).toList==((bs s).extract n1 E).toList)=true:=by rw[hD];exact hne2
 by_cases h2:why=0
 case neg=>
  have hwb:(why !=0)=true:=by rw[bne_iff_ne];exact h2
  have HR2:=hid (HSTOP.out (.inr (.inl h2)))
  clear h1 h2
  refine mixB_start [] (Cls w4) (by kernel_rfl) (Cls.of ((Below.refl _ _).drew)) (fun hCw=>?_)
  refine mixB_flt (by kernel_rfl) [0,2,3,4,5] 21 _ _ hCw (by kernel_rfl) ?_
  simp only[opsAt,zo1,zo2,zo3,zo4,zo5]
  unfold Cls
  repeat(go_big_quiet_step (fail))
  refine wpQuiet_nil ?_
  (try rw[←Cls_def])
  refine mixB_ch (i:=1) (fuel:=20) (by kernel_rfl) (by kernel_rfl) ?_
  simp only[opsAt,zo1,zo2,zo3,zo4,zo5]
  go_wp2_with(go_at_call 49;refine(HFR.out _ (HB24.out.trans (hCw.below.mono hsz24))).mono ?_;rintro e' w5 ⟨rfl,hb5⟩)
  refine ThenB.mk (hCw.trans hb5) (fun hCw=>?_)
  refine mixB_flt (by kernel_rfl) [6,7,8,9,10,11,12,13,14,15,16,17,18,19,20,21,22,23,24,25] 0 _ _ hCw (by kernel_rfl) ?_
  simp only[opsAt,zo1,zo2,zo3,zo4,zo5]
  unfold Cls
  repeat(go_big_quiet_step (fail))
  refine wpQuiet_nil ?_
  (try rw[←Cls_def])
  refine mixB_end [] (by kernel_rfl) ?_
  refine wpList_nil ?_
  refine Calm.normal ?_
  have HB5:=hid (below_ext HB4.out hCw.below)
  have HA5:=hid (HA4.out.kept relB (fun z hz hlt=>hCw.below.block z hlt))
  clear hCw hb5 x0 x1 x2 x3 x4
  go_wp2
  go_ret2
  rw[HR2.out]
  exact scan_fin HA5.out HB5.out
 subst h2
 have hkI:IntKind.u64.wrap (k:Int)=(k:Int):=by
  simp only[IntKind.wrap,IntKind.bits,IntKind.signed]
  first|omega|(simp;omega)
 by_cases h3:bseq=k+1
 case neg=>
  have hqb:((bseq:Int) !=(k:Int)+1)=true:=by rw[bne_iff_ne];omega
  have HR2:=hid (HSTOP.out (.inr (.inr (.inl h3))))
  clear h1 h3
  refine mixB_start [] (Cls w4) (by kernel_rfl) (Cls.of ((Below.refl _ _).drew)) (fun hCw=>?_)
  refine mixB_flt (by kernel_rfl) [0,2,3,4,5] 21 _ _ hCw (by kernel_rfl) ?_
  simp only[opsAt,zo1,zo2,zo3,zo4,zo5]
  unfold Cls
  repeat(go_big_quiet_step (fail))
  refine wpQuiet_nil ?_
  (try rw[←Cls_def])
  refine mixB_ch (i:=1) (fuel:=20) (by kernel_rfl) (by kernel_rfl) ?_
  simp only[opsAt,zo1,zo2,zo3,zo4,zo5]
  go_wp2_with(go_at_call 49;refine(HFR.out _ (HB24.out.trans (hCw.below.mono hsz24))).mono ?_;rintro e' w5 ⟨rfl,hb5⟩)
  refine ThenB.mk (hCw.trans hb5) (fun hCw=>?_)
  refine mixB_flt (by kernel_rfl) [6,7,8,9,10,11,12,13,14,15,16,17,18,19,20,21,22,23,24,25] 0 _ _ hCw (by kernel_rfl) ?_
  simp only[opsAt,zo1,zo2,zo3,zo4,zo5]
  unfold Cls
  repeat(go_big_quiet_step (fail))
  refine wpQuiet_nil ?_
  (try rw[←Cls_def])
  refine mixB_end [] (by kernel_rfl) ?_
  refine wpList_nil ?_
  refine Calm.normal ?_
  have HB5:=hid (below_ext HB4.out hCw.below)
  have HA5:=hid (HA4.out.kept relB (fun z hz hlt=>hCw.below.block z hlt))
  clear hCw hb5 x0 x1 x2 x3 x4
  go_wp2
  go_ret2
  rw[HR2.out]
  exact scan_fin HA5.out HB5.out
 have hqb:((bseq:Int) !=(k:Int)+1)=false:=by rw[bne_eq_false_iff_eq];omega
 by_cases h4:bprev=prev
 case neg=>
  have hpb:((bs bprev).toList !=(bs prev).toList)=true:=by rw[bne_bs];exact decide_eq_true h4
  have hpb2:((bs bprev).toList==(bs prev).toList)=false:=by rw[bs_beq];exact decide_eq_false h4
  have HR2:=hid (HSTOP.out (.inr (.inr (.inr h4))))
  clear h1 h3 h4
  refine mixB_start [] (Cls w4) (by kernel_rfl) (Cls.of ((Below.refl _ _).drew)) (fun hCw=>?_)
  refine mixB_flt (by kernel_rfl) [0,2,3,4,5] 21 _ _ hCw (by kernel_rfl) ?_
  simp only[opsAt,zo1,zo2,zo3,zo4,zo5]
  unfold Cls
  repeat(go_big_quiet_step (fail))
  refine wpQuiet_nil ?_
  (try rw[←Cls_def])
  refine mixB_ch (i:=1) (fuel:=20) (by kernel_rfl) (by kernel_rfl) ?_
  simp only[opsAt,zo1,zo2,zo3,zo4,zo5]
  go_wp2_with(go_at_call 49;refine(HFR.out _ (HB24.out.trans (hCw.below.mono hsz24))).mono ?_;rintro e' w5 ⟨rfl,hb5⟩)
  refine ThenB.mk (hCw.trans hb5) (fun hCw=>?_)
  refine mixB_flt (by kernel_rfl) [6,7,8,9,10,11,12,13,14,15,16,17,18,19,20,21,22,23,24,25] 0 _ _ hCw (by kernel_rfl) ?_
  simp only[opsAt,zo1,zo2,zo3,zo4,zo5]
  unfold Cls
  repeat(go_big_quiet_step (fail))
  refine wpQuiet_nil ?_
  (try rw[←Cls_def])
  refine mixB_end [] (by kernel_rfl) ?_
  refine wpList_nil ?_
  refine Calm.normal ?_
  have HB5:=hid (below_ext HB4.out hCw.below)
  have HA5:=hid (HA4.out.kept relB (fun z hz hlt=>hCw.below.block z hlt))
  clear hCw hb5 x0 x1 x2 x3 x4
  go_wp2
  go_ret2
  rw[HR2.out]
  exact scan_fin HA5.out HB5.out
 have hpb:((bs bprev).toList !=(bs prev).toList)=false:=by rw[bne_bs];exact decide_eq_false (by simpa using h4)
 have hpb2:((bs bprev).toList==(bs prev).toList)=true:=by rw[bs_beq];exact decide_eq_true h4
 have HR2:Hid (R=((l1++[(⟨bseq,bprev,broot,bsts,brevs⟩:DBlk)])++(scanP f (d.drop (12+n)) (l1++[(⟨bseq,bprev,broot,bsts,brevs⟩:DBlk)]).length (digP (shortP (⟨bseq,bprev,broot,bsts,brevs⟩:DBlk)).1)).1,n1+12+n+(scanP f (d.drop (12+n)) (l1++[(⟨bseq,bprev,broot,bsts,brevs⟩:DBlk)]).length (digP (shortP (⟨bseq,bprev,broot,bsts,brevs⟩:DBlk)).1)).2)):=hid (by rw[HST.out,if_neg (by simp[h1]),if_neg (by simp[h3,h4])])
 clear h1 h3 h4 HSTOP HST
 refine mixB_start [] (Cls w4) (by kernel_rfl) (Cls.of ((Below.refl _ _).drew)) (fun hCw=>?_)
 refine mixB_flt (by kernel_rfl) [0,2,3,4,5] 21 _ _ hCw (by kernel_rfl) ?_
 simp only[opsAt,zo1,zo2,zo3,zo4,zo5]
 unfold Cls
 repeat(go_big_quiet_step (fail))
 refine wpQuiet_nil ?_
 (try rw[←Cls_def])
 refine mixB_ch (i:=1) (fuel:=20) (by kernel_rfl) (by kernel_rfl) ?_
 simp only[opsAt,zo1,zo2,zo3,zo4,zo5]
 go_wp2_with(go_at_call 49;refine(HFR.out _ (HB24.out.trans (hCw.below.mono hsz24))).mono ?_;rintro e' w5 ⟨rfl,hb5⟩)
 refine ThenB.mk (hCw.trans hb5) (fun hCw=>?_)
 refine mixB_flt (by kernel_rfl) [6,7,8,9,10,11,12,13,14,15,16,17,18,19,20,21,22,23,24,25] 0 _ _ hCw (by kernel_rfl) ?_
 simp only[opsAt,zo1,zo2,zo3,zo4,zo5]
 unfold Cls
 repeat(go_big_quiet_step (fail))
 refine wpQuiet_nil ?_
 (try rw[←Cls_def])
 refine mixB_end [] (by kernel_rfl) ?_
 refine wpList_nil ?_
 refine Calm.normal ?_
 have hb45:=hCw.below
 have HB5:=hid (below_ext HB4.out hb45)
 have HA5:=hid (HA4.out.kept relB (fun z hz hlt=>hb45.block z hlt))
 have HBK5:=hid (HBK4.out.ext hb45)
 have hd5:=HD4.out.ext hb45
 have HD5:=hid hd5
 clear hCw hb5 x0 x1 x2 x3 x4 hne hqb hpb hkI
 have hlt5:=hd5.lt
 have x0:=hd5.cell (i:=0) rfl
 have x1:=hd5.cell (i:=1) rfl
 have x2:=hd5.cell (i:=2) rfl
 have x3:=hd5.cell (i:=3) rfl
 have x4:=hd5.cell (i:=4) rfl
 have hsz45:=hb45.size
 have hokr:=hasBlk_ok HBK5.out HOV.out
 have hsh:=rshort_p _ _ _ w5 HBK5.out hokr (U8T_ext HT.out HB5.out) (HK.out.ext HB5.out)
 have hoh:=short_okH HBK5.out
 have HBKX:=HBK5
 clear hd5 hb45 hokr
 generalize hse:shortP ⟨bseq,bprev,broot,bsts,brevs⟩=SH at hsh hoh HR2
 obtain⟨⟨hseq,hprev,hroot,hrevs,hsts⟩,hwhy⟩:=SH
 have HSH:=hid hsh
 have HOH:Hid (okH ⟨hseq,hprev,hroot,hrevs,hsts⟩):=hid hoh
 clear hsh hoh hse
 go_wp2_with fail
 go_at_call 35
 refine HSH.out.mono ?_
 rintro e' w6 ⟨rfl,hb6⟩
 have hb57:=below_ext hb6 ((Below.refl w6.heap.size w6).alloc (Nat.le_refl _) (.cells #[.int .u64 (hseq:Int),.string (bs hprev),.string (bs hroot),.int .u64 (hrevs:Int),.string (bs hsts)] 24))
 clear x0 x1 x2 x3 x4
 go_wp2_with fail
 go_at_call 20
 refine(rdigest_any ⟨hseq,hprev,hroot,hrevs,hsts⟩ _ HOH.out (U8T_ext HT.out (below_ext HB5.out hb57)) (HK.out.ext (below_ext HB5.out hb57))).mono ?_
 rintro e' w8 ⟨rfl,hb8⟩
 have hb58:=below_ext hb57 hb8
 have HB8:=hid (below_ext HB5.out hb58)
 have HA8:=hid (HA5.out.kept relB (fun z hz hlt=>hb58.block z hlt))
 have HBK8:=hid (HBK5.out.ext hb58)
 have hd8:=HD5.out.ext hb58
 have hsz58:=hb58.size
 have hdg:(digP ⟨hseq,hprev,hroot,hrevs,hsts⟩).length=32:=shaL_length _
 obtain⟨G,hG⟩:∃G,G=digP ⟨hseq,hprev,hroot,hrevs,hsts⟩:=⟨_,rfl⟩
 rw[←hG]at hdg
 rw[←hG]
 have HG:=hid hG
 clear hb6 hb57 hb8 hb58 hG
 have hlt8:=hd8.lt
 have x0:=hd8.cell (i:=0) rfl
 have x1:=hd8.cell (i:=1) rfl
 have x2:=hd8.cell (i:=2) rfl
 have x3:=hd8.cell (i:=3) rfl
 have x4:=hd8.cell (i:=4) rfl
 have hown:∀z,(Value.slice q1 k d1).ownBlock=some z->w.heap.size<=z/\z<w2.heap.size:=HA2.out.lt
 have HOW:=hid hown
 have hhb:HasBlk (fun b=>w.heap.size<=b/\(Value.slice q1 k d1).ownBlock≠some b) (w8.alloc (.cells #[.int .u64 (bseq:Int),.string (bs bprev),.string (bs broot),.slice ps bsts.length cp,.slice pr brevs.length cr] 28)) ⟨bseq,bprev,broot,bsts,brevs⟩ [.int .u64 (bseq:Int),.string (bs bprev),.string (bs broot),.slice ps bsts.length cp,.slice pr brevs.length cr]:=
  (HBK8.out.ext ((Below.refl _ _).alloc (Nat.le_refl _) _)).kept (fun b hb=>⟨by have:=HB2.out.size;omega,fun e=>by have:=(hown b e).2;omega⟩) (fun _ _ _=>rfl)
 have HHB:=hid hhb
 have HA9:=hid (HA8.out.kept relB (fun z hz hlt=>((Below.refl w8.heap.size w8).alloc (Nat.le_refl _) (.cells #[.int .u64 (bseq:Int),.string (bs bprev),.string (bs broot),.slice ps bsts.length cp,.slice pr brevs.length cr] 28)).block z hlt))
 have hszw8:=HB8.out.size
 clear hd8 hown hhb
 go_wp2_with(at_builtin;refine push_acc relB w.heap.size rfl _ _ 32 28 (.agg #[.int .u64 0,.string ⟨#[]⟩,.string ⟨#[]⟩,.slice none 0 0,.slice none 0 0]) 88 rfl Tryz.underlying32 (by kernel_rfl) rfl (by decide) _ l1 HA9.out w8.heap.size [.int .u64 (bseq:Int),.string (bs bprev),.string (bs broot),.slice ps bsts.length cp,.slice pr brevs.length cr] ⟨bseq,bprev,broot,bsts,brevs⟩ (IsBlk.new _ _ _) HHB.out rfl rfl (by simp;omega) (by rw[←HKL.out];omega) (by rw[←HKL.out];unfold maxLen;omega) ?_)
 intro g9 cap9 w9 hacc9 hg9 hBg hgo hglt
 rw[←HKL.out]at hacc9
 rw[←HKL.out]
 have hb9:Below w.heap.size w w9:=(HB8.out.alloc hszw8 _).grown hg9 (by simp;omega) (fun z hz=>(HOW.out z hz).1)
 have HB9:=hid hb9
 have HA9':=hid hacc9
 clear hacc9 hg9 hb9 x0 x1 x2 x3 x4
 go_wp2
 go_roundw
 case rel=>
  refine⟨l1++[⟨bseq,bprev,broot,bsts,brevs⟩],E,f,G,rfl,rfl,hEL,by rw[List.length_append,←HKL.out];show k+1<=E;have:=HEE.out;omega,by omega,by rw[List.length_drop];have:=HL.out;have:=HEE.out;omega,?_,HA9'.out,HB9.out⟩
  rw[HR2.out,HG.out,HD.out,List.drop_drop,HEE.out,show n1+(12+n)=n1+12+n by omega]
 case measure=>simp[intOf];have:=HEE.out;omega
end Go.Proofs.YtcihbnpckicljaaGreatDoor
