/- JournalTorn, walked. Conditions: the rows lie in memory, together no more than 2^20; the tables read as the text lays them. -/
import Derived.Test.YtcihbnpckicljaaGreatDoorrJChainW
set_option linter.unusedVariables false
set_option linter.unusedSimpArgs false
namespace Go.Proofs.YtcihbnpckicljaaGreatDoor
open Go Go.RowKit Go.BigFrame
open Go.Lib(hid)
set_option maxRecDepth 100000
theorem RowIn.take {α:Type} {R:(Nat->Prop)->World->α->List Value->Prop} {sz:Nat} {S:Nat->Prop} {w:World} {p:Option Addr} {l:List α} (h:RowIn R sz S w p l) (k:Nat):RowIn R sz S w p (l.take k):=fun i hi=>by
 have h1:i<l.length:=by rw[List.length_take]at hi;omega
 obtain⟨g,o,cs,e1,e2,e3⟩:=h i h1
 exact⟨g,o,cs,e1,e2,by rw[List.getElem_take];exact e3⟩
theorem frames_snoc {l:List DBlk} {j:Nat} (h:j<l.length):framesOf (l.take (j+1))=framesOf (l.take j)++frP l[j]:=by
 rw[take_snoc h,frames_app]
 unfold framesOf
 rw[List.flatMap_cons,List.flatMap_nil,List.append_nil]
 rfl
theorem frames_mono {l:List DBlk} {j:Nat}:(framesOf (l.take j)).length<=(framesOf l).length:=by
 have h:framesOf l=framesOf (l.take j)++framesOf (l.drop j):=by rw[←frames_app,List.take_append_drop]
 rw[h,List.length_append]
 omega
theorem row_wf {S:Nat->Prop} {w:World} {p:Option Addr} {ll:List (List DRev)} (h:RowIn HasRow 1 S w p ll):∀x∈ll,∀r∈x,wfR r:=fun x hx r hr=>by
 obtain⟨i,hi,rfl⟩:=List.getElem_of_mem hx
 obtain⟨g,o,cs,_,_,⟨pr,cr,_,_,hrow⟩⟩:=h i hi
 obtain⟨k,hk,rfl⟩:=List.getElem_of_mem hr
 obtain⟨g,o,cs,_,_,⟨cs',_,hb,hv⟩⟩:=hrow k hk
 exact⟨hb.1,hb.2.2.1,hb.2.2.2,hv.rng⟩
set_option maxHeartbeats 16000000 in
theorem torn_any (ll:List (List DRev)) (cut:Int) (S:Nat->Prop) (p:Option Addr) (c:Nat) (w:World) (hl:RowIn HasRow 1 S w p ll) (hn:ll.length<=1048576) (hk:∀x∈ll,∀r∈x,okR r) (hbk:bulkRR ll<=1048576) (hT:U8T w) (hK:Ks w):
 Calls Tryz.prog 4 #[.slice p ll.length c,.int .i64 cut] w fun e' w'=>e'=.returned (.bool true)/\Below w.heap.size w w':=by
 have HT:=hid hT
 have HK:=hid hK
 have HLV:Hid (∀W,Below w.heap.size w W->Calls Tryz.prog 14 #[] W fun e' w'=>e'=.returned (.bool true)/\Below W.heap.size W w'):=hid (fun W hb=>lives_any W (U8T_ext hT hb) (hK.ext hb))
 have HCH:Hid (∀W,Below w.heap.size w W->Calls Tryz.prog 21 #[.slice p ll.length c] W (ChainOut W (chainP ll 0 zero32))):=hid (fun W h=>chain_any ll S p c W (hl.ext relRow h) hn hk (U8T_ext hT h) (hK.ext h))
 have hch:=chainP_chain ll 0 zero32 (row_wf hl) (by omega)
 have hfb:=frames_bulk ll 0 zero32
 have hcl:=chainP_len ll 0 zero32
 generalize chainP ll 0 zero32=L at HCH hch hfb hcl
 obtain⟨N,hN⟩:∃N,N=L.length:=⟨_,rfl⟩
 have hN20:N<=1048576:=by omega
 have HN:=hid hN
 obtain⟨LA,hLA⟩:∃n,n=(framesOf L).length:=⟨_,rfl⟩
 have hLA30:LA<=1073741824:=by omega
 have HLA:=hid hLA
 have HC:=hid hch
 have HSC:Hid (∀(W:World) (k:Nat),Below w.heap.size w W->k<=LA->Calls Tryz.prog 12 #[.string (bs ((framesOf L).take k))] W (ScanOut W (scanV ((framesOf L).take k)))):=hid (fun W k h hk=>scan_p _ W (U8T_ext hT h) (hK.ext h) (by rw[List.length_take];omega))
 have HTN:Hid (∀m k,m<=N->(framesOf (L.take m)).length<=k->k<=LA->(m<N->k<(framesOf (L.take (m+1))).length)->scanV ((framesOf L).take k)=(L.take m,(framesOf (L.take m)).length)):=hid (fun m k h1 h2 h3 h4=>torn hch (by omega) h2 (by omega) (fun h=>h4 (by omega)))
 clear hT hK hl hn hk hbk hch hfb hcl hN hLA
 go_enter Tryz.func4,Tryz.ntmps4
 go_wp2_with fail
 go_at_call 14
 refine(HLV.out _ (Below.refl _ _)).mono ?_
 rintro e' w1 ⟨rfl,hb1⟩
 have HB1:=hid hb1
 clear hb1
 go_wp2_with fail
 go_at_call 21
 refine(HCH.out _ HB1.out).mono ?_
 rintro e' w2 ⟨p1,c1,p2,c2,rfl,hc1,hr2,hs2,hb2⟩
 rw[←HN.out]at hc1
 simp only[←HN.out]
 have HB2:=hid (below_ext HB1.out hb2)
 have HR2:=hid hr2
 have HS2:=hid hs2
 clear hb2 hr2 hs2
 go_wp2
 go_loopw [7,23] (fun a b wr=>∃j:Nat,b=.int .i64 (j:Int)/\a=.string (bs (framesOf (L.take j)))/\j<=N/\Below w2.heap.size w2 wr) (fun _ b _=>N-(intOf b).toNat)
 case atStart=>exact⟨0,rfl,rfl,Nat.zero_le _,Below.refl _ _⟩
 case round=>
 obtain⟨j,rfl,rfl,hj,hbw⟩:=hrel
 have HBW:=hid hbw
 by_cases hlt:j<N
 ·have hjl:j<L.length:=by rw[←HN.out];exact hlt
  obtain⟨g,o,hp,_,hgl,hcell⟩:=(HS2.out.ext hbw) j (by rw[List.length_map];exact hjl)
  rw[List.getElem_map]at hcell
  have hfs:=frames_snoc hjl
  have hmo:(framesOf (L.take (j+1))).length<=LA:=by rw[HLA.out];exact frames_mono
  generalize frP L[j]=f at hcell hfs
  have hz1:=bs_size (framesOf (L.take j))
  have hz2:=bs_size f
  have hle:(framesOf (L.take j)).length+f.length<=LA:=by rw[hfs,List.length_append]at hmo;exact hmo
  have HFS:=hid hfs
  subst hp
  clear hbw hfs hmo
  go_wp2
  go_roundw
  case rel=>exact⟨j+1,by go_num,by rw[HFS.out,←bs_app],hlt,HBW.out⟩
  case measure=>simp[intOf];omega
 obtain rfl:j=N:=by omega
 have hall:L.take j=L:=by rw[HN.out,List.take_length]
 rw[hall]
 have hsz:(bs (framesOf L)).size=LA:=by rw[bs_size,HLA.out]
 obtain⟨wO,hwO⟩:∃W,W=wr:=⟨_,rfl⟩
 subst hwO
 clear hbw hall
 by_cases hcut:cut<0\/(LA:Int)<cut
 case pos=>
  obtain⟨CUT,hcl,hcI⟩:∃k:Nat,k<=LA/\(LA:Int)=(k:Int):=⟨LA,Nat.le_refl _,rfl⟩
  rcases hcut with hcut|hcut
  case inl=>
   have hd1:decide (cut<0)=true:=decide_eq_true hcut
   go_upto_region 12 with(fail)
   try rw[hcI]
   go_wp2
   go_loopw [10,11] (fun a b wr=>∃m:Nat,a=.int .i64 (m:Int)/\b=.int .i64 ((framesOf (L.take m)).length:Int)/\m<=j/\(framesOf (L.take m)).length<=CUT/\wO=wr) (fun a _ _=>j-(intOf a).toNat)
   case atStart=>exact⟨0,rfl,rfl,Nat.zero_le _,Nat.zero_le _,rfl⟩
   case round=>
   obtain⟨m,rfl,rfl,hm,hmc,hww⟩:=hrel
   subst hww
   obtain⟨fl,hfl⟩:∃n,n=(framesOf (L.take m)).length:=⟨_,rfl⟩
   rw[←hfl]at hmc
   rw[←hfl]
   have HFL:=hid hfl
   clear hfl
   by_cases hmj:m<j
   case pos=>
    have hml:m<L.length:=by rw[←HN.out];exact hmj
    obtain⟨g,o,hp,_,hgl,hcell⟩:=(HS2.out.ext HBW.out) m (by rw[List.length_map];exact hml)
    rw[List.getElem_map]at hcell
    have hfs:=frames_snoc hml
    generalize frP L[m]=f at hcell hfs
    have hz2:=bs_size f
    have hln:(framesOf (L.take (m+1))).length=fl+f.length:=by rw[hfs,List.length_append,HFL.out]
    have hmo:fl+f.length<=LA:=by
     rw[←hln,HLA.out]
     exact frames_mono
    have HLN:=hid hln
    subst hp
    clear hfs hln
    by_cases hle:fl+f.length<=CUT
    case pos=>
     have hdI:(fl:Int)+(f.length:Int)<=(CUT:Int):=by omega
     go_wp2
     go_roundw
     case rel=>exact⟨m+1,by go_num,by rw[HLN.out];go_num,by omega,by rw[HLN.out];exact hle,by first|rfl|trivial⟩
     case measure=>simp[intOf];omega
    case neg=>
     have hdI:(CUT:Int)<(fl:Int)+(f.length:Int):=by omega
     have HTM:=hid (HTN.out m CUT hm (by rw[←HFL.out];exact hmc) hcl (fun _=>by rw[HLN.out];omega))
     exfalso
     omega
   case neg=>
    obtain rfl:m=j:=by omega
    have HTM:=hid (HTN.out m CUT hm (by rw[←HFL.out];exact hmc) hcl (fun h=>absurd h hmj))
    go_wp2_with fail
    go_at_call 12
    rw[show(bs (framesOf L)).extract 0 CUT=bs ((framesOf L).take CUT)by rw[bs_extract];simp]
    refine(HSC.out _ CUT (below_ext HB2.out HBW.out) hcl).mono ?_
    rw[HTM.out,←HFL.out]
    rintro e' w5 ⟨p5,c5,rfl,_,hr5,hb5⟩
    have htl:(L.take m).length=m:=by rw[List.length_take,←HN.out];omega
    have HSA:Hid (∀W,Below w5.heap.size w5 W->Calls Tryz.prog 16 #[.slice p5 m c5,.slice p1 m c1] W fun e' w'=>e'=.returned (.bool true)/\Below W.heap.size W w'):=hid (fun W hb=>by
     have h:=sameAll_any (L.take m) (L.take m) _ _ p5 p1 c5 c1 W (hr5.ext relB hb) (((HR2.out.ext relB HBW.out).ext relB (below_ext hb5 hb)).take m) (by rw[htl];omega) (by rw[htl];omega)
     rw[eqv_self,htl]at h
     exact h)
    simp only[htl]
    have HB5:=hid (below_ext (below_ext HB2.out HBW.out) hb5)
    have hmc1:m<=c1:=by omega
    clear hr5 hb5 htl HTM
    go_wp2_with fail
    go_at_call 16
    refine(HSA.out _ (Below.refl _ _)).mono ?_
    rintro e' w6 ⟨rfl,hb6⟩
    have HB6:=hid (below_ext HB5.out hb6)
    clear hb6
    go_wp2
    go_ret
    exact⟨rfl,HB6.out⟩
  case inr=>
   have hd1:decide (cut<0)=false:=decide_eq_false (by omega)
   have hd2:decide ((LA:Int)<cut)=true:=decide_eq_true hcut
   have hd3:decide ((CUT:Int)<cut)=true:=decide_eq_true (by omega)
   go_upto_region 12 with(fail)
   try rw[hcI]
   go_wp2
   go_loopw [10,11] (fun a b wr=>∃m:Nat,a=.int .i64 (m:Int)/\b=.int .i64 ((framesOf (L.take m)).length:Int)/\m<=j/\(framesOf (L.take m)).length<=CUT/\wO=wr) (fun a _ _=>j-(intOf a).toNat)
   case atStart=>exact⟨0,rfl,rfl,Nat.zero_le _,Nat.zero_le _,rfl⟩
   case round=>
   obtain⟨m,rfl,rfl,hm,hmc,hww⟩:=hrel
   subst hww
   obtain⟨fl,hfl⟩:∃n,n=(framesOf (L.take m)).length:=⟨_,rfl⟩
   rw[←hfl]at hmc
   rw[←hfl]
   have HFL:=hid hfl
   clear hfl
   by_cases hmj:m<j
   case pos=>
    have hml:m<L.length:=by rw[←HN.out];exact hmj
    obtain⟨g,o,hp,_,hgl,hcell⟩:=(HS2.out.ext HBW.out) m (by rw[List.length_map];exact hml)
    rw[List.getElem_map]at hcell
    have hfs:=frames_snoc hml
    generalize frP L[m]=f at hcell hfs
    have hz2:=bs_size f
    have hln:(framesOf (L.take (m+1))).length=fl+f.length:=by rw[hfs,List.length_append,HFL.out]
    have hmo:fl+f.length<=LA:=by
     rw[←hln,HLA.out]
     exact frames_mono
    have HLN:=hid hln
    subst hp
    clear hfs hln
    by_cases hle:fl+f.length<=CUT
    case pos=>
     have hdI:(fl:Int)+(f.length:Int)<=(CUT:Int):=by omega
     go_wp2
     go_roundw
     case rel=>exact⟨m+1,by go_num,by rw[HLN.out];go_num,by omega,by rw[HLN.out];exact hle,by first|rfl|trivial⟩
     case measure=>simp[intOf];omega
    case neg=>
     have hdI:(CUT:Int)<(fl:Int)+(f.length:Int):=by omega
     have HTM:=hid (HTN.out m CUT hm (by rw[←HFL.out];exact hmc) hcl (fun _=>by rw[HLN.out];omega))
     exfalso
     omega
   case neg=>
    obtain rfl:m=j:=by omega
    have HTM:=hid (HTN.out m CUT hm (by rw[←HFL.out];exact hmc) hcl (fun h=>absurd h hmj))
    go_wp2_with fail
    go_at_call 12
    rw[show(bs (framesOf L)).extract 0 CUT=bs ((framesOf L).take CUT)by rw[bs_extract];simp]
    refine(HSC.out _ CUT (below_ext HB2.out HBW.out) hcl).mono ?_
    rw[HTM.out,←HFL.out]
    rintro e' w5 ⟨p5,c5,rfl,_,hr5,hb5⟩
    have htl:(L.take m).length=m:=by rw[List.length_take,←HN.out];omega
    have HSA:Hid (∀W,Below w5.heap.size w5 W->Calls Tryz.prog 16 #[.slice p5 m c5,.slice p1 m c1] W fun e' w'=>e'=.returned (.bool true)/\Below W.heap.size W w'):=hid (fun W hb=>by
     have h:=sameAll_any (L.take m) (L.take m) _ _ p5 p1 c5 c1 W (hr5.ext relB hb) (((HR2.out.ext relB HBW.out).ext relB (below_ext hb5 hb)).take m) (by rw[htl];omega) (by rw[htl];omega)
     rw[eqv_self,htl]at h
     exact h)
    simp only[htl]
    have HB5:=hid (below_ext (below_ext HB2.out HBW.out) hb5)
    have hmc1:m<=c1:=by omega
    clear hr5 hb5 htl HTM
    go_wp2_with fail
    go_at_call 16
    refine(HSA.out _ (Below.refl _ _)).mono ?_
    rintro e' w6 ⟨rfl,hb6⟩
    have HB6:=hid (below_ext HB5.out hb6)
    clear hb6
    go_wp2
    go_ret
    exact⟨rfl,HB6.out⟩
 case neg=>
  obtain⟨CUT,rfl⟩:∃k:Nat,cut=(k:Int):=⟨cut.toNat,by omega⟩
  have hcl:CUT<=LA:=by omega
  have hd1:decide ((CUT:Int)<0)=false:=decide_eq_false (by omega)
  have hd2:decide ((LA:Int)<(CUT:Int))=false:=decide_eq_false (by omega)
  have hcI:(CUT:Int)=(CUT:Int):=rfl
  clear hcut
  go_upto_region 12 with(fail)
  try rw[hcI]
  go_wp2
  go_loopw [10,11] (fun a b wr=>∃m:Nat,a=.int .i64 (m:Int)/\b=.int .i64 ((framesOf (L.take m)).length:Int)/\m<=j/\(framesOf (L.take m)).length<=CUT/\wO=wr) (fun a _ _=>j-(intOf a).toNat)
  case atStart=>exact⟨0,rfl,rfl,Nat.zero_le _,Nat.zero_le _,rfl⟩
  case round=>
  obtain⟨m,rfl,rfl,hm,hmc,hww⟩:=hrel
  subst hww
  obtain⟨fl,hfl⟩:∃n,n=(framesOf (L.take m)).length:=⟨_,rfl⟩
  rw[←hfl]at hmc
  rw[←hfl]
  have HFL:=hid hfl
  clear hfl
  by_cases hmj:m<j
  case pos=>
   have hml:m<L.length:=by rw[←HN.out];exact hmj
   obtain⟨g,o,hp,_,hgl,hcell⟩:=(HS2.out.ext HBW.out) m (by rw[List.length_map];exact hml)
   rw[List.getElem_map]at hcell
   have hfs:=frames_snoc hml
   generalize frP L[m]=f at hcell hfs
   have hz2:=bs_size f
   have hln:(framesOf (L.take (m+1))).length=fl+f.length:=by rw[hfs,List.length_append,HFL.out]
   have hmo:fl+f.length<=LA:=by
    rw[←hln,HLA.out]
    exact frames_mono
   have HLN:=hid hln
   subst hp
   clear hfs hln
   by_cases hle:fl+f.length<=CUT
   case pos=>
    have hdI:(fl:Int)+(f.length:Int)<=(CUT:Int):=by omega
    go_wp2
    go_roundw
    case rel=>exact⟨m+1,by go_num,by rw[HLN.out];go_num,by omega,by rw[HLN.out];exact hle,by first|rfl|trivial⟩
    case measure=>simp[intOf];omega
   case neg=>
    have hdI:(CUT:Int)<(fl:Int)+(f.length:Int):=by omega
    have HTM:=hid (HTN.out m CUT hm (by rw[←HFL.out];exact hmc) hcl (fun _=>by rw[HLN.out];omega))
    go_wp2_with fail
    go_at_call 12
    rw[show(bs (framesOf L)).extract 0 CUT=bs ((framesOf L).take CUT)by rw[bs_extract];simp]
    refine(HSC.out _ CUT (below_ext HB2.out HBW.out) hcl).mono ?_
    rw[HTM.out,←HFL.out]
    rintro e' w5 ⟨p5,c5,rfl,_,hr5,hb5⟩
    have htl:(L.take m).length=m:=by rw[List.length_take,←HN.out];omega
    have HSA:Hid (∀W,Below w5.heap.size w5 W->Calls Tryz.prog 16 #[.slice p5 m c5,.slice p1 m c1] W fun e' w'=>e'=.returned (.bool true)/\Below W.heap.size W w'):=hid (fun W hb=>by
     have h:=sameAll_any (L.take m) (L.take m) _ _ p5 p1 c5 c1 W (hr5.ext relB hb) (((HR2.out.ext relB HBW.out).ext relB (below_ext hb5 hb)).take m) (by rw[htl];omega) (by rw[htl];omega)
     rw[eqv_self,htl]at h
     exact h)
    simp only[htl]
    have HB5:=hid (below_ext (below_ext HB2.out HBW.out) hb5)
    have hmc1:m<=c1:=by omega
    clear hr5 hb5 htl HTM
    go_wp2_with fail
    go_at_call 16
    refine(HSA.out _ (Below.refl _ _)).mono ?_
    rintro e' w6 ⟨rfl,hb6⟩
    have HB6:=hid (below_ext HB5.out hb6)
    clear hb6
    go_wp2
    go_ret
    exact⟨rfl,HB6.out⟩
  case neg=>
   obtain rfl:m=j:=by omega
   have HTM:=hid (HTN.out m CUT hm (by rw[←HFL.out];exact hmc) hcl (fun h=>absurd h hmj))
   go_wp2_with fail
   go_at_call 12
   rw[show(bs (framesOf L)).extract 0 CUT=bs ((framesOf L).take CUT)by rw[bs_extract];simp]
   refine(HSC.out _ CUT (below_ext HB2.out HBW.out) hcl).mono ?_
   rw[HTM.out,←HFL.out]
   rintro e' w5 ⟨p5,c5,rfl,_,hr5,hb5⟩
   have htl:(L.take m).length=m:=by rw[List.length_take,←HN.out];omega
   have HSA:Hid (∀W,Below w5.heap.size w5 W->Calls Tryz.prog 16 #[.slice p5 m c5,.slice p1 m c1] W fun e' w'=>e'=.returned (.bool true)/\Below W.heap.size W w'):=hid (fun W hb=>by
    have h:=sameAll_any (L.take m) (L.take m) _ _ p5 p1 c5 c1 W (hr5.ext relB hb) (((HR2.out.ext relB HBW.out).ext relB (below_ext hb5 hb)).take m) (by rw[htl];omega) (by rw[htl];omega)
    rw[eqv_self,htl]at h
    exact h)
   simp only[htl]
   have HB5:=hid (below_ext (below_ext HB2.out HBW.out) hb5)
   have hmc1:m<=c1:=by omega
   clear hr5 hb5 htl HTM
   go_wp2_with fail
   go_at_call 16
   refine(HSA.out _ (Below.refl _ _)).mono ?_
   rintro e' w6 ⟨rfl,hb6⟩
   have HB6:=hid (below_ext HB5.out hb6)
   clear hb6
   go_wp2
   go_ret
   exact⟨rfl,HB6.out⟩
end Go.Proofs.YtcihbnpckicljaaGreatDoor
