/- Rows of texts made lists of values: journal.each, the document's statements. Conditions: the texts lie in memory, at most 2^20, none longer than 2^30 bytes. -/
import Derived.Test.YtcihbnpckicljaaGreatDoorrJSmall
set_option linter.unusedVariables false
set_option linter.unusedSimpArgs false
namespace Go.Proofs.YtcihbnpckicljaaGreatDoor
open Go Go.RowKit Go.BigFrame
open Go.Lib(hid)
set_option maxRecDepth 100000
theorem acc_list {S:Nat->Prop} {w:World} {B c:Nat} {p:Option Addr} {vs:List DVal} (h:Acc HasVal B 52 6 w (.slice p vs.length c) vs) (hS:∀b,B<=b->S b) (hl:vs.length<=1073741824):HasVal S w (vList vs) (cList p vs.length c):=by
 obtain⟨p',c',hpc,h1,h2,hcl⟩:=h.cells relV hS
 injection hpc with e1 _ e2
 subst e1
 subst e2
 refine list_has (fun i hi=>?_) hl h1 h2
 obtain⟨gg,cs,e1,e2,e3⟩:=hcl i hi
 exact⟨gg,0,cs,e1,e2,e3⟩
def ListOut (w:World) (l:List DVal) (e':Ending) (w':World):Prop:=∃p c,e'=.returned (.agg #[.int .u8 5,.bool false,.int .i64 0,.string ⟨#[]⟩,.slice p l.length c,.slice none 0 0])/\HasVal (fun b=>w.heap.size<=b) w' (vList l) (cList p l.length c)/\Below w.heap.size w w'
set_option maxHeartbeats 4000000 in
theorem each_text (l:List (List UInt8)) (S:Nat->Prop) (p:Option Addr) (c:Nat) (w:World) (hl:HasS S w p l) (hn:l.length<=1048576) (hs:∀s∈l,s.length<=1073741824):
 Calls Tryz.prog 61 #[.slice p l.length c,.func (.func 62) #[] #[]] w (ListOut w (l.map vTxt)):=by
 have HL:=hid hl
 have HSL:=hid hs
 obtain⟨n,hnl⟩:∃n,n=l.length:=⟨_,rfl⟩
 rw[←hnl]at hn⊢
 have HN:=hid hnl
 clear hl hs hnl
 go_enter Tryz.func61,Tryz.ntmps61
 go_upto_region 1 with(fail)
 generalize hW0:World.alloc w _=W0
 have hb0:Below w.heap.size w W0:=by rw[←hW0];exact(Below.refl _ _).alloc (Nat.le_refl _) _
 have hz0:IsBlk W0 w.heap.size #[.int .u8 0,.bool false,.int .i64 0,.string ⟨#[]⟩,.slice none 0 0,.slice none 0 0] 52:=by rw[←hW0];exact IsBlk.new _ _ _
 have HB0:=hid hb0
 have HZ:=hid hz0
 have hlt0:=hz0.lt
 clear hW0 hb0 hz0
 go_wp2
 go_loopw [5,10] (fun a b wr=>∃j:Nat,b=.int .i64 (j:Int)/\j<=n/\Acc HasVal W0.heap.size 52 6 wr a ((l.take j).map vTxt)/\Below W0.heap.size W0 wr) (fun _ b _=>n-(intOf b).toNat)
 case atStart=>exact⟨0,rfl,Nat.zero_le _,Acc.nil _ _ _,Below.refl _ _⟩
 case round=>
 obtain⟨j,rfl,hj,hacc,hbw⟩:=hrel
 obtain⟨q1,d1,hav⟩:=hacc.slice
 have hjl:((l.take j).map vTxt).length=j:=by rw[List.length_map,List.length_take];have:=HN.out;omega
 rw[hjl]at hav
 subst hav
 generalize hvs:(l.take j).map vTxt=vs at hacc hjl
 have HVS:=hid hvs
 clear hvs
 have HAC:=hid hacc
 have HBW:=hid hbw
 have HJL:=hid hjl
 have hszw:=hbw.size
 have hown:∀z,(Value.slice q1 j d1).ownBlock=some z->W0.heap.size<=z/\z<wr.heap.size:=hacc.lt
 have HOW:=hid hown
 by_cases hlt:j<n
 ·have hltl:j<l.length:=by rw[←HN.out];exact hlt
  obtain⟨g,o,rfl,_,hgl,hcell⟩:=(HL.out.ext (below_ext HB0.out hbw)) j hltl
  have hx:=HSL.out _ (List.getElem_mem hltl)
  generalize hxe:l[j]=x at hcell hx
  have HX:=hid hxe
  clear hacc hbw hjl hown hxe
  go_wp2_with fail
  go_at_call 62
  refine(journal_text x _).mono ?_
  rintro e' w1 ⟨rfl,hb1⟩
  have hz1:=hb1.size
  have hbr1:=below_ext HBW.out hb1
  have hb12:Below w1.heap.size w1 (w1.alloc (.cells #[.int .u8 3,.bool false,.int .i64 0,.string (bs x),.slice none 0 0,.slice none 0 0] 52)):=(Below.refl _ _).alloc (Nat.le_refl _) _
  have hbr2:=below_ext hb1 hb12
  have HA2:=hid (HAC.out.kept relV (fun z hz hlt=>hbr2.block z hlt))
  have HB2:=hid (below_ext HBW.out hbr2)
  have hhas:=txt_has (fun z=>W0.heap.size<=z/\(Value.slice q1 j d1).ownBlock≠some z) (w1.alloc (.cells #[.int .u8 3,.bool false,.int .i64 0,.string (bs x),.slice none 0 0,.slice none 0 0] 52)) hx
  have HHAS:=hid hhas
  clear hb1 hbr1 hb12 hbr2 hhas hcell
  go_wp2_with(at_builtin;refine push_acc relV W0.heap.size rfl _ _ 49 52 (.agg #[.int .u8 0,.bool false,.int .i64 0,.string ⟨#[]⟩,.slice none 0 0,.slice none 0 0]) 80 rfl Tryz.underlying49 (by kernel_rfl) rfl (by decide) _ vs HA2.out w1.heap.size [.int .u8 3,.bool false,.int .i64 0,.string (bs x),.slice none 0 0,.slice none 0 0] (vTxt x) (IsBlk.new _ _ _) HHAS.out rfl rfl (by simp;omega) (by rw[HJL.out];omega) (by rw[HJL.out];unfold maxLen;omega) ?_)
  intro g1 cap w3 hacc3 hg3 hBg hgo hglt
  rw[HJL.out]at hacc3
  rw[HJL.out]
  have htk:vs++[vTxt x]=(l.take (j+1)).map vTxt:=by
   rw[←HVS.out]
   rw[List.take_add_one,List.map_append,List.getElem?_eq_getElem hltl,HX.out]
   rfl
  rw[htk]at hacc3
  have hb3:Below W0.heap.size W0 w3:=HB2.out.grown hg3 (by have:=HB2.out.size;omega) (fun z hz=>(HOW.out z hz).1)
  have HA3:=hid hacc3
  have HB3:=hid hb3
  clear hacc3 hg3 hb3 htk
  go_wp2
  go_roundw
  case rel=>exact⟨j+1,by go_num,hlt,HA3.out,HB3.out⟩
  case measure=>simp[intOf];omega
 obtain rfl:j=n:=by omega
 have hall:vs=l.map vTxt:=by rw[←HVS.out,HN.out,List.take_length]
 rw[hall]at hacc
 have hjm:j=(l.map vTxt).length:=by rw[List.length_map,←HN.out]
 have HJM:=hid hjm
 have HAF:=hid hacc
 have hz1:=HZ.out.ext hbw
 have HZ1:=hid hz1
 clear hacc hbw hjl hown hall hjm HAC HZ
 go_wp2_with fail
 go_at_call 53
 refine(journal_list _ _ _ _).mono ?_
 rintro e' w4 ⟨rfl,hb4⟩
 have hz4:=HZ1.out.ext hb4
 have hbw4:=below_ext HBW.out hb4
 have hvl:HasVal (fun b=>W0.heap.size<=b) w4 (vList (l.map vTxt)) (cList q1 (l.map vTxt).length d1):=by
  have h5:=HAF.out.kept relV (fun z hz hlt=>hb4.block z hlt)
  rw[HJM.out]at h5
  exact acc_list h5 (fun b hb=>hb) (by rw[←HJM.out];omega)
 have z0:=hz4.cell (i:=0) rfl
 have z1:=hz4.cell (i:=1) rfl
 have z2:=hz4.cell (i:=2) rfl
 have z3:=hz4.cell (i:=3) rfl
 have z4:=hz4.cell (i:=4) rfl
 have z5:=hz4.cell (i:=5) rfl
 have y0:=hz4.frozen 0
 have y1:=hz4.frozen 1
 have y2:=hz4.frozen 2
 have y3:=hz4.frozen 3
 have y4:=hz4.frozen 4
 have y5:=hz4.frozen 5
 have hlz4:=hz4.lt
 have hot:∀z,z≠w.heap.size->(w4.setCells w.heap.size 0 [.int .u8 5,.bool false,.int .i64 0,.string ⟨#[]⟩,.slice q1 j d1,.slice none 0 0]).heap[z]?=w4.heap[z]?:=fun z hz=>other_setCells hz _ _ _
 have hfin:=And.intro (blk_setCells [.int .u8 5,.bool false,.int .i64 0,.string ⟨#[]⟩,.slice q1 j d1,.slice none 0 0] 0 w4 [.int .u8 0,.bool false,.int .i64 0,.string ⟨#[]⟩,.slice none 0 0,.slice none 0 0] hz4)
  (And.intro (HasVal.ext_to (S':=fun b=>w.heap.size<=b) (w':=w4.setCells w.heap.size 0 [.int .u8 5,.bool false,.int .i64 0,.string ⟨#[]⟩,.slice q1 j d1,.slice none 0 0]) hvl (fun z hz=>Nat.le_trans (Nat.le_of_lt hlt0) hz) (fun z hz _=>hot z (by have h6:W0.heap.size<=z:=hz;omega)))
    (below_setCells (B:=w.heap.size) (w0:=w) (Nat.le_refl _) [.int .u8 5,.bool false,.int .i64 0,.string ⟨#[]⟩,.slice q1 j d1,.slice none 0 0] 0 w4 (HB0.out.trans (hbw4.mono (Nat.le_of_lt hlt0)))))
 have HFIN:=hid hfin
 clear hfin hot hvl hb4 hbw4 hz4 HAF HZ1 HBW
 go_wp2
 refine bodyPost_ret (results_c (p:=4) (ty:=52) Tryz.results61 rfl HFIN.out.1 Tryz.underlying52 rfl (by kernel_rfl)) rfl ⟨q1,d1,?_,HFIN.out.2.1,HFIN.out.2.2⟩
 rw[←HJM.out]
 rfl
set_option maxHeartbeats 4000000 in
theorem each_blob (l:List (List UInt8)) (S:Nat->Prop) (p:Option Addr) (c:Nat) (w:World) (hl:HasS S w p l) (hn:l.length<=1048576) (hs:∀s∈l,s.length<=1073741824):
 Calls Tryz.prog 61 #[.slice p l.length c,.func (.func 55) #[] #[]] w (ListOut w (l.map vBlob)):=by
 have HL:=hid hl
 have HSL:=hid hs
 obtain⟨n,hnl⟩:∃n,n=l.length:=⟨_,rfl⟩
 rw[←hnl]at hn⊢
 have HN:=hid hnl
 clear hl hs hnl
 go_enter Tryz.func61,Tryz.ntmps61
 go_upto_region 1 with(fail)
 generalize hW0:World.alloc w _=W0
 have hb0:Below w.heap.size w W0:=by rw[←hW0];exact(Below.refl _ _).alloc (Nat.le_refl _) _
 have hz0:IsBlk W0 w.heap.size #[.int .u8 0,.bool false,.int .i64 0,.string ⟨#[]⟩,.slice none 0 0,.slice none 0 0] 52:=by rw[←hW0];exact IsBlk.new _ _ _
 have HB0:=hid hb0
 have HZ:=hid hz0
 have hlt0:=hz0.lt
 clear hW0 hb0 hz0
 go_wp2
 go_loopw [5,10] (fun a b wr=>∃j:Nat,b=.int .i64 (j:Int)/\j<=n/\Acc HasVal W0.heap.size 52 6 wr a ((l.take j).map vBlob)/\Below W0.heap.size W0 wr) (fun _ b _=>n-(intOf b).toNat)
 case atStart=>exact⟨0,rfl,Nat.zero_le _,Acc.nil _ _ _,Below.refl _ _⟩
 case round=>
 obtain⟨j,rfl,hj,hacc,hbw⟩:=hrel
 obtain⟨q1,d1,hav⟩:=hacc.slice
 have hjl:((l.take j).map vBlob).length=j:=by rw[List.length_map,List.length_take];have:=HN.out;omega
 rw[hjl]at hav
 subst hav
 generalize hvs:(l.take j).map vBlob=vs at hacc hjl
 have HVS:=hid hvs
 clear hvs
 have HAC:=hid hacc
 have HBW:=hid hbw
 have HJL:=hid hjl
 have hszw:=hbw.size
 have hown:∀z,(Value.slice q1 j d1).ownBlock=some z->W0.heap.size<=z/\z<wr.heap.size:=hacc.lt
 have HOW:=hid hown
 by_cases hlt:j<n
 ·have hltl:j<l.length:=by rw[←HN.out];exact hlt
  obtain⟨g,o,rfl,_,hgl,hcell⟩:=(HL.out.ext (below_ext HB0.out hbw)) j hltl
  have hx:=HSL.out _ (List.getElem_mem hltl)
  generalize hxe:l[j]=x at hcell hx
  have HX:=hid hxe
  clear hacc hbw hjl hown hxe
  go_wp2_with fail
  go_at_call 55
  refine(journal_blob x _).mono ?_
  rintro e' w1 ⟨rfl,hb1⟩
  have hz1:=hb1.size
  have hbr1:=below_ext HBW.out hb1
  have hb12:Below w1.heap.size w1 (w1.alloc (.cells #[.int .u8 4,.bool false,.int .i64 0,.string (bs x),.slice none 0 0,.slice none 0 0] 52)):=(Below.refl _ _).alloc (Nat.le_refl _) _
  have hbr2:=below_ext hb1 hb12
  have HA2:=hid (HAC.out.kept relV (fun z hz hlt=>hbr2.block z hlt))
  have HB2:=hid (below_ext HBW.out hbr2)
  have hhas:=blob_has (fun z=>W0.heap.size<=z/\(Value.slice q1 j d1).ownBlock≠some z) (w1.alloc (.cells #[.int .u8 4,.bool false,.int .i64 0,.string (bs x),.slice none 0 0,.slice none 0 0] 52)) hx
  have HHAS:=hid hhas
  clear hb1 hbr1 hb12 hbr2 hhas hcell
  go_wp2_with(at_builtin;refine push_acc relV W0.heap.size rfl _ _ 49 52 (.agg #[.int .u8 0,.bool false,.int .i64 0,.string ⟨#[]⟩,.slice none 0 0,.slice none 0 0]) 80 rfl Tryz.underlying49 (by kernel_rfl) rfl (by decide) _ vs HA2.out w1.heap.size [.int .u8 4,.bool false,.int .i64 0,.string (bs x),.slice none 0 0,.slice none 0 0] (vBlob x) (IsBlk.new _ _ _) HHAS.out rfl rfl (by simp;omega) (by rw[HJL.out];omega) (by rw[HJL.out];unfold maxLen;omega) ?_)
  intro g1 cap w3 hacc3 hg3 hBg hgo hglt
  rw[HJL.out]at hacc3
  rw[HJL.out]
  have htk:vs++[vBlob x]=(l.take (j+1)).map vBlob:=by
   rw[←HVS.out]
   rw[List.take_add_one,List.map_append,List.getElem?_eq_getElem hltl,HX.out]
   rfl
  rw[htk]at hacc3
  have hb3:Below W0.heap.size W0 w3:=HB2.out.grown hg3 (by have:=HB2.out.size;omega) (fun z hz=>(HOW.out z hz).1)
  have HA3:=hid hacc3
  have HB3:=hid hb3
  clear hacc3 hg3 hb3 htk
  go_wp2
  go_roundw
  case rel=>exact⟨j+1,by go_num,hlt,HA3.out,HB3.out⟩
  case measure=>simp[intOf];omega
 obtain rfl:j=n:=by omega
 have hall:vs=l.map vBlob:=by rw[←HVS.out,HN.out,List.take_length]
 rw[hall]at hacc
 have hjm:j=(l.map vBlob).length:=by rw[List.length_map,←HN.out]
 have HJM:=hid hjm
 have HAF:=hid hacc
 have hz1:=HZ.out.ext hbw
 have HZ1:=hid hz1
 clear hacc hbw hjl hown hall hjm HAC HZ
 go_wp2_with fail
 go_at_call 53
 refine(journal_list _ _ _ _).mono ?_
 rintro e' w4 ⟨rfl,hb4⟩
 have hz4:=HZ1.out.ext hb4
 have hbw4:=below_ext HBW.out hb4
 have hvl:HasVal (fun b=>W0.heap.size<=b) w4 (vList (l.map vBlob)) (cList q1 (l.map vBlob).length d1):=by
  have h5:=HAF.out.kept relV (fun z hz hlt=>hb4.block z hlt)
  rw[HJM.out]at h5
  exact acc_list h5 (fun b hb=>hb) (by rw[←HJM.out];omega)
 have z0:=hz4.cell (i:=0) rfl
 have z1:=hz4.cell (i:=1) rfl
 have z2:=hz4.cell (i:=2) rfl
 have z3:=hz4.cell (i:=3) rfl
 have z4:=hz4.cell (i:=4) rfl
 have z5:=hz4.cell (i:=5) rfl
 have y0:=hz4.frozen 0
 have y1:=hz4.frozen 1
 have y2:=hz4.frozen 2
 have y3:=hz4.frozen 3
 have y4:=hz4.frozen 4
 have y5:=hz4.frozen 5
 have hlz4:=hz4.lt
 have hot:∀z,z≠w.heap.size->(w4.setCells w.heap.size 0 [.int .u8 5,.bool false,.int .i64 0,.string ⟨#[]⟩,.slice q1 j d1,.slice none 0 0]).heap[z]?=w4.heap[z]?:=fun z hz=>other_setCells hz _ _ _
 have hfin:=And.intro (blk_setCells [.int .u8 5,.bool false,.int .i64 0,.string ⟨#[]⟩,.slice q1 j d1,.slice none 0 0] 0 w4 [.int .u8 0,.bool false,.int .i64 0,.string ⟨#[]⟩,.slice none 0 0,.slice none 0 0] hz4)
  (And.intro (HasVal.ext_to (S':=fun b=>w.heap.size<=b) (w':=w4.setCells w.heap.size 0 [.int .u8 5,.bool false,.int .i64 0,.string ⟨#[]⟩,.slice q1 j d1,.slice none 0 0]) hvl (fun z hz=>Nat.le_trans (Nat.le_of_lt hlt0) hz) (fun z hz _=>hot z (by have h6:W0.heap.size<=z:=hz;omega)))
    (below_setCells (B:=w.heap.size) (w0:=w) (Nat.le_refl _) [.int .u8 5,.bool false,.int .i64 0,.string ⟨#[]⟩,.slice q1 j d1,.slice none 0 0] 0 w4 (HB0.out.trans (hbw4.mono (Nat.le_of_lt hlt0)))))
 have HFIN:=hid hfin
 clear hfin hot hvl hb4 hbw4 hz4 HAF HZ1 HBW
 go_wp2
 refine bodyPost_ret (results_c (p:=4) (ty:=52) Tryz.results61 rfl HFIN.out.1 Tryz.underlying52 rfl (by kernel_rfl)) rfl ⟨q1,d1,?_,HFIN.out.2.1,HFIN.out.2.2⟩
 rw[←HJM.out]
 rfl
set_option maxHeartbeats 4000000 in
theorem statements_any (l:List (List UInt8)) (S:Nat->Prop) (p:Option Addr) (c:Nat) (w:World) (hl:HasS S w p l) (hn:l.length<=1048576) (hs:∀s∈l,s.length<=1073741824):
 Calls Tryz.prog 76 #[.slice p l.length c] w (ListOut w (l.map vTxt)):=by
 have HL:=hid hl
 have HSL:=hid hs
 obtain⟨n,hnl⟩:∃n,n=l.length:=⟨_,rfl⟩
 rw[←hnl]at hn⊢
 have HN:=hid hnl
 clear hl hs hnl
 go_enter Tryz.func76,Tryz.ntmps76
 go_upto_region 1 with(fail)
 generalize hW0:World.alloc w _=W0
 have hb0:Below w.heap.size w W0:=by rw[←hW0];exact(Below.refl _ _).alloc (Nat.le_refl _) _
 have hz0:IsBlk W0 w.heap.size #[.int .u8 0,.bool false,.int .i64 0,.string ⟨#[]⟩,.slice none 0 0,.slice none 0 0] 52:=by rw[←hW0];exact IsBlk.new _ _ _
 have HB0:=hid hb0
 have HZ:=hid hz0
 have hlt0:=hz0.lt
 clear hW0 hb0 hz0
 go_wp2
 go_loopw [3,8] (fun a b wr=>∃j:Nat,b=.int .i64 (j:Int)/\j<=n/\Acc HasVal W0.heap.size 52 6 wr a ((l.take j).map vTxt)/\Below W0.heap.size W0 wr) (fun _ b _=>n-(intOf b).toNat)
 case atStart=>exact⟨0,rfl,Nat.zero_le _,Acc.nil _ _ _,Below.refl _ _⟩
 case round=>
 obtain⟨j,rfl,hj,hacc,hbw⟩:=hrel
 obtain⟨q1,d1,hav⟩:=hacc.slice
 have hjl:((l.take j).map vTxt).length=j:=by rw[List.length_map,List.length_take];have:=HN.out;omega
 rw[hjl]at hav
 subst hav
 generalize hvs:(l.take j).map vTxt=vs at hacc hjl
 have HVS:=hid hvs
 clear hvs
 have HAC:=hid hacc
 have HBW:=hid hbw
 have HJL:=hid hjl
 have hszw:=hbw.size
 have hown:∀z,(Value.slice q1 j d1).ownBlock=some z->W0.heap.size<=z/\z<wr.heap.size:=hacc.lt
 have HOW:=hid hown
 by_cases hlt:j<n
 ·have hltl:j<l.length:=by rw[←HN.out];exact hlt
  obtain⟨g,o,rfl,_,hgl,hcell⟩:=(HL.out.ext (below_ext HB0.out hbw)) j hltl
  have hx:=HSL.out _ (List.getElem_mem hltl)
  generalize hxe:l[j]=x at hcell hx
  have HX:=hid hxe
  clear hacc hbw hjl hown hxe
  go_wp2_with fail
  go_at_call 79
  refine(codicilref06_text x _).mono ?_
  rintro e' w1 ⟨rfl,hb1⟩
  have hz1:=hb1.size
  have hbr1:=below_ext HBW.out hb1
  have hb12:Below w1.heap.size w1 (w1.alloc (.cells #[.int .u8 3,.bool false,.int .i64 0,.string (bs x),.slice none 0 0,.slice none 0 0] 52)):=(Below.refl _ _).alloc (Nat.le_refl _) _
  have hbr2:=below_ext hb1 hb12
  have HA2:=hid (HAC.out.kept relV (fun z hz hlt=>hbr2.block z hlt))
  have HB2:=hid (below_ext HBW.out hbr2)
  have hhas:=txt_has (fun z=>W0.heap.size<=z/\(Value.slice q1 j d1).ownBlock≠some z) (w1.alloc (.cells #[.int .u8 3,.bool false,.int .i64 0,.string (bs x),.slice none 0 0,.slice none 0 0] 52)) hx
  have HHAS:=hid hhas
  clear hb1 hbr1 hb12 hbr2 hhas hcell
  go_wp2_with(at_builtin;refine push_acc relV W0.heap.size rfl _ _ 49 52 (.agg #[.int .u8 0,.bool false,.int .i64 0,.string ⟨#[]⟩,.slice none 0 0,.slice none 0 0]) 80 rfl Tryz.underlying49 (by kernel_rfl) rfl (by decide) _ vs HA2.out w1.heap.size [.int .u8 3,.bool false,.int .i64 0,.string (bs x),.slice none 0 0,.slice none 0 0] (vTxt x) (IsBlk.new _ _ _) HHAS.out rfl rfl (by simp;omega) (by rw[HJL.out];omega) (by rw[HJL.out];unfold maxLen;omega) ?_)
  intro g1 cap w3 hacc3 hg3 hBg hgo hglt
  rw[HJL.out]at hacc3
  rw[HJL.out]
  have htk:vs++[vTxt x]=(l.take (j+1)).map vTxt:=by
   rw[←HVS.out]
   rw[List.take_add_one,List.map_append,List.getElem?_eq_getElem hltl,HX.out]
   rfl
  rw[htk]at hacc3
  have hb3:Below W0.heap.size W0 w3:=HB2.out.grown hg3 (by have:=HB2.out.size;omega) (fun z hz=>(HOW.out z hz).1)
  have HA3:=hid hacc3
  have HB3:=hid hb3
  clear hacc3 hg3 hb3 htk
  go_wp2
  go_roundw
  case rel=>exact⟨j+1,by go_num,hlt,HA3.out,HB3.out⟩
  case measure=>simp[intOf];omega
 obtain rfl:j=n:=by omega
 have hall:vs=l.map vTxt:=by rw[←HVS.out,HN.out,List.take_length]
 rw[hall]at hacc
 have hjm:j=(l.map vTxt).length:=by rw[List.length_map,←HN.out]
 have HJM:=hid hjm
 have HAF:=hid hacc
 have hz1:=HZ.out.ext hbw
 have HZ1:=hid hz1
 clear hacc hbw hjl hown hall hjm HAC HZ
 go_wp2_with fail
 go_at_call 57
 refine(codicilref06_list _ _ _ _).mono ?_
 rintro e' w4 ⟨rfl,hb4⟩
 have hz4:=HZ1.out.ext hb4
 have hbw4:=below_ext HBW.out hb4
 have hvl:HasVal (fun b=>W0.heap.size<=b) w4 (vList (l.map vTxt)) (cList q1 (l.map vTxt).length d1):=by
  have h5:=HAF.out.kept relV (fun z hz hlt=>hb4.block z hlt)
  rw[HJM.out]at h5
  exact acc_list h5 (fun b hb=>hb) (by rw[←HJM.out];omega)
 have z0:=hz4.cell (i:=0) rfl
 have z1:=hz4.cell (i:=1) rfl
 have z2:=hz4.cell (i:=2) rfl
 have z3:=hz4.cell (i:=3) rfl
 have z4:=hz4.cell (i:=4) rfl
 have z5:=hz4.cell (i:=5) rfl
 have y0:=hz4.frozen 0
 have y1:=hz4.frozen 1
 have y2:=hz4.frozen 2
 have y3:=hz4.frozen 3
 have y4:=hz4.frozen 4
 have y5:=hz4.frozen 5
 have hlz4:=hz4.lt
 have hot:∀z,z≠w.heap.size->(w4.setCells w.heap.size 0 [.int .u8 5,.bool false,.int .i64 0,.string ⟨#[]⟩,.slice q1 j d1,.slice none 0 0]).heap[z]?=w4.heap[z]?:=fun z hz=>other_setCells hz _ _ _
 have hfin:=And.intro (blk_setCells [.int .u8 5,.bool false,.int .i64 0,.string ⟨#[]⟩,.slice q1 j d1,.slice none 0 0] 0 w4 [.int .u8 0,.bool false,.int .i64 0,.string ⟨#[]⟩,.slice none 0 0,.slice none 0 0] hz4)
  (And.intro (HasVal.ext_to (S':=fun b=>w.heap.size<=b) (w':=w4.setCells w.heap.size 0 [.int .u8 5,.bool false,.int .i64 0,.string ⟨#[]⟩,.slice q1 j d1,.slice none 0 0]) hvl (fun z hz=>Nat.le_trans (Nat.le_of_lt hlt0) hz) (fun z hz _=>hot z (by have h6:W0.heap.size<=z:=hz;omega)))
    (below_setCells (B:=w.heap.size) (w0:=w) (Nat.le_refl _) [.int .u8 5,.bool false,.int .i64 0,.string ⟨#[]⟩,.slice q1 j d1,.slice none 0 0] 0 w4 (HB0.out.trans (hbw4.mono (Nat.le_of_lt hlt0)))))
 have HFIN:=hid hfin
 clear hfin hot hvl hb4 hbw4 hz4 HAF HZ1 HBW
 go_wp2
 refine bodyPost_ret (results_c (p:=2) (ty:=52) Tryz.results76 rfl HFIN.out.1 Tryz.underlying52 rfl (by kernel_rfl)) rfl ⟨q1,d1,?_,HFIN.out.2.1,HFIN.out.2.2⟩
 rw[←HJM.out]
 rfl
end Go.Proofs.YtcihbnpckicljaaGreatDoor
