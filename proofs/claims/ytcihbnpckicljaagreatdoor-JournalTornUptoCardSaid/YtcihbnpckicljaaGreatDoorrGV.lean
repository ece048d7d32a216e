/- slices.Clone of rows of values and of fields. Conditions: at most 2^30 parts. value.own: a value of its own memory. Condition: the value lies in memory. Structs with their own rows (of PutP, for the seats without Put). No conditions. value.Get at an empty path: a value of its own memory. Condition: the value lies in memory. codicilref02.Copy: a value of its own memory. Condition: the value lies in memory. codicilref02.Same. Condition: both values lie in memory. -/
import Derived.Test.YtcihbnpckicljaaGreatDoorrGA
import Derived.WalkLawsBesides
import Derived.Outline
import Derived.Deep.DeepCutAuto
import Derived.WalkKit
import Derived.WalkSpells
import Derived.BigQuiet
import Derived.BigRegion
set_option linter.unusedVariables false
set_option linter.unusedSimpArgs false
namespace Go.Proofs.YtcihbnpckicljaaGreatDoor
open Go Go.RowKit Go.BigFrame
open Go.Lib(hid)
set_option maxRecDepth 100000
set_option maxHeartbeats 4000000 in
theorem cloneValue_any (vs:List DVal) (S:Nat->Prop) (p:Option Addr) (c:Nat) (w:World) (h:RowIn HasVal 6 S w p vs) (hn:vs.length<=1073741824):
 Calls Tryz.prog 158 #[.slice p vs.length c] w fun e' w'=>∃v,e'=.returned v/\(∀D,Half HasVal 6 w.heap.size D S 52 w' v vs 0)/\Below w.heap.size w w':=by
 obtain⟨css,h1,h2,h3,h4⟩:=h.css relV (by decide)
 have hfl:css.flatten.length=vs.length*6:=by
  have:=flatten_take h2 css.length (Nat.le_refl _)
  rw[List.take_length]at this
  rw[this,h1]
 have q24:∀(w:World) (a:Option Addr) (n c n' c':Nat),(binOp .eql 49 (.slice a n c) (.slice none n' c')).run Tryz.prog w=.ok (.bool a.isNone) w:=fun w a n c n' c'=>Lib.run_eql_slice_nil w _ _ a n c n' c' Tryz.underlying49
 obtain⟨n,hnl⟩:∃n0,n0=vs.length:=⟨_,rfl⟩
 have HN:=hid hnl
 rw[←hnl]at hn hfl⊢
 have H3:=hid h3
 have H4:=hid h4
 have H1:=hid h1
 have H2:=hid h2
 have HFL:=hid hfl
 have H0:=hid h
 clear h1 h2 h3 h4 hnl hfl h
 cases p with
 |none=>
  have h0:n=0:=by
   rcases Nat.eq_zero_or_pos n with h|h
   ·exact h
   ·exfalso
    obtain⟨g,o,cs,q,_⟩:=H0.out 0 (by rw[←HN.out];exact h)
    cases q
  subst h0
  go_enter Tryz.func158,Tryz.ntmps158
  go_wp2
  go_ret
  have hv:vs=[]:=List.eq_nil_of_length_eq_zero HN.out.symm
  exact⟨_,rfl,fun D=>⟨[],⟨by rw[hv];rfl,Or.inl ⟨rfl,by rw[hv];rfl⟩⟩,by rw[hv];rfl,(fun c hc=>by cases hc),fun i hi=>by rw[hv]at hi;simp at hi⟩,Below.refl _ _⟩
 |some ad=>
  have hinfo:(Tryz.prog.info? 52).map (fun i=>(i.zero,i.size,i.bytes))=some (some (.agg #[.int .u8 0,.bool false,.int .i64 0,.string ⟨#[]⟩,.slice none 0 0,.slice none 0 0]),6,80):=by kernel_rfl
  obtain⟨i0,hi,hzz⟩:=Option.map_eq_some_iff.1 hinfo
  simp only[Prod.mk.injEq]at hzz
  obtain⟨hz0,hz1,hz2⟩:=hzz
  have HI:=hid hi
  have HZ0:=hid hz0
  have HZ1:=hid hz1
  have HZ2:=hid hz2
  clear hinfo hi hz0 hz1 hz2
  go_enter Tryz.func158,Tryz.ntmps158
  go_wp2_with(at_builtin;refine wpList_append_own _ rfl _ _ 49 rfl w.heap.size 52 i0 (.agg #[.int .u8 0,.bool false,.int .i64 0,.string ⟨#[]⟩,.slice none 0 0,.slice none 0 0]) 6 80 Tryz.underlying49 HI.out HZ0.out HZ1.out HZ2.out rfl (by decide) _ _ _ rfl (World.ownsRow_made w #[] 0 (Nat.le_refl _) (Nat.zero_le _) rfl) ad n c css.flatten rfl ?qc1 ?qc2 ?qc3 ?qc4 ?qc5 ?qc6 ?_)
  case qc1=>exact HFL.out
  case qc2=>
   intro j u hj
   exact Lib.cell?_alloc_some _ (H4.out ad rfl j u hj)
  case qc3=>
   intro u hu
   obtain⟨cs,hc,hu⟩:=List.mem_flatten.1 hu
   obtain⟨i,hi,rfl⟩:=List.getElem_of_mem hc
   exact relV.one (H3.out i (by rw[←H1.out];exact hi) hi) u hu
  case qc4=>unfold maxLen;omega
  case qc5=>omega
  case qc6=>simp
  intro v' w1 hown hgrow hnil
  have hbw:Below w.heap.size w w1:=((Below.refl _ w).alloc (Nat.le_refl _) _).grown hgrow (by simp) (by intro k hk;simp[Value.ownBlock]at hk;omega)
  have HBW:=hid hbw
  have hhalf:∀D,Half HasVal 6 w.heap.size D S 52 w1 v' vs 0:=by
   refine fun D=>⟨css,by rw[←HN.out];simpa using hown,H1.out,H2.out,fun i hi hi'=>⟨fun h=>by omega,fun _=>relV.kept (H3.out i hi hi') (fun _ h=>h) (fun b _ hlt=>hbw.block b hlt)⟩⟩
  have HH:=hid hhalf
  clear hown hgrow hnil hbw hhalf
  go_wp2
  go_ret
  exact⟨_,rfl,HH.out,HBW.out⟩
set_option maxHeartbeats 4000000 in
theorem cloneField_any (vs:List (List UInt8×DVal)) (S:Nat->Prop) (p:Option Addr) (c:Nat) (w:World) (h:RowIn HasFld 7 S w p vs) (hn:vs.length<=1073741824):
 Calls Tryz.prog 159 #[.slice p vs.length c] w fun e' w'=>∃v,e'=.returned v/\(∀D,Half HasFld 7 w.heap.size D S 66 w' v vs 0)/\Below w.heap.size w w':=by
 obtain⟨css,h1,h2,h3,h4⟩:=h.css relF (by decide)
 have hfl:css.flatten.length=vs.length*7:=by
  have:=flatten_take h2 css.length (Nat.le_refl _)
  rw[List.take_length]at this
  rw[this,h1]
 have q24:∀(w:World) (a:Option Addr) (n c n' c':Nat),(binOp .eql 50 (.slice a n c) (.slice none n' c')).run Tryz.prog w=.ok (.bool a.isNone) w:=fun w a n c n' c'=>Lib.run_eql_slice_nil w _ _ a n c n' c' Tryz.underlying50
 obtain⟨n,hnl⟩:∃n0,n0=vs.length:=⟨_,rfl⟩
 have HN:=hid hnl
 rw[←hnl]at hn hfl⊢
 have H3:=hid h3
 have H4:=hid h4
 have H1:=hid h1
 have H2:=hid h2
 have HFL:=hid hfl
 have H0:=hid h
 clear h1 h2 h3 h4 hnl hfl h
 cases p with
 |none=>
  have h0:n=0:=by
   rcases Nat.eq_zero_or_pos n with h|h
   ·exact h
   ·exfalso
    obtain⟨g,o,cs,q,_⟩:=H0.out 0 (by rw[←HN.out];exact h)
    cases q
  subst h0
  go_enter Tryz.func159,Tryz.ntmps159
  go_wp2
  go_ret
  have hv:vs=[]:=List.eq_nil_of_length_eq_zero HN.out.symm
  exact⟨_,rfl,fun D=>⟨[],⟨by rw[hv];rfl,Or.inl ⟨rfl,by rw[hv];rfl⟩⟩,by rw[hv];rfl,(fun c hc=>by cases hc),fun i hi=>by rw[hv]at hi;simp at hi⟩,Below.refl _ _⟩
 |some ad=>
  have hinfo:(Tryz.prog.info? 66).map (fun i=>(i.zero,i.size,i.bytes))=some (some (.agg #[.string ⟨#[]⟩,.int .u8 0,.bool false,.int .i64 0,.string ⟨#[]⟩,.slice none 0 0,.slice none 0 0]),7,96):=by kernel_rfl
  obtain⟨i0,hi,hzz⟩:=Option.map_eq_some_iff.1 hinfo
  simp only[Prod.mk.injEq]at hzz
  obtain⟨hz0,hz1,hz2⟩:=hzz
  have HI:=hid hi
  have HZ0:=hid hz0
  have HZ1:=hid hz1
  have HZ2:=hid hz2
  clear hinfo hi hz0 hz1 hz2
  go_enter Tryz.func159,Tryz.ntmps159
  go_wp2_with(at_builtin;refine wpList_append_own _ rfl _ _ 50 rfl w.heap.size 66 i0 (.agg #[.string ⟨#[]⟩,.int .u8 0,.bool false,.int .i64 0,.string ⟨#[]⟩,.slice none 0 0,.slice none 0 0]) 7 96 Tryz.underlying50 HI.out HZ0.out HZ1.out HZ2.out rfl (by decide) _ _ _ rfl (World.ownsRow_made w #[] 0 (Nat.le_refl _) (Nat.zero_le _) rfl) ad n c css.flatten rfl ?qc1 ?qc2 ?qc3 ?qc4 ?qc5 ?qc6 ?_)
  case qc1=>exact HFL.out
  case qc2=>
   intro j u hj
   exact Lib.cell?_alloc_some _ (H4.out ad rfl j u hj)
  case qc3=>
   intro u hu
   obtain⟨cs,hc,hu⟩:=List.mem_flatten.1 hu
   obtain⟨i,hi,rfl⟩:=List.getElem_of_mem hc
   exact relF.one (H3.out i (by rw[←H1.out];exact hi) hi) u hu
  case qc4=>unfold maxLen;omega
  case qc5=>omega
  case qc6=>simp
  intro v' w1 hown hgrow hnil
  have hbw:Below w.heap.size w w1:=((Below.refl _ w).alloc (Nat.le_refl _) _).grown hgrow (by simp) (by intro k hk;simp[Value.ownBlock]at hk;omega)
  have HBW:=hid hbw
  have hhalf:∀D,Half HasFld 7 w.heap.size D S 66 w1 v' vs 0:=by
   refine fun D=>⟨css,by rw[←HN.out];simpa using hown,H1.out,H2.out,fun i hi hi'=>⟨fun h=>by omega,fun _=>relF.kept (H3.out i hi hi') (fun _ h=>h) (fun b _ hlt=>hbw.block b hlt)⟩⟩
  have HH:=hid hhalf
  clear hown hgrow hnil hbw hhalf
  go_wp2
  go_ret
  exact⟨_,rfl,HH.out,HBW.out⟩
theorem results_c {P:Program} {fn:Func} {p:Tmp} {ty:TypeId} (h:fn.results= #[.cell p ty]) {tmps:Array Value} {w:World} {g:Nat} {t:TypeId} {cs:Array Value} {d:TypeDesc}
 (hp:tmps.getD p undef=.pointer (some ⟨g,0,none⟩)) (hg:IsBlk w g cs t) (hu:P.underlying ty=some d) (hd:(match d with| .struct _| .array _ _=>true|_=>false)=true) (hi:(P.info? ty).map (·.size)=some cs.size):
 (results fn tmps).run P w=.ok (.agg cs) w:=by
 have hp':tmps[p]?.getD undef=.pointer (some ⟨g,0,none⟩):=by simpa using hp
 simp[results,h,hp',asAddr,run_loadVar_row w g t ty cs (0,0) d hg hu hd hi]
def KeptO (o:Option Nat) (w w':World):Prop:=w.heap.size<=w'.heap.size/\∀b,b<w.heap.size->o≠some b->w'.heap[b]?=w.heap[b]?
theorem KeptO.refl (o:Option Nat) (w:World):KeptO o w w:=⟨Nat.le_refl _,fun _ _ _=>rfl⟩
theorem KeptO.ext {o:Option Nat} {w w1 w2:World} (h:KeptO o w w1) (hb:Below w1.heap.size w1 w2):KeptO o w w2:=⟨Nat.le_trans h.1 hb.size,fun b hlt hne=>(hb.block b (Nat.lt_of_lt_of_le hlt h.1)).trans (h.2 b hlt hne)⟩
theorem KeptO.sets {g:Nat} {w w1:World} (h:KeptO (some g) w w1) (hsz:∀vs o,(w1.setCells g o vs).heap.size=w1.heap.size) (o:Nat) (vs:List Value):KeptO (some g) w (w1.setCells g o vs):=⟨by rw[hsz];exact h.1,fun b hlt hne=>(other_setCells (fun e=>hne (by rw[e])) vs o w1).trans (h.2 b hlt hne)⟩
theorem size_setCells (g:Nat):∀(vs:List Value) (o:Nat) (w:World),(w.setCells g o vs).heap.size=w.heap.size
 |[],o,w=>rfl
 |v::vs,o,w=>by rw[World.setCells,size_setCells g vs];simp
theorem frozen_block {w w':World} {g o:Nat} (h:w'.heap[g]?=w.heap[g]?):w'.frozen? ⟨g,o,none⟩=w.frozen? ⟨g,o,none⟩:=by
 unfold World.frozen?
 rw[h]
def OwnRows (B:Nat) (w':World) (cs':List Value):DVal->Prop
 | .mk k b n s l f=>∃p1 c1 v2,cs'=[.int .u8 (k:Int),.bool b,.int .i64 n,.string (bs s),.slice p1 l.length c1,v2]/\l.length<=c1/\c1<=maxLen/\HasL (fun z=>B<=z/\v2.ownBlock≠some z) w' p1 l/\Acc HasFld B 66 7 w' v2 f
def OwnOk (a:DVal):Prop:=∀(S:Nat->Prop) (cs:List Value) (w:World),HasVal S w a cs→
 Calls Tryz.prog 134 #[.agg cs.toArray] w fun e' w'=>∃cs',e'=.returned (.agg cs'.toArray)/\HasVal (fun b=>w.heap.size<=b) w' a cs'/\OwnRows w.heap.size w' cs' a/\Below w.heap.size w w'
set_option maxHeartbeats 8000000 in
theorem own_step (k:Nat) (b:Bool) (n:Int) (s:List UInt8) (l:List DVal) (f:List (List UInt8×DVal)) (ihL:∀v∈l,OwnOk v) (ihF:∀p∈f,OwnOk p.2):OwnOk (.mk k b n s l f):=by
 intro S cs w hv
 have hv2:HasVal (fun b=>b<w.heap.size) w (.mk k b n s l f) cs:=relV.kept (relV.lt hv) (fun b h=>h.2) (fun _ _ _=>rfl)
 obtain⟨pl,cl,pf,cf,rfl,hbd,hL,hF⟩:=hasVal_mk.1 hv2
 have hll:=hbd.2.2.2.2.1
 have hlf:=hbd.2.2.2.2.2.1
 show Calls Tryz.prog 134 #[.agg #[.int .u8 (k:Int),.bool b,.int .i64 n,.string (bs s),.slice pl l.length cl,.slice pf f.length cf]] w _
 have HCL:=hid (fun w' (hb:Below w.heap.size w w')=>cloneValue_any l _ pl cl w' ((hasL_row.1 hL).ext relV hb) hll)
 have HCF:=hid (fun w' (hb:Below w.heap.size w w')=>cloneField_any f _ pf cf w' ((hasF_row.1 hF).ext relF hb) hlf)
 have HBD:=hid hbd
 have HIL:=hid ihL
 have HIF:=hid ihF
 clear hv hv2 hL hF hbd ihL ihF
 go_enter Tryz.func134,Tryz.ntmps134
 go_upto_region 1 with(fail)
 generalize hW0:World.alloc (World.alloc w _) _=W0
 have hd1:IsBlk W0 w.heap.size #[.int .u8 (k:Int),.bool b,.int .i64 n,.string (bs s),.slice pl l.length cl,.slice pf f.length cf] 52:=by rw[←hW0];exact(IsBlk.new _ _ _).alloc _
 have hd2:IsBlk W0 (w.heap.size+1) #[.int .u8 0,.bool false,.int .i64 0,.string (bs []),.slice none 0 0,.slice none 0 0] 52:=by rw[←hW0];exact IsBlk.new_at (by simp)
 have hb0:Below w.heap.size w W0:=by rw[←hW0];exact((Below.refl _ _).alloc (Nat.le_refl _) _).alloc (by simp) _
 have hlt1:w.heap.size<W0.heap.size:=hd1.lt
 have hlt2:w.heap.size+1<W0.heap.size:=hd2.lt
 clear hW0
 have c4:=hd1.cell (i:=4) rfl
 have c5:=hd1.cell (i:=5) rfl
 have f4:=hd1.frozen 4
 have f5:=hd1.frozen 5
 have HD1:=hid hd1
 have HD2:=hid hd2
 have HB0:=hid hb0
 clear hd1 hd2 hb0
 refine mixB_start [7,8,9] (Cls W0) (by kernel_rfl) (Cls.of ((Below.refl _ _).drew)) (fun hCw=>?_)
 refine mixB_flt (by kernel_rfl) [0,1,3,4] 6 _ _ hCw (by kernel_rfl) ?_
 simp only[opsAt,zo1,zo2,zo3,zo4,zo5]
 unfold Cls
 repeat(go_big_quiet_step (fail))
 refine wpQuiet_nil ?_
 (try rw[←Cls_def])
 refine mixB_ch (i:=2) (fuel:=5) (by kernel_rfl) (by kernel_rfl) ?_
 simp only[opsAt,zo1,zo2,zo3,zo4,zo5]
 go_wp2_with(go_at_call 158;refine(HCL.out _ (below_ext HB0.out hCw.below)).mono ?_;rintro e' w1 ⟨v1,rfl,hh1,hb1⟩;have hC1:=hCw)
 refine ThenB.mk (hCw.trans hb1) (fun hCw=>?_)
 refine mixB_flt (by kernel_rfl) [6] 4 _ _ hCw (by kernel_rfl) ?_
 simp only[opsAt,zo1,zo2,zo3,zo4,zo5]
 unfold Cls
 repeat(go_big_quiet_step (fail))
 refine wpQuiet_nil ?_
 (try rw[←Cls_def])
 refine mixB_ch (i:=5) (fuel:=3) (by kernel_rfl) (by kernel_rfl) ?_
 simp only[opsAt,zo1,zo2,zo3,zo4,zo5]
 go_wp2_with(go_at_call 159;refine(HCF.out _ (below_ext HB0.out hCw.below)).mono ?_;rintro e' w2 ⟨v2,rfl,hh2,hb2⟩)
 refine ThenB.mk (hCw.trans hb2) (fun hCw=>?_)
 refine mixB_end [7,8,9] (by kernel_rfl) ?_
 simp only[opsAt,zo1,zo2,zo3,zo4,zo5]
 have hB01:Below W0.heap.size W0 w1:=((Below.refl _ _).drew).trans hb1
 have hz1:=hB01.size
 have hz2:=hb2.size
 obtain⟨p1,c1,rfl,ho1⟩:=(hh1 (fun _=>True)).slice
 obtain⟨p2,c2,rfl,ho2⟩:=(hh2 (fun _=>True)).slice
 have hblk2:=HD1.out.ext hCw.below
 have hzer2:=HD2.out.ext hCw.below
 have HB2:=hid (below_ext HB0.out hCw.below)
 have HH1:Hid (∀D,Half HasVal 6 W0.heap.size D (fun b=>b<w.heap.size) 52 w2 (.slice p1 l.length c1) l 0):=hid (fun D=>(hh1 D).ext relV hb2)
 have HH2:=hid hh2
 have HO1:=hid ho1
 have HO2:=hid ho2
 clear c4 c5 f4 f5 hCw hb1 hb2 hh1 hh2 ho1 ho2 hB01
 have c4:=hblk2.cell (i:=4) rfl
 have c5:=hblk2.cell (i:=5) rfl
 have f4:=hblk2.frozen 4
 have f5:=hblk2.frozen 5
 have HBK2:=hid hblk2
 have HZR2:=hid hzer2
 clear hblk2 hzer2
 have hst:∀W,W=(w2.setCell ⟨w.heap.size,4,none⟩ (.slice p1 l.length c1)).setCell ⟨w.heap.size,5,none⟩ (.slice p2 f.length c2)→
  IsBlk W w.heap.size #[.int .u8 (k:Int),.bool b,.int .i64 n,.string (bs s),.slice p1 l.length c1,.slice p2 f.length c2] 52/\IsBlk W (w.heap.size+1) #[.int .u8 0,.bool false,.int .i64 0,.string (bs []),.slice none 0 0,.slice none 0 0] 52/\Below w.heap.size w W/\W.heap.size=w2.heap.size/\∀z,z≠w.heap.size->W.heap[z]?=w2.heap[z]?:=by
  intro W hW
  subst hW
  have hoth:∀z,z≠w.heap.size->((w2.setCell ⟨w.heap.size,4,none⟩ (.slice p1 l.length c1)).setCell ⟨w.heap.size,5,none⟩ (.slice p2 f.length c2)).heap[z]?=w2.heap[z]?:=fun z hz=>by
   rw[Below.heap_setCell _ _ _ _ hz,Below.heap_setCell _ _ _ _ hz]
  exact⟨by simpa using(HBK2.out.set 4 (.slice p1 l.length c1)).set 5 (.slice p2 f.length c2),(hoth _ (by omega)).trans HZR2.out,below_set (below_set HB2.out (Nat.le_refl _)) (Nat.le_refl _),by simp,hoth⟩
 have HST:=hid hst
 clear hst
 go_wp2
 refine Calm.normal ?_
 generalize hW3:World.setCell _ _ _=W3
 obtain⟨e1,e2,e3,e4,e5⟩:=HST.out W3 hW3.symm
 have HH13:Hid (Half HasVal 6 W0.heap.size (fun z=>W3.heap.size<=z) (fun b=>b<w.heap.size) 52 W3 (.slice p1 l.length c1) l 0):=hid ((HH1.out _).kept relV (fun z hz=>e5 z (by have:=(HO1.out z hz).1;omega)) (fun z hz hlt=>by have h6:W3.heap.size<=z:=hz;omega) (fun z hz hlt=>e5 z (by have h6:z<w.heap.size:=hz;omega)))
 have HH23:Hid (∀D,(∀z,D z->W3.heap.size<=z)->Half HasFld 7 w1.heap.size D (fun b=>b<w.heap.size) 66 W3 (.slice p2 f.length c2) f 0):=hid (fun D hD=>(HH2.out _).kept relF (fun z hz=>e5 z (by have:=(HO2.out z hz).1;omega)) (fun z hz hlt=>by have:=hD z hz;omega) (fun z hz hlt=>e5 z (by have h6:z<w.heap.size:=hz;omega)))
 have HBK3:=hid e1
 have HZR3:=hid e2
 have HB3:=hid e3
 have hs3:W3.heap.size=w2.heap.size:=e4
 have hlt3:w.heap.size+1<W3.heap.size:=by omega
 have c4:=e1.cell (i:=4) rfl
 clear e1 e2 e3 e4 e5 hW3 c5 f4 f5 HST HBK2 HZR2 HB2 HH1 HH2 HD1 HD2 HCL HCF
 have HS3:=hid hs3
 clear hs3
 go_wp2
 clear c4
 go_loopw [16] (fun i wr=>∃j:Nat,i=.int .i64 (j:Int)/\j<=l.length/\Half HasVal 6 W0.heap.size (fun z=>W3.heap.size<=z) (fun b=>b<w.heap.size) 52 wr (.slice p1 l.length c1) l j/\KeptO (Value.slice p1 l.length c1).ownBlock W3 wr/\Below w.heap.size w wr) (fun i _=>l.length-(intOf i).toNat)
 case atStart=>exact⟨0,rfl,Nat.zero_le _,HH13.out,KeptO.refl _ _,HB3.out⟩
 case round=>
 clear HH13
 obtain⟨j,rfl,hj,hh,hk,hbw⟩:=hrel
 have HBW:=hid hbw
 have HH:=hid hh
 have HKO:=hid hk
 have hblk:IsBlk wr w.heap.size #[.int .u8 (k:Int),.bool b,.int .i64 n,.string (bs s),.slice p1 l.length c1,.slice p2 f.length c2] 52:=(hk.2 _ (by omega) (fun e=>by have:=(HO1.out _ e).1;omega)).trans HBK3.out
 have hszr:=hk.1
 have HBK:=hid hblk
 clear hh hk hbw
 by_cases hlt:j<l.length
 ·obtain⟨g,cap,cs,hv,hBg,hgl,hnc,hcm,hval,hcl,hcells,hfz⟩:=HH.out.next hlt
  obtain⟨e1,_,e3⟩:=Value.slice.inj hv
  subst e1
  subst e3
  have hg3:=(HO1.out g rfl)
  have hok:=HIL.out _ (List.getElem_mem hlt)
  have HVAL:=hid hval
  generalize hu:l[j]=u at hval hok
  obtain⟨k1,b1,n1,s1,l1,f1⟩:=u
  have hval':=hval
  obtain⟨pl1,cl1,pf1,cf1,rfl,_⟩:=hasVal_mk.1 hval
  have d0:=hcells 0 (by omega)
  have d1:=hcells 1 (by omega)
  have d2:=hcells 2 (by omega)
  have d3:=hcells 3 (by omega)
  have d4:=hcells 4 (by omega)
  have d5:=hcells 5 (by omega)
  rw[Nat.add_zero]at d0
  have c4:=hblk.cell (i:=4) rfl
  have hlb:=hblk.lt
  have HOK:=hid hok
  have HV:=hid hval'
  have HU:=hid hu
  have HC:=hid hcells
  have HFZ:=hid hfz
  clear hval hval' hok hu hv hcells hfz hblk hcl hcm
  go_upto_region 5 with(fail)
  refine mixB_start [10] (Cls wr) (by kernel_rfl) (Cls.of ((Below.refl _ _).drew)) (fun hCw=>?_)
  refine mixB_flt (by kernel_rfl) [0,1,2,3,4,5,6,7] 3 _ _ hCw (by kernel_rfl) ?_
  simp only[opsAt,zo1,zo2,zo3,zo4,zo5]
  unfold Cls
  repeat(go_big_quiet_step (fail))
  refine wpQuiet_nil ?_
  (try rw[←Cls_def])
  refine mixB_ch (i:=8) (fuel:=2) (by kernel_rfl) (by kernel_rfl) ?_
  simp only[opsAt,zo1,zo2,zo3,zo4,zo5]
  go_wp2_with(go_at_call 134;refine(HOK.out _ _ _ (HV.out.ext hCw.below)).mono ?_;rintro e' w3 ⟨cs',rfl,hv3,_,hb3⟩;obtain⟨pl2,cl2,pf2,cf2,rfl,_⟩:=hasVal_mk.1 hv3)
  refine ThenB.mk (hCw.trans hb3) (fun hCw=>?_)
  refine mixB_flt (by kernel_rfl) [9] 1 _ _ hCw (by kernel_rfl) ?_
  simp only[opsAt,zo1,zo2,zo3,zo4,zo5]
  unfold Cls
  repeat(go_big_quiet_step (fail))
  refine wpQuiet_nil ?_
  (try rw[←Cls_def])
  refine mixB_end [10] (by kernel_rfl) ?_
  simp only[opsAt,zo1,zo2,zo3,zo4,zo5]
  have hbr:Below wr.heap.size wr w3:=((Below.refl _ _).drew).trans hb3
  have hgb:=hbr.block g hgl
  have hz3:=hbr.size
  have x0:=(hbr.cell (p:=⟨g,j*6,none⟩) hgl).trans d0
  have x1:=(hbr.cell (p:=⟨g,j*6+1,none⟩) hgl).trans d1
  have x2:=(hbr.cell (p:=⟨g,j*6+2,none⟩) hgl).trans d2
  have x3:=(hbr.cell (p:=⟨g,j*6+3,none⟩) hgl).trans d3
  have x4:=(hbr.cell (p:=⟨g,j*6+4,none⟩) hgl).trans d4
  have x5:=(hbr.cell (p:=⟨g,j*6+5,none⟩) hgl).trans d5
  have y0:=(frozen_block (o:=j*6) hgb).trans (HFZ.out _)
  have y1:=(frozen_block (o:=j*6+1) hgb).trans (HFZ.out _)
  have y2:=(frozen_block (o:=j*6+2) hgb).trans (HFZ.out _)
  have y3:=(frozen_block (o:=j*6+3) hgb).trans (HFZ.out _)
  have y4:=(frozen_block (o:=j*6+4) hgb).trans (HFZ.out _)
  have y5:=(frozen_block (o:=j*6+5) hgb).trans (HFZ.out _)
  have hstep:=HH.out.step (pre:=[]) (new:=[.int .u8 (k1:Int),.bool b1,.int .i64 n1,.string (bs s1),.slice pl2 l1.length cl2,.slice pf2 f1.length cf2]) relV hbr hlt (fun z hz e=>by have h6:z<w.heap.size:=hz;have:=hg3.1;omega) (fun z hz=>by omega) (fun z hz e=>by have h6:W3.heap.size<=z:=hz;have:=hg3.2;have h7:=HS3.out;omega) (fun S w cs _=>⟨cs,rfl⟩) (by rw[HU.out];exact hv3)
  have hkn:=KeptO.sets (HKO.out.ext hbr) (size_setCells g · · w3) (j*6+0) [.int .u8 (k1:Int),.bool b1,.int .i64 n1,.string (bs s1),.slice pl2 l1.length cl2,.slice pf2 f1.length cf2]
  have hbn:=below_setCells (B:=w.heap.size) (w0:=w) (show w.heap.size<=g by have:=hg3.1;omega) [.int .u8 (k1:Int),.bool b1,.int .i64 n1,.string (bs s1),.slice pl2 l1.length cl2,.slice pf2 f1.length cf2] (j*6+0) w3 (HBW.out.trans (hbr.mono HBW.out.size))
  have HF:=hid (And.intro hstep (And.intro hkn hbn))
  clear hstep hkn hbn hgb hbr hb3 hv3 d0 d1 d2 d3 d4 d5 c4 hCw
  go_wp2
  refine Calm.normal ?_
  clear x0 x1 x2 x3 x4 x5 y0 y1 y2 y3 y4 y5
  go_wp2
  go_roundw
  case rel=>exact⟨j+1,by go_num,hlt,HF.out.1,HF.out.2.1,HF.out.2.2⟩
  case measure=>simp[intOf];omega
 obtain rfl:j=l.length:=by omega
 obtain⟨W4,hW4⟩:∃W4,W4=wr:=⟨_,rfl⟩
 have hff:Half HasFld 7 w1.heap.size (fun z=>W4.heap.size<=z) (fun b=>b<w.heap.size) 66 W4 (.slice p2 f.length c2) f 0:=by
  rw[hW4]
  refine(HH23.out (fun z=>wr.heap.size<=z) (fun z hz=>by have h6:wr.heap.size<=z:=hz;omega)).kept relF (fun z hz=>HKO.out.2 z (by have:=(HO2.out z hz).2;have:=HS3.out;omega) (fun e=>?_)) (fun z hz hlt=>?_) (fun z hz hlt=>HKO.out.2 z hlt (fun e=>?_))
  ·have h6:=(HO1.out z e).2
   have h7:=(HO2.out z hz).1
   omega
  ·have h6:wr.heap.size<=z:=hz
   omega
  ·have h6:z<w.heap.size:=hz
   have h7:=(HO1.out z e).1
   omega
 have hzer:IsBlk wr (w.heap.size+1) #[.int .u8 0,.bool false,.int .i64 0,.string (bs []),.slice none 0 0,.slice none 0 0] 52:=(HKO.out.2 _ (by omega) (fun e=>by have:=(HO1.out _ e).1;omega)).trans HZR3.out
 have c5:=HBK.out.cell (i:=5) rfl
 have HFF:=hid hff
 have HZR:=hid hzer
 have HBW4:Hid (Below w.heap.size w W4):=hid (by rw[hW4];exact HBW.out)
 have HW4:=hid hW4
 have hlb:=HBK.out.lt
 clear hff hzer hlt hj
 subst hW4
 clear HW4
 go_wp2
 clear c5
 go_loopw [33] (fun i wr=>∃j:Nat,i=.int .i64 (j:Int)/\j<=f.length/\Half HasFld 7 w1.heap.size (fun z=>W4.heap.size<=z) (fun b=>b<w.heap.size) 66 wr (.slice p2 f.length c2) f j/\KeptO (Value.slice p2 f.length c2).ownBlock W4 wr/\Below w.heap.size w wr) (fun i _=>f.length-(intOf i).toNat)
 case atStart=>exact⟨0,rfl,Nat.zero_le _,HFF.out,KeptO.refl _ _,HBW4.out⟩
 case round=>
 clear HFF
 obtain⟨j,rfl,hj,hh,hk,hbw⟩:=hrel
 have HBW':=hid hbw
 have HH':=hid hh
 have HKO':=hid hk
 have hblk:IsBlk wr w.heap.size #[.int .u8 (k:Int),.bool b,.int .i64 n,.string (bs s),.slice p1 l.length c1,.slice p2 f.length c2] 52:=(hk.2 _ (by omega) (fun e=>by have:=(HO2.out _ e).1;omega)).trans HBK.out
 have hszw:=hk.1
 have HBK':=hid hblk
 clear hh hk hbw
 by_cases hlt:j<f.length
 ·obtain⟨g,cap,cs,hv,hBg,hgl,hnc,hcm,hval,hcl,hcells,hfz⟩:=HH'.out.next hlt
  obtain⟨e1,_,e3⟩:=Value.slice.inj hv
  subst e1
  subst e3
  have hg3:=(HO2.out g rfl)
  have hok:=HIF.out _ (List.getElem_mem hlt)
  generalize hu:f[j]=fu at hval hok
  obtain⟨x,k1,b1,n1,s1,l1,f1⟩:=fu
  obtain⟨cs1,rfl,hxl,hval⟩:=hval
  have hval':=hval
  obtain⟨pl1,cl1,pf1,cf1,rfl,_⟩:=hasVal_mk.1 hval
  have d0:=hcells 1 (by omega)
  have d1:=hcells 2 (by omega)
  have d2:=hcells 3 (by omega)
  have d3:=hcells 4 (by omega)
  have d4:=hcells 5 (by omega)
  have d5:=hcells 6 (by omega)
  have c5:=hblk.cell (i:=5) rfl
  have hlb2:=hblk.lt
  have HOK:=hid hok
  have HV:=hid hval'
  have HU:=hid hu
  have HXL:=hid hxl
  have HC:=hid hcells
  have HFZ:=hid hfz
  clear hval hval' hok hu hv hcells hfz hblk hcl hcm hxl
  go_upto_region 10 with(fail)
  refine mixB_start [12] (Cls wr) (by kernel_rfl) (Cls.of ((Below.refl _ _).drew)) (fun hCw=>?_)
  refine mixB_flt (by kernel_rfl) [0,1,2,3,4,5,6,7,8] 4 _ _ hCw (by kernel_rfl) ?_
  simp only[opsAt,zo1,zo2,zo3,zo4,zo5]
  unfold Cls
  repeat(go_big_quiet_step (fail))
  refine wpQuiet_nil ?_
  (try rw[←Cls_def])
  refine mixB_ch (i:=9) (fuel:=3) (by kernel_rfl) (by kernel_rfl) ?_
  simp only[opsAt,zo1,zo2,zo3,zo4,zo5]
  go_wp2_with(go_at_call 134;refine(HOK.out _ _ _ (HV.out.ext hCw.below)).mono ?_;rintro e' w3 ⟨cs',rfl,hv3,_,hb3⟩;obtain⟨pl3,cl3,pf3,cf3,rfl,_⟩:=hasVal_mk.1 hv3)
  refine ThenB.mk (hCw.trans hb3) (fun hCw=>?_)
  refine mixB_flt (by kernel_rfl) [10,11] 1 _ _ hCw (by kernel_rfl) ?_
  simp only[opsAt,zo1,zo2,zo3,zo4,zo5]
  unfold Cls
  repeat(go_big_quiet_step (fail))
  refine wpQuiet_nil ?_
  (try rw[←Cls_def])
  refine mixB_end [12] (by kernel_rfl) ?_
  simp only[opsAt,zo1,zo2,zo3,zo4,zo5]
  have hbr:Below wr.heap.size wr w3:=((Below.refl _ _).drew).trans hb3
  have hgb:=hbr.block g hgl
  have hz3:=hbr.size
  have x0:=(hbr.cell (p:=⟨g,j*7+1,none⟩) hgl).trans d0
  have x1:=(hbr.cell (p:=⟨g,j*7+2,none⟩) hgl).trans d1
  have x2:=(hbr.cell (p:=⟨g,j*7+3,none⟩) hgl).trans d2
  have x3:=(hbr.cell (p:=⟨g,j*7+4,none⟩) hgl).trans d3
  have x4:=(hbr.cell (p:=⟨g,j*7+5,none⟩) hgl).trans d4
  have x5:=(hbr.cell (p:=⟨g,j*7+6,none⟩) hgl).trans d5
  have y0:=(frozen_block (o:=j*7+1) hgb).trans (HFZ.out _)
  have y1:=(frozen_block (o:=j*7+2) hgb).trans (HFZ.out _)
  have y2:=(frozen_block (o:=j*7+3) hgb).trans (HFZ.out _)
  have y3:=(frozen_block (o:=j*7+4) hgb).trans (HFZ.out _)
  have y4:=(frozen_block (o:=j*7+5) hgb).trans (HFZ.out _)
  have y5:=(frozen_block (o:=j*7+6) hgb).trans (HFZ.out _)
  have hstep:=HH'.out.step (pre:=[.string (bs x)]) (new:=[.int .u8 (k1:Int),.bool b1,.int .i64 n1,.string (bs s1),.slice pl3 l1.length cl3,.slice pf3 f1.length cf3]) relF hbr hlt (fun z hz e=>by have h6:z<w.heap.size:=hz;have:=hg3.1;omega) (fun z hz=>Nat.le_trans hszw hz) (fun z hz e=>by have h6:W4.heap.size<=z:=hz;have:=hg3.2;have h7:=HS3.out;omega) (fun S w cs h=>by
   rw[HU.out]at h
   obtain⟨cs',rfl,_⟩:=h
   exact⟨cs',rfl⟩) (by rw[HU.out];exact⟨_,rfl,HXL.out,hv3⟩)
  have hkn:=KeptO.sets (HKO'.out.ext hbr) (size_setCells g · · w3) (j*7+1) [.int .u8 (k1:Int),.bool b1,.int .i64 n1,.string (bs s1),.slice pl3 l1.length cl3,.slice pf3 f1.length cf3]
  have hbn:=below_setCells (B:=w.heap.size) (w0:=w) (show w.heap.size<=g by have:=hg3.1;omega) [.int .u8 (k1:Int),.bool b1,.int .i64 n1,.string (bs s1),.slice pl3 l1.length cl3,.slice pf3 f1.length cf3] (j*7+1) w3 (HBW'.out.trans (hbr.mono HBW'.out.size))
  have HF:=hid (And.intro hstep (And.intro hkn hbn))
  clear hstep hkn hbn hgb hbr hb3 hv3 d0 d1 d2 d3 d4 d5 c5 hCw
  go_wp2
  refine Calm.normal ?_
  clear x0 x1 x2 x3 x4 x5 y0 y1 y2 y3 y4 y5
  go_wp2
  go_roundw
  case rel=>exact⟨j+1,by go_num,hlt,HF.out.1,HF.out.2.1,HF.out.2.2⟩
  case measure=>simp[intOf];omega
 obtain rfl:j=f.length:=by omega
 have hzer2:IsBlk wr (w.heap.size+1) #[.int .u8 0,.bool false,.int .i64 0,.string (bs []),.slice none 0 0,.slice none 0 0] 52:=(HKO'.out.2 _ (by omega) (fun e=>by have:=(HO2.out _ e).1;omega)).trans HZR.out
 have hL:Half HasVal 6 W0.heap.size (fun z=>W3.heap.size<=z) (fun b=>b<w.heap.size) 52 wr (.slice p1 l.length c1) l l.length:=HH.out.kept relV (fun z hz=>HKO'.out.2 z (by have:=(HO1.out z hz).2;have:=HS3.out;omega) (fun e=>by have h6:=(HO2.out z e).1;have h7:=(HO1.out z hz).2;omega)) (fun z hz hlt=>HKO'.out.2 z hlt (fun e=>by have h6:=(HO2.out z e).2;have h7:W3.heap.size<=z:=hz;have:=HS3.out;omega)) (fun z hz hlt=>HKO'.out.2 z hlt (fun e=>by have h6:=(HO2.out z e).1;have h7:z<w.heap.size:=hz;omega))
 have hF:=HH'.out
 have hend:∀W,(∀z,z≠w.heap.size+1->W.heap[z]?=wr.heap[z]?)->HasVal (fun z=>w.heap.size<=z) W (.mk k b n s l f) [.int .u8 (k:Int),.bool b,.int .i64 n,.string (bs s),.slice p1 l.length c1,.slice p2 f.length c2]:=by
  intro W ho
  have hL2:=hL.kept relV (fun z hz=>ho z (by have:=(HO1.out z hz).1;omega)) (fun z hz _=>ho z (by have h7:W3.heap.size<=z:=hz;omega)) (fun z hz _=>ho z (by have h7:z<w.heap.size:=hz;omega))
  have hF2:=hF.kept relF (fun z hz=>ho z (by have:=(HO2.out z hz).1;omega)) (fun z hz _=>ho z (by have h7:W4.heap.size<=z:=hz;omega)) (fun z hz _=>ho z (by have h7:z<w.heap.size:=hz;omega))
  obtain⟨q1,d1,hv1,b1,b2,hc1⟩:=(hL2.acc relV (fun z hz=>⟨by have h7:W3.heap.size<=z:=hz;have h8:=HS3.out;omega,fun e=>by have h6:=(HO1.out z e).2;have h7:W3.heap.size<=z:=hz;have:=HS3.out;omega⟩)).cells relV (S:=fun z=>w.heap.size<=z) (fun z hz=>Nat.le_trans (show w.heap.size<=W0.heap.size by omega) hz)
  obtain⟨q2,d2,hv2,b3,b4,hc2⟩:=(hF2.acc relF (fun z hz=>⟨by have h7:W4.heap.size<=z:=hz;have h8:=HS3.out;omega,fun e=>by have h6:=(HO2.out z e).2;have h7:W4.heap.size<=z:=hz;have:=HS3.out;omega⟩)).cells relF (S:=fun z=>w.heap.size<=z) (fun z hz=>Nat.le_trans (show w.heap.size<=w1.heap.size by omega) hz)
  obtain⟨e1,_,e3⟩:=Value.slice.inj hv1
  obtain⟨e4,_,e6⟩:=Value.slice.inj hv2
  subst e1
  subst e3
  subst e4
  subst e6
  have hbd:=HBD.out
  refine hasVal_mk.2 ⟨_,_,_,_,rfl,⟨hbd.1,hbd.2.1,hbd.2.2.1,hbd.2.2.2.1,hbd.2.2.2.2.1,hbd.2.2.2.2.2.1,b1,b2,b3,b4⟩,fun i hi=>?_,hasF_row.2 (fun i hi=>?_)⟩
  ·obtain⟨g,cs,x1,x2,x3⟩:=hc1 i hi
   exact⟨g,0,cs,x1,x2,x3⟩
  ·obtain⟨g,cs,x1,x2,x3⟩:=hc2 i hi
   exact⟨g,0,cs,x1,x2,x3⟩
 have hend2:∀W,(∀z,z≠w.heap.size+1->W.heap[z]?=wr.heap[z]?)->OwnRows w.heap.size W [.int .u8 (k:Int),.bool b,.int .i64 n,.string (bs s),.slice p1 l.length c1,.slice p2 f.length c2] (.mk k b n s l f):=by
  intro W ho
  have hL2:=hL.kept relV (fun z hz=>ho z (by have:=(HO1.out z hz).1;omega)) (fun z hz _=>ho z (by have h7:W3.heap.size<=z:=hz;omega)) (fun z hz _=>ho z (by have h7:z<w.heap.size:=hz;omega))
  have hF2:=hF.kept relF (fun z hz=>ho z (by have:=(HO2.out z hz).1;omega)) (fun z hz _=>ho z (by have h7:W4.heap.size<=z:=hz;omega)) (fun z hz _=>ho z (by have h7:z<w.heap.size:=hz;omega))
  obtain⟨q1,d1,hv1,b1,b2,hc1⟩:=hL2.cells relV (S:=fun z=>w.heap.size<=z/\(Value.slice p2 f.length c2).ownBlock≠some z) (fun z hz=>⟨by have:=(HO1.out z hz).1;omega,fun e=>by have h6:=(HO2.out z e).1;have h7:=(HO1.out z hz).2;omega⟩) (fun z hz=>⟨by have h7:W3.heap.size<=z:=hz;have h8:=HS3.out;omega,fun e=>by have h6:=(HO2.out z e).2;have h7:W3.heap.size<=z:=hz;have:=HS3.out;omega⟩)
  obtain⟨e1,_,e3⟩:=Value.slice.inj hv1
  subst e1
  subst e3
  refine⟨_,_,_,rfl,b1,b2,fun i hi=>?_,(hF2.base (by omega)).acc relF (fun z hz=>⟨by have h7:W4.heap.size<=z:=hz;have h8:=HS3.out;omega,fun e=>by have h6:=(HO2.out z e).2;have h7:W4.heap.size<=z:=hz;have:=HS3.out;omega⟩)⟩
  obtain⟨g,cs,x1,x2,x3⟩:=hc1 i hi
  exact⟨g,0,cs,x1,x2,x3⟩
 have HEND:=hid hend
 have HEND2:=hid hend2
 have HZR2:=hid hzer2
 have b0:=HBK'.out.cell (i:=0) rfl
 have b1:=HBK'.out.cell (i:=1) rfl
 have b2:=HBK'.out.cell (i:=2) rfl
 have b3:=HBK'.out.cell (i:=3) rfl
 have b4:=HBK'.out.cell (i:=4) rfl
 have b5:=HBK'.out.cell (i:=5) rfl
 have z0:=hzer2.cell (i:=0) rfl
 have z1:=hzer2.cell (i:=1) rfl
 have z2:=hzer2.cell (i:=2) rfl
 have z3:=hzer2.cell (i:=3) rfl
 have z4:=hzer2.cell (i:=4) rfl
 have z5:=hzer2.cell (i:=5) rfl
 have y0:=hzer2.frozen 0
 have y1:=hzer2.frozen 1
 have y2:=hzer2.frozen 2
 have y3:=hzer2.frozen 3
 have y4:=hzer2.frozen 4
 have y5:=hzer2.frozen 5
 have hlz:=hzer2.lt
 have hset:=blk_setCells [.int .u8 (k:Int),.bool b,.int .i64 n,.string (bs s),.slice p1 l.length c1,.slice p2 f.length c2] 0 wr [.int .u8 0,.bool false,.int .i64 0,.string (bs []),.slice none 0 0,.slice none 0 0] hzer2
 have hbf:=below_setCells (B:=w.heap.size) (w0:=w) (show w.heap.size<=w.heap.size+1 by omega) [.int .u8 (k:Int),.bool b,.int .i64 n,.string (bs s),.slice p1 l.length c1,.slice p2 f.length c2] 0 wr HBW'.out
 have HSET:=hid hset
 have HBF:=hid hbf
 have HOTH:=hid (fun z (hz:z≠w.heap.size+1)=>other_setCells hz [.int .u8 (k:Int),.bool b,.int .i64 n,.string (bs s),.slice p1 l.length c1,.slice p2 f.length c2] 0 wr)
 clear hzer2 hL hF hend hend2 hset hbf
 go_wp2
 exact bodyPost_ret (v:=.agg #[.int .u8 (k:Int),.bool b,.int .i64 n,.string (bs s),.slice p1 l.length c1,.slice p2 f.length c2]) (results_c (p:=2) (ty:=52) Tryz.results134 rfl HSET.out Tryz.underlying52 rfl (by kernel_rfl)) rfl ⟨[.int .u8 (k:Int),.bool b,.int .i64 n,.string (bs s),.slice p1 l.length c1,.slice p2 f.length c2],rfl,HEND.out _ HOTH.out,HEND2.out _ HOTH.out,HBF.out⟩
theorem own_all :∀(m:Nat) (v:DVal),SizeOf.sizeOf v<m->OwnOk v:=by
 intro m
 induction m with
 |zero=>intro v h;omega
 |succ m ih=>
  intro v h
  obtain⟨k,b,n,s,l,f⟩:=v
  refine own_step k b n s l f (fun u hu=>ih u ?_) (fun p hp=>ih p.2 ?_)
  ·have:=DVal.size_l (k:=k) (b:=b) (n:=n) (s:=s) (f:=f) u hu
   omega
  ·have:=DVal.size_f (k:=k) (b:=b) (n:=n) (s:=s) (l:=l) p hp
   omega
theorem own_any (v:DVal):OwnOk v:=own_all _ v (Nat.lt_succ_self _)
def StF (B:Nat) (D:Nat->Prop) (w:World) (p1:Option Addr) (l:List DVal) (v2:Value) (f:List (List UInt8×DVal)):Prop:=
 HasL D w p1 l/\Full HasFld 7 B D 66 w v2 f/\∀z,D z->B<=z/\v2.ownBlock≠some z
theorem StF.kept {B:Nat} {D:Nat->Prop} {w w':World} {p1:Option Addr} {l:List DVal} {v2:Value} {f:List (List UInt8×DVal)} (h:StF B D w p1 l v2 f) (ho:∀b,v2.ownBlock=some b->w'.heap[b]?=w.heap[b]?) (hw:∀b,D b->b<w.heap.size->w'.heap[b]?=w.heap[b]?):StF B D w' p1 l v2 f:=
 ⟨h.1.ext_to (fun _ h=>h) hw,h.2.1.kept relF (fun _ h=>h) ho hw,h.2.2⟩
theorem StF.ext {B:Nat} {D:Nat->Prop} {w w':World} {p1:Option Addr} {l:List DVal} {v2:Value} {f:List (List UInt8×DVal)} (h:StF B D w p1 l v2 f) (hb:Below w.heap.size w w'):StF B D w' p1 l v2 f:=
 h.kept (fun b hb'=>hb.block b (h.2.1.lt b hb').2) (fun b _ hlt=>hb.block b hlt)
theorem StF.more {B:Nat} {D D':Nat->Prop} {w:World} {p1:Option Addr} {l:List DVal} {v2:Value} {f:List (List UInt8×DVal)} (h:StF B D w p1 l v2 f) (hD:∀z,D z->D' z) (hD':∀z,D' z->B<=z/\v2.ownBlock≠some z):StF B D' w p1 l v2 f:=
 ⟨h.1.ext_to hD (fun _ _ _=>rfl),h.2.1.kept relF hD (fun _ _=>rfl) (fun _ _ _=>rfl),hD'⟩
theorem st_end {B:Nat} {D:Nat->Prop} {w:World} {p1 p2:Option Addr} {c1 c2:Nat} {k:Nat} {b:Bool} {n:Int} {s:List UInt8} {l:List DVal} {f:List (List UInt8×DVal)} (h:StF B D w p1 l (.slice p2 f.length c2) f)
 (hbd:k<256/\ -9223372036854775808<=n/\n<=9223372036854775807/\s.length<=1073741824/\l.length<=1073741824) (hc1:l.length<=c1) (hm1:c1<=maxLen) (hf:f.length<=1073741824) {S:Nat->Prop} (hS:∀z,B<=z->S z):
 HasVal S w (.mk k b n s l f) [.int .u8 (k:Int),.bool b,.int .i64 n,.string (bs s),.slice p1 l.length c1,.slice p2 f.length c2]/\OwnRows B w [.int .u8 (k:Int),.bool b,.int .i64 n,.string (bs s),.slice p1 l.length c1,.slice p2 f.length c2] (.mk k b n s l f):=by
 obtain⟨hL,hF,hD⟩:=h
 obtain⟨q2,d2,hv2,b3,b4,hc2⟩:=hF.cells relF (S:=S) (fun z hz=>hS z (hF.lt z hz).1) (fun z hz=>hS z (hD z hz).1)
 obtain⟨e4,_,e6⟩:=Value.slice.inj hv2
 subst e4
 subst e6
 refine⟨hasVal_mk.2 ⟨_,_,_,_,rfl,⟨hbd.1,hbd.2.1,hbd.2.2.1,hbd.2.2.2.1,hbd.2.2.2.2,hf,hc1,hm1,b3,b4⟩,hL.ext_to (fun z hz=>hS z (hD z hz).1) (fun _ _ _=>rfl),hasF_row.2 (fun i hi=>?_)⟩,p1,c1,_,rfl,hc1,hm1,hL.ext_to hD (fun _ _ _=>rfl),?_⟩
 ·obtain⟨g,cs,x1,x2,x3⟩:=hc2 i hi
  exact⟨g,0,cs,x1,x2,x3⟩
 ·obtain⟨css,h1,h2,h3⟩:=hF
  exact⟨css,h1,h2,fun i hi hi'=>relF.kept (h3 i hi hi') hD (fun _ _ _=>rfl)⟩
theorem own_base' {B B':Nat} {w:World} {cs:List Value} {v:DVal} (h:OwnRows B w cs v) (hB:B'<=B):OwnRows B' w cs v:=by
 obtain⟨k,b,n,s,l,f⟩:=v
 obtain⟨p1,c1,v2,e,h1,h2,h3,css,⟨h4,h5⟩,h6,h7⟩:=h
 refine⟨p1,c1,v2,e,h1,h2,h3.ext_to (fun z hz=>⟨Nat.le_trans hB hz.1,hz.2⟩) (fun _ _ _=>rfl),css,⟨h4,?_⟩,h6,fun i hi hi'=>relF.kept (h7 i hi hi') (fun z hz=>⟨Nat.le_trans hB hz.1,hz.2⟩) (fun _ _ _=>rfl)⟩
 rcases h5 with h5|⟨g,cap,cur,e1,e2,e3⟩
 ·exact .inl h5
 ·exact .inr ⟨g,cap,cur,e1,by omega,e3⟩
theorem st_fin {B B':Nat} {D:Nat->Prop} {w:World} {p1 p2:Option Addr} {c1 c2 n2:Nat} {k:Nat} {b:Bool} {n:Int} {s:List UInt8} {l:List DVal} {f:List (List UInt8×DVal)} (h:StF B D w p1 l (.slice p2 n2 c2) f) (hn:n2=f.length)
 (hbd:k<256/\ -9223372036854775808<=n/\n<=9223372036854775807/\s.length<=1073741824/\l.length<=1073741824) (hc1:l.length<=c1) (hm1:c1<=maxLen) (hf:f.length<=1073741824) (hB:B'<=B):
 HasVal (fun z=>B'<=z) w (.mk k b n s l f) [.int .u8 (k:Int),.bool b,.int .i64 n,.string (bs s),.slice p1 l.length c1,.slice p2 n2 c2]/\OwnRows B' w [.int .u8 (k:Int),.bool b,.int .i64 n,.string (bs s),.slice p1 l.length c1,.slice p2 n2 c2] (.mk k b n s l f):=by
 subst hn
 have h2:=st_end (b:=b) h hbd hc1 hm1 hf (S:=fun z=>B'<=z) (fun z hz=>Nat.le_trans hB hz)
 exact⟨h2.1,own_base' h2.2 hB⟩
theorem zero_has' (S:Nat->Prop) (w:World):HasVal S w .zero [.int .u8 0,.bool false,.int .i64 0,.string (bs []),.slice none 0 0,.slice none 0 0]:=
 hasVal_mk.2 ⟨none,0,none,0,rfl,⟨by omega,by omega,by omega,by simp,by simp,by simp,by simp,by unfold maxLen;omega,by simp,by unfold maxLen;omega⟩,fun i hi=>by simp at hi,fun i hi=>by simp at hi⟩
def zeroCs :List Value:=[.int .u8 0,.bool false,.int .i64 0,.string (bs []),.slice none 0 0,.slice none 0 0]
theorem own_kept {B:Nat} {w w':World} {cs:List Value} {v:DVal} (h:OwnRows B w cs v) (hk:∀z,B<=z->z<w.heap.size->w'.heap[z]?=w.heap[z]?):OwnRows B w' cs v:=by
 obtain⟨k,b,n,s,l,f⟩:=v
 obtain⟨p1,c1,v2,e,h1,h2,h3,h4⟩:=h
 exact⟨p1,c1,v2,e,h1,h2,h3.ext_to (fun _ h=>h) (fun z hz hlt=>hk z hz.1 hlt),h4.kept relF hk⟩
set_option maxHeartbeats 4000000 in
theorem get_nil (k:Nat) (b:Bool) (n:Int) (s:List UInt8) (l:List DVal) (f:List (List UInt8×DVal)) (S:Nat->Prop) (cs:List Value) (w:World) (hv:HasVal S w (.mk k b n s l f) cs):
 Calls Tryz.prog 101 #[.agg cs.toArray,.slice none 0 0] w fun e' w'=>∃cs',e'=.returned (.tuple #[.agg cs'.toArray,.bool true])/\HasVal (fun b=>w.heap.size<=b) w' (.mk k b n s l f) cs'/\OwnRows w.heap.size w' cs' (.mk k b n s l f)/\Below w.heap.size w w':=by
 have HV:=hid hv
 obtain⟨pl,cl,pf,cf,rfl,_⟩:=hasVal_mk.1 hv
 clear hv
 show Calls Tryz.prog 101 #[.agg #[.int .u8 (k:Int),.bool b,.int .i64 n,.string (bs s),.slice pl l.length cl,.slice pf f.length cf],.slice none 0 0] w _
 go_enter Tryz.func101,Tryz.ntmps101
 go_upto_region 1 with(fail)
 generalize hW0:World.alloc (World.alloc w _) _=W0
 have hd1:IsBlk W0 w.heap.size ([.int .u8 (k:Int),.bool b,.int .i64 n,.string (bs s),.slice pl l.length cl,.slice pf f.length cf]:List Value).toArray 52:=by rw[←hW0];exact(IsBlk.new _ _ _).alloc _
 have hd2:IsBlk W0 (w.heap.size+1) zeroCs.toArray 52:=by rw[←hW0];exact IsBlk.new_at (by simp)
 have hbw0:Below w.heap.size w W0:=by rw[←hW0];exact((Below.refl _ _).alloc (Nat.le_refl _) _).alloc (by simp) _
 have hsz0:=hbw0.size
 have HD1:=hid hd1
 have HD2:=hid hd2
 have HB0:=hid hbw0
 have hlt2:=hd2.lt
 clear hW0 hd1 hd2 hbw0
 go_wp2
 go_loopw [13] (fun i wr=>i=.int .i64 0/\wr=W0) (fun _ _=>0)
 case atStart=>exact⟨rfl,rfl⟩
 case round=>
 obtain⟨rfl,rfl⟩:=hrel
 have hb1:=HD1.out
 have x0:=hb1.cell (i:=0) rfl
 have x1:=hb1.cell (i:=1) rfl
 have x2:=hb1.cell (i:=2) rfl
 have x3:=hb1.cell (i:=3) rfl
 have x4:=hb1.cell (i:=4) rfl
 have x5:=hb1.cell (i:=5) rfl
 have hl1:=hb1.lt
 clear hb1
 go_wp2_with fail
 go_at_call 134
 refine(own_any (.mk k b n s l f) _ _ _ (HV.out.ext HB0.out)).mono ?_
 rintro e' w3 ⟨cs3,rfl,hv3,ho3,hb3⟩
 obtain⟨pl3,cl3,pf3,cf3,rfl,_⟩:=hasVal_mk.1 hv3
 have hz3:=HD2.out.ext hb3
 have z0:=hz3.cell (i:=0) rfl
 have z1:=hz3.cell (i:=1) rfl
 have z2:=hz3.cell (i:=2) rfl
 have z3:=hz3.cell (i:=3) rfl
 have z4:=hz3.cell (i:=4) rfl
 have z5:=hz3.cell (i:=5) rfl
 have y0:=hz3.frozen 0
 have y1:=hz3.frozen 1
 have y2:=hz3.frozen 2
 have y3:=hz3.frozen 3
 have y4:=hz3.frozen 4
 have y5:=hz3.frozen 5
 have hlz3:=hz3.lt
 have hot:∀z,w3.heap.size<=z\/wr.heap.size<=z->(w3.setCells (w.heap.size+1) 0 [.int .u8 (k:Int),.bool b,.int .i64 n,.string (bs s),.slice pl3 l.length cl3,.slice pf3 f.length cf3]).heap[z]?=w3.heap[z]?:=fun z hz=>other_setCells (by have h9:=hb3.size;omega) _ _ _
 have hend:=And.intro (HasVal.ext_to (S:=fun b=>wr.heap.size<=b) (S':=fun b=>w.heap.size<=b) (w':=w3.setCells (w.heap.size+1) 0 [.int .u8 (k:Int),.bool b,.int .i64 n,.string (bs s),.slice pl3 l.length cl3,.slice pf3 f.length cf3]) hv3 (fun z hz=>Nat.le_trans hsz0 hz) (fun z hz _=>hot z (.inr hz))) (own_base' (own_kept (w':=w3.setCells (w.heap.size+1) 0 [.int .u8 (k:Int),.bool b,.int .i64 n,.string (bs s),.slice pl3 l.length cl3,.slice pf3 f.length cf3]) ho3 (fun z hz _=>hot z (.inr hz))) hsz0)
 have hze:=And.intro (blk_setCells [.int .u8 (k:Int),.bool b,.int .i64 n,.string (bs s),.slice pl3 l.length cl3,.slice pf3 f.length cf3] 0 w3 zeroCs hz3) (below_setCells (B:=w.heap.size) (w0:=w) (show w.heap.size<=w.heap.size+1 by omega) [.int .u8 (k:Int),.bool b,.int .i64 n,.string (bs s),.slice pl3 l.length cl3,.slice pf3 f.length cf3] 0 w3 (HB0.out.trans (hb3.mono hsz0)))
 have HZE:=hid hze
 have HEN:=hid hend
 clear hze hend hot hz3 hv3 ho3 hb3 x0 x1 x2 x3 x4 x5 hl1
 go_wp2
 exact bodyPost_ret (results_ct (p:=4) (u:=5) (ty:=52) Tryz.results101 rfl HZE.out.1 Tryz.underlying52 rfl (by kernel_rfl) rfl) rfl ⟨[.int .u8 (k:Int),.bool b,.int .i64 n,.string (bs s),.slice pl3 l.length cl3,.slice pf3 f.length cf3],rfl,HEN.out.1,HEN.out.2,HZE.out.2⟩
def RCopyOk (a:DVal):Prop:=∀(S:Nat->Prop) (cs:List Value) (w:World),HasVal S w a cs→
 Calls Tryz.prog 66 #[.agg cs.toArray] w fun e' w'=>∃cs',e'=.returned (.agg cs'.toArray)/\HasVal (fun b=>w.heap.size<=b) w' a cs'/\OwnRows w.heap.size w' cs' a/\Below w.heap.size w w'
set_option maxHeartbeats 8000000 in
theorem rcopy_step (k:Nat) (b:Bool) (n:Int) (s:List UInt8) (l:List DVal) (f:List (List UInt8×DVal)) (ihL:∀v∈l,RCopyOk v) (ihF:∀p∈f,RCopyOk p.2):RCopyOk (.mk k b n s l f):=by
 intro S cs w hv
 obtain⟨pl,cl,pf,cf,rfl,hbd,hL,hF⟩:=hasVal_mk.1 hv
 have hll:=hbd.2.2.2.2.1
 have hlf:=hbd.2.2.2.2.2.1
 show Calls Tryz.prog 66 #[.agg #[.int .u8 (k:Int),.bool b,.int .i64 n,.string (bs s),.slice pl l.length cl,.slice pf f.length cf]] w _
 have HBD:=hid hbd
 have HIL:=hid ihL
 have HIF:=hid ihF
 have HL:=hid hL
 have HF:=hid hF
 clear hv hL hF hbd ihL ihF
 go_enter Tryz.func66,Tryz.ntmps66
 go_upto_region 3 with(fail)
 generalize hW0:World.alloc (World.alloc (World.alloc w _) _) _=W0
 have hd1:IsBlk W0 w.heap.size #[.int .u8 (k:Int),.bool b,.int .i64 n,.string (bs s),.slice pl l.length cl,.slice pf f.length cf] 52:=by rw[←hW0];exact((IsBlk.new _ _ _).alloc _).alloc _
 have hd2:IsBlk W0 (w.heap.size+1) ([.int .u8 0,.bool false,.int .i64 0,.string (bs []),.slice none 0 0,.slice none 0 0]:List Value).toArray 52:=by rw[←hW0];exact(IsBlk.new_at (by simp)).alloc _
 have hd3:IsBlk W0 (w.heap.size+1+1) #[.int .u8 (k:Int),.bool b,.int .i64 n,.string (bs s),.slice none 0 0,.slice none 0 0] 52:=by rw[←hW0];exact IsBlk.new_at (by simp)
 have hb0:Below w.heap.size w W0:=by rw[←hW0];exact(((Below.refl _ _).alloc (Nat.le_refl _) _).alloc (by simp) _).alloc (by simp;omega) _
 have hlt3:w.heap.size+1+1<W0.heap.size:=hd3.lt
 have hsz0:W0.heap.size=w.heap.size+1+1+1:=by rw[←hW0];simp
 clear hW0
 have c4:=hd1.cell (i:=4) rfl
 have hlt1:=hd1.lt
 have HD1:=hid hd1
 have HD2:=hid hd2
 have HD3:=hid hd3
 have HB0:=hid hb0
 have HS0:=hid hsz0
 clear hd1 hd2 hd3 hb0 hsz0
 go_wp2
 clear c4
 go_loopw [14] (fun i wr=>∃(j:Nat) (v1:Value),i=.int .i64 (j:Int)/\j<=l.length/\IsBlk wr (w.heap.size+1+1) #[.int .u8 (k:Int),.bool b,.int .i64 n,.string (bs s),v1,.slice none 0 0] 52/\Acc HasVal W0.heap.size 52 6 wr v1 (l.take j)/\IsBlk wr w.heap.size #[.int .u8 (k:Int),.bool b,.int .i64 n,.string (bs s),.slice pl l.length cl,.slice pf f.length cf] 52/\IsBlk wr (w.heap.size+1) ([.int .u8 0,.bool false,.int .i64 0,.string (bs []),.slice none 0 0,.slice none 0 0]:List Value).toArray 52/\Below w.heap.size w wr/\W0.heap.size<=wr.heap.size) (fun i _=>l.length-(intOf i).toNat)
 case atStart=>exact⟨0,.slice none 0 0,rfl,Nat.zero_le _,HD3.out,Acc.nil _ _ _,HD1.out,HD2.out,HB0.out,Nat.le_refl _⟩
 case round=>
 clear HD1 HD2 HD3
 obtain⟨j,v1,rfl,hj,hd3,hacc,hd1,hd2,hbw,hsr⟩:=hrel
 obtain⟨q1,d1,rfl⟩:=hacc.slice
 have hjl:(l.take j).length=j:=by rw[List.length_take];omega
 rw[hjl]at hd3 hacc
 have HD1:=hid hd1
 have HD2:=hid hd2
 have HD3:=hid hd3
 have HAC:=hid hacc
 have HBW:=hid hbw
 have HJL:=hid hjl
 have hlr3:=hd3.lt
 have hlr1:=hd1.lt
 have c4:=hd3.cell (i:=4) rfl
 have hown:∀z,(Value.slice q1 j d1).ownBlock=some z->W0.heap.size<=z/\z<wr.heap.size:=hacc.lt
 have HOW:=hid hown
 have hszw:=hbw.size
 by_cases hlt:j<l.length
 ·obtain⟨g,o,cu,hp,hcu,hvu⟩:=(HL.out.ext hbw) j hlt
  have hok:=HIL.out _ (List.getElem_mem hlt)
  generalize hu:l[j]=u at hvu hok
  have HV:=hid hvu
  have HOK:=hid hok
  have HU:=hid hu
  obtain⟨k1,b1,n1,s1,l1,f1⟩:=u
  obtain⟨pl1,cl1,pf1,cf1,rfl,_⟩:=hasVal_mk.1 hvu
  obtain⟨e0,e1,e2,e3,e4,e5⟩:=hcu.six
  have hgl:=hcu.2.1
  subst hp
  clear hd1 hd2 hd3 hacc hbw hjl hown hvu hok hu hcu
  go_upto_region 6 with(fail)
  generalize hW5:World.alloc wr _=W5
  have hb5:Below wr.heap.size wr W5:=by rw[←hW5];exact(Below.refl _ _).alloc (Nat.le_refl _) _
  have hd5:IsBlk W5 wr.heap.size #[.int .u8 (k1:Int),.bool b1,.int .i64 n1,.string (bs s1),.slice pl1 l1.length cl1,.slice pf1 f1.length cf1] 52:=by rw[←hW5];exact IsBlk.new _ _ _
  have hd35:=HD3.out.ext hb5
  clear e0 e1 e2 e3 e4 e5 c4
  have x0:=hd5.cell (i:=0) rfl
  have x1:=hd5.cell (i:=1) rfl
  have x2:=hd5.cell (i:=2) rfl
  have x3:=hd5.cell (i:=3) rfl
  have x4:=hd5.cell (i:=4) rfl
  have x5:=hd5.cell (i:=5) rfl
  have c4:=hd35.cell (i:=4) rfl
  have hl5:=hd5.lt
  have hl35:=hd35.lt
  have hs5:=hb5.size
  have HB5:=hid hb5
  clear hW5 hd5 hd35 hb5
  refine mixB_start [5,6,7] (Cls W5) (by kernel_rfl) (Cls.of ((Below.refl _ _).drew)) (fun hCw=>?_)
  refine mixB_flt (by kernel_rfl) [0,1,2] 5 _ _ hCw (by kernel_rfl) ?_
  simp only[opsAt,zo1,zo2,zo3,zo4,zo5]
  unfold Cls
  repeat(go_big_quiet_step (fail))
  refine wpQuiet_nil ?_
  (try rw[←Cls_def])
  refine mixB_ch (i:=3) (fuel:=4) (by kernel_rfl) (by kernel_rfl) ?_
  simp only[opsAt,zo1,zo2,zo3,zo4,zo5]
  go_wp2_with(go_at_call 66;refine(HOK.out _ _ _ (HV.out.ext (below_ext HB5.out hCw.below))).mono ?_;rintro e' w6 ⟨cs6,rfl,hv6,_,hb6⟩;obtain⟨pl2,cl2,pf2,cf2,rfl,_⟩:=hasVal_mk.1 hv6;have hC6:=hCw.trans hb6)
  refine ThenB.mk (hC6) (fun hCw=>?_)
  refine mixB_ch (i:=4) (fuel:=3) (by kernel_rfl) (by kernel_rfl) ?_
  simp only[opsAt,zo1,zo2,zo3,zo4,zo5]
  go_wp2_with(fail)
  refine ThenB.mk (hC6.trans ((Below.refl _ _).alloc (Nat.le_refl _) _)) (fun hCw=>?_)
  refine mixB_end [5,6,7] (by kernel_rfl) ?_
  simp only[opsAt,zo1,zo2,zo3,zo4,zo5]
  have hb56:=hC6.below
  have hbr6:=below_ext HB5.out hb56
  have hs6:=hbr6.size
  have hs56:=hb56.size
  have hvy:HasVal (fun z=>W5.heap.size<=z) w6 (.mk k1 b1 n1 s1 l1 f1) [.int .u8 (k1:Int),.bool b1,.int .i64 n1,.string (bs s1),.slice pl2 l1.length cl2,.slice pf2 f1.length cf2]:=hv6
  have hb67:Below w6.heap.size w6 (w6.alloc (.cells #[.int .u8 (k1:Int),.bool b1,.int .i64 n1,.string (bs s1),.slice pl2 l1.length cl2,.slice pf2 f1.length cf2] 52)):=(Below.refl _ _).alloc (Nat.le_refl _) _
  have hbr7:=below_ext hbr6 hb67
  have HA6:=hid (HAC.out.kept relV (fun z hz hlt=>hbr7.block z hlt))
  have hy:HasVal (fun z=>W0.heap.size<=z/\(Value.slice q1 j d1).ownBlock≠some z) (w6.alloc (.cells #[.int .u8 (k1:Int),.bool b1,.int .i64 n1,.string (bs s1),.slice pl2 l1.length cl2,.slice pf2 f1.length cf2] 52)) (.mk k1 b1 n1 s1 l1 f1) [.int .u8 (k1:Int),.bool b1,.int .i64 n1,.string (bs s1),.slice pl2 l1.length cl2,.slice pf2 f1.length cf2]:=
   HasVal.ext_to (S:=fun z=>W5.heap.size<=z) hvy (fun z hz=>⟨by omega,fun e=>by have:=(HOW.out z e).2;omega⟩) (fun z _ hlt=>hb67.block z hlt)
  have HY:=hid hy
  have HD16:=hid (HD1.out.ext hbr7)
  have HD26:=hid (HD2.out.ext hbr7)
  have HD36:=hid (HD3.out.ext hbr7)
  have HBW6:=hid (HBW.out.trans (hbr7.mono (by omega)))
  clear hy hv6 hvy hb6 hb56 hbr6 hb67 hbr7 hCw hC6 x0 x1 x2 x3 x4 x5 c4
  refine push_acc relV W0.heap.size rfl _ _ 49 52 (.agg #[.int .u8 0,.bool false,.int .i64 0,.string ⟨#[]⟩,.slice none 0 0,.slice none 0 0]) 80 rfl Tryz.underlying49 (by kernel_rfl) rfl (by decide) _ (l.take j) HA6.out w6.heap.size [.int .u8 (k1:Int),.bool b1,.int .i64 n1,.string (bs s1),.slice pl2 l1.length cl2,.slice pf2 f1.length cf2] (.mk k1 b1 n1 s1 l1 f1) (IsBlk.new _ _ _) HY.out rfl rfl (by simp;omega) (by rw[HJL.out];omega) (by rw[HJL.out];unfold maxLen;omega) ?_
  intro g1 cap w7 hacc7 hg7 hB1 hor hlt7
  rw[HJL.out]at hacc7
  rw[HJL.out]
  have hd37:=blk_grown HD36.out hg7 (fun e=>by have:=(HOW.out _ e).1;omega)
  have hd17:=blk_grown HD16.out hg7 (fun e=>by have:=(HOW.out _ e).1;omega)
  have hd27:=blk_grown HD26.out hg7 (fun e=>by have:=(HOW.out _ e).1;omega)
  have hbw7:=below_grown HBW6.out hg7 HBW6.out.size (fun z hz=>by have:=(HOW.out z hz).1;omega)
  have f7:w7.frozen? ⟨w.heap.size+1+1,4,none⟩=false:=hd37.frozen 4
  have d7:w7.cell? ⟨w.heap.size+1+1,4,none⟩=some (.slice q1 j d1):=hd37.cell rfl
  have htk:l.take (j+1)=l.take j++[.mk k1 b1 n1 s1 l1 f1]:=by rw[List.take_succ_eq_append_getElem hlt,HU.out]
  have hacs:Acc HasVal W0.heap.size 52 6 (w7.setCell ⟨w.heap.size+1+1,4,none⟩ (.slice (some ⟨g1,0,none⟩) (j+1) cap)) (.slice (some ⟨g1,0,none⟩) (j+1) cap) (l.take (j+1)):=by
   rw[htk]
   exact hacc7.kept relV (fun z hz _=>Below.heap_setCell _ _ _ _ (show z≠w.heap.size+1+1 by omega))
  have hd3s:=hd37.set 4 (.slice (some ⟨g1,0,none⟩) (j+1) cap)
  have hd1s:=hd17.set_other (a:=⟨w.heap.size+1+1,4,none⟩) (show w.heap.size+1+1≠w.heap.size by omega) (.slice (some ⟨g1,0,none⟩) (j+1) cap)
  have hd2s:=hd27.set_other (a:=⟨w.heap.size+1+1,4,none⟩) (show w.heap.size+1+1≠w.heap.size+1 by omega) (.slice (some ⟨g1,0,none⟩) (j+1) cap)
  have hbws:=below_set (o:=4) (u:=.slice (some ⟨g1,0,none⟩) (j+1) cap) hbw7 (show w.heap.size<=w.heap.size+1+1 by omega)
  have hszs:W0.heap.size<=(w7.setCell ⟨w.heap.size+1+1,4,none⟩ (.slice (some ⟨g1,0,none⟩) (j+1) cap)).heap.size:=by simp;omega
  have HFS:=hid (And.intro hacs (And.intro hd3s (And.intro hd1s (And.intro hd2s (And.intro hbws hszs)))))
  clear hacs hd3s hd1s hd2s hbws hszs hacc7 hg7 hd37 hd17 hd27 hbw7 hor htk
  go_wp2
  refine Calm.normal ?_
  go_wp2
  go_roundw
  case rel=>exact⟨j+1,.slice (some ⟨g1,0,none⟩) (j+1) cap,by go_num,hlt,by simpa using HFS.out.2.1,HFS.out.1,HFS.out.2.2.1,HFS.out.2.2.2.1,HFS.out.2.2.2.2.1,HFS.out.2.2.2.2.2⟩
  case measure=>simp[intOf];omega
 ·obtain rfl:j=l.length:=by omega
  clear hjl
  have hacL:Acc HasVal W0.heap.size 52 6 wr (.slice q1 l.length d1) l:=by have h:=hacc;rw[List.take_length]at h;exact h
  obtain⟨q,dd,hq,hlc1,hcm1,hcl⟩:=hacL.cells relV (S:=fun z=>W0.heap.size<=z) (fun _ h=>h)
  obtain⟨eq1,_,eq3⟩:=Value.slice.inj hq
  subst eq1
  subst eq3
  obtain⟨W3,hW3⟩:∃W3,W3=wr:=⟨_,rfl⟩
  have hHL:HasL (fun z=>W0.heap.size<=z/\z<W3.heap.size) W3 q1 l:=by
   rw[hW3]
   intro i hi
   obtain⟨gg,cs,e1,e2,e3⟩:=hcl i hi
   exact⟨gg,0,cs,e1,⟨⟨e2.1,e2.2.1⟩,e2.2⟩,relV.lt e3⟩
  have HHL:=hid hHL
  have HD13:Hid (IsBlk W3 w.heap.size #[.int .u8 (k:Int),.bool b,.int .i64 n,.string (bs s),.slice pl l.length cl,.slice pf f.length cf] 52):=hid (by rw[hW3];exact hd1)
  have HD23:Hid (IsBlk W3 (w.heap.size+1) ([.int .u8 0,.bool false,.int .i64 0,.string (bs []),.slice none 0 0,.slice none 0 0]:List Value).toArray 52):=hid (by rw[hW3];exact hd2)
  have HD33:Hid (IsBlk W3 (w.heap.size+1+1) #[.int .u8 (k:Int),.bool b,.int .i64 n,.string (bs s),.slice q1 l.length d1,.slice none 0 0] 52):=hid (by rw[hW3];exact hd3)
  have HBW3:Hid (Below w.heap.size w W3):=hid (by rw[hW3];exact hbw)
  clear hcl hHL hacL hacc HAC HJL hown HOW hbw HBW HD1 HD2 HD3 c4 hd1 hd2 hd3 hq hlt
  subst hW3
  have c5:=HD13.out.cell (i:=5) rfl
  have hl13:=HD13.out.lt
  go_wp2
  clear c5
  go_loopw [29] (fun i wr=>∃(j:Nat) (v2:Value),i=.int .i64 (j:Int)/\j<=f.length/\IsBlk wr (w.heap.size+1+1) #[.int .u8 (k:Int),.bool b,.int .i64 n,.string (bs s),.slice q1 l.length d1,v2] 52/\Acc HasFld W3.heap.size 66 7 wr v2 (f.take j)/\HasL (fun z=>W0.heap.size<=z/\z<W3.heap.size) wr q1 l/\IsBlk wr (w.heap.size+1) ([.int .u8 0,.bool false,.int .i64 0,.string (bs []),.slice none 0 0,.slice none 0 0]:List Value).toArray 52/\Below w.heap.size w wr/\W3.heap.size<=wr.heap.size) (fun i _=>f.length-(intOf i).toNat)
  case atStart=>exact⟨0,.slice none 0 0,rfl,Nat.zero_le _,HD33.out,Acc.nil _ _ _,HHL.out,HD23.out,HBW3.out,Nat.le_refl _⟩
  case round=>
  clear HD13 HD23 HD33 HHL HBW3
  obtain⟨j,v2,rfl,hj,hd3,hacc,hhl,hd2,hbw,hsr3⟩:=hrel
  obtain⟨q2,d2,rfl⟩:=hacc.slice
  have hjl:(f.take j).length=j:=by rw[List.length_take];omega
  rw[hjl]at hd3 hacc
  have HD2:=hid hd2
  have HD3:=hid hd3
  have HAC:=hid hacc
  have HHL:=hid hhl
  have HBW:=hid hbw
  have HJL:=hid hjl
  have hlr3':=hd3.lt
  have c5:=hd3.cell (i:=5) rfl
  have hown:∀z,(Value.slice q2 j d2).ownBlock=some z->W3.heap.size<=z/\z<wr.heap.size:=hacc.lt
  have HOW:=hid hown
  have hszw':=hbw.size
  by_cases hlt:j<f.length
  ·obtain⟨g,o,cu,hp,⟨hxl,hcu⟩,hvu⟩:=(HF.out.ext hbw) j hlt
   have hok:=HIF.out _ (List.getElem_mem hlt)
   generalize hu:f[j]=fu at hvu hok hxl hcu
   obtain⟨x,u⟩:=fu
   simp only[]at hvu hok hxl hcu
   have HV:=hid hvu
   have HOK:=hid hok
   have HU:=hid hu
   have HXL:=hid hxl
   obtain⟨k1,b1,n1,s1,l1,f1⟩:=u
   obtain⟨pl1,cl1,pf1,cf1,rfl,_⟩:=hasVal_mk.1 hvu
   obtain⟨e0,e1,e2,e3,e4,e5,e6⟩:=hcu.seven
   have hgl:=hcu.2.1
   subst hp
   clear hd2 hd3 hacc hhl hbw hjl hown hvu hok hu hcu hxl
   go_upto_region 11 with(fail)
   generalize hW5:World.alloc wr _=W5
   have hb5:Below wr.heap.size wr W5:=by rw[←hW5];exact(Below.refl _ _).alloc (Nat.le_refl _) _
   have hd5:IsBlk W5 wr.heap.size #[.string (bs x),.int .u8 (k1:Int),.bool b1,.int .i64 n1,.string (bs s1),.slice pl1 l1.length cl1,.slice pf1 f1.length cf1] 66:=by rw[←hW5];exact IsBlk.new _ _ _
   have hd35:=HD3.out.ext hb5
   clear e0 e1 e2 e3 e4 e5 e6 c5
   have x0:=hd5.cell (i:=0) rfl
   have x1:=hd5.cell (i:=1) rfl
   have x2:=hd5.cell (i:=2) rfl
   have x3:=hd5.cell (i:=3) rfl
   have x4:=hd5.cell (i:=4) rfl
   have x5:=hd5.cell (i:=5) rfl
   have x6:=hd5.cell (i:=6) rfl
   have c5:=hd35.cell (i:=5) rfl
   have hl5:=hd5.lt
   have hl35:=hd35.lt
   have hs5:=hb5.size
   have HB5:=hid hb5
   clear hW5 hd5 hd35 hb5
   refine mixB_start [9,10,11] (Cls W5) (by kernel_rfl) (Cls.of ((Below.refl _ _).drew)) (fun hCw=>?_)
   refine mixB_flt (by kernel_rfl) [0,1,2,3,4,5] 6 _ _ hCw (by kernel_rfl) ?_
   simp only[opsAt,zo1,zo2,zo3,zo4,zo5]
   unfold Cls
   repeat(go_big_quiet_step (fail))
   refine wpQuiet_nil ?_
   (try rw[←Cls_def])
   refine mixB_ch (i:=6) (fuel:=5) (by kernel_rfl) (by kernel_rfl) ?_
   simp only[opsAt,zo1,zo2,zo3,zo4,zo5]
   go_wp2_with(go_at_call 66;refine(HOK.out _ _ _ (HV.out.ext (below_ext HB5.out hCw.below))).mono ?_;rintro e' w6 ⟨cs6,rfl,hv6,_,hb6⟩;obtain⟨pl2,cl2,pf2,cf2,rfl,_⟩:=hasVal_mk.1 hv6;have hC6:=hCw.trans hb6)
   refine ThenB.mk (hC6) (fun hCw=>?_)
   refine mixB_flt (by kernel_rfl) [7] 4 _ _ hCw (by kernel_rfl) ?_
   simp only[opsAt,zo1,zo2,zo3,zo4,zo5]
   unfold Cls
   repeat(go_big_quiet_step (fail))
   refine wpQuiet_nil ?_
   (try rw[←Cls_def])
   refine mixB_ch (i:=8) (fuel:=3) (by kernel_rfl) (by kernel_rfl) ?_
   simp only[opsAt,zo1,zo2,zo3,zo4,zo5]
   go_wp2_with(fail)
   refine ThenB.mk (hC6.trans ((Below.refl _ _).alloc (Nat.le_refl _) _)) (fun hCw=>?_)
   refine mixB_end [9,10,11] (by kernel_rfl) ?_
   simp only[opsAt,zo1,zo2,zo3,zo4,zo5]
   have hb56:=hC6.below
   have hbr6:=below_ext HB5.out hb56
   have hs6:=hbr6.size
   have hs56:=hb56.size
   have hvy:HasVal (fun z=>W5.heap.size<=z) w6 (.mk k1 b1 n1 s1 l1 f1) [.int .u8 (k1:Int),.bool b1,.int .i64 n1,.string (bs s1),.slice pl2 l1.length cl2,.slice pf2 f1.length cf2]:=hv6
   have hb67:Below w6.heap.size w6 (w6.alloc (.cells (.string (bs x)::[.int .u8 (k1:Int),.bool b1,.int .i64 n1,.string (bs s1),.slice pl2 l1.length cl2,.slice pf2 f1.length cf2]).toArray 66)):=(Below.refl _ _).alloc (Nat.le_refl _) _
   have hbr7:=below_ext hbr6 hb67
   have HA6:=hid (HAC.out.kept relF (fun z hz hlt=>hbr7.block z hlt))
   have hy:HasFld (fun z=>W3.heap.size<=z/\(Value.slice q2 j d2).ownBlock≠some z) (w6.alloc (.cells (.string (bs x)::[.int .u8 (k1:Int),.bool b1,.int .i64 n1,.string (bs s1),.slice pl2 l1.length cl2,.slice pf2 f1.length cf2]).toArray 66)) (x,.mk k1 b1 n1 s1 l1 f1) (.string (bs x)::[.int .u8 (k1:Int),.bool b1,.int .i64 n1,.string (bs s1),.slice pl2 l1.length cl2,.slice pf2 f1.length cf2]):=
    ⟨[.int .u8 (k1:Int),.bool b1,.int .i64 n1,.string (bs s1),.slice pl2 l1.length cl2,.slice pf2 f1.length cf2],rfl,HXL.out,HasVal.ext_to (S:=fun z=>W5.heap.size<=z) hvy (fun z hz=>⟨by omega,fun e=>by have:=(HOW.out z e).2;omega⟩) (fun z _ hlt=>hb67.block z hlt)⟩
   have HY:=hid hy
   have HHL6:=hid (HHL.out.ext hbr7)
   have HD26:=hid (HD2.out.ext hbr7)
   have HD36:=hid (HD3.out.ext hbr7)
   have HBW6:=hid (HBW.out.trans (hbr7.mono (by omega)))
   clear hy hv6 hvy hb6 hb56 hbr6 hb67 hbr7 hCw hC6 x0 x1 x2 x3 x4 x5 x6 c5
   refine push_acc relF W3.heap.size rfl _ _ 50 66 (.agg #[.string ⟨#[]⟩,.int .u8 0,.bool false,.int .i64 0,.string ⟨#[]⟩,.slice none 0 0,.slice none 0 0]) 96 rfl Tryz.underlying50 (by kernel_rfl) rfl (by decide) _ (f.take j) HA6.out w6.heap.size (.string (bs x)::[.int .u8 (k1:Int),.bool b1,.int .i64 n1,.string (bs s1),.slice pl2 l1.length cl2,.slice pf2 f1.length cf2]) (x,.mk k1 b1 n1 s1 l1 f1) (IsBlk.new _ _ _) HY.out rfl rfl (by simp;omega) (by rw[HJL.out];omega) (by rw[HJL.out];unfold maxLen;omega) ?_
   intro g1 cap w7 hacc7 hg7 hB1 hor hlt7
   rw[HJL.out]at hacc7
   rw[HJL.out]
   have hd37:=blk_grown HD36.out hg7 (fun e=>by have:=(HOW.out _ e).1;omega)
   have hd27:=blk_grown HD26.out hg7 (fun e=>by have:=(HOW.out _ e).1;omega)
   have hbw7:=below_grown HBW6.out hg7 HBW6.out.size (fun z hz=>by have:=(HOW.out z hz).1;omega)
   have hhl7:HasL (fun z=>W0.heap.size<=z/\z<W3.heap.size) w7 q1 l:=HHL6.out.ext_to (fun _ h=>h) (fun z hz hlt=>hg7.block z hlt (fun e=>by have:=(HOW.out z e.symm).1;omega))
   have f7:w7.frozen? ⟨w.heap.size+1+1,5,none⟩=false:=hd37.frozen 5
   have d7:w7.cell? ⟨w.heap.size+1+1,5,none⟩=some (.slice q2 j d2):=hd37.cell rfl
   have htk:f.take (j+1)=f.take j++[(x,.mk k1 b1 n1 s1 l1 f1)]:=by rw[List.take_succ_eq_append_getElem hlt,HU.out]
   have hacs:Acc HasFld W3.heap.size 66 7 (w7.setCell ⟨w.heap.size+1+1,5,none⟩ (.slice (some ⟨g1,0,none⟩) (j+1) cap)) (.slice (some ⟨g1,0,none⟩) (j+1) cap) (f.take (j+1)):=by
    rw[htk]
    exact hacc7.kept relF (fun z hz _=>Below.heap_setCell _ _ _ _ (show z≠w.heap.size+1+1 by omega))
   have hhls:HasL (fun z=>W0.heap.size<=z/\z<W3.heap.size) (w7.setCell ⟨w.heap.size+1+1,5,none⟩ (.slice (some ⟨g1,0,none⟩) (j+1) cap)) q1 l:=hhl7.ext_to (fun _ h=>h) (fun z hz _=>Below.heap_setCell _ _ _ _ (show z≠w.heap.size+1+1 by omega))
   have hd3s:=hd37.set 5 (.slice (some ⟨g1,0,none⟩) (j+1) cap)
   have hd2s:=hd27.set_other (a:=⟨w.heap.size+1+1,5,none⟩) (show w.heap.size+1+1≠w.heap.size+1 by omega) (.slice (some ⟨g1,0,none⟩) (j+1) cap)
   have hbws:=below_set (o:=5) (u:=.slice (some ⟨g1,0,none⟩) (j+1) cap) hbw7 (show w.heap.size<=w.heap.size+1+1 by omega)
   have hszs:W3.heap.size<=(w7.setCell ⟨w.heap.size+1+1,5,none⟩ (.slice (some ⟨g1,0,none⟩) (j+1) cap)).heap.size:=by simp;omega
   have HFS:=hid (And.intro hacs (And.intro hd3s (And.intro hhls (And.intro hd2s (And.intro hbws hszs)))))
   clear hacs hd3s hhls hd2s hbws hszs hacc7 hg7 hd37 hd27 hbw7 hhl7 hor htk
   go_wp2
   refine Calm.normal ?_
   go_wp2
   go_roundw
   case rel=>exact⟨j+1,.slice (some ⟨g1,0,none⟩) (j+1) cap,by go_num,hlt,by simpa using HFS.out.2.1,HFS.out.1,HFS.out.2.2.1,HFS.out.2.2.2.1,HFS.out.2.2.2.2.1,HFS.out.2.2.2.2.2⟩
   case measure=>simp[intOf];omega
  ·obtain rfl:j=f.length:=by omega
   have hac2:Acc HasFld W3.heap.size 66 7 wr (.slice q2 f.length d2) f:=by have h:=hacc;rw[List.take_length]at h;exact h
   have hfu:=hac2.full relF
   have hst:StF W0.heap.size (fun z=>(W0.heap.size<=z/\z<W3.heap.size)\/((W3.heap.size<=z/\(Value.slice q2 f.length d2).ownBlock≠some z)/\z<wr.heap.size)) wr q1 l (.slice q2 f.length d2) f:=by
    refine⟨hhl.ext_to (fun z hz=> .inl hz) (fun _ _ _=>rfl),?_,fun z hz=>?_⟩
    ·obtain⟨css,⟨h1,h2⟩,h3,h4⟩:=hfu
     refine⟨css,⟨h1,?_⟩,h3,fun i hi hi'=>relF.kept (h4 i hi hi') (fun z hz=> .inr hz) (fun _ _ _=>rfl)⟩
     rcases h2 with h2|⟨gg,cap,cur,a1,a2,a3⟩
     ·exact .inl h2
     ·exact .inr ⟨gg,cap,cur,a1,by omega,a3⟩
    ·rcases hz with hz|hz
     ·exact⟨hz.1,fun e=>by have:=(HOW.out z e).1;omega⟩
     ·exact⟨by omega,hz.1.2⟩
   have hend:∀W,(∀z,z≠w.heap.size+1->W.heap[z]?=wr.heap[z]?)->HasVal (fun z=>w.heap.size<=z) W (.mk k b n s l f) [.int .u8 (k:Int),.bool b,.int .i64 n,.string (bs s),.slice q1 l.length d1,.slice q2 f.length d2]/\OwnRows w.heap.size W [.int .u8 (k:Int),.bool b,.int .i64 n,.string (bs s),.slice q1 l.length d1,.slice q2 f.length d2] (.mk k b n s l f):=by
    intro W ho
    have hbd:=HBD.out
    have hstW:=hst.kept (w':=W) (fun z hz=>ho z (by have:=(HOW.out z hz).1;omega)) (fun z hz _=>ho z (by
     rcases hz with hz|hz
     ·omega
     ·omega))
    exact st_fin hstW rfl ⟨hbd.1,hbd.2.1,hbd.2.2.1,hbd.2.2.2.1,hbd.2.2.2.2.1⟩ hlc1 hcm1 hbd.2.2.2.2.2.1 (B':=w.heap.size) (by omega)
   have v0:=hd3.cell (i:=0) rfl
   have v1:=hd3.cell (i:=1) rfl
   have v2:=hd3.cell (i:=2) rfl
   have v3:=hd3.cell (i:=3) rfl
   have v4:=hd3.cell (i:=4) rfl
   have v5:=hd3.cell (i:=5) rfl
   have z0:=hd2.cell (i:=0) rfl
   have z1:=hd2.cell (i:=1) rfl
   have z2:=hd2.cell (i:=2) rfl
   have z3:=hd2.cell (i:=3) rfl
   have z4:=hd2.cell (i:=4) rfl
   have z5:=hd2.cell (i:=5) rfl
   have fz0:=hd2.frozen 0
   have fz1:=hd2.frozen 1
   have fz2:=hd2.frozen 2
   have fz3:=hd2.frozen 3
   have fz4:=hd2.frozen 4
   have fz5:=hd2.frozen 5
   have hlz:=hd2.lt
   have hze:=And.intro (blk_setCells [.int .u8 (k:Int),.bool b,.int .i64 n,.string (bs s),.slice q1 l.length d1,.slice q2 f.length d2] 0 wr [.int .u8 0,.bool false,.int .i64 0,.string (bs []),.slice none 0 0,.slice none 0 0] hd2) (And.intro (hend _ (fun z hz=>other_setCells hz [.int .u8 (k:Int),.bool b,.int .i64 n,.string (bs s),.slice q1 l.length d1,.slice q2 f.length d2] 0 wr)) (below_setCells (B:=w.heap.size) (w0:=w) (show w.heap.size<=w.heap.size+1 by omega) [.int .u8 (k:Int),.bool b,.int .i64 n,.string (bs s),.slice q1 l.length d1,.slice q2 f.length d2] 0 wr hbw))
   have HFN:=hid hze
   clear hze hend hst hfu hac2 hd2 hd3 hhl hbw hacc hown hjl HJL c5 HHL HAC
   go_wp2
   exact bodyPost_ret (results_c (p:=2) (ty:=52) Tryz.results66 rfl HFN.out.1 Tryz.underlying52 rfl (by kernel_rfl)) rfl ⟨[.int .u8 (k:Int),.bool b,.int .i64 n,.string (bs s),.slice q1 l.length d1,.slice q2 f.length d2],rfl,HFN.out.2.1.1,HFN.out.2.1.2,HFN.out.2.2⟩
theorem rcopy_all :∀(m:Nat) (v:DVal),SizeOf.sizeOf v<m->RCopyOk v:=by
 intro m
 induction m with
 |zero=>intro v h;omega
 |succ m ih=>
  intro v h
  obtain⟨k,b,n,s,l,f⟩:=v
  refine rcopy_step k b n s l f (fun u hu=>ih u ?_) (fun p hp=>ih p.2 ?_)
  ·have:=DVal.size_l (k:=k) (b:=b) (n:=n) (s:=s) (f:=f) u hu
   omega
  ·have:=DVal.size_f (k:=k) (b:=b) (n:=n) (s:=s) (l:=l) p hp
   omega
theorem rcopy_any (v:DVal):RCopyOk v:=rcopy_all _ v (Nat.lt_succ_self _)
theorem sameL_drop {l m:List DVal} {i:Nat} (h:i<l.length) (h':i<m.length):sameL (l.drop i) (m.drop i)=(sameV l[i] m[i]&&sameL (l.drop (i+1)) (m.drop (i+1))):=by
 rw[List.drop_eq_getElem_cons h,List.drop_eq_getElem_cons h',sameL]
theorem sameF_drop {l m:List (List UInt8×DVal)} {i:Nat} (h:i<l.length) (h':i<m.length):sameF (l.drop i) (m.drop i)=(l[i].1==m[i].1&&sameV l[i].2 m[i].2&&sameF (l.drop (i+1)) (m.drop (i+1))):=by
 rw[List.drop_eq_getElem_cons h,List.drop_eq_getElem_cons h']
 generalize l[i]=p
 generalize m[i]=q
 obtain⟨x,v⟩:=p
 obtain⟨y,u⟩:=q
 rw[sameF]
theorem sameL_len :∀{l m:List DVal},sameL l m=true->l.length=m.length
 |[],[],_=>rfl
 |[],_::_,h=>by simp[sameL]at h
 |_::_,[],h=>by simp[sameL]at h
 |a::l,b::m,h=>by
  simp only[sameL,Bool.and_eq_true]at h
  simp[sameL_len h.2]
theorem sameF_len :∀{l m:List (List UInt8×DVal)},sameF l m=true->l.length=m.length
 |[],[],_=>rfl
 |[],_::_,h=>by simp[sameF]at h
 |_::_,[],h=>by simp[sameF]at h
 |(x,a)::l,(y,b)::m,h=>by
  simp only[sameF,Bool.and_eq_true]at h
  simp[sameF_len h.2]
def SameOk (a:DVal):Prop:=∀(b:DVal) (S S':Nat->Prop) (cs cs':List Value) (w:World),HasVal S w a cs->HasVal S' w b cs'→
 Calls Tryz.prog 102 #[.agg cs.toArray,.agg cs'.toArray] w fun e' w'=>e'=.returned (.bool (sameV a b))/\Below w.heap.size w w'
set_option maxHeartbeats 4000000 in
theorem same_step (k:Nat) (b:Bool) (n:Int) (s:List UInt8) (l:List DVal) (f:List (List UInt8×DVal)) (ihL:∀v∈l,SameOk v) (ihF:∀p∈f,SameOk p.2):SameOk (.mk k b n s l f):=by
 intro v S S' cs cs' w hv hv'
 obtain⟨k',b',n',s',l',f'⟩:=v
 obtain⟨pl,cl,pf,cf,rfl,hbd,hL,hF⟩:=hasVal_mk.1 hv
 obtain⟨pl',cl',pf',cf',rfl,hbd',hL',hF'⟩:=hasVal_mk.1 hv'
 clear hv hv'
 obtain⟨R,hR⟩:∃R,R=sameV (.mk k b n s l f) (.mk k' b' n' s' l' f'):=⟨_,rfl⟩
 rw[←hR]
 rw[sameV]at hR
 show Calls Tryz.prog 102 #[.agg #[.int .u8 (k:Int),.bool b,.int .i64 n,.string (bs s),.slice pl l.length cl,.slice pf f.length cf],.agg #[.int .u8 (k':Int),.bool b',.int .i64 n',.string (bs s'),.slice pl' l'.length cl',.slice pf' f'.length cf']] w _
 have hll:=hbd.2.2.2.2.1
 have hlf:=hbd.2.2.2.2.2.1
 have hll':=hbd'.2.2.2.2.1
 have hlf':=hbd'.2.2.2.2.2.1
 clear hbd hbd'
 obtain⟨nl,hnl⟩:∃nl,nl=l.length:=⟨_,rfl⟩
 obtain⟨nf,hnf⟩:∃nf,nf=f.length:=⟨_,rfl⟩
 obtain⟨nl',hnl'⟩:∃nl',nl'=l'.length:=⟨_,rfl⟩
 obtain⟨nf',hnf'⟩:∃nf',nf'=f'.length:=⟨_,rfl⟩
 rw[←hnl,←hnf,←hnl',←hnf']
 rw[←hnl]at hll
 rw[←hnf]at hlf
 rw[←hnl']at hll'
 rw[←hnf']at hlf'
 have HNL:=hid hnl
 have HNF:=hid hnf
 have HNL':=hid hnl'
 have HNF':=hid hnf'
 have HL:=hid hL
 have HF:=hid hF
 have HL':=hid hL'
 have HF':=hid hF'
 have HIL:=hid ihL
 have HIF:=hid ihF
 clear hnl hnf hnl' hnf' hL hF hL' hF' ihL ihF
 by_cases hall:k=k'/\b=b'/\n=n'/\s=s'/\nl=nl'/\nf=nf'
 ·obtain⟨rfl,rfl,rfl,rfl,rfl,rfl⟩:=hall
  have hR2:R=(sameL l l'&&sameF f f'):=by rw[hR];simp
  have HR:=hid hR2
  clear hR hR2
  go_enter Tryz.func102,Tryz.ntmps102
  go_upto_region 3 with(fail)
  generalize hW0:World.alloc (World.alloc w _) _=W0
  have hd1:IsBlk W0 w.heap.size #[.int .u8 (k:Int),.bool b,.int .i64 n,.string (bs s),.slice pl nl cl,.slice pf nf cf] 52:=by rw[←hW0];exact(IsBlk.new _ _ _).alloc _
  have hd2:IsBlk W0 (w.heap.size+1) #[.int .u8 (k:Int),.bool b,.int .i64 n,.string (bs s),.slice pl' nl cl',.slice pf' nf cf'] 52:=by rw[←hW0];exact IsBlk.new_at (by simp)
  have hb0:Below w.heap.size w W0:=by rw[←hW0];exact((Below.refl _ _).alloc (Nat.le_refl _) _).alloc (by simp) _
  have hlt1:w.heap.size<W0.heap.size:=hd1.lt
  have hlt2:w.heap.size+1<W0.heap.size:=hd2.lt
  clear hW0
  have c14:W0.cell? ⟨w.heap.size,4,none⟩=some (.slice pl nl cl):=hd1.cell rfl
  have HD1:=hid hd1
  have HD2:=hid hd2
  have HB0:=hid hb0
  clear hd1 hd2 hb0
  obtain⟨SL,hSL⟩:∃SL,SL=sameL l l':=⟨_,rfl⟩
  have HSL:=hid hSL
  clear hSL
  go_wp2
  clear c14
  go_loopw [54] (fun i wr=>∃j:Nat,i=.int .i64 j/\j<=nl/\sameL (l.drop j) (l'.drop j)=SL/\Below W0.heap.size W0 wr) (fun i _=>nl-(intOf i).toNat)
  case atStart=>exact⟨0,rfl,by omega,HSL.out.symm,Below.refl _ _⟩
  case round=>
  obtain⟨j,rfl,hj,hrel,hbw⟩:=hrel
  have HREL:=hid hrel
  have HBW:=hid hbw
  have hwr:=hbw.size
  clear hrel hbw
  by_cases hlt:j<nl
  ·have hj1:j<l.length:=by rw[←HNL.out];exact hlt
   have hj2:j<l'.length:=by rw[←HNL'.out];exact hlt
   have hbwr:=Below.trans HB0.out (HBW.out.mono (by omega))
   obtain⟨g1,o1,cs1,hp1,hc1,hv1⟩:=(HL.out.ext hbwr) j hj1
   obtain⟨g2,o2,cs2,hp2,hc2,hv2⟩:=(HL'.out.ext hbwr) j hj2
   have hok:=HIL.out _ (List.getElem_mem hj1)
   have hdr:=sameL_drop hj1 hj2
   generalize l[j]=u1 at hv1 hok hdr
   generalize l'[j]=u2 at hv2 hdr
   have HOK:=hid hok
   have HDR:=hid hdr
   have HV1:=hid hv1
   have HV2:=hid hv2
   obtain⟨k1,b1,n1,s1,l1,f1⟩:=u1
   obtain⟨k2,b2,n2,s2,l2,f2⟩:=u2
   obtain⟨pl1,cl1,pf1,cf1,rfl,_,_,_⟩:=hasVal_mk.1 hv1
   obtain⟨pl2,cl2,pf2,cf2,rfl,_,_,_⟩:=hasVal_mk.1 hv2
   obtain⟨d0,d1,d2,d3,d4,d5⟩:=hc1.six
   obtain⟨e0,e1,e2,e3,e4,e5⟩:=hc2.six
   have hg1:=hc1.2.1
   have hg2:=hc2.2.1
   clear hv1 hv2 hok hdr hc1 hc2 hbwr
   subst hp1
   subst hp2
   have c14:wr.cell? ⟨w.heap.size,4,none⟩=some (.slice (some ⟨g1,o1,none⟩) nl cl):=(HD1.out.below HBW.out hlt1).cell rfl
   have c24:wr.cell? ⟨w.heap.size+1,4,none⟩=some (.slice (some ⟨g2,o2,none⟩) nl cl'):=(HD2.out.below HBW.out hlt2).cell rfl
   have hw1r:w.heap.size<wr.heap.size:=by omega
   have hw2r:w.heap.size+1<wr.heap.size:=by omega
   obtain⟨q,hq⟩:∃q,q=sameV (.mk k1 b1 n1 s1 l1 f1) (.mk k2 b2 n2 s2 l2 f2):=⟨_,rfl⟩
   have HQ:=hid hq
   clear hq
   go_upto_region 6 with(fail)
   refine mix_start [] (Cls wr) (by kernel_rfl) (Cls.of ((Below.refl _ _).drew)) ?_
   refine mix_flt (by kernel_rfl) [0,1,2,3,4,5,6,7,8,9] 2 _ _ (by kernel_rfl) ?_
   simp only[opsAt,zo1,zo2,zo3,zo4,zo5]
   unfold Cls
   repeat(go_big_quiet_step (fail))
   refine wpQuiet_nil ?_
   (try rw[←Cls_def])
   refine mix_ch (i:=10) (fuel:=1) (by kernel_rfl) _ rfl (fun w1 hw1=>?_)
   go_wp2_with(go_at_call 102;refine(HOK.out (.mk k2 b2 n2 s2 l2 f2) S S' _ _ _ (HV1.out.ext hw1.below) (HV2.out.ext hw1.below)).mono ?_;rintro e' w' ⟨he,hb⟩;rw[←HQ.out]at he;subst he)
   refine Then.same (hw1.trans hb) ?_
   refine mix_flt (by kernel_rfl) [11] 0 _ _ (by kernel_rfl) ?_
   simp only[opsAt,zo1,zo2,zo3,zo4,zo5]
   unfold Cls
   repeat(go_big_quiet_step (fail))
   refine wpQuiet_nil ?_
   (try rw[←Cls_def])
   refine mix_end [] (by kernel_rfl) (fun w1 hw1=>?_)
   refine wpList_nil ?_
   refine Calm.normal ?_
   have HB1:=hid (below_ext HBW.out hw1.below)
   clear c14 c24 d0 d1 d2 d3 d4 d5 e0 e1 e2 e3 e4 e5 hw1 hb
   cases q
   ·have hSf:R=false:=by rw[HR.out,←HSL.out,←HREL.out,HDR.out,←HQ.out];rfl
    subst hSf
    go_wp2
    go_ret
    exact⟨rfl,Below.trans HB0.out (HB1.out.mono (by omega))⟩
   ·go_wp2
    go_roundw
    case rel=>exact⟨j+1,by go_num,by omega,by rw[←HREL.out,HDR.out,←HQ.out];rfl,HB1.out⟩
    case measure=>simp[intOf];omega
  ·have hSf:R=sameF f f':=by
    rw[HR.out,←HSL.out,←HREL.out,List.drop_eq_nil_of_le (by rw[←HNL.out];omega),List.drop_eq_nil_of_le (by rw[←HNL'.out];omega)]
    rfl
   have HSF:=hid hSf
   clear hSf HREL
   have c15:wr.cell? ⟨w.heap.size,5,none⟩=some (.slice pf nf cf):=(HD1.out.below HBW.out hlt1).cell rfl
   go_upto_region 10 with(fail)
   clear c15
   go_wp2
   go_loopw [73] (fun i wr=>∃j:Nat,i=.int .i64 j/\j<=nf/\sameF (f.drop j) (f'.drop j)=R/\Below W0.heap.size W0 wr) (fun i _=>nf-(intOf i).toNat)
   case atStart=>exact⟨0,rfl,by omega,HSF.out.symm,HBW.out⟩
   case round=>
   clear HBW
   obtain⟨j2,rfl,hj2',hrel,hbw⟩:=hrel
   have HREL:=hid hrel
   have HBW:=hid hbw
   have hwr2:=hbw.size
   clear hrel hbw
   by_cases hlt':j2<nf
   ·have hj1:j2<f.length:=by rw[←HNF.out];exact hlt'
    have hj2:j2<f'.length:=by rw[←HNF'.out];exact hlt'
    have hbwr:=Below.trans HB0.out (HBW.out.mono (by omega))
    obtain⟨g1,o1,cs1,hp1,⟨_,hc1⟩,hv1⟩:=(HF.out.ext hbwr) j2 hj1
    obtain⟨g2,o2,cs2,hp2,⟨_,hc2⟩,hv2⟩:=(HF'.out.ext hbwr) j2 hj2
    have hok:=HIF.out _ (List.getElem_mem hj1)
    have hdr:=sameF_drop hj1 hj2
    generalize f[j2]=p1 at hv1 hok hdr hc1
    generalize f'[j2]=p2 at hv2 hdr hc2
    obtain⟨x1,u1⟩:=p1
    obtain⟨x2,u2⟩:=p2
    simp only[]at hv1 hok hdr hc1 hv2 hc2
    have HOK:=hid hok
    have HDR:=hid hdr
    have HV1:=hid hv1
    have HV2:=hid hv2
    obtain⟨k1,b1,n1,s1,l1,f1⟩:=u1
    obtain⟨k2,b2,n2,s2,l2,f2⟩:=u2
    obtain⟨pl1,cl1,pf1,cf1,rfl,_,_,_⟩:=hasVal_mk.1 hv1
    obtain⟨pl2,cl2,pf2,cf2,rfl,_,_,_⟩:=hasVal_mk.1 hv2
    obtain⟨d0,d1,d2,d3,d4,d5,d6⟩:=hc1.seven
    obtain⟨e0,e1,e2,e3,e4,e5,e6⟩:=hc2.seven
    have hg1:=hc1.2.1
    have hg2:=hc2.2.1
    clear hv1 hv2 hok hdr hc1 hc2 hbwr
    subst hp1
    subst hp2
    have c15:wr.cell? ⟨w.heap.size,5,none⟩=some (.slice (some ⟨g1,o1,none⟩) nf cf):=(HD1.out.below HBW.out hlt1).cell rfl
    have c25:wr.cell? ⟨w.heap.size+1,5,none⟩=some (.slice (some ⟨g2,o2,none⟩) nf cf'):=(HD2.out.below HBW.out hlt2).cell rfl
    have hw1r:w.heap.size<wr.heap.size:=by omega
    have hw2r:w.heap.size+1<wr.heap.size:=by omega
    obtain⟨q,hq⟩:∃q,q=sameV (.mk k1 b1 n1 s1 l1 f1) (.mk k2 b2 n2 s2 l2 f2):=⟨_,rfl⟩
    have HQ:=hid hq
    clear hq
    by_cases hx:x1=x2
    ·subst hx
     go_upto_region 12 with(fail)
     refine mix_start [] (Cls wr) (by kernel_rfl) (Cls.of ((Below.refl _ _).drew)) ?_
     refine mix_flt (by kernel_rfl) [0,1,2,3,4,5,6,7,8,9,10,11,12,13,14,15,16,17,18,19,20,21,22,23,24,25] 3 _ _ (by kernel_rfl) ?_
     simp only[opsAt,zo1,zo2,zo3,zo4,zo5]
     unfold Cls
     repeat(go_big_quiet_step (fail))
     refine wpQuiet_nil ?_
     (try rw[←Cls_def])
     refine mix_ch (i:=26) (fuel:=2) (by kernel_rfl) _ rfl (fun w1 hw1=>?_)
     go_wp2_with(go_at_call 102;refine(HOK.out (.mk k2 b2 n2 s2 l2 f2) S S' _ _ _ (HV1.out.ext hw1.below) (HV2.out.ext hw1.below)).mono ?_;rintro e' w' ⟨he,hb⟩;rw[←HQ.out]at he;subst he)
     refine Then.same (hw1.trans hb) ?_
     refine mix_flt (by kernel_rfl) [27,28] 0 _ _ (by kernel_rfl) ?_
     simp only[opsAt,zo1,zo2,zo3,zo4,zo5]
     unfold Cls
     repeat(go_big_quiet_step (fail))
     refine wpQuiet_nil ?_
     (try rw[←Cls_def])
     refine mix_end [] (by kernel_rfl) (fun w1 hw1=>?_)
     refine wpList_nil ?_
     refine Calm.normal ?_
     have HB1:=hid (below_ext HBW.out hw1.below)
     clear c15 c25 d0 d1 d2 d3 d4 d5 d6 e0 e1 e2 e3 e4 e5 e6 hw1 hb
     cases q
     ·have hSf:R=false:=by rw[←HREL.out,HDR.out,←HQ.out];simp
      subst hSf
      go_wp2
      go_ret
      exact⟨rfl,Below.trans HB0.out (HB1.out.mono (by omega))⟩
     ·go_wp2
      go_roundw
      case rel=>exact⟨j2+1,by go_num,by omega,by rw[←HREL.out,HDR.out,←HQ.out];simp,HB1.out⟩
      case measure=>simp[intOf];omega
    ·have hxb:((bs x1).toList==(bs x2).toList)=false:=by rw[tl_bs,tl_bs];simpa using hx
     have hSf:R=false:=by
      rw[←HREL.out,HDR.out,show(x1==x2)=false by simpa using hx]
      rfl
     clear hx
     subst hSf
     go_upto_region 12 with(fail)
     refine mix_start [] (Cls wr) (by kernel_rfl) (Cls.of ((Below.refl _ _).drew)) ?_
     refine mix_flt (by kernel_rfl) [0,1,2,3,4,5,6,7,8,9,10,11,12,13,14,15,16,17,18,19,20,21,22,23,24,25] 3 _ _ (by kernel_rfl) ?_
     simp only[opsAt,zo1,zo2,zo3,zo4,zo5]
     unfold Cls
     repeat(go_big_quiet_step (fail))
     refine wpQuiet_nil ?_
     (try rw[←Cls_def])
     refine mix_ch (i:=26) (fuel:=2) (by kernel_rfl) _ rfl (fun w1 hw1=>?_)
     go_wp2_with(go_at_call 102;fail)
     refine Then.same (hw1) ?_
     refine mix_flt (by kernel_rfl) [27,28] 0 _ _ (by kernel_rfl) ?_
     simp only[opsAt,zo1,zo2,zo3,zo4,zo5]
     unfold Cls
     repeat(go_big_quiet_step (fail))
     refine wpQuiet_nil ?_
     (try rw[←Cls_def])
     refine mix_end [] (by kernel_rfl) (fun w1 hw1=>?_)
     refine wpList_nil ?_
     refine Calm.normal ?_
     have HB1:=hid (below_ext HBW.out hw1.below)
     clear c15 c25 d0 d1 d2 d3 d4 d5 d6 e0 e1 e2 e3 e4 e5 e6 hw1
     go_wp2
     go_ret
     exact⟨rfl,Below.trans HB0.out (HB1.out.mono (by omega))⟩
   ·have hSf:R=true:=by
     rw[←HREL.out,List.drop_eq_nil_of_le (by rw[←HNF.out];omega),List.drop_eq_nil_of_le (by rw[←HNF'.out];omega)]
     rfl
    subst hSf
    go_wp2
    go_ret
    exact⟨rfl,Below.trans HB0.out (HBW.out.mono (by omega))⟩
 ·have hR2:R=false:=by
   rw[hR]
   simp only[Bool.and_eq_false_iff,beq_eq_false_iff_ne]
   by_cases h1:k=k'<;>by_cases h2:b=b'<;>by_cases h3:n=n'<;>by_cases h4:s=s'<;>simp_all
   by_cases h5:sameL l l'=true
   ·right
    have h6:=sameL_len h5
    cases h7:sameF f f'
    ·rfl
    ·have h8:=sameF_len h7
     exact absurd (by rw[HNF.out,HNF'.out];exact h8) (hall (by rw[HNL.out,HNL'.out];exact h6))
   ·left
    simpa using h5
  subst hR2
  clear hR
  by_cases h1:k=k'
  case neg=>
   have hn1:((k:Int) !=(k':Int))=true:=by simp;omega
   clear hall
   go_enter Tryz.func102,Tryz.ntmps102
   go_wp2
   go_ret
   exact⟨rfl,((Below.refl _ _).alloc (Nat.le_refl _) _).alloc (by simp) _⟩
  subst h1
  by_cases h2:b=b'
  case neg=>
   cases b<;>cases b'<;>first|(exact absurd rfl h2)|skip
   all_goals clear h2 hall
   all_goals
    go_enter Tryz.func102,Tryz.ntmps102
    go_wp2
    go_ret
    exact⟨rfl,((Below.refl _ _).alloc (Nat.le_refl _) _).alloc (by simp) _⟩
  subst h2
  by_cases h3:n=n'
  case neg=>
   have hn3:(n !=n')=true:=by simpa using h3
   clear hall
   cases b
   all_goals
    go_enter Tryz.func102,Tryz.ntmps102
    go_wp2
    go_ret
    exact⟨rfl,((Below.refl _ _).alloc (Nat.le_refl _) _).alloc (by simp) _⟩
  subst h3
  by_cases h4:s=s'
  case neg=>
   have hn4:((bs s).toList==(bs s').toList)=false:=by rw[tl_bs,tl_bs];simpa using h4
   clear h4 hall
   cases b
   all_goals
    go_enter Tryz.func102,Tryz.ntmps102
    go_wp2
    go_ret
    exact⟨rfl,((Below.refl _ _).alloc (Nat.le_refl _) _).alloc (by simp) _⟩
  subst h4
  by_cases h5:nl=nl'
  case neg=>
   have hn5:((nl:Int) !=(nl':Int))=true:=by simp;omega
   clear hall
   cases b
   all_goals
    go_enter Tryz.func102,Tryz.ntmps102
    go_wp2
    go_ret
    exact⟨rfl,((Below.refl _ _).alloc (Nat.le_refl _) _).alloc (by simp) _⟩
  subst h5
  by_cases h6:nf=nf'
  case neg=>
   have hn6:((nf:Int) !=(nf':Int))=true:=by simp;omega
   clear hall
   cases b
   all_goals
    go_enter Tryz.func102,Tryz.ntmps102
    go_wp2
    go_ret
    exact⟨rfl,((Below.refl _ _).alloc (Nat.le_refl _) _).alloc (by simp) _⟩
  subst h6
  exact absurd ⟨rfl,rfl,rfl,rfl,rfl,rfl⟩ hall
theorem same_all :∀(m:Nat) (v:DVal),SizeOf.sizeOf v<m->SameOk v:=by
 intro m
 induction m with
 |zero=>intro v h;omega
 |succ m ih=>
  intro v h
  obtain⟨k,b,n,s,l,f⟩:=v
  exact same_step k b n s l f (fun v hv=>ih v (by have:=DVal.size_l (k:=k) (b:=b) (n:=n) (s:=s) (f:=f) v hv;omega)) (fun p hp=>ih p.2 (by have:=DVal.size_f (k:=k) (b:=b) (n:=n) (s:=s) (l:=l) p hp;omega))
theorem ref_same_any (v:DVal):SameOk v:=same_all _ v (Nat.lt_succ_self _)
end Go.Proofs.YtcihbnpckicljaaGreatDoor
