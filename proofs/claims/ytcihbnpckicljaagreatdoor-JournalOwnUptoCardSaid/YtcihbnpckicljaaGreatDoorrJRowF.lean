/- What the rows of the journal want: the tables out of the row's list; heads among a row's arguments. No conditions. -/
import Derived.Test.YtcihbnpckicljaaGreatDoorrGA
import Derived.Test.YtcihbnpckicljaaGreatDoorrGC
import Derived.Test.YtcihbnpckicljaaGreatDoorrGM
import Derived.Test.YtcihbnpckicljaaGreatDoorrJVal
import Derived.Test.YtcihbnpckicljaaGreatDoorCards
import Derived.Test.YtcihbnpckicljaaGreatDoorTie
import Derived.Deep.DeepHandedRow
import Derived.Lib.LaidTab
import Derived.Lib.TrailingZeros
import Derived.Lib.LaidU8T
import Derived.Stop.LaidErr
set_option linter.unusedVariables false
set_option linter.unusedSimpArgs false
namespace Go.Proofs.YtcihbnpckicljaaGreatDoor
open Go Go.RowKit Go.ChangeShapes Go.WideShapes Go.ChangeAt
open Go.Lib(hid)
set_option maxRecDepth 100000
theorem laidOutP :laidOutB Tryz.prog=true:=by kernel_rfl
theorem ownP :ownKnob Tryz.prog.godebug=none:=by kernel_rfl
theorem acc_is :Rows.laid_unicode_utf8_acceptRanges (H:=Unit)=Lib.acceptData:=by kernel_rfl
theorem fst_is :Rows.laid_unicode_utf8_first=Lib.firstData:=by kernel_rfl
theorem ks_is :Rows.laid_codicil_sha_constants (H:=Unit)=Lib.tabData .u32 kTab:=by kernel_rfl
abbrev vlaid :List (String×DataW Unit):=[("math/bits.deBruijn32tab",Rows.laid_math_bits_deBruijn32tab),("math/bits.deBruijn64tab",Rows.laid_math_bits_deBruijn64tab),("internal/strconv.uint64pow10",Rows.laid_internal_strconv_uint64pow10),("unicode/utf8.acceptRanges",Rows.laid_unicode_utf8_acceptRanges),("strconv.ErrRange",Rows.laid_strconv_ErrRange),("strconv.ErrSyntax",Rows.laid_strconv_ErrSyntax),("codicil/sha.constants",Rows.laid_codicil_sha_constants),("unicode/utf8.first",Rows.laid_unicode_utf8_first)]
theorem u8_laid {W:World} (h:laidMetH Tryz.prog vlaid W):U8T W:=by
 have h':laidMet Tryz.prog vlaid W:=h
 have ha:Lib.VarReads Tryz.prog W "unicode/utf8.acceptRanges" Lib.acceptData:=by rw[←acc_is];exact Lib.laidMet.reads h' (by simp[vlaid])
 have hf:Lib.VarReads Tryz.prog W "unicode/utf8.first" Lib.firstData:=by rw[←fst_is];exact Lib.laidMet.reads h' (by simp[vlaid])
 exact utf8Tabs_of_readsT (U8Types.of196 Tryz.laysValid) ⟨by kernel_rfl,by kernel_rfl,by kernel_rfl,by kernel_rfl,by kernel_rfl,by kernel_rfl,by kernel_rfl⟩ hf ha
theorem ks_laid {W:World} (h:laidMetH Tryz.prog vlaid W):Ks W:=by
 have h':laidMet Tryz.prog vlaid W:=h
 have hp:Lib.VarReads Tryz.prog W "codicil/sha.constants" (Lib.tabData .u32 kTab):=by rw[←ks_is];exact Lib.laidMet.reads h' (by simp[vlaid])
 have gK:Tryz.prog.globalNamed "codicil/sha.constants" =some 0:=by kernel_rfl
 have gKt:(Tryz.prog.globals[0]?).map (·.type)=some 189:=by kernel_rfl
 obtain⟨g,t,cs,fuel,p,hg,ht,hv,htr⟩:=hp
 obtain rfl:=Option.some.inj (gK.symm.trans hg)
 obtain rfl:=Option.some.inj (gKt.symm.trans ht)
 have h1:Lib.TabIs Tryz.prog W "codicil/sha.constants" .u32 kTab:=by
  unfold Lib.TabIs
  rw[hv,←Lib.cells_of_tab Tryz.underlying189 Tryz.underlying102 (by kernel_rfl) (by kernel_rfl) htr]
 unfold Lib.TabIs World.var? at h1
 rw[gK]at h1
 simp only[Option.bind_some]at h1
 split at h1
 ·rename_i cs t f hh
  refine⟨t,f,?_⟩
  rw[hh]
  have:=Option.some.inj h1
  rw[this]
  rfl
 ·cases h1
theorem bs_back (s:ByteArray):bs s.data.toList=s:=by
 cases s
 rfl
section
variable {H:Type} {enc:TypeId×Value->H}
theorem open_u64 {r:Reach} {b0 base:Nat} {sp:Nat->Bool} {held:Bool} {w:World} {v:Value} {d:DataW H} {ps:List MemPlace} (hv:Value.okWide Tryz.prog w r b0 22 v) (h:DataW.Trod enc Tryz.prog w base sp held 22 v d ps):
 ∃n:Nat,v=.int .u64 (n:Int)/\d=.lit (.int .u64 (n:Int))/\ps=[]/\n<18446744073709551616:=by
 obtain⟨n,rfl,rfl,rfl,hw⟩:=open_int (k:=.u64) Tryz.underlying22 hv h
 have hwf:0<=n/\n<=18446744073709551615:=by
  have e1:IntKind.u64.min=0:=rfl
  have e2:IntKind.u64.max=18446744073709551615:=rfl
  simpa[Lit.wf,e1,e2]using hw
 obtain⟨a,rfl⟩:=Int.eq_ofNat_of_zero_le hwf.1
 exact⟨a,rfl,rfl,rfl,by omega⟩
theorem open_head {r:Reach} {b0 base:Nat} {sp:Nat->Bool} {held:Bool} {w:World} {v:Value} {d:DataW H} {ps:List MemPlace} (hv:Value.okWide Tryz.prog w r b0 24 v) (h:DataW.Trod enc Tryz.prog w base sp held 24 v d ps):
 ∃h:DHead,v=.agg (headCs h).toArray/\h.seq<18446744073709551616/\h.revs<18446744073709551616/\h.prev.length<=Rows.uptoBulk d/\h.root.length<=Rows.uptoBulk d/\h.sts.length<=Rows.uptoBulk d:=by
 have hu:Tryz.prog.underlying 24=some (.struct (Tryz.prog.fieldsOf 24)):=by kernel_rfl
 have hf:(Tryz.prog.fieldsOf 24).toList.map (fun f=>(f.type,f.offset))=[(22,0),(9,1),(9,2),(22,3),(9,4)]:=by kernel_rfl
 have hfs:(Tryz.prog.fieldsOf 24).size=5:=by kernel_rfl
 obtain⟨cs,rfl,hsz⟩:=okWide_struct hu hv
 obtain⟨c0,c1,c2,c3,c4,rfl⟩:∃c0 c1 c2 c3 c4,cs= #[c0,c1,c2,c3,c4]:=by
  have h2:=hsz.trans (show _=5 by kernel_rfl)
  obtain⟨l⟩:=cs
  match l,h2 with
  |[c0,c1,c2,c3,c4],_=>exact⟨c0,c1,c2,c3,c4,rfl⟩
 obtain⟨fuel,hf1⟩:=h
 obtain⟨xs,n,_,hx,_,hl,hall⟩:=DataW.trod_struct hu hf1
 have at_:∀(i:Nat) (t:TypeId) (o:Nat),[(22,0),(9,1),(9,2),(22,3),(9,4)][i]?=some (t,o)->DataW.trod enc Tryz.prog w base sp held n t (([c0,c1,c2,c3,c4].drop o).take (Tryz.prog.cellsOf t))=xs[i]?:=by
  intro i t o hi
  rw[←hf,List.getElem?_map,Option.map_eq_some_iff]at hi
  obtain⟨f,hfi,he⟩:=hi
  rw[Array.getElem?_toList]at hfi
  have:=hall i f hfi
  simp only[Prod.mk.injEq]at he
  rw[he.1,he.2]at this
  exact this
 have a0:=at_ 0 22 0 rfl
 have a1:=at_ 1 9 1 rfl
 have a2:=at_ 2 9 2 rfl
 have a3:=at_ 3 22 3 rfl
 have a4:=at_ 4 9 4 rfl
 match xs,hl.trans hfs with
 |[x0,x1,x2,x3,x4],_=>
  obtain⟨m0,hc0,he0,hw0⟩:=DataW.trod_int (k:=.u64) Tryz.underlying22 a0
  obtain⟨s1,hc1,he1,_⟩:=DataW.trod_string Tryz.underlying9 a1
  obtain⟨s2,hc2,he2,_⟩:=DataW.trod_string Tryz.underlying9 a2
  obtain⟨m3,hc3,he3,hw3⟩:=DataW.trod_int (k:=.u64) Tryz.underlying22 a3
  obtain⟨s4,hc4,he4,_⟩:=DataW.trod_string Tryz.underlying9 a4
  have k0:Tryz.prog.cellsOf 22=1:=by kernel_rfl
  have k1:Tryz.prog.cellsOf 9=1:=by kernel_rfl
  rw[k0]at hc0 hc3
  rw[k1]at hc1 hc2 hc4
  simp[Value.cells]at hc0 hc1 hc2 hc3 hc4
  subst hc0
  subst hc1
  subst hc2
  subst hc3
  subst hc4
  have nat_:∀m:Int,(Lit.int IntKind.u64 m).wf=true->∃a:Nat,m=(a:Int)/\a<18446744073709551616:=by
   intro m hw
   have e1:IntKind.u64.min=0:=rfl
   have e2:IntKind.u64.max=18446744073709551615:=rfl
   have hwf:0<=m/\m<=18446744073709551615:=by simpa[Lit.wf,e1,e2]using hw
   obtain⟨a,rfl⟩:=Int.eq_ofNat_of_zero_le hwf.1
   exact⟨a,rfl,by omega⟩
  obtain⟨q0,rfl,hq0⟩:=nat_ m0 hw0
  obtain⟨q3,rfl,hq3⟩:=nat_ m3 hw3
  simp only[Prod.mk.injEq]at hx
  subst he1
  subst he2
  subst he4
  have hd:=hx.1
  have hb:s1.data.toList.length<=Rows.uptoBulk d/\s2.data.toList.length<=Rows.uptoBulk d/\s4.data.toList.length<=Rows.uptoBulk d:=by
   rw[hd]
   simp only[List.map_cons,List.map_nil,Rows.uptoBulk,Rows.uptoBulkAll]
   omega
  exact⟨⟨q0,s1.data.toList,s2.data.toList,q3,s4.data.toList⟩,by simp only[headCs,bs_back],hq0,hq3,hb.1,hb.2.1,hb.2.2⟩
end
noncomputable def low:Nat:=(World.holding Tryz.prog default ⟨#[],#[],[]⟩).heap.size
def tab32 :List Int:=Lib.deBruijn32tab.map Int.ofNat
def tab64 :List Int:=Lib.deBruijn64tab.map Int.ofNat
noncomputable def laidWorld (os:Os):World:=
 let w0:=World.holding Tryz.prog os ⟨#[.cells #[.string ⟨#[118,97,108,117,101,32,111,117,116,32,111,102,32,114,97,110,103,101]⟩] 245,.cells #[.string ⟨#[105,110,118,97,108,105,100,32,115,121,110,116,97,120]⟩] 245],#[],[]⟩
 let put (h:Array Obj) (g:Nat) (cs:Array Value):Array Obj:=h.modify g fun
  | .cells _ t frozen=> .cells cs t frozen
  |o=>o
 let h1:=put w0.heap 1 (Lib.firstTab.map fun z=>Value.int .u8 z).toArray
 let h2:=put h1 2 ((List.range 16).flatMap fun i=>[Value.int .u8 (Lib.accLo i),Value.int .u8 (Lib.accHi i)]).toArray
 let h3:=put h2 4 #[.iface 243 (.pointer (some ⟨low,0,none⟩))]
 let h4:=put h3 3 #[.iface 243 (.pointer (some ⟨low+1,0,none⟩))]
 let h5:=put h4 5 (Lib.pow10Tab.map fun z=>Value.int .u64 z).toArray
 let h6:=put h5 6 (tab32.map fun z=>Value.int .u8 z).toArray
 let h7:=put h6 7 (tab64.map fun z=>Value.int .u8 z).toArray
 let h8:=put h7 0 (u32s kTab)
 {w0 with heap:=h8}
theorem laid_metW (os:Os) (args:Array Value):laidMet Tryz.prog vlaid ((laidWorld os).forCall (fun _ _=>0) ⟨#[],args,[]⟩).memory:=
 laidMet_of_run' 8 (by kernel_rfl) (by kernel_rfl)
end Go.Proofs.YtcihbnpckicljaaGreatDoor
