/- What the rows of the journal want: the tables out of the row's list; heads among a row's arguments. No conditions. -/
import Derived.Test.YtcihbnpckicljaaGreatDoorrGA
import Derived.Test.YtcihbnpckicljaaGreatDoorrGC
import Derived.Test.YtcihbnpckicljaaGreatDoorrGM
import Derived.Test.YtcihbnpckicljaaGreatDoorrJVal
import Derived.Test.YtcihbnpckicljaaGreatDoorCards
import Derived.Test.YtcihbnpckicljaaGreatDoorTie
import Derived.Deep.DeepHandedRow
import Derived.Lib.LaidTab
import Derived.Lib.TrailingZeros
import Derived.Lib.LaidU8T
import Derived.Stop.LaidErr
set_option linter.unusedVariables false
set_option linter.unusedSimpArgs false
namespace Go.Proofs.YtcihbnpckicljaaGreatDoor
open Go Go.RowKit Go.ChangeShapes Go.WideShapes Go.ChangeAt
open Go.Lib(hid)
set_option maxRecDepth 100000
theorem laidOutP :laidOutB Tryz.prog=true:=by kernel_rfl
theorem ownP :ownKnob Tryz.prog.godebug=none:=by kernel_rfl
theorem acc_is :Rows.laid_unicode_utf8_acceptRanges (H:=Unit)=Lib.acceptData:=by kernel_rfl
theorem fst_is :Rows.laid_unicode_utf8_first=Lib.firstData:=by kernel_rfl
theorem ks_is :Rows.laid_codicil_sha_constants (H:=Unit)=Lib.tabData .u32 kTab:=by kernel_rfl
abbrev vlaid :List (String×DataW Unit):=[("math/bits.deBruijn32tab",Rows.laid_math_bits_deBruijn32tab),("math/bits.deBruijn64tab",Rows.laid_math_bits_deBruijn64tab),("internal/strconv.uint64pow10",Rows.laid_internal_strconv_uint64pow10),("unicode/utf8.acceptRanges",Rows.laid_unicode_utf8_acceptRanges),("strconv.ErrRange",Rows.laid_strconv_ErrRange),("strconv.ErrSyntax",Rows.laid_strconv_ErrSyntax),("codicil/sha.constants",Rows.laid_codicil_sha_constants),("unicode/utf8.first",Rows.laid_unicode_utf8_first)]
theorem u8_laid {W:World} (h:laidMetH Tryz.prog vlaid W):U8T W:=by
 have h':laidMet Tryz.prog vlaid W:=h
 have ha:Lib.VarReads Tryz.prog W "unicode/utf8.acceptRanges" Lib.acceptData:=by rw[←acc_is];exact Lib.laidMet.reads h' (by simp[vlaid])
 have hf:Lib.VarReads Tryz.prog W "unicode/utf8.first" Lib.firstData:=by rw[←fst_is];exact Lib.laidMet.reads h' (by simp[vlaid])
 exact utf8Tabs_of_readsT (U8Types.of196 Tryz.laysValid) ⟨by kernel_rfl,by kernel_rfl,by kernel_rfl,by kernel_rfl,by kernel_rfl,by kernel_rfl,by kernel_rfl⟩ hf ha
theorem ks_laid {W:World} (h:laidMetH Tryz.prog vlaid W):Ks W:=by
 have h':laidMet Tryz.prog vlaid W:=h
 have hp:Lib.VarReads Tryz.prog W "codicil/sha.constants" (Lib.tabData .u32 kTab):=by rw[←ks_is];exact Lib.laidMet.reads h' (by simp[vlaid])
 have gK:Tryz.prog.globalNamed "codicil/sha.constants" =some 0:=by kernel_rfl
 have gKt:(Tryz.prog.globals[0]?).map (·.type)=some 189:=by kernel_rfl
 obtain⟨g,t,cs,fuel,p,hg,ht,hv,htr⟩:=hp
 obtain rfl:=Option.some.inj (gK.symm.trans hg)
 obtain rfl:=Option.some.inj (gKt.symm.trans ht)
 have h1:Lib.TabIs Tryz.prog W "codicil/sha.constants" .u32 kTab:=by
  unfold Lib.TabIs
  rw[hv,←Lib.cells_of_tab Tryz.underlying189 Tryz.underlying102 (by kernel_rfl) (by kernel_rfl) htr]
 unfold Lib.TabIs World.var? at h1
 rw[gK]at h1
 simp only[Option.bind_some]at h1
 split at h1
 ·rename_i cs t f hh
  refine⟨t,f,?_⟩
  rw[hh]
  have:=Option.some.inj h1
  rw[this]
  rfl
 ·cases h1
theorem bs_back (s:ByteArray):bs s.data.toList=s:=by
 cases s
 rfl
section
variable {H:Type} {enc:TypeId×Value->H}
end
noncomputable def low:Nat:=(World.holding Tryz.prog default ⟨#[],#[],[]⟩).heap.size
def tab32 :List Int:=Lib.deBruijn32tab.map Int.ofNat
def tab64 :List Int:=Lib.deBruijn64tab.map Int.ofNat
noncomputable def laidWorld (os:Os):World:=
 let w0:=World.holding Tryz.prog os ⟨#[.cells #[.string ⟨#[118,97,108,117,101,32,111,117,116,32,111,102,32,114,97,110,103,101]⟩] 245,.cells #[.string ⟨#[105,110,118,97,108,105,100,32,115,121,110,116,97,120]⟩] 245],#[],[]⟩
 let put (h:Array Obj) (g:Nat) (cs:Array Value):Array Obj:=h.modify g fun
  | .cells _ t frozen=> .cells cs t frozen
  |o=>o
 let h1:=put w0.heap 1 (Lib.firstTab.map fun z=>Value.int .u8 z).toArray
 let h2:=put h1 2 ((List.range 16).flatMap fun i=>[Value.int .u8 (Lib.accLo i),Value.int .u8 (Lib.accHi i)]).toArray
 let h3:=put h2 4 #[.iface 243 (.pointer (some ⟨low,0,none⟩))]
 let h4:=put h3 3 #[.iface 243 (.pointer (some ⟨low+1,0,none⟩))]
 let h5:=put h4 5 (Lib.pow10Tab.map fun z=>Value.int .u64 z).toArray
 let h6:=put h5 6 (tab32.map fun z=>Value.int .u8 z).toArray
 let h7:=put h6 7 (tab64.map fun z=>Value.int .u8 z).toArray
 let h8:=put h7 0 (u32s kTab)
 {w0 with heap:=h8}
theorem laid_metW (os:Os) (args:Array Value):laidMet Tryz.prog vlaid ((laidWorld os).forCall (fun _ _=>0) ⟨#[],args,[]⟩).memory:=
 laidMet_of_run' 8 (by kernel_rfl) (by kernel_rfl)
end Go.Proofs.YtcihbnpckicljaaGreatDoor
