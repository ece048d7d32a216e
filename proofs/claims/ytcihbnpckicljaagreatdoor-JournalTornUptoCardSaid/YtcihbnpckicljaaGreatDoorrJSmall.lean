/- journal's and the document's small functions: whole, text, blob, list, utf. Conditions: a text no longer than 2^48 bytes; utf8's tables read as the text lays them. -/
import Derived.Test.YtcihbnpckicljaaGreatDoorrJVal
import Derived.Test.YtcihbnpckicljaaGreatDoorrGV
import Derived.Test.YtcihbnpckicljaaGreatDoorrGC
set_option linter.unusedVariables false
set_option linter.unusedSimpArgs false
namespace Go.Proofs.YtcihbnpckicljaaGreatDoor
open Go Go.RowKit Go.BigFrame
open Go.Lib(hid)
set_option maxRecDepth 100000
theorem flat_has (S:Nat->Prop) (w:World) (k:Nat) (hk:k<256) (b:Bool) (n:Int) (h0: -9223372036854775808<=n) (h1:n<=9223372036854775807) (s:List UInt8) (hs:s.length<=1073741824):HasVal S w (.mk k b n s [] []) [.int .u8 (k:Int),.bool b,.int .i64 n,.string (bs s),.slice none 0 0,.slice none 0 0]:=
 hasVal_mk.2 ⟨none,0,none,0,rfl,⟨hk,h0,h1,hs,by simp,by simp,by simp,by unfold maxLen;omega,by simp,by unfold maxLen;omega⟩,fun i hi=>by simp at hi,fun i hi=>by simp at hi⟩
theorem hasL_blk {S:Nat->Prop} {w:World} {g:Nat} {t:TypeId} {l:List DVal} {css:List (List Value)} (hG:IsBlk w g css.flatten.toArray t) (hS:S g) (hl:css.length=l.length) (hv:∀i (h:i<l.length) (h':i<css.length),HasVal S w l[i] css[i]):HasL S w (some ⟨g,0,none⟩) l:=fun i hi=>by
 have hi':i<css.length:=by omega
 have hlen:∀c∈css,c.length=6:=fun c hc=>by
  obtain⟨j,hj,rfl⟩:=List.getElem_of_mem hc
  exact(hv j (by omega) hj).len
 refine⟨g,0,css[i],rfl,⟨hS,hG.lt,fun j hj=>?_⟩,hv i hi hi'⟩
 have hj6:j<6:=by rw[←hlen _ (List.getElem_mem hi')];exact hj
 have hg2:=flatten_get hlen hi' hj6
 have hc:css[i][j]?=some css[i][j]:=List.getElem?_eq_getElem hj
 rw[hc]at hg2⊢
 rw[Nat.zero_add]
 exact hG.cell (by simpa using hg2)
def cInt (n:Nat):List Value:=[.int .u8 2,.bool false,.int .i64 (toI n),.string (bs []),.slice none 0 0,.slice none 0 0]
def cTxt (s:List UInt8):List Value:=[.int .u8 3,.bool false,.int .i64 0,.string (bs s),.slice none 0 0,.slice none 0 0]
def cBlob (s:List UInt8):List Value:=[.int .u8 4,.bool false,.int .i64 0,.string (bs s),.slice none 0 0,.slice none 0 0]
def cList (p:Option Addr) (n c:Nat):List Value:=[.int .u8 5,.bool false,.int .i64 0,.string (bs []),.slice p n c,.slice none 0 0]
theorem toI_rng' (n:Nat) (h:n<18446744073709551616): -9223372036854775808<=toI n/\toI n<=9223372036854775807:=by
 unfold toI
 split<;>omega
theorem int_has (S:Nat->Prop) (w:World) {n:Nat} (h:n<18446744073709551616):HasVal S w (vInt n) (cInt n):=flat_has S w 2 (by omega) false (toI n) (toI_rng' n h).1 (toI_rng' n h).2 [] (by simp)
theorem txt_has (S:Nat->Prop) (w:World) {s:List UInt8} (h:s.length<=1073741824):HasVal S w (vTxt s) (cTxt s):=flat_has S w 3 (by omega) false 0 (by omega) (by omega) s h
theorem blob_has (S:Nat->Prop) (w:World) {s:List UInt8} (h:s.length<=1073741824):HasVal S w (vBlob s) (cBlob s):=flat_has S w 4 (by omega) false 0 (by omega) (by omega) s h
theorem list_has {S:Nat->Prop} {w:World} {p:Option Addr} {l:List DVal} {c:Nat} (h:HasL S w p l) (hl:l.length<=1073741824) (hc:l.length<=c) (hm:c<=maxLen):HasVal S w (vList l) (cList p l.length c):=
 hasVal_mk.2 ⟨p,c,none,0,rfl,⟨by omega,by omega,by omega,by simp,hl,by simp,hc,hm,by simp,by unfold maxLen;omega⟩,h,fun i hi=>by simp at hi⟩
theorem wrap_toI (n:Nat) (h:n<18446744073709551616):IntKind.i64.wrap (n:Int)=toI n:=by
 unfold toI
 split<;>(simp only[IntKind.wrap,IntKind.bits,IntKind.signed];first|omega|(simp;omega))
theorem journal_whole (n:Nat) (w:World) (h:n<18446744073709551616):Calls Tryz.prog 54 #[.int .u64 (n:Int)] w fun e' w'=>e'=.returned (.agg #[.int .u8 2,.bool false,.int .i64 (toI n),.string ⟨#[]⟩,.slice none 0 0,.slice none 0 0])/\Below w.heap.size w w':=by
 have hI:=wrap_toI n h
 go_enter Tryz.func54,Tryz.ntmps54
 go_wp2
 exact bodyPost_ret (results_c (p:=2) (ty:=52) Tryz.results54 rfl (IsBlk.new _ _ _) Tryz.underlying52 rfl (by kernel_rfl)) rfl ⟨rfl,(Below.refl _ _).alloc (Nat.le_refl _) _⟩
theorem journal_text (s:List UInt8) (w:World):Calls Tryz.prog 62 #[.string (bs s)] w fun e' w'=>e'=.returned (.agg #[.int .u8 3,.bool false,.int .i64 0,.string (bs s),.slice none 0 0,.slice none 0 0])/\Below w.heap.size w w':=by
 go_enter Tryz.func62,Tryz.ntmps62
 go_wp2
 exact bodyPost_ret (results_c (p:=2) (ty:=52) Tryz.results62 rfl (IsBlk.new _ _ _) Tryz.underlying52 rfl (by kernel_rfl)) rfl ⟨rfl,(Below.refl _ _).alloc (Nat.le_refl _) _⟩
theorem journal_blob (s:List UInt8) (w:World):Calls Tryz.prog 55 #[.string (bs s)] w fun e' w'=>e'=.returned (.agg #[.int .u8 4,.bool false,.int .i64 0,.string (bs s),.slice none 0 0,.slice none 0 0])/\Below w.heap.size w w':=by
 go_enter Tryz.func55,Tryz.ntmps55
 go_wp2
 exact bodyPost_ret (results_c (p:=2) (ty:=52) Tryz.results55 rfl (IsBlk.new _ _ _) Tryz.underlying52 rfl (by kernel_rfl)) rfl ⟨rfl,(Below.refl _ _).alloc (Nat.le_refl _) _⟩
theorem journal_list (p:Option Addr) (n c:Nat) (w:World):Calls Tryz.prog 53 #[.slice p n c] w fun e' w'=>e'=.returned (.agg #[.int .u8 5,.bool false,.int .i64 0,.string ⟨#[]⟩,.slice p n c,.slice none 0 0])/\Below w.heap.size w w':=by
 go_enter Tryz.func53,Tryz.ntmps53
 go_wp2
 exact bodyPost_ret (results_c (p:=2) (ty:=52) Tryz.results53 rfl (IsBlk.new _ _ _) Tryz.underlying52 rfl (by kernel_rfl)) rfl ⟨rfl,(Below.refl _ _).alloc (Nat.le_refl _) _⟩
theorem codicilref06_whole (n:Nat) (w:World) (h:n<18446744073709551616):Calls Tryz.prog 58 #[.int .u64 (n:Int)] w fun e' w'=>e'=.returned (.agg #[.int .u8 2,.bool false,.int .i64 (toI n),.string ⟨#[]⟩,.slice none 0 0,.slice none 0 0])/\Below w.heap.size w w':=by
 have hI:=wrap_toI n h
 go_enter Tryz.func58,Tryz.ntmps58
 go_wp2
 exact bodyPost_ret (results_c (p:=2) (ty:=52) Tryz.results58 rfl (IsBlk.new _ _ _) Tryz.underlying52 rfl (by kernel_rfl)) rfl ⟨rfl,(Below.refl _ _).alloc (Nat.le_refl _) _⟩
theorem codicilref06_text (s:List UInt8) (w:World):Calls Tryz.prog 79 #[.string (bs s)] w fun e' w'=>e'=.returned (.agg #[.int .u8 3,.bool false,.int .i64 0,.string (bs s),.slice none 0 0,.slice none 0 0])/\Below w.heap.size w w':=by
 go_enter Tryz.func79,Tryz.ntmps79
 go_wp2
 exact bodyPost_ret (results_c (p:=2) (ty:=52) Tryz.results79 rfl (IsBlk.new _ _ _) Tryz.underlying52 rfl (by kernel_rfl)) rfl ⟨rfl,(Below.refl _ _).alloc (Nat.le_refl _) _⟩
theorem codicilref06_blob (s:List UInt8) (w:World):Calls Tryz.prog 59 #[.string (bs s)] w fun e' w'=>e'=.returned (.agg #[.int .u8 4,.bool false,.int .i64 0,.string (bs s),.slice none 0 0,.slice none 0 0])/\Below w.heap.size w w':=by
 go_enter Tryz.func59,Tryz.ntmps59
 go_wp2
 exact bodyPost_ret (results_c (p:=2) (ty:=52) Tryz.results59 rfl (IsBlk.new _ _ _) Tryz.underlying52 rfl (by kernel_rfl)) rfl ⟨rfl,(Below.refl _ _).alloc (Nat.le_refl _) _⟩
theorem codicilref06_list (p:Option Addr) (n c:Nat) (w:World):Calls Tryz.prog 57 #[.slice p n c] w fun e' w'=>e'=.returned (.agg #[.int .u8 5,.bool false,.int .i64 0,.string ⟨#[]⟩,.slice p n c,.slice none 0 0])/\Below w.heap.size w w':=by
 go_enter Tryz.func57,Tryz.ntmps57
 go_wp2
 exact bodyPost_ret (results_c (p:=2) (ty:=52) Tryz.results57 rfl (IsBlk.new _ _ _) Tryz.underlying52 rfl (by kernel_rfl)) rfl ⟨rfl,(Below.refl _ _).alloc (Nat.le_refl _) _⟩
theorem utf_any (s:List UInt8) (w:World) (hs:s.length<=281474976710656) (hT:U8T w):
 Calls Tryz.prog 93 #[.string (bs s)] w fun e' w'=>e'=.returned (.int .i64 (utfE s))/\Below w.heap.size w w':=by
 have hsz:=bs_size s
 have HT:=hid hT;clear hT
 obtain⟨r,hr⟩:∃r,r=utfE s:=⟨_,rfl⟩
 rw[←hr]
 have HR:=hid hr;clear hr
 by_cases hl:1024<s.length
 ·have HR2:Hid (r=4):=hid (by rw[HR.out,utfE,if_pos hl])
  have hlI:(1024:Int)<(s.length:Int):=by omega
  go_enter Tryz.func93,Tryz.ntmps93
  go_wp2
  go_ret
  exact⟨by rw[HR2.out];rfl,Below.refl _ _⟩
 ·have hlI:(s.length:Int)<=1024:=by omega
  by_cases hv:Lib.validD s=true
  ·have HR2:Hid (r=0):=hid (by rw[HR.out,utfE,if_neg hl,if_pos hv])
   go_enter Tryz.func93,Tryz.ntmps93
   go_wp2_with fail
   go_at_call 126
   refine(valid_any _ _ (by omega) HT.out).mono ?_
   rintro e' w1 ⟨he',hb⟩
   rw[bs_toList,hv]at he'
   subst he'
   have HB:=hid hb;clear hb hv
   go_wp2
   go_ret
   exact⟨by rw[HR2.out];rfl,HB.out⟩
  ·have HR2:Hid (r=9):=hid (by rw[HR.out,utfE,if_neg hl,if_neg hv])
   have hv2:Lib.validD s=false:=by simpa using hv
   clear hv
   go_enter Tryz.func93,Tryz.ntmps93
   go_wp2_with fail
   go_at_call 126
   refine(valid_any _ _ (by omega) HT.out).mono ?_
   rintro e' w1 ⟨he',hb⟩
   rw[bs_toList,hv2]at he'
   subst he'
   have HB:=hid hb;clear hb hv2
   go_wp2
   go_ret
   exact⟨by rw[HR2.out];rfl,HB.out⟩
end Go.Proofs.YtcihbnpckicljaaGreatDoor
