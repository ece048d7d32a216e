/- JournalBlocks: the row and the card, second form. No conditions. -/
import Derived.Test.YtcihbnpckicljaaGreatDoorrJRowBF
import Derived.Test.YtcihbnpckicljaaGreatDoorrJBlocks
set_option linter.unusedVariables false
set_option linter.unusedSimpArgs false
namespace Go.Proofs.YtcihbnpckicljaaGreatDoor.rowJournalBlocks
open Go Go.RowKit Go.ChangeShapes Go.WideShapes Go.ChangeAt Go.ChangeMaps
open Go.Lib(hid)
set_option maxRecDepth 100000
theorem contract (H:Type) (enc:TypeId×Value->H) (F:Stop.Interp) (W:World) (base:Nat) (args:Array Value) (ds gs:List (DataW H)) (before:List MemPlace)
 (hval:∀(j:Nat) t v,Tryz.f8.params[j]?=some t->args[j]?=some v->Value.okWide Tryz.prog W .any base t v)
 (hW:DataW.Whole enc Tryz.prog Tryz.f8.params.toList Rows.journalBlocksSpec.vars false W args.toList ds gs before) (hk:Rows.uptoSmall H (ds++gs)=true) (hL:laidMetH Tryz.prog Rows.journalBlocksUptoRow.laid W):
 Calls Tryz.prog 8 args W fun e W'=>∃v,e=.returned v/\Rows.journalBlocksSpec.post enc Tryz.prog Tryz.f8 false true false false W args v W':=by
 have hW':=hW
 obtain⟨p,q,hA0,hV,rfl,hfz,hnd⟩:=hW
 have hA:DataW.TrodAll enc Tryz.prog W 0 (fun _=>true) true Tryz.f8.params.toList args.toList ds p:=hA0
 rw[Tryz.params8]at hA hval
 obtain⟨v0,v1,v2,v3,v4,v5,d0,d1,d2,d3,d4,d5,p0,p1,p2,p3,p4,p5,rfl,rfl,rfl,h0,h1,h2,h3,h4,h5⟩:=trodAll_six hA
 obtain⟨rfl,rfl⟩:=trodVars_none hV
 obtain⟨n,rfl,rfl,rfl,hn⟩:=open_u64 (hval 0 22 v0 rfl rfl) h0
 obtain⟨s,rfl,rfl,rfl,_⟩:=open_string Tryz.underlying9 (hval 1 9 v1 rfl rfl) h1
 have hk2:=of_decide_eq_true hk
 simp only[List.append_nil,Rows.uptoBulkAll,Rows.uptoBulk]at hk2
 obtain⟨pll,cll,l,rfl,hnol,hcll,hcml,hnl,htl,hsl⟩:=open_strs (hval 2 25 v2 rfl rfl) h2
 obtain⟨prx,crx,x,rfl,hcrx,hcmx,hnrx,hkrx,hrrx⟩:=open_revs (hval 3 26 v3 rfl rfl) h3 (by omega)
 obtain⟨b,psb,prb,cpb,crb,rfl,hbb,hnob,hkb⟩:=open_block (hval 4 28 v4 rfl rfl) h4 (by omega)
 obtain⟨r,csr,rfl,hrr,hkr⟩:=open_rev (hval 5 54 v5 rfl rfl) h5 (by omega)
 refine(blocks_any n s.data.toList l x _ _ _ _ b _ r _ _ _ _ W (mk_blk hn (by omega) hsl hcll hcml (by omega) (fun s hs=>by have:=htl s hs;omega) hrrx hcrx hcmx (by omega)) hnol hkrx hbb hkb hrr hkr (u8_laid hL) (ks_laid hL)).mono fun e W' he=>?_
 obtain⟨rfl,hb⟩:=he
 exact⟨_,rfl,post_true 4 laidOutP (by kernel_rfl) (by kernel_rfl) Tryz.underlying4 rfl hW' rfl hb⟩
noncomputable def argsW:Array Value:= #[.int .u64 0,.string (bs []),.slice none 0 0,.slice none 0 0,.agg #[.int .u64 0,.string (bs []),.string (bs []),.slice none 0 0,.slice none 0 0],.agg #[.int .u8 0,.string (bs []),.int .u64 0,.int .u64 0,.int .u8 0,.bool false,.int .i64 0,.string (bs []),.slice none 0 0,.slice none 0 0]]
theorem laid_met (os:Os):laidMet Tryz.prog Rows.journalBlocksUptoRow.laid ((laidWorld os).forCall (fun _ _=>0) ⟨#[],argsW,[]⟩).memory:=laid_metW os argsW
theorem reads (os:Os) {H:Type} (enc:TypeId×Value->H):∃places,DataW.whole enc Tryz.prog ((laidWorld os).forCall (fun _ _=>0) ⟨#[],argsW,[]⟩).memory Tryz.f8.params.toList Rows.journalBlocksSpec.vars false argsW.toList 8=some ([.lit (.int .u64 0),.lit (.string []),.nil,.nil,.agg [.lit (.int .u64 0),.lit (.string []),.lit (.string []),.nil,.nil],.agg [.lit (.int .u8 0),.lit (.string []),.lit (.int .u64 0),.lit (.int .u64 0),.agg [.lit (.int .u8 0),.lit (.bool false),.lit (.int .i64 0),.lit (.string []),.nil,.nil]]],[],places):=
 ⟨[],by kernel_rfl⟩
theorem lifted (os:Os) (started:os.Started) (H:Type) (enc:TypeId×Value->H) (F:Stop.Interp):
 ReturnsInHanded {} Tryz.checked os 8 .any ((Rows.OpenSpec.upto Rows.journalBlocksSpec).preRow enc Tryz.prog Tryz.f8 Rows.journalBlocksUptoRow.domain false Rows.journalBlocksUptoRow.laid) (((Rows.OpenSpec.upto Rows.journalBlocksSpec).at F).post enc Tryz.prog Tryz.f8 false true false false):=by
 obtain⟨places,hx⟩:=reads os enc
 refine returnsInHanded_of_row (C:=Tryz.checked) (s:=Rows.OpenSpec.upto Rows.journalBlocksSpec) ownP started (by kernel_rfl) Tryz.func8
  (witness_row_at (enc:=enc) (C:=Tryz.checked) false (laidWorld os) argsW rfl (by kernel_rfl) (by kernel_rfl) (by kernel_rfl)
    (OpenSpec.preRow_of_cond 8 hx (by kernel_rfl) (fun k hk=>by cases hk;kernel_rfl) (by kernel_rfl) (laid_met os))) ?_
 intro W base args ds gs before hval hW _ hcond _ hL _ _
 exact contract H enc F W base args ds gs before hval hW (hcond _ rfl) hL
theorem said :Rows.JournalBlocksUptoSaid:=
 OpenClaim.holds_of_cond 8 Tryz.f8 rfl rfl rfl rfl rfl rfl rfl ⟨rfl,rfl,rfl,rfl,rfl⟩ rfl rfl rfl rfl rfl (by kernel_rfl) Tryz.func8 (by kernel_rfl)
  (of_decide_eq_true (by kernel_rfl)) (by unfold Func.isWrapper;first|(rw[if_pos (by decide+kernel)];kernel_rfl)|(rw[if_neg (by decide+kernel)];exact⟨rfl,rfl⟩))
  (fun os started H enc _ F=>by rw[OpenClaim.pre_eq_preRow];exact lifted os started H enc F)
theorem plain (f:FuncId) (fn:Func) (hf:Tryz.pinned.checked.prog.funcNamed "codicil/codicillaw06.JournalBlocks" =some f) (hfn:Tryz.pinned.checked.prog.funcs[f]?=some fn):
 true=Tryz.pinned.checked.prog.looks []/\∀(j:Nat) t,fn.params[j]?=some t->Tryz.pinned.checked.prog.wantsStandIn t=false:=by
 obtain rfl:f=8:=Option.some.inj ((show Tryz.prog.funcNamed "codicil/codicillaw06.JournalBlocks" =some 8 by kernel_rfl).symm.trans hf)|>.symm
 obtain rfl:fn=Tryz.f8:=(Option.some.inj (Tryz.func8.symm.trans hfn)).symm
 refine⟨by kernel_rfl,fun j t ht=>?_⟩
 have hall:(Tryz.f8.params.toList.all fun t=>!Tryz.prog.wantsStandIn t)=true:=by kernel_rfl
 have:=List.all_eq_true.1 hall t (by simpa using Array.mem_of_getElem? ht)
 have h2:Tryz.prog.wantsStandIn t=false:=by simpa using this
 exact h2
theorem card :Rows.JournalBlocksUptoCardSaid:=
 Claim7.holds_tied_plain_at .later [] _ _ _ _ said (fun _ h=>by cases h) (by kernel_rfl) (fun _ h=>by cases h) journalBlocksUpto_row_tie rfl ⟨rfl,rfl⟩ (by kernel_rfl) rfl plain (by kernel_rfl)
end Go.Proofs.YtcihbnpckicljaaGreatDoor.rowJournalBlocks
