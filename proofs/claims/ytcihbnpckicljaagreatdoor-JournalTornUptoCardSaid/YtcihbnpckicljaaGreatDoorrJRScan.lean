/- The document's Scan. Conditions: bytes no more than 2^30; the tables read as the text lays them. -/
import Derived.Test.YtcihbnpckicljaaGreatDoorrJShort
import Derived.Test.YtcihbnpckicljaaGreatDoorrJChain
set_option linter.unusedVariables false
set_option linter.unusedSimpArgs false
namespace Go.Proofs.YtcihbnpckicljaaGreatDoor
open Go Go.RowKit Go.BigFrame
open Go.Lib(hid)
set_option maxRecDepth 100000
theorem relB :Rel HasBlk 5 where
 kept:=fun h h1 h2=>h.kept h1 h2
 lt:=fun⟨ps,cp,pr,cr,h,hbd,h1,h2⟩=>⟨ps,cp,pr,cr,h,hbd,fun i hi=>by
  obtain⟨g,o,e1,e2,e3,e4⟩:=h1 i hi
  exact⟨g,o,e1,⟨e2,e3⟩,e3,e4⟩,fun i hi=>by
  obtain⟨g,o,cs,e1,e2,e3⟩:=h2 i hi
  exact⟨g,o,cs,e1,⟨⟨e2.1,e2.2.1⟩,e2.2⟩,relR.lt e3⟩⟩
 len:=fun⟨ps,cp,pr,cr,h,_⟩=>by rw[h];rfl
 one:=fun⟨ps,cp,pr,cr,h,_⟩=>by
  intro u hu
  rw[h]at hu
  simp only[List.mem_cons,List.not_mem_nil,or_false]at hu
  rcases hu with rfl|rfl|rfl|rfl|rfl<;>simp[Value.oneCell']
def ScanOut (w:World) (r:List DBlk×Nat) (e':Ending) (w':World):Prop:=∃p c,e'=.returned (.tuple #[.slice p r.1.length c,.int .i64 (r.2:Int)])/\(r.1.length<=c/\c<=maxLen)/\RowIn HasBlk 5 (fun b=>w.heap.size<=b) w' p r.1/\Below w.heap.size w w'
theorem scan_fin {w wx:World} {v:Value} {l:List DBlk} {n:Nat} (h:Acc HasBlk w.heap.size 28 5 wx v l) (hb:Below w.heap.size w wx):ScanOut w (l,n) (.returned (.tuple #[v,.int .i64 (n:Int)])) wx:=by
 obtain⟨p,c,rfl,h1,h2,h3⟩:=h.cells relB (S:=fun b=>w.heap.size<=b) (fun b hb=>hb)
 refine⟨p,c,rfl,⟨h1,h2⟩,fun i hi=>?_,hb⟩
 obtain⟨g,cs,e1,e2,e3⟩:=h3 i hi
 exact⟨g,0,cs,e1,e2,e3⟩
theorem make32 (W:World):(Instr.makeSlice 85 (.int .i64 32) (.int .i64 32)).run Tryz.prog W=.ok (.slice (some ⟨W.heap.size,0,none⟩) 32 32) (W.alloc (.cells (u8s zero32).toArray 5)):=by
 obtain⟨i0,hi,hzz⟩:=Option.map_eq_some_iff.1 (show(Tryz.prog.info? 5).map (fun i=>(i.zero,i.size,i.bytes))=some (some (.int .u8 0),1,1)by kernel_rfl)
 simp only[Prod.mk.injEq]at hzz
 obtain⟨hz0,hz1,hz2⟩:=hzz
 have h:=run_make (P:=Tryz.prog) W 85 5 i0 (.int .u8 0) Tryz.underlying85 hi hz0 .i64 .i64 32 32 (by omega) (by omega) (by rw[hz2];omega) (by omega)
 rw[hz1]at h
 rw[h,show madeCells (Value.int .u8 0).cells (Int.toNat 32*1)=(u8s zero32).toArray by kernel_rfl]
 rfl
theorem byte_at {s:List UInt8} {i:Nat} (h:i<(bs s).size):((bs s)[i]'h).toNat=(s.getD i 0).toNat:=by
 rw[bs_get,List.getD_eq_getElem?_getD,List.getElem?_eq_getElem]
 rfl
theorem conv32 (w:World):(convert 85 9 (.slice (some ⟨w.heap.size,0,none⟩) 32 32)).run Tryz.prog (w.alloc (.cells (u8s zero32).toArray 5))=.ok (.string (bs zero32)) (w.alloc (.cells (u8s zero32).toArray 5)):=
 run_string_blk (P:=Tryz.prog) (w:=w.alloc (.cells (u8s zero32).toArray 5)) 85 5 9 Tryz.underlying85 Tryz.underlying5 Tryz.underlying9 (g:=w.heap.size) (n:=32) (cap:=32) (t:=5) (l:=zero32) (by simp[zero32]) (IsBlk.new _ _ _)
theorem readB_okv (t:List UInt8):∀r∈(readB t).1.revs,(textV r.v).length<=16384:=by
 intro r hr
 rw[readB_rb]at hr
 split at hr
 ·cases hr
 ·obtain⟨v,_,rfl⟩:=List.mem_map.1 hr
  exact rrM_len _
theorem hasBlk_ok {S:Nat->Prop} {w:World} {b:DBlk} {cs:List Value} (h:HasBlk S w b cs) (hl:∀r∈b.revs,(textV r.v).length<=16384):∀r∈b.revs,okR r:=by
 obtain⟨ps,cp,pr,cr,_,_,_,h2⟩:=h
 exact rowRev_ok h2 hl
theorem okH_zero :okH .zero:=⟨by decide,by decide,by decide,by decide,by decide⟩
theorem short_okH {S:Nat->Prop} {w:World} {b:DBlk} {cs:List Value} (h:HasBlk S w b cs):okH (shortP b).1:=by
 obtain⟨ps,cp,pr,cr,_,hbd,_⟩:=h
 unfold shortP
 split
 ·exact okH_zero
 ·exact⟨hbd.1,hbd.2.1,hbd.2.2.1,by have:=hbd.2.2.2.2.1;show b.revs.length<_;omega,by show(stsT b.sts).length<=_;unfold stsT;rw[shaL_length];omega⟩
end Go.Proofs.YtcihbnpckicljaaGreatDoor
