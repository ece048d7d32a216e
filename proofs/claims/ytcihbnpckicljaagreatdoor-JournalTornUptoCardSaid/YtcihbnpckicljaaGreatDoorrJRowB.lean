/- Blocks and revisions among a row's arguments. No conditions. -/
import Derived.Test.YtcihbnpckicljaaGreatDoorrJVals
import Derived.Test.YtcihbnpckicljaaGreatDoorrJRow
import Derived.Test.YtcihbnpckicljaaGreatDoorrGR
import Derived.Test.YtcihbnpckicljaaGreatDoorrJReadP
import Derived.SliceStrings
import Derived.Carry
set_option linter.unusedVariables false
set_option linter.unusedSimpArgs false
namespace Go.Proofs.YtcihbnpckicljaaGreatDoor
open Go Go.RowKit Go.ChangeShapes Go.WideShapes Go.ChangeAt Go.Deep
open Go.Lib(hid)
set_option maxRecDepth 100000
theorem five_of {α:Type} {l:List α} (h:l.length=5):∃a b c d e,l=[a,b,c,d,e]:=by
 match l,h with
 |[a,b,c,d,e],_=>exact⟨a,b,c,d,e,rfl⟩
theorem ten_of {α:Type} {l:List α} (h:l.length=10):∃a b c d e f g i j k,l=[a,b,c,d,e,f,g,i,j,k]:=by
 match l,h with
 |[a,b,c,d,e,f,g,i,j,k],_=>exact⟨a,b,c,d,e,f,g,i,j,k,rfl⟩
theorem u64_nat {m:Int} (hw:(Lit.int IntKind.u64 m).wf=true):∃a:Nat,m=(a:Int)/\a<18446744073709551616:=by
 have e1:IntKind.u64.min=0:=rfl
 have e2:IntKind.u64.max=18446744073709551615:=rfl
 have hwf:0<=m/\m<=18446744073709551615:=by simpa[Lit.wf,e1,e2]using hw
 obtain⟨a,rfl⟩:=Int.eq_ofNat_of_zero_le hwf.1
 exact⟨a,rfl,by omega⟩
section
variable {H:Type} {enc:TypeId×Value->H}
theorem open_revC {base:Nat} {sp:Nat->Bool} {held:Bool} {w:World} {fuel:Nat} {cs:List Value} {x:DataW H×List MemPlace} (h:DataW.trod enc Tryz.prog w base sp held fuel 54 cs=some x) (hbig:Rows.uptoBulk x.1<=1048576):
 ∃r,HasRev (fun _=>True) w r cs/\r.t.length+bulkV r.v+1<=Rows.uptoBulk x.1:=by
 have hu:Tryz.prog.underlying 54=some (.struct (Tryz.prog.fieldsOf 54)):=by kernel_rfl
 have hf:(Tryz.prog.fieldsOf 54).toList.map (fun f=>(f.type,f.offset))=[(47,0),(9,1),(22,2),(22,3),(52,4)]:=by kernel_rfl
 have hfs:(Tryz.prog.fieldsOf 54).size=5:=by kernel_rfl
 have hc10:Tryz.prog.cellsOf 54=10:=by kernel_rfl
 obtain⟨xs,n,_,hx,hlen,hl,hall⟩:=DataW.trod_struct hu h
 obtain⟨c0,c1,c2,c3,c4,c5,c6,c7,c8,c9,rfl⟩:=ten_of (hlen.trans hc10)
 obtain⟨x0,x1,x2,x3,x4,rfl⟩:=five_of (hl.trans hfs)
 have at_:∀(i:Nat) (t:TypeId) (o:Nat),[(47,0),(9,1),(22,2),(22,3),(52,4)][i]?=some (t,o)->DataW.trod enc Tryz.prog w base sp held n t (([c0,c1,c2,c3,c4,c5,c6,c7,c8,c9].drop o).take (Tryz.prog.cellsOf t))=[x0,x1,x2,x3,x4][i]?:=by
  intro i t o hi
  rw[←hf,List.getElem?_map,Option.map_eq_some_iff]at hi
  obtain⟨f,hfi,he⟩:=hi
  rw[Array.getElem?_toList]at hfi
  have:=hall i f hfi
  simp only[Prod.mk.injEq]at he
  rw[he.1,he.2]at this
  exact this
 have a0:=at_ 0 47 0 rfl
 have a1:=at_ 1 9 1 rfl
 have a2:=at_ 2 22 2 rfl
 have a3:=at_ 3 22 3 rfl
 have a4:=at_ 4 52 4 rfl
 clear at_ hall
 have k0:Tryz.prog.cellsOf 47=1:=by kernel_rfl
 have k1:Tryz.prog.cellsOf 9=1:=by kernel_rfl
 have k2:Tryz.prog.cellsOf 22=1:=by kernel_rfl
 have k4:Tryz.prog.cellsOf 52=6:=by kernel_rfl
 rw[k0]at a0
 rw[k1]at a1
 rw[k2]at a2 a3
 rw[k4]at a4
 simp at a0 a1 a2 a3 a4
 obtain⟨kn,e0,y0,w0⟩:=DataW.trod_int (k:=.u8) Tryz.underlying47 a0
 obtain⟨ss,e1,y1,w1⟩:=DataW.trod_string Tryz.underlying9 a1
 obtain⟨dn,e2,y2,w2⟩:=DataW.trod_int (k:=.u64) Tryz.underlying22 a2
 obtain⟨nn,e3,y3,w3⟩:=DataW.trod_int (k:=.u64) Tryz.underlying22 a3
 simp only[List.cons.injEq,and_true]at e0 e1 e2 e3
 subst e0
 subst e1
 subst e2
 subst e3
 subst hx
 have hbx:Rows.uptoBulk (DataW.agg (List.map (fun x=>x.1) [x0,x1,x2,x3,x4]))=Rows.uptoBulk x0.1+(Rows.uptoBulk x1.1+(Rows.uptoBulk x2.1+(Rows.uptoBulk x3.1+(Rows.uptoBulk x4.1+0))))+1:=by
  simp only[List.map_cons,List.map_nil,Rows.uptoBulk,Rows.uptoBulkAll]
 simp only[]at hbig⊢
 rw[hbx]at hbig⊢
 clear hbx
 have b1:Rows.uptoBulk x1.1=ss.data.toList.length+1:=by rw[y1,Rows.uptoBulk]
 obtain⟨v,hv,hvb⟩:=open_val _ n _ x4 a4 (Nat.lt_succ_self _) (by omega)
 have hkf:0<=kn/\kn<=255:=by
  have e1:IntKind.u8.min=0:=rfl
  have e2:IntKind.u8.max=255:=rfl
  simpa[Lit.wf,e1,e2]using w0
 obtain⟨kk,rfl⟩:=Int.eq_ofNat_of_zero_le hkf.1
 obtain⟨qd,rfl,hqd⟩:=u64_nat w2
 obtain⟨qn,rfl,hqn⟩:=u64_nat w3
 exact⟨⟨kk,ss.data.toList,qd,qn,v⟩,⟨[c4,c5,c6,c7,c8,c9],by simp only[bs_back],⟨(show kk<256 by omega),by simp only[];omega,hqd,hqn⟩,hv⟩,by simp only[];omega⟩
theorem okR_bulk {r:DRev} {n:Nat} (hn:n<=1048576) (h1:r.t.length<=n) (h2:bulkV r.v<=n):okR r:=⟨by omega,by have:=tlV r.v;omega⟩
end
section
open Go.ChangeMaps
end
end Go.Proofs.YtcihbnpckicljaaGreatDoor
