/- Two heads compared. No conditions. -/
import Derived.Test.YtcihbnpckicljaaGreatDoorrGM
import Derived.Laws.StructEq
set_option linter.unusedVariables false
set_option linter.unusedSimpArgs false
namespace Go.Proofs.YtcihbnpckicljaaGreatDoor
open Go Go.RowKit Go.BigFrame
open Go.Lib(hid)
set_option maxRecDepth 100000
theorem run_equal_head (a d a1 d1:Int) (b c e b1 c1 e1:ByteArray) (w:World):
 (Op.equalIn 10000 24 (.agg #[.int .u64 a,.string b,.string c,.int .u64 d,.string e]) (.agg #[.int .u64 a1,.string b1,.string c1,.int .u64 d1,.string e1])).run Tryz.prog w=.ok ((a==a1)&&((b.toList==b1.toList)&&((c.toList==c1.toList)&&((d==d1)&&(e.toList==e1.toList))))) w:=by
 have hf:(Tryz.prog.fieldsOf 24).toList.map (fun f=>((f.name== "_"),f.type,f.offset))=[(false,22,0),(false,9,1),(false,9,2),(false,22,3),(false,9,4)]:=by kernel_rfl
 have q0:∀(a d:Int) (b c e:ByteArray),(part 22 #[.int .u64 a,.string b,.string c,.int .u64 d,.string e] 0).run Tryz.prog w=.ok (.int .u64 a) w:=fun _ _ _ _ _=>by kernel_rfl
 have q1:∀(a d:Int) (b c e:ByteArray),(part 9 #[.int .u64 a,.string b,.string c,.int .u64 d,.string e] 1).run Tryz.prog w=.ok (.string b) w:=fun _ _ _ _ _=>by kernel_rfl
 have q2:∀(a d:Int) (b c e:ByteArray),(part 9 #[.int .u64 a,.string b,.string c,.int .u64 d,.string e] 2).run Tryz.prog w=.ok (.string c) w:=fun _ _ _ _ _=>by kernel_rfl
 have q3:∀(a d:Int) (b c e:ByteArray),(part 22 #[.int .u64 a,.string b,.string c,.int .u64 d,.string e] 3).run Tryz.prog w=.ok (.int .u64 d) w:=fun _ _ _ _ _=>by kernel_rfl
 have q4:∀(a d:Int) (b c e:ByteArray),(part 9 #[.int .u64 a,.string b,.string c,.int .u64 d,.string e] 4).run Tryz.prog w=.ok (.string e) w:=fun _ _ _ _ _=>by kernel_rfl
 have hs:Tryz.prog.underlying 24=some (.struct (Tryz.prog.fieldsOf 24)):=by kernel_rfl
 rw[show(10000:Nat)=9999+1 from rfl,run_equalIn_agg w 9999 24 _ _ hs (by kernel_rfl)]
 obtain⟨f0,l0,hl0,h0,hf⟩:=List.map_eq_cons_iff.1 hf
 obtain⟨f1,l1,rfl,h1,hf⟩:=List.map_eq_cons_iff.1 hf
 obtain⟨f2,l2,rfl,h2,hf⟩:=List.map_eq_cons_iff.1 hf
 obtain⟨f3,l3,rfl,h3,hf⟩:=List.map_eq_cons_iff.1 hf
 obtain⟨f4,l4,rfl,h4,hf⟩:=List.map_eq_cons_iff.1 hf
 obtain rfl:=List.map_eq_nil_iff.1 hf
 simp only[Prod.mk.injEq]at h0 h1 h2 h3 h4
 obtain⟨m0,t0,o0⟩:=h0
 obtain⟨m1,t1,o1⟩:=h1
 obtain⟨m2,t2,o2⟩:=h2
 obtain⟨m3,t3,o3⟩:=h3
 obtain⟨m4,t4,o4⟩:=h4
 rw[hl0,eqf_cons m0 (by rw[t0,o0];exact q0 ..) (by rw[t0,o0];exact q0 ..) (by rw[t0];exact run_equalIn_int w 9998 22 .u64 .u64 _ _ Tryz.underlying22)
  (eqf_cons m1 (by rw[t1,o1];exact q1 ..) (by rw[t1,o1];exact q1 ..) (by rw[t1];exact run_equalIn_string w 9998 9 _ _ Tryz.underlying9)
  (eqf_cons m2 (by rw[t2,o2];exact q2 ..) (by rw[t2,o2];exact q2 ..) (by rw[t2];exact run_equalIn_string w 9998 9 _ _ Tryz.underlying9)
  (eqf_cons m3 (by rw[t3,o3];exact q3 ..) (by rw[t3,o3];exact q3 ..) (by rw[t3];exact run_equalIn_int w 9998 22 .u64 .u64 _ _ Tryz.underlying22)
  (eqf_cons m4 (by rw[t4,o4];exact q4 ..) (by rw[t4,o4];exact q4 ..) (by rw[t4];exact run_equalIn_string w 9998 9 _ _ Tryz.underlying9) eqf_nil))))]
 simp only[Bool.and_true]
@[go_sem high] theorem run_eql_head (a d a1 d1 : Int) (b c e b1 c1 e1 : ByteArray) (w : World) :
 (binOp .eql 24 (.agg #[.int .u64 a,.string b,.string c,.int .u64 d,.string e]) (.agg #[.int .u64 a1,.string b1,.string c1,.int .u64 d1,.string e1])).run Tryz.prog w=.ok (.bool ((a==a1)&&((b.toList==b1.toList)&&((c.toList==c1.toList)&&((d==d1)&&(e.toList==e1.toList)))))) w:=by
  rw[run_eql_struct,run_equal_head]
  rfl
@[go_sem high] theorem run_neq_head (a d a1 d1 : Int) (b c e b1 c1 e1 : ByteArray) (w : World) :
 (binOp .neq 24 (.agg #[.int .u64 a,.string b,.string c,.int .u64 d,.string e]) (.agg #[.int .u64 a1,.string b1,.string c1,.int .u64 d1,.string e1])).run Tryz.prog w=.ok (.bool (!((a==a1)&&((b.toList==b1.toList)&&((c.toList==c1.toList)&&((d==d1)&&(e.toList==e1.toList))))))) w:=by
  rw[run_neq_struct,run_equal_head]
  rfl
end Go.Proofs.YtcihbnpckicljaaGreatDoor
