/- What is scanned of any bytes is in a row, and is scanned again. No conditions. -/
import Derived.Test.YtcihbnpckicljaaGreatDoorrJScan
import Derived.Test.YtcihbnpckicljaaGreatDoorrJReadP
set_option linter.unusedVariables false
set_option linter.unusedSimpArgs false
namespace Go.Proofs.YtcihbnpckicljaaGreatDoor
open Go Go.RowKit Go.BigFrame
open Go.Lib(hid)
set_option maxRecDepth 100000
def scanV (s:List UInt8):List DBlk×Nat:=scanP (s.length+1) s 0 zero32
theorem scan_chain :∀(f:Nat) (s:List UInt8) (c:Nat) (prev:List UInt8),Chain c prev (scanP f s c prev).1/\framesOf (scanP f s c prev).1=s.take (scanP f s c prev).2/\(scanP f s c prev).2<=s.length/\(scanP f s c prev).1.length<=(scanP f s c prev).2
 |0,s,c,prev=>⟨trivial,by simp[scanP,framesOf],by simp[scanP],by simp[scanP]⟩
 |f+1,s,c,prev=>by
  rw[scanP]
  cases hs:stepP s with
  |none=>exact⟨trivial,by simp[framesOf],by simp,by simp⟩
  |some t=>
   simp only
   obtain⟨h1,h2⟩:=step_some hs
   by_cases hc:(readB t).2≠0\/(readB t).1.seq≠c+1\/(readB t).1.prev≠prev
   ·rw[if_pos hc]
    exact⟨trivial,by simp[framesOf],by simp,by simp⟩
   ·rw[if_neg hc]
    have g0:(readB t).2=0:=by
     by_cases h:(readB t).2=0
     ·exact h
     ·exact absurd (.inl h) hc
    have g1:(readB t).1.seq=c+1:=by
     by_cases h:(readB t).1.seq=c+1
     ·exact h
     ·exact absurd (.inr (.inl h)) hc
    have g2:(readB t).1.prev=prev:=by
     by_cases h:(readB t).1.prev=prev
     ·exact h
     ·exact absurd (.inr (.inr h)) hc
    obtain⟨w1,w2⟩:=whole_read g0 rd_rng
    obtain⟨i1,i2,i3,i4⟩:=scan_chain f (s.drop (12+t.length)) (c+1) (digP (shortP (readB t).1).1)
    generalize scanP f (s.drop (12+t.length)) (c+1) (digP (shortP (readB t).1).1)=q at i1 i2 i3 i4
    rw[List.length_drop]at i3
    refine⟨⟨by rw[w1],w2,g1,g2,i1⟩,?_,by simp only;omega,by simp only[List.length_cons];omega⟩
    show framesOf ((readB t).1::q.1)=s.take (12+t.length+q.2)
    unfold framesOf at i2⊢
    rw[List.flatMap_cons,i2,w1,List.take_add,h2]
theorem scan_again (s:List UInt8):scanV (s.take (scanV s).2)=scanV s:=by
 obtain⟨h1,h2,h3,h4⟩:=scan_chain (s.length+1) s 0 zero32
 have hl:(framesOf (scanP (s.length+1) s 0 zero32).1).length=(scanP (s.length+1) s 0 zero32).2:=by rw[h2,List.length_take];omega
 have h5:=scan_torn (scanP (s.length+1) s 0 zero32).1 ((s.take (scanV s).2).length+1) 0 zero32 [] h1 (by rw[List.length_take];unfold scanV;omega) rfl
 rw[List.append_nil,h2]at h5
 unfold scanV at h5⊢
 rw[h5,←h2,hl]
theorem chain_bounds {l:List DBlk}:∀{c:Nat} {prev:List UInt8},Chain c prev l->∀b∈l,(wholeP b).2=0/\wfB b:=by
 induction l with
 |nil=>intro _ _ _ b hb;cases hb
 |cons a l ih=>
  intro c prev h b hb
  rcases List.mem_cons.1 hb with rfl|hb
  ·exact⟨h.1,h.2.1⟩
  ·exact ih h.2.2.2.2 b hb
end Go.Proofs.YtcihbnpckicljaaGreatDoor
