/- Cards that are deleted out of a row. -/
import Derived.Test.YtokfhfdnmnblfaaYwC
namespace Go.Proofs.Ytokfhfdnmnblfaa
open Go.Vs
set_option linter.unusedSectionVars false
variable [Vs.Envs]
set_option linter.unusedSimpArgs false
set_option linter.unusedVariables false
attribute [local irreducible] Vs.Fn chOK areCh chTo chAt l03 chB rk cd3 chI stp stpTo
attribute [local irreducible] keyC
def smallK (l : List (List (List Int))) : Prop := l.length ≤ 1048576 ∧ ∀ d, d ∈ l → smallC d
def colT (fr to : Int) (ts : List ByteArray) (ls : List (List (List Int))) : Int :=
  if ls.all deckB then (if ls.all (fun d => fldB fr to (widB d)) then (if ts.all (fun t => (t.size : Int) == W (to - fr)) then (if ts.all areCh then (if ls.all (allCh fr to) then 0 else 8) else 7) else 2) else 2) else 1
set_option maxHeartbeats 1000000 in
theorem collateT (fr to : Int) (ls : List (List (List Int))) (hk : smallK ls) (ts : List ByteArray) (hts : ts.length ≤ 1048576) (htz : ∀ t, t ∈ ts → t.size ≤ 1048576) : Vs.Fn Try.prog F.impl_collateCode [] [.agg (cFd fr to), .v (.bool true), .sl 1 (E cSt ts), .sl 1 (E cD ls)] (.v (.int .i64 (colT fr to ts ls))) [] := by
  refine Cd.impl_collateCode_ok.fn0 Try.mixed Cd.impl_collateCode_nt Cd.impl_collateCode_rs rfl fun X => ?_
  unfold Cd.impl_collateCode
  simp -dsimp only [go_sem, reduceIte, reduceCtorEq, Nat.reduceEqDiff, Nat.reduceLT, Nat.reduceLeDiff, Nat.reduceAdd, Nat.reduceMul, Nat.reduceSub, Int.reduceToNat, Int.reduceNeg, cC, cFd, cD, List.replicate_succ, List.replicate_zero, List.flatten_cons, List.flatten_nil, List.cons_append, List.nil_append, List.set_cons_zero, List.set_cons_succ, List.length_cons, List.length_nil, List.length_set]
  refine LoopK.at (drawn_ok Try.mixed) (X := { zz : Nat × (Unit) // zz.1 ≤ ls.length ∧ (ls.take zz.1).all (deckB) = true }) (fun zz => [(21, .v (.int .i64 zz.1.1))]) (fun zz => []) (fun zz => ls.length - zz.1.1) ⟨(0, ()), by omega, by simp⟩ ?_ ?_
  · simp [Vs.LeL, Vs.look, Vs.hlook, Vs.sput, Vs.sputs, Vs.hset, Vs.hputs]
  · rintro ⟨⟨i, _⟩, hi, hg⟩
    dsimp only at hi hg
    simp -dsimp only [go_sem, reduceIte, reduceCtorEq, Nat.reduceEqDiff, Nat.reduceLT, Nat.reduceLeDiff, Nat.reduceAdd, Nat.reduceMul, Nat.reduceSub, Int.reduceToNat, Int.reduceNeg, cC, cFd, cD, List.replicate_succ, List.replicate_zero, List.flatten_cons, List.flatten_nil, List.cons_append, List.nil_append, List.set_cons_zero, List.set_cons_succ, List.length_cons, List.length_nil, List.length_set]
    refine Br.mk (fun hc => ?_) fun hc => ?_
    · have hlt : i < ls.length := by first | (simpa using hc) | (simp at hc; omega)
      have hw := wrap_succ hlt hk.1
      have hsm := hk.2 _ (List.getElem_mem hlt)
      have hm : (E cD ls).getD i [] = [.sl 1 (E cC ls[i])] := E_get hlt

      cases hb : deckB ls[i]
      · have hall : ls.all (deckB) = false := not_all (p := deckB) hlt hb
        simp -dsimp only [go_sem, reduceIte, reduceCtorEq, Nat.reduceEqDiff, Nat.reduceLT, Nat.reduceLeDiff, Nat.reduceAdd, Nat.reduceMul, Nat.reduceSub, Int.reduceToNat, Int.reduceNeg, hw, hm, hb, cC, cFd, cD, List.replicate_succ, List.replicate_zero, List.flatten_cons, List.flatten_nil, List.cons_append, List.nil_append, List.set_cons_zero, List.set_cons_succ, List.length_cons, List.length_nil, List.length_set]
        repeat' (first
          | (refine RgK.mk rfl ?_; simp -dsimp only [go_sem, reduceIte, reduceCtorEq, Nat.reduceEqDiff, Nat.reduceLT, Nat.reduceLeDiff, Nat.reduceAdd, Nat.reduceMul, Nat.reduceSub, Int.reduceToNat, Int.reduceNeg, hw, hm, hb, cC, cFd, cD, List.replicate_succ, List.replicate_zero, List.flatten_cons, List.flatten_nil, List.cons_append, List.nil_append, List.set_cons_zero, List.set_cons_succ, List.length_cons, List.length_nil, List.length_set])
          | (refine Br.mk (fun h => ?_) (fun h => ?_) <;> simp -dsimp only [go_sem, reduceIte, reduceCtorEq, Nat.reduceEqDiff, Nat.reduceLT, Nat.reduceLeDiff, Nat.reduceAdd, Nat.reduceMul, Nat.reduceSub, Int.reduceToNat, Int.reduceNeg, h, hw, hm, hb, cC, cFd, cD, List.replicate_succ, List.replicate_zero, List.flatten_cons, List.flatten_nil, List.cons_append, List.nil_append, List.set_cons_zero, List.set_cons_succ, List.length_cons, List.length_nil, List.length_set])
          | (refine CallK.flat (by first | exact validDeck _ hsm.2 hsm.1) rfl ?_; simp -dsimp only [go_sem, reduceIte, reduceCtorEq, Nat.reduceEqDiff, Nat.reduceLT, Nat.reduceLeDiff, Nat.reduceAdd, Nat.reduceMul, Nat.reduceSub, Int.reduceToNat, Int.reduceNeg, hw, hm, hb, cC, cFd, cD, List.replicate_succ, List.replicate_zero, List.flatten_cons, List.flatten_nil, List.cons_append, List.nil_append, List.set_cons_zero, List.set_cons_succ, List.length_cons, List.length_nil, List.length_set])
          | (refine CallK.pure (by first | exact validDeck _ hsm.2 hsm.1) ?_; simp -dsimp only [go_sem, reduceIte, reduceCtorEq, Nat.reduceEqDiff, Nat.reduceLT, Nat.reduceLeDiff, Nat.reduceAdd, Nat.reduceMul, Nat.reduceSub, Int.reduceToNat, Int.reduceNeg, hw, hm, hb, cC, cFd, cD, List.replicate_succ, List.replicate_zero, List.flatten_cons, List.flatten_nil, List.cons_append, List.nil_append, List.set_cons_zero, List.set_cons_succ, List.length_cons, List.length_nil, List.length_set])
          | (refine And.intro (by first | rfl | omega | decide | (refine ⟨?_, ?_⟩ <;> (first | rfl | omega | decide)) | (refine ⟨?_, ?_, ?_⟩ <;> (first | rfl | omega | decide)) | (refine ⟨?_, ?_, ?_, ?_⟩ <;> (first | rfl | omega | decide))) ?_)
          | fail)

        all_goals first | omega | (refine ret_eq ?_; simp [colT, hall]; done) | (simp [colT, hall]; done)
      · simp -dsimp only [go_sem, reduceIte, reduceCtorEq, Nat.reduceEqDiff, Nat.reduceLT, Nat.reduceLeDiff, Nat.reduceAdd, Nat.reduceMul, Nat.reduceSub, Int.reduceToNat, Int.reduceNeg, hw, hm, hb, cC, cFd, cD, List.replicate_succ, List.replicate_zero, List.flatten_cons, List.flatten_nil, List.cons_append, List.nil_append, List.set_cons_zero, List.set_cons_succ, List.length_cons, List.length_nil, List.length_set]
        repeat' (first
          | (refine RgK.mk rfl ?_; simp -dsimp only [go_sem, reduceIte, reduceCtorEq, Nat.reduceEqDiff, Nat.reduceLT, Nat.reduceLeDiff, Nat.reduceAdd, Nat.reduceMul, Nat.reduceSub, Int.reduceToNat, Int.reduceNeg, hw, hm, hb, cC, cFd, cD, List.replicate_succ, List.replicate_zero, List.flatten_cons, List.flatten_nil, List.cons_append, List.nil_append, List.set_cons_zero, List.set_cons_succ, List.length_cons, List.length_nil, List.length_set])
          | (refine Br.mk (fun h => ?_) (fun h => ?_) <;> simp -dsimp only [go_sem, reduceIte, reduceCtorEq, Nat.reduceEqDiff, Nat.reduceLT, Nat.reduceLeDiff, Nat.reduceAdd, Nat.reduceMul, Nat.reduceSub, Int.reduceToNat, Int.reduceNeg, h, hw, hm, hb, cC, cFd, cD, List.replicate_succ, List.replicate_zero, List.flatten_cons, List.flatten_nil, List.cons_append, List.nil_append, List.set_cons_zero, List.set_cons_succ, List.length_cons, List.length_nil, List.length_set])
          | (refine CallK.flat (by first | exact validDeck _ hsm.2 hsm.1) rfl ?_; simp -dsimp only [go_sem, reduceIte, reduceCtorEq, Nat.reduceEqDiff, Nat.reduceLT, Nat.reduceLeDiff, Nat.reduceAdd, Nat.reduceMul, Nat.reduceSub, Int.reduceToNat, Int.reduceNeg, hw, hm, hb, cC, cFd, cD, List.replicate_succ, List.replicate_zero, List.flatten_cons, List.flatten_nil, List.cons_append, List.nil_append, List.set_cons_zero, List.set_cons_succ, List.length_cons, List.length_nil, List.length_set])
          | (refine CallK.pure (by first | exact validDeck _ hsm.2 hsm.1) ?_; simp -dsimp only [go_sem, reduceIte, reduceCtorEq, Nat.reduceEqDiff, Nat.reduceLT, Nat.reduceLeDiff, Nat.reduceAdd, Nat.reduceMul, Nat.reduceSub, Int.reduceToNat, Int.reduceNeg, hw, hm, hb, cC, cFd, cD, List.replicate_succ, List.replicate_zero, List.flatten_cons, List.flatten_nil, List.cons_append, List.nil_append, List.set_cons_zero, List.set_cons_succ, List.length_cons, List.length_nil, List.length_set])
          | (refine And.intro (by first | rfl | omega | decide | (refine ⟨?_, ?_⟩ <;> (first | rfl | omega | decide)) | (refine ⟨?_, ?_, ?_⟩ <;> (first | rfl | omega | decide)) | (refine ⟨?_, ?_, ?_, ?_⟩ <;> (first | rfl | omega | decide))) ?_)
          | fail)
        all_goals first | omega | (exact ⟨⟨(i + 1, ()), by first | omega | simp | exact ⟨by omega, by omega⟩, take_succ_all (p := deckB) hlt hg hb⟩, by simp [Vs.LeL, Vs.look, Vs.hlook, Vs.sput, Vs.sputs, Vs.hset, Vs.hputs], by simp only; omega⟩)
    · have hge : i = ls.length := by
        have : ¬ i < ls.length := by first | (simpa using hc) | (simp at hc; omega)
        omega
      subst hge
      simp -dsimp only [go_sem, reduceIte, reduceCtorEq, Nat.reduceEqDiff, Nat.reduceLT, Nat.reduceLeDiff, Nat.reduceAdd, Nat.reduceMul, Nat.reduceSub, Int.reduceToNat, Int.reduceNeg, cC, cFd, cD, List.replicate_succ, List.replicate_zero, List.flatten_cons, List.flatten_nil, List.cons_append, List.nil_append, List.set_cons_zero, List.set_cons_succ, List.length_cons, List.length_nil, List.length_set]
      have a1 : ls.all (deckB) = true := by simpa using hg
      clear hg hi hc
      refine ⟨?_, by simp⟩
      refine LoopK.at (drawn_ok Try.mixed) (X := { zz : Nat × (Unit) // zz.1 ≤ ls.length ∧ (ls.take zz.1).all ((fun d => fldB fr to (widB d))) = true }) (fun zz => [(33, .v (.int .i64 zz.1.1))]) (fun zz => []) (fun zz => ls.length - zz.1.1) ⟨(0, ()), by omega, by simp⟩ ?_ ?_
      · simp [Vs.LeL, Vs.look, Vs.hlook, Vs.sput, Vs.sputs, Vs.hset, Vs.hputs]
      · rintro ⟨⟨i, _⟩, hi, hg⟩
        dsimp only at hi hg
        simp -dsimp only [go_sem, reduceIte, reduceCtorEq, Nat.reduceEqDiff, Nat.reduceLT, Nat.reduceLeDiff, Nat.reduceAdd, Nat.reduceMul, Nat.reduceSub, Int.reduceToNat, Int.reduceNeg, cC, cFd, cD, List.replicate_succ, List.replicate_zero, List.flatten_cons, List.flatten_nil, List.cons_append, List.nil_append, List.set_cons_zero, List.set_cons_succ, List.length_cons, List.length_nil, List.length_set]
        refine Br.mk (fun hc => ?_) fun hc => ?_
        · have hlt : i < ls.length := by first | (simpa using hc) | (simp at hc; omega)
          have hw := wrap_succ hlt hk.1
          have hsm := hk.2 _ (List.getElem_mem hlt)
          have hm : (E cD ls).getD i [] = [.sl 1 (E cC ls[i])] := E_get hlt

          cases hb : (fun d => fldB fr to (widB d)) ls[i]
          · have hall : ls.all ((fun d => fldB fr to (widB d))) = false := not_all (p := (fun d => fldB fr to (widB d))) hlt hb
            simp -dsimp only [go_sem, reduceIte, reduceCtorEq, Nat.reduceEqDiff, Nat.reduceLT, Nat.reduceLeDiff, Nat.reduceAdd, Nat.reduceMul, Nat.reduceSub, Int.reduceToNat, Int.reduceNeg, hw, hm, hb, cC, cFd, cD, List.replicate_succ, List.replicate_zero, List.flatten_cons, List.flatten_nil, List.cons_append, List.nil_append, List.set_cons_zero, List.set_cons_succ, List.length_cons, List.length_nil, List.length_set]
            repeat' (first
              | (refine RgK.mk rfl ?_; simp -dsimp only [go_sem, reduceIte, reduceCtorEq, Nat.reduceEqDiff, Nat.reduceLT, Nat.reduceLeDiff, Nat.reduceAdd, Nat.reduceMul, Nat.reduceSub, Int.reduceToNat, Int.reduceNeg, hw, hm, hb, cC, cFd, cD, List.replicate_succ, List.replicate_zero, List.flatten_cons, List.flatten_nil, List.cons_append, List.nil_append, List.set_cons_zero, List.set_cons_succ, List.length_cons, List.length_nil, List.length_set])
              | (refine Br.mk (fun h => ?_) (fun h => ?_) <;> simp -dsimp only [go_sem, reduceIte, reduceCtorEq, Nat.reduceEqDiff, Nat.reduceLT, Nat.reduceLeDiff, Nat.reduceAdd, Nat.reduceMul, Nat.reduceSub, Int.reduceToNat, Int.reduceNeg, h, hw, hm, hb, cC, cFd, cD, List.replicate_succ, List.replicate_zero, List.flatten_cons, List.flatten_nil, List.cons_append, List.nil_append, List.set_cons_zero, List.set_cons_succ, List.length_cons, List.length_nil, List.length_set])
              | (refine CallK.flat (by first | exact deckColumns _ | exact isField fr to _) rfl ?_; simp -dsimp only [go_sem, reduceIte, reduceCtorEq, Nat.reduceEqDiff, Nat.reduceLT, Nat.reduceLeDiff, Nat.reduceAdd, Nat.reduceMul, Nat.reduceSub, Int.reduceToNat, Int.reduceNeg, hw, hm, hb, cC, cFd, cD, List.replicate_succ, List.replicate_zero, List.flatten_cons, List.flatten_nil, List.cons_append, List.nil_append, List.set_cons_zero, List.set_cons_succ, List.length_cons, List.length_nil, List.length_set])
              | (refine CallK.pure (by first | exact deckColumns _ | exact isField fr to _) ?_; simp -dsimp only [go_sem, reduceIte, reduceCtorEq, Nat.reduceEqDiff, Nat.reduceLT, Nat.reduceLeDiff, Nat.reduceAdd, Nat.reduceMul, Nat.reduceSub, Int.reduceToNat, Int.reduceNeg, hw, hm, hb, cC, cFd, cD, List.replicate_succ, List.replicate_zero, List.flatten_cons, List.flatten_nil, List.cons_append, List.nil_append, List.set_cons_zero, List.set_cons_succ, List.length_cons, List.length_nil, List.length_set])
              | (refine And.intro (by first | rfl | omega | decide | (refine ⟨?_, ?_⟩ <;> (first | rfl | omega | decide)) | (refine ⟨?_, ?_, ?_⟩ <;> (first | rfl | omega | decide)) | (refine ⟨?_, ?_, ?_, ?_⟩ <;> (first | rfl | omega | decide))) ?_)
              | fail)

            all_goals first | omega | (refine ret_eq ?_; simp [colT, hall, a1]; done) | (simp [colT, hall, a1]; done)
          · simp -dsimp only [go_sem, reduceIte, reduceCtorEq, Nat.reduceEqDiff, Nat.reduceLT, Nat.reduceLeDiff, Nat.reduceAdd, Nat.reduceMul, Nat.reduceSub, Int.reduceToNat, Int.reduceNeg, hw, hm, hb, cC, cFd, cD, List.replicate_succ, List.replicate_zero, List.flatten_cons, List.flatten_nil, List.cons_append, List.nil_append, List.set_cons_zero, List.set_cons_succ, List.length_cons, List.length_nil, List.length_set]
            repeat' (first
              | (refine RgK.mk rfl ?_; simp -dsimp only [go_sem, reduceIte, reduceCtorEq, Nat.reduceEqDiff, Nat.reduceLT, Nat.reduceLeDiff, Nat.reduceAdd, Nat.reduceMul, Nat.reduceSub, Int.reduceToNat, Int.reduceNeg, hw, hm, hb, cC, cFd, cD, List.replicate_succ, List.replicate_zero, List.flatten_cons, List.flatten_nil, List.cons_append, List.nil_append, List.set_cons_zero, List.set_cons_succ, List.length_cons, List.length_nil, List.length_set])
              | (refine Br.mk (fun h => ?_) (fun h => ?_) <;> simp -dsimp only [go_sem, reduceIte, reduceCtorEq, Nat.reduceEqDiff, Nat.reduceLT, Nat.reduceLeDiff, Nat.reduceAdd, Nat.reduceMul, Nat.reduceSub, Int.reduceToNat, Int.reduceNeg, h, hw, hm, hb, cC, cFd, cD, List.replicate_succ, List.replicate_zero, List.flatten_cons, List.flatten_nil, List.cons_append, List.nil_append, List.set_cons_zero, List.set_cons_succ, List.length_cons, List.length_nil, List.length_set])
              | (refine CallK.flat (by first | exact deckColumns _ | exact isField fr to _) rfl ?_; simp -dsimp only [go_sem, reduceIte, reduceCtorEq, Nat.reduceEqDiff, Nat.reduceLT, Nat.reduceLeDiff, Nat.reduceAdd, Nat.reduceMul, Nat.reduceSub, Int.reduceToNat, Int.reduceNeg, hw, hm, hb, cC, cFd, cD, List.replicate_succ, List.replicate_zero, List.flatten_cons, List.flatten_nil, List.cons_append, List.nil_append, List.set_cons_zero, List.set_cons_succ, List.length_cons, List.length_nil, List.length_set])
              | (refine CallK.pure (by first | exact deckColumns _ | exact isField fr to _) ?_; simp -dsimp only [go_sem, reduceIte, reduceCtorEq, Nat.reduceEqDiff, Nat.reduceLT, Nat.reduceLeDiff, Nat.reduceAdd, Nat.reduceMul, Nat.reduceSub, Int.reduceToNat, Int.reduceNeg, hw, hm, hb, cC, cFd, cD, List.replicate_succ, List.replicate_zero, List.flatten_cons, List.flatten_nil, List.cons_append, List.nil_append, List.set_cons_zero, List.set_cons_succ, List.length_cons, List.length_nil, List.length_set])
              | (refine And.intro (by first | rfl | omega | decide | (refine ⟨?_, ?_⟩ <;> (first | rfl | omega | decide)) | (refine ⟨?_, ?_, ?_⟩ <;> (first | rfl | omega | decide)) | (refine ⟨?_, ?_, ?_, ?_⟩ <;> (first | rfl | omega | decide))) ?_)
              | fail)
            all_goals first | omega | (exact ⟨⟨(i + 1, ()), by first | omega | simp | exact ⟨by omega, by omega⟩, take_succ_all (p := (fun d => fldB fr to (widB d))) hlt hg hb⟩, by simp [Vs.LeL, Vs.look, Vs.hlook, Vs.sput, Vs.sputs, Vs.hset, Vs.hputs], by simp only; omega⟩)
        · have hge : i = ls.length := by
            have : ¬ i < ls.length := by first | (simpa using hc) | (simp at hc; omega)
            omega
          subst hge
          simp -dsimp only [go_sem, reduceIte, reduceCtorEq, Nat.reduceEqDiff, Nat.reduceLT, Nat.reduceLeDiff, Nat.reduceAdd, Nat.reduceMul, Nat.reduceSub, Int.reduceToNat, Int.reduceNeg, cC, cFd, cD, List.replicate_succ, List.replicate_zero, List.flatten_cons, List.flatten_nil, List.cons_append, List.nil_append, List.set_cons_zero, List.set_cons_succ, List.length_cons, List.length_nil, List.length_set]
          have a2 : ls.all ((fun d => fldB fr to (widB d))) = true := by simpa using hg
          clear hg hi hc
          refine ⟨?_, by simp⟩
          refine LoopK.at (drawn_ok Try.mixed) (X := { zz : Nat × (Unit) // zz.1 ≤ ts.length ∧ (ts.take zz.1).all ((fun t : ByteArray => (t.size : Int) == W (to - fr))) = true }) (fun zz => [(45, .v (.int .i64 zz.1.1))]) (fun zz => []) (fun zz => ts.length - zz.1.1) ⟨(0, ()), by omega, by simp⟩ ?_ ?_
          · simp [Vs.LeL, Vs.look, Vs.hlook, Vs.sput, Vs.sputs, Vs.hset, Vs.hputs]
          · rintro ⟨⟨i, _⟩, hi, hg⟩
            dsimp only at hi hg
            simp -dsimp only [go_sem, reduceIte, reduceCtorEq, Nat.reduceEqDiff, Nat.reduceLT, Nat.reduceLeDiff, Nat.reduceAdd, Nat.reduceMul, Nat.reduceSub, Int.reduceToNat, Int.reduceNeg, cC, cFd, cD, List.replicate_succ, List.replicate_zero, List.flatten_cons, List.flatten_nil, List.cons_append, List.nil_append, List.set_cons_zero, List.set_cons_succ, List.length_cons, List.length_nil, List.length_set]
            refine Br.mk (fun hc => ?_) fun hc => ?_
            · have hlt : i < ts.length := by first | (simpa using hc) | (simp at hc; omega)
              have hw := wrap_succ hlt hts
              have hm : (E cSt ts).getD i [] = [.v (.string ts[i])] := E_get hlt
              have hne : ((ts[i].size : Int) != IntKind.i64.wrap (to - fr)) = !((ts[i].size : Int) == W (to - fr)) := rfl

              cases hb : (fun t : ByteArray => (t.size : Int) == W (to - fr)) ts[i]
              · have hall : ts.all ((fun t : ByteArray => (t.size : Int) == W (to - fr))) = false := not_all (p := (fun t : ByteArray => (t.size : Int) == W (to - fr))) hlt hb
                simp -dsimp only [go_sem, reduceIte, reduceCtorEq, Nat.reduceEqDiff, Nat.reduceLT, Nat.reduceLeDiff, Nat.reduceAdd, Nat.reduceMul, Nat.reduceSub, Int.reduceToNat, Int.reduceNeg, hw, hm, hb, hne, Bool.not_true, Bool.not_false, cC, cFd, cD, List.replicate_succ, List.replicate_zero, List.flatten_cons, List.flatten_nil, List.cons_append, List.nil_append, List.set_cons_zero, List.set_cons_succ, List.length_cons, List.length_nil, List.length_set]
                repeat' (first
                  | (refine RgK.mk rfl ?_; simp -dsimp only [go_sem, reduceIte, reduceCtorEq, Nat.reduceEqDiff, Nat.reduceLT, Nat.reduceLeDiff, Nat.reduceAdd, Nat.reduceMul, Nat.reduceSub, Int.reduceToNat, Int.reduceNeg, hw, hm, hb, hne, Bool.not_true, Bool.not_false, cC, cFd, cD, List.replicate_succ, List.replicate_zero, List.flatten_cons, List.flatten_nil, List.cons_append, List.nil_append, List.set_cons_zero, List.set_cons_succ, List.length_cons, List.length_nil, List.length_set])
                  | (refine Br.mk (fun h => ?_) (fun h => ?_) <;> simp -dsimp only [go_sem, reduceIte, reduceCtorEq, Nat.reduceEqDiff, Nat.reduceLT, Nat.reduceLeDiff, Nat.reduceAdd, Nat.reduceMul, Nat.reduceSub, Int.reduceToNat, Int.reduceNeg, h, hw, hm, hb, hne, Bool.not_true, Bool.not_false, cC, cFd, cD, List.replicate_succ, List.replicate_zero, List.flatten_cons, List.flatten_nil, List.cons_append, List.nil_append, List.set_cons_zero, List.set_cons_succ, List.length_cons, List.length_nil, List.length_set])
                  | (refine And.intro (by first | rfl | omega | decide | (refine ⟨?_, ?_⟩ <;> (first | rfl | omega | decide)) | (refine ⟨?_, ?_, ?_⟩ <;> (first | rfl | omega | decide)) | (refine ⟨?_, ?_, ?_, ?_⟩ <;> (first | rfl | omega | decide))) ?_)
                  | fail)

                all_goals first | omega | (refine ret_eq ?_; simp [colT, hall, a1, a2]; done) | (simp [colT, hall, a1, a2]; done)
              · simp -dsimp only [go_sem, reduceIte, reduceCtorEq, Nat.reduceEqDiff, Nat.reduceLT, Nat.reduceLeDiff, Nat.reduceAdd, Nat.reduceMul, Nat.reduceSub, Int.reduceToNat, Int.reduceNeg, hw, hm, hb, hne, Bool.not_true, Bool.not_false, cC, cFd, cD, List.replicate_succ, List.replicate_zero, List.flatten_cons, List.flatten_nil, List.cons_append, List.nil_append, List.set_cons_zero, List.set_cons_succ, List.length_cons, List.length_nil, List.length_set]
                repeat' (first
                  | (refine RgK.mk rfl ?_; simp -dsimp only [go_sem, reduceIte, reduceCtorEq, Nat.reduceEqDiff, Nat.reduceLT, Nat.reduceLeDiff, Nat.reduceAdd, Nat.reduceMul, Nat.reduceSub, Int.reduceToNat, Int.reduceNeg, hw, hm, hb, hne, Bool.not_true, Bool.not_false, cC, cFd, cD, List.replicate_succ, List.replicate_zero, List.flatten_cons, List.flatten_nil, List.cons_append, List.nil_append, List.set_cons_zero, List.set_cons_succ, List.length_cons, List.length_nil, List.length_set])
                  | (refine Br.mk (fun h => ?_) (fun h => ?_) <;> simp -dsimp only [go_sem, reduceIte, reduceCtorEq, Nat.reduceEqDiff, Nat.reduceLT, Nat.reduceLeDiff, Nat.reduceAdd, Nat.reduceMul, Nat.reduceSub, Int.reduceToNat, Int.reduceNeg, h, hw, hm, hb, hne, Bool.not_true, Bool.not_false, cC, cFd, cD, List.replicate_succ, List.replicate_zero, List.flatten_cons, List.flatten_nil, List.cons_append, List.nil_append, List.set_cons_zero, List.set_cons_succ, List.length_cons, List.length_nil, List.length_set])
                  | (refine And.intro (by first | rfl | omega | decide | (refine ⟨?_, ?_⟩ <;> (first | rfl | omega | decide)) | (refine ⟨?_, ?_, ?_⟩ <;> (first | rfl | omega | decide)) | (refine ⟨?_, ?_, ?_, ?_⟩ <;> (first | rfl | omega | decide))) ?_)
                  | fail)
                all_goals first | omega | (exact ⟨⟨(i + 1, ()), by first | omega | simp | exact ⟨by omega, by omega⟩, take_succ_all (p := (fun t : ByteArray => (t.size : Int) == W (to - fr))) hlt hg hb⟩, by simp [Vs.LeL, Vs.look, Vs.hlook, Vs.sput, Vs.sputs, Vs.hset, Vs.hputs], by simp only; omega⟩)
            · have hge : i = ts.length := by
                have : ¬ i < ts.length := by first | (simpa using hc) | (simp at hc; omega)
                omega
              subst hge
              simp -dsimp only [go_sem, reduceIte, reduceCtorEq, Nat.reduceEqDiff, Nat.reduceLT, Nat.reduceLeDiff, Nat.reduceAdd, Nat.reduceMul, Nat.reduceSub, Int.reduceToNat, Int.reduceNeg, cC, cFd, cD, List.replicate_succ, List.replicate_zero, List.flatten_cons, List.flatten_nil, List.cons_append, List.nil_append, List.set_cons_zero, List.set_cons_succ, List.length_cons, List.length_nil, List.length_set]
              have a3 : ts.all ((fun t : ByteArray => (t.size : Int) == W (to - fr))) = true := by simpa using hg
              clear hg hi hc
              refine ⟨?_, by simp⟩
              refine LoopK.at (drawn_ok Try.mixed) (X := { zz : Nat × (Unit) // zz.1 ≤ ts.length ∧ (ts.take zz.1).all (areCh) = true }) (fun zz => [(60, .v (.int .i64 zz.1.1))]) (fun zz => []) (fun zz => ts.length - zz.1.1) ⟨(0, ()), by omega, by simp⟩ ?_ ?_
              · simp [Vs.LeL, Vs.look, Vs.hlook, Vs.sput, Vs.sputs, Vs.hset, Vs.hputs]
              · rintro ⟨⟨i, _⟩, hi, hg⟩
                dsimp only at hi hg
                simp -dsimp only [go_sem, reduceIte, reduceCtorEq, Nat.reduceEqDiff, Nat.reduceLT, Nat.reduceLeDiff, Nat.reduceAdd, Nat.reduceMul, Nat.reduceSub, Int.reduceToNat, Int.reduceNeg, cC, cFd, cD, List.replicate_succ, List.replicate_zero, List.flatten_cons, List.flatten_nil, List.cons_append, List.nil_append, List.set_cons_zero, List.set_cons_succ, List.length_cons, List.length_nil, List.length_set]
                refine Br.mk (fun hc => ?_) fun hc => ?_
                · have hlt : i < ts.length := by first | (simpa using hc) | (simp at hc; omega)
                  have hw := wrap_succ hlt hts
                  have hm : (E cSt ts).getD i [] = [.v (.string ts[i])] := E_get hlt

                  cases hb : areCh ts[i]
                  · have hall : ts.all (areCh) = false := not_all (p := areCh) hlt hb
                    simp -dsimp only [go_sem, reduceIte, reduceCtorEq, Nat.reduceEqDiff, Nat.reduceLT, Nat.reduceLeDiff, Nat.reduceAdd, Nat.reduceMul, Nat.reduceSub, Int.reduceToNat, Int.reduceNeg, hw, hm, hb, cC, cFd, cD, List.replicate_succ, List.replicate_zero, List.flatten_cons, List.flatten_nil, List.cons_append, List.nil_append, List.set_cons_zero, List.set_cons_succ, List.length_cons, List.length_nil, List.length_set]
                    repeat' (first
                      | (refine RgK.mk rfl ?_; simp -dsimp only [go_sem, reduceIte, reduceCtorEq, Nat.reduceEqDiff, Nat.reduceLT, Nat.reduceLeDiff, Nat.reduceAdd, Nat.reduceMul, Nat.reduceSub, Int.reduceToNat, Int.reduceNeg, hw, hm, hb, cC, cFd, cD, List.replicate_succ, List.replicate_zero, List.flatten_cons, List.flatten_nil, List.cons_append, List.nil_append, List.set_cons_zero, List.set_cons_succ, List.length_cons, List.length_nil, List.length_set])
                      | (refine Br.mk (fun h => ?_) (fun h => ?_) <;> simp -dsimp only [go_sem, reduceIte, reduceCtorEq, Nat.reduceEqDiff, Nat.reduceLT, Nat.reduceLeDiff, Nat.reduceAdd, Nat.reduceMul, Nat.reduceSub, Int.reduceToNat, Int.reduceNeg, h, hw, hm, hb, cC, cFd, cD, List.replicate_succ, List.replicate_zero, List.flatten_cons, List.flatten_nil, List.cons_append, List.nil_append, List.set_cons_zero, List.set_cons_succ, List.length_cons, List.length_nil, List.length_set])
                      | (refine CallK.flat (by first | exact areCharacters _ (htz _ (List.getElem_mem hlt))) rfl ?_; simp -dsimp only [go_sem, reduceIte, reduceCtorEq, Nat.reduceEqDiff, Nat.reduceLT, Nat.reduceLeDiff, Nat.reduceAdd, Nat.reduceMul, Nat.reduceSub, Int.reduceToNat, Int.reduceNeg, hw, hm, hb, cC, cFd, cD, List.replicate_succ, List.replicate_zero, List.flatten_cons, List.flatten_nil, List.cons_append, List.nil_append, List.set_cons_zero, List.set_cons_succ, List.length_cons, List.length_nil, List.length_set])
                      | (refine CallK.pure (by first | exact areCharacters _ (htz _ (List.getElem_mem hlt))) ?_; simp -dsimp only [go_sem, reduceIte, reduceCtorEq, Nat.reduceEqDiff, Nat.reduceLT, Nat.reduceLeDiff, Nat.reduceAdd, Nat.reduceMul, Nat.reduceSub, Int.reduceToNat, Int.reduceNeg, hw, hm, hb, cC, cFd, cD, List.replicate_succ, List.replicate_zero, List.flatten_cons, List.flatten_nil, List.cons_append, List.nil_append, List.set_cons_zero, List.set_cons_succ, List.length_cons, List.length_nil, List.length_set])
                      | (refine And.intro (by first | rfl | omega | decide | (refine ⟨?_, ?_⟩ <;> (first | rfl | omega | decide)) | (refine ⟨?_, ?_, ?_⟩ <;> (first | rfl | omega | decide)) | (refine ⟨?_, ?_, ?_, ?_⟩ <;> (first | rfl | omega | decide))) ?_)
                      | fail)

                    all_goals first | omega | (refine ret_eq ?_; simp [colT, hall, a1, a2, a3]; done) | (simp [colT, hall, a1, a2, a3]; done)
                  · simp -dsimp only [go_sem, reduceIte, reduceCtorEq, Nat.reduceEqDiff, Nat.reduceLT, Nat.reduceLeDiff, Nat.reduceAdd, Nat.reduceMul, Nat.reduceSub, Int.reduceToNat, Int.reduceNeg, hw, hm, hb, cC, cFd, cD, List.replicate_succ, List.replicate_zero, List.flatten_cons, List.flatten_nil, List.cons_append, List.nil_append, List.set_cons_zero, List.set_cons_succ, List.length_cons, List.length_nil, List.length_set]
                    repeat' (first
                      | (refine RgK.mk rfl ?_; simp -dsimp only [go_sem, reduceIte, reduceCtorEq, Nat.reduceEqDiff, Nat.reduceLT, Nat.reduceLeDiff, Nat.reduceAdd, Nat.reduceMul, Nat.reduceSub, Int.reduceToNat, Int.reduceNeg, hw, hm, hb, cC, cFd, cD, List.replicate_succ, List.replicate_zero, List.flatten_cons, List.flatten_nil, List.cons_append, List.nil_append, List.set_cons_zero, List.set_cons_succ, List.length_cons, List.length_nil, List.length_set])
                      | (refine Br.mk (fun h => ?_) (fun h => ?_) <;> simp -dsimp only [go_sem, reduceIte, reduceCtorEq, Nat.reduceEqDiff, Nat.reduceLT, Nat.reduceLeDiff, Nat.reduceAdd, Nat.reduceMul, Nat.reduceSub, Int.reduceToNat, Int.reduceNeg, h, hw, hm, hb, cC, cFd, cD, List.replicate_succ, List.replicate_zero, List.flatten_cons, List.flatten_nil, List.cons_append, List.nil_append, List.set_cons_zero, List.set_cons_succ, List.length_cons, List.length_nil, List.length_set])
                      | (refine CallK.flat (by first | exact areCharacters _ (htz _ (List.getElem_mem hlt))) rfl ?_; simp -dsimp only [go_sem, reduceIte, reduceCtorEq, Nat.reduceEqDiff, Nat.reduceLT, Nat.reduceLeDiff, Nat.reduceAdd, Nat.reduceMul, Nat.reduceSub, Int.reduceToNat, Int.reduceNeg, hw, hm, hb, cC, cFd, cD, List.replicate_succ, List.replicate_zero, List.flatten_cons, List.flatten_nil, List.cons_append, List.nil_append, List.set_cons_zero, List.set_cons_succ, List.length_cons, List.length_nil, List.length_set])
                      | (refine CallK.pure (by first | exact areCharacters _ (htz _ (List.getElem_mem hlt))) ?_; simp -dsimp only [go_sem, reduceIte, reduceCtorEq, Nat.reduceEqDiff, Nat.reduceLT, Nat.reduceLeDiff, Nat.reduceAdd, Nat.reduceMul, Nat.reduceSub, Int.reduceToNat, Int.reduceNeg, hw, hm, hb, cC, cFd, cD, List.replicate_succ, List.replicate_zero, List.flatten_cons, List.flatten_nil, List.cons_append, List.nil_append, List.set_cons_zero, List.set_cons_succ, List.length_cons, List.length_nil, List.length_set])
                      | (refine And.intro (by first | rfl | omega | decide | (refine ⟨?_, ?_⟩ <;> (first | rfl | omega | decide)) | (refine ⟨?_, ?_, ?_⟩ <;> (first | rfl | omega | decide)) | (refine ⟨?_, ?_, ?_, ?_⟩ <;> (first | rfl | omega | decide))) ?_)
                      | fail)
                    all_goals first | omega | (exact ⟨⟨(i + 1, ()), by first | omega | simp | exact ⟨by omega, by omega⟩, take_succ_all (p := areCh) hlt hg hb⟩, by simp [Vs.LeL, Vs.look, Vs.hlook, Vs.sput, Vs.sputs, Vs.hset, Vs.hputs], by simp only; omega⟩)
                · have hge : i = ts.length := by
                    have : ¬ i < ts.length := by first | (simpa using hc) | (simp at hc; omega)
                    omega
                  subst hge
                  simp -dsimp only [go_sem, reduceIte, reduceCtorEq, Nat.reduceEqDiff, Nat.reduceLT, Nat.reduceLeDiff, Nat.reduceAdd, Nat.reduceMul, Nat.reduceSub, Int.reduceToNat, Int.reduceNeg, cC, cFd, cD, List.replicate_succ, List.replicate_zero, List.flatten_cons, List.flatten_nil, List.cons_append, List.nil_append, List.set_cons_zero, List.set_cons_succ, List.length_cons, List.length_nil, List.length_set]
                  have a4 : ts.all (areCh) = true := by simpa using hg
                  clear hg hi hc
                  refine ⟨?_, by simp⟩
                  refine LoopK.at (drawn_ok Try.mixed) (X := { zz : Nat × (Unit) // zz.1 ≤ ls.length ∧ (ls.take zz.1).all ((allCh fr to)) = true }) (fun zz => [(70, .v (.int .i64 zz.1.1))]) (fun zz => []) (fun zz => ls.length - zz.1.1) ⟨(0, ()), by omega, by simp⟩ ?_ ?_
                  · simp [Vs.LeL, Vs.look, Vs.hlook, Vs.sput, Vs.sputs, Vs.hset, Vs.hputs]
                  · rintro ⟨⟨i, _⟩, hi, hg⟩
                    dsimp only at hi hg
                    simp -dsimp only [go_sem, reduceIte, reduceCtorEq, Nat.reduceEqDiff, Nat.reduceLT, Nat.reduceLeDiff, Nat.reduceAdd, Nat.reduceMul, Nat.reduceSub, Int.reduceToNat, Int.reduceNeg, cC, cFd, cD, List.replicate_succ, List.replicate_zero, List.flatten_cons, List.flatten_nil, List.cons_append, List.nil_append, List.set_cons_zero, List.set_cons_succ, List.length_cons, List.length_nil, List.length_set]
                    refine Br.mk (fun hc => ?_) fun hc => ?_
                    · have hlt : i < ls.length := by first | (simpa using hc) | (simp at hc; omega)
                      have hw := wrap_succ hlt hk.1
                      have hsm := hk.2 _ (List.getElem_mem hlt)
                      have hm : (E cD ls).getD i [] = [.sl 1 (E cC ls[i])] := E_get hlt
                      have hdk : deckB ls[i] = true := (List.all_eq_true.1 a1) _ (List.getElem_mem hlt)
                      have hfk : fldB fr to (widB ls[i]) = true := (List.all_eq_true.1 a2) _ (List.getElem_mem hlt)
                      have hof := okF_of hdk hfk
                      cases hb : (allCh fr to) ls[i]
                      · have hall : ls.all ((allCh fr to)) = false := not_all (p := (allCh fr to)) hlt hb
                        simp -dsimp only [go_sem, reduceIte, reduceCtorEq, Nat.reduceEqDiff, Nat.reduceLT, Nat.reduceLeDiff, Nat.reduceAdd, Nat.reduceMul, Nat.reduceSub, Int.reduceToNat, Int.reduceNeg, hw, hm, hb, cC, cFd, cD, List.replicate_succ, List.replicate_zero, List.flatten_cons, List.flatten_nil, List.cons_append, List.nil_append, List.set_cons_zero, List.set_cons_succ, List.length_cons, List.length_nil, List.length_set]
                        repeat' (first
                          | (refine RgK.mk rfl ?_; simp -dsimp only [go_sem, reduceIte, reduceCtorEq, Nat.reduceEqDiff, Nat.reduceLT, Nat.reduceLeDiff, Nat.reduceAdd, Nat.reduceMul, Nat.reduceSub, Int.reduceToNat, Int.reduceNeg, hw, hm, hb, cC, cFd, cD, List.replicate_succ, List.replicate_zero, List.flatten_cons, List.flatten_nil, List.cons_append, List.nil_append, List.set_cons_zero, List.set_cons_succ, List.length_cons, List.length_nil, List.length_set])
                          | (refine Br.mk (fun h => ?_) (fun h => ?_) <;> simp -dsimp only [go_sem, reduceIte, reduceCtorEq, Nat.reduceEqDiff, Nat.reduceLT, Nat.reduceLeDiff, Nat.reduceAdd, Nat.reduceMul, Nat.reduceSub, Int.reduceToNat, Int.reduceNeg, h, hw, hm, hb, cC, cFd, cD, List.replicate_succ, List.replicate_zero, List.flatten_cons, List.flatten_nil, List.cons_append, List.nil_append, List.set_cons_zero, List.set_cons_succ, List.length_cons, List.length_nil, List.length_set])
                          | (refine CallK.flat (by first | exact haveField _ fr to hof hsm.1) rfl ?_; simp -dsimp only [go_sem, reduceIte, reduceCtorEq, Nat.reduceEqDiff, Nat.reduceLT, Nat.reduceLeDiff, Nat.reduceAdd, Nat.reduceMul, Nat.reduceSub, Int.reduceToNat, Int.reduceNeg, hw, hm, hb, cC, cFd, cD, List.replicate_succ, List.replicate_zero, List.flatten_cons, List.flatten_nil, List.cons_append, List.nil_append, List.set_cons_zero, List.set_cons_succ, List.length_cons, List.length_nil, List.length_set])
                          | (refine CallK.pure (by first | exact haveField _ fr to hof hsm.1) ?_; simp -dsimp only [go_sem, reduceIte, reduceCtorEq, Nat.reduceEqDiff, Nat.reduceLT, Nat.reduceLeDiff, Nat.reduceAdd, Nat.reduceMul, Nat.reduceSub, Int.reduceToNat, Int.reduceNeg, hw, hm, hb, cC, cFd, cD, List.replicate_succ, List.replicate_zero, List.flatten_cons, List.flatten_nil, List.cons_append, List.nil_append, List.set_cons_zero, List.set_cons_succ, List.length_cons, List.length_nil, List.length_set])
                          | (refine And.intro (by first | rfl | omega | decide | (refine ⟨?_, ?_⟩ <;> (first | rfl | omega | decide)) | (refine ⟨?_, ?_, ?_⟩ <;> (first | rfl | omega | decide)) | (refine ⟨?_, ?_, ?_, ?_⟩ <;> (first | rfl | omega | decide))) ?_)
                          | fail)

                        all_goals first | omega | (refine ret_eq ?_; simp [colT, hall, a1, a2, a3, a4]; done) | (simp [colT, hall, a1, a2, a3, a4]; done)
                      · simp -dsimp only [go_sem, reduceIte, reduceCtorEq, Nat.reduceEqDiff, Nat.reduceLT, Nat.reduceLeDiff, Nat.reduceAdd, Nat.reduceMul, Nat.reduceSub, Int.reduceToNat, Int.reduceNeg, hw, hm, hb, cC, cFd, cD, List.replicate_succ, List.replicate_zero, List.flatten_cons, List.flatten_nil, List.cons_append, List.nil_append, List.set_cons_zero, List.set_cons_succ, List.length_cons, List.length_nil, List.length_set]
                        repeat' (first
                          | (refine RgK.mk rfl ?_; simp -dsimp only [go_sem, reduceIte, reduceCtorEq, Nat.reduceEqDiff, Nat.reduceLT, Nat.reduceLeDiff, Nat.reduceAdd, Nat.reduceMul, Nat.reduceSub, Int.reduceToNat, Int.reduceNeg, hw, hm, hb, cC, cFd, cD, List.replicate_succ, List.replicate_zero, List.flatten_cons, List.flatten_nil, List.cons_append, List.nil_append, List.set_cons_zero, List.set_cons_succ, List.length_cons, List.length_nil, List.length_set])
                          | (refine Br.mk (fun h => ?_) (fun h => ?_) <;> simp -dsimp only [go_sem, reduceIte, reduceCtorEq, Nat.reduceEqDiff, Nat.reduceLT, Nat.reduceLeDiff, Nat.reduceAdd, Nat.reduceMul, Nat.reduceSub, Int.reduceToNat, Int.reduceNeg, h, hw, hm, hb, cC, cFd, cD, List.replicate_succ, List.replicate_zero, List.flatten_cons, List.flatten_nil, List.cons_append, List.nil_append, List.set_cons_zero, List.set_cons_succ, List.length_cons, List.length_nil, List.length_set])
                          | (refine CallK.flat (by first | exact haveField _ fr to hof hsm.1) rfl ?_; simp -dsimp only [go_sem, reduceIte, reduceCtorEq, Nat.reduceEqDiff, Nat.reduceLT, Nat.reduceLeDiff, Nat.reduceAdd, Nat.reduceMul, Nat.reduceSub, Int.reduceToNat, Int.reduceNeg, hw, hm, hb, cC, cFd, cD, List.replicate_succ, List.replicate_zero, List.flatten_cons, List.flatten_nil, List.cons_append, List.nil_append, List.set_cons_zero, List.set_cons_succ, List.length_cons, List.length_nil, List.length_set])
                          | (refine CallK.pure (by first | exact haveField _ fr to hof hsm.1) ?_; simp -dsimp only [go_sem, reduceIte, reduceCtorEq, Nat.reduceEqDiff, Nat.reduceLT, Nat.reduceLeDiff, Nat.reduceAdd, Nat.reduceMul, Nat.reduceSub, Int.reduceToNat, Int.reduceNeg, hw, hm, hb, cC, cFd, cD, List.replicate_succ, List.replicate_zero, List.flatten_cons, List.flatten_nil, List.cons_append, List.nil_append, List.set_cons_zero, List.set_cons_succ, List.length_cons, List.length_nil, List.length_set])
                          | (refine And.intro (by first | rfl | omega | decide | (refine ⟨?_, ?_⟩ <;> (first | rfl | omega | decide)) | (refine ⟨?_, ?_, ?_⟩ <;> (first | rfl | omega | decide)) | (refine ⟨?_, ?_, ?_, ?_⟩ <;> (first | rfl | omega | decide))) ?_)
                          | fail)
                        all_goals first | omega | (exact ⟨⟨(i + 1, ()), by first | omega | simp | exact ⟨by omega, by omega⟩, take_succ_all (p := (allCh fr to)) hlt hg hb⟩, by simp [Vs.LeL, Vs.look, Vs.hlook, Vs.sput, Vs.sputs, Vs.hset, Vs.hputs], by simp only; omega⟩)
                    · have hge : i = ls.length := by
                        have : ¬ i < ls.length := by first | (simpa using hc) | (simp at hc; omega)
                        omega
                      subst hge
                      simp -dsimp only [go_sem, reduceIte, reduceCtorEq, Nat.reduceEqDiff, Nat.reduceLT, Nat.reduceLeDiff, Nat.reduceAdd, Nat.reduceMul, Nat.reduceSub, Int.reduceToNat, Int.reduceNeg, cC, cFd, cD, List.replicate_succ, List.replicate_zero, List.flatten_cons, List.flatten_nil, List.cons_append, List.nil_append, List.set_cons_zero, List.set_cons_succ, List.length_cons, List.length_nil, List.length_set]
                      have a5 : ls.all (allCh fr to) = true := by simpa using hg
                      simp [colT, a1, a2, a3, a4, a5]

end Go.Proofs.Ytokfhfdnmnblfaa

namespace Go.Proofs.Ytokfhfdnmnblfaa
open Go.Vs
set_option linter.unusedSectionVars false
variable [Vs.Envs]
set_option linter.unusedSimpArgs false
set_option linter.unusedVariables false
attribute [local irreducible] Vs.Fn chOK areCh chTo chAt l03 chB rk cd3 chI stp stpTo
def flt (q : List Int → Bool) (l : List (List Int)) : List (List Int) := l.filter fun x => !q x
theorem flt_succ {q : List Int → Bool} {l : List (List Int)} {j : Nat} (h : j < l.length) : flt q (l.take (j + 1)) = flt q (l.take j) ++ (if q l[j] then [] else [l[j]]) := by
  unfold flt
  rw [take_succ h, List.filter_append]
  congr 1
  cases hq : q l[j] <;> simp [List.filter_cons, hq]
theorem flt_len (q : List Int → Bool) (l : List (List Int)) : (flt q l).length ≤ l.length := List.length_filter_le ..
theorem flt_none {q : List Int → Bool} {l : List (List Int)} (h : l.all (fun x => !q x) = true) : flt q l = l := by
  unfold flt
  exact List.filter_eq_self.2 (List.all_eq_true.1 h)
theorem idxP_cases (q : List Int → Bool) (l : List (List Int)) : (idxP q l = -1 ∧ l.all (fun x => !q x) = true) ∨ ∃ i : Nat, ∃ h : i < l.length, idxP q l = i ∧ q l[i] = true ∧ (l.take i).all (fun x => !q x) = true := by
  unfold idxP
  cases h : l.findIdx? q with
  | none =>
    rw [List.findIdx?_eq_none_iff] at h
    exact .inl ⟨rfl, List.all_eq_true.2 fun x hx => by simp [h x hx]⟩
  | some i =>
    rw [List.findIdx?_eq_some_iff_getElem] at h
    obtain ⟨hi, hp, h2⟩ := h
    refine .inr ⟨i, hi, rfl, hp, List.all_eq_true.2 fun x hx => ?_⟩
    obtain ⟨j, hj, rfl⟩ := List.mem_take_iff_getElem.1 hx
    simpa using h2 j (by omega)
theorem E_setm (m : List (List Int)) (i : Nat) (x : List Int) : (E cC m).set i [.sl 1 (E cI x)] = E cC (m.set i x) := by simp [E, List.map_set, cC]
theorem E_takeall (l : List (List Int)) : (E cC l).take l.length = E cC l := List.take_of_length_le (by simp [E])
def zR (n : Nat) : List (List AV) := List.replicate n [.v (.slice none 0 0)]
theorem clr_row {m : List (List Int)} {i n : Nat} (hm : m.length = n) (hi : i ≤ n) : clrL (E cC m) i (n - i) [.v (.slice none 0 0)] = E cC (m.take i) ++ zR (n - i) := by
  unfold clrL zR
  have h1 : (E cC m).take i = E cC (m.take i) := by simp [E, List.map_take]
  have h2 : (E cC m).drop (i + (n - i)) = [] := List.drop_eq_nil_of_le (by rw [E_len]; omega)
  rw [h1, h2, List.append_nil]
theorem has_cells {c : List AV} (h : cellsB c = true) (n : Name) : hasL n c = false := by
  induction c with
  | nil => rfl
  | cons x r ih =>
    simp only [cellsB, List.all_cons, Bool.and_eq_true] at h
    have hx : x.has n = false := by
      have h1 := h.1
      cases x <;> first | rfl | simp [cellB] at h1
    simp [hasL, hx, ih h.2]
attribute [local irreducible] flt idxP zR clrL
set_option maxHeartbeats 1000000 in
theorem delF (q : List Int → Bool) (g : FuncId) (caps : List AV) (hcaps : cellsB caps = true) (l : List (List Int)) (hl : l.length ≤ 1048576) (hq : ∀ x, x ∈ l → Vs.Fn Try.prog g [] (.agg (cC x) :: caps) (.v (.bool (q x))) []) :
    Vs.Fn Try.prog F.slices_DeleteFunc___impl_Card_impl_Card_ [.arr 1 (E cC l) false] [.loc (.b 0) 0 l.length, .fn g caps] (.loc (.b 0) 0 (flt q l).length) [some (.arr 1 (E cC (flt q l) ++ zR (l.length - (flt q l).length)) false)] := by
  have hidx : Vs.Fn Try.prog F.slices_IndexFunc___impl_Card_impl_Card_ [] [.sl 1 (E cC l), .fn g caps] (.v (.int .i64 (idxP q l))) [] :=
    ixA_fn Try.mixed (k := 1) Cd.slices_IndexFunc___impl_Card_impl_Card__ok Cd.slices_IndexFunc___impl_Card_impl_Card__nt Cd.slices_IndexFunc___impl_Card_impl_Card__rs rfl q g caps hcaps (fun _ => rfl) (fun _ => rfl) hq hl
  refine Cd.slices_DeleteFunc___impl_Card_impl_Card__ok.fn Try.mixed (hin := [.arr 1 (E cC l) false]) _ _ [.b 0] [.arr 1 (E cC (flt q l) ++ zR (l.length - (flt q l).length)) false] Cd.slices_DeleteFunc___impl_Card_impl_Card__nt Cd.slices_DeleteFunc___impl_Card_impl_Card__rs rfl (by simp) rfl (by simp) fun X => ?_
  unfold Cd.slices_DeleteFunc___impl_Card_impl_Card_
  simp -dsimp only [go_sem, reduceIte, reduceCtorEq, Nat.reduceEqDiff, Nat.reduceLT, Nat.reduceLeDiff, Nat.reduceAdd, Nat.reduceMul, Nat.reduceSub, Int.reduceToNat, Int.reduceNeg, conv_cells hcaps _ 6, conv_cells hcaps _ 7, E_takeall, E_len]
  refine CallK.flat hidx rfl ?_
  rcases idxP_cases q l with ⟨hn, hall⟩ | ⟨i0, hi0, hn, hq0, hall⟩
  · have e1 : ((-1 : Int) == -1) = true := rfl
    rw [hn]
    have hfl := flt_none hall
    rw [hfl]
    have hz0 : E cC l ++ zR (l.length - l.length) = E cC l := by unfold zR; simp
    simp -dsimp only [go_sem, reduceIte, reduceCtorEq, Nat.reduceEqDiff, Nat.reduceLT, Nat.reduceLeDiff, Nat.reduceAdd, Nat.reduceMul, Nat.reduceSub, Int.reduceToNat, Int.reduceNeg, e1, E_len, List.replicate_succ, List.replicate_zero, List.flatten_cons, List.flatten_nil, List.cons_append, List.nil_append, List.set_cons_zero, List.set_cons_succ, List.length_cons, List.length_nil, List.length_set]
    exact ⟨[], [], rfl, by rw [hz0]⟩
  · have e1 : ((i0 : Int) == -1) = false := beq_eq_false_iff_ne.2 (by omega)
    have hw0 := wrap_succ hi0 hl
    rw [hn]
    simp -dsimp only [go_sem, reduceIte, reduceCtorEq, Nat.reduceEqDiff, Nat.reduceLT, Nat.reduceLeDiff, Nat.reduceAdd, Nat.reduceMul, Nat.reduceSub, Int.reduceToNat, Int.reduceNeg, e1, hw0, E_len, List.replicate_succ, List.replicate_zero, List.flatten_cons, List.flatten_nil, List.cons_append, List.nil_append, List.set_cons_zero, List.set_cons_succ, List.length_cons, List.length_nil, List.length_set]
    refine LoopK.at (drawn_ok Try.mixed) (X := { zz : Nat × Nat × List (List Int) // (zz.1 ≤ l.length ∧ zz.2.1 < zz.1) ∧ zz.2.2.length = l.length ∧ zz.2.2.take zz.2.1 = flt q (l.take zz.1) ∧ zz.2.2.drop zz.1 = l.drop zz.1 }) (fun zz => [(5, .v (.int .i64 zz.1.2.1)), (6, .v (.int .i64 zz.1.1))]) (fun zz => [(.b 0, .arr 1 (E cC zz.1.2.2) false)]) (fun zz => l.length - zz.1.1) ⟨(i0 + 1, i0, l), ⟨show i0 + 1 ≤ l.length by omega, show i0 < i0 + 1 by omega⟩, rfl, ?_, rfl⟩ ?_ ?_
    · show l.take i0 = flt q (l.take (i0 + 1))
      rw [flt_succ hi0, flt_none hall, hq0]; simp
    · simp [Vs.LeL, Vs.look, Vs.hlook, Vs.sput, Vs.sputs, Vs.hset, Vs.hputs]
    · rintro ⟨⟨j, i, m⟩, ⟨hj, hij⟩, hm, ht, hd⟩
      dsimp only at hj hij hm ht hd
      simp -dsimp only [go_sem, reduceIte, reduceCtorEq, Nat.reduceEqDiff, Nat.reduceLT, Nat.reduceLeDiff, Nat.reduceAdd, Nat.reduceMul, Nat.reduceSub, Int.reduceToNat, Int.reduceNeg]
      refine Br.mk (fun hc => ?_) fun hc => ?_
      · have hlt : j < l.length := by simpa using hc
        have hw := wrap_succ hlt hl
        have hwi := wrap_succ (show i < l.length by omega) hl
        have hjm : j < m.length := by omega
        have him : i < m.length := by omega
        have hmj : m[j] = l[j] := by
          have h1 := congrArg (fun x => x[0]?) hd
          simpa [List.getElem?_drop, hjm, hlt] using h1
        have hgm : (E cC m).getD j [] = [.sl 1 (E cI l[j])] := by rw [E_get hjm, hmj]; rfl
        have hgi : (E cC m).getD i [] = [.sl 1 (E cI m[i])] := E_get him
        have hlm : (E cC m).length = l.length := by rw [E_len]; exact hm
        have hcj : Vs.Fn Try.prog g [] (.agg [.sl 1 (E cI l[j])] :: caps) (.v (.bool (q l[j]))) [] := hq _ (List.getElem_mem hlt)
        have hsm := E_setm m i l[j]
        have hdd : m.drop (j + 1) = l.drop (j + 1) := by
          have h1 := congrArg (List.drop 1) hd
          simpa [List.drop_drop] using h1
        cases hqj : q l[j]
        · have htt : (m.set i l[j]).take (i + 1) = flt q (l.take (j + 1)) := by
            rw [flt_succ hlt, hqj, ← ht, take_succ (show i < (m.set i l[j]).length by simpa using him)]
            simp only [List.append_cancel_right_eq, List.getElem_set_self, if_false, Bool.false_eq_true]
            rw [List.take_set_of_le (Nat.le_refl _)]
          have hd2 : (m.set i l[j]).drop (j + 1) = l.drop (j + 1) := by rw [List.drop_set_of_lt (by omega), hdd]
          simp -dsimp only [go_sem, reduceIte, reduceCtorEq, Nat.reduceEqDiff, Nat.reduceLT, Nat.reduceLeDiff, Nat.reduceAdd, Nat.reduceMul, Nat.reduceSub, Int.reduceToNat, Int.reduceNeg, hw, hwi, hgm, hgi, hlm, hsm, hqj, conv_cells hcaps _ 6, conv_cells hcaps _ 7, has_cells hcaps, List.replicate_succ, List.replicate_zero, List.flatten_cons, List.flatten_nil, List.cons_append, List.nil_append, List.set_cons_zero, List.set_cons_succ, List.length_cons, List.length_nil, List.length_set]
          repeat' (first
            | (refine RgK.mk rfl ?_; simp -dsimp only [go_sem, reduceIte, reduceCtorEq, Nat.reduceEqDiff, Nat.reduceLT, Nat.reduceLeDiff, Nat.reduceAdd, Nat.reduceMul, Nat.reduceSub, Int.reduceToNat, Int.reduceNeg, hw, hwi, hgm, hgi, hlm, hsm, hqj, conv_cells hcaps _ 6, conv_cells hcaps _ 7, has_cells hcaps, List.replicate_succ, List.replicate_zero, List.flatten_cons, List.flatten_nil, List.cons_append, List.nil_append, List.set_cons_zero, List.set_cons_succ, List.length_cons, List.length_nil, List.length_set])
            | (refine Br.mk (fun h => ?_) (fun h => ?_) <;> simp -dsimp only [go_sem, reduceIte, reduceCtorEq, Nat.reduceEqDiff, Nat.reduceLT, Nat.reduceLeDiff, Nat.reduceAdd, Nat.reduceMul, Nat.reduceSub, Int.reduceToNat, Int.reduceNeg, h, hw, hwi, hgm, hgi, hlm, hsm, hqj, conv_cells hcaps _ 6, conv_cells hcaps _ 7, has_cells hcaps, List.replicate_succ, List.replicate_zero, List.flatten_cons, List.flatten_nil, List.cons_append, List.nil_append, List.set_cons_zero, List.set_cons_succ, List.length_cons, List.length_nil, List.length_set])
            | (refine CallK.flat (by first | exact hcj) rfl ?_; simp -dsimp only [go_sem, reduceIte, reduceCtorEq, Nat.reduceEqDiff, Nat.reduceLT, Nat.reduceLeDiff, Nat.reduceAdd, Nat.reduceMul, Nat.reduceSub, Int.reduceToNat, Int.reduceNeg, hw, hwi, hgm, hgi, hlm, hsm, hqj, conv_cells hcaps _ 6, conv_cells hcaps _ 7, has_cells hcaps, List.replicate_succ, List.replicate_zero, List.flatten_cons, List.flatten_nil, List.cons_append, List.nil_append, List.set_cons_zero, List.set_cons_succ, List.length_cons, List.length_nil, List.length_set])
            | (refine CallK.pure (by first | exact hcj) ?_; simp -dsimp only [go_sem, reduceIte, reduceCtorEq, Nat.reduceEqDiff, Nat.reduceLT, Nat.reduceLeDiff, Nat.reduceAdd, Nat.reduceMul, Nat.reduceSub, Int.reduceToNat, Int.reduceNeg, hw, hwi, hgm, hgi, hlm, hsm, hqj, conv_cells hcaps _ 6, conv_cells hcaps _ 7, has_cells hcaps, List.replicate_succ, List.replicate_zero, List.flatten_cons, List.flatten_nil, List.cons_append, List.nil_append, List.set_cons_zero, List.set_cons_succ, List.length_cons, List.length_nil, List.length_set])
            | (refine And.intro (by first | rfl | omega | decide | exact ⟨by omega, by omega⟩ | (refine ⟨?_, ?_⟩ <;> (first | rfl | omega | decide | exact ⟨by omega, by omega⟩)) | (refine ⟨?_, ?_, ?_⟩ <;> (first | rfl | omega | decide | exact ⟨by omega, by omega⟩)) | (refine ⟨?_, ?_, ?_, ?_⟩ <;> (first | rfl | omega | decide | exact ⟨by omega, by omega⟩))) ?_)
            | fail)

          all_goals first | omega | (exact ⟨⟨(j + 1, i + 1, m.set i l[j]), ⟨by dsimp only; omega, by dsimp only; omega⟩, by simpa using hm, htt, hd2⟩, by simp [Vs.LeL, Vs.look, Vs.hlook, Vs.sput, Vs.sputs, Vs.hset, Vs.hputs], by simp only; omega⟩)
        · have htt : m.take i = flt q (l.take (j + 1)) := by rw [flt_succ hlt, hqj, ← ht]; simp
          simp -dsimp only [go_sem, reduceIte, reduceCtorEq, Nat.reduceEqDiff, Nat.reduceLT, Nat.reduceLeDiff, Nat.reduceAdd, Nat.reduceMul, Nat.reduceSub, Int.reduceToNat, Int.reduceNeg, hw, hwi, hgm, hgi, hlm, hsm, hqj, conv_cells hcaps _ 6, conv_cells hcaps _ 7, has_cells hcaps, List.replicate_succ, List.replicate_zero, List.flatten_cons, List.flatten_nil, List.cons_append, List.nil_append, List.set_cons_zero, List.set_cons_succ, List.length_cons, List.length_nil, List.length_set]
          repeat' (first
            | (refine RgK.mk rfl ?_; simp -dsimp only [go_sem, reduceIte, reduceCtorEq, Nat.reduceEqDiff, Nat.reduceLT, Nat.reduceLeDiff, Nat.reduceAdd, Nat.reduceMul, Nat.reduceSub, Int.reduceToNat, Int.reduceNeg, hw, hwi, hgm, hgi, hlm, hsm, hqj, conv_cells hcaps _ 6, conv_cells hcaps _ 7, has_cells hcaps, List.replicate_succ, List.replicate_zero, List.flatten_cons, List.flatten_nil, List.cons_append, List.nil_append, List.set_cons_zero, List.set_cons_succ, List.length_cons, List.length_nil, List.length_set])
            | (refine Br.mk (fun h => ?_) (fun h => ?_) <;> simp -dsimp only [go_sem, reduceIte, reduceCtorEq, Nat.reduceEqDiff, Nat.reduceLT, Nat.reduceLeDiff, Nat.reduceAdd, Nat.reduceMul, Nat.reduceSub, Int.reduceToNat, Int.reduceNeg, h, hw, hwi, hgm, hgi, hlm, hsm, hqj, conv_cells hcaps _ 6, conv_cells hcaps _ 7, has_cells hcaps, List.replicate_succ, List.replicate_zero, List.flatten_cons, List.flatten_nil, List.cons_append, List.nil_append, List.set_cons_zero, List.set_cons_succ, List.length_cons, List.length_nil, List.length_set])
            | (refine CallK.flat (by first | exact hcj) rfl ?_; simp -dsimp only [go_sem, reduceIte, reduceCtorEq, Nat.reduceEqDiff, Nat.reduceLT, Nat.reduceLeDiff, Nat.reduceAdd, Nat.reduceMul, Nat.reduceSub, Int.reduceToNat, Int.reduceNeg, hw, hwi, hgm, hgi, hlm, hsm, hqj, conv_cells hcaps _ 6, conv_cells hcaps _ 7, has_cells hcaps, List.replicate_succ, List.replicate_zero, List.flatten_cons, List.flatten_nil, List.cons_append, List.nil_append, List.set_cons_zero, List.set_cons_succ, List.length_cons, List.length_nil, List.length_set])
            | (refine CallK.pure (by first | exact hcj) ?_; simp -dsimp only [go_sem, reduceIte, reduceCtorEq, Nat.reduceEqDiff, Nat.reduceLT, Nat.reduceLeDiff, Nat.reduceAdd, Nat.reduceMul, Nat.reduceSub, Int.reduceToNat, Int.reduceNeg, hw, hwi, hgm, hgi, hlm, hsm, hqj, conv_cells hcaps _ 6, conv_cells hcaps _ 7, has_cells hcaps, List.replicate_succ, List.replicate_zero, List.flatten_cons, List.flatten_nil, List.cons_append, List.nil_append, List.set_cons_zero, List.set_cons_succ, List.length_cons, List.length_nil, List.length_set])
            | (refine And.intro (by first | rfl | omega | decide | exact ⟨by omega, by omega⟩ | (refine ⟨?_, ?_⟩ <;> (first | rfl | omega | decide | exact ⟨by omega, by omega⟩)) | (refine ⟨?_, ?_, ?_⟩ <;> (first | rfl | omega | decide | exact ⟨by omega, by omega⟩)) | (refine ⟨?_, ?_, ?_, ?_⟩ <;> (first | rfl | omega | decide | exact ⟨by omega, by omega⟩))) ?_)
            | fail)

          all_goals first | omega | (exact ⟨⟨(j + 1, i, m), ⟨by dsimp only; omega, by dsimp only; omega⟩, hm, htt, hdd⟩, by simp [Vs.LeL, Vs.look, Vs.hlook, Vs.sput, Vs.sputs, Vs.hset, Vs.hputs], by simp only; omega⟩)
      · have hge : j = l.length := by
          have : ¬ j < l.length := by simpa using hc
          omega
        subst hge
        rw [List.take_length] at ht
        have hfi : (flt q l).length = i := by rw [← ht]; simp; omega
        have hlm : (E cC m).length = l.length := by rw [E_len]; exact hm
        have hcl := clr_row hm (show i ≤ l.length by omega)
        rw [ht] at hcl
        have hti : ((l.length : Int) - (i : Int)).toNat = l.length - i := by omega
        rw [hfi]
        simp -dsimp only [go_sem, reduceIte, reduceCtorEq, Nat.reduceEqDiff, Nat.reduceLT, Nat.reduceLeDiff, Nat.reduceAdd, Nat.reduceMul, Nat.reduceSub, Int.reduceToNat, Int.reduceNeg, hlm, hcl, hti, List.replicate_succ, List.replicate_zero, List.flatten_cons, List.flatten_nil, List.cons_append, List.nil_append, List.set_cons_zero, List.set_cons_succ, List.length_cons, List.length_nil, List.length_set]
        have hti2 : ((i : Int) - 0).toNat = i := by omega
        rw [hti2]
        exact ⟨⟨⟨by omega, by omega, by omega⟩, by omega, ⟨by omega, by omega, by omega⟩, ⟨[], [], rfl, rfl⟩⟩, fun h => h rfl⟩
end Go.Proofs.Ytokfhfdnmnblfaa
