/- EvalSpec: the reference's way. -/
import Derived.Test.YtokfhfdnmnblfaaYwVb
import Derived.Test.YtokfhfdnmnblfaaYwSy
namespace Go.Proofs.Ytokfhfdnmnblfaa
open Go.Vs
set_option linter.unusedSectionVars false
variable [Vs.Envs]
set_option linter.unusedSimpArgs false
set_option linter.unusedVariables false
attribute [local irreducible] Vs.Fn pun cmT zR offT selC keyC cfC chOK areCh chTo chAt l03 chB rk cd3 chI stp stpTo
theorem selC_key {fr to : Int} {s : ByteArray} {l : List (List Int)} (h : selC fr to s l = 0) : deckB l = true ∧ fldB fr to (widB l) = true ∧ s.size = to.toNat - fr.toNat ∧ areCh s = true ∧ allCh fr to l = true := by
  obtain ⟨hd, hf, hsz, hch, hall⟩ := selC_ok h
  have hf2 := hf
  simp only [fldB, Bool.and_eq_true, decide_eq_true_eq] at hf2
  have hz2 : ((s.size : Int)) = W (to - fr) := by simpa using hsz
  have hwb : widB l ≤ 1048576 := by
    have h40 := deck_40 hd
    unfold widB
    split
    · omega
    · rename_i h0
      have hm : l.getD 0 [] ∈ l := by rw [show l.getD 0 [] = l[0]'(by omega) by simp [List.getD, (by omega : 0 < l.length)]]; exact List.getElem_mem _
      have := (okF_of hd hf _ hm).2.2.2
      omega
  rw [show W (to - fr) = to - fr from wrap_in (by omega) (by omega)] at hz2
  exact ⟨hd, hf, by omega, hch, hall⟩
set_option maxHeartbeats 1000000 in
theorem spec_SelectEqual (l : List (List Int)) (fr to : Int) (s : ByteArray) (hk : smallC l) (hz : s.size ≤ 1048576) : Vs.Fn Try.prog F.spec_SelectEqual [] [.sl 1 (E cC l), .agg (cFd fr to), .v (.string s)] (.tup [selV fr to s l, .v (.int .i64 (selC fr to s l))]) [] := by
  have AK := l09Ask l fr to s hk hz
  by_cases h0 : selC fr to s l = 0
  · obtain ⟨hd, hf, hsz, hch, hall⟩ := selC_key h0
    have ho := okF_of hd hf
    have h40 := deck_40 hd
    rw [show selV fr to s l = .sl 1 (E cC (flt (offT fr to s) l)) by simp [selV, h0], h0]
    rw [show askV fr to s l = .sl 1 (E cSt (keyL fr to l)) by simp [askV, h0], h0] at AK
    have hkl := keyL_len fr to l
    refine Cd.spec_SelectEqual_ok.fn0 Try.mixed Cd.spec_SelectEqual_nt Cd.spec_SelectEqual_rs rfl fun X => ?_
    unfold Cd.spec_SelectEqual
    simp -dsimp only [go_sem, reduceIte, reduceCtorEq, Nat.reduceEqDiff, Nat.reduceLT, Nat.reduceLeDiff, Nat.reduceAdd, Nat.reduceMul, Nat.reduceSub, Int.reduceToNat, Int.reduceNeg, Int.reduceBEq, Int.reduceBNe, cC, cFd, cP, List.replicate_succ, List.replicate_zero, List.flatten_cons, List.flatten_nil, List.cons_append, List.nil_append, List.set_cons_zero, List.set_cons_succ, List.length_cons, List.length_nil, List.length_set, hkl, E_len]
    repeat' (first
      | (refine RgK.mk rfl ?_; simp -dsimp only [go_sem, reduceIte, reduceCtorEq, Nat.reduceEqDiff, Nat.reduceLT, Nat.reduceLeDiff, Nat.reduceAdd, Nat.reduceMul, Nat.reduceSub, Int.reduceToNat, Int.reduceNeg, Int.reduceBEq, Int.reduceBNe, cC, cFd, cP, List.replicate_succ, List.replicate_zero, List.flatten_cons, List.flatten_nil, List.cons_append, List.nil_append, List.set_cons_zero, List.set_cons_succ, List.length_cons, List.length_nil, List.length_set, hkl, E_len])
      | (refine Br.mk (fun h => ?_) (fun h => ?_) <;> simp -dsimp only [go_sem, reduceIte, reduceCtorEq, Nat.reduceEqDiff, Nat.reduceLT, Nat.reduceLeDiff, Nat.reduceAdd, Nat.reduceMul, Nat.reduceSub, Int.reduceToNat, Int.reduceNeg, h, Int.reduceBEq, Int.reduceBNe, cC, cFd, cP, List.replicate_succ, List.replicate_zero, List.flatten_cons, List.flatten_nil, List.cons_append, List.nil_append, List.set_cons_zero, List.set_cons_succ, List.length_cons, List.length_nil, List.length_set, hkl, E_len])
      | (refine CallK.flat (by first | exact AK) rfl ?_; simp -dsimp only [go_sem, reduceIte, reduceCtorEq, Nat.reduceEqDiff, Nat.reduceLT, Nat.reduceLeDiff, Nat.reduceAdd, Nat.reduceMul, Nat.reduceSub, Int.reduceToNat, Int.reduceNeg, Int.reduceBEq, Int.reduceBNe, cC, cFd, cP, List.replicate_succ, List.replicate_zero, List.flatten_cons, List.flatten_nil, List.cons_append, List.nil_append, List.set_cons_zero, List.set_cons_succ, List.length_cons, List.length_nil, List.length_set, hkl, E_len])
      | (refine CallK.pure (by first | exact AK) ?_; simp -dsimp only [go_sem, reduceIte, reduceCtorEq, Nat.reduceEqDiff, Nat.reduceLT, Nat.reduceLeDiff, Nat.reduceAdd, Nat.reduceMul, Nat.reduceSub, Int.reduceToNat, Int.reduceNeg, Int.reduceBEq, Int.reduceBNe, cC, cFd, cP, List.replicate_succ, List.replicate_zero, List.flatten_cons, List.flatten_nil, List.cons_append, List.nil_append, List.set_cons_zero, List.set_cons_succ, List.length_cons, List.length_nil, List.length_set, hkl, E_len])
      | (refine And.intro (by first | rfl | omega | decide | exact ⟨by omega, by omega⟩ | exact ⟨rfl, by omega, by omega⟩ | (refine ⟨?_, ?_⟩ <;> (first | rfl | omega | decide | exact ⟨by omega, by omega⟩ | exact ⟨rfl, by omega, by omega⟩)) | (refine ⟨?_, ?_, ?_⟩ <;> (first | rfl | omega | decide | exact ⟨by omega, by omega⟩ | exact ⟨rfl, by omega, by omega⟩)) | (refine ⟨?_, ?_, ?_, ?_⟩ <;> (first | rfl | omega | decide | exact ⟨by omega, by omega⟩ | exact ⟨rfl, by omega, by omega⟩))) ?_; try simp -dsimp only [go_sem, reduceIte, reduceCtorEq, Nat.reduceEqDiff, Nat.reduceLT, Nat.reduceLeDiff, Nat.reduceAdd, Nat.reduceMul, Nat.reduceSub, Int.reduceToNat, Int.reduceNeg, Int.reduceBEq, Int.reduceBNe, cC, cFd, cP, List.replicate_succ, List.replicate_zero, List.flatten_cons, List.flatten_nil, List.cons_append, List.nil_append, List.set_cons_zero, List.set_cons_succ, List.length_cons, List.length_nil, List.length_set, hkl, E_len])
      | fail)
    refine LoopK.at (drawn_ok Try.mixed) (X := { zz : Nat × (Unit) // zz.1 ≤ l.length ∧ True }) (fun zz => [(10, .loc (.t 10 0) 0 (flt (offT fr to s) (l.take zz.1.1)).length), (11, .v (.int .i64 zz.1.1))]) (fun zz => [(.t 10 0, .arr 1 (E cC (flt (offT fr to s) (l.take zz.1.1))) false)]) (fun zz => l.length - zz.1.1) ⟨(0, ()), by omega, trivial⟩ ?_ ?_
    · simp [Vs.LeL, Vs.look, Vs.hlook, Vs.sput, Vs.sputs, Vs.hset, Vs.hputs, Vs.E, flt]
    · rintro ⟨⟨i, _⟩, hi, hg⟩
      dsimp only at hi hg
      simp -dsimp only [go_sem, reduceIte, reduceCtorEq, Nat.reduceEqDiff, Nat.reduceLT, Nat.reduceLeDiff, Nat.reduceAdd, Nat.reduceMul, Nat.reduceSub, Int.reduceToNat, Int.reduceNeg, Int.reduceBEq, Int.reduceBNe, cC, cFd, cP, List.replicate_succ, List.replicate_zero, List.flatten_cons, List.flatten_nil, List.cons_append, List.nil_append, List.set_cons_zero, List.set_cons_succ, List.length_cons, List.length_nil, List.length_set, hkl, E_len]
      refine Br.mk (fun hc => ?_) fun hc => ?_
      · have hlt : i < l.length := by first | (simpa using hc) | (simp at hc; omega)
        have hw := wrap_succ hlt (by omega)
        have hc := ho _ (List.getElem_mem hlt)
        have hko := key_off hc (List.all_eq_true.1 hall _ (List.getElem_mem hlt)) hsz hch
        have hm : (E cSt (keyL fr to l)).getD i [] = [.v (.string (txt (fH fr to l[i])))] := by rw [E_get (by omega)]; simp [keyL, cSt]
        have hm2 : (E cC l).getD i [] = [.sl 1 (E cI l[i])] := E_get hlt
        have hfs := flt_succ (q := offT fr to s) hlt
        have hfl := flt_len (offT fr to s) (l.take i)
        have ht : (l.take i).length = i := by simp; omega
        have NC := l02Own l[i] (hk.2 _ (List.getElem_mem hlt))
        have hE : (E cC (flt (offT fr to s) (l.take i))).length = (flt (offT fr to s) (l.take i)).length := E_len ..
        cases hq : offT fr to s l[i]
        · rw [hq] at hfs hko
          have hap : E cC (flt (offT fr to s) (l.take i)) ++ [[.sl 1 (E cI l[i])]] = E cC (flt (offT fr to s) (l.take (i + 1))) := by rw [hfs, E_append]; rfl
          have hln : (flt (offT fr to s) (l.take (i + 1))).length = (flt (offT fr to s) (l.take i)).length + 1 := by rw [hfs]; simp
          simp -dsimp only [go_sem, reduceIte, reduceCtorEq, Nat.reduceEqDiff, Nat.reduceLT, Nat.reduceLeDiff, Nat.reduceAdd, Nat.reduceMul, Nat.reduceSub, Int.reduceToNat, Int.reduceNeg, hm, hm2, hw, hko, Int.reduceBEq, Int.reduceBNe, cC, cFd, cP, List.replicate_succ, List.replicate_zero, List.flatten_cons, List.flatten_nil, List.cons_append, List.nil_append, List.set_cons_zero, List.set_cons_succ, List.length_cons, List.length_nil, List.length_set]
          repeat' (first
            | (refine RgK.mk rfl ?_; simp -dsimp only [go_sem, reduceIte, reduceCtorEq, Nat.reduceEqDiff, Nat.reduceLT, Nat.reduceLeDiff, Nat.reduceAdd, Nat.reduceMul, Nat.reduceSub, Int.reduceToNat, Int.reduceNeg, hm, hm2, hw, hko, hap, hE, Int.reduceBEq, Int.reduceBNe, cC, cFd, cP, List.replicate_succ, List.replicate_zero, List.flatten_cons, List.flatten_nil, List.cons_append, List.nil_append, List.set_cons_zero, List.set_cons_succ, List.length_cons, List.length_nil, List.length_set])
            | (refine Br.mk (fun h => ?_) (fun h => ?_) <;> simp -dsimp only [go_sem, reduceIte, reduceCtorEq, Nat.reduceEqDiff, Nat.reduceLT, Nat.reduceLeDiff, Nat.reduceAdd, Nat.reduceMul, Nat.reduceSub, Int.reduceToNat, Int.reduceNeg, h, hm, hm2, hw, hko, hap, hE, Int.reduceBEq, Int.reduceBNe, cC, cFd, cP, List.replicate_succ, List.replicate_zero, List.flatten_cons, List.flatten_nil, List.cons_append, List.nil_append, List.set_cons_zero, List.set_cons_succ, List.length_cons, List.length_nil, List.length_set])
            | (refine CallK.flat (by first | exact NC) rfl ?_; simp -dsimp only [go_sem, reduceIte, reduceCtorEq, Nat.reduceEqDiff, Nat.reduceLT, Nat.reduceLeDiff, Nat.reduceAdd, Nat.reduceMul, Nat.reduceSub, Int.reduceToNat, Int.reduceNeg, hm, hm2, hw, hko, hap, hE, Int.reduceBEq, Int.reduceBNe, cC, cFd, cP, List.replicate_succ, List.replicate_zero, List.flatten_cons, List.flatten_nil, List.cons_append, List.nil_append, List.set_cons_zero, List.set_cons_succ, List.length_cons, List.length_nil, List.length_set])
            | (refine CallK.pure (by first | exact NC) ?_; simp -dsimp only [go_sem, reduceIte, reduceCtorEq, Nat.reduceEqDiff, Nat.reduceLT, Nat.reduceLeDiff, Nat.reduceAdd, Nat.reduceMul, Nat.reduceSub, Int.reduceToNat, Int.reduceNeg, hm, hm2, hw, hko, hap, hE, Int.reduceBEq, Int.reduceBNe, cC, cFd, cP, List.replicate_succ, List.replicate_zero, List.flatten_cons, List.flatten_nil, List.cons_append, List.nil_append, List.set_cons_zero, List.set_cons_succ, List.length_cons, List.length_nil, List.length_set])
            | (refine And.intro (by first | rfl | omega | decide | exact ⟨by omega, by omega⟩ | exact ⟨rfl, by omega, by omega⟩ | (refine ⟨?_, ?_⟩ <;> (first | rfl | omega | decide | exact ⟨by omega, by omega⟩ | exact ⟨rfl, by omega, by omega⟩)) | (refine ⟨?_, ?_, ?_⟩ <;> (first | rfl | omega | decide | exact ⟨by omega, by omega⟩ | exact ⟨rfl, by omega, by omega⟩)) | (refine ⟨?_, ?_, ?_, ?_⟩ <;> (first | rfl | omega | decide | exact ⟨by omega, by omega⟩ | exact ⟨rfl, by omega, by omega⟩))) ?_; try simp -dsimp only [go_sem, reduceIte, reduceCtorEq, Nat.reduceEqDiff, Nat.reduceLT, Nat.reduceLeDiff, Nat.reduceAdd, Nat.reduceMul, Nat.reduceSub, Int.reduceToNat, Int.reduceNeg, hm, hm2, hw, hko, hap, hE, Int.reduceBEq, Int.reduceBNe, cC, cFd, cP, List.replicate_succ, List.replicate_zero, List.flatten_cons, List.flatten_nil, List.cons_append, List.nil_append, List.set_cons_zero, List.set_cons_succ, List.length_cons, List.length_nil, List.length_set])
            | fail)

          all_goals first | omega | (exact ⟨⟨(i + 1, ()), by first | omega | simp | exact ⟨by omega, by omega⟩, trivial⟩, by simp [Vs.LeL, Vs.look, Vs.hlook, Vs.sput, Vs.sputs, Vs.hset, Vs.hputs, hln, Vs.rnL, Vs.rn, Vs.nmF, Vs.scr, Vs.AV.has], by simp only; omega⟩) | trace_state
        · rw [hq] at hfs hko
          have hsame : flt (offT fr to s) (l.take (i + 1)) = flt (offT fr to s) (l.take i) := by rw [hfs]; simp
          simp -dsimp only [go_sem, reduceIte, reduceCtorEq, Nat.reduceEqDiff, Nat.reduceLT, Nat.reduceLeDiff, Nat.reduceAdd, Nat.reduceMul, Nat.reduceSub, Int.reduceToNat, Int.reduceNeg, hm, hm2, hw, hko, Int.reduceBEq, Int.reduceBNe, cC, cFd, cP, List.replicate_succ, List.replicate_zero, List.flatten_cons, List.flatten_nil, List.cons_append, List.nil_append, List.set_cons_zero, List.set_cons_succ, List.length_cons, List.length_nil, List.length_set]
          repeat' (first
            | (refine RgK.mk rfl ?_; simp -dsimp only [go_sem, reduceIte, reduceCtorEq, Nat.reduceEqDiff, Nat.reduceLT, Nat.reduceLeDiff, Nat.reduceAdd, Nat.reduceMul, Nat.reduceSub, Int.reduceToNat, Int.reduceNeg, hm, hm2, hw, hko, Int.reduceBEq, Int.reduceBNe, cC, cFd, cP, List.replicate_succ, List.replicate_zero, List.flatten_cons, List.flatten_nil, List.cons_append, List.nil_append, List.set_cons_zero, List.set_cons_succ, List.length_cons, List.length_nil, List.length_set])
            | (refine Br.mk (fun h => ?_) (fun h => ?_) <;> simp -dsimp only [go_sem, reduceIte, reduceCtorEq, Nat.reduceEqDiff, Nat.reduceLT, Nat.reduceLeDiff, Nat.reduceAdd, Nat.reduceMul, Nat.reduceSub, Int.reduceToNat, Int.reduceNeg, h, hm, hm2, hw, hko, Int.reduceBEq, Int.reduceBNe, cC, cFd, cP, List.replicate_succ, List.replicate_zero, List.flatten_cons, List.flatten_nil, List.cons_append, List.nil_append, List.set_cons_zero, List.set_cons_succ, List.length_cons, List.length_nil, List.length_set])
            | (refine And.intro (by first | rfl | omega | decide | exact ⟨by omega, by omega⟩ | exact ⟨rfl, by omega, by omega⟩ | (refine ⟨?_, ?_⟩ <;> (first | rfl | omega | decide | exact ⟨by omega, by omega⟩ | exact ⟨rfl, by omega, by omega⟩)) | (refine ⟨?_, ?_, ?_⟩ <;> (first | rfl | omega | decide | exact ⟨by omega, by omega⟩ | exact ⟨rfl, by omega, by omega⟩)) | (refine ⟨?_, ?_, ?_, ?_⟩ <;> (first | rfl | omega | decide | exact ⟨by omega, by omega⟩ | exact ⟨rfl, by omega, by omega⟩))) ?_; try simp -dsimp only [go_sem, reduceIte, reduceCtorEq, Nat.reduceEqDiff, Nat.reduceLT, Nat.reduceLeDiff, Nat.reduceAdd, Nat.reduceMul, Nat.reduceSub, Int.reduceToNat, Int.reduceNeg, hm, hm2, hw, hko, Int.reduceBEq, Int.reduceBNe, cC, cFd, cP, List.replicate_succ, List.replicate_zero, List.flatten_cons, List.flatten_nil, List.cons_append, List.nil_append, List.set_cons_zero, List.set_cons_succ, List.length_cons, List.length_nil, List.length_set])
            | fail)

          all_goals first | omega | (exact ⟨⟨(i + 1, ()), by first | omega | simp | exact ⟨by omega, by omega⟩, trivial⟩, by simp [Vs.LeL, Vs.look, Vs.hlook, Vs.sput, Vs.sputs, Vs.hset, Vs.hputs, hsame, Vs.rnL, Vs.rn, Vs.nmF, Vs.scr, Vs.AV.has], by simp only; omega⟩) | trace_state
      · have hge : i = l.length := by
          have : ¬ i < l.length := by first | (simpa using hc) | (simp at hc; omega)
          omega
        subst hge
        simp -dsimp only [go_sem, reduceIte, reduceCtorEq, Nat.reduceEqDiff, Nat.reduceLT, Nat.reduceLeDiff, Nat.reduceAdd, Nat.reduceMul, Nat.reduceSub, Int.reduceToNat, Int.reduceNeg, Int.reduceBEq, Int.reduceBNe, cC, cFd, cP, List.replicate_succ, List.replicate_zero, List.flatten_cons, List.flatten_nil, List.cons_append, List.nil_append, List.set_cons_zero, List.set_cons_succ, List.length_cons, List.length_nil, List.length_set, hkl, E_len]
        have htk : (E cC (flt (offT fr to s) (l.take l.length))).take (flt (offT fr to s) (l.take l.length)).length = E cC (flt (offT fr to s) l) := by
          rw [List.take_length]; exact List.take_of_length_le (by rw [E_len]; exact Nat.le_refl _)
        first | (rw [htk]; exact ⟨⟨_, _, rfl, rfl⟩, fun h => h rfl⟩) | (rw [List.take_length]; exact ⟨⟨_, _, rfl, rfl⟩, fun h => h rfl⟩) | trace_state
  · have e0 : (selC fr to s l != 0) = true := by simp [h0]
    rw [show selV fr to s l = .v (.slice none 0 0) by simp [selV, h0]]
    rw [show askV fr to s l = .v (.slice none 0 0) by simp [askV, h0]] at AK
    generalize selC fr to s l = c at *
    refine Cd.spec_SelectEqual_ok.fn0 Try.mixed Cd.spec_SelectEqual_nt Cd.spec_SelectEqual_rs rfl fun X => ?_
    unfold Cd.spec_SelectEqual
    simp -dsimp only [go_sem, reduceIte, reduceCtorEq, Nat.reduceEqDiff, Nat.reduceLT, Nat.reduceLeDiff, Nat.reduceAdd, Nat.reduceMul, Nat.reduceSub, Int.reduceToNat, Int.reduceNeg, Int.reduceBEq, Int.reduceBNe, cC, cFd, cP, List.replicate_succ, List.replicate_zero, List.flatten_cons, List.flatten_nil, List.cons_append, List.nil_append, List.set_cons_zero, List.set_cons_succ, List.length_cons, List.length_nil, List.length_set, e0]
    repeat' (first
      | (refine RgK.mk rfl ?_; simp -dsimp only [go_sem, reduceIte, reduceCtorEq, Nat.reduceEqDiff, Nat.reduceLT, Nat.reduceLeDiff, Nat.reduceAdd, Nat.reduceMul, Nat.reduceSub, Int.reduceToNat, Int.reduceNeg, Int.reduceBEq, Int.reduceBNe, cC, cFd, cP, List.replicate_succ, List.replicate_zero, List.flatten_cons, List.flatten_nil, List.cons_append, List.nil_append, List.set_cons_zero, List.set_cons_succ, List.length_cons, List.length_nil, List.length_set, e0])
      | (refine Br.mk (fun h => ?_) (fun h => ?_) <;> simp -dsimp only [go_sem, reduceIte, reduceCtorEq, Nat.reduceEqDiff, Nat.reduceLT, Nat.reduceLeDiff, Nat.reduceAdd, Nat.reduceMul, Nat.reduceSub, Int.reduceToNat, Int.reduceNeg, h, Int.reduceBEq, Int.reduceBNe, cC, cFd, cP, List.replicate_succ, List.replicate_zero, List.flatten_cons, List.flatten_nil, List.cons_append, List.nil_append, List.set_cons_zero, List.set_cons_succ, List.length_cons, List.length_nil, List.length_set, e0])
      | (refine CallK.flat (by first | exact AK) rfl ?_; simp -dsimp only [go_sem, reduceIte, reduceCtorEq, Nat.reduceEqDiff, Nat.reduceLT, Nat.reduceLeDiff, Nat.reduceAdd, Nat.reduceMul, Nat.reduceSub, Int.reduceToNat, Int.reduceNeg, Int.reduceBEq, Int.reduceBNe, cC, cFd, cP, List.replicate_succ, List.replicate_zero, List.flatten_cons, List.flatten_nil, List.cons_append, List.nil_append, List.set_cons_zero, List.set_cons_succ, List.length_cons, List.length_nil, List.length_set, e0])
      | (refine CallK.pure (by first | exact AK) ?_; simp -dsimp only [go_sem, reduceIte, reduceCtorEq, Nat.reduceEqDiff, Nat.reduceLT, Nat.reduceLeDiff, Nat.reduceAdd, Nat.reduceMul, Nat.reduceSub, Int.reduceToNat, Int.reduceNeg, Int.reduceBEq, Int.reduceBNe, cC, cFd, cP, List.replicate_succ, List.replicate_zero, List.flatten_cons, List.flatten_nil, List.cons_append, List.nil_append, List.set_cons_zero, List.set_cons_succ, List.length_cons, List.length_nil, List.length_set, e0])
      | (refine And.intro (by first | rfl | omega | decide | (refine ⟨?_, ?_⟩ <;> (first | rfl | omega | decide)) | (refine ⟨?_, ?_, ?_⟩ <;> (first | rfl | omega | decide)) | (refine ⟨?_, ?_, ?_, ?_⟩ <;> (first | rfl | omega | decide))) ?_; try simp -dsimp only [go_sem, reduceIte, reduceCtorEq, Nat.reduceEqDiff, Nat.reduceLT, Nat.reduceLeDiff, Nat.reduceAdd, Nat.reduceMul, Nat.reduceSub, Int.reduceToNat, Int.reduceNeg, Int.reduceBEq, Int.reduceBNe, cC, cFd, cP, List.replicate_succ, List.replicate_zero, List.flatten_cons, List.flatten_nil, List.cons_append, List.nil_append, List.set_cons_zero, List.set_cons_succ, List.length_cons, List.length_nil, List.length_set, e0])
      | fail)
    all_goals first | exact ⟨_, _, rfl, rfl⟩ | trace_state

theorem wid_in {l : List (List Int)} (hd : deckB l = true) : inB (widB l) 1 20 = true := by
  by_cases h0 : l.length = 0
  · unfold widB; rw [if_pos h0]; rfl
  · have hd2 := hd
    simp only [deckB, Bool.and_eq_true, List.all_eq_true, decide_eq_true_eq] at hd2
    have hm : l.getD 0 [] ∈ l := by rw [show l.getD 0 [] = l[0]'(by omega) by simp [List.getD, (by omega : 0 < l.length)]]; exact List.getElem_mem _
    have := (hd2.1 _ hm).1
    simp only [cardB, inB, Bool.and_eq_true, decide_eq_true_eq] at this
    unfold widB
    rw [if_neg h0]
    simp only [inB, Bool.and_eq_true, decide_eq_true_eq]
    omega
theorem cfC_lc (x : Spc) (l : List (List Int)) : cfC x l = if lcC x l = 0 then (if noText x.text then 0 else selC x.w0 x.w1 x.text l) else lcC x l := by
  unfold cfC lcC
  cases hd : deckB l
  · simp
  · rw [wid_in hd]
    cases hs : spcB x (widB l) <;> simp
theorem l16Cards (x : Spc) (l : List (List Int)) (hk : smallC l) (hz : x.text.size ≤ 1048576) : Vs.Fn Try.prog F.spec_l16Cards [] [.ro (cP x), .sl 1 (E cC l)] (.tup [cfV x l, .v (.int .i64 (cfC x l))]) [] := by
  have LC := l16Code x l hk hz
  have CP := l02Copy l hk
  have SE := spec_SelectEqual l x.w0 x.w1 x.text hk hz
  have hcc := cfC_lc x l
  by_cases h0 : lcC x l = 0
  · rw [h0] at LC
    rw [if_pos h0] at hcc
    cases hn : noText x.text
    · rw [hn] at hcc
      simp only [Bool.false_eq_true, if_false] at hcc
      have hV : cfV x l = selV x.w0 x.w1 x.text l := by unfold cfV selV cfL; rw [hcc, hn]; rfl
      have hv2 : selV x.w0 x.w1 x.text l = .sl 1 (E cC (flt (offT x.w0 x.w1 x.text) l)) ∨ selV x.w0 x.w1 x.text l = .v (.slice none 0 0) := by unfold selV; split <;> simp
      rw [hcc, hV]
      unfold noText at hn
      rcases hv2 with hv2 | hv2 <;> rw [hv2] at SE ⊢
      all_goals
        refine Cd.spec_l16Cards_ok.fn0 Try.mixed Cd.spec_l16Cards_nt Cd.spec_l16Cards_rs rfl fun X => ?_
        unfold Cd.spec_l16Cards
        simp -dsimp only [go_sem, reduceIte, reduceCtorEq, Nat.reduceEqDiff, Nat.reduceLT, Nat.reduceLeDiff, Nat.reduceAdd, Nat.reduceMul, Nat.reduceSub, Int.reduceToNat, Int.reduceNeg, Int.reduceBEq, Int.reduceBNe, cC, cFd, cP, List.replicate_succ, List.replicate_zero, List.flatten_cons, List.flatten_nil, List.cons_append, List.nil_append, List.set_cons_zero, List.set_cons_succ, List.length_cons, List.length_nil, List.length_set, hn]
        repeat' (first
          | (refine RgK.mk rfl ?_; simp -dsimp only [go_sem, reduceIte, reduceCtorEq, Nat.reduceEqDiff, Nat.reduceLT, Nat.reduceLeDiff, Nat.reduceAdd, Nat.reduceMul, Nat.reduceSub, Int.reduceToNat, Int.reduceNeg, Int.reduceBEq, Int.reduceBNe, cC, cFd, cP, List.replicate_succ, List.replicate_zero, List.flatten_cons, List.flatten_nil, List.cons_append, List.nil_append, List.set_cons_zero, List.set_cons_succ, List.length_cons, List.length_nil, List.length_set, hn])
          | (refine Br.mk (fun h => ?_) (fun h => ?_) <;> simp -dsimp only [go_sem, reduceIte, reduceCtorEq, Nat.reduceEqDiff, Nat.reduceLT, Nat.reduceLeDiff, Nat.reduceAdd, Nat.reduceMul, Nat.reduceSub, Int.reduceToNat, Int.reduceNeg, h, Int.reduceBEq, Int.reduceBNe, cC, cFd, cP, List.replicate_succ, List.replicate_zero, List.flatten_cons, List.flatten_nil, List.cons_append, List.nil_append, List.set_cons_zero, List.set_cons_succ, List.length_cons, List.length_nil, List.length_set, hn])
          | (refine CallK.flat (by first | exact LC | exact SE) rfl ?_; simp -dsimp only [go_sem, reduceIte, reduceCtorEq, Nat.reduceEqDiff, Nat.reduceLT, Nat.reduceLeDiff, Nat.reduceAdd, Nat.reduceMul, Nat.reduceSub, Int.reduceToNat, Int.reduceNeg, Int.reduceBEq, Int.reduceBNe, cC, cFd, cP, List.replicate_succ, List.replicate_zero, List.flatten_cons, List.flatten_nil, List.cons_append, List.nil_append, List.set_cons_zero, List.set_cons_succ, List.length_cons, List.length_nil, List.length_set, hn])
          | (refine CallK.pure (by first | exact LC | exact SE) ?_; simp -dsimp only [go_sem, reduceIte, reduceCtorEq, Nat.reduceEqDiff, Nat.reduceLT, Nat.reduceLeDiff, Nat.reduceAdd, Nat.reduceMul, Nat.reduceSub, Int.reduceToNat, Int.reduceNeg, Int.reduceBEq, Int.reduceBNe, cC, cFd, cP, List.replicate_succ, List.replicate_zero, List.flatten_cons, List.flatten_nil, List.cons_append, List.nil_append, List.set_cons_zero, List.set_cons_succ, List.length_cons, List.length_nil, List.length_set, hn])
          | (refine And.intro (by first | rfl | omega | decide | (refine ⟨?_, ?_⟩ <;> (first | rfl | omega | decide)) | (refine ⟨?_, ?_, ?_⟩ <;> (first | rfl | omega | decide)) | (refine ⟨?_, ?_, ?_, ?_⟩ <;> (first | rfl | omega | decide))) ?_; try simp -dsimp only [go_sem, reduceIte, reduceCtorEq, Nat.reduceEqDiff, Nat.reduceLT, Nat.reduceLeDiff, Nat.reduceAdd, Nat.reduceMul, Nat.reduceSub, Int.reduceToNat, Int.reduceNeg, Int.reduceBEq, Int.reduceBNe, cC, cFd, cP, List.replicate_succ, List.replicate_zero, List.flatten_cons, List.flatten_nil, List.cons_append, List.nil_append, List.set_cons_zero, List.set_cons_succ, List.length_cons, List.length_nil, List.length_set, hn])
          | fail)
        all_goals first | exact ⟨_, _, rfl, rfl⟩ | trace_state
    · rw [hn] at hcc
      simp only [if_true] at hcc
      have hV : cfV x l = .sl 1 (E cC l) := by unfold cfV cfL; rw [hcc, hn]; rfl
      rw [hcc, hV]
      unfold noText at hn
      refine Cd.spec_l16Cards_ok.fn0 Try.mixed Cd.spec_l16Cards_nt Cd.spec_l16Cards_rs rfl fun X => ?_
      unfold Cd.spec_l16Cards
      simp -dsimp only [go_sem, reduceIte, reduceCtorEq, Nat.reduceEqDiff, Nat.reduceLT, Nat.reduceLeDiff, Nat.reduceAdd, Nat.reduceMul, Nat.reduceSub, Int.reduceToNat, Int.reduceNeg, Int.reduceBEq, Int.reduceBNe, cC, cFd, cP, List.replicate_succ, List.replicate_zero, List.flatten_cons, List.flatten_nil, List.cons_append, List.nil_append, List.set_cons_zero, List.set_cons_succ, List.length_cons, List.length_nil, List.length_set, hn]
      repeat' (first
        | (refine RgK.mk rfl ?_; simp -dsimp only [go_sem, reduceIte, reduceCtorEq, Nat.reduceEqDiff, Nat.reduceLT, Nat.reduceLeDiff, Nat.reduceAdd, Nat.reduceMul, Nat.reduceSub, Int.reduceToNat, Int.reduceNeg, Int.reduceBEq, Int.reduceBNe, cC, cFd, cP, List.replicate_succ, List.replicate_zero, List.flatten_cons, List.flatten_nil, List.cons_append, List.nil_append, List.set_cons_zero, List.set_cons_succ, List.length_cons, List.length_nil, List.length_set, hn])
        | (refine Br.mk (fun h => ?_) (fun h => ?_) <;> simp -dsimp only [go_sem, reduceIte, reduceCtorEq, Nat.reduceEqDiff, Nat.reduceLT, Nat.reduceLeDiff, Nat.reduceAdd, Nat.reduceMul, Nat.reduceSub, Int.reduceToNat, Int.reduceNeg, h, Int.reduceBEq, Int.reduceBNe, cC, cFd, cP, List.replicate_succ, List.replicate_zero, List.flatten_cons, List.flatten_nil, List.cons_append, List.nil_append, List.set_cons_zero, List.set_cons_succ, List.length_cons, List.length_nil, List.length_set, hn])
        | (refine CallK.flat (by first | exact LC | exact CP) rfl ?_; simp -dsimp only [go_sem, reduceIte, reduceCtorEq, Nat.reduceEqDiff, Nat.reduceLT, Nat.reduceLeDiff, Nat.reduceAdd, Nat.reduceMul, Nat.reduceSub, Int.reduceToNat, Int.reduceNeg, Int.reduceBEq, Int.reduceBNe, cC, cFd, cP, List.replicate_succ, List.replicate_zero, List.flatten_cons, List.flatten_nil, List.cons_append, List.nil_append, List.set_cons_zero, List.set_cons_succ, List.length_cons, List.length_nil, List.length_set, hn])
        | (refine CallK.pure (by first | exact LC | exact CP) ?_; simp -dsimp only [go_sem, reduceIte, reduceCtorEq, Nat.reduceEqDiff, Nat.reduceLT, Nat.reduceLeDiff, Nat.reduceAdd, Nat.reduceMul, Nat.reduceSub, Int.reduceToNat, Int.reduceNeg, Int.reduceBEq, Int.reduceBNe, cC, cFd, cP, List.replicate_succ, List.replicate_zero, List.flatten_cons, List.flatten_nil, List.cons_append, List.nil_append, List.set_cons_zero, List.set_cons_succ, List.length_cons, List.length_nil, List.length_set, hn])
        | (refine And.intro (by first | rfl | omega | decide | (refine ⟨?_, ?_⟩ <;> (first | rfl | omega | decide)) | (refine ⟨?_, ?_, ?_⟩ <;> (first | rfl | omega | decide)) | (refine ⟨?_, ?_, ?_, ?_⟩ <;> (first | rfl | omega | decide))) ?_; try simp -dsimp only [go_sem, reduceIte, reduceCtorEq, Nat.reduceEqDiff, Nat.reduceLT, Nat.reduceLeDiff, Nat.reduceAdd, Nat.reduceMul, Nat.reduceSub, Int.reduceToNat, Int.reduceNeg, Int.reduceBEq, Int.reduceBNe, cC, cFd, cP, List.replicate_succ, List.replicate_zero, List.flatten_cons, List.flatten_nil, List.cons_append, List.nil_append, List.set_cons_zero, List.set_cons_succ, List.length_cons, List.length_nil, List.length_set, hn])
        | fail)
      all_goals first | exact ⟨_, _, rfl, rfl⟩ | trace_state
  · rw [if_neg h0] at hcc
    have e0 : (lcC x l != 0) = true := by simp [h0]
    have hV : cfV x l = .v (.slice none 0 0) := by unfold cfV; rw [hcc, if_neg h0]
    rw [hV, hcc]
    generalize lcC x l = c at *
    refine Cd.spec_l16Cards_ok.fn0 Try.mixed Cd.spec_l16Cards_nt Cd.spec_l16Cards_rs rfl fun X => ?_
    unfold Cd.spec_l16Cards
    simp -dsimp only [go_sem, reduceIte, reduceCtorEq, Nat.reduceEqDiff, Nat.reduceLT, Nat.reduceLeDiff, Nat.reduceAdd, Nat.reduceMul, Nat.reduceSub, Int.reduceToNat, Int.reduceNeg, Int.reduceBEq, Int.reduceBNe, cC, cFd, cP, List.replicate_succ, List.replicate_zero, List.flatten_cons, List.flatten_nil, List.cons_append, List.nil_append, List.set_cons_zero, List.set_cons_succ, List.length_cons, List.length_nil, List.length_set, e0]
    repeat' (first
      | (refine RgK.mk rfl ?_; simp -dsimp only [go_sem, reduceIte, reduceCtorEq, Nat.reduceEqDiff, Nat.reduceLT, Nat.reduceLeDiff, Nat.reduceAdd, Nat.reduceMul, Nat.reduceSub, Int.reduceToNat, Int.reduceNeg, Int.reduceBEq, Int.reduceBNe, cC, cFd, cP, List.replicate_succ, List.replicate_zero, List.flatten_cons, List.flatten_nil, List.cons_append, List.nil_append, List.set_cons_zero, List.set_cons_succ, List.length_cons, List.length_nil, List.length_set, e0])
      | (refine Br.mk (fun h => ?_) (fun h => ?_) <;> simp -dsimp only [go_sem, reduceIte, reduceCtorEq, Nat.reduceEqDiff, Nat.reduceLT, Nat.reduceLeDiff, Nat.reduceAdd, Nat.reduceMul, Nat.reduceSub, Int.reduceToNat, Int.reduceNeg, h, Int.reduceBEq, Int.reduceBNe, cC, cFd, cP, List.replicate_succ, List.replicate_zero, List.flatten_cons, List.flatten_nil, List.cons_append, List.nil_append, List.set_cons_zero, List.set_cons_succ, List.length_cons, List.length_nil, List.length_set, e0])
      | (refine CallK.flat (by first | exact LC) rfl ?_; simp -dsimp only [go_sem, reduceIte, reduceCtorEq, Nat.reduceEqDiff, Nat.reduceLT, Nat.reduceLeDiff, Nat.reduceAdd, Nat.reduceMul, Nat.reduceSub, Int.reduceToNat, Int.reduceNeg, Int.reduceBEq, Int.reduceBNe, cC, cFd, cP, List.replicate_succ, List.replicate_zero, List.flatten_cons, List.flatten_nil, List.cons_append, List.nil_append, List.set_cons_zero, List.set_cons_succ, List.length_cons, List.length_nil, List.length_set, e0])
      | (refine CallK.pure (by first | exact LC) ?_; simp -dsimp only [go_sem, reduceIte, reduceCtorEq, Nat.reduceEqDiff, Nat.reduceLT, Nat.reduceLeDiff, Nat.reduceAdd, Nat.reduceMul, Nat.reduceSub, Int.reduceToNat, Int.reduceNeg, Int.reduceBEq, Int.reduceBNe, cC, cFd, cP, List.replicate_succ, List.replicate_zero, List.flatten_cons, List.flatten_nil, List.cons_append, List.nil_append, List.set_cons_zero, List.set_cons_succ, List.length_cons, List.length_nil, List.length_set, e0])
      | (refine And.intro (by first | rfl | omega | decide | (refine ⟨?_, ?_⟩ <;> (first | rfl | omega | decide)) | (refine ⟨?_, ?_, ?_⟩ <;> (first | rfl | omega | decide)) | (refine ⟨?_, ?_, ?_, ?_⟩ <;> (first | rfl | omega | decide))) ?_; try simp -dsimp only [go_sem, reduceIte, reduceCtorEq, Nat.reduceEqDiff, Nat.reduceLT, Nat.reduceLeDiff, Nat.reduceAdd, Nat.reduceMul, Nat.reduceSub, Int.reduceToNat, Int.reduceNeg, Int.reduceBEq, Int.reduceBNe, cC, cFd, cP, List.replicate_succ, List.replicate_zero, List.flatten_cons, List.flatten_nil, List.cons_append, List.nil_append, List.set_cons_zero, List.set_cons_succ, List.length_cons, List.length_nil, List.length_set, e0])
      | fail)
    all_goals first | exact ⟨_, _, rfl, rfl⟩ | trace_state

theorem spec_CardsFor (x : Spc) (l : List (List Int)) (hk : smallC l) (hz : x.text.size ≤ 1048576) : Vs.Fn Try.prog F.spec_CardsFor [] [.agg (cP x), .sl 1 (E cC l)] (.tup [cfV x l, .v (.int .i64 (cfC x l))]) [] := by
  have H := l16Cards x l hk hz
  have hv : cfV x l = .sl 1 (E cC (cfL x l)) ∨ cfV x l = .v (.slice none 0 0) := by unfold cfV; split <;> simp
  rcases hv with hv | hv <;> rw [hv] at H ⊢
  all_goals
    generalize cfC x l = c at *
    refine Cd.spec_CardsFor_ok.fn0 Try.mixed Cd.spec_CardsFor_nt Cd.spec_CardsFor_rs rfl fun X => ?_
    unfold Cd.spec_CardsFor
    simp -dsimp only [go_sem, reduceIte, reduceCtorEq, Nat.reduceEqDiff, Nat.reduceLT, Nat.reduceLeDiff, Nat.reduceAdd, Nat.reduceMul, Nat.reduceSub, Int.reduceToNat, Int.reduceNeg, Int.reduceBEq, Int.reduceBNe, cC, cFd, cP, List.replicate_succ, List.replicate_zero, List.flatten_cons, List.flatten_nil, List.cons_append, List.nil_append, List.set_cons_zero, List.set_cons_succ, List.length_cons, List.length_nil, List.length_set]
    repeat' (first
      | (refine RgK.mk rfl ?_; simp -dsimp only [go_sem, reduceIte, reduceCtorEq, Nat.reduceEqDiff, Nat.reduceLT, Nat.reduceLeDiff, Nat.reduceAdd, Nat.reduceMul, Nat.reduceSub, Int.reduceToNat, Int.reduceNeg, Int.reduceBEq, Int.reduceBNe, cC, cFd, cP, List.replicate_succ, List.replicate_zero, List.flatten_cons, List.flatten_nil, List.cons_append, List.nil_append, List.set_cons_zero, List.set_cons_succ, List.length_cons, List.length_nil, List.length_set])
      | (refine Br.mk (fun h => ?_) (fun h => ?_) <;> simp -dsimp only [go_sem, reduceIte, reduceCtorEq, Nat.reduceEqDiff, Nat.reduceLT, Nat.reduceLeDiff, Nat.reduceAdd, Nat.reduceMul, Nat.reduceSub, Int.reduceToNat, Int.reduceNeg, h, Int.reduceBEq, Int.reduceBNe, cC, cFd, cP, List.replicate_succ, List.replicate_zero, List.flatten_cons, List.flatten_nil, List.cons_append, List.nil_append, List.set_cons_zero, List.set_cons_succ, List.length_cons, List.length_nil, List.length_set])
      | (refine CallK.flat (by first | exact H) rfl ?_; simp -dsimp only [go_sem, reduceIte, reduceCtorEq, Nat.reduceEqDiff, Nat.reduceLT, Nat.reduceLeDiff, Nat.reduceAdd, Nat.reduceMul, Nat.reduceSub, Int.reduceToNat, Int.reduceNeg, Int.reduceBEq, Int.reduceBNe, cC, cFd, cP, List.replicate_succ, List.replicate_zero, List.flatten_cons, List.flatten_nil, List.cons_append, List.nil_append, List.set_cons_zero, List.set_cons_succ, List.length_cons, List.length_nil, List.length_set])
      | (refine CallK.pure (by first | exact H) ?_; simp -dsimp only [go_sem, reduceIte, reduceCtorEq, Nat.reduceEqDiff, Nat.reduceLT, Nat.reduceLeDiff, Nat.reduceAdd, Nat.reduceMul, Nat.reduceSub, Int.reduceToNat, Int.reduceNeg, Int.reduceBEq, Int.reduceBNe, cC, cFd, cP, List.replicate_succ, List.replicate_zero, List.flatten_cons, List.flatten_nil, List.cons_append, List.nil_append, List.set_cons_zero, List.set_cons_succ, List.length_cons, List.length_nil, List.length_set])
      | (refine And.intro (by first | rfl | omega | decide | (refine ⟨?_, ?_⟩ <;> (first | rfl | omega | decide)) | (refine ⟨?_, ?_, ?_⟩ <;> (first | rfl | omega | decide)) | (refine ⟨?_, ?_, ?_, ?_⟩ <;> (first | rfl | omega | decide))) ?_; try simp -dsimp only [go_sem, reduceIte, reduceCtorEq, Nat.reduceEqDiff, Nat.reduceLT, Nat.reduceLeDiff, Nat.reduceAdd, Nat.reduceMul, Nat.reduceSub, Int.reduceToNat, Int.reduceNeg, Int.reduceBEq, Int.reduceBNe, cC, cFd, cP, List.replicate_succ, List.replicate_zero, List.flatten_cons, List.flatten_nil, List.cons_append, List.nil_append, List.set_cons_zero, List.set_cons_succ, List.length_cons, List.length_nil, List.length_set])
      | fail)
    all_goals first | exact ⟨_, _, rfl, rfl⟩ | trace_state

theorem impl_CardsFor (x : Spc) (l : List (List Int)) (hk : smallC l) (hz : x.text.size ≤ 1048576) : Vs.Fn Try.prog F.impl_CardsFor [] [.agg (cP x), .sl 1 (E cC l)] (.tup [cfV x l, .v (.int .i64 (cfC x l))]) [] := by
  have H := cardsFor x l hk hz
  have hv : cfV x l = .sl 1 (E cC (cfL x l)) ∨ cfV x l = .v (.slice none 0 0) := by unfold cfV; split <;> simp
  rcases hv with hv | hv <;> rw [hv] at H ⊢
  all_goals
    generalize cfC x l = c at *
    refine Cd.impl_CardsFor_ok.fn0 Try.mixed Cd.impl_CardsFor_nt Cd.impl_CardsFor_rs rfl fun X => ?_
    unfold Cd.impl_CardsFor
    simp -dsimp only [go_sem, reduceIte, reduceCtorEq, Nat.reduceEqDiff, Nat.reduceLT, Nat.reduceLeDiff, Nat.reduceAdd, Nat.reduceMul, Nat.reduceSub, Int.reduceToNat, Int.reduceNeg, Int.reduceBEq, Int.reduceBNe, cC, cFd, cP, List.replicate_succ, List.replicate_zero, List.flatten_cons, List.flatten_nil, List.cons_append, List.nil_append, List.set_cons_zero, List.set_cons_succ, List.length_cons, List.length_nil, List.length_set]
    repeat' (first
      | (refine RgK.mk rfl ?_; simp -dsimp only [go_sem, reduceIte, reduceCtorEq, Nat.reduceEqDiff, Nat.reduceLT, Nat.reduceLeDiff, Nat.reduceAdd, Nat.reduceMul, Nat.reduceSub, Int.reduceToNat, Int.reduceNeg, Int.reduceBEq, Int.reduceBNe, cC, cFd, cP, List.replicate_succ, List.replicate_zero, List.flatten_cons, List.flatten_nil, List.cons_append, List.nil_append, List.set_cons_zero, List.set_cons_succ, List.length_cons, List.length_nil, List.length_set])
      | (refine Br.mk (fun h => ?_) (fun h => ?_) <;> simp -dsimp only [go_sem, reduceIte, reduceCtorEq, Nat.reduceEqDiff, Nat.reduceLT, Nat.reduceLeDiff, Nat.reduceAdd, Nat.reduceMul, Nat.reduceSub, Int.reduceToNat, Int.reduceNeg, h, Int.reduceBEq, Int.reduceBNe, cC, cFd, cP, List.replicate_succ, List.replicate_zero, List.flatten_cons, List.flatten_nil, List.cons_append, List.nil_append, List.set_cons_zero, List.set_cons_succ, List.length_cons, List.length_nil, List.length_set])
      | (refine CallK.flat (by first | exact H) rfl ?_; simp -dsimp only [go_sem, reduceIte, reduceCtorEq, Nat.reduceEqDiff, Nat.reduceLT, Nat.reduceLeDiff, Nat.reduceAdd, Nat.reduceMul, Nat.reduceSub, Int.reduceToNat, Int.reduceNeg, Int.reduceBEq, Int.reduceBNe, cC, cFd, cP, List.replicate_succ, List.replicate_zero, List.flatten_cons, List.flatten_nil, List.cons_append, List.nil_append, List.set_cons_zero, List.set_cons_succ, List.length_cons, List.length_nil, List.length_set])
      | (refine CallK.pure (by first | exact H) ?_; simp -dsimp only [go_sem, reduceIte, reduceCtorEq, Nat.reduceEqDiff, Nat.reduceLT, Nat.reduceLeDiff, Nat.reduceAdd, Nat.reduceMul, Nat.reduceSub, Int.reduceToNat, Int.reduceNeg, Int.reduceBEq, Int.reduceBNe, cC, cFd, cP, List.replicate_succ, List.replicate_zero, List.flatten_cons, List.flatten_nil, List.cons_append, List.nil_append, List.set_cons_zero, List.set_cons_succ, List.length_cons, List.length_nil, List.length_set])
      | (refine And.intro (by first | rfl | omega | decide | (refine ⟨?_, ?_⟩ <;> (first | rfl | omega | decide)) | (refine ⟨?_, ?_, ?_⟩ <;> (first | rfl | omega | decide)) | (refine ⟨?_, ?_, ?_, ?_⟩ <;> (first | rfl | omega | decide))) ?_; try simp -dsimp only [go_sem, reduceIte, reduceCtorEq, Nat.reduceEqDiff, Nat.reduceLT, Nat.reduceLeDiff, Nat.reduceAdd, Nat.reduceMul, Nat.reduceSub, Int.reduceToNat, Int.reduceNeg, Int.reduceBEq, Int.reduceBNe, cC, cFd, cP, List.replicate_succ, List.replicate_zero, List.flatten_cons, List.flatten_nil, List.cons_append, List.nil_append, List.set_cons_zero, List.set_cons_succ, List.length_cons, List.length_nil, List.length_set])
      | fail)
    all_goals first | exact ⟨_, _, rfl, rfl⟩ | trace_state
end Go.Proofs.Ytokfhfdnmnblfaa
