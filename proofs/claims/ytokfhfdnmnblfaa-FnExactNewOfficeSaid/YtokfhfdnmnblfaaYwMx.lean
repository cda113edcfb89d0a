/- A new office, by value and by memory. -/
import Derived.Test.YtokfhfdnmnblfaaYwMw
import Derived.Test.YtokfhfdnmnblfaaYwSy
namespace Go.Proofs.Ytokfhfdnmnblfaa
open Go.Vs
set_option linter.unusedSectionVars false
variable [Vs.Envs]
set_option linter.unusedSimpArgs false
set_option linter.unusedVariables false
attribute [local irreducible] Vs.Fn
def TK (l : List (List Int)) (k : Nat) : List (List (List Int)) := l :: List.replicate k []
theorem TK_len (l : List (List Int)) (k : Nat) : (TK l k).length = k + 1 := by unfold TK; rw [List.length_cons, List.length_replicate]
theorem E_snN (l : List (List Int)) (k : Nat) : E cD (TK l k) ++ [[.sl 1 []]] = E cD (TK l (k + 1)) := by
  unfold TK
  rw [List.replicate_succ', ← List.cons_append, E_append]; rfl
theorem l15New (l : List (List Int)) (hk : smallC l) : Vs.Fn Try.prog F.spec_l15New [] [.sl 1 (E cC l)] (.agg [.sl 1 (E cD (T0 l)), .v (.slice none 0 0)]) [] := by
  have CP := l02Copy l hk
  refine Cd.spec_l15New_ok.fn0 Try.mixed Cd.spec_l15New_nt Cd.spec_l15New_rs rfl fun X => ?_
  unfold Cd.spec_l15New
  simp -dsimp only [go_sem, reduceIte, reduceCtorEq, Nat.reduceEqDiff, Nat.reduceLT, Nat.reduceLeDiff, Nat.reduceAdd, Nat.reduceMul, Nat.reduceSub, Int.reduceToNat, Int.reduceNeg, Int.reduceBEq, Int.reduceBNe, cC, E_len, List.replicate_succ, List.replicate_zero, List.flatten_cons, List.flatten_nil, List.cons_append, List.nil_append, List.set_cons_zero, List.set_cons_succ, List.length_cons, List.length_nil, List.length_set, List.mem_singleton, List.mem_cons, List.not_mem_nil, or_false, false_or, Vs.Name.t.injEq, List.getD_cons_zero, List.getD_cons_succ, Vs.Name.b.injEq]
  repeat' (first
    | (refine RgK.mk rfl ?_; simp -dsimp only [go_sem, reduceIte, reduceCtorEq, Nat.reduceEqDiff, Nat.reduceLT, Nat.reduceLeDiff, Nat.reduceAdd, Nat.reduceMul, Nat.reduceSub, Int.reduceToNat, Int.reduceNeg, Int.reduceBEq, Int.reduceBNe, cC, E_len, List.replicate_succ, List.replicate_zero, List.flatten_cons, List.flatten_nil, List.cons_append, List.nil_append, List.set_cons_zero, List.set_cons_succ, List.length_cons, List.length_nil, List.length_set, List.mem_singleton, List.mem_cons, List.not_mem_nil, or_false, false_or, Vs.Name.t.injEq, List.getD_cons_zero, List.getD_cons_succ, Vs.Name.b.injEq])
    | (refine Br.mk (fun h => ?_) (fun h => ?_) <;> simp -dsimp only [go_sem, reduceIte, reduceCtorEq, Nat.reduceEqDiff, Nat.reduceLT, Nat.reduceLeDiff, Nat.reduceAdd, Nat.reduceMul, Nat.reduceSub, Int.reduceToNat, Int.reduceNeg, h, Int.reduceBEq, Int.reduceBNe, cC, E_len, List.replicate_succ, List.replicate_zero, List.flatten_cons, List.flatten_nil, List.cons_append, List.nil_append, List.set_cons_zero, List.set_cons_succ, List.length_cons, List.length_nil, List.length_set, List.mem_singleton, List.mem_cons, List.not_mem_nil, or_false, false_or, Vs.Name.t.injEq, List.getD_cons_zero, List.getD_cons_succ, Vs.Name.b.injEq])
    | (refine CallK.flat (by first | exact CP) rfl ?_; simp -dsimp only [go_sem, reduceIte, reduceCtorEq, Nat.reduceEqDiff, Nat.reduceLT, Nat.reduceLeDiff, Nat.reduceAdd, Nat.reduceMul, Nat.reduceSub, Int.reduceToNat, Int.reduceNeg, Int.reduceBEq, Int.reduceBNe, cC, E_len, List.replicate_succ, List.replicate_zero, List.flatten_cons, List.flatten_nil, List.cons_append, List.nil_append, List.set_cons_zero, List.set_cons_succ, List.length_cons, List.length_nil, List.length_set, List.mem_singleton, List.mem_cons, List.not_mem_nil, or_false, false_or, Vs.Name.t.injEq, List.getD_cons_zero, List.getD_cons_succ, Vs.Name.b.injEq])
    | (refine CallK.pure (by first | exact CP) ?_; simp -dsimp only [go_sem, reduceIte, reduceCtorEq, Nat.reduceEqDiff, Nat.reduceLT, Nat.reduceLeDiff, Nat.reduceAdd, Nat.reduceMul, Nat.reduceSub, Int.reduceToNat, Int.reduceNeg, Int.reduceBEq, Int.reduceBNe, cC, E_len, List.replicate_succ, List.replicate_zero, List.flatten_cons, List.flatten_nil, List.cons_append, List.nil_append, List.set_cons_zero, List.set_cons_succ, List.length_cons, List.length_nil, List.length_set, List.mem_singleton, List.mem_cons, List.not_mem_nil, or_false, false_or, Vs.Name.t.injEq, List.getD_cons_zero, List.getD_cons_succ, Vs.Name.b.injEq])
    | (refine And.intro (by first | rfl | omega | decide | exact ⟨by omega, by omega⟩ | exact ⟨rfl, by omega, by omega⟩ | exact ⟨rfl, rfl, by omega, by omega⟩ | (refine ⟨?_, ?_⟩ <;> (first | rfl | omega | decide | exact ⟨by omega, by omega⟩ | exact ⟨rfl, by omega, by omega⟩ | exact ⟨rfl, rfl, by omega, by omega⟩)) | (refine ⟨?_, ?_, ?_⟩ <;> (first | rfl | omega | decide | exact ⟨by omega, by omega⟩ | exact ⟨rfl, by omega, by omega⟩ | exact ⟨rfl, rfl, by omega, by omega⟩)) | (refine ⟨?_, ?_, ?_, ?_⟩ <;> (first | rfl | omega | decide | exact ⟨by omega, by omega⟩ | exact ⟨rfl, by omega, by omega⟩ | exact ⟨rfl, rfl, by omega, by omega⟩))) ?_; try simp -dsimp only [go_sem, reduceIte, reduceCtorEq, Nat.reduceEqDiff, Nat.reduceLT, Nat.reduceLeDiff, Nat.reduceAdd, Nat.reduceMul, Nat.reduceSub, Int.reduceToNat, Int.reduceNeg, Int.reduceBEq, Int.reduceBNe, cC, E_len, List.replicate_succ, List.replicate_zero, List.flatten_cons, List.flatten_nil, List.cons_append, List.nil_append, List.set_cons_zero, List.set_cons_succ, List.length_cons, List.length_nil, List.length_set, List.mem_singleton, List.mem_cons, List.not_mem_nil, or_false, false_or, Vs.Name.t.injEq, List.getD_cons_zero, List.getD_cons_succ, Vs.Name.b.injEq])
    | fail)
  have e0 : ([[.sl 1 (E cC l)]] : List (List AV)) = E cD (TK l 0) := rfl
  refine LoopK.atR (drawn_ok Try.mixed) (X := { k : Nat // k ≤ 5 }) (fun k => [(4, .v (.int .i64 (k.1 + 1 : Nat)))]) (fun k => [(.t 3 0, .var [.loc (.t 7 0) 0 (k.1 + 1), .v (.slice none 0 0)] false), (.t 7 0, .arr 1 (E cD (TK l k.1)) false)]) (fun k => 5 - k.1) ⟨0, by omega⟩ ?_ ?_
  · simp [Vs.LeL, Vs.look, Vs.hlook, Vs.sput, Vs.sputs, Vs.hset, Vs.hputs, Vs.E, cD, TK]
  · rintro ⟨k, hi⟩
    try dsimp only at hi
    try simp -dsimp only [go_sem, reduceIte, reduceCtorEq, Nat.reduceEqDiff, Nat.reduceLT, Nat.reduceLeDiff, Nat.reduceAdd, Nat.reduceMul, Nat.reduceSub, Int.reduceToNat, Int.reduceNeg, Int.reduceBEq, Int.reduceBNe, cC, E_len, List.replicate_succ, List.replicate_zero, List.flatten_cons, List.flatten_nil, List.cons_append, List.nil_append, List.set_cons_zero, List.set_cons_succ, List.length_cons, List.length_nil, List.length_set, List.mem_singleton, List.mem_cons, List.not_mem_nil, or_false, false_or, Vs.Name.t.injEq, List.getD_cons_zero, List.getD_cons_succ, Vs.Name.b.injEq]
    refine Br.mk (fun hc => ?_) fun hc => ?_
    · have hlt : k < 5 := by first | (simp at hc; omega) | omega
      have hw : IntKind.i64.wrap ((k + 1 : Nat) + 1 : Int) = ((k + 1 + 1 : Nat) : Int) := by rw [wrap_in (by omega) (by omega)]; omega
      have hrow := E_snN l k
      have hal : (E cD (TK l k)).length = k + 1 := by rw [E_len, TK_len]
      simp -dsimp only [go_sem, reduceIte, reduceCtorEq, Nat.reduceEqDiff, Nat.reduceLT, Nat.reduceLeDiff, Nat.reduceAdd, Nat.reduceMul, Nat.reduceSub, Int.reduceToNat, Int.reduceNeg, hw, hrow, hal, Int.reduceBEq, Int.reduceBNe, cC, E_len, List.replicate_succ, List.replicate_zero, List.flatten_cons, List.flatten_nil, List.cons_append, List.nil_append, List.set_cons_zero, List.set_cons_succ, List.length_cons, List.length_nil, List.length_set, List.mem_singleton, List.mem_cons, List.not_mem_nil, or_false, false_or, Vs.Name.t.injEq, List.getD_cons_zero, List.getD_cons_succ, Vs.Name.b.injEq]
      repeat' (first
        | (refine RgK.mk rfl ?_; simp -dsimp only [go_sem, reduceIte, reduceCtorEq, Nat.reduceEqDiff, Nat.reduceLT, Nat.reduceLeDiff, Nat.reduceAdd, Nat.reduceMul, Nat.reduceSub, Int.reduceToNat, Int.reduceNeg, hw, hrow, hal, Int.reduceBEq, Int.reduceBNe, cC, E_len, List.replicate_succ, List.replicate_zero, List.flatten_cons, List.flatten_nil, List.cons_append, List.nil_append, List.set_cons_zero, List.set_cons_succ, List.length_cons, List.length_nil, List.length_set, List.mem_singleton, List.mem_cons, List.not_mem_nil, or_false, false_or, Vs.Name.t.injEq, List.getD_cons_zero, List.getD_cons_succ, Vs.Name.b.injEq])
        | (refine Br.mk (fun h => ?_) (fun h => ?_) <;> simp -dsimp only [go_sem, reduceIte, reduceCtorEq, Nat.reduceEqDiff, Nat.reduceLT, Nat.reduceLeDiff, Nat.reduceAdd, Nat.reduceMul, Nat.reduceSub, Int.reduceToNat, Int.reduceNeg, h, hw, hrow, hal, Int.reduceBEq, Int.reduceBNe, cC, E_len, List.replicate_succ, List.replicate_zero, List.flatten_cons, List.flatten_nil, List.cons_append, List.nil_append, List.set_cons_zero, List.set_cons_succ, List.length_cons, List.length_nil, List.length_set, List.mem_singleton, List.mem_cons, List.not_mem_nil, or_false, false_or, Vs.Name.t.injEq, List.getD_cons_zero, List.getD_cons_succ, Vs.Name.b.injEq])
        | (refine And.intro (by first | rfl | omega | decide | exact ⟨by omega, by omega⟩ | exact ⟨rfl, by omega, by omega⟩ | exact ⟨rfl, rfl, by omega, by omega⟩ | (refine ⟨?_, ?_⟩ <;> (first | rfl | omega | decide | exact ⟨by omega, by omega⟩ | exact ⟨rfl, by omega, by omega⟩ | exact ⟨rfl, rfl, by omega, by omega⟩)) | (refine ⟨?_, ?_, ?_⟩ <;> (first | rfl | omega | decide | exact ⟨by omega, by omega⟩ | exact ⟨rfl, by omega, by omega⟩ | exact ⟨rfl, rfl, by omega, by omega⟩)) | (refine ⟨?_, ?_, ?_, ?_⟩ <;> (first | rfl | omega | decide | exact ⟨by omega, by omega⟩ | exact ⟨rfl, by omega, by omega⟩ | exact ⟨rfl, rfl, by omega, by omega⟩))) ?_; try simp -dsimp only [go_sem, reduceIte, reduceCtorEq, Nat.reduceEqDiff, Nat.reduceLT, Nat.reduceLeDiff, Nat.reduceAdd, Nat.reduceMul, Nat.reduceSub, Int.reduceToNat, Int.reduceNeg, hw, hrow, hal, Int.reduceBEq, Int.reduceBNe, cC, E_len, List.replicate_succ, List.replicate_zero, List.flatten_cons, List.flatten_nil, List.cons_append, List.nil_append, List.set_cons_zero, List.set_cons_succ, List.length_cons, List.length_nil, List.length_set, List.mem_singleton, List.mem_cons, List.not_mem_nil, or_false, false_or, Vs.Name.t.injEq, List.getD_cons_zero, List.getD_cons_succ, Vs.Name.b.injEq])
        | (refine ⟨[], rfl, rfl, ?_⟩; try simp -dsimp only [go_sem, reduceIte, reduceCtorEq, Nat.reduceEqDiff, Nat.reduceLT, Nat.reduceLeDiff, Nat.reduceAdd, Nat.reduceMul, Nat.reduceSub, Int.reduceToNat, Int.reduceNeg, hw, hrow, hal, Int.reduceBEq, Int.reduceBNe, cC, E_len, List.replicate_succ, List.replicate_zero, List.flatten_cons, List.flatten_nil, List.cons_append, List.nil_append, List.set_cons_zero, List.set_cons_succ, List.length_cons, List.length_nil, List.length_set, List.mem_singleton, List.mem_cons, List.not_mem_nil, or_false, false_or, Vs.Name.t.injEq, List.getD_cons_zero, List.getD_cons_succ, Vs.Name.b.injEq])
        | fail)
      all_goals first | omega | (refine ⟨⟨k + 1, by omega⟩, .inr ⟨.t 17 0, .t 7 0, by decide, rfl, ?_⟩, by simp only; omega⟩; simp [Vs.renL, Vs.nmF, Vs.rn, Vs.rnL, Vs.rnB, Vs.LeL, Vs.look, Vs.hlook, Vs.sput, Vs.sputs, Vs.hset, Vs.hputs, hrow]; done) | trace_state
    · have hge : k = 5 := by
        have : ¬ k < 5 := by first | (simp at hc; omega) | omega
        omega
      subst hge
      have hal : (E cD (TK l 5)).length = 6 := by rw [E_len, TK_len]
      have hk6 : (E cD (TK l 5)).take 6 = E cD (TK l 5) := List.take_of_length_le (by omega)
      rw [show T0 l = TK l 5 from rfl]
      try simp -dsimp only [go_sem, reduceIte, reduceCtorEq, Nat.reduceEqDiff, Nat.reduceLT, Nat.reduceLeDiff, Nat.reduceAdd, Nat.reduceMul, Nat.reduceSub, Int.reduceToNat, Int.reduceNeg, hal, hk6, Int.reduceBEq, Int.reduceBNe, cC, E_len, List.replicate_succ, List.replicate_zero, List.flatten_cons, List.flatten_nil, List.cons_append, List.nil_append, List.set_cons_zero, List.set_cons_succ, List.length_cons, List.length_nil, List.length_set, List.mem_singleton, List.mem_cons, List.not_mem_nil, or_false, false_or, Vs.Name.t.injEq, List.getD_cons_zero, List.getD_cons_succ, Vs.Name.b.injEq]
      repeat' (first
        | (refine RgK.mk rfl ?_; simp -dsimp only [go_sem, reduceIte, reduceCtorEq, Nat.reduceEqDiff, Nat.reduceLT, Nat.reduceLeDiff, Nat.reduceAdd, Nat.reduceMul, Nat.reduceSub, Int.reduceToNat, Int.reduceNeg, hal, hk6, Int.reduceBEq, Int.reduceBNe, cC, E_len, List.replicate_succ, List.replicate_zero, List.flatten_cons, List.flatten_nil, List.cons_append, List.nil_append, List.set_cons_zero, List.set_cons_succ, List.length_cons, List.length_nil, List.length_set, List.mem_singleton, List.mem_cons, List.not_mem_nil, or_false, false_or, Vs.Name.t.injEq, List.getD_cons_zero, List.getD_cons_succ, Vs.Name.b.injEq])
        | (refine Br.mk (fun h => ?_) (fun h => ?_) <;> simp -dsimp only [go_sem, reduceIte, reduceCtorEq, Nat.reduceEqDiff, Nat.reduceLT, Nat.reduceLeDiff, Nat.reduceAdd, Nat.reduceMul, Nat.reduceSub, Int.reduceToNat, Int.reduceNeg, h, hal, hk6, Int.reduceBEq, Int.reduceBNe, cC, E_len, List.replicate_succ, List.replicate_zero, List.flatten_cons, List.flatten_nil, List.cons_append, List.nil_append, List.set_cons_zero, List.set_cons_succ, List.length_cons, List.length_nil, List.length_set, List.mem_singleton, List.mem_cons, List.not_mem_nil, or_false, false_or, Vs.Name.t.injEq, List.getD_cons_zero, List.getD_cons_succ, Vs.Name.b.injEq])
        | (refine And.intro ?_ (fun h => absurd rfl h))
        | (refine And.intro (by first | rfl | omega | decide | exact ⟨by omega, by omega⟩ | exact ⟨rfl, by omega, by omega⟩ | exact ⟨rfl, rfl, by omega, by omega⟩ | (refine ⟨?_, ?_⟩ <;> (first | rfl | omega | decide | exact ⟨by omega, by omega⟩ | exact ⟨rfl, by omega, by omega⟩ | exact ⟨rfl, rfl, by omega, by omega⟩)) | (refine ⟨?_, ?_, ?_⟩ <;> (first | rfl | omega | decide | exact ⟨by omega, by omega⟩ | exact ⟨rfl, by omega, by omega⟩ | exact ⟨rfl, rfl, by omega, by omega⟩)) | (refine ⟨?_, ?_, ?_, ?_⟩ <;> (first | rfl | omega | decide | exact ⟨by omega, by omega⟩ | exact ⟨rfl, by omega, by omega⟩ | exact ⟨rfl, rfl, by omega, by omega⟩))) ?_; try simp -dsimp only [go_sem, reduceIte, reduceCtorEq, Nat.reduceEqDiff, Nat.reduceLT, Nat.reduceLeDiff, Nat.reduceAdd, Nat.reduceMul, Nat.reduceSub, Int.reduceToNat, Int.reduceNeg, hal, hk6, Int.reduceBEq, Int.reduceBNe, cC, E_len, List.replicate_succ, List.replicate_zero, List.flatten_cons, List.flatten_nil, List.cons_append, List.nil_append, List.set_cons_zero, List.set_cons_succ, List.length_cons, List.length_nil, List.length_set, List.mem_singleton, List.mem_cons, List.not_mem_nil, or_false, false_or, Vs.Name.t.injEq, List.getD_cons_zero, List.getD_cons_succ, Vs.Name.b.injEq])
        | fail)
      all_goals first | omega | exact ⟨_, _, rfl, rfl⟩ | exact ⟨⟨_, _, rfl, rfl⟩, fun h => h rfl⟩ | trace_state

def nC (l : List (List Int)) : Int := if deckB l then 0 else 1
def nL (l : List (List Int)) : List (List (List Int)) := if deckB l then T0 l else []
theorem nL_ok {l : List (List Int)} (hk : smallC l) : smallS (nL l) := by
  unfold nL
  split
  · refine ⟨by simp [T0], fun d hd => ?_⟩
    simp only [T0, List.mem_cons, List.mem_replicate] at hd
    rcases hd with rfl | ⟨_, rfl⟩
    · exact hk
    · exact ⟨by simp, fun c hc => (by cases hc)⟩
  · exact ⟨by simp, fun c hc => (by cases hc)⟩
theorem nil_rc {S : Nat → Prop} {w : World} {k : Nat} {v : Value} (h : RC S w (.v (.slice none 0 0)) v) : RC S w (.sl k []) v := by
  rw [inv_v (ρ := fun _ => none) (κ := fun _ => 0) (h := fun _ => none) (.clo h)]
  exact .sl k [] none 0 0 0 (fun _ => undef) (by simp) (by simp) (by simp) (by simp) (by simp) ⟨by simp, by decide⟩
theorem off_as {x : AV} {c : Value} {f : FuncId} {ys : List AV} {y : AV} (h : Vs.Fn Try.prog f [] ys (.tup [.agg [x, .v (.slice none 0 0)], .v c]) []) (hx : isClo x = true) (hxy : ∀ S w v, RC S w x v → RC S w y v) : Vs.Fn Try.prog f [] ys (.tup [.agg [y, .sl 1 []], .v c]) [] :=
  Vs.Fn.resAs h (by simp [isClo, isCloL, hx]) fun S w v hv => by
    cases hv with
    | tup _ vs hl hr =>
      refine .tup _ vs hl fun j hj => ?_
      match j, hj with
      | 1, _ => exact hr 1 (by simp)
      | 0, _ =>
        have h0 : RC S w (.agg [x, .v (.slice none 0 0)]) (vs.getD 0 undef) := hr 0 (by simp)
        show RC S w (.agg [y, .sl 1 []]) (vs.getD 0 undef)
        generalize vs.getD 0 undef = z at h0
        cases h0 with
        | agg _ us hl2 hr2 =>
          refine .agg _ us hl2 fun j hj => ?_
          match j, hj with
          | 0, _ => exact hxy _ _ _ (hr2 0 (by simp))
          | 1, _ => exact nil_rc (hr2 1 (by simp))
set_option maxHeartbeats 1000000 in
theorem spec_NewOfficeW (l : List (List Int)) (hk : smallC l) : Vs.Fn Try.prog F.spec_NewOffice [] [.sl 1 (E cC l)] (.tup [.agg [.sl 1 (E cD (nL l)), .sl 1 []], .v (.int .i64 (nC l))]) [] := by
  have DK := l02Deck l hk.2 hk.1
  have LN := l15New l hk
  cases hd : deckB l
  · rw [hd] at DK
    have e1 : nC l = 1 := by unfold nC; rw [hd]; rfl
    have e2 : nL l = [] := by unfold nL; rw [hd]; rfl
    rw [e1, e2]
    refine off_as (x := .v (.slice none 0 0)) ?_ rfl (fun S w v h => nil_rc h)
    refine Cd.spec_NewOffice_ok.fn0 Try.mixed Cd.spec_NewOffice_nt Cd.spec_NewOffice_rs rfl fun X => ?_
    unfold Cd.spec_NewOffice
    simp -dsimp only [go_sem, reduceIte, reduceCtorEq, Nat.reduceEqDiff, Nat.reduceLT, Nat.reduceLeDiff, Nat.reduceAdd, Nat.reduceMul, Nat.reduceSub, Int.reduceToNat, Int.reduceNeg, cC, List.replicate_succ, List.replicate_zero, List.flatten_cons, List.flatten_nil, List.cons_append, List.nil_append, List.set_cons_zero, List.set_cons_succ, List.length_cons, List.length_nil, List.length_set]
    repeat' (first
      | (refine RgK.mk rfl ?_; simp -dsimp only [go_sem, reduceIte, reduceCtorEq, Nat.reduceEqDiff, Nat.reduceLT, Nat.reduceLeDiff, Nat.reduceAdd, Nat.reduceMul, Nat.reduceSub, Int.reduceToNat, Int.reduceNeg, cC, List.replicate_succ, List.replicate_zero, List.flatten_cons, List.flatten_nil, List.cons_append, List.nil_append, List.set_cons_zero, List.set_cons_succ, List.length_cons, List.length_nil, List.length_set])
      | (refine Br.mk (fun h => ?_) (fun h => ?_) <;> simp -dsimp only [go_sem, reduceIte, reduceCtorEq, Nat.reduceEqDiff, Nat.reduceLT, Nat.reduceLeDiff, Nat.reduceAdd, Nat.reduceMul, Nat.reduceSub, Int.reduceToNat, Int.reduceNeg, h, cC, List.replicate_succ, List.replicate_zero, List.flatten_cons, List.flatten_nil, List.cons_append, List.nil_append, List.set_cons_zero, List.set_cons_succ, List.length_cons, List.length_nil, List.length_set])
      | (refine CallK.flat (by first | exact DK) rfl ?_; simp -dsimp only [go_sem, reduceIte, reduceCtorEq, Nat.reduceEqDiff, Nat.reduceLT, Nat.reduceLeDiff, Nat.reduceAdd, Nat.reduceMul, Nat.reduceSub, Int.reduceToNat, Int.reduceNeg, cC, List.replicate_succ, List.replicate_zero, List.flatten_cons, List.flatten_nil, List.cons_append, List.nil_append, List.set_cons_zero, List.set_cons_succ, List.length_cons, List.length_nil, List.length_set])
      | (refine CallK.pure (by first | exact DK) ?_; simp -dsimp only [go_sem, reduceIte, reduceCtorEq, Nat.reduceEqDiff, Nat.reduceLT, Nat.reduceLeDiff, Nat.reduceAdd, Nat.reduceMul, Nat.reduceSub, Int.reduceToNat, Int.reduceNeg, cC, List.replicate_succ, List.replicate_zero, List.flatten_cons, List.flatten_nil, List.cons_append, List.nil_append, List.set_cons_zero, List.set_cons_succ, List.length_cons, List.length_nil, List.length_set])
      | (refine And.intro (by first | rfl | omega | decide | (refine ⟨?_, ?_⟩ <;> (first | rfl | omega | decide)) | (refine ⟨?_, ?_, ?_⟩ <;> (first | rfl | omega | decide)) | (refine ⟨?_, ?_, ?_, ?_⟩ <;> (first | rfl | omega | decide))) ?_; try simp -dsimp only [go_sem, reduceIte, reduceCtorEq, Nat.reduceEqDiff, Nat.reduceLT, Nat.reduceLeDiff, Nat.reduceAdd, Nat.reduceMul, Nat.reduceSub, Int.reduceToNat, Int.reduceNeg, cC, List.replicate_succ, List.replicate_zero, List.flatten_cons, List.flatten_nil, List.cons_append, List.nil_append, List.set_cons_zero, List.set_cons_succ, List.length_cons, List.length_nil, List.length_set])
      | fail)

    all_goals first | exact ⟨_, _, rfl, rfl⟩ | trace_state
  · rw [hd] at DK
    have e1 : nC l = 0 := by unfold nC; rw [hd]; rfl
    have e2 : nL l = T0 l := by unfold nL; rw [hd]; rfl
    rw [e1, e2]
    refine off_as (x := .sl 1 (E cD (T0 l))) ?_ rfl (fun S w v h => h)
    refine Cd.spec_NewOffice_ok.fn0 Try.mixed Cd.spec_NewOffice_nt Cd.spec_NewOffice_rs rfl fun X => ?_
    unfold Cd.spec_NewOffice
    simp -dsimp only [go_sem, reduceIte, reduceCtorEq, Nat.reduceEqDiff, Nat.reduceLT, Nat.reduceLeDiff, Nat.reduceAdd, Nat.reduceMul, Nat.reduceSub, Int.reduceToNat, Int.reduceNeg, cC, List.replicate_succ, List.replicate_zero, List.flatten_cons, List.flatten_nil, List.cons_append, List.nil_append, List.set_cons_zero, List.set_cons_succ, List.length_cons, List.length_nil, List.length_set]
    repeat' (first
      | (refine RgK.mk rfl ?_; simp -dsimp only [go_sem, reduceIte, reduceCtorEq, Nat.reduceEqDiff, Nat.reduceLT, Nat.reduceLeDiff, Nat.reduceAdd, Nat.reduceMul, Nat.reduceSub, Int.reduceToNat, Int.reduceNeg, cC, List.replicate_succ, List.replicate_zero, List.flatten_cons, List.flatten_nil, List.cons_append, List.nil_append, List.set_cons_zero, List.set_cons_succ, List.length_cons, List.length_nil, List.length_set])
      | (refine Br.mk (fun h => ?_) (fun h => ?_) <;> simp -dsimp only [go_sem, reduceIte, reduceCtorEq, Nat.reduceEqDiff, Nat.reduceLT, Nat.reduceLeDiff, Nat.reduceAdd, Nat.reduceMul, Nat.reduceSub, Int.reduceToNat, Int.reduceNeg, h, cC, List.replicate_succ, List.replicate_zero, List.flatten_cons, List.flatten_nil, List.cons_append, List.nil_append, List.set_cons_zero, List.set_cons_succ, List.length_cons, List.length_nil, List.length_set])
      | (refine CallK.flat (by first | exact DK | exact LN) rfl ?_; simp -dsimp only [go_sem, reduceIte, reduceCtorEq, Nat.reduceEqDiff, Nat.reduceLT, Nat.reduceLeDiff, Nat.reduceAdd, Nat.reduceMul, Nat.reduceSub, Int.reduceToNat, Int.reduceNeg, cC, List.replicate_succ, List.replicate_zero, List.flatten_cons, List.flatten_nil, List.cons_append, List.nil_append, List.set_cons_zero, List.set_cons_succ, List.length_cons, List.length_nil, List.length_set])
      | (refine CallK.pure (by first | exact DK | exact LN) ?_; simp -dsimp only [go_sem, reduceIte, reduceCtorEq, Nat.reduceEqDiff, Nat.reduceLT, Nat.reduceLeDiff, Nat.reduceAdd, Nat.reduceMul, Nat.reduceSub, Int.reduceToNat, Int.reduceNeg, cC, List.replicate_succ, List.replicate_zero, List.flatten_cons, List.flatten_nil, List.cons_append, List.nil_append, List.set_cons_zero, List.set_cons_succ, List.length_cons, List.length_nil, List.length_set])
      | (refine And.intro (by first | rfl | omega | decide | (refine ⟨?_, ?_⟩ <;> (first | rfl | omega | decide)) | (refine ⟨?_, ?_, ?_⟩ <;> (first | rfl | omega | decide)) | (refine ⟨?_, ?_, ?_, ?_⟩ <;> (first | rfl | omega | decide))) ?_; try simp -dsimp only [go_sem, reduceIte, reduceCtorEq, Nat.reduceEqDiff, Nat.reduceLT, Nat.reduceLeDiff, Nat.reduceAdd, Nat.reduceMul, Nat.reduceSub, Int.reduceToNat, Int.reduceNeg, cC, List.replicate_succ, List.replicate_zero, List.flatten_cons, List.flatten_nil, List.cons_append, List.nil_append, List.set_cons_zero, List.set_cons_succ, List.length_cons, List.length_nil, List.length_set])
      | fail)

    all_goals first | exact ⟨_, _, rfl, rfl⟩ | trace_state
theorem impl_NewOfficeN (l : List (List Int)) (hk : smallC l) (hd : deckB l = false) : Vs.Fn Try.prog F.impl_NewOffice [] [.sl 1 (E cC l)] (.tup [.agg [.v (.slice none 0 0), .v (.slice none 0 0)], .v (.int .i64 1)]) [] := by
  have VD := validDeck l hk.2 hk.1
  rw [hd] at VD
  refine Cd.impl_NewOffice_ok.fn0 Try.mixed Cd.impl_NewOffice_nt Cd.impl_NewOffice_rs rfl fun X => ?_
  unfold Cd.impl_NewOffice
  simp -dsimp only [go_sem, reduceIte, reduceCtorEq, Nat.reduceEqDiff, Nat.reduceLT, Nat.reduceLeDiff, Nat.reduceAdd, Nat.reduceMul, Nat.reduceSub, Int.reduceToNat, Int.reduceNeg, cC, List.replicate_succ, List.replicate_zero, List.flatten_cons, List.flatten_nil, List.cons_append, List.nil_append, List.set_cons_zero, List.set_cons_succ, List.length_cons, List.length_nil, List.length_set]
  repeat' (first
    | (refine RgK.mk rfl ?_; simp -dsimp only [go_sem, reduceIte, reduceCtorEq, Nat.reduceEqDiff, Nat.reduceLT, Nat.reduceLeDiff, Nat.reduceAdd, Nat.reduceMul, Nat.reduceSub, Int.reduceToNat, Int.reduceNeg, cC, List.replicate_succ, List.replicate_zero, List.flatten_cons, List.flatten_nil, List.cons_append, List.nil_append, List.set_cons_zero, List.set_cons_succ, List.length_cons, List.length_nil, List.length_set])
    | (refine Br.mk (fun h => ?_) (fun h => ?_) <;> simp -dsimp only [go_sem, reduceIte, reduceCtorEq, Nat.reduceEqDiff, Nat.reduceLT, Nat.reduceLeDiff, Nat.reduceAdd, Nat.reduceMul, Nat.reduceSub, Int.reduceToNat, Int.reduceNeg, h, cC, List.replicate_succ, List.replicate_zero, List.flatten_cons, List.flatten_nil, List.cons_append, List.nil_append, List.set_cons_zero, List.set_cons_succ, List.length_cons, List.length_nil, List.length_set])
    | (refine CallK.flat (by first | exact VD) rfl ?_; simp -dsimp only [go_sem, reduceIte, reduceCtorEq, Nat.reduceEqDiff, Nat.reduceLT, Nat.reduceLeDiff, Nat.reduceAdd, Nat.reduceMul, Nat.reduceSub, Int.reduceToNat, Int.reduceNeg, cC, List.replicate_succ, List.replicate_zero, List.flatten_cons, List.flatten_nil, List.cons_append, List.nil_append, List.set_cons_zero, List.set_cons_succ, List.length_cons, List.length_nil, List.length_set])
    | (refine CallK.pure (by first | exact VD) ?_; simp -dsimp only [go_sem, reduceIte, reduceCtorEq, Nat.reduceEqDiff, Nat.reduceLT, Nat.reduceLeDiff, Nat.reduceAdd, Nat.reduceMul, Nat.reduceSub, Int.reduceToNat, Int.reduceNeg, cC, List.replicate_succ, List.replicate_zero, List.flatten_cons, List.flatten_nil, List.cons_append, List.nil_append, List.set_cons_zero, List.set_cons_succ, List.length_cons, List.length_nil, List.length_set])
    | (refine And.intro (by first | rfl | omega | decide | (refine ⟨?_, ?_⟩ <;> (first | rfl | omega | decide)) | (refine ⟨?_, ?_, ?_⟩ <;> (first | rfl | omega | decide)) | (refine ⟨?_, ?_, ?_, ?_⟩ <;> (first | rfl | omega | decide))) ?_; try simp -dsimp only [go_sem, reduceIte, reduceCtorEq, Nat.reduceEqDiff, Nat.reduceLT, Nat.reduceLeDiff, Nat.reduceAdd, Nat.reduceMul, Nat.reduceSub, Int.reduceToNat, Int.reduceNeg, cC, List.replicate_succ, List.replicate_zero, List.flatten_cons, List.flatten_nil, List.cons_append, List.nil_append, List.set_cons_zero, List.set_cons_succ, List.length_cons, List.length_nil, List.length_set])
    | fail)

  all_goals first | exact ⟨_, _, rfl, rfl⟩ | trace_state
/-- what NewOffice answers, by memory -/
theorem NewOffice_all (l : List (List Int)) (hk : smallC l) {S : Nat → Prop} {w : World} {vs : Array Value} (hS : ∀ b, S b → b < w.heap.size) (he : Env S w) (hvs : vs.size = 1) (hargs : ∀ j, j < 1 → RC S w (([.sl 1 (E cC l)] : List AV).getD j .junk) (vs.getD j undef)) :
    Calls Try.prog F.impl_NewOffice vs w fun e w' => ∃ (ts os : Sl) (xt : Option Nat) (TV : List Sl) (M : Nat → Vs.Mem), e = .returned (.tuple #[.agg #[slW ts, slW os], .int .i64 (nC l)]) ∧ Vs.Grew w w' ∧ Of w' (nL l) (slW ts) xt TV M ∧ TV.length ≤ 6 ∧ (∀ b, OfD xt TV M b → w.heap.size ≤ b) ∧ ∀ S' w2, RC S' w2 (.sl 1 []) (slW os) := by
  cases hd : deckB l
  · have e1 : nC l = 1 := by unfold nC; rw [hd]; rfl
    have e2 : nL l = [] := by unfold nL; rw [hd]; rfl
    rw [e1, e2]
    refine ((impl_NewOfficeN l hk hd).calls0 rfl hS he hvs hargs).mono ?_
    rintro e w' ⟨v, S', rfl, hg, hv⟩
    have hv2 : v = .tuple #[.agg #[slW (none, 0, 0), slW (none, 0, 0)], .int .i64 1] := by
      cases hv with
      | tup _ vs hl hr =>
        have h0 : RC S' w' (.agg [.v (.slice none 0 0), .v (.slice none 0 0)]) (vs.getD 0 undef) := hr 0 (by simp)
        have h1 : vs.getD 1 undef = .int .i64 1 := Vs.rc_v (hr 1 (by simp))
        rw [Vs.us2 (by simpa using hl.symm) rfl h1]
        generalize vs.getD 0 undef = z at h0
        cases h0 with
        | agg _ us hl2 hr2 =>
          rw [Vs.us2 (by simpa using hl2.symm) (Vs.rc_v (hr2 0 (by simp))) (Vs.rc_v (hr2 1 (by simp)))]
          rfl
    have hnil : ∀ (S' : Nat → Prop) (w2 : World), RC S' w2 (.sl 1 []) (slW (none, 0, 0)) := fun S' w2 => nil_rc (.v _)
    refine ⟨(none, 0, 0), (none, 0, 0), none, [], fun _ => noM, by rw [hv2], hg, ⟨hnil _ _, rfl, by simp, by simp, by simp, by simp⟩, by simp, fun b hb => ?_, hnil⟩
    rcases hb with h | ⟨i, hi, _⟩
    · cases h
    · simp at hi
  · have e1 : nC l = 0 := by unfold nC; rw [hd]; rfl
    have e2 : nL l = T0 l := by unfold nL; rw [hd]; rfl
    rw [e1, e2]
    refine (NewOffice_of l hk hd hS he hvs hargs).mono ?_
    rintro e w' ⟨tb, tc, xt, TV, M, ov, rfl, hg, ho, h6, hn, hov⟩
    obtain ⟨os, rfl⟩ : ∃ os : Sl, ov = slW os := by
      have h := hov (fun _ => False) w'
      generalize hl : ([] : List (List AV)) = l0 at h
      cases h with
      | sl _ _ base cap => exact ⟨(base, _, cap), rfl⟩
    exact ⟨(tb, 6, tc), os, xt, TV, M, rfl, hg, ho, by omega, hn, hov⟩
theorem agg_rc {S : Nat → Prop} {w : World} {a b : Value} {x y : AV} (ha : RC S w x a) (hb : RC S w y b) : RC S w (.agg [x, y]) (.agg #[a, b]) :=
  .agg _ _ rfl fun j hj => by
    match j, hj with
    | 0, _ => exact ha
    | 1, _ => exact hb
theorem impl_NewOfficeW (l : List (List Int)) (hk : smallC l) : Vs.Fn Try.prog F.impl_NewOffice [] [.sl 1 (E cC l)] (.tup [.agg [.sl 1 (E cD (nL l)), .sl 1 []], .v (.int .i64 (nC l))]) [] := by
  refine Vs.Fn.of_new (has1 Cd.impl_NewOffice_ok) (by intro y hy; simp only [List.mem_cons, List.not_mem_nil, or_false] at hy; subst hy; rfl) fun S w vs hS he hvs hargs => (NewOffice_all l hk hS he hvs hargs).mono ?_
  rintro e w' ⟨ts, os, xt, TV, M, rfl, hg, ho, _, hn, hov⟩
  refine ⟨_, OfD xt TV M, rfl, hg, fun b hb => ⟨hn b hb, ho.ltD b hb⟩, .tup _ _ rfl fun j hj => ?_⟩
  match j, hj with
  | 0, _ => exact agg_rc ho.rd (hov _ _)
  | 1, _ => exact .v _
end Go.Proofs.Ytokfhfdnmnblfaa
