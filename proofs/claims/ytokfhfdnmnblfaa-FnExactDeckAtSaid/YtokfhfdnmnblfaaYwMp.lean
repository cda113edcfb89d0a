/- A deck within a bound: both ways. -/
import Derived.Test.YtokfhfdnmnblfaaYwMo
import Derived.Test.YtokfhfdnmnblfaaYwC
import Derived.Test.YtokfhfdnmnblfaaYuT
import Derived.Test.YtokfhfdnmnblfaaYwSy
namespace Go.Proofs.Ytokfhfdnmnblfaa
open Go.Vs
set_option linter.unusedSectionVars false
variable [Vs.Envs]
set_option linter.unusedSimpArgs false
set_option linter.unusedVariables false
attribute [local irreducible] Vs.Fn
def atD (l : List (List Int)) : Nat → Nat → List (List Int)
  | 0, _ => []
  | i + 1, q => atD l i (q / l.length) ++ [l.getD (q % l.length) []]
theorem nextD_get (l : List (List Int)) (hl : 0 < l.length) : ∀ (p : List (List (List Int))) (q : Nat), q < p.length * l.length → (nextD l p)[q]? = some (p.getD (q / l.length) [] ++ [l.getD (q % l.length) []])
  | [], q, h => by simp at h
  | d :: r, q, h => by
    have e : nextD l (d :: r) = (l.map fun c => d ++ [c]) ++ nextD l r := by simp [nextD]
    rw [e]
    by_cases hq : q < l.length
    · rw [List.getElem?_append_left (by simpa using hq), Nat.div_eq_of_lt hq, Nat.mod_eq_of_lt hq]
      simp [hq]
    · have hq2 : l.length ≤ q := by omega
      have h2 : q - l.length < r.length * l.length := by
        have : (r.length + 1) * l.length = r.length * l.length + l.length := by rw [Nat.add_mul, Nat.one_mul]
        rw [List.length_cons, this] at h; omega
      rw [List.getElem?_append_right (by simpa using hq2), List.length_map, nextD_get l hl r _ h2, Nat.div_eq_sub_div hl hq2, Nat.mod_eq_sub_mod hq2]
      simp
theorem levD_at (l : List (List Int)) (hl : 0 < l.length) : ∀ (i q : Nat), q < l.length ^ i → (levD l i)[q]? = some (atD l i q)
  | 0, q, h => by
    have : q = 0 := by simpa using h
    subst this; simp [levD, atD]
  | i + 1, q, h => by
    rw [Nat.pow_succ] at h
    have h1 : q < (levD l i).length * l.length := by rw [levD_length]; exact h
    have h2 : q / l.length < l.length ^ i := (Nat.div_lt_iff_lt_mul hl).2 h
    rw [levD, nextD_get l hl _ _ h1, List.getD_eq_getElem?_getD, levD_at l hl i _ h2, atD]
    rfl
theorem geo_mono (m : Nat) : ∀ (n i : Nat), i ≤ n → geo m i ≤ geo m n
  | 0, i, h => by
    have : i = 0 := by omega
    subst this; exact Nat.le_refl _
  | n + 1, i, h => by
    by_cases e : i = n + 1
    · subst e; exact Nat.le_refl _
    · have := geo_mono m n i (by omega)
      simp only [geo]; omega
theorem allD_at (l : List (List Int)) (hl : 0 < l.length) : ∀ (n i q : Nat), i ≤ n → q < l.length ^ i → (allD l n)[geo0 l.length i + q]? = some (atD l i q)
  | 0, i, q, h, hq => by
    have : i = 0 := by omega
    subst this
    have : q = 0 := by simpa using hq
    subst this; simp [allD, atD, geo0]
  | n + 1, i, q, h, hq => by
    rw [allD]
    by_cases e : i = n + 1
    · subst e
      rw [List.getElem?_append_right (by rw [allD_length]; simp only [geo0]; omega), allD_length]
      simp only [geo0, Nat.add_sub_cancel_left]
      exact levD_at l hl _ q hq
    · have h1 : geo0 l.length i + q < geo l.length n := by
        have h2 := geo0_succ l.length i
        have h3 : geo0 l.length (i + 1) = geo l.length i := rfl
        have h4 := geo_mono l.length n i (by omega)
        omega
      rw [List.getElem?_append_left (by rw [allD_length]; exact h1)]
      exact allD_at l hl n i q (by omega) hq
theorem geo_split (m : Nat) : ∀ (n k : Nat), k < geo m n → ∃ i q, i ≤ n ∧ q < m ^ i ∧ k = geo0 m i + q
  | 0, k, h => ⟨0, k, Nat.le_refl _, by simpa [geo] using h, by simp [geo0]⟩
  | n + 1, k, h => by
    by_cases e : k < geo m n
    · obtain ⟨i, q, h1, h2, h3⟩ := geo_split m n k e
      exact ⟨i, q, by omega, h2, h3⟩
    · refine ⟨n + 1, k - geo m n, Nat.le_refl _, ?_, ?_⟩
      · simp only [geo] at h; omega
      · simp only [geo0]; omega
theorem geo0_mono (m : Nat) {i j : Nat} (h : i ≤ j) : geo0 m i ≤ geo0 m j := by
  match i, j, h with
  | 0, _, _ => exact Nat.zero_le _
  | i + 1, j + 1, h => exact geo_mono m j i (by omega)
theorem atD_mem (l : List (List Int)) (hl : 0 < l.length) : ∀ (i q : Nat), (atD l i q).length = i ∧ ∀ c, c ∈ atD l i q → c ∈ l
  | 0, q => by simp [atD]
  | i + 1, q => by
    obtain ⟨h1, h2⟩ := atD_mem l hl i (q / l.length)
    refine ⟨by simp [atD, h1], fun c hc => ?_⟩
    rcases List.mem_append.1 hc with h | h
    · exact h2 c h
    · rw [List.mem_singleton.1 h, List.getD_eq_getElem?_getD, List.getElem?_eq_getElem (Nat.mod_lt _ hl)]
      exact List.getElem_mem _
/-- the decks of a sample are decks -/
theorem dig (q c m : Nat) : q % c ^ (m + 1) / c ^ m = q / c ^ m % c := by rw [Nat.pow_succ, Nat.mod_mul_right_div_self]
theorem dig2 (q c m : Nat) : q % c ^ (m + 1) % c ^ m = q % c ^ m := Nat.mod_mod_of_dvd _ ⟨c, Nat.pow_succ ..⟩
theorem dig3 (q c m : Nat) : q / c ^ m / c = q / c ^ (m + 1) := by rw [Nat.div_div_eq_div_mul, Nat.pow_succ]
theorem dig4 {c : Nat} (m : Nat) (hc : 0 < c) : c ^ (m + 1) / c = c ^ m := by rw [Nat.pow_succ, Nat.mul_div_cancel _ hc]
theorem codeI_0 {l : List (List Int)} {n : Int} (h : codeI l n = 0) : deckB l = true ∧ 0 < l.length ∧ l.length ≤ 5 ∧ ∃ k : Nat, n = k ∧ k ≤ 3 := by
  unfold codeI at h
  split at h
  · rename_i h1
    split at h
    · rename_i h2
      simp [sampB, inB] at h1 h2
      exact ⟨h1.1, by omega, by omega, n.toNat, by omega, by omega⟩
    · cases h
  · cases h
theorem l17At (l : List (List Int)) (hk : smallC l) (h1 : 0 < l.length) (h5 : l.length ≤ 5) (i q : Nat) (hi : i ≤ 3) (hq : q < l.length ^ i) : Vs.Fn Try.prog F.spec_l17At [] [.sl 1 (E cC l), .v (.int .i64 (geo0 l.length i + q : Nat))] (.sl 1 (E cC (atD l i q))) [] := by
  have hp : ∀ j, j ≤ i → l.length ^ j ≤ 625 := fun j hj => pow_le _ _ h5 (by omega)
  have hg := geo0_le l.length h5 i (by omega)
  refine Cd.spec_l17At_ok.fn0 Try.mixed Cd.spec_l17At_nt Cd.spec_l17At_rs rfl fun X => ?_
  unfold Cd.spec_l17At
  simp -dsimp only [go_sem, reduceIte, reduceCtorEq, Nat.reduceEqDiff, Nat.reduceLT, Nat.reduceLeDiff, Nat.reduceAdd, Nat.reduceMul, Nat.reduceSub, Int.reduceToNat, Int.reduceNeg, Int.reduceBEq, Int.reduceBNe, cC, cFd, E_len, List.replicate_succ, List.replicate_zero, List.flatten_cons, List.flatten_nil, List.cons_append, List.nil_append, List.set_cons_zero, List.set_cons_succ, List.length_cons, List.length_nil, List.length_set, List.mem_singleton, List.mem_cons, List.not_mem_nil, or_false, false_or, Vs.Name.t.injEq, List.getD_cons_zero, List.getD_cons_succ, Vs.Name.b.injEq, List.getElem?_cons_zero, List.getElem?_cons_succ, cP]
  refine LoopK.at (drawn_ok Try.mixed) (X := { j : Nat // j ≤ i }) (fun j => [(1, .v (.int .i64 (geo0 l.length i + q - geo0 l.length j.1 : Nat))), (6, .v (.int .i64 j.1)), (7, .v (.int .i64 (l.length ^ j.1 : Nat)))]) (fun j => []) (fun j => i - j.1) ⟨0, by omega⟩ ?_ ?_
  · simp [Vs.LeL, Vs.look, Vs.hlook, Vs.sput, Vs.sputs, Vs.hset, Vs.hputs, geo0]
  · rintro ⟨j, hj⟩
    have hgj := geo0_mono l.length hj
    have hpj := hp j hj
    have hs := geo0_succ l.length j
    simp -dsimp only [go_sem, reduceIte, reduceCtorEq, Nat.reduceEqDiff, Nat.reduceLT, Nat.reduceLeDiff, Nat.reduceAdd, Nat.reduceMul, Nat.reduceSub, Int.reduceToNat, Int.reduceNeg, Int.reduceBEq, Int.reduceBNe, cC, cFd, E_len, List.replicate_succ, List.replicate_zero, List.flatten_cons, List.flatten_nil, List.cons_append, List.nil_append, List.set_cons_zero, List.set_cons_succ, List.length_cons, List.length_nil, List.length_set, List.mem_singleton, List.mem_cons, List.not_mem_nil, or_false, false_or, Vs.Name.t.injEq, List.getD_cons_zero, List.getD_cons_succ, Vs.Name.b.injEq, List.getElem?_cons_zero, List.getElem?_cons_succ, cP]
    refine Br.mk (fun hc => ?_) fun hc => ?_
    · have hc2 : l.length ^ j ≤ geo0 l.length i + q - geo0 l.length j := by have := of_decide_eq_true hc; omega
      have hlt : j < i := by
        rcases Nat.lt_or_ge j i with h | h
        · exact h
        · have e : j = i := by omega
          subst e
          omega
      have hgj2 := geo0_mono l.length (show j + 1 ≤ i from hlt)
      have hw6 : IntKind.i64.wrap ((j : Int) + 1) = ((j + 1 : Nat) : Int) := by rw [wrap_in (by omega) (by omega)]; omega
      have hw1 : IntKind.i64.wrap (((geo0 l.length i + q - geo0 l.length j : Nat) : Int) - ((l.length ^ j : Nat) : Int)) = ((geo0 l.length i + q - geo0 l.length (j + 1) : Nat) : Int) := by
        have hq' := hp i (Nat.le_refl _)
        rw [wrap_in (by omega) (by omega)]; omega
      have hw7 : IntKind.i64.wrap (((l.length ^ j : Nat) : Int) * (l.length : Int)) = ((l.length ^ (j + 1) : Nat) : Int) := by
        have e : ((l.length ^ j : Nat) : Int) * (l.length : Int) = ((l.length ^ j * l.length : Nat) : Int) := by rw [Int.natCast_mul]
        have := hp (j + 1) hlt
        rw [Nat.pow_succ] at this
        rw [e, wrap_in (by omega) (by omega), Nat.pow_succ]
      simp -dsimp only [go_sem, reduceIte, reduceCtorEq, Nat.reduceEqDiff, Nat.reduceLT, Nat.reduceLeDiff, Nat.reduceAdd, Nat.reduceMul, Nat.reduceSub, Int.reduceToNat, Int.reduceNeg, hw6, hw1, hw7, Int.reduceBEq, Int.reduceBNe, cC, cFd, E_len, List.replicate_succ, List.replicate_zero, List.flatten_cons, List.flatten_nil, List.cons_append, List.nil_append, List.set_cons_zero, List.set_cons_succ, List.length_cons, List.length_nil, List.length_set, List.mem_singleton, List.mem_cons, List.not_mem_nil, or_false, false_or, Vs.Name.t.injEq, List.getD_cons_zero, List.getD_cons_succ, Vs.Name.b.injEq, List.getElem?_cons_zero, List.getElem?_cons_succ, cP]
      exact ⟨⟨j + 1, hlt⟩, by simp [Vs.LeL, Vs.look, Vs.hlook, Vs.sput, Vs.sputs, Vs.hset, Vs.hputs], by simp only; omega⟩
    · have hge : j = i := by
        rcases Nat.lt_or_ge j i with h | h
        · have hgj2 := geo0_mono l.length (show j + 1 ≤ i from h)
          have := of_decide_eq_false hc; omega
        · omega
      subst hge
      have hsub : geo0 l.length j + q - geo0 l.length j = q := by omega
      simp -dsimp only [go_sem, reduceIte, reduceCtorEq, Nat.reduceEqDiff, Nat.reduceLT, Nat.reduceLeDiff, Nat.reduceAdd, Nat.reduceMul, Nat.reduceSub, Int.reduceToNat, Int.reduceNeg, hsub, Int.reduceBEq, Int.reduceBNe, cC, cFd, E_len, List.replicate_succ, List.replicate_zero, List.flatten_cons, List.flatten_nil, List.cons_append, List.nil_append, List.set_cons_zero, List.set_cons_succ, List.length_cons, List.length_nil, List.length_set, List.mem_singleton, List.mem_cons, List.not_mem_nil, or_false, false_or, Vs.Name.t.injEq, List.getD_cons_zero, List.getD_cons_succ, Vs.Name.b.injEq, List.getElem?_cons_zero, List.getElem?_cons_succ, cP]
      refine ⟨?_, fun h => h rfl⟩
      refine ⟨⟨by omega, by omega⟩, ?_⟩
      refine LoopK.at (drawn_ok Try.mixed) (X := { m : Nat // m ≤ j }) (fun m => [(1, .v (.int .i64 (q % l.length ^ (j - m.1) : Nat))), (7, .v (.int .i64 (l.length ^ (j - m.1) : Nat))), (8, .loc (.t 8 0) 0 (atD l m.1 (q / l.length ^ (j - m.1))).length), (9, .v (.int .i64 m.1))]) (fun m => [(.t 8 0, .arr 1 (E cC (atD l m.1 (q / l.length ^ (j - m.1)))) false)]) (fun m => j - m.1) ⟨0, by omega⟩ ?_ ?_
      · simp [Vs.LeL, Vs.look, Vs.hlook, Vs.sput, Vs.sputs, Vs.hset, Vs.hputs, atD, Vs.E, Nat.mod_eq_of_lt hq]
      · rintro ⟨m, hm⟩
        simp -dsimp only [go_sem, reduceIte, reduceCtorEq, Nat.reduceEqDiff, Nat.reduceLT, Nat.reduceLeDiff, Nat.reduceAdd, Nat.reduceMul, Nat.reduceSub, Int.reduceToNat, Int.reduceNeg, Int.reduceBEq, Int.reduceBNe, cC, cFd, E_len, List.replicate_succ, List.replicate_zero, List.flatten_cons, List.flatten_nil, List.cons_append, List.nil_append, List.set_cons_zero, List.set_cons_succ, List.length_cons, List.length_nil, List.length_set, List.mem_singleton, List.mem_cons, List.not_mem_nil, or_false, false_or, Vs.Name.t.injEq, List.getD_cons_zero, List.getD_cons_succ, Vs.Name.b.injEq, List.getElem?_cons_zero, List.getElem?_cons_succ, cP]
        refine Br.mk (fun hc => ?_) fun hc => ?_
        · have hlt : m < j := by have := of_decide_eq_true hc; omega
          obtain ⟨u, hu⟩ : ∃ u, j - m = u + 1 := ⟨j - m - 1, by omega⟩
          have hu2 : j - (m + 1) = u := by omega
          have hb1 := hp (u + 1) (by omega)
          have hb2 := hp u (by omega)
          have hp0 : 0 < l.length ^ u := Nat.pow_pos h1
          have hn0 : ¬ ((l.length : Int) = 0) := by omega
          have hm0 : ¬ (((l.length ^ u : Nat) : Int) = 0) := by omega
          have hw9 : IntKind.i64.wrap ((m : Int) + 1) = ((m + 1 : Nat) : Int) := by rw [wrap_in (by omega) (by omega)]; omega
          have e7 : IntKind.i64.wrap (((l.length ^ (u + 1) : Nat) : Int).tdiv (l.length : Int)) = ((l.length ^ u : Nat) : Int) := by
            rw [← Int.ofNat_tdiv, dig4 u h1, wrap_in (by omega) (by omega)]
          have hr : q % l.length ^ (u + 1) < l.length ^ (u + 1) := Nat.mod_lt _ (Nat.pow_pos h1)
          have hdl : q / l.length ^ u % l.length < l.length := Nat.mod_lt _ h1
          have ei : IntKind.i64.wrap (((q % l.length ^ (u + 1) : Nat) : Int).tdiv ((l.length ^ u : Nat) : Int)) = ((q / l.length ^ u % l.length : Nat) : Int) := by
            rw [← Int.ofNat_tdiv, dig, wrap_in (by omega) (by omega)]
          have e1 : ((q % l.length ^ (u + 1) : Nat) : Int).tmod ((l.length ^ u : Nat) : Int) = ((q % l.length ^ u : Nat) : Int) := by
            rw [← Int.ofNat_tmod, dig2]
          have hm2 : (E cC l).getD (q / l.length ^ u % l.length) [] = [.sl 1 (E cI (l.getD (q / l.length ^ u % l.length) []))] := by rw [E_get hdl]; simp [cC, hdl]
          have hsm : (l.getD (q / l.length ^ u % l.length) []).length ≤ 1048576 := by
            rw [List.getD_eq_getElem?_getD, List.getElem?_eq_getElem hdl]
            exact hk.2 _ (List.getElem_mem hdl)
          have ha : E cC (atD l m (q / l.length ^ (u + 1))) ++ [[.sl 1 (E cI (l.getD (q / l.length ^ u % l.length) []))]] = E cC (atD l (m + 1) (q / l.length ^ u)) := by
            rw [atD, dig3, E_append]; rfl
          have hlen := (atD_mem l h1 m (q / l.length ^ (u + 1))).1
          have hlen2 := (atD_mem l h1 (m + 1) (q / l.length ^ u)).1
          have hO := l02Own (l.getD (q / l.length ^ u % l.length) []) hsm
          generalize hdd : q / l.length ^ u % l.length = dd at *
          simp only [hu]
          simp -dsimp only [go_sem, reduceIte, reduceCtorEq, Nat.reduceEqDiff, Nat.reduceLT, Nat.reduceLeDiff, Nat.reduceAdd, Nat.reduceMul, Nat.reduceSub, Int.reduceToNat, Int.reduceNeg, hw9, e7, ei, e1, hm2, hlen, ha, Int.reduceBEq, Int.reduceBNe, cC, cFd, E_len, List.replicate_succ, List.replicate_zero, List.flatten_cons, List.flatten_nil, List.cons_append, List.nil_append, List.set_cons_zero, List.set_cons_succ, List.length_cons, List.length_nil, List.length_set, List.mem_singleton, List.mem_cons, List.not_mem_nil, or_false, false_or, Vs.Name.t.injEq, List.getD_cons_zero, List.getD_cons_succ, Vs.Name.b.injEq, List.getElem?_cons_zero, List.getElem?_cons_succ, cP]
          repeat' (first
            | (refine RgK.mk rfl ?_; simp -dsimp only [go_sem, reduceIte, reduceCtorEq, Nat.reduceEqDiff, Nat.reduceLT, Nat.reduceLeDiff, Nat.reduceAdd, Nat.reduceMul, Nat.reduceSub, Int.reduceToNat, Int.reduceNeg, hw9, e7, ei, e1, hm2, hlen, ha, Int.reduceBEq, Int.reduceBNe, cC, cFd, E_len, List.replicate_succ, List.replicate_zero, List.flatten_cons, List.flatten_nil, List.cons_append, List.nil_append, List.set_cons_zero, List.set_cons_succ, List.length_cons, List.length_nil, List.length_set, List.mem_singleton, List.mem_cons, List.not_mem_nil, or_false, false_or, Vs.Name.t.injEq, List.getD_cons_zero, List.getD_cons_succ, Vs.Name.b.injEq, List.getElem?_cons_zero, List.getElem?_cons_succ, cP])
            | (refine Br.mk (fun h => ?_) (fun h => ?_) <;> simp -dsimp only [go_sem, reduceIte, reduceCtorEq, Nat.reduceEqDiff, Nat.reduceLT, Nat.reduceLeDiff, Nat.reduceAdd, Nat.reduceMul, Nat.reduceSub, Int.reduceToNat, Int.reduceNeg, h, hw9, e7, ei, e1, hm2, hlen, ha, Int.reduceBEq, Int.reduceBNe, cC, cFd, E_len, List.replicate_succ, List.replicate_zero, List.flatten_cons, List.flatten_nil, List.cons_append, List.nil_append, List.set_cons_zero, List.set_cons_succ, List.length_cons, List.length_nil, List.length_set, List.mem_singleton, List.mem_cons, List.not_mem_nil, or_false, false_or, Vs.Name.t.injEq, List.getD_cons_zero, List.getD_cons_succ, Vs.Name.b.injEq, List.getElem?_cons_zero, List.getElem?_cons_succ, cP])
            | (refine CallK.flat (by first | exact hO) rfl ?_; simp -dsimp only [go_sem, reduceIte, reduceCtorEq, Nat.reduceEqDiff, Nat.reduceLT, Nat.reduceLeDiff, Nat.reduceAdd, Nat.reduceMul, Nat.reduceSub, Int.reduceToNat, Int.reduceNeg, hw9, e7, ei, e1, hm2, hlen, ha, Int.reduceBEq, Int.reduceBNe, cC, cFd, E_len, List.replicate_succ, List.replicate_zero, List.flatten_cons, List.flatten_nil, List.cons_append, List.nil_append, List.set_cons_zero, List.set_cons_succ, List.length_cons, List.length_nil, List.length_set, List.mem_singleton, List.mem_cons, List.not_mem_nil, or_false, false_or, Vs.Name.t.injEq, List.getD_cons_zero, List.getD_cons_succ, Vs.Name.b.injEq, List.getElem?_cons_zero, List.getElem?_cons_succ, cP])
            | (refine CallK.pure (by first | exact hO) ?_; simp -dsimp only [go_sem, reduceIte, reduceCtorEq, Nat.reduceEqDiff, Nat.reduceLT, Nat.reduceLeDiff, Nat.reduceAdd, Nat.reduceMul, Nat.reduceSub, Int.reduceToNat, Int.reduceNeg, hw9, e7, ei, e1, hm2, hlen, ha, Int.reduceBEq, Int.reduceBNe, cC, cFd, E_len, List.replicate_succ, List.replicate_zero, List.flatten_cons, List.flatten_nil, List.cons_append, List.nil_append, List.set_cons_zero, List.set_cons_succ, List.length_cons, List.length_nil, List.length_set, List.mem_singleton, List.mem_cons, List.not_mem_nil, or_false, false_or, Vs.Name.t.injEq, List.getD_cons_zero, List.getD_cons_succ, Vs.Name.b.injEq, List.getElem?_cons_zero, List.getElem?_cons_succ, cP])
            | (refine And.intro (by first | rfl | omega | decide | exact ⟨by omega, by omega⟩ | exact ⟨rfl, by omega, by omega⟩ | exact ⟨rfl, rfl, by omega, by omega⟩ | (refine ⟨?_, ?_⟩ <;> (first | rfl | omega | decide | exact ⟨by omega, by omega⟩ | exact ⟨rfl, by omega, by omega⟩ | exact ⟨rfl, rfl, by omega, by omega⟩)) | (refine ⟨?_, ?_, ?_⟩ <;> (first | rfl | omega | decide | exact ⟨by omega, by omega⟩ | exact ⟨rfl, by omega, by omega⟩ | exact ⟨rfl, rfl, by omega, by omega⟩)) | (refine ⟨?_, ?_, ?_, ?_⟩ <;> (first | rfl | omega | decide | exact ⟨by omega, by omega⟩ | exact ⟨rfl, by omega, by omega⟩ | exact ⟨rfl, rfl, by omega, by omega⟩))) ?_)
            | fail)
          all_goals first | omega | (exact ⟨⟨m + 1, hlt⟩, by simp [Vs.LeL, Vs.look, Vs.hlook, Vs.sput, Vs.sputs, Vs.hset, Vs.hputs, hu2, hlen, hlen2, ha], by simp only; omega⟩) | trace_state
        · have hge : m = j := by have := of_decide_eq_false hc; omega
          subst hge
          have hlen := (atD_mem l h1 m q).1
          simp -dsimp only [go_sem, reduceIte, reduceCtorEq, Nat.reduceEqDiff, Nat.reduceLT, Nat.reduceLeDiff, Nat.reduceAdd, Nat.reduceMul, Nat.reduceSub, Int.reduceToNat, Int.reduceNeg, Nat.sub_self, Nat.pow_zero, Nat.div_one, hlen, Int.reduceBEq, Int.reduceBNe, cC, cFd, E_len, List.replicate_succ, List.replicate_zero, List.flatten_cons, List.flatten_nil, List.cons_append, List.nil_append, List.set_cons_zero, List.set_cons_succ, List.length_cons, List.length_nil, List.length_set, List.mem_singleton, List.mem_cons, List.not_mem_nil, or_false, false_or, Vs.Name.t.injEq, List.getD_cons_zero, List.getD_cons_succ, Vs.Name.b.injEq, List.getElem?_cons_zero, List.getElem?_cons_succ, cP]
          have k1 : (E cC (atD l m q)).take m = E cC (atD l m q) := List.take_of_length_le (by simp [E_len, hlen])
          simp only [k1]
          first | exact ⟨⟨_, _, rfl, rfl⟩, fun h => h rfl⟩ | trace_state

/-- the code, and the deck, of a number within a bound -/
def daC (l : List (List Int)) (n k : Int) : Int := if codeI l n = 0 then (if inB k 0 (((geo l.length n.toNat : Nat) : Int) - 1) then 0 else 2) else codeI l n
def daL (l : List (List Int)) (n k : Int) : List (List Int) := if daC l n k = 0 then (allD l n.toNat).getD k.toNat [] else []
theorem daC_0 {l : List (List Int)} {n k : Int} (h : daC l n k = 0) : codeI l n = 0 ∧ inB k 0 (((geo l.length n.toNat : Nat) : Int) - 1) = true := by
  unfold daC at h
  split at h
  · rename_i h0
    split at h
    · rename_i h1; exact ⟨h0, h1⟩
    · cases h
  · rename_i h0; exact (h0 h).elim
theorem inB_nat {k m : Int} (h : inB k 0 (m - 1) = true) : ∃ q : Nat, k = q ∧ (q : Int) < m := by
  simp only [inB, Bool.and_eq_true, decide_eq_true_eq] at h
  exact ⟨k.toNat, by omega, by omega⟩
theorem daL_ok {l : List (List Int)} {n k : Int} (hk : smallC l) : smallC (daL l n k) ∧ (daL l n k).length ≤ 1000 := by
  unfold daL
  split
  · rename_i h
    obtain ⟨h0, h1⟩ := daC_0 h
    obtain ⟨_, hl0, hl5, m, rfl, hm⟩ := codeI_0 h0
    obtain ⟨q, rfl, hq⟩ := inB_nat h1
    have hq' : q < geo l.length m := by simpa using hq
    obtain ⟨i, r, hi, hr, rfl⟩ := geo_split l.length m q hq'
    have e := allD_at l hl0 m i r hi hr
    have e2 : (allD l m).getD (geo0 l.length i + r) [] = atD l i r := by rw [List.getD_eq_getElem?_getD, e]; rfl
    simp only [Int.toNat_natCast, e2]
    obtain ⟨g1, g2⟩ := atD_mem l hl0 i r
    exact ⟨⟨by omega, fun c hc => hk.2 c (g2 c hc)⟩, by omega⟩
  · exact ⟨⟨by simp, fun c hc => (by cases hc)⟩, by simp⟩

theorem sizeD (l : List (List (List Int))) : Vs.Fn Try.prog F.impl_size___impl_Card_ [] [.sl 1 (E cD l)] (.v (.int .i64 l.length)) [] := by
  refine Cd.impl_size___impl_Card__ok.fn0 Try.mixed Cd.impl_size___impl_Card__nt Cd.impl_size___impl_Card__rs rfl fun X => ?_
  unfold Cd.impl_size___impl_Card_
  simp -dsimp only [go_sem, reduceIte, reduceCtorEq, Nat.reduceEqDiff, Nat.reduceLT, Nat.reduceLeDiff, Nat.reduceAdd, Nat.reduceMul, Nat.reduceSub, Int.reduceToNat, Int.reduceNeg]
  repeat' (first
    | (refine RgK.mk rfl ?_; simp -dsimp only [go_sem, reduceIte, reduceCtorEq, Nat.reduceEqDiff, Nat.reduceLT, Nat.reduceLeDiff, Nat.reduceAdd, Nat.reduceMul, Nat.reduceSub, Int.reduceToNat, Int.reduceNeg])
    | (refine Br.mk (fun h => ?_) (fun h => ?_) <;> simp -dsimp only [go_sem, reduceIte, reduceCtorEq, Nat.reduceEqDiff, Nat.reduceLT, Nat.reduceLeDiff, Nat.reduceAdd, Nat.reduceMul, Nat.reduceSub, Int.reduceToNat, Int.reduceNeg, h])
    | (refine And.intro (by first | rfl | omega | decide | (refine ⟨?_, ?_⟩ <;> (first | rfl | omega | decide)) | (refine ⟨?_, ?_, ?_⟩ <;> (first | rfl | omega | decide)) | (refine ⟨?_, ?_, ?_, ?_⟩ <;> (first | rfl | omega | decide))) ?_)
    | fail)
  all_goals (simp_all)


theorem nil_rc {S : Nat → Prop} {w : World} {k : Nat} {v : Value} (h : RC S w (.v (.slice none 0 0)) v) : RC S w (.sl k []) v := by
  rw [inv_v (ρ := fun _ => none) (κ := fun _ => 0) (h := fun _ => none) (.clo h)]
  exact .sl k [] none 0 0 0 (fun _ => undef) (by simp) (by simp) (by simp) (by simp) (by simp) ⟨by simp, by decide⟩
theorem tup_nil {f : FuncId} {ys : List AV} {c : Value} (h : Vs.Fn Try.prog f [] ys (.tup [.v (.slice none 0 0), .v c]) []) : Vs.Fn Try.prog f [] ys (.tup [.sl 1 (E cC []), .v c]) [] :=
  Vs.Fn.resAs h rfl fun S w v hv => by
    cases hv with
    | tup _ vs hl hr =>
      refine .tup _ vs hl fun j hj => ?_
      match j, hj with
      | 0, _ => exact nil_rc (hr 0 (by simp))
      | 1, _ => exact hr 1 (by simp)

set_option maxHeartbeats 1000000 in
theorem spec_DeckAt (l : List (List Int)) (n k : Int) (hk : smallC l) : Vs.Fn Try.prog F.spec_DeckAt [] [.sl 1 (E cC l), .v (.int .i64 n), .v (.int .i64 k)] (.tup [.sl 1 (E cC (daL l n k)), .v (.int .i64 (daC l n k))]) [] := by
  have CC := l17Code l n hk.2 hk.1
  by_cases h0 : codeI l n = 0
  · obtain ⟨_, hl0, hl5, m, rfl, hm⟩ := codeI_0 h0
    rw [h0] at CC
    have hg := geo_le l.length hl5 m hm
    have hsub : IntKind.i64.wrap (((geo l.length m : Nat) : Int) - 1) = ((geo l.length m : Nat) : Int) - 1 := wrap_in (by omega) (by omega)
    have CT := l17Count l.length m hl5 hm
    cases hb : inB k 0 (((geo l.length m : Nat) : Int) - 1)
    · have hda : daC l (m : Int) k = 2 := by unfold daC; rw [if_pos h0]; simp [hb]
      have hL : daL l (m : Int) k = [] := by unfold daL; rw [hda]; rfl
      rw [hL]
      refine tup_nil ?_
      rw [hda]
      refine Cd.spec_DeckAt_ok.fn0 Try.mixed Cd.spec_DeckAt_nt Cd.spec_DeckAt_rs rfl fun X => ?_
      unfold Cd.spec_DeckAt
      simp -dsimp only [go_sem, reduceIte, reduceCtorEq, Nat.reduceEqDiff, Nat.reduceLT, Nat.reduceLeDiff, Nat.reduceAdd, Nat.reduceMul, Nat.reduceSub, Int.reduceToNat, Int.reduceNeg, Int.reduceBEq, Int.reduceBNe, cC, List.replicate_succ, List.replicate_zero, List.flatten_cons, List.flatten_nil, List.cons_append, List.nil_append, List.set_cons_zero, List.set_cons_succ, List.length_cons, List.length_nil, List.length_set, hsub, hb]
      repeat' (first
        | (refine RgK.mk rfl ?_; simp -dsimp only [go_sem, reduceIte, reduceCtorEq, Nat.reduceEqDiff, Nat.reduceLT, Nat.reduceLeDiff, Nat.reduceAdd, Nat.reduceMul, Nat.reduceSub, Int.reduceToNat, Int.reduceNeg, Int.reduceBEq, Int.reduceBNe, cC, List.replicate_succ, List.replicate_zero, List.flatten_cons, List.flatten_nil, List.cons_append, List.nil_append, List.set_cons_zero, List.set_cons_succ, List.length_cons, List.length_nil, List.length_set, hsub, hb])
        | (refine Br.mk (fun h => ?_) (fun h => ?_) <;> simp -dsimp only [go_sem, reduceIte, reduceCtorEq, Nat.reduceEqDiff, Nat.reduceLT, Nat.reduceLeDiff, Nat.reduceAdd, Nat.reduceMul, Nat.reduceSub, Int.reduceToNat, Int.reduceNeg, h, Int.reduceBEq, Int.reduceBNe, cC, List.replicate_succ, List.replicate_zero, List.flatten_cons, List.flatten_nil, List.cons_append, List.nil_append, List.set_cons_zero, List.set_cons_succ, List.length_cons, List.length_nil, List.length_set, hsub, hb])
        | (refine CallK.flat (by first | exact CC | exact CT | exact l00In _ _ _) rfl ?_; simp -dsimp only [go_sem, reduceIte, reduceCtorEq, Nat.reduceEqDiff, Nat.reduceLT, Nat.reduceLeDiff, Nat.reduceAdd, Nat.reduceMul, Nat.reduceSub, Int.reduceToNat, Int.reduceNeg, Int.reduceBEq, Int.reduceBNe, cC, List.replicate_succ, List.replicate_zero, List.flatten_cons, List.flatten_nil, List.cons_append, List.nil_append, List.set_cons_zero, List.set_cons_succ, List.length_cons, List.length_nil, List.length_set, hsub, hb])
        | (refine CallK.pure (by first | exact CC | exact CT | exact l00In _ _ _) ?_; simp -dsimp only [go_sem, reduceIte, reduceCtorEq, Nat.reduceEqDiff, Nat.reduceLT, Nat.reduceLeDiff, Nat.reduceAdd, Nat.reduceMul, Nat.reduceSub, Int.reduceToNat, Int.reduceNeg, Int.reduceBEq, Int.reduceBNe, cC, List.replicate_succ, List.replicate_zero, List.flatten_cons, List.flatten_nil, List.cons_append, List.nil_append, List.set_cons_zero, List.set_cons_succ, List.length_cons, List.length_nil, List.length_set, hsub, hb])
        | (refine And.intro (by first | rfl | omega | decide | (refine ⟨?_, ?_⟩ <;> (first | rfl | omega | decide)) | (refine ⟨?_, ?_, ?_⟩ <;> (first | rfl | omega | decide)) | (refine ⟨?_, ?_, ?_, ?_⟩ <;> (first | rfl | omega | decide))) ?_; try simp -dsimp only [go_sem, reduceIte, reduceCtorEq, Nat.reduceEqDiff, Nat.reduceLT, Nat.reduceLeDiff, Nat.reduceAdd, Nat.reduceMul, Nat.reduceSub, Int.reduceToNat, Int.reduceNeg, Int.reduceBEq, Int.reduceBNe, cC, List.replicate_succ, List.replicate_zero, List.flatten_cons, List.flatten_nil, List.cons_append, List.nil_append, List.set_cons_zero, List.set_cons_succ, List.length_cons, List.length_nil, List.length_set, hsub, hb])
        | fail)

      all_goals first | exact ⟨_, _, rfl, rfl⟩ | trace_state
    · have hda : daC l (m : Int) k = 0 := by unfold daC; rw [if_pos h0]; simp [hb]
      obtain ⟨q, rfl, hq⟩ := inB_nat hb
      have hq' : q < geo l.length m := by simpa using hq
      obtain ⟨i, r, hi, hr, rfl⟩ := geo_split l.length m q hq'
      have e := allD_at l hl0 m i r hi hr
      have e2 : (allD l m).getD (geo0 l.length i + r) [] = atD l i r := by rw [List.getD_eq_getElem?_getD, e]; rfl
      have hL : daL l (m : Int) ((geo0 l.length i + r : Nat) : Int) = atD l i r := by unfold daL; rw [if_pos hda]; simp only [Int.toNat_natCast, e2]
      have LA := l17At l hk hl0 hl5 i r (by omega) hr
      rw [hda, hL]
      refine Cd.spec_DeckAt_ok.fn0 Try.mixed Cd.spec_DeckAt_nt Cd.spec_DeckAt_rs rfl fun X => ?_
      unfold Cd.spec_DeckAt
      simp -dsimp only [go_sem, reduceIte, reduceCtorEq, Nat.reduceEqDiff, Nat.reduceLT, Nat.reduceLeDiff, Nat.reduceAdd, Nat.reduceMul, Nat.reduceSub, Int.reduceToNat, Int.reduceNeg, Int.reduceBEq, Int.reduceBNe, cC, List.replicate_succ, List.replicate_zero, List.flatten_cons, List.flatten_nil, List.cons_append, List.nil_append, List.set_cons_zero, List.set_cons_succ, List.length_cons, List.length_nil, List.length_set, hsub, hb]
      repeat' (first
        | (refine RgK.mk rfl ?_; simp -dsimp only [go_sem, reduceIte, reduceCtorEq, Nat.reduceEqDiff, Nat.reduceLT, Nat.reduceLeDiff, Nat.reduceAdd, Nat.reduceMul, Nat.reduceSub, Int.reduceToNat, Int.reduceNeg, Int.reduceBEq, Int.reduceBNe, cC, List.replicate_succ, List.replicate_zero, List.flatten_cons, List.flatten_nil, List.cons_append, List.nil_append, List.set_cons_zero, List.set_cons_succ, List.length_cons, List.length_nil, List.length_set, hsub, hb])
        | (refine Br.mk (fun h => ?_) (fun h => ?_) <;> simp -dsimp only [go_sem, reduceIte, reduceCtorEq, Nat.reduceEqDiff, Nat.reduceLT, Nat.reduceLeDiff, Nat.reduceAdd, Nat.reduceMul, Nat.reduceSub, Int.reduceToNat, Int.reduceNeg, h, Int.reduceBEq, Int.reduceBNe, cC, List.replicate_succ, List.replicate_zero, List.flatten_cons, List.flatten_nil, List.cons_append, List.nil_append, List.set_cons_zero, List.set_cons_succ, List.length_cons, List.length_nil, List.length_set, hsub, hb])
        | (refine CallK.flat (by first | exact CC | exact CT | exact l00In _ _ _ | exact LA) rfl ?_; simp -dsimp only [go_sem, reduceIte, reduceCtorEq, Nat.reduceEqDiff, Nat.reduceLT, Nat.reduceLeDiff, Nat.reduceAdd, Nat.reduceMul, Nat.reduceSub, Int.reduceToNat, Int.reduceNeg, Int.reduceBEq, Int.reduceBNe, cC, List.replicate_succ, List.replicate_zero, List.flatten_cons, List.flatten_nil, List.cons_append, List.nil_append, List.set_cons_zero, List.set_cons_succ, List.length_cons, List.length_nil, List.length_set, hsub, hb])
        | (refine CallK.pure (by first | exact CC | exact CT | exact l00In _ _ _ | exact LA) ?_; simp -dsimp only [go_sem, reduceIte, reduceCtorEq, Nat.reduceEqDiff, Nat.reduceLT, Nat.reduceLeDiff, Nat.reduceAdd, Nat.reduceMul, Nat.reduceSub, Int.reduceToNat, Int.reduceNeg, Int.reduceBEq, Int.reduceBNe, cC, List.replicate_succ, List.replicate_zero, List.flatten_cons, List.flatten_nil, List.cons_append, List.nil_append, List.set_cons_zero, List.set_cons_succ, List.length_cons, List.length_nil, List.length_set, hsub, hb])
        | (refine And.intro (by first | rfl | omega | decide | (refine ⟨?_, ?_⟩ <;> (first | rfl | omega | decide)) | (refine ⟨?_, ?_, ?_⟩ <;> (first | rfl | omega | decide)) | (refine ⟨?_, ?_, ?_, ?_⟩ <;> (first | rfl | omega | decide))) ?_; try simp -dsimp only [go_sem, reduceIte, reduceCtorEq, Nat.reduceEqDiff, Nat.reduceLT, Nat.reduceLeDiff, Nat.reduceAdd, Nat.reduceMul, Nat.reduceSub, Int.reduceToNat, Int.reduceNeg, Int.reduceBEq, Int.reduceBNe, cC, List.replicate_succ, List.replicate_zero, List.flatten_cons, List.flatten_nil, List.cons_append, List.nil_append, List.set_cons_zero, List.set_cons_succ, List.length_cons, List.length_nil, List.length_set, hsub, hb])
        | fail)

      all_goals first | exact ⟨_, _, rfl, rfl⟩ | trace_state
  · have hda : daC l n k = codeI l n := by unfold daC; rw [if_neg h0]
    have e0 : (codeI l n != 0) = true := by simp [h0]
    have e1 : (codeI l n == 0) = false := by simp [h0]
    have hL : daL l n k = [] := by unfold daL; rw [hda, if_neg h0]
    rw [hL]
    refine tup_nil ?_
    rw [hda]
    generalize codeI l n = c at *
    refine Cd.spec_DeckAt_ok.fn0 Try.mixed Cd.spec_DeckAt_nt Cd.spec_DeckAt_rs rfl fun X => ?_
    unfold Cd.spec_DeckAt
    simp -dsimp only [go_sem, reduceIte, reduceCtorEq, Nat.reduceEqDiff, Nat.reduceLT, Nat.reduceLeDiff, Nat.reduceAdd, Nat.reduceMul, Nat.reduceSub, Int.reduceToNat, Int.reduceNeg, Int.reduceBEq, Int.reduceBNe, cC, List.replicate_succ, List.replicate_zero, List.flatten_cons, List.flatten_nil, List.cons_append, List.nil_append, List.set_cons_zero, List.set_cons_succ, List.length_cons, List.length_nil, List.length_set, e0, e1]
    repeat' (first
      | (refine RgK.mk rfl ?_; simp -dsimp only [go_sem, reduceIte, reduceCtorEq, Nat.reduceEqDiff, Nat.reduceLT, Nat.reduceLeDiff, Nat.reduceAdd, Nat.reduceMul, Nat.reduceSub, Int.reduceToNat, Int.reduceNeg, Int.reduceBEq, Int.reduceBNe, cC, List.replicate_succ, List.replicate_zero, List.flatten_cons, List.flatten_nil, List.cons_append, List.nil_append, List.set_cons_zero, List.set_cons_succ, List.length_cons, List.length_nil, List.length_set, e0, e1])
      | (refine Br.mk (fun h => ?_) (fun h => ?_) <;> simp -dsimp only [go_sem, reduceIte, reduceCtorEq, Nat.reduceEqDiff, Nat.reduceLT, Nat.reduceLeDiff, Nat.reduceAdd, Nat.reduceMul, Nat.reduceSub, Int.reduceToNat, Int.reduceNeg, h, Int.reduceBEq, Int.reduceBNe, cC, List.replicate_succ, List.replicate_zero, List.flatten_cons, List.flatten_nil, List.cons_append, List.nil_append, List.set_cons_zero, List.set_cons_succ, List.length_cons, List.length_nil, List.length_set, e0, e1])
      | (refine CallK.flat (by first | exact CC) rfl ?_; simp -dsimp only [go_sem, reduceIte, reduceCtorEq, Nat.reduceEqDiff, Nat.reduceLT, Nat.reduceLeDiff, Nat.reduceAdd, Nat.reduceMul, Nat.reduceSub, Int.reduceToNat, Int.reduceNeg, Int.reduceBEq, Int.reduceBNe, cC, List.replicate_succ, List.replicate_zero, List.flatten_cons, List.flatten_nil, List.cons_append, List.nil_append, List.set_cons_zero, List.set_cons_succ, List.length_cons, List.length_nil, List.length_set, e0, e1])
      | (refine CallK.pure (by first | exact CC) ?_; simp -dsimp only [go_sem, reduceIte, reduceCtorEq, Nat.reduceEqDiff, Nat.reduceLT, Nat.reduceLeDiff, Nat.reduceAdd, Nat.reduceMul, Nat.reduceSub, Int.reduceToNat, Int.reduceNeg, Int.reduceBEq, Int.reduceBNe, cC, List.replicate_succ, List.replicate_zero, List.flatten_cons, List.flatten_nil, List.cons_append, List.nil_append, List.set_cons_zero, List.set_cons_succ, List.length_cons, List.length_nil, List.length_set, e0, e1])
      | (refine And.intro (by first | rfl | omega | decide | (refine ⟨?_, ?_⟩ <;> (first | rfl | omega | decide)) | (refine ⟨?_, ?_, ?_⟩ <;> (first | rfl | omega | decide)) | (refine ⟨?_, ?_, ?_, ?_⟩ <;> (first | rfl | omega | decide))) ?_; try simp -dsimp only [go_sem, reduceIte, reduceCtorEq, Nat.reduceEqDiff, Nat.reduceLT, Nat.reduceLeDiff, Nat.reduceAdd, Nat.reduceMul, Nat.reduceSub, Int.reduceToNat, Int.reduceNeg, Int.reduceBEq, Int.reduceBNe, cC, List.replicate_succ, List.replicate_zero, List.flatten_cons, List.flatten_nil, List.cons_append, List.nil_append, List.set_cons_zero, List.set_cons_succ, List.length_cons, List.length_nil, List.length_set, e0, e1])
      | fail)

    all_goals first | exact ⟨_, _, rfl, rfl⟩ | trace_state

set_option maxHeartbeats 1000000 in
theorem impl_DeckAtN (l : List (List Int)) (n k : Int) (hk : smallC l) (hne : daC l n k ≠ 0) : Vs.Fn Try.prog F.impl_DeckAt [] [.sl 1 (E cC l), .v (.int .i64 n), .v (.int .i64 k)] (.tup [.v (.slice none 0 0), .v (.int .i64 (daC l n k))]) [] := by
  have CC := sampleCode l n hk.2 hk.1
  by_cases h0 : codeI l n = 0
  · obtain ⟨_, hl0, hl5, m, rfl, hm⟩ := codeI_0 h0
    rw [h0] at CC
    have hg := geo_le l.length hl5 m hm
    have hsub : IntKind.i64.wrap (((geo l.length m : Nat) : Int) - 1) = ((geo l.length m : Nat) : Int) - 1 := wrap_in (by omega) (by omega)
    have DO := decksOf l m hk.2 hl5 hm
    have SZ := sizeD (allD l m)
    rw [allD_length] at SZ
    cases hb : inB k 0 (((geo l.length m : Nat) : Int) - 1)
    · have hda : daC l (m : Int) k = 2 := by unfold daC; rw [if_pos h0]; simp [hb]
      rw [hda]
      refine Cd.impl_DeckAt_ok.fn0 Try.mixed Cd.impl_DeckAt_nt Cd.impl_DeckAt_rs rfl fun X => ?_
      unfold Cd.impl_DeckAt
      simp -dsimp only [go_sem, reduceIte, reduceCtorEq, Nat.reduceEqDiff, Nat.reduceLT, Nat.reduceLeDiff, Nat.reduceAdd, Nat.reduceMul, Nat.reduceSub, Int.reduceToNat, Int.reduceNeg, Int.reduceBEq, Int.reduceBNe, cC, List.replicate_succ, List.replicate_zero, List.flatten_cons, List.flatten_nil, List.cons_append, List.nil_append, List.set_cons_zero, List.set_cons_succ, List.length_cons, List.length_nil, List.length_set, hsub, hb]
      repeat' (first
        | (refine RgK.mk rfl ?_; simp -dsimp only [go_sem, reduceIte, reduceCtorEq, Nat.reduceEqDiff, Nat.reduceLT, Nat.reduceLeDiff, Nat.reduceAdd, Nat.reduceMul, Nat.reduceSub, Int.reduceToNat, Int.reduceNeg, Int.reduceBEq, Int.reduceBNe, cC, List.replicate_succ, List.replicate_zero, List.flatten_cons, List.flatten_nil, List.cons_append, List.nil_append, List.set_cons_zero, List.set_cons_succ, List.length_cons, List.length_nil, List.length_set, hsub, hb])
        | (refine Br.mk (fun h => ?_) (fun h => ?_) <;> simp -dsimp only [go_sem, reduceIte, reduceCtorEq, Nat.reduceEqDiff, Nat.reduceLT, Nat.reduceLeDiff, Nat.reduceAdd, Nat.reduceMul, Nat.reduceSub, Int.reduceToNat, Int.reduceNeg, h, Int.reduceBEq, Int.reduceBNe, cC, List.replicate_succ, List.replicate_zero, List.flatten_cons, List.flatten_nil, List.cons_append, List.nil_append, List.set_cons_zero, List.set_cons_succ, List.length_cons, List.length_nil, List.length_set, hsub, hb])
        | (refine CallK.flat (by first | exact CC | exact DO | exact SZ | exact inside _ _ _) rfl ?_; simp -dsimp only [go_sem, reduceIte, reduceCtorEq, Nat.reduceEqDiff, Nat.reduceLT, Nat.reduceLeDiff, Nat.reduceAdd, Nat.reduceMul, Nat.reduceSub, Int.reduceToNat, Int.reduceNeg, Int.reduceBEq, Int.reduceBNe, cC, List.replicate_succ, List.replicate_zero, List.flatten_cons, List.flatten_nil, List.cons_append, List.nil_append, List.set_cons_zero, List.set_cons_succ, List.length_cons, List.length_nil, List.length_set, hsub, hb])
        | (refine CallK.pure (by first | exact CC | exact DO | exact SZ | exact inside _ _ _) ?_; simp -dsimp only [go_sem, reduceIte, reduceCtorEq, Nat.reduceEqDiff, Nat.reduceLT, Nat.reduceLeDiff, Nat.reduceAdd, Nat.reduceMul, Nat.reduceSub, Int.reduceToNat, Int.reduceNeg, Int.reduceBEq, Int.reduceBNe, cC, List.replicate_succ, List.replicate_zero, List.flatten_cons, List.flatten_nil, List.cons_append, List.nil_append, List.set_cons_zero, List.set_cons_succ, List.length_cons, List.length_nil, List.length_set, hsub, hb])
        | (refine And.intro (by first | rfl | omega | decide | (refine ⟨?_, ?_⟩ <;> (first | rfl | omega | decide)) | (refine ⟨?_, ?_, ?_⟩ <;> (first | rfl | omega | decide)) | (refine ⟨?_, ?_, ?_, ?_⟩ <;> (first | rfl | omega | decide))) ?_; try simp -dsimp only [go_sem, reduceIte, reduceCtorEq, Nat.reduceEqDiff, Nat.reduceLT, Nat.reduceLeDiff, Nat.reduceAdd, Nat.reduceMul, Nat.reduceSub, Int.reduceToNat, Int.reduceNeg, Int.reduceBEq, Int.reduceBNe, cC, List.replicate_succ, List.replicate_zero, List.flatten_cons, List.flatten_nil, List.cons_append, List.nil_append, List.set_cons_zero, List.set_cons_succ, List.length_cons, List.length_nil, List.length_set, hsub, hb])
        | fail)

      all_goals first | exact ⟨_, _, rfl, rfl⟩ | trace_state
    · have hda : daC l (m : Int) k = 0 := by unfold daC; rw [if_pos h0]; simp [hb]
      exact (hne hda).elim
  · have hda : daC l n k = codeI l n := by unfold daC; rw [if_neg h0]
    have e0 : (codeI l n != 0) = true := by simp [h0]
    have e1 : (codeI l n == 0) = false := by simp [h0]
    rw [hda]
    generalize codeI l n = c at *
    refine Cd.impl_DeckAt_ok.fn0 Try.mixed Cd.impl_DeckAt_nt Cd.impl_DeckAt_rs rfl fun X => ?_
    unfold Cd.impl_DeckAt
    simp -dsimp only [go_sem, reduceIte, reduceCtorEq, Nat.reduceEqDiff, Nat.reduceLT, Nat.reduceLeDiff, Nat.reduceAdd, Nat.reduceMul, Nat.reduceSub, Int.reduceToNat, Int.reduceNeg, Int.reduceBEq, Int.reduceBNe, cC, List.replicate_succ, List.replicate_zero, List.flatten_cons, List.flatten_nil, List.cons_append, List.nil_append, List.set_cons_zero, List.set_cons_succ, List.length_cons, List.length_nil, List.length_set, e0, e1]
    repeat' (first
      | (refine RgK.mk rfl ?_; simp -dsimp only [go_sem, reduceIte, reduceCtorEq, Nat.reduceEqDiff, Nat.reduceLT, Nat.reduceLeDiff, Nat.reduceAdd, Nat.reduceMul, Nat.reduceSub, Int.reduceToNat, Int.reduceNeg, Int.reduceBEq, Int.reduceBNe, cC, List.replicate_succ, List.replicate_zero, List.flatten_cons, List.flatten_nil, List.cons_append, List.nil_append, List.set_cons_zero, List.set_cons_succ, List.length_cons, List.length_nil, List.length_set, e0, e1])
      | (refine Br.mk (fun h => ?_) (fun h => ?_) <;> simp -dsimp only [go_sem, reduceIte, reduceCtorEq, Nat.reduceEqDiff, Nat.reduceLT, Nat.reduceLeDiff, Nat.reduceAdd, Nat.reduceMul, Nat.reduceSub, Int.reduceToNat, Int.reduceNeg, h, Int.reduceBEq, Int.reduceBNe, cC, List.replicate_succ, List.replicate_zero, List.flatten_cons, List.flatten_nil, List.cons_append, List.nil_append, List.set_cons_zero, List.set_cons_succ, List.length_cons, List.length_nil, List.length_set, e0, e1])
      | (refine CallK.flat (by first | exact CC) rfl ?_; simp -dsimp only [go_sem, reduceIte, reduceCtorEq, Nat.reduceEqDiff, Nat.reduceLT, Nat.reduceLeDiff, Nat.reduceAdd, Nat.reduceMul, Nat.reduceSub, Int.reduceToNat, Int.reduceNeg, Int.reduceBEq, Int.reduceBNe, cC, List.replicate_succ, List.replicate_zero, List.flatten_cons, List.flatten_nil, List.cons_append, List.nil_append, List.set_cons_zero, List.set_cons_succ, List.length_cons, List.length_nil, List.length_set, e0, e1])
      | (refine CallK.pure (by first | exact CC) ?_; simp -dsimp only [go_sem, reduceIte, reduceCtorEq, Nat.reduceEqDiff, Nat.reduceLT, Nat.reduceLeDiff, Nat.reduceAdd, Nat.reduceMul, Nat.reduceSub, Int.reduceToNat, Int.reduceNeg, Int.reduceBEq, Int.reduceBNe, cC, List.replicate_succ, List.replicate_zero, List.flatten_cons, List.flatten_nil, List.cons_append, List.nil_append, List.set_cons_zero, List.set_cons_succ, List.length_cons, List.length_nil, List.length_set, e0, e1])
      | (refine And.intro (by first | rfl | omega | decide | (refine ⟨?_, ?_⟩ <;> (first | rfl | omega | decide)) | (refine ⟨?_, ?_, ?_⟩ <;> (first | rfl | omega | decide)) | (refine ⟨?_, ?_, ?_, ?_⟩ <;> (first | rfl | omega | decide))) ?_; try simp -dsimp only [go_sem, reduceIte, reduceCtorEq, Nat.reduceEqDiff, Nat.reduceLT, Nat.reduceLeDiff, Nat.reduceAdd, Nat.reduceMul, Nat.reduceSub, Int.reduceToNat, Int.reduceNeg, Int.reduceBEq, Int.reduceBNe, cC, List.replicate_succ, List.replicate_zero, List.flatten_cons, List.flatten_nil, List.cons_append, List.nil_append, List.set_cons_zero, List.set_cons_succ, List.length_cons, List.length_nil, List.length_set, e0, e1])
      | fail)

    all_goals first | exact ⟨_, _, rfl, rfl⟩ | trace_state
end Go.Proofs.Ytokfhfdnmnblfaa
