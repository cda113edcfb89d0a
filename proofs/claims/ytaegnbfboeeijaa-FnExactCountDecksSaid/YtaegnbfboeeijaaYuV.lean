/- The law FnExactCountDecks returns true for every input, and its arguments read behind the call as they read before. Conditions: none beyond the given statement. -/
import Derived.Test.YtaegnbfboeeijaaYuU
import Derived.Test.YtaegnbfboeeijaaYuO
namespace Go.Proofs.Ytaegnbfboeeijaa
open Go.Vs
set_option linter.unusedSimpArgs false
set_option linter.unusedVariables false
attribute [local irreducible] Vs.Fn

theorem szGo_memC {α : Type} {f : α → Int → Int} : ∀ {l : List α} {n : Int}, (∀ x, x ∈ l → ∀ n, 0 ≤ n → n ≤ 1048576 → 0 ≤ f x n → f x n ≤ n) → 0 ≤ n → n ≤ 1048576 → 0 ≤ szGo f l n → ∀ x, x ∈ l → ∃ m, 0 ≤ m ∧ m ≤ 1048576 ∧ 0 ≤ f x m
  | [], n, _, _, _, _, x, hx => by cases hx
  | y :: r, n, hf, h0, hn, h, x, hx => by
    simp only [szGo] at h
    split at h
    · omega
    · rename_i h1
      rcases List.mem_cons.1 hx with rfl | hx
      · exact ⟨n, h0, hn, by omega⟩
      · have h2 := hf y (by simp) n h0 hn (by omega)
        exact szGo_memC (fun z hz => hf z (by simp [hz])) (by omega) (by omega) h x hx
theorem szL_memC {α : Type} {f : α → Int → Int} {l : List α} {n : Int} (hf : ∀ x, x ∈ l → ∀ n, 0 ≤ n → n ≤ 1048576 → 0 ≤ f x n → f x n ≤ n) (hl : l.length < 2 ^ 63) (hn : 0 ≤ n ∧ n ≤ 1048576) (h : ¬ szL f l n < 0) : ∀ x, x ∈ l → ∃ m, 0 ≤ m ∧ m ≤ 1048576 ∧ 0 ≤ f x m := by
  unfold szL at h
  split at h
  · omega
  · rename_i h1
    rw [wrap_in (by omega) (by omega)] at h h1
    exact szGo_memC (n := n - l.length) hf (by omega) (by omega) (by omega)
/-- the number of decks, where there is one -/
def cntI (l : List (List Int)) (n : Int) : Int := if codeI l n = 0 then (geo l.length n.toNat : Nat) else 0
theorem code_zero {l : List (List Int)} {n : Int} (h : codeI l n = 0) : l.length ≤ 5 ∧ ∃ k : Nat, n = k ∧ k ≤ 3 := by
  unfold codeI at h
  split at h
  · rename_i h1
    split at h
    · rename_i h2
      simp [sampB, inB] at h1 h2
      exact ⟨by omega, n.toNat, by omega, by omega⟩
    · cases h
  · cases h
theorem sizeD (l : List (List (List Int))) : Vs.Fn Try.prog F.impl_size___impl_Card_ [] [.sl 1 (E cD l)] (.v (.int .i64 l.length)) [] := by
  refine Cd.impl_size___impl_Card__ok.fn0 Try.mixed Cd.impl_size___impl_Card__nt Cd.impl_size___impl_Card__rs rfl fun X => ?_
  unfold Cd.impl_size___impl_Card_
  simp -dsimp only [go_sem, reduceIte, reduceCtorEq, Nat.reduceEqDiff, Nat.reduceLT, Nat.reduceLeDiff, Nat.reduceAdd, Nat.reduceMul, Nat.reduceSub, Int.reduceToNat, Int.reduceNeg]
  repeat' (first
    | (refine RgK.mk rfl ?_; simp -dsimp only [go_sem, reduceIte, reduceCtorEq, Nat.reduceEqDiff, Nat.reduceLT, Nat.reduceLeDiff, Nat.reduceAdd, Nat.reduceMul, Nat.reduceSub, Int.reduceToNat, Int.reduceNeg])
    | (refine Br.mk (fun h => ?_) (fun h => ?_) <;> simp -dsimp only [go_sem, reduceIte, reduceCtorEq, Nat.reduceEqDiff, Nat.reduceLT, Nat.reduceLeDiff, Nat.reduceAdd, Nat.reduceMul, Nat.reduceSub, Int.reduceToNat, Int.reduceNeg, h])
    | (refine And.intro (by first | rfl | decide | omega | exact ⟨rfl, rfl⟩) ?_))
  all_goals (simp_all)

theorem spec_CountDecks (l : List (List Int)) (n : Int) (hs : ∀ x, x ∈ l → x.length ≤ 1048576) (hl : l.length ≤ 1048576) : Vs.Fn Try.prog F.spec_CountDecks [] [.sl 1 (E cC l), .v (.int .i64 n)] (.tup [.v (.int .i64 (cntI l n)), .v (.int .i64 (codeI l n))]) [] := by
  refine Cd.spec_CountDecks_ok.fn0 Try.mixed Cd.spec_CountDecks_nt Cd.spec_CountDecks_rs rfl fun X => ?_
  unfold Cd.spec_CountDecks
  simp -dsimp only [go_sem, reduceIte, reduceCtorEq, Nat.reduceEqDiff, Nat.reduceLT, Nat.reduceLeDiff, Nat.reduceAdd, Nat.reduceMul, Nat.reduceSub, Int.reduceToNat, Int.reduceNeg]
  refine CallK.flat (l17Code l n hs hl) rfl ?_
  simp -dsimp only [go_sem, reduceIte, reduceCtorEq, Nat.reduceEqDiff, Nat.reduceLT, Nat.reduceLeDiff, Nat.reduceAdd, Nat.reduceMul, Nat.reduceSub, Int.reduceToNat, Int.reduceNeg]
  refine Br.mk (fun h => ?_) fun h => ?_
  · simp -dsimp only [go_sem, reduceIte, reduceCtorEq, Nat.reduceEqDiff, Nat.reduceLT, Nat.reduceLeDiff, Nat.reduceAdd, Nat.reduceMul, Nat.reduceSub, Int.reduceToNat, Int.reduceNeg]
    have h0 : codeI l n ≠ 0 := by simpa using h
    simp [cntI, h0]
  · have h0 : codeI l n = 0 := by simpa using h
    obtain ⟨h5, k, rfl, hk⟩ := code_zero h0
    simp -dsimp only [go_sem, reduceIte, reduceCtorEq, Nat.reduceEqDiff, Nat.reduceLT, Nat.reduceLeDiff, Nat.reduceAdd, Nat.reduceMul, Nat.reduceSub, Int.reduceToNat, Int.reduceNeg]
    refine CallK.flat (l17Count l.length k h5 hk) rfl ?_
    simp -dsimp only [go_sem, reduceIte, reduceCtorEq, Nat.reduceEqDiff, Nat.reduceLT, Nat.reduceLeDiff, Nat.reduceAdd, Nat.reduceMul, Nat.reduceSub, Int.reduceToNat, Int.reduceNeg]
    simp [cntI, h0]

theorem impl_CountDecks (l : List (List Int)) (n : Int) (hs : ∀ x, x ∈ l → x.length ≤ 1048576) (hl : l.length ≤ 1048576) : Vs.Fn Try.prog F.impl_CountDecks [] [.sl 1 (E cC l), .v (.int .i64 n)] (.tup [.v (.int .i64 (cntI l n)), .v (.int .i64 (codeI l n))]) [] := by
  refine Cd.impl_CountDecks_ok.fn0 Try.mixed Cd.impl_CountDecks_nt Cd.impl_CountDecks_rs rfl fun X => ?_
  unfold Cd.impl_CountDecks
  simp -dsimp only [go_sem, reduceIte, reduceCtorEq, Nat.reduceEqDiff, Nat.reduceLT, Nat.reduceLeDiff, Nat.reduceAdd, Nat.reduceMul, Nat.reduceSub, Int.reduceToNat, Int.reduceNeg]
  refine CallK.flat (sampleCode l n hs hl) rfl ?_
  simp -dsimp only [go_sem, reduceIte, reduceCtorEq, Nat.reduceEqDiff, Nat.reduceLT, Nat.reduceLeDiff, Nat.reduceAdd, Nat.reduceMul, Nat.reduceSub, Int.reduceToNat, Int.reduceNeg]
  refine Br.mk (fun h => ?_) fun h => ?_
  · simp -dsimp only [go_sem, reduceIte, reduceCtorEq, Nat.reduceEqDiff, Nat.reduceLT, Nat.reduceLeDiff, Nat.reduceAdd, Nat.reduceMul, Nat.reduceSub, Int.reduceToNat, Int.reduceNeg]
    have h0 : codeI l n ≠ 0 := by simpa using h
    simp [cntI, h0]
  · have h0 : codeI l n = 0 := by simpa using h
    obtain ⟨h5, k, rfl, hk⟩ := code_zero h0
    simp -dsimp only [go_sem, reduceIte, reduceCtorEq, Nat.reduceEqDiff, Nat.reduceLT, Nat.reduceLeDiff, Nat.reduceAdd, Nat.reduceMul, Nat.reduceSub, Int.reduceToNat, Int.reduceNeg]
    refine CallK.pure (decksOf l k hs h5 hk) ?_
    simp -dsimp only [go_sem, reduceIte, reduceCtorEq, Nat.reduceEqDiff, Nat.reduceLT, Nat.reduceLeDiff, Nat.reduceAdd, Nat.reduceMul, Nat.reduceSub, Int.reduceToNat, Int.reduceNeg]
    refine CallK.flat (sizeD _) rfl ?_
    simp -dsimp only [go_sem, reduceIte, reduceCtorEq, Nat.reduceEqDiff, Nat.reduceLT, Nat.reduceLeDiff, Nat.reduceAdd, Nat.reduceMul, Nat.reduceSub, Int.reduceToNat, Int.reduceNeg]
    simp [cntI, h0, allD_length]

theorem law_CountDecks (l : List (List Int)) (n : Int) (hs0 : ∀ x, x ∈ l → x.length < 2 ^ 63) (hl : l.length < 2 ^ 63) : Vs.Fn Try.prog F.laws_FnExactCountDecks [] [.sl 1 (E cC l), .v (.int .i64 n)] (.v (.bool true)) [] := by
  refine Cd.laws_FnExactCountDecks_ok.fn0 Try.mixed Cd.laws_FnExactCountDecks_nt Cd.laws_FnExactCountDecks_rs rfl fun X => ?_
  unfold Cd.laws_FnExactCountDecks
  simp -dsimp only [go_sem, reduceIte, reduceCtorEq, Nat.reduceEqDiff, Nat.reduceLT, Nat.reduceLeDiff, Nat.reduceAdd, Nat.reduceMul, Nat.reduceSub, Int.reduceToNat, Int.reduceNeg]
  refine CallK.flat (szCardS l 1048576 hs0 hl (by omega)) rfl ?_
  simp -dsimp only [go_sem, reduceIte, reduceCtorEq, Nat.reduceEqDiff, Nat.reduceLT, Nat.reduceLeDiff, Nat.reduceAdd, Nat.reduceMul, Nat.reduceSub, Int.reduceToNat, Int.reduceNeg]
  refine Br.mk (fun h1 => by simp -dsimp only [go_sem, reduceIte, reduceCtorEq, Nat.reduceEqDiff, Nat.reduceLT, Nat.reduceLeDiff, Nat.reduceAdd, Nat.reduceMul, Nat.reduceSub, Int.reduceToNat, Int.reduceNeg]; simp) (fun h1 => ?_)
  simp -dsimp only [go_sem, reduceIte, reduceCtorEq, Nat.reduceEqDiff, Nat.reduceLT, Nat.reduceLeDiff, Nat.reduceAdd, Nat.reduceMul, Nat.reduceSub, Int.reduceToNat, Int.reduceNeg]
  simp only [decide_eq_false_iff_not] at h1
  have hl1 : l.length ≤ 1048576 := by have := szL_len hl (by omega) h1; omega
  have hs : ∀ x, x ∈ l → x.length ≤ 1048576 := by
    intro x hx
    obtain ⟨m, h2, h3, h4⟩ := szL_memC (fun x hx n h0 hn h => (szI_le (hs0 x hx) h0 hn h).1) hl (by omega) h1 x hx
    have := (szI_le (hs0 x hx) h2 h3 h4).2
    omega
  repeat' (first
    | (refine RgK.mk rfl ?_; simp -dsimp only [go_sem, reduceIte, reduceCtorEq, Nat.reduceEqDiff, Nat.reduceLT, Nat.reduceLeDiff, Nat.reduceAdd, Nat.reduceMul, Nat.reduceSub, Int.reduceToNat, Int.reduceNeg])
    | (refine Br.mk (fun h => ?_) (fun h => ?_) <;> simp -dsimp only [go_sem, reduceIte, reduceCtorEq, Nat.reduceEqDiff, Nat.reduceLT, Nat.reduceLeDiff, Nat.reduceAdd, Nat.reduceMul, Nat.reduceSub, Int.reduceToNat, Int.reduceNeg, h])
    | (refine CallK.flat (by first | exact toCardS l hs hl1 | exact spec_CountDecks l n hs hl1 | exact impl_CountDecks l n hs hl1 | exact eqCardS l hs hl1) rfl ?_; simp -dsimp only [go_sem, reduceIte, reduceCtorEq, Nat.reduceEqDiff, Nat.reduceLT, Nat.reduceLeDiff, Nat.reduceAdd, Nat.reduceMul, Nat.reduceSub, Int.reduceToNat, Int.reduceNeg])
    | (refine CallK.pure (by first | exact toCardS l hs hl1 | exact spec_CountDecks l n hs hl1 | exact impl_CountDecks l n hs hl1 | exact eqCardS l hs hl1) ?_; simp -dsimp only [go_sem, reduceIte, reduceCtorEq, Nat.reduceEqDiff, Nat.reduceLT, Nat.reduceLeDiff, Nat.reduceAdd, Nat.reduceMul, Nat.reduceSub, Int.reduceToNat, Int.reduceNeg])
    | (refine And.intro (by first | rfl | decide | omega | exact ⟨rfl, rfl⟩) ?_))
  all_goals simp_all


set_option maxRecDepth 100000 in
theorem countdecks_lifted (os : Os) (started : os.Started) (H : Type) (enc : TypeId × Value → H) :
    ReturnsInHanded {} Try.checked os F.laws_FnExactCountDecks .any (Rows.fnExactCountDecksSpec.pre6 enc Try.prog Try.f10 Rows.fnExactCountDecksRow.domain false) (Rows.fnExactCountDecksSpec.post enc Try.prog Try.f10 false true false false) :=
  law_returns (C := Try.checked) Try.own started (by kernel_rfl) Try.func10
    (ChangeSpec.witness6 (enc := enc) (C := Try.checked) false ⟨#[], #[.slice none 0 0, .int .i64 0], []⟩ 8 (by kernel_rfl) (by kernel_rfl) (by kernel_rfl) (by kernel_rfl))
    Try.laidOut (by kernel_rfl) rfl Try.underlying4 rfl (fun ds h => by match ds, h with | [_, _], _ => exact ⟨rfl, rfl, rfl⟩)
    (Args.cons (Arg.slice Try.underlying71 oCards) (Args.cons (Arg.int Try.underlying2 (by kernel_rfl)) Args.nil)) (fun a => by
      have h := law_CountDecks (a.1.1.map fun d => d.1.map fun n => n.1) a.2.1.1 (fun x hx => by obtain ⟨p, _, rfl⟩ := List.mem_map.1 hx; simpa using p.2) (by simpa using a.1.2)
      rw [E_map] at h
      simp only [cC, E_map] at h
      exact h)

theorem countdecks_holds : Rows.FnExactCountDecksSaid :=
  OpenClaim.holds_of_wide 10 Try.f10 rfl rfl rfl rfl rfl rfl rfl ⟨rfl, rfl, rfl, rfl, rfl⟩ rfl rfl rfl rfl rfl (by kernel_rfl) Try.func10 (by kernel_rfl)
    (of_decide_eq_true (by kernel_rfl)) (by unfold Func.isWrapper; first | (rw [if_pos (by decide +kernel)]; kernel_rfl) | (rw [if_neg (by decide +kernel)]; exact ⟨rfl, rfl⟩))
    (fun os started H enc _ => countdecks_lifted os started H enc)
#print axioms countdecks_holds
end Go.Proofs.Ytaegnbfboeeijaa
