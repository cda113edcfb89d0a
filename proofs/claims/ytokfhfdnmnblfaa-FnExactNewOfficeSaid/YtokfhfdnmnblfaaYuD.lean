/-
  The laws FnExactSameTotals and FnExactSameFlow return true for every input, and their arguments read behind the call as they read before. Conditions: none beyond the given statements.
-/
import Derived.Test.YtokfhfdnmnblfaaYuB
import Derived.Test.YtokfhfdnmnblfaaVtJ
namespace Go.Proofs.Ytokfhfdnmnblfaa
open Go.Vs
set_option linter.unusedSectionVars false
variable [Vs.Envs]
set_option linter.unusedSimpArgs false
set_option linter.unusedVariables false
attribute [local irreducible] Vs.Fn
/-- a card's one cell: its columns -/
def cC (c : List Int) : List AV := [.sl 1 (E cI c)]
/-- a deck's one cell: its cards -/
def cD (d : List (List Int)) : List AV := [.sl 1 (E cC d)]
theorem szInt64S (l : List Int) (n : Int) : Vs.Fn Try.prog F.laws_szInt64S [] [.sl 1 (E cI l), .v (.int .i64 n)] (.v (.int .i64 (szI l n))) [] :=
  szI_fn Try.mixed Cd.laws_szInt64S_ok Cd.laws_szInt64S_nt Cd.laws_szInt64S_rs rfl l n
theorem toInt64S {l : List Int} (hl : l.length ≤ 1048576) : Vs.Fn Try.prog F.laws_toInt64S [] [.sl 1 (E cI l)] (.sl 1 (E cI l)) [] :=
  toI_fn Try.mixed Cd.laws_toInt64S_ok Cd.laws_toInt64S_nt Cd.laws_toInt64S_rs rfl hl
theorem eqInt64S {l : List Int} (hl : l.length ≤ 1048576) : Vs.Fn Try.prog F.laws_eqInt64S [] [.sl 1 (E cI l), .sl 1 (E cI l)] (.v (.bool true)) [] :=
  eqI_fn Try.mixed Cd.laws_eqInt64S_ok Cd.laws_eqInt64S_nt Cd.laws_eqInt64S_rs rfl hl
theorem szI_neg {l : List Int} {n : Int} (h : szI l n < 0) : szI l n = -1 := by
  unfold szI at h ⊢
  split
  · rfl
  · rename_i h1; rw [if_neg h1] at h; exact absurd h h1

theorem szCard (c : List Int) (n : Int) : Vs.Fn Try.prog F.laws_szCard [] [.agg (cC c), .v (.int .i64 n)] (.v (.int .i64 (szI c n))) [] := by
  refine Cd.laws_szCard_ok.fn0 Try.mixed Cd.laws_szCard_nt Cd.laws_szCard_rs rfl fun X => ?_
  unfold Cd.laws_szCard
  simp -dsimp only [go_sem, reduceIte, reduceCtorEq, Nat.reduceEqDiff, Nat.reduceLT, Nat.reduceLeDiff, Nat.reduceAdd, Nat.reduceMul, Nat.reduceSub, Int.reduceToNat, Int.reduceNeg, cC]
  repeat' (first
    | (refine RgK.mk rfl ?_; simp -dsimp only [go_sem, reduceIte, reduceCtorEq, Nat.reduceEqDiff, Nat.reduceLT, Nat.reduceLeDiff, Nat.reduceAdd, Nat.reduceMul, Nat.reduceSub, Int.reduceToNat, Int.reduceNeg, cC])
    | (refine Br.mk (fun h => ?_) (fun h => ?_) <;> simp -dsimp only [go_sem, reduceIte, reduceCtorEq, Nat.reduceEqDiff, Nat.reduceLT, Nat.reduceLeDiff, Nat.reduceAdd, Nat.reduceMul, Nat.reduceSub, Int.reduceToNat, Int.reduceNeg, h, cC])
    | (refine CallK.flat (by first | exact szInt64S c _) rfl ?_; simp -dsimp only [go_sem, reduceIte, reduceCtorEq, Nat.reduceEqDiff, Nat.reduceLT, Nat.reduceLeDiff, Nat.reduceAdd, Nat.reduceMul, Nat.reduceSub, Int.reduceToNat, Int.reduceNeg, cC])
    | (refine CallK.pure (by first | exact szInt64S c _) ?_; simp -dsimp only [go_sem, reduceIte, reduceCtorEq, Nat.reduceEqDiff, Nat.reduceLT, Nat.reduceLeDiff, Nat.reduceAdd, Nat.reduceMul, Nat.reduceSub, Int.reduceToNat, Int.reduceNeg, cC])
    | (refine And.intro (by first | rfl | omega | decide | (refine ⟨?_, ?_⟩ <;> (first | rfl | omega | decide)) | (refine ⟨?_, ?_, ?_⟩ <;> (first | rfl | omega | decide)) | (refine ⟨?_, ?_, ?_, ?_⟩ <;> (first | rfl | omega | decide))) ?_)
    | fail)
  all_goals (first | (simp_all [szI_neg]; done) | (refine ret_eq ?_; rw [szI_neg (by simpa using by assumption)]))

theorem szCardS (l : List (List Int)) (n : Int) (hs : ∀ x, x ∈ l → x.length < 2 ^ 63) (hl : l.length < 2 ^ 63) (hn : 0 ≤ n ∧ n ≤ 1048576) : Vs.Fn Try.prog F.laws_szCardS [] [.sl 1 (E cC l), .v (.int .i64 n)] (.v (.int .i64 (szL szI l n))) [] :=
  szS_fn Try.mixed (k := 1) (c := cC) (g := F.laws_szCard) Cd.laws_szCardS_ok Cd.laws_szCardS_nt Cd.laws_szCardS_rs rfl szI (fun _ => rfl) (fun _ => rfl) (fun x _ n _ _ => szCard x n) (fun x hx n h0 hn h => (szI_le (hs x hx) h0 hn h).1) n hl hn
theorem toCard (c : List Int) (hc : c.length ≤ 1048576) : Vs.Fn Try.prog F.laws_toCard [] [.agg (cC c)] (.agg (cC c)) [] := by
  refine Cd.laws_toCard_ok.fn0 Try.mixed Cd.laws_toCard_nt Cd.laws_toCard_rs rfl fun X => ?_
  unfold Cd.laws_toCard
  simp -dsimp only [go_sem, reduceIte, reduceCtorEq, Nat.reduceEqDiff, Nat.reduceLT, Nat.reduceLeDiff, Nat.reduceAdd, Nat.reduceMul, Nat.reduceSub, Int.reduceToNat, Int.reduceNeg, cC]
  repeat' (first
    | (refine RgK.mk rfl ?_; simp -dsimp only [go_sem, reduceIte, reduceCtorEq, Nat.reduceEqDiff, Nat.reduceLT, Nat.reduceLeDiff, Nat.reduceAdd, Nat.reduceMul, Nat.reduceSub, Int.reduceToNat, Int.reduceNeg, cC])
    | (refine Br.mk (fun h => ?_) (fun h => ?_) <;> simp -dsimp only [go_sem, reduceIte, reduceCtorEq, Nat.reduceEqDiff, Nat.reduceLT, Nat.reduceLeDiff, Nat.reduceAdd, Nat.reduceMul, Nat.reduceSub, Int.reduceToNat, Int.reduceNeg, h, cC])
    | (refine CallK.flat (by first | exact toInt64S hc) rfl ?_; simp -dsimp only [go_sem, reduceIte, reduceCtorEq, Nat.reduceEqDiff, Nat.reduceLT, Nat.reduceLeDiff, Nat.reduceAdd, Nat.reduceMul, Nat.reduceSub, Int.reduceToNat, Int.reduceNeg, cC])
    | (refine CallK.pure (by first | exact toInt64S hc) ?_; simp -dsimp only [go_sem, reduceIte, reduceCtorEq, Nat.reduceEqDiff, Nat.reduceLT, Nat.reduceLeDiff, Nat.reduceAdd, Nat.reduceMul, Nat.reduceSub, Int.reduceToNat, Int.reduceNeg, cC])
    | (refine And.intro (by first | rfl | omega | decide | (refine ⟨?_, ?_⟩ <;> (first | rfl | omega | decide)) | (refine ⟨?_, ?_, ?_⟩ <;> (first | rfl | omega | decide)) | (refine ⟨?_, ?_, ?_, ?_⟩ <;> (first | rfl | omega | decide))) ?_)
    | fail)
  all_goals (exact ⟨_, _, rfl, rfl⟩)

theorem toCardS (l : List (List Int)) (hs : ∀ x, x ∈ l → x.length ≤ 1048576) (hl : l.length ≤ 1048576) : Vs.Fn Try.prog F.laws_toCardS [] [.sl 1 (E cC l)] (.sl 1 (E cC l)) [] :=
  toS_fn Try.mixed (k := 1) (y := 24) (c := cC) (z := [.v (.slice none 0 0)]) (g := F.laws_toCard) Cd.laws_toCardS_ok Cd.laws_toCardS_nt Cd.laws_toCardS_rs rfl (fun _ => rfl) (by omega) rfl rfl (fun _ => rfl) (fun x hx => toCard x (hs x hx)) hl (by omega)
theorem eqCard (c : List Int) (hc : c.length ≤ 1048576) : Vs.Fn Try.prog F.laws_eqCard [] [.agg (cC c), .agg (cC c)] (.v (.bool true)) [] := by
  refine Cd.laws_eqCard_ok.fn0 Try.mixed Cd.laws_eqCard_nt Cd.laws_eqCard_rs rfl fun X => ?_
  unfold Cd.laws_eqCard
  simp -dsimp only [go_sem, reduceIte, reduceCtorEq, Nat.reduceEqDiff, Nat.reduceLT, Nat.reduceLeDiff, Nat.reduceAdd, Nat.reduceMul, Nat.reduceSub, Int.reduceToNat, Int.reduceNeg, cC]
  repeat' (first
    | (refine RgK.mk rfl ?_; simp -dsimp only [go_sem, reduceIte, reduceCtorEq, Nat.reduceEqDiff, Nat.reduceLT, Nat.reduceLeDiff, Nat.reduceAdd, Nat.reduceMul, Nat.reduceSub, Int.reduceToNat, Int.reduceNeg, cC])
    | (refine Br.mk (fun h => ?_) (fun h => ?_) <;> simp -dsimp only [go_sem, reduceIte, reduceCtorEq, Nat.reduceEqDiff, Nat.reduceLT, Nat.reduceLeDiff, Nat.reduceAdd, Nat.reduceMul, Nat.reduceSub, Int.reduceToNat, Int.reduceNeg, h, cC])
    | (refine CallK.flat (by first | exact eqInt64S hc) rfl ?_; simp -dsimp only [go_sem, reduceIte, reduceCtorEq, Nat.reduceEqDiff, Nat.reduceLT, Nat.reduceLeDiff, Nat.reduceAdd, Nat.reduceMul, Nat.reduceSub, Int.reduceToNat, Int.reduceNeg, cC])
    | (refine CallK.pure (by first | exact eqInt64S hc) ?_; simp -dsimp only [go_sem, reduceIte, reduceCtorEq, Nat.reduceEqDiff, Nat.reduceLT, Nat.reduceLeDiff, Nat.reduceAdd, Nat.reduceMul, Nat.reduceSub, Int.reduceToNat, Int.reduceNeg, cC])
    | (refine And.intro (by first | rfl | omega | decide | (refine ⟨?_, ?_⟩ <;> (first | rfl | omega | decide)) | (refine ⟨?_, ?_, ?_⟩ <;> (first | rfl | omega | decide)) | (refine ⟨?_, ?_, ?_, ?_⟩ <;> (first | rfl | omega | decide))) ?_)
    | fail)
  all_goals (simp_all)

theorem eqCardS (l : List (List Int)) (hs : ∀ x, x ∈ l → x.length ≤ 1048576) (hl : l.length ≤ 1048576) : Vs.Fn Try.prog F.laws_eqCardS [] [.sl 1 (E cC l), .sl 1 (E cC l)] (.v (.bool true)) [] :=
  eqS_fn Try.mixed (k := 1) (c := cC) (g := F.laws_eqCard) Cd.laws_eqCardS_ok Cd.laws_eqCardS_nt Cd.laws_eqCardS_rs rfl (fun _ => rfl) (fun _ => rfl) (fun x hx => eqCard x (hs x hx)) hl

/-- a card is of 1 to 20 columns, of 0 to 4095 each -/
def cardB (c : List Int) : Bool := c.all (fun x => inB x 0 4095) && inB c.length 1 20
theorem l02Ok (c : List Int) (hc : c.length ≤ 1048576) : Vs.Fn Try.prog F.spec_l02Ok [] [.ro (cC c)] (.v (.bool (cardB c))) [] := by
  refine Cd.spec_l02Ok_ok.fn0 Try.mixed Cd.spec_l02Ok_nt Cd.spec_l02Ok_rs rfl fun X => ?_
  unfold Cd.spec_l02Ok
  simp -dsimp only [go_sem, reduceIte, reduceCtorEq, Nat.reduceEqDiff, Nat.reduceLT, Nat.reduceLeDiff, Nat.reduceAdd, Nat.reduceMul, Nat.reduceSub, Int.reduceToNat, Int.reduceNeg, cC]
  refine LoopK.intro (drawn_ok Try.mixed) (fun i : { i : Nat // i ≤ c.length ∧ (c.take i).all (fun x => inB x 0 4095) = true } => ⟨[(0, .ro [.sl 1 (E cI c)]), (3, .v (.int .i64 i.1))], []⟩) (fun i => c.length - i.1) ⟨0, by simp⟩ ?_ ?_
  · simp [Vs.LeL, Vs.look]
  · rintro ⟨i, hi, hall⟩
    simp -dsimp only [go_sem, reduceIte, reduceCtorEq, Nat.reduceEqDiff, Nat.reduceLT, Nat.reduceLeDiff, Nat.reduceAdd, Nat.reduceMul, Nat.reduceSub, Int.reduceToNat, Int.reduceNeg]
    refine Br.mk (fun h1 => ?_) fun h1 => ?_
    · have hlt : i < c.length := by simpa using h1
      have hw := wrap_succ hlt hc
      simp -dsimp only [go_sem, reduceIte, reduceCtorEq, Nat.reduceEqDiff, Nat.reduceLT, Nat.reduceLeDiff, Nat.reduceAdd, Nat.reduceMul, Nat.reduceSub, Int.reduceToNat, Int.reduceNeg, cI_get hlt]
      refine ⟨⟨by omega, by omega⟩, CallK.flat (l00In _ _ _) rfl ?_⟩
      simp -dsimp only [go_sem, reduceIte, reduceCtorEq, Nat.reduceEqDiff, Nat.reduceLT, Nat.reduceLeDiff, Nat.reduceAdd, Nat.reduceMul, Nat.reduceSub, Int.reduceToNat, Int.reduceNeg]
      refine Br.mk (fun h2 => ?_) fun h2 => ?_
      · simp -dsimp only [go_sem, reduceIte, reduceCtorEq, Nat.reduceEqDiff, Nat.reduceLT, Nat.reduceLeDiff, Nat.reduceAdd, Nat.reduceMul, Nat.reduceSub, Int.reduceToNat, Int.reduceNeg]
        simp [cardB, not_all (p := fun x => inB x 0 4095) hlt (by simpa using h2)]
      · simp -dsimp only [go_sem, reduceIte, reduceCtorEq, Nat.reduceEqDiff, Nat.reduceLT, Nat.reduceLeDiff, Nat.reduceAdd, Nat.reduceMul, Nat.reduceSub, Int.reduceToNat, Int.reduceNeg, hw]
        exact ⟨⟨i + 1, by omega, take_succ_all (p := fun x => inB x 0 4095) hlt hall (by simpa using h2)⟩, by simp [Vs.LeL, Vs.look], by simp only; omega⟩
    · have hge : i = c.length := by
        have : ¬ i < c.length := by simpa using h1
        omega
      subst hge
      simp -dsimp only [go_sem, reduceIte, reduceCtorEq, Nat.reduceEqDiff, Nat.reduceLT, Nat.reduceLeDiff, Nat.reduceAdd, Nat.reduceMul, Nat.reduceSub, Int.reduceToNat, Int.reduceNeg]
      refine ⟨CallK.flat (l00In _ _ _) rfl ?_, by simp⟩
      simp -dsimp only [go_sem, reduceIte, reduceCtorEq, Nat.reduceEqDiff, Nat.reduceLT, Nat.reduceLeDiff, Nat.reduceAdd, Nat.reduceMul, Nat.reduceSub, Int.reduceToNat, Int.reduceNeg]
      have : c.all (fun x => inB x 0 4095) = true := by simpa using hall
      simp [cardB, this]

end Go.Proofs.Ytokfhfdnmnblfaa

namespace Go.Proofs.Ytokfhfdnmnblfaa
open Go.Vs
set_option linter.unusedSectionVars false
variable [Vs.Envs]
set_option linter.unusedSimpArgs false
set_option linter.unusedVariables false
attribute [local irreducible] Vs.Fn
/-- a deck's cards are cards of the first one's width; 40 at most -/
def deckB (l : List (List Int)) : Bool := l.all (fun c => cardB c && decide (c.length = (l.getD 0 []).length)) && decide (l.length ≤ 40)
theorem l02Deck (l : List (List Int)) (hs : ∀ x, x ∈ l → x.length ≤ 1048576) (hl : l.length ≤ 1048576) : Vs.Fn Try.prog F.spec_l02Deck [] [.sl 1 (E cC l)] (.v (.bool (deckB l))) [] := by
  refine Cd.spec_l02Deck_ok.fn0 Try.mixed Cd.spec_l02Deck_nt Cd.spec_l02Deck_rs rfl fun X => ?_
  unfold Cd.spec_l02Deck
  simp -dsimp only [go_sem, reduceIte, reduceCtorEq, Nat.reduceEqDiff, Nat.reduceLT, Nat.reduceLeDiff, Nat.reduceAdd, Nat.reduceMul, Nat.reduceSub, Int.reduceToNat, Int.reduceNeg]
  refine LoopK.intro (drawn_ok Try.mixed) (fun i : { i : Nat // i ≤ l.length ∧ (l.take i).all (fun c => cardB c && decide (c.length = (l.getD 0 []).length)) = true } => ⟨[(0, .sl 1 (E cC l)), (3, .v (.int .i64 i.1))], []⟩) (fun i => l.length - i.1) ⟨0, by simp⟩ ?_ ?_
  · simp [Vs.LeL, Vs.look]
  · rintro ⟨i, hi, hall⟩
    simp -dsimp only [go_sem, reduceIte, reduceCtorEq, Nat.reduceEqDiff, Nat.reduceLT, Nat.reduceLeDiff, Nat.reduceAdd, Nat.reduceMul, Nat.reduceSub, Int.reduceToNat, Int.reduceNeg]
    refine Br.mk (fun h1 => ?_) fun h1 => ?_
    · have hlt : i < l.length := by simpa using h1
      have h0 : 0 < l.length := by omega
      have hw := wrap_succ hlt hl
      have g0 : l.getD 0 [] = l[0] := by simp [List.getD, h0]
      simp -dsimp only [go_sem, reduceIte, reduceCtorEq, Nat.reduceEqDiff, Nat.reduceLT, Nat.reduceLeDiff, Nat.reduceAdd, Nat.reduceMul, Nat.reduceSub, Int.reduceToNat, Int.reduceNeg]
      refine RgK.mk rfl ?_
      simp -dsimp only [go_sem, reduceIte, reduceCtorEq, Nat.reduceEqDiff, Nat.reduceLT, Nat.reduceLeDiff, Nat.reduceAdd, Nat.reduceMul, Nat.reduceSub, Int.reduceToNat, Int.reduceNeg, E_get hlt, E_get h0]
      refine ⟨⟨by omega, by omega⟩, CallK.flat (l02Ok l[i] (hs _ (List.getElem_mem hlt))) rfl ?_⟩
      simp -dsimp only [go_sem, reduceIte, reduceCtorEq, Nat.reduceEqDiff, Nat.reduceLT, Nat.reduceLeDiff, Nat.reduceAdd, Nat.reduceMul, Nat.reduceSub, Int.reduceToNat, Int.reduceNeg]
      refine Br.mk (fun h2 => ?_) fun h2 => ?_
      · simp -dsimp only [go_sem, reduceIte, reduceCtorEq, Nat.reduceEqDiff, Nat.reduceLT, Nat.reduceLeDiff, Nat.reduceAdd, Nat.reduceMul, Nat.reduceSub, Int.reduceToNat, Int.reduceNeg, h2]
        have e : (cardB l[i] && decide (l[i].length = (l.getD 0 []).length)) = false := by simp at h2; simp [h2]
        have hf : deckB l = false := by rw [deckB, not_all (p := fun c => cardB c && decide (c.length = (l.getD 0 []).length)) hlt e]; rfl
        simp [hf]
      · simp -dsimp only [go_sem, reduceIte, reduceCtorEq, Nat.reduceEqDiff, Nat.reduceLT, Nat.reduceLeDiff, Nat.reduceAdd, Nat.reduceMul, Nat.reduceSub, Int.reduceToNat, Int.reduceNeg, h2, E_get hlt, E_get h0, cC]
        refine ⟨⟨by omega, by omega⟩, by omega, ?_⟩
        refine Br.mk (fun h3 => ?_) fun h3 => ?_
        · simp -dsimp only [go_sem, reduceIte, reduceCtorEq, Nat.reduceEqDiff, Nat.reduceLT, Nat.reduceLeDiff, Nat.reduceAdd, Nat.reduceMul, Nat.reduceSub, Int.reduceToNat, Int.reduceNeg]
          have e : (cardB l[i] && decide (l[i].length = (l.getD 0 []).length)) = false := by
            rw [g0]
            have : l[i].length ≠ l[0].length := by simp at h3; omega
            simp [this]
          have hf : deckB l = false := by rw [deckB, not_all (p := fun c => cardB c && decide (c.length = (l.getD 0 []).length)) hlt e]; rfl
          simp [hf]
        · simp -dsimp only [go_sem, reduceIte, reduceCtorEq, Nat.reduceEqDiff, Nat.reduceLT, Nat.reduceLeDiff, Nat.reduceAdd, Nat.reduceMul, Nat.reduceSub, Int.reduceToNat, Int.reduceNeg, hw]
          have e : (cardB l[i] && decide (l[i].length = (l.getD 0 []).length)) = true := by
            rw [g0]
            have : l[i].length = l[0].length := by simp at h3; omega
            simp at h2
            simp [this, h2]
          exact ⟨⟨i + 1, by omega, take_succ_all (p := fun c => cardB c && decide (c.length = (l.getD 0 []).length)) hlt hall e⟩, by simp [Vs.LeL, Vs.look], by simp only; omega⟩
    · have hge : i = l.length := by
        have : ¬ i < l.length := by simpa using h1
        omega
      subst hge
      simp -dsimp only [go_sem, reduceIte, reduceCtorEq, Nat.reduceEqDiff, Nat.reduceLT, Nat.reduceLeDiff, Nat.reduceAdd, Nat.reduceMul, Nat.reduceSub, Int.reduceToNat, Int.reduceNeg]
      have : l.all (fun c => cardB c && decide (c.length = (l.getD 0 []).length)) = true := by simpa using hall
      rw [deckB, this]
      simp only [Bool.true_and, Value.bool.injEq, AV.v.injEq]
      simp
      omega

theorem sizeI (l : List Int) : Vs.Fn Try.prog F.impl_size_int64_ [] [.sl 1 (E cI l)] (.v (.int .i64 l.length)) [] := by
  refine Cd.impl_size_int64__ok.fn0 Try.mixed Cd.impl_size_int64__nt Cd.impl_size_int64__rs rfl fun X => ?_
  unfold Cd.impl_size_int64_
  simp -dsimp only [go_sem, reduceIte, reduceCtorEq, Nat.reduceEqDiff, Nat.reduceLT, Nat.reduceLeDiff, Nat.reduceAdd, Nat.reduceMul, Nat.reduceSub, Int.reduceToNat, Int.reduceNeg]
  repeat' (first
    | (refine RgK.mk rfl ?_; simp -dsimp only [go_sem, reduceIte, reduceCtorEq, Nat.reduceEqDiff, Nat.reduceLT, Nat.reduceLeDiff, Nat.reduceAdd, Nat.reduceMul, Nat.reduceSub, Int.reduceToNat, Int.reduceNeg])
    | (refine Br.mk (fun h => ?_) (fun h => ?_) <;> simp -dsimp only [go_sem, reduceIte, reduceCtorEq, Nat.reduceEqDiff, Nat.reduceLT, Nat.reduceLeDiff, Nat.reduceAdd, Nat.reduceMul, Nat.reduceSub, Int.reduceToNat, Int.reduceNeg, h])
    | (refine And.intro (by first | rfl | omega | decide | (refine ⟨?_, ?_⟩ <;> (first | rfl | omega | decide)) | (refine ⟨?_, ?_, ?_⟩ <;> (first | rfl | omega | decide)) | (refine ⟨?_, ?_, ?_, ?_⟩ <;> (first | rfl | omega | decide))) ?_)
    | fail)
  all_goals (simp_all)

theorem columns (c : List Int) : Vs.Fn Try.prog F._impl_Card__columns [] [.agg (cC c)] (.v (.int .i64 c.length)) [] := by
  refine Cd._impl_Card__columns_ok.fn0 Try.mixed Cd._impl_Card__columns_nt Cd._impl_Card__columns_rs rfl fun X => ?_
  unfold Cd._impl_Card__columns
  simp -dsimp only [go_sem, reduceIte, reduceCtorEq, Nat.reduceEqDiff, Nat.reduceLT, Nat.reduceLeDiff, Nat.reduceAdd, Nat.reduceMul, Nat.reduceSub, Int.reduceToNat, Int.reduceNeg, cC]
  repeat' (first
    | (refine RgK.mk rfl ?_; simp -dsimp only [go_sem, reduceIte, reduceCtorEq, Nat.reduceEqDiff, Nat.reduceLT, Nat.reduceLeDiff, Nat.reduceAdd, Nat.reduceMul, Nat.reduceSub, Int.reduceToNat, Int.reduceNeg, cC])
    | (refine Br.mk (fun h => ?_) (fun h => ?_) <;> simp -dsimp only [go_sem, reduceIte, reduceCtorEq, Nat.reduceEqDiff, Nat.reduceLT, Nat.reduceLeDiff, Nat.reduceAdd, Nat.reduceMul, Nat.reduceSub, Int.reduceToNat, Int.reduceNeg, h, cC])
    | (refine CallK.flat (by first | exact sizeI c) rfl ?_; simp -dsimp only [go_sem, reduceIte, reduceCtorEq, Nat.reduceEqDiff, Nat.reduceLT, Nat.reduceLeDiff, Nat.reduceAdd, Nat.reduceMul, Nat.reduceSub, Int.reduceToNat, Int.reduceNeg, cC])
    | (refine CallK.pure (by first | exact sizeI c) ?_; simp -dsimp only [go_sem, reduceIte, reduceCtorEq, Nat.reduceEqDiff, Nat.reduceLT, Nat.reduceLeDiff, Nat.reduceAdd, Nat.reduceMul, Nat.reduceSub, Int.reduceToNat, Int.reduceNeg, cC])
    | (refine And.intro (by first | rfl | omega | decide | (refine ⟨?_, ?_⟩ <;> (first | rfl | omega | decide)) | (refine ⟨?_, ?_, ?_⟩ <;> (first | rfl | omega | decide)) | (refine ⟨?_, ?_, ?_, ?_⟩ <;> (first | rfl | omega | decide))) ?_)
    | fail)
  all_goals (simp_all)

theorem validCard1 (x : Int) : Vs.Fn Try.prog F.impl_ValidCard_1 [] [.v (.int .i64 x)] (.v (.bool (!inB x 0 4095))) [] := by
  refine Cd.impl_ValidCard_1_ok.fn0 Try.mixed Cd.impl_ValidCard_1_nt Cd.impl_ValidCard_1_rs rfl fun X => ?_
  unfold Cd.impl_ValidCard_1
  simp -dsimp only [go_sem, reduceIte, reduceCtorEq, Nat.reduceEqDiff, Nat.reduceLT, Nat.reduceLeDiff, Nat.reduceAdd, Nat.reduceMul, Nat.reduceSub, Int.reduceToNat, Int.reduceNeg]
  repeat' (first
    | (refine RgK.mk rfl ?_; simp -dsimp only [go_sem, reduceIte, reduceCtorEq, Nat.reduceEqDiff, Nat.reduceLT, Nat.reduceLeDiff, Nat.reduceAdd, Nat.reduceMul, Nat.reduceSub, Int.reduceToNat, Int.reduceNeg])
    | (refine Br.mk (fun h => ?_) (fun h => ?_) <;> simp -dsimp only [go_sem, reduceIte, reduceCtorEq, Nat.reduceEqDiff, Nat.reduceLT, Nat.reduceLeDiff, Nat.reduceAdd, Nat.reduceMul, Nat.reduceSub, Int.reduceToNat, Int.reduceNeg, h])
    | (refine CallK.flat (by first | exact inside _ _ _) rfl ?_; simp -dsimp only [go_sem, reduceIte, reduceCtorEq, Nat.reduceEqDiff, Nat.reduceLT, Nat.reduceLeDiff, Nat.reduceAdd, Nat.reduceMul, Nat.reduceSub, Int.reduceToNat, Int.reduceNeg])
    | (refine CallK.pure (by first | exact inside _ _ _) ?_; simp -dsimp only [go_sem, reduceIte, reduceCtorEq, Nat.reduceEqDiff, Nat.reduceLT, Nat.reduceLeDiff, Nat.reduceAdd, Nat.reduceMul, Nat.reduceSub, Int.reduceToNat, Int.reduceNeg])
    | (refine And.intro (by first | rfl | omega | decide | (refine ⟨?_, ?_⟩ <;> (first | rfl | omega | decide)) | (refine ⟨?_, ?_, ?_⟩ <;> (first | rfl | omega | decide)) | (refine ⟨?_, ?_, ?_, ?_⟩ <;> (first | rfl | omega | decide))) ?_)
    | fail)
  all_goals (simp_all)

theorem idxI (l : List Int) (hl : l.length ≤ 1048576) : Vs.Fn Try.prog F.slices_IndexFunc___int64_int64_ [] [.sl 1 (E cI l), .fn F.impl_ValidCard_1 []] (.v (.int .i64 (idxP (fun x => !inB x 0 4095) l))) [] :=
  ixI_fn Try.mixed Cd.slices_IndexFunc___int64_int64__ok Cd.slices_IndexFunc___int64_int64__nt Cd.slices_IndexFunc___int64_int64__rs rfl (fun x => !inB x 0 4095) F.impl_ValidCard_1 [] rfl (fun x hx => validCard1 x) hl
theorem conI (l : List Int) (hl : l.length ≤ 1048576) : Vs.Fn Try.prog F.slices_ContainsFunc___int64_int64_ [] [.sl 1 (E cI l), .fn F.impl_ValidCard_1 []] (.v (.bool (l.any (fun x => !inB x 0 4095)))) [] :=
  ct_fn Try.mixed (g := F.slices_IndexFunc___int64_int64_) Cd.slices_ContainsFunc___int64_int64__ok Cd.slices_ContainsFunc___int64_int64__nt Cd.slices_ContainsFunc___int64_int64__rs rfl (fun x => !inB x 0 4095) F.impl_ValidCard_1 [] rfl (idxI l hl)
theorem any_notI (l : List Int) (p : Int → Bool) : (!(l.any fun x => !p x)) = l.all p := by
  induction l with
  | nil => rfl
  | cons x r ih => simp only [List.any_cons, List.all_cons, Bool.not_or, Bool.not_not, ih]

theorem validCard (c : List Int) (hc : c.length ≤ 1048576) : Vs.Fn Try.prog F.impl_ValidCard [] [.agg (cC c)] (.v (.bool (cardB c))) [] := by
  refine Cd.impl_ValidCard_ok.fn0 Try.mixed Cd.impl_ValidCard_nt Cd.impl_ValidCard_rs rfl fun X => ?_
  unfold Cd.impl_ValidCard
  simp -dsimp only [go_sem, reduceIte, reduceCtorEq, Nat.reduceEqDiff, Nat.reduceLT, Nat.reduceLeDiff, Nat.reduceAdd, Nat.reduceMul, Nat.reduceSub, Int.reduceToNat, Int.reduceNeg, cC]
  repeat' (first
    | (refine RgK.mk rfl ?_; simp -dsimp only [go_sem, reduceIte, reduceCtorEq, Nat.reduceEqDiff, Nat.reduceLT, Nat.reduceLeDiff, Nat.reduceAdd, Nat.reduceMul, Nat.reduceSub, Int.reduceToNat, Int.reduceNeg, cC])
    | (refine Br.mk (fun h => ?_) (fun h => ?_) <;> simp -dsimp only [go_sem, reduceIte, reduceCtorEq, Nat.reduceEqDiff, Nat.reduceLT, Nat.reduceLeDiff, Nat.reduceAdd, Nat.reduceMul, Nat.reduceSub, Int.reduceToNat, Int.reduceNeg, h, cC])
    | (refine CallK.flat (by first | exact columns c | exact inside _ _ _ | exact conI c hc) rfl ?_; simp -dsimp only [go_sem, reduceIte, reduceCtorEq, Nat.reduceEqDiff, Nat.reduceLT, Nat.reduceLeDiff, Nat.reduceAdd, Nat.reduceMul, Nat.reduceSub, Int.reduceToNat, Int.reduceNeg, cC])
    | (refine CallK.pure (by first | exact columns c | exact inside _ _ _ | exact conI c hc) ?_; simp -dsimp only [go_sem, reduceIte, reduceCtorEq, Nat.reduceEqDiff, Nat.reduceLT, Nat.reduceLeDiff, Nat.reduceAdd, Nat.reduceMul, Nat.reduceSub, Int.reduceToNat, Int.reduceNeg, cC])
    | (refine And.intro (by first | rfl | omega | decide | (refine ⟨?_, ?_⟩ <;> (first | rfl | omega | decide)) | (refine ⟨?_, ?_, ?_⟩ <;> (first | rfl | omega | decide)) | (refine ⟨?_, ?_, ?_, ?_⟩ <;> (first | rfl | omega | decide))) ?_)
    | fail)
  all_goals (first | (refine ret_eq ?_; have e := any_notI c (fun x => inB x 0 4095); simp_all [cardB]; done) | (simp_all [cardB]; done))

end Go.Proofs.Ytokfhfdnmnblfaa

namespace Go.Proofs.Ytokfhfdnmnblfaa
open Go.Vs
set_option linter.unusedSectionVars false
variable [Vs.Envs]
set_option linter.unusedSimpArgs false
set_option linter.unusedVariables false
attribute [local irreducible] Vs.Fn
abbrev Tot := ByteArray × Int
def cT (x : Tot) : List AV := [.v (.string x.1), .v (.int .i64 x.2)]
theorem eqTotal (s : ByteArray) (a : Int) : Vs.Fn Try.prog F.laws_eqTotal [] [.agg [.v (.string s), .v (.int .i64 a)], .agg [.v (.string s), .v (.int .i64 a)]] (.v (.bool true)) [] := by
  refine Cd.laws_eqTotal_ok.fn0 Try.mixed Cd.laws_eqTotal_nt Cd.laws_eqTotal_rs rfl fun X => ?_
  unfold Cd.laws_eqTotal
  simp -dsimp only [go_sem, reduceIte, reduceCtorEq, Nat.reduceEqDiff, Nat.reduceLT, Nat.reduceLeDiff, Nat.reduceAdd, Nat.reduceMul, Nat.reduceSub, Int.reduceToNat, Int.reduceNeg]
  repeat' (first
    | (refine RgK.mk rfl ?_; simp -dsimp only [go_sem, reduceIte, reduceCtorEq, Nat.reduceEqDiff, Nat.reduceLT, Nat.reduceLeDiff, Nat.reduceAdd, Nat.reduceMul, Nat.reduceSub, Int.reduceToNat, Int.reduceNeg])
    | (refine Br.mk (fun h => ?_) (fun h => ?_) <;> simp -dsimp only [go_sem, reduceIte, reduceCtorEq, Nat.reduceEqDiff, Nat.reduceLT, Nat.reduceLeDiff, Nat.reduceAdd, Nat.reduceMul, Nat.reduceSub, Int.reduceToNat, Int.reduceNeg, h])
    | (refine And.intro (by first | rfl | omega | decide | (refine ⟨?_, ?_⟩ <;> (first | rfl | omega | decide)) | (refine ⟨?_, ?_, ?_⟩ <;> (first | rfl | omega | decide)) | (refine ⟨?_, ?_, ?_, ?_⟩ <;> (first | rfl | omega | decide))) ?_)
    | fail)
  all_goals (simp_all)

theorem eqTotalS (l : List Tot) (hl : l.length ≤ 1048576) : Vs.Fn Try.prog F.laws_eqTotalS [] [.sl 2 (E cT l), .sl 2 (E cT l)] (.v (.bool true)) [] :=
  eqS_fn Try.mixed (g := F.laws_eqTotal) (k := 2) Cd.laws_eqTotalS_ok Cd.laws_eqTotalS_nt Cd.laws_eqTotalS_rs rfl (fun _ => rfl) (fun _ => rfl) (fun x hx => eqTotal _ _) hl

structure Stp where
  kind : Int
  a : Int
  b : Int
  to : Int
  f0 : Int
  f1 : Int
  s0 : Int
  s1 : Int
  text : ByteArray
end Go.Proofs.Ytokfhfdnmnblfaa
