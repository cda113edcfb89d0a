/- Cards and decks: sizes, copies, comparisons; what a deck of samples is. -/
import Derived.Test.YthpokkcbbpapdaaDoorTuB
import Derived.Test.YthpokkcbbpapdaaDoorDtJ
namespace Go.Proofs.YthpokkcbbpapdaaDoor
open Go.Vs
set_option linter.unusedSimpArgs false
set_option linter.unusedVariables false
attribute [local irreducible] Vs.Fn

/-- a card's one cell: its columns -/
def cC (c : List Int) : List AV := [.sl 1 (E cI c)]
/-- a deck's one cell: its cards -/
def cD (d : List (List Int)) : List AV := [.sl 1 (E cC d)]
theorem szInt64S (l : List Int) (n : Int) : Vs.Fn Tryd.prog F.laws_szInt64S [] [.sl 1 (E cI l), .v (.int .i64 n)] (.v (.int .i64 (szI l n))) [] :=
  szI_fn Tryd.mixed Cd.laws_szInt64S_ok Cd.laws_szInt64S_nt Cd.laws_szInt64S_rs rfl l n
theorem toInt64S {l : List Int} (hl : l.length ≤ 1048576) : Vs.Fn Tryd.prog F.laws_toInt64S [] [.sl 1 (E cI l)] (.sl 1 (E cI l)) [] :=
  toI_fn Tryd.mixed Cd.laws_toInt64S_ok Cd.laws_toInt64S_nt Cd.laws_toInt64S_rs rfl hl
theorem eqInt64S {l : List Int} (hl : l.length ≤ 1048576) : Vs.Fn Tryd.prog F.laws_eqInt64S [] [.sl 1 (E cI l), .sl 1 (E cI l)] (.v (.bool true)) [] :=
  eqI_fn Tryd.mixed Cd.laws_eqInt64S_ok Cd.laws_eqInt64S_nt Cd.laws_eqInt64S_rs rfl hl
theorem szI_neg {l : List Int} {n : Int} (h : szI l n < 0) : szI l n = -1 := by
  unfold szI at h ⊢
  split
  · rfl
  · rename_i h1; rw [if_neg h1] at h; exact absurd h h1

theorem szCard (c : List Int) (n : Int) : Vs.Fn Tryd.prog F.laws_szCard [] [.agg (cC c), .v (.int .i64 n)] (.v (.int .i64 (szI c n))) [] := by
  refine Cd.laws_szCard_ok.fn0 Tryd.mixed Cd.laws_szCard_nt Cd.laws_szCard_rs rfl fun X => ?_
  unfold Cd.laws_szCard
  simp -dsimp only [go_sem, reduceIte, reduceCtorEq, Nat.reduceEqDiff, Nat.reduceLT, Nat.reduceLeDiff, Nat.reduceAdd, Nat.reduceMul, Nat.reduceSub, Int.reduceToNat, Int.reduceNeg, cC]
  repeat' (first
    | (refine RgK.mk rfl ?_; simp -dsimp only [go_sem, reduceIte, reduceCtorEq, Nat.reduceEqDiff, Nat.reduceLT, Nat.reduceLeDiff, Nat.reduceAdd, Nat.reduceMul, Nat.reduceSub, Int.reduceToNat, Int.reduceNeg, cC])
    | (refine Br.mk (fun h => ?_) (fun h => ?_) <;> simp -dsimp only [go_sem, reduceIte, reduceCtorEq, Nat.reduceEqDiff, Nat.reduceLT, Nat.reduceLeDiff, Nat.reduceAdd, Nat.reduceMul, Nat.reduceSub, Int.reduceToNat, Int.reduceNeg, h, cC])
    | (refine CallK.flat (by first | exact szInt64S c _) rfl ?_; simp -dsimp only [go_sem, reduceIte, reduceCtorEq, Nat.reduceEqDiff, Nat.reduceLT, Nat.reduceLeDiff, Nat.reduceAdd, Nat.reduceMul, Nat.reduceSub, Int.reduceToNat, Int.reduceNeg, cC])
    | (refine CallK.pure (by first | exact szInt64S c _) ?_; simp -dsimp only [go_sem, reduceIte, reduceCtorEq, Nat.reduceEqDiff, Nat.reduceLT, Nat.reduceLeDiff, Nat.reduceAdd, Nat.reduceMul, Nat.reduceSub, Int.reduceToNat, Int.reduceNeg, cC])
    | (refine And.intro (by first | rfl | omega | decide | (refine ⟨?_, ?_⟩ <;> (first | rfl | omega | decide)) | (refine ⟨?_, ?_, ?_⟩ <;> (first | rfl | omega | decide)) | (refine ⟨?_, ?_, ?_, ?_⟩ <;> (first | rfl | omega | decide))) ?_)
    | fail)
  all_goals (first | (simp_all [szI_neg]; done) | (refine ret_eq ?_; rw [szI_neg (by simpa using by assumption)]))

theorem szCardS (l : List (List Int)) (n : Int) (hs : ∀ x, x ∈ l → x.length < 2 ^ 63) (hl : l.length < 2 ^ 63) (hn : 0 ≤ n ∧ n ≤ 1048576) : Vs.Fn Tryd.prog F.laws_szCardS [] [.sl 1 (E cC l), .v (.int .i64 n)] (.v (.int .i64 (szL szI l n))) [] :=
  szS_fn Tryd.mixed (k := 1) (c := cC) (g := F.laws_szCard) Cd.laws_szCardS_ok Cd.laws_szCardS_nt Cd.laws_szCardS_rs rfl szI (fun _ => rfl) (fun _ => rfl) (fun x _ n _ _ => szCard x n) (fun x hx n h0 hn h => (szI_le (hs x hx) h0 hn h).1) n hl hn
theorem toCard (c : List Int) (hc : c.length ≤ 1048576) : Vs.Fn Tryd.prog F.laws_toCard [] [.agg (cC c)] (.agg (cC c)) [] := by
  refine Cd.laws_toCard_ok.fn0 Tryd.mixed Cd.laws_toCard_nt Cd.laws_toCard_rs rfl fun X => ?_
  unfold Cd.laws_toCard
  simp -dsimp only [go_sem, reduceIte, reduceCtorEq, Nat.reduceEqDiff, Nat.reduceLT, Nat.reduceLeDiff, Nat.reduceAdd, Nat.reduceMul, Nat.reduceSub, Int.reduceToNat, Int.reduceNeg, cC]
  repeat' (first
    | (refine RgK.mk rfl ?_; simp -dsimp only [go_sem, reduceIte, reduceCtorEq, Nat.reduceEqDiff, Nat.reduceLT, Nat.reduceLeDiff, Nat.reduceAdd, Nat.reduceMul, Nat.reduceSub, Int.reduceToNat, Int.reduceNeg, cC])
    | (refine Br.mk (fun h => ?_) (fun h => ?_) <;> simp -dsimp only [go_sem, reduceIte, reduceCtorEq, Nat.reduceEqDiff, Nat.reduceLT, Nat.reduceLeDiff, Nat.reduceAdd, Nat.reduceMul, Nat.reduceSub, Int.reduceToNat, Int.reduceNeg, h, cC])
    | (refine CallK.flat (by first | exact toInt64S hc) rfl ?_; simp -dsimp only [go_sem, reduceIte, reduceCtorEq, Nat.reduceEqDiff, Nat.reduceLT, Nat.reduceLeDiff, Nat.reduceAdd, Nat.reduceMul, Nat.reduceSub, Int.reduceToNat, Int.reduceNeg, cC])
    | (refine CallK.pure (by first | exact toInt64S hc) ?_; simp -dsimp only [go_sem, reduceIte, reduceCtorEq, Nat.reduceEqDiff, Nat.reduceLT, Nat.reduceLeDiff, Nat.reduceAdd, Nat.reduceMul, Nat.reduceSub, Int.reduceToNat, Int.reduceNeg, cC])
    | (refine And.intro (by first | rfl | omega | decide | (refine ⟨?_, ?_⟩ <;> (first | rfl | omega | decide)) | (refine ⟨?_, ?_, ?_⟩ <;> (first | rfl | omega | decide)) | (refine ⟨?_, ?_, ?_, ?_⟩ <;> (first | rfl | omega | decide))) ?_)
    | fail)
  all_goals (exact ⟨_, _, rfl, rfl⟩)

theorem toCardS (l : List (List Int)) (hs : ∀ x, x ∈ l → x.length ≤ 1048576) (hl : l.length ≤ 1048576) : Vs.Fn Tryd.prog F.laws_toCardS [] [.sl 1 (E cC l)] (.sl 1 (E cC l)) [] :=
  toS_fn Tryd.mixed (k := 1) (y := 24) (c := cC) (z := [.v (.slice none 0 0)]) (g := F.laws_toCard) Cd.laws_toCardS_ok Cd.laws_toCardS_nt Cd.laws_toCardS_rs rfl (fun _ => rfl) (by omega) rfl rfl (fun _ => rfl) (fun x hx => toCard x (hs x hx)) hl (by omega)
theorem eqCard (c : List Int) (hc : c.length ≤ 1048576) : Vs.Fn Tryd.prog F.laws_eqCard [] [.agg (cC c), .agg (cC c)] (.v (.bool true)) [] := by
  refine Cd.laws_eqCard_ok.fn0 Tryd.mixed Cd.laws_eqCard_nt Cd.laws_eqCard_rs rfl fun X => ?_
  unfold Cd.laws_eqCard
  simp -dsimp only [go_sem, reduceIte, reduceCtorEq, Nat.reduceEqDiff, Nat.reduceLT, Nat.reduceLeDiff, Nat.reduceAdd, Nat.reduceMul, Nat.reduceSub, Int.reduceToNat, Int.reduceNeg, cC]
  repeat' (first
    | (refine RgK.mk rfl ?_; simp -dsimp only [go_sem, reduceIte, reduceCtorEq, Nat.reduceEqDiff, Nat.reduceLT, Nat.reduceLeDiff, Nat.reduceAdd, Nat.reduceMul, Nat.reduceSub, Int.reduceToNat, Int.reduceNeg, cC])
    | (refine Br.mk (fun h => ?_) (fun h => ?_) <;> simp -dsimp only [go_sem, reduceIte, reduceCtorEq, Nat.reduceEqDiff, Nat.reduceLT, Nat.reduceLeDiff, Nat.reduceAdd, Nat.reduceMul, Nat.reduceSub, Int.reduceToNat, Int.reduceNeg, h, cC])
    | (refine CallK.flat (by first | exact eqInt64S hc) rfl ?_; simp -dsimp only [go_sem, reduceIte, reduceCtorEq, Nat.reduceEqDiff, Nat.reduceLT, Nat.reduceLeDiff, Nat.reduceAdd, Nat.reduceMul, Nat.reduceSub, Int.reduceToNat, Int.reduceNeg, cC])
    | (refine CallK.pure (by first | exact eqInt64S hc) ?_; simp -dsimp only [go_sem, reduceIte, reduceCtorEq, Nat.reduceEqDiff, Nat.reduceLT, Nat.reduceLeDiff, Nat.reduceAdd, Nat.reduceMul, Nat.reduceSub, Int.reduceToNat, Int.reduceNeg, cC])
    | (refine And.intro (by first | rfl | omega | decide | (refine ⟨?_, ?_⟩ <;> (first | rfl | omega | decide)) | (refine ⟨?_, ?_, ?_⟩ <;> (first | rfl | omega | decide)) | (refine ⟨?_, ?_, ?_, ?_⟩ <;> (first | rfl | omega | decide))) ?_)
    | fail)
  all_goals (simp_all)

theorem eqCardS (l : List (List Int)) (hs : ∀ x, x ∈ l → x.length ≤ 1048576) (hl : l.length ≤ 1048576) : Vs.Fn Tryd.prog F.laws_eqCardS [] [.sl 1 (E cC l), .sl 1 (E cC l)] (.v (.bool true)) [] :=
  eqS_fn Tryd.mixed (k := 1) (c := cC) (g := F.laws_eqCard) Cd.laws_eqCardS_ok Cd.laws_eqCardS_nt Cd.laws_eqCardS_rs rfl (fun _ => rfl) (fun _ => rfl) (fun x hx => eqCard x (hs x hx)) hl

/-- a card is of 1 to 20 columns, of 0 to 4095 each -/
def cardB (c : List Int) : Bool := c.all (fun x => inB x 0 4095) && inB c.length 1 20
theorem l02Ok (c : List Int) (hc : c.length ≤ 1048576) : Vs.Fn Tryd.prog F.spec_l02Ok [] [.ro (cC c)] (.v (.bool (cardB c))) [] := by
  refine Cd.spec_l02Ok_ok.fn0 Tryd.mixed Cd.spec_l02Ok_nt Cd.spec_l02Ok_rs rfl fun X => ?_
  unfold Cd.spec_l02Ok
  simp -dsimp only [go_sem, reduceIte, reduceCtorEq, Nat.reduceEqDiff, Nat.reduceLT, Nat.reduceLeDiff, Nat.reduceAdd, Nat.reduceMul, Nat.reduceSub, Int.reduceToNat, Int.reduceNeg, cC]
  refine LoopK.intro (drawn_ok Tryd.mixed) (fun i : { i : Nat // i ≤ c.length ∧ (c.take i).all (fun x => inB x 0 4095) = true } => ⟨[(0, .ro [.sl 1 (E cI c)]), (3, .v (.int .i64 i.1))], []⟩) (fun i => c.length - i.1) ⟨0, by simp⟩ ?_ ?_
  · simp [Vs.LeL, Vs.look]
  · rintro ⟨i, hi, hall⟩
    simp -dsimp only [go_sem, reduceIte, reduceCtorEq, Nat.reduceEqDiff, Nat.reduceLT, Nat.reduceLeDiff, Nat.reduceAdd, Nat.reduceMul, Nat.reduceSub, Int.reduceToNat, Int.reduceNeg]
    refine Br.mk (fun h1 => ?_) fun h1 => ?_
    · have hlt : i < c.length := by simpa using h1
      have hw := wrap_succ hlt hc
      simp -dsimp only [go_sem, reduceIte, reduceCtorEq, Nat.reduceEqDiff, Nat.reduceLT, Nat.reduceLeDiff, Nat.reduceAdd, Nat.reduceMul, Nat.reduceSub, Int.reduceToNat, Int.reduceNeg, cI_get hlt]
      refine ⟨⟨by omega, by omega⟩, CallK.flat (l00In _ _ _) rfl ?_⟩
      simp -dsimp only [go_sem, reduceIte, reduceCtorEq, Nat.reduceEqDiff, Nat.reduceLT, Nat.reduceLeDiff, Nat.reduceAdd, Nat.reduceMul, Nat.reduceSub, Int.reduceToNat, Int.reduceNeg]
      refine Br.mk (fun h2 => ?_) fun h2 => ?_
      · simp -dsimp only [go_sem, reduceIte, reduceCtorEq, Nat.reduceEqDiff, Nat.reduceLT, Nat.reduceLeDiff, Nat.reduceAdd, Nat.reduceMul, Nat.reduceSub, Int.reduceToNat, Int.reduceNeg]
        simp [cardB, not_all (p := fun x => inB x 0 4095) hlt (by simpa using h2)]
      · simp -dsimp only [go_sem, reduceIte, reduceCtorEq, Nat.reduceEqDiff, Nat.reduceLT, Nat.reduceLeDiff, Nat.reduceAdd, Nat.reduceMul, Nat.reduceSub, Int.reduceToNat, Int.reduceNeg, hw]
        exact ⟨⟨i + 1, by omega, take_succ_all (p := fun x => inB x 0 4095) hlt hall (by simpa using h2)⟩, by simp [Vs.LeL, Vs.look], by simp only; omega⟩
    · have hge : i = c.length := by
        have : ¬ i < c.length := by simpa using h1
        omega
      subst hge
      simp -dsimp only [go_sem, reduceIte, reduceCtorEq, Nat.reduceEqDiff, Nat.reduceLT, Nat.reduceLeDiff, Nat.reduceAdd, Nat.reduceMul, Nat.reduceSub, Int.reduceToNat, Int.reduceNeg]
      refine ⟨CallK.flat (l00In _ _ _) rfl ?_, by simp⟩
      simp -dsimp only [go_sem, reduceIte, reduceCtorEq, Nat.reduceEqDiff, Nat.reduceLT, Nat.reduceLeDiff, Nat.reduceAdd, Nat.reduceMul, Nat.reduceSub, Int.reduceToNat, Int.reduceNeg]
      have : c.all (fun x => inB x 0 4095) = true := by simpa using hall
      simp [cardB, this]

end Go.Proofs.YthpokkcbbpapdaaDoor
