/- Comparisons of lists of numbers; comparisons by a function value. -/
import Derived.Test.YtokfhfdnmnblfaaVtK
namespace Go.Vs
set_option linter.unusedSectionVars false
variable [Envs]
variable {P : Program} {α : Type} {d : α → AV}
set_option linter.unusedSimpArgs false
attribute [local irreducible] Fn
theorem conv_cell {x : AV} (hx : cellB x = true) (h : Name → Option Blk) (m : Nat) (E : List Name) (b : Bool) : conv h (m + 1) E b x = some (x, []) := by
  cases x <;> simp [cellB] at hx <;> rfl
def eqO_code (g : FuncId) : ACode :=
  .seq (.region [⟨some 4, .mv (.const (.bool false)), none⟩] [0, 1] []) <|
  .seq (.seq (.region [⟨some 6, .mv (.tmp 0), none⟩,
      ⟨some 7, .len (.tmp 6), none⟩,
      ⟨some 8, .mv (.tmp 1), none⟩,
      ⟨some 9, .len (.tmp 8), none⟩,
      ⟨some 10, .bin .neq (.tmp 7) (.tmp 9), none⟩] [0, 1, 10] []) <|
   .cond (.tmp 10)
     (.seq (.region [⟨some 4, .mv (.const (.bool false)), none⟩] [4] []) <|
     .ret)
     (.skip)) <|
  .seq (.seq (.region [⟨some 5, .mv (.const (.int .i64 (0))), none⟩] [0, 1, 5] []) <|
   .block 0 (
     .loop (
       .seq (.seq (.region [⟨some 11, .mv (.tmp 5), none⟩,
           ⟨some 12, .mv (.tmp 0), none⟩,
           ⟨some 13, .len (.tmp 12), none⟩,
           ⟨some 14, .bin .lss (.tmp 11) (.tmp 13), none⟩] [0, 1, 5, 14] []) <|
        .cond (.tmp 14)
          (.skip)
          (.exit 0)) <|
       .seq (.block 1 (
          .seq (.region [⟨some 17, .mv (.tmp 0), none⟩,
             ⟨some 18, .mv (.tmp 5), none⟩,
             ⟨some 19, .idxSl 1 (.tmp 17) (.tmp 18), none⟩,
             ⟨some 20, .load false 1 (.tmp 19), none⟩,
             ⟨some 21, .mv (.tmp 1), none⟩,
             ⟨some 22, .mv (.tmp 5), none⟩,
             ⟨some 23, .idxSl 1 (.tmp 21) (.tmp 22), none⟩,
             ⟨some 24, .load false 1 (.tmp 23), none⟩,
             ⟨some 25, .call (.func g) [(.tmp 20), (.tmp 24)] [], none⟩,
             ⟨some 26, .un .not (.tmp 25), none⟩] [0, 1, 5, 26] [17, 18, 20, 21, 19, 22, 23, 24, 25, 26]) <|
          .cond (.tmp 26)
            (.seq (.region [⟨some 4, .mv (.const (.bool false)), none⟩] [4] []) <|
            .ret)
            (.skip))) <|
       .region [⟨some 15, .mv (.tmp 5), none⟩,
         ⟨some 16, .bin .add (.tmp 15) (.const (.int .i64 (1))), none⟩,
         ⟨some 5, .mv (.tmp 16), none⟩] [0, 1, 5] []))) <|
  .seq (.region [⟨some 4, .mv (.const (.bool true)), none⟩] [4] []) <|
  .ret

/-- a list and a list of the same values are equal -/
theorem eqO_fn (hm : P.follows .mixedOrders = true) {f : FuncId} {fn : Func} {g : FuncId} {nt : Nat} (h : CodeIsR P f fn (eqO_code g)) (hnt : fn.ntmps = nt) (hrs : fn.results.toList = [.tmp 4]) (hna : Nat.ble 2 nt = true)
    (hcb : ∀ x, cellB (d x) = true) {l : List α} (hg : ∀ x, x ∈ l → Fn P g [] [d x, d x] (.v (.bool true)) []) (hl : l.length ≤ 1048576) :
    Fn P f [] [.sl 1 (E (fun x => [d x]) l), .sl 1 (E (fun x => [d x]) l)] (.v (.bool true)) [] := by
  refine h.fn0 hm hnt hrs hna fun X => ?_
  unfold eqO_code
  simp -dsimp only [go_sem, reduceIte, reduceCtorEq, Nat.reduceEqDiff]
  refine LoopK.intro (drawn_ok hm) (fun i : { i : Nat // i ≤ l.length } => ⟨[(0, .sl 1 (E (fun x => [d x]) l)), (1, .sl 1 (E (fun x => [d x]) l)), (5, .v (.int .i64 i.1))], []⟩) (fun i => l.length - i.1) ⟨0, by omega⟩ ?_ ?_
  · simp [LeL, look]
  · rintro ⟨i, hi⟩
    simp -dsimp only [go_sem, reduceIte, reduceCtorEq, Nat.reduceEqDiff]
    refine Br.mk (fun h1 => ?_) fun h1 => ?_
    · have hlt : i < l.length := by simpa using h1
      have hw := wrap_succ hlt hl
      simp -dsimp only [go_sem, reduceIte, reduceCtorEq, Nat.reduceEqDiff]
      refine RgK.mk rfl ?_
      simp -dsimp only [go_sem, reduceIte, reduceCtorEq, Nat.reduceEqDiff, E_get hlt, conv_cell (hcb l[i]) _ 7]
      refine ⟨⟨by omega, by omega⟩, ⟨by omega, by omega⟩, ?_⟩
      refine CallK.flat (hg _ (List.getElem_mem hlt)) rfl ?_
      simp -dsimp only [go_sem, reduceIte, reduceCtorEq, Nat.reduceEqDiff, hw]
      exact ⟨⟨i + 1, by omega⟩, by simp [LeL, look], by simp only; omega⟩
    · simp -dsimp only [go_sem, reduceIte, reduceCtorEq, Nat.reduceEqDiff]
      simp

end Go.Vs

namespace Go.Vs
set_option linter.unusedSectionVars false
variable [Envs]
variable {P : Program}
set_option linter.unusedSimpArgs false
attribute [local irreducible] Fn
end Go.Vs
