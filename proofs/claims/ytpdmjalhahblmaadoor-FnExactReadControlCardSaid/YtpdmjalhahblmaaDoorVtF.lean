/- Lists of values, row by row; plain facts for loops. -/
import Derived.Test.YtpdmjalhahblmaaDoorVtE
namespace Go.Vs
set_option linter.unusedSectionVars false
variable [Envs]

/-- the rows of a list -/
def E {α : Type} (c : α → List AV) (l : List α) : List (List AV) := l.map c
variable {α : Type} {c : α → List AV}
theorem E_len (l : List α) : (E c l).length = l.length := by simp [E]
theorem E_get {l : List α} {i : Nat} (h : i < l.length) : (E c l).getD i [] = c l[i] := by simp [E, List.getD, h]
theorem E_take (l : List α) : (E c l).take l.length = E c l := List.take_of_length_le (by simp [E])
theorem E_drop0 (l : List α) : (E c l).drop 0 = E c l := rfl
theorem E_append (l m : List α) : E c (l ++ m) = E c l ++ E c m := by simp [E]
theorem wrap_succ {i n : Nat} (h : i < n) (hn : n ≤ 1048576) : IntKind.i64.wrap ((i : Int) + 1) = ((i + 1 : Nat) : Int) := by
  rw [wrap_in (by omega) (by omega)]; omega

theorem take_succ {l : List α} {i : Nat} (hi : i < l.length) : l.take (i + 1) = l.take i ++ [l[i]] := by
  rw [List.take_add_one, List.getElem?_eq_getElem hi]; rfl

attribute [go_sem] E_len E_take E_drop0 List.not_mem_nil
end Go.Vs
