/- Lists of numbers: size, copy, comparison. -/
import Derived.Test.YtokfhfdnmnblfaaVtI
namespace Go.Vs
set_option linter.unusedSectionVars false
variable [Envs]
variable {P : Program}
set_option linter.unusedSimpArgs false
attribute [local irreducible] Fn
theorem cI_get {l : List Int} {i : Nat} (h : i < l.length) : ((E cI l).getD i []) = [.v (.int .i64 l[i])] := E_get h

def szI_code : ACode :=
  .seq (.region [⟨some 4, .mv (.const (.int .i64 (0))), none⟩] [0, 1] []) <|
  .seq (.region [⟨some 5, .mv (.tmp 1), none⟩,
     ⟨some 6, .mv (.tmp 0), none⟩,
     ⟨some 7, .len (.tmp 6), none⟩,
     ⟨some 8, .bin .sub (.tmp 5) (.tmp 7), none⟩,
     ⟨some 1, .mv (.tmp 8), none⟩] [1] []) <|
  .seq (.seq (.region [⟨some 9, .mv (.tmp 1), none⟩,
      ⟨some 10, .bin .lss (.tmp 9) (.const (.int .i64 (0))), none⟩] [1, 10] []) <|
   .cond (.tmp 10)
     (.seq (.region [⟨some 4, .mv (.const (.int .i64 (-1))), none⟩] [4] []) <|
     .ret)
     (.skip)) <|
  .seq (.region [⟨some 11, .mv (.tmp 1), none⟩,
     ⟨some 4, .mv (.tmp 11), none⟩] [4] []) <|
  .ret

def toI_code : ACode :=
  .seq (.region [⟨some 2, .mv (.const (.slice none 0 0)), none⟩] [0] []) <|
  .seq (.region [⟨some 5, .mv (.tmp 0), none⟩,
     ⟨some 6, .len (.tmp 5), none⟩,
     ⟨some 7, .mk 1 8 [.v (.int .i64 (0))] (.tmp 6), none⟩,
     ⟨some 3, .mv (.tmp 7), none⟩] [0, 3] []) <|
  .seq (.seq (.region [⟨some 4, .mv (.const (.int .i64 (0))), none⟩] [0, 3, 4] []) <|
   .block 0 (
     .loop (
       .seq (.seq (.region [⟨some 8, .mv (.tmp 4), none⟩,
           ⟨some 9, .mv (.tmp 0), none⟩,
           ⟨some 10, .len (.tmp 9), none⟩,
           ⟨some 11, .bin .lss (.tmp 8) (.tmp 10), none⟩] [0, 3, 4, 11] []) <|
        .cond (.tmp 11)
          (.skip)
          (.exit 0)) <|
       .seq (.block 1 (
          .region [⟨some 14, .mv (.tmp 3), none⟩,
            ⟨some 15, .mv (.tmp 4), none⟩,
            ⟨some 16, .mv (.tmp 0), none⟩,
            ⟨some 17, .mv (.tmp 4), none⟩,
            ⟨some 18, .idxSl 1 (.tmp 16) (.tmp 17), none⟩,
            ⟨some 19, .load false 1 (.tmp 18), none⟩,
            ⟨some 20, .idxSl 1 (.tmp 14) (.tmp 15), none⟩,
            ⟨none, .store 1 (.tmp 20) (.tmp 19), none⟩] [0, 3, 4] [])) <|
       .region [⟨some 12, .mv (.tmp 4), none⟩,
         ⟨some 13, .bin .add (.tmp 12) (.const (.int .i64 (1))), none⟩,
         ⟨some 4, .mv (.tmp 13), none⟩] [0, 3, 4] []))) <|
  .seq (.region [⟨some 21, .mv (.tmp 3), none⟩,
     ⟨some 2, .mv (.tmp 21), none⟩] [2] []) <|
  .ret

def eqI_code : ACode :=
  .seq (.region [⟨some 4, .mv (.const (.bool false)), none⟩] [0, 1] []) <|
  .seq (.seq (.region [⟨some 6, .mv (.tmp 0), none⟩,
      ⟨some 7, .len (.tmp 6), none⟩,
      ⟨some 8, .mv (.tmp 1), none⟩,
      ⟨some 9, .len (.tmp 8), none⟩,
      ⟨some 10, .bin .neq (.tmp 7) (.tmp 9), none⟩] [0, 1, 10] []) <|
   .cond (.tmp 10)
     (.seq (.region [⟨some 4, .mv (.const (.bool false)), none⟩] [4] []) <|
     .ret)
     (.skip)) <|
  .seq (.seq (.region [⟨some 5, .mv (.const (.int .i64 (0))), none⟩] [0, 1, 5] []) <|
   .block 0 (
     .loop (
       .seq (.seq (.region [⟨some 11, .mv (.tmp 5), none⟩,
           ⟨some 12, .mv (.tmp 0), none⟩,
           ⟨some 13, .len (.tmp 12), none⟩,
           ⟨some 14, .bin .lss (.tmp 11) (.tmp 13), none⟩] [0, 1, 5, 14] []) <|
        .cond (.tmp 14)
          (.skip)
          (.exit 0)) <|
       .seq (.block 1 (
          .seq (.region [⟨some 17, .mv (.tmp 0), none⟩,
             ⟨some 18, .mv (.tmp 5), none⟩,
             ⟨some 19, .idxSl 1 (.tmp 17) (.tmp 18), none⟩,
             ⟨some 20, .load false 1 (.tmp 19), none⟩,
             ⟨some 21, .mv (.tmp 1), none⟩,
             ⟨some 22, .mv (.tmp 5), none⟩,
             ⟨some 23, .idxSl 1 (.tmp 21) (.tmp 22), none⟩,
             ⟨some 24, .load false 1 (.tmp 23), none⟩,
             ⟨some 25, .bin .neq (.tmp 20) (.tmp 24), none⟩] [0, 1, 5, 25] [17, 18, 20, 21, 19, 22, 23, 24, 25]) <|
          .cond (.tmp 25)
            (.seq (.region [⟨some 4, .mv (.const (.bool false)), none⟩] [4] []) <|
            .ret)
            (.skip))) <|
       .region [⟨some 15, .mv (.tmp 5), none⟩,
         ⟨some 16, .bin .add (.tmp 15) (.const (.int .i64 (1))), none⟩,
         ⟨some 5, .mv (.tmp 16), none⟩] [0, 1, 5] []))) <|
  .seq (.region [⟨some 4, .mv (.const (.bool true)), none⟩] [4] []) <|
  .ret

def szI (l : List Int) (n : Int) : Int := if IntKind.i64.wrap (n - l.length) < 0 then -1 else IntKind.i64.wrap (n - l.length)
theorem szI_le {l : List Int} {n : Int} (hl : l.length < 2 ^ 63) (h0 : 0 ≤ n) (hn : n ≤ 1048576) (h : 0 ≤ szI l n) : szI l n ≤ n ∧ (l.length : Int) ≤ n := by
  unfold szI at h ⊢
  split
  · rename_i h1; rw [if_pos h1] at h; omega
  · rename_i h1
    rw [wrap_in (by omega) (by omega)] at h1 ⊢
    omega

theorem szI_fn (hm : P.follows .mixedOrders = true) {f : FuncId} {fn : Func} {nt : Nat} (h : CodeIsR P f fn szI_code) (hnt : fn.ntmps = nt) (hrs : fn.results.toList = [.tmp 4]) (hna : Nat.ble 2 nt = true)
    (l : List Int) (n : Int) : Fn P f [] [.sl 1 (E cI l), .v (.int .i64 n)] (.v (.int .i64 (szI l n))) [] := by
  refine h.fn0 hm hnt hrs hna fun X => ?_
  unfold szI_code
  simp -dsimp only [go_sem, reduceIte, reduceCtorEq, Nat.reduceEqDiff]
  refine Br.mk (fun h0 => ?_) fun h0 => ?_
  · simp -dsimp only [go_sem, reduceIte, reduceCtorEq, Nat.reduceEqDiff]
    simp only [decide_eq_true_eq] at h0
    simp [szI, h0]
  · simp -dsimp only [go_sem, reduceIte, reduceCtorEq, Nat.reduceEqDiff]
    simp only [decide_eq_false_iff_not] at h0
    simp [szI, h0]

theorem toI_fn (hm : P.follows .mixedOrders = true) {f : FuncId} {fn : Func} {nt : Nat} (h : CodeIsR P f fn toI_code) (hnt : fn.ntmps = nt) (hrs : fn.results.toList = [.tmp 2]) (hna : Nat.ble 1 nt = true)
    {l : List Int} (hl : l.length ≤ 1048576) : Fn P f [] [.sl 1 (E cI l)] (.sl 1 (E cI l)) [] := by
  refine h.fn0 hm hnt hrs hna fun X => ?_
  unfold toI_code
  simp -dsimp only [go_sem, reduceIte, reduceCtorEq, Nat.reduceEqDiff]
  refine ⟨⟨by omega, by omega, by omega⟩, ?_⟩
  refine LoopK.intro (drawn_ok hm) (fun i : { i : Nat // i ≤ l.length } => ⟨[(0, .sl 1 (E cI l)), (3, .loc (.t 7 0) 0 l.length), (4, .v (.int .i64 i.1))],
    [(.t 7 0, .arr 1 (E cI (l.take i.1) ++ List.replicate (l.length - i.1) [.v (.int .i64 0)]) false)]⟩) (fun i => l.length - i.1) ⟨0, by omega⟩ ?_ ?_
  · simp [LeL, look, hlook, E]
  · rintro ⟨i, hi⟩
    simp -dsimp only [go_sem, reduceIte, reduceCtorEq, Nat.reduceEqDiff]
    refine Br.mk (fun h1 => ?_) fun h1 => ?_
    · have hlt : i < l.length := by simpa using h1
      have hw := wrap_succ hlt hl
      simp -dsimp only [go_sem, reduceIte, reduceCtorEq, Nat.reduceEqDiff, cI_get hlt, E_rget hlt, hw]
      have e := E_set (c := cI) hlt (x := [.v (.int .i64 l[i])]) rfl [.v (.int .i64 0)]
      rw [e]
      exact ⟨⟨by omega, by omega⟩, ⟨by omega, by omega⟩, by omega, ⟨i + 1, by omega⟩, by simp [LeL, look, hlook], by simp only; omega⟩
    · have hge : i = l.length := by
        have : ¬ i < l.length := by simpa using h1
        omega
      subst hge
      simp -dsimp only [go_sem, reduceIte, reduceCtorEq, Nat.reduceEqDiff, E_all]
      simp

theorem eqI_fn (hm : P.follows .mixedOrders = true) {f : FuncId} {fn : Func} {nt : Nat} (h : CodeIsR P f fn eqI_code) (hnt : fn.ntmps = nt) (hrs : fn.results.toList = [.tmp 4]) (hna : Nat.ble 2 nt = true)
    {l : List Int} (hl : l.length ≤ 1048576) : Fn P f [] [.sl 1 (E cI l), .sl 1 (E cI l)] (.v (.bool true)) [] := by
  refine h.fn0 hm hnt hrs hna fun X => ?_
  unfold eqI_code
  simp -dsimp only [go_sem, reduceIte, reduceCtorEq, Nat.reduceEqDiff]
  refine LoopK.intro (drawn_ok hm) (fun i : { i : Nat // i ≤ l.length } => ⟨[(0, .sl 1 (E cI l)), (1, .sl 1 (E cI l)), (5, .v (.int .i64 i.1))], []⟩) (fun i => l.length - i.1) ⟨0, by omega⟩ ?_ ?_
  · simp [LeL, look]
  · rintro ⟨i, hi⟩
    simp -dsimp only [go_sem, reduceIte, reduceCtorEq, Nat.reduceEqDiff]
    refine Br.mk (fun h1 => ?_) fun h1 => ?_
    · have hlt : i < l.length := by simpa using h1
      have hw := wrap_succ hlt hl
      simp -dsimp only [go_sem, reduceIte, reduceCtorEq, Nat.reduceEqDiff]
      refine RgK.mk rfl ?_
      simp -dsimp only [go_sem, reduceIte, reduceCtorEq, Nat.reduceEqDiff, cI_get hlt, hw]
      exact ⟨⟨by omega, by omega⟩, ⟨by omega, by omega⟩, ⟨i + 1, by omega⟩, by simp [LeL, look], by simp only; omega⟩
    · simp -dsimp only [go_sem, reduceIte, reduceCtorEq, Nat.reduceEqDiff]
      simp
end Go.Vs
