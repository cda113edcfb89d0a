/- Looking for an element of a list that a function value accepts. -/
import Derived.Test.YtokfhfdnmnblfaaVtH
namespace Go.Vs
set_option linter.unusedSectionVars false
variable [Envs]
variable {P : Program} {α : Type} {c : α → List AV}
set_option linter.unusedSimpArgs false
attribute [local irreducible] Fn
def idxP (p : α → Bool) (l : List α) : Int := match l.findIdx? p with | some i => i | none => -1
theorem idxP_none {p : α → Bool} {l : List α} (h : l.all (fun x => !p x) = true) : idxP p l = -1 := by
  have : l.findIdx? p = none := by
    rw [List.findIdx?_eq_none_iff]
    intro x hx
    simpa using List.all_eq_true.1 h x hx
  simp [idxP, this]
theorem idxP_some {p : α → Bool} {l : List α} {i : Nat} (hi : i < l.length) (h : (l.take i).all (fun x => !p x) = true) (hp : p l[i] = true) : idxP p l = i := by
  have : l.findIdx? p = some i := by
    rw [List.findIdx?_eq_some_iff_getElem]
    refine ⟨hi, hp, fun j hj => ?_⟩
    have := List.all_eq_true.1 h l[j] (by
      rw [List.mem_take_iff_getElem]
      exact ⟨j, by omega, rfl⟩)
    simpa using this
  simp [idxP, this]
theorem idxP_any (p : α → Bool) (l : List α) : decide (idxP p l ≥ 0) = l.any p := by
  unfold idxP
  cases h : l.findIdx? p with
  | none =>
    rw [List.findIdx?_eq_none_iff] at h
    have : l.any p = false := by
      rw [List.any_eq_false]
      intro x hx; simp [h x hx]
    simp [this]
  | some i =>
    rw [List.findIdx?_eq_some_iff_getElem] at h
    obtain ⟨hi, hp, _⟩ := h
    have : l.any p = true := List.any_eq_true.2 ⟨l[i], List.getElem_mem hi, hp⟩
    simp [this]

def ixA_code (k : Nat) : ACode :=
  .seq (.region [⟨some 4, .mv (.const (.int .i64 (0))), none⟩] [0, 1] []) <|
  .seq (.seq (.region [⟨some 6, .mv (.tmp 0), none⟩,
      ⟨some 7, .len (.tmp 6), none⟩,
      ⟨some 8, .mv (.const (.int .i64 (0))), none⟩] [0, 1, 7, 8] []) <|
   .block 0 (
     .loop (
       .seq (.region [⟨some 9, .bin .lss (.tmp 8) (.tmp 7), none⟩] [0, 1, 7, 8, 9] []) <|
       .seq (.cond (.tmp 9)
          (.skip)
          (.exit 0)) <|
       .seq (.block 1 (
          .seq (.region [⟨some 10, .mv (.tmp 8), none⟩,
             ⟨some 5, .mv (.tmp 10), none⟩] [0, 1, 5, 7, 8] []) <|
          .seq (.region [⟨some 11, .mv (.tmp 1), none⟩,
             ⟨some 12, .mv (.tmp 0), none⟩,
             ⟨some 13, .mv (.tmp 5), none⟩,
             ⟨some 14, .idxSl k (.tmp 12) (.tmp 13), none⟩,
             ⟨some 15, .load true k (.tmp 14), none⟩,
             ⟨some 16, .call (.tmp 11) [(.tmp 15)] [], none⟩] [0, 1, 5, 7, 8, 16] []) <|
          .cond (.tmp 16)
            (.seq (.region [⟨some 17, .mv (.tmp 5), none⟩,
               ⟨some 4, .mv (.tmp 17), none⟩] [4] []) <|
            .ret)
            (.skip))) <|
       .region [⟨some 18, .bin .add (.tmp 8) (.const (.int .i64 (1))), none⟩,
         ⟨some 8, .mv (.tmp 18), none⟩] [0, 1, 7, 8] []))) <|
  .seq (.region [⟨some 4, .mv (.const (.int .i64 (-1))), none⟩] [4] []) <|
  .ret

theorem ixA_fn (hm : P.follows .mixedOrders = true) {f : FuncId} {fn : Func} {k : Nat} {nt : Nat} (h : CodeIsR P f fn (ixA_code k)) (hnt : fn.ntmps = nt) (hrs : fn.results.toList = [.tmp 4]) (hna : Nat.ble 2 nt = true)
    (p : α → Bool) (g : FuncId) (caps : List AV) (hcaps : cellsB caps = true) (hk : ∀ x, (c x).length = k) (hcb : ∀ x, cellsB (c x) = true) {l : List α} (hg : ∀ x, x ∈ l → Fn P g [] (.agg (c x) :: caps) (.v (.bool (p x))) []) (hl : l.length ≤ 1048576) :
    Fn P f [] [.sl k (E c l), .fn g caps] (.v (.int .i64 (idxP p l))) [] := by
  refine h.fn0 hm hnt hrs hna fun X => ?_
  unfold ixA_code
  simp -dsimp only [go_sem, reduceIte, reduceCtorEq, Nat.reduceEqDiff, conv_cells hcaps _ 6]
  refine LoopK.intro (drawn_ok hm) (fun i : { i : Nat // i ≤ l.length ∧ (l.take i).all (fun x => !p x) = true } => ⟨[(0, .sl k (E c l)), (1, .fn g caps), (7, .v (.int .i64 l.length)), (8, .v (.int .i64 i.1))], []⟩) (fun i => l.length - i.1) ⟨0, by simp⟩ ?_ ?_
  · simp [LeL, look]
  · rintro ⟨i, hi, hall⟩
    simp -dsimp only [go_sem, reduceIte, reduceCtorEq, Nat.reduceEqDiff]
    refine Br.mk (fun h1 => ?_) fun h1 => ?_
    · have hlt : i < l.length := by simpa using h1
      have hw := wrap_succ hlt hl
      have ht : (c l[i]).take k = c l[i] := List.take_of_length_le (by rw [hk]; exact Nat.le_refl _)
      simp -dsimp only [go_sem, reduceIte, reduceCtorEq, Nat.reduceEqDiff, E_get hlt, ht, conv_cells (hcb l[i]) _ 6, conv_cells hcaps _ 7]
      refine ⟨⟨by omega, by omega⟩, by rw [hk]; exact Nat.le_refl _, ?_⟩
      refine CallK.flat (hg _ (List.getElem_mem hlt)) rfl ?_
      simp -dsimp only [go_sem, reduceIte, reduceCtorEq, Nat.reduceEqDiff]
      refine Br.mk (fun h2 => ?_) fun h2 => ?_
      · simp -dsimp only [go_sem, reduceIte, reduceCtorEq, Nat.reduceEqDiff]
        simp [idxP_some hlt hall h2]
      · simp -dsimp only [go_sem, reduceIte, reduceCtorEq, Nat.reduceEqDiff, hw]
        exact ⟨⟨i + 1, by omega, take_succ_all hlt hall (by simpa using h2)⟩, by simp [LeL, look], by simp only; omega⟩
    · have hge : i = l.length := by
        have : ¬ i < l.length := by simpa using h1
        omega
      subst hge
      simp -dsimp only [go_sem, reduceIte, reduceCtorEq, Nat.reduceEqDiff]
      have : l.all (fun x => !p x) = true := by simpa using hall
      simp [idxP_none this]

/-- a list of numbers, row by row -/
def cI (n : Int) : List AV := [.v (.int .i64 n)]

def ixI_code : ACode :=
  .seq (.region [⟨some 4, .mv (.const (.int .i64 (0))), none⟩] [0, 1] []) <|
  .seq (.seq (.region [⟨some 6, .mv (.tmp 0), none⟩,
      ⟨some 7, .len (.tmp 6), none⟩,
      ⟨some 8, .mv (.const (.int .i64 (0))), none⟩] [0, 1, 7, 8] []) <|
   .block 0 (
     .loop (
       .seq (.region [⟨some 9, .bin .lss (.tmp 8) (.tmp 7), none⟩] [0, 1, 7, 8, 9] []) <|
       .seq (.cond (.tmp 9)
          (.skip)
          (.exit 0)) <|
       .seq (.block 1 (
          .seq (.region [⟨some 10, .mv (.tmp 8), none⟩,
             ⟨some 5, .mv (.tmp 10), none⟩] [0, 1, 5, 7, 8] []) <|
          .seq (.region [⟨some 11, .mv (.tmp 1), none⟩,
             ⟨some 12, .mv (.tmp 0), none⟩,
             ⟨some 13, .mv (.tmp 5), none⟩,
             ⟨some 14, .idxSl 1 (.tmp 12) (.tmp 13), none⟩,
             ⟨some 15, .load false 1 (.tmp 14), none⟩,
             ⟨some 16, .call (.tmp 11) [(.tmp 15)] [], none⟩] [0, 1, 5, 7, 8, 16] []) <|
          .cond (.tmp 16)
            (.seq (.region [⟨some 17, .mv (.tmp 5), none⟩,
               ⟨some 4, .mv (.tmp 17), none⟩] [4] []) <|
            .ret)
            (.skip))) <|
       .region [⟨some 18, .bin .add (.tmp 8) (.const (.int .i64 (1))), none⟩,
         ⟨some 8, .mv (.tmp 18), none⟩] [0, 1, 7, 8] []))) <|
  .seq (.region [⟨some 4, .mv (.const (.int .i64 (-1))), none⟩] [4] []) <|
  .ret

theorem ixI_fn (hm : P.follows .mixedOrders = true) {f : FuncId} {fn : Func} {nt : Nat} (h : CodeIsR P f fn (ixI_code)) (hnt : fn.ntmps = nt) (hrs : fn.results.toList = [.tmp 4]) (hna : Nat.ble 2 nt = true)
    (p : Int → Bool) (g : FuncId) (caps : List AV) (hcaps : cellsB caps = true) {l : List Int} (hg : ∀ x, x ∈ l → Fn P g [] (.v (.int .i64 x) :: caps) (.v (.bool (p x))) []) (hl : l.length ≤ 1048576) :
    Fn P f [] [.sl 1 (E cI l), .fn g caps] (.v (.int .i64 (idxP p l))) [] := by
  refine h.fn0 hm hnt hrs hna fun X => ?_
  unfold ixI_code
  simp -dsimp only [go_sem, reduceIte, reduceCtorEq, Nat.reduceEqDiff, conv_cells hcaps _ 6]
  refine LoopK.intro (drawn_ok hm) (fun i : { i : Nat // i ≤ l.length ∧ (l.take i).all (fun x => !p x) = true } => ⟨[(0, .sl 1 (E cI l)), (1, .fn g caps), (7, .v (.int .i64 l.length)), (8, .v (.int .i64 i.1))], []⟩) (fun i => l.length - i.1) ⟨0, by simp⟩ ?_ ?_
  · simp [LeL, look]
  · rintro ⟨i, hi, hall⟩
    simp -dsimp only [go_sem, reduceIte, reduceCtorEq, Nat.reduceEqDiff]
    refine Br.mk (fun h1 => ?_) fun h1 => ?_
    · have hlt : i < l.length := by simpa using h1
      have hw := wrap_succ hlt hl
      simp -dsimp only [go_sem, reduceIte, reduceCtorEq, Nat.reduceEqDiff, E_get hlt, cI, conv_cells hcaps _ 7]
      refine ⟨⟨by omega, by omega⟩, ?_⟩
      refine CallK.flat (hg _ (List.getElem_mem hlt)) rfl ?_
      simp -dsimp only [go_sem, reduceIte, reduceCtorEq, Nat.reduceEqDiff]
      refine Br.mk (fun h2 => ?_) fun h2 => ?_
      · simp -dsimp only [go_sem, reduceIte, reduceCtorEq, Nat.reduceEqDiff]
        simp [idxP_some hlt hall h2]
      · simp -dsimp only [go_sem, reduceIte, reduceCtorEq, Nat.reduceEqDiff, hw]
        exact ⟨⟨i + 1, by omega, take_succ_all hlt hall (by simpa using h2)⟩, by simp [LeL, look], by simp only; omega⟩
    · have hge : i = l.length := by
        have : ¬ i < l.length := by simpa using h1
        omega
      subst hge
      simp -dsimp only [go_sem, reduceIte, reduceCtorEq, Nat.reduceEqDiff]
      have : l.all (fun x => !p x) = true := by simpa using hall
      simp [idxP_none this]

def ct_code (g : FuncId) : ACode :=
  .seq (.region [⟨some 4, .mv (.const (.bool false)), none⟩] [0, 1] []) <|
  .seq (.region [⟨some 5, .mv (.tmp 0), none⟩,
     ⟨some 6, .mv (.tmp 1), none⟩,
     ⟨some 7, .call (.func g) [(.tmp 5), (.tmp 6)] [], none⟩,
     ⟨some 8, .bin .geq (.tmp 7) (.const (.int .i64 (0))), none⟩,
     ⟨some 4, .mv (.tmp 8), none⟩] [4] []) <|
  .ret

theorem ct_fn (hm : P.follows .mixedOrders = true) {f : FuncId} {fn : Func} {g : FuncId} {nt : Nat} (h : CodeIsR P f fn (ct_code g)) (hnt : fn.ntmps = nt) (hrs : fn.results.toList = [.tmp 4]) (hna : Nat.ble 2 nt = true)
    (p : α → Bool) (q : FuncId) (caps : List AV) (hcaps : cellsB caps = true) {k : Nat} {l : List α} (hg : Fn P g [] [.sl k (E c l), .fn q caps] (.v (.int .i64 (idxP p l))) []) :
    Fn P f [] [.sl k (E c l), .fn q caps] (.v (.bool (l.any p))) [] := by
  refine h.fn0 hm hnt hrs hna fun X => ?_
  unfold ct_code
  simp -dsimp only [go_sem, reduceIte, reduceCtorEq, Nat.reduceEqDiff, conv_cells hcaps _ 6, conv_cells hcaps _ 7]
  refine CallK.flat hg rfl ?_
  simp -dsimp only [go_sem, reduceIte, reduceCtorEq, Nat.reduceEqDiff]
  simp [← idxP_any]
end Go.Vs
