/- A contract of the library's, as this framework has contracts. -/
import Derived.Test.YtgeeipfdkamhmaaGreatDoorEtL
import Derived.Sort.Grow
import Derived.Deep.Draws
namespace Go.Vs
variable {P : Program}
set_option linter.unusedSimpArgs false
attribute [local irreducible] Fn

def qI (a b : Int) : Bool := a == b
def spI_code : ACode :=
  .seq (.region [⟨some 4, .mv (.const (.bool false)), none⟩] [0, 1] []) <|
  .seq (.seq (.region [⟨some 6, .mv (.tmp 0), none⟩,
      ⟨some 7, .len (.tmp 6), none⟩,
      ⟨some 8, .mv (.tmp 1), none⟩,
      ⟨some 9, .len (.tmp 8), none⟩,
      ⟨some 10, .bin .neq (.tmp 7) (.tmp 9), none⟩] [0, 1, 10] []) <|
   .cond (.tmp 10)
     (.seq (.region [⟨some 4, .mv (.const (.bool false)), none⟩] [4] []) <|
     .ret)
     (.skip)) <|
  .seq (.seq (.region [⟨some 5, .mv (.const (.int .i64 (0))), none⟩] [0, 1, 5] []) <|
   .block 0 (
     .loop (
       .seq (.seq (.region [⟨some 11, .mv (.tmp 5), none⟩,
           ⟨some 12, .mv (.tmp 0), none⟩,
           ⟨some 13, .len (.tmp 12), none⟩,
           ⟨some 14, .bin .lss (.tmp 11) (.tmp 13), none⟩] [0, 1, 5, 14] []) <|
        .cond (.tmp 14)
          (.skip)
          (.exit 0)) <|
       .seq (.block 1 (
          .seq (.region [⟨some 17, .mv (.tmp 0), none⟩,
             ⟨some 18, .mv (.tmp 5), none⟩,
             ⟨some 19, .idxSl 1 (.tmp 17) (.tmp 18), none⟩,
             ⟨some 20, .load false 1 (.tmp 19), none⟩,
             ⟨some 21, .mv (.tmp 1), none⟩,
             ⟨some 22, .mv (.tmp 5), none⟩,
             ⟨some 23, .idxSl 1 (.tmp 21) (.tmp 22), none⟩,
             ⟨some 24, .load false 1 (.tmp 23), none⟩,
             ⟨some 25, .bin .neq (.tmp 20) (.tmp 24), none⟩] [0, 1, 5, 25] [17, 18, 20, 21, 19, 22, 23, 24, 25]) <|
          .cond (.tmp 25)
            (.seq (.region [⟨some 4, .mv (.const (.bool false)), none⟩] [4] []) <|
            .ret)
            (.skip))) <|
       .region [⟨some 15, .mv (.tmp 5), none⟩,
         ⟨some 16, .bin .add (.tmp 15) (.const (.int .i64 (1))), none⟩,
         ⟨some 5, .mv (.tmp 16), none⟩] [0, 1, 5] []))) <|
  .seq (.region [⟨some 4, .mv (.const (.bool true)), none⟩] [4] []) <|
  .ret

theorem spI_fn (hm : P.follows .mixedOrders = true) {f : FuncId} {fn : Func} {nt : Nat} (h : CodeIsR P f fn (spI_code)) (hnt : fn.ntmps = nt) (hrs : fn.results.toList = [.tmp 4]) (hna : Nat.ble 2 nt = true)
    {l m : List Int} (hl : l.length ≤ 1048576) :
    Fn P f [] [.sl 1 (E cI l), .sl 1 (E cI m)] (.v (.bool (eqLB qI l m))) [] := by
  refine h.fn0 hm hnt hrs hna fun X => ?_
  unfold spI_code
  simp -dsimp only [go_sem, reduceIte, reduceCtorEq, Nat.reduceEqDiff]
  refine Br.mk (fun h0 => ?_) fun h0 => ?_
  · simp -dsimp only [go_sem, reduceIte, reduceCtorEq, Nat.reduceEqDiff]
    have : l.length ≠ m.length := by rintro e; simp [e] at h0
    simp [eqLB_len this]
  · have he : l.length = m.length := by
      have := h0
      simp at this
      omega
    simp -dsimp only [go_sem, reduceIte, reduceCtorEq, Nat.reduceEqDiff]
    refine LoopK.intro (drawn_ok hm) (fun i : { i : Nat // i ≤ l.length ∧ eqLB qI (l.drop i) (m.drop i) = eqLB qI l m } => ⟨[(0, .sl 1 (E cI l)), (1, .sl 1 (E cI m)), (5, .v (.int .i64 i.1))], []⟩) (fun i => l.length - i.1) ⟨0, by simp⟩ ?_ ?_
    · simp [LeL, look]
    · rintro ⟨i, hi, hP⟩
      simp -dsimp only [go_sem, reduceIte, reduceCtorEq, Nat.reduceEqDiff]
      refine Br.mk (fun h1 => ?_) fun h1 => ?_
      · have hlt : i < l.length := by simpa using h1
        have hlt' : i < m.length := by omega
        have hw := wrap_succ hlt hl
        rw [eqLB_step hlt hlt'] at hP
        simp -dsimp only [go_sem, reduceIte, reduceCtorEq, Nat.reduceEqDiff]
        refine RgK.mk rfl ?_
        simp -dsimp only [go_sem, reduceIte, reduceCtorEq, Nat.reduceEqDiff, cI_get hlt, cI_get hlt']
        refine ⟨⟨by omega, by omega⟩, ⟨by omega, by omega⟩, ?_⟩
        refine Br.mk (fun h2 => ?_) fun h2 => ?_
        · simp -dsimp only [go_sem, reduceIte, reduceCtorEq, Nat.reduceEqDiff]
          have h2 : qI l[i] m[i] = false := by simpa [qI] using h2
          rw [h2] at hP
          simp [← hP]
        · simp -dsimp only [go_sem, reduceIte, reduceCtorEq, Nat.reduceEqDiff, hw]
          have h2 : qI l[i] m[i] = true := by simpa [qI] using h2
          rw [h2, Bool.true_and] at hP
          exact ⟨⟨i + 1, by omega, hP⟩, by simp [LeL, look], by simp only; omega⟩
      · simp -dsimp only [go_sem, reduceIte, reduceCtorEq, Nat.reduceEqDiff]
        have hge : i = l.length := by
          have : ¬ i < l.length := by simpa using h1
          omega
        subst hge
        rw [he, List.drop_length, ← he, List.drop_length] at hP
        simp [← hP, eqLB]

def slI_code : ACode :=
  .seq (.region [⟨some 4, .mv (.const (.bool false)), none⟩] [0, 1] []) <|
  .seq (.seq (.region [⟨some 6, .mv (.tmp 0), none⟩,
      ⟨some 7, .len (.tmp 6), none⟩,
      ⟨some 8, .mv (.tmp 1), none⟩,
      ⟨some 9, .len (.tmp 8), none⟩,
      ⟨some 10, .bin .neq (.tmp 7) (.tmp 9), none⟩] [0, 1, 10] []) <|
   .cond (.tmp 10)
     (.seq (.region [⟨some 4, .mv (.const (.bool false)), none⟩] [4] []) <|
     .ret)
     (.skip)) <|
  .seq (.seq (.region [⟨some 11, .mv (.tmp 0), none⟩,
      ⟨some 12, .len (.tmp 11), none⟩,
      ⟨some 13, .mv (.const (.int .i64 (0))), none⟩] [0, 1, 12, 13] []) <|
   .block 0 (
     .loop (
       .seq (.region [⟨some 14, .bin .lss (.tmp 13) (.tmp 12), none⟩] [0, 1, 12, 13, 14] []) <|
       .seq (.cond (.tmp 14)
          (.skip)
          (.exit 0)) <|
       .seq (.block 1 (
          .seq (.region [⟨some 15, .mv (.tmp 13), none⟩,
             ⟨some 5, .mv (.tmp 15), none⟩] [0, 1, 5, 12, 13] []) <|
          .seq (.region [⟨some 16, .mv (.tmp 0), none⟩,
             ⟨some 17, .mv (.tmp 5), none⟩,
             ⟨some 18, .idxSl 1 (.tmp 16) (.tmp 17), none⟩,
             ⟨some 19, .load false 1 (.tmp 18), none⟩,
             ⟨some 20, .mv (.tmp 1), none⟩,
             ⟨some 21, .mv (.tmp 5), none⟩,
             ⟨some 22, .idxSl 1 (.tmp 20) (.tmp 21), none⟩,
             ⟨some 23, .load false 1 (.tmp 22), none⟩,
             ⟨some 24, .bin .neq (.tmp 19) (.tmp 23), none⟩] [0, 1, 12, 13, 24] [16, 17, 19, 20, 18, 21, 22, 23, 24]) <|
          .cond (.tmp 24)
            (.seq (.region [⟨some 4, .mv (.const (.bool false)), none⟩] [4] []) <|
            .ret)
            (.skip))) <|
       .region [⟨some 25, .bin .add (.tmp 13) (.const (.int .i64 (1))), none⟩,
         ⟨some 13, .mv (.tmp 25), none⟩] [0, 1, 12, 13] []))) <|
  .seq (.region [⟨some 4, .mv (.const (.bool true)), none⟩] [4] []) <|
  .ret

theorem slI_fn (hm : P.follows .mixedOrders = true) {f : FuncId} {fn : Func} {nt : Nat} (h : CodeIsR P f fn (slI_code)) (hnt : fn.ntmps = nt) (hrs : fn.results.toList = [.tmp 4]) (hna : Nat.ble 2 nt = true)
    {l m : List Int} (hl : l.length ≤ 1048576) :
    Fn P f [] [.sl 1 (E cI l), .sl 1 (E cI m)] (.v (.bool (eqLB qI l m))) [] := by
  refine h.fn0 hm hnt hrs hna fun X => ?_
  unfold slI_code
  simp -dsimp only [go_sem, reduceIte, reduceCtorEq, Nat.reduceEqDiff]
  refine Br.mk (fun h0 => ?_) fun h0 => ?_
  · simp -dsimp only [go_sem, reduceIte, reduceCtorEq, Nat.reduceEqDiff]
    have : l.length ≠ m.length := by rintro e; simp [e] at h0
    simp [eqLB_len this]
  · have he : l.length = m.length := by
      have := h0
      simp at this
      omega
    simp -dsimp only [go_sem, reduceIte, reduceCtorEq, Nat.reduceEqDiff]
    refine LoopK.intro (drawn_ok hm) (fun i : { i : Nat // i ≤ l.length ∧ eqLB qI (l.drop i) (m.drop i) = eqLB qI l m } => ⟨[(0, .sl 1 (E cI l)), (1, .sl 1 (E cI m)), (12, .v (.int .i64 l.length)), (13, .v (.int .i64 i.1))], []⟩) (fun i => l.length - i.1) ⟨0, by simp⟩ ?_ ?_
    · simp [LeL, look]
    · rintro ⟨i, hi, hP⟩
      simp -dsimp only [go_sem, reduceIte, reduceCtorEq, Nat.reduceEqDiff]
      refine Br.mk (fun h1 => ?_) fun h1 => ?_
      · have hlt : i < l.length := by simpa using h1
        have hlt' : i < m.length := by omega
        have hw := wrap_succ hlt hl
        rw [eqLB_step hlt hlt'] at hP
        simp -dsimp only [go_sem, reduceIte, reduceCtorEq, Nat.reduceEqDiff]
        refine RgK.mk rfl ?_
        simp -dsimp only [go_sem, reduceIte, reduceCtorEq, Nat.reduceEqDiff, cI_get hlt, cI_get hlt']
        refine ⟨⟨by omega, by omega⟩, ⟨by omega, by omega⟩, ?_⟩
        refine Br.mk (fun h2 => ?_) fun h2 => ?_
        · simp -dsimp only [go_sem, reduceIte, reduceCtorEq, Nat.reduceEqDiff]
          have h2 : qI l[i] m[i] = false := by simpa [qI] using h2
          rw [h2] at hP
          simp [← hP]
        · simp -dsimp only [go_sem, reduceIte, reduceCtorEq, Nat.reduceEqDiff, hw]
          have h2 : qI l[i] m[i] = true := by simpa [qI] using h2
          rw [h2, Bool.true_and] at hP
          exact ⟨⟨i + 1, by omega, hP⟩, by simp [LeL, look], by simp only; omega⟩
      · simp -dsimp only [go_sem, reduceIte, reduceCtorEq, Nat.reduceEqDiff]
        have hge : i = l.length := by
          have : ¬ i < l.length := by simpa using h1
          omega
        subst hge
        rw [he, List.drop_length, ← he, List.drop_length] at hP
        simp [← hP, eqLB]
def eqf1_code : ACode :=
  .seq (.region [⟨some 6, .mv (.const (.bool false)), none⟩] [0, 1, 2] []) <|
  .seq (.seq (.region [⟨some 10, .mv (.tmp 0), none⟩,
      ⟨some 11, .len (.tmp 10), none⟩,
      ⟨some 12, .mv (.tmp 1), none⟩,
      ⟨some 13, .len (.tmp 12), none⟩,
      ⟨some 14, .bin .neq (.tmp 11) (.tmp 13), none⟩] [0, 1, 2, 14] []) <|
   .cond (.tmp 14)
     (.seq (.region [⟨some 6, .mv (.const (.bool false)), none⟩] [6] []) <|
     .ret)
     (.skip)) <|
  .seq (.seq (.region [⟨some 15, .mv (.tmp 0), none⟩,
      ⟨some 16, .len (.tmp 15), none⟩,
      ⟨some 17, .mv (.const (.int .i64 (0))), none⟩] [1, 2, 15, 16, 17] []) <|
   .block 0 (
     .loop (
       .seq (.region [⟨some 18, .bin .lss (.tmp 17) (.tmp 16), none⟩] [1, 2, 15, 16, 17, 18] []) <|
       .seq (.cond (.tmp 18)
          (.skip)
          (.exit 0)) <|
       .seq (.block 1 (
          .seq (.region [⟨some 19, .mv (.tmp 17), none⟩,
             ⟨some 20, .idxSl 1 (.tmp 15) (.tmp 17), none⟩,
             ⟨some 21, .load false 1 (.tmp 20), none⟩,
             ⟨some 7, .mv (.tmp 19), none⟩,
             ⟨some 8, .mv (.tmp 21), none⟩] [1, 2, 7, 8, 15, 16, 17] []) <|
          .seq (.region [⟨some 22, .mv (.tmp 1), none⟩,
             ⟨some 23, .mv (.tmp 7), none⟩,
             ⟨some 24, .idxSl 1 (.tmp 22) (.tmp 23), none⟩,
             ⟨some 25, .load false 1 (.tmp 24), none⟩,
             ⟨some 9, .mv (.tmp 25), none⟩] [1, 2, 8, 9, 15, 16, 17] []) <|
          .seq (.region [⟨some 26, .mv (.tmp 2), none⟩,
             ⟨some 27, .mv (.tmp 8), none⟩,
             ⟨some 28, .mv (.tmp 9), none⟩,
             ⟨some 29, .call (.tmp 26) [(.tmp 27), (.tmp 28)] [], none⟩,
             ⟨some 30, .un .not (.tmp 29), none⟩] [1, 2, 15, 16, 17, 30] []) <|
          .cond (.tmp 30)
            (.seq (.region [⟨some 6, .mv (.const (.bool false)), none⟩] [6] []) <|
            .ret)
            (.skip))) <|
       .region [⟨some 31, .bin .add (.tmp 17) (.const (.int .i64 (1))), none⟩,
         ⟨some 17, .mv (.tmp 31), none⟩] [1, 2, 15, 16, 17] []))) <|
  .seq (.region [⟨some 6, .mv (.const (.bool true)), none⟩] [6] []) <|
  .ret

theorem eqf1_fn (hm : P.follows .mixedOrders = true) {f : FuncId} {fn : Func} {nt : Nat} (h : CodeIsR P f fn eqf1_code) (hnt : fn.ntmps = nt) (hrs : fn.results.toList = [.tmp 6]) (hna : Nat.ble 3 nt = true)
    {α : Type} {k : Nat} {r : α → List (List AV)} (q : α → α → Bool) (g : FuncId) {l m : List α} (hg : ∀ x, x ∈ l → ∀ y, y ∈ m → Fn P g [] [.sl k (r x), .sl k (r y)] (.v (.bool (q x y))) []) (hl : l.length ≤ 1048576) :
    Fn P f [] [.sl 1 (E (fun x => [.sl k (r x)]) l), .sl 1 (E (fun x => [.sl k (r x)]) m), .fn g []] (.v (.bool (eqLB q l m))) [] := by
  refine h.fn0 hm hnt hrs hna fun X => ?_
  unfold eqf1_code
  simp -dsimp only [go_sem, reduceIte, reduceCtorEq, Nat.reduceEqDiff]
  refine Br.mk (fun h0 => ?_) fun h0 => ?_
  · simp -dsimp only [go_sem, reduceIte, reduceCtorEq, Nat.reduceEqDiff]
    have : l.length ≠ m.length := by rintro e; simp [e] at h0
    simp [eqLB_len this]
  · have he : l.length = m.length := by
      have := h0
      simp at this
      omega
    simp -dsimp only [go_sem, reduceIte, reduceCtorEq, Nat.reduceEqDiff]
    refine LoopK.intro (drawn_ok hm) (fun i : { i : Nat // i ≤ l.length ∧ eqLB q (l.drop i) (m.drop i) = eqLB q l m } => ⟨[(1, .sl 1 (E (fun x => [.sl k (r x)]) m)), (2, .fn g []), (15, .sl 1 (E (fun x => [.sl k (r x)]) l)), (16, .v (.int .i64 l.length)), (17, .v (.int .i64 i.1))], []⟩) (fun i => l.length - i.1) ⟨0, by simp⟩ ?_ ?_
    · simp [LeL, look]
    · rintro ⟨i, hi, hP⟩
      simp -dsimp only [go_sem, reduceIte, reduceCtorEq, Nat.reduceEqDiff]
      refine Br.mk (fun h1 => ?_) fun h1 => ?_
      · have hlt : i < l.length := by simpa using h1
        have hlt' : i < m.length := by omega
        have hw := wrap_succ hlt hl
        rw [eqLB_step hlt hlt'] at hP
        simp -dsimp only [go_sem, reduceIte, reduceCtorEq, Nat.reduceEqDiff, E_get hlt, E_get hlt']
        refine ⟨⟨by omega, by omega⟩, ⟨by omega, by omega⟩, ?_⟩
        refine CallK.flat (hg _ (List.getElem_mem hlt) _ (List.getElem_mem hlt')) rfl ?_
        simp -dsimp only [go_sem, reduceIte, reduceCtorEq, Nat.reduceEqDiff]
        refine Br.mk (fun h2 => ?_) fun h2 => ?_
        · simp -dsimp only [go_sem, reduceIte, reduceCtorEq, Nat.reduceEqDiff]
          have h2 : q l[i] m[i] = false := by simpa using h2
          rw [h2] at hP
          simp [← hP]
        · simp -dsimp only [go_sem, reduceIte, reduceCtorEq, Nat.reduceEqDiff, hw]
          have h2 : q l[i] m[i] = true := by simpa using h2
          rw [h2, Bool.true_and] at hP
          exact ⟨⟨i + 1, by omega, hP⟩, by simp [LeL, look], by simp only; omega⟩
      · simp -dsimp only [go_sem, reduceIte, reduceCtorEq, Nat.reduceEqDiff]
        have hge : i = l.length := by
          have : ¬ i < l.length := by simpa using h1
          omega
        subst hge
        rw [he, List.drop_length, ← he, List.drop_length] at hP
        simp [← hP, eqLB]

def eqfC_code : ACode :=
  .seq (.region [⟨some 6, .mv (.const (.bool false)), none⟩] [0, 1, 2] []) <|
  .seq (.seq (.region [⟨some 10, .mv (.tmp 0), none⟩,
      ⟨some 11, .len (.tmp 10), none⟩,
      ⟨some 12, .mv (.tmp 1), none⟩,
      ⟨some 13, .len (.tmp 12), none⟩,
      ⟨some 14, .bin .neq (.tmp 11) (.tmp 13), none⟩] [0, 1, 2, 14] []) <|
   .cond (.tmp 14)
     (.seq (.region [⟨some 6, .mv (.const (.bool false)), none⟩] [6] []) <|
     .ret)
     (.skip)) <|
  .seq (.seq (.region [⟨some 15, .mv (.tmp 0), none⟩,
      ⟨some 16, .len (.tmp 15), none⟩,
      ⟨some 17, .mv (.const (.int .i64 (0))), none⟩] [1, 2, 15, 16, 17] []) <|
   .block 0 (
     .loop (
       .seq (.region [⟨some 18, .bin .lss (.tmp 17) (.tmp 16), none⟩] [1, 2, 15, 16, 17, 18] []) <|
       .seq (.cond (.tmp 18)
          (.skip)
          (.exit 0)) <|
       .seq (.block 1 (
          .seq (.region [⟨some 19, .mv (.tmp 17), none⟩,
             ⟨some 20, .idxSl 1 (.tmp 15) (.tmp 17), none⟩,
             ⟨some 21, .load true 1 (.tmp 20), none⟩,
             ⟨some 8, .alloc [.v (.slice none 0 0)], none⟩,
             ⟨some 7, .mv (.tmp 19), none⟩,
             ⟨none, .store 1 (.tmp 8) (.tmp 21), none⟩] [1, 2, 7, 8, 15, 16, 17] []) <|
          .seq (.region [⟨some 22, .mv (.tmp 1), none⟩,
             ⟨some 23, .mv (.tmp 7), none⟩,
             ⟨some 24, .idxSl 1 (.tmp 22) (.tmp 23), none⟩,
             ⟨some 25, .load true 1 (.tmp 24), none⟩,
             ⟨some 9, .alloc [.v (.slice none 0 0)], none⟩,
             ⟨none, .store 1 (.tmp 9) (.tmp 25), none⟩] [1, 2, 8, 9, 15, 16, 17] []) <|
          .seq (.region [⟨some 26, .mv (.tmp 2), none⟩,
             ⟨some 27, .load true 1 (.tmp 8), none⟩,
             ⟨some 28, .load true 1 (.tmp 9), none⟩,
             ⟨some 29, .call (.tmp 26) [(.tmp 27), (.tmp 28)] [], none⟩,
             ⟨some 30, .un .not (.tmp 29), none⟩] [1, 2, 15, 16, 17, 30] []) <|
          .cond (.tmp 30)
            (.seq (.region [⟨some 6, .mv (.const (.bool false)), none⟩] [6] []) <|
            .ret)
            (.skip))) <|
       .region [⟨some 31, .bin .add (.tmp 17) (.const (.int .i64 (1))), none⟩,
         ⟨some 17, .mv (.tmp 31), none⟩] [1, 2, 15, 16, 17] []))) <|
  .seq (.region [⟨some 6, .mv (.const (.bool true)), none⟩] [6] []) <|
  .ret

theorem eqfC_fn (hm : P.follows .mixedOrders = true) {f : FuncId} {fn : Func} {nt : Nat} (h : CodeIsR P f fn eqfC_code) (hnt : fn.ntmps = nt) (hrs : fn.results.toList = [.tmp 6]) (hna : Nat.ble 3 nt = true)
    {α : Type} {k : Nat} {r : α → List (List AV)} (q : α → α → Bool) (g : FuncId) {l m : List α} (hg : ∀ x, x ∈ l → ∀ y, y ∈ m → Fn P g [] [.agg [.sl k (r x)], .agg [.sl k (r y)]] (.v (.bool (q x y))) []) (hl : l.length ≤ 1048576) :
    Fn P f [] [.sl 1 (E (fun x => [.sl k (r x)]) l), .sl 1 (E (fun x => [.sl k (r x)]) m), .fn g []] (.v (.bool (eqLB q l m))) [] := by
  refine h.fn0 hm hnt hrs hna fun X => ?_
  unfold eqfC_code
  simp -dsimp only [go_sem, reduceIte, reduceCtorEq, Nat.reduceEqDiff]
  refine Br.mk (fun h0 => ?_) fun h0 => ?_
  · simp -dsimp only [go_sem, reduceIte, reduceCtorEq, Nat.reduceEqDiff]
    have : l.length ≠ m.length := by rintro e; simp [e] at h0
    simp [eqLB_len this]
  · have he : l.length = m.length := by
      have := h0
      simp at this
      omega
    simp -dsimp only [go_sem, reduceIte, reduceCtorEq, Nat.reduceEqDiff]
    refine LoopK.intro (drawn_ok hm) (fun i : { i : Nat // i ≤ l.length ∧ eqLB q (l.drop i) (m.drop i) = eqLB q l m } => ⟨[(1, .sl 1 (E (fun x => [.sl k (r x)]) m)), (2, .fn g []), (15, .sl 1 (E (fun x => [.sl k (r x)]) l)), (16, .v (.int .i64 l.length)), (17, .v (.int .i64 i.1))], []⟩) (fun i => l.length - i.1) ⟨0, by simp⟩ ?_ ?_
    · simp [LeL, look]
    · rintro ⟨i, hi, hP⟩
      simp -dsimp only [go_sem, reduceIte, reduceCtorEq, Nat.reduceEqDiff]
      refine Br.mk (fun h1 => ?_) fun h1 => ?_
      · have hlt : i < l.length := by simpa using h1
        have hlt' : i < m.length := by omega
        have hw := wrap_succ hlt hl
        rw [eqLB_step hlt hlt'] at hP
        simp -dsimp only [go_sem, reduceIte, reduceCtorEq, Nat.reduceEqDiff, E_get hlt, E_get hlt']
        refine ⟨⟨by omega, by omega⟩, by omega, ⟨by omega, by omega⟩, by omega, ?_⟩
        refine CallK.flat (hg _ (List.getElem_mem hlt) _ (List.getElem_mem hlt')) rfl ?_
        simp -dsimp only [go_sem, reduceIte, reduceCtorEq, Nat.reduceEqDiff]
        refine Br.mk (fun h2 => ?_) fun h2 => ?_
        · simp -dsimp only [go_sem, reduceIte, reduceCtorEq, Nat.reduceEqDiff]
          have h2 : q l[i] m[i] = false := by simpa using h2
          rw [h2] at hP
          simp [← hP]
        · simp -dsimp only [go_sem, reduceIte, reduceCtorEq, Nat.reduceEqDiff, hw]
          have h2 : q l[i] m[i] = true := by simpa using h2
          rw [h2, Bool.true_and] at hP
          exact ⟨⟨i + 1, by omega, hP⟩, by simp [LeL, look], by simp only; omega⟩
      · simp -dsimp only [go_sem, reduceIte, reduceCtorEq, Nat.reduceEqDiff]
        have hge : i = l.length := by
          have : ¬ i < l.length := by simpa using h1
          omega
        subst hge
        rw [he, List.drop_length, ← he, List.drop_length] at hP
        simp [← hP, eqLB]

end Go.Vs

namespace Go.Vs
theorem szGo_mem {α : Type} {f : α → Int → Int} : ∀ {l : List α} {n : Int}, (∀ x, x ∈ l → ∀ n, 0 ≤ n → n ≤ 1048576 → 0 ≤ f x n → f x n ≤ n) → 0 ≤ n → n ≤ 1048576 → 0 ≤ szGo f l n → ∀ x, x ∈ l → ∃ m, 0 ≤ m ∧ m ≤ 1048576 ∧ 0 ≤ f x m
  | [], n, _, _, _, _, x, hx => by cases hx
  | y :: r, n, hf, h0, hn, h, x, hx => by
    simp only [szGo] at h
    split at h
    · omega
    · rename_i h1
      rcases List.mem_cons.1 hx with rfl | hx
      · exact ⟨n, h0, hn, by omega⟩
      · have h2 := hf y (by simp) n h0 hn (by omega)
        exact szGo_mem (fun z hz => hf z (by simp [hz])) (by omega) (by omega) h x hx
theorem szL_in {α : Type} {f : α → Int → Int} {l : List α} {n : Int} (hf : ∀ x, x ∈ l → ∀ n, 0 ≤ n → n ≤ 1048576 → 0 ≤ f x n → f x n ≤ n) (hl : l.length < 2 ^ 63) (h0 : 0 ≤ n) (hn : n ≤ 1048576) (h : 0 ≤ szL f l n) : ∀ x, x ∈ l → ∃ m, 0 ≤ m ∧ m ≤ 1048576 ∧ 0 ≤ f x m := by
  unfold szL at h
  split at h
  · omega
  · rename_i h1
    rw [wrap_in (by omega) (by omega)] at h h1
    exact szGo_mem (n := n - l.length) hf (by omega) (by omega) (by omega)
theorem szL_mono {α : Type} {f : α → Int → Int} {l : List α} {n : Int} (hf : ∀ x, x ∈ l → ∀ n, 0 ≤ n → n ≤ 1048576 → 0 ≤ f x n → f x n ≤ n) (hl : l.length < 2 ^ 63) (h0 : 0 ≤ n) (hn : n ≤ 1048576) (h : 0 ≤ szL f l n) : szL f l n ≤ n ∧ (l.length : Int) ≤ n := by
  refine ⟨?_, szL_len (f := f) hl ⟨h0, hn⟩ (by omega)⟩
  have h2 := h
  unfold szL at h ⊢
  split
  · rename_i h1; rw [if_pos h1] at h; omega
  · rename_i h1
    rw [if_neg h1] at h
    rw [wrap_in (by omega) (by omega)] at h h1 ⊢
    have := szGo_le hf (by omega) (by omega) h
    omega
end Go.Vs

namespace Go.Vs
variable {P : Program}
theorem Fn.of_ext {f : FuncId} {args : List AV} {x : AV} (hb : HasBody P f)
    (h : ∀ (S : Nat → Prop) (w : World) (vs : Array Value), Env S w → vs.size = args.length → (∀ j, j < args.length → RV S w (fun _ => none) (fun _ => 0) (Hn []) (args.getD j .junk) (vs.getD j undef)) →
      Calls P f vs w fun e w' => ∃ v, e = .returned v ∧ RC S w' x v ∧ Ext w w') : Fn P f [] args x [] := by
  refine ⟨hb, fun S w ρ κ vs hok _ hvs hargs => ?_⟩
  have hH : Hn (([] : List Blk).map some) = Hn [] := rfl
  refine (h S w vs hok.env hvs fun j hj => ?_).mono ?_
  · refine (hargs j hj).mono (fun _ h => h) (fun _ _ => rfl) fun n _ b hb => ?_
    cases n <;> simp [Hn] at hb
  · rintro e w' ⟨v, rfl, hv, hx⟩
    refine ⟨v, S, ρ, κ, rfl, ⟨⟨fun n b hb => ?_, fun n m y h1 => ?_, fun b hb => Nat.lt_of_lt_of_le (hok.dom b hb) hx.1, hok.env.mono (fun _ h => h) fun b hb => hx.2.1 b (hok.dom b hb)⟩, hx.1, fun b hb _ => hx.2.1 b hb, fun _ h => h, fun b hb => .inl hb, fun j z hj => ?_, hx.2.2, fun j b hj => ?_⟩, .clo hv⟩
    · cases n <;> simp [Hn] at hb
    · cases n <;> simp [Hn] at h1
    · simp at hj
    · simp at hj
theorem ext_grow (w : World) (k : Nat) (os : Array Obj) : Ext w (Go.Sort.grow (w.drewN k) os) := by
  refine ⟨by simp [Go.Sort.grow, World.drewN], fun b hb => ?_, rfl, rfl⟩
  simp [Go.Sort.grow, World.drewN, Array.getElem?_append, hb]
end Go.Vs
