/- The functions that the laws' text has for every type: sizes, copies, comparisons of lists. -/
import Derived.Test.YthpokkcbbpapdaaDoorDtE
namespace Go.Vs

/-- the rows of a list -/
def E {α : Type} (c : α → List AV) (l : List α) : List (List AV) := l.map c
variable {α : Type} {c : α → List AV}
theorem E_len (l : List α) : (E c l).length = l.length := by simp [E]
theorem E_get {l : List α} {i : Nat} (h : i < l.length) : (E c l).getD i [] = c l[i] := by simp [E, List.getD, h]
theorem E_take (l : List α) : (E c l).take l.length = E c l := List.take_of_length_le (by simp [E])
theorem E_drop0 (l : List α) : (E c l).drop 0 = E c l := rfl
theorem E_nil : E c [] = [] := rfl
theorem E_append (l m : List α) : E c (l ++ m) = E c l ++ E c m := by simp [E]
theorem E_app_one (l : List α) (x : α) : E c l ++ [c x] = E c (l ++ [x]) := by simp [E]

/-- one round of a copy: the row i is written -/
theorem E_set {l : List α} {i : Nat} (h : i < l.length) {x : List AV} (hx : x = c l[i]) (z : List AV) :
    (E c (l.take i) ++ List.replicate (l.length - i) z).set i x = E c (l.take (i + 1)) ++ List.replicate (l.length - (i + 1)) z := by
  subst hx
  have h1 : (E c (l.take i)).length = i := by simp [E]; omega
  rw [List.set_append_right _ _ (by omega), h1, Nat.sub_self, show l.length - i = (l.length - (i + 1)) + 1 by omega, List.replicate_succ, List.set_cons_zero]
  have e : E c (l.take (i + 1)) = E c (l.take i) ++ [c l[i]] := by
    simp only [E, List.take_add_one, List.getElem?_eq_getElem h, Option.toList_some, List.map_append, List.map_cons, List.map_nil]
  rw [e, List.append_assoc, List.singleton_append]
theorem E_rget {l : List α} {i : Nat} (h : i < l.length) (z : List AV) : (E c (l.take i) ++ List.replicate (l.length - i) z).getD i [] = z := by
  have h1 : (E c (l.take i)).length = i := by simp [E]; omega
  simp only [List.getD]
  rw [List.getElem?_append_right (by omega), h1, Nat.sub_self, List.getElem?_replicate, if_pos (by omega)]
  rfl
theorem E_rlen {l : List α} {i : Nat} (h : i ≤ l.length) (z : List AV) : (E c (l.take i) ++ List.replicate (l.length - i) z).length = l.length := by simp [E]; omega
theorem E_all (l : List α) (z : List AV) : E c (l.take l.length) ++ List.replicate (l.length - l.length) z = E c l := by simp [E]
theorem E_start (l : List α) (z : List AV) : List.replicate l.length z = E c (l.take 0) ++ List.replicate (l.length - 0) z := by simp [E]

theorem wrap_succ {i n : Nat} (h : i < n) (hn : n ≤ 1048576) : IntKind.i64.wrap ((i : Int) + 1) = ((i + 1 : Nat) : Int) := by
  rw [wrap_in (by omega) (by omega)]; omega

theorem take_succ_all {l : List α} {p : α → Bool} {i : Nat} (hi : i < l.length) (h : (l.take i).all p = true) (hp : p l[i] = true) : (l.take (i + 1)).all p = true := by
  rw [List.take_add_one, List.getElem?_eq_getElem hi]
  simp only [Option.toList_some, List.all_append, List.all_cons, List.all_nil, h, hp, Bool.and_true]
theorem not_all {l : List α} {p : α → Bool} {i : Nat} (hi : i < l.length) (hp : p l[i] = false) : l.all p = false := by
  cases h : l.all p with
  | false => rfl
  | true => rw [List.all_eq_true.1 h l[i] (List.getElem_mem hi)] at hp; cases hp
theorem take_succ {l : List α} {i : Nat} (hi : i < l.length) : l.take (i + 1) = l.take i ++ [l[i]] := by
  rw [List.take_add_one, List.getElem?_eq_getElem hi]; rfl

/-- what the size of a list costs -/
def szGo (f : α → Int → Int) : List α → Int → Int
  | [], n => n
  | x :: r, n => if f x n < 0 then -1 else szGo f r (f x n)
def szL (f : α → Int → Int) (l : List α) (n : Int) : Int :=
  if IntKind.i64.wrap (n - l.length) < 0 then -1 else szGo f l (IntKind.i64.wrap (n - l.length))
theorem szGo_step (f : α → Int → Int) {l : List α} {i : Nat} (n : Int) (h : i < l.length) : szGo f (l.drop i) n = if f l[i] n < 0 then -1 else szGo f (l.drop (i + 1)) (f l[i] n) := by
  rw [List.drop_eq_getElem_cons h]; rfl
theorem szGo_end (f : α → Int → Int) {l : List α} (n : Int) : szGo f (l.drop l.length) n = n := by simp [szGo]
theorem szGo_le {f : α → Int → Int} : ∀ {l : List α} {n : Int}, (∀ x, x ∈ l → ∀ n, 0 ≤ n → n ≤ 1048576 → 0 ≤ f x n → f x n ≤ n) → 0 ≤ n → n ≤ 1048576 → 0 ≤ szGo f l n → szGo f l n ≤ n
  | [], n, _, _, _, h => Int.le_refl n
  | x :: r, n, hf, h0, hn, h => by
    simp only [szGo] at h ⊢
    split
    · rename_i h1; rw [if_pos h1] at h; omega
    · rename_i h1
      rw [if_neg h1] at h
      have h2 := hf x (by simp) n h0 hn (by omega)
      have := szGo_le (fun y hy => hf y (by simp [hy])) (by omega) (by omega) h
      omega
theorem szL_len {f : α → Int → Int} {l : List α} {n : Int} (hl : l.length < 2 ^ 63) (hn : 0 ≤ n ∧ n ≤ 1048576) (h : ¬ szL f l n < 0) : (l.length : Int) ≤ n := by
  unfold szL at h
  split at h
  · omega
  · rename_i h1
    rw [wrap_in (by omega) (by omega)] at h1
    omega
theorem szL_le {f : α → Int → Int} {l : List α} {n : Int} (hf : ∀ x, x ∈ l → ∀ n, 0 ≤ n → n ≤ 1048576 → 0 ≤ f x n → f x n ≤ n) (hl : l.length < 2 ^ 63) (hn : 0 ≤ n ∧ n ≤ 1048576) (h : ¬ szL f l n < 0) : 0 ≤ szL f l n ∧ szL f l n ≤ 1048576 := by
  unfold szL at h ⊢
  split
  · rename_i h1; rw [if_pos h1] at h; omega
  · rename_i h1
    rw [if_neg h1] at h
    rw [wrap_in (by omega) (by omega)] at h h1 ⊢
    have := szGo_le hf (by omega) (by omega) (show 0 ≤ szGo f l (n - l.length) by omega)
    omega

/-- what the size of a string costs -/
def szT (s : ByteArray) (n : Int) : Int := if IntKind.i64.wrap (n - s.size) < 0 then -1 else IntKind.i64.wrap (n - s.size)
theorem szT_le {s : ByteArray} {n : Int} (hs : s.size < 2 ^ 63) (h0 : 0 ≤ n) (hn : n ≤ 1048576) (h : 0 ≤ szT s n) : szT s n ≤ n ∧ (s.size : Int) ≤ n := by
  unfold szT at h ⊢
  split
  · rename_i h1; rw [if_pos h1] at h; omega
  · rename_i h1
    rw [wrap_in (by omega) (by omega)] at h1 ⊢
    omega

/-- one cell that holds no memory of a walk's own -/
def cellB : AV → Bool
  | .v x => x.oneCell'
  | .sl _ _ => true
  | .ro _ => true
  | _ => false
def cellsB (c : List AV) : Bool := c.all cellB

theorem conv_cells {l : List AV} (hl : cellsB l = true) (h : Name → Option Blk) (m : Nat) (E : List Name) (b : Bool) : mapO (conv h (m + 1) E b) l = some (l, []) := by
  induction l with
  | nil => rfl
  | cons x r ih =>
    simp only [cellsB, List.all_cons, Bool.and_eq_true] at hl
    have hr := ih hl.2
    have hx : conv h (m + 1) E b x = some (x, []) := by
      have := hl.1
      cases x <;> simp [cellB] at this <;> rfl
    simp only [mapO, hx, hr, List.append_nil]
theorem rn_cells {l : List AV} (hl : cellsB l = true) (φ : Name → Option Name) : rnL φ l = l := by
  induction l with
  | nil => rfl
  | cons x r ih =>
    simp only [cellsB, List.all_cons, Bool.and_eq_true] at hl
    have hx : rn φ x = x := by
      have := hl.1
      cases x <;> simp [cellB] at this <;> rfl
    simp only [rnL, hx, ih hl.2]
theorem clo_cells {l : List AV} (hl : cellsB l = true) : isCloL l = true := by
  induction l with
  | nil => rfl
  | cons x r ih =>
    simp only [cellsB, List.all_cons, Bool.and_eq_true] at hl
    have hx : isClo x = true := by
      have := hl.1
      cases x <;> simp [cellB] at this <;> rfl
    simp only [isCloL, hx, ih hl.2, Bool.and_self]
theorem one_cells {l : List AV} (hl : cellsB l = true) (h : Name → Option Blk) : cellsO h (.agg l) = some l := by
  have : l.all (oneB h) = true := by
    refine List.all_eq_true.2 fun x hx => ?_
    have := List.all_eq_true.1 hl x hx
    cases x <;> simp [cellB] at this <;> simp [oneB, this]
  simp [cellsO, this]
theorem all_one {l : List AV} (hl : cellsB l = true) (h : Name → Option Blk) : l.all (oneB h) = true := by
  refine List.all_eq_true.2 fun x hx => ?_
  have := List.all_eq_true.1 hl x hx
  cases x <;> simp [cellB] at this <;> simp [oneB, this]
/-- constants of one cell each -/
def zeroB (z : List AV) : Bool := z.all fun x => match x with | .v y => y.oneCell' | _ => false
theorem zero_all {z : List AV} (hz : zeroB z = true) (h : Name → Option Blk) : (z.all fun x => oneB h x && isClo x) = true := by
  refine List.all_eq_true.2 fun x hx => ?_
  have := List.all_eq_true.1 hz x hx
  cases x <;> simp at this
  simp [oneB, isClo, this]
theorem lay_all : ∀ (cs z : List AV) (p : List AV), z.length = cs.length → lay (p ++ z) p.length cs = p ++ cs
  | [], [], p, _ => rfl
  | [], _ :: _, p, h => by simp at h
  | _ :: _, [], p, h => by simp at h
  | x :: cs, y :: z, p, h => by
    rw [lay]
    have e : (p ++ y :: z).set p.length x = (p ++ [x]) ++ z := by simp
    rw [e]
    have := lay_all cs z (p ++ [x]) (by simpa using h)
    rw [List.length_append, List.length_singleton] at this
    rw [this]; simp
theorem lay_cells {cs z : List AV} (h : z.length = cs.length) : lay z 0 cs = cs := by
  have := lay_all cs z [] h
  simpa using this

attribute [go_sem] E_len E_take E_drop0 List.not_mem_nil
end Go.Vs

namespace Go.Vs
variable {P : Program} {α : Type} {c : α → List AV}
set_option linter.unusedSimpArgs false
attribute [local irreducible] Fn

def szS_code (k : Nat) (g : FuncId) : ACode :=
  .seq (.region [⟨some 4, .mv (.const (.int .i64 (0))), none⟩] [0, 1] []) <|
  .seq (.region [⟨some 6, .mv (.tmp 1), none⟩,
     ⟨some 7, .mv (.tmp 0), none⟩,
     ⟨some 8, .len (.tmp 7), none⟩,
     ⟨some 9, .bin .sub (.tmp 6) (.tmp 8), none⟩,
     ⟨some 1, .mv (.tmp 9), none⟩] [0, 1] []) <|
  .seq (.seq (.region [⟨some 10, .mv (.tmp 1), none⟩,
      ⟨some 11, .bin .lss (.tmp 10) (.const (.int .i64 (0))), none⟩] [0, 1, 11] []) <|
   .cond (.tmp 11)
     (.seq (.region [⟨some 4, .mv (.const (.int .i64 (-1))), none⟩] [4] []) <|
     .ret)
     (.skip)) <|
  .seq (.seq (.region [⟨some 5, .mv (.const (.int .i64 (0))), none⟩] [0, 1, 5] []) <|
   .block 0 (
     .loop (
       .seq (.seq (.region [⟨some 12, .mv (.tmp 5), none⟩,
           ⟨some 13, .mv (.tmp 0), none⟩,
           ⟨some 14, .len (.tmp 13), none⟩,
           ⟨some 15, .bin .lss (.tmp 12) (.tmp 14), none⟩] [0, 1, 5, 15] []) <|
        .cond (.tmp 15)
          (.skip)
          (.exit 0)) <|
       .seq (.block 1 (
          .seq (.region [⟨some 18, .mv (.tmp 0), none⟩,
             ⟨some 19, .mv (.tmp 5), none⟩,
             ⟨some 20, .idxSl k (.tmp 18) (.tmp 19), none⟩,
             ⟨some 21, .load true k (.tmp 20), none⟩,
             ⟨some 22, .mv (.tmp 1), none⟩,
             ⟨some 23, .call (.func g) [(.tmp 21), (.tmp 22)] [], none⟩,
             ⟨some 1, .mv (.tmp 23), none⟩] [0, 1, 5] []) <|
          .seq (.region [⟨some 24, .mv (.tmp 1), none⟩,
             ⟨some 25, .bin .lss (.tmp 24) (.const (.int .i64 (0))), none⟩] [0, 1, 5, 25] []) <|
          .cond (.tmp 25)
            (.seq (.region [⟨some 4, .mv (.const (.int .i64 (-1))), none⟩] [4] []) <|
            .ret)
            (.skip))) <|
       .region [⟨some 16, .mv (.tmp 5), none⟩,
         ⟨some 17, .bin .add (.tmp 16) (.const (.int .i64 (1))), none⟩,
         ⟨some 5, .mv (.tmp 17), none⟩] [0, 1, 5] []))) <|
  .seq (.region [⟨some 26, .mv (.tmp 1), none⟩,
     ⟨some 4, .mv (.tmp 26), none⟩] [4] []) <|
  .ret

theorem szS_fn (hm : P.follows .mixedOrders = true) {f : FuncId} {fn : Func} {k : Nat} {g : FuncId} {nt : Nat} (h : CodeIsR P f fn (szS_code k g)) (hnt : fn.ntmps = nt) (hrs : fn.results.toList = [.tmp 4]) (hna : Nat.ble 2 nt = true)
    (φ : α → Int → Int) (hk : ∀ x, (c x).length = k) (hcb : ∀ x, cellsB (c x) = true) {l : List α} (hg : ∀ x, x ∈ l → ∀ n, 0 ≤ n → n ≤ 1048576 → Fn P g [] [.agg (c x), .v (.int .i64 n)] (.v (.int .i64 (φ x n))) []) (hφ : ∀ x, x ∈ l → ∀ n, 0 ≤ n → n ≤ 1048576 → 0 ≤ φ x n → φ x n ≤ n) (n : Int) (hl : l.length < 2 ^ 63) (hn : 0 ≤ n ∧ n ≤ 1048576) :
    Fn P f [] [.sl k (E c l), .v (.int .i64 n)] (.v (.int .i64 (szL φ l n))) [] := by
  refine h.fn0 hm hnt hrs hna fun X => ?_
  unfold szS_code
  simp -dsimp only [go_sem, reduceIte, reduceCtorEq, Nat.reduceEqDiff]
  refine Br.mk (fun h0 => ?_) fun h0 => ?_
  · simp -dsimp only [go_sem, reduceIte, reduceCtorEq, Nat.reduceEqDiff]
    simp only [decide_eq_true_eq] at h0
    simp [szL, h0]
  · simp -dsimp only [go_sem, reduceIte, reduceCtorEq, Nat.reduceEqDiff]
    simp only [decide_eq_false_iff_not] at h0
    have hW := h0
    rw [wrap_in (by omega) (by omega)] at hW
    refine LoopK.intro (drawn_ok hm) (fun x : { p : Nat × Int // p.1 ≤ l.length ∧ (0 ≤ p.2 ∧ p.2 ≤ 1048576) ∧ szGo φ (l.drop p.1) p.2 = szL φ l n } => ⟨[(0, .sl k (E c l)), (1, .v (.int .i64 x.1.2)), (5, .v (.int .i64 x.1.1))], []⟩) (fun x => l.length - x.1.1)
      ⟨(0, IntKind.i64.wrap (n - l.length)), by simp, ⟨by omega, by rw [wrap_in (by omega) (by omega)]; omega⟩, by simp [szL, h0]⟩ ?_ ?_
    · simp [LeL, look]
    · rintro ⟨⟨i, m⟩, hi, hm', hP⟩
      simp only at hi hm' hP
      simp -dsimp only [go_sem, reduceIte, reduceCtorEq, Nat.reduceEqDiff]
      refine Br.mk (fun h1 => ?_) fun h1 => ?_
      · have hlt : i < l.length := by simpa using h1
        have hw := wrap_succ hlt (by omega)
        simp -dsimp only [go_sem, reduceIte, reduceCtorEq, Nat.reduceEqDiff, E_get hlt]
        refine ⟨⟨by omega, by omega⟩, by rw [hk]; exact Nat.le_refl _, ?_⟩
        have ht : (c l[i]).take k = c l[i] := List.take_of_length_le (by rw [hk]; exact Nat.le_refl _)
        simp -dsimp only [go_sem, reduceIte, reduceCtorEq, Nat.reduceEqDiff, ht, conv_cells (hcb l[i]) _ 6]
        refine CallK.flat (hg _ (List.getElem_mem hlt) _ hm'.1 hm'.2) rfl ?_
        simp -dsimp only [go_sem, reduceIte, reduceCtorEq, Nat.reduceEqDiff]
        rw [szGo_step φ m hlt] at hP
        refine Br.mk (fun h2 => ?_) fun h2 => ?_
        · simp -dsimp only [go_sem, reduceIte, reduceCtorEq, Nat.reduceEqDiff]
          simp only [decide_eq_true_eq] at h2
          rw [if_pos h2] at hP
          simp [← hP]
        · simp -dsimp only [go_sem, reduceIte, reduceCtorEq, Nat.reduceEqDiff, hw]
          simp only [decide_eq_false_iff_not] at h2
          rw [if_neg h2] at hP
          have hle := hφ l[i] (List.getElem_mem hlt) m hm'.1 hm'.2 (by omega)
          exact ⟨⟨(i + 1, φ l[i] m), by simp only; omega, by simp only; omega, hP⟩, by simp [LeL, look], by simp only; omega⟩
      · have hge : i = l.length := by
          have : ¬ i < l.length := by simpa using h1
          omega
        subst hge
        simp -dsimp only [go_sem, reduceIte, reduceCtorEq, Nat.reduceEqDiff]
        rw [szGo_end] at hP
        simp [hP]

def toS_code (k y : Nat) (z : List AV) (g : FuncId) : ACode :=
  .seq (.region [⟨some 2, .mv (.const (.slice none 0 0)), none⟩] [0] []) <|
  .seq (.region [⟨some 5, .mv (.tmp 0), none⟩,
     ⟨some 6, .len (.tmp 5), none⟩,
     ⟨some 7, .mk k y z (.tmp 6), none⟩,
     ⟨some 3, .mv (.tmp 7), none⟩] [0, 3] []) <|
  .seq (.seq (.region [⟨some 4, .mv (.const (.int .i64 (0))), none⟩] [0, 3, 4] []) <|
   .block 0 (
     .loop (
       .seq (.seq (.region [⟨some 8, .mv (.tmp 4), none⟩,
           ⟨some 9, .mv (.tmp 0), none⟩,
           ⟨some 10, .len (.tmp 9), none⟩,
           ⟨some 11, .bin .lss (.tmp 8) (.tmp 10), none⟩] [0, 3, 4, 11] []) <|
        .cond (.tmp 11)
          (.skip)
          (.exit 0)) <|
       .seq (.block 1 (
          .region [⟨some 14, .mv (.tmp 3), none⟩,
            ⟨some 15, .mv (.tmp 4), none⟩,
            ⟨some 16, .mv (.tmp 0), none⟩,
            ⟨some 17, .mv (.tmp 4), none⟩,
            ⟨some 18, .idxSl k (.tmp 16) (.tmp 17), none⟩,
            ⟨some 19, .load true k (.tmp 18), none⟩,
            ⟨some 20, .call (.func g) [(.tmp 19)] [], none⟩,
            ⟨some 21, .idxSl k (.tmp 14) (.tmp 15), none⟩,
            ⟨none, .store k (.tmp 21) (.tmp 20), none⟩] [0, 3, 4] [])) <|
       .region [⟨some 12, .mv (.tmp 4), none⟩,
         ⟨some 13, .bin .add (.tmp 12) (.const (.int .i64 (1))), none⟩,
         ⟨some 4, .mv (.tmp 13), none⟩] [0, 3, 4] []))) <|
  .seq (.region [⟨some 22, .mv (.tmp 3), none⟩,
     ⟨some 2, .mv (.tmp 22), none⟩] [2] []) <|
  .ret

/-- a copy of a list, element by element, that is handed on to be read -/
theorem toS_fn (hm : P.follows .mixedOrders = true) {f : FuncId} {fn : Func} {k y : Nat} {z : List AV} {g : FuncId} {nt : Nat} (h : CodeIsR P f fn (toS_code k y z g)) (hnt : fn.ntmps = nt) (hrs : fn.results.toList = [.tmp 2]) (hna : Nat.ble 1 nt = true)
    (hk : ∀ x, (c x).length = k) (hk0 : 0 < k) (hz : z.length = k) (hzz : zeroB z = true) (hcb : ∀ x, cellsB (c x) = true) {l : List α} (hg : ∀ x, x ∈ l → Fn P g [] [.agg (c x)] (.agg (c x)) []) (hl : l.length ≤ 1048576) (hy : y ≤ 1024) :
    Fn P f [] [.sl k (E c l)] (.sl k (E c l)) [] := by
  refine h.fn0 hm hnt hrs hna fun X => ?_
  unfold toS_code
  simp -dsimp only [go_sem, reduceIte, reduceCtorEq, Nat.reduceEqDiff]
  have hly : (l.length : Int) * (y : Int) ≤ 2 ^ 47 := by
    have h1 : l.length * y ≤ 1048576 * 1024 := Nat.mul_le_mul hl hy
    have h2 : ((l.length * y : Nat) : Int) ≤ ((1048576 * 1024 : Nat) : Int) := Int.ofNat_le.2 h1
    rw [Int.natCast_mul] at h2
    omega
  refine ⟨⟨by omega, hly, by omega, hz, by have := zero_all hzz (fun _ => none); simpa -dsimp only [go_sem] using this⟩, ?_⟩
  refine LoopK.intro (drawn_ok hm) (fun i : { i : Nat // i ≤ l.length } => ⟨[(0, .sl k (E c l)), (3, .loc (.t 7 0) 0 l.length), (4, .v (.int .i64 i.1))],
    [(.t 7 0, .arr k (E c (l.take i.1) ++ List.replicate (l.length - i.1) z) false)]⟩) (fun i => l.length - i.1) ⟨0, by omega⟩ ?_ ?_
  · simp [LeL, look, hlook, E]
  · rintro ⟨i, hi⟩
    simp -dsimp only [go_sem, reduceIte, reduceCtorEq, Nat.reduceEqDiff]
    refine Br.mk (fun h1 => ?_) fun h1 => ?_
    · have hlt : i < l.length := by simpa using h1
      have hw := wrap_succ hlt hl
      have ht : (c l[i]).take k = c l[i] := List.take_of_length_le (by rw [hk]; exact Nat.le_refl _)
      simp -dsimp only [go_sem, reduceIte, reduceCtorEq, Nat.reduceEqDiff, E_get hlt, ht, conv_cells (hcb l[i]) _ 6]
      refine ⟨⟨by omega, by omega⟩, by rw [hk]; exact Nat.le_refl _, ?_⟩
      refine CallK.pure (hg _ (List.getElem_mem hlt)) ?_
      simp -dsimp only [go_sem, reduceIte, reduceCtorEq, Nat.reduceEqDiff, rn_cells (hcb l[i]), E_rget hlt, all_one (hcb l[i])]
      refine ⟨⟨by omega, by omega⟩, ⟨hk0, hk _, by rw [hz]; exact Nat.le_refl _, clo_cells (hcb _)⟩, ?_⟩
      have e := E_set (c := c) hlt (x := lay z 0 (c l[i])) (lay_cells (by rw [hz, hk])) z
      simp -dsimp only [go_sem, reduceIte, reduceCtorEq, Nat.reduceEqDiff, hw, e]
      exact ⟨⟨i + 1, by omega⟩, by simp [LeL, look, hlook], by simp only; omega⟩
    · have hge : i = l.length := by
        have : ¬ i < l.length := by simpa using h1
        omega
      subst hge
      simp -dsimp only [go_sem, reduceIte, reduceCtorEq, Nat.reduceEqDiff, E_all]
      simp
end Go.Vs
