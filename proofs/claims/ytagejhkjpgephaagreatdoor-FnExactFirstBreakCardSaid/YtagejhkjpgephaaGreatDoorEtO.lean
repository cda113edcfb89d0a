/- A contract of the library's, as this framework has contracts. -/
import Derived.Test.YtagejhkjpgephaaGreatDoorEtK
import Derived.Sort.Grow
import Derived.Deep.Draws
set_option linter.unusedSimpArgs false
set_option linter.unusedVariables false
set_option maxHeartbeats 8000000
namespace Go.Vs
section
variable {P : Program} {α : Type} {d : α → AV}
attribute [local irreducible] Fn
theorem conv_cell {x : AV} (hx : cellB x = true) (h : Name → Option Blk) (m : Nat) (E : List Name) (b : Bool) : conv h (m + 1) E b x = some (x, []) := by
 cases x <;> simp [cellB] at hx <;> rfl
def szO_code (g : FuncId) : ACode :=
 .seq (.region [⟨some 4, .mv (.const (.int .i64 (0))), none⟩] [0, 1] []) <|
 .seq (.region [⟨some 6, .mv (.tmp 1), none⟩,
    ⟨some 7, .mv (.tmp 0), none⟩,
    ⟨some 8, .len (.tmp 7), none⟩,
    ⟨some 9, .bin .sub (.tmp 6) (.tmp 8), none⟩,
    ⟨some 1, .mv (.tmp 9), none⟩] [0, 1] []) <|
 .seq (.seq (.region [⟨some 10, .mv (.tmp 1), none⟩,
     ⟨some 11, .bin .lss (.tmp 10) (.const (.int .i64 (0))), none⟩] [0, 1, 11] []) <|
  .cond (.tmp 11)
    (.seq (.region [⟨some 4, .mv (.const (.int .i64 (-1))), none⟩] [4] []) <|
    .ret)
    (.skip)) <|
 .seq (.seq (.region [⟨some 5, .mv (.const (.int .i64 (0))), none⟩] [0, 1, 5] []) <|
  .block 0 (
    .loop (
      .seq (.seq (.region [⟨some 12, .mv (.tmp 5), none⟩,
          ⟨some 13, .mv (.tmp 0), none⟩,
          ⟨some 14, .len (.tmp 13), none⟩,
          ⟨some 15, .bin .lss (.tmp 12) (.tmp 14), none⟩] [0, 1, 5, 15] []) <|
       .cond (.tmp 15)
         (.skip)
         (.exit 0)) <|
      .seq (.block 1 (
         .seq (.region [⟨some 18, .mv (.tmp 0), none⟩,
            ⟨some 19, .mv (.tmp 5), none⟩,
            ⟨some 20, .idxSl 1 (.tmp 18) (.tmp 19), none⟩,
            ⟨some 21, .load false 1 (.tmp 20), none⟩,
            ⟨some 22, .mv (.tmp 1), none⟩,
            ⟨some 23, .call (.func g) [(.tmp 21), (.tmp 22)] [], none⟩,
            ⟨some 1, .mv (.tmp 23), none⟩] [0, 1, 5] []) <|
         .seq (.region [⟨some 24, .mv (.tmp 1), none⟩,
            ⟨some 25, .bin .lss (.tmp 24) (.const (.int .i64 (0))), none⟩] [0, 1, 5, 25] []) <|
         .cond (.tmp 25)
           (.seq (.region [⟨some 4, .mv (.const (.int .i64 (-1))), none⟩] [4] []) <|
           .ret)
           (.skip))) <|
      .region [⟨some 16, .mv (.tmp 5), none⟩,
        ⟨some 17, .bin .add (.tmp 16) (.const (.int .i64 (1))), none⟩,
        ⟨some 5, .mv (.tmp 17), none⟩] [0, 1, 5] []))) <|
 .seq (.region [⟨some 26, .mv (.tmp 1), none⟩,
    ⟨some 4, .mv (.tmp 26), none⟩] [4] []) <|
 .ret
attribute [local go_sem] reduceIte reduceCtorEq Nat.reduceEqDiff in
theorem szO_fn (hm : P.follows .mixedOrders = true) {f : FuncId} {fn : Func} {g : FuncId} {nt : Nat} (h : CodeIsR P f fn (szO_code g)) (hnt : fn.ntmps = nt) (hrs : fn.results.toList = [.tmp 4]) (hna : Nat.ble 2 nt = true)
  (φ : α → Int → Int) (hcb : ∀ x, cellB (d x) = true) {l : List α} (hg : ∀ x, x ∈ l → ∀ n, 0 ≤ n → n ≤ 1048576 → Fn P g [] [d x, .v (.int .i64 n)] (.v (.int .i64 (φ x n))) []) (hφ : ∀ x, x ∈ l → ∀ n, 0 ≤ n → n ≤ 1048576 → 0 ≤ φ x n → φ x n ≤ n) (n : Int) (hl : l.length < 2 ^ 63) (hn : 0 ≤ n ∧ n ≤ 1048576) :
  Fn P f [] [.sl 1 (E (fun x => [d x]) l), .v (.int .i64 n)] (.v (.int .i64 (szL φ l n))) [] := by
 refine h.fn0 hm hnt hrs hna fun X => ?_
 unfold szO_code
 simp -dsimp only [go_sem]
 refine Br.mk (fun h0 => ?_) fun h0 => ?_
 ·simp -dsimp only [go_sem]
  simp only [decide_eq_true_eq] at h0
  simp [szL, h0]
 ·simp -dsimp only [go_sem]
  simp only [decide_eq_false_iff_not] at h0
  have hW := h0
  rw [wrap_in (by omega) (by omega)] at hW
  refine LoopK.intro (drawn_ok hm) (fun x : { p : Nat × Int // p.1 ≤ l.length ∧ (0 ≤ p.2 ∧ p.2 ≤ 1048576) ∧ szGo φ (l.drop p.1) p.2 = szL φ l n } => ⟨[(0, .sl 1 (E (fun x => [d x]) l)), (1, .v (.int .i64 x.1.2)), (5, .v (.int .i64 x.1.1))], []⟩) (fun x => l.length - x.1.1)
   ⟨(0, IntKind.i64.wrap (n - l.length)), by simp, ⟨by omega, by rw [wrap_in (by omega) (by omega)]; omega⟩, by simp [szL, h0]⟩ ?_ ?_
  ·simp [LeL, look]
  ·rintro ⟨⟨i, m⟩, hi, hm', hP⟩
   simp only at hi hm' hP
   simp -dsimp only [go_sem]
   refine Br.mk (fun h1 => ?_) fun h1 => ?_
   ·have hlt : i < l.length := by simpa using h1
    have hw := wrap_succ hlt (by omega)
    simp -dsimp only [go_sem, E_get hlt]
    refine ⟨⟨by omega, by omega⟩, ?_⟩
    simp -dsimp only [go_sem, conv_cell (hcb l[i]) _ 7]
    refine CallK.flat (hg _ (List.getElem_mem hlt) _ hm'.1 hm'.2) rfl ?_
    simp -dsimp only [go_sem]
    rw [szGo_step φ m hlt] at hP
    refine Br.mk (fun h2 => ?_) fun h2 => ?_
    ·simp -dsimp only [go_sem]
     simp only [decide_eq_true_eq] at h2
     rw [if_pos h2] at hP
     simp [← hP]
    ·simp -dsimp only [go_sem, hw]
     simp only [decide_eq_false_iff_not] at h2
     rw [if_neg h2] at hP
     have hle := hφ l[i] (List.getElem_mem hlt) m hm'.1 hm'.2 (by omega)
     exact ⟨⟨(i + 1, φ l[i] m), by simp only; omega, by simp only; omega, hP⟩, by simp [LeL, look], by simp only; omega⟩
   ·have hge : i = l.length := by
     have : ¬ i < l.length := by simpa using h1
     omega
    subst hge
    simp -dsimp only [go_sem]
    rw [szGo_end] at hP
    simp [hP]
def toO_code (y : Nat) (z : List AV) (g : FuncId) : ACode :=
 .seq (.region [⟨some 2, .mv (.const (.slice none 0 0)), none⟩] [0] []) <|
 .seq (.region [⟨some 5, .mv (.tmp 0), none⟩,
    ⟨some 6, .len (.tmp 5), none⟩,
    ⟨some 7, .mk 1 y z (.tmp 6), none⟩,
    ⟨some 3, .mv (.tmp 7), none⟩] [0, 3] []) <|
 .seq (.seq (.region [⟨some 4, .mv (.const (.int .i64 (0))), none⟩] [0, 3, 4] []) <|
  .block 0 (
    .loop (
      .seq (.seq (.region [⟨some 8, .mv (.tmp 4), none⟩,
          ⟨some 9, .mv (.tmp 0), none⟩,
          ⟨some 10, .len (.tmp 9), none⟩,
          ⟨some 11, .bin .lss (.tmp 8) (.tmp 10), none⟩] [0, 3, 4, 11] []) <|
       .cond (.tmp 11)
         (.skip)
         (.exit 0)) <|
      .seq (.block 1 (
         .region [⟨some 14, .mv (.tmp 3), none⟩,
           ⟨some 15, .mv (.tmp 4), none⟩,
           ⟨some 16, .mv (.tmp 0), none⟩,
           ⟨some 17, .mv (.tmp 4), none⟩,
           ⟨some 18, .idxSl 1 (.tmp 16) (.tmp 17), none⟩,
           ⟨some 19, .load false 1 (.tmp 18), none⟩,
           ⟨some 20, .call (.func g) [(.tmp 19)] [], none⟩,
           ⟨some 21, .idxSl 1 (.tmp 14) (.tmp 15), none⟩,
           ⟨none, .store 1 (.tmp 21) (.tmp 20), none⟩] [0, 3, 4] [])) <|
      .region [⟨some 12, .mv (.tmp 4), none⟩,
        ⟨some 13, .bin .add (.tmp 12) (.const (.int .i64 (1))), none⟩,
        ⟨some 4, .mv (.tmp 13), none⟩] [0, 3, 4] []))) <|
 .seq (.region [⟨some 22, .mv (.tmp 3), none⟩,
    ⟨some 2, .mv (.tmp 22), none⟩] [2] []) <|
 .ret
theorem toO_fn (hm : P.follows .mixedOrders = true) {f : FuncId} {fn : Func} {y : Nat} {z : List AV} {g : FuncId} {nt : Nat} (h : CodeIsR P f fn (toO_code y z g)) (hnt : fn.ntmps = nt) (hrs : fn.results.toList = [.tmp 2]) (hna : Nat.ble 1 nt = true)
  (hz : z.length = 1) (hzz : zeroB z = true) (hcs : ∀ x, ∃ k r, d x = .sl k r) {l : List α} (hg : ∀ x, x ∈ l → Fn P g [] [d x] (d x) []) (hl : l.length ≤ 1048576) (hy : y ≤ 1024) :
  Fn P f [] [.sl 1 (E (fun x => [d x]) l)] (.sl 1 (E (fun x => [d x]) l)) [] := by
 refine h.fn0 hm hnt hrs hna fun X => ?_
 unfold toO_code
 simp -dsimp only [go_sem, reduceIte, reduceCtorEq, Nat.reduceEqDiff]
 have hly : (l.length : Int) * (y : Int) ≤ 2 ^ 47 := by
  have h1 : l.length * y ≤ 1048576 * 1024 := Nat.mul_le_mul hl hy
  have h2 : ((l.length * y : Nat) : Int) ≤ ((1048576 * 1024 : Nat) : Int) := Int.ofNat_le.2 h1
  rw [Int.natCast_mul] at h2
  omega
 refine ⟨⟨by omega, hly, by omega, hz, by have := zero_all hzz (fun _ => none); simpa -dsimp only [go_sem] using this⟩, ?_⟩
 refine LoopK.intro (drawn_ok hm) (fun i : { i : Nat // i ≤ l.length } => ⟨[(0, .sl 1 (E (fun x => [d x]) l)), (3, .loc (.t 7 0) 0 l.length), (4, .v (.int .i64 i.1))],
   [(.t 7 0, .arr 1 (E (fun x => [d x]) (l.take i.1) ++ List.replicate (l.length - i.1) z) false)]⟩) (fun i => l.length - i.1) ⟨0, by omega⟩ ?_ ?_
 ·simp [LeL, look, hlook, E]
 ·rintro ⟨i, hi⟩
  simp -dsimp only [go_sem, reduceIte, reduceCtorEq, Nat.reduceEqDiff]
  refine Br.mk (fun h1 => ?_) fun h1 => ?_
  ·have hlt : i < l.length := by simpa using h1
   have hw := wrap_succ hlt hl
   have e := E_set (c := fun x => [d x]) hlt (x := lay z 0 [d l[i]]) (lay_cells (by rw [hz]; rfl)) z
   have hgi := hg _ (List.getElem_mem hlt)
   have hgl := E_get (c := fun x => [d x]) hlt
   obtain ⟨k, r, hv⟩ := hcs l[i]
   all_goals
    rw [hv] at hgi
    simp only [hv] at e hgl
    simp -dsimp only [go_sem, reduceIte, reduceCtorEq, Nat.reduceEqDiff, hgl]
    refine ⟨⟨by omega, by omega⟩, ?_⟩
    refine CallK.pure hgi ?_
    simp -dsimp only [go_sem, reduceIte, reduceCtorEq, Nat.reduceEqDiff, E_rget hlt]
    refine ⟨⟨by omega, by omega⟩, ⟨by omega, by rw [hz]; exact Nat.le_refl _⟩, ?_⟩
    simp -dsimp only [go_sem, reduceIte, reduceCtorEq, Nat.reduceEqDiff, hw]
    simp -dsimp only [go_sem] at e
    simp only [e]
    exact ⟨⟨i + 1, by omega⟩, by simp [LeL, look, hlook], by simp only; omega⟩
  ·have hge : i = l.length := by
    have : ¬ i < l.length := by simpa using h1
    omega
   subst hge
   simp -dsimp only [go_sem, reduceIte, reduceCtorEq, Nat.reduceEqDiff, E_all]
   simp
def eqO_code (g : FuncId) : ACode :=
 .seq (.region [⟨some 4, .mv (.const (.bool false)), none⟩] [0, 1] []) <|
 .seq (.seq (.region [⟨some 6, .mv (.tmp 0), none⟩,
     ⟨some 7, .len (.tmp 6), none⟩,
     ⟨some 8, .mv (.tmp 1), none⟩,
     ⟨some 9, .len (.tmp 8), none⟩,
     ⟨some 10, .bin .neq (.tmp 7) (.tmp 9), none⟩] [0, 1, 10] []) <|
  .cond (.tmp 10)
    (.seq (.region [⟨some 4, .mv (.const (.bool false)), none⟩] [4] []) <|
    .ret)
    (.skip)) <|
 .seq (.seq (.region [⟨some 5, .mv (.const (.int .i64 (0))), none⟩] [0, 1, 5] []) <|
  .block 0 (
    .loop (
      .seq (.seq (.region [⟨some 11, .mv (.tmp 5), none⟩,
          ⟨some 12, .mv (.tmp 0), none⟩,
          ⟨some 13, .len (.tmp 12), none⟩,
          ⟨some 14, .bin .lss (.tmp 11) (.tmp 13), none⟩] [0, 1, 5, 14] []) <|
       .cond (.tmp 14)
         (.skip)
         (.exit 0)) <|
      .seq (.block 1 (
         .seq (.region [⟨some 17, .mv (.tmp 0), none⟩,
            ⟨some 18, .mv (.tmp 5), none⟩,
            ⟨some 19, .idxSl 1 (.tmp 17) (.tmp 18), none⟩,
            ⟨some 20, .load false 1 (.tmp 19), none⟩,
            ⟨some 21, .mv (.tmp 1), none⟩,
            ⟨some 22, .mv (.tmp 5), none⟩,
            ⟨some 23, .idxSl 1 (.tmp 21) (.tmp 22), none⟩,
            ⟨some 24, .load false 1 (.tmp 23), none⟩,
            ⟨some 25, .call (.func g) [(.tmp 20), (.tmp 24)] [], none⟩,
            ⟨some 26, .un .not (.tmp 25), none⟩] [0, 1, 5, 26] [17, 18, 20, 21, 19, 22, 23, 24, 25, 26]) <|
         .cond (.tmp 26)
           (.seq (.region [⟨some 4, .mv (.const (.bool false)), none⟩] [4] []) <|
           .ret)
           (.skip))) <|
      .region [⟨some 15, .mv (.tmp 5), none⟩,
        ⟨some 16, .bin .add (.tmp 15) (.const (.int .i64 (1))), none⟩,
        ⟨some 5, .mv (.tmp 16), none⟩] [0, 1, 5] []))) <|
 .seq (.region [⟨some 4, .mv (.const (.bool true)), none⟩] [4] []) <|
 .ret
attribute [local go_sem] reduceIte reduceCtorEq Nat.reduceEqDiff in
theorem eqO_fn (hm : P.follows .mixedOrders = true) {f : FuncId} {fn : Func} {g : FuncId} {nt : Nat} (h : CodeIsR P f fn (eqO_code g)) (hnt : fn.ntmps = nt) (hrs : fn.results.toList = [.tmp 4]) (hna : Nat.ble 2 nt = true)
  (hcb : ∀ x, cellB (d x) = true) {l : List α} (hg : ∀ x, x ∈ l → Fn P g [] [d x, d x] (.v (.bool true)) []) (hl : l.length ≤ 1048576) :
  Fn P f [] [.sl 1 (E (fun x => [d x]) l), .sl 1 (E (fun x => [d x]) l)] (.v (.bool true)) [] := by
 refine h.fn0 hm hnt hrs hna fun X => ?_
 unfold eqO_code
 simp -dsimp only [go_sem]
 refine LoopK.intro (drawn_ok hm) (fun i : { i : Nat // i ≤ l.length } => ⟨[(0, .sl 1 (E (fun x => [d x]) l)), (1, .sl 1 (E (fun x => [d x]) l)), (5, .v (.int .i64 i.1))], []⟩) (fun i => l.length - i.1) ⟨0, by omega⟩ ?_ ?_
 ·simp [LeL, look]
 ·rintro ⟨i, hi⟩
  simp -dsimp only [go_sem]
  refine Br.mk (fun h1 => ?_) fun h1 => ?_
  ·have hlt : i < l.length := by simpa using h1
   have hw := wrap_succ hlt hl
   simp -dsimp only [go_sem]
   refine RgK.mk rfl ?_
   simp -dsimp only [go_sem, E_get hlt, conv_cell (hcb l[i]) _ 7]
   refine ⟨⟨by omega, by omega⟩, ⟨by omega, by omega⟩, ?_⟩
   refine CallK.flat (hg _ (List.getElem_mem hlt)) rfl ?_
   simp -dsimp only [go_sem, hw]
   exact ⟨⟨i + 1, by omega⟩, by simp [LeL, look], by simp only; omega⟩
  ·simp -dsimp only [go_sem]
   simp
end
section
variable {P : Program}
attribute [local irreducible] Fn
end
section
theorem szGo_mem {α : Type} {f : α → Int → Int} : ∀ {l : List α} {n : Int}, (∀ x, x ∈ l → ∀ n, 0 ≤ n → n ≤ 1048576 → 0 ≤ f x n → f x n ≤ n) → 0 ≤ n → n ≤ 1048576 → 0 ≤ szGo f l n → ∀ x, x ∈ l → ∃ m, 0 ≤ m ∧ m ≤ 1048576 ∧ 0 ≤ f x m
 | [], n, _, _, _, _, x, hx => by cases hx
 | y :: r, n, hf, h0, hn, h, x, hx => by
  simp only [szGo] at h
  split at h
  ·omega
  ·rename_i h1
   rcases List.mem_cons.1 hx with rfl | hx
   ·exact ⟨n, h0, hn, by omega⟩
   ·have h2 := hf y (by simp) n h0 hn (by omega)
    exact szGo_mem (fun z hz => hf z (by simp [hz])) (by omega) (by omega) h x hx
theorem szL_in {α : Type} {f : α → Int → Int} {l : List α} {n : Int} (hf : ∀ x, x ∈ l → ∀ n, 0 ≤ n → n ≤ 1048576 → 0 ≤ f x n → f x n ≤ n) (hl : l.length < 2 ^ 63) (h0 : 0 ≤ n) (hn : n ≤ 1048576) (h : 0 ≤ szL f l n) : ∀ x, x ∈ l → ∃ m, 0 ≤ m ∧ m ≤ 1048576 ∧ 0 ≤ f x m := by
 unfold szL at h
 split at h
 ·omega
 ·rename_i h1
  rw [wrap_in (by omega) (by omega)] at h h1
  exact szGo_mem (n := n - l.length) hf (by omega) (by omega) (by omega)
theorem szL_mono {α : Type} {f : α → Int → Int} {l : List α} {n : Int} (hf : ∀ x, x ∈ l → ∀ n, 0 ≤ n → n ≤ 1048576 → 0 ≤ f x n → f x n ≤ n) (hl : l.length < 2 ^ 63) (h0 : 0 ≤ n) (hn : n ≤ 1048576) (h : 0 ≤ szL f l n) : szL f l n ≤ n ∧ (l.length : Int) ≤ n := by
 refine ⟨?_, szL_len (f := f) hl ⟨h0, hn⟩ (by omega)⟩
 have h2 := h
 unfold szL at h ⊢
 split
 ·rename_i h1; rw [if_pos h1] at h; omega
 ·rename_i h1
  rw [if_neg h1] at h
  rw [wrap_in (by omega) (by omega)] at h h1 ⊢
  have := szGo_le hf (by omega) (by omega) h
  omega
end
section
variable {P : Program}
theorem Fn.of_ext {f : FuncId} {args : List AV} {x : AV} (hb : HasBody P f)
  (h : ∀ (S : Nat → Prop) (w : World) (vs : Array Value), Env S w → vs.size = args.length → (∀ j, j < args.length → RV S w (fun _ => none) (fun _ => 0) (Hn []) (args.getD j .junk) (vs.getD j undef)) →
    Calls P f vs w fun e w' => ∃ v, e = .returned v ∧ RC S w' x v ∧ Ext w w') : Fn P f [] args x [] := by
 refine ⟨hb, fun S w ρ κ vs hok _ hvs hargs => ?_⟩
 have hH : Hn (([] : List Blk).map some) = Hn [] := rfl
 refine (h S w vs hok.env hvs fun j hj => ?_).mono ?_
 ·refine (hargs j hj).mono (fun _ h => h) (fun _ _ => rfl) fun n _ b hb => ?_
  cases n <;> simp [Hn] at hb
 ·rintro e w' ⟨v, rfl, hv, hx⟩
  refine ⟨v, S, ρ, κ, rfl, ⟨⟨fun n b hb => ?_, fun n m y h1 => ?_, fun b hb => Nat.lt_of_lt_of_le (hok.dom b hb) hx.1, hok.env.mono (fun _ h => h) fun b hb => hx.2.1 b (hok.dom b hb)⟩, hx.1, fun b hb _ => hx.2.1 b hb, fun _ h => h, fun b hb => .inl hb, fun j z hj => ?_, hx.2.2, fun j b hj => ?_⟩, .clo hv⟩
  ·cases n <;> simp [Hn] at hb
  ·cases n <;> simp [Hn] at h1
  ·simp at hj
  ·simp at hj
theorem ext_grow (w : World) (k : Nat) (os : Array Obj) : Ext w (Go.Sort.grow (w.drewN k) os) := by
 refine ⟨by simp [Go.Sort.grow, World.drewN], fun b hb => ?_, rfl, rfl⟩
 simp [Go.Sort.grow, World.drewN, Array.getElem?_append, hb]
end
end Go.Vs
