/- The library's symmetric merge. -/
import Derived.Test.YtidbcoagjbbjdaaGreatDoorVsD
import Derived.Test.YtidbcoagjbbjdaaGreatDoorXuB
import Derived.Test.YtidbcoagjbbjdaaGreatDoorXwSb
import Derived.Test.YtidbcoagjbbjdaaGreatDoorVtR
import Derived.Test.YtidbcoagjbbjdaaGreatDoorVtN
set_option linter.all false
set_option maxHeartbeats 8000000
namespace Go.Proofs.YtidbcoagjbbjdaaGreatDoor
open Go.Vs
section
variable [Vs.Tab 0 Vs.powP]
attribute [local irreducible] Vs.Fn
theorem cI_getD {m : List Int} {j : Nat} (h : j < m.length) : (E cI m).getD j [] = [.v (.int .i64 (m.getD j 0))] := by
 rw [E_get h]; simp [cI, List.getD, h]
theorem E_swp (m : List Int) (i j : Nat) : ((E cI m).set i [.v (.int .i64 (m.getD j 0))]).set j [.v (.int .i64 (m.getD i 0))] = E cI (swp m i j) := by
 simp [swp, E, List.map_set, cI]
theorem set_row1 {m : List Int} (i : Nat) {j : Nat} (hj : j < m.length) (v : AV) : ∃ y, ((E cI m).set i [v]).getD j [] = [y] := by
 by_cases h : i = j
 ·subst h
  exact ⟨v, by simp [List.getD, E, hj]⟩
 ·refine ⟨.v (.int .i64 (m.getD j 0)), ?_⟩
  rw [List.getD_eq_getElem?_getD, List.getElem?_set_ne h, ← List.getD_eq_getElem?_getD]
  rw [E_get hj]; simp [cI, List.getD, hj]
theorem addN {a b : Nat} (h : a + b ≤ 4000000) : IntKind.i64.wrap ((a : Int) + (b : Int)) = ((a + b : Nat) : Int) := by rw [wrap_in (by omega) (by omega)]; omega
theorem subN {a b : Nat} (h : b ≤ a) (ha : a ≤ 4000000) : IntKind.i64.wrap ((a : Int) - (b : Int)) = ((a - b : Nat) : Int) := by rw [wrap_in (by omega) (by omega)]; omega
theorem add1 {a : Nat} (h : a ≤ 4000000) : IntKind.i64.wrap ((a : Int) + 1) = ((a + 1 : Nat) : Int) := by rw [wrap_in (by omega) (by omega)]; omega
theorem sub1 {a : Nat} (h : 1 ≤ a) (ha : a ≤ 4000000) : IntKind.i64.wrap ((a : Int) - 1) = ((a - 1 : Nat) : Int) := by rw [wrap_in (by omega) (by omega)]; omega
theorem half {a b : Nat} (h : a + b ≤ 4000000) : IntKind.i64.wrap ((IntKind.u64.wrap (((a + b : Nat) : Int))).fdiv (2 ^ (min 1 64))) = (((a + b) / 2 : Nat) : Int) := by
 rw [show (min 1 64 : Nat) = 1 from rfl]
 have e : IntKind.u64.wrap (((a + b : Nat) : Int)) = ((a + b : Nat) : Int) := by
  simp only [IntKind.wrap, IntKind.bits, IntKind.signed, Bool.false_and, Bool.false_eq_true, if_false]
  omega
 rw [e, Int.fdiv_eq_ediv_of_nonneg _ (by omega), wrap_in (by omega) (by omega)]
 omega
theorem mem_swp {l : List Int} {i j : Nat} (hi : i < l.length) (hj : j < l.length) : ∀ x, x ∈ swp l i j → x ∈ l := by
 intro x hx
 unfold swp at hx
 rcases List.mem_or_eq_of_mem_set hx with h | rfl
 ·rcases List.mem_or_eq_of_mem_set h with h | rfl
  ·exact h
  ·exact mem_getD hj
 ·exact mem_getD hi
theorem swR_step (n a b : Nat) (l : List Int) : swR (n + 1) a b l = swR n (a + 1) (b + 1) (swp l a b) := rfl
attribute [local irreducible] swp
theorem swapRange (g : FuncId) (caps : List AV) (hcaps : cellsB caps = true) (l : List Int) (a b n : Nat) (hl : l.length ≤ 1048576) (ha : a + n ≤ l.length) (hb : b + n ≤ l.length) :
  Vs.Fn Tryz.prog F.swapR_int64_ [.arr 1 (E cI l) false] [.loc (.b 0) 0 l.length, .v (.int .i64 (a : Nat)), .v (.int .i64 (b : Nat)), .v (.int .i64 (n : Nat)), .fn g caps] (.tup []) [some (.arr 1 (E cI (swR n a b l)) false)] := by
 refine Cd.swapR_int64__k.o.fn Tryz.mixed (hin := [.arr 1 (E cI l) false]) _ _ [.b 0] [.arr 1 (E cI (swR n a b l)) false] Cd.swapR_int64__k.n Cd.swapR_int64__k.r rfl (by simp) rfl (by simp) fun X => ?_
 unfold Cd.swapR_int64_
 simp -dsimp only [go_sem]
 refine LoopK.at dM (X := { zz : Nat × (List Int) // zz.1 ≤ n ∧ swR (n - zz.1) (a + zz.1) (b + zz.1) zz.2 = swR n a b l ∧ zz.2.length = l.length }) (fun zz => [(10, .v (.int .i64 zz.1.1))]) (fun zz => [(.b 0, .arr 1 (E cI zz.1.2) false)]) (fun zz => n - zz.1.1) ⟨(0, l), by omega, ⟨rfl, rfl⟩⟩ ?_ ?_
 ·exact le0
 ·rintro ⟨⟨i, m⟩, hi, hg⟩
  dsimp only at hi hg
  simp -dsimp only [go_sem]
  refine Br.mk (fun hc => ?_) fun hc => ?_
  ·have hlt : i < n := Dq
   have hw := wrap_succ hlt (by omega)
   obtain ⟨hr, hlen⟩ := hg
   have w1 := addN (a := a) (b := i) (by omega)
   have w2 := addN (a := b) (b := i) (by omega)
   have g1 := cI_getD (m := m) (j := a + i) (by omega)
   have g2 := cI_getD (m := m) (j := b + i) (by omega)
   have hs := E_swp m (a + i) (b + i)
   have hln : (E cI m).length = l.length := by rw [E_len]; exact hlen
   obtain ⟨y, g3⟩ := set_row1 (m := m) (a + i) (j := b + i) (by omega) (.v (.int .i64 (m.getD (b + i) 0)))
   have hsl : (swp m (a + i) (b + i)).length = l.length := by rw [swp_length]; exact hlen
   rw [show n - i = (n - (i + 1)) + 1 by omega, swR_step] at hr
   repeat' first|simp -dsimp only [go_sem, hw, w1, w2, g1, g2, g3, hs, hln, List.set_cons_zero, List.length_cons, List.length_nil]|apply Br.mk<;>intro h<;>try simp -dsimp only[h]|refine aC ?_|fail
   all_goals first | omega | (exact nx (i + 1, swp m (a + i) (b + i)) (⟨hr, hsl⟩))
  ·have hge : i = n := by
    have : ¬ i < n := Dq
    omega
   subst hge
   simp -dsimp only [go_sem]
   rw [Nat.sub_self] at hg
   have hm : m = swR i a b l := hg.1
   rw [← hm]
   exact ⟨⟨_, _, rfl, rfl⟩, fun h => h rfl⟩
attribute [local irreducible] swR
theorem rotate (g : FuncId) (caps : List AV) (hcaps : cellsB caps = true) (l : List Int) (a m b : Nat) (hl : l.length ≤ 1048576) (ham : a < m) (hmb : m < b) (hb : b ≤ l.length) :
  Vs.Fn Tryz.prog F.rotate_int64_ [.arr 1 (E cI l) false] [.loc (.b 0) 0 l.length, .v (.int .i64 (a : Nat)), .v (.int .i64 (m : Nat)), .v (.int .i64 (b : Nat)), .fn g caps] (.tup []) [some (.arr 1 (E cI (rot m (b - a) (m - a) (b - m) l)) false)] := by
 have w1 := subN (a := m) (b := a) (by omega) (by omega)
 have w2 := subN (a := b) (b := m) (by omega) (by omega)
 refine Cd.rotate_int64__k.o.fn Tryz.mixed (hin := [.arr 1 (E cI l) false]) _ _ [.b 0] [.arr 1 (E cI (rot m (b - a) (m - a) (b - m) l)) false] Cd.rotate_int64__k.n Cd.rotate_int64__k.r rfl (by simp) rfl (by simp) fun X => ?_
 unfold Cd.rotate_int64_
 simp -dsimp only [go_sem, w1, w2]
 refine LoopK.at dM (X := { zz : Nat × Nat × List Int // (0 < zz.1 ∧ 0 < zz.2.1 ∧ zz.1 ≤ m ∧ m + zz.2.1 ≤ b) ∧ zz.2.2.length = l.length ∧ ∃ f, zz.1 + zz.2.1 ≤ f ∧ rot m f zz.1 zz.2.1 zz.2.2 = rot m (b - a) (m - a) (b - m) l }) (fun zz => [(10, .v (.int .i64 zz.1.1)), (11, .v (.int .i64 zz.1.2.1))]) (fun zz => [(.b 0, .arr 1 (E cI zz.1.2.2) false)]) (fun zz => zz.1.1 + zz.1.2.1) ⟨(m - a, b - m, l), ⟨by dsimp only; omega, by dsimp only; omega, by dsimp only; omega, by dsimp only; omega⟩, rfl, b - a, by dsimp only; omega, rfl⟩ ?_ ?_
 ·exact le0
 ·rintro ⟨⟨i, j, d⟩, ⟨hi0, hj0, him, hjb⟩, hd, f, hf, hr⟩
  dsimp only at hi0 hj0 him hjb hd hf hr
  have hdl : (E cI d).length = l.length := by rw [E_len]; exact hd
  have w3 := subN (a := m) (b := i) (by omega) (by omega)
  have w4 := addN (a := m) (b := j) (by omega)
  have w5 := subN (a := m + j) (b := i) (by omega) (by omega)
  cases f with
  | zero => omega
  | succ f =>
  rw [rot] at hr
  by_cases he : i = j
  ·subst he
   rw [if_pos rfl] at hr
   have e1 : ((i : Int) != (i : Int)) = false := by simp
   have CS := swapRange g caps hcaps d (m - i) m i (by omega) (by omega) (by omega)
   rw [hd] at CS
   simp -dsimp only [go_sem, w3, w4, w5, e1, hdl, hd, conv_cells hcaps _ 6, conv_cells hcaps _ 7, List.flatMap_cons, List.flatMap_nil, cellN, topN, nestN, List.getD_cons_zero, List.append_nil, List.nil_append, List.cons_append]
   refine ⟨⟨rfl, CallK.bor CS rfl ?_⟩, fun h => h rfl⟩
   simp -dsimp only [go_sem, w3, w4, w5, hdl, hd, List.getElem?_cons_zero, List.flatMap_cons, List.flatMap_nil, cellN, topN, nestN, List.getD_cons_zero, List.append_nil, List.nil_append, List.cons_append]
   rw [← hr]
   exact ⟨_, _, rfl, rfl⟩
  ·rw [if_neg he] at hr
   have e1 : ((i : Int) != (j : Int)) = true := by simp; omega
   by_cases hgt : j < i
   ·rw [if_pos hgt] at hr
    have e2 : decide ((i : Int) > (j : Int)) = true := by simp; omega
    have w6 := subN (a := i) (b := j) (by omega) (by omega)
    have CS := swapRange g caps hcaps d (m - i) m j (by omega) (by omega) (by omega)
    rw [hd] at CS
    simp -dsimp only [go_sem, w3, w4, w5, w6, e1, e2, hdl, hd, conv_cells hcaps _ 6, conv_cells hcaps _ 7, List.flatMap_cons, List.flatMap_nil, cellN, topN, nestN, List.getD_cons_zero, List.append_nil, List.nil_append, List.cons_append]
    refine ⟨rfl, CallK.bor CS rfl ?_⟩
    simp -dsimp only [go_sem, w3, w4, w5, w6, hdl, hd, List.getElem?_cons_zero, List.flatMap_cons, List.flatMap_nil, cellN, topN, nestN, List.getD_cons_zero, List.append_nil, List.nil_append, List.cons_append]
    exact ⟨⟨(i - j, j, swR j (m - i) m d), ⟨by dsimp only; omega, by dsimp only; omega, by dsimp only; omega, by dsimp only; omega⟩, by dsimp only; rw [swR_length]; exact hd, f, by dsimp only; omega, hr⟩, by simp [Vs.LeL, Vs.look, Vs.hlook, Vs.sput, Vs.sputs, Vs.hset, Vs.hputs], by simp only; omega⟩
   ·rw [if_neg hgt] at hr
    have e2 : decide ((i : Int) > (j : Int)) = false := by simp; omega
    have w6 := subN (a := j) (b := i) (by omega) (by omega)
    have CS := swapRange g caps hcaps d (m - i) (m + j - i) i (by omega) (by omega) (by omega)
    rw [hd] at CS
    simp -dsimp only [go_sem, w3, w4, w5, w6, e1, e2, hdl, hd, conv_cells hcaps _ 6, conv_cells hcaps _ 7, List.flatMap_cons, List.flatMap_nil, cellN, topN, nestN, List.getD_cons_zero, List.append_nil, List.nil_append, List.cons_append]
    refine ⟨rfl, CallK.bor CS rfl ?_⟩
    simp -dsimp only [go_sem, w3, w4, w5, w6, hdl, hd, List.getElem?_cons_zero, List.flatMap_cons, List.flatMap_nil, cellN, topN, nestN, List.getD_cons_zero, List.append_nil, List.nil_append, List.cons_append]
    exact ⟨⟨(i, j - i, swR i (m - i) (m + j - i) d), ⟨by dsimp only; omega, by dsimp only; omega, by dsimp only; omega, by dsimp only; omega⟩, by dsimp only; rw [swR_length]; exact hd, f, by dsimp only; omega, hr⟩, by simp [Vs.LeL, Vs.look, Vs.hlook, Vs.sput, Vs.sputs, Vs.hset, Vs.hputs], by simp only; omega⟩
def CmpOK (P : Program) (g : FuncId) (caps : List AV) (cf : Int → Int → Int) (D : Int → Prop) : Prop :=
 ∀ x y, D x → D y → Vs.Fn P g [] (.v (.int .i64 x) :: .v (.int .i64 y) :: caps) (.v (.int .i64 (cf x y))) []
def ltf (cf : Int → Int → Int) (x y : Int) : Bool := decide (cf x y < 0)
theorem getD_mem {m : List Int} {D : Int → Prop} (h : ∀ x, x ∈ m → D x) {i : Nat} (hi : i < m.length) : D (m.getD i 0) := h _ (mem_getD hi)
attribute [local irreducible] rot
theorem insertion (g : FuncId) (caps : List AV) (hcaps : cellsB caps = true) (cf : Int → Int → Int) (D : Int → Prop) (hc : CmpOK Tryz.prog g caps cf D) (l : List Int) (hD : ∀ x, x ∈ l → D x) (a b : Nat) (hl : l.length ≤ 1048576) (hab : a ≤ b) (hb : b ≤ l.length) :
  Vs.Fn Tryz.prog F.insort_int64_ [.arr 1 (E cI l) false] [.loc (.b 0) 0 l.length, .v (.int .i64 (a : Nat)), .v (.int .i64 (b : Nat)), .fn g caps] (.tup []) [some (.arr 1 (E cI (insS (ltf cf) a b l)) false)] := by
 have w1 := add1 (a := a) (by omega)
 refine Cd.insort_int64__k.o.fn Tryz.mixed (hin := [.arr 1 (E cI l) false]) _ _ [.b 0] [.arr 1 (E cI (insS (ltf cf) a b l)) false] Cd.insort_int64__k.n Cd.insort_int64__k.r rfl (by simp) rfl (by simp) fun X => ?_
 unfold Cd.insort_int64_
 simp -dsimp only [go_sem, w1]
 refine LoopK.at dM (X := { zz : Nat × List Int // (a + 1 ≤ zz.1) ∧ zz.2.length = l.length ∧ (∀ x, x ∈ zz.2 → D x) ∧ insI (ltf cf) a (b - zz.1) zz.1 zz.2 = insS (ltf cf) a b l }) (fun zz => [(8, .v (.int .i64 zz.1.1))]) (fun zz => [(.b 0, .arr 1 (E cI zz.1.2) false)]) (fun zz => b - zz.1.1) ⟨(a + 1, l), by dsimp only; omega, rfl, hD, rfl⟩ ?_ ?_
 ·exact le0
 ·rintro ⟨⟨i, m⟩, hai, hm, hDm, hr⟩
  dsimp only at hai hm hDm hr
  have hml : (E cI m).length = l.length := by rw [E_len]; exact hm
  have w2 : ∀ k : Nat, k ≤ i → i < b → IntKind.i64.wrap ((k : Int) + 1) = ((k + 1 : Nat) : Int) := fun k h1 h2 => add1 (by omega)
  simp -dsimp only [go_sem]
  refine Br.mk (fun hlt => ?_) fun hlt => ?_
  ·have hib : i < b := by simpa using hlt
   have w3 := w2 i (Nat.le_refl _) hib
   rw [show b - i = (b - (i + 1)) + 1 by omega, insI] at hr
   simp -dsimp only [go_sem]
   refine LoopK.at dM (X := { zz : Nat × List Int // (a ≤ zz.1 ∧ zz.1 ≤ i) ∧ zz.2.length = l.length ∧ (∀ x, x ∈ zz.2 → D x) ∧ insJ (ltf cf) a zz.1 zz.2 = insJ (ltf cf) a i m }) (fun zz => [(9, .v (.int .i64 zz.1.1))]) (fun zz => [(.b 0, .arr 1 (E cI zz.1.2) false)]) (fun zz => zz.1.1) ⟨(i, m), ⟨by dsimp only; omega, by dsimp only; omega⟩, hm, hDm, rfl⟩ ?_ ?_
   ·exact le0
   ·rintro ⟨⟨j, d⟩, ⟨haj, hji⟩, hd, hDd, hr2⟩
    dsimp only at haj hji hd hDd hr2
    have hdl : (E cI d).length = l.length := by rw [E_len]; exact hd
    by_cases hja : j = a
    ·have e1 : decide ((j : Int) > (a : Int)) = false := by simp; omega
     repeat' first|simp -dsimp only [go_sem, w2, w3, e1, hdl, hd]|apply Br.mk<;>intro h<;>try simp -dsimp only[h]|refine aC ?_|fail
     rw [hja, insJ_stop] at hr2
     rw [← hr2] at hr
     exact ⟨⟨⟨(i + 1, d), by dsimp only; omega, hd, hDd, hr⟩, by simp [Vs.LeL, Vs.look, Vs.hlook, Vs.sput, Vs.sputs, Vs.hset, Vs.hputs], by simp only; omega⟩, fun h => absurd rfl h⟩
    ·have e1 : decide ((j : Int) > (a : Int)) = true := by simp; omega
     obtain ⟨j, rfl⟩ : ∃ k, j = k + 1 := ⟨j - 1, by omega⟩
     have w4 := sub1 (a := j + 1) (by omega) (by omega)
     have g1 := cI_getD (m := d) (j := j + 1) (by omega)
     have g2 := cI_getD (m := d) (j := j) (by omega)
     rw [Nat.add_sub_cancel] at w4
     have hcc := hc _ _ (getD_mem hDd (i := j + 1) (by omega)) (getD_mem hDd (i := j) (by omega))
     have hsw := E_swp d (j + 1) j
     obtain ⟨y, g3⟩ := set_row1 (m := d) (j + 1) (j := j) (by omega) (.v (.int .i64 (d.getD j 0)))
     have hsl : (swp d (j + 1) j).length = l.length := by rw [swp_length]; exact hd
     have hsD : ∀ x, x ∈ swp d (j + 1) j → D x := fun x hx => hDd x (mem_swp (by omega) (by omega) x hx)
     rw [insJ] at hr2
     by_cases hlt2 : cf (d.getD (j + 1) 0) (d.getD j 0) < 0
     ·have e2 : decide (cf (d.getD (j + 1) 0) (d.getD j 0) < 0) = true := decide_eq_true hlt2
      rw [if_pos ⟨by omega, e2⟩] at hr2
      repeat' first|simp -dsimp only [go_sem, w3, w4, e1, e2, g1, g2, g3, hsw, hdl, hd, conv_cells hcaps _ 6, conv_cells hcaps _ 7, List.set_cons_zero, List.length_cons, List.length_nil]|apply Br.mk<;>intro h<;>try simp -dsimp only[h]|refine CallK.c (by first|exact hcc) ?_|refine aC ?_|fail
      all_goals first | omega | (exact ⟨⟨(j, swp d (j + 1) j), ⟨by dsimp only; omega, by dsimp only; omega⟩, hsl, hsD, hr2⟩, by simp [Vs.LeL, Vs.look, Vs.hlook, Vs.sput, Vs.sputs, Vs.hset, Vs.hputs], by simp only; omega⟩)
     ·have e2 : decide (cf (d.getD (j + 1) 0) (d.getD j 0) < 0) = false := decide_eq_false hlt2
      rw [if_neg (fun h => hlt2 (by simpa [ltf] using h.2))] at hr2
      rw [← hr2] at hr
      repeat' first|simp -dsimp only [go_sem, w3, w4, e1, e2, g1, g2, g3, hsw, hdl, hd, conv_cells hcaps _ 6, conv_cells hcaps _ 7, List.set_cons_zero, List.length_cons, List.length_nil]|apply Br.mk<;>intro h<;>try simp -dsimp only[h]|refine CallK.c (by first|exact hcc) ?_|refine aC ?_|fail
      all_goals first | omega | (exact ⟨⟨⟨(i + 1, d), by dsimp only; omega, hd, hDd, hr⟩, by simp [Vs.LeL, Vs.look, Vs.hlook, Vs.sput, Vs.sputs, Vs.hset, Vs.hputs], by simp only; omega⟩, fun h => absurd rfl h⟩)
  ·have hz : b - i = 0 := by
    have : ¬ i < b := by simpa using hlt
    omega
   rw [hz, insI] at hr
   simp -dsimp only [go_sem]
   rw [← hr]
   exact ⟨⟨_, _, rfl, rfl⟩, fun h => h rfl⟩
end
section
variable [Vs.Tab 0 Vs.powP]
attribute [local irreducible] Vs.Fn swp swR rot insI insJ mvU mvD smg
theorem bs_in (p : Nat → Bool) : ∀ (n i j : Nat), j - i ≤ n → i ≤ j → i ≤ bs p i j ∧ bs p i j ≤ j
 | 0, i, j, h, hij => by rw [bs_done p (by omega)]; omega
 | n + 1, i, j, h, hij => by
  by_cases hlt : i < j
  ·cases hp : p ((i + j) / 2)
   ·rw [bs_no p hlt hp]
    have := bs_in p n i ((i + j) / 2) (by omega) (by omega)
    omega
   ·rw [bs_yes p hlt hp]
    have := bs_in p n ((i + j) / 2 + 1) j (by omega) (by omega)
    omega
  ·rw [bs_done p hlt]; omega
theorem mem_mvU : ∀ (n k : Nat) (l : List Int), k + n < l.length → ∀ x, x ∈ mvU n k l → x ∈ l
 | 0, _, _, _, x, h => by unfold mvU at h; exact h
 | n + 1, k, l, hk, x, h => by
  unfold mvU at h
  exact mem_swp (by omega) (by omega) x (mem_mvU n (k + 1) _ (by rw [swp_length]; omega) x h)
theorem mvU_step (n k : Nat) (l : List Int) : mvU (n + 1) k l = mvU n (k + 1) (swp l k (k + 1)) := by rw [mvU]
theorem mvD_step (n k : Nat) (l : List Int) : mvD (n + 1) k l = mvD n (k - 1) (swp l k (k - 1)) := by rw [mvD]
theorem mem_swR : ∀ (n a b : Nat) (l : List Int), a + n ≤ l.length → b + n ≤ l.length → ∀ x, x ∈ swR n a b l → x ∈ l
 | 0, _, _, _, _, _, x, h => by unfold swR at h; exact h
 | n + 1, a, b, l, ha, hb, x, h => by
  unfold swR at h
  exact mem_swp (by omega) (by omega) x (mem_swR n (a + 1) (b + 1) _ (by rw [swp_length]; omega) (by rw [swp_length]; omega) x h)
theorem mem_rot (m : Nat) : ∀ (f i j : Nat) (l : List Int), i ≤ m → m + j ≤ l.length → ∀ x, x ∈ rot m f i j l → x ∈ l
 | 0, _, _, _, _, _, x, h => by unfold rot at h; exact h
 | f + 1, i, j, l, hi, hj, x, h => by
  unfold rot at h
  split at h
  ·exact mem_swR i (m - i) m l (by omega) (by omega) x h
  ·split at h
   ·exact mem_swR j (m - i) m l (by omega) (by omega) x (mem_rot m f (i - j) j _ (by omega) (by rw [swR_length]; omega) x h)
   ·exact mem_swR i (m - i) (m + j - i) l (by omega) (by omega) x (mem_rot m f i (j - i) _ (by omega) (by rw [swR_length]; omega) x h)
theorem sym1 (g : FuncId) (caps : List AV) (hcaps : cellsB caps = true) (cf : Int → Int → Int) (D : Int → Prop) (hc : CmpOK Tryz.prog g caps cf D) (l : List Int) (hD : ∀ x, x ∈ l → D x) (a b : Nat) (hl : l.length ≤ 1048576) (hmb : a + 1 < b) (hb : b ≤ l.length) :
  Vs.Fn Tryz.prog F.symMerge_int64_ [.arr 1 (E cI l) false] [.loc (.b 0) 0 l.length, .v (.int .i64 (a : Nat)), .v (.int .i64 ((a + 1 : Nat) : Int)), .v (.int .i64 (b : Nat)), .fn g caps] (.tup [])
   [some (.arr 1 (E cI (mvU (bs (fun h => ltf cf (l.getD h 0) (l.getD a 0)) (a + 1) b - 1 - a) a l)) false)] := by
 have w1 : IntKind.i64.wrap (((a + 1 : Nat) : Int) - (a : Int)) = 1 := by rw [wrap_in (by omega) (by omega)]; omega
 have hll : (E cI l).length = l.length := E_len ..
 have g0 := cI_getD (m := l) (j := a) (by omega)
 have e28 : ((1 : Int) == 1) = true := rfl
 refine Cd.symMerge_int64__k.o.fn Tryz.mixed (hin := [.arr 1 (E cI l) false]) _ _ [.b 0] [.arr 1 (E cI (mvU (bs (fun h => ltf cf (l.getD h 0) (l.getD a 0)) (a + 1) b - 1 - a) a l)) false] Cd.symMerge_int64__k.n Cd.symMerge_int64__k.r rfl (by simp) rfl (by simp) fun X => ?_
 unfold Cd.symMerge_int64_
 simp -dsimp only [go_sem, w1, e28]
 refine LoopK.at dM (X := { zz : Nat × Nat // (a + 1 ≤ zz.1 ∧ zz.1 ≤ zz.2 ∧ zz.2 ≤ b) ∧ bs (fun h => ltf cf (l.getD h 0) (l.getD a 0)) zz.1 zz.2 = bs (fun h => ltf cf (l.getD h 0) (l.getD a 0)) (a + 1) (b) }) (fun zz => [(10, .v (.int .i64 zz.1.1)), (11, .v (.int .i64 zz.1.2))]) (fun _ => []) (fun zz => zz.1.2 - zz.1.1) ⟨(a + 1, b), ⟨by dsimp only; omega, by dsimp only; omega, by dsimp only; omega⟩, rfl⟩ ?_ ?_
 ·exact le0
 ·rintro ⟨⟨i, j⟩, ⟨hi0, hij, hj0⟩, hr⟩
  dsimp only at hi0 hij hj0 hr
  have wij := addN (a := i) (b := j) (by omega)
  have whf := half (a := i) (b := j) (by omega)
  simp -dsimp only [go_sem, wij, hll]
  refine Br.mk (fun hlt => ?_) fun hlt => ?_
  ·have hlt2 : i < j := by simpa using hlt
   obtain ⟨h, hh⟩ : ∃ h, h = (i + j) / 2 := ⟨_, rfl⟩
   rw [← hh] at whf
   have wh1 := add1 (a := h) (by omega)
   have hcc := hc _ _ (getD_mem hD (i := h) (by omega)) (getD_mem hD (i := a) (by omega))
   have g1 := cI_getD (m := l) (j := h) (by omega)
   by_cases hl2 : cf (l.getD h 0) (l.getD a 0) < 0
   ·have e2 : decide (cf (l.getD h 0) (l.getD a 0) < 0) = true := decide_eq_true hl2
    rw [bs_yes _ hlt2 (by rw [← hh]; exact e2), ← hh] at hr
    repeat' first|simp -dsimp only [go_sem, wij, whf, wh1, g0, g1, e2, hll, conv_cells hcaps _ 6, conv_cells hcaps _ 7, List.set_cons_zero, List.length_cons, List.length_nil, List.getElem?_cons_zero, List.flatMap_cons, List.flatMap_nil, cellN, topN, nestN, List.getD_cons_zero, List.append_nil, List.nil_append, List.cons_append]|apply Br.mk<;>intro h<;>try simp -dsimp only[h]|refine CallK.c (by first|exact hcc) ?_|refine aC ?_|fail
    all_goals first | omega | (exact ⟨⟨(h + 1, j), ⟨by dsimp only; omega, by dsimp only; omega, by dsimp only; omega⟩, hr⟩, by simp [Vs.LeL, Vs.look, Vs.hlook, Vs.sput, Vs.sputs, Vs.hset, Vs.hputs], by simp only; omega⟩)
   ·have e2 : decide (cf (l.getD h 0) (l.getD a 0) < 0) = false := decide_eq_false hl2
    rw [bs_no _ hlt2 (by rw [← hh]; exact e2), ← hh] at hr
    repeat' first|simp -dsimp only [go_sem, wij, whf, wh1, g0, g1, e2, hll, conv_cells hcaps _ 6, conv_cells hcaps _ 7, List.set_cons_zero, List.length_cons, List.length_nil, List.getElem?_cons_zero, List.flatMap_cons, List.flatMap_nil, cellN, topN, nestN, List.getD_cons_zero, List.append_nil, List.nil_append, List.cons_append]|apply Br.mk<;>intro h<;>try simp -dsimp only[h]|refine CallK.c (by first|exact hcc) ?_|refine aC ?_|fail
    all_goals first | omega | (exact ⟨⟨(i, h), ⟨by dsimp only; omega, by dsimp only; omega, by dsimp only; omega⟩, hr⟩, by simp [Vs.LeL, Vs.look, Vs.hlook, Vs.sput, Vs.sputs, Vs.hset, Vs.hputs], by simp only; omega⟩)
  ·have hge : i = j := by
    have : ¬ i < j := by simpa using hlt
    omega
   subst hge
   rw [bs_done _ (Nat.lt_irrefl _)] at hr
   have wi := sub1 (a := i) (by omega) (by omega)
   simp -dsimp only [go_sem, hll, conv_cells hcaps _ 6, conv_cells hcaps _ 7, List.set_cons_zero, List.length_cons, List.length_nil, List.getElem?_cons_zero, List.flatMap_cons, List.flatMap_nil, cellN, topN, nestN, List.getD_cons_zero, List.append_nil, List.nil_append, List.cons_append]
   refine ⟨?_, by simp⟩
   refine LoopK.at dM (X := { zz : Nat × List Int // (a ≤ zz.1 ∧ zz.1 ≤ i - 1) ∧ zz.2.length = l.length ∧ mvU (i - 1 - zz.1) zz.1 zz.2 = mvU (i - 1 - a) a l }) (fun zz => [(13, .v (.int .i64 zz.1.1))]) (fun zz => [(.b 0, .arr 1 (E cI zz.1.2) false)]) (fun zz => i - zz.1.1) ⟨(a, l), ⟨by dsimp only; omega, by dsimp only; omega⟩, rfl, rfl⟩ ?_ ?_
   ·exact le0
   ·rintro ⟨⟨k, m⟩, ⟨hk0, hk1⟩, hm, hq⟩
    dsimp only at hk0 hk1 hm hq
    have hml : (E cI m).length = l.length := by rw [E_len]; exact hm
    simp -dsimp only [go_sem, wi, hml, conv_cells hcaps _ 6, conv_cells hcaps _ 7, List.set_cons_zero, List.length_cons, List.length_nil, List.getElem?_cons_zero, List.flatMap_cons, List.flatMap_nil, cellN, topN, nestN, List.getD_cons_zero, List.append_nil, List.nil_append, List.cons_append]
    refine Br.mk (fun hlt => ?_) fun hlt => ?_
    ·have hlt2 : k < i - 1 := by first | (simpa using hlt) | (simp at hlt; omega)
     have wk := add1 (a := k) (by omega)
     have g1 := cI_getD (m := m) (j := k) (by omega)
     have g2 := cI_getD (m := m) (j := k + 1) (by omega)
     have hsw := E_swp m k (k + 1)
     obtain ⟨y, g3⟩ := set_row1 (m := m) k (j := k + 1) (by omega) (.v (.int .i64 (m.getD (k + 1) 0)))
     have hsl : (swp m k (k + 1)).length = l.length := by rw [swp_length]; exact hm
     rw [show i - 1 - k = (i - 1 - (k + 1)) + 1 by omega, mvU_step] at hq
     repeat' first|simp -dsimp only [go_sem, wk, wi, g1, g2, g3, hsw, hml, conv_cells hcaps _ 6, conv_cells hcaps _ 7, List.set_cons_zero, List.length_cons, List.length_nil, List.getElem?_cons_zero, List.flatMap_cons, List.flatMap_nil, cellN, topN, nestN, List.getD_cons_zero, List.append_nil, List.nil_append, List.cons_append]|apply Br.mk<;>intro h<;>try simp -dsimp only[h]|refine aC ?_|fail
     all_goals first | omega | (exact ⟨⟨(k + 1, swp m k (k + 1)), ⟨by dsimp only; omega, by dsimp only; omega⟩, hsl, hq⟩, by simp [Vs.LeL, Vs.look, Vs.hlook, Vs.sput, Vs.sputs, Vs.hset, Vs.hputs], by simp only; omega⟩)
    ·have hge : k = i - 1 := by
      have : ¬ k < i - 1 := by first | (simpa using hlt) | (simp at hlt; omega)
      omega
     subst hge
     rw [Nat.sub_self] at hq
     have hm0 : mvU 0 (i - 1) m = m := by unfold mvU; rfl
     rw [hm0] at hq
     simp -dsimp only [go_sem, wi, hml, conv_cells hcaps _ 6, conv_cells hcaps _ 7, List.set_cons_zero, List.length_cons, List.length_nil, List.getElem?_cons_zero, List.flatMap_cons, List.flatMap_nil, cellN, topN, nestN, List.getD_cons_zero, List.append_nil, List.nil_append, List.cons_append]
     rw [← hr, ← hq]
     first | exact ⟨⟨⟨_, _, rfl, rfl⟩, fun h => h rfl⟩, fun h => h rfl⟩ | exact ⟨⟨_, _, rfl, rfl⟩, fun h => h rfl⟩
theorem sym2 (g : FuncId) (caps : List AV) (hcaps : cellsB caps = true) (cf : Int → Int → Int) (D : Int → Prop) (hc : CmpOK Tryz.prog g caps cf D) (l : List Int) (hD : ∀ x, x ∈ l → D x) (a m : Nat) (hl : l.length ≤ 1048576) (ham : a + 1 < m) (hb : m + 1 ≤ l.length) :
  Vs.Fn Tryz.prog F.symMerge_int64_ [.arr 1 (E cI l) false] [.loc (.b 0) 0 l.length, .v (.int .i64 (a : Nat)), .v (.int .i64 (m : Nat)), .v (.int .i64 ((m + 1 : Nat) : Int)), .fn g caps] (.tup [])
   [some (.arr 1 (E cI (mvD (m - bs (fun h => !ltf cf (l.getD m 0) (l.getD h 0)) a m) m l)) false)] := by
 have w1 := subN (a := m) (b := a) (by omega) (by omega)
 have w2 : IntKind.i64.wrap (((m + 1 : Nat) : Int) - (m : Int)) = 1 := by rw [wrap_in (by omega) (by omega)]; omega
 have hll : (E cI l).length = l.length := E_len ..
 have g0 := cI_getD (m := l) (j := m) (by omega)
 have e28 : (((m - a : Nat) : Int) == 1) = false := beq_eq_false_iff_ne.2 (by omega)
 have e29 : ((1 : Int) == 1) = true := rfl
 refine Cd.symMerge_int64__k.o.fn Tryz.mixed (hin := [.arr 1 (E cI l) false]) _ _ [.b 0] [.arr 1 (E cI (mvD (m - bs (fun h => !ltf cf (l.getD m 0) (l.getD h 0)) a m) m l)) false] Cd.symMerge_int64__k.n Cd.symMerge_int64__k.r rfl (by simp) rfl (by simp) fun X => ?_
 unfold Cd.symMerge_int64_
 simp -dsimp only [go_sem, w1, w2, e28, e29]
 refine LoopK.at dM (X := { zz : Nat × Nat // (a ≤ zz.1 ∧ zz.1 ≤ zz.2 ∧ zz.2 ≤ m) ∧ bs (fun h => !ltf cf (l.getD m 0) (l.getD h 0)) zz.1 zz.2 = bs (fun h => !ltf cf (l.getD m 0) (l.getD h 0)) (a) (m) }) (fun zz => [(14, .v (.int .i64 zz.1.1)), (15, .v (.int .i64 zz.1.2))]) (fun _ => []) (fun zz => zz.1.2 - zz.1.1) ⟨(a, m), ⟨by dsimp only; omega, by dsimp only; omega, by dsimp only; omega⟩, rfl⟩ ?_ ?_
 ·exact le0
 ·rintro ⟨⟨i, j⟩, ⟨hi0, hij, hj0⟩, hr⟩
  dsimp only at hi0 hij hj0 hr
  have wij := addN (a := i) (b := j) (by omega)
  have whf := half (a := i) (b := j) (by omega)
  simp -dsimp only [go_sem, wij, hll]
  refine Br.mk (fun hlt => ?_) fun hlt => ?_
  ·have hlt2 : i < j := by simpa using hlt
   obtain ⟨h, hh⟩ : ∃ h, h = (i + j) / 2 := ⟨_, rfl⟩
   rw [← hh] at whf
   have wh1 := add1 (a := h) (by omega)
   have hcc := hc _ _ (getD_mem hD (i := m) (by omega)) (getD_mem hD (i := h) (by omega))
   have g1 := cI_getD (m := l) (j := h) (by omega)
   by_cases hl2 : cf (l.getD m 0) (l.getD h 0) < 0
   ·have e2 : decide (cf (l.getD m 0) (l.getD h 0) < 0) = true := decide_eq_true hl2
    rw [bs_no _ hlt2 (by rw [← hh]; show (!decide (cf (l.getD m 0) (l.getD h 0) < 0)) = false; rw [e2]; rfl), ← hh] at hr
    repeat' first|simp -dsimp only [go_sem, wij, whf, wh1, g0, g1, e2, hll, Bool.not_true, Bool.not_false, conv_cells hcaps _ 6, conv_cells hcaps _ 7, List.set_cons_zero, List.length_cons, List.length_nil, List.getElem?_cons_zero, List.flatMap_cons, List.flatMap_nil, cellN, topN, nestN, List.getD_cons_zero, List.append_nil, List.nil_append, List.cons_append]|apply Br.mk<;>intro h<;>try simp -dsimp only[h]|refine CallK.c (by first|exact hcc) ?_|refine aC ?_|fail
    all_goals first | omega | (exact ⟨⟨(i, h), ⟨by dsimp only; omega, by dsimp only; omega, by dsimp only; omega⟩, hr⟩, by simp [Vs.LeL, Vs.look, Vs.hlook, Vs.sput, Vs.sputs, Vs.hset, Vs.hputs], by simp only; omega⟩)
   ·have e2 : decide (cf (l.getD m 0) (l.getD h 0) < 0) = false := decide_eq_false hl2
    rw [bs_yes _ hlt2 (by rw [← hh]; show (!decide (cf (l.getD m 0) (l.getD h 0) < 0)) = true; rw [e2]; rfl), ← hh] at hr
    repeat' first|simp -dsimp only [go_sem, wij, whf, wh1, g0, g1, e2, hll, Bool.not_true, Bool.not_false, conv_cells hcaps _ 6, conv_cells hcaps _ 7, List.set_cons_zero, List.length_cons, List.length_nil, List.getElem?_cons_zero, List.flatMap_cons, List.flatMap_nil, cellN, topN, nestN, List.getD_cons_zero, List.append_nil, List.nil_append, List.cons_append]|apply Br.mk<;>intro h<;>try simp -dsimp only[h]|refine CallK.c (by first|exact hcc) ?_|refine aC ?_|fail
    all_goals first | omega | (exact ⟨⟨(h + 1, j), ⟨by dsimp only; omega, by dsimp only; omega, by dsimp only; omega⟩, hr⟩, by simp [Vs.LeL, Vs.look, Vs.hlook, Vs.sput, Vs.sputs, Vs.hset, Vs.hputs], by simp only; omega⟩)
  ·have hge : i = j := by
    have : ¬ i < j := by simpa using hlt
    omega
   subst hge
   rw [bs_done _ (Nat.lt_irrefl _)] at hr
   simp -dsimp only [go_sem, hll, conv_cells hcaps _ 6, conv_cells hcaps _ 7, List.set_cons_zero, List.length_cons, List.length_nil, List.getElem?_cons_zero, List.flatMap_cons, List.flatMap_nil, cellN, topN, nestN, List.getD_cons_zero, List.append_nil, List.nil_append, List.cons_append]
   refine ⟨?_, by simp⟩
   refine LoopK.at dM (X := { zz : Nat × List Int // (i ≤ zz.1 ∧ zz.1 ≤ m) ∧ zz.2.length = l.length ∧ mvD (zz.1 - i) zz.1 zz.2 = mvD (m - i) m l }) (fun zz => [(17, .v (.int .i64 zz.1.1))]) (fun zz => [(.b 0, .arr 1 (E cI zz.1.2) false)]) (fun zz => zz.1.1) ⟨(m, l), ⟨by dsimp only; omega, by dsimp only; omega⟩, rfl, rfl⟩ ?_ ?_
   ·exact le0
   ·rintro ⟨⟨k, d⟩, ⟨hk0, hk1⟩, hm, hq⟩
    dsimp only at hk0 hk1 hm hq
    have hml : (E cI d).length = l.length := by rw [E_len]; exact hm
    simp -dsimp only [go_sem, hml, conv_cells hcaps _ 6, conv_cells hcaps _ 7, List.set_cons_zero, List.length_cons, List.length_nil, List.getElem?_cons_zero, List.flatMap_cons, List.flatMap_nil, cellN, topN, nestN, List.getD_cons_zero, List.append_nil, List.nil_append, List.cons_append]
    refine Br.mk (fun hlt => ?_) fun hlt => ?_
    ·have hlt2 : i < k := by first | (simpa using hlt) | (simp at hlt; omega)
     obtain ⟨k, rfl⟩ : ∃ q, k = q + 1 := ⟨k - 1, by omega⟩
     have wk := sub1 (a := k + 1) (by omega) (by omega)
     rw [Nat.add_sub_cancel] at wk
     have g1 := cI_getD (m := d) (j := k) (by omega)
     have g2 := cI_getD (m := d) (j := k + 1) (by omega)
     have hsw := E_swp d (k + 1) k
     obtain ⟨y, g3⟩ := set_row1 (m := d) (k + 1) (j := k) (by omega) (.v (.int .i64 (d.getD k 0)))
     have hsl : (swp d (k + 1) k).length = l.length := by rw [swp_length]; exact hm
     rw [show k + 1 - i = (k - i) + 1 by omega, mvD_step, Nat.add_sub_cancel] at hq
     repeat' first|simp -dsimp only [go_sem, wk, g1, g2, g3, hsw, hml, conv_cells hcaps _ 6, conv_cells hcaps _ 7, List.set_cons_zero, List.length_cons, List.length_nil, List.getElem?_cons_zero, List.flatMap_cons, List.flatMap_nil, cellN, topN, nestN, List.getD_cons_zero, List.append_nil, List.nil_append, List.cons_append]|apply Br.mk<;>intro h<;>try simp -dsimp only[h]|refine aC ?_|fail
     all_goals first | omega | (exact ⟨⟨(k, swp d (k + 1) k), ⟨by dsimp only; omega, by dsimp only; omega⟩, hsl, hq⟩, by simp [Vs.LeL, Vs.look, Vs.hlook, Vs.sput, Vs.sputs, Vs.hset, Vs.hputs], by simp only; omega⟩)
    ·have hge : k = i := by
      have : ¬ i < k := by first | (simpa using hlt) | (simp at hlt; omega)
      omega
     subst hge
     rw [Nat.sub_self] at hq
     have hm0 : mvD 0 k d = d := by unfold mvD; rfl
     rw [hm0] at hq
     simp -dsimp only [go_sem, hml, conv_cells hcaps _ 6, conv_cells hcaps _ 7, List.set_cons_zero, List.length_cons, List.length_nil, List.getElem?_cons_zero, List.flatMap_cons, List.flatMap_nil, cellN, topN, nestN, List.getD_cons_zero, List.append_nil, List.nil_append, List.cons_append]
     rw [← hr, ← hq]
     first | exact ⟨⟨⟨_, _, rfl, rfl⟩, fun h => h rfl⟩, fun h => h rfl⟩ | exact ⟨⟨_, _, rfl, rfl⟩, fun h => h rfl⟩
end
end Go.Proofs.YtidbcoagjbbjdaaGreatDoor
