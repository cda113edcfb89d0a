/- The texts of totals, walked; the law FnExactTotalsText. -/
import Derived.Test.YthpokkcbbpapdaaDoorTwZi
import Derived.Test.YthpokkcbbpapdaaDoorTuD
namespace Go.Proofs.YthpokkcbbpapdaaDoor
open Go.Vs
set_option linter.unusedSimpArgs false
set_option linter.unusedVariables false
attribute [local irreducible] Vs.Fn chOK areCh chTo chAt l03

def cX (s : ByteArray) : List AV := [.v (.string s)]
/-- texts, with a semicolon between them -/
def jb (l : List ByteArray) : ByteArray := ⟨(Lib.join (l.map fun x => x.data.toList) [59]).toArray⟩
theorem join_snoc (a : List UInt8) (r : List (List UInt8)) (y s : List UInt8) : Lib.join (a :: r ++ [y]) s = Lib.join (a :: r) s ++ s ++ y := by
  rw [List.cons_append, Lib.join_cons, Lib.join_cons]
  simp [Lib.joinTail, List.append_assoc]
theorem jb_snoc {l : List ByteArray} (h : l ≠ []) (y : ByteArray) : jb (l ++ [y]) = jb l ++ ⟨#[59]⟩ ++ y := by
  cases l with
  | nil => exact absurd rfl h
  | cons a r =>
    unfold jb
    rw [List.map_append, List.map_cons, List.map_cons, List.map_nil, join_snoc]
    apply ByteArray.ext
    simp
theorem jb_one (y : ByteArray) : jb [y] = y := by
  unfold jb
  rw [List.map_cons, List.map_nil, Lib.join_one]
theorem jb_nil : jb [] = ⟨#[]⟩ := rfl
theorem jb_size {m : Nat} : ∀ {l : List ByteArray}, (∀ x, x ∈ l → x.size ≤ m) → (jb l).size ≤ (m + 1) * l.length := by
  intro l h
  have key : ∀ l : List (List UInt8), (∀ x, x ∈ l → x.length ≤ m) → (Lib.join l [59]).length ≤ (m + 1) * l.length := by
    intro l hl
    cases l with
    | nil => simp [Lib.join_nil]
    | cons a r =>
      rw [Lib.join_length]
      have hs : ∀ r : List (List UInt8), (∀ x, x ∈ r → x.length ≤ m) → Lib.lens r ≤ m * r.length := by
        intro r
        induction r with
        | nil => intro _; simp [Lib.lens]
        | cons b t ih =>
          intro hb
          have h1 := ih fun x hx => hb x (by simp [hx])
          have h2 := hb b (by simp)
          simp only [Lib.lens, List.map_cons, List.sum_cons, List.length_cons] at h1 ⊢
          rw [Nat.mul_add]; omega
      have := hs (a :: r) hl
      have e : (m + 1) * (a :: r).length = m * (a :: r).length + (a :: r).length := by rw [Nat.add_mul, Nat.one_mul]
      rw [e]
      simp only [List.length_cons, List.length_nil] at this ⊢
      omega
  have := key (l.map fun x => x.data.toList) (by
    intro x hx
    obtain ⟨y, hy, rfl⟩ := List.mem_map.1 hx
    have := h y hy
    rw [Array.length_toList]
    exact this)
  have e : (jb l).size = (Lib.join (l.map fun x => x.data.toList) [59]).length := by simp [jb, ByteArray.size]
  rw [e]
  simpa only [List.length_map] using this
theorem ext_below {w w' : World} (h : RowKit.Below w.heap.size w w') : Ext w w' := ⟨h.size, h.block, h.os, h.output⟩
theorem joinedT (l : List ByteArray) (hl : l.length ≤ 1048576) (hj : (jb l).size ≤ 140737488355328) : Vs.Fn Tryd.prog F.strings_Join [] [.sl 1 (E cX l), .v (.string ⟨#[59]⟩)] (.v (.string (jb l))) [] := by
  refine Fn.of_ext ⟨Tryd.f85, _, Tryd.func85, rfl, by decide⟩ fun S w vs henv hsz hv => ?_
  have e0 := hv 0 (by simp)
  have e1 : vs.getD 1 undef = .string ⟨#[59]⟩ := inv_v (hv 1 (by simp))
  have hsz2 : vs.size = 2 := hsz
  have hvs : vs = #[vs.getD 0 undef, .string ⟨#[59]⟩] := by
    apply Array.ext (by simpa using hsz2)
    intro i hi hi2
    have hi3 : i = 0 ∨ i = 1 := by omega
    rcases hi3 with rfl | rfl
    · simp [Array.getD, hsz2]
    · simpa [Array.getD, hsz2] using e1
  rw [hvs]
  generalize vs.getD 0 undef = v0 at e0
  have e0' : RV S w (fun _ => none) (fun _ => 0) (Hn []) (.sl 1 (E cX l)) v0 := e0
  cases e0' with
  | clo hx =>
    cases hx with
    | sl _ _ base cap x off xs hb hc ho hr hk hcap =>
      by_cases hn : l = []
      · subst hn
        refine (Tryd.strings_Join_none base cap _ w).mono ?_
        rintro e w' ⟨rfl, rfl⟩
        exact ⟨_, rfl, .v _, Ext.refl _⟩
      · have hne : E cX l ≠ [] := by simpa [E] using hn
        obtain ⟨hb1, hb2⟩ := hb hne
        subst hb1
        have hcell : ∀ (j : Nat) s, l[j]? = some s → w.cell? ⟨x, off + j, none⟩ = some (.string s) := by
          intro j s hs
          obtain ⟨hj, hjs⟩ := List.getElem?_eq_some_iff.1 hs
          have hj2 : j < (E cX l).length := by simpa [E] using hj
          have h1 := hc j 0 hj2 (by omega)
          have h2 := hr j 0 hj2 (by omega)
          have h3 : ((E cX l).getD j []).getD 0 .junk = .v (.string s) := by
            rw [E_get hj, hjs]; rfl
          rw [h3] at h2
          have h4 : xs (j * 1 + 0) = .string s := by
            generalize xs (j * 1 + 0) = u at h2
            cases h2 with | v _ => rfl
          rw [h4] at h1
          simpa using h1
        have hlen : (E cX l).length = l.length := by simp [E]
        rw [hlen]
        have hbk : x < w.heap.size := by
          have h0 := hcell 0 (l[0]'(List.length_pos_iff.2 hn)) (List.getElem?_eq_getElem _)
          exact World.block_lt_of_cell? _ _ h0
        refine (Tryd.strings_Join x off cap l ⟨#[59]⟩ w hcell hbk (by omega) (by rw [← hlen]; exact hcap.1) (by have e : (jb l).size = (Lib.join (l.map fun x => x.data.toList) [59]).length := by simp [jb, ByteArray.size]
                                                                                                                rw [e] at hj; exact hj)).mono ?_
        rintro e w' ⟨rfl, hw⟩
        exact ⟨_, rfl, .v _, ext_below hw⟩
end Go.Proofs.YthpokkcbbpapdaaDoor

namespace Go.Proofs.YthpokkcbbpapdaaDoor
open Go.Vs
set_option linter.unusedSimpArgs false
set_option linter.unusedVariables false
attribute [local irreducible] Vs.Fn chOK areCh chTo chAt l03

/-- a total in words -/
def totX (x : Tot) : ByteArray := x.1 ++ ⟨#[61]⟩ ++ dcl x.2
def okT (l : List Tot) : Prop := l.length ≤ 1048576 ∧ ∀ x, x ∈ l → x.1.size ≤ 1048576 ∧ inR x.2
theorem totX_size {x : Tot} (h : x.1.size ≤ 1048576 ∧ inR x.2) : (totX x).size ≤ 1048600 := by
  have d := dcl_size h.2.1 h.2.2
  unfold totX
  simp only [ByteArray.size_append, bsz, List.size_toArray, List.length_cons, List.length_nil]
  omega
theorem take_ok {l : List Tot} (h : okT l) (i : Nat) (hi : i ≤ l.length) : (jb ((l.take i).map totX)).size ≤ 1048601 * 1048576 := by
  have h1 := jb_size (m := 1048600) (l := (l.take i).map totX) (by
    intro x hx
    obtain ⟨y, hy, rfl⟩ := List.mem_map.1 hx
    exact totX_size (h.2 y (List.mem_of_mem_take hy)))
  have h2 : ((l.take i).map totX).length ≤ 1048576 := by
    rw [List.length_map, List.length_take]
    have := h.1
    omega
  have h3 : (1048600 + 1) * ((l.take i).map totX).length ≤ (1048600 + 1) * 1048576 := Nat.mul_le_mul (Nat.le_refl _) h2
  exact Nat.le_trans h1 h3
def tj (l : List Tot) (i : Nat) : ByteArray := jb ((l.take i).map totX)
theorem tj_zero (l : List Tot) : tj l 0 = ⟨#[]⟩ := rfl
theorem tj_all (l : List Tot) : tj l l.length = jb (l.map totX) := by rw [tj, List.take_length]
set_option maxHeartbeats 1000000 in
theorem spec_TotalsText (l : List Tot) (hok : okT l) : Vs.Fn Tryd.prog F.spec_TotalsText [] [.sl 2 (E cT l)] (.v (.string (jb (l.map totX)))) [] := by
  have hl := hok.1
  refine Cd.spec_TotalsText_ok.fn0 Tryd.mixed Cd.spec_TotalsText_nt Cd.spec_TotalsText_rs rfl fun X => ?_
  unfold Cd.spec_TotalsText
  simp -dsimp only [go_sem, reduceIte, reduceCtorEq, Nat.reduceEqDiff, Nat.reduceLT, Nat.reduceLeDiff, Nat.reduceAdd, Nat.reduceMul, Nat.reduceSub, Int.reduceToNat, Int.reduceNeg]
  refine LoopK.at (drawn_ok Tryd.mixed) (X := { zz : Nat × (Unit) // zz.1 ≤ l.length ∧ True }) (fun zz => [(3, .v (.string (tj l zz.1.1))), (4, .v (.int .i64 zz.1.1))]) (fun zz => []) (fun zz => l.length - zz.1.1) ⟨(0, ()), by omega, trivial⟩ ?_ ?_
  · simp [Vs.LeL, Vs.look, Vs.hlook, Vs.sput, Vs.sputs, Vs.hset, Vs.hputs, tj_zero]
  · rintro ⟨⟨i, _⟩, hi, hg⟩
    dsimp only at hi hg
    simp -dsimp only [go_sem, reduceIte, reduceCtorEq, Nat.reduceEqDiff, Nat.reduceLT, Nat.reduceLeDiff, Nat.reduceAdd, Nat.reduceMul, Nat.reduceSub, Int.reduceToNat, Int.reduceNeg]
    refine Br.mk (fun hc => ?_) fun hc => ?_
    · have hlt : i < l.length := by simpa using hc
      have hw := wrap_succ hlt hl
      have hm : (E cT l).getD i [] = [.v (.string l[i].1), .v (.int .i64 l[i].2)] := E_get hlt
      have hx := hok.2 _ (List.getElem_mem hlt)
      have hd := dcl_size hx.2.1 hx.2.2
      have hz := take_ok hok i hi
      have hz2 : (tj l i).size ≤ 1048601 * 1048576 := hz
      have hs : (l.take (i + 1)).map totX = (l.take i).map totX ++ [totX l[i]] := by rw [take_succ hlt, List.map_append]; rfl
      by_cases h0 : i = 0
      · have hgt : decide (((i : Nat) : Int) > 0) = false := decide_eq_false (by omega)
        have hj : tj l (i + 1) = tj l i ++ (l[i].1 ++ ⟨#[61]⟩ ++ dcl l[i].2) := by
          have e : (l.take i).map totX = [] := by rw [h0]; rfl
          rw [tj, tj, hs, e, List.nil_append, jb_one, jb_nil]
          apply ByteArray.ext; simp [totX]
        simp -dsimp only [go_sem, reduceIte, reduceCtorEq, Nat.reduceEqDiff, Nat.reduceLT, Nat.reduceLeDiff, Nat.reduceAdd, Nat.reduceMul, Nat.reduceSub, Int.reduceToNat, Int.reduceNeg, hm, hw, hgt, cT]
        repeat' (first
          | (refine RgK.mk rfl ?_; simp -dsimp only [go_sem, reduceIte, reduceCtorEq, Nat.reduceEqDiff, Nat.reduceLT, Nat.reduceLeDiff, Nat.reduceAdd, Nat.reduceMul, Nat.reduceSub, Int.reduceToNat, Int.reduceNeg, hm, hw, hgt, cT])
          | (refine Br.mk (fun h => ?_) (fun h => ?_) <;> simp -dsimp only [go_sem, reduceIte, reduceCtorEq, Nat.reduceEqDiff, Nat.reduceLT, Nat.reduceLeDiff, Nat.reduceAdd, Nat.reduceMul, Nat.reduceSub, Int.reduceToNat, Int.reduceNeg, h, hm, hw, hgt, cT])
          | (refine CallK.flat (by first | exact l01Dec l[i].2 hx.2.1 hx.2.2) rfl ?_; simp -dsimp only [go_sem, reduceIte, reduceCtorEq, Nat.reduceEqDiff, Nat.reduceLT, Nat.reduceLeDiff, Nat.reduceAdd, Nat.reduceMul, Nat.reduceSub, Int.reduceToNat, Int.reduceNeg, hm, hw, hgt, cT])
          | (refine CallK.pure (by first | exact l01Dec l[i].2 hx.2.1 hx.2.2) ?_; simp -dsimp only [go_sem, reduceIte, reduceCtorEq, Nat.reduceEqDiff, Nat.reduceLT, Nat.reduceLeDiff, Nat.reduceAdd, Nat.reduceMul, Nat.reduceSub, Int.reduceToNat, Int.reduceNeg, hm, hw, hgt, cT])
          | (refine And.intro (by first | rfl | omega | decide | exact (by simp only [ByteArray.size_append, bsz, List.size_toArray, List.length_cons, List.length_nil]; omega) | (refine ⟨?_, ?_⟩ <;> (first | rfl | omega | decide | exact (by simp only [ByteArray.size_append, bsz, List.size_toArray, List.length_cons, List.length_nil]; omega))) | (refine ⟨?_, ?_, ?_⟩ <;> (first | rfl | omega | decide | exact (by simp only [ByteArray.size_append, bsz, List.size_toArray, List.length_cons, List.length_nil]; omega))) | (refine ⟨?_, ?_, ?_, ?_⟩ <;> (first | rfl | omega | decide | exact (by simp only [ByteArray.size_append, bsz, List.size_toArray, List.length_cons, List.length_nil]; omega)))) ?_)
          | fail)

        all_goals (refine ⟨⟨(i + 1, ()), hlt, trivial⟩, ?_, ?_⟩)
        all_goals first | (simp [Vs.LeL, Vs.look, Vs.hlook, Vs.sput, Vs.sputs, Vs.hset, Vs.hputs, hj]; done) | (simp only; omega)
      · have hgt : decide (((i : Nat) : Int) > 0) = true := decide_eq_true (by omega)
        have hj : tj l (i + 1) = tj l i ++ ⟨#[59]⟩ ++ (l[i].1 ++ ⟨#[61]⟩ ++ dcl l[i].2) := by
          rw [tj, tj, hs, jb_snoc (by intro e; have h1 := congrArg List.length e; rw [List.length_map, List.length_take, List.length_nil] at h1; omega)]
          rfl
        simp -dsimp only [go_sem, reduceIte, reduceCtorEq, Nat.reduceEqDiff, Nat.reduceLT, Nat.reduceLeDiff, Nat.reduceAdd, Nat.reduceMul, Nat.reduceSub, Int.reduceToNat, Int.reduceNeg, hm, hw, hgt, cT]
        repeat' (first
          | (refine RgK.mk rfl ?_; simp -dsimp only [go_sem, reduceIte, reduceCtorEq, Nat.reduceEqDiff, Nat.reduceLT, Nat.reduceLeDiff, Nat.reduceAdd, Nat.reduceMul, Nat.reduceSub, Int.reduceToNat, Int.reduceNeg, hm, hw, hgt, cT])
          | (refine Br.mk (fun h => ?_) (fun h => ?_) <;> simp -dsimp only [go_sem, reduceIte, reduceCtorEq, Nat.reduceEqDiff, Nat.reduceLT, Nat.reduceLeDiff, Nat.reduceAdd, Nat.reduceMul, Nat.reduceSub, Int.reduceToNat, Int.reduceNeg, h, hm, hw, hgt, cT])
          | (refine CallK.flat (by first | exact l01Dec l[i].2 hx.2.1 hx.2.2) rfl ?_; simp -dsimp only [go_sem, reduceIte, reduceCtorEq, Nat.reduceEqDiff, Nat.reduceLT, Nat.reduceLeDiff, Nat.reduceAdd, Nat.reduceMul, Nat.reduceSub, Int.reduceToNat, Int.reduceNeg, hm, hw, hgt, cT])
          | (refine CallK.pure (by first | exact l01Dec l[i].2 hx.2.1 hx.2.2) ?_; simp -dsimp only [go_sem, reduceIte, reduceCtorEq, Nat.reduceEqDiff, Nat.reduceLT, Nat.reduceLeDiff, Nat.reduceAdd, Nat.reduceMul, Nat.reduceSub, Int.reduceToNat, Int.reduceNeg, hm, hw, hgt, cT])
          | (refine And.intro (by first | rfl | omega | decide | exact (by simp only [ByteArray.size_append, bsz, List.size_toArray, List.length_cons, List.length_nil]; omega) | (refine ⟨?_, ?_⟩ <;> (first | rfl | omega | decide | exact (by simp only [ByteArray.size_append, bsz, List.size_toArray, List.length_cons, List.length_nil]; omega))) | (refine ⟨?_, ?_, ?_⟩ <;> (first | rfl | omega | decide | exact (by simp only [ByteArray.size_append, bsz, List.size_toArray, List.length_cons, List.length_nil]; omega))) | (refine ⟨?_, ?_, ?_, ?_⟩ <;> (first | rfl | omega | decide | exact (by simp only [ByteArray.size_append, bsz, List.size_toArray, List.length_cons, List.length_nil]; omega)))) ?_)
          | fail)

        all_goals (refine ⟨⟨(i + 1, ()), hlt, trivial⟩, ?_, ?_⟩)
        all_goals first | (simp [Vs.LeL, Vs.look, Vs.hlook, Vs.sput, Vs.sputs, Vs.hset, Vs.hputs, hj]; done) | (simp only; omega)
    · have hge : i = l.length := by
        have : ¬ i < l.length := by simpa using hc
        omega
      subst hge
      simp -dsimp only [go_sem, reduceIte, reduceCtorEq, Nat.reduceEqDiff, Nat.reduceLT, Nat.reduceLeDiff, Nat.reduceAdd, Nat.reduceMul, Nat.reduceSub, Int.reduceToNat, Int.reduceNeg]
      simp [tj_all]
end Go.Proofs.YthpokkcbbpapdaaDoor
