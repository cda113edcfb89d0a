/- Numbers read from their decimal forms, and words between spaces: plain laws. -/
import Derived.Lib.ParseIntB
import Derived.Lib.SplitLaws
import Derived.Lib.ItoaNum
namespace Go.Vs
open Go
def isDg (b : Nat) : Bool := decide ((b : Int) ≥ 48) && decide ((b : Int) ≤ 57)
/-- the number that digits spell -/
def valD (l : List UInt8) : Nat := l.foldl (fun n b => 10 * n + (b.toNat - 48)) 0
/-- the reference's reading: t is the text without its sign -/
def rdL (l t : List UInt8) (neg : Bool) : Int × Bool :=
  if t.length < 1 ∨ 18 < t.length then (0, false)
  else if t.all (fun b => isDg b.toNat) then
    (if Lib.itoa (if neg then -(valD t : Int) else (valD t : Int)) == l then ((if neg then -(valD t : Int) else (valD t : Int)), true) else (0, false))
  else (0, false)
def rdNL (l : List UInt8) : Int × Bool := if l.getD 0 0 = 45 ∧ 0 < l.length then rdL l (l.drop 1) true else rdL l l false
/-- the program's reading -/
def rdIL (l : List UInt8) : Int × Bool := match Lib.parseIntB 64 l with
  | .ok v => if Lib.itoa v == l && decide ((Lib.trimPrefix l [45]).length ≤ 18) then (v, true) else (0, false)
  | _ => (0, false)

theorem isDg_iff {b : Nat} : isDg b = true ↔ 48 ≤ b ∧ b ≤ 57 := by
  simp only [isDg, Bool.and_eq_true, decide_eq_true_eq]; omega
theorem foldl_lt : ∀ (t : List UInt8) (acc k : Nat), t.all (fun b => isDg b.toNat) = true → acc < 10 ^ k → t.foldl (fun n b => 10 * n + (b.toNat - 48)) acc < 10 ^ (k + t.length)
  | [], acc, k, _, h => by simpa using h
  | c :: r, acc, k, hd, h => by
    simp only [List.all_cons, Bool.and_eq_true] at hd
    obtain ⟨h1, h2⟩ := hd
    have h1 := isDg_iff.1 h1
    have := foldl_lt r (10 * acc + (c.toNat - 48)) (k + 1) h2 (by rw [Nat.pow_succ]; omega)
    rw [List.foldl_cons, List.length_cons, show k + (r.length + 1) = k + 1 + r.length by omega]
    exact this
theorem valD_small {t : List UInt8} (hd : t.all (fun b => isDg b.toNat) = true) (hl : t.length ≤ 18) : valD t < 10 ^ 18 := by
  have := foldl_lt t 0 0 hd (by decide)
  rw [Nat.zero_add] at this
  exact Nat.lt_of_lt_of_le this (Nat.pow_le_pow_right (by decide) hl)
theorem parseU : ∀ (t : List UInt8) (acc k : Nat), t.all (fun b => isDg b.toNat) = true → acc < 10 ^ k → k + t.length ≤ 18 → Lib.parseUintM (2 ^ 64 - 1) acc t = .ok (t.foldl (fun n b => 10 * n + (b.toNat - 48)) acc)
  | [], acc, k, _, _, _ => rfl
  | c :: r, acc, k, hd, h, hk => by
    simp only [List.all_cons, Bool.and_eq_true] at hd
    obtain ⟨h1, h2⟩ := hd
    have h1 := isDg_iff.1 h1
    rw [List.length_cons] at hk
    have hp : 10 ^ k ≤ 10 ^ 17 := Nat.pow_le_pow_right (by decide) (by omega)
    rw [Lib.parseUintM, if_pos h1, if_neg (by omega), if_neg (by omega), Nat.mul_comm acc 10]
    exact parseU r (10 * acc + (c.toNat - 48)) (k + 1) h2 (by rw [Nat.pow_succ]; omega) (by omega)
theorem parseUB {t : List UInt8} (hd : t.all (fun b => isDg b.toNat) = true) (h0 : 1 ≤ t.length) (hl : t.length ≤ 18) : Lib.parseUintB 64 t = .ok (valD t) := by
  unfold Lib.parseUintB
  rw [if_neg (by intro e; rw [e] at h0; simp at h0)]
  exact parseU t 0 0 hd (by decide) (by omega)
theorem dec_form : ∀ n : Nat, (Lib.decDigits n).all (fun b => isDg b.toNat) = true ∧ 1 ≤ (Lib.decDigits n).length := by
  intro n
  induction n using Nat.strongRecOn with
  | _ n ih =>
    rw [Lib.decDigits]
    have hd : ∀ m : Nat, m < 10 → isDg (UInt8.ofNat (48 + m)).toNat = true := fun m hm => by
      rw [isDg_iff, UInt8.toNat_ofNat']
      omega
    split
    · rename_i h
      exact ⟨by simp only [List.all_cons, List.all_nil, Bool.and_true]; exact hd n h, by simp⟩
    · rename_i h
      obtain ⟨h1, h2⟩ := ih (n / 10) (by omega)
      refine ⟨?_, by simp⟩
      rw [List.all_append, h1, Bool.true_and]
      simp only [List.all_cons, List.all_nil, Bool.and_true]
      exact hd (n % 10) (by omega)
theorem itoa_form (v : Int) : (∃ t, Lib.itoa v = 45 :: t ∧ t.all (fun b => isDg b.toNat) = true ∧ 1 ≤ t.length) ∨ ((Lib.itoa v).all (fun b => isDg b.toNat) = true ∧ 1 ≤ (Lib.itoa v).length) := by
  unfold Lib.itoa
  split
  · exact .inl ⟨_, rfl, dec_form _⟩
  · exact .inr (dec_form _)
theorem trim_neg (r : List UInt8) : Lib.trimPrefix (45 :: r) [45] = r := by simp [Lib.trimPrefix, Lib.hasPrefix, List.isPrefixOf]
theorem trim_pos {c : UInt8} {r : List UInt8} (h : c ≠ 45) : Lib.trimPrefix (c :: r) [45] = c :: r := by simp [Lib.trimPrefix, Lib.hasPrefix, List.isPrefixOf, Ne.symm h]
theorem rd_eq (l : List UInt8) : rdIL l = rdNL l := by
  cases l with
  | nil => rfl
  | cons c r =>
    by_cases hc : c = 45
    · subst hc
      have hN : rdNL (45 :: r) = rdL (45 :: r) r true := by unfold rdNL; rw [if_pos ⟨rfl, by simp⟩]; rfl
      rw [hN]
      by_cases hg : (1 ≤ r.length ∧ r.length ≤ 18) ∧ r.all (fun b => isDg b.toNat) = true
      · obtain ⟨⟨g1, g2⟩, g3⟩ := hg
        have hv := valD_small g3 g2
        have hp : Lib.parseIntB 64 (45 :: r) = .ok (-(valD r : Int)) := by
          unfold Lib.parseIntB
          simp only [show (45 : UInt8).toNat = 45 from rfl, or_true, if_true, parseUB g3 g1 g2, not_true_eq_false, false_and, if_false, true_and]
          rw [if_neg (by omega)]
        unfold rdIL rdL
        rw [hp, if_neg (by omega), g3]
        simp [trim_neg, g2]
      · have hL : rdL (45 :: r) r true = (0, false) := by
          unfold rdL
          by_cases h1 : r.length < 1 ∨ 18 < r.length
          · rw [if_pos h1]
          · rw [if_neg h1]
            have : r.all (fun b => isDg b.toNat) = false := by
              cases h : r.all (fun b => isDg b.toNat)
              · rfl
              · exact (hg ⟨⟨by omega, by omega⟩, h⟩).elim
            rw [this]; rfl
        rw [hL]
        unfold rdIL
        split
        · rename_i v hv
          split
          · rename_i hcond
            rw [Bool.and_eq_true, beq_iff_eq, decide_eq_true_eq, trim_neg] at hcond
            obtain ⟨e, hle⟩ := hcond
            exfalso
            rcases itoa_form v with ⟨t, h1, h2, h3⟩ | ⟨h1, h2⟩
            · rw [h1] at e
              obtain rfl := (List.cons.inj e).2
              exact hg ⟨⟨h3, hle⟩, h2⟩
            · rw [e] at h1
              simp [isDg] at h1
          · rfl
        · rfl
    · have hN : rdNL (c :: r) = rdL (c :: r) (c :: r) false := by
        unfold rdNL; rw [if_neg (fun h => hc h.1)]
      rw [hN]
      by_cases hg : (1 ≤ (c :: r).length ∧ (c :: r).length ≤ 18) ∧ (c :: r).all (fun b => isDg b.toNat) = true
      · obtain ⟨⟨g1, g2⟩, g3⟩ := hg
        have hv := valD_small g3 g2
        have hcd : 48 ≤ c.toNat ∧ c.toNat ≤ 57 := by
          simp only [List.all_cons, Bool.and_eq_true] at g3
          exact isDg_iff.1 g3.1
        have hp : Lib.parseIntB 64 (c :: r) = .ok (valD (c :: r) : Int) := by
          unfold Lib.parseIntB
          have n1 : ¬ c.toNat = 43 := by omega
          have n2 : ¬ c.toNat = 45 := by omega
          simp only [n1, n2, or_self, if_false, not_false_eq_true, true_and, false_and]
          rw [parseUB g3 g1 g2]
          simp only
          rw [if_neg (by omega)]
        unfold rdIL rdL
        rw [hp, if_neg (by omega), g3]
        simp only [trim_pos hc, g2, decide_true, Bool.and_true, if_true, Bool.false_eq_true, if_false]
      · have hL : rdL (c :: r) (c :: r) false = (0, false) := by
          unfold rdL
          by_cases h1 : (c :: r).length < 1 ∨ 18 < (c :: r).length
          · rw [if_pos h1]
          · rw [if_neg h1]
            have : (c :: r).all (fun b => isDg b.toNat) = false := by
              cases h : (c :: r).all (fun b => isDg b.toNat)
              · rfl
              · exact (hg ⟨⟨by omega, by omega⟩, h⟩).elim
            rw [this]; rfl
        rw [hL]
        unfold rdIL
        split
        · rename_i v hv
          split
          · rename_i hcond
            rw [Bool.and_eq_true, beq_iff_eq, decide_eq_true_eq, trim_pos hc] at hcond
            obtain ⟨e, hle⟩ := hcond
            exfalso
            rcases itoa_form v with ⟨t, h1, h2, h3⟩ | ⟨h1, h2⟩
            · rw [h1] at e
              exact hc (List.cons.inj e).1.symm
            · rw [e] at h1 h2
              exact hg ⟨⟨h2, hle⟩, h1⟩
          · rfl
        · rfl

/-- the words between spaces -/
def spL : List UInt8 → List (List UInt8)
  | [] => [[]]
  | b :: r => if b = 32 then [] :: spL r else match spL r with
    | [] => [[b]]
    | h :: t => (b :: h) :: t
theorem spL_ne : ∀ l, spL l ≠ []
  | [] => by simp [spL]
  | b :: r => by
    unfold spL
    split
    · simp
    · split <;> simp
theorem spL_free : ∀ {u l : List UInt8}, (32 : UInt8) ∉ u → ∃ h t, spL l = h :: t ∧ spL (u ++ l) = (u ++ h) :: t
  | [], l, _ => by
    cases e : spL l with
    | nil => exact (spL_ne l e).elim
    | cons h t => exact ⟨h, t, rfl, by simpa using e⟩
  | b :: u, l, hu => by
    simp only [List.mem_cons, not_or] at hu
    obtain ⟨h, t, h1, h2⟩ := spL_free (u := u) (l := l) hu.2
    refine ⟨h, t, h1, ?_⟩
    rw [List.cons_append, spL, if_neg (Ne.symm hu.1), h2]
    rfl
theorem spL_word {u : List UInt8} (hu : (32 : UInt8) ∉ u) : spL u = [u] := by
  obtain ⟨h, t, h1, h2⟩ := spL_free (u := u) (l := []) hu
  simp only [spL, List.cons.injEq] at h1
  obtain ⟨rfl, rfl⟩ := h1
  simpa using h2
theorem spL_cut {u l : List UInt8} (hu : (32 : UInt8) ∉ u) : spL (u ++ 32 :: l) = u :: spL l := by
  obtain ⟨h, t, h1, h2⟩ := spL_free (u := u) (l := 32 :: l) hu
  rw [spL, if_pos rfl] at h1
  obtain ⟨rfl, rfl⟩ := List.cons.inj h1
  simpa using h2
/-- the words, joined -/
def jnL : List (List UInt8) → List UInt8
  | [] => []
  | [a] => a
  | a :: r => a ++ 32 :: jnL r
theorem jn_spL : ∀ l, jnL (spL l) = l
  | [] => rfl
  | b :: r => by
    have ih := jn_spL r
    unfold spL
    split
    · rename_i h
      subst h
      cases e : spL r with
      | nil => exact (spL_ne r e).elim
      | cons h t => rw [e] at ih; rw [jnL, ih]; · simp
                    · simp
    · cases e : spL r with
      | nil => exact (spL_ne r e).elim
      | cons h t =>
        rw [e] at ih
        cases t with
        | nil => simpa [jnL] using ih
        | cons h2 t2 => simp only [jnL] at ih ⊢; rw [List.cons_append, ih]
theorem splitK_spL (l : List UInt8) : Lib.splitK [32] 0 (Lib.count l [32]) l = spL l := by
  induction h : l.length using Nat.strongRecOn generalizing l with
  | _ n ih =>
    subst h
    rcases Lib.index_spec l [32] with ⟨h1, h2⟩ | ⟨i, h1, hi, ho, hno⟩
    · rw [Lib.count_miss h1, Lib.splitK]
      refine (spL_word fun hm => ?_).symm
      obtain ⟨j, hj, e⟩ := List.mem_iff_getElem.1 hm
      have := h2 j (by omega)
      unfold Lib.occAt at this
      rw [List.drop_eq_getElem_cons hj, e] at this
      simp [List.isPrefixOf] at this
    · have hlt : i < l.length := by
        have := Lib.index_room l [32] (by omega)
        rw [h1] at this
        simp at this; omega
      have hgi : l[i] = 32 := by
        unfold Lib.occAt at ho
        rw [List.drop_eq_getElem_cons hlt] at ho
        have ho : ((32 : UInt8) == l[i] && ([] : List UInt8).isPrefixOf (l.drop (i + 1))) = true := ho
        rw [Bool.and_eq_true, beq_iff_eq] at ho
        exact ho.1.symm
      have hfree : (32 : UInt8) ∉ l.take i := fun hm => by
        obtain ⟨j, hj, e⟩ := List.mem_iff_getElem.1 hm
        rw [List.length_take] at hj
        have hji : j < i := by omega
        have := hno j hji
        unfold Lib.occAt at this
        rw [List.drop_eq_getElem_cons (by omega)] at this
        rw [List.getElem_take] at e
        rw [e] at this
        simp [List.isPrefixOf] at this
      have hsp : l.take i ++ 32 :: l.drop (i + 1) = l := by
        have := List.take_append_drop i l
        rw [List.drop_eq_getElem_cons hlt, hgi] at this
        exact this
      have hct := Lib.count_hit (sub := [32]) (by simp) h1
      rw [hct, show 1 + Lib.count (l.drop (i + [(32 : UInt8)].length)) [32] = Lib.count (l.drop (i + 1)) [32] + 1 by simp; omega, Lib.splitK, if_neg (by rw [h1]; simp), h1]
      have := ih (l.drop (i + 1)).length (by rw [List.length_drop]; omega) (l.drop (i + 1)) rfl
      simp only [Int.toNat_natCast, Nat.add_zero, List.length_cons, List.length_nil, Nat.zero_add] at this ⊢
      rw [this]
      rw [← spL_cut hfree, hsp]
end Go.Vs
namespace Go.Vs
open Go
theorem dg_free {t : List UInt8} (h : t.all (fun b => isDg b.toNat) = true) : (32 : UInt8) ∉ t := fun hm => by
  have := List.all_eq_true.1 h _ hm
  simp [isDg] at this
theorem itoa_free (v : Int) : (32 : UInt8) ∉ Lib.itoa v := by
  rcases itoa_form v with ⟨t, h1, h2, _⟩ | ⟨h1, _⟩
  · rw [h1]
    intro hm
    rcases List.mem_cons.1 hm with h | h
    · cases h
    · exact dg_free h2 h
  · exact dg_free h1
theorem rd_itoa {l : List UInt8} (h : (rdNL l).2 = true) : Lib.itoa (rdNL l).1 = l := by
  have key : ∀ (t : List UInt8) (neg : Bool), (rdL l t neg).2 = true → Lib.itoa (rdL l t neg).1 = l := by
    intro t neg h
    unfold rdL at h ⊢
    generalize (if neg = true then -(valD t : Int) else (valD t : Int)) = n at *
    split at h
    · cases h
    · rename_i h1
      rw [if_neg h1]
      split at h
      · rename_i h2
        rw [if_pos h2]
        split at h
        · rename_i h3
          rw [if_pos h3]
          exact beq_iff_eq.1 h3
        · cases h
      · cases h
  unfold rdNL at h ⊢
  split at h
  · rename_i h1; rw [if_pos h1]; exact key _ _ h
  · rename_i h1; rw [if_neg h1]; exact key _ _ h
def wC : List UInt8 := [99, 97, 114, 100, 115]
def wS : List UInt8 := [115, 117, 109]
def wD : List UInt8 := [100, 105, 103, 105, 116, 115]
theorem rc_text {a b c d e f l : List UInt8} {x y z : Int} (h : spL l = [a, b, c, d, e, f]) (ha : Lib.itoa x = a) (hc : Lib.itoa y = c) (he : Lib.itoa z = e) :
    Lib.itoa x ++ 32 :: (wC ++ 32 :: (Lib.itoa y ++ 32 :: (wS ++ 32 :: (Lib.itoa z ++ 32 :: wD)))) = l ↔ b = wC ∧ d = wS ∧ f = wD := by
  constructor
  · intro e
    have := congrArg spL e
    rw [spL_cut (itoa_free _), spL_cut (by decide), spL_cut (itoa_free _), spL_cut (by decide), spL_cut (itoa_free _), spL_word (by decide), h] at this
    simp only [List.cons.injEq, and_true] at this
    obtain ⟨_, h1, _, h2, _, h3⟩ := this
    exact ⟨h1.symm, h2.symm, h3.symm⟩
  · rintro ⟨rfl, rfl, rfl⟩
    have := jn_spL l
    rw [h] at this
    rw [← this, ha, hc, he]
    rfl
/-- the words of a text -/
def wdS (s : ByteArray) : List ByteArray := (spL s.data.toList).map fun u => ⟨u.toArray⟩
theorem wdS_split (s : ByteArray) : Lib.splitB ⟨#[32]⟩ 0 (Lib.countB s ⟨#[32]⟩) s = wdS s := by
  have h := Lib.splitB_data ⟨#[32]⟩ 0 (Lib.countB s ⟨#[32]⟩) s
  have hs : (⟨#[32]⟩ : ByteArray).data.toList = [32] := rfl
  have hc : Lib.countB s ⟨#[32]⟩ = Lib.count s.data.toList [32] := rfl
  rw [hs, hc, splitK_spL] at h
  unfold wdS
  rw [← h, List.map_map, hc]
  refine (List.map_id _).symm.trans (List.map_congr_left fun x _ => ?_)
  obtain ⟨⟨l⟩⟩ := x
  rfl
theorem wdS_len (s : ByteArray) : (wdS s).length = Lib.countB s ⟨#[32]⟩ + 1 := by
  rw [← wdS_split]
  exact Lib.splitB_all _ (by decide) 0 _ _ rfl
end Go.Vs
