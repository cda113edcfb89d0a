/- What an operation depends on: the values of its operands, and the blocks that they reach. -/
import Derived.Test.YtgeeipfdkamhmaaDoorFsP
namespace Go.Vs
def isRd : AOp → Bool
  | .box _ | .alloc _ | .bslice .. | .mk .. | .call .. | .store .. | .append .. | .appendC .. | .bsliceC .. | .clr .. => false
  | _ => true
end Go.Vs

namespace Go.Vs

def opnds : AOp → List Operand
  | .mv x => [x]
  | .pick c a b => [c, a, b]
  | .load _ _ a => [a]
  | .fieldAddr _ x => [x]
  | .field _ _ _ x => [x]
  | .idxSl _ x i => [x, i]
  | .idxArr _ _ x i => [x, i]
  | .idxAgg _ _ _ x i => [x, i]
  | .idxStr x i => [x, i]
  | .bin _ x y => [x, y]
  | .binS _ x y => [x, y]
  | .binB _ x y => [x, y]
  | .un _ x => [x]
  | .conv _ x => [x]
  | .b2s x => [x]
  | .eqA _ _ x y => [x, y]
  | .idxB x y => [x, y]
  | .len x => [x]
  | .lenS x => [x]
  | .lenC _ => []
  | .slc _ x a b => x :: (a.toList ++ b.toList)
  | .sstr x a b => x :: (a.toList ++ b.toList)
  | .nilc x => [x]
  | .extract x _ => [x]
  | .build _ ps => ps.map fun p => p.2.2
  | .mkfn _ cs => cs
  | .mm _ x y => [x, y]
  | .box x => [x]
  | .alloc _ => []
  | .bslice _ _ _ ps => ps.map fun p => p.2
  | .mk _ _ _ n => [n]
  | .call f a _ => f :: a
  | .store _ a x => [a, x]
  | .append _ _ a x => [a, x]
  | .appendC _ _ a x => [a, x]
  | .bsliceC _ _ _ ps => ps.map fun p => p.2
  | .clr _ _ x => [x]

/-- The heaps agree off these names, but for what is frozen. -/
def Agr (N : Name → Prop) (h h' : Name → Option Blk) : Prop := ∀ n, ¬ N n → (h n).map frz = (h' n).map frz
def Off (N : Name → Prop) (x : AV) : Prop := ∀ n, N n → x.has n = false
def OffL (N : Name → Prop) (c : List AV) : Prop := ∀ n, N n → hasL n c = false
def OffB (N : Name → Prop) (b : Blk) : Prop := ∀ n, N n → b.has n = false

variable {N : Name → Prop} {h h' : Name → Option Blk} {ev ev' : Operand → AV}

theorem Agr.symm (ha : Agr N h h') : Agr N h' h := fun n hn => (ha n hn).symm
theorem Agr.none (ha : Agr N h h') {n : Name} (hn : ¬ N n) (hh : h n = none) : h' n = none := by
  have := ha n hn
  rw [hh] at this
  cases hx : h' n with
  | none => rfl
  | some b => rw [hx] at this; simp at this
theorem Agr.some (ha : Agr N h h') {n : Name} (hn : ¬ N n) {b : Blk} (hh : h n = some b) : ∃ b', h' n = some b' ∧ frz b' = frz b := by
  have := ha n hn
  rw [hh] at this
  cases hx : h' n with
  | none => rw [hx] at this; simp at this
  | some b' => rw [hx] at this; simp at this; exact ⟨b', rfl, this.symm⟩
theorem frz_row {b b' : Blk} (hb : frz b' = frz b) (e : Nat) : b'.row e = b.row e := by
  cases b <;> cases b' <;> simp [frz] at hb <;> simp [Blk.row, hb]
  cases e <;> simp [Blk.row, hb]
theorem frz_arr {b : Blk} {k : Nat} {l : List (List AV)} {z : Bool} (hb : frz b = frz (.arr k l z)) : ∃ z', b = .arr k l z' := by
  cases b <;> simp [frz] at hb
  obtain ⟨rfl, rfl⟩ := hb
  exact ⟨_, rfl⟩
theorem frz_var {b : Blk} {c : List AV} {z : Bool} (hb : frz b = frz (.var c z)) : ∃ z', b = .var c z' := by
  cases b <;> simp [frz] at hb
  subst hb
  exact ⟨_, rfl⟩
theorem frz_has {b b' : Blk} (hb : frz b' = frz b) (n : Name) : b'.has n = b.has n := by
  cases b <;> cases b' <;> simp [frz] at hb <;> simp [Blk.has, hb]

theorem Off.ptr {n : Name} {e c : Nat} (ho : Off N (.ptr n e c)) : ¬ N n := fun hn => by simpa [AV.has] using ho n hn
theorem Off.loc {n : Name} {e c : Nat} (ho : Off N (.loc n e c)) : ¬ N n := fun hn => by simpa [AV.has] using ho n hn
theorem Off.agg {c : List AV} (ho : Off N (.agg c)) : OffL N c := fun n hn => by simpa [AV.has] using ho n hn
theorem Off.tup {c : List AV} (ho : Off N (.tup c)) : OffL N c := fun n hn => by simpa [AV.has] using ho n hn
theorem Off.fn {f : FuncId} {c : List AV} (ho : Off N (.fn f c)) : OffL N c := fun n hn => by simpa [AV.has] using ho n hn
theorem OffL.cons {x : AV} {c : List AV} (ho : OffL N (x :: c)) : Off N x ∧ OffL N c :=
  ⟨fun n hn => by have := ho n hn; simp [hasL] at this; exact this.1, fun n hn => by have := ho n hn; simp [hasL] at this; exact this.2⟩
theorem OffL.mk_cons {x : AV} {c : List AV} (hx : Off N x) (hc : OffL N c) : OffL N (x :: c) := fun n hn => by simp [hasL, hx n hn, hc n hn]
theorem OffL.nil : OffL N [] := fun _ _ => rfl
theorem OffL.mem : ∀ {c : List AV}, OffL N c → ∀ x, x ∈ c → Off N x
  | [], _, x, hx => by cases hx
  | y :: r, ho, x, hx => by
    rcases List.mem_cons.1 hx with rfl | hx
    · exact ho.cons.1
    · exact OffL.mem ho.cons.2 x hx
theorem OffL.of_mem : ∀ {c : List AV}, (∀ x, x ∈ c → Off N x) → OffL N c
  | [], _ => OffL.nil
  | _ :: _, h => OffL.mk_cons (h _ (by simp)) (OffL.of_mem fun x hx => h x (by simp [hx]))
theorem OffL.getD {c : List AV} (ho : OffL N c) (j : Nat) : Off N (c.getD j .junk) := fun n hn => hasL_getD (ho n hn)
theorem OffL.drop {c : List AV} (ho : OffL N c) (j : Nat) : OffL N (c.drop j) := OffL.of_mem fun x hx => ho.mem x (List.mem_of_mem_drop hx)
theorem OffL.take {c : List AV} (ho : OffL N c) (j : Nat) : OffL N (c.take j) := OffL.of_mem fun x hx => ho.mem x (List.mem_of_mem_take hx)
theorem Off.v (x : Value) : Off N (.v x) := fun _ _ => rfl
theorem Off.junk : Off N .junk := fun _ _ => rfl
theorem Off.sl (k : Nat) (l : List (List AV)) : Off N (.sl k l) := fun _ _ => rfl
theorem Off.ro (c : List AV) : Off N (.ro c) := fun _ _ => rfl
theorem Off.mk_agg {c : List AV} (ho : OffL N c) : Off N (.agg c) := fun n hn => by simpa [AV.has] using ho n hn
theorem Off.mk_fn {f : FuncId} {c : List AV} (ho : OffL N c) : Off N (.fn f c) := fun n hn => by simpa [AV.has] using ho n hn
theorem Off.mk_tup {c : List AV} (ho : OffL N c) : Off N (.tup c) := fun n hn => by simpa [AV.has] using ho n hn
theorem Off.mk_ptr {n : Name} {e c : Nat} (hn : ¬ N n) : Off N (.ptr n e c) := fun m hm => by
  simp only [AV.has, decide_eq_false_iff_not]; rintro rfl; exact hn hm
theorem Off.mk_loc {n : Name} {e c : Nat} (hn : ¬ N n) : Off N (.loc n e c) := fun m hm => by
  simp only [AV.has, decide_eq_false_iff_not]; rintro rfl; exact hn hm
theorem oneB_agr (ha : Agr N h h') {x : AV} (ho : Off N x) : oneB h x = oneB h' x := by
  cases x <;> try rfl
  case loc n off len =>
    simp only [oneB]
    cases hx : h n with
    | none => rw [ha.none ho.loc hx]
    | some b =>
      obtain ⟨b', hb', e⟩ := ha.some ho.loc hx
      rw [hb']
      cases b <;> cases b' <;> simp [frz] at e <;> rfl
  case ptr n e c =>
    simp only [oneB]
    cases hx : h n with
    | none => rw [ha.none ho.ptr hx]
    | some b =>
      obtain ⟨b', hb', e⟩ := ha.some ho.ptr hx
      rw [hb']; rfl

theorem all_congr {p q : AV → Bool} : ∀ {c : List AV}, (∀ x, x ∈ c → p x = q x) → c.all p = c.all q
  | [], _ => rfl
  | x :: r, h => by simp only [List.all_cons, h x (by simp), all_congr (c := r) fun y hy => h y (by simp [hy])]

theorem cellsO_agr (ha : Agr N h h') {x : AV} (ho : Off N x) : cellsO h x = cellsO h' x := by
  cases x
  case agg c =>
    simp only [cellsO]
    rw [all_congr (q := oneB h') fun x hx => oneB_agr ha (ho.agg.mem x hx)]
  all_goals simp only [cellsO, oneB_agr ha ho]

theorem cellsO_off {x : AV} (ho : Off N x) {c : List AV} (hc : cellsO h x = some c) : OffL N c := by
  cases x
  case agg c' =>
    simp only [cellsO] at hc
    split at hc
    · obtain rfl := Option.some.inj hc; exact ho.agg
    · cases hc
  all_goals
    simp only [cellsO] at hc
    split at hc
    · obtain rfl := Option.some.inj hc
      exact OffL.mk_cons ho OffL.nil
    · cases hc

theorem layAll_agr (ha : Agr N h h') : ∀ {ps : List (Nat × Nat × Operand)} {cs : List AV} {K : List AV → Prop}, (∀ p, p ∈ ps → ev p.2.2 = ev' p.2.2 ∧ Off N (ev p.2.2)) → layAll ev h cs ps K → layAll ev' h' cs ps K
  | [], _, _, _, hk => hk
  | (o, n, x) :: r, cs, K, he, hk => by
    obtain ⟨e1, e2⟩ := he (o, n, x) (by simp)
    simp only at e1 e2
    simp only [layAll] at hk ⊢
    rw [← e1, ← cellsO_agr ha e2]
    split at hk
    · exact ⟨hk.1, layAll_agr ha (fun p hp => he p (by simp [hp])) hk.2⟩
    · exact hk

theorem layAll_mono : ∀ {ps : List (Nat × Nat × Operand)} {cs : List AV} {K K' : List AV → Prop}, (∀ c, K c → K' c) → layAll ev h cs ps K → layAll ev h cs ps K'
  | [], _, _, _, hh, hk => hh _ hk
  | (o, n, x) :: r, cs, K, K', hh, hk => by
    simp only [layAll] at hk ⊢
    split at hk
    · exact ⟨hk.1, layAll_mono hh hk.2⟩
    · exact hk

theorem layAll_point : ∀ {ps : List (Nat × Nat × Operand)} {cs : List AV} {K : List AV → Prop}, layAll ev h cs ps K → ∃ c, K c ∧ layAll ev h cs ps (fun c' => c' = c)
  | [], cs, _, hk => ⟨cs, hk, rfl⟩
  | (o, n, x) :: r, cs, K, hk => by
    simp only [layAll] at hk ⊢
    split at hk
    · obtain ⟨c, h1, h2⟩ := layAll_point hk.2
      exact ⟨c, h1, hk.1, h2⟩
    · exact hk.elim
end Go.Vs
