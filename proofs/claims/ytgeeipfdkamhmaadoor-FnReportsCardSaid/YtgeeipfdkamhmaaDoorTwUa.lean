/- The source that the draws read: next, pick, one, among. -/
import Derived.Test.YtgeeipfdkamhmaaDoorTuB
import Derived.Test.YtgeeipfdkamhmaaDoorFtR
import Derived.Test.YtgeeipfdkamhmaaDoorFtK
namespace Go.Proofs.YtgeeipfdkamhmaaDoor
open Go.Vs
set_option linter.unusedSimpArgs false
set_option linter.unusedVariables false
attribute [local irreducible] Vs.Fn
def cU (n : Int) : List AV := [.v (.int .u8 n)]
theorem cU_get {l : List Int} {i : Nat} (h : i < l.length) : (E cU l).getD i [] = [.v (.int .u8 (l.getD i 0))] := by
  rw [E_get h]; simp [cU, List.getD, h]
/-- the source: how many bytes are read, and the seed -/
structure Sr where
  p : Nat
  s : Int
def sB (l : List Int) (x : Sr) : Blk := .var [.sl 1 (E cU l), .v (.int .i64 x.p), .v (.int .u64 x.s)] false
def nxS (l : List Int) (x : Sr) : Sr := ⟨x.p + 1, IntKind.u64.wrap (IntKind.u64.wrap (IntKind.u64.wrap (x.s * 6364136223846793005) + IntKind.u64.wrap (l.getD x.p 0)) + 1442695040888963407)⟩
def nxV (l : List Int) (x : Sr) : Int := if x.p + 1 ≤ l.length then l.getD x.p 0 else IntKind.i64.wrap (bitsOp .and .u64 ((nxS l x).s.fdiv (2 ^ 40)) 255)
def pkV (l : List Int) (x : Sr) (n : Int) : Int := if n ≤ 1 then 0 else if n > 200 then (IntKind.i64.wrap (IntKind.i64.wrap (nxV l x * 256) + nxV l (nxS l x))).tmod n else (nxV l x).tmod n
def pkS (l : List Int) (x : Sr) (n : Int) : Sr := if n ≤ 1 then x else if n > 200 then nxS l (nxS l x) else nxS l x
/-- bytes -/
def byt (l : List Int) : Prop := l.length ≤ 4000 ∧ ∀ x, x ∈ l → 0 ≤ x ∧ x ≤ 255
theorem byt_at {l : List Int} (h : byt l) (i : Nat) : 0 ≤ l.getD i 0 ∧ l.getD i 0 ≤ 255 := by
  by_cases hi : i < l.length
  · have e : l.getD i 0 = l[i] := by simp [List.getD, hi]
    rw [e]; exact h.2 _ (List.getElem_mem hi)
  · have e : l.getD i 0 = 0 := by simp [List.getD, List.getElem?_eq_none (Nat.le_of_not_lt hi)]
    omega
theorem bits255 (a : Int) : 0 ≤ bitsOp .and .u64 a 255 ∧ bitsOp .and .u64 a 255 ≤ 255 := by
  unfold bitsOp
  simp only
  have h : (BitVec.ofInt IntKind.u64.bits a &&& BitVec.ofInt IntKind.u64.bits 255).toNat ≤ 255 := by
    rw [BitVec.toNat_and]
    exact Nat.le_trans Nat.and_le_right (by decide)
  generalize (BitVec.ofInt IntKind.u64.bits a &&& BitVec.ofInt IntKind.u64.bits 255).toNat = m at h
  have e : IntKind.u64.wrap (m : Int) = m := by
    simp only [IntKind.wrap, IntKind.bits, IntKind.signed, Bool.false_and, Bool.false_eq_true, if_false]
    omega
  rw [e]; omega
theorem nxV_in {l : List Int} (h : byt l) (x : Sr) : 0 ≤ nxV l x ∧ nxV l x ≤ 255 := by
  unfold nxV
  split
  · exact byt_at h _
  · have := bits255 ((nxS l x).s.fdiv (2 ^ 40))
    rw [wrap_in (by omega) (by omega)]; exact this
theorem pkV_in {l : List Int} (h : byt l) (x : Sr) {n : Int} (hn : 1 ≤ n) : 0 ≤ pkV l x n ∧ pkV l x n < n := by
  have h1 := nxV_in h x
  have h2 := nxV_in h (nxS l x)
  unfold pkV
  split
  · omega
  · split
    · rw [wrap_in (n := nxV l x * 256) (by omega) (by omega), wrap_in (by omega) (by omega)]
      exact ⟨Int.tmod_nonneg _ (by omega), Int.tmod_lt_of_pos _ (by omega)⟩
    · exact ⟨Int.tmod_nonneg _ (by omega), Int.tmod_lt_of_pos _ (by omega)⟩
theorem pkS_p (l : List Int) (x : Sr) (n : Int) : (pkS l x n).p ≤ x.p + 2 := by
  unfold pkS
  split
  · omega
  · split <;> simp [nxS] <;> omega
theorem nxS_p (l : List Int) (x : Sr) : (nxS l x).p = x.p + 1 := rfl
theorem padd1 {a : Nat} (h : a ≤ 4000000) : IntKind.i64.wrap ((a : Int) + 1) = ((a + 1 : Nat) : Int) := by rw [wrap_in (by omega) (by omega)]; omega
end Go.Proofs.YtgeeipfdkamhmaaDoor
