/- Steps that are marked, and read back. -/
import Derived.Test.YthpokkcbbpapdaaYuP
import Derived.Test.YthpokkcbbpapdaaVtR
namespace Go.Proofs.Ythpokkcbbpapdaa
open Go.Vs
set_option linter.unusedSimpArgs false
set_option linter.unusedVariables false
attribute [local irreducible] Vs.Fn chOK areCh chTo chAt l03
theorem hB1 {x : Blk} : ∀ j, j < [x].length → [Name.b 0][j]? = some (.b j) := by
  intro j hj
  have : j = 0 := by simpa using hj
  subst this; rfl
theorem flat_one {b0 : Blk} (h : Vs.flatB b0) : ∀ b, some b ∈ [some b0] → Vs.flatB b := by
  intro b hb
  have : b = b0 := by simpa using hb
  subst this; exact h
theorem wrap_u8 {n : Int} (h0 : 0 ≤ n) (h1 : n ≤ 255) : IntKind.u8.wrap n = n := by
  simp [IntKind.wrap, IntKind.signed, IntKind.bits]
  omega
/-- the digits of a mark -/
def dgs (n : Nat) : ByteArray := if h : n = 0 then ⟨#[]⟩ else dgs (n / 10) ++ ⟨#[UInt8.ofNat (48 + n % 10)]⟩
termination_by n
decreasing_by omega
theorem dgs_zero : dgs 0 = ⟨#[]⟩ := by rw [dgs, dif_pos rfl]
theorem dgs_pos {n : Nat} (h : n ≠ 0) : dgs n = dgs (n / 10) ++ ⟨#[UInt8.ofNat (48 + n % 10)]⟩ := by rw [dgs, dif_neg h]
theorem dgs_size (n : Nat) : (dgs n).size ≤ n := by
  induction n using Nat.strongRecOn with
  | _ n ih =>
    by_cases h : n = 0
    · subst h; rw [dgs_zero]; exact Nat.le_refl _
    · rw [dgs_pos h, ByteArray.size_append]
      have := ih (n / 10) (by omega)
      have e : (ByteArray.mk #[UInt8.ofNat (48 + n % 10)]).size = 1 := rfl
      omega
def mtx (n : Nat) : ByteArray := ⟨#[109]⟩ ++ dgs n
theorem bempty (s : ByteArray) : s ++ (⟨#[]⟩ : ByteArray) = s := by
  apply ByteArray.ext; simp
theorem bemptyl (s : ByteArray) : (⟨#[]⟩ : ByteArray) ++ s = s := by
  apply ByteArray.ext; simp
theorem markText (n : Nat) (h0 : 0 < n) (hn : n ≤ 1000000000) : Vs.Fn Try.prog F.laws_markText [] [.v (.int .i64 n)] (.v (.string (mtx n))) [] := by
  have hd : decide ((n : Int) ≤ 0) = false := decide_eq_false (by omega)
  refine Cd.laws_markText_ok.fn0 Try.mixed Cd.laws_markText_nt Cd.laws_markText_rs rfl fun X => ?_
  unfold Cd.laws_markText
  simp -dsimp only [go_sem, reduceIte, reduceCtorEq, Nat.reduceEqDiff, Nat.reduceLT, Nat.reduceLeDiff, Nat.reduceAdd, Nat.reduceMul, Nat.reduceSub, Int.reduceToNat, Int.reduceNeg, hd]
  refine LoopK.at (drawn_ok Try.mixed) (X := { zz : Nat × ByteArray // zz.1 ≤ n ∧ dgs zz.1 ++ zz.2 = dgs n }) (fun zz => [(0, .v (.int .i64 zz.1.1)), (3, .v (.string zz.1.2))]) (fun _ => []) (fun zz => zz.1.1) ⟨(n, ⟨#[]⟩), Nat.le_refl _, bempty _⟩ ?_ ?_
  · simp [Vs.LeL, Vs.look, Vs.hlook, Vs.sput, Vs.sputs, Vs.hset, Vs.hputs]
  · rintro ⟨⟨m, s⟩, hm, hg⟩
    dsimp only at hm hg
    simp -dsimp only [go_sem, reduceIte, reduceCtorEq, Nat.reduceEqDiff, Nat.reduceLT, Nat.reduceLeDiff, Nat.reduceAdd, Nat.reduceMul, Nat.reduceSub, Int.reduceToNat, Int.reduceNeg]
    have hsz : s.size ≤ n := by
      have h1 := congrArg ByteArray.size hg
      rw [ByteArray.size_append] at h1
      have := dgs_size n
      omega
    refine Br.mk (fun hc => ?_) fun hc => ?_
    · have hpos : m ≠ 0 := by simp at hc; omega
      rw [dgs_pos hpos, ByteArray.append_assoc] at hg
      have q1 : ((m : Int)).tmod 10 = ((m % 10 : Nat) : Int) := by rw [Int.tmod_eq_emod_of_nonneg (by omega)]; omega
      have q2 : IntKind.i64.wrap (((m : Int)).tdiv 10) = ((m / 10 : Nat) : Int) := by rw [Int.tdiv_eq_ediv_of_nonneg (by omega), wrap_in (by omega) (by omega)]; omega
      have q4 : IntKind.i64.wrap (48 + ((m % 10 : Nat) : Int)) = ((48 + m % 10 : Nat) : Int) := by rw [wrap_in (by omega) (by omega)]; omega
      have q5 : IntKind.u8.wrap ((48 + m % 10 : Nat) : Int) = ((48 + m % 10 : Nat) : Int) := wrap_u8 (by omega) (by omega)
      have q6 : strB [((48 + m % 10 : Nat) : Int)] = ⟨#[UInt8.ofNat (48 + m % 10)]⟩ := by simp only [strB, List.map_cons, List.map_nil, Int.toNat_natCast]
      have q7 : (ByteArray.mk #[UInt8.ofNat (48 + m % 10)]).size + s.size ≤ 9223372036854775807 := by
        have e : (ByteArray.mk #[UInt8.ofNat (48 + m % 10)]).size = 1 := rfl
        omega
      simp -dsimp only [go_sem, reduceIte, reduceCtorEq, Nat.reduceEqDiff, Nat.reduceLT, Nat.reduceLeDiff, Nat.reduceAdd, Nat.reduceMul, Nat.reduceSub, Int.reduceToNat, Int.reduceNeg, q1, q2, q4, q5, q6, numsO, List.replicate_succ, List.replicate_zero, List.flatten_cons, List.flatten_nil]
      repeat' (first
        | (refine RgK.mk rfl ?_; simp -dsimp only [go_sem, reduceIte, reduceCtorEq, Nat.reduceEqDiff, Nat.reduceLT, Nat.reduceLeDiff, Nat.reduceAdd, Nat.reduceMul, Nat.reduceSub, Int.reduceToNat, Int.reduceNeg, q1, q2, q4, q5, q6, numsO, List.replicate_succ, List.replicate_zero, List.flatten_cons, List.flatten_nil])
        | (refine Br.mk (fun h => ?_) (fun h => ?_) <;> simp -dsimp only [go_sem, reduceIte, reduceCtorEq, Nat.reduceEqDiff, Nat.reduceLT, Nat.reduceLeDiff, Nat.reduceAdd, Nat.reduceMul, Nat.reduceSub, Int.reduceToNat, Int.reduceNeg, h, q1, q2, q4, q5, q6, numsO, List.replicate_succ, List.replicate_zero, List.flatten_cons, List.flatten_nil])
        | (refine And.intro (by first | rfl | omega | decide | exact q7 | (refine ⟨?_, ?_⟩ <;> (first | rfl | omega | decide | exact q7)) | (refine ⟨?_, ?_, ?_⟩ <;> (first | rfl | omega | decide | exact q7)) | (refine ⟨?_, ?_, ?_, ?_⟩ <;> (first | rfl | omega | decide | exact q7))) ?_)
        | fail)

      all_goals (exact ⟨⟨(m / 10, ⟨#[UInt8.ofNat (48 + m % 10)]⟩ ++ s), by dsimp only; omega, hg⟩, by simp [Vs.LeL, Vs.look, Vs.hlook, Vs.sput, Vs.sputs, Vs.hset, Vs.hputs], by simp only; omega⟩)
    · have hz : m = 0 := by simp at hc; omega
      subst hz
      rw [dgs_zero, bemptyl] at hg
      subst hg
      have q8 : (ByteArray.mk #[109]).size + (dgs n).size ≤ 9223372036854775807 := by
        have e : (ByteArray.mk #[109]).size = 1 := rfl
        omega
      simp -dsimp only [go_sem, reduceIte, reduceCtorEq, Nat.reduceEqDiff, Nat.reduceLT, Nat.reduceLeDiff, Nat.reduceAdd, Nat.reduceMul, Nat.reduceSub, Int.reduceToNat, Int.reduceNeg]
      exact ⟨⟨q8, ret_eq rfl⟩, fun h => h rfl⟩

end Go.Proofs.Ythpokkcbbpapdaa

namespace Go.Proofs.Ythpokkcbbpapdaa
open Go.Vs
set_option linter.unusedSimpArgs false
set_option linter.unusedVariables false
attribute [local irreducible] Vs.Fn chOK areCh chTo chAt l03

/-- the marks of steps -/
def mS (k : Nat) (j : Nat) : Stp := ⟨(k + 9 * j : Nat), (k + 9 * j + 1 : Nat), (k + 9 * j + 2 : Nat), (k + 9 * j + 3 : Nat), (k + 9 * j + 4 : Nat), (k + 9 * j + 5 : Nat), (k + 9 * j + 6 : Nat), (k + 9 * j + 7 : Nat), mtx (k + 9 * j + 8)⟩
theorem toStepSO (l : List Stp) (hl : l.length ≤ 1048576) : Vs.Fn Try.prog F.laws_toStepS [] [.sl 9 (E cS l)] (.loc (.b 0) 0 l.length) [some (.arr 9 (E cS l) false)] :=
  toS_own Try.mixed (g := F.laws_toStep) (k := 9) (y := 80) (z := [.v (.int .i64 (0)), .v (.int .i64 (0)), .v (.int .i64 (0)), .v (.int .i64 (0)), .v (.int .i64 (0)), .v (.int .i64 (0)), .v (.int .i64 (0)), .v (.int .i64 (0)), .v (.string ⟨#[]⟩)]) Cd.laws_toStepS_ok Cd.laws_toStepS_nt Cd.laws_toStepS_rs rfl (fun _ => rfl) (by decide) rfl rfl (fun _ => rfl) (fun x hx => toStep x) hl (by decide)
set_option maxRecDepth 20000 in
set_option maxHeartbeats 2000000 in
theorem markStepS (l : List Stp) (k : Nat) (hl : l.length ≤ 1048576) (hk0 : 0 < k) (hk : k ≤ 900000000) : Vs.Fn Try.prog F.laws_markStepS [.arr 9 (E cS l) false] [.loc (.b 0) 0 l.length, .v (.int .i64 k)] (.v (.int .i64 (k + 9 * l.length : Nat))) [some (.arr 9 (E cS (mkR (mS k) l l.length)) false)] := by
  refine Cd.laws_markStepS_ok.fn Try.mixed (hin := [.arr 9 (E cS l) false]) 81 _ [.b 0] [.arr 9 (E cS (mkR (mS k) l l.length)) false] Cd.laws_markStepS_nt Cd.laws_markStepS_rs rfl (by simp) rfl hB1 fun X => ?_
  unfold Cd.laws_markStepS
  simp -dsimp only [go_sem, reduceIte, reduceCtorEq, Nat.reduceEqDiff, Nat.reduceLT, Nat.reduceLeDiff, Nat.reduceAdd, Nat.reduceMul, Nat.reduceSub, Int.reduceToNat, Int.reduceNeg]
  refine LoopK.at (drawn_ok Try.mixed) (X := { i : Nat // i ≤ l.length }) (fun i => [(0, .loc (.b 0) 0 l.length), (1, .v (.int .i64 (k + 9 * i.1 : Nat))), (5, .v (.int .i64 i.1))]) (fun i => [(.b 0, .arr 9 (E cS (mkR (mS k) l i.1)) false)]) (fun i => l.length - i.1) ⟨0, by omega⟩ ?_ ?_
  · simp [Vs.LeL, Vs.look, Vs.hlook, Vs.sput, Vs.sputs, Vs.hset, Vs.hputs, mkR_zero]
  · rintro ⟨i, hi⟩
    simp -dsimp only [go_sem, reduceIte, reduceCtorEq, Nat.reduceEqDiff, Nat.reduceLT, Nat.reduceLeDiff, Nat.reduceAdd, Nat.reduceMul, Nat.reduceSub, Int.reduceToNat, Int.reduceNeg]
    refine Br.mk (fun hc => ?_) fun hc => ?_
    · have hlt : i < l.length := by simpa using hc
      have hw := wrap_succ hlt hl
      have w0 : IntKind.i64.wrap (((k + 9 * i : Nat) : Int) + 1) = ((k + 9 * i + 1 : Nat) : Int) := by rw [wrap_in (by omega) (by omega)]; omega
      have w1 : IntKind.i64.wrap (((k + 9 * i + 1 : Nat) : Int) + 1) = ((k + 9 * i + 2 : Nat) : Int) := by rw [wrap_in (by omega) (by omega)]; omega
      have w2 : IntKind.i64.wrap (((k + 9 * i + 2 : Nat) : Int) + 1) = ((k + 9 * i + 3 : Nat) : Int) := by rw [wrap_in (by omega) (by omega)]; omega
      have w3 : IntKind.i64.wrap (((k + 9 * i + 3 : Nat) : Int) + 1) = ((k + 9 * i + 4 : Nat) : Int) := by rw [wrap_in (by omega) (by omega)]; omega
      have w4 : IntKind.i64.wrap (((k + 9 * i + 4 : Nat) : Int) + 1) = ((k + 9 * i + 5 : Nat) : Int) := by rw [wrap_in (by omega) (by omega)]; omega
      have w5 : IntKind.i64.wrap (((k + 9 * i + 5 : Nat) : Int) + 1) = ((k + 9 * i + 6 : Nat) : Int) := by rw [wrap_in (by omega) (by omega)]; omega
      have w6 : IntKind.i64.wrap (((k + 9 * i + 6 : Nat) : Int) + 1) = ((k + 9 * i + 7 : Nat) : Int) := by rw [wrap_in (by omega) (by omega)]; omega
      have w7 : IntKind.i64.wrap (((k + 9 * i + 7 : Nat) : Int) + 1) = ((k + 9 * i + 8 : Nat) : Int) := by rw [wrap_in (by omega) (by omega)]; omega
      have w8 : IntKind.i64.wrap (((k + 9 * i + 8 : Nat) : Int) + 1) = ((k + 9 * (i + 1) : Nat) : Int) := by rw [wrap_in (by omega) (by omega)]; omega
      have hlr : (mkR (mS k) l i).length = l.length := mkR_length _ l (by omega)
      have hgi : (E cS (mkR (mS k) l i)).getD i [] = cS l[i] := mkR_get (c := cS) _ l hlt
      have hgs : ∀ r, ((E cS (mkR (mS k) l i)).set i r).getD i [] = r := fun r => set_get (by rw [E_len, hlr]; exact hlt) r
      have hst : (E cS (mkR (mS k) l i)).set i [.v (.int .i64 (k + 9 * i : Nat)), .v (.int .i64 (k + 9 * i + 1 : Nat)), .v (.int .i64 (k + 9 * i + 2 : Nat)), .v (.int .i64 (k + 9 * i + 3 : Nat)), .v (.int .i64 (k + 9 * i + 4 : Nat)), .v (.int .i64 (k + 9 * i + 5 : Nat)), .v (.int .i64 (k + 9 * i + 6 : Nat)), .v (.int .i64 (k + 9 * i + 7 : Nat)), .v (.string (mtx (k + 9 * i + 8)))] = E cS (mkR (mS k) l (i + 1)) := mkR_set (c := cS) (mS k) l hlt
      simp -dsimp only [go_sem, reduceIte, reduceCtorEq, Nat.reduceEqDiff, Nat.reduceLT, Nat.reduceLeDiff, Nat.reduceAdd, Nat.reduceMul, Nat.reduceSub, Int.reduceToNat, Int.reduceNeg, hw, w0, w1, w2, w3, w4, w5, w6, w7, w8, hgi, hgs, hst, hlr, cS, E_len, List.set_set, List.length_set, List.set_cons_zero, List.set_cons_succ, List.length_cons, List.length_nil]
      repeat' (first
        | (refine RgK.mk rfl ?_; simp -dsimp only [go_sem, reduceIte, reduceCtorEq, Nat.reduceEqDiff, Nat.reduceLT, Nat.reduceLeDiff, Nat.reduceAdd, Nat.reduceMul, Nat.reduceSub, Int.reduceToNat, Int.reduceNeg, hw, w0, w1, w2, w3, w4, w5, w6, w7, w8, hgi, hgs, hst, hlr, cS, E_len, List.set_set, List.length_set, List.set_cons_zero, List.set_cons_succ, List.length_cons, List.length_nil])
        | (refine Br.mk (fun h => ?_) (fun h => ?_) <;> simp -dsimp only [go_sem, reduceIte, reduceCtorEq, Nat.reduceEqDiff, Nat.reduceLT, Nat.reduceLeDiff, Nat.reduceAdd, Nat.reduceMul, Nat.reduceSub, Int.reduceToNat, Int.reduceNeg, h, hw, w0, w1, w2, w3, w4, w5, w6, w7, w8, hgi, hgs, hst, hlr, cS, E_len, List.set_set, List.length_set, List.set_cons_zero, List.set_cons_succ, List.length_cons, List.length_nil])
        | (refine CallK.flat (by first | exact markText (k + 9 * i + 8) (by omega) (by omega)) rfl ?_; simp -dsimp only [go_sem, reduceIte, reduceCtorEq, Nat.reduceEqDiff, Nat.reduceLT, Nat.reduceLeDiff, Nat.reduceAdd, Nat.reduceMul, Nat.reduceSub, Int.reduceToNat, Int.reduceNeg, hw, w0, w1, w2, w3, w4, w5, w6, w7, w8, hgi, hgs, hst, hlr, cS, E_len, List.set_set, List.length_set, List.set_cons_zero, List.set_cons_succ, List.length_cons, List.length_nil])
        | (refine CallK.pure (by first | exact markText (k + 9 * i + 8) (by omega) (by omega)) ?_; simp -dsimp only [go_sem, reduceIte, reduceCtorEq, Nat.reduceEqDiff, Nat.reduceLT, Nat.reduceLeDiff, Nat.reduceAdd, Nat.reduceMul, Nat.reduceSub, Int.reduceToNat, Int.reduceNeg, hw, w0, w1, w2, w3, w4, w5, w6, w7, w8, hgi, hgs, hst, hlr, cS, E_len, List.set_set, List.length_set, List.set_cons_zero, List.set_cons_succ, List.length_cons, List.length_nil])
        | (refine And.intro (by first | rfl | omega | decide | (refine ⟨?_, ?_⟩ <;> (first | rfl | omega | decide)) | (refine ⟨?_, ?_, ?_⟩ <;> (first | rfl | omega | decide)) | (refine ⟨?_, ?_, ?_, ?_⟩ <;> (first | rfl | omega | decide))) ?_)
        | fail)

      all_goals (exact ⟨⟨i + 1, by omega⟩, by simp [Vs.LeL, Vs.look, Vs.hlook, Vs.sput, Vs.sputs, Vs.hset, Vs.hputs], by simp only; omega⟩)
    · have hge : i = l.length := by
        have : ¬ i < l.length := by simpa using hc
        omega
      subst hge
      simp -dsimp only [go_sem, reduceIte, reduceCtorEq, Nat.reduceEqDiff, Nat.reduceLT, Nat.reduceLeDiff, Nat.reduceAdd, Nat.reduceMul, Nat.reduceSub, Int.reduceToNat, Int.reduceNeg]
      exact ⟨⟨_, _, rfl, rfl⟩, fun h => h rfl⟩

end Go.Proofs.Ythpokkcbbpapdaa
