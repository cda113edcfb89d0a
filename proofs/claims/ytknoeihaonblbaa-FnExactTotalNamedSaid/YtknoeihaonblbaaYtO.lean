/-
  The program's look-up of a total by its name. Conditions: those of each theorem.
-/
import Derived.Test.YtknoeihaonblbaaYtN
namespace Go.Proofs.Ytknoeihaonblbaa
open Go.Vs Go.ChangeShapes Go.WideShapes Go.ChangeAt Go.RowKit
set_option linter.unusedSimpArgs false
set_option maxHeartbeats 1000000

theorem ixN_cases (xs : List (ByteArray × Int)) (s : ByteArray) : (ixN xs s = -1 ∧ tN xs s = (0, 3)) ∨ ∃ (i : Nat) (h : i < xs.length), ixN xs s = i ∧ tN xs s = (xs[i].2, 0) := by
  cases hf : xs.findIdx? (isN s) with
  | none =>
    rw [List.findIdx?_eq_none_iff] at hf
    have : xs.all (fun p => !isN s p) = true := List.all_eq_true.2 fun p hp => by simp [hf p hp]
    exact .inl ⟨ixN_none this, tN_none this⟩
  | some i =>
    have hf' := hf
    rw [List.findIdx?_eq_some_iff_getElem] at hf
    obtain ⟨hi, hp, hj⟩ := hf
    have hall : (xs.take i).all (fun p => !isN s p) = true := List.all_eq_true.2 fun p hp' => by
      rw [List.mem_take_iff_getElem] at hp'
      obtain ⟨j, h1, rfl⟩ := hp'
      have := hj j (by omega)
      simpa using this
    exact .inr ⟨i, hi, by simp [ixN, hf'], tN_some hi hall hp⟩

theorem impl_TotalNamed (xs : List (ByteArray × Int)) (s : ByteArray) (hx : xs.length ≤ 1048576) : Vs.Fn Try.prog F.impl_TotalNamed [] [.sl 2 (eT xs), .v (.string s)] (.tup [.v (.int .i64 (tN xs s).1), .v (.int .i64 (tN xs s).2)]) [] := by
  refine Cd.impl_TotalNamed_ok.fn Try.mixed _ _ [] [] Cd.impl_TotalNamed_nt Cd.impl_TotalNamed_rs rfl (by simp) rfl (by simp) fun X => ?_
  unfold Cd.impl_TotalNamed
  simp -dsimp only [Vs.wpc, Vs.vc, Vs.stepA, Vs.rd, Vs.al, Vs.look, Vs.put, Vs.keepL, Vs.evO, Vs.AV.ofValue, Vs.AV.mk, reduceIte, Nat.reduceEqDiff, Vs.retK, Vs.resL, Vs.resV, Vs.oneOr, Vs.ini, Vs.iniH, Vs.binI, Vs.binBool, true_and, Vs.conv, Vs.blksO, Vs.hlook, Vs.callL, Vs.borN, Vs.mapO, List.map, List.flatMap_nil, List.append_nil, List.nil_append, Vs.rn, Vs.aftL, Vs.newsL, Vs.oldsL, Option.getD_some, Option.getD_none, Vs.nodupB, List.length_map, eI_len, Int.toNat_natCast, Nat.zero_add, Bool.false_eq_true, Vs.idxN, Vs.convB, Option.bind_some, Vs.Blk.fz, eI_take, Vs.AV.has, Vs.phi, List.length_nil, List.length_cons, List.length_nil, Nat.le_refl, Nat.lt_irrefl, Nat.reduceLT, Nat.reduceLeDiff, Nat.reduceAdd, Vs.rnB, Option.map_some, List.cons_append, Vs.frz, Vs.aftF, false_and, Vs.Name.t.injEq, reduceCtorEq, and_true, and_false, Vs.cellsO, Vs.oneB, Value.oneCell', List.all_cons, List.all_nil, Bool.and_self, Vs.Blk.row, List.drop, List.take, List.headD, Vs.Blk.setRow, Vs.lay, Vs.hset, Vs.binStr, Nat.add_zero, List.set, List.all, Vs.Blk.has, Vs.hasL, Vs.isClo, Vs.isCloL, Ld.t53, Vs.rowsOf, eT_len, eT_take, Vs.rnL, eT_take2]
  refine ⟨⟨rfl, rfl⟩, _, _, false, indexT xs s hx, by simp [Vs.flat], rfl, ?_⟩
  simp -dsimp only [Vs.wpc, Vs.vc, Vs.stepA, Vs.rd, Vs.al, Vs.look, Vs.put, Vs.keepL, Vs.evO, Vs.AV.ofValue, Vs.AV.mk, reduceIte, Nat.reduceEqDiff, Vs.retK, Vs.resL, Vs.resV, Vs.oneOr, Vs.ini, Vs.iniH, Vs.binI, Vs.binBool, true_and, Vs.conv, Vs.blksO, Vs.hlook, Vs.callL, Vs.borN, Vs.mapO, List.map, List.flatMap_nil, List.append_nil, List.nil_append, Vs.rn, Vs.aftL, Vs.newsL, Vs.oldsL, Option.getD_some, Option.getD_none, Vs.nodupB, List.length_map, eI_len, Int.toNat_natCast, Nat.zero_add, Bool.false_eq_true, Vs.idxN, Vs.convB, Option.bind_some, Vs.Blk.fz, eI_take, Vs.AV.has, Vs.phi, List.length_nil, List.length_cons, List.length_nil, Nat.le_refl, Nat.lt_irrefl, Nat.reduceLT, Nat.reduceLeDiff, Nat.reduceAdd, Vs.rnB, Option.map_some, List.cons_append, Vs.frz, Vs.aftF, false_and, Vs.Name.t.injEq, reduceCtorEq, and_true, and_false, Vs.cellsO, Vs.oneB, Value.oneCell', List.all_cons, List.all_nil, Bool.and_self, Vs.Blk.row, List.drop, List.take, List.headD, Vs.Blk.setRow, Vs.lay, Vs.hset, Vs.binStr, Nat.add_zero, List.set, List.all, Vs.Blk.has, Vs.hasL, Vs.isClo, Vs.isCloL, Ld.t53, Vs.rowsOf, eT_len, eT_take, Vs.rnL, eT_take2]
  rcases ixN_cases xs s with ⟨h1, h2⟩ | ⟨i, hi, h1, h2⟩
  · simp [h1, h2]
  · simp only [h1, h2]
    refine ⟨fun h => by simp at h; omega, fun _ => ?_⟩
    simp only [Int.toNat_natCast, eT_get xs i hi]
    simp -dsimp only [Vs.wpc, Vs.vc, Vs.stepA, Vs.rd, Vs.al, Vs.look, Vs.put, Vs.keepL, Vs.evO, Vs.AV.ofValue, Vs.AV.mk, reduceIte, Nat.reduceEqDiff, Vs.retK, Vs.resL, Vs.resV, Vs.oneOr, Vs.ini, Vs.iniH, Vs.binI, Vs.binBool, true_and, Vs.conv, Vs.blksO, Vs.hlook, Vs.callL, Vs.borN, Vs.mapO, List.map, List.flatMap_nil, List.append_nil, List.nil_append, Vs.rn, Vs.aftL, Vs.newsL, Vs.oldsL, Option.getD_some, Option.getD_none, Vs.nodupB, List.length_map, eI_len, Int.toNat_natCast, Nat.zero_add, Bool.false_eq_true, Vs.idxN, Vs.convB, Option.bind_some, Vs.Blk.fz, eI_take, Vs.AV.has, Vs.phi, List.length_nil, List.length_cons, List.length_nil, Nat.le_refl, Nat.lt_irrefl, Nat.reduceLT, Nat.reduceLeDiff, Nat.reduceAdd, Vs.rnB, Option.map_some, List.cons_append, Vs.frz, Vs.aftF, false_and, Vs.Name.t.injEq, reduceCtorEq, and_true, and_false, Vs.cellsO, Vs.oneB, Value.oneCell', List.all_cons, List.all_nil, Bool.and_self, Vs.Blk.row, List.drop, List.take, List.headD, Vs.Blk.setRow, Vs.lay, Vs.hset, Vs.binStr, Nat.add_zero, List.set, List.all, Vs.Blk.has, Vs.hasL, Vs.isClo, Vs.isCloL, Ld.t53, Vs.rowsOf, eT_len, eT_take, Vs.rnL, eT_take2]
    exact ⟨by omega, _, _, rfl, rfl⟩
end Go.Proofs.Ytknoeihaonblbaa
