/-
  Contracts of the functions over lists of totals. Conditions: those of each theorem.
-/
import Derived.Test.YtknoeihaonblbaaYtH
namespace Go.Proofs.Ytknoeihaonblbaa
open Go.Vs Go.ChangeShapes Go.WideShapes Go.ChangeAt Go.RowKit
set_option linter.unusedSimpArgs false
set_option maxHeartbeats 1000000

theorem eT_len (xs : List (ByteArray × Int)) : (eT xs).length = xs.length := by simp [eT]
theorem eT_take (xs : List (ByteArray × Int)) : ((eT xs).drop 0).take xs.length = eT xs := by rw [List.drop_zero]; exact List.take_of_length_le (by simp [eT])
theorem eT_get (xs : List (ByteArray × Int)) (i : Nat) (h : i < xs.length) : (eT xs).getD i [] = [.v (.string xs[i].1), .v (.int .i64 xs[i].2)] := by simp [eT, List.getD, h, cT]
def sumT (xs : List (ByteArray × Int)) : Int := xs.foldl (fun s p => IntKind.i64.wrap (s + p.2)) 0
theorem sum_step (xs : List (ByteArray × Int)) (i : Nat) (h : i < xs.length) : sumT (xs.take (i + 1)) = IntKind.i64.wrap (sumT (xs.take i) + xs[i].2) := by
  simp only [sumT, List.take_add_one, List.getElem?_eq_getElem h, Option.toList_some, List.foldl_append, List.foldl_cons, List.foldl_nil]

theorem spec_SumOfTotals (xs : List (ByteArray × Int)) (hx : xs.length ≤ 1048576) : Vs.Fn Try.prog F.spec_SumOfTotals [] [.sl 2 (eT xs)] (.v (.int .i64 (sumT xs))) [] := by
  refine Cd.spec_SumOfTotals_ok.fn Try.mixed _ _ [] [] Cd.spec_SumOfTotals_nt Cd.spec_SumOfTotals_rs rfl (by simp) rfl (by simp) fun X => ?_
  unfold Cd.spec_SumOfTotals
  simp -dsimp only [Vs.wpc, Vs.vc, Vs.stepA, Vs.rd, Vs.al, Vs.look, Vs.put, Vs.keepL, Vs.evO, Vs.AV.ofValue, Vs.AV.mk, reduceIte, Nat.reduceEqDiff, Vs.retK, Vs.resL, Vs.resV, Vs.oneOr, Vs.ini, Vs.iniH, Vs.binI, Vs.binBool, true_and, Vs.conv, Vs.blksO, Vs.hlook, Vs.callL, Vs.borN, Vs.mapO, List.map, List.flatMap_nil, List.append_nil, List.nil_append, Vs.rn, Vs.aftL, Vs.newsL, Vs.oldsL, Option.getD_some, Option.getD_none, Vs.nodupB, List.length_map, eI_len, Int.toNat_natCast, Nat.zero_add, Bool.false_eq_true, Vs.idxN, Vs.convB, Option.bind_some, Vs.Blk.fz, eI_take, Vs.AV.has, Vs.phi, List.length_nil, List.length_cons, List.length_nil, Nat.le_refl, Nat.lt_irrefl, Nat.reduceLT, Nat.reduceLeDiff, Nat.reduceAdd, Vs.rnB, Option.map_some, List.cons_append, Vs.frz, Vs.aftF, false_and, Vs.Name.t.injEq, reduceCtorEq, and_true, and_false, Vs.cellsO, Vs.oneB, Value.oneCell', List.all_cons, List.all_nil, Bool.and_self, Vs.Blk.row, List.drop, List.take, List.headD, Vs.Blk.setRow, Vs.lay, Vs.hset, Vs.binStr, Nat.add_zero, List.set, List.all, Vs.Blk.has, Vs.hasL, Vs.isClo, Vs.isCloL, Ld.t53, Vs.rowsOf, eT_len, eT_take]
  refine SemW.loop (drawn_ok Try.mixed) (fun i : { i : Nat // i ≤ xs.length } => ⟨[(0, .sl 2 (eT xs)), (3, .v (.int .i64 (sumT (xs.take i.1)))), (4, .v (.int .i64 i.1))], []⟩) (fun i => xs.length - i.1) ⟨0, by simp⟩ ?_ ?_
  · simp [LeL, Vs.look, sumT]
  · rintro ⟨i, hi⟩
    simp -dsimp only [Vs.wpc, Vs.vc, Vs.stepA, Vs.rd, Vs.al, Vs.look, Vs.put, Vs.keepL, Vs.evO, Vs.AV.ofValue, Vs.AV.mk, reduceIte, Nat.reduceEqDiff, Vs.retK, Vs.resL, Vs.resV, Vs.oneOr, Vs.ini, Vs.iniH, Vs.binI, Vs.binBool, true_and, Vs.conv, Vs.blksO, Vs.hlook, Vs.callL, Vs.borN, Vs.mapO, List.map, List.flatMap_nil, List.append_nil, List.nil_append, Vs.rn, Vs.aftL, Vs.newsL, Vs.oldsL, Option.getD_some, Option.getD_none, Vs.nodupB, List.length_map, eI_len, Int.toNat_natCast, Nat.zero_add, Bool.false_eq_true, Vs.idxN, Vs.convB, Option.bind_some, Vs.Blk.fz, eI_take, Vs.AV.has, Vs.phi, List.length_nil, List.length_cons, List.length_nil, Nat.le_refl, Nat.lt_irrefl, Nat.reduceLT, Nat.reduceLeDiff, Nat.reduceAdd, Vs.rnB, Option.map_some, List.cons_append, Vs.frz, Vs.aftF, false_and, Vs.Name.t.injEq, reduceCtorEq, and_true, and_false, Vs.cellsO, Vs.oneB, Value.oneCell', List.all_cons, List.all_nil, Bool.and_self, Vs.Blk.row, List.drop, List.take, List.headD, Vs.Blk.setRow, Vs.lay, Vs.hset, Vs.binStr, Nat.add_zero, List.set, List.all, Vs.Blk.has, Vs.hasL, Vs.isClo, Vs.isCloL, Ld.t53, Vs.rowsOf, eT_len, eT_take]
    refine ⟨fun h => ?_, fun h => ?_⟩
    · have hlt : i < xs.length := by simpa using h
      have hw : IntKind.i64.wrap ((i : Int) + 1) = ((i + 1 : Nat) : Int) := by rw [wrap_in (by omega) (by omega)]; omega
      simp only [eT_get xs i hlt]
      simp -dsimp only [Vs.wpc, Vs.vc, Vs.stepA, Vs.rd, Vs.al, Vs.look, Vs.put, Vs.keepL, Vs.evO, Vs.AV.ofValue, Vs.AV.mk, reduceIte, Nat.reduceEqDiff, Vs.retK, Vs.resL, Vs.resV, Vs.oneOr, Vs.ini, Vs.iniH, Vs.binI, Vs.binBool, true_and, Vs.conv, Vs.blksO, Vs.hlook, Vs.callL, Vs.borN, Vs.mapO, List.map, List.flatMap_nil, List.append_nil, List.nil_append, Vs.rn, Vs.aftL, Vs.newsL, Vs.oldsL, Option.getD_some, Option.getD_none, Vs.nodupB, List.length_map, eI_len, Int.toNat_natCast, Nat.zero_add, Bool.false_eq_true, Vs.idxN, Vs.convB, Option.bind_some, Vs.Blk.fz, eI_take, Vs.AV.has, Vs.phi, List.length_nil, List.length_cons, List.length_nil, Nat.le_refl, Nat.lt_irrefl, Nat.reduceLT, Nat.reduceLeDiff, Nat.reduceAdd, Vs.rnB, Option.map_some, List.cons_append, Vs.frz, Vs.aftF, false_and, Vs.Name.t.injEq, reduceCtorEq, and_true, and_false, Vs.cellsO, Vs.oneB, Value.oneCell', List.all_cons, List.all_nil, Bool.and_self, Vs.Blk.row, List.drop, List.take, List.headD, Vs.Blk.setRow, Vs.lay, Vs.hset, Vs.binStr, Nat.add_zero, List.set, List.all, Vs.Blk.has, Vs.hasL, Vs.isClo, Vs.isCloL, Ld.t53, Vs.rowsOf, eT_len, eT_take]
      refine ⟨by omega, ⟨i + 1, by omega⟩, by simp [LeL, Vs.look, hw, sum_step xs i hlt], by show xs.length - (i + 1) < xs.length - i; omega⟩
    · have hge : i = xs.length := by
        have : ¬ i < xs.length := by simpa using h
        omega
      subst hge
      simp

theorem impl_SumOfTotals (xs : List (ByteArray × Int)) (hx : xs.length ≤ 1048576) : Vs.Fn Try.prog F.impl_SumOfTotals [] [.sl 2 (eT xs)] (.v (.int .i64 (sumT xs))) [] := by
  refine Cd.impl_SumOfTotals_ok.fn Try.mixed _ _ [] [] Cd.impl_SumOfTotals_nt Cd.impl_SumOfTotals_rs rfl (by simp) rfl (by simp) fun X => ?_
  unfold Cd.impl_SumOfTotals
  simp -dsimp only [Vs.wpc, Vs.vc, Vs.stepA, Vs.rd, Vs.al, Vs.look, Vs.put, Vs.keepL, Vs.evO, Vs.AV.ofValue, Vs.AV.mk, reduceIte, Nat.reduceEqDiff, Vs.retK, Vs.resL, Vs.resV, Vs.oneOr, Vs.ini, Vs.iniH, Vs.binI, Vs.binBool, true_and, Vs.conv, Vs.blksO, Vs.hlook, Vs.callL, Vs.borN, Vs.mapO, List.map, List.flatMap_nil, List.append_nil, List.nil_append, Vs.rn, Vs.aftL, Vs.newsL, Vs.oldsL, Option.getD_some, Option.getD_none, Vs.nodupB, List.length_map, eI_len, Int.toNat_natCast, Nat.zero_add, Bool.false_eq_true, Vs.idxN, Vs.convB, Option.bind_some, Vs.Blk.fz, eI_take, Vs.AV.has, Vs.phi, List.length_nil, List.length_cons, List.length_nil, Nat.le_refl, Nat.lt_irrefl, Nat.reduceLT, Nat.reduceLeDiff, Nat.reduceAdd, Vs.rnB, Option.map_some, List.cons_append, Vs.frz, Vs.aftF, false_and, Vs.Name.t.injEq, reduceCtorEq, and_true, and_false, Vs.cellsO, Vs.oneB, Value.oneCell', List.all_cons, List.all_nil, Bool.and_self, Vs.Blk.row, List.drop, List.take, List.headD, Vs.Blk.setRow, Vs.lay, Vs.hset, Vs.binStr, Nat.add_zero, List.set, List.all, Vs.Blk.has, Vs.hasL, Vs.isClo, Vs.isCloL, Ld.t53, Vs.rowsOf, eT_len, eT_take]
  refine SemW.loop (drawn_ok Try.mixed) (fun i : { i : Nat // i ≤ xs.length } => ⟨[(3, .v (.int .i64 (sumT (xs.take i.1)))), (6, .sl 2 (eT xs)), (7, .v (.int .i64 xs.length)), (8, .v (.int .i64 i.1))], []⟩) (fun i => xs.length - i.1) ⟨0, by simp⟩ ?_ ?_
  · simp [LeL, Vs.look, sumT]
  · rintro ⟨i, hi⟩
    simp -dsimp only [Vs.wpc, Vs.vc, Vs.stepA, Vs.rd, Vs.al, Vs.look, Vs.put, Vs.keepL, Vs.evO, Vs.AV.ofValue, Vs.AV.mk, reduceIte, Nat.reduceEqDiff, Vs.retK, Vs.resL, Vs.resV, Vs.oneOr, Vs.ini, Vs.iniH, Vs.binI, Vs.binBool, true_and, Vs.conv, Vs.blksO, Vs.hlook, Vs.callL, Vs.borN, Vs.mapO, List.map, List.flatMap_nil, List.append_nil, List.nil_append, Vs.rn, Vs.aftL, Vs.newsL, Vs.oldsL, Option.getD_some, Option.getD_none, Vs.nodupB, List.length_map, eI_len, Int.toNat_natCast, Nat.zero_add, Bool.false_eq_true, Vs.idxN, Vs.convB, Option.bind_some, Vs.Blk.fz, eI_take, Vs.AV.has, Vs.phi, List.length_nil, List.length_cons, List.length_nil, Nat.le_refl, Nat.lt_irrefl, Nat.reduceLT, Nat.reduceLeDiff, Nat.reduceAdd, Vs.rnB, Option.map_some, List.cons_append, Vs.frz, Vs.aftF, false_and, Vs.Name.t.injEq, reduceCtorEq, and_true, and_false, Vs.cellsO, Vs.oneB, Value.oneCell', List.all_cons, List.all_nil, Bool.and_self, Vs.Blk.row, List.drop, List.take, List.headD, Vs.Blk.setRow, Vs.lay, Vs.hset, Vs.binStr, Nat.add_zero, List.set, List.all, Vs.Blk.has, Vs.hasL, Vs.isClo, Vs.isCloL, Ld.t53, Vs.rowsOf, eT_len, eT_take]
    refine ⟨fun h => ?_, fun h => ?_⟩
    · have hlt : i < xs.length := by simpa using h
      have hw : IntKind.i64.wrap ((i : Int) + 1) = ((i + 1 : Nat) : Int) := by rw [wrap_in (by omega) (by omega)]; omega
      simp only [eT_get xs i hlt]
      simp -dsimp only [Vs.wpc, Vs.vc, Vs.stepA, Vs.rd, Vs.al, Vs.look, Vs.put, Vs.keepL, Vs.evO, Vs.AV.ofValue, Vs.AV.mk, reduceIte, Nat.reduceEqDiff, Vs.retK, Vs.resL, Vs.resV, Vs.oneOr, Vs.ini, Vs.iniH, Vs.binI, Vs.binBool, true_and, Vs.conv, Vs.blksO, Vs.hlook, Vs.callL, Vs.borN, Vs.mapO, List.map, List.flatMap_nil, List.append_nil, List.nil_append, Vs.rn, Vs.aftL, Vs.newsL, Vs.oldsL, Option.getD_some, Option.getD_none, Vs.nodupB, List.length_map, eI_len, Int.toNat_natCast, Nat.zero_add, Bool.false_eq_true, Vs.idxN, Vs.convB, Option.bind_some, Vs.Blk.fz, eI_take, Vs.AV.has, Vs.phi, List.length_nil, List.length_cons, List.length_nil, Nat.le_refl, Nat.lt_irrefl, Nat.reduceLT, Nat.reduceLeDiff, Nat.reduceAdd, Vs.rnB, Option.map_some, List.cons_append, Vs.frz, Vs.aftF, false_and, Vs.Name.t.injEq, reduceCtorEq, and_true, and_false, Vs.cellsO, Vs.oneB, Value.oneCell', List.all_cons, List.all_nil, Bool.and_self, Vs.Blk.row, List.drop, List.take, List.headD, Vs.Blk.setRow, Vs.lay, Vs.hset, Vs.binStr, Nat.add_zero, List.set, List.all, Vs.Blk.has, Vs.hasL, Vs.isClo, Vs.isCloL, Ld.t53, Vs.rowsOf, eT_len, eT_take]
      refine ⟨by omega, ⟨rfl, rfl⟩, rfl, ⟨i + 1, by omega⟩, by simp [LeL, Vs.look, hw, sum_step xs i hlt], by show xs.length - (i + 1) < xs.length - i; omega⟩
    · have hge : i = xs.length := by
        have : ¬ i < xs.length := by simpa using h
        omega
      subst hge
      simp
end Go.Proofs.Ytknoeihaonblbaa
