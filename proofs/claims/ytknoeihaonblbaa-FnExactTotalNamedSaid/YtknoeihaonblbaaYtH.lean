/-
  Contracts of the functions that turn, compare and measure one total. Conditions: those of each theorem.
-/
import Derived.Test.YtknoeihaonblbaaYtD
namespace Go.Proofs.Ytknoeihaonblbaa
open Go.Vs Go.ChangeShapes Go.WideShapes Go.ChangeAt Go.RowKit
set_option linter.unusedSimpArgs false
set_option maxHeartbeats 1000000

def cT (p : ByteArray × Int) : List AV := [.v (.string p.1), .v (.int .i64 p.2)]
def eT (xs : List (ByteArray × Int)) : List (List AV) := xs.map cT

theorem toTotal (s : ByteArray) (n : Int) : Vs.Fn Try.prog F.laws_toTotal [] [.agg [.v (.string s), .v (.int .i64 n)]] (.agg [.v (.string s), .v (.int .i64 n)]) [] := by
  refine Cd.laws_toTotal_ok.fn Try.mixed _ _ [] [] Cd.laws_toTotal_nt Cd.laws_toTotal_rs rfl (by simp) rfl (by simp) fun X => ?_
  unfold Cd.laws_toTotal
  simp -dsimp only [Vs.wpc, Vs.vc, Vs.stepA, Vs.rd, Vs.al, Vs.look, Vs.put, Vs.keepL, Vs.evO, Vs.AV.ofValue, Vs.AV.mk, reduceIte, Nat.reduceEqDiff, Vs.retK, Vs.resL, Vs.resV, Vs.oneOr, Vs.ini, Vs.iniH, Vs.binI, Vs.binBool, true_and, Vs.conv, Vs.blksO, Vs.hlook, Vs.callL, Vs.borN, Vs.mapO, List.map, List.flatMap_nil, List.append_nil, List.nil_append, Vs.rn, Vs.aftL, Vs.newsL, Vs.oldsL, Option.getD_some, Option.getD_none, Vs.nodupB, List.length_map, eI_len, Int.toNat_natCast, Nat.zero_add, Bool.false_eq_true, Vs.idxN, Vs.convB, Option.bind_some, Vs.Blk.fz, eI_take, Vs.AV.has, Vs.phi, List.length_nil, List.length_cons, List.length_nil, Nat.le_refl, Nat.lt_irrefl, Nat.reduceLT, Nat.reduceLeDiff, Nat.reduceAdd, Vs.rnB, Option.map_some, List.cons_append, Vs.frz, Vs.aftF, false_and, Vs.Name.t.injEq, reduceCtorEq, and_true, and_false, Vs.cellsO, Vs.oneB, Value.oneCell', List.all_cons, List.all_nil, Bool.and_self, Vs.Blk.row, List.drop, List.take, List.headD, Vs.Blk.setRow, Vs.lay, Vs.hset, Vs.binStr, Nat.add_zero, List.set, List.all, Vs.Blk.has, Vs.hasL, Vs.isClo, Vs.isCloL, Ld.t53, Vs.rowsOf]
  exact ⟨⟨rfl, rfl⟩, ⟨rfl, rfl⟩, ⟨rfl, rfl⟩, rfl, rfl, rfl, _, _, rfl, rfl⟩

theorem eqTotal (s s' : ByteArray) (n n' : Int) : Vs.Fn Try.prog F.laws_eqTotal [] [.agg [.v (.string s), .v (.int .i64 n)], .agg [.v (.string s'), .v (.int .i64 n')]] (.v (.bool (s.toList == s'.toList && n == n'))) [] := by
  refine Cd.laws_eqTotal_ok.fn Try.mixed _ _ [] [] Cd.laws_eqTotal_nt Cd.laws_eqTotal_rs rfl (by simp) rfl (by simp) fun X => ?_
  unfold Cd.laws_eqTotal
  simp -dsimp only [Vs.wpc, Vs.vc, Vs.stepA, Vs.rd, Vs.al, Vs.look, Vs.put, Vs.keepL, Vs.evO, Vs.AV.ofValue, Vs.AV.mk, reduceIte, Nat.reduceEqDiff, Vs.retK, Vs.resL, Vs.resV, Vs.oneOr, Vs.ini, Vs.iniH, Vs.binI, Vs.binBool, true_and, Vs.conv, Vs.blksO, Vs.hlook, Vs.callL, Vs.borN, Vs.mapO, List.map, List.flatMap_nil, List.append_nil, List.nil_append, Vs.rn, Vs.aftL, Vs.newsL, Vs.oldsL, Option.getD_some, Option.getD_none, Vs.nodupB, List.length_map, eI_len, Int.toNat_natCast, Nat.zero_add, Bool.false_eq_true, Vs.idxN, Vs.convB, Option.bind_some, Vs.Blk.fz, eI_take, Vs.AV.has, Vs.phi, List.length_nil, List.length_cons, List.length_nil, Nat.le_refl, Nat.lt_irrefl, Nat.reduceLT, Nat.reduceLeDiff, Nat.reduceAdd, Vs.rnB, Option.map_some, List.cons_append, Vs.frz, Vs.aftF, false_and, Vs.Name.t.injEq, reduceCtorEq, and_true, and_false, Vs.cellsO, Vs.oneB, Value.oneCell', List.all_cons, List.all_nil, Bool.and_self, Vs.Blk.row, List.drop, List.take, List.headD, Vs.Blk.setRow, Vs.lay, Vs.hset, Vs.binStr, Nat.add_zero, List.set, List.all, Vs.Blk.has, Vs.hasL, Vs.isClo, Vs.isCloL, Ld.t53, Vs.rowsOf]
  refine ⟨⟨rfl, rfl⟩, ⟨rfl, rfl⟩, fun h => ?_, fun h => ?_⟩
  · have : (s.toList == s'.toList) = false := by simpa using h
    simp [this]
  · have : (s.toList == s'.toList) = true := by simpa using h
    refine ⟨fun h2 => ?_, fun h2 => ?_⟩
    · have : (n == n') = false := by simpa using h2
      simp [this]
    · have : n = n' := by simpa using h2
      simp_all

theorem szTotal (s : ByteArray) (n b : Int) (hb : 0 ≤ b ∧ b ≤ 1048576) (hs : s.size < 2 ^ 63) : Vs.Fn Try.prog F.laws_szTotal [] [.agg [.v (.string s), .v (.int .i64 n)], .v (.int .i64 b)] (.v (.int .i64 (if b - s.size < 0 then -1 else b - s.size))) [] := by
  refine Cd.laws_szTotal_ok.fn Try.mixed _ _ [] [] Cd.laws_szTotal_nt Cd.laws_szTotal_rs rfl (by simp) rfl (by simp) fun X => ?_
  unfold Cd.laws_szTotal
  simp -dsimp only [Vs.wpc, Vs.vc, Vs.stepA, Vs.rd, Vs.al, Vs.look, Vs.put, Vs.keepL, Vs.evO, Vs.AV.ofValue, Vs.AV.mk, reduceIte, Nat.reduceEqDiff, Vs.retK, Vs.resL, Vs.resV, Vs.oneOr, Vs.ini, Vs.iniH, Vs.binI, Vs.binBool, true_and, Vs.conv, Vs.blksO, Vs.hlook, Vs.callL, Vs.borN, Vs.mapO, List.map, List.flatMap_nil, List.append_nil, List.nil_append, Vs.rn, Vs.aftL, Vs.newsL, Vs.oldsL, Option.getD_some, Option.getD_none, Vs.nodupB, List.length_map, eI_len, Int.toNat_natCast, Nat.zero_add, Bool.false_eq_true, Vs.idxN, Vs.convB, Option.bind_some, Vs.Blk.fz, eI_take, Vs.AV.has, Vs.phi, List.length_nil, List.length_cons, List.length_nil, Nat.le_refl, Nat.lt_irrefl, Nat.reduceLT, Nat.reduceLeDiff, Nat.reduceAdd, Vs.rnB, Option.map_some, List.cons_append, Vs.frz, Vs.aftF, false_and, Vs.Name.t.injEq, reduceCtorEq, and_true, and_false, Vs.cellsO, Vs.oneB, Value.oneCell', List.all_cons, List.all_nil, Bool.and_self, Vs.Blk.row, List.drop, List.take, List.headD, Vs.Blk.setRow, Vs.lay, Vs.hset, Vs.binStr, Nat.add_zero, List.set, List.all, Vs.Blk.has, Vs.hasL, Vs.isClo, Vs.isCloL, Ld.t53, Vs.rowsOf]
  have hw : IntKind.i64.wrap (b - s.size) = b - s.size := wrap_in (by omega) (by omega)
  simp only [hw]
  refine ⟨⟨rfl, rfl⟩, fun h => ?_, fun h => ?_⟩
  · have : b - s.size < 0 := by simpa using h
    simp [this]
  · have : ¬ b - s.size < 0 := by simpa using h
    simp [this]
end Go.Proofs.Ytknoeihaonblbaa
