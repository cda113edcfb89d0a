/-
  Contracts of the functions that look up a total by its name. Conditions: those of each theorem.
-/
import Derived.Test.YtknoeihaonblbaaYtL
namespace Go.Proofs.Ytknoeihaonblbaa
open Go.Vs Go.ChangeShapes Go.WideShapes Go.ChangeAt Go.RowKit
set_option linter.unusedSimpArgs false
set_option maxHeartbeats 1000000

def isN (s : ByteArray) (p : ByteArray × Int) : Bool := p.1.toList == s.toList
def tN (xs : List (ByteArray × Int)) (s : ByteArray) : Int × Int := match xs.find? (isN s) with | some p => (p.2, 0) | none => (0, 3)
theorem allT_step {xs : List (ByteArray × Int)} {q : ByteArray × Int → Bool} {i : Nat} (hi : i < xs.length) (h : (xs.take i).all q = true) (hp : q xs[i] = true) : (xs.take (i + 1)).all q = true := by
  rw [List.take_add_one, List.getElem?_eq_getElem hi]
  simp only [Option.toList_some, List.all_append, List.all_cons, List.all_nil, h, hp, Bool.and_true]
theorem tN_some {xs : List (ByteArray × Int)} {s : ByteArray} {i : Nat} (hi : i < xs.length) (h : (xs.take i).all (fun p => !isN s p) = true) (hp : isN s xs[i] = true) : tN xs s = (xs[i].2, 0) := by
  have : xs.find? (isN s) = some xs[i] := by
    rw [List.find?_eq_some_iff_getElem]
    refine ⟨hp, i, hi, rfl, fun j hj => ?_⟩
    have := List.all_eq_true.1 h xs[j] (by
      rw [List.mem_take_iff_getElem]
      exact ⟨j, by omega, rfl⟩)
    exact this
  simp [tN, this]
theorem tN_none {xs : List (ByteArray × Int)} {s : ByteArray} (h : xs.all (fun p => !isN s p) = true) : tN xs s = (0, 3) := by
  have : xs.find? (isN s) = none := by
    rw [List.find?_eq_none]
    intro x hx
    have := List.all_eq_true.1 h x hx
    simpa using this
  simp [tN, this]

theorem spec_TotalNamed (xs : List (ByteArray × Int)) (s : ByteArray) (hx : xs.length ≤ 1048576) : Vs.Fn Try.prog F.spec_TotalNamed [] [.sl 2 (eT xs), .v (.string s)] (.tup [.v (.int .i64 (tN xs s).1), .v (.int .i64 (tN xs s).2)]) [] := by
  refine Cd.spec_TotalNamed_ok.fn Try.mixed _ _ [] [] Cd.spec_TotalNamed_nt Cd.spec_TotalNamed_rs rfl (by simp) rfl (by simp) fun X => ?_
  unfold Cd.spec_TotalNamed
  simp -dsimp only [Vs.wpc, Vs.vc, Vs.stepA, Vs.rd, Vs.al, Vs.look, Vs.put, Vs.keepL, Vs.evO, Vs.AV.ofValue, Vs.AV.mk, reduceIte, Nat.reduceEqDiff, Vs.retK, Vs.resL, Vs.resV, Vs.oneOr, Vs.ini, Vs.iniH, Vs.binI, Vs.binBool, true_and, Vs.conv, Vs.blksO, Vs.hlook, Vs.callL, Vs.borN, Vs.mapO, List.map, List.flatMap_nil, List.append_nil, List.nil_append, Vs.rn, Vs.aftL, Vs.newsL, Vs.oldsL, Option.getD_some, Option.getD_none, Vs.nodupB, List.length_map, eI_len, Int.toNat_natCast, Nat.zero_add, Bool.false_eq_true, Vs.idxN, Vs.convB, Option.bind_some, Vs.Blk.fz, eI_take, Vs.AV.has, Vs.phi, List.length_nil, List.length_cons, List.length_nil, Nat.le_refl, Nat.lt_irrefl, Nat.reduceLT, Nat.reduceLeDiff, Nat.reduceAdd, Vs.rnB, Option.map_some, List.cons_append, Vs.frz, Vs.aftF, false_and, Vs.Name.t.injEq, reduceCtorEq, and_true, and_false, Vs.cellsO, Vs.oneB, Value.oneCell', List.all_cons, List.all_nil, Bool.and_self, Vs.Blk.row, List.drop, List.take, List.headD, Vs.Blk.setRow, Vs.lay, Vs.hset, Vs.binStr, Nat.add_zero, List.set, List.all, Vs.Blk.has, Vs.hasL, Vs.isClo, Vs.isCloL, Ld.t53, Vs.rowsOf, eT_len, eT_take, Vs.rnL, eT_take2]
  refine SemW.loop (drawn_ok Try.mixed) (fun i : { i : Nat // i ≤ xs.length ∧ (xs.take i).all (fun p => !isN s p) = true } => ⟨[(0, .sl 2 (eT xs)), (1, .v (.string s)), (6, .v (.int .i64 i.1))], []⟩) (fun i => xs.length - i.1) ⟨0, by simp⟩ ?_ ?_
  · simp [LeL, Vs.look]
  · rintro ⟨i, hi, hall⟩
    simp -dsimp only [Vs.wpc, Vs.vc, Vs.stepA, Vs.rd, Vs.al, Vs.look, Vs.put, Vs.keepL, Vs.evO, Vs.AV.ofValue, Vs.AV.mk, reduceIte, Nat.reduceEqDiff, Vs.retK, Vs.resL, Vs.resV, Vs.oneOr, Vs.ini, Vs.iniH, Vs.binI, Vs.binBool, true_and, Vs.conv, Vs.blksO, Vs.hlook, Vs.callL, Vs.borN, Vs.mapO, List.map, List.flatMap_nil, List.append_nil, List.nil_append, Vs.rn, Vs.aftL, Vs.newsL, Vs.oldsL, Option.getD_some, Option.getD_none, Vs.nodupB, List.length_map, eI_len, Int.toNat_natCast, Nat.zero_add, Bool.false_eq_true, Vs.idxN, Vs.convB, Option.bind_some, Vs.Blk.fz, eI_take, Vs.AV.has, Vs.phi, List.length_nil, List.length_cons, List.length_nil, Nat.le_refl, Nat.lt_irrefl, Nat.reduceLT, Nat.reduceLeDiff, Nat.reduceAdd, Vs.rnB, Option.map_some, List.cons_append, Vs.frz, Vs.aftF, false_and, Vs.Name.t.injEq, reduceCtorEq, and_true, and_false, Vs.cellsO, Vs.oneB, Value.oneCell', List.all_cons, List.all_nil, Bool.and_self, Vs.Blk.row, List.drop, List.take, List.headD, Vs.Blk.setRow, Vs.lay, Vs.hset, Vs.binStr, Nat.add_zero, List.set, List.all, Vs.Blk.has, Vs.hasL, Vs.isClo, Vs.isCloL, Ld.t53, Vs.rowsOf, eT_len, eT_take, Vs.rnL, eT_take2]
    refine ⟨fun h => ?_, fun h => ?_⟩
    · have hlt : i < xs.length := by simpa using h
      have hw : IntKind.i64.wrap ((i : Int) + 1) = ((i + 1 : Nat) : Int) := by rw [wrap_in (by omega) (by omega)]; omega
      simp only [eT_get xs i hlt]
      simp -dsimp only [Vs.wpc, Vs.vc, Vs.stepA, Vs.rd, Vs.al, Vs.look, Vs.put, Vs.keepL, Vs.evO, Vs.AV.ofValue, Vs.AV.mk, reduceIte, Nat.reduceEqDiff, Vs.retK, Vs.resL, Vs.resV, Vs.oneOr, Vs.ini, Vs.iniH, Vs.binI, Vs.binBool, true_and, Vs.conv, Vs.blksO, Vs.hlook, Vs.callL, Vs.borN, Vs.mapO, List.map, List.flatMap_nil, List.append_nil, List.nil_append, Vs.rn, Vs.aftL, Vs.newsL, Vs.oldsL, Option.getD_some, Option.getD_none, Vs.nodupB, List.length_map, eI_len, Int.toNat_natCast, Nat.zero_add, Bool.false_eq_true, Vs.idxN, Vs.convB, Option.bind_some, Vs.Blk.fz, eI_take, Vs.AV.has, Vs.phi, List.length_nil, List.length_cons, List.length_nil, Nat.le_refl, Nat.lt_irrefl, Nat.reduceLT, Nat.reduceLeDiff, Nat.reduceAdd, Vs.rnB, Option.map_some, List.cons_append, Vs.frz, Vs.aftF, false_and, Vs.Name.t.injEq, reduceCtorEq, and_true, and_false, Vs.cellsO, Vs.oneB, Value.oneCell', List.all_cons, List.all_nil, Bool.and_self, Vs.Blk.row, List.drop, List.take, List.headD, Vs.Blk.setRow, Vs.lay, Vs.hset, Vs.binStr, Nat.add_zero, List.set, List.all, Vs.Blk.has, Vs.hasL, Vs.isClo, Vs.isCloL, Ld.t53, Vs.rowsOf, eT_len, eT_take, Vs.rnL, eT_take2]
      refine ⟨by omega, fun hb => ?_, fun hb => ?_⟩
      · have := tN_some (s := s) hlt hall hb
        simp only [this]
        exact ⟨by omega, _, _, rfl, rfl⟩
      · exact ⟨⟨i + 1, by omega, allT_step hlt hall (by simpa [isN] using hb)⟩, by simp [LeL, Vs.look, hw], by show xs.length - (i + 1) < xs.length - i; omega⟩
    · have hge : i = xs.length := by
        have : ¬ i < xs.length := by simpa using h
        omega
      subst hge
      have := tN_none (s := s) (by simpa using hall)
      simp [this]

theorem named1 (t : ByteArray) (n : Int) (s : ByteArray) : Vs.Fn Try.prog F.impl_TotalNamed_1 [] [.agg [.v (.string t), .v (.int .i64 n)], .ro [.v (.string s)]] (.v (.bool (isN s (t, n)))) [] := by
  refine Cd.impl_TotalNamed_1_ok.fn Try.mixed _ _ [] [] Cd.impl_TotalNamed_1_nt Cd.impl_TotalNamed_1_rs rfl (by simp) rfl (by simp) fun X => ?_
  unfold Cd.impl_TotalNamed_1
  simp -dsimp only [Vs.wpc, Vs.vc, Vs.stepA, Vs.rd, Vs.al, Vs.look, Vs.put, Vs.keepL, Vs.evO, Vs.AV.ofValue, Vs.AV.mk, reduceIte, Nat.reduceEqDiff, Vs.retK, Vs.resL, Vs.resV, Vs.oneOr, Vs.ini, Vs.iniH, Vs.binI, Vs.binBool, true_and, Vs.conv, Vs.blksO, Vs.hlook, Vs.callL, Vs.borN, Vs.mapO, List.map, List.flatMap_nil, List.append_nil, List.nil_append, Vs.rn, Vs.aftL, Vs.newsL, Vs.oldsL, Option.getD_some, Option.getD_none, Vs.nodupB, List.length_map, eI_len, Int.toNat_natCast, Nat.zero_add, Bool.false_eq_true, Vs.idxN, Vs.convB, Option.bind_some, Vs.Blk.fz, eI_take, Vs.AV.has, Vs.phi, List.length_nil, List.length_cons, List.length_nil, Nat.le_refl, Nat.lt_irrefl, Nat.reduceLT, Nat.reduceLeDiff, Nat.reduceAdd, Vs.rnB, Option.map_some, List.cons_append, Vs.frz, Vs.aftF, false_and, Vs.Name.t.injEq, reduceCtorEq, and_true, and_false, Vs.cellsO, Vs.oneB, Value.oneCell', List.all_cons, List.all_nil, Bool.and_self, Vs.Blk.row, List.drop, List.take, List.headD, Vs.Blk.setRow, Vs.lay, Vs.hset, Vs.binStr, Nat.add_zero, List.set, List.all, Vs.Blk.has, Vs.hasL, Vs.isClo, Vs.isCloL, Ld.t53, Vs.rowsOf, eT_len, eT_take, Vs.rnL, eT_take2]
  exact ⟨⟨rfl, rfl⟩, _, _, rfl, rfl⟩
end Go.Proofs.Ytknoeihaonblbaa
