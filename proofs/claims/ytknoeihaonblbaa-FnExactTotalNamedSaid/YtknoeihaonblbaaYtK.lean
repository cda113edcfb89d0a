/-
  The measure of a list of totals, and the law FnExactSumOfTotals. Conditions: those of each theorem.
-/
import Derived.Test.YtknoeihaonblbaaYtJ
namespace Go.Proofs.Ytknoeihaonblbaa
open Go.Vs Go.ChangeShapes Go.WideShapes Go.ChangeAt Go.RowKit
set_option linter.unusedSimpArgs false
set_option maxHeartbeats 1000000

def szGo : List (ByteArray × Int) → Int → Int
  | [], b => b
  | p :: r, b => if b - p.1.size < 0 then -1 else szGo r (b - p.1.size)
def szT (xs : List (ByteArray × Int)) (b : Int) : Int := if b - xs.length < 0 then -1 else szGo xs (b - xs.length)
theorem szGo_drop (xs : List (ByteArray × Int)) (i : Nat) (h : i < xs.length) (b : Int) : szGo (xs.drop i) b = if b - xs[i].1.size < 0 then -1 else szGo (xs.drop (i + 1)) (b - xs[i].1.size) := by
  rw [List.drop_eq_getElem_cons h]; rfl
theorem szT_len {xs : List (ByteArray × Int)} {b : Int} (hb : b ≤ 1048576) (h : ¬ szT xs b < 0) : xs.length ≤ 1048576 := by
  unfold szT at h
  split at h
  · omega
  · omega

theorem szTotalS (xs : List (ByteArray × Int)) (b : Int) (hb : 0 ≤ b ∧ b ≤ 1048576) (hl : xs.length < 2 ^ 63) (hs : ∀ p, p ∈ xs → p.1.size < 2 ^ 63) :
    Vs.Fn Try.prog F.laws_szTotalS [] [.sl 2 (eT xs), .v (.int .i64 b)] (.v (.int .i64 (szT xs b))) [] := by
  refine Cd.laws_szTotalS_ok.fn Try.mixed _ _ [] [] Cd.laws_szTotalS_nt Cd.laws_szTotalS_rs rfl (by simp) rfl (by simp) fun X => ?_
  unfold Cd.laws_szTotalS
  simp -dsimp only [Vs.wpc, Vs.vc, Vs.stepA, Vs.rd, Vs.al, Vs.look, Vs.put, Vs.keepL, Vs.evO, Vs.AV.ofValue, Vs.AV.mk, reduceIte, Nat.reduceEqDiff, Vs.retK, Vs.resL, Vs.resV, Vs.oneOr, Vs.ini, Vs.iniH, Vs.binI, Vs.binBool, true_and, Vs.conv, Vs.blksO, Vs.hlook, Vs.callL, Vs.borN, Vs.mapO, List.map, List.flatMap_nil, List.append_nil, List.nil_append, Vs.rn, Vs.aftL, Vs.newsL, Vs.oldsL, Option.getD_some, Option.getD_none, Vs.nodupB, List.length_map, eI_len, Int.toNat_natCast, Nat.zero_add, Bool.false_eq_true, Vs.idxN, Vs.convB, Option.bind_some, Vs.Blk.fz, eI_take, Vs.AV.has, Vs.phi, List.length_nil, List.length_cons, List.length_nil, Nat.le_refl, Nat.lt_irrefl, Nat.reduceLT, Nat.reduceLeDiff, Nat.reduceAdd, Vs.rnB, Option.map_some, List.cons_append, Vs.frz, Vs.aftF, false_and, Vs.Name.t.injEq, reduceCtorEq, and_true, and_false, Vs.cellsO, Vs.oneB, Value.oneCell', List.all_cons, List.all_nil, Bool.and_self, Vs.Blk.row, List.drop, List.take, List.headD, Vs.Blk.setRow, Vs.lay, Vs.hset, Vs.binStr, Nat.add_zero, List.set, List.all, Vs.Blk.has, Vs.hasL, Vs.isClo, Vs.isCloL, Ld.t53, Vs.rowsOf, eT_len, eT_take, Vs.rnL]
  have hw0 : IntKind.i64.wrap (b - xs.length) = b - xs.length := wrap_in (by omega) (by omega)
  simp only [hw0]
  refine ⟨fun h => ?_, fun h => ?_⟩
  · have : b - xs.length < 0 := by simpa using h
    simp [szT, this]
  · have h0 : ¬ b - xs.length < 0 := by simpa using h
    have hx : xs.length ≤ 1048576 := by omega
    have hr : szT xs b = szGo xs (b - xs.length) := by simp only [szT, if_neg h0]
    simp only [hr]
    refine SemW.loop (drawn_ok Try.mixed) (fun i : { p : Nat × Int // p.1 ≤ xs.length ∧ (0 ≤ p.2 ∧ p.2 ≤ 1048576) ∧ szGo xs (b - xs.length) = szGo (xs.drop p.1) p.2 } => ⟨[(0, .sl 2 (eT xs)), (1, .v (.int .i64 i.1.2)), (5, .v (.int .i64 i.1.1))], []⟩) (fun i => xs.length - i.1.1) ⟨(0, b - xs.length), by omega, by omega, rfl⟩ ?_ ?_
    · simp [LeL, Vs.look]
    · rintro ⟨⟨i, c⟩, hi, hc, he⟩
      simp -dsimp only [Vs.wpc, Vs.vc, Vs.stepA, Vs.rd, Vs.al, Vs.look, Vs.put, Vs.keepL, Vs.evO, Vs.AV.ofValue, Vs.AV.mk, reduceIte, Nat.reduceEqDiff, Vs.retK, Vs.resL, Vs.resV, Vs.oneOr, Vs.ini, Vs.iniH, Vs.binI, Vs.binBool, true_and, Vs.conv, Vs.blksO, Vs.hlook, Vs.callL, Vs.borN, Vs.mapO, List.map, List.flatMap_nil, List.append_nil, List.nil_append, Vs.rn, Vs.aftL, Vs.newsL, Vs.oldsL, Option.getD_some, Option.getD_none, Vs.nodupB, List.length_map, eI_len, Int.toNat_natCast, Nat.zero_add, Bool.false_eq_true, Vs.idxN, Vs.convB, Option.bind_some, Vs.Blk.fz, eI_take, Vs.AV.has, Vs.phi, List.length_nil, List.length_cons, List.length_nil, Nat.le_refl, Nat.lt_irrefl, Nat.reduceLT, Nat.reduceLeDiff, Nat.reduceAdd, Vs.rnB, Option.map_some, List.cons_append, Vs.frz, Vs.aftF, false_and, Vs.Name.t.injEq, reduceCtorEq, and_true, and_false, Vs.cellsO, Vs.oneB, Value.oneCell', List.all_cons, List.all_nil, Bool.and_self, Vs.Blk.row, List.drop, List.take, List.headD, Vs.Blk.setRow, Vs.lay, Vs.hset, Vs.binStr, Nat.add_zero, List.set, List.all, Vs.Blk.has, Vs.hasL, Vs.isClo, Vs.isCloL, Ld.t53, Vs.rowsOf, eT_len, eT_take, Vs.rnL]
      refine ⟨fun h => ?_, fun h => ?_⟩
      · have hlt : i < xs.length := by simpa using h
        have hw : IntKind.i64.wrap ((i : Int) + 1) = ((i + 1 : Nat) : Int) := by rw [wrap_in (by omega) (by omega)]; omega
        simp only [eT_get xs i hlt]
        simp -dsimp only [Vs.wpc, Vs.vc, Vs.stepA, Vs.rd, Vs.al, Vs.look, Vs.put, Vs.keepL, Vs.evO, Vs.AV.ofValue, Vs.AV.mk, reduceIte, Nat.reduceEqDiff, Vs.retK, Vs.resL, Vs.resV, Vs.oneOr, Vs.ini, Vs.iniH, Vs.binI, Vs.binBool, true_and, Vs.conv, Vs.blksO, Vs.hlook, Vs.callL, Vs.borN, Vs.mapO, List.map, List.flatMap_nil, List.append_nil, List.nil_append, Vs.rn, Vs.aftL, Vs.newsL, Vs.oldsL, Option.getD_some, Option.getD_none, Vs.nodupB, List.length_map, eI_len, Int.toNat_natCast, Nat.zero_add, Bool.false_eq_true, Vs.idxN, Vs.convB, Option.bind_some, Vs.Blk.fz, eI_take, Vs.AV.has, Vs.phi, List.length_nil, List.length_cons, List.length_nil, Nat.le_refl, Nat.lt_irrefl, Nat.reduceLT, Nat.reduceLeDiff, Nat.reduceAdd, Vs.rnB, Option.map_some, List.cons_append, Vs.frz, Vs.aftF, false_and, Vs.Name.t.injEq, reduceCtorEq, and_true, and_false, Vs.cellsO, Vs.oneB, Value.oneCell', List.all_cons, List.all_nil, Bool.and_self, Vs.Blk.row, List.drop, List.take, List.headD, Vs.Blk.setRow, Vs.lay, Vs.hset, Vs.binStr, Nat.add_zero, List.set, List.all, Vs.Blk.has, Vs.hasL, Vs.isClo, Vs.isCloL, Ld.t53, Vs.rowsOf, eT_len, eT_take, Vs.rnL]
        simp only at hi hc he
        rw [szGo_drop xs i hlt] at he
        refine ⟨by omega, _, _, false, szTotal _ _ _ hc (hs _ (List.getElem_mem hlt)), by simp, rfl, ?_⟩
        by_cases hn : c - xs[i].1.size < 0
        · simp only [if_pos hn] at he ⊢
          simp -dsimp only [Vs.wpc, Vs.vc, Vs.stepA, Vs.rd, Vs.al, Vs.look, Vs.put, Vs.keepL, Vs.evO, Vs.AV.ofValue, Vs.AV.mk, reduceIte, Nat.reduceEqDiff, Vs.retK, Vs.resL, Vs.resV, Vs.oneOr, Vs.ini, Vs.iniH, Vs.binI, Vs.binBool, true_and, Vs.conv, Vs.blksO, Vs.hlook, Vs.callL, Vs.borN, Vs.mapO, List.map, List.flatMap_nil, List.append_nil, List.nil_append, Vs.rn, Vs.aftL, Vs.newsL, Vs.oldsL, Option.getD_some, Option.getD_none, Vs.nodupB, List.length_map, eI_len, Int.toNat_natCast, Nat.zero_add, Bool.false_eq_true, Vs.idxN, Vs.convB, Option.bind_some, Vs.Blk.fz, eI_take, Vs.AV.has, Vs.phi, List.length_nil, List.length_cons, List.length_nil, Nat.le_refl, Nat.lt_irrefl, Nat.reduceLT, Nat.reduceLeDiff, Nat.reduceAdd, Vs.rnB, Option.map_some, List.cons_append, Vs.frz, Vs.aftF, false_and, Vs.Name.t.injEq, reduceCtorEq, and_true, and_false, Vs.cellsO, Vs.oneB, Value.oneCell', List.all_cons, List.all_nil, Bool.and_self, Vs.Blk.row, List.drop, List.take, List.headD, Vs.Blk.setRow, Vs.lay, Vs.hset, Vs.binStr, Nat.add_zero, List.set, List.all, Vs.Blk.has, Vs.hasL, Vs.isClo, Vs.isCloL, Ld.t53, Vs.rowsOf, eT_len, eT_take, Vs.rnL]
          refine ⟨fun _ => ?_, fun h => by simp at h⟩
          simp [he]
        · simp only [if_neg hn] at he ⊢
          simp -dsimp only [Vs.wpc, Vs.vc, Vs.stepA, Vs.rd, Vs.al, Vs.look, Vs.put, Vs.keepL, Vs.evO, Vs.AV.ofValue, Vs.AV.mk, reduceIte, Nat.reduceEqDiff, Vs.retK, Vs.resL, Vs.resV, Vs.oneOr, Vs.ini, Vs.iniH, Vs.binI, Vs.binBool, true_and, Vs.conv, Vs.blksO, Vs.hlook, Vs.callL, Vs.borN, Vs.mapO, List.map, List.flatMap_nil, List.append_nil, List.nil_append, Vs.rn, Vs.aftL, Vs.newsL, Vs.oldsL, Option.getD_some, Option.getD_none, Vs.nodupB, List.length_map, eI_len, Int.toNat_natCast, Nat.zero_add, Bool.false_eq_true, Vs.idxN, Vs.convB, Option.bind_some, Vs.Blk.fz, eI_take, Vs.AV.has, Vs.phi, List.length_nil, List.length_cons, List.length_nil, Nat.le_refl, Nat.lt_irrefl, Nat.reduceLT, Nat.reduceLeDiff, Nat.reduceAdd, Vs.rnB, Option.map_some, List.cons_append, Vs.frz, Vs.aftF, false_and, Vs.Name.t.injEq, reduceCtorEq, and_true, and_false, Vs.cellsO, Vs.oneB, Value.oneCell', List.all_cons, List.all_nil, Bool.and_self, Vs.Blk.row, List.drop, List.take, List.headD, Vs.Blk.setRow, Vs.lay, Vs.hset, Vs.binStr, Nat.add_zero, List.set, List.all, Vs.Blk.has, Vs.hasL, Vs.isClo, Vs.isCloL, Ld.t53, Vs.rowsOf, eT_len, eT_take, Vs.rnL]
          refine ⟨fun h => absurd (by simpa using h) hn, fun _ => ⟨⟨(i + 1, c - xs[i].1.size), by simp only; omega, by simp only; omega, he⟩, by simp [LeL, Vs.look, hw], by show xs.length - (i + 1) < xs.length - i; omega⟩⟩
      · have hge : i = xs.length := by
          have : ¬ i < xs.length := by simpa using h
          simp only at hi
          omega
        subst hge
        simp only [List.drop_length, szGo] at he
        simp [he]
end Go.Proofs.Ytknoeihaonblbaa
