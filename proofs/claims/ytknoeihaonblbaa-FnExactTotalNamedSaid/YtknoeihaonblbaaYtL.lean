/-
  The law FnExactSumOfTotals returns true for every input, and its argument reads behind the call as it read before. Conditions: none beyond the given statement (Rows.FnExactSumOfTotalsSaid).
-/
import Derived.Test.YtknoeihaonblbaaYtK
namespace Go.Proofs.Ytknoeihaonblbaa
open Go.Vs Go.ChangeShapes Go.WideShapes Go.ChangeAt Go.RowKit
set_option linter.unusedSimpArgs false
set_option maxHeartbeats 1000000

theorem eT_take2 (xs : List (ByteArray × Int)) : (eT xs).take xs.length = eT xs := List.take_of_length_le (by simp [eT])

theorem laws_SumOfTotals (xs : List (ByteArray × Int)) (hl : xs.length < 2 ^ 63) (hs : ∀ p, p ∈ xs → p.1.size < 2 ^ 63) : Vs.Fn Try.prog F.laws_FnExactSumOfTotals [] [.sl 2 (eT xs)] (.v (.bool true)) [] := by
  refine Cd.laws_FnExactSumOfTotals_ok.fn Try.mixed _ _ [] [] Cd.laws_FnExactSumOfTotals_nt Cd.laws_FnExactSumOfTotals_rs rfl (by simp) rfl (by simp) fun X => ?_
  unfold Cd.laws_FnExactSumOfTotals
  simp -dsimp only [Vs.wpc, Vs.vc, Vs.stepA, Vs.rd, Vs.al, Vs.look, Vs.put, Vs.keepL, Vs.evO, Vs.AV.ofValue, Vs.AV.mk, reduceIte, Nat.reduceEqDiff, Vs.retK, Vs.resL, Vs.resV, Vs.oneOr, Vs.ini, Vs.iniH, Vs.binI, Vs.binBool, true_and, Vs.conv, Vs.blksO, Vs.hlook, Vs.callL, Vs.borN, Vs.mapO, List.map, List.flatMap_nil, List.append_nil, List.nil_append, Vs.rn, Vs.aftL, Vs.newsL, Vs.oldsL, Option.getD_some, Option.getD_none, Vs.nodupB, List.length_map, eI_len, Int.toNat_natCast, Nat.zero_add, Bool.false_eq_true, Vs.idxN, Vs.convB, Option.bind_some, Vs.Blk.fz, eI_take, Vs.AV.has, Vs.phi, List.length_nil, List.length_cons, List.length_nil, Nat.le_refl, Nat.lt_irrefl, Nat.reduceLT, Nat.reduceLeDiff, Nat.reduceAdd, Vs.rnB, Option.map_some, List.cons_append, Vs.frz, Vs.aftF, false_and, Vs.Name.t.injEq, reduceCtorEq, and_true, and_false, Vs.cellsO, Vs.oneB, Value.oneCell', List.all_cons, List.all_nil, Bool.and_self, Vs.Blk.row, List.drop, List.take, List.headD, Vs.Blk.setRow, Vs.lay, Vs.hset, Vs.binStr, Nat.add_zero, List.set, List.all, Vs.Blk.has, Vs.hasL, Vs.isClo, Vs.isCloL, Ld.t53, Vs.rowsOf, eT_len, eT_take, Vs.rnL, eT_take2]
  refine ⟨_, _, false, szTotalS xs _ (by omega) hl hs, by simp, rfl, ?_⟩
  simp -dsimp only [Vs.wpc, Vs.vc, Vs.stepA, Vs.rd, Vs.al, Vs.look, Vs.put, Vs.keepL, Vs.evO, Vs.AV.ofValue, Vs.AV.mk, reduceIte, Nat.reduceEqDiff, Vs.retK, Vs.resL, Vs.resV, Vs.oneOr, Vs.ini, Vs.iniH, Vs.binI, Vs.binBool, true_and, Vs.conv, Vs.blksO, Vs.hlook, Vs.callL, Vs.borN, Vs.mapO, List.map, List.flatMap_nil, List.append_nil, List.nil_append, Vs.rn, Vs.aftL, Vs.newsL, Vs.oldsL, Option.getD_some, Option.getD_none, Vs.nodupB, List.length_map, eI_len, Int.toNat_natCast, Nat.zero_add, Bool.false_eq_true, Vs.idxN, Vs.convB, Option.bind_some, Vs.Blk.fz, eI_take, Vs.AV.has, Vs.phi, List.length_nil, List.length_cons, List.length_nil, Nat.le_refl, Nat.lt_irrefl, Nat.reduceLT, Nat.reduceLeDiff, Nat.reduceAdd, Vs.rnB, Option.map_some, List.cons_append, Vs.frz, Vs.aftF, false_and, Vs.Name.t.injEq, reduceCtorEq, and_true, and_false, Vs.cellsO, Vs.oneB, Value.oneCell', List.all_cons, List.all_nil, Bool.and_self, Vs.Blk.row, List.drop, List.take, List.headD, Vs.Blk.setRow, Vs.lay, Vs.hset, Vs.binStr, Nat.add_zero, List.set, List.all, Vs.Blk.has, Vs.hasL, Vs.isClo, Vs.isCloL, Ld.t53, Vs.rowsOf, eT_len, eT_take, Vs.rnL, eT_take2]
  refine ⟨fun h => by simp, fun h => ?_⟩
  have hx : xs.length ≤ 1048576 := szT_len (b := 1048576) (by omega) (by simpa using h)
  clear h
  refine ⟨_, _, false, toTotalS xs hx, by simp, rfl, ?_⟩
  simp -dsimp only [Vs.wpc, Vs.vc, Vs.stepA, Vs.rd, Vs.al, Vs.look, Vs.put, Vs.keepL, Vs.evO, Vs.AV.ofValue, Vs.AV.mk, reduceIte, Nat.reduceEqDiff, Vs.retK, Vs.resL, Vs.resV, Vs.oneOr, Vs.ini, Vs.iniH, Vs.binI, Vs.binBool, true_and, Vs.conv, Vs.blksO, Vs.hlook, Vs.callL, Vs.borN, Vs.mapO, List.map, List.flatMap_nil, List.append_nil, List.nil_append, Vs.rn, Vs.aftL, Vs.newsL, Vs.oldsL, Option.getD_some, Option.getD_none, Vs.nodupB, List.length_map, eI_len, Int.toNat_natCast, Nat.zero_add, Bool.false_eq_true, Vs.idxN, Vs.convB, Option.bind_some, Vs.Blk.fz, eI_take, Vs.AV.has, Vs.phi, List.length_nil, List.length_cons, List.length_nil, Nat.le_refl, Nat.lt_irrefl, Nat.reduceLT, Nat.reduceLeDiff, Nat.reduceAdd, Vs.rnB, Option.map_some, List.cons_append, Vs.frz, Vs.aftF, false_and, Vs.Name.t.injEq, reduceCtorEq, and_true, and_false, Vs.cellsO, Vs.oneB, Value.oneCell', List.all_cons, List.all_nil, Bool.and_self, Vs.Blk.row, List.drop, List.take, List.headD, Vs.Blk.setRow, Vs.lay, Vs.hset, Vs.binStr, Nat.add_zero, List.set, List.all, Vs.Blk.has, Vs.hasL, Vs.isClo, Vs.isCloL, Ld.t53, Vs.rowsOf, eT_len, eT_take, Vs.rnL, eT_take2]
  refine ⟨_, _, false, spec_SumOfTotals xs hx, by simp [Vs.flat], rfl, ?_⟩
  simp -dsimp only [Vs.wpc, Vs.vc, Vs.stepA, Vs.rd, Vs.al, Vs.look, Vs.put, Vs.keepL, Vs.evO, Vs.AV.ofValue, Vs.AV.mk, reduceIte, Nat.reduceEqDiff, Vs.retK, Vs.resL, Vs.resV, Vs.oneOr, Vs.ini, Vs.iniH, Vs.binI, Vs.binBool, true_and, Vs.conv, Vs.blksO, Vs.hlook, Vs.callL, Vs.borN, Vs.mapO, List.map, List.flatMap_nil, List.append_nil, List.nil_append, Vs.rn, Vs.aftL, Vs.newsL, Vs.oldsL, Option.getD_some, Option.getD_none, Vs.nodupB, List.length_map, eI_len, Int.toNat_natCast, Nat.zero_add, Bool.false_eq_true, Vs.idxN, Vs.convB, Option.bind_some, Vs.Blk.fz, eI_take, Vs.AV.has, Vs.phi, List.length_nil, List.length_cons, List.length_nil, Nat.le_refl, Nat.lt_irrefl, Nat.reduceLT, Nat.reduceLeDiff, Nat.reduceAdd, Vs.rnB, Option.map_some, List.cons_append, Vs.frz, Vs.aftF, false_and, Vs.Name.t.injEq, reduceCtorEq, and_true, and_false, Vs.cellsO, Vs.oneB, Value.oneCell', List.all_cons, List.all_nil, Bool.and_self, Vs.Blk.row, List.drop, List.take, List.headD, Vs.Blk.setRow, Vs.lay, Vs.hset, Vs.binStr, Nat.add_zero, List.set, List.all, Vs.Blk.has, Vs.hasL, Vs.isClo, Vs.isCloL, Ld.t53, Vs.rowsOf, eT_len, eT_take, Vs.rnL, eT_take2]
  refine ⟨_, _, false, toTotalS xs hx, by simp, rfl, ?_⟩
  simp -dsimp only [Vs.wpc, Vs.vc, Vs.stepA, Vs.rd, Vs.al, Vs.look, Vs.put, Vs.keepL, Vs.evO, Vs.AV.ofValue, Vs.AV.mk, reduceIte, Nat.reduceEqDiff, Vs.retK, Vs.resL, Vs.resV, Vs.oneOr, Vs.ini, Vs.iniH, Vs.binI, Vs.binBool, true_and, Vs.conv, Vs.blksO, Vs.hlook, Vs.callL, Vs.borN, Vs.mapO, List.map, List.flatMap_nil, List.append_nil, List.nil_append, Vs.rn, Vs.aftL, Vs.newsL, Vs.oldsL, Option.getD_some, Option.getD_none, Vs.nodupB, List.length_map, eI_len, Int.toNat_natCast, Nat.zero_add, Bool.false_eq_true, Vs.idxN, Vs.convB, Option.bind_some, Vs.Blk.fz, eI_take, Vs.AV.has, Vs.phi, List.length_nil, List.length_cons, List.length_nil, Nat.le_refl, Nat.lt_irrefl, Nat.reduceLT, Nat.reduceLeDiff, Nat.reduceAdd, Vs.rnB, Option.map_some, List.cons_append, Vs.frz, Vs.aftF, false_and, Vs.Name.t.injEq, reduceCtorEq, and_true, and_false, Vs.cellsO, Vs.oneB, Value.oneCell', List.all_cons, List.all_nil, Bool.and_self, Vs.Blk.row, List.drop, List.take, List.headD, Vs.Blk.setRow, Vs.lay, Vs.hset, Vs.binStr, Nat.add_zero, List.set, List.all, Vs.Blk.has, Vs.hasL, Vs.isClo, Vs.isCloL, Ld.t53, Vs.rowsOf, eT_len, eT_take, Vs.rnL, eT_take2]
  refine ⟨_, _, false, impl_SumOfTotals xs hx, by simp [Vs.flat], rfl, ?_⟩
  simp -dsimp only [Vs.wpc, Vs.vc, Vs.stepA, Vs.rd, Vs.al, Vs.look, Vs.put, Vs.keepL, Vs.evO, Vs.AV.ofValue, Vs.AV.mk, reduceIte, Nat.reduceEqDiff, Vs.retK, Vs.resL, Vs.resV, Vs.oneOr, Vs.ini, Vs.iniH, Vs.binI, Vs.binBool, true_and, Vs.conv, Vs.blksO, Vs.hlook, Vs.callL, Vs.borN, Vs.mapO, List.map, List.flatMap_nil, List.append_nil, List.nil_append, Vs.rn, Vs.aftL, Vs.newsL, Vs.oldsL, Option.getD_some, Option.getD_none, Vs.nodupB, List.length_map, eI_len, Int.toNat_natCast, Nat.zero_add, Bool.false_eq_true, Vs.idxN, Vs.convB, Option.bind_some, Vs.Blk.fz, eI_take, Vs.AV.has, Vs.phi, List.length_nil, List.length_cons, List.length_nil, Nat.le_refl, Nat.lt_irrefl, Nat.reduceLT, Nat.reduceLeDiff, Nat.reduceAdd, Vs.rnB, Option.map_some, List.cons_append, Vs.frz, Vs.aftF, false_and, Vs.Name.t.injEq, reduceCtorEq, and_true, and_false, Vs.cellsO, Vs.oneB, Value.oneCell', List.all_cons, List.all_nil, Bool.and_self, Vs.Blk.row, List.drop, List.take, List.headD, Vs.Blk.setRow, Vs.lay, Vs.hset, Vs.binStr, Nat.add_zero, List.set, List.all, Vs.Blk.has, Vs.hasL, Vs.isClo, Vs.isCloL, Ld.t53, Vs.rowsOf, eT_len, eT_take, Vs.rnL, eT_take2]
  refine ⟨fun h => by simp at h, fun _ => ?_⟩
  refine ⟨_, _, false, toTotalS xs hx, by simp, rfl, ?_⟩
  simp -dsimp only [Vs.wpc, Vs.vc, Vs.stepA, Vs.rd, Vs.al, Vs.look, Vs.put, Vs.keepL, Vs.evO, Vs.AV.ofValue, Vs.AV.mk, reduceIte, Nat.reduceEqDiff, Vs.retK, Vs.resL, Vs.resV, Vs.oneOr, Vs.ini, Vs.iniH, Vs.binI, Vs.binBool, true_and, Vs.conv, Vs.blksO, Vs.hlook, Vs.callL, Vs.borN, Vs.mapO, List.map, List.flatMap_nil, List.append_nil, List.nil_append, Vs.rn, Vs.aftL, Vs.newsL, Vs.oldsL, Option.getD_some, Option.getD_none, Vs.nodupB, List.length_map, eI_len, Int.toNat_natCast, Nat.zero_add, Bool.false_eq_true, Vs.idxN, Vs.convB, Option.bind_some, Vs.Blk.fz, eI_take, Vs.AV.has, Vs.phi, List.length_nil, List.length_cons, List.length_nil, Nat.le_refl, Nat.lt_irrefl, Nat.reduceLT, Nat.reduceLeDiff, Nat.reduceAdd, Vs.rnB, Option.map_some, List.cons_append, Vs.frz, Vs.aftF, false_and, Vs.Name.t.injEq, reduceCtorEq, and_true, and_false, Vs.cellsO, Vs.oneB, Value.oneCell', List.all_cons, List.all_nil, Bool.and_self, Vs.Blk.row, List.drop, List.take, List.headD, Vs.Blk.setRow, Vs.lay, Vs.hset, Vs.binStr, Nat.add_zero, List.set, List.all, Vs.Blk.has, Vs.hasL, Vs.isClo, Vs.isCloL, Ld.t53, Vs.rowsOf, eT_len, eT_take, Vs.rnL, eT_take2]
  refine ⟨_, _, false, eqTotalS xs hx, by simp [Vs.flat], rfl, ?_⟩
  simp -dsimp only [Vs.wpc, Vs.vc, Vs.stepA, Vs.rd, Vs.al, Vs.look, Vs.put, Vs.keepL, Vs.evO, Vs.AV.ofValue, Vs.AV.mk, reduceIte, Nat.reduceEqDiff, Vs.retK, Vs.resL, Vs.resV, Vs.oneOr, Vs.ini, Vs.iniH, Vs.binI, Vs.binBool, true_and, Vs.conv, Vs.blksO, Vs.hlook, Vs.callL, Vs.borN, Vs.mapO, List.map, List.flatMap_nil, List.append_nil, List.nil_append, Vs.rn, Vs.aftL, Vs.newsL, Vs.oldsL, Option.getD_some, Option.getD_none, Vs.nodupB, List.length_map, eI_len, Int.toNat_natCast, Nat.zero_add, Bool.false_eq_true, Vs.idxN, Vs.convB, Option.bind_some, Vs.Blk.fz, eI_take, Vs.AV.has, Vs.phi, List.length_nil, List.length_cons, List.length_nil, Nat.le_refl, Nat.lt_irrefl, Nat.reduceLT, Nat.reduceLeDiff, Nat.reduceAdd, Vs.rnB, Option.map_some, List.cons_append, Vs.frz, Vs.aftF, false_and, Vs.Name.t.injEq, reduceCtorEq, and_true, and_false, Vs.cellsO, Vs.oneB, Value.oneCell', List.all_cons, List.all_nil, Bool.and_self, Vs.Blk.row, List.drop, List.take, List.headD, Vs.Blk.setRow, Vs.lay, Vs.hset, Vs.binStr, Nat.add_zero, List.set, List.all, Vs.Blk.has, Vs.hasL, Vs.isClo, Vs.isCloL, Ld.t53, Vs.rowsOf, eT_len, eT_take, Vs.rnL, eT_take2]
  simp

theorem opens_totals : Opens Try.prog 35 1 (fun l : { l : List ({ s : ByteArray // s.size < 2 ^ 63 } × { n : Int // (Lit.int .i64 n).wf = true }) // l.length < 2 ^ 63 } => [.sl 2 (l.1.map fun p => [AV.v (.string p.1.1)] ++ [AV.v (.int .i64 p.2.1)])]) :=
  Opens.slice (P := Try.prog) (k := 2) Try.underlying35 (by kernel_rfl) (by decide)
    (Opens.struct2 (P := Try.prog) (k0 := 1) (k1 := 1) Try.underlying52 (by kernel_rfl) ⟨rfl, rfl⟩ (Opens.string (P := Try.prog) Try.underlying9 (by kernel_rfl)) (Opens.int (P := Try.prog) Try.underlying2 (by kernel_rfl)))

set_option maxRecDepth 100000 in
theorem sum_lifted (os : Os) (started : os.Started) (H : Type) (enc : TypeId × Value → H) :
    ReturnsInHanded {} Try.checked os F.laws_FnExactSumOfTotals .any (Rows.fnExactSumOfTotalsSpec.pre6 enc Try.prog Try.f7 Rows.fnExactSumOfTotalsRow.domain false) (Rows.fnExactSumOfTotalsSpec.post enc Try.prog Try.f7 false true false false) := by
  refine returnsInHanded_of_change (C := Try.checked) Try.own started (by kernel_rfl) Try.func7
    (ChangeSpec.witness6 (enc := enc) (C := Try.checked) false ⟨#[], #[.slice none 0 0], []⟩ 8 (by kernel_rfl) (by kernel_rfl) (by kernel_rfl) (by kernel_rfl)) ?_
  intro W base args ds gs before hval0 hW _ _
  have hW' := hW
  obtain ⟨p, q, hA0, hV, rfl, hfz, hnd⟩ := hW
  have hA : DataW.TrodAll enc Try.prog W 0 (fun _ => true) true Try.f7.params.toList args.toList ds p := hA0
  have hval : ∀ (j : Nat) t v, Try.f7.params[j]? = some t → args[j]? = some v → Value.okWide Try.prog W .any base t v := hval0
  rw [Try.params7] at hA hval
  obtain ⟨v0, d0, rfl, rfl, h0⟩ := trodAll_one hA
  obtain ⟨a0, len0, cap0, rfl⟩ := okWide_slice Try.underlying35 (hval 0 _ v0 rfl rfl)
  obtain ⟨rfl, rfl⟩ := trodVars_none hV
  obtain ⟨l, hl⟩ := arg_one opens_totals rfl h0
  have hl' : RC (fun b => b < W.heap.size) W (.sl 2 (eT (l.1.map fun p => (p.1.1, p.2.1)))) (.slice a0 len0 cap0) := by
    have e : l.1.map (fun p => [AV.v (.string p.1.1)] ++ [AV.v (.int .i64 p.2.1)]) = eT (l.1.map fun p => (p.1.1, p.2.1)) := by simp [eT, cT]
    rw [← e]
    exact hl
  exact law_post Try.laidOut (by kernel_rfl) rfl Try.underlying4 hW' rfl ⟨rfl, rfl, rfl⟩ (laws_SumOfTotals (l.1.map fun p => (p.1.1, p.2.1)) (by simpa using l.2) (fun p hp => by
    obtain ⟨q, _, rfl⟩ := List.mem_map.1 hp
    exact q.1.2)) rfl (fun j hj => by
    have : j = 0 := by simpa using hj
    subst this
    exact hl')

theorem sum_holds : Rows.FnExactSumOfTotalsSaid :=
  OpenClaim.holds_of_wide 7 Try.f7 rfl rfl rfl rfl rfl rfl rfl ⟨rfl, rfl, rfl, rfl, rfl⟩ rfl rfl rfl rfl rfl (by kernel_rfl) Try.func7 (by kernel_rfl)
    (of_decide_eq_true (by kernel_rfl)) (by unfold Func.isWrapper; first | (rw [if_pos (by decide +kernel)]; kernel_rfl) | (rw [if_neg (by decide +kernel)]; exact ⟨rfl, rfl⟩))
    (fun os started H enc _ => sum_lifted os started H enc)
#print axioms sum_holds
end Go.Proofs.Ytknoeihaonblbaa
