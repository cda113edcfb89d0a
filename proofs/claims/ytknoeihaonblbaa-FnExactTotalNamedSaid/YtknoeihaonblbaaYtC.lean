/-
  The law FnExactValidAmounts returns true for every input, and its argument reads behind the call as it read before. Conditions: none beyond the given statement (Rows.FnExactValidAmountsSaid).
-/
import Derived.Test.YtknoeihaonblbaaYtA
namespace Go.Proofs.Ytknoeihaonblbaa
open Go.Vs Go.ChangeShapes Go.WideShapes Go.ChangeAt Go.RowKit
set_option linter.unusedSimpArgs false

def eI (xs : List Int) : List (List AV) := xs.map fun n => [.v (.int .i64 n)]
theorem eI_len (xs : List Int) : (eI xs).length = xs.length := by simp [eI]
theorem eI_get (xs : List Int) (i : Nat) (h : i < xs.length) : (eI xs).getD i [] = [.v (.int .i64 xs[i])] := by simp [eI, List.getD, h]

theorem wrap_in {n : Int} (h1 : -9223372036854775808 ≤ n) (h2 : n ≤ 9223372036854775807) : IntKind.i64.wrap n = n := by
  simp only [IntKind.wrap, IntKind.bits, IntKind.signed]
  have e1 : (2 : Int) ^ 64 = 18446744073709551616 := by decide
  have e2 : (2 : Int) ^ (64 - 1) = 9223372036854775808 := by decide
  simp only [e1, e2, Bool.true_and, decide_eq_true_eq]
  split <;> omega

/-- one round of a copy: the row i is written -/
theorem copy_step (xs : List Int) (i : Nat) (h : i < xs.length) (z : List AV) :
    (eI (xs.take i) ++ List.replicate (xs.length - i) z).set i [.v (.int .i64 xs[i])] = eI (xs.take (i + 1)) ++ List.replicate (xs.length - (i + 1)) z := by
  have h1 : (eI (xs.take i)).length = i := by simp [eI]; omega
  rw [List.set_append_right _ _ (by omega), h1, Nat.sub_self, show xs.length - i = (xs.length - (i + 1)) + 1 by omega, List.replicate_succ, List.set_cons_zero]
  have e : eI (xs.take (i + 1)) = eI (xs.take i) ++ [[.v (.int .i64 xs[i])]] := by
    simp only [eI, List.take_add_one, List.getElem?_eq_getElem h, Option.toList_some, List.map_append, List.map_cons, List.map_nil]
  rw [e, List.append_assoc, List.singleton_append]
theorem copy_get (xs : List Int) (i : Nat) (h : i < xs.length) (z : List AV) : (eI (xs.take i) ++ List.replicate (xs.length - i) z).getD i [] = z := by
  have h1 : (eI (xs.take i)).length = i := by simp [eI]; omega
  simp only [List.getD]
  rw [List.getElem?_append_right (by omega), h1, Nat.sub_self, List.getElem?_replicate, if_pos (by omega)]
  rfl

theorem toInt64S (xs : List Int) (hx : xs.length ≤ 1048576) : Vs.Fn Try.prog F.laws_toInt64S [] [.sl 1 (eI xs)] (.loc (.b 0) 0 xs.length) [some (.arr 1 (eI xs) false)] := by
  refine Cd.laws_toInt64S_ok.fn Try.mixed 22 [.tmp 2] [.t 7 0] [.arr 1 (eI xs) false] rfl rfl rfl (by simp) rfl (by simp) fun X => ?_
  unfold Cd.laws_toInt64S
  simp -dsimp only [Vs.wpc, Vs.vc, Vs.stepA, Vs.rd, Vs.al, Vs.look, Vs.put, Vs.keepL, Vs.evO, Vs.AV.ofValue, Vs.AV.mk, reduceIte, Nat.reduceEqDiff, Vs.retK, Vs.resL, Vs.resV, Vs.oneOr, Vs.ini, Vs.iniH, Vs.binI, Vs.binBool, true_and, Vs.conv, Vs.blksO, Vs.hlook, Vs.callL, Vs.borN, Vs.mapO, List.map, List.flatMap_nil, List.append_nil, List.nil_append, Vs.rn, Vs.aftL, Vs.newsL, Vs.oldsL, Option.getD_some, Option.getD_none, Vs.nodupB, List.length_map, eI_len, Int.toNat_natCast, Nat.zero_add, Bool.false_eq_true, Vs.idxN, Vs.convB, Option.bind_some, Vs.Blk.fz]
  refine ⟨⟨by omega, by omega, by omega, rfl, rfl⟩, ⟨rfl, rfl⟩, ?_⟩
  refine SemW.loop (drawn_ok Try.mixed) (fun i : { i : Nat // i ≤ xs.length } => ⟨[(0, .sl 1 (eI xs)), (3, .loc (.t 7 0) 0 xs.length), (4, .v (.int .i64 i.1))],
    [(.t 7 0, .arr 1 (eI (xs.take i.1) ++ List.replicate (xs.length - i.1) [.v (.int .i64 0)]) false)]⟩) (fun i => xs.length - i.1) ⟨0, by omega⟩ ?_ ?_
  · simp [LeL, Vs.look, Vs.hlook, eI]
  · rintro ⟨i, hi⟩
    simp -dsimp only [Vs.wpc, Vs.vc, Vs.stepA, Vs.rd, Vs.al, Vs.look, Vs.put, Vs.keepL, Vs.evO, Vs.AV.ofValue, Vs.AV.mk, reduceIte, Nat.reduceEqDiff, Vs.retK, Vs.resL, Vs.resV, Vs.oneOr, Vs.ini, Vs.iniH, Vs.binI, Vs.binBool, true_and, Vs.conv, Vs.blksO, Vs.hlook, Vs.callL, Vs.borN, Vs.mapO, List.map, List.flatMap_nil, List.append_nil, List.nil_append, Vs.rn, Vs.aftL, Vs.newsL, Vs.oldsL, Option.getD_some, Option.getD_none, Vs.nodupB, List.length_map, eI_len, Int.toNat_natCast, Nat.zero_add, Bool.false_eq_true, Vs.idxN, Vs.convB, Option.bind_some, Vs.Blk.fz]
    refine ⟨fun h => ?_, fun h => ?_⟩
    · have hlt : i < xs.length := by simpa using h
      have hw : IntKind.i64.wrap ((i : Int) + 1) = ((i + 1 : Nat) : Int) := by rw [wrap_in (by omega) (by omega)]; omega
      simp only [eI_get xs i hlt]
      simp only [List.take, List.headD, Vs.cellsO, Vs.oneB, Value.oneCell', if_true, Vs.Blk.row, copy_get xs i hlt, Vs.Blk.setRow, Vs.lay, Vs.hset, hw, List.set_cons_zero, copy_step xs i hlt]
      refine ⟨by omega, by simp, by omega, ⟨by simp [Vs.Blk.okc, Vs.isCloL, Vs.isClo], ⟨i + 1, by omega⟩, ?_, by show xs.length - (i + 1) < xs.length - i; omega⟩⟩
      simp [LeL, Vs.look, Vs.hlook]
    · have hge : i = xs.length := by
        have : ¬ i < xs.length := by simpa using h
        omega
      subst hge
      simp
end Go.Proofs.Ytknoeihaonblbaa
