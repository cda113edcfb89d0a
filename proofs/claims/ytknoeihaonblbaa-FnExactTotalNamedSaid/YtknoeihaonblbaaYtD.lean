/-
  The law FnExactValidAmounts returns true for every input, and its argument reads behind the call as it read before. Conditions: none beyond the given statement (Rows.FnExactValidAmountsSaid).
-/
import Derived.Test.YtknoeihaonblbaaYtC
namespace Go.Proofs.Ytknoeihaonblbaa
open Go.Vs Go.ChangeShapes Go.WideShapes Go.ChangeAt Go.RowKit
set_option linter.unusedSimpArgs false
theorem eI_take (xs : List Int) : ((eI xs).drop 0).take xs.length = eI xs := by rw [List.drop_zero]; exact List.take_of_length_le (by simp [eI])

def inB (a b c : Int) : Bool := decide (a ≥ b) && decide (a ≤ c)
theorem l00In (a b c : Int) : Vs.Fn Try.prog F.spec_l00In [] [.v (.int .i64 a), .v (.int .i64 b), .v (.int .i64 c)] (.v (.bool (inB a b c))) [] := by
  refine Cd.spec_l00In_ok.fn Try.mixed 15 [.tmp 6] [] [] rfl rfl rfl (by simp) rfl (by simp) fun X => ?_
  unfold Cd.spec_l00In
  simp -dsimp only [Vs.wpc, Vs.vc, Vs.stepA, Vs.rd, Vs.al, Vs.look, Vs.put, Vs.keepL, Vs.evO, Vs.AV.ofValue, Vs.AV.mk, reduceIte, Nat.reduceEqDiff, Vs.retK, Vs.resL, Vs.resV, Vs.oneOr, Vs.ini, Vs.iniH, Vs.binI, Vs.binBool, true_and, Vs.conv, Vs.blksO, Vs.hlook, Vs.callL, Vs.borN, Vs.mapO, List.map, List.flatMap_nil, List.append_nil, List.nil_append, Vs.rn, Vs.aftL, Vs.newsL, Vs.oldsL, Option.getD_some, Option.getD_none, Vs.nodupB, List.length_map, eI_len, Int.toNat_natCast, Nat.zero_add, Bool.false_eq_true, Vs.idxN, Vs.convB, Option.bind_some, Vs.Blk.fz, eI_take, Vs.AV.has, Vs.phi, List.length_nil]
  cases h : decide (a ≥ b) <;> simp [h, inB]
theorem inside (a b c : Int) : Vs.Fn Try.prog F.impl_inside [] [.v (.int .i64 a), .v (.int .i64 b), .v (.int .i64 c)] (.v (.bool (inB a b c))) [] := by
  refine Cd.impl_inside_ok.fn Try.mixed 15 [.tmp 6] [] [] rfl rfl rfl (by simp) rfl (by simp) fun X => ?_
  unfold Cd.impl_inside
  simp -dsimp only [Vs.wpc, Vs.vc, Vs.stepA, Vs.rd, Vs.al, Vs.look, Vs.put, Vs.keepL, Vs.evO, Vs.AV.ofValue, Vs.AV.mk, reduceIte, Nat.reduceEqDiff, Vs.retK, Vs.resL, Vs.resV, Vs.oneOr, Vs.ini, Vs.iniH, Vs.binI, Vs.binBool, true_and, Vs.conv, Vs.blksO, Vs.hlook, Vs.callL, Vs.borN, Vs.mapO, List.map, List.flatMap_nil, List.append_nil, List.nil_append, Vs.rn, Vs.aftL, Vs.newsL, Vs.oldsL, Option.getD_some, Option.getD_none, Vs.nodupB, List.length_map, eI_len, Int.toNat_natCast, Nat.zero_add, Bool.false_eq_true, Vs.idxN, Vs.convB, Option.bind_some, Vs.Blk.fz, eI_take, Vs.AV.has, Vs.phi, List.length_nil]
  cases h : decide (a ≥ b) <;> simp [h, inB]

def amt (n : Int) : Bool := inB n 0 9999
def amtsB (xs : List Int) : Bool := xs.all amt && decide (xs.length ≤ 12)
theorem all_of_take {xs : List Int} {p : Int → Bool} (h : (xs.take xs.length).all p = true) : xs.all p = true := by simpa using h
theorem all_step {xs : List Int} {p : Int → Bool} {i : Nat} (hi : i < xs.length) (h : (xs.take i).all p = true) (hp : p xs[i] = true) : (xs.take (i + 1)).all p = true := by
  rw [List.take_add_one, List.getElem?_eq_getElem hi]
  simp only [Option.toList_some, List.all_append, List.all_cons, List.all_nil, h, hp, Bool.and_true]
theorem not_all {xs : List Int} {p : Int → Bool} {i : Nat} (hi : i < xs.length) (hp : p xs[i] = false) : xs.all p = false := by
  cases h : xs.all p with
  | false => rfl
  | true => rw [List.all_eq_true.1 h xs[i] (List.getElem_mem hi)] at hp; cases hp

theorem l19Ok (xs : List Int) (hx : xs.length ≤ 1048576) : Vs.Fn Try.prog F.spec_l19Ok [] [.sl 1 (eI xs)] (.v (.bool (amtsB xs))) [] := by
  refine Cd.spec_l19Ok_ok.fn Try.mixed 19 [.tmp 2] [] [] rfl rfl rfl (by simp) rfl (by simp) fun X => ?_
  unfold Cd.spec_l19Ok
  simp -dsimp only [Vs.wpc, Vs.vc, Vs.stepA, Vs.rd, Vs.al, Vs.look, Vs.put, Vs.keepL, Vs.evO, Vs.AV.ofValue, Vs.AV.mk, reduceIte, Nat.reduceEqDiff, Vs.retK, Vs.resL, Vs.resV, Vs.oneOr, Vs.ini, Vs.iniH, Vs.binI, Vs.binBool, true_and, Vs.conv, Vs.blksO, Vs.hlook, Vs.callL, Vs.borN, Vs.mapO, List.map, List.flatMap_nil, List.append_nil, List.nil_append, Vs.rn, Vs.aftL, Vs.newsL, Vs.oldsL, Option.getD_some, Option.getD_none, Vs.nodupB, List.length_map, eI_len, Int.toNat_natCast, Nat.zero_add, Bool.false_eq_true, Vs.idxN, Vs.convB, Option.bind_some, Vs.Blk.fz, eI_take, Vs.AV.has, Vs.phi, List.length_nil]
  refine SemW.loop (drawn_ok Try.mixed) (fun i : { i : Nat // i ≤ xs.length ∧ (xs.take i).all amt = true } => ⟨[(0, .sl 1 (eI xs)), (3, .v (.int .i64 i.1))], []⟩) (fun i => xs.length - i.1) ⟨0, by simp⟩ ?_ ?_
  · simp [LeL, Vs.look]
  · rintro ⟨i, hi, hall⟩
    simp -dsimp only [Vs.wpc, Vs.vc, Vs.stepA, Vs.rd, Vs.al, Vs.look, Vs.put, Vs.keepL, Vs.evO, Vs.AV.ofValue, Vs.AV.mk, reduceIte, Nat.reduceEqDiff, Vs.retK, Vs.resL, Vs.resV, Vs.oneOr, Vs.ini, Vs.iniH, Vs.binI, Vs.binBool, true_and, Vs.conv, Vs.blksO, Vs.hlook, Vs.callL, Vs.borN, Vs.mapO, List.map, List.flatMap_nil, List.append_nil, List.nil_append, Vs.rn, Vs.aftL, Vs.newsL, Vs.oldsL, Option.getD_some, Option.getD_none, Vs.nodupB, List.length_map, eI_len, Int.toNat_natCast, Nat.zero_add, Bool.false_eq_true, Vs.idxN, Vs.convB, Option.bind_some, Vs.Blk.fz, eI_take, Vs.AV.has, Vs.phi, List.length_nil]
    refine ⟨fun h => ?_, fun h => ?_⟩
    · have hlt : i < xs.length := by simpa using h
      have hw : IntKind.i64.wrap ((i : Int) + 1) = ((i + 1 : Nat) : Int) := by rw [wrap_in (by omega) (by omega)]; omega
      simp only [eI_get xs i hlt]
      simp only [List.take, List.headD]
      simp -dsimp only [Vs.wpc, Vs.vc, Vs.stepA, Vs.rd, Vs.al, Vs.look, Vs.put, Vs.keepL, Vs.evO, Vs.AV.ofValue, Vs.AV.mk, reduceIte, Nat.reduceEqDiff, Vs.retK, Vs.resL, Vs.resV, Vs.oneOr, Vs.ini, Vs.iniH, Vs.binI, Vs.binBool, true_and, Vs.conv, Vs.blksO, Vs.hlook, Vs.callL, Vs.borN, Vs.mapO, List.map, List.flatMap_nil, List.append_nil, List.nil_append, Vs.rn, Vs.aftL, Vs.newsL, Vs.oldsL, Option.getD_some, Option.getD_none, Vs.nodupB, List.length_map, eI_len, Int.toNat_natCast, Nat.zero_add, Bool.false_eq_true, Vs.idxN, Vs.convB, Option.bind_some, Vs.Blk.fz, eI_take, Vs.AV.has, Vs.phi, List.length_nil]
      refine ⟨by omega, by simp, _, _, false, l00In _ _ _, by simp, rfl, ?_⟩
      simp -dsimp only [Vs.wpc, Vs.vc, Vs.stepA, Vs.rd, Vs.al, Vs.look, Vs.put, Vs.keepL, Vs.evO, Vs.AV.ofValue, Vs.AV.mk, reduceIte, Nat.reduceEqDiff, Vs.retK, Vs.resL, Vs.resV, Vs.oneOr, Vs.ini, Vs.iniH, Vs.binI, Vs.binBool, true_and, Vs.conv, Vs.blksO, Vs.hlook, Vs.callL, Vs.borN, Vs.mapO, List.map, List.flatMap_nil, List.append_nil, List.nil_append, Vs.rn, Vs.aftL, Vs.newsL, Vs.oldsL, Option.getD_some, Option.getD_none, Vs.nodupB, List.length_map, eI_len, Int.toNat_natCast, Nat.zero_add, Bool.false_eq_true, Vs.idxN, Vs.convB, Option.bind_some, Vs.Blk.fz, eI_take, Vs.AV.has, Vs.phi, List.length_nil]
      refine ⟨fun hb => ?_, fun hb => ?_⟩
      · have : amt xs[i] = false := by simpa [amt] using hb
        simp [amtsB, not_all hlt this]
      · have : amt xs[i] = true := by simpa [amt] using hb
        exact ⟨⟨i + 1, by omega, all_step hlt hall this⟩, by simp [LeL, Vs.look, hw], by show xs.length - (i + 1) < xs.length - i; omega⟩
    · have hge : i = xs.length := by
        have : ¬ i < xs.length := by simpa using h
        omega
      subst hge
      have := all_of_take hall
      simp [amtsB, this]
      try omega

theorem spec_ValidAmounts (xs : List Int) (hx : xs.length ≤ 1048576) : Vs.Fn Try.prog F.spec_ValidAmounts [] [.sl 1 (eI xs)] (.v (.bool (amtsB xs))) [] := by
  refine Cd.spec_ValidAmounts_ok.fn Try.mixed 5 [.tmp 2] [] [] rfl rfl rfl (by simp) rfl (by simp) fun X => ?_
  unfold Cd.spec_ValidAmounts
  simp -dsimp only [Vs.wpc, Vs.vc, Vs.stepA, Vs.rd, Vs.al, Vs.look, Vs.put, Vs.keepL, Vs.evO, Vs.AV.ofValue, Vs.AV.mk, reduceIte, Nat.reduceEqDiff, Vs.retK, Vs.resL, Vs.resV, Vs.oneOr, Vs.ini, Vs.iniH, Vs.binI, Vs.binBool, true_and, Vs.conv, Vs.blksO, Vs.hlook, Vs.callL, Vs.borN, Vs.mapO, List.map, List.flatMap_nil, List.append_nil, List.nil_append, Vs.rn, Vs.aftL, Vs.newsL, Vs.oldsL, Option.getD_some, Option.getD_none, Vs.nodupB, List.length_map, eI_len, Int.toNat_natCast, Nat.zero_add, Bool.false_eq_true, Vs.idxN, Vs.convB, Option.bind_some, Vs.Blk.fz, eI_take, Vs.AV.has, Vs.phi, List.length_nil]
  refine ⟨_, _, false, l19Ok xs hx, by simp, rfl, ?_⟩
  simp -dsimp only [Vs.wpc, Vs.vc, Vs.stepA, Vs.rd, Vs.al, Vs.look, Vs.put, Vs.keepL, Vs.evO, Vs.AV.ofValue, Vs.AV.mk, reduceIte, Nat.reduceEqDiff, Vs.retK, Vs.resL, Vs.resV, Vs.oneOr, Vs.ini, Vs.iniH, Vs.binI, Vs.binBool, true_and, Vs.conv, Vs.blksO, Vs.hlook, Vs.callL, Vs.borN, Vs.mapO, List.map, List.flatMap_nil, List.append_nil, List.nil_append, Vs.rn, Vs.aftL, Vs.newsL, Vs.oldsL, Option.getD_some, Option.getD_none, Vs.nodupB, List.length_map, eI_len, Int.toNat_natCast, Nat.zero_add, Bool.false_eq_true, Vs.idxN, Vs.convB, Option.bind_some, Vs.Blk.fz, eI_take, Vs.AV.has, Vs.phi, List.length_nil]
  simp
end Go.Proofs.Ytknoeihaonblbaa
