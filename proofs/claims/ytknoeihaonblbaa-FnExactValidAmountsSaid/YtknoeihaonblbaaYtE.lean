/-
  The law FnExactValidAmounts returns true for every input, and its argument reads behind the call as it read before. Conditions: none beyond the given statement (Rows.FnExactValidAmountsSaid).
-/
import Derived.Test.YtknoeihaonblbaaYtD
namespace Go.Proofs.Ytknoeihaonblbaa
open Go.Vs Go.ChangeShapes Go.WideShapes Go.ChangeAt Go.RowKit
set_option linter.unusedSimpArgs false

def idxI (p : Int → Bool) (xs : List Int) : Int := match xs.findIdx? p with | some i => i | none => -1
theorem idx_none {p : Int → Bool} {xs : List Int} (h : xs.all (fun n => !p n) = true) : idxI p xs = -1 := by
  have : xs.findIdx? p = none := by
    rw [List.findIdx?_eq_none_iff]
    intro x hx
    simpa using List.all_eq_true.1 h x hx
  simp [idxI, this]
theorem idx_some {p : Int → Bool} {xs : List Int} {i : Nat} (hi : i < xs.length) (h : (xs.take i).all (fun n => !p n) = true) (hp : p xs[i] = true) : idxI p xs = i := by
  have : xs.findIdx? p = some i := by
    rw [List.findIdx?_eq_some_iff_getElem]
    refine ⟨hi, hp, fun j hj => ?_⟩
    have := List.all_eq_true.1 h xs[j] (by
      rw [List.mem_take_iff_getElem]
      exact ⟨j, by omega, rfl⟩)
    simpa using this
  simp [idxI, this]
theorem idx_any (p : Int → Bool) (xs : List Int) : decide (idxI p xs ≥ 0) = xs.any p := by
  unfold idxI
  cases h : xs.findIdx? p with
  | none =>
    rw [List.findIdx?_eq_none_iff] at h
    have : xs.any p = false := by
      rw [List.any_eq_false]
      intro x hx; simp [h x hx]
    simp [this]
  | some i =>
    rw [List.findIdx?_eq_some_iff_getElem] at h
    obtain ⟨hi, hp, _⟩ := h
    have : xs.any p = true := List.any_eq_true.2 ⟨xs[i], List.getElem_mem hi, hp⟩
    simp [this]

theorem indexFunc (p : Int → Bool) (f : FuncId) (hf : ∀ n, Vs.Fn Try.prog f [] [.v (.int .i64 n)] (.v (.bool (p n))) []) (xs : List Int) (hx : xs.length ≤ 1048576) :
    Vs.Fn Try.prog F.slices_IndexFunc___int64_int64_ [] [.sl 1 (eI xs), .fn f []] (.v (.int .i64 (idxI p xs))) [] := by
  refine Cd.slices_IndexFunc___int64_int64__ok.fn Try.mixed 19 [.tmp 4] [] [] rfl rfl rfl (by simp) rfl (by simp) fun X => ?_
  unfold Cd.slices_IndexFunc___int64_int64_
  simp -dsimp only [Vs.wpc, Vs.vc, Vs.stepA, Vs.rd, Vs.al, Vs.look, Vs.put, Vs.keepL, Vs.evO, Vs.AV.ofValue, Vs.AV.mk, reduceIte, Nat.reduceEqDiff, Vs.retK, Vs.resL, Vs.resV, Vs.oneOr, Vs.ini, Vs.iniH, Vs.binI, Vs.binBool, true_and, Vs.conv, Vs.blksO, Vs.hlook, Vs.callL, Vs.borN, Vs.mapO, List.map, List.flatMap_nil, List.append_nil, List.nil_append, Vs.rn, Vs.aftL, Vs.newsL, Vs.oldsL, Option.getD_some, Option.getD_none, Vs.nodupB, List.length_map, eI_len, Int.toNat_natCast, Nat.zero_add, Bool.false_eq_true, Vs.idxN, Vs.convB, Option.bind_some, Vs.Blk.fz, eI_take, Vs.AV.has, Vs.phi, List.length_nil]
  refine SemW.loop (drawn_still Try.mixed) (fun i : { i : Nat // i ≤ xs.length ∧ (xs.take i).all (fun n => !p n) = true } => ⟨[(0, .sl 1 (eI xs)), (1, .fn f []), (7, .v (.int .i64 xs.length)), (8, .v (.int .i64 i.1))], []⟩) (fun i => xs.length - i.1) ⟨0, by simp⟩ ?_ ?_
  · simp [LeL, Vs.look]
  · rintro ⟨i, hi, hall⟩
    simp -dsimp only [Vs.wpc, Vs.vc, Vs.stepA, Vs.rd, Vs.al, Vs.look, Vs.put, Vs.keepL, Vs.evO, Vs.AV.ofValue, Vs.AV.mk, reduceIte, Nat.reduceEqDiff, Vs.retK, Vs.resL, Vs.resV, Vs.oneOr, Vs.ini, Vs.iniH, Vs.binI, Vs.binBool, true_and, Vs.conv, Vs.blksO, Vs.hlook, Vs.callL, Vs.borN, Vs.mapO, List.map, List.flatMap_nil, List.append_nil, List.nil_append, Vs.rn, Vs.aftL, Vs.newsL, Vs.oldsL, Option.getD_some, Option.getD_none, Vs.nodupB, List.length_map, eI_len, Int.toNat_natCast, Nat.zero_add, Bool.false_eq_true, Vs.idxN, Vs.convB, Option.bind_some, Vs.Blk.fz, eI_take, Vs.AV.has, Vs.phi, List.length_nil]
    refine ⟨fun h => ?_, fun h => ?_⟩
    · have hlt : i < xs.length := by simpa using h
      have hw : IntKind.i64.wrap ((i : Int) + 1) = ((i + 1 : Nat) : Int) := by rw [wrap_in (by omega) (by omega)]; omega
      simp only [eI_get xs i hlt]
      simp only [List.take, List.headD]
      simp -dsimp only [Vs.wpc, Vs.vc, Vs.stepA, Vs.rd, Vs.al, Vs.look, Vs.put, Vs.keepL, Vs.evO, Vs.AV.ofValue, Vs.AV.mk, reduceIte, Nat.reduceEqDiff, Vs.retK, Vs.resL, Vs.resV, Vs.oneOr, Vs.ini, Vs.iniH, Vs.binI, Vs.binBool, true_and, Vs.conv, Vs.blksO, Vs.hlook, Vs.callL, Vs.borN, Vs.mapO, List.map, List.flatMap_nil, List.append_nil, List.nil_append, Vs.rn, Vs.aftL, Vs.newsL, Vs.oldsL, Option.getD_some, Option.getD_none, Vs.nodupB, List.length_map, eI_len, Int.toNat_natCast, Nat.zero_add, Bool.false_eq_true, Vs.idxN, Vs.convB, Option.bind_some, Vs.Blk.fz, eI_take, Vs.AV.has, Vs.phi, List.length_nil]
      refine ⟨by omega, by simp, _, _, false, hf _, by simp, rfl, ?_⟩
      simp -dsimp only [Vs.wpc, Vs.vc, Vs.stepA, Vs.rd, Vs.al, Vs.look, Vs.put, Vs.keepL, Vs.evO, Vs.AV.ofValue, Vs.AV.mk, reduceIte, Nat.reduceEqDiff, Vs.retK, Vs.resL, Vs.resV, Vs.oneOr, Vs.ini, Vs.iniH, Vs.binI, Vs.binBool, true_and, Vs.conv, Vs.blksO, Vs.hlook, Vs.callL, Vs.borN, Vs.mapO, List.map, List.flatMap_nil, List.append_nil, List.nil_append, Vs.rn, Vs.aftL, Vs.newsL, Vs.oldsL, Option.getD_some, Option.getD_none, Vs.nodupB, List.length_map, eI_len, Int.toNat_natCast, Nat.zero_add, Bool.false_eq_true, Vs.idxN, Vs.convB, Option.bind_some, Vs.Blk.fz, eI_take, Vs.AV.has, Vs.phi, List.length_nil]
      refine ⟨fun hb => ?_, fun hb => ?_⟩
      · simp [idx_some hlt hall hb]
      · exact ⟨⟨i + 1, by omega, all_step hlt hall (by simpa using hb)⟩, by simp [LeL, Vs.look, hw], by show xs.length - (i + 1) < xs.length - i; omega⟩
    · have hge : i = xs.length := by
        have : ¬ i < xs.length := by simpa using h
        omega
      subst hge
      have := idx_none (all_of_take hall)
      simp [this]

theorem containsFunc (p : Int → Bool) (f : FuncId) (hf : ∀ n, Vs.Fn Try.prog f [] [.v (.int .i64 n)] (.v (.bool (p n))) []) (xs : List Int) (hx : xs.length ≤ 1048576) :
    Vs.Fn Try.prog F.slices_ContainsFunc___int64_int64_ [] [.sl 1 (eI xs), .fn f []] (.v (.bool (xs.any p))) [] := by
  refine Cd.slices_ContainsFunc___int64_int64__ok.fn Try.mixed 9 [.tmp 4] [] [] rfl rfl rfl (by simp) rfl (by simp) fun X => ?_
  unfold Cd.slices_ContainsFunc___int64_int64_
  simp -dsimp only [Vs.wpc, Vs.vc, Vs.stepA, Vs.rd, Vs.al, Vs.look, Vs.put, Vs.keepL, Vs.evO, Vs.AV.ofValue, Vs.AV.mk, reduceIte, Nat.reduceEqDiff, Vs.retK, Vs.resL, Vs.resV, Vs.oneOr, Vs.ini, Vs.iniH, Vs.binI, Vs.binBool, true_and, Vs.conv, Vs.blksO, Vs.hlook, Vs.callL, Vs.borN, Vs.mapO, List.map, List.flatMap_nil, List.append_nil, List.nil_append, Vs.rn, Vs.aftL, Vs.newsL, Vs.oldsL, Option.getD_some, Option.getD_none, Vs.nodupB, List.length_map, eI_len, Int.toNat_natCast, Nat.zero_add, Bool.false_eq_true, Vs.idxN, Vs.convB, Option.bind_some, Vs.Blk.fz, eI_take, Vs.AV.has, Vs.phi, List.length_nil]
  refine ⟨_, _, false, indexFunc p f hf xs hx, by simp, rfl, ?_⟩
  simp -dsimp only [Vs.wpc, Vs.vc, Vs.stepA, Vs.rd, Vs.al, Vs.look, Vs.put, Vs.keepL, Vs.evO, Vs.AV.ofValue, Vs.AV.mk, reduceIte, Nat.reduceEqDiff, Vs.retK, Vs.resL, Vs.resV, Vs.oneOr, Vs.ini, Vs.iniH, Vs.binI, Vs.binBool, true_and, Vs.conv, Vs.blksO, Vs.hlook, Vs.callL, Vs.borN, Vs.mapO, List.map, List.flatMap_nil, List.append_nil, List.nil_append, Vs.rn, Vs.aftL, Vs.newsL, Vs.oldsL, Option.getD_some, Option.getD_none, Vs.nodupB, List.length_map, eI_len, Int.toNat_natCast, Nat.zero_add, Bool.false_eq_true, Vs.idxN, Vs.convB, Option.bind_some, Vs.Blk.fz, eI_take, Vs.AV.has, Vs.phi, List.length_nil]
  simp [← idx_any]

theorem validAmounts1 (n : Int) : Vs.Fn Try.prog F.impl_ValidAmounts_1 [] [.v (.int .i64 n)] (.v (.bool (!amt n))) [] := by
  refine Cd.impl_ValidAmounts_1_ok.fn Try.mixed 6 [.tmp 2] [] [] rfl rfl rfl (by simp) rfl (by simp) fun X => ?_
  unfold Cd.impl_ValidAmounts_1
  simp -dsimp only [Vs.wpc, Vs.vc, Vs.stepA, Vs.rd, Vs.al, Vs.look, Vs.put, Vs.keepL, Vs.evO, Vs.AV.ofValue, Vs.AV.mk, reduceIte, Nat.reduceEqDiff, Vs.retK, Vs.resL, Vs.resV, Vs.oneOr, Vs.ini, Vs.iniH, Vs.binI, Vs.binBool, true_and, Vs.conv, Vs.blksO, Vs.hlook, Vs.callL, Vs.borN, Vs.mapO, List.map, List.flatMap_nil, List.append_nil, List.nil_append, Vs.rn, Vs.aftL, Vs.newsL, Vs.oldsL, Option.getD_some, Option.getD_none, Vs.nodupB, List.length_map, eI_len, Int.toNat_natCast, Nat.zero_add, Bool.false_eq_true, Vs.idxN, Vs.convB, Option.bind_some, Vs.Blk.fz, eI_take, Vs.AV.has, Vs.phi, List.length_nil]
  refine ⟨_, _, false, inside _ _ _, by simp, rfl, ?_⟩
  simp -dsimp only [Vs.wpc, Vs.vc, Vs.stepA, Vs.rd, Vs.al, Vs.look, Vs.put, Vs.keepL, Vs.evO, Vs.AV.ofValue, Vs.AV.mk, reduceIte, Nat.reduceEqDiff, Vs.retK, Vs.resL, Vs.resV, Vs.oneOr, Vs.ini, Vs.iniH, Vs.binI, Vs.binBool, true_and, Vs.conv, Vs.blksO, Vs.hlook, Vs.callL, Vs.borN, Vs.mapO, List.map, List.flatMap_nil, List.append_nil, List.nil_append, Vs.rn, Vs.aftL, Vs.newsL, Vs.oldsL, Option.getD_some, Option.getD_none, Vs.nodupB, List.length_map, eI_len, Int.toNat_natCast, Nat.zero_add, Bool.false_eq_true, Vs.idxN, Vs.convB, Option.bind_some, Vs.Blk.fz, eI_take, Vs.AV.has, Vs.phi, List.length_nil]
  simp [amt]

theorem impl_ValidAmounts (xs : List Int) (hx : xs.length ≤ 1048576) : Vs.Fn Try.prog F.impl_ValidAmounts [] [.sl 1 (eI xs)] (.v (.bool (amtsB xs))) [] := by
  refine Cd.impl_ValidAmounts_ok.fn Try.mixed 11 [.tmp 2] [] [] rfl rfl rfl (by simp) rfl (by simp) fun X => ?_
  unfold Cd.impl_ValidAmounts
  simp -dsimp only [Vs.wpc, Vs.vc, Vs.stepA, Vs.rd, Vs.al, Vs.look, Vs.put, Vs.keepL, Vs.evO, Vs.AV.ofValue, Vs.AV.mk, reduceIte, Nat.reduceEqDiff, Vs.retK, Vs.resL, Vs.resV, Vs.oneOr, Vs.ini, Vs.iniH, Vs.binI, Vs.binBool, true_and, Vs.conv, Vs.blksO, Vs.hlook, Vs.callL, Vs.borN, Vs.mapO, List.map, List.flatMap_nil, List.append_nil, List.nil_append, Vs.rn, Vs.aftL, Vs.newsL, Vs.oldsL, Option.getD_some, Option.getD_none, Vs.nodupB, List.length_map, eI_len, Int.toNat_natCast, Nat.zero_add, Bool.false_eq_true, Vs.idxN, Vs.convB, Option.bind_some, Vs.Blk.fz, eI_take, Vs.AV.has, Vs.phi, List.length_nil]
  cases hb : decide ((xs.length : Int) ≤ 12)
  · have h12 : ¬ xs.length ≤ 12 := by
      have := hb
      simp at this
      omega
    simp [amtsB, h12]
  · have h12 : xs.length ≤ 12 := by
      have := hb
      simp at this
      omega
    simp only [forall_const, Bool.not_true, reduceCtorEq, false_implies, and_true]
    refine ⟨_, _, false, containsFunc (fun n => !amt n) _ validAmounts1 xs hx, by simp, rfl, ?_⟩
    simp -dsimp only [Vs.wpc, Vs.vc, Vs.stepA, Vs.rd, Vs.al, Vs.look, Vs.put, Vs.keepL, Vs.evO, Vs.AV.ofValue, Vs.AV.mk, reduceIte, Nat.reduceEqDiff, Vs.retK, Vs.resL, Vs.resV, Vs.oneOr, Vs.ini, Vs.iniH, Vs.binI, Vs.binBool, true_and, Vs.conv, Vs.blksO, Vs.hlook, Vs.callL, Vs.borN, Vs.mapO, List.map, List.flatMap_nil, List.append_nil, List.nil_append, Vs.rn, Vs.aftL, Vs.newsL, Vs.oldsL, Option.getD_some, Option.getD_none, Vs.nodupB, List.length_map, eI_len, Int.toNat_natCast, Nat.zero_add, Bool.false_eq_true, Vs.idxN, Vs.convB, Option.bind_some, Vs.Blk.fz, eI_take, Vs.AV.has, Vs.phi, List.length_nil]
    have : (!xs.any fun n => !amt n) = amtsB xs := by
      simp [amtsB, h12, List.any_eq_not_all_not]
    simp [this]

theorem eqInt64S (xs ys : List Int) (hx : xs.length ≤ 1048576) : Vs.Fn Try.prog F.laws_eqInt64S [] [.sl 1 (eI xs), .sl 1 (eI ys)] (.v (.bool (decide (xs = ys)))) [] := by
  refine Cd.laws_eqInt64S_ok.fn Try.mixed 26 [.tmp 4] [] [] rfl rfl rfl (by simp) rfl (by simp) fun X => ?_
  unfold Cd.laws_eqInt64S
  simp -dsimp only [Vs.wpc, Vs.vc, Vs.stepA, Vs.rd, Vs.al, Vs.look, Vs.put, Vs.keepL, Vs.evO, Vs.AV.ofValue, Vs.AV.mk, reduceIte, Nat.reduceEqDiff, Vs.retK, Vs.resL, Vs.resV, Vs.oneOr, Vs.ini, Vs.iniH, Vs.binI, Vs.binBool, true_and, Vs.conv, Vs.blksO, Vs.hlook, Vs.callL, Vs.borN, Vs.mapO, List.map, List.flatMap_nil, List.append_nil, List.nil_append, Vs.rn, Vs.aftL, Vs.newsL, Vs.oldsL, Option.getD_some, Option.getD_none, Vs.nodupB, List.length_map, eI_len, Int.toNat_natCast, Nat.zero_add, Bool.false_eq_true, Vs.idxN, Vs.convB, Option.bind_some, Vs.Blk.fz, eI_take, Vs.AV.has, Vs.phi, List.length_nil]
  refine ⟨fun h => ?_, fun h => ?_⟩
  · have : xs ≠ ys := by rintro rfl; simp at h
    simp [this]
  · have hl : xs.length = ys.length := by
      have := h
      simp at this
      omega
    refine SemW.loop (drawn_still Try.mixed) (fun i : { i : Nat // i ≤ xs.length ∧ xs.take i = ys.take i } => ⟨[(0, .sl 1 (eI xs)), (1, .sl 1 (eI ys)), (5, .v (.int .i64 i.1))], []⟩) (fun i => xs.length - i.1) ⟨0, by simp⟩ ?_ ?_
    · simp [LeL, Vs.look]
    · rintro ⟨i, hi, hall⟩
      simp -dsimp only [Vs.wpc, Vs.vc, Vs.stepA, Vs.rd, Vs.al, Vs.look, Vs.put, Vs.keepL, Vs.evO, Vs.AV.ofValue, Vs.AV.mk, reduceIte, Nat.reduceEqDiff, Vs.retK, Vs.resL, Vs.resV, Vs.oneOr, Vs.ini, Vs.iniH, Vs.binI, Vs.binBool, true_and, Vs.conv, Vs.blksO, Vs.hlook, Vs.callL, Vs.borN, Vs.mapO, List.map, List.flatMap_nil, List.append_nil, List.nil_append, Vs.rn, Vs.aftL, Vs.newsL, Vs.oldsL, Option.getD_some, Option.getD_none, Vs.nodupB, List.length_map, eI_len, Int.toNat_natCast, Nat.zero_add, Bool.false_eq_true, Vs.idxN, Vs.convB, Option.bind_some, Vs.Blk.fz, eI_take, Vs.AV.has, Vs.phi, List.length_nil]
      refine ⟨fun h => ?_, fun h => ?_⟩
      · have hlt : i < xs.length := by simpa using h
        have hlt' : i < ys.length := by omega
        have hw : IntKind.i64.wrap ((i : Int) + 1) = ((i + 1 : Nat) : Int) := by rw [wrap_in (by omega) (by omega)]; omega
        simp only [eI_get xs i hlt, eI_get ys i hlt']
        simp only [List.take, List.headD]
        simp -dsimp only [Vs.wpc, Vs.vc, Vs.stepA, Vs.rd, Vs.al, Vs.look, Vs.put, Vs.keepL, Vs.evO, Vs.AV.ofValue, Vs.AV.mk, reduceIte, Nat.reduceEqDiff, Vs.retK, Vs.resL, Vs.resV, Vs.oneOr, Vs.ini, Vs.iniH, Vs.binI, Vs.binBool, true_and, Vs.conv, Vs.blksO, Vs.hlook, Vs.callL, Vs.borN, Vs.mapO, List.map, List.flatMap_nil, List.append_nil, List.nil_append, Vs.rn, Vs.aftL, Vs.newsL, Vs.oldsL, Option.getD_some, Option.getD_none, Vs.nodupB, List.length_map, eI_len, Int.toNat_natCast, Nat.zero_add, Bool.false_eq_true, Vs.idxN, Vs.convB, Option.bind_some, Vs.Blk.fz, eI_take, Vs.AV.has, Vs.phi, List.length_nil]
        refine ⟨by omega, by simp, by omega, by simp, fun hb => ?_, fun hb => ?_⟩
        · have : xs ≠ ys := by rintro rfl; simp at hb
          simp [this]
        · have : xs[i] = ys[i] := by simpa using hb
          refine ⟨⟨i + 1, by omega, ?_⟩, by simp [LeL, Vs.look, hw], by show xs.length - (i + 1) < xs.length - i; omega⟩
          rw [List.take_add_one, List.take_add_one, List.getElem?_eq_getElem hlt, List.getElem?_eq_getElem hlt', hall, this]
      · have hge : i = xs.length := by
          have : ¬ i < xs.length := by simpa using h
          omega
        subst hge
        have : xs = ys := by
          have h2 := hall
          rw [List.take_length, hl, List.take_length] at h2
          exact h2
        simp [this]
end Go.Proofs.Ytknoeihaonblbaa
