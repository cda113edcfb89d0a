/- A number that is read from its decimal form, and words: the reference's way. -/
import Derived.Test.YtpdmjalhahblmaaDoorVsB
import Derived.Test.YtpdmjalhahblmaaDoorXwHa
namespace Go.Proofs.YtpdmjalhahblmaaDoor
open Go.Vs
set_option linter.unusedSectionVars false
variable [Rd]
set_option linter.unusedSimpArgs false
set_option linter.unusedVariables false
attribute [local irreducible] Vs.Fn dcl
theorem valD_succ {l : List UInt8} {i : Nat} (h : i < l.length) : valD (l.take (i + 1)) = 10 * valD (l.take i) + ((l.getD i 0).toNat - 48) := by
  unfold valD
  rw [take_succ h, List.foldl_append]
  simp [List.getD, h]
theorem wrap_u8b {n : Int} (h0 : 0 ≤ n) (h1 : n ≤ 255) : IntKind.u8.wrap n = n := by
  simp [IntKind.wrap, IntKind.signed, IntKind.bits]
  omega
theorem isDig_Dg (b : Nat) : isDig (b : Int) = isDg b := by
  unfold isDig isDg
  rfl

def l01T : ACode := Vs.dropS 3 Cd.spec_l01Number
def l01L : ACode := Vs.dropS 4 Cd.spec_l01Number
def l01E : ACode := Vs.dropS 6 Cd.spec_l01Number
set_option maxHeartbeats 1000000 in
theorem l01E_w (C : Ctx) (N : St → Prop) (E : AExit → St → Prop) (s t : ByteArray) (n : Nat) (neg : Bool) (hn : n < 10 ^ 18) (hcmp : decide ((t.size : Int) < (s.size : Int)) = neg) {ss : List (Nat × AV)} (h0 : Vs.look ss 0 = .v (.string s)) (h4 : Vs.look ss 4 = .v (.string t)) (h5 : Vs.look ss 5 = .v (.int .i64 (n : Nat)))
    (hE1 : dcl (if neg then -(n : Int) else (n : Int)) = s → ∀ σ : St, Vs.look σ.s 2 = .v (.int .i64 (if neg then -(n : Int) else (n : Int))) → Vs.look σ.s 3 = .v (.bool true) → E .ret σ) (hE2 : ¬ dcl (if neg then -(n : Int) else (n : Int)) = s → ∀ σ : St, Vs.look σ.s 2 = .v (.int .i64 0) → Vs.look σ.s 3 = .v (.bool false) → E .ret σ) :
    wpc Tryd.prog C (drawnG Tryd.prog) l01E N E ⟨ss, []⟩ := by
  have e18 : (10 : Nat) ^ 18 = 1000000000000000000 := by decide
  rw [e18] at hn
  have hn1 : IntKind.i64.wrap (0 - (n : Int)) = -(n : Int) := by rw [wrap_in (by omega) (by omega)]; omega
  have hn2 : IntKind.i64.wrap (-(n : Int)) = -(n : Int) := wrap_in (by omega) (by omega)
  unfold l01E Cd.spec_l01Number
  simp only [Vs.dropS]
  cases neg
  · have LD := l01Dec (n : Int) (by omega) (by omega)
    simp only [Bool.false_eq_true, if_false] at hE1 hE2
    by_cases hq : dcl (n : Int) = s
    · have hq2 : ((dcl (n : Int)).toList == s.toList) = true := by rw [hq]; simp
      generalize dcl (n : Int) = d at *
      simp -dsimp only [go_sem, reduceIte, reduceCtorEq, Nat.reduceEqDiff, Nat.reduceLT, Nat.reduceLeDiff, Nat.reduceAdd, Nat.reduceMul, Nat.reduceSub, Int.reduceToNat, Int.reduceNeg, h0, h4, h5, hcmp, hn1, hn2, hq2]
      repeat' (first
        | (refine RgK.mk rfl ?_; simp -dsimp only [go_sem, reduceIte, reduceCtorEq, Nat.reduceEqDiff, Nat.reduceLT, Nat.reduceLeDiff, Nat.reduceAdd, Nat.reduceMul, Nat.reduceSub, Int.reduceToNat, Int.reduceNeg, h0, h4, h5, hcmp, hn1, hn2, hq2])
        | (refine Br.mk (fun h => ?_) (fun h => ?_) <;> simp -dsimp only [go_sem, reduceIte, reduceCtorEq, Nat.reduceEqDiff, Nat.reduceLT, Nat.reduceLeDiff, Nat.reduceAdd, Nat.reduceMul, Nat.reduceSub, Int.reduceToNat, Int.reduceNeg, h, h0, h4, h5, hcmp, hn1, hn2, hq2])
        | (refine CallK.flat (by first | exact LD) rfl ?_; simp -dsimp only [go_sem, reduceIte, reduceCtorEq, Nat.reduceEqDiff, Nat.reduceLT, Nat.reduceLeDiff, Nat.reduceAdd, Nat.reduceMul, Nat.reduceSub, Int.reduceToNat, Int.reduceNeg, h0, h4, h5, hcmp, hn1, hn2, hq2])
        | (refine CallK.pure (by first | exact LD) ?_; simp -dsimp only [go_sem, reduceIte, reduceCtorEq, Nat.reduceEqDiff, Nat.reduceLT, Nat.reduceLeDiff, Nat.reduceAdd, Nat.reduceMul, Nat.reduceSub, Int.reduceToNat, Int.reduceNeg, h0, h4, h5, hcmp, hn1, hn2, hq2])
        | (refine And.intro (by first | rfl | omega | decide | (refine ⟨?_, ?_⟩ <;> (first | rfl | omega | decide)) | (refine ⟨?_, ?_, ?_⟩ <;> (first | rfl | omega | decide)) | (refine ⟨?_, ?_, ?_, ?_⟩ <;> (first | rfl | omega | decide))) ?_; try simp -dsimp only [go_sem, reduceIte, reduceCtorEq, Nat.reduceEqDiff, Nat.reduceLT, Nat.reduceLeDiff, Nat.reduceAdd, Nat.reduceMul, Nat.reduceSub, Int.reduceToNat, Int.reduceNeg, h0, h4, h5, hcmp, hn1, hn2, hq2])
        | fail)

      all_goals exact hE1 hq _ rfl rfl
    · have hq2 : ((dcl (n : Int)).toList == s.toList) = false := by
        cases h : ((dcl (n : Int)).toList == s.toList)
        · rfl
        · exact (hq (bext (by simpa using h))).elim
      generalize dcl (n : Int) = d at *
      simp -dsimp only [go_sem, reduceIte, reduceCtorEq, Nat.reduceEqDiff, Nat.reduceLT, Nat.reduceLeDiff, Nat.reduceAdd, Nat.reduceMul, Nat.reduceSub, Int.reduceToNat, Int.reduceNeg, h0, h4, h5, hcmp, hn1, hn2, hq2]
      repeat' (first
        | (refine RgK.mk rfl ?_; simp -dsimp only [go_sem, reduceIte, reduceCtorEq, Nat.reduceEqDiff, Nat.reduceLT, Nat.reduceLeDiff, Nat.reduceAdd, Nat.reduceMul, Nat.reduceSub, Int.reduceToNat, Int.reduceNeg, h0, h4, h5, hcmp, hn1, hn2, hq2])
        | (refine Br.mk (fun h => ?_) (fun h => ?_) <;> simp -dsimp only [go_sem, reduceIte, reduceCtorEq, Nat.reduceEqDiff, Nat.reduceLT, Nat.reduceLeDiff, Nat.reduceAdd, Nat.reduceMul, Nat.reduceSub, Int.reduceToNat, Int.reduceNeg, h, h0, h4, h5, hcmp, hn1, hn2, hq2])
        | (refine CallK.flat (by first | exact LD) rfl ?_; simp -dsimp only [go_sem, reduceIte, reduceCtorEq, Nat.reduceEqDiff, Nat.reduceLT, Nat.reduceLeDiff, Nat.reduceAdd, Nat.reduceMul, Nat.reduceSub, Int.reduceToNat, Int.reduceNeg, h0, h4, h5, hcmp, hn1, hn2, hq2])
        | (refine CallK.pure (by first | exact LD) ?_; simp -dsimp only [go_sem, reduceIte, reduceCtorEq, Nat.reduceEqDiff, Nat.reduceLT, Nat.reduceLeDiff, Nat.reduceAdd, Nat.reduceMul, Nat.reduceSub, Int.reduceToNat, Int.reduceNeg, h0, h4, h5, hcmp, hn1, hn2, hq2])
        | (refine And.intro (by first | rfl | omega | decide | (refine ⟨?_, ?_⟩ <;> (first | rfl | omega | decide)) | (refine ⟨?_, ?_, ?_⟩ <;> (first | rfl | omega | decide)) | (refine ⟨?_, ?_, ?_, ?_⟩ <;> (first | rfl | omega | decide))) ?_; try simp -dsimp only [go_sem, reduceIte, reduceCtorEq, Nat.reduceEqDiff, Nat.reduceLT, Nat.reduceLeDiff, Nat.reduceAdd, Nat.reduceMul, Nat.reduceSub, Int.reduceToNat, Int.reduceNeg, h0, h4, h5, hcmp, hn1, hn2, hq2])
        | fail)

      all_goals exact hE2 hq _ rfl rfl
  · have LD := l01Dec (-(n : Int)) (by omega) (by omega)
    simp only [if_true] at hE1 hE2
    by_cases hq : dcl (-(n : Int)) = s
    · have hq2 : ((dcl (-(n : Int))).toList == s.toList) = true := by rw [hq]; simp
      generalize dcl (-(n : Int)) = d at *
      simp -dsimp only [go_sem, reduceIte, reduceCtorEq, Nat.reduceEqDiff, Nat.reduceLT, Nat.reduceLeDiff, Nat.reduceAdd, Nat.reduceMul, Nat.reduceSub, Int.reduceToNat, Int.reduceNeg, h0, h4, h5, hcmp, hn1, hn2, hq2]
      repeat' (first
        | (refine RgK.mk rfl ?_; simp -dsimp only [go_sem, reduceIte, reduceCtorEq, Nat.reduceEqDiff, Nat.reduceLT, Nat.reduceLeDiff, Nat.reduceAdd, Nat.reduceMul, Nat.reduceSub, Int.reduceToNat, Int.reduceNeg, h0, h4, h5, hcmp, hn1, hn2, hq2])
        | (refine Br.mk (fun h => ?_) (fun h => ?_) <;> simp -dsimp only [go_sem, reduceIte, reduceCtorEq, Nat.reduceEqDiff, Nat.reduceLT, Nat.reduceLeDiff, Nat.reduceAdd, Nat.reduceMul, Nat.reduceSub, Int.reduceToNat, Int.reduceNeg, h, h0, h4, h5, hcmp, hn1, hn2, hq2])
        | (refine CallK.flat (by first | exact LD) rfl ?_; simp -dsimp only [go_sem, reduceIte, reduceCtorEq, Nat.reduceEqDiff, Nat.reduceLT, Nat.reduceLeDiff, Nat.reduceAdd, Nat.reduceMul, Nat.reduceSub, Int.reduceToNat, Int.reduceNeg, h0, h4, h5, hcmp, hn1, hn2, hq2])
        | (refine CallK.pure (by first | exact LD) ?_; simp -dsimp only [go_sem, reduceIte, reduceCtorEq, Nat.reduceEqDiff, Nat.reduceLT, Nat.reduceLeDiff, Nat.reduceAdd, Nat.reduceMul, Nat.reduceSub, Int.reduceToNat, Int.reduceNeg, h0, h4, h5, hcmp, hn1, hn2, hq2])
        | (refine And.intro (by first | rfl | omega | decide | (refine ⟨?_, ?_⟩ <;> (first | rfl | omega | decide)) | (refine ⟨?_, ?_, ?_⟩ <;> (first | rfl | omega | decide)) | (refine ⟨?_, ?_, ?_, ?_⟩ <;> (first | rfl | omega | decide))) ?_; try simp -dsimp only [go_sem, reduceIte, reduceCtorEq, Nat.reduceEqDiff, Nat.reduceLT, Nat.reduceLeDiff, Nat.reduceAdd, Nat.reduceMul, Nat.reduceSub, Int.reduceToNat, Int.reduceNeg, h0, h4, h5, hcmp, hn1, hn2, hq2])
        | fail)

      all_goals exact hE1 hq _ rfl rfl
    · have hq2 : ((dcl (-(n : Int))).toList == s.toList) = false := by
        cases h : ((dcl (-(n : Int))).toList == s.toList)
        · rfl
        · exact (hq (bext (by simpa using h))).elim
      generalize dcl (-(n : Int)) = d at *
      simp -dsimp only [go_sem, reduceIte, reduceCtorEq, Nat.reduceEqDiff, Nat.reduceLT, Nat.reduceLeDiff, Nat.reduceAdd, Nat.reduceMul, Nat.reduceSub, Int.reduceToNat, Int.reduceNeg, h0, h4, h5, hcmp, hn1, hn2, hq2]
      repeat' (first
        | (refine RgK.mk rfl ?_; simp -dsimp only [go_sem, reduceIte, reduceCtorEq, Nat.reduceEqDiff, Nat.reduceLT, Nat.reduceLeDiff, Nat.reduceAdd, Nat.reduceMul, Nat.reduceSub, Int.reduceToNat, Int.reduceNeg, h0, h4, h5, hcmp, hn1, hn2, hq2])
        | (refine Br.mk (fun h => ?_) (fun h => ?_) <;> simp -dsimp only [go_sem, reduceIte, reduceCtorEq, Nat.reduceEqDiff, Nat.reduceLT, Nat.reduceLeDiff, Nat.reduceAdd, Nat.reduceMul, Nat.reduceSub, Int.reduceToNat, Int.reduceNeg, h, h0, h4, h5, hcmp, hn1, hn2, hq2])
        | (refine CallK.flat (by first | exact LD) rfl ?_; simp -dsimp only [go_sem, reduceIte, reduceCtorEq, Nat.reduceEqDiff, Nat.reduceLT, Nat.reduceLeDiff, Nat.reduceAdd, Nat.reduceMul, Nat.reduceSub, Int.reduceToNat, Int.reduceNeg, h0, h4, h5, hcmp, hn1, hn2, hq2])
        | (refine CallK.pure (by first | exact LD) ?_; simp -dsimp only [go_sem, reduceIte, reduceCtorEq, Nat.reduceEqDiff, Nat.reduceLT, Nat.reduceLeDiff, Nat.reduceAdd, Nat.reduceMul, Nat.reduceSub, Int.reduceToNat, Int.reduceNeg, h0, h4, h5, hcmp, hn1, hn2, hq2])
        | (refine And.intro (by first | rfl | omega | decide | (refine ⟨?_, ?_⟩ <;> (first | rfl | omega | decide)) | (refine ⟨?_, ?_, ?_⟩ <;> (first | rfl | omega | decide)) | (refine ⟨?_, ?_, ?_, ?_⟩ <;> (first | rfl | omega | decide))) ?_; try simp -dsimp only [go_sem, reduceIte, reduceCtorEq, Nat.reduceEqDiff, Nat.reduceLT, Nat.reduceLeDiff, Nat.reduceAdd, Nat.reduceMul, Nat.reduceSub, Int.reduceToNat, Int.reduceNeg, h0, h4, h5, hcmp, hn1, hn2, hq2])
        | fail)

      all_goals exact hE2 hq _ rfl rfl

set_option maxHeartbeats 1000000 in
theorem l01L_w (C : Ctx) (N : St → Prop) (E : AExit → St → Prop) (s t : ByteArray) (neg : Bool) (hsz : t.size ≤ 18) {ss : List (Nat × AV)} (h0 : Vs.look ss 0 = .v (.string s)) (h4 : Vs.look ss 4 = .v (.string t))
    (hF : t.data.toList.all (fun b => isDg b.toNat) = false → ∀ σ : St, Vs.look σ.s 2 = .v (.int .i64 0) → Vs.look σ.s 3 = .v (.bool false) → E .ret σ)
    (hT : t.data.toList.all (fun b => isDg b.toNat) = true → ∀ ss' : List (Nat × AV), Vs.look ss' 0 = .v (.string s) → Vs.look ss' 4 = .v (.string t) → Vs.look ss' 5 = .v (.int .i64 (valD t.data.toList : Nat)) → wpc Tryd.prog C (drawnG Tryd.prog) l01E N E ⟨ss', []⟩) :
    wpc Tryd.prog C (drawnG Tryd.prog) l01L N E ⟨ss, []⟩ := by
  have hlen : t.data.toList.length = t.size := by rw [Array.length_toList]; rfl
  have hcode : l01L = .seq (.region [⟨some 5, .mv (.const (.int .i64 (0))), none⟩] [0, 4, 5] []) (.seq (match (Vs.dropS 5 Cd.spec_l01Number) with | .seq a _ => a | x => x) l01E) := rfl
  rw [hcode]
  unfold Cd.spec_l01Number
  simp only [Vs.dropS]
  generalize l01E = LE at *
  simp -dsimp only [go_sem, reduceIte, reduceCtorEq, Nat.reduceEqDiff, Nat.reduceLT, Nat.reduceLeDiff, Nat.reduceAdd, Nat.reduceMul, Nat.reduceSub, Int.reduceToNat, Int.reduceNeg, h0, h4, valD, Int.toNat_natCast]
  repeat' (first
    | (refine RgK.mk rfl ?_; simp -dsimp only [go_sem, reduceIte, reduceCtorEq, Nat.reduceEqDiff, Nat.reduceLT, Nat.reduceLeDiff, Nat.reduceAdd, Nat.reduceMul, Nat.reduceSub, Int.reduceToNat, Int.reduceNeg, h0, h4, Int.toNat_natCast])
    | (refine Br.mk (fun h => ?_) (fun h => ?_) <;> simp -dsimp only [go_sem, reduceIte, reduceCtorEq, Nat.reduceEqDiff, Nat.reduceLT, Nat.reduceLeDiff, Nat.reduceAdd, Nat.reduceMul, Nat.reduceSub, Int.reduceToNat, Int.reduceNeg, h, h0, h4, Int.toNat_natCast])
    | (refine And.intro (by first | rfl | omega | decide | (refine ⟨?_, ?_⟩ <;> (first | rfl | omega | decide)) | (refine ⟨?_, ?_, ?_⟩ <;> (first | rfl | omega | decide)) | (refine ⟨?_, ?_, ?_, ?_⟩ <;> (first | rfl | omega | decide))) ?_; try simp -dsimp only [go_sem, reduceIte, reduceCtorEq, Nat.reduceEqDiff, Nat.reduceLT, Nat.reduceLeDiff, Nat.reduceAdd, Nat.reduceMul, Nat.reduceSub, Int.reduceToNat, Int.reduceNeg, h0, h4, Int.toNat_natCast])
    | fail)

  refine LoopK.at (drawn_ok Tryd.mixed) (X := { i : Nat // i ≤ t.size ∧ (t.data.toList.take i).all (fun b => isDg b.toNat) = true }) (fun i => [(5, .v (.int .i64 (valD (t.data.toList.take i.1) : Nat))), (6, .v (.int .i64 (i.1 : Nat)))]) (fun i => []) (fun i => t.size - i.1) ⟨0, by simp⟩ ?_ ?_
  · simp [Vs.LeL, Vs.look, Vs.hlook, Vs.sput, Vs.sputs, Vs.hset, Vs.hputs, valD, h0, h4]
  · rintro ⟨i, hi, hg⟩
    try dsimp only at hi hg
    simp -dsimp only [go_sem, reduceIte, reduceCtorEq, Nat.reduceEqDiff, Nat.reduceLT, Nat.reduceLeDiff, Nat.reduceAdd, Nat.reduceMul, Nat.reduceSub, Int.reduceToNat, Int.reduceNeg, h0, h4, Int.toNat_natCast]
    refine Br.mk (fun hc => ?_) fun hc => ?_
    · have hlt : i < t.size := by have := of_decide_eq_true hc; omega
      have hw := wrap_succ hlt (by omega)
      have hil : i < t.data.toList.length := by omega
      have hbb : (t.data.toList.getD i 0).toNat ≤ 255 := by
        have := (t.data.toList.getD i 0).toNat_lt
        omega
      have hvs := valD_succ hil
      have hvl := valD_small (t := t.data.toList.take i) hg (by rw [List.length_take]; omega)
      have hvl2 : valD (t.data.toList.take i) < 10 ^ i := by
        have := foldl_lt (t.data.toList.take i) 0 0 hg (by decide)
        rw [Nat.zero_add, List.length_take, Nat.min_eq_left (by omega)] at this
        exact this
      have hp17 : 10 ^ i ≤ 10 ^ 17 := Nat.pow_le_pow_right (by decide) (by omega)
      have e17 : (10 : Nat) ^ 17 = 100000000000000000 := by decide
      rw [e17] at hp17
      have hv17 : valD (t.data.toList.take i) < 100000000000000000 := by omega
      clear hvl hvl2 hp17 e17
      have hg2 : (t.data.toList.take (i + 1)).all (fun b => isDg b.toNat) = isDg (t.data.toList.getD i 0).toNat := by
        have e : t.data.toList.getD i 0 = t.data.toList[i] := by rw [List.getD_eq_getElem?_getD, List.getElem?_eq_getElem hil]; rfl
        rw [take_succ hil, List.all_append, hg, Bool.true_and, List.all_cons, List.all_nil, Bool.and_true, e]
      generalize hb : (t.data.toList.getD i 0).toNat = b at *
      generalize valD (t.data.toList.take i) = v at *
      have LDg := l01Digit b
      rw [isDig_Dg] at LDg
      cases hd : isDg b
      · have hal : t.data.toList.all (fun b => isDg b.toNat) = false := by
          rw [hd] at hg2
          cases h : t.data.toList.all (fun b => isDg b.toNat)
          · rfl
          · rw [List.all_eq_true] at h
            have : (t.data.toList.take (i + 1)).all (fun b => isDg b.toNat) = true := List.all_eq_true.2 fun x hx => h x (List.mem_of_mem_take hx)
            rw [this] at hg2; cases hg2
        simp -dsimp only [go_sem, reduceIte, reduceCtorEq, Nat.reduceEqDiff, Nat.reduceLT, Nat.reduceLeDiff, Nat.reduceAdd, Nat.reduceMul, Nat.reduceSub, Int.reduceToNat, Int.reduceNeg, h0, h4, hw, hb, hd, Int.toNat_natCast]
        repeat' (first
          | (refine RgK.mk rfl ?_; simp -dsimp only [go_sem, reduceIte, reduceCtorEq, Nat.reduceEqDiff, Nat.reduceLT, Nat.reduceLeDiff, Nat.reduceAdd, Nat.reduceMul, Nat.reduceSub, Int.reduceToNat, Int.reduceNeg, h0, h4, hw, hb, hd, Int.toNat_natCast])
          | (refine Br.mk (fun h => ?_) (fun h => ?_) <;> simp -dsimp only [go_sem, reduceIte, reduceCtorEq, Nat.reduceEqDiff, Nat.reduceLT, Nat.reduceLeDiff, Nat.reduceAdd, Nat.reduceMul, Nat.reduceSub, Int.reduceToNat, Int.reduceNeg, h, h0, h4, hw, hb, hd, Int.toNat_natCast])
          | (refine CallK.flat (by first | exact LDg) rfl ?_; simp -dsimp only [go_sem, reduceIte, reduceCtorEq, Nat.reduceEqDiff, Nat.reduceLT, Nat.reduceLeDiff, Nat.reduceAdd, Nat.reduceMul, Nat.reduceSub, Int.reduceToNat, Int.reduceNeg, h0, h4, hw, hb, hd, Int.toNat_natCast])
          | (refine CallK.pure (by first | exact LDg) ?_; simp -dsimp only [go_sem, reduceIte, reduceCtorEq, Nat.reduceEqDiff, Nat.reduceLT, Nat.reduceLeDiff, Nat.reduceAdd, Nat.reduceMul, Nat.reduceSub, Int.reduceToNat, Int.reduceNeg, h0, h4, hw, hb, hd, Int.toNat_natCast])
          | (refine And.intro (by first | rfl | omega | decide | exact ⟨by omega, by omega⟩ | (refine ⟨?_, ?_⟩ <;> (first | rfl | omega | decide | exact ⟨by omega, by omega⟩)) | (refine ⟨?_, ?_, ?_⟩ <;> (first | rfl | omega | decide | exact ⟨by omega, by omega⟩)) | (refine ⟨?_, ?_, ?_, ?_⟩ <;> (first | rfl | omega | decide | exact ⟨by omega, by omega⟩))) ?_; try simp -dsimp only [go_sem, reduceIte, reduceCtorEq, Nat.reduceEqDiff, Nat.reduceLT, Nat.reduceLeDiff, Nat.reduceAdd, Nat.reduceMul, Nat.reduceSub, Int.reduceToNat, Int.reduceNeg, h0, h4, hw, hb, hd, Int.toNat_natCast])
          | fail)

        all_goals first | exact hF hal _ rfl rfl | omega | trace_state
      · rw [hd] at hg2
        have hd2 := isDg_iff.1 hd
        have q1 : IntKind.i64.wrap (10 * (v : Int)) = ((10 * v : Nat) : Int) := by rw [wrap_in (by omega) (by omega)]; omega
        have q2 : IntKind.u8.wrap ((b : Int) - 48) = ((b - 48 : Nat) : Int) := by rw [wrap_u8b (by omega) (by omega)]; omega
        have q3 : IntKind.i64.wrap ((b - 48 : Nat) : Int) = ((b - 48 : Nat) : Int) := wrap_in (by omega) (by omega)
        have q4 : IntKind.i64.wrap (((10 * v : Nat) : Int) + ((b - 48 : Nat) : Int)) = ((10 * v + (b - 48) : Nat) : Int) := by rw [wrap_in (by omega) (by omega)]; omega
        simp -dsimp only [go_sem, reduceIte, reduceCtorEq, Nat.reduceEqDiff, Nat.reduceLT, Nat.reduceLeDiff, Nat.reduceAdd, Nat.reduceMul, Nat.reduceSub, Int.reduceToNat, Int.reduceNeg, h0, h4, hw, hb, hd, Int.toNat_natCast]
        repeat' (first
          | (refine RgK.mk rfl ?_; simp -dsimp only [go_sem, reduceIte, reduceCtorEq, Nat.reduceEqDiff, Nat.reduceLT, Nat.reduceLeDiff, Nat.reduceAdd, Nat.reduceMul, Nat.reduceSub, Int.reduceToNat, Int.reduceNeg, h0, h4, hw, hb, hd, q1, q2, q3, q4, Int.toNat_natCast])
          | (refine Br.mk (fun h => ?_) (fun h => ?_) <;> simp -dsimp only [go_sem, reduceIte, reduceCtorEq, Nat.reduceEqDiff, Nat.reduceLT, Nat.reduceLeDiff, Nat.reduceAdd, Nat.reduceMul, Nat.reduceSub, Int.reduceToNat, Int.reduceNeg, h, h0, h4, hw, hb, hd, q1, q2, q3, q4, Int.toNat_natCast])
          | (refine CallK.flat (by first | exact LDg) rfl ?_; simp -dsimp only [go_sem, reduceIte, reduceCtorEq, Nat.reduceEqDiff, Nat.reduceLT, Nat.reduceLeDiff, Nat.reduceAdd, Nat.reduceMul, Nat.reduceSub, Int.reduceToNat, Int.reduceNeg, h0, h4, hw, hb, hd, q1, q2, q3, q4, Int.toNat_natCast])
          | (refine CallK.pure (by first | exact LDg) ?_; simp -dsimp only [go_sem, reduceIte, reduceCtorEq, Nat.reduceEqDiff, Nat.reduceLT, Nat.reduceLeDiff, Nat.reduceAdd, Nat.reduceMul, Nat.reduceSub, Int.reduceToNat, Int.reduceNeg, h0, h4, hw, hb, hd, q1, q2, q3, q4, Int.toNat_natCast])
          | (refine And.intro (by first | rfl | omega | decide | exact ⟨by omega, by omega⟩ | (refine ⟨?_, ?_⟩ <;> (first | rfl | omega | decide | exact ⟨by omega, by omega⟩)) | (refine ⟨?_, ?_, ?_⟩ <;> (first | rfl | omega | decide | exact ⟨by omega, by omega⟩)) | (refine ⟨?_, ?_, ?_, ?_⟩ <;> (first | rfl | omega | decide | exact ⟨by omega, by omega⟩))) ?_; try simp -dsimp only [go_sem, reduceIte, reduceCtorEq, Nat.reduceEqDiff, Nat.reduceLT, Nat.reduceLeDiff, Nat.reduceAdd, Nat.reduceMul, Nat.reduceSub, Int.reduceToNat, Int.reduceNeg, h0, h4, hw, hb, hd, q1, q2, q3, q4, Int.toNat_natCast])
          | fail)

        all_goals first | omega | (refine ⟨⟨i + 1, hlt, hg2⟩, ?_, by simp only; omega⟩; simp [Vs.LeL, Vs.look, Vs.hlook, Vs.sput, Vs.sputs, Vs.hset, Vs.hputs, hvs, h0, h4]; done) | trace_state
    · have hge : i = t.size := by have := of_decide_eq_false hc; omega
      subst hge
      have hga : t.data.toList.all (fun b => isDg b.toNat) = true := by
        rw [List.take_of_length_le (by omega)] at hg; exact hg
      have htk : t.data.toList.take t.size = t.data.toList := List.take_of_length_le (by omega)
      try simp -dsimp only [go_sem, reduceIte, reduceCtorEq, Nat.reduceEqDiff, Nat.reduceLT, Nat.reduceLeDiff, Nat.reduceAdd, Nat.reduceMul, Nat.reduceSub, Int.reduceToNat, Int.reduceNeg, h0, h4, Int.toNat_natCast]
      refine ⟨?_, fun h => absurd rfl h⟩
      refine hT hga _ ?_ ?_ ?_ <;> simp [Vs.look, h0, h4, htk]

/-- what l01Number gives -/
def rdN (s : ByteArray) : Int × Bool := rdNL s.data.toList
theorem rdI_rdN (s : ByteArray) : rdI s = rdN s := rd_eq _
theorem hemp (x : ByteArray) : (x.toList == (⟨#[]⟩ : ByteArray).toList) = decide (x.size = 0) := by
  rw [ByteArray.toList_eq, ByteArray.toList_eq]
  have e : x.size = x.data.toList.length := by rw [Array.length_toList]; rfl
  rw [e]
  cases x.data.toList <;> simp
theorem drop1 (s : ByteArray) : (s.extract 1 s.size).data.toList = s.data.toList.drop 1 := Lib.extract_to_end s 1
/-- the text without its sign -/
theorem rdL_w (C : Ctx) (s t : ByteArray) (neg : Bool) (hcmp : decide ((t.size : Int) < (s.size : Int)) = neg) (hR : rdN s = rdL s.data.toList t.data.toList neg) {ss : List (Nat × AV)} (h0 : Vs.look ss 0 = .v (.string s)) (h4 : Vs.look ss 4 = .v (.string t)) (hs : s.size ≤ 1048576) (ht : t.size ≤ s.size) :
    wpc Tryd.prog C (drawnG Tryd.prog) l01T (Vs.retK Tryd.prog [.tmp 2, .tmp 3] [] (.tup [.v (.int .i64 (rdN s).1), .v (.bool (rdN s).2)]) []) (fun e σ => match e with | .ret => Vs.retK Tryd.prog [.tmp 2, .tmp 3] [] (.tup [.v (.int .i64 (rdN s).1), .v (.bool (rdN s).2)]) [] σ | .exit _ => False) ⟨ss, []⟩ := by
  have hlen : t.data.toList.length = t.size := by rw [Array.length_toList]; rfl
  have key : ∀ (σ : St) (a : Int) (b : Bool), rdN s = (a, b) → Vs.look σ.s 2 = .v (.int .i64 a) → Vs.look σ.s 3 = .v (.bool b) → Vs.retK Tryd.prog [.tmp 2, .tmp 3] [] (.tup [.v (.int .i64 (rdN s).1), .v (.bool (rdN s).2)]) [] σ := fun σ a b e h2 h3 => by
    rw [e]
    simp [Vs.retK, Vs.resL, Vs.resV, h2, h3, Vs.oneOr, conv, mapO, blksO, isClo]
  have hcode : l01T = .seq (match l01T with | .seq a _ => a | x => x) l01L := rfl
  rw [hcode]
  unfold l01T Cd.spec_l01Number
  simp only [Vs.dropS]
  by_cases hsz : t.size < 1 ∨ 18 < t.size
  · have hz : rdN s = (0, false) := by rw [hR]; unfold rdL; rw [if_pos (by rw [hlen]; exact hsz)]
    generalize l01L = LL at *
    by_cases h1 : t.size < 1
    · have e1 : decide ((t.size : Int) < 1) = true := decide_eq_true (by omega)
      simp -dsimp only [go_sem, reduceIte, reduceCtorEq, Nat.reduceEqDiff, Nat.reduceLT, Nat.reduceLeDiff, Nat.reduceAdd, Nat.reduceMul, Nat.reduceSub, Int.reduceToNat, Int.reduceNeg, h0, h4, e1, Int.toNat_natCast]
      repeat' (first
        | (refine RgK.mk rfl ?_; simp -dsimp only [go_sem, reduceIte, reduceCtorEq, Nat.reduceEqDiff, Nat.reduceLT, Nat.reduceLeDiff, Nat.reduceAdd, Nat.reduceMul, Nat.reduceSub, Int.reduceToNat, Int.reduceNeg, h0, h4, e1, Int.toNat_natCast])
        | (refine Br.mk (fun h => ?_) (fun h => ?_) <;> simp -dsimp only [go_sem, reduceIte, reduceCtorEq, Nat.reduceEqDiff, Nat.reduceLT, Nat.reduceLeDiff, Nat.reduceAdd, Nat.reduceMul, Nat.reduceSub, Int.reduceToNat, Int.reduceNeg, h, h0, h4, e1, Int.toNat_natCast])
        | (refine And.intro (by first | rfl | omega | decide | (refine ⟨?_, ?_⟩ <;> (first | rfl | omega | decide)) | (refine ⟨?_, ?_, ?_⟩ <;> (first | rfl | omega | decide)) | (refine ⟨?_, ?_, ?_, ?_⟩ <;> (first | rfl | omega | decide))) ?_; try simp -dsimp only [go_sem, reduceIte, reduceCtorEq, Nat.reduceEqDiff, Nat.reduceLT, Nat.reduceLeDiff, Nat.reduceAdd, Nat.reduceMul, Nat.reduceSub, Int.reduceToNat, Int.reduceNeg, h0, h4, e1, Int.toNat_natCast])
        | fail)

      all_goals first | exact key _ _ _ hz rfl rfl | (rw [hz]; exact ⟨_, _, rfl, rfl⟩) | trace_state
    · have e1 : decide ((t.size : Int) < 1) = false := decide_eq_false (by omega)
      have e2 : decide ((t.size : Int) > 18) = true := decide_eq_true (by omega)
      simp -dsimp only [go_sem, reduceIte, reduceCtorEq, Nat.reduceEqDiff, Nat.reduceLT, Nat.reduceLeDiff, Nat.reduceAdd, Nat.reduceMul, Nat.reduceSub, Int.reduceToNat, Int.reduceNeg, h0, h4, e1, e2, Int.toNat_natCast]
      repeat' (first
        | (refine RgK.mk rfl ?_; simp -dsimp only [go_sem, reduceIte, reduceCtorEq, Nat.reduceEqDiff, Nat.reduceLT, Nat.reduceLeDiff, Nat.reduceAdd, Nat.reduceMul, Nat.reduceSub, Int.reduceToNat, Int.reduceNeg, h0, h4, e1, e2, Int.toNat_natCast])
        | (refine Br.mk (fun h => ?_) (fun h => ?_) <;> simp -dsimp only [go_sem, reduceIte, reduceCtorEq, Nat.reduceEqDiff, Nat.reduceLT, Nat.reduceLeDiff, Nat.reduceAdd, Nat.reduceMul, Nat.reduceSub, Int.reduceToNat, Int.reduceNeg, h, h0, h4, e1, e2, Int.toNat_natCast])
        | (refine And.intro (by first | rfl | omega | decide | (refine ⟨?_, ?_⟩ <;> (first | rfl | omega | decide)) | (refine ⟨?_, ?_, ?_⟩ <;> (first | rfl | omega | decide)) | (refine ⟨?_, ?_, ?_, ?_⟩ <;> (first | rfl | omega | decide))) ?_; try simp -dsimp only [go_sem, reduceIte, reduceCtorEq, Nat.reduceEqDiff, Nat.reduceLT, Nat.reduceLeDiff, Nat.reduceAdd, Nat.reduceMul, Nat.reduceSub, Int.reduceToNat, Int.reduceNeg, h0, h4, e1, e2, Int.toNat_natCast])
        | fail)

      all_goals first | exact key _ _ _ hz rfl rfl | (rw [hz]; exact ⟨_, _, rfl, rfl⟩) | trace_state
  · have e1 : decide ((t.size : Int) < 1) = false := decide_eq_false (by omega)
    have e2 : decide ((t.size : Int) > 18) = false := decide_eq_false (by omega)
    have hLL : ∀ ss' : List (Nat × AV), Vs.look ss' 0 = .v (.string s) → Vs.look ss' 4 = .v (.string t) → wpc Tryd.prog C (drawnG Tryd.prog) l01L (Vs.retK Tryd.prog [.tmp 2, .tmp 3] [] (.tup [.v (.int .i64 (rdN s).1), .v (.bool (rdN s).2)]) []) (fun e σ => match e with | .ret => Vs.retK Tryd.prog [.tmp 2, .tmp 3] [] (.tup [.v (.int .i64 (rdN s).1), .v (.bool (rdN s).2)]) [] σ | .exit _ => False) ⟨ss', []⟩ := fun ss' g0 g4 => by
      refine l01L_w C (Vs.retK Tryd.prog [.tmp 2, .tmp 3] [] (.tup [.v (.int .i64 (rdN s).1), .v (.bool (rdN s).2)]) []) (fun e σ => match e with | .ret => Vs.retK Tryd.prog [.tmp 2, .tmp 3] [] (.tup [.v (.int .i64 (rdN s).1), .v (.bool (rdN s).2)]) [] σ | .exit _ => False) s t neg (by omega) g0 g4 (fun hF σ q2 q3 => ?_) fun hT ss2 k0 k4 k5 => ?_
      · refine key σ _ _ ?_ q2 q3
        rw [hR]; unfold rdL; rw [if_neg (by rw [hlen]; exact hsz), hF]; rfl
      · have hv := valD_small hT (by omega)
        have hRR : rdN s = if Lib.itoa (if neg then -(valD t.data.toList : Int) else (valD t.data.toList : Int)) == s.data.toList then ((if neg then -(valD t.data.toList : Int) else (valD t.data.toList : Int)), true) else (0, false) := by
          rw [hR]; unfold rdL; rw [if_neg (by rw [hlen]; exact hsz), hT]; rfl
        refine l01E_w C (Vs.retK Tryd.prog [.tmp 2, .tmp 3] [] (.tup [.v (.int .i64 (rdN s).1), .v (.bool (rdN s).2)]) []) (fun e σ => match e with | .ret => Vs.retK Tryd.prog [.tmp 2, .tmp 3] [] (.tup [.v (.int .i64 (rdN s).1), .v (.bool (rdN s).2)]) [] σ | .exit _ => False) s t _ neg hv hcmp k0 k4 k5 (fun e σ q2 q3 => key σ _ _ ?_ q2 q3) (fun e σ q2 q3 => key σ _ _ ?_ q2 q3)
        · rw [hRR, dcl_eq, decide_eq_true e, if_pos rfl]
        · rw [hRR, dcl_eq, decide_eq_false e]; rfl
    generalize l01L = LL at *
    simp -dsimp only [go_sem, reduceIte, reduceCtorEq, Nat.reduceEqDiff, Nat.reduceLT, Nat.reduceLeDiff, Nat.reduceAdd, Nat.reduceMul, Nat.reduceSub, Int.reduceToNat, Int.reduceNeg, h0, h4, e1, e2, Int.toNat_natCast]
    repeat' (first
      | (refine RgK.mk rfl ?_; simp -dsimp only [go_sem, reduceIte, reduceCtorEq, Nat.reduceEqDiff, Nat.reduceLT, Nat.reduceLeDiff, Nat.reduceAdd, Nat.reduceMul, Nat.reduceSub, Int.reduceToNat, Int.reduceNeg, h0, h4, e1, e2, Int.toNat_natCast])
      | (refine Br.mk (fun h => ?_) (fun h => ?_) <;> simp -dsimp only [go_sem, reduceIte, reduceCtorEq, Nat.reduceEqDiff, Nat.reduceLT, Nat.reduceLeDiff, Nat.reduceAdd, Nat.reduceMul, Nat.reduceSub, Int.reduceToNat, Int.reduceNeg, h, h0, h4, e1, e2, Int.toNat_natCast])
      | (refine And.intro (by first | rfl | omega | decide | (refine ⟨?_, ?_⟩ <;> (first | rfl | omega | decide)) | (refine ⟨?_, ?_, ?_⟩ <;> (first | rfl | omega | decide)) | (refine ⟨?_, ?_, ?_, ?_⟩ <;> (first | rfl | omega | decide))) ?_; try simp -dsimp only [go_sem, reduceIte, reduceCtorEq, Nat.reduceEqDiff, Nat.reduceLT, Nat.reduceLeDiff, Nat.reduceAdd, Nat.reduceMul, Nat.reduceSub, Int.reduceToNat, Int.reduceNeg, h0, h4, e1, e2, Int.toNat_natCast])
      | fail)

    all_goals first | exact hLL _ (by simp [Vs.look, h0]) (by simp [Vs.look, h4]) | trace_state

set_option maxHeartbeats 1000000 in
theorem l01Number (s : ByteArray) (hs : s.size ≤ 1048576) : Vs.Fn Tryd.prog F.spec_l01Number [] [.v (.string s)] (.tup [.v (.int .i64 (rdN s).1), .v (.bool (rdN s).2)]) [] := by
  have hlen : s.data.toList.length = s.size := by rw [Array.length_toList]; rfl
  refine Cd.spec_l01Number_ok.fn0 Tryd.mixed Cd.spec_l01Number_nt Cd.spec_l01Number_rs rfl fun C => ?_
  have hcode : Cd.spec_l01Number = .seq (match Cd.spec_l01Number with | .seq a _ => a | x => x) (.seq (match (Vs.dropS 1 Cd.spec_l01Number) with | .seq a _ => a | x => x) (.seq (match (Vs.dropS 2 Cd.spec_l01Number) with | .seq a _ => a | x => x) l01T)) := rfl
  by_cases hz : s.data.toList.getD 0 0 = 45 ∧ 0 < s.size
  · have hb0 : (!(s.toList == (⟨#[]⟩ : ByteArray).toList)) = true := by rw [hemp]; simp only [Bool.not_eq_true', decide_eq_false_iff_not]; omega
    have hb1 : (((s.data.toList.getD 0 0).toNat : Int) == 45) = true := by rw [hz.1]; rfl
    have hts : (s.extract 1 s.size).size = s.size - 1 := by simp [ByteArray.size_extract]
    have hT : ∀ ss' : List (Nat × AV), Vs.look ss' 0 = .v (.string s) → Vs.look ss' 4 = .v (.string (s.extract 1 s.size)) → wpc Tryd.prog C (drawnG Tryd.prog) l01T _ _ ⟨ss', []⟩ := fun ss' g0 g4 => rdL_w C s (s.extract 1 s.size) true (decide_eq_true (by omega)) (by unfold rdN rdNL; rw [if_pos ⟨hz.1, by rw [hlen]; exact hz.2⟩, drop1]) g0 g4 hs (by omega)
    rw [hcode]
    unfold Cd.spec_l01Number
    simp only [Vs.dropS]
    generalize l01T = LT at *
    simp -dsimp only [go_sem, reduceIte, reduceCtorEq, Nat.reduceEqDiff, Nat.reduceLT, Nat.reduceLeDiff, Nat.reduceAdd, Nat.reduceMul, Nat.reduceSub, Int.reduceToNat, Int.reduceNeg, hb0, hb1, Int.toNat_natCast]
    repeat' (first
      | (refine RgK.mk rfl ?_; simp -dsimp only [go_sem, reduceIte, reduceCtorEq, Nat.reduceEqDiff, Nat.reduceLT, Nat.reduceLeDiff, Nat.reduceAdd, Nat.reduceMul, Nat.reduceSub, Int.reduceToNat, Int.reduceNeg, hb0, hb1, Int.toNat_natCast])
      | (refine Br.mk (fun h => ?_) (fun h => ?_) <;> simp -dsimp only [go_sem, reduceIte, reduceCtorEq, Nat.reduceEqDiff, Nat.reduceLT, Nat.reduceLeDiff, Nat.reduceAdd, Nat.reduceMul, Nat.reduceSub, Int.reduceToNat, Int.reduceNeg, h, hb0, hb1, Int.toNat_natCast])
      | (refine And.intro (by first | rfl | omega | decide | exact ⟨by omega, by omega⟩ | (refine ⟨?_, ?_⟩ <;> (first | rfl | omega | decide | exact ⟨by omega, by omega⟩)) | (refine ⟨?_, ?_, ?_⟩ <;> (first | rfl | omega | decide | exact ⟨by omega, by omega⟩)) | (refine ⟨?_, ?_, ?_, ?_⟩ <;> (first | rfl | omega | decide | exact ⟨by omega, by omega⟩))) ?_; try simp -dsimp only [go_sem, reduceIte, reduceCtorEq, Nat.reduceEqDiff, Nat.reduceLT, Nat.reduceLeDiff, Nat.reduceAdd, Nat.reduceMul, Nat.reduceSub, Int.reduceToNat, Int.reduceNeg, hb0, hb1, Int.toNat_natCast])
      | fail)

    all_goals first | omega | exact hT _ rfl rfl | trace_state
  · have hR0 : rdN s = rdL s.data.toList s.data.toList false := by unfold rdN rdNL; rw [if_neg (fun h => hz ⟨h.1, by rw [← hlen]; exact h.2⟩)]
    have hT : ∀ ss' : List (Nat × AV), Vs.look ss' 0 = .v (.string s) → Vs.look ss' 4 = .v (.string s) → wpc Tryd.prog C (drawnG Tryd.prog) l01T _ _ ⟨ss', []⟩ := fun ss' g0 g4 => rdL_w C s s false (decide_eq_false (by omega)) hR0 g0 g4 hs (Nat.le_refl _)
    by_cases h00 : s.size = 0
    · have hb0 : (!(s.toList == (⟨#[]⟩ : ByteArray).toList)) = false := by rw [hemp]; simp [h00]
      rw [hcode]
      unfold Cd.spec_l01Number
      simp only [Vs.dropS]
      generalize l01T = LT at *
      simp -dsimp only [go_sem, reduceIte, reduceCtorEq, Nat.reduceEqDiff, Nat.reduceLT, Nat.reduceLeDiff, Nat.reduceAdd, Nat.reduceMul, Nat.reduceSub, Int.reduceToNat, Int.reduceNeg, hb0, Int.toNat_natCast]
      repeat' (first
        | (refine RgK.mk rfl ?_; simp -dsimp only [go_sem, reduceIte, reduceCtorEq, Nat.reduceEqDiff, Nat.reduceLT, Nat.reduceLeDiff, Nat.reduceAdd, Nat.reduceMul, Nat.reduceSub, Int.reduceToNat, Int.reduceNeg, hb0, Int.toNat_natCast])
        | (refine Br.mk (fun h => ?_) (fun h => ?_) <;> simp -dsimp only [go_sem, reduceIte, reduceCtorEq, Nat.reduceEqDiff, Nat.reduceLT, Nat.reduceLeDiff, Nat.reduceAdd, Nat.reduceMul, Nat.reduceSub, Int.reduceToNat, Int.reduceNeg, h, hb0, Int.toNat_natCast])
        | (refine And.intro (by first | rfl | omega | decide | exact ⟨by omega, by omega⟩ | (refine ⟨?_, ?_⟩ <;> (first | rfl | omega | decide | exact ⟨by omega, by omega⟩)) | (refine ⟨?_, ?_, ?_⟩ <;> (first | rfl | omega | decide | exact ⟨by omega, by omega⟩)) | (refine ⟨?_, ?_, ?_, ?_⟩ <;> (first | rfl | omega | decide | exact ⟨by omega, by omega⟩))) ?_; try simp -dsimp only [go_sem, reduceIte, reduceCtorEq, Nat.reduceEqDiff, Nat.reduceLT, Nat.reduceLeDiff, Nat.reduceAdd, Nat.reduceMul, Nat.reduceSub, Int.reduceToNat, Int.reduceNeg, hb0, Int.toNat_natCast])
        | fail)

      all_goals first | omega | exact hT _ rfl rfl | trace_state
    · have hb0 : (!(s.toList == (⟨#[]⟩ : ByteArray).toList)) = true := by rw [hemp]; simp only [Bool.not_eq_true', decide_eq_false_iff_not]; omega
      have hb1 : (((s.data.toList.getD 0 0).toNat : Int) == 45) = false := by
        have h1 : ¬ s.data.toList.getD 0 0 = 45 := fun h => hz ⟨h, by omega⟩
        refine beq_eq_false_iff_ne.2 fun h => h1 ?_
        have h2 : (s.data.toList.getD 0 0).toNat = 45 := by omega
        exact UInt8.toNat_inj.1 h2
      rw [hcode]
      unfold Cd.spec_l01Number
      simp only [Vs.dropS]
      generalize l01T = LT at *
      simp -dsimp only [go_sem, reduceIte, reduceCtorEq, Nat.reduceEqDiff, Nat.reduceLT, Nat.reduceLeDiff, Nat.reduceAdd, Nat.reduceMul, Nat.reduceSub, Int.reduceToNat, Int.reduceNeg, hb0, hb1, Int.toNat_natCast]
      repeat' (first
        | (refine RgK.mk rfl ?_; simp -dsimp only [go_sem, reduceIte, reduceCtorEq, Nat.reduceEqDiff, Nat.reduceLT, Nat.reduceLeDiff, Nat.reduceAdd, Nat.reduceMul, Nat.reduceSub, Int.reduceToNat, Int.reduceNeg, hb0, hb1, Int.toNat_natCast])
        | (refine Br.mk (fun h => ?_) (fun h => ?_) <;> simp -dsimp only [go_sem, reduceIte, reduceCtorEq, Nat.reduceEqDiff, Nat.reduceLT, Nat.reduceLeDiff, Nat.reduceAdd, Nat.reduceMul, Nat.reduceSub, Int.reduceToNat, Int.reduceNeg, h, hb0, hb1, Int.toNat_natCast])
        | (refine And.intro (by first | rfl | omega | decide | exact ⟨by omega, by omega⟩ | (refine ⟨?_, ?_⟩ <;> (first | rfl | omega | decide | exact ⟨by omega, by omega⟩)) | (refine ⟨?_, ?_, ?_⟩ <;> (first | rfl | omega | decide | exact ⟨by omega, by omega⟩)) | (refine ⟨?_, ?_, ?_, ?_⟩ <;> (first | rfl | omega | decide | exact ⟨by omega, by omega⟩))) ?_; try simp -dsimp only [go_sem, reduceIte, reduceCtorEq, Nat.reduceEqDiff, Nat.reduceLT, Nat.reduceLeDiff, Nat.reduceAdd, Nat.reduceMul, Nat.reduceSub, Int.reduceToNat, Int.reduceNeg, hb0, hb1, Int.toNat_natCast])
        | fail)

      all_goals first | omega | exact hT _ rfl rfl | trace_state
end Go.Proofs.YtpdmjalhahblmaaDoor
