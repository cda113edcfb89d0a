/- A calculation on a card, as the reference does it, where it succeeds. -/
import Derived.Test.YthpokkcbbpapdaaDoorTwXk
namespace Go.Proofs.YthpokkcbbpapdaaDoor
open Go.Vs
set_option linter.unusedSimpArgs false
set_option linter.unusedVariables false
attribute [local irreducible] Vs.Fn

/-- columns put in from the left -/
def rowQ (c : List Int) (fr : Nat) (x : List Int) (i : Nat) : List Int := c.take fr ++ x.take i ++ c.drop (fr + i)
theorem rowQ_len {c : List Int} {fr i : Nat} {x : List Int} (h : fr + x.length ≤ c.length) (hi : i ≤ x.length) : (rowQ c fr x i).length = c.length := by
  simp [rowQ]; omega
theorem rowQ_zero {c : List Int} {fr : Nat} {x : List Int} : rowQ c fr x 0 = c := by simp [rowQ]
theorem rowQ_all {c : List Int} {fr w : Nat} {x : List Int} (hx : x.length = w) : rowQ c fr x w = inF c fr w x := by
  unfold rowQ inF
  have e : x.take w = x := List.take_of_length_le (by omega)
  rw [e]
theorem rowQ_get {c : List Int} {fr i : Nat} {x : List Int} (h : fr + x.length ≤ c.length) (hi : i < x.length) : (E cI (rowQ c fr x i)).getD (fr + i) [] = [.v (.int .i64 (c[fr + i]'(by omega)))] := by
  rw [E_get (by rw [rowQ_len h (by omega)]; omega)]
  have e : (rowQ c fr x i)[fr + i]'(by rw [rowQ_len h (by omega)]; omega) = c[fr + i]'(by omega) := by
    unfold rowQ
    rw [List.getElem_append_right (by simp; omega)]
    have hl : (c.take fr ++ x.take i).length = fr + i := by simp; omega
    simp only [hl, Nat.sub_self]
    simp
  rw [e]; rfl
theorem rowQ_set {c : List Int} {fr i : Nat} {x : List Int} (h : fr + x.length ≤ c.length) (hi : i < x.length) : (E cI (rowQ c fr x i)).set (fr + i) [.v (.int .i64 x[i])] = E cI (rowQ c fr x (i + 1)) := by
  have e : (rowQ c fr x i).set (fr + i) x[i] = rowQ c fr x (i + 1) := by
    unfold rowQ
    have hl : (c.take fr ++ x.take i).length = fr + i := by simp; omega
    rw [List.set_append_right _ _ (by omega), hl, Nat.sub_self, List.drop_eq_getElem_cons (show fr + i < c.length by omega), List.set_cons_zero, take_succ hi, show fr + (i + 1) = fr + i + 1 by omega]
    simp only [List.append_assoc, List.cons_append, List.nil_append]
  rw [← e]
  simp [E, cI, List.map_set]
theorem clash_succ {c : List Int} {fr i : Nat} (h : fr + i < c.length) : ((c.take (fr + (i + 1))).drop fr).any (fun x => x != 0) = (((c.take (fr + i)).drop fr).any (fun x => x != 0) || c[fr + i] != 0) := by
  rw [show fr + (i + 1) = fr + i + 1 by omega, take_succ h, List.drop_append_of_le_length (by simp; omega), List.any_append]
  simp
theorem clash_mem {c : List Int} {fr w i : Nat} (hf : fr + w ≤ c.length) (hi : i < w) (h : (c[fr + i]'(by omega) != 0) = true) : clash fr w c = true := by
  unfold clash
  have hl : i < ((c.take (fr + w)).drop fr).length := by simp; omega
  refine List.any_eq_true.2 ⟨((c.take (fr + w)).drop fr)[i], List.getElem_mem hl, ?_⟩
  simpa using h
set_option maxRecDepth 20000 in
set_option maxHeartbeats 2000000 in
theorem l14Card0 (k : Int) (p q : Int × Int) (fr w : Nat) (c : List Int) (hp : okP p.1 p.2 c) (hq : okP q.1 q.2 c) (hf : fr + w ≤ c.length) (hw0 : 0 < w) (hw12 : w ≤ 12) (hc20 : c.length ≤ 20) (h0 : cdC k p q fr w c ≠ 0) : Vs.Fn Tryd.prog F.spec_l14Card [] [.v (.int .i64 k), .ro (cC c), .agg (cP p), .agg (cP q), .agg [.v (.int .i64 (fr : Nat)), .v (.int .i64 (fr + w : Nat))]] (.tup [.agg [.v (.slice none 0 0)], .v (.int .i64 0), .v (.int .i64 (cdC k p q fr w c))]) [] := by
  have hww : IntKind.i64.wrap (((fr + w : Nat) : Int) - (fr : Int)) = (w : Int) := by rw [wrap_in (by omega) (by omega)]; omega
  have hc : c.length ≤ 1048576 := by omega
  cases hb : (numC p.1 p.2 c).2 && (numC q.1 q.2 c).2
  · have er : rdT p q c = (0, 0, 8) := by simp [rdT, hb]
    have hC : cdC k p q fr w c = 8 := by simp [cdC, calR, hb]
    have e8 : ((8 : Int) != 0) = true := rfl
    rw [hC]
    refine Cd.spec_l14Card_ok.fn0 Tryd.mixed Cd.spec_l14Card_nt Cd.spec_l14Card_rs rfl fun X => ?_
    unfold Cd.spec_l14Card
    simp -dsimp only [go_sem, reduceIte, reduceCtorEq, Nat.reduceEqDiff, Nat.reduceLT, Nat.reduceLeDiff, Nat.reduceAdd, Nat.reduceMul, Nat.reduceSub, Int.reduceToNat, Int.reduceNeg, cC, cP, cFd]
    repeat' (first
      | (refine RgK.mk rfl ?_; simp -dsimp only [go_sem, reduceIte, reduceCtorEq, Nat.reduceEqDiff, Nat.reduceLT, Nat.reduceLeDiff, Nat.reduceAdd, Nat.reduceMul, Nat.reduceSub, Int.reduceToNat, Int.reduceNeg, cC, cP, cFd, cT3, hww, Int.toNat_natCast, E_len, Bool.not_true, Bool.not_false, er, e8])
      | (refine Br.mk (fun h => ?_) (fun h => ?_) <;> simp -dsimp only [go_sem, reduceIte, reduceCtorEq, Nat.reduceEqDiff, Nat.reduceLT, Nat.reduceLeDiff, Nat.reduceAdd, Nat.reduceMul, Nat.reduceSub, Int.reduceToNat, Int.reduceNeg, h, cC, cP, cFd, cT3, hww, Int.toNat_natCast, E_len, Bool.not_true, Bool.not_false, er, e8])
      | (refine CallK.flat (by first | exact l14Read p q c hp hq | exact l14Do k _ _) rfl ?_; simp -dsimp only [go_sem, reduceIte, reduceCtorEq, Nat.reduceEqDiff, Nat.reduceLT, Nat.reduceLeDiff, Nat.reduceAdd, Nat.reduceMul, Nat.reduceSub, Int.reduceToNat, Int.reduceNeg, cC, cP, cFd, cT3, hww, Int.toNat_natCast, E_len, Bool.not_true, Bool.not_false, er, e8])
      | (refine CallK.pure (by first | exact l14Read p q c hp hq | exact l14Do k _ _) ?_; simp -dsimp only [go_sem, reduceIte, reduceCtorEq, Nat.reduceEqDiff, Nat.reduceLT, Nat.reduceLeDiff, Nat.reduceAdd, Nat.reduceMul, Nat.reduceSub, Int.reduceToNat, Int.reduceNeg, cC, cP, cFd, cT3, hww, Int.toNat_natCast, E_len, Bool.not_true, Bool.not_false, er, e8])
      | (refine And.intro (by first | rfl | omega | decide | (refine ⟨?_, ?_⟩ <;> (first | rfl | omega | decide)) | (refine ⟨?_, ?_, ?_⟩ <;> (first | rfl | omega | decide)) | (refine ⟨?_, ?_, ?_, ?_⟩ <;> (first | rfl | omega | decide))) ?_)
      | fail)
    all_goals exact ⟨_, _, rfl, rfl⟩
  · have er : rdT p q c = ((numC p.1 p.2 c).1, (numC q.1 q.2 c).1, 0) := by simp [rdT, hb]
    have ec : calR k p q c = (calT k (numC p.1 p.2 c).1 (numC q.1 q.2 c).1) := by simp [calR, hb]
    by_cases hz : (calT k (numC p.1 p.2 c).1 (numC q.1 q.2 c).1).2.2 = 0
    · have hz0 : ((calT k (numC p.1 p.2 c).1 (numC q.1 q.2 c).1).2.2 != 0) = false := by simp [hz]
      have hrg := calT_rng hz
      by_cases hd : (calT k (numC p.1 p.2 c).1 (numC q.1 q.2 c).1).1.natAbs / 10 ^ w = 0
      · have hcl : clash fr w c = true := by
          cases h : clash fr w c
          · exact absurd (by simp [cdC, ec, hz, hd, h]) h0
          · rfl
        have hC : cdC k p q fr w c = 9 := by simp [cdC, ec, hz, hd, hcl]
        rw [hC]
        have hd2 : ((((calT k (numC p.1 p.2 c).1 (numC q.1 q.2 c).1).1.natAbs / 10 ^ w : Nat) : Int) == 0) = true := beq_iff_eq.2 (by omega)
        have hxl : (pt w (calT k (numC p.1 p.2 c).1 (numC q.1 q.2 c).1).1).length = w := pt_len _ _
        refine Cd.spec_l14Card_ok.fn0 Tryd.mixed Cd.spec_l14Card_nt Cd.spec_l14Card_rs rfl fun X => ?_
        unfold Cd.spec_l14Card
        simp -dsimp only [go_sem, reduceIte, reduceCtorEq, Nat.reduceEqDiff, Nat.reduceLT, Nat.reduceLeDiff, Nat.reduceAdd, Nat.reduceMul, Nat.reduceSub, Int.reduceToNat, Int.reduceNeg, cC, cP, cFd]
        repeat' (first
          | (refine RgK.mk rfl ?_; simp -dsimp only [go_sem, reduceIte, reduceCtorEq, Nat.reduceEqDiff, Nat.reduceLT, Nat.reduceLeDiff, Nat.reduceAdd, Nat.reduceMul, Nat.reduceSub, Int.reduceToNat, Int.reduceNeg, cC, cP, cFd, cT3, hww, Int.toNat_natCast, E_len, Bool.not_true, Bool.not_false, er, hz0, hd2])
          | (refine Br.mk (fun h => ?_) (fun h => ?_) <;> simp -dsimp only [go_sem, reduceIte, reduceCtorEq, Nat.reduceEqDiff, Nat.reduceLT, Nat.reduceLeDiff, Nat.reduceAdd, Nat.reduceMul, Nat.reduceSub, Int.reduceToNat, Int.reduceNeg, h, cC, cP, cFd, cT3, hww, Int.toNat_natCast, E_len, Bool.not_true, Bool.not_false, er, hz0, hd2])
          | (refine CallK.flat (by first | exact l14Read p q c hp hq | exact l14Do k _ _ | exact l03Put (calT k (numC p.1 p.2 c).1 (numC q.1 q.2 c).1).1 w hrg.1 hrg.2 hw0 (by omega)) rfl ?_; simp -dsimp only [go_sem, reduceIte, reduceCtorEq, Nat.reduceEqDiff, Nat.reduceLT, Nat.reduceLeDiff, Nat.reduceAdd, Nat.reduceMul, Nat.reduceSub, Int.reduceToNat, Int.reduceNeg, cC, cP, cFd, cT3, hww, Int.toNat_natCast, E_len, Bool.not_true, Bool.not_false, er, hz0, hd2])
          | (refine CallK.pure (by first | exact l14Read p q c hp hq | exact l14Do k _ _ | exact l03Put (calT k (numC p.1 p.2 c).1 (numC q.1 q.2 c).1).1 w hrg.1 hrg.2 hw0 (by omega)) ?_; simp -dsimp only [go_sem, reduceIte, reduceCtorEq, Nat.reduceEqDiff, Nat.reduceLT, Nat.reduceLeDiff, Nat.reduceAdd, Nat.reduceMul, Nat.reduceSub, Int.reduceToNat, Int.reduceNeg, cC, cP, cFd, cT3, hww, Int.toNat_natCast, E_len, Bool.not_true, Bool.not_false, er, hz0, hd2])
          | (refine And.intro (by first | rfl | omega | decide | (refine ⟨?_, ?_⟩ <;> (first | rfl | omega | decide)) | (refine ⟨?_, ?_, ?_⟩ <;> (first | rfl | omega | decide)) | (refine ⟨?_, ?_, ?_, ?_⟩ <;> (first | rfl | omega | decide))) ?_)
          | fail)
        refine CallK.own (l02OwnO c hc) rfl ?_
        simp -dsimp only [go_sem, reduceIte, reduceCtorEq, Nat.reduceEqDiff, Nat.reduceLT, Nat.reduceLeDiff, Nat.reduceAdd, Nat.reduceMul, Nat.reduceSub, Int.reduceToNat, Int.reduceNeg, cC, cP, cFd, cT3, hww, Int.toNat_natCast, E_len, Bool.not_true, Bool.not_false]
        refine LoopK.at (drawn_ok Tryd.mixed) (X := { zz : Nat × (Unit) // zz.1 ≤ w ∧ ((c.take (fr + zz.1)).drop fr).any (fun x => x != 0) = false }) (fun zz => [(22, .v (.int .i64 zz.1.1))]) (fun zz => [(.t 62 0, .arr 1 (E cI (rowQ c fr (pt w (calT k (numC p.1 p.2 c).1 (numC q.1 q.2 c).1).1) zz.1.1)) false)]) (fun zz => w - zz.1.1) ⟨(0, ()), by omega, by simp⟩ ?_ ?_
        · simp [Vs.LeL, Vs.look, Vs.hlook, Vs.sput, Vs.sputs, Vs.hset, Vs.hputs, rowQ_zero]
        · rintro ⟨⟨i, _⟩, hi, hg⟩
          dsimp only at hi hg
          simp -dsimp only [go_sem, reduceIte, reduceCtorEq, Nat.reduceEqDiff, Nat.reduceLT, Nat.reduceLeDiff, Nat.reduceAdd, Nat.reduceMul, Nat.reduceSub, Int.reduceToNat, Int.reduceNeg, E_len, hxl]
          refine Br.mk (fun hc => ?_) fun hc => ?_
          · have hlt : i < w := by simpa using hc
            have hw := wrap_succ hlt (by omega)
            have hix : i < (pt w (calT k (numC p.1 p.2 c).1 (numC q.1 q.2 c).1).1).length := by rw [hxl]; exact hlt
            have hci : fr + i < c.length := by omega
            have hlr : (rowQ c fr (pt w (calT k (numC p.1 p.2 c).1 (numC q.1 q.2 c).1).1) i).length = c.length := rowQ_len (by omega) (by omega)
            have hgr := rowQ_get (c := c) (fr := fr) (x := (pt w (calT k (numC p.1 p.2 c).1 (numC q.1 q.2 c).1).1)) (i := i) (by omega) hix
            have hgs := rowQ_set (c := c) (fr := fr) (x := (pt w (calT k (numC p.1 p.2 c).1 (numC q.1 q.2 c).1).1)) (i := i) (by omega) hix
            have hgx : (E cI (pt w (calT k (numC p.1 p.2 c).1 (numC q.1 q.2 c).1).1)).getD i [] = [.v (.int .i64 (pt w (calT k (numC p.1 p.2 c).1 (numC q.1 q.2 c).1).1)[i])] := cI_get hix
            have hwi : IntKind.i64.wrap ((fr : Int) + (i : Int)) = ((fr + i : Nat) : Int) := by rw [wrap_in (by omega) (by omega)]; omega
            cases hnz : (c[fr + i] != 0)
            · have hg2 : ((c.take (fr + (i + 1))).drop fr).any (fun x => x != 0) = false := by rw [clash_succ hci, hg, hnz]; rfl
              simp -dsimp only [go_sem, reduceIte, reduceCtorEq, Nat.reduceEqDiff, Nat.reduceLT, Nat.reduceLeDiff, Nat.reduceAdd, Nat.reduceMul, Nat.reduceSub, Int.reduceToNat, Int.reduceNeg, cC, cP, cFd, cT3, hww, Int.toNat_natCast, E_len, Bool.not_true, Bool.not_false, hgr, hgs, hgx, hwi, hnz, hlr, hw]
              repeat' (first
                | (refine RgK.mk rfl ?_; simp -dsimp only [go_sem, reduceIte, reduceCtorEq, Nat.reduceEqDiff, Nat.reduceLT, Nat.reduceLeDiff, Nat.reduceAdd, Nat.reduceMul, Nat.reduceSub, Int.reduceToNat, Int.reduceNeg, cC, cP, cFd, cT3, hww, Int.toNat_natCast, E_len, Bool.not_true, Bool.not_false, hgr, hgs, hgx, hwi, hnz, hlr, hw])
                | (refine Br.mk (fun h => ?_) (fun h => ?_) <;> simp -dsimp only [go_sem, reduceIte, reduceCtorEq, Nat.reduceEqDiff, Nat.reduceLT, Nat.reduceLeDiff, Nat.reduceAdd, Nat.reduceMul, Nat.reduceSub, Int.reduceToNat, Int.reduceNeg, h, cC, cP, cFd, cT3, hww, Int.toNat_natCast, E_len, Bool.not_true, Bool.not_false, hgr, hgs, hgx, hwi, hnz, hlr, hw])
                | (refine And.intro (by first | rfl | omega | decide | (refine ⟨?_, ?_⟩ <;> (first | rfl | omega | decide)) | (refine ⟨?_, ?_, ?_⟩ <;> (first | rfl | omega | decide)) | (refine ⟨?_, ?_, ?_, ?_⟩ <;> (first | rfl | omega | decide))) ?_)
                | fail)

              all_goals (exact ⟨⟨(i + 1, ()), hlt, hg2⟩, by simp [Vs.LeL, Vs.look, Vs.hlook, Vs.sput, Vs.sputs, Vs.hset, Vs.hputs], by simp only; omega⟩)
            · simp -dsimp only [go_sem, reduceIte, reduceCtorEq, Nat.reduceEqDiff, Nat.reduceLT, Nat.reduceLeDiff, Nat.reduceAdd, Nat.reduceMul, Nat.reduceSub, Int.reduceToNat, Int.reduceNeg, cC, cP, cFd, cT3, hww, Int.toNat_natCast, E_len, Bool.not_true, Bool.not_false, hgr, hgs, hgx, hwi, hnz, hlr, hw]
              repeat' (first
                | (refine RgK.mk rfl ?_; simp -dsimp only [go_sem, reduceIte, reduceCtorEq, Nat.reduceEqDiff, Nat.reduceLT, Nat.reduceLeDiff, Nat.reduceAdd, Nat.reduceMul, Nat.reduceSub, Int.reduceToNat, Int.reduceNeg, cC, cP, cFd, cT3, hww, Int.toNat_natCast, E_len, Bool.not_true, Bool.not_false, hgr, hgs, hgx, hwi, hnz, hlr, hw])
                | (refine Br.mk (fun h => ?_) (fun h => ?_) <;> simp -dsimp only [go_sem, reduceIte, reduceCtorEq, Nat.reduceEqDiff, Nat.reduceLT, Nat.reduceLeDiff, Nat.reduceAdd, Nat.reduceMul, Nat.reduceSub, Int.reduceToNat, Int.reduceNeg, h, cC, cP, cFd, cT3, hww, Int.toNat_natCast, E_len, Bool.not_true, Bool.not_false, hgr, hgs, hgx, hwi, hnz, hlr, hw])
                | (refine And.intro (by first | rfl | omega | decide | (refine ⟨?_, ?_⟩ <;> (first | rfl | omega | decide)) | (refine ⟨?_, ?_, ?_⟩ <;> (first | rfl | omega | decide)) | (refine ⟨?_, ?_, ?_, ?_⟩ <;> (first | rfl | omega | decide))) ?_)
                | fail)
              all_goals exact ⟨_, _, rfl, rfl⟩
          · have hge : i = w := by
              have : ¬ i < w := by simpa using hc
              omega
            subst hge
            simp -dsimp only [go_sem, reduceIte, reduceCtorEq, Nat.reduceEqDiff, Nat.reduceLT, Nat.reduceLeDiff, Nat.reduceAdd, Nat.reduceMul, Nat.reduceSub, Int.reduceToNat, Int.reduceNeg, E_len, hxl]
            exact absurd hcl (by unfold clash; rw [hg]; decide)
      · have hC : cdC k p q fr w c = 5 := by simp [cdC, ec, hz, hd]
        rw [hC]
        have hd2 : ((((calT k (numC p.1 p.2 c).1 (numC q.1 q.2 c).1).1.natAbs / 10 ^ w : Nat) : Int) == 0) = false := beq_eq_false_iff_ne.2 (by omega)
        refine Cd.spec_l14Card_ok.fn0 Tryd.mixed Cd.spec_l14Card_nt Cd.spec_l14Card_rs rfl fun X => ?_
        unfold Cd.spec_l14Card
        simp -dsimp only [go_sem, reduceIte, reduceCtorEq, Nat.reduceEqDiff, Nat.reduceLT, Nat.reduceLeDiff, Nat.reduceAdd, Nat.reduceMul, Nat.reduceSub, Int.reduceToNat, Int.reduceNeg, cC, cP, cFd]
        repeat' (first
          | (refine RgK.mk rfl ?_; simp -dsimp only [go_sem, reduceIte, reduceCtorEq, Nat.reduceEqDiff, Nat.reduceLT, Nat.reduceLeDiff, Nat.reduceAdd, Nat.reduceMul, Nat.reduceSub, Int.reduceToNat, Int.reduceNeg, cC, cP, cFd, cT3, hww, Int.toNat_natCast, E_len, Bool.not_true, Bool.not_false, er, hz0, hd2])
          | (refine Br.mk (fun h => ?_) (fun h => ?_) <;> simp -dsimp only [go_sem, reduceIte, reduceCtorEq, Nat.reduceEqDiff, Nat.reduceLT, Nat.reduceLeDiff, Nat.reduceAdd, Nat.reduceMul, Nat.reduceSub, Int.reduceToNat, Int.reduceNeg, h, cC, cP, cFd, cT3, hww, Int.toNat_natCast, E_len, Bool.not_true, Bool.not_false, er, hz0, hd2])
          | (refine CallK.flat (by first | exact l14Read p q c hp hq | exact l14Do k _ _ | exact l03Put (calT k (numC p.1 p.2 c).1 (numC q.1 q.2 c).1).1 w hrg.1 hrg.2 hw0 (by omega)) rfl ?_; simp -dsimp only [go_sem, reduceIte, reduceCtorEq, Nat.reduceEqDiff, Nat.reduceLT, Nat.reduceLeDiff, Nat.reduceAdd, Nat.reduceMul, Nat.reduceSub, Int.reduceToNat, Int.reduceNeg, cC, cP, cFd, cT3, hww, Int.toNat_natCast, E_len, Bool.not_true, Bool.not_false, er, hz0, hd2])
          | (refine CallK.pure (by first | exact l14Read p q c hp hq | exact l14Do k _ _ | exact l03Put (calT k (numC p.1 p.2 c).1 (numC q.1 q.2 c).1).1 w hrg.1 hrg.2 hw0 (by omega)) ?_; simp -dsimp only [go_sem, reduceIte, reduceCtorEq, Nat.reduceEqDiff, Nat.reduceLT, Nat.reduceLeDiff, Nat.reduceAdd, Nat.reduceMul, Nat.reduceSub, Int.reduceToNat, Int.reduceNeg, cC, cP, cFd, cT3, hww, Int.toNat_natCast, E_len, Bool.not_true, Bool.not_false, er, hz0, hd2])
          | (refine And.intro (by first | rfl | omega | decide | (refine ⟨?_, ?_⟩ <;> (first | rfl | omega | decide)) | (refine ⟨?_, ?_, ?_⟩ <;> (first | rfl | omega | decide)) | (refine ⟨?_, ?_, ?_, ?_⟩ <;> (first | rfl | omega | decide))) ?_)
          | fail)
        all_goals exact ⟨_, _, rfl, rfl⟩
    · have hC : cdC k p q fr w c = (calT k (numC p.1 p.2 c).1 (numC q.1 q.2 c).1).2.2 := by simp [cdC, ec, hz]
      rw [hC]
      have hz0 : ((calT k (numC p.1 p.2 c).1 (numC q.1 q.2 c).1).2.2 != 0) = true := by simp [hz]
      refine Cd.spec_l14Card_ok.fn0 Tryd.mixed Cd.spec_l14Card_nt Cd.spec_l14Card_rs rfl fun X => ?_
      unfold Cd.spec_l14Card
      simp -dsimp only [go_sem, reduceIte, reduceCtorEq, Nat.reduceEqDiff, Nat.reduceLT, Nat.reduceLeDiff, Nat.reduceAdd, Nat.reduceMul, Nat.reduceSub, Int.reduceToNat, Int.reduceNeg, cC, cP, cFd]
      repeat' (first
        | (refine RgK.mk rfl ?_; simp -dsimp only [go_sem, reduceIte, reduceCtorEq, Nat.reduceEqDiff, Nat.reduceLT, Nat.reduceLeDiff, Nat.reduceAdd, Nat.reduceMul, Nat.reduceSub, Int.reduceToNat, Int.reduceNeg, cC, cP, cFd, cT3, hww, Int.toNat_natCast, E_len, Bool.not_true, Bool.not_false, er, hz0])
        | (refine Br.mk (fun h => ?_) (fun h => ?_) <;> simp -dsimp only [go_sem, reduceIte, reduceCtorEq, Nat.reduceEqDiff, Nat.reduceLT, Nat.reduceLeDiff, Nat.reduceAdd, Nat.reduceMul, Nat.reduceSub, Int.reduceToNat, Int.reduceNeg, h, cC, cP, cFd, cT3, hww, Int.toNat_natCast, E_len, Bool.not_true, Bool.not_false, er, hz0])
        | (refine CallK.flat (by first | exact l14Read p q c hp hq | exact l14Do k _ _) rfl ?_; simp -dsimp only [go_sem, reduceIte, reduceCtorEq, Nat.reduceEqDiff, Nat.reduceLT, Nat.reduceLeDiff, Nat.reduceAdd, Nat.reduceMul, Nat.reduceSub, Int.reduceToNat, Int.reduceNeg, cC, cP, cFd, cT3, hww, Int.toNat_natCast, E_len, Bool.not_true, Bool.not_false, er, hz0])
        | (refine CallK.pure (by first | exact l14Read p q c hp hq | exact l14Do k _ _) ?_; simp -dsimp only [go_sem, reduceIte, reduceCtorEq, Nat.reduceEqDiff, Nat.reduceLT, Nat.reduceLeDiff, Nat.reduceAdd, Nat.reduceMul, Nat.reduceSub, Int.reduceToNat, Int.reduceNeg, cC, cP, cFd, cT3, hww, Int.toNat_natCast, E_len, Bool.not_true, Bool.not_false, er, hz0])
        | (refine And.intro (by first | rfl | omega | decide | (refine ⟨?_, ?_⟩ <;> (first | rfl | omega | decide)) | (refine ⟨?_, ?_, ?_⟩ <;> (first | rfl | omega | decide)) | (refine ⟨?_, ?_, ?_, ?_⟩ <;> (first | rfl | omega | decide))) ?_)
        | fail)
      all_goals exact ⟨_, _, rfl, rfl⟩

end Go.Proofs.YthpokkcbbpapdaaDoor

namespace Go.Proofs.YthpokkcbbpapdaaDoor
open Go.Vs
set_option linter.unusedSimpArgs false
set_option linter.unusedVariables false
attribute [local irreducible] Vs.Fn
set_option maxRecDepth 20000 in
set_option maxHeartbeats 2000000 in
theorem l14Card1 (k : Int) (p q : Int × Int) (fr w : Nat) (c : List Int) (hp : okP p.1 p.2 c) (hq : okP q.1 q.2 c) (hf : fr + w ≤ c.length) (hw0 : 0 < w) (hw12 : w ≤ 12) (hc20 : c.length ≤ 20) (h0 : cdC k p q fr w c = 0) : Vs.Fn Tryd.prog F.spec_l14Card [] [.v (.int .i64 k), .ro (cC c), .agg (cP p), .agg (cP q), .agg [.v (.int .i64 (fr : Nat)), .v (.int .i64 (fr + w : Nat))]] (.tup [.agg (cC (cdH k p q fr w c)), .v (.int .i64 (calR k p q c).2.1), .v (.int .i64 0)]) [] := by
  have hww : IntKind.i64.wrap (((fr + w : Nat) : Int) - (fr : Int)) = (w : Int) := by rw [wrap_in (by omega) (by omega)]; omega
  have hc : c.length ≤ 1048576 := by omega
  obtain ⟨hr, hd, hcl⟩ := cdC_zero h0
  have hb : ((numC p.1 p.2 c).2 && (numC q.1 q.2 c).2) = true := by
    cases h : (numC p.1 p.2 c).2 && (numC q.1 q.2 c).2
    · exact absurd hr (by simp [calR, h])
    · rfl
  have er : rdT p q c = ((numC p.1 p.2 c).1, (numC q.1 q.2 c).1, 0) := by simp [rdT, hb]
  have ec : calR k p q c = (calT k (numC p.1 p.2 c).1 (numC q.1 q.2 c).1) := by simp [calR, hb]
  unfold cdH
  rw [ec] at hr hd ⊢
  have hz0 : ((calT k (numC p.1 p.2 c).1 (numC q.1 q.2 c).1).2.2 != 0) = false := by simp [hr]
  have hrg := calT_rng hr
  have hd2 : ((((calT k (numC p.1 p.2 c).1 (numC q.1 q.2 c).1).1.natAbs / 10 ^ w : Nat) : Int) == 0) = true := beq_iff_eq.2 (by omega)
  have hxl : (pt w (calT k (numC p.1 p.2 c).1 (numC q.1 q.2 c).1).1).length = w := pt_len _ _
  refine Cd.spec_l14Card_ok.fn0 Tryd.mixed Cd.spec_l14Card_nt Cd.spec_l14Card_rs rfl fun X => ?_
  unfold Cd.spec_l14Card
  simp -dsimp only [go_sem, reduceIte, reduceCtorEq, Nat.reduceEqDiff, Nat.reduceLT, Nat.reduceLeDiff, Nat.reduceAdd, Nat.reduceMul, Nat.reduceSub, Int.reduceToNat, Int.reduceNeg, cC, cP, cFd]
  repeat' (first
    | (refine RgK.mk rfl ?_; simp -dsimp only [go_sem, reduceIte, reduceCtorEq, Nat.reduceEqDiff, Nat.reduceLT, Nat.reduceLeDiff, Nat.reduceAdd, Nat.reduceMul, Nat.reduceSub, Int.reduceToNat, Int.reduceNeg, cC, cP, cFd, cT3, hww, Int.toNat_natCast, E_len, Bool.not_true, Bool.not_false, er, hz0, hd2])
    | (refine Br.mk (fun h => ?_) (fun h => ?_) <;> simp -dsimp only [go_sem, reduceIte, reduceCtorEq, Nat.reduceEqDiff, Nat.reduceLT, Nat.reduceLeDiff, Nat.reduceAdd, Nat.reduceMul, Nat.reduceSub, Int.reduceToNat, Int.reduceNeg, h, cC, cP, cFd, cT3, hww, Int.toNat_natCast, E_len, Bool.not_true, Bool.not_false, er, hz0, hd2])
    | (refine CallK.flat (by first | exact l14Read p q c hp hq | exact l14Do k _ _ | exact l03Put (calT k (numC p.1 p.2 c).1 (numC q.1 q.2 c).1).1 w hrg.1 hrg.2 hw0 (by omega)) rfl ?_; simp -dsimp only [go_sem, reduceIte, reduceCtorEq, Nat.reduceEqDiff, Nat.reduceLT, Nat.reduceLeDiff, Nat.reduceAdd, Nat.reduceMul, Nat.reduceSub, Int.reduceToNat, Int.reduceNeg, cC, cP, cFd, cT3, hww, Int.toNat_natCast, E_len, Bool.not_true, Bool.not_false, er, hz0, hd2])
    | (refine CallK.pure (by first | exact l14Read p q c hp hq | exact l14Do k _ _ | exact l03Put (calT k (numC p.1 p.2 c).1 (numC q.1 q.2 c).1).1 w hrg.1 hrg.2 hw0 (by omega)) ?_; simp -dsimp only [go_sem, reduceIte, reduceCtorEq, Nat.reduceEqDiff, Nat.reduceLT, Nat.reduceLeDiff, Nat.reduceAdd, Nat.reduceMul, Nat.reduceSub, Int.reduceToNat, Int.reduceNeg, cC, cP, cFd, cT3, hww, Int.toNat_natCast, E_len, Bool.not_true, Bool.not_false, er, hz0, hd2])
    | (refine And.intro (by first | rfl | omega | decide | (refine ⟨?_, ?_⟩ <;> (first | rfl | omega | decide)) | (refine ⟨?_, ?_, ?_⟩ <;> (first | rfl | omega | decide)) | (refine ⟨?_, ?_, ?_, ?_⟩ <;> (first | rfl | omega | decide))) ?_)
    | fail)
  refine CallK.own (l02OwnO c hc) rfl ?_
  simp -dsimp only [go_sem, reduceIte, reduceCtorEq, Nat.reduceEqDiff, Nat.reduceLT, Nat.reduceLeDiff, Nat.reduceAdd, Nat.reduceMul, Nat.reduceSub, Int.reduceToNat, Int.reduceNeg, cC, cP, cFd, cT3, hww, Int.toNat_natCast, E_len, Bool.not_true, Bool.not_false]
  refine LoopK.at (drawn_ok Tryd.mixed) (X := { zz : Nat × (Unit) // zz.1 ≤ w ∧ ((c.take (fr + zz.1)).drop fr).any (fun x => x != 0) = false }) (fun zz => [(22, .v (.int .i64 zz.1.1))]) (fun zz => [(.t 62 0, .arr 1 (E cI (rowQ c fr (pt w (calT k (numC p.1 p.2 c).1 (numC q.1 q.2 c).1).1) zz.1.1)) false)]) (fun zz => w - zz.1.1) ⟨(0, ()), by omega, by simp⟩ ?_ ?_
  · simp [Vs.LeL, Vs.look, Vs.hlook, Vs.sput, Vs.sputs, Vs.hset, Vs.hputs, rowQ_zero]
  · rintro ⟨⟨i, _⟩, hi, hg⟩
    dsimp only at hi hg
    simp -dsimp only [go_sem, reduceIte, reduceCtorEq, Nat.reduceEqDiff, Nat.reduceLT, Nat.reduceLeDiff, Nat.reduceAdd, Nat.reduceMul, Nat.reduceSub, Int.reduceToNat, Int.reduceNeg, E_len, hxl]
    refine Br.mk (fun hc => ?_) fun hc => ?_
    · have hlt : i < w := by simpa using hc
      have hw := wrap_succ hlt (by omega)
      have hix : i < (pt w (calT k (numC p.1 p.2 c).1 (numC q.1 q.2 c).1).1).length := by rw [hxl]; exact hlt
      have hci : fr + i < c.length := by omega
      have hlr : (rowQ c fr (pt w (calT k (numC p.1 p.2 c).1 (numC q.1 q.2 c).1).1) i).length = c.length := rowQ_len (by omega) (by omega)
      have hgr := rowQ_get (c := c) (fr := fr) (x := (pt w (calT k (numC p.1 p.2 c).1 (numC q.1 q.2 c).1).1)) (i := i) (by omega) hix
      have hgs := rowQ_set (c := c) (fr := fr) (x := (pt w (calT k (numC p.1 p.2 c).1 (numC q.1 q.2 c).1).1)) (i := i) (by omega) hix
      have hgx : (E cI (pt w (calT k (numC p.1 p.2 c).1 (numC q.1 q.2 c).1).1)).getD i [] = [.v (.int .i64 (pt w (calT k (numC p.1 p.2 c).1 (numC q.1 q.2 c).1).1)[i])] := cI_get hix
      have hwi : IntKind.i64.wrap ((fr : Int) + (i : Int)) = ((fr + i : Nat) : Int) := by rw [wrap_in (by omega) (by omega)]; omega
      cases hnz : (c[fr + i] != 0)
      · have hg2 : ((c.take (fr + (i + 1))).drop fr).any (fun x => x != 0) = false := by rw [clash_succ hci, hg, hnz]; rfl
        simp -dsimp only [go_sem, reduceIte, reduceCtorEq, Nat.reduceEqDiff, Nat.reduceLT, Nat.reduceLeDiff, Nat.reduceAdd, Nat.reduceMul, Nat.reduceSub, Int.reduceToNat, Int.reduceNeg, cC, cP, cFd, cT3, hww, Int.toNat_natCast, E_len, Bool.not_true, Bool.not_false, hgr, hgs, hgx, hwi, hnz, hlr, hw]
        repeat' (first
          | (refine RgK.mk rfl ?_; simp -dsimp only [go_sem, reduceIte, reduceCtorEq, Nat.reduceEqDiff, Nat.reduceLT, Nat.reduceLeDiff, Nat.reduceAdd, Nat.reduceMul, Nat.reduceSub, Int.reduceToNat, Int.reduceNeg, cC, cP, cFd, cT3, hww, Int.toNat_natCast, E_len, Bool.not_true, Bool.not_false, hgr, hgs, hgx, hwi, hnz, hlr, hw])
          | (refine Br.mk (fun h => ?_) (fun h => ?_) <;> simp -dsimp only [go_sem, reduceIte, reduceCtorEq, Nat.reduceEqDiff, Nat.reduceLT, Nat.reduceLeDiff, Nat.reduceAdd, Nat.reduceMul, Nat.reduceSub, Int.reduceToNat, Int.reduceNeg, h, cC, cP, cFd, cT3, hww, Int.toNat_natCast, E_len, Bool.not_true, Bool.not_false, hgr, hgs, hgx, hwi, hnz, hlr, hw])
          | (refine And.intro (by first | rfl | omega | decide | (refine ⟨?_, ?_⟩ <;> (first | rfl | omega | decide)) | (refine ⟨?_, ?_, ?_⟩ <;> (first | rfl | omega | decide)) | (refine ⟨?_, ?_, ?_, ?_⟩ <;> (first | rfl | omega | decide))) ?_)
          | fail)

        all_goals (exact ⟨⟨(i + 1, ()), hlt, hg2⟩, by simp [Vs.LeL, Vs.look, Vs.hlook, Vs.sput, Vs.sputs, Vs.hset, Vs.hputs], by simp only; omega⟩)
      · exact absurd (clash_mem hf hlt hnz) (by rw [hcl]; decide)
    · have hge : i = w := by
        have : ¬ i < w := by simpa using hc
        omega
      subst hge
      simp -dsimp only [go_sem, reduceIte, reduceCtorEq, Nat.reduceEqDiff, Nat.reduceLT, Nat.reduceLeDiff, Nat.reduceAdd, Nat.reduceMul, Nat.reduceSub, Int.reduceToNat, Int.reduceNeg, E_len, hxl]
      rw [rowQ_all hxl]
      simp -dsimp only [go_sem, reduceIte, reduceCtorEq, Nat.reduceEqDiff, Nat.reduceLT, Nat.reduceLeDiff, Nat.reduceAdd, Nat.reduceMul, Nat.reduceSub, Int.reduceToNat, Int.reduceNeg, cC, cP, cFd, cT3, hww, Int.toNat_natCast, E_len, Bool.not_true, Bool.not_false]
      refine ⟨?_, fun h => h rfl⟩
      exact ⟨[.t 62 0], [], by rw [List.take_of_length_le (by rw [E_len, inF_len hf hxl]; exact Nat.le_refl _)], rfl⟩
end Go.Proofs.YthpokkcbbpapdaaDoor
