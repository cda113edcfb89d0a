/- Numbers are drawn. -/
import Derived.Test.YtgeeipfdkamhmaaDoorTwUc
import Derived.Test.YtgeeipfdkamhmaaDoorTwUa
import Derived.Test.YtgeeipfdkamhmaaDoorTwB
namespace Go.Proofs.YtgeeipfdkamhmaaDoor
open Go.Vs
set_option linter.unusedSimpArgs false
set_option linter.unusedVariables false
attribute [local irreducible] Vs.Fn
attribute [local irreducible] nxV nxS pkV pkS
def drL (l : List Int) : Nat → Sr → List Int → List Int × Sr
  | 0, x, o => (o, x)
  | k + 1, x, o => if pkV l (pkS l x 1000) 3 = 0 then drL l k (pkS l (pkS l (pkS l x 1000) 3) 10000) (o ++ [pkV l (pkS l (pkS l x 1000) 3) 10000]) else drL l k (pkS l (pkS l x 1000) 3) (o ++ [pkV l x 1000])
def drA (l : List Int) (x : Sr) : List Int × Sr := drL l (pkV l x 7).toNat (pkS l x 7) []
def okM (o : List Int) : Prop := ∀ v, v ∈ o → 0 ≤ v ∧ v ≤ 9999
theorem okM_add {o : List Int} {v : Int} (h : okM o) (h0 : 0 ≤ v) (h1 : v ≤ 9999) : okM (o ++ [v]) := by
  intro w hw
  rcases List.mem_append.1 hw with hw | hw
  · exact h w hw
  · simp at hw; subst hw; exact ⟨h0, h1⟩
theorem drL_ok {l : List Int} (hl : byt l) : ∀ (k : Nat) (x : Sr) (o : List Int), okM o → okM (drL l k x o).1 ∧ (drL l k x o).1.length = o.length + k ∧ (drL l k x o).2.p ≤ x.p + 6 * k
  | 0, x, o, h => ⟨h, rfl, by simp [drL]⟩
  | k + 1, x, o, h => by
    have p1 := pkS_p l x 1000
    have p2 := pkS_p l (pkS l x 1000) 3
    have p3 := pkS_p l (pkS l (pkS l x 1000) 3) 10000
    have v1 := pkV_in hl x (n := 1000) (by omega)
    have v2 := pkV_in hl (pkS l (pkS l x 1000) 3) (n := 10000) (by omega)
    rw [drL]
    split
    · have ih := drL_ok hl k (pkS l (pkS l (pkS l x 1000) 3) 10000) _ (okM_add h v2.1 (by omega))
      refine ⟨ih.1, ?_, by omega⟩
      rw [ih.2.1, List.length_append]; simp only [List.length_cons, List.length_nil]; omega
    · have ih := drL_ok hl k (pkS l (pkS l x 1000) 3) _ (okM_add h v1.1 (by omega))
      refine ⟨ih.1, ?_, by omega⟩
      rw [ih.2.1, List.length_append]; simp only [List.length_cons, List.length_nil]; omega
theorem drA_ok {l : List Int} (hl : byt l) (x : Sr) : amB (drA l x).1 = true ∧ (drA l x).2.p ≤ x.p + 40 ∧ (drA l x).1.length ≤ 6 := by
  have v := pkV_in hl x (n := 7) (by omega)
  have p := pkS_p l x 7
  have h := drL_ok hl (pkV l x 7).toNat (pkS l x 7) [] (fun v hv => by cases hv)
  rw [show drL l (pkV l x 7).toNat (pkS l x 7) [] = drA l x from rfl] at h
  obtain ⟨h1, h2, h3⟩ := h
  simp only [List.length_nil] at h2
  refine ⟨?_, by omega, by omega⟩
  unfold amB
  rw [Bool.and_eq_true]
  refine ⟨List.all_eq_true.2 fun v hv => ?_, by simp; omega⟩
  have := h1 v hv
  simp [inB]; omega
theorem subK {k : Nat} (h : k ≤ 1000) : IntKind.i64.wrap (((k + 1 : Nat) : Int) - 1) = (k : Int) := by rw [wrap_in (by omega) (by omega)]; omega
set_option maxHeartbeats 2000000 in
theorem draw (l : List Int) (x : Sr) (hl : byt l) (hp : x.p ≤ 3900) : Vs.Fn Tryd.prog F.spec_l19Draw [sB l x] [.ptr (.b 0) 0 0] (.sl 1 (E cI (drA l x).1)) [some (sB l (drA l x).2)] := by
  have v := pkV_in hl x (n := 7) (by omega)
  have P0 := pick l x hl 7 (by omega)
  have p0 := pkS_p l x 7
  obtain ⟨k0, hk0⟩ : ∃ k : Nat, pkV l x 7 = k := ⟨(pkV l x 7).toNat, by omega⟩
  have hR : drA l x = drL l k0 (pkS l x 7) [] := by unfold drA; rw [hk0]; rfl
  rw [hk0] at P0
  generalize drA l x = R at *
  refine Cd.spec_l19Draw_ok.fn Tryd.mixed (hin := [sB l x]) _ _ [.b 0] [sB l R.2] Cd.spec_l19Draw_nt Cd.spec_l19Draw_rs rfl (by simp) rfl (by simp) fun X => ?_
  unfold Cd.spec_l19Draw
  simp -dsimp only [go_sem, reduceIte, reduceCtorEq, Nat.reduceEqDiff, Nat.reduceLT, Nat.reduceLeDiff, Nat.reduceAdd, Nat.reduceMul, Nat.reduceSub, Int.reduceToNat, Int.reduceNeg, E_len, List.mem_singleton, Vs.Name.t.injEq, List.set_cons_zero, List.set_cons_succ, List.length_cons, List.length_nil, List.flatMap_cons, List.flatMap_nil, cellN, topN, nestN, sB, List.getD_cons_zero, List.append_nil, List.nil_append, List.cons_append]
  repeat' (first
    | (refine RgK.mk rfl ?_; simp -dsimp only [go_sem, reduceIte, reduceCtorEq, Nat.reduceEqDiff, Nat.reduceLT, Nat.reduceLeDiff, Nat.reduceAdd, Nat.reduceMul, Nat.reduceSub, Int.reduceToNat, Int.reduceNeg, E_len, List.mem_singleton, Vs.Name.t.injEq, List.set_cons_zero, List.set_cons_succ, List.length_cons, List.length_nil, List.flatMap_cons, List.flatMap_nil, cellN, topN, nestN, sB, List.getD_cons_zero, List.append_nil, List.nil_append, List.cons_append])
    | (refine Br.mk (fun h => ?_) (fun h => ?_) <;> simp -dsimp only [go_sem, reduceIte, reduceCtorEq, Nat.reduceEqDiff, Nat.reduceLT, Nat.reduceLeDiff, Nat.reduceAdd, Nat.reduceMul, Nat.reduceSub, Int.reduceToNat, Int.reduceNeg, h, E_len, List.mem_singleton, Vs.Name.t.injEq, List.set_cons_zero, List.set_cons_succ, List.length_cons, List.length_nil, List.flatMap_cons, List.flatMap_nil, cellN, topN, nestN, sB, List.getD_cons_zero, List.append_nil, List.nil_append, List.cons_append])
    | (refine CallK.bor (by first | exact P0) rfl ?_; simp -dsimp only [go_sem, reduceIte, reduceCtorEq, Nat.reduceEqDiff, Nat.reduceLT, Nat.reduceLeDiff, Nat.reduceAdd, Nat.reduceMul, Nat.reduceSub, Int.reduceToNat, Int.reduceNeg, E_len, List.mem_singleton, Vs.Name.t.injEq, List.set_cons_zero, List.set_cons_succ, List.length_cons, List.length_nil, List.flatMap_cons, List.flatMap_nil, cellN, topN, nestN, sB, List.getD_cons_zero, List.append_nil, List.nil_append, List.cons_append])
    | (refine And.intro (by first | rfl | omega | decide | (refine ⟨?_, ?_⟩ <;> (first | rfl | omega | decide)) | (refine ⟨?_, ?_, ?_⟩ <;> (first | rfl | omega | decide)) | (refine ⟨?_, ?_, ?_, ?_⟩ <;> (first | rfl | omega | decide))) ?_; try simp -dsimp only [go_sem, reduceIte, reduceCtorEq, Nat.reduceEqDiff, Nat.reduceLT, Nat.reduceLeDiff, Nat.reduceAdd, Nat.reduceMul, Nat.reduceSub, Int.reduceToNat, Int.reduceNeg, E_len, List.mem_singleton, Vs.Name.t.injEq, List.set_cons_zero, List.set_cons_succ, List.length_cons, List.length_nil, List.flatMap_cons, List.flatMap_nil, cellN, topN, nestN, sB, List.getD_cons_zero, List.append_nil, List.nil_append, List.cons_append])
    | fail)
  refine LoopK.at (drawn_ok Tryd.mixed) (X := { zz : Nat × Sr × List Int // (zz.2.1.p + 6 * zz.1 ≤ 3960) ∧ (zz.1 + zz.2.2.length ≤ 6) ∧ drL l zz.1 zz.2.1 zz.2.2 = R }) (fun zz => [(3, .loc (.t 3 0) 0 zz.1.2.2.length), (4, .v (.int .i64 (zz.1.1 : Nat)))]) (fun zz => [(.b 0, sB l zz.1.2.1), (.t 3 0, .arr 1 (E cI zz.1.2.2) false)]) (fun zz => zz.1.1) ⟨(k0, pkS l x 7, []), by dsimp only; omega, by dsimp only; simp only [List.length_nil]; omega, hR.symm⟩ ?_ ?_
  · simp [Vs.LeL, Vs.look, Vs.hlook, Vs.sput, Vs.sputs, Vs.hset, Vs.hputs, Vs.E, sB, cI]
  · rintro ⟨⟨k, y, o⟩, hk1, hk2, hr⟩
    dsimp only at hk1 hk2 hr
    simp -dsimp only [go_sem, reduceIte, reduceCtorEq, Nat.reduceEqDiff, Nat.reduceLT, Nat.reduceLeDiff, Nat.reduceAdd, Nat.reduceMul, Nat.reduceSub, Int.reduceToNat, Int.reduceNeg, E_len, List.mem_singleton, Vs.Name.t.injEq, List.set_cons_zero, List.set_cons_succ, List.length_cons, List.length_nil, List.flatMap_cons, List.flatMap_nil, cellN, topN, nestN, sB, List.getD_cons_zero, List.append_nil, List.nil_append, List.cons_append]
    refine Br.mk (fun hc => ?_) fun hc => ?_
    · obtain ⟨k, rfl⟩ : ∃ j, k = j + 1 := ⟨k - 1, by simp at hc; omega⟩
      have w := subK (k := k) (by omega)
      have P1 := pick l y hl 1000 (by omega)
      have q1 := pkS_p l y 1000
      have P2 := one l (pkS l y 1000) hl 3 (by omega)
      have q2 := pkS_p l (pkS l y 1000) 3
      have P3 := pick l (pkS l (pkS l y 1000) 3) hl 10000 (by omega)
      have q3 := pkS_p l (pkS l (pkS l y 1000) 3) 10000
      have hap : ∀ v : Int, E cI o ++ [[.v (.int .i64 v)]] = E cI (o ++ [v]) := fun v => by rw [E_append]; rfl
      rw [drL] at hr
      by_cases hz : pkV l (pkS l y 1000) 3 = 0
      · have e1 : (pkV l (pkS l y 1000) 3 == 0) = true := by simp [hz]
        rw [if_pos hz] at hr
        rw [e1] at P2
        simp -dsimp only [go_sem, reduceIte, reduceCtorEq, Nat.reduceEqDiff, Nat.reduceLT, Nat.reduceLeDiff, Nat.reduceAdd, Nat.reduceMul, Nat.reduceSub, Int.reduceToNat, Int.reduceNeg, w, hap, E_len, List.mem_singleton, Vs.Name.t.injEq, List.set_cons_zero, List.set_cons_succ, List.length_cons, List.length_nil, List.flatMap_cons, List.flatMap_nil, cellN, topN, nestN, sB, List.getD_cons_zero, List.append_nil, List.nil_append, List.cons_append]
        repeat' (first
          | (refine RgK.mk rfl ?_; simp -dsimp only [go_sem, reduceIte, reduceCtorEq, Nat.reduceEqDiff, Nat.reduceLT, Nat.reduceLeDiff, Nat.reduceAdd, Nat.reduceMul, Nat.reduceSub, Int.reduceToNat, Int.reduceNeg, w, hap, E_len, List.mem_singleton, Vs.Name.t.injEq, List.set_cons_zero, List.set_cons_succ, List.length_cons, List.length_nil, List.flatMap_cons, List.flatMap_nil, cellN, topN, nestN, sB, List.getD_cons_zero, List.append_nil, List.nil_append, List.cons_append])
          | (refine Br.mk (fun h => ?_) (fun h => ?_) <;> simp -dsimp only [go_sem, reduceIte, reduceCtorEq, Nat.reduceEqDiff, Nat.reduceLT, Nat.reduceLeDiff, Nat.reduceAdd, Nat.reduceMul, Nat.reduceSub, Int.reduceToNat, Int.reduceNeg, h, w, hap, E_len, List.mem_singleton, Vs.Name.t.injEq, List.set_cons_zero, List.set_cons_succ, List.length_cons, List.length_nil, List.flatMap_cons, List.flatMap_nil, cellN, topN, nestN, sB, List.getD_cons_zero, List.append_nil, List.nil_append, List.cons_append])
          | (refine CallK.bor (by first | exact P1 | exact P2 | exact P3) rfl ?_; simp -dsimp only [go_sem, reduceIte, reduceCtorEq, Nat.reduceEqDiff, Nat.reduceLT, Nat.reduceLeDiff, Nat.reduceAdd, Nat.reduceMul, Nat.reduceSub, Int.reduceToNat, Int.reduceNeg, w, hap, E_len, List.mem_singleton, Vs.Name.t.injEq, List.set_cons_zero, List.set_cons_succ, List.length_cons, List.length_nil, List.flatMap_cons, List.flatMap_nil, cellN, topN, nestN, sB, List.getD_cons_zero, List.append_nil, List.nil_append, List.cons_append])
          | (refine And.intro (by first | rfl | omega | decide | exact ⟨by omega, by omega⟩ | exact ⟨rfl, by omega, by omega⟩ | (refine ⟨?_, ?_⟩ <;> (first | rfl | omega | decide | exact ⟨by omega, by omega⟩ | exact ⟨rfl, by omega, by omega⟩)) | (refine ⟨?_, ?_, ?_⟩ <;> (first | rfl | omega | decide | exact ⟨by omega, by omega⟩ | exact ⟨rfl, by omega, by omega⟩)) | (refine ⟨?_, ?_, ?_, ?_⟩ <;> (first | rfl | omega | decide | exact ⟨by omega, by omega⟩ | exact ⟨rfl, by omega, by omega⟩))) ?_; try simp -dsimp only [go_sem, reduceIte, reduceCtorEq, Nat.reduceEqDiff, Nat.reduceLT, Nat.reduceLeDiff, Nat.reduceAdd, Nat.reduceMul, Nat.reduceSub, Int.reduceToNat, Int.reduceNeg, w, hap, E_len, List.mem_singleton, Vs.Name.t.injEq, List.set_cons_zero, List.set_cons_succ, List.length_cons, List.length_nil, List.flatMap_cons, List.flatMap_nil, cellN, topN, nestN, sB, List.getD_cons_zero, List.append_nil, List.nil_append, List.cons_append])
          | fail)
        exact ⟨⟨(k, pkS l (pkS l (pkS l y 1000) 3) 10000, o ++ [pkV l (pkS l (pkS l y 1000) 3) 10000]), by dsimp only; omega, by dsimp only; rw [List.length_append]; simp only [List.length_cons, List.length_nil]; omega, hr⟩, by simp [Vs.LeL, Vs.look, Vs.hlook, Vs.sput, Vs.sputs, Vs.hset, Vs.hputs, Vs.E, sB, cI], by simp only; omega⟩

      · have e1 : (pkV l (pkS l y 1000) 3 == 0) = false := by simp [hz]
        rw [if_neg hz] at hr
        rw [e1] at P2
        simp -dsimp only [go_sem, reduceIte, reduceCtorEq, Nat.reduceEqDiff, Nat.reduceLT, Nat.reduceLeDiff, Nat.reduceAdd, Nat.reduceMul, Nat.reduceSub, Int.reduceToNat, Int.reduceNeg, w, hap, E_len, List.mem_singleton, Vs.Name.t.injEq, List.set_cons_zero, List.set_cons_succ, List.length_cons, List.length_nil, List.flatMap_cons, List.flatMap_nil, cellN, topN, nestN, sB, List.getD_cons_zero, List.append_nil, List.nil_append, List.cons_append]
        repeat' (first
          | (refine RgK.mk rfl ?_; simp -dsimp only [go_sem, reduceIte, reduceCtorEq, Nat.reduceEqDiff, Nat.reduceLT, Nat.reduceLeDiff, Nat.reduceAdd, Nat.reduceMul, Nat.reduceSub, Int.reduceToNat, Int.reduceNeg, w, hap, E_len, List.mem_singleton, Vs.Name.t.injEq, List.set_cons_zero, List.set_cons_succ, List.length_cons, List.length_nil, List.flatMap_cons, List.flatMap_nil, cellN, topN, nestN, sB, List.getD_cons_zero, List.append_nil, List.nil_append, List.cons_append])
          | (refine Br.mk (fun h => ?_) (fun h => ?_) <;> simp -dsimp only [go_sem, reduceIte, reduceCtorEq, Nat.reduceEqDiff, Nat.reduceLT, Nat.reduceLeDiff, Nat.reduceAdd, Nat.reduceMul, Nat.reduceSub, Int.reduceToNat, Int.reduceNeg, h, w, hap, E_len, List.mem_singleton, Vs.Name.t.injEq, List.set_cons_zero, List.set_cons_succ, List.length_cons, List.length_nil, List.flatMap_cons, List.flatMap_nil, cellN, topN, nestN, sB, List.getD_cons_zero, List.append_nil, List.nil_append, List.cons_append])
          | (refine CallK.bor (by first | exact P1 | exact P2) rfl ?_; simp -dsimp only [go_sem, reduceIte, reduceCtorEq, Nat.reduceEqDiff, Nat.reduceLT, Nat.reduceLeDiff, Nat.reduceAdd, Nat.reduceMul, Nat.reduceSub, Int.reduceToNat, Int.reduceNeg, w, hap, E_len, List.mem_singleton, Vs.Name.t.injEq, List.set_cons_zero, List.set_cons_succ, List.length_cons, List.length_nil, List.flatMap_cons, List.flatMap_nil, cellN, topN, nestN, sB, List.getD_cons_zero, List.append_nil, List.nil_append, List.cons_append])
          | (refine And.intro (by first | rfl | omega | decide | exact ⟨by omega, by omega⟩ | exact ⟨rfl, by omega, by omega⟩ | (refine ⟨?_, ?_⟩ <;> (first | rfl | omega | decide | exact ⟨by omega, by omega⟩ | exact ⟨rfl, by omega, by omega⟩)) | (refine ⟨?_, ?_, ?_⟩ <;> (first | rfl | omega | decide | exact ⟨by omega, by omega⟩ | exact ⟨rfl, by omega, by omega⟩)) | (refine ⟨?_, ?_, ?_, ?_⟩ <;> (first | rfl | omega | decide | exact ⟨by omega, by omega⟩ | exact ⟨rfl, by omega, by omega⟩))) ?_; try simp -dsimp only [go_sem, reduceIte, reduceCtorEq, Nat.reduceEqDiff, Nat.reduceLT, Nat.reduceLeDiff, Nat.reduceAdd, Nat.reduceMul, Nat.reduceSub, Int.reduceToNat, Int.reduceNeg, w, hap, E_len, List.mem_singleton, Vs.Name.t.injEq, List.set_cons_zero, List.set_cons_succ, List.length_cons, List.length_nil, List.flatMap_cons, List.flatMap_nil, cellN, topN, nestN, sB, List.getD_cons_zero, List.append_nil, List.nil_append, List.cons_append])
          | fail)
        exact ⟨⟨(k, pkS l (pkS l y 1000) 3, o ++ [pkV l y 1000]), by dsimp only; omega, by dsimp only; rw [List.length_append]; simp only [List.length_cons, List.length_nil]; omega, hr⟩, by simp [Vs.LeL, Vs.look, Vs.hlook, Vs.sput, Vs.sputs, Vs.hset, Vs.hputs, Vs.E, sB, cI], by simp only; omega⟩

    · obtain rfl : k = 0 := by simp at hc; omega
      rw [drL] at hr
      subst hr
      simp -dsimp only [go_sem, reduceIte, reduceCtorEq, Nat.reduceEqDiff, Nat.reduceLT, Nat.reduceLeDiff, Nat.reduceAdd, Nat.reduceMul, Nat.reduceSub, Int.reduceToNat, Int.reduceNeg, E_len, List.mem_singleton, Vs.Name.t.injEq, List.set_cons_zero, List.set_cons_succ, List.length_cons, List.length_nil, List.flatMap_cons, List.flatMap_nil, cellN, topN, nestN, sB, List.getD_cons_zero, List.append_nil, List.nil_append, List.cons_append]
      first | exact ⟨⟨_, _, rfl, rfl⟩, fun h => h rfl⟩
end Go.Proofs.YtgeeipfdkamhmaaDoor
