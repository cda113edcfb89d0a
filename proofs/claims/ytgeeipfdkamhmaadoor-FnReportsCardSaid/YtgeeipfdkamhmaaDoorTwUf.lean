/- Faults are drawn. -/
import Derived.Test.YtgeeipfdkamhmaaDoorTwUd
import Derived.Test.YtgeeipfdkamhmaaDoorTwUc
import Derived.Test.YtgeeipfdkamhmaaDoorTwUa
import Derived.Test.YtgeeipfdkamhmaaDoorTwB
namespace Go.Proofs.YtgeeipfdkamhmaaDoor
open Go.Vs
set_option linter.unusedSimpArgs false
set_option linter.unusedVariables false
attribute [local irreducible] Vs.Fn
attribute [local irreducible] nxV nxS pkV pkS
def ins (f : Flt) (o : List Flt) : List Flt := match o with
  | [] => [f]
  | g :: r => if f.card < g.card then f :: g :: r else g :: r ++ [f]
theorem ins_len (f : Flt) (o : List Flt) : (ins f o).length = o.length + 1 := by
  cases o with
  | nil => rfl
  | cons g r => simp only [ins]; split <;> simp
/-- the faults that are drawn, one after the other -/
def flT (l : List Int) (n : Int) : Nat → Sr → List Flt → List Flt → Sr → Prop
  | 0, x, o, o', x' => o' = o ∧ x' = x
  | k + 1, x, o, o', x' => ∃ f x1, x1.p ≤ x.p + 12 ∧ Vs.Fn Tryd.prog F.spec_l19DrawFault [sB l x] [.ptr (.b 0) 0 0, .v (.int .i64 n)] (.agg (cF f)) [some (sB l x1)] ∧ flT l n k x1 (ins f o) o' x'
theorem flT_ex {l : List Int} (hl : byt l) (n : Int) : ∀ (k : Nat) (x : Sr) (o : List Flt), x.p + 12 * k ≤ 3900 → ∃ o' x', (x'.p ≤ x.p + 12 * k ∧ o'.length = o.length + k) ∧ flT l n k x o o' x'
  | 0, x, o, _ => ⟨o, x, ⟨by omega, rfl⟩, rfl, rfl⟩
  | k + 1, x, o, h => by
    obtain ⟨f, x1, hx1, hf⟩ := drawFault l x hl n (by omega)
    obtain ⟨o', x', ⟨h1, h2⟩, h3⟩ := flT_ex hl n k x1 (ins f o) (by omega)
    exact ⟨o', x', ⟨by omega, by rw [h2, ins_len]; omega⟩, f, x1, hx1, hf, h3⟩
theorem subK {k : Nat} (h : k ≤ 1000) : IntKind.i64.wrap (((k + 1 : Nat) : Int) - 1) = (k : Int) := by rw [wrap_in (by omega) (by omega)]; omega
set_option maxHeartbeats 4000000 in
theorem drawFaults (l : List Int) (x : Sr) (hl : byt l) (n : Int) (hp : x.p ≤ 3800) : ∃ fs x', fs.length ≤ 3 ∧ Vs.Fn Tryd.prog F.spec_l19DrawFaults [sB l x] [.ptr (.b 0) 0 0, .v (.int .i64 n)] (.sl 4 (E cF fs)) [some (sB l x')] := by
  have v := pkV_in hl x (n := 3) (by omega)
  have P0 := pick l x hl 3 (by omega)
  have p0 := pkS_p l x 3
  obtain ⟨k0, hk0⟩ : ∃ k : Nat, pkV l x 3 = k := ⟨(pkV l x 3).toNat, by omega⟩
  rw [hk0] at P0 v
  generalize pkS l x 3 = x0 at *
  obtain ⟨o1, x1, ⟨hx1, ho1⟩, hT⟩ := flT_ex hl n k0 x0 [] (by omega)
  simp only [List.length_nil] at ho1
  have P9 := one l x1 hl 16 (by omega)
  obtain ⟨b9, hb9⟩ : ∃ b : Bool, (pkV l x1 16 == 0) = b := ⟨_, rfl⟩
  rw [hb9] at P9
  generalize pkS l x1 16 = x9 at *
  refine ⟨(if b9 then o1 ++ [⟨1, 11, 0, 0⟩] else o1), x9, by split <;> (try rw [List.length_append]) <;> (try simp only [List.length_cons, List.length_nil]) <;> omega, ?_⟩
  refine Cd.spec_l19DrawFaults_ok.fn Tryd.mixed (hin := [sB l x]) _ _ [.b 0] [sB l x9] Cd.spec_l19DrawFaults_nt Cd.spec_l19DrawFaults_rs rfl (by simp) rfl (by simp) fun X => ?_
  unfold Cd.spec_l19DrawFaults
  simp -dsimp only [go_sem, reduceIte, reduceCtorEq, Nat.reduceEqDiff, Nat.reduceLT, Nat.reduceLeDiff, Nat.reduceAdd, Nat.reduceMul, Nat.reduceSub, Int.reduceToNat, Int.reduceNeg, E_len, List.mem_singleton, Vs.Name.t.injEq, List.set_cons_zero, List.set_cons_succ, List.length_cons, List.length_nil, List.flatMap_cons, List.flatMap_nil, cellN, topN, nestN, sB, List.getD_cons_zero, List.append_nil, List.nil_append, List.cons_append]
  repeat' (first
    | (refine RgK.mk rfl ?_; simp -dsimp only [go_sem, reduceIte, reduceCtorEq, Nat.reduceEqDiff, Nat.reduceLT, Nat.reduceLeDiff, Nat.reduceAdd, Nat.reduceMul, Nat.reduceSub, Int.reduceToNat, Int.reduceNeg, E_len, List.mem_singleton, Vs.Name.t.injEq, List.set_cons_zero, List.set_cons_succ, List.length_cons, List.length_nil, List.flatMap_cons, List.flatMap_nil, cellN, topN, nestN, sB, List.getD_cons_zero, List.append_nil, List.nil_append, List.cons_append])
    | (refine Br.mk (fun h => ?_) (fun h => ?_) <;> simp -dsimp only [go_sem, reduceIte, reduceCtorEq, Nat.reduceEqDiff, Nat.reduceLT, Nat.reduceLeDiff, Nat.reduceAdd, Nat.reduceMul, Nat.reduceSub, Int.reduceToNat, Int.reduceNeg, h, E_len, List.mem_singleton, Vs.Name.t.injEq, List.set_cons_zero, List.set_cons_succ, List.length_cons, List.length_nil, List.flatMap_cons, List.flatMap_nil, cellN, topN, nestN, sB, List.getD_cons_zero, List.append_nil, List.nil_append, List.cons_append])
    | (refine CallK.bor (by first | exact P0) rfl ?_; simp -dsimp only [go_sem, reduceIte, reduceCtorEq, Nat.reduceEqDiff, Nat.reduceLT, Nat.reduceLeDiff, Nat.reduceAdd, Nat.reduceMul, Nat.reduceSub, Int.reduceToNat, Int.reduceNeg, E_len, List.mem_singleton, Vs.Name.t.injEq, List.set_cons_zero, List.set_cons_succ, List.length_cons, List.length_nil, List.flatMap_cons, List.flatMap_nil, cellN, topN, nestN, sB, List.getD_cons_zero, List.append_nil, List.nil_append, List.cons_append])
    | (refine And.intro (by first | rfl | omega | decide | (refine ⟨?_, ?_⟩ <;> (first | rfl | omega | decide)) | (refine ⟨?_, ?_, ?_⟩ <;> (first | rfl | omega | decide)) | (refine ⟨?_, ?_, ?_, ?_⟩ <;> (first | rfl | omega | decide))) ?_; try simp -dsimp only [go_sem, reduceIte, reduceCtorEq, Nat.reduceEqDiff, Nat.reduceLT, Nat.reduceLeDiff, Nat.reduceAdd, Nat.reduceMul, Nat.reduceSub, Int.reduceToNat, Int.reduceNeg, E_len, List.mem_singleton, Vs.Name.t.injEq, List.set_cons_zero, List.set_cons_succ, List.length_cons, List.length_nil, List.flatMap_cons, List.flatMap_nil, cellN, topN, nestN, sB, List.getD_cons_zero, List.append_nil, List.nil_append, List.cons_append])
    | fail)
  refine LoopK.intro (drawn_ok Tryd.mixed) (X := { p : Nat × Sr × List Flt × Vs.Name // (p.2.1.p + 12 * p.1 ≤ 3960) ∧ (p.1 + p.2.2.1.length ≤ 2) ∧ flT l n p.1 p.2.1 p.2.2.1 o1 x1 ∧ ((p.2.2.1.length = 0 ∧ p.2.2.2 = .t 8 0) ∨ (p.2.2.1.length = 1 ∧ p.2.2.2 = .t 37 0) ∨ (p.2.2.1.length = 2 ∧ (p.2.2.2 = .t 33 0 ∨ p.2.2.2 = .t 37 0))) })
    (fun p => ⟨[(0, .ptr (.b 0) 0 0), (1, .v (.int .i64 n)), (5, .loc p.1.2.2.2 0 p.1.2.2.1.length), (6, .v (.int .i64 (p.1.1 : Nat)))], [(.b 0, sB l p.1.2.1), (p.1.2.2.2, .arr 4 (E cF p.1.2.2.1) false)]⟩) (fun p => p.1.1) ⟨(k0, x0, [], .t 8 0), by dsimp only; omega, by dsimp only; simp only [List.length_nil]; omega, hT, .inl ⟨rfl, rfl⟩⟩ ?_ ?_
  · simp [Vs.LeL, Vs.look, Vs.hlook, Vs.sput, Vs.sputs, Vs.hset, Vs.hputs, Vs.E, sB, cF]
  · rintro ⟨⟨k, y, o, nm⟩, hk1, hk2, hr, hnm⟩
    dsimp only at hk1 hk2 hr hnm
    simp -dsimp only [go_sem, reduceIte, reduceCtorEq, Nat.reduceEqDiff, Nat.reduceLT, Nat.reduceLeDiff, Nat.reduceAdd, Nat.reduceMul, Nat.reduceSub, Int.reduceToNat, Int.reduceNeg, E_len, List.mem_singleton, Vs.Name.t.injEq, List.set_cons_zero, List.set_cons_succ, List.length_cons, List.length_nil, List.flatMap_cons, List.flatMap_nil, cellN, topN, nestN, sB, List.getD_cons_zero, List.append_nil, List.nil_append, List.cons_append]
    refine Br.mk (fun hc => ?_) fun hc => ?_
    · obtain ⟨k, rfl⟩ : ∃ j, k = j + 1 := ⟨k - 1, by simp at hc; omega⟩
      have w := subK (k := k) (by omega)
      obtain ⟨f, y1, hy1, hf, hr⟩ := hr
      have hc1 : [cF f] = E cF [f] := rfl
      match o, hk2, hr, hnm with
      | [], hk2, hr, hnm =>
        obtain rfl : nm = .t 8 0 := by rcases hnm with h | h | h <;> first | exact h.2 | (simp at h)
        simp only [ins] at hr
        have e0 : decide (((0 : Nat) : Int) > 0) = false := rfl
        simp -dsimp only [go_sem, reduceIte, reduceCtorEq, Nat.reduceEqDiff, Nat.reduceLT, Nat.reduceLeDiff, Nat.reduceAdd, Nat.reduceMul, Nat.reduceSub, Int.reduceToNat, Int.reduceNeg, w, e0, cF, E_len, List.mem_singleton, Vs.Name.t.injEq, List.set_cons_zero, List.set_cons_succ, List.length_cons, List.length_nil, List.flatMap_cons, List.flatMap_nil, cellN, topN, nestN, sB, List.getD_cons_zero, List.append_nil, List.nil_append, List.cons_append]
        repeat' (first
          | (refine RgK.mk rfl ?_; simp -dsimp only [go_sem, reduceIte, reduceCtorEq, Nat.reduceEqDiff, Nat.reduceLT, Nat.reduceLeDiff, Nat.reduceAdd, Nat.reduceMul, Nat.reduceSub, Int.reduceToNat, Int.reduceNeg, w, e0, cF, E_len, List.mem_singleton, Vs.Name.t.injEq, List.set_cons_zero, List.set_cons_succ, List.length_cons, List.length_nil, List.flatMap_cons, List.flatMap_nil, cellN, topN, nestN, sB, List.getD_cons_zero, List.append_nil, List.nil_append, List.cons_append])
          | (refine Br.mk (fun h => ?_) (fun h => ?_) <;> simp -dsimp only [go_sem, reduceIte, reduceCtorEq, Nat.reduceEqDiff, Nat.reduceLT, Nat.reduceLeDiff, Nat.reduceAdd, Nat.reduceMul, Nat.reduceSub, Int.reduceToNat, Int.reduceNeg, h, w, e0, cF, E_len, List.mem_singleton, Vs.Name.t.injEq, List.set_cons_zero, List.set_cons_succ, List.length_cons, List.length_nil, List.flatMap_cons, List.flatMap_nil, cellN, topN, nestN, sB, List.getD_cons_zero, List.append_nil, List.nil_append, List.cons_append])
          | (refine CallK.bor (by first | exact hf) rfl ?_; simp -dsimp only [go_sem, reduceIte, reduceCtorEq, Nat.reduceEqDiff, Nat.reduceLT, Nat.reduceLeDiff, Nat.reduceAdd, Nat.reduceMul, Nat.reduceSub, Int.reduceToNat, Int.reduceNeg, w, e0, cF, E_len, List.mem_singleton, Vs.Name.t.injEq, List.set_cons_zero, List.set_cons_succ, List.length_cons, List.length_nil, List.flatMap_cons, List.flatMap_nil, cellN, topN, nestN, sB, List.getD_cons_zero, List.append_nil, List.nil_append, List.cons_append])
          | (refine And.intro (by first | rfl | omega | decide | exact ⟨by omega, by omega⟩ | exact ⟨rfl, by omega, by omega⟩ | (refine ⟨?_, ?_⟩ <;> (first | rfl | omega | decide | exact ⟨by omega, by omega⟩ | exact ⟨rfl, by omega, by omega⟩)) | (refine ⟨?_, ?_, ?_⟩ <;> (first | rfl | omega | decide | exact ⟨by omega, by omega⟩ | exact ⟨rfl, by omega, by omega⟩)) | (refine ⟨?_, ?_, ?_, ?_⟩ <;> (first | rfl | omega | decide | exact ⟨by omega, by omega⟩ | exact ⟨rfl, by omega, by omega⟩))) ?_; try simp -dsimp only [go_sem, reduceIte, reduceCtorEq, Nat.reduceEqDiff, Nat.reduceLT, Nat.reduceLeDiff, Nat.reduceAdd, Nat.reduceMul, Nat.reduceSub, Int.reduceToNat, Int.reduceNeg, w, e0, cF, E_len, List.mem_singleton, Vs.Name.t.injEq, List.set_cons_zero, List.set_cons_succ, List.length_cons, List.length_nil, List.flatMap_cons, List.flatMap_nil, cellN, topN, nestN, sB, List.getD_cons_zero, List.append_nil, List.nil_append, List.cons_append])
          | fail)
        exact ⟨⟨(k, y1, [f], .t 37 0), by dsimp only; omega, by dsimp only; simp only [List.length_append, List.length_cons, List.length_nil]; omega, hr, .inr (.inl ⟨rfl, rfl⟩)⟩, by simp [Vs.LeL, Vs.look, Vs.hlook, Vs.sput, Vs.sputs, Vs.hset, Vs.hputs, Vs.E, sB, cF], by simp only; omega⟩

      | [g], hk2, hr, hnm =>
        obtain rfl : nm = .t 37 0 := by rcases hnm with h | h | h <;> first | exact h.2 | (simp at h)
        have hg : (E cF [g]).getD 0 [] = cF g := rfl
        have htk : (E cF [g]).take 1 = E cF [g] := rfl
        have e0 : decide (((1 : Nat) : Int) > 0) = true := rfl
        simp only [ins] at hr
        by_cases hlt : f.card < g.card
        · have e1 : decide (f.card < g.card) = true := by simp [hlt]
          rw [if_pos hlt] at hr
          simp -dsimp only [go_sem, reduceIte, reduceCtorEq, Nat.reduceEqDiff, Nat.reduceLT, Nat.reduceLeDiff, Nat.reduceAdd, Nat.reduceMul, Nat.reduceSub, Int.reduceToNat, Int.reduceNeg, w, e0, e1, hg, htk, cF, E_len, List.mem_singleton, Vs.Name.t.injEq, List.set_cons_zero, List.set_cons_succ, List.length_cons, List.length_nil, List.flatMap_cons, List.flatMap_nil, cellN, topN, nestN, sB, List.getD_cons_zero, List.append_nil, List.nil_append, List.cons_append]
          repeat' (first
            | (refine RgK.mk rfl ?_; simp -dsimp only [go_sem, reduceIte, reduceCtorEq, Nat.reduceEqDiff, Nat.reduceLT, Nat.reduceLeDiff, Nat.reduceAdd, Nat.reduceMul, Nat.reduceSub, Int.reduceToNat, Int.reduceNeg, w, e0, e1, hg, htk, cF, E_len, List.mem_singleton, Vs.Name.t.injEq, List.set_cons_zero, List.set_cons_succ, List.length_cons, List.length_nil, List.flatMap_cons, List.flatMap_nil, cellN, topN, nestN, sB, List.getD_cons_zero, List.append_nil, List.nil_append, List.cons_append])
            | (refine Br.mk (fun h => ?_) (fun h => ?_) <;> simp -dsimp only [go_sem, reduceIte, reduceCtorEq, Nat.reduceEqDiff, Nat.reduceLT, Nat.reduceLeDiff, Nat.reduceAdd, Nat.reduceMul, Nat.reduceSub, Int.reduceToNat, Int.reduceNeg, h, w, e0, e1, hg, htk, cF, E_len, List.mem_singleton, Vs.Name.t.injEq, List.set_cons_zero, List.set_cons_succ, List.length_cons, List.length_nil, List.flatMap_cons, List.flatMap_nil, cellN, topN, nestN, sB, List.getD_cons_zero, List.append_nil, List.nil_append, List.cons_append])
            | (refine CallK.bor (by first | exact hf) rfl ?_; simp -dsimp only [go_sem, reduceIte, reduceCtorEq, Nat.reduceEqDiff, Nat.reduceLT, Nat.reduceLeDiff, Nat.reduceAdd, Nat.reduceMul, Nat.reduceSub, Int.reduceToNat, Int.reduceNeg, w, e0, e1, hg, htk, cF, E_len, List.mem_singleton, Vs.Name.t.injEq, List.set_cons_zero, List.set_cons_succ, List.length_cons, List.length_nil, List.flatMap_cons, List.flatMap_nil, cellN, topN, nestN, sB, List.getD_cons_zero, List.append_nil, List.nil_append, List.cons_append])
            | (refine And.intro (by first | rfl | omega | decide | exact ⟨by omega, by omega⟩ | exact ⟨rfl, by omega, by omega⟩ | (refine ⟨?_, ?_⟩ <;> (first | rfl | omega | decide | exact ⟨by omega, by omega⟩ | exact ⟨rfl, by omega, by omega⟩)) | (refine ⟨?_, ?_, ?_⟩ <;> (first | rfl | omega | decide | exact ⟨by omega, by omega⟩ | exact ⟨rfl, by omega, by omega⟩)) | (refine ⟨?_, ?_, ?_, ?_⟩ <;> (first | rfl | omega | decide | exact ⟨by omega, by omega⟩ | exact ⟨rfl, by omega, by omega⟩))) ?_; try simp -dsimp only [go_sem, reduceIte, reduceCtorEq, Nat.reduceEqDiff, Nat.reduceLT, Nat.reduceLeDiff, Nat.reduceAdd, Nat.reduceMul, Nat.reduceSub, Int.reduceToNat, Int.reduceNeg, w, e0, e1, hg, htk, cF, E_len, List.mem_singleton, Vs.Name.t.injEq, List.set_cons_zero, List.set_cons_succ, List.length_cons, List.length_nil, List.flatMap_cons, List.flatMap_nil, cellN, topN, nestN, sB, List.getD_cons_zero, List.append_nil, List.nil_append, List.cons_append])
            | fail)
          exact ⟨⟨(k, y1, [f, g], .t 33 0), by dsimp only; omega, by dsimp only; simp only [List.length_append, List.length_cons, List.length_nil]; omega, hr, .inr (.inr ⟨rfl, .inl rfl⟩)⟩, by simp [Vs.LeL, Vs.look, Vs.hlook, Vs.sput, Vs.sputs, Vs.hset, Vs.hputs, Vs.E, sB, cF], by simp only; omega⟩

        · have e1 : decide (f.card < g.card) = false := by simp; omega
          rw [if_neg hlt] at hr
          simp -dsimp only [go_sem, reduceIte, reduceCtorEq, Nat.reduceEqDiff, Nat.reduceLT, Nat.reduceLeDiff, Nat.reduceAdd, Nat.reduceMul, Nat.reduceSub, Int.reduceToNat, Int.reduceNeg, w, e0, e1, hg, htk, cF, E_len, List.mem_singleton, Vs.Name.t.injEq, List.set_cons_zero, List.set_cons_succ, List.length_cons, List.length_nil, List.flatMap_cons, List.flatMap_nil, cellN, topN, nestN, sB, List.getD_cons_zero, List.append_nil, List.nil_append, List.cons_append]
          repeat' (first
            | (refine RgK.mk rfl ?_; simp -dsimp only [go_sem, reduceIte, reduceCtorEq, Nat.reduceEqDiff, Nat.reduceLT, Nat.reduceLeDiff, Nat.reduceAdd, Nat.reduceMul, Nat.reduceSub, Int.reduceToNat, Int.reduceNeg, w, e0, e1, hg, htk, cF, E_len, List.mem_singleton, Vs.Name.t.injEq, List.set_cons_zero, List.set_cons_succ, List.length_cons, List.length_nil, List.flatMap_cons, List.flatMap_nil, cellN, topN, nestN, sB, List.getD_cons_zero, List.append_nil, List.nil_append, List.cons_append])
            | (refine Br.mk (fun h => ?_) (fun h => ?_) <;> simp -dsimp only [go_sem, reduceIte, reduceCtorEq, Nat.reduceEqDiff, Nat.reduceLT, Nat.reduceLeDiff, Nat.reduceAdd, Nat.reduceMul, Nat.reduceSub, Int.reduceToNat, Int.reduceNeg, h, w, e0, e1, hg, htk, cF, E_len, List.mem_singleton, Vs.Name.t.injEq, List.set_cons_zero, List.set_cons_succ, List.length_cons, List.length_nil, List.flatMap_cons, List.flatMap_nil, cellN, topN, nestN, sB, List.getD_cons_zero, List.append_nil, List.nil_append, List.cons_append])
            | (refine CallK.bor (by first | exact hf) rfl ?_; simp -dsimp only [go_sem, reduceIte, reduceCtorEq, Nat.reduceEqDiff, Nat.reduceLT, Nat.reduceLeDiff, Nat.reduceAdd, Nat.reduceMul, Nat.reduceSub, Int.reduceToNat, Int.reduceNeg, w, e0, e1, hg, htk, cF, E_len, List.mem_singleton, Vs.Name.t.injEq, List.set_cons_zero, List.set_cons_succ, List.length_cons, List.length_nil, List.flatMap_cons, List.flatMap_nil, cellN, topN, nestN, sB, List.getD_cons_zero, List.append_nil, List.nil_append, List.cons_append])
            | (refine And.intro (by first | rfl | omega | decide | exact ⟨by omega, by omega⟩ | exact ⟨rfl, by omega, by omega⟩ | (refine ⟨?_, ?_⟩ <;> (first | rfl | omega | decide | exact ⟨by omega, by omega⟩ | exact ⟨rfl, by omega, by omega⟩)) | (refine ⟨?_, ?_, ?_⟩ <;> (first | rfl | omega | decide | exact ⟨by omega, by omega⟩ | exact ⟨rfl, by omega, by omega⟩)) | (refine ⟨?_, ?_, ?_, ?_⟩ <;> (first | rfl | omega | decide | exact ⟨by omega, by omega⟩ | exact ⟨rfl, by omega, by omega⟩))) ?_; try simp -dsimp only [go_sem, reduceIte, reduceCtorEq, Nat.reduceEqDiff, Nat.reduceLT, Nat.reduceLeDiff, Nat.reduceAdd, Nat.reduceMul, Nat.reduceSub, Int.reduceToNat, Int.reduceNeg, w, e0, e1, hg, htk, cF, E_len, List.mem_singleton, Vs.Name.t.injEq, List.set_cons_zero, List.set_cons_succ, List.length_cons, List.length_nil, List.flatMap_cons, List.flatMap_nil, cellN, topN, nestN, sB, List.getD_cons_zero, List.append_nil, List.nil_append, List.cons_append])
            | fail)
          exact ⟨⟨(k, y1, [g, f], .t 37 0), by dsimp only; omega, by dsimp only; simp only [List.length_append, List.length_cons, List.length_nil]; omega, hr, .inr (.inr ⟨rfl, .inr rfl⟩)⟩, by simp [Vs.LeL, Vs.look, Vs.hlook, Vs.sput, Vs.sputs, Vs.hset, Vs.hputs, Vs.E, sB, cF], by simp only; omega⟩

      | _ :: _ :: _, hk2, _, _ => simp only [List.length_cons] at hk2; omega
    · obtain rfl : k = 0 := by simp at hc; omega
      obtain ⟨rfl, rfl⟩ := hr
      have hE : E cF (o1 ++ [⟨1, 11, 0, 0⟩]) = E cF o1 ++ [[.v (.int .i64 1), .v (.int .i64 11), .v (.int .i64 0), .v (.int .i64 0)]] := by rw [E_append]; rfl
      have hta : (E cF o1).take o1.length = E cF o1 := List.take_of_length_le (by simp [Vs.E])
      have htb : ∀ r : List AV, (E cF o1 ++ [r]).take (o1.length + 1) = E cF o1 ++ [r] := fun r => List.take_of_length_le (by simp [Vs.E])
      have hnm2 : nm = .t 8 0 ∨ nm = .t 37 0 ∨ nm = .t 33 0 := by
        rcases hnm with h | h | ⟨_, h | h⟩
        · exact .inl h.2
        · exact .inr (.inl h.2)
        · exact .inr (.inr h)
        · exact .inr (.inl h)
      cases b9 <;> rcases hnm2 with rfl | rfl | rfl
      all_goals
        simp -dsimp only [go_sem, reduceIte, reduceCtorEq, Nat.reduceEqDiff, Nat.reduceLT, Nat.reduceLeDiff, Nat.reduceAdd, Nat.reduceMul, Nat.reduceSub, Int.reduceToNat, Int.reduceNeg, hE, hta, htb, cF, E_len, List.mem_singleton, Vs.Name.t.injEq, List.set_cons_zero, List.set_cons_succ, List.length_cons, List.length_nil, List.flatMap_cons, List.flatMap_nil, cellN, topN, nestN, sB, List.getD_cons_zero, List.append_nil, List.nil_append, List.cons_append]
        refine ⟨?_, fun h => h rfl⟩
        repeat' (first
          | (refine RgK.mk rfl ?_; simp -dsimp only [go_sem, reduceIte, reduceCtorEq, Nat.reduceEqDiff, Nat.reduceLT, Nat.reduceLeDiff, Nat.reduceAdd, Nat.reduceMul, Nat.reduceSub, Int.reduceToNat, Int.reduceNeg, hE, hta, htb, cF, E_len, List.mem_singleton, Vs.Name.t.injEq, List.set_cons_zero, List.set_cons_succ, List.length_cons, List.length_nil, List.flatMap_cons, List.flatMap_nil, cellN, topN, nestN, sB, List.getD_cons_zero, List.append_nil, List.nil_append, List.cons_append])
          | (refine Br.mk (fun h => ?_) (fun h => ?_) <;> simp -dsimp only [go_sem, reduceIte, reduceCtorEq, Nat.reduceEqDiff, Nat.reduceLT, Nat.reduceLeDiff, Nat.reduceAdd, Nat.reduceMul, Nat.reduceSub, Int.reduceToNat, Int.reduceNeg, h, hE, hta, htb, cF, E_len, List.mem_singleton, Vs.Name.t.injEq, List.set_cons_zero, List.set_cons_succ, List.length_cons, List.length_nil, List.flatMap_cons, List.flatMap_nil, cellN, topN, nestN, sB, List.getD_cons_zero, List.append_nil, List.nil_append, List.cons_append])
          | (refine CallK.bor (by first | exact P9) rfl ?_; simp -dsimp only [go_sem, reduceIte, reduceCtorEq, Nat.reduceEqDiff, Nat.reduceLT, Nat.reduceLeDiff, Nat.reduceAdd, Nat.reduceMul, Nat.reduceSub, Int.reduceToNat, Int.reduceNeg, hE, hta, htb, cF, E_len, List.mem_singleton, Vs.Name.t.injEq, List.set_cons_zero, List.set_cons_succ, List.length_cons, List.length_nil, List.flatMap_cons, List.flatMap_nil, cellN, topN, nestN, sB, List.getD_cons_zero, List.append_nil, List.nil_append, List.cons_append])
          | (refine And.intro (by first | rfl | omega | decide | exact ⟨by omega, by omega⟩ | exact ⟨rfl, by omega, by omega⟩ | (refine ⟨?_, ?_⟩ <;> (first | rfl | omega | decide | exact ⟨by omega, by omega⟩ | exact ⟨rfl, by omega, by omega⟩)) | (refine ⟨?_, ?_, ?_⟩ <;> (first | rfl | omega | decide | exact ⟨by omega, by omega⟩ | exact ⟨rfl, by omega, by omega⟩)) | (refine ⟨?_, ?_, ?_, ?_⟩ <;> (first | rfl | omega | decide | exact ⟨by omega, by omega⟩ | exact ⟨rfl, by omega, by omega⟩))) ?_; try simp -dsimp only [go_sem, reduceIte, reduceCtorEq, Nat.reduceEqDiff, Nat.reduceLT, Nat.reduceLeDiff, Nat.reduceAdd, Nat.reduceMul, Nat.reduceSub, Int.reduceToNat, Int.reduceNeg, hE, hta, htb, cF, E_len, List.mem_singleton, Vs.Name.t.injEq, List.set_cons_zero, List.set_cons_succ, List.length_cons, List.length_nil, List.flatMap_cons, List.flatMap_nil, cellN, topN, nestN, sB, List.getD_cons_zero, List.append_nil, List.nil_append, List.cons_append])
          | fail)
        first | exact ⟨_, _, rfl, rfl⟩

end Go.Proofs.YtgeeipfdkamhmaaDoor
