/- The trays that a flow uses: the reference's FlowUses. -/
import Derived.Test.YthpokkcbbpapdaaYwXe
namespace Go.Proofs.Ythpokkcbbpapdaa
open Go.Vs
set_option linter.unusedSimpArgs false
set_option linter.unusedVariables false
attribute [local irreducible] Vs.Fn chOK areCh chTo chAt l03

theorem pgo_sel0 : ∀ (a b c d e f : Bool) (t : Fin 6), pgo (t.1 : Int) (sel [a, b, c, d, e, f] 6) false = sel ([a, b, c, d, e, f].set t.1 true) 6 := by decide +kernel
theorem pgo_sel {u : List Bool} (hu : u.length = 6) {v : Int} (h0 : 0 ≤ v) (h1 : v ≤ 5) : pgo v (sel u 6) false = sel (u.set v.toNat true) 6 := by
  obtain ⟨a, b, c, d, e, f, rfl⟩ := six_of hu
  have := pgo_sel0 a b c d e f ⟨v.toNat, by omega⟩
  simpa [Int.toNat_of_nonneg h0] using this
/-- the list of filled trays and their marks agree -/
def rel (fl : List Int) (m : List Bool) : Prop := ∀ v : Int, 0 ≤ v → v ≤ 5 → (fl.any fun y => y == v) = m.getD v.toNat false
theorem rel_nil : rel [] six := by
  intro v h0 h1
  have h : v = 0 ∨ v = 1 ∨ v = 2 ∨ v = 3 ∨ v = 4 ∨ v = 5 := by omega
  rcases h with rfl | rfl | rfl | rfl | rfl | rfl <;> rfl
theorem rel_put {fl : List Int} {m : List Bool} (hm : m.length = 6) (h : rel fl m) {t : Int} (h0 : 0 ≤ t) (h1 : t ≤ 5) : rel (fl ++ [t]) (m.set t.toNat true) := by
  intro v v0 v1
  rw [List.any_append, h v v0 v1]
  have e : (m.set t.toNat true).getD v.toNat false = (if t.toNat = v.toNat then true else m.getD v.toNat false) := by
    simp only [List.getD, List.getElem?_set]
    split
    · rw [if_pos (by omega)]; rfl
    · rfl
  rw [e]
  by_cases htv : t = v
  · subst htv; simp
  · have : ¬ t.toNat = v.toNat := by omega
    rw [if_neg this]
    simp [htv]
set_option maxRecDepth 20000 in
set_option maxHeartbeats 8000000 in
theorem spec_FlowUses1 (l : List Stp) (hs : ∀ x, x ∈ l → x.text.size ≤ 1048576) (hl : l.length ≤ 1048576) (hv : (l.all (fun x => stpB x 20) && decide ((l.length : Int) ≤ 20)) = true) : Vs.Fn Try.prog F.spec_FlowUses [] [.sl 9 (E cS l)] (.tup [.sl 1 (E cI (sel (fuS l l.length).1 6)), .v (.int .i64 0)]) [] := by
  have h6 : sel six 6 = [] := by decide
  have hal : ∀ x, x ∈ l → stpB x 20 = true := by
    simp only [Bool.and_eq_true, List.all_eq_true] at hv
    exact hv.1
  refine Cd.spec_FlowUses_ok.fn0 Try.mixed Cd.spec_FlowUses_nt Cd.spec_FlowUses_rs rfl fun X => ?_
  unfold Cd.spec_FlowUses
  simp -dsimp only [go_sem, reduceIte, reduceCtorEq, Nat.reduceEqDiff, Nat.reduceLT, Nat.reduceLeDiff, Nat.reduceAdd, Nat.reduceMul, Nat.reduceSub, Int.reduceToNat, Int.reduceNeg, hv]
  repeat' (first
    | (refine RgK.mk rfl ?_; simp -dsimp only [go_sem, reduceIte, reduceCtorEq, Nat.reduceEqDiff, Nat.reduceLT, Nat.reduceLeDiff, Nat.reduceAdd, Nat.reduceMul, Nat.reduceSub, Int.reduceToNat, Int.reduceNeg, hv])
    | (refine Br.mk (fun h => ?_) (fun h => ?_) <;> simp -dsimp only [go_sem, reduceIte, reduceCtorEq, Nat.reduceEqDiff, Nat.reduceLT, Nat.reduceLeDiff, Nat.reduceAdd, Nat.reduceMul, Nat.reduceSub, Int.reduceToNat, Int.reduceNeg, h, hv])
    | (refine CallK.flat (by first | exact l15Flow l 20 hs hl) rfl ?_; simp -dsimp only [go_sem, reduceIte, reduceCtorEq, Nat.reduceEqDiff, Nat.reduceLT, Nat.reduceLeDiff, Nat.reduceAdd, Nat.reduceMul, Nat.reduceSub, Int.reduceToNat, Int.reduceNeg, hv])
    | (refine CallK.pure (by first | exact l15Flow l 20 hs hl) ?_; simp -dsimp only [go_sem, reduceIte, reduceCtorEq, Nat.reduceEqDiff, Nat.reduceLT, Nat.reduceLeDiff, Nat.reduceAdd, Nat.reduceMul, Nat.reduceSub, Int.reduceToNat, Int.reduceNeg, hv])
    | (refine And.intro (by first | rfl | omega | decide | (refine ⟨?_, ?_⟩ <;> (first | rfl | omega | decide)) | (refine ⟨?_, ?_, ?_⟩ <;> (first | rfl | omega | decide)) | (refine ⟨?_, ?_, ?_, ?_⟩ <;> (first | rfl | omega | decide))) ?_)
    | fail)
  refine LoopK.intro (drawn_ok Try.mixed) (X := { zz : Nat × List Bool × List Bool × List Int // zz.1 ≤ l.length ∧ (zz.2.1, zz.2.2.1) = fuS l zz.1 ∧ rel zz.2.2.2 zz.2.2.1 ∧ zz.2.2.2.length ≤ zz.1 }) (fun zz => ⟨[(0, .sl 9 (E cS l)), (4, .sl 1 (E cI (sel zz.1.2.1 6))), (5, .loc (.t 5 0) 0 zz.1.2.2.2.length), (6, .v (.int .i64 zz.1.1))], [(.t 5 0, .arr 1 (E cI zz.1.2.2.2) false)]⟩) (fun zz => l.length - zz.1.1) ⟨(0, six, six, []), by omega, rfl, rel_nil, by simp⟩ ?_ ?_
  · simp [Vs.LeL, Vs.look, Vs.hlook, h6, Vs.E]
  · rintro ⟨⟨i, u, m, fl⟩, hi, hum, hr, hfl⟩
    dsimp only at hi hum hr hfl
    have hu : u.length = 6 := by have := (fuS_len l i hi).1; rw [← hum] at this; exact this
    have hm : m.length = 6 := by have := (fuS_len l i hi).2; rw [← hum] at this; exact this
    have hfl1 : fl.length ≤ 1048576 := by omega
    simp -dsimp only [go_sem, reduceIte, reduceCtorEq, Nat.reduceEqDiff, Nat.reduceLT, Nat.reduceLeDiff, Nat.reduceAdd, Nat.reduceMul, Nat.reduceSub, Int.reduceToNat, Int.reduceNeg]
    refine Br.mk (fun hc => ?_) fun hc => ?_
    · have hlt : i < l.length := by simpa using hc
      have hw := wrap_succ hlt hl
      have hgi : (E cS l).getD i [] = cS l[i] := E_get hlt
      obtain ⟨⟨a0, a1⟩, ⟨b0, b1⟩, t0, t1⟩ := stpB_in (hal _ (List.getElem_mem hlt))
      cases hma : m.getD l[i].a.toNat false
      · have ha1 : f1 u m l[i].a.toNat = (u.set l[i].a.toNat true) := by unfold f1; rw [hma]; rfl
        have hxa : (fl.any fun y => y == l[i].a) = false := by rw [hr _ a0 a1]; exact hma
        have hu1 : (u.set l[i].a.toNat true).length = 6 := by simp [hu]
        have hpa := pgo_sel hu a0 a1
        cases hk4 : inB l[i].kind 2 4
        · by_cases h7 : l[i].kind = 7
          · have e7 : (l[i].kind != 7) = false := by simp [h7]
            have hnx : ((u.set l[i].a.toNat true), m) = fuS l (i + 1) := by rw [fuS_succ hlt, ← hum]; unfold fuN; dsimp only; rw [hk4, ha1, if_neg (by decide), if_pos h7]
            have hrn : rel fl m := hr
            simp -dsimp only [go_sem, reduceIte, reduceCtorEq, Nat.reduceEqDiff, Nat.reduceLT, Nat.reduceLeDiff, Nat.reduceAdd, Nat.reduceMul, Nat.reduceSub, Int.reduceToNat, Int.reduceNeg, hw, hgi, cS, E_take, E_len, List.replicate_succ, List.replicate_zero, List.flatten_cons, List.flatten_nil, List.length_append, List.length_cons, List.length_nil, hap, e7, hxa, hpa, hk4]
            repeat' (first
              | (refine RgK.mk rfl ?_; simp -dsimp only [go_sem, reduceIte, reduceCtorEq, Nat.reduceEqDiff, Nat.reduceLT, Nat.reduceLeDiff, Nat.reduceAdd, Nat.reduceMul, Nat.reduceSub, Int.reduceToNat, Int.reduceNeg, hw, hgi, cS, E_take, E_len, List.replicate_succ, List.replicate_zero, List.flatten_cons, List.flatten_nil, List.length_append, List.length_cons, List.length_nil, hap, e7, hxa, hpa, hk4])
              | (refine Br.mk (fun h => ?_) (fun h => ?_) <;> simp -dsimp only [go_sem, reduceIte, reduceCtorEq, Nat.reduceEqDiff, Nat.reduceLT, Nat.reduceLeDiff, Nat.reduceAdd, Nat.reduceMul, Nat.reduceSub, Int.reduceToNat, Int.reduceNeg, h, hw, hgi, cS, E_take, E_len, List.replicate_succ, List.replicate_zero, List.flatten_cons, List.flatten_nil, List.length_append, List.length_cons, List.length_nil, hap, e7, hxa, hpa, hk4])
              | (refine CallK.flat (by first | exact has fl l[i].a hfl1 | exact has fl l[i].b hfl1 | exact l15Both _ | exact put (sel u 6) l[i].a (by have := sel_len u 6; omega)) rfl ?_; simp -dsimp only [go_sem, reduceIte, reduceCtorEq, Nat.reduceEqDiff, Nat.reduceLT, Nat.reduceLeDiff, Nat.reduceAdd, Nat.reduceMul, Nat.reduceSub, Int.reduceToNat, Int.reduceNeg, hw, hgi, cS, E_take, E_len, List.replicate_succ, List.replicate_zero, List.flatten_cons, List.flatten_nil, List.length_append, List.length_cons, List.length_nil, hap, e7, hxa, hpa, hk4])
              | (refine CallK.pure (by first | exact has fl l[i].a hfl1 | exact has fl l[i].b hfl1 | exact l15Both _ | exact put (sel u 6) l[i].a (by have := sel_len u 6; omega)) ?_; simp -dsimp only [go_sem, reduceIte, reduceCtorEq, Nat.reduceEqDiff, Nat.reduceLT, Nat.reduceLeDiff, Nat.reduceAdd, Nat.reduceMul, Nat.reduceSub, Int.reduceToNat, Int.reduceNeg, hw, hgi, cS, E_take, E_len, List.replicate_succ, List.replicate_zero, List.flatten_cons, List.flatten_nil, List.length_append, List.length_cons, List.length_nil, hap, e7, hxa, hpa, hk4])
              | (refine And.intro (by first | rfl | omega | decide | (refine ⟨?_, ?_⟩ <;> (first | rfl | omega | decide)) | (refine ⟨?_, ?_, ?_⟩ <;> (first | rfl | omega | decide)) | (refine ⟨?_, ?_, ?_, ?_⟩ <;> (first | rfl | omega | decide))) ?_)
              | fail)
            all_goals (exact ⟨⟨(i + 1, (u.set l[i].a.toNat true), m, fl), hlt, hnx, hrn, by dsimp only; omega⟩, by simp [Vs.LeL, Vs.look, Vs.hlook], by simp only; omega⟩)
          · have e7 : (l[i].kind != 7) = true := by simp [h7]
            have hnx : ((u.set l[i].a.toNat true), (m.set l[i].to.toNat true)) = fuS l (i + 1) := by rw [fuS_succ hlt, ← hum]; unfold fuN; dsimp only; rw [hk4, ha1, if_neg (by decide), if_neg h7]
            have hrn : rel (fl ++ [l[i].to]) (m.set l[i].to.toNat true) := rel_put hm hr t0 t1
            simp -dsimp only [go_sem, reduceIte, reduceCtorEq, Nat.reduceEqDiff, Nat.reduceLT, Nat.reduceLeDiff, Nat.reduceAdd, Nat.reduceMul, Nat.reduceSub, Int.reduceToNat, Int.reduceNeg, hw, hgi, cS, E_take, E_len, List.replicate_succ, List.replicate_zero, List.flatten_cons, List.flatten_nil, List.length_append, List.length_cons, List.length_nil, hap, e7, hxa, hpa, hk4]
            repeat' (first
              | (refine RgK.mk rfl ?_; simp -dsimp only [go_sem, reduceIte, reduceCtorEq, Nat.reduceEqDiff, Nat.reduceLT, Nat.reduceLeDiff, Nat.reduceAdd, Nat.reduceMul, Nat.reduceSub, Int.reduceToNat, Int.reduceNeg, hw, hgi, cS, E_take, E_len, List.replicate_succ, List.replicate_zero, List.flatten_cons, List.flatten_nil, List.length_append, List.length_cons, List.length_nil, hap, e7, hxa, hpa, hk4])
              | (refine Br.mk (fun h => ?_) (fun h => ?_) <;> simp -dsimp only [go_sem, reduceIte, reduceCtorEq, Nat.reduceEqDiff, Nat.reduceLT, Nat.reduceLeDiff, Nat.reduceAdd, Nat.reduceMul, Nat.reduceSub, Int.reduceToNat, Int.reduceNeg, h, hw, hgi, cS, E_take, E_len, List.replicate_succ, List.replicate_zero, List.flatten_cons, List.flatten_nil, List.length_append, List.length_cons, List.length_nil, hap, e7, hxa, hpa, hk4])
              | (refine CallK.flat (by first | exact has fl l[i].a hfl1 | exact has fl l[i].b hfl1 | exact l15Both _ | exact put (sel u 6) l[i].a (by have := sel_len u 6; omega)) rfl ?_; simp -dsimp only [go_sem, reduceIte, reduceCtorEq, Nat.reduceEqDiff, Nat.reduceLT, Nat.reduceLeDiff, Nat.reduceAdd, Nat.reduceMul, Nat.reduceSub, Int.reduceToNat, Int.reduceNeg, hw, hgi, cS, E_take, E_len, List.replicate_succ, List.replicate_zero, List.flatten_cons, List.flatten_nil, List.length_append, List.length_cons, List.length_nil, hap, e7, hxa, hpa, hk4])
              | (refine CallK.pure (by first | exact has fl l[i].a hfl1 | exact has fl l[i].b hfl1 | exact l15Both _ | exact put (sel u 6) l[i].a (by have := sel_len u 6; omega)) ?_; simp -dsimp only [go_sem, reduceIte, reduceCtorEq, Nat.reduceEqDiff, Nat.reduceLT, Nat.reduceLeDiff, Nat.reduceAdd, Nat.reduceMul, Nat.reduceSub, Int.reduceToNat, Int.reduceNeg, hw, hgi, cS, E_take, E_len, List.replicate_succ, List.replicate_zero, List.flatten_cons, List.flatten_nil, List.length_append, List.length_cons, List.length_nil, hap, e7, hxa, hpa, hk4])
              | (refine And.intro (by first | rfl | omega | decide | (refine ⟨?_, ?_⟩ <;> (first | rfl | omega | decide)) | (refine ⟨?_, ?_, ?_⟩ <;> (first | rfl | omega | decide)) | (refine ⟨?_, ?_, ?_, ?_⟩ <;> (first | rfl | omega | decide))) ?_)
              | fail)
            all_goals (exact ⟨⟨(i + 1, (u.set l[i].a.toNat true), (m.set l[i].to.toNat true), (fl ++ [l[i].to])), hlt, hnx, hrn, by simp only [List.length_append, List.length_cons, List.length_nil]; omega⟩, by simp [Vs.LeL, Vs.look, Vs.hlook], by simp only; omega⟩)
        · cases hmb : m.getD l[i].b.toNat false
          · have hb1 : f1 (u.set l[i].a.toNat true) m l[i].b.toNat = ((u.set l[i].a.toNat true).set l[i].b.toNat true) := by unfold f1; rw [hmb]; rfl
            have hxb : (fl.any fun y => y == l[i].b) = false := by rw [hr _ b0 b1]; exact hmb
            have hpb := pgo_sel hu1 b0 b1
            by_cases h7 : l[i].kind = 7
            · have e7 : (l[i].kind != 7) = false := by simp [h7]
              have hnx : (((u.set l[i].a.toNat true).set l[i].b.toNat true), m) = fuS l (i + 1) := by rw [fuS_succ hlt, ← hum]; unfold fuN; dsimp only; rw [hk4, ha1, hb1, if_pos rfl, if_pos h7]
              have hrn : rel fl m := hr
              simp -dsimp only [go_sem, reduceIte, reduceCtorEq, Nat.reduceEqDiff, Nat.reduceLT, Nat.reduceLeDiff, Nat.reduceAdd, Nat.reduceMul, Nat.reduceSub, Int.reduceToNat, Int.reduceNeg, hw, hgi, cS, E_take, E_len, List.replicate_succ, List.replicate_zero, List.flatten_cons, List.flatten_nil, List.length_append, List.length_cons, List.length_nil, hap, e7, hxa, hpa, hxb, hk4, hpb]
              repeat' (first
                | (refine RgK.mk rfl ?_; simp -dsimp only [go_sem, reduceIte, reduceCtorEq, Nat.reduceEqDiff, Nat.reduceLT, Nat.reduceLeDiff, Nat.reduceAdd, Nat.reduceMul, Nat.reduceSub, Int.reduceToNat, Int.reduceNeg, hw, hgi, cS, E_take, E_len, List.replicate_succ, List.replicate_zero, List.flatten_cons, List.flatten_nil, List.length_append, List.length_cons, List.length_nil, hap, e7, hxa, hpa, hxb, hk4, hpb])
                | (refine Br.mk (fun h => ?_) (fun h => ?_) <;> simp -dsimp only [go_sem, reduceIte, reduceCtorEq, Nat.reduceEqDiff, Nat.reduceLT, Nat.reduceLeDiff, Nat.reduceAdd, Nat.reduceMul, Nat.reduceSub, Int.reduceToNat, Int.reduceNeg, h, hw, hgi, cS, E_take, E_len, List.replicate_succ, List.replicate_zero, List.flatten_cons, List.flatten_nil, List.length_append, List.length_cons, List.length_nil, hap, e7, hxa, hpa, hxb, hk4, hpb])
                | (refine CallK.flat (by first | exact has fl l[i].a hfl1 | exact has fl l[i].b hfl1 | exact l15Both _ | exact put (sel u 6) l[i].a (by have := sel_len u 6; omega) | exact put (sel (u.set l[i].a.toNat true) 6) l[i].b (by have := sel_len (u.set l[i].a.toNat true) 6; omega)) rfl ?_; simp -dsimp only [go_sem, reduceIte, reduceCtorEq, Nat.reduceEqDiff, Nat.reduceLT, Nat.reduceLeDiff, Nat.reduceAdd, Nat.reduceMul, Nat.reduceSub, Int.reduceToNat, Int.reduceNeg, hw, hgi, cS, E_take, E_len, List.replicate_succ, List.replicate_zero, List.flatten_cons, List.flatten_nil, List.length_append, List.length_cons, List.length_nil, hap, e7, hxa, hpa, hxb, hk4, hpb])
                | (refine CallK.pure (by first | exact has fl l[i].a hfl1 | exact has fl l[i].b hfl1 | exact l15Both _ | exact put (sel u 6) l[i].a (by have := sel_len u 6; omega) | exact put (sel (u.set l[i].a.toNat true) 6) l[i].b (by have := sel_len (u.set l[i].a.toNat true) 6; omega)) ?_; simp -dsimp only [go_sem, reduceIte, reduceCtorEq, Nat.reduceEqDiff, Nat.reduceLT, Nat.reduceLeDiff, Nat.reduceAdd, Nat.reduceMul, Nat.reduceSub, Int.reduceToNat, Int.reduceNeg, hw, hgi, cS, E_take, E_len, List.replicate_succ, List.replicate_zero, List.flatten_cons, List.flatten_nil, List.length_append, List.length_cons, List.length_nil, hap, e7, hxa, hpa, hxb, hk4, hpb])
                | (refine And.intro (by first | rfl | omega | decide | (refine ⟨?_, ?_⟩ <;> (first | rfl | omega | decide)) | (refine ⟨?_, ?_, ?_⟩ <;> (first | rfl | omega | decide)) | (refine ⟨?_, ?_, ?_, ?_⟩ <;> (first | rfl | omega | decide))) ?_)
                | fail)
              all_goals (exact ⟨⟨(i + 1, ((u.set l[i].a.toNat true).set l[i].b.toNat true), m, fl), hlt, hnx, hrn, by dsimp only; omega⟩, by simp [Vs.LeL, Vs.look, Vs.hlook], by simp only; omega⟩)
            · have e7 : (l[i].kind != 7) = true := by simp [h7]
              have hnx : (((u.set l[i].a.toNat true).set l[i].b.toNat true), (m.set l[i].to.toNat true)) = fuS l (i + 1) := by rw [fuS_succ hlt, ← hum]; unfold fuN; dsimp only; rw [hk4, ha1, hb1, if_pos rfl, if_neg h7]
              have hrn : rel (fl ++ [l[i].to]) (m.set l[i].to.toNat true) := rel_put hm hr t0 t1
              simp -dsimp only [go_sem, reduceIte, reduceCtorEq, Nat.reduceEqDiff, Nat.reduceLT, Nat.reduceLeDiff, Nat.reduceAdd, Nat.reduceMul, Nat.reduceSub, Int.reduceToNat, Int.reduceNeg, hw, hgi, cS, E_take, E_len, List.replicate_succ, List.replicate_zero, List.flatten_cons, List.flatten_nil, List.length_append, List.length_cons, List.length_nil, hap, e7, hxa, hpa, hxb, hk4, hpb]
              repeat' (first
                | (refine RgK.mk rfl ?_; simp -dsimp only [go_sem, reduceIte, reduceCtorEq, Nat.reduceEqDiff, Nat.reduceLT, Nat.reduceLeDiff, Nat.reduceAdd, Nat.reduceMul, Nat.reduceSub, Int.reduceToNat, Int.reduceNeg, hw, hgi, cS, E_take, E_len, List.replicate_succ, List.replicate_zero, List.flatten_cons, List.flatten_nil, List.length_append, List.length_cons, List.length_nil, hap, e7, hxa, hpa, hxb, hk4, hpb])
                | (refine Br.mk (fun h => ?_) (fun h => ?_) <;> simp -dsimp only [go_sem, reduceIte, reduceCtorEq, Nat.reduceEqDiff, Nat.reduceLT, Nat.reduceLeDiff, Nat.reduceAdd, Nat.reduceMul, Nat.reduceSub, Int.reduceToNat, Int.reduceNeg, h, hw, hgi, cS, E_take, E_len, List.replicate_succ, List.replicate_zero, List.flatten_cons, List.flatten_nil, List.length_append, List.length_cons, List.length_nil, hap, e7, hxa, hpa, hxb, hk4, hpb])
                | (refine CallK.flat (by first | exact has fl l[i].a hfl1 | exact has fl l[i].b hfl1 | exact l15Both _ | exact put (sel u 6) l[i].a (by have := sel_len u 6; omega) | exact put (sel (u.set l[i].a.toNat true) 6) l[i].b (by have := sel_len (u.set l[i].a.toNat true) 6; omega)) rfl ?_; simp -dsimp only [go_sem, reduceIte, reduceCtorEq, Nat.reduceEqDiff, Nat.reduceLT, Nat.reduceLeDiff, Nat.reduceAdd, Nat.reduceMul, Nat.reduceSub, Int.reduceToNat, Int.reduceNeg, hw, hgi, cS, E_take, E_len, List.replicate_succ, List.replicate_zero, List.flatten_cons, List.flatten_nil, List.length_append, List.length_cons, List.length_nil, hap, e7, hxa, hpa, hxb, hk4, hpb])
                | (refine CallK.pure (by first | exact has fl l[i].a hfl1 | exact has fl l[i].b hfl1 | exact l15Both _ | exact put (sel u 6) l[i].a (by have := sel_len u 6; omega) | exact put (sel (u.set l[i].a.toNat true) 6) l[i].b (by have := sel_len (u.set l[i].a.toNat true) 6; omega)) ?_; simp -dsimp only [go_sem, reduceIte, reduceCtorEq, Nat.reduceEqDiff, Nat.reduceLT, Nat.reduceLeDiff, Nat.reduceAdd, Nat.reduceMul, Nat.reduceSub, Int.reduceToNat, Int.reduceNeg, hw, hgi, cS, E_take, E_len, List.replicate_succ, List.replicate_zero, List.flatten_cons, List.flatten_nil, List.length_append, List.length_cons, List.length_nil, hap, e7, hxa, hpa, hxb, hk4, hpb])
                | (refine And.intro (by first | rfl | omega | decide | (refine ⟨?_, ?_⟩ <;> (first | rfl | omega | decide)) | (refine ⟨?_, ?_, ?_⟩ <;> (first | rfl | omega | decide)) | (refine ⟨?_, ?_, ?_, ?_⟩ <;> (first | rfl | omega | decide))) ?_)
                | fail)
              all_goals (exact ⟨⟨(i + 1, ((u.set l[i].a.toNat true).set l[i].b.toNat true), (m.set l[i].to.toNat true), (fl ++ [l[i].to])), hlt, hnx, hrn, by simp only [List.length_append, List.length_cons, List.length_nil]; omega⟩, by simp [Vs.LeL, Vs.look, Vs.hlook], by simp only; omega⟩)
          · have hb1 : f1 (u.set l[i].a.toNat true) m l[i].b.toNat = (u.set l[i].a.toNat true) := by unfold f1; rw [hmb]; rfl
            have hxb : (fl.any fun y => y == l[i].b) = true := by rw [hr _ b0 b1]; exact hmb
            by_cases h7 : l[i].kind = 7
            · have e7 : (l[i].kind != 7) = false := by simp [h7]
              have hnx : ((u.set l[i].a.toNat true), m) = fuS l (i + 1) := by rw [fuS_succ hlt, ← hum]; unfold fuN; dsimp only; rw [hk4, ha1, hb1, if_pos rfl, if_pos h7]
              have hrn : rel fl m := hr
              simp -dsimp only [go_sem, reduceIte, reduceCtorEq, Nat.reduceEqDiff, Nat.reduceLT, Nat.reduceLeDiff, Nat.reduceAdd, Nat.reduceMul, Nat.reduceSub, Int.reduceToNat, Int.reduceNeg, hw, hgi, cS, E_take, E_len, List.replicate_succ, List.replicate_zero, List.flatten_cons, List.flatten_nil, List.length_append, List.length_cons, List.length_nil, hap, e7, hxa, hpa, hxb, hk4]
              repeat' (first
                | (refine RgK.mk rfl ?_; simp -dsimp only [go_sem, reduceIte, reduceCtorEq, Nat.reduceEqDiff, Nat.reduceLT, Nat.reduceLeDiff, Nat.reduceAdd, Nat.reduceMul, Nat.reduceSub, Int.reduceToNat, Int.reduceNeg, hw, hgi, cS, E_take, E_len, List.replicate_succ, List.replicate_zero, List.flatten_cons, List.flatten_nil, List.length_append, List.length_cons, List.length_nil, hap, e7, hxa, hpa, hxb, hk4])
                | (refine Br.mk (fun h => ?_) (fun h => ?_) <;> simp -dsimp only [go_sem, reduceIte, reduceCtorEq, Nat.reduceEqDiff, Nat.reduceLT, Nat.reduceLeDiff, Nat.reduceAdd, Nat.reduceMul, Nat.reduceSub, Int.reduceToNat, Int.reduceNeg, h, hw, hgi, cS, E_take, E_len, List.replicate_succ, List.replicate_zero, List.flatten_cons, List.flatten_nil, List.length_append, List.length_cons, List.length_nil, hap, e7, hxa, hpa, hxb, hk4])
                | (refine CallK.flat (by first | exact has fl l[i].a hfl1 | exact has fl l[i].b hfl1 | exact l15Both _ | exact put (sel u 6) l[i].a (by have := sel_len u 6; omega)) rfl ?_; simp -dsimp only [go_sem, reduceIte, reduceCtorEq, Nat.reduceEqDiff, Nat.reduceLT, Nat.reduceLeDiff, Nat.reduceAdd, Nat.reduceMul, Nat.reduceSub, Int.reduceToNat, Int.reduceNeg, hw, hgi, cS, E_take, E_len, List.replicate_succ, List.replicate_zero, List.flatten_cons, List.flatten_nil, List.length_append, List.length_cons, List.length_nil, hap, e7, hxa, hpa, hxb, hk4])
                | (refine CallK.pure (by first | exact has fl l[i].a hfl1 | exact has fl l[i].b hfl1 | exact l15Both _ | exact put (sel u 6) l[i].a (by have := sel_len u 6; omega)) ?_; simp -dsimp only [go_sem, reduceIte, reduceCtorEq, Nat.reduceEqDiff, Nat.reduceLT, Nat.reduceLeDiff, Nat.reduceAdd, Nat.reduceMul, Nat.reduceSub, Int.reduceToNat, Int.reduceNeg, hw, hgi, cS, E_take, E_len, List.replicate_succ, List.replicate_zero, List.flatten_cons, List.flatten_nil, List.length_append, List.length_cons, List.length_nil, hap, e7, hxa, hpa, hxb, hk4])
                | (refine And.intro (by first | rfl | omega | decide | (refine ⟨?_, ?_⟩ <;> (first | rfl | omega | decide)) | (refine ⟨?_, ?_, ?_⟩ <;> (first | rfl | omega | decide)) | (refine ⟨?_, ?_, ?_, ?_⟩ <;> (first | rfl | omega | decide))) ?_)
                | fail)
              all_goals (exact ⟨⟨(i + 1, (u.set l[i].a.toNat true), m, fl), hlt, hnx, hrn, by dsimp only; omega⟩, by simp [Vs.LeL, Vs.look, Vs.hlook], by simp only; omega⟩)
            · have e7 : (l[i].kind != 7) = true := by simp [h7]
              have hnx : ((u.set l[i].a.toNat true), (m.set l[i].to.toNat true)) = fuS l (i + 1) := by rw [fuS_succ hlt, ← hum]; unfold fuN; dsimp only; rw [hk4, ha1, hb1, if_pos rfl, if_neg h7]
              have hrn : rel (fl ++ [l[i].to]) (m.set l[i].to.toNat true) := rel_put hm hr t0 t1
              simp -dsimp only [go_sem, reduceIte, reduceCtorEq, Nat.reduceEqDiff, Nat.reduceLT, Nat.reduceLeDiff, Nat.reduceAdd, Nat.reduceMul, Nat.reduceSub, Int.reduceToNat, Int.reduceNeg, hw, hgi, cS, E_take, E_len, List.replicate_succ, List.replicate_zero, List.flatten_cons, List.flatten_nil, List.length_append, List.length_cons, List.length_nil, hap, e7, hxa, hpa, hxb, hk4]
              repeat' (first
                | (refine RgK.mk rfl ?_; simp -dsimp only [go_sem, reduceIte, reduceCtorEq, Nat.reduceEqDiff, Nat.reduceLT, Nat.reduceLeDiff, Nat.reduceAdd, Nat.reduceMul, Nat.reduceSub, Int.reduceToNat, Int.reduceNeg, hw, hgi, cS, E_take, E_len, List.replicate_succ, List.replicate_zero, List.flatten_cons, List.flatten_nil, List.length_append, List.length_cons, List.length_nil, hap, e7, hxa, hpa, hxb, hk4])
                | (refine Br.mk (fun h => ?_) (fun h => ?_) <;> simp -dsimp only [go_sem, reduceIte, reduceCtorEq, Nat.reduceEqDiff, Nat.reduceLT, Nat.reduceLeDiff, Nat.reduceAdd, Nat.reduceMul, Nat.reduceSub, Int.reduceToNat, Int.reduceNeg, h, hw, hgi, cS, E_take, E_len, List.replicate_succ, List.replicate_zero, List.flatten_cons, List.flatten_nil, List.length_append, List.length_cons, List.length_nil, hap, e7, hxa, hpa, hxb, hk4])
                | (refine CallK.flat (by first | exact has fl l[i].a hfl1 | exact has fl l[i].b hfl1 | exact l15Both _ | exact put (sel u 6) l[i].a (by have := sel_len u 6; omega)) rfl ?_; simp -dsimp only [go_sem, reduceIte, reduceCtorEq, Nat.reduceEqDiff, Nat.reduceLT, Nat.reduceLeDiff, Nat.reduceAdd, Nat.reduceMul, Nat.reduceSub, Int.reduceToNat, Int.reduceNeg, hw, hgi, cS, E_take, E_len, List.replicate_succ, List.replicate_zero, List.flatten_cons, List.flatten_nil, List.length_append, List.length_cons, List.length_nil, hap, e7, hxa, hpa, hxb, hk4])
                | (refine CallK.pure (by first | exact has fl l[i].a hfl1 | exact has fl l[i].b hfl1 | exact l15Both _ | exact put (sel u 6) l[i].a (by have := sel_len u 6; omega)) ?_; simp -dsimp only [go_sem, reduceIte, reduceCtorEq, Nat.reduceEqDiff, Nat.reduceLT, Nat.reduceLeDiff, Nat.reduceAdd, Nat.reduceMul, Nat.reduceSub, Int.reduceToNat, Int.reduceNeg, hw, hgi, cS, E_take, E_len, List.replicate_succ, List.replicate_zero, List.flatten_cons, List.flatten_nil, List.length_append, List.length_cons, List.length_nil, hap, e7, hxa, hpa, hxb, hk4])
                | (refine And.intro (by first | rfl | omega | decide | (refine ⟨?_, ?_⟩ <;> (first | rfl | omega | decide)) | (refine ⟨?_, ?_, ?_⟩ <;> (first | rfl | omega | decide)) | (refine ⟨?_, ?_, ?_, ?_⟩ <;> (first | rfl | omega | decide))) ?_)
                | fail)
              all_goals (exact ⟨⟨(i + 1, (u.set l[i].a.toNat true), (m.set l[i].to.toNat true), (fl ++ [l[i].to])), hlt, hnx, hrn, by simp only [List.length_append, List.length_cons, List.length_nil]; omega⟩, by simp [Vs.LeL, Vs.look, Vs.hlook], by simp only; omega⟩)
      · have ha1 : f1 u m l[i].a.toNat = u := by unfold f1; rw [hma]; rfl
        have hxa : (fl.any fun y => y == l[i].a) = true := by rw [hr _ a0 a1]; exact hma
        have hu1 : u.length = 6 := by simp [hu]
        cases hk4 : inB l[i].kind 2 4
        · by_cases h7 : l[i].kind = 7
          · have e7 : (l[i].kind != 7) = false := by simp [h7]
            have hnx : (u, m) = fuS l (i + 1) := by rw [fuS_succ hlt, ← hum]; unfold fuN; dsimp only; rw [hk4, ha1, if_neg (by decide), if_pos h7]
            have hrn : rel fl m := hr
            simp -dsimp only [go_sem, reduceIte, reduceCtorEq, Nat.reduceEqDiff, Nat.reduceLT, Nat.reduceLeDiff, Nat.reduceAdd, Nat.reduceMul, Nat.reduceSub, Int.reduceToNat, Int.reduceNeg, hw, hgi, cS, E_take, E_len, List.replicate_succ, List.replicate_zero, List.flatten_cons, List.flatten_nil, List.length_append, List.length_cons, List.length_nil, hap, e7, hxa, hk4]
            repeat' (first
              | (refine RgK.mk rfl ?_; simp -dsimp only [go_sem, reduceIte, reduceCtorEq, Nat.reduceEqDiff, Nat.reduceLT, Nat.reduceLeDiff, Nat.reduceAdd, Nat.reduceMul, Nat.reduceSub, Int.reduceToNat, Int.reduceNeg, hw, hgi, cS, E_take, E_len, List.replicate_succ, List.replicate_zero, List.flatten_cons, List.flatten_nil, List.length_append, List.length_cons, List.length_nil, hap, e7, hxa, hk4])
              | (refine Br.mk (fun h => ?_) (fun h => ?_) <;> simp -dsimp only [go_sem, reduceIte, reduceCtorEq, Nat.reduceEqDiff, Nat.reduceLT, Nat.reduceLeDiff, Nat.reduceAdd, Nat.reduceMul, Nat.reduceSub, Int.reduceToNat, Int.reduceNeg, h, hw, hgi, cS, E_take, E_len, List.replicate_succ, List.replicate_zero, List.flatten_cons, List.flatten_nil, List.length_append, List.length_cons, List.length_nil, hap, e7, hxa, hk4])
              | (refine CallK.flat (by first | exact has fl l[i].a hfl1 | exact has fl l[i].b hfl1 | exact l15Both _) rfl ?_; simp -dsimp only [go_sem, reduceIte, reduceCtorEq, Nat.reduceEqDiff, Nat.reduceLT, Nat.reduceLeDiff, Nat.reduceAdd, Nat.reduceMul, Nat.reduceSub, Int.reduceToNat, Int.reduceNeg, hw, hgi, cS, E_take, E_len, List.replicate_succ, List.replicate_zero, List.flatten_cons, List.flatten_nil, List.length_append, List.length_cons, List.length_nil, hap, e7, hxa, hk4])
              | (refine CallK.pure (by first | exact has fl l[i].a hfl1 | exact has fl l[i].b hfl1 | exact l15Both _) ?_; simp -dsimp only [go_sem, reduceIte, reduceCtorEq, Nat.reduceEqDiff, Nat.reduceLT, Nat.reduceLeDiff, Nat.reduceAdd, Nat.reduceMul, Nat.reduceSub, Int.reduceToNat, Int.reduceNeg, hw, hgi, cS, E_take, E_len, List.replicate_succ, List.replicate_zero, List.flatten_cons, List.flatten_nil, List.length_append, List.length_cons, List.length_nil, hap, e7, hxa, hk4])
              | (refine And.intro (by first | rfl | omega | decide | (refine ⟨?_, ?_⟩ <;> (first | rfl | omega | decide)) | (refine ⟨?_, ?_, ?_⟩ <;> (first | rfl | omega | decide)) | (refine ⟨?_, ?_, ?_, ?_⟩ <;> (first | rfl | omega | decide))) ?_)
              | fail)
            all_goals (exact ⟨⟨(i + 1, u, m, fl), hlt, hnx, hrn, by dsimp only; omega⟩, by simp [Vs.LeL, Vs.look, Vs.hlook], by simp only; omega⟩)
          · have e7 : (l[i].kind != 7) = true := by simp [h7]
            have hnx : (u, (m.set l[i].to.toNat true)) = fuS l (i + 1) := by rw [fuS_succ hlt, ← hum]; unfold fuN; dsimp only; rw [hk4, ha1, if_neg (by decide), if_neg h7]
            have hrn : rel (fl ++ [l[i].to]) (m.set l[i].to.toNat true) := rel_put hm hr t0 t1
            simp -dsimp only [go_sem, reduceIte, reduceCtorEq, Nat.reduceEqDiff, Nat.reduceLT, Nat.reduceLeDiff, Nat.reduceAdd, Nat.reduceMul, Nat.reduceSub, Int.reduceToNat, Int.reduceNeg, hw, hgi, cS, E_take, E_len, List.replicate_succ, List.replicate_zero, List.flatten_cons, List.flatten_nil, List.length_append, List.length_cons, List.length_nil, hap, e7, hxa, hk4]
            repeat' (first
              | (refine RgK.mk rfl ?_; simp -dsimp only [go_sem, reduceIte, reduceCtorEq, Nat.reduceEqDiff, Nat.reduceLT, Nat.reduceLeDiff, Nat.reduceAdd, Nat.reduceMul, Nat.reduceSub, Int.reduceToNat, Int.reduceNeg, hw, hgi, cS, E_take, E_len, List.replicate_succ, List.replicate_zero, List.flatten_cons, List.flatten_nil, List.length_append, List.length_cons, List.length_nil, hap, e7, hxa, hk4])
              | (refine Br.mk (fun h => ?_) (fun h => ?_) <;> simp -dsimp only [go_sem, reduceIte, reduceCtorEq, Nat.reduceEqDiff, Nat.reduceLT, Nat.reduceLeDiff, Nat.reduceAdd, Nat.reduceMul, Nat.reduceSub, Int.reduceToNat, Int.reduceNeg, h, hw, hgi, cS, E_take, E_len, List.replicate_succ, List.replicate_zero, List.flatten_cons, List.flatten_nil, List.length_append, List.length_cons, List.length_nil, hap, e7, hxa, hk4])
              | (refine CallK.flat (by first | exact has fl l[i].a hfl1 | exact has fl l[i].b hfl1 | exact l15Both _) rfl ?_; simp -dsimp only [go_sem, reduceIte, reduceCtorEq, Nat.reduceEqDiff, Nat.reduceLT, Nat.reduceLeDiff, Nat.reduceAdd, Nat.reduceMul, Nat.reduceSub, Int.reduceToNat, Int.reduceNeg, hw, hgi, cS, E_take, E_len, List.replicate_succ, List.replicate_zero, List.flatten_cons, List.flatten_nil, List.length_append, List.length_cons, List.length_nil, hap, e7, hxa, hk4])
              | (refine CallK.pure (by first | exact has fl l[i].a hfl1 | exact has fl l[i].b hfl1 | exact l15Both _) ?_; simp -dsimp only [go_sem, reduceIte, reduceCtorEq, Nat.reduceEqDiff, Nat.reduceLT, Nat.reduceLeDiff, Nat.reduceAdd, Nat.reduceMul, Nat.reduceSub, Int.reduceToNat, Int.reduceNeg, hw, hgi, cS, E_take, E_len, List.replicate_succ, List.replicate_zero, List.flatten_cons, List.flatten_nil, List.length_append, List.length_cons, List.length_nil, hap, e7, hxa, hk4])
              | (refine And.intro (by first | rfl | omega | decide | (refine ⟨?_, ?_⟩ <;> (first | rfl | omega | decide)) | (refine ⟨?_, ?_, ?_⟩ <;> (first | rfl | omega | decide)) | (refine ⟨?_, ?_, ?_, ?_⟩ <;> (first | rfl | omega | decide))) ?_)
              | fail)
            all_goals (exact ⟨⟨(i + 1, u, (m.set l[i].to.toNat true), (fl ++ [l[i].to])), hlt, hnx, hrn, by simp only [List.length_append, List.length_cons, List.length_nil]; omega⟩, by simp [Vs.LeL, Vs.look, Vs.hlook], by simp only; omega⟩)
        · cases hmb : m.getD l[i].b.toNat false
          · have hb1 : f1 u m l[i].b.toNat = (u.set l[i].b.toNat true) := by unfold f1; rw [hmb]; rfl
            have hxb : (fl.any fun y => y == l[i].b) = false := by rw [hr _ b0 b1]; exact hmb
            have hpb := pgo_sel hu1 b0 b1
            by_cases h7 : l[i].kind = 7
            · have e7 : (l[i].kind != 7) = false := by simp [h7]
              have hnx : ((u.set l[i].b.toNat true), m) = fuS l (i + 1) := by rw [fuS_succ hlt, ← hum]; unfold fuN; dsimp only; rw [hk4, ha1, hb1, if_pos rfl, if_pos h7]
              have hrn : rel fl m := hr
              simp -dsimp only [go_sem, reduceIte, reduceCtorEq, Nat.reduceEqDiff, Nat.reduceLT, Nat.reduceLeDiff, Nat.reduceAdd, Nat.reduceMul, Nat.reduceSub, Int.reduceToNat, Int.reduceNeg, hw, hgi, cS, E_take, E_len, List.replicate_succ, List.replicate_zero, List.flatten_cons, List.flatten_nil, List.length_append, List.length_cons, List.length_nil, hap, e7, hxa, hxb, hk4, hpb]
              repeat' (first
                | (refine RgK.mk rfl ?_; simp -dsimp only [go_sem, reduceIte, reduceCtorEq, Nat.reduceEqDiff, Nat.reduceLT, Nat.reduceLeDiff, Nat.reduceAdd, Nat.reduceMul, Nat.reduceSub, Int.reduceToNat, Int.reduceNeg, hw, hgi, cS, E_take, E_len, List.replicate_succ, List.replicate_zero, List.flatten_cons, List.flatten_nil, List.length_append, List.length_cons, List.length_nil, hap, e7, hxa, hxb, hk4, hpb])
                | (refine Br.mk (fun h => ?_) (fun h => ?_) <;> simp -dsimp only [go_sem, reduceIte, reduceCtorEq, Nat.reduceEqDiff, Nat.reduceLT, Nat.reduceLeDiff, Nat.reduceAdd, Nat.reduceMul, Nat.reduceSub, Int.reduceToNat, Int.reduceNeg, h, hw, hgi, cS, E_take, E_len, List.replicate_succ, List.replicate_zero, List.flatten_cons, List.flatten_nil, List.length_append, List.length_cons, List.length_nil, hap, e7, hxa, hxb, hk4, hpb])
                | (refine CallK.flat (by first | exact has fl l[i].a hfl1 | exact has fl l[i].b hfl1 | exact l15Both _ | exact put (sel u 6) l[i].b (by have := sel_len u 6; omega)) rfl ?_; simp -dsimp only [go_sem, reduceIte, reduceCtorEq, Nat.reduceEqDiff, Nat.reduceLT, Nat.reduceLeDiff, Nat.reduceAdd, Nat.reduceMul, Nat.reduceSub, Int.reduceToNat, Int.reduceNeg, hw, hgi, cS, E_take, E_len, List.replicate_succ, List.replicate_zero, List.flatten_cons, List.flatten_nil, List.length_append, List.length_cons, List.length_nil, hap, e7, hxa, hxb, hk4, hpb])
                | (refine CallK.pure (by first | exact has fl l[i].a hfl1 | exact has fl l[i].b hfl1 | exact l15Both _ | exact put (sel u 6) l[i].b (by have := sel_len u 6; omega)) ?_; simp -dsimp only [go_sem, reduceIte, reduceCtorEq, Nat.reduceEqDiff, Nat.reduceLT, Nat.reduceLeDiff, Nat.reduceAdd, Nat.reduceMul, Nat.reduceSub, Int.reduceToNat, Int.reduceNeg, hw, hgi, cS, E_take, E_len, List.replicate_succ, List.replicate_zero, List.flatten_cons, List.flatten_nil, List.length_append, List.length_cons, List.length_nil, hap, e7, hxa, hxb, hk4, hpb])
                | (refine And.intro (by first | rfl | omega | decide | (refine ⟨?_, ?_⟩ <;> (first | rfl | omega | decide)) | (refine ⟨?_, ?_, ?_⟩ <;> (first | rfl | omega | decide)) | (refine ⟨?_, ?_, ?_, ?_⟩ <;> (first | rfl | omega | decide))) ?_)
                | fail)
              all_goals (exact ⟨⟨(i + 1, (u.set l[i].b.toNat true), m, fl), hlt, hnx, hrn, by dsimp only; omega⟩, by simp [Vs.LeL, Vs.look, Vs.hlook], by simp only; omega⟩)
            · have e7 : (l[i].kind != 7) = true := by simp [h7]
              have hnx : ((u.set l[i].b.toNat true), (m.set l[i].to.toNat true)) = fuS l (i + 1) := by rw [fuS_succ hlt, ← hum]; unfold fuN; dsimp only; rw [hk4, ha1, hb1, if_pos rfl, if_neg h7]
              have hrn : rel (fl ++ [l[i].to]) (m.set l[i].to.toNat true) := rel_put hm hr t0 t1
              simp -dsimp only [go_sem, reduceIte, reduceCtorEq, Nat.reduceEqDiff, Nat.reduceLT, Nat.reduceLeDiff, Nat.reduceAdd, Nat.reduceMul, Nat.reduceSub, Int.reduceToNat, Int.reduceNeg, hw, hgi, cS, E_take, E_len, List.replicate_succ, List.replicate_zero, List.flatten_cons, List.flatten_nil, List.length_append, List.length_cons, List.length_nil, hap, e7, hxa, hxb, hk4, hpb]
              repeat' (first
                | (refine RgK.mk rfl ?_; simp -dsimp only [go_sem, reduceIte, reduceCtorEq, Nat.reduceEqDiff, Nat.reduceLT, Nat.reduceLeDiff, Nat.reduceAdd, Nat.reduceMul, Nat.reduceSub, Int.reduceToNat, Int.reduceNeg, hw, hgi, cS, E_take, E_len, List.replicate_succ, List.replicate_zero, List.flatten_cons, List.flatten_nil, List.length_append, List.length_cons, List.length_nil, hap, e7, hxa, hxb, hk4, hpb])
                | (refine Br.mk (fun h => ?_) (fun h => ?_) <;> simp -dsimp only [go_sem, reduceIte, reduceCtorEq, Nat.reduceEqDiff, Nat.reduceLT, Nat.reduceLeDiff, Nat.reduceAdd, Nat.reduceMul, Nat.reduceSub, Int.reduceToNat, Int.reduceNeg, h, hw, hgi, cS, E_take, E_len, List.replicate_succ, List.replicate_zero, List.flatten_cons, List.flatten_nil, List.length_append, List.length_cons, List.length_nil, hap, e7, hxa, hxb, hk4, hpb])
                | (refine CallK.flat (by first | exact has fl l[i].a hfl1 | exact has fl l[i].b hfl1 | exact l15Both _ | exact put (sel u 6) l[i].b (by have := sel_len u 6; omega)) rfl ?_; simp -dsimp only [go_sem, reduceIte, reduceCtorEq, Nat.reduceEqDiff, Nat.reduceLT, Nat.reduceLeDiff, Nat.reduceAdd, Nat.reduceMul, Nat.reduceSub, Int.reduceToNat, Int.reduceNeg, hw, hgi, cS, E_take, E_len, List.replicate_succ, List.replicate_zero, List.flatten_cons, List.flatten_nil, List.length_append, List.length_cons, List.length_nil, hap, e7, hxa, hxb, hk4, hpb])
                | (refine CallK.pure (by first | exact has fl l[i].a hfl1 | exact has fl l[i].b hfl1 | exact l15Both _ | exact put (sel u 6) l[i].b (by have := sel_len u 6; omega)) ?_; simp -dsimp only [go_sem, reduceIte, reduceCtorEq, Nat.reduceEqDiff, Nat.reduceLT, Nat.reduceLeDiff, Nat.reduceAdd, Nat.reduceMul, Nat.reduceSub, Int.reduceToNat, Int.reduceNeg, hw, hgi, cS, E_take, E_len, List.replicate_succ, List.replicate_zero, List.flatten_cons, List.flatten_nil, List.length_append, List.length_cons, List.length_nil, hap, e7, hxa, hxb, hk4, hpb])
                | (refine And.intro (by first | rfl | omega | decide | (refine ⟨?_, ?_⟩ <;> (first | rfl | omega | decide)) | (refine ⟨?_, ?_, ?_⟩ <;> (first | rfl | omega | decide)) | (refine ⟨?_, ?_, ?_, ?_⟩ <;> (first | rfl | omega | decide))) ?_)
                | fail)
              all_goals (exact ⟨⟨(i + 1, (u.set l[i].b.toNat true), (m.set l[i].to.toNat true), (fl ++ [l[i].to])), hlt, hnx, hrn, by simp only [List.length_append, List.length_cons, List.length_nil]; omega⟩, by simp [Vs.LeL, Vs.look, Vs.hlook], by simp only; omega⟩)
          · have hb1 : f1 u m l[i].b.toNat = u := by unfold f1; rw [hmb]; rfl
            have hxb : (fl.any fun y => y == l[i].b) = true := by rw [hr _ b0 b1]; exact hmb
            by_cases h7 : l[i].kind = 7
            · have e7 : (l[i].kind != 7) = false := by simp [h7]
              have hnx : (u, m) = fuS l (i + 1) := by rw [fuS_succ hlt, ← hum]; unfold fuN; dsimp only; rw [hk4, ha1, hb1, if_pos rfl, if_pos h7]
              have hrn : rel fl m := hr
              simp -dsimp only [go_sem, reduceIte, reduceCtorEq, Nat.reduceEqDiff, Nat.reduceLT, Nat.reduceLeDiff, Nat.reduceAdd, Nat.reduceMul, Nat.reduceSub, Int.reduceToNat, Int.reduceNeg, hw, hgi, cS, E_take, E_len, List.replicate_succ, List.replicate_zero, List.flatten_cons, List.flatten_nil, List.length_append, List.length_cons, List.length_nil, hap, e7, hxa, hxb, hk4]
              repeat' (first
                | (refine RgK.mk rfl ?_; simp -dsimp only [go_sem, reduceIte, reduceCtorEq, Nat.reduceEqDiff, Nat.reduceLT, Nat.reduceLeDiff, Nat.reduceAdd, Nat.reduceMul, Nat.reduceSub, Int.reduceToNat, Int.reduceNeg, hw, hgi, cS, E_take, E_len, List.replicate_succ, List.replicate_zero, List.flatten_cons, List.flatten_nil, List.length_append, List.length_cons, List.length_nil, hap, e7, hxa, hxb, hk4])
                | (refine Br.mk (fun h => ?_) (fun h => ?_) <;> simp -dsimp only [go_sem, reduceIte, reduceCtorEq, Nat.reduceEqDiff, Nat.reduceLT, Nat.reduceLeDiff, Nat.reduceAdd, Nat.reduceMul, Nat.reduceSub, Int.reduceToNat, Int.reduceNeg, h, hw, hgi, cS, E_take, E_len, List.replicate_succ, List.replicate_zero, List.flatten_cons, List.flatten_nil, List.length_append, List.length_cons, List.length_nil, hap, e7, hxa, hxb, hk4])
                | (refine CallK.flat (by first | exact has fl l[i].a hfl1 | exact has fl l[i].b hfl1 | exact l15Both _) rfl ?_; simp -dsimp only [go_sem, reduceIte, reduceCtorEq, Nat.reduceEqDiff, Nat.reduceLT, Nat.reduceLeDiff, Nat.reduceAdd, Nat.reduceMul, Nat.reduceSub, Int.reduceToNat, Int.reduceNeg, hw, hgi, cS, E_take, E_len, List.replicate_succ, List.replicate_zero, List.flatten_cons, List.flatten_nil, List.length_append, List.length_cons, List.length_nil, hap, e7, hxa, hxb, hk4])
                | (refine CallK.pure (by first | exact has fl l[i].a hfl1 | exact has fl l[i].b hfl1 | exact l15Both _) ?_; simp -dsimp only [go_sem, reduceIte, reduceCtorEq, Nat.reduceEqDiff, Nat.reduceLT, Nat.reduceLeDiff, Nat.reduceAdd, Nat.reduceMul, Nat.reduceSub, Int.reduceToNat, Int.reduceNeg, hw, hgi, cS, E_take, E_len, List.replicate_succ, List.replicate_zero, List.flatten_cons, List.flatten_nil, List.length_append, List.length_cons, List.length_nil, hap, e7, hxa, hxb, hk4])
                | (refine And.intro (by first | rfl | omega | decide | (refine ⟨?_, ?_⟩ <;> (first | rfl | omega | decide)) | (refine ⟨?_, ?_, ?_⟩ <;> (first | rfl | omega | decide)) | (refine ⟨?_, ?_, ?_, ?_⟩ <;> (first | rfl | omega | decide))) ?_)
                | fail)
              all_goals (exact ⟨⟨(i + 1, u, m, fl), hlt, hnx, hrn, by dsimp only; omega⟩, by simp [Vs.LeL, Vs.look, Vs.hlook], by simp only; omega⟩)
            · have e7 : (l[i].kind != 7) = true := by simp [h7]
              have hnx : (u, (m.set l[i].to.toNat true)) = fuS l (i + 1) := by rw [fuS_succ hlt, ← hum]; unfold fuN; dsimp only; rw [hk4, ha1, hb1, if_pos rfl, if_neg h7]
              have hrn : rel (fl ++ [l[i].to]) (m.set l[i].to.toNat true) := rel_put hm hr t0 t1
              simp -dsimp only [go_sem, reduceIte, reduceCtorEq, Nat.reduceEqDiff, Nat.reduceLT, Nat.reduceLeDiff, Nat.reduceAdd, Nat.reduceMul, Nat.reduceSub, Int.reduceToNat, Int.reduceNeg, hw, hgi, cS, E_take, E_len, List.replicate_succ, List.replicate_zero, List.flatten_cons, List.flatten_nil, List.length_append, List.length_cons, List.length_nil, hap, e7, hxa, hxb, hk4]
              repeat' (first
                | (refine RgK.mk rfl ?_; simp -dsimp only [go_sem, reduceIte, reduceCtorEq, Nat.reduceEqDiff, Nat.reduceLT, Nat.reduceLeDiff, Nat.reduceAdd, Nat.reduceMul, Nat.reduceSub, Int.reduceToNat, Int.reduceNeg, hw, hgi, cS, E_take, E_len, List.replicate_succ, List.replicate_zero, List.flatten_cons, List.flatten_nil, List.length_append, List.length_cons, List.length_nil, hap, e7, hxa, hxb, hk4])
                | (refine Br.mk (fun h => ?_) (fun h => ?_) <;> simp -dsimp only [go_sem, reduceIte, reduceCtorEq, Nat.reduceEqDiff, Nat.reduceLT, Nat.reduceLeDiff, Nat.reduceAdd, Nat.reduceMul, Nat.reduceSub, Int.reduceToNat, Int.reduceNeg, h, hw, hgi, cS, E_take, E_len, List.replicate_succ, List.replicate_zero, List.flatten_cons, List.flatten_nil, List.length_append, List.length_cons, List.length_nil, hap, e7, hxa, hxb, hk4])
                | (refine CallK.flat (by first | exact has fl l[i].a hfl1 | exact has fl l[i].b hfl1 | exact l15Both _) rfl ?_; simp -dsimp only [go_sem, reduceIte, reduceCtorEq, Nat.reduceEqDiff, Nat.reduceLT, Nat.reduceLeDiff, Nat.reduceAdd, Nat.reduceMul, Nat.reduceSub, Int.reduceToNat, Int.reduceNeg, hw, hgi, cS, E_take, E_len, List.replicate_succ, List.replicate_zero, List.flatten_cons, List.flatten_nil, List.length_append, List.length_cons, List.length_nil, hap, e7, hxa, hxb, hk4])
                | (refine CallK.pure (by first | exact has fl l[i].a hfl1 | exact has fl l[i].b hfl1 | exact l15Both _) ?_; simp -dsimp only [go_sem, reduceIte, reduceCtorEq, Nat.reduceEqDiff, Nat.reduceLT, Nat.reduceLeDiff, Nat.reduceAdd, Nat.reduceMul, Nat.reduceSub, Int.reduceToNat, Int.reduceNeg, hw, hgi, cS, E_take, E_len, List.replicate_succ, List.replicate_zero, List.flatten_cons, List.flatten_nil, List.length_append, List.length_cons, List.length_nil, hap, e7, hxa, hxb, hk4])
                | (refine And.intro (by first | rfl | omega | decide | (refine ⟨?_, ?_⟩ <;> (first | rfl | omega | decide)) | (refine ⟨?_, ?_, ?_⟩ <;> (first | rfl | omega | decide)) | (refine ⟨?_, ?_, ?_, ?_⟩ <;> (first | rfl | omega | decide))) ?_)
                | fail)
              all_goals (exact ⟨⟨(i + 1, u, (m.set l[i].to.toNat true), (fl ++ [l[i].to])), hlt, hnx, hrn, by simp only [List.length_append, List.length_cons, List.length_nil]; omega⟩, by simp [Vs.LeL, Vs.look, Vs.hlook], by simp only; omega⟩)
    · have hge : i = l.length := by
        have : ¬ i < l.length := by simpa using hc
        omega
      subst hge
      have hus : u = (fuS l l.length).1 := by rw [← hum]
      rw [← hus]
      simp -dsimp only [go_sem, reduceIte, reduceCtorEq, Nat.reduceEqDiff, Nat.reduceLT, Nat.reduceLeDiff, Nat.reduceAdd, Nat.reduceMul, Nat.reduceSub, Int.reduceToNat, Int.reduceNeg]
      exact ⟨⟨_, _, rfl, rfl⟩, fun h => h rfl⟩

end Go.Proofs.Ythpokkcbbpapdaa
