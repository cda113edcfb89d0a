/- The trays that a flow uses: small functions. -/
import Derived.Test.YthpokkcbbpapdaaVtJ
import Derived.Test.YthpokkcbbpapdaaYwZu
namespace Go.Proofs.Ythpokkcbbpapdaa
open Go.Vs
set_option linter.unusedSimpArgs false
set_option linter.unusedVariables false
attribute [local irreducible] Vs.Fn chOK areCh chTo chAt l03

/-- the six marks of trays, as cells -/
def bl (u : List Bool) : List AV := u.map fun b => .v (.bool b)
theorem bl_len (u : List Bool) : (bl u).length = u.length := by simp [bl]
theorem bl_get {u : List Bool} {c : Nat} (h : c < u.length) : ((bl u).drop c).take 1 = [.v (.bool (u.getD c false))] := by
  have e : bl u = u.map fun b => AV.v (.bool b) := rfl
  rw [e, ← List.map_drop, ← List.map_take, List.drop_eq_getElem_cons h, List.take_succ_cons, List.take_zero, List.map_cons, List.map_nil]
  simp [List.getD, h]
theorem bl_set (u : List Bool) (c : Nat) (b : Bool) : (bl u).set c (.v (.bool b)) = bl (u.set c b) := by simp [bl, List.map_set]
/-- the trays that are marked -/
def sel (u : List Bool) (n : Nat) : List Int := ((List.range n).filter fun t => u.getD t false).map fun (t : Nat) => ((t : Nat) : Int)
theorem sel_len (u : List Bool) (n : Nat) : (sel u n).length ≤ n := by
  unfold sel
  rw [List.length_map]
  exact Nat.le_trans (List.length_filter_le _ _) (by simp)
theorem sel_succ (u : List Bool) (n : Nat) : sel u (n + 1) = sel u n ++ (if u.getD n false then [(n : Int)] else []) := by
  unfold sel
  rw [List.range_succ, List.filter_append, List.map_append, List.filter_cons, List.filter_nil]
  cases u.getD n false <;> rfl
theorem has (l : List Int) (v : Int) (hl : l.length ≤ 1048576) : Vs.Fn Try.prog F.spec_l00Has [] [.sl 1 (E cI l), .v (.int .i64 v)] (.v (.bool (l.any fun x => x == v))) [] := by
  refine Cd.spec_l00Has_ok.fn0 Try.mixed Cd.spec_l00Has_nt Cd.spec_l00Has_rs rfl fun X => ?_
  unfold Cd.spec_l00Has
  simp -dsimp only [go_sem, reduceIte, reduceCtorEq, Nat.reduceEqDiff, Nat.reduceLT, Nat.reduceLeDiff, Nat.reduceAdd, Nat.reduceMul, Nat.reduceSub, Int.reduceToNat, Int.reduceNeg]
  refine LoopK.at (drawn_ok Try.mixed) (X := { zz : Nat × (Unit) // zz.1 ≤ l.length ∧ ((l.take zz.1).any fun x => x == v) = false }) (fun zz => [(5, .v (.int .i64 zz.1.1))]) (fun zz => []) (fun zz => l.length - zz.1.1) ⟨(0, ()), by omega, by simp⟩ ?_ ?_
  · simp [Vs.LeL, Vs.look, Vs.hlook, Vs.sput, Vs.sputs, Vs.hset, Vs.hputs]
  · rintro ⟨⟨i, _⟩, hi, hg⟩
    dsimp only at hi hg
    simp -dsimp only [go_sem, reduceIte, reduceCtorEq, Nat.reduceEqDiff, Nat.reduceLT, Nat.reduceLeDiff, Nat.reduceAdd, Nat.reduceMul, Nat.reduceSub, Int.reduceToNat, Int.reduceNeg]
    refine Br.mk (fun hc => ?_) fun hc => ?_
    · have hlt : i < l.length := by simpa using hc
      have hw := wrap_succ hlt hl
      have hm : (E cI l).getD i [] = [.v (.int .i64 l[i])] := cI_get hlt
      cases hb : l[i] == v
      · simp -dsimp only [go_sem, reduceIte, reduceCtorEq, Nat.reduceEqDiff, Nat.reduceLT, Nat.reduceLeDiff, Nat.reduceAdd, Nat.reduceMul, Nat.reduceSub, Int.reduceToNat, Int.reduceNeg, hm, hw, hb]
        repeat' (first
          | (refine RgK.mk rfl ?_; simp -dsimp only [go_sem, reduceIte, reduceCtorEq, Nat.reduceEqDiff, Nat.reduceLT, Nat.reduceLeDiff, Nat.reduceAdd, Nat.reduceMul, Nat.reduceSub, Int.reduceToNat, Int.reduceNeg, hm, hw, hb])
          | (refine Br.mk (fun h => ?_) (fun h => ?_) <;> simp -dsimp only [go_sem, reduceIte, reduceCtorEq, Nat.reduceEqDiff, Nat.reduceLT, Nat.reduceLeDiff, Nat.reduceAdd, Nat.reduceMul, Nat.reduceSub, Int.reduceToNat, Int.reduceNeg, h, hm, hw, hb])
          | (refine And.intro (by first | rfl | omega | decide | (refine ⟨?_, ?_⟩ <;> (first | rfl | omega | decide)) | (refine ⟨?_, ?_, ?_⟩ <;> (first | rfl | omega | decide)) | (refine ⟨?_, ?_, ?_, ?_⟩ <;> (first | rfl | omega | decide))) ?_)
          | fail)
        all_goals (exact ⟨⟨(i + 1, ()), by first | omega | simp | exact ⟨by omega, by omega⟩, by rw [take_succ hlt, List.any_append, hg]; simp [hb]⟩, by simp [Vs.LeL, Vs.look, Vs.hlook, Vs.sput, Vs.sputs, Vs.hset, Vs.hputs], by simp only; omega⟩)
      · simp -dsimp only [go_sem, reduceIte, reduceCtorEq, Nat.reduceEqDiff, Nat.reduceLT, Nat.reduceLeDiff, Nat.reduceAdd, Nat.reduceMul, Nat.reduceSub, Int.reduceToNat, Int.reduceNeg, hm, hw, hb]
        repeat' (first
          | (refine RgK.mk rfl ?_; simp -dsimp only [go_sem, reduceIte, reduceCtorEq, Nat.reduceEqDiff, Nat.reduceLT, Nat.reduceLeDiff, Nat.reduceAdd, Nat.reduceMul, Nat.reduceSub, Int.reduceToNat, Int.reduceNeg, hm, hw, hb])
          | (refine Br.mk (fun h => ?_) (fun h => ?_) <;> simp -dsimp only [go_sem, reduceIte, reduceCtorEq, Nat.reduceEqDiff, Nat.reduceLT, Nat.reduceLeDiff, Nat.reduceAdd, Nat.reduceMul, Nat.reduceSub, Int.reduceToNat, Int.reduceNeg, h, hm, hw, hb])
          | (refine And.intro (by first | rfl | omega | decide | (refine ⟨?_, ?_⟩ <;> (first | rfl | omega | decide)) | (refine ⟨?_, ?_, ?_⟩ <;> (first | rfl | omega | decide)) | (refine ⟨?_, ?_, ?_, ?_⟩ <;> (first | rfl | omega | decide))) ?_)
          | fail)
        all_goals (have : (l.any fun x => x == v) = true := List.any_eq_true.2 ⟨l[i], List.getElem_mem hlt, hb⟩; simp [this])
    · have hge : i = l.length := by
        have : ¬ i < l.length := by simpa using hc
        omega
      subst hge
      simp -dsimp only [go_sem, reduceIte, reduceCtorEq, Nat.reduceEqDiff, Nat.reduceLT, Nat.reduceLeDiff, Nat.reduceAdd, Nat.reduceMul, Nat.reduceSub, Int.reduceToNat, Int.reduceNeg]
      have : (l.any fun x => x == v) = false := by simpa using hg
      simp [this]

/-- what comes behind, a number put in at its place -/
def pgo (v : Int) : List Int → Bool → List Int
  | [], d => if d then [] else [v]
  | y :: r, d => if !d && decide (y ≥ v) then (if decide (y > v) then v :: y :: pgo v r true else y :: pgo v r true) else y :: pgo v r d
theorem pgo_len (v : Int) : ∀ (l : List Int) (d : Bool), (pgo v l d).length ≤ l.length + 1
  | [], d => by cases d <;> simp [pgo]
  | y :: r, d => by
    simp only [pgo]
    have h1 := pgo_len v r true
    have h2 := pgo_len v r d
    have h3 : (pgo v r true).length = r.length := pgo_true v r
    split
    · split <;> simp only [List.length_cons] <;> omega
    · simp only [List.length_cons]; omega
where pgo_true (v : Int) : ∀ r : List Int, (pgo v r true).length = r.length
  | [] => rfl
  | y :: r => by simp [pgo, pgo_true v r]
theorem pgo_tt (v : Int) : ∀ r : List Int, pgo v r true = r
  | [] => rfl
  | y :: r => by simp [pgo, pgo_tt v r]
theorem hap : ∀ (l : List Int) (x : Int), E cI l ++ [[.v (.int .i64 x)]] = E cI (l ++ [x]) := fun l x => by rw [E_append]; rfl
theorem put (l : List Int) (v : Int) (hl : l.length ≤ 1000) : Vs.Fn Try.prog F.spec_l00Put [] [.sl 1 (E cI l), .v (.int .i64 v)] (.sl 1 (E cI (pgo v l false))) [] := by
  refine Cd.spec_l00Put_ok.fn0 Try.mixed Cd.spec_l00Put_nt Cd.spec_l00Put_rs rfl fun X => ?_
  unfold Cd.spec_l00Put
  simp -dsimp only [go_sem, reduceIte, reduceCtorEq, Nat.reduceEqDiff, Nat.reduceLT, Nat.reduceLeDiff, Nat.reduceAdd, Nat.reduceMul, Nat.reduceSub, Int.reduceToNat, Int.reduceNeg]
  refine ⟨⟨by omega, by omega⟩, rfl, ?_⟩
  refine LoopK.intro (drawn_ok Try.mixed) (X := { zz : Nat × Bool × List Int // zz.1 ≤ l.length ∧ zz.2.2 ++ pgo v (l.drop zz.1) zz.2.1 = pgo v l false })
    (fun zz => ⟨[(0, .sl 1 (E cI l)), (1, .v (.int .i64 v)), (5, .loc (.t 5 0) 0 zz.1.2.2.length), (6, .v (.bool zz.1.2.1)), (7, .v (.int .i64 zz.1.1))], [(.t 5 0, .arr 1 (E cI zz.1.2.2) false)]⟩) (fun zz => l.length - zz.1.1) ⟨(0, false, []), by omega, by simp⟩ ?_ ?_
  · simp [Vs.LeL, Vs.look, Vs.hlook, Vs.E]
  · rintro ⟨⟨i, d, acc⟩, hi, hg⟩
    dsimp only at hi hg
    have ha : acc.length ≤ 1001 := by
      have h1 := congrArg List.length hg
      have h2 := pgo_len v l false
      rw [List.length_append] at h1
      omega
    simp -dsimp only [go_sem, reduceIte, reduceCtorEq, Nat.reduceEqDiff, Nat.reduceLT, Nat.reduceLeDiff, Nat.reduceAdd, Nat.reduceMul, Nat.reduceSub, Int.reduceToNat, Int.reduceNeg]
    refine Br.mk (fun hc => ?_) fun hc => ?_
    · have hlt : i < l.length := by simpa using hc
      have hw := wrap_succ hlt (by omega)
      have hm : (E cI l).getD i [] = [.v (.int .i64 l[i])] := cI_get hlt
      rw [List.drop_eq_getElem_cons hlt, pgo] at hg
      cases d
      · cases h1 : decide (l[i] ≥ v)
        · simp -dsimp only [go_sem, reduceIte, reduceCtorEq, Nat.reduceEqDiff, Nat.reduceLT, Nat.reduceLeDiff, Nat.reduceAdd, Nat.reduceMul, Nat.reduceSub, Int.reduceToNat, Int.reduceNeg, hw, hm, hap, E_len, E_take, List.replicate_succ, List.replicate_zero, List.flatten_cons, List.flatten_nil, List.length_append, List.length_cons, List.length_nil, h1]
          repeat' (first
            | (refine RgK.mk rfl ?_; simp -dsimp only [go_sem, reduceIte, reduceCtorEq, Nat.reduceEqDiff, Nat.reduceLT, Nat.reduceLeDiff, Nat.reduceAdd, Nat.reduceMul, Nat.reduceSub, Int.reduceToNat, Int.reduceNeg, hw, hm, hap, E_len, E_take, List.replicate_succ, List.replicate_zero, List.flatten_cons, List.flatten_nil, List.length_append, List.length_cons, List.length_nil, h1])
            | (refine Br.mk (fun h => ?_) (fun h => ?_) <;> simp -dsimp only [go_sem, reduceIte, reduceCtorEq, Nat.reduceEqDiff, Nat.reduceLT, Nat.reduceLeDiff, Nat.reduceAdd, Nat.reduceMul, Nat.reduceSub, Int.reduceToNat, Int.reduceNeg, h, hw, hm, hap, E_len, E_take, List.replicate_succ, List.replicate_zero, List.flatten_cons, List.flatten_nil, List.length_append, List.length_cons, List.length_nil, h1])
            | (refine And.intro (by first | rfl | omega | decide | (refine ⟨?_, ?_⟩ <;> (first | rfl | omega | decide)) | (refine ⟨?_, ?_, ?_⟩ <;> (first | rfl | omega | decide)) | (refine ⟨?_, ?_, ?_, ?_⟩ <;> (first | rfl | omega | decide))) ?_)
            | fail)
          all_goals (exact ⟨⟨(i + 1, false, acc ++ [l[i]]), by omega, by simpa [h1] using hg⟩, by simp [Vs.LeL, Vs.look, Vs.hlook], by simp only; omega⟩)
        · cases h2 : decide (l[i] > v)
          · simp -dsimp only [go_sem, reduceIte, reduceCtorEq, Nat.reduceEqDiff, Nat.reduceLT, Nat.reduceLeDiff, Nat.reduceAdd, Nat.reduceMul, Nat.reduceSub, Int.reduceToNat, Int.reduceNeg, hw, hm, hap, E_len, E_take, List.replicate_succ, List.replicate_zero, List.flatten_cons, List.flatten_nil, List.length_append, List.length_cons, List.length_nil, h1, h2]
            repeat' (first
              | (refine RgK.mk rfl ?_; simp -dsimp only [go_sem, reduceIte, reduceCtorEq, Nat.reduceEqDiff, Nat.reduceLT, Nat.reduceLeDiff, Nat.reduceAdd, Nat.reduceMul, Nat.reduceSub, Int.reduceToNat, Int.reduceNeg, hw, hm, hap, E_len, E_take, List.replicate_succ, List.replicate_zero, List.flatten_cons, List.flatten_nil, List.length_append, List.length_cons, List.length_nil, h1, h2])
              | (refine Br.mk (fun h => ?_) (fun h => ?_) <;> simp -dsimp only [go_sem, reduceIte, reduceCtorEq, Nat.reduceEqDiff, Nat.reduceLT, Nat.reduceLeDiff, Nat.reduceAdd, Nat.reduceMul, Nat.reduceSub, Int.reduceToNat, Int.reduceNeg, h, hw, hm, hap, E_len, E_take, List.replicate_succ, List.replicate_zero, List.flatten_cons, List.flatten_nil, List.length_append, List.length_cons, List.length_nil, h1, h2])
              | (refine And.intro (by first | rfl | omega | decide | (refine ⟨?_, ?_⟩ <;> (first | rfl | omega | decide)) | (refine ⟨?_, ?_, ?_⟩ <;> (first | rfl | omega | decide)) | (refine ⟨?_, ?_, ?_, ?_⟩ <;> (first | rfl | omega | decide))) ?_)
              | fail)
            all_goals (exact ⟨⟨(i + 1, true, acc ++ [l[i]]), by omega, by simpa [h1, h2] using hg⟩, by simp [Vs.LeL, Vs.look, Vs.hlook], by simp only; omega⟩)
          · simp -dsimp only [go_sem, reduceIte, reduceCtorEq, Nat.reduceEqDiff, Nat.reduceLT, Nat.reduceLeDiff, Nat.reduceAdd, Nat.reduceMul, Nat.reduceSub, Int.reduceToNat, Int.reduceNeg, hw, hm, hap, E_len, E_take, List.replicate_succ, List.replicate_zero, List.flatten_cons, List.flatten_nil, List.length_append, List.length_cons, List.length_nil, h1, h2]
            repeat' (first
              | (refine RgK.mk rfl ?_; simp -dsimp only [go_sem, reduceIte, reduceCtorEq, Nat.reduceEqDiff, Nat.reduceLT, Nat.reduceLeDiff, Nat.reduceAdd, Nat.reduceMul, Nat.reduceSub, Int.reduceToNat, Int.reduceNeg, hw, hm, hap, E_len, E_take, List.replicate_succ, List.replicate_zero, List.flatten_cons, List.flatten_nil, List.length_append, List.length_cons, List.length_nil, h1, h2])
              | (refine Br.mk (fun h => ?_) (fun h => ?_) <;> simp -dsimp only [go_sem, reduceIte, reduceCtorEq, Nat.reduceEqDiff, Nat.reduceLT, Nat.reduceLeDiff, Nat.reduceAdd, Nat.reduceMul, Nat.reduceSub, Int.reduceToNat, Int.reduceNeg, h, hw, hm, hap, E_len, E_take, List.replicate_succ, List.replicate_zero, List.flatten_cons, List.flatten_nil, List.length_append, List.length_cons, List.length_nil, h1, h2])
              | (refine And.intro (by first | rfl | omega | decide | (refine ⟨?_, ?_⟩ <;> (first | rfl | omega | decide)) | (refine ⟨?_, ?_, ?_⟩ <;> (first | rfl | omega | decide)) | (refine ⟨?_, ?_, ?_, ?_⟩ <;> (first | rfl | omega | decide))) ?_)
              | fail)
            all_goals (exact ⟨⟨(i + 1, true, acc ++ [v] ++ [l[i]]), by omega, by simpa [h1, h2] using hg⟩, by simp [Vs.LeL, Vs.look, Vs.hlook], by simp only; omega⟩)
      · simp -dsimp only [go_sem, reduceIte, reduceCtorEq, Nat.reduceEqDiff, Nat.reduceLT, Nat.reduceLeDiff, Nat.reduceAdd, Nat.reduceMul, Nat.reduceSub, Int.reduceToNat, Int.reduceNeg, hw, hm, hap, E_len, E_take, List.replicate_succ, List.replicate_zero, List.flatten_cons, List.flatten_nil, List.length_append, List.length_cons, List.length_nil]
        repeat' (first
          | (refine RgK.mk rfl ?_; simp -dsimp only [go_sem, reduceIte, reduceCtorEq, Nat.reduceEqDiff, Nat.reduceLT, Nat.reduceLeDiff, Nat.reduceAdd, Nat.reduceMul, Nat.reduceSub, Int.reduceToNat, Int.reduceNeg, hw, hm, hap, E_len, E_take, List.replicate_succ, List.replicate_zero, List.flatten_cons, List.flatten_nil, List.length_append, List.length_cons, List.length_nil])
          | (refine Br.mk (fun h => ?_) (fun h => ?_) <;> simp -dsimp only [go_sem, reduceIte, reduceCtorEq, Nat.reduceEqDiff, Nat.reduceLT, Nat.reduceLeDiff, Nat.reduceAdd, Nat.reduceMul, Nat.reduceSub, Int.reduceToNat, Int.reduceNeg, h, hw, hm, hap, E_len, E_take, List.replicate_succ, List.replicate_zero, List.flatten_cons, List.flatten_nil, List.length_append, List.length_cons, List.length_nil])
          | (refine And.intro (by first | rfl | omega | decide | (refine ⟨?_, ?_⟩ <;> (first | rfl | omega | decide)) | (refine ⟨?_, ?_, ?_⟩ <;> (first | rfl | omega | decide)) | (refine ⟨?_, ?_, ?_, ?_⟩ <;> (first | rfl | omega | decide))) ?_)
          | fail)
        all_goals (exact ⟨⟨(i + 1, true, acc ++ [l[i]]), by omega, by simpa [] using hg⟩, by simp [Vs.LeL, Vs.look, Vs.hlook], by simp only; omega⟩)

    · have hge : i = l.length := by
        have : ¬ i < l.length := by simpa using hc
        omega
      subst hge
      rw [List.drop_length, pgo] at hg
      cases d
      · have hg2 : acc ++ [v] = pgo v l false := by simpa using hg
        simp -dsimp only [go_sem, reduceIte, reduceCtorEq, Nat.reduceEqDiff, Nat.reduceLT, Nat.reduceLeDiff, Nat.reduceAdd, Nat.reduceMul, Nat.reduceSub, Int.reduceToNat, Int.reduceNeg, hap, E_len, E_take, List.replicate_succ, List.replicate_zero, List.flatten_cons, List.flatten_nil, List.length_append, List.length_cons, List.length_nil]
        refine ⟨?_, fun h => h rfl⟩
        refine ⟨⟨by omega, by omega⟩, by omega, ?_⟩
        exact ⟨[.t 5 0], [], by rw [List.take_of_length_le (by simp [E]), ← hg2], rfl⟩
      · have hg2 : acc = pgo v l false := by simpa using hg
        simp -dsimp only [go_sem, reduceIte, reduceCtorEq, Nat.reduceEqDiff, Nat.reduceLT, Nat.reduceLeDiff, Nat.reduceAdd, Nat.reduceMul, Nat.reduceSub, Int.reduceToNat, Int.reduceNeg, hap, E_len, E_take, List.replicate_succ, List.replicate_zero, List.flatten_cons, List.flatten_nil, List.length_append, List.length_cons, List.length_nil]
        refine ⟨?_, fun h => h rfl⟩
        exact ⟨[.t 5 0], [], by rw [← hg2], rfl⟩

end Go.Proofs.Ythpokkcbbpapdaa
