/- The numbers that are read with faults: what the program's amountsAfter and the reference's l19After give. -/
import Derived.Test.YtgeeipfdkamhmaaDoorTwB
import Derived.Test.YtgeeipfdkamhmaaDoorTuO
namespace Go.Proofs.YtgeeipfdkamhmaaDoor
open Go.Vs
set_option linter.unusedSimpArgs false
set_option linter.unusedVariables false
attribute [local irreducible] Vs.Fn
namespace Aft
theorem CallK.own {P : Program} {f : FuncId} {ys : List AV} {d : Option Nat} {σ : St} {K : St → Prop} {t : Tag K} {r : AV} {hout : List (Option Blk)} (hfn : Vs.Fn P f [] ys r hout) (hfr : freshAll (d.getD 0) 0 hout.length σ = true)
    (hK : K ⟨put d (rn (phi [] (d.getD 0) hout.length) r) σ.s, aftL σ.h [] (d.getD 0) hout true []⟩) : CallK P f [] ys [] d σ [] K t :=
  ⟨r, hout, true, hfn, fun h => (by cases h), hfr, hK⟩
end Aft
/-- the number that wheels show -/
def hW : List Int → Int
  | [] => 0
  | x :: r => W (W (10 * hW r) + x)
theorem shown (ds : List Int) (hd : ds.length ≤ 1000) : Vs.Fn Tryd.prog F.impl_shown [] [.agg [.sl 1 (E cI ds)]] (.v (.int .i64 (hW ds))) [] := by
  refine Cd.impl_shown_ok.fn0 Tryd.mixed Cd.impl_shown_nt Cd.impl_shown_rs rfl fun X => ?_
  unfold Cd.impl_shown
  simp -dsimp only [go_sem, reduceIte, reduceCtorEq, Nat.reduceEqDiff, Nat.reduceLT, Nat.reduceLeDiff, Nat.reduceAdd, Nat.reduceMul, Nat.reduceSub, Int.reduceToNat, Int.reduceNeg]
  have hw0 : IntKind.i64.wrap ((ds.length : Int) - 1) = (ds.length : Int) - 1 := wrap_in (by omega) (by omega)
  refine LoopK.at (drawn_ok Tryd.mixed) (X := { j : Nat // j ≤ ds.length }) (fun j => [(4, .v (.int .i64 ((j.1 : Int) - 1))), (3, .v (.int .i64 (hW (ds.drop j.1))))]) (fun _ => []) (fun j => j.1) ⟨ds.length, by omega⟩ ?_ ?_
  · simp [Vs.LeL, Vs.look, Vs.hlook, Vs.sput, Vs.sputs, Vs.hset, Vs.hputs, hw0, hW]
  · rintro ⟨j, hj⟩
    simp -dsimp only [go_sem, reduceIte, reduceCtorEq, Nat.reduceEqDiff, Nat.reduceLT, Nat.reduceLeDiff, Nat.reduceAdd, Nat.reduceMul, Nat.reduceSub, Int.reduceToNat, Int.reduceNeg]
    refine Br.mk (fun hc => ?_) fun hc => ?_
    · obtain ⟨i, rfl⟩ : ∃ i, j = i + 1 := ⟨j - 1, by simp at hc; omega⟩
      have hlt : i < ds.length := by omega
      have e1 : (((i + 1 : Nat) : Int) - 1) = (i : Int) := by omega
      have hw1 : IntKind.i64.wrap ((i : Int) - 1) = (i : Int) - 1 := wrap_in (by omega) (by omega)
      have hh : W (W (10 * hW (ds.drop (i + 1))) + ds[i]) = hW (ds.drop i) := by rw [List.drop_eq_getElem_cons hlt, hW]
      simp -dsimp only [go_sem, reduceIte, reduceCtorEq, Nat.reduceEqDiff, Nat.reduceLT, Nat.reduceLeDiff, Nat.reduceAdd, Nat.reduceMul, Nat.reduceSub, Int.reduceToNat, Int.reduceNeg, e1, hw1, cI_get hlt]
      repeat' (first
        | (refine RgK.mk rfl ?_; simp -dsimp only [go_sem, reduceIte, reduceCtorEq, Nat.reduceEqDiff, Nat.reduceLT, Nat.reduceLeDiff, Nat.reduceAdd, Nat.reduceMul, Nat.reduceSub, Int.reduceToNat, Int.reduceNeg, e1, hw1, cI_get hlt])
        | (refine Br.mk (fun h => ?_) (fun h => ?_) <;> simp -dsimp only [go_sem, reduceIte, reduceCtorEq, Nat.reduceEqDiff, Nat.reduceLT, Nat.reduceLeDiff, Nat.reduceAdd, Nat.reduceMul, Nat.reduceSub, Int.reduceToNat, Int.reduceNeg, h, e1, hw1, cI_get hlt])
        | (refine And.intro (by first | rfl | omega | decide | (refine ⟨?_, ?_⟩ <;> (first | rfl | omega | decide)) | (refine ⟨?_, ?_, ?_⟩ <;> (first | rfl | omega | decide)) | (refine ⟨?_, ?_, ?_, ?_⟩ <;> (first | rfl | omega | decide))) ?_)
        | fail)

      all_goals exact ⟨⟨i, by omega⟩, by simp [Vs.LeL, Vs.look, Vs.hlook, Vs.sput, Vs.sputs, Vs.hset, Vs.hputs, hh], by simp only; omega⟩
    · have hj0 : j = 0 := by simp at hc; omega
      subst hj0
      simp -dsimp only [go_sem, reduceIte, reduceCtorEq, Nat.reduceEqDiff, Nat.reduceLT, Nat.reduceLeDiff, Nat.reduceAdd, Nat.reduceMul, Nat.reduceSub, Int.reduceToNat, Int.reduceNeg]
      simp

theorem wheelsShowO (n : Int) : Vs.Fn Tryd.prog F.impl_wheelsShow [] [.v (.int .i64 4), .v (.int .i64 n)] (.agg [.loc (.b 0) 0 4]) [some (.arr 1 (E cI (wl 4 n)) false)] := by
  refine Cd.impl_wheelsShow_ok.fn Tryd.mixed (hin := []) 22 _ [.t 16 0] [.arr 1 (E cI (wl 4 n)) false] Cd.impl_wheelsShow_nt Cd.impl_wheelsShow_rs rfl (by simp) rfl (by simp) fun X => ?_
  unfold Cd.impl_wheelsShow
  simp -dsimp only [go_sem, reduceIte, reduceCtorEq, Nat.reduceEqDiff, Nat.reduceLT, Nat.reduceLeDiff, Nat.reduceAdd, Nat.reduceMul, Nat.reduceSub, Int.reduceToNat, Int.reduceNeg]
  refine ⟨⟨by omega, by omega⟩, rfl, ?_⟩
  refine LoopK.intro (drawn_ok Tryd.mixed) (X := { p : Nat × Int × List Int × Name // p.1 ≤ 4 ∧ p.2.2.1.length = p.1 ∧ p.2.2.1 ++ wl (4 - p.1) p.2.1 = wl 4 n ∧ ((p.1 = 0 ∧ p.2.2.2 = .t 6 0) ∨ p.2.2.2 = .t 16 0) })
    (fun p => ⟨[(1, .v (.int .i64 p.1.2.1)), (4, .ptr (.t 4 0) 0 0), (5, .ptr (.t 5 0) 0 0), (8, .v (.int .i64 4)), (9, .v (.int .i64 p.1.1))], [(.t 5 0, .var [.loc p.1.2.2.2 0 p.1.1] false), (p.1.2.2.2, .arr 1 (E cI p.1.2.2.1) false), (.t 4 0, .var [.v (.slice none 0 0)] false)]⟩) (fun p => 4 - p.1.1) ⟨(0, n, [], .t 6 0), by omega, rfl, by simp, .inl ⟨rfl, rfl⟩⟩ ?_ ?_
  · simp [Vs.LeL, Vs.look, Vs.hlook, Vs.sput, Vs.sputs, Vs.hset, Vs.hputs, E]
  · rintro ⟨⟨i, c, acc, nm⟩, hi, ha, hg, hnm⟩
    dsimp only at hi ha hg hnm
    simp -dsimp only [go_sem, reduceIte, reduceCtorEq, Nat.reduceEqDiff, Nat.reduceLT, Nat.reduceLeDiff, Nat.reduceAdd, Nat.reduceMul, Nat.reduceSub, Int.reduceToNat, Int.reduceNeg]
    refine Br.mk (fun hc => ?_) fun hc => ?_
    · have hlt : i < 4 := by simp at hc; omega
      have hw : IntKind.i64.wrap ((i : Int) + 1) = ((i + 1 : Nat) : Int) := by rw [wrap_in (by omega) (by omega)]; omega
      have hcon : acc ++ (c.tmod 10) :: wl (4 - (i + 1)) (W (c.tdiv 10)) = wl 4 n := by
        rw [← hg]
        have : 4 - i = (4 - (i + 1)) + 1 := by omega
        rw [this]; rfl
      have hap : E cI acc ++ [[.v (.int .i64 (c.tmod 10))]] = E cI (acc ++ [c.tmod 10]) := by rw [E_append]; rfl
      rcases hnm with ⟨_, rfl⟩ | rfl
      all_goals
        simp -dsimp only [go_sem, reduceIte, reduceCtorEq, Nat.reduceEqDiff, Nat.reduceLT, Nat.reduceLeDiff, Nat.reduceAdd, Nat.reduceMul, Nat.reduceSub, Int.reduceToNat, Int.reduceNeg, hw, hap, ha, List.replicate_succ, List.replicate_zero, List.flatten_cons, List.flatten_nil]
        repeat' (first
          | (refine RgK.mk rfl ?_; simp -dsimp only [go_sem, reduceIte, reduceCtorEq, Nat.reduceEqDiff, Nat.reduceLT, Nat.reduceLeDiff, Nat.reduceAdd, Nat.reduceMul, Nat.reduceSub, Int.reduceToNat, Int.reduceNeg, hw, hap, ha, List.replicate_succ, List.replicate_zero, List.flatten_cons, List.flatten_nil])
          | (refine Br.mk (fun h => ?_) (fun h => ?_) <;> simp -dsimp only [go_sem, reduceIte, reduceCtorEq, Nat.reduceEqDiff, Nat.reduceLT, Nat.reduceLeDiff, Nat.reduceAdd, Nat.reduceMul, Nat.reduceSub, Int.reduceToNat, Int.reduceNeg, h, hw, hap, ha, List.replicate_succ, List.replicate_zero, List.flatten_cons, List.flatten_nil])
          | (refine And.intro (by first | rfl | omega | decide | (refine ⟨?_, ?_⟩ <;> (first | rfl | omega | decide)) | (refine ⟨?_, ?_, ?_⟩ <;> (first | rfl | omega | decide)) | (refine ⟨?_, ?_, ?_, ?_⟩ <;> (first | rfl | omega | decide))) ?_)
          | fail)

        exact ⟨⟨(i + 1, W (c.tdiv 10), acc ++ [c.tmod 10], .t 16 0), by omega, by simp [ha], by simpa using hcon, .inr rfl⟩, by simp [Vs.LeL, Vs.look, Vs.hlook, Vs.sput, Vs.sputs, Vs.hset, Vs.hputs, E, cI, ha], by simp only; omega⟩
    · have hge : i = 4 := by simp at hc; omega
      subst hge
      have hacc : acc = wl 4 n := by simpa [wl] using hg
      rcases hnm with ⟨h0, _⟩ | rfl
      · omega
      simp -dsimp only [go_sem, reduceIte, reduceCtorEq, Nat.reduceEqDiff, Nat.reduceLT, Nat.reduceLeDiff, Nat.reduceAdd, Nat.reduceMul, Nat.reduceSub, Int.reduceToNat, Int.reduceNeg, hacc]
      exact ⟨⟨_, _, rfl, rfl⟩, by simp⟩

theorem aft1 (f : Flt) (i : Int) : Vs.Fn Tryd.prog F.impl_amountsAfter_1 [] [.agg (cF f), .ro [.v (.int .i64 i)]] (.v (.bool (f.card == i))) [] := by
  refine Cd.impl_amountsAfter_1_ok.fn0 Tryd.mixed Cd.impl_amountsAfter_1_nt Cd.impl_amountsAfter_1_rs rfl fun X => ?_
  unfold Cd.impl_amountsAfter_1
  simp -dsimp only [go_sem, reduceIte, reduceCtorEq, Nat.reduceEqDiff, Nat.reduceLT, Nat.reduceLeDiff, Nat.reduceAdd, Nat.reduceMul, Nat.reduceSub, Int.reduceToNat, Int.reduceNeg, cF]
  repeat' (first
    | (refine RgK.mk rfl ?_; simp -dsimp only [go_sem, reduceIte, reduceCtorEq, Nat.reduceEqDiff, Nat.reduceLT, Nat.reduceLeDiff, Nat.reduceAdd, Nat.reduceMul, Nat.reduceSub, Int.reduceToNat, Int.reduceNeg, cF])
    | (refine Br.mk (fun h => ?_) (fun h => ?_) <;> simp -dsimp only [go_sem, reduceIte, reduceCtorEq, Nat.reduceEqDiff, Nat.reduceLT, Nat.reduceLeDiff, Nat.reduceAdd, Nat.reduceMul, Nat.reduceSub, Int.reduceToNat, Int.reduceNeg, h, cF])
    | (refine And.intro (by first | rfl | omega | decide | (refine ⟨?_, ?_⟩ <;> (first | rfl | omega | decide)) | (refine ⟨?_, ?_, ?_⟩ <;> (first | rfl | omega | decide)) | (refine ⟨?_, ?_, ?_, ?_⟩ <;> (first | rfl | omega | decide))) ?_)
    | fail)
  all_goals (simp_all)

theorem idxAft (fs : List Flt) (i : Int) (hl : fs.length ≤ 1048576) : Vs.Fn Tryd.prog F.slices_IndexFunc___impl_Fault_impl_Fault_ [] [.sl 4 (E cF fs), .fn F.impl_amountsAfter_1 [.ro [.v (.int .i64 i)]]] (.v (.int .i64 (idxP (fun f => f.card == i) fs))) [] :=
  ixA_fn Tryd.mixed (k := 4) Cd.slices_IndexFunc___impl_Fault_impl_Fault__ok Cd.slices_IndexFunc___impl_Fault_impl_Fault__nt Cd.slices_IndexFunc___impl_Fault_impl_Fault__rs rfl (fun f => f.card == i) F.impl_amountsAfter_1 [.ro [.v (.int .i64 i)]] rfl (fun _ => rfl) (fun _ => rfl) (fun x hx => aft1 x i) hl
end Go.Proofs.YtgeeipfdkamhmaaDoor
