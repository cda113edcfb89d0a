/- The law FnExactValidFlow returns true for every input, and its arguments read behind the call as they read before. Conditions: none beyond the given statement. -/
import Derived.Test.YtaegnbfboeeijaaYuI
import Derived.Test.YtaegnbfboeeijaaYuP
namespace Go.Proofs.Ytaegnbfboeeijaa
open Go.Vs
set_option linter.unusedSimpArgs false
set_option linter.unusedVariables false
attribute [local irreducible] Vs.Fn chOK areCh chTo chAt l03

theorem l15Flow (l : List Stp) (w : Int) (hs : ∀ x, x ∈ l → x.text.size ≤ 1048576) (hl : l.length ≤ 1048576) : Vs.Fn Try.prog F.spec_l15Flow [] [.sl 9 (E cS l), .v (.int .i64 w)] (.v (.bool (l.all (fun x => stpB x w) && decide ((l.length : Int) ≤ 20)))) [] := by
  refine Cd.spec_l15Flow_ok.fn0 Try.mixed Cd.spec_l15Flow_nt Cd.spec_l15Flow_rs rfl fun X => ?_
  unfold Cd.spec_l15Flow
  simp -dsimp only [go_sem, reduceIte, reduceCtorEq, Nat.reduceEqDiff, Nat.reduceLT, Nat.reduceLeDiff, Nat.reduceAdd, Nat.reduceMul, Nat.reduceSub, Int.reduceToNat, Int.reduceNeg]
  refine LoopK.intro (drawn_ok Try.mixed) (fun i : { i : Nat // i ≤ l.length ∧ (l.take i).all (fun x => stpB x w) = true } => ⟨[(0, .sl 9 (E cS l)), (1, .v (.int .i64 w)), (5, .v (.int .i64 i.1))], []⟩) (fun i => l.length - i.1) ⟨0, by simp⟩ ?_ ?_
  · simp [Vs.LeL, Vs.look]
  · rintro ⟨i, hi, hall⟩
    simp -dsimp only [go_sem, reduceIte, reduceCtorEq, Nat.reduceEqDiff, Nat.reduceLT, Nat.reduceLeDiff, Nat.reduceAdd, Nat.reduceMul, Nat.reduceSub, Int.reduceToNat, Int.reduceNeg]
    refine Br.mk (fun h1 => ?_) fun h1 => ?_
    · have hlt : i < l.length := by simpa using h1
      have hw := wrap_succ hlt hl
      simp -dsimp only [go_sem, reduceIte, reduceCtorEq, Nat.reduceEqDiff, Nat.reduceLT, Nat.reduceLeDiff, Nat.reduceAdd, Nat.reduceMul, Nat.reduceSub, Int.reduceToNat, Int.reduceNeg, E_get hlt]
      refine ⟨⟨by omega, by omega⟩, CallK.flat (l15Step l[i] w (hs _ (List.getElem_mem hlt))) rfl ?_⟩
      simp -dsimp only [go_sem, reduceIte, reduceCtorEq, Nat.reduceEqDiff, Nat.reduceLT, Nat.reduceLeDiff, Nat.reduceAdd, Nat.reduceMul, Nat.reduceSub, Int.reduceToNat, Int.reduceNeg]
      refine Br.mk (fun h2 => ?_) fun h2 => ?_
      · simp -dsimp only [go_sem, reduceIte, reduceCtorEq, Nat.reduceEqDiff, Nat.reduceLT, Nat.reduceLeDiff, Nat.reduceAdd, Nat.reduceMul, Nat.reduceSub, Int.reduceToNat, Int.reduceNeg]
        simp [not_all (p := fun x => stpB x w) hlt (by simpa using h2)]
      · simp -dsimp only [go_sem, reduceIte, reduceCtorEq, Nat.reduceEqDiff, Nat.reduceLT, Nat.reduceLeDiff, Nat.reduceAdd, Nat.reduceMul, Nat.reduceSub, Int.reduceToNat, Int.reduceNeg, hw]
        exact ⟨⟨i + 1, by omega, take_succ_all (p := fun x => stpB x w) hlt hall (by simpa using h2)⟩, by simp [Vs.LeL, Vs.look], by simp only; omega⟩
    · have hge : i = l.length := by
        have : ¬ i < l.length := by simpa using h1
        omega
      subst hge
      simp -dsimp only [go_sem, reduceIte, reduceCtorEq, Nat.reduceEqDiff, Nat.reduceLT, Nat.reduceLeDiff, Nat.reduceAdd, Nat.reduceMul, Nat.reduceSub, Int.reduceToNat, Int.reduceNeg]
      have : l.all (fun x => stpB x w) = true := by simpa using hall
      simp [this]

theorem spec_ValidFlow (l : List Stp) (w : Int) (hs : ∀ x, x ∈ l → x.text.size ≤ 1048576) (hl : l.length ≤ 1048576) : Vs.Fn Try.prog F.spec_ValidFlow [] [.sl 9 (E cS l), .v (.int .i64 w)] (.v (.bool (inB w 1 20 && (l.all (fun x => stpB x w) && decide ((l.length : Int) ≤ 20))))) [] := by
  refine Cd.spec_ValidFlow_ok.fn0 Try.mixed Cd.spec_ValidFlow_nt Cd.spec_ValidFlow_rs rfl fun X => ?_
  unfold Cd.spec_ValidFlow
  simp -dsimp only [go_sem, reduceIte, reduceCtorEq, Nat.reduceEqDiff, Nat.reduceLT, Nat.reduceLeDiff, Nat.reduceAdd, Nat.reduceMul, Nat.reduceSub, Int.reduceToNat, Int.reduceNeg]
  repeat' (first
    | (refine RgK.mk rfl ?_; simp -dsimp only [go_sem, reduceIte, reduceCtorEq, Nat.reduceEqDiff, Nat.reduceLT, Nat.reduceLeDiff, Nat.reduceAdd, Nat.reduceMul, Nat.reduceSub, Int.reduceToNat, Int.reduceNeg])
    | (refine Br.mk (fun h => ?_) (fun h => ?_) <;> simp -dsimp only [go_sem, reduceIte, reduceCtorEq, Nat.reduceEqDiff, Nat.reduceLT, Nat.reduceLeDiff, Nat.reduceAdd, Nat.reduceMul, Nat.reduceSub, Int.reduceToNat, Int.reduceNeg, h])
    | (refine CallK.flat (by first | exact l00In _ _ _ | exact l15Flow l _ hs hl) rfl ?_; simp -dsimp only [go_sem, reduceIte, reduceCtorEq, Nat.reduceEqDiff, Nat.reduceLT, Nat.reduceLeDiff, Nat.reduceAdd, Nat.reduceMul, Nat.reduceSub, Int.reduceToNat, Int.reduceNeg])
    | (refine CallK.pure (by first | exact l00In _ _ _ | exact l15Flow l _ hs hl) ?_; simp -dsimp only [go_sem, reduceIte, reduceCtorEq, Nat.reduceEqDiff, Nat.reduceLT, Nat.reduceLeDiff, Nat.reduceAdd, Nat.reduceMul, Nat.reduceSub, Int.reduceToNat, Int.reduceNeg])
    | (refine And.intro (by first | rfl | decide | omega | exact ⟨rfl, rfl⟩) ?_))
  all_goals (simp_all)

theorem impl_ValidFlow_1 (x : Stp) (w : Int) (hs : x.text.size ≤ 1048576) : Vs.Fn Try.prog F.impl_ValidFlow_1 [] [.agg (cS x), .ro [.v (.int .i64 w)]] (.v (.bool (!(inB w 1 20 && stpB x w)))) [] := by
  refine Cd.impl_ValidFlow_1_ok.fn0 Try.mixed Cd.impl_ValidFlow_1_nt Cd.impl_ValidFlow_1_rs rfl fun X => ?_
  unfold Cd.impl_ValidFlow_1
  simp -dsimp only [go_sem, reduceIte, reduceCtorEq, Nat.reduceEqDiff, Nat.reduceLT, Nat.reduceLeDiff, Nat.reduceAdd, Nat.reduceMul, Nat.reduceSub, Int.reduceToNat, Int.reduceNeg, cS]
  repeat' (first
    | (refine RgK.mk rfl ?_; simp -dsimp only [go_sem, reduceIte, reduceCtorEq, Nat.reduceEqDiff, Nat.reduceLT, Nat.reduceLeDiff, Nat.reduceAdd, Nat.reduceMul, Nat.reduceSub, Int.reduceToNat, Int.reduceNeg, cS])
    | (refine Br.mk (fun h => ?_) (fun h => ?_) <;> simp -dsimp only [go_sem, reduceIte, reduceCtorEq, Nat.reduceEqDiff, Nat.reduceLT, Nat.reduceLeDiff, Nat.reduceAdd, Nat.reduceMul, Nat.reduceSub, Int.reduceToNat, Int.reduceNeg, h, cS])
    | (refine CallK.flat (by first | exact impl_ValidStep x _ hs) rfl ?_; simp -dsimp only [go_sem, reduceIte, reduceCtorEq, Nat.reduceEqDiff, Nat.reduceLT, Nat.reduceLeDiff, Nat.reduceAdd, Nat.reduceMul, Nat.reduceSub, Int.reduceToNat, Int.reduceNeg, cS])
    | (refine CallK.pure (by first | exact impl_ValidStep x _ hs) ?_; simp -dsimp only [go_sem, reduceIte, reduceCtorEq, Nat.reduceEqDiff, Nat.reduceLT, Nat.reduceLeDiff, Nat.reduceAdd, Nat.reduceMul, Nat.reduceSub, Int.reduceToNat, Int.reduceNeg, cS])
    | (refine And.intro (by first | rfl | decide | omega | exact ⟨rfl, rfl⟩) ?_))
  all_goals (simp_all)

theorem idxStep (l : List Stp) (w : Int) (hs : ∀ x, x ∈ l → x.text.size ≤ 1048576) (hl : l.length ≤ 1048576) : Vs.Fn Try.prog F.slices_IndexFunc___impl_Step_impl_Step_ [] [.sl 9 (E cS l), .fn F.impl_ValidFlow_1 [.ro [.v (.int .i64 w)]]] (.v (.int .i64 (idxP (fun x => !(inB w 1 20 && stpB x w)) l))) [] :=
  ixA_fn Try.mixed (k := 9) Cd.slices_IndexFunc___impl_Step_impl_Step__ok Cd.slices_IndexFunc___impl_Step_impl_Step__nt Cd.slices_IndexFunc___impl_Step_impl_Step__rs rfl (fun x => !(inB w 1 20 && stpB x w)) F.impl_ValidFlow_1 [.ro [.v (.int .i64 w)]] rfl (fun _ => rfl) (fun _ => rfl) (fun x hx => impl_ValidFlow_1 x w (hs x hx)) hl
theorem conStep (l : List Stp) (w : Int) (hs : ∀ x, x ∈ l → x.text.size ≤ 1048576) (hl : l.length ≤ 1048576) : Vs.Fn Try.prog F.slices_ContainsFunc___impl_Step_impl_Step_ [] [.sl 9 (E cS l), .fn F.impl_ValidFlow_1 [.ro [.v (.int .i64 w)]]] (.v (.bool (l.any (fun x => !(inB w 1 20 && stpB x w))))) [] :=
  ct_fn Try.mixed (g := F.slices_IndexFunc___impl_Step_impl_Step_) Cd.slices_ContainsFunc___impl_Step_impl_Step__ok Cd.slices_ContainsFunc___impl_Step_impl_Step__nt Cd.slices_ContainsFunc___impl_Step_impl_Step__rs rfl (fun x => !(inB w 1 20 && stpB x w)) F.impl_ValidFlow_1 [.ro [.v (.int .i64 w)]] rfl (idxStep l w hs hl)
theorem any_not (l : List Stp) (w : Int) (h : inB w 1 20 = true) : (!(l.any fun x => !(inB w 1 20 && stpB x w))) = l.all fun x => stpB x w := by
  simp only [h, Bool.true_and]
  induction l with
  | nil => rfl
  | cons x r ih => simp only [List.any_cons, List.all_cons, Bool.not_or, Bool.not_not, ih]

theorem impl_ValidFlow (l : List Stp) (w : Int) (hs : ∀ x, x ∈ l → x.text.size ≤ 1048576) (hl : l.length ≤ 1048576) : Vs.Fn Try.prog F.impl_ValidFlow [] [.sl 9 (E cS l), .v (.int .i64 w)] (.v (.bool (inB w 1 20 && (l.all (fun x => stpB x w) && decide ((l.length : Int) ≤ 20))))) [] := by
  refine Cd.impl_ValidFlow_ok.fn0 Try.mixed Cd.impl_ValidFlow_nt Cd.impl_ValidFlow_rs rfl fun X => ?_
  unfold Cd.impl_ValidFlow
  simp -dsimp only [go_sem, reduceIte, reduceCtorEq, Nat.reduceEqDiff, Nat.reduceLT, Nat.reduceLeDiff, Nat.reduceAdd, Nat.reduceMul, Nat.reduceSub, Int.reduceToNat, Int.reduceNeg]
  repeat' (first
    | (refine RgK.mk rfl ?_; simp -dsimp only [go_sem, reduceIte, reduceCtorEq, Nat.reduceEqDiff, Nat.reduceLT, Nat.reduceLeDiff, Nat.reduceAdd, Nat.reduceMul, Nat.reduceSub, Int.reduceToNat, Int.reduceNeg])
    | (refine Br.mk (fun h => ?_) (fun h => ?_) <;> simp -dsimp only [go_sem, reduceIte, reduceCtorEq, Nat.reduceEqDiff, Nat.reduceLT, Nat.reduceLeDiff, Nat.reduceAdd, Nat.reduceMul, Nat.reduceSub, Int.reduceToNat, Int.reduceNeg, h])
    | (refine CallK.flat (by first | exact inside _ _ _ | exact conStep l w hs hl) rfl ?_; simp -dsimp only [go_sem, reduceIte, reduceCtorEq, Nat.reduceEqDiff, Nat.reduceLT, Nat.reduceLeDiff, Nat.reduceAdd, Nat.reduceMul, Nat.reduceSub, Int.reduceToNat, Int.reduceNeg])
    | (refine CallK.pure (by first | exact inside _ _ _ | exact conStep l w hs hl) ?_; simp -dsimp only [go_sem, reduceIte, reduceCtorEq, Nat.reduceEqDiff, Nat.reduceLT, Nat.reduceLeDiff, Nat.reduceAdd, Nat.reduceMul, Nat.reduceSub, Int.reduceToNat, Int.reduceNeg])
    | (refine And.intro (by first | rfl | decide | omega | exact ⟨rfl, rfl⟩) ?_))
  all_goals (first | (simp_all; done) | (refine ret_eq ?_; simp_all [any_not]; done) | (refine ret_eq ?_; have := any_not l w (by assumption); simp_all))

theorem law_ValidFlow (l : List Stp) (w : Int) (hs0 : ∀ x, x ∈ l → x.text.size < 2 ^ 63) (hl : l.length < 2 ^ 63) : Vs.Fn Try.prog F.laws_FnExactValidFlow [] [.sl 9 (E cS l), .v (.int .i64 w)] (.v (.bool true)) [] := by
  refine Cd.laws_FnExactValidFlow_ok.fn0 Try.mixed Cd.laws_FnExactValidFlow_nt Cd.laws_FnExactValidFlow_rs rfl fun X => ?_
  unfold Cd.laws_FnExactValidFlow
  simp -dsimp only [go_sem, reduceIte, reduceCtorEq, Nat.reduceEqDiff, Nat.reduceLT, Nat.reduceLeDiff, Nat.reduceAdd, Nat.reduceMul, Nat.reduceSub, Int.reduceToNat, Int.reduceNeg]
  refine CallK.flat (szStepS l 1048576 hs0 hl (by omega)) rfl ?_
  simp -dsimp only [go_sem, reduceIte, reduceCtorEq, Nat.reduceEqDiff, Nat.reduceLT, Nat.reduceLeDiff, Nat.reduceAdd, Nat.reduceMul, Nat.reduceSub, Int.reduceToNat, Int.reduceNeg]
  refine Br.mk (fun h1 => by simp -dsimp only [go_sem, reduceIte, reduceCtorEq, Nat.reduceEqDiff, Nat.reduceLT, Nat.reduceLeDiff, Nat.reduceAdd, Nat.reduceMul, Nat.reduceSub, Int.reduceToNat, Int.reduceNeg]; simp) (fun h1 => ?_)
  simp -dsimp only [go_sem, reduceIte, reduceCtorEq, Nat.reduceEqDiff, Nat.reduceLT, Nat.reduceLeDiff, Nat.reduceAdd, Nat.reduceMul, Nat.reduceSub, Int.reduceToNat, Int.reduceNeg]
  simp only [decide_eq_false_iff_not] at h1
  have hl1 : l.length ≤ 1048576 := by have := szL_len hl (by omega) h1; omega
  have hs : ∀ x, x ∈ l → x.text.size ≤ 1048576 := by
    intro x hx
    obtain ⟨m, h2, h3, h4⟩ := szL_mem (fun x hx n h0 hn h => szStp_le (hs0 x hx) h0 hn h) hl (by omega) h1 x hx
    have := (szT_le (hs0 x hx) h2 h3 h4).2
    omega
  repeat' (first
    | (refine RgK.mk rfl ?_; simp -dsimp only [go_sem, reduceIte, reduceCtorEq, Nat.reduceEqDiff, Nat.reduceLT, Nat.reduceLeDiff, Nat.reduceAdd, Nat.reduceMul, Nat.reduceSub, Int.reduceToNat, Int.reduceNeg])
    | (refine Br.mk (fun h => ?_) (fun h => ?_) <;> simp -dsimp only [go_sem, reduceIte, reduceCtorEq, Nat.reduceEqDiff, Nat.reduceLT, Nat.reduceLeDiff, Nat.reduceAdd, Nat.reduceMul, Nat.reduceSub, Int.reduceToNat, Int.reduceNeg, h])
    | (refine CallK.flat (by first | exact toStepS l hl1 | exact spec_ValidFlow l w hs hl1 | exact impl_ValidFlow l w hs hl1 | exact eqStepS l hl1) rfl ?_; simp -dsimp only [go_sem, reduceIte, reduceCtorEq, Nat.reduceEqDiff, Nat.reduceLT, Nat.reduceLeDiff, Nat.reduceAdd, Nat.reduceMul, Nat.reduceSub, Int.reduceToNat, Int.reduceNeg])
    | (refine CallK.pure (by first | exact toStepS l hl1 | exact spec_ValidFlow l w hs hl1 | exact impl_ValidFlow l w hs hl1 | exact eqStepS l hl1) ?_; simp -dsimp only [go_sem, reduceIte, reduceCtorEq, Nat.reduceEqDiff, Nat.reduceLT, Nat.reduceLeDiff, Nat.reduceAdd, Nat.reduceMul, Nat.reduceSub, Int.reduceToNat, Int.reduceNeg])
    | (refine And.intro (by first | rfl | decide | omega | exact ⟨rfl, rfl⟩) ?_))
  all_goals simp_all


set_option maxRecDepth 100000 in
theorem validflow_lifted (os : Os) (started : os.Started) (H : Type) (enc : TypeId × Value → H) :
    ReturnsInHanded {} Try.checked os F.laws_FnExactValidFlow .any (Rows.fnExactValidFlowSpec.pre6 enc Try.prog Try.f11 Rows.fnExactValidFlowRow.domain false) (Rows.fnExactValidFlowSpec.post enc Try.prog Try.f11 false true false false) :=
  law_returns (C := Try.checked) Try.own started (by kernel_rfl) Try.func11
    (ChangeSpec.witness6 (enc := enc) (C := Try.checked) false ⟨#[], #[.slice none 0 0, .int .i64 0], []⟩ 8 (by kernel_rfl) (by kernel_rfl) (by kernel_rfl) (by kernel_rfl))
    Try.laidOut (by kernel_rfl) rfl Try.underlying4 rfl (fun ds h => by match ds, h with | [_, _], _ => exact ⟨rfl, rfl, rfl⟩)
    (Args.cons (Arg.slice Try.underlying47 oSteps) (Args.cons (Arg.int Try.underlying2 (by kernel_rfl)) Args.nil)) (fun a => by
      have h := law_ValidFlow (a.1.1.map gStp) a.2.1.1 (fun x hx => by obtain ⟨p, _, rfl⟩ := List.mem_map.1 hx; exact p.2.2.2.2.2.2.2) (by simpa using a.1.2)
      rw [E_map] at h
      exact h)

theorem validflow_holds : Rows.FnExactValidFlowSaid :=
  OpenClaim.holds_of_wide 11 Try.f11 rfl rfl rfl rfl rfl rfl rfl ⟨rfl, rfl, rfl, rfl, rfl⟩ rfl rfl rfl rfl rfl (by kernel_rfl) Try.func11 (by kernel_rfl)
    (of_decide_eq_true (by kernel_rfl)) (by unfold Func.isWrapper; first | (rw [if_pos (by decide +kernel)]; kernel_rfl) | (rw [if_neg (by decide +kernel)]; exact ⟨rfl, rfl⟩))
    (fun os started H enc _ => validflow_lifted os started H enc)
#print axioms validflow_holds
end Go.Proofs.Ytaegnbfboeeijaa
