/- The flow for a specification: the program's FlowFor and the reference's. -/
import Derived.Test.YthpokkcbbpapdaaYwZu
namespace Go.Proofs.Ythpokkcbbpapdaa
open Go.Vs
set_option linter.unusedSimpArgs false
set_option linter.unusedVariables false
attribute [local irreducible] Vs.Fn chOK areCh chTo chAt l03

def stS (x : Spc) : Stp := ⟨5, 0, 0, 1, x.w0, x.w1, 0, 0, x.text⟩
def stO (x : Spc) (n : Int) : Stp := ⟨1, n, 0, 2, x.g0, x.g1, 0, 0, ⟨#[]⟩⟩
def stL (x : Spc) : Stp := ⟨7, 2, 0, 0, x.g0, x.g1, x.s0, x.s1, ⟨#[]⟩⟩
/-- the flow for a specification -/
def flwF (x : Spc) : List Stp := if noText x.text then [stO x 0, stL x] else [stS x, stO x 1, stL x]
theorem flwF_len (x : Spc) : (flwF x).length ≤ 3 := by unfold flwF; split <;> simp
theorem noF {b : Bool} (h : (!b) = false) : b = true := by simpa using h
set_option maxRecDepth 20000 in
set_option maxHeartbeats 2000000 in
theorem l16Flow (x : Spc) : Vs.Fn Try.prog F.spec_l16Flow [] [.ro (cP x)] (.sl 9 (E cS (flwF x))) [] := by
  cases hn : noText x.text
  · have hX : flwF x = [stS x, stO x 1, stL x] := by simp [flwF, hn]
    rw [hX]
    unfold noText at hn
    refine Cd.spec_l16Flow_ok.fn0 Try.mixed Cd.spec_l16Flow_nt Cd.spec_l16Flow_rs rfl fun X => ?_
    unfold Cd.spec_l16Flow
    simp -dsimp only [go_sem, reduceIte, reduceCtorEq, Nat.reduceEqDiff, Nat.reduceLT, Nat.reduceLeDiff, Nat.reduceAdd, Nat.reduceMul, Nat.reduceSub, Int.reduceToNat, Int.reduceNeg, cP, hn, List.replicate_succ, List.replicate_zero, List.flatten_cons, List.flatten_nil, List.cons_append, List.nil_append, List.set_cons_zero, List.set_cons_succ, List.length_cons, List.length_nil, List.length_set, List.length_append]
    repeat' (first
      | (refine RgK.mk rfl ?_; simp -dsimp only [go_sem, reduceIte, reduceCtorEq, Nat.reduceEqDiff, Nat.reduceLT, Nat.reduceLeDiff, Nat.reduceAdd, Nat.reduceMul, Nat.reduceSub, Int.reduceToNat, Int.reduceNeg, cP, hn, List.replicate_succ, List.replicate_zero, List.flatten_cons, List.flatten_nil, List.cons_append, List.nil_append, List.set_cons_zero, List.set_cons_succ, List.length_cons, List.length_nil, List.length_set, List.length_append])
      | (refine Br.mk (fun h => ?_) (fun h => ?_) <;> simp -dsimp only [go_sem, reduceIte, reduceCtorEq, Nat.reduceEqDiff, Nat.reduceLT, Nat.reduceLeDiff, Nat.reduceAdd, Nat.reduceMul, Nat.reduceSub, Int.reduceToNat, Int.reduceNeg, h, cP, hn, List.replicate_succ, List.replicate_zero, List.flatten_cons, List.flatten_nil, List.cons_append, List.nil_append, List.set_cons_zero, List.set_cons_succ, List.length_cons, List.length_nil, List.length_set, List.length_append])
      | (refine And.intro (by first | rfl | omega | decide | (refine ⟨?_, ?_⟩ <;> (first | rfl | omega | decide)) | (refine ⟨?_, ?_, ?_⟩ <;> (first | rfl | omega | decide)) | (refine ⟨?_, ?_, ?_, ?_⟩ <;> (first | rfl | omega | decide))) ?_)
      | fail)
    all_goals (exact ⟨_, _, rfl, rfl⟩)
  · have hX : flwF x = [stO x 0, stL x] := by simp [flwF, hn]
    rw [hX]
    unfold noText at hn
    refine Cd.spec_l16Flow_ok.fn0 Try.mixed Cd.spec_l16Flow_nt Cd.spec_l16Flow_rs rfl fun X => ?_
    unfold Cd.spec_l16Flow
    simp -dsimp only [go_sem, reduceIte, reduceCtorEq, Nat.reduceEqDiff, Nat.reduceLT, Nat.reduceLeDiff, Nat.reduceAdd, Nat.reduceMul, Nat.reduceSub, Int.reduceToNat, Int.reduceNeg, cP, hn, List.replicate_succ, List.replicate_zero, List.flatten_cons, List.flatten_nil, List.cons_append, List.nil_append, List.set_cons_zero, List.set_cons_succ, List.length_cons, List.length_nil, List.length_set, List.length_append]
    repeat' (first
      | (refine RgK.mk rfl ?_; simp -dsimp only [go_sem, reduceIte, reduceCtorEq, Nat.reduceEqDiff, Nat.reduceLT, Nat.reduceLeDiff, Nat.reduceAdd, Nat.reduceMul, Nat.reduceSub, Int.reduceToNat, Int.reduceNeg, cP, hn, List.replicate_succ, List.replicate_zero, List.flatten_cons, List.flatten_nil, List.cons_append, List.nil_append, List.set_cons_zero, List.set_cons_succ, List.length_cons, List.length_nil, List.length_set, List.length_append])
      | (refine Br.mk (fun h => ?_) (fun h => ?_) <;> simp -dsimp only [go_sem, reduceIte, reduceCtorEq, Nat.reduceEqDiff, Nat.reduceLT, Nat.reduceLeDiff, Nat.reduceAdd, Nat.reduceMul, Nat.reduceSub, Int.reduceToNat, Int.reduceNeg, h, cP, hn, List.replicate_succ, List.replicate_zero, List.flatten_cons, List.flatten_nil, List.cons_append, List.nil_append, List.set_cons_zero, List.set_cons_succ, List.length_cons, List.length_nil, List.length_set, List.length_append])
      | (refine And.intro (by first | rfl | omega | decide | (refine ⟨?_, ?_⟩ <;> (first | rfl | omega | decide)) | (refine ⟨?_, ?_, ?_⟩ <;> (first | rfl | omega | decide)) | (refine ⟨?_, ?_, ?_, ?_⟩ <;> (first | rfl | omega | decide))) ?_)
      | fail)
    all_goals (exact ⟨_, _, rfl, rfl⟩)
theorem spec_FlowFor0 (x : Spc) (hs : x.text.size ≤ 1048576) (hk : spcB x 20 = false) : Vs.Fn Try.prog F.spec_FlowFor [] [.agg (cP x)] (.tup [.v (.slice none 0 0), .v (.int .i64 2)]) [] := by
  refine Cd.spec_FlowFor_ok.fn0 Try.mixed Cd.spec_FlowFor_nt Cd.spec_FlowFor_rs rfl fun X => ?_
  unfold Cd.spec_FlowFor
  simp -dsimp only [go_sem, reduceIte, reduceCtorEq, Nat.reduceEqDiff, Nat.reduceLT, Nat.reduceLeDiff, Nat.reduceAdd, Nat.reduceMul, Nat.reduceSub, Int.reduceToNat, Int.reduceNeg, cP, hk]
  repeat' (first
    | (refine RgK.mk rfl ?_; simp -dsimp only [go_sem, reduceIte, reduceCtorEq, Nat.reduceEqDiff, Nat.reduceLT, Nat.reduceLeDiff, Nat.reduceAdd, Nat.reduceMul, Nat.reduceSub, Int.reduceToNat, Int.reduceNeg, cP, hk])
    | (refine Br.mk (fun h => ?_) (fun h => ?_) <;> simp -dsimp only [go_sem, reduceIte, reduceCtorEq, Nat.reduceEqDiff, Nat.reduceLT, Nat.reduceLeDiff, Nat.reduceAdd, Nat.reduceMul, Nat.reduceSub, Int.reduceToNat, Int.reduceNeg, h, cP, hk])
    | (refine CallK.flat (by first | exact l16Ok x _ hs) rfl ?_; simp -dsimp only [go_sem, reduceIte, reduceCtorEq, Nat.reduceEqDiff, Nat.reduceLT, Nat.reduceLeDiff, Nat.reduceAdd, Nat.reduceMul, Nat.reduceSub, Int.reduceToNat, Int.reduceNeg, cP, hk])
    | (refine CallK.pure (by first | exact l16Ok x _ hs) ?_; simp -dsimp only [go_sem, reduceIte, reduceCtorEq, Nat.reduceEqDiff, Nat.reduceLT, Nat.reduceLeDiff, Nat.reduceAdd, Nat.reduceMul, Nat.reduceSub, Int.reduceToNat, Int.reduceNeg, cP, hk])
    | (refine And.intro (by first | rfl | omega | decide | (refine ⟨?_, ?_⟩ <;> (first | rfl | omega | decide)) | (refine ⟨?_, ?_, ?_⟩ <;> (first | rfl | omega | decide)) | (refine ⟨?_, ?_, ?_, ?_⟩ <;> (first | rfl | omega | decide))) ?_)
    | fail)
  all_goals (simp_all)

theorem spec_FlowFor1 (x : Spc) (hs : x.text.size ≤ 1048576) (hk : spcB x 20 = true) : Vs.Fn Try.prog F.spec_FlowFor [] [.agg (cP x)] (.tup [.sl 9 (E cS (flwF x)), .v (.int .i64 0)]) [] := by
  refine Cd.spec_FlowFor_ok.fn0 Try.mixed Cd.spec_FlowFor_nt Cd.spec_FlowFor_rs rfl fun X => ?_
  unfold Cd.spec_FlowFor
  simp -dsimp only [go_sem, reduceIte, reduceCtorEq, Nat.reduceEqDiff, Nat.reduceLT, Nat.reduceLeDiff, Nat.reduceAdd, Nat.reduceMul, Nat.reduceSub, Int.reduceToNat, Int.reduceNeg, cP, hk]
  repeat' (first
    | (refine RgK.mk rfl ?_; simp -dsimp only [go_sem, reduceIte, reduceCtorEq, Nat.reduceEqDiff, Nat.reduceLT, Nat.reduceLeDiff, Nat.reduceAdd, Nat.reduceMul, Nat.reduceSub, Int.reduceToNat, Int.reduceNeg, cP, hk])
    | (refine Br.mk (fun h => ?_) (fun h => ?_) <;> simp -dsimp only [go_sem, reduceIte, reduceCtorEq, Nat.reduceEqDiff, Nat.reduceLT, Nat.reduceLeDiff, Nat.reduceAdd, Nat.reduceMul, Nat.reduceSub, Int.reduceToNat, Int.reduceNeg, h, cP, hk])
    | (refine CallK.flat (by first | exact l16Ok x _ hs | exact l16Flow x) rfl ?_; simp -dsimp only [go_sem, reduceIte, reduceCtorEq, Nat.reduceEqDiff, Nat.reduceLT, Nat.reduceLeDiff, Nat.reduceAdd, Nat.reduceMul, Nat.reduceSub, Int.reduceToNat, Int.reduceNeg, cP, hk])
    | (refine CallK.pure (by first | exact l16Ok x _ hs | exact l16Flow x) ?_; simp -dsimp only [go_sem, reduceIte, reduceCtorEq, Nat.reduceEqDiff, Nat.reduceLT, Nat.reduceLeDiff, Nat.reduceAdd, Nat.reduceMul, Nat.reduceSub, Int.reduceToNat, Int.reduceNeg, cP, hk])
    | (refine And.intro (by first | rfl | omega | decide | (refine ⟨?_, ?_⟩ <;> (first | rfl | omega | decide)) | (refine ⟨?_, ?_, ?_⟩ <;> (first | rfl | omega | decide)) | (refine ⟨?_, ?_, ?_, ?_⟩ <;> (first | rfl | omega | decide))) ?_)
    | fail)
  all_goals (simp_all)

theorem impl_FlowFor0 (x : Spc) (hs : x.text.size ≤ 1048576) (hk : spcB x 20 = false) : Vs.Fn Try.prog F.impl_FlowFor [] [.agg (cP x)] (.tup [.v (.slice none 0 0), .v (.int .i64 2)]) [] := by
  have i20 : inB 20 1 20 = true := by decide
  refine Cd.impl_FlowFor_ok.fn0 Try.mixed Cd.impl_FlowFor_nt Cd.impl_FlowFor_rs rfl fun X => ?_
  unfold Cd.impl_FlowFor
  simp -dsimp only [go_sem, reduceIte, reduceCtorEq, Nat.reduceEqDiff, Nat.reduceLT, Nat.reduceLeDiff, Nat.reduceAdd, Nat.reduceMul, Nat.reduceSub, Int.reduceToNat, Int.reduceNeg, cP, hk, Bool.and_false, Bool.and_true]
  repeat' (first
    | (refine RgK.mk rfl ?_; simp -dsimp only [go_sem, reduceIte, reduceCtorEq, Nat.reduceEqDiff, Nat.reduceLT, Nat.reduceLeDiff, Nat.reduceAdd, Nat.reduceMul, Nat.reduceSub, Int.reduceToNat, Int.reduceNeg, cP, hk, Bool.and_false, Bool.and_true])
    | (refine Br.mk (fun h => ?_) (fun h => ?_) <;> simp -dsimp only [go_sem, reduceIte, reduceCtorEq, Nat.reduceEqDiff, Nat.reduceLT, Nat.reduceLeDiff, Nat.reduceAdd, Nat.reduceMul, Nat.reduceSub, Int.reduceToNat, Int.reduceNeg, h, cP, hk, Bool.and_false, Bool.and_true])
    | (refine CallK.flat (by first | exact impl_ValidSpec x _ hs) rfl ?_; simp -dsimp only [go_sem, reduceIte, reduceCtorEq, Nat.reduceEqDiff, Nat.reduceLT, Nat.reduceLeDiff, Nat.reduceAdd, Nat.reduceMul, Nat.reduceSub, Int.reduceToNat, Int.reduceNeg, cP, hk, Bool.and_false, Bool.and_true])
    | (refine CallK.pure (by first | exact impl_ValidSpec x _ hs) ?_; simp -dsimp only [go_sem, reduceIte, reduceCtorEq, Nat.reduceEqDiff, Nat.reduceLT, Nat.reduceLeDiff, Nat.reduceAdd, Nat.reduceMul, Nat.reduceSub, Int.reduceToNat, Int.reduceNeg, cP, hk, Bool.and_false, Bool.and_true])
    | (refine And.intro (by first | rfl | omega | decide | (refine ⟨?_, ?_⟩ <;> (first | rfl | omega | decide)) | (refine ⟨?_, ?_, ?_⟩ <;> (first | rfl | omega | decide)) | (refine ⟨?_, ?_, ?_, ?_⟩ <;> (first | rfl | omega | decide))) ?_)
    | fail)
  all_goals (simp_all)

set_option maxRecDepth 20000 in
set_option maxHeartbeats 2000000 in
theorem impl_FlowFor1 (x : Spc) (hs : x.text.size ≤ 1048576) (hk : spcB x 20 = true) : Vs.Fn Try.prog F.impl_FlowFor [] [.agg (cP x)] (.tup [.loc (.b 0) 0 (flwF x).length, .v (.int .i64 0)]) [some (.arr 9 (E cS (flwF x)) false)] := by
  have i20 : inB 20 1 20 = true := by decide
  cases hn : noText x.text
  · have hX : flwF x = [stS x, stO x 1, stL x] := by simp [flwF, hn]
    rw [hX]
    unfold noText at hn
    refine Cd.impl_FlowFor_ok.fn Try.mixed (hin := []) 33 _ [.t 32 0] [.arr 9 (E cS [stS x, stO x 1, stL x]) false] Cd.impl_FlowFor_nt Cd.impl_FlowFor_rs rfl (by simp) rfl (by simp) fun X => ?_
    unfold Cd.impl_FlowFor
    simp -dsimp only [go_sem, reduceIte, reduceCtorEq, Nat.reduceEqDiff, Nat.reduceLT, Nat.reduceLeDiff, Nat.reduceAdd, Nat.reduceMul, Nat.reduceSub, Int.reduceToNat, Int.reduceNeg, cP, hn, List.replicate_succ, List.replicate_zero, List.flatten_cons, List.flatten_nil, List.cons_append, List.nil_append, List.set_cons_zero, List.set_cons_succ, List.length_cons, List.length_nil, List.length_set, List.length_append]
    repeat' (first
      | (refine RgK.mk rfl ?_; simp -dsimp only [go_sem, reduceIte, reduceCtorEq, Nat.reduceEqDiff, Nat.reduceLT, Nat.reduceLeDiff, Nat.reduceAdd, Nat.reduceMul, Nat.reduceSub, Int.reduceToNat, Int.reduceNeg, cP, hn, hk, i20, Bool.and_true, List.replicate_succ, List.replicate_zero, List.flatten_cons, List.flatten_nil, List.cons_append, List.nil_append, List.set_cons_zero, List.set_cons_succ, List.length_cons, List.length_nil, List.length_set, List.length_append])
      | (refine Br.mk (fun h => ?_) (fun h => ?_) <;> simp -dsimp only [go_sem, reduceIte, reduceCtorEq, Nat.reduceEqDiff, Nat.reduceLT, Nat.reduceLeDiff, Nat.reduceAdd, Nat.reduceMul, Nat.reduceSub, Int.reduceToNat, Int.reduceNeg, h, cP, hn, hk, i20, Bool.and_true, List.replicate_succ, List.replicate_zero, List.flatten_cons, List.flatten_nil, List.cons_append, List.nil_append, List.set_cons_zero, List.set_cons_succ, List.length_cons, List.length_nil, List.length_set, List.length_append])
      | (refine CallK.flat (by first | exact impl_ValidSpec x _ hs) rfl ?_; simp -dsimp only [go_sem, reduceIte, reduceCtorEq, Nat.reduceEqDiff, Nat.reduceLT, Nat.reduceLeDiff, Nat.reduceAdd, Nat.reduceMul, Nat.reduceSub, Int.reduceToNat, Int.reduceNeg, cP, hn, hk, i20, Bool.and_true, List.replicate_succ, List.replicate_zero, List.flatten_cons, List.flatten_nil, List.cons_append, List.nil_append, List.set_cons_zero, List.set_cons_succ, List.length_cons, List.length_nil, List.length_set, List.length_append])
      | (refine CallK.pure (by first | exact impl_ValidSpec x _ hs) ?_; simp -dsimp only [go_sem, reduceIte, reduceCtorEq, Nat.reduceEqDiff, Nat.reduceLT, Nat.reduceLeDiff, Nat.reduceAdd, Nat.reduceMul, Nat.reduceSub, Int.reduceToNat, Int.reduceNeg, cP, hn, hk, i20, Bool.and_true, List.replicate_succ, List.replicate_zero, List.flatten_cons, List.flatten_nil, List.cons_append, List.nil_append, List.set_cons_zero, List.set_cons_succ, List.length_cons, List.length_nil, List.length_set, List.length_append])
      | (refine And.intro (by first | rfl | omega | decide | (refine ⟨?_, ?_⟩ <;> (first | rfl | omega | decide)) | (refine ⟨?_, ?_, ?_⟩ <;> (first | rfl | omega | decide)) | (refine ⟨?_, ?_, ?_, ?_⟩ <;> (first | rfl | omega | decide))) ?_)
      | fail)
    all_goals (exact ⟨_, _, rfl, rfl⟩)
  · have hX : flwF x = [stO x 0, stL x] := by simp [flwF, hn]
    rw [hX]
    unfold noText at hn
    refine Cd.impl_FlowFor_ok.fn Try.mixed (hin := []) 33 _ [.t 32 0] [.arr 9 (E cS [stO x 0, stL x]) false] Cd.impl_FlowFor_nt Cd.impl_FlowFor_rs rfl (by simp) rfl (by simp) fun X => ?_
    unfold Cd.impl_FlowFor
    simp -dsimp only [go_sem, reduceIte, reduceCtorEq, Nat.reduceEqDiff, Nat.reduceLT, Nat.reduceLeDiff, Nat.reduceAdd, Nat.reduceMul, Nat.reduceSub, Int.reduceToNat, Int.reduceNeg, cP, hn, List.replicate_succ, List.replicate_zero, List.flatten_cons, List.flatten_nil, List.cons_append, List.nil_append, List.set_cons_zero, List.set_cons_succ, List.length_cons, List.length_nil, List.length_set, List.length_append]
    repeat' (first
      | (refine RgK.mk rfl ?_; simp -dsimp only [go_sem, reduceIte, reduceCtorEq, Nat.reduceEqDiff, Nat.reduceLT, Nat.reduceLeDiff, Nat.reduceAdd, Nat.reduceMul, Nat.reduceSub, Int.reduceToNat, Int.reduceNeg, cP, hn, hk, i20, Bool.and_true, List.replicate_succ, List.replicate_zero, List.flatten_cons, List.flatten_nil, List.cons_append, List.nil_append, List.set_cons_zero, List.set_cons_succ, List.length_cons, List.length_nil, List.length_set, List.length_append])
      | (refine Br.mk (fun h => ?_) (fun h => ?_) <;> simp -dsimp only [go_sem, reduceIte, reduceCtorEq, Nat.reduceEqDiff, Nat.reduceLT, Nat.reduceLeDiff, Nat.reduceAdd, Nat.reduceMul, Nat.reduceSub, Int.reduceToNat, Int.reduceNeg, h, cP, hn, hk, i20, Bool.and_true, List.replicate_succ, List.replicate_zero, List.flatten_cons, List.flatten_nil, List.cons_append, List.nil_append, List.set_cons_zero, List.set_cons_succ, List.length_cons, List.length_nil, List.length_set, List.length_append])
      | (refine CallK.flat (by first | exact impl_ValidSpec x _ hs) rfl ?_; simp -dsimp only [go_sem, reduceIte, reduceCtorEq, Nat.reduceEqDiff, Nat.reduceLT, Nat.reduceLeDiff, Nat.reduceAdd, Nat.reduceMul, Nat.reduceSub, Int.reduceToNat, Int.reduceNeg, cP, hn, hk, i20, Bool.and_true, List.replicate_succ, List.replicate_zero, List.flatten_cons, List.flatten_nil, List.cons_append, List.nil_append, List.set_cons_zero, List.set_cons_succ, List.length_cons, List.length_nil, List.length_set, List.length_append])
      | (refine CallK.pure (by first | exact impl_ValidSpec x _ hs) ?_; simp -dsimp only [go_sem, reduceIte, reduceCtorEq, Nat.reduceEqDiff, Nat.reduceLT, Nat.reduceLeDiff, Nat.reduceAdd, Nat.reduceMul, Nat.reduceSub, Int.reduceToNat, Int.reduceNeg, cP, hn, hk, i20, Bool.and_true, List.replicate_succ, List.replicate_zero, List.flatten_cons, List.flatten_nil, List.cons_append, List.nil_append, List.set_cons_zero, List.set_cons_succ, List.length_cons, List.length_nil, List.length_set, List.length_append])
      | (refine And.intro (by first | rfl | omega | decide | (refine ⟨?_, ?_⟩ <;> (first | rfl | omega | decide)) | (refine ⟨?_, ?_, ?_⟩ <;> (first | rfl | omega | decide)) | (refine ⟨?_, ?_, ?_, ?_⟩ <;> (first | rfl | omega | decide))) ?_)
      | fail)
    all_goals (exact ⟨_, _, rfl, rfl⟩)
theorem eqNilS  : Vs.Fn Try.prog F.laws_eqStepS [] [.v (.slice none 0 0), .v (.slice none 0 0)] (.v (.bool true)) [] := by
  refine Cd.laws_eqStepS_ok.fn0 Try.mixed Cd.laws_eqStepS_nt Cd.laws_eqStepS_rs rfl fun X => ?_
  unfold Cd.laws_eqStepS
  simp -dsimp only [go_sem, reduceIte, reduceCtorEq, Nat.reduceEqDiff, Nat.reduceLT, Nat.reduceLeDiff, Nat.reduceAdd, Nat.reduceMul, Nat.reduceSub, Int.reduceToNat, Int.reduceNeg]
  refine LoopK.at (drawn_ok Try.mixed) (X := Unit) (fun _ => []) (fun _ => []) (fun _ => 0) () ?_ ?_
  · simp [Vs.LeL, Vs.look, Vs.hlook, Vs.sput, Vs.sputs, Vs.hset, Vs.hputs]
  · rintro ⟨⟩
    simp -dsimp only [go_sem, reduceIte, reduceCtorEq, Nat.reduceEqDiff, Nat.reduceLT, Nat.reduceLeDiff, Nat.reduceAdd, Nat.reduceMul, Nat.reduceSub, Int.reduceToNat, Int.reduceNeg]
    refine Br.mk (fun h => absurd h (by decide)) fun _ => ?_
    simp -dsimp only [go_sem, reduceIte, reduceCtorEq, Nat.reduceEqDiff, Nat.reduceLT, Nat.reduceLeDiff, Nat.reduceAdd, Nat.reduceMul, Nat.reduceSub, Int.reduceToNat, Int.reduceNeg]
    exact ⟨ret_eq rfl, fun h => h rfl⟩

theorem markNilS (k : Int) : Vs.Fn Try.prog F.laws_markStepS [] [.v (.slice none 0 0), .v (.int .i64 k)] (.v (.int .i64 k)) [] := by
  refine Cd.laws_markStepS_ok.fn0 Try.mixed Cd.laws_markStepS_nt Cd.laws_markStepS_rs rfl fun X => ?_
  unfold Cd.laws_markStepS
  simp -dsimp only [go_sem, reduceIte, reduceCtorEq, Nat.reduceEqDiff, Nat.reduceLT, Nat.reduceLeDiff, Nat.reduceAdd, Nat.reduceMul, Nat.reduceSub, Int.reduceToNat, Int.reduceNeg]
  refine LoopK.at (drawn_ok Try.mixed) (X := Unit) (fun _ => []) (fun _ => []) (fun _ => 0) () ?_ ?_
  · simp [Vs.LeL, Vs.look, Vs.hlook, Vs.sput, Vs.sputs, Vs.hset, Vs.hputs]
  · rintro ⟨⟩
    simp -dsimp only [go_sem, reduceIte, reduceCtorEq, Nat.reduceEqDiff, Nat.reduceLT, Nat.reduceLeDiff, Nat.reduceAdd, Nat.reduceMul, Nat.reduceSub, Int.reduceToNat, Int.reduceNeg]
    refine Br.mk (fun h => absurd h (by decide)) fun _ => ?_
    simp -dsimp only [go_sem, reduceIte, reduceCtorEq, Nat.reduceEqDiff, Nat.reduceLT, Nat.reduceLeDiff, Nat.reduceAdd, Nat.reduceMul, Nat.reduceSub, Int.reduceToNat, Int.reduceNeg]
    exact ⟨ret_eq rfl, fun h => h rfl⟩

theorem heldNilS (k : Int) : Vs.Fn Try.prog F.laws_heldStepS [] [.v (.slice none 0 0), .v (.int .i64 k)] (.v (.int .i64 k)) [] := by
  refine Cd.laws_heldStepS_ok.fn0 Try.mixed Cd.laws_heldStepS_nt Cd.laws_heldStepS_rs rfl fun X => ?_
  unfold Cd.laws_heldStepS
  simp -dsimp only [go_sem, reduceIte, reduceCtorEq, Nat.reduceEqDiff, Nat.reduceLT, Nat.reduceLeDiff, Nat.reduceAdd, Nat.reduceMul, Nat.reduceSub, Int.reduceToNat, Int.reduceNeg]
  refine LoopK.at (drawn_ok Try.mixed) (X := Unit) (fun _ => []) (fun _ => []) (fun _ => 0) () ?_ ?_
  · simp [Vs.LeL, Vs.look, Vs.hlook, Vs.sput, Vs.sputs, Vs.hset, Vs.hputs]
  · rintro ⟨⟩
    simp -dsimp only [go_sem, reduceIte, reduceCtorEq, Nat.reduceEqDiff, Nat.reduceLT, Nat.reduceLeDiff, Nat.reduceAdd, Nat.reduceMul, Nat.reduceSub, Int.reduceToNat, Int.reduceNeg]
    refine Br.mk (fun h => absurd h (by decide)) fun _ => ?_
    simp -dsimp only [go_sem, reduceIte, reduceCtorEq, Nat.reduceEqDiff, Nat.reduceLT, Nat.reduceLeDiff, Nat.reduceAdd, Nat.reduceMul, Nat.reduceSub, Int.reduceToNat, Int.reduceNeg]
    exact ⟨ret_eq rfl, fun h => h rfl⟩

end Go.Proofs.Ythpokkcbbpapdaa
