/- The source: its next number. -/
import Derived.Test.YtgeeipfdkamhmaaDoorTwUa
namespace Go.Proofs.YtgeeipfdkamhmaaDoor
open Go.Vs
set_option linter.unusedSimpArgs false
set_option linter.unusedVariables false
attribute [local irreducible] Vs.Fn
def nx0 : ACode :=
  (.region [⟨some 2, .mv (.const (.int .i64 (0))), none⟩] [0] [])
def nx1 : ACode :=
  (.region [⟨some 3, .mv (.const (.int .i64 (0))), none⟩] [0, 3] [])
def nx2 : ACode :=
  (.seq (.region [⟨some 4, .mv (.tmp 0), none⟩,
        ⟨some 5, .nilc (.tmp 4), none⟩,
        ⟨some 6, .fieldAddr 1 (.tmp 5), none⟩,
        ⟨some 7, .load false 1 (.tmp 6), none⟩,
        ⟨some 8, .mv (.tmp 0), none⟩,
        ⟨some 9, .nilc (.tmp 8), none⟩,
        ⟨some 10, .fieldAddr 0 (.tmp 9), none⟩,
        ⟨some 11, .load false 1 (.tmp 10), none⟩,
        ⟨some 12, .len (.tmp 11), none⟩,
        ⟨some 13, .bin .lss (.tmp 7) (.tmp 12), none⟩] [0, 3, 13] [4, 6, 7, 5, 8, 9, 10, 11, 12, 13]) <|
     .cond (.tmp 13)
       (.region [⟨some 14, .mv (.tmp 0), none⟩,
         ⟨some 15, .nilc (.tmp 14), none⟩,
         ⟨some 16, .fieldAddr 0 (.tmp 15), none⟩,
         ⟨some 17, .load false 1 (.tmp 16), none⟩,
         ⟨some 18, .mv (.tmp 0), none⟩,
         ⟨some 19, .nilc (.tmp 18), none⟩,
         ⟨some 20, .fieldAddr 1 (.tmp 19), none⟩,
         ⟨some 21, .load false 1 (.tmp 20), none⟩,
         ⟨some 22, .idxSl 1 (.tmp 17) (.tmp 21), none⟩,
         ⟨some 23, .load false 1 (.tmp 22), none⟩,
         ⟨some 24, .conv .i64 (.tmp 23), none⟩,
         ⟨some 3, .mv (.tmp 24), none⟩] [0, 3] [14, 16, 17, 15, 18, 19, 20, 21, 22, 23, 24])
       (.skip))
def nx3 : ACode :=
  (.region [⟨some 25, .mv (.tmp 0), none⟩,
       ⟨some 26, .nilc (.tmp 25), none⟩,
       ⟨some 27, .fieldAddr 1 (.tmp 26), none⟩,
       ⟨some 28, .load false 1 (.tmp 27), none⟩,
       ⟨some 29, .bin .add (.tmp 28) (.const (.int .i64 (1))), none⟩,
       ⟨some 30, .nilc (.tmp 25), none⟩,
       ⟨some 31, .fieldAddr 1 (.tmp 30), none⟩,
       ⟨none, .store 1 (.tmp 31) (.tmp 29), none⟩] [0, 3] [])
def nx4 : ACode :=
  (.region [⟨some 32, .mv (.tmp 0), none⟩,
       ⟨some 33, .mv (.tmp 0), none⟩,
       ⟨some 34, .nilc (.tmp 33), none⟩,
       ⟨some 35, .fieldAddr 2 (.tmp 34), none⟩,
       ⟨some 36, .load false 1 (.tmp 35), none⟩,
       ⟨some 37, .bin .mul (.tmp 36) (.const (.int .u64 (6364136223846793005))), none⟩,
       ⟨some 38, .mv (.tmp 3), none⟩,
       ⟨some 39, .conv .u64 (.tmp 38), none⟩,
       ⟨some 40, .bin .add (.tmp 37) (.tmp 39), none⟩,
       ⟨some 41, .bin .add (.tmp 40) (.const (.int .u64 (1442695040888963407))), none⟩,
       ⟨some 42, .nilc (.tmp 32), none⟩,
       ⟨some 43, .fieldAddr 2 (.tmp 42), none⟩,
       ⟨none, .store 1 (.tmp 43) (.tmp 41), none⟩] [0, 3] [])
def nx5 : ACode :=
  (.seq (.region [⟨some 44, .mv (.tmp 0), none⟩,
        ⟨some 45, .nilc (.tmp 44), none⟩,
        ⟨some 46, .fieldAddr 1 (.tmp 45), none⟩,
        ⟨some 47, .load false 1 (.tmp 46), none⟩,
        ⟨some 48, .mv (.tmp 0), none⟩,
        ⟨some 49, .nilc (.tmp 48), none⟩,
        ⟨some 50, .fieldAddr 0 (.tmp 49), none⟩,
        ⟨some 51, .load false 1 (.tmp 50), none⟩,
        ⟨some 52, .len (.tmp 51), none⟩,
        ⟨some 53, .bin .leq (.tmp 47) (.tmp 52), none⟩] [0, 3, 53] [44, 46, 47, 45, 48, 49, 50, 51, 52, 53]) <|
     .cond (.tmp 53)
       (.seq (.region [⟨some 54, .mv (.tmp 3), none⟩,
          ⟨some 2, .mv (.tmp 54), none⟩] [2] []) <|
       .ret)
       (.skip))
def nx6 : ACode :=
  (.region [⟨some 55, .mv (.tmp 0), none⟩,
       ⟨some 56, .nilc (.tmp 55), none⟩,
       ⟨some 57, .fieldAddr 2 (.tmp 56), none⟩,
       ⟨some 58, .load false 1 (.tmp 57), none⟩,
       ⟨some 59, .bin .shr (.tmp 58) (.const (.int .u64 (40))), none⟩,
       ⟨some 60, .bin .and (.tmp 59) (.const (.int .u64 (255))), none⟩,
       ⟨some 61, .conv .i64 (.tmp 60), none⟩,
       ⟨some 2, .mv (.tmp 61), none⟩] [2] [])
theorem nx_all : Cd.__spec_l00Src__next = ACode.seq nx0 (ACode.seq nx1 (ACode.seq nx2 (ACode.seq nx3 (ACode.seq nx4 (ACode.seq nx5 (ACode.seq nx6 (ACode.ret))))))) := rfl

def nS (l : List Int) (v : Int) (y : Sr) : St := ⟨[(0, .ptr (.b 0) 0 0), (3, .v (.int .i64 v))], [(.b 0, sB l y)]⟩
theorem nx0_ok (X : Ctx) (N : St → Prop) (E : AExit → St → Prop) (l : List Int) (x : Sr) (h : N ⟨[(0, .ptr (.b 0) 0 0)], [(.b 0, sB l x)]⟩) : wpc Tryd.prog X (drawnG Tryd.prog) nx0 N E ⟨ini 0 [.ptr (.b 0) 0 0], iniH 0 [sB l x]⟩ := by
  unfold sB at h
  unfold nx0
  simp -dsimp only [go_sem, reduceIte, reduceCtorEq, Nat.reduceEqDiff, Nat.reduceLT, Nat.reduceLeDiff, Nat.reduceAdd, Nat.reduceMul, Nat.reduceSub, Int.reduceToNat, Int.reduceNeg, sB, List.set_cons_zero, List.set_cons_succ, List.length_cons, List.length_nil, List.flatMap_cons, List.flatMap_nil, cellN, topN, nestN, sB, List.getD_cons_zero, List.append_nil, List.nil_append, List.cons_append]
  repeat' (first
    | (refine RgK.mk rfl ?_; simp -dsimp only [go_sem, reduceIte, reduceCtorEq, Nat.reduceEqDiff, Nat.reduceLT, Nat.reduceLeDiff, Nat.reduceAdd, Nat.reduceMul, Nat.reduceSub, Int.reduceToNat, Int.reduceNeg, sB, List.set_cons_zero, List.set_cons_succ, List.length_cons, List.length_nil, List.flatMap_cons, List.flatMap_nil, cellN, topN, nestN, sB, List.getD_cons_zero, List.append_nil, List.nil_append, List.cons_append])
    | (refine Br.mk (fun h => ?_) (fun h => ?_) <;> simp -dsimp only [go_sem, reduceIte, reduceCtorEq, Nat.reduceEqDiff, Nat.reduceLT, Nat.reduceLeDiff, Nat.reduceAdd, Nat.reduceMul, Nat.reduceSub, Int.reduceToNat, Int.reduceNeg, h, sB, List.set_cons_zero, List.set_cons_succ, List.length_cons, List.length_nil, List.flatMap_cons, List.flatMap_nil, cellN, topN, nestN, sB, List.getD_cons_zero, List.append_nil, List.nil_append, List.cons_append])
    | (refine And.intro (by first | rfl | omega | decide | exact ⟨by omega, by omega⟩ | (refine ⟨?_, ?_⟩ <;> (first | rfl | omega | decide | exact ⟨by omega, by omega⟩)) | (refine ⟨?_, ?_, ?_⟩ <;> (first | rfl | omega | decide | exact ⟨by omega, by omega⟩)) | (refine ⟨?_, ?_, ?_, ?_⟩ <;> (first | rfl | omega | decide | exact ⟨by omega, by omega⟩))) ?_; try simp -dsimp only [go_sem, reduceIte, reduceCtorEq, Nat.reduceEqDiff, Nat.reduceLT, Nat.reduceLeDiff, Nat.reduceAdd, Nat.reduceMul, Nat.reduceSub, Int.reduceToNat, Int.reduceNeg, sB, List.set_cons_zero, List.set_cons_succ, List.length_cons, List.length_nil, List.flatMap_cons, List.flatMap_nil, cellN, topN, nestN, sB, List.getD_cons_zero, List.append_nil, List.nil_append, List.cons_append])
    | fail)
  all_goals first | exact h | assumption
theorem nx1_ok (X : Ctx) (N : St → Prop) (E : AExit → St → Prop) (l : List Int) (x : Sr) (h : N (nS l 0 x)) : wpc Tryd.prog X (drawnG Tryd.prog) nx1 N E ⟨[(0, .ptr (.b 0) 0 0)], [(.b 0, sB l x)]⟩ := by
  unfold nS sB at h
  unfold nx1
  simp -dsimp only [go_sem, reduceIte, reduceCtorEq, Nat.reduceEqDiff, Nat.reduceLT, Nat.reduceLeDiff, Nat.reduceAdd, Nat.reduceMul, Nat.reduceSub, Int.reduceToNat, Int.reduceNeg, sB, nS, List.set_cons_zero, List.set_cons_succ, List.length_cons, List.length_nil, List.flatMap_cons, List.flatMap_nil, cellN, topN, nestN, sB, List.getD_cons_zero, List.append_nil, List.nil_append, List.cons_append]
  repeat' (first
    | (refine RgK.mk rfl ?_; simp -dsimp only [go_sem, reduceIte, reduceCtorEq, Nat.reduceEqDiff, Nat.reduceLT, Nat.reduceLeDiff, Nat.reduceAdd, Nat.reduceMul, Nat.reduceSub, Int.reduceToNat, Int.reduceNeg, sB, nS, List.set_cons_zero, List.set_cons_succ, List.length_cons, List.length_nil, List.flatMap_cons, List.flatMap_nil, cellN, topN, nestN, sB, List.getD_cons_zero, List.append_nil, List.nil_append, List.cons_append])
    | (refine Br.mk (fun h => ?_) (fun h => ?_) <;> simp -dsimp only [go_sem, reduceIte, reduceCtorEq, Nat.reduceEqDiff, Nat.reduceLT, Nat.reduceLeDiff, Nat.reduceAdd, Nat.reduceMul, Nat.reduceSub, Int.reduceToNat, Int.reduceNeg, h, sB, nS, List.set_cons_zero, List.set_cons_succ, List.length_cons, List.length_nil, List.flatMap_cons, List.flatMap_nil, cellN, topN, nestN, sB, List.getD_cons_zero, List.append_nil, List.nil_append, List.cons_append])
    | (refine And.intro (by first | rfl | omega | decide | exact ⟨by omega, by omega⟩ | (refine ⟨?_, ?_⟩ <;> (first | rfl | omega | decide | exact ⟨by omega, by omega⟩)) | (refine ⟨?_, ?_, ?_⟩ <;> (first | rfl | omega | decide | exact ⟨by omega, by omega⟩)) | (refine ⟨?_, ?_, ?_, ?_⟩ <;> (first | rfl | omega | decide | exact ⟨by omega, by omega⟩))) ?_; try simp -dsimp only [go_sem, reduceIte, reduceCtorEq, Nat.reduceEqDiff, Nat.reduceLT, Nat.reduceLeDiff, Nat.reduceAdd, Nat.reduceMul, Nat.reduceSub, Int.reduceToNat, Int.reduceNeg, sB, nS, List.set_cons_zero, List.set_cons_succ, List.length_cons, List.length_nil, List.flatMap_cons, List.flatMap_nil, cellN, topN, nestN, sB, List.getD_cons_zero, List.append_nil, List.nil_append, List.cons_append])
    | fail)
  all_goals first | exact h | assumption
theorem nx2_lt (X : Ctx) (N : St → Prop) (E : AExit → St → Prop) (l : List Int) (x : Sr) (hb : byt l) (hp : x.p ≤ 4000) (hlt : x.p < l.length) (h : N (nS l (l.getD x.p 0) x)) : wpc Tryd.prog X (drawnG Tryd.prog) nx2 N E (nS l 0 x) := by
  have w1 := padd1 (a := x.p) (by omega)
  have w0 : ((x.p : Int)).toNat = x.p := by omega
  have hbb := byt_at hb x.p
  have e1 : decide ((x.p : Int) < ((l.length : Nat) : Int)) = true := by simp; omega
  have g1 := cU_get hlt
  have wb : IntKind.i64.wrap (l.getD x.p 0) = l.getD x.p 0 := wrap_in (by omega) (by omega)
  unfold nS sB at h
  unfold nx2
  simp -dsimp only [go_sem, reduceIte, reduceCtorEq, Nat.reduceEqDiff, Nat.reduceLT, Nat.reduceLeDiff, Nat.reduceAdd, Nat.reduceMul, Nat.reduceSub, Int.reduceToNat, Int.reduceNeg, sB, nS, w1, w0, e1, E_len, List.set_cons_zero, List.set_cons_succ, List.length_cons, List.length_nil, List.flatMap_cons, List.flatMap_nil, cellN, topN, nestN, sB, List.getD_cons_zero, List.append_nil, List.nil_append, List.cons_append, g1, wb]
  repeat' (first
    | (refine RgK.mk rfl ?_; simp -dsimp only [go_sem, reduceIte, reduceCtorEq, Nat.reduceEqDiff, Nat.reduceLT, Nat.reduceLeDiff, Nat.reduceAdd, Nat.reduceMul, Nat.reduceSub, Int.reduceToNat, Int.reduceNeg, sB, nS, w1, w0, e1, E_len, List.set_cons_zero, List.set_cons_succ, List.length_cons, List.length_nil, List.flatMap_cons, List.flatMap_nil, cellN, topN, nestN, sB, List.getD_cons_zero, List.append_nil, List.nil_append, List.cons_append, g1, wb])
    | (refine Br.mk (fun h => ?_) (fun h => ?_) <;> simp -dsimp only [go_sem, reduceIte, reduceCtorEq, Nat.reduceEqDiff, Nat.reduceLT, Nat.reduceLeDiff, Nat.reduceAdd, Nat.reduceMul, Nat.reduceSub, Int.reduceToNat, Int.reduceNeg, h, sB, nS, w1, w0, e1, E_len, List.set_cons_zero, List.set_cons_succ, List.length_cons, List.length_nil, List.flatMap_cons, List.flatMap_nil, cellN, topN, nestN, sB, List.getD_cons_zero, List.append_nil, List.nil_append, List.cons_append, g1, wb])
    | (refine And.intro (by first | rfl | omega | decide | exact ⟨by omega, by omega⟩ | (refine ⟨?_, ?_⟩ <;> (first | rfl | omega | decide | exact ⟨by omega, by omega⟩)) | (refine ⟨?_, ?_, ?_⟩ <;> (first | rfl | omega | decide | exact ⟨by omega, by omega⟩)) | (refine ⟨?_, ?_, ?_, ?_⟩ <;> (first | rfl | omega | decide | exact ⟨by omega, by omega⟩))) ?_; try simp -dsimp only [go_sem, reduceIte, reduceCtorEq, Nat.reduceEqDiff, Nat.reduceLT, Nat.reduceLeDiff, Nat.reduceAdd, Nat.reduceMul, Nat.reduceSub, Int.reduceToNat, Int.reduceNeg, sB, nS, w1, w0, e1, E_len, List.set_cons_zero, List.set_cons_succ, List.length_cons, List.length_nil, List.flatMap_cons, List.flatMap_nil, cellN, topN, nestN, sB, List.getD_cons_zero, List.append_nil, List.nil_append, List.cons_append, g1, wb])
    | fail)
  all_goals first | exact h | assumption
theorem nx2_ge (X : Ctx) (N : St → Prop) (E : AExit → St → Prop) (l : List Int) (x : Sr) (hp : x.p ≤ 4000) (hlt : ¬ x.p < l.length) (h : N ⟨[(0, .ptr (.b 0) 0 0), (3, .v (.int .i64 0)), (13, .v (.bool false))], [(.b 0, sB l x)]⟩) : wpc Tryd.prog X (drawnG Tryd.prog) nx2 N E (nS l 0 x) := by
  have w1 := padd1 (a := x.p) (by omega)
  have w0 : ((x.p : Int)).toNat = x.p := by omega
  have e1 : decide ((x.p : Int) < ((l.length : Nat) : Int)) = false := by simp; omega
  unfold sB at h
  unfold nx2
  simp -dsimp only [go_sem, reduceIte, reduceCtorEq, Nat.reduceEqDiff, Nat.reduceLT, Nat.reduceLeDiff, Nat.reduceAdd, Nat.reduceMul, Nat.reduceSub, Int.reduceToNat, Int.reduceNeg, sB, nS, w1, w0, e1, E_len, List.set_cons_zero, List.set_cons_succ, List.length_cons, List.length_nil, List.flatMap_cons, List.flatMap_nil, cellN, topN, nestN, sB, List.getD_cons_zero, List.append_nil, List.nil_append, List.cons_append]
  repeat' (first
    | (refine RgK.mk rfl ?_; simp -dsimp only [go_sem, reduceIte, reduceCtorEq, Nat.reduceEqDiff, Nat.reduceLT, Nat.reduceLeDiff, Nat.reduceAdd, Nat.reduceMul, Nat.reduceSub, Int.reduceToNat, Int.reduceNeg, sB, nS, w1, w0, e1, E_len, List.set_cons_zero, List.set_cons_succ, List.length_cons, List.length_nil, List.flatMap_cons, List.flatMap_nil, cellN, topN, nestN, sB, List.getD_cons_zero, List.append_nil, List.nil_append, List.cons_append])
    | (refine Br.mk (fun h => ?_) (fun h => ?_) <;> simp -dsimp only [go_sem, reduceIte, reduceCtorEq, Nat.reduceEqDiff, Nat.reduceLT, Nat.reduceLeDiff, Nat.reduceAdd, Nat.reduceMul, Nat.reduceSub, Int.reduceToNat, Int.reduceNeg, h, sB, nS, w1, w0, e1, E_len, List.set_cons_zero, List.set_cons_succ, List.length_cons, List.length_nil, List.flatMap_cons, List.flatMap_nil, cellN, topN, nestN, sB, List.getD_cons_zero, List.append_nil, List.nil_append, List.cons_append])
    | (refine And.intro (by first | rfl | omega | decide | exact ⟨by omega, by omega⟩ | (refine ⟨?_, ?_⟩ <;> (first | rfl | omega | decide | exact ⟨by omega, by omega⟩)) | (refine ⟨?_, ?_, ?_⟩ <;> (first | rfl | omega | decide | exact ⟨by omega, by omega⟩)) | (refine ⟨?_, ?_, ?_, ?_⟩ <;> (first | rfl | omega | decide | exact ⟨by omega, by omega⟩))) ?_; try simp -dsimp only [go_sem, reduceIte, reduceCtorEq, Nat.reduceEqDiff, Nat.reduceLT, Nat.reduceLeDiff, Nat.reduceAdd, Nat.reduceMul, Nat.reduceSub, Int.reduceToNat, Int.reduceNeg, sB, nS, w1, w0, e1, E_len, List.set_cons_zero, List.set_cons_succ, List.length_cons, List.length_nil, List.flatMap_cons, List.flatMap_nil, cellN, topN, nestN, sB, List.getD_cons_zero, List.append_nil, List.nil_append, List.cons_append])
    | fail)
  all_goals first | exact h | assumption
theorem nx3_lt (X : Ctx) (N : St → Prop) (E : AExit → St → Prop) (l : List Int) (x : Sr) (v : Int) (hp : x.p ≤ 4000) (h : N (nS l v ⟨x.p + 1, x.s⟩)) : wpc Tryd.prog X (drawnG Tryd.prog) nx3 N E (nS l v x) := by
  have w1 := padd1 (a := x.p) (by omega)
  unfold nS sB at h
  unfold nx3
  simp -dsimp only [go_sem, reduceIte, reduceCtorEq, Nat.reduceEqDiff, Nat.reduceLT, Nat.reduceLeDiff, Nat.reduceAdd, Nat.reduceMul, Nat.reduceSub, Int.reduceToNat, Int.reduceNeg, sB, nS, w1, E_len, List.set_cons_zero, List.set_cons_succ, List.length_cons, List.length_nil, List.flatMap_cons, List.flatMap_nil, cellN, topN, nestN, sB, List.getD_cons_zero, List.append_nil, List.nil_append, List.cons_append]
  repeat' (first
    | (refine RgK.mk rfl ?_; simp -dsimp only [go_sem, reduceIte, reduceCtorEq, Nat.reduceEqDiff, Nat.reduceLT, Nat.reduceLeDiff, Nat.reduceAdd, Nat.reduceMul, Nat.reduceSub, Int.reduceToNat, Int.reduceNeg, sB, nS, w1, E_len, List.set_cons_zero, List.set_cons_succ, List.length_cons, List.length_nil, List.flatMap_cons, List.flatMap_nil, cellN, topN, nestN, sB, List.getD_cons_zero, List.append_nil, List.nil_append, List.cons_append])
    | (refine Br.mk (fun h => ?_) (fun h => ?_) <;> simp -dsimp only [go_sem, reduceIte, reduceCtorEq, Nat.reduceEqDiff, Nat.reduceLT, Nat.reduceLeDiff, Nat.reduceAdd, Nat.reduceMul, Nat.reduceSub, Int.reduceToNat, Int.reduceNeg, h, sB, nS, w1, E_len, List.set_cons_zero, List.set_cons_succ, List.length_cons, List.length_nil, List.flatMap_cons, List.flatMap_nil, cellN, topN, nestN, sB, List.getD_cons_zero, List.append_nil, List.nil_append, List.cons_append])
    | (refine And.intro (by first | rfl | omega | decide | exact ⟨by omega, by omega⟩ | (refine ⟨?_, ?_⟩ <;> (first | rfl | omega | decide | exact ⟨by omega, by omega⟩)) | (refine ⟨?_, ?_, ?_⟩ <;> (first | rfl | omega | decide | exact ⟨by omega, by omega⟩)) | (refine ⟨?_, ?_, ?_, ?_⟩ <;> (first | rfl | omega | decide | exact ⟨by omega, by omega⟩))) ?_; try simp -dsimp only [go_sem, reduceIte, reduceCtorEq, Nat.reduceEqDiff, Nat.reduceLT, Nat.reduceLeDiff, Nat.reduceAdd, Nat.reduceMul, Nat.reduceSub, Int.reduceToNat, Int.reduceNeg, sB, nS, w1, E_len, List.set_cons_zero, List.set_cons_succ, List.length_cons, List.length_nil, List.flatMap_cons, List.flatMap_nil, cellN, topN, nestN, sB, List.getD_cons_zero, List.append_nil, List.nil_append, List.cons_append])
    | fail)
  all_goals first | exact h | assumption
theorem nx3_ge (X : Ctx) (N : St → Prop) (E : AExit → St → Prop) (l : List Int) (x : Sr) (hp : x.p ≤ 4000) (h : N (nS l 0 ⟨x.p + 1, x.s⟩)) : wpc Tryd.prog X (drawnG Tryd.prog) nx3 N E ⟨[(0, .ptr (.b 0) 0 0), (3, .v (.int .i64 0)), (13, .v (.bool false))], [(.b 0, sB l x)]⟩ := by
  have w1 := padd1 (a := x.p) (by omega)
  unfold nS sB at h
  unfold nx3
  simp -dsimp only [go_sem, reduceIte, reduceCtorEq, Nat.reduceEqDiff, Nat.reduceLT, Nat.reduceLeDiff, Nat.reduceAdd, Nat.reduceMul, Nat.reduceSub, Int.reduceToNat, Int.reduceNeg, sB, nS, w1, E_len, List.set_cons_zero, List.set_cons_succ, List.length_cons, List.length_nil, List.flatMap_cons, List.flatMap_nil, cellN, topN, nestN, sB, List.getD_cons_zero, List.append_nil, List.nil_append, List.cons_append]
  repeat' (first
    | (refine RgK.mk rfl ?_; simp -dsimp only [go_sem, reduceIte, reduceCtorEq, Nat.reduceEqDiff, Nat.reduceLT, Nat.reduceLeDiff, Nat.reduceAdd, Nat.reduceMul, Nat.reduceSub, Int.reduceToNat, Int.reduceNeg, sB, nS, w1, E_len, List.set_cons_zero, List.set_cons_succ, List.length_cons, List.length_nil, List.flatMap_cons, List.flatMap_nil, cellN, topN, nestN, sB, List.getD_cons_zero, List.append_nil, List.nil_append, List.cons_append])
    | (refine Br.mk (fun h => ?_) (fun h => ?_) <;> simp -dsimp only [go_sem, reduceIte, reduceCtorEq, Nat.reduceEqDiff, Nat.reduceLT, Nat.reduceLeDiff, Nat.reduceAdd, Nat.reduceMul, Nat.reduceSub, Int.reduceToNat, Int.reduceNeg, h, sB, nS, w1, E_len, List.set_cons_zero, List.set_cons_succ, List.length_cons, List.length_nil, List.flatMap_cons, List.flatMap_nil, cellN, topN, nestN, sB, List.getD_cons_zero, List.append_nil, List.nil_append, List.cons_append])
    | (refine And.intro (by first | rfl | omega | decide | exact ⟨by omega, by omega⟩ | (refine ⟨?_, ?_⟩ <;> (first | rfl | omega | decide | exact ⟨by omega, by omega⟩)) | (refine ⟨?_, ?_, ?_⟩ <;> (first | rfl | omega | decide | exact ⟨by omega, by omega⟩)) | (refine ⟨?_, ?_, ?_, ?_⟩ <;> (first | rfl | omega | decide | exact ⟨by omega, by omega⟩))) ?_; try simp -dsimp only [go_sem, reduceIte, reduceCtorEq, Nat.reduceEqDiff, Nat.reduceLT, Nat.reduceLeDiff, Nat.reduceAdd, Nat.reduceMul, Nat.reduceSub, Int.reduceToNat, Int.reduceNeg, sB, nS, w1, E_len, List.set_cons_zero, List.set_cons_succ, List.length_cons, List.length_nil, List.flatMap_cons, List.flatMap_nil, cellN, topN, nestN, sB, List.getD_cons_zero, List.append_nil, List.nil_append, List.cons_append])
    | fail)
  all_goals first | exact h | assumption
theorem nx4_ok (X : Ctx) (N : St → Prop) (E : AExit → St → Prop) (l : List Int) (x : Sr) (v sd : Int) (hsd : IntKind.u64.wrap (IntKind.u64.wrap (IntKind.u64.wrap (x.s * 6364136223846793005) + IntKind.u64.wrap v) + 1442695040888963407) = sd) (h : N (nS l v ⟨x.p, sd⟩)) : wpc Tryd.prog X (drawnG Tryd.prog) nx4 N E (nS l v x) := by
  unfold nS sB at h
  unfold nx4
  simp -dsimp only [go_sem, reduceIte, reduceCtorEq, Nat.reduceEqDiff, Nat.reduceLT, Nat.reduceLeDiff, Nat.reduceAdd, Nat.reduceMul, Nat.reduceSub, Int.reduceToNat, Int.reduceNeg, sB, nS, hsd, List.set_cons_zero, List.set_cons_succ, List.length_cons, List.length_nil, List.flatMap_cons, List.flatMap_nil, cellN, topN, nestN, sB, List.getD_cons_zero, List.append_nil, List.nil_append, List.cons_append]
  repeat' (first
    | (refine RgK.mk rfl ?_; simp -dsimp only [go_sem, reduceIte, reduceCtorEq, Nat.reduceEqDiff, Nat.reduceLT, Nat.reduceLeDiff, Nat.reduceAdd, Nat.reduceMul, Nat.reduceSub, Int.reduceToNat, Int.reduceNeg, sB, nS, hsd, List.set_cons_zero, List.set_cons_succ, List.length_cons, List.length_nil, List.flatMap_cons, List.flatMap_nil, cellN, topN, nestN, sB, List.getD_cons_zero, List.append_nil, List.nil_append, List.cons_append])
    | (refine Br.mk (fun h => ?_) (fun h => ?_) <;> simp -dsimp only [go_sem, reduceIte, reduceCtorEq, Nat.reduceEqDiff, Nat.reduceLT, Nat.reduceLeDiff, Nat.reduceAdd, Nat.reduceMul, Nat.reduceSub, Int.reduceToNat, Int.reduceNeg, h, sB, nS, hsd, List.set_cons_zero, List.set_cons_succ, List.length_cons, List.length_nil, List.flatMap_cons, List.flatMap_nil, cellN, topN, nestN, sB, List.getD_cons_zero, List.append_nil, List.nil_append, List.cons_append])
    | (refine And.intro (by first | rfl | omega | decide | exact ⟨by omega, by omega⟩ | (refine ⟨?_, ?_⟩ <;> (first | rfl | omega | decide | exact ⟨by omega, by omega⟩)) | (refine ⟨?_, ?_, ?_⟩ <;> (first | rfl | omega | decide | exact ⟨by omega, by omega⟩)) | (refine ⟨?_, ?_, ?_, ?_⟩ <;> (first | rfl | omega | decide | exact ⟨by omega, by omega⟩))) ?_; try simp -dsimp only [go_sem, reduceIte, reduceCtorEq, Nat.reduceEqDiff, Nat.reduceLT, Nat.reduceLeDiff, Nat.reduceAdd, Nat.reduceMul, Nat.reduceSub, Int.reduceToNat, Int.reduceNeg, sB, nS, hsd, List.set_cons_zero, List.set_cons_succ, List.length_cons, List.length_nil, List.flatMap_cons, List.flatMap_nil, cellN, topN, nestN, sB, List.getD_cons_zero, List.append_nil, List.nil_append, List.cons_append])
    | fail)
  all_goals first | exact h | assumption
theorem nx5_le (X : Ctx) (N : St → Prop) (E : AExit → St → Prop) (l : List Int) (x : Sr) (v : Int) (hlt : x.p ≤ l.length) (h : E .ret ⟨[(2, .v (.int .i64 v))], [(.b 0, sB l x)]⟩) : wpc Tryd.prog X (drawnG Tryd.prog) nx5 N E (nS l v x) := by
  have e1 : decide ((x.p : Int) ≤ ((l.length : Nat) : Int)) = true := by simp; omega
  unfold sB at h
  unfold nx5
  simp -dsimp only [go_sem, reduceIte, reduceCtorEq, Nat.reduceEqDiff, Nat.reduceLT, Nat.reduceLeDiff, Nat.reduceAdd, Nat.reduceMul, Nat.reduceSub, Int.reduceToNat, Int.reduceNeg, sB, nS, e1, E_len, List.set_cons_zero, List.set_cons_succ, List.length_cons, List.length_nil, List.flatMap_cons, List.flatMap_nil, cellN, topN, nestN, sB, List.getD_cons_zero, List.append_nil, List.nil_append, List.cons_append]
  repeat' (first
    | (refine RgK.mk rfl ?_; simp -dsimp only [go_sem, reduceIte, reduceCtorEq, Nat.reduceEqDiff, Nat.reduceLT, Nat.reduceLeDiff, Nat.reduceAdd, Nat.reduceMul, Nat.reduceSub, Int.reduceToNat, Int.reduceNeg, sB, nS, e1, E_len, List.set_cons_zero, List.set_cons_succ, List.length_cons, List.length_nil, List.flatMap_cons, List.flatMap_nil, cellN, topN, nestN, sB, List.getD_cons_zero, List.append_nil, List.nil_append, List.cons_append])
    | (refine Br.mk (fun h => ?_) (fun h => ?_) <;> simp -dsimp only [go_sem, reduceIte, reduceCtorEq, Nat.reduceEqDiff, Nat.reduceLT, Nat.reduceLeDiff, Nat.reduceAdd, Nat.reduceMul, Nat.reduceSub, Int.reduceToNat, Int.reduceNeg, h, sB, nS, e1, E_len, List.set_cons_zero, List.set_cons_succ, List.length_cons, List.length_nil, List.flatMap_cons, List.flatMap_nil, cellN, topN, nestN, sB, List.getD_cons_zero, List.append_nil, List.nil_append, List.cons_append])
    | (refine And.intro (by first | rfl | omega | decide | exact ⟨by omega, by omega⟩ | (refine ⟨?_, ?_⟩ <;> (first | rfl | omega | decide | exact ⟨by omega, by omega⟩)) | (refine ⟨?_, ?_, ?_⟩ <;> (first | rfl | omega | decide | exact ⟨by omega, by omega⟩)) | (refine ⟨?_, ?_, ?_, ?_⟩ <;> (first | rfl | omega | decide | exact ⟨by omega, by omega⟩))) ?_; try simp -dsimp only [go_sem, reduceIte, reduceCtorEq, Nat.reduceEqDiff, Nat.reduceLT, Nat.reduceLeDiff, Nat.reduceAdd, Nat.reduceMul, Nat.reduceSub, Int.reduceToNat, Int.reduceNeg, sB, nS, e1, E_len, List.set_cons_zero, List.set_cons_succ, List.length_cons, List.length_nil, List.flatMap_cons, List.flatMap_nil, cellN, topN, nestN, sB, List.getD_cons_zero, List.append_nil, List.nil_append, List.cons_append])
    | fail)
  all_goals first | exact h | assumption
theorem nx5_gt (X : Ctx) (N : St → Prop) (E : AExit → St → Prop) (l : List Int) (x : Sr) (v : Int) (hlt : ¬ x.p ≤ l.length) (h : N ⟨[(0, .ptr (.b 0) 0 0), (3, .v (.int .i64 v)), (53, .v (.bool false))], [(.b 0, sB l x)]⟩) : wpc Tryd.prog X (drawnG Tryd.prog) nx5 N E (nS l v x) := by
  have e1 : decide ((x.p : Int) ≤ ((l.length : Nat) : Int)) = false := by simp; omega
  unfold sB at h
  unfold nx5
  simp -dsimp only [go_sem, reduceIte, reduceCtorEq, Nat.reduceEqDiff, Nat.reduceLT, Nat.reduceLeDiff, Nat.reduceAdd, Nat.reduceMul, Nat.reduceSub, Int.reduceToNat, Int.reduceNeg, sB, nS, e1, E_len, List.set_cons_zero, List.set_cons_succ, List.length_cons, List.length_nil, List.flatMap_cons, List.flatMap_nil, cellN, topN, nestN, sB, List.getD_cons_zero, List.append_nil, List.nil_append, List.cons_append]
  repeat' (first
    | (refine RgK.mk rfl ?_; simp -dsimp only [go_sem, reduceIte, reduceCtorEq, Nat.reduceEqDiff, Nat.reduceLT, Nat.reduceLeDiff, Nat.reduceAdd, Nat.reduceMul, Nat.reduceSub, Int.reduceToNat, Int.reduceNeg, sB, nS, e1, E_len, List.set_cons_zero, List.set_cons_succ, List.length_cons, List.length_nil, List.flatMap_cons, List.flatMap_nil, cellN, topN, nestN, sB, List.getD_cons_zero, List.append_nil, List.nil_append, List.cons_append])
    | (refine Br.mk (fun h => ?_) (fun h => ?_) <;> simp -dsimp only [go_sem, reduceIte, reduceCtorEq, Nat.reduceEqDiff, Nat.reduceLT, Nat.reduceLeDiff, Nat.reduceAdd, Nat.reduceMul, Nat.reduceSub, Int.reduceToNat, Int.reduceNeg, h, sB, nS, e1, E_len, List.set_cons_zero, List.set_cons_succ, List.length_cons, List.length_nil, List.flatMap_cons, List.flatMap_nil, cellN, topN, nestN, sB, List.getD_cons_zero, List.append_nil, List.nil_append, List.cons_append])
    | (refine And.intro (by first | rfl | omega | decide | exact ⟨by omega, by omega⟩ | (refine ⟨?_, ?_⟩ <;> (first | rfl | omega | decide | exact ⟨by omega, by omega⟩)) | (refine ⟨?_, ?_, ?_⟩ <;> (first | rfl | omega | decide | exact ⟨by omega, by omega⟩)) | (refine ⟨?_, ?_, ?_, ?_⟩ <;> (first | rfl | omega | decide | exact ⟨by omega, by omega⟩))) ?_; try simp -dsimp only [go_sem, reduceIte, reduceCtorEq, Nat.reduceEqDiff, Nat.reduceLT, Nat.reduceLeDiff, Nat.reduceAdd, Nat.reduceMul, Nat.reduceSub, Int.reduceToNat, Int.reduceNeg, sB, nS, e1, E_len, List.set_cons_zero, List.set_cons_succ, List.length_cons, List.length_nil, List.flatMap_cons, List.flatMap_nil, cellN, topN, nestN, sB, List.getD_cons_zero, List.append_nil, List.nil_append, List.cons_append])
    | fail)
  all_goals first | exact h | assumption
theorem nx6_ok (X : Ctx) (N : St → Prop) (E : AExit → St → Prop) (l : List Int) (x : Sr) (v tv : Int) (htv : IntKind.i64.wrap (bitsOp .and .u64 (x.s.fdiv (2 ^ 40)) 255) = tv) (h : N ⟨[(2, .v (.int .i64 tv))], [(.b 0, sB l x)]⟩) : wpc Tryd.prog X (drawnG Tryd.prog) nx6 N E ⟨[(0, .ptr (.b 0) 0 0), (3, .v (.int .i64 v)), (53, .v (.bool false))], [(.b 0, sB l x)]⟩ := by
  have e40 : (min 40 64 : Nat) = 40 := rfl
  unfold sB at h
  unfold nx6
  simp -dsimp only [go_sem, reduceIte, reduceCtorEq, Nat.reduceEqDiff, Nat.reduceLT, Nat.reduceLeDiff, Nat.reduceAdd, Nat.reduceMul, Nat.reduceSub, Int.reduceToNat, Int.reduceNeg, sB, nS, e40, htv, List.set_cons_zero, List.set_cons_succ, List.length_cons, List.length_nil, List.flatMap_cons, List.flatMap_nil, cellN, topN, nestN, sB, List.getD_cons_zero, List.append_nil, List.nil_append, List.cons_append]
  repeat' (first
    | (refine RgK.mk rfl ?_; simp -dsimp only [go_sem, reduceIte, reduceCtorEq, Nat.reduceEqDiff, Nat.reduceLT, Nat.reduceLeDiff, Nat.reduceAdd, Nat.reduceMul, Nat.reduceSub, Int.reduceToNat, Int.reduceNeg, sB, nS, e40, htv, List.set_cons_zero, List.set_cons_succ, List.length_cons, List.length_nil, List.flatMap_cons, List.flatMap_nil, cellN, topN, nestN, sB, List.getD_cons_zero, List.append_nil, List.nil_append, List.cons_append])
    | (refine Br.mk (fun h => ?_) (fun h => ?_) <;> simp -dsimp only [go_sem, reduceIte, reduceCtorEq, Nat.reduceEqDiff, Nat.reduceLT, Nat.reduceLeDiff, Nat.reduceAdd, Nat.reduceMul, Nat.reduceSub, Int.reduceToNat, Int.reduceNeg, h, sB, nS, e40, htv, List.set_cons_zero, List.set_cons_succ, List.length_cons, List.length_nil, List.flatMap_cons, List.flatMap_nil, cellN, topN, nestN, sB, List.getD_cons_zero, List.append_nil, List.nil_append, List.cons_append])
    | (refine And.intro (by first | rfl | omega | decide | exact ⟨by omega, by omega⟩ | (refine ⟨?_, ?_⟩ <;> (first | rfl | omega | decide | exact ⟨by omega, by omega⟩)) | (refine ⟨?_, ?_, ?_⟩ <;> (first | rfl | omega | decide | exact ⟨by omega, by omega⟩)) | (refine ⟨?_, ?_, ?_, ?_⟩ <;> (first | rfl | omega | decide | exact ⟨by omega, by omega⟩))) ?_; try simp -dsimp only [go_sem, reduceIte, reduceCtorEq, Nat.reduceEqDiff, Nat.reduceLT, Nat.reduceLeDiff, Nat.reduceAdd, Nat.reduceMul, Nat.reduceSub, Int.reduceToNat, Int.reduceNeg, sB, nS, e40, htv, List.set_cons_zero, List.set_cons_succ, List.length_cons, List.length_nil, List.flatMap_cons, List.flatMap_nil, cellN, topN, nestN, sB, List.getD_cons_zero, List.append_nil, List.nil_append, List.cons_append])
    | fail)
  all_goals first | exact h | assumption
attribute [local irreducible] nx0 nx1 nx2 nx3 nx4 nx5 nx6
theorem next (l : List Int) (x : Sr) (hl : byt l) (hp : x.p ≤ 4000) : Vs.Fn Tryd.prog F.__spec_l00Src__next [sB l x] [.ptr (.b 0) 0 0] (.v (.int .i64 (nxV l x))) [some (sB l (nxS l x))] := by
  refine Cd.__spec_l00Src__next_ok.fn Tryd.mixed (hin := [sB l x]) _ _ [.b 0] [sB l (nxS l x)] Cd.__spec_l00Src__next_nt Cd.__spec_l00Src__next_rs rfl (by simp) rfl (by simp) fun X => ?_
  rw [nx_all]
  refine nx0_ok X _ _ l x (nx1_ok X _ _ l x ?_)
  by_cases hlt : x.p < l.length
  · have hv : nxV l x = l.getD x.p 0 := by unfold nxV; rw [if_pos (by omega)]
    rw [hv]
    refine nx2_lt X _ _ l x hl hp hlt (nx3_lt X _ _ l x _ hp (nx4_ok X _ _ l ⟨x.p + 1, x.s⟩ _ _ rfl (nx5_le X _ _ l _ _ (by dsimp only; omega) ?_)))
    exact ⟨_, _, rfl, rfl⟩
  · have g0 : l.getD x.p 0 = 0 := by simp [List.getD, List.getElem?_eq_none (Nat.le_of_not_lt hlt)]
    have hS : nxS l x = ⟨x.p + 1, IntKind.u64.wrap (IntKind.u64.wrap (IntKind.u64.wrap (x.s * 6364136223846793005) + IntKind.u64.wrap 0) + 1442695040888963407)⟩ := by unfold nxS; rw [g0]
    have hv : nxV l x = IntKind.i64.wrap (bitsOp .and .u64 ((nxS l x).s.fdiv (2 ^ 40)) 255) := by unfold nxV; rw [if_neg (by omega)]
    rw [hv, hS]
    refine nx2_ge X _ _ l x hp hlt (nx3_ge X _ _ l x hp (nx4_ok X _ _ l ⟨x.p + 1, x.s⟩ _ _ rfl (nx5_gt X _ _ l _ _ (by dsimp only; omega) (nx6_ok X _ _ l _ _ _ rfl ?_))))
    exact ⟨_, _, rfl, rfl⟩
end Go.Proofs.YtgeeipfdkamhmaaDoor
