/- Numbers that are read, and faults. -/
import Derived.Test.YtgeeipfdkamhmaaDoorTuR
import Derived.Test.YtgeeipfdkamhmaaDoorFtK
namespace Go.Proofs.YtgeeipfdkamhmaaDoor
open Go.Vs
set_option linter.unusedSimpArgs false
set_option linter.unusedVariables false
attribute [local irreducible] Vs.Fn
/-- numbers that are valid: at most 12, of 0 to 9999 each -/
def amB (l : List Int) : Bool := l.all (fun x => inB x 0 9999) && decide ((l.length : Int) ≤ 12)
theorem validAmounts1 (x : Int) : Vs.Fn Tryd.prog F.impl_ValidAmounts_1 [] [.v (.int .i64 x)] (.v (.bool (!inB x 0 9999))) [] := by
  refine Cd.impl_ValidAmounts_1_ok.fn0 Tryd.mixed Cd.impl_ValidAmounts_1_nt Cd.impl_ValidAmounts_1_rs rfl fun X => ?_
  unfold Cd.impl_ValidAmounts_1
  simp -dsimp only [go_sem, reduceIte, reduceCtorEq, Nat.reduceEqDiff, Nat.reduceLT, Nat.reduceLeDiff, Nat.reduceAdd, Nat.reduceMul, Nat.reduceSub, Int.reduceToNat, Int.reduceNeg]
  repeat' (first
    | (refine RgK.mk rfl ?_; simp -dsimp only [go_sem, reduceIte, reduceCtorEq, Nat.reduceEqDiff, Nat.reduceLT, Nat.reduceLeDiff, Nat.reduceAdd, Nat.reduceMul, Nat.reduceSub, Int.reduceToNat, Int.reduceNeg])
    | (refine Br.mk (fun h => ?_) (fun h => ?_) <;> simp -dsimp only [go_sem, reduceIte, reduceCtorEq, Nat.reduceEqDiff, Nat.reduceLT, Nat.reduceLeDiff, Nat.reduceAdd, Nat.reduceMul, Nat.reduceSub, Int.reduceToNat, Int.reduceNeg, h])
    | (refine CallK.flat (by first | exact inside _ _ _) rfl ?_; simp -dsimp only [go_sem, reduceIte, reduceCtorEq, Nat.reduceEqDiff, Nat.reduceLT, Nat.reduceLeDiff, Nat.reduceAdd, Nat.reduceMul, Nat.reduceSub, Int.reduceToNat, Int.reduceNeg])
    | (refine CallK.pure (by first | exact inside _ _ _) ?_; simp -dsimp only [go_sem, reduceIte, reduceCtorEq, Nat.reduceEqDiff, Nat.reduceLT, Nat.reduceLeDiff, Nat.reduceAdd, Nat.reduceMul, Nat.reduceSub, Int.reduceToNat, Int.reduceNeg])
    | (refine And.intro (by first | rfl | omega | decide | (refine ⟨?_, ?_⟩ <;> (first | rfl | omega | decide)) | (refine ⟨?_, ?_, ?_⟩ <;> (first | rfl | omega | decide)) | (refine ⟨?_, ?_, ?_, ?_⟩ <;> (first | rfl | omega | decide))) ?_)
    | fail)
  all_goals (simp_all)

theorem idxAm (l : List Int) (hl : l.length ≤ 1048576) : Vs.Fn Tryd.prog F.slices_IndexFunc___int64_int64_ [] [.sl 1 (E cI l), .fn F.impl_ValidAmounts_1 []] (.v (.int .i64 (idxP (fun x => !inB x 0 9999) l))) [] :=
  ixI_fn Tryd.mixed Cd.slices_IndexFunc___int64_int64__ok Cd.slices_IndexFunc___int64_int64__nt Cd.slices_IndexFunc___int64_int64__rs rfl (fun x => !inB x 0 9999) F.impl_ValidAmounts_1 [] rfl (fun x hx => validAmounts1 x) hl
theorem conAm (l : List Int) (hl : l.length ≤ 1048576) : Vs.Fn Tryd.prog F.slices_ContainsFunc___int64_int64_ [] [.sl 1 (E cI l), .fn F.impl_ValidAmounts_1 []] (.v (.bool (l.any (fun x => !inB x 0 9999)))) [] :=
  ct_fn Tryd.mixed (g := F.slices_IndexFunc___int64_int64_) Cd.slices_ContainsFunc___int64_int64__ok Cd.slices_ContainsFunc___int64_int64__nt Cd.slices_ContainsFunc___int64_int64__rs rfl (fun x => !inB x 0 9999) F.impl_ValidAmounts_1 [] rfl (idxAm l hl)
theorem validAmounts (l : List Int) (hl : l.length ≤ 1048576) : Vs.Fn Tryd.prog F.impl_ValidAmounts [] [.sl 1 (E cI l)] (.v (.bool (amB l))) [] := by
  refine Cd.impl_ValidAmounts_ok.fn0 Tryd.mixed Cd.impl_ValidAmounts_nt Cd.impl_ValidAmounts_rs rfl fun X => ?_
  unfold Cd.impl_ValidAmounts
  simp -dsimp only [go_sem, reduceIte, reduceCtorEq, Nat.reduceEqDiff, Nat.reduceLT, Nat.reduceLeDiff, Nat.reduceAdd, Nat.reduceMul, Nat.reduceSub, Int.reduceToNat, Int.reduceNeg]
  repeat' (first
    | (refine RgK.mk rfl ?_; simp -dsimp only [go_sem, reduceIte, reduceCtorEq, Nat.reduceEqDiff, Nat.reduceLT, Nat.reduceLeDiff, Nat.reduceAdd, Nat.reduceMul, Nat.reduceSub, Int.reduceToNat, Int.reduceNeg])
    | (refine Br.mk (fun h => ?_) (fun h => ?_) <;> simp -dsimp only [go_sem, reduceIte, reduceCtorEq, Nat.reduceEqDiff, Nat.reduceLT, Nat.reduceLeDiff, Nat.reduceAdd, Nat.reduceMul, Nat.reduceSub, Int.reduceToNat, Int.reduceNeg, h])
    | (refine CallK.flat (by first | exact conAm l hl) rfl ?_; simp -dsimp only [go_sem, reduceIte, reduceCtorEq, Nat.reduceEqDiff, Nat.reduceLT, Nat.reduceLeDiff, Nat.reduceAdd, Nat.reduceMul, Nat.reduceSub, Int.reduceToNat, Int.reduceNeg])
    | (refine CallK.pure (by first | exact conAm l hl) ?_; simp -dsimp only [go_sem, reduceIte, reduceCtorEq, Nat.reduceEqDiff, Nat.reduceLT, Nat.reduceLeDiff, Nat.reduceAdd, Nat.reduceMul, Nat.reduceSub, Int.reduceToNat, Int.reduceNeg])
    | (refine And.intro (by first | rfl | omega | decide | (refine ⟨?_, ?_⟩ <;> (first | rfl | omega | decide)) | (refine ⟨?_, ?_, ?_⟩ <;> (first | rfl | omega | decide)) | (refine ⟨?_, ?_, ?_, ?_⟩ <;> (first | rfl | omega | decide))) ?_)
    | fail)
  all_goals (first | (refine ret_eq ?_; have e := any_notI l (fun x => inB x 0 9999); simp_all [amB]; done) | (simp_all [amB]; done) | (simp_all [amB]; omega))


/-- the digits of a number, the lowest first -/
def wl : Nat → Int → List Int
  | 0, _ => []
  | k + 1, n => n.tmod 10 :: wl k (W (n.tdiv 10))
theorem wl_length : ∀ k n, (wl k n).length = k
  | 0, _ => rfl
  | k + 1, n => by simp [wl, wl_length k]
theorem wheelsShow (k : Nat) (n : Int) (hk : k ≤ 1000) : Vs.Fn Tryd.prog F.impl_wheelsShow [] [.v (.int .i64 k), .v (.int .i64 n)] (.agg [.sl 1 (E cI (wl k n))]) [] := by
  refine Cd.impl_wheelsShow_ok.fn0 Tryd.mixed Cd.impl_wheelsShow_nt Cd.impl_wheelsShow_rs rfl fun X => ?_
  unfold Cd.impl_wheelsShow
  simp -dsimp only [go_sem, reduceIte, reduceCtorEq, Nat.reduceEqDiff, Nat.reduceLT, Nat.reduceLeDiff, Nat.reduceAdd, Nat.reduceMul, Nat.reduceSub, Int.reduceToNat, Int.reduceNeg]
  refine ⟨⟨by omega, by omega⟩, rfl, ?_⟩
  refine LoopK.intro (drawn_ok Tryd.mixed) (X := { p : Nat × Int × List Int × Name // p.1 ≤ k ∧ p.2.2.1.length = p.1 ∧ p.2.2.1 ++ wl (k - p.1) p.2.1 = wl k n ∧ (p.2.2.2 = .t 6 0 ∨ p.2.2.2 = .t 16 0) })
    (fun p => ⟨[(1, .v (.int .i64 p.1.2.1)), (4, .ptr (.t 4 0) 0 0), (5, .ptr (.t 5 0) 0 0), (8, .v (.int .i64 k)), (9, .v (.int .i64 p.1.1))], [(.t 5 0, .var [.loc p.1.2.2.2 0 p.1.1] false), (p.1.2.2.2, .arr 1 (E cI p.1.2.2.1) false), (.t 4 0, .var [.v (.slice none 0 0)] false)]⟩) (fun p => k - p.1.1) ⟨(0, n, [], .t 6 0), by omega, rfl, by simp, .inl rfl⟩ ?_ ?_
  · simp [Vs.LeL, Vs.look, Vs.hlook, Vs.sput, Vs.sputs, Vs.hset, Vs.hputs, E]
  · rintro ⟨⟨i, c, acc, nm⟩, hi, ha, hg, hnm⟩
    dsimp only at hi ha hg hnm
    simp -dsimp only [go_sem, reduceIte, reduceCtorEq, Nat.reduceEqDiff, Nat.reduceLT, Nat.reduceLeDiff, Nat.reduceAdd, Nat.reduceMul, Nat.reduceSub, Int.reduceToNat, Int.reduceNeg]
    refine Br.mk (fun hc => ?_) fun hc => ?_
    · have hlt : i < k := by simpa using hc
      have hw : IntKind.i64.wrap ((i : Int) + 1) = ((i + 1 : Nat) : Int) := by rw [wrap_in (by omega) (by omega)]; omega
      have hcon : acc ++ (c.tmod 10) :: wl (k - (i + 1)) (W (c.tdiv 10)) = wl k n := by
        rw [← hg]
        have : k - i = (k - (i + 1)) + 1 := by omega
        rw [this]; rfl
      have hap : E cI acc ++ [[.v (.int .i64 (c.tmod 10))]] = E cI (acc ++ [c.tmod 10]) := by rw [E_append]; rfl
      rcases hnm with rfl | rfl
      all_goals
        simp -dsimp only [go_sem, reduceIte, reduceCtorEq, Nat.reduceEqDiff, Nat.reduceLT, Nat.reduceLeDiff, Nat.reduceAdd, Nat.reduceMul, Nat.reduceSub, Int.reduceToNat, Int.reduceNeg, hw, hap, ha, List.replicate_succ, List.replicate_zero, List.flatten_cons, List.flatten_nil]
        repeat' (first
          | (refine RgK.mk rfl ?_; simp -dsimp only [go_sem, reduceIte, reduceCtorEq, Nat.reduceEqDiff, Nat.reduceLT, Nat.reduceLeDiff, Nat.reduceAdd, Nat.reduceMul, Nat.reduceSub, Int.reduceToNat, Int.reduceNeg, hw, hap, ha, List.replicate_succ, List.replicate_zero, List.flatten_cons, List.flatten_nil])
          | (refine Br.mk (fun h => ?_) (fun h => ?_) <;> simp -dsimp only [go_sem, reduceIte, reduceCtorEq, Nat.reduceEqDiff, Nat.reduceLT, Nat.reduceLeDiff, Nat.reduceAdd, Nat.reduceMul, Nat.reduceSub, Int.reduceToNat, Int.reduceNeg, h, hw, hap, ha, List.replicate_succ, List.replicate_zero, List.flatten_cons, List.flatten_nil])
          | (refine And.intro (by first | rfl | omega | decide | (refine ⟨?_, ?_⟩ <;> (first | rfl | omega | decide)) | (refine ⟨?_, ?_, ?_⟩ <;> (first | rfl | omega | decide)) | (refine ⟨?_, ?_, ?_, ?_⟩ <;> (first | rfl | omega | decide))) ?_)
          | fail)
        exact ⟨⟨(i + 1, W (c.tdiv 10), acc ++ [c.tmod 10], .t 16 0), by omega, by simp [ha], by simpa using hcon, .inr rfl⟩, by simp [Vs.LeL, Vs.look, Vs.hlook, Vs.sput, Vs.sputs, Vs.hset, Vs.hputs, E, cI, ha], by simp only; omega⟩
    · have hge : i = k := by
        have : ¬ i < k := by simpa using hc
        omega
      subst hge
      have hacc : acc = wl i n := by simpa [wl] using hg
      rcases hnm with rfl | rfl
      all_goals
        simp -dsimp only [go_sem, reduceIte, reduceCtorEq, Nat.reduceEqDiff, Nat.reduceLT, Nat.reduceLeDiff, Nat.reduceAdd, Nat.reduceMul, Nat.reduceSub, Int.reduceToNat, Int.reduceNeg, hacc]
        refine ⟨?_, by simp⟩; rw [List.take_of_length_le (by simp [Vs.E, wl_length])]; exact ⟨_, _, rfl, rfl⟩

theorem digitAt (n : Int) (p : Nat) (hp : p < 4) : Vs.Fn Tryd.prog F.impl_digitAt [] [.v (.int .i64 n), .v (.int .i64 p)] (.v (.int .i64 ((wl 4 n).getD p 0))) [] := by
  refine Cd.impl_digitAt_ok.fn0 Tryd.mixed Cd.impl_digitAt_nt Cd.impl_digitAt_rs rfl fun X => ?_
  unfold Cd.impl_digitAt
  simp -dsimp only [go_sem, reduceIte, reduceCtorEq, Nat.reduceEqDiff, Nat.reduceLT, Nat.reduceLeDiff, Nat.reduceAdd, Nat.reduceMul, Nat.reduceSub, Int.reduceToNat, Int.reduceNeg]
  have hl : (wl 4 n).length = 4 := wl_length 4 n
  have hg : (E cI (wl 4 n)).getD p [] = [.v (.int .i64 ((wl 4 n).getD p 0))] := by
    rw [E_get (by omega)]
    simp [List.getD, hl, hp, cI]
  refine CallK.pure (wheelsShow 4 n (by omega)) ?_
  simp -dsimp only [go_sem, reduceIte, reduceCtorEq, Nat.reduceEqDiff, Nat.reduceLT, Nat.reduceLeDiff, Nat.reduceAdd, Nat.reduceMul, Nat.reduceSub, Int.reduceToNat, Int.reduceNeg, hg, hl]
  refine ⟨⟨by omega, by omega⟩, ?_⟩
  simp

theorem l19Power (p : Nat) (hp : p < 4) : Vs.Fn Tryd.prog F.spec_l19Power [] [.v (.int .i64 p)] (.v (.int .i64 ((10 ^ p : Nat) : Int))) [] := by
  refine Cd.spec_l19Power_ok.fn0 Tryd.mixed Cd.spec_l19Power_nt Cd.spec_l19Power_rs rfl fun X => ?_
  unfold Cd.spec_l19Power
  simp -dsimp only [go_sem, reduceIte, reduceCtorEq, Nat.reduceEqDiff, Nat.reduceLT, Nat.reduceLeDiff, Nat.reduceAdd, Nat.reduceMul, Nat.reduceSub, Int.reduceToNat, Int.reduceNeg]
  refine LoopK.at (drawn_ok Tryd.mixed) (X := { i : Nat // i ≤ p }) (fun i => [(0, .v (.int .i64 ((p - i.1 : Nat) : Int))), (3, .v (.int .i64 ((10 ^ i.1 : Nat) : Int)))]) (fun _ => []) (fun i => p - i.1) ⟨0, by omega⟩ ?_ ?_
  · simp [Vs.LeL, Vs.look, Vs.hlook, Vs.sput, Vs.sputs, Vs.hset, Vs.hputs]
  · rintro ⟨i, hi⟩
    simp -dsimp only [go_sem, reduceIte, reduceCtorEq, Nat.reduceEqDiff, Nat.reduceLT, Nat.reduceLeDiff, Nat.reduceAdd, Nat.reduceMul, Nat.reduceSub, Int.reduceToNat, Int.reduceNeg]
    refine Br.mk (fun hc => ?_) fun hc => ?_
    · have hlt : i < p := by simp at hc; omega
      have h1 : IntKind.i64.wrap (((p - i : Nat) : Int) - 1) = ((p - (i + 1) : Nat) : Int) := by rw [wrap_in (by omega) (by omega)]; omega
      have h2 : IntKind.i64.wrap (((10 ^ i : Nat) : Int) * 10) = ((10 ^ (i + 1) : Nat) : Int) := by
        have : i = 0 ∨ i = 1 ∨ i = 2 := by omega
        rcases this with rfl | rfl | rfl <;> rfl
      simp -dsimp only [go_sem, reduceIte, reduceCtorEq, Nat.reduceEqDiff, Nat.reduceLT, Nat.reduceLeDiff, Nat.reduceAdd, Nat.reduceMul, Nat.reduceSub, Int.reduceToNat, Int.reduceNeg, h1, h2]
      exact ⟨⟨i + 1, by omega⟩, by simp [Vs.LeL, Vs.look, Vs.hlook, Vs.sput, Vs.sputs, Vs.hset, Vs.hputs], by simp only; omega⟩
    · have hge : i = p := by simp at hc; omega
      subst hge
      simp -dsimp only [go_sem, reduceIte, reduceCtorEq, Nat.reduceEqDiff, Nat.reduceLT, Nat.reduceLeDiff, Nat.reduceAdd, Nat.reduceMul, Nat.reduceSub, Int.reduceToNat, Int.reduceNeg]
      simp


structure Flt where
  kind : Int
  card : Int
  place : Int
  digit : Int
  deriving Inhabited
def cF (x : Flt) : List AV := [.v (.int .i64 x.kind), .v (.int .i64 x.card), .v (.int .i64 x.place), .v (.int .i64 x.digit)]
def isF (f : Flt) : Bool := if f.kind = 3 then inB f.place 0 3 && inB f.digit 0 9 else inB f.kind 1 2 && (f.place == 0 && f.digit == 0)
def digI (l : List Int) (f : Flt) : Int := (wl 4 (l.getD f.card.toNat 0)).getD f.place.toNat 0
/-- a fault of numbers -/
def fltB (l : List Int) (f : Flt) : Bool := isF f && (inB f.card 0 (W (l.length - 1)) && (f.kind != 3 || digI l f != f.digit))
theorem isFault (f : Flt) : Vs.Fn Tryd.prog F.impl_isFault [] [.agg (cF f)] (.v (.bool (isF f))) [] := by
  refine Cd.impl_isFault_ok.fn0 Tryd.mixed Cd.impl_isFault_nt Cd.impl_isFault_rs rfl fun X => ?_
  unfold Cd.impl_isFault
  simp -dsimp only [go_sem, reduceIte, reduceCtorEq, Nat.reduceEqDiff, Nat.reduceLT, Nat.reduceLeDiff, Nat.reduceAdd, Nat.reduceMul, Nat.reduceSub, Int.reduceToNat, Int.reduceNeg, cF]
  repeat' (first
    | (refine RgK.mk rfl ?_; simp -dsimp only [go_sem, reduceIte, reduceCtorEq, Nat.reduceEqDiff, Nat.reduceLT, Nat.reduceLeDiff, Nat.reduceAdd, Nat.reduceMul, Nat.reduceSub, Int.reduceToNat, Int.reduceNeg, cF])
    | (refine Br.mk (fun h => ?_) (fun h => ?_) <;> simp -dsimp only [go_sem, reduceIte, reduceCtorEq, Nat.reduceEqDiff, Nat.reduceLT, Nat.reduceLeDiff, Nat.reduceAdd, Nat.reduceMul, Nat.reduceSub, Int.reduceToNat, Int.reduceNeg, h, cF])
    | (refine CallK.flat (by first | exact inside _ _ _) rfl ?_; simp -dsimp only [go_sem, reduceIte, reduceCtorEq, Nat.reduceEqDiff, Nat.reduceLT, Nat.reduceLeDiff, Nat.reduceAdd, Nat.reduceMul, Nat.reduceSub, Int.reduceToNat, Int.reduceNeg, cF])
    | (refine CallK.pure (by first | exact inside _ _ _) ?_; simp -dsimp only [go_sem, reduceIte, reduceCtorEq, Nat.reduceEqDiff, Nat.reduceLT, Nat.reduceLeDiff, Nat.reduceAdd, Nat.reduceMul, Nat.reduceSub, Int.reduceToNat, Int.reduceNeg, cF])
    | (refine And.intro (by first | rfl | omega | decide | (refine ⟨?_, ?_⟩ <;> (first | rfl | omega | decide)) | (refine ⟨?_, ?_, ?_⟩ <;> (first | rfl | omega | decide)) | (refine ⟨?_, ?_, ?_, ?_⟩ <;> (first | rfl | omega | decide))) ?_)
    | fail)
  all_goals (first | (simp_all [isF]; done) | (refine ret_eq ?_; grind [isF, inB]))

theorem l19Form (f : Flt) : Vs.Fn Tryd.prog F.spec_l19Form [] [.agg (cF f)] (.v (.bool (isF f && inB f.card 0 11))) [] := by
  refine Cd.spec_l19Form_ok.fn0 Tryd.mixed Cd.spec_l19Form_nt Cd.spec_l19Form_rs rfl fun X => ?_
  unfold Cd.spec_l19Form
  simp -dsimp only [go_sem, reduceIte, reduceCtorEq, Nat.reduceEqDiff, Nat.reduceLT, Nat.reduceLeDiff, Nat.reduceAdd, Nat.reduceMul, Nat.reduceSub, Int.reduceToNat, Int.reduceNeg, cF]
  repeat' (first
    | (refine RgK.mk rfl ?_; simp -dsimp only [go_sem, reduceIte, reduceCtorEq, Nat.reduceEqDiff, Nat.reduceLT, Nat.reduceLeDiff, Nat.reduceAdd, Nat.reduceMul, Nat.reduceSub, Int.reduceToNat, Int.reduceNeg, cF])
    | (refine Br.mk (fun h => ?_) (fun h => ?_) <;> simp -dsimp only [go_sem, reduceIte, reduceCtorEq, Nat.reduceEqDiff, Nat.reduceLT, Nat.reduceLeDiff, Nat.reduceAdd, Nat.reduceMul, Nat.reduceSub, Int.reduceToNat, Int.reduceNeg, h, cF])
    | (refine CallK.flat (by first | exact l00In _ _ _) rfl ?_; simp -dsimp only [go_sem, reduceIte, reduceCtorEq, Nat.reduceEqDiff, Nat.reduceLT, Nat.reduceLeDiff, Nat.reduceAdd, Nat.reduceMul, Nat.reduceSub, Int.reduceToNat, Int.reduceNeg, cF])
    | (refine CallK.pure (by first | exact l00In _ _ _) ?_; simp -dsimp only [go_sem, reduceIte, reduceCtorEq, Nat.reduceEqDiff, Nat.reduceLT, Nat.reduceLeDiff, Nat.reduceAdd, Nat.reduceMul, Nat.reduceSub, Int.reduceToNat, Int.reduceNeg, cF])
    | (refine And.intro (by first | rfl | omega | decide | (refine ⟨?_, ?_⟩ <;> (first | rfl | omega | decide)) | (refine ⟨?_, ?_, ?_⟩ <;> (first | rfl | omega | decide)) | (refine ⟨?_, ?_, ?_, ?_⟩ <;> (first | rfl | omega | decide))) ?_)
    | fail)
  all_goals (first | (simp_all [isF]; done) | (refine ret_eq ?_; grind [isF, inB]))

end Go.Proofs.YtgeeipfdkamhmaaDoor
