/- Decks that are matched: the program and the reference. -/
import Derived.Test.YtgeeipfdkamhmaaGreatDoorXwQf
import Derived.Test.YtgeeipfdkamhmaaGreatDoorEtR
namespace Go.Proofs.YtgeeipfdkamhmaaGreatDoor
open Go.Vs
set_option linter.unusedSimpArgs false
set_option linter.unusedVariables false
attribute [local irreducible] Vs.Fn chOK areCh chTo chAt l03 chB rk cd3 chI stp stpTo flt idxP zR clrL
attribute [local irreducible] keyC
/-- a card of an equal field is among these -/
def hasE (fr to : Int) (o : List (List Int)) (x : List Int) : Bool := o.any fun c => cmF fr to c x == 0
def mat (fr to : Int) (l o : List (List Int)) (e : Bool) : List (List Int) := flt (fun x => !(hasE fr to o x == e)) l
theorem match11 (x : List Int) (o : List (List Int)) (fr to : Int) (e : Bool) (hx : okF fr to x) (ho : ∀ c, c ∈ o → okF fr to c) (hl : o.length ≤ 1048576) : Vs.Fn Tryz.prog F.impl_MatchDecks_1_1 [] [.agg (cC x), .ro [.sl 1 (E cC o)], .ro (cFd fr to), .ro [.v (.bool e)]] (.v (.bool (!(hasE fr to o x == e)))) [] := by
  refine Cd.impl_MatchDecks_1_1_ok.fn0 Tryz.mixed Cd.impl_MatchDecks_1_1_nt Cd.impl_MatchDecks_1_1_rs rfl fun X => ?_
  unfold Cd.impl_MatchDecks_1_1
  simp -dsimp only [go_sem, reduceIte, reduceCtorEq, Nat.reduceEqDiff, Nat.reduceLT, Nat.reduceLeDiff, Nat.reduceAdd, Nat.reduceMul, Nat.reduceSub, Int.reduceToNat, Int.reduceNeg, cC, cFd, List.replicate_succ, List.replicate_zero, List.flatten_cons, List.flatten_nil, List.cons_append, List.nil_append, List.set_cons_zero, List.set_cons_succ, List.length_cons, List.length_nil, List.length_set]
  repeat' (first
    | (refine RgK.mk rfl ?_; simp -dsimp only [go_sem, reduceIte, reduceCtorEq, Nat.reduceEqDiff, Nat.reduceLT, Nat.reduceLeDiff, Nat.reduceAdd, Nat.reduceMul, Nat.reduceSub, Int.reduceToNat, Int.reduceNeg, cC, cFd, List.replicate_succ, List.replicate_zero, List.flatten_cons, List.flatten_nil, List.cons_append, List.nil_append, List.set_cons_zero, List.set_cons_succ, List.length_cons, List.length_nil, List.length_set])
    | (refine Br.mk (fun h => ?_) (fun h => ?_) <;> simp -dsimp only [go_sem, reduceIte, reduceCtorEq, Nat.reduceEqDiff, Nat.reduceLT, Nat.reduceLeDiff, Nat.reduceAdd, Nat.reduceMul, Nat.reduceSub, Int.reduceToNat, Int.reduceNeg, h, cC, cFd, List.replicate_succ, List.replicate_zero, List.flatten_cons, List.flatten_nil, List.cons_append, List.nil_append, List.set_cons_zero, List.set_cons_succ, List.length_cons, List.length_nil, List.length_set])
    | (refine CallK.flat (by first | exact hasEqual o x fr to hx ho hl) rfl ?_; simp -dsimp only [go_sem, reduceIte, reduceCtorEq, Nat.reduceEqDiff, Nat.reduceLT, Nat.reduceLeDiff, Nat.reduceAdd, Nat.reduceMul, Nat.reduceSub, Int.reduceToNat, Int.reduceNeg, cC, cFd, List.replicate_succ, List.replicate_zero, List.flatten_cons, List.flatten_nil, List.cons_append, List.nil_append, List.set_cons_zero, List.set_cons_succ, List.length_cons, List.length_nil, List.length_set])
    | (refine CallK.pure (by first | exact hasEqual o x fr to hx ho hl) ?_; simp -dsimp only [go_sem, reduceIte, reduceCtorEq, Nat.reduceEqDiff, Nat.reduceLT, Nat.reduceLeDiff, Nat.reduceAdd, Nat.reduceMul, Nat.reduceSub, Int.reduceToNat, Int.reduceNeg, cC, cFd, List.replicate_succ, List.replicate_zero, List.flatten_cons, List.flatten_nil, List.cons_append, List.nil_append, List.set_cons_zero, List.set_cons_succ, List.length_cons, List.length_nil, List.length_set])
    | (refine And.intro (by first | rfl | omega | decide | (refine ⟨?_, ?_⟩ <;> (first | rfl | omega | decide)) | (refine ⟨?_, ?_, ?_⟩ <;> (first | rfl | omega | decide)) | (refine ⟨?_, ?_, ?_, ?_⟩ <;> (first | rfl | omega | decide))) ?_)
    | fail)
  all_goals (simp_all [hasE])

theorem CallK.borL {P : Program} {f : FuncId} {b : Blk} {ys : List AV} {L : List Vs.Name} {d : Option Nat} {σ : St} {n : Vs.Name} {K : St → Prop} {t : Tag K} {r : AV} {hout : List (Option Blk)} (hfn : Vs.Fn P f [b] ys r hout) (hfr : freshAll (d.getD 0) 1 hout.length σ = true)
    (hK : K ⟨put d (rn (phi [n] (d.getD 0) hout.length) r) σ.s, aftL σ.h [n] (d.getD 0) hout true L⟩) : CallK P f [b] ys L d σ [n] K t :=
  ⟨r, hout, true, hfn, fun h => (by cases h), hfr, hK⟩
theorem row_take (m : List (List Int)) (k : Nat) : (E cC m ++ zR k).take m.length = E cC m := by
  have : m.length = (E cC m).length := (E_len ..).symm
  rw [this, List.take_left']
  rfl
theorem match1 (l o : List (List Int)) (fr to : Int) (e : Bool) (hs : ∀ x, x ∈ l → x.length ≤ 1048576) (hl : l.length ≤ 1048576) (ho2 : o.length ≤ 1048576) (hx : ∀ c, c ∈ l → okF fr to c) (ho : ∀ c, c ∈ o → okF fr to c) :
    Vs.Fn Tryz.prog F.impl_MatchDecks_1 [] [.sl 1 (E cC l), .sl 1 (E cC o), .v (.bool e), .ro (cFd fr to)] (.sl 1 (E cC (mat fr to l o e))) [] := by
  have hd := delF (fun x => !(hasE fr to o x == e)) F.impl_MatchDecks_1_1 [.ro [.sl 1 (E cC o)], .ro (cFd fr to), .ro [.v (.bool e)]] rfl l hl (fun x hx' => match11 x o fr to e (hx x hx') ho ho2)
  refine Cd.impl_MatchDecks_1_ok.fn0 Tryz.mixed Cd.impl_MatchDecks_1_nt Cd.impl_MatchDecks_1_rs rfl fun X => ?_
  unfold Cd.impl_MatchDecks_1
  simp -dsimp only [go_sem, reduceIte, reduceCtorEq, Nat.reduceEqDiff, Nat.reduceLT, Nat.reduceLeDiff, Nat.reduceAdd, Nat.reduceMul, Nat.reduceSub, Int.reduceToNat, Int.reduceNeg, cC, cFd, List.replicate_succ, List.replicate_zero, List.flatten_cons, List.flatten_nil, List.cons_append, List.nil_append, List.set_cons_zero, List.set_cons_succ, List.length_cons, List.length_nil, List.length_set]
  refine CallK.own (newDeck l hs hl) rfl ?_
  simp -dsimp only [go_sem, reduceIte, reduceCtorEq, Nat.reduceEqDiff, Nat.reduceLT, Nat.reduceLeDiff, Nat.reduceAdd, Nat.reduceMul, Nat.reduceSub, Int.reduceToNat, Int.reduceNeg, cC, cFd, List.replicate_succ, List.replicate_zero, List.flatten_cons, List.flatten_nil, List.cons_append, List.nil_append, List.set_cons_zero, List.set_cons_succ, List.length_cons, List.length_nil, List.length_set, List.flatMap_cons, List.flatMap_nil, cellN, topN, nestN, List.getD_cons_zero, List.append_nil]
  refine ⟨rfl, CallK.borL hd rfl ?_⟩
  simp -dsimp only [go_sem, reduceIte, reduceCtorEq, Nat.reduceEqDiff, Nat.reduceLT, Nat.reduceLeDiff, Nat.reduceAdd, Nat.reduceMul, Nat.reduceSub, Int.reduceToNat, Int.reduceNeg, cC, cFd, List.replicate_succ, List.replicate_zero, List.flatten_cons, List.flatten_nil, List.cons_append, List.nil_append, List.set_cons_zero, List.set_cons_succ, List.length_cons, List.length_nil, List.length_set]
  have hr := row_take (flt (fun x => !(hasE fr to o x == e)) l) (l.length - (flt (fun x => !(hasE fr to o x == e)) l).length)
  have hlen : (flt (fun x => !(hasE fr to o x == e)) l).length ≤ l.length := flt_len ..
  have hm : mat fr to l o e = flt (fun x => !(hasE fr to o x == e)) l := rfl
  rw [hm]
  simp -dsimp only [go_sem, reduceIte, reduceCtorEq, Nat.reduceEqDiff, Nat.reduceLT, Nat.reduceLeDiff, Nat.reduceAdd, Nat.reduceMul, Nat.reduceSub, Int.reduceToNat, Int.reduceNeg, List.getElem?_cons_zero, List.drop_zero, E_len, List.length_append, hr]
  exact ⟨_, _, rfl, rfl⟩

def mtC (fr to : Int) (a b : List (List Int)) : Int := if colC fr to [a, b] = 0 then (if ascB fr to a && ascB fr to b then 0 else 6) else colC fr to [a, b]
def mtL (fr to : Int) (a b : List (List Int)) : List (List (List Int)) := [mat fr to a b true, mat fr to b a true, mat fr to a b false, mat fr to b a false]
def mtV (fr to : Int) (a b : List (List Int)) : AV := if mtC fr to a b = 0 then .sl 1 (E cD (mtL fr to a b)) else .v (.slice none 0 0)
theorem colC_ok {fr to : Int} {a b : List (List Int)} (h : colC fr to [a, b] = 0) : (deckB a = true ∧ deckB b = true) ∧ (fldB fr to (widB a) = true ∧ fldB fr to (widB b) = true) ∧ allCh fr to a = true ∧ allCh fr to b = true := by
  unfold colC at h
  split at h
  · rename_i h1
    split at h
    · rename_i h2
      split at h
      · rename_i h3
        simp only [List.all_cons, List.all_nil, Bool.and_true, Bool.and_eq_true] at h1 h2 h3
        exact ⟨h1, h2, h3⟩
      · cases h
    · cases h
  · cases h
theorem smallK2 {a b : List (List Int)} (ha : smallC a) (hb : smallC b) : smallK [a, b] := by
  refine ⟨by simp, fun d hd => ?_⟩
  simp only [List.mem_cons, List.not_mem_nil, or_false] at hd
  rcases hd with rfl | rfl <;> assumption
attribute [local irreducible] mat colC ascB
set_option maxHeartbeats 1000000 in
theorem impl_MatchDecks (a b : List (List Int)) (fr to : Int) (ha : smallC a) (hb : smallC b) : Vs.Fn Tryz.prog F.impl_MatchDecks [] [.sl 1 (E cC a), .sl 1 (E cC b), .agg (cFd fr to)] (.tup [mtV fr to a b, .v (.int .i64 (mtC fr to a b))]) [] := by
  have e2 : [[AV.sl 1 (E cC a)], [AV.sl 1 (E cC b)]] = E cD [a, b] := rfl
  by_cases hc : colC fr to [a, b] = 0
  rotate_left
  · have e1 : (colC fr to [a, b] != 0) = true := by simp [hc]
    refine Cd.impl_MatchDecks_ok.fn0 Tryz.mixed Cd.impl_MatchDecks_nt Cd.impl_MatchDecks_rs rfl fun X => ?_
    unfold Cd.impl_MatchDecks
    simp -dsimp only [go_sem, reduceIte, reduceCtorEq, Nat.reduceEqDiff, Nat.reduceLT, Nat.reduceLeDiff, Nat.reduceAdd, Nat.reduceMul, Nat.reduceSub, Int.reduceToNat, Int.reduceNeg, cFd, List.replicate_succ, List.replicate_zero, List.flatten_cons, List.flatten_nil, List.cons_append, List.nil_append, List.set_cons_zero, List.set_cons_succ, List.length_cons, List.length_nil, List.length_set, e2, List.take_succ_cons, List.take_zero, List.drop_succ_cons, List.drop_zero, e1]
    repeat' (first
      | (refine RgK.mk rfl ?_; simp -dsimp only [go_sem, reduceIte, reduceCtorEq, Nat.reduceEqDiff, Nat.reduceLT, Nat.reduceLeDiff, Nat.reduceAdd, Nat.reduceMul, Nat.reduceSub, Int.reduceToNat, Int.reduceNeg, cFd, List.replicate_succ, List.replicate_zero, List.flatten_cons, List.flatten_nil, List.cons_append, List.nil_append, List.set_cons_zero, List.set_cons_succ, List.length_cons, List.length_nil, List.length_set, e2, List.take_succ_cons, List.take_zero, List.drop_succ_cons, List.drop_zero, e1])
      | (refine Br.mk (fun h => ?_) (fun h => ?_) <;> simp -dsimp only [go_sem, reduceIte, reduceCtorEq, Nat.reduceEqDiff, Nat.reduceLT, Nat.reduceLeDiff, Nat.reduceAdd, Nat.reduceMul, Nat.reduceSub, Int.reduceToNat, Int.reduceNeg, h, cFd, List.replicate_succ, List.replicate_zero, List.flatten_cons, List.flatten_nil, List.cons_append, List.nil_append, List.set_cons_zero, List.set_cons_succ, List.length_cons, List.length_nil, List.length_set, e2, List.take_succ_cons, List.take_zero, List.drop_succ_cons, List.drop_zero, e1])
      | (refine CallK.flat (by first | exact collate0 fr to [a, b] (smallK2 ha hb)) rfl ?_; simp -dsimp only [go_sem, reduceIte, reduceCtorEq, Nat.reduceEqDiff, Nat.reduceLT, Nat.reduceLeDiff, Nat.reduceAdd, Nat.reduceMul, Nat.reduceSub, Int.reduceToNat, Int.reduceNeg, cFd, List.replicate_succ, List.replicate_zero, List.flatten_cons, List.flatten_nil, List.cons_append, List.nil_append, List.set_cons_zero, List.set_cons_succ, List.length_cons, List.length_nil, List.length_set, e2, List.take_succ_cons, List.take_zero, List.drop_succ_cons, List.drop_zero, e1])
      | (refine CallK.pure (by first | exact collate0 fr to [a, b] (smallK2 ha hb)) ?_; simp -dsimp only [go_sem, reduceIte, reduceCtorEq, Nat.reduceEqDiff, Nat.reduceLT, Nat.reduceLeDiff, Nat.reduceAdd, Nat.reduceMul, Nat.reduceSub, Int.reduceToNat, Int.reduceNeg, cFd, List.replicate_succ, List.replicate_zero, List.flatten_cons, List.flatten_nil, List.cons_append, List.nil_append, List.set_cons_zero, List.set_cons_succ, List.length_cons, List.length_nil, List.length_set, e2, List.take_succ_cons, List.take_zero, List.drop_succ_cons, List.drop_zero, e1])
      | (refine And.intro (by first | rfl | omega | decide | (refine ⟨?_, ?_⟩ <;> (first | rfl | omega | decide)) | (refine ⟨?_, ?_, ?_⟩ <;> (first | rfl | omega | decide)) | (refine ⟨?_, ?_, ?_, ?_⟩ <;> (first | rfl | omega | decide))) ?_)
      | fail)
    all_goals simp [mtV, mtC, hc]
  obtain ⟨⟨da, db⟩, ⟨fa, fb⟩, ca, cb⟩ := colC_ok hc
  have oa := okF_of da fa
  have ob := okF_of db fb
  cases hs : ascB fr to a && ascB fr to b
  · have hn : (!ascB fr to a || !ascB fr to b) = true := by
      cases h1 : ascB fr to a <;> cases h2 : ascB fr to b <;> simp_all
    refine Cd.impl_MatchDecks_ok.fn0 Tryz.mixed Cd.impl_MatchDecks_nt Cd.impl_MatchDecks_rs rfl fun X => ?_
    unfold Cd.impl_MatchDecks
    simp -dsimp only [go_sem, reduceIte, reduceCtorEq, Nat.reduceEqDiff, Nat.reduceLT, Nat.reduceLeDiff, Nat.reduceAdd, Nat.reduceMul, Nat.reduceSub, Int.reduceToNat, Int.reduceNeg, cFd, List.replicate_succ, List.replicate_zero, List.flatten_cons, List.flatten_nil, List.cons_append, List.nil_append, List.set_cons_zero, List.set_cons_succ, List.length_cons, List.length_nil, List.length_set, e2, List.take_succ_cons, List.take_zero, List.drop_succ_cons, List.drop_zero, hc]
    repeat' (first
      | (refine RgK.mk rfl ?_; simp -dsimp only [go_sem, reduceIte, reduceCtorEq, Nat.reduceEqDiff, Nat.reduceLT, Nat.reduceLeDiff, Nat.reduceAdd, Nat.reduceMul, Nat.reduceSub, Int.reduceToNat, Int.reduceNeg, cFd, List.replicate_succ, List.replicate_zero, List.flatten_cons, List.flatten_nil, List.cons_append, List.nil_append, List.set_cons_zero, List.set_cons_succ, List.length_cons, List.length_nil, List.length_set, e2, List.take_succ_cons, List.take_zero, List.drop_succ_cons, List.drop_zero, hc])
      | (refine Br.mk (fun h => ?_) (fun h => ?_) <;> simp -dsimp only [go_sem, reduceIte, reduceCtorEq, Nat.reduceEqDiff, Nat.reduceLT, Nat.reduceLeDiff, Nat.reduceAdd, Nat.reduceMul, Nat.reduceSub, Int.reduceToNat, Int.reduceNeg, h, cFd, List.replicate_succ, List.replicate_zero, List.flatten_cons, List.flatten_nil, List.cons_append, List.nil_append, List.set_cons_zero, List.set_cons_succ, List.length_cons, List.length_nil, List.length_set, e2, List.take_succ_cons, List.take_zero, List.drop_succ_cons, List.drop_zero, hc])
      | (refine CallK.flat (by first | exact collate0 fr to [a, b] (smallK2 ha hb) | exact isAscending a fr to oa ha.1 | exact isAscending b fr to ob hb.1) rfl ?_; simp -dsimp only [go_sem, reduceIte, reduceCtorEq, Nat.reduceEqDiff, Nat.reduceLT, Nat.reduceLeDiff, Nat.reduceAdd, Nat.reduceMul, Nat.reduceSub, Int.reduceToNat, Int.reduceNeg, cFd, List.replicate_succ, List.replicate_zero, List.flatten_cons, List.flatten_nil, List.cons_append, List.nil_append, List.set_cons_zero, List.set_cons_succ, List.length_cons, List.length_nil, List.length_set, e2, List.take_succ_cons, List.take_zero, List.drop_succ_cons, List.drop_zero, hc])
      | (refine CallK.pure (by first | exact collate0 fr to [a, b] (smallK2 ha hb) | exact isAscending a fr to oa ha.1 | exact isAscending b fr to ob hb.1) ?_; simp -dsimp only [go_sem, reduceIte, reduceCtorEq, Nat.reduceEqDiff, Nat.reduceLT, Nat.reduceLeDiff, Nat.reduceAdd, Nat.reduceMul, Nat.reduceSub, Int.reduceToNat, Int.reduceNeg, cFd, List.replicate_succ, List.replicate_zero, List.flatten_cons, List.flatten_nil, List.cons_append, List.nil_append, List.set_cons_zero, List.set_cons_succ, List.length_cons, List.length_nil, List.length_set, e2, List.take_succ_cons, List.take_zero, List.drop_succ_cons, List.drop_zero, hc])
      | (refine And.intro (by first | rfl | omega | decide | (refine ⟨?_, ?_⟩ <;> (first | rfl | omega | decide)) | (refine ⟨?_, ?_, ?_⟩ <;> (first | rfl | omega | decide)) | (refine ⟨?_, ?_, ?_, ?_⟩ <;> (first | rfl | omega | decide))) ?_)
      | fail)
    all_goals first | (simp_all [mtV, mtC]; done) | (refine ret_eq ?_; simp_all [mtV, mtC]; done) | trace_state
  have h1 : ascB fr to a = true := by simp only [Bool.and_eq_true] at hs; exact hs.1
  have h2 : ascB fr to b = true := by simp only [Bool.and_eq_true] at hs; exact hs.2
  refine Cd.impl_MatchDecks_ok.fn0 Tryz.mixed Cd.impl_MatchDecks_nt Cd.impl_MatchDecks_rs rfl fun X => ?_
  unfold Cd.impl_MatchDecks
  simp -dsimp only [go_sem, reduceIte, reduceCtorEq, Nat.reduceEqDiff, Nat.reduceLT, Nat.reduceLeDiff, Nat.reduceAdd, Nat.reduceMul, Nat.reduceSub, Int.reduceToNat, Int.reduceNeg, cFd, List.replicate_succ, List.replicate_zero, List.flatten_cons, List.flatten_nil, List.cons_append, List.nil_append, List.set_cons_zero, List.set_cons_succ, List.length_cons, List.length_nil, List.length_set, e2, List.take_succ_cons, List.take_zero, List.drop_succ_cons, List.drop_zero, hc, h1, h2]
  repeat' (first
    | (refine RgK.mk rfl ?_; simp -dsimp only [go_sem, reduceIte, reduceCtorEq, Nat.reduceEqDiff, Nat.reduceLT, Nat.reduceLeDiff, Nat.reduceAdd, Nat.reduceMul, Nat.reduceSub, Int.reduceToNat, Int.reduceNeg, cFd, List.replicate_succ, List.replicate_zero, List.flatten_cons, List.flatten_nil, List.cons_append, List.nil_append, List.set_cons_zero, List.set_cons_succ, List.length_cons, List.length_nil, List.length_set, e2, List.take_succ_cons, List.take_zero, List.drop_succ_cons, List.drop_zero, hc, h1, h2])
    | (refine Br.mk (fun h => ?_) (fun h => ?_) <;> simp -dsimp only [go_sem, reduceIte, reduceCtorEq, Nat.reduceEqDiff, Nat.reduceLT, Nat.reduceLeDiff, Nat.reduceAdd, Nat.reduceMul, Nat.reduceSub, Int.reduceToNat, Int.reduceNeg, h, cFd, List.replicate_succ, List.replicate_zero, List.flatten_cons, List.flatten_nil, List.cons_append, List.nil_append, List.set_cons_zero, List.set_cons_succ, List.length_cons, List.length_nil, List.length_set, e2, List.take_succ_cons, List.take_zero, List.drop_succ_cons, List.drop_zero, hc, h1, h2])
    | (refine CallK.flat (by first | exact collate0 fr to [a, b] (smallK2 ha hb) | exact isAscending a fr to oa ha.1 | exact isAscending b fr to ob hb.1 | exact match1 a b fr to true ha.2 ha.1 hb.1 oa ob | exact match1 b a fr to true hb.2 hb.1 ha.1 ob oa | exact match1 a b fr to false ha.2 ha.1 hb.1 oa ob | exact match1 b a fr to false hb.2 hb.1 ha.1 ob oa) rfl ?_; simp -dsimp only [go_sem, reduceIte, reduceCtorEq, Nat.reduceEqDiff, Nat.reduceLT, Nat.reduceLeDiff, Nat.reduceAdd, Nat.reduceMul, Nat.reduceSub, Int.reduceToNat, Int.reduceNeg, cFd, List.replicate_succ, List.replicate_zero, List.flatten_cons, List.flatten_nil, List.cons_append, List.nil_append, List.set_cons_zero, List.set_cons_succ, List.length_cons, List.length_nil, List.length_set, e2, List.take_succ_cons, List.take_zero, List.drop_succ_cons, List.drop_zero, hc, h1, h2])
    | (refine CallK.pure (by first | exact collate0 fr to [a, b] (smallK2 ha hb) | exact isAscending a fr to oa ha.1 | exact isAscending b fr to ob hb.1 | exact match1 a b fr to true ha.2 ha.1 hb.1 oa ob | exact match1 b a fr to true hb.2 hb.1 ha.1 ob oa | exact match1 a b fr to false ha.2 ha.1 hb.1 oa ob | exact match1 b a fr to false hb.2 hb.1 ha.1 ob oa) ?_; simp -dsimp only [go_sem, reduceIte, reduceCtorEq, Nat.reduceEqDiff, Nat.reduceLT, Nat.reduceLeDiff, Nat.reduceAdd, Nat.reduceMul, Nat.reduceSub, Int.reduceToNat, Int.reduceNeg, cFd, List.replicate_succ, List.replicate_zero, List.flatten_cons, List.flatten_nil, List.cons_append, List.nil_append, List.set_cons_zero, List.set_cons_succ, List.length_cons, List.length_nil, List.length_set, e2, List.take_succ_cons, List.take_zero, List.drop_succ_cons, List.drop_zero, hc, h1, h2])
    | (refine And.intro (by first | rfl | omega | decide | (refine ⟨?_, ?_⟩ <;> (first | rfl | omega | decide)) | (refine ⟨?_, ?_, ?_⟩ <;> (first | rfl | omega | decide)) | (refine ⟨?_, ?_, ?_, ?_⟩ <;> (first | rfl | omega | decide))) ?_)
    | fail)
  all_goals (have hz : mtC fr to a b = 0 := by simp [mtC, hc, hs]
             have hv : mtV fr to a b = .sl 1 (E cD (mtL fr to a b)) := by simp [mtV, hz]
             rw [hz, hv]

             first | exact ⟨_, _, rfl, rfl⟩ | (refine ret_eq rfl))
end Go.Proofs.YtgeeipfdkamhmaaGreatDoor
