/- Control totals read from a text: the program and the reference. -/
import Derived.Test.YtpdmjalhahblmaaDoorVsB
import Derived.Test.YtpdmjalhahblmaaDoorXwHb
namespace Go.Proofs.YtpdmjalhahblmaaDoor
open Go.Vs
set_option linter.unusedSectionVars false
variable [Rd]
set_option linter.unusedSimpArgs false
set_option linter.unusedVariables false
attribute [local irreducible] Vs.Fn dcl
def CdS.spec_l01Split : ACode :=
  .seq (.region [⟨some 4, .mv (.const (.slice none 0 0)), none⟩] [0, 1] []) <|
  .seq (.naming 5 (
     .region [⟨some 8, .bslice 1 0 [.v (.string ⟨#[]⟩)] [], none⟩,
       ⟨some 5, .mv (.tmp 8), none⟩] [0, 1, 5] [])) <|
  .seq (.region [⟨some 6, .mv (.const (.int .i64 (0))), none⟩] [0, 1, 5, 6] []) <|
  .seq (.seq (.region [⟨some 7, .mv (.const (.int .i64 (0))), none⟩] [0, 1, 5, 6, 7] []) <|
   .block 0 (
     .loop (
       .seq (.seq (.region [⟨some 9, .mv (.tmp 7), none⟩,
           ⟨some 10, .mv (.tmp 0), none⟩,
           ⟨some 11, .lenS (.tmp 10), none⟩,
           ⟨some 12, .bin .lss (.tmp 9) (.tmp 11), none⟩] [0, 1, 5, 6, 7, 12] []) <|
        .cond (.tmp 12)
          (.skip)
          (.exit 0)) <|
       .seq (.block 1 (
          .seq (.region [⟨some 15, .mv (.tmp 0), none⟩,
             ⟨some 16, .mv (.tmp 7), none⟩,
             ⟨some 17, .idxStr (.tmp 15) (.tmp 16), none⟩,
             ⟨some 18, .mv (.tmp 1), none⟩,
             ⟨some 19, .bin .eql (.tmp 17) (.tmp 18), none⟩] [0, 1, 5, 6, 7, 19] []) <|
          .cond (.tmp 19)
            (.seq (.naming 5 (
               .region [⟨some 20, .mv (.tmp 5), none⟩,
                 ⟨some 21, .mv (.tmp 0), none⟩,
                 ⟨some 22, .mv (.tmp 6), none⟩,
                 ⟨some 23, .mv (.tmp 7), none⟩,
                 ⟨some 24, .sstr (.tmp 21) (some (.tmp 22)) (some (.tmp 23)), none⟩,
                 ⟨some 25, .bslice 1 1 [.v (.string ⟨#[]⟩)] [(0, (.tmp 24))], none⟩,
                 ⟨some 26, .append 1 16 (.tmp 20) (.tmp 25), none⟩,
                 ⟨some 5, .mv (.tmp 26), none⟩] [0, 1, 5, 7] [])) <|
            .region [⟨some 27, .mv (.tmp 7), none⟩,
              ⟨some 28, .bin .add (.tmp 27) (.const (.int .i64 (1))), none⟩,
              ⟨some 6, .mv (.tmp 28), none⟩] [0, 1, 5, 6, 7] [])
            (.skip))) <|
       .region [⟨some 13, .mv (.tmp 7), none⟩,
         ⟨some 14, .bin .add (.tmp 13) (.const (.int .i64 (1))), none⟩,
         ⟨some 7, .mv (.tmp 14), none⟩] [0, 1, 5, 6, 7] []))) <|
  .seq (.region [⟨some 29, .mv (.tmp 5), none⟩,
     ⟨some 30, .mv (.tmp 0), none⟩,
     ⟨some 31, .mv (.tmp 6), none⟩,
     ⟨some 32, .sstr (.tmp 30) (some (.tmp 31)) none, none⟩,
     ⟨some 33, .bslice 1 1 [.v (.string ⟨#[]⟩)] [(0, (.tmp 32))], none⟩,
     ⟨some 34, .append 1 16 (.tmp 29) (.tmp 33), none⟩,
     ⟨some 4, .mv (.tmp 34), none⟩] [4] []) <|
  .ret
theorem CdS.spec_l01Split_ok : CodeIsR Tryd.prog 7 Tryd.f7 CdS.spec_l01Split := ⟨Tryd.func7, by kernel_rfl, by decide +kernel⟩

theorem bmk (x : ByteArray) : (⟨x.data.toList.toArray⟩ : ByteArray) = x := by
  obtain ⟨⟨l⟩⟩ := x
  rfl
theorem wd_of {s : ByteArray} {L : List ByteArray} (h : L.map (fun x => x.data.toList) = spL s.data.toList) : L = wdS s := by
  unfold wdS
  rw [← h, List.map_map]
  exact ((List.map_congr_left fun x _ => bmk x).trans (List.map_id _)).symm
theorem extL (s : ByteArray) (a b : Nat) : (s.extract a b).data.toList = (s.data.toList.drop a).take (b - a) := Lib.extract_data s a b
set_option maxHeartbeats 2000000 in
theorem l01Split (s : ByteArray) (hs : s.size ≤ 1048576) : Vs.Fn Tryd.prog F.spec_l01Split [] [.v (.string s), .v (.int .u8 32)] (.sl 1 (E cW (wdS s))) [] := by
  have hlen : s.data.toList.length = s.size := by rw [Array.length_toList]; rfl
  refine CdS.spec_l01Split_ok.fn0 Tryd.mixed Cd.spec_l01Split_nt Cd.spec_l01Split_rs rfl fun X => ?_
  unfold CdS.spec_l01Split
  simp -dsimp only [go_sem, reduceIte, reduceCtorEq, Nat.reduceEqDiff, Nat.reduceLT, Nat.reduceLeDiff, Nat.reduceAdd, Nat.reduceMul, Nat.reduceSub, Int.reduceToNat, Int.reduceNeg, hlen, Int.toNat_natCast, List.replicate_succ, List.replicate_zero, List.flatten_cons, List.flatten_nil, List.cons_append, List.nil_append, List.set_cons_zero, List.set_cons_succ, List.length_cons, List.length_nil, List.length_set, List.take_succ_cons, List.take_zero]
  repeat' (first
    | (refine RgK.mk rfl ?_; simp -dsimp only [go_sem, reduceIte, reduceCtorEq, Nat.reduceEqDiff, Nat.reduceLT, Nat.reduceLeDiff, Nat.reduceAdd, Nat.reduceMul, Nat.reduceSub, Int.reduceToNat, Int.reduceNeg, Int.toNat_natCast, List.replicate_succ, List.replicate_zero, List.flatten_cons, List.flatten_nil, List.cons_append, List.nil_append, List.set_cons_zero, List.set_cons_succ, List.length_cons, List.length_nil, List.length_set, List.take_succ_cons, List.take_zero])
    | (refine Br.mk (fun h => ?_) (fun h => ?_) <;> simp -dsimp only [go_sem, reduceIte, reduceCtorEq, Nat.reduceEqDiff, Nat.reduceLT, Nat.reduceLeDiff, Nat.reduceAdd, Nat.reduceMul, Nat.reduceSub, Int.reduceToNat, Int.reduceNeg, h, Int.toNat_natCast, List.replicate_succ, List.replicate_zero, List.flatten_cons, List.flatten_nil, List.cons_append, List.nil_append, List.set_cons_zero, List.set_cons_succ, List.length_cons, List.length_nil, List.length_set, List.take_succ_cons, List.take_zero])
    | (refine And.intro (by first | rfl | omega | decide | exact ⟨by omega, by omega⟩ | exact ⟨rfl, by omega, by omega⟩ | exact ⟨by omega, by omega, by omega⟩ | (refine ⟨?_, ?_⟩ <;> (first | rfl | omega | decide | exact ⟨by omega, by omega⟩ | exact ⟨rfl, by omega, by omega⟩ | exact ⟨by omega, by omega, by omega⟩)) | (refine ⟨?_, ?_, ?_⟩ <;> (first | rfl | omega | decide | exact ⟨by omega, by omega⟩ | exact ⟨rfl, by omega, by omega⟩ | exact ⟨by omega, by omega, by omega⟩)) | (refine ⟨?_, ?_, ?_, ?_⟩ <;> (first | rfl | omega | decide | exact ⟨by omega, by omega⟩ | exact ⟨rfl, by omega, by omega⟩ | exact ⟨by omega, by omega, by omega⟩))) ?_; try simp -dsimp only [go_sem, reduceIte, reduceCtorEq, Nat.reduceEqDiff, Nat.reduceLT, Nat.reduceLeDiff, Nat.reduceAdd, Nat.reduceMul, Nat.reduceSub, Int.reduceToNat, Int.reduceNeg, Int.toNat_natCast, List.replicate_succ, List.replicate_zero, List.flatten_cons, List.flatten_nil, List.cons_append, List.nil_append, List.set_cons_zero, List.set_cons_succ, List.length_cons, List.length_nil, List.length_set, List.take_succ_cons, List.take_zero])
    | fail)

  refine LoopK.at (drawn_ok Tryd.mixed) (X := { x : Nat × Nat × List ByteArray // x.2.1 ≤ x.1 ∧ x.1 ≤ s.size ∧ x.2.2.length ≤ x.1 ∧ (32 : UInt8) ∉ (s.data.toList.drop x.2.1).take (x.1 - x.2.1) ∧ (x.2.2.map fun y => y.data.toList) ++ spL (s.data.toList.drop x.2.1) = spL s.data.toList }) (fun x => [(5, .loc (.t 5 0) 0 x.1.2.2.length), (6, .v (.int .i64 (x.1.2.1 : Nat))), (7, .v (.int .i64 (x.1.1 : Nat)))]) (fun x => [(.t 5 0, .arr 1 (E cW x.1.2.2) false)]) (fun x => s.size - x.1.1) ⟨(0, 0, []), by simp⟩ ?_ ?_
  · simp [Vs.LeL, Vs.look, Vs.hlook, Vs.sput, Vs.sputs, Vs.hset, Vs.hputs, Vs.E]
  · rintro ⟨⟨i, fr, acc⟩, h1, h2, h3, h4, h5⟩
    dsimp only at h1 h2 h3 h4 h5
    have hal : (E cW acc).length = acc.length := E_len _
    simp -dsimp only [go_sem, reduceIte, reduceCtorEq, Nat.reduceEqDiff, Nat.reduceLT, Nat.reduceLeDiff, Nat.reduceAdd, Nat.reduceMul, Nat.reduceSub, Int.reduceToNat, Int.reduceNeg, hal, Int.toNat_natCast, List.replicate_succ, List.replicate_zero, List.flatten_cons, List.flatten_nil, List.cons_append, List.nil_append, List.set_cons_zero, List.set_cons_succ, List.length_cons, List.length_nil, List.length_set, List.take_succ_cons, List.take_zero]
    refine Br.mk (fun hc => ?_) fun hc => ?_
    · have hlt : i < s.size := by have := of_decide_eq_true hc; omega
      have hw := wrap_succ hlt (by omega)
      have hil : i < s.data.toList.length := by omega
      have e : s.data.toList.getD i 0 = s.data.toList[i] := by rw [List.getD_eq_getElem?_getD, List.getElem?_eq_getElem hil]; rfl
      have hap : E cW acc ++ [[.v (.string (s.extract fr i))]] = E cW (acc ++ [s.extract fr i]) := by rw [E_append]; rfl
      have hspl : s.data.toList.drop fr = (s.data.toList.drop fr).take (i - fr) ++ s.data.toList[i] :: s.data.toList.drop (i + 1) := by
        have h := List.take_append_drop (i - fr) (s.data.toList.drop fr)
        rw [List.drop_drop, show fr + (i - fr) = i by omega, List.drop_eq_getElem_cons hil] at h
        exact h.symm
      cases hb : (((s.data.toList.getD i 0).toNat : Int) == 32)
      · have hne : s.data.toList[i] ≠ 32 := fun h => by
          rw [e, h] at hb; simp at hb
        have h4' : (32 : UInt8) ∉ (s.data.toList.drop fr).take (i + 1 - fr) := by
          rw [show i + 1 - fr = (i - fr) + 1 by omega, take_succ (by rw [List.length_drop]; omega)]
          intro hm
          rcases List.mem_append.1 hm with h | h
          · exact h4 h
          · rw [List.mem_singleton, List.getElem_drop] at h
            have e2 : fr + (i - fr) = i := by omega
            simp only [e2] at h
            exact hne h.symm
        simp -dsimp only [go_sem, reduceIte, reduceCtorEq, Nat.reduceEqDiff, Nat.reduceLT, Nat.reduceLeDiff, Nat.reduceAdd, Nat.reduceMul, Nat.reduceSub, Int.reduceToNat, Int.reduceNeg, hw, hb, hal, Int.toNat_natCast, List.replicate_succ, List.replicate_zero, List.flatten_cons, List.flatten_nil, List.cons_append, List.nil_append, List.set_cons_zero, List.set_cons_succ, List.length_cons, List.length_nil, List.length_set, List.take_succ_cons, List.take_zero]
        repeat' (first
          | (refine RgK.mk rfl ?_; simp -dsimp only [go_sem, reduceIte, reduceCtorEq, Nat.reduceEqDiff, Nat.reduceLT, Nat.reduceLeDiff, Nat.reduceAdd, Nat.reduceMul, Nat.reduceSub, Int.reduceToNat, Int.reduceNeg, hw, hb, hal, Int.toNat_natCast, List.replicate_succ, List.replicate_zero, List.flatten_cons, List.flatten_nil, List.cons_append, List.nil_append, List.set_cons_zero, List.set_cons_succ, List.length_cons, List.length_nil, List.length_set, List.take_succ_cons, List.take_zero])
          | (refine Br.mk (fun h => ?_) (fun h => ?_) <;> simp -dsimp only [go_sem, reduceIte, reduceCtorEq, Nat.reduceEqDiff, Nat.reduceLT, Nat.reduceLeDiff, Nat.reduceAdd, Nat.reduceMul, Nat.reduceSub, Int.reduceToNat, Int.reduceNeg, h, hw, hb, hal, Int.toNat_natCast, List.replicate_succ, List.replicate_zero, List.flatten_cons, List.flatten_nil, List.cons_append, List.nil_append, List.set_cons_zero, List.set_cons_succ, List.length_cons, List.length_nil, List.length_set, List.take_succ_cons, List.take_zero])
          | (refine And.intro (by first | rfl | omega | decide | exact ⟨by omega, by omega⟩ | exact ⟨rfl, by omega, by omega⟩ | exact ⟨by omega, by omega, by omega⟩ | (refine ⟨?_, ?_⟩ <;> (first | rfl | omega | decide | exact ⟨by omega, by omega⟩ | exact ⟨rfl, by omega, by omega⟩ | exact ⟨by omega, by omega, by omega⟩)) | (refine ⟨?_, ?_, ?_⟩ <;> (first | rfl | omega | decide | exact ⟨by omega, by omega⟩ | exact ⟨rfl, by omega, by omega⟩ | exact ⟨by omega, by omega, by omega⟩)) | (refine ⟨?_, ?_, ?_, ?_⟩ <;> (first | rfl | omega | decide | exact ⟨by omega, by omega⟩ | exact ⟨rfl, by omega, by omega⟩ | exact ⟨by omega, by omega, by omega⟩))) ?_; try simp -dsimp only [go_sem, reduceIte, reduceCtorEq, Nat.reduceEqDiff, Nat.reduceLT, Nat.reduceLeDiff, Nat.reduceAdd, Nat.reduceMul, Nat.reduceSub, Int.reduceToNat, Int.reduceNeg, hw, hb, hal, Int.toNat_natCast, List.replicate_succ, List.replicate_zero, List.flatten_cons, List.flatten_nil, List.cons_append, List.nil_append, List.set_cons_zero, List.set_cons_succ, List.length_cons, List.length_nil, List.length_set, List.take_succ_cons, List.take_zero])
          | fail)

        all_goals first | omega | (refine ⟨⟨(i + 1, fr, acc), by simp only; omega, by simp only; omega, by simp only; omega, h4', h5⟩, ?_, by simp only; omega⟩; simp [Vs.LeL, Vs.look, Vs.hlook, Vs.sput, Vs.sputs, Vs.hset, Vs.hputs, hal]; done) | trace_state
      · have heq : s.data.toList[i] = 32 := by
          rw [e] at hb
          have h := beq_iff_eq.1 hb
          exact UInt8.toNat_inj.1 (by have h32 : (32 : UInt8).toNat = 32 := rfl; omega)
        have h5' : ((acc ++ [s.extract fr i]).map fun y => y.data.toList) ++ spL (s.data.toList.drop (i + 1)) = spL s.data.toList := by
          rw [← h5, List.map_append, List.append_assoc]
          congr 1
          rw [hspl, heq, spL_cut h4, List.map_cons, List.map_nil, extL]
          rfl
        have hal2 : (E cW (acc ++ [s.extract fr i])).length = acc.length + 1 := by rw [E_len, List.length_append]; rfl
        simp -dsimp only [go_sem, reduceIte, reduceCtorEq, Nat.reduceEqDiff, Nat.reduceLT, Nat.reduceLeDiff, Nat.reduceAdd, Nat.reduceMul, Nat.reduceSub, Int.reduceToNat, Int.reduceNeg, hw, hb, hal, hap, hal2, Int.toNat_natCast, List.replicate_succ, List.replicate_zero, List.flatten_cons, List.flatten_nil, List.cons_append, List.nil_append, List.set_cons_zero, List.set_cons_succ, List.length_cons, List.length_nil, List.length_set, List.take_succ_cons, List.take_zero]
        repeat' (first
          | (refine RgK.mk rfl ?_; simp -dsimp only [go_sem, reduceIte, reduceCtorEq, Nat.reduceEqDiff, Nat.reduceLT, Nat.reduceLeDiff, Nat.reduceAdd, Nat.reduceMul, Nat.reduceSub, Int.reduceToNat, Int.reduceNeg, hw, hb, hal, hap, hal2, Int.toNat_natCast, List.replicate_succ, List.replicate_zero, List.flatten_cons, List.flatten_nil, List.cons_append, List.nil_append, List.set_cons_zero, List.set_cons_succ, List.length_cons, List.length_nil, List.length_set, List.take_succ_cons, List.take_zero])
          | (refine Br.mk (fun h => ?_) (fun h => ?_) <;> simp -dsimp only [go_sem, reduceIte, reduceCtorEq, Nat.reduceEqDiff, Nat.reduceLT, Nat.reduceLeDiff, Nat.reduceAdd, Nat.reduceMul, Nat.reduceSub, Int.reduceToNat, Int.reduceNeg, h, hw, hb, hal, hap, hal2, Int.toNat_natCast, List.replicate_succ, List.replicate_zero, List.flatten_cons, List.flatten_nil, List.cons_append, List.nil_append, List.set_cons_zero, List.set_cons_succ, List.length_cons, List.length_nil, List.length_set, List.take_succ_cons, List.take_zero])
          | (refine And.intro (by first | rfl | omega | decide | exact ⟨by omega, by omega⟩ | exact ⟨rfl, by omega, by omega⟩ | exact ⟨by omega, by omega, by omega⟩ | (refine ⟨?_, ?_⟩ <;> (first | rfl | omega | decide | exact ⟨by omega, by omega⟩ | exact ⟨rfl, by omega, by omega⟩ | exact ⟨by omega, by omega, by omega⟩)) | (refine ⟨?_, ?_, ?_⟩ <;> (first | rfl | omega | decide | exact ⟨by omega, by omega⟩ | exact ⟨rfl, by omega, by omega⟩ | exact ⟨by omega, by omega, by omega⟩)) | (refine ⟨?_, ?_, ?_, ?_⟩ <;> (first | rfl | omega | decide | exact ⟨by omega, by omega⟩ | exact ⟨rfl, by omega, by omega⟩ | exact ⟨by omega, by omega, by omega⟩))) ?_; try simp -dsimp only [go_sem, reduceIte, reduceCtorEq, Nat.reduceEqDiff, Nat.reduceLT, Nat.reduceLeDiff, Nat.reduceAdd, Nat.reduceMul, Nat.reduceSub, Int.reduceToNat, Int.reduceNeg, hw, hb, hal, hap, hal2, Int.toNat_natCast, List.replicate_succ, List.replicate_zero, List.flatten_cons, List.flatten_nil, List.cons_append, List.nil_append, List.set_cons_zero, List.set_cons_succ, List.length_cons, List.length_nil, List.length_set, List.take_succ_cons, List.take_zero])
          | fail)

        all_goals first | omega | (refine ⟨⟨(i + 1, i + 1, acc ++ [s.extract fr i]), by simp only; omega, by simp only; omega, by simp only [List.length_append, List.length_cons, List.length_nil]; omega, by simp, h5'⟩, ?_, by simp only; omega⟩; simp [Vs.LeL, Vs.look, Vs.hlook, Vs.sput, Vs.sputs, Vs.hset, Vs.hputs, hal, hap]; done) | trace_state
    · have hge : i = s.size := by have := of_decide_eq_false hc; omega
      subst hge
      have hlast : E cW acc ++ [[.v (.string (s.extract fr s.size))]] = E cW (wdS s) := by
        rw [← wd_of (L := acc ++ [s.extract fr s.size]) ?_]
        · rw [E_append]; rfl
        · rw [← h5, List.map_append]
          congr 1
          rw [List.take_of_length_le (by rw [List.length_drop]; omega)] at h4
          rw [spL_word h4, List.map_cons, List.map_nil, extL, List.take_of_length_le (by rw [List.length_drop]; omega)]
      have hll : (wdS s).length = acc.length + 1 := by
        have := congrArg List.length hlast
        rw [List.length_append, E_len, E_len] at this
        simpa using this.symm
      have htk : (E cW (wdS s)).take (acc.length + 1) = E cW (wdS s) := List.take_of_length_le (by rw [E_len, hll]; exact Nat.le_refl _)
      try simp -dsimp only [go_sem, reduceIte, reduceCtorEq, Nat.reduceEqDiff, Nat.reduceLT, Nat.reduceLeDiff, Nat.reduceAdd, Nat.reduceMul, Nat.reduceSub, Int.reduceToNat, Int.reduceNeg, hal, hlast, htk, Int.toNat_natCast, List.replicate_succ, List.replicate_zero, List.flatten_cons, List.flatten_nil, List.cons_append, List.nil_append, List.set_cons_zero, List.set_cons_succ, List.length_cons, List.length_nil, List.length_set, List.take_succ_cons, List.take_zero]
      refine ⟨?_, fun h => h rfl⟩
      try simp -dsimp only [go_sem, reduceIte, reduceCtorEq, Nat.reduceEqDiff, Nat.reduceLT, Nat.reduceLeDiff, Nat.reduceAdd, Nat.reduceMul, Nat.reduceSub, Int.reduceToNat, Int.reduceNeg, hal, hlast, htk, Int.toNat_natCast, List.replicate_succ, List.replicate_zero, List.flatten_cons, List.flatten_nil, List.cons_append, List.nil_append, List.set_cons_zero, List.set_cons_succ, List.length_cons, List.length_nil, List.length_set, List.take_succ_cons, List.take_zero]
      repeat' (first
        | (refine RgK.mk rfl ?_; simp -dsimp only [go_sem, reduceIte, reduceCtorEq, Nat.reduceEqDiff, Nat.reduceLT, Nat.reduceLeDiff, Nat.reduceAdd, Nat.reduceMul, Nat.reduceSub, Int.reduceToNat, Int.reduceNeg, hal, hlast, htk, Int.toNat_natCast, List.replicate_succ, List.replicate_zero, List.flatten_cons, List.flatten_nil, List.cons_append, List.nil_append, List.set_cons_zero, List.set_cons_succ, List.length_cons, List.length_nil, List.length_set, List.take_succ_cons, List.take_zero])
        | (refine Br.mk (fun h => ?_) (fun h => ?_) <;> simp -dsimp only [go_sem, reduceIte, reduceCtorEq, Nat.reduceEqDiff, Nat.reduceLT, Nat.reduceLeDiff, Nat.reduceAdd, Nat.reduceMul, Nat.reduceSub, Int.reduceToNat, Int.reduceNeg, h, hal, hlast, htk, Int.toNat_natCast, List.replicate_succ, List.replicate_zero, List.flatten_cons, List.flatten_nil, List.cons_append, List.nil_append, List.set_cons_zero, List.set_cons_succ, List.length_cons, List.length_nil, List.length_set, List.take_succ_cons, List.take_zero])
        | (refine And.intro (by first | rfl | omega | decide | exact ⟨by omega, by omega⟩ | exact ⟨rfl, by omega, by omega⟩ | exact ⟨by omega, by omega, by omega⟩ | (refine ⟨?_, ?_⟩ <;> (first | rfl | omega | decide | exact ⟨by omega, by omega⟩ | exact ⟨rfl, by omega, by omega⟩ | exact ⟨by omega, by omega, by omega⟩)) | (refine ⟨?_, ?_, ?_⟩ <;> (first | rfl | omega | decide | exact ⟨by omega, by omega⟩ | exact ⟨rfl, by omega, by omega⟩ | exact ⟨by omega, by omega, by omega⟩)) | (refine ⟨?_, ?_, ?_, ?_⟩ <;> (first | rfl | omega | decide | exact ⟨by omega, by omega⟩ | exact ⟨rfl, by omega, by omega⟩ | exact ⟨by omega, by omega, by omega⟩))) ?_; try simp -dsimp only [go_sem, reduceIte, reduceCtorEq, Nat.reduceEqDiff, Nat.reduceLT, Nat.reduceLeDiff, Nat.reduceAdd, Nat.reduceMul, Nat.reduceSub, Int.reduceToNat, Int.reduceNeg, hal, hlast, htk, Int.toNat_natCast, List.replicate_succ, List.replicate_zero, List.flatten_cons, List.flatten_nil, List.cons_append, List.nil_append, List.set_cons_zero, List.set_cons_succ, List.length_cons, List.length_nil, List.length_set, List.take_succ_cons, List.take_zero])
        | fail)

      all_goals first | omega | exact ⟨_, _, rfl, rfl⟩ | (rw [htk]; exact ⟨_, _, rfl, rfl⟩) | trace_state
end Go.Proofs.YtpdmjalhahblmaaDoor
