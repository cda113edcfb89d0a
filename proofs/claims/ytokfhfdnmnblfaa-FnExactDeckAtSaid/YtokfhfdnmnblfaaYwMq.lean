/- A deck within a bound lies in memory of its own. -/
import Derived.Test.YtokfhfdnmnblfaaYwMp
namespace Go.Proofs.Ytokfhfdnmnblfaa
open Go.Vs
set_option linter.unusedSectionVars false
variable [Vs.Envs]
set_option linter.unusedSimpArgs false
set_option linter.unusedVariables false
attribute [local irreducible] Vs.Fn
theorem has1 {f : FuncId} {fn : Func} {ac : ACode} (h : CodeIsR Try.prog f fn ac) : HasBody Try.prog f := Vs.CodeIsR.has h
theorem sizeV (V : List Sl) : Vs.Fn Try.prog F.impl_size___impl_Card_ [] [.sl 1 (E sV V)] (.v (.int .i64 V.length)) [] := by
  refine Cd.impl_size___impl_Card__ok.fn0 Try.mixed Cd.impl_size___impl_Card__nt Cd.impl_size___impl_Card__rs rfl fun X => ?_
  unfold Cd.impl_size___impl_Card_
  simp -dsimp only [go_sem, reduceIte, reduceCtorEq, Nat.reduceEqDiff, Nat.reduceLT, Nat.reduceLeDiff, Nat.reduceAdd, Nat.reduceMul, Nat.reduceSub, Int.reduceToNat, Int.reduceNeg]
  repeat' (first
    | (refine RgK.mk rfl ?_; simp -dsimp only [go_sem, reduceIte, reduceCtorEq, Nat.reduceEqDiff, Nat.reduceLT, Nat.reduceLeDiff, Nat.reduceAdd, Nat.reduceMul, Nat.reduceSub, Int.reduceToNat, Int.reduceNeg])
    | (refine Br.mk (fun h => ?_) (fun h => ?_) <;> simp -dsimp only [go_sem, reduceIte, reduceCtorEq, Nat.reduceEqDiff, Nat.reduceLT, Nat.reduceLeDiff, Nat.reduceAdd, Nat.reduceMul, Nat.reduceSub, Int.reduceToNat, Int.reduceNeg, h])
    | (refine And.intro (by first | rfl | omega | decide | (refine ⟨?_, ?_⟩ <;> (first | rfl | omega | decide)) | (refine ⟨?_, ?_, ?_⟩ <;> (first | rfl | omega | decide)) | (refine ⟨?_, ?_, ?_, ?_⟩ <;> (first | rfl | omega | decide))) ?_)
    | fail)
  all_goals (simp_all)

set_option maxHeartbeats 1000000 in
theorem DeckAt_dk0 (l : List (List Int)) (m q : Nat) (hk : smallC l) (hl5 : l.length ≤ 5) (hm : m ≤ 3) (h0 : codeI l m = 0) (hq : q < geo l.length m) {S : Nat → Prop} {w : World} {vs : Array Value} (hS : ∀ b, S b → b < w.heap.size) (he : Env S w) (hvs : vs.size = 3) (hargs : ∀ j, j < 3 → RC S w (([.sl 1 (E cC l), .v (.int .i64 (m : Nat)), .v (.int .i64 (q : Nat))] : List AV).getD j .junk) (vs.getD j undef)) : Calls Try.prog F.impl_DeckAt vs w (Vs.DkRes w (((allD l m).getD q []).map (E cI))) := by
  have SC := sampleCode l m hk.2 hk.1
  rw [h0] at SC
  have hg := geo_le l.length hl5 m hm
  have hsub : IntKind.i64.wrap (((geo l.length m : Nat) : Int) - 1) = ((geo l.length m : Nat) : Int) - 1 := wrap_in (by omega) (by omega)
  obtain ⟨h1, h2, _⟩ := Cd.impl_DeckAt_ok
  obtain ⟨body, hb, hc⟩ := Option.bind_eq_some_iff.1 h2
  have hz : (Try.f9.body.map (zB Try.f9.ntmps (drawnG Try.prog))) = some true := by kernel_rfl
  rw [hb] at hz
  have hdr := drawn_ok Try.mixed
  refine Vs.Pt.calls (dr := drawnG Try.prog) (ac := Cd.impl_DeckAt) h1 hb hc (by simpa using hz) (args := [.sl 1 (E cC l), .v (.int .i64 (m : Nat)), .v (.int .i64 (q : Nat))]) (by rw [Cd.impl_DeckAt_nt]; exact Nat.le_of_ble_eq_true rfl) hS he hvs hargs fun C1 a hnt hw0 hS0 hp => ?_
  unfold Cd.impl_DeckAt
  refine hp.go hdr hnt 2 _ (τ := ⟨[(0, .sl 1 (E cC l)), (1, .v (.int .i64 (m : Nat))), (2, .v (.int .i64 (q : Nat)))], []⟩) (X := True) (E := fun _ _ => False) (fun p hp => by cases hp) (fun C hC => ?_) (fun i σ h => h) (fun C a w hl hg => hg.no.elim) fun a1 w1 S1 p1 hp1 _ => ?_
  · simp -dsimp only [go_sem, reduceIte, reduceCtorEq, Nat.reduceEqDiff, Nat.reduceLT, Nat.reduceLeDiff, Nat.reduceAdd, Nat.reduceMul, Nat.reduceSub, Int.reduceToNat, Int.reduceNeg, Int.reduceBEq, Int.reduceBNe, cC, List.replicate_succ, List.replicate_zero, List.flatten_cons, List.flatten_nil, List.cons_append, List.nil_append, List.set_cons_zero, List.set_cons_succ, List.length_cons, List.length_nil, List.length_set]
    repeat' (first
      | (refine RgK.mk rfl ?_; simp -dsimp only [go_sem, reduceIte, reduceCtorEq, Nat.reduceEqDiff, Nat.reduceLT, Nat.reduceLeDiff, Nat.reduceAdd, Nat.reduceMul, Nat.reduceSub, Int.reduceToNat, Int.reduceNeg, Int.reduceBEq, Int.reduceBNe, cC, List.replicate_succ, List.replicate_zero, List.flatten_cons, List.flatten_nil, List.cons_append, List.nil_append, List.set_cons_zero, List.set_cons_succ, List.length_cons, List.length_nil, List.length_set])
      | (refine Br.mk (fun h => ?_) (fun h => ?_) <;> simp -dsimp only [go_sem, reduceIte, reduceCtorEq, Nat.reduceEqDiff, Nat.reduceLT, Nat.reduceLeDiff, Nat.reduceAdd, Nat.reduceMul, Nat.reduceSub, Int.reduceToNat, Int.reduceNeg, h, Int.reduceBEq, Int.reduceBNe, cC, List.replicate_succ, List.replicate_zero, List.flatten_cons, List.flatten_nil, List.cons_append, List.nil_append, List.set_cons_zero, List.set_cons_succ, List.length_cons, List.length_nil, List.length_set])
      | (refine CallK.flat (by first | exact SC) rfl ?_; simp -dsimp only [go_sem, reduceIte, reduceCtorEq, Nat.reduceEqDiff, Nat.reduceLT, Nat.reduceLeDiff, Nat.reduceAdd, Nat.reduceMul, Nat.reduceSub, Int.reduceToNat, Int.reduceNeg, Int.reduceBEq, Int.reduceBNe, cC, List.replicate_succ, List.replicate_zero, List.flatten_cons, List.flatten_nil, List.cons_append, List.nil_append, List.set_cons_zero, List.set_cons_succ, List.length_cons, List.length_nil, List.length_set])
      | (refine CallK.pure (by first | exact SC) ?_; simp -dsimp only [go_sem, reduceIte, reduceCtorEq, Nat.reduceEqDiff, Nat.reduceLT, Nat.reduceLeDiff, Nat.reduceAdd, Nat.reduceMul, Nat.reduceSub, Int.reduceToNat, Int.reduceNeg, Int.reduceBEq, Int.reduceBNe, cC, List.replicate_succ, List.replicate_zero, List.flatten_cons, List.flatten_nil, List.cons_append, List.nil_append, List.set_cons_zero, List.set_cons_succ, List.length_cons, List.length_nil, List.length_set])
      | (refine And.intro (by first | rfl | omega | decide | (refine ⟨?_, ?_⟩ <;> (first | rfl | omega | decide)) | (refine ⟨?_, ?_, ?_⟩ <;> (first | rfl | omega | decide)) | (refine ⟨?_, ?_, ?_, ?_⟩ <;> (first | rfl | omega | decide))) ?_; try simp -dsimp only [go_sem, reduceIte, reduceCtorEq, Nat.reduceEqDiff, Nat.reduceLT, Nat.reduceLeDiff, Nat.reduceAdd, Nat.reduceMul, Nat.reduceSub, Int.reduceToNat, Int.reduceNeg, Int.reduceBEq, Int.reduceBNe, cC, List.replicate_succ, List.replicate_zero, List.flatten_cons, List.flatten_nil, List.cons_append, List.nil_append, List.set_cons_zero, List.set_cons_succ, List.length_cons, List.length_nil, List.length_set])
      | fail)

    all_goals first | (simp [Vs.LeL, Vs.look, Vs.hlook]; done) | exact ⟨by simp [Vs.LeL, Vs.look, Vs.hlook], trivial⟩ | trace_state
  refine At.seq (At.rg (hp1.rg hnt (pre := [⟨some 16, .mv (.tmp 0), none⟩, ⟨some 17, .mv (.tmp 1), none⟩]) (post := ⟨some 18, .call (.func F.impl_decksOf) ([16, 17].map .tmp) [], none⟩ :: [⟨some 9, .mv (.tmp 18), none⟩]) (τ := ⟨(16, .sl 1 (E cC l)) :: (17, .v (.int .i64 (m : Nat))) :: [(0, .sl 1 (E cC l)), (1, .v (.int .i64 (m : Nat))), (2, .v (.int .i64 (q : Nat)))], []⟩) (fun p hp => by cases hp) ?_ fun a2 w2 S2 p2 hp2 => hp2.rgcall hnt (ts := [16, 17]) (ys := [.sl 1 (E cC l), .v (.int .i64 (m : Nat))]) (has1 Cd.impl_decksOf_ok) rfl (fun i hi => by match i, hi with | 0, _ => rfl | 1, _ => rfl) (fun i hi => by match i, hi with | 0, _ => rfl | 1, _ => rfl) fun us hus hr => ?_))
  · simp -dsimp only [go_sem, reduceIte, reduceCtorEq, Nat.reduceEqDiff, Nat.reduceLT, Nat.reduceLeDiff, Nat.reduceAdd, Nat.reduceMul, Nat.reduceSub, Int.reduceToNat, Int.reduceNeg, Int.reduceBEq, Int.reduceBNe, cC, List.replicate_succ, List.replicate_zero, List.flatten_cons, List.flatten_nil, List.cons_append, List.nil_append, List.set_cons_zero, List.set_cons_succ, List.length_cons, List.length_nil, List.length_set]
    simp [Vs.LeL, Vs.look, Vs.hlook]
  refine (decksOf_dk l m hk.2 hl5 hm hp2.dom hp2.env hus hr).mono ?_
  rintro e w3 ⟨v, V, S3, rfl, hg3, hV, hDk, hdom3⟩
  refine ⟨v, rfl, ?_⟩
  have hlen : V.length = geo l.length m := by rw [← hDk.1, allD_length]
  have hqV : q < V.length := by omega
  have hp3 := (hp2.grow hg3 (D := fun b => S3 b ∧ w2.heap.size ≤ b) (fun b hb => ⟨hb.2, hdom3 b hb.1⟩) [(2, .v (.int .i64 (q : Nat)))] (fun p hp => by
    rw [List.mem_singleton.1 hp]; exact ⟨rfl, .inl rfl⟩)).putR (d := 18) (by rw [hnt, Cd.impl_DeckAt_nt]; omega) (r := .sl 1 (E sV V)) (hV.mono (fun b hb => .inr hb) fun _ _ => rfl)
  letI I3 := Vs.keepE (fun b => S2 b ∨ (S3 b ∧ w2.heap.size ≤ b)) w3
  refine hp3.rg (pre := [⟨some 9, .mv (.tmp 18), none⟩]) (post := []) hnt (τ := ⟨[(9, .sl 1 (E sV V)), (2, .v (.int .i64 (q : Nat)))], []⟩) (fun p hp => by cases hp) ?_ fun a4 w4 S4 p4 hp4 => RgL.nil ?_
  · simp -dsimp only [go_sem, reduceIte, reduceCtorEq, Nat.reduceEqDiff, Nat.reduceLT, Nat.reduceLeDiff, Nat.reduceAdd, Nat.reduceMul, Nat.reduceSub, Int.reduceToNat, Int.reduceNeg, Int.reduceBEq, Int.reduceBNe, cC, List.replicate_succ, List.replicate_zero, List.flatten_cons, List.flatten_nil, List.cons_append, List.nil_append, List.set_cons_zero, List.set_cons_succ, List.length_cons, List.length_nil, List.length_set]
    simp [Vs.LeL, Vs.look, Vs.hlook]
  have SZ := sizeV V
  rw [hlen] at SZ
  have hin : inB (q : Int) 0 (((geo l.length m : Nat) : Int) - 1) = true := by simp only [inB, Bool.and_eq_true, decide_eq_true_eq]; omega
  show Vs.At Try.prog Try.f9.ntmps (drawnG Try.prog) (Vs.dropS 3 Cd.impl_DeckAt) _ a4 w4
  refine hp4.go (drawn_ok Try.mixed) hnt 1 _ (τ := ⟨[(9, .sl 1 (E sV V)), (2, .v (.int .i64 (q : Nat)))], []⟩) (X := True) (E := fun _ _ => False) (fun p hp => by cases hp) (fun C hC => ?_) (fun i σ h => h) (fun C a w hl hg => hg.no.elim) fun a5 w5 S5 p5 hp5 _ => ?_
  · unfold Cd.impl_DeckAt
    simp only [Vs.dropS]
    simp -dsimp only [go_sem, reduceIte, reduceCtorEq, Nat.reduceEqDiff, Nat.reduceLT, Nat.reduceLeDiff, Nat.reduceAdd, Nat.reduceMul, Nat.reduceSub, Int.reduceToNat, Int.reduceNeg, Int.reduceBEq, Int.reduceBNe, cC, List.replicate_succ, List.replicate_zero, List.flatten_cons, List.flatten_nil, List.cons_append, List.nil_append, List.set_cons_zero, List.set_cons_succ, List.length_cons, List.length_nil, List.length_set, hsub, hin]
    repeat' (first
      | (refine RgK.mk rfl ?_; simp -dsimp only [go_sem, reduceIte, reduceCtorEq, Nat.reduceEqDiff, Nat.reduceLT, Nat.reduceLeDiff, Nat.reduceAdd, Nat.reduceMul, Nat.reduceSub, Int.reduceToNat, Int.reduceNeg, Int.reduceBEq, Int.reduceBNe, cC, List.replicate_succ, List.replicate_zero, List.flatten_cons, List.flatten_nil, List.cons_append, List.nil_append, List.set_cons_zero, List.set_cons_succ, List.length_cons, List.length_nil, List.length_set, hsub, hin])
      | (refine Br.mk (fun h => ?_) (fun h => ?_) <;> simp -dsimp only [go_sem, reduceIte, reduceCtorEq, Nat.reduceEqDiff, Nat.reduceLT, Nat.reduceLeDiff, Nat.reduceAdd, Nat.reduceMul, Nat.reduceSub, Int.reduceToNat, Int.reduceNeg, h, Int.reduceBEq, Int.reduceBNe, cC, List.replicate_succ, List.replicate_zero, List.flatten_cons, List.flatten_nil, List.cons_append, List.nil_append, List.set_cons_zero, List.set_cons_succ, List.length_cons, List.length_nil, List.length_set, hsub, hin])
      | (refine CallK.flat (by first | exact SZ | exact inside _ _ _) rfl ?_; simp -dsimp only [go_sem, reduceIte, reduceCtorEq, Nat.reduceEqDiff, Nat.reduceLT, Nat.reduceLeDiff, Nat.reduceAdd, Nat.reduceMul, Nat.reduceSub, Int.reduceToNat, Int.reduceNeg, Int.reduceBEq, Int.reduceBNe, cC, List.replicate_succ, List.replicate_zero, List.flatten_cons, List.flatten_nil, List.cons_append, List.nil_append, List.set_cons_zero, List.set_cons_succ, List.length_cons, List.length_nil, List.length_set, hsub, hin])
      | (refine CallK.pure (by first | exact SZ | exact inside _ _ _) ?_; simp -dsimp only [go_sem, reduceIte, reduceCtorEq, Nat.reduceEqDiff, Nat.reduceLT, Nat.reduceLeDiff, Nat.reduceAdd, Nat.reduceMul, Nat.reduceSub, Int.reduceToNat, Int.reduceNeg, Int.reduceBEq, Int.reduceBNe, cC, List.replicate_succ, List.replicate_zero, List.flatten_cons, List.flatten_nil, List.cons_append, List.nil_append, List.set_cons_zero, List.set_cons_succ, List.length_cons, List.length_nil, List.length_set, hsub, hin])
      | (refine And.intro (by first | rfl | omega | decide | (refine ⟨?_, ?_⟩ <;> (first | rfl | omega | decide)) | (refine ⟨?_, ?_, ?_⟩ <;> (first | rfl | omega | decide)) | (refine ⟨?_, ?_, ?_, ?_⟩ <;> (first | rfl | omega | decide))) ?_; try simp -dsimp only [go_sem, reduceIte, reduceCtorEq, Nat.reduceEqDiff, Nat.reduceLT, Nat.reduceLeDiff, Nat.reduceAdd, Nat.reduceMul, Nat.reduceSub, Int.reduceToNat, Int.reduceNeg, Int.reduceBEq, Int.reduceBNe, cC, List.replicate_succ, List.replicate_zero, List.flatten_cons, List.flatten_nil, List.cons_append, List.nil_append, List.set_cons_zero, List.set_cons_succ, List.length_cons, List.length_nil, List.length_set, hsub, hin])
      | fail)

    all_goals first | (simp [Vs.LeL, Vs.look, Vs.hlook]; done) | exact ⟨by simp [Vs.LeL, Vs.look, Vs.hlook], trivial⟩ | trace_state
  have hgv : (E sV V).getD q [] = [.v (slW V[q])] := E_get hqV
  have hlv : (E sV V).length = V.length := E_len _
  show Vs.At Try.prog Try.f9.ntmps (drawnG Try.prog) (Vs.dropS 4 Cd.impl_DeckAt) _ a5 w5
  refine hp5.go (drawn_ok Try.mixed) hnt 1 _ (τ := ⟨[(6, .v (slW V[q])), (7, .v (.int .i64 0))], []⟩) (X := True) (E := fun _ _ => False) (fun p hp => by cases hp) (fun C hC => ?_) (fun i σ h => h) (fun C a w hl hg => hg.no.elim) fun a6 w6 S6 p6 hp6 _ => ?_
  · unfold Cd.impl_DeckAt
    simp only [Vs.dropS]
    simp -dsimp only [go_sem, reduceIte, reduceCtorEq, Nat.reduceEqDiff, Nat.reduceLT, Nat.reduceLeDiff, Nat.reduceAdd, Nat.reduceMul, Nat.reduceSub, Int.reduceToNat, Int.reduceNeg, hgv, hlv, Int.reduceBEq, Int.reduceBNe, cC, List.replicate_succ, List.replicate_zero, List.flatten_cons, List.flatten_nil, List.cons_append, List.nil_append, List.set_cons_zero, List.set_cons_succ, List.length_cons, List.length_nil, List.length_set]
    first | (simp [Vs.LeL, Vs.look, Vs.hlook]; done) | exact ⟨by simp [Vs.LeL, Vs.look, Vs.hlook], trivial⟩ | (and_intros <;> first | omega | (simp [Vs.LeL, Vs.look, Vs.hlook]; done) | trivial) | trace_state
  obtain ⟨m', g1, g2⟩ := hDk.2 q hqV
  have eV : V.getD q default = V[q] := by simp [hqV]
  rw [eV] at g1
  have hw2 : w.heap.size ≤ w2.heap.size := by rw [← hw0]; exact hp2.size
  have pz : Vs.Past (fun b => S2 b ∨ (S3 b ∧ w2.heap.size ≤ b)) w3 S6 w6 := (p4.trans p5).trans p6
  have hfin := hp6.retDk (fn := Try.f9) hw0 g1 (fun b hb => by have := (g2 b hb).2; omega) (fun b hb => .inr (g2 b hb)) pz (by
    show Vs.resL Try.prog _ _ [_, _]
    simp [Vs.resL, Vs.resV, Vs.look, Vs.oneOr])
  exact At.ret ⟨.inl rfl, hfin⟩

theorem DeckAt_all (l : List (List Int)) (n k : Int) (hk : smallC l) {S : Nat → Prop} {w : World} {vs : Array Value} (hS : ∀ b, S b → b < w.heap.size) (he : Env S w) (hvs : vs.size = 3) (hargs : ∀ j, j < 3 → RC S w (([.sl 1 (E cC l), .v (.int .i64 n), .v (.int .i64 k)] : List AV).getD j .junk) (vs.getD j undef)) :
    Calls Try.prog F.impl_DeckAt vs w (Vs.DkResC w ((daL l n k).map (E cI)) (.int .i64 (daC l n k))) := by
  by_cases h0 : daC l n k = 0
  · obtain ⟨hc, hb⟩ := daC_0 h0
    obtain ⟨_, hl0, hl5, m, rfl, hm⟩ := codeI_0 hc
    obtain ⟨q, rfl, hq⟩ := inB_nat hb
    have e : daL l (m : Int) (q : Int) = (allD l m).getD q [] := by unfold daL; rw [if_pos h0]; rfl
    rw [e, h0]
    exact DeckAt_dk0 l m q hk hl5 hm hc (by simpa using hq) hS he hvs hargs
  · have e : daL l n k = [] := by unfold daL; rw [if_neg h0]
    rw [e]
    exact (impl_DeckAtN l n k hk h0).noDk hS he hvs hargs
theorem impl_DeckAtW (l : List (List Int)) (n k : Int) (hk : smallC l) : Vs.Fn Try.prog F.impl_DeckAt [] [.sl 1 (E cC l), .v (.int .i64 n), .v (.int .i64 k)] (.tup [.sl 1 (E cC (daL l n k)), .v (.int .i64 (daC l n k))]) [] := by
  have h := Vs.Fn.of_dk (has1 Cd.impl_DeckAt_ok) (args := [.sl 1 (E cC l), .v (.int .i64 n), .v (.int .i64 k)]) (by intro y hy; simp only [List.mem_cons, List.not_mem_nil, or_false] at hy; rcases hy with rfl | rfl | rfl <;> rfl) (fun S w vs hS he hvs hargs => DeckAt_all l n k hk hS he hvs hargs)
  rw [deckE] at h
  exact h
end Go.Proofs.Ytokfhfdnmnblfaa
