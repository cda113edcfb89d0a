/- A deck is copied by the program into new memory, all of it. -/
import Derived.Test.YtokfhfdnmnblfaaYwRa
import Derived.Test.YtokfhfdnmnblfaaYwI
import Derived.Test.YtokfhfdnmnblfaaYwC
import Derived.Test.YtokfhfdnmnblfaaVtR
import Derived.Test.YtokfhfdnmnblfaaVtZ
namespace Go.Proofs.Ytokfhfdnmnblfaa
open Go.Vs
set_option linter.unusedSectionVars false
variable [Vs.Envs]
set_option linter.unusedSimpArgs false
set_option linter.unusedVariables false
attribute [local irreducible] Vs.Fn
theorem At.naming {P : Program} {nt : Nat} {dr : Nat → Array Oper → Option (List Nat)} {n : Nat} {x : ACode} {Q : Exit → Act → World → Prop} {a : Act} {w : World} (h : At P nt dr x Q a w) : At P nt dr (.naming n x) Q a w := h
theorem newCardO (x : List Int) (hx : x.length ≤ 1048576) : Vs.Fn Try.prog F.impl_newCard [] [.agg (cC x)] (.agg [.loc (.b 0) 0 x.length]) [some (.arr 1 (E cI x) false)] := by
  have TI := copyIntsO x hx
  refine Cd.impl_newCard_ok.fn Try.mixed (hin := []) _ _ [.t 5 0] [.arr 1 (E cI x) false] Cd.impl_newCard_nt Cd.impl_newCard_rs rfl (by simp) rfl (by simp) fun X => ?_
  unfold Cd.impl_newCard
  simp -dsimp only [go_sem, reduceIte, reduceCtorEq, Nat.reduceEqDiff, Nat.reduceLT, Nat.reduceLeDiff, Nat.reduceAdd, Nat.reduceMul, Nat.reduceSub, Int.reduceToNat, Int.reduceNeg, cC, Int.reduceBEq, Int.reduceBNe, cC, E_len, List.replicate_succ, List.replicate_zero, List.flatten_cons, List.flatten_nil, List.cons_append, List.nil_append, List.set_cons_zero, List.set_cons_succ, List.length_cons, List.length_nil, List.length_set, List.mem_singleton, List.mem_cons, List.not_mem_nil, or_false, false_or, Vs.Name.t.injEq, List.getD_cons_zero, List.getD_cons_succ, Vs.Name.b.injEq, List.getElem?_cons_zero, List.getElem?_cons_succ]
  repeat' (first
    | (refine CallK.own (by first | exact TI) rfl ?_; simp -dsimp only [go_sem, reduceIte, reduceCtorEq, Nat.reduceEqDiff, Nat.reduceLT, Nat.reduceLeDiff, Nat.reduceAdd, Nat.reduceMul, Nat.reduceSub, Int.reduceToNat, Int.reduceNeg, cC, Int.reduceBEq, Int.reduceBNe, cC, E_len, List.replicate_succ, List.replicate_zero, List.flatten_cons, List.flatten_nil, List.cons_append, List.nil_append, List.set_cons_zero, List.set_cons_succ, List.length_cons, List.length_nil, List.length_set, List.mem_singleton, List.mem_cons, List.not_mem_nil, or_false, false_or, Vs.Name.t.injEq, List.getD_cons_zero, List.getD_cons_succ, Vs.Name.b.injEq, List.getElem?_cons_zero, List.getElem?_cons_succ])
    | (refine RgK.mk rfl ?_; simp -dsimp only [go_sem, reduceIte, reduceCtorEq, Nat.reduceEqDiff, Nat.reduceLT, Nat.reduceLeDiff, Nat.reduceAdd, Nat.reduceMul, Nat.reduceSub, Int.reduceToNat, Int.reduceNeg, cC, Int.reduceBEq, Int.reduceBNe, cC, E_len, List.replicate_succ, List.replicate_zero, List.flatten_cons, List.flatten_nil, List.cons_append, List.nil_append, List.set_cons_zero, List.set_cons_succ, List.length_cons, List.length_nil, List.length_set, List.mem_singleton, List.mem_cons, List.not_mem_nil, or_false, false_or, Vs.Name.t.injEq, List.getD_cons_zero, List.getD_cons_succ, Vs.Name.b.injEq, List.getElem?_cons_zero, List.getElem?_cons_succ])
    | (refine Br.mk (fun h => ?_) (fun h => ?_) <;> simp -dsimp only [go_sem, reduceIte, reduceCtorEq, Nat.reduceEqDiff, Nat.reduceLT, Nat.reduceLeDiff, Nat.reduceAdd, Nat.reduceMul, Nat.reduceSub, Int.reduceToNat, Int.reduceNeg, h, cC, Int.reduceBEq, Int.reduceBNe, cC, E_len, List.replicate_succ, List.replicate_zero, List.flatten_cons, List.flatten_nil, List.cons_append, List.nil_append, List.set_cons_zero, List.set_cons_succ, List.length_cons, List.length_nil, List.length_set, List.mem_singleton, List.mem_cons, List.not_mem_nil, or_false, false_or, Vs.Name.t.injEq, List.getD_cons_zero, List.getD_cons_succ, Vs.Name.b.injEq, List.getElem?_cons_zero, List.getElem?_cons_succ])
    | (refine And.intro (by first | rfl | omega | decide | exact ⟨by omega, by omega⟩ | exact ⟨rfl, by omega, by omega⟩ | exact ⟨rfl, rfl, by omega, by omega⟩ | (refine ⟨?_, ?_⟩ <;> (first | rfl | omega | decide | exact ⟨by omega, by omega⟩ | exact ⟨rfl, by omega, by omega⟩ | exact ⟨rfl, rfl, by omega, by omega⟩)) | (refine ⟨?_, ?_, ?_⟩ <;> (first | rfl | omega | decide | exact ⟨by omega, by omega⟩ | exact ⟨rfl, by omega, by omega⟩ | exact ⟨rfl, rfl, by omega, by omega⟩)) | (refine ⟨?_, ?_, ?_, ?_⟩ <;> (first | rfl | omega | decide | exact ⟨by omega, by omega⟩ | exact ⟨rfl, by omega, by omega⟩ | exact ⟨rfl, rfl, by omega, by omega⟩))) ?_; try simp -dsimp only [go_sem, reduceIte, reduceCtorEq, Nat.reduceEqDiff, Nat.reduceLT, Nat.reduceLeDiff, Nat.reduceAdd, Nat.reduceMul, Nat.reduceSub, Int.reduceToNat, Int.reduceNeg, cC, Int.reduceBEq, Int.reduceBNe, cC, E_len, List.replicate_succ, List.replicate_zero, List.flatten_cons, List.flatten_nil, List.cons_append, List.nil_append, List.set_cons_zero, List.set_cons_succ, List.length_cons, List.length_nil, List.length_set, List.mem_singleton, List.mem_cons, List.not_mem_nil, or_false, false_or, Vs.Name.t.injEq, List.getD_cons_zero, List.getD_cons_succ, Vs.Name.b.injEq, List.getElem?_cons_zero, List.getElem?_cons_succ])
    | fail)
  all_goals first | omega | exact ⟨_, _, rfl, rfl⟩ | trace_state

set_option maxHeartbeats 1000000 in
theorem newDeck_new (l : List (List Int)) (hk : smallC l) {S : Nat → Prop} {w : World} {v0 : Value} (hS : ∀ b, S b → b < w.heap.size) (he : Env S w) (h0 : RC S w (.sl 1 (E cC l)) v0) :
    Calls Try.prog F.impl_newDeck #[v0] w fun e w' => ∃ v D ss xs cs x0, e = .returned v ∧ w.heap.size ≤ w'.heap.size ∧ (∀ b, b < w.heap.size → w'.heap[b]? = w.heap[b]?) ∧ (w'.os = w.os ∧ w'.output = w.output) ∧ RC D w' (.sl 1 (E cC l)) v ∧ (∀ b, D b → w.heap.size ≤ b ∧ b < w'.heap.size) ∧ RC (fun b => x0 = some b) w' (.sl 1 (ss.map fun s => [AV.v s])) v ∧ (∃ c, Own (fun _ => False) w' x0 c 1 (ss.map fun s => [AV.v s]) v) ∧ (∀ b, x0 = some b → D b) ∧ (∀ i b, i < ss.length → xs i = some b → D b) ∧ Vs.OwnL (fun b => b < w.heap.size ∨ x0 = some b) w' 1 (l.map (E cI)) ss xs cs := by
  obtain ⟨h1, h2, _⟩ := Cd.impl_newDeck_ok
  obtain ⟨body, hb, hc⟩ := Option.bind_eq_some_iff.1 h2
  have hz : (Try.f38.body.map (zB Try.f38.ntmps (drawnG Try.prog))) = some true := by kernel_rfl
  rw [hb] at hz
  have hdr := drawn_ok Try.mixed
  refine calls_at (dr := drawnG Try.prog) (ac := Cd.impl_newDeck) h1 hb hc (by simpa using hz) (args := [.sl 1 (E cC l)]) (by rw [Cd.impl_newDeck_nt]; exact Nat.le_of_ble_eq_true rfl) hS he rfl (fun j hj => ?_) (fun _ => False) fun a hok => ?_
  · match j, hj with
    | 0, _ => exact h0
  generalize hC0 : (⟨Try.f38.ntmps, w, S, fun _ => False, fun _ => none, fun _ => 0, fun _ => none⟩ : Ctx) = C0 at hok
  have hnt : C0.nt = Try.f38.ntmps := by rw [← hC0]
  have hw0 : C0.w0 = w := by rw [← hC0]
  have hlL : (E cC l).length = l.length := E_len _
  unfold Cd.impl_newDeck
  refine At.step ⟨[(0, .sl 1 (E cC l))], []⟩ hdr hok hnt ?_ fun a w1 S1 ρ1 κ1 hok => ?_
  · simp -dsimp only [go_sem, reduceIte, reduceCtorEq, Nat.reduceEqDiff, Nat.reduceLT, Nat.reduceLeDiff, Nat.reduceAdd, Nat.reduceMul, Nat.reduceSub, Int.reduceToNat, Int.reduceNeg, hlL, Int.reduceBEq, Int.reduceBNe, cC, E_len, List.replicate_succ, List.replicate_zero, List.flatten_cons, List.flatten_nil, List.cons_append, List.nil_append, List.set_cons_zero, List.set_cons_succ, List.length_cons, List.length_nil, List.length_set, List.mem_singleton, List.mem_cons, List.not_mem_nil, or_false, false_or, Vs.Name.t.injEq, List.getD_cons_zero, List.getD_cons_succ, Vs.Name.b.injEq, List.getElem?_cons_zero, List.getElem?_cons_succ]
    try simp [Vs.LeL, Vs.look, Vs.hlook]
  refine At.step ⟨[(0, .sl 1 (E cC l)), (3, .loc (.t 3 0) 0 0)], [(.t 3 0, .arr 1 [] false)]⟩ hdr hok hnt ?_ fun a w2 S2 ρ2 κ2 hok => ?_
  · simp -dsimp only [go_sem, reduceIte, reduceCtorEq, Nat.reduceEqDiff, Nat.reduceLT, Nat.reduceLeDiff, Nat.reduceAdd, Nat.reduceMul, Nat.reduceSub, Int.reduceToNat, Int.reduceNeg, hlL, Int.reduceBEq, Int.reduceBNe, cC, E_len, List.replicate_succ, List.replicate_zero, List.flatten_cons, List.flatten_nil, List.cons_append, List.nil_append, List.set_cons_zero, List.set_cons_succ, List.length_cons, List.length_nil, List.length_set, List.mem_singleton, List.mem_cons, List.not_mem_nil, or_false, false_or, Vs.Name.t.injEq, List.getD_cons_zero, List.getD_cons_succ, Vs.Name.b.injEq, List.getElem?_cons_zero, List.getElem?_cons_succ]
    try simp [Vs.LeL, Vs.look, Vs.hlook]
  refine At.seq (At.step ⟨[(7, .sl 1 (E cC l)), (8, .v (.int .i64 (l.length : Nat))), (3, .loc (.t 3 0) 0 0), (9, .v (.int .i64 ((0 : Nat) : Int)))], [(.t 3 0, .arr 1 [] false)]⟩ hdr hok hnt ?_ fun a w3 S3 ρ3 κ3 hok => ?_)
  · simp -dsimp only [go_sem, reduceIte, reduceCtorEq, Nat.reduceEqDiff, Nat.reduceLT, Nat.reduceLeDiff, Nat.reduceAdd, Nat.reduceMul, Nat.reduceSub, Int.reduceToNat, Int.reduceNeg, hlL, Int.reduceBEq, Int.reduceBNe, cC, E_len, List.replicate_succ, List.replicate_zero, List.flatten_cons, List.flatten_nil, List.cons_append, List.nil_append, List.set_cons_zero, List.set_cons_succ, List.length_cons, List.length_nil, List.length_set, List.mem_singleton, List.mem_cons, List.not_mem_nil, or_false, false_or, Vs.Name.t.injEq, List.getD_cons_zero, List.getD_cons_succ, Vs.Name.b.injEq, List.getElem?_cons_zero, List.getElem?_cons_succ]
    try simp [Vs.LeL, Vs.look, Vs.hlook]
  refine At.block ?_
  -- the loop: what is stored, and the rows' memory
  let T : Nat → List Value → St := fun i ss => ⟨[(7, .sl 1 (E cC l)), (8, .v (.int .i64 (l.length : Nat))), (3, .loc (.t 3 0) 0 ss.length), (9, .v (.int .i64 (i : Int)))], [(.t 3 0, .arr 1 (ss.map (fun s => [AV.v s])) false)]⟩
  let I : Nat → Act → World → Prop := fun n a w => ∃ (i : Nat) (ss : List Value) (D : Nat → Prop) (C : Ctx) (S : Nat → Prop) (ρ : Vs.Name → Option Nat) (κ : Vs.Name → Nat), n = l.length - i ∧ i ≤ l.length ∧ ss.length = i ∧ C.nt = C0.nt ∧ Later C0 C ∧ OK C (T i ss).f a w S ρ κ ∧ (∀ b, D b → C0.w0.heap.size ≤ b) ∧ Hid C D (.tup ((l.take i).map fun r => .sl 1 (E cI r))) (.tuple ss.toArray) ∧ ∃ xs cs, Vs.OwnL C.S0 C.w0 1 ((l.take i).map (E cI)) ss xs cs ∧ ∀ j b, j < ss.length → xs j = some b → D b
  refine At.loop I (fun n a w hI => ?_) (n := l.length) ?_
  rotate_left
  · refine ⟨0, [], fun _ => False, C0.anew w3 S3 _ ρ3, S3, ρ3, κ3, by omega, by omega, rfl, rfl, hok.later, ?_, fun b hb => hb.elim, ⟨.tup _ _ rfl (by simp), fun b hb => hb.elim, fun b hb => hb.elim⟩, fun _ => none, fun _ => 0, ⟨rfl, by simp, by simp⟩, by simp⟩
    have e : T 0 [] = ⟨[(7, .sl 1 (E cC l)), (8, .v (.int .i64 (l.length : Nat))), (3, .loc (.t 3 0) 0 0), (9, .v (.int .i64 ((0 : Nat) : Int)))], [(.t 3 0, .arr 1 [] false)]⟩ := by simp [T]
    rw [e]
    exact hok.anew
  obtain ⟨i, ss, D, C, S, ρ, κ, hn, hi, hss, hcn, hla, hok, hD, hh, xs, cs, how, hxD⟩ := hI
  have hcnt : C.nt = Try.f38.ntmps := hcn.trans hnt
  refine At.step ⟨(10, .v (.bool (decide ((i : Int) < (l.length : Nat))))) :: (T i ss).s, (T i ss).h⟩ hdr hok hcnt ?_ fun a w S ρ κ hok => ?_
  · simp only [T]
    simp -dsimp only [go_sem, reduceIte, reduceCtorEq, Nat.reduceEqDiff, Nat.reduceLT, Nat.reduceLeDiff, Nat.reduceAdd, Nat.reduceMul, Nat.reduceSub, Int.reduceToNat, Int.reduceNeg, hlL, Int.reduceBEq, Int.reduceBNe, cC, E_len, List.replicate_succ, List.replicate_zero, List.flatten_cons, List.flatten_nil, List.cons_append, List.nil_append, List.set_cons_zero, List.set_cons_succ, List.length_cons, List.length_nil, List.length_set, List.mem_singleton, List.mem_cons, List.not_mem_nil, or_false, false_or, Vs.Name.t.injEq, List.getD_cons_zero, List.getD_cons_succ, Vs.Name.b.injEq, List.getElem?_cons_zero, List.getElem?_cons_succ]
    try simp [Vs.LeL, Vs.look, Vs.hlook]
  refine At.seq (At.fw hdr hok hcnt (N := fun σ' => LeL σ' (T i ss) ∧ i < l.length) (E := fun e σ' => match e with | .exit j => j = 0 ∧ LeL σ' (T i ss) ∧ i = l.length | .ret => False) ?_ (fun a w hg => ?_) (fun j a w hg => ?_) (fun a w hg => hg.no.elim))
  · simp only [T]
    simp -dsimp only [go_sem, reduceIte, reduceCtorEq, Nat.reduceEqDiff, Nat.reduceLT, Nat.reduceLeDiff, Nat.reduceAdd, Nat.reduceMul, Nat.reduceSub, Int.reduceToNat, Int.reduceNeg, hlL, Int.reduceBEq, Int.reduceBNe, cC, E_len, List.replicate_succ, List.replicate_zero, List.flatten_cons, List.flatten_nil, List.cons_append, List.nil_append, List.set_cons_zero, List.set_cons_succ, List.length_cons, List.length_nil, List.length_set, List.mem_singleton, List.mem_cons, List.not_mem_nil, or_false, false_or, Vs.Name.t.injEq, List.getD_cons_zero, List.getD_cons_succ, Vs.Name.b.injEq, List.getElem?_cons_zero, List.getElem?_cons_succ]
    refine Br.mk (fun hc => ?_) fun hc => ?_
    · have hlt : i < l.length := by have := of_decide_eq_true hc; omega
      try simp -dsimp only [go_sem, reduceIte, reduceCtorEq, Nat.reduceEqDiff, Nat.reduceLT, Nat.reduceLeDiff, Nat.reduceAdd, Nat.reduceMul, Nat.reduceSub, Int.reduceToNat, Int.reduceNeg, hlL, Int.reduceBEq, Int.reduceBNe, cC, E_len, List.replicate_succ, List.replicate_zero, List.flatten_cons, List.flatten_nil, List.cons_append, List.nil_append, List.set_cons_zero, List.set_cons_succ, List.length_cons, List.length_nil, List.length_set, List.mem_singleton, List.mem_cons, List.not_mem_nil, or_false, false_or, Vs.Name.t.injEq, List.getD_cons_zero, List.getD_cons_succ, Vs.Name.b.injEq, List.getElem?_cons_zero, List.getElem?_cons_succ]
      exact ⟨by simp [Vs.LeL, Vs.look, Vs.hlook], hlt⟩
    · have hge : i = l.length := by have := of_decide_eq_false hc; omega
      try simp -dsimp only [go_sem, reduceIte, reduceCtorEq, Nat.reduceEqDiff, Nat.reduceLT, Nat.reduceLeDiff, Nat.reduceAdd, Nat.reduceMul, Nat.reduceSub, Int.reduceToNat, Int.reduceNeg, hlL, Int.reduceBEq, Int.reduceBNe, cC, E_len, List.replicate_succ, List.replicate_zero, List.flatten_cons, List.flatten_nil, List.cons_append, List.nil_append, List.set_cons_zero, List.set_cons_succ, List.length_cons, List.length_nil, List.length_set, List.mem_singleton, List.mem_cons, List.not_mem_nil, or_false, false_or, Vs.Name.t.injEq, List.getD_cons_zero, List.getD_cons_succ, Vs.Name.b.injEq, List.getElem?_cons_zero, List.getElem?_cons_succ]
      exact ⟨by simp [Vs.LeL, Vs.look, Vs.hlook], hge⟩
  rotate_left
  · -- the loop's end
    obtain ⟨σ', S', ρ', κ', ⟨rfl, hle, rfl⟩, hok'⟩ := hg
    have hok := hok'.le hle
    simp only [Exit.then, Exit.inBlock, if_true]
    refine At.step ⟨[(2, .loc (.t 3 0) 0 ss.length)], [(.t 3 0, .arr 1 (ss.map fun s => [AV.v s]) false)]⟩ hdr hok hcnt ?_ fun a w4 S4 ρ4 κ4 hok4 => ?_
    · simp only [T]
      try simp -dsimp only [go_sem, reduceIte, reduceCtorEq, Nat.reduceEqDiff, Nat.reduceLT, Nat.reduceLeDiff, Nat.reduceAdd, Nat.reduceMul, Nat.reduceSub, Int.reduceToNat, Int.reduceNeg, hlL, Int.reduceBEq, Int.reduceBNe, cC, E_len, List.replicate_succ, List.replicate_zero, List.flatten_cons, List.flatten_nil, List.cons_append, List.nil_append, List.set_cons_zero, List.set_cons_succ, List.length_cons, List.length_nil, List.length_set, List.mem_singleton, List.mem_cons, List.not_mem_nil, or_false, false_or, Vs.Name.t.injEq, List.getD_cons_zero, List.getD_cons_succ, Vs.Name.b.injEq, List.getElem?_cons_zero, List.getElem?_cons_succ]
      simp [Vs.LeL, Vs.look, Vs.hlook, hss]
    refine At.ret ⟨.inl rfl, hok4.defers, ?_⟩
    obtain ⟨x, v, hx, hxv, hrun⟩ := Vs.res_run hok4 (fn := Try.f38) (K := fun x => x = .loc (.t 3 0) 0 ss.length) (by
      show Vs.resL Try.prog _ _ [_]
      simp [Vs.resL, Vs.resV, Vs.look, Vs.oneOr])
    subst hx
    have hb4 := hok4.back hla
    have hgr := hok4.graft (n := .t 3 0) (ss := ss) (by rfl) hh hxv
    have hmap : (((l.take l.length).map fun r => AV.sl 1 (E cI r)).map fun x => [x]) = E cC l := by simp [E, cC, List.map_map]
    rw [hmap] at hgr
    refine ⟨v, hrun, v, _, ss, xs, cs, ρ4 (.t 3 0), rfl, ?_, fun b hb => ?_, ?_, hgr, fun b hb => ?_, ?_, ?_, fun b hb => .inr hb, fun j b hj hb => .inl (hxD j b hj hb), ?_⟩
    · have := hb4.size; rw [hw0] at this; exact this
    · have := hb4.old b (by rw [hw0]; exact hb) (by rw [← hC0]; exact fun h => h); rw [hw0] at this; exact this
    · have := hb4.out; rw [hw0] at this; exact this
    · rcases hb with hb | hb
      · exact ⟨hw0 ▸ hD b hb, (hh.same hok4).2.1 b hb⟩
      · refine ⟨?_, hok4.hok.lt (n := .t 3 0) (by rfl) hb⟩
        rcases hb4.mine (.t 3 0) b (by rfl) hb with h | h
        · exact hw0 ▸ h
        · rw [← hC0] at h; exact h.elim
    · exact hok4.expose (n := .t 3 0) (by rfl) (fun r hr => by
        obtain ⟨y, _, rfl⟩ := List.mem_map.1 hr
        rfl) (by simpa using hxv)
    · exact ⟨_, (hok4.own (n := .t 3 0) (by rfl) (fun r hr => by
        obtain ⟨y, _, rfl⟩ := List.mem_map.1 hr
        rfl) (by simpa using hxv)).mono (fun _ _ h => h) fun _ _ => rfl⟩
    · rw [List.take_length] at how
      refine how.mono (fun j b hj hb hs => ?_) fun j b hj hb => (hh.same hok4).1 b (hxD j b hj hb)
      have hDb := hxD j b hj hb
      rcases hs with hs | hs
      · have := hD b hDb; rw [hw0] at this; omega
      · exact (hh.same hok4).2.2.2 b hDb (.t 3 0) (by rfl) hs
  obtain ⟨σ', S', ρ', κ', ⟨hle, hlt⟩, hok'⟩ := hg
  have hok := hok'.le hle
  have hw := wrap_succ hlt hk.1
  have hgt : (E cC l).getD i [] = [.sl 1 (E cI l[i])] := E_get hlt
  have TC := newCardO l[i] (hk.2 _ (List.getElem_mem hlt))
  show At Try.prog _ _ (.seq _ _) _ a w
  refine At.seq (At.block (At.step ⟨[(5, .ptr (.t 5 0) 0 0), (7, .sl 1 (E cC l)), (8, .v (.int .i64 (l.length : Nat))), (3, .loc (.t 3 0) 0 ss.length), (9, .v (.int .i64 (i : Int)))], [(.t 5 0, .var [.sl 1 (E cI l[i])] false), (.t 3 0, .arr 1 (ss.map (fun s => [AV.v s])) false)]⟩ hdr hok hcnt ?_ fun a w S1 ρ1 κ1 hok => At.naming (At.halt (pre := [⟨some 13, .mv (.tmp 3), none⟩, ⟨some 14, .load true 1 (.tmp 5), none⟩, ⟨some 15, .call (.func F.impl_newCard) [(.tmp 14)] [], none⟩]) (post := [⟨some 16, .bslice 1 1 [.v (.slice none 0 0)] [(0, (.tmp 15))], none⟩, ⟨some 17, .append 1 24 (.tmp 13) (.tmp 16), none⟩, ⟨some 3, .mv (.tmp 17), none⟩]) hok hcnt ?_)))
  · simp only [T]
    simp -dsimp only [go_sem, reduceIte, reduceCtorEq, Nat.reduceEqDiff, Nat.reduceLT, Nat.reduceLeDiff, Nat.reduceAdd, Nat.reduceMul, Nat.reduceSub, Int.reduceToNat, Int.reduceNeg, hlL, hgt, cC, Int.reduceBEq, Int.reduceBNe, cC, E_len, List.replicate_succ, List.replicate_zero, List.flatten_cons, List.flatten_nil, List.cons_append, List.nil_append, List.set_cons_zero, List.set_cons_succ, List.length_cons, List.length_nil, List.length_set, List.mem_singleton, List.mem_cons, List.not_mem_nil, or_false, false_or, Vs.Name.t.injEq, List.getD_cons_zero, List.getD_cons_succ, Vs.Name.b.injEq, List.getElem?_cons_zero, List.getElem?_cons_succ]
    first | exact ⟨⟨by omega, by omega⟩, by simp [Vs.LeL, Vs.look, Vs.hlook]⟩ | trace_state
  simp -dsimp only [go_sem, reduceIte, reduceCtorEq, Nat.reduceEqDiff, Nat.reduceLT, Nat.reduceLeDiff, Nat.reduceAdd, Nat.reduceMul, Nat.reduceSub, Int.reduceToNat, Int.reduceNeg, hlL, hgt, cC, Int.reduceBEq, Int.reduceBNe, cC, E_len, List.replicate_succ, List.replicate_zero, List.flatten_cons, List.flatten_nil, List.cons_append, List.nil_append, List.set_cons_zero, List.set_cons_succ, List.length_cons, List.length_nil, List.length_set, List.mem_singleton, List.mem_cons, List.not_mem_nil, or_false, false_or, Vs.Name.t.injEq, List.getD_cons_zero, List.getD_cons_succ, Vs.Name.b.injEq, List.getElem?_cons_zero, List.getElem?_cons_succ]
  refine CallK.own TC rfl ?_
  simp -dsimp only [go_sem, reduceIte, reduceCtorEq, Nat.reduceEqDiff, Nat.reduceLT, Nat.reduceLeDiff, Nat.reduceAdd, Nat.reduceMul, Nat.reduceSub, Int.reduceToNat, Int.reduceNeg, hlL, hgt, cC, Int.reduceBEq, Int.reduceBNe, cC, E_len, List.replicate_succ, List.replicate_zero, List.flatten_cons, List.flatten_nil, List.cons_append, List.nil_append, List.set_cons_zero, List.set_cons_succ, List.length_cons, List.length_nil, List.length_set, List.mem_singleton, List.mem_cons, List.not_mem_nil, or_false, false_or, Vs.Name.t.injEq, List.getD_cons_zero, List.getD_cons_succ, Vs.Name.b.injEq, List.getElem?_cons_zero, List.getElem?_cons_succ]
  intro a w S2 ρ2 κ2 hok2
  have hrl : (E cI l[i]).length = l[i].length := E_len _
  let σA : St := ⟨[(15, .agg [.loc (.t 15 0) 0 (E cI l[i]).length]), (13, .loc (.t 3 0) 0 ss.length), (7, .sl 1 (E cC l)), (8, .v (.int .i64 (l.length : Nat))), (3, .loc (.t 3 0) 0 ss.length), (9, .v (.int .i64 (i : Int)))], [(.t 15 0, .arr 1 (E cI l[i]) false), (.t 3 0, .arr 1 (ss.map (fun s => [AV.v s])) false)]⟩
  have hokA : OK C σA.f a w S2 ρ2 κ2 := hok2.le (by simp [σA, Vs.LeL, Vs.look, Vs.hlook, hrl])
  obtain ⟨s, C', hl', hok3, hh3, ⟨sb, sn, sc, rfl⟩, hCw, hCS, hown⟩ := hokA.bury (n := .t 15 0) (k := 1) (rows := E cI l[i]) (t := 15) rfl (fun r hr => by
    obtain ⟨y, _, rfl⟩ := List.mem_map.1 hr
    rfl) rfl hh
  have hbA := hokA.back hla
  have how2 := (how.mono (S' := S2) (w' := w) (fun j b hj hb => (hh.same hokA).2.2.1 b (hxD j b hj hb)) fun j b hj hb => (hh.same hokA).1 b (hxD j b hj hb)).snoc hown (fun j b hj hb => (hh.same hokA).2.2.2 b (hxD j b hj hb) (.t 15 0) (by rfl))
  have e3 : (l.take i).map (E cI) ++ [E cI l[i]] = (l.take (i + 1)).map (E cI) := by
    rw [List.take_succ_eq_append_getElem hlt, List.map_append]; rfl
  rw [e3, ← hCw, ← hCS] at how2
  have hD3 : ∀ b, (D b ∨ ρ2 (.t 15 0) = some b) → C0.w0.heap.size ≤ b := fun b hb => by
    rcases hb with hb | hb
    · exact hD b hb
    · rcases hbA.mine (.t 15 0) b (by rfl) hb with h | h
      · exact h
      · rw [← hC0] at h; exact h.elim
  let σB : St := ⟨[(15, .agg [.v (.slice sb sn sc)]), (13, .loc (.t 3 0) 0 ss.length), (7, .sl 1 (E cC l)), (8, .v (.int .i64 (l.length : Nat))), (3, .loc (.t 3 0) 0 ss.length), (9, .v (.int .i64 (i : Int)))], [(.t 3 0, .arr 1 (ss.map (fun s => [AV.v s])) false)]⟩
  have hokB : OK C' σB.f a w S2 ρ2 κ2 := hok3.le (by simp [σA, σB, Vs.killL, Vs.LeL, Vs.look, Vs.hlook, Vs.scr, Vs.scrB, Vs.AV.has, Vs.hasL, Vs.Blk.has])
  have hap : (ss.map fun s => [AV.v s]) ++ [[AV.v (.slice sb sn sc)]] = (ss ++ [Value.slice sb sn sc]).map fun s => [AV.v s] := by simp
  have hsl : (ss.map fun s => [AV.v s]).length = ss.length := by simp
  have hl1 := hk.1
  let τ : St := ⟨[(7, .sl 1 (E cC l)), (8, .v (.int .i64 (l.length : Nat))), (3, .loc (.t 17 0) 0 (i + 1)), (9, .v (.int .i64 (i : Int)))], [(.t 17 0, .arr 1 ((ss ++ [Value.slice sb sn sc]).map (fun s => [AV.v s])) false)]⟩
  refine ⟨C', σB, S2, ρ2, κ2, fun σ' => LeL σ' τ, hl'.nt.trans hcnt, hokB, ?_, fun a w hg => ?_⟩
  · simp only [σB, τ]
    simp -dsimp only [go_sem, reduceIte, reduceCtorEq, Nat.reduceEqDiff, Nat.reduceLT, Nat.reduceLeDiff, Nat.reduceAdd, Nat.reduceMul, Nat.reduceSub, Int.reduceToNat, Int.reduceNeg, hlL, hap, hsl, hw, Int.reduceBEq, Int.reduceBNe, cC, E_len, List.replicate_succ, List.replicate_zero, List.flatten_cons, List.flatten_nil, List.cons_append, List.nil_append, List.set_cons_zero, List.set_cons_succ, List.length_cons, List.length_nil, List.length_set, List.mem_singleton, List.mem_cons, List.not_mem_nil, or_false, false_or, Vs.Name.t.injEq, List.getD_cons_zero, List.getD_cons_succ, Vs.Name.b.injEq, List.getElem?_cons_zero, List.getElem?_cons_succ]
    and_intros
    all_goals first | omega | (simp [Vs.LeL, Vs.look, Vs.hlook, hss]; done) | (simp [Vs.LeL, Vs.look, Vs.hlook, hss]; omega) | trace_state
  obtain ⟨S4, ρ4, κ4, hok4⟩ := hg.le
  obtain ⟨ρ5, κ5, hok5⟩ := hok4.renL (n := .t 17 0) (m := .t 3 0) (by decide) (by rfl)
  show At Try.prog _ _ (.region _ _ _) _ a w
  refine At.fw hdr hok5 (hl'.nt.trans hcnt) (N := fun σ' => LeL σ' (T (i + 1) (ss ++ [Value.slice sb sn sc]))) (E := fun _ _ => False) ?_ (fun a w hg => ?_) (fun j a w hg => hg.no.elim) (fun a w hg => hg.no.elim)
  · simp only [τ, T, Vs.renL]
    simp -dsimp only [go_sem, reduceIte, reduceCtorEq, Nat.reduceEqDiff, Nat.reduceLT, Nat.reduceLeDiff, Nat.reduceAdd, Nat.reduceMul, Nat.reduceSub, Int.reduceToNat, Int.reduceNeg, hlL, hap, hsl, hw, Int.reduceBEq, Int.reduceBNe, cC, E_len, List.replicate_succ, List.replicate_zero, List.flatten_cons, List.flatten_nil, List.cons_append, List.nil_append, List.set_cons_zero, List.set_cons_succ, List.length_cons, List.length_nil, List.length_set, List.mem_singleton, List.mem_cons, List.not_mem_nil, or_false, false_or, Vs.Name.t.injEq, List.getD_cons_zero, List.getD_cons_succ, Vs.Name.b.injEq, List.getElem?_cons_zero, List.getElem?_cons_succ]
    first | (simp [Vs.LeL, Vs.look, Vs.hlook, hw, hss]; done) | trace_state
  obtain ⟨S6, ρ6, κ6, hok6⟩ := hg.le
  refine ⟨l.length - (i + 1), by omega, i + 1, ss ++ [Value.slice sb sn sc], _, C', S6, ρ6, κ6, rfl, by omega, by simp [hss], hl'.nt.trans hcn, hla.trans hl', hok6, hD3, ?_, _, _, how2, ?_⟩
  · rw [List.take_succ_eq_append_getElem hlt, List.map_append]
    exact hh3
  · intro j b hj hb
    simp only [List.length_append, List.length_singleton] at hj
    split at hb
    · exact .inr hb
    · exact .inl (hxD j b (by omega) hb)
end Go.Proofs.Ytokfhfdnmnblfaa
