/- Offices: compared, marked and read back. -/
import Derived.Test.YtokfhfdnmnblfaaYwMj
import Derived.Test.YtokfhfdnmnblfaaYwMb
import Derived.Test.YtokfhfdnmnblfaaYwC
import Derived.Test.YtokfhfdnmnblfaaVuG
import Derived.Test.YtokfhfdnmnblfaaVtM
import Derived.Test.YtokfhfdnmnblfaaVuA
namespace Go.Proofs.Ytokfhfdnmnblfaa
open Go.Vs
set_option linter.unusedSectionVars false
variable [Vs.Envs]
set_option linter.unusedSimpArgs false
set_option linter.unusedVariables false
attribute [local irreducible] Vs.Fn
def Dks (w : World) (S : Nat → Prop) (lo : Nat) (L : List (List (List Int))) (V : List Sl) : Prop := L.length = V.length ∧ ∀ i, i < V.length → ∃ m, Vs.Dk w ((L.getD i []).map (E cI)) (slW (V.getD i default)) m ∧ ∀ b, m.D b → S b ∧ lo ≤ b
theorem Dks.past {w w' : World} {S S' : Nat → Prop} {lo : Nat} {L : List (List (List Int))} {V : List Sl} (h : Dks w S lo L V) (hp : Vs.Past S w S' w') : Dks w' S' lo L V :=
  ⟨h.1, fun i hi => by
    obtain ⟨m, h1, h2⟩ := h.2 i hi
    exact ⟨m, h1.past (fun b hb => (h2 b hb).1) hp, fun b hb => ⟨hp.sub b (h2 b hb).1, (h2 b hb).2⟩⟩⟩
theorem Dks.app {w : World} {S : Nat → Prop} {lo : Nat} {L L' : List (List (List Int))} {V V' : List Sl} (h : Dks w S lo L V) (h' : Dks w S lo L' V') : Dks w S lo (L ++ L') (V ++ V') :=
  ⟨by simp [h.1, h'.1], fun i hi => by
    rcases Nat.lt_or_ge i V.length with hlt | hge
    · have hl : i < L.length := by rw [h.1]; exact hlt
      have e1 : (L ++ L').getD i [] = L.getD i [] := by simp [List.getElem?_append_left hl]
      have e2 : (V ++ V').getD i default = V.getD i default := by simp [List.getElem?_append_left hlt]
      rw [e1, e2]
      exact h.2 i hlt
    · have hi' : i - V.length < V'.length := by rw [List.length_append] at hi; omega
      have e1 : (L ++ L').getD i [] = L'.getD (i - V.length) [] := by simp [List.getElem?_append_right (show L.length ≤ i by rw [h.1]; exact hge), h.1]
      have e2 : (V ++ V').getD i default = V'.getD (i - V.length) default := by simp [List.getElem?_append_right hge]
      rw [e1, e2]
      exact h'.2 _ hi'⟩
theorem Dks.one {w : World} {S : Nat → Prop} {lo : Nat} {D : List (List Int)} {d : Sl} {m : Vs.Mem} (h1 : Vs.Dk w (D.map (E cI)) (slW d) m) (h2 : ∀ b, m.D b → S b ∧ lo ≤ b) : Dks w S lo [D] [d] :=
  ⟨rfl, fun i hi => by
    have : i = 0 := by simpa using hi
    subst this
    exact ⟨m, h1, h2⟩⟩
theorem Dks.nil {w : World} {S : Nat → Prop} {lo : Nat} : Dks w S lo [] [] := ⟨rfl, fun i hi => by simp at hi⟩
variable {C1 : Ctx}
end Go.Proofs.Ytokfhfdnmnblfaa

namespace Go.Proofs.Ytokfhfdnmnblfaa
open Go.Vs
set_option linter.unusedSectionVars false
variable [Vs.Envs]
set_option linter.unusedSimpArgs false
set_option linter.unusedVariables false
attribute [local irreducible] Vs.Fn
/-- the decks of trays, marked from k on -/
def mkS (k : Nat) : List (List (List Int)) → List (List (List Int))
  | [] => []
  | d :: r => mkD k d :: mkS (k + totD d) r
def totS : List (List (List Int)) → Nat
  | [] => 0
  | d :: r => totD d + totS r
theorem mkS_len : ∀ (k : Nat) (l : List (List (List Int))), (mkS k l).length = l.length
  | _, [] => rfl
  | k, c :: r => by simp [mkS, mkS_len _ r]
theorem totS_snoc : ∀ (l : List (List (List Int))) (c : List (List Int)), totS (l ++ [c]) = totS l + totD c
  | [], c => by simp [totS]
  | d :: r, c => by simp only [List.cons_append, totS, totS_snoc r c]; omega
theorem mkS_snoc : ∀ (k : Nat) (l : List (List (List Int))) (c : List (List Int)), mkS k (l ++ [c]) = mkS k l ++ [mkD (k + totS l) c]
  | k, [], c => by simp [mkS, totS]
  | k, d :: r, c => by simp only [List.cons_append, mkS, mkS_snoc _ r c, totS, Nat.add_assoc]
theorem mkS_get (k : Nat) {l : List (List (List Int))} {i : Nat} (h : i < l.length) : (mkS k l)[i]? = some (mkD (k + totS (l.take i)) l[i]) := by
  induction l generalizing k i with
  | nil => simp at h
  | cons d r ih =>
    cases i with
    | zero => simp [mkS, totS]
    | succ i =>
      simp only [List.length_cons] at h
      have := ih (k + totD d) (i := i) (by omega)
      simp only [mkS, List.getElem?_cons_succ, this, List.take_succ_cons, totS, Nat.add_assoc, List.getElem_cons_succ]
theorem totS_le {l : List (List (List Int))} (hk : ∀ d, d ∈ l → smallC d) : totS l ≤ l.length * 1099511627776 := by
  induction l with
  | nil => simp [totS]
  | cons d r ih =>
    have h1 := totD_le (hk d List.mem_cons_self).2
    have h2 := (hk d List.mem_cons_self).1
    have h3 := ih fun c hc => hk c (List.mem_cons_of_mem _ hc)
    have h4 := Nat.mul_le_mul_right 1048576 h2
    simp only [totS, List.length_cons]
    omega
/-- Trays, each a deck in memory of its own. -/
structure Of (w : World) (Ls : List (List (List Int))) (tv : Value) (xt : Option Nat) (TV : List Sl) (M : Nat → Vs.Mem) : Prop where
  root : RC (fun b => xt = some b) w (.sl 1 (E sV TV)) tv
  len : Ls.length = TV.length
  dk : ∀ i, i < TV.length → Vs.Dk w ((Ls.getD i []).map (E cI)) (slW (TV.getD i default)) (M i)
  dis : ∀ i j b, i < TV.length → j < TV.length → (M i).D b → (M j).D b → i = j
  out : ∀ i b, i < TV.length → (M i).D b → xt ≠ some b
  lt : ∀ b, xt = some b → b < w.heap.size
def OfD (xt : Option Nat) (TV : List Sl) (M : Nat → Vs.Mem) (b : Nat) : Prop := xt = some b ∨ ∃ i, i < TV.length ∧ (M i).D b
theorem Of.ltD {w : World} {Ls : List (List (List Int))} {tv : Value} {xt : Option Nat} {TV : List Sl} {M : Nat → Vs.Mem} (h : Of w Ls tv xt TV M) : ∀ b, OfD xt TV M b → b < w.heap.size := fun b hb => hb.elim (h.lt b) fun ⟨i, hi, hb⟩ => (h.dk i hi).lt b hb
theorem Of.same {w w' : World} {Ls : List (List (List Int))} {tv : Value} {xt : Option Nat} {TV : List Sl} {M : Nat → Vs.Mem} (h : Of w Ls tv xt TV M) (hs : w.heap.size ≤ w'.heap.size) (hw : ∀ b, OfD xt TV M b → w'.heap[b]? = w.heap[b]?) : Of w' Ls tv xt TV M :=
  ⟨h.root.mono (fun _ h => h) fun b hb => hw b (.inl hb), h.len, fun i hi => (h.dk i hi).same hs fun b hb => hw b (.inr ⟨i, hi, hb⟩), h.dis, h.out, fun b hb => Nat.lt_of_lt_of_le (h.lt b hb) hs⟩
theorem Of.rd {w : World} {Ls : List (List (List Int))} {tv : Value} {xt : Option Nat} {TV : List Sl} {M : Nat → Vs.Mem} (h : Of w Ls tv xt TV M) : RC (OfD xt TV M) w (.sl 1 (E cD Ls)) tv := by
  have := Vs.rc_graft (D := fun b => ∃ i, i < TV.length ∧ (M i).D b) (ss := TV.map slW) (xs := Ls.map fun d => AV.sl 1 (E cC d)) (by rw [sV_map]; exact h.root) (by simp [h.len]) fun j hj => by
    have hj' : j < TV.length := by simpa using hj
    have hjl : j < Ls.length := by rw [h.len]; exact hj'
    have e1 : (Ls.map fun d => AV.sl 1 (E cC d)).getD j .junk = .sl 1 (E cC Ls[j]) := by simp [hjl]
    have e2 : (TV.map slW).getD j undef = slW (TV.getD j default) := by simp [hj']
    have e3 : Ls.getD j [] = Ls[j] := by simp [hjl]
    rw [e1, e2, ← deckE, ← e3]
    exact (h.dk j hj').rd.mono (fun b hb => ⟨j, hj', hb⟩) fun _ _ => rfl
  rw [List.map_map] at this
  exact this.mono (fun _ h => h) fun _ _ => rfl
theorem Of.set {w w' : World} {Ls : List (List (List Int))} {tv : Value} {xt : Option Nat} {TV : List Sl} {M : Nat → Vs.Mem} (h : Of w Ls tv xt TV M) {i : Nat} (hi : i < TV.length) {d : List (List Int)} (hd : Vs.Dk w' (d.map (E cI)) (slW (TV.getD i default)) (M i)) (hs : w.heap.size ≤ w'.heap.size) (hw : ∀ b, b < w.heap.size → ¬ (M i).D b → w'.heap[b]? = w.heap[b]?) : Of w' (Ls.set i d) tv xt TV M := by
  refine ⟨h.root.mono (fun _ h => h) fun b hb => hw b (h.lt b hb) fun hD => h.out i b hi hD hb, by simp [h.len], fun j hj => ?_, h.dis, h.out, fun b hb => Nat.lt_of_lt_of_le (h.lt b hb) hs⟩
  by_cases e : j = i
  · subst e
    have e1 : (Ls.set j d).getD j [] = d := by simp [show j < Ls.length by rw [h.len]; exact hj]
    rw [e1]; exact hd
  · have e1 : (Ls.set i d).getD j [] = Ls.getD j [] := by
      simp only [List.getD_eq_getElem?_getD]
      rw [List.getElem?_set_ne (Ne.symm e)]
    rw [e1]
    exact (h.dk j hj).same hs fun b hb => hw b ((h.dk j hj).lt b hb) fun hD => e (h.dis j i b hj hi hb hD)

set_option maxHeartbeats 4000000 in
theorem markCardSS_of (k0 : Nat) (hk0 : k0 ≤ 2 ^ 59) {Ls : List (List (List Int))} {tv : Value} {xt : Option Nat} {TV : List Sl} {M : Nat → Vs.Mem} (hk : ∀ d, d ∈ Ls → smallC d) (hT : TV.length ≤ 1000) {S : Nat → Prop} {w : World} (hS : ∀ b, S b → b < w.heap.size) (he : Env S w) (hno : ∀ b, OfD xt TV M b → ¬ S b) (ho : Of w Ls tv xt TV M) :
    Calls Try.prog F.laws_markCardSS #[tv, .int .i64 (k0 : Nat)] w fun e w' => e = .returned (.int .i64 (k0 + totS Ls : Nat)) ∧ w.heap.size ≤ w'.heap.size ∧ (∀ b, b < w.heap.size → ¬ OfD xt TV M b → w'.heap[b]? = w.heap[b]?) ∧ (w'.os = w.os ∧ w'.output = w.output) ∧ Of w' (mkS k0 Ls) tv xt TV M := by
  obtain ⟨wO, rfl⟩ : ∃ x, x = w := ⟨_, rfl⟩
  obtain ⟨h1, h2, _⟩ := Cd.laws_markCardSS_ok
  obtain ⟨body, hb, hc⟩ := Option.bind_eq_some_iff.1 h2
  have hz : (Try.f41.body.map (zB Try.f41.ntmps (drawnG Try.prog))) = some true := by kernel_rfl
  rw [hb] at hz
  have hdr := drawn_ok Try.mixed
  have hlen := ho.len
  have hlE : (E sV TV).length = TV.length := E_len _
  let D : Nat → Prop := fun b => ∃ i, i < TV.length ∧ (M i).D b
  have hSS : ∀ b, (S b ∨ xt = some b) → b < wO.heap.size := fun b hb => hb.elim (hS b) (ho.lt b)
  have hDS : ∀ b, D b → ¬ (S b ∨ xt = some b) := fun b ⟨i, hi, hb⟩ h => h.elim (hno b (.inr ⟨i, hi, hb⟩)) (ho.out i b hi hb)
  refine calls_at (dr := drawnG Try.prog) (ac := Cd.laws_markCardSS) (S := fun b => S b ∨ xt = some b) h1 hb hc (by simpa using hz) (args := [.sl 1 (E sV TV), .v (.int .i64 (k0 : Int))]) (by rw [Cd.laws_markCardSS_nt]; exact Nat.le_of_ble_eq_true rfl) hSS (he.mono (fun _ h => .inl h) fun _ _ => rfl) rfl (fun j hj => ?_) D fun a hok => ?_
  · match j, hj with
    | 0, _ => exact ho.root.mono (fun _ h => .inr h) fun _ _ => rfl
    | 1, _ => exact .v _
  generalize hC0 : (⟨Try.f41.ntmps, wO, fun b => S b ∨ xt = some b, D, fun _ => none, fun _ => 0, fun _ => none⟩ : Ctx) = C0 at hok
  have hnt : C0.nt = Try.f41.ntmps := by rw [← hC0]
  have hw0 : C0.w0 = wO := by rw [← hC0]
  have hM : ∀ b, D b → C0.Mut b := fun b h => by rw [← hC0]; exact h
  have hl1 := hok.later
  have hh1 := hok.hid (D := D) (fun b ⟨i, hi, hb⟩ => (ho.dk i hi).lt b hb) hDS (fun b _ n hn => by simp [St.f, Vs.hlook] at hn)
  have hok1 := hok.anew
  let G : World → List (List (List Int)) → Prop := fun w Ls => Ls.length = TV.length ∧ ∀ i, i < TV.length → Vs.Dk w ((Ls.getD i []).map (E cI)) (slW (TV.getD i default)) (M i)
  generalize hC1 : C0.anew wO (fun b => S b ∨ xt = some b) _ _ = C1 at hl1 hh1 hok1
  have hG1 : G C1.w0 Ls := by rw [← hC1]; exact ⟨hlen, ho.dk⟩
  have hcnt1 : C1.nt = Try.f41.ntmps := hl1.nt.trans hnt
  unfold Cd.laws_markCardSS
  refine At.step ⟨[(0, .sl 1 (E sV TV)), (1, .v (.int .i64 (k0 : Int)))], []⟩ hdr hok1 hcnt1 ?_ fun a w1 S1 ρ1 κ1 hok => ?_
  · simp -dsimp only [go_sem, reduceIte, reduceCtorEq, Nat.reduceEqDiff, Nat.reduceLT, Nat.reduceLeDiff, Nat.reduceAdd, Nat.reduceMul, Nat.reduceSub, Int.reduceToNat, Int.reduceNeg, hlE, Int.reduceBEq, Int.reduceBNe, cC, E_len, List.replicate_succ, List.replicate_zero, List.flatten_cons, List.flatten_nil, List.cons_append, List.nil_append, List.set_cons_zero, List.set_cons_succ, List.length_cons, List.length_nil, List.length_set, List.mem_singleton, List.mem_cons, List.not_mem_nil, or_false, false_or, Vs.Name.t.injEq, List.getD_cons_zero, List.getD_cons_succ, Vs.Name.b.injEq, List.getElem?_cons_zero, List.getElem?_cons_succ]
    try simp [Vs.LeL, Vs.look, Vs.hlook]
  refine At.seq (At.step ⟨[(0, .sl 1 (E sV TV)), (1, .v (.int .i64 (k0 : Int))), (5, .v (.int .i64 ((0 : Nat) : Int)))], []⟩ hdr hok hcnt1 ?_ fun a w3 S3 ρ3 κ3 hok => ?_)
  · simp -dsimp only [go_sem, reduceIte, reduceCtorEq, Nat.reduceEqDiff, Nat.reduceLT, Nat.reduceLeDiff, Nat.reduceAdd, Nat.reduceMul, Nat.reduceSub, Int.reduceToNat, Int.reduceNeg, hlE, Int.reduceBEq, Int.reduceBNe, cC, E_len, List.replicate_succ, List.replicate_zero, List.flatten_cons, List.flatten_nil, List.cons_append, List.nil_append, List.set_cons_zero, List.set_cons_succ, List.length_cons, List.length_nil, List.length_set, List.mem_singleton, List.mem_cons, List.not_mem_nil, or_false, false_or, Vs.Name.t.injEq, List.getD_cons_zero, List.getD_cons_succ, Vs.Name.b.injEq, List.getElem?_cons_zero, List.getElem?_cons_succ]
    try simp [Vs.LeL, Vs.look, Vs.hlook]
  refine At.block ?_
  let T : Nat → Nat → St := fun i kk => ⟨[(0, .sl 1 (E sV TV)), (1, .v (.int .i64 (kk : Int))), (5, .v (.int .i64 (i : Int)))], []⟩
  let I : Nat → Act → World → Prop := fun n a w => ∃ (i kk : Nat) (m : List (List (List Int))) (C : Ctx) (S : Nat → Prop) (ρ : Vs.Name → Option Nat) (κ : Vs.Name → Nat), n = TV.length - i ∧ i ≤ TV.length ∧ kk = k0 + totS (Ls.take i) ∧ m = mkS k0 (Ls.take i) ++ Ls.drop i ∧ C.nt = Try.f41.ntmps ∧ Later C0 C ∧ OK C (T i kk).f a w S ρ κ ∧ Hid C D (.v undef) undef ∧ G C.w0 m
  refine At.loop I (fun n a w hI => ?_) (n := TV.length) ⟨0, k0, Ls, C1, S3, ρ3, κ3, by omega, by omega, by simp [totS], by simp [mkS], hcnt1, hl1, hok, hh1, hG1⟩
  obtain ⟨i, kk, m, C, S, ρ, κ, hn, hi, hkk, hme, hcnt, hla, hok, hh, hG⟩ := hI
  have hkb : totS (Ls.take i) ≤ 1000 * 1099511627776 := by
    have h1 := totS_le (l := Ls.take i) fun c hc => hk c (List.mem_of_mem_take hc)
    have h2 : (Ls.take i).length ≤ 1000 := by rw [List.length_take]; omega
    exact Nat.le_trans h1 (Nat.mul_le_mul_right 1099511627776 h2)
  refine At.seq (At.fw hdr hok hcnt (N := fun σ' => LeL σ' (T i kk) ∧ i < TV.length) (E := fun e σ' => match e with | .exit j => j = 0 ∧ LeL σ' (T i kk) ∧ i = TV.length | .ret => False) ?_ (fun a w hg => ?_) (fun j a w hg => ?_) (fun a w hg => hg.no.elim))
  · simp only [T]
    simp -dsimp only [go_sem, reduceIte, reduceCtorEq, Nat.reduceEqDiff, Nat.reduceLT, Nat.reduceLeDiff, Nat.reduceAdd, Nat.reduceMul, Nat.reduceSub, Int.reduceToNat, Int.reduceNeg, hlE, Int.reduceBEq, Int.reduceBNe, cC, E_len, List.replicate_succ, List.replicate_zero, List.flatten_cons, List.flatten_nil, List.cons_append, List.nil_append, List.set_cons_zero, List.set_cons_succ, List.length_cons, List.length_nil, List.length_set, List.mem_singleton, List.mem_cons, List.not_mem_nil, or_false, false_or, Vs.Name.t.injEq, List.getD_cons_zero, List.getD_cons_succ, Vs.Name.b.injEq, List.getElem?_cons_zero, List.getElem?_cons_succ]
    refine Br.mk (fun hc => ?_) fun hc => ?_
    · have hlt : i < TV.length := by have := of_decide_eq_true hc; omega
      try simp -dsimp only [go_sem, reduceIte, reduceCtorEq, Nat.reduceEqDiff, Nat.reduceLT, Nat.reduceLeDiff, Nat.reduceAdd, Nat.reduceMul, Nat.reduceSub, Int.reduceToNat, Int.reduceNeg, hlE, Int.reduceBEq, Int.reduceBNe, cC, E_len, List.replicate_succ, List.replicate_zero, List.flatten_cons, List.flatten_nil, List.cons_append, List.nil_append, List.set_cons_zero, List.set_cons_succ, List.length_cons, List.length_nil, List.length_set, List.mem_singleton, List.mem_cons, List.not_mem_nil, or_false, false_or, Vs.Name.t.injEq, List.getD_cons_zero, List.getD_cons_succ, Vs.Name.b.injEq, List.getElem?_cons_zero, List.getElem?_cons_succ]
      exact ⟨by simp [Vs.LeL, Vs.look, Vs.hlook], hlt⟩
    · have hge : i = TV.length := by have := of_decide_eq_false hc; omega
      try simp -dsimp only [go_sem, reduceIte, reduceCtorEq, Nat.reduceEqDiff, Nat.reduceLT, Nat.reduceLeDiff, Nat.reduceAdd, Nat.reduceMul, Nat.reduceSub, Int.reduceToNat, Int.reduceNeg, hlE, Int.reduceBEq, Int.reduceBNe, cC, E_len, List.replicate_succ, List.replicate_zero, List.flatten_cons, List.flatten_nil, List.cons_append, List.nil_append, List.set_cons_zero, List.set_cons_succ, List.length_cons, List.length_nil, List.length_set, List.mem_singleton, List.mem_cons, List.not_mem_nil, or_false, false_or, Vs.Name.t.injEq, List.getD_cons_zero, List.getD_cons_succ, Vs.Name.b.injEq, List.getElem?_cons_zero, List.getElem?_cons_succ]
      exact ⟨by simp [Vs.LeL, Vs.look, Vs.hlook], hge⟩
  rotate_left
  · obtain ⟨σ', S', ρ', κ', ⟨rfl, hle, rfl⟩, hok'⟩ := hg
    have hok := hok'.le hle
    simp only [Exit.then, Exit.inBlock, if_true]
    refine At.step ⟨[(4, .v (.int .i64 (kk : Int)))], []⟩ hdr hok hcnt ?_ fun a w4 S4 ρ4 κ4 hok4 => ?_
    · simp only [T]
      try simp -dsimp only [go_sem, reduceIte, reduceCtorEq, Nat.reduceEqDiff, Nat.reduceLT, Nat.reduceLeDiff, Nat.reduceAdd, Nat.reduceMul, Nat.reduceSub, Int.reduceToNat, Int.reduceNeg, hlE, Int.reduceBEq, Int.reduceBNe, cC, E_len, List.replicate_succ, List.replicate_zero, List.flatten_cons, List.flatten_nil, List.cons_append, List.nil_append, List.set_cons_zero, List.set_cons_succ, List.length_cons, List.length_nil, List.length_set, List.mem_singleton, List.mem_cons, List.not_mem_nil, or_false, false_or, Vs.Name.t.injEq, List.getD_cons_zero, List.getD_cons_succ, Vs.Name.b.injEq, List.getElem?_cons_zero, List.getElem?_cons_succ]
      simp [Vs.LeL, Vs.look, Vs.hlook]
    refine At.ret ⟨.inl rfl, hok4.defers, ?_⟩
    obtain ⟨x, v, hx', hxv, hrun⟩ := Vs.res_run hok4 (fn := Try.f41) (K := fun x => x = .v (.int .i64 (kk : Int))) (by
      show Vs.resL Try.prog _ _ [_]
      simp [Vs.resL, Vs.resV, Vs.look, Vs.oneOr])
    subst hx'
    have hb4 := hok4.back hla
    have hsz : wO.heap.size ≤ w4.heap.size := by have := hb4.size; rw [hw0] at this; exact this
    have hold : ∀ b, b < wO.heap.size → ¬ D b → w4.heap[b]? = wO.heap[b]? := fun b hb hno' => by
      have := hb4.old b (by rw [hw0]; exact hb) (by rw [← hC0]; exact hno'); rw [hw0] at this; exact this
    refine ⟨v, hrun, by rw [inv_v hxv, hkk, ← hlen, List.take_length], hsz, fun b hb hno' => hold b hb fun ⟨i, hi, hb⟩ => hno' (.inr ⟨i, hi, hb⟩), ?_, ?_⟩
    · have := hb4.out; rw [hw0] at this; exact this
    · rw [hme, ← hlen, List.take_length, List.drop_length, List.append_nil] at hG
      exact ⟨ho.root.mono (fun _ h => h) fun b hb => hold b (ho.lt b hb) fun ⟨i, hi, hD⟩ => ho.out i b hi hD hb, hG.1, fun i hi => (hG.2 i hi).same (by have := hok4.size; exact this) fun b hb => (hh.same hok4).1 b ⟨i, hi, hb⟩, ho.dis, ho.out, fun b hb => Nat.lt_of_lt_of_le (ho.lt b hb) hsz⟩
  obtain ⟨σ', S', ρ', κ', ⟨hle, hlt⟩, hok'⟩ := hg
  have hok := hok'.le hle
  have hgt : (E sV TV).getD i [] = [.v (slW TV[i])] := E_get hlt
  show At Try.prog _ _ (.seq _ _) _ a w
  refine At.seq (At.block (At.region (pre := [⟨some 12, .mv (.tmp 0), none⟩, ⟨some 13, .mv (.tmp 5), none⟩, ⟨some 14, .idxSl 1 (.tmp 12) (.tmp 13), none⟩, ⟨some 15, .load false 1 (.tmp 14), none⟩, ⟨some 16, .mv (.tmp 1), none⟩]) (o := ⟨some 17, .call (.func F.laws_markCardS) [(.tmp 15), (.tmp 16)] [0], none⟩) (post := [⟨some 1, .mv (.tmp 17), none⟩]) hok hcnt rfl ?_))
  let τ : St := ⟨[(15, .v (slW TV[i])), (16, .v (.int .i64 (kk : Int))), (0, .sl 1 (E sV TV)), (1, .v (.int .i64 (kk : Int))), (5, .v (.int .i64 (i : Int)))], []⟩
  refine Vs.vc_mono (K := fun σ' => LeL σ' τ) (fun σ1 hle1 => ?_) _ _ ?_
  rotate_left
  · simp only [T]
    simp -dsimp only [go_sem, reduceIte, reduceCtorEq, Nat.reduceEqDiff, Nat.reduceLT, Nat.reduceLeDiff, Nat.reduceAdd, Nat.reduceMul, Nat.reduceSub, Int.reduceToNat, Int.reduceNeg, hlE, hgt, Int.reduceBEq, Int.reduceBNe, cC, E_len, List.replicate_succ, List.replicate_zero, List.flatten_cons, List.flatten_nil, List.cons_append, List.nil_append, List.set_cons_zero, List.set_cons_succ, List.length_cons, List.length_nil, List.length_set, List.mem_singleton, List.mem_cons, List.not_mem_nil, or_false, false_or, Vs.Name.t.injEq, List.getD_cons_zero, List.getD_cons_succ, Vs.Name.b.injEq, List.getElem?_cons_zero, List.getElem?_cons_succ]
    exact ⟨⟨by omega, by omega⟩, by simp [τ, Vs.LeL, Vs.look, Vs.hlook]⟩
  intro a w S2 ρ2 κ2 op ops hokx hcop
  have hok2 := hokx.le hle1
  have hD2 := hh.same hok2
  have hli : i < Ls.length := by omega
  have hmi : m[i]? = some Ls[i] := by
    have hq : (mkS k0 (Ls.take i)).length = i := by rw [mkS_len, List.length_take]; omega
    rw [hme, List.getElem?_append_right (by omega), hq, Nat.sub_self]
    simp [hli]
  have hmd : m.getD i [] = Ls[i] := by rw [List.getD_eq_getElem?_getD, hmi]; rfl
  have hTd : TV.getD i default = TV[i] := by simp [hlt]
  have hdk : Vs.Dk w (Ls[i].map (E cI)) (slW TV[i]) (M i) := by
    have := (hG.2 i hlt).same hok2.size fun b hb => hD2.1 b ⟨i, hlt, hb⟩
    rw [hmd, hTd] at this
    exact this
  have h15 : a.tmps.getD 15 undef = slW TV[i] := inv_v (hok2.slots 15)
  have h16 : a.tmps.getD 16 undef = .int .i64 (kk : Int) := inv_v (hok2.slots 16)
  have hargs : ([Operand.tmp 15, .tmp 16].map a.eval).toArray = #[slW TV[i], .int .i64 (kk : Int)] := by
    show #[a.tmps.getD 15 undef, a.tmps.getD 16 undef] = _
    rw [h15, h16]
  refine op_call (by rw [hcnt]; exact hcop) rfl hok2 (Vs.CodeIsR.has Cd.laws_markCardS_ok) ?_
  rw [hargs]
  refine (markCardS_dk kk (by omega) (hk _ (List.getElem_mem hli)) hok2.hok.dom hok2.hok.env (fun b hb => hD2.2.2.1 b ⟨i, hlt, hb⟩) hdk).mono ?_
  rintro e w' ⟨rfl, q1, q2, q3, q4⟩
  have hw1 : ∀ b, b < w.heap.size → ¬ D b → w'.heap[b]? = w.heap[b]? := fun b hb hd => q2 b hb fun hx => hd ⟨i, hlt, hx⟩
  have hok3 := OK.wrote hh hok2 q1 hw1 q3
  have hla3 := OK.wroteM hla (fun b hb => .inr (hM b hb)) hok2 q1 hw1 q3
  have hh3 : Hid (C.anew w' S2 τ.f.h ρ2) D (.v undef) undef := ⟨.v _, fun b hb => Nat.lt_of_lt_of_le (hD2.2.1 b hb) q1, fun b hb => ⟨hD2.2.2.1 b hb, fun ⟨n, g1, g2⟩ => hD2.2.2.2 b hb n g1 g2⟩⟩
  have hG3 : G w' (m.set i (mkD kk Ls[i])) := by
    refine ⟨by rw [List.length_set]; exact hG.1, fun j hj => ?_⟩
    by_cases e : j = i
    · subst e
      have hml : j < m.length := by rw [hG.1]; exact hj
      have e1 : (m.set j (mkD kk Ls[j])).getD j [] = mkD kk Ls[j] := by simp [hml]
      rw [e1, hTd]
      exact q4
    · have e1 : (m.set i (mkD kk Ls[i])).getD j [] = m.getD j [] := by
        simp only [List.getD_eq_getElem?_getD]
        rw [List.getElem?_set_ne (Ne.symm e)]
      rw [e1]
      have h5 := (hG.2 j hj).same hok2.size fun b hb => hD2.1 b ⟨j, hj, hb⟩
      exact h5.same q1 fun b hb => q2 b (h5.lt b hb) fun hx => e (ho.dis j i b hj hlt hb hx)
  let σ4 : St := ⟨(17, .v (.int .i64 ((kk + totD Ls[i] : Nat) : Int))) :: τ.s, τ.h⟩
  have hok4 : OK (C.anew w' S2 τ.f.h ρ2) σ4.f (a.put (some 17) (.int .i64 ((kk + totD Ls[i] : Nat) : Int))) w' S2 ρ2 κ2 := hok3.put (x := .v (.int .i64 ((kk + totD Ls[i] : Nat) : Int))) (v := .int .i64 ((kk + totD Ls[i] : Nat) : Int)) (d := some 17) (.clo (.v _)) (fun d hd => by
    obtain rfl := Option.some.inj hd
    show 17 < C.nt
    rw [hcnt, Cd.laws_markCardSS_nt]; omega)
  refine ⟨_, rfl, C.anew w' S2 τ.f.h ρ2, σ4, S2, ρ2, κ2, fun σ' => LeL σ' (T i (kk + totD Ls[i])), hcnt, hok4, ?_, fun a w hg => ?_⟩
  · simp only [σ4, τ, T]
    simp -dsimp only [go_sem, reduceIte, reduceCtorEq, Nat.reduceEqDiff, Nat.reduceLT, Nat.reduceLeDiff, Nat.reduceAdd, Nat.reduceMul, Nat.reduceSub, Int.reduceToNat, Int.reduceNeg, hlE, hgt, Int.reduceBEq, Int.reduceBNe, cC, E_len, List.replicate_succ, List.replicate_zero, List.flatten_cons, List.flatten_nil, List.cons_append, List.nil_append, List.set_cons_zero, List.set_cons_succ, List.length_cons, List.length_nil, List.length_set, List.mem_singleton, List.mem_cons, List.not_mem_nil, or_false, false_or, Vs.Name.t.injEq, List.getD_cons_zero, List.getD_cons_succ, Vs.Name.b.injEq, List.getElem?_cons_zero, List.getElem?_cons_succ]
    simp [Vs.LeL, Vs.look, Vs.hlook]
  obtain ⟨S5, ρ5, κ5, hok5⟩ := hg.le
  have hw2 := wrap_succ hlt (by omega)
  show At Try.prog _ _ (.region _ _ _) _ a w
  refine At.fw hdr hok5 hcnt (N := fun σ' => LeL σ' (T (i + 1) (kk + totD Ls[i]))) (E := fun _ _ => False) ?_ (fun a w hg => ?_) (fun j a w hg => hg.no.elim) (fun a w hg => hg.no.elim)
  · simp only [T]
    simp -dsimp only [go_sem, reduceIte, reduceCtorEq, Nat.reduceEqDiff, Nat.reduceLT, Nat.reduceLeDiff, Nat.reduceAdd, Nat.reduceMul, Nat.reduceSub, Int.reduceToNat, Int.reduceNeg, hlE, hgt, Int.reduceBEq, Int.reduceBNe, cC, E_len, List.replicate_succ, List.replicate_zero, List.flatten_cons, List.flatten_nil, List.cons_append, List.nil_append, List.set_cons_zero, List.set_cons_succ, List.length_cons, List.length_nil, List.length_set, List.mem_singleton, List.mem_cons, List.not_mem_nil, or_false, false_or, Vs.Name.t.injEq, List.getD_cons_zero, List.getD_cons_succ, Vs.Name.b.injEq, List.getElem?_cons_zero, List.getElem?_cons_succ]
    simp [Vs.LeL, Vs.look, Vs.hlook, hw2]
  obtain ⟨S6, ρ6, κ6, hok6⟩ := hg.le
  refine ⟨TV.length - (i + 1), by omega, i + 1, kk + totD Ls[i], _, C.anew w' S2 τ.f.h ρ2, S6, ρ6, κ6, rfl, by omega, ?_, ?_, hcnt, hla3, hok6, hh3, hG3⟩
  · rw [take_succ hli, totS_snoc, hkk]; omega
  · rw [take_succ hli, mkS_snoc, hme, ← hkk]
    have hq : (mkS k0 (Ls.take i)).length = i := by rw [mkS_len, List.length_take]; omega
    rw [List.set_append_right _ _ (by omega), hq, Nat.sub_self, List.drop_eq_getElem_cons hli, List.set_cons_zero]
    simp
end Go.Proofs.Ytokfhfdnmnblfaa

namespace Go.Proofs.Ytokfhfdnmnblfaa
open Go.Vs
set_option linter.unusedSectionVars false
variable [Vs.Envs]
set_option linter.unusedSimpArgs false
set_option linter.unusedVariables false
attribute [local irreducible] Vs.Fn
def smallS (l : List (List (List Int))) : Prop := l.length ≤ 1000 ∧ ∀ d, d ∈ l → smallC d
theorem eqCardSS (l : List (List (List Int))) (hl : smallS l) : Vs.Fn Try.prog F.laws_eqCardSS [] [.sl 1 (E cD l), .sl 1 (E cD l)] (.v (.bool true)) [] :=
  eqO_fn Try.mixed (d := fun x => .sl 1 (E cC x)) (g := F.laws_eqCardS) Cd.laws_eqCardSS_ok Cd.laws_eqCardSS_nt Cd.laws_eqCardSS_rs rfl (fun _ => rfl) (fun x hx => eqCardS x (hl.2 x hx).2 (hl.2 x hx).1) (Nat.le_trans hl.1 (by omega))
theorem eqTotalSS0  : Vs.Fn Try.prog F.laws_eqTotalSS [] [.sl 1 [], .sl 1 []] (.v (.bool true)) [] := by
  refine Cd.laws_eqTotalSS_ok.fn0 Try.mixed Cd.laws_eqTotalSS_nt Cd.laws_eqTotalSS_rs rfl fun X => ?_
  unfold Cd.laws_eqTotalSS
  simp -dsimp only [go_sem, reduceIte, reduceCtorEq, Nat.reduceEqDiff, Nat.reduceLT, Nat.reduceLeDiff, Nat.reduceAdd, Nat.reduceMul, Nat.reduceSub, Int.reduceToNat, Int.reduceNeg]
  refine LoopK.at (drawn_ok Try.mixed) (X := Unit) (fun _ => []) (fun _ => []) (fun _ => 0) () ?_ ?_
  · simp [Vs.LeL, Vs.look, Vs.hlook, Vs.sput, Vs.sputs, Vs.hset, Vs.hputs]
  · rintro ⟨⟩
    simp -dsimp only [go_sem, reduceIte, reduceCtorEq, Nat.reduceEqDiff, Nat.reduceLT, Nat.reduceLeDiff, Nat.reduceAdd, Nat.reduceMul, Nat.reduceSub, Int.reduceToNat, Int.reduceNeg]
    refine Br.mk (fun h => absurd h (by decide)) fun _ => ?_
    simp -dsimp only [go_sem, reduceIte, reduceCtorEq, Nat.reduceEqDiff, Nat.reduceLT, Nat.reduceLeDiff, Nat.reduceAdd, Nat.reduceMul, Nat.reduceSub, Int.reduceToNat, Int.reduceNeg]
    exact ⟨ret_eq rfl, fun h => h rfl⟩

theorem markTotalSS0 (k : Int) : Vs.Fn Try.prog F.laws_markTotalSS [] [.sl 1 [], .v (.int .i64 k)] (.v (.int .i64 k)) [] := by
  refine Cd.laws_markTotalSS_ok.fn0 Try.mixed Cd.laws_markTotalSS_nt Cd.laws_markTotalSS_rs rfl fun X => ?_
  unfold Cd.laws_markTotalSS
  simp -dsimp only [go_sem, reduceIte, reduceCtorEq, Nat.reduceEqDiff, Nat.reduceLT, Nat.reduceLeDiff, Nat.reduceAdd, Nat.reduceMul, Nat.reduceSub, Int.reduceToNat, Int.reduceNeg]
  refine LoopK.at (drawn_ok Try.mixed) (X := Unit) (fun _ => []) (fun _ => []) (fun _ => 0) () ?_ ?_
  · simp [Vs.LeL, Vs.look, Vs.hlook, Vs.sput, Vs.sputs, Vs.hset, Vs.hputs]
  · rintro ⟨⟩
    simp -dsimp only [go_sem, reduceIte, reduceCtorEq, Nat.reduceEqDiff, Nat.reduceLT, Nat.reduceLeDiff, Nat.reduceAdd, Nat.reduceMul, Nat.reduceSub, Int.reduceToNat, Int.reduceNeg]
    refine Br.mk (fun h => absurd h (by decide)) fun _ => ?_
    simp -dsimp only [go_sem, reduceIte, reduceCtorEq, Nat.reduceEqDiff, Nat.reduceLT, Nat.reduceLeDiff, Nat.reduceAdd, Nat.reduceMul, Nat.reduceSub, Int.reduceToNat, Int.reduceNeg]
    exact ⟨ret_eq rfl, fun h => h rfl⟩

theorem heldTotalSS0 (k : Int) : Vs.Fn Try.prog F.laws_heldTotalSS [] [.sl 1 [], .v (.int .i64 k)] (.v (.int .i64 k)) [] := by
  refine Cd.laws_heldTotalSS_ok.fn0 Try.mixed Cd.laws_heldTotalSS_nt Cd.laws_heldTotalSS_rs rfl fun X => ?_
  unfold Cd.laws_heldTotalSS
  simp -dsimp only [go_sem, reduceIte, reduceCtorEq, Nat.reduceEqDiff, Nat.reduceLT, Nat.reduceLeDiff, Nat.reduceAdd, Nat.reduceMul, Nat.reduceSub, Int.reduceToNat, Int.reduceNeg]
  refine LoopK.at (drawn_ok Try.mixed) (X := Unit) (fun _ => []) (fun _ => []) (fun _ => 0) () ?_ ?_
  · simp [Vs.LeL, Vs.look, Vs.hlook, Vs.sput, Vs.sputs, Vs.hset, Vs.hputs]
  · rintro ⟨⟩
    simp -dsimp only [go_sem, reduceIte, reduceCtorEq, Nat.reduceEqDiff, Nat.reduceLT, Nat.reduceLeDiff, Nat.reduceAdd, Nat.reduceMul, Nat.reduceSub, Int.reduceToNat, Int.reduceNeg]
    refine Br.mk (fun h => absurd h (by decide)) fun _ => ?_
    simp -dsimp only [go_sem, reduceIte, reduceCtorEq, Nat.reduceEqDiff, Nat.reduceLT, Nat.reduceLeDiff, Nat.reduceAdd, Nat.reduceMul, Nat.reduceSub, Int.reduceToNat, Int.reduceNeg]
    exact ⟨ret_eq rfl, fun h => h rfl⟩

set_option maxHeartbeats 1000000 in
theorem heldCardSS (l : List (List (List Int))) (k : Nat) (hk : smallS l) (hk0 : k ≤ 2 ^ 59) : Vs.Fn Try.prog F.laws_heldCardSS [] [.sl 1 (E cD (mkS k l)), .v (.int .i64 k)] (.v (.int .i64 (k + totS l : Nat))) [] := by
  have hlr : (mkS k l).length = l.length := mkS_len k l
  have hl := hk.1
  refine Cd.laws_heldCardSS_ok.fn0 Try.mixed Cd.laws_heldCardSS_nt Cd.laws_heldCardSS_rs rfl fun X => ?_
  unfold Cd.laws_heldCardSS
  simp -dsimp only [go_sem, reduceIte, reduceCtorEq, Nat.reduceEqDiff, Nat.reduceLT, Nat.reduceLeDiff, Nat.reduceAdd, Nat.reduceMul, Nat.reduceSub, Int.reduceToNat, Int.reduceNeg]
  refine LoopK.at (drawn_ok Try.mixed) (X := { i : Nat // i ≤ l.length }) (fun i => [(1, .v (.int .i64 (k + totS (l.take i.1) : Nat))), (5, .v (.int .i64 i.1))]) (fun i => []) (fun i => l.length - i.1) ⟨0, by omega⟩ ?_ ?_
  · simp [Vs.LeL, Vs.look, Vs.hlook, Vs.sput, Vs.sputs, Vs.hset, Vs.hputs, totS]
  · rintro ⟨i, hi⟩
    simp -dsimp only [go_sem, reduceIte, reduceCtorEq, Nat.reduceEqDiff, Nat.reduceLT, Nat.reduceLeDiff, Nat.reduceAdd, Nat.reduceMul, Nat.reduceSub, Int.reduceToNat, Int.reduceNeg, E_len, hlr]
    refine Br.mk (fun hc => ?_) fun hc => ?_
    · have hlt : i < l.length := by simpa using hc
      have hw := wrap_succ hlt (by omega)
      have hgi : (E cD (mkS k l)).getD i [] = [.sl 1 (E cC (mkD (k + totS (l.take i)) l[i]))] := by
        have h1 := mkS_get k hlt
        have hlt2 : i < (mkS k l).length := by rw [hlr]; exact hlt
        rw [E_get hlt2]
        rw [List.getElem?_eq_getElem hlt2] at h1
        rw [Option.some.inj h1]; rfl
      have hb : totS (l.take i) ≤ 1000 * 1099511627776 := by
        have h1 := totS_le (l := l.take i) fun c hc => hk.2 c (List.mem_of_mem_take hc)
        have h2 : (l.take i).length ≤ 1000 := by rw [List.length_take]; omega
        exact Nat.le_trans h1 (Nat.mul_le_mul_right 1099511627776 h2)
      have H := heldCardS l[i] (k + totS (l.take i)) (hk.2 _ (List.getElem_mem hlt)) (by omega)
      have hn : decide (((k + totS (l.take i) + totD l[i] : Nat) : Int) < 0) = false := decide_eq_false (by omega)
      have hs : k + totS (l.take i) + totD l[i] = k + totS (l.take (i + 1)) := by rw [take_succ hlt, totS_snoc]; omega
      rw [hs] at H hn
      simp -dsimp only [go_sem, reduceIte, reduceCtorEq, Nat.reduceEqDiff, Nat.reduceLT, Nat.reduceLeDiff, Nat.reduceAdd, Nat.reduceMul, Nat.reduceSub, Int.reduceToNat, Int.reduceNeg, hw, hgi, hlr, hn, E_len]
      repeat' (first
        | (refine RgK.mk rfl ?_; simp -dsimp only [go_sem, reduceIte, reduceCtorEq, Nat.reduceEqDiff, Nat.reduceLT, Nat.reduceLeDiff, Nat.reduceAdd, Nat.reduceMul, Nat.reduceSub, Int.reduceToNat, Int.reduceNeg, hw, hgi, hlr, hn, E_len])
        | (refine Br.mk (fun h => ?_) (fun h => ?_) <;> simp -dsimp only [go_sem, reduceIte, reduceCtorEq, Nat.reduceEqDiff, Nat.reduceLT, Nat.reduceLeDiff, Nat.reduceAdd, Nat.reduceMul, Nat.reduceSub, Int.reduceToNat, Int.reduceNeg, h, hw, hgi, hlr, hn, E_len])
        | (refine CallK.flat (by first | exact H) rfl ?_; simp -dsimp only [go_sem, reduceIte, reduceCtorEq, Nat.reduceEqDiff, Nat.reduceLT, Nat.reduceLeDiff, Nat.reduceAdd, Nat.reduceMul, Nat.reduceSub, Int.reduceToNat, Int.reduceNeg, hw, hgi, hlr, hn, E_len])
        | (refine CallK.pure (by first | exact H) ?_; simp -dsimp only [go_sem, reduceIte, reduceCtorEq, Nat.reduceEqDiff, Nat.reduceLT, Nat.reduceLeDiff, Nat.reduceAdd, Nat.reduceMul, Nat.reduceSub, Int.reduceToNat, Int.reduceNeg, hw, hgi, hlr, hn, E_len])
        | (refine And.intro (by first | rfl | omega | decide | (refine ⟨?_, ?_⟩ <;> (first | rfl | omega | decide)) | (refine ⟨?_, ?_, ?_⟩ <;> (first | rfl | omega | decide)) | (refine ⟨?_, ?_, ?_, ?_⟩ <;> (first | rfl | omega | decide))) ?_)
        | fail)

      all_goals (exact ⟨⟨i + 1, by omega⟩, by simp [Vs.LeL, Vs.look, Vs.hlook, Vs.sput, Vs.sputs, Vs.hset, Vs.hputs], by simp only; omega⟩)
    · have hge : i = l.length := by
        have : ¬ i < l.length := by simpa using hc
        omega
      subst hge
      simp -dsimp only [go_sem, reduceIte, reduceCtorEq, Nat.reduceEqDiff, Nat.reduceLT, Nat.reduceLeDiff, Nat.reduceAdd, Nat.reduceMul, Nat.reduceSub, Int.reduceToNat, Int.reduceNeg]
      simp
theorem eqOffice (l : List (List (List Int))) (hl : smallS l) : Vs.Fn Try.prog F.laws_eqOffice [] [.agg [.sl 1 (E cD l), .sl 1 []], .agg [.sl 1 (E cD l), .sl 1 []]] (.v (.bool true)) [] := by
  refine Cd.laws_eqOffice_ok.fn0 Try.mixed Cd.laws_eqOffice_nt Cd.laws_eqOffice_rs rfl fun X => ?_
  unfold Cd.laws_eqOffice
  simp -dsimp only [go_sem, reduceIte, reduceCtorEq, Nat.reduceEqDiff, Nat.reduceLT, Nat.reduceLeDiff, Nat.reduceAdd, Nat.reduceMul, Nat.reduceSub, Int.reduceToNat, Int.reduceNeg]
  repeat' (first
    | (refine RgK.mk rfl ?_; simp -dsimp only [go_sem, reduceIte, reduceCtorEq, Nat.reduceEqDiff, Nat.reduceLT, Nat.reduceLeDiff, Nat.reduceAdd, Nat.reduceMul, Nat.reduceSub, Int.reduceToNat, Int.reduceNeg])
    | (refine Br.mk (fun h => ?_) (fun h => ?_) <;> simp -dsimp only [go_sem, reduceIte, reduceCtorEq, Nat.reduceEqDiff, Nat.reduceLT, Nat.reduceLeDiff, Nat.reduceAdd, Nat.reduceMul, Nat.reduceSub, Int.reduceToNat, Int.reduceNeg, h])
    | (refine CallK.flat (by first | exact eqCardSS l hl | exact eqTotalSS0) rfl ?_; simp -dsimp only [go_sem, reduceIte, reduceCtorEq, Nat.reduceEqDiff, Nat.reduceLT, Nat.reduceLeDiff, Nat.reduceAdd, Nat.reduceMul, Nat.reduceSub, Int.reduceToNat, Int.reduceNeg])
    | (refine CallK.pure (by first | exact eqCardSS l hl | exact eqTotalSS0) ?_; simp -dsimp only [go_sem, reduceIte, reduceCtorEq, Nat.reduceEqDiff, Nat.reduceLT, Nat.reduceLeDiff, Nat.reduceAdd, Nat.reduceMul, Nat.reduceSub, Int.reduceToNat, Int.reduceNeg])
    | (refine And.intro (by first | rfl | omega | decide | (refine ⟨?_, ?_⟩ <;> (first | rfl | omega | decide)) | (refine ⟨?_, ?_, ?_⟩ <;> (first | rfl | omega | decide)) | (refine ⟨?_, ?_, ?_, ?_⟩ <;> (first | rfl | omega | decide))) ?_)
    | fail)
  all_goals (simp_all)

theorem heldOffice (l : List (List (List Int))) (k : Nat) (hk : smallS l) (hk0 : k ≤ 2 ^ 59) : Vs.Fn Try.prog F.laws_heldOffice [] [.agg [.sl 1 (E cD (mkS k l)), .sl 1 []], .v (.int .i64 k)] (.v (.int .i64 (k + totS l : Nat))) [] := by
  have hn : decide (((k + totS l : Nat) : Int) < 0) = false := decide_eq_false (by omega)
  refine Cd.laws_heldOffice_ok.fn0 Try.mixed Cd.laws_heldOffice_nt Cd.laws_heldOffice_rs rfl fun X => ?_
  unfold Cd.laws_heldOffice
  simp -dsimp only [go_sem, reduceIte, reduceCtorEq, Nat.reduceEqDiff, Nat.reduceLT, Nat.reduceLeDiff, Nat.reduceAdd, Nat.reduceMul, Nat.reduceSub, Int.reduceToNat, Int.reduceNeg, hn]
  repeat' (first
    | (refine RgK.mk rfl ?_; simp -dsimp only [go_sem, reduceIte, reduceCtorEq, Nat.reduceEqDiff, Nat.reduceLT, Nat.reduceLeDiff, Nat.reduceAdd, Nat.reduceMul, Nat.reduceSub, Int.reduceToNat, Int.reduceNeg, hn])
    | (refine Br.mk (fun h => ?_) (fun h => ?_) <;> simp -dsimp only [go_sem, reduceIte, reduceCtorEq, Nat.reduceEqDiff, Nat.reduceLT, Nat.reduceLeDiff, Nat.reduceAdd, Nat.reduceMul, Nat.reduceSub, Int.reduceToNat, Int.reduceNeg, h, hn])
    | (refine CallK.flat (by first | exact heldCardSS l k hk hk0 | exact heldTotalSS0 _) rfl ?_; simp -dsimp only [go_sem, reduceIte, reduceCtorEq, Nat.reduceEqDiff, Nat.reduceLT, Nat.reduceLeDiff, Nat.reduceAdd, Nat.reduceMul, Nat.reduceSub, Int.reduceToNat, Int.reduceNeg, hn])
    | (refine CallK.pure (by first | exact heldCardSS l k hk hk0 | exact heldTotalSS0 _) ?_; simp -dsimp only [go_sem, reduceIte, reduceCtorEq, Nat.reduceEqDiff, Nat.reduceLT, Nat.reduceLeDiff, Nat.reduceAdd, Nat.reduceMul, Nat.reduceSub, Int.reduceToNat, Int.reduceNeg, hn])
    | (refine And.intro (by first | rfl | omega | decide | (refine ⟨?_, ?_⟩ <;> (first | rfl | omega | decide)) | (refine ⟨?_, ?_, ?_⟩ <;> (first | rfl | omega | decide)) | (refine ⟨?_, ?_, ?_, ?_⟩ <;> (first | rfl | omega | decide))) ?_)
    | fail)
  all_goals simp_all

set_option maxHeartbeats 2000000 in
theorem markOffice_of (k0 : Nat) (hk0 : k0 ≤ 2 ^ 59) {Ls : List (List (List Int))} {tb : Option Addr} {tn tc : Nat} {xt : Option Nat} {TV : List Sl} {M : Nat → Vs.Mem} (hk : ∀ d, d ∈ Ls → smallC d) (hT : TV.length ≤ 1000) {S : Nat → Prop} {w : World} {us : Array Value} (hS : ∀ b, S b → b < w.heap.size) (he : Env S w) (hno : ∀ b, OfD xt TV M b → ¬ S b) (ho : Of w Ls (Value.slice tb tn tc) xt TV M)
    (hus : us.size = 2) (hr : ∀ j, j < 2 → RC S w (([.agg [.v (.slice tb tn tc), .sl 1 []], .v (.int .i64 (k0 : Nat))] : List AV).getD j .junk) (us.getD j undef)) :
    Calls Try.prog F.laws_markOffice us w fun e w' => e = .returned (.int .i64 (k0 + totS Ls : Nat)) ∧ w.heap.size ≤ w'.heap.size ∧ (∀ b, b < w.heap.size → ¬ OfD xt TV M b → w'.heap[b]? = w.heap[b]?) ∧ (w'.os = w.os ∧ w'.output = w.output) ∧ Of w' (mkS k0 Ls) (Value.slice tb tn tc) xt TV M := by
  obtain ⟨wO, rfl⟩ : ∃ x, x = w := ⟨_, rfl⟩
  obtain ⟨h1, h2, _⟩ := Cd.laws_markOffice_ok
  obtain ⟨body, hb, hc⟩ := Option.bind_eq_some_iff.1 h2
  have hz : (Try.f16.body.map (zB Try.f16.ntmps (drawnG Try.prog))) = some true := by kernel_rfl
  rw [hb] at hz
  have hdr := drawn_ok Try.mixed
  let D : Nat → Prop := OfD xt TV M
  refine calls_at (dr := drawnG Try.prog) (ac := Cd.laws_markOffice) h1 hb hc (by simpa using hz) (args := [.agg [.v (.slice tb tn tc), .sl 1 []], .v (.int .i64 (k0 : Nat))]) (by rw [Cd.laws_markOffice_nt]; exact Nat.le_of_ble_eq_true rfl) hS he hus hr D fun a hok => ?_
  generalize hC0 : (⟨Try.f16.ntmps, wO, S, D, fun _ => none, fun _ => 0, fun _ => none⟩ : Ctx) = C0 at hok
  have hnt : C0.nt = Try.f16.ntmps := by rw [← hC0]
  have hw0 : C0.w0 = wO := by rw [← hC0]
  have hM : ∀ b, D b → C0.Mut b := fun b h => by rw [← hC0]; exact h
  have hl1 := hok.later
  have hh1 := hok.hid (D := D) (fun b hb => ho.ltD b hb) hno (fun b _ n hn => by simp [St.f, Vs.hlook] at hn)
  have hok1 := hok.anew
  generalize hC1 : C0.anew wO S _ _ = C1 at hl1 hh1 hok1
  have hcw : C1.w0 = wO := by rw [← hC1]; rfl
  have hcnt1 : C1.nt = Try.f16.ntmps := hl1.nt.trans hnt
  unfold Cd.laws_markOffice
  refine At.step ⟨[(1, .v (.int .i64 (k0 : Nat))), (2, .ptr (.t 2 0) 0 0)], [(.t 2 0, .var [.v (.slice tb tn tc), .sl 1 []] false)]⟩ hdr hok1 hcnt1 ?_ fun a w1 S1 ρ1 κ1 hok => ?_
  · simp -dsimp only [go_sem, reduceIte, reduceCtorEq, Nat.reduceEqDiff, Nat.reduceLT, Nat.reduceLeDiff, Nat.reduceAdd, Nat.reduceMul, Nat.reduceSub, Int.reduceToNat, Int.reduceNeg, cC, List.replicate_succ, List.replicate_zero, List.flatten_cons, List.flatten_nil, List.cons_append, List.nil_append, List.set_cons_zero, List.set_cons_succ, List.length_cons, List.length_nil, List.length_set]
    try simp [Vs.LeL, Vs.look, Vs.hlook]
  refine At.seq (At.region (pre := [⟨some 5, .fieldAddr 0 (.tmp 2), none⟩, ⟨some 6, .load false 1 (.tmp 5), none⟩, ⟨some 7, .mv (.tmp 1), none⟩]) (o := ⟨some 8, .call (.func F.laws_markCardSS) [(.tmp 6), (.tmp 7)] [0], none⟩) (post := [⟨some 1, .mv (.tmp 8), none⟩]) hok hcnt1 rfl ?_)
  let τ : St := ⟨[(6, .v (.slice tb tn tc)), (7, .v (.int .i64 (k0 : Nat))), (2, .ptr (.t 2 0) 0 0)], [(.t 2 0, .var [.v (.slice tb tn tc), .sl 1 []] false)]⟩
  refine Vs.vc_mono (K := fun σ' => LeL σ' τ) (fun σ1 hle1 => ?_) _ _ ?_
  rotate_left
  · simp -dsimp only [go_sem, reduceIte, reduceCtorEq, Nat.reduceEqDiff, Nat.reduceLT, Nat.reduceLeDiff, Nat.reduceAdd, Nat.reduceMul, Nat.reduceSub, Int.reduceToNat, Int.reduceNeg, cC, List.replicate_succ, List.replicate_zero, List.flatten_cons, List.flatten_nil, List.cons_append, List.nil_append, List.set_cons_zero, List.set_cons_succ, List.length_cons, List.length_nil, List.length_set]
    first | (simp [τ, Vs.LeL, Vs.look, Vs.hlook]; done) | (and_intros <;> first | omega | (simp [τ, Vs.LeL, Vs.look, Vs.hlook]; done))
  intro a w S2 ρ2 κ2 op ops hokx hcop
  have hok2 := hokx.le hle1
  have hD2 := hh1.same hok2
  have ho2 : Of w Ls (Value.slice tb tn tc) xt TV M := ho.same (by have := hok2.size; rw [hcw] at this; exact this) fun b hb => by have := hD2.1 b hb; rw [hcw] at this; exact this
  have h6 : a.tmps.getD 6 undef = Value.slice tb tn tc := inv_v (hok2.slots 6)
  have h7 : a.tmps.getD 7 undef = .int .i64 (k0 : Nat) := inv_v (hok2.slots 7)
  have hargs : ([Operand.tmp 6, .tmp 7].map a.eval).toArray = #[Value.slice tb tn tc, .int .i64 (k0 : Nat)] := by
    show #[a.tmps.getD 6 undef, a.tmps.getD 7 undef] = _
    rw [h6, h7]
  refine op_call (by rw [hcnt1]; exact hcop) rfl hok2 (Vs.CodeIsR.has Cd.laws_markCardSS_ok) ?_
  rw [hargs]
  refine (markCardSS_of k0 hk0 hk hT hok2.hok.dom hok2.hok.env (fun b hb => hD2.2.2.1 b hb) ho2).mono ?_
  rintro e w' ⟨rfl, q1, q2, q3, q4⟩
  have hok3 := OK.wrote hh1 hok2 q1 q2 q3
  have hla3 := OK.wroteM hl1 (fun b hb => .inr (hM b hb)) hok2 q1 q2 q3
  have hnt3 : (C1.anew w' S2 τ.f.h ρ2).nt = Try.f16.ntmps := hcnt1
  have hCw3 : (C1.anew w' S2 τ.f.h ρ2).w0 = w' := rfl
  have hD3 : ∀ b, D b → b < w'.heap.size ∧ ¬ (C1.anew w' S2 τ.f.h ρ2).Mut b := fun b hb => ⟨Nat.lt_of_lt_of_le (hD2.2.1 b hb) q1, fun ⟨n, g1, g2⟩ => hD2.2.2.2 b hb n g1 g2⟩
  generalize C1.anew w' S2 τ.f.h ρ2 = C3 at hok3 hla3 hnt3 hCw3 hD3
  let σ4 : St := ⟨(8, .v (.int .i64 ((k0 + totS Ls : Nat) : Int))) :: τ.s, τ.h⟩
  have hok4 : OK C3 σ4.f (a.put (some 8) (.int .i64 ((k0 + totS Ls : Nat) : Int))) w' S2 ρ2 κ2 := hok3.put (x := .v (.int .i64 ((k0 + totS Ls : Nat) : Int))) (v := .int .i64 ((k0 + totS Ls : Nat) : Int)) (d := some 8) (.clo (.v _)) (fun d hd => by
    obtain rfl := Option.some.inj hd
    rw [hnt3, Cd.laws_markOffice_nt]; omega)
  refine ⟨_, rfl, C3, σ4, S2, ρ2, κ2, fun σ' => LeL σ' ⟨[(1, .v (.int .i64 ((k0 + totS Ls : Nat) : Int))), (2, .ptr (.t 2 0) 0 0)], [(.t 2 0, .var [.v (.slice tb tn tc), .sl 1 []] false)]⟩, hnt3, hok4, ?_, fun a w hg => ?_⟩
  · simp only [σ4, τ]
    simp -dsimp only [go_sem, reduceIte, reduceCtorEq, Nat.reduceEqDiff, Nat.reduceLT, Nat.reduceLeDiff, Nat.reduceAdd, Nat.reduceMul, Nat.reduceSub, Int.reduceToNat, Int.reduceNeg, cC, List.replicate_succ, List.replicate_zero, List.flatten_cons, List.flatten_nil, List.cons_append, List.nil_append, List.set_cons_zero, List.set_cons_succ, List.length_cons, List.length_nil, List.length_set]
    simp [Vs.LeL, Vs.look, Vs.hlook]
  obtain ⟨S5, ρ5, κ5, hok5⟩ := hg.le
  show At Try.prog _ _ (.seq _ (.seq _ .ret)) _ a w
  refine At.step ⟨[(1, .v (.int .i64 ((k0 + totS Ls : Nat) : Int)))], []⟩ hdr hok5 hnt3 ?_ fun a w6 S6 ρ6 κ6 hok6 => ?_
  · simp -dsimp only [go_sem, reduceIte, reduceCtorEq, Nat.reduceEqDiff, Nat.reduceLT, Nat.reduceLeDiff, Nat.reduceAdd, Nat.reduceMul, Nat.reduceSub, Int.reduceToNat, Int.reduceNeg, cC, List.replicate_succ, List.replicate_zero, List.flatten_cons, List.flatten_nil, List.cons_append, List.nil_append, List.set_cons_zero, List.set_cons_succ, List.length_cons, List.length_nil, List.length_set, List.flatMap_cons, List.flatMap_nil, cellN, topN, nestN, List.getD_cons_zero, List.append_nil, List.mem_singleton, List.mem_cons, List.not_mem_nil, or_false, false_or, Vs.Name.t.injEq]
    refine CallK.flat (B := []) (markTotalSS0 _) rfl ?_
    simp -dsimp only [go_sem, reduceIte, reduceCtorEq, Nat.reduceEqDiff, Nat.reduceLT, Nat.reduceLeDiff, Nat.reduceAdd, Nat.reduceMul, Nat.reduceSub, Int.reduceToNat, Int.reduceNeg, cC, List.replicate_succ, List.replicate_zero, List.flatten_cons, List.flatten_nil, List.cons_append, List.nil_append, List.set_cons_zero, List.set_cons_succ, List.length_cons, List.length_nil, List.length_set, List.flatMap_cons, List.flatMap_nil, cellN, topN, nestN, List.getD_cons_zero, List.append_nil, List.mem_singleton, List.mem_cons, List.not_mem_nil, or_false, false_or, Vs.Name.t.injEq]
    simp [Vs.LeL, Vs.look, Vs.hlook]
  refine At.step ⟨[(4, .v (.int .i64 ((k0 + totS Ls : Nat) : Int)))], []⟩ hdr hok6 hnt3 ?_ fun a w7 S7 ρ7 κ7 hok7 => ?_
  · simp -dsimp only [go_sem, reduceIte, reduceCtorEq, Nat.reduceEqDiff, Nat.reduceLT, Nat.reduceLeDiff, Nat.reduceAdd, Nat.reduceMul, Nat.reduceSub, Int.reduceToNat, Int.reduceNeg, cC, List.replicate_succ, List.replicate_zero, List.flatten_cons, List.flatten_nil, List.cons_append, List.nil_append, List.set_cons_zero, List.set_cons_succ, List.length_cons, List.length_nil, List.length_set]
    simp [Vs.LeL, Vs.look, Vs.hlook]
  refine At.ret ⟨.inl rfl, hok7.defers, ?_⟩
  obtain ⟨x, v, hx', hxv, hrun⟩ := Vs.res_run hok7 (fn := Try.f16) (K := fun x => x = .v (.int .i64 ((k0 + totS Ls : Nat) : Int))) (by
    show Vs.resL Try.prog _ _ [_]
    simp [Vs.resL, Vs.resV, Vs.look, Vs.oneOr])
  subst hx'
  have hb7 := hok7.back hla3
  refine ⟨v, hrun, by rw [inv_v hxv], by have := hb7.size; rw [hw0] at this; exact this, fun b hb hno' => ?_, by have := hb7.out; rw [hw0] at this; exact this, ?_⟩
  · have := hb7.old b (by rw [hw0]; exact hb) (by rw [← hC0]; exact hno'); rw [hw0] at this; exact this
  · refine q4.same (by have := hok7.size; rw [hCw3] at this; exact this) fun b hb => ?_
    have := hok7.old b (by rw [hCw3]; exact (hD3 b hb).1) (hD3 b hb).2
    rw [hCw3] at this; exact this
end Go.Proofs.Ytokfhfdnmnblfaa
