/- The law FnExactDeckAt, joined. -/
import Derived.Test.YtokfhfdnmnblfaaYwMq
import Derived.Test.YtokfhfdnmnblfaaYwMb
import Derived.Test.YtokfhfdnmnblfaaYuP
import Derived.Test.YtokfhfdnmnblfaaVtR
import Derived.Test.YtokfhfdnmnblfaaVuG
namespace Go.Proofs.Ytokfhfdnmnblfaa
open Go.Vs
set_option linter.unusedSectionVars false
variable [Vs.Envs]
set_option linter.unusedSimpArgs false
set_option linter.unusedVariables false
attribute [local irreducible] Vs.Fn mkD totD
theorem szI_mono {l : List Int} {n : Int} (hl : l.length < 2 ^ 63) (h0 : 0 ≤ n) (hn : n ≤ 1048576) (h : 0 ≤ szI l n) : szI l n ≤ n := (szI_le hl h0 hn h).1
def bigC (l : List (List Int)) : Prop := l.length < 2 ^ 63 ∧ ∀ c, c ∈ l → c.length < 2 ^ 63
def szDk (l : List (List Int)) (n : Int) : Int := szL szI l n
theorem szDk_small {l : List (List Int)} (hb : bigC l) {n : Int} (h0 : 0 ≤ n) (hn : n ≤ 1048576) (h : 0 ≤ szDk l n) : smallC l := by
  refine ⟨?_, fun c hc => ?_⟩
  · have := (szL_mono (fun x hx _ a b c => szI_mono (hb.2 x hx) a b c) hb.1 h0 hn h).2; omega
  · obtain ⟨m, h1, h2, h3⟩ := szL_in (fun x hx _ a b c => szI_mono (hb.2 x hx) a b c) hb.1 h0 hn h c hc
    have := (szI_le (hb.2 c hc) h1 h2 h3).2; omega
abbrev ACard := { l : List I64 // l.length < 2 ^ 63 }
abbrev ACards := { l : List ACard // l.length < 2 ^ 63 }
def gCards (d : ACards) : List (List Int) := d.1.map fun c => c.1.map fun n => n.1
theorem gCards_big (d : ACards) : bigC (gCards d) := by
  refine ⟨by simpa [gCards] using d.2, fun c hc => ?_⟩
  obtain ⟨x, _, rfl⟩ := List.mem_map.1 hc
  simpa using x.2
theorem gCards_enc (d : ACards) : E cC (gCards d) = d.1.map eCard := by
  simp only [gCards, E_map]
  congr 1
  funext c
  simp only [cC, E_map]
  rfl
attribute [local irreducible] daL daC
theorem lw_lwDa_small (l : List (List Int)) (n k : Int) (hk : smallC l) : smallC (daL l n k) := by
  exact (daL_ok hk).1
set_option maxHeartbeats 1000000 in
theorem lwDaA (C : Ctx) (l : List (List Int)) (n k : Int)  (gb : bigC l) :
    Vs.wpcN Try.prog C (drawnG Try.prog) 5 Cd.laws_FnExactDeckAt (fun σ' => LeL σ' ⟨[(0, .sl 1 (E cC l)), (1, .v (.int .i64 n)), (2, .v (.int .i64 k)), (8, .sl 1 (E cC (daL l n k))), (9, .v (.int .i64 (daC l n k)))], []⟩ ∧ smallC l) (fun e σ' => match e with | .ret => LeL σ' ⟨[(6, .v (.bool true))], []⟩ | .exit _ => False) ⟨ini 0 [.sl 1 (E cC l), .v (.int .i64 n), .v (.int .i64 k)], []⟩ := by
  unfold Cd.laws_FnExactDeckAt
  simp -dsimp only [go_sem, reduceIte, reduceCtorEq, Nat.reduceEqDiff, Nat.reduceLT, Nat.reduceLeDiff, Nat.reduceAdd, Nat.reduceMul, Nat.reduceSub, Int.reduceToNat, Int.reduceNeg, List.length_nil]
  refine CallK.flat (szCardS l 1048576 gb.2 gb.1 ⟨by omega, by omega⟩) rfl ?_
  simp -dsimp only [go_sem, reduceIte, reduceCtorEq, Nat.reduceEqDiff, Nat.reduceLT, Nat.reduceLeDiff, Nat.reduceAdd, Nat.reduceMul, Nat.reduceSub, Int.reduceToNat, Int.reduceNeg]
  refine Br.mk (fun h3 => by simp -dsimp only [go_sem, reduceIte, reduceCtorEq, Nat.reduceEqDiff, Nat.reduceLT, Nat.reduceLeDiff, Nat.reduceAdd, Nat.reduceMul, Nat.reduceSub, Int.reduceToNat, Int.reduceNeg]; simp [Vs.LeL, Vs.look, Vs.hlook]) (fun h3 => ?_)
  simp only [decide_eq_false_iff_not] at h3
  have hk := szDk_small gb (n := 1048576) (by omega) (by omega) (by unfold szDk; omega)
  simp -dsimp only [go_sem, reduceIte, reduceCtorEq, Nat.reduceEqDiff, Nat.reduceLT, Nat.reduceLeDiff, Nat.reduceAdd, Nat.reduceMul, Nat.reduceSub, Int.reduceToNat, Int.reduceNeg]
  repeat' (first
    | (refine RgK.mk rfl ?_; simp -dsimp only [go_sem, reduceIte, reduceCtorEq, Nat.reduceEqDiff, Nat.reduceLT, Nat.reduceLeDiff, Nat.reduceAdd, Nat.reduceMul, Nat.reduceSub, Int.reduceToNat, Int.reduceNeg])
    | (refine Br.mk (fun h => ?_) (fun h => ?_) <;> simp -dsimp only [go_sem, reduceIte, reduceCtorEq, Nat.reduceEqDiff, Nat.reduceLT, Nat.reduceLeDiff, Nat.reduceAdd, Nat.reduceMul, Nat.reduceSub, Int.reduceToNat, Int.reduceNeg, h, ])
    | (refine CallK.flat (by first | exact toCardS l hk.2 hk.1 | exact spec_DeckAt l n k hk) rfl ?_; simp -dsimp only [go_sem, reduceIte, reduceCtorEq, Nat.reduceEqDiff, Nat.reduceLT, Nat.reduceLeDiff, Nat.reduceAdd, Nat.reduceMul, Nat.reduceSub, Int.reduceToNat, Int.reduceNeg])
    | (refine CallK.pure (by first | exact toCardS l hk.2 hk.1 | exact spec_DeckAt l n k hk) ?_; simp -dsimp only [go_sem, reduceIte, reduceCtorEq, Nat.reduceEqDiff, Nat.reduceLT, Nat.reduceLeDiff, Nat.reduceAdd, Nat.reduceMul, Nat.reduceSub, Int.reduceToNat, Int.reduceNeg])
    | (refine And.intro (by first | rfl | omega | decide | (refine ⟨?_, ?_⟩ <;> (first | rfl | omega | decide)) | (refine ⟨?_, ?_, ?_⟩ <;> (first | rfl | omega | decide)) | (refine ⟨?_, ?_, ?_, ?_⟩ <;> (first | rfl | omega | decide))) ?_)
    | fail)

  all_goals first | exact ⟨by simp [Vs.LeL, Vs.look, Vs.hlook], hk⟩ | trace_state

set_option maxHeartbeats 1000000 in
theorem lwDaC (C : Ctx) (l : List (List Int)) (n k : Int) (hk : smallC l) (a1 a6 a8 a9 : Value) (k1 : ∀ S w, Vs.Env S w → RC S w (.sl 1 (E cC l)) a1) (k6 : ∀ S w, Vs.Env S w → RC S w (.sl 1 (E cC (daL l n k))) a6) (k8 : ∀ S w, Vs.Env S w → RC S w (.sl 1 (E cC l)) a8) (k9 : ∀ S w, Vs.Env S w → RC S w (.sl 1 (E cC (daL l n k))) a9) :
    Vs.wpcN Try.prog C (drawnG Try.prog) 3 (Vs.dropS 7 Cd.laws_FnExactDeckAt) (fun σ' => LeL σ' ⟨[(0, .v a1), (1, .v (.int .i64 n)), (2, .v (.int .i64 k)), (8, .v a6), (9, .v (.int .i64 (daC l n k))), (10, .v a8), (11, .v a9), (12, .v (.int .i64 (daC l n k))), (13, .v (.int .i64 1))], []⟩ ∧ True) (fun _ _ => False) ⟨[(0, .v a1), (1, .v (.int .i64 n)), (2, .v (.int .i64 k)), (8, .v a6), (9, .v (.int .i64 (daC l n k))), (10, .v a8), (11, .v a9), (12, .v (.int .i64 (daC l n k)))], []⟩ := by
  have hlw := lw_lwDa_small l n k hk
  have n0 : ((daC l n k) != (daC l n k)) = false := by simp
  have KG := (eqCardS (daL l n k) hlw.2 hlw.1).known (ys' := [.v a9, .v a6]) rfl (fun j hj => by match j, hj with | 0, _ => exact .inr ⟨_, rfl, k9⟩ | 1, _ => exact .inr ⟨_, rfl, k6⟩)
  have KC := (toCardS l hk.2 hk.1).known (ys' := [.v a1]) rfl (fun j hj => by match j, hj with | 0, _ => exact .inr ⟨_, rfl, k1⟩)
  have KX := (eqCardS (l) hk.2 hk.1).known (ys' := [.v a8, .sl 1 (E cC l)]) rfl (fun j hj => by match j, hj with | 0, _ => exact .inr ⟨_, rfl, k8⟩ | 1, _ => exact .inl rfl)
  generalize hc0 : (daC l n k) = c at *
  unfold Cd.laws_FnExactDeckAt
  simp only [Vs.dropS]
  simp -dsimp only [go_sem, reduceIte, reduceCtorEq, Nat.reduceEqDiff, Nat.reduceLT, Nat.reduceLeDiff, Nat.reduceAdd, Nat.reduceMul, Nat.reduceSub, Int.reduceToNat, Int.reduceNeg, List.length_nil, n0]
  repeat' (first
    | (refine RgK.mk rfl ?_; simp -dsimp only [go_sem, reduceIte, reduceCtorEq, Nat.reduceEqDiff, Nat.reduceLT, Nat.reduceLeDiff, Nat.reduceAdd, Nat.reduceMul, Nat.reduceSub, Int.reduceToNat, Int.reduceNeg, List.length_nil, n0])
    | (refine Br.mk (fun h => ?_) (fun h => ?_) <;> simp -dsimp only [go_sem, reduceIte, reduceCtorEq, Nat.reduceEqDiff, Nat.reduceLT, Nat.reduceLeDiff, Nat.reduceAdd, Nat.reduceMul, Nat.reduceSub, Int.reduceToNat, Int.reduceNeg, h, List.length_nil, n0])
    | (refine CallK.flat (by first | exact KG | exact KC | exact KX) rfl ?_; simp -dsimp only [go_sem, reduceIte, reduceCtorEq, Nat.reduceEqDiff, Nat.reduceLT, Nat.reduceLeDiff, Nat.reduceAdd, Nat.reduceMul, Nat.reduceSub, Int.reduceToNat, Int.reduceNeg, List.length_nil, n0])
    | (refine CallK.pure (by first | exact KG | exact KC | exact KX) ?_; simp -dsimp only [go_sem, reduceIte, reduceCtorEq, Nat.reduceEqDiff, Nat.reduceLT, Nat.reduceLeDiff, Nat.reduceAdd, Nat.reduceMul, Nat.reduceSub, Int.reduceToNat, Int.reduceNeg, List.length_nil, n0])
    | (refine And.intro (by first | rfl | omega | decide | (refine ⟨?_, ?_⟩ <;> (first | rfl | omega | decide)) | (refine ⟨?_, ?_, ?_⟩ <;> (first | rfl | omega | decide)) | (refine ⟨?_, ?_, ?_, ?_⟩ <;> (first | rfl | omega | decide))) ?_)
    | fail)
  all_goals first | (simp [Vs.LeL, Vs.look, Vs.hlook]; done) | trace_state

set_option maxHeartbeats 1000000 in
theorem lwDaD (C : Ctx) (l : List (List Int)) (n k : Int) (hk : smallC l) (a1 a6 a9 : Value) (m : Nat) (k6 : ∀ S w, Vs.Env S w → RC S w (.sl 1 (E cC (daL l n k))) a6) (k9 : ∀ S w, Vs.Env S w → RC S w (.sl 1 (E cC (daL l n k))) a9) :
    Vs.wpcN Try.prog C (drawnG Try.prog) 2 (Vs.dropS 11 Cd.laws_FnExactDeckAt) (fun σ' => LeL σ' ⟨[(0, .v a1), (1, .v (.int .i64 n)), (2, .v (.int .i64 k)), (8, .v a6), (9, .v (.int .i64 (daC l n k))), (11, .v a9), (14, .v (.int .i64 1))], []⟩ ∧ True) (fun _ _ => False) ⟨[(0, .v a1), (1, .v (.int .i64 n)), (2, .v (.int .i64 k)), (8, .v a6), (9, .v (.int .i64 (daC l n k))), (11, .v a9), (12, .v (.int .i64 (daC l n k))), (13, .v (.int .i64 (m : Nat)))], []⟩ := by
  have hlw := lw_lwDa_small l n k hk
  have n0 : ((daC l n k) != (daC l n k)) = false := by simp
  have hm : decide ((m : Int) < 0) = false := decide_eq_false (by omega)
  have KG := (eqCardS (daL l n k) hlw.2 hlw.1).known (ys' := [.v a9, .v a6]) rfl (fun j hj => by match j, hj with | 0, _ => exact .inr ⟨_, rfl, k9⟩ | 1, _ => exact .inr ⟨_, rfl, k6⟩)
  generalize hc0 : (daC l n k) = c at *
  unfold Cd.laws_FnExactDeckAt
  simp only [Vs.dropS]
  simp -dsimp only [go_sem, reduceIte, reduceCtorEq, Nat.reduceEqDiff, Nat.reduceLT, Nat.reduceLeDiff, Nat.reduceAdd, Nat.reduceMul, Nat.reduceSub, Int.reduceToNat, Int.reduceNeg, List.length_nil, n0, hm]
  repeat' (first
    | (refine RgK.mk rfl ?_; simp -dsimp only [go_sem, reduceIte, reduceCtorEq, Nat.reduceEqDiff, Nat.reduceLT, Nat.reduceLeDiff, Nat.reduceAdd, Nat.reduceMul, Nat.reduceSub, Int.reduceToNat, Int.reduceNeg, List.length_nil, n0, hm])
    | (refine Br.mk (fun h => ?_) (fun h => ?_) <;> simp -dsimp only [go_sem, reduceIte, reduceCtorEq, Nat.reduceEqDiff, Nat.reduceLT, Nat.reduceLeDiff, Nat.reduceAdd, Nat.reduceMul, Nat.reduceSub, Int.reduceToNat, Int.reduceNeg, h, List.length_nil, n0, hm])
    | (refine CallK.flat (by first | exact KG) rfl ?_; simp -dsimp only [go_sem, reduceIte, reduceCtorEq, Nat.reduceEqDiff, Nat.reduceLT, Nat.reduceLeDiff, Nat.reduceAdd, Nat.reduceMul, Nat.reduceSub, Int.reduceToNat, Int.reduceNeg, List.length_nil, n0, hm])
    | (refine CallK.pure (by first | exact KG) ?_; simp -dsimp only [go_sem, reduceIte, reduceCtorEq, Nat.reduceEqDiff, Nat.reduceLT, Nat.reduceLeDiff, Nat.reduceAdd, Nat.reduceMul, Nat.reduceSub, Int.reduceToNat, Int.reduceNeg, List.length_nil, n0, hm])
    | (refine And.intro (by first | rfl | omega | decide | (refine ⟨?_, ?_⟩ <;> (first | rfl | omega | decide)) | (refine ⟨?_, ?_, ?_⟩ <;> (first | rfl | omega | decide)) | (refine ⟨?_, ?_, ?_, ?_⟩ <;> (first | rfl | omega | decide))) ?_)
    | fail)
  all_goals first | (simp [Vs.LeL, Vs.look, Vs.hlook]; done) | trace_state

set_option maxHeartbeats 1000000 in
theorem lwDaE (C : Ctx) (l : List (List Int)) (n k : Int) (hk : smallC l) (a1 a6 a9 : Value) (k1 : ∀ S w, Vs.Env S w → RC S w (.sl 1 (E cC l)) a1) (k6 : ∀ S w, Vs.Env S w → RC S w (.sl 1 (E cC (daL l n k))) a6) (k9 : ∀ S w, Vs.Env S w → RC S w (.sl 1 (E cC (mkD 1 (daL l n k)))) a9) :
    wpc Try.prog C (drawnG Try.prog) (Vs.dropS 14 Cd.laws_FnExactDeckAt) (fun _ => False) (fun e σ' => match e with | .ret => LeL σ' ⟨[(6, .v (.bool true))], []⟩ | .exit _ => False) ⟨[(0, .v a1), (1, .v (.int .i64 n)), (2, .v (.int .i64 k)), (8, .v a6), (9, .v (.int .i64 (daC l n k))), (11, .v a9), (14, .v (.int .i64 (1 + totD (daL l n k) : Nat)))], []⟩ := by
  have hlw := lw_lwDa_small l n k hk
  have n0 : ((daC l n k) != (daC l n k)) = false := by simp
  have hI := impl_DeckAtW l n k hk
  have hH := heldCardS (daL l n k) 1 hlw (by omega)
  have hn2 : decide (((1 + totD (daL l n k) : Nat) : Int) < 0) = false := decide_eq_false (by omega)
  have hn3 : (((1 + totD (daL l n k) : Nat) : Int) != ((1 + totD (daL l n k) : Nat) : Int)) = false := by simp
  have KH := (hH).known (ys' := [.v a9, .v (.int .i64 ((1 : Nat) : Int))]) rfl (fun j hj => by match j, hj with | 0, _ => exact .inr ⟨_, rfl, k9⟩ | 1, _ => exact .inl rfl)
  have KC := (toCardS l hk.2 hk.1).known (ys' := [.v a1]) rfl (fun j hj => by match j, hj with | 0, _ => exact .inr ⟨_, rfl, k1⟩)
  have KG := (eqCardS (daL l n k) hlw.2 hlw.1).known (ys' := [.sl 1 (E cC (daL l n k)), .v a6]) rfl (fun j hj => by match j, hj with | 0, _ => exact .inl rfl | 1, _ => exact .inr ⟨_, rfl, k6⟩)
  generalize hc0 : (daC l n k) = c at *
  unfold Cd.laws_FnExactDeckAt
  simp only [Vs.dropS]
  simp -dsimp only [go_sem, reduceIte, reduceCtorEq, Nat.reduceEqDiff, Nat.reduceLT, Nat.reduceLeDiff, Nat.reduceAdd, Nat.reduceMul, Nat.reduceSub, Int.reduceToNat, Int.reduceNeg, List.length_nil, n0, hn2, hn3]
  repeat' (first
    | (refine RgK.mk rfl ?_; simp -dsimp only [go_sem, reduceIte, reduceCtorEq, Nat.reduceEqDiff, Nat.reduceLT, Nat.reduceLeDiff, Nat.reduceAdd, Nat.reduceMul, Nat.reduceSub, Int.reduceToNat, Int.reduceNeg, List.length_nil, n0, hn2, hn3])
    | (refine Br.mk (fun h => ?_) (fun h => ?_) <;> simp -dsimp only [go_sem, reduceIte, reduceCtorEq, Nat.reduceEqDiff, Nat.reduceLT, Nat.reduceLeDiff, Nat.reduceAdd, Nat.reduceMul, Nat.reduceSub, Int.reduceToNat, Int.reduceNeg, h, List.length_nil, n0, hn2, hn3])
    | (refine CallK.flat (by first | exact KH | exact KC | exact KG | exact hI) rfl ?_; simp -dsimp only [go_sem, reduceIte, reduceCtorEq, Nat.reduceEqDiff, Nat.reduceLT, Nat.reduceLeDiff, Nat.reduceAdd, Nat.reduceMul, Nat.reduceSub, Int.reduceToNat, Int.reduceNeg, List.length_nil, n0, hn2, hn3])
    | (refine CallK.pure (by first | exact KH | exact KC | exact KG | exact hI) ?_; simp -dsimp only [go_sem, reduceIte, reduceCtorEq, Nat.reduceEqDiff, Nat.reduceLT, Nat.reduceLeDiff, Nat.reduceAdd, Nat.reduceMul, Nat.reduceSub, Int.reduceToNat, Int.reduceNeg, List.length_nil, n0, hn2, hn3])
    | (refine And.intro (by first | rfl | omega | decide | (refine ⟨?_, ?_⟩ <;> (first | rfl | omega | decide)) | (refine ⟨?_, ?_, ?_⟩ <;> (first | rfl | omega | decide)) | (refine ⟨?_, ?_, ?_, ?_⟩ <;> (first | rfl | omega | decide))) ?_)
    | fail)
  all_goals first | (simp [Vs.LeL, Vs.look, Vs.hlook]; done) | trace_state
end Go.Proofs.Ytokfhfdnmnblfaa

namespace Go.Proofs.Ytokfhfdnmnblfaa
open Go.Vs
set_option linter.unusedSectionVars false
variable [Vs.Envs]
set_option linter.unusedSimpArgs false
set_option linter.unusedVariables false
attribute [local irreducible] Vs.Fn mkD totD daL daC
set_option maxHeartbeats 4000000 in
theorem law_lwDa (l : List (List Int)) (n k : Int)  (gb : bigC l) : Vs.Fn Try.prog F.laws_FnExactDeckAt [] [.sl 1 (E cC l), .v (.int .i64 n), .v (.int .i64 k)] (.v (.bool true)) [] := by
  refine Vs.Fn.of_calls (Vs.CodeIsR.has Cd.laws_FnExactDeckAt_ok) (by intro y hy; simp only [List.mem_cons, List.not_mem_nil, or_false] at hy; rcases hy with rfl | rfl | rfl <;> rfl) rfl fun S w vs hS he hvs hargs => ?_
  obtain ⟨h1, h2, _⟩ := Cd.laws_FnExactDeckAt_ok
  obtain ⟨body, hb, hc⟩ := Option.bind_eq_some_iff.1 h2
  have hz : (Try.f3.body.map (zB Try.f3.ntmps (drawnG Try.prog))) = some true := by kernel_rfl
  rw [hb] at hz
  refine Vs.Pt.calls (dr := drawnG Try.prog) (ac := Cd.laws_FnExactDeckAt) h1 hb hc (by simpa using hz) (args := [.sl 1 (E cC l), .v (.int .i64 n), .v (.int .i64 k)]) (by rw [Cd.laws_FnExactDeckAt_nt]; exact Nat.le_of_ble_eq_true rfl) hS he hvs hargs fun C1 a hnt hw0 hS0 hp => ?_
  have hM := hp.nomut
  subst hw0
  have MK := fun (l : List (List Int)) (hk : smallC l) (S : Nat → Prop) (w : World) (v : Value) (m : Vs.Mem) hS he hno hd => markCardS_dk (S := S) (w := w) (v := v) (l := l) (m := m) 1 (by omega) hk hS he hno hd
  refine hp.go (drawn_ok Try.mixed) hnt 5 _ (τ := ⟨[(0, .sl 1 (E cC l)), (1, .v (.int .i64 n)), (2, .v (.int .i64 k)), (8, .sl 1 (E cC (daL l n k))), (9, .v (.int .i64 (daC l n k)))], []⟩) (E := (fun e σ' => match e with | .ret => LeL σ' ⟨[(6, .v (.bool true))], []⟩ | .exit _ => False)) (fun p hp => by cases hp) (fun C hC => lwDaA C l n k  gb) (fun i σ h => h) (fun C a w hl hg => ⟨.inl rfl, Vs.law_end hl hM Cd.laws_FnExactDeckAt_rs hg⟩) fun aA wA SA pA hpA hX => ?_
  have hk := hX
  have hszA := hpA.size
  have heA := hpA.env
  have hdA := hpA.dom
  have EM := fun (w' : World) (h : ∀ b, SA b → w'.heap[b]? = wA.heap[b]?) => heA.mono (fun _ h => h) h
  have hlw := lw_lwDa_small l n k hk
  have r1 : RC SA wA (.sl 1 (E cC l)) (aA.tmps.getD 0 undef) := hpA.val (t := 0) rfl
  have r6 : RC SA wA (.sl 1 (E cC (daL l n k))) (aA.tmps.getD 8 undef) := hpA.val (t := 8) rfl
  -- the deck's copy
  have hpS : ∃ a1 a6, a1 = aA.tmps.getD 0 undef ∧ a6 = aA.tmps.getD 8 undef ∧ Pt (Vs.keepE SA wA) C1 (⟨[(0, .v a1), (1, .v (.int .i64 n)), (2, .v (.int .i64 k)), (8, .v a6), (9, .v (.int .i64 (daC l n k)))], []⟩ : St) aA wA SA :=
    ⟨_, _, rfl, rfl, hpA.set [(0, .v (aA.tmps.getD 0 undef)), (1, .v (.int .i64 n)), (2, .v (.int .i64 k)), (8, .v (aA.tmps.getD 8 undef)), (9, .v (.int .i64 (daC l n k)))] (fun p hp => by
      simp only [List.mem_cons, List.not_mem_nil, or_false] at hp
      rcases hp with rfl | rfl | rfl | rfl | rfl
      · exact .inr (.v _)
      · exact .inl ⟨rfl, rfl⟩
      · exact .inl ⟨rfl, rfl⟩
      · exact .inr (.v _)
      · exact .inl ⟨rfl, rfl⟩)⟩
  obtain ⟨a1, a6, e1, e6, hpS⟩ := hpS
  rw [← e1] at r1
  rw [← e6] at r6
  clear e1 e6 hpA
  letI IS := Vs.keepE SA wA
  show Vs.At Try.prog Try.f3.ntmps (drawnG Try.prog) (.seq _ (Vs.dropS 6 Cd.laws_FnExactDeckAt)) _ aA wA
  refine At.seq (At.rg (hpS.rg hnt (pre := [⟨some 31, .mv (.tmp 0), none⟩]) (post := ⟨some 32, .call (.func F.laws_toCardS) ([31].map .tmp) [], none⟩ :: [⟨some 10, .mv (.tmp 32), none⟩]) (τ := ⟨[(31, .v a1), (0, .v a1), (1, .v (.int .i64 n)), (2, .v (.int .i64 k)), (8, .v a6), (9, .v (.int .i64 (daC l n k)))], []⟩) (fun p hp => by cases hp) ?_ fun a2 w2 S2 p2 hp2 => hp2.rgcall hnt (ts := [31]) (ys := [.v a1]) (Vs.CodeIsR.has Cd.laws_toCardS_ok) rfl (fun i hi => by match i, hi with | 0, _ => rfl) (fun i hi => by match i, hi with | 0, _ => rfl) fun us hus hr => ?_))
  · simp -dsimp only [go_sem, reduceIte, reduceCtorEq, Nat.reduceEqDiff, Nat.reduceLT, Nat.reduceLeDiff, Nat.reduceAdd, Nat.reduceMul, Nat.reduceSub, Int.reduceToNat, Int.reduceNeg, List.length_nil]
    simp [Vs.LeL, Vs.look, Vs.hlook]
  obtain rfl := Vs.us1 hus (Vs.rc_v (hr 0 Nat.zero_lt_one))
  have pA2 : Vs.Past SA wA S2 w2 := p2
  refine (toCardS_dk l hk hp2.dom hp2.env (pA2.rcS r1)).mono ?_
  rintro e w3 ⟨v1, rfl, hg1, m1, hd1, hn1⟩
  refine ⟨v1, rfl, ?_⟩
  have hp3 := (hp2.grow hg1 (D := m1.D) (fun b hb => ⟨hn1 b hb, hd1.lt b hb⟩) [(0, .v a1), (1, .v (.int .i64 n)), (2, .v (.int .i64 k)), (8, .v a6), (9, .v (.int .i64 (daC l n k)))] (fun p hp => by
      simp only [List.mem_cons, List.not_mem_nil, or_false] at hp
      rcases hp with rfl | rfl | rfl | rfl | rfl <;> exact ⟨rfl, .inl rfl⟩)).put (d := 32) (by rw [hnt, Cd.laws_FnExactDeckAt_nt]; omega) v1
  letI I3 := Vs.keepE (fun b => S2 b ∨ m1.D b) w3
  refine hp3.rg (pre := [⟨some 10, .mv (.tmp 32), none⟩]) (post := []) hnt (τ := ⟨[(0, .v a1), (1, .v (.int .i64 n)), (2, .v (.int .i64 k)), (8, .v a6), (9, .v (.int .i64 (daC l n k))), (10, .v v1)], []⟩) (fun p hp => by cases hp) ?_ fun a4 w4 S4 p4 hp4 => RgL.nil ?_
  · simp -dsimp only [go_sem, reduceIte, reduceCtorEq, Nat.reduceEqDiff, Nat.reduceLT, Nat.reduceLeDiff, Nat.reduceAdd, Nat.reduceMul, Nat.reduceSub, Int.reduceToNat, Int.reduceNeg, List.length_nil]
    simp [Vs.LeL, Vs.look, Vs.hlook]
  have pA4 : Vs.Past SA wA S4 w4 := (pA2.trans (Vs.Past.grow hg1 hp2.dom)).trans p4
  have m14 : ∀ b, m1.D b → S4 b := fun b hb => p4.sub b (.inr hb)
  have hd14 : Vs.Dk w4 (l.map (E cI)) v1 m1 := hd1.past (fun b hb => .inr hb) p4
  have m1A : ∀ b, m1.D b → ¬ SA b := fun b hb hs => by have := hn1 b hb; have := hdA b hs; have := pA2.size; omega
  -- the program's answer
  show Vs.At Try.prog Try.f3.ntmps (drawnG Try.prog) (.seq _ (Vs.dropS 7 Cd.laws_FnExactDeckAt)) _ a4 w4
  refine At.seq (At.rg (hp4.rg hnt (pre := [⟨some 34, .mv (.tmp 10), none⟩, ⟨some 35, .mv (.tmp 1), none⟩, ⟨some 36, .mv (.tmp 2), none⟩]) (post := ⟨some 37, .call (.func F.impl_DeckAt) ([34, 35, 36].map .tmp) [], none⟩ :: [⟨some 33, .mv (.tmp 37), none⟩, ⟨some 38, .extract (.tmp 33) 0, none⟩, ⟨some 39, .extract (.tmp 33) 1, none⟩, ⟨some 11, .mv (.tmp 38), none⟩, ⟨some 12, .mv (.tmp 39), none⟩]) (τ := ⟨[(34, .v v1), (35, .v (.int .i64 n)), (36, .v (.int .i64 k)), (0, .v a1), (1, .v (.int .i64 n)), (2, .v (.int .i64 k)), (8, .v a6), (9, .v (.int .i64 (daC l n k))), (10, .v v1)], []⟩) (fun p hp => by cases hp) ?_ fun a5 w5 S5 p5 hp5 => hp5.rgcall hnt (ts := [34, 35, 36]) (ys := [.v v1, .v (.int .i64 n), .v (.int .i64 k)]) (Vs.CodeIsR.has Cd.impl_DeckAt_ok) rfl (fun i hi => by match i, hi with | 0, _ => rfl | 1, _ => rfl | 2, _ => rfl) (fun i hi => by match i, hi with | 0, _ => rfl | 1, _ => rfl | 2, _ => rfl) fun us hus hr2 => ?_))
  · simp -dsimp only [go_sem, reduceIte, reduceCtorEq, Nat.reduceEqDiff, Nat.reduceLT, Nat.reduceLeDiff, Nat.reduceAdd, Nat.reduceMul, Nat.reduceSub, Int.reduceToNat, Int.reduceNeg, List.length_nil]

    all_goals (simp [Vs.LeL, Vs.look, Vs.hlook])
  have hus1 : us.getD 0 undef = v1 := Vs.rc_v (hr2 0 (by show 0 < 3; omega))
  have hd15 : Vs.Dk w5 (l.map (E cI)) v1 m1 := hd14.past m14 p5
  have hrd1 : RC S5 w5 (.sl 1 (E cC l)) (us.getD 0 undef) := by
    rw [hus1, ← deckE]
    exact hd15.rd.mono (fun b hb => p5.sub b (m14 b hb)) fun _ _ => rfl
  refine (DeckAt_all l n k hk hp5.dom hp5.env hus (fun j hj => by match j, hj with
    | 0, _ => exact hrd1
    | 1, _ => exact hr2 1 (by show 1 < 3; omega)
    | 2, _ => exact hr2 2 (by show 2 < 3; omega))).mono ?_
  rintro e w6 ⟨v2, rfl, hg2, m2, hd2, hn2⟩
  refine ⟨_, rfl, ?_⟩
  have hp6 := (hp5.grow hg2 (D := m2.D) (fun b hb => ⟨hn2 b hb, hd2.lt b hb⟩) [(0, .v a1), (1, .v (.int .i64 n)), (2, .v (.int .i64 k)), (8, .v a6), (9, .v (.int .i64 (daC l n k))), (10, .v v1)] (fun p hp => by
      simp only [List.mem_cons, List.not_mem_nil, or_false] at hp
      rcases hp with rfl | rfl | rfl | rfl | rfl | rfl <;> exact ⟨rfl, .inl rfl⟩)).putR (d := 37) (by rw [hnt, Cd.laws_FnExactDeckAt_nt]; omega) (r := .tup [.v v2, .v (.int .i64 (daC l n k))]) (Vs.tup2_rc _ _)
  letI I6 := Vs.keepE (fun b => S5 b ∨ m2.D b) w6
  refine hp6.rg (pre := [⟨some 33, .mv (.tmp 37), none⟩, ⟨some 38, .extract (.tmp 33) 0, none⟩, ⟨some 39, .extract (.tmp 33) 1, none⟩, ⟨some 11, .mv (.tmp 38), none⟩, ⟨some 12, .mv (.tmp 39), none⟩]) (post := []) hnt (τ := ⟨[(0, .v a1), (1, .v (.int .i64 n)), (2, .v (.int .i64 k)), (8, .v a6), (9, .v (.int .i64 (daC l n k))), (10, .v v1), (11, .v v2), (12, .v (.int .i64 (daC l n k)))], []⟩) (fun p hp => by cases hp) ?_ fun a7 w7 S7 p7 hp7 => RgL.nil ?_
  · simp -dsimp only [go_sem, reduceIte, reduceCtorEq, Nat.reduceEqDiff, Nat.reduceLT, Nat.reduceLeDiff, Nat.reduceAdd, Nat.reduceMul, Nat.reduceSub, Int.reduceToNat, Int.reduceNeg, List.length_nil]
    simp [Vs.LeL, Vs.look, Vs.hlook]
  have pA5 : Vs.Past SA wA S5 w5 := pA4.trans p5
  have pA6 : Vs.Past SA wA (fun b => S5 b ∨ m2.D b) w6 := pA5.trans (Vs.Past.grow hg2 hp5.dom)
  have pA7 : Vs.Past SA wA S7 w7 := pA6.trans p7
  have m15 : ∀ b, m1.D b → S5 b := fun b hb => p5.sub b (m14 b hb)
  have hd16 : Vs.Dk w6 (l.map (E cI)) v1 m1 := hd15.past (S' := fun b => S5 b ∨ m2.D b) m15 (Vs.Past.grow hg2 hp5.dom)
  have m2A : ∀ b, m2.D b → ¬ SA b := fun b hb hs => by have := hn2 b hb; have := hdA b hs; have := pA5.size; omega
  have m12 : ∀ b, m2.D b → ¬ m1.D b := fun b hb hs => by have := hn2 b hb; have := hp5.dom b (m15 b hs); omega
  have hdom6 : ∀ b, (S5 b ∨ m2.D b) → b < w6.heap.size := fun b hb => hb.elim (fun h => Nat.lt_of_lt_of_le (hp5.dom b h) hg2.size) (hd2.lt b)
  -- the comparison
  show Vs.At Try.prog Try.f3.ntmps (drawnG Try.prog) (Vs.dropS 7 Cd.laws_FnExactDeckAt) _ a7 w7
  refine hp7.go (drawn_ok Try.mixed) hnt 3 _ (τ := ⟨[(0, .v a1), (1, .v (.int .i64 n)), (2, .v (.int .i64 k)), (8, .v a6), (9, .v (.int .i64 (daC l n k))), (10, .v v1), (11, .v v2), (12, .v (.int .i64 (daC l n k))), (13, .v (.int .i64 1))], []⟩) (X := True) (E := fun _ _ => False) (fun p hp => by cases hp) (fun C hC => (lwDaC C l n k hk a1 a6 v1 v2 (fun S' w' he' => Vs.keepE_known hdom6 he' (pA6.rcS r1)) (fun S' w' he' => Vs.keepE_known hdom6 he' (pA6.rcS r6)) (fun S' w' he' => Vs.keepE_known hdom6 he' (by rw [← deckE]; exact hd16.rd.mono (fun b hb => .inl (m15 b hb)) fun _ _ => rfl)) (fun S' w' he' => Vs.keepE_known hdom6 he' (by rw [← deckE]; exact hd2.rd.mono (fun b hb => .inr hb) fun _ _ => rfl)))) (fun i σ h => h) (fun C a w hl hg => hg.no.elim) fun a8 w8 S8 p8 hp8 _ => ?_
  have pA8 : Vs.Past SA wA S8 w8 := pA7.trans p8
  have m18 : ∀ b, m1.D b → S8 b := fun b hb => p8.sub b (p7.sub b (.inl (m15 b hb)))
  have m28 : ∀ b, m2.D b → S8 b := fun b hb => p8.sub b (p7.sub b (.inr hb))
  have hd18 : Vs.Dk w8 (l.map (E cI)) v1 m1 := (hd16.past (S := fun b => S5 b ∨ m2.D b) (fun b hb => .inl (m15 b hb)) p7).past (fun b hb => p7.sub b (.inl (m15 b hb))) p8
  have hd28 : Vs.Dk w8 ((daL l n k).map (E cI)) v2 m2 := (hd2.past (S := fun b => S5 b ∨ m2.D b) (fun b hb => .inr hb) p7).past (fun b hb => p7.sub b (.inr hb)) p8
  have hS1 : ∀ b, C1.S0 b → SA b := fun b hb => by rw [hS0] at hb; exact pA.sub b hb
  -- the argument is marked
  show Vs.At Try.prog Try.f3.ntmps (drawnG Try.prog) (.seq _ (Vs.dropS 11 Cd.laws_FnExactDeckAt)) _ a8 w8
  refine At.seq (At.rg (hp8.rg hnt (pre := [⟨some 54, .mv (.tmp 10), none⟩, ⟨some 55, .mv (.tmp 13), none⟩]) (post := ⟨some 56, .call (.func F.laws_markCardS) ([54, 55].map .tmp) [0], none⟩ :: [⟨some 13, .mv (.tmp 56), none⟩]) (τ := ⟨[(54, .v v1), (55, .v (.int .i64 1)), (0, .v a1), (1, .v (.int .i64 n)), (2, .v (.int .i64 k)), (8, .v a6), (9, .v (.int .i64 (daC l n k))), (10, .v v1), (11, .v v2), (12, .v (.int .i64 (daC l n k))), (13, .v (.int .i64 1))], []⟩) (fun p hp => by cases hp) ?_ fun a9 w9 S9 p9 hp9 => hp9.rgcall hnt (ts := [54, 55]) (ys := [.v v1, .v (.int .i64 1)]) (Vs.CodeIsR.has Cd.laws_markCardS_ok) rfl (fun i hi => by match i, hi with | 0, _ => rfl | 1, _ => rfl) (fun i hi => by match i, hi with | 0, _ => rfl | 1, _ => rfl) fun us hus hr => ?_))
  · simp -dsimp only [go_sem, reduceIte, reduceCtorEq, Nat.reduceEqDiff, Nat.reduceLT, Nat.reduceLeDiff, Nat.reduceAdd, Nat.reduceMul, Nat.reduceSub, Int.reduceToNat, Int.reduceNeg, List.length_nil]
    simp [Vs.LeL, Vs.look, Vs.hlook]
  obtain rfl := Vs.us2 hus (Vs.rc_v (hr 0 (by show 0 < 2; omega))) (Vs.rc_v (hr 1 (by show 1 < 2; omega)))
  have pA9 : Vs.Past SA wA S9 w9 := pA8.trans p9
  have hd19 : Vs.Dk w9 (l.map (E cI)) v1 m1 := hd18.past m18 p9
  have hd29 : Vs.Dk w9 ((daL l n k).map (E cI)) v2 m2 := hd28.past m28 p9
  have hdA9 : ∀ b, SA b → b < w9.heap.size := fun b hb => Nat.lt_of_lt_of_le (hdA b hb) pA9.size
  refine (MK l hk SA w9 v1 m1 hdA9 (EM _ pA9.old) m1A hd19).mono ?_
  rintro e w10 ⟨rfl, q1, q2, q3, _⟩
  refine ⟨_, rfl, ?_⟩
  have hge1 : ∀ b, m1.D b → C1.w0.heap.size ≤ b ∧ S9 b := fun b hb => ⟨by have := hn1 b hb; have := pA2.size; omega, p9.sub b (m18 b hb)⟩
  have hK9 : ∀ b, (SA b ∨ m2.D b) → S9 b := fun b hb => hb.elim (pA9.sub b) fun h => p9.sub b (m28 b h)
  have hp10 := (hp9.marked q1 q2 q3 hge1 (K := fun b => SA b ∨ m2.D b) hK9 (fun b hb => .inl (hS1 b hb)) [(0, .v a1), (1, .v (.int .i64 n)), (2, .v (.int .i64 k)), (8, .v a6), (9, .v (.int .i64 (daC l n k))), (11, .v v2), (12, .v (.int .i64 (daC l n k)))] (fun p hp => by
      simp only [List.mem_cons, List.not_mem_nil, or_false] at hp
      rcases hp with rfl | rfl | rfl | rfl | rfl | rfl | rfl <;> exact ⟨rfl, rfl⟩)).put (d := 56) (by rw [hnt, Cd.laws_FnExactDeckAt_nt]; omega) (.int .i64 (1 + totD l : Nat))
  have pA10 : Vs.Past SA wA (fun b => SA b ∨ m2.D b) w10 := pA9.mark hp9.dom q1 q2 m1A fun _ h => .inl h
  have hd210 : Vs.Dk w10 ((daL l n k).map (E cI)) v2 m2 := hd29.same q1 fun b hb => q2 b (hd29.lt b hb) (m12 b hb)
  have hdom10 : ∀ b, (SA b ∨ m2.D b) → b < w10.heap.size := fun b hb => Nat.lt_of_lt_of_le (hp9.dom b (hK9 b hb)) q1
  letI I10 := Vs.keepE (fun b => SA b ∨ m2.D b) w10
  refine hp10.rg (pre := [⟨some 13, .mv (.tmp 56), none⟩]) (post := []) hnt (τ := ⟨[(0, .v a1), (1, .v (.int .i64 n)), (2, .v (.int .i64 k)), (8, .v a6), (9, .v (.int .i64 (daC l n k))), (11, .v v2), (12, .v (.int .i64 (daC l n k))), (13, .v (.int .i64 (1 + totD l : Nat)))], []⟩) (fun p hp => by cases hp) ?_ fun a11 w11 S11 p11 hp11 => RgL.nil ?_
  · simp -dsimp only [go_sem, reduceIte, reduceCtorEq, Nat.reduceEqDiff, Nat.reduceLT, Nat.reduceLeDiff, Nat.reduceAdd, Nat.reduceMul, Nat.reduceSub, Int.reduceToNat, Int.reduceNeg, List.length_nil]
    simp [Vs.LeL, Vs.look, Vs.hlook]
  show Vs.At Try.prog Try.f3.ntmps (drawnG Try.prog) (Vs.dropS 11 Cd.laws_FnExactDeckAt) _ a11 w11
  refine hp11.go (drawn_ok Try.mixed) hnt 2 _ (τ := ⟨[(0, .v a1), (1, .v (.int .i64 n)), (2, .v (.int .i64 k)), (8, .v a6), (9, .v (.int .i64 (daC l n k))), (11, .v v2), (14, .v (.int .i64 1))], []⟩) (X := True) (E := fun _ _ => False) (fun p hp => by cases hp) (fun C hC => (lwDaD C l n k hk a1 a6 v2 (1 + totD l) (fun S' w' he' => Vs.keepE_known hdom10 he' (pA10.rcS r6)) (fun S' w' he' => Vs.keepE_known hdom10 he' (by rw [← deckE]; exact hd210.rd.mono (fun b hb => .inr hb) fun _ _ => rfl)))) (fun i σ h => h) (fun C a w hl hg => hg.no.elim) fun a12 w12 S12 p12 hp12 _ => ?_
  have p1012 := p11.trans p12
  -- the answer is marked
  show Vs.At Try.prog Try.f3.ntmps (drawnG Try.prog) (.seq _ (Vs.dropS 14 Cd.laws_FnExactDeckAt)) _ a12 w12
  refine At.seq (At.rg (hp12.rg hnt (pre := [⟨some 70, .mv (.tmp 11), none⟩, ⟨some 71, .mv (.tmp 14), none⟩]) (post := ⟨some 72, .call (.func F.laws_markCardS) ([70, 71].map .tmp) [0], none⟩ :: [⟨some 14, .mv (.tmp 72), none⟩]) (τ := ⟨[(70, .v v2), (71, .v (.int .i64 1)), (0, .v a1), (1, .v (.int .i64 n)), (2, .v (.int .i64 k)), (8, .v a6), (9, .v (.int .i64 (daC l n k))), (11, .v v2), (14, .v (.int .i64 1))], []⟩) (fun p hp => by cases hp) ?_ fun a13 w13 S13 p13 hp13 => hp13.rgcall hnt (ts := [70, 71]) (ys := [.v v2, .v (.int .i64 1)]) (Vs.CodeIsR.has Cd.laws_markCardS_ok) rfl (fun i hi => by match i, hi with | 0, _ => rfl | 1, _ => rfl) (fun i hi => by match i, hi with | 0, _ => rfl | 1, _ => rfl) fun us hus hr => ?_))
  · simp -dsimp only [go_sem, reduceIte, reduceCtorEq, Nat.reduceEqDiff, Nat.reduceLT, Nat.reduceLeDiff, Nat.reduceAdd, Nat.reduceMul, Nat.reduceSub, Int.reduceToNat, Int.reduceNeg, List.length_nil]
    simp [Vs.LeL, Vs.look, Vs.hlook]
  obtain rfl := Vs.us2 hus (Vs.rc_v (hr 0 (by show 0 < 2; omega))) (Vs.rc_v (hr 1 (by show 1 < 2; omega)))
  have p1013 := p1012.trans p13
  have pA13 : Vs.Past SA wA S13 w13 := pA10.trans p1013
  have hd213 : Vs.Dk w13 ((daL l n k).map (E cI)) v2 m2 := hd210.past (S := fun b => SA b ∨ m2.D b) (fun b hb => .inr hb) p1013
  refine (MK (daL l n k) hlw SA w13 v2 m2 (fun b hb => Nat.lt_of_lt_of_le (hdA b hb) pA13.size) (EM _ pA13.old) m2A hd213).mono ?_
  rintro e w14 ⟨rfl, q4, q5, q6, hd214⟩
  refine ⟨_, rfl, ?_⟩
  have hge2 : ∀ b, m2.D b → C1.w0.heap.size ≤ b ∧ S13 b := fun b hb => ⟨by have := hn2 b hb; have := pA5.size; omega, p1013.sub b (.inr hb)⟩
  have hK13 : ∀ b, (SA b ∨ m2.D b) → S13 b := fun b hb => p1013.sub b hb
  have hp14 := (hp13.marked q4 q5 q6 hge2 (K := fun b => SA b ∨ m2.D b) hK13 (fun b hb => .inl (hS1 b hb)) [(0, .v a1), (1, .v (.int .i64 n)), (2, .v (.int .i64 k)), (8, .v a6), (9, .v (.int .i64 (daC l n k))), (11, .v v2)] (fun p hp => by
      simp only [List.mem_cons, List.not_mem_nil, or_false] at hp
      rcases hp with rfl | rfl | rfl | rfl | rfl | rfl <;> exact ⟨rfl, rfl⟩)).put (d := 72) (by rw [hnt, Cd.laws_FnExactDeckAt_nt]; omega) (.int .i64 (1 + totD (daL l n k) : Nat))
  have pA14 : Vs.Past SA wA (fun b => SA b ∨ m2.D b) w14 := pA13.mark hp13.dom q4 q5 m2A fun _ h => .inl h
  have hdom14 : ∀ b, (SA b ∨ m2.D b) → b < w14.heap.size := fun b hb => Nat.lt_of_lt_of_le (hp13.dom b (hK13 b hb)) q4
  letI I14 := Vs.keepE (fun b => SA b ∨ m2.D b) w14
  refine hp14.rg (pre := [⟨some 14, .mv (.tmp 72), none⟩]) (post := []) hnt (τ := ⟨[(0, .v a1), (1, .v (.int .i64 n)), (2, .v (.int .i64 k)), (8, .v a6), (9, .v (.int .i64 (daC l n k))), (11, .v v2), (14, .v (.int .i64 (1 + totD (daL l n k) : Nat)))], []⟩) (fun p hp => by cases hp) ?_ fun a15 w15 S15 p15 hp15 => RgL.nil ?_
  · simp -dsimp only [go_sem, reduceIte, reduceCtorEq, Nat.reduceEqDiff, Nat.reduceLT, Nat.reduceLeDiff, Nat.reduceAdd, Nat.reduceMul, Nat.reduceSub, Int.reduceToNat, Int.reduceNeg, List.length_nil]
    simp [Vs.LeL, Vs.look, Vs.hlook]
  show Vs.At Try.prog Try.f3.ntmps (drawnG Try.prog) (Vs.dropS 14 Cd.laws_FnExactDeckAt) _ a15 w15
  exact hp15.fin (drawn_ok Try.mixed) hnt (fun C hC => lwDaE C l n k hk a1 a6 v2 (fun S' w' he' => Vs.keepE_known hdom14 he' (pA14.rcS r1)) (fun S' w' he' => Vs.keepE_known hdom14 he' (pA14.rcS r6)) (fun S' w' he' => Vs.keepE_known hdom14 he' (by rw [← deckE]; exact hd214.rd.mono (fun b hb => .inr hb) fun _ _ => rfl))) (fun i σ h => h) (fun C a w hl hg => ⟨.inl rfl, Vs.law_end hl hM Cd.laws_FnExactDeckAt_rs hg⟩)
end Go.Proofs.Ytokfhfdnmnblfaa
