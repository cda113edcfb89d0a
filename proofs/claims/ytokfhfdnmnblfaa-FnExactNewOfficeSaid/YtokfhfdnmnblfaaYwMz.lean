/- The law FnExactNewOffice, joined. -/
import Derived.Test.YtokfhfdnmnblfaaYwMx
import Derived.Test.YtokfhfdnmnblfaaYuP
import Derived.Test.YtokfhfdnmnblfaaVtR
import Derived.Test.YtokfhfdnmnblfaaVuG
namespace Go.Proofs.Ytokfhfdnmnblfaa
open Go.Vs
set_option linter.unusedSectionVars false
variable [Vs.Envs]
set_option linter.unusedSimpArgs false
set_option linter.unusedVariables false
attribute [local irreducible] Vs.Fn mkD totD mkS totS
theorem szI_mono {l : List Int} {n : Int} (hl : l.length < 2 ^ 63) (h0 : 0 ≤ n) (hn : n ≤ 1048576) (h : 0 ≤ szI l n) : szI l n ≤ n := (szI_le hl h0 hn h).1
def bigC (l : List (List Int)) : Prop := l.length < 2 ^ 63 ∧ ∀ c, c ∈ l → c.length < 2 ^ 63
def szDk (l : List (List Int)) (n : Int) : Int := szL szI l n
theorem szDk_small {l : List (List Int)} (hb : bigC l) {n : Int} (h0 : 0 ≤ n) (hn : n ≤ 1048576) (h : 0 ≤ szDk l n) : smallC l := by
  refine ⟨?_, fun c hc => ?_⟩
  · have := (szL_mono (fun x hx _ a b c => szI_mono (hb.2 x hx) a b c) hb.1 h0 hn h).2; omega
  · obtain ⟨m, h1, h2, h3⟩ := szL_in (fun x hx _ a b c => szI_mono (hb.2 x hx) a b c) hb.1 h0 hn h c hc
    have := (szI_le (hb.2 c hc) h1 h2 h3).2; omega
abbrev ACard := { l : List I64 // l.length < 2 ^ 63 }
abbrev ACards := { l : List ACard // l.length < 2 ^ 63 }
def gCards (d : ACards) : List (List Int) := d.1.map fun c => c.1.map fun n => n.1
theorem gCards_big (d : ACards) : bigC (gCards d) := by
  refine ⟨by simpa [gCards] using d.2, fun c hc => ?_⟩
  obtain ⟨x, _, rfl⟩ := List.mem_map.1 hc
  simpa using x.2
theorem gCards_enc (d : ACards) : E cC (gCards d) = d.1.map eCard := by
  simp only [gCards, E_map]
  congr 1
  funext c
  simp only [cC, E_map]
  rfl

theorem agg_of {S : Nat → Prop} {w : World} {a b v : Value} {x y : AV} (h : RC S w (.agg [.v a, .v b]) v) (ha : RC S w x a) (hb : RC S w y b) : RC S w (.agg [x, y]) v := by
  cases h with
  | agg _ us hl hr =>
    refine .agg _ us hl fun j hj => ?_
    match j, hj with
    | 0, _ =>
      have h0 : RC S w (.v a) (us.getD 0 undef) := hr 0 (by simp)
      rw [Vs.rc_v h0]; exact ha
    | 1, _ =>
      have h0 : RC S w (.v b) (us.getD 1 undef) := hr 1 (by simp)
      rw [Vs.rc_v h0]; exact hb
theorem sl_slice {S : Nat → Prop} {w : World} {k : Nat} {r : List (List AV)} {v : Value} (h : RC S w (.sl k r) v) : ∃ t : Sl, v = slW t := by
  cases h with
  | sl _ _ base cap => exact ⟨(base, _, cap), rfl⟩
theorem agg2_sl {S : Nat → Prop} {w : World} {k k' : Nat} {r r' : List (List AV)} {u : Value} (h : RC S w (.agg [.sl k r, .sl k' r']) u) : ∃ t o : Sl, u = .agg #[slW t, slW o] ∧ RC S w (.sl k r) (slW t) ∧ RC S w (.sl k' r') (slW o) := by
  cases h with
  | agg _ us hl hr =>
    have h0 : RC S w (.sl k r) (us.getD 0 undef) := hr 0 (by simp)
    have h1 : RC S w (.sl k' r') (us.getD 1 undef) := hr 1 (by simp)
    obtain ⟨t, ht⟩ := sl_slice h0
    obtain ⟨o, ho⟩ := sl_slice h1
    refine ⟨t, o, ?_, ht ▸ h0, ho ▸ h1⟩
    rw [Vs.us2 (by simpa using hl.symm) ht ho]
theorem agg2_v {S : Nat → Prop} {w : World} {a b u : Value} (h : RC S w (.agg [.v a, .v b]) u) : u = .agg #[a, b] := by
  cases h with
  | agg _ us hl hr => rw [Vs.us2 (by simpa using hl.symm) (Vs.rc_v (hr 0 (by simp))) (Vs.rc_v (hr 1 (by simp)))]
attribute [local irreducible] nL nC slW
set_option maxHeartbeats 1000000 in
theorem lwNoA (C : Ctx) (l : List (List Int)) (gb : bigC l) :
    Vs.wpcN Try.prog C (drawnG Try.prog) 4 Cd.laws_FnExactNewOffice (fun σ' => LeL σ' ⟨[(0, .sl 1 (E cC l))], []⟩ ∧ smallC l) (fun e σ' => match e with | .ret => LeL σ' ⟨[(2, .v (.bool true))], []⟩ | .exit _ => False) ⟨ini 0 [.sl 1 (E cC l)], []⟩ := by
  unfold Cd.laws_FnExactNewOffice
  simp -dsimp only [go_sem, reduceIte, reduceCtorEq, Nat.reduceEqDiff, Nat.reduceLT, Nat.reduceLeDiff, Nat.reduceAdd, Nat.reduceMul, Nat.reduceSub, Int.reduceToNat, Int.reduceNeg]
  refine CallK.flat (szCardS l 1048576 gb.2 gb.1 ⟨by omega, by omega⟩) rfl ?_
  simp -dsimp only [go_sem, reduceIte, reduceCtorEq, Nat.reduceEqDiff, Nat.reduceLT, Nat.reduceLeDiff, Nat.reduceAdd, Nat.reduceMul, Nat.reduceSub, Int.reduceToNat, Int.reduceNeg]
  refine Br.mk (fun h3 => by simp -dsimp only [go_sem, reduceIte, reduceCtorEq, Nat.reduceEqDiff, Nat.reduceLT, Nat.reduceLeDiff, Nat.reduceAdd, Nat.reduceMul, Nat.reduceSub, Int.reduceToNat, Int.reduceNeg]; simp [Vs.LeL, Vs.look, Vs.hlook]) (fun h3 => ?_)
  simp only [decide_eq_false_iff_not] at h3
  have hk := szDk_small gb (n := 1048576) (by omega) (by omega) (by unfold szDk; omega)
  simp -dsimp only [go_sem, reduceIte, reduceCtorEq, Nat.reduceEqDiff, Nat.reduceLT, Nat.reduceLeDiff, Nat.reduceAdd, Nat.reduceMul, Nat.reduceSub, Int.reduceToNat, Int.reduceNeg]
  all_goals first | exact ⟨by simp [Vs.LeL, Vs.look, Vs.hlook], hk⟩ | trace_state

set_option maxHeartbeats 1000000 in
theorem lwNoC (C : Ctx) (l : List (List Int)) (hk : smallC l) (a1 a8 : Value) (t0 o0 ts os : Sl) (kt : ∀ S w, Vs.Env S w → RC S w (.sl 1 (E cD (nL l))) (slW ts)) (ko : ∀ S w, Vs.Env S w → RC S w (.sl 1 []) (slW os)) (kt0 : ∀ S w, Vs.Env S w → RC S w (.sl 1 (E cD (nL l))) (slW t0)) (ko0 : ∀ S w, Vs.Env S w → RC S w (.sl 1 []) (slW o0)) (k1 : ∀ S w, Vs.Env S w → RC S w (.sl 1 (E cC l)) a1) (k8 : ∀ S w, Vs.Env S w → RC S w (.sl 1 (E cC l)) a8) :
    Vs.wpcN Try.prog C (drawnG Try.prog) 3 (Vs.dropS 7 Cd.laws_FnExactNewOffice) (fun σ' => LeL σ' ⟨[(0, .v a1), (4, .ptr (.t 4 0) 0 0), (5, .v (.int .i64 (nC l))), (6, .v a8), (7, .ptr (.t 7 0) 0 0), (8, .v (.int .i64 (nC l))), (9, .v (.int .i64 1))], [(.t 7 0, .var [.v (slW ts), .v (slW os)] false), (.t 4 0, .var [.v (slW t0), .v (slW o0)] false)]⟩ ∧ True) (fun _ _ => False) ⟨[(0, .v a1), (4, .ptr (.t 4 0) 0 0), (5, .v (.int .i64 (nC l))), (6, .v a8), (7, .ptr (.t 7 0) 0 0), (8, .v (.int .i64 (nC l)))], [(.t 7 0, .var [.v (slW ts), .v (slW os)] false), (.t 4 0, .var [.v (slW t0), .v (slW o0)] false)]⟩ := by
  have hlw := nL_ok hk
  have n0 : (nC l != nC l) = false := by simp
  have EO := Vs.Fn.knownR (eqOffice (nL l) hlw) (ys' := [.agg [.v (slW ts), .v (slW os)], .agg [.v (slW t0), .v (slW o0)]]) rfl (fun j hj => by
    match j, hj with
    | 0, _ => exact .inr ⟨rfl, fun S w v he hv => agg_of hv (kt S w he) (ko S w he)⟩
    | 1, _ => exact .inr ⟨rfl, fun S w v he hv => agg_of hv (kt0 S w he) (ko0 S w he)⟩)
  have KC := (toCardS l hk.2 hk.1).known (ys' := [.v a1]) rfl (fun j hj => by match j, hj with | 0, _ => exact .inr ⟨_, rfl, k1⟩)
  have KX := (eqCardS l hk.2 hk.1).known (ys' := [.v a8, .sl 1 (E cC l)]) rfl (fun j hj => by match j, hj with | 0, _ => exact .inr ⟨_, rfl, k8⟩ | 1, _ => exact .inl rfl)
  generalize hc0 : nC l = c at *
  unfold Cd.laws_FnExactNewOffice
  simp only [Vs.dropS]
  simp -dsimp only [go_sem, reduceIte, reduceCtorEq, Nat.reduceEqDiff, Nat.reduceLT, Nat.reduceLeDiff, Nat.reduceAdd, Nat.reduceMul, Nat.reduceSub, Int.reduceToNat, Int.reduceNeg, n0]
  repeat' (first
    | (refine RgK.mk rfl ?_; simp -dsimp only [go_sem, reduceIte, reduceCtorEq, Nat.reduceEqDiff, Nat.reduceLT, Nat.reduceLeDiff, Nat.reduceAdd, Nat.reduceMul, Nat.reduceSub, Int.reduceToNat, Int.reduceNeg, n0])
    | (refine Br.mk (fun h => ?_) (fun h => ?_) <;> simp -dsimp only [go_sem, reduceIte, reduceCtorEq, Nat.reduceEqDiff, Nat.reduceLT, Nat.reduceLeDiff, Nat.reduceAdd, Nat.reduceMul, Nat.reduceSub, Int.reduceToNat, Int.reduceNeg, h, n0])
    | (refine CallK.flat (by first | exact EO | exact KC | exact KX) rfl ?_; simp -dsimp only [go_sem, reduceIte, reduceCtorEq, Nat.reduceEqDiff, Nat.reduceLT, Nat.reduceLeDiff, Nat.reduceAdd, Nat.reduceMul, Nat.reduceSub, Int.reduceToNat, Int.reduceNeg, n0])
    | (refine CallK.pure (by first | exact EO | exact KC | exact KX) ?_; simp -dsimp only [go_sem, reduceIte, reduceCtorEq, Nat.reduceEqDiff, Nat.reduceLT, Nat.reduceLeDiff, Nat.reduceAdd, Nat.reduceMul, Nat.reduceSub, Int.reduceToNat, Int.reduceNeg, n0])
    | (refine And.intro (by first | rfl | omega | decide | (refine ⟨?_, ?_⟩ <;> (first | rfl | omega | decide)) | (refine ⟨?_, ?_, ?_⟩ <;> (first | rfl | omega | decide)) | (refine ⟨?_, ?_, ?_, ?_⟩ <;> (first | rfl | omega | decide))) ?_)
    | fail)
  all_goals first | (simp [Vs.LeL, Vs.look, Vs.hlook]; done) | trace_state

set_option maxHeartbeats 1000000 in
theorem lwNoD (C : Ctx) (l : List (List Int)) (hk : smallC l) (a1 : Value) (t0 o0 ts os : Sl) (m : Nat) (kt : ∀ S w, Vs.Env S w → RC S w (.sl 1 (E cD (nL l))) (slW ts)) (ko : ∀ S w, Vs.Env S w → RC S w (.sl 1 []) (slW os)) (kt0 : ∀ S w, Vs.Env S w → RC S w (.sl 1 (E cD (nL l))) (slW t0)) (ko0 : ∀ S w, Vs.Env S w → RC S w (.sl 1 []) (slW o0)) :
    Vs.wpcN Try.prog C (drawnG Try.prog) 2 (Vs.dropS 11 Cd.laws_FnExactNewOffice) (fun σ' => LeL σ' ⟨[(0, .v a1), (4, .ptr (.t 4 0) 0 0), (5, .v (.int .i64 (nC l))), (7, .ptr (.t 7 0) 0 0), (10, .v (.int .i64 1))], [(.t 7 0, .var [.v (slW ts), .v (slW os)] false), (.t 4 0, .var [.v (slW t0), .v (slW o0)] false)]⟩ ∧ True) (fun _ _ => False) ⟨[(0, .v a1), (4, .ptr (.t 4 0) 0 0), (5, .v (.int .i64 (nC l))), (7, .ptr (.t 7 0) 0 0), (8, .v (.int .i64 (nC l))), (9, .v (.int .i64 (m : Nat)))], [(.t 7 0, .var [.v (slW ts), .v (slW os)] false), (.t 4 0, .var [.v (slW t0), .v (slW o0)] false)]⟩ := by
  have hlw := nL_ok hk
  have n0 : (nC l != nC l) = false := by simp
  have EO := Vs.Fn.knownR (eqOffice (nL l) hlw) (ys' := [.agg [.v (slW ts), .v (slW os)], .agg [.v (slW t0), .v (slW o0)]]) rfl (fun j hj => by
    match j, hj with
    | 0, _ => exact .inr ⟨rfl, fun S w v he hv => agg_of hv (kt S w he) (ko S w he)⟩
    | 1, _ => exact .inr ⟨rfl, fun S w v he hv => agg_of hv (kt0 S w he) (ko0 S w he)⟩)
  have hm : decide ((m : Int) < 0) = false := decide_eq_false (by omega)
  generalize hc0 : nC l = c at *
  unfold Cd.laws_FnExactNewOffice
  simp only [Vs.dropS]
  simp -dsimp only [go_sem, reduceIte, reduceCtorEq, Nat.reduceEqDiff, Nat.reduceLT, Nat.reduceLeDiff, Nat.reduceAdd, Nat.reduceMul, Nat.reduceSub, Int.reduceToNat, Int.reduceNeg, n0, hm]
  repeat' (first
    | (refine RgK.mk rfl ?_; simp -dsimp only [go_sem, reduceIte, reduceCtorEq, Nat.reduceEqDiff, Nat.reduceLT, Nat.reduceLeDiff, Nat.reduceAdd, Nat.reduceMul, Nat.reduceSub, Int.reduceToNat, Int.reduceNeg, n0, hm])
    | (refine Br.mk (fun h => ?_) (fun h => ?_) <;> simp -dsimp only [go_sem, reduceIte, reduceCtorEq, Nat.reduceEqDiff, Nat.reduceLT, Nat.reduceLeDiff, Nat.reduceAdd, Nat.reduceMul, Nat.reduceSub, Int.reduceToNat, Int.reduceNeg, h, n0, hm])
    | (refine CallK.flat (by first | exact EO) rfl ?_; simp -dsimp only [go_sem, reduceIte, reduceCtorEq, Nat.reduceEqDiff, Nat.reduceLT, Nat.reduceLeDiff, Nat.reduceAdd, Nat.reduceMul, Nat.reduceSub, Int.reduceToNat, Int.reduceNeg, n0, hm])
    | (refine CallK.pure (by first | exact EO) ?_; simp -dsimp only [go_sem, reduceIte, reduceCtorEq, Nat.reduceEqDiff, Nat.reduceLT, Nat.reduceLeDiff, Nat.reduceAdd, Nat.reduceMul, Nat.reduceSub, Int.reduceToNat, Int.reduceNeg, n0, hm])
    | (refine And.intro (by first | rfl | omega | decide | (refine ⟨?_, ?_⟩ <;> (first | rfl | omega | decide)) | (refine ⟨?_, ?_, ?_⟩ <;> (first | rfl | omega | decide)) | (refine ⟨?_, ?_, ?_, ?_⟩ <;> (first | rfl | omega | decide))) ?_)
    | fail)
  all_goals first | (simp [Vs.LeL, Vs.look, Vs.hlook]; done) | trace_state

set_option maxHeartbeats 1000000 in
theorem lwNoE (C : Ctx) (l : List (List Int)) (hk : smallC l) (a1 : Value) (t0 o0 ts os : Sl) (kt : ∀ S w, Vs.Env S w → RC S w (.sl 1 (E cD (mkS 1 (nL l)))) (slW ts)) (ko : ∀ S w, Vs.Env S w → RC S w (.sl 1 []) (slW os)) (kt0 : ∀ S w, Vs.Env S w → RC S w (.sl 1 (E cD (nL l))) (slW t0)) (ko0 : ∀ S w, Vs.Env S w → RC S w (.sl 1 []) (slW o0)) (k1 : ∀ S w, Vs.Env S w → RC S w (.sl 1 (E cC l)) a1) :
    wpc Try.prog C (drawnG Try.prog) (Vs.dropS 14 Cd.laws_FnExactNewOffice) (fun _ => False) (fun e σ' => match e with | .ret => LeL σ' ⟨[(2, .v (.bool true))], []⟩ | .exit _ => False) ⟨[(0, .v a1), (4, .ptr (.t 4 0) 0 0), (5, .v (.int .i64 (nC l))), (7, .ptr (.t 7 0) 0 0), (10, .v (.int .i64 (1 + totS (nL l) : Nat)))], [(.t 7 0, .var [.v (slW ts), .v (slW os)] false), (.t 4 0, .var [.v (slW t0), .v (slW o0)] false)]⟩ := by
  have hlw := nL_ok hk
  have n0 : (nC l != nC l) = false := by simp
  have EO := Vs.Fn.knownR (eqOffice (nL l) hlw) (ys' := [.agg [.sl 1 (E cD (nL l)), .sl 1 []], .agg [.v (slW t0), .v (slW o0)]]) rfl (fun j hj => by
    match j, hj with
    | 0, _ => exact .inl rfl
    | 1, _ => exact .inr ⟨rfl, fun S w v he hv => agg_of hv (kt0 S w he) (ko0 S w he)⟩)
  have HO := Vs.Fn.knownR (heldOffice (nL l) 1 hlw (by omega)) (ys' := [.agg [.v (slW ts), .v (slW os)], .v (.int .i64 ((1 : Nat) : Int))]) rfl (fun j hj => by
    match j, hj with
    | 0, _ => exact .inr ⟨rfl, fun S w v he hv => agg_of hv (kt S w he) (ko S w he)⟩
    | 1, _ => exact .inl rfl)
  have KC := (toCardS l hk.2 hk.1).known (ys' := [.v a1]) rfl (fun j hj => by match j, hj with | 0, _ => exact .inr ⟨_, rfl, k1⟩)
  have NW := impl_NewOfficeW l hk
  have hn2 : decide (((1 + totS (nL l) : Nat) : Int) < 0) = false := decide_eq_false (by omega)
  have hn3 : (((1 + totS (nL l) : Nat) : Int) != ((1 + totS (nL l) : Nat) : Int)) = false := by simp
  generalize hc0 : nC l = c at *
  unfold Cd.laws_FnExactNewOffice
  simp only [Vs.dropS]
  simp -dsimp only [go_sem, reduceIte, reduceCtorEq, Nat.reduceEqDiff, Nat.reduceLT, Nat.reduceLeDiff, Nat.reduceAdd, Nat.reduceMul, Nat.reduceSub, Int.reduceToNat, Int.reduceNeg, n0, hn2, hn3]
  repeat' (first
    | (refine RgK.mk rfl ?_; simp -dsimp only [go_sem, reduceIte, reduceCtorEq, Nat.reduceEqDiff, Nat.reduceLT, Nat.reduceLeDiff, Nat.reduceAdd, Nat.reduceMul, Nat.reduceSub, Int.reduceToNat, Int.reduceNeg, n0, hn2, hn3])
    | (refine Br.mk (fun h => ?_) (fun h => ?_) <;> simp -dsimp only [go_sem, reduceIte, reduceCtorEq, Nat.reduceEqDiff, Nat.reduceLT, Nat.reduceLeDiff, Nat.reduceAdd, Nat.reduceMul, Nat.reduceSub, Int.reduceToNat, Int.reduceNeg, h, n0, hn2, hn3])
    | (refine CallK.flat (by first | exact HO | exact EO | exact KC | exact NW) rfl ?_; simp -dsimp only [go_sem, reduceIte, reduceCtorEq, Nat.reduceEqDiff, Nat.reduceLT, Nat.reduceLeDiff, Nat.reduceAdd, Nat.reduceMul, Nat.reduceSub, Int.reduceToNat, Int.reduceNeg, n0, hn2, hn3])
    | (refine CallK.pure (by first | exact HO | exact EO | exact KC | exact NW) ?_; simp -dsimp only [go_sem, reduceIte, reduceCtorEq, Nat.reduceEqDiff, Nat.reduceLT, Nat.reduceLeDiff, Nat.reduceAdd, Nat.reduceMul, Nat.reduceSub, Int.reduceToNat, Int.reduceNeg, n0, hn2, hn3])
    | (refine And.intro (by first | rfl | omega | decide | (refine ⟨?_, ?_⟩ <;> (first | rfl | omega | decide)) | (refine ⟨?_, ?_, ?_⟩ <;> (first | rfl | omega | decide)) | (refine ⟨?_, ?_, ?_, ?_⟩ <;> (first | rfl | omega | decide))) ?_)
    | fail)
  all_goals first | (simp [Vs.LeL, Vs.look, Vs.hlook]; done) | trace_state
end Go.Proofs.Ytokfhfdnmnblfaa

namespace Go.Proofs.Ytokfhfdnmnblfaa
open Go.Vs
set_option linter.unusedSectionVars false
variable [Vs.Envs]
set_option linter.unusedSimpArgs false
set_option linter.unusedVariables false
attribute [local irreducible] Vs.Fn mkD totD mkS totS nL nC slW
theorem tupA_rc {S : Nat → Prop} {w : World} (a b c : Value) : RC S w (.tup [.agg [.v a, .v b], .v c]) (.tuple #[.agg #[a, b], c]) :=
  .tup _ _ rfl fun j hj => by
    match j, hj with
    | 0, _ => exact agg_rc (.v _) (.v _)
    | 1, _ => exact .v _
set_option maxHeartbeats 4000000 in
theorem law_NewOffice (l : List (List Int)) (gb : bigC l) : Vs.Fn Try.prog F.laws_FnExactNewOffice [] [.sl 1 (E cC l)] (.v (.bool true)) [] := by
  refine Vs.Fn.of_calls (Vs.CodeIsR.has Cd.laws_FnExactNewOffice_ok) (by intro y hy; rw [List.mem_singleton.1 hy]; rfl) rfl fun S w vs hS he hvs hargs => ?_
  obtain ⟨h1, h2, _⟩ := Cd.laws_FnExactNewOffice_ok
  obtain ⟨body, hb, hc⟩ := Option.bind_eq_some_iff.1 h2
  have hz : (Try.f4.body.map (zB Try.f4.ntmps (drawnG Try.prog))) = some true := by kernel_rfl
  rw [hb] at hz
  refine Vs.Pt.calls (dr := drawnG Try.prog) (ac := Cd.laws_FnExactNewOffice) h1 hb hc (by simpa using hz) (args := [.sl 1 (E cC l)]) (by rw [Cd.laws_FnExactNewOffice_nt]; exact Nat.le_of_ble_eq_true rfl) hS he hvs hargs fun C1 a hnt hw0 hS0 hp => ?_
  have hM := hp.nomut
  subst hw0
  have MK := fun (l : List (List Int)) (hk : smallC l) (S : Nat → Prop) (w : World) (v : Value) (m : Vs.Mem) hS he hno hd => markCardS_dk (S := S) (w := w) (v := v) (l := l) (m := m) 1 (by omega) hk hS he hno hd
  have MO := fun (Ls : List (List (List Int))) (hk : ∀ d, d ∈ Ls → smallC d) (tb : Option Addr) (tn tc : Nat) (xt : Option Nat) (TV : List Sl) (M : Nat → Vs.Mem) (hT : TV.length ≤ 1000) (S : Nat → Prop) (w : World) (us : Array Value) hS he hno ho hus hr => markOffice_of (S := S) (w := w) (us := us) (Ls := Ls) (tb := tb) (tn := tn) (tc := tc) (xt := xt) (TV := TV) (M := M) 1 (by omega) hk hT hS he hno ho hus hr
  refine hp.go (drawn_ok Try.mixed) hnt 4 _ (τ := ⟨[(0, .sl 1 (E cC l))], []⟩) (E := (fun e σ' => match e with | .ret => LeL σ' ⟨[(2, .v (.bool true))], []⟩ | .exit _ => False)) (fun p hp => by cases hp) (fun C hC => lwNoA C l gb) (fun i σ h => h) (fun C a w hl hg => ⟨.inl rfl, Vs.law_end hl hM Cd.laws_FnExactNewOffice_rs hg⟩) fun aZ wZ SZ pZ hpZ hk => ?_
  have hlw := nL_ok hk
  show Vs.At Try.prog Try.f4.ntmps (drawnG Try.prog) (.seq _ (Vs.dropS 5 Cd.laws_FnExactNewOffice)) _ aZ wZ
  refine At.seq (At.rg (hpZ.rg hnt (pre := [⟨some 20, .mv (.tmp 0), none⟩, ⟨some 21, .call (.func F.laws_toCardS) [(.tmp 20)] [], none⟩, ⟨some 22, .call (.func F.spec_NewOffice) [(.tmp 21)] [], none⟩, ⟨some 19, .mv (.tmp 22), none⟩, ⟨some 23, .extract (.tmp 19) 0, none⟩, ⟨some 24, .extract (.tmp 19) 1, none⟩]) (post := [⟨some 4, .alloc [.v (.slice none 0 0), .v (.slice none 0 0)], none⟩, ⟨none, .store 2 (.tmp 4) (.tmp 23), none⟩, ⟨some 5, .mv (.tmp 24), none⟩]) (τ := ⟨[(23, .agg [.sl 1 (E cD (nL l)), .sl 1 []]), (24, .v (.int .i64 (nC l))), (0, .sl 1 (E cC l))], []⟩) (fun p hp => by cases hp) ?_ fun aA wA SA pA0 hpA => ?_))
  · simp -dsimp only [go_sem, reduceIte, reduceCtorEq, Nat.reduceEqDiff, Nat.reduceLT, Nat.reduceLeDiff, Nat.reduceAdd, Nat.reduceMul, Nat.reduceSub, Int.reduceToNat, Int.reduceNeg]
    repeat' (first
      | (refine RgK.mk rfl ?_; simp -dsimp only [go_sem, reduceIte, reduceCtorEq, Nat.reduceEqDiff, Nat.reduceLT, Nat.reduceLeDiff, Nat.reduceAdd, Nat.reduceMul, Nat.reduceSub, Int.reduceToNat, Int.reduceNeg, List.length_nil])
      | (refine Br.mk (fun h => ?_) (fun h => ?_) <;> simp -dsimp only [go_sem, reduceIte, reduceCtorEq, Nat.reduceEqDiff, Nat.reduceLT, Nat.reduceLeDiff, Nat.reduceAdd, Nat.reduceMul, Nat.reduceSub, Int.reduceToNat, Int.reduceNeg, h, List.length_nil])
      | (refine CallK.flat (by first | exact toCardS l hk.2 hk.1 | exact spec_NewOfficeW l hk) rfl ?_; simp -dsimp only [go_sem, reduceIte, reduceCtorEq, Nat.reduceEqDiff, Nat.reduceLT, Nat.reduceLeDiff, Nat.reduceAdd, Nat.reduceMul, Nat.reduceSub, Int.reduceToNat, Int.reduceNeg, List.length_nil])
      | (refine CallK.pure (by first | exact toCardS l hk.2 hk.1 | exact spec_NewOfficeW l hk) ?_; simp -dsimp only [go_sem, reduceIte, reduceCtorEq, Nat.reduceEqDiff, Nat.reduceLT, Nat.reduceLeDiff, Nat.reduceAdd, Nat.reduceMul, Nat.reduceSub, Int.reduceToNat, Int.reduceNeg, List.length_nil])
      | (refine And.intro (by first | rfl | omega | decide | (refine ⟨?_, ?_⟩ <;> (first | rfl | omega | decide)) | (refine ⟨?_, ?_, ?_⟩ <;> (first | rfl | omega | decide)) | (refine ⟨?_, ?_, ?_, ?_⟩ <;> (first | rfl | omega | decide))) ?_)
      | fail)

    all_goals (simp [Vs.LeL, Vs.look, Vs.hlook])
  have pA : Vs.Past S C1.w0 SA wA := pZ.trans pA0
  have heA := hpA.env
  have hdA := hpA.dom
  have EM := fun (w' : World) (h : ∀ b, SA b → w'.heap[b]? = wA.heap[b]?) => heA.mono (fun _ h => h) h
  have hszA := hpA.size
  obtain ⟨t0, o0, hu, rt0, ro0⟩ := agg2_sl (hpA.val (t := 23) rfl)
  have hpS : ∃ a1, RC SA wA (.sl 1 (E cC l)) a1 ∧ Pt (Vs.keepE SA wA) C1 (⟨[(23, .agg [.v (slW t0), .v (slW o0)]), (24, .v (.int .i64 (nC l))), (0, .v a1)], []⟩ : St) aA wA SA := by
    refine ⟨aA.tmps.getD 0 undef, hpA.val (t := 0) rfl, hpA.set [(23, .agg [.v (slW t0), .v (slW o0)]), (24, .v (.int .i64 (nC l))), (0, .v (aA.tmps.getD 0 undef))] (fun p hp => ?_)⟩
    simp only [List.mem_cons, List.not_mem_nil, or_false] at hp
    rcases hp with rfl | rfl | rfl
    · right
      show RC SA wA (.agg [.v (slW t0), .v (slW o0)]) (aA.tmps.getD 23 undef)
      rw [hu]
      exact agg_rc (.v _) (.v _)
    · exact .inl ⟨rfl, rfl⟩
    · exact .inr (.v _)
  obtain ⟨a1, r1, hpS⟩ := hpS
  clear hpA
  letI IS := Vs.keepE SA wA
  refine hpS.rg hnt (pre := [⟨some 4, .alloc [.v (.slice none 0 0), .v (.slice none 0 0)], none⟩, ⟨none, .store 2 (.tmp 4) (.tmp 23), none⟩, ⟨some 5, .mv (.tmp 24), none⟩]) (post := []) (τ := ⟨[(0, .v a1), (4, .ptr (.t 4 0) 0 0), (5, .v (.int .i64 (nC l)))], [(.t 4 0, .var [.v (slW t0), .v (slW o0)] false)]⟩) (fun p hp => by
      rw [List.mem_singleton.1 hp]; exact ⟨rfl, rfl⟩) ?_ fun aB wB SB pB hpB => RgL.nil ?_
  · simp only [slW]
    simp -dsimp only [go_sem, reduceIte, reduceCtorEq, Nat.reduceEqDiff, Nat.reduceLT, Nat.reduceLeDiff, Nat.reduceAdd, Nat.reduceMul, Nat.reduceSub, Int.reduceToNat, Int.reduceNeg]
    first | (simp [Vs.LeL, Vs.look, Vs.hlook]; done) | (and_intros <;> first | omega | (simp [Vs.LeL, Vs.look, Vs.hlook]; done)) | trace_state
  -- the deck's copy
  show Vs.At Try.prog Try.f4.ntmps (drawnG Try.prog) (.seq _ (Vs.dropS 6 Cd.laws_FnExactNewOffice)) _ aB wB
  refine At.seq (At.rg (hpB.rg hnt (pre := [⟨some 25, .mv (.tmp 0), none⟩]) (post := ⟨some 26, .call (.func F.laws_toCardS) ([25].map .tmp) [], none⟩ :: [⟨some 6, .mv (.tmp 26), none⟩]) (τ := ⟨[(25, .v a1), (0, .v a1), (4, .ptr (.t 4 0) 0 0), (5, .v (.int .i64 (nC l)))], [(.t 4 0, .var [.v (slW t0), .v (slW o0)] false)]⟩) (fun p hp => by
      rw [List.mem_singleton.1 hp]; exact ⟨rfl, rfl⟩) ?_ fun a2 w2 S2 p2 hp2 => hp2.rgcall hnt (ts := [25]) (ys := [.v a1]) (Vs.CodeIsR.has Cd.laws_toCardS_ok) rfl (fun i hi => by match i, hi with | 0, _ => rfl) (fun i hi => by match i, hi with | 0, _ => rfl) fun us hus hr => ?_))
  · simp -dsimp only [go_sem, reduceIte, reduceCtorEq, Nat.reduceEqDiff, Nat.reduceLT, Nat.reduceLeDiff, Nat.reduceAdd, Nat.reduceMul, Nat.reduceSub, Int.reduceToNat, Int.reduceNeg]
    simp [Vs.LeL, Vs.look, Vs.hlook]
  obtain rfl := Vs.us1 hus (Vs.rc_v (hr 0 Nat.zero_lt_one))
  have pA2 : Vs.Past SA wA S2 w2 := pB.trans p2
  refine (toCardS_dk l hk hp2.dom hp2.env (pA2.rcS r1)).mono ?_
  rintro e w3 ⟨v1, rfl, hg1, m1, hd1, hn1⟩
  refine ⟨v1, rfl, ?_⟩
  have hp3 := (hp2.grow hg1 (D := m1.D) (fun b hb => ⟨hn1 b hb, hd1.lt b hb⟩) [(0, .v a1), (4, .ptr (.t 4 0) 0 0), (5, .v (.int .i64 (nC l)))] (fun p hp => by
      simp only [List.mem_cons, List.not_mem_nil, or_false] at hp
      rcases hp with rfl | rfl | rfl <;> exact ⟨rfl, .inl rfl⟩)).put (d := 26) (by rw [hnt, Cd.laws_FnExactNewOffice_nt]; omega) v1
  letI I3 := Vs.keepE (fun b => S2 b ∨ m1.D b) w3
  refine hp3.rg (pre := [⟨some 6, .mv (.tmp 26), none⟩]) (post := []) hnt (τ := ⟨[(0, .v a1), (4, .ptr (.t 4 0) 0 0), (5, .v (.int .i64 (nC l))), (6, .v v1)], [(.t 4 0, .var [.v (slW t0), .v (slW o0)] false)]⟩) (fun p hp => by
      rw [List.mem_singleton.1 hp]; exact ⟨rfl, rfl⟩) ?_ fun a4 w4 S4 p4 hp4 => RgL.nil ?_
  · simp -dsimp only [go_sem, reduceIte, reduceCtorEq, Nat.reduceEqDiff, Nat.reduceLT, Nat.reduceLeDiff, Nat.reduceAdd, Nat.reduceMul, Nat.reduceSub, Int.reduceToNat, Int.reduceNeg]
    simp [Vs.LeL, Vs.look, Vs.hlook]
  have pA4 : Vs.Past SA wA S4 w4 := (pA2.trans (Vs.Past.grow hg1 hp2.dom)).trans p4
  have m14 : ∀ b, m1.D b → S4 b := fun b hb => p4.sub b (.inr hb)
  have hd14 : Vs.Dk w4 (l.map (E cI)) v1 m1 := hd1.past (fun b hb => .inr hb) p4
  have m1A : ∀ b, m1.D b → ¬ SA b := fun b hb hs => by have := hn1 b hb; have := hdA b hs; have := pA2.size; omega
  -- the program's answer
  show Vs.At Try.prog Try.f4.ntmps (drawnG Try.prog) (.seq _ (Vs.dropS 7 Cd.laws_FnExactNewOffice)) _ a4 w4
  refine At.seq (At.rg (hp4.rg hnt (pre := [⟨some 28, .mv (.tmp 6), none⟩]) (post := ⟨some 29, .call (.func F.impl_NewOffice) ([28].map .tmp) [], none⟩ :: [⟨some 27, .mv (.tmp 29), none⟩, ⟨some 30, .extract (.tmp 27) 0, none⟩, ⟨some 31, .extract (.tmp 27) 1, none⟩, ⟨some 7, .alloc [.v (.slice none 0 0), .v (.slice none 0 0)], none⟩, ⟨none, .store 2 (.tmp 7) (.tmp 30), none⟩, ⟨some 8, .mv (.tmp 31), none⟩]) (τ := ⟨[(28, .v v1), (0, .v a1), (4, .ptr (.t 4 0) 0 0), (5, .v (.int .i64 (nC l))), (6, .v v1)], [(.t 4 0, .var [.v (slW t0), .v (slW o0)] false)]⟩) (fun p hp => by
      rw [List.mem_singleton.1 hp]; exact ⟨rfl, rfl⟩) ?_ fun a5 w5 S5 p5 hp5 => hp5.rgcall hnt (ts := [28]) (ys := [.v v1]) (Vs.CodeIsR.has Cd.impl_NewOffice_ok) rfl (fun i hi => by match i, hi with | 0, _ => rfl) (fun i hi => by match i, hi with | 0, _ => rfl) fun us hus hr2 => ?_))
  · simp -dsimp only [go_sem, reduceIte, reduceCtorEq, Nat.reduceEqDiff, Nat.reduceLT, Nat.reduceLeDiff, Nat.reduceAdd, Nat.reduceMul, Nat.reduceSub, Int.reduceToNat, Int.reduceNeg]
    simp [Vs.LeL, Vs.look, Vs.hlook]
  have hus1 : us.getD 0 undef = v1 := Vs.rc_v (hr2 0 Nat.zero_lt_one)
  have hd15 : Vs.Dk w5 (l.map (E cI)) v1 m1 := hd14.past m14 p5
  have hrd1 : RC S5 w5 (.sl 1 (E cC l)) (us.getD 0 undef) := by
    rw [hus1, ← deckE]
    exact hd15.rd.mono (fun b hb => p5.sub b (m14 b hb)) fun _ _ => rfl
  refine (NewOffice_all l hk hp5.dom hp5.env hus (fun j hj => by
    match j, hj with
    | 0, _ => exact hrd1)).mono ?_
  rintro e w6 ⟨ts, os, xt, TV, M, rfl, hg2, hO, hTV, hn2, hov⟩
  refine ⟨_, rfl, ?_⟩
  have hp6 := (hp5.grow hg2 (D := OfD xt TV M) (fun b hb => ⟨hn2 b hb, hO.ltD b hb⟩) [(0, .v a1), (4, .ptr (.t 4 0) 0 0), (5, .v (.int .i64 (nC l))), (6, .v v1)] (fun p hp => by
      simp only [List.mem_cons, List.not_mem_nil, or_false] at hp
      rcases hp with rfl | rfl | rfl | rfl <;> exact ⟨rfl, .inl rfl⟩)).putR (d := 29) (by rw [hnt, Cd.laws_FnExactNewOffice_nt]; omega) (r := .tup [.agg [.v (slW ts), .v (slW os)], .v (.int .i64 (nC l))]) (tupA_rc _ _ _)
  letI I6 := Vs.keepE (fun b => S5 b ∨ OfD xt TV M b) w6
  refine hp6.rg (pre := [⟨some 27, .mv (.tmp 29), none⟩, ⟨some 30, .extract (.tmp 27) 0, none⟩, ⟨some 31, .extract (.tmp 27) 1, none⟩, ⟨some 7, .alloc [.v (.slice none 0 0), .v (.slice none 0 0)], none⟩, ⟨none, .store 2 (.tmp 7) (.tmp 30), none⟩, ⟨some 8, .mv (.tmp 31), none⟩]) (post := []) hnt (τ := ⟨[(0, .v a1), (4, .ptr (.t 4 0) 0 0), (5, .v (.int .i64 (nC l))), (6, .v v1), (7, .ptr (.t 7 0) 0 0), (8, .v (.int .i64 (nC l)))], [(.t 7 0, .var [.v (slW ts), .v (slW os)] false), (.t 4 0, .var [.v (slW t0), .v (slW o0)] false)]⟩) (fun p hp => by
      simp only [List.mem_cons, List.not_mem_nil, or_false] at hp
      rcases hp with rfl | rfl <;> exact ⟨rfl, rfl⟩) ?_ fun a7 w7 S7 p7 hp7 => RgL.nil ?_
  · simp only [slW]
    simp -dsimp only [go_sem, reduceIte, reduceCtorEq, Nat.reduceEqDiff, Nat.reduceLT, Nat.reduceLeDiff, Nat.reduceAdd, Nat.reduceMul, Nat.reduceSub, Int.reduceToNat, Int.reduceNeg]
    first | (simp [Vs.LeL, Vs.look, Vs.hlook]; done) | (and_intros <;> first | omega | (simp [Vs.LeL, Vs.look, Vs.hlook]; done)) | trace_state
  have pA5 : Vs.Past SA wA S5 w5 := pA4.trans p5
  have pA6 : Vs.Past SA wA (fun b => S5 b ∨ OfD xt TV M b) w6 := pA5.trans (Vs.Past.grow hg2 hp5.dom)
  have pA7 : Vs.Past SA wA S7 w7 := pA6.trans p7
  have m15 : ∀ b, m1.D b → S5 b := fun b hb => p5.sub b (m14 b hb)
  have hd16 : Vs.Dk w6 (l.map (E cI)) v1 m1 := hd15.past (S' := fun b => S5 b ∨ OfD xt TV M b) m15 (Vs.Past.grow hg2 hp5.dom)
  have m2A : ∀ b, OfD xt TV M b → ¬ SA b := fun b hb hs => by have := hn2 b hb; have := hdA b hs; have := pA5.size; omega
  have m12 : ∀ b, OfD xt TV M b → ¬ m1.D b := fun b hb hs => by have := hn2 b hb; have := hp5.dom b (m15 b hs); omega
  have hdom6 : ∀ b, (S5 b ∨ OfD xt TV M b) → b < w6.heap.size := fun b hb => hb.elim (fun h => Nat.lt_of_lt_of_le (hp5.dom b h) hg2.size) (hO.ltD b)
  -- the comparison
  show Vs.At Try.prog Try.f4.ntmps (drawnG Try.prog) (Vs.dropS 7 Cd.laws_FnExactNewOffice) _ a7 w7
  refine hp7.go (drawn_ok Try.mixed) hnt 3 _ (τ := ⟨[(0, .v a1), (4, .ptr (.t 4 0) 0 0), (5, .v (.int .i64 (nC l))), (6, .v v1), (7, .ptr (.t 7 0) 0 0), (8, .v (.int .i64 (nC l))), (9, .v (.int .i64 1))], [(.t 7 0, .var [.v (slW ts), .v (slW os)] false), (.t 4 0, .var [.v (slW t0), .v (slW o0)] false)]⟩) (X := True) (E := fun _ _ => False) (fun p hp => by
      simp only [List.mem_cons, List.not_mem_nil, or_false] at hp
      rcases hp with rfl | rfl <;> exact ⟨rfl, rfl⟩) (fun C hC => lwNoC C l hk a1 v1 t0 o0 ts os (fun S' w' he' => Vs.keepE_known hdom6 he' (hO.rd.mono (fun b hb => .inr hb) fun _ _ => rfl)) (fun S' w' he' => hov _ _) (fun S' w' he' => Vs.keepE_known hdom6 he' (pA6.rcS rt0)) (fun S' w' he' => Vs.keepE_known hdom6 he' (pA6.rcS ro0)) (fun S' w' he' => Vs.keepE_known hdom6 he' (pA6.rcS r1)) (fun S' w' he' => Vs.keepE_known hdom6 he' (by rw [← deckE]; exact hd16.rd.mono (fun b hb => .inl (m15 b hb)) fun _ _ => rfl))) (fun i σ h => h) (fun C a w hl hg => hg.no.elim) fun a8 w8 S8 p8 hp8 _ => ?_
  have pA8 : Vs.Past SA wA S8 w8 := pA7.trans p8
  have p68 : Vs.Past (fun b => S5 b ∨ OfD xt TV M b) w6 S8 w8 := p7.trans p8
  have m18 : ∀ b, m1.D b → S8 b := fun b hb => p68.sub b (.inl (m15 b hb))
  have m28 : ∀ b, OfD xt TV M b → S8 b := fun b hb => p68.sub b (.inr hb)
  have hd18 : Vs.Dk w8 (l.map (E cI)) v1 m1 := hd16.past (S := fun b => S5 b ∨ OfD xt TV M b) (fun b hb => .inl (m15 b hb)) p68
  have hO8 : Of w8 (nL l) (slW ts) xt TV M := hO.same p68.size fun b hb => p68.old b (.inr hb)
  have hS1 : ∀ b, C1.S0 b → SA b := fun b hb => by rw [hS0] at hb; exact pA.sub b hb
  -- the argument is marked
  show Vs.At Try.prog Try.f4.ntmps (drawnG Try.prog) (.seq _ (Vs.dropS 11 Cd.laws_FnExactNewOffice)) _ a8 w8
  refine At.seq (At.rg (hp8.rg hnt (pre := [⟨some 46, .mv (.tmp 6), none⟩, ⟨some 47, .mv (.tmp 9), none⟩]) (post := ⟨some 48, .call (.func F.laws_markCardS) ([46, 47].map .tmp) [0], none⟩ :: [⟨some 9, .mv (.tmp 48), none⟩]) (τ := ⟨[(46, .v v1), (47, .v (.int .i64 1)), (0, .v a1), (4, .ptr (.t 4 0) 0 0), (5, .v (.int .i64 (nC l))), (7, .ptr (.t 7 0) 0 0), (8, .v (.int .i64 (nC l)))], [(.t 7 0, .var [.v (slW ts), .v (slW os)] false), (.t 4 0, .var [.v (slW t0), .v (slW o0)] false)]⟩) (fun p hp => by
      simp only [List.mem_cons, List.not_mem_nil, or_false] at hp
      rcases hp with rfl | rfl <;> exact ⟨rfl, rfl⟩) ?_ fun a9 w9 S9 p9 hp9 => hp9.rgcall hnt (ts := [46, 47]) (ys := [.v v1, .v (.int .i64 1)]) (Vs.CodeIsR.has Cd.laws_markCardS_ok) rfl (fun i hi => by match i, hi with | 0, _ => rfl | 1, _ => rfl) (fun i hi => by match i, hi with | 0, _ => rfl | 1, _ => rfl) fun us hus hr => ?_))
  · simp -dsimp only [go_sem, reduceIte, reduceCtorEq, Nat.reduceEqDiff, Nat.reduceLT, Nat.reduceLeDiff, Nat.reduceAdd, Nat.reduceMul, Nat.reduceSub, Int.reduceToNat, Int.reduceNeg]
    simp [Vs.LeL, Vs.look, Vs.hlook]
  obtain rfl := Vs.us2 hus (Vs.rc_v (hr 0 (by show 0 < 2; omega))) (Vs.rc_v (hr 1 (by show 1 < 2; omega)))
  have pA9 : Vs.Past SA wA S9 w9 := pA8.trans p9
  have hd19 : Vs.Dk w9 (l.map (E cI)) v1 m1 := hd18.past m18 p9
  have hO9 : Of w9 (nL l) (slW ts) xt TV M := hO8.same p9.size fun b hb => p9.old b (m28 b hb)
  have hdA9 : ∀ b, SA b → b < w9.heap.size := fun b hb => Nat.lt_of_lt_of_le (hdA b hb) pA9.size
  refine (MK l hk SA w9 v1 m1 hdA9 (EM _ pA9.old) m1A hd19).mono ?_
  rintro e w10 ⟨rfl, q1, q2, q3, _⟩
  refine ⟨_, rfl, ?_⟩
  have hge1 : ∀ b, m1.D b → C1.w0.heap.size ≤ b ∧ S9 b := fun b hb => ⟨by have := hn1 b hb; have := pA2.size; omega, p9.sub b (m18 b hb)⟩
  have hK9 : ∀ b, (SA b ∨ OfD xt TV M b) → S9 b := fun b hb => hb.elim (pA9.sub b) fun h => p9.sub b (m28 b h)
  have hp10 := (hp9.marked q1 q2 q3 hge1 (K := fun b => SA b ∨ OfD xt TV M b) hK9 (fun b hb => .inl (hS1 b hb)) [(0, .v a1), (4, .ptr (.t 4 0) 0 0), (5, .v (.int .i64 (nC l))), (7, .ptr (.t 7 0) 0 0), (8, .v (.int .i64 (nC l)))] (fun p hp => by
      simp only [List.mem_cons, List.not_mem_nil, or_false] at hp
      rcases hp with rfl | rfl | rfl | rfl | rfl <;> exact ⟨rfl, rfl⟩)).put (d := 48) (by rw [hnt, Cd.laws_FnExactNewOffice_nt]; omega) (.int .i64 (1 + totD l : Nat))
  have pA10 : Vs.Past SA wA (fun b => SA b ∨ OfD xt TV M b) w10 := pA9.mark hp9.dom q1 q2 m1A fun _ h => .inl h
  have hO10 : Of w10 (nL l) (slW ts) xt TV M := hO9.same q1 fun b hb => q2 b (hO9.ltD b hb) (m12 b hb)
  have hdom10 : ∀ b, (SA b ∨ OfD xt TV M b) → b < w10.heap.size := fun b hb => Nat.lt_of_lt_of_le (hp9.dom b (hK9 b hb)) q1
  letI I10 := Vs.keepE (fun b => SA b ∨ OfD xt TV M b) w10
  refine hp10.rg (pre := [⟨some 9, .mv (.tmp 48), none⟩]) (post := []) hnt (τ := ⟨[(0, .v a1), (4, .ptr (.t 4 0) 0 0), (5, .v (.int .i64 (nC l))), (7, .ptr (.t 7 0) 0 0), (8, .v (.int .i64 (nC l))), (9, .v (.int .i64 (1 + totD l : Nat)))], [(.t 7 0, .var [.v (slW ts), .v (slW os)] false), (.t 4 0, .var [.v (slW t0), .v (slW o0)] false)]⟩) (fun p hp => by
      simp only [List.mem_cons, List.not_mem_nil, or_false] at hp
      rcases hp with rfl | rfl <;> exact ⟨rfl, rfl⟩) ?_ fun a11 w11 S11 p11 hp11 => RgL.nil ?_
  · simp -dsimp only [go_sem, reduceIte, reduceCtorEq, Nat.reduceEqDiff, Nat.reduceLT, Nat.reduceLeDiff, Nat.reduceAdd, Nat.reduceMul, Nat.reduceSub, Int.reduceToNat, Int.reduceNeg]
    simp [Vs.LeL, Vs.look, Vs.hlook]
  show Vs.At Try.prog Try.f4.ntmps (drawnG Try.prog) (Vs.dropS 11 Cd.laws_FnExactNewOffice) _ a11 w11
  refine hp11.go (drawn_ok Try.mixed) hnt 2 _ (τ := ⟨[(0, .v a1), (4, .ptr (.t 4 0) 0 0), (5, .v (.int .i64 (nC l))), (7, .ptr (.t 7 0) 0 0), (10, .v (.int .i64 1))], [(.t 7 0, .var [.v (slW ts), .v (slW os)] false), (.t 4 0, .var [.v (slW t0), .v (slW o0)] false)]⟩) (X := True) (E := fun _ _ => False) (fun p hp => by
      simp only [List.mem_cons, List.not_mem_nil, or_false] at hp
      rcases hp with rfl | rfl <;> exact ⟨rfl, rfl⟩) (fun C hC => lwNoD C l hk a1 t0 o0 ts os (1 + totD l) (fun S' w' he' => Vs.keepE_known hdom10 he' (hO10.rd.mono (fun b hb => .inr hb) fun _ _ => rfl)) (fun S' w' he' => hov _ _) (fun S' w' he' => Vs.keepE_known hdom10 he' (pA10.rcS rt0)) (fun S' w' he' => Vs.keepE_known hdom10 he' (pA10.rcS ro0))) (fun i σ h => h) (fun C a w hl hg => hg.no.elim) fun a12 w12 S12 p12 hp12 _ => ?_
  have p1012 := p11.trans p12
  -- the answer is marked
  show Vs.At Try.prog Try.f4.ntmps (drawnG Try.prog) (.seq _ (Vs.dropS 14 Cd.laws_FnExactNewOffice)) _ a12 w12
  refine At.seq (At.rg (hp12.rg hnt (pre := [⟨some 62, .load true 2 (.tmp 7), none⟩, ⟨some 63, .mv (.tmp 10), none⟩]) (post := ⟨some 64, .call (.func F.laws_markOffice) ([62, 63].map .tmp) [0], none⟩ :: [⟨some 10, .mv (.tmp 64), none⟩]) (τ := ⟨[(62, .agg [.v (slW ts), .v (slW os)]), (63, .v (.int .i64 1)), (0, .v a1), (4, .ptr (.t 4 0) 0 0), (5, .v (.int .i64 (nC l))), (7, .ptr (.t 7 0) 0 0)], [(.t 7 0, .var [.v (slW ts), .v (slW os)] false), (.t 4 0, .var [.v (slW t0), .v (slW o0)] false)]⟩) (fun p hp => by
      simp only [List.mem_cons, List.not_mem_nil, or_false] at hp
      rcases hp with rfl | rfl <;> exact ⟨rfl, rfl⟩) ?_ fun a13 w13 S13 p13 hp13 => hp13.rgcall hnt (ts := [62, 63]) (ys := [.agg [.v (slW ts), .v (slW os)], .v (.int .i64 1)]) (Vs.CodeIsR.has Cd.laws_markOffice_ok) rfl (fun i hi => by match i, hi with | 0, _ => rfl | 1, _ => rfl) (fun i hi => by match i, hi with | 0, _ => rfl | 1, _ => rfl) fun us hus hr => ?_))
  · simp -dsimp only [go_sem, reduceIte, reduceCtorEq, Nat.reduceEqDiff, Nat.reduceLT, Nat.reduceLeDiff, Nat.reduceAdd, Nat.reduceMul, Nat.reduceSub, Int.reduceToNat, Int.reduceNeg]
    simp [Vs.LeL, Vs.look, Vs.hlook]
  have e62 : us.getD 0 undef = .agg #[slW ts, slW os] := agg2_v (hr 0 (by show 0 < 2; omega))
  have e63 : us.getD 1 undef = .int .i64 1 := Vs.rc_v (hr 1 (by show 1 < 2; omega))
  have p1013 := p1012.trans p13
  have pA13 : Vs.Past SA wA S13 w13 := pA10.trans p1013
  have hO13 : Of w13 (nL l) (slW ts) xt TV M := hO10.same p1013.size fun b hb => p1013.old b (.inr hb)
  refine (MO (nL l) hlw.2 ts.1 ts.2.1 ts.2.2 xt TV M (by omega) SA w13 us (fun b hb => Nat.lt_of_lt_of_le (hdA b hb) pA13.size) (EM _ pA13.old) m2A (by unfold slW at hO13; exact hO13) hus (fun j hj => by
    match j, hj with
    | 0, _ =>
      show RC SA w13 _ (us.getD 0 undef)
      rw [e62]
      unfold slW at hov ⊢
      exact agg_rc (.v _) (hov _ _)
    | 1, _ =>
      show RC SA w13 _ (us.getD 1 undef)
      rw [e63]; exact .v _)).mono ?_
  rintro e w14 ⟨rfl, q4, q5, q6, hO14'⟩
  have hO14 : Of w14 (mkS 1 (nL l)) (slW ts) xt TV M := by unfold slW; exact hO14'
  refine ⟨_, rfl, ?_⟩
  have hge2 : ∀ b, OfD xt TV M b → C1.w0.heap.size ≤ b ∧ S13 b := fun b hb => ⟨by have := hn2 b hb; have := pA5.size; omega, p1013.sub b (.inr hb)⟩
  have hK13 : ∀ b, (SA b ∨ OfD xt TV M b) → S13 b := fun b hb => p1013.sub b hb
  have hp14 := (hp13.marked q4 q5 q6 hge2 (K := fun b => SA b ∨ OfD xt TV M b) hK13 (fun b hb => .inl (hS1 b hb)) [(0, .v a1), (4, .ptr (.t 4 0) 0 0), (5, .v (.int .i64 (nC l))), (7, .ptr (.t 7 0) 0 0)] (fun p hp => by
      simp only [List.mem_cons, List.not_mem_nil, or_false] at hp
      rcases hp with rfl | rfl | rfl | rfl <;> exact ⟨rfl, rfl⟩)).put (d := 64) (by rw [hnt, Cd.laws_FnExactNewOffice_nt]; omega) (.int .i64 (1 + totS (nL l) : Nat))
  have pA14 : Vs.Past SA wA (fun b => SA b ∨ OfD xt TV M b) w14 := pA13.mark hp13.dom q4 q5 m2A fun _ h => .inl h
  have hdom14 : ∀ b, (SA b ∨ OfD xt TV M b) → b < w14.heap.size := fun b hb => Nat.lt_of_lt_of_le (hp13.dom b (hK13 b hb)) q4
  letI I14 := Vs.keepE (fun b => SA b ∨ OfD xt TV M b) w14
  refine hp14.rg (pre := [⟨some 10, .mv (.tmp 64), none⟩]) (post := []) hnt (τ := ⟨[(0, .v a1), (4, .ptr (.t 4 0) 0 0), (5, .v (.int .i64 (nC l))), (7, .ptr (.t 7 0) 0 0), (10, .v (.int .i64 (1 + totS (nL l) : Nat)))], [(.t 7 0, .var [.v (slW ts), .v (slW os)] false), (.t 4 0, .var [.v (slW t0), .v (slW o0)] false)]⟩) (fun p hp => by
      simp only [List.mem_cons, List.not_mem_nil, or_false] at hp
      rcases hp with rfl | rfl <;> exact ⟨rfl, rfl⟩) ?_ fun a15 w15 S15 p15 hp15 => RgL.nil ?_
  · simp -dsimp only [go_sem, reduceIte, reduceCtorEq, Nat.reduceEqDiff, Nat.reduceLT, Nat.reduceLeDiff, Nat.reduceAdd, Nat.reduceMul, Nat.reduceSub, Int.reduceToNat, Int.reduceNeg]
    simp [Vs.LeL, Vs.look, Vs.hlook]
  show Vs.At Try.prog Try.f4.ntmps (drawnG Try.prog) (Vs.dropS 14 Cd.laws_FnExactNewOffice) _ a15 w15
  exact hp15.fin (drawn_ok Try.mixed) hnt (fun C hC => lwNoE C l hk a1 t0 o0 ts os (fun S' w' he' => Vs.keepE_known hdom14 he' (hO14.rd.mono (fun b hb => .inr hb) fun _ _ => rfl)) (fun S' w' he' => hov _ _) (fun S' w' he' => Vs.keepE_known hdom14 he' (pA14.rcS rt0)) (fun S' w' he' => Vs.keepE_known hdom14 he' (pA14.rcS ro0)) (fun S' w' he' => Vs.keepE_known hdom14 he' (pA14.rcS r1))) (fun i σ h => h) (fun C a w hl hg => ⟨.inl rfl, Vs.law_end hl hM Cd.laws_FnExactNewOffice_rs hg⟩)
end Go.Proofs.Ytokfhfdnmnblfaa
