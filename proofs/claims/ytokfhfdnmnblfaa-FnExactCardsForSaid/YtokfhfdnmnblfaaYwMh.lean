/- The law FnExactCardsFor, joined. -/
import Derived.Test.YtokfhfdnmnblfaaYwMb
import Derived.Test.YtokfhfdnmnblfaaYuG
import Derived.Test.YtokfhfdnmnblfaaYuF
import Derived.Test.YtokfhfdnmnblfaaVtN
import Derived.Test.YtokfhfdnmnblfaaVuF
namespace Go.Proofs.Ytokfhfdnmnblfaa
open Go.Vs
set_option linter.unusedSectionVars false
variable [Vs.Envs]
set_option linter.unusedSimpArgs false
set_option linter.unusedVariables false
attribute [local irreducible] Vs.Fn mkD totD cmT pun chOK areCh chTo chAt l03 chB rk cd3 chI stp stpTo
theorem szI_mono {l : List Int} {n : Int} (hl : l.length < 2 ^ 63) (h0 : 0 ≤ n) (hn : n ≤ 1048576) (h : 0 ≤ szI l n) : szI l n ≤ n := (szI_le hl h0 hn h).1
def bigC (l : List (List Int)) : Prop := l.length < 2 ^ 63 ∧ ∀ c, c ∈ l → c.length < 2 ^ 63
def szDk (l : List (List Int)) (n : Int) : Int := szL szI l n
theorem szDk_small {l : List (List Int)} (hb : bigC l) {n : Int} (h0 : 0 ≤ n) (hn : n ≤ 1048576) (h : 0 ≤ szDk l n) : smallC l := by
  refine ⟨?_, fun c hc => ?_⟩
  · have := (szL_mono (fun x hx _ a b c => szI_mono (hb.2 x hx) a b c) hb.1 h0 hn h).2; omega
  · obtain ⟨m, h1, h2, h3⟩ := szL_in (fun x hx _ a b c => szI_mono (hb.2 x hx) a b c) hb.1 h0 hn h c hc
    have := (szI_le (hb.2 c hc) h1 h2 h3).2; omega
abbrev ACard := { l : List I64 // l.length < 2 ^ 63 }
abbrev ACards := { l : List ACard // l.length < 2 ^ 63 }
def gCards (d : ACards) : List (List Int) := d.1.map fun c => c.1.map fun n => n.1
theorem gCards_big (d : ACards) : bigC (gCards d) := by
  refine ⟨by simpa [gCards] using d.2, fun c hc => ?_⟩
  obtain ⟨x, _, rfl⟩ := List.mem_map.1 hc
  simpa using x.2
theorem gCards_enc (d : ACards) : E cC (gCards d) = d.1.map eCard := by
  simp only [gCards, E_map]
  congr 1
  funext c
  simp only [cC, E_map]
  rfl

theorem nil_rc {S : Nat → Prop} {w : World} {k : Nat} {v : Value} (h : RC S w (.v (.slice none 0 0)) v) : RC S w (.sl k []) v := by
  rw [inv_v (ρ := fun _ => none) (κ := fun _ => 0) (h := fun _ => none) (.clo h)]
  exact .sl k [] none 0 0 0 (fun _ => undef) (by simp) (by simp) (by simp) (by simp) (by simp) ⟨by simp, by decide⟩
theorem tup_nil {f : FuncId} {ys : List AV} {c : Value} (h : Vs.Fn Try.prog f [] ys (.tup [.v (.slice none 0 0), .v c]) []) : Vs.Fn Try.prog f [] ys (.tup [.sl 1 (E cC []), .v c]) [] :=
  Vs.Fn.resAs h rfl fun S w v hv => by
    cases hv with
    | tup _ vs hl hr =>
      refine .tup _ vs hl fun j hj => ?_
      match j, hj with
      | 0, _ => exact nil_rc (hr 0 (by simp))
      | 1, _ => exact hr 1 (by simp)

def cwL (x : Spc) (l : List (List Int)) : List (List Int) := if cfC x l = 0 then cfL x l else []
theorem cfL_mem0 {x : Spc} {l : List (List Int)} : ∀ c, c ∈ cfL x l → c ∈ l := fun c hc => by
  unfold cfL flt at hc
  split at hc
  · exact hc
  · exact (List.mem_filter.1 hc).1
theorem cfL_len0 (x : Spc) (l : List (List Int)) : (cfL x l).length ≤ l.length := by
  unfold cfL flt
  split
  · exact Nat.le_refl _
  · exact List.length_filter_le ..
theorem spec_CardsW (x : Spc) (l : List (List Int)) (hk : smallC l) (hz : x.text.size ≤ 1048576) : Vs.Fn Try.prog F.spec_CardsFor [] [.agg (cP x), .sl 1 (E cC l)] (.tup [.sl 1 (E cC (cwL x l)), .v (.int .i64 (cfC x l))]) [] := by
  have H := spec_CardsFor x l hk hz
  unfold cfV at H
  unfold cwL
  split
  · rename_i h; rw [if_pos h] at H; exact H
  · rename_i h; rw [if_neg h] at H; exact tup_nil H
theorem impl_CardsW (x : Spc) (l : List (List Int)) (hk : smallC l) (hz : x.text.size ≤ 1048576) : Vs.Fn Try.prog F.impl_CardsFor [] [.agg (cP x), .sl 1 (E cC l)] (.tup [.sl 1 (E cC (cwL x l)), .v (.int .i64 (cfC x l))]) [] := by
  have H := impl_CardsFor x l hk hz
  unfold cfV at H
  unfold cwL
  split
  · rename_i h; rw [if_pos h] at H; exact H
  · rename_i h; rw [if_neg h] at H; exact tup_nil H
attribute [local irreducible] cwL cfC cfL
theorem lw_lwCf_small (x : Spc) (l : List (List Int)) (hk : smallC l) (hx : x.text.size ≤ 1048576) : smallC (cwL x l) := by
  unfold cwL
  split
  · exact ⟨Nat.le_trans (cfL_len0 x l) hk.1, fun c hc => hk.2 c (cfL_mem0 c hc)⟩
  · exact ⟨by simp, fun c hc => (by cases hc)⟩
set_option maxHeartbeats 1000000 in
theorem lwCfA (C : Ctx) (x : Spc) (l : List (List Int)) (hx0 : x.text.size < 2 ^ 63) (gb : bigC l) :
    Vs.wpcN Try.prog C (drawnG Try.prog) 7 Cd.laws_FnExactCardsFor (fun σ' => LeL σ' ⟨[(2, .ptr (.t 2 0) 0 0), (1, .sl 1 (E cC l)), (6, .sl 1 (E cC (cwL x l))), (7, .v (.int .i64 (cfC x l)))], [(.t 2 0, .var (cP x) false)]⟩ ∧ smallC l ∧ x.text.size ≤ 1048576) (fun e σ' => match e with | .ret => LeL σ' ⟨[(4, .v (.bool true))], []⟩ | .exit _ => False) ⟨ini 0 [.agg (cP x), .sl 1 (E cC l)], []⟩ := by
  unfold Cd.laws_FnExactCardsFor
  simp -dsimp only [go_sem, reduceIte, reduceCtorEq, Nat.reduceEqDiff, Nat.reduceLT, Nat.reduceLeDiff, Nat.reduceAdd, Nat.reduceMul, Nat.reduceSub, Int.reduceToNat, Int.reduceNeg, cP]
  refine CallK.flat (szSpec x 1048576) rfl ?_
  simp -dsimp only [go_sem, reduceIte, reduceCtorEq, Nat.reduceEqDiff, Nat.reduceLT, Nat.reduceLeDiff, Nat.reduceAdd, Nat.reduceMul, Nat.reduceSub, Int.reduceToNat, Int.reduceNeg, cP]
  refine Br.mk (fun h2 => by simp -dsimp only [go_sem, reduceIte, reduceCtorEq, Nat.reduceEqDiff, Nat.reduceLT, Nat.reduceLeDiff, Nat.reduceAdd, Nat.reduceMul, Nat.reduceSub, Int.reduceToNat, Int.reduceNeg, cP]; simp [Vs.LeL, Vs.look, Vs.hlook]) (fun h2 => ?_)
  simp only [decide_eq_false_iff_not] at h2
  have z2 : 0 ≤ szT x.text 1048576 := by omega
  have hx : x.text.size ≤ 1048576 := by have := (szT_le hx0 (n := 1048576) (by omega) (by omega) z2).2; omega
  have m2 : szT x.text 1048576 ≤ 1048576 := by have := (szT_le hx0 (n := 1048576) (by omega) (by omega) z2).1; omega
  generalize szT x.text 1048576 = n2 at *
  simp -dsimp only [go_sem, reduceIte, reduceCtorEq, Nat.reduceEqDiff, Nat.reduceLT, Nat.reduceLeDiff, Nat.reduceAdd, Nat.reduceMul, Nat.reduceSub, Int.reduceToNat, Int.reduceNeg, cP]
  refine CallK.flat (szCardS l n2 gb.2 gb.1 ⟨z2, m2⟩) rfl ?_
  simp -dsimp only [go_sem, reduceIte, reduceCtorEq, Nat.reduceEqDiff, Nat.reduceLT, Nat.reduceLeDiff, Nat.reduceAdd, Nat.reduceMul, Nat.reduceSub, Int.reduceToNat, Int.reduceNeg, cP]
  refine Br.mk (fun h3 => by simp -dsimp only [go_sem, reduceIte, reduceCtorEq, Nat.reduceEqDiff, Nat.reduceLT, Nat.reduceLeDiff, Nat.reduceAdd, Nat.reduceMul, Nat.reduceSub, Int.reduceToNat, Int.reduceNeg, cP]; simp [Vs.LeL, Vs.look, Vs.hlook]) (fun h3 => ?_)
  simp only [decide_eq_false_iff_not] at h3
  have hk := szDk_small gb z2 m2 (by unfold szDk; omega)
  simp -dsimp only [go_sem, reduceIte, reduceCtorEq, Nat.reduceEqDiff, Nat.reduceLT, Nat.reduceLeDiff, Nat.reduceAdd, Nat.reduceMul, Nat.reduceSub, Int.reduceToNat, Int.reduceNeg, cP]
  repeat' (first
    | (refine RgK.mk rfl ?_; simp -dsimp only [go_sem, reduceIte, reduceCtorEq, Nat.reduceEqDiff, Nat.reduceLT, Nat.reduceLeDiff, Nat.reduceAdd, Nat.reduceMul, Nat.reduceSub, Int.reduceToNat, Int.reduceNeg, cP])
    | (refine Br.mk (fun h => ?_) (fun h => ?_) <;> simp -dsimp only [go_sem, reduceIte, reduceCtorEq, Nat.reduceEqDiff, Nat.reduceLT, Nat.reduceLeDiff, Nat.reduceAdd, Nat.reduceMul, Nat.reduceSub, Int.reduceToNat, Int.reduceNeg, h, cP])
    | (refine CallK.flat (by first | exact toSpec x | exact toCardS l hk.2 hk.1 | exact spec_CardsW x l hk hx) rfl ?_; simp -dsimp only [go_sem, reduceIte, reduceCtorEq, Nat.reduceEqDiff, Nat.reduceLT, Nat.reduceLeDiff, Nat.reduceAdd, Nat.reduceMul, Nat.reduceSub, Int.reduceToNat, Int.reduceNeg, cP])
    | (refine CallK.pure (by first | exact toSpec x | exact toCardS l hk.2 hk.1 | exact spec_CardsW x l hk hx) ?_; simp -dsimp only [go_sem, reduceIte, reduceCtorEq, Nat.reduceEqDiff, Nat.reduceLT, Nat.reduceLeDiff, Nat.reduceAdd, Nat.reduceMul, Nat.reduceSub, Int.reduceToNat, Int.reduceNeg, cP])
    | (refine And.intro (by first | rfl | omega | decide | (refine ⟨?_, ?_⟩ <;> (first | rfl | omega | decide)) | (refine ⟨?_, ?_, ?_⟩ <;> (first | rfl | omega | decide)) | (refine ⟨?_, ?_, ?_, ?_⟩ <;> (first | rfl | omega | decide))) ?_)
    | fail)

  all_goals first | exact ⟨by simp [Vs.LeL, Vs.look, Vs.hlook], hk, hx⟩ | trace_state

set_option maxHeartbeats 1000000 in
theorem lwCfC (C : Ctx) (x : Spc) (l : List (List Int)) (hk : smallC l) (hx : x.text.size ≤ 1048576) (a1 a6 a8 a9 : Value) (k1 : ∀ S w, Vs.Env S w → RC S w (.sl 1 (E cC l)) a1) (k6 : ∀ S w, Vs.Env S w → RC S w (.sl 1 (E cC (cwL x l))) a6) (k8 : ∀ S w, Vs.Env S w → RC S w (.sl 1 (E cC l)) a8) (k9 : ∀ S w, Vs.Env S w → RC S w (.sl 1 (E cC (cwL x l))) a9) :
    Vs.wpcN Try.prog C (drawnG Try.prog) 3 (Vs.dropS 9 Cd.laws_FnExactCardsFor) (fun σ' => LeL σ' ⟨[(2, .ptr (.t 2 0) 0 0), (1, .v a1), (6, .v a6), (7, .v (.int .i64 (cfC x l))), (8, .v a8), (9, .v a9), (10, .v (.int .i64 (cfC x l))), (11, .v (.int .i64 1))], [(.t 2 0, .var (cP x) false)]⟩ ∧ True) (fun _ _ => False) ⟨[(2, .ptr (.t 2 0) 0 0), (1, .v a1), (6, .v a6), (7, .v (.int .i64 (cfC x l))), (8, .v a8), (9, .v a9), (10, .v (.int .i64 (cfC x l)))], [(.t 2 0, .var (cP x) false)]⟩ := by
  have hlw := lw_lwCf_small x l hk hx
  have n0 : ((cfC x l) != (cfC x l)) = false := by simp
  have KG := (eqCardS (cwL x l) hlw.2 hlw.1).known (ys' := [.v a9, .v a6]) rfl (fun j hj => by match j, hj with | 0, _ => exact .inr ⟨_, rfl, k9⟩ | 1, _ => exact .inr ⟨_, rfl, k6⟩)
  have KC := (toCardS l hk.2 hk.1).known (ys' := [.v a1]) rfl (fun j hj => by match j, hj with | 0, _ => exact .inr ⟨_, rfl, k1⟩)
  have KX := (eqCardS (l) hk.2 hk.1).known (ys' := [.v a8, .sl 1 (E cC l)]) rfl (fun j hj => by match j, hj with | 0, _ => exact .inr ⟨_, rfl, k8⟩ | 1, _ => exact .inl rfl)
  generalize hc0 : (cfC x l) = c at *
  unfold Cd.laws_FnExactCardsFor
  simp only [Vs.dropS]
  simp -dsimp only [go_sem, reduceIte, reduceCtorEq, Nat.reduceEqDiff, Nat.reduceLT, Nat.reduceLeDiff, Nat.reduceAdd, Nat.reduceMul, Nat.reduceSub, Int.reduceToNat, Int.reduceNeg, cP, n0]
  repeat' (first
    | (refine RgK.mk rfl ?_; simp -dsimp only [go_sem, reduceIte, reduceCtorEq, Nat.reduceEqDiff, Nat.reduceLT, Nat.reduceLeDiff, Nat.reduceAdd, Nat.reduceMul, Nat.reduceSub, Int.reduceToNat, Int.reduceNeg, cP, n0])
    | (refine Br.mk (fun h => ?_) (fun h => ?_) <;> simp -dsimp only [go_sem, reduceIte, reduceCtorEq, Nat.reduceEqDiff, Nat.reduceLT, Nat.reduceLeDiff, Nat.reduceAdd, Nat.reduceMul, Nat.reduceSub, Int.reduceToNat, Int.reduceNeg, h, cP, n0])
    | (refine CallK.flat (by first | exact KG | exact KC | exact KX) rfl ?_; simp -dsimp only [go_sem, reduceIte, reduceCtorEq, Nat.reduceEqDiff, Nat.reduceLT, Nat.reduceLeDiff, Nat.reduceAdd, Nat.reduceMul, Nat.reduceSub, Int.reduceToNat, Int.reduceNeg, cP, n0])
    | (refine CallK.pure (by first | exact KG | exact KC | exact KX) ?_; simp -dsimp only [go_sem, reduceIte, reduceCtorEq, Nat.reduceEqDiff, Nat.reduceLT, Nat.reduceLeDiff, Nat.reduceAdd, Nat.reduceMul, Nat.reduceSub, Int.reduceToNat, Int.reduceNeg, cP, n0])
    | (refine And.intro (by first | rfl | omega | decide | (refine ⟨?_, ?_⟩ <;> (first | rfl | omega | decide)) | (refine ⟨?_, ?_, ?_⟩ <;> (first | rfl | omega | decide)) | (refine ⟨?_, ?_, ?_, ?_⟩ <;> (first | rfl | omega | decide))) ?_)
    | fail)
  all_goals first | (simp [Vs.LeL, Vs.look, Vs.hlook]; done) | trace_state

set_option maxHeartbeats 1000000 in
theorem lwCfD (C : Ctx) (x : Spc) (l : List (List Int)) (hk : smallC l) (hx : x.text.size ≤ 1048576) (a1 a6 a9 : Value) (m : Nat) (k6 : ∀ S w, Vs.Env S w → RC S w (.sl 1 (E cC (cwL x l))) a6) (k9 : ∀ S w, Vs.Env S w → RC S w (.sl 1 (E cC (cwL x l))) a9) :
    Vs.wpcN Try.prog C (drawnG Try.prog) 2 (Vs.dropS 13 Cd.laws_FnExactCardsFor) (fun σ' => LeL σ' ⟨[(2, .ptr (.t 2 0) 0 0), (1, .v a1), (6, .v a6), (7, .v (.int .i64 (cfC x l))), (9, .v a9), (12, .v (.int .i64 1))], [(.t 2 0, .var (cP x) false)]⟩ ∧ True) (fun _ _ => False) ⟨[(2, .ptr (.t 2 0) 0 0), (1, .v a1), (6, .v a6), (7, .v (.int .i64 (cfC x l))), (9, .v a9), (10, .v (.int .i64 (cfC x l))), (11, .v (.int .i64 (m : Nat)))], [(.t 2 0, .var (cP x) false)]⟩ := by
  have hlw := lw_lwCf_small x l hk hx
  have n0 : ((cfC x l) != (cfC x l)) = false := by simp
  have hm : decide ((m : Int) < 0) = false := decide_eq_false (by omega)
  have KG := (eqCardS (cwL x l) hlw.2 hlw.1).known (ys' := [.v a9, .v a6]) rfl (fun j hj => by match j, hj with | 0, _ => exact .inr ⟨_, rfl, k9⟩ | 1, _ => exact .inr ⟨_, rfl, k6⟩)
  generalize hc0 : (cfC x l) = c at *
  unfold Cd.laws_FnExactCardsFor
  simp only [Vs.dropS]
  simp -dsimp only [go_sem, reduceIte, reduceCtorEq, Nat.reduceEqDiff, Nat.reduceLT, Nat.reduceLeDiff, Nat.reduceAdd, Nat.reduceMul, Nat.reduceSub, Int.reduceToNat, Int.reduceNeg, cP, n0, hm]
  repeat' (first
    | (refine RgK.mk rfl ?_; simp -dsimp only [go_sem, reduceIte, reduceCtorEq, Nat.reduceEqDiff, Nat.reduceLT, Nat.reduceLeDiff, Nat.reduceAdd, Nat.reduceMul, Nat.reduceSub, Int.reduceToNat, Int.reduceNeg, cP, n0, hm])
    | (refine Br.mk (fun h => ?_) (fun h => ?_) <;> simp -dsimp only [go_sem, reduceIte, reduceCtorEq, Nat.reduceEqDiff, Nat.reduceLT, Nat.reduceLeDiff, Nat.reduceAdd, Nat.reduceMul, Nat.reduceSub, Int.reduceToNat, Int.reduceNeg, h, cP, n0, hm])
    | (refine CallK.flat (by first | exact KG) rfl ?_; simp -dsimp only [go_sem, reduceIte, reduceCtorEq, Nat.reduceEqDiff, Nat.reduceLT, Nat.reduceLeDiff, Nat.reduceAdd, Nat.reduceMul, Nat.reduceSub, Int.reduceToNat, Int.reduceNeg, cP, n0, hm])
    | (refine CallK.pure (by first | exact KG) ?_; simp -dsimp only [go_sem, reduceIte, reduceCtorEq, Nat.reduceEqDiff, Nat.reduceLT, Nat.reduceLeDiff, Nat.reduceAdd, Nat.reduceMul, Nat.reduceSub, Int.reduceToNat, Int.reduceNeg, cP, n0, hm])
    | (refine And.intro (by first | rfl | omega | decide | (refine ⟨?_, ?_⟩ <;> (first | rfl | omega | decide)) | (refine ⟨?_, ?_, ?_⟩ <;> (first | rfl | omega | decide)) | (refine ⟨?_, ?_, ?_, ?_⟩ <;> (first | rfl | omega | decide))) ?_)
    | fail)
  all_goals first | (simp [Vs.LeL, Vs.look, Vs.hlook]; done) | trace_state

set_option maxHeartbeats 1000000 in
theorem lwCfE (C : Ctx) (x : Spc) (l : List (List Int)) (hk : smallC l) (hx : x.text.size ≤ 1048576) (a1 a6 a9 : Value) (k1 : ∀ S w, Vs.Env S w → RC S w (.sl 1 (E cC l)) a1) (k6 : ∀ S w, Vs.Env S w → RC S w (.sl 1 (E cC (cwL x l))) a6) (k9 : ∀ S w, Vs.Env S w → RC S w (.sl 1 (E cC (mkD 1 (cwL x l)))) a9) :
    wpc Try.prog C (drawnG Try.prog) (Vs.dropS 16 Cd.laws_FnExactCardsFor) (fun _ => False) (fun e σ' => match e with | .ret => LeL σ' ⟨[(4, .v (.bool true))], []⟩ | .exit _ => False) ⟨[(2, .ptr (.t 2 0) 0 0), (1, .v a1), (6, .v a6), (7, .v (.int .i64 (cfC x l))), (9, .v a9), (12, .v (.int .i64 (1 + totD (cwL x l) : Nat)))], [(.t 2 0, .var (cP x) false)]⟩ := by
  have hlw := lw_lwCf_small x l hk hx
  have n0 : ((cfC x l) != (cfC x l)) = false := by simp
  have hI := impl_CardsW x l hk hx
  have hH := heldCardS (cwL x l) 1 hlw (by omega)
  have hn2 : decide (((1 + totD (cwL x l) : Nat) : Int) < 0) = false := decide_eq_false (by omega)
  have hn3 : (((1 + totD (cwL x l) : Nat) : Int) != ((1 + totD (cwL x l) : Nat) : Int)) = false := by simp
  have KH := (hH).known (ys' := [.v a9, .v (.int .i64 ((1 : Nat) : Int))]) rfl (fun j hj => by match j, hj with | 0, _ => exact .inr ⟨_, rfl, k9⟩ | 1, _ => exact .inl rfl)
  have KC := (toCardS l hk.2 hk.1).known (ys' := [.v a1]) rfl (fun j hj => by match j, hj with | 0, _ => exact .inr ⟨_, rfl, k1⟩)
  have KG := (eqCardS (cwL x l) hlw.2 hlw.1).known (ys' := [.sl 1 (E cC (cwL x l)), .v a6]) rfl (fun j hj => by match j, hj with | 0, _ => exact .inl rfl | 1, _ => exact .inr ⟨_, rfl, k6⟩)
  generalize hc0 : (cfC x l) = c at *
  unfold Cd.laws_FnExactCardsFor
  simp only [Vs.dropS]
  simp -dsimp only [go_sem, reduceIte, reduceCtorEq, Nat.reduceEqDiff, Nat.reduceLT, Nat.reduceLeDiff, Nat.reduceAdd, Nat.reduceMul, Nat.reduceSub, Int.reduceToNat, Int.reduceNeg, cP, n0, hn2, hn3]
  repeat' (first
    | (refine RgK.mk rfl ?_; simp -dsimp only [go_sem, reduceIte, reduceCtorEq, Nat.reduceEqDiff, Nat.reduceLT, Nat.reduceLeDiff, Nat.reduceAdd, Nat.reduceMul, Nat.reduceSub, Int.reduceToNat, Int.reduceNeg, cP, n0, hn2, hn3])
    | (refine Br.mk (fun h => ?_) (fun h => ?_) <;> simp -dsimp only [go_sem, reduceIte, reduceCtorEq, Nat.reduceEqDiff, Nat.reduceLT, Nat.reduceLeDiff, Nat.reduceAdd, Nat.reduceMul, Nat.reduceSub, Int.reduceToNat, Int.reduceNeg, h, cP, n0, hn2, hn3])
    | (refine CallK.flat (by first | exact KH | exact KC | exact KG | exact hI | exact toSpec x) rfl ?_; simp -dsimp only [go_sem, reduceIte, reduceCtorEq, Nat.reduceEqDiff, Nat.reduceLT, Nat.reduceLeDiff, Nat.reduceAdd, Nat.reduceMul, Nat.reduceSub, Int.reduceToNat, Int.reduceNeg, cP, n0, hn2, hn3])
    | (refine CallK.pure (by first | exact KH | exact KC | exact KG | exact hI | exact toSpec x) ?_; simp -dsimp only [go_sem, reduceIte, reduceCtorEq, Nat.reduceEqDiff, Nat.reduceLT, Nat.reduceLeDiff, Nat.reduceAdd, Nat.reduceMul, Nat.reduceSub, Int.reduceToNat, Int.reduceNeg, cP, n0, hn2, hn3])
    | (refine And.intro (by first | rfl | omega | decide | (refine ⟨?_, ?_⟩ <;> (first | rfl | omega | decide)) | (refine ⟨?_, ?_, ?_⟩ <;> (first | rfl | omega | decide)) | (refine ⟨?_, ?_, ?_, ?_⟩ <;> (first | rfl | omega | decide))) ?_)
    | fail)
  all_goals first | (simp [Vs.LeL, Vs.look, Vs.hlook]; done) | trace_state
end Go.Proofs.Ytokfhfdnmnblfaa

namespace Go.Proofs.Ytokfhfdnmnblfaa
open Go.Vs
set_option linter.unusedSectionVars false
variable [Vs.Envs]
set_option linter.unusedSimpArgs false
set_option linter.unusedVariables false
attribute [local irreducible] Vs.Fn mkD totD cmT pun cwL cfC cfL chOK areCh chTo chAt l03 chB rk cd3 chI stp stpTo
theorem CardsFor_all (x : Spc) (l : List (List Int)) (hk : smallC l) (hx : x.text.size ≤ 1048576) {S : Nat → Prop} {w : World} {vs : Array Value} (hS : ∀ b, S b → b < w.heap.size) (he : Env S w) (hvs : vs.size = 2) (hargs : ∀ j, j < 2 → RC S w (([.agg (cP x), .sl 1 (E cC l)] : List AV).getD j .junk) (vs.getD j undef)) :
    Calls Try.prog F.impl_CardsFor vs w (Vs.DkResC w ((cwL x l).map (E cI)) (.int .i64 (cfC x l))) := by
  by_cases h0 : cfC x l = 0
  · have e : cwL x l = cfL x l := by unfold cwL; rw [if_pos h0]
    rw [e, h0]
    exact CardsFor_dk x l hk hx h0 hS he hvs hargs
  · have e : cwL x l = [] := by unfold cwL; rw [if_neg h0]
    rw [e]
    have H := impl_CardsFor x l hk hx
    unfold cfV at H
    rw [if_neg h0] at H
    exact H.noDk hS he hvs hargs

set_option maxHeartbeats 4000000 in
theorem law_lwCf (x : Spc) (l : List (List Int)) (hx0 : x.text.size < 2 ^ 63) (gb : bigC l) : Vs.Fn Try.prog F.laws_FnExactCardsFor [] [.agg (cP x), .sl 1 (E cC l)] (.v (.bool true)) [] := by
  refine Vs.Fn.of_calls (Vs.CodeIsR.has Cd.laws_FnExactCardsFor_ok) (by intro y hy; simp only [List.mem_cons, List.not_mem_nil, or_false] at hy; rcases hy with rfl | rfl <;> rfl) rfl fun S w vs hS he hvs hargs => ?_
  obtain ⟨h1, h2, _⟩ := Cd.laws_FnExactCardsFor_ok
  obtain ⟨body, hb, hc⟩ := Option.bind_eq_some_iff.1 h2
  have hz : (Try.f5.body.map (zB Try.f5.ntmps (drawnG Try.prog))) = some true := by kernel_rfl
  rw [hb] at hz
  refine Vs.Pt.calls (dr := drawnG Try.prog) (ac := Cd.laws_FnExactCardsFor) h1 hb hc (by simpa using hz) (args := [.agg (cP x), .sl 1 (E cC l)]) (by rw [Cd.laws_FnExactCardsFor_nt]; exact Nat.le_of_ble_eq_true rfl) hS he hvs hargs fun C1 a hnt hw0 hS0 hp => ?_
  have hM := hp.nomut
  subst hw0
  have MK := fun (l : List (List Int)) (hk : smallC l) (S : Nat → Prop) (w : World) (v : Value) (m : Vs.Mem) hS he hno hd => markCardS_dk (S := S) (w := w) (v := v) (l := l) (m := m) 1 (by omega) hk hS he hno hd
  refine hp.go (drawn_ok Try.mixed) hnt 7 _ (τ := ⟨[(2, .ptr (.t 2 0) 0 0), (1, .sl 1 (E cC l)), (6, .sl 1 (E cC (cwL x l))), (7, .v (.int .i64 (cfC x l)))], [(.t 2 0, .var (cP x) false)]⟩) (E := (fun e σ' => match e with | .ret => LeL σ' ⟨[(4, .v (.bool true))], []⟩ | .exit _ => False)) (fun p hp => by
      simp only [List.mem_cons, List.not_mem_nil, or_false] at hp
      rcases hp with rfl
      · exact ⟨rfl, rfl⟩) (fun C hC => lwCfA C x l hx0 gb) (fun i σ h => h) (fun C a w hl hg => ⟨.inl rfl, Vs.law_end hl hM Cd.laws_FnExactCardsFor_rs hg⟩) fun aA wA SA pA hpA hX => ?_
  obtain ⟨hk, hx⟩ := hX
  have hszA := hpA.size
  have heA := hpA.env
  have hdA := hpA.dom
  have EM := fun (w' : World) (h : ∀ b, SA b → w'.heap[b]? = wA.heap[b]?) => heA.mono (fun _ h => h) h
  have hlw := lw_lwCf_small x l hk hx
  have r1 : RC SA wA (.sl 1 (E cC l)) (aA.tmps.getD 1 undef) := hpA.val (t := 1) rfl
  have r6 : RC SA wA (.sl 1 (E cC (cwL x l))) (aA.tmps.getD 6 undef) := hpA.val (t := 6) rfl
  -- the deck's copy
  have hpS : ∃ a1 a6, a1 = aA.tmps.getD 1 undef ∧ a6 = aA.tmps.getD 6 undef ∧ Pt (Vs.keepE SA wA) C1 (⟨[(2, .ptr (.t 2 0) 0 0), (1, .v a1), (6, .v a6), (7, .v (.int .i64 (cfC x l)))], [(.t 2 0, .var (cP x) false)]⟩ : St) aA wA SA :=
    ⟨_, _, rfl, rfl, hpA.set [(2, .ptr (.t 2 0) 0 0), (1, .v (aA.tmps.getD 1 undef)), (6, .v (aA.tmps.getD 6 undef)), (7, .v (.int .i64 (cfC x l)))] (fun p hp => by
      simp only [List.mem_cons, List.not_mem_nil, or_false] at hp
      rcases hp with rfl | rfl | rfl | rfl
      · exact .inl ⟨rfl, rfl⟩
      · exact .inr (.v _)
      · exact .inr (.v _)
      · exact .inl ⟨rfl, rfl⟩)⟩
  obtain ⟨a1, a6, e1, e6, hpS⟩ := hpS
  rw [← e1] at r1
  rw [← e6] at r6
  clear e1 e6 hpA
  letI IS := Vs.keepE SA wA
  show Vs.At Try.prog Try.f5.ntmps (drawnG Try.prog) (.seq _ (Vs.dropS 8 Cd.laws_FnExactCardsFor)) _ aA wA
  refine At.seq (At.rg (hpS.rg hnt (pre := [⟨some 34, .mv (.tmp 1), none⟩]) (post := ⟨some 35, .call (.func F.laws_toCardS) ([34].map .tmp) [], none⟩ :: [⟨some 8, .mv (.tmp 35), none⟩]) (τ := ⟨[(34, .v a1), (2, .ptr (.t 2 0) 0 0), (1, .v a1), (6, .v a6), (7, .v (.int .i64 (cfC x l)))], [(.t 2 0, .var (cP x) false)]⟩) (fun p hp => by
      simp only [List.mem_cons, List.not_mem_nil, or_false] at hp
      rcases hp with rfl
      · exact ⟨rfl, rfl⟩) ?_ fun a2 w2 S2 p2 hp2 => hp2.rgcall hnt (ts := [34]) (ys := [.v a1]) (Vs.CodeIsR.has Cd.laws_toCardS_ok) rfl (fun i hi => by match i, hi with | 0, _ => rfl) (fun i hi => by match i, hi with | 0, _ => rfl) fun us hus hr => ?_))
  · simp -dsimp only [go_sem, reduceIte, reduceCtorEq, Nat.reduceEqDiff, Nat.reduceLT, Nat.reduceLeDiff, Nat.reduceAdd, Nat.reduceMul, Nat.reduceSub, Int.reduceToNat, Int.reduceNeg, cP]
    simp [Vs.LeL, Vs.look, Vs.hlook]
  obtain rfl := Vs.us1 hus (Vs.rc_v (hr 0 Nat.zero_lt_one))
  have pA2 : Vs.Past SA wA S2 w2 := p2
  refine (toCardS_dk l hk hp2.dom hp2.env (pA2.rcS r1)).mono ?_
  rintro e w3 ⟨v1, rfl, hg1, m1, hd1, hn1⟩
  refine ⟨v1, rfl, ?_⟩
  have hp3 := (hp2.grow hg1 (D := m1.D) (fun b hb => ⟨hn1 b hb, hd1.lt b hb⟩) [(2, .ptr (.t 2 0) 0 0), (1, .v a1), (6, .v a6), (7, .v (.int .i64 (cfC x l)))] (fun p hp => by
      simp only [List.mem_cons, List.not_mem_nil, or_false] at hp
      rcases hp with rfl | rfl | rfl | rfl <;> exact ⟨rfl, .inl rfl⟩)).put (d := 35) (by rw [hnt, Cd.laws_FnExactCardsFor_nt]; omega) v1
  letI I3 := Vs.keepE (fun b => S2 b ∨ m1.D b) w3
  refine hp3.rg (pre := [⟨some 8, .mv (.tmp 35), none⟩]) (post := []) hnt (τ := ⟨[(2, .ptr (.t 2 0) 0 0), (1, .v a1), (6, .v a6), (7, .v (.int .i64 (cfC x l))), (8, .v v1)], [(.t 2 0, .var (cP x) false)]⟩) (fun p hp => by
      simp only [List.mem_cons, List.not_mem_nil, or_false] at hp
      rcases hp with rfl
      · exact ⟨rfl, rfl⟩) ?_ fun a4 w4 S4 p4 hp4 => RgL.nil ?_
  · simp -dsimp only [go_sem, reduceIte, reduceCtorEq, Nat.reduceEqDiff, Nat.reduceLT, Nat.reduceLeDiff, Nat.reduceAdd, Nat.reduceMul, Nat.reduceSub, Int.reduceToNat, Int.reduceNeg, cP]
    simp [Vs.LeL, Vs.look, Vs.hlook]
  have pA4 : Vs.Past SA wA S4 w4 := (pA2.trans (Vs.Past.grow hg1 hp2.dom)).trans p4
  have m14 : ∀ b, m1.D b → S4 b := fun b hb => p4.sub b (.inr hb)
  have hd14 : Vs.Dk w4 (l.map (E cI)) v1 m1 := hd1.past (fun b hb => .inr hb) p4
  have m1A : ∀ b, m1.D b → ¬ SA b := fun b hb hs => by have := hn1 b hb; have := hdA b hs; have := pA2.size; omega
  -- the program's answer
  show Vs.At Try.prog Try.f5.ntmps (drawnG Try.prog) (.seq _ (Vs.dropS 9 Cd.laws_FnExactCardsFor)) _ a4 w4
  refine At.seq (At.rg (hp4.rg hnt (pre := [⟨some 37, .load true 7 (.tmp 2), none⟩, ⟨some 38, .call (.func F.laws_toSpec) [(.tmp 37)] [], none⟩, ⟨some 39, .mv (.tmp 8), none⟩]) (post := ⟨some 40, .call (.func F.impl_CardsFor) ([38, 39].map .tmp) [], none⟩ :: [⟨some 36, .mv (.tmp 40), none⟩, ⟨some 41, .extract (.tmp 36) 0, none⟩, ⟨some 42, .extract (.tmp 36) 1, none⟩, ⟨some 9, .mv (.tmp 41), none⟩, ⟨some 10, .mv (.tmp 42), none⟩]) (τ := ⟨[(38, .agg (cP x)), (39, .v v1), (2, .ptr (.t 2 0) 0 0), (1, .v a1), (6, .v a6), (7, .v (.int .i64 (cfC x l))), (8, .v v1)], [(.t 2 0, .var (cP x) false)]⟩) (fun p hp => by
      simp only [List.mem_cons, List.not_mem_nil, or_false] at hp
      rcases hp with rfl
      · exact ⟨rfl, rfl⟩) ?_ fun a5 w5 S5 p5 hp5 => hp5.rgcall hnt (ts := [38, 39]) (ys := [.agg (cP x), .v v1]) (Vs.CodeIsR.has Cd.impl_CardsFor_ok) rfl (fun i hi => by match i, hi with | 0, _ => rfl | 1, _ => rfl) (fun i hi => by match i, hi with | 0, _ => rfl | 1, _ => rfl) fun us hus hr2 => ?_))
  · simp -dsimp only [go_sem, reduceIte, reduceCtorEq, Nat.reduceEqDiff, Nat.reduceLT, Nat.reduceLeDiff, Nat.reduceAdd, Nat.reduceMul, Nat.reduceSub, Int.reduceToNat, Int.reduceNeg, cP]
    repeat' (first
      | (refine RgK.mk rfl ?_; simp -dsimp only [go_sem, reduceIte, reduceCtorEq, Nat.reduceEqDiff, Nat.reduceLT, Nat.reduceLeDiff, Nat.reduceAdd, Nat.reduceMul, Nat.reduceSub, Int.reduceToNat, Int.reduceNeg, cP])
      | (refine Br.mk (fun h => ?_) (fun h => ?_) <;> simp -dsimp only [go_sem, reduceIte, reduceCtorEq, Nat.reduceEqDiff, Nat.reduceLT, Nat.reduceLeDiff, Nat.reduceAdd, Nat.reduceMul, Nat.reduceSub, Int.reduceToNat, Int.reduceNeg, h, cP])
      | (refine CallK.flat (by first | exact toSpec x) rfl ?_; simp -dsimp only [go_sem, reduceIte, reduceCtorEq, Nat.reduceEqDiff, Nat.reduceLT, Nat.reduceLeDiff, Nat.reduceAdd, Nat.reduceMul, Nat.reduceSub, Int.reduceToNat, Int.reduceNeg, cP])
      | (refine CallK.pure (by first | exact toSpec x) ?_; simp -dsimp only [go_sem, reduceIte, reduceCtorEq, Nat.reduceEqDiff, Nat.reduceLT, Nat.reduceLeDiff, Nat.reduceAdd, Nat.reduceMul, Nat.reduceSub, Int.reduceToNat, Int.reduceNeg, cP])
      | (refine And.intro (by first | rfl | omega | decide | (refine ⟨?_, ?_⟩ <;> (first | rfl | omega | decide)) | (refine ⟨?_, ?_, ?_⟩ <;> (first | rfl | omega | decide)) | (refine ⟨?_, ?_, ?_, ?_⟩ <;> (first | rfl | omega | decide))) ?_)
      | fail)

    all_goals (simp [Vs.LeL, Vs.look, Vs.hlook])
  have hus1 : us.getD 1 undef = v1 := Vs.rc_v (hr2 1 (by show 1 < 2; omega))
  have hd15 : Vs.Dk w5 (l.map (E cI)) v1 m1 := hd14.past m14 p5
  have hrd1 : RC S5 w5 (.sl 1 (E cC l)) (us.getD 1 undef) := by
    rw [hus1, ← deckE]
    exact hd15.rd.mono (fun b hb => p5.sub b (m14 b hb)) fun _ _ => rfl
  refine (CardsFor_all x l hk hx hp5.dom hp5.env hus (fun j hj => by match j, hj with
    | 0, _ => exact hr2 0 (by show 0 < 2; omega)
    | 1, _ => exact hrd1)).mono ?_
  rintro e w6 ⟨v2, rfl, hg2, m2, hd2, hn2⟩
  refine ⟨_, rfl, ?_⟩
  have hp6 := (hp5.grow hg2 (D := m2.D) (fun b hb => ⟨hn2 b hb, hd2.lt b hb⟩) [(2, .ptr (.t 2 0) 0 0), (1, .v a1), (6, .v a6), (7, .v (.int .i64 (cfC x l))), (8, .v v1)] (fun p hp => by
      simp only [List.mem_cons, List.not_mem_nil, or_false] at hp
      rcases hp with rfl | rfl | rfl | rfl | rfl <;> exact ⟨rfl, .inl rfl⟩)).putR (d := 40) (by rw [hnt, Cd.laws_FnExactCardsFor_nt]; omega) (r := .tup [.v v2, .v (.int .i64 (cfC x l))]) (Vs.tup2_rc _ _)
  letI I6 := Vs.keepE (fun b => S5 b ∨ m2.D b) w6
  refine hp6.rg (pre := [⟨some 36, .mv (.tmp 40), none⟩, ⟨some 41, .extract (.tmp 36) 0, none⟩, ⟨some 42, .extract (.tmp 36) 1, none⟩, ⟨some 9, .mv (.tmp 41), none⟩, ⟨some 10, .mv (.tmp 42), none⟩]) (post := []) hnt (τ := ⟨[(2, .ptr (.t 2 0) 0 0), (1, .v a1), (6, .v a6), (7, .v (.int .i64 (cfC x l))), (8, .v v1), (9, .v v2), (10, .v (.int .i64 (cfC x l)))], [(.t 2 0, .var (cP x) false)]⟩) (fun p hp => by
      simp only [List.mem_cons, List.not_mem_nil, or_false] at hp
      rcases hp with rfl
      · exact ⟨rfl, rfl⟩) ?_ fun a7 w7 S7 p7 hp7 => RgL.nil ?_
  · simp -dsimp only [go_sem, reduceIte, reduceCtorEq, Nat.reduceEqDiff, Nat.reduceLT, Nat.reduceLeDiff, Nat.reduceAdd, Nat.reduceMul, Nat.reduceSub, Int.reduceToNat, Int.reduceNeg, cP]
    simp [Vs.LeL, Vs.look, Vs.hlook]
  have pA5 : Vs.Past SA wA S5 w5 := pA4.trans p5
  have pA6 : Vs.Past SA wA (fun b => S5 b ∨ m2.D b) w6 := pA5.trans (Vs.Past.grow hg2 hp5.dom)
  have pA7 : Vs.Past SA wA S7 w7 := pA6.trans p7
  have m15 : ∀ b, m1.D b → S5 b := fun b hb => p5.sub b (m14 b hb)
  have hd16 : Vs.Dk w6 (l.map (E cI)) v1 m1 := hd15.past (S' := fun b => S5 b ∨ m2.D b) m15 (Vs.Past.grow hg2 hp5.dom)
  have m2A : ∀ b, m2.D b → ¬ SA b := fun b hb hs => by have := hn2 b hb; have := hdA b hs; have := pA5.size; omega
  have m12 : ∀ b, m2.D b → ¬ m1.D b := fun b hb hs => by have := hn2 b hb; have := hp5.dom b (m15 b hs); omega
  have hdom6 : ∀ b, (S5 b ∨ m2.D b) → b < w6.heap.size := fun b hb => hb.elim (fun h => Nat.lt_of_lt_of_le (hp5.dom b h) hg2.size) (hd2.lt b)
  -- the comparison
  show Vs.At Try.prog Try.f5.ntmps (drawnG Try.prog) (Vs.dropS 9 Cd.laws_FnExactCardsFor) _ a7 w7
  refine hp7.go (drawn_ok Try.mixed) hnt 3 _ (τ := ⟨[(2, .ptr (.t 2 0) 0 0), (1, .v a1), (6, .v a6), (7, .v (.int .i64 (cfC x l))), (8, .v v1), (9, .v v2), (10, .v (.int .i64 (cfC x l))), (11, .v (.int .i64 1))], [(.t 2 0, .var (cP x) false)]⟩) (X := True) (E := fun _ _ => False) (fun p hp => by
      simp only [List.mem_cons, List.not_mem_nil, or_false] at hp
      rcases hp with rfl
      · exact ⟨rfl, rfl⟩) (fun C hC => (lwCfC C x l hk hx a1 a6 v1 v2 (fun S' w' he' => Vs.keepE_known hdom6 he' (pA6.rcS r1)) (fun S' w' he' => Vs.keepE_known hdom6 he' (pA6.rcS r6)) (fun S' w' he' => Vs.keepE_known hdom6 he' (by rw [← deckE]; exact hd16.rd.mono (fun b hb => .inl (m15 b hb)) fun _ _ => rfl)) (fun S' w' he' => Vs.keepE_known hdom6 he' (by rw [← deckE]; exact hd2.rd.mono (fun b hb => .inr hb) fun _ _ => rfl)))) (fun i σ h => h) (fun C a w hl hg => hg.no.elim) fun a8 w8 S8 p8 hp8 _ => ?_
  have pA8 : Vs.Past SA wA S8 w8 := pA7.trans p8
  have m18 : ∀ b, m1.D b → S8 b := fun b hb => p8.sub b (p7.sub b (.inl (m15 b hb)))
  have m28 : ∀ b, m2.D b → S8 b := fun b hb => p8.sub b (p7.sub b (.inr hb))
  have hd18 : Vs.Dk w8 (l.map (E cI)) v1 m1 := (hd16.past (S := fun b => S5 b ∨ m2.D b) (fun b hb => .inl (m15 b hb)) p7).past (fun b hb => p7.sub b (.inl (m15 b hb))) p8
  have hd28 : Vs.Dk w8 ((cwL x l).map (E cI)) v2 m2 := (hd2.past (S := fun b => S5 b ∨ m2.D b) (fun b hb => .inr hb) p7).past (fun b hb => p7.sub b (.inr hb)) p8
  have hS1 : ∀ b, C1.S0 b → SA b := fun b hb => by rw [hS0] at hb; exact pA.sub b hb
  -- the argument is marked
  show Vs.At Try.prog Try.f5.ntmps (drawnG Try.prog) (.seq _ (Vs.dropS 13 Cd.laws_FnExactCardsFor)) _ a8 w8
  refine At.seq (At.rg (hp8.rg hnt (pre := [⟨some 57, .mv (.tmp 8), none⟩, ⟨some 58, .mv (.tmp 11), none⟩]) (post := ⟨some 59, .call (.func F.laws_markCardS) ([57, 58].map .tmp) [0], none⟩ :: [⟨some 11, .mv (.tmp 59), none⟩]) (τ := ⟨[(57, .v v1), (58, .v (.int .i64 1)), (2, .ptr (.t 2 0) 0 0), (1, .v a1), (6, .v a6), (7, .v (.int .i64 (cfC x l))), (8, .v v1), (9, .v v2), (10, .v (.int .i64 (cfC x l))), (11, .v (.int .i64 1))], [(.t 2 0, .var (cP x) false)]⟩) (fun p hp => by
      simp only [List.mem_cons, List.not_mem_nil, or_false] at hp
      rcases hp with rfl
      · exact ⟨rfl, rfl⟩) ?_ fun a9 w9 S9 p9 hp9 => hp9.rgcall hnt (ts := [57, 58]) (ys := [.v v1, .v (.int .i64 1)]) (Vs.CodeIsR.has Cd.laws_markCardS_ok) rfl (fun i hi => by match i, hi with | 0, _ => rfl | 1, _ => rfl) (fun i hi => by match i, hi with | 0, _ => rfl | 1, _ => rfl) fun us hus hr => ?_))
  · simp -dsimp only [go_sem, reduceIte, reduceCtorEq, Nat.reduceEqDiff, Nat.reduceLT, Nat.reduceLeDiff, Nat.reduceAdd, Nat.reduceMul, Nat.reduceSub, Int.reduceToNat, Int.reduceNeg, cP]
    simp [Vs.LeL, Vs.look, Vs.hlook]
  obtain rfl := Vs.us2 hus (Vs.rc_v (hr 0 (by show 0 < 2; omega))) (Vs.rc_v (hr 1 (by show 1 < 2; omega)))
  have pA9 : Vs.Past SA wA S9 w9 := pA8.trans p9
  have hd19 : Vs.Dk w9 (l.map (E cI)) v1 m1 := hd18.past m18 p9
  have hd29 : Vs.Dk w9 ((cwL x l).map (E cI)) v2 m2 := hd28.past m28 p9
  have hdA9 : ∀ b, SA b → b < w9.heap.size := fun b hb => Nat.lt_of_lt_of_le (hdA b hb) pA9.size
  refine (MK l hk SA w9 v1 m1 hdA9 (EM _ pA9.old) m1A hd19).mono ?_
  rintro e w10 ⟨rfl, q1, q2, q3, _⟩
  refine ⟨_, rfl, ?_⟩
  have hge1 : ∀ b, m1.D b → C1.w0.heap.size ≤ b ∧ S9 b := fun b hb => ⟨by have := hn1 b hb; have := pA2.size; omega, p9.sub b (m18 b hb)⟩
  have hK9 : ∀ b, (SA b ∨ m2.D b) → S9 b := fun b hb => hb.elim (pA9.sub b) fun h => p9.sub b (m28 b h)
  have hp10 := (hp9.marked q1 q2 q3 hge1 (K := fun b => SA b ∨ m2.D b) hK9 (fun b hb => .inl (hS1 b hb)) [(2, .ptr (.t 2 0) 0 0), (1, .v a1), (6, .v a6), (7, .v (.int .i64 (cfC x l))), (9, .v v2), (10, .v (.int .i64 (cfC x l)))] (fun p hp => by
      simp only [List.mem_cons, List.not_mem_nil, or_false] at hp
      rcases hp with rfl | rfl | rfl | rfl | rfl | rfl <;> exact ⟨rfl, rfl⟩)).put (d := 59) (by rw [hnt, Cd.laws_FnExactCardsFor_nt]; omega) (.int .i64 (1 + totD l : Nat))
  have pA10 : Vs.Past SA wA (fun b => SA b ∨ m2.D b) w10 := pA9.mark hp9.dom q1 q2 m1A fun _ h => .inl h
  have hd210 : Vs.Dk w10 ((cwL x l).map (E cI)) v2 m2 := hd29.same q1 fun b hb => q2 b (hd29.lt b hb) (m12 b hb)
  have hdom10 : ∀ b, (SA b ∨ m2.D b) → b < w10.heap.size := fun b hb => Nat.lt_of_lt_of_le (hp9.dom b (hK9 b hb)) q1
  letI I10 := Vs.keepE (fun b => SA b ∨ m2.D b) w10
  refine hp10.rg (pre := [⟨some 11, .mv (.tmp 59), none⟩]) (post := []) hnt (τ := ⟨[(2, .ptr (.t 2 0) 0 0), (1, .v a1), (6, .v a6), (7, .v (.int .i64 (cfC x l))), (9, .v v2), (10, .v (.int .i64 (cfC x l))), (11, .v (.int .i64 (1 + totD l : Nat)))], [(.t 2 0, .var (cP x) false)]⟩) (fun p hp => by
      simp only [List.mem_cons, List.not_mem_nil, or_false] at hp
      rcases hp with rfl
      · exact ⟨rfl, rfl⟩) ?_ fun a11 w11 S11 p11 hp11 => RgL.nil ?_
  · simp -dsimp only [go_sem, reduceIte, reduceCtorEq, Nat.reduceEqDiff, Nat.reduceLT, Nat.reduceLeDiff, Nat.reduceAdd, Nat.reduceMul, Nat.reduceSub, Int.reduceToNat, Int.reduceNeg, cP]
    simp [Vs.LeL, Vs.look, Vs.hlook]
  show Vs.At Try.prog Try.f5.ntmps (drawnG Try.prog) (Vs.dropS 13 Cd.laws_FnExactCardsFor) _ a11 w11
  refine hp11.go (drawn_ok Try.mixed) hnt 2 _ (τ := ⟨[(2, .ptr (.t 2 0) 0 0), (1, .v a1), (6, .v a6), (7, .v (.int .i64 (cfC x l))), (9, .v v2), (12, .v (.int .i64 1))], [(.t 2 0, .var (cP x) false)]⟩) (X := True) (E := fun _ _ => False) (fun p hp => by
      simp only [List.mem_cons, List.not_mem_nil, or_false] at hp
      rcases hp with rfl
      · exact ⟨rfl, rfl⟩) (fun C hC => (lwCfD C x l hk hx a1 a6 v2 (1 + totD l) (fun S' w' he' => Vs.keepE_known hdom10 he' (pA10.rcS r6)) (fun S' w' he' => Vs.keepE_known hdom10 he' (by rw [← deckE]; exact hd210.rd.mono (fun b hb => .inr hb) fun _ _ => rfl)))) (fun i σ h => h) (fun C a w hl hg => hg.no.elim) fun a12 w12 S12 p12 hp12 _ => ?_
  have p1012 := p11.trans p12
  -- the answer is marked
  show Vs.At Try.prog Try.f5.ntmps (drawnG Try.prog) (.seq _ (Vs.dropS 16 Cd.laws_FnExactCardsFor)) _ a12 w12
  refine At.seq (At.rg (hp12.rg hnt (pre := [⟨some 73, .mv (.tmp 9), none⟩, ⟨some 74, .mv (.tmp 12), none⟩]) (post := ⟨some 75, .call (.func F.laws_markCardS) ([73, 74].map .tmp) [0], none⟩ :: [⟨some 12, .mv (.tmp 75), none⟩]) (τ := ⟨[(73, .v v2), (74, .v (.int .i64 1)), (2, .ptr (.t 2 0) 0 0), (1, .v a1), (6, .v a6), (7, .v (.int .i64 (cfC x l))), (9, .v v2), (12, .v (.int .i64 1))], [(.t 2 0, .var (cP x) false)]⟩) (fun p hp => by
      simp only [List.mem_cons, List.not_mem_nil, or_false] at hp
      rcases hp with rfl
      · exact ⟨rfl, rfl⟩) ?_ fun a13 w13 S13 p13 hp13 => hp13.rgcall hnt (ts := [73, 74]) (ys := [.v v2, .v (.int .i64 1)]) (Vs.CodeIsR.has Cd.laws_markCardS_ok) rfl (fun i hi => by match i, hi with | 0, _ => rfl | 1, _ => rfl) (fun i hi => by match i, hi with | 0, _ => rfl | 1, _ => rfl) fun us hus hr => ?_))
  · simp -dsimp only [go_sem, reduceIte, reduceCtorEq, Nat.reduceEqDiff, Nat.reduceLT, Nat.reduceLeDiff, Nat.reduceAdd, Nat.reduceMul, Nat.reduceSub, Int.reduceToNat, Int.reduceNeg, cP]
    simp [Vs.LeL, Vs.look, Vs.hlook]
  obtain rfl := Vs.us2 hus (Vs.rc_v (hr 0 (by show 0 < 2; omega))) (Vs.rc_v (hr 1 (by show 1 < 2; omega)))
  have p1013 := p1012.trans p13
  have pA13 : Vs.Past SA wA S13 w13 := pA10.trans p1013
  have hd213 : Vs.Dk w13 ((cwL x l).map (E cI)) v2 m2 := hd210.past (S := fun b => SA b ∨ m2.D b) (fun b hb => .inr hb) p1013
  refine (MK (cwL x l) hlw SA w13 v2 m2 (fun b hb => Nat.lt_of_lt_of_le (hdA b hb) pA13.size) (EM _ pA13.old) m2A hd213).mono ?_
  rintro e w14 ⟨rfl, q4, q5, q6, hd214⟩
  refine ⟨_, rfl, ?_⟩
  have hge2 : ∀ b, m2.D b → C1.w0.heap.size ≤ b ∧ S13 b := fun b hb => ⟨by have := hn2 b hb; have := pA5.size; omega, p1013.sub b (.inr hb)⟩
  have hK13 : ∀ b, (SA b ∨ m2.D b) → S13 b := fun b hb => p1013.sub b hb
  have hp14 := (hp13.marked q4 q5 q6 hge2 (K := fun b => SA b ∨ m2.D b) hK13 (fun b hb => .inl (hS1 b hb)) [(2, .ptr (.t 2 0) 0 0), (1, .v a1), (6, .v a6), (7, .v (.int .i64 (cfC x l))), (9, .v v2)] (fun p hp => by
      simp only [List.mem_cons, List.not_mem_nil, or_false] at hp
      rcases hp with rfl | rfl | rfl | rfl | rfl <;> exact ⟨rfl, rfl⟩)).put (d := 75) (by rw [hnt, Cd.laws_FnExactCardsFor_nt]; omega) (.int .i64 (1 + totD (cwL x l) : Nat))
  have pA14 : Vs.Past SA wA (fun b => SA b ∨ m2.D b) w14 := pA13.mark hp13.dom q4 q5 m2A fun _ h => .inl h
  have hdom14 : ∀ b, (SA b ∨ m2.D b) → b < w14.heap.size := fun b hb => Nat.lt_of_lt_of_le (hp13.dom b (hK13 b hb)) q4
  letI I14 := Vs.keepE (fun b => SA b ∨ m2.D b) w14
  refine hp14.rg (pre := [⟨some 12, .mv (.tmp 75), none⟩]) (post := []) hnt (τ := ⟨[(2, .ptr (.t 2 0) 0 0), (1, .v a1), (6, .v a6), (7, .v (.int .i64 (cfC x l))), (9, .v v2), (12, .v (.int .i64 (1 + totD (cwL x l) : Nat)))], [(.t 2 0, .var (cP x) false)]⟩) (fun p hp => by
      simp only [List.mem_cons, List.not_mem_nil, or_false] at hp
      rcases hp with rfl
      · exact ⟨rfl, rfl⟩) ?_ fun a15 w15 S15 p15 hp15 => RgL.nil ?_
  · simp -dsimp only [go_sem, reduceIte, reduceCtorEq, Nat.reduceEqDiff, Nat.reduceLT, Nat.reduceLeDiff, Nat.reduceAdd, Nat.reduceMul, Nat.reduceSub, Int.reduceToNat, Int.reduceNeg, cP]
    simp [Vs.LeL, Vs.look, Vs.hlook]
  show Vs.At Try.prog Try.f5.ntmps (drawnG Try.prog) (Vs.dropS 16 Cd.laws_FnExactCardsFor) _ a15 w15
  exact hp15.fin (drawn_ok Try.mixed) hnt (fun C hC => lwCfE C x l hk hx a1 a6 v2 (fun S' w' he' => Vs.keepE_known hdom14 he' (pA14.rcS r1)) (fun S' w' he' => Vs.keepE_known hdom14 he' (pA14.rcS r6)) (fun S' w' he' => Vs.keepE_known hdom14 he' (by rw [← deckE]; exact hd214.rd.mono (fun b hb => .inr hb) fun _ _ => rfl))) (fun i σ h => h) (fun C a w hl hg => ⟨.inl rfl, Vs.law_end hl hM Cd.laws_FnExactCardsFor_rs hg⟩)
end Go.Proofs.Ytokfhfdnmnblfaa
