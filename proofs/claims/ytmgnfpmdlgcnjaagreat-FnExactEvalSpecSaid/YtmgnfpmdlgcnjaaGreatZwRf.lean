/- The law FnExactEvalSpec, joined. -/
import Derived.Test.YtmgnfpmdlgcnjaaGreatZwRc
import Derived.Test.YtmgnfpmdlgcnjaaGreatZwRe
import Derived.Test.YtmgnfpmdlgcnjaaGreatZwRb
import Derived.Test.YtmgnfpmdlgcnjaaGreatZuP
import Derived.Test.YtmgnfpmdlgcnjaaGreatVtR
set_option linter.unusedSimpArgs false
set_option linter.unusedVariables false
set_option linter.unusedSectionVars false
set_option maxHeartbeats 8000000
namespace Go.Proofs.YtmgnfpmdlgcnjaaGreat
open Go.Vs
section
variable [Vs.Envs]
attribute [local irreducible] Vs.Fn evC evV evT mtx chOK areCh chTo chAt l03 chB rk cd3 chI stp stpTo
theorem szI_mono {l : List Int} {n : Int} (hl : l.length < 2 ^ 63) (h0 : 0 ≤ n) (hn : n ≤ 1048576) (h : 0 ≤ szI l n) : szI l n ≤ n := (szI_le hl h0 hn h).1
def bigC (l : List (List Int)) : Prop := l.length < 2 ^ 63 ∧ ∀ c, c ∈ l → c.length < 2 ^ 63
def szDk (l : List (List Int)) (n : Int) : Int := szL szI l n
theorem szDk_small {l : List (List Int)} (hb : bigC l) {n : Int} (h0 : 0 ≤ n) (hn : n ≤ 1048576) (h : 0 ≤ szDk l n) : smallC l := by
 refine ⟨?_, fun c hc => ?_⟩
 ·have := (szL_mono (fun x hx _ a b c => szI_mono (hb.2 x hx) a b c) hb.1 h0 hn h).2; omega
 ·obtain ⟨m, h1, h2, h3⟩ := szL_in (fun x hx _ a b c => szI_mono (hb.2 x hx) a b c) hb.1 h0 hn h c hc
  have := (szI_le (hb.2 c hc) h1 h2 h3).2; omega
abbrev ACard := { l : List I64 // l.length < 2 ^ 63 }
abbrev ACards := { l : List ACard // l.length < 2 ^ 63 }
def gCards (d : ACards) : List (List Int) := d.1.map fun c => c.1.map fun n => n.1
theorem gCards_big (d : ACards) : bigC (gCards d) := by
 refine ⟨by simpa [gCards] using d.2, fun c hc => ?_⟩
 obtain ⟨x, _, rfl⟩ := List.mem_map.1 hc
 simpa using x.2
theorem gCards_enc (d : ACards) : E cC (gCards d) = d.1.map eCard := by
 simp only [gCards, E_map]
 congr 1
 funext c
 simp only [cC, E_map]
 rfl
theorem evA (C : Ctx) (x : Spc) (l : List (List Int)) (hx0 : x.text.size < 2 ^ 63) (gb : bigC l) :
  Vs.wpcN Tryz.prog C (drawnG Tryz.prog) 7 Cd.lawEvalSpec (fun σ' => LeL σ' ⟨[(1, .sl 1 (E cC l)), (2, .ptr (.t 2 0) 0 0), (6, evV x l), (7, .v (.int .i64 (evC x l)))], [(.t 2 0, .var (cP x) false)]⟩ ∧ smallC l ∧ x.text.size ≤ 1048576) (fun e σ' => match e with | .ret => LeL σ' ⟨[(4, .v (.bool true))], []⟩ | .exit _ => False) ⟨ini 0 [.agg (cP x), .sl 1 (E cC l)], []⟩ := by
 unfold Cd.lawEvalSpec
 simp -dsimp only [go_sem, cP]
 refine CallK.flat (szSpec x 1048576) rfl ?_
 simp -dsimp only [go_sem, cP]
 refine Br.mk (fun h2 => by simp -dsimp only [go_sem, cP]; simp [Vs.LeL, Vs.look, Vs.hlook]) (fun h2 => ?_)
 simp only [decide_eq_false_iff_not] at h2
 have z2 : 0 ≤ szT x.text 1048576 := by omega
 have hx : x.text.size ≤ 1048576 := by have := (szT_le hx0 (n := 1048576) (by omega) (by omega) z2).2; omega
 have m2 : szT x.text 1048576 ≤ 1048576 := by have := (szT_le hx0 (n := 1048576) (by omega) (by omega) z2).1; omega
 generalize szT x.text 1048576 = n2 at *
 simp -dsimp only [go_sem, cP]
 refine CallK.flat (szCardS l n2 gb.2 gb.1 ⟨z2, m2⟩) rfl ?_
 simp -dsimp only [go_sem, cP]
 refine Br.mk (fun h3 => by simp -dsimp only [go_sem, cP]; simp [Vs.LeL, Vs.look, Vs.hlook]) (fun h3 => ?_)
 simp only [decide_eq_false_iff_not] at h3
 have hk := szDk_small gb z2 m2 (by unfold szDk; omega)
 repeat' first
  |simp -dsimp only [go_sem, cP]
  |refine Br.mk ?_ ?_<;>intro h<;>try simp -dsimp only[h]
  |refine CallK.c (by first|exact toSpec x|exact toCardS l hk.2 hk.1|exact spec_EvalSpec x l hk hx) ?_
  |refine and_c ?_
  |fail
 all_goals first | exact ⟨by simp [Vs.LeL, Vs.look, Vs.hlook, evV_rn], hk, hx⟩
theorem evT_len {x : Spc} {l : List (List Int)} (he : evC x l = 0) (hk : smallC l) : (evT x l).length ≤ 1048576 := by
 have h1 := cfL_len x l
 have h2 := srtL_len x.g0 x.g1 (cfL x l)
 have h3 := grpL_len x.g0 x.g1 (srtL x.g0 x.g1 (cfL x l))
 have h4 := hk.1
 unfold evT totL
 rw [List.length_map]
 omega
theorem evC0 (C : Ctx) (x : Spc) (l : List (List Int)) (hk : smallC l) (hx : x.text.size ≤ 1048576) (he : evC x l = 0) (a1 a6 a8 : Value) (k1 : ∀ S w, Vs.Env S w → RC S w (.sl 1 (E cC l)) a1) (k6 : ∀ S w, Vs.Env S w → RC S w (.sl 2 (E cTt (evT x l))) a6) (k8 : ∀ S w, Vs.Env S w → RC S w (.sl 1 (E cC l)) a8) :
  Vs.wpcN Tryz.prog C (drawnG Tryz.prog) 4 (Vs.dropS 8 Cd.lawEvalSpec) (fun σ' => LeL σ' ⟨[(1, .v a1), (2, .ptr (.t 2 0) 0 0), (6, .v a6), (7, .v (.int .i64 0)), (8, .v a8), (9, .loc (.t 40 0) 0 (evT x l).length), (10, .v (.int .i64 0)), (11, .v (.int .i64 1))], [(.t 2 0, .var (cP x) false), (.t 40 0, .arr 2 (E cTt (evT x l)) false)]⟩) (fun _ _ => False) ⟨[(1, .v a1), (2, .ptr (.t 2 0) 0 0), (6, .v a6), (7, .v (.int .i64 0)), (8, .v a8)], [(.t 2 0, .var (cP x) false)]⟩ := by
 have hT : (evT x l).length ≤ 1048576 := evT_len he hk
 have KE := (impl_EvalSpecO x l hk hx he).known (ys' := [.agg (cP x), .v a8]) rfl (fun j hj => by match j, hj with | 0, _ => exact .inl rfl | 1, _ => exact .inr ⟨_, rfl, k8⟩)
 have KT := (eqTtS (evT x l) hT).known (ys' := [.sl 2 (E cTt (evT x l)), .v a6]) rfl (fun j hj => by match j, hj with | 0, _ => exact .inl rfl | 1, _ => exact .inr ⟨_, rfl, k6⟩)
 have KC := (toCardS l hk.2 hk.1).known (ys' := [.v a1]) rfl (fun j hj => by match j, hj with | 0, _ => exact .inr ⟨_, rfl, k1⟩)
 have KQ := (eqCardS l hk.2 hk.1).known (ys' := [.v a8, .sl 1 (E cC l)]) rfl (fun j hj => by match j, hj with | 0, _ => exact .inr ⟨_, rfl, k8⟩ | 1, _ => exact .inl rfl)
 unfold Cd.lawEvalSpec
 simp only [Vs.dropS]
 repeat' first
  |simp -dsimp only [go_sem, cP]
  |refine Br.mk ?_ ?_<;>intro h<;>try simp -dsimp only[h]
  |refine CallK.c (by first|exact KT|exact KQ|exact toSpec x|exact KC) ?_
  |refine CallK.own (by first|exact KE) rfl ?_
  |refine and_c ?_
  |fail
 all_goals first | (simp [Vs.LeL, Vs.look, Vs.hlook]; done)
theorem evE0 (C : Ctx) (x : Spc) (l : List (List Int)) (hk : smallC l) (hx : x.text.size ≤ 1048576) (he : evC x l = 0) (m : Nat) :
  wpc Tryz.prog C (drawnG Tryz.prog) (Vs.dropS 13 Cd.lawEvalSpec) (fun _ => False) (fun e σ' => match e with | .ret => LeL σ' ⟨[(4, .v (.bool true))], []⟩ | .exit _ => False) ⟨[(1, .sl 1 (E cC l)), (2, .ptr (.t 2 0) 0 0), (6, .sl 2 (E cTt (evT x l))), (7, .v (.int .i64 0)), (9, .loc (.t 40 0) 0 (evT x l).length), (10, .v (.int .i64 0)), (11, .v (.int .i64 (m : Nat)))], [(.t 2 0, .var (cP x) false), (.t 40 0, .arr 2 (E cTt (evT x l)) false)]⟩ := by
 have hm : decide ((m : Int) < 0) = false := decide_eq_false (by omega)
 have hT : (evT x l).length ≤ 1048576 := evT_len he hk
 have hI := impl_EvalSpec x l hk hx
 rw [(evC_zero he).2.2.2, he] at hI
 generalize evT x l = T at *
 have hn2 : decide (((1 + 2 * T.length : Nat) : Int) < 0) = false := decide_eq_false (by omega)
 have hn3 : (((1 + 2 * T.length : Nat) : Int) != ((1 + 2 * T.length : Nat) : Int)) = false := by simp
 have hn4 : ((0 : Int) != 0) = false := rfl
 have hTk : List.take T.length (E cTt (mkR (mT 1) T T.length)) = E cTt (mkR (mT 1) T T.length) := List.take_of_length_le (by rw [E_len, mkR_length _ _ (Nat.le_refl _)]; exact Nat.le_refl _)
 unfold Cd.lawEvalSpec
 simp only [Vs.dropS]
 repeat' first
  |simp -dsimp only [go_sem, cP, E_take, E_len, List.drop_zero, hTk, hm, hn2, hn3, hn4]
  |refine Br.mk ?_ ?_<;>intro h<;>try simp -dsimp only[h]
  |refine CallK.c (by first|exact toSpec x|exact hI|exact eqTtS T hT|exact heldTotalS T 1 hT (by omega) (by omega)|exact toCardS l hk.2 hk.1) ?_
  |refine CallK.bor (by first|exact markTotalS T 1 hT (by omega) (by omega)) rfl ?_
  |refine and_c ?_
  |fail
 all_goals first | (simp [Vs.LeL, Vs.look, Vs.hlook]; done)
theorem evC1 (C : Ctx) (x : Spc) (l : List (List Int)) (hk : smallC l) (hx : x.text.size ≤ 1048576) (he : evC x l ≠ 0) (a1  a8 : Value) (k1 : ∀ S w, Vs.Env S w → RC S w (.sl 1 (E cC l)) a1)  (k8 : ∀ S w, Vs.Env S w → RC S w (.sl 1 (E cC l)) a8) :
  Vs.wpcN Tryz.prog C (drawnG Tryz.prog) 4 (Vs.dropS 8 Cd.lawEvalSpec) (fun σ' => LeL σ' ⟨[(1, .v a1), (2, .ptr (.t 2 0) 0 0), (6, .v (.slice none 0 0)), (7, .v (.int .i64 (evC x l))), (8, .v a8), (9, .v (.slice none 0 0)), (10, .v (.int .i64 (evC x l))), (11, .v (.int .i64 1))], [(.t 2 0, .var (cP x) false)]⟩) (fun _ _ => False) ⟨[(1, .v a1), (2, .ptr (.t 2 0) 0 0), (6, .v (.slice none 0 0)), (7, .v (.int .i64 (evC x l))), (8, .v a8)], [(.t 2 0, .var (cP x) false)]⟩ := by
 have KE0 := impl_EvalSpec x l hk hx
 rw [evC_non he] at KE0
 have KE := (KE0).known (ys' := [.agg (cP x), .v a8]) rfl (fun j hj => by match j, hj with | 0, _ => exact .inl rfl | 1, _ => exact .inr ⟨_, rfl, k8⟩)
 have n0 : (evC x l != evC x l) = false := by simp
 have KC := (toCardS l hk.2 hk.1).known (ys' := [.v a1]) rfl (fun j hj => by match j, hj with | 0, _ => exact .inr ⟨_, rfl, k1⟩)
 have KQ := (eqCardS l hk.2 hk.1).known (ys' := [.v a8, .sl 1 (E cC l)]) rfl (fun j hj => by match j, hj with | 0, _ => exact .inr ⟨_, rfl, k8⟩ | 1, _ => exact .inl rfl)
 unfold Cd.lawEvalSpec
 simp only [Vs.dropS]
 generalize evC x l = c at *
 repeat' first
  |simp -dsimp only [go_sem, cP, n0]
  |refine Br.mk ?_ ?_<;>intro h<;>try simp -dsimp only[h]
  |refine CallK.flat (B := []) (by first|exact KE|exact KQ|exact eqNilT|exact toSpec x|exact KC) rfl ?_
  |refine CallK.pure (B := []) (by first|exact KE|exact KQ|exact eqNilT|exact toSpec x|exact KC) ?_
  |refine and_c ?_
  |fail
 all_goals first | (simp [Vs.LeL, Vs.look, Vs.hlook]; done)
theorem evE1 (C : Ctx) (x : Spc) (l : List (List Int)) (hk : smallC l) (hx : x.text.size ≤ 1048576) (he : evC x l ≠ 0) (m : Nat) :
  wpc Tryz.prog C (drawnG Tryz.prog) (Vs.dropS 13 Cd.lawEvalSpec) (fun _ => False) (fun e σ' => match e with | .ret => LeL σ' ⟨[(4, .v (.bool true))], []⟩ | .exit _ => False) ⟨[(1, .sl 1 (E cC l)), (2, .ptr (.t 2 0) 0 0), (6, .v (.slice none 0 0)), (7, .v (.int .i64 (evC x l))), (9, .v (.slice none 0 0)), (10, .v (.int .i64 (evC x l))), (11, .v (.int .i64 (m : Nat)))], [(.t 2 0, .var (cP x) false)]⟩ := by
 have hm : decide ((m : Int) < 0) = false := decide_eq_false (by omega)
 have hI := impl_EvalSpec x l hk hx
 rw [evC_non he] at hI
 have n0 : (evC x l != evC x l) = false := by simp
 have hn3 : ((1 : Int) != 1) = false := rfl
 have hn4 : decide ((1 : Int) < 0) = false := rfl
 generalize evC x l = c at *
 unfold Cd.lawEvalSpec
 simp only [Vs.dropS]
 repeat' first
  |simp -dsimp only [go_sem, cP, hm, n0, hn3, hn4]
  |refine Br.mk ?_ ?_<;>intro h<;>try simp -dsimp only[h]
  |refine CallK.flat (B := []) (by first|exact toSpec x|exact hI|exact eqNilT|exact markNilT _|exact heldNilT _|exact toCardS l hk.2 hk.1) rfl ?_
  |refine CallK.pure (B := []) (by first|exact toSpec x|exact hI|exact eqNilT|exact markNilT _|exact heldNilT _|exact toCardS l hk.2 hk.1) ?_
  |refine and_c ?_
  |fail
 all_goals first | (simp [Vs.LeL, Vs.look, Vs.hlook]; done)
end
section
variable [Vs.Envs]
attribute [local irreducible] Vs.Fn evC evV evT mtx chOK areCh chTo chAt l03 chB rk cd3 chI stp stpTo
theorem evK0 {C : Ctx} (x : Spc) (l : List (List Int)) (hk : smallC l) (hx : x.text.size ≤ 1048576) (he : evC x l = 0) (a1 a6 a8 : Value) (k1 : ∀ S w, Vs.Env S w → RC S w (.sl 1 (E cC l)) a1) (k6 : ∀ S w, Vs.Env S w → RC S w (.sl 2 (E cTt (evT x l))) a6) (k8 : ∀ S w, Vs.Env S w → RC S w (.sl 1 (E cC l)) a8) (hnt : C.nt = Tryz.f3.ntmps)
  {a : Act} {w : World} {S : Nat → Prop} {ρ : Vs.Name → Option Nat} {κ : Vs.Name → Nat} (hok : OK C (⟨[(1, .v a1), (2, .ptr (.t 2 0) 0 0), (6, .v a6), (7, .v (.int .i64 0)), (8, .v a8)], [(.t 2 0, .var (cP x) false)]⟩ : St).f a w S ρ κ) {Q : Exit → Act → World → Prop}
  (hN : ∀ a w, GoodL C (fun σ' => LeL σ' ⟨[(1, .v a1), (2, .ptr (.t 2 0) 0 0), (6, .v a6), (7, .v (.int .i64 0)), (8, .v a8), (9, .loc (.t 40 0) 0 (evT x l).length), (10, .v (.int .i64 0)), (11, .v (.int .i64 1))], [(.t 2 0, .var (cP x) false), (.t 40 0, .arr 2 (E cTt (evT x l)) false)]⟩) a w → Vs.At Tryz.prog Tryz.f3.ntmps (drawnG Tryz.prog) (Vs.dropS 4 (Vs.dropS 8 Cd.lawEvalSpec)) Q a w) : Vs.At Tryz.prog Tryz.f3.ntmps (drawnG Tryz.prog) (Vs.dropS 8 Cd.lawEvalSpec) Q a w :=
 Vs.At.upto (drawn_ok Tryz.mixed) hnt (fun i a w hg => hg.no.elim) (fun a w hg => hg.no.elim) 4 (Vs.dropS 8 Cd.lawEvalSpec) hok (evC0 C x l hk hx he a1 a6 a8 k1 k6 k8) hN
theorem evM0 {C0 C : Ctx} (hl : Vs.Later C0 C) (hM0 : ∀ b, ¬ C0.Mut b) (x : Spc) (l : List (List Int)) (hk : smallC l) (hx : x.text.size ≤ 1048576) (he : evC x l = 0) (a8 : Value) (hnt : C.nt = Tryz.f3.ntmps)
  {a : Act} {w : World} {S : Nat → Prop} {ρ : Vs.Name → Option Nat} {κ : Vs.Name → Nat} (hok : OK C (⟨[(1, .sl 1 (E cC l)), (2, .ptr (.t 2 0) 0 0), (6, .sl 2 (E cTt (evT x l))), (7, .v (.int .i64 0)), (8, .v a8), (9, .loc (.t 40 0) 0 (evT x l).length), (10, .v (.int .i64 0)), (11, .v (.int .i64 1))], [(.t 2 0, .var (cP x) false), (.t 40 0, .arr 2 (E cTt (evT x l)) false)]⟩ : St).f a w S ρ κ)
  {S1 D : Nat → Prop} {ss : List Value} {xs : Nat → Option Nat} {cs : Nat → Nat} {x0 : Option Nat} (hr : RC (fun b => x0 = some b) w (.sl 1 (ss.map fun s => [AV.v s])) a8) (ho : Vs.OwnL S1 w 1 (l.map (E cI)) ss xs cs) (hx1 : ∀ b, x0 = some b → S1 b ∧ D b) (hxs : ∀ i b, i < ss.length → xs i = some b → D b)
  (hD : ∀ b, D b → b < w.heap.size ∧ C0.w0.heap.size ≤ b ∧ ¬ S b ∧ ∀ n, ((⟨[(1, .sl 1 (E cC l)), (2, .ptr (.t 2 0) 0 0), (6, .sl 2 (E cTt (evT x l))), (7, .v (.int .i64 0)), (8, .v a8), (9, .loc (.t 40 0) 0 (evT x l).length), (10, .v (.int .i64 0)), (11, .v (.int .i64 1))], [(.t 2 0, .var (cP x) false), (.t 40 0, .arr 2 (E cTt (evT x l)) false)]⟩ : St).f.h n).isSome → ρ n ≠ some b) {S0 : Nat → Prop} :
  Vs.At Tryz.prog Tryz.f3.ntmps (drawnG Tryz.prog) (Vs.dropS 12 Cd.lawEvalSpec) (fun e a' w' => (e = .ret ∨ e = .normal) ∧ a'.defers = [] ∧ ∃ v, (results Tryz.f3 a'.tmps).run Tryz.prog w' = .ok v w' ∧ ∃ v', Ending.returned v = .returned v' ∧ Vs.Grew C0.w0 w' ∧ RC S0 w' (.v (.bool true)) v') a w := by
 have hdr := drawn_ok Tryz.mixed
 have hokn := hok.anew
 have hln := hl.trans hok.later
 have hhD := hok.hid (D := D) (fun b hb => (hD b hb).1) (fun b hb => (hD b hb).2.2.1) (fun b hb => (hD b hb).2.2.2)
 have hCw : (C.anew w S (⟨[(1, .sl 1 (E cC l)), (2, .ptr (.t 2 0) 0 0), (6, .sl 2 (E cTt (evT x l))), (7, .v (.int .i64 0)), (8, .v a8), (9, .loc (.t 40 0) 0 (evT x l).length), (10, .v (.int .i64 0)), (11, .v (.int .i64 1))], [(.t 2 0, .var (cP x) false), (.t 40 0, .arr 2 (E cTt (evT x l)) false)]⟩ : St).f.h ρ).w0 = w := rfl
 have hntn : (C.anew w S (⟨[(1, .sl 1 (E cC l)), (2, .ptr (.t 2 0) 0 0), (6, .sl 2 (E cTt (evT x l))), (7, .v (.int .i64 0)), (8, .v a8), (9, .loc (.t 40 0) 0 (evT x l).length), (10, .v (.int .i64 0)), (11, .v (.int .i64 1))], [(.t 2 0, .var (cP x) false), (.t 40 0, .arr 2 (E cTt (evT x l)) false)]⟩ : St).f.h ρ).nt = Tryz.f3.ntmps := hnt
 generalize C.anew w S (⟨[(1, .sl 1 (E cC l)), (2, .ptr (.t 2 0) 0 0), (6, .sl 2 (E cTt (evT x l))), (7, .v (.int .i64 0)), (8, .v a8), (9, .loc (.t 40 0) 0 (evT x l).length), (10, .v (.int .i64 0)), (11, .v (.int .i64 1))], [(.t 2 0, .var (cP x) false), (.t 40 0, .arr 2 (E cTt (evT x l)) false)]⟩ : St).f.h ρ = Cn at hokn hln hhD hCw hntn
 show Vs.At Tryz.prog Tryz.f3.ntmps (drawnG Tryz.prog) (.seq _ (Vs.dropS 13 Cd.lawEvalSpec)) _ a w
 refine At.seq (At.region (pre := [⟨some 57, .mv (.tmp 8), none⟩, ⟨some 58, .mv (.tmp 11), none⟩]) (o := ⟨some 59, .call (.func F.l_markCardS) [(.tmp 57), (.tmp 58)] [0], none⟩) (post := [⟨some 11, .mv (.tmp 59), none⟩]) hokn hntn rfl ?_)
 let τ : St := ⟨(57, .v a8) :: (58, .v (.int .i64 1)) :: (⟨[(1, .sl 1 (E cC l)), (2, .ptr (.t 2 0) 0 0), (6, .sl 2 (E cTt (evT x l))), (7, .v (.int .i64 0)), (8, .v a8), (9, .loc (.t 40 0) 0 (evT x l).length), (10, .v (.int .i64 0)), (11, .v (.int .i64 1))], [(.t 2 0, .var (cP x) false), (.t 40 0, .arr 2 (E cTt (evT x l)) false)]⟩ : St).s, (⟨[(1, .sl 1 (E cC l)), (2, .ptr (.t 2 0) 0 0), (6, .sl 2 (E cTt (evT x l))), (7, .v (.int .i64 0)), (8, .v a8), (9, .loc (.t 40 0) 0 (evT x l).length), (10, .v (.int .i64 0)), (11, .v (.int .i64 1))], [(.t 2 0, .var (cP x) false), (.t 40 0, .arr 2 (E cTt (evT x l)) false)]⟩ : St).h⟩
 refine Vs.vc_mono (K := fun σ' => LeL σ' τ) (fun σ1 hle1 => ?_) _ _ ?_
 rotate_left
 ·simp -dsimp only [go_sem, cP]
  simp [τ, Vs.LeL, Vs.look, Vs.hlook, cP]
 intro a w2 S2 ρ2 κ2 op ops hokx hcop
 have hok2 := hokx.le hle1
 obtain ⟨d1, d2, d3, d4⟩ := hhD.same hok2
 rw [hCw] at d1
 have hr2 : RC (fun b => x0 = some b) w2 (.sl 1 (ss.map fun s => [AV.v s])) a8 := hr.mono (fun _ h => h) fun b hb => d1 b (hx1 b hb).2
 have ho2 : Vs.OwnL (fun b => S2 b ∨ x0 = some b) w2 1 (l.map (E cI)) ss xs cs := ho.mono (fun i b hi hb hs => by
   rcases hs with hs | hs
   · exact d3 b (hxs i b hi hb) hs
   · exact (ho.row i hi).no hb (hx1 b hs).1) fun i b hi hb => d1 b (hxs i b hi hb)
 have hMC := markCardS_own 1 (by omega) (S := fun b => S2 b ∨ x0 = some b) (w := w2) (v := a8) hk (fun b hb => hb.elim (hok2.hok.dom b) fun h => d2 b (hx1 b h).2) (hok2.hok.env.mono (fun _ h => .inl h) fun _ _ => rfl) (hr2.mono (fun _ h => .inr h) fun _ _ => rfl) ho2 (fun i b hi hb => d2 b (hxs i b hi hb))
 have h57 : a.tmps.getD 57 undef = a8 := inv_v (hok2.slots 57)
 have h58 : a.tmps.getD 58 undef = .int .i64 1 := inv_v (hok2.slots 58)
 have hargs : ([Operand.tmp 57, .tmp 58].map a.eval).toArray = #[a8, .int .i64 ((1 : Nat) : Int)] := by
  show #[a.tmps.getD 57 undef, a.tmps.getD 58 undef] = _
  rw [h57, h58]; rfl
 refine op_call (by rw [hntn]; exact hcop) rfl hok2 (Vs.CodeIsR.has Cd.l_markCardS_k.o) ?_
 rw [hargs]
 refine hMC.mono ?_
 rintro e w3 ⟨m, rfl, q1, q2, q3⟩
 have hokn2 := hok2.anew
 have hln2 := hln.trans hok2.later
 have hh2 := hok2.hid (D := fun b => ∃ i, i < ss.length ∧ xs i = some b) (fun b ⟨i, hi, hb⟩ => d2 b (hxs i b hi hb)) (fun b ⟨i, hi, hb⟩ => d3 b (hxs i b hi hb)) (fun b ⟨i, hi, hb⟩ => d4 b (hxs i b hi hb))
 have hnt2 : (Cn.anew w2 S2 τ.f.h ρ2).nt = Tryz.f3.ntmps := hntn
 have hw1 : ∀ b, b < w2.heap.size → ¬ (∃ i, i < ss.length ∧ xs i = some b) → w3.heap[b]? = w2.heap[b]? := fun b hb hd => q2 b hb fun i hi hx => hd ⟨i, hi, hx⟩
 have hok3 := OK.wrote hh2 hokn2 q1 hw1 q3
 have hl3 := OK.wroteM hln2 (D := fun b => ∃ i, i < ss.length ∧ xs i = some b) (fun b ⟨i, hi, hb⟩ => .inl (hD b (hxs i b hi hb)).2.1) hokn2 q1 hw1 q3
 generalize (Cn.anew w2 S2 τ.f.h ρ2).anew w3 S2 τ.f.h ρ2 = C3 at hok3 hl3
 have hnt3 : C3.nt = Tryz.f3.ntmps := by
  rw [hl3.nt, ← hl.nt, hnt]
 let σ4 : St := ⟨(59, .v (.int .i64 (m : Nat))) :: τ.s, τ.h⟩
 have hok4 : OK C3 σ4.f (a.put (some 59) (.int .i64 (m : Nat))) w3 S2 ρ2 κ2 := hok3.put (x := .v (.int .i64 (m : Nat))) (v := .int .i64 (m : Nat)) (d := some 59) (.clo (.v _)) (fun d hd => by
   obtain rfl := Option.some.inj hd
   rw [hnt3, Cd.lawEvalSpec_k.n]; omega)
 refine ⟨_, rfl, C3, σ4, S2, ρ2, κ2, fun σ' => LeL σ' ⟨[(1, .sl 1 (E cC l)), (2, .ptr (.t 2 0) 0 0), (6, .sl 2 (E cTt (evT x l))), (7, .v (.int .i64 0)), (9, .loc (.t 40 0) 0 (evT x l).length), (10, .v (.int .i64 0)), (11, .v (.int .i64 (m : Nat)))], [(.t 2 0, .var (cP x) false), (.t 40 0, .arr 2 (E cTt (evT x l)) false)]⟩, hnt3, hok4, ?_, fun a w hg => ?_⟩
 ·simp only [σ4, τ]
  simp -dsimp only [go_sem, cP]
  simp [Vs.LeL, Vs.look, Vs.hlook, cP]
 obtain ⟨S5, ρ5, κ5, hok5⟩ := hg.le
 show Vs.At Tryz.prog Tryz.f3.ntmps (drawnG Tryz.prog) (Vs.dropS 13 Cd.lawEvalSpec) _ a w
 exact At.fw hdr hok5 hnt3 (evE0 C3 x l hk hx he m) (fun a w hg => hg.no.elim) (fun i a w hg => hg.no.elim) (fun a w hg => ⟨.inl rfl, Vs.law_end hl3 hM0 Cd.lawEvalSpec_k.r hg⟩)
theorem evK1 {C : Ctx} (x : Spc) (l : List (List Int)) (hk : smallC l) (hx : x.text.size ≤ 1048576) (he : evC x l ≠ 0) (a1  a8 : Value) (k1 : ∀ S w, Vs.Env S w → RC S w (.sl 1 (E cC l)) a1)  (k8 : ∀ S w, Vs.Env S w → RC S w (.sl 1 (E cC l)) a8) (hnt : C.nt = Tryz.f3.ntmps)
  {a : Act} {w : World} {S : Nat → Prop} {ρ : Vs.Name → Option Nat} {κ : Vs.Name → Nat} (hok : OK C (⟨[(1, .v a1), (2, .ptr (.t 2 0) 0 0), (6, .v (.slice none 0 0)), (7, .v (.int .i64 (evC x l))), (8, .v a8)], [(.t 2 0, .var (cP x) false)]⟩ : St).f a w S ρ κ) {Q : Exit → Act → World → Prop}
  (hN : ∀ a w, GoodL C (fun σ' => LeL σ' ⟨[(1, .v a1), (2, .ptr (.t 2 0) 0 0), (6, .v (.slice none 0 0)), (7, .v (.int .i64 (evC x l))), (8, .v a8), (9, .v (.slice none 0 0)), (10, .v (.int .i64 (evC x l))), (11, .v (.int .i64 1))], [(.t 2 0, .var (cP x) false)]⟩) a w → Vs.At Tryz.prog Tryz.f3.ntmps (drawnG Tryz.prog) (Vs.dropS 4 (Vs.dropS 8 Cd.lawEvalSpec)) Q a w) : Vs.At Tryz.prog Tryz.f3.ntmps (drawnG Tryz.prog) (Vs.dropS 8 Cd.lawEvalSpec) Q a w :=
 Vs.At.upto (drawn_ok Tryz.mixed) hnt (fun i a w hg => hg.no.elim) (fun a w hg => hg.no.elim) 4 (Vs.dropS 8 Cd.lawEvalSpec) hok (evC1 C x l hk hx he a1  a8 k1  k8) hN
theorem evM1 {C0 C : Ctx} (hl : Vs.Later C0 C) (hM0 : ∀ b, ¬ C0.Mut b) (x : Spc) (l : List (List Int)) (hk : smallC l) (hx : x.text.size ≤ 1048576) (he : evC x l ≠ 0) (a8 : Value) (hnt : C.nt = Tryz.f3.ntmps)
  {a : Act} {w : World} {S : Nat → Prop} {ρ : Vs.Name → Option Nat} {κ : Vs.Name → Nat} (hok : OK C (⟨[(1, .sl 1 (E cC l)), (2, .ptr (.t 2 0) 0 0), (6, .v (.slice none 0 0)), (7, .v (.int .i64 (evC x l))), (8, .v a8), (9, .v (.slice none 0 0)), (10, .v (.int .i64 (evC x l))), (11, .v (.int .i64 1))], [(.t 2 0, .var (cP x) false)]⟩ : St).f a w S ρ κ)
  {S1 D : Nat → Prop} {ss : List Value} {xs : Nat → Option Nat} {cs : Nat → Nat} {x0 : Option Nat} (hr : RC (fun b => x0 = some b) w (.sl 1 (ss.map fun s => [AV.v s])) a8) (ho : Vs.OwnL S1 w 1 (l.map (E cI)) ss xs cs) (hx1 : ∀ b, x0 = some b → S1 b ∧ D b) (hxs : ∀ i b, i < ss.length → xs i = some b → D b)
  (hD : ∀ b, D b → b < w.heap.size ∧ C0.w0.heap.size ≤ b ∧ ¬ S b ∧ ∀ n, ((⟨[(1, .sl 1 (E cC l)), (2, .ptr (.t 2 0) 0 0), (6, .v (.slice none 0 0)), (7, .v (.int .i64 (evC x l))), (8, .v a8), (9, .v (.slice none 0 0)), (10, .v (.int .i64 (evC x l))), (11, .v (.int .i64 1))], [(.t 2 0, .var (cP x) false)]⟩ : St).f.h n).isSome → ρ n ≠ some b) {S0 : Nat → Prop} :
  Vs.At Tryz.prog Tryz.f3.ntmps (drawnG Tryz.prog) (Vs.dropS 12 Cd.lawEvalSpec) (fun e a' w' => (e = .ret ∨ e = .normal) ∧ a'.defers = [] ∧ ∃ v, (results Tryz.f3 a'.tmps).run Tryz.prog w' = .ok v w' ∧ ∃ v', Ending.returned v = .returned v' ∧ Vs.Grew C0.w0 w' ∧ RC S0 w' (.v (.bool true)) v') a w := by
 have hdr := drawn_ok Tryz.mixed
 have hokn := hok.anew
 have hln := hl.trans hok.later
 have hhD := hok.hid (D := D) (fun b hb => (hD b hb).1) (fun b hb => (hD b hb).2.2.1) (fun b hb => (hD b hb).2.2.2)
 have hCw : (C.anew w S (⟨[(1, .sl 1 (E cC l)), (2, .ptr (.t 2 0) 0 0), (6, .v (.slice none 0 0)), (7, .v (.int .i64 (evC x l))), (8, .v a8), (9, .v (.slice none 0 0)), (10, .v (.int .i64 (evC x l))), (11, .v (.int .i64 1))], [(.t 2 0, .var (cP x) false)]⟩ : St).f.h ρ).w0 = w := rfl
 have hntn : (C.anew w S (⟨[(1, .sl 1 (E cC l)), (2, .ptr (.t 2 0) 0 0), (6, .v (.slice none 0 0)), (7, .v (.int .i64 (evC x l))), (8, .v a8), (9, .v (.slice none 0 0)), (10, .v (.int .i64 (evC x l))), (11, .v (.int .i64 1))], [(.t 2 0, .var (cP x) false)]⟩ : St).f.h ρ).nt = Tryz.f3.ntmps := hnt
 generalize C.anew w S (⟨[(1, .sl 1 (E cC l)), (2, .ptr (.t 2 0) 0 0), (6, .v (.slice none 0 0)), (7, .v (.int .i64 (evC x l))), (8, .v a8), (9, .v (.slice none 0 0)), (10, .v (.int .i64 (evC x l))), (11, .v (.int .i64 1))], [(.t 2 0, .var (cP x) false)]⟩ : St).f.h ρ = Cn at hokn hln hhD hCw hntn
 show Vs.At Tryz.prog Tryz.f3.ntmps (drawnG Tryz.prog) (.seq _ (Vs.dropS 13 Cd.lawEvalSpec)) _ a w
 refine At.seq (At.region (pre := [⟨some 57, .mv (.tmp 8), none⟩, ⟨some 58, .mv (.tmp 11), none⟩]) (o := ⟨some 59, .call (.func F.l_markCardS) [(.tmp 57), (.tmp 58)] [0], none⟩) (post := [⟨some 11, .mv (.tmp 59), none⟩]) hokn hntn rfl ?_)
 let τ : St := ⟨(57, .v a8) :: (58, .v (.int .i64 1)) :: (⟨[(1, .sl 1 (E cC l)), (2, .ptr (.t 2 0) 0 0), (6, .v (.slice none 0 0)), (7, .v (.int .i64 (evC x l))), (8, .v a8), (9, .v (.slice none 0 0)), (10, .v (.int .i64 (evC x l))), (11, .v (.int .i64 1))], [(.t 2 0, .var (cP x) false)]⟩ : St).s, (⟨[(1, .sl 1 (E cC l)), (2, .ptr (.t 2 0) 0 0), (6, .v (.slice none 0 0)), (7, .v (.int .i64 (evC x l))), (8, .v a8), (9, .v (.slice none 0 0)), (10, .v (.int .i64 (evC x l))), (11, .v (.int .i64 1))], [(.t 2 0, .var (cP x) false)]⟩ : St).h⟩
 refine Vs.vc_mono (K := fun σ' => LeL σ' τ) (fun σ1 hle1 => ?_) _ _ ?_
 rotate_left
 ·simp -dsimp only [go_sem, cP]
  simp [τ, Vs.LeL, Vs.look, Vs.hlook, cP]
 intro a w2 S2 ρ2 κ2 op ops hokx hcop
 have hok2 := hokx.le hle1
 obtain ⟨d1, d2, d3, d4⟩ := hhD.same hok2
 rw [hCw] at d1
 have hr2 : RC (fun b => x0 = some b) w2 (.sl 1 (ss.map fun s => [AV.v s])) a8 := hr.mono (fun _ h => h) fun b hb => d1 b (hx1 b hb).2
 have ho2 : Vs.OwnL (fun b => S2 b ∨ x0 = some b) w2 1 (l.map (E cI)) ss xs cs := ho.mono (fun i b hi hb hs => by
   rcases hs with hs | hs
   · exact d3 b (hxs i b hi hb) hs
   · exact (ho.row i hi).no hb (hx1 b hs).1) fun i b hi hb => d1 b (hxs i b hi hb)
 have hMC := markCardS_own 1 (by omega) (S := fun b => S2 b ∨ x0 = some b) (w := w2) (v := a8) hk (fun b hb => hb.elim (hok2.hok.dom b) fun h => d2 b (hx1 b h).2) (hok2.hok.env.mono (fun _ h => .inl h) fun _ _ => rfl) (hr2.mono (fun _ h => .inr h) fun _ _ => rfl) ho2 (fun i b hi hb => d2 b (hxs i b hi hb))
 have h57 : a.tmps.getD 57 undef = a8 := inv_v (hok2.slots 57)
 have h58 : a.tmps.getD 58 undef = .int .i64 1 := inv_v (hok2.slots 58)
 have hargs : ([Operand.tmp 57, .tmp 58].map a.eval).toArray = #[a8, .int .i64 ((1 : Nat) : Int)] := by
  show #[a.tmps.getD 57 undef, a.tmps.getD 58 undef] = _
  rw [h57, h58]; rfl
 refine op_call (by rw [hntn]; exact hcop) rfl hok2 (Vs.CodeIsR.has Cd.l_markCardS_k.o) ?_
 rw [hargs]
 refine hMC.mono ?_
 rintro e w3 ⟨m, rfl, q1, q2, q3⟩
 have hokn2 := hok2.anew
 have hln2 := hln.trans hok2.later
 have hh2 := hok2.hid (D := fun b => ∃ i, i < ss.length ∧ xs i = some b) (fun b ⟨i, hi, hb⟩ => d2 b (hxs i b hi hb)) (fun b ⟨i, hi, hb⟩ => d3 b (hxs i b hi hb)) (fun b ⟨i, hi, hb⟩ => d4 b (hxs i b hi hb))
 have hnt2 : (Cn.anew w2 S2 τ.f.h ρ2).nt = Tryz.f3.ntmps := hntn
 have hw1 : ∀ b, b < w2.heap.size → ¬ (∃ i, i < ss.length ∧ xs i = some b) → w3.heap[b]? = w2.heap[b]? := fun b hb hd => q2 b hb fun i hi hx => hd ⟨i, hi, hx⟩
 have hok3 := OK.wrote hh2 hokn2 q1 hw1 q3
 have hl3 := OK.wroteM hln2 (D := fun b => ∃ i, i < ss.length ∧ xs i = some b) (fun b ⟨i, hi, hb⟩ => .inl (hD b (hxs i b hi hb)).2.1) hokn2 q1 hw1 q3
 generalize (Cn.anew w2 S2 τ.f.h ρ2).anew w3 S2 τ.f.h ρ2 = C3 at hok3 hl3
 have hnt3 : C3.nt = Tryz.f3.ntmps := by
  rw [hl3.nt, ← hl.nt, hnt]
 let σ4 : St := ⟨(59, .v (.int .i64 (m : Nat))) :: τ.s, τ.h⟩
 have hok4 : OK C3 σ4.f (a.put (some 59) (.int .i64 (m : Nat))) w3 S2 ρ2 κ2 := hok3.put (x := .v (.int .i64 (m : Nat))) (v := .int .i64 (m : Nat)) (d := some 59) (.clo (.v _)) (fun d hd => by
   obtain rfl := Option.some.inj hd
   rw [hnt3, Cd.lawEvalSpec_k.n]; omega)
 refine ⟨_, rfl, C3, σ4, S2, ρ2, κ2, fun σ' => LeL σ' ⟨[(1, .sl 1 (E cC l)), (2, .ptr (.t 2 0) 0 0), (6, .v (.slice none 0 0)), (7, .v (.int .i64 (evC x l))), (9, .v (.slice none 0 0)), (10, .v (.int .i64 (evC x l))), (11, .v (.int .i64 (m : Nat)))], [(.t 2 0, .var (cP x) false)]⟩, hnt3, hok4, ?_, fun a w hg => ?_⟩
 ·simp only [σ4, τ]
  simp -dsimp only [go_sem, cP]
  simp [Vs.LeL, Vs.look, Vs.hlook, cP]
 obtain ⟨S5, ρ5, κ5, hok5⟩ := hg.le
 show Vs.At Tryz.prog Tryz.f3.ntmps (drawnG Tryz.prog) (Vs.dropS 13 Cd.lawEvalSpec) _ a w
 exact At.fw hdr hok5 hnt3 (evE1 C3 x l hk hx he m) (fun a w hg => hg.no.elim) (fun i a w hg => hg.no.elim) (fun a w hg => ⟨.inl rfl, Vs.law_end hl3 hM0 Cd.lawEvalSpec_k.r hg⟩)
theorem law_EvalSpec (x : Spc) (l : List (List Int)) (hx0 : x.text.size < 2 ^ 63) (gb : bigC l) : Fz F.lawEvalSpec [.agg (cP x), .sl 1 (E cC l)] (.v (.bool true)) := by
 refine Vs.Fn.of_calls (Vs.CodeIsR.has Cd.lawEvalSpec_k.o) (by intro y hy; simp only [List.mem_cons, List.not_mem_nil, or_false] at hy; rcases hy with rfl | rfl <;> rfl) rfl fun S w vs hS he hvs hargs => ?_
 obtain ⟨h1, h2, _⟩ := Cd.lawEvalSpec_k.o
 obtain ⟨body, hb, hc⟩ := Option.bind_eq_some_iff.1 h2
 have hz : (Tryz.f3.body.map (zB Tryz.f3.ntmps (drawnG Tryz.prog))) = some true := by kernel_rfl
 rw [hb] at hz
 have hdr := drawn_ok Tryz.mixed
 refine calls_at (dr := drawnG Tryz.prog) (ac := Cd.lawEvalSpec) h1 hb hc (by simpa using hz) (args := [.agg (cP x), .sl 1 (E cC l)]) (by rw [Cd.lawEvalSpec_k.n]; exact Nat.le_of_ble_eq_true rfl) hS he hvs hargs (fun _ => False) fun a hok => ?_
 generalize hC0 : (⟨Tryz.f3.ntmps, w, S, fun _ => False, fun _ => none, fun _ => 0, fun _ => none⟩ : Ctx) = C0 at hok
 have hnt : C0.nt = Tryz.f3.ntmps := by rw [← hC0]
 have hw0 : C0.w0 = w := by rw [← hC0]
 have hM0 : ∀ b, ¬ C0.Mut b := by rw [← hC0]; exact fun _ h => h
 subst hw0
 refine Vs.At.upto hdr hnt (fun i a w hg => hg.no.elim) (fun a w hg => ⟨.inl rfl, Vs.law_end (Vs.Later.refl C0) hM0 Cd.lawEvalSpec_k.r hg⟩) 7 _ hok (evA C0 x l hx0 gb) fun a w1 hg => ?_
 obtain ⟨σ', S1, ρ1, κ1, ⟨hle, hk, hx⟩, hok'⟩ := hg
 have hok1 := hok'.le hle
 clear hok' hle
 show Vs.At Tryz.prog Tryz.f3.ntmps (drawnG Tryz.prog) (.seq _ (Vs.dropS 8 Cd.lawEvalSpec)) _ a w1
 refine At.seq (At.region (pre := [⟨some 34, .mv (.tmp 1), none⟩]) (o := ⟨some 35, .call (.func F.l_toCardS) [(.tmp 34)] [], none⟩) (post := [⟨some 8, .mv (.tmp 35), none⟩]) hok1 hnt rfl ?_)
 let τ : St := ⟨(34, .sl 1 (E cC l)) :: (⟨[(1, .sl 1 (E cC l)), (2, .ptr (.t 2 0) 0 0), (6, evV x l), (7, .v (.int .i64 (evC x l)))], [(.t 2 0, .var (cP x) false)]⟩ : St).s, (⟨[(1, .sl 1 (E cC l)), (2, .ptr (.t 2 0) 0 0), (6, evV x l), (7, .v (.int .i64 (evC x l)))], [(.t 2 0, .var (cP x) false)]⟩ : St).h⟩
 refine Vs.vc_mono (K := fun σ' => LeL σ' τ) (fun σ1 hle1 => ?_) _ _ ?_
 rotate_left
 ·simp -dsimp only [go_sem, cP]
  simp [τ, Vs.LeL, Vs.look, Vs.hlook, cP]
 intro a w2 S2 ρ2 κ2 op ops hokx hcop
 have hok2 := hokx.le hle1
 refine op_call (by rw [hnt]; exact hcop) rfl hok2 (Vs.CodeIsR.has Cd.l_toCardS_k.o) ?_
 have h34 : RC S2 w2 (.sl 1 (E cC l)) (a.tmps.getD 34 undef) := RV.closed (hok2.slots 34) rfl
 refine (toCardS_new l hk hok2.hok.dom hok2.hok.env h34).mono ?_
 rintro e w3 ⟨v, D, ss, xs, cs, x0, rfl, q1, q2, q3, q4, q5, q6, q7, q8, q9⟩
 have hh0 : Hid C0 (fun _ => False) (.tup []) (.tuple #[]) := ⟨.tup _ _ rfl (by simp), fun b hb => hb.elim, fun b hb => hb.elim⟩
 have hok3 := OK.wrote hh0 hok2 q1 (fun b hb _ => q2 b hb) q3
 have hl3 := OK.wroteL (D := fun _ => False) (x := .junk) (v := undef) (Vs.Later.refl C0) (fun b hb => hb.elim) hok2 q1 (fun b hb _ => q2 b hb) q3
 have hC3w : (C0.anew w3 S2 τ.f.h ρ2).w0 = w3 := rfl
 have hC3S : (C0.anew w3 S2 τ.f.h ρ2).S0 = S2 := rfl
 have hC3M : ∀ b, (C0.anew w3 S2 τ.f.h ρ2).Mut b → b < w2.heap.size := fun b ⟨n, g1, g2⟩ => hok2.hok.lt g1 g2
 have hS2 : ∀ b, S2 b → b < w2.heap.size := hok2.hok.dom
 have hw2 : C0.w0.heap.size ≤ w2.heap.size := hok2.size
 generalize C0.anew w3 S2 τ.f.h ρ2 = C3 at hok3 hl3 hC3w hC3S hC3M
 have hnt3 : C3.nt = Tryz.f3.ntmps := by rw [hl3.nt, hnt]
 let σ4 : St := ⟨(35, .v v) :: τ.s, τ.h⟩
 have hok4 : OK C3 σ4.f (a.put (some 35) v) w3 S2 ρ2 κ2 := hok3.put (x := .v v) (v := v) (d := some 35) (.clo (.v _)) (fun d hd => by
   obtain rfl := Option.some.inj hd
   rw [hnt3, Cd.lawEvalSpec_k.n]; omega)
 refine ⟨_, rfl, C3, σ4, S2, ρ2, κ2, fun σ' => LeL σ' ⟨(8, .v v) :: (⟨[(1, .sl 1 (E cC l)), (2, .ptr (.t 2 0) 0 0), (6, evV x l), (7, .v (.int .i64 (evC x l)))], [(.t 2 0, .var (cP x) false)]⟩ : St).s, (⟨[(1, .sl 1 (E cC l)), (2, .ptr (.t 2 0) 0 0), (6, evV x l), (7, .v (.int .i64 (evC x l)))], [(.t 2 0, .var (cP x) false)]⟩ : St).h⟩, hnt3, hok4, ?_, fun a w4 hg => ?_⟩
 ·simp only [σ4, τ]
  simp -dsimp only [go_sem, cP]
  simp [Vs.LeL, Vs.look, Vs.hlook, cP]
 obtain ⟨S4, ρ4, κ4, hok5⟩ := hg.le
 show Vs.At Tryz.prog Tryz.f3.ntmps (drawnG Tryz.prog) (Vs.dropS 8 Cd.lawEvalSpec) _ a w4
 have hD4 : ∀ b, D b → w4.heap[b]? = w3.heap[b]? := fun b hb => by
  rw [← hC3w]
  exact hok5.old b (by rw [hC3w]; exact (q5 b hb).2) fun h => by have := hC3M b h; have := (q5 b hb).1; omega
 have hw34 : w3.heap.size ≤ w4.heap.size := by rw [← hC3w]; exact hok5.size
 have hDS : ∀ b, D b → ¬ S4 b := fun b hb hs => by
  have := q5 b hb
  rcases hok5.Snew b hs with h | h | h
  ·rw [hC3S] at h; have := hS2 b h; omega
  ·rw [hC3w] at h; omega
  ·have := hC3M b h; omega
 have hDn : ∀ b, D b → ∀ n, ((⟨(8, .v v) :: (⟨[(1, .sl 1 (E cC l)), (2, .ptr (.t 2 0) 0 0), (6, evV x l), (7, .v (.int .i64 (evC x l)))], [(.t 2 0, .var (cP x) false)]⟩ : St).s, (⟨[(1, .sl 1 (E cC l)), (2, .ptr (.t 2 0) 0 0), (6, evV x l), (7, .v (.int .i64 (evC x l)))], [(.t 2 0, .var (cP x) false)]⟩ : St).h⟩ : St).f.h n).isSome → ρ4 n ≠ some b := fun b hb n hn he => by
  have := q5 b hb
  rcases hok5.mine n b hn he with h | h
  ·rw [hC3w] at h; omega
  ·have := hC3M b h; omega
 have hSK : ∀ b, (S4 b ∨ D b) → b < w4.heap.size := fun b hb => hb.elim (hok5.hok.dom b) fun h => Nat.lt_of_lt_of_le (q5 b h).2 hw34
 have hcl : ∀ p, p ∈ (⟨(8, .v v) :: (⟨[(1, .sl 1 (E cC l)), (2, .ptr (.t 2 0) 0 0), (6, evV x l), (7, .v (.int .i64 (evC x l)))], [(.t 2 0, .var (cP x) false)]⟩ : St).s, (⟨[(1, .sl 1 (E cC l)), (2, .ptr (.t 2 0) 0 0), (6, evV x l), (7, .v (.int .i64 (evC x l)))], [(.t 2 0, .var (cP x) false)]⟩ : St).h⟩ : St).h → Vs.flatB p.2 ∧ p.2.fz = false := fun p hp => by
  obtain rfl := List.mem_singleton.1 hp
  exact ⟨rfl, rfl⟩
 have hlC := OK.againL hl3 hok5 (S' := fun b => S4 b ∨ D b) (fun b hb => .inl (hok5.S0 b (hl3.s0 b hb))) fun b hb => by
  rcases hb with hb | hb
  ·rcases (hok5.back hl3).Snew b hb with h | h | h
   ·exact .inl h
   ·exact .inr h
   ·exact (hM0 b h).elim
  ·right; have := (q5 b hb).1; omega
 have h1' : RC S4 w4 (.sl 1 (E cC l)) (a.tmps.getD 1 undef) := RV.closed (hok5.slots 1) rfl
 have h8' : RC (fun b => S4 b ∨ D b) w4 (.sl 1 (E cC l)) v := q4.mono (fun _ h => .inr h) hD4
 have h7' : a.tmps.getD 7 undef = .int .i64 (evC x l) := inv_v (hok5.slots 7)
 have h8v : a.tmps.getD 8 undef = v := inv_v (hok5.slots 8)
 have hr4 : RC (fun b => x0 = some b) w4 (.sl 1 (ss.map fun s => [AV.v s])) v := q6.mono (fun _ h => h) fun b hb => hD4 b (q7 b hb)
 have ho4 : Vs.OwnL (fun b => b < w2.heap.size ∨ x0 = some b) w4 1 (l.map (E cI)) ss xs cs := q9.mono (fun i b hi hb => (q9.row i hi).no hb) fun i b hi hb => hD4 b (q8 i b hi hb)
 by_cases he0 : evC x l = 0
 ·have h6' : RC S4 w4 (evV x l) (a.tmps.getD 6 undef) := RV.closed (hok5.slots 6) (evV_clo x l)
  rw [(evC_zero he0).2.2.2] at h6'
  let s0 : St := ⟨[(1, .v (a.tmps.getD 1 undef)), (2, .ptr (.t 2 0) 0 0), (6, .v (a.tmps.getD 6 undef)), (7, .v (.int .i64 0)), (8, .v v)], [(.t 2 0, .var (cP x) false)]⟩
  let s1 : St := ⟨[(1, .v (a.tmps.getD 1 undef)), (2, .ptr (.t 2 0) 0 0), (6, .v (a.tmps.getD 6 undef)), (7, .v (.int .i64 0)), (8, .v v), (9, .loc (.t 40 0) 0 (evT x l).length), (10, .v (.int .i64 0)), (11, .v (.int .i64 1))], [(.t 2 0, .var (cP x) false), (.t 40 0, .arr 2 (E cTt (evT x l)) false)]⟩
  let s3 : St := ⟨[(1, .sl 1 (E cC l)), (2, .ptr (.t 2 0) 0 0), (6, .sl 2 (E cTt (evT x l))), (7, .v (.int .i64 0)), (8, .v v), (9, .loc (.t 40 0) 0 (evT x l).length), (10, .v (.int .i64 0)), (11, .v (.int .i64 1))], [(.t 2 0, .var (cP x) false), (.t 40 0, .arr 2 (E cTt (evT x l)) false)]⟩
  have hokC := Vs.OK.again _ (Vs.keepE (fun b => S4 b ∨ D b) w4) hok5 (S' := fun b => S4 b ∨ D b) hSK Vs.keepE_env (fun n y hn hy hs => hs.resolve_right fun h => hDn y h n hn hy) hcl s0.s (fun p hp => by
    simp only [s0, List.mem_cons, List.not_mem_nil, or_false] at hp
    rcases hp with rfl | rfl | rfl | rfl | rfl
    · exact .inr (.v _)
    · exact .inl ⟨rfl, rfl⟩
    · right; exact .v _
    · right; rw [h7']; rw [he0]; exact .v _
    · right; rw [h8v]; exact .v _)
  refine @evK0 (Vs.keepE (fun b => S4 b ∨ D b) w4) _ x l hk hx he0 (a.tmps.getD 1 undef) (a.tmps.getD 6 undef) v (fun S' w' he => Vs.keepE_known hSK he (h1'.mono (fun _ h => .inl h) fun _ _ => rfl)) (fun S' w' he => Vs.keepE_known hSK he (h6'.mono (fun _ h => .inl h) fun _ _ => rfl)) (fun S' w' he => Vs.keepE_known hSK he h8') (by exact hnt3) a w4 _ _ _ hokC _ fun a' w5 hg => ?_
  obtain ⟨ρ5, κ5, hok6, hl6, g1, g2, g3⟩ := Vs.GoodL.swap (Vs.keepE (fun b => S4 b ∨ D b) w4) _ hg hlC (S' := S4) (fun b hb => .inl hb) (fun b hb => hok5.S0 b (hl3.s0 b hb)) (fun b hb => by
    rcases (hok5.back hl3).Snew b hb with h | h | h
    · exact .inl h
    · exact .inr h
    · exact (hM0 b h).elim) (fun b hb ⟨n, y1, y2⟩ => by
    rcases hb with hb | hb
    · obtain ⟨b', hb'⟩ := Option.isSome_iff_exists.1 y1
      exact (Vs.OK.noS hok5 hb' (hcl _ (Vs.hlook_mem2 hb')).2 y2) hb
    · exact hDn b hb n y1 y2) hSK hok5.hok.env (fun p hp => by
    simp only [List.mem_cons, List.not_mem_nil, or_false] at hp
    rcases hp with rfl | rfl
    · exact ⟨rfl, rfl⟩
    · exact ⟨flatB_E (fun _ => rfl), rfl⟩) s3.s (fun p hp => by
    simp only [s3, List.mem_cons, List.not_mem_nil, or_false] at hp
    rcases hp with rfl | rfl | rfl | rfl | rfl | rfl | rfl | rfl
    · exact .inr ⟨_, rfl, h1'⟩
    · exact .inl ⟨rfl, rfl⟩
    · exact .inr ⟨_, rfl, h6'⟩
    all_goals exact .inl ⟨rfl, rfl⟩)
  refine evM0 hl6 hM0 x l hk hx he0 v (by exact hnt3) hok6 (S1 := fun b => b < w2.heap.size ∨ x0 = some b) (D := D) (ss := ss) (xs := xs) (cs := cs) (x0 := x0) (hr4.mono (fun _ h => h) fun b hb => g1 b (.inr (q7 b hb))) (ho4.mono (fun i b hi hb => (ho4.row i hi).no hb) fun i b hi hb => g1 b (.inr (q8 i b hi hb))) (fun b hb => ⟨.inr hb, q7 b hb⟩) q8 fun b hb => ⟨Nat.lt_of_lt_of_le (hSK b (.inr hb)) g2, by have := (q5 b hb).1; omega, hDS b hb, fun n hn => g3 b (.inr hb) n hn⟩
 ·have h6' : RC S4 w4 (evV x l) (a.tmps.getD 6 undef) := RV.closed (hok5.slots 6) (evV_clo x l)
  rw [evC_non he0] at h6'
  let s0 : St := ⟨[(1, .v (a.tmps.getD 1 undef)), (2, .ptr (.t 2 0) 0 0), (6, .v (.slice none 0 0)), (7, .v (.int .i64 (evC x l))), (8, .v v)], [(.t 2 0, .var (cP x) false)]⟩
  let s1 : St := ⟨[(1, .v (a.tmps.getD 1 undef)), (2, .ptr (.t 2 0) 0 0), (6, .v (.slice none 0 0)), (7, .v (.int .i64 (evC x l))), (8, .v v), (9, .v (.slice none 0 0)), (10, .v (.int .i64 (evC x l))), (11, .v (.int .i64 1))], [(.t 2 0, .var (cP x) false)]⟩
  let s3 : St := ⟨[(1, .sl 1 (E cC l)), (2, .ptr (.t 2 0) 0 0), (6, .v (.slice none 0 0)), (7, .v (.int .i64 (evC x l))), (8, .v v), (9, .v (.slice none 0 0)), (10, .v (.int .i64 (evC x l))), (11, .v (.int .i64 1))], [(.t 2 0, .var (cP x) false)]⟩
  have hokC := Vs.OK.again _ (Vs.keepE (fun b => S4 b ∨ D b) w4) hok5 (S' := fun b => S4 b ∨ D b) hSK Vs.keepE_env (fun n y hn hy hs => hs.resolve_right fun h => hDn y h n hn hy) hcl s0.s (fun p hp => by
    simp only [s0, List.mem_cons, List.not_mem_nil, or_false] at hp
    rcases hp with rfl | rfl | rfl | rfl | rfl
    · exact .inr (.v _)
    · exact .inl ⟨rfl, rfl⟩
    · right; rw [inv_v (.clo h6' : RV S4 w4 ρ4 κ4 (fun _ => none) _ _)]; exact .v _
    · right; rw [h7']; exact .v _
    · right; rw [h8v]; exact .v _)
  refine @evK1 (Vs.keepE (fun b => S4 b ∨ D b) w4) _ x l hk hx he0 (a.tmps.getD 1 undef)  v (fun S' w' he => Vs.keepE_known hSK he (h1'.mono (fun _ h => .inl h) fun _ _ => rfl))  (fun S' w' he => Vs.keepE_known hSK he h8') (by exact hnt3) a w4 _ _ _ hokC _ fun a' w5 hg => ?_
  obtain ⟨ρ5, κ5, hok6, hl6, g1, g2, g3⟩ := Vs.GoodL.swap (Vs.keepE (fun b => S4 b ∨ D b) w4) _ hg hlC (S' := S4) (fun b hb => .inl hb) (fun b hb => hok5.S0 b (hl3.s0 b hb)) (fun b hb => by
    rcases (hok5.back hl3).Snew b hb with h | h | h
    · exact .inl h
    · exact .inr h
    · exact (hM0 b h).elim) (fun b hb ⟨n, y1, y2⟩ => by
    rcases hb with hb | hb
    · obtain ⟨b', hb'⟩ := Option.isSome_iff_exists.1 y1
      exact (Vs.OK.noS hok5 hb' (hcl _ (Vs.hlook_mem2 hb')).2 y2) hb
    · exact hDn b hb n y1 y2) hSK hok5.hok.env (fun p hp => by
    simp only [List.mem_cons, List.not_mem_nil, or_false] at hp
    subst hp
    exact ⟨rfl, rfl⟩) s3.s (fun p hp => by
    simp only [s3, List.mem_cons, List.not_mem_nil, or_false] at hp
    rcases hp with rfl | rfl | rfl | rfl | rfl | rfl | rfl | rfl
    · exact .inr ⟨_, rfl, h1'⟩
    · exact .inl ⟨rfl, rfl⟩
    · exact .inl ⟨rfl, rfl⟩
    all_goals exact .inl ⟨rfl, rfl⟩)
  refine evM1 hl6 hM0 x l hk hx he0 v (by exact hnt3) hok6 (S1 := fun b => b < w2.heap.size ∨ x0 = some b) (D := D) (ss := ss) (xs := xs) (cs := cs) (x0 := x0) (hr4.mono (fun _ h => h) fun b hb => g1 b (.inr (q7 b hb))) (ho4.mono (fun i b hi hb => (ho4.row i hi).no hb) fun i b hi hb => g1 b (.inr (q8 i b hi hb))) (fun b hb => ⟨.inr hb, q7 b hb⟩) q8 fun b hb => ⟨Nat.lt_of_lt_of_le (hSK b (.inr hb)) g2, by have := (q5 b hb).1; omega, hDS b hb, fun n hn => g3 b (.inr hb) n hn⟩
end
end Go.Proofs.YtmgnfpmdlgcnjaaGreat
