/- The law FnExactFirstDifference returns true for every input, and its arguments read behind the call as they read before. Conditions: none beyond the given statement. -/
import Derived.Test.YtmfjbgjeljhcaaaGreatZwNc
import Derived.Test.YtmfjbgjeljhcaaaGreatZuM
import Derived.Test.YtmfjbgjeljhcaaaGreatZuO
import Derived.Test.YtmfjbgjeljhcaaaGreatVtR
set_option linter.unusedSimpArgs false
set_option linter.unusedVariables false
set_option maxHeartbeats 8000000
namespace Go.Proofs.YtmfjbgjeljhcaaaGreat
open Go.Vs
attribute [local irreducible] Vs.Fn stpB wO stC run rsB rsL evC evV spcB deckB agB dfC dfL chOK areCh chTo chAt l03 chB rk cd3 chI stp stpTo
theorem szI_mono {l : List Int} {n : Int} (hl : l.length < 2 ^ 63) (h0 : 0 ≤ n) (hn : n ≤ 1048576) (h : 0 ≤ szI l n) : szI l n ≤ n := (szI_le hl h0 hn h).1
def bigC (l : List (List Int)) : Prop := l.length < 2 ^ 63 ∧ ∀ c, c ∈ l → c.length < 2 ^ 63
def szDk (l : List (List Int)) (n : Int) : Int := szL szI l n
theorem szDk_small {l : List (List Int)} (hb : bigC l) {n : Int} (h0 : 0 ≤ n) (hn : n ≤ 1048576) (h : 0 ≤ szDk l n) : smallC l := by
 refine ⟨?_, fun c hc => ?_⟩
 ·have := (szL_mono (fun x hx _ a b c => szI_mono (hb.2 x hx) a b c) hb.1 h0 hn h).2; omega
 ·obtain ⟨m, h1, h2, h3⟩ := szL_in (fun x hx _ a b c => szI_mono (hb.2 x hx) a b c) hb.1 h0 hn h c hc
  have := (szI_le (hb.2 c hc) h1 h2 h3).2; omega
abbrev ACard := { l : List I64 // l.length < 2 ^ 63 }
abbrev ACards := { l : List ACard // l.length < 2 ^ 63 }
def gCards (d : ACards) : List (List Int) := d.1.map fun c => c.1.map fun n => n.1
theorem gCards_big (d : ACards) : bigC (gCards d) := by
 refine ⟨by simpa [gCards] using d.2, fun c hc => ?_⟩
 obtain ⟨x, _, rfl⟩ := List.mem_map.1 hc
 simpa using x.2
theorem gCards_enc (d : ACards) : E cC (gCards d) = d.1.map eCard := by
 simp only [gCards, E_map]
 congr 1
 funext c
 simp only [cC, E_map]
 rfl
theorem law_FirstDifference (fl : List Stp) (x : Spc) (l : List (List Int)) (n : Int) (hs0 : ∀ x, x ∈ fl → x.text.size < 2 ^ 63) (hl0 : fl.length < 2 ^ 63) (hx0 : x.text.size < 2 ^ 63) (gb : bigC l) : Fz F.lawFirstDifference [.sl 9 (E cS fl), .agg (cP x), .sl 1 (E cC l), .v (.int .i64 n)] (.v (.bool true)) := by
 refine fn0 Cd.lawFirstDifference_k fun X => ?_
 simp -dsimp only [go_sem, cP]
 refine CallK.flat (szStepS fl 1048576 hs0 hl0 (by omega)) rfl ?_
 simp -dsimp only [go_sem, cP]
 refine Br.mk (fun h1 => by simp -dsimp only [go_sem, cP]; simp) (fun h1 => ?_)
 simp only [decide_eq_false_iff_not] at h1
 have hl : fl.length ≤ 1048576 := by have := szL_len hl0 (by omega) h1; omega
 have hz : ∀ x, x ∈ fl → x.text.size ≤ 1048576 := by
  intro x hx
  obtain ⟨m, h2, h3, h4⟩ := szL_mem (fun x hx n h0 hn h => szStp_le (hs0 x hx) h0 hn h) hl0 (by omega) h1 x hx
  have := (szT_le (hs0 x hx) h2 h3 h4).2
  omega
 obtain ⟨z1, m1⟩ := szL_le (fun x hx n h0 hn h => szStp_le (hs0 x hx) h0 hn h) hl0 (by omega) h1
 generalize szL szStp fl 1048576 = n1 at *
 simp -dsimp only [go_sem, cP]
 refine CallK.flat (szSpec x n1) rfl ?_
 simp -dsimp only [go_sem, cP]
 refine Br.mk (fun h2 => by simp -dsimp only [go_sem, cP]; simp) (fun h2 => ?_)
 simp only [decide_eq_false_iff_not] at h2
 have z2 : 0 ≤ szT x.text n1 := by omega
 have hx : x.text.size ≤ 1048576 := by have := (szT_le hx0 z1 m1 z2).2; omega
 have m2 : szT x.text n1 ≤ 1048576 := by have := (szT_le hx0 z1 m1 z2).1; omega
 generalize szT x.text n1 = n2 at *
 simp -dsimp only [go_sem, cP]
 refine CallK.flat (szCardS l n2 gb.2 gb.1 ⟨z2, m2⟩) rfl ?_
 simp -dsimp only [go_sem, cP]
 refine Br.mk (fun h3 => by simp -dsimp only [go_sem, cP]; simp) (fun h3 => ?_)
 simp only [decide_eq_false_iff_not] at h3
 have hk := szDk_small gb z2 m2 (by unfold szDk; omega)
 repeat' first
  |simp -dsimp only [go_sem, cP]
  |refine Br.mk ?_ ?_<;>intro h<;>try simp -dsimp only[h]
  |refine CallK.c (by first|exact toStepS fl hl|exact toSpec x|exact toCardS l hk.2 hk.1|exact spec_FirstDifference fl hz hl x hx l hk n|exact impl_FirstDifference fl hz hl x hx l hk n|exact eqStepS fl hl|exact eqCardS l hk.2 hk.1) ?_
  |refine and_c ?_
  |fail
 all_goals simp_all
def gSpcA (p : (I64 × I64) × S63 × (I64 × I64) × (I64 × I64)) : Spc := ⟨p.1.1.1, p.1.2.1, p.2.1.1, p.2.2.1.1.1, p.2.2.1.2.1, p.2.2.2.1.1, p.2.2.2.2.1⟩
set_option maxRecDepth 100000 in
theorem firstdifference_lifted (os : Os) (started : os.Started) (H : Type) (enc : TypeId × Value → H) :
  ReturnsInHanded {} Tryz.checked os F.lawFirstDifference .any (Rows.fnExactFirstDifferenceSpec.pre6 enc Tryz.prog Tryz.f9 Rows.fnExactFirstDifferenceRow.domain false) (Rows.fnExactFirstDifferenceSpec.post enc Tryz.prog Tryz.f9 false true false false) :=
 law_returns (C := Tryz.checked) rfl Tryz.own started (by kernel_rfl) Tryz.func9
  (ChangeSpec.witness6 (enc := enc) (C := Tryz.checked) false ⟨#[], #[.slice none 0 0, .agg #[.int .i64 0, .int .i64 0, .string ⟨#[]⟩, .int .i64 0, .int .i64 0, .int .i64 0, .int .i64 0], .slice none 0 0, .int .i64 0], []⟩ 8 (by kernel_rfl) (by kernel_rfl) (by kernel_rfl) (by kernel_rfl))
  Tryz.laidOut (by kernel_rfl) rfl Tryz.underlying4 rfl (fun ds h => by match ds, h with | [_, _, _, _], _ => exact ⟨rfl, rfl, rfl⟩)
  (Args.cons (Arg.slice Tryz.underlying43 oSteps) (Args.cons (Arg.struct Tryz.underlying25 oSpec) (Args.cons (Arg.slice Tryz.underlying26 oCards) (Args.cons (Arg.int Tryz.underlying2 (by kernel_rfl)) Args.nil)))) (fun a => by
    have h := law_FirstDifference (a.1.1.map gStp) (gSpcA a.2.1) (gCards a.2.2.1) a.2.2.2.1.1 (fun x hx => by obtain ⟨p, _, rfl⟩ := List.mem_map.1 hx; exact p.2.2.2.2.2.2.2) (by simpa using a.1.2) a.2.1.2.1.2 (gCards_big a.2.2.1)
    rw [E_map, gCards_enc] at h
    exact h)
theorem firstdifference_holds : Rows.FnExactFirstDifferenceSaid :=
 OpenClaim.holds_of_wide 9 Tryz.f9 rfl rfl rfl rfl rfl rfl rfl ⟨rfl, rfl, rfl, rfl, rfl⟩ rfl rfl rfl rfl rfl (by kernel_rfl) Tryz.func9 (by kernel_rfl)
  (of_decide_eq_true (by kernel_rfl)) (by unfold Func.isWrapper; first | (rw [if_pos (by decide +kernel)]; kernel_rfl) | (rw [if_neg (by decide +kernel)]; exact ⟨rfl, rfl⟩))
  (fun os started H enc _ => firstdifference_lifted os started H enc)
#print axioms firstdifference_holds
end Go.Proofs.YtmfjbgjeljhcaaaGreat
