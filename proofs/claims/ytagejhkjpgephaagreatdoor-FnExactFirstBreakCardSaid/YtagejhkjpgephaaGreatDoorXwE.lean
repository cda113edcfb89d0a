/- The laws FnExactSameOffice and FnExactValidOffice return true for every input, and their arguments read behind the call as they read before. Conditions: none beyond the given statements. -/
import Derived.Test.YtagejhkjpgephaaGreatDoorXwD
import Derived.Test.YtagejhkjpgephaaGreatDoorXuO
import Derived.Test.YtagejhkjpgephaaGreatDoorEtO
set_option linter.unusedSimpArgs false
set_option linter.unusedVariables false
set_option maxHeartbeats 8000000
namespace Go.Proofs.YtagejhkjpgephaaGreatDoor
open Go.Vs
attribute [local irreducible] Vs.Fn
theorem szI_mono {l : List Int} {n : Int} (hl : l.length < 2 ^ 63) (h0 : 0 ≤ n) (hn : n ≤ 1048576) (h : 0 ≤ szI l n) : szI l n ≤ n := (szI_le hl h0 hn h).1
def bigC (l : List (List Int)) : Prop := l.length < 2 ^ 63 ∧ ∀ c, c ∈ l → c.length < 2 ^ 63
def bigD (l : List (List (List Int))) : Prop := l.length < 2 ^ 63 ∧ ∀ c, c ∈ l → bigC c
def bigT (l : List Tot) : Prop := l.length < 2 ^ 63 ∧ ∀ c, c ∈ l → c.1.size < 2 ^ 63
def bigTs (l : List (List Tot)) : Prop := l.length < 2 ^ 63 ∧ ∀ c, c ∈ l → bigT c
def bigO (o : Off) : Prop := bigD o.trays ∧ bigTs o.totals
def szDk (l : List (List Int)) (n : Int) : Int := szL szI l n
def szTl (l : List Tot) (n : Int) : Int := szL szTot l n
theorem szDk_mono {l : List (List Int)} (hb : bigC l) (n : Int) (h0 : 0 ≤ n) (hn : n ≤ 1048576) (h : 0 ≤ szDk l n) : szDk l n ≤ n :=
 (szL_mono (fun x hx _ a b c => szI_mono (hb.2 x hx) a b c) hb.1 h0 hn h).1
theorem szTl_mono {l : List Tot} (hb : bigT l) (n : Int) (h0 : 0 ≤ n) (hn : n ≤ 1048576) (h : 0 ≤ szTl l n) : szTl l n ≤ n :=
 (szL_mono (fun x hx _ a b c => szTot_le (hb.2 x hx) a b c) hb.1 h0 hn h).1
theorem szDk_small {l : List (List Int)} (hb : bigC l) {n : Int} (h0 : 0 ≤ n) (hn : n ≤ 1048576) (h : 0 ≤ szDk l n) : smallC l := by
 refine ⟨?_, fun c hc => ?_⟩
 ·have := (szL_mono (fun x hx _ a b c => szI_mono (hb.2 x hx) a b c) hb.1 h0 hn h).2; omega
 ·obtain ⟨m, h1, h2, h3⟩ := szL_in (fun x hx _ a b c => szI_mono (hb.2 x hx) a b c) hb.1 h0 hn h c hc
  have := (szI_le (hb.2 c hc) h1 h2 h3).2; omega
theorem szTl_small {l : List Tot} (hb : bigT l) {n : Int} (h0 : 0 ≤ n) (hn : n ≤ 1048576) (h : 0 ≤ szTl l n) : smallT l := by
 refine ⟨?_, fun c hc => ?_⟩
 ·have := (szL_mono (fun x hx _ a b c => szTot_le (hb.2 x hx) a b c) hb.1 h0 hn h).2; omega
 ·obtain ⟨m, h1, h2, h3⟩ := szL_in (fun x hx _ a b c => szTot_le (hb.2 x hx) a b c) hb.1 h0 hn h c hc
  have := (szT_le (hb.2 c hc) h1 h2 h3).2; omega
def szOff (o : Off) (n : Int) : Int := if szL szDk o.trays n < 0 then -1 else if szL szTl o.totals (szL szDk o.trays n) < 0 then -1 else szL szTl o.totals (szL szDk o.trays n)
theorem szOff_spec {o : Off} (hb : bigO o) {n : Int} (h0 : 0 ≤ n) (hn : n ≤ 1048576) (h : 0 ≤ szOff o n) : szOff o n ≤ n ∧ smallO o := by
 unfold szOff at h ⊢
 split at h
 ·omega
 ·rename_i h1
  rw [if_neg h1]
  split at h
  ·omega
  ·rename_i h2
   rw [if_neg h2]
   obtain ⟨a1, a2⟩ := szL_mono (fun x hx n a b c => szDk_mono (hb.1.2 x hx) n a b c) hb.1.1 h0 hn (by omega : 0 ≤ szL szDk o.trays n)
   obtain ⟨b1, b2⟩ := szL_mono (fun x hx n a b c => szTl_mono (hb.2.2 x hx) n a b c) hb.2.1 (by omega) (by omega) h
   refine ⟨by omega, ⟨by omega, fun d hd => ?_⟩, ⟨by omega, fun d hd => ?_⟩⟩
   ·obtain ⟨m, h3, h4, h5⟩ := szL_in (fun x hx n a b c => szDk_mono (hb.1.2 x hx) n a b c) hb.1.1 h0 hn (by omega : 0 ≤ szL szDk o.trays n) d hd
    exact szDk_small (hb.1.2 d hd) h3 h4 h5
   ·obtain ⟨m, h3, h4, h5⟩ := szL_in (fun x hx n a b c => szTl_mono (hb.2.2 x hx) n a b c) hb.2.1 (by omega) (by omega) h d hd
    exact szTl_small (hb.2.2 d hd) h3 h4 h5
theorem szCardSS (l : List (List (List Int))) (n : Int) (hb : bigD l) (hn : 0 ≤ n ∧ n ≤ 1048576) : Fz F.l_szCardSS [.sl 1 (E cD l), .v (.int .i64 n)] (.v (.int .i64 (szL szDk l n))) :=
 szO_fn Tryz.mixed (d := fun x => .sl 1 (E cC x)) (g := F.l_szCardS) Cd.l_szCardSS_k.o Cd.l_szCardSS_k.n Cd.l_szCardSS_k.r rfl szDk (fun _ => rfl) (fun x hx n h0 hn => szCardS x n (hb.2 x hx).2 (hb.2 x hx).1 ⟨h0, hn⟩) (fun x hx n a b c => szDk_mono (hb.2 x hx) n a b c) n hb.1 hn
theorem szTotalSS (l : List (List Tot)) (n : Int) (hb : bigTs l) (hn : 0 ≤ n ∧ n ≤ 1048576) : Fz F.l_szTotalSS [.sl 1 (E cTs l), .v (.int .i64 n)] (.v (.int .i64 (szL szTl l n))) :=
 szO_fn Tryz.mixed (d := fun x => .sl 2 (E cT x)) (g := F.l_szTotalS) Cd.l_szTotalSS_k.o Cd.l_szTotalSS_k.n Cd.l_szTotalSS_k.r rfl szTl (fun _ => rfl) (fun x hx n h0 hn => szTotalS x n (hb.2 x hx).2 (hb.2 x hx).1 ⟨h0, hn⟩) (fun x hx n a b c => szTl_mono (hb.2 x hx) n a b c) n hb.1 hn
theorem toCardSS (l : List (List (List Int))) (hl : smallD l) : Fz F.l_toCardSS [.sl 1 (E cD l)] (.sl 1 (E cD l)) :=
 toO_fn Tryz.mixed (d := fun x => .sl 1 (E cC x)) (y := 24) (z := [.v (.slice none 0 0)]) (g := F.l_toCardS) Cd.l_toCardSS_k.o Cd.l_toCardSS_k.n Cd.l_toCardSS_k.r rfl rfl rfl (fun _ => ⟨_, _, rfl⟩) (fun x hx => toCardS x (hl.2 x hx).2 (hl.2 x hx).1) hl.1 (by omega)
theorem toTotalSS (l : List (List Tot)) (hl : smallTs l) : Fz F.l_toTotalSS [.sl 1 (E cTs l)] (.sl 1 (E cTs l)) :=
 toO_fn Tryz.mixed (d := fun x => .sl 2 (E cT x)) (y := 24) (z := [.v (.slice none 0 0)]) (g := F.l_toTotalS) Cd.l_toTotalSS_k.o Cd.l_toTotalSS_k.n Cd.l_toTotalSS_k.r rfl rfl rfl (fun _ => ⟨_, _, rfl⟩) (fun x hx => toTotalS x (hl.2 x hx).1) hl.1 (by omega)
theorem eqCardSS (l : List (List (List Int))) (hl : smallD l) : Fz F.l_eqCardSS [.sl 1 (E cD l), .sl 1 (E cD l)] (.v (.bool true)) :=
 eqO_fn Tryz.mixed (d := fun x => .sl 1 (E cC x)) (g := F.l_eqCardS) Cd.l_eqCardSS_k.o Cd.l_eqCardSS_k.n Cd.l_eqCardSS_k.r rfl (fun _ => rfl) (fun x hx => eqCardS x (hl.2 x hx).2 (hl.2 x hx).1) hl.1
theorem eqTotalSS (l : List (List Tot)) (hl : smallTs l) : Fz F.l_eqTotalSS [.sl 1 (E cTs l), .sl 1 (E cTs l)] (.v (.bool true)) :=
 eqO_fn Tryz.mixed (d := fun x => .sl 2 (E cT x)) (g := F.l_eqTotalS) Cd.l_eqTotalSS_k.o Cd.l_eqTotalSS_k.n Cd.l_eqTotalSS_k.r rfl (fun _ => rfl) (fun x hx => eqTotalS x (hl.2 x hx).1) hl.1
theorem szOffice (o : Off) (n : Int) (hb : bigO o) (hn : 0 ≤ n ∧ n ≤ 1048576) : Fz F.l_szOffice [.agg (cO o), .v (.int .i64 n)] (.v (.int .i64 (szOff o n))) := by
 refine fn0 Cd.l_szOffice_k fun X => ?_
 simp -dsimp only [go_sem, cO]
 refine CallK.flat (szCardSS _ _ hb.1 hn) rfl ?_
 simp -dsimp only [go_sem]
 refine Br.mk (fun h => ?_) fun h => ?_
 ·simp -dsimp only [go_sem]
  simp only [decide_eq_true_eq] at h
  simp [szOff, h]
 ·simp only [decide_eq_false_iff_not] at h
  have h1 := (szL_mono (fun x hx n a b c => szDk_mono (hb.1.2 x hx) n a b c) hb.1.1 hn.1 hn.2 (by omega : 0 ≤ szL szDk o.trays n)).1
  simp -dsimp only [go_sem]
  refine CallK.flat (szTotalSS _ _ hb.2 ⟨by omega, by omega⟩) rfl ?_
  simp -dsimp only [go_sem]
  refine Br.mk (fun h2 => ?_) fun h2 => ?_
  ·simp -dsimp only [go_sem]
   simp only [decide_eq_true_eq] at h2
   simp [szOff, h, h2]
  ·simp -dsimp only [go_sem]
   simp only [decide_eq_false_iff_not] at h2
   simp [szOff, h, h2]
theorem toOffice (o : Off) (ho : smallO o) : Fz F.l_toOffice [.agg (cO o)] (.agg (cO o)) := by
 refine fn0 Cd.l_toOffice_k fun X => ?_
 repeat' first
  |simp -dsimp only [go_sem, cO]
  |refine Br.mk ?_ ?_<;>intro h<;>try simp -dsimp only[h]
  |refine CallK.c (by first|exact toCardSS _ ho.1|exact toTotalSS _ ho.2) ?_
  |refine and_c ?_
  |fail
 all_goals (exact ⟨_, _, rfl, rfl⟩)
theorem eqOffice (o : Off) (ho : smallO o) : Fz F.l_eqOffice [.agg (cO o), .agg (cO o)] (.v (.bool true)) := by
 refine fn0 Cd.l_eqOffice_k fun X => ?_
 repeat' first
  |simp -dsimp only [go_sem, cO]
  |refine Br.mk ?_ ?_<;>intro h<;>try simp -dsimp only[h]
  |refine CallK.c (by first|exact eqCardSS _ ho.1|exact eqTotalSS _ ho.2) ?_
  |refine and_c ?_
  |fail
 all_goals (simp_all)
def gTot (p : S63 × I64) : Tot := (p.1.1, p.2.1)
abbrev ACard := { l : List I64 // l.length < 2 ^ 63 }
abbrev ACards := { l : List ACard // l.length < 2 ^ 63 }
abbrev ACardsS := { l : List ACards // l.length < 2 ^ 63 }
abbrev ATotals := { l : List (S63 × I64) // l.length < 2 ^ 63 }
abbrev ATotalsS := { l : List ATotals // l.length < 2 ^ 63 }
def gCards (d : ACards) : List (List Int) := d.1.map fun c => c.1.map fun n => n.1
def gOff (p : ACardsS × ATotalsS) : Off := ⟨p.1.1.map gCards, p.2.1.map fun t => t.1.map gTot⟩
theorem gCards_big (d : ACards) : bigC (gCards d) := by
 refine ⟨by simpa [gCards] using d.2, fun c hc => ?_⟩
 obtain ⟨x, _, rfl⟩ := List.mem_map.1 hc
 simpa using x.2
theorem gOff_big (p : ACardsS × ATotalsS) : bigO (gOff p) := by
 refine ⟨⟨by simpa [gOff] using p.1.2, fun d hd => ?_⟩, ⟨by simpa [gOff] using p.2.2, fun d hd => ?_⟩⟩
 ·obtain ⟨x, _, rfl⟩ := List.mem_map.1 hd
  exact gCards_big x
 ·obtain ⟨x, _, rfl⟩ := List.mem_map.1 hd
  refine ⟨by simpa using x.2, fun t ht => ?_⟩
  obtain ⟨y, _, rfl⟩ := List.mem_map.1 ht
  exact y.1.2
theorem gCards_enc (d : ACards) : E cC (gCards d) = d.1.map eCard := by
 simp only [gCards, E_map]
 congr 1
 funext c
 simp only [cC, E_map]
 rfl
theorem gOff_enc (p : ACardsS × ATotalsS) : cO (gOff p) = eOffice p := by
 simp only [cO, gOff, E_map, cD, cTs, gCards_enc]
 rfl
end Go.Proofs.YtagejhkjpgephaaGreatDoor
