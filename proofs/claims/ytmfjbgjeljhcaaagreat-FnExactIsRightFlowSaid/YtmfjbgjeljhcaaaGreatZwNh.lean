/- The decks on which a flow and a specification do not agree: the program and the reference. -/
import Derived.Test.YtmfjbgjeljhcaaaGreatZwVy
import Derived.Test.YtmfjbgjeljhcaaaGreatZwNa
set_option linter.unusedSimpArgs false
set_option linter.unusedVariables false
set_option maxHeartbeats 8000000
namespace Go.Proofs.YtmfjbgjeljhcaaaGreat
open Go.Vs
section
attribute [local irreducible] Vs.Fn stpB wO stC run rsB rsL evC evV spcB deckB agB atD allD geo geo0 chOK areCh chTo chAt l03 chB rk cd3 chI stp stpTo
def dfB (fl : List Stp) (x : Spc) (l : List (List Int)) (n k : Nat) : Bool := !agB fl x ((allD l n).getD k [])
def selN (p : Nat → Bool) : Nat → List Int
 | 0 => []
 | i + 1 => selN p i ++ (if p i then [(i : Int)] else [])
theorem selN_len (p : Nat → Bool) : ∀ i, (selN p i).length ≤ i
 | 0 => Nat.le_refl _
 | i + 1 => by
  have := selN_len p i
  simp only [selN, List.length_append]
  cases p i
  ·simp; omega
  ·simp; omega
def dfL (fl : List Stp) (x : Spc) (l : List (List Int)) (n : Nat) : List Int := selN (dfB fl x l n) (geo l.length n)
def dfC (fl : List Stp) (x : Spc) (l : List (List Int)) (n : Int) : Int := if codeI l n = 0 then (if flwB fl (widB l) && spcB x (widB l) then 0 else 2) else codeI l n
theorem codeI_0 {l : List (List Int)} {n : Int} (h : codeI l n = 0) : deckB l = true ∧ 0 < l.length ∧ l.length ≤ 5 ∧ ∃ k : Nat, n = k ∧ k ≤ 3 := by
 unfold codeI at h
 split at h
 ·rename_i h1
  split at h
  ·rename_i h2
   simp [sampB, inB] at h1 h2
   exact ⟨h1.1, by omega, by omega, n.toNat, by omega, by omega⟩
  ·cases h
 ·cases h
attribute [local go_sem] Int.reduceBEq Int.reduceBNe cO cS cFd E_len List.replicate_succ List.replicate_zero List.flatten_cons List.flatten_nil List.cons_append List.nil_append List.set_cons_zero List.set_cons_succ List.length_cons List.length_nil List.length_set List.mem_singleton List.mem_cons List.not_mem_nil or_false false_or Vs.Name.t.injEq List.getD_cons_zero List.getD_cons_succ Vs.Name.b.injEq List.getElem?_cons_zero List.getElem?_cons_succ cP in
theorem l17At (l : List (List Int)) (hk : smallC l) (h1 : 0 < l.length) (h5 : l.length ≤ 5) (i q : Nat) (hi : i ≤ 3) (hq : q < l.length ^ i) : Fz F.s_l17At [.sl 1 (E cC l), .v (.int .i64 (geo0 l.length i + q : Nat))] (.sl 1 (E cC (atD l i q))) := by
 have hp : ∀ j, j ≤ i → l.length ^ j ≤ 625 := fun j hj => pow_le _ _ h5 (by omega)
 have hg := geo0_le l.length h5 i (by omega)
 refine fn0 Cd.s_l17At_k fun X => ?_
 simp -dsimp only [go_sem, cC]
 refine LoopK.at (drawn_ok Tryz.mixed) (X := { j : Nat // j ≤ i }) (fun j => [(1, .v (.int .i64 (geo0 l.length i + q - geo0 l.length j.1 : Nat))), (6, .v (.int .i64 j.1)), (7, .v (.int .i64 (l.length ^ j.1 : Nat)))]) (fun j => []) (fun j => i - j.1) ⟨0, by omega⟩ ?_ ?_
 ·simp [Vs.LeL, Vs.look, Vs.hlook, Vs.sput, Vs.sputs, Vs.hset, Vs.hputs, geo0]
 ·rintro ⟨j, hj⟩
  have hgj := geo0_mono l.length hj
  have hpj := hp j hj
  have hs := geo0_succ l.length j
  simp -dsimp only [go_sem, cC]
  refine Br.mk (fun hc => ?_) fun hc => ?_
  ·have hc2 : l.length ^ j ≤ geo0 l.length i + q - geo0 l.length j := by have := of_decide_eq_true hc; omega
   have hlt : j < i := by
    rcases Nat.lt_or_ge j i with h | h
    ·exact h
    ·have e : j = i := by omega
     subst e
     omega
   have hgj2 := geo0_mono l.length (show j + 1 ≤ i from hlt)
   have hw6 : IntKind.i64.wrap ((j : Int) + 1) = ((j + 1 : Nat) : Int) := by rw [wrap_in (by omega) (by omega)]; omega
   have hw1 : IntKind.i64.wrap (((geo0 l.length i + q - geo0 l.length j : Nat) : Int) - ((l.length ^ j : Nat) : Int)) = ((geo0 l.length i + q - geo0 l.length (j + 1) : Nat) : Int) := by
    have hq' := hp i (Nat.le_refl _)
    rw [wrap_in (by omega) (by omega)]; omega
   have hw7 : IntKind.i64.wrap (((l.length ^ j : Nat) : Int) * (l.length : Int)) = ((l.length ^ (j + 1) : Nat) : Int) := by
    have e : ((l.length ^ j : Nat) : Int) * (l.length : Int) = ((l.length ^ j * l.length : Nat) : Int) := by rw [Int.natCast_mul]
    have := hp (j + 1) hlt
    rw [Nat.pow_succ] at this
    rw [e, wrap_in (by omega) (by omega), Nat.pow_succ]
   simp -dsimp only [go_sem, hw6, hw1, hw7, cC]
   exact ⟨⟨j + 1, hlt⟩, by simp [Vs.LeL, Vs.look, Vs.hlook, Vs.sput, Vs.sputs, Vs.hset, Vs.hputs], by simp only; omega⟩
  ·have hge : j = i := by
    rcases Nat.lt_or_ge j i with h | h
    ·have hgj2 := geo0_mono l.length (show j + 1 ≤ i from h)
     have := of_decide_eq_false hc; omega
    ·omega
   subst hge
   have hsub : geo0 l.length j + q - geo0 l.length j = q := by omega
   simp -dsimp only [go_sem, hsub, cC]
   refine ⟨?_, fun h => h rfl⟩
   refine ⟨⟨by omega, by omega⟩, ?_⟩
   refine LoopK.at (drawn_ok Tryz.mixed) (X := { m : Nat // m ≤ j }) (fun m => [(1, .v (.int .i64 (q % l.length ^ (j - m.1) : Nat))), (7, .v (.int .i64 (l.length ^ (j - m.1) : Nat))), (8, .loc (.t 8 0) 0 (atD l m.1 (q / l.length ^ (j - m.1))).length), (9, .v (.int .i64 m.1))]) (fun m => [(.t 8 0, .arr 1 (E cC (atD l m.1 (q / l.length ^ (j - m.1)))) false)]) (fun m => j - m.1) ⟨0, by omega⟩ ?_ ?_
   ·simp [Vs.LeL, Vs.look, Vs.hlook, Vs.sput, Vs.sputs, Vs.hset, Vs.hputs, atD, Vs.E, Nat.mod_eq_of_lt hq]
   ·rintro ⟨m, hm⟩
    simp -dsimp only [go_sem, cC]
    refine Br.mk (fun hc => ?_) fun hc => ?_
    ·have hlt : m < j := by have := of_decide_eq_true hc; omega
     obtain ⟨u, hu⟩ : ∃ u, j - m = u + 1 := ⟨j - m - 1, by omega⟩
     have hu2 : j - (m + 1) = u := by omega
     have hb1 := hp (u + 1) (by omega)
     have hb2 := hp u (by omega)
     have hp0 : 0 < l.length ^ u := Nat.pow_pos h1
     have hn0 : ¬ ((l.length : Int) = 0) := by omega
     have hm0 : ¬ (((l.length ^ u : Nat) : Int) = 0) := by omega
     have hw9 : IntKind.i64.wrap ((m : Int) + 1) = ((m + 1 : Nat) : Int) := by rw [wrap_in (by omega) (by omega)]; omega
     have e7 : IntKind.i64.wrap (((l.length ^ (u + 1) : Nat) : Int).tdiv (l.length : Int)) = ((l.length ^ u : Nat) : Int) := by
      rw [← Int.ofNat_tdiv, dig4 u h1, wrap_in (by omega) (by omega)]
     have hr : q % l.length ^ (u + 1) < l.length ^ (u + 1) := Nat.mod_lt _ (Nat.pow_pos h1)
     have hdl : q / l.length ^ u % l.length < l.length := Nat.mod_lt _ h1
     have ei : IntKind.i64.wrap (((q % l.length ^ (u + 1) : Nat) : Int).tdiv ((l.length ^ u : Nat) : Int)) = ((q / l.length ^ u % l.length : Nat) : Int) := by
      rw [← Int.ofNat_tdiv, dig, wrap_in (by omega) (by omega)]
     have e1 : ((q % l.length ^ (u + 1) : Nat) : Int).tmod ((l.length ^ u : Nat) : Int) = ((q % l.length ^ u : Nat) : Int) := by
      rw [← Int.ofNat_tmod, dig2]
     have hm2 : (E cC l).getD (q / l.length ^ u % l.length) [] = [.sl 1 (E cI (l.getD (q / l.length ^ u % l.length) []))] := by rw [E_get hdl]; simp [cC, hdl]
     have hsm : (l.getD (q / l.length ^ u % l.length) []).length ≤ 1048576 := by
      rw [List.getD_eq_getElem?_getD, List.getElem?_eq_getElem hdl]
      exact hk.2 _ (List.getElem_mem hdl)
     have ha : E cC (atD l m (q / l.length ^ (u + 1))) ++ [[.sl 1 (E cI (l.getD (q / l.length ^ u % l.length) []))]] = E cC (atD l (m + 1) (q / l.length ^ u)) := by
      rw [atD, dig3, E_append]; rfl
     have hlen := (atD_mem l h1 m (q / l.length ^ (u + 1))).1
     have hlen2 := (atD_mem l h1 (m + 1) (q / l.length ^ u)).1
     have hO := l02Own (l.getD (q / l.length ^ u % l.length) []) hsm
     generalize hdd : q / l.length ^ u % l.length = dd at *
     simp only [hu]
     repeat' first
      |simp -dsimp only [go_sem, hw9, e7, ei, e1, hm2, hlen, ha, cC]
      |refine Br.mk ?_ ?_<;>intro h<;>try simp -dsimp only[h]
      |refine CallK.c (by first|exact hO) ?_
      |refine and_c ?_
      |fail
     all_goals first | omega | (exact ⟨⟨m + 1, hlt⟩, by simp [Vs.LeL, Vs.look, Vs.hlook, Vs.sput, Vs.sputs, Vs.hset, Vs.hputs, hu2, hlen, hlen2, ha], by simp only; omega⟩)
    ·have hge : m = j := by have := of_decide_eq_false hc; omega
     subst hge
     have hlen := (atD_mem l h1 m q).1
     simp -dsimp only [go_sem, Nat.sub_self, Nat.pow_zero, Nat.div_one, hlen, cC]
     have k1 : (E cC (atD l m q)).take m = E cC (atD l m q) := List.take_of_length_le (by simp [E_len, hlen])
     simp only [k1]
     first | exact ⟨⟨_, _, rfl, rfl⟩, fun h => h rfl⟩
end
section
attribute [local irreducible] Vs.Fn stpB wO stC run rsB rsL evC evV spcB deckB agB atD allD geo geo0 dfB chOK areCh chTo chAt l03 chB rk cd3 chI stp stpTo
attribute [local go_sem] Int.reduceBEq Int.reduceBNe cO cFd E_len List.replicate_succ List.replicate_zero List.flatten_cons List.flatten_nil List.cons_append List.nil_append List.set_cons_zero List.set_cons_succ List.length_cons List.length_nil List.length_set List.mem_singleton List.mem_cons List.not_mem_nil or_false false_or Vs.Name.t.injEq List.getD_cons_zero List.getD_cons_succ Vs.Name.b.injEq List.getElem?_cons_zero List.getElem?_cons_succ
theorem selN_pos (p : Nat → Bool) : ∀ i y, y ∈ selN p i → 0 ≤ y
 | 0, y, h => by cases h
 | i + 1, y, h => by
  rcases List.mem_append.1 h with h | h
  ·exact selN_pos p i y h
  ·cases hp : p i
   ·rw [hp] at h; simp at h
   ·rw [hp] at h
    have : y = i := by simpa using h
    omega
theorem sizeD (l : List (List (List Int))) : Fz F.i_size__i_Card_ [.sl 1 (E cD l)] (.v (.int .i64 l.length)) := by
 refine fn0 Cd.i_size__i_Card__k fun X => ?_
 repeat' first
  |simp -dsimp only [go_sem]
  |refine Br.mk ?_ ?_<;>intro h<;>try simp -dsimp only[h]
  |refine and_c ?_
  |fail
 all_goals (simp_all)
theorem dec_at {l : List (List Int)} (hk : smallC l) (hd : deckB l = true) (h1 : 0 < l.length) {n : Nat} (hn : n ≤ 3) {k : Nat} (h : k < geo l.length n) : ∃ i q, i ≤ 3 ∧ q < l.length ^ i ∧ k = geo0 l.length i + q ∧ (allD l n).getD k [] = atD l i q ∧ deckB (atD l i q) = true ∧ smallC (atD l i q) := by
 obtain ⟨i, q, g1, g2, g3⟩ := geo_split l.length n k h
 obtain ⟨d1, d2⟩ := atD_deck hd hk h1 i q (by omega)
 refine ⟨i, q, by omega, g2, g3, ?_, d1, d2⟩
 rw [List.getD_eq_getElem?_getD, g3, allD_at l h1 n i q g1 g2]
 rfl
theorem diff1 (fl : List Stp) (hz : ∀ x, x ∈ fl → x.text.size ≤ 1048576) (hl : fl.length ≤ 1048576) (x : Spc) (hx : x.text.size ≤ 1048576) (l : List (List Int)) (hk : smallC l) (hd : deckB l = true) (h1 : 0 < l.length) (h5 : l.length ≤ 5) (n : Nat) (hn : n ≤ 3) (k : Nat) (h : k < geo l.length n) : Fz F.i_differences_1 [.v (.int .i64 k), .ro [.sl 9 (E cS fl)], .ro (cP x), .ro [.sl 1 (E cD (allD l n))]] (.v (.bool (dfB fl x l n k))) := by
 obtain ⟨i, q, g1, g2, g3, g4, d1, d2⟩ := dec_at hk hd h1 hn h
 have hlt : k < (allD l n).length := by rw [allD_length]; exact h
 have hm : (E cD (allD l n)).getD k [] = [.sl 1 (E cC (atD l i q))] := by
  rw [cD_get hlt, ← g4]; simp [List.getD, hlt]
 have hlD : (allD l n).length = geo l.length n := allD_length l n
 have AG := agrees fl hz hl x hx (atD l i q) d2 d1
 have hb : dfB fl x l n k = !agB fl x (atD l i q) := by unfold dfB; rw [g4]
 rw [hb]
 refine fn0 Cd.i_differences_1_k fun X => ?_
 repeat' first
  |simp -dsimp only [go_sem, hm, hlD, cC, cS, cP]
  |refine Br.mk ?_ ?_<;>intro h<;>try simp -dsimp only[h]
  |refine CallK.c (by first|exact AG) ?_
  |refine and_c ?_
  |fail
 all_goals first | omega | exact ⟨_, _, rfl, rfl⟩ | (refine ret_eq ?_; simp; done)
attribute [local go_sem] cC cS cP in
theorem colsN (p : Nat → Bool) (N : Nat) (hN : N ≤ 4000) (g : FuncId) (c1 c2 c3 : List AV) (hp : ∀ i : Nat, i < N → Vs.Fn Tryz.prog g [] [.v (.int .i64 i), .ro c1, .ro c2, .ro c3] (.v (.bool (p i))) []) :
  Fz F.i_columnsWhere [.v (.int .i64 N), .fn g [.ro c1, .ro c2, .ro c3]] (.sl 1 (E cI (selN p N))) := by
 refine fn0 Cd.i_columnsWhere_k fun X => ?_
 simp -dsimp only [go_sem]
 refine ⟨⟨by omega, by omega⟩, ?_⟩
 refine LoopK.at (drawn_ok Tryz.mixed) (X := { zz : Nat × (Unit) // zz.1 ≤ N ∧ True }) (fun zz => [(5, .loc (.t 5 0) 0 (selN p zz.1.1).length), (9, .v (.int .i64 zz.1.1))]) (fun zz => [(.t 5 0, .arr 1 (E cI (selN p zz.1.1)) false)]) (fun zz => N - zz.1.1) ⟨(0, ()), by omega, trivial⟩ ?_ ?_
 ·simp [Vs.LeL, Vs.look, Vs.hlook, Vs.sput, Vs.sputs, Vs.hset, Vs.hputs, selN, Vs.E]
 ·rintro ⟨⟨i, _⟩, hi, hg⟩
  dsimp only at hi hg
  simp -dsimp only [go_sem]
  refine Br.mk (fun hc => ?_) fun hc => ?_
  ·have hlt : i < N := Dq
   have hw : IntKind.i64.wrap ((i : Int) + 1) = ((i + 1 : Nat) : Int) := by rw [wrap_in (by omega) (by omega)]; omega
   have hsl := selN_len p i
   have PI := hp i hlt
   have hap : E cI (selN p i) ++ [[.v (.int .i64 (i : Int))]] = E cI (selN p i ++ [(i : Int)]) := by rw [E_append]; rfl
   cases hb : p i
   ·rw [hb] at PI
    have hs : selN p (i + 1) = selN p i := by simp [selN, hb]
    repeat' first
     |simp -dsimp only [go_sem, hw, hap]
     |refine Br.mk ?_ ?_<;>intro h<;>try simp -dsimp only[h]
     |refine CallK.c (by first|exact PI) ?_
     |refine and_c ?_
     |fail
    all_goals first | omega | (exact nx (i + 1, ()) trivial (h2 := by simp [Vs.LeL, Vs.look, Vs.hlook, Vs.sput, Vs.sputs, Vs.hset, Vs.hputs, hs]))
   ·rw [hb] at PI
    have hs : selN p (i + 1) = selN p i ++ [(i : Int)] := by simp [selN, hb]
    repeat' first
     |simp -dsimp only [go_sem, hw, hap]
     |refine Br.mk ?_ ?_<;>intro h<;>try simp -dsimp only[h]
     |refine CallK.c (by first|exact PI) ?_
     |refine and_c ?_
     |fail
    all_goals first | omega | (exact nx (i + 1, ()) trivial (h2 := by simp [Vs.LeL, Vs.look, Vs.hlook, Vs.sput, Vs.sputs, Vs.hset, Vs.hputs, hs]))
  ·have hge : i = N := by
    have : ¬ i < N := Dq
    omega
   subst hge
   simp -dsimp only [go_sem]
   have k1 : (E cI (selN p i)).take (selN p i).length = E cI (selN p i) := List.take_of_length_le (by rw [E_len]; exact Nat.le_refl _)
   try simp only [k1]
   first | exact ⟨⟨_, _, rfl, rfl⟩, fun h => h rfl⟩
def dfV (fl : List Stp) (x : Spc) (l : List (List Int)) (n : Int) : AV := if dfC fl x l n = 0 then .sl 1 (E cI (dfL fl x l n.toNat)) else .v (.slice none 0 0)
theorem impl_differences (fl : List Stp) (hz : ∀ x, x ∈ fl → x.text.size ≤ 1048576) (hl : fl.length ≤ 1048576) (x : Spc) (hx : x.text.size ≤ 1048576) (l : List (List Int)) (hk : smallC l) (n : Int) : Fz F.i_differences [.sl 9 (E cS fl), .agg (cP x), .sl 1 (E cC l), .v (.int .i64 n)] (.tup [dfV fl x l n, .v (.int .i64 (dfC fl x l n))]) := by
 have SC := sampleCode l n hk.2 hk.1
 have WD := deckColumns l
 have VF := impl_ValidFlow fl (widB l) hz hl
 have VS := impl_ValidSpec x (widB l) hx
 unfold dfV
 by_cases h0 : codeI l n = 0
 ·obtain ⟨hd, h1, h5, k, rfl, h3⟩ := codeI_0 h0
  rw [wid_in hd, Bool.true_and] at VF VS
  rw [show (fl.all (fun x => stpB x (widB l)) && decide ((fl.length : Int) ≤ 20)) = flwB fl (widB l) from rfl] at VF
  have hC : dfC fl x l k = if flwB fl (widB l) && spcB x (widB l) then 0 else 2 := by unfold dfC; rw [if_pos h0]
  rw [h0] at SC
  cases hf : flwB fl (widB l)
  ·rw [hf] at VF hC
   rw [show dfC fl x l k = 2 from by rw [hC]; rfl]
   refine fn0 Cd.i_differences_k fun X => ?_
   repeat' first
    |simp -dsimp only [go_sem, cC, cS, cP]
    |refine Br.mk ?_ ?_<;>intro h<;>try simp -dsimp only[h]
    |refine CallK.c (by first|exact SC|exact WD|exact VF|exact VS) ?_
    |refine and_c ?_
    |fail
   all_goals first | omega | exact ⟨_, _, rfl, rfl⟩ | (refine ret_eq ?_; simp; done)
  rw [hf] at VF hC
  cases hs : spcB x (widB l)
  ·rw [hs] at VS hC
   rw [show dfC fl x l k = 2 from by rw [hC]; rfl]
   refine fn0 Cd.i_differences_k fun X => ?_
   repeat' first
    |simp -dsimp only [go_sem, cC, cS, cP]
    |refine Br.mk ?_ ?_<;>intro h<;>try simp -dsimp only[h]
    |refine CallK.c (by first|exact SC|exact WD|exact VF|exact VS) ?_
    |refine and_c ?_
    |fail
   all_goals first | omega | exact ⟨_, _, rfl, rfl⟩ | (refine ret_eq ?_; simp; done)
  rw [hs] at VS hC
  rw [show dfC fl x l k = 0 from by rw [hC]; rfl]
  have DO := decksOf l k hk.2 h5 h3
  have SZ := sizeD (allD l k)
  rw [allD_length] at SZ
  have hg : geo l.length k ≤ 4000 := by have := geo_le l.length h5 k h3; omega
  have CW := colsN (dfB fl x l k) (geo l.length k) hg F.i_differences_1 [.sl 9 (E cS fl)] (cP x) [.sl 1 (E cD (allD l k))] (fun i hi => diff1 fl hz hl x hx l hk hd h1 h5 k h3 i hi)
  simp only [if_true, Int.toNat_natCast]
  rw [show dfL fl x l k = selN (dfB fl x l k) (geo l.length k) from rfl]
  refine fn0 Cd.i_differences_k fun X => ?_
  repeat' first
   |simp -dsimp only [go_sem, cC, cS, cP]
   |refine Br.mk ?_ ?_<;>intro h<;>try simp -dsimp only[h]
   |refine CallK.c (by first|exact SC|exact WD|exact VF|exact VS|exact DO|exact SZ|exact CW) ?_
   |refine and_c ?_
   |fail
  all_goals first | omega | exact ⟨_, _, rfl, rfl⟩ | (refine ret_eq ?_; simp; done)
 ·have e1 : (codeI l n != 0) = true := by simp [h0]
  have hC : dfC fl x l n = codeI l n := by unfold dfC; rw [if_neg h0]
  rw [hC, if_neg h0]
  refine fn0 Cd.i_differences_k fun X => ?_
  simp -dsimp only [go_sem, cC, cS, cP]
  repeat' first
   |simp -dsimp only [go_sem, e1, cC, cS, cP]
   |refine Br.mk ?_ ?_<;>intro h<;>try simp -dsimp only[h]
   |refine CallK.c (by first|exact SC) ?_
   |refine and_c ?_
   |fail
  all_goals first | omega | exact ⟨_, _, rfl, rfl⟩ | (refine ret_eq ?_; simp; done)
theorem l17All (fl : List Stp) (hz : ∀ x, x ∈ fl → x.text.size ≤ 1048576) (hl : fl.length ≤ 1048576) (x : Spc) (hx : x.text.size ≤ 1048576) (l : List (List Int)) (hk : smallC l) (n : Int) : Fz F.s_l17All [.sl 9 (E cS fl), .ro (cP x), .sl 1 (E cC l), .v (.int .i64 n)] (.v (.int .i64 (dfC fl x l n))) := by
 have SC := l17Code l n hk.2 hk.1
 have WD := l07Width l
 have VF := l15Flow fl (widB l) hz hl
 have VS := l16Ok x (widB l) hx
 rw [show (fl.all (fun x => stpB x (widB l)) && decide ((fl.length : Int) ≤ 20)) = flwB fl (widB l) from rfl] at VF
 by_cases h0 : codeI l n = 0
 ·have hC : dfC fl x l n = if flwB fl (widB l) && spcB x (widB l) then 0 else 2 := by unfold dfC; rw [if_pos h0]
  rw [h0] at SC
  rw [hC]
  cases hf : flwB fl (widB l)
  ·rw [hf] at VF
   simp only [Bool.false_and, Bool.false_eq_true, if_false]
   refine fn0 Cd.s_l17All_k fun X => ?_
   repeat' first
    |simp -dsimp only [go_sem, cC, cS, cP]
    |refine Br.mk ?_ ?_<;>intro h<;>try simp -dsimp only[h]
    |refine CallK.c (by first|exact SC|exact WD|exact VF|exact VS) ?_
    |refine and_c ?_
    |fail
   all_goals first | omega | exact ⟨_, _, rfl, rfl⟩ | (refine ret_eq ?_; simp; done)
  rw [hf] at VF
  cases hs : spcB x (widB l)
  ·rw [hs] at VS
   simp only [Bool.true_and, Bool.false_eq_true, if_false]
   refine fn0 Cd.s_l17All_k fun X => ?_
   repeat' first
    |simp -dsimp only [go_sem, cC, cS, cP]
    |refine Br.mk ?_ ?_<;>intro h<;>try simp -dsimp only[h]
    |refine CallK.c (by first|exact SC|exact WD|exact VF|exact VS) ?_
    |refine and_c ?_
    |fail
   all_goals first | omega | exact ⟨_, _, rfl, rfl⟩ | (refine ret_eq ?_; simp; done)
  rw [hs] at VS
  simp only [Bool.true_and, if_true]
  refine fn0 Cd.s_l17All_k fun X => ?_
  repeat' first
   |simp -dsimp only [go_sem, cC, cS, cP]
   |refine Br.mk ?_ ?_<;>intro h<;>try simp -dsimp only[h]
   |refine CallK.c (by first|exact SC|exact WD|exact VF|exact VS) ?_
   |refine and_c ?_
   |fail
  all_goals first | omega | exact ⟨_, _, rfl, rfl⟩ | (refine ret_eq ?_; simp; done)
 ·have e1 : (codeI l n != 0) = true := by simp [h0]
  have hC : dfC fl x l n = codeI l n := by unfold dfC; rw [if_neg h0]
  rw [hC]
  refine fn0 Cd.s_l17All_k fun X => ?_
  simp -dsimp only [go_sem, cC, cS, cP]
  repeat' first
   |simp -dsimp only [go_sem, e1, cC, cS, cP]
   |refine Br.mk ?_ ?_<;>intro h<;>try simp -dsimp only[h]
   |refine CallK.c (by first|exact SC) ?_
   |refine and_c ?_
   |fail
  all_goals first | omega | exact ⟨_, _, rfl, rfl⟩ | (refine ret_eq ?_; simp; done)
def hdI (l : List Int) : Int := match l with
 | [] => -1
 | y :: _ => y
theorem l17Differences (fl : List Stp) (hz : ∀ x, x ∈ fl → x.text.size ≤ 1048576) (hl : fl.length ≤ 1048576) (x : Spc) (hx : x.text.size ≤ 1048576) (l : List (List Int)) (hk : smallC l) (hd : deckB l = true) (h1 : 0 < l.length) (h5 : l.length ≤ 5) (n : Nat) (hn : n ≤ 3) : Fz F.s_l17Differences [.sl 9 (E cS fl), .ro (cP x), .sl 1 (E cC l), .v (.int .i64 n)] (.tup [.v (.int .i64 (dfL fl x l n).length), .v (.int .i64 (hdI (dfL fl x l n)))]) := by
 have CN := l17Count l.length n h5 hn
 have hg4 : geo l.length n ≤ 4000 := by have := geo_le l.length h5 n hn; omega
 refine fn0 Cd.s_l17Differences_k fun X => ?_
 simp -dsimp only [go_sem, cC, cS, cP]
 refine CallK.flat CN rfl ?_
 simp -dsimp only [go_sem, cC, cS, cP]
 refine LoopK.at (drawn_ok Tryz.mixed) (X := { zz : Nat × (Unit) // zz.1 ≤ geo l.length n ∧ True }) (fun zz => [(10, .v (.int .i64 (selN (dfB fl x l n) zz.1.1).length)), (11, .v (.int .i64 (hdI (selN (dfB fl x l n) zz.1.1)))), (13, .v (.int .i64 zz.1.1))]) (fun zz => []) (fun zz => geo l.length n - zz.1.1) ⟨(0, ()), by omega, trivial⟩ ?_ ?_
 ·simp [Vs.LeL, Vs.look, Vs.hlook, Vs.sput, Vs.sputs, Vs.hset, Vs.hputs, selN, hdI]
 ·rintro ⟨⟨i, _⟩, hi, hg⟩
  dsimp only at hi hg
  simp -dsimp only [go_sem, cC, cS, cP]
  refine Br.mk (fun hc => ?_) fun hc => ?_
  ·have hlt : i < geo l.length n := Dq
   have hw : IntKind.i64.wrap ((i : Int) + 1) = ((i + 1 : Nat) : Int) := by rw [wrap_in (by omega) (by omega)]; omega
   have hsl := selN_len (dfB fl x l n) i
   obtain ⟨a, q, g1, g2, g3, g4, d1, d2⟩ := dec_at hk hd h1 hn hlt
   have AT := l17At l hk h1 h5 a q g1 g2
   rw [← g3] at AT
   have AG := l17Agrees fl hz hl x hx (atD l a q) d2 d1
   have hb : dfB fl x l n i = !agB fl x (atD l a q) := by unfold dfB; rw [g4]
   cases hv : agB fl x (atD l a q)
   ·rw [hv] at hb AG
    have hs : selN (dfB fl x l n) (i + 1) = selN (dfB fl x l n) i ++ [(i : Int)] := by simp only [selN, hb]; rfl
    have hw2 : IntKind.i64.wrap (((selN (dfB fl x l n) i).length : Int) + 1) = (((selN (dfB fl x l n) i).length + 1 : Nat) : Int) := by rw [wrap_in (by omega) (by omega)]; omega
    have hpos := selN_pos (dfB fl x l n) i
    have hs3 : (selN (dfB fl x l n) (i + 1)).length = (selN (dfB fl x l n) i).length + 1 := by rw [hs]; simp
    by_cases hq : selN (dfB fl x l n) i = []
    ·have hf0 : decide (hdI (selN (dfB fl x l n) i) < 0) = true := by rw [hq]; rfl
     have hs2 : hdI (selN (dfB fl x l n) (i + 1)) = i := by rw [hs, hq]; rfl
     generalize selN (dfB fl x l n) i = s1 at *
     repeat' first
      |simp -dsimp only [go_sem, hw, hw2, hf0, cC, cS, cP]
      |refine Br.mk ?_ ?_<;>intro h<;>try simp -dsimp only[h]
      |refine CallK.c (by first|exact AT|exact AG) ?_
      |refine and_c ?_
      |fail
     all_goals first | omega | (exact nx (i + 1, ()) trivial (h2 := by simp [Vs.LeL, Vs.look, Vs.hlook, Vs.sput, Vs.sputs, Vs.hset, Vs.hputs, hs2, hs3]))
    ·have hf0 : decide (hdI (selN (dfB fl x l n) i) < 0) = false := by
      cases hq2 : selN (dfB fl x l n) i with
      | nil => exact absurd hq2 hq
      | cons y r => exact decide_eq_false (by have := hpos y (by rw [hq2]; simp); simp only [hdI]; omega)
     have hs2 : hdI (selN (dfB fl x l n) (i + 1)) = hdI (selN (dfB fl x l n) i) := by
      rw [hs]
      cases hq2 : selN (dfB fl x l n) i with
      | nil => exact absurd hq2 hq
      | cons y r => rfl
     generalize selN (dfB fl x l n) i = s1 at *
     repeat' first
      |simp -dsimp only [go_sem, hw, hw2, hf0, cC, cS, cP]
      |refine Br.mk ?_ ?_<;>intro h<;>try simp -dsimp only[h]
      |refine CallK.c (by first|exact AT|exact AG) ?_
      |refine and_c ?_
      |fail
     all_goals first | omega | (exact nx (i + 1, ()) trivial (h2 := by simp [Vs.LeL, Vs.look, Vs.hlook, Vs.sput, Vs.sputs, Vs.hset, Vs.hputs, hs2, hs3]))
   ·rw [hv] at hb AG
    have hs : selN (dfB fl x l n) (i + 1) = selN (dfB fl x l n) i := by simp only [selN, hb]; simp
    have hs2 : hdI (selN (dfB fl x l n) (i + 1)) = hdI (selN (dfB fl x l n) i) := by rw [hs]
    have hs3 : (selN (dfB fl x l n) (i + 1)).length = (selN (dfB fl x l n) i).length := by rw [hs]
    repeat' first
     |simp -dsimp only [go_sem, hw, cC, cS, cP]
     |refine Br.mk ?_ ?_<;>intro h<;>try simp -dsimp only[h]
     |refine CallK.c (by first|exact AT|exact AG) ?_
     |refine and_c ?_
     |fail
    all_goals try refine And.intro ?_ (fun h => absurd rfl h)
    all_goals first | omega | (exact nx (i + 1, ()) trivial (h2 := by simp [Vs.LeL, Vs.look, Vs.hlook, Vs.sput, Vs.sputs, Vs.hset, Vs.hputs, hs2, hs3]))
  ·have hge : i = geo l.length n := by
    have : ¬ i < geo l.length n := Dq
    omega
   subst hge
   simp -dsimp only [go_sem, cC, cS, cP]
   rw [show dfL fl x l n = selN (dfB fl x l n) (geo l.length n) from rfl]
   first | (simp; done) | exact ⟨⟨_, _, rfl, rfl⟩, fun h => h rfl⟩ | exact ⟨_, _, rfl, rfl⟩
theorem dfL_pos {fl : List Stp} {x : Spc} {l : List (List Int)} {n : Nat} {y : Int} {r : List Int} (h : dfL fl x l n = y :: r) : 0 ≤ y := selN_pos (dfB fl x l n) (geo l.length n) y (by rw [show selN (dfB fl x l n) (geo l.length n) = y :: r from h]; simp)
end
end Go.Proofs.YtmfjbgjeljhcaaaGreat
