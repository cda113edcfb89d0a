/- Merging: the program and the reference. -/
import Derived.Test.YtmfjbgjeljhcaaaGreatZwSw
import Derived.Test.YtmfjbgjeljhcaaaGreatZwSm
import Derived.Test.YtmfjbgjeljhcaaaGreatZwSh
import Derived.Test.YtmfjbgjeljhcaaaGreatZwC
import Derived.Test.YtmfjbgjeljhcaaaGreatZuR
import Derived.Test.YtmfjbgjeljhcaaaGreatZwSq
set_option linter.unusedSimpArgs false
set_option linter.unusedVariables false
set_option maxHeartbeats 8000000
namespace Go.Proofs.YtmfjbgjeljhcaaaGreat
open Go.Vs
section
attribute [local irreducible] Vs.Fn pun cmT zR chOK areCh chTo chAt l03 chB rk cd3 chI stp stpTo
theorem cfL_mem {x : Spc} {l : List (List Int)} : ∀ c, c ∈ cfL x l → c ∈ l := by
 intro c hc
 unfold cfL at hc
 split at hc
 ·exact hc
 ·exact (List.mem_filter.1 hc).1
theorem cfL_len (x : Spc) (l : List (List Int)) : (cfL x l).length ≤ l.length := by
 unfold cfL
 split
 ·exact Nat.le_refl _
 ·exact flt_len ..
theorem okP_of {l : List (List Int)} {fr to : Int} (hd : deckB l = true) (hn : numB fr to (widB l) = true) : ∀ c, c ∈ l → okP fr to c := by
 intro c hc
 unfold numB at hn
 rw [Bool.and_eq_true] at hn
 obtain ⟨h0, h1, h2, h3⟩ := okF_of hd hn.1 c hc
 have hw := hn.2
 rw [show W (to - fr) = to - fr from wrap_in (by omega) (by omega)] at hw
 simp only [deckB, Bool.and_eq_true, List.all_eq_true, decide_eq_true_eq] at hd
 obtain ⟨hcb, hcl⟩ := hd.1 c hc
 simp only [cardB, inB, Bool.and_eq_true, List.all_eq_true, decide_eq_true_eq] at hcb
 exact ⟨h0, h1, h2, by simpa using hw, h3, fun y hy => hcb.1 y hy⟩
theorem srtL_mem {fr to : Int} {l : List (List Int)} (ho : ∀ c, c ∈ l → okF fr to c) (hl : l.length ≤ 40) : ∀ c, c ∈ srtL fr to l → c ∈ l := by
 intro c hc
 obtain ⟨i, hi, rfl⟩ := List.mem_map.1 hc
 exact mem_get (ordL_in ho hl i hi)
theorem srtL_len (fr to : Int) (l : List (List Int)) : (srtL fr to l).length = l.length := by unfold srtL; rw [List.length_map, ordL_len]
def evC (x : Spc) (l : List (List Int)) : Int := if cfC x l = 0 then (if allCh x.g0 x.g1 (cfL x l) then (if totB x.g0 x.g1 x.s0 x.s1 (srtL x.g0 x.g1 (cfL x l)) then 0 else 8) else 8) else cfC x l
def evV (x : Spc) (l : List (List Int)) : AV := if cfC x l = 0 then (if allCh x.g0 x.g1 (cfL x l) then totV x.g0 x.g1 x.s0 x.s1 (srtL x.g0 x.g1 (cfL x l)) else .v (.slice none 0 0)) else .v (.slice none 0 0)
theorem cfC_ok {x : Spc} {l : List (List Int)} (h : cfC x l = 0) : deckB l = true ∧ fldB x.g0 x.g1 (widB l) = true ∧ numB x.s0 x.s1 (widB l) = true := by
 unfold cfC at h
 cases hd : deckB l
 ·simp [hd] at h
 ·cases hv : (inB (widB l) 1 20 && spcB x (widB l))
  ·rw [hd, hv] at h; simp at h
  ·rw [Bool.and_eq_true] at hv
   have h2 := hv.2
   unfold spcB at h2
   rw [Bool.and_eq_true, Bool.and_eq_true] at h2
   exact ⟨rfl, h2.1, h2.2.1⟩
attribute [local go_sem] cFd List.replicate_succ List.replicate_zero List.flatten_cons List.flatten_nil List.cons_append List.nil_append List.set_cons_zero List.set_cons_succ List.length_cons List.length_nil List.length_set in
theorem impl_EvalSpec (x : Spc) (l : List (List Int)) (hk : smallC l) (hz : x.text.size ≤ 1048576) : Fz F.i_EvalSpec [.agg (cP x), .sl 1 (E cC l)] (.tup [evV x l, .v (.int .i64 (evC x l))]) := by
 have CF := cardsFor x l hk hz
 by_cases h0 : cfC x l = 0
 ·obtain ⟨hd, hf, hn⟩ := cfC_ok h0
  have h40 := deck_40 hd
  have hml := cfL_mem (x := x) (l := l)
  have hll := cfL_len x l
  have hof : ∀ c, c ∈ cfL x l → okF x.g0 x.g1 c := fun c hc => okF_of hd hf c (hml c hc)
  have hop : ∀ c, c ∈ cfL x l → okP x.s0 x.s1 c := fun c hc => okP_of hd hn c (hml c hc)
  have HF := haveField (cfL x l) x.g0 x.g1 hof (by omega)
  have SB := sortedBy (cfL x l) x.g0 x.g1 hof (by omega)
  have hsm := srtL_mem hof (by omega : (cfL x l).length ≤ 40)
  have hsl := srtL_len x.g0 x.g1 (cfL x l)
  have TO := totalsOf (srtL x.g0 x.g1 (cfL x l)) x.g0 x.g1 x.s0 x.s1 (fun c hc => hof c (hsm c hc)) (fun c hc => hop c (hsm c hc)) (by omega)
  rw [show cfV x l = .sl 1 (E cC (cfL x l)) by simp [cfV, h0], h0] at CF
  cases ha : allCh x.g0 x.g1 (cfL x l)
  ·rw [ha] at HF
   rw [show evC x l = 8 by simp [evC, h0, ha], show evV x l = .v (.slice none 0 0) by simp [evV, h0, ha]]
   refine fn0 Cd.i_EvalSpec_k fun X => ?_
   repeat' first
    |simp -dsimp only [go_sem, cC, cP]
    |refine Br.mk ?_ ?_<;>intro h<;>try simp -dsimp only[h]
    |refine CallK.c (by first|exact CF|exact HF) ?_
    |refine and_c ?_
    |fail
   all_goals first | exact ⟨_, _, rfl, rfl⟩
  ·rw [ha] at HF
   rw [show evC x l = (if totB x.g0 x.g1 x.s0 x.s1 (srtL x.g0 x.g1 (cfL x l)) then 0 else 8) by simp [evC, h0, ha], show evV x l = totV x.g0 x.g1 x.s0 x.s1 (srtL x.g0 x.g1 (cfL x l)) by simp [evV, h0, ha]]
   generalize (if totB x.g0 x.g1 x.s0 x.s1 (srtL x.g0 x.g1 (cfL x l)) then (0 : Int) else 8) = c at *
   have hv2 : totV x.g0 x.g1 x.s0 x.s1 (srtL x.g0 x.g1 (cfL x l)) = .sl 2 (E cTt (totL x.g0 x.g1 x.s0 x.s1 (srtL x.g0 x.g1 (cfL x l)))) ∨ totV x.g0 x.g1 x.s0 x.s1 (srtL x.g0 x.g1 (cfL x l)) = .v (.slice none 0 0) := by unfold totV; split <;> simp
   rcases hv2 with hv2 | hv2 <;> rw [hv2] at TO ⊢
   all_goals
    refine fn0 Cd.i_EvalSpec_k fun X => ?_
    repeat' first
     |simp -dsimp only [go_sem, cC, cP]
     |refine Br.mk ?_ ?_<;>intro h<;>try simp -dsimp only[h]
     |refine CallK.c (by first|exact CF|exact HF|exact SB|exact TO) ?_
     |refine and_c ?_
     |fail
    all_goals first | exact ⟨_, _, rfl, rfl⟩
 ·have e0 : (cfC x l != 0) = true := by simp [h0]
  rw [show evC x l = cfC x l by simp [evC, h0], show evV x l = .v (.slice none 0 0) by simp [evV, h0]]
  rw [show cfV x l = .v (.slice none 0 0) by simp [cfV, h0]] at CF
  generalize cfC x l = c at *
  refine fn0 Cd.i_EvalSpec_k fun X => ?_
  repeat' first
   |simp -dsimp only [go_sem, cC, cP, e0]
   |refine Br.mk ?_ ?_<;>intro h<;>try simp -dsimp only[h]
   |refine CallK.c (by first|exact CF) ?_
   |refine and_c ?_
   |fail
  all_goals first | exact ⟨_, _, rfl, rfl⟩
end
section
attribute [local irreducible] Vs.Fn chOK areCh chTo chAt l03 chB rk cd3 chI stp stpTo
attribute [local go_sem] cFd E_len List.replicate_succ List.replicate_zero List.flatten_cons List.flatten_nil List.cons_append List.nil_append List.set_cons_zero List.set_cons_succ List.length_cons List.length_nil List.length_set in
theorem l02Copy (l : List (List Int)) (hk : smallC l) : Fz F.s_l02Copy [.sl 1 (E cC l)] (.sl 1 (E cC l)) := by
 refine fn0 Cd.s_l02Copy_k fun X => ?_
 repeat' first
  |simp -dsimp only [go_sem, cC]
  |refine Br.mk ?_ ?_<;>intro h<;>try simp -dsimp only[h]
  |refine and_c ?_
  |fail
 refine LoopK.at (drawn_ok Tryz.mixed) (X := { zz : Nat × (Unit) // zz.1 ≤ l.length ∧ True }) (fun zz => [(3, .loc (.t 3 0) 0 zz.1.1), (4, .v (.int .i64 zz.1.1))]) (fun zz => [(.t 3 0, .arr 1 (E cC (l.take zz.1.1)) false)]) (fun zz => l.length - zz.1.1) ⟨(0, ()), by omega, trivial⟩ ?_ ?_
 ·simp [Vs.LeL, Vs.look, Vs.hlook, Vs.sput, Vs.sputs, Vs.hset, Vs.hputs, Vs.E]
 ·rintro ⟨⟨i, _⟩, hi, hg⟩
  dsimp only at hi hg
  simp -dsimp only [go_sem, cC]
  refine Br.mk (fun hc => ?_) fun hc => ?_
  ·have hlt : i < l.length := Dq
   have hw := wrap_succ hlt (hk.1)
   have hm : (E cC l).getD i [] = [.sl 1 (E cI l[i])] := E_get hlt
   have NC := l02Own l[i] (hk.2 _ (List.getElem_mem hlt))
   have hap : E cC (l.take i) ++ [[.sl 1 (E cI l[i])]] = E cC (l.take (i + 1)) := by rw [take_succ hlt, E_append]; rfl
   have hal : (E cC (l.take i)).length = i := by rw [E_len]; simp; omega
   have hl := hk.1
   repeat' first
    |simp -dsimp only [go_sem, hm, hw, hap, hal, cC]
    |refine Br.mk ?_ ?_<;>intro h<;>try simp -dsimp only[h]
    |refine CallK.c (by first|exact NC) ?_
    |refine and_c ?_
    |fail
   all_goals first | omega | (exact nx (i + 1, ()) trivial (h2 := by simp [Vs.LeL, Vs.look, Vs.hlook, Vs.sput, Vs.sputs, Vs.hset, Vs.hputs, hap]))
  ·have hge : i = l.length := by
    have : ¬ i < l.length := Dq
    omega
   subst hge
   simp -dsimp only [go_sem, cC]
   have htk : (E cC (l.take l.length)).take l.length = E cC l := by
    rw [List.take_of_length_le (Nat.le_refl l.length)]; exact List.take_of_length_le (by rw [E_len]; exact Nat.le_refl _)
   first | exact ⟨⟨_, _, rfl, rfl⟩, fun h => h rfl⟩ | (rw [htk]; exact ⟨⟨_, _, rfl, rfl⟩, fun h => h rfl⟩) | (simp [htk]; done)
def lcC (x : Spc) (l : List (List Int)) : Int := if deckB l then (if spcB x (widB l) then 0 else 2) else 1
theorem l16Code (x : Spc) (l : List (List Int)) (hk : smallC l) (hz : x.text.size ≤ 1048576) : Fz F.s_l16Code [.ro (cP x), .sl 1 (E cC l)] (.v (.int .i64 (lcC x l))) := by
 refine fn0 Cd.s_l16Code_k fun X => ?_
 repeat' first
  |simp -dsimp only [go_sem, cP]
  |refine Br.mk ?_ ?_<;>intro h<;>try simp -dsimp only[h]
  |refine CallK.c (by first|exact l02Deck l hk.2 hk.1|exact l07Width l|exact l16Ok x _ hz) ?_
  |refine and_c ?_
  |fail
 all_goals (first | (refine ret_eq ?_; simp_all [lcC]; done) | (simp_all [lcC]; done))
end
section
attribute [local irreducible] Vs.Fn chOK areCh chTo chAt l03 chB rk cd3 chI stp stpTo stb ordL mgK mgI skp ascB stF keyC colC
theorem cC_at {l : List (List Int)} {i : Nat} (h : i < l.length) : (E cC l).getD i [] = [.sl 1 (E cI (l.getD i []))] := by rw [E_get h]; simp [cC, List.getD, h]
theorem key_getD {fr to : Int} {l : List (List Int)} {i : Nat} (h : i < l.length) : (E cSt (keyL fr to l)).getD i [] = [.v (.string (txt (fH fr to (l.getD i []))))] := by
 rw [E_get (by simpa [keyL] using h)]; simp [cSt, keyL, List.getD, h]
theorem mem_nat {l : List (List Int)} {i : Nat} (h : i < l.length) : l.getD i [] ∈ l := by rw [show l.getD i [] = l[i] by simp [List.getD, h]]; exact List.getElem_mem h
theorem E_snoc (G : Int → List Int) (p : List Int) (x : Int) : E cC (p.map G) ++ [[.sl 1 (E cI (G x))]] = E cC ((p ++ [x]).map G) := by rw [List.map_append, E_append]; rfl
attribute [local go_sem] cFd cD List.replicate_succ List.replicate_zero List.flatten_cons List.flatten_nil List.cons_append List.nil_append List.set_cons_zero List.set_cons_succ List.length_cons List.length_nil List.length_set E_len in
theorem l09Merge (a b : List (List Int)) (fr to : Int) (ha : smallC a) (hb : smallC b) (oa : ∀ c, c ∈ a → okF fr to c) (ob : ∀ c, c ∈ b → okF fr to c) (ca : allCh fr to a = true) (cb : allCh fr to b = true) (h40 : a.length + b.length ≤ 40) :
  Fz F.s_l09Merge [.sl 1 (E cC a), .sl 1 (E cC b), .sl 1 (E cSt (keyL fr to a)), .sl 1 (E cSt (keyL fr to b))] (.sl 1 (E cC ((mgF (cfO fr to (a ++ b)) a.length b.length).map fun i => (a ++ b).getD i.toNat []))) := by
 have hkl := keyL_len fr to a
 have hkm := keyL_len fr to b
 have hcmp : ∀ i k : Nat, i < a.length → k < b.length → Fz F.s_l03Compare [.v (.string (txt (fH fr to (b.getD k [])))), .v (.string (txt (fH fr to (a.getD i []))))] (.v (.int .i64 (cfO fr to (a ++ b) ((a.length + k : Nat) : Int) (i : Int)))) := by
  intro i k hi hk
  have e : cfO fr to (a ++ b) ((a.length + k : Nat) : Int) (i : Int) = cmpR (fH fr to (b.getD k [])) (fH fr to (a.getD i [])) := by
   unfold cfO
   rw [Int.toNat_natCast, Int.toNat_natCast, app_l hi, app_r]; rfl
  rw [e]
  have m1 := mem_nat hi
  have m2 := mem_nat hk
  exact l03Compare _ _ (fH_le (ob _ m2)) ((fH_len (ob _ m2)).trans (fH_len (oa _ m1)).symm) (List.all_eq_true.1 cb _ m2) (List.all_eq_true.1 ca _ m1)
 have gA : ∀ i : Nat, i < a.length → (fun i : Int => (a ++ b).getD i.toNat []) (i : Int) = a.getD i [] := fun i hi => by show (a ++ b).getD (i : Int).toNat [] = _; rw [Int.toNat_natCast, app_l hi]
 have gB : ∀ j : Nat, (fun i : Int => (a ++ b).getD i.toNat []) ((a.length + j : Nat) : Int) = b.getD j [] := fun j => by show (a ++ b).getD ((a.length + j : Nat) : Int).toNat [] = _; rw [Int.toNat_natCast, app_r]
 have hdr : ∀ k, k ≤ b.length → (rng (a.length + k) (b.length - k)).map (fun i => (a ++ b).getD i.toNat []) = b.drop k := by
  intro k hk
  apply List.ext_getElem
  ·simp [rng_len]
  ·intro j h1 h2
   simp only [List.length_map, rng_len] at h1
   simp only [rng, List.getElem_map, List.getElem_range', List.getElem_drop, Nat.one_mul]
   have g2 := gB (k + j)
   simp only at g2
   rw [show a.length + k + j = a.length + (k + j) by omega, g2]
   simp [List.getD, (by omega : k + j < b.length)]
 generalize (fun i : Int => (a ++ b).getD i.toNat []) = G at *
 generalize cfO fr to (a ++ b) = cf at *
 refine fn0 Cd.s_l09Merge_k fun X => ?_
 repeat' first
  |simp -dsimp only [go_sem, cC, hkl, hkm]
  |refine Br.mk ?_ ?_<;>intro h<;>try simp -dsimp only[h]
  |refine and_c ?_
  |fail
 refine LoopK.at (drawn_ok Tryz.mixed) (X := { zz : Nat × (Unit) // zz.1 ≤ a.length ∧ True }) (fun zz => [(9, .loc (.t 9 0) 0 (mgI cf a.length b.length zz.1.1).length), (10, .v (.int .i64 (mgK cf a.length b.length zz.1.1 : Nat))), (11, .v (.int .i64 zz.1.1))]) (fun zz => [(.t 9 0, .arr 1 (E cC ((mgI cf a.length b.length zz.1.1).map G)) false)]) (fun zz => a.length - zz.1.1) ⟨(0, ()), by omega, trivial⟩ ?_ ?_
 ·simp [Vs.LeL, Vs.look, Vs.hlook, Vs.sput, Vs.sputs, Vs.hset, Vs.hputs, Vs.E, mgI, mgK]
 ·rintro ⟨⟨i, _⟩, hi, hg⟩
  dsimp only at hi hg
  simp -dsimp only [go_sem, cC, hkl, hkm]
  refine Br.mk (fun hc => ?_) fun hc => ?_
  ·have hlt : i < a.length := Dq
   have hw := wrap_succ hlt (by omega)
   have hki := mgK_le cf a.length b.length i
   have hki1 := mgK_le cf a.length b.length (i + 1)
   have hkg := mgK_ge cf a.length b.length i
   have hli := mgI_len cf a.length b.length i
   have hli1 := mgI_len cf a.length b.length (i + 1)
   have hs0 : skp cf a.length i (b.length - mgK cf a.length b.length i) (mgK cf a.length b.length i) = mgK cf a.length b.length (i + 1) := by rw [mgK]
   have hmI : mgI cf a.length b.length (i + 1) = mgI cf a.length b.length i ++ rng (a.length + mgK cf a.length b.length i) (mgK cf a.length b.length (i + 1) - mgK cf a.length b.length i) ++ [(i : Int)] := by rw [mgI]
   have hga := gA i hlt
   have xa := key_getD (fr := fr) (to := to) hlt
   have xc := cC_at hlt
   have hc20 : (a.getD i []).length ≤ 20 := (oa _ (mem_nat hlt)).2.2.2
   have NA := l02Own (a.getD i []) (by omega)
   generalize hK : mgK cf a.length b.length i = k0 at *
   generalize hK1 : mgK cf a.length b.length (i + 1) = k1 at *
   generalize hO : mgI cf a.length b.length i = o at *
   generalize hO1 : mgI cf a.length b.length (i + 1) = o1 at *
   simp -dsimp only [go_sem, hw, cC, hkl, hkm]
   refine LoopK.at (drawn_ok Tryz.mixed) (X := { k : Nat // k0 ≤ k ∧ k ≤ b.length ∧ skp cf a.length i (b.length - k) k = k1 }) (fun k => [(9, .loc (.t 9 0) 0 (o.length + (k.1 - k0))), (10, .v (.int .i64 (k.1 : Nat))), (16, .junk)]) (fun k => [(.t 9 0, .arr 1 (E cC ((o ++ rng (a.length + k0) (k.1 - k0)).map G)) false)]) (fun k => b.length - k.1) ⟨k0, Nat.le_refl _, hki, hs0⟩ ?_ ?_
   ·simp [Vs.LeL, Vs.look, Vs.hlook, Vs.sput, Vs.sputs, Vs.hset, Vs.hputs, Nat.sub_self, rng_zero]
   ·rintro ⟨k, hk0, hkb, hks⟩
    try dsimp only at hk0 hkb hks
    by_cases hlk : k < b.length
    ·have e1 : decide ((k : Int) < (b.length : Int)) = true := by simp; omega
     have w1 : IntKind.i64.wrap ((k : Int) + 1) = ((k + 1 : Nat) : Int) := by rw [wrap_in (by omega) (by omega)]; omega
     rw [skp_step hlk] at hks
     have yb := key_getD (fr := fr) (to := to) hlk
     have yc := cC_at hlk
     have HC := hcmp i k hlt hlk
     have hgb := gB k
     have hb20 : (b.getD k []).length ≤ 20 := (ob _ (mem_nat hlk)).2.2.2
     have NB := l02Own (b.getD k []) (by omega)
     by_cases hneg : cf ((a.length + k : Nat) : Int) (i : Int) < 0
     ·have e2 : decide (cf ((a.length + k : Nat) : Int) (i : Int) < 0) = true := decide_eq_true hneg
      rw [if_pos hneg] at hks
      have hap : E cC ((o ++ rng (a.length + k0) (k - k0)).map G) ++ [[.sl 1 (E cI (b.getD k []))]] = E cC ((o ++ rng (a.length + k0) (k + 1 - k0)).map G) := by
       rw [show k + 1 - k0 = (k - k0) + 1 by omega, rng_succ, show a.length + k0 + (k - k0) = a.length + k by omega, ← List.append_assoc, ← E_snoc, hgb]
      have hal : (E cC ((o ++ rng (a.length + k0) (k - k0)).map G)).length = o.length + (k - k0) := by rw [E_len]; simp [rng_len]
      have hsum : o.length + (k - k0) + 1 = o.length + (k + 1 - k0) := by omega
      repeat' first
       |simp -dsimp only [go_sem, e1, e2, w1, yb, yc, xa, xc, hap, hal, cC, hkl, hkm]
       |refine Br.mk ?_ ?_<;>intro h<;>try simp -dsimp only[h]
       |refine CallK.c (by first|exact HC|exact NB) ?_
       |refine and_c ?_
       |fail
      all_goals first | omega | (refine ⟨⟨k + 1, by omega, by omega, hks⟩, ?_, by simp only; omega⟩; simp [Vs.LeL, Vs.look, Vs.hlook, Vs.sput, Vs.sputs, Vs.hset, Vs.hputs, hsum])
     ·have e2 : decide (cf ((a.length + k : Nat) : Int) (i : Int) < 0) = false := decide_eq_false hneg
      rw [if_neg hneg] at hks
      subst hks
      have hap : E cC ((o ++ rng (a.length + k0) (k - k0)).map G) ++ [[.sl 1 (E cI (a.getD i []))]] = E cC (o1.map G) := by
       rw [hmI, ← E_snoc, hga]
      have hal : (E cC ((o ++ rng (a.length + k0) (k - k0)).map G)).length = o.length + (k - k0) := by rw [E_len]; simp [rng_len]
      have hsum : o.length + (k - k0) + 1 = o1.length := by omega
      repeat' first
       |simp -dsimp only [go_sem, e1, e2, w1, yb, yc, xa, xc, hap, hal, hw, hsum, cC, hkl, hkm]
       |refine Br.mk ?_ ?_<;>intro h<;>try simp -dsimp only[h]
       |refine CallK.c (by first|exact HC|exact NA) ?_
       |refine And.intro ?_ (fun h => absurd rfl h)
       |refine And.intro ?_ (fun h => absurd rfl h)
       |refine and_c ?_
       |fail
      all_goals first | omega | (exact ⟨⟨(i + 1, ()), by omega, trivial⟩, by simp [Vs.LeL, Vs.look, Vs.hlook, Vs.sput, Vs.sputs, Vs.hset, Vs.hputs, hsum, hO1, hK1], by simp only; omega⟩)
    ·obtain rfl : k = b.length := by omega
     have e1 : decide ((b.length : Int) < (b.length : Int)) = false := by simp
     rw [skp_stop (by omega)] at hks
     subst hks
     have hap : E cC ((o ++ rng (a.length + k0) (b.length - k0)).map G) ++ [[.sl 1 (E cI (a.getD i []))]] = E cC (o1.map G) := by
      rw [hmI, ← E_snoc, hga]
     have hal : (E cC ((o ++ rng (a.length + k0) (b.length - k0)).map G)).length = o.length + (b.length - k0) := by rw [E_len]; simp [rng_len]
     have hsum : o.length + (b.length - k0) + 1 = o1.length := by omega
     repeat' first
      |simp -dsimp only [go_sem, e1, xa, xc, hap, hal, hw, hsum, cC, hkl, hkm]
      |refine Br.mk ?_ ?_<;>intro h<;>try simp -dsimp only[h]
      |refine CallK.c (by first|exact NA) ?_
      |refine And.intro ?_ (fun h => absurd rfl h)
      |refine And.intro ?_ (fun h => absurd rfl h)
      |refine and_c ?_
      |fail
     all_goals first | omega | (exact ⟨⟨(i + 1, ()), by omega, trivial⟩, by simp [Vs.LeL, Vs.look, Vs.hlook, Vs.sput, Vs.sputs, Vs.hset, Vs.hputs, hsum, hO1, hK1], by simp only; omega⟩)
  ·have hge : i = a.length := by
    have : ¬ i < a.length := Dq
    omega
   subst hge
   simp -dsimp only [go_sem, cC, hkl, hkm]
   have hka := mgK_le cf a.length b.length a.length
   have hli := mgI_len cf a.length b.length a.length
   have hd2 := hdr _ hka
   have hfin : E cC ((mgI cf a.length b.length a.length).map G) ++ E cC (b.drop (mgK cf a.length b.length a.length)) = E cC ((mgF cf a.length b.length).map G) := by
    rw [← hd2, ← E_append, ← List.map_append]; rfl
   have hfl := mgF_len cf a.length b.length
   have hdE : (E cC b).drop (mgK cf a.length b.length a.length) = E cC (b.drop (mgK cf a.length b.length a.length)) := by simp [E, List.map_drop]
   have hdl : (b.drop (mgK cf a.length b.length a.length)).length = b.length - mgK cf a.length b.length a.length := by simp
   have CP := l02Copy (b.drop (mgK cf a.length b.length a.length)) ⟨by omega, fun c hc => by have := (ob c (List.mem_of_mem_drop hc)).2.2.2; omega⟩
   have hal : (E cC ((mgI cf a.length b.length a.length).map G)).length = (mgI cf a.length b.length a.length).length := by rw [E_len]; simp
   have hsum : (mgI cf a.length b.length a.length).length + (b.length - mgK cf a.length b.length a.length) = a.length + b.length := by omega
   have htk : (E cC ((mgF cf a.length b.length).map G)).take (a.length + b.length) = E cC ((mgF cf a.length b.length).map G) := List.take_of_length_le (by rw [E_len, List.length_map]; omega)
   generalize mgF cf a.length b.length = mf at *
   generalize mgK cf a.length b.length a.length = k at *
   generalize mgI cf a.length b.length a.length = o at *
   refine ⟨?_, fun h => h rfl⟩
   repeat' first
    |simp -dsimp only [go_sem, hdE, hdl, hal, hfin, hsum, htk, cC, hkl, hkm]
    |refine Br.mk ?_ ?_<;>intro h<;>try simp -dsimp only[h]
    |refine CallK.c (by first|exact CP) ?_
    |refine and_c ?_
    |fail
   all_goals first | omega | exact ⟨_, _, rfl, rfl⟩
end
end Go.Proofs.YtmfjbgjeljhcaaaGreat
