/- The reference's copy of a deck; its code of a specification. -/
import Derived.Test.YtmgnfpmdlgcnjaaGreatZwSw
import Derived.Test.YtmgnfpmdlgcnjaaGreatZwSr
import Derived.Test.YtmgnfpmdlgcnjaaGreatZwSm
import Derived.Test.YtmgnfpmdlgcnjaaGreatZwSi
import Derived.Test.YtmgnfpmdlgcnjaaGreatZwQd
import Derived.Test.YtmgnfpmdlgcnjaaGreatZwQc
import Derived.Test.YtmgnfpmdlgcnjaaGreatZuR
set_option linter.unusedSimpArgs false
set_option linter.unusedVariables false
set_option linter.unusedSectionVars false
set_option maxHeartbeats 8000000
namespace Go.Proofs.YtmgnfpmdlgcnjaaGreat
open Go.Vs
section
variable [Vs.Envs]
attribute [local irreducible] Vs.Fn pun cmT zR chOK areCh chTo chAt l03 chB rk cd3 chI stp stpTo
theorem cfL_mem {x : Spc} {l : List (List Int)} : ∀ c, c ∈ cfL x l → c ∈ l := by
 intro c hc
 unfold cfL at hc
 split at hc
 ·exact hc
 ·exact (List.mem_filter.1 hc).1
theorem cfL_len (x : Spc) (l : List (List Int)) : (cfL x l).length ≤ l.length := by
 unfold cfL
 split
 ·exact Nat.le_refl _
 ·exact flt_len ..
theorem okP_of {l : List (List Int)} {fr to : Int} (hd : deckB l = true) (hn : numB fr to (widB l) = true) : ∀ c, c ∈ l → okP fr to c := by
 intro c hc
 unfold numB at hn
 rw [Bool.and_eq_true] at hn
 obtain ⟨h0, h1, h2, h3⟩ := okF_of hd hn.1 c hc
 have hw := hn.2
 rw [show W (to - fr) = to - fr from wrap_in (by omega) (by omega)] at hw
 simp only [deckB, Bool.and_eq_true, List.all_eq_true, decide_eq_true_eq] at hd
 obtain ⟨hcb, hcl⟩ := hd.1 c hc
 simp only [cardB, inB, Bool.and_eq_true, List.all_eq_true, decide_eq_true_eq] at hcb
 exact ⟨h0, h1, h2, by simpa using hw, h3, fun y hy => hcb.1 y hy⟩
theorem srtL_mem {fr to : Int} {l : List (List Int)} (ho : ∀ c, c ∈ l → okF fr to c) (hl : l.length ≤ 40) : ∀ c, c ∈ srtL fr to l → c ∈ l := by
 intro c hc
 obtain ⟨i, hi, rfl⟩ := List.mem_map.1 hc
 exact mem_get (ordL_in ho hl i hi)
theorem srtL_len (fr to : Int) (l : List (List Int)) : (srtL fr to l).length = l.length := by unfold srtL; rw [List.length_map, ordL_len]
def evC (x : Spc) (l : List (List Int)) : Int := if cfC x l = 0 then (if allCh x.g0 x.g1 (cfL x l) then (if totB x.g0 x.g1 x.s0 x.s1 (srtL x.g0 x.g1 (cfL x l)) then 0 else 8) else 8) else cfC x l
def evV (x : Spc) (l : List (List Int)) : AV := if cfC x l = 0 then (if allCh x.g0 x.g1 (cfL x l) then totV x.g0 x.g1 x.s0 x.s1 (srtL x.g0 x.g1 (cfL x l)) else .v (.slice none 0 0)) else .v (.slice none 0 0)
theorem cfC_ok {x : Spc} {l : List (List Int)} (h : cfC x l = 0) : deckB l = true ∧ fldB x.g0 x.g1 (widB l) = true ∧ numB x.s0 x.s1 (widB l) = true := by
 unfold cfC at h
 cases hd : deckB l
 ·simp [hd] at h
 ·cases hv : (inB (widB l) 1 20 && spcB x (widB l))
  ·rw [hd, hv] at h; simp at h
  ·rw [Bool.and_eq_true] at hv
   have h2 := hv.2
   unfold spcB at h2
   rw [Bool.and_eq_true, Bool.and_eq_true] at h2
   exact ⟨rfl, h2.1, h2.2.1⟩
attribute [local go_sem] cFd List.replicate_succ List.replicate_zero List.flatten_cons List.flatten_nil List.cons_append List.nil_append List.set_cons_zero List.set_cons_succ List.length_cons List.length_nil List.length_set in
theorem impl_EvalSpec (x : Spc) (l : List (List Int)) (hk : smallC l) (hz : x.text.size ≤ 1048576) : Fz F.i_EvalSpec [.agg (cP x), .sl 1 (E cC l)] (.tup [evV x l, .v (.int .i64 (evC x l))]) := by
 have CF := cardsFor x l hk hz
 by_cases h0 : cfC x l = 0
 ·obtain ⟨hd, hf, hn⟩ := cfC_ok h0
  have h40 := deck_40 hd
  have hml := cfL_mem (x := x) (l := l)
  have hll := cfL_len x l
  have hof : ∀ c, c ∈ cfL x l → okF x.g0 x.g1 c := fun c hc => okF_of hd hf c (hml c hc)
  have hop : ∀ c, c ∈ cfL x l → okP x.s0 x.s1 c := fun c hc => okP_of hd hn c (hml c hc)
  have HF := haveField (cfL x l) x.g0 x.g1 hof (by omega)
  have SB := sortedBy (cfL x l) x.g0 x.g1 hof (by omega)
  have hsm := srtL_mem hof (by omega : (cfL x l).length ≤ 40)
  have hsl := srtL_len x.g0 x.g1 (cfL x l)
  have TO := totalsOf (srtL x.g0 x.g1 (cfL x l)) x.g0 x.g1 x.s0 x.s1 (fun c hc => hof c (hsm c hc)) (fun c hc => hop c (hsm c hc)) (by omega)
  rw [show cfV x l = .sl 1 (E cC (cfL x l)) by simp [cfV, h0], h0] at CF
  cases ha : allCh x.g0 x.g1 (cfL x l)
  ·rw [ha] at HF
   rw [show evC x l = 8 by simp [evC, h0, ha], show evV x l = .v (.slice none 0 0) by simp [evV, h0, ha]]
   refine fn0 Cd.i_EvalSpec_k fun X => ?_
   repeat' first
    |simp -dsimp only [go_sem, cC, cP]
    |refine Br.mk ?_ ?_<;>intro h<;>try simp -dsimp only[h]
    |refine CallK.c (by first|exact CF|exact HF) ?_
    |refine and_c ?_
    |fail
   all_goals first | exact ⟨_, _, rfl, rfl⟩
  ·rw [ha] at HF
   rw [show evC x l = (if totB x.g0 x.g1 x.s0 x.s1 (srtL x.g0 x.g1 (cfL x l)) then 0 else 8) by simp [evC, h0, ha], show evV x l = totV x.g0 x.g1 x.s0 x.s1 (srtL x.g0 x.g1 (cfL x l)) by simp [evV, h0, ha]]
   generalize (if totB x.g0 x.g1 x.s0 x.s1 (srtL x.g0 x.g1 (cfL x l)) then (0 : Int) else 8) = c at *
   have hv2 : totV x.g0 x.g1 x.s0 x.s1 (srtL x.g0 x.g1 (cfL x l)) = .sl 2 (E cTt (totL x.g0 x.g1 x.s0 x.s1 (srtL x.g0 x.g1 (cfL x l)))) ∨ totV x.g0 x.g1 x.s0 x.s1 (srtL x.g0 x.g1 (cfL x l)) = .v (.slice none 0 0) := by unfold totV; split <;> simp
   rcases hv2 with hv2 | hv2 <;> rw [hv2] at TO ⊢
   all_goals
    refine fn0 Cd.i_EvalSpec_k fun X => ?_
    repeat' first
     |simp -dsimp only [go_sem, cC, cP]
     |refine Br.mk ?_ ?_<;>intro h<;>try simp -dsimp only[h]
     |refine CallK.c (by first|exact CF|exact HF|exact SB|exact TO) ?_
     |refine and_c ?_
     |fail
    all_goals first | exact ⟨_, _, rfl, rfl⟩
 ·have e0 : (cfC x l != 0) = true := by simp [h0]
  rw [show evC x l = cfC x l by simp [evC, h0], show evV x l = .v (.slice none 0 0) by simp [evV, h0]]
  rw [show cfV x l = .v (.slice none 0 0) by simp [cfV, h0]] at CF
  generalize cfC x l = c at *
  refine fn0 Cd.i_EvalSpec_k fun X => ?_
  repeat' first
   |simp -dsimp only [go_sem, cC, cP, e0]
   |refine Br.mk ?_ ?_<;>intro h<;>try simp -dsimp only[h]
   |refine CallK.c (by first|exact CF) ?_
   |refine and_c ?_
   |fail
  all_goals first | exact ⟨_, _, rfl, rfl⟩
end
section
variable [Vs.Envs]
attribute [local irreducible] Vs.Fn flt zR areCh chTo chAt stp stpTo
set_option maxRecDepth 100000 in
theorem cd3_chr : ∀ n : Nat, n < 256 → chOK (n : Int) = true → 0 ≤ rk (cd3 (n : Int)) ∧ chI (cd3 (n : Int)) = (n : Int) := by decide +kernel
attribute [local irreducible] chOK rk cd3 chI
theorem areCh_mem {s : ByteArray} (h : areCh s = true) : ∀ b, b ∈ s.data.toList → chOK (b.toNat : Int) = true := by
 unfold areCh at h
 exact List.all_eq_true.1 h
theorem hasCh_bcd {s : ByteArray} (h : areCh s = true) : hasCh (bcd s) = true := by
 unfold hasCh bcd
 rw [List.all_eq_true]
 intro x hx
 obtain ⟨b, hb, rfl⟩ := List.mem_map.1 hx
 exact decide_eq_true (cd3_chr b.toNat (UInt8.toNat_lt _) (areCh_mem h b hb)).1
theorem txt_bcd {s : ByteArray} (h : areCh s = true) : txt (bcd s) = s := by
 have e : (bcd s).map chI = s.data.toList.map fun b => (b.toNat : Int) := by
  unfold bcd
  rw [List.map_map]
  refine List.map_congr_left fun b hb => ?_
  exact (cd3_chr b.toNat (UInt8.toNat_lt _) (areCh_mem h b hb)).2
 unfold txt strB
 rw [e, List.map_map]
 have e2 : (s.data.toList.map ((fun n : Int => UInt8.ofNat n.toNat) ∘ fun b : UInt8 => (b.toNat : Int))) = s.data.toList := by
  rw [show ((fun n : Int => UInt8.ofNat n.toNat) ∘ fun b : UInt8 => (b.toNat : Int)) = id from funext fun b => by simp]
  simp
 rw [e2]
theorem pun_bcd {s : ByteArray} {w : Nat} (h : s.size = w) : pun s w = bcd s := by
 unfold pun
 rw [h, Nat.sub_self]
 simp
theorem key_off {fr to : Int} {c : List Int} {s : ByteArray} (hc : okF fr to c) (hh : hasCh (fH fr to c) = true) (hs : s.size = to.toNat - fr.toNat) (ha : areCh s = true) :
  ((txt (fH fr to c)).toList == s.toList) = !offT fr to s c := by
 have h1 := txt_beq (a := fH fr to c) (b := bcd s) (by rw [fH_len hc, bcd_len, hs]) hh (hasCh_bcd ha)
 rw [txt_bcd ha] at h1
 rw [h1]
 unfold offT cmT
 rw [pun_bcd hs]
 generalize cmpR (fH fr to c) (bcd s) = v
 by_cases h0 : v = 0
 ·subst h0; rfl
 ·have e : (v == 0) = false := beq_eq_false_iff_ne.2 h0
  rw [e]
  rcases Int.lt_or_gt_of_ne h0 with h | h <;> simp [h]
theorem selC_eq {fr to : Int} {s : ByteArray} {l : List (List Int)} : selC fr to s l = if keyC fr to l = 0 ∨ keyC fr to l = 8 then (if l09 s fr to = 0 then keyC fr to l else l09 s fr to) else keyC fr to l := by
 unfold selC colT keyC l09
 cases h1 : deckB l <;> cases h2 : fldB fr to (widB l) <;> cases h5 : allCh fr to l <;> by_cases h3 : (s.size : Int) = W (to - fr) <;> cases h4 : areCh s <;> simp [h1, h2, h3, h4, h5]
end
section
variable [Vs.Envs]
attribute [local irreducible] Vs.Fn chOK areCh chTo chAt l03 chB rk cd3 chI stp stpTo
attribute [local go_sem] cFd E_len List.replicate_succ List.replicate_zero List.flatten_cons List.flatten_nil List.cons_append List.nil_append List.set_cons_zero List.set_cons_succ List.length_cons List.length_nil List.length_set in
theorem l02Copy (l : List (List Int)) (hk : smallC l) : Fz F.s_l02Copy [.sl 1 (E cC l)] (.sl 1 (E cC l)) := by
 refine fn0 Cd.s_l02Copy_k fun X => ?_
 repeat' first
  |simp -dsimp only [go_sem, cC]
  |refine Br.mk ?_ ?_<;>intro h<;>try simp -dsimp only[h]
  |refine and_c ?_
  |fail
 refine LoopK.at (drawn_ok Tryz.mixed) (X := { zz : Nat × (Unit) // zz.1 ≤ l.length ∧ True }) (fun zz => [(3, .loc (.t 3 0) 0 zz.1.1), (4, .v (.int .i64 zz.1.1))]) (fun zz => [(.t 3 0, .arr 1 (E cC (l.take zz.1.1)) false)]) (fun zz => l.length - zz.1.1) ⟨(0, ()), by omega, trivial⟩ ?_ ?_
 ·simp [Vs.LeL, Vs.look, Vs.hlook, Vs.sput, Vs.sputs, Vs.hset, Vs.hputs, Vs.E]
 ·rintro ⟨⟨i, _⟩, hi, hg⟩
  dsimp only at hi hg
  simp -dsimp only [go_sem, cC]
  refine Br.mk (fun hc => ?_) fun hc => ?_
  ·have hlt : i < l.length := Dq
   have hw := wrap_succ hlt (hk.1)
   have hm : (E cC l).getD i [] = [.sl 1 (E cI l[i])] := E_get hlt
   have NC := l02Own l[i] (hk.2 _ (List.getElem_mem hlt))
   have hap : E cC (l.take i) ++ [[.sl 1 (E cI l[i])]] = E cC (l.take (i + 1)) := by rw [take_succ hlt, E_append]; rfl
   have hal : (E cC (l.take i)).length = i := by rw [E_len]; simp; omega
   have hl := hk.1
   repeat' first
    |simp -dsimp only [go_sem, hm, hw, hap, hal, cC]
    |refine Br.mk ?_ ?_<;>intro h<;>try simp -dsimp only[h]
    |refine CallK.c (by first|exact NC) ?_
    |refine and_c ?_
    |fail
   all_goals first | omega | (exact nx (i + 1, ()) trivial (h2 := by simp [Vs.LeL, Vs.look, Vs.hlook, Vs.sput, Vs.sputs, Vs.hset, Vs.hputs, hap]))
  ·have hge : i = l.length := by
    have : ¬ i < l.length := Dq
    omega
   subst hge
   simp -dsimp only [go_sem, cC]
   have htk : (E cC (l.take l.length)).take l.length = E cC l := by
    rw [List.take_of_length_le (Nat.le_refl l.length)]; exact List.take_of_length_le (by rw [E_len]; exact Nat.le_refl _)
   first | exact ⟨⟨_, _, rfl, rfl⟩, fun h => h rfl⟩ | (rw [htk]; exact ⟨⟨_, _, rfl, rfl⟩, fun h => h rfl⟩) | (simp [htk]; done)
def lcC (x : Spc) (l : List (List Int)) : Int := if deckB l then (if spcB x (widB l) then 0 else 2) else 1
theorem l16Code (x : Spc) (l : List (List Int)) (hk : smallC l) (hz : x.text.size ≤ 1048576) : Fz F.s_l16Code [.ro (cP x), .sl 1 (E cC l)] (.v (.int .i64 (lcC x l))) := by
 refine fn0 Cd.s_l16Code_k fun X => ?_
 repeat' first
  |simp -dsimp only [go_sem, cP]
  |refine Br.mk ?_ ?_<;>intro h<;>try simp -dsimp only[h]
  |refine CallK.c (by first|exact l02Deck l hk.2 hk.1|exact l07Width l|exact l16Ok x _ hz) ?_
  |refine and_c ?_
  |fail
 all_goals (first | (refine ret_eq ?_; simp_all [lcC]; done) | (simp_all [lcC]; done))
end
end Go.Proofs.YtmgnfpmdlgcnjaaGreat
