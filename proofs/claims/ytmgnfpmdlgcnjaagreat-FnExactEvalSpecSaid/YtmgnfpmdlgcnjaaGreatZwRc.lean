/- Totals that are handed over. -/
import Derived.Test.YtmgnfpmdlgcnjaaGreatZwSy
import Derived.Test.YtmgnfpmdlgcnjaaGreatZwVk
import Derived.Test.YtmgnfpmdlgcnjaaGreatVtR
import Derived.Test.YtmgnfpmdlgcnjaaGreatVuA
set_option linter.unusedSimpArgs false
set_option linter.unusedVariables false
set_option linter.unusedSectionVars false
set_option maxHeartbeats 8000000
namespace Go.Proofs.YtmgnfpmdlgcnjaaGreat
open Go.Vs
variable [Vs.Envs]
attribute [local irreducible] Vs.Fn sumW numC grpAt grpTo pun cmT zR grpL chOK areCh chTo chAt l03 chB rk cd3 chI stp stpTo
attribute [local go_sem] E_len List.replicate_succ List.replicate_zero List.flatten_cons List.flatten_nil List.cons_append List.nil_append List.set_cons_zero List.set_cons_succ List.length_cons List.length_nil List.length_set List.getD_cons_zero cD List.mem_singleton Vs.Name.t.injEq List.mem_cons List.not_mem_nil or_false false_or in
theorem totalsOfO (l : List (List Int)) (fr to sf st : Int) (ho : ∀ c, c ∈ l → okF fr to c) (hp : ∀ c, c ∈ l → okP sf st c) (hl : l.length ≤ 1048576) (hN : allN sf st l = true) (hC : allCh fr to l = true) : Vs.Fn Tryz.prog F.i_totalsOf [] [.sl 1 (E cC l), .agg (cFd fr to), .agg (cFd sf st)] (.tup [.loc (.b 0) 0 (totL fr to sf st l).length, .v (.int .i64 0)]) [some (.arr 2 (E cTt (totL fr to sf st l)) false)] := by
 have SO := sumsOf l sf st hp hl
 have HF := haveField l fr to ho hl
 have GR := groups l fr to ho hl
 rw [hN] at SO
 rw [hC] at HF
 have hb : totB fr to sf st l = true := by simp [totB, hN, hC]
 have hgm : ∀ g, g ∈ grpL fr to l → 0 < g.length ∧ g.length ≤ l.length ∧ ∀ c, c ∈ g → c ∈ l := fun g hg => grpL_mem hg
 have hGl := grpL_len fr to l
 unfold totL
 generalize grpL fr to l = G at *
 rw [List.length_map]
 refine Cd.i_totalsOf_k.o.fn Tryz.mixed (hin := []) _ _ [.t 10 0] [.arr 2 (E cTt (G.map fun g => (txt (fH fr to (g.getD 0 [])), sumW sf st g))) false] Cd.i_totalsOf_k.n Cd.i_totalsOf_k.r rfl (by simp) rfl (by simp) fun X => ?_
 unfold Cd.i_totalsOf
 repeat' first
  |simp -dsimp only [go_sem, cC, cFd]
  |refine Br.mk ?_ ?_<;>intro h<;>try simp -dsimp only[h]
  |refine CallK.c (by first|exact SO|exact HF|exact GR) ?_
  |refine and_c ?_
  |fail
 refine LoopK.at (drawn_ok Tryz.mixed) (X := { zz : Nat × (Unit) // zz.1 ≤ G.length ∧ True }) (fun zz => [(10, .loc (.t 10 0) 0 zz.1.1), (35, .v (.int .i64 zz.1.1))]) (fun zz => [(.t 10 0, .arr 2 (E cTt ((G.take zz.1.1).map fun g => (txt (fH fr to (g.getD 0 [])), sumW sf st g))) false)]) (fun zz => G.length - zz.1.1) ⟨(0, ()), by omega, trivial⟩ ?_ ?_
 ·simp [Vs.LeL, Vs.look, Vs.hlook, Vs.sput, Vs.sputs, Vs.hset, Vs.hputs, Vs.E]
 ·rintro ⟨⟨i, _⟩, hi, hg⟩
  dsimp only at hi hg
  simp -dsimp only [go_sem, cC, cFd]
  refine Br.mk (fun hc => ?_) fun hc => ?_
  ·have hlt : i < G.length := Dq
   have hw := wrap_succ hlt (by omega)
   obtain ⟨g0, g1, g2⟩ := hgm _ (List.getElem_mem hlt)
   have hgi : (E cD G).getD i [] = [.sl 1 (E cC G[i])] := E_get hlt
   have SG := sumsOf G[i] sf st (fun c hc => hp c (g2 c hc)) (by omega)
   have hNg : allN sf st G[i] = true := List.all_eq_true.2 fun c hc => List.all_eq_true.1 hN c (g2 c hc)
   rw [show sumsV sf st G[i] = .sl 1 (E cI [sumW sf st G[i]]) by simp [sumsV, hNg], hNg] at SG
   have hm0 : G[i].getD 0 [] ∈ G[i] := by rw [show G[i].getD 0 [] = G[i][0] by simp [List.getD, g0]]; exact List.getElem_mem g0
   have hg0 : (E cC G[i]).getD 0 [] = [.sl 1 (E cI (G[i].getD 0 []))] := by rw [E_get g0]; simp [cC, List.getD, g0]
   have FT := fieldText (G[i].getD 0 []) fr to (ho _ (g2 _ hm0)) (List.all_eq_true.1 hC _ (g2 _ hm0))
   have hs0 : (E cI [sumW sf st G[i]]).getD 0 [] = [.v (.int .i64 (sumW sf st G[i]))] := rfl
   have hap : E cTt ((G.take i).map fun g => (txt (fH fr to (g.getD 0 [])), sumW sf st g)) ++ [[.v (.string (txt (fH fr to (G[i].getD 0 [])))), .v (.int .i64 (sumW sf st G[i]))]] = E cTt ((G.take (i + 1)).map fun g => (txt (fH fr to (g.getD 0 [])), sumW sf st g)) := by
    rw [take_succ hlt, List.map_append, E_append]; rfl
   have hal : (E cTt ((G.take i).map fun g => (txt (fH fr to (g.getD 0 [])), sumW sf st g))).length = i := by rw [E_len]; simp; omega
   simp -dsimp only [go_sem, hgi, hg0, hs0, hw, hal, cC, cFd]
   repeat' first
    |simp -dsimp only [go_sem, hgi, hg0, hs0, hw, hap, hal, cC, cFd]
    |refine Br.mk ?_ ?_<;>intro h<;>try simp -dsimp only[h]
    |refine CallK.c (by first|exact SG|exact FT) ?_
    |refine and_c ?_
    |fail
   all_goals first | omega | (exact nx (i + 1, ()) trivial (h2 := by simp [Vs.LeL, Vs.look, Vs.hlook, Vs.sput, Vs.sputs, Vs.hset, Vs.hputs, hap]))
  ·have hge : i = G.length := by
    have : ¬ i < G.length := Dq
    omega
   subst hge
   simp -dsimp only [go_sem, cC, cFd]
   have htk : (E cTt ((G.take G.length).map fun g => (txt (fH fr to (g.getD 0 [])), sumW sf st g))).take G.length = E cTt (G.map fun g => (txt (fH fr to (g.getD 0 [])), sumW sf st g)) := by
    rw [List.take_of_length_le (Nat.le_refl G.length)]; exact List.take_of_length_le (by rw [E_len]; simp)
   first | exact ⟨⟨_, _, rfl, rfl⟩, fun h => h rfl⟩ | (rw [htk]; exact ⟨⟨_, _, rfl, rfl⟩, fun h => h rfl⟩) | (simp [htk]; done)
def evT (x : Spc) (l : List (List Int)) : List (ByteArray × Int) := totL x.g0 x.g1 x.s0 x.s1 (srtL x.g0 x.g1 (cfL x l))
theorem evC_zero {x : Spc} {l : List (List Int)} (h : evC x l = 0) : cfC x l = 0 ∧ allCh x.g0 x.g1 (cfL x l) = true ∧ totB x.g0 x.g1 x.s0 x.s1 (srtL x.g0 x.g1 (cfL x l)) = true ∧ evV x l = .sl 2 (E cTt (evT x l)) := by
 unfold evC at h
 split at h
 ·rename_i h0
  split at h
  ·rename_i ha
   split at h
   ·rename_i hb
    exact ⟨h0, ha, hb, by simp [evV, h0, ha, totV, hb, evT]⟩
   ·cases h
  ·cases h
 ·rename_i h0; exact absurd h h0
theorem evV_rn (φ : Vs.Name → Option Vs.Name) (x : Spc) (l : List (List Int)) : Vs.rn φ (evV x l) = evV x l := by
 unfold evV totV
 repeat' split
 all_goals rfl
theorem evV_clo (x : Spc) (l : List (List Int)) : isClo (evV x l) = true := by
 unfold evV totV
 repeat' split
 all_goals rfl
theorem evC_non {x : Spc} {l : List (List Int)} (h : evC x l ≠ 0) : evV x l = .v (.slice none 0 0) := by
 unfold evC at h
 unfold evV
 split
 ·rename_i h0
  split
  ·rename_i ha
   rw [if_pos h0, if_pos ha] at h
   unfold totV
   split
   ·rename_i hb; rw [if_pos hb] at h; exact absurd rfl h
   ·rfl
  ·rfl
 ·rfl
attribute [local go_sem] cFd List.replicate_succ List.replicate_zero List.flatten_cons List.flatten_nil List.cons_append List.nil_append List.set_cons_zero List.set_cons_succ List.length_cons List.length_nil List.length_set in
theorem impl_EvalSpecO (x : Spc) (l : List (List Int)) (hk : smallC l) (hz : x.text.size ≤ 1048576) (he : evC x l = 0) : Vs.Fn Tryz.prog F.i_EvalSpec [] [.agg (cP x), .sl 1 (E cC l)] (.tup [.loc (.b 0) 0 (evT x l).length, .v (.int .i64 0)]) [some (.arr 2 (E cTt (evT x l)) false)] := by
 have CF := cardsFor x l hk hz
 obtain ⟨h0, ha, hb, _⟩ := evC_zero he
 obtain ⟨hd, hf, hn⟩ := cfC_ok h0
 have h40 := deck_40 hd
 have hml := cfL_mem (x := x) (l := l)
 have hll := cfL_len x l
 have hof : ∀ c, c ∈ cfL x l → okF x.g0 x.g1 c := fun c hc => okF_of hd hf c (hml c hc)
 have hop : ∀ c, c ∈ cfL x l → okP x.s0 x.s1 c := fun c hc => okP_of hd hn c (hml c hc)
 have HF := haveField (cfL x l) x.g0 x.g1 hof (by omega)
 have SB := sortedBy (cfL x l) x.g0 x.g1 hof (by omega)
 have hsm := srtL_mem hof (by omega : (cfL x l).length ≤ 40)
 have hsl := srtL_len x.g0 x.g1 (cfL x l)
 unfold totB at hb
 rw [Bool.and_eq_true] at hb
 have TO := totalsOfO (srtL x.g0 x.g1 (cfL x l)) x.g0 x.g1 x.s0 x.s1 (fun c hc => hof c (hsm c hc)) (fun c hc => hop c (hsm c hc)) (by omega) hb.1 hb.2
 rw [show cfV x l = .sl 1 (E cC (cfL x l)) by simp [cfV, h0], h0] at CF
 rw [ha] at HF
 unfold evT
 generalize hT : totL x.g0 x.g1 x.s0 x.s1 (srtL x.g0 x.g1 (cfL x l)) = T at *
 refine Cd.i_EvalSpec_k.o.fn Tryz.mixed (hin := []) _ _ [.t 30 0] [.arr 2 (E cTt T) false] Cd.i_EvalSpec_k.n Cd.i_EvalSpec_k.r rfl (by simp) rfl (by simp) fun X => ?_
 unfold Cd.i_EvalSpec
 repeat' first
  |simp -dsimp only [go_sem, cC, cP]
  |refine Br.mk ?_ ?_<;>intro h<;>try simp -dsimp only[h]
  |refine CallK.c (by first|exact CF|exact HF|exact SB) ?_
  |refine and_c ?_
  |fail
 refine CallK.own TO rfl ?_
 simp -dsimp only [go_sem, cC, cP]
 all_goals first | exact ⟨_, _, rfl, rfl⟩
end Go.Proofs.YtmgnfpmdlgcnjaaGreat
