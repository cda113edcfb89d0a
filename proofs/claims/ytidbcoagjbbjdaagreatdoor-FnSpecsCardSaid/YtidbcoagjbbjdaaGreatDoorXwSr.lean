/- Totals of a deck: the program's way. -/
import Derived.Test.YtidbcoagjbbjdaaGreatDoorVsD
import Derived.Test.YtidbcoagjbbjdaaGreatDoorXwSo
import Derived.Test.YtidbcoagjbbjdaaGreatDoorXwQd
set_option linter.all false
set_option maxHeartbeats 8000000
namespace Go.Proofs.YtidbcoagjbbjdaaGreatDoor
open Go.Vs
section
variable [Vs.Tab 0 Vs.powP]
attribute [local irreducible] Vs.Fn chOK areCh chTo chAt l03 chB rk cd3 chI stp stpTo
def sumW (fr to : Int) (l : List (List Int)) : Int := l.foldl (fun a c => IntKind.i64.wrap (a + (numC fr to c).1)) 0
def allN (fr to : Int) (l : List (List Int)) : Bool := l.all fun c => (numC fr to c).2
theorem sumW_succ {fr to : Int} {l : List (List Int)} {i : Nat} (h : i < l.length) : sumW fr to (l.take (i + 1)) = IntKind.i64.wrap (sumW fr to (l.take i) + (numC fr to l[i]).1) := by
 unfold sumW
 rw [take_succ h, List.foldl_append]; rfl
def sumsV (fr to : Int) (l : List (List Int)) : AV := if allN fr to l then .sl 1 (E cI [sumW fr to l]) else .v (.slice none 0 0)
attribute [local irreducible] sumW numC
attribute [local go_sem] cFd E_len List.replicate_succ List.replicate_zero List.flatten_cons List.flatten_nil List.cons_append List.nil_append List.set_cons_zero List.set_cons_succ List.length_cons List.length_nil List.length_set List.getD_cons_zero in
theorem sumsOf (l : List (List Int)) (fr to : Int) (ho : ∀ c, c ∈ l → okP fr to c) (hl : l.length ≤ 1048576) : Fz F.i_sumsOf [.sl 2 [[.v (.int .i64 fr), .v (.int .i64 to)]], .sl 1 (E cC l)] (.tup [sumsV fr to l, .v (.bool (allN fr to l))]) := by
 refine fn0 Cd.i_sumsOf_k fun X => ?_
 repeat' first|simp -dsimp only [go_sem, cC]|apply Br.mk<;>intro h<;>try simp -dsimp only[h]|refine aC ?_|fail
 refine LoopK.at dM (X := { zz : Nat × (Unit) // zz.1 ≤ 1 ∧ (zz.1 = 1 → allN fr to l = true) }) (fun zz => [(6, .loc (.t 6 0) 0 zz.1.1), (17, .v (.int .i64 zz.1.1))]) (fun zz => [(.t 6 0, .arr 1 (E cI ([sumW fr to l].take zz.1.1)) false)]) (fun zz => 1 - zz.1.1) ⟨(0, ()), by omega, by intro h; cases h⟩ ?_ ?_
 ·simp [Vs.LeL, Vs.look, Vs.hlook, Vs.sput, Vs.sputs, Vs.hset, Vs.hputs, Vs.E]
 ·rintro ⟨⟨i, _⟩, hi, hg⟩
  dsimp only at hi hg
  simp -dsimp only [go_sem, cC]
  refine Br.mk (fun hc => ?_) fun hc => ?_
  ·have hlt : i < 1 := Dq
   have hw := wrap_succ hlt (by omega)
   obtain rfl : i = 0 := by omega
   repeat' first|simp -dsimp only [go_sem, cC]|apply Br.mk<;>intro h<;>try simp -dsimp only[h]|refine aC ?_|fail
   refine LoopK.at dM (X := { zz : Nat × (Unit) // zz.1 ≤ l.length ∧ (l.take zz.1).all (fun c => (numC fr to c).2) = true }) (fun zz => [(9, .v (.int .i64 (sumW fr to (l.take zz.1.1)))), (23, .v (.int .i64 zz.1.1))]) (fun zz => []) (fun zz => l.length - zz.1.1) ⟨(0, ()), by omega, by simp⟩ ?_ ?_
   ·simp [Vs.LeL, Vs.look, Vs.hlook, Vs.sput, Vs.sputs, Vs.hset, Vs.hputs, sumW]
   ·rintro ⟨⟨i, _⟩, hi, hg⟩
    dsimp only at hi hg
    simp -dsimp only [go_sem, cC]
    refine Br.mk (fun hc => ?_) fun hc => ?_
    ·have hlt : i < l.length := Dq
     have hw := wrap_succ hlt hl
     have hm : (E cC l).getD i [] = [.sl 1 (E cI l[i])] := E_get hlt
     have NI := numberInC (ho _ (List.getElem_mem hlt))
     have hss := sumW_succ (fr := fr) (to := to) hlt
     cases hb : (numC fr to l[i]).2
     ·rw [hb] at NI
      have hna : allN fr to l = false := not_all (p := fun c => (numC fr to c).2) hlt hb
      have hv : sumsV fr to l = .v (.slice none 0 0) := by simp [sumsV, hna]
      repeat' first|simp -dsimp only [go_sem, hm, hw, cC]|apply Br.mk<;>intro h<;>try simp -dsimp only[h]|refine CallK.c (by first|exact NI) ?_|refine aC ?_|fail
      all_goals first | omega | (rw [hv, hna]; exact ⟨_, _, rfl, rfl⟩) | (simp [hv, hna]; done)
     ·rw [hb] at NI
      simp -dsimp only [go_sem, hm, hw, cC]
      repeat' first|simp -dsimp only [go_sem, hm, hw, ← hss, cC]|apply Br.mk<;>intro h<;>try simp -dsimp only[h]|refine CallK.c (by first|exact NI) ?_|refine aC ?_|fail
      all_goals first | omega | (exact nx (i + 1, ()) (take_succ_all (p := fun c => (numC fr to c).2) hlt hg hb) (h2 := by simp [Vs.LeL, Vs.look, Vs.hlook, Vs.sput, Vs.sputs, Vs.hset, Vs.hputs, hss]))
    ·have hge : i = l.length := by
      have : ¬ i < l.length := Dq
      omega
     subst hge
     simp -dsimp only [go_sem, cC]
     have hall : allN fr to l = true := by simpa [allN] using hg
     have e01 : IntKind.i64.wrap 1 = 1 := rfl
     have hfull : l.take l.length = l := List.take_of_length_le (Nat.le_refl _)
     refine ⟨⟨by decide, by decide, ?_⟩, fun h => absurd rfl h⟩
     exact ⟨⟨(1, ()), ⟨by omega, fun _ => hall⟩⟩, by simp [Vs.LeL, Vs.look, Vs.hlook, Vs.sput, Vs.sputs, Vs.hset, Vs.hputs, hfull, e01, Vs.E, cI], by simp only; omega⟩
  ·have hge : i = 1 := by
    have : ¬ i < 1 := Dq
    omega
   subst hge
   simp -dsimp only [go_sem, cC]
   have hall := hg rfl
   rw [hall, show sumsV fr to l = .sl 1 (E cI [sumW fr to l]) by simp [sumsV, hall]]
   exact ⟨⟨_, _, rfl, rfl⟩, fun h => h rfl⟩
end
section
variable [Vs.Tab 0 Vs.powP]
attribute [local irreducible] Vs.Fn sumW numC grpAt grpTo chOK areCh chTo chAt l03 chB rk cd3 chI stp stpTo
theorem fieldText (a : List Int) (fr to : Int) (ha : okF fr to a) (hh : hasCh (fH fr to a) = true) : Fz F.i_fieldText [.agg (cC a), .agg (cFd fr to)] (.v (.string (txt (fH fr to a)))) := by
 refine fn0 Cd.i_fieldText_k fun X => ?_
 repeat' first|simp -dsimp only [go_sem, cC, cFd, fH_E, List.replicate_succ, List.replicate_zero, List.flatten_cons, List.flatten_nil, List.cons_append, List.nil_append, List.set_cons_zero, List.set_cons_succ, List.length_cons, List.length_nil, List.length_set, List.getD_cons_zero]|apply Br.mk<;>intro h<;>try simp -dsimp only[h]|refine RgK.mk rfl ?_|refine CallK.c (by first|exact textOf _ (fH_le ha) hh) ?_|refine And.intro (by first|rfl | omega | decide|exact okF_b ha|exact okF_b hb|exact ⟨rfl, okF_b ha⟩|exact ⟨rfl, okF_b hb⟩|exact okF_b2 ha|exact okF_b2 hb|exact ⟨rfl, okF_b2 ha⟩|exact ⟨rfl, okF_b2 hb⟩ | (refine ⟨?_, ?_⟩ <;> (first | rfl | omega | decide|exact okF_b ha|exact okF_b hb|exact ⟨rfl, okF_b ha⟩|exact ⟨rfl, okF_b hb⟩|exact okF_b2 ha|exact okF_b2 hb|exact ⟨rfl, okF_b2 ha⟩|exact ⟨rfl, okF_b2 hb⟩)) | (refine ⟨?_, ?_, ?_⟩ <;> (first | rfl | omega | decide|exact okF_b ha|exact okF_b hb|exact ⟨rfl, okF_b ha⟩|exact ⟨rfl, okF_b hb⟩|exact okF_b2 ha|exact okF_b2 hb|exact ⟨rfl, okF_b2 ha⟩|exact ⟨rfl, okF_b2 hb⟩)) | (refine ⟨?_, ?_, ?_, ?_⟩ <;> (first | rfl | omega | decide|exact okF_b ha|exact okF_b hb|exact ⟨rfl, okF_b ha⟩|exact ⟨rfl, okF_b hb⟩|exact okF_b2 ha|exact okF_b2 hb|exact ⟨rfl, okF_b2 ha⟩|exact ⟨rfl, okF_b2 hb⟩))) ?_|fail
 all_goals (simp_all)
theorem grpL_mem {fr to : Int} {l : List (List Int)} {g : List (List Int)} (h : g ∈ grpL fr to l) : 0 < g.length ∧ g.length ≤ l.length ∧ ∀ c, c ∈ g → c ∈ l := by
 unfold grpL at h
 obtain ⟨i, hi, rfl⟩ := List.mem_map.1 h
 have hi := List.mem_range.1 hi
 have hin := grpTo_in (fr := fr) (to := to) (l := l) l.length
 have hup := grpTo_up (fr := fr) (to := to) (l := l) l.length
 generalize grpTo fr to l l.length = s at *
 have h0 := hin _ (List.getElem_mem hi)
 have e : s.getD i 0 = s[i] := by simp [List.getD, hi]
 unfold grpAt
 rw [e]
 refine ⟨?_, ?_, fun c hc => List.mem_of_mem_take (List.mem_of_mem_drop hc)⟩
 ·rw [List.length_drop, List.length_take]
  split
  ·rename_i h1
   have hs1 := hin _ (List.getElem_mem h1)
   have hlt2 : s[i] < s[i + 1] := List.pairwise_iff_getElem.1 hup i (i + 1) hi h1 (by omega)
   rw [show s.getD (i + 1) 0 = s[i + 1] by simp [List.getD, h1]]
   omega
  ·omega
 ·rw [List.length_drop, List.length_take]; omega
theorem grpL_len (fr to : Int) (l : List (List Int)) : (grpL fr to l).length ≤ l.length := by
 unfold grpL
 rw [List.length_map, List.length_range]
 exact grpTo_len fr to l l.length
def cTt (t : ByteArray × Int) : List AV := [.v (.string t.1), .v (.int .i64 t.2)]
def totL (fr to sf st : Int) (l : List (List Int)) : List (ByteArray × Int) := (grpL fr to l).map fun g => (txt (fH fr to (g.getD 0 [])), sumW sf st g)
def totB (fr to sf st : Int) (l : List (List Int)) : Bool := allN sf st l && allCh fr to l
def totV (fr to sf st : Int) (l : List (List Int)) : AV := if totB fr to sf st l then .sl 2 (E cTt (totL fr to sf st l)) else .v (.slice none 0 0)
attribute [local irreducible] grpL
attribute [local go_sem] E_len List.replicate_succ List.replicate_zero List.flatten_cons List.flatten_nil List.cons_append List.nil_append List.set_cons_zero List.set_cons_succ List.length_cons List.length_nil List.length_set List.getD_cons_zero cD List.mem_singleton Vs.Name.t.injEq List.mem_cons List.not_mem_nil or_false false_or in
theorem totalsOf (l : List (List Int)) (fr to sf st : Int) (ho : ∀ c, c ∈ l → okF fr to c) (hp : ∀ c, c ∈ l → okP sf st c) (hl : l.length ≤ 1048576) : Fz F.i_totalsOf [.sl 1 (E cC l), .agg (cFd fr to), .agg (cFd sf st)] (.tup [totV fr to sf st l, .v (.int .i64 (if totB fr to sf st l then 0 else 8))]) := by
 have SO := sumsOf l sf st hp hl
 have HF := haveField l fr to ho hl
 have GR := groups l fr to ho hl
 cases hN : allN sf st l
 ·rw [hN] at SO
  have hb : totB fr to sf st l = false := by simp [totB, hN]
  rw [show totV fr to sf st l = .v (.slice none 0 0) by simp [totV, hb], hb]
  refine fn0 Cd.i_totalsOf_k fun X => ?_
  repeat' first|simp -dsimp only [go_sem, cC, cFd]|apply Br.mk<;>intro h<;>try simp -dsimp only[h]|refine CallK.c (by first|exact SO|exact HF) ?_|refine aC ?_|fail
  all_goals first | exact ⟨_, _, rfl, rfl⟩ | simp
 rw [hN] at SO
 cases hC : allCh fr to l
 ·rw [hC] at HF
  have hb : totB fr to sf st l = false := by simp [totB, hC]
  rw [show totV fr to sf st l = .v (.slice none 0 0) by simp [totV, hb], hb]
  refine fn0 Cd.i_totalsOf_k fun X => ?_
  repeat' first|simp -dsimp only [go_sem, cC, cFd]|apply Br.mk<;>intro h<;>try simp -dsimp only[h]|refine CallK.c (by first|exact SO|exact HF) ?_|refine aC ?_|fail
  all_goals first | exact ⟨_, _, rfl, rfl⟩ | simp
 rw [hC] at HF
 have hb : totB fr to sf st l = true := by simp [totB, hN, hC]
 rw [show totV fr to sf st l = .sl 2 (E cTt (totL fr to sf st l)) by simp [totV, hb], hb]
 have hgm : ∀ g, g ∈ grpL fr to l → 0 < g.length ∧ g.length ≤ l.length ∧ ∀ c, c ∈ g → c ∈ l := fun g hg => grpL_mem hg
 have hGl := grpL_len fr to l
 unfold totL
 generalize grpL fr to l = G at *
 refine fn0 Cd.i_totalsOf_k fun X => ?_
 repeat' first|simp -dsimp only [go_sem, cC, cFd]|apply Br.mk<;>intro h<;>try simp -dsimp only[h]|refine CallK.c (by first|exact SO|exact HF|exact GR) ?_|refine aC ?_|fail
 refine LoopK.at dM (X := { zz : Nat × (Unit) // zz.1 ≤ G.length ∧ True }) (fun zz => [(10, .loc (.t 10 0) 0 zz.1.1), (35, .v (.int .i64 zz.1.1))]) (fun zz => [(.t 10 0, .arr 2 (E cTt ((G.take zz.1.1).map fun g => (txt (fH fr to (g.getD 0 [])), sumW sf st g))) false)]) (fun zz => G.length - zz.1.1) ⟨(0, ()), by omega, trivial⟩ ?_ ?_
 ·simp [Vs.LeL, Vs.look, Vs.hlook, Vs.sput, Vs.sputs, Vs.hset, Vs.hputs, Vs.E]
 ·rintro ⟨⟨i, _⟩, hi, hg⟩
  dsimp only at hi hg
  simp -dsimp only [go_sem, cC, cFd]
  refine Br.mk (fun hc => ?_) fun hc => ?_
  ·have hlt : i < G.length := Dq
   have hw := wrap_succ hlt (by omega)
   obtain ⟨g0, g1, g2⟩ := hgm _ (List.getElem_mem hlt)
   have hgi : (E cD G).getD i [] = [.sl 1 (E cC G[i])] := E_get hlt
   have SG := sumsOf G[i] sf st (fun c hc => hp c (g2 c hc)) (by omega)
   have hNg : allN sf st G[i] = true := List.all_eq_true.2 fun c hc => List.all_eq_true.1 hN c (g2 c hc)
   rw [show sumsV sf st G[i] = .sl 1 (E cI [sumW sf st G[i]]) by simp [sumsV, hNg], hNg] at SG
   have hm0 : G[i].getD 0 [] ∈ G[i] := by rw [show G[i].getD 0 [] = G[i][0] by simp [List.getD, g0]]; exact List.getElem_mem g0
   have hg0 : (E cC G[i]).getD 0 [] = [.sl 1 (E cI (G[i].getD 0 []))] := by rw [E_get g0]; simp [cC, List.getD, g0]
   have FT := fieldText (G[i].getD 0 []) fr to (ho _ (g2 _ hm0)) (List.all_eq_true.1 hC _ (g2 _ hm0))
   have hs0 : (E cI [sumW sf st G[i]]).getD 0 [] = [.v (.int .i64 (sumW sf st G[i]))] := rfl
   have hap : E cTt ((G.take i).map fun g => (txt (fH fr to (g.getD 0 [])), sumW sf st g)) ++ [[.v (.string (txt (fH fr to (G[i].getD 0 [])))), .v (.int .i64 (sumW sf st G[i]))]] = E cTt ((G.take (i + 1)).map fun g => (txt (fH fr to (g.getD 0 [])), sumW sf st g)) := by
    rw [take_succ hlt, List.map_append, E_append]; rfl
   have hal : (E cTt ((G.take i).map fun g => (txt (fH fr to (g.getD 0 [])), sumW sf st g))).length = i := by rw [E_len]; simp; omega
   simp -dsimp only [go_sem, hgi, hg0, hs0, hw, hal, cC, cFd]
   repeat' first|simp -dsimp only [go_sem, hgi, hg0, hs0, hw, hap, hal, cC, cFd]|apply Br.mk<;>intro h<;>try simp -dsimp only[h]|refine CallK.c (by first|exact SG|exact FT) ?_|refine aC ?_|fail
   all_goals first | omega | (exact nx (i + 1, ()) trivial (h2 := by simp [Vs.LeL, Vs.look, Vs.hlook, Vs.sput, Vs.sputs, Vs.hset, Vs.hputs, hap]))
  ·have hge : i = G.length := by
    have : ¬ i < G.length := Dq
    omega
   subst hge
   simp -dsimp only [go_sem, cC, cFd]
   have htk : (E cTt ((G.take G.length).map fun g => (txt (fH fr to (g.getD 0 [])), sumW sf st g))).take G.length = E cTt (G.map fun g => (txt (fH fr to (g.getD 0 [])), sumW sf st g)) := by
    rw [List.take_of_length_le (Nat.le_refl G.length)]; exact List.take_of_length_le (by rw [E_len]; simp)
   first | exact ⟨⟨_, _, rfl, rfl⟩, fun h => h rfl⟩ | (rw [htk]; exact ⟨⟨_, _, rfl, rfl⟩, fun h => h rfl⟩) | (simp [htk]; done)
end
end Go.Proofs.YtidbcoagjbbjdaaGreatDoor
