/- Groups of a deck: the program's way. -/
import Derived.Test.YtidbcoagjbbjdaaGreatDoorVsD
import Derived.Test.YtidbcoagjbbjdaaGreatDoorXwSm
set_option linter.all false
set_option maxHeartbeats 8000000
namespace Go.Proofs.YtidbcoagjbbjdaaGreatDoor
open Go.Vs
section
variable [Vs.Tab 0 Vs.powP]
attribute [local irreducible] Vs.Fn chOK areCh chTo chAt l03 chB rk cd3 chI stp stpTo
def grpTo (fr to : Int) (l : List (List Int)) : Nat → List Int
 | 0 => []
 | i + 1 => grpTo fr to l i ++ (if i = 0 ∨ cmF fr to (l.getD (i - 1) []) (l.getD i []) ≠ 0 then [(i : Int)] else [])
theorem grpTo_succ (fr to : Int) (l : List (List Int)) (i : Nat) : grpTo fr to l (i + 1) = grpTo fr to l i ++ (if i = 0 ∨ cmF fr to (l.getD (i - 1) []) (l.getD i []) ≠ 0 then [(i : Int)] else []) := rfl
theorem grpTo_zero (fr to : Int) (l : List (List Int)) : grpTo fr to l 0 = [] := rfl
theorem grpTo_len (fr to : Int) (l : List (List Int)) : ∀ i, (grpTo fr to l i).length ≤ i
 | 0 => Nat.le_refl _
 | i + 1 => by
  have := grpTo_len fr to l i
  rw [grpTo_succ, List.length_append]
  split <;> simp <;> omega
attribute [local irreducible] grpTo
attribute [local go_sem] E_len List.replicate_succ List.replicate_zero List.flatten_cons List.flatten_nil List.cons_append List.nil_append List.set_cons_zero List.set_cons_succ List.length_cons List.length_nil List.length_set in
theorem groupsOf (l : List (List Int)) (fr to : Int) (ho : ∀ c, c ∈ l → okF fr to c) (hl : l.length ≤ 1048576) : Fz F.i_groupsOf [.sl 1 (E cC l), .agg (cFd fr to)] (.sl 1 (E cI (grpTo fr to l l.length))) := by
 refine fn0 Cd.i_groupsOf_k fun X => ?_
 repeat' first|simp -dsimp only [go_sem, cC, cFd]|apply Br.mk<;>intro h<;>try simp -dsimp only[h]|refine aC ?_|fail
 refine LoopK.at dM (X := { zz : Nat × (Unit) // zz.1 ≤ l.length ∧ True }) (fun zz => [(5, .loc (.t 5 0) 0 (grpTo fr to l zz.1.1).length), (11, .v (.int .i64 zz.1.1))]) (fun zz => [(.t 5 0, .arr 1 (E cI (grpTo fr to l zz.1.1)) false)]) (fun zz => l.length - zz.1.1) ⟨(0, ()), by omega, trivial⟩ ?_ ?_
 ·simp [Vs.LeL, Vs.look, Vs.hlook, Vs.sput, Vs.sputs, Vs.hset, Vs.hputs, Vs.E, grpTo_zero]
 ·rintro ⟨⟨i, _⟩, hi, hg⟩
  dsimp only at hi hg
  simp -dsimp only [go_sem, cC, cFd]
  refine Br.mk (fun hc => ?_) fun hc => ?_
  ·have hlt : i < l.length := Dq
   have hw := wrap_succ hlt hl
   have hgl := grpTo_len fr to l i
   have gi : (E cC l).getD i [] = [.sl 1 (E cI (l.getD i []))] := by rw [E_get hlt]; simp [cC, List.getD, hlt]
   have hap : E cI (grpTo fr to l i) ++ [[.v (.int .i64 (i : Int))]] = E cI (grpTo fr to l i ++ [(i : Int)]) := by rw [E_append]; rfl
   have hal : (E cI (grpTo fr to l i)).length = (grpTo fr to l i).length := E_len ..
   have hgs := grpTo_succ fr to l i
   by_cases h0 : i = 0
   ·subst h0
    rw [if_pos (.inl rfl)] at hgs
    have e0 : (((0 : Nat) : Int) == 0) = true := rfl
    repeat' first|simp -dsimp only [go_sem, e0, hw, hap, hal, gi, cC, cFd]|apply Br.mk<;>intro h<;>try simp -dsimp only[h]|refine aC ?_|fail
    all_goals first | omega | (exact nx (0 + 1, ()) trivial (h2 := by simp [Vs.LeL, Vs.look, Vs.hlook, Vs.sput, Vs.sputs, Vs.hset, Vs.hputs, hgs]))
   ·have e0 : ((i : Int) == 0) = false := by simp [h0]
    have w0 : IntKind.i64.wrap ((i : Int) - 1) = ((i - 1 : Nat) : Int) := by rw [wrap_in (by omega) (by omega)]; omega
    have hl1 : i - 1 < l.length := by omega
    have gj : (E cC l).getD (i - 1) [] = [.sl 1 (E cI (l.getD (i - 1) []))] := by rw [E_get hl1]; simp [cC, List.getD, hl1]
    have hmi : l.getD i [] ∈ l := by rw [show l.getD i [] = l[i] by simp [List.getD, hlt]]; exact List.getElem_mem hlt
    have hmj : l.getD (i - 1) [] ∈ l := by rw [show l.getD (i - 1) [] = l[i - 1] by simp [List.getD, hl1]]; exact List.getElem_mem hl1
    have CF := compareFields (l.getD (i - 1) []) (l.getD i []) fr to (ho _ hmj) (ho _ hmi)
    by_cases hc0 : cmF fr to (l.getD (i - 1) []) (l.getD i []) = 0
    ·have e1 : (cmF fr to (l.getD (i - 1) []) (l.getD i []) != 0) = false := by rw [hc0]; rfl
     rw [if_neg (by rintro (h | h) <;> contradiction), List.append_nil] at hgs
     repeat' first|simp -dsimp only [go_sem, e0, e1, w0, hw, hap, hal, gi, gj, cC, cFd]|apply Br.mk<;>intro h<;>try simp -dsimp only[h]|refine CallK.c (by first|exact CF) ?_|refine aC ?_|fail
     all_goals first | omega | (exact nx (i + 1, ()) trivial (h2 := by simp [Vs.LeL, Vs.look, Vs.hlook, Vs.sput, Vs.sputs, Vs.hset, Vs.hputs, hgs]))
    ·have e1 : (cmF fr to (l.getD (i - 1) []) (l.getD i []) != 0) = true := bne_iff_ne.2 hc0
     rw [if_pos (.inr hc0)] at hgs
     repeat' first|simp -dsimp only [go_sem, e0, e1, w0, hw, hap, hal, gi, gj, cC, cFd]|apply Br.mk<;>intro h<;>try simp -dsimp only[h]|refine CallK.c (by first|exact CF) ?_|refine aC ?_|fail
     all_goals first | omega | (exact nx (i + 1, ()) trivial (h2 := by simp [Vs.LeL, Vs.look, Vs.hlook, Vs.sput, Vs.sputs, Vs.hset, Vs.hputs, hgs]))
  ·have hge : i = l.length := by
    have : ¬ i < l.length := Dq
    omega
   subst hge
   simp -dsimp only [go_sem, cC, cFd]
   have htk : (E cI (grpTo fr to l l.length)).take (grpTo fr to l l.length).length = E cI (grpTo fr to l l.length) := List.take_of_length_le (by rw [E_len]; exact Nat.le_refl _)
   first | exact ⟨⟨_, _, rfl, rfl⟩, fun h => h rfl⟩ | (rw [htk]; exact ⟨⟨_, _, rfl, rfl⟩, fun h => h rfl⟩) | (simp [htk]; done)
end
section
variable [Vs.Tab 0 Vs.powP]
attribute [local irreducible] Vs.Fn grpTo chOK areCh chTo chAt l03 chB rk cd3 chI stp stpTo
theorem grpTo_in {fr to : Int} {l : List (List Int)} : ∀ n x, x ∈ grpTo fr to l n → 0 ≤ x ∧ x < (n : Int)
 | 0, x, h => by rw [grpTo_zero] at h; cases h
 | n + 1, x, h => by
  rw [grpTo_succ] at h
  rcases List.mem_append.1 h with h | h
  ·have := grpTo_in n x h; omega
  ·split at h
   ·simp at h; subst h; omega
   ·cases h
theorem grpTo_up {fr to : Int} {l : List (List Int)} : ∀ n, (grpTo fr to l n).Pairwise (· < ·)
 | 0 => by rw [grpTo_zero]; exact List.Pairwise.nil
 | n + 1 => by
  rw [grpTo_succ, List.pairwise_append]
  refine ⟨grpTo_up n, by split <;> simp, fun a ha b hb => ?_⟩
  have := grpTo_in n a ha
  split at hb
  ·simp at hb; subst hb; exact this.2
  ·cases hb
def grpAt (l : List (List Int)) (s : List Int) (i : Nat) : List (List Int) := (l.take (if i + 1 < s.length then (s.getD (i + 1) 0).toNat else l.length)).drop (s.getD i 0).toNat
def grpL (fr to : Int) (l : List (List Int)) : List (List (List Int)) := (List.range (grpTo fr to l l.length).length).map (grpAt l (grpTo fr to l l.length))
attribute [local irreducible] grpAt
attribute [local go_sem] E_len List.replicate_succ List.replicate_zero List.flatten_cons List.flatten_nil List.cons_append List.nil_append List.set_cons_zero List.set_cons_succ List.length_cons List.length_nil List.length_set in
theorem groups (l : List (List Int)) (fr to : Int) (ho : ∀ c, c ∈ l → okF fr to c) (hl : l.length ≤ 1048576) : Fz F.i_groups [.sl 1 (E cC l), .agg (cFd fr to)] (.sl 1 (E cD (grpL fr to l))) := by
 have GO := groupsOf l fr to ho hl
 have SZ := sizeC l
 have hgl := grpTo_len fr to l l.length
 have hin := grpTo_in (fr := fr) (to := to) (l := l) l.length
 have hup := grpTo_up (fr := fr) (to := to) (l := l) l.length
 rw [show grpL fr to l = (List.range (grpTo fr to l l.length).length).map (grpAt l (grpTo fr to l l.length)) from rfl]
 generalize grpTo fr to l l.length = s at *
 refine fn0 Cd.i_groups_k fun X => ?_
 repeat' first|simp -dsimp only [go_sem, cC, cFd, cD]|apply Br.mk<;>intro h<;>try simp -dsimp only[h]|refine CallK.c (by first|exact GO) ?_|refine aC ?_|fail
 refine LoopK.at dM (X := { zz : Nat × (Unit) // zz.1 ≤ s.length ∧ True }) (fun zz => [(5, .loc (.t 5 0) 0 zz.1.1), (16, .v (.int .i64 zz.1.1))]) (fun zz => [(.t 5 0, .arr 1 (E cD ((List.range zz.1.1).map (grpAt l s))) false)]) (fun zz => s.length - zz.1.1) ⟨(0, ()), by omega, trivial⟩ ?_ ?_
 ·simp [Vs.LeL, Vs.look, Vs.hlook, Vs.sput, Vs.sputs, Vs.hset, Vs.hputs, Vs.E]
 ·rintro ⟨⟨i, _⟩, hi, hg⟩
  dsimp only at hi hg
  simp -dsimp only [go_sem, cC, cFd, cD]
  refine Br.mk (fun hc => ?_) fun hc => ?_
  ·have hlt : i < s.length := Dq
   have hw := wrap_succ hlt (by omega)
   have hs0 := hin _ (List.getElem_mem hlt)
   have e : s.getD i 0 = s[i] := by simp [List.getD, hlt]
   have hap : E cD ((List.range i).map (grpAt l s)) ++ [[.sl 1 (E cC (grpAt l s i))]] = E cD ((List.range (i + 1)).map (grpAt l s)) := by
    rw [List.range_succ, List.map_append, E_append]; rfl
   have hal : (E cD ((List.range i).map (grpAt l s))).length = i := by rw [E_len]; simp
   have hiw : IntKind.i64.wrap ((i : Int) + 1) = ((i + 1 : Nat) : Int) := hw
   by_cases h1 : i + 1 < s.length
   ·have e1 : decide (((i + 1 : Nat) : Int) < (s.length : Int)) = true := by simp; omega
    have hs1 := hin _ (List.getElem_mem h1)
    have hlt2 : s[i] < s[i + 1] := List.pairwise_iff_getElem.1 hup i (i + 1) hlt h1 (by omega)
    have hga : ((E cC l).take s[i + 1].toNat).drop s[i].toNat = E cC (grpAt l s i) := by
     unfold grpAt
     rw [if_pos h1, e, show s.getD (i + 1) 0 = s[i + 1] by simp [List.getD, h1]]
     simp [E, List.map_take, List.map_drop]
    simp -dsimp only [go_sem, cI_get hlt, cI_get h1, hw, e1, hal, cC, cFd, cD]
    repeat' first|simp -dsimp only [go_sem, cI_get hlt, cI_get h1, hw, e1, hap, hal, hga, cC, cFd, cD]|apply Br.mk<;>intro h<;>try simp -dsimp only[h]|refine CallK.c (by first|exact SZ) ?_|refine aC ?_|fail
    all_goals first | omega | (exact nx (i + 1, ()) trivial (h2 := by simp [Vs.LeL, Vs.look, Vs.hlook, Vs.sput, Vs.sputs, Vs.hset, Vs.hputs, List.range_succ]))
   ·have e1 : decide (((i + 1 : Nat) : Int) < (s.length : Int)) = false := by simp; omega
    have hga : (E cC l).drop s[i].toNat = E cC (grpAt l s i) := by
     unfold grpAt
     rw [if_neg h1, e, List.take_of_length_le (Nat.le_refl _)]
     simp [E, List.map_drop]
    simp -dsimp only [go_sem, cI_get hlt, hw, e1, hal, cC, cFd, cD]
    repeat' first|simp -dsimp only [go_sem, cI_get hlt, hw, e1, hap, hal, hga, cC, cFd, cD]|apply Br.mk<;>intro h<;>try simp -dsimp only[h]|refine CallK.c (by first|exact SZ) ?_|refine aC ?_|fail
    all_goals first | omega | (exact nx (i + 1, ()) trivial (h2 := by simp [Vs.LeL, Vs.look, Vs.hlook, Vs.sput, Vs.sputs, Vs.hset, Vs.hputs, List.range_succ]))
  ·have hge : i = s.length := by
    have : ¬ i < s.length := Dq
    omega
   subst hge
   simp -dsimp only [go_sem, cC, cFd, cD]
   have htk : (E cD ((List.range s.length).map (grpAt l s))).take s.length = E cD ((List.range s.length).map (grpAt l s)) := List.take_of_length_le (by rw [E_len]; simp)
   first | exact ⟨⟨_, _, rfl, rfl⟩, fun h => h rfl⟩ | (rw [htk]; exact ⟨⟨_, _, rfl, rfl⟩, fun h => h rfl⟩) | (simp [htk]; done)
end
end Go.Proofs.YtidbcoagjbbjdaaGreatDoor
