/- Cards that are drawn: a letter and two numbers. -/
import Derived.Test.YtidbcoagjbbjdaaGreatDoorVsD
import Derived.Test.YtidbcoagjbbjdaaGreatDoorXwA
import Derived.Test.YtidbcoagjbbjdaaGreatDoorXwXh
import Derived.Test.YtidbcoagjbbjdaaGreatDoorXwQb
set_option linter.all false
set_option maxHeartbeats 8000000
namespace Go.Proofs.YtidbcoagjbbjdaaGreatDoor
open Go.Vs
variable [Vs.Tab 0 Vs.powP]
attribute [local irreducible] Vs.Fn nxV nxS pkV pkS ptN
def colB (b : ByteArray) : List Int := b.data.toList.map fun x => l03 x.toNat
theorem colB_len (b : ByteArray) : (colB b).length = b.size := by
 show (b.data.toList.map _).length = b.data.size
 rw [List.length_map, Array.length_toList]
theorem colB_at {b : ByteArray} {i : Nat} (h : i < b.size) : l03 ((b.data.toList.getD i 0).toNat : Nat) = (colB b)[i]'(by rw [colB_len]; exact h) := by
 have h' : i < b.data.toList.length := by rw [Array.length_toList]; exact h
 unfold colB
 rw [List.getElem_map, List.getD_eq_getElem?_getD, List.getElem?_eq_getElem h']
 rfl
def gvC (i : Nat) : AV := if i = 0 then .v (.slice none 0 0) else .loc (.t 19 0) 0 i
def ghC (b : ByteArray) (i : Nat) : List (Vs.Name × Blk) := if i = 0 then [] else [(.t 19 0, .arr 1 (E cI ((colB b).take i)) false)]
attribute [local go_sem] Int.reduceBEq Int.reduceBNe cC E_len List.replicate_succ List.replicate_zero List.flatten_cons List.flatten_nil List.cons_append List.nil_append List.set_cons_zero List.set_cons_succ List.length_cons List.length_nil List.length_set List.mem_singleton List.mem_cons List.not_mem_nil or_false false_or Vs.Name.t.injEq List.getD_cons_zero List.getD_cons_succ in
theorem l03CardO (t : ByteArray) (h0 : 0 < t.size) (h1 : t.size ≤ 20) : Vs.Fn Tryz.prog F.s_l03Card [] [.v (.string t)] (.agg [.loc (.b 0) 0 t.size]) [some (.arr 1 (E cI (colB t)) false)] := by
 have hcl := colB_len t
 refine Cd.s_l03Card_k.o.fn Tryz.mixed (hin := []) _ _ [.t 19 0] [.arr 1 (E cI (colB t)) false] Cd.s_l03Card_k.n Cd.s_l03Card_k.r rfl (by simp) rfl (by simp) fun X => ?_
 unfold Cd.s_l03Card
 repeat' first|simp -dsimp only [go_sem]|apply Br.mk<;>intro h<;>try simp -dsimp only[h]|refine aC ?_|fail
 refine LoopK.intro dM (X := { i : Nat // i ≤ t.size }) (fun i => ⟨[(0, .v (.string t)), (2, .ptr (.t 2 0) 0 0), (3, .ptr (.t 3 0) 0 0), (4, .v (.int .i64 (i.1 : Nat)))], (.t 3 0, .var [gvC i.1] false) :: (.t 2 0, .var [.v (.slice none 0 0)] false) :: ghC t i.1⟩) (fun i => t.size - i.1) ⟨0, by omega⟩ ?_ ?_
 ·simp [Vs.LeL, Vs.look, Vs.hlook, Vs.sput, Vs.sputs, Vs.hset, Vs.hputs, gvC, ghC]
 ·rintro ⟨i, hi⟩
  try dsimp only at hi
  rcases i with _ | j
  ·simp only [gvC, ghC, if_true]
   try simp -dsimp only [go_sem]
   refine Br.mk (fun hc => ?_) fun hc => ?_
   ·have hlt : 0 < t.size := h0
    have hw : IntKind.i64.wrap (((0 : Nat) : Int) + 1) = ((1 : Nat) : Int) := rfl
    have LC := l03Code ((t.data.toList.getD 0 0).toNat : Nat)
    rw [colB_at hlt] at LC
    have hap : [[AV.v (.int .i64 ((colB t)[0]'(by omega)))]] = E cI ((colB t).take 1) := by rw [take_succ (show 0 < (colB t).length by omega)]; rfl
    generalize (colB t)[0]'(by omega) = cc at *
    repeat' first|simp -dsimp only [go_sem, hw, hap]|apply Br.mk<;>intro h<;>try simp -dsimp only[h]|refine CallK.c (by first|exact LC) ?_|refine aC ?_|fail
    all_goals first | omega | (refine ⟨⟨1, by omega⟩, ?_, by simp only; omega⟩; simp [Vs.LeL, Vs.look, Vs.hlook, Vs.sput, Vs.sputs, Vs.hset, Vs.hputs, gvC, ghC, hap]; done)
   ·have : ¬ 0 < t.size := Dq
    omega
  ·have e0 : ¬ j + 1 = 0 := by omega
   simp only [gvC, ghC, if_neg e0]
   have hal : (E cI ((colB t).take (j + 1))).length = j + 1 := by rw [E_len]; simp; omega
   have htk : (E cI ((colB t).take (j + 1))).take (j + 1) = E cI ((colB t).take (j + 1)) := List.take_of_length_le (by omega)
   try simp -dsimp only [go_sem, hal, htk]
   refine Br.mk (fun hc => ?_) fun hc => ?_
   ·have hlt : j + 1 < t.size := Dq
    have hw := wrap_succ hlt (by omega)
    have LC := l03Code ((t.data.toList.getD (j + 1) 0).toNat : Nat)
    rw [colB_at hlt] at LC
    have hap : E cI ((colB t).take (j + 1)) ++ [[AV.v (.int .i64 ((colB t)[j + 1]'(by omega)))]] = E cI ((colB t).take (j + 1 + 1)) := by rw [take_succ (show j + 1 < (colB t).length by omega), E_append]; rfl
    generalize (colB t)[j + 1]'(by omega) = cc at *
    repeat' first|simp -dsimp only [go_sem, hw, hap, hal, htk]|apply Br.mk<;>intro h<;>try simp -dsimp only[h]|refine CallK.c (by first|exact LC) ?_|refine aC ?_|fail
    all_goals first | omega | (refine ⟨⟨j + 1 + 1, by omega⟩, ?_, by simp only; omega⟩; simp [Vs.LeL, Vs.look, Vs.hlook, Vs.sput, Vs.sputs, Vs.hset, Vs.hputs, gvC, ghC, hap]; done)
   ·have hge : j + 1 = t.size := by
     have : ¬ j + 1 < t.size := Dq
     omega
    have hall : (colB t).take (j + 1) = colB t := List.take_of_length_le (by omega)
    rw [hall]
    rw [hall] at htk
    try simp -dsimp only [go_sem, hal, htk]
    all_goals first | omega | exact ⟨_, _, rfl, rfl⟩ | (refine ⟨?_, fun h => h rfl⟩; rw [← hge]; exact ⟨_, _, rfl, rfl⟩)
def crd (c : List Int) : Prop := ∃ a n m : Int, (a = l03 65 ∨ a = l03 66 ∨ a = l03 49) ∧ (0 ≤ n ∧ n < 100) ∧ (-30 ≤ m ∧ m < 100) ∧ c = a :: (ptN 2 n ++ ptN 2 m)
def rowK (a z p0 p1 q0 q1 : Int) : Nat → List Int
 | 0 => [a, z, z, z, z]
 | 1 => [a, p0, z, q0, z]
 | _ => [a, p0, p1, q0, q1]
theorem two_of {u : List Int} (h : u.length = 2) : ∃ a b, u = [a, b] := by
 match u, h with
 | [a, b], _ => exact ⟨a, b, rfl⟩
theorem l03CardK (a : UInt8) : Vs.Fn Tryz.prog F.s_l03Card [] [.v (.string ⟨#[a, 48, 48, 48, 48]⟩)] (.agg [.loc (.b 0) 0 5]) [some (.arr 1 (E cI [l03 a.toNat, l03 48, l03 48, l03 48, l03 48]) false)] :=
 l03CardO ⟨#[a, 48, 48, 48, 48]⟩ (Nat.le_of_ble_eq_true rfl) (Nat.le_of_ble_eq_true rfl)
attribute [local go_sem] Int.reduceBEq Int.reduceBNe E_len List.replicate_succ List.replicate_zero List.flatten_cons List.flatten_nil List.cons_append List.nil_append List.set_cons_zero List.set_cons_succ List.length_cons List.length_nil List.length_set List.mem_singleton List.mem_cons List.not_mem_nil or_false false_or Vs.Name.t.injEq List.getD_cons_zero List.getD_cons_succ nestN cellN topN List.append_nil List.flatMap_cons List.flatMap_nil in
theorem l13Card (l : List Int) (x : Sr) (hl : byt l) (hp : x.p ≤ 3900) : ∃ c z, crd c ∧ z.p ≤ x.p + 6 ∧ Vs.Fn Tryz.prog F.s_l13Card [sB l x] [.ptr (.b 0) 0 0] (.agg (cC c)) [some (sB l z)] := by
 have P1 := pick l x hl 3 (by omega)
 have q1 := pkS_p l x 3
 have h1 := pkV_in hl x (n := 3) (by omega)
 have P2 := pick l (pkS l x 3) hl 100 (by omega)
 have q2 := pkS_p l (pkS l x 3) 100
 have h2 := pkV_in hl (pkS l x 3) (n := 100) (by omega)
 have P3 := pick l (pkS l (pkS l x 3) 100) hl 130 (by omega)
 have q3 := pkS_p l (pkS l (pkS l x 3) 100) 130
 have h3 := pkV_in hl (pkS l (pkS l x 3) 100) (n := 130) (by omega)
 generalize pkV l (pkS l (pkS l x 3) 100) 130 = v3 at *
 generalize pkS l (pkS l (pkS l x 3) 100) 130 = z at *
 generalize pkV l (pkS l x 3) 100 = v2 at *
 generalize pkS l (pkS l x 3) 100 = y2 at *
 generalize pkV l x 3 = v1 at *
 generalize pkS l x 3 = y1 at *
 have wm : IntKind.i64.wrap (v3 - 30) = v3 - 30 := wrap_in (by omega) (by omega)
 have h3' : -30 ≤ v3 - 30 ∧ v3 - 30 < 100 := by omega
 have PA := l03Put v2 2 (by omega) (by omega) (by omega) (by omega)
 have PB := l03Put (v3 - 30) 2 (by omega) (by omega) (by omega) (by omega)
 obtain ⟨p0, p1, hp01⟩ := two_of (pt_len 2 v2)
 obtain ⟨q0, q9, hq01⟩ := two_of (pt_len 2 (v3 - 30))
 rw [hp01] at PA
 rw [hq01] at PB
 have w0 : IntKind.i64.wrap (1 + ((0 : Nat) : Int)) = 1 := rfl
 have w1 : IntKind.i64.wrap (1 + ((1 : Nat) : Int)) = 2 := rfl
 have w2 : IntKind.i64.wrap (3 + ((0 : Nat) : Int)) = 3 := rfl
 have w3 : IntKind.i64.wrap (3 + ((1 : Nat) : Int)) = 4 := rfl
 have hv : v1 = 0 ∨ v1 = 1 ∨ v1 = 2 := by omega
 rcases hv with rfl | rfl | rfl
 ·have e1 : (⟨#[65, 66, 49]⟩ : ByteArray).extract 0 3 = ⟨#[65, 66, 49]⟩ := by decide
  have e2 : (⟨#[65, 66, 49]⟩ : ByteArray).extract 0 1 = ⟨#[65]⟩ := by decide
  have e3 : (⟨#[65]⟩ ++ ⟨#[48, 48, 48, 48]⟩ : ByteArray) = ⟨#[65, 48, 48, 48, 48]⟩ := by decide
  have es : (⟨#[65, 66, 49]⟩ : ByteArray).size = 3 := rfl
  have LC := l03CardK 65
  rw [show ((65 : UInt8).toNat : Int) = 65 from rfl] at LC
  refine ⟨l03 65 :: ([p0, p1] ++ [q0, q9]), z, ⟨l03 65, v2, v3 - 30, .inl rfl, h2, h3', by rw [hp01, hq01]⟩, by omega, ?_⟩
  generalize hz : l03 48 = z0 at *
  generalize ha : l03 65 = a0 at *
  refine Cd.s_l13Card_k.o.fn Tryz.mixed (hin := [sB l x]) _ _ [.b 0] [sB l z] Cd.s_l13Card_k.n Cd.s_l13Card_k.r rfl (by simp) rfl (by simp) fun X => ?_
  unfold Cd.s_l13Card
  repeat' first|simp -dsimp only [go_sem, cC, sB, es, e1, e2, e3, w0, w1, w2, w3, wm]|apply Br.mk<;>intro h<;>try simp -dsimp only[h]|refine CallK.bor (by first|exact P1|exact P2|exact P3) rfl ?_|refine CallK.own (by first|exact LC) rfl ?_|refine CallK.c (by first|exact PA|exact PB) ?_|refine aC ?_|fail
  refine LoopK.at dM (X := { k : Nat // k ≤ 2 }) (fun k => [(8, .v (.int .i64 (k.1 : Nat)))]) (fun k => [(.t 14 0, .arr 1 (E cI (rowK a0 z0 p0 p1 q0 q9 k.1)) false)]) (fun k => 2 - k.1) ⟨0, by omega⟩ ?_ ?_
  ·simp [Vs.LeL, Vs.look, Vs.hlook, Vs.sput, Vs.sputs, Vs.hset, Vs.hputs, rowK, Vs.E, cI, sB]
  ·rintro ⟨k, hk⟩
   try dsimp only at hk
   have hk3 : k = 0 ∨ k = 1 ∨ k = 2 := by omega
   rcases hk3 with rfl | rfl | rfl
   ·have hw : IntKind.i64.wrap (((0 : Nat) : Int) + 1) = ((1 : Nat) : Int) := rfl
    simp -dsimp only [go_sem, cC, sB, es, e1, e2, e3, w0, w1, w2, w3, wm, rowK, Vs.E, cI, List.map_cons, List.map_nil, hw]
    refine Br.mk (fun hc => ?_) fun hc => ?_
    ·try simp -dsimp only [go_sem, cC, sB, es, e1, e2, e3, w0, w1, w2, w3, wm, rowK, Vs.E, cI, List.map_cons, List.map_nil, hw]
     repeat' first|simp -dsimp only [go_sem, cC, sB, es, e1, e2, e3, w0, w1, w2, w3, wm, rowK, Vs.E, cI, List.map_cons, List.map_nil, hw]|apply Br.mk<;>intro h<;>try simp -dsimp only[h]|refine aC ?_|fail
     all_goals first | omega | (refine ⟨⟨1, by omega⟩, ?_, by simp only; omega⟩; simp [Vs.LeL, Vs.look, Vs.hlook, Vs.sput, Vs.sputs, Vs.hset, Vs.hputs, rowK, Vs.E, cI, sB]; done)
    ·exact absurd hc (by decide)
   ·have hw : IntKind.i64.wrap (((1 : Nat) : Int) + 1) = ((2 : Nat) : Int) := rfl
    simp -dsimp only [go_sem, cC, sB, es, e1, e2, e3, w0, w1, w2, w3, wm, rowK, Vs.E, cI, List.map_cons, List.map_nil, hw]
    refine Br.mk (fun hc => ?_) fun hc => ?_
    ·try simp -dsimp only [go_sem, cC, sB, es, e1, e2, e3, w0, w1, w2, w3, wm, rowK, Vs.E, cI, List.map_cons, List.map_nil, hw]
     repeat' first|simp -dsimp only [go_sem, cC, sB, es, e1, e2, e3, w0, w1, w2, w3, wm, rowK, Vs.E, cI, List.map_cons, List.map_nil, hw]|apply Br.mk<;>intro h<;>try simp -dsimp only[h]|refine aC ?_|fail
     all_goals first | omega | (refine ⟨⟨2, by omega⟩, ?_, by simp only; omega⟩; simp [Vs.LeL, Vs.look, Vs.hlook, Vs.sput, Vs.sputs, Vs.hset, Vs.hputs, rowK, Vs.E, cI, sB]; done)
    ·exact absurd hc (by decide)
   ·simp -dsimp only [go_sem, cC, sB, es, e1, e2, e3, w0, w1, w2, w3, wm, rowK]
    refine Br.mk (fun hc => absurd hc (by decide)) fun hc => ?_
    try simp -dsimp only [go_sem, cC, sB, es, e1, e2, e3, w0, w1, w2, w3, wm, rowK]
    all_goals first | exact ⟨⟨_, _, rfl, rfl⟩, fun h => h rfl⟩ | exact ⟨_, _, rfl, rfl⟩ | (refine ⟨?_, fun h => h rfl⟩; exact ⟨_, _, rfl, rfl⟩)
 ·have e1 : (⟨#[65, 66, 49]⟩ : ByteArray).extract 1 3 = ⟨#[66, 49]⟩ := by decide
  have e2 : (⟨#[66, 49]⟩ : ByteArray).extract 0 1 = ⟨#[66]⟩ := by decide
  have e3 : (⟨#[66]⟩ ++ ⟨#[48, 48, 48, 48]⟩ : ByteArray) = ⟨#[66, 48, 48, 48, 48]⟩ := by decide
  have es : (⟨#[66, 49]⟩ : ByteArray).size = 2 := rfl
  have LC := l03CardK 66
  rw [show ((66 : UInt8).toNat : Int) = 66 from rfl] at LC
  refine ⟨l03 66 :: ([p0, p1] ++ [q0, q9]), z, ⟨l03 66, v2, v3 - 30, .inr (.inl rfl), h2, h3', by rw [hp01, hq01]⟩, by omega, ?_⟩
  generalize hz : l03 48 = z0 at *
  generalize ha : l03 66 = a0 at *
  refine Cd.s_l13Card_k.o.fn Tryz.mixed (hin := [sB l x]) _ _ [.b 0] [sB l z] Cd.s_l13Card_k.n Cd.s_l13Card_k.r rfl (by simp) rfl (by simp) fun X => ?_
  unfold Cd.s_l13Card
  repeat' first|simp -dsimp only [go_sem, cC, sB, es, e1, e2, e3, w0, w1, w2, w3, wm]|apply Br.mk<;>intro h<;>try simp -dsimp only[h]|refine CallK.bor (by first|exact P1|exact P2|exact P3) rfl ?_|refine CallK.own (by first|exact LC) rfl ?_|refine CallK.c (by first|exact PA|exact PB) ?_|refine aC ?_|fail
  refine LoopK.at dM (X := { k : Nat // k ≤ 2 }) (fun k => [(8, .v (.int .i64 (k.1 : Nat)))]) (fun k => [(.t 14 0, .arr 1 (E cI (rowK a0 z0 p0 p1 q0 q9 k.1)) false)]) (fun k => 2 - k.1) ⟨0, by omega⟩ ?_ ?_
  ·simp [Vs.LeL, Vs.look, Vs.hlook, Vs.sput, Vs.sputs, Vs.hset, Vs.hputs, rowK, Vs.E, cI, sB]
  ·rintro ⟨k, hk⟩
   try dsimp only at hk
   have hk3 : k = 0 ∨ k = 1 ∨ k = 2 := by omega
   rcases hk3 with rfl | rfl | rfl
   ·have hw : IntKind.i64.wrap (((0 : Nat) : Int) + 1) = ((1 : Nat) : Int) := rfl
    simp -dsimp only [go_sem, cC, sB, es, e1, e2, e3, w0, w1, w2, w3, wm, rowK, Vs.E, cI, List.map_cons, List.map_nil, hw]
    refine Br.mk (fun hc => ?_) fun hc => ?_
    ·try simp -dsimp only [go_sem, cC, sB, es, e1, e2, e3, w0, w1, w2, w3, wm, rowK, Vs.E, cI, List.map_cons, List.map_nil, hw]
     repeat' first|simp -dsimp only [go_sem, cC, sB, es, e1, e2, e3, w0, w1, w2, w3, wm, rowK, Vs.E, cI, List.map_cons, List.map_nil, hw]|apply Br.mk<;>intro h<;>try simp -dsimp only[h]|refine aC ?_|fail
     all_goals first | omega | (refine ⟨⟨1, by omega⟩, ?_, by simp only; omega⟩; simp [Vs.LeL, Vs.look, Vs.hlook, Vs.sput, Vs.sputs, Vs.hset, Vs.hputs, rowK, Vs.E, cI, sB]; done)
    ·exact absurd hc (by decide)
   ·have hw : IntKind.i64.wrap (((1 : Nat) : Int) + 1) = ((2 : Nat) : Int) := rfl
    simp -dsimp only [go_sem, cC, sB, es, e1, e2, e3, w0, w1, w2, w3, wm, rowK, Vs.E, cI, List.map_cons, List.map_nil, hw]
    refine Br.mk (fun hc => ?_) fun hc => ?_
    ·try simp -dsimp only [go_sem, cC, sB, es, e1, e2, e3, w0, w1, w2, w3, wm, rowK, Vs.E, cI, List.map_cons, List.map_nil, hw]
     repeat' first|simp -dsimp only [go_sem, cC, sB, es, e1, e2, e3, w0, w1, w2, w3, wm, rowK, Vs.E, cI, List.map_cons, List.map_nil, hw]|apply Br.mk<;>intro h<;>try simp -dsimp only[h]|refine aC ?_|fail
     all_goals first | omega | (refine ⟨⟨2, by omega⟩, ?_, by simp only; omega⟩; simp [Vs.LeL, Vs.look, Vs.hlook, Vs.sput, Vs.sputs, Vs.hset, Vs.hputs, rowK, Vs.E, cI, sB]; done)
    ·exact absurd hc (by decide)
   ·simp -dsimp only [go_sem, cC, sB, es, e1, e2, e3, w0, w1, w2, w3, wm, rowK]
    refine Br.mk (fun hc => absurd hc (by decide)) fun hc => ?_
    try simp -dsimp only [go_sem, cC, sB, es, e1, e2, e3, w0, w1, w2, w3, wm, rowK]
    all_goals first | exact ⟨⟨_, _, rfl, rfl⟩, fun h => h rfl⟩ | exact ⟨_, _, rfl, rfl⟩ | (refine ⟨?_, fun h => h rfl⟩; exact ⟨_, _, rfl, rfl⟩)
 ·have e1 : (⟨#[65, 66, 49]⟩ : ByteArray).extract 2 3 = ⟨#[49]⟩ := by decide
  have e2 : (⟨#[49]⟩ : ByteArray).extract 0 1 = ⟨#[49]⟩ := by decide
  have e3 : (⟨#[49]⟩ ++ ⟨#[48, 48, 48, 48]⟩ : ByteArray) = ⟨#[49, 48, 48, 48, 48]⟩ := by decide
  have es : (⟨#[49]⟩ : ByteArray).size = 1 := rfl
  have LC := l03CardK 49
  rw [show ((49 : UInt8).toNat : Int) = 49 from rfl] at LC
  refine ⟨l03 49 :: ([p0, p1] ++ [q0, q9]), z, ⟨l03 49, v2, v3 - 30, .inr (.inr rfl), h2, h3', by rw [hp01, hq01]⟩, by omega, ?_⟩
  generalize hz : l03 48 = z0 at *
  generalize ha : l03 49 = a0 at *
  refine Cd.s_l13Card_k.o.fn Tryz.mixed (hin := [sB l x]) _ _ [.b 0] [sB l z] Cd.s_l13Card_k.n Cd.s_l13Card_k.r rfl (by simp) rfl (by simp) fun X => ?_
  unfold Cd.s_l13Card
  repeat' first|simp -dsimp only [go_sem, cC, sB, es, e1, e2, e3, w0, w1, w2, w3, wm]|apply Br.mk<;>intro h<;>try simp -dsimp only[h]|refine CallK.bor (by first|exact P1|exact P2|exact P3) rfl ?_|refine CallK.own (by first|exact LC) rfl ?_|refine CallK.c (by first|exact PA|exact PB) ?_|refine aC ?_|fail
  refine LoopK.at dM (X := { k : Nat // k ≤ 2 }) (fun k => [(8, .v (.int .i64 (k.1 : Nat)))]) (fun k => [(.t 14 0, .arr 1 (E cI (rowK a0 z0 p0 p1 q0 q9 k.1)) false)]) (fun k => 2 - k.1) ⟨0, by omega⟩ ?_ ?_
  ·simp [Vs.LeL, Vs.look, Vs.hlook, Vs.sput, Vs.sputs, Vs.hset, Vs.hputs, rowK, Vs.E, cI, sB]
  ·rintro ⟨k, hk⟩
   try dsimp only at hk
   have hk3 : k = 0 ∨ k = 1 ∨ k = 2 := by omega
   rcases hk3 with rfl | rfl | rfl
   ·have hw : IntKind.i64.wrap (((0 : Nat) : Int) + 1) = ((1 : Nat) : Int) := rfl
    simp -dsimp only [go_sem, cC, sB, es, e1, e2, e3, w0, w1, w2, w3, wm, rowK, Vs.E, cI, List.map_cons, List.map_nil, hw]
    refine Br.mk (fun hc => ?_) fun hc => ?_
    ·try simp -dsimp only [go_sem, cC, sB, es, e1, e2, e3, w0, w1, w2, w3, wm, rowK, Vs.E, cI, List.map_cons, List.map_nil, hw]
     repeat' first|simp -dsimp only [go_sem, cC, sB, es, e1, e2, e3, w0, w1, w2, w3, wm, rowK, Vs.E, cI, List.map_cons, List.map_nil, hw]|apply Br.mk<;>intro h<;>try simp -dsimp only[h]|refine aC ?_|fail
     all_goals first | omega | (refine ⟨⟨1, by omega⟩, ?_, by simp only; omega⟩; simp [Vs.LeL, Vs.look, Vs.hlook, Vs.sput, Vs.sputs, Vs.hset, Vs.hputs, rowK, Vs.E, cI, sB]; done)
    ·exact absurd hc (by decide)
   ·have hw : IntKind.i64.wrap (((1 : Nat) : Int) + 1) = ((2 : Nat) : Int) := rfl
    simp -dsimp only [go_sem, cC, sB, es, e1, e2, e3, w0, w1, w2, w3, wm, rowK, Vs.E, cI, List.map_cons, List.map_nil, hw]
    refine Br.mk (fun hc => ?_) fun hc => ?_
    ·try simp -dsimp only [go_sem, cC, sB, es, e1, e2, e3, w0, w1, w2, w3, wm, rowK, Vs.E, cI, List.map_cons, List.map_nil, hw]
     repeat' first|simp -dsimp only [go_sem, cC, sB, es, e1, e2, e3, w0, w1, w2, w3, wm, rowK, Vs.E, cI, List.map_cons, List.map_nil, hw]|apply Br.mk<;>intro h<;>try simp -dsimp only[h]|refine aC ?_|fail
     all_goals first | omega | (refine ⟨⟨2, by omega⟩, ?_, by simp only; omega⟩; simp [Vs.LeL, Vs.look, Vs.hlook, Vs.sput, Vs.sputs, Vs.hset, Vs.hputs, rowK, Vs.E, cI, sB]; done)
    ·exact absurd hc (by decide)
   ·simp -dsimp only [go_sem, cC, sB, es, e1, e2, e3, w0, w1, w2, w3, wm, rowK]
    refine Br.mk (fun hc => absurd hc (by decide)) fun hc => ?_
    try simp -dsimp only [go_sem, cC, sB, es, e1, e2, e3, w0, w1, w2, w3, wm, rowK]
    all_goals first | exact ⟨⟨_, _, rfl, rfl⟩, fun h => h rfl⟩ | exact ⟨_, _, rfl, rfl⟩ | (refine ⟨?_, fun h => h rfl⟩; exact ⟨_, _, rfl, rfl⟩)
end Go.Proofs.YtidbcoagjbbjdaaGreatDoor
