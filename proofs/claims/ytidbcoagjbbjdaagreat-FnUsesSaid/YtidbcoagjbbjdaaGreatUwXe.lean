/- The trays that a flow uses: the program's FlowUses. -/
import Derived.Test.YtidbcoagjbbjdaaGreatUuM
import Derived.Test.YtidbcoagjbbjdaaGreatVtR
import Derived.Test.YtidbcoagjbbjdaaGreatUuO
set_option linter.unusedSimpArgs false
set_option linter.unusedVariables false
set_option linter.unusedSectionVars false
set_option maxHeartbeats 8000000
namespace Go.Proofs.YtidbcoagjbbjdaaGreat
open Go.Vs
section
variable [Vs.Envs]
attribute [local irreducible] Vs.Fn chOK areCh chTo chAt l03
theorem flat_one {b0 : Blk} (h : Vs.flatB b0) : ∀ b, some b ∈ [some b0] → Vs.flatB b := by
 intro b hb
 have : b = b0 := by simpa using hb
 subst this; exact h
def bl (u : List Bool) : List AV := u.map fun b => .v (.bool b)
theorem bl_len (u : List Bool) : (bl u).length = u.length := by simp [bl]
theorem bl_get {u : List Bool} {c : Nat} (h : c < u.length) : ((bl u).drop c).take 1 = [.v (.bool (u.getD c false))] := by
 have e : bl u = u.map fun b => AV.v (.bool b) := rfl
 rw [e, ← List.map_drop, ← List.map_take, List.drop_eq_getElem_cons h, List.take_succ_cons, List.take_zero, List.map_cons, List.map_nil]
 simp [List.getD, h]
theorem bl_set (u : List Bool) (c : Nat) (b : Bool) : (bl u).set c (.v (.bool b)) = bl (u.set c b) := by simp [bl, List.map_set]
def sel (u : List Bool) (n : Nat) : List Int := ((List.range n).filter fun t => u.getD t false).map fun (t : Nat) => ((t : Nat) : Int)
theorem sel_len (u : List Bool) (n : Nat) : (sel u n).length ≤ n := by
 unfold sel
 rw [List.length_map]
 exact Nat.le_trans (List.length_filter_le _ _) (by simp)
theorem sel_succ (u : List Bool) (n : Nat) : sel u (n + 1) = sel u n ++ (if u.getD n false then [(n : Int)] else []) := by
 unfold sel
 rw [List.range_succ, List.filter_append, List.map_append, List.filter_cons, List.filter_nil]
 cases u.getD n false <;> rfl
theorem hap : ∀ (l : List Int) (x : Int), E cI l ++ [[.v (.int .i64 x)]] = E cI (l ++ [x]) := fun l x => by rw [E_append]; rfl
end
section
variable [Vs.Envs]
attribute [local irreducible] Vs.Fn chOK areCh chTo chAt l03
theorem use1 (u : List Bool) (hu : u.length = 6) (t : Nat) (ht : t < 6) : Fz F.i_FlowUses_1 [.v (.int .i64 t), .ro (bl u)] (.v (.bool (u.getD t false))) := by
 have hg := bl_get (u := u) (c := t) (by omega)
 have hl := bl_len u
 refine fn0 Cd.i_FlowUses_1_k fun X => ?_
 simp -dsimp only [go_sem, Int.toNat_natCast, Nat.mul_one, List.length_drop, bl_len, hu, hg]
 exact ⟨⟨by omega, by omega, by omega⟩, by omega, ret_eq rfl⟩
theorem colsO (u : List Bool) (hu : u.length = 6) : Vs.Fn Tryz.prog F.i_columnsWhere [] [.v (.int .i64 6), .fn F.i_FlowUses_1 [.ro (bl u)]] (.loc (.b 0) 0 (sel u 6).length) [some (.arr 1 (E cI (sel u 6)) false)] := by
 refine Cd.i_columnsWhere_k.o.fn Tryz.mixed (hin := []) 21 _ [.t 5 0] [.arr 1 (E cI (sel u 6)) false] Cd.i_columnsWhere_k.n Cd.i_columnsWhere_k.r rfl (by simp) rfl (by simp) fun X => ?_
 unfold Cd.i_columnsWhere
 simp -dsimp only [go_sem]
 refine ⟨⟨by omega, by omega⟩, rfl, ?_⟩
 refine LoopK.intro (drawn_ok Tryz.mixed) (X := { i : Nat // i ≤ 6 }) (fun i => ⟨[(1, .fn F.i_FlowUses_1 [.ro (bl u)]), (5, .loc (.t 5 0) 0 (sel u i.1).length), (8, .v (.int .i64 6)), (9, .v (.int .i64 i.1))], [(.t 5 0, .arr 1 (E cI (sel u i.1)) false)]⟩) (fun i => 6 - i.1) ⟨0, by omega⟩ ?_ ?_
 ·simp [Vs.LeL, Vs.look, Vs.hlook, sel, Vs.E]
 ·rintro ⟨i, hi⟩
  simp -dsimp only [go_sem]
  refine Br.mk (fun hc => ?_) fun hc => ?_
  ·have hlt : i < 6 := by simp at hc; omega
   have hw : IntKind.i64.wrap ((i : Int) + 1) = ((i + 1 : Nat) : Int) := by rw [wrap_in (by omega) (by omega)]; omega
   have hsl := sel_len u i
   have hs := sel_succ u i
   cases hb : u.getD i false
   ·rw [hb] at hs
    have hs : sel u (i + 1) = sel u i := by simpa using hs
    repeat' first
     |simp -dsimp only [go_sem, hw, hb, hap, E_len, E_take, List.replicate_succ, List.replicate_zero, List.flatten_cons, List.flatten_nil, List.length_append, List.length_cons, List.length_nil]
     |refine Br.mk ?_ ?_<;>intro h<;>try simp -dsimp only[h]
     |refine CallK.c (by first|exact use1 u hu i hlt) ?_
     |refine and_c ?_
     |fail
    all_goals (exact ⟨⟨i + 1, by omega⟩, by simp [Vs.LeL, Vs.look, Vs.hlook, hs], by simp only; omega⟩)
   ·rw [hb] at hs
    have hs : sel u (i + 1) = sel u i ++ [(i : Int)] := by simpa using hs
    repeat' first
     |simp -dsimp only [go_sem, hw, hb, hap, E_len, E_take, List.replicate_succ, List.replicate_zero, List.flatten_cons, List.flatten_nil, List.length_append, List.length_cons, List.length_nil]
     |refine Br.mk ?_ ?_<;>intro h<;>try simp -dsimp only[h]
     |refine CallK.c (by first|exact use1 u hu i hlt) ?_
     |refine and_c ?_
     |fail
    all_goals (exact ⟨⟨i + 1, by omega⟩, by simp [Vs.LeL, Vs.look, Vs.hlook, hs], by simp only; omega⟩)
  ·have hge : i = 6 := by simp at hc; omega
   subst hge
   simp -dsimp only [go_sem]
   exact ⟨⟨_, _, rfl, rfl⟩, fun h => h rfl⟩
end
section
variable [Vs.Envs]
attribute [local irreducible] Vs.Fn chOK areCh chTo chAt l03
theorem six_of {u : List Bool} (h : u.length = 6) : ∃ a b c d e f, u = [a, b, c, d, e, f] := by
 match u, h with
 | [a, b, c, d, e, f], _ => exact ⟨a, b, c, d, e, f, rfl⟩
def f1 (u m : List Bool) (c : Nat) : List Bool := if m.getD c false then u else u.set c true
def QA (l : List Stp) (x : Stp) (i : Nat) (w m : List Bool) (σ : St) : Prop :=
 keepL σ.s [4, 5, 7, 13, 14, 15] = [(4, .ptr (.t 4 0) 0 0), (5, .ptr (.t 5 0) 0 0), (7, .ptr (.t 7 0) 0 0), (13, .sl 9 (E cS l)), (14, .v (.int .i64 l.length)), (15, .v (.int .i64 i))] ∧
 σ.h = [(.t 7 0, .var (cS x) false), (.t 5 0, .var (bl m) false), (.t 4 0, .var (bl w) false)]
def fuN (um : List Bool × List Bool) (x : Stp) : List Bool × List Bool :=
 (if inB x.kind 2 4 then f1 (f1 um.1 um.2 x.a.toNat) um.2 x.b.toNat else f1 um.1 um.2 x.a.toNat, if x.kind = 7 then um.2 else um.2.set x.to.toNat true)
def six : List Bool := [false, false, false, false, false, false]
def fuS (l : List Stp) (i : Nat) : List Bool × List Bool := (l.take i).foldl fuN (six, six)
theorem fuS_succ {l : List Stp} {i : Nat} (h : i < l.length) : fuS l (i + 1) = fuN (fuS l i) l[i] := by
 unfold fuS
 rw [take_succ h, List.foldl_append]; rfl
theorem f1_len (u m : List Bool) (c : Nat) : (f1 u m c).length = u.length := by unfold f1; split <;> simp
theorem fuS_len (l : List Stp) : ∀ i, i ≤ l.length → (fuS l i).1.length = 6 ∧ (fuS l i).2.length = 6
 | 0, _ => ⟨rfl, rfl⟩
 | i + 1, h => by
  obtain ⟨h1, h2⟩ := fuS_len l i (by omega)
  rw [fuS_succ (by omega)]
  constructor
  ·unfold fuN
   dsimp only
   split
   ·rw [f1_len, f1_len]; exact h1
   ·rw [f1_len]; exact h1
  ·unfold fuN
   dsimp only
   split
   ·exact h2
   ·rw [List.length_set]; exact h2
theorem set_getD {u : List Bool} {c : Nat} (h : c < u.length) : u.set c (u.getD c false) = u := by
 have e : u.getD c false = u[c] := by simp [List.getD, h]
 rw [e, List.set_getElem_self]
theorem f1_eq {u m : List Bool} {c : Nat} (h : c < u.length) : u.set c (u.getD c false || !m.getD c false) = f1 u m c := by
 unfold f1
 cases m.getD c false
 ·simp
 ·simpa using set_getD h
theorem stpB_in {x : Stp} (h : stpB x 20 = true) : (0 ≤ x.a ∧ x.a ≤ 5) ∧ (0 ≤ x.b ∧ x.b ≤ 5) ∧ (0 ≤ x.to ∧ x.to ≤ 5) := by
 simp only [stpB, inB, Bool.and_eq_true, decide_eq_true_eq] at h
 obtain ⟨h1, h2, h3, h4, _⟩ := h
 omega
set_option maxRecDepth 20000 in
theorem impl_FlowUses1 (l : List Stp) (hs : ∀ x, x ∈ l → x.text.size ≤ 1048576) (hl : l.length ≤ 1048576) (hv : (l.all (fun x => stpB x 20) && decide ((l.length : Int) ≤ 20)) = true) : Vs.Fn Tryz.prog F.i_FlowUses [] [.sl 9 (E cS l)] (.tup [.loc (.b 0) 0 (sel (fuS l l.length).1 6).length, .v (.int .i64 0)]) [some (.arr 1 (E cI (sel (fuS l l.length).1 6)) false)] := by
 have i20 : inB 20 1 20 = true := by decide
 have hbl : bl six = [.v (.bool false), .v (.bool false), .v (.bool false), .v (.bool false), .v (.bool false), .v (.bool false)] := rfl
 have hal : ∀ x, x ∈ l → stpB x 20 = true := by
  simp only [Bool.and_eq_true, List.all_eq_true] at hv
  exact hv.1
 refine Cd.i_FlowUses_k.o.fn Tryz.mixed (hin := []) 59 _ [.t 58 0] [.arr 1 (E cI (sel (fuS l l.length).1 6)) false] Cd.i_FlowUses_k.n Cd.i_FlowUses_k.r rfl (by simp) rfl (by simp) fun X => ?_
 unfold Cd.i_FlowUses
 simp -dsimp only [go_sem]
 repeat' first
  |simp -dsimp only [go_sem, i20, hv, Bool.and_true]
  |refine Br.mk ?_ ?_<;>intro h<;>try simp -dsimp only[h]
  |refine CallK.c (by first|exact impl_ValidFlow l 20 hs hl) ?_
  |refine and_c ?_
  |fail
 refine LoopK.at (drawn_ok Tryz.mixed) (X := { zz : Nat × List Bool × List Bool // zz.1 ≤ l.length ∧ zz.2 = fuS l zz.1 }) (fun zz => [(15, .v (.int .i64 zz.1.1))]) (fun zz => [(.t 4 0, .var (bl zz.1.2.1) false), (.t 5 0, .var (bl zz.1.2.2) false)]) (fun zz => l.length - zz.1.1) ⟨(0, six, six), by omega, rfl⟩ ?_ ?_
 ·simp [Vs.LeL, Vs.look, Vs.hlook, Vs.sput, Vs.sputs, Vs.hset, Vs.hputs, hbl]
 ·rintro ⟨⟨i, u, m⟩, hi, hum⟩
  dsimp only at hi hum
  have hu : u.length = 6 := by have := (fuS_len l i hi).1; rw [← hum] at this; exact this
  have hm : m.length = 6 := by have := (fuS_len l i hi).2; rw [← hum] at this; exact this
  simp -dsimp only [go_sem]
  refine Br.mk (fun hc => ?_) fun hc => ?_
  ·have hlt : i < l.length := by simpa using hc
   have hw := wrap_succ hlt hl
   obtain ⟨u0, u1, u2, u3, u4, u5, rfl⟩ := six_of hu
   obtain ⟨m0, m1, m2, m3, m4, m5, rfl⟩ := six_of hm
   have hgi : (E cS l).getD i [] = cS l[i] := E_get hlt
   obtain ⟨⟨a0, a1⟩, ⟨b0, b1⟩, t0, t1⟩ := stpB_in (hal _ (List.getElem_mem hlt))
   obtain ⟨v0, v1, v2, v3, v4, v5, hv6⟩ := six_of (u := f1 [u0, u1, u2, u3, u4, u5] [m0, m1, m2, m3, m4, m5] l[i].a.toNat) (by rw [f1_len]; rfl)
   simp -dsimp only [go_sem, hw, hgi, cS, bl_len, bl_set, f1_len, List.length_set, List.length_cons, List.length_nil, Int.toNat_natCast, Nat.mul_one, Nat.zero_add]
   refine ⟨⟨by omega, by omega⟩, rfl, ?_⟩
   have agu := bl_get (u := [u0, u1, u2, u3, u4, u5]) (c := l[i].a.toNat) (by simp only [List.length_cons, List.length_nil]; omega)
   have agm := bl_get (u := [m0, m1, m2, m3, m4, m5]) (c := l[i].a.toNat) (by simp only [List.length_cons, List.length_nil]; omega)
   have ae := f1_eq (u := [u0, u1, u2, u3, u4, u5]) (m := [m0, m1, m2, m3, m4, m5]) (c := l[i].a.toNat) (by simp only [List.length_cons, List.length_nil]; omega)
   rw [hv6] at ae
   refine RgK.cut (QA l l[i] i [v0, v1, v2, v3, v4, v5] [m0, m1, m2, m3, m4, m5]) ?_ ?_
   ·refine RgK.mk rfl ?_
    cases ahm : [m0, m1, m2, m3, m4, m5].getD l[i].a.toNat false
    ·cases ahu : [u0, u1, u2, u3, u4, u5].getD l[i].a.toNat false
     ·rw [ahu] at agu ae
      rw [ahm] at agm ae
      simp only [Bool.not_false, Bool.not_true, Bool.or_true, Bool.or_false, Bool.true_or, Bool.false_or] at ae
      repeat' first
       |simp -dsimp only [go_sem, hw, hgi, cS, bl_len, bl_set, f1_len, List.length_set, List.length_cons, List.length_nil, Int.toNat_natCast, Nat.mul_one, Nat.zero_add, agu, agm, ae]
       |refine Br.mk ?_ ?_<;>intro h<;>try simp -dsimp only[h]
       |refine and_c ?_
       |fail
      all_goals first | exact ⟨rfl, rfl⟩ | rfl
     ·rw [ahu] at agu ae
      rw [ahm] at agm ae
      simp only [Bool.not_false, Bool.not_true, Bool.or_true, Bool.or_false, Bool.true_or, Bool.false_or] at ae
      repeat' first
       |simp -dsimp only [go_sem, hw, hgi, cS, bl_len, bl_set, f1_len, List.length_set, List.length_cons, List.length_nil, Int.toNat_natCast, Nat.mul_one, Nat.zero_add, agu, agm, ae]
       |refine Br.mk ?_ ?_<;>intro h<;>try simp -dsimp only[h]
       |refine and_c ?_
       |fail
      all_goals first | exact ⟨rfl, rfl⟩ | rfl
    ·cases ahu : [u0, u1, u2, u3, u4, u5].getD l[i].a.toNat false
     ·rw [ahu] at agu ae
      rw [ahm] at agm ae
      simp only [Bool.not_false, Bool.not_true, Bool.or_true, Bool.or_false, Bool.true_or, Bool.false_or] at ae
      repeat' first
       |simp -dsimp only [go_sem, hw, hgi, cS, bl_len, bl_set, f1_len, List.length_set, List.length_cons, List.length_nil, Int.toNat_natCast, Nat.mul_one, Nat.zero_add, agu, agm, ae]
       |refine Br.mk ?_ ?_<;>intro h<;>try simp -dsimp only[h]
       |refine and_c ?_
       |fail
      all_goals first | exact ⟨rfl, rfl⟩ | rfl
     ·rw [ahu] at agu ae
      rw [ahm] at agm ae
      simp only [Bool.not_false, Bool.not_true, Bool.or_true, Bool.or_false, Bool.true_or, Bool.false_or] at ae
      repeat' first
       |simp -dsimp only [go_sem, hw, hgi, cS, bl_len, bl_set, f1_len, List.length_set, List.length_cons, List.length_nil, Int.toNat_natCast, Nat.mul_one, Nat.zero_add, agu, agm, ae]
       |refine Br.mk ?_ ?_<;>intro h<;>try simp -dsimp only[h]
       |refine and_c ?_
       |fail
      all_goals first | exact ⟨rfl, rfl⟩ | rfl
   ·rintro σ' ⟨hsl, hhp⟩
    first | rw [hsl, hhp] | (dsimp only; rw [hsl, hhp])
    cases hk4 : inB l[i].kind 2 4
    ·by_cases h7 : l[i].kind = 7
     ·have e7 : (l[i].kind != 7) = false := by simp [h7]
      have hnx : ([v0, v1, v2, v3, v4, v5], [m0, m1, m2, m3, m4, m5]) = fuS l (i + 1) := by rw [fuS_succ hlt, ← hum]; unfold fuN; dsimp only; rw [hk4, hv6]; rw [if_neg (by decide), if_pos h7]
      repeat' first
       |simp -dsimp only [go_sem, hw, hgi, cS, bl_len, bl_set, f1_len, List.length_set, List.length_cons, List.length_nil, Int.toNat_natCast, Nat.mul_one, Nat.zero_add, e7, hk4]
       |refine Br.mk ?_ ?_<;>intro h<;>try simp -dsimp only[h]
       |refine CallK.c (by first|exact takesTwo _) ?_
       |refine and_c ?_
       |fail
      all_goals (exact ⟨⟨(i + 1, [v0, v1, v2, v3, v4, v5], [m0, m1, m2, m3, m4, m5]), hlt, hnx⟩, by simp [Vs.LeL, Vs.look, Vs.hlook, bl_set], by simp only; omega⟩)
     ·have e7 : (l[i].kind != 7) = true := by simp [h7]
      have hnx : ([v0, v1, v2, v3, v4, v5], [m0, m1, m2, m3, m4, m5].set l[i].to.toNat true) = fuS l (i + 1) := by rw [fuS_succ hlt, ← hum]; unfold fuN; dsimp only; rw [hk4, hv6]; rw [if_neg (by decide), if_neg h7]
      repeat' first
       |simp -dsimp only [go_sem, hw, hgi, cS, bl_len, bl_set, f1_len, List.length_set, List.length_cons, List.length_nil, Int.toNat_natCast, Nat.mul_one, Nat.zero_add, e7, hk4]
       |refine Br.mk ?_ ?_<;>intro h<;>try simp -dsimp only[h]
       |refine CallK.c (by first|exact takesTwo _) ?_
       |refine and_c ?_
       |fail
      all_goals (exact ⟨⟨(i + 1, [v0, v1, v2, v3, v4, v5], [m0, m1, m2, m3, m4, m5].set l[i].to.toNat true), hlt, hnx⟩, by simp [Vs.LeL, Vs.look, Vs.hlook, bl_set], by simp only; omega⟩)
    ·obtain ⟨w0, w1, w2, w3, w4, w5, hw6⟩ := six_of (u := f1 [v0, v1, v2, v3, v4, v5] [m0, m1, m2, m3, m4, m5] l[i].b.toNat) (by rw [f1_len]; rfl)
     simp -dsimp only [go_sem, hw, hgi, cS, bl_len, bl_set, f1_len, List.length_set, List.length_cons, List.length_nil, Int.toNat_natCast, Nat.mul_one, Nat.zero_add, hk4]
     refine CallK.flat (takesTwo _) rfl ?_
     simp -dsimp only [go_sem, hw, hgi, cS, bl_len, bl_set, f1_len, List.length_set, List.length_cons, List.length_nil, Int.toNat_natCast, Nat.mul_one, Nat.zero_add, hk4]
     have bgu := bl_get (u := [v0, v1, v2, v3, v4, v5]) (c := l[i].b.toNat) (by simp only [List.length_cons, List.length_nil]; omega)
     have bgm := bl_get (u := [m0, m1, m2, m3, m4, m5]) (c := l[i].b.toNat) (by simp only [List.length_cons, List.length_nil]; omega)
     have be := f1_eq (u := [v0, v1, v2, v3, v4, v5]) (m := [m0, m1, m2, m3, m4, m5]) (c := l[i].b.toNat) (by simp only [List.length_cons, List.length_nil]; omega)
     rw [hw6] at be
     refine RgK.cut (QA l l[i] i [w0, w1, w2, w3, w4, w5] [m0, m1, m2, m3, m4, m5]) ?_ ?_
     ·refine RgK.mk rfl ?_
      cases bhm : [m0, m1, m2, m3, m4, m5].getD l[i].b.toNat false
      ·cases bhu : [v0, v1, v2, v3, v4, v5].getD l[i].b.toNat false
       ·rw [bhu] at bgu be
        rw [bhm] at bgm be
        simp only [Bool.not_false, Bool.not_true, Bool.or_true, Bool.or_false, Bool.true_or, Bool.false_or] at be
        repeat' first
         |simp -dsimp only [go_sem, hw, hgi, cS, bl_len, bl_set, f1_len, List.length_set, List.length_cons, List.length_nil, Int.toNat_natCast, Nat.mul_one, Nat.zero_add, bgu, bgm, be]
         |refine Br.mk ?_ ?_<;>intro h<;>try simp -dsimp only[h]
         |refine and_c ?_
         |fail
        all_goals first | exact ⟨rfl, rfl⟩ | rfl
       ·rw [bhu] at bgu be
        rw [bhm] at bgm be
        simp only [Bool.not_false, Bool.not_true, Bool.or_true, Bool.or_false, Bool.true_or, Bool.false_or] at be
        repeat' first
         |simp -dsimp only [go_sem, hw, hgi, cS, bl_len, bl_set, f1_len, List.length_set, List.length_cons, List.length_nil, Int.toNat_natCast, Nat.mul_one, Nat.zero_add, bgu, bgm, be]
         |refine Br.mk ?_ ?_<;>intro h<;>try simp -dsimp only[h]
         |refine and_c ?_
         |fail
        all_goals first | exact ⟨rfl, rfl⟩ | rfl
      ·cases bhu : [v0, v1, v2, v3, v4, v5].getD l[i].b.toNat false
       ·rw [bhu] at bgu be
        rw [bhm] at bgm be
        simp only [Bool.not_false, Bool.not_true, Bool.or_true, Bool.or_false, Bool.true_or, Bool.false_or] at be
        repeat' first
         |simp -dsimp only [go_sem, hw, hgi, cS, bl_len, bl_set, f1_len, List.length_set, List.length_cons, List.length_nil, Int.toNat_natCast, Nat.mul_one, Nat.zero_add, bgu, bgm, be]
         |refine Br.mk ?_ ?_<;>intro h<;>try simp -dsimp only[h]
         |refine and_c ?_
         |fail
        all_goals first | exact ⟨rfl, rfl⟩ | rfl
       ·rw [bhu] at bgu be
        rw [bhm] at bgm be
        simp only [Bool.not_false, Bool.not_true, Bool.or_true, Bool.or_false, Bool.true_or, Bool.false_or] at be
        repeat' first
         |simp -dsimp only [go_sem, hw, hgi, cS, bl_len, bl_set, f1_len, List.length_set, List.length_cons, List.length_nil, Int.toNat_natCast, Nat.mul_one, Nat.zero_add, bgu, bgm, be]
         |refine Br.mk ?_ ?_<;>intro h<;>try simp -dsimp only[h]
         |refine and_c ?_
         |fail
        all_goals first | exact ⟨rfl, rfl⟩ | rfl
     ·rintro σ' ⟨hsl, hhp⟩
      first | rw [hsl, hhp] | (dsimp only; rw [hsl, hhp])
      by_cases h7 : l[i].kind = 7
      ·have e7 : (l[i].kind != 7) = false := by simp [h7]
       have hnx : ([w0, w1, w2, w3, w4, w5], [m0, m1, m2, m3, m4, m5]) = fuS l (i + 1) := by rw [fuS_succ hlt, ← hum]; unfold fuN; dsimp only; rw [hk4, hv6, hw6]; rw [if_pos rfl, if_pos h7]
       repeat' first
        |simp -dsimp only [go_sem, hw, hgi, cS, bl_len, bl_set, f1_len, List.length_set, List.length_cons, List.length_nil, Int.toNat_natCast, Nat.mul_one, Nat.zero_add, e7, hk4]
        |refine Br.mk ?_ ?_<;>intro h<;>try simp -dsimp only[h]
        |refine CallK.c (by first|exact takesTwo _) ?_
        |refine and_c ?_
        |fail
       all_goals (exact ⟨⟨(i + 1, [w0, w1, w2, w3, w4, w5], [m0, m1, m2, m3, m4, m5]), hlt, hnx⟩, by simp [Vs.LeL, Vs.look, Vs.hlook, bl_set], by simp only; omega⟩)
      ·have e7 : (l[i].kind != 7) = true := by simp [h7]
       have hnx : ([w0, w1, w2, w3, w4, w5], [m0, m1, m2, m3, m4, m5].set l[i].to.toNat true) = fuS l (i + 1) := by rw [fuS_succ hlt, ← hum]; unfold fuN; dsimp only; rw [hk4, hv6, hw6]; rw [if_pos rfl, if_neg h7]
       repeat' first
        |simp -dsimp only [go_sem, hw, hgi, cS, bl_len, bl_set, f1_len, List.length_set, List.length_cons, List.length_nil, Int.toNat_natCast, Nat.mul_one, Nat.zero_add, e7, hk4]
        |refine Br.mk ?_ ?_<;>intro h<;>try simp -dsimp only[h]
        |refine CallK.c (by first|exact takesTwo _) ?_
        |refine and_c ?_
        |fail
       all_goals (exact ⟨⟨(i + 1, [w0, w1, w2, w3, w4, w5], [m0, m1, m2, m3, m4, m5].set l[i].to.toNat true), hlt, hnx⟩, by simp [Vs.LeL, Vs.look, Vs.hlook, bl_set], by simp only; omega⟩)
  ·have hge : i = l.length := by
    have : ¬ i < l.length := by simpa using hc
    omega
   subst hge
   have hus : u = (fuS l l.length).1 := by rw [← hum]
   have hco := colsO u hu
   have hfl : ∀ b, some b ∈ [some (Blk.arr 1 (E cI (sel u 6)) false)] → Vs.flatB b := flat_one (flatB_E (fun _ => rfl))
   rw [← hus]
   obtain ⟨u0, u1, u2, u3, u4, u5, rfl⟩ := six_of hu
   obtain ⟨m0, m1, m2, m3, m4, m5, rfl⟩ := six_of hm
   simp -dsimp only [go_sem, bl, List.map_cons, List.map_nil]
   refine ⟨CallK.lend hco rfl hfl rfl ?_, fun h => h rfl⟩
   simp -dsimp only [go_sem]
   exact ⟨_, _, rfl, rfl⟩
end
end Go.Proofs.YtidbcoagjbbjdaaGreat
