/- The control totals along a flow: the program. -/
import Derived.Test.YtagejhkjpgephaaGreatDoorXwVq
import Derived.Test.YtagejhkjpgephaaGreatDoorXwVo
set_option linter.unusedSimpArgs false
set_option linter.unusedVariables false
set_option maxHeartbeats 8000000
namespace Go.Proofs.YtagejhkjpgephaaGreatDoor
open Go.Vs
section
attribute [local irreducible] Vs.Fn keyC mgC selC mtC srtL fogL mat allN dkC dkL totB totL stpB wO chOK areCh chTo chAt l03 chB rk cd3 chI stp stpTo
open Go.Vs.Q in
def CdV.l15Do : ACode := s [mi 4 0] [0,1]<|.seq (s [m 9 1,nc 10 9,fa 11 0 10,lf 12 1 11,en 13 12 7] [0,1,13]<|.cond 13 (.seq (s [m 14 0,nc 15 14,fa 16 1 15,lf 17 1 16,ln 18 17,o 19 (.bin .geq 18 (k 20))] [0,1,19]<|.cond 19 (s [mi 4 5] [4]<|.ret) .skip)<|r [m 21 0,nc 22 21,fa 23 0 22,lf 24 1 23,m 25 1,nc 26 25,fa 27 1 26,lf
 28 1 27,ix 29 1 24 28,lf 30 1 29,m 31 1,nc 32 31,fa 33 4 32,lt 34 2 33,m 35 1,nc 36 35,fa 37 6 36,lt 38 2 37,c 39 F.s_l15Sums [30,34,38],m 20 39,ex 40 20 0,ex 41 20 1,m 5 40,m 6 41] [0,5,6] [21,23,24,22,25,26,27,28,29,30,31,32,33,34,35,36,37,38,39,20,40,41,5]<|.seq (s [m 42 6,en 43 42 0]
 [0,5,6,43]<|.cond 43 (.region [m 44 0,m 45 0,nc 46 45,fa 47 1 46,lf 48 1 47,m 49 5,o 50 (.bslice 1 1 [.v (.slice none 0 0)] [(0,49)]),o 51 (.append 1 24 48 50),nc 52 44,fa 53 1 52,⟨none,.store 1 53 51,none⟩] [6] []) .skip)<|s [m 54 6,m 4 54] [4]<|.ret) .skip)<|s [m 56 0,m 57 1,o 58 (.call (.func
 F.s_l15Make) [56,57] [0]),m 55 58,ex 59 55 0,ex 60 55 1,m 7 59,m 8 60] [0,1,7,8]<|.seq (s [m 61 8,en 62 61 0] [0,1,7,8,62]<|.cond 62 (.region [m 63 0,nc 64 63,fa 65 0 64,lf 66 1 65,m 67 1,nc 68 67,fa 69 3 68,lf 70 1 69,m 71 7,ix 72 1 66 70,⟨none,.store 1 72 71,none⟩] [8]
 [63,65,66,64,67,68,69,70,71]) .skip)<|s [m 73 8,m 4 73] [4]<|.ret
theorem CdV.l15Do_k : CK 38 Tryz.f38 CdV.l15Do 74 [.tmp 4] := ck Tryz.func38
attribute [go_sem] CdV.l15Do
theorem CallK.borG {P : Program} {f : FuncId} {hin : List Blk} {ys : List AV} {L : List Vs.Name} {d : Option Nat} {σ : St} {B : List Vs.Name} {K : St → Prop} {t : Tag K} {r : AV} {hout : List (Option Blk)} (hfn : Vs.Fn P f hin ys r hout) (hfr : freshAll (d.getD 0) B.length hout.length σ = true)
  (hK : K ⟨put d (rn (phi B (d.getD 0) hout.length) r) σ.s, aftL σ.h B (d.getD 0) hout true L⟩) : CallK P f hin ys L d σ B K t :=
 ⟨r, hout, true, hfn, fun h => (by cases h), hfr, hK⟩
attribute [local go_sem] Int.reduceBEq Int.reduceBNe cC cO cFd E_len List.replicate_succ List.replicate_zero List.flatten_cons List.flatten_nil List.cons_append List.nil_append List.set_cons_zero List.set_cons_succ List.length_cons List.length_nil List.length_set List.mem_singleton List.mem_cons List.not_mem_nil or_false false_or Vs.Name.t.injEq List.getD_cons_zero List.getD_cons_succ Vs.Name.b.injEq in
theorem l15DoE_no (x : Stp) (hz : x.text.size ≤ 1048576) (o : Off) (w : Nat) (ho : okO w o) (hv : stpB x (wO o.trays) = true) (he : o.totals.length = 0) (h0 : stC x o ≠ 0) : Vs.Fn Tryz.prog F.s_l15Do [.var [.loc (.b 1) 0 o.trays.length, .v (.slice none 0 0)] false, .arr 1 (E cD o.trays) false] [.ptr (.b 0) 0 0, .ro (cS x)] (.v (.int .i64 (stC x o))) ([.var [.loc (.b 1) 0 o.trays.length, .v (.slice none 0 0)] false, .arr 1 (E cD o.trays) false].map some) := by
 have hso := okO_small ho
 have hd6 := ho.2.1
 have ht20 := ho.2.2.2.1
 have hx := stp_ok ho hv
 have ma := tr_mem hx.a
 have mb := tr_mem hx.b
 have ga := tr_at hx.a
 have gb := tr_at hx.b
 have gt := tr_at hx.to
 have a0 := hx.a.1
 have a1 := hx.a.2
 have t0 := hx.to.1
 have t1 := hx.to.2
 have hla : (E cD o.trays).length = o.trays.length := E_len _
 have hlt : (E cTs o.totals).length = o.totals.length := E_len _
 have hk1 : (E cD o.trays).take o.trays.length = E cD o.trays := List.take_of_length_le (by omega)
 have hk2 : (E cTs o.totals).take o.totals.length = E cTs o.totals := List.take_of_length_le (by omega)
 by_cases h7 : x.kind = 7
 ·have e7 : (x.kind == 7) = true := beq_iff_eq.2 h7
  unfold stC at h0 ⊢
  rw [if_pos h7] at h0 ⊢
  rw [if_neg (by omega : ¬ 20 ≤ o.totals.length)] at h0 ⊢
  have e20 : decide (((0 : Nat) : Int) ≥ 20) = false := by decide
  have da := ho.2.2.1 _ ma
  have TO := l15Sums (tr o.trays x.a) x.f0 x.f1 x.s0 x.s1 (okD_small ho.1.2 da) da.1 (fld_up (wid_ge ho ma) hx.f) (num_up (wid_ge ho ma) (hx.n h7))
  cases hb : totB x.f0 x.f1 x.s0 x.s1 (tr o.trays x.a)
  ·rw [totV_no hb, hb] at TO
   simp only [Bool.false_eq_true, if_false] at TO
   rw [if_neg (by decide)]
   refine CdV.l15Do_k.o.fn Tryz.mixed (hin := [.var [.loc (.b 1) 0 o.trays.length, .v (.slice none 0 0)] false, .arr 1 (E cD o.trays) false]) _ _ [.b 0, .b 1] [.var [.loc (.b 1) 0 o.trays.length, .v (.slice none 0 0)] false, .arr 1 (E cD o.trays) false] CdV.l15Do_k.n CdV.l15Do_k.r rfl (by simp) rfl (by intro j hj; rcases j with _ | _ | _ | j <;> first | rfl | (simp at hj; done) | (simp at hj; omega)) fun X => ?_
   unfold CdV.l15Do
   repeat' first
    |simp -dsimp only [go_sem, e7, e20, ga, hla, hlt, hk1, hk2, cS]
    |refine Br.mk ?_ ?_<;>intro h<;>try simp -dsimp only[h]
    |refine CallK.c (by first|exact TO) ?_
    |refine and_c ?_
    |fail
   all_goals first | omega | exact ⟨_, _, rfl, rfl⟩
  ·rw [if_pos hb] at h0; exact absurd rfl h0
 ·have e7 : (x.kind == 7) = false := beq_eq_false_iff_ne.2 h7
  have MK := l15MakeN x hz o.trays hso.1.2 hso.1.1 hx.a hx.b
  rw [show stC x o = dkC x (tr o.trays x.a) (tr o.trays x.b) by unfold stC; rw [if_neg h7]] at h0 ⊢
  rw [dkV_no h0] at MK
  have e0 : (dkC x (tr o.trays x.a) (tr o.trays x.b) == 0) = false := beq_eq_false_iff_ne.2 h0
  generalize dkC x (tr o.trays x.a) (tr o.trays x.b) = c at *
  refine CdV.l15Do_k.o.fn Tryz.mixed (hin := [.var [.loc (.b 1) 0 o.trays.length, .v (.slice none 0 0)] false, .arr 1 (E cD o.trays) false]) _ _ [.b 0, .b 1] [.var [.loc (.b 1) 0 o.trays.length, .v (.slice none 0 0)] false, .arr 1 (E cD o.trays) false] CdV.l15Do_k.n CdV.l15Do_k.r rfl (by simp) rfl (by intro j hj; rcases j with _ | _ | _ | j <;> first | rfl | (simp at hj; done) | (simp at hj; omega)) fun X => ?_
  unfold CdV.l15Do
  repeat' first
   |simp -dsimp only [go_sem, e7, e0, hla, hlt, hk1, hk2, cS]
   |refine Br.mk ?_ ?_<;>intro h<;>try simp -dsimp only[h]
   |refine CallK.borG (B := [.b 0, .b 1]) (by first|exact MK) rfl ?_
   |refine and_c ?_
   |fail
  all_goals first | omega | exact ⟨_, _, rfl, rfl⟩
theorem l15DoE_dk (x : Stp) (hz : x.text.size ≤ 1048576) (o : Off) (w : Nat) (ho : okO w o) (hv : stpB x (wO o.trays) = true) (he : o.totals.length = 0) (h7 : x.kind ≠ 7) (h0 : stC x o = 0) : Vs.Fn Tryz.prog F.s_l15Do [.var [.loc (.b 1) 0 o.trays.length, .v (.slice none 0 0)] false, .arr 1 (E cD o.trays) false] [.ptr (.b 0) 0 0, .ro (cS x)] (.v (.int .i64 0)) ([.var [.loc (.b 1) 0 o.trays.length, .v (.slice none 0 0)] false, .arr 1 (E cD (o.trays.set x.to.toNat (dkL x (tr o.trays x.a) (tr o.trays x.b)))) false].map some) := by
 have hso := okO_small ho
 have hd6 := ho.2.1
 have ht20 := ho.2.2.2.1
 have hx := stp_ok ho hv
 have ma := tr_mem hx.a
 have mb := tr_mem hx.b
 have ga := tr_at hx.a
 have gb := tr_at hx.b
 have gt := tr_at hx.to
 have a0 := hx.a.1
 have a1 := hx.a.2
 have t0 := hx.to.1
 have t1 := hx.to.2
 have hla : (E cD o.trays).length = o.trays.length := E_len _
 have hlt : (E cTs o.totals).length = o.totals.length := E_len _
 have hk1 : (E cD o.trays).take o.trays.length = E cD o.trays := List.take_of_length_le (by omega)
 have hk2 : (E cTs o.totals).take o.totals.length = E cTs o.totals := List.take_of_length_le (by omega)
 have e7 : (x.kind == 7) = false := beq_eq_false_iff_ne.2 h7
 have MK := l15MakeN x hz o.trays hso.1.2 hso.1.1 hx.a hx.b
 rw [show stC x o = dkC x (tr o.trays x.a) (tr o.trays x.b) by unfold stC; rw [if_neg h7]] at h0
 rw [dkV_ok h0, h0] at MK
 generalize dkL x (tr o.trays x.a) (tr o.trays x.b) = D at *
 have hst := E_setD o.trays x.to.toNat D
 refine CdV.l15Do_k.o.fn Tryz.mixed (hin := [.var [.loc (.b 1) 0 o.trays.length, .v (.slice none 0 0)] false, .arr 1 (E cD o.trays) false]) _ _ [.b 0, .b 1] [.var [.loc (.b 1) 0 o.trays.length, .v (.slice none 0 0)] false, .arr 1 (E cD (o.trays.set x.to.toNat D)) false] CdV.l15Do_k.n CdV.l15Do_k.r rfl (by simp) rfl (by intro j hj; rcases j with _ | _ | _ | j <;> first | rfl | (simp at hj; done) | (simp at hj; omega)) fun X => ?_
 unfold CdV.l15Do
 repeat' first
  |simp -dsimp only [go_sem, e7, gt, hla, hlt, hst, hk1, hk2, Int.reduceBEq, Int.reduceBNe, cC, cO, cS, cFd, E_len, List.replicate_succ, List.replicate_zero, List.flatten_cons, List.flatten_nil, List.cons_append, List.nil_append, List.set_cons_zero, List.set_cons_succ, List.length_cons, List.length_nil, List.length_set, List.mem_singleton, List.mem_cons, List.not_mem_nil, or_false, false_or, Vs.Name.t.injEq, List.getD_cons_zero, List.getD_cons_succ, Vs.Name.b.injEq]
  |refine Br.mk ?_ ?_<;>intro h<;>try simp -dsimp only[h]
  |refine CallK.borG (B := [.b 0, .b 1]) (by first|exact MK) rfl ?_
  |refine and_c ?_
  |fail
 all_goals first | omega | exact ⟨_, _, rfl, rfl⟩
theorem l15DoE_tot (x : Stp) (hz : x.text.size ≤ 1048576) (o : Off) (w : Nat) (ho : okO w o) (hv : stpB x (wO o.trays) = true) (he : o.totals.length = 0) (h7 : x.kind = 7) (h0 : stC x o = 0) : Vs.Fn Tryz.prog F.s_l15Do [.var [.loc (.b 1) 0 o.trays.length, .v (.slice none 0 0)] false, .arr 1 (E cD o.trays) false] [.ptr (.b 0) 0 0, .ro (cS x)] (.v (.int .i64 0)) [some (.var [.loc (.b 1) 0 o.trays.length, .loc (.b 2) 0 (o.totals.length + 1)] false), some (.arr 1 (E cD o.trays) false), some (.arr 1 (E cTs (o.totals ++ [totL x.f0 x.f1 x.s0 x.s1 (tr o.trays x.a)])) false)] := by
 have hso := okO_small ho
 have hd6 := ho.2.1
 have ht20 := ho.2.2.2.1
 have hx := stp_ok ho hv
 have ma := tr_mem hx.a
 have mb := tr_mem hx.b
 have ga := tr_at hx.a
 have gb := tr_at hx.b
 have gt := tr_at hx.to
 have a0 := hx.a.1
 have a1 := hx.a.2
 have t0 := hx.to.1
 have t1 := hx.to.2
 have hla : (E cD o.trays).length = o.trays.length := E_len _
 have hlt : (E cTs o.totals).length = o.totals.length := E_len _
 have hk1 : (E cD o.trays).take o.trays.length = E cD o.trays := List.take_of_length_le (by omega)
 have hk2 : (E cTs o.totals).take o.totals.length = E cTs o.totals := List.take_of_length_le (by omega)
 have e7 : (x.kind == 7) = true := beq_iff_eq.2 h7
 unfold stC at h0
 rw [if_pos h7] at h0
 have h20 : ¬ 20 ≤ o.totals.length := by intro h; rw [if_pos h] at h0; cases h0
 rw [if_neg h20] at h0
 have e20 : decide ((o.totals.length : Int) ≥ 20) = false := decide_eq_false (by omega)
 have hb : totB x.f0 x.f1 x.s0 x.s1 (tr o.trays x.a) = true := by
  cases hb : totB x.f0 x.f1 x.s0 x.s1 (tr o.trays x.a)
  ·rw [hb] at h0; cases h0
  ·rfl
 have da := ho.2.2.1 _ ma
 have TO := l15Sums (tr o.trays x.a) x.f0 x.f1 x.s0 x.s1 (okD_small ho.1.2 da) da.1 (fld_up (wid_ge ho ma) hx.f) (num_up (wid_ge ho ma) (hx.n h7))
 rw [totV_ok hb, hb] at TO
 simp only [if_true] at TO
 have hsn := E_snT o.totals (totL x.f0 x.f1 x.s0 x.s1 (tr o.trays x.a))
 have e20 : decide (((0 : Nat) : Int) ≥ 20) = false := by decide
 have hsn : [[.sl 2 (E cT (totL x.f0 x.f1 x.s0 x.s1 (tr o.trays x.a)))]] = E cTs (o.totals ++ [totL x.f0 x.f1 x.s0 x.s1 (tr o.trays x.a)]) := by rw [List.eq_nil_of_length_eq_zero he]; rfl
 refine CdV.l15Do_k.o.fnD Tryz.mixed (hin := [.var [.loc (.b 1) 0 o.trays.length, .v (.slice none 0 0)] false, .arr 1 (E cD o.trays) false]) (args := [.ptr (.b 0) 0 0, .ro (cS x)]) _ _ [.b 0, .b 1, .t 51 0] [some (.var [.loc (.b 1) 0 o.trays.length, .loc (.b 2) 0 (o.totals.length + 1)] false), some (.arr 1 (E cD o.trays) false), some (.arr 1 (E cTs (o.totals ++ [totL x.f0 x.f1 x.s0 x.s1 (tr o.trays x.a)])) false)] CdV.l15Do_k.n CdV.l15Do_k.r rfl rfl (by intro j hj; rcases j with _ | _ | _ | j <;> first | rfl | (simp at hj; done) | (simp at hj; omega)) fun X => ?_
 unfold CdV.l15Do
 repeat' first
  |simp -dsimp only [go_sem, e7, e20, ga, hla, hlt, hsn, hk1, hk2, he, Nat.zero_add, Int.reduceBEq, Int.reduceBNe, cC, cO, cS, cFd, E_len, List.replicate_succ, List.replicate_zero, List.flatten_cons, List.flatten_nil, List.cons_append, List.nil_append, List.set_cons_zero, List.set_cons_succ, List.length_cons, List.length_nil, List.length_set, List.mem_singleton, List.mem_cons, List.not_mem_nil, or_false, false_or, Vs.Name.t.injEq, List.getD_cons_zero, List.getD_cons_succ, Vs.Name.b.injEq]
  |refine Br.mk ?_ ?_<;>intro h<;>try simp -dsimp only[h]
  |refine CallK.c (by first|exact TO) ?_
  |refine and_c ?_
  |fail
 all_goals first | omega | exact ⟨_, _, rfl, rfl⟩
attribute [local go_sem] Int.reduceBEq Int.reduceBNe cC cO cFd E_len List.replicate_succ List.replicate_zero List.flatten_cons List.flatten_nil List.cons_append List.nil_append List.set_cons_zero List.set_cons_succ List.length_cons List.length_nil List.length_set List.mem_singleton List.mem_cons List.not_mem_nil or_false false_or Vs.Name.t.injEq List.getD_cons_zero List.getD_cons_succ Vs.Name.b.injEq in
theorem l15DoL_no (x : Stp) (hz : x.text.size ≤ 1048576) (o : Off) (w : Nat) (ho : okO w o) (hv : stpB x (wO o.trays) = true) (h0 : stC x o ≠ 0) : Vs.Fn Tryz.prog F.s_l15Do [.var [.loc (.b 1) 0 o.trays.length, .loc (.b 2) 0 o.totals.length] false, .arr 1 (E cD o.trays) false, .arr 1 (E cTs o.totals) false] [.ptr (.b 0) 0 0, .ro (cS x)] (.v (.int .i64 (stC x o))) ([.var [.loc (.b 1) 0 o.trays.length, .loc (.b 2) 0 o.totals.length] false, .arr 1 (E cD o.trays) false, .arr 1 (E cTs o.totals) false].map some) := by
 have hso := okO_small ho
 have hd6 := ho.2.1
 have ht20 := ho.2.2.2.1
 have hx := stp_ok ho hv
 have ma := tr_mem hx.a
 have mb := tr_mem hx.b
 have ga := tr_at hx.a
 have gb := tr_at hx.b
 have gt := tr_at hx.to
 have a0 := hx.a.1
 have a1 := hx.a.2
 have t0 := hx.to.1
 have t1 := hx.to.2
 have hla : (E cD o.trays).length = o.trays.length := E_len _
 have hlt : (E cTs o.totals).length = o.totals.length := E_len _
 have hk1 : (E cD o.trays).take o.trays.length = E cD o.trays := List.take_of_length_le (by omega)
 have hk2 : (E cTs o.totals).take o.totals.length = E cTs o.totals := List.take_of_length_le (by omega)
 by_cases h7 : x.kind = 7
 ·have e7 : (x.kind == 7) = true := beq_iff_eq.2 h7
  unfold stC at h0 ⊢
  rw [if_pos h7] at h0 ⊢
  by_cases h20 : 20 ≤ o.totals.length
  ·have e20 : decide ((o.totals.length : Int) ≥ 20) = true := decide_eq_true (by omega)
   rw [if_pos h20]
   refine CdV.l15Do_k.o.fn Tryz.mixed (hin := [.var [.loc (.b 1) 0 o.trays.length, .loc (.b 2) 0 o.totals.length] false, .arr 1 (E cD o.trays) false, .arr 1 (E cTs o.totals) false]) _ _ [.b 0, .b 1, .b 2] [.var [.loc (.b 1) 0 o.trays.length, .loc (.b 2) 0 o.totals.length] false, .arr 1 (E cD o.trays) false, .arr 1 (E cTs o.totals) false] CdV.l15Do_k.n CdV.l15Do_k.r rfl (by simp) rfl (by intro j hj; rcases j with _ | _ | _ | j <;> first | rfl | (simp at hj; done) | (simp at hj; omega)) fun X => ?_
   unfold CdV.l15Do
   repeat' first
    |simp -dsimp only [go_sem, e7, e20, hla, hlt, hk1, hk2, cS]
    |refine Br.mk ?_ ?_<;>intro h<;>try simp -dsimp only[h]
    |refine and_c ?_
    |fail
   all_goals first | omega | exact ⟨_, _, rfl, rfl⟩
  rw [if_neg h20] at h0 ⊢
  have e20 : decide ((o.totals.length : Int) ≥ 20) = false := decide_eq_false (by omega)
  have da := ho.2.2.1 _ ma
  have TO := l15Sums (tr o.trays x.a) x.f0 x.f1 x.s0 x.s1 (okD_small ho.1.2 da) da.1 (fld_up (wid_ge ho ma) hx.f) (num_up (wid_ge ho ma) (hx.n h7))
  cases hb : totB x.f0 x.f1 x.s0 x.s1 (tr o.trays x.a)
  ·rw [totV_no hb, hb] at TO
   simp only [Bool.false_eq_true, if_false] at TO
   rw [if_neg (by decide)]
   refine CdV.l15Do_k.o.fn Tryz.mixed (hin := [.var [.loc (.b 1) 0 o.trays.length, .loc (.b 2) 0 o.totals.length] false, .arr 1 (E cD o.trays) false, .arr 1 (E cTs o.totals) false]) _ _ [.b 0, .b 1, .b 2] [.var [.loc (.b 1) 0 o.trays.length, .loc (.b 2) 0 o.totals.length] false, .arr 1 (E cD o.trays) false, .arr 1 (E cTs o.totals) false] CdV.l15Do_k.n CdV.l15Do_k.r rfl (by simp) rfl (by intro j hj; rcases j with _ | _ | _ | j <;> first | rfl | (simp at hj; done) | (simp at hj; omega)) fun X => ?_
   unfold CdV.l15Do
   repeat' first
    |simp -dsimp only [go_sem, e7, e20, ga, hla, hlt, hk1, hk2, cS]
    |refine Br.mk ?_ ?_<;>intro h<;>try simp -dsimp only[h]
    |refine CallK.c (by first|exact TO) ?_
    |refine and_c ?_
    |fail
   all_goals first | omega | exact ⟨_, _, rfl, rfl⟩
  ·rw [if_pos hb] at h0; exact absurd rfl h0
 ·have e7 : (x.kind == 7) = false := beq_eq_false_iff_ne.2 h7
  have MK := l15MakeL x hz o.trays hso.1.2 hso.1.1 hx.a hx.b o.totals
  rw [show stC x o = dkC x (tr o.trays x.a) (tr o.trays x.b) by unfold stC; rw [if_neg h7]] at h0 ⊢
  rw [dkV_no h0] at MK
  have e0 : (dkC x (tr o.trays x.a) (tr o.trays x.b) == 0) = false := beq_eq_false_iff_ne.2 h0
  generalize dkC x (tr o.trays x.a) (tr o.trays x.b) = c at *
  refine CdV.l15Do_k.o.fn Tryz.mixed (hin := [.var [.loc (.b 1) 0 o.trays.length, .loc (.b 2) 0 o.totals.length] false, .arr 1 (E cD o.trays) false, .arr 1 (E cTs o.totals) false]) _ _ [.b 0, .b 1, .b 2] [.var [.loc (.b 1) 0 o.trays.length, .loc (.b 2) 0 o.totals.length] false, .arr 1 (E cD o.trays) false, .arr 1 (E cTs o.totals) false] CdV.l15Do_k.n CdV.l15Do_k.r rfl (by simp) rfl (by intro j hj; rcases j with _ | _ | _ | j <;> first | rfl | (simp at hj; done) | (simp at hj; omega)) fun X => ?_
  unfold CdV.l15Do
  repeat' first
   |simp -dsimp only [go_sem, e7, e0, hla, hlt, hk1, hk2, cS]
   |refine Br.mk ?_ ?_<;>intro h<;>try simp -dsimp only[h]
   |refine CallK.borG (B := [.b 0, .b 1, .b 2]) (by first|exact MK) rfl ?_
   |refine and_c ?_
   |fail
  all_goals first | omega | exact ⟨_, _, rfl, rfl⟩
theorem l15DoL_dk (x : Stp) (hz : x.text.size ≤ 1048576) (o : Off) (w : Nat) (ho : okO w o) (hv : stpB x (wO o.trays) = true) (h7 : x.kind ≠ 7) (h0 : stC x o = 0) : Vs.Fn Tryz.prog F.s_l15Do [.var [.loc (.b 1) 0 o.trays.length, .loc (.b 2) 0 o.totals.length] false, .arr 1 (E cD o.trays) false, .arr 1 (E cTs o.totals) false] [.ptr (.b 0) 0 0, .ro (cS x)] (.v (.int .i64 0)) ([.var [.loc (.b 1) 0 o.trays.length, .loc (.b 2) 0 o.totals.length] false, .arr 1 (E cD (o.trays.set x.to.toNat (dkL x (tr o.trays x.a) (tr o.trays x.b)))) false, .arr 1 (E cTs o.totals) false].map some) := by
 have hso := okO_small ho
 have hd6 := ho.2.1
 have ht20 := ho.2.2.2.1
 have hx := stp_ok ho hv
 have ma := tr_mem hx.a
 have mb := tr_mem hx.b
 have ga := tr_at hx.a
 have gb := tr_at hx.b
 have gt := tr_at hx.to
 have a0 := hx.a.1
 have a1 := hx.a.2
 have t0 := hx.to.1
 have t1 := hx.to.2
 have hla : (E cD o.trays).length = o.trays.length := E_len _
 have hlt : (E cTs o.totals).length = o.totals.length := E_len _
 have hk1 : (E cD o.trays).take o.trays.length = E cD o.trays := List.take_of_length_le (by omega)
 have hk2 : (E cTs o.totals).take o.totals.length = E cTs o.totals := List.take_of_length_le (by omega)
 have e7 : (x.kind == 7) = false := beq_eq_false_iff_ne.2 h7
 have MK := l15MakeL x hz o.trays hso.1.2 hso.1.1 hx.a hx.b o.totals
 rw [show stC x o = dkC x (tr o.trays x.a) (tr o.trays x.b) by unfold stC; rw [if_neg h7]] at h0
 rw [dkV_ok h0, h0] at MK
 generalize dkL x (tr o.trays x.a) (tr o.trays x.b) = D at *
 have hst := E_setD o.trays x.to.toNat D
 refine CdV.l15Do_k.o.fn Tryz.mixed (hin := [.var [.loc (.b 1) 0 o.trays.length, .loc (.b 2) 0 o.totals.length] false, .arr 1 (E cD o.trays) false, .arr 1 (E cTs o.totals) false]) _ _ [.b 0, .b 1, .b 2] [.var [.loc (.b 1) 0 o.trays.length, .loc (.b 2) 0 o.totals.length] false, .arr 1 (E cD (o.trays.set x.to.toNat D)) false, .arr 1 (E cTs o.totals) false] CdV.l15Do_k.n CdV.l15Do_k.r rfl (by simp) rfl (by intro j hj; rcases j with _ | _ | _ | j <;> first | rfl | (simp at hj; done) | (simp at hj; omega)) fun X => ?_
 unfold CdV.l15Do
 repeat' first
  |simp -dsimp only [go_sem, e7, gt, hla, hlt, hst, hk1, hk2, Int.reduceBEq, Int.reduceBNe, cC, cO, cS, cFd, E_len, List.replicate_succ, List.replicate_zero, List.flatten_cons, List.flatten_nil, List.cons_append, List.nil_append, List.set_cons_zero, List.set_cons_succ, List.length_cons, List.length_nil, List.length_set, List.mem_singleton, List.mem_cons, List.not_mem_nil, or_false, false_or, Vs.Name.t.injEq, List.getD_cons_zero, List.getD_cons_succ, Vs.Name.b.injEq]
  |refine Br.mk ?_ ?_<;>intro h<;>try simp -dsimp only[h]
  |refine CallK.borG (B := [.b 0, .b 1, .b 2]) (by first|exact MK) rfl ?_
  |refine and_c ?_
  |fail
 all_goals first | omega | exact ⟨_, _, rfl, rfl⟩
theorem l15DoL_tot (x : Stp) (hz : x.text.size ≤ 1048576) (o : Off) (w : Nat) (ho : okO w o) (hv : stpB x (wO o.trays) = true) (h7 : x.kind = 7) (h0 : stC x o = 0) : Vs.Fn Tryz.prog F.s_l15Do [.var [.loc (.b 1) 0 o.trays.length, .loc (.b 2) 0 o.totals.length] false, .arr 1 (E cD o.trays) false, .arr 1 (E cTs o.totals) false] [.ptr (.b 0) 0 0, .ro (cS x)] (.v (.int .i64 0)) [some (.var [.loc (.b 1) 0 o.trays.length, .loc (.b 3) 0 (o.totals.length + 1)] false), some (.arr 1 (E cD o.trays) false), none, some (.arr 1 (E cTs (o.totals ++ [totL x.f0 x.f1 x.s0 x.s1 (tr o.trays x.a)])) false)] := by
 have hso := okO_small ho
 have hd6 := ho.2.1
 have ht20 := ho.2.2.2.1
 have hx := stp_ok ho hv
 have ma := tr_mem hx.a
 have mb := tr_mem hx.b
 have ga := tr_at hx.a
 have gb := tr_at hx.b
 have gt := tr_at hx.to
 have a0 := hx.a.1
 have a1 := hx.a.2
 have t0 := hx.to.1
 have t1 := hx.to.2
 have hla : (E cD o.trays).length = o.trays.length := E_len _
 have hlt : (E cTs o.totals).length = o.totals.length := E_len _
 have hk1 : (E cD o.trays).take o.trays.length = E cD o.trays := List.take_of_length_le (by omega)
 have hk2 : (E cTs o.totals).take o.totals.length = E cTs o.totals := List.take_of_length_le (by omega)
 have e7 : (x.kind == 7) = true := beq_iff_eq.2 h7
 unfold stC at h0
 rw [if_pos h7] at h0
 have h20 : ¬ 20 ≤ o.totals.length := by intro h; rw [if_pos h] at h0; cases h0
 rw [if_neg h20] at h0
 have e20 : decide ((o.totals.length : Int) ≥ 20) = false := decide_eq_false (by omega)
 have hb : totB x.f0 x.f1 x.s0 x.s1 (tr o.trays x.a) = true := by
  cases hb : totB x.f0 x.f1 x.s0 x.s1 (tr o.trays x.a)
  ·rw [hb] at h0; cases h0
  ·rfl
 have da := ho.2.2.1 _ ma
 have TO := l15Sums (tr o.trays x.a) x.f0 x.f1 x.s0 x.s1 (okD_small ho.1.2 da) da.1 (fld_up (wid_ge ho ma) hx.f) (num_up (wid_ge ho ma) (hx.n h7))
 rw [totV_ok hb, hb] at TO
 simp only [if_true] at TO
 have hsn := E_snT o.totals (totL x.f0 x.f1 x.s0 x.s1 (tr o.trays x.a))
 refine CdV.l15Do_k.o.fnD Tryz.mixed (hin := [.var [.loc (.b 1) 0 o.trays.length, .loc (.b 2) 0 o.totals.length] false, .arr 1 (E cD o.trays) false, .arr 1 (E cTs o.totals) false]) (args := [.ptr (.b 0) 0 0, .ro (cS x)]) _ _ [.b 0, .b 1, .b 2, .t 51 0] [some (.var [.loc (.b 1) 0 o.trays.length, .loc (.b 3) 0 (o.totals.length + 1)] false), some (.arr 1 (E cD o.trays) false), none, some (.arr 1 (E cTs (o.totals ++ [totL x.f0 x.f1 x.s0 x.s1 (tr o.trays x.a)])) false)] CdV.l15Do_k.n CdV.l15Do_k.r rfl rfl (by intro j hj; rcases j with _ | _ | _ | j <;> first | rfl | (simp at hj; done) | (simp at hj; omega)) fun X => ?_
 unfold CdV.l15Do
 repeat' first
  |simp -dsimp only [go_sem, e7, e20, ga, hla, hlt, hsn, hk1, hk2, Int.reduceBEq, Int.reduceBNe, cC, cO, cS, cFd, E_len, List.replicate_succ, List.replicate_zero, List.flatten_cons, List.flatten_nil, List.cons_append, List.nil_append, List.set_cons_zero, List.set_cons_succ, List.length_cons, List.length_nil, List.length_set, List.mem_singleton, List.mem_cons, List.not_mem_nil, or_false, false_or, Vs.Name.t.injEq, List.getD_cons_zero, List.getD_cons_succ, Vs.Name.b.injEq]
  |refine Br.mk ?_ ?_<;>intro h<;>try simp -dsimp only[h]
  |refine CallK.c (by first|exact TO) ?_
  |refine and_c ?_
  |fail
 all_goals first | omega | exact ⟨_, _, rfl, rfl⟩
end
section
attribute [local irreducible] Vs.Fn chOK areCh chTo chAt l03 chB rk cd3 chI stp stpTo
end
section
attribute [local irreducible] Vs.Fn chOK areCh chTo chAt l03 chB rk cd3 chI stp stpTo
end
section
attribute [local irreducible] Vs.Fn stpB wO stC chOK areCh chTo chAt l03 chB rk cd3 chI stp stpTo
theorem roE {o : Off} (h : o.totals.length = 0) {S : Nat → Prop} {w : World} {v : Value} {ρ : Vs.Name → Option Nat} {κ : Vs.Name → Nat} {hh : Vs.Name → Option Blk} (hv : RV S w ρ κ hh (.ro [.sl 1 (E cD o.trays), .v (.slice none 0 0)]) v) : RV S w ρ κ hh (.ro (cO o)) v := by
 unfold cO
 rw [List.eq_nil_of_length_eq_zero h]
 exact ro_nil hv
theorem l15WidthE (o : Off) (ho : smallO o) (h : o.totals.length = 0) : Fz F.s_l15Width [.ro [.sl 1 (E cD o.trays), .v (.slice none 0 0)]] (.v (.int .i64 (wO o.trays))) := by
 refine fn_args (args' := [.ro (cO o)]) rfl (fun S w j v hj ρ κ hh hv => ?_) (l15Width o ho)
 match j, hj with
 | 0, _ => exact roE h hv
theorem stO_tr (x : Stp) (o : Off) : (stO x o).trays.length = o.trays.length := by unfold stO; split <;> simp
theorem stO_dkT {x : Stp} {o : Off} (h7 : x.kind ≠ 7) : (stO x o).totals = o.totals ∧ (stO x o).trays = o.trays.set x.to.toNat (dkL x (tr o.trays x.a) (tr o.trays x.b)) := by rw [st_dk h7]; exact ⟨rfl, rfl⟩
theorem stO_totT {x : Stp} {o : Off} (h7 : x.kind = 7) : (stO x o).totals = o.totals ++ [totL x.f0 x.f1 x.s0 x.s1 (tr o.trays x.a)] ∧ (stO x o).trays = o.trays := by rw [st_tot h7]; exact ⟨rfl, rfl⟩
end
section
attribute [local irreducible] Vs.Fn stpB wO stC run ctlB ctlT chOK areCh chTo chAt l03 chB rk cd3 chI stp stpTo
def caW (R : List (Int × Int × Int) × Bool) : AV := if R.2 then .sl 3 (E cCt R.1) else .v (.slice none 0 0)
theorem caW_no {R : List (Int × Int × Int) × Bool} (h : R.2 = false) : caW R = .v (.slice none 0 0) := by unfold caW; rw [h]; rfl
theorem caW_ok (l : List (Int × Int × Int)) : caW (l, true) = .sl 3 (E cCt l) := rfl
theorem ds_stp {x : Stp} {o : Off} (h : dsC x o = 0) : stpB x (wO o.trays) = true := by
 unfold dsC at h
 split at h
 ·assumption
 ·cases h
theorem officeCode (fr to : Int) (o : Off) (ho : smallO o) (fl : List Stp) : Fz F.i_officeCode [.agg (cO o), .sl 9 (E cS fl), .agg (cFd fr to)] (.v (.int .i64 (fbC fr to o fl.length))) := by
 refine fn0 Cd.i_officeCode_k fun X => ?_
 repeat' first
  |simp -dsimp only [go_sem, cFd, cO, E_len]
  |refine Br.mk ?_ ?_<;>intro h<;>try simp -dsimp only[h]
  |refine CallK.c (by first|exact impl_ValidOffice o ho|exact officeColumns o ho|exact isNumberField fr to _) ?_
  |refine and_c ?_
  |fail
 all_goals (simp_all [fbC])
attribute [local go_sem] Int.reduceBEq Int.reduceBNe cC E_len List.replicate_succ List.replicate_zero List.flatten_cons List.flatten_nil List.cons_append List.nil_append List.set_cons_zero List.set_cons_succ List.length_cons List.length_nil List.length_set List.mem_singleton List.mem_cons List.not_mem_nil or_false false_or Vs.Name.t.injEq List.getD_cons_zero List.getD_cons_succ Vs.Name.b.injEq List.getElem?_cons_zero List.getElem?_cons_succ cCt in
theorem controlsAlong (fr to : Int) (o : Off) (w : Nat) (ho : okO w o) (hn : numB fr to w = true) (fl : List Stp) (hz : ∀ x, x ∈ fl → x.text.size ≤ 1048576) (hl : fl.length ≤ 1048576) : Fz F.i_controlsAlong [.agg (cO o), .sl 9 (E cS fl), .agg (cFd fr to)] (.tup [caW (alg fr to o fl), .v (.bool (alg fr to o fl).2)]) := by
 have hI0 := algI_zero fr to o fl
 generalize hR : alg fr to o fl = R
 refine fn0 Cd.i_controlsAlong_k fun X => ?_
 repeat' first
  |simp -dsimp only [go_sem, cO, cS, cFd]
  |refine Br.mk ?_ ?_<;>intro h<;>try simp -dsimp only[h]
  |refine and_c ?_
  |fail
 refine LoopK.at (drawn_ok Tryz.mixed) (X := { p : Nat × Off × List (Int × Int × Int) // p.1 ≤ fl.length ∧ okO w p.2.1 ∧ algI fr to o fl p.1 p.2.1 p.2.2 }) (fun p => [(8, .loc (.t 8 0) 0 p.1.2.2.length), (19, .v (.int .i64 (p.1.1 : Nat)))]) (fun p => [(.t 3 0, .var (cO p.1.2.1) false), (.t 8 0, .arr 3 (E cCt p.1.2.2) false)]) (fun p => fl.length - p.1.1) ⟨(0, o, []), by simp, ho, hI0⟩ ?_ ?_
 ·simp [Vs.LeL, Vs.look, Vs.hlook, Vs.sput, Vs.sputs, Vs.hset, Vs.hputs, cO, Vs.E]
 ·rintro ⟨⟨i, o', acc⟩, hi, ho', hrun⟩
  dsimp only at hi ho' hrun
  have hal := hrun.2.2
  simp -dsimp only [go_sem, cO, cS, cFd]
  refine Br.mk (fun hc => ?_) fun hc => ?_
  ·have hlt : i < fl.length := Dq
   have hw := wrap_succ hlt (by omega)
   have gx : (E cS fl).getD i [] = cS fl[i] := E_get hlt
   have DS := doStep fl[i] (hz _ (List.getElem_mem hlt)) o' w ho'
   by_cases hd : dsC fl[i] o' = 0
   ·rw [show dsV fl[i] o' = .agg (cO (stO fl[i] o')) by unfold dsV; rw [if_pos hd], hd] at DS
    have hx := stp_ok ho' (ds_stp hd)
    have htl := stO_tr fl[i] o'
    have hok := ds_ok ho' hd
    have hstep := algI_step hlt hrun hd
    have hbad := algI_bad hlt hrun hd
    have hla : (E cD (stO fl[i] o').trays).length = (stO fl[i] o').trays.length := E_len _
    generalize hxx : fl[i] = x at *
    generalize stO x o' = o2 at *
    have ta : 0 ≤ x.a ∧ x.a < (o2.trays.length : Int) := by have := hx.a; omega
    have tt : 0 ≤ x.to ∧ x.to < (o2.trays.length : Int) := by have := hx.to; omega
    have a0 := ta.1
    have a1 := ta.2
    have t0 := tt.1
    have t1 := tt.2
    have ga := tr_at ta
    have gt := tr_at tt
    have mk : tlT x o2 ∈ o2.trays := by unfold tlT tlK; split; exact tr_mem ta; exact tr_mem tt
    have CT := controlOf (tlT x o2) fr to (by have := (okD_small hok.1.2 (hok.2.2.1 _ mk)).1; omega) (ok_okP hok hn mk)
    have hsn : ∀ c : Int × Int × Int, E cCt acc ++ [[.v (.int .i64 c.1), .v (.int .i64 c.2.1), .v (.int .i64 c.2.2)]] = E cCt (acc ++ [c]) := fun c => by rw [E_append]; rfl
    by_cases h7 : x.kind = 7
    ·have e7 : (x.kind == 7) = true := beq_iff_eq.2 h7
     have hk : tlT x o2 = tr o2.trays x.a := by unfold tlT tlK; rw [if_pos h7]
     rw [hk] at CT hstep hbad
     cases hb : ctlB fr to (tr o2.trays x.a)
     ·rw [hb] at CT
      have hb2 : R.2 = false := by rw [← hR]; exact hbad hb
      have hcw := caW_no hb2
      rw [hcw, hb2]
      repeat' first
       |simp -dsimp only [go_sem, hw, gx, hxx, ga, gt, e7, hb, hsn, hla, cO, cS, cFd]
       |refine Br.mk ?_ ?_<;>intro h<;>try simp -dsimp only[h]
       |refine CallK.c (by first|exact DS|exact CT) ?_
       |refine and_c ?_
       |fail
      all_goals first | omega | exact ⟨_, _, rfl, rfl⟩ | exact ⟨⟨_, _, rfl, rfl⟩, fun h => h rfl⟩ | exact fun _ => ⟨⟨_, _, rfl, rfl⟩, fun h => h rfl⟩
     ·rw [hb] at CT
      have hnext := hstep hb
      generalize ctlT fr to (tr o2.trays x.a) = ct at *
      repeat' first
       |simp -dsimp only [go_sem, hw, gx, hxx, ga, gt, e7, hb, hsn, hla, cO, cS, cFd]
       |refine Br.mk ?_ ?_<;>intro h<;>try simp -dsimp only[h]
       |refine CallK.c (by first|exact DS|exact CT) ?_
       |refine and_c ?_
       |fail
      all_goals first | omega | (refine ⟨⟨(i + 1, o2, acc ++ [ct]), by simp only; omega, hok, hnext⟩, ?_, by simp only; omega⟩; simp [Vs.LeL, Vs.look, Vs.hlook, Vs.sput, Vs.sputs, Vs.hset, Vs.hputs, cO, hsn]; done)
    ·have e7 : (x.kind == 7) = false := beq_eq_false_iff_ne.2 h7
     have hk : tlT x o2 = tr o2.trays x.to := by unfold tlT tlK; rw [if_neg h7]
     rw [hk] at CT hstep hbad
     cases hb : ctlB fr to (tr o2.trays x.to)
     ·rw [hb] at CT
      have hb2 : R.2 = false := by rw [← hR]; exact hbad hb
      have hcw := caW_no hb2
      rw [hcw, hb2]
      repeat' first
       |simp -dsimp only [go_sem, hw, gx, hxx, ga, gt, e7, hb, hsn, hla, cO, cS, cFd]
       |refine Br.mk ?_ ?_<;>intro h<;>try simp -dsimp only[h]
       |refine CallK.c (by first|exact DS|exact CT) ?_
       |refine and_c ?_
       |fail
      all_goals first | omega | exact ⟨_, _, rfl, rfl⟩ | exact ⟨⟨_, _, rfl, rfl⟩, fun h => h rfl⟩ | exact fun _ => ⟨⟨_, _, rfl, rfl⟩, fun h => h rfl⟩
     ·rw [hb] at CT
      have hnext := hstep hb
      generalize ctlT fr to (tr o2.trays x.to) = ct at *
      repeat' first
       |simp -dsimp only [go_sem, hw, gx, hxx, ga, gt, e7, hb, hsn, hla, cO, cS, cFd]
       |refine Br.mk ?_ ?_<;>intro h<;>try simp -dsimp only[h]
       |refine CallK.c (by first|exact DS|exact CT) ?_
       |refine and_c ?_
       |fail
      all_goals first | omega | (refine ⟨⟨(i + 1, o2, acc ++ [ct]), by simp only; omega, hok, hnext⟩, ?_, by simp only; omega⟩; simp [Vs.LeL, Vs.look, Vs.hlook, Vs.sput, Vs.sputs, Vs.hset, Vs.hputs, cO, hsn]; done)
   ·rw [show dsV fl[i] o' = noO by unfold dsV; rw [if_neg hd]] at DS
    have e0 : (dsC fl[i] o' != 0) = true := by simp [hd]
    have hstop := algI_stop hlt hrun hd
    rw [hR] at hstop
    subst hstop
    rw [caW_ok]
    have hk1 : (E cCt acc).take acc.length = E cCt acc := List.take_of_length_le (by rw [E_len]; exact Nat.le_refl _)
    generalize dsC fl[i] o' = c at *
    repeat' first
     |simp -dsimp only [go_sem, hw, gx, e0, noO, hk1, cO, cS, cFd]
     |refine Br.mk ?_ ?_<;>intro h<;>try simp -dsimp only[h]
     |refine CallK.c (by first|exact DS) ?_
     |refine and_c ?_
     |fail
    all_goals first | omega | exact ⟨_, _, rfl, rfl⟩ | exact ⟨⟨_, _, rfl, rfl⟩, fun h => h rfl⟩ | exact fun _ => ⟨⟨_, _, rfl, rfl⟩, fun h => h rfl⟩
  ·have hge : i = fl.length := by
    have : ¬ i < fl.length := Dq
    omega
   subst hge
   have hstop := algI_end hrun
   rw [hR] at hstop
   subst hstop
   rw [caW_ok]
   have hk1 : (E cCt acc).take acc.length = E cCt acc := List.take_of_length_le (by rw [E_len]; exact Nat.le_refl _)
   repeat' first
    |simp -dsimp only [go_sem, hk1, cO, cS, cFd]
    |refine Br.mk ?_ ?_<;>intro h<;>try simp -dsimp only[h]
    |refine And.intro ?_ (fun h => absurd rfl h)
    |refine and_c ?_
    |fail
   all_goals first | omega | exact ⟨_, _, rfl, rfl⟩ | exact ⟨⟨_, _, rfl, rfl⟩, fun h => h rfl⟩ | exact fun _ => ⟨⟨_, _, rfl, rfl⟩, fun h => h rfl⟩
def gU (o : Off) : AV := if o.totals.length = 0 then .v (.slice none 0 0) else .loc (.t 16 1) 0 o.totals.length
def gHU (o : Off) : List (Vs.Name × Blk) := if o.totals.length = 0 then [] else [(.t 16 1, .arr 1 (E cTs o.totals) false)]
theorem gU_e {o : Off} (h : o.totals.length = 0) : gU o = .v (.slice none 0 0) := if_pos h
theorem gU_l {o : Off} (h : o.totals.length ≠ 0) : gU o = .loc (.t 16 1) 0 o.totals.length := if_neg h
theorem gHU_e {o : Off} (h : o.totals.length = 0) : gHU o = [] := if_pos h
theorem gHU_l {o : Off} (h : o.totals.length ≠ 0) : gHU o = [(.t 16 1, .arr 1 (E cTs o.totals) false)] := if_neg h
def cdW (R : List (Int × Int × Int) × Bool) : Int := if R.2 then 0 else 8
end
end Go.Proofs.YtagejhkjpgephaaGreatDoor
