/- The control totals along a flow: the reference, from an office with totals. -/
import Derived.Test.YtagejhkjpgephaaGreatDoorXwOb
set_option linter.unusedSimpArgs false
set_option linter.unusedVariables false
set_option maxHeartbeats 8000000
namespace Go.Proofs.YtagejhkjpgephaaGreatDoor
open Go.Vs
attribute [local irreducible] Vs.Fn stpB wO stC run ctlB ctlT chOK areCh chTo chAt l03 chB rk cd3 chI stp stpTo
attribute [local go_sem] Int.reduceBEq Int.reduceBNe cC E_len List.replicate_succ List.replicate_zero List.flatten_cons List.flatten_nil List.cons_append List.nil_append List.set_cons_zero List.set_cons_succ List.length_cons List.length_nil List.length_set List.mem_singleton List.mem_cons List.not_mem_nil or_false false_or Vs.Name.t.injEq List.getD_cons_zero List.getD_cons_succ Vs.Name.b.injEq List.getElem?_cons_zero List.getElem?_cons_succ cCt in
theorem l18AlongL (fr to : Int) (o : Off) (w : Nat) (ho : okO w o) (hn : numB fr to w = true) (fl : List Stp) (hz : ∀ x, x ∈ fl → x.text.size ≤ 1048576) (hl : fl.length ≤ 1048576) (he : o.totals.length ≠ 0) : Fz F.s_l18Along [.ro (cO o), .sl 9 (E cS fl), .agg (cFd fr to)] (.tup [caW (alg fr to o fl), .v (.int .i64 (cdW (alg fr to o fl)))]) := by
 have hI0 := algI_zero fr to o fl
 generalize hR : alg fr to o fl = R
 have OW := l15OwnL o (okO_small ho) (by rw [ho.2.1]; omega) (by omega)
 refine fn0 Cd.s_l18Along_k fun X => ?_
 repeat' first
  |simp -dsimp only [go_sem, cO, cS, cFd]
  |refine Br.mk ?_ ?_<;>intro h<;>try simp -dsimp only[h]
  |refine CallK.own (by first|exact OW) rfl ?_
  |refine and_c ?_
  |fail
 refine LoopK.atR (drawn_ok Tryz.mixed) (X := { p : Nat × Off × List (Int × Int × Int) // p.1 ≤ fl.length ∧ okO w p.2.1 ∧ o.totals.length ≤ p.2.1.totals.length ∧ algI fr to o fl p.1 p.2.1 p.2.2 }) (fun p => [(9, .loc (.t 9 0) 0 p.1.2.2.length), (10, .v (.int .i64 (p.1.1 : Nat)))]) (fun p => (.t 8 0, .var [.loc (.t 16 0) 0 p.1.2.1.trays.length, gU p.1.2.1] false) :: (.t 16 0, .arr 1 (E cD p.1.2.1.trays) false) :: (.t 9 0, .arr 3 (E cCt p.1.2.2) false) :: gHU p.1.2.1) (fun p => fl.length - p.1.1) ⟨(0, o, []), by simp, ho, Nat.le_refl _, hI0⟩ ?_ ?_
 ·simp [Vs.LeL, Vs.look, Vs.hlook, Vs.sput, Vs.sputs, Vs.hset, Vs.hputs, gU_l he, gHU_l he, Vs.E]
 ·rintro ⟨⟨i, o', acc⟩, hi, ho', hge', hrun⟩
  dsimp only at hi ho' hge' hrun ⊢
  have hal := hrun.2.2
  have hso := okO_small ho'
  have hd6 := ho'.2.1
  have ht20 := ho'.2.2.2.1
  have hk1 : (E cCt acc).take acc.length = E cCt acc := List.take_of_length_le (by rw [E_len]; exact Nat.le_refl _)
  have hsn : ∀ c : Int × Int × Int, E cCt acc ++ [[.v (.int .i64 c.1), .v (.int .i64 c.2.1), .v (.int .i64 c.2.2)]] = E cCt (acc ++ [c]) := fun c => by rw [E_append]; rfl
  have he' : o'.totals.length ≠ 0 := by omega
  rw [gU_l he', gHU_l he']
  have WD := l15Width o' hso
  try simp -dsimp only [go_sem, cO, cS, cFd]
  refine Br.mk (fun hc => ?_) fun hc => ?_
  ·have hlt : i < fl.length := Dq
   have hw := wrap_succ hlt (by omega)
   have gx : (E cS fl).getD i [] = cS fl[i] := E_get hlt
   have hzx := hz _ (List.getElem_mem hlt)
   have LS := l15Step fl[i] (wO o'.trays : Int) hzx
   cases hv : stpB fl[i] (wO o'.trays)
   ·rw [hv] at LS
    have hstop := algI_stop hlt hrun (by unfold dsC; rw [hv]; simp)
    rw [hR] at hstop
    subst hstop
    rw [caW_ok, show cdW (acc, true) = 0 from rfl]
    repeat' first
     |simp -dsimp only [go_sem, gx, hk1, cO, cS, cFd]
     |refine Br.mk ?_ ?_<;>intro h<;>try simp -dsimp only[h]
     |refine CallK.c (by first|exact WD|exact LS) ?_
     |refine and_c ?_
     |fail
    all_goals first | omega | exact ⟨_, _, rfl, rfl⟩ | exact ⟨⟨_, _, rfl, rfl⟩, fun h => h rfl⟩ | exact fun _ => ⟨⟨_, _, rfl, rfl⟩, fun h => h rfl⟩ | exact ⟨fun _ => ⟨_, _, rfl, rfl⟩, fun h => absurd rfl h⟩
   ·rw [hv] at LS
    by_cases h0 : stC fl[i] o' = 0
    ·have hd : dsC fl[i] o' = 0 := by unfold dsC; rw [hv]; exact h0
     have hstep := algI_step hlt hrun hd
     have hbad := algI_bad hlt hrun hd
     have hok := ds_ok ho' hd
     have htl := stO_tr fl[i] o'
     have hx := stp_ok ho' hv
     by_cases h7 : fl[i].kind = 7
     ·have DO := l15DoL_tot fl[i] hzx o' w ho' hv h7 h0
      obtain ⟨q1, q2⟩ := stO_totT (o := o') h7
      have hm : (stO fl[i] o').totals.length = o'.totals.length + 1 := by rw [q1, List.length_append]; rfl
      have hne : (stO fl[i] o').totals.length ≠ 0 := by omega
      have hgT := gU_l hne
      have hgH := gHU_l hne
      have e7 : (fl[i].kind == 7) = true := beq_iff_eq.2 h7
      have hk : tlT fl[i] (stO fl[i] o') = tr o'.trays fl[i].a := by unfold tlT tlK; rw [if_pos h7, q2]
      have ga := tr_at hx.a
      have a0 := hx.a.1
      have a1 := hx.a.2
      have mk := tr_mem hx.a
      have CT := l18Of (tr o'.trays fl[i].a) fr to (by have := (okD_small ho'.1.2 (ho'.2.2.1 _ mk)).1; omega) (ok_okP ho' hn mk)
      rw [hk] at hstep hbad
      generalize stO fl[i] o' = o2 at *
      cases hb : ctlB fr to (tr o'.trays fl[i].a)
      ·rw [hb] at CT
       have hb2 : R.2 = false := by rw [← hR]; exact hbad hb
       rw [caW_no hb2, show cdW R = 8 by unfold cdW; rw [hb2]; rfl]
       repeat' first
        |simp -dsimp only [go_sem, gx, hw, e7, ga, hb, hsn, cO, cS, cFd]
        |refine Br.mk ?_ ?_<;>intro h<;>try simp -dsimp only[h]
        |refine CallK.borG (B := [.t 8 0, .t 16 0, .t 16 1]) (by first|exact DO) rfl ?_
        |refine CallK.c (by first|exact WD|exact LS|exact CT) ?_
        |refine and_c ?_
        |fail
       all_goals first | omega | exact ⟨_, _, rfl, rfl⟩ | exact ⟨⟨_, _, rfl, rfl⟩, fun h => h rfl⟩ | exact fun _ => ⟨⟨_, _, rfl, rfl⟩, fun h => h rfl⟩ | exact ⟨fun _ => ⟨_, _, rfl, rfl⟩, fun h => absurd rfl h⟩
      ·rw [hb] at CT
       have hnext := hstep hb
       generalize ctlT fr to (tr o'.trays fl[i].a) = ct at *
       repeat' first
        |simp -dsimp only [go_sem, gx, hw, e7, ga, hb, hsn, cO, cS, cFd]
        |refine Br.mk ?_ ?_<;>intro h<;>try simp -dsimp only[h]
        |refine CallK.borG (B := [.t 8 0, .t 16 0, .t 16 1]) (by first|exact DO) rfl ?_
        |refine CallK.c (by first|exact WD|exact LS|exact CT) ?_
        |refine and_c ?_
        |fail
       all_goals first | omega | (refine ⟨⟨(i + 1, o2, acc ++ [ct]), by simp only; omega, hok, by simp only; omega, hnext⟩, .inr ⟨.t 33 3, .t 16 1, by decide, rfl, ?_⟩, by simp only; omega⟩; simp [Vs.renL, Vs.nmF, Vs.rn, Vs.rnL, Vs.rnB, Vs.LeL, Vs.look, Vs.hlook, Vs.sput, Vs.sputs, Vs.hset, Vs.hputs, hgT, hgH, q1, q2, hsn]; done)
     ·have DO := l15DoL_dk fl[i] hzx o' w ho' hv h7 h0
      obtain ⟨q1, q2⟩ := stO_dkT (o := o') h7
      have hm : (stO fl[i] o').totals.length = o'.totals.length := by rw [q1]
      have he2 : (stO fl[i] o').totals.length ≠ 0 := by rw [q1]; exact he'
      have hgT := gU_l he2
      have hgH := gHU_l he2
      have e7 : (fl[i].kind == 7) = false := beq_eq_false_iff_ne.2 h7
      have hk : tlT fl[i] (stO fl[i] o') = tr (stO fl[i] o').trays fl[i].to := by unfold tlT tlK; rw [if_neg h7]
      have tt : 0 ≤ fl[i].to ∧ fl[i].to < ((stO fl[i] o').trays.length : Int) := by have := hx.to; omega
      have ga := tr_at tt
      have a0 := hx.to.1
      have a1 := hx.to.2
      have mk := tr_mem tt
      have CT := l18Of (tr (stO fl[i] o').trays fl[i].to) fr to (by have := (okD_small hok.1.2 (hok.2.2.1 _ mk)).1; omega) (ok_okP hok hn mk)
      rw [hk] at hstep hbad
      rw [q2] at ga CT hstep hbad
      generalize hTT : o'.trays.set fl[i].to.toNat (dkL fl[i] (tr o'.trays fl[i].a) (tr o'.trays fl[i].b)) = T2 at *
      have hlT : T2.length = o'.trays.length := by rw [← hTT]; simp
      generalize stO fl[i] o' = o2 at *
      cases hb : ctlB fr to (tr T2 fl[i].to)
      ·rw [hb] at CT
       have hb2 : R.2 = false := by rw [← hR]; exact hbad hb
       rw [caW_no hb2, show cdW R = 8 by unfold cdW; rw [hb2]; rfl]
       repeat' first
        |simp -dsimp only [go_sem, gx, hw, e7, ga, hb, hsn, cO, cS, cFd]
        |refine Br.mk ?_ ?_<;>intro h<;>try simp -dsimp only[h]
        |refine CallK.borG (B := [.t 8 0, .t 16 0, .t 16 1]) (by first|exact DO) rfl ?_
        |refine CallK.c (by first|exact WD|exact LS|exact CT) ?_
        |refine and_c ?_
        |fail
       all_goals first | omega | exact ⟨_, _, rfl, rfl⟩ | exact ⟨⟨_, _, rfl, rfl⟩, fun h => h rfl⟩ | exact fun _ => ⟨⟨_, _, rfl, rfl⟩, fun h => h rfl⟩ | exact ⟨fun _ => ⟨_, _, rfl, rfl⟩, fun h => absurd rfl h⟩
      ·rw [hb] at CT
       have hnext := hstep hb
       generalize ctlT fr to (tr T2 fl[i].to) = ct at *
       repeat' first
        |simp -dsimp only [go_sem, gx, hw, e7, ga, hb, hsn, cO, cS, cFd]
        |refine Br.mk ?_ ?_<;>intro h<;>try simp -dsimp only[h]
        |refine CallK.borG (B := [.t 8 0, .t 16 0, .t 16 1]) (by first|exact DO) rfl ?_
        |refine CallK.c (by first|exact WD|exact LS|exact CT) ?_
        |refine and_c ?_
        |fail
       all_goals first | omega | (refine ⟨⟨(i + 1, o2, acc ++ [ct]), by simp only; omega, hok, by simp only; omega, hnext⟩, .inl ?_, by simp only; omega⟩; simp [Vs.LeL, Vs.look, Vs.hlook, Vs.sput, Vs.sputs, Vs.hset, Vs.hputs, hgT, hgH, q1, q2, hlT, hsn]; done)
    ·have DO := l15DoL_no fl[i] hzx o' w ho' hv h0
     have e0 : (stC fl[i] o' != 0) = true := by simp [h0]
     have hstop := algI_stop hlt hrun (by unfold dsC; rw [hv]; exact h0)
     rw [hR] at hstop
     subst hstop
     rw [caW_ok, show cdW (acc, true) = 0 from rfl]
     generalize stC fl[i] o' = c at *
     repeat' first
      |simp -dsimp only [go_sem, gx, e0, hk1, cO, cS, cFd]
      |refine Br.mk ?_ ?_<;>intro h<;>try simp -dsimp only[h]
      |refine CallK.borG (B := [.t 8 0, .t 16 0, .t 16 1]) (by first|exact DO) rfl ?_
      |refine CallK.c (by first|exact WD|exact LS) ?_
      |refine and_c ?_
      |fail
     all_goals first | omega | exact ⟨_, _, rfl, rfl⟩ | exact ⟨⟨_, _, rfl, rfl⟩, fun h => h rfl⟩ | exact fun _ => ⟨⟨_, _, rfl, rfl⟩, fun h => h rfl⟩ | exact ⟨fun _ => ⟨_, _, rfl, rfl⟩, fun h => absurd rfl h⟩
  ·have hge : i = fl.length := by
    have : ¬ i < fl.length := Dq
    omega
   subst hge
   have hstop := algI_end hrun
   rw [hR] at hstop
   subst hstop
   rw [caW_ok, show cdW (acc, true) = 0 from rfl]
   repeat' first
    |simp -dsimp only [go_sem, hk1, cO, cS, cFd]
    |refine Br.mk ?_ ?_<;>intro h<;>try simp -dsimp only[h]
    |refine And.intro ?_ (fun h => absurd rfl h)
    |refine and_c ?_
    |fail
   all_goals first | omega | exact ⟨_, _, rfl, rfl⟩ | exact ⟨⟨_, _, rfl, rfl⟩, fun h => h rfl⟩ | exact fun _ => ⟨⟨_, _, rfl, rfl⟩, fun h => h rfl⟩ | exact ⟨fun _ => ⟨_, _, rfl, rfl⟩, fun h => absurd rfl h⟩
end Go.Proofs.YtagejhkjpgephaaGreatDoor
