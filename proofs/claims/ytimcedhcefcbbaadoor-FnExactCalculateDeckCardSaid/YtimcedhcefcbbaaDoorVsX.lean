/- Regions whose order is open. -/
import Derived.Test.YtimcedhcefcbbaaDoorVsV
set_option linter.all false
set_option maxHeartbeats 8000000
namespace Go.Vs
section
variable [Envs]
variable {P : Program} {C : Ctx} {a : Act} {w : World} {S : Nat → Prop} {ρ : Name → Option Nat} {κ : Name → Nat}
structure WF (σ : FSt) : Prop where
 s : ∀ t, Nm (fun _ => True) (σ.s t)
 h : ∀ n b, σ.h n = some b → NmB (fun _ => True) b
theorem rc_nm {x : AV} {v : Value} (h : RC S w x v) : Nm (fun _ => False) x := by
 have key : ∀ (c : List AV), (∀ j, j < c.length → Nm (fun _ => False) (c.getD j .junk)) → ∀ y, y ∈ c → Nm (fun _ => False) y := by
  intro c hc y hy
  obtain ⟨j, hj, rfl⟩ := List.mem_iff_getElem.1 hy
  have := hc j hj
  simpa [List.getD, hj] using this
 induction h with
 | v x => exact .v _ _
 | sl k l base cap x off xs hb hc ho hr hk hcap ih =>
  refine .sl _ _ _ fun r hr' y hy => ?_
  obtain ⟨i, hi, rfl⟩ := List.mem_iff_getElem.1 hr'
  have e : l.getD i [] = l[i] := by simp [List.getD, hi]
  refine key _ (fun j hj => ?_) y hy
  have := ih i j hi (by rw [← hk i hi, e]; exact hj)
  rwa [e] at this
 | ro c x off xs hx hc ho hr ih => exact .ro _ _ (key c ih)
 | fn f c vs hl hr ih => exact .fn _ _ _ (key c ih)
 | agg c vs hl hr ih => exact .agg _ _ (key c ih)
 | tup c vs hl hr ih => exact .tup _ _ (key c ih)
theorem rv_nm {h : Name → Option Blk} {x : AV} {v : Value} (hx : RV S w ρ κ h x v) : Nm (fun _ => True) x := by
 have key : ∀ (c : List AV), (∀ j, j < c.length → Nm (fun _ => True) (c.getD j .junk)) → ∀ y, y ∈ c → Nm (fun _ => True) y := by
  intro c hc y hy
  obtain ⟨j, hj, rfl⟩ := List.mem_iff_getElem.1 hy
  have := hc j hj
  simpa [List.getD, hj] using this
 induction hx with
 | junk v => exact .junk _
 | clo hx => exact (rc_nm hx).mono fun _ h => h.elim
 | loc n off len v hv => exact .loc _ _ _ _ trivial
 | ptr n e c v hv => exact .ptr _ _ _ _ trivial
 | fn f c vs hl hr ih => exact .fn _ _ _ (key c ih)
 | agg c vs hl hr ih => exact .agg _ _ (key c ih)
 | tup c vs hl hr ih => exact .tup _ _ (key c ih)
theorem OK.wf {σ : FSt} (hok : OK C σ a w S ρ κ) : WF σ := by
 refine ⟨fun t => rv_nm (hok.slots t), fun n b hb => ?_⟩
 have hk := hok.hok.blk n b hb
 cases b with
 | var c z =>
  obtain ⟨x, cs, T, fr, _, _, _, _, _, _, _, h7⟩ := hk
  intro y hy
  obtain ⟨j, hj, rfl⟩ := List.mem_iff_getElem.1 hy
  have := rv_nm (h7 j hj).2
  simpa [List.getD, hj] using this
 | arr k l z =>
  obtain ⟨h0, ⟨_, rfl⟩ | ⟨x, cs, T, fr, _, _, _, _, _, _, _, h7⟩⟩ := hk
  ·intro r hr; cases hr
  ·intro r hr y hy
   obtain ⟨i, hi, rfl⟩ := List.mem_iff_getElem.1 hr
   obtain ⟨j, hj, rfl⟩ := List.mem_iff_getElem.1 hy
   have e : l.getD i [] = l[i] := by simp [List.getD, hi]
   have := rc_nm (h7 i j hi (by rw [← h0 i hi, e]; exact hj)).2
   rw [e] at this
   simpa [List.getD, hj] using this
theorem Nm.and {p q : Name → Prop} {x : AV} (hx : Nm p x) (ho : Off (fun n => ¬ q n) x) : Nm (fun n => p n ∧ q n) x := by
 induction hx with
 | junk => exact .junk _
 | v => exact .v _ _
 | sl _ k l hl _ => exact .sl _ k l hl
 | ro _ c hc _ => exact .ro _ c hc
 | loc _ n off len hn => exact .loc _ n off len ⟨hn, Classical.not_not.1 ho.loc⟩
 | ptr _ n e c hn => exact .ptr _ n e c ⟨hn, Classical.not_not.1 ho.ptr⟩
 | fn _ f c hc ih => exact .fn _ f c fun x hx => ih x hx (ho.fn.mem x hx)
 | agg _ c hc ih => exact .agg _ c fun x hx => ih x hx (ho.agg.mem x hx)
 | tup _ c hc ih => exact .tup _ c fun x hx => ih x hx (ho.tup.mem x hx)
theorem OffB.mem {N : Name → Prop} {c : List AV} {z : Bool} (ho : OffB N (.var c z)) : OffL N c := fun n hn => ho n hn
theorem NmB.and {p q : Name → Prop} {b : Blk} (hx : NmB p b) (ho : OffB (fun n => ¬ q n) b) : NmB (fun n => p n ∧ q n) b := by
 cases b with
 | var c z => exact fun x hx' => (hx x hx').and (ho.mem.mem x hx')
 | arr k l z => exact hx
theorem NmB.frz {p : Name → Prop} {b b' : Blk} (hb : frz b' = frz b) (hx : NmB p b) : NmB p b' := by
 cases b <;> cases b' <;> simp [Vs.frz] at hb <;> simp_all [NmB]
theorem Eff.move {d : Option Nat} {op : AOp} {σ σ' : FSt} {δ : Dl} {N : Name → Prop} (he : Eff P d op σ δ) (hfree : freeA op = true)
  (ho : ∀ o, o ∈ opnds op → evO σ.s o = evO σ'.s o ∧ Off N (evO σ.s o)) (ha : Agr N σ.h σ'.h) (hb : ∀ n b, ¬ N n → σ.h n = some b → OffB N b)
  (hf : ∀ n, δ.nn n → FreshF n σ') : Eff P d op σ' δ := by
 cases he with
 | rd v h1 h2 h3 =>
  refine .rd v h1 (fun K hK => rd_agr ha ho (h2 K hK)) fun p hp hh => ?_
  have e : (fun n => ¬ ¬ N n) = N := funext fun n => propext Classical.not_not
  have := h3 (fun n => p n ∧ ¬ N n) (fun o hm => ?_) (fun n b hn hx => ?_)
  ·exact this.mono fun n h => h.1
  ·obtain ⟨e1, e2⟩ := ho o hm
   refine Nm.and ?_ (by rw [e]; exact e2)
   rw [e1]; exact hp o hm
  ·obtain ⟨b', h4, h5⟩ := ha.some hn.2 hx
   refine NmB.and (NmB.frz h5.symm (hh n b' hn.1 h4)) (by rw [e]; exact hb n b hn.2 hx)
 | al d' hd v b h1 hf' hn h2 h3 =>
  refine .al d' hd v b (fun K hK => al_agr ha ?_ ?_ ?_ ho (h1 K hK)) (hf _ rfl) hn h2 fun N' hN' => h3 N' fun o hm => by rw [(ho o hm).1]; exact hN' o hm
  ·rintro z rfl; exact allV_off (by simpa [freeA, okZ] using hfree)
  ·rintro k m z ps rfl; exact allV_off (by simpa [freeA, okZ] using hfree)
  ·rintro k m z ps rfl; exact allV_off (by simpa [freeA, okZ] using hfree)
 | call d' hd f args hop g caps hg ys L hm r hout fz hfn hflat hfr =>
  subst hop
  have ⟨ef, of⟩ := ho f (by simp [opnds])
  rw [hg] at of
  have hargs : args.map (evO σ.s) = args.map (evO σ'.s) := List.map_congr_left fun o hm => (ho o (by simp [opnds, hm])).1
  refine .call d' hd f args rfl g caps (by rw [← ef]; exact hg) ys L ?_ r hout fz hfn hflat fun j hj => ?_
  ·rw [← hargs, ← mapO_agr (f := conv σ.h 8 [] false) fun x hx => ?_]
   ·exact hm
   ·refine (conv_agr ha hb 8 false x ?_).1
    rcases List.mem_append.1 hx with hx | hx
    ·obtain ⟨o, hm', rfl⟩ := List.mem_map.1 hx
     exact (ho o (by simp [opnds, hm'])).2
    ·exact of.fn.mem x hx
  ·exact hf _ ⟨j, hj, rfl⟩
theorem Eff.new {d : Option Nat} {op : AOp} {σ : FSt} {δ : Dl} (he : Eff P d op σ δ) : (∀ n, δ.nn n → ∃ d' j, d = some d' ∧ n = .t d' j ∧ FreshF n σ) ∧ ∀ n b, hlook δ.nb n = some b → δ.nn n := by
 cases he with
 | rd v h1 h2 h3 => exact ⟨fun n hn => hn.elim, fun n b hb => by simp [hlook] at hb⟩
 | al d' hd v b h1 hf' hn h2 h3 =>
  refine ⟨fun n hn => ⟨d', 0, hd, hn, by rw [hn]; exact hf'⟩, fun n b' hb => ?_⟩
  simp only [hlook] at hb
  split at hb
  ·assumption
  ·cases hb
 | call d' hd f args hop g caps hg ys L hm r hout fz hfn hflat hfr =>
  refine ⟨fun n ⟨j, hj, e⟩ => ⟨d', j, hd, e, by rw [e]; exact hfr j hj⟩, fun n b hb => ?_⟩
  rw [hlook_news] at hb
  cases n with
  | b j => simp [newsAt] at hb
  | t d'' j =>
   simp only [newsAt] at hb
   split at hb
   ·rename_i hc
    exact ⟨j, by omega, by rw [hc.1]⟩
   ·cases hb
theorem rnB_off {N : Name → Prop} {φ : Name → Option Name} (hφ : ∀ n m, N n → φ m ≠ some n) (b : Blk) : OffB N (rnB φ b) := by
 cases b with
 | var c z => exact fun n hn => rnL_has φ n (fun m => hφ n m hn) c
 | arr k l z => exact fun n hn => rfl
theorem newsL_mem {g : Blk → Blk} {d nB : Nat} : ∀ {l : List (Option Blk)} {i : Nat} {n : Name} {b : Blk}, (n, b) ∈ newsL g d nB i l → ∃ b', b = g b'
 | [], _, _, _, h => by simp [newsL] at h
 | none :: r, i, n, b, h => newsL_mem (l := r) (i := i + 1) (by simpa [newsL] using h)
 | some x :: r, i, n, b, h => by
  simp only [newsL] at h
  split at h
  ·rcases List.mem_cons.1 h with h | h
   ·simp only [Prod.mk.injEq] at h; exact ⟨x, h.2⟩
   ·exact newsL_mem h
  ·exact newsL_mem h
theorem Eff.off {d : Option Nat} {op : AOp} {σ : FSt} {δ : Dl} {N : Name → Prop} (he : Eff P d op σ δ) (hN : ∀ n, δ.nn n → ¬ N n) (hown : ∀ d' j, d = some d' → ¬ N (.t d' j)) (hs : WF σ)
  (ho : ∀ o, o ∈ opnds op → Off N (evO σ.s o)) (hb : ∀ n b, ¬ N n → σ.h n = some b → OffB N b) :
  Off N δ.v ∧ (∀ n b, hlook δ.nb n = some b → OffB N b) ∧ ∀ n, n ∈ δ.L → ¬ N n := by
 have ev_nm : ∀ o, Nm (fun _ => True) (evO σ.s o) := by
  intro o
  cases o with
  | tmp t => exact hs.s t
  | const v =>
   simp only [evO]
   cases v <;> first
    | exact .v _ _
    | (simp only [AV.ofValue]
       refine .agg _ _ fun x hx => ?_
       obtain ⟨y, _, rfl⟩ := List.mem_map.1 hx
       exact .v _ _)
  | global g => exact .junk _
  | func f => exact .fn _ _ _ (by simp)
 cases he with
 | rd v h1 h2 h3 =>
  refine ⟨?_, fun n b hb => by simp [hlook] at hb, by simp⟩
  have := h3 (fun n => ¬ N n) (fun o hm => (ev_nm o).of_off (ho o hm)) fun n b hn hx => ?_
  ·exact this.off fun n hn => hn
  ·have e : (fun n => ¬ ¬ N n) = N := funext fun n => propext Classical.not_not
   have := NmB.and (q := fun n => ¬ N n) (hs.h n b hx) (by rw [e]; exact hb n b hn hx)
   cases b with
   | var c z => exact fun x hx => (this x hx).mono fun _ h => h.2
   | arr k l z => exact this
 | al d' hd v b h1 hf' hn h2 h3 =>
  refine ⟨h2 N (hN _ rfl), fun n b' hb' => ?_, by simp⟩
  simp only [hlook] at hb'
  split at hb'
  ·obtain rfl := Option.some.inj hb'
   exact h3 N ho
  ·cases hb'
 | call d' hd f args hop g caps hg ys L hm r hout fz hfn hflat hfr =>
  subst hop
  have hφ : ∀ n m, N n → phi [] d' hout.length m ≠ some n := by
   intro n m hn e
   cases m with
   | t a b => simp [phi] at e
   | b j =>
    simp only [phi, List.length_nil, Nat.not_lt_zero, if_false] at e
    split at e
    ·exact hown d' j hd (by rw [Option.some.inj e]; exact hn)
    ·cases e
  refine ⟨fun n hn => rn_has _ n (fun m => hφ n m hn) r, fun n b hx => ?_, fun n hn => ?_⟩
  ·obtain ⟨b', rfl⟩ := newsL_mem (hlook_mem _ _ _ hx)
   exact rnB_off hφ b'
  ·have of := ho f (by simp [opnds])
   rw [hg] at of
   refine mapO_names (fun n => ¬ N n) (fun x hx y L' hc => ?_) hm n hn
   refine (conv_agr (h' := σ.h) (fun _ _ => rfl) hb 8 false x ?_).2 y L' hc
   rcases List.mem_append.1 hx with hx | hx
   ·obtain ⟨o, hm', rfl⟩ := List.mem_map.1 hx
    exact ho o (by simp [opnds, hm'])
   ·exact of.fn.mem x hx
theorem app_h (d : Option Nat) (δ : Dl) (σ : FSt) (n : Name) : (app d δ σ).h n = (hlook δ.nb n).or ((σ.h n).map fun b => if δ.fz = true ∧ n ∈ δ.L then frz b else b) := rfl
theorem frz_if (b : Blk) (p : Prop) [Decidable p] : frz (if p then frz b else b) = frz b := by
 split
 ·cases b <;> rfl
 ·rfl
theorem app_agr {d : Option Nat} {δ : Dl} {σ : FSt} (hn : ∀ n b, hlook δ.nb n = some b → δ.nn n) : Agr δ.nn σ.h (app d δ σ).h := by
 intro n h
 rw [app_h]
 cases hx : hlook δ.nb n with
 | some b => exact absurd (hn n b hx) h
 | none =>
  rw [Option.none_or]
  cases σ.h n with
  | none => rfl
  | some b => simp only [Option.map_some, frz_if]
theorem app_s {d : Option Nat} {δ : Dl} {σ : FSt} {t : Nat} (h : d ≠ some t) : (app d δ σ).s t = σ.s t := by
 cases d with
 | none => rfl
 | some d =>
  simp only [app, upd]
  rw [if_neg]
  rintro rfl; exact h rfl
theorem app_s_eq {d : Nat} {δ : Dl} {σ : FSt} : (app (some d) δ σ).s d = δ.v := by simp [app, upd]
theorem evO_app {d : Option Nat} {δ : Dl} {σ : FSt} {o : Operand} (h : ∀ t, d = some t → o ≠ .tmp t) : evO (app d δ σ).s o = evO σ.s o := by
 cases o with
 | tmp t =>
  simp only [evO]
  exact app_s fun e => h t e rfl
 | _ => rfl
theorem FreshF.off {n : Name} {σ : FSt} (h : FreshF n σ) (o : Operand) : (evO σ.s o).has n = false := by
 cases o with
 | tmp t => exact h.2.1 t
 | const v =>
  simp only [evO]
  cases v <;> first
   | rfl
   | (simp only [AV.ofValue, AV.has]
      have : OffL (fun m => m = n) (List.map (fun x => AV.v x) (Array.toList ‹_›)) := OffL.of_mem fun x hx => by
        obtain ⟨y, _, rfl⟩ := List.mem_map.1 hx
        exact Off.v _
      exact this n rfl)
 | global g => rfl
 | func f => rfl
theorem if_has (b : Blk) (p : Prop) [Decidable p] (n : Name) : (if p then frz b else b).has n = b.has n := by
 split
 ·exact frz_has (by cases b <;> rfl) n
 ·rfl
theorem eff_swap {dx dy : Option Nat} {x y : AOp} {σ : FSt} {δx δy : Dl} (hx : Eff P dx x σ δx) (hy : Eff P dy y (app dx δx σ) δy) (hs : WF σ) (fx : freeA x = true) (fy : freeA y = true)
  (a1 : ∀ t, dx = some t → ∀ o, o ∈ opnds y → o ≠ .tmp t) (a2 : ∀ t, dy = some t → ∀ o, o ∈ opnds x → o ≠ .tmp t) (a3 : ∀ t, dx = some t → dy ≠ some t)
  (j1 : ∀ t, dx = some t → σ.s t = .junk) (j2 : ∀ t, dy = some t → σ.s t = .junk) :
  Eff P dy y σ δy ∧ Eff P dx x (app dy δy σ) δx ∧ app dx δx (app dy δy σ) = app dy δy (app dx δx σ) := by
 obtain ⟨nx, bx⟩ := hx.new
 obtain ⟨ny, by'⟩ := hy.new
 have hxy : ∀ n, δx.nn n → ¬ δy.nn n := by
  intro n h1 h2
  obtain ⟨d1, i1, e1, rfl, _⟩ := nx n h1
  obtain ⟨d2, i2, e2, e3, _⟩ := ny _ h2
  simp only [Name.t.injEq] at e3
  exact a3 d1 e1 (by rw [e2, e3.1])
 have sx : ∀ o, Off δx.nn (evO σ.s o) := fun o n hn => by obtain ⟨_, _, _, _, hf⟩ := nx n hn; exact hf.off o
 have hbx : ∀ n b, σ.h n = some b → OffB δx.nn b := fun n b hb m hm => by obtain ⟨_, _, _, _, hf⟩ := nx m hm; exact hf.2.2 n b hb
 have hnone : ∀ n, δx.nn n → σ.h n = none := fun n hn => by obtain ⟨_, _, _, _, hf⟩ := nx n hn; exact hf.1.1
 have agx := app_agr (d := dx) (σ := σ) bx
 have fy' : ∀ n, δy.nn n → FreshF n σ := by
  intro n hn
  obtain ⟨d2, i2, e2, rfl, hf⟩ := ny n hn
  have hnx : ¬ δx.nn (.t d2 i2) := fun h => hxy _ h hn
  refine ⟨⟨?_, hf.1.2⟩, fun t => ?_, fun m b hb => ?_⟩
  ·have := hf.1.1
   rw [app_h] at this
   cases hσ : σ.h (.t d2 i2) with
   | none => rfl
   | some b => rw [hσ] at this; simp at this
  ·by_cases ht : dx = some t
   ·rw [j1 t ht]; rfl
   ·have := hf.2.1 t
    rwa [app_s ht] at this
  ·have h1 : ¬ δx.nn m := fun h => by rw [hnone m h] at hb; cases hb
   have h2 : hlook δx.nb m = none := by
    cases h : hlook δx.nb m with
    | none => rfl
    | some b => exact absurd (bx m b h) h1
   have := hf.2.2 m (if δx.fz = true ∧ m ∈ δx.L then frz b else b) (by rw [app_h, h2, hb]; rfl)
   rwa [if_has] at this
 have hy1 : Eff P dy y σ δy := by
  refine hy.move (N := δx.nn) fy (fun o ho => ?_) agx.symm (fun n b hn hb => ?_) fy'
  ·have e := evO_app (δ := δx) (σ := σ) (fun t ht => a1 t ht o ho)
   exact ⟨e, by rw [e]; exact sx o⟩
  ·rw [app_h] at hb
   have h2 : hlook δx.nb n = none := by
    cases h : hlook δx.nb n with
    | none => rfl
    | some b => exact absurd (bx n b h) hn
   rw [h2, Option.none_or] at hb
   cases hσ : σ.h n with
   | none => rw [hσ] at hb; cases hb
   | some b0 =>
    rw [hσ] at hb
    obtain rfl := Option.some.inj hb
    intro m hm
    rw [if_has]
    exact hbx n b0 hσ m hm
 obtain ⟨ov, ob, oL⟩ := hy1.off (N := δx.nn) (fun n hn h => hxy n h hn) (fun d' j hd' h => by
   obtain ⟨d1, i1, e1, e2, _⟩ := nx _ h
   simp only [Name.t.injEq] at e2
   exact a3 d1 e1 (by rw [hd', e2.1])) hs (fun o _ => sx o) (fun n b _ hb => hbx n b hb)
 have agy := app_agr (d := dy) (σ := σ) by'
 have sy : ∀ o, Off δy.nn (evO σ.s o) := fun o n hn => (fy' n hn).off o
 have hx1 : Eff P dx x (app dy δy σ) δx := by
  refine hx.move (N := δy.nn) fx (fun o ho => ⟨(evO_app (δ := δy) (σ := σ) (fun t ht => a2 t ht o ho)).symm, sy o⟩) agy (fun n b _ hb m hm => (fy' m hm).2.2 n b hb) fun n hn => ?_
  obtain ⟨d1, i1, e1, rfl, hf⟩ := nx n hn
  have hny := hxy _ hn
  refine ⟨⟨?_, hf.1.2⟩, fun t => ?_, fun m b hb => ?_⟩
  ·rw [app_h, hf.1.1]
   cases h : hlook δy.nb (.t d1 i1) with
   | none => rfl
   | some b => exact absurd (by' _ b h) hny
  ·by_cases ht : dy = some t
   ·subst ht; rw [app_s_eq]; exact ov _ hn
   ·rw [app_s ht]; exact hf.2.1 t
  ·rw [app_h] at hb
   cases h : hlook δy.nb m with
   | some b' =>
    rw [h] at hb
    obtain rfl := Option.some.inj hb
    exact ob m _ h _ hn
   | none =>
    rw [h, Option.none_or] at hb
    cases hσ : σ.h m with
    | none => rw [hσ] at hb; cases hb
    | some b0 =>
     rw [hσ] at hb
     obtain rfl := Option.some.inj hb
     rw [if_has]; exact hbx m b0 hσ _ hn
 refine ⟨hy1, hx1, ?_⟩
 obtain ⟨_, _, oLx⟩ := hx.off (N := δy.nn) (fun n hn => hxy n hn) (fun d' j hd' h => by
   obtain ⟨d1, i1, e1, e2, _⟩ := ny _ h
   simp only [Name.t.injEq] at e2
   exact a3 d' hd' (by rw [e1, e2.1])) hs (fun o _ => sy o) (fun n b _ hb m hm => (fy' m hm).2.2 n b hb)
 have e1 : (app dx δx (app dy δy σ)).s = (app dy δy (app dx δx σ)).s := by
  funext t
  by_cases h1 : dx = some t
  ·have h2 := a3 t h1
   subst h1
   rw [app_s_eq, app_s h2, app_s_eq]
  ·by_cases h2 : dy = some t
   ·rw [app_s h1]; subst h2; rw [app_s_eq, app_s_eq]
   ·rw [app_s h1, app_s h2, app_s h2, app_s h1]
 have e2 : (app dx δx (app dy δy σ)).h = (app dy δy (app dx δx σ)).h := by
  funext n
  simp only [app_h]
  cases h1 : hlook δx.nb n with
  | some b1 =>
   have hn := bx n b1 h1
   have h2 : hlook δy.nb n = none := by
    cases h : hlook δy.nb n with
    | none => rfl
    | some b => exact absurd (by' n b h) (hxy n hn)
   have h3 : n ∉ δy.L := fun h => oL n h hn
   simp only [h2, Option.none_or, Option.some_or, Option.map_some, h3, and_false, if_false]
  | none =>
   cases h2 : hlook δy.nb n with
   | some b2 =>
    have h3 : n ∉ δx.L := fun h => oLx n h (by' n b2 h2)
    simp only [Option.none_or, Option.some_or, Option.map_some, h3, and_false, if_false]
   | none =>
    simp only [Option.none_or]
    cases σ.h n with
    | none => rfl
    | some b =>
     simp only [Option.map_some, Option.some.injEq]
     cases b <;> split <;> split <;> simp [frz]
 show (⟨_, _⟩ : FSt) = ⟨_, _⟩
 exact congr (congrArg FSt.mk e1) e2
end
section
variable [Envs]
variable {P : Program} {C : Ctx} {a : Act} {w : World} {S : Nat → Prop} {ρ : Name → Option Nat} {κ : Name → Nat}
theorem bool_ne {b c : Bool} (h : b ≠ c) : b = !c := by cases b <;> cases c <;> simp at h <;> rfl
def freeO (o : AOper) : Bool := freeA o.op && (isRd o.op || o.dst.isSome)
def skipA : AOp := .mv (.const (.tuple #[]))
def opOf (b : Bool) (o : AOper) : AOp := if b then o.op else skipA
def EffS (P : Program) (b : Bool) (o : AOper) (σ : FSt) (δ : Dl) : Prop := Eff P o.dst (opOf b o) σ δ
def runs (o : AOper) (σ : FSt) (b : Bool) : Prop :=
 match o.guard with
 | none => b = true
 | some (g, want) => (∃ c, σ.s g = .v (.bool c) ∧ b = (c == want)) ∨ ((∃ cs, σ.s g = .v (.tuple cs)) ∧ b = false)
def EffG (P : Program) (o : AOper) (σ : FSt) (δ : Dl) : Prop := ∃ b, runs o σ b ∧ EffS P b o σ δ
def keepJ (d : Option Nat) (σ σ' : St) : Prop := ∀ t, d ≠ some t → look σ.s t = .junk → look σ'.s t = .junk
def vcE (P : Program) (K : FSt → Prop) : List AOper → FSt → Prop
 | [], σ => K σ
 | o :: r, σ => if freeO o = true then ∃ δ, EffG P o σ δ ∧ vcE P K r (app o.dst δ σ)
  else ∃ σl : St, σl.f = σ ∧ vc P (fun σ' => vcE P K r σ'.f ∧ keepJ o.dst σl σ') [o] σl
theorem put_keep (d : Option Nat) (x : AV) (σ : St) (h : List (Name × Blk)) : keepJ d σ ⟨put d x σ.s, h⟩ := by
 intro t ht hj
 show look (put d x σ.s) t = _
 rw [look_put]
 cases d with
 | none => exact hj
 | some d =>
  simp only [upd]
  rw [if_neg (by rintro rfl; exact ht rfl)]
  exact hj
theorem stepA_keep {d : Option Nat} {σ : St} {K : St → Prop} {op : AOp} (hv : stepA P d σ K op) : stepA P d σ (fun σ' => K σ' ∧ keepJ d σ σ') op := by
 by_cases hr : isRd op = true
 ·rw [stepA_rd hr] at hv ⊢
  obtain ⟨x, h1, h2, _⟩ := rd_point hv
  exact h2 _ ⟨h1, put_keep _ _ _ _⟩
 ·have alc : ∀ {op : AOp} {d' : Nat}, al (evO (look σ.s)) (hlook σ.h) (.t d' 0) (fun v b => (freshL (.t d' 0) σ = true ∧ b.has (.t d' 0) = false) ∧ K ⟨(d', v) :: σ.s, (.t d' 0, b) :: σ.h⟩) op →
    al (evO (look σ.s)) (hlook σ.h) (.t d' 0) (fun v b => (freshL (.t d' 0) σ = true ∧ b.has (.t d' 0) = false) ∧ K ⟨(d', v) :: σ.s, (.t d' 0, b) :: σ.h⟩ ∧ keepJ (some d') σ ⟨(d', v) :: σ.s, (.t d' 0, b) :: σ.h⟩) op := by
   intro op d' hv
   obtain ⟨x, b, ⟨h1, h3⟩, h4, _⟩ := al_point hv
   exact h4 _ ⟨h1, h3, put_keep (some d') _ _ _⟩
  cases op
  case box x => cases d with
   | none => exact hv
   | some d => exact alc (op := .box x) (d' := d) hv
  case alloc z => cases d with
   | none => exact hv
   | some d => exact alc (op := .alloc z) (d' := d) hv
  case bslice k m z ps => cases d with
   | none => exact hv
   | some d => exact alc (op := .bslice k m z ps) (d' := d) hv
  case mk k y z n => cases d with
   | none => exact hv
   | some d => exact alc (op := .mk k y z n) (d' := d) hv
  case call f args bor =>
   simp only [stepA, callL] at hv ⊢
   split at hv
   ·split at hv
    ·obtain ⟨h1, r, hout, fz, h2, h3, h4, h5⟩ := hv
     exact ⟨h1, r, hout, fz, h2, h3, h4, h5, put_keep _ _ _ _⟩
    ·exact hv
   ·exact hv
  case store k A X =>
   simp only [stepA] at hv ⊢
   refine ⟨hv.1, ?_⟩
   have hv := hv.2
   split at hv
   ·split at hv
    ·exact ⟨hv.1, hv.2, fun t _ hj => hj⟩
    ·exact hv
   ·exact hv
  case clr k z X =>
   simp only [stepA] at hv ⊢
   split at hv
   ·split at hv
    ·refine ⟨hv.1, hv.2, fun t ht hj => ?_⟩
     have := put_keep d (.v (.tuple #[])) σ σ.h t ht hj
     exact this
    ·exact hv
   ·exact hv
  case append k y A X =>
   cases d with
   | none => exact hv
   | some d =>
    simp only [stepA] at hv ⊢
    split at hv
    ·rename_i on l l' _ _
     refine ⟨hv.1, hv.2, fun t ht hj => ?_⟩
     have e : look ((d, AV.loc (.t d 0) 0 (l.length + l'.length)) :: (killOL on σ).s) t = look (killOL on σ).s t := by
      simp only [look]
      rw [if_neg (by rintro rfl; exact ht rfl)]
     show look ((d, AV.loc (.t d 0) 0 (l.length + l'.length)) :: (killOL on σ).s) t = _
     rw [e]
     cases on with
     | none => exact hj
     | some n =>
      simp only [killOL, killL]
      rw [look_map (scr n) (by simp [scr, AV.has]), hj]
      simp [scr, AV.has]
    ·exact hv
  case appendC k y A X =>
   cases d with
   | none => exact hv
   | some d =>
    simp only [stepA] at hv ⊢
    split at hv
    ·rename_i on l l' _ _
     refine ⟨hv.1, hv.2, fun t ht hj => ?_⟩
     have e : look ((d, AV.sl k (l ++ l')) :: (killOL on σ).s) t = look (killOL on σ).s t := by
      simp only [look]
      rw [if_neg (by rintro rfl; exact ht rfl)]
     show look ((d, AV.sl k (l ++ l')) :: (killOL on σ).s) t = _
     rw [e]
     cases on with
     | none => exact hj
     | some n =>
      simp only [killOL, killL]
      rw [look_map (scr n) (by simp [scr, AV.has]), hj]
      simp [scr, AV.has]
    ·exact hv
  case bsliceC k m z ps => cases d with
   | none => exact hv
   | some d =>
    simp only [stepA] at hv ⊢
    obtain ⟨x, b, ⟨h1, rows, h2, h3, h4⟩, h5, _⟩ := al_point (op := .bslice k m z ps) hv
    exact h5 _ ⟨h1, rows, h2, h3, h4, put_keep (some d) _ _ _⟩
  all_goals simp [isRd] at hr
theorem vc1_keep {o : AOper} {σ : St} {K : St → Prop} (hv : vc P K [o] σ) : vc P (fun σ' => K σ' ∧ keepJ o.dst σ σ') [o] σ := by
 simp only [vc] at hv ⊢
 split at hv
 ·exact stepA_keep hv
 ·split at hv
  ·rw [BrW_iff] at hv ⊢
   exact ⟨fun h => stepA_keep (hv.1 h), fun h => ⟨hv.2 h, put_keep _ _ _ _⟩⟩
  ·exact ⟨hv, put_keep _ _ _ _⟩
  ·exact hv
theorem stepA_mono {d : Option Nat} {σ : St} {K K' : St → Prop} (hK : ∀ σ, K σ → K' σ) {op : AOp} (hv : stepA P d σ K op) : stepA P d σ K' op := by
 by_cases hr : isRd op = true
 ·rw [stepA_rd hr] at hv ⊢
  obtain ⟨x, h1, h2, _⟩ := rd_point hv
  exact h2 _ (hK _ h1)
 ·have alc : ∀ {op : AOp} {d' : Nat}, al (evO (look σ.s)) (hlook σ.h) (.t d' 0) (fun v b => (freshL (.t d' 0) σ = true ∧ b.has (.t d' 0) = false) ∧ K ⟨(d', v) :: σ.s, (.t d' 0, b) :: σ.h⟩) op →
    al (evO (look σ.s)) (hlook σ.h) (.t d' 0) (fun v b => (freshL (.t d' 0) σ = true ∧ b.has (.t d' 0) = false) ∧ K' ⟨(d', v) :: σ.s, (.t d' 0, b) :: σ.h⟩) op := by
   intro op d' hv
   obtain ⟨x, b, ⟨h1, h3⟩, h4, _⟩ := al_point hv
   exact h4 _ ⟨h1, hK _ h3⟩
  cases op
  case box x => cases d with
   | none => exact hv
   | some d => exact alc (op := .box x) (d' := d) hv
  case alloc z => cases d with
   | none => exact hv
   | some d => exact alc (op := .alloc z) (d' := d) hv
  case bslice k m z ps => cases d with
   | none => exact hv
   | some d => exact alc (op := .bslice k m z ps) (d' := d) hv
  case mk k y z n => cases d with
   | none => exact hv
   | some d => exact alc (op := .mk k y z n) (d' := d) hv
  case call f args bor =>
   simp only [stepA, callL] at hv ⊢
   split at hv
   ·split at hv
    ·obtain ⟨h1, r, hout, fz, h2, h3, h4, h5⟩ := hv
     exact ⟨h1, r, hout, fz, h2, h3, h4, hK _ h5⟩
    ·exact hv
   ·exact hv
  case store k A X =>
   simp only [stepA] at hv ⊢
   refine ⟨hv.1, ?_⟩
   have hv := hv.2
   split at hv
   ·split at hv
    ·exact ⟨hv.1, hK _ hv.2⟩
    ·exact hv
   ·exact hv
  case clr k z X =>
   simp only [stepA] at hv ⊢
   split at hv
   ·split at hv
    ·exact ⟨hv.1, hK _ hv.2⟩
    ·exact hv
   ·exact hv
  case append k y A X =>
   cases d with
   | none => exact hv
   | some d =>
    simp only [stepA] at hv ⊢
    split at hv
    ·exact ⟨hv.1, hK _ hv.2⟩
    ·exact hv
  case appendC k y A X =>
   cases d with
   | none => exact hv
   | some d =>
    simp only [stepA] at hv ⊢
    split at hv
    ·exact ⟨hv.1, hK _ hv.2⟩
    ·exact hv
  case bsliceC k m z ps => cases d with
   | none => exact hv
   | some d =>
    simp only [stepA] at hv ⊢
    obtain ⟨x, b, ⟨h1, rows, h2, h3, h4⟩, h5, _⟩ := al_point (op := .bslice k m z ps) hv
    exact h5 _ ⟨h1, rows, h2, h3, hK _ h4⟩
  all_goals simp [isRd] at hr
theorem vc1_mono {o : AOper} {σ : St} {K K' : St → Prop} (hK : ∀ σ, K σ → K' σ) (hv : vc P K [o] σ) : vc P K' [o] σ := by
 simp only [vc] at hv ⊢
 split at hv
 ·exact stepA_mono hK hv
 ·split at hv
  ·rw [BrW_iff] at hv ⊢
   exact ⟨fun h => stepA_mono hK (hv.1 h), fun h => hK _ (hv.2 h)⟩
  ·exact hK _ hv
  ·exact hv
theorem vc_cons {o : AOper} {r : List AOper} {σ : St} {K : St → Prop} : vc P K (o :: r) σ ↔ vc P (vc P K r) [o] σ := Iff.rfl
theorem vcE_of {K : St → Prop} : ∀ (ops : List AOper) (σ : St), vc P K ops σ → vcE P (fun f => ∃ σ' : St, σ'.f = f ∧ K σ') ops σ.f
 | [], σ, hv => ⟨σ, rfl, hv⟩
 | o :: r, σ, hv => by
  have ih := vcE_of (K := K) r
  simp only [vcE]
  split
  ·rename_i hf
   simp only [freeO, Bool.and_eq_true, Bool.or_eq_true] at hf
   have run : stepA P o.dst σ (vc P K r) o.op → ∃ δ, Eff P o.dst o.op σ.f δ ∧ vcE P (fun f => ∃ σ' : St, σ'.f = f ∧ K σ') r (app o.dst δ σ.f) := fun hs => by
    obtain ⟨δ, h1, σ', h2, h3⟩ := eff_of_step hf.1 hf.2 hs
    exact ⟨δ, h1, by rw [← h2]; exact ih σ' h3⟩
   have skip : vc P K r ⟨put o.dst (.v (.tuple #[])) σ.s, σ.h⟩ → ∃ δ, Eff P o.dst skipA σ.f δ ∧ vcE P (fun f => ∃ σ' : St, σ'.f = f ∧ K σ') r (app o.dst δ σ.f) := fun hs => by
    obtain ⟨δ, h1, σ', h2, h3⟩ := eff_of_step (P := P) (d := o.dst) (σ := σ) (K := vc P K r) (op := skipA) rfl (.inl rfl) hs
    exact ⟨δ, h1, by rw [← h2]; exact ih σ' h3⟩
   simp only [vc] at hv
   split at hv
   ·rename_i hg
    obtain ⟨δ, h1, h2⟩ := run hv
    exact ⟨δ, ⟨true, by simp only [runs, hg], h1⟩, h2⟩
   ·rename_i g want hg
    split at hv
    ·rename_i b hb
     by_cases hbw : b = want
     ·obtain ⟨δ, h1, h2⟩ := run ((BrW_iff.1 hv).1 hbw)
      exact ⟨δ, ⟨true, by simp only [runs, hg]; exact .inl ⟨b, hb, by simp [hbw]⟩, h1⟩, h2⟩
     ·have hn : b = !want := bool_ne hbw
      obtain ⟨δ, h1, h2⟩ := skip ((BrW_iff.1 hv).2 hn)
      exact ⟨δ, ⟨false, by simp only [runs, hg]; exact .inl ⟨b, hb, by simp [hbw]⟩, h1⟩, h2⟩
    ·rename_i cs hb
     obtain ⟨δ, h1, h2⟩ := skip hv
     exact ⟨δ, ⟨false, by unfold runs; rw [hg]; exact .inr ⟨⟨cs, hb⟩, rfl⟩, h1⟩, h2⟩
    ·exact hv.elim
  ·refine ⟨σ, rfl, vc1_mono (fun σ' h => ⟨ih σ' h.1, h.2⟩) (vc1_keep (vc_cons.1 hv))⟩
theorem vc1_of {o : AOper} {σ : St} {δ : Dl} (hc : Canon σ) (he : EffG P o σ.f δ) : vc P (fun σ' => σ'.f = app o.dst δ σ.f) [o] σ := by
 obtain ⟨b, h1, h2⟩ := he
 have skip : b = false → (⟨put o.dst (.v (.tuple #[])) σ.s, σ.h⟩ : St).f = app o.dst δ σ.f := by
  rintro rfl
  exact step_of_eff hc h2
 simp only [vc]
 unfold runs at h1
 split
 ·rename_i hg
  rw [hg] at h1
  simp only at h1
  subst h1
  exact step_of_eff hc h2
 ·rename_i g want hg
  rw [hg] at h1
  rcases h1 with ⟨c, e, rfl⟩ | ⟨⟨cs, e⟩, hb⟩
  ·simp only [show look σ.s g = _ from e]
   by_cases hcw : c = want
   ·subst hcw
    refine BrW_iff.2 ⟨fun _ => ?_, fun hn => by cases c <;> simp at hn⟩
    have : opOf (c == c) o = o.op := by simp [opOf]
    unfold EffS at h2
    rw [this] at h2
    exact step_of_eff hc h2
   ·exact BrW_iff.2 ⟨fun h => absurd h hcw, fun _ => skip (by simp [hcw])⟩
  ·simp only [show look σ.s g = _ from e]
   exact skip hb
theorem op_wp {ops : Array Oper} {Q : Exit → Act → World → Prop} {K : St → Prop} {i : Nat} {o : Oper} {ao : AOper} (ho : ops[i]? = some o) (hc : cOper P C.nt ops o = some ao.bare) {σ : St} (hv : vc P K [ao] σ) (hok : OK C σ.f a w S ρ κ) :
  wpOp P ops Q i (GoodL C K) a w := by
 obtain ⟨h1, h2, h3, h4⟩ := cOper_spec hc
 have go : stepA P ao.dst σ K ao.op → o.wp P a w (GoodL C K) Q := fun hst => step_sound (P := P) h1 hok h3 (by rw [h2]; exact hst)
 unfold wpOp
 rw [ho]
 simp only [vc] at hv
 rcases h4 with ⟨g1, g2⟩ | ⟨j, want, t, g1, g2, g3⟩
 ·rw [g2] at hv
  have : Region.wanted o (yielded ops a.tmps) = true := by simp [Region.wanted, g1]
  simp only [this, if_true]
  exact .inl (go hv)
 ·rw [g2] at hv
  simp only at hv
  split at hv
  ·rename_i b hb
   have hw := wanted_of hok g1 g3 hb
   simp only [hw]
   by_cases hbw : b = want
   ·simp only [hbw, beq_self_eq_true, if_true]
    exact .inl (go ((BrW_iff.1 hv).1 hbw))
   ·have : (b == want) = false := by simpa using hbw
    simp only [this, Bool.false_eq_true, if_false]
    have hn : b = !want := bool_ne hbw
    refine ⟨_, S, ρ, κ, (BrW_iff.1 hv).2 hn, ?_⟩
    have := hok.put (x := .v undef) (v := undef) (.clo (.v _)) h3
    rw [h2] at this ⊢
    simpa [St.f, look_put, undef] using this
  ·rename_i cs hb
   have hw := wanted_un hok g1 g3 hb
   simp only [hw, Bool.false_eq_true, if_false]
   refine ⟨_, S, ρ, κ, hv, ?_⟩
   have := hok.put (x := .v undef) (v := undef) (.clo (.v _)) h3
   rw [h2] at this ⊢
   simpa [St.f, look_put, undef] using this
  ·exact hv.elim
theorem wpOp_ex {ops : Array Oper} {K : Act → World → Prop} {i : Nat} (h : wpOp P ops (fun _ _ _ => False) i K a w) : ∃ a' w', K a' w' := by
 unfold wpOp at h
 split at h
 ·exact ⟨_, _, h⟩
 ·split at h
  ·rcases h with h | ⟨_, _, _, h⟩
   ·rename_i o _ _
    unfold Oper.wp at h
    generalize (execOp a.eval o).run P w = r at h
    cases r with
    | ok n w' =>
     cases n <;> simp only [Oper.upon] at h
     case enter f args =>
      obtain ⟨e, w'', fr, h, _⟩ := h []
      cases e with
      | returned v => exact ⟨_, _, h⟩
      | panicked ch => exact h.elim
      | outgrown => obtain ⟨_, _, h⟩ := h; exact h.elim
     case row row args =>
      obtain ⟨v, w'', h, _⟩ := h (Frame.enter P 0 #[] .normal) []
      exact ⟨_, _, h⟩
     all_goals exact ⟨_, _, h⟩
    | halt x w' => cases x <;> simp only [Oper.upon] at h
   ·exact h.elim
  ·exact ⟨_, _, h⟩
end
end Go.Vs
