/- Two operations that are apart may change places. -/
import Derived.Test.YtpdmjalhahblmaaDoorVsV
namespace Go.Vs
set_option linter.unusedSectionVars false
variable [Envs]
variable {P : Program} {C : Ctx} {a : Act} {w : World} {S : Nat → Prop} {ρ : Name → Option Nat} {κ : Name → Nat}

structure WF (σ : FSt) : Prop where
  s : ∀ t, Nm (fun _ => True) (σ.s t)
  h : ∀ n b, σ.h n = some b → NmB (fun _ => True) b

theorem rc_nm {x : AV} {v : Value} (h : RC S w x v) : Nm (fun _ => False) x := by
  have key : ∀ (c : List AV), (∀ j, j < c.length → Nm (fun _ => False) (c.getD j .junk)) → ∀ y, y ∈ c → Nm (fun _ => False) y := by
    intro c hc y hy
    obtain ⟨j, hj, rfl⟩ := List.mem_iff_getElem.1 hy
    have := hc j hj
    simpa [List.getD, hj] using this
  induction h with
  | v x => exact .v _ _
  | sl k l base cap x off xs hb hc ho hr hk hcap ih =>
    refine .sl _ _ _ fun r hr' y hy => ?_
    obtain ⟨i, hi, rfl⟩ := List.mem_iff_getElem.1 hr'
    have e : l.getD i [] = l[i] := by simp [List.getD, hi]
    refine key _ (fun j hj => ?_) y hy
    have := ih i j hi (by rw [← hk i hi, e]; exact hj)
    rwa [e] at this
  | ro c x off xs hx hc ho hr ih => exact .ro _ _ (key c ih)
  | fn f c vs hl hr ih => exact .fn _ _ _ (key c ih)
  | agg c vs hl hr ih => exact .agg _ _ (key c ih)
  | tup c vs hl hr ih => exact .tup _ _ (key c ih)

theorem rv_nm {h : Name → Option Blk} {x : AV} {v : Value} (hx : RV S w ρ κ h x v) : Nm (fun _ => True) x := by
  have key : ∀ (c : List AV), (∀ j, j < c.length → Nm (fun _ => True) (c.getD j .junk)) → ∀ y, y ∈ c → Nm (fun _ => True) y := by
    intro c hc y hy
    obtain ⟨j, hj, rfl⟩ := List.mem_iff_getElem.1 hy
    have := hc j hj
    simpa [List.getD, hj] using this
  induction hx with
  | junk v => exact .junk _
  | clo hx => exact (rc_nm hx).mono fun _ h => h.elim
  | loc n off len v hv => exact .loc _ _ _ _ trivial
  | ptr n e c v hv => exact .ptr _ _ _ _ trivial
  | fn f c vs hl hr ih => exact .fn _ _ _ (key c ih)
  | agg c vs hl hr ih => exact .agg _ _ (key c ih)
  | tup c vs hl hr ih => exact .tup _ _ (key c ih)

theorem OK.wf {σ : FSt} (hok : OK C σ a w S ρ κ) : WF σ := by
  refine ⟨fun t => rv_nm (hok.slots t), fun n b hb => ?_⟩
  have hk := hok.hok.blk n b hb
  cases b with
  | var c z =>
    obtain ⟨x, cs, T, fr, _, _, _, _, _, _, _, h7⟩ := hk
    intro y hy
    obtain ⟨j, hj, rfl⟩ := List.mem_iff_getElem.1 hy
    have := rv_nm (h7 j hj).2
    simpa [List.getD, hj] using this
  | arr k l z =>
    obtain ⟨h0, ⟨_, rfl⟩ | ⟨x, cs, T, fr, _, _, _, _, _, _, _, h7⟩⟩ := hk
    · intro r hr; cases hr
    · intro r hr y hy
      obtain ⟨i, hi, rfl⟩ := List.mem_iff_getElem.1 hr
      obtain ⟨j, hj, rfl⟩ := List.mem_iff_getElem.1 hy
      have e : l.getD i [] = l[i] := by simp [List.getD, hi]
      have := rc_nm (h7 i j hi (by rw [← h0 i hi, e]; exact hj)).2
      rw [e] at this
      simpa [List.getD, hj] using this

theorem Nm.and {p q : Name → Prop} {x : AV} (hx : Nm p x) (ho : Off (fun n => ¬ q n) x) : Nm (fun n => p n ∧ q n) x := by
  induction hx with
  | junk => exact .junk _
  | v => exact .v _ _
  | sl _ k l hl _ => exact .sl _ k l hl
  | ro _ c hc _ => exact .ro _ c hc
  | loc _ n off len hn => exact .loc _ n off len ⟨hn, Classical.not_not.1 ho.loc⟩
  | ptr _ n e c hn => exact .ptr _ n e c ⟨hn, Classical.not_not.1 ho.ptr⟩
  | fn _ f c hc ih => exact .fn _ f c fun x hx => ih x hx (ho.fn.mem x hx)
  | agg _ c hc ih => exact .agg _ c fun x hx => ih x hx (ho.agg.mem x hx)
  | tup _ c hc ih => exact .tup _ c fun x hx => ih x hx (ho.tup.mem x hx)

theorem OffB.mem {N : Name → Prop} {c : List AV} {z : Bool} (ho : OffB N (.var c z)) : OffL N c := fun n hn => ho n hn

theorem NmB.and {p q : Name → Prop} {b : Blk} (hx : NmB p b) (ho : OffB (fun n => ¬ q n) b) : NmB (fun n => p n ∧ q n) b := by
  cases b with
  | var c z => exact fun x hx' => (hx x hx').and (ho.mem.mem x hx')
  | arr k l z => exact hx

theorem NmB.frz {p : Name → Prop} {b b' : Blk} (hb : frz b' = frz b) (hx : NmB p b) : NmB p b' := by
  cases b <;> cases b' <;> simp [Vs.frz] at hb <;> simp_all [NmB]

/-- An effect seen from another state. -/
theorem Eff.move {d : Option Nat} {op : AOp} {σ σ' : FSt} {δ : Dl} {N : Name → Prop} (he : Eff P d op σ δ) (hfree : freeA op = true)
    (ho : ∀ o, o ∈ opnds op → evO σ.s o = evO σ'.s o ∧ Off N (evO σ.s o)) (ha : Agr N σ.h σ'.h) (hb : ∀ n b, ¬ N n → σ.h n = some b → OffB N b)
    (hf : ∀ n, δ.nn n → FreshF n σ') : Eff P d op σ' δ := by
  cases he with
  | rd v h1 h2 h3 =>
    refine .rd v h1 (fun K hK => rd_agr ha ho (h2 K hK)) fun p hp hh => ?_
    have e : (fun n => ¬ ¬ N n) = N := funext fun n => propext Classical.not_not
    have := h3 (fun n => p n ∧ ¬ N n) (fun o hm => ?_) (fun n b hn hx => ?_)
    · exact this.mono fun n h => h.1
    · obtain ⟨e1, e2⟩ := ho o hm
      refine Nm.and ?_ (by rw [e]; exact e2)
      rw [e1]; exact hp o hm
    · obtain ⟨b', h4, h5⟩ := ha.some hn.2 hx
      refine NmB.and (NmB.frz h5.symm (hh n b' hn.1 h4)) (by rw [e]; exact hb n b hn.2 hx)
  | al d' hd v b h1 hf' hn h2 h3 =>
    refine .al d' hd v b (fun K hK => al_agr ha ?_ ?_ ?_ ho (h1 K hK)) (hf _ rfl) hn h2 fun N' hN' => h3 N' fun o hm => by rw [(ho o hm).1]; exact hN' o hm
    · rintro z rfl; exact allV_off (by simpa [freeA, okZ] using hfree)
    · rintro k m z ps rfl; exact allV_off (by simpa [freeA, okZ] using hfree)
    · rintro k m z ps rfl; exact allV_off (by simpa [freeA, okZ] using hfree)
  | call d' hd f args hop g caps hg ys L hm r hout fz hfn hflat hfr =>
    subst hop
    have ⟨ef, of⟩ := ho f (by simp [opnds])
    rw [hg] at of
    have hargs : args.map (evO σ.s) = args.map (evO σ'.s) := List.map_congr_left fun o hm => (ho o (by simp [opnds, hm])).1
    refine .call d' hd f args rfl g caps (by rw [← ef]; exact hg) ys L ?_ r hout fz hfn hflat fun j hj => ?_
    · rw [← hargs, ← mapO_agr (f := conv σ.h 8 [] false) fun x hx => ?_]
      · exact hm
      · refine (conv_agr ha hb 8 false x ?_).1
        rcases List.mem_append.1 hx with hx | hx
        · obtain ⟨o, hm', rfl⟩ := List.mem_map.1 hx
          exact (ho o (by simp [opnds, hm'])).2
        · exact of.fn.mem x hx
    · exact hf _ ⟨j, hj, rfl⟩

theorem Eff.new {d : Option Nat} {op : AOp} {σ : FSt} {δ : Dl} (he : Eff P d op σ δ) : (∀ n, δ.nn n → ∃ d' j, d = some d' ∧ n = .t d' j ∧ FreshF n σ) ∧ ∀ n b, hlook δ.nb n = some b → δ.nn n := by
  cases he with
  | rd v h1 h2 h3 => exact ⟨fun n hn => hn.elim, fun n b hb => by simp [hlook] at hb⟩
  | al d' hd v b h1 hf' hn h2 h3 =>
    refine ⟨fun n hn => ⟨d', 0, hd, hn, by rw [hn]; exact hf'⟩, fun n b' hb => ?_⟩
    simp only [hlook] at hb
    split at hb
    · assumption
    · cases hb
  | call d' hd f args hop g caps hg ys L hm r hout fz hfn hflat hfr =>
    refine ⟨fun n ⟨j, hj, e⟩ => ⟨d', j, hd, e, by rw [e]; exact hfr j hj⟩, fun n b hb => ?_⟩
    rw [hlook_news] at hb
    cases n with
    | b j => simp [newsAt] at hb
    | t d'' j =>
      simp only [newsAt] at hb
      split at hb
      · rename_i hc
        exact ⟨j, by omega, by rw [hc.1]⟩
      · cases hb

theorem rnB_off {N : Name → Prop} {φ : Name → Option Name} (hφ : ∀ n m, N n → φ m ≠ some n) (b : Blk) : OffB N (rnB φ b) := by
  cases b with
  | var c z => exact fun n hn => rnL_has φ n (fun m => hφ n m hn) c
  | arr k l z => exact fun n hn => rfl

theorem newsL_mem {g : Blk → Blk} {d nB : Nat} : ∀ {l : List (Option Blk)} {i : Nat} {n : Name} {b : Blk}, (n, b) ∈ newsL g d nB i l → ∃ b', b = g b'
  | [], _, _, _, h => by simp [newsL] at h
  | none :: r, i, n, b, h => newsL_mem (l := r) (i := i + 1) (by simpa [newsL] using h)
  | some x :: r, i, n, b, h => by
    simp only [newsL] at h
    split at h
    · rcases List.mem_cons.1 h with h | h
      · simp only [Prod.mk.injEq] at h; exact ⟨x, h.2⟩
      · exact newsL_mem h
    · exact newsL_mem h

/-- What an effect brings is off the names that the state is off, and that are not its own. -/
theorem Eff.off {d : Option Nat} {op : AOp} {σ : FSt} {δ : Dl} {N : Name → Prop} (he : Eff P d op σ δ) (hN : ∀ n, δ.nn n → ¬ N n) (hown : ∀ d' j, d = some d' → ¬ N (.t d' j)) (hs : WF σ)
    (ho : ∀ o, o ∈ opnds op → Off N (evO σ.s o)) (hb : ∀ n b, ¬ N n → σ.h n = some b → OffB N b) :
    Off N δ.v ∧ (∀ n b, hlook δ.nb n = some b → OffB N b) ∧ ∀ n, n ∈ δ.L → ¬ N n := by
  have ev_nm : ∀ o, Nm (fun _ => True) (evO σ.s o) := by
    intro o
    cases o with
    | tmp t => exact hs.s t
    | const v =>
      simp only [evO]
      cases v <;> first
        | exact .v _ _
        | (simp only [AV.ofValue]
           refine .agg _ _ fun x hx => ?_
           obtain ⟨y, _, rfl⟩ := List.mem_map.1 hx
           exact .v _ _)
    | global g => exact .junk _
    | func f => exact .fn _ _ _ (by simp)
  cases he with
  | rd v h1 h2 h3 =>
    refine ⟨?_, fun n b hb => by simp [hlook] at hb, by simp⟩
    have := h3 (fun n => ¬ N n) (fun o hm => (ev_nm o).of_off (ho o hm)) fun n b hn hx => ?_
    · exact this.off fun n hn => hn
    · have e : (fun n => ¬ ¬ N n) = N := funext fun n => propext Classical.not_not
      have := NmB.and (q := fun n => ¬ N n) (hs.h n b hx) (by rw [e]; exact hb n b hn hx)
      cases b with
      | var c z => exact fun x hx => (this x hx).mono fun _ h => h.2
      | arr k l z => exact this
  | al d' hd v b h1 hf' hn h2 h3 =>
    refine ⟨h2 N (hN _ rfl), fun n b' hb' => ?_, by simp⟩
    simp only [hlook] at hb'
    split at hb'
    · obtain rfl := Option.some.inj hb'
      exact h3 N ho
    · cases hb'
  | call d' hd f args hop g caps hg ys L hm r hout fz hfn hflat hfr =>
    subst hop
    have hφ : ∀ n m, N n → phi [] d' hout.length m ≠ some n := by
      intro n m hn e
      cases m with
      | t a b => simp [phi] at e
      | b j =>
        simp only [phi, List.length_nil, Nat.not_lt_zero, if_false] at e
        split at e
        · exact hown d' j hd (by rw [Option.some.inj e]; exact hn)
        · cases e
    refine ⟨fun n hn => rn_has _ n (fun m => hφ n m hn) r, fun n b hx => ?_, fun n hn => ?_⟩
    · obtain ⟨b', rfl⟩ := newsL_mem (hlook_mem _ _ _ hx)
      exact rnB_off hφ b'
    · have of := ho f (by simp [opnds])
      rw [hg] at of
      refine mapO_names (fun n => ¬ N n) (fun x hx y L' hc => ?_) hm n hn
      refine (conv_agr (h' := σ.h) (fun _ _ => rfl) hb 8 false x ?_).2 y L' hc
      rcases List.mem_append.1 hx with hx | hx
      · obtain ⟨o, hm', rfl⟩ := List.mem_map.1 hx
        exact ho o (by simp [opnds, hm'])
      · exact of.fn.mem x hx

theorem app_h (d : Option Nat) (δ : Dl) (σ : FSt) (n : Name) : (app d δ σ).h n = (hlook δ.nb n).or ((σ.h n).map fun b => if δ.fz = true ∧ n ∈ δ.L then frz b else b) := rfl

theorem frz_if (b : Blk) (p : Prop) [Decidable p] : frz (if p then frz b else b) = frz b := by
  split
  · cases b <;> rfl
  · rfl

theorem app_agr {d : Option Nat} {δ : Dl} {σ : FSt} (hn : ∀ n b, hlook δ.nb n = some b → δ.nn n) : Agr δ.nn σ.h (app d δ σ).h := by
  intro n h
  rw [app_h]
  cases hx : hlook δ.nb n with
  | some b => exact absurd (hn n b hx) h
  | none =>
    rw [Option.none_or]
    cases σ.h n with
    | none => rfl
    | some b => simp only [Option.map_some, frz_if]

theorem app_s {d : Option Nat} {δ : Dl} {σ : FSt} {t : Nat} (h : d ≠ some t) : (app d δ σ).s t = σ.s t := by
  cases d with
  | none => rfl
  | some d =>
    simp only [app, upd]
    rw [if_neg]
    rintro rfl; exact h rfl
theorem app_s_eq {d : Nat} {δ : Dl} {σ : FSt} : (app (some d) δ σ).s d = δ.v := by simp [app, upd]

theorem evO_app {d : Option Nat} {δ : Dl} {σ : FSt} {o : Operand} (h : ∀ t, d = some t → o ≠ .tmp t) : evO (app d δ σ).s o = evO σ.s o := by
  cases o with
  | tmp t =>
    simp only [evO]
    exact app_s fun e => h t e rfl
  | _ => rfl

theorem FreshF.off {n : Name} {σ : FSt} (h : FreshF n σ) (o : Operand) : (evO σ.s o).has n = false := by
  cases o with
  | tmp t => exact h.2.1 t
  | const v =>
    simp only [evO]
    cases v <;> first
      | rfl
      | (simp only [AV.ofValue, AV.has]
         have : OffL (fun m => m = n) (List.map (fun x => AV.v x) (Array.toList ‹_›)) := OffL.of_mem fun x hx => by
           obtain ⟨y, _, rfl⟩ := List.mem_map.1 hx
           exact Off.v _
         exact this n rfl)
  | global g => rfl
  | func f => rfl

theorem if_has (b : Blk) (p : Prop) [Decidable p] (n : Name) : (if p then frz b else b).has n = b.has n := by
  split
  · exact frz_has (by cases b <;> rfl) n
  · rfl

theorem eff_swap {dx dy : Option Nat} {x y : AOp} {σ : FSt} {δx δy : Dl} (hx : Eff P dx x σ δx) (hy : Eff P dy y (app dx δx σ) δy) (hs : WF σ) (fx : freeA x = true) (fy : freeA y = true)
    (a1 : ∀ t, dx = some t → ∀ o, o ∈ opnds y → o ≠ .tmp t) (a2 : ∀ t, dy = some t → ∀ o, o ∈ opnds x → o ≠ .tmp t) (a3 : ∀ t, dx = some t → dy ≠ some t)
    (j1 : ∀ t, dx = some t → σ.s t = .junk) (j2 : ∀ t, dy = some t → σ.s t = .junk) :
    Eff P dy y σ δy ∧ Eff P dx x (app dy δy σ) δx ∧ app dx δx (app dy δy σ) = app dy δy (app dx δx σ) := by
  obtain ⟨nx, bx⟩ := hx.new
  obtain ⟨ny, by'⟩ := hy.new
  have hxy : ∀ n, δx.nn n → ¬ δy.nn n := by
    intro n h1 h2
    obtain ⟨d1, i1, e1, rfl, _⟩ := nx n h1
    obtain ⟨d2, i2, e2, e3, _⟩ := ny _ h2
    simp only [Name.t.injEq] at e3
    exact a3 d1 e1 (by rw [e2, e3.1])
  -- the state is off the new names of x
  have sx : ∀ o, Off δx.nn (evO σ.s o) := fun o n hn => by obtain ⟨_, _, _, _, hf⟩ := nx n hn; exact hf.off o
  have hbx : ∀ n b, σ.h n = some b → OffB δx.nn b := fun n b hb m hm => by obtain ⟨_, _, _, _, hf⟩ := nx m hm; exact hf.2.2 n b hb
  have hnone : ∀ n, δx.nn n → σ.h n = none := fun n hn => by obtain ⟨_, _, _, _, hf⟩ := nx n hn; exact hf.1.1
  have agx := app_agr (d := dx) (σ := σ) bx
  -- y before x: fresh names
  have fy' : ∀ n, δy.nn n → FreshF n σ := by
    intro n hn
    obtain ⟨d2, i2, e2, rfl, hf⟩ := ny n hn
    have hnx : ¬ δx.nn (.t d2 i2) := fun h => hxy _ h hn
    refine ⟨⟨?_, hf.1.2⟩, fun t => ?_, fun m b hb => ?_⟩
    · have := hf.1.1
      rw [app_h] at this
      cases hσ : σ.h (.t d2 i2) with
      | none => rfl
      | some b => rw [hσ] at this; simp at this
    · by_cases ht : dx = some t
      · rw [j1 t ht]; rfl
      · have := hf.2.1 t
        rwa [app_s ht] at this
    · have h1 : ¬ δx.nn m := fun h => by rw [hnone m h] at hb; cases hb
      have h2 : hlook δx.nb m = none := by
        cases h : hlook δx.nb m with
        | none => rfl
        | some b => exact absurd (bx m b h) h1
      have := hf.2.2 m (if δx.fz = true ∧ m ∈ δx.L then frz b else b) (by rw [app_h, h2, hb]; rfl)
      rwa [if_has] at this
  have hy1 : Eff P dy y σ δy := by
    refine hy.move (N := δx.nn) fy (fun o ho => ?_) agx.symm (fun n b hn hb => ?_) fy'
    · have e := evO_app (δ := δx) (σ := σ) (fun t ht => a1 t ht o ho)
      exact ⟨e, by rw [e]; exact sx o⟩
    · rw [app_h] at hb
      have h2 : hlook δx.nb n = none := by
        cases h : hlook δx.nb n with
        | none => rfl
        | some b => exact absurd (bx n b h) hn
      rw [h2, Option.none_or] at hb
      cases hσ : σ.h n with
      | none => rw [hσ] at hb; cases hb
      | some b0 =>
        rw [hσ] at hb
        obtain rfl := Option.some.inj hb
        intro m hm
        rw [if_has]
        exact hbx n b0 hσ m hm
  obtain ⟨ov, ob, oL⟩ := hy1.off (N := δx.nn) (fun n hn h => hxy n h hn) (fun d' j hd' h => by
    obtain ⟨d1, i1, e1, e2, _⟩ := nx _ h
    simp only [Name.t.injEq] at e2
    exact a3 d1 e1 (by rw [hd', e2.1])) hs (fun o _ => sx o) (fun n b _ hb => hbx n b hb)
  have agy := app_agr (d := dy) (σ := σ) by'
  have sy : ∀ o, Off δy.nn (evO σ.s o) := fun o n hn => (fy' n hn).off o
  have hx1 : Eff P dx x (app dy δy σ) δx := by
    refine hx.move (N := δy.nn) fx (fun o ho => ⟨(evO_app (δ := δy) (σ := σ) (fun t ht => a2 t ht o ho)).symm, sy o⟩) agy (fun n b _ hb m hm => (fy' m hm).2.2 n b hb) fun n hn => ?_
    obtain ⟨d1, i1, e1, rfl, hf⟩ := nx n hn
    have hny := hxy _ hn
    refine ⟨⟨?_, hf.1.2⟩, fun t => ?_, fun m b hb => ?_⟩
    · rw [app_h, hf.1.1]
      cases h : hlook δy.nb (.t d1 i1) with
      | none => rfl
      | some b => exact absurd (by' _ b h) hny
    · by_cases ht : dy = some t
      · subst ht; rw [app_s_eq]; exact ov _ hn
      · rw [app_s ht]; exact hf.2.1 t
    · rw [app_h] at hb
      cases h : hlook δy.nb m with
      | some b' =>
        rw [h] at hb
        obtain rfl := Option.some.inj hb
        exact ob m _ h _ hn
      | none =>
        rw [h, Option.none_or] at hb
        cases hσ : σ.h m with
        | none => rw [hσ] at hb; cases hb
        | some b0 =>
          rw [hσ] at hb
          obtain rfl := Option.some.inj hb
          rw [if_has]; exact hbx m b0 hσ _ hn
  refine ⟨hy1, hx1, ?_⟩
  obtain ⟨_, _, oLx⟩ := hx.off (N := δy.nn) (fun n hn => hxy n hn) (fun d' j hd' h => by
    obtain ⟨d1, i1, e1, e2, _⟩ := ny _ h
    simp only [Name.t.injEq] at e2
    exact a3 d' hd' (by rw [e1, e2.1])) hs (fun o _ => sy o) (fun n b _ hb m hm => (fy' m hm).2.2 n b hb)
  have e1 : (app dx δx (app dy δy σ)).s = (app dy δy (app dx δx σ)).s := by
    funext t
    by_cases h1 : dx = some t
    · have h2 := a3 t h1
      subst h1
      rw [app_s_eq, app_s h2, app_s_eq]
    · by_cases h2 : dy = some t
      · rw [app_s h1]; subst h2; rw [app_s_eq, app_s_eq]
      · rw [app_s h1, app_s h2, app_s h2, app_s h1]
  have e2 : (app dx δx (app dy δy σ)).h = (app dy δy (app dx δx σ)).h := by
    funext n
    simp only [app_h]
    cases h1 : hlook δx.nb n with
    | some b1 =>
      have hn := bx n b1 h1
      have h2 : hlook δy.nb n = none := by
        cases h : hlook δy.nb n with
        | none => rfl
        | some b => exact absurd (by' n b h) (hxy n hn)
      have h3 : n ∉ δy.L := fun h => oL n h hn
      simp only [h2, Option.none_or, Option.some_or, Option.map_some, h3, and_false, if_false]
    | none =>
      cases h2 : hlook δy.nb n with
      | some b2 =>
        have h3 : n ∉ δx.L := fun h => oLx n h (by' n b2 h2)
        simp only [Option.none_or, Option.some_or, Option.map_some, h3, and_false, if_false]
      | none =>
        simp only [Option.none_or]
        cases σ.h n with
        | none => rfl
        | some b =>
          simp only [Option.map_some, Option.some.injEq]
          cases b <;> split <;> split <;> simp [frz]
  show (⟨_, _⟩ : FSt) = ⟨_, _⟩
  exact congr (congrArg FSt.mk e1) e2
end Go.Vs
