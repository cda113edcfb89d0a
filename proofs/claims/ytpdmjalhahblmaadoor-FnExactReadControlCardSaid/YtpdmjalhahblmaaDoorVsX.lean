/- Regions whose order is open. -/
import Derived.Test.YtpdmjalhahblmaaDoorVsW
namespace Go.Vs
set_option linter.unusedSectionVars false
variable [Envs]
variable {P : Program} {C : Ctx} {a : Act} {w : World} {S : Nat → Prop} {ρ : Name → Option Nat} {κ : Name → Nat}

theorem bool_ne {b c : Bool} (h : b ≠ c) : b = !c := by cases b <;> cases c <;> simp at h <;> rfl

def freeO (o : AOper) : Bool := freeA o.op && (isRd o.op || o.dst.isSome)

/-- an operation that is passed over leaves what is no value -/
def skipA : AOp := .mv (.const (.tuple #[]))
def opOf (b : Bool) (o : AOper) : AOp := if b then o.op else skipA
def EffS (P : Program) (b : Bool) (o : AOper) (σ : FSt) (δ : Dl) : Prop := Eff P o.dst (opOf b o) σ δ

def runs (o : AOper) (σ : FSt) (b : Bool) : Prop :=
  match o.guard with
  | none => b = true
  | some (g, want) => (∃ c, σ.s g = .v (.bool c) ∧ b = (c == want)) ∨ ((∃ cs, σ.s g = .v (.tuple cs)) ∧ b = false)

def EffG (P : Program) (o : AOper) (σ : FSt) (δ : Dl) : Prop := ∃ b, runs o σ b ∧ EffS P b o σ δ

def keepJ (d : Option Nat) (σ σ' : St) : Prop := ∀ t, d ≠ some t → look σ.s t = .junk → look σ'.s t = .junk

def vcE (P : Program) (K : FSt → Prop) : List AOper → FSt → Prop
  | [], σ => K σ
  | o :: r, σ => if freeO o = true then ∃ δ, EffG P o σ δ ∧ vcE P K r (app o.dst δ σ)
    else ∃ σl : St, σl.f = σ ∧ vc P (fun σ' => vcE P K r σ'.f ∧ keepJ o.dst σl σ') [o] σl

theorem put_keep (d : Option Nat) (x : AV) (σ : St) (h : List (Name × Blk)) : keepJ d σ ⟨put d x σ.s, h⟩ := by
  intro t ht hj
  show look (put d x σ.s) t = _
  rw [look_put]
  cases d with
  | none => exact hj
  | some d =>
    simp only [upd]
    rw [if_neg (by rintro rfl; exact ht rfl)]
    exact hj

/-- Every operation leaves empty slots empty, but its own. -/
theorem stepA_keep {d : Option Nat} {σ : St} {K : St → Prop} {op : AOp} (hv : stepA P d σ K op) : stepA P d σ (fun σ' => K σ' ∧ keepJ d σ σ') op := by
  by_cases hr : isRd op = true
  · rw [stepA_rd hr] at hv ⊢
    obtain ⟨x, h1, h2, _⟩ := rd_point hv
    exact h2 _ ⟨h1, put_keep _ _ _ _⟩
  · have alc : ∀ {op : AOp} {d' : Nat}, al (evO (look σ.s)) (hlook σ.h) (.t d' 0) (fun v b => (freshL (.t d' 0) σ = true ∧ b.has (.t d' 0) = false) ∧ K ⟨(d', v) :: σ.s, (.t d' 0, b) :: σ.h⟩) op →
        al (evO (look σ.s)) (hlook σ.h) (.t d' 0) (fun v b => (freshL (.t d' 0) σ = true ∧ b.has (.t d' 0) = false) ∧ K ⟨(d', v) :: σ.s, (.t d' 0, b) :: σ.h⟩ ∧ keepJ (some d') σ ⟨(d', v) :: σ.s, (.t d' 0, b) :: σ.h⟩) op := by
      intro op d' hv
      obtain ⟨x, b, ⟨h1, h3⟩, h4, _⟩ := al_point hv
      exact h4 _ ⟨h1, h3, put_keep (some d') _ _ _⟩
    cases op
    case box x => cases d with
      | none => exact hv
      | some d => exact alc (op := .box x) (d' := d) hv
    case alloc z => cases d with
      | none => exact hv
      | some d => exact alc (op := .alloc z) (d' := d) hv
    case bslice k m z ps => cases d with
      | none => exact hv
      | some d => exact alc (op := .bslice k m z ps) (d' := d) hv
    case mk k y z n => cases d with
      | none => exact hv
      | some d => exact alc (op := .mk k y z n) (d' := d) hv
    case call f args bor =>
      simp only [stepA, callL] at hv ⊢
      split at hv
      · split at hv
        · obtain ⟨h1, r, hout, fz, h2, h3, h4, h5⟩ := hv
          exact ⟨h1, r, hout, fz, h2, h3, h4, h5, put_keep _ _ _ _⟩
        · exact hv
      · exact hv
    case store k A X =>
      simp only [stepA] at hv ⊢
      refine ⟨hv.1, ?_⟩
      have hv := hv.2
      split at hv
      · split at hv
        · exact ⟨hv.1, hv.2, fun t _ hj => hj⟩
        · exact hv
      · exact hv
    case clr k z X =>
      simp only [stepA] at hv ⊢
      split at hv
      · split at hv
        · refine ⟨hv.1, hv.2, fun t ht hj => ?_⟩
          have := put_keep d (.v (.tuple #[])) σ σ.h t ht hj
          exact this
        · exact hv
      · exact hv
    case append k y A X =>
      cases d with
      | none => exact hv
      | some d =>
        simp only [stepA] at hv ⊢
        split at hv
        · rename_i on l l' _ _
          refine ⟨hv.1, hv.2, fun t ht hj => ?_⟩
          have e : look ((d, AV.loc (.t d 0) 0 (l.length + l'.length)) :: (killOL on σ).s) t = look (killOL on σ).s t := by
            simp only [look]
            rw [if_neg (by rintro rfl; exact ht rfl)]
          show look ((d, AV.loc (.t d 0) 0 (l.length + l'.length)) :: (killOL on σ).s) t = _
          rw [e]
          cases on with
          | none => exact hj
          | some n =>
            simp only [killOL, killL]
            rw [look_map (scr n) (by simp [scr, AV.has]), hj]
            simp [scr, AV.has]
        · exact hv
    case appendC k y A X =>
      cases d with
      | none => exact hv
      | some d =>
        simp only [stepA] at hv ⊢
        split at hv
        · rename_i on l l' _ _
          refine ⟨hv.1, hv.2, fun t ht hj => ?_⟩
          have e : look ((d, AV.sl k (l ++ l')) :: (killOL on σ).s) t = look (killOL on σ).s t := by
            simp only [look]
            rw [if_neg (by rintro rfl; exact ht rfl)]
          show look ((d, AV.sl k (l ++ l')) :: (killOL on σ).s) t = _
          rw [e]
          cases on with
          | none => exact hj
          | some n =>
            simp only [killOL, killL]
            rw [look_map (scr n) (by simp [scr, AV.has]), hj]
            simp [scr, AV.has]
        · exact hv
    case bsliceC k m z ps => cases d with
      | none => exact hv
      | some d =>
        simp only [stepA] at hv ⊢
        obtain ⟨x, b, ⟨h1, rows, h2, h3, h4⟩, h5, _⟩ := al_point (op := .bslice k m z ps) hv
        exact h5 _ ⟨h1, rows, h2, h3, h4, put_keep (some d) _ _ _⟩
    all_goals simp [isRd] at hr

theorem vc1_keep {o : AOper} {σ : St} {K : St → Prop} (hv : vc P K [o] σ) : vc P (fun σ' => K σ' ∧ keepJ o.dst σ σ') [o] σ := by
  simp only [vc] at hv ⊢
  split at hv
  · exact stepA_keep hv
  · split at hv
    · rw [BrW_iff] at hv ⊢
      exact ⟨fun h => stepA_keep (hv.1 h), fun h => ⟨hv.2 h, put_keep _ _ _ _⟩⟩
    · exact ⟨hv, put_keep _ _ _ _⟩
    · exact hv

theorem stepA_mono {d : Option Nat} {σ : St} {K K' : St → Prop} (hK : ∀ σ, K σ → K' σ) {op : AOp} (hv : stepA P d σ K op) : stepA P d σ K' op := by
  by_cases hr : isRd op = true
  · rw [stepA_rd hr] at hv ⊢
    obtain ⟨x, h1, h2, _⟩ := rd_point hv
    exact h2 _ (hK _ h1)
  · have alc : ∀ {op : AOp} {d' : Nat}, al (evO (look σ.s)) (hlook σ.h) (.t d' 0) (fun v b => (freshL (.t d' 0) σ = true ∧ b.has (.t d' 0) = false) ∧ K ⟨(d', v) :: σ.s, (.t d' 0, b) :: σ.h⟩) op →
        al (evO (look σ.s)) (hlook σ.h) (.t d' 0) (fun v b => (freshL (.t d' 0) σ = true ∧ b.has (.t d' 0) = false) ∧ K' ⟨(d', v) :: σ.s, (.t d' 0, b) :: σ.h⟩) op := by
      intro op d' hv
      obtain ⟨x, b, ⟨h1, h3⟩, h4, _⟩ := al_point hv
      exact h4 _ ⟨h1, hK _ h3⟩
    cases op
    case box x => cases d with
      | none => exact hv
      | some d => exact alc (op := .box x) (d' := d) hv
    case alloc z => cases d with
      | none => exact hv
      | some d => exact alc (op := .alloc z) (d' := d) hv
    case bslice k m z ps => cases d with
      | none => exact hv
      | some d => exact alc (op := .bslice k m z ps) (d' := d) hv
    case mk k y z n => cases d with
      | none => exact hv
      | some d => exact alc (op := .mk k y z n) (d' := d) hv
    case call f args bor =>
      simp only [stepA, callL] at hv ⊢
      split at hv
      · split at hv
        · obtain ⟨h1, r, hout, fz, h2, h3, h4, h5⟩ := hv
          exact ⟨h1, r, hout, fz, h2, h3, h4, hK _ h5⟩
        · exact hv
      · exact hv
    case store k A X =>
      simp only [stepA] at hv ⊢
      refine ⟨hv.1, ?_⟩
      have hv := hv.2
      split at hv
      · split at hv
        · exact ⟨hv.1, hK _ hv.2⟩
        · exact hv
      · exact hv
    case clr k z X =>
      simp only [stepA] at hv ⊢
      split at hv
      · split at hv
        · exact ⟨hv.1, hK _ hv.2⟩
        · exact hv
      · exact hv
    case append k y A X =>
      cases d with
      | none => exact hv
      | some d =>
        simp only [stepA] at hv ⊢
        split at hv
        · exact ⟨hv.1, hK _ hv.2⟩
        · exact hv
    case appendC k y A X =>
      cases d with
      | none => exact hv
      | some d =>
        simp only [stepA] at hv ⊢
        split at hv
        · exact ⟨hv.1, hK _ hv.2⟩
        · exact hv
    case bsliceC k m z ps => cases d with
      | none => exact hv
      | some d =>
        simp only [stepA] at hv ⊢
        obtain ⟨x, b, ⟨h1, rows, h2, h3, h4⟩, h5, _⟩ := al_point (op := .bslice k m z ps) hv
        exact h5 _ ⟨h1, rows, h2, h3, hK _ h4⟩
    all_goals simp [isRd] at hr

theorem vc1_mono {o : AOper} {σ : St} {K K' : St → Prop} (hK : ∀ σ, K σ → K' σ) (hv : vc P K [o] σ) : vc P K' [o] σ := by
  simp only [vc] at hv ⊢
  split at hv
  · exact stepA_mono hK hv
  · split at hv
    · rw [BrW_iff] at hv ⊢
      exact ⟨fun h => stepA_mono hK (hv.1 h), fun h => hK _ (hv.2 h)⟩
    · exact hK _ hv
    · exact hv

theorem vc_cons {o : AOper} {r : List AOper} {σ : St} {K : St → Prop} : vc P K (o :: r) σ ↔ vc P (vc P K r) [o] σ := Iff.rfl

theorem vcE_of {K : St → Prop} : ∀ (ops : List AOper) (σ : St), vc P K ops σ → vcE P (fun f => ∃ σ' : St, σ'.f = f ∧ K σ') ops σ.f
  | [], σ, hv => ⟨σ, rfl, hv⟩
  | o :: r, σ, hv => by
    have ih := vcE_of (K := K) r
    simp only [vcE]
    split
    · rename_i hf
      simp only [freeO, Bool.and_eq_true, Bool.or_eq_true] at hf
      have run : stepA P o.dst σ (vc P K r) o.op → ∃ δ, Eff P o.dst o.op σ.f δ ∧ vcE P (fun f => ∃ σ' : St, σ'.f = f ∧ K σ') r (app o.dst δ σ.f) := fun hs => by
        obtain ⟨δ, h1, σ', h2, h3⟩ := eff_of_step hf.1 hf.2 hs
        exact ⟨δ, h1, by rw [← h2]; exact ih σ' h3⟩
      have skip : vc P K r ⟨put o.dst (.v (.tuple #[])) σ.s, σ.h⟩ → ∃ δ, Eff P o.dst skipA σ.f δ ∧ vcE P (fun f => ∃ σ' : St, σ'.f = f ∧ K σ') r (app o.dst δ σ.f) := fun hs => by
        obtain ⟨δ, h1, σ', h2, h3⟩ := eff_of_step (P := P) (d := o.dst) (σ := σ) (K := vc P K r) (op := skipA) rfl (.inl rfl) hs
        exact ⟨δ, h1, by rw [← h2]; exact ih σ' h3⟩
      simp only [vc] at hv
      split at hv
      · rename_i hg
        obtain ⟨δ, h1, h2⟩ := run hv
        exact ⟨δ, ⟨true, by simp only [runs, hg], h1⟩, h2⟩
      · rename_i g want hg
        split at hv
        · rename_i b hb
          by_cases hbw : b = want
          · obtain ⟨δ, h1, h2⟩ := run ((BrW_iff.1 hv).1 hbw)
            exact ⟨δ, ⟨true, by simp only [runs, hg]; exact .inl ⟨b, hb, by simp [hbw]⟩, h1⟩, h2⟩
          · have hn : b = !want := bool_ne hbw
            obtain ⟨δ, h1, h2⟩ := skip ((BrW_iff.1 hv).2 hn)
            exact ⟨δ, ⟨false, by simp only [runs, hg]; exact .inl ⟨b, hb, by simp [hbw]⟩, h1⟩, h2⟩
        · rename_i cs hb
          obtain ⟨δ, h1, h2⟩ := skip hv
          exact ⟨δ, ⟨false, by unfold runs; rw [hg]; exact .inr ⟨⟨cs, hb⟩, rfl⟩, h1⟩, h2⟩
        · exact hv.elim
    · refine ⟨σ, rfl, vc1_mono (fun σ' h => ⟨ih σ' h.1, h.2⟩) (vc1_keep (vc_cons.1 hv))⟩

theorem vc1_of {o : AOper} {σ : St} {δ : Dl} (hc : Canon σ) (he : EffG P o σ.f δ) : vc P (fun σ' => σ'.f = app o.dst δ σ.f) [o] σ := by
  obtain ⟨b, h1, h2⟩ := he
  have skip : b = false → (⟨put o.dst (.v (.tuple #[])) σ.s, σ.h⟩ : St).f = app o.dst δ σ.f := by
    rintro rfl
    exact step_of_eff hc h2
  simp only [vc]
  unfold runs at h1
  split
  · rename_i hg
    rw [hg] at h1
    simp only at h1
    subst h1
    exact step_of_eff hc h2
  · rename_i g want hg
    rw [hg] at h1
    rcases h1 with ⟨c, e, rfl⟩ | ⟨⟨cs, e⟩, hb⟩
    · simp only [show look σ.s g = _ from e]
      by_cases hcw : c = want
      · subst hcw
        refine BrW_iff.2 ⟨fun _ => ?_, fun hn => by cases c <;> simp at hn⟩
        have : opOf (c == c) o = o.op := by simp [opOf]
        unfold EffS at h2
        rw [this] at h2
        exact step_of_eff hc h2
      · exact BrW_iff.2 ⟨fun h => absurd h hcw, fun _ => skip (by simp [hcw])⟩
    · simp only [show look σ.s g = _ from e]
      exact skip hb

/-- one operation, in the machine's words -/
theorem op_wp {ops : Array Oper} {Q : Exit → Act → World → Prop} {K : St → Prop} {i : Nat} {o : Oper} {ao : AOper} (ho : ops[i]? = some o) (hc : cOper P C.nt ops o = some ao.bare) {σ : St} (hv : vc P K [ao] σ) (hok : OK C σ.f a w S ρ κ) :
    wpOp P ops Q i (GoodL C K) a w := by
  obtain ⟨h1, h2, h3, h4⟩ := cOper_spec hc
  have go : stepA P ao.dst σ K ao.op → o.wp P a w (GoodL C K) Q := fun hst => step_sound (P := P) h1 hok h3 (by rw [h2]; exact hst)
  unfold wpOp
  rw [ho]
  simp only [vc] at hv
  rcases h4 with ⟨g1, g2⟩ | ⟨j, want, t, g1, g2, g3⟩
  · rw [g2] at hv
    have : Region.wanted o (yielded ops a.tmps) = true := by simp [Region.wanted, g1]
    simp only [this, if_true]
    exact .inl (go hv)
  · rw [g2] at hv
    simp only at hv
    split at hv
    · rename_i b hb
      have hw := wanted_of hok g1 g3 hb
      simp only [hw]
      by_cases hbw : b = want
      · simp only [hbw, beq_self_eq_true, if_true]
        exact .inl (go ((BrW_iff.1 hv).1 hbw))
      · have : (b == want) = false := by simpa using hbw
        simp only [this, Bool.false_eq_true, if_false]
        have hn : b = !want := bool_ne hbw
        refine ⟨_, S, ρ, κ, (BrW_iff.1 hv).2 hn, ?_⟩
        have := hok.put (x := .v undef) (v := undef) (.clo (.v _)) h3
        rw [h2] at this ⊢
        simpa [St.f, look_put, undef] using this
    · rename_i cs hb
      have hw := wanted_un hok g1 g3 hb
      simp only [hw, Bool.false_eq_true, if_false]
      refine ⟨_, S, ρ, κ, hv, ?_⟩
      have := hok.put (x := .v undef) (v := undef) (.clo (.v _)) h3
      rw [h2] at this ⊢
      simpa [St.f, look_put, undef] using this
    · exact hv.elim

theorem wpOp_ex {ops : Array Oper} {K : Act → World → Prop} {i : Nat} (h : wpOp P ops (fun _ _ _ => False) i K a w) : ∃ a' w', K a' w' := by
  unfold wpOp at h
  split at h
  · exact ⟨_, _, h⟩
  · split at h
    · rcases h with h | ⟨_, _, _, h⟩
      · rename_i o _ _
        unfold Oper.wp at h
        generalize (execOp a.eval o).run P w = r at h
        cases r with
        | ok n w' =>
          cases n <;> simp only [Oper.upon] at h
          case enter f args =>
            obtain ⟨e, w'', fr, h, _⟩ := h []
            cases e with
            | returned v => exact ⟨_, _, h⟩
            | panicked ch => exact h.elim
            | outgrown => obtain ⟨_, _, h⟩ := h; exact h.elim
          case row row args =>
            obtain ⟨v, w'', h, _⟩ := h (Frame.enter P 0 #[] .normal) []
            exact ⟨_, _, h⟩
          all_goals exact ⟨_, _, h⟩
        | halt x w' => cases x <;> simp only [Oper.upon] at h
      · exact h.elim
    · exact ⟨_, _, h⟩
end Go.Vs
