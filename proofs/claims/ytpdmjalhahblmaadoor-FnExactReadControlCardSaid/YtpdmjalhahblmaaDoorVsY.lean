/- A region whose order is open, of operations that may change places. -/
import Derived.Test.YtpdmjalhahblmaaDoorVsX
namespace Go.Vs
set_option linter.unusedSectionVars false
variable [Envs]
variable {P : Program} {C : Ctx} {a : Act} {w : World} {S : Nat → Prop} {ρ : Name → Option Nat} {κ : Name → Nat}

def tmpsOf : List Operand → List Nat
  | [] => []
  | .tmp t :: r => t :: tmpsOf r
  | _ :: r => tmpsOf r

theorem tmpsOf_mem : ∀ {l : List Operand} {t : Nat}, t ∉ tmpsOf l → ∀ o, o ∈ l → o ≠ .tmp t
  | [], _, _, o, ho => by cases ho
  | x :: r, t, h, o, ho => by
    rcases List.mem_cons.1 ho with rfl | ho
    · rintro rfl; simp [tmpsOf] at h
    · refine tmpsOf_mem (l := r) (fun h' => h ?_) o ho
      cases x <;> simp [tmpsOf, h']

def seesB (y : AOper) (t : Nat) : Bool := (tmpsOf (opnds y.op)).contains t || (match y.guard with | some (g, _) => g == t | none => false)

def apartA (x y : AOper) : Bool :=
  (match x.dst with | some d => !seesB y d && !(y.dst == some d) | none => true) && (match y.dst with | some d => !seesB x d | none => true)

theorem runs_app {x : AOper} {d : Option Nat} {δ : Dl} {σ : FSt} {b : Bool} (h : ∀ t, d = some t → ∀ g w, x.guard = some (g, w) → g ≠ t) : runs x (app d δ σ) b ↔ runs x σ b := by
  unfold runs
  split
  · exact Iff.rfl
  · rename_i g want hg
    rw [app_s fun e => h g e g want hg rfl]

theorem effg_swap {x y : AOper} {σ : FSt} {δx δy : Dl} (hx : EffG P x σ δx) (hy : EffG P y (app x.dst δx σ) δy) (hs : WF σ) (fx : freeO x = true) (fy : freeO y = true) (hap : apartA x y = true)
    (j1 : ∀ t, x.dst = some t → σ.s t = .junk) (j2 : ∀ t, y.dst = some t → σ.s t = .junk) :
    EffG P y σ δy ∧ EffG P x (app y.dst δy σ) δx ∧ app x.dst δx (app y.dst δy σ) = app y.dst δy (app x.dst δx σ) := by
  simp only [apartA, Bool.and_eq_true] at hap
  have a0 : ∀ t, x.dst = some t → seesB y t = false ∧ y.dst ≠ some t := fun t ht => by
    have := hap.1; rw [ht] at this; simpa using this
  have b0 : ∀ t, y.dst = some t → seesB x t = false := fun t ht => by
    have := hap.2; rw [ht] at this; simpa using this
  have sees : ∀ {z : AOper} {t : Nat}, seesB z t = false → (∀ o, o ∈ opnds z.op → o ≠ .tmp t) ∧ ∀ g w, z.guard = some (g, w) → g ≠ t := by
    intro z t h
    simp only [seesB, Bool.or_eq_false_iff] at h
    refine ⟨tmpsOf_mem (by simpa using h.1), fun g w hg => ?_⟩
    have := h.2; rw [hg] at this; simpa using this
  obtain ⟨bx, rx, hx⟩ := hx
  obtain ⟨by', ry, hy⟩ := hy
  rw [runs_app fun t ht => (sees (a0 t ht).1).2] at ry
  have rx' : ∀ δ, runs x (app y.dst δ σ) bx := fun δ => (runs_app fun t ht => (sees (b0 t ht)).2).2 rx
  simp only [freeO, Bool.and_eq_true] at fx fy
  have fre : ∀ (b : Bool) (z : AOper), freeA z.op = true → freeA (opOf b z) = true := by
    intro b z h; cases b
    · rfl
    · exact h
  have ops : ∀ (b : Bool) (z : AOper) (t : Nat), (∀ o, o ∈ opnds z.op → o ≠ .tmp t) → ∀ o, o ∈ opnds (opOf b z) → o ≠ .tmp t := by
    intro b z t h o ho
    cases b
    · simp only [opOf, skipA, opnds, Bool.false_eq_true, if_false, List.mem_singleton] at ho
      subst ho; simp
    · exact h o ho
  obtain ⟨h1, h2, h3⟩ := eff_swap (x := opOf bx x) (y := opOf by' y) hx hy hs (fre _ _ fx.1) (fre _ _ fy.1) (fun t ht => ops _ _ t (sees (a0 t ht).1).1) (fun t ht => ops _ _ t (sees (b0 t ht)).1) (fun t ht => (a0 t ht).2) j1 j2
  exact ⟨⟨by', ry, h1⟩, ⟨bx, rx' _, h2⟩, h3⟩

/-- The ops at these places. -/
def atL (aops : List AOper) (r : List Nat) : List AOper := r.filterMap fun i => aops[i]?

def Real (C : Ctx) (σ : FSt) : Prop := ∃ (σl : St) (a : Act) (w : World) (S : Nat → Prop) (ρ : Name → Option Nat) (κ : Name → Nat), σl.f = σ ∧ OK C σl.f a w S ρ κ

structure Pair (x y : AOper) : Prop where
  fx : freeO x = true
  fy : freeO y = true
  ap : apartA x y = true

theorem real_eff {ops : Array Oper} {i : Nat} {o : Oper} {ao : AOper} {σ : FSt} {δ : Dl} (ho : ops[i]? = some o) (hc : cOper P C.nt ops o = some ao.bare) (hr : Real C σ) (he : EffG P ao σ δ) : Real C (app ao.dst δ σ) := by
  obtain ⟨σl, a, w, S, ρ, κ, rfl, hok⟩ := hr
  have hv := vc1_of (P := P) (o := ao) (σ := canon σl) (δ := δ) (canon_ok σl) (by rw [canon_f]; exact he)
  obtain ⟨a', w', σ', S', ρ', κ', h1, h2⟩ := wpOp_ex (op_wp (Q := fun _ _ _ => False) ho hc hv (by rw [canon_f]; exact hok))
  rw [canon_f] at h1
  exact ⟨σ', a', w', S', ρ', κ', h1, h2⟩

/-! ## a value that is copied, and a write behind it -/
def copyOf : AOp → Option (Operand × Option Nat)
  | .mv o => some (o, none)
  | .extract o i => some (o, some i)
  | _ => none

/-- What depends on its operands alone. -/
def pureA : AOp → Bool
  | .mv _ => true
  | .extract _ _ => true
  | .bin _ _ _ => true
  | .conv _ _ => true
  | _ => false
/-- a read of a variable, or a field's place in one -/
def isLV : AOp → Prop
  | .loadV _ _ _ => True
  | .fieldV _ _ => True
  | _ => False

structure PairH (x y : AOper) : Prop where
  fx : freeO x = true
  fy : freeO y = false
  g : y.guard = none
  ap : apartA x y = true
  k : (∃ k A X, y.op = .store k A X ∧ pureA x.op = true) ∨ ∃ k b A X o, (y.op = .append k b A X ∨ y.op = .appendC k b A X) ∧ (x.op = .mv o ∨ isLV x.op)

theorem eff_copy {d : Option Nat} {op : AOp} {o : Operand} {oi : Option Nat} {σ σ' : FSt} {δ : Dl} (hop : copyOf op = some (o, oi)) (he : Eff P d op σ δ) (e : evO σ'.s o = evO σ.s o) : Eff P d op σ' δ ∧ δ.nb = [] ∧ δ.fz = false := by
  cases he with
  | rd v h1 h2 h3 =>
    refine ⟨?_, rfl, rfl⟩
    cases op <;> simp only [copyOf, Option.some.injEq, Prod.mk.injEq] at hop <;> try (cases hop; done)
    case mv x =>
      obtain ⟨rfl, rfl⟩ := hop
      have hv := h2 (fun u => u = v) rfl
      simp only [rd] at hv
      refine .rd v rfl (fun K hK => ?_) fun p hp _ => ?_
      · simp only [rd]; rw [e, hv]; exact hK
      · have := hp x (by simp [opnds]); rwa [e, hv] at this
    case extract x i =>
      obtain ⟨rfl, rfl⟩ := hop
      have hv := h2 (fun u => u = v) rfl
      simp only [rd] at hv
      split at hv
      · rename_i c hc
        refine .rd v rfl (fun K hK => ?_) fun p hp _ => ?_
        · simp only [rd]; rw [e, hc]; exact ⟨hv.1, by rw [hv.2]; exact hK⟩
        · have := hp x (by simp [opnds])
          rw [e, hc] at this
          rw [← hv.2]
          exact Nm.getD this.inv_tup _
      · exact hv.elim
  | al d' hd v b h1 hf hn h2 h3 =>
    exfalso
    have := h1 (fun _ _ => True) trivial
    cases op <;> simp only [copyOf] at hop <;> first | (cases hop; done) | exact this.elim
  | call d' hd f args hop' g caps hg ys L hm r hout fz hfn hflat hfr =>
    subst hop'; simp [copyOf] at hop

theorem eff_pure {d : Option Nat} {op : AOp} {σ σ' : FSt} {δ : Dl} (hop : pureA op = true) (he : Eff P d op σ δ) (e : ∀ o, o ∈ opnds op → evO σ'.s o = evO σ.s o) : Eff P d op σ' δ ∧ δ.nb = [] ∧ δ.fz = false := by
  cases he with
  | rd v h1 h2 h3 =>
    refine ⟨?_, rfl, rfl⟩
    cases op <;> simp only [pureA] at hop <;> try (cases hop; done)
    case mv x =>
      exact (eff_copy (o := x) (oi := none) rfl (.rd v h1 h2 h3) (e x (by simp [opnds]))).1
    case extract x i =>
      exact (eff_copy (o := x) (oi := some i) rfl (.rd v h1 h2 h3) (e x (by simp [opnds]))).1
    case bin b x y =>
      have hv := h2 (fun u => u = v) rfl
      have hvv : ∃ z, v = .v z := by
        simp only [rd] at hv
        split at hv
        · unfold binI at hv
          cases b <;> exact ⟨_, hv.2.symm⟩
        · exact hv.elim
      obtain ⟨z, rfl⟩ := hvv
      refine .rd _ rfl (fun K hK => ?_) fun p _ _ => .v _ _
      have := h2 K hK
      simp only [rd] at this ⊢
      rw [e x (by simp [opnds]), e y (by simp [opnds])]; exact this
    case conv k x =>
      have hv := h2 (fun u => u = v) rfl
      have hvv : ∃ z, v = .v z := by
        simp only [rd] at hv
        split at hv
        · exact ⟨_, hv.symm⟩
        · exact hv.elim
      obtain ⟨z, rfl⟩ := hvv
      refine .rd _ rfl (fun K hK => ?_) fun p _ _ => .v _ _
      have := h2 K hK
      simp only [rd] at this ⊢
      rw [e x (by simp [opnds])]; exact this
  | al d' hd v b h1 hf hn h2 h3 =>
    exfalso
    have := h1 (fun _ _ => True) trivial
    cases op <;> simp only [pureA] at hop <;> first | (cases hop; done) | exact this.elim
  | call d' hd f args hop' g caps hg ys L hm r hout fz hfn hflat hfr =>
    subst hop'; simp [pureA] at hop

theorem canon_kill {σ : St} (hc : Canon σ) (on : Option Name) : Canon (killOL on σ) := by
  cases on with
  | none => exact hc
  | some n =>
    refine ⟨fun p hp => ?_, fun p hp => ?_⟩
    · simp only [killOL, killL] at hp ⊢
      obtain ⟨q, hq, rfl⟩ := List.mem_map.1 hp
      simp only
      rw [look_map (scr n) (by simp [scr, AV.has]), hc.1 q hq]
    · simp only [killOL, killL] at hp ⊢
      obtain ⟨q, hq, rfl⟩ := List.mem_map.1 hp
      obtain ⟨h1, h2⟩ := List.mem_filter.1 hq
      simp only [Bool.not_eq_true', decide_eq_false_iff_not] at h2
      simp only
      rw [hlook_kill, if_neg h2, hc.2 q h1]; rfl

theorem look_killOL {σ : St} {on : Option Name} (t : Nat) : look (killOL on σ).s t = match on with | some n => scr n (look σ.s t) | none => look σ.s t := by
  cases on with
  | none => rfl
  | some n =>
    simp only [killOL, killL]
    rw [look_map (scr n) (by simp [scr, AV.has])]
theorem hlook_killOL {σ : St} {on : Option Name} (m : Name) : hlook (killOL on σ).h m = match on with | some n => if m = n then none else (hlook σ.h m).map (scrB n) | none => hlook σ.h m := by
  cases on with
  | none => rfl
  | some n =>
    simp only [killOL, killL]
    rw [hlook_kill]

theorem baseO_arr {k : Nat} {h : Name → Option Blk} {x : AV} {on : Option Name} {l : List (List AV)} (hb : baseO k h x = some (on, l)) : ∀ n, on = some n → ∃ k l z, h n = some (.arr k l z) := by
  intro n hn
  subst hn
  unfold baseO at hb
  split at hb
  · simp at hb
  · split at hb
    · rename_i k' l' z hx
      split at hb
      · simp only [Option.some.injEq, Prod.mk.injEq] at hb
        obtain ⟨rfl, _⟩ := hb
        exact ⟨_, _, _, hx⟩
      · cases hb
    · cases hb
  · cases hb
def scrO : Option Name → AV → AV
  | some n, x => scr n x
  | none, x => x
theorem scrO_v (on : Option Name) (x : Value) : scrO on (.v x) = .v x := by cases on <;> simp [scrO, scr, AV.has]
theorem scrO_junk (on : Option Name) : scrO on .junk = .junk := by cases on <;> simp [scrO, scr, AV.has]
theorem scrO_plain {on : Option Name} : ∀ {l : List AV}, l.all plainV = true → l.map (scrO on) = l
  | [], _ => rfl
  | x :: r, h => by
    simp only [List.all_cons, Bool.and_eq_true] at h
    rw [List.map_cons, scrO_plain h.2]
    cases x <;> simp [plainV] at h
    rw [scrO_v]
theorem scrO_plain' {on : Option Name} : ∀ {l : List AV}, (l.map (scrO on)).all plainV = true → l.map (scrO on) = l
  | [], _ => rfl
  | x :: r, h => by
    simp only [List.map_cons, List.all_cons, Bool.and_eq_true] at h
    rw [List.map_cons, scrO_plain' h.2]
    congr 1
    cases on with
    | none => rfl
    | some n =>
      simp only [scrO, scr] at h ⊢
      split
      · rename_i hh; rw [if_pos hh] at h; simp [plainV] at h
      · rfl
theorem hasL_plain {n : Name} : ∀ {l : List AV}, l.all plainV = true → hasL n l = false
  | [], _ => rfl
  | x :: r, h => by
    simp only [List.all_cons, Bool.and_eq_true] at h
    simp only [hasL, hasL_plain h.2, Bool.or_false]
    cases x <;> simp [plainV] at h
    rfl
theorem scrO_ptr {on : Option Name} {m : Name} {e c : Nat} (h : ∀ n, on = some n → m ≠ n) : scrO on (.ptr m e c) = .ptr m e c := by
  cases on with
  | none => rfl
  | some n => simp [scrO, scr, AV.has, h n rfl]
theorem scrO_ptr_inv {on : Option Name} {x : AV} {m : Name} {e c : Nat} (h : scrO on x = .ptr m e c) : x = .ptr m e c ∧ ∀ n, on = some n → m ≠ n := by
  cases on with
  | none => exact ⟨h, fun n h => by cases h⟩
  | some n =>
    simp only [scrO, scr] at h
    split at h
    · cases h
    · rename_i hh
      subst h
      refine ⟨rfl, fun n' hn => ?_⟩
      obtain rfl := Option.some.inj hn
      simpa [AV.has] using hh
theorem row_map (f : AV → AV) (cs : List AV) (z : Bool) (e : Nat) : (Blk.var (cs.map f) z).row e = ((Blk.var cs z).row e).map f := by cases e <;> rfl
theorem scrO_mk {on : Option Name} {g : Bool} {l : List AV} (h : (!g || l.all plainV) = true) : AV.mk g (l.map (scrO on)) = scrO on (AV.mk g l) := by
  cases g with
  | false =>
    simp only [AV.mk, Bool.false_eq_true, if_false]
    cases l with
    | nil => exact (scrO_junk on).symm
    | cons x r => rfl
  | true =>
    simp only [Bool.not_true, Bool.false_or] at h
    simp only [AV.mk, if_true]
    rw [scrO_plain h]
    cases on with
    | none => rfl
    | some n => simp [scrO, scr, AV.has, hasL_plain h]
/-- a read of a variable, behind a row's end -/
theorem lf_behind {d : Option Nat} {op : AOp} {σ τ : FSt} {δ : Dl} {on : Option Name} (hop : isLV op) (he : Eff P d op σ δ)
    (hev : ∀ o, o ∈ opnds op → evO τ.s o = scrO on (evO σ.s o)) (hon : ∀ n, on = some n → ∃ k l z, σ.h n = some (.arr k l z))
    (hh : ∀ m c z, σ.h m = some (.var c z) → τ.h m = some (.var (c.map (scrO on)) z)) : Eff P d op τ ⟨scrO on δ.v, [], false, [], fun _ => False⟩ := by
  have mne : ∀ {m : Name} {c : List AV} {z : Bool}, σ.h m = some (.var c z) → ∀ n, on = some n → m ≠ n := by
    intro m c z hm n hn e
    obtain ⟨k, l, z', h⟩ := hon n hn
    rw [← e, hm] at h; cases h
  cases op <;> simp only [isLV] at hop
  case loadV g k a =>
    cases he with
    | rd v h1 h2 h3 =>
      have hv := h2 (fun u => u = v) rfl
      have ha := hev a (by simp [opnds])
      simp only [rd] at hv
      split at hv
      · rename_i m e c hx
        split at hv
        · rename_i cs z hb
          rw [hx, scrO_ptr (mne hb)] at ha
          have hb' := hh m cs z hb
          obtain ⟨⟨hl, hp⟩, rfl⟩ := hv
          have em : ((((Blk.var (cs.map (scrO on)) z).row e).drop c).take k) = ((((Blk.var cs z).row e).drop c).take k).map (scrO on) := by
            rw [row_map, List.map_take, List.map_drop]
          have ep : ((!g || (((((Blk.var cs z).row e).drop c).take k).map (scrO on)).all plainV) = true) := by
            cases g with
            | false => rfl
            | true =>
              simp only [Bool.not_true, Bool.false_or] at hp ⊢
              rw [scrO_plain hp]; exact hp
          refine .rd _ rfl (fun K hK => ?_) fun p hp' hq => ?_
          · simp only [rd, ha, hb']
            refine ⟨⟨by rw [row_map, List.length_map]; exact hl, by rw [em]; exact ep⟩, ?_⟩
            rw [em, scrO_mk hp]; exact hK
          · have hpa := hp' a (by simp [opnds])
            rw [ha] at hpa
            rw [← scrO_mk hp, ← em]
            exact NmL.mk (NmL.take (NmL.drop ((hq m _ hpa.inv_ptr hb').row e) _) _)
        · exact hv.elim
      · exact hv.elim
    | al d' hd v b h1 hf hn h2 h3 => exact (h1 (fun _ _ => True) trivial).elim
    | call d' hd f args hop' g caps hg ys L hm r hout fz hfn hflat hfr => cases hop'
  case fieldV off x =>
    cases he with
    | rd v h1 h2 h3 =>
      have hv := h2 (fun u => u = v) rfl
      have ha := hev x (by simp [opnds])
      simp only [rd] at hv
      split at hv
      · rename_i m e c hx
        split at hv
        · rename_i cs z hb
          rw [hx, scrO_ptr (mne hb)] at ha
          have hb' := hh m cs z hb
          subst hv
          simp only [scrO_ptr (mne hb)]
          refine .rd _ rfl (fun K hK => ?_) fun p hp' hq => ?_
          · simp only [rd, ha, hb']; exact hK
          · have hpa := hp' x (by simp [opnds])
            rw [ha] at hpa
            exact .ptr _ _ _ _ hpa.inv_ptr
        · exact hv.elim
      · exact hv.elim
    | al d' hd v b h1 hf hn h2 h3 => exact (h1 (fun _ _ => True) trivial).elim
    | call d' hd f args hop' g caps hg ys L hm r hout fz hfn hflat hfr => cases hop'
theorem eff_rd_nb {d : Option Nat} {op : AOp} {σ : FSt} {δ : Dl} (hr : isRd op = true) (he : Eff P d op σ δ) : δ.nb = [] ∧ δ.fz = false := by
  cases he with
  | rd v h1 h2 h3 => exact ⟨rfl, rfl⟩
  | al d' hd v b h1 hf hn h2 h3 =>
    exfalso
    have := h1 (fun _ _ => True) trivial
    cases op <;> simp only [isRd] at hr <;> first | (cases hr; done) | exact this.elim
  | call d' hd f args hop' g caps hg ys L hm r hout fz hfn hflat hfr => subst hop'; cases hr

theorem hard_swap {x y : AOper} {σ : FSt} {σ0 σl : St} {δx : Dl} {K : FSt → Prop} (hx : EffG P x σ δx) (hp : PairH x y) (h0 : σ0.f = σ) (j1 : ∀ t, x.dst = some t → σ.s t = .junk) (hl : σl.f = app x.dst δx σ)
    (hv : vc P (fun σ' => K σ'.f) [y] σl) : ∃ σ2 : St, σ2.f = σ ∧ vc P (fun σ' => ∃ δ', EffG P x σ'.f δ' ∧ K (app x.dst δ' σ'.f)) [y] σ2 := by
  subst h0
  have hap := hp.ap
  simp only [apartA, Bool.and_eq_true] at hap
  have a0 : ∀ t, x.dst = some t → seesB y t = false ∧ y.dst ≠ some t := fun t ht => by
    have := hap.1; rw [ht] at this; simpa using this
  have b0 : ∀ t, y.dst = some t → seesB x t = false := fun t ht => by
    have := hap.2; rw [ht] at this; simpa using this
  have sees : ∀ {z : AOper} {t : Nat}, seesB z t = false → (∀ o, o ∈ opnds z.op → o ≠ .tmp t) ∧ ∀ g w, z.guard = some (g, w) → g ≠ t := by
    intro z t h
    simp only [seesB, Bool.or_eq_false_iff] at h
    refine ⟨tmpsOf_mem (by simpa using h.1), fun g w hg => ?_⟩
    have := h.2; rw [hg] at this; simpa using this
  obtain ⟨b, rx, hxs⟩ := hx
  -- what x brings
  have hrdx : isRd (opOf b x) = true := by
    cases b
    · rfl
    · rcases hp.k with ⟨_, _, _, _, h⟩ | ⟨_, _, _, _, o, _, h⟩
      · show isRd x.op = true
        revert h; cases x.op <;> intro h <;> first | rfl | simp [pureA] at h
      · show isRd x.op = true
        rcases h with h | h
        · rw [h]; rfl
        · revert h; cases x.op <;> intro h <;> first | rfl | exact h.elim
  have hnb : δx.nb = [] ∧ δx.fz = false := eff_rd_nb hrdx hxs
  have hh : ∀ (d : Option Nat) (τ : FSt) (δ : Dl), δ.nb = [] → δ.fz = false → (app d δ τ).h = τ.h := by
    intro d τ δ e1 e2
    funext n
    rw [app_h, e1, e2]
    simp [hlook]
  have es : ∀ t, look σl.s t = (app x.dst δx σ0.f).s t := fun t => congrFun (congrArg FSt.s hl) t
  have eh : hlook σl.h = hlook σ0.h := by
    have := congrArg FSt.h hl
    rw [hh _ _ _ hnb.1 hnb.2] at this
    exact this
  have ev : ∀ z, z ∈ opnds y.op → evO (look σl.s) z = evO (look σ0.s) z := by
    intro z hz
    have e : evO (look σl.s) z = evO (app x.dst δx σ0.f).s z := by
      cases z <;> first | rfl | exact es _
    rw [e]
    exact evO_app fun t ht => (sees (a0 t ht).1).1 z hz
  simp only [vc, hp.g] at hv
  rcases hp.k with ⟨k, A, X, hy, hpx⟩ | ⟨k, by', A, X, o', hy, hxop⟩
  · have hpur : pureA (opOf b x) = true := by
      cases b
      · rfl
      · exact hpx
    rw [hy] at hv ev
    refine ⟨σ0, rfl, ?_⟩
    simp only [vc, hp.g, hy]
    simp only [stepA] at hv ⊢
    refine ⟨hv.1, ?_⟩
    have hv := hv.2
    rw [ev A (by simp [opnds]), ev X (by simp [opnds]), eh] at hv
    split at hv
    · rename_i n e c hA
      split at hv
      · rename_i bl cs hb hcs
        refine ⟨hv.1, ?_⟩
        have hK := hv.2
        have est : ((⟨σl.s, hset n (bl.setRow e (lay (bl.row e) c cs)) σl.h⟩ : St)).f = app x.dst δx (⟨σ0.s, hset n (bl.setRow e (lay (bl.row e) c cs)) σ0.h⟩ : St).f := by
          have e1 : (⟨σl.s, hset n (bl.setRow e (lay (bl.row e) c cs)) σl.h⟩ : St).f.s = (app x.dst δx (⟨σ0.s, hset n (bl.setRow e (lay (bl.row e) c cs)) σ0.h⟩ : St).f).s := funext fun t => es t
          have e2 : (⟨σl.s, hset n (bl.setRow e (lay (bl.row e) c cs)) σl.h⟩ : St).f.h = (app x.dst δx (⟨σ0.s, hset n (bl.setRow e (lay (bl.row e) c cs)) σ0.h⟩ : St).f).h := by
            rw [hh _ _ _ hnb.1 hnb.2]
            simp only [St.f, hlook_hset, eh]
          exact congr (congrArg FSt.mk e1) e2
        refine ⟨δx, ⟨b, ?_, ?_⟩, by rw [← est]; exact hK⟩
        · unfold runs at rx ⊢; exact rx
        · exact (eff_pure (σ' := (⟨σ0.s, hset n (bl.setRow e (lay (bl.row e) c cs)) σ0.h⟩ : St).f) hpur hxs fun _ _ => rfl).1
      · exact hv.elim
    · exact hv.elim
  · have main : ∀ (d : Nat), y.dst = some d → ∀ (v0 : AV) (B : List (Name × Blk) → List (Name × Blk)) (on : Option Name), (∀ h h', hlook h = hlook h' → hlook (B h) = hlook (B h')) → (∀ h m, m ≠ .t d 0 → hlook (B h) m = hlook h m) → hlook (killOL on σl).h (.t d 0) = none → (∀ n, on = some n → ∃ k l z, hlook σ0.h n = some (.arr k l z)) →
        K (⟨(d, v0) :: (killOL on σl).s, B (killOL on σl).h⟩ : St).f → ∃ δ', EffG P x (⟨(d, v0) :: (killOL on (canon σ0)).s, B (killOL on (canon σ0)).h⟩ : St).f δ' ∧ K (app x.dst δ' (⟨(d, v0) :: (killOL on (canon σ0)).s, B (killOL on (canon σ0)).h⟩ : St).f) := by
      intro d hd v0 B on hB hBm hfn hon hK
      have es0 : ∀ t, look (canon σ0).s t = look σ0.s t := fun t => congrFun (congrArg FSt.s (canon_f σ0)) t
      have eh0 : hlook (canon σ0).h = hlook σ0.h := congrArg FSt.h (canon_f σ0)
      have hdx : ∀ t, x.dst = some t → d ≠ t := fun t ht e => (a0 t ht).2 (by rw [hd, e])
      let τ : St := ⟨(d, v0) :: (killOL on (canon σ0)).s, B (killOL on (canon σ0)).h⟩
      let v' : AV := match on with | some n => scr n δx.v | none => δx.v
      have est : (⟨(d, v0) :: (killOL on σl).s, B (killOL on σl).h⟩ : St).f = app x.dst ⟨v', [], false, [], fun _ => False⟩ τ.f := by
        have e1 : (⟨(d, v0) :: (killOL on σl).s, B (killOL on σl).h⟩ : St).f.s = (app x.dst ⟨v', [], false, [], fun _ => False⟩ τ.f).s := by
          funext t
          simp only [St.f, look, look_killOL]
          by_cases ht : x.dst = some t
          · have h2 := hdx t ht
            rw [if_neg (fun e => h2 e.symm)]
            have e3 := es t
            rw [ht] at e3 ⊢
            rw [app_s_eq] at e3
            rw [app_s_eq, e3]
            cases on <;> rfl
          · rw [app_s ht]
            have e3 := es t
            rw [app_s ht] at e3
            simp only [τ, look, look_killOL, es0]
            rw [e3]; rfl
        have e2 : (⟨(d, v0) :: (killOL on σl).s, B (killOL on σl).h⟩ : St).f.h = (app x.dst ⟨v', [], false, [], fun _ => False⟩ τ.f).h := by
          rw [hh _ _ _ rfl rfl]
          refine hB _ _ (funext fun m => ?_)
          simp only [hlook_killOL, eh, eh0]
        exact congr (congrArg FSt.mk e1) e2
      have hτ : ∀ z, z ∈ opnds x.op → z ≠ .tmp d := fun z hz => (sees (b0 d hd)).1 z hz
      refine ⟨⟨v', [], false, [], fun _ => False⟩, ⟨b, ?_, ?_⟩, by show K (app x.dst _ τ.f); rw [← est]; exact hK⟩
      · unfold runs at rx ⊢
        split at rx
        · exact rx
        · rename_i g want hg
          have hgd := (sees (b0 d hd)).2 g want hg
          rcases rx with ⟨c, hc, hbc⟩ | ⟨⟨cs, hc⟩, hbc⟩
          · refine .inl ⟨c, ?_, hbc⟩
            simp only [St.f, look]
            rw [if_neg hgd, look_killOL, es0]
            simp only [St.f] at hc
            rw [hc]
            cases on <;> simp [scr, AV.has]
          · refine .inr ⟨⟨cs, ?_⟩, hbc⟩
            simp only [St.f, look]
            rw [if_neg hgd, look_killOL, es0]
            simp only [St.f] at hc
            rw [hc]
            cases on <;> simp [scr, AV.has]
      · -- the copied value, behind the write
        have hmv : (∃ o2, opOf b x = .mv o2 ∧ o2 ≠ .tmp d) ∨ isLV (opOf b x) := by
          cases b
          · exact .inl ⟨_, rfl, by simp⟩
          · rcases hxop with hxop | hxop
            · exact .inl ⟨o', hxop, hτ o' (by rw [hxop]; simp [opnds])⟩
            · exact .inr hxop
        rcases hmv with hmv | hlv
        rotate_left
        · have hbt : b = true := by
            cases b
            · exact hlv.elim
            · rfl
          subst hbt
          have hlx : isLV x.op := hlv
          have heff : Eff P x.dst x.op τ.f ⟨scrO on δx.v, [], false, [], fun _ => False⟩ := by
            refine lf_behind hlx hxs (fun z hz => ?_) (fun n hn => ?_) (fun m c z hm => ?_)
            · have hzd := hτ z hz
              show evO (look τ.s) z = scrO on (evO (look σ0.s) z)
              revert hz
              cases hxe : x.op <;> intro hz <;> simp only [hxe, isLV] at hlx
              all_goals
                cases z with
                | tmp t =>
                  have htd : t ≠ d := fun e => hzd (by rw [e])
                  simp only [evO, τ, look]
                  rw [if_neg htd, look_killOL, es0]
                  cases on <;> rfl
                | const w =>
                  simp only [evO]
                  cases on with
                  | none => rfl
                  | some n =>
                    simp only [scrO, scr]
                    rw [if_neg]
                    cases w <;> simp [AV.ofValue, AV.has]
                    rename_i cs
                    have : OffL (fun m => m = n) (List.map (fun x => AV.v x) (Array.toList cs)) := OffL.of_mem fun x hx => by
                      obtain ⟨y, _, rfl⟩ := List.mem_map.1 hx
                      exact Off.v _
                    exact this n rfl
                | global g => simp only [evO]; exact (scrO_junk on).symm
                | func f => simp only [evO]; cases on <;> simp [scrO, scr, AV.has, hasL]
            · exact hon n hn
            · have hmt : m ≠ .t d 0 := by
                rintro rfl
                rw [hlook_killOL, eh] at hfn
                simp only [St.f] at hm
                cases on with
                | none => simp only at hfn; rw [hm] at hfn; cases hfn
                | some n =>
                  obtain ⟨k', l', z', hn⟩ := hon n rfl
                  simp only at hfn
                  split at hfn
                  · rename_i e; rw [← e, hm] at hn; cases hn
                  · rw [hm] at hfn; cases hfn
              show hlook τ.h m = _
              simp only [τ]
              rw [hBm _ _ hmt, hlook_killOL, eh0]
              simp only [St.f] at hm
              cases on with
              | none => rw [show c.map (scrO none) = c by rw [show scrO none = id from rfl]; simp]; exact hm
              | some n =>
                obtain ⟨k', l', z', hn⟩ := hon n rfl
                have hmn : m ≠ n := fun e => by rw [← e, hm] at hn; cases hn
                simp only
                rw [if_neg hmn, hm]; rfl
          have ev' : v' = scrO on δx.v := by cases on <;> rfl
          rw [ev']
          exact heff
        obtain ⟨o2, hmv, ho2⟩ := hmv
        unfold EffS at hxs ⊢
        rw [hmv] at hxs ⊢
        cases hxs with
        | rd v h1 h2 h3 =>
          have hv' := h2 (fun u => u = v) rfl
          simp only [rd] at hv'
          have hev : evO τ.f.s o2 = v' := by
            show evO (look τ.s) o2 = v'
            cases o2 with
            | tmp t =>
              have htd : t ≠ d := fun e => ho2 (by rw [e])
              simp only [evO, τ, look]
              rw [if_neg htd, look_killOL, es0]
              simp only [evO, St.f] at hv'
              rw [hv']
              cases on <;> rfl
            | const w =>
              simp only [evO] at hv' ⊢
              simp only [v']
              rw [← hv']
              cases on with
              | none => rfl
              | some n =>
                simp only [scr]
                rw [if_neg]
                cases w <;> simp [AV.ofValue, AV.has]
                rename_i cs
                have : OffL (fun m => m = n) (List.map (fun x => AV.v x) (Array.toList cs)) := OffL.of_mem fun x hx => by
                  obtain ⟨y, _, rfl⟩ := List.mem_map.1 hx
                  exact Off.v _
                exact this n rfl
            | global g =>
              simp only [evO] at hv' ⊢
              simp only [v']
              rw [← hv']
              cases on <;> simp [scr, AV.has]
            | func f =>
              simp only [evO] at hv' ⊢
              simp only [v']
              rw [← hv']
              cases on <;> simp [scr, AV.has, hasL]
          refine .rd v' rfl (fun K hK => ?_) fun p hp' _ => ?_
          · simp only [rd]; rw [hev]; exact hK
          · have := hp' o2 (by simp [opnds]); rwa [hev] at this
        | al d' hd' v b h1 hf hn h2 h3 => exact (h1 (fun _ _ => True) trivial).elim
        | call d' hd' f args hop' g caps hg ys L hm r hout fz hfn hflat hfr => cases hop'
    have es0 : ∀ t, look (canon σ0).s t = look σ0.s t := fun t => congrFun (congrArg FSt.s (canon_f σ0)) t
    have eh0 : hlook (canon σ0).h = hlook σ0.h := congrArg FSt.h (canon_f σ0)
    have ev0 : ∀ z, evO (look (canon σ0).s) z = evO (look σ0.s) z := by
      intro z; cases z <;> first | rfl | exact es0 _
    have fresh : ∀ (d : Nat), y.dst = some d → ∀ (on : Option Name), freshL (.t d 0) (killOL on σl) = true → freshL (.t d 0) (killOL on (canon σ0)) = true := by
      intro d hd on hf
      have hfr : FreshF (.t d 0) (killOL on (canon σ0)).f := by
        have h1 := freshL_spec hf
        refine ⟨⟨?_, h1.1.2⟩, fun t => ?_, fun m bl hbl => ?_⟩
        · have := h1.1.1
          simp only [St.f, hlook_killOL] at this ⊢
          rw [eh0, ← eh]; exact this
        · have := h1.2.1 t
          simp only [St.f, look_killOL] at this ⊢
          rw [es0]
          by_cases ht : x.dst = some t
          · have := j1 t ht
            simp only [St.f] at this
            rw [this]
            cases on with
            | none => rfl
            | some n => simp [scr, AV.has]
          · have e2 := es t
            rw [app_s ht] at e2
            rw [e2] at this
            exact this
        · refine h1.2.2 m bl ?_
          simp only [St.f, hlook_killOL] at hbl ⊢
          rw [eh0, ← eh] at hbl; exact hbl
      exact freshL_of (canon_kill (canon_ok σ0) on) rfl hfr
    refine ⟨canon σ0, canon_f σ0, ?_⟩
    rcases hy with hy | hy <;> rw [hy] at hv ev
    all_goals
      cases hd : y.dst with
      | none => rw [hd] at hv; exact hv.elim
      | some d =>
        rw [hd] at hv
        simp only [vc, hp.g, hy, hd]
        simp only [stepA] at hv ⊢
        rw [ev A (by simp [opnds]), ev X (by simp [opnds]), eh] at hv
        rw [ev0 A, ev0 X, eh0]
        split at hv
        · rename_i on l l' hA hX
          obtain ⟨⟨hf, hsz⟩, hK⟩ := hv
          refine ⟨⟨fresh d hd on hf, hsz⟩, ?_⟩
          have hon := baseO_arr hA
          have hfn := hlook_fresh hf
          first
            | exact main d hd (.loc (.t d 0) 0 (l.length + l'.length)) (fun h => (.t d 0, .arr k (l ++ l') false) :: h) on (fun h h' e => by funext m; simp only [hlook, e]) (fun h m hm => by simp only [hlook]; rw [if_neg hm]) hfn hon hK
            | exact main d hd (.sl k (l ++ l')) (fun h => h) on (fun h h' e => e) (fun h m hm => rfl) hfn hon hK
        · exact hv.elim

/-- A write may go before copies that it does not see. -/
theorem bringH {ops : Array Oper} {K : FSt → Prop} {y : AOper} : ∀ (l1 l2 : List AOper) (σ : FSt), (∀ x, x ∈ l1 → PairH x y ∧ ∃ (i : Nat) (o : Oper), ops[i]? = some o ∧ cOper P C.nt ops o = some x.bare) →
    (l1.Pairwise fun x x' => ∀ t, x'.dst = some t → x.dst ≠ some t) → Real C σ → (∀ x, x ∈ l1 → ∀ t, x.dst = some t → σ.s t = .junk) →
    vcE P K (l1 ++ y :: l2) σ → vcE P K (y :: (l1 ++ l2)) σ
  | [], l2, σ, _, _, _, _, hv => hv
  | x :: l1, l2, σ, hp, hd, hr, j1, hv => by
    obtain ⟨hpx, i, o, ho, hc⟩ := hp x (by simp)
    have fx := hpx.fx
    have fy := hpx.fy
    simp only [List.cons_append, vcE, fx, if_true] at hv
    obtain ⟨δx, h1, h2⟩ := hv
    have := bringH l1 l2 (app x.dst δx σ) (fun z hz => hp z (by simp [hz])) hd.tail (real_eff ho hc hr h1) (fun z hz t ht => by
      rw [app_s ((List.rel_of_pairwise_cons hd hz) t ht)]
      exact j1 z (by simp [hz]) t ht) h2
    simp only [vcE, fy, Bool.false_eq_true, if_false] at this
    obtain ⟨σl, h3, h4⟩ := this
    obtain ⟨σ0, a, w, S, ρ, κ, e, hok⟩ := hr
    obtain ⟨σ2, h5, h6⟩ := hard_swap (K := fun f => vcE P K (l1 ++ l2) f) h1 hpx e (j1 x (by simp)) h3 (vc1_mono (fun _ h => h.1) h4)
    simp only [vcE, fy, fx, Bool.false_eq_true, if_false, if_true, List.cons_append]
    refine ⟨σ2, h5, vc1_keep (vc1_mono (fun σ' h => ?_) h6)⟩
    exact h

/-- A row's end, and a read of a variable behind it. -/
structure PairS (x y : AOper) : Prop where
  fx : freeO x = false
  fy : freeO y = true
  gx : x.guard = none
  gy : y.guard = none
  ap : apartA x y = true
  kx : ∃ k b A X, x.op = .append k b A X ∨ x.op = .appendC k b A X
  ky : (∃ k a, y.op = .loadV true k a) ∨ ∃ o a, y.op = .fieldV o a

theorem lv_before {d : Option Nat} {op : AOp} {σ τ : FSt} {δ : Dl} {on : Option Name} (hop : (∃ k a, op = .loadV true k a) ∨ ∃ o a, op = .fieldV o a) (he : Eff P d op τ δ) {new : Name}
    (hev : ∀ o, o ∈ opnds op → evO τ.s o = scrO on (evO σ.s o)) (hnw : ∀ o, o ∈ opnds op → (evO τ.s o).has new = false)
    (hh : ∀ m c z, m ≠ new → (∀ n, on = some n → m ≠ n) → τ.h m = some (.var c z) → ∃ c0, σ.h m = some (.var c0 z) ∧ c = c0.map (scrO on)) :
    Eff P d op σ ⟨δ.v, [], false, [], fun _ => False⟩ ∧ scrO on δ.v = δ.v ∧ δ.v.has new = false ∧ δ.nb = [] ∧ δ.fz = false := by
  rcases hop with ⟨k, a, rfl⟩ | ⟨off, x, rfl⟩
  · cases he with
    | rd v h1 h2 h3 =>
      have hv := h2 (fun u => u = v) rfl
      have ha := hev a (by simp [opnds])
      have hna := hnw a (by simp [opnds])
      simp only [rd] at hv
      split at hv
      · rename_i m e c hx
        rw [hx] at ha hna
        obtain ⟨ea, hmn⟩ := scrO_ptr_inv ha.symm
        have hmw : m ≠ new := by simpa [AV.has] using hna
        split at hv
        · rename_i cs z hb
          obtain ⟨c0, hb0, rfl⟩ := hh m cs z hmw hmn hb
          obtain ⟨⟨hl, hp⟩, rfl⟩ := hv
          have em : ((((Blk.var (c0.map (scrO on)) z).row e).drop c).take k) = ((((Blk.var c0 z).row e).drop c).take k).map (scrO on) := by
            rw [row_map, List.map_take, List.map_drop]
          simp only [Bool.not_true, Bool.false_or] at hp
          rw [em] at hp
          have e2 := scrO_plain' hp
          have hp0 : ((((Blk.var c0 z).row e).drop c).take k).all plainV = true := by rw [← e2]; exact hp
          simp only [em, e2]
          refine ⟨.rd _ rfl (fun K hK => ?_) fun p hp' hq => ?_, ?_, ?_, trivial, trivial⟩
          · simp only [rd, ea, hb0]
            refine ⟨⟨by rw [row_map, List.length_map] at hl; exact hl, by simp only [Bool.not_true, Bool.false_or]; exact hp0⟩, hK⟩
          · have hpa := hp' a (by simp [opnds])
            rw [ea] at hpa
            exact NmL.mk (NmL.take (NmL.drop ((hq m _ hpa.inv_ptr hb0).row e) _) _)
          · rw [← scrO_mk (g := true) (by simpa using hp0), e2]
          · simp only [AV.mk, if_true, AV.has, hasL_plain hp0]
        · exact hv.elim
      · exact hv.elim
    | al d' hd v b h1 hf hn h2 h3 => exact (h1 (fun _ _ => True) trivial).elim
    | call d' hd f args hop' g caps hg ys L hm r hout fz hfn hflat hfr => cases hop'
  · cases he with
    | rd v h1 h2 h3 =>
      have hv := h2 (fun u => u = v) rfl
      have ha := hev x (by simp [opnds])
      have hna := hnw x (by simp [opnds])
      simp only [rd] at hv
      split at hv
      · rename_i m e c hx
        rw [hx] at ha hna
        obtain ⟨ea, hmn⟩ := scrO_ptr_inv ha.symm
        have hmw : m ≠ new := by simpa [AV.has] using hna
        split at hv
        · rename_i cs z hb
          obtain ⟨c0, hb0, rfl⟩ := hh m cs z hmw hmn hb
          subst hv
          refine ⟨.rd _ rfl (fun K hK => ?_) fun p hp' hq => ?_, scrO_ptr hmn, by simp [AV.has, hmw], rfl, rfl⟩
          · simp only [rd, ea, hb0]; exact hK
          · have hpa := hp' x (by simp [opnds])
            rw [ea] at hpa
            exact .ptr _ _ _ _ hpa.inv_ptr
        · exact hv.elim
      · exact hv.elim
    | al d' hd v b h1 hf hn h2 h3 => exact (h1 (fun _ _ => True) trivial).elim
    | call d' hd f args hop' g caps hg ys L hm r hout fz hfn hflat hfr => cases hop'

theorem soft_swap {x y : AOper} {σl : St} {K : FSt → Prop} (hp : PairS x y)
    (hv : vc P (fun σ' => ∃ δ, EffG P y σ'.f δ ∧ K (app y.dst δ σ'.f)) [x] σl) : ∃ δ', EffG P y σl.f δ' ∧ ∃ σ3 : St, σ3.f = app y.dst δ' σl.f ∧ vc P (fun σ' => K σ'.f) [x] σ3 := by
  have hap := hp.ap
  simp only [apartA, Bool.and_eq_true] at hap
  have a0 : ∀ t, x.dst = some t → seesB y t = false ∧ y.dst ≠ some t := fun t ht => by
    have := hap.1; rw [ht] at this; simpa using this
  have b0 : ∀ t, y.dst = some t → seesB x t = false := fun t ht => by
    have := hap.2; rw [ht] at this; simpa using this
  have sees : ∀ {z : AOper} {t : Nat}, seesB z t = false → ∀ o, o ∈ opnds z.op → o ≠ .tmp t := by
    intro z t h
    simp only [seesB, Bool.or_eq_false_iff] at h
    exact tmpsOf_mem (by simpa using h.1)
  simp only [vc, hp.gx] at hv
  have main : ∀ (d : Nat), x.dst = some d → ∀ (v0 : AV) (B : List (Name × Blk) → List (Name × Blk)) (on : Option Name), (∀ h h', hlook h = hlook h' → hlook (B h) = hlook (B h')) → (∀ h m, m ≠ .t d 0 → hlook (B h) m = hlook h m) →
      freshL (.t d 0) (killOL on σl) = true → (∃ δ, EffG P y (⟨(d, v0) :: (killOL on σl).s, B (killOL on σl).h⟩ : St).f δ ∧ K (app y.dst δ (⟨(d, v0) :: (killOL on σl).s, B (killOL on σl).h⟩ : St).f)) →
      ∃ δ', EffG P y σl.f δ' ∧ ∃ σ3 : St, σ3.f = app y.dst δ' σl.f ∧ (∀ z, z ∈ opnds x.op → evO (look σ3.s) z = evO (look σl.s) z) ∧ hlook σ3.h = hlook σl.h ∧ freshL (.t d 0) (killOL on σ3) = true ∧
        K (⟨(d, v0) :: (killOL on σ3).s, B (killOL on σ3).h⟩ : St).f := by
    rintro d hd v0 B on hB hBm hf ⟨δ, ⟨b, ry, hey⟩, hK⟩
    have hyd : y.dst ≠ some d := (a0 d hd).2
    have hyo := sees (a0 d hd).1
    have hfr := freshL_spec hf
    have hb : b = true := by simpa [runs, hp.gy] using ry
    subst hb
    have hey : Eff P y.dst y.op (⟨(d, v0) :: (killOL on σl).s, B (killOL on σl).h⟩ : St).f δ := hey
    have hev : ∀ o, o ∈ opnds y.op → evO (⟨(d, v0) :: (killOL on σl).s, B (killOL on σl).h⟩ : St).f.s o = scrO on (evO σl.f.s o) := by
      intro z hz
      have hzd := hyo z hz
      cases z with
      | tmp t =>
        have htd : t ≠ d := fun e => hzd (by rw [e])
        simp only [evO, St.f, look]
        rw [if_neg htd, look_killOL]
        cases on <;> rfl
      | const w =>
        simp only [evO]
        cases on with
        | none => rfl
        | some n =>
          simp only [scrO, scr]
          rw [if_neg]
          cases w <;> simp [AV.ofValue, AV.has]
          rename_i cs
          have : OffL (fun m => m = n) (List.map (fun x => AV.v x) (Array.toList cs)) := OffL.of_mem fun x hx => by
            obtain ⟨y, _, rfl⟩ := List.mem_map.1 hx
            exact Off.v _
          exact this n rfl
      | global g => simp only [evO]; exact (scrO_junk on).symm
      | func f => simp only [evO]; cases on <;> simp [scrO, scr, AV.has, hasL]
    have hnw : ∀ o, o ∈ opnds y.op → (evO (⟨(d, v0) :: (killOL on σl).s, B (killOL on σl).h⟩ : St).f.s o).has (.t d 0) = false := by
      intro z hz
      have hzd := hyo z hz
      cases z with
      | tmp t =>
        have htd : t ≠ d := fun e => hzd (by rw [e])
        simp only [evO, St.f, look]
        rw [if_neg htd]
        exact hfr.2.1 t
      | const w =>
        simp only [evO]
        cases w <;> simp [AV.ofValue, AV.has]
        rename_i cs
        have : OffL (fun m => m = .t d 0) (List.map (fun x => AV.v x) (Array.toList cs)) := OffL.of_mem fun x hx => by
          obtain ⟨y, _, rfl⟩ := List.mem_map.1 hx
          exact Off.v _
        exact this _ rfl
      | global g => rfl
      | func f => simp [evO, AV.has, hasL]
    obtain ⟨e1, e2, e3, e4, e5⟩ := lv_before (σ := σl.f) (on := on) (new := .t d 0) hp.ky hey hev hnw (fun m c z hm hmn hb => by
      simp only [St.f] at hb ⊢
      rw [hBm _ _ hm, hlook_killOL] at hb
      cases on with
      | none => exact ⟨c, hb, by rw [show scrO none = id from rfl]; simp⟩
      | some n =>
        simp only at hb
        rw [if_neg (hmn n rfl)] at hb
        obtain ⟨b0, h1, h2⟩ := Option.map_eq_some_iff.1 hb
        cases b0 with
        | var c0 z0 =>
          simp only [scrB, Blk.var.injEq] at h2
          obtain ⟨rfl, rfl⟩ := h2
          exact ⟨c0, h1, rfl⟩
        | arr k l z0 => simp [scrB] at h2)
    let δ' : Dl := ⟨δ.v, [], false, [], fun _ => False⟩
    let σ3 : St := canon ⟨put y.dst δ.v σl.s, σl.h⟩
    have hσ3 : σ3.f = app y.dst δ' σl.f := by
      rw [canon_f]; exact app_rd
    have s3 : ∀ t, look σ3.s t = (app y.dst δ' σl.f).s t := fun t => congrFun (congrArg FSt.s hσ3) t
    have h3 : hlook σ3.h = hlook σl.h := by
      have := congrArg FSt.h hσ3
      have e : (app y.dst δ' σl.f).h = hlook σl.h := by
        funext n; rw [app_h]; simp [δ', hlook, St.f]
      exact this.trans e
    refine ⟨δ', ⟨true, by simp [runs, hp.gy], e1⟩, σ3, hσ3, fun z hz => ?_, h3, ?_, ?_⟩
    · have e : evO (look σ3.s) z = evO (app y.dst δ' σl.f).s z := by cases z <;> first | rfl | exact s3 _
      rw [e]
      exact evO_app fun t ht => sees (b0 t ht) z hz
    · refine freshL_of (canon_kill (canon_ok _) on) rfl ⟨⟨?_, hfr.1.2⟩, fun t => ?_, fun m bl hbl => ?_⟩
      · have := hfr.1.1
        simp only [St.f, hlook_killOL] at this ⊢
        rw [h3]; exact this
      · have := hfr.2.1 t
        simp only [St.f, look_killOL] at this ⊢
        rw [s3]
        by_cases ht : y.dst = some t
        · rw [ht, app_s_eq]
          cases on with
          | none => exact e3
          | some n =>
            show AV.has (.t d 0) (scr n δ.v) = false
            rw [show scr n δ.v = δ.v from e2]; exact e3
        · rw [app_s ht]; exact this
      · refine hfr.2.2 m bl ?_
        simp only [St.f, hlook_killOL] at hbl ⊢
        rw [h3] at hbl; exact hbl
    · have est : (⟨(d, v0) :: (killOL on σ3).s, B (killOL on σ3).h⟩ : St).f = app y.dst δ (⟨(d, v0) :: (killOL on σl).s, B (killOL on σl).h⟩ : St).f := by
        have g1 : (⟨(d, v0) :: (killOL on σ3).s, B (killOL on σ3).h⟩ : St).f.s = (app y.dst δ (⟨(d, v0) :: (killOL on σl).s, B (killOL on σl).h⟩ : St).f).s := by
          funext t
          by_cases ht : y.dst = some t
          · have htd : t ≠ d := fun e => hyd (by rw [ht, e])
            rw [ht, app_s_eq]
            simp only [St.f, look]
            rw [if_neg htd, look_killOL, s3, ht, app_s_eq]
            cases on with
            | none => rfl
            | some n => exact e2
          · rw [app_s ht]
            simp only [St.f, look, look_killOL]
            rw [s3, app_s ht]; rfl
        have g2 : (⟨(d, v0) :: (killOL on σ3).s, B (killOL on σ3).h⟩ : St).f.h = (app y.dst δ (⟨(d, v0) :: (killOL on σl).s, B (killOL on σl).h⟩ : St).f).h := by
          have e : (app y.dst δ (⟨(d, v0) :: (killOL on σl).s, B (killOL on σl).h⟩ : St).f).h = hlook (B (killOL on σl).h) := by
            funext n; rw [app_h, e4, e5]; simp [hlook, St.f]
          rw [e]
          refine hB _ _ (funext fun m => ?_)
          simp only [hlook_killOL, h3]
        exact congr (congrArg FSt.mk g1) g2
      rw [est]; exact hK
  obtain ⟨k, by', A, X, hx⟩ := hp.kx
  have go : ∀ (d : Nat), x.dst = some d → (x.op = .append k by' A X ∨ x.op = .appendC k by' A X) → stepA P x.dst σl (fun σ' => ∃ δ, EffG P y σ'.f δ ∧ K (app y.dst δ σ'.f)) x.op →
      ∃ δ', EffG P y σl.f δ' ∧ ∃ σ3 : St, σ3.f = app y.dst δ' σl.f ∧ stepA P x.dst σ3 (fun σ' => K σ'.f) x.op := by
    intro d hd hx hv
    rcases hx with hx | hx
    · rw [hx, hd] at hv
      simp only [stepA] at hv
      split at hv
      · rename_i on l l' hA hX
        obtain ⟨⟨hf, hsz⟩, hK⟩ := hv
        have hMM := main d hd (.loc (.t d 0) 0 (l.length + l'.length)) (fun h => (.t d 0, .arr k (l ++ l') false) :: h) on (fun h h' e => by funext m; simp only [hlook, e]) (fun h m hm => by simp only [hlook]; rw [if_neg hm]) hf hK
        obtain ⟨δ', g1, σ3, g2, g3, g4, g5, g6⟩ := hMM
        rw [hx] at g3
        refine ⟨δ', g1, σ3, g2, ?_⟩
        rw [hx, hd]
        simp only [stepA]
        rw [g3 A (by simp [opnds]), g3 X (by simp [opnds]), g4, hA, hX]
        exact ⟨⟨g5, hsz⟩, g6⟩
      · exact hv.elim
    · rw [hx, hd] at hv
      simp only [stepA] at hv
      split at hv
      · rename_i on l l' hA hX
        obtain ⟨⟨hf, hsz⟩, hK⟩ := hv
        have hMM := main d hd (.sl k (l ++ l')) (fun h => h) on (fun h h' e => e) (fun h m hm => rfl) hf hK
        obtain ⟨δ', g1, σ3, g2, g3, g4, g5, g6⟩ := hMM
        rw [hx] at g3
        refine ⟨δ', g1, σ3, g2, ?_⟩
        rw [hx, hd]
        simp only [stepA]
        rw [g3 A (by simp [opnds]), g3 X (by simp [opnds]), g4, hA, hX]
        exact ⟨⟨g5, hsz⟩, g6⟩
      · exact hv.elim
  cases hd : x.dst with
  | none => rcases hx with hx | hx <;> (rw [hx, hd] at hv; exact hv.elim)
  | some d =>
    obtain ⟨δ', g1, σ3, g2, g3⟩ := go d hd hx hv
    refine ⟨δ', g1, σ3, g2, ?_⟩
    simp only [vc, hp.gx]
    exact g3

/-- what a row's end leaves is one state -/
theorem ap_point {x : AOper} {σl : St} {K : St → Prop} (gx : x.guard = none) (kx : ∃ k b A X, x.op = .append k b A X ∨ x.op = .appendC k b A X) (hv : vc P K [x] σl) :
    ∃ r, K r ∧ ∀ K' : St → Prop, K' r → vc P K' [x] σl := by
  obtain ⟨k, b, A, X, hx⟩ := kx
  simp only [vc, gx] at hv ⊢
  cases hd : x.dst with
  | none => rcases hx with hx | hx <;> (rw [hx, hd] at hv; exact hv.elim)
  | some d =>
    rcases hx with hx | hx <;> rw [hx, hd] at hv
    all_goals
      simp only [stepA, hx] at hv ⊢
      split at hv
      · exact ⟨_, hv.2, fun K' h => ⟨hv.1, h⟩⟩
      · exact hv.elim

/-- An operation that is apart from those before it, row's ends among them, may go first. -/
theorem bringS {ops : Array Oper} {K : FSt → Prop} {y : AOper} (fy : freeO y = true) : ∀ (l1 l2 : List AOper) (σ : FSt), (∀ x, x ∈ l1 → (Pair x y ∨ PairS x y) ∧ ∃ (i : Nat) (o : Oper), ops[i]? = some o ∧ cOper P C.nt ops o = some x.bare) →
    (l1.Pairwise fun x x' => ∀ t, x'.dst = some t → x.dst ≠ some t) → Real C σ → (∀ x, x ∈ l1 → ∀ t, x.dst = some t → σ.s t = .junk) → (l1 ≠ [] → ∀ t, y.dst = some t → σ.s t = .junk) →
    vcE P K (l1 ++ y :: l2) σ → vcE P K (y :: (l1 ++ l2)) σ
  | [], l2, σ, _, _, _, _, _, hv => hv
  | x :: l1, l2, σ, hp, hd, hr, j1, j2, hv => by
    obtain ⟨hpx, i, o, ho, hc⟩ := hp x (by simp)
    have hap : apartA x y = true := by rcases hpx with h | h <;> exact h.ap
    have ax : ∀ t, y.dst = some t → x.dst ≠ some t := by
      intro t ht h
      have := hap
      simp only [apartA, h, Bool.and_eq_true, Bool.not_eq_true', beq_eq_false_iff_ne] at this
      exact this.1.2 ht
    rcases hpx with hpx | hpx
    · have fx := hpx.fx
      simp only [List.cons_append, vcE, fx, if_true] at hv
      obtain ⟨δx, h1, h2⟩ := hv
      have := bringS fy l1 l2 (app x.dst δx σ) (fun z hz => hp z (by simp [hz])) hd.tail (real_eff ho hc hr h1) (fun z hz t ht => by
        rw [app_s ((List.rel_of_pairwise_cons hd hz) t ht)]
        exact j1 z (by simp [hz]) t ht) (fun _ t ht => by
        rw [app_s (ax t ht)]
        exact j2 (by simp) t ht) h2
      simp only [vcE, fy, if_true] at this
      obtain ⟨δy, h3, h4⟩ := this
      obtain ⟨σl, a, w, S, ρ, κ, e, hok⟩ := hr
      obtain ⟨h5, h6, h7⟩ := effg_swap h1 h3 (by rw [← e]; exact hok.wf) fx fy hpx.ap (j1 x (by simp)) (j2 (by simp))
      simp only [vcE, fy, fx, if_true, List.cons_append]
      exact ⟨δy, h5, δx, h6, by rw [h7]; exact h4⟩
    · have fx := hpx.fx
      simp only [List.cons_append, vcE, fx, Bool.false_eq_true, if_false] at hv
      obtain ⟨σl, e, h2⟩ := hv
      obtain ⟨r, ⟨h3, h4⟩, h5⟩ := ap_point hpx.gx hpx.kx h2
      obtain ⟨σ0, a, w, S, ρ, κ, e0, hok⟩ := hr
      have hreal : Real C r.f := by
        obtain ⟨a', w', σ', S', ρ', κ', q1, q2⟩ := wpOp_ex (op_wp (Q := fun _ _ _ => False) ho hc (h5 (fun σ' => σ' = r) rfl) (by rw [e, ← e0]; exact hok))
        exact ⟨σ', a', w', S', ρ', κ', by rw [q1], q2⟩
      have sl : ∀ t, look σl.s t = σ.s t := fun t => congrFun (congrArg FSt.s e) t
      have := bringS fy l1 l2 r.f (fun z hz => hp z (by simp [hz])) hd.tail hreal (fun z hz t ht => by
        exact h4 t ((List.rel_of_pairwise_cons hd hz) t ht) ((sl t).trans (j1 z (by simp [hz]) t ht))) (fun _ t ht => by
        exact h4 t (ax t ht) ((sl t).trans (j2 (by simp) t ht))) h3
      simp only [vcE, fy, if_true] at this
      obtain ⟨δ', g1, σ3, g2, g3⟩ := soft_swap (K := fun f => vcE P K (l1 ++ l2) f) hpx (h5 (fun σ' => ∃ δ, EffG P y σ'.f δ ∧ vcE P K (l1 ++ l2) (app y.dst δ σ'.f)) this)
      rw [e] at g1 g2
      simp only [vcE, fy, fx, Bool.false_eq_true, if_false, if_true, List.cons_append]
      exact ⟨δ', g1, σ3, g2, vc1_keep g3⟩

def afterB (o : Oper) (k : Nat) : Bool := o.after.any fun e => Region.binds .any e && e.on == k
/-- what waits, directly or through others -/
def ancB (ops : Array Oper) : Nat → Nat → Nat → Bool
  | 0, _, _ => false
  | n + 1, k, i => match ops[i]? with
    | some o => o.after.any fun e => Region.binds .any e && (e.on == k || ancB ops n k e.on)
    | none => false
def uniqB (aops : List AOper) (k : Nat) : Bool := match (aops[k]?).bind (·.dst) with
  | some d => (List.range aops.length).all fun j => j == k || !(((aops[j]?).bind (·.dst)) == some d)
  | none => true

/-- k before i in the text, and neither waits for the other -/
def floatB (ops : Array Oper) (k i : Nat) : Bool := match ops[i]? with | some o => !afterB o k | none => false

def hardB (x y : AOper) : Bool := freeO x && !freeO y && y.guard.isNone && apartA x y && match y.op with
  | .store .. => pureA x.op
  | .append .. => match x.op with | .mv _ => true | _ => false
  | _ => false

def hardL (x y : AOper) : Bool := freeO x && !freeO y && y.guard.isNone && apartA x y && x.dst.isSome && (match y.op with
  | .append .. => true
  | _ => false) && match x.op with
  | .load .. => true
  | .fieldAddr .. => true
  | _ => false
def softB (x y : AOper) : Bool := !freeO x && freeO y && x.guard.isNone && y.guard.isNone && apartA x y && y.dst.isSome && (match x.op with
  | .append .. => true
  | _ => false) && match y.op with
  | .load g _ _ => g
  | .fieldAddr .. => true
  | _ => false
/-- the reads that must be such of a variable -/
def markB (x y : AOper) : List Nat := (if hardL x y then (match x.dst with
  | some d => [d + 1000000]
  | none => []) else []) ++ if softB x y then (match y.dst with
  | some d => [d + 1000000]
  | none => []) else []

def pairN (ops : Array Oper) (aops : List AOper) (k i : Nat) : Bool := match aops[k]?, aops[i]? with
  | some x, some y => (hardL x y || softB x y) && uniqB aops k && uniqB aops i && !ancB ops ops.size k i
  | _, _ => false

def pairB (aops : List AOper) (k i : Nat) : Bool := match aops[k]?, aops[i]? with
  | some x, some y => ((freeO x && freeO y && apartA x y) || hardB x y) && uniqB aops k && uniqB aops i
  | _, _ => false

def backB (ops : Array Oper) : Bool := (List.range ops.size).all fun i => match ops[i]? with
  | some o => o.after.all fun e => !Region.binds .any e || decide (e.on < i)
  | none => true

def floatsL (n : Nat) (ops : Array Oper) : List (Nat × Nat) := (List.range n).flatMap fun i => (List.range i).filterMap fun k => if floatB ops k i then some (k, i) else none

def openB (ops : Array Oper) (aops : List AOper) : Bool := backB ops && (floatsL ops.size ops).all fun p => (pairB aops p.1 p.2 || pairN ops aops p.1 p.2) || ancB ops ops.size p.1 p.2

def flOf (ops : Array Oper) (aops : List AOper) : List Nat := (((floatsL ops.size ops).filter fun p => pairB aops p.1 p.2 || pairN ops aops p.1 p.2).flatMap fun p => ((aops[p.1]?).bind (·.dst)).toList ++ ((aops[p.2]?).bind (·.dst)).toList ++ (if pairN ops aops p.1 p.2 then (match aops[p.1]?, aops[p.2]? with
  | some x, some y => markB x y
  | _, _ => []) else [])).eraseDups

/-- calls that may write, though the region's order is open: they wait for all else, or all else waits for them -/
def setB (ops : Array Oper) (i : Nat) : Bool := (floatsL ops.size ops).all fun p => !(p.1 == i || p.2 == i) || ancB ops ops.size p.1 p.2
def writes (P : Program) : AOp → Bool
  | .call (.func g) _ _ => match P.funcs[g]? with
    | some fn => fn.name == "loop.example/g01012/spec.l15Do"
    | none => false
  | _ => false
def setL (P : Program) (ops : Array Oper) (aops : List AOper) : List Nat := (List.range aops.length).filterMap fun i => match aops[i]? with
  | some o => match o.dst with
    | some d => if writes P o.op && setB ops i then some (d + 2000000) else none
    | none => none
  | none => none
def drawnG (P : Program) (nt : Nat) (ops : Array Oper) : Option (List Nat) := match cOps P nt ops ops.toList with
  | some l => if Nat.ble nt 1000000 && openB ops l then some (flOf ops l ++ setL P ops l) else none
  | none => none
end Go.Vs
