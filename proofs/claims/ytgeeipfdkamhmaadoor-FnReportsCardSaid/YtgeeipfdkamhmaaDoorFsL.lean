/- States as lists, one operation at a time. -/
import Derived.Test.YtgeeipfdkamhmaaDoorFsK
namespace Go.Vs
variable {P : Program} {C : Ctx} {a : Act} {w : World} {S : Nat → Prop} {ρ : Name → Option Nat} {κ : Name → Nat}

structure St where
  s : List (Nat × AV)
  h : List (Name × Blk)

def look : List (Nat × AV) → Nat → AV
  | [], _ => .junk
  | (i, x) :: r, t => if t = i then x else look r t

def hlook : List (Name × Blk) → Name → Option Blk
  | [], _ => none
  | (i, x) :: r, t => if t = i then some x else hlook r t

def St.f (σ : St) : FSt := ⟨look σ.s, hlook σ.h⟩

def put (d : Option Nat) (x : AV) (s : List (Nat × AV)) : List (Nat × AV) :=
  match d with
  | some d => (d, x) :: s
  | none => s

theorem look_put (d : Option Nat) (x : AV) (s : List (Nat × AV)) : look (put d x s) = upd (look s) d x := by
  cases d <;> rfl

def hset (n : Name) (b : Blk) : List (Name × Blk) → List (Name × Blk)
  | [] => [(n, b)]
  | (i, x) :: r => if n = i then (i, b) :: r else (i, x) :: hset n b r

theorem hlook_hset (n : Name) (b : Blk) : ∀ l, hlook (hset n b l) = hput (hlook l) n (some b)
  | [] => by funext m; simp only [hset, hlook, hput]
  | (i, x) :: r => by
    funext m
    simp only [hset, hput]
    split
    · subst_vars
      simp only [hlook]
      split <;> simp_all
    · rename_i hne
      simp only [hlook]
      by_cases h1 : m = i
      · subst h1; simp [Ne.symm hne]
      · simp only [h1, if_false, hlook_hset n b r, hput]

def Name.isT : Name → Bool
  | .t _ _ => true
  | .b _ => false

def freshL (n : Name) (σ : St) : Bool := n.isT && σ.s.all (fun p => !p.2.has n) && σ.h.all (fun p => !decide (p.1 = n) && !p.2.has n)

theorem look_mem : ∀ (s : List (Nat × AV)) (t : Nat), look s t = .junk ∨ ∃ p, p ∈ s ∧ p.2 = look s t
  | [], _ => .inl rfl
  | (i, x) :: r, t => by
    simp only [look]
    split
    · exact .inr ⟨(i, x), by simp, rfl⟩
    · rcases look_mem r t with h | ⟨p, hp, h⟩
      · exact .inl h
      · exact .inr ⟨p, List.mem_cons_of_mem _ hp, h⟩

theorem hlook_mem : ∀ (l : List (Name × Blk)) (n : Name) (b : Blk), hlook l n = some b → (n, b) ∈ l
  | [], _, _, h => by simp [hlook] at h
  | (i, x) :: r, n, b, h => by
    simp only [hlook] at h
    split at h
    · obtain rfl := Option.some.inj h; subst_vars; simp
    · exact List.mem_cons_of_mem _ (hlook_mem r n b h)

theorem hlook_none {l : List (Name × Blk)} {n : Name} (h : ∀ p, p ∈ l → p.1 ≠ n) : hlook l n = none := by
  cases hl : hlook l n with
  | none => rfl
  | some b => exact absurd rfl (h _ (hlook_mem l n b hl))

theorem freshL_spec {n : Name} {σ : St} (h : freshL n σ = true) : FreshF n σ.f := by
  simp only [freshL, Bool.and_eq_true, List.all_eq_true, Bool.not_eq_true', decide_eq_false_iff_not] at h
  obtain ⟨⟨h0, h1⟩, h2⟩ := h
  have hb : ∀ j, n ≠ .b j := by
    rintro j rfl
    cases h0
  have h := And.intro h1 h2
  clear h1 h2
  refine ⟨⟨hlook_none fun p hp => (h.2 p hp).1, hb⟩, fun t => ?_, fun m b hb => (h.2 _ (hlook_mem _ _ _ hb)).2⟩
  rcases look_mem σ.s t with e | ⟨p, hp, e⟩
  · simp only [St.f, e, AV.has]
  · simp only [St.f, ← e]; exact h.1 p hp

def killL (n : Name) (σ : St) : St := ⟨σ.s.map fun p => (p.1, scr n p.2), (σ.h.filter fun p => !decide (p.1 = n)).map fun p => (p.1, scrB n p.2)⟩

theorem look_map (f : AV → AV) (hf : f .junk = .junk) : ∀ (s : List (Nat × AV)) (t : Nat), look (s.map fun p => (p.1, f p.2)) t = f (look s t)
  | [], _ => by simp [look, hf]
  | (i, x) :: r, t => by
    simp only [List.map_cons, look]
    split
    · rfl
    · exact look_map f hf r t

theorem hlook_kill (n : Name) : ∀ (l : List (Name × Blk)) (m : Name), hlook ((l.filter fun p => !decide (p.1 = n)).map fun p => (p.1, scrB n p.2)) m = if m = n then none else (hlook l m).map (scrB n)
  | [], m => by simp [hlook]
  | (i, x) :: r, m => by
    have ih := hlook_kill n r m
    by_cases hi : i = n
    · subst hi
      simp only [List.filter_cons, decide_true, Bool.not_true, Bool.false_eq_true, if_false, hlook, ih]
      by_cases hm : m = i
      · simp [hm]
      · simp [hm]
    · simp only [List.filter_cons, hi, decide_false, Bool.not_false, if_true, List.map_cons, hlook, ih]
      by_cases hm : m = i
      · subst hm; simp [hi]
      · simp [hm]

theorem killL_f (n : Name) (σ : St) : (killL n σ).f = killF n σ.f := by
  simp only [St.f, killL, killF, FSt.mk.injEq]
  exact ⟨funext fun t => look_map (scr n) (by simp [scr, AV.has]) _ t, funext fun m => hlook_kill n _ m⟩

def killOL : Option Name → St → St
  | some n, σ => killL n σ
  | none, σ => σ

theorem killOL_f (on : Option Name) (σ : St) : (killOL on σ).f = killO on σ.f := by
  cases on
  · rfl
  · exact killL_f _ _

/-! ## a call on lists -/
def newsL (g : Blk → Blk) (d nB : Nat) : Nat → List (Option Blk) → List (Name × Blk)
  | _, [] => []
  | i, none :: r => newsL g d nB (i + 1) r
  | i, some b :: r => if nB ≤ i then (.t d i, g b) :: newsL g d nB (i + 1) r else newsL g d nB (i + 1) r

def aftF (B : List Name) (d : Nat) (hout : List (Option Blk)) (fz : Bool) (L : List Name) (m : Name) (b : Blk) : Option Blk :=
  match idxN B m with
  | some j => (hout.getD j none).map (rnB (phi B d hout.length))
  | none => some (if fz = true ∧ m ∈ L then frz b else b)

def oldsL (f : Name → Blk → Option Blk) : List (Name × Blk) → List (Name × Blk)
  | [] => []
  | (m, b) :: r => match f m b with
    | some b' => (m, b') :: oldsL f r
    | none => oldsL f r

def aftL (h : List (Name × Blk)) (B : List Name) (d : Nat) (hout : List (Option Blk)) (fz : Bool) (L : List Name) : List (Name × Blk) :=
  newsL (rnB (phi B d hout.length)) d B.length 0 hout ++ oldsL (aftF B d hout fz L) h

theorem hlook_append (l l' : List (Name × Blk)) (m : Name) : hlook (l ++ l') m = (hlook l m).or (hlook l' m) := by
  induction l with
  | nil => simp [hlook]
  | cons p r ih =>
    simp only [List.cons_append, hlook]
    split
    · simp
    · exact ih

def newsAt (g : Blk → Blk) (d nB i : Nat) (l : List (Option Blk)) : Name → Option Blk
  | .t d' j => if d' = d ∧ nB ≤ j ∧ i ≤ j ∧ j < i + l.length then (l.getD (j - i) none).map g else none
  | .b _ => none

theorem hlook_news (g : Blk → Blk) (d nB : Nat) : ∀ (l : List (Option Blk)) (i : Nat) (m : Name), hlook (newsL g d nB i l) m = newsAt g d nB i l m
  | [], i, m => by
    cases m with
    | b => rfl
    | t d' j =>
      have : ¬ (d' = d ∧ nB ≤ j ∧ i ≤ j ∧ j < i + ([] : List (Option Blk)).length) := by
        rintro ⟨_, _, h1, h2⟩; simp at h2; omega
      simp only [newsL, hlook, newsAt, this, if_false]
  | o :: r, i, m => by
    have ih := hlook_news g d nB r (i + 1) m
    have skip : (∀ b, o = some b → ¬ nB ≤ i) → hlook (newsL g d nB (i + 1) r) m = newsAt g d nB i (o :: r) m := by
      intro ho
      rw [ih]
      cases m with
      | b => rfl
      | t d' j =>
        simp only [newsAt, List.length_cons]
        by_cases hj : j = i
        · subst hj
          rw [if_neg (by omega)]
          cases o with
          | none => simp
          | some b => rw [if_neg (by intro h; exact ho b rfl h.2.1)]
        · by_cases hc : d' = d ∧ nB ≤ j ∧ i + 1 ≤ j ∧ j < i + 1 + r.length
          · rw [if_pos hc, if_pos (by omega)]
            have : j - i = (j - (i + 1)) + 1 := by omega
            rw [this]; rfl
          · rw [if_neg hc, if_neg (by omega)]
    cases o with
    | none => exact skip (by simp)
    | some b =>
      simp only [newsL]
      split
      · rename_i hle
        simp only [hlook]
        split
        · subst_vars
          simp [newsAt, hle]
        · rename_i hne
          rw [ih]
          cases m with
          | b => rfl
          | t d' j =>
            simp only [newsAt, List.length_cons]
            by_cases hj : d' = d ∧ j = i
            · obtain ⟨rfl, rfl⟩ := hj; exact absurd rfl hne
            · by_cases hc : d' = d ∧ nB ≤ j ∧ i + 1 ≤ j ∧ j < i + 1 + r.length
              · rw [if_pos hc, if_pos (by omega)]
                have : j - i = (j - (i + 1)) + 1 := by omega
                rw [this]; rfl
              · rw [if_neg hc, if_neg (by omega)]
      · rename_i hle
        exact skip (fun _ _ => hle)

theorem hlook_olds (f : Name → Blk → Option Blk) (hf : ∀ m b b', f m b = none → f m b' = none) (m : Name) : ∀ h : List (Name × Blk), hlook (oldsL f h) m = (hlook h m).bind (f m)
  | [] => rfl
  | (i, x) :: r => by
    have ih := hlook_olds f hf m r
    simp only [oldsL, hlook]
    by_cases hm : m = i
    · subst hm
      cases hfx : f m x with
      | none =>
        simp only [ih, if_true, Option.bind_some, hfx]
        cases hr : hlook r m with
        | none => rfl
        | some b => exact hf m x b hfx
      | some b => simp [hlook, hfx]
    · cases hfx : f i x with
      | none => simp [ih, hm]
      | some b => simp [hlook, hm, ih]

theorem aftL_f {σ : St} {B : List Name} {d : Nat} {hout : List (Option Blk)} {fz : Bool} {L : List Name} (hB : ∀ m, m ∈ B → (hlook σ.h m).isSome) (hnew : ∀ j, B.length ≤ j → j < hout.length → hlook σ.h (.t d j) = none) :
    hlook (aftL σ.h B d hout fz L) = aft (hlook σ.h) B d hout fz L := by
  funext m
  unfold aftL
  rw [hlook_append, hlook_olds _ (fun m b b' h => by
    unfold aftF at *
    cases hi : idxN B m with
    | none => rw [hi] at h; cases h
    | some j => rw [hi] at h; exact h), hlook_news]
  unfold aft
  have hi : ∀ d' j, d' = d → B.length ≤ j → j < hout.length → idxN B (.t d' j) = none := by
    rintro d' j rfl h1 h2
    cases hi : idxN B (.t d' j) with
    | none => rfl
    | some i =>
      have := hB _ (List.mem_of_getElem? (idxN_some hi))
      rw [hnew j h1 h2] at this; cases this
  have rest : ∀ m, (hlook σ.h m).bind (aftF B d hout fz L m) = match idxN B m with
      | some j => (hout.getD j none).map (rnB (phi B d hout.length))
      | none => if fz = true ∧ m ∈ L then (hlook σ.h m).map frz else hlook σ.h m := by
    intro m
    cases hx : idxN B m with
    | none =>
      simp only
      cases hlook σ.h m with
      | none => simp
      | some b =>
        simp only [Option.bind_some, aftF, hx]
        split <;> rfl
    | some j =>
      have := hB _ (List.mem_of_getElem? (idxN_some hx))
      obtain ⟨b, hb⟩ := Option.isSome_iff_exists.1 this
      simp only [hb, Option.bind_some, aftF, hx]
  rw [rest]
  cases m with
  | b i =>
    simp only [newsAt, Option.none_or]
    cases idxN B (.b i) <;> rfl
  | t d' j =>
    simp only [newsAt, Nat.zero_le, true_and, Nat.zero_add, Nat.sub_zero]
    by_cases hc : d' = d ∧ B.length ≤ j ∧ j < hout.length
    · obtain ⟨rfl, h1, h2⟩ := hc
      rw [hi d' j rfl h1 h2]
      simp only [h1, h2, and_self, if_true, hnew j h1 h2]
      cases (hout.getD j none).map (rnB (phi B d' hout.length)) <;> simp
    · simp only [hc, if_false, Option.none_or]
      cases idxN B (.t d' j) <;> rfl
end Go.Vs
