/- Bytes to a string. -/
import Derived.Test.YtpdmjalhahblmaaDoorVsK
import Derived.Test.YtpdmjalhahblmaaDoorVsG
import Derived.Laws.StructEq
import Derived.Test.YtpdmjalhahblmaaDoorVsI
import Derived.Laws.BytesString
import Derived.Laws.StandIn
namespace Go.Vs
set_option linter.unusedSectionVars false
variable [Envs]
variable {P : Program} {C : Ctx} {a : Act} {w : World} {S : Nat → Prop} {ρ : Name → Option Nat} {κ : Name → Nat}

structure St where
  s : List (Nat × AV)
  h : List (Name × Blk)

def look : List (Nat × AV) → Nat → AV
  | [], _ => .junk
  | (i, x) :: r, t => if t = i then x else look r t

def hlook : List (Name × Blk) → Name → Option Blk
  | [], _ => none
  | (i, x) :: r, t => if t = i then some x else hlook r t

def St.f (σ : St) : FSt := ⟨look σ.s, hlook σ.h⟩

def put (d : Option Nat) (x : AV) (s : List (Nat × AV)) : List (Nat × AV) :=
  match d with
  | some d => (d, x) :: s
  | none => s

theorem look_put (d : Option Nat) (x : AV) (s : List (Nat × AV)) : look (put d x s) = upd (look s) d x := by
  cases d <;> rfl

def hset (n : Name) (b : Blk) : List (Name × Blk) → List (Name × Blk)
  | [] => [(n, b)]
  | (i, x) :: r => if n = i then (i, b) :: r else (i, x) :: hset n b r

theorem hlook_hset (n : Name) (b : Blk) : ∀ l, hlook (hset n b l) = hput (hlook l) n (some b)
  | [] => by funext m; simp only [hset, hlook, hput]
  | (i, x) :: r => by
    funext m
    simp only [hset, hput]
    split
    · subst_vars
      simp only [hlook]
      split <;> simp_all
    · rename_i hne
      simp only [hlook]
      by_cases h1 : m = i
      · subst h1; simp [Ne.symm hne]
      · simp only [h1, if_false, hlook_hset n b r, hput]

def Name.isT : Name → Bool
  | .t _ _ => true
  | .b _ => false

def freshL (n : Name) (σ : St) : Bool := n.isT && σ.s.all (fun p => !p.2.has n) && σ.h.all (fun p => !decide (p.1 = n) && !p.2.has n)

theorem look_mem : ∀ (s : List (Nat × AV)) (t : Nat), look s t = .junk ∨ ∃ p, p ∈ s ∧ p.2 = look s t
  | [], _ => .inl rfl
  | (i, x) :: r, t => by
    simp only [look]
    split
    · exact .inr ⟨(i, x), by simp, rfl⟩
    · rcases look_mem r t with h | ⟨p, hp, h⟩
      · exact .inl h
      · exact .inr ⟨p, List.mem_cons_of_mem _ hp, h⟩

theorem hlook_mem : ∀ (l : List (Name × Blk)) (n : Name) (b : Blk), hlook l n = some b → (n, b) ∈ l
  | [], _, _, h => by simp [hlook] at h
  | (i, x) :: r, n, b, h => by
    simp only [hlook] at h
    split at h
    · obtain rfl := Option.some.inj h; subst_vars; simp
    · exact List.mem_cons_of_mem _ (hlook_mem r n b h)

theorem hlook_none {l : List (Name × Blk)} {n : Name} (h : ∀ p, p ∈ l → p.1 ≠ n) : hlook l n = none := by
  cases hl : hlook l n with
  | none => rfl
  | some b => exact absurd rfl (h _ (hlook_mem l n b hl))

theorem freshL_spec {n : Name} {σ : St} (h : freshL n σ = true) : FreshF n σ.f := by
  simp only [freshL, Bool.and_eq_true, List.all_eq_true, Bool.not_eq_true', decide_eq_false_iff_not] at h
  obtain ⟨⟨h0, h1⟩, h2⟩ := h
  have hb : ∀ j, n ≠ .b j := by
    rintro j rfl
    cases h0
  have h := And.intro h1 h2
  clear h1 h2
  refine ⟨⟨hlook_none fun p hp => (h.2 p hp).1, hb⟩, fun t => ?_, fun m b hb => (h.2 _ (hlook_mem _ _ _ hb)).2⟩
  rcases look_mem σ.s t with e | ⟨p, hp, e⟩
  · simp only [St.f, e, AV.has]
  · simp only [St.f, ← e]; exact h.1 p hp

def killL (n : Name) (σ : St) : St := ⟨σ.s.map fun p => (p.1, scr n p.2), (σ.h.filter fun p => !decide (p.1 = n)).map fun p => (p.1, scrB n p.2)⟩

theorem look_map (f : AV → AV) (hf : f .junk = .junk) : ∀ (s : List (Nat × AV)) (t : Nat), look (s.map fun p => (p.1, f p.2)) t = f (look s t)
  | [], _ => by simp [look, hf]
  | (i, x) :: r, t => by
    simp only [List.map_cons, look]
    split
    · rfl
    · exact look_map f hf r t

theorem hlook_kill (n : Name) : ∀ (l : List (Name × Blk)) (m : Name), hlook ((l.filter fun p => !decide (p.1 = n)).map fun p => (p.1, scrB n p.2)) m = if m = n then none else (hlook l m).map (scrB n)
  | [], m => by simp [hlook]
  | (i, x) :: r, m => by
    have ih := hlook_kill n r m
    by_cases hi : i = n
    · subst hi
      simp only [List.filter_cons, decide_true, Bool.not_true, Bool.false_eq_true, if_false, hlook, ih]
      by_cases hm : m = i
      · simp [hm]
      · simp [hm]
    · simp only [List.filter_cons, hi, decide_false, Bool.not_false, if_true, List.map_cons, hlook, ih]
      by_cases hm : m = i
      · subst hm; simp [hi]
      · simp [hm]

theorem killL_f (n : Name) (σ : St) : (killL n σ).f = killF n σ.f := by
  simp only [St.f, killL, killF, FSt.mk.injEq]
  exact ⟨funext fun t => look_map (scr n) (by simp [scr, AV.has]) _ t, funext fun m => hlook_kill n _ m⟩

def killOL : Option Name → St → St
  | some n, σ => killL n σ
  | none, σ => σ

theorem killOL_f (on : Option Name) (σ : St) : (killOL on σ).f = killO on σ.f := by
  cases on
  · rfl
  · exact killL_f _ _

/-! ## a call on lists -/
def newsL (g : Blk → Blk) (d nB : Nat) : Nat → List (Option Blk) → List (Name × Blk)
  | _, [] => []
  | i, none :: r => newsL g d nB (i + 1) r
  | i, some b :: r => if nB ≤ i then (.t d i, g b) :: newsL g d nB (i + 1) r else newsL g d nB (i + 1) r

def aftF (B : List Name) (d : Nat) (hout : List (Option Blk)) (fz : Bool) (L : List Name) (m : Name) (b : Blk) : Option Blk :=
  match idxN B m with
  | some j => (hout.getD j none).map (rnB (phi B d hout.length))
  | none => some (if fz = true ∧ m ∈ L then frz b else b)

def oldsL (f : Name → Blk → Option Blk) : List (Name × Blk) → List (Name × Blk)
  | [] => []
  | (m, b) :: r => match f m b with
    | some b' => (m, b') :: oldsL f r
    | none => oldsL f r

def aftL (h : List (Name × Blk)) (B : List Name) (d : Nat) (hout : List (Option Blk)) (fz : Bool) (L : List Name) : List (Name × Blk) :=
  newsL (rnB (phi B d hout.length)) d B.length 0 hout ++ oldsL (aftF B d hout fz L) h

theorem hlook_append (l l' : List (Name × Blk)) (m : Name) : hlook (l ++ l') m = (hlook l m).or (hlook l' m) := by
  induction l with
  | nil => simp [hlook]
  | cons p r ih =>
    simp only [List.cons_append, hlook]
    split
    · simp
    · exact ih

def newsAt (g : Blk → Blk) (d nB i : Nat) (l : List (Option Blk)) : Name → Option Blk
  | .t d' j => if d' = d ∧ nB ≤ j ∧ i ≤ j ∧ j < i + l.length then (l.getD (j - i) none).map g else none
  | .b _ => none

theorem hlook_news (g : Blk → Blk) (d nB : Nat) : ∀ (l : List (Option Blk)) (i : Nat) (m : Name), hlook (newsL g d nB i l) m = newsAt g d nB i l m
  | [], i, m => by
    cases m with
    | b => rfl
    | t d' j =>
      have : ¬ (d' = d ∧ nB ≤ j ∧ i ≤ j ∧ j < i + ([] : List (Option Blk)).length) := by
        rintro ⟨_, _, h1, h2⟩; simp at h2; omega
      simp only [newsL, hlook, newsAt, this, if_false]
  | o :: r, i, m => by
    have ih := hlook_news g d nB r (i + 1) m
    have skip : (∀ b, o = some b → ¬ nB ≤ i) → hlook (newsL g d nB (i + 1) r) m = newsAt g d nB i (o :: r) m := by
      intro ho
      rw [ih]
      cases m with
      | b => rfl
      | t d' j =>
        simp only [newsAt, List.length_cons]
        by_cases hj : j = i
        · subst hj
          rw [if_neg (by omega)]
          cases o with
          | none => simp
          | some b => rw [if_neg (by intro h; exact ho b rfl h.2.1)]
        · by_cases hc : d' = d ∧ nB ≤ j ∧ i + 1 ≤ j ∧ j < i + 1 + r.length
          · rw [if_pos hc, if_pos (by omega)]
            have : j - i = (j - (i + 1)) + 1 := by omega
            rw [this]; rfl
          · rw [if_neg hc, if_neg (by omega)]
    cases o with
    | none => exact skip (by simp)
    | some b =>
      simp only [newsL]
      split
      · rename_i hle
        simp only [hlook]
        split
        · subst_vars
          simp [newsAt, hle]
        · rename_i hne
          rw [ih]
          cases m with
          | b => rfl
          | t d' j =>
            simp only [newsAt, List.length_cons]
            by_cases hj : d' = d ∧ j = i
            · obtain ⟨rfl, rfl⟩ := hj; exact absurd rfl hne
            · by_cases hc : d' = d ∧ nB ≤ j ∧ i + 1 ≤ j ∧ j < i + 1 + r.length
              · rw [if_pos hc, if_pos (by omega)]
                have : j - i = (j - (i + 1)) + 1 := by omega
                rw [this]; rfl
              · rw [if_neg hc, if_neg (by omega)]
      · rename_i hle
        exact skip (fun _ _ => hle)

theorem hlook_olds (f : Name → Blk → Option Blk) (hf : ∀ m b b', f m b = none → f m b' = none) (m : Name) : ∀ h : List (Name × Blk), hlook (oldsL f h) m = (hlook h m).bind (f m)
  | [] => rfl
  | (i, x) :: r => by
    have ih := hlook_olds f hf m r
    simp only [oldsL, hlook]
    by_cases hm : m = i
    · subst hm
      cases hfx : f m x with
      | none =>
        simp only [ih, if_true, Option.bind_some, hfx]
        cases hr : hlook r m with
        | none => rfl
        | some b => exact hf m x b hfx
      | some b => simp [hlook, hfx]
    · cases hfx : f i x with
      | none => simp [ih, hm]
      | some b => simp [hlook, hm, ih]

theorem aftL_f {σ : St} {B : List Name} {d : Nat} {hout : List (Option Blk)} {fz : Bool} {L : List Name} (hB : ∀ m, m ∈ B → (hlook σ.h m).isSome) (hnew : ∀ j, B.length ≤ j → j < hout.length → hlook σ.h (.t d j) = none) :
    hlook (aftL σ.h B d hout fz L) = aft (hlook σ.h) B d hout fz L := by
  funext m
  unfold aftL
  rw [hlook_append, hlook_olds _ (fun m b b' h => by
    unfold aftF at *
    cases hi : idxN B m with
    | none => rw [hi] at h; cases h
    | some j => rw [hi] at h; exact h), hlook_news]
  unfold aft
  have hi : ∀ d' j, d' = d → B.length ≤ j → j < hout.length → idxN B (.t d' j) = none := by
    rintro d' j rfl h1 h2
    cases hi : idxN B (.t d' j) with
    | none => rfl
    | some i =>
      have := hB _ (List.mem_of_getElem? (idxN_some hi))
      rw [hnew j h1 h2] at this; cases this
  have rest : ∀ m, (hlook σ.h m).bind (aftF B d hout fz L m) = match idxN B m with
      | some j => (hout.getD j none).map (rnB (phi B d hout.length))
      | none => if fz = true ∧ m ∈ L then (hlook σ.h m).map frz else hlook σ.h m := by
    intro m
    cases hx : idxN B m with
    | none =>
      simp only
      cases hlook σ.h m with
      | none => simp
      | some b =>
        simp only [Option.bind_some, aftF, hx]
        split <;> rfl
    | some j =>
      have := hB _ (List.mem_of_getElem? (idxN_some hx))
      obtain ⟨b, hb⟩ := Option.isSome_iff_exists.1 this
      simp only [hb, Option.bind_some, aftF, hx]
  rw [rest]
  cases m with
  | b i =>
    simp only [newsAt, Option.none_or]
    cases idxN B (.b i) <;> rfl
  | t d' j =>
    simp only [newsAt, Nat.zero_le, true_and, Nat.zero_add, Nat.sub_zero]
    by_cases hc : d' = d ∧ B.length ≤ j ∧ j < hout.length
    · obtain ⟨rfl, h1, h2⟩ := hc
      rw [hi d' j rfl h1 h2]
      simp only [h1, h2, and_self, if_true, hnew j h1 h2]
      cases (hout.getD j none).map (rnB (phi B d' hout.length)) <;> simp
    · simp only [hc, if_false, Option.none_or]
      cases idxN B (.t d' j) <;> rfl
end Go.Vs

namespace Go.Vs
set_option linter.unusedSectionVars false
variable [Envs]

def eqVs : List Nat → List Value → List Value → Option Bool
  | [], [], [] => some true
  | k :: ks, x :: r, y :: s => match eqV k x y, eqVs ks r s with
    | some a, some b => some (a && b)
    | _, _ => none
  | _, _, _ => none

mutual
/-- the cells of a type that is compared cell by cell -/
def eqT (P : Program) : Nat → TypeId → Option (List Nat)
  | 0, _ => none
  | d + 1, t => match P.underlying t with
    | some .bool => some [1]
    | some (.int _) => some [0]
    | some .string => some [2]
    | some (.struct fs) => if P.stoodInHeld t then none else match eqF P d fs.toList 0 with
      | some l => if szOf P t = some l.length then some l else none
      | none => none
    | _ => none
def eqF (P : Program) : Nat → List Field → Nat → Option (List Nat)
  | 0, _, _ => none
  | _ + 1, [], _ => some []
  | d + 1, f :: fs, o => if f.name != "_" && f.offset == o then match eqT P d f.type with
      | some m => if m.length = 0 then none else match eqF P d fs (o + m.length) with
        | some l => some (m ++ l)
        | none => none
      | none => none
    else none
end

theorem eqVs_len : ∀ {ks : List Nat} {l m : List Value} {b : Bool}, eqVs ks l m = some b → l.length = ks.length ∧ m.length = ks.length
  | [], [], [], _, _ => ⟨rfl, rfl⟩
  | k :: ks, x :: r, y :: s, b, h => by
    simp only [eqVs] at h
    split at h
    · rename_i a b' h1 h2
      obtain ⟨g1, g2⟩ := eqVs_len h2
      simp [g1, g2]
    · cases h
  | [], [], _ :: _, _, h => by simp [eqVs] at h
  | [], _ :: _, _, _, h => by simp [eqVs] at h
  | _ :: _, [], _, _, h => by simp [eqVs] at h
  | _ :: _, _ :: _, [], _, h => by simp [eqVs] at h

theorem eqVs_append : ∀ {k1 k2 : List Nat} {l m : List Value} {b : Bool}, eqVs (k1 ++ k2) l m = some b → ∃ b1 b2, eqVs k1 (l.take k1.length) (m.take k1.length) = some b1 ∧ eqVs k2 (l.drop k1.length) (m.drop k1.length) = some b2 ∧ b = (b1 && b2)
  | [], k2, l, m, b, h => ⟨true, b, by simp [eqVs], by simpa using h, by simp⟩
  | k :: k1, k2, l, m, b, h => by
    cases l with
    | nil => simp [eqVs] at h
    | cons x l => cases m with
      | nil => simp [eqVs] at h
      | cons y m =>
        simp only [List.cons_append, eqVs] at h
        split at h
        · rename_i a b' h1 h2
          obtain ⟨b1, b2, g1, g2, rfl⟩ := eqVs_append h2
          obtain rfl := Option.some.inj h
          exact ⟨a && b1, b2, by simp only [List.length_cons, List.take_succ_cons, eqVs, h1, g1], by simpa using g2, by rw [Bool.and_assoc]⟩
        · cases h

def wrapV (g : Bool) (xs : List Value) : Value := if g then .agg xs.toArray else xs.headD undef

theorem run_part {P : Program} {t : TypeId} {xs : Array Value} {o n : Nat} {g : Bool} {w : World} (hg : isAggT P t = some g) (hn : g = true → szOf P t = some n) (h1 : g = false → n = 1) (ho : o + n ≤ xs.size) :
    (part t xs o).run P w = .ok (wrapV g ((xs.toList.drop o).take n)) w := by
  cases g with
  | true =>
    simp only [part, Sem.run_bind, run_isAgg hg, Result.andThen_ok, if_true, run_sizeOf (hn rfl), Sem.run_pure, wrapV]
    congr 2
    apply Array.ext'
    simp
  | false =>
    obtain rfl := h1 rfl
    have : o < xs.size := by omega
    simp only [part, Sem.run_bind, run_isAgg hg, Result.andThen_ok, Bool.false_eq_true, if_false, wrapV]
    rw [Array.getElem?_eq_getElem this]
    simp only [Sem.run_pure]
    have e : (xs.toList.drop o).take 1 = [xs[o]] := by
      rw [List.drop_eq_getElem_cons (by simpa using this)]
      simp
    rw [e]; rfl

theorem eqT_agg {P : Program} : ∀ {d : Nat} {t : TypeId} {l : List Nat}, eqT P d t = some l → ∃ g, isAggT P t = some g ∧ (g = true → szOf P t = some l.length) ∧ (g = false → l.length = 1)
  | 0, _, _, h => by simp [eqT] at h
  | d + 1, t, l, h => by
    simp only [eqT] at h
    split at h
    · rename_i hu; obtain rfl := Option.some.inj h; exact ⟨false, by simp [isAggT, hu], by simp, by simp⟩
    · rename_i hu; obtain rfl := Option.some.inj h; exact ⟨false, by simp [isAggT, hu], by simp, by simp⟩
    · rename_i hu; obtain rfl := Option.some.inj h; exact ⟨false, by simp [isAggT, hu], by simp, by simp⟩
    · rename_i fs hu
      split at h
      · cases h
      · split at h
        · rename_i l' hl
          split at h
          · obtain rfl := Option.some.inj h
            exact ⟨true, by simp [isAggT, hu], fun _ => by assumption, by simp⟩
          · cases h
        · cases h
    · cases h

theorem eq_run {P : Program} (w : World) : ∀ (d : Nat), (∀ (t : TypeId) (l : List Nat), eqT P d t = some l → ∀ (g : Bool), isAggT P t = some g → ∀ (xs ys : List Value) (b : Bool) (k : Nat), eqVs l xs ys = some b →
      (Op.equalIn (d + k) t (wrapV g xs) (wrapV g ys)).run P w = .ok b w) ∧
    ∀ (fs : List Field) (o : Nat) (l : List Nat), eqF P d fs o = some l → ∀ (xs ys : Array Value) (b : Bool) (k : Nat), eqVs l (xs.toList.drop o) (ys.toList.drop o) = some b → (Op.eqFields (d + k) xs ys fs).run P w = .ok b w := by
  intro d
  induction d with
  | zero => exact ⟨fun t l h => by simp [eqT] at h, fun fs o l h => by simp [eqF] at h⟩
  | succ d ih =>
    obtain ⟨iht, ihf⟩ := ih
    refine ⟨fun t l h g hg xs ys b k hv => ?_, fun fs o l h xs ys b k hv => ?_⟩
    · simp only [eqT] at h
      have leaf : ∀ (c : Nat), l = [c] → g = false → ∃ x y, wrapV g xs = x ∧ wrapV g ys = y ∧ eqV c x y = some b := by
        rintro c rfl rfl
        match xs, ys, hv with
        | [], _, hv => simp [eqVs] at hv
        | _ :: _, [], hv => simp [eqVs] at hv
        | x :: r, y :: s, hv =>
          simp only [eqVs] at hv
          split at hv
          · rename_i a b' h1 h2
            have := eqVs_len h2
            have e1 : r = [] := List.length_eq_zero_iff.1 this.1
            have e2 : s = [] := List.length_eq_zero_iff.1 this.2
            subst e1; subst e2
            simp only [eqVs, Option.some.injEq] at h2
            subst h2
            simp only [Bool.and_true] at hv
            exact ⟨x, y, rfl, rfl, by rw [h1]; exact hv⟩
          · cases hv
      have e1 : d + 1 + k = (d + k) + 1 := by omega
      rw [e1]
      split at h
      · rename_i hu
        simp only [isAggT, hu, Option.some.injEq] at hg
        obtain ⟨x, y, hx, hy, hxy⟩ := leaf 1 (Option.some.inj h).symm hg.symm
        rw [hx, hy]
        unfold eqV at hxy
        split at hxy <;> first | (exact run_equalIn_bool' w _ t _ _ hu ▸ (by rw [Option.some.inj hxy])) | simp_all
      · rename_i kk hu
        simp only [isAggT, hu, Option.some.injEq] at hg
        obtain ⟨x, y, hx, hy, hxy⟩ := leaf 0 (Option.some.inj h).symm hg.symm
        rw [hx, hy]
        cases x <;> simp only [eqV] at hxy <;> try (cases hxy; done)
        cases y <;> simp only at hxy <;> try (cases hxy; done)
        split at hxy
        · obtain rfl := Option.some.inj hxy
          subst_vars
          exact run_equalIn_int w _ t _ _ _ _ hu
        · cases hxy
      · rename_i hu
        simp only [isAggT, hu, Option.some.injEq] at hg
        obtain ⟨x, y, hx, hy, hxy⟩ := leaf 2 (Option.some.inj h).symm hg.symm
        rw [hx, hy]
        cases x <;> simp only [eqV] at hxy <;> try (cases hxy; done)
        cases y <;> simp only at hxy <;> try (cases hxy; done)
        obtain rfl := Option.some.inj hxy
        exact run_equalIn_string w _ t _ _ hu
      · rename_i fs hu
        simp only [isAggT, hu, Option.some.injEq] at hg
        subst hg
        split at h
        · cases h
        · rename_i hst
          split at h
          · rename_i l' hl
            split at h
            · obtain rfl := Option.some.inj h
              have hfo : P.fieldsOf t = fs := by simp [Program.fieldsOf, hu]
              simp only [wrapV, if_true]
              rw [run_equalIn_struct w (d + k) t _ _ (by rw [hfo]; exact hu) (by simpa using hst), hfo]
              exact ihf _ _ _ hl _ _ b k (by simpa using hv)
            · cases h
          · cases h
      · cases h
    · cases fs with
      | nil =>
        simp only [eqF, Option.some.injEq] at h
        subst h
        have : b = true := by
          have hl := eqVs_len hv
          have e1 : xs.toList.drop o = [] := List.length_eq_zero_iff.1 hl.1
          have e2 : ys.toList.drop o = [] := List.length_eq_zero_iff.1 hl.2
          rw [e1, e2] at hv
          simpa [eqVs] using hv.symm
        subst this
        simp [Op.eqFields]
      | cons f fs =>
        simp only [eqF] at h
        split at h
        · rename_i hno
          simp only [Bool.and_eq_true, bne_iff_ne, ne_eq, beq_iff_eq] at hno
          split at h
          · rename_i m hm
            split at h
            · cases h
            rename_i hm0
            split at h
            · rename_i l' hl'
              obtain rfl := Option.some.inj h
              obtain ⟨g, hg, hg1, hg2⟩ := eqT_agg hm
              have hlen := eqVs_len hv
              simp only [List.length_drop, Array.length_toList, List.length_append] at hlen
              obtain ⟨b1, b2, q1, q2, rfl⟩ := eqVs_append hv
              have hpx := run_part (w := w) (xs := xs) (o := o) hg hg1 hg2 (by omega)
              have hpy := run_part (w := w) (xs := ys) (o := o) hg hg1 hg2 (by omega)
              have e1 : d + 1 + k = d + (1 + k) := by omega
              have hq := iht _ _ hm g hg _ _ b1 (1 + k) q1
              simp only [Op.eqFields, ne_eq, hno.1, not_false_eq_true, if_true, hno.2, Sem.run_bind, hpx, hpy, Result.andThen_ok, e1, hq]
              cases b1 with
              | false => simp
              | true =>
                simp only [Bool.not_true, Bool.false_eq_true, if_false, Bool.true_and]
                exact ihf fs (o + m.length) l' hl' xs ys b2 (1 + k) (by rw [List.drop_drop, List.drop_drop] at q2; exact q2)
            · cases h
          · cases h
        · cases h

theorem eqC_vs {P : Program} {S : Nat → Prop} {w : World} {ρ : Name → Option Nat} {κ : Name → Nat} {h : Name → Option Blk} : ∀ {ks : List Nat} {c c' : List AV} {vs us : List Value} {b : Bool}, eqC ks c c' = some b →
    c.length = vs.length → c'.length = us.length → (∀ j, j < c.length → RV S w ρ κ h (c.getD j .junk) (vs.getD j undef)) → (∀ j, j < c'.length → RV S w ρ κ h (c'.getD j .junk) (us.getD j undef)) → eqVs ks vs us = some b
  | [], [], [], [], [], b, hc, _, _, _, _ => by simpa [eqC, eqVs] using hc
  | k :: ks, x :: r, y :: s, v :: vs, u :: us, b, hc, h1, h2, h3, h4 => by
    have g1 := h3 0 (by simp)
    have g2 := h4 0 (by simp)
    simp only [List.getD_cons_zero] at g1 g2
    cases x <;> try (simp [eqC] at hc; done)
    cases y <;> try (simp [eqC] at hc; done)
    cases g1 with | clo g1 => cases g1 with | v x =>
    cases g2 with | clo g2 => cases g2 with | v y =>
    simp only [eqC] at hc
    split at hc
    · rename_i a b' q1 q2
      have := eqC_vs (P := P) q2 (by simpa using h1) (by simpa using h2) (fun j hj => by simpa using h3 (j + 1) (by simpa using hj)) (fun j hj => by simpa using h4 (j + 1) (by simpa using hj))
      simp only [eqVs, q1, this]
      exact hc
    · cases hc
  | [], [], _ :: _, _, _, b, hc, _, _, _, _ => by simp [eqC] at hc
  | [], _ :: _, _, _, _, b, hc, _, _, _, _ => by simp [eqC] at hc
  | _ :: _, [], _, _, _, b, hc, _, _, _, _ => by simp [eqC] at hc
  | _ :: _, _ :: _, [], _, _, b, hc, _, _, _, _ => by simp [eqC] at hc
  | _, _ :: _, _ :: _, [], _, b, hc, h1, _, _, _ => by simp at h1
  | _, _ :: _, _ :: _, _ :: _, [], b, hc, _, h2, _, _ => by simp at h2
  | _, [], [], _ :: _, _, b, hc, h1, _, _, _ => by simp at h1
  | _, [], [], [], _ :: _, b, hc, _, h2, _, _ => by simp at h2
variable {P : Program} {C : Ctx} {σ : FSt} {a : Act} {w : World} {S : Nat → Prop} {ρ : Name → Option Nat} {κ : Name → Nat} {K : AV → Prop}

theorem rd_eqA (hok : OK C σ a w S ρ κ) {op : BinOp} {t : TypeId} {ks : List Nat} {x y : Operand} {neg : Bool} (hop : (op = .eql ∧ neg = false) ∨ (op = .neq ∧ neg = true)) (ht : eqT P 30 t = some ks) (hg : P.eqGuardType P.depth t = false) (ha : isAggT P t = some true)
    (hv : rd (evO σ.s) σ.h K (.eqA neg ks x y)) : Ans P S w ρ κ σ.h K (do eqGuard op t x y (a.eval x) (a.eval y); binOp op t (a.eval x) (a.eval y)) := by
  have hx := hok.ev x
  have hy := hok.ev y
  generalize a.eval x = va at hx ⊢
  generalize a.eval y = vb at hy ⊢
  simp only [rd] at hv
  split at hv
  · rename_i c c' hc hc'
    rw [hc] at hx; rw [hc'] at hy
    obtain ⟨vs, rfl, l1, r1⟩ := inv_agg hx
    obtain ⟨us, rfl, l2, r2⟩ := inv_agg hy
    split at hv
    · rename_i b hb
      have hvs := eqC_vs (P := P) (vs := vs.toList) (us := us.toList) hb (by simpa using l1) (by simpa using l2) (fun j hj => by rw [getD_toList]; exact r1 j hj) (fun j hj => by rw [getD_toList]; exact r2 j hj)
      have hrun := (eq_run (P := P) w 30).1 t ks ht true ha vs.toList us.toList b 9970 hvs
      simp only [wrapV, if_true] at hrun
      rcases hop with ⟨rfl, rfl⟩ | ⟨rfl, rfl⟩
      · refine ⟨_, _, hv, ?_, .clo (.v _)⟩
        simp only [Sem.run_bind, run_eqGuard_agg w _ t x y vs us hg, Result.andThen_ok, run_eql_struct w t vs us]
        rw [show (10000 : Nat) = 30 + 9970 from rfl, hrun]
        rfl
      · refine ⟨_, _, hv, ?_, .clo (.v _)⟩
        simp only [Sem.run_bind, run_eqGuard_agg w _ t x y vs us hg, Result.andThen_ok, run_neq_struct w t vs us]
        rw [show (10000 : Nat) = 30 + 9970 from rfl, hrun]
        rfl
    · exact hv.elim
  · exact hv.elim
end Go.Vs

namespace Go.Vs
set_option linter.unusedSectionVars false
variable [Envs]
variable {P : Program} {C : Ctx} {σ : FSt} {a : Act} {w : World} {S : Nat → Prop} {ρ : Name → Option Nat} {κ : Name → Nat} {K : AV → Prop}

theorem foldl_push (ns : List Int) : ns.foldl (fun r n => r.push (UInt8.ofNat n.toNat)) ByteArray.empty = strB ns := by
  have key : ∀ (ns : List Int) (b : ByteArray), ns.foldl (fun r n => r.push (UInt8.ofNat n.toNat)) b = ⟨b.data ++ (ns.map fun n => UInt8.ofNat n.toNat).toArray⟩ := by
    intro ns
    induction ns with
    | nil => intro b; cases b; simp
    | cons n r ih =>
      intro b
      simp only [List.foldl_cons, ih]
      cases b
      simp [ByteArray.push]
  rw [key]
  simp [strB, ByteArray.empty, ByteArray.emptyWithCapacity]
  rfl

theorem numsO_spec : ∀ {l : List (List AV)} {ns : List Int}, numsO l = some ns → l = ns.map fun n => [.v (.int .u8 n)]
  | [], ns, h => by simp [numsO] at h; simp [h]
  | [.v (.int .u8 n)] :: r, ns, h => by
    simp only [numsO] at h
    split at h
    · rename_i l hl
      obtain rfl := Option.some.inj h
      rw [numsO_spec hl]; rfl
    · cases h
  | [] :: r, ns, h => by simp [numsO] at h
  | (x :: y :: s) :: r, ns, h => by simp [numsO] at h
  | [x] :: r, ns, h => by
    cases x <;> try (simp [numsO] at h; done)
    rename_i v
    cases v <;> try (simp [numsO] at h; done)
    rename_i k n
    cases k <;> try (simp [numsO] at h; done)
    simp only [numsO] at h
    split at h
    · rename_i l hl
      obtain rfl := Option.some.inj h
      rw [numsO_spec hl]; rfl
    · cases h

theorem rd_b2s (hok : OK C σ a w S ρ κ) {s d e : TypeId} (hs : P.underlying s = some (.slice e)) (he : P.underlying e = some (.int .u8)) (hd : P.underlying d = some .string) {x : Operand}
    (hv : rd (evO σ.s) σ.h K (.b2s x)) : Ans P S w ρ κ σ.h K (convert s d (a.eval x)) := by
  have hx := hok.ev x
  generalize a.eval x = va at hx ⊢
  simp only [rd] at hv
  split at hv
  · rename_i l hl
    split at hv
    · rename_i ns hns
      obtain ⟨base, cap, f, rfl, hr⟩ := reads_of hok.hok hx hl
      have hl' := numsO_spec hns
      refine ⟨_, _, hv, ?_, .clo (.v _)⟩
      rw [run_convert_bytes_string w s d e _ _ _ hs he hd]
      have hlen : l.length = ns.length := by rw [hl']; simp
      cases ns with
      | nil =>
        have h0 : l.length = 0 := by simpa using hlen
        rw [h0]
        cases base with
        | none =>
          simp [Conv.bytesToString, strB, ByteArray.empty, ByteArray.emptyWithCapacity]
          rfl
        | some A =>
          rw [run_bytesToString w A 0 cap [] (by simp [loadCells, loadCellsFrom]), foldl_push]
      | cons n0 ns0 =>
        have hcell := hr.cell w rfl
        obtain ⟨b, off, hb, _⟩ := hcell 0 (by simp at hlen; omega)
        subst hb
        rw [hlen]
        rw [run_bytesToString w ⟨b, off, none⟩ _ cap (n0 :: ns0) ?_, foldl_push]
        rw [run_loadCells w ⟨b, off, none⟩ _ f (fun j hj => ?_)]
        · congr 1
          apply Array.ext'
          simp only
          apply List.ext_getElem?
          intro j
          rcases Nat.lt_or_ge j (n0 :: ns0).length with hj | hj
          · have hrc := hr.rc j (by omega)
            have e1 : rowCell 1 l j = .v (.int .u8 (n0 :: ns0)[j]) := by
              have : l[j]? = some [.v (.int .u8 (n0 :: ns0)[j])] := by rw [hl']; simp only [List.getElem?_map, List.getElem?_eq_getElem hj, Option.map_some]
              simp [rowCell, List.getD, this, Nat.mod_one]
            rw [e1] at hrc
            have e2 : f j = .int .u8 (n0 :: ns0)[j] := by
              generalize f j = u at hrc
              cases hrc with | v _ => rfl
            rw [List.getElem?_map, List.getElem?_range hj, List.getElem?_map, List.getElem?_eq_getElem hj, Option.map_some, Option.map_some, e2]
          · rw [List.getElem?_eq_none (show (List.map f (List.range (n0 :: ns0).length)).length ≤ j by simpa using hj), List.getElem?_eq_none (show (List.map (Value.int .u8) (n0 :: ns0)).length ≤ j by simpa using hj)]
        · obtain ⟨b', off', hb', hc'⟩ := hcell j (by omega)
          simp only [Option.some.injEq, Addr.mk.injEq, and_true] at hb'
          obtain ⟨rfl, rfl⟩ := hb'
          rw [addr_add]; exact hc'
    · exact hv.elim
  · exact hv.elim
/-- the function of this number is the one that looks a byte up in a string -/
def isIdx (P : Program) (f : FuncId) : Bool := match P.funcs[f]? with
  | some fn => fn.body.isNone && fn.name == "internal/bytealg.IndexByteString" && fn.origin == ""
  | none => false

theorem find_idx {fn : Func} (h : fn.name = "internal/bytealg.IndexByteString") : Extern.find fn = some Extern.BytealgIndexByte.indexByte := by
  unfold Extern.find
  simp only [h]
  rfl
theorem findNext_idx {fn : Func} (h : fn.name = "internal/bytealg.IndexByteString") (ho : fn.origin = "") : Extern.findNext fn = none := by
  unfold Extern.findNext
  simp only [h, ho]
  rfl

theorem rd_idxB (hok : OK C σ a w S ρ κ) {o : Oper} {c : Call} {f : FuncId} {x y : Operand} (hop : o.op = .call c) (hc : c.callee = .value (.func f)) (hargs : c.args = #[x, y]) (hi : isIdx P f = true)
    (hv : rd (evO σ.s) σ.h K (.idxB x y)) : ∃ x' v, K x' ∧ (execOp a.eval o).run P w = .ok (.value v) w ∧ RV S w ρ κ σ.h x' v := by
  have hx := hok.ev x
  have hy := hok.ev y
  have hrun : (execOp a.eval o).run P w = (callFunc f #[a.eval x, a.eval y]).run P w := by
    simp [execOp, hop, resolve, hc, hargs, Act.eval, Deferred.ofValue, invoke]
  generalize a.eval x = va at hx hrun
  generalize a.eval y = vb at hy hrun
  simp only [rd] at hv
  split at hv
  · rename_i s n h1 h2
    rw [h1] at hx; rw [h2] at hy
    obtain rfl := inv_v hx
    obtain rfl := inv_v hy
    unfold isIdx at hi
    split at hi
    · rename_i fn hfn
      simp only [Bool.and_eq_true, beq_iff_eq] at hi
      have hname : (fn.name == "runtime.NumGoroutine") = false := by rw [hi.1.2]; rfl
      refine ⟨_, .int .i64 (idxByte s n), hv, ?_, .clo (.v _)⟩
      rw [hrun, run_callFunc_indexByte hfn hname hi.1.1 (findNext_idx hi.1.2 hi.2) (find_idx hi.1.2)]
      have e : Extern.BytealgIndexByte.indexByte #[Value.string s, .int .u8 n] = (do
          let b ← Extern.Bytes.bytesOf (.string s)
          let c ← Extern.Bytes.asByte (.int .u8 n)
          match (List.range b.size).find? (fun i => b[i]! == c) with
          | some i => pure (goInt i)
          | none => pure (goInt (-1)) : Sem Value) := rfl
      rw [e]
      simp only [Extern.Bytes.bytesOf, Extern.Bytes.asByte, Sem.run_bind, Sem.run_pure, Result.andThen_ok]
      unfold idxByte
      split
      · rename_i i hf
        simp only [hf, Sem.run_pure, Result.andThen_ok, goInt]
      · rename_i hf
        simp only [hf, Sem.run_pure, Result.andThen_ok, goInt]
    · cases hi
  · exact hv.elim
end Go.Vs
