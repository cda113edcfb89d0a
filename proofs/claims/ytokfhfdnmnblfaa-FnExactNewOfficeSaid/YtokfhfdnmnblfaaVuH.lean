/- A result that is a struct of two rows. -/
import Derived.Test.YtokfhfdnmnblfaaVuG
namespace Go.Vs
set_option linter.unusedSectionVars false
set_option linter.unusedVariables false
/-- the result is a struct of two rows, and one more value -/
theorem Pt.resOff {P : Program} {I : Envs} {C1 : Ctx} {σ : St} {a : Act} {w : World} {S : Nat → Prop} (h : Pt I C1 σ a w S) {fn : Func} {n1 n2 : Name} {k1 k2 l1 l2 : Nat} {r1 r2 : List (List AV)} {c : Value} (h1 : hlook σ.h n1 = some (.arr k1 r1 false)) (h2 : hlook σ.h n2 = some (.arr k2 r2 false)) (hf1 : ∀ r, r ∈ r1 → flatL r = true) (hf2 : ∀ r, r ∈ r2 → flatL r = true)
    (hr : resL P σ (fun xs => oneOr xs = .tup [.agg [.loc n1 0 l1, .loc n2 0 l2], .v c]) fn.results.toList) :
    a.defers = [] ∧ ∃ (t o : Value) (x1 x2 : Option Nat) (tb : Option Addr) (tc : Nat), (results fn a.tmps).run P w = .ok (.tuple #[.agg #[t, o], c]) w ∧ t = .slice tb l1 tc ∧ RC (fun b => x1 = some b) w (.sl k1 (r1.take l1)) t ∧ RC (fun b => x2 = some b) w (.sl k2 (r2.take l2)) o ∧ (∀ b, x1 = some b → C1.w0.heap.size ≤ b ∧ b < w.heap.size ∧ ¬ S b) := by
  obtain ⟨hM, hrr, C, ρ, κ, hw0, hS0, hmu, hl, hok⟩ := h
  refine ⟨@OK.defers I _ _ _ _ _ _ _ hok, ?_⟩
  obtain ⟨y, u, hx, hxv, hrun⟩ := res_run (P := P) hok (fn := fn) (K := fun y => y = .tup [.agg [.loc n1 0 l1, .loc n2 0 l2], .v c]) hr
  subst hx
  have key : ∃ t o : Value, u = .tuple #[.agg #[t, o], c] ∧ RV S w ρ κ σ.f.h (.loc n1 0 l1) t ∧ RV S w ρ κ σ.f.h (.loc n2 0 l2) o := by
    have k1 : ∃ vs : Array Value, u = .tuple vs ∧ vs.size = 2 ∧ RV S w ρ κ σ.f.h (.agg [.loc n1 0 l1, .loc n2 0 l2]) (vs.getD 0 undef) ∧ vs.getD 1 undef = c := by
      cases hxv with
      | clo h => cases h with
        | tup _ vs hl hr =>
          have h3 : RC S w (.agg [.loc n1 0 l1, .loc n2 0 l2]) (vs.getD 0 undef) := hr 0 (by simp)
          generalize vs.getD 0 undef = z at h3
          cases h3 with
          | agg _ us hl2 hr2 =>
            have h4 : RC S w (.loc n1 0 l1) (us.getD 0 undef) := hr2 0 (by simp)
            generalize us.getD 0 undef = z at h4
            cases h4
      | tup _ vs hl hr => exact ⟨vs, rfl, by simpa using hl.symm, by simpa using hr 0 (by simp), inv_v (by simpa using hr 1 (by simp))⟩
    obtain ⟨vs, rfl, g1, g2, g3⟩ := k1
    rw [us2 g1 rfl g3]
    obtain ⟨us, e1, e2, e3⟩ := inv_agg g2
    have e4 : us.size = 2 := by simpa using e2.symm
    refine ⟨us.getD 0 undef, us.getD 1 undef, by rw [e1, ← us2 e4 rfl rfl], by simpa using e3 0 (by simp), by simpa using e3 1 (by simp)⟩
  obtain ⟨t, o, rfl, ht, ho⟩ := key
  obtain ⟨_, b1, c1, e, _⟩ := inv_loc ht k1 r1 false h1
  refine ⟨t, o, ρ n1, ρ n2, b1, c1, hrun, e, @OK.exposeP a w S I C ρ κ σ.f hok n1 k1 l1 r1 false h1 hf1 t ht, @OK.exposeP a w S I C ρ κ σ.f hok n2 k2 l2 r2 false h2 hf2 o ho, fun b hb' => ⟨?_, hok.hok.lt (n := n1) (by rw [show σ.f.h n1 = _ from h1]; rfl) hb', ?_⟩⟩
  · rcases (@OK.back I _ _ _ _ _ _ _ hl _ hok).mine n1 b (by rw [show σ.f.h n1 = _ from h1]; rfl) hb' with h | h
    · exact h
    · exact (hM b h).elim
  · exact @OK.noS I _ _ _ _ _ _ _ hok _ _ h1 rfl _ hb'

/-- A function whose answer lies in new memory has that answer by value. -/
theorem Fn.of_new [Envs] {P : Program} {f : FuncId} {args : List AV} {r : AV} (hb : HasBody P f) (hc : ∀ x, x ∈ args → isClo x = true)
    (h : ∀ (S : Nat → Prop) (w : World) (vs : Array Value), (∀ b, S b → b < w.heap.size) → Env S w → vs.size = args.length → (∀ j, j < args.length → RC S w (args.getD j .junk) (vs.getD j undef)) → Calls P f vs w fun e w' => ∃ (v : Value) (D : Nat → Prop), e = .returned v ∧ Grew w w' ∧ (∀ b, D b → w.heap.size ≤ b ∧ b < w'.heap.size) ∧ RC D w' r v) :
    Fn P f [] args r [] := by
  refine ⟨hb, fun S w ρ κ vs hok _ hvs hargs => (h S w vs hok.dom hok.env hvs fun j hj => (hargs j hj).closed (hc _ ?_)).mono ?_⟩
  · rw [List.getD_eq_getElem?_getD, List.getElem?_eq_getElem hj]; exact List.getElem_mem _
  · rintro e w' ⟨v, D, rfl, hg, hD, hv⟩
    have hnone : ∀ n, Hn ([] : List (Option Blk)) n = none := by
      intro n
      cases n <;> simp [Hn]
    exact ⟨_, fun b => S b ∨ D b, fun _ => none, fun _ => 0, rfl, ⟨⟨fun n b hb => (by rw [hnone] at hb; cases hb), fun n m y hn _ _ _ => (by rw [hnone] at hn; cases hn), fun b hb => hb.elim (fun h => Nat.lt_of_lt_of_le (hok.dom b h) hg.size) fun h => (hD b h).2, (hg.env hok.dom hok.env).mono (fun _ h => .inl h) fun _ _ => rfl⟩, hg.size, fun b hb _ => hg.old b hb, fun _ h => .inl h, fun b hb => hb.elim .inl fun h => .inr (.inl (hD b h).1), fun j x hj => (by simp at hj), hg.out, fun j b' hj => (by simp at hj)⟩, .clo (hv.mono (fun _ h => .inr h) fun _ _ => rfl)⟩
end Go.Vs
