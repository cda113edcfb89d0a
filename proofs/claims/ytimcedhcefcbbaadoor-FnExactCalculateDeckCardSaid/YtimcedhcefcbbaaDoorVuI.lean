/- Regions whose order is drawn, by an invariant on what is done: no list of all orders. -/
import Derived.Test.YtimcedhcefcbbaaDoorVuH
set_option linter.all false
set_option maxHeartbeats 8000000
namespace Go.Vs
def edgesB (ops : Array Oper) (i : Nat) (p : Nat → Bool) : Bool := ((ops[i]?).map (·.after.all fun e => !Region.binds .any e || p e.on)).getD false
def fullB (n n1 : Nat) : Array Bool := Array.ofFn (n := n) fun j => decide (j.1 < n1)
def chkI (ops : Array Oper) (n1 : Nat) (deps : List (Nat × Nat)) (OT : List (List Nat)) : Bool :=
 ((List.range ops.size).all fun i => edgesB ops i fun k => decide (k < i)) &&
 ((List.range ops.size).all fun i => decide (i < n1) || (List.range n1).all fun k => ancB ops ops.size k i) &&
 (deps.all fun p => !edgesB ops p.1 fun k => k != p.2) &&
 (ordGo ops (ops.size - n1) (fullB ops.size n1) == OT)
def drI (P : Program) (n0 n1 : Nat) (deps : List (Nat × Nat)) (OT : List (List Nat)) (nt : Nat) (ops : Array Oper) : Option (List Nat) :=
 if ops.size == n0 && !(chkI ops n1 deps OT) then none else drawnG P nt ops
theorem edges_dep {ops : Array Oper} {i k : Nat} {p : Nat → Bool} (h : edgesB ops i p = true) (hk : edgesB ops i (fun j => j != k) = false) : p k = true := by
 unfold edgesB at h hk
 cases ho : ops[i]? with
 | none => rw [ho] at h; simp at h
 | some o =>
  rw [ho] at h hk
  simp only [Option.map_some, Option.getD_some] at h hk
  rw [← Bool.not_eq_true, Array.all_eq_true] at hk
  rw [Array.all_eq_true] at h
  obtain ⟨j, hj⟩ := Classical.not_forall.1 hk
  obtain ⟨hj2, hj3⟩ := Classical.not_forall.1 hj
  have := h j hj2
  generalize o.after[j] = e at *
  cases hb : Region.binds .any e
  ·simp [hb] at hj3
  ·simp only [hb, Bool.not_true, Bool.false_or] at this hj3
   have : e.on = k := by simpa using hj3
   rw [← this]; assumption
theorem edges_mono {ops : Array Oper} {i : Nat} {p q : Nat → Bool} (h : edgesB ops i p = true) (hpq : ∀ k, p k = true → q k = true) : edgesB ops i q = true := by
 unfold edgesB at h ⊢
 cases ho : ops[i]? with
 | none => rw [ho] at h; simp at h
 | some o =>
  rw [ho] at h
  simp only [Option.map_some, Option.getD_some] at h ⊢
  rw [Array.all_eq_true] at h ⊢
  intro j hj
  have := h j hj
  cases hb : Region.binds .any o.after[j]
  ·simp
  ·simp only [hb, Bool.not_true, Bool.false_or] at this ⊢
   exact hpq _ this
theorem ancP {ops : Array Oper} {p : Nat → Bool} (hc : ∀ j, p j = true → edgesB ops j p = true) : ∀ (n k i : Nat), ancB ops n k i = true → edgesB ops i p = true → p k = true
 | 0, k, i, h, _ => by simp [ancB] at h
 | n + 1, k, i, h, he => by
  unfold edgesB at he
  unfold ancB at h
  cases ho : ops[i]? with
  | none => rw [ho] at h; simp at h
  | some o =>
   rw [ho] at h he
   simp only [Option.map_some, Option.getD_some] at h he
   rw [Array.any_eq_true] at h
   rw [Array.all_eq_true] at he
   obtain ⟨j, hj, h2⟩ := h
   have h3 := he j hj
   simp only [Bool.and_eq_true, Bool.or_eq_true] at h2
   obtain ⟨hb, h4⟩ := h2
   simp only [hb, Bool.not_true, Bool.false_or] at h3
   rcases h4 with h4 | h4
   ·have : o.after[j].on = k := by simpa using h4
    rw [← this]; exact h3
   ·exact ancP hc n k _ h4 (hc _ h3)
theorem filter_one {i : Nat} : ∀ {l : List Nat}, l.Nodup → i ∈ l → (l.filter fun j => j != i).length + 1 = l.length
 | x :: l, hn, h => by
  obtain ⟨h1, h2⟩ := List.nodup_cons.1 hn
  by_cases e : x = i
  ·subst e
   have : (l.filter fun j => j != x) = l := List.filter_eq_self.2 fun a ha => by
    have : a ≠ x := fun e => h1 (e ▸ ha)
    simpa using this
   simp [this]
  ·have hi : i ∈ l := by simpa [Ne.symm e] using h
   have := filter_one h2 hi
   have hx : (x != i) = true := by simpa using e
   rw [List.filter_cons, if_pos hx, List.length_cons, List.length_cons]
   omega
section
variable [Envs]
variable {P : Program} {nt : Nat} {Q : Exit → Act → World → Prop}
theorem ordI {ops : Array Oper} {aops : List AOper} {n1 : Nat} {deps : List (Nat × Nat)} {OT : List (List Nat)} (hchk : chkI ops n1 deps OT = true) (hn1 : n1 ≤ ops.size) (Inv : (Nat → Prop) → Act → World → Prop)
  (hstep : ∀ (i : Nat) (D : Nat → Prop) (a : Act) (w : World) (rest : List AOper), i < n1 → (∀ k, (i, k) ∈ deps → D k) → Inv D a w → (∀ a' w', Inv (fun j => D j ∨ j = i) a' w' → RgL P nt rest Q a' w') → RgL P nt (aops.getD i default :: rest) Q a w)
  (hinv : ∀ (D D' : Nat → Prop) a w, (∀ j, D' j → D j) → Inv D a w → Inv D' a w)
  (hT : ∀ a w, Inv (fun j => j < n1) a w → ∀ L, L ∈ OT → RgL P nt (L.map fun i => aops.getD i default) Q a w) :
  ∀ (c : Nat) (listed : Array Bool) (a : Act) (w : World) (L : List Nat), listed.size = ops.size → (∀ j, n1 ≤ j → listed.getD j false = false) → (∀ j, listed.getD j false = true → edgesB ops j (fun k => listed.getD k false) = true) →
   ((List.range n1).filter fun j => !listed.getD j false).length = c → L ∈ ordGo ops (ops.size - n1 + c) listed → Inv (fun j => listed.getD j false = true) a w → RgL P nt (L.map fun i => aops.getD i default) Q a w := by
 unfold chkI at hchk
 simp only [Bool.and_eq_true, List.all_eq_true, List.mem_range, Bool.or_eq_true, decide_eq_true_eq] at hchk
 obtain ⟨⟨⟨hback, hanc⟩, hdeps⟩, hOT⟩ := hchk
 have hOT : ordGo ops (ops.size - n1) (fullB ops.size n1) = OT := by simpa using hOT
 intro c
 induction c with
 | zero =>
  intro listed a w L hsz hhi hcl hc hL hI
  have hall : ∀ j, j < n1 → listed.getD j false = true := fun j hj => by
   have h0 := List.length_eq_zero_iff.1 hc
   have := List.filter_eq_nil_iff.1 h0 j (List.mem_range.2 hj)
   simpa using this
  have e : listed = fullB ops.size n1 := by
   refine Array.ext (by simp [fullB, hsz]) fun j h1 h2 => ?_
   have g : listed.getD j false = listed[j] := by simp [Array.getD, h1]
   have hR : (fullB ops.size n1)[j] = decide (j < n1) := by simp [fullB]
   rw [hR, ← g]
   by_cases hj : j < n1
   ·rw [hall j hj]; simp [hj]
   ·rw [hhi j (by omega)]; simp [hj]
  rw [e, Nat.add_zero, hOT] at hL
  exact hT a w (hinv _ _ a w (fun j hj => hall j hj) hI) L hL
 | succ c ih =>
  intro listed a w L hsz hhi hcl hc hL hI
  have hun : ∃ n, n < n1 ∧ listed.getD n false = false := by
   have hne : ((List.range n1).filter fun j => !listed.getD j false) ≠ [] := fun e => by rw [e] at hc; simp at hc
   obtain ⟨x, hx⟩ := List.exists_mem_of_ne_nil _ hne
   obtain ⟨h1, h2⟩ := List.mem_filter.1 hx
   exact ⟨x, List.mem_range.1 h1, by simpa using h2⟩
  obtain ⟨x, ⟨hx1, hx2⟩, hmin⟩ := least _ hun
  rw [show ops.size - n1 + (c + 1) = (ops.size - n1 + c) + 1 by omega, ordGo] at hL
  have hgd : ∀ j, j < ops.size → listed.getD j true = listed.getD j false := fun j hj => by
   have : j < listed.size := by omega
   simp [Array.getD, this]
  have hxr : x ∈ (List.range ops.size).filter fun i => !listed.getD i true && ((ops[i]?).map (·.after.all fun e => !Region.binds .any e || listed.getD e.on false)).getD false := by
   refine List.mem_filter.2 ⟨List.mem_range.2 (by omega), ?_⟩
   rw [hgd x (by omega), hx2]
   change (true && edgesB ops x (fun k => listed.getD k false)) = true
   rw [Bool.true_and]
   refine edges_mono (hback x (by omega)) fun k hk => ?_
   have hk : k < x := by simpa using hk
   cases hlk : listed.getD k false
   ·have := hmin k ⟨by omega, hlk⟩; omega
   ·rfl
  generalize hrs : ((List.range ops.size).filter fun i => !listed.getD i true && ((ops[i]?).map (·.after.all fun e => !Region.binds .any e || listed.getD e.on false)).getD false) = rs at hL hxr
  cases rs with
  | nil => cases hxr
  | cons y ys =>
   simp only [List.mem_flatMap, List.mem_map] at hL
   obtain ⟨i, hi, L', hL', rfl⟩ := hL
   rw [← hrs] at hi
   obtain ⟨hi1, hi2⟩ := List.mem_filter.1 hi
   have hi1 := List.mem_range.1 hi1
   simp only [Bool.and_eq_true] at hi2
   obtain ⟨hi2, hi3⟩ := hi2
   have hi3 : edgesB ops i (fun k => listed.getD k false) = true := hi3
   rw [hgd i hi1] at hi2
   have hi2 : listed.getD i false = false := by simpa using hi2
   have hin : i < n1 := by
    rcases Nat.lt_or_ge i n1 with h | h
    ·exact h
    ·rcases hanc i hi1 with h' | h'
     ·exact h'
     ·have := ancP hcl ops.size x i (h' x hx1) hi3
      rw [hx2] at this; cases this
   have hset : ∀ j, (listed.setIfInBounds i true).getD j false = if j = i then true else listed.getD j false := fun j => by
    by_cases e : j = i
    ·subst e
     have : j < listed.size := by omega
     simp [Array.getD, this]
    ·simp only [e, if_false]
     rw [Array.getD_eq_getD_getElem?, Array.getD_eq_getD_getElem?, Array.getElem?_setIfInBounds_ne (Ne.symm e)]
   refine hstep i _ a w _ hin (fun k hk => ?_) hI fun a' w' hI' => ?_
   ·have := hdeps (i, k) hk
    exact edges_dep hi3 (by simpa using this)
   ·refine ih (listed.setIfInBounds i true) a' w' L' (by simpa using hsz) (fun j hj => ?_) (fun j hj => ?_) ?_ hL' (hinv _ _ a' w' (fun j hj => ?_) hI')
    ·rw [hset j, if_neg (by omega)]; exact hhi j hj
    ·have hm : ∀ k, listed.getD k false = true → (listed.setIfInBounds i true).getD k false = true := fun k hk => by
      rw [hset k]; split
      ·rfl
      ·exact hk
     rw [hset j] at hj
     split at hj
     ·rename_i e; subst e; exact edges_mono hi3 hm
     ·exact edges_mono (hcl j hj) hm
    ·have e : ((List.range n1).filter fun j => !(listed.setIfInBounds i true).getD j false) = ((List.range n1).filter fun j => !listed.getD j false).filter fun j => j != i := by
      rw [List.filter_filter]
      refine List.filter_congr fun j _ => ?_
      rw [hset j]
      by_cases e : j = i
      ·simp [e]
      ·simp [e]
     have hmem : i ∈ (List.range n1).filter fun j => !listed.getD j false := List.mem_filter.2 ⟨List.mem_range.2 hin, by rw [hi2]; rfl⟩
     have := filter_one (List.nodup_range.filter _) hmem
     rw [e]; omega
    ·rw [hset j] at hj
     split at hj
     ·rename_i e; exact .inr e
     ·exact .inl hj
end
theorem ord_lt (ops : Array Oper) : ∀ (fuel : Nat) (listed : Array Bool) (L : List Nat), L ∈ ordGo ops fuel listed → ∀ i, i ∈ L → i < ops.size
 | 0, listed, L, h, i, hi => by
  rw [ordGo, List.mem_singleton] at h
  subst h; cases hi
 | fuel + 1, listed, L, h, i, hi => by
  rw [ordGo] at h
  generalize hrs : ((List.range ops.size).filter fun i => !listed.getD i true && ((ops[i]?).map (·.after.all fun e => !Region.binds .any e || listed.getD e.on false)).getD false) = rs at h
  cases rs with
  | nil => rw [List.mem_singleton] at h; subst h; cases hi
  | cons x xs =>
   simp only [List.mem_flatMap, List.mem_map] at h
   obtain ⟨k, hk, L', hL', rfl⟩ := h
   rcases List.mem_cons.1 hi with rfl | hi
   ·rw [← hrs] at hk; exact List.mem_range.1 (List.mem_filter.1 hk).1
   ·exact ord_lt ops fuel _ L' hL' i hi
section
variable [I : Envs]
variable {P : Program} {nt : Nat} {Q : Exit → Act → World → Prop} {a : Act} {w : World}
theorem drI_ok (hm : P.follows .mixedOrders = true) (n0 n1 : Nat) (deps : List (Nat × Nat)) (OT : List (List Nat)) : DrawOK P (drI P n0 n1 deps OT) := by
 intro C id ops aops fl K Q σ a w S ρ κ hd
 refine drawn_ok hm C id ops aops fl K Q σ a w S ρ κ ?_
 unfold drI at hd
 split at hd
 ·cases hd
 ·exact hd
theorem At.rgI (hm : P.follows .mixedOrders = true) {n0 n1 : Nat} {deps : List (Nat × Nat)} {OT : List (List Nat)} {aops : List AOper} {out : List Nat} {f0 : Nat} {fl : List Nat} (hn : aops.length = n0) (hn1 : n1 ≤ n0) (Inv : (Nat → Prop) → Act → World → Prop)
  (hstep : ∀ (i : Nat) (D : Nat → Prop) (a : Act) (w : World) (rest : List AOper), i < n1 → (∀ k, (i, k) ∈ deps → D k) → Inv D a w → (∀ a' w', Inv (fun j => D j ∨ j = i) a' w' → RgL P nt rest Q a' w') → RgL P nt (aops.getD i default :: rest) Q a w)
  (hinv : ∀ (D D' : Nat → Prop) a w, (∀ j, D' j → D j) → Inv D a w → Inv D' a w)
  (h0 : Inv (fun _ => False) a { w with drawn := w.drawn + 1 })
  (hL : ∀ L, L ∈ OT → ∀ i, i ∈ L → i < n0)
  (hT : ∀ a w, Inv (fun j => j < n1) a w → ∀ L, L ∈ OT → RgL P nt (L.map fun i => aops.getD i default) Q a w) : At P nt (drI P n0 n1 deps OT) (.region aops out (f0 :: fl)) Q a w := by
 intro c hc hzc
 cases c
 case region id ops draw =>
  simp only [cCode, ACode.bare] at hc
  split at hc
  ·rename_i fl' hdraw
   cases ho : cOps P nt ops ops.toList with
   | none => rw [ho] at hc; cases hc
   | some l =>
    rw [ho] at hc
    simp only [Option.map_some, Option.some.injEq, ACode.region.injEq, true_and] at hc
    obtain ⟨hl, hfl⟩ := hc
    subst hl; subst hfl
    cases draw with
    | false => simp at hdraw
    | true =>
     have hd : drI P n0 n1 deps OT nt ops = some (f0 :: fl) := by simpa using hdraw
     obtain ⟨g1, g2⟩ := cOps_spec ho
     have hlen : ops.size = aops.length := by simpa using g1
     have hck : chkI ops n1 deps OT = true := by
      unfold drI at hd
      split at hd
      ·cases hd
      ·rename_i hne
       simp only [hlen, hn, beq_self_eq_true, Bool.true_and, Bool.not_eq_true', Bool.not_eq_false] at hne
       simpa using hne
     refine wp_region_draw fun t => ?_
     rw [hm]
     have hmem := allOrd_mem ops t
     have hlt : ∀ i, i ∈ Region.schedule true ops t → i < aops.length := fun i hi => by
      rw [← hlen]
      exact ord_lt ops ops.size _ _ hmem i hi
     have key : RgL P nt ((Region.schedule true ops t).map fun i => aops.getD i default) Q a { w with drawn := w.drawn + 1 } := by
      refine ordI hck (by omega) Inv hstep hinv hT n1 (Array.replicate ops.size false) a _ _ (by simp) (fun j _ => ?_) (fun j hj => ?_) ?_ ?_ (hinv _ _ _ _ (fun j hj => ?_) h0)
      ·simp only [Array.getD_eq_getD_getElem?, Array.getElem?_replicate]; split <;> rfl
      ·simp only [Array.getD_eq_getD_getElem?, Array.getElem?_replicate] at hj; split at hj <;> cases hj
      ·rw [List.filter_eq_self.2]
       ·simp
       ·intro j _
        simp only [Array.getD_eq_getD_getElem?, Array.getElem?_replicate]; split <;> rfl
      ·rw [show ops.size - n1 + n1 = ops.size by omega]; exact hmem
      ·simp only [Array.getD_eq_getD_getElem?, Array.getElem?_replicate] at hj; split at hj <;> cases hj
     refine key ops _ (by simp) fun j ao hj => ?_
     generalize Region.schedule true ops t = L at hlt hj
     simp only [List.getElem?_map, Option.map_eq_some_iff] at hj
     obtain ⟨i, hi, rfl⟩ := hj
     have hil : i < aops.length := hlt i (List.mem_of_getElem? hi)
     obtain ⟨o, q1, q2⟩ := g2 i (aops.getD i default) (by simp [hil])
     exact ⟨i, o, hi, by simpa using q1, q2⟩
  ·cases hc
 all_goals (simp only [cCode, ACode.bare] at hc; first | (cases hc; done) | (split at hc <;> simp at hc) | (simp at hc))
end
variable {P : Program} {nt : Nat} {Q : Exit → Act → World → Prop} {a : Act} {w : World}
variable {I : Envs} {C1 : Ctx} {σ : St} {S : Nat → Prop}
theorem Pt.rgK (hp : Pt I C1 σ a w S) (hnt : C1.nt = nt) {pre post : List AOper} {K : St → Prop} (hτ : ∀ σ', K σ' → ∀ p, p ∈ σ'.h → flatB p.2 ∧ p.2.fz = false) (hv : @vc I P K pre σ)
  (h : ∀ σ' a' w' S', K σ' → Past S w S' w' → Pt I C1 σ' a' w' S' → RgL P nt post Q a' w') : RgL P nt (pre ++ post) Q a w := by
 have hp' := hp
 obtain ⟨hM, hr, C, ρ, κ, hw0, hS0, hmu, hla, hok⟩ := hp
 have hCnt : C.nt = nt := hla.nt.trans hnt
 have hno : ∀ b, S b → b < w.heap.size ∧ ¬ C.Mut b := fun b hb => ⟨hp'.dom b hb, fun hm => by
   obtain ⟨n, hn, hx⟩ := hmu b hm
   obtain ⟨b', hb'⟩ := Option.isSome_iff_exists.1 hn
   exact @OK.noS I _ _ _ _ _ _ _ hok _ _ hb' (hr _ (hlook_mem2 hb')).2 _ hx hb⟩
 subst hCnt
 refine @RgL.fw I P Q C K post (fun σ' a' w' S' ρ' κ' hle hok' => ?_) pre σ a w S ρ κ hv hok
 exact h σ' a' w' S' hle (Pt.later hw0 hS0 hno hok') (Pt.of_ok hM (hτ σ' hle) hla hok')
theorem look_hd {d : Nat} {x : AV} {s : List (Nat × AV)} : look ((d, x) :: s) d = x := by simp [look]
theorem look_tl {d t : Nat} {x : AV} {s : List (Nat × AV)} (h : t ≠ d) : look ((d, x) :: s) t = look s t := by simp [look, h]
end Go.Vs
