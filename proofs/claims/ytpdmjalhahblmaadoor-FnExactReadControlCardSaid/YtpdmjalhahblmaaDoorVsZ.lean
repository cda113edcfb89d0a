/- A region whose order is open: every order gives what the text's order gives. -/
import Derived.Test.YtpdmjalhahblmaaDoorVsY
namespace Go.Vs
set_option linter.unusedSectionVars false
variable [Envs]
variable {P : Program} {C : Ctx} {a : Act} {w : World} {S : Nat → Prop} {ρ : Name → Option Nat} {κ : Name → Nat}

theorem atL_append (aops : List AOper) (l1 l2 : List Nat) : atL aops (l1 ++ l2) = atL aops l1 ++ atL aops l2 := by simp [atL]

structure Plan (P : Program) (C : Ctx) (ops : Array Oper) (aops : List AOper) (F : Nat → Prop) : Prop where
  corr : ∀ (j : Nat) (ao : AOper), aops[j]? = some ao → ∃ o : Oper, ops[j]? = some o ∧ cOper P C.nt ops o = some ao.bare
  len : ops.size = aops.length
  back : ∀ (i : Nat) (o : Oper), ops[i]? = some o → ∀ e, e ∈ o.after → Region.binds .any e = true → e.on < i
  pair : ∀ k i, k < i → i < ops.size → floatB ops k i = true → ancB ops ops.size k i = false → F k ∧ F i ∧ ∀ (x y : AOper), aops[k]? = some x → aops[i]? = some y → Pair x y ∨ PairH x y ∨ PairS x y
  uniq : ∀ k, F k → ∀ (x : AOper) (d : Nat), aops[k]? = some x → x.dst = some d → ∀ (j : Nat) (y : AOper), j ≠ k → aops[j]? = some y → y.dst ≠ some d

theorem anc_listed {ops : Array Oper} {listed : Array Bool} (hdc : ∀ (j : Nat) (o : Oper), ops[j]? = some o → listed.getD j false = true → ∀ e, e ∈ o.after → Region.binds .any e = true → listed.getD e.on false = true) :
    ∀ (n k i : Nat) (o : Oper), ops[i]? = some o → (∀ e, e ∈ o.after → Region.binds .any e = true → listed.getD e.on false = true) → ancB ops n k i = true → listed.getD k false = true
  | 0, _, _, _, _, _, h => by simp [ancB] at h
  | n + 1, k, i, o, ho, hl, h => by
    simp only [ancB, ho] at h
    rw [← Array.any_toList, List.any_eq_true] at h
    obtain ⟨e, he, h⟩ := h
    simp only [Bool.and_eq_true, Bool.or_eq_true, beq_iff_eq] at h
    have hle := hl e (by simpa using he) h.1
    rcases h.2 with h2 | h2
    · rw [← h2]; exact hle
    · cases ho' : ops[e.on]? with
      | none =>
        cases n with
        | zero => simp [ancB] at h2
        | succ n => simp [ancB, ho'] at h2
      | some o' => exact anc_listed hdc n k e.on o' ho' (hdc e.on o' ho' hle) h2

theorem any_go {ops : Array Oper} {aops : List AOper} {F : Nat → Prop} {K : St → Prop} {Q : Exit → Act → World → Prop} (hp : Plan P C ops aops F) (hQ : ∀ a w, GoodL C K a w → Q .normal a w) :
    ∀ (n : Nat) (r : List Nat) (listed : Array Bool) (σl : St) (a : Act) (w : World) (S : Nat → Prop) (ρ : Name → Option Nat) (κ : Name → Nat), r.length = n → r.Pairwise (· < ·) → listed.size = ops.size →
      (∀ i, i ∈ r ↔ i < ops.size ∧ listed.getD i true = false) → (∀ i, i ∈ r → F i → ∀ (x : AOper) (d : Nat), aops[i]? = some x → x.dst = some d → look σl.s d = .junk) →
      (∀ (j : Nat) (o : Oper), ops[j]? = some o → listed.getD j false = true → ∀ e, e ∈ o.after → Region.binds .any e = true → listed.getD e.on false = true) →
      vcE P (fun f => ∃ σ' : St, σ'.f = f ∧ K σ') (atL aops r) σl.f → OK C σl.f a w S ρ κ → wpAny P .any ops Q n listed a w := by
  intro n
  induction n with
  | zero =>
    intro r listed σl a w S ρ κ hn _ hsz hr _ _ hv hok
    obtain rfl := List.length_eq_zero_iff.1 hn
    refine ⟨?_, ?_⟩
    · cases h : Region.ready .any ops listed with
      | nil => rfl
      | cons i l =>
        have : i ∈ Region.ready .any ops listed := by rw [h]; simp
        obtain ⟨h1, o, h2, _⟩ := mem_ready.1 this
        have : i ∈ ([] : List Nat) := (hr i).2 ⟨(Array.getElem?_eq_some_iff.1 h2).1, h1⟩
        cases this
    · obtain ⟨σ', h1, h2⟩ := hv
      exact hQ a w ⟨σ', S, ρ, κ, h2, by rw [h1]; exact hok⟩
  | succ n ih =>
    intro r listed σl a w S ρ κ hn hsort hsz hr hj hdc hv hok
    have done : ∀ i, i < ops.size → i ∉ r → listed.getD i false = true := by
      intro i hi hir
      cases h : listed.getD i true with
      | false => exact absurd ((hr i).2 ⟨hi, h⟩) hir
      | true =>
        have : i < listed.size := by omega
        simp [this] at h ⊢; exact h
    refine ⟨fun hnil => ?_, fun i hi => ?_⟩
    · exfalso
      cases r with
      | nil => simp at hn
      | cons r0 r =>
        obtain ⟨h1, h2⟩ := (hr r0).1 (by simp)
        have : r0 ∈ Region.ready .any ops listed := mem_ready.2 ⟨h2, ops[r0], by simp [h1], fun e he hb => by
          have hlt := hp.back r0 ops[r0] (by simp [h1]) e he hb
          refine done e.on (by omega) fun hm => ?_
          rcases List.mem_cons.1 hm with h | h
          · omega
          · have := List.rel_of_pairwise_cons hsort h; omega⟩
        rw [hnil] at this; cases this
    · obtain ⟨h1, oi, h2, h3⟩ := mem_ready.1 hi
      have hisz : i < ops.size := (Array.getElem?_eq_some_iff.1 h2).1
      have hir : i ∈ r := (hr i).2 ⟨hisz, h1⟩
      obtain ⟨r1, r2, rfl⟩ := List.append_of_mem hir
      have hai : i < aops.length := by rw [← hp.len]; exact hisz
      obtain ⟨y, hy⟩ : ∃ y, aops[i]? = some y := ⟨aops[i], by simp [hai]⟩
      obtain ⟨oi', g1, g2⟩ := hp.corr i y hy
      rw [h2] at g1
      obtain rfl := Option.some.inj g1
      have hlt : ∀ k, k ∈ r1 → k < i := fun k hk => (List.pairwise_append.1 hsort).2.2 k hk i (by simp)
      have hfl : ∀ k, k ∈ r1 → floatB ops k i = true := by
        intro k hk
        simp only [floatB, h2, afterB, Bool.not_eq_true', List.any_eq_false, ← Array.any_toList]
        intro e he
        simp only [Bool.and_eq_true, beq_iff_eq, not_and]
        intro hb hek
        have h4 := h3 e (by simpa using he) hb
        have h5 := ((hr k).1 (by simp [hk])).2
        rw [hek] at h4
        have : k < listed.size := by have := hlt k hk; omega
        simp [this] at h4 h5
        rw [h4] at h5; cases h5
      have hanc : ∀ k, k ∈ r1 → ancB ops ops.size k i = false := by
        intro k hk
        cases h : ancB ops ops.size k i with
        | false => rfl
        | true =>
          have h4 := anc_listed hdc ops.size k i oi h2 h3 h
          have h5 := ((hr k).1 (by simp [hk])).2
          have : k < listed.size := by have := hlt k hk; omega
          simp [this] at h4 h5
          rw [h4] at h5; cases h5
      have hmem : ∀ x, x ∈ atL aops r1 → ∃ k, k ∈ r1 ∧ aops[k]? = some x := by
        intro x hx
        obtain ⟨k, hk, hkx⟩ := List.mem_filterMap.1 hx
        exact ⟨k, hk, hkx⟩
      have e1 : atL aops (r1 ++ i :: r2) = atL aops r1 ++ y :: atL aops r2 := by
        rw [atL_append]; simp [atL, hy]
      rw [e1] at hv
      have hsort1 := (List.pairwise_append.1 hsort).1
      have hdist : (atL aops r1).Pairwise fun x x' => ∀ t, x'.dst = some t → x.dst ≠ some t := by
        have : r1.Pairwise fun k k' => ∀ x, aops[k]? = some x → ∀ x', aops[k']? = some x' → ∀ t, x'.dst = some t → x.dst ≠ some t := by
          refine hsort1.imp_of_mem fun {k k'} hk hk' hkk x hx x' hx' t ht => ?_
          have hF := (hp.pair k' i (hlt k' hk') hisz (hfl k' hk') (hanc k' hk')).1
          exact hp.uniq k' hF x' t hx' ht k x (by omega) hx
        exact List.pairwise_filterMap.2 (this.imp fun h x hx x' hx' => h x hx x' hx')
      have hreal : Real C σl.f := ⟨σl, a, w, S, ρ, κ, rfl, hok⟩
      have hpairs : ∀ k, k ∈ r1 → F k ∧ F i ∧ ∀ (x y : AOper), aops[k]? = some x → aops[i]? = some y → Pair x y ∨ PairH x y ∨ PairS x y := fun k hk => hp.pair k i (hlt k hk) hisz (hfl k hk) (hanc k hk)
      have hjx : ∀ x, x ∈ atL aops r1 → ∀ t, x.dst = some t → σl.f.s t = .junk := by
        intro x hx t ht
        obtain ⟨k, hk, hkx⟩ := hmem x hx
        exact hj k (by simp [hk]) (hpairs k hk).1 x t hkx ht
      have hbr : vcE P (fun f => ∃ σ' : St, σ'.f = f ∧ K σ') (y :: (atL aops r1 ++ atL aops r2)) σl.f := by
        by_cases hfy : freeO y = true
        · refine bringS (P := P) (C := C) (ops := ops) (y := y) hfy (atL aops r1) (atL aops r2) σl.f (fun x hx => ?_) hdist hreal hjx (fun hne t ht => ?_) hv
          · obtain ⟨k, hk, hkx⟩ := hmem x hx
            obtain ⟨o, q1, q2⟩ := hp.corr k x hkx
            refine ⟨?_, k, o, q1, q2⟩
            rcases (hpairs k hk).2.2 x y hkx hy with h | h | h
            · exact .inl h
            · have := h.fy; rw [hfy] at this; cases this
            · exact .inr h
          · cases r1 with
            | nil => exact absurd rfl hne
            | cons k _ => exact hj i (by simp) (hpairs k (by simp)).2.1 y t hy ht
        · refine bringH (P := P) (C := C) (ops := ops) (y := y) (atL aops r1) (atL aops r2) σl.f (fun x hx => ?_) hdist hreal hjx hv
          obtain ⟨k, hk, hkx⟩ := hmem x hx
          obtain ⟨o, q1, q2⟩ := hp.corr k x hkx
          refine ⟨?_, k, o, q1, q2⟩
          rcases (hpairs k hk).2.2 x y hkx hy with h | h | h
          · exact absurd h.fy hfy
          · exact h
          · exact absurd h.fy hfy
      have e2 : atL aops r1 ++ atL aops r2 = atL aops (r1 ++ r2) := (atL_append _ _ _).symm
      rw [e2] at hbr
      -- the rest
      have hnd : i ∉ r1 ∧ i ∉ r2 := by
        have hpw := List.pairwise_append.1 hsort
        exact ⟨fun h => Nat.lt_irrefl _ (hlt i h), fun h => Nat.lt_irrefl _ (List.rel_of_pairwise_cons hpw.2.1 h)⟩
      have hsort' : (r1 ++ r2).Pairwise (· < ·) := by
        have hpw := List.pairwise_append.1 hsort
        exact List.pairwise_append.2 ⟨hpw.1, hpw.2.1.tail, fun x hx y hy => hpw.2.2 x hx y (by simp [hy])⟩
      have hr' : ∀ k, k ∈ r1 ++ r2 ↔ k < ops.size ∧ (listed.setIfInBounds i true).getD k true = false := by
        intro k
        by_cases hki : k = i
        · subst hki
          have : k < listed.size := by omega
          simp [hnd.1, hnd.2, this]
        · rw [getD_set_ne true (Ne.symm hki), ← hr k]
          simp [hki]
      have hdc' : ∀ (j : Nat) (o : Oper), ops[j]? = some o → (listed.setIfInBounds i true).getD j false = true → ∀ e, e ∈ o.after → Region.binds .any e = true → (listed.setIfInBounds i true).getD e.on false = true := by
        intro j o ho hl e he hb
        refine getD_set_true ?_
        by_cases hji : i = j
        · subst hji
          rw [h2] at ho
          obtain rfl := Option.some.inj ho
          exact h3 e he hb
        · rw [getD_set_ne false hji] at hl
          exact hdc j o ho hl e he hb
      have next : ∀ (σ' : St) a' w', keepJ y.dst σl σ' → vcE P (fun f => ∃ σ' : St, σ'.f = f ∧ K σ') (atL aops (r1 ++ r2)) σ'.f → (∃ S ρ κ, OK C σ'.f a' w' S ρ κ) → wpAny P .any ops Q n (listed.setIfInBounds i true) a' w' := by
        rintro σ' a' w' hk hv' ⟨S', ρ', κ', hok'⟩
        refine ih (r1 ++ r2) _ σ' a' w' S' ρ' κ' (by simp at hn ⊢; omega) hsort' (by simp [hsz]) hr' (fun k hkr hF x d hx hxd => ?_) hdc' hv' hok'
        have hki : k ≠ i := by
          rintro rfl
          rcases List.mem_append.1 hkr with h | h
          · exact hnd.1 h
          · exact hnd.2 h
        refine hk d (hp.uniq k hF x d hx hxd i y (Ne.symm hki) hy) (hj k ?_ hF x d hx hxd)
        rcases List.mem_append.1 hkr with h | h
        · simp [h]
        · simp [h]
      simp only [vcE] at hbr
      split at hbr
      · obtain ⟨δ, q1, q2⟩ := hbr
        have hv1 := vc1_of (P := P) (o := y) (σ := canon σl) (δ := δ) (canon_ok σl) (by rw [canon_f]; exact q1)
        refine wpOp_mono (fun a' w' ⟨σ', S', ρ', κ', m1, m2⟩ => ?_) (op_wp h2 g2 hv1 (by rw [canon_f]; exact hok))
        rw [canon_f] at m1
        refine next σ' a' w' (fun t ht hjt => ?_) (by rw [m1]; exact q2) ⟨S', ρ', κ', m2⟩
        have : σ'.f.s t = (app y.dst δ σl.f).s t := by rw [m1]
        rw [app_s ht] at this
        exact this.trans hjt
      · obtain ⟨σ2, q1, q2⟩ := hbr
        refine wpOp_mono (fun a' w' ⟨σ', S', ρ', κ', m1, m2⟩ => ?_) (op_wp h2 g2 q2 (by rw [q1]; exact hok))
        refine next σ' a' w' (fun t ht hjt => m1.2 t ht ?_) m1.1 ⟨S', ρ', κ', m2⟩
        have : σ2.f.s t = σl.f.s t := by rw [q1]
        exact this.trans hjt

theorem bare_opnds (ao : AOper) : opnds ao.bare.op = opnds ao.op ∧ ao.bare.dst = ao.dst ∧ ao.bare.guard = ao.guard ∧ isRd ao.bare.op = isRd ao.op := by
  obtain ⟨d, op, g⟩ := ao
  cases op <;> exact ⟨rfl, rfl, rfl, rfl⟩

theorem seesB_bare (y : AOper) (t : Nat) : seesB y.bare t = seesB y t := by
  obtain ⟨h1, h2, h3, h4⟩ := bare_opnds y
  simp only [seesB, h1, h3]
theorem apartA_bare (x y : AOper) : apartA x.bare y.bare = apartA x y := by
  have hx := (bare_opnds x).2.1
  have hy := (bare_opnds y).2.1
  have e : ∀ (x y : AOper) (t : Nat), seesB y.bare t = seesB y t := fun _ y t => seesB_bare y t
  unfold apartA
  rw [hx, hy]
  cases x.dst <;> cases y.dst <;> simp only [seesB_bare]

theorem freeO_bare {x : AOper} (h : freeO x.bare = true) (hb : ∀ f args bor, x.op = .call f args bor → bor = []) (hs : ∀ k n z ps, x.op ≠ .bsliceC k n z ps) : freeO x = true := by
  obtain ⟨d, op, g⟩ := x
  cases op
  case bsliceC k n z ps => exact absurd rfl (hs k n z ps)
  case call f args bor =>
    have := hb f args bor rfl
    subst this
    exact h
  all_goals exact h

theorem look_keys {s : List (Nat × AV)} {d : Nat} (h : (s.all fun p => !(p.1 == d)) = true) : look s d = .junk := by
  induction s with
  | nil => rfl
  | cons p r ih =>
    obtain ⟨i, x⟩ := p
    simp only [List.all_cons, Bool.and_eq_true, Bool.not_eq_true', beq_eq_false_iff_ne] at h
    simp only [look]
    rw [if_neg (fun e => h.1 e.symm)]
    exact ih h.2

theorem filterMap_same {α β : Type} {f g : α → Option β} : ∀ {l : List α}, (∀ x, x ∈ l → f x = g x) → l.filterMap f = l.filterMap g
  | [], _ => rfl
  | x :: r, h => by simp only [List.filterMap_cons, h x (by simp), filterMap_same (l := r) fun y hy => h y (by simp [hy])]

instance : Inhabited AOper := ⟨⟨none, .lenC 0, none⟩⟩

theorem drawn_ok (hm : P.follows .mixedOrders = true) : DrawOK P (drawnG P) := by
  intro C id ops aops fl K Q σ a w S ρ κ hd hc hen hQ hv hok
  unfold drawnG at hd
  rw [hc] at hd
  simp only at hd
  split at hd
  · rename_i hop
    obtain rfl := Option.some.inj hd
    simp only [openB, Bool.and_eq_true, List.all_eq_true] at hop
    obtain ⟨hnt, hback, hpairs⟩ := hop
    have hnt := Nat.le_of_ble_eq_true hnt
    have hset0 : ∀ (k : Nat) (x : AOper) (d : Nat), aops[k]? = some x → x.dst = some d → d + 2000000 ∈ flOf ops (aops.map AOper.bare) ++ setL P ops (aops.map AOper.bare) → ∃ k' x', aops[k']? = some x' ∧ x'.dst = some d ∧ setB ops k' = true := by
      intro k x d hx hd hm
      have hdn : ∀ (k : Nat) (d : Nat), ((aops.map AOper.bare)[k]?).bind (·.dst) = some d → d < 1000000 := by
        intro k d hd
        have hkl : k < aops.length := by
          rcases Nat.lt_or_ge k aops.length with h | h
          · exact h
          · simp [h] at hd
        obtain ⟨_, g2⟩ := cOps_spec hc
        obtain ⟨o, q1, q2⟩ := g2 k aops[k] (by simp [hkl])
        obtain ⟨_, h2, h3, _⟩ := cOper_spec q2
        have : aops[k].dst = some d := by
          have e : ((aops.map AOper.bare)[k]?).bind (·.dst) = aops[k].dst := by simp [hkl, (bare_opnds aops[k]).2.1]
          rw [← e]; exact hd
        have hlt : d < C.nt := h3 d (h2.trans this)
        omega
      rcases List.mem_append.1 hm with hm | hm
      · exfalso
        simp only [flOf, List.mem_eraseDups, List.mem_flatMap, List.mem_filter] at hm
        obtain ⟨p, _, hp⟩ := hm
        rcases List.mem_append.1 hp with hp | hp
        · rcases List.mem_append.1 hp with hp | hp
          · have := hdn _ _ (Option.mem_toList.1 hp); omega
          · have := hdn _ _ (Option.mem_toList.1 hp); omega
        · split at hp
          · split at hp
            · rename_i x' y' hx' hy'
              unfold markB at hp
              rcases List.mem_append.1 hp with hp | hp
              · split at hp
                · split at hp
                  · rename_i d' hd'
                    have := hdn p.1 d' (by rw [hx']; exact hd')
                    simp at hp; omega
                  · cases hp
                · cases hp
              · split at hp
                · split at hp
                  · rename_i d' hd'
                    have := hdn p.2 d' (by rw [hy']; exact hd')
                    simp at hp; omega
                  · cases hp
                · cases hp
            · cases hp
          · cases hp
      · simp only [setL, List.mem_filterMap, List.mem_range, List.length_map] at hm
        obtain ⟨i, hi, hm⟩ := hm
        split at hm
        · rename_i o ho
          split at hm
          · rename_i d' hd'
            split at hm
            · rename_i hw
              simp only [Option.some.injEq] at hm
              have hdd : d' = d := by omega
              simp only [Bool.and_eq_true] at hw
              obtain ⟨x', hx', rfl⟩ : ∃ x', aops[i]? = some x' ∧ x'.bare = o := by
                rw [List.getElem?_map] at ho
                exact Option.map_eq_some_iff.1 ho
              exact ⟨i, x', hx', by rw [← (bare_opnds x').2.1, hd', hdd], hw.2⟩
            · cases hm
          · cases hm
        · cases hm
    obtain ⟨g1, g2⟩ := cOps_spec hc
    have hlen : ops.size = aops.length := by simpa using g1
    have hmem : ∀ k i, k < i → i < ops.size → floatB ops k i = true → (k, i) ∈ floatsL ops.size ops := by
      intro k i hk hi hf
      simp only [floatsL, List.mem_flatMap, List.mem_range, List.mem_filterMap]
      exact ⟨i, hi, k, hk, by rw [if_pos hf]⟩
    let F : Nat → Prop := fun k => ∃ p, p ∈ floatsL ops.size ops ∧ (pairB (aops.map AOper.bare) p.1 p.2 || pairN ops (aops.map AOper.bare) p.1 p.2) = true ∧ ancB ops ops.size p.1 p.2 = false ∧ (p.1 = k ∨ p.2 = k)
    have bareAt : ∀ (i : Nat) (x : AOper), aops[i]? = some x → (aops.map AOper.bare)[i]? = some x.bare := by
      intro i x hx; simp [hx]
    have hfl : ∀ (k : Nat) (x : AOper) (d : Nat), F k → aops[k]? = some x → x.dst = some d → d ∈ flOf ops (aops.map AOper.bare) ++ setL P ops (aops.map AOper.bare) := by
      rintro k x d ⟨p, hp, hpp, hpa, hpk⟩ hx hd
      refine List.mem_append_left _ ?_
      simp only [flOf, List.mem_eraseDups, List.mem_flatMap, List.mem_filter]
      refine ⟨p, ⟨hp, hpp⟩, ?_⟩
      have : ((aops.map AOper.bare)[k]?).bind (·.dst) = some d := by rw [bareAt k x hx]; simp [(bare_opnds x).2.1, hd]
      rcases hpk with h | h
      · rw [h, this]; simp
      · rw [h, this]; simp
    have hmk : ∀ (k i : Nat) (x y : AOper) (d : Nat), (k, i) ∈ floatsL ops.size ops → pairN ops (aops.map AOper.bare) k i = true → aops[k]? = some x → aops[i]? = some y → d ∈ markB x.bare y.bare → d ∈ flOf ops (aops.map AOper.bare) ++ setL P ops (aops.map AOper.bare) := by
      intro k i x y d hp hpp hx hy hd
      refine List.mem_append_left _ ?_
      simp only [flOf, List.mem_eraseDups, List.mem_flatMap, List.mem_filter]
      refine ⟨(k, i), ⟨hp, by rw [hpp, Bool.or_true]⟩, ?_⟩
      simp only [bareAt k x hx, bareAt i y hy, hpp, if_true]
      simp [hd]
    simp only [entryB, Bool.and_eq_true, List.all_eq_true] at hen
    have hjunk : ∀ (k : Nat) (x : AOper) (d : Nat), F k → aops[k]? = some x → x.dst = some d → look σ.s d = .junk := fun k x d hF hx hd =>
      look_keys (by simpa using hen.1 d (hfl k x d hF hx hd))
    have hbor : ∀ (k : Nat) (x : AOper), F k → aops[k]? = some x → freeO x.bare = true → freeO x = true := by
      intro k' x hF hx hfr
      have hds : isRd x.bare.op = false → x.dst.isSome = true := by
        intro hi
        simp only [freeO, Bool.and_eq_true, Bool.or_eq_true, hi, (bare_opnds x).2.1, Bool.false_eq_true, false_or] at hfr
        exact hfr.2
      have hsl : ∀ k n z ps, x.op ≠ .bsliceC k n z ps := by
        intro k n z ps e
        obtain ⟨d, hd⟩ := Option.isSome_iff_exists.1 (hds (by rw [(bare_opnds x).2.2.2, e]; rfl))
        have h1 := hen.2 x (List.mem_of_getElem? hx)
        rw [e, hd] at h1
        have h2 := hfl k' x d hF hx hd
        simp [h2] at h1
      refine freeO_bare hfr (fun f args bor e => ?_) hsl
      obtain ⟨d, hd⟩ := Option.isSome_iff_exists.1 (hds (by rw [(bare_opnds x).2.2.2, e]; rfl))
      have h1 := hen.2 x (List.mem_of_getElem? hx)
      rw [e, hd] at h1
      have h2 := hfl k' x d hF hx hd
      simp only [Bool.or_eq_true, List.isEmpty_iff, Bool.not_eq_true', List.contains_eq_mem, decide_eq_false_iff_not, decide_eq_true_eq] at h1
      rcases h1 with (h1 | h1) | h1
      · exact h1
      · exact absurd h2 h1
      · exfalso
        obtain ⟨k2, x2, g1, g2, g3⟩ := hset0 _ x d hx hd h1
        obtain ⟨⟨ka, ia⟩, hp, hpp, hpa, hpk⟩ := hF
        have hu : uniqB (aops.map AOper.bare) ka = true ∧ uniqB (aops.map AOper.bare) ia = true := by
          rw [Bool.or_eq_true] at hpp
          rcases hpp with hpp | hpp
          · simp only [pairB] at hpp
            split at hpp
            · simp only [Bool.and_eq_true] at hpp; exact ⟨hpp.1.2, hpp.2⟩
            · cases hpp
          · simp only [pairN] at hpp
            split at hpp
            · simp only [Bool.and_eq_true] at hpp; exact ⟨hpp.1.1.2, hpp.1.2⟩
            · cases hpp
        have huk : uniqB (aops.map AOper.bare) k' = true := by
          rcases hpk with h | h
          · simp only at h; rw [← h]; exact hu.1
          · simp only at h; rw [← h]; exact hu.2
        unfold uniqB at huk
        have e1 : ((aops.map AOper.bare)[k']?).bind (·.dst) = some d := by rw [bareAt k' x hx]; simp [(bare_opnds x).2.1, hd]
        have e2 : ((aops.map AOper.bare)[k2]?).bind (·.dst) = some d := by rw [bareAt k2 x2 g1]; simp [(bare_opnds x2).2.1, g2]
        rw [e1] at huk
        simp only [List.all_eq_true, List.mem_range, List.length_map] at huk
        have hq := huk k2 (List.getElem?_eq_some_iff.1 g1).1
        rw [e2] at hq
        have hkk : k2 = k' := by simpa using hq
        subst hkk
        unfold setB at g3
        have := List.all_eq_true.1 g3 _ hp
        simp only [hpa, Bool.or_false, Bool.not_eq_true', Bool.or_eq_false_iff, beq_eq_false_iff_ne] at this
        rcases hpk with h | h
        · exact this.1 h
        · exact this.2 h
    have hno : ∀ (k : Nat) (x : AOper) (d : Nat), aops[k]? = some x → x.dst = some d → d + 1000000 ∈ flOf ops (aops.map AOper.bare) ++ setL P ops (aops.map AOper.bare) → (∀ g n a, x.op ≠ .load g n a) ∧ ∀ o a, x.op ≠ .fieldAddr o a := by
      intro k x d hx hd hm
      have h1 := hen.2 x (List.mem_of_getElem? hx)
      refine ⟨fun g n a e => ?_, fun o a e => ?_⟩
      · rw [e, hd] at h1
        simp [hm] at h1
      · rw [e, hd] at h1
        simp [hm] at h1
    have hpair : ∀ k i, (k, i) ∈ floatsL ops.size ops → (pairB (aops.map AOper.bare) k i || pairN ops (aops.map AOper.bare) k i) = true → ancB ops ops.size k i = false → ∀ (x y : AOper), aops[k]? = some x → aops[i]? = some y → (Pair x y ∨ PairH x y ∨ PairS x y) ∧ uniqB (aops.map AOper.bare) k = true ∧ uniqB (aops.map AOper.bare) i = true := by
      intro k i hki h hpa x y hx hy
      have hpp := h
      rw [Bool.or_eq_true] at h
      rcases h with h | h
      · simp only [pairB, bareAt k x hx, bareAt i y hy, Bool.and_eq_true, Bool.or_eq_true, apartA_bare] at h
        refine ⟨?_, h.1.2, h.2⟩
        rcases h.1.1 with h1 | h1
        · exact .inl ⟨hbor k x ⟨_, hki, hpp, hpa, .inl rfl⟩ hx h1.1.1, hbor i y ⟨_, hki, hpp, hpa, .inr rfl⟩ hy h1.1.2, h1.2⟩
        · right; left
          simp only [hardB, Bool.and_eq_true, apartA_bare, Bool.not_eq_true', (bare_opnds y).2.2.1, Option.isNone_iff_eq_none] at h1
          obtain ⟨⟨⟨⟨q1, q2⟩, q3⟩, q4⟩, q5⟩ := h1
          have q2' : freeO y = false := by
            obtain ⟨d, op, g⟩ := y
            cases op <;> first
              | exact q2
              | (exfalso; revert q5; simp [AOper.bare, AOp.bare, AOp.bare0])
          refine ⟨hbor k x ⟨_, hki, hpp, hpa, .inl rfl⟩ hx q1, q2', q3, q4, ?_⟩
          obtain ⟨dy, opy, gy⟩ := y
          obtain ⟨dx, opx, gx⟩ := x
          cases opy <;> simp only [AOper.bare, AOp.bare, AOp.bare0] at q5 <;> try (cases q5; done)
          · refine .inl ⟨_, _, _, rfl, ?_⟩
            cases opx <;> first | exact q5 | simp [pureA, AOp.bare, AOp.bare0] at q5
          · right
            cases opx <;> simp only [AOp.bare, AOp.bare0] at q5 <;> try (cases q5; done)
            exact ⟨_, _, _, _, _, .inl rfl, .inl rfl⟩
          · right
            cases opx <;> simp only [AOp.bare, AOp.bare0] at q5 <;> try (cases q5; done)
            exact ⟨_, _, _, _, _, .inr rfl, .inl rfl⟩
      · have hN := h
        simp only [pairN, bareAt k x hx, bareAt i y hy, Bool.and_eq_true, Bool.or_eq_true] at h
        refine ⟨?_, h.1.1.2, h.1.2⟩
        rcases h.1.1.1 with h1 | h1
        · right; left
          have hh := h1
          simp only [hardL, Bool.and_eq_true, apartA_bare, Bool.not_eq_true', (bare_opnds y).2.2.1, (bare_opnds x).2.1, Option.isNone_iff_eq_none] at h1
          obtain ⟨⟨⟨⟨⟨⟨q1, q2⟩, q3⟩, q4⟩, q6⟩, q7⟩, q8⟩ := h1
          obtain ⟨d, hdx⟩ := Option.isSome_iff_exists.1 q6
          have hmark := hno k x d hx hdx (hmk k i x y _ hki hN hx hy (by unfold markB; rw [if_pos hh, (bare_opnds x).2.1, hdx]; exact List.mem_append_left _ (List.mem_singleton.2 rfl)))
          have ky : ∃ k b A X, y.op = .append k b A X ∨ y.op = .appendC k b A X := by
            obtain ⟨dy, opy, gy⟩ := y
            cases opy <;> simp only [AOper.bare, AOp.bare, AOp.bare0] at q7 <;> try (cases q7; done)
            · exact ⟨_, _, _, _, .inl rfl⟩
            · exact ⟨_, _, _, _, .inr rfl⟩
          have q2' : freeO y = false := by
            obtain ⟨k', b', A', X', h | h⟩ := ky <;> simp only [freeO, h, freeA, Bool.false_and]
          refine ⟨hbor k x ⟨_, hki, hpp, hpa, .inl rfl⟩ hx q1, q2', q3, q4, .inr ?_⟩
          obtain ⟨k', b', A', X', hky⟩ := ky
          refine ⟨k', b', A', X', .tmp 0, hky, .inr ?_⟩
          obtain ⟨dx, opx, gx⟩ := x
          cases opx <;> simp only [AOper.bare, AOp.bare, AOp.bare0] at q8 <;> try (cases q8; done)
          case load g n a => exact absurd rfl (hmark.1 g n a)
          case fieldAddr o a => exact absurd rfl (hmark.2 o a)
          case loadV g n a => exact trivial
          case fieldV o a => exact trivial
        · right; right
          have hh := h1
          simp only [softB, Bool.and_eq_true, apartA_bare, Bool.not_eq_true', (bare_opnds y).2.2.1, (bare_opnds x).2.2.1, (bare_opnds y).2.1, Option.isNone_iff_eq_none] at h1
          obtain ⟨⟨⟨⟨⟨⟨⟨q1, q2⟩, q3⟩, q4⟩, q5⟩, q6⟩, q7⟩, q8⟩ := h1
          obtain ⟨d, hdy⟩ := Option.isSome_iff_exists.1 q6
          have hmark := hno i y d hy hdy (hmk k i x y _ hki hN hx hy (by unfold markB; rw [if_pos hh, (bare_opnds y).2.1, hdy]; exact List.mem_append_right _ (List.mem_singleton.2 rfl)))
          have kx : ∃ k b A X, x.op = .append k b A X ∨ x.op = .appendC k b A X := by
            obtain ⟨dx, opx, gx⟩ := x
            cases opx <;> simp only [AOper.bare, AOp.bare, AOp.bare0] at q7 <;> try (cases q7; done)
            · exact ⟨_, _, _, _, .inl rfl⟩
            · exact ⟨_, _, _, _, .inr rfl⟩
          have q1' : freeO x = false := by
            obtain ⟨k', b', A', X', h | h⟩ := kx <;> simp only [freeO, h, freeA, Bool.false_and]
          refine ⟨q1', hbor i y ⟨_, hki, hpp, hpa, .inr rfl⟩ hy q2, q3, q4, q5, kx, ?_⟩
          obtain ⟨dy, opy, gy⟩ := y
          cases opy <;> simp only [AOper.bare, AOp.bare, AOp.bare0] at q8 <;> try (cases q8; done)
          case load g n a => exact absurd rfl (hmark.1 g n a)
          case fieldAddr o a => exact absurd rfl (hmark.2 o a)
          case loadV g n a => subst q8; exact .inl ⟨_, _, rfl⟩
          case fieldV o a => exact .inr ⟨_, _, rfl⟩
    have hplan : Plan P C ops aops F := by
      refine ⟨fun j ao hj => ?_, hlen, fun i o ho e he hb => ?_, fun k i hk hi hf hna => ?_, fun k hF x d hx hd j y hjk hy hyd => ?_⟩
      · obtain ⟨o, q1, q2⟩ := g2 j ao hj
        exact ⟨o, by simpa using q1, q2⟩
      · simp only [backB, List.all_eq_true, List.mem_range] at hback
        have := hback i (Array.getElem?_eq_some_iff.1 ho).1
        rw [ho] at this
        have := Array.all_eq_true'.1 this e he
        simpa [hb] using this
      · have hm' := hmem k i hk hi hf
        have hpp : (pairB (aops.map AOper.bare) k i || pairN ops (aops.map AOper.bare) k i) = true := by
          have := hpairs (k, i) hm'
          simp only [hna, Bool.or_false] at this
          exact this
        exact ⟨⟨_, hm', hpp, hna, .inl rfl⟩, ⟨_, hm', hpp, hna, .inr rfl⟩, fun x y hx hy => (hpair k i hm' hpp hna x y hx hy).1⟩
      · obtain ⟨⟨k', i'⟩, hp, hpp, hpa, hpk⟩ := hF
        have hlt : k' < aops.length ∧ i' < aops.length := by
          simp only [floatsL, List.mem_flatMap, List.mem_range, List.mem_filterMap] at hp
          obtain ⟨i2, h1, k2, h2, h3⟩ := hp
          split at h3
          · simp only [Option.some.injEq, Prod.mk.injEq] at h3; omega
          · cases h3
        have hu := hpair k' i' hp hpp hpa aops[k'] aops[i'] (by simp [hlt.1]) (by simp [hlt.2])
        have hu : uniqB (aops.map AOper.bare) k = true := by
          rcases hpk with h | h
          · simp only at h; subst h; exact hu.2.1
          · simp only at h; subst h; exact hu.2.2
        unfold uniqB at hu
        have e1 : ((aops.map AOper.bare)[k]?).bind (·.dst) = some d := by rw [bareAt k x hx]; simp [(bare_opnds x).2.1, hd]
        have e2 : ((aops.map AOper.bare)[j]?).bind (·.dst) = some d := by rw [bareAt j y hy]; simp [(bare_opnds y).2.1, hyd]
        rw [e1] at hu
        simp only [List.all_eq_true, List.mem_range, List.length_map] at hu
        have hjl := (List.getElem?_eq_some_iff.1 hy).1
        have := hu j hjl
        rw [e2] at this
        simp [hjk] at this
    have hok' : OK C σ.f a { w with drawn := w.drawn + 1 } S ρ κ := hok.ext (Ext.of_heap rfl rfl rfl)
    refine wp_region_any hm ?_
    refine any_go hplan hQ ops.size (List.range ops.size) _ σ a _ S ρ κ (by simp) List.pairwise_lt_range (by simp) (fun i => ?_) (fun i _ hF x d hx hd => hjunk i x d hF hx hd) (fun j o ho hl => ?_) ?_ hok'
    · simp only [List.mem_range]
      constructor
      · intro h; exact ⟨h, by simp [h]⟩
      · exact fun h => h.1
    · exfalso
      have hj := (Array.getElem?_eq_some_iff.1 ho).1
      simp [hj] at hl
    · have e : atL aops (List.range ops.size) = aops := by
        rw [hlen]
        unfold atL
        have : ∀ (l : List AOper) (k : Nat), (List.range' k l.length).filterMap (fun i => (List.replicate k default ++ l)[i]?) = l := by
          intro l
          induction l with
          | nil => intro k; simp
          | cons x r ih =>
            intro k
            rw [List.length_cons, List.range'_succ, List.filterMap_cons]
            have h1 : (List.replicate k default ++ x :: r)[k]? = some x := by simp
            rw [h1]
            have := ih (k + 1)
            rw [show List.replicate k (default : AOper) ++ x :: r = (List.replicate k default ++ [x]) ++ r by simp]
            have h2 : ∀ i, i ∈ List.range' (k + 1) r.length → ((List.replicate k (default : AOper) ++ [x]) ++ r)[i]? = (List.replicate (k + 1) default ++ r)[i]? := by
              intro i hi
              have := (List.mem_range'_1.1 hi).1
              rw [List.getElem?_append_right (by simp; omega), List.getElem?_append_right (by simp; omega)]
              simp
            rw [filterMap_same h2]
            simp only
            exact congrArg (x :: ·) this
        have := this aops 0
        simp only [List.replicate_zero, List.nil_append] at this
        rw [List.range_eq_range', this]
      rw [e]
      exact vcE_of aops σ hv
  · cases hd

/-- The function of this number is this one, and its code is this one, resolved. -/
def CodeIsR (P : Program) (f : FuncId) (fn : Func) (ac : ACode) : Prop :=
  P.funcs[f]? = some fn ∧ (fn.body.bind (cCode P fn.ntmps (drawnG P))) = some ac.bare ∧ (fn.name != "runtime.NumGoroutine") = true

theorem CodeIsR.fn {f : FuncId} {fn : Func} {ac : ACode} (h : CodeIsR P f fn ac) (hm : P.follows .mixedOrders = true) {hin : List Blk} {args : List AV} {r : AV} {hout' : List (Option Blk)} (nt : Nat) (rs : List ResultVar) (B : List Name) (hout : List Blk) (hnt : fn.ntmps = nt) (hrs : fn.results.toList = rs)
    (ho : hout' = hout.map some) (hna : args.length ≤ nt) (hnd : nodupB B = true) (hB : ∀ j, j < hin.length → B[j]? = some (.b j))
    (hw : ∀ C : Ctx, wpc P C (drawnG P) ac (retK P rs B r hout) (fun e σ => match e with | .ret => retK P rs B r hout σ | .exit _ => False) ⟨ini 0 args, iniH 0 hin⟩) :
    Fn P f hin args r hout' := by
  subst hnt; subst hrs; subst ho
  obtain ⟨h1, h2, h3⟩ := h
  obtain ⟨body, hb, hc⟩ := Option.bind_eq_some_iff.1 h2
  exact Fn.intro (drawn_ok hm) B h1 hb (by simpa using h3) hc hna (nodupB_spec hnd) hB fun C _ => hw C
end Go.Vs
