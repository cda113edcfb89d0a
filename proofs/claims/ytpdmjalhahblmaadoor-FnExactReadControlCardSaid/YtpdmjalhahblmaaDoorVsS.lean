/- What an operation depends on: the values of its operands, and the blocks that they reach. -/
import Derived.Test.YtpdmjalhahblmaaDoorVsO
namespace Go.Vs
set_option linter.unusedSectionVars false
variable [Envs]
variable {P : Program} {C : Ctx} {a : Act} {w : World} {S : Nat → Prop} {ρ : Name → Option Nat} {κ : Name → Nat} {h : Name → Option Blk}

theorem mapO_lent (hok : HOK S w ρ κ h) {S' : Nat → Prop} (hS : ∀ b, S b → S' b) {E : List Name} {ρ' : Name → Option Nat} {κ' : Name → Nat} {h' : Name → Option Blk}
    (hE : ∀ j n, E[j]? = some n → ρ' (.b j) = ρ n ∧ κ' (.b j) = κ n ∧ ∀ b', h' (.b j) = some b' → ∃ b, h n = some b ∧ b.same b') {c : Bool}
    {cs cs' : List AV} {L : List Name} {vs : Array Value} (hm : mapO (conv h 8 E c) cs = some (cs', L)) (hL : ∀ n, n ∈ L → ∀ y, ρ n = some y → S' y) (hr : ∀ j, j < cs.length → RV S w ρ κ h (cs.getD j .junk) (vs.getD j undef)) :
    ∀ n, n ∈ L → n ∉ E ∧ (h n).isSome := by
  intro n hn
  obtain ⟨j, hj, Lj, g1, g2⟩ := mapO_mem hm n hn
  obtain ⟨Lj', g1', g3⟩ := (mapO_spec hm).2 j hj
  rw [g1] at g1'
  simp only [Option.some.injEq, Prod.mk.injEq, true_and] at g1'
  subst g1'
  exact (conv_spec hok hS hE 8 c _ _ _ _ g1 (fun m hm => hL m (g3 m hm)) (hr j hj)).2.2 n g2

/-- What a caller sees of a state: a value, and the blocks of these names. -/
theorem export_spec (hok : HOK S w ρ κ h) {B : List Name} (hnd : B.Nodup) {x y : AV} {v : Value} {hout : List Blk} {L1 L2 : List Name} (hx : RV S w ρ κ h x v)
    (hc : conv h 8 B false x = some (y, L1)) (hbs : blksO h B B = some (hout, L2)) :
    ∃ (S' : Nat → Prop) (ρ' : Name → Option Nat) (κ' : Name → Nat), HOK S' w ρ' κ' (Hn (hout.map some)) ∧ RV S' w ρ' κ' (Hn (hout.map some)) y v ∧ (∀ b, S b → S' b) ∧
      (∀ b, S' b → S b ∨ ∃ n, (h n).isSome ∧ ρ n = some b) ∧ (∀ j z, (((hout.map some).getD j none).isSome) → ρ' (.b j) = some z → ∃ n, (h n).isSome ∧ ρ n = some z) ∧
      ∀ j n, B[j]? = some n → ρ' (.b j) = ρ n ∧ κ' (.b j) = κ n ∧ ∀ b', Hn (hout.map some) (.b j) = some b' → ∃ b, h n = some b ∧ b.same b' := by
  obtain ⟨hbl, hbj, hbm⟩ := blksO_spec _ _ hbs
  let L := L1 ++ L2
  let S1 : Nat → Prop := fun y => S y ∨ ∃ n, n ∈ L ∧ ρ n = some y
  let ρ0 : Name → Option Nat := fun m => match m with | .b j => (B[j]?).bind ρ | .t _ _ => none
  let κ0 : Name → Nat := fun m => match m with | .b j => ((B[j]?).map κ).getD 0 | .t _ _ => 0
  have hS1 : ∀ y, S y → S1 y := fun y hy => .inl hy
  have hL1 : ∀ n, n ∈ L1 → n ∈ L := fun n hn => List.mem_append_left _ hn
  have hL2 : ∀ n, n ∈ L2 → n ∈ L := fun n hn => List.mem_append_right _ hn
  have hE : ∀ j n, B[j]? = some n → ρ0 (.b j) = ρ n ∧ κ0 (.b j) = κ n ∧ ∀ b', Hn (hout.map some) (.b j) = some b' → ∃ b, h n = some b ∧ b.same b' := by
    intro j n hj
    refine ⟨by simp [ρ0, hj], by simp [κ0, hj], fun b' hb' => ?_⟩
    obtain ⟨b, b2, Lj, g1, g2, g3, _, _⟩ := hbj j n hj
    have : b' = b2 := by
      simp only [Hn, List.getD, List.getElem?_map, g3, Option.map_some, Option.getD_some, Option.some.injEq] at hb'
      exact hb'.symm
    subst this
    refine ⟨b, g1, ?_⟩
    cases b with
    | var c z =>
      simp only [convB] at g2
      cases hm : mapO (conv h 8 B false) c with
      | none => rw [hm] at g2; cases g2
      | some p =>
        rw [hm] at g2
        simp only [Option.map_some, Option.some.injEq, Prod.mk.injEq] at g2
        rw [← g2.1]
        exact ((mapO_spec hm).1).symm
    | arr k l z =>
      simp only [convB, Option.some.injEq, Prod.mk.injEq] at g2
      rw [← g2.1]; exact Blk.same_refl _
  have hLS : ∀ m, m ∈ L → ∀ y, ρ m = some y → S1 y := fun m hm y hy => .inr ⟨m, hm, hy⟩
  have spec := conv_spec hok hS1 (κ' := κ0) hE 8
  have hlent : ∀ n, n ∈ L → n ∉ B ∧ (h n).isSome := by
    intro n hn
    rcases List.mem_append.1 hn with hn | hn
    · exact (spec false _ _ _ _ hc (fun m hm => hLS m (hL1 m hm)) hx).2.2 n hn
    · obtain ⟨n', b, b', Lj, g1, g2, g3, g4⟩ := hbm n hn
      cases b with
      | arr k l z =>
        simp only [convB, Option.some.injEq, Prod.mk.injEq] at g3
        rw [← g3.2] at g4; simp at g4
      | var c z =>
        simp only [convB] at g3
        cases hm : mapO (conv h 8 B false) c with
        | none => rw [hm] at g3; cases g3
        | some p =>
          obtain ⟨c', Lp⟩ := p
          rw [hm] at g3
          simp only [Option.map_some, Option.some.injEq, Prod.mk.injEq] at g3
          obtain ⟨_, rfl⟩ := g3
          obtain ⟨x, cs, T, fr, q1, q2, q3, q4, _, q5, q6, q7⟩ := hok.blk n' _ g2
          obtain ⟨i, hi⟩ := List.mem_iff_getElem?.1 g1
          obtain ⟨b1, b2, Lb, p1, p2, p3, p4, p5⟩ := hbj i n' hi
          rw [g2] at p1
          obtain rfl := Option.some.inj p1
          simp only [convB, hm, Option.map_some, Option.some.injEq, Prod.mk.injEq] at p2
          obtain ⟨_, rfl⟩ := p2
          exact mapO_lent hok hS1 (κ' := κ0) hE hm (fun m hm => hLS m (hL2 m (p5 m hm))) (fun j hj => (q7 j hj).2) n g4
  have hBS : ∀ n b, n ∈ B → h n = some b → b.fz = false → ∀ x, ρ n = some x → ¬ S1 x := by
    rintro n b hn hb hz x hx (hs | ⟨m, hm, hmx⟩)
    · have := hok.blk n b hb
      cases b with
      | var c z =>
        obtain ⟨y, _, _, _, g1, _, _, g2, _⟩ := this
        obtain rfl := Option.some.inj (hx.symm.trans g1)
        exact g2 hz hs
      | arr k l z =>
        obtain ⟨_, ⟨g1, _⟩ | ⟨y, _, _, _, g1, _, _, g2, _⟩⟩ := this
        · rw [hx] at g1; cases g1
        · obtain rfl := Option.some.inj (hx.symm.trans g1)
          exact g2 hz hs
    · have := hok.inj m n x (hlent m hm).2 (by simp [hb]) hmx hx
      subst this
      exact (hlent m hm).1 hn
  have hHn : ∀ j b', Hn (hout.map some) (.b j) = some b' → ∃ n b Lj, B[j]? = some n ∧ h n = some b ∧ convB h B b = some (b', Lj) ∧ (∀ m, m ∈ Lj → m ∈ L2) ∧ b'.fz = false := by
    intro j b' hb'
    have hj : j < B.length := by
      rw [← hbl]
      rcases Nat.lt_or_ge j hout.length with h' | h'
      · exact h'
      · simp [Hn, List.getD, List.getElem?_eq_none h'] at hb'
    obtain ⟨b, b2, Lj, g1, g2, g3, g4, g5⟩ := hbj j B[j] (by simp [hj])
    have : b' = b2 := by
      simp only [Hn, List.getD, List.getElem?_map, g3, Option.map_some, Option.getD_some, Option.some.injEq] at hb'
      exact hb'.symm
    subst this
    exact ⟨B[j], b, Lj, by simp [hj], g1, g2, g5, g4⟩
  have hok1 : HOK S1 w ρ0 κ0 (Hn (hout.map some)) := by
    refine ⟨fun m b' hb' => ?_, fun m m' x h1 h2 h3 h4 => ?_, ?_, hok.env.mono hS1 fun _ _ => rfl⟩
    · cases m with
      | t => simp [Hn] at hb'
      | b j =>
        obtain ⟨n, b, Lj, g0, g1, g2, g5, g4⟩ := hHn j b' hb'
        obtain ⟨e1, e2, _⟩ := hE j n g0
        have hb := hok.blk n b g1
        have hnS := hBS n b (List.mem_of_getElem? g0) g1
        cases b with
        | var c z =>
          simp only [convB] at g2
          cases hm : mapO (conv h 8 B false) c with
          | none => rw [hm] at g2; cases g2
          | some p =>
            obtain ⟨c', Lp⟩ := p
            rw [hm] at g2
            simp only [Option.map_some, Option.some.injEq, Prod.mk.injEq] at g2
            obtain ⟨rfl, rfl⟩ := g2
            obtain ⟨x, cs, T, fr, q1, q2, q3, q4, q4', q5, q6, q7⟩ := hb
            obtain ⟨l1, l2⟩ := mapO_spec hm
            refine ⟨x, cs, T, fr, by rw [e1]; exact q1, q2, q3, fun hz => hnS hz x q1, fun hz => .inl (q4' hz), by rw [e2]; exact q5, by omega, fun i hi => ⟨(q7 i (by omega)).1, ?_⟩⟩
            obtain ⟨Li, l3, l4⟩ := l2 i (by omega)
            exact (spec false _ _ _ _ l3 (fun m hm => hLS m (hL2 m (g5 m (l4 m hm)))) (q7 i (by omega)).2).1 rfl
        | arr k l z =>
          simp only [convB, Option.some.injEq, Prod.mk.injEq] at g2
          obtain ⟨rfl, rfl⟩ := g2
          obtain ⟨q0, ⟨q1, q2⟩ | ⟨x, cs, T, fr, q1, q2, q3, q4, q4', q5, q6, q7⟩⟩ := hb
          · exact ⟨q0, .inl ⟨by rw [e1]; exact q1, q2⟩⟩
          · exact ⟨q0, .inr ⟨x, cs, T, fr, by rw [e1]; exact q1, q2, q3, fun hz => hnS hz x q1, fun hz => .inl (q4' hz), by rw [e2]; exact q5, q6, fun i j hi hj => ⟨(q7 i j hi hj).1, (q7 i j hi hj).2.mono hS1 fun _ _ => rfl⟩⟩⟩
    · cases m with
      | t => simp [Hn] at h1
      | b j =>
        cases m' with
        | t => simp [Hn] at h2
        | b j' =>
          obtain ⟨b1, hb1⟩ := Option.isSome_iff_exists.1 h1
          obtain ⟨b2, hb2⟩ := Option.isSome_iff_exists.1 h2
          obtain ⟨n, b, _, g0, g1, _⟩ := hHn j b1 hb1
          obtain ⟨n', b', _, g0', g1', _⟩ := hHn j' b2 hb2
          rw [(hE j n g0).1] at h3
          rw [(hE j' n' g0').1] at h4
          obtain rfl := hok.inj n n' x (by simp [g1]) (by simp [g1']) h3 h4
          congr 1
          have e1 := idxN_get hnd g0
          have e2 := idxN_get hnd g0'
          rw [e1] at e2; exact Option.some.inj e2
    · rintro y (hy | ⟨n, hn, hy⟩)
      · exact hok.dom y hy
      · exact hok.lt (hlent n hn).2 hy
  refine ⟨S1, ρ0, κ0, hok1, (spec false _ _ _ _ hc (fun m hm => hLS m (hL1 m hm)) hx).1 rfl, hS1, ?_, ?_, hE⟩
  · rintro b (hb | ⟨n, hn, hb⟩)
    · exact .inl hb
    · exact .inr ⟨n, (hlent n hn).2, hb⟩
  · intro j z hj hz
    obtain ⟨b', hb'⟩ := Option.isSome_iff_exists.1 hj
    obtain ⟨n, b, _, g0, g1, _⟩ := hHn j b' hb'
    rw [(hE j n g0).1] at hz
    exact ⟨n, by simp [g1], hz⟩

/-! ## what a function hands back -/
def resV (P : Program) (σ : St) (K : AV → Prop) : ResultVar → Prop
  | .tmp t => K (look σ.s t)
  | .cell A T => match ldOf P T with
    | some (g, k) => rd (evO (look σ.s)) (hlook σ.h) K (.load g k (.tmp A))
    | none => False

def resL (P : Program) (σ : St) (K : List AV → Prop) : List ResultVar → Prop
  | [] => K []
  | r :: rs => resV P σ (fun x => resL P σ (fun xs => K (x :: xs)) rs) r

def oneOr : List AV → AV
  | [x] => x
  | l => .tup l

/-- The value that is handed back, and the new blocks that the caller may write. -/
def retK (P : Program) (rs : List ResultVar) (B : List Name) (r : AV) (hout : List Blk) (σ : St) : Prop :=
  resL P σ (fun xs => ∃ L1 L2, conv (hlook σ.h) 8 B false (oneOr xs) = some (r, L1) ∧ blksO (hlook σ.h) B B = some (hout, L2)) rs

def resS (tmps : Array Value) : ResultVar → Sem Value
  | .tmp t => pure (tmps.getD t undef)
  | .cell A T => do loadVar T (← asAddr (tmps.getD A undef))

theorem resV_run {σ : St} {K : AV → Prop} (hok : OK C σ.f a w S ρ κ) {r : ResultVar} (h : resV P σ K r) :
    ∃ x v, K x ∧ RV S w ρ κ σ.f.h x v ∧ (resS a.tmps r).run P w = .ok v w := by
  cases r with
  | tmp t => exact ⟨_, _, h, hok.slots t, by simp [resS]⟩
  | cell A T =>
    simp only [resV] at h
    split at h
    · rename_i g k hl
      obtain ⟨x, v, hK, hrun, hx⟩ := rd_load hok hl h
      refine ⟨x, v, hK, hx, ?_⟩
      simp only [resS]
      have e : a.eval (.tmp A) = a.tmps.getD A undef := rfl
      rw [e] at hrun
      simp only [Instr.loadAt, Sem.run_bind] at hrun
      simp only [rd] at h
      have hev := hok.ev (.tmp A)
      rw [e] at hev
      generalize a.tmps.getD A undef = va at hev hrun ⊢
      split at h
      · rename_i c hc
        rw [show evO σ.f.s (.tmp A) = _ from hc] at hev
        cases inv_ro hev with
        | ro _ b off xs _ _ _ _ =>
          simp only [Sem.run_bind, asAddr, Instr.sureAddr, Sem.run_pure, Result.andThen_ok] at hrun ⊢
          exact hrun
      · rename_i n e' c hc
        rw [show evO σ.f.s (.tmp A) = _ from hc] at hev
        split at h
        · rename_i b hb
          obtain ⟨y, hy, hva⟩ := inv_ptr hev b hb
          rw [hva] at hrun ⊢
          simp only [Sem.run_bind, asAddr, Instr.sureAddr, Sem.run_pure, Result.andThen_ok] at hrun ⊢
          exact hrun
        · exact h.elim
      · exact h.elim
    · exact h.elim

theorem resL_run {σ : St} (hok : OK C σ.f a w S ρ κ) : ∀ {rs : List ResultVar} {K : List AV → Prop}, resL P σ K rs →
    ∃ xs vs, K xs ∧ vs.length = xs.length ∧ (∀ j, j < xs.length → RV S w ρ κ σ.f.h (xs.getD j .junk) (vs.getD j undef)) ∧
      (rs.mapM (resS a.tmps)).run P w = .ok vs w
  | [], K, h => ⟨[], [], h, rfl, by simp, by simp⟩
  | r :: rs, K, h => by
    obtain ⟨x, v, h1, h2, h3⟩ := resV_run hok h
    obtain ⟨xs, vs, h4, h5, h6, h7⟩ := resL_run hok h1
    refine ⟨x :: xs, v :: vs, h4, by simp [h5], fun j hj => ?_, ?_⟩
    · cases j with
      | zero => simpa using h2
      | succ j => simpa using h6 j (by simpa using hj)
    · simp only [List.mapM_cons, Sem.run_bind, h3, Result.andThen_ok, h7, Sem.run_pure]

theorem res_run {σ : St} (hok : OK C σ.f a w S ρ κ) {fn : Func} {K : AV → Prop} (h : resL P σ (fun xs => K (oneOr xs)) fn.results.toList) :
    ∃ x v, K x ∧ RV S w ρ κ σ.f.h x v ∧ (results fn a.tmps).run P w = .ok v w := by
  obtain ⟨xs, vs, h1, h2, h3, h4⟩ := resL_run hok h
  have hr : (results fn a.tmps).run P w = .ok (if h : vs.toArray.size = 1 then vs.toArray[0] else .tuple vs.toArray) w := by
    have hm : fn.results.mapM (resS a.tmps) = (do pure (← fn.results.toList.mapM (resS a.tmps)).toArray) := by
      rw [← Array.toArray_toList (xs := fn.results), List.mapM_toArray]
      rfl
    change (do let vs ← fn.results.mapM (resS a.tmps); pure (if h : vs.size = 1 then vs[0] else .tuple vs) : Sem Value).run P w = _
    rw [hm]
    simp only [Sem.run_bind, h4, Result.andThen_ok, Sem.run_pure]
  refine ⟨_, _, h1, ?_, hr⟩
  match xs, vs, h2, h3 with
  | [x], [v], _, h3 => simpa [oneOr] using h3 0 (by simp)
  | [], [], _, h3 => exact .tup _ _ rfl (by simp)
  | x :: x' :: r, v :: v' :: r', h2, h3 => exact .tup _ _ (by simpa using h2.symm) fun j hj => by simpa using h3 j hj

/-- A function's frame as it is entered. -/
def ini : Nat → List AV → List (Nat × AV)
  | _, [] => []
  | i, x :: r => (i, x) :: ini (i + 1) r

theorem look_ini : ∀ (l : List AV) (i t : Nat), look (ini i l) t = if i ≤ t ∧ t < i + l.length then l.getD (t - i) .junk else .junk
  | [], i, t => by simp [ini, look]
  | x :: r, i, t => by
    simp only [ini, look, look_ini r (i + 1) t, List.length_cons]
    by_cases h1 : t = i
    · subst h1; simp
    · simp only [h1, if_false]
      by_cases h2 : i + 1 ≤ t ∧ t < i + 1 + r.length
      · have h3 : i ≤ t ∧ t < i + (r.length + 1) := by omega
        simp only [h2, h3, if_true, and_self]
        rw [show t - i = (t - (i + 1)) + 1 by omega]; simp
      · have h3 : ¬ (i ≤ t ∧ t < i + (r.length + 1)) := by omega
        simp only [h2, h3, if_false]

def iniH : Nat → List Blk → List (Name × Blk)
  | _, [] => []
  | i, b :: r => (.b i, b) :: iniH (i + 1) r

theorem hlook_iniH_t (d j : Nat) : ∀ (l : List Blk) (i : Nat), hlook (iniH i l) (.t d j) = none
  | [], i => rfl
  | b :: r, i => by simp [iniH, hlook, hlook_iniH_t d j r]

theorem hlook_iniH_b (j : Nat) : ∀ (l : List Blk) (i : Nat), hlook (iniH i l) (.b j) = if i ≤ j then l[j - i]? else none
  | [], i => by simp [iniH, hlook]
  | b :: r, i => by
    simp only [iniH, hlook, Name.b.injEq, hlook_iniH_b j r]
    by_cases h : j = i
    · subst h; simp
    · by_cases h2 : i ≤ j
      · have h3 : i + 1 ≤ j := by omega
        simp only [h, h2, h3, if_true, if_false]
        rw [show j - i = (j - (i + 1)) + 1 by omega]; simp
      · have h3 : ¬ i + 1 ≤ j := by omega
        simp [h, h2, h3]

theorem hlook_iniH (l : List Blk) : hlook (iniH 0 l) = Hn (l.map some) := by
  funext n
  cases n with
  | t d j => rw [hlook_iniH_t]; rfl
  | b j =>
    rw [hlook_iniH_b]
    simp only [Nat.zero_le, if_true, Nat.sub_zero, Hn, List.getD, List.getElem?_map]
    cases l[j]? <;> rfl

/-- THE RULE FOR A FUNCTION. 'B': the names of the blocks that the caller may write behind the call, those that were handed in first. -/
theorem Fn.intro {drawn : Nat → Array Oper → Option (List Nat)} {f : FuncId} {fn : Func} (hdr : DrawOK P drawn) {body : Code} {ac : ACode} {hin : List Blk} {args : List AV} {r : AV} {hout : List Blk} (B : List Name)
    (hf : P.funcs[f]? = some fn) (hb : fn.body = some body) (hname : fn.name ≠ "runtime.NumGoroutine") (hc : cCode P fn.ntmps drawn body = some ac.bare) (hna : args.length ≤ fn.ntmps) (hnd : B.Nodup)
    (hB : ∀ j, j < hin.length → B[j]? = some (.b j))
    (hw : ∀ C : Ctx, C.nt = fn.ntmps → wpc P C drawn ac (retK P fn.results.toList B r hout) (fun e σ => match e with | .ret => retK P fn.results.toList B r hout σ | .exit _ => False) ⟨ini 0 args, iniH 0 hin⟩) :
    Fn P f hin args r (hout.map some) := by
  refine ⟨⟨fn, body, hf, hb, hname⟩, ?_⟩
  intro S w ρ κ vs hok _ hvs hargs
  let C : Ctx := { nt := fn.ntmps, w0 := w, S0 := S, Mut := MutOf ρ hin, ρ0 := fun j => ρ (.b j), κ0 := fun j => κ (.b j), h0 := fun j => hin[j]? }
  have hC := hw C rfl
  refine calls_of_wp hf hb ?_
  have hret : ∀ a w', GoodL C (retK P fn.results.toList B r hout) a w' → a.defers = [] ∧ ∃ v, (results fn a.tmps).run P w' = .ok v w' ∧
      ∃ v2 S' ρ' κ', Ending.returned v = .returned v2 ∧ Post S w ρ κ hin S' w' ρ' κ' (hout.map some) ∧ RV S' w' ρ' κ' (Hn (hout.map some)) r v2 := by
    rintro a w' ⟨σ, S1, ρ1, κ1, hK, hok1⟩
    refine ⟨hok1.defers, ?_⟩
    obtain ⟨x, v, ⟨L1, L2, h1, h2⟩, h3, h4⟩ := res_run hok1 (K := fun x => ∃ L1 L2, conv (hlook σ.h) 8 B false x = some (r, L1) ∧ blksO (hlook σ.h) B B = some (hout, L2)) hK
    refine ⟨v, h4, v, ?_⟩
    obtain ⟨S', ρ', κ', g1, g2, g3, g4, g5, g6⟩ := export_spec hok1.hok hnd h3 h1 h2
    refine ⟨S', ρ', κ', rfl, ⟨g1, hok1.size, fun b hb hm => hok1.old b hb hm, fun b hb => g3 b (hok1.S0 b hb), fun b hb => ?_, fun j z hj hz => ?_, hok1.out, fun j b' hj hj' => ?_⟩, g2⟩
    · rcases g4 b hb with h | ⟨n, hn, h⟩
      · exact hok1.Snew b h
      · exact .inr (hok1.mine n b hn h)
    · obtain ⟨n, hn, h⟩ := g5 j z hj hz
      exact hok1.mine n z hn h
    · obtain ⟨e1, e2, e3⟩ := g6 j (.b j) (hB j hj)
      obtain ⟨b, h5, h6⟩ := e3 b' hj'
      obtain ⟨e4, e5, b0, h7, h8⟩ := hok1.keep j b h5
      exact ⟨e1.trans e4, e2.trans e5, b0, h7, Blk.same_trans h8 h6⟩
  refine wpc_sound hdr ac _ _ _ hC body _ _ w S ρ κ hc (fun a w' hg => hret a w' hg) (fun i a w' ⟨_, _, _, _, h, _⟩ => h.elim) (fun a w' hg => hret a w' hg) ?_
  have hmem : ∀ n, ((Hn (hin.map some)) n).isSome → ∃ j, j < hin.length ∧ n = .b j := by
    intro n hn
    cases n with
    | t d j => simp [Hn] at hn
    | b j =>
      refine ⟨j, ?_, rfl⟩
      rcases Nat.lt_or_ge j hin.length with h | h
      · exact h
      · simp [Hn, List.getD, List.getElem?_eq_none h] at hn
  refine ⟨?_, rfl, fun t => ?_, by simp only [St.f, hlook_iniH]; exact hok, Nat.le_refl _, fun _ _ _ => rfl, fun n x h1 h2 => ?_, fun _ h => h, fun b hb => .inl hb, ⟨rfl, rfl⟩, fun j b hb => ?_⟩
  · simp only [C, Array.size_append, Array.size_replicate]; omega
  · simp only [St.f, look_ini, Nat.zero_le, true_and, Nat.zero_add, Nat.sub_zero, hlook_iniH]
    split
    · rename_i ht
      have e : (vs ++ Array.replicate (fn.ntmps - vs.size) undef).getD t undef = vs.getD t undef := by
        have h1 : t < vs.size := by omega
        simp [Array.getElem?_append, h1]
      rw [e]
      exact hargs t ht
    · exact .junk _
  · simp only [St.f, hlook_iniH] at h1
    obtain ⟨j, hj, rfl⟩ := hmem n h1
    exact .inr ⟨j, hj, h2⟩
  · simp only [St.f, hlook_iniH] at hb
    refine ⟨rfl, rfl, b, ?_, b.same_refl⟩
    simp only [Hn, List.getD, List.getElem?_map] at hb
    simp only [C]
    cases hx : hin[j]? with
    | none => rw [hx] at hb; simp at hb
    | some b1 => rw [hx] at hb; simpa using hb

theorem DrawOK.none : DrawOK P (fun _ _ => .none) := by
  intro C id ops aops fl K Q σ a w S ρ κ h
  cases h
end Go.Vs

namespace Go.Vs
set_option linter.unusedSectionVars false
variable [Envs]
def isRd : AOp → Bool
  | .box _ | .alloc _ | .bslice .. | .mk .. | .call .. | .store .. | .append .. | .appendC .. | .bsliceC .. | .clr .. => false
  | _ => true
end Go.Vs

namespace Go.Vs
set_option linter.unusedSectionVars false
variable [Envs]

def opnds : AOp → List Operand
  | .mv x => [x]
  | .pick c a b => [c, a, b]
  | .load _ _ a => [a]
  | .fieldAddr _ x => [x]
  | .loadV _ _ a => [a]
  | .fieldV _ x => [x]
  | .field _ _ _ x => [x]
  | .idxSl _ x i => [x, i]
  | .idxArr _ _ x i => [x, i]
  | .idxAgg _ _ _ x i => [x, i]
  | .idxStr x i => [x, i]
  | .bin _ x y => [x, y]
  | .binS _ x y => [x, y]
  | .binB _ x y => [x, y]
  | .un _ x => [x]
  | .conv _ x => [x]
  | .b2s x => [x]
  | .eqA _ _ x y => [x, y]
  | .idxB x y => [x, y]
  | .len x => [x]
  | .lenS x => [x]
  | .lenC _ => []
  | .slc _ x a b => x :: (a.toList ++ b.toList)
  | .sstr x a b => x :: (a.toList ++ b.toList)
  | .nilc x => [x]
  | .extract x _ => [x]
  | .build _ ps => ps.map fun p => p.2.2
  | .mkfn _ cs => cs
  | .mm _ x y => [x, y]
  | .box x => [x]
  | .alloc _ => []
  | .bslice _ _ _ ps => ps.map fun p => p.2
  | .mk _ _ _ n => [n]
  | .call f a _ => f :: a
  | .store _ a x => [a, x]
  | .append _ _ a x => [a, x]
  | .appendC _ _ a x => [a, x]
  | .bsliceC _ _ _ ps => ps.map fun p => p.2
  | .clr _ _ x => [x]

/-- The heaps agree off these names, but for what is frozen. -/
def Agr (N : Name → Prop) (h h' : Name → Option Blk) : Prop := ∀ n, ¬ N n → (h n).map frz = (h' n).map frz
def Off (N : Name → Prop) (x : AV) : Prop := ∀ n, N n → x.has n = false
def OffL (N : Name → Prop) (c : List AV) : Prop := ∀ n, N n → hasL n c = false
def OffB (N : Name → Prop) (b : Blk) : Prop := ∀ n, N n → b.has n = false

variable {N : Name → Prop} {h h' : Name → Option Blk} {ev ev' : Operand → AV}

theorem Agr.symm (ha : Agr N h h') : Agr N h' h := fun n hn => (ha n hn).symm
theorem Agr.none (ha : Agr N h h') {n : Name} (hn : ¬ N n) (hh : h n = none) : h' n = none := by
  have := ha n hn
  rw [hh] at this
  cases hx : h' n with
  | none => rfl
  | some b => rw [hx] at this; simp at this
theorem Agr.some (ha : Agr N h h') {n : Name} (hn : ¬ N n) {b : Blk} (hh : h n = some b) : ∃ b', h' n = some b' ∧ frz b' = frz b := by
  have := ha n hn
  rw [hh] at this
  cases hx : h' n with
  | none => rw [hx] at this; simp at this
  | some b' => rw [hx] at this; simp at this; exact ⟨b', rfl, this.symm⟩
theorem frz_row {b b' : Blk} (hb : frz b' = frz b) (e : Nat) : b'.row e = b.row e := by
  cases b <;> cases b' <;> simp [frz] at hb <;> simp [Blk.row, hb]
  cases e <;> simp [Blk.row, hb]
theorem frz_arr {b : Blk} {k : Nat} {l : List (List AV)} {z : Bool} (hb : frz b = frz (.arr k l z)) : ∃ z', b = .arr k l z' := by
  cases b <;> simp [frz] at hb
  obtain ⟨rfl, rfl⟩ := hb
  exact ⟨_, rfl⟩
theorem frz_var {b : Blk} {c : List AV} {z : Bool} (hb : frz b = frz (.var c z)) : ∃ z', b = .var c z' := by
  cases b <;> simp [frz] at hb
  subst hb
  exact ⟨_, rfl⟩
theorem frz_has {b b' : Blk} (hb : frz b' = frz b) (n : Name) : b'.has n = b.has n := by
  cases b <;> cases b' <;> simp [frz] at hb <;> simp [Blk.has, hb]

theorem Off.ptr {n : Name} {e c : Nat} (ho : Off N (.ptr n e c)) : ¬ N n := fun hn => by simpa [AV.has] using ho n hn
theorem Off.loc {n : Name} {e c : Nat} (ho : Off N (.loc n e c)) : ¬ N n := fun hn => by simpa [AV.has] using ho n hn
theorem Off.agg {c : List AV} (ho : Off N (.agg c)) : OffL N c := fun n hn => by simpa [AV.has] using ho n hn
theorem Off.tup {c : List AV} (ho : Off N (.tup c)) : OffL N c := fun n hn => by simpa [AV.has] using ho n hn
theorem Off.fn {f : FuncId} {c : List AV} (ho : Off N (.fn f c)) : OffL N c := fun n hn => by simpa [AV.has] using ho n hn
theorem OffL.cons {x : AV} {c : List AV} (ho : OffL N (x :: c)) : Off N x ∧ OffL N c :=
  ⟨fun n hn => by have := ho n hn; simp [hasL] at this; exact this.1, fun n hn => by have := ho n hn; simp [hasL] at this; exact this.2⟩
theorem OffL.mk_cons {x : AV} {c : List AV} (hx : Off N x) (hc : OffL N c) : OffL N (x :: c) := fun n hn => by simp [hasL, hx n hn, hc n hn]
theorem OffL.nil : OffL N [] := fun _ _ => rfl
theorem OffL.mem : ∀ {c : List AV}, OffL N c → ∀ x, x ∈ c → Off N x
  | [], _, x, hx => by cases hx
  | y :: r, ho, x, hx => by
    rcases List.mem_cons.1 hx with rfl | hx
    · exact ho.cons.1
    · exact OffL.mem ho.cons.2 x hx
theorem OffL.of_mem : ∀ {c : List AV}, (∀ x, x ∈ c → Off N x) → OffL N c
  | [], _ => OffL.nil
  | _ :: _, h => OffL.mk_cons (h _ (by simp)) (OffL.of_mem fun x hx => h x (by simp [hx]))
theorem OffL.getD {c : List AV} (ho : OffL N c) (j : Nat) : Off N (c.getD j .junk) := fun n hn => hasL_getD (ho n hn)
theorem OffL.drop {c : List AV} (ho : OffL N c) (j : Nat) : OffL N (c.drop j) := OffL.of_mem fun x hx => ho.mem x (List.mem_of_mem_drop hx)
theorem OffL.take {c : List AV} (ho : OffL N c) (j : Nat) : OffL N (c.take j) := OffL.of_mem fun x hx => ho.mem x (List.mem_of_mem_take hx)
theorem Off.v (x : Value) : Off N (.v x) := fun _ _ => rfl
theorem Off.junk : Off N .junk := fun _ _ => rfl
theorem Off.sl (k : Nat) (l : List (List AV)) : Off N (.sl k l) := fun _ _ => rfl
theorem Off.ro (c : List AV) : Off N (.ro c) := fun _ _ => rfl
theorem Off.mk_agg {c : List AV} (ho : OffL N c) : Off N (.agg c) := fun n hn => by simpa [AV.has] using ho n hn
theorem Off.mk_fn {f : FuncId} {c : List AV} (ho : OffL N c) : Off N (.fn f c) := fun n hn => by simpa [AV.has] using ho n hn
theorem Off.mk_tup {c : List AV} (ho : OffL N c) : Off N (.tup c) := fun n hn => by simpa [AV.has] using ho n hn
theorem Off.mk_ptr {n : Name} {e c : Nat} (hn : ¬ N n) : Off N (.ptr n e c) := fun m hm => by
  simp only [AV.has, decide_eq_false_iff_not]; rintro rfl; exact hn hm
theorem Off.mk_loc {n : Name} {e c : Nat} (hn : ¬ N n) : Off N (.loc n e c) := fun m hm => by
  simp only [AV.has, decide_eq_false_iff_not]; rintro rfl; exact hn hm
theorem oneB_agr (ha : Agr N h h') {x : AV} (ho : Off N x) : oneB h x = oneB h' x := by
  cases x <;> try rfl
  case loc n off len =>
    simp only [oneB]
    cases hx : h n with
    | none => rw [ha.none ho.loc hx]
    | some b =>
      obtain ⟨b', hb', e⟩ := ha.some ho.loc hx
      rw [hb']
      cases b <;> cases b' <;> simp [frz] at e <;> rfl
  case ptr n e c =>
    simp only [oneB]
    cases hx : h n with
    | none => rw [ha.none ho.ptr hx]
    | some b =>
      obtain ⟨b', hb', e⟩ := ha.some ho.ptr hx
      rw [hb']; rfl

theorem all_congr {p q : AV → Bool} : ∀ {c : List AV}, (∀ x, x ∈ c → p x = q x) → c.all p = c.all q
  | [], _ => rfl
  | x :: r, h => by simp only [List.all_cons, h x (by simp), all_congr (c := r) fun y hy => h y (by simp [hy])]

theorem cellsO_agr (ha : Agr N h h') {x : AV} (ho : Off N x) : cellsO h x = cellsO h' x := by
  cases x
  case agg c =>
    simp only [cellsO]
    rw [all_congr (q := oneB h') fun x hx => oneB_agr ha (ho.agg.mem x hx)]
  all_goals simp only [cellsO, oneB_agr ha ho]

theorem cellsO_off {x : AV} (ho : Off N x) {c : List AV} (hc : cellsO h x = some c) : OffL N c := by
  cases x
  case agg c' =>
    simp only [cellsO] at hc
    split at hc
    · obtain rfl := Option.some.inj hc; exact ho.agg
    · cases hc
  all_goals
    simp only [cellsO] at hc
    split at hc
    · obtain rfl := Option.some.inj hc
      exact OffL.mk_cons ho OffL.nil
    · cases hc

theorem layAll_agr (ha : Agr N h h') : ∀ {ps : List (Nat × Nat × Operand)} {cs : List AV} {K : List AV → Prop}, (∀ p, p ∈ ps → ev p.2.2 = ev' p.2.2 ∧ Off N (ev p.2.2)) → layAll ev h cs ps K → layAll ev' h' cs ps K
  | [], _, _, _, hk => hk
  | (o, n, x) :: r, cs, K, he, hk => by
    obtain ⟨e1, e2⟩ := he (o, n, x) (by simp)
    simp only at e1 e2
    simp only [layAll] at hk ⊢
    rw [← e1, ← cellsO_agr ha e2]
    split at hk
    · exact ⟨hk.1, layAll_agr ha (fun p hp => he p (by simp [hp])) hk.2⟩
    · exact hk

theorem layAll_mono : ∀ {ps : List (Nat × Nat × Operand)} {cs : List AV} {K K' : List AV → Prop}, (∀ c, K c → K' c) → layAll ev h cs ps K → layAll ev h cs ps K'
  | [], _, _, _, hh, hk => hh _ hk
  | (o, n, x) :: r, cs, K, K', hh, hk => by
    simp only [layAll] at hk ⊢
    split at hk
    · exact ⟨hk.1, layAll_mono hh hk.2⟩
    · exact hk

theorem layAll_point : ∀ {ps : List (Nat × Nat × Operand)} {cs : List AV} {K : List AV → Prop}, layAll ev h cs ps K → ∃ c, K c ∧ layAll ev h cs ps (fun c' => c' = c)
  | [], cs, _, hk => ⟨cs, hk, rfl⟩
  | (o, n, x) :: r, cs, K, hk => by
    simp only [layAll] at hk ⊢
    split at hk
    · obtain ⟨c, h1, h2⟩ := layAll_point hk.2
      exact ⟨c, h1, hk.1, h2⟩
    · exact hk.elim
end Go.Vs
