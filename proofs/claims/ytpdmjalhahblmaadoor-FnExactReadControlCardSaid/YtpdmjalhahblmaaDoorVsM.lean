/- One operation: what it asks, and that the machine then does it. -/
import Derived.Test.YtpdmjalhahblmaaDoorVtB
namespace Go.Vs
set_option linter.unusedSectionVars false
variable [Envs]
variable {P : Program} {C : Ctx} {a : Act} {w : World} {S : Nat → Prop} {ρ : Name → Option Nat} {κ : Name → Nat}

structure AOper where
  dst : Option Nat
  op : AOp
  guard : Option (Nat × Bool)

def topN : AV → List Name
  | .loc n _ _ => [n]
  | .ptr n _ _ => [n]
  | _ => []

def cellN : AV → List Name
  | .agg c => c.flatMap topN
  | x => topN x

def nestN (h : List (Name × Blk)) (n : Name) : List Name :=
  match hlook h n with
  | some (.var c _) => c.flatMap topN
  | _ => []

/-- the names that are handed over to be written -/
def borN (h : List (Name × Blk)) (xs : List AV) (bor : List Nat) : List Name :=
  let t := bor.flatMap fun i => cellN (xs.getD i .junk)
  t ++ t.flatMap (nestN h)

def nodupB : List Name → Bool
  | [] => true
  | n :: r => !r.contains n && nodupB r

def freshAll (d nB n : Nat) (σ : St) : Bool := (List.range n).all fun j => decide (j < nB) || freshL (.t d j) σ

def CallK (P : Program) (f : FuncId) (hin : List Blk) (ys : List AV) (L : List Name) (d : Option Nat) (σ : St) (B : List Name) (K : St → Prop) (_ : Tag K) : Prop :=
  ∃ r hout fz, Fn P f hin ys r hout ∧ (fz = false → (L = [] ∨ (flat r = true ∧ ∀ b, some b ∈ hout → flatB b))) ∧
    freshAll (d.getD 0) B.length hout.length σ = true ∧ K ⟨put d (rn (phi B (d.getD 0) hout.length) r) σ.s, aftL σ.h B (d.getD 0) hout fz L⟩

def callL (P : Program) (d : Option Nat) (σ : St) (K : St → Prop) (fv : AV) (xs : List AV) (B : List Name) : Prop :=
  match fv with
  | .fn f caps => match mapO (conv (hlook σ.h) 8 B false) (xs ++ caps), blksO (hlook σ.h) B B with
    | some (ys, L1), some (hin, L2) => nodupB B = true ∧ CallK P f hin ys (L1 ++ L2) d σ B K .x
    | _, _ => False
  | _ => False

def stepA (P : Program) (d : Option Nat) (σ : St) (K : St → Prop) : AOp → Prop
  | .box x => match d with
    | some d => al (evO (look σ.s)) (hlook σ.h) (.t d 0) (fun v b => (freshL (.t d 0) σ = true ∧ b.has (.t d 0) = false) ∧ K ⟨(d, v) :: σ.s, (.t d 0, b) :: σ.h⟩) (.box x)
    | none => False
  | .alloc z => match d with
    | some d => al (evO (look σ.s)) (hlook σ.h) (.t d 0) (fun v b => (freshL (.t d 0) σ = true ∧ b.has (.t d 0) = false) ∧ K ⟨(d, v) :: σ.s, (.t d 0, b) :: σ.h⟩) (.alloc z)
    | none => False
  | .bslice k m z ps => match d with
    | some d => al (evO (look σ.s)) (hlook σ.h) (.t d 0) (fun v b => (freshL (.t d 0) σ = true ∧ b.has (.t d 0) = false) ∧ K ⟨(d, v) :: σ.s, (.t d 0, b) :: σ.h⟩) (.bslice k m z ps)
    | none => False
  | .mk k y z n => match d with
    | some d => al (evO (look σ.s)) (hlook σ.h) (.t d 0) (fun v b => (freshL (.t d 0) σ = true ∧ b.has (.t d 0) = false) ∧ K ⟨(d, v) :: σ.s, (.t d 0, b) :: σ.h⟩) (.mk k y z n)
    | none => False
  | .call f args bor => callL P d σ K (evO (look σ.s) f) (args.map (evO (look σ.s))) (borN σ.h (args.map (evO (look σ.s))) bor)
  | .store k A X => d = none ∧ match evO (look σ.s) A with
    | .ptr n e c => match hlook σ.h n, cellsO (hlook σ.h) (evO (look σ.s) X) with
      | some b, some cs => (b.fz = false ∧ 0 < k ∧ cs.length = k ∧ c + k ≤ (b.row e).length ∧ b.okc cs = true) ∧ K ⟨σ.s, hset n (b.setRow e (lay (b.row e) c cs)) σ.h⟩
      | _, _ => False
    | _ => False
  | .append k y A X => match d with
    | some d => match baseO k (hlook σ.h) (evO (look σ.s) A), rowsO k (hlook σ.h) (evO (look σ.s) X) with
      | some (on, l), some l' => (freshL (.t d 0) (killOL on σ) = true ∧ (l.length + l'.length) * y ≤ 2 ^ 47 ∧ l.length + l'.length < 2 ^ 62) ∧
          K ⟨(d, .loc (.t d 0) 0 (l.length + l'.length)) :: (killOL on σ).s, (.t d 0, .arr k (l ++ l') false) :: (killOL on σ).h⟩
      | _, _ => False
    | none => False
  | .appendC k y A X => match d with
    | some d => match baseO k (hlook σ.h) (evO (look σ.s) A), rowsO k (hlook σ.h) (evO (look σ.s) X) with
      | some (on, l), some l' => (freshL (.t d 0) (killOL on σ) = true ∧ (l.length + l'.length) * y ≤ 2 ^ 47 ∧ l.length + l'.length < 2 ^ 62) ∧
          K ⟨(d, .sl k (l ++ l')) :: (killOL on σ).s, (killOL on σ).h⟩
      | _, _ => False
    | none => False
  | .bsliceC k m z ps => match d with
    | some d => al (evO (look σ.s)) (hlook σ.h) (.t d 0) (fun v b => (freshL (.t d 0) σ = true ∧ b.has (.t d 0) = false) ∧ ∃ rows, b = .arr k rows false ∧ v = .loc (.t d 0) 0 rows.length ∧ K ⟨(d, .sl k rows) :: σ.s, σ.h⟩) (.bslice k m z ps)
    | none => False
  | .clr k z X => match evO (look σ.s) X with
    | .loc n off len => match hlook σ.h n with
      | some (.arr k' l fz) => (fz = false ∧ k' = k ∧ z.length = k ∧ (z.all fun x => oneB (hlook σ.h) x && isClo x) = true ∧ off + len ≤ l.length) ∧ K ⟨put d (.v (.tuple #[])) σ.s, hset n (.arr k (clrL l off len z) false) σ.h⟩
      | _ => False
    | _ => False
  | op => rd (evO (look σ.s)) (hlook σ.h) (fun v => K ⟨put d v σ.s, σ.h⟩) op

/-! ## resolving -/
def avs (z : Array Value) : List AV := z.toList.map fun x => .v x

def compBuiltin (P : Program) (b : Builtin) (ts : List TypeId) (args : List Operand) : Option AOp :=
  match b, ts, args with
  | .len, [t], [x] => match P.underlying t with
    | some (.slice _) => some (.len x)
    | some .string => some (.lenS x)
    | some (.array n _) => some (.lenC n)
    | _ => none
  | .append, [t, t2], [x, y] => match P.underlying t, P.underlying t2 with
    | some (.slice e), some (.slice _) => match P.info? e with
      | some i => match i.zero with
        | some z => if z.cells.size = i.size then some (.append i.size i.bytes x y) else none
        | none => none
      | none => none
    | _, _ => none
  | .max, [_, _], [x, y] => some (.mm true x y)
  | .min, [_, _], [x, y] => some (.mm false x y)
  | .clear, [t], [x] => match P.underlying t with
    | some (.slice e) => match P.info? e with
      | some i => match i.zero with
        | some z => some (.clr i.size (avs z.cells) x)
        | none => none
      | none => none
    | _ => none
  | _, _, _ => none

def bpS (P : Program) (fs : Array Field) : List (Nat × Operand) → Option (List (Nat × Nat × Operand))
  | [] => some []
  | (i, x) :: r => match fs[i]? with
    | some f => match szOf P f.type, bpS P fs r with
      | some n, some l => some ((f.offset, n, x) :: l)
      | _, _ => none
    | none => none

/-- the same temporary, or the same number -/
def sameO : Operand → Operand → Bool
  | .tmp l, .tmp c => l == c
  | .const (.int k l), .const (.int k' c) => k == k' && l == c
  | _, _ => false
theorem sameO_eq {x y : Operand} (h : sameO x y = true) : x = y := by
  unfold sameO at h
  split at h
  · simp at h; rw [h]
  · simp at h; rw [h.1, h.2]
  · cases h

def comp (P : Program) : Op → Option AOp
  | .move x => some (.mv x)
  | .assign x => some (.mv x)
  | .pick c x y => some (.pick c x y)
  | .alloc t => (zOf P t).map fun z => .alloc (avs z)
  | .box _ x => some (.box x)
  | .build t ps => match P.underlying t, zOf P t with
    | some (.struct fs), some z => if fs.all (fun f => (szOf P f.type).isSome) then (bpS P fs ps.toList).map fun ps => .build (avs z) ps else none
    | some (.array _ e), some z => (szOf P e).map fun n => .build (avs z) (ps.toList.map fun p => (p.1 * n, n, p.2))
    | _, _ => none
  | .buildSlice t m ps => match P.underlying t with
    | some (.slice e) => match szOf P e, zOf P e with
      | some k, some z => some (.bslice k m (avs z) ps.toList)
      | _, _ => none
    | _ => none
  | .load t x => (ldOf P t).map fun p => .load p.1 p.2 x
  | .store t A X => (szOf P t).map fun k => .store k A X
  | .nilCheck x => some (.nilc x)
  | .binOp op t x y _ => match P.underlying t with
    | some (.int _) => some (.bin op x y)
    | some .string => some (.binS op x y)
    | some .bool => some (.binB op x y)
    | some (.struct _) => match eqT P 30 t with
      | some ks => if P.eqGuardType P.depth t = false ∧ isAggT P t = some true then match op with
          | .eql => some (.eqA false ks x y)
          | .neq => some (.eqA true ks x y)
          | _ => none
        else none
      | none => none
    | _ => none
  | .unOp op _ x => some (.un op x)
  | .convert s d x => match P.underlying s, P.underlying d with
    | some (.int _), some (.int k) => some (.conv k x)
    | some (.slice e), some .string => match P.underlying e with
      | some (.int .u8) => some (.b2s x)
      | _ => none
    | _, _ => none
  | .makeFunc (.func f) first caps => if first.size = 0 then some (.mkfn f caps.toList) else none
  | .makeSlice t L L' => if sameO L L' = true then match P.underlying t with
      | some (.slice e) => match P.info? e with
        | some i => match i.zero with
          | some z => some (.mk i.size i.bytes (avs z.cells) L)
          | none => none
        | none => none
      | _ => none
    else none
  | .slice t x lo hi none => match P.underlying t with
    | some (.slice e) => (szOf P e).map fun k => .slc k x lo hi
    | some .string => some (.sstr x lo hi)
    | _ => none
  | .fieldAddr s x i => match fieldOf P s i with
    | some f => match szOf P f.type with
      | some (_ + 1) => some (.fieldAddr f.offset x)
      | _ => none
    | none => none
  | .field s x i => match fieldOf P s i with
    | some f => (ldOf P f.type).bind fun p => if szOf P f.type = some p.2 then some (.field p.1 f.offset p.2 x) else none
    | none => none
  | .indexAddr t x i => match P.underlying t with
    | some (.slice e) => (szOf P e).map fun k => .idxSl k x i
    | some (.array n e) => (szOf P e).map fun k => .idxArr n k x i
    | _ => none
  | .index t x i => match P.underlying t with
    | some .string => some (.idxStr x i)
    | some (.array n e) => (ldOf P e).bind fun p => if szOf P e = some p.2 then some (.idxAgg p.1 n p.2 x i) else none
    | _ => none
  | .extract x i => some (.extract x i)
  | .call c => match c.callee with
    | .builtin b => compBuiltin P b c.argTypes.toList c.args.toList
    | .value (.func f) => if isIdx P f then match c.args.toList with
        | [x, y] => some (.idxB x y)
        | _ => none
      else some (.call (.func f) c.args.toList [])
    | .value f => some (.call f c.args.toList [])
    | .invoke _ _ => none
  | _ => none

/-- the same operation, but for what is only told -/
def AOp.bare0 : AOp → AOp
  | .call f args _ => .call f args []
  | op => op
/-- .. and but for what is closed as it is made -/
def AOp.bare : AOp → AOp
  | .appendC k y a x => .append k y a x
  | .loadV g k a => .load g k a
  | .fieldV off x => .fieldAddr off x
  | .bsliceC k n z ps => .bslice k n z ps
  | op => op.bare0

def GoodL (C : Ctx) (K : St → Prop) (a : Act) (w : World) : Prop := ∃ σ S ρ κ, K σ ∧ OK C (St.f σ) a w S ρ κ

theorem GoodL.put {σ : St} (hok : OK C σ.f a w S ρ κ) {x : AV} {v : Value} (hx : RV S w ρ κ σ.f.h x v) {d : Option Nat} (hd : ∀ d', d = some d' → d' < C.nt) {K : St → Prop} (hK : K ⟨Vs.put d x σ.s, σ.h⟩) : GoodL C K (a.put d v) w := by
  refine ⟨_, S, ρ, κ, hK, ?_⟩
  have := hok.put hx hd
  simpa [St.f, look_put] using this

/-- reading operations, in the machine's words -/
theorem step_rd {σ : St} {K : St → Prop} {o : Oper} {Q : Exit → Act → World → Prop} (hok : OK C σ.f a w S ρ κ) (hd : ∀ d', o.dst = some d' → d' < C.nt)
    (h : ∃ x v, K ⟨put o.dst x σ.s, σ.h⟩ ∧ (execOp a.eval o).run P w = .ok (.value v) w ∧ RV S w ρ κ σ.f.h x v) : o.wp P a w (GoodL C K) Q := by
  obtain ⟨x, v, hK, hrun, hx⟩ := h
  unfold Oper.wp
  rw [hrun]
  exact GoodL.put hok hx hd hK

theorem run_v {s : Sem Value} {v : Value} {w' : World} (h : s.run P w = .ok v w') : (do pure (Next.value (← s)) : Sem Next).run P w = .ok (.value v) w' := by
  simp [h]


theorem run_build_struct {σ : St} (hok : OK C σ.f a w S ρ κ) {t : TypeId} {fs : Array Field} {z : Array Value} {ps : Array (Nat × Operand)} {rp : List (Nat × Nat × Operand)} {K : AV → Prop}
    (hu : P.underlying t = some (.struct fs)) (hz : zOf P t = some z) (hall : fs.all (fun f => (szOf P f.type).isSome) = true) (hp : bpS P fs ps.toList = some rp) (hv : rd (evO (look σ.s)) (hlook σ.h) K (.build (avs z) rp)) :
    Ans P S w ρ κ σ.f.h K (Instr.build t (ps.map fun (i, x) => (i, a.eval x))) := by
  obtain ⟨zv, hrun, rfl⟩ := run_zero hz w
  let places : Array (Nat × Nat) := fs.map fun f => (f.offset, (szOf P f.type).getD 0)
  have hplaces : (fs.mapM fun f => (do pure (f.offset, ← sizeOf f.type) : Sem (Nat × Nat))).run P w = .ok places w := by
    have key : ∀ (l : List Field) (acc : List (Nat × Nat)), (∀ f, f ∈ l → (szOf P f.type).isSome) → (l.mapM fun f => (do pure (f.offset, ← sizeOf f.type) : Sem (Nat × Nat))).run P w = .ok (l.map fun f => (f.offset, (szOf P f.type).getD 0)) w := by
      intro l
      induction l with
      | nil => intro _ _; simp
      | cons f r ih =>
        intro acc hl
        obtain ⟨n, hn⟩ := Option.isSome_iff_exists.1 (hl f (by simp))
        simp only [List.mapM_cons, Sem.run_bind, run_sizeOf hn, Result.andThen_ok, Sem.run_pure, ih acc (fun g hg => hl g (by simp [hg])), List.map_cons, hn, Option.getD_some]
    have := key fs.toList [] (fun f hf => by
      have := Array.all_eq_true'.1 hall f (by simpa using hf)
      exact this)
    rw [Array.mapM_eq_mapM_toList]
    simp only [Sem.run_map, this, Result.andThen_ok]
    congr 1
    apply Array.ext'
    simp [places]
  simp only [rd] at hv
  have hmap : ps.toList.map (fun p => ((places[p.1]? : Option (Nat × Nat))).map fun q => (q.1, q.2, p.2)) = rp.map some := by
    revert hp
    generalize ps.toList = l
    clear hv
    induction l generalizing rp with
    | nil => intro hp; simp [bpS] at hp; simp [hp]
    | cons p r ih =>
      intro hp
      obtain ⟨i, x⟩ := p
      simp only [bpS] at hp
      split at hp
      · rename_i f hf
        split at hp
        · rename_i n l hn hl
          obtain rfl := Option.some.inj hp
          have h1 : places[i]? = some (f.offset, n) := by simp [places, hf, hn]
          rw [List.map_cons, List.map_cons, ih hl, h1]
          rfl
        · cases hp
      · cases hp
  obtain ⟨cs, vs, hK, hfill, hcs, _⟩ := fill_of hok (fun i => places[i]?) ps.toList rp _ _ hmap (cells_v zv.cells) hv
  refine ⟨_, .agg vs, hK, ?_, .agg _ _ hcs.1 hcs.2⟩
  have e : (ps.map fun (i, x) => (i, a.eval x)).toList = ps.toList.map fun p => (p.1, a.eval p.2) := by simp
  simp only [Instr.build, Sem.run_bind, hrun, Result.andThen_ok, run_underlying hu, hplaces, e]
  rw [hfill]
  rfl

theorem run_build_array {σ : St} (hok : OK C σ.f a w S ρ κ) {t e : TypeId} {m n : Nat} {z : Array Value} {ps : Array (Nat × Operand)} {K : AV → Prop}
    (hu : P.underlying t = some (.array m e)) (hz : zOf P t = some z) (hn : szOf P e = some n) (hv : rd (evO (look σ.s)) (hlook σ.h) K (.build (avs z) (ps.toList.map fun p => (p.1 * n, n, p.2)))) :
    Ans P S w ρ κ σ.f.h K (Instr.build t (ps.map fun (i, x) => (i, a.eval x))) := by
  obtain ⟨zv, hrun, rfl⟩ := run_zero hz w
  simp only [rd] at hv
  obtain ⟨cs, vs, hK, hfill, hcs, _⟩ := fill_of hok (fun i => some (i * n, n)) ps.toList _ _ _ (by simp) (cells_v zv.cells) hv
  refine ⟨_, .agg vs, hK, ?_, .agg _ _ hcs.1 hcs.2⟩
  have e' : (ps.map fun (i, x) => (i, a.eval x)).toList = ps.toList.map fun p => (p.1, a.eval p.2) := by simp
  simp only [Instr.build, Sem.run_bind, hrun, Result.andThen_ok, run_underlying hu, run_sizeOf hn, e']
  rw [hfill]
  rfl

theorem nodupB_spec : ∀ {B : List Name}, nodupB B = true → B.Nodup
  | [], _ => List.nodup_nil
  | n :: r, h => by
    simp only [nodupB, Bool.and_eq_true, Bool.not_eq_true', List.contains_eq_mem, decide_eq_false_iff_not] at h
    exact List.nodup_cons.2 ⟨h.1, nodupB_spec h.2⟩

theorem step_call {σ : St} {K : St → Prop} {o : Oper} {c : Call} {f : Operand} {bor : List Nat} {Q : Exit → Act → World → Prop} (hok : OK C σ.f a w S ρ κ) (hd : ∀ d', o.dst = some d' → d' < C.nt)
    (ho : o.op = .call c) (hc : c.callee = .value f)
    (hv : stepA P o.dst σ K (.call f c.args.toList bor)) : o.wp P a w (GoodL C K) Q := by
  simp only [stepA, callL] at hv
  split at hv
  · rename_i g caps hg
    have hf := hok.ev f
    simp only [St.f] at hf
    rw [hg] at hf
    obtain ⟨vs, hva, hl, hr⟩ := inv_fn hf
    have hbody : HasBody P g := by
      split at hv
      · obtain ⟨_, r, hout, fz, hfn, _⟩ := hv
        exact hfn.1
      · exact hv.elim
    obtain ⟨fn, b, h1, h2, h3⟩ := hbody
    have hrun : (execOp a.eval o).run P w = .ok (.enter g (c.args.map a.eval ++ vs)) w := by
      simp [execOp, ho, resolve, hc, hva, Deferred.ofValue, invoke, callFunc, h1, h2, h3]
    unfold Oper.wp
    rw [hrun]
    simp only [Oper.upon]
    split at hv
    · rename_i ys L1 hin L2 hys hbs
      obtain ⟨hnd, r, hout, fz, hfn, hflat, hfresh, hK⟩ := hv
      have hfr : ∀ j, (borN σ.h (c.args.toList.map (evO (look σ.s))) bor).length ≤ j → j < hout.length → freshL (.t (o.dst.getD 0) j) σ = true := by
        intro j h1 h2
        simp only [freshAll, List.all_eq_true, List.mem_range] at hfresh
        have := hfresh j h2
        simp only [Bool.or_eq_true, decide_eq_true_eq] at this
        rcases this with h | h
        · omega
        · exact h
      have hcall := call_sound (K := fun σ' x => ∃ σl : St, σl.f = σ' ∧ K ⟨put o.dst (rn (phi (borN σ.h (c.args.toList.map (evO (look σ.s))) bor) (o.dst.getD 0) hout.length) r) σ.s, σl.h⟩ ∧ σl.s = σ.s ∧ x = rn (phi (borN σ.h (c.args.toList.map (evO (look σ.s))) bor) (o.dst.getD 0) hout.length) r) hok (d := o.dst.getD 0) (f := g) (caps := caps) (xs := c.args.toList.map (evO (look σ.s))) (nodupB_spec hnd) (vs := c.args.map a.eval ++ vs) (by
          simp only [callW, St.f, hys, hbs]
          refine ⟨r, hout, fz, hfn, hflat, fun j h1 h2 => freshL_spec (hfr j h1 h2), ⟨σ.s, aftL σ.h (borN σ.h (c.args.toList.map (evO (look σ.s))) bor) (o.dst.getD 0) hout fz (L1 ++ L2)⟩, ?_, hK, rfl, rfl⟩
          simp only [FSt.mk.injEq, true_and]
          refine aftL_f (fun m hm => ?_) (fun j h1 h2 => (freshL_spec (hfr j h1 h2)).1.1)
          obtain ⟨_, hbj, _⟩ := blksO_spec _ _ hbs
          obtain ⟨j, hj⟩ := List.mem_iff_getElem?.1 hm
          obtain ⟨b0, _, _, hb0, _⟩ := hbj j m hj
          simp [hb0]) (by simp [hl]) (fun j hj => by
          simp only [List.length_append, List.length_map, Array.length_toList] at hj
          by_cases hj1 : j < c.args.size
          · have e1 : (c.args.toList.map (evO (look σ.s)) ++ caps).getD j .junk = evO (look σ.s) c.args[j] := by
              simp [List.getD, List.getElem?_append_left (show j < (c.args.toList.map (evO (look σ.s))).length by simp; omega), hj1]
            have e2 : (c.args.map a.eval ++ vs).getD j undef = a.eval c.args[j] := by simp [hj1, show j < c.args.size + vs.size by omega]
            rw [e1, e2]; exact hok.ev _
          · have e1 : (c.args.toList.map (evO (look σ.s)) ++ caps).getD j .junk = caps.getD (j - c.args.size) .junk := by
              simp [List.getD, List.getElem?_append_right (show (c.args.toList.map (evO (look σ.s))).length ≤ j by simp; omega)]
            have e2 : (c.args.map a.eval ++ vs).getD j undef = vs.getD (j - c.args.size) undef := by
              simp [Array.getElem?_append, hj1]
            rw [e1, e2]; exact hr _ (by omega))
      refine hcall.mono ?_
      rintro e w' ⟨σ', x, v, S', ρ', κ', rfl, ⟨σl, hσ, hK', hs, rfl⟩, hok', hx⟩
      subst hσ
      exact GoodL.put hok' hx hd (by rw [hs]; exact hK')
    · exact hv.elim
  · exact hv.elim
end Go.Vs
