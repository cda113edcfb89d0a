/- What computes is what the machine computes. -/
import Derived.Test.YtpdmjalhahblmaaDoorVsD
import GoSem.Dispatch
import Derived.Laws.StructEq
namespace Go.Vs
set_option linter.unusedSectionVars false
variable [Envs]
variable {P : Program} {C : Ctx} {σ : FSt} {a : Act} {w : World} {S : Nat → Prop} {ρ : Name → Option Nat} {κ : Name → Nat} {K : AV → Prop}

theorem rd_bin (hok : OK C σ a w S ρ κ) {op : BinOp} {t : TypeId} {x y : Operand}
    (hv : rd (evO σ.s) σ.h K (.bin op x y)) : Ans P S w ρ κ σ.h K (do eqGuard op t x y (a.eval x) (a.eval y); binOp op t (a.eval x) (a.eval y)) := by
  have hx := hok.ev x
  have hy := hok.ev y
  generalize a.eval x = va at hx ⊢
  generalize a.eval y = vb at hy ⊢
  simp only [rd] at hv
  split at hv
  · rename_i k n k' m hc hn
    rw [hc] at hx; rw [hn] at hy
    obtain rfl := inv_v hx
    obtain rfl := inv_v hy
    have hg : (eqGuard op t x y (.int k n) (.int k' m)).run P w = .ok () w := by unfold eqGuard; cases op <;> simp
    unfold binI at hv
    cases op <;> simp only at hv
    case shl => exact ⟨_, _, hv.2, by simp [hg, binOp, Op.shift, show ¬ m < 0 by omega], .clo (.v _)⟩
    case shr => exact ⟨_, _, hv.2, by simp [hg, binOp, Op.shift, show ¬ m < 0 by omega], .clo (.v _)⟩
    case quo => obtain ⟨⟨rfl, h0⟩, hK⟩ := hv; exact ⟨_, _, hK, by simp [hg, binOp, Op.intDiv, h0], .clo (.v _)⟩
    case rem => obtain ⟨⟨rfl, h0⟩, hK⟩ := hv; exact ⟨_, _, hK, by simp [hg, binOp, Op.intDiv, h0], .clo (.v _)⟩
    all_goals (obtain ⟨rfl, hK⟩ := hv; exact ⟨_, _, hK, by simp [hg, binOp, Op.intArith, Op.intCmp, Op.intBits, bitsOp], .clo (.v _)⟩)
  · exact hv.elim

theorem rd_binS (hok : OK C σ a w S ρ κ) {op : BinOp} {t : TypeId} {x y : Operand}
    (hv : rd (evO σ.s) σ.h K (.binS op x y)) : Ans P S w ρ κ σ.h K (do eqGuard op t x y (a.eval x) (a.eval y); binOp op t (a.eval x) (a.eval y)) := by
  have hx := hok.ev x
  have hy := hok.ev y
  generalize a.eval x = va at hx ⊢
  generalize a.eval y = vb at hy ⊢
  simp only [rd] at hv
  split at hv
  · rename_i s s' hc hn
    rw [hc] at hx; rw [hn] at hy
    obtain rfl := inv_v hx
    obtain rfl := inv_v hy
    have hg : (eqGuard op t x y (.string s) (.string s')).run P w = .ok () w := by unfold eqGuard; cases op <;> simp
    unfold binStr at hv
    cases op <;> simp only at hv
    case add =>
      have hm : IntKind.i64.max = 9223372036854775807 := by decide
      exact ⟨_, _, hv.2, by simp [hg, binOp, Op.stringOp]; omega, .clo (.v _)⟩
    case eql => exact ⟨_, _, hv, by simp [hg, binOp, Op.stringOp], .clo (.v _)⟩
    case neq => exact ⟨_, _, hv, by simp [hg, binOp, Op.stringOp], .clo (.v _)⟩
  · exact hv.elim

theorem rd_binB (hok : OK C σ a w S ρ κ) {op : BinOp} {t : TypeId} (hu : P.underlying t = some .bool) {x y : Operand}
    (hv : rd (evO σ.s) σ.h K (.binB op x y)) : Ans P S w ρ κ σ.h K (do eqGuard op t x y (a.eval x) (a.eval y); binOp op t (a.eval x) (a.eval y)) := by
  have hx := hok.ev x
  have hy := hok.ev y
  generalize a.eval x = va at hx ⊢
  generalize a.eval y = vb at hy ⊢
  simp only [rd] at hv
  split at hv
  · rename_i s s' hc hn
    rw [hc] at hx; rw [hn] at hy
    obtain rfl := inv_v hx
    obtain rfl := inv_v hy
    have hg : (eqGuard op t x y (.bool s) (.bool s')).run P w = .ok () w := by unfold eqGuard; cases op <;> simp
    unfold binBool at hv
    cases op <;> simp only at hv
    all_goals have he : (Op.equal t (.bool s) (.bool s')).run P w = .ok (s == s') w := run_equalIn_bool' w 9999 t s s' hu
    case eql => exact ⟨_, _, hv, by simp [hg, binOp, he], .clo (.v _)⟩
    case neq => exact ⟨_, _, hv, by simp [hg, binOp, he], .clo (.v _)⟩
  · exact hv.elim

theorem rd_un (hok : OK C σ a w S ρ κ) {op : UnOp} {x : Operand}
    (hv : rd (evO σ.s) σ.h K (.un op x)) : Ans P S w ρ κ σ.h K (Op.unary op (a.eval x)) := by
  have hx := hok.ev x
  generalize a.eval x = va at hx ⊢
  simp only [rd] at hv
  split at hv
  · rename_i b hc
    rw [hc] at hx; obtain rfl := inv_v hx
    exact ⟨_, _, hv, by simp [Op.unary], .clo (.v _)⟩
  · rename_i k n hc
    rw [hc] at hx; obtain rfl := inv_v hx
    exact ⟨_, _, hv, by simp [Op.unary, Op.intArith], .clo (.v _)⟩
  · rename_i k n hc
    rw [hc] at hx; obtain rfl := inv_v hx
    exact ⟨_, _, hv, by simp [Op.unary, Op.intBits, bitsOp], .clo (.v _)⟩
  · exact hv.elim

theorem rd_conv (hok : OK C σ a w S ρ κ) {s d : TypeId} {k k' : IntKind} (hs : P.underlying s = some (.int k')) (hd : P.underlying d = some (.int k)) {x : Operand}
    (hv : rd (evO σ.s) σ.h K (.conv k x)) : Ans P S w ρ κ σ.h K (convert s d (a.eval x)) := by
  have hx := hok.ev x
  generalize a.eval x = va at hx ⊢
  simp only [rd] at hv
  split at hv
  · rename_i kk n hc
    rw [hc] at hx; obtain rfl := inv_v hx
    exact ⟨_, _, hv, by simp [convert, run_underlying hs, run_underlying hd, Conv.intToInt], .clo (.v _)⟩
  · exact hv.elim

theorem rd_len (hok : OK C σ a w S ρ κ) {t ty e : TypeId} (hu : P.underlying t = some (.slice e)) {x : Operand}
    (hv : rd (evO σ.s) σ.h K (.len x)) : Ans P S w ρ κ σ.h K (Builtin.len_ #[t] ty #[a.eval x]) := by
  have hx := hok.ev x
  generalize a.eval x = va at hx ⊢
  have hsl : ∀ b n c, (Builtin.len_ #[t] ty #[.slice b n c]).run P w = .ok (.int .i64 n) w := by
    intro b n c; simp [Builtin.len_, run_underlying hu, goInt]
  simp only [rd] at hv
  split at hv
  · rename_i k l hc
    rw [hc] at hx
    cases inv_sl hx with
    | sl _ _ base cap x off xs hb hcc ho hr hk hcap => exact ⟨_, _, hv, hsl _ _ _, .clo (.v _)⟩
  · rename_i n off len hc
    rw [hc] at hx
    split at hv
    · rename_i k l z hb
      obtain ⟨_, base, cap, rfl, _⟩ := inv_loc hx _ _ _ hb
      exact ⟨_, _, hv, hsl _ _ _, .clo (.v _)⟩
    · exact hv.elim
  · rename_i b n c hc
    rw [hc] at hx; obtain rfl := inv_v hx
    exact ⟨_, _, hv, hsl _ _ _, .clo (.v _)⟩
  · exact hv.elim

theorem rd_lenS (hok : OK C σ a w S ρ κ) {t ty : TypeId} (hu : P.underlying t = some .string) {x : Operand}
    (hv : rd (evO σ.s) σ.h K (.lenS x)) : Ans P S w ρ κ σ.h K (Builtin.len_ #[t] ty #[a.eval x]) := by
  have hx := hok.ev x
  generalize a.eval x = va at hx ⊢
  simp only [rd] at hv
  split at hv
  · rename_i s hc
    rw [hc] at hx; obtain rfl := inv_v hx
    exact ⟨_, _, hv, by simp [Builtin.len_, run_underlying hu, goInt], .clo (.v _)⟩
  · exact hv.elim

theorem rd_lenC (v : Value) {t ty e : TypeId} {n : Nat} (hu : P.underlying t = some (.array n e))
    (hv : rd (evO σ.s) σ.h K (.lenC n)) : Ans P S w ρ κ σ.h K (Builtin.len_ #[t] ty #[v]) := by
  refine ⟨_, .int .i64 n, hv, ?_, .clo (.v _)⟩
  simp [Builtin.len_, run_underlying hu, goInt]

theorem sl_slice {k : Nat} {l : List (List AV)} {v : Value} (h : RC S w (.sl k l) v) {lo hi : Nat} (h1 : lo ≤ hi) (h2 : hi ≤ l.length) :
    ∃ base cap, v = .slice base l.length cap ∧ l.length ≤ cap ∧
      RC S w (.sl k ((l.take hi).drop lo)) (.slice (if cap = lo then base else base.map (·.add (lo * k))) (hi - lo) (cap - lo)) := by
  cases h with
  | sl _ _ base cap x off xs hb hc ho hr hk hcap =>
    refine ⟨base, cap, rfl, hcap.1, ?_⟩
    have hlen : ((l.take hi).drop lo).length = hi - lo := by simp; omega
    have hget : ∀ i, i < hi - lo → ((l.take hi).drop lo).getD i [] = l.getD (lo + i) [] := by
      intro i hi'
      simp [List.getD, show lo + i < hi by omega]
    have e : ∀ i j, (lo + i) * k + j = lo * k + (i * k + j) := by intro i j; rw [Nat.add_mul]; omega
    have key := RC.sl (S := S) (w := w) k ((l.take hi).drop lo) (if cap = lo then base else base.map (·.add (lo * k))) (cap - lo) x (off + lo * k) (fun m => xs (lo * k + m))
      (fun hne => ?_) (fun i j hi' hj => ?_) (fun i j hi' hj => ?_) (fun i j hi' hj => ?_) (fun i hi' => ?_) ?_
    · rw [hlen] at key; exact key
    · have : 0 < hi - lo := by
        rcases Nat.eq_zero_or_pos (hi - lo) with h0 | h0
        · exact absurd (List.length_eq_zero_iff.1 (by rw [hlen]; exact h0)) hne
        · exact h0
      obtain ⟨rfl, hS⟩ := hb (by rintro rfl; simp at h2; omega)
      rw [if_neg (by omega)]
      exact ⟨by simp [addr_add], hS⟩
    · rw [hlen] at hi'
      have := hc (lo + i) j (by omega) hj
      rw [e] at this
      rw [Nat.add_assoc]; exact this
    · rw [hlen] at hi'
      have := ho (lo + i) j (by omega) hj
      rw [e] at this; exact this
    · rw [hlen] at hi'
      have := hr (lo + i) j (by omega) hj
      rw [e] at this
      rw [hget i hi']; exact this
    · rw [hlen] at hi'
      rw [hget i hi']; exact hk _ (by omega)
    · rw [hlen]; omega

/-- the bounds of a slice expression, as numbers -/
def Bnd (ov : Option Value) (dflt : Nat) (n : Nat) : Prop := (ov = none ∧ n = dflt) ∨ ∃ k, ov = some (.int k n)

theorem run_slice_of {t e : TypeId} {k : Nat} (hu : P.underlying t = some (.slice e)) (hk : szOf P e = some k) {base : Option Addr} {len cap lo hi : Nat} {olo ohi : Option Value}
    (hlo : Bnd olo 0 lo) (hhi : Bnd ohi len hi) (h1 : lo ≤ hi) (h2 : hi ≤ cap) :
    (Instr.sliceAt t (.slice base len cap) olo ohi none).run P w = .ok (.slice (if cap = lo then base else base.map (·.add (lo * k))) (hi - lo) (cap - lo)) w := by
  rcases hlo with ⟨rfl, rfl⟩ | ⟨kl, rfl⟩ <;> rcases hhi with ⟨rfl, rfl⟩ | ⟨kh, rfl⟩ <;>
    simp [Instr.sliceAt, run_underlying hu, Instr.slice, Instr.sliceBounds, Instr.sliceBound, asIntOf, run_sizeOf hk, h1, h2]

theorem rd_slc (hok : OK C σ a w S ρ κ) {t e : TypeId} {k : Nat} (hu : P.underlying t = some (.slice e)) (hk : szOf P e = some k) {x : Operand} {olo ohi : Option Operand}
    (hv : rd (evO σ.s) σ.h K (.slc k x olo ohi)) : Ans P S w ρ κ σ.h K (Instr.sliceAt t (a.eval x) (olo.map a.eval) (ohi.map a.eval) none) := by
  have hx := hok.ev x
  generalize a.eval x = va at hx ⊢
  have hb : ∀ (o : Option Operand) (d : Nat), (o = none → Bnd (o.map a.eval) d d) ∧ (∀ kk m, o.map (evO σ.s) = some (.v (.int kk m)) → 0 ≤ m → Bnd (o.map a.eval) d m.toNat) := by
    intro o d
    refine ⟨fun h => by subst h; exact .inl ⟨rfl, rfl⟩, fun kk m h h0 => ?_⟩
    cases o with
    | none => simp at h
    | some o =>
      simp only [Option.map_some, Option.some.injEq] at h
      have := hok.ev o
      rw [h] at this
      refine .inr ⟨kk, ?_⟩
      simp only [Option.map_some, inv_v this, Int.toNat_of_nonneg h0]
  simp only [rd] at hv
  split at hv
  · rename_i k' l hc
    rw [hc] at hx
    have fin : ∀ (lo hi : Int), (k' = k ∧ 0 ≤ lo ∧ lo ≤ hi ∧ hi ≤ l.length) ∧ K (.sl k ((l.take hi.toNat).drop lo.toNat)) → Bnd (olo.map a.eval) 0 lo.toNat → Bnd (ohi.map a.eval) l.length hi.toNat →
        Ans P S w ρ κ σ.h K (Instr.sliceAt t va (olo.map a.eval) (ohi.map a.eval) none) := by
      rintro lo hi ⟨⟨rfl, h0, h1, h2⟩, hK⟩ b1 b2
      obtain ⟨base, cap, rfl, hcap, hr⟩ := sl_slice (inv_sl hx) (lo := lo.toNat) (hi := hi.toNat) (by omega) (by omega)
      exact ⟨_, _, hK, run_slice_of hu hk b1 b2 (by omega) (by omega), .clo hr⟩
    split at hv
    · rename_i e1 e2
      have n1 : olo = none := by cases olo <;> simp_all
      have n2 : ohi = none := by cases ohi <;> simp_all
      exact fin _ _ hv (by simpa using (hb olo 0).1 n1) (by simpa using (hb ohi l.length).1 n2)
    · rename_i kk m e1 e2
      have n2 : ohi = none := by cases ohi <;> simp_all
      exact fin _ _ hv ((hb olo 0).2 _ _ e1 hv.1.2.1) (by simpa using (hb ohi l.length).1 n2)
    · rename_i kk m e1 e2
      have n1 : olo = none := by cases olo <;> simp_all
      exact fin _ _ hv (by simpa using (hb olo 0).1 n1) ((hb ohi l.length).2 _ _ e2 (by have := hv.1.2.2.1; omega))
    · rename_i kk m kk' m' e1 e2
      exact fin _ _ hv ((hb olo 0).2 _ _ e1 hv.1.2.1) ((hb ohi l.length).2 _ _ e2 (by have := hv.1; omega))
    · exact hv.elim
  · rename_i n off len hc
    rw [hc] at hx
    split at hv
    · rename_i k' l z hbk
      have fin : ∀ (lo hi : Int), (k' = k ∧ 0 ≤ lo ∧ lo ≤ hi ∧ hi ≤ len) ∧ K (.loc n (off + lo.toNat) (hi - lo).toNat) → Bnd (olo.map a.eval) 0 lo.toNat → Bnd (ohi.map a.eval) len hi.toNat →
          Ans P S w ρ κ σ.h K (Instr.sliceAt t va (olo.map a.eval) (ohi.map a.eval) none) := by
        rintro lo hi ⟨⟨rfl, h0, h1, h2⟩, hK⟩ b1 b2
        obtain ⟨hle, base, cap, rfl, hlc, hcap, hbase, hfull⟩ := inv_loc hx _ _ _ hbk
        refine ⟨_, _, hK, run_slice_of hu hk b1 b2 (by omega) (by omega), .loc _ _ _ _ fun k2 l2 z2 hb2 => ?_⟩
        rw [hbk] at hb2
        simp only [Option.some.injEq, Blk.arr.injEq] at hb2
        obtain ⟨rfl, rfl, rfl⟩ := hb2
        refine ⟨by omega, _, _, by congr 1; omega, by omega, by omega, fun hpos => ?_, fun e1 e2 => ?_⟩
        · obtain ⟨y, hy, rfl⟩ := hbase (by omega)
          rw [if_neg (by omega)]
          exact ⟨y, hy, by simp [addr_add, Nat.add_mul]⟩
        · have el : lo.toNat = 0 := by omega
          have eo : off = 0 := by omega
          rcases hfull eo (by omega) with ⟨h1, h2, h3⟩ | ⟨y, hy, hb', hk'⟩
          · exact .inl ⟨h1, by simp [h2], by omega⟩
          · refine .inr ⟨y, hy, ?_, by rw [el]; exact hk'⟩
            rw [el, hb']
            simp [Addr.add]
      split at hv
      · rename_i e1 e2
        have n1 : olo = none := by cases olo <;> simp_all
        have n2 : ohi = none := by cases ohi <;> simp_all
        exact fin _ _ hv (by simpa using (hb olo 0).1 n1) (by simpa using (hb ohi len).1 n2)
      · rename_i kk m e1 e2
        have n2 : ohi = none := by cases ohi <;> simp_all
        exact fin _ _ hv ((hb olo 0).2 _ _ e1 hv.1.2.1) (by simpa using (hb ohi len).1 n2)
      · rename_i kk m e1 e2
        have n1 : olo = none := by cases olo <;> simp_all
        exact fin _ _ hv (by simpa using (hb olo 0).1 n1) ((hb ohi len).2 _ _ e2 (by have := hv.1.2.2.1; omega))
      · rename_i kk m kk' m' e1 e2
        exact fin _ _ hv ((hb olo 0).2 _ _ e1 hv.1.2.1) ((hb ohi len).2 _ _ e2 (by have := hv.1; omega))
      · exact hv.elim
    · exact hv.elim
  · exact hv.elim

theorem run_sstr_of {t : TypeId} (hu : P.underlying t = some .string) {s : ByteArray} {lo hi : Nat} {olo ohi : Option Value}
    (hlo : Bnd olo 0 lo) (hhi : Bnd ohi s.size hi) (h1 : lo ≤ hi) (h2 : hi ≤ s.size) :
    (Instr.sliceAt t (.string s) olo ohi none).run P w = .ok (.string (s.extract lo hi)) w := by
  rcases hlo with ⟨rfl, rfl⟩ | ⟨kl, rfl⟩ <;> rcases hhi with ⟨rfl, rfl⟩ | ⟨kh, rfl⟩ <;>
    simp [Instr.sliceAt, run_underlying hu, Instr.slice, Instr.sliceBounds, Instr.sliceBound, asIntOf, h1, h2]

theorem bnd_of (hok : OK C σ a w S ρ κ) (o : Option Operand) (d : Nat) : (o = none → Bnd (o.map a.eval) d d) ∧ (∀ kk m, o.map (evO σ.s) = some (.v (.int kk m)) → 0 ≤ m → Bnd (o.map a.eval) d m.toNat) := by
  refine ⟨fun h => by subst h; exact .inl ⟨rfl, rfl⟩, fun kk m h h0 => ?_⟩
  cases o with
  | none => simp at h
  | some o =>
    simp only [Option.map_some, Option.some.injEq] at h
    have := hok.ev o
    rw [h] at this
    refine .inr ⟨kk, ?_⟩
    simp only [Option.map_some, inv_v this, Int.toNat_of_nonneg h0]

theorem rd_sstr (hok : OK C σ a w S ρ κ) {t : TypeId} (hu : P.underlying t = some .string) {x : Operand} {olo ohi : Option Operand}
    (hv : rd (evO σ.s) σ.h K (.sstr x olo ohi)) : Ans P S w ρ κ σ.h K (Instr.sliceAt t (a.eval x) (olo.map a.eval) (ohi.map a.eval) none) := by
  have hx := hok.ev x
  generalize a.eval x = va at hx ⊢
  have hb := bnd_of hok
  simp only [rd] at hv
  split at hv
  · rename_i s hc
    rw [hc] at hx; obtain rfl := inv_v hx
    have fin : ∀ (lo hi : Int), (0 ≤ lo ∧ lo ≤ hi ∧ hi ≤ s.size) ∧ K (.v (.string (s.extract lo.toNat hi.toNat))) → Bnd (olo.map a.eval) 0 lo.toNat → Bnd (ohi.map a.eval) s.size hi.toNat →
        Ans P S w ρ κ σ.h K (Instr.sliceAt t (.string s) (olo.map a.eval) (ohi.map a.eval) none) := by
      rintro lo hi ⟨⟨h0, h1, h2⟩, hK⟩ b1 b2
      exact ⟨_, _, hK, run_sstr_of hu b1 b2 (by omega) (by omega), .clo (.v _)⟩
    split at hv
    · rename_i e1 e2
      have n1 : olo = none := by cases olo <;> simp_all
      have n2 : ohi = none := by cases ohi <;> simp_all
      exact fin _ _ hv (by simpa using (hb olo 0).1 n1) (by simpa using (hb ohi s.size).1 n2)
    · rename_i kk m e1 e2
      have n2 : ohi = none := by cases ohi <;> simp_all
      exact fin _ _ hv ((hb olo 0).2 _ _ e1 hv.1.1) (by simpa using (hb ohi s.size).1 n2)
    · rename_i kk m e1 e2
      have n1 : olo = none := by cases olo <;> simp_all
      exact fin _ _ hv (by simpa using (hb olo 0).1 n1) ((hb ohi s.size).2 _ _ e2 (by have := hv.1; omega))
    · rename_i kk m kk' m' e1 e2
      exact fin _ _ hv ((hb olo 0).2 _ _ e1 hv.1.1) ((hb ohi s.size).2 _ _ e2 (by have := hv.1; omega))
    · exact hv.elim
  · exact hv.elim

theorem rd_nilc (hok : OK C σ a w S ρ κ) {o : Oper} {x : Operand} (ho : o.op = .nilCheck x) (hv : rd (evO σ.s) σ.h K (.nilc x)) :
    ∃ x' v, K x' ∧ (execOp a.eval o).run P w = .ok (.value v) w ∧ RV S w ρ κ σ.h x' v := by
  have hx := hok.ev x
  simp only [execOp, ho]
  generalize a.eval x = va at hx ⊢
  simp only [rd] at hv
  split at hv
  · rename_i c hc
    rw [hc] at hx
    cases inv_ro hx with
    | ro _ y off xs hS hcell hone hr => exact ⟨_, _, hv, rfl, hx⟩
  · rename_i n e c hc
    rw [hc] at hx
    split at hv
    · rename_i b hb
      obtain ⟨y, hy, rfl⟩ := inv_ptr hx _ hb
      exact ⟨_, _, hv, rfl, hx⟩
    · exact hv.elim
  · rename_i f c hc
    rw [hc] at hx
    obtain ⟨vs, rfl, _⟩ := inv_fn hx
    exact ⟨_, _, hv, rfl, hx⟩
  · exact hv.elim

theorem rd_extract (hok : OK C σ a w S ρ κ) {x : Operand} {i : Nat} (hv : rd (evO σ.s) σ.h K (.extract x i)) : Ans P S w ρ κ σ.h K (Instr.extract (a.eval x) i) := by
  have hx := hok.ev x
  generalize a.eval x = va at hx ⊢
  simp only [rd] at hv
  split at hv
  · rename_i c hc
    rw [hc] at hx
    obtain ⟨vs, rfl, hl, hr⟩ := inv_tup hx
    refine ⟨_, _, hv.2, ?_, hr i hv.1⟩
    simp [Instr.extract, show i < vs.size by have := hv.1; omega]
  · exact hv.elim

theorem rd_mkfn (hok : OK C σ a w S ρ κ) {f : FuncId} {caps : List Operand} (hv : rd (evO σ.s) σ.h K (.mkfn f caps)) :
    Ans P S w ρ κ σ.h K (Instr.makeFunc (.func f) #[] (caps.toArray.map a.eval)) := by
  refine ⟨_, _, hv, rfl, .fn _ _ _ (by simp) fun j hj => ?_⟩
  simp only [List.length_map] at hj
  have e1 : (caps.map (evO σ.s)).getD j .junk = evO σ.s caps[j] := by simp [List.getD, hj]
  have e2 : (caps.toArray.map a.eval).getD j undef = a.eval caps[j] := by simp [hj]
  rw [e1, e2]; exact hok.ev _

theorem rd_mm (hok : OK C σ a w S ρ κ) {mx : Bool} {t : Array TypeId} {T : TypeId} {x y : Operand} (hv : rd (evO σ.s) σ.h K (.mm mx x y)) :
    Ans P S w ρ κ σ.h K (if mx then Builtin.max_ t T #[a.eval x, a.eval y] else Builtin.min_ t T #[a.eval x, a.eval y]) := by
  have hx := hok.ev x
  have hy := hok.ev y
  generalize a.eval x = va at hx ⊢
  generalize a.eval y = vb at hy ⊢
  simp only [rd] at hv
  split at hv
  · rename_i k n k' m hc hn
    rw [hc] at hx; rw [hn] at hy
    obtain rfl := inv_v hx
    obtain rfl := inv_v hy
    cases mx
    · exact ⟨_, _, hv, by simp [Builtin.min_, Builtin.min2], .clo (.v _)⟩
    · exact ⟨_, _, hv, by simp [Builtin.max_, Builtin.max2], .clo (.v _)⟩
  · exact hv.elim
end Go.Vs
