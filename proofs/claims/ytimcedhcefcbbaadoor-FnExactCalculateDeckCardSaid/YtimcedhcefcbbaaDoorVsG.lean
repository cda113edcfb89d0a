/- The operations that make memory. -/
import Derived.Test.YtimcedhcefcbbaaDoorVsD
import GoSem.Dispatch
import Derived.Laws.StructEq
import Derived.Laws.World
import Derived.Laws.MakeOwn
set_option linter.all false
set_option maxHeartbeats 8000000
namespace Go.Vs
section
variable [Envs]
variable {P : Program} {C : Ctx} {σ : FSt} {a : Act} {w : World} {S : Nat → Prop} {ρ : Name → Option Nat} {κ : Name → Nat} {K : AV → Prop}
theorem rd_bin (hok : OK C σ a w S ρ κ) {op : BinOp} {t : TypeId} {x y : Operand}
  (hv : rd (evO σ.s) σ.h K (.bin op x y)) : Ans P S w ρ κ σ.h K (do eqGuard op t x y (a.eval x) (a.eval y); binOp op t (a.eval x) (a.eval y)) := by
 have hx := hok.ev x
 have hy := hok.ev y
 generalize a.eval x = va at hx ⊢
 generalize a.eval y = vb at hy ⊢
 simp only [rd] at hv
 split at hv
 ·rename_i k n k' m hc hn
  rw [hc] at hx; rw [hn] at hy
  obtain rfl := inv_v hx
  obtain rfl := inv_v hy
  have hg : (eqGuard op t x y (.int k n) (.int k' m)).run P w = .ok () w := by unfold eqGuard; cases op <;> simp
  unfold binI at hv
  cases op <;> simp only at hv
  case shl => exact ⟨_, _, hv.2, by simp [hg, binOp, Op.shift, show ¬ m < 0 by omega], .clo (.v _)⟩
  case shr => exact ⟨_, _, hv.2, by simp [hg, binOp, Op.shift, show ¬ m < 0 by omega], .clo (.v _)⟩
  case quo => obtain ⟨⟨rfl, h0⟩, hK⟩ := hv; exact ⟨_, _, hK, by simp [hg, binOp, Op.intDiv, h0], .clo (.v _)⟩
  case rem => obtain ⟨⟨rfl, h0⟩, hK⟩ := hv; exact ⟨_, _, hK, by simp [hg, binOp, Op.intDiv, h0], .clo (.v _)⟩
  all_goals (obtain ⟨rfl, hK⟩ := hv; exact ⟨_, _, hK, by simp [hg, binOp, Op.intArith, Op.intCmp, Op.intBits, bitsOp], .clo (.v _)⟩)
 ·exact hv.elim
theorem rd_binS (hok : OK C σ a w S ρ κ) {op : BinOp} {t : TypeId} {x y : Operand}
  (hv : rd (evO σ.s) σ.h K (.binS op x y)) : Ans P S w ρ κ σ.h K (do eqGuard op t x y (a.eval x) (a.eval y); binOp op t (a.eval x) (a.eval y)) := by
 have hx := hok.ev x
 have hy := hok.ev y
 generalize a.eval x = va at hx ⊢
 generalize a.eval y = vb at hy ⊢
 simp only [rd] at hv
 split at hv
 ·rename_i s s' hc hn
  rw [hc] at hx; rw [hn] at hy
  obtain rfl := inv_v hx
  obtain rfl := inv_v hy
  have hg : (eqGuard op t x y (.string s) (.string s')).run P w = .ok () w := by unfold eqGuard; cases op <;> simp
  unfold binStr at hv
  cases op <;> simp only at hv
  case add =>
   have hm : IntKind.i64.max = 9223372036854775807 := by decide
   exact ⟨_, _, hv.2, by simp [hg, binOp, Op.stringOp]; omega, .clo (.v _)⟩
  case eql => exact ⟨_, _, hv, by simp [hg, binOp, Op.stringOp], .clo (.v _)⟩
  case neq => exact ⟨_, _, hv, by simp [hg, binOp, Op.stringOp], .clo (.v _)⟩
 ·exact hv.elim
theorem rd_binB (hok : OK C σ a w S ρ κ) {op : BinOp} {t : TypeId} (hu : P.underlying t = some .bool) {x y : Operand}
  (hv : rd (evO σ.s) σ.h K (.binB op x y)) : Ans P S w ρ κ σ.h K (do eqGuard op t x y (a.eval x) (a.eval y); binOp op t (a.eval x) (a.eval y)) := by
 have hx := hok.ev x
 have hy := hok.ev y
 generalize a.eval x = va at hx ⊢
 generalize a.eval y = vb at hy ⊢
 simp only [rd] at hv
 split at hv
 ·rename_i s s' hc hn
  rw [hc] at hx; rw [hn] at hy
  obtain rfl := inv_v hx
  obtain rfl := inv_v hy
  have hg : (eqGuard op t x y (.bool s) (.bool s')).run P w = .ok () w := by unfold eqGuard; cases op <;> simp
  unfold binBool at hv
  cases op <;> simp only at hv
  all_goals have he : (Op.equal t (.bool s) (.bool s')).run P w = .ok (s == s') w := run_equalIn_bool' w 9999 t s s' hu
  case eql => exact ⟨_, _, hv, by simp [hg, binOp, he], .clo (.v _)⟩
  case neq => exact ⟨_, _, hv, by simp [hg, binOp, he], .clo (.v _)⟩
 ·exact hv.elim
theorem rd_un (hok : OK C σ a w S ρ κ) {op : UnOp} {x : Operand}
  (hv : rd (evO σ.s) σ.h K (.un op x)) : Ans P S w ρ κ σ.h K (Op.unary op (a.eval x)) := by
 have hx := hok.ev x
 generalize a.eval x = va at hx ⊢
 simp only [rd] at hv
 split at hv
 ·rename_i b hc
  rw [hc] at hx; obtain rfl := inv_v hx
  exact ⟨_, _, hv, by simp [Op.unary], .clo (.v _)⟩
 ·rename_i k n hc
  rw [hc] at hx; obtain rfl := inv_v hx
  exact ⟨_, _, hv, by simp [Op.unary, Op.intArith], .clo (.v _)⟩
 ·rename_i k n hc
  rw [hc] at hx; obtain rfl := inv_v hx
  exact ⟨_, _, hv, by simp [Op.unary, Op.intBits, bitsOp], .clo (.v _)⟩
 ·exact hv.elim
theorem rd_conv (hok : OK C σ a w S ρ κ) {s d : TypeId} {k k' : IntKind} (hs : P.underlying s = some (.int k')) (hd : P.underlying d = some (.int k)) {x : Operand}
  (hv : rd (evO σ.s) σ.h K (.conv k x)) : Ans P S w ρ κ σ.h K (convert s d (a.eval x)) := by
 have hx := hok.ev x
 generalize a.eval x = va at hx ⊢
 simp only [rd] at hv
 split at hv
 ·rename_i kk n hc
  rw [hc] at hx; obtain rfl := inv_v hx
  exact ⟨_, _, hv, by simp [convert, run_underlying hs, run_underlying hd, Conv.intToInt], .clo (.v _)⟩
 ·exact hv.elim
theorem rd_len (hok : OK C σ a w S ρ κ) {t ty e : TypeId} (hu : P.underlying t = some (.slice e)) {x : Operand}
  (hv : rd (evO σ.s) σ.h K (.len x)) : Ans P S w ρ κ σ.h K (Builtin.len_ #[t] ty #[a.eval x]) := by
 have hx := hok.ev x
 generalize a.eval x = va at hx ⊢
 have hsl : ∀ b n c, (Builtin.len_ #[t] ty #[.slice b n c]).run P w = .ok (.int .i64 n) w := by
  intro b n c; simp [Builtin.len_, run_underlying hu, goInt]
 simp only [rd] at hv
 split at hv
 ·rename_i k l hc
  rw [hc] at hx
  cases inv_sl hx with
  | sl _ _ base cap x off xs hb hcc ho hr hk hcap => exact ⟨_, _, hv, hsl _ _ _, .clo (.v _)⟩
 ·rename_i n off len hc
  rw [hc] at hx
  split at hv
  ·rename_i k l z hb
   obtain ⟨_, base, cap, rfl, _⟩ := inv_loc hx _ _ _ hb
   exact ⟨_, _, hv, hsl _ _ _, .clo (.v _)⟩
  ·exact hv.elim
 ·rename_i b n c hc
  rw [hc] at hx; obtain rfl := inv_v hx
  exact ⟨_, _, hv, hsl _ _ _, .clo (.v _)⟩
 ·exact hv.elim
theorem rd_lenS (hok : OK C σ a w S ρ κ) {t ty : TypeId} (hu : P.underlying t = some .string) {x : Operand}
  (hv : rd (evO σ.s) σ.h K (.lenS x)) : Ans P S w ρ κ σ.h K (Builtin.len_ #[t] ty #[a.eval x]) := by
 have hx := hok.ev x
 generalize a.eval x = va at hx ⊢
 simp only [rd] at hv
 split at hv
 ·rename_i s hc
  rw [hc] at hx; obtain rfl := inv_v hx
  exact ⟨_, _, hv, by simp [Builtin.len_, run_underlying hu, goInt], .clo (.v _)⟩
 ·exact hv.elim
theorem rd_lenC (v : Value) {t ty e : TypeId} {n : Nat} (hu : P.underlying t = some (.array n e))
  (hv : rd (evO σ.s) σ.h K (.lenC n)) : Ans P S w ρ κ σ.h K (Builtin.len_ #[t] ty #[v]) := by
 refine ⟨_, .int .i64 n, hv, ?_, .clo (.v _)⟩
 simp [Builtin.len_, run_underlying hu, goInt]
theorem sl_slice {k : Nat} {l : List (List AV)} {v : Value} (h : RC S w (.sl k l) v) {lo hi : Nat} (h1 : lo ≤ hi) (h2 : hi ≤ l.length) :
  ∃ base cap, v = .slice base l.length cap ∧ l.length ≤ cap ∧
   RC S w (.sl k ((l.take hi).drop lo)) (.slice (if cap = lo then base else base.map (·.add (lo * k))) (hi - lo) (cap - lo)) := by
 cases h with
 | sl _ _ base cap x off xs hb hc ho hr hk hcap =>
  refine ⟨base, cap, rfl, hcap.1, ?_⟩
  have hlen : ((l.take hi).drop lo).length = hi - lo := by simp; omega
  have hget : ∀ i, i < hi - lo → ((l.take hi).drop lo).getD i [] = l.getD (lo + i) [] := by
   intro i hi'
   simp [List.getD, show lo + i < hi by omega]
  have e : ∀ i j, (lo + i) * k + j = lo * k + (i * k + j) := by intro i j; rw [Nat.add_mul]; omega
  have key := RC.sl (S := S) (w := w) k ((l.take hi).drop lo) (if cap = lo then base else base.map (·.add (lo * k))) (cap - lo) x (off + lo * k) (fun m => xs (lo * k + m))
   (fun hne => ?_) (fun i j hi' hj => ?_) (fun i j hi' hj => ?_) (fun i j hi' hj => ?_) (fun i hi' => ?_) ?_
  ·rw [hlen] at key; exact key
  ·have : 0 < hi - lo := by
    rcases Nat.eq_zero_or_pos (hi - lo) with h0 | h0
    ·exact absurd (List.length_eq_zero_iff.1 (by rw [hlen]; exact h0)) hne
    ·exact h0
   obtain ⟨rfl, hS⟩ := hb (by rintro rfl; simp at h2; omega)
   rw [if_neg (by omega)]
   exact ⟨by simp [addr_add], hS⟩
  ·rw [hlen] at hi'
   have := hc (lo + i) j (by omega) hj
   rw [e] at this
   rw [Nat.add_assoc]; exact this
  ·rw [hlen] at hi'
   have := ho (lo + i) j (by omega) hj
   rw [e] at this; exact this
  ·rw [hlen] at hi'
   have := hr (lo + i) j (by omega) hj
   rw [e] at this
   rw [hget i hi']; exact this
  ·rw [hlen] at hi'
   rw [hget i hi']; exact hk _ (by omega)
  ·rw [hlen]; omega
def Bnd (ov : Option Value) (dflt : Nat) (n : Nat) : Prop := (ov = none ∧ n = dflt) ∨ ∃ k, ov = some (.int k n)
theorem run_slice_of {t e : TypeId} {k : Nat} (hu : P.underlying t = some (.slice e)) (hk : szOf P e = some k) {base : Option Addr} {len cap lo hi : Nat} {olo ohi : Option Value}
  (hlo : Bnd olo 0 lo) (hhi : Bnd ohi len hi) (h1 : lo ≤ hi) (h2 : hi ≤ cap) :
  (Instr.sliceAt t (.slice base len cap) olo ohi none).run P w = .ok (.slice (if cap = lo then base else base.map (·.add (lo * k))) (hi - lo) (cap - lo)) w := by
 rcases hlo with ⟨rfl, rfl⟩ | ⟨kl, rfl⟩ <;> rcases hhi with ⟨rfl, rfl⟩ | ⟨kh, rfl⟩ <;>
  simp [Instr.sliceAt, run_underlying hu, Instr.slice, Instr.sliceBounds, Instr.sliceBound, asIntOf, run_sizeOf hk, h1, h2]
theorem rd_slc (hok : OK C σ a w S ρ κ) {t e : TypeId} {k : Nat} (hu : P.underlying t = some (.slice e)) (hk : szOf P e = some k) {x : Operand} {olo ohi : Option Operand}
  (hv : rd (evO σ.s) σ.h K (.slc k x olo ohi)) : Ans P S w ρ κ σ.h K (Instr.sliceAt t (a.eval x) (olo.map a.eval) (ohi.map a.eval) none) := by
 have hx := hok.ev x
 generalize a.eval x = va at hx ⊢
 have hb : ∀ (o : Option Operand) (d : Nat), (o = none → Bnd (o.map a.eval) d d) ∧ (∀ kk m, o.map (evO σ.s) = some (.v (.int kk m)) → 0 ≤ m → Bnd (o.map a.eval) d m.toNat) := by
  intro o d
  refine ⟨fun h => by subst h; exact .inl ⟨rfl, rfl⟩, fun kk m h h0 => ?_⟩
  cases o with
  | none => simp at h
  | some o =>
   simp only [Option.map_some, Option.some.injEq] at h
   have := hok.ev o
   rw [h] at this
   refine .inr ⟨kk, ?_⟩
   simp only [Option.map_some, inv_v this, Int.toNat_of_nonneg h0]
 simp only [rd] at hv
 split at hv
 ·rename_i k' l hc
  rw [hc] at hx
  have fin : ∀ (lo hi : Int), (k' = k ∧ 0 ≤ lo ∧ lo ≤ hi ∧ hi ≤ l.length) ∧ K (.sl k ((l.take hi.toNat).drop lo.toNat)) → Bnd (olo.map a.eval) 0 lo.toNat → Bnd (ohi.map a.eval) l.length hi.toNat →
    Ans P S w ρ κ σ.h K (Instr.sliceAt t va (olo.map a.eval) (ohi.map a.eval) none) := by
   rintro lo hi ⟨⟨rfl, h0, h1, h2⟩, hK⟩ b1 b2
   obtain ⟨base, cap, rfl, hcap, hr⟩ := sl_slice (inv_sl hx) (lo := lo.toNat) (hi := hi.toNat) (by omega) (by omega)
   exact ⟨_, _, hK, run_slice_of hu hk b1 b2 (by omega) (by omega), .clo hr⟩
  split at hv
  ·rename_i e1 e2
   have n1 : olo = none := by cases olo <;> simp_all
   have n2 : ohi = none := by cases ohi <;> simp_all
   exact fin _ _ hv (by simpa using (hb olo 0).1 n1) (by simpa using (hb ohi l.length).1 n2)
  ·rename_i kk m e1 e2
   have n2 : ohi = none := by cases ohi <;> simp_all
   exact fin _ _ hv ((hb olo 0).2 _ _ e1 hv.1.2.1) (by simpa using (hb ohi l.length).1 n2)
  ·rename_i kk m e1 e2
   have n1 : olo = none := by cases olo <;> simp_all
   exact fin _ _ hv (by simpa using (hb olo 0).1 n1) ((hb ohi l.length).2 _ _ e2 (by have := hv.1.2.2.1; omega))
  ·rename_i kk m kk' m' e1 e2
   exact fin _ _ hv ((hb olo 0).2 _ _ e1 hv.1.2.1) ((hb ohi l.length).2 _ _ e2 (by have := hv.1; omega))
  ·exact hv.elim
 ·rename_i n off len hc
  rw [hc] at hx
  split at hv
  ·rename_i k' l z hbk
   have fin : ∀ (lo hi : Int), (k' = k ∧ 0 ≤ lo ∧ lo ≤ hi ∧ hi ≤ len) ∧ K (.loc n (off + lo.toNat) (hi - lo).toNat) → Bnd (olo.map a.eval) 0 lo.toNat → Bnd (ohi.map a.eval) len hi.toNat →
     Ans P S w ρ κ σ.h K (Instr.sliceAt t va (olo.map a.eval) (ohi.map a.eval) none) := by
    rintro lo hi ⟨⟨rfl, h0, h1, h2⟩, hK⟩ b1 b2
    obtain ⟨hle, base, cap, rfl, hlc, hcap, hbase, hfull⟩ := inv_loc hx _ _ _ hbk
    refine ⟨_, _, hK, run_slice_of hu hk b1 b2 (by omega) (by omega), .loc _ _ _ _ fun k2 l2 z2 hb2 => ?_⟩
    rw [hbk] at hb2
    simp only [Option.some.injEq, Blk.arr.injEq] at hb2
    obtain ⟨rfl, rfl, rfl⟩ := hb2
    refine ⟨by omega, _, _, by congr 1; omega, by omega, by omega, fun hpos => ?_, fun e1 e2 => ?_⟩
    ·obtain ⟨y, hy, rfl⟩ := hbase (by omega)
     rw [if_neg (by omega)]
     exact ⟨y, hy, by simp [addr_add, Nat.add_mul]⟩
    ·have el : lo.toNat = 0 := by omega
     have eo : off = 0 := by omega
     rcases hfull eo (by omega) with ⟨h1, h2, h3⟩ | ⟨y, hy, hb', hk'⟩
     ·exact .inl ⟨h1, by simp [h2], by omega⟩
     ·refine .inr ⟨y, hy, ?_, by rw [el]; exact hk'⟩
      rw [el, hb']
      simp [Addr.add]
   split at hv
   ·rename_i e1 e2
    have n1 : olo = none := by cases olo <;> simp_all
    have n2 : ohi = none := by cases ohi <;> simp_all
    exact fin _ _ hv (by simpa using (hb olo 0).1 n1) (by simpa using (hb ohi len).1 n2)
   ·rename_i kk m e1 e2
    have n2 : ohi = none := by cases ohi <;> simp_all
    exact fin _ _ hv ((hb olo 0).2 _ _ e1 hv.1.2.1) (by simpa using (hb ohi len).1 n2)
   ·rename_i kk m e1 e2
    have n1 : olo = none := by cases olo <;> simp_all
    exact fin _ _ hv (by simpa using (hb olo 0).1 n1) ((hb ohi len).2 _ _ e2 (by have := hv.1.2.2.1; omega))
   ·rename_i kk m kk' m' e1 e2
    exact fin _ _ hv ((hb olo 0).2 _ _ e1 hv.1.2.1) ((hb ohi len).2 _ _ e2 (by have := hv.1; omega))
   ·exact hv.elim
  ·exact hv.elim
 ·exact hv.elim
theorem run_sstr_of {t : TypeId} (hu : P.underlying t = some .string) {s : ByteArray} {lo hi : Nat} {olo ohi : Option Value}
  (hlo : Bnd olo 0 lo) (hhi : Bnd ohi s.size hi) (h1 : lo ≤ hi) (h2 : hi ≤ s.size) :
  (Instr.sliceAt t (.string s) olo ohi none).run P w = .ok (.string (s.extract lo hi)) w := by
 rcases hlo with ⟨rfl, rfl⟩ | ⟨kl, rfl⟩ <;> rcases hhi with ⟨rfl, rfl⟩ | ⟨kh, rfl⟩ <;>
  simp [Instr.sliceAt, run_underlying hu, Instr.slice, Instr.sliceBounds, Instr.sliceBound, asIntOf, h1, h2]
theorem bnd_of (hok : OK C σ a w S ρ κ) (o : Option Operand) (d : Nat) : (o = none → Bnd (o.map a.eval) d d) ∧ (∀ kk m, o.map (evO σ.s) = some (.v (.int kk m)) → 0 ≤ m → Bnd (o.map a.eval) d m.toNat) := by
 refine ⟨fun h => by subst h; exact .inl ⟨rfl, rfl⟩, fun kk m h h0 => ?_⟩
 cases o with
 | none => simp at h
 | some o =>
  simp only [Option.map_some, Option.some.injEq] at h
  have := hok.ev o
  rw [h] at this
  refine .inr ⟨kk, ?_⟩
  simp only [Option.map_some, inv_v this, Int.toNat_of_nonneg h0]
theorem rd_sstr (hok : OK C σ a w S ρ κ) {t : TypeId} (hu : P.underlying t = some .string) {x : Operand} {olo ohi : Option Operand}
  (hv : rd (evO σ.s) σ.h K (.sstr x olo ohi)) : Ans P S w ρ κ σ.h K (Instr.sliceAt t (a.eval x) (olo.map a.eval) (ohi.map a.eval) none) := by
 have hx := hok.ev x
 generalize a.eval x = va at hx ⊢
 have hb := bnd_of hok
 simp only [rd] at hv
 split at hv
 ·rename_i s hc
  rw [hc] at hx; obtain rfl := inv_v hx
  have fin : ∀ (lo hi : Int), (0 ≤ lo ∧ lo ≤ hi ∧ hi ≤ s.size) ∧ K (.v (.string (s.extract lo.toNat hi.toNat))) → Bnd (olo.map a.eval) 0 lo.toNat → Bnd (ohi.map a.eval) s.size hi.toNat →
    Ans P S w ρ κ σ.h K (Instr.sliceAt t (.string s) (olo.map a.eval) (ohi.map a.eval) none) := by
   rintro lo hi ⟨⟨h0, h1, h2⟩, hK⟩ b1 b2
   exact ⟨_, _, hK, run_sstr_of hu b1 b2 (by omega) (by omega), .clo (.v _)⟩
  split at hv
  ·rename_i e1 e2
   have n1 : olo = none := by cases olo <;> simp_all
   have n2 : ohi = none := by cases ohi <;> simp_all
   exact fin _ _ hv (by simpa using (hb olo 0).1 n1) (by simpa using (hb ohi s.size).1 n2)
  ·rename_i kk m e1 e2
   have n2 : ohi = none := by cases ohi <;> simp_all
   exact fin _ _ hv ((hb olo 0).2 _ _ e1 hv.1.1) (by simpa using (hb ohi s.size).1 n2)
  ·rename_i kk m e1 e2
   have n1 : olo = none := by cases olo <;> simp_all
   exact fin _ _ hv (by simpa using (hb olo 0).1 n1) ((hb ohi s.size).2 _ _ e2 (by have := hv.1; omega))
  ·rename_i kk m kk' m' e1 e2
   exact fin _ _ hv ((hb olo 0).2 _ _ e1 hv.1.1) ((hb ohi s.size).2 _ _ e2 (by have := hv.1; omega))
  ·exact hv.elim
 ·exact hv.elim
theorem rd_nilc (hok : OK C σ a w S ρ κ) {o : Oper} {x : Operand} (ho : o.op = .nilCheck x) (hv : rd (evO σ.s) σ.h K (.nilc x)) :
  ∃ x' v, K x' ∧ (execOp a.eval o).run P w = .ok (.value v) w ∧ RV S w ρ κ σ.h x' v := by
 have hx := hok.ev x
 simp only [execOp, ho]
 generalize a.eval x = va at hx ⊢
 simp only [rd] at hv
 split at hv
 ·rename_i c hc
  rw [hc] at hx
  cases inv_ro hx with
  | ro _ y off xs hS hcell hone hr => exact ⟨_, _, hv, rfl, hx⟩
 ·rename_i n e c hc
  rw [hc] at hx
  split at hv
  ·rename_i b hb
   obtain ⟨y, hy, rfl⟩ := inv_ptr hx _ hb
   exact ⟨_, _, hv, rfl, hx⟩
  ·exact hv.elim
 ·rename_i f c hc
  rw [hc] at hx
  obtain ⟨vs, rfl, _⟩ := inv_fn hx
  exact ⟨_, _, hv, rfl, hx⟩
 ·exact hv.elim
theorem rd_extract (hok : OK C σ a w S ρ κ) {x : Operand} {i : Nat} (hv : rd (evO σ.s) σ.h K (.extract x i)) : Ans P S w ρ κ σ.h K (Instr.extract (a.eval x) i) := by
 have hx := hok.ev x
 generalize a.eval x = va at hx ⊢
 simp only [rd] at hv
 split at hv
 ·rename_i c hc
  rw [hc] at hx
  obtain ⟨vs, rfl, hl, hr⟩ := inv_tup hx
  refine ⟨_, _, hv.2, ?_, hr i hv.1⟩
  simp [Instr.extract, show i < vs.size by have := hv.1; omega]
 ·exact hv.elim
theorem rd_mkfn (hok : OK C σ a w S ρ κ) {f : FuncId} {caps : List Operand} (hv : rd (evO σ.s) σ.h K (.mkfn f caps)) :
  Ans P S w ρ κ σ.h K (Instr.makeFunc (.func f) #[] (caps.toArray.map a.eval)) := by
 refine ⟨_, _, hv, rfl, .fn _ _ _ (by simp) fun j hj => ?_⟩
 simp only [List.length_map] at hj
 have e1 : (caps.map (evO σ.s)).getD j .junk = evO σ.s caps[j] := by simp [List.getD, hj]
 have e2 : (caps.toArray.map a.eval).getD j undef = a.eval caps[j] := by simp [hj]
 rw [e1, e2]; exact hok.ev _
theorem rd_mm (hok : OK C σ a w S ρ κ) {mx : Bool} {t : Array TypeId} {T : TypeId} {x y : Operand} (hv : rd (evO σ.s) σ.h K (.mm mx x y)) :
  Ans P S w ρ κ σ.h K (if mx then Builtin.max_ t T #[a.eval x, a.eval y] else Builtin.min_ t T #[a.eval x, a.eval y]) := by
 have hx := hok.ev x
 have hy := hok.ev y
 generalize a.eval x = va at hx ⊢
 generalize a.eval y = vb at hy ⊢
 simp only [rd] at hv
 split at hv
 ·rename_i k n k' m hc hn
  rw [hc] at hx; rw [hn] at hy
  obtain rfl := inv_v hx
  obtain rfl := inv_v hy
  cases mx
  ·exact ⟨_, _, hv, by simp [Builtin.min_, Builtin.min2], .clo (.v _)⟩
  ·exact ⟨_, _, hv, by simp [Builtin.max_, Builtin.max2], .clo (.v _)⟩
 ·exact hv.elim
end
section
variable [Envs]
variable {P : Program} {C : Ctx} {σ : FSt} {a : Act} {w : World} {S : Nat → Prop} {ρ : Name → Option Nat} {κ : Name → Nat} {K : AV → Prop} {h : Name → Option Blk}
theorem one_val {x : AV} {v : Value} (hx : RV S w ρ κ h x v) (h1 : oneB h x = true) : v.oneCell' = true := by
 cases x with
 | v y => obtain rfl := inv_v hx; exact h1
 | sl k l => cases inv_sl hx; rfl
 | ro c => cases inv_ro hx; rfl
 | fn f c => obtain ⟨vs, rfl, _⟩ := inv_fn hx; rfl
 | loc n off len =>
  simp only [oneB] at h1
  split at h1
  ·rename_i hb; obtain ⟨_, base, cap, rfl, _⟩ := inv_loc hx _ _ _ hb; rfl
  ·cases h1
 | ptr n e c =>
  simp only [oneB] at h1
  obtain ⟨b, hb⟩ := Option.isSome_iff_exists.1 h1
  obtain ⟨y, _, rfl⟩ := inv_ptr hx _ hb; rfl
 | agg c => simp [oneB] at h1
 | tup c => simp [oneB] at h1
 | junk => simp [oneB] at h1
def Cells (S : Nat → Prop) (w : World) (ρ : Name → Option Nat) (κ : Name → Nat) (h : Name → Option Blk) (c : List AV) (vs : Array Value) : Prop :=
 c.length = vs.size ∧ ∀ j, j < c.length → RV S w ρ κ h (c.getD j .junk) (vs.getD j undef)
theorem cells_of {x : AV} {v : Value} (hx : RV S w ρ κ h x v) {c : List AV} (hc : cellsO h x = some c) :
  Cells S w ρ κ h c v.cells ∧ (∀ j, j < c.length → (v.cells.getD j undef).oneCell' = true) := by
 have single : ∀ x : AV, (oneB h x = true) → RV S w ρ κ h x v → Cells S w ρ κ h [x] v.cells ∧ (∀ j, j < [x].length → (v.cells.getD j undef).oneCell' = true) := by
  intro x h1 hx
  have ho := one_val hx h1
  have e : v.cells = #[v] := by cases v <;> simp_all [Value.cells, Value.oneCell']
  rw [e]
  refine ⟨⟨rfl, fun j hj => ?_⟩, fun j hj => ?_⟩
  ·simp only [List.length_singleton] at hj
   obtain rfl : j = 0 := by omega
   exact hx
  ·simp only [List.length_singleton] at hj
   obtain rfl : j = 0 := by omega
   exact ho
 cases x with
 | agg c' =>
  simp only [cellsO] at hc
  split at hc
  ·rename_i hall
   obtain rfl := Option.some.inj hc
   obtain ⟨vs, rfl, hl, hr⟩ := inv_agg hx
   refine ⟨⟨hl, hr⟩, fun j hj => one_val (hr j hj) ?_⟩
   have := List.all_eq_true.1 hall (c'.getD j .junk) (by simp [List.getD, hj])
   exact this
  ·cases hc
 | _ =>
  simp only [cellsO] at hc
  split at hc
  ·rename_i h1
   obtain rfl := Option.some.inj hc
   exact single _ h1 hx
  ·cases hc
theorem length_lay : ∀ (xs cs : List AV) (o : Nat), (lay cs o xs).length = cs.length
 | [], _, _ => rfl
 | x :: r, cs, o => by rw [lay, length_lay r]; simp
theorem getD_lay : ∀ (xs cs : List AV) (o j : Nat), o + xs.length ≤ cs.length → (lay cs o xs).getD j .junk = if o ≤ j ∧ j < o + xs.length then xs.getD (j - o) .junk else cs.getD j .junk
 | [], cs, o, j, _ => by
  have : ¬ (o ≤ j ∧ j < o + ([] : List AV).length) := by simp
  rw [lay, if_neg this]
 | x :: r, cs, o, j, h => by
  rw [lay, getD_lay r _ _ _ (by simp at h ⊢; omega)]
  simp only [List.length_cons] at h ⊢
  by_cases h1 : o + 1 ≤ j ∧ j < o + 1 + r.length
  ·rw [if_pos h1, if_pos (by omega)]
   have : j - o = (j - (o + 1)) + 1 := by omega
   rw [this]; simp
  ·rw [if_neg h1]
   by_cases h2 : j = o
   ·subst h2
    rw [if_pos (by omega)]
    have : j < cs.length := by omega
    simp [List.getD, this]
   ·rw [if_neg (by omega)]
    simp [List.getD, List.getElem?_set_ne (Ne.symm h2)]
theorem fold_cells : ∀ (l : List Value) (i o : Nat) (cs : Array Value), o + i + l.length ≤ cs.size →
  ((l.zipIdx i).foldl (fun cs (p : Value × Nat) => cs.setIfInBounds (o + p.2) p.1) cs).size = cs.size ∧
  ∀ j, ((l.zipIdx i).foldl (fun cs (p : Value × Nat) => cs.setIfInBounds (o + p.2) p.1) cs).getD j undef = if o + i ≤ j ∧ j < o + i + l.length then l.getD (j - (o + i)) undef else cs.getD j undef
 | [], i, o, cs, _ => ⟨rfl, fun j => by
     have : ¬ (o + i ≤ j ∧ j < o + i + ([] : List Value).length) := by simp
     rw [if_neg this]; rfl⟩
 | x :: r, i, o, cs, h => by
  simp only [List.length_cons] at h
  obtain ⟨h1, h2⟩ := fold_cells r (i + 1) o (cs.setIfInBounds (o + i) x) (by simp; omega)
  simp only [List.zipIdx_cons, List.foldl_cons]
  refine ⟨by rw [h1]; simp, fun j => ?_⟩
  rw [h2 j]
  simp only [List.length_cons]
  by_cases h3 : o + (i + 1) ≤ j ∧ j < o + (i + 1) + r.length
  ·rw [if_pos h3, if_pos (by omega)]
   have : j - (o + i) = (j - (o + (i + 1))) + 1 := by omega
   rw [this]; simp
  ·rw [if_neg h3]
   by_cases h4 : j = o + i
   ·subst h4
    rw [if_pos (by omega)]
    simp [show o + i < cs.size by omega]
   ·rw [if_neg (by omega)]
    simp [Array.getElem?_setIfInBounds_ne (Ne.symm h4)]
theorem getD_toList (vs : Array Value) (j : Nat) : vs.toList.getD j undef = vs.getD j undef := by
 simp [List.getD]
theorem fill_of (hok : OK C σ a w S ρ κ) (place : Nat → Option (Nat × Nat)) : ∀ (parts : List (Nat × Operand)) (rp : List (Nat × Nat × Operand)) (cs : List AV) (vs : Array Value) {K : List AV → Prop},
  parts.map (fun p => (place p.1).map fun q => (q.1, q.2, p.2)) = rp.map some → Cells S w ρ κ σ.h cs vs → layAll (evO σ.s) σ.h cs rp K →
  ∃ cs' vs', K cs' ∧ Instr.fill place vs (parts.map fun p => (p.1, a.eval p.2)) = some vs' ∧ Cells S w ρ κ σ.h cs' vs' ∧
   ((∀ j, j < vs.size → (vs.getD j undef).oneCell' = true) → ∀ j, j < vs'.size → (vs'.getD j undef).oneCell' = true)
 | [], [], cs, vs, K, _, hc, hK => ⟨cs, vs, hK, rfl, hc, fun h => h⟩
 | [], _ :: _, _, _, _, h, _, _ => by simp at h
 | _ :: _, [], _, _, _, h, _, _ => by simp at h
 | (i, x) :: parts, (o, n, y) :: rp, cs, vs, K, h, hc, hK => by
  simp only [List.map_cons, List.cons.injEq] at h
  obtain ⟨h1, h2⟩ := h
  cases hp : place i with
  | none => rw [hp] at h1; simp at h1
  | some q =>
   rw [hp] at h1
   simp only [Option.map_some, Option.some.injEq, Prod.mk.injEq] at h1
   obtain ⟨rfl, rfl, rfl⟩ := h1
   simp only [layAll] at hK
   split at hK
   ·rename_i c hcx
    obtain ⟨⟨hn, hle⟩, hK⟩ := hK
    obtain ⟨⟨hcl, hcr⟩, hone⟩ := cells_of (hok.ev x) hcx
    obtain ⟨hl, hr⟩ := hc
    have hf := fold_cells (a.eval x).cells.toList 0 q.1 vs (by simp; omega)
    simp only [Nat.add_zero, Array.length_toList, ← hcl] at hf
    have hcells : Cells S w ρ κ σ.h (lay cs q.1 c) (((a.eval x).cells.toList.zipIdx 0).foldl (fun cs (p : Value × Nat) => cs.setIfInBounds (q.1 + p.2) p.1) vs) := by
     refine ⟨by rw [length_lay, hf.1]; exact hl, fun j hj => ?_⟩
     rw [length_lay] at hj
     rw [getD_lay _ _ _ _ (by omega), hf.2 j]
     by_cases hj2 : q.1 ≤ j ∧ j < q.1 + c.length
     ·rw [if_pos hj2, if_pos hj2, getD_toList]
      exact hcr _ (by omega)
     ·rw [if_neg hj2, if_neg hj2]
      exact hr j hj
    obtain ⟨cs', vs', hK', hfill, hc', ho'⟩ := fill_of hok place parts rp _ _ h2 hcells hK
    refine ⟨cs', vs', hK', ?_, hc', fun hv => ho' fun j hj => ?_⟩
    ·have hz : (a.eval x).cells.zipIdx.foldl (fun cs (p : Value × Nat) => cs.setIfInBounds (q.1 + p.2) p.1) vs = ((a.eval x).cells.toList.zipIdx 0).foldl (fun cs (p : Value × Nat) => cs.setIfInBounds (q.1 + p.2) p.1) vs := by
      rw [← Array.foldl_toList, Array.toList_zipIdx]
     simp only [List.map_cons, Instr.fill, hp]
     rw [if_neg (by simp; omega)]
     rw [← hfill, ← hz]
    ·rw [hf.1] at hj
     rw [hf.2 j]
     by_cases hj2 : q.1 ≤ j ∧ j < q.1 + c.length
     ·rw [if_pos hj2, getD_toList]; exact hone _ (by omega)
     ·rw [if_neg hj2]; exact hv j hj
   ·exact hK.elim
end
section
variable [Envs]
mutual
def isClo : AV → Bool
 | .v _ => true
 | .sl _ _ => true
 | .ro _ => true
 | .fn _ c => isCloL c
 | .agg c => isCloL c
 | .tup c => isCloL c
 | _ => false
def isCloL : List AV → Bool
 | [] => true
 | x :: r => isClo x && isCloL r
end
theorem isCloL_getD : ∀ {c : List AV} {j : Nat}, isCloL c = true → j < c.length → isClo (c.getD j .junk) = true
 | [], _, _, hj => by simp at hj
 | x :: r, 0, h, _ => by simp [isCloL] at h; simpa using h.1
 | x :: r, j + 1, h, hj => by simp [isCloL] at h; simpa using isCloL_getD (c := r) (j := j) h.2 (by simpa using hj)
variable {P : Program} {C : Ctx} {σ : FSt} {a : Act} {w : World} {S : Nat → Prop} {ρ : Name → Option Nat} {κ : Name → Nat} {h : Name → Option Blk}
theorem RV.closed {x : AV} {v : Value} (hx : RV S w ρ κ h x v) (hc : isClo x = true) : RC S w x v := by
 induction hx with
 | junk v => simp [isClo] at hc
 | clo hx => exact hx
 | loc n off len v hv => simp [isClo] at hc
 | ptr n e c v hv => simp [isClo] at hc
 | fn f c vs hl hr ih => simp only [isClo] at hc; exact .fn f c vs hl fun j hj => ih j hj (isCloL_getD hc hj)
 | agg c vs hl hr ih => simp only [isClo] at hc; exact .agg c vs hl fun j hj => ih j hj (isCloL_getD hc hj)
 | tup c vs hl hr ih => simp only [isClo] at hc; exact .tup c vs hl fun j hj => ih j hj (isCloL_getD hc hj)
def rowsOf (k : Nat) : Nat → List AV → List (List AV)
 | 0, _ => []
 | m + 1, cs => cs.take k :: rowsOf k m (cs.drop k)
def al (ev : Operand → AV) (h : Name → Option Blk) (n : Name) (K : AV → Blk → Prop) : AOp → Prop
 | .box x => match cellsO h (ev x) with
  | some c => K (.ptr n 0 0) (.var c false)
  | none => False
 | .alloc z => z.all (fun x => oneB h x && isClo x) = true ∧ K (.ptr n 0 0) (.var z false)
 | .bslice k m z parts => (z.length = k ∧ m * k ≤ 2 ^ 24 ∧ m ≤ 2 ^ 24 ∧ z.all (oneB h) = true) ∧ layAll ev h (List.flatten (List.replicate m z)) (parts.map fun (i, x) => (i * k, k, x)) fun cs =>
   isCloL cs = true ∧ K (.loc n 0 m) (.arr k (rowsOf k m cs) false)
 | .mk k bytes z x => match ev x with
  | .v (.int .i64 i) => (0 ≤ i ∧ i * bytes ≤ 2 ^ 47 ∧ i < 2 ^ 63 ∧ z.length = k ∧ z.all (fun x => oneB h x && isClo x) = true) ∧ K (.loc n 0 i.toNat) (.arr k (List.replicate i.toNat z) false)
  | _ => False
 | _ => False
theorem heap_push (w : World) (o : Obj) : ({ w with heap := w.heap.push o } : World).heap[w.heap.size]? = some o := by simp
theorem OK.addVar (hok : OK C σ a w S ρ κ) {n : Name} (hf : FreshF n σ) {c : List AV} {cs : Array Value} {T : TypeId} (hc : Cells S w ρ κ σ.h c cs) (h1 : ∀ j, j < c.length → (cs.getD j undef).oneCell' = true) (hn : hasL n c = false) :
  ∃ ρ' κ', OK C ⟨σ.s, hput σ.h n (some (.var c false))⟩ a { w with heap := w.heap.push (.cells cs T) } S ρ' κ' ∧
   RV S { w with heap := w.heap.push (.cells cs T) } ρ' κ' (hput σ.h n (some (.var c false))) (.ptr n 0 0) (.pointer (some ⟨w.heap.size, 0, none⟩)) := by
 have hex := Ext.push w (.cells cs T)
 refine ⟨_, _, hok.add hex hf (b := .var c false) (ox := some w.heap.size) (kn := cs.size) (fun x hx => by rw [← Option.some.inj hx]; exact Nat.le_refl _) ?_, ?_⟩
 ·intro ρ' κ' h' e1 e2 hm
  refine ⟨w.heap.size, cs, T, (0, 0), e1, heap_push _ _, fun j _ hj => by omega, fun _ hs => ?_, by simp, e2.symm, by rw [hc.1]; exact Nat.le_refl _, fun j hj => ⟨h1 j hj, (hc.2 j hj).mono (fun _ h => h) (fun b hb => hex.2.1 b (hok.hok.dom b hb)) fun m hh => hm m ?_⟩⟩
  ·exact absurd (hok.hok.dom _ hs) (Nat.lt_irrefl _)
  ·rintro rfl
   rw [hasL_getD hn] at hh; cases hh
 ·refine .ptr _ _ _ _ fun b hb => ?_
  simp only [hput, if_true] at hb
  obtain rfl := Option.some.inj hb
  exact ⟨w.heap.size, by simp, by simp [Blk.k]⟩
theorem OK.addArr (hok : OK C σ a w S ρ κ) {w' : World} (hex : Ext w w') {n : Name} (hf : FreshF n σ) {k : Nat} {l : List (List AV)} {cs : Array Value} {T : TypeId} {fr : Nat × Nat} {x : Nat} (hxs : w.heap.size ≤ x) (hx : w'.heap[x]? = some (.cells cs T fr)) (hth : Thaw fr cs.size)
  (hk : ∀ i, i < l.length → (l.getD i []).length = k) (hsz : l.length * k ≤ cs.size)
  (hr : ∀ i j, i < l.length → j < k → (cs.getD (i * k + j) undef).oneCell' = true ∧ RC S w ((l.getD i []).getD j .junk) (cs.getD (i * k + j) undef)) {cap : Nat} (hcap : l.length ≤ cap ∧ cap < 2 ^ 63 ∧ cap * k ≤ cs.size) :
  ∃ ρ' κ', OK C ⟨σ.s, hput σ.h n (some (.arr k l false))⟩ a w' S ρ' κ' ∧
   RV S w' ρ' κ' (hput σ.h n (some (.arr k l false))) (.loc n 0 l.length) (.slice (some ⟨x, 0, none⟩) l.length cap) := by
 refine ⟨_, _, hok.add hex hf (b := .arr k l false) (ox := some x) (kn := cs.size) (fun y hy => by rw [← Option.some.inj hy]; exact hxs) ?_, ?_⟩
 ·intro ρ' κ' h' e1 e2 hm
  refine ⟨hk, .inr ⟨x, cs, T, fr, e1, hx, hth, fun _ hs => ?_, by simp, e2.symm, hsz, fun i j hi hj => ⟨(hr i j hi hj).1, (hr i j hi hj).2.mono (fun _ h => h) fun b hb => hex.2.1 b (hok.hok.dom b hb)⟩⟩⟩
  have := hok.hok.dom _ hs; omega
 ·refine .loc _ _ _ _ fun k' l' z hb => ?_
  simp only [hput, if_true, Option.some.injEq, Blk.arr.injEq] at hb
  obtain ⟨rfl, rfl, rfl⟩ := hb
  exact ⟨by omega, _, _, rfl, hcap.1, hcap.2.1, fun _ => ⟨x, by simp, by simp⟩, fun _ _ => .inr ⟨x, by simp, rfl, by simpa using hcap.2.2⟩⟩
def Made (P : Program) (C : Ctx) (σ : FSt) (a : Act) (w : World) (S : Nat → Prop) (n : Name) (K : AV → Blk → Prop) (s : Sem Value) : Prop :=
 ∃ x b v w', K x b ∧ s.run P w = .ok v w' ∧ (FreshF n σ → b.has n = false → ∃ ρ' κ', OK C ⟨σ.s, hput σ.h n (some b)⟩ a w' S ρ' κ' ∧ RV S w' ρ' κ' (hput σ.h n (some b)) x v)
variable {K : AV → Blk → Prop} {n : Name}
theorem al_box (hok : OK C σ a w S ρ κ) {T : TypeId} {x : Operand} (hv : al (evO σ.s) σ.h n K (.box x)) : Made P C σ a w S n K (Instr.box T (a.eval x)) := by
 have hx := hok.ev x
 generalize a.eval x = va at hx ⊢
 simp only [al] at hv
 split at hv
 ·rename_i c hc
  obtain ⟨hcs, h1⟩ := cells_of hx hc
  refine ⟨_, _, .pointer (some ⟨w.heap.size, 0, none⟩), { w with heap := w.heap.push (.cells va.cells T) }, hv, ?_, fun hf hn => ?_⟩
  ·simp [Instr.box, newVar, newRow]
  ·exact hok.addVar hf hcs h1 (by simpa [Blk.has] using hn)
 ·exact hv.elim
def zOf (P : Program) (t : TypeId) : Option (Array Value) := match P.info? t with | some i => i.zero.map (·.cells) | none => none
theorem run_zero {t : TypeId} {z : Array Value} (h : zOf P t = some z) (w : World) : ∃ v, (zeroValue t).run P w = .ok v w ∧ v.cells = z := by
 unfold zOf at h
 cases hi : P.info? t with
 | none => simp [hi] at h
 | some i =>
  simp only [hi] at h
  cases hz : i.zero with
  | none => simp [hz] at h
  | some v => exact ⟨v, by simp [zeroValue, typeInfo, hi, hz], by simpa [hz] using h⟩
theorem cells_v (cs : Array Value) : Cells S w ρ κ h (cs.toList.map fun x => .v x) cs := by
 refine ⟨by simp, fun j hj => ?_⟩
 simp only [List.length_map, Array.length_toList] at hj
 simp [List.getD, hj]
 exact .clo (.v _)
theorem all_getD {p : AV → Bool} {l : List AV} (h : l.all p = true) {j : Nat} (hj : j < l.length) : p (l.getD j .junk) = true :=
 List.all_eq_true.1 h _ (by simp [List.getD, hj])
theorem al_alloc (hok : OK C σ a w S ρ κ) {T : TypeId} {z : Array Value} (hz : zOf P T = some z) (hv : al (evO σ.s) σ.h n K (.alloc (z.toList.map fun x => .v x))) : Made P C σ a w S n K (Instr.alloc T true (.tuple #[])) := by
 obtain ⟨v, hrun, rfl⟩ := run_zero hz w
 simp only [al] at hv
 obtain ⟨hall, hK⟩ := hv
 refine ⟨_, _, .pointer (some ⟨w.heap.size, 0, none⟩), { w with heap := w.heap.push (.cells v.cells T) }, hK, ?_, fun hf hn => ?_⟩
 ·simp [Instr.alloc, newVar, newRow, hrun]
 ·refine hok.addVar hf (cells_v _) (fun j hj => ?_) (by simpa [Blk.has] using hn)
  have := all_getD hall hj
  have h2 := (cells_v (S := S) (w := w) (ρ := ρ) (κ := κ) (h := σ.h) v.cells).2 j hj
  exact one_val h2 (by simp only [Bool.and_eq_true] at this; exact this.1)
theorem flat_getD {z : List AV} {k : Nat} (hz : z.length = k) : ∀ (m i : Nat), i < m * k → (List.flatten (List.replicate m z)).getD i .junk = z.getD (i % k) .junk
 | 0, i, h => by omega
 | m + 1, i, h => by
  rw [List.replicate_succ, List.flatten_cons]
  by_cases hi : i < k
  ·rw [Nat.mod_eq_of_lt hi]
   simp [List.getD, List.getElem?_append_left (show i < z.length by omega)]
  ·have hk : 0 < k := by
    rcases Nat.eq_zero_or_pos k with h0 | h0
    ·subst h0; omega
    ·exact h0
   have : i % k = (i - k) % k := by rw [Nat.mod_eq_sub_mod (by omega)]
   rw [this, ← flat_getD hz m (i - k) (by rw [Nat.succ_mul] at h; omega)]
   simp [List.getD, List.getElem?_append_right (show z.length ≤ i by omega), hz]
theorem flat_length {z : List AV} {k : Nat} (hz : z.length = k) (m : Nat) : (List.flatten (List.replicate m z)).length = m * k := by
 simp [hz]
theorem length_rowsOf (k : Nat) : ∀ (m : Nat) (cs : List AV), (rowsOf k m cs).length = m
 | 0, _ => rfl
 | m + 1, cs => by simp [rowsOf, length_rowsOf k m]
theorem rowsOf_getD (k : Nat) : ∀ (m : Nat) (cs : List AV), cs.length = m * k → ∀ i, i < m → (((rowsOf k m cs).getD i []).length = k ∧ ∀ j, j < k → ((rowsOf k m cs).getD i []).getD j .junk = cs.getD (i * k + j) .junk)
 | 0, _, _, i, h => by omega
 | m + 1, cs, hl, 0, _ => by
  rw [Nat.succ_mul] at hl
  refine ⟨by simp [rowsOf]; omega, fun j hj => ?_⟩
  simp [rowsOf, List.getD, hj]
 | m + 1, cs, hl, i + 1, h => by
  rw [Nat.succ_mul] at hl
  obtain ⟨h1, h2⟩ := rowsOf_getD k m (cs.drop k) (by simp; omega) i (by omega)
  refine ⟨by simpa [rowsOf] using h1, fun j hj => ?_⟩
  have := h2 j hj
  simp only [rowsOf, List.getD_cons_succ, this]
  simp only [List.getD, List.getElem?_drop]
  congr 2
  rw [Nat.succ_mul]; omega
theorem range_cells (z : Array Value) (m k : Nat) (hz : z.size = k) (j : Nat) (hj : j < m * k) : ((Array.range (m * k)).map (z[· % z.size]!)).getD j undef = z.getD (j % k) undef := by
 have hk : 0 < k := by
  rcases Nat.eq_zero_or_pos k with h0 | h0
  ·subst h0; omega
  ·exact h0
 have h1 : j % k < z.size := by rw [hz]; exact Nat.mod_lt _ hk
 simp [hj, hz, getElem!_pos z (j % k) h1, getElem?_pos z (j % k) h1]
theorem al_bslice (hok : OK C σ a w S ρ κ) {t e : TypeId} {k m : Nat} {z : Array Value} (hu : P.underlying t = some (.slice e)) (hk : szOf P e = some k) (hz : zOf P e = some z) {parts : List (Nat × Operand)}
  (hv : al (evO σ.s) σ.h n K (.bslice k m (z.toList.map fun x => .v x) parts)) : Made P C σ a w S n K (Instr.buildSlice t m (parts.map fun p => (p.1, a.eval p.2)).toArray) := by
 obtain ⟨zv, hrun, rfl⟩ := run_zero hz w
 simp only [al] at hv
 obtain ⟨⟨hzk, hmk, hm, hzo⟩, hv⟩ := hv
 have hzs : zv.cells.size = k := by simpa using hzk
 have hc0 : Cells S w ρ κ σ.h (List.flatten (List.replicate m (zv.cells.toList.map fun x => .v x))) ((Array.range (m * k)).map (zv.cells[· % zv.cells.size]!)) := by
  refine ⟨by rw [flat_length hzk]; simp, fun j hj => ?_⟩
  rw [flat_length hzk] at hj
  rw [flat_getD hzk m j hj, range_cells _ _ _ hzs _ hj]
  have hk0 : 0 < k := by
   rcases Nat.eq_zero_or_pos k with h0 | h0
   ·subst h0; omega
   ·exact h0
  exact (cells_v zv.cells).2 _ (by rw [hzk]; exact Nat.mod_lt _ hk0)
 obtain ⟨cs, vs, ⟨hclo, hK⟩, hfill, hcs, hone⟩ := fill_of hok (fun i => some (i * k, k)) parts _ _ _ (by simp) hc0 hv
 have hlen : cs.length = m * k := by
  have hfl : ∀ (parts : List (Nat × Value)) (c c' : Array Value), Instr.fill (fun i => some (i * k, k)) c parts = some c' → c'.size = c.size := by
   intro parts
   induction parts with
   | nil => intro c c' h; simp [Instr.fill] at h; rw [h]
   | cons p r ih =>
    intro c c' h
    simp only [Instr.fill] at h
    split at h
    ·cases h
    ·rename_i hcond
     have := ih _ _ h
     rw [this]
     have hz2 : p.2.cells.zipIdx.foldl (fun cs (q : Value × Nat) => cs.setIfInBounds (p.1 * k + q.2) q.1) c = ((p.2.cells.toList.zipIdx 0).foldl (fun cs (q : Value × Nat) => cs.setIfInBounds (p.1 * k + q.2) q.1) c) := by
      rw [← Array.foldl_toList, Array.toList_zipIdx]
     have := (fold_cells p.2.cells.toList 0 (p.1 * k) c (by simp at hcond ⊢; omega)).1
     rw [← hz2] at this
     exact this
  have := hfl _ _ _ hfill
  rw [hcs.1, this]; simp
 have hone' := hone (fun j hj => by
   simp only [Array.size_map, Array.size_range] at hj
   rw [range_cells _ _ _ hzs _ hj]
   have hk0 : 0 < k := by
     rcases Nat.eq_zero_or_pos k with h0 | h0
     · subst h0; omega
     · exact h0
   have h2 := (cells_v (S := S) (w := w) (ρ := ρ) (κ := κ) (h := σ.h) zv.cells).2 (j % k) (by rw [hzk]; exact Nat.mod_lt _ hk0)
   exact one_val h2 (all_getD hzo (by rw [hzk]; exact Nat.mod_lt _ hk0)))
 refine ⟨_, _, .slice (some ⟨w.heap.size, 0, none⟩) m m, { w with heap := w.heap.push (.cells vs e) }, hK, ?_, fun hf _ => ?_⟩
 ·have hfill' : Instr.fill (fun i => some (i * k, k)) ((Array.range (m * k)).map (fun i => (if m * k = 0 then #[] else zv.cells)[i % (if m * k = 0 then (#[] : Array Value) else zv.cells).size]!)) (parts.map fun p => (p.1, a.eval p.2)) = some vs := by
   have hr0 : Array.range 0 = #[] := rfl
   by_cases h0 : m * k = 0
   ·rw [← hfill]; simp [h0, hr0]
   ·rw [← hfill]; simp [h0]
  have hn : ¬ (2 ^ 24 < m * k) := by omega
  by_cases h0 : m * k = 0
  ·simp only [h0, if_true] at hfill'
   simp [Instr.buildSlice, run_underlying hu, run_sizeOf hk, h0, newRow]
   simp at hfill'
   rw [hfill']; simp
  ·simp only [h0, if_false] at hfill'
   have : ¬ 16777216 < m * k := by omega
   simp [Instr.buildSlice, run_underlying hu, run_sizeOf hk, newRow, hrun, this]
   rw [if_neg h0, hfill']; simp
 ·have key := hok.addArr (w' := { w with heap := w.heap.push (.cells vs e) }) (Ext.push w _) hf (k := k) (l := rowsOf k m cs) (cs := vs) (T := e) (fr := (0, 0)) (x := w.heap.size) (cap := m) (Nat.le_refl _) (heap_push _ _) (fun j _ hj => by omega)
   (fun i hi => (rowsOf_getD k m cs hlen i (by rwa [length_rowsOf] at hi)).1) (by rw [length_rowsOf, ← hcs.1, hlen]; exact Nat.le_refl _) (fun i j hi hj => ?_) ⟨by rw [length_rowsOf]; exact Nat.le_refl _, by omega, by rw [← hcs.1, hlen]; exact Nat.le_refl _⟩
  ·rw [length_rowsOf] at key; exact key
  ·rw [length_rowsOf] at hi
   have hlt : i * k + j < m * k := by
    have : (i + 1) * k ≤ m * k := Nat.mul_le_mul_right k hi
    rw [Nat.succ_mul] at this; omega
   refine ⟨hone' _ (by rw [← hcs.1, hlen]; exact hlt), ?_⟩
   rw [(rowsOf_getD k m cs hlen i hi).2 j hj]
   exact (hcs.2 _ (by rw [hlen]; exact hlt)).closed (isCloL_getD hclo (by rw [hlen]; exact hlt))
theorem al_mk (hok : OK C σ a w S ρ κ) {t e : TypeId} {i : TypeInfo} {zv : Value} (hu : P.underlying t = some (.slice e)) (hi : P.info? e = some i) (hz : i.zero = some zv) {x : Operand}
  (hv : al (evO σ.s) σ.h n K (.mk i.size i.bytes (zv.cells.toList.map fun x => .v x) x)) : Made P C σ a w S n K (Instr.makeSlice t (a.eval x) (a.eval x)) := by
 have hx := hok.ev x
 generalize a.eval x = va at hx ⊢
 simp only [al] at hv
 split at hv
 ·rename_i m hc
  rw [hc] at hx
  obtain rfl := inv_v hx
  obtain ⟨⟨h0, h1, h2, h3, hall⟩, hK⟩ := hv
  have hzs : zv.cells.size = i.size := by simpa using h3
  have hrun := run_make (P := P) w t e i zv hu hi hz .i64 .i64 m m h0 (by omega) (by rw [Int.mul_comm]; omega) (by omega)
  refine ⟨_, _, _, _, hK, hrun, fun hf _ => ?_⟩
  have hmc : ∀ j, j < m.toNat * i.size → (madeCells zv.cells (m.toNat * i.size)).getD j undef = zv.cells.getD (j % i.size) undef := fun j hj => range_cells _ _ _ hzs _ hj
  have hlen : (List.replicate m.toNat (zv.cells.toList.map fun x => AV.v x)).length = m.toNat := by simp
  have hget : ∀ j, j < m.toNat → (List.replicate m.toNat (zv.cells.toList.map fun x => AV.v x)).getD j [] = (zv.cells.toList.map fun x => AV.v x) := by
   intro j hj; simp [List.getD, hj]
  have key := hok.addArr (w' := w.alloc (.cells (madeCells zv.cells (m.toNat * i.size)) e)) (Ext.push w _) hf (k := i.size) (l := List.replicate m.toNat (zv.cells.toList.map fun x => .v x)) (cs := madeCells zv.cells (m.toNat * i.size)) (T := e) (fr := (0, 0)) (x := w.heap.size) (cap := m.toNat) (Nat.le_refl _) (heap_push _ _) (fun j _ hj => by omega)
   (fun j hj => by rw [hlen] at hj; rw [hget j hj]; exact h3) (by rw [hlen, size_madeCells]; exact Nat.le_refl _) (fun p j hp hj => ?_) ⟨by rw [hlen]; exact Nat.le_refl _, by omega, by rw [size_madeCells]; exact Nat.le_refl _⟩
  ·rw [hlen] at key; exact key
  ·rw [hlen] at hp
   have hlt : p * i.size + j < m.toNat * i.size := by
    have : (p + 1) * i.size ≤ m.toNat * i.size := Nat.mul_le_mul_right _ hp
    rw [Nat.succ_mul] at this; omega
   rw [hmc _ hlt, hget p hp]
   have e1 : (p * i.size + j) % i.size = j := by rw [Nat.mul_comm, Nat.mul_add_mod, Nat.mod_eq_of_lt hj]
   rw [e1]
   have hjl : j < (zv.cells.toList.map fun x => AV.v x).length := by rw [h3]; exact hj
   have h4 := (cells_v (S := S) (w := w) (ρ := ρ) (κ := κ) (h := σ.h) zv.cells).2 j hjl
   have h5 := all_getD hall hjl
   simp only [Bool.and_eq_true] at h5
   exact ⟨one_val h4 h5.1, h4.closed h5.2⟩
 ·exact hv.elim
end
end Go.Vs
