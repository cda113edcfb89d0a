/- Bytes to a string. -/
import Derived.Test.YthpokkcbbpapdaaVsI
import Derived.Test.YthpokkcbbpapdaaVtA
import Derived.Laws.BytesString
import Derived.Laws.StandIn
namespace Go.Vs
variable {P : Program} {C : Ctx} {σ : FSt} {a : Act} {w : World} {S : Nat → Prop} {ρ : Name → Option Nat} {κ : Name → Nat} {K : AV → Prop}

theorem foldl_push (ns : List Int) : ns.foldl (fun r n => r.push (UInt8.ofNat n.toNat)) ByteArray.empty = strB ns := by
  have key : ∀ (ns : List Int) (b : ByteArray), ns.foldl (fun r n => r.push (UInt8.ofNat n.toNat)) b = ⟨b.data ++ (ns.map fun n => UInt8.ofNat n.toNat).toArray⟩ := by
    intro ns
    induction ns with
    | nil => intro b; cases b; simp
    | cons n r ih =>
      intro b
      simp only [List.foldl_cons, ih]
      cases b
      simp [ByteArray.push]
  rw [key]
  simp [strB, ByteArray.empty, ByteArray.emptyWithCapacity]
  rfl

theorem numsO_spec : ∀ {l : List (List AV)} {ns : List Int}, numsO l = some ns → l = ns.map fun n => [.v (.int .u8 n)]
  | [], ns, h => by simp [numsO] at h; simp [h]
  | [.v (.int .u8 n)] :: r, ns, h => by
    simp only [numsO] at h
    split at h
    · rename_i l hl
      obtain rfl := Option.some.inj h
      rw [numsO_spec hl]; rfl
    · cases h
  | [] :: r, ns, h => by simp [numsO] at h
  | (x :: y :: s) :: r, ns, h => by simp [numsO] at h
  | [x] :: r, ns, h => by
    cases x <;> try (simp [numsO] at h; done)
    rename_i v
    cases v <;> try (simp [numsO] at h; done)
    rename_i k n
    cases k <;> try (simp [numsO] at h; done)
    simp only [numsO] at h
    split at h
    · rename_i l hl
      obtain rfl := Option.some.inj h
      rw [numsO_spec hl]; rfl
    · cases h

theorem rd_b2s (hok : OK C σ a w S ρ κ) {s d e : TypeId} (hs : P.underlying s = some (.slice e)) (he : P.underlying e = some (.int .u8)) (hd : P.underlying d = some .string) {x : Operand}
    (hv : rd (evO σ.s) σ.h K (.b2s x)) : Ans P S w ρ κ σ.h K (convert s d (a.eval x)) := by
  have hx := hok.ev x
  generalize a.eval x = va at hx ⊢
  simp only [rd] at hv
  split at hv
  · rename_i l hl
    split at hv
    · rename_i ns hns
      obtain ⟨base, cap, f, rfl, hr⟩ := reads_of hok.hok hx hl
      have hl' := numsO_spec hns
      refine ⟨_, _, hv, ?_, .clo (.v _)⟩
      rw [run_convert_bytes_string w s d e _ _ _ hs he hd]
      have hlen : l.length = ns.length := by rw [hl']; simp
      cases ns with
      | nil =>
        have h0 : l.length = 0 := by simpa using hlen
        rw [h0]
        cases base with
        | none =>
          simp [Conv.bytesToString, strB, ByteArray.empty, ByteArray.emptyWithCapacity]
          rfl
        | some A =>
          rw [run_bytesToString w A 0 cap [] (by simp [loadCells, loadCellsFrom]), foldl_push]
      | cons n0 ns0 =>
        have hcell := hr.cell w rfl
        obtain ⟨b, off, hb, _⟩ := hcell 0 (by simp at hlen; omega)
        subst hb
        rw [hlen]
        rw [run_bytesToString w ⟨b, off, none⟩ _ cap (n0 :: ns0) ?_, foldl_push]
        rw [run_loadCells w ⟨b, off, none⟩ _ f (fun j hj => ?_)]
        · congr 1
          apply Array.ext'
          simp only
          apply List.ext_getElem?
          intro j
          rcases Nat.lt_or_ge j (n0 :: ns0).length with hj | hj
          · have hrc := hr.rc j (by omega)
            have e1 : rowCell 1 l j = .v (.int .u8 (n0 :: ns0)[j]) := by
              have : l[j]? = some [.v (.int .u8 (n0 :: ns0)[j])] := by rw [hl']; simp only [List.getElem?_map, List.getElem?_eq_getElem hj, Option.map_some]
              simp [rowCell, List.getD, this, Nat.mod_one]
            rw [e1] at hrc
            have e2 : f j = .int .u8 (n0 :: ns0)[j] := by
              generalize f j = u at hrc
              cases hrc with | v _ => rfl
            rw [List.getElem?_map, List.getElem?_range hj, List.getElem?_map, List.getElem?_eq_getElem hj, Option.map_some, Option.map_some, e2]
          · rw [List.getElem?_eq_none (show (List.map f (List.range (n0 :: ns0).length)).length ≤ j by simpa using hj), List.getElem?_eq_none (show (List.map (Value.int .u8) (n0 :: ns0)).length ≤ j by simpa using hj)]
        · obtain ⟨b', off', hb', hc'⟩ := hcell j (by omega)
          simp only [Option.some.injEq, Addr.mk.injEq, and_true] at hb'
          obtain ⟨rfl, rfl⟩ := hb'
          rw [addr_add]; exact hc'
    · exact hv.elim
  · exact hv.elim
/-- the function of this number is the one that looks a byte up in a string -/
def isIdx (P : Program) (f : FuncId) : Bool := match P.funcs[f]? with
  | some fn => fn.body.isNone && fn.name == "internal/bytealg.IndexByteString" && fn.origin == ""
  | none => false

theorem find_idx {fn : Func} (h : fn.name = "internal/bytealg.IndexByteString") : Extern.find fn = some Extern.BytealgIndexByte.indexByte := by
  unfold Extern.find
  simp only [h]
  rfl
theorem findNext_idx {fn : Func} (h : fn.name = "internal/bytealg.IndexByteString") (ho : fn.origin = "") : Extern.findNext fn = none := by
  unfold Extern.findNext
  simp only [h, ho]
  rfl

theorem rd_idxB (hok : OK C σ a w S ρ κ) {o : Oper} {c : Call} {f : FuncId} {x y : Operand} (hop : o.op = .call c) (hc : c.callee = .value (.func f)) (hargs : c.args = #[x, y]) (hi : isIdx P f = true)
    (hv : rd (evO σ.s) σ.h K (.idxB x y)) : ∃ x' v, K x' ∧ (execOp a.eval o).run P w = .ok (.value v) w ∧ RV S w ρ κ σ.h x' v := by
  have hx := hok.ev x
  have hy := hok.ev y
  have hrun : (execOp a.eval o).run P w = (callFunc f #[a.eval x, a.eval y]).run P w := by
    simp [execOp, hop, resolve, hc, hargs, Act.eval, Deferred.ofValue, invoke]
  generalize a.eval x = va at hx hrun
  generalize a.eval y = vb at hy hrun
  simp only [rd] at hv
  split at hv
  · rename_i s n h1 h2
    rw [h1] at hx; rw [h2] at hy
    obtain rfl := inv_v hx
    obtain rfl := inv_v hy
    unfold isIdx at hi
    split at hi
    · rename_i fn hfn
      simp only [Bool.and_eq_true, beq_iff_eq] at hi
      have hname : (fn.name == "runtime.NumGoroutine") = false := by rw [hi.1.2]; rfl
      refine ⟨_, .int .i64 (idxByte s n), hv, ?_, .clo (.v _)⟩
      rw [hrun, run_callFunc_indexByte hfn hname hi.1.1 (findNext_idx hi.1.2 hi.2) (find_idx hi.1.2)]
      have e : Extern.BytealgIndexByte.indexByte #[Value.string s, .int .u8 n] = (do
          let b ← Extern.Bytes.bytesOf (.string s)
          let c ← Extern.Bytes.asByte (.int .u8 n)
          match (List.range b.size).find? (fun i => b[i]! == c) with
          | some i => pure (goInt i)
          | none => pure (goInt (-1)) : Sem Value) := rfl
      rw [e]
      simp only [Extern.Bytes.bytesOf, Extern.Bytes.asByte, Sem.run_bind, Sem.run_pure, Result.andThen_ok]
      unfold idxByte
      split
      · rename_i i hf
        simp only [hf, Sem.run_pure, Result.andThen_ok, goInt]
      · rename_i hf
        simp only [hf, Sem.run_pure, Result.andThen_ok, goInt]
    · cases hi
  · exact hv.elim
end Go.Vs
