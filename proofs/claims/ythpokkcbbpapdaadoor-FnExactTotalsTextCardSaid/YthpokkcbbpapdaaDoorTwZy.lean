/- The law FnExactTotalsText returns true for every input, and its argument reads behind the call as it read before. Conditions: the tables of the library (the powers of ten), which its text lays and the card ties. -/
import Derived.Test.YthpokkcbbpapdaaDoorTuA
import Derived.Test.YthpokkcbbpapdaaDoorDtG
import Derived.Test.YthpokkcbbpapdaaDoorDtO
import Derived.LaidMore
import Derived.Lib.LaidTab
import Derived.MakeChecks
import Derived.Stop.LaidErr
import Derived.Test.YthpokkcbbpapdaaDoorTwZx
import Derived.Test.YthpokkcbbpapdaaDoorCards
import Derived.Test.YthpokkcbbpapdaaDoorTie
import Derived.SevenTiedAt
namespace Go.Proofs.YthpokkcbbpapdaaDoor
open Go.Vs
set_option maxRecDepth 100000
abbrev S63 := { s : ByteArray // s.size < 2 ^ 63 }
theorem oI : Opens Tryd.prog 2 1 (fun n : I64 => [.v (.int .i64 n.1)]) := Opens.int Tryd.underlying2 (by kernel_rfl)
theorem oS : Opens Tryd.prog 9 1 (fun s : S63 => [.v (.string s.1)]) := Opens.string Tryd.underlying9 (by kernel_rfl)
def eField (p : I64 × I64) : List AV := [.v (.int .i64 p.1.1)] ++ ([.v (.int .i64 p.2.1)])
theorem oField : Opens Tryd.prog 24 2 eField := by
  refine Opens.struct (k := 1 + (1)) (e := fun p : I64 × I64 => [.v (.int .i64 p.1.1)] ++ ([.v (.int .i64 p.2.1)])) Tryd.underlying24 (by kernel_rfl) ?_
  exact OpensF.cons' rfl oI rfl (OpensF.one' rfl oI rfl rfl rfl) rfl rfl
def eTotal (p : S63 × I64) : List AV := [.v (.string p.1.1)] ++ ([.v (.int .i64 p.2.1)])
theorem oTotal : Opens Tryd.prog 119 2 eTotal := by
  refine Opens.struct (k := 1 + (1)) (e := fun p : S63 × I64 => [.v (.string p.1.1)] ++ ([.v (.int .i64 p.2.1)])) Tryd.underlying119 (by kernel_rfl) ?_
  exact OpensF.cons' rfl oS rfl (OpensF.one' rfl oI rfl rfl rfl) rfl rfl
def eSpec (p : (I64 × I64) × S63 × (I64 × I64) × (I64 × I64)) : List AV := eField p.1 ++ ([.v (.string p.2.1.1)] ++ (eField p.2.2.1 ++ (eField p.2.2.2)))
theorem oSpec : Opens Tryd.prog 62 7 eSpec := by
  refine Opens.struct (k := 2 + (1 + (2 + (2)))) (e := fun p : (I64 × I64) × S63 × (I64 × I64) × (I64 × I64) => eField p.1 ++ ([.v (.string p.2.1.1)] ++ (eField p.2.2.1 ++ (eField p.2.2.2)))) Tryd.underlying62 (by kernel_rfl) ?_
  exact OpensF.cons' rfl oField rfl (OpensF.cons' rfl oS rfl (OpensF.cons' rfl oField rfl (OpensF.one' rfl oField rfl rfl rfl) rfl rfl) rfl rfl) rfl rfl
def eStep (p : I64 × I64 × I64 × I64 × (I64 × I64) × (I64 × I64) × S63) : List AV := [.v (.int .i64 p.1.1)] ++ ([.v (.int .i64 p.2.1.1)] ++ ([.v (.int .i64 p.2.2.1.1)] ++ ([.v (.int .i64 p.2.2.2.1.1)] ++ (eField p.2.2.2.2.1 ++ (eField p.2.2.2.2.2.1 ++ ([.v (.string p.2.2.2.2.2.2.1)]))))))
theorem oStep : Opens Tryd.prog 77 9 eStep := by
  refine Opens.struct (k := 1 + (1 + (1 + (1 + (2 + (2 + (1))))))) (e := fun p : I64 × I64 × I64 × I64 × (I64 × I64) × (I64 × I64) × S63 => [.v (.int .i64 p.1.1)] ++ ([.v (.int .i64 p.2.1.1)] ++ ([.v (.int .i64 p.2.2.1.1)] ++ ([.v (.int .i64 p.2.2.2.1.1)] ++ (eField p.2.2.2.2.1 ++ (eField p.2.2.2.2.2.1 ++ ([.v (.string p.2.2.2.2.2.2.1)]))))))) Tryd.underlying77 (by kernel_rfl) ?_
  exact OpensF.cons' rfl oI rfl (OpensF.cons' rfl oI rfl (OpensF.cons' rfl oI rfl (OpensF.cons' rfl oI rfl (OpensF.cons' rfl oField rfl (OpensF.cons' rfl oField rfl (OpensF.one' rfl oS rfl rfl rfl) rfl rfl) rfl rfl) rfl rfl) rfl rfl) rfl rfl) rfl rfl
def eFault (p : I64 × I64 × I64 × I64) : List AV := [.v (.int .i64 p.1.1)] ++ ([.v (.int .i64 p.2.1.1)] ++ ([.v (.int .i64 p.2.2.1.1)] ++ ([.v (.int .i64 p.2.2.2.1)])))
theorem oFault : Opens Tryd.prog 56 4 eFault := by
  refine Opens.struct (k := 1 + (1 + (1 + (1)))) (e := fun p : I64 × I64 × I64 × I64 => [.v (.int .i64 p.1.1)] ++ ([.v (.int .i64 p.2.1.1)] ++ ([.v (.int .i64 p.2.2.1.1)] ++ ([.v (.int .i64 p.2.2.2.1)])))) Tryd.underlying56 (by kernel_rfl) ?_
  exact OpensF.cons' rfl oI rfl (OpensF.cons' rfl oI rfl (OpensF.cons' rfl oI rfl (OpensF.one' rfl oI rfl rfl rfl) rfl rfl) rfl rfl) rfl rfl
def eControl (p : I64 × I64 × I64) : List AV := [.v (.int .i64 p.1.1)] ++ ([.v (.int .i64 p.2.1.1)] ++ ([.v (.int .i64 p.2.2.1)]))
theorem oControl : Opens Tryd.prog 50 3 eControl := by
  refine Opens.struct (k := 1 + (1 + (1))) (e := fun p : I64 × I64 × I64 => [.v (.int .i64 p.1.1)] ++ ([.v (.int .i64 p.2.1.1)] ++ ([.v (.int .i64 p.2.2.1)]))) Tryd.underlying50 (by kernel_rfl) ?_
  exact OpensF.cons' rfl oI rfl (OpensF.cons' rfl oI rfl (OpensF.one' rfl oI rfl rfl rfl) rfl rfl) rfl rfl
theorem oInts : Opens Tryd.prog 34 1 (fun l : { l : List (I64) // l.length < 2 ^ 63 } => [.sl 1 (l.1.map (fun n : I64 => [.v (.int .i64 n.1)]))]) := Opens.slice Tryd.underlying34 (by kernel_rfl) (by decide) oI
def eCard (p : { l : List (I64) // l.length < 2 ^ 63 }) : List AV := [.sl 1 (p.1.map (fun n : I64 => [.v (.int .i64 n.1)]))]
theorem oCard : Opens Tryd.prog 36 1 eCard := by
  refine Opens.struct (k := 1) (e := fun p : { l : List (I64) // l.length < 2 ^ 63 } => [.sl 1 (p.1.map (fun n : I64 => [.v (.int .i64 n.1)]))]) Tryd.underlying36 (by kernel_rfl) ?_
  exact OpensF.one' rfl oInts rfl rfl rfl
theorem oTotals : Opens Tryd.prog 69 1 (fun l : { l : List (S63 × I64) // l.length < 2 ^ 63 } => [.sl 2 (l.1.map eTotal)]) := Opens.slice Tryd.underlying69 (by kernel_rfl) (by decide) oTotal
theorem oCards : Opens Tryd.prog 22 1 (fun l : { l : List ({ l : List (I64) // l.length < 2 ^ 63 }) // l.length < 2 ^ 63 } => [.sl 1 (l.1.map eCard)]) := Opens.slice Tryd.underlying22 (by kernel_rfl) (by decide) oCard
theorem E_map {α β : Type} {c : α → List AV} {g : β → α} (l : List β) : E c (l.map g) = l.map fun x => c (g x) := by simp [E]
end Go.Proofs.YthpokkcbbpapdaaDoor

namespace Go.Vs
def sumL : List Int → Int
  | [] => 0
  | x :: r => x + sumL r
theorem sumL_nonneg : ∀ {l : List Int}, (∀ x, x ∈ l → 0 ≤ x) → 0 ≤ sumL l
  | [], _ => by simp [sumL]
  | x :: r, h => by
    have := sumL_nonneg (l := r) fun y hy => h y (by simp [hy])
    have := h x (by simp)
    simp only [sumL]; omega
theorem sumL_le {m : Int} : ∀ {l : List Int}, (∀ x, x ∈ l → x ≤ m) → sumL l ≤ m * l.length
  | [], _ => by simp [sumL]
  | x :: r, h => by
    have := sumL_le (l := r) fun y hy => h y (by simp [hy])
    have := h x (by simp)
    simp only [sumL, List.length_cons, Int.natCast_add, Int.natCast_one, Int.mul_add, Int.mul_one]; omega
theorem sumL_drop {l : List Int} {i : Nat} (h : i < l.length) : sumL (l.drop i) = l[i] + sumL (l.drop (i + 1)) := by
  rw [List.drop_eq_getElem_cons h, sumL]
theorem sumL_dropN {l : List Int} (h : ∀ x, x ∈ l → 0 ≤ x) (i : Nat) : 0 ≤ sumL (l.drop i) :=
  sumL_nonneg fun x hx => h x (List.mem_of_mem_drop hx)
theorem sumL_append (l m : List Int) : sumL (l ++ m) = sumL l + sumL m := by
  induction l with
  | nil => simp [sumL]
  | cons x r ih => simp only [List.cons_append, sumL, ih]; omega
/-- the sum of the digits -/
def dsN (n : Nat) : Nat := if h : n = 0 then 0 else n % 10 + dsN (n / 10)
termination_by n
decreasing_by omega
theorem dsN_zero : dsN 0 = 0 := by rw [dsN, dif_pos rfl]
theorem dsN_pos {n : Nat} (h : n ≠ 0) : dsN n = n % 10 + dsN (n / 10) := by rw [dsN, dif_neg h]
theorem dsN_any (n : Nat) : dsN n = n % 10 + dsN (n / 10) := by
  by_cases h : n = 0
  · subst h; simp [dsN_zero]
  · exact dsN_pos h
theorem dsN_le (n : Nat) : dsN n ≤ n := by
  induction n using Nat.strongRecOn with
  | _ n ih =>
    by_cases h : n = 0
    · subst h; rw [dsN_zero]; omega
    · rw [dsN_pos h]
      have := ih (n / 10) (by omega)
      omega
end Go.Vs

namespace Go.Vs
open Go.ChangeShapes Go.WideShapes Go.ChangeAt Go.RowKit
theorem law_returns_and {C : Checked} {os : Os} {s : ChangeSpec} {f : FuncId} {fn : Func} {dom : List PathCond} {H : Type} {enc : TypeId × Value → H} {tb : TypeId} {A : Type} {e : A → List AV} {X : World → Array Value → Prop}
    (hX : ∀ (w w' : World) (args : Array Value), w.heap = w'.heap → X w args → X w' args) (henv : ∀ W args, X W args → Env (fun b => b < W.heap.size) W)
    (own : ownKnob C.prog.godebug = none) (started : os.Started) (noInit : C.prog.inits.idxOf? f = none) (hfn : C.prog.funcs[f]? = some fn)
    (witness : ∃ (w : World) (tape : Tape) (i : Input), w.os = os ∧ (w.forCall tape i).Shaped C.prog ∧ i.vars = [] ∧ Input.okWide C.prog (w.forCall tape i) .any w.heap.size f i ∧
      ((s.pre enc C.prog fn dom false (w.forCall tape i).memory i.args ∧ X (w.forCall tape i).memory i.args) ∧ sizedMet enc C.prog fn (OpenSpec.ofChange s) false (w.forCall tape i).memory i.args) ∧ Assume.holds {} C.prog (lone (Frame.enter C.prog f i.args .normal) [] (w.forCall tape i)))
    (hl : laidOutB C.prog = true) (htB : (fn.params.toList.all fun t => C.prog.readableRec t && decide (t < C.prog.types.size)) = true) (hrt : fn.resultTypes = #[tb]) (htb : C.prog.underlying tb = some .bool)
    (hvars : s.vars = []) (hs : ∀ ds : List (DataW H), ds.length = fn.params.toList.length → (s.fn H (ds ++ [])).results = [.lit (.bool true)] ∧ (s.fn H (ds ++ [])).args = ds ∧ (s.fn H (ds ++ [])).vars = [])
    (hargs : Args C.prog fn.params.toList e) (hlaw : ∀ a, Fn C.prog f [] (e a) (.v (.bool true)) []) :
    ReturnsInHanded {} C os f .any (fun w args => (s.pre enc C.prog fn dom false w args ∧ X w args) ∧ sizedMet enc C.prog fn (OpenSpec.ofChange s) false w args) (s.post enc C.prog fn false true false false) := by
  refine returnsInHanded_of_change_and hX own started noInit hfn witness ?_
  intro W base args ds gs before hval hW _ _ hx _
  have hW' := hW
  obtain ⟨p, q, hA, hV, rfl, hfz, hnd⟩ := hW
  rw [hvars] at hV
  obtain ⟨rfl, rfl⟩ := trodVars_none hV
  obtain ⟨a, h1, h2⟩ := hargs H enc W base args.toList ds p (fun j t v ht hv => hval j t v (by simpa using ht) (by simpa using hv)) hA
  refine law_post hl htB hrt htb hW' hvars (hs ds (trodAll_len hA)) (henv W args hx) (hlaw a) (by simpa using h1.symm) fun j hj => ?_
  have := h2 j (by rw [h1] at hj; exact hj)
  rwa [getD_toList] at this
end Go.Vs

namespace Go.Proofs.YthpokkcbbpapdaaDoor
open Go.Vs Go.ChangeShapes Go.WideShapes Go.ChangeAt Go.RowKit
set_option linter.unusedSimpArgs false
set_option linter.unusedVariables false
attribute [local irreducible] Vs.Fn

set_option maxRecDepth 100000 in
theorem env_of_laid {W : World} (h0 : laidMetH Tryd.prog Rows.fnExactTotalsTextRow.laid W) : Env (fun b => b < W.heap.size) W := by
  have h : laidMet Tryd.prog Rows.fnExactTotalsTextRow.laid W := by
    rw [← MakeChecks.laidMetH_plain _ _ _ (by kernel_rfl)]
    exact h0
  have ht := laidMet.tail (laidMet.tail h)
  have hi := Lib.tabIs_of_head (k := .u64) (zs := Lib.pow10Tab) (g := 0) (t := 205) (e := 181) (n := 20) (by kernel_rfl) (by kernel_rfl) Tryd.underlying205 Tryd.underlying181 (by kernel_rfl) (by kernel_rfl) ht
  intro p hp
  simp only [envs, List.mem_singleton] at hp
  subst hp
  unfold Lib.TabIs World.var? at hi
  have hi2 := (congrArg (fun o => Option.bind o _) (by kernel_rfl : Tryd.prog.globalNamed _ = some 0)).symm.trans hi
  simp only [Option.bind_some] at hi2
  split at hi2
  · rename_i cs T fr hcs
    obtain rfl := Option.some.inj hi2
    refine ⟨?_, T, fr, hcs⟩
    rcases Nat.lt_or_ge 0 W.heap.size with hlt | hge
    · exact hlt
    · rw [Array.getElem?_eq_none hge] at hcs; cases hcs
  · cases hi2
def gTot1 (p : S63 × I64) : Tot := (p.1.1, p.2.1)
theorem I64_inR (n : I64) : inR n.1 := I64.range n

set_option maxRecDepth 100000 in
theorem totalstext_door (os : Os) (args : Array Value) : laidMetH Tryd.prog Rows.fnExactTotalsTextRow.laid ((World.doorLaid Tryd.prog 24 os).forCall (fun _ _ => 0) ⟨#[], args, []⟩).memory :=
  laidMetH_of_parts3 (fuel := 8) (laidMet_of_run' 8 (by kernel_rfl) (by kernel_rfl)) (by kernel_rfl) (by kernel_rfl)

set_option maxRecDepth 100000 in
theorem totalstext_lifted (os : Os) (started : os.Started) (H : Type) (enc : TypeId × Value → H) :
    ReturnsInHanded {} Tryd.checked os F.laws_FnExactTotalsText .any (fun w args => (Rows.fnExactTotalsTextSpec.pre enc Tryd.prog Tryd.f9 Rows.fnExactTotalsTextRow.domain false w args ∧ laidMetH Tryd.prog Rows.fnExactTotalsTextRow.laid w) ∧ sizedMet enc Tryd.prog Tryd.f9 (OpenSpec.ofChange Rows.fnExactTotalsTextSpec) false w args)
      (Rows.fnExactTotalsTextSpec.post enc Tryd.prog Tryd.f9 false true false false) :=
  law_returns_and (C := Tryd.checked) (X := fun w _ => laidMetH Tryd.prog Rows.fnExactTotalsTextRow.laid w) (fun _ _ _ hh h => h.of_heap hh) (fun W args h => env_of_laid h) Tryd.own started (by kernel_rfl) Tryd.func9
    (ChangeSpec.witness_shaped (enc := enc) (C := Tryd.checked) (os := os) (X := fun w _ => laidMetH Tryd.prog Rows.fnExactTotalsTextRow.laid w) false (World.doorLaid Tryd.prog 24 os) #[.slice none 0 0] 8 rfl (World.shaped_of_RefB (by kernel_rfl) (by kernel_rfl)) (by kernel_rfl) (by kernel_rfl) (by kernel_rfl) (totalstext_door os _))
    Tryd.laidOut (by kernel_rfl) rfl Tryd.underlying4 rfl (fun ds h => by match ds, h with | [_], _ => exact ⟨rfl, rfl, rfl⟩)
    (Args.cons (Arg.slice Tryd.underlying69 oTotals) Args.nil) (fun a => by
      have h := law_TotalsText (a.1.1.map gTot1) (fun x hx => by obtain ⟨p, _, rfl⟩ := List.mem_map.1 hx; exact ⟨p.1.2, I64_inR p.2⟩) (by simpa using a.1.2)
      rw [E_map] at h
      exact h)

theorem totalstext_row : Rows.FnExactTotalsTextSaid :=
  OpenClaim.holds_of_wide 9 Tryd.f9 rfl rfl rfl rfl rfl rfl rfl ⟨rfl, rfl, rfl, rfl, rfl⟩ rfl rfl rfl rfl rfl (by kernel_rfl) Tryd.func9 (by kernel_rfl)
    (of_decide_eq_true (by kernel_rfl)) (by unfold Func.isWrapper; first | (rw [if_pos (by decide +kernel)]; kernel_rfl) | (rw [if_neg (by decide +kernel)]; exact ⟨rfl, rfl⟩))
    (fun os started H enc _ => totalstext_lifted os started H enc)

theorem totalstext_holds : Rows.FnExactTotalsTextCardSaid :=
  Claim7.holds_tied_plain_at .later [] [.data, .data, .data] true _ true totalstext_row (fun _ h => by cases h) (by kernel_rfl) (fun _ h => by cases h) fnExactTotalsText_row_tie rfl ⟨rfl, rfl⟩ (by kernel_rfl) rfl
    (fun f fn hf hfn => by
      obtain rfl : f = 9 := Option.some.inj ((by kernel_rfl : Tryd.prog.funcNamed Rows.fnExactTotalsTextRow.func = some 9).symm.trans hf) |>.symm
      obtain rfl : fn = Tryd.f9 := (Option.some.inj (Tryd.func9.symm.trans hfn)).symm
      exact ⟨by kernel_rfl, fun j t ht => by
        rw [show Tryd.f9.params = #[69] from rfl] at ht
        have hm : t ∈ [69] := by simpa using Array.mem_of_getElem? ht
        have hall : ([69].all fun u => !Tryd.prog.wantsStandIn u) = true := by kernel_rfl
        exact (show Tryd.prog.wantsStandIn t = false by simpa using List.all_eq_true.1 hall t hm)⟩)
    (by kernel_rfl)
#print axioms totalstext_holds
end Go.Proofs.YthpokkcbbpapdaaDoor
