/- How the arguments' types read. -/
import Derived.Test.YtclfhgcngodljaaDoorTuA
import Derived.Test.YtclfhgcngodljaaDoorDtF
import Derived.Test.YtclfhgcngodljaaDoorDtP
import Derived.LaidMore
import Derived.Lib.LaidTab
import Derived.MakeChecks
import Derived.Stop.LaidErr
import Derived.Test.YtclfhgcngodljaaDoorTwL
import Derived.Test.YtclfhgcngodljaaDoorCards
import Derived.Test.YtclfhgcngodljaaDoorTie
import Derived.SevenTiedAt
namespace Go.Proofs.YtclfhgcngodljaaDoor
open Go.Vs
set_option maxRecDepth 100000
abbrev S63 := { s : ByteArray // s.size < 2 ^ 63 }
theorem oI : Opens Tryd.prog 2 1 (fun n : I64 => [.v (.int .i64 n.1)]) := Opens.int Tryd.underlying2 (by kernel_rfl)
theorem oS : Opens Tryd.prog 9 1 (fun s : S63 => [.v (.string s.1)]) := Opens.string Tryd.underlying9 (by kernel_rfl)
def eField (p : I64 × I64) : List AV := [.v (.int .i64 p.1.1)] ++ ([.v (.int .i64 p.2.1)])
theorem oField : Opens Tryd.prog 44 2 eField := by
  refine Opens.struct (k := 1 + (1)) (e := fun p : I64 × I64 => [.v (.int .i64 p.1.1)] ++ ([.v (.int .i64 p.2.1)])) Tryd.underlying44 (by kernel_rfl) ?_
  exact OpensF.cons' rfl oI rfl (OpensF.one' rfl oI rfl rfl rfl) rfl rfl
def eFault (p : I64 × I64 × I64 × I64) : List AV := [.v (.int .i64 p.1.1)] ++ ([.v (.int .i64 p.2.1.1)] ++ ([.v (.int .i64 p.2.2.1.1)] ++ ([.v (.int .i64 p.2.2.2.1)])))
theorem oFault : Opens Tryd.prog 69 4 eFault := by
  refine Opens.struct (k := 1 + (1 + (1 + (1)))) (e := fun p : I64 × I64 × I64 × I64 => [.v (.int .i64 p.1.1)] ++ ([.v (.int .i64 p.2.1.1)] ++ ([.v (.int .i64 p.2.2.1.1)] ++ ([.v (.int .i64 p.2.2.2.1)])))) Tryd.underlying69 (by kernel_rfl) ?_
  exact OpensF.cons' rfl oI rfl (OpensF.cons' rfl oI rfl (OpensF.cons' rfl oI rfl (OpensF.one' rfl oI rfl rfl rfl) rfl rfl) rfl rfl) rfl rfl
def eReport (p : I64 × I64 × I64) : List AV := [.v (.int .i64 p.1.1)] ++ ([.v (.int .i64 p.2.1.1)] ++ ([.v (.int .i64 p.2.2.1)]))
theorem oReport : Opens Tryd.prog 31 3 eReport := by
  refine Opens.struct (k := 1 + (1 + (1))) (e := fun p : I64 × I64 × I64 => [.v (.int .i64 p.1.1)] ++ ([.v (.int .i64 p.2.1.1)] ++ ([.v (.int .i64 p.2.2.1)]))) Tryd.underlying31 (by kernel_rfl) ?_
  exact OpensF.cons' rfl oI rfl (OpensF.cons' rfl oI rfl (OpensF.one' rfl oI rfl rfl rfl) rfl rfl) rfl rfl
theorem oInts : Opens Tryd.prog 22 1 (fun l : { l : List (I64) // l.length < 2 ^ 63 } => [.sl 1 (l.1.map (fun n : I64 => [.v (.int .i64 n.1)]))]) := Opens.slice Tryd.underlying22 (by kernel_rfl) (by decide) oI
def eCard (p : { l : List (I64) // l.length < 2 ^ 63 }) : List AV := [.sl 1 (p.1.map (fun n : I64 => [.v (.int .i64 n.1)]))]
theorem oCard : Opens Tryd.prog 73 1 eCard := by
  refine Opens.struct (k := 1) (e := fun p : { l : List (I64) // l.length < 2 ^ 63 } => [.sl 1 (p.1.map (fun n : I64 => [.v (.int .i64 n.1)]))]) Tryd.underlying73 (by kernel_rfl) ?_
  exact OpensF.one' rfl oInts rfl rfl rfl
theorem oFaults : Opens Tryd.prog 35 1 (fun l : { l : List (I64 × I64 × I64 × I64) // l.length < 2 ^ 63 } => [.sl 4 (l.1.map eFault)]) := Opens.slice Tryd.underlying35 (by kernel_rfl) (by decide) oFault
theorem oCards : Opens Tryd.prog 42 1 (fun l : { l : List ({ l : List (I64) // l.length < 2 ^ 63 }) // l.length < 2 ^ 63 } => [.sl 1 (l.1.map eCard)]) := Opens.slice Tryd.underlying42 (by kernel_rfl) (by decide) oCard
theorem E_map {α β : Type} {c : α → List AV} {g : β → α} (l : List β) : E c (l.map g) = l.map fun x => c (g x) := by simp [E]
end Go.Proofs.YtclfhgcngodljaaDoor

/- A law's contract, for all arguments, is the statement's answer, where tables are laid. -/
namespace Go.Vs
open Go.ChangeShapes Go.WideShapes Go.ChangeAt Go.RowKit
theorem law_returns_and {C : Checked} {os : Os} {s : ChangeSpec} {f : FuncId} {fn : Func} {dom : List PathCond} {H : Type} {enc : TypeId × Value → H} {tb : TypeId} {A : Type} {e : A → List AV} {X : World → Array Value → Prop}
    (hX : ∀ (w w' : World) (args : Array Value), w.heap = w'.heap → X w args → X w' args) (henv : ∀ W args, X W args → Env (fun b => b < W.heap.size) W)
    (own : ownKnob C.prog.godebug = none) (started : os.Started) (noInit : C.prog.inits.idxOf? f = none) (hfn : C.prog.funcs[f]? = some fn)
    (witness : ∃ (w : World) (tape : Tape) (i : Input), w.os = os ∧ (w.forCall tape i).Shaped C.prog ∧ i.vars = [] ∧ Input.okWide C.prog (w.forCall tape i) .any w.heap.size f i ∧
      ((s.pre enc C.prog fn dom false (w.forCall tape i).memory i.args ∧ X (w.forCall tape i).memory i.args) ∧ sizedMet enc C.prog fn (OpenSpec.ofChange s) false (w.forCall tape i).memory i.args) ∧ Assume.holds {} C.prog (lone (Frame.enter C.prog f i.args .normal) [] (w.forCall tape i)))
    (hl : laidOutB C.prog = true) (htB : (fn.params.toList.all fun t => C.prog.readableRec t && decide (t < C.prog.types.size)) = true) (hrt : fn.resultTypes = #[tb]) (htb : C.prog.underlying tb = some .bool)
    (hvars : s.vars = []) (hs : ∀ ds : List (DataW H), ds.length = fn.params.toList.length → (s.fn H (ds ++ [])).results = [.lit (.bool true)] ∧ (s.fn H (ds ++ [])).args = ds ∧ (s.fn H (ds ++ [])).vars = [])
    (hargs : Args C.prog fn.params.toList e) (hlaw : ∀ a, Fn C.prog f [] (e a) (.v (.bool true)) []) :
    ReturnsInHanded {} C os f .any (fun w args => (s.pre enc C.prog fn dom false w args ∧ X w args) ∧ sizedMet enc C.prog fn (OpenSpec.ofChange s) false w args) (s.post enc C.prog fn false true false false) := by
  refine returnsInHanded_of_change_and hX own started noInit hfn witness ?_
  intro W base args ds gs before hval hW _ _ hx _
  have hW' := hW
  obtain ⟨p, q, hA, hV, rfl, hfz, hnd⟩ := hW
  rw [hvars] at hV
  obtain ⟨rfl, rfl⟩ := trodVars_none hV
  obtain ⟨a, h1, h2⟩ := hargs H enc W base args.toList ds p (fun j t v ht hv => hval j t v (by simpa using ht) (by simpa using hv)) hA
  refine law_post hl htB hrt htb hW' hvars (hs ds (trodAll_len hA)) (henv W args hx) (hlaw a) (by simpa using h1.symm) fun j hj => ?_
  have := h2 j (by rw [h1] at hj; exact hj)
  rwa [getD_toList] at this
end Go.Vs

/- The law FnExactControlOf returns true for every input, and its arguments read behind the call as they read before. Conditions: the table of the powers of ten, which the library's text lays and the card ties. -/
namespace Go.Proofs.YtclfhgcngodljaaDoor
open Go.Vs Go.ChangeShapes Go.WideShapes Go.ChangeAt Go.RowKit
set_option linter.unusedSimpArgs false
set_option linter.unusedVariables false
attribute [local irreducible] Vs.Fn

theorem okP_of {l : List (List Int)} {fr to : Int} (hd : (!deckB l) = false) (hn : (!numB fr to (widB l)) = false) : ∀ c, c ∈ l → okP fr to c := by
  intro c hc
  have hd : deckB l = true := by simpa using hd
  have hn : numB fr to (widB l) = true := by simpa using hn
  simp only [deckB, Bool.and_eq_true, List.all_eq_true, decide_eq_true_eq] at hd
  simp only [numB, fldB, Bool.and_eq_true, decide_eq_true_eq] at hn
  obtain ⟨hcb, hcl⟩ := hd.1 c hc
  simp only [cardB, inB, Bool.and_eq_true, List.all_eq_true, decide_eq_true_eq] at hcb
  have h0 : l.length ≠ 0 := by intro e; rw [List.eq_nil_of_length_eq_zero e] at hc; cases hc
  rw [widB, if_neg h0, ← hcl] at hn
  obtain ⟨⟨h1, h2, h3⟩, h4⟩ := hn
  obtain ⟨h5, h6, h7⟩ := hcb
  have hw : W (to - fr) = to - fr := wrap_in (by omega) (by omega)
  rw [hw] at h4
  exact ⟨h1, h2, h3, h4, by omega, fun x hx => h5 x hx⟩
def cooT (fr to : Int) (l : List (List Int)) : Int × Int × Int := if deckB l then (if numB fr to (widB l) then (if ctlB fr to l then ctlT fr to l else (0, 0, 0)) else (0, 0, 0)) else (0, 0, 0)
def cooC (fr to : Int) (l : List (List Int)) : Int := if deckB l then (if numB fr to (widB l) then (if ctlB fr to l then 0 else 8) else 2) else 1
theorem spec_ControlOf (l : List (List Int)) (fr to : Int) (hs : ∀ x, x ∈ l → x.length ≤ 1048576) (hl : l.length ≤ 1048576) : Vs.Fn Tryd.prog F.spec_ControlOf [] [.sl 1 (E cC l), .agg (cFd fr to)] (.tup [.agg (cCt (cooT fr to l)), .v (.int .i64 (cooC fr to l))]) [] := by
  refine Cd.spec_ControlOf_ok.fn0 Tryd.mixed Cd.spec_ControlOf_nt Cd.spec_ControlOf_rs rfl fun X => ?_
  unfold Cd.spec_ControlOf
  simp -dsimp only [go_sem, reduceIte, reduceCtorEq, Nat.reduceEqDiff, Nat.reduceLT, Nat.reduceLeDiff, Nat.reduceAdd, Nat.reduceMul, Nat.reduceSub, Int.reduceToNat, Int.reduceNeg, cFd, cCt]
  repeat' (first
    | (refine RgK.mk rfl ?_; simp -dsimp only [go_sem, reduceIte, reduceCtorEq, Nat.reduceEqDiff, Nat.reduceLT, Nat.reduceLeDiff, Nat.reduceAdd, Nat.reduceMul, Nat.reduceSub, Int.reduceToNat, Int.reduceNeg, cFd, cCt])
    | (refine Br.mk (fun h => ?_) (fun h => ?_) <;> simp -dsimp only [go_sem, reduceIte, reduceCtorEq, Nat.reduceEqDiff, Nat.reduceLT, Nat.reduceLeDiff, Nat.reduceAdd, Nat.reduceMul, Nat.reduceSub, Int.reduceToNat, Int.reduceNeg, h, cFd, cCt])
    | (refine CallK.flat (by first | exact l02Deck l hs hl | exact l07Width l | exact l18Field fr to (widB l) | exact l18Of l fr to hl (okP_of (by assumption) (by assumption))) rfl ?_; simp -dsimp only [go_sem, reduceIte, reduceCtorEq, Nat.reduceEqDiff, Nat.reduceLT, Nat.reduceLeDiff, Nat.reduceAdd, Nat.reduceMul, Nat.reduceSub, Int.reduceToNat, Int.reduceNeg, cFd, cCt])
    | (refine CallK.pure (by first | exact l02Deck l hs hl | exact l07Width l | exact l18Field fr to (widB l) | exact l18Of l fr to hl (okP_of (by assumption) (by assumption))) ?_; simp -dsimp only [go_sem, reduceIte, reduceCtorEq, Nat.reduceEqDiff, Nat.reduceLT, Nat.reduceLeDiff, Nat.reduceAdd, Nat.reduceMul, Nat.reduceSub, Int.reduceToNat, Int.reduceNeg, cFd, cCt])
    | (refine And.intro (by first | rfl | omega | decide | (refine ⟨?_, ?_⟩ <;> (first | rfl | omega | decide)) | (refine ⟨?_, ?_, ?_⟩ <;> (first | rfl | omega | decide)) | (refine ⟨?_, ?_, ?_, ?_⟩ <;> (first | rfl | omega | decide))) ?_))
  all_goals (simp_all [cooT, cooC, cCt])

theorem impl_ControlOf (l : List (List Int)) (fr to : Int) (hs : ∀ x, x ∈ l → x.length ≤ 1048576) (hl : l.length ≤ 1048576) : Vs.Fn Tryd.prog F.impl_ControlOf [] [.sl 1 (E cC l), .agg (cFd fr to)] (.tup [.agg (cCt (cooT fr to l)), .v (.int .i64 (cooC fr to l))]) [] := by
  refine Cd.impl_ControlOf_ok.fn0 Tryd.mixed Cd.impl_ControlOf_nt Cd.impl_ControlOf_rs rfl fun X => ?_
  unfold Cd.impl_ControlOf
  simp -dsimp only [go_sem, reduceIte, reduceCtorEq, Nat.reduceEqDiff, Nat.reduceLT, Nat.reduceLeDiff, Nat.reduceAdd, Nat.reduceMul, Nat.reduceSub, Int.reduceToNat, Int.reduceNeg, cFd, cCt]
  repeat' (first
    | (refine RgK.mk rfl ?_; simp -dsimp only [go_sem, reduceIte, reduceCtorEq, Nat.reduceEqDiff, Nat.reduceLT, Nat.reduceLeDiff, Nat.reduceAdd, Nat.reduceMul, Nat.reduceSub, Int.reduceToNat, Int.reduceNeg, cFd, cCt])
    | (refine Br.mk (fun h => ?_) (fun h => ?_) <;> simp -dsimp only [go_sem, reduceIte, reduceCtorEq, Nat.reduceEqDiff, Nat.reduceLT, Nat.reduceLeDiff, Nat.reduceAdd, Nat.reduceMul, Nat.reduceSub, Int.reduceToNat, Int.reduceNeg, h, cFd, cCt])
    | (refine CallK.flat (by first | exact validDeck l hs hl | exact deckColumns l | exact isNumberField fr to (widB l) | exact controlOf l fr to hl (okP_of (by assumption) (by assumption))) rfl ?_; simp -dsimp only [go_sem, reduceIte, reduceCtorEq, Nat.reduceEqDiff, Nat.reduceLT, Nat.reduceLeDiff, Nat.reduceAdd, Nat.reduceMul, Nat.reduceSub, Int.reduceToNat, Int.reduceNeg, cFd, cCt])
    | (refine CallK.pure (by first | exact validDeck l hs hl | exact deckColumns l | exact isNumberField fr to (widB l) | exact controlOf l fr to hl (okP_of (by assumption) (by assumption))) ?_; simp -dsimp only [go_sem, reduceIte, reduceCtorEq, Nat.reduceEqDiff, Nat.reduceLT, Nat.reduceLeDiff, Nat.reduceAdd, Nat.reduceMul, Nat.reduceSub, Int.reduceToNat, Int.reduceNeg, cFd, cCt])
    | (refine And.intro (by first | rfl | omega | decide | (refine ⟨?_, ?_⟩ <;> (first | rfl | omega | decide)) | (refine ⟨?_, ?_, ?_⟩ <;> (first | rfl | omega | decide)) | (refine ⟨?_, ?_, ?_, ?_⟩ <;> (first | rfl | omega | decide))) ?_))
  all_goals (simp_all [cooT, cooC, cCt])

theorem toField (fr to : Int) : Vs.Fn Tryd.prog F.laws_toField [] [.agg (cFd fr to)] (.agg (cFd fr to)) [] := by
  refine Cd.laws_toField_ok.fn0 Tryd.mixed Cd.laws_toField_nt Cd.laws_toField_rs rfl fun X => ?_
  unfold Cd.laws_toField
  simp -dsimp only [go_sem, reduceIte, reduceCtorEq, Nat.reduceEqDiff, Nat.reduceLT, Nat.reduceLeDiff, Nat.reduceAdd, Nat.reduceMul, Nat.reduceSub, Int.reduceToNat, Int.reduceNeg, cFd]
  repeat' (first
    | (refine RgK.mk rfl ?_; simp -dsimp only [go_sem, reduceIte, reduceCtorEq, Nat.reduceEqDiff, Nat.reduceLT, Nat.reduceLeDiff, Nat.reduceAdd, Nat.reduceMul, Nat.reduceSub, Int.reduceToNat, Int.reduceNeg, cFd])
    | (refine Br.mk (fun h => ?_) (fun h => ?_) <;> simp -dsimp only [go_sem, reduceIte, reduceCtorEq, Nat.reduceEqDiff, Nat.reduceLT, Nat.reduceLeDiff, Nat.reduceAdd, Nat.reduceMul, Nat.reduceSub, Int.reduceToNat, Int.reduceNeg, h, cFd])
    | (refine And.intro (by first | rfl | omega | decide | (refine ⟨?_, ?_⟩ <;> (first | rfl | omega | decide)) | (refine ⟨?_, ?_, ?_⟩ <;> (first | rfl | omega | decide)) | (refine ⟨?_, ?_, ?_, ?_⟩ <;> (first | rfl | omega | decide))) ?_))
  all_goals (exact ⟨_, _, rfl, rfl⟩)

theorem szGo_memC {α : Type} {f : α → Int → Int} : ∀ {l : List α} {n : Int}, (∀ x, x ∈ l → ∀ n, 0 ≤ n → n ≤ 1048576 → 0 ≤ f x n → f x n ≤ n) → 0 ≤ n → n ≤ 1048576 → 0 ≤ szGo f l n → ∀ x, x ∈ l → ∃ m, 0 ≤ m ∧ m ≤ 1048576 ∧ 0 ≤ f x m
  | [], n, _, _, _, _, x, hx => by cases hx
  | y :: r, n, hf, h0, hn, h, x, hx => by
    simp only [szGo] at h
    split at h
    · omega
    · rename_i h1
      rcases List.mem_cons.1 hx with rfl | hx
      · exact ⟨n, h0, hn, by omega⟩
      · have h2 := hf y (by simp) n h0 hn (by omega)
        exact szGo_memC (fun z hz => hf z (by simp [hz])) (by omega) (by omega) h x hx
theorem szL_memC {α : Type} {f : α → Int → Int} {l : List α} {n : Int} (hf : ∀ x, x ∈ l → ∀ n, 0 ≤ n → n ≤ 1048576 → 0 ≤ f x n → f x n ≤ n) (hl : l.length < 2 ^ 63) (hn : 0 ≤ n ∧ n ≤ 1048576) (h : ¬ szL f l n < 0) : ∀ x, x ∈ l → ∃ m, 0 ≤ m ∧ m ≤ 1048576 ∧ 0 ≤ f x m := by
  unfold szL at h
  split at h
  · omega
  · rename_i h1
    rw [wrap_in (by omega) (by omega)] at h h1
    exact szGo_memC (n := n - l.length) hf (by omega) (by omega) (by omega)
theorem law_ControlOf (l : List (List Int)) (fr to : Int) (hs0 : ∀ x, x ∈ l → x.length < 2 ^ 63) (hl : l.length < 2 ^ 63) : Vs.Fn Tryd.prog F.laws_FnExactControlOf [] [.sl 1 (E cC l), .agg (cFd fr to)] (.v (.bool true)) [] := by
  refine Cd.laws_FnExactControlOf_ok.fn0 Tryd.mixed Cd.laws_FnExactControlOf_nt Cd.laws_FnExactControlOf_rs rfl fun X => ?_
  unfold Cd.laws_FnExactControlOf
  simp -dsimp only [go_sem, reduceIte, reduceCtorEq, Nat.reduceEqDiff, Nat.reduceLT, Nat.reduceLeDiff, Nat.reduceAdd, Nat.reduceMul, Nat.reduceSub, Int.reduceToNat, Int.reduceNeg, cFd]
  refine CallK.flat (szCardS l 1048576 hs0 hl (by omega)) rfl ?_
  simp -dsimp only [go_sem, reduceIte, reduceCtorEq, Nat.reduceEqDiff, Nat.reduceLT, Nat.reduceLeDiff, Nat.reduceAdd, Nat.reduceMul, Nat.reduceSub, Int.reduceToNat, Int.reduceNeg, cFd]
  refine Br.mk (fun h1 => by simp -dsimp only [go_sem, reduceIte, reduceCtorEq, Nat.reduceEqDiff, Nat.reduceLT, Nat.reduceLeDiff, Nat.reduceAdd, Nat.reduceMul, Nat.reduceSub, Int.reduceToNat, Int.reduceNeg, cFd]; simp) (fun h1 => ?_)
  simp -dsimp only [go_sem, reduceIte, reduceCtorEq, Nat.reduceEqDiff, Nat.reduceLT, Nat.reduceLeDiff, Nat.reduceAdd, Nat.reduceMul, Nat.reduceSub, Int.reduceToNat, Int.reduceNeg, cFd]
  simp only [decide_eq_false_iff_not] at h1
  have hl1 : l.length ≤ 1048576 := by have := szL_len hl (by omega) h1; omega
  have hs : ∀ x, x ∈ l → x.length ≤ 1048576 := by
    intro x hx
    obtain ⟨m, h2, h3, h4⟩ := szL_memC (fun x hx n h0 hn h => (szI_le (hs0 x hx) h0 hn h).1) hl (by omega) h1 x hx
    have := (szI_le (hs0 x hx) h2 h3 h4).2
    omega
  repeat' (first
    | (refine RgK.mk rfl ?_; simp -dsimp only [go_sem, reduceIte, reduceCtorEq, Nat.reduceEqDiff, Nat.reduceLT, Nat.reduceLeDiff, Nat.reduceAdd, Nat.reduceMul, Nat.reduceSub, Int.reduceToNat, Int.reduceNeg, cFd, cCt])
    | (refine Br.mk (fun h => ?_) (fun h => ?_) <;> simp -dsimp only [go_sem, reduceIte, reduceCtorEq, Nat.reduceEqDiff, Nat.reduceLT, Nat.reduceLeDiff, Nat.reduceAdd, Nat.reduceMul, Nat.reduceSub, Int.reduceToNat, Int.reduceNeg, h, cFd, cCt])
    | (refine CallK.flat (by first | exact toCardS l hs hl1 | exact toField fr to | exact spec_ControlOf l fr to hs hl1 | exact impl_ControlOf l fr to hs hl1 | exact eqControl _ _ _ _ _ _ | exact eqCardS l hs hl1) rfl ?_; simp -dsimp only [go_sem, reduceIte, reduceCtorEq, Nat.reduceEqDiff, Nat.reduceLT, Nat.reduceLeDiff, Nat.reduceAdd, Nat.reduceMul, Nat.reduceSub, Int.reduceToNat, Int.reduceNeg, cFd, cCt])
    | (refine CallK.pure (by first | exact toCardS l hs hl1 | exact toField fr to | exact spec_ControlOf l fr to hs hl1 | exact impl_ControlOf l fr to hs hl1 | exact eqControl _ _ _ _ _ _ | exact eqCardS l hs hl1) ?_; simp -dsimp only [go_sem, reduceIte, reduceCtorEq, Nat.reduceEqDiff, Nat.reduceLT, Nat.reduceLeDiff, Nat.reduceAdd, Nat.reduceMul, Nat.reduceSub, Int.reduceToNat, Int.reduceNeg, cFd, cCt])
    | (refine And.intro (by first | rfl | omega | decide | (refine ⟨?_, ?_⟩ <;> (first | rfl | omega | decide)) | (refine ⟨?_, ?_, ?_⟩ <;> (first | rfl | omega | decide)) | (refine ⟨?_, ?_, ?_, ?_⟩ <;> (first | rfl | omega | decide))) ?_))
  all_goals simp_all


set_option maxRecDepth 100000 in
theorem env_of_laid {W : World} (h0 : laidMetH Tryd.prog Rows.fnExactControlOfRow.laid W) : Env (fun b => b < W.heap.size) W := by
  have h : laidMet Tryd.prog Rows.fnExactControlOfRow.laid W := by
    rw [← MakeChecks.laidMetH_plain _ _ _ (by kernel_rfl)]
    exact h0
  have ht := laidMet.tail (laidMet.tail h)
  have hi := Lib.tabIs_of_head (k := .u64) (zs := Lib.pow10Tab) (g := 0) (t := 137) (e := 129) (n := 20) (by kernel_rfl) (by kernel_rfl) Tryd.underlying137 Tryd.underlying129 (by kernel_rfl) (by kernel_rfl) ht
  intro p hp
  simp only [envs, List.mem_singleton] at hp
  subst hp
  unfold Lib.TabIs World.var? at hi
  have hi2 := (congrArg (fun o => Option.bind o _) (by kernel_rfl : Tryd.prog.globalNamed _ = some 0)).symm.trans hi
  simp only [Option.bind_some] at hi2
  split at hi2
  · rename_i cs T fr hcs
    obtain rfl := Option.some.inj hi2
    refine ⟨?_, T, fr, hcs⟩
    rcases Nat.lt_or_ge 0 W.heap.size with hlt | hge
    · exact hlt
    · rw [Array.getElem?_eq_none hge] at hcs; cases hcs
  · cases hi2

set_option maxRecDepth 100000 in
theorem controlof_door (os : Os) (args : Array Value) : laidMetH Tryd.prog Rows.fnExactControlOfRow.laid ((World.doorLaid Tryd.prog 24 os).forCall (fun _ _ => 0) ⟨#[], args, []⟩).memory :=
  laidMetH_of_parts3 (fuel := 8) (laidMet_of_run' 8 (by kernel_rfl) (by kernel_rfl)) (by kernel_rfl) (by kernel_rfl)

set_option maxRecDepth 100000 in
theorem controlof_lifted (os : Os) (started : os.Started) (H : Type) (enc : TypeId × Value → H) :
    ReturnsInHanded {} Tryd.checked os F.laws_FnExactControlOf .any (fun w args => (Rows.fnExactControlOfSpec.pre enc Tryd.prog Tryd.f6 Rows.fnExactControlOfRow.domain false w args ∧ laidMetH Tryd.prog Rows.fnExactControlOfRow.laid w) ∧ sizedMet enc Tryd.prog Tryd.f6 (OpenSpec.ofChange Rows.fnExactControlOfSpec) false w args)
      (Rows.fnExactControlOfSpec.post enc Tryd.prog Tryd.f6 false true false false) :=
  law_returns_and (C := Tryd.checked) (X := fun w _ => laidMetH Tryd.prog Rows.fnExactControlOfRow.laid w) (fun _ _ _ hh h => h.of_heap hh) (fun W args h => env_of_laid h) Tryd.own started (by kernel_rfl) Tryd.func6
    (ChangeSpec.witness_shaped (enc := enc) (C := Tryd.checked) (os := os) (X := fun w _ => laidMetH Tryd.prog Rows.fnExactControlOfRow.laid w) false (World.doorLaid Tryd.prog 24 os) #[.slice none 0 0, .agg #[.int .i64 0, .int .i64 0]] 8 rfl (World.shaped_of_RefB (by kernel_rfl) (by kernel_rfl)) (by kernel_rfl) (by kernel_rfl) (by kernel_rfl) (controlof_door os _))
    Tryd.laidOut (by kernel_rfl) rfl Tryd.underlying4 rfl (fun ds h => by match ds, h with | [_, _], _ => exact ⟨rfl, rfl, rfl⟩)
    (Args.cons (Arg.slice Tryd.underlying42 oCards) (Args.cons (Arg.struct Tryd.underlying44 oField) Args.nil)) (fun a => by
      have h := law_ControlOf (a.1.1.map fun d => d.1.map fun n => n.1) a.2.1.1.1 a.2.1.2.1 (fun x hx => by obtain ⟨p, _, rfl⟩ := List.mem_map.1 hx; simpa using p.2) (by simpa using a.1.2)
      rw [E_map] at h
      simp only [cC, E_map] at h
      exact h)

theorem controlof_row : Rows.FnExactControlOfSaid :=
  OpenClaim.holds_of_wide 6 Tryd.f6 rfl rfl rfl rfl rfl rfl rfl ⟨rfl, rfl, rfl, rfl, rfl⟩ rfl rfl rfl rfl rfl (by kernel_rfl) Tryd.func6 (by kernel_rfl)
    (of_decide_eq_true (by kernel_rfl)) (by unfold Func.isWrapper; first | (rw [if_pos (by decide +kernel)]; kernel_rfl) | (rw [if_neg (by decide +kernel)]; exact ⟨rfl, rfl⟩))
    (fun os started H enc _ => controlof_lifted os started H enc)

theorem controlof_holds : Rows.FnExactControlOfCardSaid :=
  Claim7.holds_tied_plain_at .later [] [.data, .data, .data] true _ false controlof_row (fun _ h => by cases h) (by kernel_rfl) (fun _ h => by cases h) fnExactControlOf_row_tie rfl ⟨rfl, rfl⟩ (by kernel_rfl) rfl
    (fun f fn hf hfn => by
      obtain rfl : f = 6 := Option.some.inj ((by kernel_rfl : Tryd.prog.funcNamed Rows.fnExactControlOfRow.func = some 6).symm.trans hf) |>.symm
      obtain rfl : fn = Tryd.f6 := (Option.some.inj (Tryd.func6.symm.trans hfn)).symm
      exact ⟨by kernel_rfl, fun j t ht => by
        rw [show Tryd.f6.params = #[42, 44] from rfl] at ht
        have hm : t ∈ [42, 44] := by simpa using Array.mem_of_getElem? ht
        have hall : ([42, 44].all fun u => !Tryd.prog.wantsStandIn u) = true := by kernel_rfl
        exact (show Tryd.prog.wantsStandIn t = false by simpa using List.all_eq_true.1 hall t hm)⟩)
    (by kernel_rfl)
#print axioms controlof_holds
end Go.Proofs.YtclfhgcngodljaaDoor
