/- The rules by which a walk is run; the forms of a call. -/
import Derived.Test.YtpdmjalhahblmaaDoorVsZ
import Derived.Attr
namespace Go.Vs
set_option linter.unusedSectionVars false
variable [Envs]
variable {P : Program}

theorem CallK.pure {f : FuncId} {ys : List AV} {L : List Name} {d : Option Nat} {σ : St} {B : List Name} {K : St → Prop} {t : Tag K} {r : AV} (hfn : Fn P f [] ys r [])
    (hK : K ⟨put d (rn (phi B (d.getD 0) 0) r) σ.s, aftL σ.h B (d.getD 0) [] true L⟩) : CallK P f [] ys L d σ B K t :=
  ⟨r, [], true, hfn, fun h => (by cases h), rfl, hK⟩

/-- the values that are handed hold no memory of the walk's own, or the answer is flat -/
theorem CallK.flat {f : FuncId} {ys : List AV} {L : List Name} {d : Option Nat} {σ : St} {B : List Name} {K : St → Prop} {t : Tag K} {r : AV} (hfn : Fn P f [] ys r []) (hL : flat r = true)
    (hK : K ⟨put d (rn (phi B (d.getD 0) 0) r) σ.s, aftL σ.h B (d.getD 0) [] false L⟩) : CallK P f [] ys L d σ B K t :=
  ⟨r, [], false, hfn, fun _ => .inr ⟨hL, by simp⟩, rfl, hK⟩

theorem CodeIsR.fn0 {f : FuncId} {fn : Func} {ac : ACode} (h : CodeIsR P f fn ac) (hm : P.follows .mixedOrders = true) {args : List AV} {r : AV} {nt : Nat} {rs : List ResultVar} (hnt : fn.ntmps = nt) (hrs : fn.results.toList = rs)
    (hna : Nat.ble args.length nt = true)
    (hw : ∀ C : Ctx, wpc P C (drawnG P) ac (retK P rs [] r []) (fun e σ => match e with | .ret => retK P rs [] r [] σ | .exit _ => False) ⟨ini 0 args, []⟩) :
    Fn P f [] args r [] :=
  h.fn hm (hin := []) nt rs [] [] hnt hrs rfl (Nat.le_of_ble_eq_true hna) rfl (by simp) hw

theorem ret_eq {x r : AV} (h : x = r) : ∃ L1 L2, some (x, ([] : List Name)) = some (r, L1) ∧ some (([] : List Blk), ([] : List Name)) = some ([], L2) := ⟨[], [], by rw [h], rfl⟩

theorem wrap_in {n : Int} (h1 : -9223372036854775808 ≤ n) (h2 : n ≤ 9223372036854775807) : IntKind.i64.wrap n = n := by
  simp only [IntKind.wrap, IntKind.bits, IntKind.signed]
  have e1 : (2 : Int) ^ 64 = 18446744073709551616 := by decide
  have e2 : (2 : Int) ^ (64 - 1) = 9223372036854775808 := by decide
  simp only [e1, e2, Bool.true_and, decide_eq_true_eq]
  split <;> omega

attribute [go_sem ↓] wpc vc stepA rd al
attribute [go_sem] plainV look put keepL evO AV.ofValue AV.mk retK resL resV oneOr ini iniH binI binBool binStr conv blksO hlook callL borN mapO
  rn rnL aftL newsL oldsL nodupB idxN convB Blk.fz AV.has phi rnB frz aftF cellsO oneB Value.oneCell' Blk.row Blk.setRow lay layAll hset Blk.has hasL isClo isCloL rowsOf
  BrW Br_true Br_false closeL nameL renL nmF freshL Name.isT freshAll killOL killL scr scrB baseO rowsO eqC eqV numsO topN cellN nestN AV.ofValue Blk.okc Blk.k
  List.map List.flatMap_nil List.append_nil List.nil_append List.cons_append List.length_nil List.length_cons List.length_map List.all_cons List.all_nil List.drop List.take List.headD List.set List.getD_cons_zero List.getD_cons_succ
  Option.getD_some Option.getD_none Option.bind_some Option.map_some Option.map_none Bool.and_self Bool.not_false Bool.not_true bne_self_eq_false Bool.false_eq_true Bool.and_true Bool.true_and Bool.and_false Bool.false_and Bool.or_false Bool.false_or Bool.or_true Bool.true_or
  true_and and_true and_false false_and forall_const false_implies Nat.zero_add Nat.add_zero Nat.le_refl Nat.lt_irrefl Int.toNat_natCast Name.t.injEq decide_false decide_true List.range_zero
end Go.Vs
