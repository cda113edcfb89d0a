/- Steps that are drawn; decks and flows of a source. -/
import Derived.Test.YtidbcoagjbbjdaaGreatDoorVsD
import Derived.Test.YtidbcoagjbbjdaaGreatDoorXwK
import Derived.Test.YtidbcoagjbbjdaaGreatDoorXwQd
import Derived.Test.YtidbcoagjbbjdaaGreatDoorXuH
set_option linter.all false
set_option maxHeartbeats 8000000
namespace Go.Proofs.YtidbcoagjbbjdaaGreatDoor
open Go.Vs
variable [Vs.Tab 0 Vs.powP]
attribute [local irreducible] Vs.Fn nxV nxS pkV pkS ptN crd strB
theorem CallK.borM {P : Program} {f : FuncId} {b : Blk} {ys : List AV} {L : List Vs.Name} {d : Option Nat} {σ : St} {n : Vs.Name} {K : St → Prop} {t : Tag K} {r : AV} {hout : List (Option Blk)} (hfn : Vs.Fn P f [b] ys r hout) (hfr : freshAll (d.getD 0) 1 hout.length σ = true)
  (hK : K ⟨put d (rn (phi [n] (d.getD 0) hout.length) r) σ.s, aftL σ.h [n] (d.getD 0) hout true L⟩) : CallK P f [b] ys L d σ [n] K t :=
 ⟨r, hout, true, hfn, fun h => (by cases h), hfr, hK⟩
theorem text (l : List Int) (x : Sr) (hl : byt l) (m : List ByteArray) (hp : x.p ≤ 3990) (h0 : m ≠ []) (hm : m.length ≤ 1000) : Vs.Fn Tryz.prog F._s_l00Src__text [sB l x] [.ptr (.b 0) 0 0, .sl 1 (E cSt m)] (.v (.string (m.getD (pkV l x (m.length : Nat)).toNat ⟨#[]⟩))) [some (sB l (pkS l x (m.length : Nat)))] := by
 have N1 := pick l x hl (m.length : Nat) hp
 have hpos : 0 < m.length := List.length_pos_iff.2 h0
 have hb := pkV_in hl x (n := (m.length : Nat)) (by omega)
 have g1 : (E cSt m).getD (pkV l x (m.length : Nat)).toNat [] = [.v (.string (m.getD (pkV l x (m.length : Nat)).toNat ⟨#[]⟩))] := by
  have hlt : (pkV l x (m.length : Nat)).toNat < m.length := by omega
  rw [E_get hlt]; simp [cSt, List.getD, hlt]
 generalize pkV l x (m.length : Nat) = v at *
 refine Cd._s_l00Src__text_k.o.fn Tryz.mixed (hin := [sB l x]) _ _ [.b 0] [sB l (pkS l x (m.length : Nat))] Cd._s_l00Src__text_k.n Cd._s_l00Src__text_k.r rfl (by simp) rfl (by simp) fun X => ?_
 unfold Cd._s_l00Src__text
 repeat' first|simp -dsimp only [go_sem, E_len, g1, Int.reduceBEq, Int.reduceBNe, cC, E_len, List.replicate_succ, List.replicate_zero, List.flatten_cons, List.flatten_nil, List.cons_append, List.nil_append, List.set_cons_zero, List.set_cons_succ, List.length_cons, List.length_nil, List.length_set, List.mem_singleton, List.mem_cons, List.not_mem_nil, or_false, false_or, Vs.Name.t.injEq, List.getD_cons_zero, List.getD_cons_succ, nestN, cellN, topN, sB, List.append_nil, List.flatMap_cons, List.flatMap_nil]|apply Br.mk<;>intro h<;>try simp -dsimp only[h]|refine CallK.bor (by first|exact N1) rfl ?_|refine aC ?_|fail
 all_goals exact ⟨_, _, rfl, rfl⟩
end Go.Proofs.YtidbcoagjbbjdaaGreatDoor
