/- The law FnExactValidFlow returns true for every input, and its arguments read behind the call as they read before. Conditions: none beyond the given statement. -/
import Derived.Test.YtidbcoagjbbjdaaGreatDoorVsI
import Derived.Test.YtidbcoagjbbjdaaGreatDoorXuD
import Derived.Test.YtidbcoagjbbjdaaGreatDoorXuO
set_option linter.all false
set_option maxHeartbeats 8000000
namespace Go.Proofs.YtidbcoagjbbjdaaGreatDoor
open Go.Vs
section
variable [Vs.Tab 0 Vs.powP]
end
section
variable [Vs.Tab 0 Vs.powP]
attribute [local irreducible] Vs.Fn chOK areCh chTo chAt l03
theorem impl_ValidFlow_1 (x : Stp) (w : Int) (hs : x.text.size ≤ 1048576) : Fz F.i_ValidFlow_1 [.agg (cS x), .ro [.v (.int .i64 w)]] (.v (.bool (!(inB w 1 20 && stpB x w)))) := by
 refine fn0 Cd.i_ValidFlow_1_k fun X => ?_
 repeat' first|simp -dsimp only [go_sem, cS]|apply Br.mk<;>intro h<;>try simp -dsimp only[h]|refine CallK.c (by first|exact impl_ValidStep x _ hs) ?_|refine aC ?_|fail
 all_goals (simp_all)
theorem idxStep (l : List Stp) (w : Int) (hs : ∀ x, x ∈ l → x.text.size ≤ 1048576) (hl : l.length ≤ 1048576) : Fz F.ixf_Step [.sl 9 (E cS l), .fn F.i_ValidFlow_1 [.ro [.v (.int .i64 w)]]] (.v (.int .i64 (idxP (fun x => !(inB w 1 20 && stpB x w)) l))) :=
 ixA_fn Tryz.mixed (k := 9) Cd.ixf_Step_k.o Cd.ixf_Step_k.n Cd.ixf_Step_k.r rfl (fun x => !(inB w 1 20 && stpB x w)) F.i_ValidFlow_1 [.ro [.v (.int .i64 w)]] rfl (fun _ => rfl) (fun _ => rfl) (fun x hx => impl_ValidFlow_1 x w (hs x hx)) hl
theorem conStep (l : List Stp) (w : Int) (hs : ∀ x, x ∈ l → x.text.size ≤ 1048576) (hl : l.length ≤ 1048576) : Fz F.ctf_Step [.sl 9 (E cS l), .fn F.i_ValidFlow_1 [.ro [.v (.int .i64 w)]]] (.v (.bool (l.any (fun x => !(inB w 1 20 && stpB x w))))) :=
 ct_fn Tryz.mixed (g := F.ixf_Step) Cd.ctf_Step_k.o Cd.ctf_Step_k.n Cd.ctf_Step_k.r rfl (fun x => !(inB w 1 20 && stpB x w)) F.i_ValidFlow_1 [.ro [.v (.int .i64 w)]] rfl (idxStep l w hs hl)
theorem any_not (l : List Stp) (w : Int) (h : inB w 1 20 = true) : (!(l.any fun x => !(inB w 1 20 && stpB x w))) = l.all fun x => stpB x w := by
 simp only [h, Bool.true_and]
 induction l with
 | nil => rfl
 | cons x r ih => simp only [List.any_cons, List.all_cons, Bool.not_or, Bool.not_not, ih]
theorem impl_ValidFlow (l : List Stp) (w : Int) (hs : ∀ x, x ∈ l → x.text.size ≤ 1048576) (hl : l.length ≤ 1048576) : Fz F.i_ValidFlow [.sl 9 (E cS l), .v (.int .i64 w)] (.v (.bool (inB w 1 20 && (l.all (fun x => stpB x w) && decide ((l.length : Int) ≤ 20))))) := by
 refine fn0 Cd.i_ValidFlow_k fun X => ?_
 repeat' first|simp -dsimp only [go_sem]|apply Br.mk<;>intro h<;>try simp -dsimp only[h]|refine CallK.c (by first|exact inside _ _ _|exact conStep l w hs hl) ?_|refine aC ?_|fail
 all_goals (first | (simp_all; done) | (refine ret_eq ?_; simp_all [any_not]; done) | (refine ret_eq ?_; have := any_not l w (by assumption); simp_all))
end
end Go.Proofs.YtidbcoagjbbjdaaGreatDoor
