/- Flows with a step taken out, and wider cards. -/
import Derived.Test.YthbnjmgjhonfbaaGreatTwVy
import Derived.Test.YthbnjmgjhonfbaaGreatTwNa
set_option linter.all false
set_option maxHeartbeats 8000000
namespace Go.Proofs.YthbnjmgjhonfbaaGreat
open Go.Vs
variable [Vs.Envs]
attribute [local irreducible] Vs.Fn cZ aW dB dC l03 chB rk cd3 chI stp aZ
def lsS (fl:List Stp) (i:Nat):List Stp:=fl.take i++fl.drop (i+1)
theorem aKH {fl:List Stp}{i:Nat}{x:Stp} (h:x∈lsS fl i):x∈fl:=by
 rcases List.mem_append.1 h with h|h
 ·exact List.mem_of_mem_take h
 ·exact List.mem_of_mem_drop h
theorem aKI (fl:List Stp) (i:Nat):(lsS fl i).length≤fl.length:=by simp[lsS];omega
theorem aJl {fl:List Stp}{w:Int} (h:sF fl w=true):fl.length≤20:=by
 have:=(Bool.and_eq_true _ _ ▸ h:_∧_).2;have:=of_decide_eq_true this;omega
theorem aId {x:Stp}{v w:Int} (h:v≤w) (hv:dP x v=true):dP x w=true:=by
 unfold dP at *
 simp only[Bool.and_eq_true] at hv⊢;obtain⟨a,b,c,d,e,f,g⟩:=hv;refine⟨a,b,c,d,rX h e,f,?_⟩;split at g
 ·rename_i h7;rw[if_pos h7];simp only[Bool.and_eq_true] at g⊢;exact⟨g.1,yY h g.2.1,g.2.2⟩
 ·rename_i h7;rw[if_neg h7];exact g
theorem aMa {fl:List Stp}{v w:Int} (h:v≤w) (hf:sF fl v=true):sF fl w=true:=by
 unfold sF at *
 rw[Bool.and_eq_true,List.all_eq_true] at hf⊢;exact⟨fun x hx=>aId h (hf.1 x hx),hf.2⟩
end Go.Proofs.YthbnjmgjhonfbaaGreat
