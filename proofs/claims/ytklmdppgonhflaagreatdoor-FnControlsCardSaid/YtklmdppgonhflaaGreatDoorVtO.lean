/- A contract of the library's, as this framework has contracts. -/
import Derived.Test.YtklmdppgonhflaaGreatDoorVtK
import Derived.Sort.Grow
import Derived.Deep.Draws
set_option linter.all false
set_option maxHeartbeats 8000000
namespace Go.Vs
section
variable [Envs]
variable {P:Program}{α:Type}{d:α->AV}
attribute [local irreducible] Fn
end
section
variable [Envs]
variable {P:Program}
attribute [local irreducible] Fn
end
section
variable [Envs]
end
section
variable [Envs]
variable {P:Program}
theorem Fn.of_ext {f:FuncId}{args:List AV}{x:AV} (F:xP P f)
  (h : ∀(S:Nat->Prop) (w:World) (vs:Array Value),Env S w->vs.size=args.length->(∀j,j<args.length->RV S w (λ_=>none) (λ_=>0) (Hn []) (args.getD j .junk) (vs.getD j undef))->
    Calls P f vs w λe w'=>∃v,e=.returned v∧RC S w' x v∧Ext w w'):Fn P f [] args x []:=by
 refine⟨F,λS w ρ κ vs G _ J H=>?_⟩;have O:Hn (([]:List Blk).map some)=Hn []:=rfl;refine(h S w vs G.env J λj I=>?_).mono ?_
 .refine(H j I).mono (λ_ h=>h) (λ_ _=>rfl) λn _ b F=>?_;cases n<;>simp[Hn] at F
 .rintro e w' ⟨v,rfl,hv,hx⟩;refine⟨v,S,ρ,κ,rfl,⟨⟨λn b F=>?_,λn m y M=>?_,λb F=>AZ (G.dom b F) hx.1,G.env.mono (λ_ h=>h) λb F=>hx.2.1 b (G.dom b F)⟩,hx.1,λb F _=>hx.2.1 b F,λ_ h=>h,λb F=>.inl F,λj z I=>?_,hx.2.2,λj b I=>?_⟩,.clo hv⟩
  .cases n<;>simp[Hn] at F
  .cases n<;>simp[Hn] at M
  .simp at I
  .simp at I
theorem aLM (w:World) (k:Nat) (os:Array Obj):Ext w (Go.Sort.grow (w.drewN k) os):=by
 refine⟨by simp[Go.Sort.grow,World.drewN],λb F=>?_,rfl,rfl⟩;simp[Go.Sort.grow,World.drewN,Cz,F]
end
end Go.Vs
