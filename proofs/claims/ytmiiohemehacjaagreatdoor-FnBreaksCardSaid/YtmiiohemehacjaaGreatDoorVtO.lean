/- A contract of the library's, as this framework has contracts. -/
import Derived.Test.YtmiiohemehacjaaGreatDoorVtK
import Derived.Sort.Grow
import Derived.Deep.Draws
set_option linter.all false
set_option maxHeartbeats 8000000
namespace Go.Vs
section
variable [Envs]
variable {P:Program}{α:Type}{d:α->AV}
attribute [local irreducible] Fn
end
section
variable [Envs]
variable {P:Program}
attribute [local irreducible] Fn
end
section
variable [Envs]
end
section
variable [Envs]
variable {P:Program}
theorem Fn.of_ext {f:FuncId}{args:List AV}{x:AV} (u:wP P f)
  (h : ∀(S:Nat->Prop) (w:World) (vs:Array Value),Env S w->vs.size=args.length->(∀j,j<args.length->RV S w (λ_=>none) (λ_=>0) (Hn []) (args.getD j .junk) (vs.getD j undef))->
    Calls P f vs w λe w'=>∃v,e=.returned v∧RC S w' x v∧Ext w w'):Fn P f [] args x []:=by
 refine⟨u,λS w ρ κ vs F _ I G=>?_⟩;have L:Hn (([]:List Blk).map some)=Hn []:=rfl;refine(h S w vs F.env I λj H=>?_).mono ?_
 .refine(G j H).mono (λ_ h=>h) (λ_ _=>rfl) λn _ b u=>?_;cases n<;>simp[Hn] at u
 .rintro e w' ⟨v,rfl,hv,hx⟩;refine⟨v,S,ρ,κ,rfl,⟨⟨λn b u=>?_,λn m y J=>?_,λb u=>BR (F.dom b u) hx.1,F.env.mono (λ_ h=>h) λb u=>hx.2.1 b (F.dom b u)⟩,hx.1,λb u _=>hx.2.1 b u,λ_ h=>h,λb u=>.inl u,λj z H=>?_,hx.2.2,λj b H=>?_⟩,.clo hv⟩
  .cases n<;>simp[Hn] at u
  .cases n<;>simp[Hn] at J
  .simp at H
  .simp at H
theorem aKs (w:World) (k:Nat) (os:Array Obj):Ext w (Go.Sort.grow (w.drewN k) os):=by
 refine⟨by simp[Go.Sort.grow,World.drewN],λb u=>?_,rfl,rfl⟩;simp[Go.Sort.grow,World.drewN,CG,u]
end
end Go.Vs
