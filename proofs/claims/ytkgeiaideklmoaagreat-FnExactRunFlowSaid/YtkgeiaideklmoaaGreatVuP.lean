/- A stretch whose last row is closed: from there on it is read only. -/
import Derived.Test.YtkgeiaideklmoaaGreatVuN
set_option linter.all false
set_option maxHeartbeats 8000000
namespace Go.Vs
section
section
variable [Envs]
variable {P:Program}{nt:Nat}{Q:Exit->Act->World->Prop}
end
section
variable [I:Envs]
variable {P:Program}{nt:Nat}{Q:Exit->Act->World->Prop}{a:Act}{w:World}
end
end
section
variable {P:Program}{nt:Nat}{Q:Exit->Act->World->Prop}{a:Act}{w:World}
variable {I:Envs}{C1:Ctx}{σ τ:St}{S:Nat->Prop}
theorem Pt.rgClose (hp:Pt I C1 σ a w S) (hf:C1.nt=nt) {pre post:List aI}{t:Nat} (hτ:∀p,p∈τ.h->iV p.2∧p.2.fz=false) (hv:@vc I P (fun σ'=>aAp t σ' (fun σ'=>LeL σ' τ)) pre σ)
  (h:∀Z w' S',Past S w S' w'->Pt I C1 τ Z w' S'->RgL P nt post Q Z w'):RgL P nt (pre++post) Q a w:=by
 have hg:=hp;obtain⟨hM,hr,C,ρ,κ,hh,ha,hd,L,O⟩:=hp;have H:C.nt=nt:=L.nt.trans hf
 have he:∀b,S b->b<w.heap.size∧¬C.Mut b:=λb hb=>⟨hg.dom b hb,λhm=>by
   obtain⟨n,hn,hx⟩:=hd b hm;obtain⟨b',J⟩:=AA.1 hn;exact @OK.noS I _ _ _ _ _ _ _ O _ _ J (hr _ (dB J)).2 _ hx hb⟩
 subst H;refine @RgL.fw I P Q C (fun σ'=>aAp t σ' (fun σ'=>LeL σ' τ)) post (fun σ' Z w' S' ρ' κ' hK U=>?_) pre σ a w S ρ κ hv O;obtain⟨σ2,S2,ρ2,κ2,hc,Y⟩:=@aBV I _ _ _ _ _ _ _ _ _ hK U;have F:=@OK.le I _ _ _ _ _ _ _ _ Y hc;exact h Z w' S2 (Pt.later hh ha he F) (Pt.of_ok hM hτ L F)
theorem Pt.rgCloseM (J:Pt I C1 σ a w S) (F:C1.nt=nt) (n:Nat) {ops:List aI}{t:Nat} (hτ:∀p,p∈τ.h->iV p.2∧p.2.fz=false) (L:@vc I P (fun σ'=>aAp t σ' (fun σ'=>LeL σ' τ)) (ops.take n) σ)
  (h:∀H w' S',Past S w S' w'->Pt I C1 τ H w' S'->RgL P nt (ops.drop n) Q H w'):RgL P nt ops Q a w:=by
 have:=J.rgClose F (pre:=ops.take n) (post:=ops.drop n) hτ L h
 rwa [BR] at this
end
end Go.Vs
