/- Regions of two sizes whose order is drawn, order by order. -/
import Derived.Test.YtkgeiaideklmoaaGreatVuP
set_option linter.all false
set_option maxHeartbeats 8000000
namespace Go.Vs
section
variable {P:Program}{nt:Nat}{Q:Exit→Act→World→Prop}{a:Act}{w:World}
variable {I:Envs}{C1:Ctx}{σ τ:St}{S:Nat→Prop}
variable {dr:Nat→Array Oper→Option (List Nat)}
end
section
variable {P:Program}{nt:Nat}{Q:Exit→Act→World→Prop}{a:Act}{w:World}
variable {I:Envs}{C1:Ctx}{σ τ:St}{S:Nat→Prop}
theorem OK.closeSome {C:Ctx}{ρ:Name→Option Nat}{κ:Name→Nat} (U:Later C1 C) (hM:∀b,¬C1.Mut b) (F:@OK I C σ.f a w S ρ κ) (J:List (Name×Blk)) (G:∀p,p∈J→aB σ.h p.1=some p.2∧iF p.2∧p.2.fz=false) (l:List (Nat×AV))
  (hl:∀p,p∈l→(p.2=look σ.s p.1∧flat p.2=true)∨(dY p.2=true∧∃L,conv (aB σ.h) 8 [] false (look σ.s p.1)=some (p.2,L)∧∀n,n∈L→aB J n=none)) :
  ∃S',(∀b,S b→S' b)∧Pt (keepE S' w) C1 ⟨l,J⟩ a w S':=by
 let S':Nat→Prop:=fun b=>S b∨∃n,(σ.f.h n).isSome∧aB J n=none∧ρ n=some b
 have hb:=@OK.back I _ _ _ _ _ _ _ U _ F;have ha:∀n b,aB J n=some b→aB σ.h n=some b:=fun n b h=>(G _ (nT _ _ _ h)).1;have hd:@OK I C (⟨σ.s,J⟩:St).f a w S ρ κ:=@OK.less I C a w S ρ κ σ.f (⟨σ.s,J⟩:St).f F (fun t=>.inl rfl) (fun n b h=>ha n b h)
 obtain ⟨h1,h2⟩:=@OK.jump I (keepE S' w) C1 C ⟨σ.s,J⟩ a w w S ρ κ U hM hd (fun _=>False) (Nat.le_refl _) (fun _ _ _=>rfl) (fun _ h=>h.elim) ⟨rfl,rfl⟩ S' (fun b H=>by
     rcases H with h|⟨n,h,_,e⟩
     · exact F.hok.dom b h
     · exact F.hok.lt h e) (fun b h=>.inl (hb.S0 b h)) (fun b H=>by
     rcases H with h|⟨n,h,_,e⟩
     · rcases hb.Snew b h with g|g|g
       · exact .inl g
       · exact .inr g
       · exact(hM b g).elim
     · rcases hb.mine n b h e with g|g
       · exact .inr g
       · exact(hM b g).elim) (fun b H n hn hx=>by
     obtain⟨b',M⟩:=Option.isSome_iff_exists.1 hn;have O:aB J n=some b':=M;have hs:=G _ (nT _ _ _ O);rcases H with h|⟨m,h,g,e⟩
     · exact @OK.noS I _ _ _ _ _ _ _ F _ _ hs.1 hs.2.2 _ hx h
     · have:=F.hok.inj m n b h (by rw[show σ.f.h n=aB σ.h n from rfl,hs.1];rfl) e hx
       rw[this,O] at g;cases g) tX (fun p Y=>(G p Y).2) l (fun p Y=>by
     rcases hl p Y with h|⟨hc,L,hcv,hLn⟩
     · exact .inl h
     · right
       have hx:=F.slots p.1
       letI:=I
       have h3:=(nV F.hok (S':=fun _=>True) (fun _ _=>trivial) (E:=[]) (ρ':=ρ) (κ':=κ) (h':=σ.f.h) (fun j n hj=>by simp at hj) 8 false _ _ _ _ hcv (fun _ _ _ _=>trivial) hx).2.2;have hs:=nV F.hok (S':=S') (fun b h=>Or.inl h) (E:=[]) (ρ':=ρ) (κ':=κ) (h':=σ.f.h) (fun j n hj=>by simp at hj) 8 false _ _ _ _ hcv (fun n hn y hy=>Or.inr ⟨n,(h3 n hn).2,hLn n hn,hy⟩) hx;exact(hs.1 rfl).closed hc)
 exact⟨S',fun b h=>.inl h,Pt.of_ok hM (fun p Y=>(G p Y).2) h2 h1⟩
variable {dr:Nat→Array Oper→Option (List Nat)}
theorem Pt.goS (hp:Pt I C1 σ a w S) (hc:@iU I P dr) (hj:C1.nt=nt) (n:Nat) (c:aF) {E:sG→St→Prop} (hk:List (Name×Blk)) (Y:∀p,p∈hk→aB τ.h p.1=some p.2∧iF p.2∧p.2.fz=false) (l:List (Nat×AV))
  (hl:∀p,p∈l→(p.2=look τ.s p.1∧flat p.2=true)∨(dY p.2=true∧∃L,conv (aB τ.h) 8 [] false (look τ.s p.1)=some (p.2,L)∧∀n,n∈L→aB hk n=none))
  (hv:∀C:Ctx,C.nt=nt→@aCq I P C dr n c (fun σ'=>LeL σ' τ) E σ) (hE:∀i σ,¬E (.exit i) σ) (hR:∀C a w,Later C1 C→@cK I C (E .ret) a w→Q .ret a w)
  (hN:∀I' a' w' S',Past S w S' w'→Pt I' C1 ⟨l,hk⟩ a' w' S'→At P nt dr (kP n c) Q a' w'):At P nt dr c Q a w:=by
 have ho:=hp;obtain⟨hM,hr,C,ρ,κ,hq,ha,he,H,O⟩:=hp;have F:C.nt=nt:=H.nt.trans hj
 have hf:∀b,S b→b<w.heap.size∧¬C.Mut b:=fun b hb=>⟨ho.dom b hb,fun hm=>by
   obtain⟨n,hn,hx⟩:=he b hm;obtain⟨b',J⟩:=Option.isSome_iff_exists.1 hn;exact @OK.noS I _ _ _ _ _ _ _ O _ _ J (hr _ (fP J)).2 _ hx hb⟩
 refine @At.upto P nt dr Q I C hc F (fun σ'=>LeL σ' τ) E (fun i a w M=>?_) (fun a w M=>hR C a w H M) n c σ a w S ρ κ O (hv C F) fun a' w' M=>?_
 ·obtain⟨σ',_,_,_,h,_⟩:=M;exact(hE i σ' h).elim
 ·obtain⟨σ',S',ρ',κ',hd,U⟩:=M;have G:=@OK.le I _ _ _ _ _ _ _ _ U hd;obtain⟨S2,h1,h2⟩:=OK.closeSome H hM G hk Y l hl;exact hN _ a' w' S2 ((Pt.later hq ha hf G).trans ⟨h1,fun _ _=>rfl,Nat.le_refl _⟩) h2
end
section
section
variable [I:Envs]
variable {P:Program}{nt:Nat}{Q:Exit→Act→World→Prop}{a:Act}{w:World}
def aAL (P:Program) (n0:Nat) (OS:List (List Nat)) (n1:Nat) (OS1:List (List Nat)) (nt:Nat) (ops:Array Oper):Option (List Nat):=
 if(ops.size==n0&&!(yX ops==OS))||(ops.size==n1&&!(yX ops==OS1)) then none else bE P nt ops
theorem pV (M:P.follows .mixedOrders=true) (U:Nat) (J:List (List Nat)) (n1:Nat) (H:List (List Nat)):iU P (aAL P U J n1 H):=by
 intro C O ops F L K Q σ a w S ρ κ G;refine dB M C O ops F L K Q σ a w S ρ κ ?_;unfold aAL at G;split at G
 ·cases G
 ·exact G
theorem aLO {L n1:Nat}{J G:List (List Nat)} (ops:Array Oper) (M:List Nat) (H:aAL P L J n1 G nt ops=some M) (O:ops.size=L):yX ops=J:=by
 unfold aAL at H;split at H
 ·cases H
 ·rename_i F;simp only[Bool.or_eq_true,Bool.and_eq_true,not_or,not_and,beq_iff_eq,Bool.not_eq_true',Bool.not_eq_false,beq_eq_false_iff_ne,ne_eq,Classical.not_not] at F;simpa using F.1 O
theorem aLN {O n1:Nat}{J F:List (List Nat)} (ops:Array Oper) (L:List Nat) (H:aAL P O J n1 F nt ops=some L) (M:ops.size=n1):yX ops=F:=by
 unfold aAL at H;split at H
 ·cases H
 ·rename_i G;simp only[Bool.or_eq_true,Bool.and_eq_true,not_or,not_and,beq_iff_eq,Bool.not_eq_true',Bool.not_eq_false,beq_eq_false_iff_ne,ne_eq,Classical.not_not] at G;simpa using G.2 M
theorem At.rgsD {dr:Nat→Array Oper→Option (List Nat)} (hm:P.follows .mixedOrders=true) {n0:Nat}{O:List (List Nat)}{F:List aJ}{out:List Nat}{f0:Nat}{U:List Nat} (hn:F.length=n0) (hL:(O.all fun L=>L.all fun i=>decide (i<n0))=true)
  (hD:∀(ops:Array Oper) (U:List Nat),dr nt ops=some U→ops.size=n0→yX ops=O) (h:∀L,L∈O→RgL P nt (L.map fun i=>F.getD i default) Q a {w with drawn:=w.drawn+1}):At P nt dr (.region F out (f0::U)) Q a w:=by
 intro c G hg;cases c
 case region id ops draw =>
  simp only[bF,aF.bare] at G;split at G
  ·rename_i hf H;cases ho:aAQ P nt ops ops.toList with
   |none=>rw[ho] at G;cases G
   | some l =>
    rw[ho] at G;simp only[Option.map_some,Option.some.injEq,aF.region.injEq,true_and] at G;obtain⟨hl,ha⟩:=G;subst hl;subst ha;cases draw with
    |false=>simp at H
    | true =>
     have hd:dr nt ops=some (f0::U):=by simpa using H
     obtain⟨g1,g2⟩:=kM ho;have he:ops.size=F.length:=by simpa using g1
     have Y:yX ops=O:=hD ops _ hd (by omega);refine wp_region_draw fun t=>?_;rw[hm];have J:=aF9 ops t;rw[Y] at J
     have M:∀i,i∈Region.schedule true ops t→i<F.length:=fun i hi=>by
      have:=List.all_eq_true.1 (List.all_eq_true.1 hL _ J) i hi;rw[hn];simpa using this
     refine h _ J ops _ (by simp) fun j ao hj=>?_;generalize Region.schedule true ops t=L at M hj;simp only[List.getElem?_map,Option.map_eq_some_iff] at hj;obtain⟨i,hi,rfl⟩:=hj;have hb:i<F.length:=M i (List.mem_of_getElem? hi);obtain⟨o,q1,q2⟩:=g2 i (F.getD i default) (by simp[hb]);exact⟨i,o,hi,by simpa using q1,q2⟩
  ·cases G
 all_goals(simp only[bF,aF.bare] at G;first|(cases G;done)|(split at G<;>simp at G)|(simp at G))
end
end
end Go.Vs
