/- Every operation; a region that keeps its order. -/
import Derived.Test.YtklmdppgonhflaaGreatDoorVsI
import Derived.Laws.StructEq
import Derived.Laws.BytesString
import Derived.Laws.StandIn
set_option linter.all false
set_option maxHeartbeats 8000000
namespace Go.Vs
section
variable [Envs]
variable {P:Program}{C:Ctx}{σ:FSt}{a:Act}{w:World}{S:Nat->Prop}{ρ:Name->Option Nat}{κ:Name->Nat}{h:Name->Option Blk}
def lK:List Name->Name->Option Nat
 | [],_=>none
 |m::r,n=>if m=n then some 0 else(lK r n).map (· + 1)
theorem qB:∀{E:List Name}{n:Name}{j:Nat},lK E n=some j->E[j]? = some n
 | [],_,_,h=>by simp[lK] at h
 | m::r,n,j,h=>by
  simp only[lK] at h;split at h
  .grind
  .cases hr:lK r n with
   |none=>rw[hr] at h;simp at h
   | some i =>
    rw[hr] at h;simp only[AU,Ab] at h;subst h;simpa using qB hr
theorem aAj:∀{E:List Name}{n:Name},lK E n=none->n∉E
 | [],_,_=>by simp
 | m::r,n,h=>by
  simp only[lK] at h;split at h
  .cases h
  .rename_i F;have:lK r n=none:=by simpa using h
   simp only[Am,not_or];exact⟨λe=>F e.symm,aAj this⟩
def dG (f:AV->Option (AV×List Name)):List AV->Option (List AV×List Name)
 | []=>some ([],[])
 | x::r=>match f x,dG f r with
  |some (y,L),some (ys,L')=>some (y::ys,L++L')
  |_,_=>none
theorem kD {f:AV->Option (AV×List Name)}:∀{c F:List AV}{L:List Name},dG f c=some (F,L)->F.length=c.length∧
  ∀j,j<c.length->∃G,f (c.getD j .junk)=some (F.getD j .junk,G)∧∀n,n∈G->n∈L
 | [],F,L,h=>by
  grind [dG]
 | x::r,F,L,h=>by
  simp only[dG] at h;split at h
  .rename_i y L1 ys L2 H h2;simp only[Ab,AL] at h;obtain⟨rfl,rfl⟩:=h;obtain⟨I,M⟩:=kD h2;refine⟨by simp[I],λj O=>?_⟩;cases j with
   |zero=>exact⟨L1,by simpa using H,λn J=>Cq _ J⟩
   | succ j =>
    grind
  .cases h
theorem aBd {f:AV->Option (AV×List Name)}:∀{cs F:List AV}{L:List Name},dG f cs=some (F,L)->∀n,n∈L->∃j,j<cs.length∧∃G,f (cs.getD j .junk)=some (F.getD j .junk,G)∧n∈G
 | [],F,L,hm,n,hn=>by simp only[dG,Ab,AL] at hm;obtain⟨_,rfl⟩:=hm;simp at hn
 | x::r,F,L,hm,n,hn=>by
  simp only[dG] at hm;split at hm
  .rename_i y L1 ys L2 H h2;simp only[Ab,AL] at hm;obtain⟨rfl,rfl⟩:=hm;rcases Bg.1 hn with hn|hn
   .exact⟨0,by simp,L1,by simpa using H,hn⟩
   .obtain⟨j,J,G,g,I⟩:=aBd h2 n hn;exact⟨j+1,by simpa using J,G,by simpa using g,I⟩
  .cases hm
def conv (h:Name->Option Blk):Nat->List Name->Bool->AV->Option (AV×List Name)
 |0,_,_,_=>none
 |_+1,_,c,.junk=>if c then none else some (.junk,[])
 | _+1,E,c,.loc n off len=>match lK E n with
  |some j=>if c then none else some (.loc (.b j) off len,[])
  | none=>match h n with
   |some (.arr k l _)=>some (.sl k ((l.drop off).take len),[n])
   |_=>none
 | m+1,E,c,.ptr n e o=>match lK E n with
  |some j=>if c then none else some (.ptr (.b j) e o,[])
  | none=>match h n with
   |some (.arr _ l _)=>some (.ro ((l.getD e []).drop o),[n])
   |some (.var cs _)=>(dG (conv h m E true) cs).map λp=>(.ro (p.1.drop o),n::p.2)
   |none=>none
 |m+1,E,c,.fn f cs=>(dG (conv h m E c) cs).map λp=>(.fn f p.1,p.2)
 |m+1,E,c,.agg cs=>(dG (conv h m E c) cs).map λp=>(.agg p.1,p.2)
 |m+1,E,c,.tup cs=>(dG (conv h m E c) cs).map λp=>(.tup p.1,p.2)
 |_+1,_,_,.v x=>some (.v x,[])
 |_+1,_,_,.sl k l=>some (.sl k l,[])
 |_+1,_,_,.ro c=>some (.ro c,[])
theorem aGN (S:Nat->Prop) {S':Nat->Prop} (F:∀b,S b->S' b) {x:AV}{v:Value} (h:RC S w x v):RC S' w x v:=h.mono F λ_ _=>rfl
theorem aAr (ha:HOK S w ρ κ h) {S':Nat->Prop} (hS:∀b,S b->S' b) {E:List Name}{ρ':Name->Option Nat}{κ':Name->Nat}{h':Name->Option Blk}
  (hE:∀j n,E[j]? = some n->ρ' (.b j)=ρ n∧κ' (.b j)=κ n∧∀b',h' (.b j)=some b'->∃b,h n=some b∧b.same b') :
  ∀ (m:Nat) (c:Bool) (x x':AV) (L:List Name) (v:Value),conv h m E c x=some (x',L)->(∀n,n∈L->∀y,ρ n=some y->S' y)->RV S w ρ κ h x v->
   (c=false->RV S' w ρ' κ' h' x' v)∧(c=true->RC S' w x' v)∧∀n,n∈L->n∉E∧(h n).isSome:=by
 intro m
 induction m with
 |zero=>intro c x x' L v F;simp[conv] at F
 | succ m ih =>
  intro c x x' L v F hL hx
  have O:∀(cs G:List AV) (L:List Name) (vs:Array Value),dG (conv h m E c) cs=some (G,L)->(∀n,n∈L->∀y,ρ n=some y->S' y)->(∀j,j<cs.length->RV S w ρ κ h (cs.getD j .junk) (vs.getD j undef))->
    G.length=cs.length∧(c=false->∀j,j<G.length->RV S' w ρ' κ' h' (G.getD j .junk) (vs.getD j undef))∧(c=true->∀j,j<G.length->RC S' w (G.getD j .junk) (vs.getD j undef))∧∀n,n∈L->n∉E∧(h n).isSome:=by
   intro cs
   induction cs with
   | nil =>
    grind [dG]
   | cons x r ihr =>
    intro G L vs H hL V;simp only[dG] at H;split at H
    .rename_i y L1 ys L2 h1 h2;simp only[Ab,AL] at H;obtain⟨rfl,rfl⟩:=H;have g1:=ih c x y L1 (vs.getD 0 undef) h1 (λn Z=>hL n (Cq _ Z)) (by simpa using V 0 (by simp))
     have Y:=ihr ys L2 (vs.extract 1 vs.size) h2 (λn Z=>hL n (CX _ Z)) (λj I=>by
       have:=V (j+1) (by simpa using I)
       have e:(vs.extract 1 vs.size).getD j undef=vs.getD (j+1) undef:=by
         simp[Array.getElem?_extract,Nat.add_comm 1 j]
         all_goals grind
       rw[e];simpa using this)
     have e:∀j,(vs.extract 1 vs.size).getD j undef=vs.getD (j+1) undef:=by
      intro j;simp[Array.getElem?_extract,Nat.add_comm 1 j];split
      .rfl
      .simp[Array.getElem?_eq_none (show vs.size<=j+1 by omega)]
     refine⟨by simp[Y.1],λF j I=>?_,λF j I=>?_,λn Z=>?_⟩
     .cases j with
      |zero=>simpa using g1.1 F
      |succ j=>have:=Y.2.1 F j (by simpa using I);rw[e] at this;simpa using this
     .cases j with
      |zero=>simpa using g1.2.1 F
      |succ j=>have:=Y.2.2.1 F j (by simpa using I);rw[e] at this;simpa using this
     all_goals grind
    .cases H
  have J:∀x':AV,RC S' w x' v->(c=false->RV S' w ρ' κ' h' x' v)∧(c=true->RC S' w x' v):=λx' V=>⟨λ_=>.clo V,λ_=>V⟩;cases x with
  | v y =>
   simp only[conv,Ab,AL] at F;obtain⟨rfl,rfl⟩:=F;obtain rfl:=dD hx;exact⟨(J _ (.v _)).1,(J _ (.v _)).2,by simp⟩
  | sl k l =>
   grind [conv,aGN,RV]
  | ro l =>
   grind [conv,aGN,RV]
  | junk =>
   simp only[conv] at F
   all_goals grind [RV]
  | fn f cs =>
   simp only[conv] at F;cases H:dG (conv h m E c) cs with
   |none=>rw[H] at F;cases F
   | some p =>
    obtain⟨G,L'⟩:=p;rw[H] at F;simp only[AU,Ab,AL] at F;obtain⟨rfl,rfl⟩:=F;obtain⟨vs,rfl,hl,V⟩:=aDJ hx;obtain⟨g1,Y,g3,g4⟩:=O cs G L' vs H hL V;exact⟨λF=>.fn _ _ _ (by omega) (Y F),λF=>.fn _ _ _ (by omega) (g3 F),g4⟩
  | agg cs =>
   simp only[conv] at F;cases H:dG (conv h m E c) cs with
   |none=>rw[H] at F;cases F
   | some p =>
    obtain⟨G,L'⟩:=p;rw[H] at F;simp only[AU,Ab,AL] at F;obtain⟨rfl,rfl⟩:=F;obtain⟨vs,rfl,hl,V⟩:=rW hx;obtain⟨g1,Y,g3,g4⟩:=O cs G L' vs H hL V;exact⟨λF=>.agg _ _ (by omega) (Y F),λF=>.agg _ _ (by omega) (g3 F),g4⟩
  | tup cs =>
   simp only[conv] at F;cases H:dG (conv h m E c) cs with
   |none=>rw[H] at F;cases F
   | some p =>
    obtain⟨G,L'⟩:=p;rw[H] at F;simp only[AU,Ab,AL] at F;obtain⟨rfl,rfl⟩:=F;obtain⟨vs,rfl,hl,V⟩:=aCU hx;obtain⟨g1,Y,g3,g4⟩:=O cs G L' vs H hL V;exact⟨λF=>.tup _ _ (by omega) (Y F),λF=>.tup _ _ (by omega) (g3 F),g4⟩
  | loc n off len =>
   simp only[conv] at F;split at F
   .rename_i j I;split at F
    .cases F
    .rename_i hp;simp only[Ab,AL] at F;obtain⟨rfl,rfl⟩:=F;refine⟨λ_=>.loc _ _ _ _ λk l z M=>?_,λh=>absurd h hp,by simp⟩;obtain⟨e1,e2,e3⟩:=hE j n (qB I);obtain⟨b,hf,hs⟩:=e3 _ M;cases b with
     |var=>simp[Blk.same] at hs
     | arr k' l' z' =>
      simp only[Blk.same] at hs;obtain⟨rfl,qf⟩:=hs;have:=iT hx _ _ _ hf;rw[e1,e2,←qf];exact this
   .rename_i I;split at F
    .rename_i k l z M;simp only[Ab,AL] at F;obtain⟨rfl,rfl⟩:=F;have qh:qQ k h (.loc n off len)=some ((l.drop off).take len):=by simp[qQ,M]
     obtain⟨hd,cap,rfl,hk,b,o,qo,qc⟩:=aIe ha hx qh;obtain⟨qq,qa,qj,h9,qp,hw,qd,_⟩:=iT hx _ _ _ M;simp only[Value.slice.injEq] at h9;obtain⟨rfl,qk,rfl⟩:=h9
     have:RC S' w (.sl k ((l.drop off).take len)) (.slice hd ((l.drop off).take len).length cap):=by
      refine .sl k _ hd cap b o (λm=>(w.cell? ⟨b,o+m,none⟩).getD undef) (λqr=>?_) (λi j hi I=>?_) (λi j hi I=>?_) (λi j hi I=>?_) hk ⟨by omega,hw⟩
      .grind [Nat.eq_zero_or_pos]
      all_goals
       obtain⟨u,hu,ho,V⟩:=qc i j hi I;simp only[hu,Cc]
      .exact ho
      .exact V.mono hS λ_ _=>rfl
     all_goals grind [aAj]
    .cases F
  | ptr n e o =>
   simp only[conv] at F;split at F
   .rename_i j I;split at F
    .cases F
    .rename_i hp;simp only[Ab,AL] at F;obtain⟨rfl,rfl⟩:=F;refine⟨λ_=>.ptr _ _ _ _ λb' M=>?_,λh=>absurd h hp,by simp⟩;obtain⟨e1,e2,e3⟩:=hE j n (qB I);obtain⟨b,hf,hs⟩:=e3 _ M;obtain⟨y,hy,hv⟩:=eH hx _ hf
     all_goals grind [Blk.same_k]
   .rename_i I;split at F
    .rename_i k l z M;simp only[Ab,AL] at F;obtain⟨rfl,rfl⟩:=F;obtain⟨y,hy,rfl⟩:=eH hx _ M;have U:=λj (I:j<((Blk.arr k l z).row e).length)=>ha.cells M hy (e:=e) (j:=j) I;simp only[Blk.row,Blk.k] at U
     have:RC S' w (.ro ((l.getD e []).drop o)) (.pointer (some ⟨y,e*k+o,none⟩)):=by
      refine .ro _ y _ (λm=>(w.cell? ⟨y,e*k+o+m,none⟩).getD undef) (hL n (by simp) _ hy) (λj I=>?_) (λj I=>?_) λj I=>?_
      all_goals
       simp only[Cg] at I;obtain⟨u,hu,ho,V⟩:=U (o+j) (by omega);rw[←Cn] at hu;simp only[hu,Cc]
      .exact ho
      .have e1:((l.getD e []).drop o).getD j .junk=(l.getD e []).getD (o+j) .junk:=by simp[List.getD]
       rw[e1];obtain⟨h0,⟨h1,h2⟩|⟨y',cs,T,fr,h1,h2,h3,h4,_,h5,h6,h7⟩⟩:=ha.blk n _ M
       .rw[h1] at hy;cases hy
       .have he:e<l.length:=by
         grind
        have qe:o+j<k:=by rw[←h0 e he];omega
        have qi:=(h7 e (o+j) he qe).2;obtain rfl:=Ay (hy.symm.trans h1)
        have qg:e*k+(o+j)<cs.size:=by
         have:(e+1)*k<=l.length*k:=Bn _ he;rw[Ch] at this;omega
        have h8:=cell_of_row h2 qg;rw[←Cn,hu] at h8;rw[Ay h8,Cn];exact qi.mono hS λ_ _=>rfl
     exact ⟨(J _ this).1,(J _ this).2,λm H=>by
       simp only[Av] at H;subst H;exact⟨aAj I,by simp[M]⟩⟩
    .rename_i cs z M;cases H:dG (conv h m E true) cs with
     |none=>rw[H] at F;cases F
     | some p =>
      obtain⟨G,L'⟩:=p;rw[H] at F;simp only[AU,Ab,AL] at F;obtain⟨rfl,rfl⟩:=F;obtain⟨y,hy,rfl⟩:=eH hx _ M;obtain⟨y',ht,T,fr,h1,h2,h3,h4,_,h5,h6,h7⟩:=ha.blk n _ M;obtain rfl:=Ay (hy.symm.trans h1);obtain⟨g1,Y⟩:=kD H
      have qs:∀j,j<cs.length->RC S' w (G.getD j .junk) (ht.getD j undef):=λj I=>by
       obtain⟨Lj,g3,g4⟩:=Y j I
       all_goals grind
      have:RC S' w (.ro (G.drop o)) (.pointer (some ⟨y,e*(Blk.var cs z).k+o,none⟩)):=by
       simp only[Blk.k,Nat.mul_zero,Ca];refine .ro _ y _ (λm=>ht.getD (o+m) undef) (hL n (by simp) _ hy) (λj I=>?_) (λj I=>?_) λj I=>?_
       all_goals grind [cell_of_row]
      refine⟨(J _ this).1,(J _ this).2,λm' hq=>?_⟩;rcases Am.1 hq with rfl|hq
      .exact⟨aAj I,by simp[M]⟩
      .-- it comes out of one of the cells
       have:∀(cs G:List AV) (L:List Name),dG (conv h m E true) cs=some (G,L)->∀n,n∈L->∃j,j<cs.length∧∃Lj,conv h m E true (cs.getD j .junk)=some (G.getD j .junk,Lj)∧n∈Lj:=by
        intro cs
        induction cs with
        |nil=>intro G L H n Z;simp only[dG,Ab,AL] at H;obtain⟨_,rfl⟩:=H;simp at Z
        | cons x r ihr =>
         intro G L H n Z;simp only[dG] at H;split at H
         .rename_i y L1 ys L2 h1 h2;simp only[Ab,AL] at H;obtain⟨rfl,rfl⟩:=H;rcases Bg.1 Z with Z|Z
          .exact⟨0,by simp,L1,by simpa using h1,Z⟩
          .obtain⟨j,I,Lj,g,hg⟩:=ihr _ _ h2 n Z;exact⟨j+1,by simpa using I,Lj,by simpa using g,hg⟩
         .cases H
       obtain⟨j,hz,Lj,g3,hg⟩:=this _ _ _ H _ hq
       have qb:∀n,n∈Lj->∀y,ρ n=some y->S' y:=by
        obtain⟨ql,qm,qn⟩:=Y j hz
        all_goals grind
       exact(ih true _ _ _ _ g3 qb (h7 j hz).2).2.2 _ hg
    .cases F
/-! ## renaming -/
mutual
def rn (φ:Name->Option Name):AV->AV
 |.loc n off len=>match φ n with|some m=>.loc m off len|none=>.junk
 |.ptr n e o=>match φ n with|some m=>.ptr m e o|none=>.junk
 |.fn f c=>.fn f (rnL φ c)
 |.agg c=>.agg (rnL φ c)
 |.tup c=>.tup (rnL φ c)
 |x=>x
def rnL (φ:Name->Option Name):List AV->List AV
 | []=>[]
 |x::r=>rn φ x::rnL φ r
end
theorem dH (φ:Name->Option Name):∀c:List AV,(rnL φ c).length=c.length
 | []=>rfl
 |x::r=>by simp[rnL,dH φ r]
theorem oI (φ:Name->Option Name):∀(c:List AV) (j:Nat),j<c.length->(rnL φ c).getD j .junk=rn φ (c.getD j .junk)
 | [],j,h=>by simp at h
 |x::r,0,_=>by simp[rnL]
 |x::r,j+1,h=>by simpa[rnL] using oI φ r j (by simpa using h)
def rnB (φ:Name->Option Name):Blk->Blk
 |.var c z=>.var (rnL φ c) z
 |b=>b
theorem aA4 (φ:Name->Option Name) (b:Blk):b.same (rnB φ b):=by
 cases b<;>simp[rnB,Blk.same,dH]
theorem aN6 {S:Nat->Prop}{w:World} (φ:Name->Option Name) {x:AV}{v:Value} (h:RC S w x v):RC S w (rn φ x) v:=by
 induction h with
 |v x=>simpa[rn] using .v x
 |sl k l base cap x off xs hb hc ho hr hk hcap ih=>simpa[rn] using .sl k l base cap x off xs hb hc ho hr hk hcap
 |ro c x off xs hS hc ho hr ih=>simpa[rn] using .ro c x off xs hS hc ho hr
 | fn f c vs hl hr ih =>
  simp only[rn];refine .fn _ _ _ (by rw[dH];exact hl) λj F=>?_
  all_goals grind [dH,oI]
 | agg c vs hl hr ih =>
  simp only[rn];refine .agg _ _ (by rw[dH];exact hl) λj F=>?_
  all_goals grind [dH,oI]
 | tup c vs hl hr ih =>
  simp only[rn];refine .tup _ _ (by rw[dH];exact hl) λj F=>?_
  all_goals grind [dH,oI]
theorem RV.ren {S:Nat->Prop}{w:World}{ρ ρ':Name->Option Nat}{κ κ':Name->Nat}{h h':Name->Option Blk}{φ:Name->Option Name}
  (hφ:∀n m,φ n=some m->ρ' m=ρ n∧κ' m=κ n∧∀I,h' m=some I->∃b,h n=some b∧b.same I) {x:AV}{v:Value} (V:RV S w ρ κ h x v):RV S w ρ' κ' h' (rn φ x) v:=by
 induction V with
 |junk v=>simpa[rn] using .junk v
 |clo V=>exact .clo (aN6 φ V)
 | loc n off len v H =>
  simp only[rn];split
  .rename_i m U;obtain⟨Y,Z,J⟩:=hφ n m U;refine .loc _ _ _ _ λk l z M=>?_;obtain⟨b,F,G⟩:=J _ M;cases b with
   |var=>simp[Blk.same] at G
   | arr k' l' z' =>
    simp only[Blk.same] at G;obtain⟨rfl,O⟩:=G;have:=H _ _ _ F;rw[Y,Z,←O];exact this
  .exact .junk _
 | ptr n e c v H =>
  simp only[rn];split
  .rename_i m U;obtain⟨Y,Z,J⟩:=hφ n m U;refine .ptr _ _ _ _ λI M=>?_;obtain⟨b,F,G⟩:=J _ M;obtain⟨y,hy,H⟩:=H _ F
   all_goals grind [Blk.same_k]
  .exact .junk _
 | fn f c vs hl hr ih =>
  grind [rn,dH,oI,RV]
 | agg c vs hl hr ih =>
  grind [rn,dH,oI,RV]
 | tup c vs hl hr ih =>
  grind [rn,dH,oI,RV]
/-! ## values that hold no memory that stays -/
mutual
def flat:AV->Bool
 |.sl _ _=>false
 |.ro _=>false
 |.fn _ c=>rD c
 |.agg c=>rD c
 |.tup c=>rD c
 |_=>true
def rD:List AV->Bool
 | []=>true
 |x::r=>flat x&&rD r
end
theorem fF:∀{c:List AV}{j:Nat},rD c=true->flat (c.getD j .junk)=true
 | [],j,_=>by simp[flat]
 |x::r,0,h=>by simp[rD] at h;simpa using h.1
 |x::r,j+1,h=>by simp[rD] at h;simpa using fF (c:=r) (j:=j) h.2
theorem RC.flat {S S':Nat->Prop}{w:World}{x:AV}{v:Value} (h:RC S w x v) (F:flat x=true):RC S' w x v:=by
 induction h with
 |v x=>exact .v x
 |sl=>simp[Vs.flat] at F
 |ro=>simp[Vs.flat] at F
 |fn f c vs hl hr ih=>simp only[Vs.flat] at F;exact .fn _ _ _ hl λj G=>ih j G (fF F)
 |agg c vs hl hr ih=>simp only[Vs.flat] at F;exact .agg _ _ hl λj G=>ih j G (fF F)
 |tup c vs hl hr ih=>simp only[Vs.flat] at F;exact .tup _ _ hl λj G=>ih j G (fF F)
theorem RV.flat {S S':Nat->Prop}{w:World}{ρ:Name->Option Nat}{κ:Name->Nat}{h:Name->Option Blk}{x:AV}{v:Value} (H:RV S w ρ κ h x v) (F:flat x=true):RV S' w ρ κ h x v:=by
 induction H with
 |junk v=>exact .junk v
 |clo H=>exact .clo (H.flat F)
 |loc n off len v hv=>exact .loc _ _ _ _ hv
 |ptr n e c v hv=>exact .ptr _ _ _ _ hv
 |fn f c vs hl hr ih=>simp only[Vs.flat] at F;exact .fn _ _ _ hl λj G=>ih j G (fF F)
 |agg c vs hl hr ih=>simp only[Vs.flat] at F;exact .agg _ _ hl λj G=>ih j G (fF F)
 |tup c vs hl hr ih=>simp only[Vs.flat] at F;exact .tup _ _ hl λj G=>ih j G (fF F)
def aAx:Blk->Prop
 |.var c _=>rD c=true
 |.arr _ l _=>∀r,r∈l->rD r=true
/-! ## contracts -/
def Hn (l:List (Option Blk)):Name->Option Blk
 |.b j=>l.getD j none
 |.t _ _=>none
def uQ (ρ:Name->Option Nat) (hin:List Blk) (x:Nat):Prop:=∃j,j<hin.length∧ρ (.b j)=some x
structure Post (S:Nat->Prop) (w:World) (ρ:Name->Option Nat) (κ:Name->Nat) (hin:List Blk) (S':Nat->Prop) (w':World) (ρ':Name->Option Nat) (κ':Name->Nat) (hout:List (Option Blk)):Prop where
 hok:HOK S' w' ρ' κ' (Hn hout)
 size:w.heap.size<=w'.heap.size
 old:∀b,b<w.heap.size->¬uQ ρ hin b->w'.heap[b]? = w.heap[b]?
 sub:∀b,S b->S' b
 new:∀b,S' b->S b∨w.heap.size<=b∨uQ ρ hin b
 mine:∀j x,(hout.getD j none).isSome->ρ' (.b j)=some x->w.heap.size<=x∨uQ ρ hin x
 out:w'.os=w.os∧w'.output=w.output
 keep:∀j b',j<hin.length->hout.getD j none=some b'->ρ' (.b j)=ρ (.b j)∧κ' (.b j)=κ (.b j)∧∃b,hin[j]? = some b∧b.same b'
def xP (P:Program) (f:FuncId):Prop:=∃fn b,P.funcs[f]? = some fn∧fn.body=some b∧fn.name≠"runtime.NumGoroutine"
def Fn (P:Program) (f:FuncId) (hin:List Blk) (args:List AV) (r:AV) (hout:List (Option Blk)):Prop:=
 xP P f∧∀(S:Nat->Prop) (w:World) (ρ:Name->Option Nat) (κ:Name->Nat) (vs:Array Value),HOK S w ρ κ (Hn (hin.map some))->(∀b,b∈hin->b.fz=false)->vs.size=args.length->
  (∀j,j<args.length->RV S w ρ κ (Hn (hin.map some)) (args.getD j .junk) (vs.getD j undef))->
  Calls P f vs w λe w'=>∃v S' ρ' κ',e=.returned v∧Post S w ρ κ hin S' w' ρ' κ' hout∧RV S' w' ρ' κ' (Hn hout) r v
end
section
variable [Envs]
variable {P:Program}{C:Ctx}{σ:FSt}{a:Act}{w:World}{S:Nat->Prop}{ρ:Name->Option Nat}{κ:Name->Nat}{h:Name->Option Blk}
def jV (h:Name->Option Blk) (E:List Name):Blk->Option (Blk×List Name)
 |.var c z=>(dG (conv h 8 E false) c).map λp=>(.var p.1 z,p.2)
 |.arr k l z=>some (.arr k l z,[])
def rP (h:Name->Option Blk) (E:List Name):List Name->Option (List Blk×List Name)
 | []=>some ([],[])
 | n::r=>match(h n).bind (jV h E),rP h E r with
  |some (b,L),some (bs,L')=>if b.fz then none else some (b::bs,L++L')
  |_,_=>none
theorem aAL (h:Name->Option Blk) (E:List Name):∀{B:List Name}{bs:List Blk}{L:List Name},rP h E B=some (bs,L)->bs.length=B.length∧
  (∀(j:Nat) (n:Name),B[j]? = some n->∃b H F,h n=some b∧jV h E b=some (H,F)∧bs[j]? = some H∧H.fz=false∧∀m,m∈F->m∈L)∧
  ∀m,m∈L->∃(n:Name) (b H:Blk) (F:List Name),n∈B∧h n=some b∧jV h E b=some (H,F)∧m∈F
 | [],bs,L,hb=>by
  grind [rP]
 | n::r,bs,L,hb=>by
  simp only[rP] at hb;split at hb
  .rename_i H L1 ha L2 I h2;split at hb
   .cases hb
   .rename_i hz;simp only[Ab,AL] at hb;obtain⟨rfl,rfl⟩:=hb;obtain⟨h3,h4,h5⟩:=aAL h E h2;cases hn:h n with
    |none=>rw[hn] at I;cases I
    | some b =>
     rw[hn] at I;refine⟨by simp[h3],λj m Y=>?_,λm G=>?_⟩
     .cases j with
      | zero =>
       simp only[AJ,Ab] at Y;subst Y;exact⟨b,H,L1,hn,I,by simp,by simpa using hz,λm G=>Cq _ G⟩
      | succ j =>
       obtain⟨b,J,F,M,O,U,V,g5⟩:=h4 j m (by simpa using Y);exact⟨b,J,F,M,O,by simpa using U,V,λm G=>CX _ (g5 m G)⟩
     .rcases Bg.1 G with G|G
      .exact⟨n,b,H,L1,by simp,hn,I,G⟩
      .obtain⟨n',Z,J,F,M,O,U,V⟩:=h5 m G;exact⟨n',Z,J,F,C8 _ M,O,U,V⟩
  .cases hb
def phi (B:List Name) (d n:Nat):Name->Option Name
 |.b j=>if j<B.length then B[j]? else if j<n then some (.t d j) else none
 |.t _ _=>none
def frz:Blk->Blk
 |.var c _=>.var c true
 |.arr k l _=>.arr k l true
theorem aLI (b:Blk):b.same (frz b):=by cases b<;>simp[frz,Blk.same]
def aft (h:Name->Option Blk) (B:List Name) (d:Nat) (hout:List (Option Blk)) (fz:Bool) (L:List Name) (m:Name):Option Blk:=
 match lK B m with
 |some j=>(hout.getD j none).map (rnB (phi B d hout.length))
 | none=>match m with
  |.t d' j=>if d'=d∧B.length<=j∧j<hout.length then(hout.getD j none).map (rnB (phi B d hout.length)) else if fz=true∧m∈L then(h m).map frz else h m
  |.b _=>if fz=true∧m∈L then(h m).map frz else h m
theorem vX:∀{B:List Name}{j:Nat}{n:Name},B.Nodup->B[j]? = some n->lK B n=some j
 | [],j,n,_,h=>by simp at h
 |m::r,0,n,_,h=>by simp only[AJ,Ab] at h;simp[lK,h]
 | m::r,j+1,n,hnd,h=>by
  simp only[Bp] at h
  have F:¬m=n:=by
   grind
  simp[lK,F,vX (List.nodup_cons.1 hnd).2 h]
def aL4 (P:Program) (σ:FSt) (d:Nat) (fv:AV) (xs:List AV) (B:List Name) (K:FSt->AV->Prop):Prop:=
 match fv with
 | .fn f caps=>match dG (conv σ.h 8 B false) (xs++caps),rP σ.h B B with
  | some (ys,L1),some (hin,L2)=>∃r hout fz,Fn P f hin ys r hout∧(fz=false->(L1++L2=[]∨(flat r=true∧∀b,some b∈hout->aAx b)))∧
    (∀j,B.length<=j->j<hout.length->gY (.t d j) σ)∧K ⟨σ.s,aft σ.h B d hout fz (L1++L2)⟩ (rn (phi B d hout.length) r)
  |_,_=>False
 |_=>False
theorem aCt (G:OK C σ a w S ρ κ) {d:Nat}{f:FuncId}{xs ys:List AV}{B L1 L2:List Name}{hin:List Blk}{r:AV}{hout:List (Option Blk)}{fz:Bool}{X:Value->World->(Nat->Prop)->(Name->Option Nat)->(Name->Nat)->Prop} (qz:B.Nodup)
  (ja:dG (conv σ.h 8 B false) xs=some (ys,L1)) (jt:rP σ.h B B=some (hin,L2)) (qd:fz=false->(L1++L2=[]∨(flat r=true∧∀b,some b∈hout->aAx b))) (hu:∀j,B.length<=j->j<hout.length->gY (.t d j) σ) {vs:Array Value}
  (hl:vs.size=xs.length) (hr:∀j,j<xs.length->RV S w ρ κ σ.h (xs.getD j .junk) (vs.getD j undef))
  (ju:∀(S1:Nat->Prop) (ρ0:Name->Option Nat) (κ0:Name->Nat),HOK S1 w ρ0 κ0 (Hn (hin.map some))->(∀y,S y->S1 y)->(∀j n,B[j]? = some n->ρ0 (.b j)=ρ n∧κ0 (.b j)=κ n)->(∀b,b∈hin->b.fz=false)->vs.size=ys.length->(∀j,j<ys.length->RV S1 w ρ0 κ0 (Hn (hin.map some)) (ys.getD j .junk) (vs.getD j undef))->
    Calls P f vs w λe w'=>∃v S' ρ' κ',e=.returned v∧Post S1 w ρ0 κ0 hin S' w' ρ' κ' hout∧RV S' w' ρ' κ' (Hn hout) r v∧X v w' S' ρ' κ') :
  Calls P f vs w λe w'=>∃v S2 ρ2 κ2 S' ρ' κ',e=.returned v∧OK C ⟨σ.s,aft σ.h B d hout fz (L1++L2)⟩ a w' S2 ρ2 κ2∧RV S2 w' ρ2 κ2 (aft σ.h B d hout fz (L1++L2)) (rn (phi B d hout.length) r) v∧(∀y,S2 y->S' y)∧(∀j n,B[j]? = some n->ρ2 n=ρ' (.b j)∧κ2 n=κ' (.b j))∧X v w' S' ρ' κ':=by
 generalize qt:L1++L2=L at qd⊢;have je:∀n,n∈L1->n∈L:=λn I=>qt ▸ Cq _ I;have jf:∀n,n∈L2->n∈L:=λn I=>qt ▸ CX _ I;obtain⟨qu,ql,js⟩:=aAL _ _ jt
 let S1:Nat->Prop:=λy=>S y∨∃n,n∈L∧ρ n=some y
 let ρ0:Name->Option Nat:=λm=>match m with|.b j=>(B[j]?).bind ρ|.t _ _=>none
 let κ0:Name->Nat:=λm=>match m with|.b j=>((B[j]?).map κ).getD 0|.t _ _=>0
 have qj:∀y,S y->S1 y:=λy hy=>.inl hy
 have hE:∀j n,B[j]? = some n->ρ0 (.b j)=ρ n∧κ0 (.b j)=κ n∧∀Z,Hn (hin.map some) (.b j)=some Z->∃b,σ.h n=some b∧b.same Z:=by
  intro j n H;refine⟨by simp[ρ0,H],by simp[κ0,H],λZ F=>?_⟩;obtain⟨b,b2,Lj,g1,Y,g3,_,_⟩:=ql j n H
  have:Z=b2:=by
   simp only[Hn,List.getD,Cv,g3,AU,Cc,Ab] at F;exact F.symm
  subst this;refine⟨b,g1,?_⟩;cases b with
  | var c z =>
   simp only[jV] at Y;cases J:dG (conv σ.h 8 B false) c with
   |none=>rw[J] at Y;cases Y
   | some p =>
    rw[J] at Y;simp only[AU,Ab,AL] at Y;rw[←Y.1];exact((kD J).1).symm
  | arr k l z =>
   simp only[jV,Ab,AL] at Y;rw[←Y.1];exact Blk.same_refl _
 have h8:=aAr G.hok qj (κ':=κ0) hE 8
 have hd:∀n,n∈L->n∉B∧(σ.h n).isSome:=by
  intro n I;have qb:∀m,m∈L->∀y,ρ m=some y->S1 y:=λm J y hy=>.inr ⟨m,J,hy⟩;rw[←qt] at I;rcases Bg.1 I with I|I
  .obtain⟨j,H,Lj,g1,Y⟩:=aBd ja n I;obtain⟨jo,qa,g3⟩:=(kD ja).2 j H;rw[g1] at qa;simp only[Ab,AL,Ck] at qa;subst qa;exact(h8 false _ _ _ _ g1 (λm J=>qb m (je m (g3 m J))) (hr j H)).2.2 n Y
  .obtain⟨n',b,Z,Lj,g1,Y,g3,g4⟩:=js n I;cases b with
   | arr k l z =>
    simp only[jV,Ab,AL] at g3;rw[←g3.2] at g4;simp at g4
   | var c z =>
    simp only[jV] at g3;cases J:dG (conv σ.h 8 B false) c with
    |none=>rw[J] at g3;cases g3
    | some p =>
     obtain⟨c',Lp⟩:=p;rw[J] at g3;simp only[AU,Ab,AL] at g3;obtain⟨_,rfl⟩:=g3;obtain⟨j,H,Lj,g5,g6⟩:=aBd J n g4;obtain⟨x,cs,T,fr,q1,q2,q3,q4,_,q5,q6,q7⟩:=G.hok.blk n' _ Y;obtain⟨i,hi⟩:=BH.1 g1;obtain⟨b1,b2,Lb,p1,p2,p3,p4,p5⟩:=ql i n' hi;rw[Y] at p1;obtain rfl:=Ay p1;simp only[jV,J,AU,Ab,AL] at p2;obtain⟨_,rfl⟩:=p2;obtain⟨jo,qs,g7⟩:=(kD J).2 j H;rw[g5] at qs;simp only[Ab,AL,Ck] at qs;subst qs;exact(h8 false _ _ _ _ g5 (λm J=>qb m (jf m (p5 m (g7 m J)))) (q7 j H).2).2.2 n g6
 have qb:∀m,m∈L->∀y,ρ m=some y->S1 y:=λm J y hy=>.inr ⟨m,J,hy⟩
 have jd:∀n b,n∈B->σ.h n=some b->b.fz=false->∀x,ρ n=some x->¬S1 x:=by
  rintro n b I hb M x O (hs|⟨m,J,hmx⟩)
  .have:=G.hok.blk n b hb;cases b with
   | var c z =>
    obtain⟨y,_,_,_,g1,_,_,Y,_⟩:=this;obtain rfl:=Ay (O.symm.trans g1);exact Y M hs
   | arr k l z =>
    obtain⟨_,⟨g1,_⟩|⟨y,_,_,_,g1,_,_,Y,_⟩⟩:=this
    .rw[O] at g1;cases g1
    .obtain rfl:=Ay (O.symm.trans g1);exact Y M hs
  .have:=G.hok.inj m n x (hd m J).2 (by simp[hb]) hmx O;subst this;exact(hd m J).1 I
 have he:∀(j:Nat) (n:Name),B[j]? = some n->∃b,σ.h n=some b∧b.fz=false:=by
  intro j n H;obtain⟨b,Z,Lj,g1,Y,g3,g4,g5⟩:=ql j n H;refine⟨b,g1,?_⟩;cases b with
  | var c z =>
   simp only[jV] at Y;cases J:dG (conv σ.h 8 B false) c with
   |none=>rw[J] at Y;cases Y
   | some p =>
    rw[J] at Y;simp only[AU,Ab,AL] at Y;rw[←Y.1] at g4;exact g4
  | arr k l z =>
   simp only[jV,Ab,AL] at Y;rw[←Y.1] at g4;exact g4
 have qi:∀j Z,Hn (hin.map some) (.b j)=some Z->∃n b Lj,B[j]? = some n∧σ.h n=some b∧jV σ.h B b=some (Z,Lj)∧(∀m,m∈Lj->m∈L2)∧Z.fz=false:=by
  intro j Z F
  have H:j<B.length:=by
   rw[←qu];rcases Db j hin.length with h'|h'
   .exact h'
   .simp[Hn,List.getD,List.getElem?_eq_none h'] at F
  obtain⟨b,b2,Lj,g1,Y,g3,g4,g5⟩:=ql j B[j] (by simp[H])
  have:Z=b2:=by
   simp only[Hn,List.getD,Cv,g3,AU,Cc,Ab] at F;exact F.symm
  subst this;exact⟨B[j],b,Lj,by simp[H],g1,Y,g5,g4⟩
 have jl:HOK S1 w ρ0 κ0 (Hn (hin.map some)):=by
  refine⟨λm Z F=>?_,λm m' x h1 h2 U h4=>?_,?_,G.hok.env.mono (λ_ h=>.inl h) λ_ _=>rfl⟩
  .cases m with
   |t=>simp[Hn] at F
   | b j =>
    obtain⟨n,b,Lj,g0,g1,Y,g5,g4⟩:=qi j Z F;obtain⟨e1,e2,_⟩:=hE j n g0;have hb:=G.hok.blk n b g1;have jj:=jd n b (BS g0) g1;cases b with
    | var c z =>
     simp only[jV] at Y;cases J:dG (conv σ.h 8 B false) c with
     |none=>rw[J] at Y;cases Y
     | some p =>
      obtain⟨c',Lp⟩:=p;rw[J] at Y;simp only[AU,Ab,AL] at Y;obtain⟨rfl,rfl⟩:=Y;obtain⟨x,cs,T,fr,q1,q2,q3,q4,hf,q5,q6,q7⟩:=hb;obtain⟨l1,l2⟩:=kD J;refine⟨x,cs,T,fr,by rw[e1];exact q1,q2,q3,λM=>jj M x q1,λM=>.inl (hf M),by rw[e2];exact q5,by omega,λi hi=>⟨(q7 i (by omega)).1,?_⟩⟩;obtain⟨Li,l3,l4⟩:=l2 i (by omega);exact(h8 false _ _ _ _ l3 (λm J=>qb m (jf m (g5 m (l4 m J)))) (q7 i (by omega)).2).1 rfl
    | arr k l z =>
     simp only[jV,Ab,AL] at Y;obtain⟨rfl,rfl⟩:=Y;obtain⟨q0,⟨q1,q2⟩|⟨x,cs,T,fr,q1,q2,q3,q4,hf,q5,q6,q7⟩⟩:=hb
     .exact⟨q0,.inl ⟨by rw[e1];exact q1,q2⟩⟩
     .exact⟨q0,.inr ⟨x,cs,T,fr,by rw[e1];exact q1,q2,q3,λM=>jj M x q1,λM=>.inl (hf M),by rw[e2];exact q5,q6,λi j hi H=>⟨(q7 i j hi H).1,(q7 i j hi H).2.mono qj λ_ _=>rfl⟩⟩⟩
  .cases m with
   |t=>simp[Hn] at h1
   | b j =>
    cases m' with
    |t=>simp[Hn] at h2
    | b j' =>
     obtain⟨b1,qc⟩:=AA.1 h1;obtain⟨b2,V⟩:=AA.1 h2;obtain⟨n,b,_,g0,g1,_⟩:=qi j b1 qc;obtain⟨n',Z,_,jc,qa,_⟩:=qi j' b2 V;rw[(hE j n g0).1] at U;rw[(hE j' n' jc).1] at h4;obtain rfl:=G.hok.inj n n' x (by simp[g1]) (by simp[qa]) U h4;congr 1;have e1:=vX qz g0;have e2:=vX qz jc;rw[e1] at e2;exact Ay e2
  .rintro y (hy|⟨n,I,hy⟩)
   .exact G.hok.dom y hy
   .exact G.hok.lt (hd n I).2 hy
 have hp:∀x,uQ ρ0 hin x↔∃n,n∈B∧ρ n=some x:=by
  intro x;constructor
  .rintro⟨j,H,O⟩;have jw:j<B.length:=by omega
   refine⟨B[j],by simp,?_⟩;simpa[ρ0,jw] using O
  .rintro⟨n,I,O⟩;obtain⟨j,H⟩:=BH.1 I;refine⟨j,?_,by simp[ρ0,H,O]⟩;rw[qu];exact(CB.1 H).1
 obtain⟨j3,j0⟩:=kD ja
 have qv:=ju S1 ρ0 κ0 jl qj (λj n H=>⟨(hE j n H).1,(hE j n H).2.1⟩) (λb hb=>by
   obtain⟨j,H⟩:=BH.1 hb;have:Hn (hin.map some) (.b j)=some b:=by simp[Hn,List.getD,H]
   obtain⟨_,_,_,_,_,_,_,M⟩:=qi j b this;exact M) (by omega) (λj H=>by
   obtain⟨Lj,l3,l4⟩:=j0 j (by omega);exact(h8 false _ _ _ _ l3 (λm J=>qb m (je m (l4 m J))) (hr j (by omega))).1 rfl)
 refine qv.mono ?_;rintro e w' ⟨v,S',ρ',κ',rfl,hpost,hrv,hX⟩
 let S2:Nat->Prop:=λy=>S' y∧(fz=true∨¬∃n,n∈L∧ρ n=some y∧¬S y)
 let ρ2:Name->Option Nat:=λm=>match lK B m with
  |some j=>ρ' (.b j)
  | none=>match m with
   |.t d' j=>if d'=d∧B.length<=j∧j<hout.length then ρ' (.b j) else ρ (.t d' j)
   |.b i=>ρ (.b i)
 let κ2:Name->Nat:=λm=>match lK B m with
  |some j=>κ' (.b j)
  | none=>match m with
   |.t d' j=>if d'=d∧B.length<=j∧j<hout.length then κ' (.b j) else κ (.t d' j)
   |.b i=>κ (.b i)
 let h2:=aft σ.h B d hout fz L
 have jk:∀j,B.length<=j->j<hout.length->lK B (.t d j)=none:=by
  intro j h1 U;cases hi:lK B (.t d j) with
  |none=>rfl
  | some i =>
   obtain⟨b,hb,_⟩:=he i _ (qB hi);rw[(hu j h1 U).1.1] at hb;cases hb
 have kB:∀(j:Nat) (m:Name),B[j]? = some m->ρ2 m=ρ' (.b j)∧κ2 m=κ' (.b j)∧h2 m=(hout.getD j none).map (rnB (phi B d hout.length)):=by
  intro j m H;have hi:=vX qz H;simp only[ρ2,κ2,h2,aft,hi,and_self]
 have kN:∀j,B.length<=j->j<hout.length->ρ2 (.t d j)=ρ' (.b j)∧κ2 (.t d j)=κ' (.b j)∧h2 (.t d j)=(hout.getD j none).map (rnB (phi B d hout.length)):=by
  intro j h1 U;have hi:=jk j h1 U;simp only[ρ2,κ2,h2,aft,hi,h1,U,and_self,Bj]
 have kO:∀m,m∉B->(∀j,B.length<=j->j<hout.length->m≠.t d j)->ρ2 m=ρ m∧κ2 m=κ m∧h2 m=if fz=true∧m∈L then(σ.h m).map frz else σ.h m:=by
  intro m J I
  have hi:lK B m=none:=by
   cases hi:lK B m with
   |none=>rfl
   |some j=>exact absurd (BS (qB hi)) J
  cases m with
  |b i=>simp only[ρ2,κ2,h2,aft,hi,and_self]
  | t d' j =>
   have hc:¬(d'=d∧B.length<=j∧j<hout.length):=by
    rintro⟨rfl,h1,U⟩;exact I j h1 U rfl
   simp only[ρ2,κ2,h2,aft,hi,AC hc,and_self]
 have hφ:∀n m,phi B d hout.length n=some m->ρ2 m=ρ' n∧κ2 m=κ' n∧∀Z,h2 m=some Z->∃b,Hn hout n=some b∧b.same Z:=by
  intro n m I;cases n with
  |t=>simp[phi] at I
  | b j =>
   have qr:ρ2 m=ρ' (.b j)∧κ2 m=κ' (.b j)∧h2 m=(hout.getD j none).map (rnB (phi B d hout.length)):=by
    simp only[phi] at I;split at I
    .exact kB j m I
    .split at I
     .obtain rfl:=Ay I;exact kN j (by omega) (by omega)
     .cases I
   refine⟨qr.1,qr.2.1,λZ F=>?_⟩;rw[qr.2.2] at F;cases H:hout.getD j none with
   |none=>rw[H] at F;cases F
   | some b =>
    rw[H] at F;obtain rfl:=Ay F;exact⟨b,H,aA4 _ _⟩
 have q8:∀m,(∀j,B.length<=j->j<hout.length->m≠.t d j)->gW ρ ρ2 κ κ2 σ.h h2 m:=by
  intro m I Z F;by_cases J:m∈B
  .obtain⟨j,H⟩:=BH.1 J;obtain⟨e1,e2,e3⟩:=kB j m H;rw[e3] at F;cases hjo:hout.getD j none with
   |none=>rw[hjo] at F;cases F
   | some b =>
    rw[hjo] at F;obtain rfl:=Ay F;have jx:j<hin.length:=by rw[qu];exact(CB.1 H).1
    obtain⟨k1,k2,bi,k3,k4⟩:=hpost.keep j b jx hjo;obtain⟨g1,Y,g3⟩:=hE j m H;obtain⟨b0,g4,g5⟩:=g3 bi (by simp[Hn,List.getD,k3]);exact⟨by rw[e1,k1,g1],by rw[e2,k2,Y],b0,g4,Blk.same_trans (Blk.same_trans g5 k4) (aA4 _ _)⟩
  .obtain⟨e1,e2,e3⟩:=kO m J I;rw[e3] at F;refine⟨e1,e2,?_⟩;split at F
   .cases hw:σ.h m with
    |none=>rw[hw] at F;cases F
    | some b0 =>
     rw[hw] at F;obtain rfl:=Ay F;exact⟨b0,rfl,aLI _⟩
   .exact⟨Z,F,Z.same_refl⟩
 have hk:∀y,S y->S2 y:=λy hy=>⟨hpost.sub y (qj y hy),.inr λ⟨_,_,_,I⟩=>I hy⟩
 have qg:∀y,S y->¬uQ ρ0 hin y:=by
  intro y hy J;obtain⟨n,I,O⟩:=(hp y).1 J;obtain⟨j,H⟩:=BH.1 I;obtain⟨b,hb,M⟩:=he j n H;exact jd n b I hb M y O (.inl hy)
 have qk:∀y,S y->w'.heap[y]? = w.heap[y]?:=λy hy=>hpost.old y (G.hok.dom y hy) (qg y hy)
 have ji:fz=false->L≠[]->flat r=true∧∀b,some b∈hout->aAx b:=by
  intro h1 U;rcases qd h1 with h|h
  .exact absurd h U
  .exact h
 have back:∀(x:AV) (u:Value),(fz=false->L≠[]->flat x=true)->RV S' w' ρ' κ' (Hn hout) x u->RV S2 w' ρ2 κ2 h2 (rn (phi B d hout.length) x) u:=by
  intro x u qw O;have jn:=O.ren (φ:=phi B d hout.length) hφ;by_cases M:fz=true
  .exact jn.mono (λy hy=>⟨hy,.inl M⟩) (λ_ _=>rfl) λ_ _=>gW.refl _ _ _ _
  .by_cases hl:L=[]
   .exact jn.mono (λy hy=>⟨hy,.inr (by rintro⟨n,I,_⟩;rw[hl] at I;cases I)⟩) (λ_ _=>rfl) λ_ _=>gW.refl _ _ _ _
   .exact(O.flat (S':=S2) (qw (by simpa using M) hl)).ren hφ
 have qq:∀(x:AV) (u:Value),(fz=false->L≠[]->flat x=true)->RC S' w' x u->RC S2 w' x u:=by
  intro x u qw O;by_cases M:fz=true
  .exact O.mono (λy hy=>⟨hy,.inl M⟩) λ_ _=>rfl
  .by_cases hl:L=[]
   .exact O.mono (λy hy=>⟨hy,.inr (by rintro⟨n,I,_⟩;rw[hl] at I;cases I)⟩) λ_ _=>rfl
   .exact O.flat (qw (by simpa using M) hl)
 have hv:∀j x,(hout.getD j none).isSome->ρ' (.b j)=some x->w.heap.size<=x∨∃n,n∈B∧ρ n=some x:=by
  intro j x h1 U;rcases hpost.mine j x h1 U with h|h
  .exact .inl h
  .exact .inr ((hp x).1 h)
 have h6:∀j x,(hout.getD j none).isSome->ρ' (.b j)=some x->¬∃n,n∈L∧ρ n=some x∧¬S x:=by
  rintro j x h1 U ⟨n,I,O,_⟩;rcases hv j x h1 U with h|⟨n',ha,hg⟩
  .exact absurd (G.hok.lt (hd n I).2 O) (by omega)
  .obtain⟨i,hi⟩:=BH.1 ha;obtain⟨b,hb,_⟩:=he i n' hi;obtain rfl:=G.hok.inj n n' x (hd n I).2 (by simp[hb]) O hg;exact(hd n I).1 ha
 have jb:∀j b m,hout.getD j none=some b->ρ2 m=ρ' (.b j)->κ2 m=κ' (.b j)->xU S2 w' ρ2 κ2 h2 m (rnB (phi B d hout.length) b):=by
  intro j b m H e1 e2;have hb:=hpost.hok.blk (.b j) b H;have qh:(hout.getD j none).isSome:=by rw[H];rfl
  have jh:fz=false->L≠[]->aAx b:=λh1 U=>(ji h1 U).2 b (by
    refine BS (i:=j) ?_;cases ho:hout[j]? with
    |none=>simp[List.getD,ho] at H
    |some o=>simp[List.getD,ho] at H;rw[←H])
  cases b with
  | var c z =>
   obtain⟨x,cs,T,fr,q1,q2,q3,q4,hf,q5,q6,q7⟩:=hb;refine⟨x,cs,T,fr,by rw[e1];exact q1,q2,q3,λM hs=>q4 M hs.1,λM=>⟨hf M,.inr (h6 j x qh q1)⟩,by rw[e2];exact q5,by rw[dH];exact q6,λi hi=>?_⟩;rw[dH] at hi;rw[oI _ _ _ hi];exact⟨(q7 i hi).1,back _ _ (λh1 U=>fF (jh h1 U)) (q7 i hi).2⟩
  | arr k l z =>
   obtain⟨q0,⟨q1,q2⟩|⟨x,cs,T,fr,q1,q2,q3,q4,hf,q5,q6,q7⟩⟩:=hb
   .exact⟨q0,.inl ⟨by rw[e1];exact q1,q2⟩⟩
   .refine⟨q0,.inr ⟨x,cs,T,fr,by rw[e1];exact q1,q2,q3,λM hs=>q4 M hs.1,λM=>⟨hf M,.inr (h6 j x qh q1)⟩,by rw[e2];exact q5,q6,λi j' hi qe=>⟨(q7 i j' hi qe).1,qq _ _ (λh1 U=>fF ?_) (q7 i j' hi qe).2⟩⟩⟩;exact jh h1 U _ (by simp[List.getD,hi])
 have h7:∀m Z,h2 m=some Z->(∃j b,hout.getD j none=some b∧Z=rnB (phi B d hout.length) b∧ρ2 m=ρ' (.b j)∧κ2 m=κ' (.b j)∧phi B d hout.length (.b j)=some m)∨
   (m∉B∧(∀j,B.length<=j->j<hout.length->m≠.t d j)∧ρ2 m=ρ m∧κ2 m=κ m∧∃b,σ.h m=some b∧Z=if fz=true∧m∈L then frz b else b):=by
  intro m Z F;by_cases J:m∈B
  .obtain⟨j,H⟩:=BH.1 J;obtain⟨e1,e2,e3⟩:=kB j m H;rw[e3] at F;cases hjo:hout.getD j none with
   |none=>rw[hjo] at F;cases F
   | some b =>
    rw[hjo] at F;exact .inl ⟨j,b,hjo,(Ay F).symm,e1,e2,by simp only[phi,AP (CB.1 H).1,H]⟩
  .by_cases I:∃j,B.length<=j∧j<hout.length∧m=.t d j
   .obtain⟨j,h1,U,rfl⟩:=I;obtain⟨e1,e2,e3⟩:=kN j h1 U;rw[e3] at F;cases hjo:hout.getD j none with
    |none=>rw[hjo] at F;cases F
    | some b =>
     rw[hjo] at F;exact .inl ⟨j,b,hjo,(Ay F).symm,e1,e2,by simp[phi,U,show ¬j<B.length by omega]⟩
   .have ha:∀j,B.length<=j->j<hout.length->m≠.t d j:=λj h1 U e=>I ⟨j,h1,U,e⟩;obtain⟨e1,e2,e3⟩:=kO m J ha;rw[e3] at F;refine .inr ⟨J,ha,e1,e2,?_⟩;by_cases hc:fz=true∧m∈L
    .rw[AP hc] at F;cases hw:σ.h m with
     |none=>rw[hw] at F;cases F
     |some b0=>rw[hw] at F;exact⟨b0,rfl,by rw[AP hc];exact(Ay F).symm⟩
    .rw[AC hc] at F;exact⟨Z,F,by rw[AC hc]⟩
 have qo:∀m b x,m∉B->σ.h m=some b->ρ m=some x->w'.heap[x]? = w.heap[x]?:=by
  intro m b x J hb O;refine hpost.old x (G.hok.lt (by simp[hb]) O) λqy=>?_;obtain⟨n,I,hg⟩:=(hp x).1 qy;obtain⟨i,hi⟩:=BH.1 I;obtain⟨Z,F,_⟩:=he i n hi;obtain rfl:=G.hok.inj m n x (by simp[hb]) (by simp[F]) O hg;exact J I
 have jm:HOK S2 w' ρ2 κ2 h2:=by
  refine⟨λm Z F=>?_,λm m' x h1 U h4 h5=>?_,λy hy=>hpost.hok.dom y hy.1,G.hok.env.mono hk qk⟩
  .rcases h7 m Z F with⟨j,b,H,rfl,e1,e2,_⟩|⟨J,I,e1,e2,b,hb,rfl⟩
   .exact jb j b m H e1 e2
   .have hw:=G.hok.blk m b hb
    have qf:∀b2:Blk,((b2=b∧¬(fz=true∧m∈L))∨(b2=frz b∧fz=true∧m∈L))->(∀n,b2.has n=b.has n)->xU S2 w' ρ2 κ2 h2 m b2:=by
     intro b2 V j2
     have qm:∀n,b.has n=true->gW ρ ρ2 κ κ2 σ.h h2 n:=λn ha=>q8 n λj h1 U e=>by
      subst e;rw[(hu j h1 U).2.2 m b hb] at ha;cases ha
     have jg:∀x,ρ m=some x->S2 x->b2.fz=false->S x:=by
      rintro x O ⟨hs,hs2⟩ M;rcases hpost.new x hs with(h|⟨n,ha,hg⟩)|h|h
      .exact h
      .obtain rfl:=G.hok.inj m n x (by simp[hb]) (hd n ha).2 O hg;rcases hs2 with h|h
       .rcases V with⟨rfl,hc⟩|⟨rfl,_,_⟩
        .exact absurd ⟨h,ha⟩ hc
        .cases b<;>simp[frz,Blk.fz] at M
       .exact Classical.byContradiction λjz=>h ⟨m,ha,O,jz⟩
      .exact absurd (G.hok.lt (by simp[hb]) O) (by omega)
      .obtain⟨n,ha,hg⟩:=(hp x).1 h;obtain⟨i,hi⟩:=BH.1 ha;obtain⟨qp,h0,_⟩:=he i n hi;obtain rfl:=G.hok.inj m n x (by simp[hb]) (by simp[h0]) O hg;exact absurd ha J
     have qn:∀x,ρ m=some x->b2.fz=true->(b.fz=true->S x)->S2 x:=by
      intro x O M j1;rcases V with⟨rfl,_⟩|⟨rfl,jv,jy⟩
      .exact hk x (j1 M)
      .exact⟨hpost.sub x (.inr ⟨m,jy,O⟩),.inl jv⟩
     cases b with
     | var c z =>
      obtain⟨x,cs,T,fr,q1,q2,q3,q4,hf,q5,q6,q7⟩:=hw;have:∃z2,b2=.var c z2:=by rcases V with⟨rfl,_⟩|⟨rfl,_⟩<;>exact⟨_,rfl⟩
      obtain⟨z2,rfl⟩:=this;refine⟨x,cs,T,fr,by rw[e1];exact q1,by rw[qo m _ x J hb q1];exact q2,q3,λM hs=>?_,λM=>qn x q1 M hf,by rw[e2];exact q5,q6,λi hi=>⟨(q7 i hi).1,(q7 i hi).2.mono hk qk λn ha=>qm n ?_⟩⟩
      .have q9:=jg x q1 hs M;rcases V with⟨V,_⟩|⟨V,_⟩
       .simp only[Blk.var.injEq,Ck] at V;subst V;exact q4 M q9
       .simp[frz] at V;rw[V] at M;cases M
      .cases hc:mD n c with
       |true=>simp[Blk.has,hc]
       |false=>rw[sJ hc] at ha;cases ha
     | arr k l z =>
      obtain⟨q0,hq⟩:=hw;have:∃z2,b2=.arr k l z2:=by rcases V with⟨rfl,_⟩|⟨rfl,_⟩<;>exact⟨_,rfl⟩
      obtain⟨z2,rfl⟩:=this;rcases hq with⟨q1,q2⟩|⟨x,cs,T,fr,q1,q2,q3,q4,hf,q5,q6,q7⟩
      .exact⟨q0,.inl ⟨by rw[e1];exact q1,q2⟩⟩
      .refine⟨q0,.inr ⟨x,cs,T,fr,by rw[e1];exact q1,by rw[qo m _ x J hb q1];exact q2,q3,λM hs=>?_,λM=>qn x q1 M hf,by rw[e2];exact q5,q6,λi j hi H=>⟨(q7 i j hi H).1,(q7 i j hi H).2.mono hk qk⟩⟩⟩;have q9:=jg x q1 hs M;rcases V with⟨V,_⟩|⟨V,_⟩
       .simp only[Blk.arr.injEq,Ck] at V;subst V;exact q4 M q9
       .simp[frz] at V;rw[V] at M;cases M
    by_cases hc:fz=true∧m∈L
    .rw[AP hc];exact qf _ (.inr ⟨rfl,hc⟩) (by intro n;cases b<;>rfl)
    .rw[AC hc];exact qf _ (.inl ⟨rfl,hc⟩) (λ_=>rfl)
  .obtain⟨b1,qc⟩:=AA.1 h1;obtain⟨b3,jq⟩:=AA.1 U
   have mixed:∀(j:Nat) (b:Blk) (m':Name) (qp:Blk),hout.getD j none=some b->ρ' (.b j)=some x->m'∉B->σ.h m'=some qp->ρ m'=some x->False:=by
    intro j b m' qp H O qx h0 hg;rcases hv j x (by rw[H];rfl) O with h|⟨n,I,hxn⟩
    .exact absurd (G.hok.lt (by simp[h0]) hg) (by omega)
    .obtain⟨i,hi⟩:=BH.1 I;obtain⟨bi,jr,_⟩:=he i n hi;obtain rfl:=G.hok.inj m' n x (by simp[h0]) (by simp[jr]) hg hxn;exact qx I
   rcases h7 m b1 qc with⟨j,b,H,_,e1,_,e3⟩|⟨J,_,e1,_,b,hb,_⟩<;>rcases h7 m' b3 jq with⟨j',Z,qe,_,h9,_,jp⟩|⟨qx,_,h9,_,Z,F,_⟩
   .rw[e1] at h4;rw[h9] at h5;have:=hpost.hok.inj (.b j) (.b j') x (by simp only[Hn];rw[H];rfl) (by simp only[Hn];rw[qe];rfl) h4 h5;rw[this] at e3;exact Ay (e3.symm.trans jp)
   .rw[e1] at h4;rw[h9] at h5;exact(mixed j b m' Z H h4 qx F h5).elim
   .rw[e1] at h4;rw[h9] at h5;exact(mixed j' Z m b qe h5 J hb h4).elim
   .rw[e1] at h4;rw[h9] at h5;exact G.hok.inj m m' x (by simp[hb]) (by simp[F]) h4 h5
 have ht:∀n x,n∈B->ρ n=some x->C.w0.heap.size<=x∨C.Mut x:=by
  intro n x I O;obtain⟨i,hi⟩:=BH.1 I;obtain⟨b,hb,_⟩:=he i n hi;exact G.mine n x (by simp[hb]) O
 refine⟨v,S2,ρ2,κ2,S',ρ',κ',rfl,⟨G.nt,G.defers,λt=>?_,jm,Bl G.size hpost.size,λy hy J=>?_,λm x h1 U=>?_,λy hy=>hk y (G.S0 y hy),λy hy=>?_,⟨hpost.out.1.trans G.out.1,hpost.out.2.trans G.out.2⟩,λj Z F=>?_⟩,back r v (λh1 U=>(ji h1 U).1) hrv,λy hy=>hy.1,λj n H=>⟨(kB j n H).1,(kB j n H).2.1⟩,hX⟩
 .refine(G.slots t).mono hk qk λm J=>q8 m λj h1 U e=>?_;subst e;rw[(hu j h1 U).2.1 t] at J;cases J
 .rw[hpost.old y (AZ hy G.size) λqy=>?_]
  .exact G.old y hy J
  .obtain⟨n,I,O⟩:=(hp y).1 qy;rcases ht n y I O with h|h
   .omega
   .exact J h
 .obtain⟨b1,qc⟩:=AA.1 h1;rcases h7 m b1 qc with⟨j,b,H,_,e1,_,_⟩|⟨J,_,e1,_,b,hb,_⟩
  .rw[e1] at U;rcases hv j x (by rw[H];rfl) U with h|⟨n,I,O⟩
   .exact .inl (Bl G.size h)
   .exact ht n x I O
  .rw[e1] at U;exact G.mine m x (by simp[hb]) U
 .rcases hpost.new y hy.1 with(h|⟨n,I,O⟩)|h|h
  .exact G.Snew y h
  .rcases G.mine n y (hd n I).2 O with h|h
   .exact .inr (.inl h)
   .exact .inr (.inr h)
  .exact .inr (.inl (Bl G.size h))
  .obtain⟨n,I,O⟩:=(hp y).1 h;rcases ht n y I O with h|h
   .exact .inr (.inl h)
   .exact .inr (.inr h)
 .obtain⟨e1,e2,b0,h1,h2⟩:=q8 (.b j) (λ_ _ _=>by simp) Z F;obtain⟨e3,e4,b1,U,h4⟩:=G.keep j b0 h1;exact⟨e1.trans e3,e2.trans e4,b1,U,Blk.same_trans h4 h2⟩
theorem aHS (O:OK C σ a w S ρ κ) {d:Nat}{f:FuncId}{caps xs:List AV}{B:List Name}{K:FSt->AV->Prop} (M:B.Nodup) (H:aL4 P σ d (.fn f caps) xs B K) {vs:Array Value}
  (hl:vs.size=(xs++caps).length) (hr:∀j,j<(xs++caps).length->RV S w ρ κ σ.h ((xs++caps).getD j .junk) (vs.getD j undef)) :
  Calls P f vs w λe w'=>∃σ' x v S' ρ' κ',e=.returned v∧K σ' x∧OK C σ' a w' S' ρ' κ'∧RV S' w' ρ' κ' σ'.h x v:=by
 simp only[aL4] at H;split at H
 .rename_i ys L1 hin L2 U I;obtain⟨r,hout,fz,J,G,F,hK⟩:=H;refine(aCt (X:=λ_ _ _ _ _=>True) O M U I G F hl hr λV ρ0 κ0 Y _ _ Z h5 h6=>(J.2 V w ρ0 κ0 vs Y Z h5 h6).mono ?_).mono ?_
  .rintro e w' ⟨v,S',ρ',κ',g1,g2,g3⟩;exact⟨v,S',ρ',κ',g1,g2,g3,trivial⟩
  .rintro e w' ⟨v,S2,ρ2,κ2,_,_,_,g1,g2,g3,_⟩;exact⟨_,_,v,S2,ρ2,κ2,g1,hK,g2,g3⟩
 .exact H.elim
end
section
variable [Envs]
variable {P:Program}{C:Ctx}{a:Act}{w:World}{S:Nat->Prop}{ρ:Name->Option Nat}{κ:Name->Nat}
structure St where
 s:List (Nat×AV)
 h:List (Name×Blk)
def look:List (Nat×AV)->Nat->AV
 | [],_=>.junk
 |(i,x)::r,t=>if t=i then x else look r t
def aB:List (Name×Blk)->Name->Option Blk
 | [],_=>none
 |(i,x)::r,t=>if t=i then some x else aB r t
def St.f (σ:St):FSt:=⟨look σ.s,aB σ.h⟩
def put (d:Option Nat) (x:AV) (s:List (Nat×AV)):List (Nat×AV):=
 match d with
 |some d=>(d,x)::s
 |none=>s
theorem lI (d:Option Nat) (x:AV) (s:List (Nat×AV)):look (put d x s)=upd (look s) d x:=by
 cases d<;>rfl
def hset (n:Name) (b:Blk):List (Name×Blk)->List (Name×Blk)
 | []=>[(n,b)]
 |(i,x)::r=>if n=i then(i,b)::r else(i,x)::hset n b r
theorem xL (n:Name) (b:Blk):∀l,aB (hset n b l)=hput (aB l) n (some b)
 | []=>by funext m;simp only[hset,aB,hput]
 | (i,x)::r=>by
  funext m
  simp only[hset,hput];split
  .grind [aB]
  .rename_i F;simp only[aB];by_cases G:m=i
   .subst G;simp[DN F]
   .simp only[G,Bc,xL n b r,hput]
def Name.isT:Name->Bool
 |.t _ _=>true
 |.b _=>false
def dA (n:Name) (σ:St):Bool:=n.isT&&σ.s.all (λp=>!p.2.has n)&&σ.h.all (λp=>!decide (p.1=n)&&!p.2.has n)
theorem aGf:∀(s:List (Nat×AV)) (t:Nat),look s t=.junk∨∃p,p∈s∧p.2=look s t
 | [],_=>.inl rfl
 | (i,x)::r,t=>by
  simp only[look];split
  .exact .inr ⟨(i,x),by simp,rfl⟩
  .rcases aGf r t with h|⟨p,hp,h⟩
   all_goals grind
theorem wH:∀(l:List (Name×Blk)) (n:Name) (b:Blk),aB l n=some b->(n,b)∈l
 | [],_,_,h=>by simp[aB] at h
 | (i,x)::r,n,b,h=>by
  simp only[aB] at h;split at h
  .grind
  .exact C8 _ (wH r n b h)
theorem aHC {l:List (Name×Blk)}{n:Name} (h:∀p,p∈l->p.1≠n):aB l n=none:=by
 cases hl:aB l n with
 |none=>rfl
 |some b=>exact absurd rfl (h _ (wH l n b hl))
theorem dS {n:Name}{σ:St} (h:dA n σ=true):gY n σ.f:=by
 simp only[dA,Aw,Az,BB,BD] at h;obtain⟨⟨I,H⟩,h2⟩:=h
 have F:∀j,n≠.b j:=by
  rintro j rfl;cases I
 have h:=And.intro H h2;clear H h2;refine⟨⟨aHC λp G=>(h.2 p G).1,F⟩,λt=>?_,λm b F=>(h.2 _ (wH _ _ _ F)).2⟩;rcases aGf σ.s t with e|⟨p,G,e⟩
 .simp only[St.f,e,AV.has]
 .simp only[St.f,←e];exact h.1 p G
def iR (n:Name) (σ:St):St:=⟨σ.s.map λp=>(p.1,scr n p.2),(σ.h.filter λp=>!decide (p.1=n)).map λp=>(p.1,aBI n p.2)⟩
theorem oK (f:AV->AV) (F:f .junk=.junk):∀(s:List (Nat×AV)) (t:Nat),look (s.map λp=>(p.1,f p.2)) t=f (look s t)
 | [],_=>by simp[look,F]
 | (i,x)::r,t=>by
  simp only[Bt,look];split
  .rfl
  .exact oK f F r t
theorem uC (n:Name):∀(l:List (Name×Blk)) (m:Name),aB ((l.filter λp=>!decide (p.1=n)).map λp=>(p.1,aBI n p.2)) m=if m=n then none else(aB l m).map (aBI n)
 | [],m=>by simp[aB]
 | (i,x)::r,m=>by
  have F:=uC n r m
  all_goals grind [aB]
theorem aAi (n:Name) (σ:St):(iR n σ).f=rM n σ.f:=by
 simp only[St.f,iR,rM,FSt.mk.injEq];exact⟨funext λt=>oK (scr n) (by simp[scr,AV.has]) _ t,funext λm=>uC n _ m⟩
def aS:Option Name->St->St
 |some n,σ=>iR n σ
 |none,σ=>σ
theorem aGo (on:Option Name) (σ:St):(aS on σ).f=aCl on σ.f:=by
 cases on
 .rfl
 .exact aAi _ _
/-! ## a call on lists -/
def tK (g:Blk->Blk) (d nB:Nat):Nat->List (Option Blk)->List (Name×Blk)
 |_,[]=>[]
 |i,none::r=>tK g d nB (i+1) r
 |i,some b::r=>if nB<=i then(.t d i,g b)::tK g d nB (i+1) r else tK g d nB (i+1) r
def aGY (B:List Name) (d:Nat) (hout:List (Option Blk)) (fz:Bool) (L:List Name) (m:Name) (b:Blk):Option Blk:=
 match lK B m with
 |some j=>(hout.getD j none).map (rnB (phi B d hout.length))
 |none=>some (if fz=true∧m∈L then frz b else b)
def aEu (f:Name->Blk->Option Blk):List (Name×Blk)->List (Name×Blk)
 | []=>[]
 | (m,b)::r=>match f m b with
  |some b'=>(m,b')::aEu f r
  |none=>aEu f r
def yA (h:List (Name×Blk)) (B:List Name) (d:Nat) (hout:List (Option Blk)) (fz:Bool) (L:List Name):List (Name×Blk):=
 tK (rnB (phi B d hout.length)) d B.length 0 hout++aEu (aGY B d hout fz L) h
theorem aBn (l F:List (Name×Blk)) (m:Name):aB (l++F) m=(aB l m).or (aB F m):=by
 induction l with
 |nil=>simp[aB]
 | cons p r ih =>
  grind [aB]
def yR (g:Blk->Blk) (d nB i:Nat) (l:List (Option Blk)):Name->Option Blk
 |.t d' j=>if d'=d∧nB<=j∧i<=j∧j<i+l.length then(l.getD (j-i) none).map g else none
 |.b _=>none
theorem aAI (g:Blk->Blk) (d nB:Nat):∀(l:List (Option Blk)) (i:Nat) (m:Name),aB (tK g d nB i l) m=yR g d nB i l m
 | [],i,m=>by
  grind [tK,aB,yR,Name]
 | o::r,i,m=>by
  have H:=aAI g d nB r (i+1) m
  have skip:(∀b,o=some b->¬nB<=i)->aB (tK g d nB (i+1) r) m=yR g d nB i (o::r) m:=by
   intro G;rw[H];cases m with
   |b=>rfl
   | t d' j =>
    simp only[yR,Ac];by_cases F:j=i
    .subst F;rw[AC (by omega)];cases o with
     |none=>simp
     |some b=>rw[AC (by intro h;exact G b rfl h.2.1)]
    all_goals grind
  cases o with
  |none=>exact skip (by simp)
  | some b =>
   grind [tK,aB,yR,Name]
theorem aAH (f:Name->Blk->Option Blk) (F:∀m b G,f m b=none->f m G=none) (m:Name):∀h:List (Name×Blk),aB (aEu f h) m=(aB h m).bind (f m)
 | []=>rfl
 | (i,x)::r=>by
  have I:=aAH f F m r;simp only[aEu,aB];by_cases H:m=i
  .subst H;cases hfx:f m x with
   | none =>
    simp only[I,Bj,CQ,hfx];cases hr:aB r m with
    |none=>rfl
    |some b=>exact F m x b hfx
   |some b=>simp[aB,hfx]
  all_goals grind [aB]
theorem aO0 {σ:St}{B:List Name}{d:Nat}{hout:List (Option Blk)}{fz:Bool}{L:List Name} (G:∀m,m∈B->(aB σ.h m).isSome) (F:∀j,B.length<=j->j<hout.length->aB σ.h (.t d j)=none) :
  aB (yA σ.h B d hout fz L)=aft (aB σ.h) B d hout fz L:=by
 funext m
 unfold yA
 rw [aBn,aAH _ (λm b M h=>by
   unfold aGY at *
   cases hi:lK B m with
   |none=>rw[hi] at h;cases h
   |some j=>rw[hi] at h;exact h),aAI]
 unfold aft
 have hi:∀d' j,d'=d->B.length<=j->j<hout.length->lK B (.t d' j)=none:=by
  rintro d' j rfl I h2;cases hi:lK B (.t d' j) with
  |none=>rfl
  | some i =>
   have:=G _ (BS (qB hi));rw[F j I h2] at this;cases this
 have H:∀m,(aB σ.h m).bind (aGY B d hout fz L m)=match lK B m with
   |some j=>(hout.getD j none).map (rnB (phi B d hout.length))
   |none=>if fz=true∧m∈L then(aB σ.h m).map frz else aB σ.h m:=by
  intro m;cases hx:lK B m with
  | none =>
   simp only;cases aB σ.h m with
   |none=>simp
   | some b =>
    grind [aGY]
  | some j =>
   have:=G _ (BS (qB hx));obtain⟨b,J⟩:=AA.1 this;simp only[J,CQ,aGY,hx]
 all_goals grind [yR,Name]
end
section
variable [Envs]
def rZ:List Nat->List Value->List Value->Option Bool
 | [],[],[]=>some true
 | k::ks,x::r,y::s=>match eqV k x y,rZ ks r s with
  |some a,some b=>some (a&&b)
  |_,_=>none
 |_,_,_=>none
mutual
def eqT (P:Program):Nat->TypeId->Option (List Nat)
 |0,_=>none
 | d+1,t=>match P.underlying t with
  |some .bool=>some [1]
  |some (.int _)=>some [0]
  |some .string=>some [2]
  | some (.struct fs)=>if P.stoodInHeld t then none else match eqF P d fs.toList 0 with
   |some l=>if kX P t=some l.length then some l else none
   |none=>none
  |_=>none
def eqF (P:Program):Nat->List Field->Nat->Option (List Nat)
 |0,_,_=>none
 |_+1,[],_=>some []
 | d+1,f::fs,o=>if f.name != "_" && f.offset==o then match eqT P d f.type with
   | some m=>if m.length=0 then none else match eqF P d fs (o+m.length) with
    |some l=>some (m++l)
    |none=>none
   |none=>none
  else none
end
theorem aGA:∀{F:List Nat}{l m:List Value}{b:Bool},rZ F l m=some b->l.length=F.length∧m.length=F.length
 | [],[],[],_,_=>⟨rfl,rfl⟩
 | k::F,x::r,y::s,b,h=>by
  simp only[rZ] at h;split at h
  .rename_i a I J h2;obtain⟨G,H⟩:=aGA h2;simp[G,H]
  .cases h
 | [],[],_::_,_,h=>by simp[rZ] at h
 | [],_::_,_,_,h=>by simp[rZ] at h
 |_::_,[],_,_,h=>by simp[rZ] at h
 |_::_,_::_,[],_,h=>by simp[rZ] at h
theorem aCp:∀{F G:List Nat}{l m:List Value}{b:Bool},rZ (F++G) l m=some b->∃H I,rZ F (l.take F.length) (m.take F.length)=some H∧rZ G (l.drop F.length) (m.drop F.length)=some I∧b=(H&&I)
 | [],G,l,m,b,h=>⟨true,b,by simp[rZ],by simpa using h,by simp⟩
 | k::F,G,l,m,b,h=>by
  cases l with
  |nil=>simp[rZ] at h
  | cons x l=>cases m with
   |nil=>simp[rZ] at h
   | cons y m =>
    simp only[Ae,rZ] at h;split at h
    .rename_i a J U h2;obtain⟨H,I,M,O,rfl⟩:=aCp h2
     all_goals grind [rZ]
    .cases h
def aAv (g:Bool) (xs:List Value):Value:=if g then .agg xs.toArray else xs.headD undef
theorem aFS {P:Program}{t:TypeId}{xs:Array Value}{o n:Nat}{g:Bool}{w:World} (F:jK P t=some g) (H:g=true->kX P t=some n) (G:g=false->n=1) (I:o+n<=xs.size) :
  (part t xs o).run P w=.ok (aAv g ((xs.toList.drop o).take n)) w:=by
 cases g with
 | true =>
  simp only[part,Sem.run_bind,nM F,Result.andThen_ok,Bj,run_sizeOf (H rfl),Sem.run_pure,aAv];congr 2;apply Array.ext';simp
 | false =>
  obtain rfl:=G rfl;have:o<xs.size:=by omega
  simp only[part,Sem.run_bind,nM F,Result.andThen_ok,AO,Bc,aAv]
  all_goals grind [Sem.run_pure,List.drop_eq_getElem_cons]
theorem aNk {P:Program}:∀{d:Nat}{t:TypeId}{l:List Nat},eqT P d t=some l->∃g,jK P t=some g∧(g=true->kX P t=some l.length)∧(g=false->l.length=1)
 |0,_,_,h=>by simp[eqT] at h
 | d+1,t,l,h=>by
  simp only[eqT] at h;split at h
  .rename_i F;obtain rfl:=Ay h;exact⟨false,by simp[jK,F],by simp,by simp⟩
  .rename_i F;obtain rfl:=Ay h;exact⟨false,by simp[jK,F],by simp,by simp⟩
  .rename_i F;obtain rfl:=Ay h;exact⟨false,by simp[jK,F],by simp,by simp⟩
  .rename_i G F;split at h
   .cases h
   .split at h
    .rename_i I H;split at h
     .obtain rfl:=Ay h;exact⟨true,by simp[jK,F],λ_=>by assumption,by simp⟩
     .cases h
    .cases h
  .cases h
theorem aOG {P:Program} (w:World):∀(d:Nat),(∀(t:TypeId) (l:List Nat),eqT P d t=some l->∀(g:Bool),jK P t=some g->∀(xs ys:List Value) (b:Bool) (k:Nat),rZ l xs ys=some b->
      (Op.equalIn (d+k) t (aAv g xs) (aAv g ys)).run P w=.ok b w)∧
  ∀(J:List Field) (o:Nat) (l:List Nat),eqF P d J o=some l->∀(xs ys:Array Value) (b:Bool) (k:Nat),rZ l (xs.toList.drop o) (ys.toList.drop o)=some b->(Op.eqFields (d+k) xs ys J).run P w=.ok b w:=by
 intro d
 induction d with
 |zero=>exact⟨λt l h=>by simp[eqT] at h,λJ o l h=>by simp[eqF] at h⟩
 | succ d ih =>
  obtain⟨hf,ha⟩:=ih;refine⟨λt l h g G xs ys b k I=>?_,λJ o l h xs ys b k I=>?_⟩
  .simp only[eqT] at h
   have H:∀(c:Nat),l=[c]->g=false->∃x y,aAv g xs=x∧aAv g ys=y∧eqV c x y=some b:=by
    rintro c rfl rfl
    match xs,ys,I with
    | [],_,I=>simp[rZ] at I
    |_::_,[],I=>simp[rZ] at I
    | x::r,y::s,I =>
     grind [rZ,aAv]
   have e1:d+1+k=(d+k)+1:=by omega
   rw[e1];split at h
   .rename_i M;simp only[jK,M,Ab] at G;obtain⟨x,y,hx,hy,F⟩:=H 1 (Ay h).symm G.symm
    all_goals grind [eqV,run_equalIn_bool',Value]
   .rename_i kk M;simp only[jK,M,Ab] at G;obtain⟨x,y,hx,hy,F⟩:=H 0 (Ay h).symm G.symm;rw[hx,hy];cases x<;>simp only[eqV] at F<;>try(cases F;done)
    cases y<;>simp only at F<;>try(cases F;done)
    all_goals grind [run_equalIn_int]
   .rename_i M;simp only[jK,M,Ab] at G;obtain⟨x,y,hx,hy,F⟩:=H 2 (Ay h).symm G.symm
    all_goals grind [eqV,run_equalIn_string,Value]
   .rename_i J M;simp only[jK,M,Ab] at G;subst G;split at h
    .cases h
    .rename_i he;split at h
     .rename_i l' hl;split at h
      .obtain rfl:=Ay h;have U:P.fieldsOf t=J:=by simp[Program.fieldsOf,M]
       simp only[aAv,Bj];rw[run_equalIn_struct w (d+k) t _ _ (by rw[U];exact M) (by simpa using he),U];exact ha _ _ _ hl _ _ b k (by simpa using I)
      .cases h
     .cases h
   .cases h
  .cases J with
   | nil =>
    simp only[eqF,Ab] at h;subst h
    have:b=true:=by
     grind [rZ]
    subst this;simp[Op.eqFields]
   | cons f J =>
    simp only[eqF] at h;split at h
    .rename_i O;simp only[Aw,bne_iff_ne,ne_eq,BO] at O;split at h
     .rename_i m hm;split at h
      .cases h
      rename_i hj;split at h
      .rename_i l' hb;obtain rfl:=Ay h;obtain⟨g,G,V,Y⟩:=aNk hm;have Z:=aGA I;simp only[Cg,BP,AX] at Z;obtain⟨b1,b2,q1,q2,rfl⟩:=aCp I;have hc:=aFS (w:=w) (xs:=xs) (o:=o) G V Y (by omega);have hd:=aFS (w:=w) (xs:=ys) (o:=o) G V Y (by omega);have e1:d+1+k=d+(1+k):=by omega
       have hq:=hf _ _ hm g G _ _ b1 (1+k) q1;simp only[Op.eqFields,ne_eq,O.1,not_false_eq_true,Bj,O.2,Sem.run_bind,hc,hd,Result.andThen_ok,e1,hq];cases b1 with
       |false=>simp
       | true =>
        simp only[BV,AO,Bc,CW];exact ha J (o+m.length) l' hb xs ys b2 (1+k) (by rw[List.drop_drop,List.drop_drop] at q2;exact q2)
      .cases h
     .cases h
    .cases h
theorem aLO {P:Program}{S:Nat->Prop}{w:World}{ρ:Name->Option Nat}{κ:Name->Nat}{h:Name->Option Blk}:∀{J:List Nat}{c F:List AV}{vs us:List Value}{b:Bool},eqC J c F=some b->
  c.length=vs.length->F.length=us.length->(∀j,j<c.length->RV S w ρ κ h (c.getD j .junk) (vs.getD j undef))->(∀j,j<F.length->RV S w ρ κ h (F.getD j .junk) (us.getD j undef))->rZ J vs us=some b
 | [],[],[],[],[],b,hc,_,_,_,_=>by simpa[eqC,rZ] using hc
 | k::J,x::r,y::s,v::vs,u::us,b,hc,h1,h2,h3,h4=>by
  have G:=h3 0 (by simp);have H:=h4 0 (by simp);simp only[Ar] at G H;cases x<;>try(simp[eqC] at hc;done)
  cases y<;>try(simp[eqC] at hc;done)
  cases G with|clo G=>cases G with|v x =>
  cases H with|clo H=>cases H with|v y =>
  simp only[eqC] at hc;split at hc
  .rename_i a U M O;have:=aLO (P:=P) O (by simpa using h1) (by simpa using h2) (λj I=>by simpa using h3 (j+1) (by simpa using I)) (λj I=>by simpa using h4 (j+1) (by simpa using I));simp only[rZ,M,this];exact hc
  .cases hc
 | [],[],_::_,_,_,b,hc,_,_,_,_=>by simp[eqC] at hc
 | [],_::_,_,_,_,b,hc,_,_,_,_=>by simp[eqC] at hc
 |_::_,[],_,_,_,b,hc,_,_,_,_=>by simp[eqC] at hc
 |_::_,_::_,[],_,_,b,hc,_,_,_,_=>by simp[eqC] at hc
 |_,_::_,_::_,[],_,b,hc,h1,_,_,_=>by simp at h1
 |_,_::_,_::_,_::_,[],b,hc,_,h2,_,_=>by simp at h2
 |_,[],[],_::_,_,b,hc,h1,_,_,_=>by simp at h1
 |_,[],[],[],_::_,b,hc,_,h2,_,_=>by simp at h2
variable {P:Program}{C:Ctx}{σ:FSt}{a:Act}{w:World}{S:Nat->Prop}{ρ:Name->Option Nat}{κ:Name->Nat}{K:AV->Prop}
theorem aKR (I:OK C σ a w S ρ κ) {op:BinOp}{t:TypeId}{Z:List Nat}{x y:Operand}{H:Bool} (O:(op=.eql∧H=false)∨(op=.neq∧H=true)) (ht:eqT P 30 t=some Z) (hg:P.eqGuardType P.depth t=false) (ha:jK P t=some true)
  (G:rd (evO σ.s) σ.h K (.eqA H Z x y)):Ans P S w ρ κ σ.h K (do eqGuard op t x y (a.eval x) (a.eval y);binOp op t (a.eval x) (a.eval y)):=by
 have V:=I.ev x;have Y:=I.ev y;generalize a.eval x=va at V⊢;generalize a.eval y=vb at Y⊢;simp only[rd] at G;split at G
 .rename_i c c' hc J;rw[hc] at V;rw[J] at Y;obtain⟨vs,rfl,l1,r1⟩:=rW V;obtain⟨us,rfl,l2,r2⟩:=rW Y;split at G
  .rename_i b hb;have U:=aLO (P:=P) (vs:=vs.toList) (us:=us.toList) hb (by simpa using l1) (by simpa using l2) (λj M=>by rw[getD_toList];exact r1 j M) (λj M=>by rw[getD_toList];exact r2 j M);have F:=(aOG (P:=P) w 30).1 t Z ht true ha vs.toList us.toList b 9970 U;simp only[aAv,Bj] at F;rcases O with⟨rfl,rfl⟩|⟨rfl,rfl⟩
   .refine⟨_,_,G,?_,.clo (.v _)⟩;simp only[Sem.run_bind,run_eqGuard_agg w _ t x y vs us hg,Result.andThen_ok,run_eql_struct w t vs us];rw[show(10000:Nat)=30+9970 from rfl,F];rfl
   .refine⟨_,_,G,?_,.clo (.v _)⟩;simp only[Sem.run_bind,run_eqGuard_agg w _ t x y vs us hg,Result.andThen_ok,run_neq_struct w t vs us];rw[show(10000:Nat)=30+9970 from rfl,F];rfl
  .exact G.elim
 .exact G.elim
end
section
variable [Envs]
variable {P:Program}{C:Ctx}{σ:FSt}{a:Act}{w:World}{S:Nat->Prop}{ρ:Name->Option Nat}{κ:Name->Nat}{K:AV->Prop}
theorem aDM (F:List Int):F.foldl (λr n=>r.push (UInt8.ofNat n.toNat)) ByteArray.empty=jD F:=by
 have G:∀(F:List Int) (b:ByteArray),F.foldl (λr n=>r.push (UInt8.ofNat n.toNat)) b=⟨b.data++(F.map λn=>UInt8.ofNat n.toNat).toArray⟩:=by
  intro F
  induction F with
  |nil=>intro b;cases b;simp
  | cons n r ih =>
   intro b;simp only[List.foldl_cons,ih];cases b;simp[ByteArray.push]
 rw[G];simp[jD,ByteArray.empty,ByteArray.emptyWithCapacity];rfl
theorem aAD:∀{l:List (List AV)}{F:List Int},tJ l=some F->l=F.map λn=>[.v (.int .u8 n)]
 | [],F,h=>by simp[tJ] at h;simp[h]
 | [.v (.int .u8 n)]::r,F,h=>by
  simp only[tJ] at h;split at h
  .rename_i l G;obtain rfl:=Ay h;rw[aAD G];rfl
  .cases h
 | []::r,F,h=>by simp[tJ] at h
 |(x::y::s)::r,F,h=>by simp[tJ] at h
 | [x]::r,F,h=>by
  cases x<;>try(simp[tJ] at h;done)
  rename_i v;cases v<;>try(simp[tJ] at h;done)
  rename_i k n;cases k<;>try(simp[tJ] at h;done)
  simp only[tJ] at h;split at h
  .rename_i l G;obtain rfl:=Ay h;rw[aAD G];rfl
  .cases h
theorem aOa (Y:OK C σ a w S ρ κ) {s d e:TypeId} (hs:P.underlying s=some (.slice e)) (he:P.underlying e=some (.int .u8)) (hd:P.underlying d=some .string) {x:Operand}
  (M:rd (evO σ.s) σ.h K (.b2s x)):Ans P S w ρ κ σ.h K (convert s d (a.eval x)):=by
 have hx:=Y.ev x;generalize a.eval x=va at hx⊢;simp only[rd] at M;split at M
 .rename_i l hl;split at M
  .rename_i ns ha;obtain⟨O,cap,f,rfl,hr⟩:=aDe Y.hok hx hl;have V:=aAD ha;refine⟨_,_,M,?_,.clo (.v _)⟩;rw[run_convert_bytes_string w s d e _ _ _ hs he hd];have G:l.length=ns.length:=by rw[V];simp
   cases ns with
   | nil =>
    have h0:l.length=0:=by simpa using G
    rw[h0];cases O with
    | none =>
     simp[Conv.bytesToString,jD,ByteArray.empty,ByteArray.emptyWithCapacity];rfl
    | some A =>
     rw[run_bytesToString w A 0 cap [] (by simp[loadCells,loadCellsFrom]),aDM]
   | cons J ns0 =>
    have F:=hr.cell w rfl;obtain⟨b,off,hb,_⟩:=F 0 (by simp at G;omega);subst hb;rw[G];rw[run_bytesToString w ⟨b,off,none⟩ _ cap (J::ns0) ?_,aDM];rw[run_loadCells w ⟨b,off,none⟩ _ f (λj H=>?_)]
    .congr 1;apply Array.ext';simp only;apply List.ext_getElem?;intro j;rcases Db j (J::ns0).length with H|H
     .have I:=hr.rc j (by omega)
      have e1:rT 1 l j=.v (.int .u8 (J::ns0)[j]):=by
       have:l[j]? = some [.v (.int .u8 (J::ns0)[j])]:=by rw[V];simp only[Cv,Ba H,AU]
       simp[rT,List.getD,this,Nat.mod_one]
      rw[e1] at I
      have e2:f j=.int .u8 (J::ns0)[j]:=by
       generalize f j=u at I;cases I with|v _=>rfl
      rw[Cv,List.getElem?_range H,Cv,Ba H,AU,AU,e2]
     .rw[List.getElem?_eq_none (show(List.map f (List.range (J::ns0).length)).length<=j by simpa using H),List.getElem?_eq_none (show(List.map (Value.int .u8) (J::ns0)).length<=j by simpa using H)]
    .obtain⟨b',hc,U,Z⟩:=F j (by omega);simp only[Ab,Addr.mk.injEq,and_true] at U;obtain⟨rfl,rfl⟩:=U;rw[addr_add];exact Z
  .exact M.elim
 .exact M.elim
def aLv (P:Program) (f:FuncId):Bool:=match P.funcs[f]? with
 |some fn=>fn.body.isNone&&fn.name == "internal/bytealg.IndexByteString" && fn.origin == ""
 |none=>false
theorem aLL {fn:Func} (h:fn.name = "internal/bytealg.IndexByteString"):Extern.find fn=some Extern.BytealgIndexByte.indexByte:=by
 unfold Extern.find;simp only[h];rfl
theorem aFv {fn:Func} (h:fn.name = "internal/bytealg.IndexByteString") (F:fn.origin = ""):Extern.findNext fn=none:=by
 unfold Extern.findNext;simp only[h,F];rfl
theorem aMD (I:OK C σ a w S ρ κ) {o:Oper}{c:Call}{f:FuncId}{x y:Operand} (U:o.op=.call c) (hc:c.callee=.value (.func f)) (G:c.args=#[x,y]) (hi:aLv P f=true)
  (J:rd (evO σ.s) σ.h K (.idxB x y)):∃Z v,K Z∧(execOp a.eval o).run P w=.ok (.value v) w∧RV S w ρ κ σ.h Z v:=by
 have V:=I.ev x;have Y:=I.ev y
 have F:(execOp a.eval o).run P w=(callFunc f #[a.eval x,a.eval y]).run P w:=by
  simp[execOp,U,resolve,hc,G,Act.eval,Deferred.ofValue,invoke]
 generalize a.eval x=va at V F;generalize a.eval y=vb at Y F;simp only[rd] at J;split at J
 .rename_i s n h1 h2;rw[h1] at V;rw[h2] at Y;obtain rfl:=dD V;obtain rfl:=dD Y;unfold aLv at hi;split at hi
  .rename_i fn O;simp only[Aw,BO] at hi;have H:(fn.name == "runtime.NumGoroutine")=false:=by rw[hi.1.2];rfl
   refine⟨_,.int .i64 (aAk s n),J,?_,.clo (.v _)⟩;rw[F,run_callFunc_indexByte O H hi.1.1 (aFv hi.1.2 hi.2) (aLL hi.1.2)]
   have e:Extern.BytealgIndexByte.indexByte #[Value.string s,.int .u8 n]=(do
       let b ←Extern.Bytes.bytesOf (.string s)
       let c ←Extern.Bytes.asByte (.int .u8 n)
       match(List.range b.size).find? (λi=>b[i]! == c) with
       |some i=>pure (goInt i)
       |none=>pure (goInt (-1)):Sem Value):=rfl
   rw[e];simp only[Extern.Bytes.bytesOf,Extern.Bytes.asByte,Sem.run_bind,Sem.run_pure,Result.andThen_ok];unfold aAk;split
   .rename_i i M;simp only[M,Sem.run_pure,Result.andThen_ok,goInt]
   .rename_i M;simp only[M,Sem.run_pure,Result.andThen_ok,goInt]
  .cases hi
 .exact J.elim
end
section
variable [Envs]
variable {P:Program}{C:Ctx}{a:Act}{w:World}{S:Nat->Prop}{ρ:Name->Option Nat}{κ:Name->Nat}
structure aM where
 dst:Option Nat
 op:AOp
 guard:Option (Nat×Bool)
def bF:AV->List Name
 |.loc n _ _=>[n]
 |.ptr n _ _=>[n]
 |_=>[]
def aU:AV->List Name
 |.agg c=>c.flatMap bF
 |x=>bF x
def aT (h:List (Name×Blk)) (n:Name):List Name:=
 match aB h n with
 |some (.var c _)=>c.flatMap bF
 |_=>[]
def aGU (h:List (Name×Blk)) (xs:List AV) (bor:List Nat):List Name:=
 let t:=bor.flatMap λi=>aU (xs.getD i .junk)
 t++t.flatMap (aT h)
def nodupB:List Name->Bool
 | []=>true
 |n::r=>!r.contains n&&nodupB r
def jB (d nB n:Nat) (σ:St):Bool:=(List.range n).all λj=>decide (j<nB)||dA (.t d j) σ
def aA (P:Program) (f:FuncId) (hin:List Blk) (ys:List AV) (L:List Name) (d:Option Nat) (σ:St) (B:List Name) (K:St->Prop) (_:Tag K):Prop:=
 ∃ r hout fz,Fn P f hin ys r hout∧(fz=false->(L=[]∨(flat r=true∧∀b,some b∈hout->aAx b)))∧
  jB (d.getD 0) B.length hout.length σ=true∧K ⟨put d (rn (phi B (d.getD 0) hout.length) r) σ.s,yA σ.h B (d.getD 0) hout fz L⟩
def aDZ (P:Program) (d:Option Nat) (σ:St) (K:St->Prop) (fv:AV) (xs:List AV) (B:List Name):Prop:=
 match fv with
 | .fn f caps=>match dG (conv (aB σ.h) 8 B false) (xs++caps),rP (aB σ.h) B B with
  |some (ys,L1),some (hin,L2)=>nodupB B=true∧aA P f hin ys (L1++L2) d σ B K .x
  |_,_=>False
 |_=>False
def bP (P:Program) (d:Option Nat) (σ:St) (K:St->Prop):AOp->Prop
 | .box x=>match d with
  |some d=>al (evO (look σ.s)) (aB σ.h) (.t d 0) (λv b=>(dA (.t d 0) σ=true∧b.has (.t d 0)=false)∧K ⟨(d,v)::σ.s,(.t d 0,b)::σ.h⟩) (.box x)
  |none=>False
 | .alloc z=>match d with
  |some d=>al (evO (look σ.s)) (aB σ.h) (.t d 0) (λv b=>(dA (.t d 0) σ=true∧b.has (.t d 0)=false)∧K ⟨(d,v)::σ.s,(.t d 0,b)::σ.h⟩) (.alloc z)
  |none=>False
 | .bslice k m z ps=>match d with
  |some d=>al (evO (look σ.s)) (aB σ.h) (.t d 0) (λv b=>(dA (.t d 0) σ=true∧b.has (.t d 0)=false)∧K ⟨(d,v)::σ.s,(.t d 0,b)::σ.h⟩) (.bslice k m z ps)
  |none=>False
 | .mk k y z n=>match d with
  |some d=>al (evO (look σ.s)) (aB σ.h) (.t d 0) (λv b=>(dA (.t d 0) σ=true∧b.has (.t d 0)=false)∧K ⟨(d,v)::σ.s,(.t d 0,b)::σ.h⟩) (.mk k y z n)
  |none=>False
 |.call f args bor=>aDZ P d σ K (evO (look σ.s) f) (args.map (evO (look σ.s))) (aGU σ.h (args.map (evO (look σ.s))) bor)
 | .store k A X=>d=none∧match evO (look σ.s) A with
  | .ptr n e c=>match aB σ.h n,lV (aB σ.h) (evO (look σ.s) X) with
   |some b,some cs=>(b.fz=false∧0<k∧cs.length=k∧c+k<=(b.row e).length∧b.okc cs=true)∧K ⟨σ.s,hset n (b.setRow e (lay (b.row e) c cs)) σ.h⟩
   |_,_=>False
  |_=>False
 | .append k y A X=>match d with
  | some d=>match aCv k (aB σ.h) (evO (look σ.s) A),qQ k (aB σ.h) (evO (look σ.s) X) with
   | some (on,l),some l'=>(dA (.t d 0) (aS on σ)=true∧(l.length+l'.length)*y<=2 ^ 47∧l.length+l'.length<2 ^ 62)∧
     K ⟨(d,.loc (.t d 0) 0 (l.length+l'.length))::(aS on σ).s,(.t d 0,.arr k (l++l') false)::(aS on σ).h⟩
   |_,_=>False
  |none=>False
 | .appendC k y A X=>match d with
  | some d=>match aCv k (aB σ.h) (evO (look σ.s) A),qQ k (aB σ.h) (evO (look σ.s) X) with
   | some (on,l),some l'=>(dA (.t d 0) (aS on σ)=true∧(l.length+l'.length)*y<=2 ^ 47∧l.length+l'.length<2 ^ 62)∧
     K ⟨(d,.sl k (l++l'))::(aS on σ).s,(aS on σ).h⟩
   |_,_=>False
  |none=>False
 | .bsliceC k m z ps=>match d with
  |some d=>al (evO (look σ.s)) (aB σ.h) (.t d 0) (λv b=>(dA (.t d 0) σ=true∧b.has (.t d 0)=false)∧∃rows,b=.arr k rows false∧v=.loc (.t d 0) 0 rows.length∧K ⟨(d,.sl k rows)::σ.s,σ.h⟩) (.bslice k m z ps)
  |none=>False
 | .clr k z X=>match evO (look σ.s) X with
  | .loc n off len=>match aB σ.h n with
   |some (.arr k' l fz)=>(fz=false∧k'=k∧z.length=k∧(z.all λx=>tH (aB σ.h) x&&nQ x)=true∧off+len<=l.length)∧K ⟨put d (.v (.tuple #[])) σ.s,hset n (.arr k (aBx l off len z) false) σ.h⟩
   |_=>False
  |_=>False
 |op=>rd (evO (look σ.s)) (aB σ.h) (λv=>K ⟨put d v σ.s,σ.h⟩) op
/-! ## resolving -/
def avs (z:Array Value):List AV:=z.toList.map λx=>.v x
def uM (P:Program) (b:Builtin) (ts:List TypeId) (args:List Operand):Option AOp:=
 match b,ts,args with
 | .len,[t],[x]=>match P.underlying t with
  |some (.slice _)=>some (.len x)
  |some .string=>some (.lenS x)
  |some (.array n _)=>some (.lenC n)
  |_=>none
 | .append,[t,t2],[x,y]=>match P.underlying t,P.underlying t2 with
  | some (.slice e),some (.slice _)=>match P.info? e with
   | some i=>match i.zero with
    |some z=>if z.cells.size=i.size then some (.append i.size i.bytes x y) else none
    |none=>none
   |none=>none
  |_,_=>none
 |.max,[_,_],[x,y]=>some (.mm true x y)
 |.min,[_,_],[x,y]=>some (.mm false x y)
 | .clear,[t],[x]=>match P.underlying t with
  | some (.slice e)=>match P.info? e with
   | some i=>match i.zero with
    |some z=>some (.clr i.size (avs z.cells) x)
    |none=>none
   |none=>none
  |_=>none
 |_,_,_=>none
def bpS (P:Program) (fs:Array Field):List (Nat×Operand)->Option (List (Nat×Nat×Operand))
 | []=>some []
 | (i,x)::r=>match fs[i]? with
  | some f=>match kX P f.type,bpS P fs r with
   |some n,some l=>some ((f.offset,n,x)::l)
   |_,_=>none
  |none=>none
def aKH:Operand->Operand->Bool
 |.tmp l,.tmp c=>l==c
 |.const (.int k l),.const (.int k' c)=>k==k'&&l==c
 |_,_=>false
theorem aKG {x y:Operand} (h:aKH x y=true):x=y:=by
 unfold aKH at h
 all_goals grind
def comp (P:Program):Op->Option AOp
 |.move x=>some (.mv x)
 |.assign x=>some (.mv x)
 |.pick c x y=>some (.pick c x y)
 |.alloc t=>(zOf P t).map λz=>.alloc (avs z)
 |.box _ x=>some (.box x)
 | .build t ps=>match P.underlying t,zOf P t with
  |some (.struct fs),some z=>if fs.all (λf=>(kX P f.type).isSome) then(bpS P fs ps.toList).map λps=>.build (avs z) ps else none
  |some (.array _ e),some z=>(kX P e).map λn=>.build (avs z) (ps.toList.map λp=>(p.1*n,n,p.2))
  |_,_=>none
 | .buildSlice t m ps=>match P.underlying t with
  | some (.slice e)=>match kX P e,zOf P e with
   |some k,some z=>some (.bslice k m (avs z) ps.toList)
   |_,_=>none
  |_=>none
 |.load t x=>(vQ P t).map λp=>.load p.1 p.2 x
 |.store t A X=>(kX P t).map λk=>.store k A X
 |.nilCheck x=>some (.nilc x)
 | .binOp op t x y _=>match P.underlying t with
  |some (.int _)=>some (.bin op x y)
  |some .string=>some (.binS op x y)
  |some .bool=>some (.binB op x y)
  | some (.struct _)=>match eqT P 30 t with
   | some ks=>if P.eqGuardType P.depth t=false∧jK P t=some true then match op with
     |.eql=>some (.eqA false ks x y)
     |.neq=>some (.eqA true ks x y)
     |_=>none
    else none
   |none=>none
  |_=>none
 |.unOp op _ x=>some (.un op x)
 | .convert s d x=>match P.underlying s,P.underlying d with
  |some (.int _),some (.int k)=>some (.conv k x)
  | some (.slice e),some .string=>match P.underlying e with
   |some (.int .u8)=>some (.b2s x)
   |_=>none
  |_,_=>none
 |.makeFunc (.func f) first caps=>if first.size=0 then some (.mkfn f caps.toList) else none
 | .makeSlice t L L'=>if aKH L L'=true then match P.underlying t with
   | some (.slice e)=>match P.info? e with
    | some i=>match i.zero with
     |some z=>some (.mk i.size i.bytes (avs z.cells) L)
     |none=>none
    |none=>none
   |_=>none
  else none
 | .slice t x lo hi none=>match P.underlying t with
  |some (.slice e)=>(kX P e).map λk=>.slc k x lo hi
  |some .string=>some (.sstr x lo hi)
  |_=>none
 | .fieldAddr s x i=>match xO P s i with
  | some f=>match kX P f.type with
   |some (_+1)=>some (.fieldAddr f.offset x)
   |_=>none
  |none=>none
 | .field s x i=>match xO P s i with
  |some f=>(vQ P f.type).bind λp=>if kX P f.type=some p.2 then some (.field p.1 f.offset p.2 x) else none
  |none=>none
 | .indexAddr t x i=>match P.underlying t with
  |some (.slice e)=>(kX P e).map λk=>.idxSl k x i
  |some (.array n e)=>(kX P e).map λk=>.idxArr n k x i
  |_=>none
 | .index t x i=>match P.underlying t with
  |some .string=>some (.idxStr x i)
  |some (.array n e)=>(vQ P e).bind λp=>if kX P e=some p.2 then some (.idxAgg p.1 n p.2 x i) else none
  |_=>none
 |.extract x i=>some (.extract x i)
 | .call c=>match c.callee with
  |.builtin b=>uM P b c.argTypes.toList c.args.toList
  | .value (.func f)=>if aLv P f then match c.args.toList with
    | [x,y]=>some (.idxB x y)
    |_=>none
   else some (.call (.func f) c.args.toList [])
  |.value f=>some (.call f c.args.toList [])
  |.invoke _ _=>none
 |_=>none
def AOp.bare0:AOp->AOp
 |.call f args _=>.call f args []
 |op=>op
def AOp.bare:AOp->AOp
 |.appendC k y a x=>.append k y a x
 |.loadV g k a=>.load g k a
 |.fieldV off x=>.fieldAddr off x
 |.bsliceC k n z ps=>.bslice k n z ps
 |op=>op.bare0
def dV (C:Ctx) (K:St->Prop) (a:Act) (w:World):Prop:=∃σ S ρ κ,K σ∧OK C (St.f σ) a w S ρ κ
theorem dV.put {σ:St} (F:OK C σ.f a w S ρ κ) {x:AV}{v:Value} (I:RV S w ρ κ σ.f.h x v) {d:Option Nat} (H:∀d',d=some d'->d'<C.nt) {K:St->Prop} (G:K ⟨Vs.put d x σ.s,σ.h⟩):dV C K (a.put d v) w:=by
 refine⟨_,S,ρ,κ,G,?_⟩;have:=F.put I H;simpa[St.f,lI] using this
theorem w9 {σ:St}{K:St->Prop}{o:Oper}{Q:Exit->Act->World->Prop} (G:OK C σ.f a w S ρ κ) (I:∀d',o.dst=some d'->d'<C.nt)
  (h:∃x v,K ⟨put o.dst x σ.s,σ.h⟩∧(execOp a.eval o).run P w=.ok (.value v) w∧RV S w ρ κ σ.f.h x v):o.wp P a w (dV C K) Q:=by
 obtain⟨x,v,H,F,J⟩:=h;unfold Oper.wp;rw[F];exact dV.put G J I H
theorem aId {s:Sem Value}{v:Value}{w':World} (h:s.run P w=.ok v w'):(do pure (Next.value (←s)):Sem Next).run P w=.ok (.value v) w':=by
 simp[h]
theorem aBJ {σ:St} (ha:OK C σ.f a w S ρ κ) {t:TypeId}{J:Array Field}{z:Array Value}{I:Array (Nat×Operand)}{Z:List (Nat×Nat×Operand)}{K:AV->Prop}
  (hu:P.underlying t=some (.struct J)) (hz:zOf P t=some z) (O:J.all (λf=>(kX P f.type).isSome)=true) (hp:bpS P J I.toList=some Z) (hv:rd (evO (look σ.s)) (aB σ.h) K (.build (avs z) Z)) :
  Ans P S w ρ κ σ.f.h K (Instr.build t (I.map λ(i,x)=>(i,a.eval x))):=by
 obtain⟨zv,Y,rfl⟩:=aA1 hz w
 let F:Array (Nat×Nat):=J.map λf=>(f.offset,(kX P f.type).getD 0)
 have G:(J.mapM λf=>(do pure (f.offset,←sizeOf f.type):Sem (Nat×Nat))).run P w=.ok F w:=by
  have hb:∀(l:List Field) (M:List (Nat×Nat)),(∀f,f∈l->(kX P f.type).isSome)->(l.mapM λf=>(do pure (f.offset,←sizeOf f.type):Sem (Nat×Nat))).run P w=.ok (l.map λf=>(f.offset,(kX P f.type).getD 0)) w:=by
   intro l
   induction l with
   |nil=>intro _ _;simp
   | cons f r ih =>
    intro M hl;obtain⟨n,hn⟩:=AA.1 (hl f (by simp));simp only[List.mapM_cons,Sem.run_bind,run_sizeOf hn,Result.andThen_ok,Sem.run_pure,ih M (λg hg=>hl g (by simp[hg])),Bt,hn,Cc]
  have:=hb J.toList [] (λf hf=>by
    have:=Array.all_eq_true'.1 O f (by simpa using hf);exact this)
  rw[Array.mapM_eq_mapM_toList];simp only[Sem.run_map,this,Result.andThen_ok];congr 1;apply Array.ext';simp[F]
 simp only[rd] at hv
 have V:I.toList.map (λp=>((F[p.1]?:Option (Nat×Nat))).map λq=>(q.1,q.2,p.2))=Z.map some:=by
  revert hp;generalize I.toList=l;clear hv
  induction l generalizing Z with
  |nil=>intro hp;simp[bpS] at hp;simp[hp]
  | cons p r ih =>
   grind [bpS]
 obtain⟨cs,vs,hK,H,U,_⟩:=aCW ha (λi=>F[i]?) I.toList Z _ _ V (uO zv.cells) hv;refine⟨_,.agg vs,hK,?_,.agg _ _ U.1 U.2⟩;have e:(I.map λ(i,x)=>(i,a.eval x)).toList=I.toList.map λp=>(p.1,a.eval p.2):=by simp
 simp only[Instr.build,Sem.run_bind,Y,Result.andThen_ok,run_underlying hu,G,e];rw[H];rfl
theorem aCy {σ:St} (J:OK C σ.f a w S ρ κ) {t e:TypeId}{m n:Nat}{z:Array Value}{I:Array (Nat×Operand)}{K:AV->Prop}
  (Y:P.underlying t=some (.array m e)) (Z:zOf P t=some z) (V:kX P e=some n) (M:rd (evO (look σ.s)) (aB σ.h) K (.build (avs z) (I.toList.map λp=>(p.1*n,n,p.2)))) :
  Ans P S w ρ κ σ.f.h K (Instr.build t (I.map λ(i,x)=>(i,a.eval x))):=by
 obtain⟨zv,H,rfl⟩:=aA1 Z w;simp only[rd] at M;obtain⟨cs,vs,U,F,G,_⟩:=aCW J (λi=>some (i*n,n)) I.toList _ _ _ (by simp) (uO zv.cells) M;refine⟨_,.agg vs,U,?_,.agg _ _ G.1 G.2⟩;have O:(I.map λ(i,x)=>(i,a.eval x)).toList=I.toList.map λp=>(p.1,a.eval p.2):=by simp
 simp only[Instr.build,Sem.run_bind,H,Result.andThen_ok,run_underlying Y,run_sizeOf V,O];rw[F];rfl
theorem qV:∀{B:List Name},nodupB B=true->B.Nodup
 | [],_=>List.nodup_nil
 | n::r,h=>by
  simp only[nodupB,Aw,BB,List.contains_eq_mem,BD] at h;exact List.nodup_cons.2 ⟨h.1,qV h.2⟩
theorem aEm {σ:St}{K:St->Prop}{o:Oper}{c:Call}{f:Operand}{bor:List Nat}{Q:Exit->Act->World->Prop} (M:OK C σ.f a w S ρ κ) (hd:∀d',o.dst=some d'->d'<C.nt)
  (ho:o.op=.call c) (hc:c.callee=.value f)
  (F:bP P o.dst σ K (.call f c.args.toList bor)):o.wp P a w (dV C K) Q:=by
 simp only[bP,aDZ] at F;split at F
 .rename_i g caps hg;have hf:=M.ev f;simp only[St.f] at hf;rw[hg] at hf;obtain⟨vs,hn,hl,hr⟩:=aDJ hf
  have G:xP P g:=by
   split at F
   .obtain⟨_,r,hout,fz,J,_⟩:=F;exact J.1
   .exact F.elim
  obtain⟨fn,b,O,h2,h3⟩:=G
  have Z:(execOp a.eval o).run P w=.ok (.enter g (c.args.map a.eval++vs)) w:=by
   simp[execOp,ho,resolve,hc,hn,Deferred.ofValue,invoke,callFunc,O,h2,h3]
  unfold Oper.wp;rw[Z];simp only[Oper.upon];split at F
  .rename_i ys L1 hin L2 hp U;obtain⟨hk,r,hout,fz,J,I,ha,hK⟩:=F
   have V:∀j,(aGU σ.h (c.args.toList.map (evO (look σ.s))) bor).length<=j->j<hout.length->dA (.t (o.dst.getD 0) j) σ=true:=by
    grind [jB]
   have H:=aHS (K:=fun σ' x=>∃σl:St,σl.f=σ'∧K ⟨put o.dst (rn (phi (aGU σ.h (c.args.toList.map (evO (look σ.s))) bor) (o.dst.getD 0) hout.length) r) σ.s,σl.h⟩∧σl.s=σ.s∧x=rn (phi (aGU σ.h (c.args.toList.map (evO (look σ.s))) bor) (o.dst.getD 0) hout.length) r) M (d:=o.dst.getD 0) (f:=g) (caps:=caps) (xs:=c.args.toList.map (evO (look σ.s))) (qV hk) (vs:=c.args.map a.eval++vs) (by
       simp only[aL4,St.f,hp,U];refine⟨r,hout,fz,J,I,λj O h2=>dS (V j O h2),⟨σ.s,yA σ.h (aGU σ.h (c.args.toList.map (evO (look σ.s))) bor) (o.dst.getD 0) hout fz (L1++L2)⟩,?_,hK,rfl,rfl⟩;simp only[FSt.mk.injEq,Ck];refine aO0 (λm hm=>?_) (λj O h2=>(dS (V j O h2)).1.1);obtain⟨_,he,_⟩:=aAL _ _ U;obtain⟨j,hj⟩:=BH.1 hm;obtain⟨b0,_,_,hb,_⟩:=he j m hj;simp[hb]) (by simp[hl]) (λj hj=>by
       simp only[AX,Bh,BP] at hj;by_cases Y:j<c.args.size
       . have e1:(c.args.toList.map (evO (look σ.s))++caps).getD j .junk=evO (look σ.s) c.args[j]:=by
           grind [look,St,Oper,Call]
         have e2:(c.args.map a.eval++vs).getD j undef=a.eval c.args[j]:=by simp[Y,show j<c.args.size+vs.size by omega]
         rw[e1,e2];exact M.ev _
       . have e1:(c.args.toList.map (evO (look σ.s))++caps).getD j .junk=caps.getD (j-c.args.size) .junk:=by
           grind
         have e2:(c.args.map a.eval++vs).getD j undef=vs.getD (j-c.args.size) undef:=by
           simp[Cz,Y]
         rw[e1,e2];exact hr _ (by omega))
   refine H.mono ?_
   all_goals grind [dV.put]
  .exact F.elim
 .exact F.elim
end
section
variable [Envs]
variable {P:Program}{C:Ctx}{a:Act}{w:World}{S:Nat->Prop}{ρ:Name->Option Nat}{κ:Name->Nat}
theorem bT {σ:St}{K:St->Prop}{o:Oper}{Q:Exit->Act->World->Prop} (G:OK C σ.f a w S ρ κ) (I:∀d',o.dst=some d'->d'<C.nt) {s:Sem Value}
  (J:execOp a.eval o=(do pure (Next.value (←s)))) (h:Ans P S w ρ κ σ.f.h (λv=>K ⟨put o.dst v σ.s,σ.h⟩) s):o.wp P a w (dV C K) Q:=by
 obtain⟨x,v,H,F,M⟩:=h;exact w9 G I ⟨x,v,H,by rw[J];exact aId F,M⟩
theorem zY {σ:St}{K:St->Prop}{o:Oper}{d:Nat}{Q:Exit->Act->World->Prop} (G:o.dst=some d) (O:d<C.nt) {s:Sem Value}
  (U:execOp a.eval o=(do pure (Next.value (←s))))
  (h:Made P C σ.f a w S (.t d 0) (λv b=>(dA (.t d 0) σ=true∧b.has (.t d 0)=false)∧K ⟨(d,v)::σ.s,(.t d 0,b)::σ.h⟩) s):o.wp P a w (dV C K) Q:=by
 obtain⟨x,b,v,w',⟨⟨J,h2⟩,M⟩,H,I⟩:=h;obtain⟨ρ',κ',F,V⟩:=I (dS J) h2
 have e:(St.mk σ.s ((.t d 0,b)::σ.h)).f=⟨σ.f.s,hput σ.f.h (.t d 0) (some b)⟩:=by
  simp only[St.f,FSt.mk.injEq,Ck]
  funext m;simp only[aB,hput]
 unfold Oper.wp;rw[U,aId H];show dV C K (a.put o.dst v) w'
 rw[←e] at F;rw[G];exact dV.put (σ:=⟨σ.s,(.t d 0,b)::σ.h⟩) F (by rw[e];exact V) (λd' h=>by rw[←Ay h];exact O) M
theorem bare_eq {op F:AOp} (h:op.bare0=F):(∃f args bor,op=.call f args bor∧F=.call f args [])∨((∀f args bor,op≠.call f args bor)∧op=F):=by
 cases op<;>simp only[AOp.bare0] at h<;>first
  |exact .inr ⟨by simp,h⟩
  |exact .inl ⟨_,_,_,rfl,h.symm⟩
theorem d9 {op F:AOp} (h:some F=some op.bare0) (G:∀f args bor,F≠.call f args bor:=by intro _ _ _ h;cases h):op=F:=by
 rcases bare_eq (Ay h).symm with⟨f,args,bor,_,h⟩|⟨_,h⟩
 .exact absurd h (G _ _ _)
 .exact h
theorem aGg {T:TypeId}{g:Bool}{k:Nat} (h:vQ P T=some (g,k)):jK P T=some g:=by
 unfold vQ at h;split at h
 .rename_i n F h2;simp only[Ab,AL] at h;rw[F,h.1]
 .rename_i n F h2;simp only[Ab,AL] at h;rw[F,h.1]
 .cases h
theorem aFF {α:Type}{x:Array α}{p q:α} (h:x.toList=[p,q]):x=#[p,q]:=by
 apply Array.ext';simpa using h
theorem aKb {α:Type}{x:Array α}{p:α} (h:x.toList=[p]):x=#[p]:=by
 apply Array.ext';simpa using h
theorem aFT {o:Oper}{c:Call}{b:Builtin} (G:o.op=.call c) (F:c.callee=.builtin b) :
  execOp a.eval o=builtin b c.argTypes o.type (c.args.map fun|.const _=>true|_=>false) (c.args.map a.eval):=by
 simp only[execOp,G,resolve,F];rfl
theorem qJ {σ:St}{K:St->Prop}{o:Oper}{op:AOp}{Q:Exit->Act->World->Prop} (F:comp P o.op=some op.bare0) (G:OK C σ.f a w S ρ κ) (M:∀d',o.dst=some d'->d'<C.nt)
  (H:bP P o.dst σ K op):o.wp P a w (dV C K) Q:=by
 generalize I:o.op=oop at F;cases oop
 case move x =>
  obtain rfl:=d9 F;exact w9 G M ⟨_,_,H,by simp[execOp,I],G.ev x⟩
 case assign x =>
  obtain rfl:=d9 F;exact w9 G M ⟨_,_,H,by simp[execOp,I],G.ev x⟩
 case pick c x y =>
  obtain rfl:=d9 F;have hw:=G.ev c;simp only[bP,rd] at H;split at H
  .rename_i t ht;rw[show evO σ.f.s c=_ from ht] at hw;have:=dD hw;cases t
   .exact w9 G M ⟨_,_,H.2 rfl,by simp[execOp,I,this,asBool],G.ev y⟩
   .exact w9 G M ⟨_,_,H.1 rfl,by simp[execOp,I,this,asBool],G.ev x⟩
  .exact H.elim
 case alloc t =>
  simp only[comp] at F;cases hz:zOf P t with
  |none=>rw[hz] at F;cases F
  | some z =>
   rw[hz] at F;obtain rfl:=d9 F;simp only[bP] at H;split at H
   .rename_i d J;exact zY J (M d J) (by simp only[execOp,I]) (aMb G hz H)
   .exact H.elim
 case box t x =>
  obtain rfl:=d9 F;simp only[bP] at H;split at H
  .rename_i d J;exact zY J (M d J) (by simp only[execOp,I]) (aOY (T:=t) G H)
  .exact H.elim
 case build t ps =>
  simp only[comp] at F;split at F
  .rename_i fs z O hz;split at F
   .rename_i ho;cases hp:bpS P fs ps.toList with
    |none=>rw[hp] at F;cases F
    | some rp =>
     rw[hp] at F;obtain rfl:=d9 F;exact bT G M (by simp only[execOp,I]) (aBJ G O hz ho hp H)
   .cases F
  .rename_i m e z O hz;cases hn:kX P e with
   |none=>rw[hn] at F;cases F
   | some n =>
    rw[hn] at F;obtain rfl:=d9 F;exact bT G M (by simp only[execOp,I]) (aCy G O hz hn H)
  .cases F
 case buildSlice t m ps =>
  simp only[comp] at F;split at F
  .rename_i e O;split at F
   .rename_i k z hk hz;obtain rfl:=d9 F;simp only[bP] at H;split at H
    .rename_i d J;refine zY (σ:=σ) (S:=S) (K:=K) J (M d J) (s:=Instr.buildSlice t m (ps.map λ(i,x)=>(i,a.eval x))) (by simp only[execOp,I]) ?_;have:=aKc G O hk hz H
     have e1:(ps.toList.map λp=>(p.1,a.eval p.2)).toArray=ps.map λ(i,x)=>(i,a.eval x):=by
      apply Array.ext';simp
     rw[e1] at this;exact this
    .exact H.elim
   .cases F
  .cases F
 case load t x =>
  simp only[comp] at F;cases hl:vQ P t with
  |none=>rw[hl] at F;cases F
  | some p =>
   rw[hl] at F;obtain rfl:=d9 F;exact bT G M (by simp only[execOp,I]) (aIi G hl H)
 case store t A X =>
  simp only[comp] at F;cases hl:kX P t with
  |none=>rw[hl] at F;cases F
  | some k =>
   rw[hl] at F;obtain rfl:=d9 F;obtain⟨h7,H⟩:=H
   have:=aKe G (A:=A) (X:=X) hl (K:=λh'=>∃l,aB l=h'∧K ⟨σ.s,l⟩) (by
     simp only[wrS,St.f];split at H
     . rename_i n e c hA
       rw[hA];split at H
       . rename_i b cs hb h6
         simp only[hb,h6];exact⟨H.1,_,xL _ _ _,H.2⟩
       . exact H.elim
     . exact H.elim)
   obtain⟨h',w',⟨l,rfl,hK⟩,ha,Z⟩:=this;unfold Oper.wp;have hr:(execOp a.eval o).run P w=.ok .skip w':=by simp[execOp,I,ha]
   rw[hr];simp only[Oper.upon,h7,Act.put];exact⟨⟨σ.s,l⟩,S,ρ,κ,hK,Z⟩
 case nilCheck x =>
  obtain rfl:=d9 F;exact w9 G M (aMz G I H)
 case binOp op t x y yt =>
  simp only[comp] at F;split at F
  .simp only[Ab] at F;obtain rfl:=d9 (Cm some F);exact bT G M (by simp only[execOp,I]) (aN9 (t:=t) G H)
  .simp only[Ab] at F;obtain rfl:=d9 (Cm some F);exact bT G M (by simp only[execOp,I]) (aMF (t:=t) G H)
  .rename_i O;obtain rfl:=d9 F;exact bT G M (by simp only[execOp,I]) (aMG G O H)
  .rename_i O;split at F
   .rename_i ks h0;split at F
    .rename_i hj;split at F
     .simp only[Ab] at F;obtain rfl:=d9 (Cm some F);exact bT G M (by simp only[execOp,I]) (aKR G (.inl ⟨rfl,rfl⟩) h0 hj.1 hj.2 H)
     .simp only[Ab] at F;obtain rfl:=d9 (Cm some F);exact bT G M (by simp only[execOp,I]) (aKR G (.inr ⟨rfl,rfl⟩) h0 hj.1 hj.2 H)
     .cases F
    .cases F
   .cases F
  .cases F
 case unOp op t x =>
  obtain rfl:=d9 F;exact bT G M (by simp only[execOp,I]) (rd_un G H)
 case convert s d x =>
  simp only[comp] at F;split at F
  .rename_i h1 h2;obtain rfl:=d9 F;exact bT G M (by simp only[execOp,I]) (aME G h1 h2 H)
  .rename_i e h1 h2;split at F
   .rename_i h3;obtain rfl:=d9 F;exact bT G M (by simp only[execOp,I]) (aOa G h1 h3 h2 H)
   .cases F
  .cases F
 case makeFunc fn first caps =>
  cases fn
  case func g =>
   simp only[comp] at F;split at F
   .rename_i qc;obtain rfl:=d9 F;have h8:first=#[]:=Array.eq_empty_of_size_eq_zero qc
    have:=aMA (P:=P) (w:=w) (K:=λv=>K ⟨put o.dst v σ.s,σ.h⟩) G H;refine bT G M (s:=Instr.makeFunc (.func g) #[] (caps.map a.eval)) (by simp only[execOp,I,h8,CU,BI]) ?_;simpa using this
   .cases F
  all_goals simp[comp] at F
 case makeSlice t l c =>
  simp only[comp] at F;split at F
  .rename_i qa;obtain rfl:=aKG qa;split at F
   .rename_i e O;split at F
    .rename_i i hi;split at F
     .rename_i z hz;obtain rfl:=d9 F;simp only[bP] at H;split at H
      .rename_i d J;exact zY J (M d J) (by simp only[execOp,I]) (al_mk G O hi hz H)
      .exact H.elim
     .cases F
    .cases F
   .cases F
  .cases F
 case slice t x lo hi mx =>
  cases mx
  case none =>
   simp only[comp] at F;split at F
   .rename_i e O;cases hk:kX P e with
    |none=>rw[hk] at F;cases F
    | some k =>
     rw[hk] at F;obtain rfl:=d9 F;exact bT G M (by simp only[execOp,I];rfl) (aN7 G O hk H)
   .rename_i O;obtain rfl:=d9 F;exact bT G M (by simp only[execOp,I];rfl) (aMy G O H)
   .cases F
  case some=>simp[comp] at F
 case fieldAddr s x i =>
  simp only[comp] at F;split at F
  .rename_i f hf;split at F
   .rename_i n hn;obtain rfl:=d9 F;exact bT G M (by simp only[execOp,I]) (aFe G hf hn (by omega) H)
   .cases F
  .cases F
 case field s x i =>
  simp only[comp] at F;split at F
  .rename_i f hf;cases hl:vQ P f.type with
   |none=>rw[hl] at F;cases F
   | some p =>
    obtain⟨g,n⟩:=p;rw[hl] at F;simp only[CQ] at F;split at F
    .rename_i hs;obtain rfl:=d9 F;have hg:=aGg hl;exact bT G M (by simp only[execOp,I]) (aKQ G hf hs hg (λh=>aBe (h ▸ hl)) H)
    .cases F
  .cases F
 case indexAddr t x i =>
  simp only[comp] at F;split at F
  .rename_i e O;cases hk:kX P e with
   |none=>rw[hk] at F;cases F
   | some k =>
    rw[hk] at F;obtain rfl:=d9 F;exact bT G M (by simp only[execOp,I]) (aKP G O hk H)
  .rename_i n e O;cases hk:kX P e with
   |none=>rw[hk] at F;cases F
   | some k =>
    rw[hk] at F;obtain rfl:=d9 F;exact bT G M (by simp only[execOp,I]) (aJq G O hk H)
  .cases F
 case index t x i =>
  simp only[comp] at F;split at F
  .rename_i O;obtain rfl:=d9 F;exact bT G M (by simp only[execOp,I]) (aJp G O H)
  .rename_i n e O;cases hl:vQ P e with
   |none=>rw[hl] at F;cases F
   | some p =>
    obtain⟨g,k⟩:=p;rw[hl] at F;simp only[CQ] at F;split at F
    .rename_i hs;obtain rfl:=d9 F;have hg:=aGg hl;exact bT G M (by simp only[execOp,I]) (aJr G O hs hg (λh=>aBe (h ▸ hl)) H)
    .cases F
  .cases F
 case extract x i =>
  obtain rfl:=d9 F;exact bT G M (by simp only[execOp,I]) (aHj G H)
 case call c =>
  simp only[comp] at F;split at F
  .rename_i b U;have hb:=aFT (a:=a) I U;unfold uM at F;split at F
   .rename_i t x V Y;have e1:=aKb V;have e2:=aKb Y;split at F
    .rename_i e O;obtain rfl:=d9 F;exact bT G M (s:=Builtin.len_ #[t] o.type #[a.eval x]) (by rw[hb,e1,e2];simp only[builtin,CU,Bt,BI]) (aN8 G O H)
    .rename_i O;obtain rfl:=d9 F;exact bT G M (s:=Builtin.len_ #[t] o.type #[a.eval x]) (by rw[hb,e1,e2];simp only[builtin,CU,Bt,BI]) (aMB G O H)
    .rename_i n e O;obtain rfl:=d9 F;exact bT G M (s:=Builtin.len_ #[t] o.type #[a.eval x]) (by rw[hb,e1,e2];simp only[builtin,CU,Bt,BI]) (aMC _ O H)
    .cases F
   .rename_i t t2 A X V Y;have e1:=aFF V;have e2:=aFF Y;split at F
    .rename_i e qg O qd;split at F
     .rename_i i hi;split at F
      .rename_i z hz;split at F
       .rename_i qf;obtain rfl:=d9 F;simp only[bP] at H;split at H
        .rename_i d J;split at H
         .rename_i on l l' hq qb;obtain⟨⟨hf,h1,h2⟩,hK⟩:=H
          have hm:=aJa (P:=P) (ty:=o.type) G (K:=fun σ' x=>∃σl:St,σl.f=σ'∧K ⟨(d,x)::σl.s,σl.h⟩) O qd hi hz qf (A:=A) (X:=X) (d:=.t d 0) (λqh l2 he=>by
            simp only[St.f] at he;rw[hq] at he;simp only[Ab,AL] at he;obtain⟨rfl,rfl⟩:=he;have:=dS hf;rw[aGo] at this;exact this) (by
            simp only[wrA,St.f,hq,qb];refine⟨⟨h1,h2⟩,⟨(aS on σ).s,(.t d 0,.arr i.size (l++l') false)::(aS on σ).h⟩,?_,hK⟩;have hy:=aGo on σ;have k1:look (aS on σ).s=(aCl on ⟨look σ.s,aB σ.h⟩).s:=Cm FSt.s hy;have k2:aB (aS on σ).h=(aCl on ⟨look σ.s,aB σ.h⟩).h:=Cm FSt.h hy;simp only[FSt.mk.injEq];refine⟨k1,?_⟩
            funext m
            simp only[aB,hput,←k2])
          obtain⟨σ',x,v,w',ρ',κ',⟨σl,rfl,h4⟩,ha,Z,hx⟩:=hm;unfold Oper.wp
          have hr:(execOp a.eval o).run P w=.ok (.value v) w':=by
           rw[hb,e1,e2];simp only[builtin,CU,Bt,BI];exact aId ha
          rw[hr];simp only[Oper.upon,J];exact dV.put Z hx (d:=some d) (λd' h=>by rw[←Ay h];exact M d J) h4
         .exact H.elim
        .exact H.elim
       .cases F
      .cases F
     .cases F
    .cases F
   .rename_i t t2 x y V Y;have e1:=aFF V;have e2:=aFF Y;obtain rfl:=d9 F;exact bT G M (s:=Builtin.max_ #[t,t2] o.type #[a.eval x,a.eval y]) (by rw[hb,e1,e2];simp only[builtin,CU,Bt,BI]) (aNJ (mx:=true) (t:=#[t,t2]) (T:=o.type) G H)
   .rename_i t t2 x y V Y;have e1:=aFF V;have e2:=aFF Y;obtain rfl:=d9 F;exact bT G M (s:=Builtin.min_ #[t,t2] o.type #[a.eval x,a.eval y]) (by rw[hb,e1,e2];simp only[builtin,CU,Bt,BI]) (aNJ (mx:=false) (t:=#[t,t2]) (T:=o.type) G H)
   .rename_i t x V Y;have e1:=aKb V;have e2:=aKb Y;split at F
    .rename_i e O;split at F
     .rename_i i hi;split at F
      .rename_i z hz;obtain rfl:=d9 F
       have hm:=aNZ (P:=P) (ty:=o.type) G O hi hz (X:=x) (K:=λh'=>∃l,aB l=h'∧K ⟨Vs.put o.dst (.v (.tuple #[])) σ.s,l⟩) (by
         simp only[wrC,St.f];simp only[bP] at H;split at H
         . rename_i n off len hA
           rw[hA];split at H
           . rename_i k' l fz h5
             simp only[h5];exact⟨H.1,_,xL _ _ _,H.2⟩
           . exact H.elim
         . exact H.elim)
       obtain⟨h',w',⟨l,rfl,hK⟩,ha,Z⟩:=hm;unfold Oper.wp
       have hr:(execOp a.eval o).run P w=.ok (.value (.tuple #[])) w':=by
        rw[hb,e1,e2];simp only[builtin,CU,Bt,BI];exact aId ha
       rw[hr];exact dV.put (σ:=⟨σ.s,l⟩) Z (.clo (.v _)) M hK
      .cases F
     .cases F
    .cases F
   .cases F
  .rename_i f U;split at F
   .rename_i h9;split at F
    .rename_i x y qe;simp only[Ab] at F;rcases bare_eq F.symm with⟨f',args,bor,rfl,h⟩|⟨_,rfl⟩
     .cases h
     .exact w9 G M (aMD G I U (aFF qe) h9 H)
    .cases F
   .simp only[Ab] at F;rcases bare_eq F.symm with⟨f',args,bor,rfl,h⟩|⟨hn,h⟩
    .simp only[AOp.call.injEq] at h;obtain⟨rfl,rfl,_⟩:=h;exact aEm G M I U H
    .exact absurd h (hn _ _ _)
  .rename_i f _ U;simp only[Ab] at F;rcases bare_eq F.symm with⟨f',args,bor,rfl,h⟩|⟨hn,h⟩
   .simp only[AOp.call.injEq] at h;obtain⟨rfl,rfl,_⟩:=h;exact aEm G M I U H
   .exact absurd h (hn _ _ _)
  .cases F
 all_goals simp[comp] at F
theorem OK.close {σ:FSt} (F:OK C σ a w S ρ κ) {n:Name}{k d:Nat}{rows:List (List AV)}{z:Bool} (O:σ.h n=some (.arr k rows z)) (hd:σ.s d=.loc n 0 rows.length) :
  OK C ⟨upd σ.s (some d) (.sl k rows),λm=>if m=n then none else σ.h m⟩ a w (λb=>S b∨ρ n=some b) ρ κ:=by
 have M:∀b,S b->S b∨ρ n=some b:=λb h=>.inl h
 have hn:∀m,gW ρ ρ κ κ σ.h (λm=>if m=n then none else σ.h m) m:=by
  intro m I G;simp only at G;split at G
  .cases G
  .exact⟨rfl,rfl,I,G,I.same_refl⟩
 have H:∀m,((λm=>if m=n then none else σ.h m) m).isSome->m≠n∧(σ.h m).isSome:=by
  intro m J;simp only at J;split at J
  .cases J
  .exact⟨by assumption,J⟩
 have hv:=F.slots d;rw[hd] at hv
 have Z:=(aAr F.hok M (E:=[]) (ρ':=ρ) (κ':=κ) (h':=σ.h) (by simp) 8 true (.loc n 0 rows.length) (.sl k ((rows.drop 0).take rows.length)) [n] _ (by simp[conv,lK,O])
   (λm J y hy=>by rw[Av.1 J] at hy;exact .inr hy) hv).2.1 rfl
 rw[Ce,Bw] at Z
 refine ⟨F.nt,F.defers,λt=>?_,⟨λm I G=>?_,λm U y V h2 h3 h4=>F.hok.inj m U y (H m V).2 (H U h2).2 h3 h4,λb G=>?_,F.hok.env.mono M λ_ _=>rfl⟩,F.size,F.old,
   λm y V h2=>F.mine m y (H m V).2 h2,λb h=>.inl (F.S0 b h),λb h=>?_,F.out,λj I G=>?_⟩
 .simp only[upd];split
  .subst_vars;exact .clo Z
  .exact(F.slots t).mono M (λ_ _=>rfl) λm _=>hn m
 .simp only at G;split at G
  .cases G
  .rename_i Y;refine(F.hok.blk m I G).mono M (λx hx h=>?_) (λ_ _=>rfl) (λ_ _=>rfl) rfl rfl λU _=>hn U;rcases h with h|h
   .exact h
   .exact absurd (F.hok.inj m n x (by simp[G]) (by simp[O]) hx h) Y
 .rcases G with h|h
  .exact F.hok.dom b h
  .exact F.hok.lt (n:=n) (by simp[O]) h
 .rcases h with h|h
  .exact F.Snew b h
  .exact .inr (F.mine n b (by simp[O]) h)
 .simp only at G;split at G
  .cases G
  .exact F.keep j I G
theorem aDU {σ:St}{K:St->Prop}{n:Name}{k d:Nat}{rows:List (List AV)}{z:Bool}{s:List (Nat×AV)}{h:List (Name×Blk)} (J:σ=⟨(d,.loc n 0 rows.length)::s,(n,.arr k rows z)::h⟩) (I:aB h n=none)
  (H:K ⟨(d,.sl k rows)::s,h⟩) (F:OK C σ.f a w S ρ κ):dV C K a w:=by
 subst J;have:=F.close (n:=n) (k:=k) (d:=d) (rows:=rows) (z:=z) (by simp[St.f,aB]) (by simp[St.f,look]);refine⟨⟨(d,.sl k rows)::s,h⟩,λb=>S b∨ρ n=some b,ρ,κ,H,?_⟩
 have G:(⟨upd (St.f ⟨(d,.loc n 0 rows.length)::s,(n,.arr k rows z)::h⟩).s (some d) (.sl k rows),λm=>if m=n then none else(St.f ⟨(d,.loc n 0 rows.length)::s,(n,.arr k rows z)::h⟩).h m⟩:FSt)=(⟨(d,.sl k rows)::s,h⟩:St).f:=by
  simp only[St.f,FSt.mk.injEq];refine⟨funext λt=>?_,funext λm=>?_⟩
  .simp only[upd,look];split<;>rfl
  .simp only[aB];split
   .subst_vars;exact I.symm
   .rfl
 rw[G] at this;exact this
theorem zJ {n:Name}{σ:St} (h:dA n σ=true):aB σ.h n=none:=(dS h).1.1
theorem wZ {σ:St}{K:St->Prop}{o:Oper}{op:AOp}{Q:Exit->Act->World->Prop} (J:comp P o.op=some op.bare) (H:OK C σ.f a w S ρ κ) (V:∀d',o.dst=some d'->d'<C.nt)
  (G:bP P o.dst σ K op):o.wp P a w (dV C K) Q:=by
 by_cases O:∃k y A X,op=.appendC k y A X
 .obtain⟨k,y,A,X,rfl⟩:=O;cases hds:o.dst with
  |none=>rw[hds] at G;exact G.elim
  | some d =>
   simp only[bP,hds] at G;split at G
   .rename_i on l l' hA hX;obtain⟨⟨Y,ha⟩,U⟩:=G
    refine Oper.wp_mono (λa' w' ⟨σ',S',ρ',κ',hσ,hok'⟩=>?_) (qJ (P:=P) (op:=.append k y A X) (K:=fun σ'=>σ'=⟨(d,.loc (.t d 0) 0 (l.length+l'.length))::(aS on σ).s,(.t d 0,.arr k (l++l') false)::(aS on σ).h⟩) J H V (by
      simp only[bP,hds,hA,hX];exact⟨⟨Y,ha⟩,trivial⟩))
    exact aDU (by rw[hσ,AX]) (zJ Y) U hok'
   .exact G.elim
 .by_cases h2:∃k m z M,op=.bsliceC k m z M
  .obtain⟨k,m,z,M,rfl⟩:=h2;cases hds:o.dst with
   |none=>rw[hds] at G;exact G.elim
   | some d =>
    simp only[bP,hds] at G
    refine Oper.wp_mono (λa' w' ⟨σ',S',ρ',κ',⟨rows,hσ,Y,U⟩,hok'⟩=>?_) (qJ (P:=P) (op:=.bslice k m z M) (K:=fun σ'=>∃rows,σ'=⟨(d,.loc (.t d 0) 0 rows.length)::σ.s,(.t d 0,.arr k rows false)::σ.h⟩∧dA (.t d 0) σ=true∧K ⟨(d,.sl k rows)::σ.s,σ.h⟩) J H V (by
      simp only[bP,hds]
      have:∀{Z K2:AV->Blk->Prop}{op:AOp},(∀v b,Z v b->K2 v b)->al (evO (look σ.s)) (aB σ.h) (.t d 0) Z op->al (evO (look σ.s)) (aB σ.h) (.t d 0) K2 op:=by
        intro Z K2 op I F
        have lay:∀(M:List (Nat×Nat×Operand)) (cs:List AV) {L1 L2:List AV->Prop},(∀c,L1 c->L2 c)->layAll (evO (look σ.s)) (aB σ.h) cs M L1->layAll (evO (look σ.s)) (aB σ.h) cs M L2:=by
          intro M
          induction M with
          |nil=>intro cs L1 L2 hh F;exact hh _ F
          | cons p r ih =>
            intro cs L1 L2 hh F;obtain⟨o,n,x⟩:=p;simp only[layAll] at F⊢;split at F
            . exact⟨F.1,ih _ hh F.2⟩
            . exact F
        cases op<;>simp only[al] at F⊢<;> try exact F
        . split at F
          . exact I _ _ F
          . exact F
        . exact⟨F.1,I _ _ F.2⟩
        . exact⟨F.1,lay _ _ (λc J=>⟨J.1,I _ _ J.2⟩) F.2⟩
        . split at F
          . exact⟨F.1,I _ _ F.2⟩
          . exact F
      refine this (λv b hb=>?_) G;obtain⟨O,rows,rfl,rfl,U⟩:=hb;exact⟨O,rows,rfl,O.1,U⟩))
    exact aDU hσ (zJ Y) U hok'
  .by_cases h3:∃g k A,op=.loadV g k A
   .obtain⟨g,k,A,rfl⟩:=h3;exact qJ (op:=.load g k A) J H V (by simp only[bP] at G⊢;exact aKO G)
   .by_cases h4:∃f A,op=.fieldV f A
    .obtain⟨f,A,rfl⟩:=h4;exact qJ (op:=.fieldAddr f A) J H V (by simp only[bP] at G⊢;exact aJs G)
    .have e:op.bare=op.bare0:=by
      cases op<;>first
       |rfl
       |exact absurd ⟨_,_,_,_,rfl⟩ O
       |exact absurd ⟨_,_,_,_,rfl⟩ h2
       |exact absurd ⟨_,_,_,rfl⟩ h3
       |exact absurd ⟨_,_,rfl⟩ h4
     exact qJ (by rw[J,e]) H V G
def aFD (t:Nat) (σ:St) (N:St->Prop):Prop:=match look σ.s t with
 | .loc n lo m=>match aB σ.h n with
  |some (.arr k rows _)=>(lo=0∧m=rows.length)∧N ⟨(t,.sl k rows)::(iR n σ).s,(iR n σ).h⟩
  |_=>False
 |_=>N σ
theorem aGR {σ:St}{N:St->Prop}{t:Nat} (F:aFD t σ N) (G:OK C σ.f a w S ρ κ):dV C N a w:=by
 unfold aFD at F;split at F
 .rename_i n lo m U;split at F
  .rename_i k rows z O;obtain⟨⟨rfl,rfl⟩,M⟩:=F;have I:=(G.close (n:=n) (k:=k) (d:=t) (rows:=rows) (z:=z) O U).kill n;refine⟨_,λb=>S b∨ρ n=some b,ρ,κ,M,?_⟩
   have J:rM n ⟨upd σ.f.s (some t) (.sl k rows),λm=>if m=n then none else σ.f.h m⟩=(⟨(t,.sl k rows)::(iR n σ).s,(iR n σ).h⟩:St).f:=by
    simp only[rM,St.f,FSt.mk.injEq];refine⟨funext λu=>?_,funext λm=>?_⟩
    .simp only[upd,look];by_cases H:u=t
     .subst H;simp[scr,AV.has]
     .rw[AC H,AC H];exact(oK (scr n) (by simp[scr,AV.has]) _ u).symm
    .simp only[iR,uC];split<;>simp
   rw[J] at I;exact I
  .exact F.elim
 .exact⟨σ,S,ρ,κ,F,G⟩
/-! ## another name for a block -/
def nmF (n m:Name) (x:Name):Option Name:=if x=n then some m else if x=m then none else some x
theorem OK.rename {σ:FSt} (F:OK C σ a w S ρ κ) {n m:Name} (hf:n≠m) (hm:σ.h m=none) (hc:∀j,m≠.b j) :
  ∃ρ' κ',OK C ⟨λt=>rn (nmF n m) (σ.s t),λx=>if x=m then(σ.h n).map (rnB (nmF n m)) else if x=n then none else(σ.h x).map (rnB (nmF n m))⟩ a w S ρ' κ':=by
 let ρ':Name->Option Nat:=λx=>if x=m then ρ n else ρ x
 let κ':Name->Nat:=λx=>if x=m then κ n else κ x
 let h':Name->Option Blk:=λx=>if x=m then(σ.h n).map (rnB (nmF n m)) else if x=n then none else(σ.h x).map (rnB (nmF n m))
 have back:∀x M,h' x=some M->∃y b,σ.h y=some b∧M=rnB (nmF n m) b∧ρ' x=ρ y∧κ' x=κ y∧((x=m∧y=n)∨(x=y∧x≠m∧x≠n)):=by
  intro x M H;simp only[h'] at H;split at H
  .rename_i G;obtain⟨b,O,h2⟩:=Cr.1 H;exact⟨n,b,O,h2.symm,by simp[ρ',G],by simp[κ',G],.inl ⟨G,rfl⟩⟩
  .rename_i G;split at H
   .cases H
   .rename_i U;obtain⟨b,O,h2⟩:=Cr.1 H;exact⟨x,b,O,h2.symm,by simp[ρ',G],by simp[κ',G],.inr ⟨rfl,G,U⟩⟩
 have hφ:∀x y,nmF n m x=some y->ρ' y=ρ x∧κ' y=κ x∧∀M,h' y=some M->∃b,σ.h x=some b∧b.same M:=by
  intro x y J
  have hy:ρ' y=ρ x∧κ' y=κ x∧(h' y=(σ.h x).map (rnB (nmF n m))):=by
   simp only[nmF] at J;split at J
   .rename_i G;obtain rfl:=Ay J;exact⟨by simp[ρ',G],by simp[κ',G],by simp[h',G]⟩
   .rename_i G;split at J
    .cases J
    .rename_i U;obtain rfl:=Ay J;exact⟨by simp[ρ',U],by simp[κ',U],by simp[h',G,U]⟩
  refine⟨hy.1,hy.2.1,λM H=>?_⟩;rw[hy.2.2] at H;obtain⟨b,O,rfl⟩:=Cr.1 H;exact⟨b,O,aA4 _ _⟩
 have I:∀x,(h' x).isSome->∃y,(σ.h y).isSome∧ρ' x=ρ y∧((x=m∧y=n)∨(x=y∧x≠m∧x≠n)):=by
  intro x G;obtain⟨M,H⟩:=AA.1 G;obtain⟨y,b,O,_,h2,_,Y⟩:=back x M H;exact⟨y,by simp[O],h2,Y⟩
 refine⟨ρ',κ',F.nt,F.defers,λt=>(F.slots t).ren hφ,⟨λx M H=>?_,λx y z G hy hd he=>?_,F.hok.dom,F.hok.env⟩,F.size,F.old,λx z G hz=>?_,F.S0,F.Snew,F.out,λj b H=>?_⟩
 .obtain⟨y,b,O,rfl,h2,Y,_⟩:=back x M H;have ha:=F.hok.blk y b O;cases b with
  | var c z =>
   obtain⟨u,cs,T,fr,Z,g2,g3,g4,V,g5,g6,g7⟩:=ha;refine⟨u,cs,T,fr,by rw[h2];exact Z,g2,g3,g4,V,by rw[Y];exact g5,by rw[dH];exact g6,λj hj=>?_⟩;rw[dH] at hj;rw[oI _ _ _ hj];exact⟨(g7 j hj).1,(g7 j hj).2.ren hφ⟩
  | arr k l z =>
   obtain⟨g0,g⟩:=ha;refine⟨g0,?_⟩;rcases g with⟨Z,g2⟩|⟨u,cs,T,fr,Z,g2,g3,g4,V,g5,g6,g7⟩
   .exact .inl ⟨by rw[h2];exact Z,g2⟩
   .exact .inr ⟨u,cs,T,fr,by rw[h2];exact Z,g2,g3,g4,V,by rw[Y];exact g5,g6,g7⟩
 .obtain⟨x2,q1,q2,q3⟩:=I x G;obtain⟨y2,r1,r2,r3⟩:=I y hy;have e:=F.hok.inj x2 y2 z q1 r1 (by rw[←q2];exact hd) (by rw[←r2];exact he);rcases q3 with⟨rfl,rfl⟩|⟨rfl,q4,q5⟩<;>rcases r3 with⟨rfl,rfl⟩|⟨rfl,r4,r5⟩
  .rfl
  .exact absurd e.symm r5
  .exact absurd e q5
  .exact e
 .obtain⟨y,q1,q2,_⟩:=I x G;exact F.mine y z q1 (by rw[←q2];exact hz)
 .obtain⟨y,b0,O,rfl,h2,Y,h4⟩:=back _ b H;rcases h4 with⟨h4,_⟩|⟨rfl,_,_⟩
  .exact absurd h4.symm (hc j)
  .obtain⟨k1,k2,b1,k3,k4⟩:=F.keep j b0 O;refine⟨by rw[h2];exact k1,by rw[Y];exact k2,b1,k3,?_⟩;have:=aA4 (nmF n m) b0;revert k4 this;cases b1<;>cases b0<;>simp[Blk.same,rnB]<;>omega
def uS (n m:Name) (σ:St):St:=⟨σ.s.map λp=>(p.1,rn (nmF n m) p.2),σ.h.map λp=>(if p.1=n then m else p.1,rnB (nmF n m) p.2)⟩
theorem aBV {n m:Name}:∀(l:List (Name×Blk)) (x:Name),aB l m=none->aB (l.map λp=>(if p.1=n then m else p.1,rnB (nmF n m) p.2)) x =
  if x=m then(aB l n).map (rnB (nmF n m)) else if x=n then none else(aB l x).map (rnB (nmF n m))
 | [],x,_=>by simp[aB]
 | (i,b)::r,x,h=>by
  simp only[aB] at h;have hi:¬m=i:=λe=>by rw[AP e] at h;cases h
  rw[AC hi] at h;have H:=aBV (n:=n) r x h;simp only[Bt,aB];by_cases hin:i=n
  .subst hin;by_cases G:x=m
   .subst G;simp
   .by_cases F:x=i
    .subst F;rw[AP rfl,AC G,H,AC G];simp[G]
    .rw[AP rfl,AC G,H,AC G,AC F,AC G,AC F,AC F]
  .rw[AC hin];by_cases G:x=m
   .subst G;rw[AC hi,H,AP rfl,AP rfl,AC (λe=>hin e.symm)]
   .by_cases F:x=i
    .subst F;rw[AP rfl,AC G,AC hin,AP rfl];rfl
    .rw[AC F,H,AC G,AC G,AC F]
def aIu (t:Nat) (σ:St) (N:St->Prop):Prop:=match look σ.s t with
 | .loc n _ _=>if n=.t t 0 then N σ else match aB σ.h (.t t 0) with
  |none=>dA (.t t 0) σ=true∧N (uS n (.t t 0) σ)
  |some _=>dA (.t t 0) (iR (.t t 0) σ)=true∧N (uS n (.t t 0) (iR (.t t 0) σ))
 |_=>N σ
theorem aEv {σ:St}{N:St->Prop}{t:Nat}{n:Name} (M:n≠.t t 0) (J:dA (.t t 0) σ=true) (I:N (uS n (.t t 0) σ)) (G:OK C σ.f a w S ρ κ):dV C N a w:=by
 have F:=dS J;obtain⟨ρ',κ',H⟩:=G.rename (n:=n) (m:=.t t 0) M F.1.1 (λj=>by simp);refine⟨_,S,ρ',κ',I,?_⟩
 have e:(⟨λu=>rn (nmF n (.t t 0)) (σ.f.s u),λx=>if x=.t t 0 then(σ.f.h n).map (rnB (nmF n (.t t 0))) else if x=n then none else(σ.f.h x).map (rnB (nmF n (.t t 0)))⟩:FSt)=(uS n (.t t 0) σ).f:=by
  simp only[St.f,uS,FSt.mk.injEq];refine⟨funext λu=>(oK _ (by simp[rn]) _ u).symm,funext λx=>(aBV _ x F.1.1).symm⟩
 rw[e] at H;exact H
theorem aHp {σ:St}{N:St->Prop}{t:Nat} (F:aIu t σ N) (G:OK C σ.f a w S ρ κ):dV C N a w:=by
 unfold aIu at F;split at F
 .rename_i n lo m J;split at F
  .exact⟨σ,S,ρ,κ,F,G⟩
  .rename_i I;split at F
   .exact aEv I F.1 F.2 G
   .have H:=G.kill (.t t 0);rw[←aAi] at H;exact aEv I F.1 F.2 H
 .exact⟨σ,S,ρ,κ,F,G⟩
end
end Go.Vs
