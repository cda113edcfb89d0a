/- Every operation; a region that keeps its order. -/
import Derived.Test.YtmiiohemehacjaaGreatDoorVsI
import Derived.Laws.StructEq
import Derived.Laws.BytesString
import Derived.Laws.StandIn
set_option linter.all false
set_option maxHeartbeats 8000000
namespace Go.Vs
section
variable [Envs]
variable {P:Program}{C:Ctx}{σ:FSt}{a:Act}{w:World}{S:Nat->Prop}{ρ:Name->Option Nat}{κ:Name->Nat}{h:Name->Option Blk}
def kJ:List Name->Name->Option Nat
 | [],_=>none
 |m::r,n=>if m=n then some 0 else(kJ r n).map (· + 1)
theorem oV:∀{E:List Name}{n:Name}{j:Nat},kJ E n=some j->E[j]? = some n
 | [],_,_,h=>by simp[kJ] at h
 | m::r,n,j,h=>by
  simp only[kJ] at h;split at h
  .grind
  .cases hr:kJ r n with
   |none=>rw[hr] at h;simp at h
   | some i =>
    rw[hr] at h;simp only[Ba,Aj] at h;subst h;simpa using oV hr
theorem zL:∀{E:List Name}{n:Name},kJ E n=none->n∉E
 | [],_,_=>by simp
 | m::r,n,h=>by
  simp only[kJ] at h;split at h
  .cases h
  .rename_i u;have:kJ r n=none:=by simpa using h
   simp only[Ay,not_or];exact⟨λe=>u e.symm,zL this⟩
def dF (f:AV->Option (AV×List Name)):List AV->Option (List AV×List Name)
 | []=>some ([],[])
 | x::r=>match f x,dF f r with
  |some (y,L),some (ys,L')=>some (y::ys,L++L')
  |_,_=>none
theorem gX {f:AV->Option (AV×List Name)}:∀{c u:List AV}{L:List Name},dF f c=some (u,L)->u.length=c.length∧
  ∀j,j<c.length->∃F,f (c.getD j .junk)=some (u.getD j .junk,F)∧∀n,n∈F->n∈L
 | [],u,L,h=>by
  grind [dF]
 | x::r,u,L,h=>by
  simp only[dF] at h;split at h
  .rename_i y L1 ys L2 G h2;simp only[Aj,AZ] at h;obtain⟨rfl,rfl⟩:=h;obtain⟨H,J⟩:=gX h2;refine⟨by simp[H],λj M=>?_⟩;cases j with
   |zero=>exact⟨L1,by simpa using G,λn I=>BV _ I⟩
   | succ j =>
    grind
  .cases h
theorem aAY {f:AV->Option (AV×List Name)}:∀{cs u:List AV}{L:List Name},dF f cs=some (u,L)->∀n,n∈L->∃j,j<cs.length∧∃F,f (cs.getD j .junk)=some (u.getD j .junk,F)∧n∈F
 | [],u,L,hm,n,hn=>by simp only[dF,Aj,AZ] at hm;obtain⟨_,rfl⟩:=hm;simp at hn
 | x::r,u,L,hm,n,hn=>by
  simp only[dF] at hm;split at hm
  .rename_i y L1 ys L2 G h2;simp only[Aj,AZ] at hm;obtain⟨rfl,rfl⟩:=hm;rcases Be.1 hn with hn|hn
   .exact⟨0,by simp,L1,by simpa using G,hn⟩
   .obtain⟨j,I,F,g,H⟩:=aAY h2 n hn;exact⟨j+1,by simpa using I,F,by simpa using g,H⟩
  .cases hm
def conv (h:Name->Option Blk):Nat->List Name->Bool->AV->Option (AV×List Name)
 |0,_,_,_=>none
 |_+1,_,c,.junk=>if c then none else some (.junk,[])
 | _+1,E,c,.loc n off len=>match kJ E n with
  |some j=>if c then none else some (.loc (.b j) off len,[])
  | none=>match h n with
   |some (.arr k l _)=>some (.sl k ((l.drop off).take len),[n])
   |_=>none
 | m+1,E,c,.ptr n e o=>match kJ E n with
  |some j=>if c then none else some (.ptr (.b j) e o,[])
  | none=>match h n with
   |some (.arr _ l _)=>some (.ro ((l.getD e []).drop o),[n])
   |some (.var cs _)=>(dF (conv h m E true) cs).map λp=>(.ro (p.1.drop o),n::p.2)
   |none=>none
 |m+1,E,c,.fn f cs=>(dF (conv h m E c) cs).map λp=>(.fn f p.1,p.2)
 |m+1,E,c,.agg cs=>(dF (conv h m E c) cs).map λp=>(.agg p.1,p.2)
 |m+1,E,c,.tup cs=>(dF (conv h m E c) cs).map λp=>(.tup p.1,p.2)
 |_+1,_,_,.v x=>some (.v x,[])
 |_+1,_,_,.sl k l=>some (.sl k l,[])
 |_+1,_,_,.ro c=>some (.ro c,[])
theorem aF6 (S:Nat->Prop) {S':Nat->Prop} (u:∀b,S b->S' b) {x:AV}{v:Value} (h:RC S w x v):RC S' w x v:=h.mono u λ_ _=>rfl
theorem vL (ha:HOK S w ρ κ h) {S':Nat->Prop} (hS:∀b,S b->S' b) {E:List Name}{ρ':Name->Option Nat}{κ':Name->Nat}{h':Name->Option Blk}
  (hE:∀j n,E[j]? = some n->ρ' (.b j)=ρ n∧κ' (.b j)=κ n∧∀b',h' (.b j)=some b'->∃b,h n=some b∧b.same b') :
  ∀ (m:Nat) (c:Bool) (x x':AV) (L:List Name) (v:Value),conv h m E c x=some (x',L)->(∀n,n∈L->∀y,ρ n=some y->S' y)->RV S w ρ κ h x v->
   (c=false->RV S' w ρ' κ' h' x' v)∧(c=true->RC S' w x' v)∧∀n,n∈L->n∉E∧(h n).isSome:=by
 intro m
 induction m with
 |zero=>intro c x x' L v F;simp[conv] at F
 | succ m ih =>
  intro c x x' L v F hL hx
  have O:∀(cs G:List AV) (L:List Name) (vs:Array Value),dF (conv h m E c) cs=some (G,L)->(∀n,n∈L->∀y,ρ n=some y->S' y)->(∀j,j<cs.length->RV S w ρ κ h (cs.getD j .junk) (vs.getD j undef))->
    G.length=cs.length∧(c=false->∀j,j<G.length->RV S' w ρ' κ' h' (G.getD j .junk) (vs.getD j undef))∧(c=true->∀j,j<G.length->RC S' w (G.getD j .junk) (vs.getD j undef))∧∀n,n∈L->n∉E∧(h n).isSome:=by
   intro cs
   induction cs with
   | nil =>
    grind [dF]
   | cons x r ihr =>
    intro G L vs H hL V;simp only[dF] at H;split at H
    .rename_i y L1 ys L2 h1 h2;simp only[Aj,AZ] at H;obtain⟨rfl,rfl⟩:=H;have g1:=ih c x y L1 (vs.getD 0 undef) h1 (λn Z=>hL n (BV _ Z)) (by simpa using V 0 (by simp))
     have Y:=ihr ys L2 (vs.extract 1 vs.size) h2 (λn Z=>hL n (Df _ Z)) (λj I=>by
       have:=V (j+1) (by simpa using I)
       have e:(vs.extract 1 vs.size).getD j undef=vs.getD (j+1) undef:=by
         simp[Array.getElem?_extract,Nat.add_comm 1 j]
         all_goals grind
       rw[e];simpa using this)
     have e:∀j,(vs.extract 1 vs.size).getD j undef=vs.getD (j+1) undef:=by
      intro j;simp[Array.getElem?_extract,Nat.add_comm 1 j];split
      .rfl
      .simp[Array.getElem?_eq_none (show vs.size<=j+1 by omega)]
     refine⟨by simp[Y.1],λF j I=>?_,λF j I=>?_,λn Z=>?_⟩
     .cases j with
      |zero=>simpa using g1.1 F
      |succ j=>have:=Y.2.1 F j (by simpa using I);rw[e] at this;simpa using this
     .cases j with
      |zero=>simpa using g1.2.1 F
      |succ j=>have:=Y.2.2.1 F j (by simpa using I);rw[e] at this;simpa using this
     all_goals grind
    .cases H
  have J:∀x':AV,RC S' w x' v->(c=false->RV S' w ρ' κ' h' x' v)∧(c=true->RC S' w x' v):=λx' V=>⟨λ_=>.clo V,λ_=>V⟩;cases x with
  | v y =>
   simp only[conv,Aj,AZ] at F;obtain⟨rfl,rfl⟩:=F;obtain rfl:=dD hx;exact⟨(J _ (.v _)).1,(J _ (.v _)).2,by simp⟩
  | sl k l =>
   grind [conv,aF6,RV]
  | ro l =>
   grind [conv,aF6,RV]
  | junk =>
   simp only[conv] at F
   all_goals grind [RV]
  | fn f cs =>
   simp only[conv] at F;cases H:dF (conv h m E c) cs with
   |none=>rw[H] at F;cases F
   | some p =>
    obtain⟨G,L'⟩:=p;rw[H] at F;simp only[Ba,Aj,AZ] at F;obtain⟨rfl,rfl⟩:=F;obtain⟨vs,rfl,hl,V⟩:=aDi hx;obtain⟨g1,Y,g3,g4⟩:=O cs G L' vs H hL V;exact⟨λF=>.fn _ _ _ (by omega) (Y F),λF=>.fn _ _ _ (by omega) (g3 F),g4⟩
  | agg cs =>
   simp only[conv] at F;cases H:dF (conv h m E c) cs with
   |none=>rw[H] at F;cases F
   | some p =>
    obtain⟨G,L'⟩:=p;rw[H] at F;simp only[Ba,Aj,AZ] at F;obtain⟨rfl,rfl⟩:=F;obtain⟨vs,rfl,hl,V⟩:=qN hx;obtain⟨g1,Y,g3,g4⟩:=O cs G L' vs H hL V;exact⟨λF=>.agg _ _ (by omega) (Y F),λF=>.agg _ _ (by omega) (g3 F),g4⟩
  | tup cs =>
   simp only[conv] at F;cases H:dF (conv h m E c) cs with
   |none=>rw[H] at F;cases F
   | some p =>
    obtain⟨G,L'⟩:=p;rw[H] at F;simp only[Ba,Aj,AZ] at F;obtain⟨rfl,rfl⟩:=F;obtain⟨vs,rfl,hl,V⟩:=aA3 hx;obtain⟨g1,Y,g3,g4⟩:=O cs G L' vs H hL V;exact⟨λF=>.tup _ _ (by omega) (Y F),λF=>.tup _ _ (by omega) (g3 F),g4⟩
  | loc n off len =>
   simp only[conv] at F;split at F
   .rename_i j I;split at F
    .cases F
    .rename_i hp;simp only[Aj,AZ] at F;obtain⟨rfl,rfl⟩:=F;refine⟨λ_=>.loc _ _ _ _ λk l z M=>?_,λh=>absurd h hp,by simp⟩;obtain⟨e1,e2,e3⟩:=hE j n (oV I);obtain⟨b,hf,hs⟩:=e3 _ M;cases b with
     |var=>simp[Blk.same] at hs
     | arr k' l' z' =>
      simp only[Blk.same] at hs;obtain⟨rfl,qf⟩:=hs;have:=iE hx _ _ _ hf;rw[e1,e2,←qf];exact this
   .rename_i I;split at F
    .rename_i k l z M;simp only[Aj,AZ] at F;obtain⟨rfl,rfl⟩:=F;have qh:pJ k h (.loc n off len)=some ((l.drop off).take len):=by simp[pJ,M]
     obtain⟨hd,cap,rfl,hk,b,o,qo,qc⟩:=aHm ha hx qh;obtain⟨qq,qa,qj,h9,qp,hw,qd,_⟩:=iE hx _ _ _ M;simp only[Value.slice.injEq] at h9;obtain⟨rfl,qk,rfl⟩:=h9
     have:RC S' w (.sl k ((l.drop off).take len)) (.slice hd ((l.drop off).take len).length cap):=by
      refine .sl k _ hd cap b o (λm=>(w.cell? ⟨b,o+m,none⟩).getD undef) (λqr=>?_) (λi j hi I=>?_) (λi j hi I=>?_) (λi j hi I=>?_) hk ⟨by omega,hw⟩
      .grind [Nat.eq_zero_or_pos]
      all_goals
       obtain⟨u,hu,ho,V⟩:=qc i j hi I;simp only[hu,BS]
      .exact ho
      .exact V.mono hS λ_ _=>rfl
     all_goals grind [zL]
    .cases F
  | ptr n e o =>
   simp only[conv] at F;split at F
   .rename_i j I;split at F
    .cases F
    .rename_i hp;simp only[Aj,AZ] at F;obtain⟨rfl,rfl⟩:=F;refine⟨λ_=>.ptr _ _ _ _ λb' M=>?_,λh=>absurd h hp,by simp⟩;obtain⟨e1,e2,e3⟩:=hE j n (oV I);obtain⟨b,hf,hs⟩:=e3 _ M;obtain⟨y,hy,hv⟩:=eG hx _ hf
     all_goals grind [Blk.same_k]
   .rename_i I;split at F
    .rename_i k l z M;simp only[Aj,AZ] at F;obtain⟨rfl,rfl⟩:=F;obtain⟨y,hy,rfl⟩:=eG hx _ M;have U:=λj (I:j<((Blk.arr k l z).row e).length)=>ha.cells M hy (e:=e) (j:=j) I;simp only[Blk.row,Blk.k] at U
     have:RC S' w (.ro ((l.getD e []).drop o)) (.pointer (some ⟨y,e*k+o,none⟩)):=by
      refine .ro _ y _ (λm=>(w.cell? ⟨y,e*k+o+m,none⟩).getD undef) (hL n (by simp) _ hy) (λj I=>?_) (λj I=>?_) λj I=>?_
      all_goals
       simp only[Cf] at I;obtain⟨u,hu,ho,V⟩:=U (o+j) (by omega);rw[←Cy] at hu;simp only[hu,BS]
      .exact ho
      .have e1:((l.getD e []).drop o).getD j .junk=(l.getD e []).getD (o+j) .junk:=by simp[List.getD]
       rw[e1];obtain⟨h0,⟨h1,h2⟩|⟨y',cs,T,fr,h1,h2,h3,h4,_,h5,h6,h7⟩⟩:=ha.blk n _ M
       .rw[h1] at hy;cases hy
       .have he:e<l.length:=by
         grind
        have qe:o+j<k:=by rw[←h0 e he];omega
        have qi:=(h7 e (o+j) he qe).2;obtain rfl:=Av (hy.symm.trans h1)
        have qg:e*k+(o+j)<cs.size:=by
         have:(e+1)*k<=l.length*k:=BA _ he;rw[Ck] at this;omega
        have h8:=cell_of_row h2 qg;rw[←Cy,hu] at h8;rw[Av h8,Cy];exact qi.mono hS λ_ _=>rfl
     exact ⟨(J _ this).1,(J _ this).2,λm H=>by
       simp only[Ar] at H;subst H;exact⟨zL I,by simp[M]⟩⟩
    .rename_i cs z M;cases H:dF (conv h m E true) cs with
     |none=>rw[H] at F;cases F
     | some p =>
      obtain⟨G,L'⟩:=p;rw[H] at F;simp only[Ba,Aj,AZ] at F;obtain⟨rfl,rfl⟩:=F;obtain⟨y,hy,rfl⟩:=eG hx _ M;obtain⟨y',ht,T,fr,h1,h2,h3,h4,_,h5,h6,h7⟩:=ha.blk n _ M;obtain rfl:=Av (hy.symm.trans h1);obtain⟨g1,Y⟩:=gX H
      have qs:∀j,j<cs.length->RC S' w (G.getD j .junk) (ht.getD j undef):=λj I=>by
       obtain⟨Lj,g3,g4⟩:=Y j I
       all_goals grind
      have:RC S' w (.ro (G.drop o)) (.pointer (some ⟨y,e*(Blk.var cs z).k+o,none⟩)):=by
       simp only[Blk.k,Nat.mul_zero,BF];refine .ro _ y _ (λm=>ht.getD (o+m) undef) (hL n (by simp) _ hy) (λj I=>?_) (λj I=>?_) λj I=>?_
       all_goals grind [cell_of_row]
      refine⟨(J _ this).1,(J _ this).2,λm' hq=>?_⟩;rcases Ay.1 hq with rfl|hq
      .exact⟨zL I,by simp[M]⟩
      .-- it comes out of one of the cells
       have:∀(cs G:List AV) (L:List Name),dF (conv h m E true) cs=some (G,L)->∀n,n∈L->∃j,j<cs.length∧∃Lj,conv h m E true (cs.getD j .junk)=some (G.getD j .junk,Lj)∧n∈Lj:=by
        intro cs
        induction cs with
        |nil=>intro G L H n Z;simp only[dF,Aj,AZ] at H;obtain⟨_,rfl⟩:=H;simp at Z
        | cons x r ihr =>
         intro G L H n Z;simp only[dF] at H;split at H
         .rename_i y L1 ys L2 h1 h2;simp only[Aj,AZ] at H;obtain⟨rfl,rfl⟩:=H;rcases Be.1 Z with Z|Z
          .exact⟨0,by simp,L1,by simpa using h1,Z⟩
          .obtain⟨j,I,Lj,g,hg⟩:=ihr _ _ h2 n Z;exact⟨j+1,by simpa using I,Lj,by simpa using g,hg⟩
         .cases H
       obtain⟨j,hz,Lj,g3,hg⟩:=this _ _ _ H _ hq
       have qb:∀n,n∈Lj->∀y,ρ n=some y->S' y:=by
        obtain⟨ql,qm,qn⟩:=Y j hz
        all_goals grind
       exact(ih true _ _ _ _ g3 qb (h7 j hz).2).2.2 _ hg
    .cases F
/-! ## renaming -/
mutual
def rn (φ:Name->Option Name):AV->AV
 |.loc n off len=>match φ n with|some m=>.loc m off len|none=>.junk
 |.ptr n e o=>match φ n with|some m=>.ptr m e o|none=>.junk
 |.fn f c=>.fn f (rnL φ c)
 |.agg c=>.agg (rnL φ c)
 |.tup c=>.tup (rnL φ c)
 |x=>x
def rnL (φ:Name->Option Name):List AV->List AV
 | []=>[]
 |x::r=>rn φ x::rnL φ r
end
theorem dI (φ:Name->Option Name):∀c:List AV,(rnL φ c).length=c.length
 | []=>rfl
 |x::r=>by simp[rnL,dI φ r]
theorem nK (φ:Name->Option Name):∀(c:List AV) (j:Nat),j<c.length->(rnL φ c).getD j .junk=rn φ (c.getD j .junk)
 | [],j,h=>by simp at h
 |x::r,0,_=>by simp[rnL]
 |x::r,j+1,h=>by simpa[rnL] using nK φ r j (by simpa using h)
def rnB (φ:Name->Option Name):Blk->Blk
 |.var c z=>.var (rnL φ c) z
 |b=>b
theorem aAP (φ:Name->Option Name) (b:Blk):b.same (rnB φ b):=by
 cases b<;>simp[rnB,Blk.same,dI]
theorem aMC {S:Nat->Prop}{w:World} (φ:Name->Option Name) {x:AV}{v:Value} (h:RC S w x v):RC S w (rn φ x) v:=by
 induction h with
 |v x=>simpa[rn] using .v x
 |sl k l base cap x off xs hb hc ho hr hk hcap ih=>simpa[rn] using .sl k l base cap x off xs hb hc ho hr hk hcap
 |ro c x off xs hS hc ho hr ih=>simpa[rn] using .ro c x off xs hS hc ho hr
 | fn f c vs hl hr ih =>
  simp only[rn];refine .fn _ _ _ (by rw[dI];exact hl) λj u=>?_
  all_goals grind [dI,nK]
 | agg c vs hl hr ih =>
  simp only[rn];refine .agg _ _ (by rw[dI];exact hl) λj u=>?_
  all_goals grind [dI,nK]
 | tup c vs hl hr ih =>
  simp only[rn];refine .tup _ _ (by rw[dI];exact hl) λj u=>?_
  all_goals grind [dI,nK]
theorem RV.ren {S:Nat->Prop}{w:World}{ρ ρ':Name->Option Nat}{κ κ':Name->Nat}{h h':Name->Option Blk}{φ:Name->Option Name}
  (Y:∀n m,φ n=some m->ρ' m=ρ n∧κ' m=κ n∧∀H,h' m=some H->∃b,h n=some b∧b.same H) {x:AV}{v:Value} (O:RV S w ρ κ h x v):RV S w ρ' κ' h' (rn φ x) v:=by
 induction O with
 |junk v=>simpa[rn] using .junk v
 |clo O=>exact .clo (aMC φ O)
 | loc n off len v G =>
  simp only[rn];split
  .rename_i m M;obtain⟨U,V,I⟩:=Y n m M;refine .loc _ _ _ _ λk l z J=>?_;obtain⟨b,u,F⟩:=I _ J;cases b with
   |var=>simp[Blk.same] at F
   | arr k' l' z' =>
    simp only[Blk.same] at F;obtain⟨rfl,L⟩:=F;have:=G _ _ _ u;rw[U,V,←L];exact this
  .exact .junk _
 | ptr n e c v G =>
  simp only[rn];split
  .rename_i m M;obtain⟨U,V,I⟩:=Y n m M;refine .ptr _ _ _ _ λH J=>?_;obtain⟨b,u,F⟩:=I _ J;obtain⟨y,Z,G⟩:=G _ u
   all_goals grind [Blk.same_k]
  .exact .junk _
 | fn f c vs hl hr ih =>
  grind [rn,dI,nK,RV]
 | agg c vs hl hr ih =>
  grind [rn,dI,nK,RV]
 | tup c vs hl hr ih =>
  grind [rn,dI,nK,RV]
/-! ## values that hold no memory that stays -/
mutual
def flat:AV->Bool
 |.sl _ _=>false
 |.ro _=>false
 |.fn _ c=>nV c
 |.agg c=>nV c
 |.tup c=>nV c
 |_=>true
def nV:List AV->Bool
 | []=>true
 |x::r=>flat x&&nV r
end
theorem fJ:∀{c:List AV}{j:Nat},nV c=true->flat (c.getD j .junk)=true
 | [],j,_=>by simp[flat]
 |x::r,0,h=>by simp[nV] at h;simpa using h.1
 |x::r,j+1,h=>by simp[nV] at h;simpa using fJ (c:=r) (j:=j) h.2
theorem RC.flat {S S':Nat->Prop}{w:World}{x:AV}{v:Value} (h:RC S w x v) (u:flat x=true):RC S' w x v:=by
 induction h with
 |v x=>exact .v x
 |sl=>simp[Vs.flat] at u
 |ro=>simp[Vs.flat] at u
 |fn f c vs hl hr ih=>simp only[Vs.flat] at u;exact .fn _ _ _ hl λj F=>ih j F (fJ u)
 |agg c vs hl hr ih=>simp only[Vs.flat] at u;exact .agg _ _ hl λj F=>ih j F (fJ u)
 |tup c vs hl hr ih=>simp only[Vs.flat] at u;exact .tup _ _ hl λj F=>ih j F (fJ u)
theorem RV.flat {S S':Nat->Prop}{w:World}{ρ:Name->Option Nat}{κ:Name->Nat}{h:Name->Option Blk}{x:AV}{v:Value} (G:RV S w ρ κ h x v) (u:flat x=true):RV S' w ρ κ h x v:=by
 induction G with
 |junk v=>exact .junk v
 |clo G=>exact .clo (G.flat u)
 |loc n off len v hv=>exact .loc _ _ _ _ hv
 |ptr n e c v hv=>exact .ptr _ _ _ _ hv
 |fn f c vs hl hr ih=>simp only[Vs.flat] at u;exact .fn _ _ _ hl λj F=>ih j F (fJ u)
 |agg c vs hl hr ih=>simp only[Vs.flat] at u;exact .agg _ _ hl λj F=>ih j F (fJ u)
 |tup c vs hl hr ih=>simp only[Vs.flat] at u;exact .tup _ _ hl λj F=>ih j F (fJ u)
def aAg:Blk->Prop
 |.var c _=>nV c=true
 |.arr _ l _=>∀r,r∈l->nV r=true
/-! ## contracts -/
def Hn (l:List (Option Blk)):Name->Option Blk
 |.b j=>l.getD j none
 |.t _ _=>none
def sO (ρ:Name->Option Nat) (hin:List Blk) (x:Nat):Prop:=∃j,j<hin.length∧ρ (.b j)=some x
structure Post (S:Nat->Prop) (w:World) (ρ:Name->Option Nat) (κ:Name->Nat) (hin:List Blk) (S':Nat->Prop) (w':World) (ρ':Name->Option Nat) (κ':Name->Nat) (hout:List (Option Blk)):Prop where
 hok:HOK S' w' ρ' κ' (Hn hout)
 size:w.heap.size<=w'.heap.size
 old:∀b,b<w.heap.size->¬sO ρ hin b->w'.heap[b]? = w.heap[b]?
 sub:∀b,S b->S' b
 new:∀b,S' b->S b∨w.heap.size<=b∨sO ρ hin b
 mine:∀j x,(hout.getD j none).isSome->ρ' (.b j)=some x->w.heap.size<=x∨sO ρ hin x
 out:w'.os=w.os∧w'.output=w.output
 keep:∀j b',j<hin.length->hout.getD j none=some b'->ρ' (.b j)=ρ (.b j)∧κ' (.b j)=κ (.b j)∧∃b,hin[j]? = some b∧b.same b'
def wP (P:Program) (f:FuncId):Prop:=∃fn b,P.funcs[f]? = some fn∧fn.body=some b∧fn.name≠"runtime.NumGoroutine"
def Fn (P:Program) (f:FuncId) (hin:List Blk) (args:List AV) (r:AV) (hout:List (Option Blk)):Prop:=
 wP P f∧∀(S:Nat->Prop) (w:World) (ρ:Name->Option Nat) (κ:Name->Nat) (vs:Array Value),HOK S w ρ κ (Hn (hin.map some))->(∀b,b∈hin->b.fz=false)->vs.size=args.length->
  (∀j,j<args.length->RV S w ρ κ (Hn (hin.map some)) (args.getD j .junk) (vs.getD j undef))->
  Calls P f vs w λe w'=>∃v S' ρ' κ',e=.returned v∧Post S w ρ κ hin S' w' ρ' κ' hout∧RV S' w' ρ' κ' (Hn hout) r v
end
section
variable [Envs]
variable {P:Program}{C:Ctx}{σ:FSt}{a:Act}{w:World}{S:Nat->Prop}{ρ:Name->Option Nat}{κ:Name->Nat}{h:Name->Option Blk}
def fU (h:Name->Option Blk) (E:List Name):Blk->Option (Blk×List Name)
 |.var c z=>(dF (conv h 8 E false) c).map λp=>(.var p.1 z,p.2)
 |.arr k l z=>some (.arr k l z,[])
def vO (h:Name->Option Blk) (E:List Name):List Name->Option (List Blk×List Name)
 | []=>some ([],[])
 | n::r=>match(h n).bind (fU h E),vO h E r with
  |some (b,L),some (bs,L')=>if b.fz then none else some (b::bs,L++L')
  |_,_=>none
theorem wN (h:Name->Option Blk) (E:List Name):∀{B:List Name}{bs:List Blk}{L:List Name},vO h E B=some (bs,L)->bs.length=B.length∧
  (∀(j:Nat) (n:Name),B[j]? = some n->∃b G u,h n=some b∧fU h E b=some (G,u)∧bs[j]? = some G∧G.fz=false∧∀m,m∈u->m∈L)∧
  ∀m,m∈L->∃(n:Name) (b G:Blk) (u:List Name),n∈B∧h n=some b∧fU h E b=some (G,u)∧m∈u
 | [],bs,L,hb=>by
  grind [vO]
 | n::r,bs,L,hb=>by
  simp only[vO] at hb;split at hb
  .rename_i G L1 Z L2 H h2;split at hb
   .cases hb
   .rename_i hz;simp only[Aj,AZ] at hb;obtain⟨rfl,rfl⟩:=hb;obtain⟨h3,h4,h5⟩:=wN h E h2;cases hn:h n with
    |none=>rw[hn] at H;cases H
    | some b =>
     rw[hn] at H;refine⟨by simp[h3],λj m V=>?_,λm F=>?_⟩
     .cases j with
      | zero =>
       simp only[A7,Aj] at V;subst V;exact⟨b,G,L1,hn,H,by simp,by simpa using hz,λm F=>BV _ F⟩
      | succ j =>
       obtain⟨b,I,u,J,M,O,U,g5⟩:=h4 j m (by simpa using V);exact⟨b,I,u,J,M,by simpa using O,U,λm F=>Df _ (g5 m F)⟩
     .rcases Be.1 F with F|F
      .exact⟨n,b,G,L1,by simp,hn,H,F⟩
      .obtain⟨n',Y,I,u,J,M,O,U⟩:=h5 m F;exact⟨n',Y,I,u,Dh _ J,M,O,U⟩
  .cases hb
def phi (B:List Name) (d n:Nat):Name->Option Name
 |.b j=>if j<B.length then B[j]? else if j<n then some (.t d j) else none
 |.t _ _=>none
def frz:Blk->Blk
 |.var c _=>.var c true
 |.arr k l _=>.arr k l true
theorem aKl (b:Blk):b.same (frz b):=by cases b<;>simp[frz,Blk.same]
def aft (h:Name->Option Blk) (B:List Name) (d:Nat) (hout:List (Option Blk)) (fz:Bool) (L:List Name) (m:Name):Option Blk:=
 match kJ B m with
 |some j=>(hout.getD j none).map (rnB (phi B d hout.length))
 | none=>match m with
  |.t d' j=>if d'=d∧B.length<=j∧j<hout.length then(hout.getD j none).map (rnB (phi B d hout.length)) else if fz=true∧m∈L then(h m).map frz else h m
  |.b _=>if fz=true∧m∈L then(h m).map frz else h m
theorem pU:∀{B:List Name}{j:Nat}{n:Name},B.Nodup->B[j]? = some n->kJ B n=some j
 | [],j,n,_,h=>by simp at h
 |m::r,0,n,_,h=>by simp only[A7,Aj] at h;simp[kJ,h]
 | m::r,j+1,n,hnd,h=>by
  simp only[Bi] at h
  have u:¬m=n:=by
   grind
  simp[kJ,u,pU (DI.1 hnd).2 h]
def aKM (P:Program) (σ:FSt) (d:Nat) (fv:AV) (xs:List AV) (B:List Name) (K:FSt->AV->Prop):Prop:=
 match fv with
 | .fn f caps=>match dF (conv σ.h 8 B false) (xs++caps),vO σ.h B B with
  | some (ys,L1),some (hin,L2)=>∃r hout fz,Fn P f hin ys r hout∧(fz=false->(L1++L2=[]∨(flat r=true∧∀b,some b∈hout->aAg b)))∧
    (∀j,B.length<=j->j<hout.length->gW (.t d j) σ)∧K ⟨σ.s,aft σ.h B d hout fz (L1++L2)⟩ (rn (phi B d hout.length) r)
  |_,_=>False
 |_=>False
theorem aB6 (G:OK C σ a w S ρ κ) {d:Nat}{f:FuncId}{xs ys:List AV}{B L1 L2:List Name}{hin:List Blk}{r:AV}{hout:List (Option Blk)}{fz:Bool}{X:Value->World->(Nat->Prop)->(Name->Option Nat)->(Name->Nat)->Prop} (qz:B.Nodup)
  (ja:dF (conv σ.h 8 B false) xs=some (ys,L1)) (jt:vO σ.h B B=some (hin,L2)) (qd:fz=false->(L1++L2=[]∨(flat r=true∧∀b,some b∈hout->aAg b))) (hu:∀j,B.length<=j->j<hout.length->gW (.t d j) σ) {vs:Array Value}
  (hl:vs.size=xs.length) (hr:∀j,j<xs.length->RV S w ρ κ σ.h (xs.getD j .junk) (vs.getD j undef))
  (ju:∀(S1:Nat->Prop) (ρ0:Name->Option Nat) (κ0:Name->Nat),HOK S1 w ρ0 κ0 (Hn (hin.map some))->(∀y,S y->S1 y)->(∀j n,B[j]? = some n->ρ0 (.b j)=ρ n∧κ0 (.b j)=κ n)->(∀b,b∈hin->b.fz=false)->vs.size=ys.length->(∀j,j<ys.length->RV S1 w ρ0 κ0 (Hn (hin.map some)) (ys.getD j .junk) (vs.getD j undef))->
    Calls P f vs w λe w'=>∃v S' ρ' κ',e=.returned v∧Post S1 w ρ0 κ0 hin S' w' ρ' κ' hout∧RV S' w' ρ' κ' (Hn hout) r v∧X v w' S' ρ' κ') :
  Calls P f vs w λe w'=>∃v S2 ρ2 κ2 S' ρ' κ',e=.returned v∧OK C ⟨σ.s,aft σ.h B d hout fz (L1++L2)⟩ a w' S2 ρ2 κ2∧RV S2 w' ρ2 κ2 (aft σ.h B d hout fz (L1++L2)) (rn (phi B d hout.length) r) v∧(∀y,S2 y->S' y)∧(∀j n,B[j]? = some n->ρ2 n=ρ' (.b j)∧κ2 n=κ' (.b j))∧X v w' S' ρ' κ':=by
 generalize qt:L1++L2=L at qd⊢;have je:∀n,n∈L1->n∈L:=λn I=>qt ▸ BV _ I;have jf:∀n,n∈L2->n∈L:=λn I=>qt ▸ Df _ I;obtain⟨qu,ql,js⟩:=wN _ _ jt
 let S1:Nat->Prop:=λy=>S y∨∃n,n∈L∧ρ n=some y
 let ρ0:Name->Option Nat:=λm=>match m with|.b j=>(B[j]?).bind ρ|.t _ _=>none
 let κ0:Name->Nat:=λm=>match m with|.b j=>((B[j]?).map κ).getD 0|.t _ _=>0
 have qj:∀y,S y->S1 y:=λy hy=>.inl hy
 have hE:∀j n,B[j]? = some n->ρ0 (.b j)=ρ n∧κ0 (.b j)=κ n∧∀Z,Hn (hin.map some) (.b j)=some Z->∃b,σ.h n=some b∧b.same Z:=by
  intro j n H;refine⟨by simp[ρ0,H],by simp[κ0,H],λZ F=>?_⟩;obtain⟨b,b2,Lj,g1,Y,g3,_,_⟩:=ql j n H
  have:Z=b2:=by
   simp only[Hn,List.getD,BQ,g3,Ba,BS,Aj] at F;exact F.symm
  subst this;refine⟨b,g1,?_⟩;cases b with
  | var c z =>
   simp only[fU] at Y;cases J:dF (conv σ.h 8 B false) c with
   |none=>rw[J] at Y;cases Y
   | some p =>
    rw[J] at Y;simp only[Ba,Aj,AZ] at Y;rw[←Y.1];exact((gX J).1).symm
  | arr k l z =>
   simp only[fU,Aj,AZ] at Y;rw[←Y.1];exact Blk.same_refl _
 have h8:=vL G.hok qj (κ':=κ0) hE 8
 have hd:∀n,n∈L->n∉B∧(σ.h n).isSome:=by
  intro n I;have qb:∀m,m∈L->∀y,ρ m=some y->S1 y:=λm J y hy=>.inr ⟨m,J,hy⟩;rw[←qt] at I;rcases Be.1 I with I|I
  .obtain⟨j,H,Lj,g1,Y⟩:=aAY ja n I;obtain⟨jo,qa,g3⟩:=(gX ja).2 j H;rw[g1] at qa;simp only[Aj,AZ,Ci] at qa;subst qa;exact(h8 false _ _ _ _ g1 (λm J=>qb m (je m (g3 m J))) (hr j H)).2.2 n Y
  .obtain⟨n',b,Z,Lj,g1,Y,g3,g4⟩:=js n I;cases b with
   | arr k l z =>
    simp only[fU,Aj,AZ] at g3;rw[←g3.2] at g4;simp at g4
   | var c z =>
    simp only[fU] at g3;cases J:dF (conv σ.h 8 B false) c with
    |none=>rw[J] at g3;cases g3
    | some p =>
     obtain⟨c',Lp⟩:=p;rw[J] at g3;simp only[Ba,Aj,AZ] at g3;obtain⟨_,rfl⟩:=g3;obtain⟨j,H,Lj,g5,g6⟩:=aAY J n g4;obtain⟨x,cs,T,fr,q1,q2,q3,q4,_,q5,q6,q7⟩:=G.hok.blk n' _ Y;obtain⟨i,hi⟩:=BM.1 g1;obtain⟨b1,b2,Lb,p1,p2,p3,p4,p5⟩:=ql i n' hi;rw[Y] at p1;obtain rfl:=Av p1;simp only[fU,J,Ba,Aj,AZ] at p2;obtain⟨_,rfl⟩:=p2;obtain⟨jo,qs,g7⟩:=(gX J).2 j H;rw[g5] at qs;simp only[Aj,AZ,Ci] at qs;subst qs;exact(h8 false _ _ _ _ g5 (λm J=>qb m (jf m (p5 m (g7 m J)))) (q7 j H).2).2.2 n g6
 have qb:∀m,m∈L->∀y,ρ m=some y->S1 y:=λm J y hy=>.inr ⟨m,J,hy⟩
 have jd:∀n b,n∈B->σ.h n=some b->b.fz=false->∀x,ρ n=some x->¬S1 x:=by
  rintro n b I hb M x O (hs|⟨m,J,hmx⟩)
  .have:=G.hok.blk n b hb;cases b with
   | var c z =>
    obtain⟨y,_,_,_,g1,_,_,Y,_⟩:=this;obtain rfl:=Av (O.symm.trans g1);exact Y M hs
   | arr k l z =>
    obtain⟨_,⟨g1,_⟩|⟨y,_,_,_,g1,_,_,Y,_⟩⟩:=this
    .rw[O] at g1;cases g1
    .obtain rfl:=Av (O.symm.trans g1);exact Y M hs
  .have:=G.hok.inj m n x (hd m J).2 (by simp[hb]) hmx O;subst this;exact(hd m J).1 I
 have he:∀(j:Nat) (n:Name),B[j]? = some n->∃b,σ.h n=some b∧b.fz=false:=by
  intro j n H;obtain⟨b,Z,Lj,g1,Y,g3,g4,g5⟩:=ql j n H;refine⟨b,g1,?_⟩;cases b with
  | var c z =>
   simp only[fU] at Y;cases J:dF (conv σ.h 8 B false) c with
   |none=>rw[J] at Y;cases Y
   | some p =>
    rw[J] at Y;simp only[Ba,Aj,AZ] at Y;rw[←Y.1] at g4;exact g4
  | arr k l z =>
   simp only[fU,Aj,AZ] at Y;rw[←Y.1] at g4;exact g4
 have qi:∀j Z,Hn (hin.map some) (.b j)=some Z->∃n b Lj,B[j]? = some n∧σ.h n=some b∧fU σ.h B b=some (Z,Lj)∧(∀m,m∈Lj->m∈L2)∧Z.fz=false:=by
  intro j Z F
  have H:j<B.length:=by
   rw[←qu];rcases Cw j hin.length with h'|h'
   .exact h'
   .simp[Hn,List.getD,Cr h'] at F
  obtain⟨b,b2,Lj,g1,Y,g3,g4,g5⟩:=ql j B[j] (by simp[H])
  have:Z=b2:=by
   simp only[Hn,List.getD,BQ,g3,Ba,BS,Aj] at F;exact F.symm
  subst this;exact⟨B[j],b,Lj,by simp[H],g1,Y,g5,g4⟩
 have jl:HOK S1 w ρ0 κ0 (Hn (hin.map some)):=by
  refine⟨λm Z F=>?_,λm m' x h1 h2 U h4=>?_,?_,G.hok.env.mono (λ_ h=>.inl h) λ_ _=>rfl⟩
  .cases m with
   |t=>simp[Hn] at F
   | b j =>
    obtain⟨n,b,Lj,g0,g1,Y,g5,g4⟩:=qi j Z F;obtain⟨e1,e2,_⟩:=hE j n g0;have hb:=G.hok.blk n b g1;have jj:=jd n b (BU g0) g1;cases b with
    | var c z =>
     simp only[fU] at Y;cases J:dF (conv σ.h 8 B false) c with
     |none=>rw[J] at Y;cases Y
     | some p =>
      obtain⟨c',Lp⟩:=p;rw[J] at Y;simp only[Ba,Aj,AZ] at Y;obtain⟨rfl,rfl⟩:=Y;obtain⟨x,cs,T,fr,q1,q2,q3,q4,hf,q5,q6,q7⟩:=hb;obtain⟨l1,l2⟩:=gX J;refine⟨x,cs,T,fr,by rw[e1];exact q1,q2,q3,λM=>jj M x q1,λM=>.inl (hf M),by rw[e2];exact q5,by omega,λi hi=>⟨(q7 i (by omega)).1,?_⟩⟩;obtain⟨Li,l3,l4⟩:=l2 i (by omega);exact(h8 false _ _ _ _ l3 (λm J=>qb m (jf m (g5 m (l4 m J)))) (q7 i (by omega)).2).1 rfl
    | arr k l z =>
     simp only[fU,Aj,AZ] at Y;obtain⟨rfl,rfl⟩:=Y;obtain⟨q0,⟨q1,q2⟩|⟨x,cs,T,fr,q1,q2,q3,q4,hf,q5,q6,q7⟩⟩:=hb
     .exact⟨q0,.inl ⟨by rw[e1];exact q1,q2⟩⟩
     .exact⟨q0,.inr ⟨x,cs,T,fr,by rw[e1];exact q1,q2,q3,λM=>jj M x q1,λM=>.inl (hf M),by rw[e2];exact q5,q6,λi j hi H=>⟨(q7 i j hi H).1,(q7 i j hi H).2.mono qj λ_ _=>rfl⟩⟩⟩
  .cases m with
   |t=>simp[Hn] at h1
   | b j =>
    cases m' with
    |t=>simp[Hn] at h2
    | b j' =>
     obtain⟨b1,qc⟩:=AQ.1 h1;obtain⟨b2,V⟩:=AQ.1 h2;obtain⟨n,b,_,g0,g1,_⟩:=qi j b1 qc;obtain⟨n',Z,_,jc,qa,_⟩:=qi j' b2 V;rw[(hE j n g0).1] at U;rw[(hE j' n' jc).1] at h4;obtain rfl:=G.hok.inj n n' x (by simp[g1]) (by simp[qa]) U h4;congr 1;have e1:=pU qz g0;have e2:=pU qz jc;rw[e1] at e2;exact Av e2
  .rintro y (hy|⟨n,I,hy⟩)
   .exact G.hok.dom y hy
   .exact G.hok.lt (hd n I).2 hy
 have hp:∀x,sO ρ0 hin x↔∃n,n∈B∧ρ n=some x:=by
  intro x;constructor
  .rintro⟨j,H,O⟩;have jw:j<B.length:=by omega
   refine⟨B[j],by simp,?_⟩;simpa[ρ0,jw] using O
  .rintro⟨n,I,O⟩;obtain⟨j,H⟩:=BM.1 I;refine⟨j,?_,by simp[ρ0,H,O]⟩;rw[qu];exact(CL.1 H).1
 obtain⟨j7,j0⟩:=gX ja
 have qv:=ju S1 ρ0 κ0 jl qj (λj n H=>⟨(hE j n H).1,(hE j n H).2.1⟩) (λb hb=>by
   obtain⟨j,H⟩:=BM.1 hb;have:Hn (hin.map some) (.b j)=some b:=by simp[Hn,List.getD,H]
   obtain⟨_,_,_,_,_,_,_,M⟩:=qi j b this;exact M) (by omega) (λj H=>by
   obtain⟨Lj,l3,l4⟩:=j0 j (by omega);exact(h8 false _ _ _ _ l3 (λm J=>qb m (je m (l4 m J))) (hr j (by omega))).1 rfl)
 refine qv.mono ?_;rintro e w' ⟨v,S',ρ',κ',rfl,hpost,hrv,hX⟩
 let S2:Nat->Prop:=λy=>S' y∧(fz=true∨¬∃n,n∈L∧ρ n=some y∧¬S y)
 let ρ2:Name->Option Nat:=λm=>match kJ B m with
  |some j=>ρ' (.b j)
  | none=>match m with
   |.t d' j=>if d'=d∧B.length<=j∧j<hout.length then ρ' (.b j) else ρ (.t d' j)
   |.b i=>ρ (.b i)
 let κ2:Name->Nat:=λm=>match kJ B m with
  |some j=>κ' (.b j)
  | none=>match m with
   |.t d' j=>if d'=d∧B.length<=j∧j<hout.length then κ' (.b j) else κ (.t d' j)
   |.b i=>κ (.b i)
 let h2:=aft σ.h B d hout fz L
 have jk:∀j,B.length<=j->j<hout.length->kJ B (.t d j)=none:=by
  intro j h1 U;cases hi:kJ B (.t d j) with
  |none=>rfl
  | some i =>
   obtain⟨b,hb,_⟩:=he i _ (oV hi);rw[(hu j h1 U).1.1] at hb;cases hb
 have kB:∀(j:Nat) (m:Name),B[j]? = some m->ρ2 m=ρ' (.b j)∧κ2 m=κ' (.b j)∧h2 m=(hout.getD j none).map (rnB (phi B d hout.length)):=by
  intro j m H;have hi:=pU qz H;simp only[ρ2,κ2,h2,aft,hi,and_self]
 have kN:∀j,B.length<=j->j<hout.length->ρ2 (.t d j)=ρ' (.b j)∧κ2 (.t d j)=κ' (.b j)∧h2 (.t d j)=(hout.getD j none).map (rnB (phi B d hout.length)):=by
  intro j h1 U;have hi:=jk j h1 U;simp only[ρ2,κ2,h2,aft,hi,h1,U,and_self,Bt]
 have kO:∀m,m∉B->(∀j,B.length<=j->j<hout.length->m≠.t d j)->ρ2 m=ρ m∧κ2 m=κ m∧h2 m=if fz=true∧m∈L then(σ.h m).map frz else σ.h m:=by
  intro m J I
  have hi:kJ B m=none:=by
   cases hi:kJ B m with
   |none=>rfl
   |some j=>exact absurd (BU (oV hi)) J
  cases m with
  |b i=>simp only[ρ2,κ2,h2,aft,hi,and_self]
  | t d' j =>
   have hc:¬(d'=d∧B.length<=j∧j<hout.length):=by
    rintro⟨rfl,h1,U⟩;exact I j h1 U rfl
   simp only[ρ2,κ2,h2,aft,hi,AJ hc,and_self]
 have hφ:∀n m,phi B d hout.length n=some m->ρ2 m=ρ' n∧κ2 m=κ' n∧∀Z,h2 m=some Z->∃b,Hn hout n=some b∧b.same Z:=by
  intro n m I;cases n with
  |t=>simp[phi] at I
  | b j =>
   have qr:ρ2 m=ρ' (.b j)∧κ2 m=κ' (.b j)∧h2 m=(hout.getD j none).map (rnB (phi B d hout.length)):=by
    simp only[phi] at I;split at I
    .exact kB j m I
    .split at I
     .obtain rfl:=Av I;exact kN j (by omega) (by omega)
     .cases I
   refine⟨qr.1,qr.2.1,λZ F=>?_⟩;rw[qr.2.2] at F;cases H:hout.getD j none with
   |none=>rw[H] at F;cases F
   | some b =>
    rw[H] at F;obtain rfl:=Av F;exact⟨b,H,aAP _ _⟩
 have q8:∀m,(∀j,B.length<=j->j<hout.length->m≠.t d j)->gQ ρ ρ2 κ κ2 σ.h h2 m:=by
  intro m I Z F;by_cases J:m∈B
  .obtain⟨j,H⟩:=BM.1 J;obtain⟨e1,e2,e3⟩:=kB j m H;rw[e3] at F;cases hjo:hout.getD j none with
   |none=>rw[hjo] at F;cases F
   | some b =>
    rw[hjo] at F;obtain rfl:=Av F;have jx:j<hin.length:=by rw[qu];exact(CL.1 H).1
    obtain⟨k1,k2,bi,k3,k4⟩:=hpost.keep j b jx hjo;obtain⟨g1,Y,g3⟩:=hE j m H;obtain⟨b0,g4,g5⟩:=g3 bi (by simp[Hn,List.getD,k3]);exact⟨by rw[e1,k1,g1],by rw[e2,k2,Y],b0,g4,Blk.same_trans (Blk.same_trans g5 k4) (aAP _ _)⟩
  .obtain⟨e1,e2,e3⟩:=kO m J I;rw[e3] at F;refine⟨e1,e2,?_⟩;split at F
   .cases hw:σ.h m with
    |none=>rw[hw] at F;cases F
    | some b0 =>
     rw[hw] at F;obtain rfl:=Av F;exact⟨b0,rfl,aKl _⟩
   .exact⟨Z,F,Z.same_refl⟩
 have hk:∀y,S y->S2 y:=λy hy=>⟨hpost.sub y (qj y hy),.inr λ⟨_,_,_,I⟩=>I hy⟩
 have qg:∀y,S y->¬sO ρ0 hin y:=by
  intro y hy J;obtain⟨n,I,O⟩:=(hp y).1 J;obtain⟨j,H⟩:=BM.1 I;obtain⟨b,hb,M⟩:=he j n H;exact jd n b I hb M y O (.inl hy)
 have qk:∀y,S y->w'.heap[y]? = w.heap[y]?:=λy hy=>hpost.old y (G.hok.dom y hy) (qg y hy)
 have ji:fz=false->L≠[]->flat r=true∧∀b,some b∈hout->aAg b:=by
  intro h1 U;rcases qd h1 with h|h
  .exact absurd h U
  .exact h
 have back:∀(x:AV) (u:Value),(fz=false->L≠[]->flat x=true)->RV S' w' ρ' κ' (Hn hout) x u->RV S2 w' ρ2 κ2 h2 (rn (phi B d hout.length) x) u:=by
  intro x u qw O;have jn:=O.ren (φ:=phi B d hout.length) hφ;by_cases M:fz=true
  .exact jn.mono (λy hy=>⟨hy,.inl M⟩) (λ_ _=>rfl) λ_ _=>gQ.refl _ _ _ _
  .by_cases hl:L=[]
   .exact jn.mono (λy hy=>⟨hy,.inr (by rintro⟨n,I,_⟩;rw[hl] at I;cases I)⟩) (λ_ _=>rfl) λ_ _=>gQ.refl _ _ _ _
   .exact(O.flat (S':=S2) (qw (by simpa using M) hl)).ren hφ
 have qq:∀(x:AV) (u:Value),(fz=false->L≠[]->flat x=true)->RC S' w' x u->RC S2 w' x u:=by
  intro x u qw O;by_cases M:fz=true
  .exact O.mono (λy hy=>⟨hy,.inl M⟩) λ_ _=>rfl
  .by_cases hl:L=[]
   .exact O.mono (λy hy=>⟨hy,.inr (by rintro⟨n,I,_⟩;rw[hl] at I;cases I)⟩) λ_ _=>rfl
   .exact O.flat (qw (by simpa using M) hl)
 have hv:∀j x,(hout.getD j none).isSome->ρ' (.b j)=some x->w.heap.size<=x∨∃n,n∈B∧ρ n=some x:=by
  intro j x h1 U;rcases hpost.mine j x h1 U with h|h
  .exact .inl h
  .exact .inr ((hp x).1 h)
 have h6:∀j x,(hout.getD j none).isSome->ρ' (.b j)=some x->¬∃n,n∈L∧ρ n=some x∧¬S x:=by
  rintro j x h1 U ⟨n,I,O,_⟩;rcases hv j x h1 U with h|⟨n',ha,hg⟩
  .exact absurd (G.hok.lt (hd n I).2 O) (by omega)
  .obtain⟨i,hi⟩:=BM.1 ha;obtain⟨b,hb,_⟩:=he i n' hi;obtain rfl:=G.hok.inj n n' x (hd n I).2 (by simp[hb]) O hg;exact(hd n I).1 ha
 have jb:∀j b m,hout.getD j none=some b->ρ2 m=ρ' (.b j)->κ2 m=κ' (.b j)->wW S2 w' ρ2 κ2 h2 m (rnB (phi B d hout.length) b):=by
  intro j b m H e1 e2;have hb:=hpost.hok.blk (.b j) b H;have qh:(hout.getD j none).isSome:=by rw[H];rfl
  have jh:fz=false->L≠[]->aAg b:=λh1 U=>(ji h1 U).2 b (by
    refine BU (i:=j) ?_;cases ho:hout[j]? with
    |none=>simp[List.getD,ho] at H
    |some o=>simp[List.getD,ho] at H;rw[←H])
  cases b with
  | var c z =>
   obtain⟨x,cs,T,fr,q1,q2,q3,q4,hf,q5,q6,q7⟩:=hb;refine⟨x,cs,T,fr,by rw[e1];exact q1,q2,q3,λM hs=>q4 M hs.1,λM=>⟨hf M,.inr (h6 j x qh q1)⟩,by rw[e2];exact q5,by rw[dI];exact q6,λi hi=>?_⟩;rw[dI] at hi;rw[nK _ _ _ hi];exact⟨(q7 i hi).1,back _ _ (λh1 U=>fJ (jh h1 U)) (q7 i hi).2⟩
  | arr k l z =>
   obtain⟨q0,⟨q1,q2⟩|⟨x,cs,T,fr,q1,q2,q3,q4,hf,q5,q6,q7⟩⟩:=hb
   .exact⟨q0,.inl ⟨by rw[e1];exact q1,q2⟩⟩
   .refine⟨q0,.inr ⟨x,cs,T,fr,by rw[e1];exact q1,q2,q3,λM hs=>q4 M hs.1,λM=>⟨hf M,.inr (h6 j x qh q1)⟩,by rw[e2];exact q5,q6,λi j' hi qe=>⟨(q7 i j' hi qe).1,qq _ _ (λh1 U=>fJ ?_) (q7 i j' hi qe).2⟩⟩⟩;exact jh h1 U _ (by simp[List.getD,hi])
 have h7:∀m Z,h2 m=some Z->(∃j b,hout.getD j none=some b∧Z=rnB (phi B d hout.length) b∧ρ2 m=ρ' (.b j)∧κ2 m=κ' (.b j)∧phi B d hout.length (.b j)=some m)∨
   (m∉B∧(∀j,B.length<=j->j<hout.length->m≠.t d j)∧ρ2 m=ρ m∧κ2 m=κ m∧∃b,σ.h m=some b∧Z=if fz=true∧m∈L then frz b else b):=by
  intro m Z F;by_cases J:m∈B
  .obtain⟨j,H⟩:=BM.1 J;obtain⟨e1,e2,e3⟩:=kB j m H;rw[e3] at F;cases hjo:hout.getD j none with
   |none=>rw[hjo] at F;cases F
   | some b =>
    rw[hjo] at F;exact .inl ⟨j,b,hjo,(Av F).symm,e1,e2,by simp only[phi,AY (CL.1 H).1,H]⟩
  .by_cases I:∃j,B.length<=j∧j<hout.length∧m=.t d j
   .obtain⟨j,h1,U,rfl⟩:=I;obtain⟨e1,e2,e3⟩:=kN j h1 U;rw[e3] at F;cases hjo:hout.getD j none with
    |none=>rw[hjo] at F;cases F
    | some b =>
     rw[hjo] at F;exact .inl ⟨j,b,hjo,(Av F).symm,e1,e2,by simp[phi,U,show ¬j<B.length by omega]⟩
   .have ha:∀j,B.length<=j->j<hout.length->m≠.t d j:=λj h1 U e=>I ⟨j,h1,U,e⟩;obtain⟨e1,e2,e3⟩:=kO m J ha;rw[e3] at F;refine .inr ⟨J,ha,e1,e2,?_⟩;by_cases hc:fz=true∧m∈L
    .rw[AY hc] at F;cases hw:σ.h m with
     |none=>rw[hw] at F;cases F
     |some b0=>rw[hw] at F;exact⟨b0,rfl,by rw[AY hc];exact(Av F).symm⟩
    .rw[AJ hc] at F;exact⟨Z,F,by rw[AJ hc]⟩
 have qo:∀m b x,m∉B->σ.h m=some b->ρ m=some x->w'.heap[x]? = w.heap[x]?:=by
  intro m b x J hb O;refine hpost.old x (G.hok.lt (by simp[hb]) O) λqy=>?_;obtain⟨n,I,hg⟩:=(hp x).1 qy;obtain⟨i,hi⟩:=BM.1 I;obtain⟨Z,F,_⟩:=he i n hi;obtain rfl:=G.hok.inj m n x (by simp[hb]) (by simp[F]) O hg;exact J I
 have jm:HOK S2 w' ρ2 κ2 h2:=by
  refine⟨λm Z F=>?_,λm m' x h1 U h4 h5=>?_,λy hy=>hpost.hok.dom y hy.1,G.hok.env.mono hk qk⟩
  .rcases h7 m Z F with⟨j,b,H,rfl,e1,e2,_⟩|⟨J,I,e1,e2,b,hb,rfl⟩
   .exact jb j b m H e1 e2
   .have hw:=G.hok.blk m b hb
    have qf:∀b2:Blk,((b2=b∧¬(fz=true∧m∈L))∨(b2=frz b∧fz=true∧m∈L))->(∀n,b2.has n=b.has n)->wW S2 w' ρ2 κ2 h2 m b2:=by
     intro b2 V j2
     have qm:∀n,b.has n=true->gQ ρ ρ2 κ κ2 σ.h h2 n:=λn ha=>q8 n λj h1 U e=>by
      subst e;rw[(hu j h1 U).2.2 m b hb] at ha;cases ha
     have jg:∀x,ρ m=some x->S2 x->b2.fz=false->S x:=by
      rintro x O ⟨hs,hs2⟩ M;rcases hpost.new x hs with(h|⟨n,ha,hg⟩)|h|h
      .exact h
      .obtain rfl:=G.hok.inj m n x (by simp[hb]) (hd n ha).2 O hg;rcases hs2 with h|h
       .rcases V with⟨rfl,hc⟩|⟨rfl,_,_⟩
        .exact absurd ⟨h,ha⟩ hc
        .cases b<;>simp[frz,Blk.fz] at M
       .exact Classical.byContradiction λjz=>h ⟨m,ha,O,jz⟩
      .exact absurd (G.hok.lt (by simp[hb]) O) (by omega)
      .obtain⟨n,ha,hg⟩:=(hp x).1 h;obtain⟨i,hi⟩:=BM.1 ha;obtain⟨qp,h0,_⟩:=he i n hi;obtain rfl:=G.hok.inj m n x (by simp[hb]) (by simp[h0]) O hg;exact absurd ha J
     have qn:∀x,ρ m=some x->b2.fz=true->(b.fz=true->S x)->S2 x:=by
      intro x O M j1;rcases V with⟨rfl,_⟩|⟨rfl,jv,jy⟩
      .exact hk x (j1 M)
      .exact⟨hpost.sub x (.inr ⟨m,jy,O⟩),.inl jv⟩
     cases b with
     | var c z =>
      obtain⟨x,cs,T,fr,q1,q2,q3,q4,hf,q5,q6,q7⟩:=hw;have:∃z2,b2=.var c z2:=by rcases V with⟨rfl,_⟩|⟨rfl,_⟩<;>exact⟨_,rfl⟩
      obtain⟨z2,rfl⟩:=this;refine⟨x,cs,T,fr,by rw[e1];exact q1,by rw[qo m _ x J hb q1];exact q2,q3,λM hs=>?_,λM=>qn x q1 M hf,by rw[e2];exact q5,q6,λi hi=>⟨(q7 i hi).1,(q7 i hi).2.mono hk qk λn ha=>qm n ?_⟩⟩
      .have q9:=jg x q1 hs M;rcases V with⟨V,_⟩|⟨V,_⟩
       .simp only[Blk.var.injEq,Ci] at V;subst V;exact q4 M q9
       .simp[frz] at V;rw[V] at M;cases M
      .cases hc:lJ n c with
       |true=>simp[Blk.has,hc]
       |false=>rw[qY hc] at ha;cases ha
     | arr k l z =>
      obtain⟨q0,hq⟩:=hw;have:∃z2,b2=.arr k l z2:=by rcases V with⟨rfl,_⟩|⟨rfl,_⟩<;>exact⟨_,rfl⟩
      obtain⟨z2,rfl⟩:=this;rcases hq with⟨q1,q2⟩|⟨x,cs,T,fr,q1,q2,q3,q4,hf,q5,q6,q7⟩
      .exact⟨q0,.inl ⟨by rw[e1];exact q1,q2⟩⟩
      .refine⟨q0,.inr ⟨x,cs,T,fr,by rw[e1];exact q1,by rw[qo m _ x J hb q1];exact q2,q3,λM hs=>?_,λM=>qn x q1 M hf,by rw[e2];exact q5,q6,λi j hi H=>⟨(q7 i j hi H).1,(q7 i j hi H).2.mono hk qk⟩⟩⟩;have q9:=jg x q1 hs M;rcases V with⟨V,_⟩|⟨V,_⟩
       .simp only[Blk.arr.injEq,Ci] at V;subst V;exact q4 M q9
       .simp[frz] at V;rw[V] at M;cases M
    by_cases hc:fz=true∧m∈L
    .rw[AY hc];exact qf _ (.inr ⟨rfl,hc⟩) (by intro n;cases b<;>rfl)
    .rw[AJ hc];exact qf _ (.inl ⟨rfl,hc⟩) (λ_=>rfl)
  .obtain⟨b1,qc⟩:=AQ.1 h1;obtain⟨b3,jq⟩:=AQ.1 U
   have mixed:∀(j:Nat) (b:Blk) (m':Name) (qp:Blk),hout.getD j none=some b->ρ' (.b j)=some x->m'∉B->σ.h m'=some qp->ρ m'=some x->False:=by
    intro j b m' qp H O qx h0 hg;rcases hv j x (by rw[H];rfl) O with h|⟨n,I,hxn⟩
    .exact absurd (G.hok.lt (by simp[h0]) hg) (by omega)
    .obtain⟨i,hi⟩:=BM.1 I;obtain⟨bi,jr,_⟩:=he i n hi;obtain rfl:=G.hok.inj m' n x (by simp[h0]) (by simp[jr]) hg hxn;exact qx I
   rcases h7 m b1 qc with⟨j,b,H,_,e1,_,e3⟩|⟨J,_,e1,_,b,hb,_⟩<;>rcases h7 m' b3 jq with⟨j',Z,qe,_,h9,_,jp⟩|⟨qx,_,h9,_,Z,F,_⟩
   .rw[e1] at h4;rw[h9] at h5;have:=hpost.hok.inj (.b j) (.b j') x (by simp only[Hn];rw[H];rfl) (by simp only[Hn];rw[qe];rfl) h4 h5;rw[this] at e3;exact Av (e3.symm.trans jp)
   .rw[e1] at h4;rw[h9] at h5;exact(mixed j b m' Z H h4 qx F h5).elim
   .rw[e1] at h4;rw[h9] at h5;exact(mixed j' Z m b qe h5 J hb h4).elim
   .rw[e1] at h4;rw[h9] at h5;exact G.hok.inj m m' x (by simp[hb]) (by simp[F]) h4 h5
 have ht:∀n x,n∈B->ρ n=some x->C.w0.heap.size<=x∨C.Mut x:=by
  intro n x I O;obtain⟨i,hi⟩:=BM.1 I;obtain⟨b,hb,_⟩:=he i n hi;exact G.mine n x (by simp[hb]) O
 refine⟨v,S2,ρ2,κ2,S',ρ',κ',rfl,⟨G.nt,G.defers,λt=>?_,jm,BJ G.size hpost.size,λy hy J=>?_,λm x h1 U=>?_,λy hy=>hk y (G.S0 y hy),λy hy=>?_,⟨hpost.out.1.trans G.out.1,hpost.out.2.trans G.out.2⟩,λj Z F=>?_⟩,back r v (λh1 U=>(ji h1 U).1) hrv,λy hy=>hy.1,λj n H=>⟨(kB j n H).1,(kB j n H).2.1⟩,hX⟩
 .refine(G.slots t).mono hk qk λm J=>q8 m λj h1 U e=>?_;subst e;rw[(hu j h1 U).2.1 t] at J;cases J
 .rw[hpost.old y (BR hy G.size) λqy=>?_]
  .exact G.old y hy J
  .obtain⟨n,I,O⟩:=(hp y).1 qy;rcases ht n y I O with h|h
   .omega
   .exact J h
 .obtain⟨b1,qc⟩:=AQ.1 h1;rcases h7 m b1 qc with⟨j,b,H,_,e1,_,_⟩|⟨J,_,e1,_,b,hb,_⟩
  .rw[e1] at U;rcases hv j x (by rw[H];rfl) U with h|⟨n,I,O⟩
   .exact .inl (BJ G.size h)
   .exact ht n x I O
  .rw[e1] at U;exact G.mine m x (by simp[hb]) U
 .rcases hpost.new y hy.1 with(h|⟨n,I,O⟩)|h|h
  .exact G.Snew y h
  .rcases G.mine n y (hd n I).2 O with h|h
   .exact .inr (.inl h)
   .exact .inr (.inr h)
  .exact .inr (.inl (BJ G.size h))
  .obtain⟨n,I,O⟩:=(hp y).1 h;rcases ht n y I O with h|h
   .exact .inr (.inl h)
   .exact .inr (.inr h)
 .obtain⟨e1,e2,b0,h1,h2⟩:=q8 (.b j) (λ_ _ _=>by simp) Z F;obtain⟨e3,e4,b1,U,h4⟩:=G.keep j b0 h1;exact⟨e1.trans e3,e2.trans e4,b1,U,Blk.same_trans h4 h2⟩
theorem aG1 (L:OK C σ a w S ρ κ) {d:Nat}{f:FuncId}{caps xs:List AV}{B:List Name}{K:FSt->AV->Prop} (J:B.Nodup) (G:aKM P σ d (.fn f caps) xs B K) {vs:Array Value}
  (hl:vs.size=(xs++caps).length) (hr:∀j,j<(xs++caps).length->RV S w ρ κ σ.h ((xs++caps).getD j .junk) (vs.getD j undef)) :
  Calls P f vs w λe w'=>∃σ' x v S' ρ' κ',e=.returned v∧K σ' x∧OK C σ' a w' S' ρ' κ'∧RV S' w' ρ' κ' σ'.h x v:=by
 simp only[aKM] at G;split at G
 .rename_i ys L1 hin L2 M H;obtain⟨r,hout,fz,I,F,u,hK⟩:=G;refine(aB6 (X:=λ_ _ _ _ _=>True) L J M H F u hl hr λO ρ0 κ0 U _ _ V Y Z=>(I.2 O w ρ0 κ0 vs U V Y Z).mono ?_).mono ?_
  .rintro e w' ⟨v,S',ρ',κ',g1,g2,g3⟩;exact⟨v,S',ρ',κ',g1,g2,g3,trivial⟩
  .rintro e w' ⟨v,S2,ρ2,κ2,_,_,_,g1,g2,g3,_⟩;exact⟨_,_,v,S2,ρ2,κ2,g1,hK,g2,g3⟩
 .exact G.elim
end
section
variable [Envs]
variable {P:Program}{C:Ctx}{a:Act}{w:World}{S:Nat->Prop}{ρ:Name->Option Nat}{κ:Name->Nat}
structure St where
 s:List (Nat×AV)
 h:List (Name×Blk)
def look:List (Nat×AV)->Nat->AV
 | [],_=>.junk
 |(i,x)::r,t=>if t=i then x else look r t
def aB:List (Name×Blk)->Name->Option Blk
 | [],_=>none
 |(i,x)::r,t=>if t=i then some x else aB r t
def St.f (σ:St):FSt:=⟨look σ.s,aB σ.h⟩
def put (d:Option Nat) (x:AV) (s:List (Nat×AV)):List (Nat×AV):=
 match d with
 |some d=>(d,x)::s
 |none=>s
theorem kH (d:Option Nat) (x:AV) (s:List (Nat×AV)):look (put d x s)=upd (look s) d x:=by
 cases d<;>rfl
def hset (n:Name) (b:Blk):List (Name×Blk)->List (Name×Blk)
 | []=>[(n,b)]
 |(i,x)::r=>if n=i then(i,b)::r else(i,x)::hset n b r
theorem wJ (n:Name) (b:Blk):∀l,aB (hset n b l)=hput (aB l) n (some b)
 | []=>by funext m;simp only[hset,aB,hput]
 | (i,x)::r=>by
  funext m
  simp only[hset,hput];split
  .grind [aB]
  .rename_i u;simp only[aB];by_cases F:m=i
   .subst F;simp[DL u]
   .simp only[F,Bg,wJ n b r,hput]
def Name.isT:Name->Bool
 |.t _ _=>true
 |.b _=>false
def dE (n:Name) (σ:St):Bool:=n.isT&&σ.s.all (λp=>!p.2.has n)&&σ.h.all (λp=>!decide (p.1=n)&&!p.2.has n)
theorem aFB:∀(s:List (Nat×AV)) (t:Nat),look s t=.junk∨∃p,p∈s∧p.2=look s t
 | [],_=>.inl rfl
 | (i,x)::r,t=>by
  simp only[look];split
  .exact .inr ⟨(i,x),by simp,rfl⟩
  .rcases aFB r t with h|⟨p,hp,h⟩
   all_goals grind
theorem vE:∀(l:List (Name×Blk)) (n:Name) (b:Blk),aB l n=some b->(n,b)∈l
 | [],_,_,h=>by simp[aB] at h
 | (i,x)::r,n,b,h=>by
  simp only[aB] at h;split at h
  .grind
  .exact Dh _ (vE r n b h)
theorem aGP {l:List (Name×Blk)}{n:Name} (h:∀p,p∈l->p.1≠n):aB l n=none:=by
 cases hl:aB l n with
 |none=>rfl
 |some b=>exact absurd rfl (h _ (vE l n b hl))
theorem dV {n:Name}{σ:St} (h:dE n σ=true):gW n σ.f:=by
 simp only[dE,Au,Aw,Bz,BH] at h;obtain⟨⟨H,G⟩,h2⟩:=h
 have u:∀j,n≠.b j:=by
  rintro j rfl;cases H
 have h:=And.intro G h2;clear G h2;refine⟨⟨aGP λp F=>(h.2 p F).1,u⟩,λt=>?_,λm b u=>(h.2 _ (vE _ _ _ u)).2⟩;rcases aFB σ.s t with e|⟨p,F,e⟩
 .simp only[St.f,e,AV.has]
 .simp only[St.f,←e];exact h.1 p F
def iK (n:Name) (σ:St):St:=⟨σ.s.map λp=>(p.1,scr n p.2),(σ.h.filter λp=>!decide (p.1=n)).map λp=>(p.1,aBl n p.2)⟩
theorem nM (f:AV->AV) (u:f .junk=.junk):∀(s:List (Nat×AV)) (t:Nat),look (s.map λp=>(p.1,f p.2)) t=f (look s t)
 | [],_=>by simp[look,u]
 | (i,x)::r,t=>by
  simp only[AU,look];split
  .rfl
  .exact nM f u r t
theorem sJ (n:Name):∀(l:List (Name×Blk)) (m:Name),aB ((l.filter λp=>!decide (p.1=n)).map λp=>(p.1,aBl n p.2)) m=if m=n then none else(aB l m).map (aBl n)
 | [],m=>by simp[aB]
 | (i,x)::r,m=>by
  have u:=sJ n r m
  all_goals grind [aB]
theorem zK (n:Name) (σ:St):(iK n σ).f=qJ n σ.f:=by
 simp only[St.f,iK,qJ,FSt.mk.injEq];exact⟨funext λt=>nM (scr n) (by simp[scr,AV.has]) _ t,funext λm=>sJ n _ m⟩
def aT:Option Name->St->St
 |some n,σ=>iK n σ
 |none,σ=>σ
theorem aFJ (on:Option Name) (σ:St):(aT on σ).f=aBY on σ.f:=by
 cases on
 .rfl
 .exact zK _ _
/-! ## a call on lists -/
def rU (g:Blk->Blk) (d nB:Nat):Nat->List (Option Blk)->List (Name×Blk)
 |_,[]=>[]
 |i,none::r=>rU g d nB (i+1) r
 |i,some b::r=>if nB<=i then(.t d i,g b)::rU g d nB (i+1) r else rU g d nB (i+1) r
def aGh (B:List Name) (d:Nat) (hout:List (Option Blk)) (fz:Bool) (L:List Name) (m:Name) (b:Blk):Option Blk:=
 match kJ B m with
 |some j=>(hout.getD j none).map (rnB (phi B d hout.length))
 |none=>some (if fz=true∧m∈L then frz b else b)
def aD1 (f:Name->Blk->Option Blk):List (Name×Blk)->List (Name×Blk)
 | []=>[]
 | (m,b)::r=>match f m b with
  |some b'=>(m,b')::aD1 f r
  |none=>aD1 f r
def xB (h:List (Name×Blk)) (B:List Name) (d:Nat) (hout:List (Option Blk)) (fz:Bool) (L:List Name):List (Name×Blk):=
 rU (rnB (phi B d hout.length)) d B.length 0 hout++aD1 (aGh B d hout fz L) h
theorem aA7 (l u:List (Name×Blk)) (m:Name):aB (l++u) m=(aB l m).or (aB u m):=by
 induction l with
 |nil=>simp[aB]
 | cons p r ih =>
  grind [aB]
def xP (g:Blk->Blk) (d nB i:Nat) (l:List (Option Blk)):Name->Option Blk
 |.t d' j=>if d'=d∧nB<=j∧i<=j∧j<i+l.length then(l.getD (j-i) none).map g else none
 |.b _=>none
theorem aAs (g:Blk->Blk) (d nB:Nat):∀(l:List (Option Blk)) (i:Nat) (m:Name),aB (rU g d nB i l) m=xP g d nB i l m
 | [],i,m=>by
  grind [rU,aB,xP,Name]
 | o::r,i,m=>by
  have G:=aAs g d nB r (i+1) m
  have skip:(∀b,o=some b->¬nB<=i)->aB (rU g d nB (i+1) r) m=xP g d nB i (o::r) m:=by
   intro F;rw[G];cases m with
   |b=>rfl
   | t d' j =>
    simp only[xP,Aa];by_cases u:j=i
    .subst u;rw[AJ (by omega)];cases o with
     |none=>simp
     |some b=>rw[AJ (by intro h;exact F b rfl h.2.1)]
    all_goals grind
  cases o with
  |none=>exact skip (by simp)
  | some b =>
   grind [rU,aB,xP,Name]
theorem aAr (f:Name->Blk->Option Blk) (u:∀m b F,f m b=none->f m F=none) (m:Name):∀h:List (Name×Blk),aB (aD1 f h) m=(aB h m).bind (f m)
 | []=>rfl
 | (i,x)::r=>by
  have H:=aAr f u m r;simp only[aD1,aB];by_cases G:m=i
  .subst G;cases hfx:f m x with
   | none =>
    simp only[H,Bt,Co,hfx];cases hr:aB r m with
    |none=>rfl
    |some b=>exact u m x b hfx
   |some b=>simp[aB,hfx]
  all_goals grind [aB]
theorem aNm {σ:St}{B:List Name}{d:Nat}{hout:List (Option Blk)}{fz:Bool}{L:List Name} (F:∀m,m∈B->(aB σ.h m).isSome) (u:∀j,B.length<=j->j<hout.length->aB σ.h (.t d j)=none) :
  aB (xB σ.h B d hout fz L)=aft (aB σ.h) B d hout fz L:=by
 funext m
 unfold xB
 rw [aA7,aAr _ (λm b J h=>by
   unfold aGh at *
   cases hi:kJ B m with
   |none=>rw[hi] at h;cases h
   |some j=>rw[hi] at h;exact h),aAs]
 unfold aft
 have hi:∀d' j,d'=d->B.length<=j->j<hout.length->kJ B (.t d' j)=none:=by
  rintro d' j rfl H h2;cases hi:kJ B (.t d' j) with
  |none=>rfl
  | some i =>
   have:=F _ (BU (oV hi));rw[u j H h2] at this;cases this
 have G:∀m,(aB σ.h m).bind (aGh B d hout fz L m)=match kJ B m with
   |some j=>(hout.getD j none).map (rnB (phi B d hout.length))
   |none=>if fz=true∧m∈L then(aB σ.h m).map frz else aB σ.h m:=by
  intro m;cases hx:kJ B m with
  | none =>
   simp only;cases aB σ.h m with
   |none=>simp
   | some b =>
    grind [aGh]
  | some j =>
   have:=F _ (BU (oV hx));obtain⟨b,I⟩:=AQ.1 this;simp only[I,Co,aGh,hx]
 all_goals grind [xP,Name]
end
section
variable [Envs]
def qQ:List Nat->List Value->List Value->Option Bool
 | [],[],[]=>some true
 | k::ks,x::r,y::s=>match eqV k x y,qQ ks r s with
  |some a,some b=>some (a&&b)
  |_,_=>none
 |_,_,_=>none
mutual
def eqT (P:Program):Nat->TypeId->Option (List Nat)
 |0,_=>none
 | d+1,t=>match P.underlying t with
  |some .bool=>some [1]
  |some (.int _)=>some [0]
  |some .string=>some [2]
  | some (.struct fs)=>if P.stoodInHeld t then none else match eqF P d fs.toList 0 with
   |some l=>if j5 P t=some l.length then some l else none
   |none=>none
  |_=>none
def eqF (P:Program):Nat->List Field->Nat->Option (List Nat)
 |0,_,_=>none
 |_+1,[],_=>some []
 | d+1,f::fs,o=>if f.name != "_" && f.offset==o then match eqT P d f.type with
   | some m=>if m.length=0 then none else match eqF P d fs (o+m.length) with
    |some l=>some (m++l)
    |none=>none
   |none=>none
  else none
end
theorem aFZ:∀{u:List Nat}{l m:List Value}{b:Bool},qQ u l m=some b->l.length=u.length∧m.length=u.length
 | [],[],[],_,_=>⟨rfl,rfl⟩
 | k::u,x::r,y::s,b,h=>by
  simp only[qQ] at h;split at h
  .rename_i a H I h2;obtain⟨F,G⟩:=aFZ h2;simp[F,G]
  .cases h
 | [],[],_::_,_,h=>by simp[qQ] at h
 | [],_::_,_,_,h=>by simp[qQ] at h
 |_::_,[],_,_,h=>by simp[qQ] at h
 |_::_,_::_,[],_,h=>by simp[qQ] at h
theorem aB2:∀{k1 u:List Nat}{l m:List Value}{b:Bool},qQ (k1++u) l m=some b->∃F G,qQ k1 (l.take k1.length) (m.take k1.length)=some F∧qQ u (l.drop k1.length) (m.drop k1.length)=some G∧b=(F&&G)
 | [],u,l,m,b,h=>⟨true,b,by simp[qQ],by simpa using h,by simp⟩
 | k::k1,u,l,m,b,h=>by
  cases l with
  |nil=>simp[qQ] at h
  | cons x l=>cases m with
   |nil=>simp[qQ] at h
   | cons y m =>
    simp only[Ad,qQ] at h;split at h
    .rename_i a H L h2;obtain⟨F,G,I,J,rfl⟩:=aB2 h2
     all_goals grind [qQ]
    .cases h
def aAd (g:Bool) (xs:List Value):Value:=if g then .agg xs.toArray else xs.headD undef
theorem aFf {P:Program}{t:TypeId}{xs:Array Value}{o n:Nat}{g:Bool}{w:World} (u:jB P t=some g) (G:g=true->j5 P t=some n) (F:g=false->n=1) (H:o+n<=xs.size) :
  (part t xs o).run P w=.ok (aAd g ((xs.toList.drop o).take n)) w:=by
 cases g with
 | true =>
  simp only[part,Sem.run_bind,mP u,Result.andThen_ok,Bt,run_sizeOf (G rfl),Sem.run_pure,aAd];congr 2;apply Array.ext';simp
 | false =>
  obtain rfl:=F rfl;have:o<xs.size:=by omega
  simp only[part,Sem.run_bind,mP u,Result.andThen_ok,A8,Bg,aAd]
  all_goals grind [Sem.run_pure,List.drop_eq_getElem_cons]
theorem aLT {P:Program}:∀{d:Nat}{t:TypeId}{l:List Nat},eqT P d t=some l->∃g,jB P t=some g∧(g=true->j5 P t=some l.length)∧(g=false->l.length=1)
 |0,_,_,h=>by simp[eqT] at h
 | d+1,t,l,h=>by
  simp only[eqT] at h;split at h
  .rename_i u;obtain rfl:=Av h;exact⟨false,by simp[jB,u],by simp,by simp⟩
  .rename_i u;obtain rfl:=Av h;exact⟨false,by simp[jB,u],by simp,by simp⟩
  .rename_i u;obtain rfl:=Av h;exact⟨false,by simp[jB,u],by simp,by simp⟩
  .rename_i F u;split at h
   .cases h
   .split at h
    .rename_i H G;split at h
     .obtain rfl:=Av h;exact⟨true,by simp[jB,u],λ_=>by assumption,by simp⟩
     .cases h
    .cases h
  .cases h
theorem aM6 {P:Program} (w:World):∀(d:Nat),(∀(t:TypeId) (l:List Nat),eqT P d t=some l->∀(g:Bool),jB P t=some g->∀(xs ys:List Value) (b:Bool) (k:Nat),qQ l xs ys=some b->
      (Op.equalIn (d+k) t (aAd g xs) (aAd g ys)).run P w=.ok b w)∧
  ∀(I:List Field) (o:Nat) (l:List Nat),eqF P d I o=some l->∀(xs ys:Array Value) (b:Bool) (k:Nat),qQ l (xs.toList.drop o) (ys.toList.drop o)=some b->(Op.eqFields (d+k) xs ys I).run P w=.ok b w:=by
 intro d
 induction d with
 |zero=>exact⟨λt l h=>by simp[eqT] at h,λI o l h=>by simp[eqF] at h⟩
 | succ d ih =>
  obtain⟨he,Y⟩:=ih;refine⟨λt l h g F xs ys b k H=>?_,λI o l h xs ys b k H=>?_⟩
  .simp only[eqT] at h
   have G:∀(c:Nat),l=[c]->g=false->∃x y,aAd g xs=x∧aAd g ys=y∧eqV c x y=some b:=by
    rintro c rfl rfl
    match xs,ys,H with
    | [],_,H=>simp[qQ] at H
    |_::_,[],H=>simp[qQ] at H
    | x::r,y::s,H =>
     grind [qQ,aAd]
   have Z:d+1+k=(d+k)+1:=by omega
   rw[Z];split at h
   .rename_i J;simp only[jB,J,Aj] at F;obtain⟨x,y,hx,hy,u⟩:=G 1 (Av h).symm F.symm
    all_goals grind [eqV,run_equalIn_bool',Value]
   .rename_i kk J;simp only[jB,J,Aj] at F;obtain⟨x,y,hx,hy,u⟩:=G 0 (Av h).symm F.symm;rw[hx,hy];cases x<;>simp only[eqV] at u<;>try(cases u;done)
    cases y<;>simp only at u<;>try(cases u;done)
    all_goals grind [run_equalIn_int]
   .rename_i J;simp only[jB,J,Aj] at F;obtain⟨x,y,hx,hy,u⟩:=G 2 (Av h).symm F.symm
    all_goals grind [eqV,run_equalIn_string,Value]
   .rename_i I J;simp only[jB,J,Aj] at F;subst F;split at h
    .cases h
    .rename_i hd;split at h
     .rename_i l' hl;split at h
      .obtain rfl:=Av h;have M:P.fieldsOf t=I:=by simp[Program.fieldsOf,J]
       simp only[aAd,Bt];rw[run_equalIn_struct w (d+k) t _ _ (by rw[M];exact J) (by simpa using hd),M];exact Y _ _ _ hl _ _ b k (by simpa using H)
      .cases h
     .cases h
   .cases h
  .cases I with
   | nil =>
    simp only[eqF,Aj] at h;subst h
    have:b=true:=by
     grind [qQ]
    subst this;simp[Op.eqFields]
   | cons f I =>
    simp only[eqF] at h;split at h
    .rename_i L;simp only[Au,bne_iff_ne,ne_eq,Bj] at L;split at h
     .rename_i m hm;split at h
      .cases h
      rename_i hf;split at h
      .rename_i l' ha;obtain rfl:=Av h;obtain⟨g,F,O,U⟩:=aLT hm;have V:=aFZ H;simp only[Cf,BK,AC] at V;obtain⟨b1,b2,q1,q2,rfl⟩:=aB2 H;have hb:=aFf (w:=w) (xs:=xs) (o:=o) F O U (by omega);have hc:=aFf (w:=w) (xs:=ys) (o:=o) F O U (by omega);have Z:d+1+k=d+(1+k):=by omega
       have hq:=he _ _ hm g F _ _ b1 (1+k) q1;simp only[Op.eqFields,ne_eq,L.1,not_false_eq_true,Bt,L.2,Sem.run_bind,hb,hc,Result.andThen_ok,Z,hq];cases b1 with
       |false=>simp
       | true =>
        simp only[BP,A8,Bg,CX];exact Y I (o+m.length) l' ha xs ys b2 (1+k) (by rw[List.drop_drop,List.drop_drop] at q2;exact q2)
      .cases h
     .cases h
    .cases h
theorem aKt {P:Program}{S:Nat->Prop}{w:World}{ρ:Name->Option Nat}{κ:Name->Nat}{h:Name->Option Blk}:∀{J:List Nat}{c F:List AV}{vs us:List Value}{b:Bool},eqC J c F=some b->
  c.length=vs.length->F.length=us.length->(∀j,j<c.length->RV S w ρ κ h (c.getD j .junk) (vs.getD j undef))->(∀j,j<F.length->RV S w ρ κ h (F.getD j .junk) (us.getD j undef))->qQ J vs us=some b
 | [],[],[],[],[],b,hc,_,_,_,_=>by simpa[eqC,qQ] using hc
 | k::J,x::r,y::s,v::vs,u::us,b,hc,h1,h2,h3,h4=>by
  have G:=h3 0 (by simp);have H:=h4 0 (by simp);simp only[Ak] at G H;cases x<;>try(simp[eqC] at hc;done)
  cases y<;>try(simp[eqC] at hc;done)
  cases G with|clo G=>cases G with|v x =>
  cases H with|clo H=>cases H with|v y =>
  simp only[eqC] at hc;split at hc
  .rename_i a O L M;have:=aKt (P:=P) M (by simpa using h1) (by simpa using h2) (λj I=>by simpa using h3 (j+1) (by simpa using I)) (λj I=>by simpa using h4 (j+1) (by simpa using I));simp only[qQ,L,this];exact hc
  .cases hc
 | [],[],_::_,_,_,b,hc,_,_,_,_=>by simp[eqC] at hc
 | [],_::_,_,_,_,b,hc,_,_,_,_=>by simp[eqC] at hc
 |_::_,[],_,_,_,b,hc,_,_,_,_=>by simp[eqC] at hc
 |_::_,_::_,[],_,_,b,hc,_,_,_,_=>by simp[eqC] at hc
 |_,_::_,_::_,[],_,b,hc,h1,_,_,_=>by simp at h1
 |_,_::_,_::_,_::_,[],b,hc,_,h2,_,_=>by simp at h2
 |_,[],[],_::_,_,b,hc,h1,_,_,_=>by simp at h1
 |_,[],[],[],_::_,b,hc,_,h2,_,_=>by simp at h2
variable {P:Program}{C:Ctx}{σ:FSt}{a:Act}{w:World}{S:Nat->Prop}{ρ:Name->Option Nat}{κ:Name->Nat}{K:AV->Prop}
theorem aJF (H:OK C σ a w S ρ κ) {op:BinOp}{t:TypeId}{V:List Nat}{x y:Operand}{G:Bool} (L:(op=.eql∧G=false)∨(op=.neq∧G=true)) (ht:eqT P 30 t=some V) (Y:P.eqGuardType P.depth t=false) (Z:jB P t=some true)
  (F:rd (evO σ.s) σ.h K (.eqA G V x y)):Ans P S w ρ κ σ.h K (do eqGuard op t x y (a.eval x) (a.eval y);binOp op t (a.eval x) (a.eval y)):=by
 have O:=H.ev x;have U:=H.ev y;generalize a.eval x=va at O⊢;generalize a.eval y=vb at U⊢;simp only[rd] at F;split at F
 .rename_i c c' hc I;rw[hc] at O;rw[I] at U;obtain⟨vs,rfl,l1,r1⟩:=qN O;obtain⟨us,rfl,l2,r2⟩:=qN U;split at F
  .rename_i b hb;have M:=aKt (P:=P) (vs:=vs.toList) (us:=us.toList) hb (by simpa using l1) (by simpa using l2) (λj J=>by rw[getD_toList];exact r1 j J) (λj J=>by rw[getD_toList];exact r2 j J);have u:=(aM6 (P:=P) w 30).1 t V ht true Z vs.toList us.toList b 9970 M;simp only[aAd,Bt] at u;rcases L with⟨rfl,rfl⟩|⟨rfl,rfl⟩
   .refine⟨_,_,F,?_,.clo (.v _)⟩;simp only[Sem.run_bind,run_eqGuard_agg w _ t x y vs us Y,Result.andThen_ok,run_eql_struct w t vs us];rw[show(10000:Nat)=30+9970 from rfl,u];rfl
   .refine⟨_,_,F,?_,.clo (.v _)⟩;simp only[Sem.run_bind,run_eqGuard_agg w _ t x y vs us Y,Result.andThen_ok,run_neq_struct w t vs us];rw[show(10000:Nat)=30+9970 from rfl,u];rfl
  .exact F.elim
 .exact F.elim
end
section
variable [Envs]
variable {P:Program}{C:Ctx}{σ:FSt}{a:Act}{w:World}{S:Nat->Prop}{ρ:Name->Option Nat}{κ:Name->Nat}{K:AV->Prop}
theorem aDm (u:List Int):u.foldl (λr n=>r.push (UInt8.ofNat n.toNat)) ByteArray.empty=lH u:=by
 have F:∀(u:List Int) (b:ByteArray),u.foldl (λr n=>r.push (UInt8.ofNat n.toNat)) b=⟨b.data++(u.map λn=>UInt8.ofNat n.toNat).toArray⟩:=by
  intro u
  induction u with
  |nil=>intro b;cases b;simp
  | cons n r ih =>
   intro b;simp only[List.foldl_cons,ih];cases b;simp[ByteArray.push]
 rw[F];simp[lH,ByteArray.empty,ByteArray.emptyWithCapacity];rfl
theorem aAn:∀{l:List (List AV)}{u:List Int},rT l=some u->l=u.map λn=>[.v (.int .u8 n)]
 | [],u,h=>by simp[rT] at h;simp[h]
 | [.v (.int .u8 n)]::r,u,h=>by
  simp only[rT] at h;split at h
  .rename_i l F;obtain rfl:=Av h;rw[aAn F];rfl
  .cases h
 | []::r,u,h=>by simp[rT] at h
 |(x::y::s)::r,u,h=>by simp[rT] at h
 | [x]::r,u,h=>by
  cases x<;>try(simp[rT] at h;done)
  rename_i v;cases v<;>try(simp[rT] at h;done)
  rename_i k n;cases k<;>try(simp[rT] at h;done)
  simp only[rT] at h;split at h
  .rename_i l F;obtain rfl:=Av h;rw[aAn F];rfl
  .cases h
theorem aMG (V:OK C σ a w S ρ κ) {s d e:TypeId} (hs:P.underlying s=some (.slice e)) (he:P.underlying e=some (.int .u8)) (hd:P.underlying d=some .string) {x:Operand}
  (L:rd (evO σ.s) σ.h K (.b2s x)):Ans P S w ρ κ σ.h K (convert s d (a.eval x)):=by
 have hx:=V.ev x;generalize a.eval x=va at hx⊢;simp only[rd] at L;split at L
 .rename_i l hl;split at L
  .rename_i ns Z;obtain⟨M,cap,f,rfl,hr⟩:=aCO V.hok hx hl;have U:=aAn Z;refine⟨_,_,L,?_,.clo (.v _)⟩;rw[run_convert_bytes_string w s d e _ _ _ hs he hd];have G:l.length=ns.length:=by rw[U];simp
   cases ns with
   | nil =>
    have h0:l.length=0:=by simpa using G
    rw[h0];cases M with
    | none =>
     simp[Conv.bytesToString,lH,ByteArray.empty,ByteArray.emptyWithCapacity];rfl
    | some A =>
     rw[run_bytesToString w A 0 cap [] (by simp[loadCells,loadCellsFrom]),aDm]
   | cons J ns0 =>
    have F:=hr.cell w rfl;obtain⟨b,off,hb,_⟩:=F 0 (by simp at G;omega);subst hb;rw[G];rw[run_bytesToString w ⟨b,off,none⟩ _ cap (J::ns0) ?_,aDm];rw[run_loadCells w ⟨b,off,none⟩ _ f (λj H=>?_)]
    .congr 1;apply Array.ext';simp only;apply List.ext_getElem?;intro j;rcases Cw j (J::ns0).length with H|H
     .have I:=hr.rc j (by omega)
      have e1:qM 1 l j=.v (.int .u8 (J::ns0)[j]):=by
       have:l[j]? = some [.v (.int .u8 (J::ns0)[j])]:=by rw[U];simp only[BQ,Bf H,Ba]
       simp[qM,List.getD,this,Nat.mod_one]
      rw[e1] at I
      have e2:f j=.int .u8 (J::ns0)[j]:=by
       generalize f j=u at I;cases I with|v _=>rfl
      rw[BQ,List.getElem?_range H,BQ,Bf H,Ba,Ba,e2]
     .rw[Cr (show(List.map f (List.range (J::ns0).length)).length<=j by simpa using H),Cr (show(List.map (Value.int .u8) (J::ns0)).length<=j by simpa using H)]
    .obtain⟨b',ha,O,Y⟩:=F j (by omega);simp only[Aj,Addr.mk.injEq,and_true] at O;obtain⟨rfl,rfl⟩:=O;rw[addr_add];exact Y
  .exact L.elim
 .exact L.elim
def aKb (P:Program) (f:FuncId):Bool:=match P.funcs[f]? with
 |some fn=>fn.body.isNone&&fn.name == "internal/bytealg.IndexByteString" && fn.origin == ""
 |none=>false
theorem aKo {fn:Func} (h:fn.name = "internal/bytealg.IndexByteString"):Extern.find fn=some Extern.BytealgIndexByte.indexByte:=by
 unfold Extern.find;simp only[h];rfl
theorem aEW {fn:Func} (h:fn.name = "internal/bytealg.IndexByteString") (u:fn.origin = ""):Extern.findNext fn=none:=by
 unfold Extern.findNext;simp only[h,u];rfl
theorem aLi (H:OK C σ a w S ρ κ) {o:Oper}{c:Call}{f:FuncId}{x y:Operand} (M:o.op=.call c) (Z:c.callee=.value (.func f)) (F:c.args=#[x,y]) (hi:aKb P f=true)
  (I:rd (evO σ.s) σ.h K (.idxB x y)):∃V v,K V∧(execOp a.eval o).run P w=.ok (.value v) w∧RV S w ρ κ σ.h V v:=by
 have O:=H.ev x;have U:=H.ev y
 have u:(execOp a.eval o).run P w=(callFunc f #[a.eval x,a.eval y]).run P w:=by
  simp[execOp,M,resolve,Z,F,Act.eval,Deferred.ofValue,invoke]
 generalize a.eval x=va at O u;generalize a.eval y=vb at U u;simp only[rd] at I;split at I
 .rename_i s n Y h2;rw[Y] at O;rw[h2] at U;obtain rfl:=dD O;obtain rfl:=dD U;unfold aKb at hi;split at hi
  .rename_i fn L;simp only[Au,Bj] at hi;have G:(fn.name == "runtime.NumGoroutine")=false:=by rw[hi.1.2];rfl
   refine⟨_,.int .i64 (zM s n),I,?_,.clo (.v _)⟩;rw[u,run_callFunc_indexByte L G hi.1.1 (aEW hi.1.2 hi.2) (aKo hi.1.2)]
   have e:Extern.BytealgIndexByte.indexByte #[Value.string s,.int .u8 n]=(do
       let b ←Extern.Bytes.bytesOf (.string s)
       let c ←Extern.Bytes.asByte (.int .u8 n)
       match(List.range b.size).find? (λi=>b[i]! == c) with
       |some i=>pure (goInt i)
       |none=>pure (goInt (-1)):Sem Value):=rfl
   rw[e];simp only[Extern.Bytes.bytesOf,Extern.Bytes.asByte,Sem.run_bind,Sem.run_pure,Result.andThen_ok];unfold zM;split
   .rename_i i J;simp only[J,Sem.run_pure,Result.andThen_ok,goInt]
   .rename_i J;simp only[J,Sem.run_pure,Result.andThen_ok,goInt]
  .cases hi
 .exact I.elim
end
section
variable [Envs]
variable {P:Program}{C:Ctx}{a:Act}{w:World}{S:Nat->Prop}{ρ:Name->Option Nat}{κ:Name->Nat}
structure aL where
 dst:Option Nat
 op:AOp
 guard:Option (Nat×Bool)
def bG:AV->List Name
 |.loc n _ _=>[n]
 |.ptr n _ _=>[n]
 |_=>[]
def aX:AV->List Name
 |.agg c=>c.flatMap bG
 |x=>bG x
def aW (h:List (Name×Blk)) (n:Name):List Name:=
 match aB h n with
 |some (.var c _)=>c.flatMap bG
 |_=>[]
def aGd (h:List (Name×Blk)) (xs:List AV) (bor:List Nat):List Name:=
 let t:=bor.flatMap λi=>aX (xs.getD i .junk)
 t++t.flatMap (aW h)
def nodupB:List Name->Bool
 | []=>true
 |n::r=>!r.contains n&&nodupB r
def iR (d nB n:Nat) (σ:St):Bool:=(List.range n).all λj=>decide (j<nB)||dE (.t d j) σ
def aA (P:Program) (f:FuncId) (hin:List Blk) (ys:List AV) (L:List Name) (d:Option Nat) (σ:St) (B:List Name) (K:St->Prop) (_:Tag K):Prop:=
 ∃ r hout fz,Fn P f hin ys r hout∧(fz=false->(L=[]∨(flat r=true∧∀b,some b∈hout->aAg b)))∧
  iR (d.getD 0) B.length hout.length σ=true∧K ⟨put d (rn (phi B (d.getD 0) hout.length) r) σ.s,xB σ.h B (d.getD 0) hout fz L⟩
def aDA (P:Program) (d:Option Nat) (σ:St) (K:St->Prop) (fv:AV) (xs:List AV) (B:List Name):Prop:=
 match fv with
 | .fn f caps=>match dF (conv (aB σ.h) 8 B false) (xs++caps),vO (aB σ.h) B B with
  |some (ys,L1),some (hin,L2)=>nodupB B=true∧aA P f hin ys (L1++L2) d σ B K .x
  |_,_=>False
 |_=>False
def bN (P:Program) (d:Option Nat) (σ:St) (K:St->Prop):AOp->Prop
 | .box x=>match d with
  |some d=>al (evO (look σ.s)) (aB σ.h) (.t d 0) (λv b=>(dE (.t d 0) σ=true∧b.has (.t d 0)=false)∧K ⟨(d,v)::σ.s,(.t d 0,b)::σ.h⟩) (.box x)
  |none=>False
 | .alloc z=>match d with
  |some d=>al (evO (look σ.s)) (aB σ.h) (.t d 0) (λv b=>(dE (.t d 0) σ=true∧b.has (.t d 0)=false)∧K ⟨(d,v)::σ.s,(.t d 0,b)::σ.h⟩) (.alloc z)
  |none=>False
 | .bslice k m z ps=>match d with
  |some d=>al (evO (look σ.s)) (aB σ.h) (.t d 0) (λv b=>(dE (.t d 0) σ=true∧b.has (.t d 0)=false)∧K ⟨(d,v)::σ.s,(.t d 0,b)::σ.h⟩) (.bslice k m z ps)
  |none=>False
 | .mk k y z n=>match d with
  |some d=>al (evO (look σ.s)) (aB σ.h) (.t d 0) (λv b=>(dE (.t d 0) σ=true∧b.has (.t d 0)=false)∧K ⟨(d,v)::σ.s,(.t d 0,b)::σ.h⟩) (.mk k y z n)
  |none=>False
 |.call f args bor=>aDA P d σ K (evO (look σ.s) f) (args.map (evO (look σ.s))) (aGd σ.h (args.map (evO (look σ.s))) bor)
 | .store k A X=>d=none∧match evO (look σ.s) A with
  | .ptr n e c=>match aB σ.h n,kR (aB σ.h) (evO (look σ.s) X) with
   |some b,some cs=>(b.fz=false∧0<k∧cs.length=k∧c+k<=(b.row e).length∧b.okc cs=true)∧K ⟨σ.s,hset n (b.setRow e (lay (b.row e) c cs)) σ.h⟩
   |_,_=>False
  |_=>False
 | .append k y A X=>match d with
  | some d=>match aB9 k (aB σ.h) (evO (look σ.s) A),pJ k (aB σ.h) (evO (look σ.s) X) with
   | some (on,l),some l'=>(dE (.t d 0) (aT on σ)=true∧(l.length+l'.length)*y<=2 ^ 47∧l.length+l'.length<2 ^ 62)∧
     K ⟨(d,.loc (.t d 0) 0 (l.length+l'.length))::(aT on σ).s,(.t d 0,.arr k (l++l') false)::(aT on σ).h⟩
   |_,_=>False
  |none=>False
 | .appendC k y A X=>match d with
  | some d=>match aB9 k (aB σ.h) (evO (look σ.s) A),pJ k (aB σ.h) (evO (look σ.s) X) with
   | some (on,l),some l'=>(dE (.t d 0) (aT on σ)=true∧(l.length+l'.length)*y<=2 ^ 47∧l.length+l'.length<2 ^ 62)∧
     K ⟨(d,.sl k (l++l'))::(aT on σ).s,(aT on σ).h⟩
   |_,_=>False
  |none=>False
 | .bsliceC k m z ps=>match d with
  |some d=>al (evO (look σ.s)) (aB σ.h) (.t d 0) (λv b=>(dE (.t d 0) σ=true∧b.has (.t d 0)=false)∧∃rows,b=.arr k rows false∧v=.loc (.t d 0) 0 rows.length∧K ⟨(d,.sl k rows)::σ.s,σ.h⟩) (.bslice k m z ps)
  |none=>False
 | .clr k z X=>match evO (look σ.s) X with
  | .loc n off len=>match aB σ.h n with
   |some (.arr k' l fz)=>(fz=false∧k'=k∧z.length=k∧(z.all λx=>rQ (aB σ.h) x&&mV x)=true∧off+len<=l.length)∧K ⟨put d (.v (.tuple #[])) σ.s,hset n (.arr k (aAv l off len z) false) σ.h⟩
   |_=>False
  |_=>False
 |op=>rd (evO (look σ.s)) (aB σ.h) (λv=>K ⟨put d v σ.s,σ.h⟩) op
/-! ## resolving -/
def avs (z:Array Value):List AV:=z.toList.map λx=>.v x
def tJ (P:Program) (b:Builtin) (ts:List TypeId) (args:List Operand):Option AOp:=
 match b,ts,args with
 | .len,[t],[x]=>match P.underlying t with
  |some (.slice _)=>some (.len x)
  |some .string=>some (.lenS x)
  |some (.array n _)=>some (.lenC n)
  |_=>none
 | .append,[t,t2],[x,y]=>match P.underlying t,P.underlying t2 with
  | some (.slice e),some (.slice _)=>match P.info? e with
   | some i=>match i.zero with
    |some z=>if z.cells.size=i.size then some (.append i.size i.bytes x y) else none
    |none=>none
   |none=>none
  |_,_=>none
 |.max,[_,_],[x,y]=>some (.mm true x y)
 |.min,[_,_],[x,y]=>some (.mm false x y)
 | .clear,[t],[x]=>match P.underlying t with
  | some (.slice e)=>match P.info? e with
   | some i=>match i.zero with
    |some z=>some (.clr i.size (avs z.cells) x)
    |none=>none
   |none=>none
  |_=>none
 |_,_,_=>none
def bpS (P:Program) (fs:Array Field):List (Nat×Operand)->Option (List (Nat×Nat×Operand))
 | []=>some []
 | (i,x)::r=>match fs[i]? with
  | some f=>match j5 P f.type,bpS P fs r with
   |some n,some l=>some ((f.offset,n,x)::l)
   |_,_=>none
  |none=>none
def aJv:Operand->Operand->Bool
 |.tmp l,.tmp c=>l==c
 |.const (.int k l),.const (.int k' c)=>k==k'&&l==c
 |_,_=>false
theorem aJu {x y:Operand} (h:aJv x y=true):x=y:=by
 unfold aJv at h
 all_goals grind
def comp (P:Program):Op->Option AOp
 |.move x=>some (.mv x)
 |.assign x=>some (.mv x)
 |.pick c x y=>some (.pick c x y)
 |.alloc t=>(zOf P t).map λz=>.alloc (avs z)
 |.box _ x=>some (.box x)
 | .build t ps=>match P.underlying t,zOf P t with
  |some (.struct fs),some z=>if fs.all (λf=>(j5 P f.type).isSome) then(bpS P fs ps.toList).map λps=>.build (avs z) ps else none
  |some (.array _ e),some z=>(j5 P e).map λn=>.build (avs z) (ps.toList.map λp=>(p.1*n,n,p.2))
  |_,_=>none
 | .buildSlice t m ps=>match P.underlying t with
  | some (.slice e)=>match j5 P e,zOf P e with
   |some k,some z=>some (.bslice k m (avs z) ps.toList)
   |_,_=>none
  |_=>none
 |.load t x=>(tY P t).map λp=>.load p.1 p.2 x
 |.store t A X=>(j5 P t).map λk=>.store k A X
 |.nilCheck x=>some (.nilc x)
 | .binOp op t x y _=>match P.underlying t with
  |some (.int _)=>some (.bin op x y)
  |some .string=>some (.binS op x y)
  |some .bool=>some (.binB op x y)
  | some (.struct _)=>match eqT P 30 t with
   | some ks=>if P.eqGuardType P.depth t=false∧jB P t=some true then match op with
     |.eql=>some (.eqA false ks x y)
     |.neq=>some (.eqA true ks x y)
     |_=>none
    else none
   |none=>none
  |_=>none
 |.unOp op _ x=>some (.un op x)
 | .convert s d x=>match P.underlying s,P.underlying d with
  |some (.int _),some (.int k)=>some (.conv k x)
  | some (.slice e),some .string=>match P.underlying e with
   |some (.int .u8)=>some (.b2s x)
   |_=>none
  |_,_=>none
 |.makeFunc (.func f) first caps=>if first.size=0 then some (.mkfn f caps.toList) else none
 | .makeSlice t L L'=>if aJv L L'=true then match P.underlying t with
   | some (.slice e)=>match P.info? e with
    | some i=>match i.zero with
     |some z=>some (.mk i.size i.bytes (avs z.cells) L)
     |none=>none
    |none=>none
   |_=>none
  else none
 | .slice t x lo hi none=>match P.underlying t with
  |some (.slice e)=>(j5 P e).map λk=>.slc k x lo hi
  |some .string=>some (.sstr x lo hi)
  |_=>none
 | .fieldAddr s x i=>match wL P s i with
  | some f=>match j5 P f.type with
   |some (_+1)=>some (.fieldAddr f.offset x)
   |_=>none
  |none=>none
 | .field s x i=>match wL P s i with
  |some f=>(tY P f.type).bind λp=>if j5 P f.type=some p.2 then some (.field p.1 f.offset p.2 x) else none
  |none=>none
 | .indexAddr t x i=>match P.underlying t with
  |some (.slice e)=>(j5 P e).map λk=>.idxSl k x i
  |some (.array n e)=>(j5 P e).map λk=>.idxArr n k x i
  |_=>none
 | .index t x i=>match P.underlying t with
  |some .string=>some (.idxStr x i)
  |some (.array n e)=>(tY P e).bind λp=>if j5 P e=some p.2 then some (.idxAgg p.1 n p.2 x i) else none
  |_=>none
 |.extract x i=>some (.extract x i)
 | .call c=>match c.callee with
  |.builtin b=>tJ P b c.argTypes.toList c.args.toList
  | .value (.func f)=>if aKb P f then match c.args.toList with
    | [x,y]=>some (.idxB x y)
    |_=>none
   else some (.call (.func f) c.args.toList [])
  |.value f=>some (.call f c.args.toList [])
  |.invoke _ _=>none
 |_=>none
def AOp.bare0:AOp->AOp
 |.call f args _=>.call f args []
 |op=>op
def AOp.bare:AOp->AOp
 |.appendC k y a x=>.append k y a x
 |.loadV g k a=>.load g k a
 |.fieldV off x=>.fieldAddr off x
 |.bsliceC k n z ps=>.bslice k n z ps
 |op=>op.bare0
def dP (C:Ctx) (K:St->Prop) (a:Act) (w:World):Prop:=∃σ S ρ κ,K σ∧OK C (St.f σ) a w S ρ κ
theorem dP.put {σ:St} (u:OK C σ.f a w S ρ κ) {x:AV}{v:Value} (H:RV S w ρ κ σ.f.h x v) {d:Option Nat} (G:∀d',d=some d'->d'<C.nt) {K:St->Prop} (F:K ⟨Vs.put d x σ.s,σ.h⟩):dP C K (a.put d v) w:=by
 refine⟨_,S,ρ,κ,F,?_⟩;have:=u.put H G;simpa[St.f,kH] using this
theorem vV {σ:St}{K:St->Prop}{o:Oper}{Q:Exit->Act->World->Prop} (F:OK C σ.f a w S ρ κ) (H:∀d',o.dst=some d'->d'<C.nt)
  (h:∃x v,K ⟨put o.dst x σ.s,σ.h⟩∧(execOp a.eval o).run P w=.ok (.value v) w∧RV S w ρ κ σ.f.h x v):o.wp P a w (dP C K) Q:=by
 obtain⟨x,v,G,u,I⟩:=h;unfold Oper.wp;rw[u];exact dP.put F I H G
theorem aHl {s:Sem Value}{v:Value}{w':World} (h:s.run P w=.ok v w'):(do pure (Next.value (←s)):Sem Next).run P w=.ok (.value v) w':=by
 simp[h]
theorem aBn {σ:St} (Z:OK C σ.f a w S ρ κ) {t:TypeId}{I:Array Field}{z:Array Value}{H:Array (Nat×Operand)}{V:List (Nat×Nat×Operand)}{K:AV->Prop}
  (hu:P.underlying t=some (.struct I)) (hz:zOf P t=some z) (L:I.all (λf=>(j5 P f.type).isSome)=true) (Y:bpS P I H.toList=some V) (hv:rd (evO (look σ.s)) (aB σ.h) K (.build (avs z) V)) :
  Ans P S w ρ κ σ.f.h K (Instr.build t (H.map λ(i,x)=>(i,a.eval x))):=by
 obtain⟨zv,U,rfl⟩:=aAL hz w
 let u:Array (Nat×Nat):=I.map λf=>(f.offset,(j5 P f.type).getD 0)
 have F:(I.mapM λf=>(do pure (f.offset,←sizeOf f.type):Sem (Nat×Nat))).run P w=.ok u w:=by
  have ha:∀(l:List Field) (J:List (Nat×Nat)),(∀f,f∈l->(j5 P f.type).isSome)->(l.mapM λf=>(do pure (f.offset,←sizeOf f.type):Sem (Nat×Nat))).run P w=.ok (l.map λf=>(f.offset,(j5 P f.type).getD 0)) w:=by
   intro l
   induction l with
   |nil=>intro _ _;simp
   | cons f r ih =>
    intro J hl;obtain⟨n,hn⟩:=AQ.1 (hl f (by simp));simp only[List.mapM_cons,Sem.run_bind,run_sizeOf hn,Result.andThen_ok,Sem.run_pure,ih J (λg hg=>hl g (by simp[hg])),AU,hn,BS]
  have:=ha I.toList [] (λf hf=>by
    have:=Array.all_eq_true'.1 L f (by simpa using hf);exact this)
  rw[Array.mapM_eq_mapM_toList];simp only[Sem.run_map,this,Result.andThen_ok];congr 1;apply Array.ext';simp[u]
 simp only[rd] at hv
 have O:H.toList.map (λp=>((u[p.1]?:Option (Nat×Nat))).map λq=>(q.1,q.2,p.2))=V.map some:=by
  revert Y;generalize H.toList=l;clear hv
  induction l generalizing V with
  |nil=>intro Y;simp[bpS] at Y;simp[Y]
  | cons p r ih =>
   grind [bpS]
 obtain⟨cs,vs,hK,G,M,_⟩:=aCz Z (λi=>u[i]?) H.toList V _ _ O (tL zv.cells) hv;refine⟨_,.agg vs,hK,?_,.agg _ _ M.1 M.2⟩;have e:(H.map λ(i,x)=>(i,a.eval x)).toList=H.toList.map λp=>(p.1,a.eval p.2):=by simp
 simp only[Instr.build,Sem.run_bind,U,Result.andThen_ok,run_underlying hu,F,e];rw[G];rfl
theorem aCc {σ:St} (I:OK C σ.f a w S ρ κ) {t e:TypeId}{m n:Nat}{z:Array Value}{H:Array (Nat×Operand)}{K:AV->Prop}
  (U:P.underlying t=some (.array m e)) (V:zOf P t=some z) (O:j5 P e=some n) (J:rd (evO (look σ.s)) (aB σ.h) K (.build (avs z) (H.toList.map λp=>(p.1*n,n,p.2)))) :
  Ans P S w ρ κ σ.f.h K (Instr.build t (H.map λ(i,x)=>(i,a.eval x))):=by
 obtain⟨Y,G,rfl⟩:=aAL V w;simp only[rd] at J;obtain⟨cs,vs,M,u,F,_⟩:=aCz I (λi=>some (i*n,n)) H.toList _ _ _ (by simp) (tL Y.cells) J;refine⟨_,.agg vs,M,?_,.agg _ _ F.1 F.2⟩;have L:(H.map λ(i,x)=>(i,a.eval x)).toList=H.toList.map λp=>(p.1,a.eval p.2):=by simp
 simp only[Instr.build,Sem.run_bind,G,Result.andThen_ok,run_underlying U,run_sizeOf O,L];rw[u];rfl
theorem pQ:∀{B:List Name},nodupB B=true->B.Nodup
 | [],_=>List.nodup_nil
 | n::r,h=>by
  simp only[nodupB,Au,Bz,CV,BH] at h;exact DI.2 ⟨h.1,pQ h.2⟩
theorem aDU {σ:St}{K:St->Prop}{o:Oper}{c:Call}{f:Operand}{bor:List Nat}{Q:Exit->Act->World->Prop} (J:OK C σ.f a w S ρ κ) (hd:∀d',o.dst=some d'->d'<C.nt)
  (ho:o.op=.call c) (hc:c.callee=.value f)
  (u:bN P o.dst σ K (.call f c.args.toList bor)):o.wp P a w (dP C K) Q:=by
 simp only[bN,aDA] at u;split at u
 .rename_i g caps hg;have hf:=J.ev f;simp only[St.f] at hf;rw[hg] at hf;obtain⟨vs,hk,hl,hr⟩:=aDi hf
  have F:wP P g:=by
   split at u
   .obtain⟨_,r,hout,fz,I,_⟩:=u;exact I.1
   .exact u.elim
  obtain⟨fn,b,L,h2,h3⟩:=F
  have V:(execOp a.eval o).run P w=.ok (.enter g (c.args.map a.eval++vs)) w:=by
   simp[execOp,ho,resolve,hc,hk,Deferred.ofValue,invoke,callFunc,L,h2,h3]
  unfold Oper.wp;rw[V];simp only[Oper.upon];split at u
  .rename_i ys L1 hin L2 hn M;obtain⟨he,r,hout,fz,I,H,Y,hK⟩:=u
   have O:∀j,(aGd σ.h (c.args.toList.map (evO (look σ.s))) bor).length<=j->j<hout.length->dE (.t (o.dst.getD 0) j) σ=true:=by
    grind [iR]
   have G:=aG1 (K:=fun σ' x=>∃σl:St,σl.f=σ'∧K ⟨put o.dst (rn (phi (aGd σ.h (c.args.toList.map (evO (look σ.s))) bor) (o.dst.getD 0) hout.length) r) σ.s,σl.h⟩∧σl.s=σ.s∧x=rn (phi (aGd σ.h (c.args.toList.map (evO (look σ.s))) bor) (o.dst.getD 0) hout.length) r) J (d:=o.dst.getD 0) (f:=g) (caps:=caps) (xs:=c.args.toList.map (evO (look σ.s))) (pQ he) (vs:=c.args.map a.eval++vs) (by
       simp only[aKM,St.f,hn,M];refine⟨r,hout,fz,I,H,λj L h2=>dV (O j L h2),⟨σ.s,xB σ.h (aGd σ.h (c.args.toList.map (evO (look σ.s))) bor) (o.dst.getD 0) hout fz (L1++L2)⟩,?_,hK,rfl,rfl⟩;simp only[FSt.mk.injEq,Ci];refine aNm (λm hm=>?_) (λj L h2=>(dV (O j L h2)).1.1);obtain⟨_,hb,_⟩:=wN _ _ M;obtain⟨j,hj⟩:=BM.1 hm;obtain⟨b0,_,_,ha,_⟩:=hb j m hj;simp[ha]) (by simp[hl]) (λj hj=>by
       simp only[AC,BC,BK] at hj;by_cases U:j<c.args.size
       . have Z:(c.args.toList.map (evO (look σ.s))++caps).getD j .junk=evO (look σ.s) c.args[j]:=by
           grind [look,St,Oper,Call]
         have e2:(c.args.map a.eval++vs).getD j undef=a.eval c.args[j]:=by simp[U,show j<c.args.size+vs.size by omega]
         rw[Z,e2];exact J.ev _
       . have Z:(c.args.toList.map (evO (look σ.s))++caps).getD j .junk=caps.getD (j-c.args.size) .junk:=by
           grind
         have e2:(c.args.map a.eval++vs).getD j undef=vs.getD (j-c.args.size) undef:=by
           simp[CG,U]
         rw[Z,e2];exact hr _ (by omega))
   refine G.mono ?_
   all_goals grind [dP.put]
  .exact u.elim
 .exact u.elim
end
section
variable [Envs]
variable {P:Program}{C:Ctx}{a:Act}{w:World}{S:Nat->Prop}{ρ:Name->Option Nat}{κ:Name->Nat}
theorem bP {σ:St}{K:St->Prop}{o:Oper}{Q:Exit->Act->World->Prop} (F:OK C σ.f a w S ρ κ) (H:∀d',o.dst=some d'->d'<C.nt) {s:Sem Value}
  (I:execOp a.eval o=(do pure (Next.value (←s)))) (h:Ans P S w ρ κ σ.f.h (λv=>K ⟨put o.dst v σ.s,σ.h⟩) s):o.wp P a w (dP C K) Q:=by
 obtain⟨x,v,G,u,J⟩:=h;exact vV F H ⟨x,v,G,by rw[I];exact aHl u,J⟩
theorem yQ {σ:St}{K:St->Prop}{o:Oper}{d:Nat}{Q:Exit->Act->World->Prop} (F:o.dst=some d) (L:d<C.nt) {s:Sem Value}
  (M:execOp a.eval o=(do pure (Next.value (←s))))
  (h:Made P C σ.f a w S (.t d 0) (λv b=>(dE (.t d 0) σ=true∧b.has (.t d 0)=false)∧K ⟨(d,v)::σ.s,(.t d 0,b)::σ.h⟩) s):o.wp P a w (dP C K) Q:=by
 obtain⟨x,b,v,w',⟨⟨I,h2⟩,J⟩,G,H⟩:=h;obtain⟨ρ',κ',u,O⟩:=H (dV I) h2
 have e:(St.mk σ.s ((.t d 0,b)::σ.h)).f=⟨σ.f.s,hput σ.f.h (.t d 0) (some b)⟩:=by
  simp only[St.f,FSt.mk.injEq,Ci]
  funext m;simp only[aB,hput]
 unfold Oper.wp;rw[M,aHl G];show dP C K (a.put o.dst v) w'
 rw[←e] at u;rw[F];exact dP.put (σ:=⟨σ.s,(.t d 0,b)::σ.h⟩) u (by rw[e];exact O) (λd' h=>by rw[←Av h];exact L) J
theorem bare_eq {op u:AOp} (h:op.bare0=u):(∃f args bor,op=.call f args bor∧u=.call f args [])∨((∀f args bor,op≠.call f args bor)∧op=u):=by
 cases op<;>simp only[AOp.bare0] at h<;>first
  |exact .inr ⟨by simp,h⟩
  |exact .inl ⟨_,_,_,rfl,h.symm⟩
theorem dY {op u:AOp} (h:some u=some op.bare0) (F:∀f args bor,u≠.call f args bor:=by intro _ _ _ h;cases h):op=u:=by
 rcases bare_eq (Av h).symm with⟨f,args,bor,_,h⟩|⟨_,h⟩
 .exact absurd h (F _ _ _)
 .exact h
theorem aFC {T:TypeId}{g:Bool}{k:Nat} (h:tY P T=some (g,k)):jB P T=some g:=by
 unfold tY at h;split at h
 .rename_i n u h2;simp only[Aj,AZ] at h;rw[u,h.1]
 .rename_i n u h2;simp only[Aj,AZ] at h;rw[u,h.1]
 .cases h
theorem aG5 {α:Type}{x:Array α}{p q:α} (h:x.toList=[p,q]):x=#[p,q]:=by
 apply Array.ext';simpa using h
theorem arr1 {α:Type}{x:Array α}{p:α} (h:x.toList=[p]):x=#[p]:=by
 apply Array.ext';simpa using h
theorem aFg {o:Oper}{c:Call}{b:Builtin} (F:o.op=.call c) (u:c.callee=.builtin b) :
  execOp a.eval o=builtin b c.argTypes o.type (c.args.map fun|.const _=>true|_=>false) (c.args.map a.eval):=by
 simp only[execOp,F,resolve,u];rfl
theorem o8 {σ:St}{K:St->Prop}{o:Oper}{op:AOp}{Q:Exit->Act->World->Prop} (u:comp P o.op=some op.bare0) (F:OK C σ.f a w S ρ κ) (J:∀d',o.dst=some d'->d'<C.nt)
  (G:bN P o.dst σ K op):o.wp P a w (dP C K) Q:=by
 generalize H:o.op=oop at u;cases oop
 case move x =>
  obtain rfl:=dY u;exact vV F J ⟨_,_,G,by simp[execOp,H],F.ev x⟩
 case assign x =>
  obtain rfl:=dY u;exact vV F J ⟨_,_,G,by simp[execOp,H],F.ev x⟩
 case pick c x y =>
  obtain rfl:=dY u;have hq:=F.ev c;simp only[bN,rd] at G;split at G
  .rename_i t ht;rw[show evO σ.f.s c=_ from ht] at hq;have:=dD hq;cases t
   .exact vV F J ⟨_,_,G.2 rfl,by simp[execOp,H,this,asBool],F.ev y⟩
   .exact vV F J ⟨_,_,G.1 rfl,by simp[execOp,H,this,asBool],F.ev x⟩
  .exact G.elim
 case alloc t =>
  simp only[comp] at u;cases Z:zOf P t with
  |none=>rw[Z] at u;cases u
  | some z =>
   rw[Z] at u;obtain rfl:=dY u;simp only[bN] at G;split at G
   .rename_i d I;exact yQ I (J d I) (by simp only[execOp,H]) (aKU F Z G)
   .exact G.elim
 case box t x =>
  obtain rfl:=dY u;simp only[bN] at G;split at G
  .rename_i d I;exact yQ I (J d I) (by simp only[execOp,H]) (aNk (T:=t) F G)
  .exact G.elim
 case build t ps =>
  simp only[comp] at u;split at u
  .rename_i fs z L Z;split at u
   .rename_i hm;cases hp:bpS P fs ps.toList with
    |none=>rw[hp] at u;cases u
    | some rp =>
     rw[hp] at u;obtain rfl:=dY u;exact bP F J (by simp only[execOp,H]) (aBn F L Z hm hp G)
   .cases u
  .rename_i m e z L Z;cases hn:j5 P e with
   |none=>rw[hn] at u;cases u
   | some n =>
    rw[hn] at u;obtain rfl:=dY u;exact bP F J (by simp only[execOp,H]) (aCc F L Z hn G)
  .cases u
 case buildSlice t m ps =>
  simp only[comp] at u;split at u
  .rename_i e L;split at u
   .rename_i k z hk Z;obtain rfl:=dY u;simp only[bN] at G;split at G
    .rename_i d I;refine yQ (σ:=σ) (S:=S) (K:=K) I (J d I) (s:=Instr.buildSlice t m (ps.map λ(i,x)=>(i,a.eval x))) (by simp only[execOp,H]) ?_;have:=aI3 F L hk Z G
     have e1:(ps.toList.map λp=>(p.1,a.eval p.2)).toArray=ps.map λ(i,x)=>(i,a.eval x):=by
      apply Array.ext';simp
     rw[e1] at this;exact this
    .exact G.elim
   .cases u
  .cases u
 case load t x =>
  simp only[comp] at u;cases hl:tY P t with
  |none=>rw[hl] at u;cases u
  | some p =>
   rw[hl] at u;obtain rfl:=dY u;exact bP F J (by simp only[execOp,H]) (aHq F hl G)
 case store t A X =>
  simp only[comp] at u;cases hl:j5 P t with
  |none=>rw[hl] at u;cases u
  | some k =>
   rw[hl] at u;obtain rfl:=dY u;obtain⟨h6,G⟩:=G
   have:=aI4 F (A:=A) (X:=X) hl (K:=λh'=>∃l,aB l=h'∧K ⟨σ.s,l⟩) (by
     simp only[wrS,St.f];split at G
     . rename_i n e c hA
       rw[hA];split at G
       . rename_i b cs hb h5
         simp only[hb,h5];exact⟨G.1,_,wJ _ _ _,G.2⟩
       . exact G.elim
     . exact G.elim)
   obtain⟨h',w',⟨l,rfl,hK⟩,Y,V⟩:=this;unfold Oper.wp;have hr:(execOp a.eval o).run P w=.ok .skip w':=by simp[execOp,H,Y]
   rw[hr];simp only[Oper.upon,h6,Act.put];exact⟨⟨σ.s,l⟩,S,ρ,κ,hK,V⟩
 case nilCheck x =>
  obtain rfl:=dY u;exact vV F J (aLe F H G)
 case binOp op t x y yt =>
  simp only[comp] at u;split at u
  .simp only[Aj] at u;obtain rfl:=dY (Bd some u);exact bP F J (by simp only[execOp,H]) (aMF (t:=t) F G)
  .simp only[Aj] at u;obtain rfl:=dY (Bd some u);exact bP F J (by simp only[execOp,H]) (aLk (t:=t) F G)
  .rename_i L;obtain rfl:=dY u;exact bP F J (by simp only[execOp,H]) (aLl F L G)
  .rename_i L;split at u
   .rename_i ks hy;split at u
    .rename_i he;split at u
     .simp only[Aj] at u;obtain rfl:=dY (Bd some u);exact bP F J (by simp only[execOp,H]) (aJF F (.inl ⟨rfl,rfl⟩) hy he.1 he.2 G)
     .simp only[Aj] at u;obtain rfl:=dY (Bd some u);exact bP F J (by simp only[execOp,H]) (aJF F (.inr ⟨rfl,rfl⟩) hy he.1 he.2 G)
     .cases u
    .cases u
   .cases u
  .cases u
 case unOp op t x =>
  obtain rfl:=dY u;exact bP F J (by simp only[execOp,H]) (rd_un F G)
 case convert s d x =>
  simp only[comp] at u;split at u
  .rename_i h1 h2;obtain rfl:=dY u;exact bP F J (by simp only[execOp,H]) (aLj F h1 h2 G)
  .rename_i e h1 h2;split at u
   .rename_i h3;obtain rfl:=dY u;exact bP F J (by simp only[execOp,H]) (aMG F h1 h3 h2 G)
   .cases u
  .cases u
 case makeFunc fn first caps =>
  cases fn
  case func g =>
   simp only[comp] at u;split at u
   .rename_i qb;obtain rfl:=dY u;have h7:first=#[]:=Array.eq_empty_of_size_eq_zero qb
    have:=aLf (P:=P) (w:=w) (K:=λv=>K ⟨put o.dst v σ.s,σ.h⟩) F G;refine bP F J (s:=Instr.makeFunc (.func g) #[] (caps.map a.eval)) (by simp only[execOp,H,h7,C8,Bh]) ?_;simpa using this
   .cases u
  all_goals simp[comp] at u
 case makeSlice t l c =>
  simp only[comp] at u;split at u
  .rename_i h9;obtain rfl:=aJu h9;split at u
   .rename_i e L;split at u
    .rename_i i hi;split at u
     .rename_i z Z;obtain rfl:=dY u;simp only[bN] at G;split at G
      .rename_i d I;exact yQ I (J d I) (by simp only[execOp,H]) (al_mk F L hi Z G)
      .exact G.elim
     .cases u
    .cases u
   .cases u
  .cases u
 case slice t x lo hi mx =>
  cases mx
  case none =>
   simp only[comp] at u;split at u
   .rename_i e L;cases hk:j5 P e with
    |none=>rw[hk] at u;cases u
    | some k =>
     rw[hk] at u;obtain rfl:=dY u;exact bP F J (by simp only[execOp,H];rfl) (aMD F L hk G)
   .rename_i L;obtain rfl:=dY u;exact bP F J (by simp only[execOp,H];rfl) (aLd F L G)
   .cases u
  case some=>simp[comp] at u
 case fieldAddr s x i =>
  simp only[comp] at u;split at u
  .rename_i f hf;split at u
   .rename_i n hn;obtain rfl:=dY u;exact bP F J (by simp only[execOp,H]) (aEI F hf hn (by omega) G)
   .cases u
  .cases u
 case field s x i =>
  simp only[comp] at u;split at u
  .rename_i f hf;cases hl:tY P f.type with
   |none=>rw[hl] at u;cases u
   | some p =>
    obtain⟨g,n⟩:=p;rw[hl] at u;simp only[Co] at u;split at u
    .rename_i hs;obtain rfl:=dY u;have hg:=aFC hl;exact bP F J (by simp only[execOp,H]) (aJE F hf hs hg (λh=>aA0 (h ▸ hl)) G)
    .cases u
  .cases u
 case indexAddr t x i =>
  simp only[comp] at u;split at u
  .rename_i e L;cases hk:j5 P e with
   |none=>rw[hk] at u;cases u
   | some k =>
    rw[hk] at u;obtain rfl:=dY u;exact bP F J (by simp only[execOp,H]) (aJD F L hk G)
  .rename_i n e L;cases hk:j5 P e with
   |none=>rw[hk] at u;cases u
   | some k =>
    rw[hk] at u;obtain rfl:=dY u;exact bP F J (by simp only[execOp,H]) (aIq F L hk G)
  .cases u
 case index t x i =>
  simp only[comp] at u;split at u
  .rename_i L;obtain rfl:=dY u;exact bP F J (by simp only[execOp,H]) (aIp F L G)
  .rename_i n e L;cases hl:tY P e with
   |none=>rw[hl] at u;cases u
   | some p =>
    obtain⟨g,k⟩:=p;rw[hl] at u;simp only[Co] at u;split at u
    .rename_i hs;obtain rfl:=dY u;have hg:=aFC hl;exact bP F J (by simp only[execOp,H]) (aIr F L hs hg (λh=>aA0 (h ▸ hl)) G)
    .cases u
  .cases u
 case extract x i =>
  obtain rfl:=dY u;exact bP F J (by simp only[execOp,H]) (aGz F G)
 case call c =>
  simp only[comp] at u;split at u
  .rename_i b M;have hb:=aFg (a:=a) H M;unfold tJ at u;split at u
   .rename_i t x O U;have e1:=arr1 O;have e2:=arr1 U;split at u
    .rename_i e L;obtain rfl:=dY u;exact bP F J (s:=Builtin.len_ #[t] o.type #[a.eval x]) (by rw[hb,e1,e2];simp only[builtin,C8,AU,Bh]) (aME F L G)
    .rename_i L;obtain rfl:=dY u;exact bP F J (s:=Builtin.len_ #[t] o.type #[a.eval x]) (by rw[hb,e1,e2];simp only[builtin,C8,AU,Bh]) (aLg F L G)
    .rename_i n e L;obtain rfl:=dY u;exact bP F J (s:=Builtin.len_ #[t] o.type #[a.eval x]) (by rw[hb,e1,e2];simp only[builtin,C8,AU,Bh]) (aLh _ L G)
    .cases u
   .rename_i t t2 A X O U;have e1:=aG5 O;have e2:=aG5 U;split at u
    .rename_i e qf L qc;split at u
     .rename_i i hi;split at u
      .rename_i z Z;split at u
       .rename_i qe;obtain rfl:=dY u;simp only[bN] at G;split at G
        .rename_i d I;split at G
         .rename_i on l l' ho qa;obtain⟨⟨hf,h1,h2⟩,hK⟩:=G
          have hj:=aIa (P:=P) (ty:=o.type) F (K:=fun σ' x=>∃σl:St,σl.f=σ'∧K ⟨(d,x)::σl.s,σl.h⟩) L qc hi Z qe (A:=A) (X:=X) (d:=.t d 0) (λqg l2 ha=>by
            simp only[St.f] at ha;rw[ho] at ha;simp only[Aj,AZ] at ha;obtain⟨rfl,rfl⟩:=ha;have:=dV hf;rw[aFJ] at this;exact this) (by
            simp only[wrA,St.f,ho,qa];refine⟨⟨h1,h2⟩,⟨(aT on σ).s,(.t d 0,.arr i.size (l++l') false)::(aT on σ).h⟩,?_,hK⟩;have hw:=aFJ on σ;have k1:look (aT on σ).s=(aBY on ⟨look σ.s,aB σ.h⟩).s:=Bd FSt.s hw;have k2:aB (aT on σ).h=(aBY on ⟨look σ.s,aB σ.h⟩).h:=Bd FSt.h hw;simp only[FSt.mk.injEq];refine⟨k1,?_⟩
            funext m
            simp only[aB,hput,←k2])
          obtain⟨σ',x,v,w',ρ',κ',⟨σl,rfl,h0⟩,Y,V,hx⟩:=hj;unfold Oper.wp
          have hr:(execOp a.eval o).run P w=.ok (.value v) w':=by
           rw[hb,e1,e2];simp only[builtin,C8,AU,Bh];exact aHl Y
          rw[hr];simp only[Oper.upon,I];exact dP.put V hx (d:=some d) (λd' h=>by rw[←Av h];exact J d I) h0
         .exact G.elim
        .exact G.elim
       .cases u
      .cases u
     .cases u
    .cases u
   .rename_i t t2 x y O U;have e1:=aG5 O;have e2:=aG5 U;obtain rfl:=dY u;exact bP F J (s:=Builtin.max_ #[t,t2] o.type #[a.eval x,a.eval y]) (by rw[hb,e1,e2];simp only[builtin,C8,AU,Bh]) (aMi (mx:=true) (t:=#[t,t2]) (T:=o.type) F G)
   .rename_i t t2 x y O U;have e1:=aG5 O;have e2:=aG5 U;obtain rfl:=dY u;exact bP F J (s:=Builtin.min_ #[t,t2] o.type #[a.eval x,a.eval y]) (by rw[hb,e1,e2];simp only[builtin,C8,AU,Bh]) (aMi (mx:=false) (t:=#[t,t2]) (T:=o.type) F G)
   .rename_i t x O U;have e1:=arr1 O;have e2:=arr1 U;split at u
    .rename_i e L;split at u
     .rename_i i hi;split at u
      .rename_i z Z;obtain rfl:=dY u
       have hj:=aMw (P:=P) (ty:=o.type) F L hi Z (X:=x) (K:=λh'=>∃l,aB l=h'∧K ⟨Vs.put o.dst (.v (.tuple #[])) σ.s,l⟩) (by
         simp only[wrC,St.f];simp only[bN] at G;split at G
         . rename_i n off len hA
           rw[hA];split at G
           . rename_i k' l fz h4
             simp only[h4];exact⟨G.1,_,wJ _ _ _,G.2⟩
           . exact G.elim
         . exact G.elim)
       obtain⟨h',w',⟨l,rfl,hK⟩,Y,V⟩:=hj;unfold Oper.wp
       have hr:(execOp a.eval o).run P w=.ok (.value (.tuple #[])) w':=by
        rw[hb,e1,e2];simp only[builtin,C8,AU,Bh];exact aHl Y
       rw[hr];exact dP.put (σ:=⟨σ.s,l⟩) V (.clo (.v _)) J hK
      .cases u
     .cases u
    .cases u
   .cases u
  .rename_i f M;split at u
   .rename_i h8;split at u
    .rename_i x y qd;simp only[Aj] at u;rcases bare_eq u.symm with⟨f',args,bor,rfl,h⟩|⟨_,rfl⟩
     .cases h
     .exact vV F J (aLi F H M (aG5 qd) h8 G)
    .cases u
   .simp only[Aj] at u;rcases bare_eq u.symm with⟨f',args,bor,rfl,h⟩|⟨hn,h⟩
    .simp only[AOp.call.injEq] at h;obtain⟨rfl,rfl,_⟩:=h;exact aDU F J H M G
    .exact absurd h (hn _ _ _)
  .rename_i f _ M;simp only[Aj] at u;rcases bare_eq u.symm with⟨f',args,bor,rfl,h⟩|⟨hn,h⟩
   .simp only[AOp.call.injEq] at h;obtain⟨rfl,rfl,_⟩:=h;exact aDU F J H M G
   .exact absurd h (hn _ _ _)
  .cases u
 all_goals simp[comp] at u
theorem OK.close {σ:FSt} (u:OK C σ a w S ρ κ) {n:Name}{k d:Nat}{rows:List (List AV)}{z:Bool} (L:σ.h n=some (.arr k rows z)) (hd:σ.s d=.loc n 0 rows.length) :
  OK C ⟨upd σ.s (some d) (.sl k rows),λm=>if m=n then none else σ.h m⟩ a w (λb=>S b∨ρ n=some b) ρ κ:=by
 have J:∀b,S b->S b∨ρ n=some b:=λb h=>.inl h
 have Y:∀m,gQ ρ ρ κ κ σ.h (λm=>if m=n then none else σ.h m) m:=by
  intro m H F;simp only at F;split at F
  .cases F
  .exact⟨rfl,rfl,H,F,H.same_refl⟩
 have G:∀m,((λm=>if m=n then none else σ.h m) m).isSome->m≠n∧(σ.h m).isSome:=by
  intro m I;simp only at I;split at I
  .cases I
  .exact⟨by assumption,I⟩
 have Z:=u.slots d;rw[hd] at Z
 have V:=(vL u.hok J (E:=[]) (ρ':=ρ) (κ':=κ) (h':=σ.h) (by simp) 8 true (.loc n 0 rows.length) (.sl k ((rows.drop 0).take rows.length)) [n] _ (by simp[conv,kJ,L])
   (λm I y hy=>by rw[Ar.1 I] at hy;exact .inr hy) Z).2.1 rfl
 rw[Di,Ce] at V
 refine ⟨u.nt,u.defers,λt=>?_,⟨λm H F=>?_,λm M y O h2 h3 h4=>u.hok.inj m M y (G m O).2 (G M h2).2 h3 h4,λb F=>?_,u.hok.env.mono J λ_ _=>rfl⟩,u.size,u.old,
   λm y O h2=>u.mine m y (G m O).2 h2,λb h=>.inl (u.S0 b h),λb h=>?_,u.out,λj H F=>?_⟩
 .simp only[upd];split
  .subst_vars;exact .clo V
  .exact(u.slots t).mono J (λ_ _=>rfl) λm _=>Y m
 .simp only at F;split at F
  .cases F
  .rename_i U;refine(u.hok.blk m H F).mono J (λx hx h=>?_) (λ_ _=>rfl) (λ_ _=>rfl) rfl rfl λM _=>Y M;rcases h with h|h
   .exact h
   .exact absurd (u.hok.inj m n x (by simp[F]) (by simp[L]) hx h) U
 .rcases F with h|h
  .exact u.hok.dom b h
  .exact u.hok.lt (n:=n) (by simp[L]) h
 .rcases h with h|h
  .exact u.Snew b h
  .exact .inr (u.mine n b (by simp[L]) h)
 .simp only at F;split at F
  .cases F
  .exact u.keep j H F
theorem aDv {σ:St}{K:St->Prop}{n:Name}{k d:Nat}{rows:List (List AV)}{z:Bool}{s:List (Nat×AV)}{h:List (Name×Blk)} (I:σ=⟨(d,.loc n 0 rows.length)::s,(n,.arr k rows z)::h⟩) (H:aB h n=none)
  (G:K ⟨(d,.sl k rows)::s,h⟩) (u:OK C σ.f a w S ρ κ):dP C K a w:=by
 subst I;have:=u.close (n:=n) (k:=k) (d:=d) (rows:=rows) (z:=z) (by simp[St.f,aB]) (by simp[St.f,look]);refine⟨⟨(d,.sl k rows)::s,h⟩,λb=>S b∨ρ n=some b,ρ,κ,G,?_⟩
 have F:(⟨upd (St.f ⟨(d,.loc n 0 rows.length)::s,(n,.arr k rows z)::h⟩).s (some d) (.sl k rows),λm=>if m=n then none else(St.f ⟨(d,.loc n 0 rows.length)::s,(n,.arr k rows z)::h⟩).h m⟩:FSt)=(⟨(d,.sl k rows)::s,h⟩:St).f:=by
  simp only[St.f,FSt.mk.injEq];refine⟨funext λt=>?_,funext λm=>?_⟩
  .simp only[upd,look];split<;>rfl
  .simp only[aB];split
   .subst_vars;exact H.symm
   .rfl
 rw[F] at this;exact this
theorem yA {n:Name}{σ:St} (h:dE n σ=true):aB σ.h n=none:=(dV h).1.1
theorem vU {σ:St}{K:St->Prop}{o:Oper}{op:AOp}{Q:Exit->Act->World->Prop} (I:comp P o.op=some op.bare) (G:OK C σ.f a w S ρ κ) (O:∀d',o.dst=some d'->d'<C.nt)
  (F:bN P o.dst σ K op):o.wp P a w (dP C K) Q:=by
 by_cases L:∃k y A X,op=.appendC k y A X
 .obtain⟨k,y,A,X,rfl⟩:=L;cases hds:o.dst with
  |none=>rw[hds] at F;exact F.elim
  | some d =>
   simp only[bN,hds] at F;split at F
   .rename_i on l l' hA hX;obtain⟨⟨U,Z⟩,M⟩:=F
    refine Oper.wp_mono (λa' w' ⟨σ',S',ρ',κ',hσ,hok'⟩=>?_) (o8 (P:=P) (op:=.append k y A X) (K:=fun σ'=>σ'=⟨(d,.loc (.t d 0) 0 (l.length+l'.length))::(aT on σ).s,(.t d 0,.arr k (l++l') false)::(aT on σ).h⟩) I G O (by
      simp only[bN,hds,hA,hX];exact⟨⟨U,Z⟩,trivial⟩))
    exact aDv (by rw[hσ,AC]) (yA U) M hok'
   .exact F.elim
 .by_cases h2:∃k m z J,op=.bsliceC k m z J
  .obtain⟨k,m,z,J,rfl⟩:=h2;cases hds:o.dst with
   |none=>rw[hds] at F;exact F.elim
   | some d =>
    simp only[bN,hds] at F
    refine Oper.wp_mono (λa' w' ⟨σ',S',ρ',κ',⟨rows,hσ,U,M⟩,hok'⟩=>?_) (o8 (P:=P) (op:=.bslice k m z J) (K:=fun σ'=>∃rows,σ'=⟨(d,.loc (.t d 0) 0 rows.length)::σ.s,(.t d 0,.arr k rows false)::σ.h⟩∧dE (.t d 0) σ=true∧K ⟨(d,.sl k rows)::σ.s,σ.h⟩) I G O (by
      simp only[bN,hds]
      have:∀{V Y:AV->Blk->Prop}{op:AOp},(∀v b,V v b->Y v b)->al (evO (look σ.s)) (aB σ.h) (.t d 0) V op->al (evO (look σ.s)) (aB σ.h) (.t d 0) Y op:=by
        intro V Y op H u
        have lay:∀(J:List (Nat×Nat×Operand)) (cs:List AV) {L1 L2:List AV->Prop},(∀c,L1 c->L2 c)->layAll (evO (look σ.s)) (aB σ.h) cs J L1->layAll (evO (look σ.s)) (aB σ.h) cs J L2:=by
          intro J
          induction J with
          |nil=>intro cs L1 L2 hh u;exact hh _ u
          | cons p r ih =>
            intro cs L1 L2 hh u;obtain⟨o,n,x⟩:=p;simp only[layAll] at u⊢;split at u
            . exact⟨u.1,ih _ hh u.2⟩
            . exact u
        cases op<;>simp only[al] at u⊢<;> try exact u
        . split at u
          . exact H _ _ u
          . exact u
        . exact⟨u.1,H _ _ u.2⟩
        . exact⟨u.1,lay _ _ (λc I=>⟨I.1,H _ _ I.2⟩) u.2⟩
        . split at u
          . exact⟨u.1,H _ _ u.2⟩
          . exact u
      refine this (λv b ha=>?_) F;obtain⟨L,rows,rfl,rfl,M⟩:=ha;exact⟨L,rows,rfl,L.1,M⟩))
    exact aDv hσ (yA U) M hok'
  .by_cases h3:∃g k A,op=.loadV g k A
   .obtain⟨g,k,A,rfl⟩:=h3;exact o8 (op:=.load g k A) I G O (by simp only[bN] at F⊢;exact aJC F)
   .by_cases h4:∃f A,op=.fieldV f A
    .obtain⟨f,A,rfl⟩:=h4;exact o8 (op:=.fieldAddr f A) I G O (by simp only[bN] at F⊢;exact aIs F)
    .have e:op.bare=op.bare0:=by
      cases op<;>first
       |rfl
       |exact absurd ⟨_,_,_,_,rfl⟩ L
       |exact absurd ⟨_,_,_,_,rfl⟩ h2
       |exact absurd ⟨_,_,_,rfl⟩ h3
       |exact absurd ⟨_,_,rfl⟩ h4
     exact o8 (by rw[I,e]) G O F
def aE4 (t:Nat) (σ:St) (N:St->Prop):Prop:=match look σ.s t with
 | .loc n lo m=>match aB σ.h n with
  |some (.arr k rows _)=>(lo=0∧m=rows.length)∧N ⟨(t,.sl k rows)::(iK n σ).s,(iK n σ).h⟩
  |_=>False
 |_=>N σ
theorem aGa {σ:St}{N:St->Prop}{t:Nat} (F:aE4 t σ N) (G:OK C σ.f a w S ρ κ):dP C N a w:=by
 unfold aE4 at F;split at F
 .rename_i n lo m O;split at F
  .rename_i k rows z M;obtain⟨⟨rfl,rfl⟩,L⟩:=F;have I:=(G.close (n:=n) (k:=k) (d:=t) (rows:=rows) (z:=z) M O).kill n;refine⟨_,λb=>S b∨ρ n=some b,ρ,κ,L,?_⟩
   have J:qJ n ⟨upd σ.f.s (some t) (.sl k rows),λm=>if m=n then none else σ.f.h m⟩=(⟨(t,.sl k rows)::(iK n σ).s,(iK n σ).h⟩:St).f:=by
    simp only[qJ,St.f,FSt.mk.injEq];refine⟨funext λu=>?_,funext λm=>?_⟩
    .simp only[upd,look];by_cases H:u=t
     .subst H;simp[scr,AV.has]
     .rw[AJ H,AJ H];exact(nM (scr n) (by simp[scr,AV.has]) _ u).symm
    .simp only[iK,sJ];split<;>simp
   rw[J] at I;exact I
  .exact F.elim
 .exact⟨σ,S,ρ,κ,F,G⟩
/-! ## another name for a block -/
def nmF (n m:Name) (x:Name):Option Name:=if x=n then some m else if x=m then none else some x
theorem OK.rename {σ:FSt} (F:OK C σ a w S ρ κ) {n m:Name} (hf:n≠m) (hm:σ.h m=none) (hc:∀j,m≠.b j) :
  ∃ρ' κ',OK C ⟨λt=>rn (nmF n m) (σ.s t),λx=>if x=m then(σ.h n).map (rnB (nmF n m)) else if x=n then none else(σ.h x).map (rnB (nmF n m))⟩ a w S ρ' κ':=by
 let ρ':Name->Option Nat:=λx=>if x=m then ρ n else ρ x
 let κ':Name->Nat:=λx=>if x=m then κ n else κ x
 let h':Name->Option Blk:=λx=>if x=m then(σ.h n).map (rnB (nmF n m)) else if x=n then none else(σ.h x).map (rnB (nmF n m))
 have back:∀x L,h' x=some L->∃y b,σ.h y=some b∧L=rnB (nmF n m) b∧ρ' x=ρ y∧κ' x=κ y∧((x=m∧y=n)∨(x=y∧x≠m∧x≠n)):=by
  intro x L H;simp only[h'] at H;split at H
  .rename_i G;obtain⟨b,M,h2⟩:=Cv.1 H;exact⟨n,b,M,h2.symm,by simp[ρ',G],by simp[κ',G],.inl ⟨G,rfl⟩⟩
  .rename_i G;split at H
   .cases H
   .rename_i O;obtain⟨b,M,h2⟩:=Cv.1 H;exact⟨x,b,M,h2.symm,by simp[ρ',G],by simp[κ',G],.inr ⟨rfl,G,O⟩⟩
 have hφ:∀x y,nmF n m x=some y->ρ' y=ρ x∧κ' y=κ x∧∀L,h' y=some L->∃b,σ.h x=some b∧b.same L:=by
  intro x y J
  have hy:ρ' y=ρ x∧κ' y=κ x∧(h' y=(σ.h x).map (rnB (nmF n m))):=by
   simp only[nmF] at J;split at J
   .rename_i G;obtain rfl:=Av J;exact⟨by simp[ρ',G],by simp[κ',G],by simp[h',G]⟩
   .rename_i G;split at J
    .cases J
    .rename_i O;obtain rfl:=Av J;exact⟨by simp[ρ',O],by simp[κ',O],by simp[h',G,O]⟩
  refine⟨hy.1,hy.2.1,λL H=>?_⟩;rw[hy.2.2] at H;obtain⟨b,M,rfl⟩:=Cv.1 H;exact⟨b,M,aAP _ _⟩
 have I:∀x,(h' x).isSome->∃y,(σ.h y).isSome∧ρ' x=ρ y∧((x=m∧y=n)∨(x=y∧x≠m∧x≠n)):=by
  intro x G;obtain⟨L,H⟩:=AQ.1 G;obtain⟨y,b,M,_,h2,_,V⟩:=back x L H;exact⟨y,by simp[M],h2,V⟩
 refine⟨ρ',κ',F.nt,F.defers,λt=>(F.slots t).ren hφ,⟨λx L H=>?_,λx y z G hy hd he=>?_,F.hok.dom,F.hok.env⟩,F.size,F.old,λx z G hz=>?_,F.S0,F.Snew,F.out,λj b H=>?_⟩
 .obtain⟨y,b,M,rfl,h2,V,_⟩:=back x L H;have ha:=F.hok.blk y b M;cases b with
  | var c z =>
   obtain⟨u,cs,T,fr,Y,Z,g3,g4,U,g5,g6,g7⟩:=ha;refine⟨u,cs,T,fr,by rw[h2];exact Y,Z,g3,g4,U,by rw[V];exact g5,by rw[dI];exact g6,λj hj=>?_⟩;rw[dI] at hj;rw[nK _ _ _ hj];exact⟨(g7 j hj).1,(g7 j hj).2.ren hφ⟩
  | arr k l z =>
   obtain⟨g0,g⟩:=ha;refine⟨g0,?_⟩;rcases g with⟨Y,Z⟩|⟨u,cs,T,fr,Y,Z,g3,g4,U,g5,g6,g7⟩
   .exact .inl ⟨by rw[h2];exact Y,Z⟩
   .exact .inr ⟨u,cs,T,fr,by rw[h2];exact Y,Z,g3,g4,U,by rw[V];exact g5,g6,g7⟩
 .obtain⟨x2,q1,q2,q3⟩:=I x G;obtain⟨y2,r1,r2,r3⟩:=I y hy;have e:=F.hok.inj x2 y2 z q1 r1 (by rw[←q2];exact hd) (by rw[←r2];exact he);rcases q3 with⟨rfl,rfl⟩|⟨rfl,q4,q5⟩<;>rcases r3 with⟨rfl,rfl⟩|⟨rfl,r4,r5⟩
  .rfl
  .exact absurd e.symm r5
  .exact absurd e q5
  .exact e
 .obtain⟨y,q1,q2,_⟩:=I x G;exact F.mine y z q1 (by rw[←q2];exact hz)
 .obtain⟨y,b0,M,rfl,h2,V,h4⟩:=back _ b H;rcases h4 with⟨h4,_⟩|⟨rfl,_,_⟩
  .exact absurd h4.symm (hc j)
  .obtain⟨k1,k2,b1,k3,k4⟩:=F.keep j b0 M;refine⟨by rw[h2];exact k1,by rw[V];exact k2,b1,k3,?_⟩;have:=aAP (nmF n m) b0;revert k4 this;cases b1<;>cases b0<;>simp[Blk.same,rnB]<;>omega
def oU (n m:Name) (σ:St):St:=⟨σ.s.map λp=>(p.1,rn (nmF n m) p.2),σ.h.map λp=>(if p.1=n then m else p.1,rnB (nmF n m) p.2)⟩
theorem aBx {n m:Name}:∀(l:List (Name×Blk)) (x:Name),aB l m=none->aB (l.map λp=>(if p.1=n then m else p.1,rnB (nmF n m) p.2)) x =
  if x=m then(aB l n).map (rnB (nmF n m)) else if x=n then none else(aB l x).map (rnB (nmF n m))
 | [],x,_=>by simp[aB]
 | (i,b)::r,x,h=>by
  simp only[aB] at h;have hi:¬m=i:=λe=>by rw[AY e] at h;cases h
  rw[AJ hi] at h;have G:=aBx (n:=n) r x h;simp only[AU,aB];by_cases hin:i=n
  .subst hin;by_cases F:x=m
   .subst F;simp
   .by_cases u:x=i
    .subst u;rw[AY rfl,AJ F,G,AJ F];simp[F]
    .rw[AY rfl,AJ F,G,AJ F,AJ u,AJ F,AJ u,AJ u]
  .rw[AJ hin];by_cases F:x=m
   .subst F;rw[AJ hi,G,AY rfl,AY rfl,AJ (λe=>hin e.symm)]
   .by_cases u:x=i
    .subst u;rw[AY rfl,AJ F,AJ hin,AY rfl];rfl
    .rw[AJ u,G,AJ F,AJ F,AJ u]
def aHB (t:Nat) (σ:St) (N:St->Prop):Prop:=match look σ.s t with
 | .loc n _ _=>if n=.t t 0 then N σ else match aB σ.h (.t t 0) with
  |none=>dE (.t t 0) σ=true∧N (oU n (.t t 0) σ)
  |some _=>dE (.t t 0) (iK (.t t 0) σ)=true∧N (oU n (.t t 0) (iK (.t t 0) σ))
 |_=>N σ
theorem aD2 {σ:St}{N:St->Prop}{t:Nat}{n:Name} (L:n≠.t t 0) (J:dE (.t t 0) σ=true) (I:N (oU n (.t t 0) σ)) (G:OK C σ.f a w S ρ κ):dP C N a w:=by
 have F:=dV J;obtain⟨ρ',κ',H⟩:=G.rename (n:=n) (m:=.t t 0) L F.1.1 (λj=>by simp);refine⟨_,S,ρ',κ',I,?_⟩
 have e:(⟨λu=>rn (nmF n (.t t 0)) (σ.f.s u),λx=>if x=.t t 0 then(σ.f.h n).map (rnB (nmF n (.t t 0))) else if x=n then none else(σ.f.h x).map (rnB (nmF n (.t t 0)))⟩:FSt)=(oU n (.t t 0) σ).f:=by
  simp only[St.f,oU,FSt.mk.injEq];refine⟨funext λu=>(nM _ (by simp[rn]) _ u).symm,funext λx=>(aBx _ x F.1.1).symm⟩
 rw[e] at H;exact H
theorem aGE {σ:St}{N:St->Prop}{t:Nat} (u:aHB t σ N) (F:OK C σ.f a w S ρ κ):dP C N a w:=by
 unfold aHB at u;split at u
 .rename_i n lo m I;split at u
  .exact⟨σ,S,ρ,κ,u,F⟩
  .rename_i H;split at u
   .exact aD2 H u.1 u.2 F
   .have G:=F.kill (.t t 0);rw[←zK] at G;exact aD2 H u.1 u.2 G
 .exact⟨σ,S,ρ,κ,u,F⟩
end
end Go.Vs
