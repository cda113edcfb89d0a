/- One operation: what it asks, and that the machine then does it. -/
import Derived.Test.YtkgeiaideklmoaaGreatVsI
import Derived.Laws.StructEq
import Derived.Laws.BytesString
import Derived.Laws.StandIn
set_option linter.all false
set_option maxHeartbeats 8000000
namespace Go.Vs
section
variable [Envs]
variable {P:Program}{C:Ctx}{σ:FSt}{a:Act}{w:World}{S:Nat->Prop}{ρ:Name->Option Nat}{κ:Name->Nat}{h:Name->Option Blk}
def lH:List Name->Name->Option Nat
 | [],_=>none
 |m::r,n=>if m=n then some 0 else(lH r n).map (· + 1)
theorem pJ:∀{E:List Name}{n:Name}{j:Nat},lH E n=some j->E[j]? = some n
 | [],_,_,h=>by simp[lH] at h
 | m::r,n,j,h=>by
  simp only[lH] at h;split at h
  .grind
  .cases hr:lH r n with
   |none=>rw[hr] at h;simp at h
   | some i =>
    rw[hr] at h;simp only[AU,Ad] at h;subst h;simpa using pJ hr
theorem zD:∀{E:List Name}{n:Name},lH E n=none->n∉E
 | [],_,_=>by simp
 | m::r,n,h=>by
  simp only[lH] at h;split at h
  .cases h
  .rename_i F;have:lH r n=none:=by simpa using h
   simp only[Ap,not_or];exact⟨λe=>F e.symm,zD this⟩
def fD (f:AV->Option (AV×List Name)):List AV->Option (List AV×List Name)
 | []=>some ([],[])
 | x::r=>match f x,fD f r with
  |some (y,L),some (ys,L')=>some (y::ys,L++L')
  |_,_=>none
theorem gQ {f:AV->Option (AV×List Name)}:∀{c F:List AV}{L:List Name},fD f c=some (F,L)->F.length=c.length∧
  ∀j,j<c.length->∃H,f (c.getD j .junk)=some (F.getD j .junk,H)∧∀n,n∈H->n∈L
 | [],F,L,h=>by
  grind [fD]
 | x::r,F,L,h=>by
  simp only[fD] at h;split at h
  .rename_i y I ys Y J h2;simp only[Ad,AL] at h;obtain⟨rfl,rfl⟩:=h;obtain⟨O,Z⟩:=gQ h2;refine⟨by simp[O],λj hj=>?_⟩;cases j with
   |zero=>exact⟨I,by simpa using J,λn U=>Co _ U⟩
   | succ j =>
    grind
  .cases h
theorem aAQ {f:AV->Option (AV×List Name)}:∀{cs F:List AV}{L:List Name},fD f cs=some (F,L)->∀n,n∈L->∃j,j<cs.length∧∃H,f (cs.getD j .junk)=some (F.getD j .junk,H)∧n∈H
 | [],F,L,hm,n,hn=>by simp only[fD,Ad,AL] at hm;obtain⟨_,rfl⟩:=hm;simp at hn
 | x::r,F,L,hm,n,hn=>by
  simp only[fD] at hm;split at hm
  .rename_i y I ys Y J h2;simp only[Ad,AL] at hm;obtain⟨rfl,rfl⟩:=hm;rcases Bf.1 hn with hn|hn
   .exact⟨0,by simp,I,by simpa using J,hn⟩
   .obtain⟨j,U,H,g,O⟩:=aAQ h2 n hn;exact⟨j+1,by simpa using U,H,by simpa using g,O⟩
  .cases hm
def conv (h:Name->Option Blk):Nat->List Name->Bool->AV->Option (AV×List Name)
 |0,_,_,_=>none
 |_+1,_,c,.junk=>if c then none else some (.junk,[])
 | _+1,E,c,.loc n off len=>match lH E n with
  |some j=>if c then none else some (.loc (.b j) off len,[])
  | none=>match h n with
   |some (.arr k l _)=>some (.sl k ((l.drop off).take len),[n])
   |_=>none
 | m+1,E,c,.ptr n e o=>match lH E n with
  |some j=>if c then none else some (.ptr (.b j) e o,[])
  | none=>match h n with
   |some (.arr _ l _)=>some (.ro ((l.getD e []).drop o),[n])
   |some (.var cs _)=>(fD (conv h m E true) cs).map λp=>(.ro (p.1.drop o),n::p.2)
   |none=>none
 |m+1,E,c,.fn f cs=>(fD (conv h m E c) cs).map λp=>(.fn f p.1,p.2)
 |m+1,E,c,.agg cs=>(fD (conv h m E c) cs).map λp=>(.agg p.1,p.2)
 |m+1,E,c,.tup cs=>(fD (conv h m E c) cs).map λp=>(.tup p.1,p.2)
 |_+1,_,_,.v x=>some (.v x,[])
 |_+1,_,_,.sl k l=>some (.sl k l,[])
 |_+1,_,_,.ro c=>some (.ro c,[])
theorem aGm (S:Nat->Prop) {S':Nat->Prop} (F:∀b,S b->S' b) {x:AV}{v:Value} (h:RC S w x v):RC S' w x v:=h.mono F λ_ _=>rfl
theorem lJ (ha:HOK S w ρ κ h) {S':Nat->Prop} (hS:∀b,S b->S' b) {E:List Name}{ρ':Name->Option Nat}{κ':Name->Nat}{h':Name->Option Blk}
  (hE:∀j n,E[j]? = some n->ρ' (.b j)=ρ n∧κ' (.b j)=κ n∧∀b',h' (.b j)=some b'->∃b,h n=some b∧b.same b') :
  ∀ (m:Nat) (c:Bool) (x x':AV) (L:List Name) (v:Value),conv h m E c x=some (x',L)->(∀n,n∈L->∀y,ρ n=some y->S' y)->RV S w ρ κ h x v->
   (c=false->RV S' w ρ' κ' h' x' v)∧(c=true->RC S' w x' v)∧∀n,n∈L->n∉E∧(h n).isSome:=by
 intro m
 induction m with
 |zero=>intro c x x' L v F;simp[conv] at F
 | succ m ih =>
  intro c x x' L v F hL hx
  have Y:∀(cs H:List AV) (L:List Name) (vs:Array Value),fD (conv h m E c) cs=some (H,L)->(∀n,n∈L->∀y,ρ n=some y->S' y)->(∀j,j<cs.length->RV S w ρ κ h (cs.getD j .junk) (vs.getD j undef))->
    H.length=cs.length∧(c=false->∀j,j<H.length->RV S' w ρ' κ' h' (H.getD j .junk) (vs.getD j undef))∧(c=true->∀j,j<H.length->RC S' w (H.getD j .junk) (vs.getD j undef))∧∀n,n∈L->n∉E∧(h n).isSome:=by
   intro cs
   induction cs with
   | nil =>
    grind [fD]
   | cons x r ihr =>
    intro H L vs I hL hr;simp only[fD] at I;split at I
    .rename_i y L1 ys L2 h1 h2;simp only[Ad,AL] at I;obtain⟨rfl,rfl⟩:=I;have g1:=ih c x y L1 (vs.getD 0 undef) h1 (λn hn=>hL n (Co _ hn)) (by simpa using hr 0 (by simp))
     have g2:=ihr ys L2 (vs.extract 1 vs.size) h2 (λn hn=>hL n (CY _ hn)) (λj J=>by
       have:=hr (j+1) (by simpa using J)
       have e:(vs.extract 1 vs.size).getD j undef=vs.getD (j+1) undef:=by
         simp[Array.getElem?_extract,Nat.add_comm 1 j]
         all_goals grind
       rw[e];simpa using this)
     have e:∀j,(vs.extract 1 vs.size).getD j undef=vs.getD (j+1) undef:=by
      intro j;simp[Array.getElem?_extract,Nat.add_comm 1 j];split
      .rfl
      .simp[Array.getElem?_eq_none (show vs.size<=j+1 by omega)]
     refine⟨by simp[g2.1],λF j J=>?_,λF j J=>?_,λn hn=>?_⟩
     .cases j with
      |zero=>simpa using g1.1 F
      |succ j=>have:=g2.2.1 F j (by simpa using J);rw[e] at this;simpa using this
     .cases j with
      |zero=>simpa using g1.2.1 F
      |succ j=>have:=g2.2.2.1 F j (by simpa using J);rw[e] at this;simpa using this
     all_goals grind
    .cases I
  have O:∀x':AV,RC S' w x' v->(c=false->RV S' w ρ' κ' h' x' v)∧(c=true->RC S' w x' v):=λx' hr=>⟨λ_=>.clo hr,λ_=>hr⟩;cases x with
  | v y =>
   simp only[conv,Ad,AL] at F;obtain⟨rfl,rfl⟩:=F;obtain rfl:=bE hx;exact⟨(O _ (.v _)).1,(O _ (.v _)).2,by simp⟩
  | sl k l =>
   grind [conv,aGm,RV]
  | ro l =>
   grind [conv,aGm,RV]
  | junk =>
   simp only[conv] at F
   all_goals grind [RV]
  | fn f cs =>
   simp only[conv] at F;cases I:fD (conv h m E c) cs with
   |none=>rw[I] at F;cases F
   | some p =>
    obtain⟨H,L'⟩:=p;rw[I] at F;simp only[AU,Ad,AL] at F;obtain⟨rfl,rfl⟩:=F;obtain⟨vs,rfl,hl,hr⟩:=aBs hx;obtain⟨g1,g2,g3,g4⟩:=Y cs H L' vs I hL hr;exact⟨λF=>.fn _ _ _ (by omega) (g2 F),λF=>.fn _ _ _ (by omega) (g3 F),g4⟩
  | agg cs =>
   simp only[conv] at F;cases I:fD (conv h m E c) cs with
   |none=>rw[I] at F;cases F
   | some p =>
    obtain⟨H,L'⟩:=p;rw[I] at F;simp only[AU,Ad,AL] at F;obtain⟨rfl,rfl⟩:=F;obtain⟨vs,rfl,hl,hr⟩:=jW hx;obtain⟨g1,g2,g3,g4⟩:=Y cs H L' vs I hL hr;exact⟨λF=>.agg _ _ (by omega) (g2 F),λF=>.agg _ _ (by omega) (g3 F),g4⟩
  | tup cs =>
   simp only[conv] at F;cases I:fD (conv h m E c) cs with
   |none=>rw[I] at F;cases F
   | some p =>
    obtain⟨H,L'⟩:=p;rw[I] at F;simp only[AU,Ad,AL] at F;obtain⟨rfl,rfl⟩:=F;obtain⟨vs,rfl,hl,hr⟩:=uC hx;obtain⟨g1,g2,g3,g4⟩:=Y cs H L' vs I hL hr;exact⟨λF=>.tup _ _ (by omega) (g2 F),λF=>.tup _ _ (by omega) (g3 F),g4⟩
  | loc n off len =>
   simp only[conv] at F;split at F
   .rename_i j J;split at F
    .cases F
    .rename_i hf;simp only[Ad,AL] at F;obtain⟨rfl,rfl⟩:=F;refine⟨λ_=>.loc _ _ _ _ λk l z U=>?_,λh=>absurd h hf,by simp⟩;obtain⟨e1,e2,e3⟩:=hE j n (pJ J);obtain⟨b,hd,hs⟩:=e3 _ U;cases b with
     |var=>simp[Blk.same] at hs
     | arr k' l' z' =>
      simp only[Blk.same] at hs;obtain⟨rfl,qd⟩:=hs;have:=iN hx _ _ _ hd;rw[e1,e2,←qd];exact this
   .rename_i J;split at F
    .rename_i k l z U;simp only[Ad,AL] at F;obtain⟨rfl,rfl⟩:=F;have qf:qD k h (.loc n off len)=some ((l.drop off).take len):=by simp[qD,U]
     obtain⟨base,cap,rfl,hk,b,o,qm,qa⟩:=aH0 ha hx qf;obtain⟨qo,h8,qh,hz,qn,hq,qb,_⟩:=iN hx _ _ _ U;simp only[Value.slice.injEq] at hz;obtain⟨rfl,qi,rfl⟩:=hz
     have:RC S' w (.sl k ((l.drop off).take len)) (.slice base ((l.drop off).take len).length cap):=by
      refine .sl k _ base cap b o (λm=>(w.cell? ⟨b,o+m,none⟩).getD undef) (λqp=>?_) (λi j hi J=>?_) (λi j hi J=>?_) (λi j hi J=>?_) hk ⟨by omega,hq⟩
      .grind [Nat.eq_zero_or_pos]
      all_goals
       obtain⟨u,hu,ho,hr⟩:=qa i j hi J;simp only[hu,Ce]
      .exact ho
      .exact hr.mono hS λ_ _=>rfl
     all_goals grind [zD]
    .cases F
  | ptr n e o =>
   simp only[conv] at F;split at F
   .rename_i j J;split at F
    .cases F
    .rename_i hf;simp only[Ad,AL] at F;obtain⟨rfl,rfl⟩:=F;refine⟨λ_=>.ptr _ _ _ _ λb' U=>?_,λh=>absurd h hf,by simp⟩;obtain⟨e1,e2,e3⟩:=hE j n (pJ J);obtain⟨b,hd,hs⟩:=e3 _ U;obtain⟨y,hy,hv⟩:=iC hx _ hd
     all_goals grind [Blk.same_k]
   .rename_i J;split at F
    .rename_i k l z U;simp only[Ad,AL] at F;obtain⟨rfl,rfl⟩:=F;obtain⟨y,hy,rfl⟩:=iC hx _ U;have Z:=λj (J:j<((Blk.arr k l z).row e).length)=>ha.cells U hy (e:=e) (j:=j) J;simp only[Blk.row,Blk.k] at Z
     have:RC S' w (.ro ((l.getD e []).drop o)) (.pointer (some ⟨y,e*k+o,none⟩)):=by
      refine .ro _ y _ (λm=>(w.cell? ⟨y,e*k+o+m,none⟩).getD undef) (hL n (by simp) _ hy) (λj J=>?_) (λj J=>?_) λj J=>?_
      all_goals
       simp only[Cg] at J;obtain⟨u,hu,ho,hr⟩:=Z (o+j) (by omega);rw[←Ck] at hu;simp only[hu,Ce]
      .exact ho
      .have e1:((l.getD e []).drop o).getD j .junk=(l.getD e []).getD (o+j) .junk:=by simp[List.getD]
       rw[e1];obtain⟨h0,⟨h1,h2⟩|⟨y',cs,T,fr,h1,h2,h3,h4,_,h5,h6,h7⟩⟩:=ha.blk n _ U
       .rw[h1] at hy;cases hy
       .have he:e<l.length:=by
         grind
        have qc:o+j<k:=by rw[←h0 e he];omega
        have qg:=(h7 e (o+j) he qc).2;obtain rfl:=Ay (hy.symm.trans h1)
        have qe:e*k+(o+j)<cs.size:=by
         have:(e+1)*k<=l.length*k:=Bo _ he;rw[Ch] at this;omega
        have hw:=cell_of_row h2 qe;rw[←Ck,hu] at hw;rw[Ay hw,Ck];exact qg.mono hS λ_ _=>rfl
     exact ⟨(O _ this).1,(O _ this).2,λm I=>by
       simp only[Au] at I;subst I;exact⟨zD J,by simp[U]⟩⟩
    .rename_i cs z U;cases I:fD (conv h m E true) cs with
     |none=>rw[I] at F;cases F
     | some p =>
      obtain⟨H,L'⟩:=p;rw[I] at F;simp only[AU,Ad,AL] at F;obtain⟨rfl,rfl⟩:=F;obtain⟨y,hy,rfl⟩:=iC hx _ U;obtain⟨y',hp,T,fr,h1,h2,h3,h4,_,h5,h6,h7⟩:=ha.blk n _ U;obtain rfl:=Ay (hy.symm.trans h1);obtain⟨g1,g2⟩:=gQ I
      have qq:∀j,j<cs.length->RC S' w (H.getD j .junk) (hp.getD j undef):=λj J=>by
       obtain⟨Lj,g3,g4⟩:=g2 j J
       all_goals grind
      have:RC S' w (.ro (H.drop o)) (.pointer (some ⟨y,e*(Blk.var cs z).k+o,none⟩)):=by
       simp only[Blk.k,Nat.mul_zero,BU];refine .ro _ y _ (λm=>hp.getD (o+m) undef) (hL n (by simp) _ hy) (λj J=>?_) (λj J=>?_) λj J=>?_
       all_goals grind [cell_of_row]
      refine⟨(O _ this).1,(O _ this).2,λm' hh=>?_⟩;rcases Ap.1 hh with rfl|hh
      .exact⟨zD J,by simp[U]⟩
      .-- it comes out of one of the cells
       have:∀(cs H:List AV) (L:List Name),fD (conv h m E true) cs=some (H,L)->∀n,n∈L->∃j,j<cs.length∧∃Lj,conv h m E true (cs.getD j .junk)=some (H.getD j .junk,Lj)∧n∈Lj:=by
        intro cs
        induction cs with
        |nil=>intro H L I n hn;simp only[fD,Ad,AL] at I;obtain⟨_,rfl⟩:=I;simp at hn
        | cons x r ihr =>
         intro H L I n hn;simp only[fD] at I;split at I
         .rename_i y L1 ys L2 h1 h2;simp only[Ad,AL] at I;obtain⟨rfl,rfl⟩:=I;rcases Bf.1 hn with hn|hn
          .exact⟨0,by simp,L1,by simpa using h1,hn⟩
          .obtain⟨j,J,Lj,g,hg⟩:=ihr _ _ h2 n hn;exact⟨j+1,by simpa using J,Lj,by simpa using g,hg⟩
         .cases I
       obtain⟨j,ht,Lj,g3,hg⟩:=this _ _ _ I _ hh
       have h9:∀n,n∈Lj->∀y,ρ n=some y->S' y:=by
        obtain⟨qj,qk,ql⟩:=g2 j ht
        all_goals grind
       exact(ih true _ _ _ _ g3 h9 (h7 j ht).2).2.2 _ hg
    .cases F
/-! ## renaming -/
mutual
def rn (φ:Name->Option Name):AV->AV
 |.loc n off len=>match φ n with|some m=>.loc m off len|none=>.junk
 |.ptr n e o=>match φ n with|some m=>.ptr m e o|none=>.junk
 |.fn f c=>.fn f (rnL φ c)
 |.agg c=>.agg (rnL φ c)
 |.tup c=>.tup (rnL φ c)
 |x=>x
def rnL (φ:Name->Option Name):List AV->List AV
 | []=>[]
 |x::r=>rn φ x::rnL φ r
end
theorem dN (φ:Name->Option Name):∀c:List AV,(rnL φ c).length=c.length
 | []=>rfl
 |x::r=>by simp[rnL,dN φ r]
theorem nM (φ:Name->Option Name):∀(c:List AV) (j:Nat),j<c.length->(rnL φ c).getD j .junk=rn φ (c.getD j .junk)
 | [],j,h=>by simp at h
 |x::r,0,_=>by simp[rnL]
 |x::r,j+1,h=>by simpa[rnL] using nM φ r j (by simpa using h)
def rnB (φ:Name->Option Name):Blk->Blk
 |.var c z=>.var (rnL φ c) z
 |b=>b
theorem aAJ (φ:Name->Option Name) (b:Blk):b.same (rnB φ b):=by
 cases b<;>simp[rnB,Blk.same,dN]
theorem aNz {S:Nat->Prop}{w:World} (φ:Name->Option Name) {x:AV}{v:Value} (h:RC S w x v):RC S w (rn φ x) v:=by
 induction h with
 |v x=>simpa[rn] using .v x
 |sl k l base cap x off xs hb hc ho hr hk hcap ih=>simpa[rn] using .sl k l base cap x off xs hb hc ho hr hk hcap
 |ro c x off xs hS hc ho hr ih=>simpa[rn] using .ro c x off xs hS hc ho hr
 | fn f c vs hl hr ih =>
  simp only[rn];refine .fn _ _ _ (by rw[dN];exact hl) λj F=>?_
  all_goals grind [dN,nM]
 | agg c vs hl hr ih =>
  simp only[rn];refine .agg _ _ (by rw[dN];exact hl) λj F=>?_
  all_goals grind [dN,nM]
 | tup c vs hl hr ih =>
  simp only[rn];refine .tup _ _ (by rw[dN];exact hl) λj F=>?_
  all_goals grind [dN,nM]
theorem RV.ren {S:Nat->Prop}{w:World}{ρ ρ':Name->Option Nat}{κ κ':Name->Nat}{h h':Name->Option Blk}{φ:Name->Option Name}
  (hφ:∀n m,φ n=some m->ρ' m=ρ n∧κ' m=κ n∧∀J,h' m=some J->∃b,h n=some b∧b.same J) {x:AV}{v:Value} (Z:RV S w ρ κ h x v):RV S w ρ' κ' h' (rn φ x) v:=by
 induction Z with
 |junk v=>simpa[rn] using .junk v
 |clo Z=>exact .clo (aNz φ Z)
 | loc n off len v I =>
  simp only[rn];split
  .rename_i m Y;obtain⟨e1,e2,L⟩:=hφ n m Y;refine .loc _ _ _ _ λk l z O=>?_;obtain⟨b,F,H⟩:=L _ O;cases b with
   |var=>simp[Blk.same] at H
   | arr k' l' z' =>
    simp only[Blk.same] at H;obtain⟨rfl,U⟩:=H;have:=I _ _ _ F;rw[e1,e2,←U];exact this
  .exact .junk _
 | ptr n e c v I =>
  simp only[rn];split
  .rename_i m Y;obtain⟨e1,e2,L⟩:=hφ n m Y;refine .ptr _ _ _ _ λJ O=>?_;obtain⟨b,F,H⟩:=L _ O;obtain⟨y,hy,I⟩:=I _ F
   all_goals grind [Blk.same_k]
  .exact .junk _
 | fn f c vs hl hr ih =>
  grind [rn,dN,nM,RV]
 | agg c vs hl hr ih =>
  grind [rn,dN,nM,RV]
 | tup c vs hl hr ih =>
  grind [rn,dN,nM,RV]
/-! ## values that hold no memory that stays -/
mutual
def flat:AV->Bool
 |.sl _ _=>false
 |.ro _=>false
 |.fn _ c=>fJ c
 |.agg c=>fJ c
 |.tup c=>fJ c
 |_=>true
def fJ:List AV->Bool
 | []=>true
 |x::r=>flat x&&fJ r
end
theorem bU:∀{c:List AV}{j:Nat},fJ c=true->flat (c.getD j .junk)=true
 | [],j,_=>by simp[flat]
 |x::r,0,h=>by simp[fJ] at h;simpa using h.1
 |x::r,j+1,h=>by simp[fJ] at h;simpa using bU (c:=r) (j:=j) h.2
theorem RC.flat {S S':Nat->Prop}{w:World}{x:AV}{v:Value} (h:RC S w x v) (F:flat x=true):RC S' w x v:=by
 induction h with
 |v x=>exact .v x
 |sl=>simp[Vs.flat] at F
 |ro=>simp[Vs.flat] at F
 |fn f c vs hl hr ih=>simp only[Vs.flat] at F;exact .fn _ _ _ hl λj H=>ih j H (bU F)
 |agg c vs hl hr ih=>simp only[Vs.flat] at F;exact .agg _ _ hl λj H=>ih j H (bU F)
 |tup c vs hl hr ih=>simp only[Vs.flat] at F;exact .tup _ _ hl λj H=>ih j H (bU F)
theorem RV.flat {S S':Nat->Prop}{w:World}{ρ:Name->Option Nat}{κ:Name->Nat}{h:Name->Option Blk}{x:AV}{v:Value} (I:RV S w ρ κ h x v) (F:flat x=true):RV S' w ρ κ h x v:=by
 induction I with
 |junk v=>exact .junk v
 |clo I=>exact .clo (I.flat F)
 |loc n off len v hv=>exact .loc _ _ _ _ hv
 |ptr n e c v hv=>exact .ptr _ _ _ _ hv
 |fn f c vs hl hr ih=>simp only[Vs.flat] at F;exact .fn _ _ _ hl λj H=>ih j H (bU F)
 |agg c vs hl hr ih=>simp only[Vs.flat] at F;exact .agg _ _ hl λj H=>ih j H (bU F)
 |tup c vs hl hr ih=>simp only[Vs.flat] at F;exact .tup _ _ hl λj H=>ih j H (bU F)
def iV:Blk->Prop
 |.var c _=>fJ c=true
 |.arr _ l _=>∀r,r∈l->fJ r=true
/-! ## contracts -/
def Hn (l:List (Option Blk)):Name->Option Blk
 |.b j=>l.getD j none
 |.t _ _=>none
def aBc (ρ:Name->Option Nat) (hin:List Blk) (x:Nat):Prop:=∃j,j<hin.length∧ρ (.b j)=some x
structure Post (S:Nat->Prop) (w:World) (ρ:Name->Option Nat) (κ:Name->Nat) (hin:List Blk) (S':Nat->Prop) (w':World) (ρ':Name->Option Nat) (κ':Name->Nat) (hout:List (Option Blk)):Prop where
 hok:HOK S' w' ρ' κ' (Hn hout)
 size:w.heap.size<=w'.heap.size
 old:∀b,b<w.heap.size->¬aBc ρ hin b->w'.heap[b]? = w.heap[b]?
 sub:∀b,S b->S' b
 new:∀b,S' b->S b∨w.heap.size<=b∨aBc ρ hin b
 mine:∀j x,(hout.getD j none).isSome->ρ' (.b j)=some x->w.heap.size<=x∨aBc ρ hin x
 out:w'.os=w.os∧w'.output=w.output
 keep:∀j b',j<hin.length->hout.getD j none=some b'->ρ' (.b j)=ρ (.b j)∧κ' (.b j)=κ (.b j)∧∃b,hin[j]? = some b∧b.same b'
def iO (P:Program) (f:FuncId):Prop:=∃fn b,P.funcs[f]? = some fn∧fn.body=some b∧fn.name≠"runtime.NumGoroutine"
def Fn (P:Program) (f:FuncId) (hin:List Blk) (args:List AV) (r:AV) (hout:List (Option Blk)):Prop:=
 iO P f∧∀(S:Nat->Prop) (w:World) (ρ:Name->Option Nat) (κ:Name->Nat) (vs:Array Value),HOK S w ρ κ (Hn (hin.map some))->(∀b,b∈hin->b.fz=false)->vs.size=args.length->
  (∀j,j<args.length->RV S w ρ κ (Hn (hin.map some)) (args.getD j .junk) (vs.getD j undef))->
  Calls P f vs w λe w'=>∃v S' ρ' κ',e=.returned v∧Post S w ρ κ hin S' w' ρ' κ' hout∧RV S' w' ρ' κ' (Hn hout) r v
end
section
variable [Envs]
variable {P:Program}{C:Ctx}{σ:FSt}{a:Act}{w:World}{S:Nat->Prop}{ρ:Name->Option Nat}{κ:Name->Nat}{h:Name->Option Blk}
def fK (h:Name->Option Blk) (E:List Name):Blk->Option (Blk×List Name)
 |.var c z=>(fD (conv h 8 E false) c).map λp=>(.var p.1 z,p.2)
 |.arr k l z=>some (.arr k l z,[])
def wX (h:Name->Option Blk) (E:List Name):List Name->Option (List Blk×List Name)
 | []=>some ([],[])
 | n::r=>match(h n).bind (fK h E),wX h E r with
  |some (b,L),some (bs,L')=>if b.fz then none else some (b::bs,L++L')
  |_,_=>none
theorem wU (h:Name->Option Blk) (E:List Name):∀{B:List Name}{bs:List Blk}{L:List Name},wX h E B=some (bs,L)->bs.length=B.length∧
  (∀(j:Nat) (n:Name),B[j]? = some n->∃b I F,h n=some b∧fK h E b=some (I,F)∧bs[j]? = some I∧I.fz=false∧∀m,m∈F->m∈L)∧
  ∀m,m∈L->∃(n:Name) (b I:Blk) (F:List Name),n∈B∧h n=some b∧fK h E b=some (I,F)∧m∈F
 | [],bs,L,hb=>by
  grind [wX]
 | n::r,bs,L,hb=>by
  simp only[wX] at hb;split at hb
  .rename_i I L1 ha L2 J h2;split at hb
   .cases hb
   .rename_i hz;simp only[Ad,AL] at hb;obtain⟨rfl,rfl⟩:=hb;obtain⟨h3,h4,h5⟩:=wU h E h2;cases hn:h n with
    |none=>rw[hn] at J;cases J
    | some b =>
     rw[hn] at J;refine⟨by simp[h3],λj m hj=>?_,λm H=>?_⟩
     .cases j with
      | zero =>
       simp only[AJ,Ad] at hj;subst hj;exact⟨b,I,L1,hn,J,by simp,by simpa using hz,λm H=>Co _ H⟩
      | succ j =>
       obtain⟨b,O,F,U,Y,Z,g4,g5⟩:=h4 j m (by simpa using hj);exact⟨b,O,F,U,Y,by simpa using Z,g4,λm H=>CY _ (g5 m H)⟩
     .rcases Bf.1 H with H|H
      .exact⟨n,b,I,L1,by simp,hn,J,H⟩
      .obtain⟨n',b1,O,F,U,Y,Z,g4⟩:=h5 m H;exact⟨n',b1,O,F,C9 _ U,Y,Z,g4⟩
  .cases hb
def phi (B:List Name) (d n:Nat):Name->Option Name
 |.b j=>if j<B.length then B[j]? else if j<n then some (.t d j) else none
 |.t _ _=>none
def frz:Blk->Blk
 |.var c _=>.var c true
 |.arr k l _=>.arr k l true
theorem aLc (b:Blk):b.same (frz b):=by cases b<;>simp[frz,Blk.same]
def aft (h:Name->Option Blk) (B:List Name) (d:Nat) (hout:List (Option Blk)) (fz:Bool) (L:List Name) (m:Name):Option Blk:=
 match lH B m with
 |some j=>(hout.getD j none).map (rnB (phi B d hout.length))
 | none=>match m with
  |.t d' j=>if d'=d∧B.length<=j∧j<hout.length then(hout.getD j none).map (rnB (phi B d hout.length)) else if fz=true∧m∈L then(h m).map frz else h m
  |.b _=>if fz=true∧m∈L then(h m).map frz else h m
theorem qJ:∀{B:List Name}{j:Nat}{n:Name},B.Nodup->B[j]? = some n->lH B n=some j
 | [],j,n,_,h=>by simp at h
 |m::r,0,n,_,h=>by simp only[AJ,Ad] at h;simp[lH,h]
 | m::r,j+1,n,hnd,h=>by
  simp only[Bn] at h
  have F:¬m=n:=by
   grind
  simp[lH,F,qJ (List.nodup_cons.1 hnd).2 h]
def aLy (P:Program) (σ:FSt) (d:Nat) (fv:AV) (xs:List AV) (B:List Name) (K:FSt->AV->Prop):Prop:=
 match fv with
 | .fn f caps=>match fD (conv σ.h 8 B false) (xs++caps),wX σ.h B B with
  | some (ys,L1),some (hin,L2)=>∃r hout fz,Fn P f hin ys r hout∧(fz=false->(L1++L2=[]∨(flat r=true∧∀b,some b∈hout->iV b)))∧
    (∀j,B.length<=j->j<hout.length->iJ (.t d j) σ)∧K ⟨σ.s,aft σ.h B d hout fz (L1++L2)⟩ (rn (phi B d hout.length) r)
  |_,_=>False
 |_=>False
theorem aHv (I:OK C σ a w S ρ κ) {d:Nat}{f:FuncId}{caps xs:List AV}{B:List Name}{K:FSt->AV->Prop} (q8:B.Nodup) (hv:aLy P σ d (.fn f caps) xs B K) {vs:Array Value}
  (hl:vs.size=(xs++caps).length) (hr:∀j,j<(xs++caps).length->RV S w ρ κ σ.h ((xs++caps).getD j .junk) (vs.getD j undef)) :
  Calls P f vs w λe w'=>∃σ' x v S' ρ' κ',e=.returned v∧K σ' x∧OK C σ' a w' S' ρ' κ'∧RV S' w' ρ' κ' σ'.h x v:=by
 simp only[aLy] at hv;split at hv
 .rename_i ys L1 hin L2 jb ju;obtain⟨r,H,fz,jv,qf,hu,hK⟩:=hv;generalize qt:L1++L2=L at hK qf;have jf:∀n,n∈L1->n∈L:=λn J=>qt ▸ Co _ J;have jg:∀n,n∈L2->n∈L:=λn J=>qt ▸ CY _ J;obtain⟨qv,qm,jt⟩:=wU _ _ ju
  let S1:Nat->Prop:=λy=>S y∨∃n,n∈L∧ρ n=some y
  let ρ0:Name->Option Nat:=λm=>match m with|.b j=>(B[j]?).bind ρ|.t _ _=>none
  let κ0:Name->Nat:=λm=>match m with|.b j=>((B[j]?).map κ).getD 0|.t _ _=>0
  have qu:∀y,S y->S1 y:=λy hy=>.inl hy
  have hE:∀j n,B[j]? = some n->ρ0 (.b j)=ρ n∧κ0 (.b j)=κ n∧∀b',Hn (hin.map some) (.b j)=some b'->∃b,σ.h n=some b∧b.same b':=by
   intro j n O;refine⟨by simp[ρ0,O],by simp[κ0,O],λb' F=>?_⟩;obtain⟨b,b2,Lj,g1,g2,g3,_,_⟩:=qm j n O
   have:b'=b2:=by
    simp only[Hn,List.getD,Cu,g3,AU,Ce,Ad] at F;exact F.symm
   subst this;refine⟨b,g1,?_⟩;cases b with
   | var c z =>
    simp only[fK] at g2;cases U:fD (conv σ.h 8 B false) c with
    |none=>rw[U] at g2;cases g2
    | some p =>
     rw[U] at g2;simp only[AU,Ad,AL] at g2;rw[←g2.1];exact((gQ U).1).symm
   | arr k l z =>
    simp only[fK,Ad,AL] at g2;rw[←g2.1];exact Blk.same_refl _
  have qa:=lJ I.hok qu (κ':=κ0) hE 8
  have he:∀n,n∈L->n∉B∧(σ.h n).isSome:=by
   intro n J;have qd:∀m,m∈L->∀y,ρ m=some y->S1 y:=λm U y hy=>.inr ⟨m,U,hy⟩;rw[←qt] at J;rcases Bf.1 J with J|J
   .obtain⟨j,O,Lj,g1,g2⟩:=aAQ jb n J;obtain⟨jp,qc,g3⟩:=(gQ jb).2 j O;rw[g1] at qc;simp only[Ad,AL,Ci] at qc;subst qc;exact(qa false _ _ _ _ g1 (λm U=>qd m (jf m (g3 m U))) (hr j O)).2.2 n g2
   .obtain⟨n',b,b',Lj,g1,g2,g3,g4⟩:=jt n J;cases b with
    | arr k l z =>
     simp only[fK,Ad,AL] at g3;rw[←g3.2] at g4;simp at g4
    | var c z =>
     simp only[fK] at g3;cases U:fD (conv σ.h 8 B false) c with
     |none=>rw[U] at g3;cases g3
     | some p =>
      obtain⟨c',Lp⟩:=p;rw[U] at g3;simp only[AU,Ad,AL] at g3;obtain⟨_,rfl⟩:=g3;obtain⟨j,O,Lj,g5,g6⟩:=aAQ U n g4;obtain⟨x,cs,T,fr,q1,q2,q3,q4,_,q5,q6,q7⟩:=I.hok.blk n' _ g2;obtain⟨i,hi⟩:=BI.1 g1;obtain⟨b1,b2,Lb,p1,p2,p3,p4,p5⟩:=qm i n' hi;rw[g2] at p1;obtain rfl:=Ay p1;simp only[fK,U,AU,Ad,AL] at p2;obtain⟨_,rfl⟩:=p2;obtain⟨jp,qs,g7⟩:=(gQ U).2 j O;rw[g5] at qs;simp only[Ad,AL,Ci] at qs;subst qs;exact(qa false _ _ _ _ g5 (λm U=>qd m (jg m (p5 m (g7 m U)))) (q7 j O).2).2.2 n g6
  have qd:∀m,m∈L->∀y,ρ m=some y->S1 y:=λm U y hy=>.inr ⟨m,U,hy⟩
  have je:∀n b,n∈B->σ.h n=some b->b.fz=false->∀x,ρ n=some x->¬S1 x:=by
   rintro n b J hb Y x Z (hs|⟨m,U,hmx⟩)
   .have:=I.hok.blk n b hb;cases b with
    | var c z =>
     obtain⟨y,_,_,_,g1,_,_,g2,_⟩:=this;obtain rfl:=Ay (Z.symm.trans g1);exact g2 Y hs
    | arr k l z =>
     obtain⟨_,⟨g1,_⟩|⟨y,_,_,_,g1,_,_,g2,_⟩⟩:=this
     .rw[Z] at g1;cases g1
     .obtain rfl:=Ay (Z.symm.trans g1);exact g2 Y hs
   .have:=I.hok.inj m n x (he m U).2 (by simp[hb]) hmx Z;subst this;exact(he m U).1 J
  have hf:∀(j:Nat) (n:Name),B[j]? = some n->∃b,σ.h n=some b∧b.fz=false:=by
   intro j n O;obtain⟨b,b',Lj,g1,g2,g3,g4,g5⟩:=qm j n O;refine⟨b,g1,?_⟩;cases b with
   | var c z =>
    simp only[fK] at g2;cases U:fD (conv σ.h 8 B false) c with
    |none=>rw[U] at g2;cases g2
    | some p =>
     rw[U] at g2;simp only[AU,Ad,AL] at g2;rw[←g2.1] at g4;exact g4
   | arr k l z =>
    simp only[fK,Ad,AL] at g2;rw[←g2.1] at g4;exact g4
  have qk:∀j b',Hn (hin.map some) (.b j)=some b'->∃n b Lj,B[j]? = some n∧σ.h n=some b∧fK σ.h B b=some (b',Lj)∧(∀m,m∈Lj->m∈L2)∧b'.fz=false:=by
   intro j b' F
   have O:j<B.length:=by
    rw[←qv];rcases Dc j hin.length with h'|h'
    .exact h'
    .simp[Hn,List.getD,List.getElem?_eq_none h'] at F
   obtain⟨b,b2,Lj,g1,g2,g3,g4,g5⟩:=qm j B[j] (by simp[O])
   have:b'=b2:=by
    simp only[Hn,List.getD,Cu,g3,AU,Ce,Ad] at F;exact F.symm
   subst this;exact⟨B[j],b,Lj,by simp[O],g1,g2,g5,g4⟩
  have jm:HOK S1 w ρ0 κ0 (Hn (hin.map some)):=by
   refine⟨λm b' F=>?_,λm m' x h1 h2 h3 h4=>?_,?_,I.hok.env.mono (λ_ h=>.inl h) λ_ _=>rfl⟩
   .cases m with
    |t=>simp[Hn] at F
    | b j =>
     obtain⟨n,b,Lj,g0,g1,g2,g5,g4⟩:=qk j b' F;obtain⟨e1,e2,_⟩:=hE j n g0;have hb:=I.hok.blk n b g1;have jk:=je n b (BV g0) g1;cases b with
     | var c z =>
      simp only[fK] at g2;cases U:fD (conv σ.h 8 B false) c with
      |none=>rw[U] at g2;cases g2
      | some p =>
       obtain⟨c',Lp⟩:=p;rw[U] at g2;simp only[AU,Ad,AL] at g2;obtain⟨rfl,rfl⟩:=g2;obtain⟨x,cs,T,fr,q1,q2,q3,q4,hg,q5,q6,q7⟩:=hb;obtain⟨l1,l2⟩:=gQ U;refine⟨x,cs,T,fr,by rw[e1];exact q1,q2,q3,λY=>jk Y x q1,λY=>.inl (hg Y),by rw[e2];exact q5,by omega,λi hi=>⟨(q7 i (by omega)).1,?_⟩⟩;obtain⟨Li,l3,l4⟩:=l2 i (by omega);exact(qa false _ _ _ _ l3 (λm U=>qd m (jg m (g5 m (l4 m U)))) (q7 i (by omega)).2).1 rfl
     | arr k l z =>
      simp only[fK,Ad,AL] at g2;obtain⟨rfl,rfl⟩:=g2;obtain⟨q0,⟨q1,q2⟩|⟨x,cs,T,fr,q1,q2,q3,q4,hg,q5,q6,q7⟩⟩:=hb
      .exact⟨q0,.inl ⟨by rw[e1];exact q1,q2⟩⟩
      .exact⟨q0,.inr ⟨x,cs,T,fr,by rw[e1];exact q1,q2,q3,λY=>jk Y x q1,λY=>.inl (hg Y),by rw[e2];exact q5,q6,λi j hi O=>⟨(q7 i j hi O).1,(q7 i j hi O).2.mono qu λ_ _=>rfl⟩⟩⟩
   .cases m with
    |t=>simp[Hn] at h1
    | b j =>
     cases m' with
     |t=>simp[Hn] at h2
     | b j' =>
      obtain⟨b1,qe⟩:=AA.1 h1;obtain⟨b2,ha⟩:=AA.1 h2;obtain⟨n,b,_,g0,g1,_⟩:=qk j b1 qe;obtain⟨n',b',_,jd,qc,_⟩:=qk j' b2 ha;rw[(hE j n g0).1] at h3;rw[(hE j' n' jd).1] at h4;obtain rfl:=I.hok.inj n n' x (by simp[g1]) (by simp[qc]) h3 h4;congr 1;have e1:=qJ q8 g0;have e2:=qJ q8 jd;rw[e1] at e2;exact Ay e2
   .rintro y (hy|⟨n,J,hy⟩)
    .exact I.hok.dom y hy
    .exact I.hok.lt (he n J).2 hy
  have hp:∀x,aBc ρ0 hin x↔∃n,n∈B∧ρ n=some x:=by
   intro x;constructor
   .rintro⟨j,O,Z⟩;have jx:j<B.length:=by omega
    refine⟨B[j],by simp,?_⟩;simpa[ρ0,jx] using Z
   .rintro⟨n,J,Z⟩;obtain⟨j,O⟩:=BI.1 J;refine⟨j,?_,by simp[ρ0,O,Z]⟩;rw[qv];exact(CB.1 O).1
  obtain⟨j4,j1⟩:=gQ jb
  have qw:=jv.2 S1 w ρ0 κ0 vs jm (λb hb=>by
    obtain⟨j,O⟩:=BI.1 hb;have:Hn (hin.map some) (.b j)=some b:=by simp[Hn,List.getD,O]
    obtain⟨_,_,_,_,_,_,_,Y⟩:=qk j b this;exact Y) (by omega) (λj O=>by
    obtain⟨Lj,l3,l4⟩:=j1 j (by omega);exact(qa false _ _ _ _ l3 (λm U=>qd m (jf m (l4 m U))) (hr j (by omega))).1 rfl)
  refine qw.mono ?_;rintro e w' ⟨v,S',ρ',κ',rfl,hpost,hrv⟩
  let S2:Nat->Prop:=λy=>S' y∧(fz=true∨¬∃n,n∈L∧ρ n=some y∧¬S y)
  let ρ2:Name->Option Nat:=λm=>match lH B m with
   |some j=>ρ' (.b j)
   | none=>match m with
    |.t d' j=>if d'=d∧B.length<=j∧j<H.length then ρ' (.b j) else ρ (.t d' j)
    |.b i=>ρ (.b i)
  let κ2:Name->Nat:=λm=>match lH B m with
   |some j=>κ' (.b j)
   | none=>match m with
    |.t d' j=>if d'=d∧B.length<=j∧j<H.length then κ' (.b j) else κ (.t d' j)
    |.b i=>κ (.b i)
  let h2:=aft σ.h B d H fz L
  have jl:∀j,B.length<=j->j<H.length->lH B (.t d j)=none:=by
   intro j h1 h3;cases hi:lH B (.t d j) with
   |none=>rfl
   | some i =>
    obtain⟨b,hb,_⟩:=hf i _ (pJ hi);rw[(hu j h1 h3).1.1] at hb;cases hb
  have kB:∀(j:Nat) (m:Name),B[j]? = some m->ρ2 m=ρ' (.b j)∧κ2 m=κ' (.b j)∧h2 m=(H.getD j none).map (rnB (phi B d H.length)):=by
   intro j m O;have hi:=qJ q8 O;simp only[ρ2,κ2,h2,aft,hi,and_self]
  have kN:∀j,B.length<=j->j<H.length->ρ2 (.t d j)=ρ' (.b j)∧κ2 (.t d j)=κ' (.b j)∧h2 (.t d j)=(H.getD j none).map (rnB (phi B d H.length)):=by
   intro j h1 h3;have hi:=jl j h1 h3;simp only[ρ2,κ2,h2,aft,hi,h1,h3,and_self,Bj]
  have kO:∀m,m∉B->(∀j,B.length<=j->j<H.length->m≠.t d j)->ρ2 m=ρ m∧κ2 m=κ m∧h2 m=if fz=true∧m∈L then(σ.h m).map frz else σ.h m:=by
   intro m U J
   have hi:lH B m=none:=by
    cases hi:lH B m with
    |none=>rfl
    |some j=>exact absurd (BV (pJ hi)) U
   cases m with
   |b i=>simp only[ρ2,κ2,h2,aft,hi,and_self]
   | t d' j =>
    have hc:¬(d'=d∧B.length<=j∧j<H.length):=by
     rintro⟨rfl,h1,h3⟩;exact J j h1 h3 rfl
    simp only[ρ2,κ2,h2,aft,hi,AB hc,and_self]
  have hφ:∀n m,phi B d H.length n=some m->ρ2 m=ρ' n∧κ2 m=κ' n∧∀b',h2 m=some b'->∃b,Hn H n=some b∧b.same b':=by
   intro n m J;cases n with
   |t=>simp[phi] at J
   | b j =>
    have fin:ρ2 m=ρ' (.b j)∧κ2 m=κ' (.b j)∧h2 m=(H.getD j none).map (rnB (phi B d H.length)):=by
     simp only[phi] at J;split at J
     .exact kB j m J
     .split at J
      .obtain rfl:=Ay J;exact kN j (by omega) (by omega)
      .cases J
    refine⟨fin.1,fin.2.1,λb' F=>?_⟩;rw[fin.2.2] at F;cases O:H.getD j none with
    |none=>rw[O] at F;cases F
    | some b =>
     rw[O] at F;obtain rfl:=Ay F;exact⟨b,O,aAJ _ _⟩
  have q9:∀m,(∀j,B.length<=j->j<H.length->m≠.t d j)->eO ρ ρ2 κ κ2 σ.h h2 m:=by
   intro m J b' F;by_cases U:m∈B
   .obtain⟨j,O⟩:=BI.1 U;obtain⟨e1,e2,e3⟩:=kB j m O;rw[e3] at F;cases hjo:H.getD j none with
    |none=>rw[hjo] at F;cases F
    | some b =>
     rw[hjo] at F;obtain rfl:=Ay F;have jy:j<hin.length:=by rw[qv];exact(CB.1 O).1
     obtain⟨k1,k2,bi,k3,k4⟩:=hpost.keep j b jy hjo;obtain⟨g1,g2,g3⟩:=hE j m O;obtain⟨b0,g4,g5⟩:=g3 bi (by simp[Hn,List.getD,k3]);exact⟨by rw[e1,k1,g1],by rw[e2,k2,g2],b0,g4,Blk.same_trans (Blk.same_trans g5 k4) (aAJ _ _)⟩
   .obtain⟨e1,e2,e3⟩:=kO m U J;rw[e3] at F;refine⟨e1,e2,?_⟩;split at F
    .cases h6:σ.h m with
     |none=>rw[h6] at F;cases F
     | some b0 =>
      rw[h6] at F;obtain rfl:=Ay F;exact⟨b0,rfl,aLc _⟩
    .exact⟨b',F,b'.same_refl⟩
  have hk:∀y,S y->S2 y:=λy hy=>⟨hpost.sub y (qu y hy),.inr λ⟨_,_,_,J⟩=>J hy⟩
  have qi:∀y,S y->¬aBc ρ0 hin y:=by
   intro y hy U;obtain⟨n,J,Z⟩:=(hp y).1 U;obtain⟨j,O⟩:=BI.1 J;obtain⟨b,hb,Y⟩:=hf j n O;exact je n b J hb Y y Z (.inl hy)
  have ql:∀y,S y->w'.heap[y]? = w.heap[y]?:=λy hy=>hpost.old y (I.hok.dom y hy) (qi y hy)
  have jj:fz=false->L≠[]->flat r=true∧∀b,some b∈H->iV b:=by
   intro h1 h3;rcases qf h1 with h|h
   .exact absurd h h3
   .exact h
  have back:∀(x:AV) (u:Value),(fz=false->L≠[]->flat x=true)->RV S' w' ρ' κ' (Hn H) x u->RV S2 w' ρ2 κ2 h2 (rn (phi B d H.length) x) u:=by
   intro x u qx Z;have jo:=Z.ren (φ:=phi B d H.length) hφ;by_cases Y:fz=true
   .exact jo.mono (λy hy=>⟨hy,.inl Y⟩) (λ_ _=>rfl) λ_ _=>eO.refl _ _ _ _
   .by_cases hl:L=[]
    .exact jo.mono (λy hy=>⟨hy,.inr (by rintro⟨n,J,_⟩;rw[hl] at J;cases J)⟩) (λ_ _=>rfl) λ_ _=>eO.refl _ _ _ _
    .exact(Z.flat (S':=S2) (qx (by simpa using Y) hl)).ren hφ
  have qr:∀(x:AV) (u:Value),(fz=false->L≠[]->flat x=true)->RC S' w' x u->RC S2 w' x u:=by
   intro x u qx Z;by_cases Y:fz=true
   .exact Z.mono (λy hy=>⟨hy,.inl Y⟩) λ_ _=>rfl
   .by_cases hl:L=[]
    .exact Z.mono (λy hy=>⟨hy,.inr (by rintro⟨n,J,_⟩;rw[hl] at J;cases J)⟩) λ_ _=>rfl
    .exact Z.flat (qx (by simpa using Y) hl)
  have hw:∀j x,(H.getD j none).isSome->ρ' (.b j)=some x->w.heap.size<=x∨∃n,n∈B∧ρ n=some x:=by
   intro j x h1 h3;rcases hpost.mine j x h1 h3 with h|h
   .exact .inl h
   .exact .inr ((hp x).1 h)
  have h8:∀j x,(H.getD j none).isSome->ρ' (.b j)=some x->¬∃n,n∈L∧ρ n=some x∧¬S x:=by
   rintro j x h1 h3 ⟨n,J,Z,_⟩;rcases hw j x h1 h3 with h|⟨n',hd,hh⟩
   .exact absurd (I.hok.lt (he n J).2 Z) (by omega)
   .obtain⟨i,hi⟩:=BI.1 hd;obtain⟨b,hb,_⟩:=hf i n' hi;obtain rfl:=I.hok.inj n n' x (he n J).2 (by simp[hb]) Z hh;exact(he n J).1 hd
  have jc:∀j b m,H.getD j none=some b->ρ2 m=ρ' (.b j)->κ2 m=κ' (.b j)->wZ S2 w' ρ2 κ2 h2 m (rnB (phi B d H.length) b):=by
   intro j b m O e1 e2;have hb:=hpost.hok.blk (.b j) b O;have qj:(H.getD j none).isSome:=by rw[O];rfl
   have ji:fz=false->L≠[]->iV b:=λh1 h3=>(jj h1 h3).2 b (by
     refine BV (i:=j) ?_;cases ho:H[j]? with
     |none=>simp[List.getD,ho] at O
     |some o=>simp[List.getD,ho] at O;rw[←O])
   cases b with
   | var c z =>
    obtain⟨x,cs,T,fr,q1,q2,q3,q4,hg,q5,q6,q7⟩:=hb;refine⟨x,cs,T,fr,by rw[e1];exact q1,q2,q3,λY hs=>q4 Y hs.1,λY=>⟨hg Y,.inr (h8 j x qj q1)⟩,by rw[e2];exact q5,by rw[dN];exact q6,λi hi=>?_⟩;rw[dN] at hi;rw[nM _ _ _ hi];exact⟨(q7 i hi).1,back _ _ (λh1 h3=>bU (ji h1 h3)) (q7 i hi).2⟩
   | arr k l z =>
    obtain⟨q0,⟨q1,q2⟩|⟨x,cs,T,fr,q1,q2,q3,q4,hg,q5,q6,q7⟩⟩:=hb
    .exact⟨q0,.inl ⟨by rw[e1];exact q1,q2⟩⟩
    .refine⟨q0,.inr ⟨x,cs,T,fr,by rw[e1];exact q1,q2,q3,λY hs=>q4 Y hs.1,λY=>⟨hg Y,.inr (h8 j x qj q1)⟩,by rw[e2];exact q5,q6,λi j' hi qg=>⟨(q7 i j' hi qg).1,qr _ _ (λh1 h3=>bU ?_) (q7 i j' hi qg).2⟩⟩⟩;exact ji h1 h3 _ (by simp[List.getD,hi])
  have h9:∀m b',h2 m=some b'->(∃j b,H.getD j none=some b∧b'=rnB (phi B d H.length) b∧ρ2 m=ρ' (.b j)∧κ2 m=κ' (.b j)∧phi B d H.length (.b j)=some m)∨
    (m∉B∧(∀j,B.length<=j->j<H.length->m≠.t d j)∧ρ2 m=ρ m∧κ2 m=κ m∧∃b,σ.h m=some b∧b'=if fz=true∧m∈L then frz b else b):=by
   intro m b' F;by_cases U:m∈B
   .obtain⟨j,O⟩:=BI.1 U;obtain⟨e1,e2,e3⟩:=kB j m O;rw[e3] at F;cases hjo:H.getD j none with
    |none=>rw[hjo] at F;cases F
    | some b =>
     rw[hjo] at F;exact .inl ⟨j,b,hjo,(Ay F).symm,e1,e2,by simp only[phi,AP (CB.1 O).1,O]⟩
   .by_cases J:∃j,B.length<=j∧j<H.length∧m=.t d j
    .obtain⟨j,h1,h3,rfl⟩:=J;obtain⟨e1,e2,e3⟩:=kN j h1 h3;rw[e3] at F;cases hjo:H.getD j none with
     |none=>rw[hjo] at F;cases F
     | some b =>
      rw[hjo] at F;exact .inl ⟨j,b,hjo,(Ay F).symm,e1,e2,by simp[phi,h3,show ¬j<B.length by omega]⟩
    .have hd:∀j,B.length<=j->j<H.length->m≠.t d j:=λj h1 h3 e=>J ⟨j,h1,h3,e⟩;obtain⟨e1,e2,e3⟩:=kO m U hd;rw[e3] at F;refine .inr ⟨U,hd,e1,e2,?_⟩;by_cases hc:fz=true∧m∈L
     .rw[AP hc] at F;cases h6:σ.h m with
      |none=>rw[h6] at F;cases F
      |some b0=>rw[h6] at F;exact⟨b0,rfl,by rw[AP hc];exact(Ay F).symm⟩
     .rw[AB hc] at F;exact⟨b',F,by rw[AB hc]⟩
  have qp:∀m b x,m∉B->σ.h m=some b->ρ m=some x->w'.heap[x]? = w.heap[x]?:=by
   intro m b x U hb Z;refine hpost.old x (I.hok.lt (by simp[hb]) Z) λqz=>?_;obtain⟨n,J,hh⟩:=(hp x).1 qz;obtain⟨i,hi⟩:=BI.1 J;obtain⟨b',F,_⟩:=hf i n hi;obtain rfl:=I.hok.inj m n x (by simp[hb]) (by simp[F]) Z hh;exact U J
  have jn:HOK S2 w' ρ2 κ2 h2:=by
   refine⟨λm b' F=>?_,λm m' x h1 h3 h4 h5=>?_,λy hy=>hpost.hok.dom y hy.1,I.hok.env.mono hk ql⟩
   .rcases h9 m b' F with⟨j,b,O,rfl,e1,e2,_⟩|⟨U,J,e1,e2,b,hb,rfl⟩
    .exact jc j b m O e1 e2
    .have h6:=I.hok.blk m b hb
     have qh:∀b2:Blk,((b2=b∧¬(fz=true∧m∈L))∨(b2=frz b∧fz=true∧m∈L))->(∀n,b2.has n=b.has n)->wZ S2 w' ρ2 κ2 h2 m b2:=by
      intro b2 ha j3
      have qn:∀n,b.has n=true->eO ρ ρ2 κ κ2 σ.h h2 n:=λn hd=>q9 n λj h1 h3 e=>by
       subst e;rw[(hu j h1 h3).2.2 m b hb] at hd;cases hd
      have jh:∀x,ρ m=some x->S2 x->b2.fz=false->S x:=by
       rintro x Z ⟨hs,hs2⟩ Y;rcases hpost.new x hs with(h|⟨n,hd,hh⟩)|h|h
       .exact h
       .obtain rfl:=I.hok.inj m n x (by simp[hb]) (he n hd).2 Z hh;rcases hs2 with h|h
        .rcases ha with⟨rfl,hc⟩|⟨rfl,_,_⟩
         .exact absurd ⟨h,hd⟩ hc
         .cases b<;>simp[frz,Blk.fz] at Y
        .exact Classical.byContradiction λj0=>h ⟨m,hd,Z,j0⟩
       .exact absurd (I.hok.lt (by simp[hb]) Z) (by omega)
       .obtain⟨n,hd,hh⟩:=(hp x).1 h;obtain⟨i,hi⟩:=BI.1 hd;obtain⟨qq,h7,_⟩:=hf i n hi;obtain rfl:=I.hok.inj m n x (by simp[hb]) (by simp[h7]) Z hh;exact absurd hd U
      have qo:∀x,ρ m=some x->b2.fz=true->(b.fz=true->S x)->S2 x:=by
       intro x Z Y j2;rcases ha with⟨rfl,_⟩|⟨rfl,jw,jz⟩
       .exact hk x (j2 Y)
       .exact⟨hpost.sub x (.inr ⟨m,jz,Z⟩),.inl jw⟩
      cases b with
      | var c z =>
       obtain⟨x,cs,T,fr,q1,q2,q3,q4,hg,q5,q6,q7⟩:=h6;have:∃z2,b2=.var c z2:=by rcases ha with⟨rfl,_⟩|⟨rfl,_⟩<;>exact⟨_,rfl⟩
       obtain⟨z2,rfl⟩:=this;refine⟨x,cs,T,fr,by rw[e1];exact q1,by rw[qp m _ x U hb q1];exact q2,q3,λY hs=>?_,λY=>qo x q1 Y hg,by rw[e2];exact q5,q6,λi hi=>⟨(q7 i hi).1,(q7 i hi).2.mono hk ql λn hd=>qn n ?_⟩⟩
       .have ja:=jh x q1 hs Y;rcases ha with⟨ha,_⟩|⟨ha,_⟩
        .simp only[Blk.var.injEq,Ci] at ha;subst ha;exact q4 Y ja
        .simp[frz] at ha;rw[ha] at Y;cases Y
       .cases hc:nZ n c with
        |true=>simp[Blk.has,hc]
        |false=>rw[sD hc] at hd;cases hd
      | arr k l z =>
       obtain⟨q0,hq⟩:=h6;have:∃z2,b2=.arr k l z2:=by rcases ha with⟨rfl,_⟩|⟨rfl,_⟩<;>exact⟨_,rfl⟩
       obtain⟨z2,rfl⟩:=this;rcases hq with⟨q1,q2⟩|⟨x,cs,T,fr,q1,q2,q3,q4,hg,q5,q6,q7⟩
       .exact⟨q0,.inl ⟨by rw[e1];exact q1,q2⟩⟩
       .refine⟨q0,.inr ⟨x,cs,T,fr,by rw[e1];exact q1,by rw[qp m _ x U hb q1];exact q2,q3,λY hs=>?_,λY=>qo x q1 Y hg,by rw[e2];exact q5,q6,λi j hi O=>⟨(q7 i j hi O).1,(q7 i j hi O).2.mono hk ql⟩⟩⟩;have ja:=jh x q1 hs Y;rcases ha with⟨ha,_⟩|⟨ha,_⟩
        .simp only[Blk.arr.injEq,Ci] at ha;subst ha;exact q4 Y ja
        .simp[frz] at ha;rw[ha] at Y;cases Y
     by_cases hc:fz=true∧m∈L
     .rw[AP hc];exact qh _ (.inr ⟨rfl,hc⟩) (by intro n;cases b<;>rfl)
     .rw[AB hc];exact qh _ (.inl ⟨rfl,hc⟩) (λ_=>rfl)
   .obtain⟨b1,qe⟩:=AA.1 h1;obtain⟨b3,jr⟩:=AA.1 h3
    have mixed:∀(j:Nat) (b:Blk) (m':Name) (qq:Blk),H.getD j none=some b->ρ' (.b j)=some x->m'∉B->σ.h m'=some qq->ρ m'=some x->False:=by
     intro j b m' qq O Z qy h7 hh;rcases hw j x (by rw[O];rfl) Z with h|⟨n,J,hxn⟩
     .exact absurd (I.hok.lt (by simp[h7]) hh) (by omega)
     .obtain⟨i,hi⟩:=BI.1 J;obtain⟨bi,js,_⟩:=hf i n hi;obtain rfl:=I.hok.inj m' n x (by simp[h7]) (by simp[js]) hh hxn;exact qy J
    rcases h9 m b1 qe with⟨j,b,O,_,e1,_,e3⟩|⟨U,_,e1,_,b,hb,_⟩<;>rcases h9 m' b3 jr with⟨j',b',qg,_,qb,_,jq⟩|⟨qy,_,qb,_,b',F,_⟩
    .rw[e1] at h4;rw[qb] at h5;have:=hpost.hok.inj (.b j) (.b j') x (by simp only[Hn];rw[O];rfl) (by simp only[Hn];rw[qg];rfl) h4 h5;rw[this] at e3;exact Ay (e3.symm.trans jq)
    .rw[e1] at h4;rw[qb] at h5;exact(mixed j b m' b' O h4 qy F h5).elim
    .rw[e1] at h4;rw[qb] at h5;exact(mixed j' b' m b qg h5 U hb h4).elim
    .rw[e1] at h4;rw[qb] at h5;exact I.hok.inj m m' x (by simp[hb]) (by simp[F]) h4 h5
  have ht:∀n x,n∈B->ρ n=some x->C.w0.heap.size<=x∨C.Mut x:=by
   intro n x J Z;obtain⟨i,hi⟩:=BI.1 J;obtain⟨b,hb,_⟩:=hf i n hi;exact I.mine n x (by simp[hb]) Z
  refine⟨_,_,v,S2,ρ2,κ2,rfl,hK,⟨I.nt,I.defers,λt=>?_,jn,Bl I.size hpost.size,λy hy U=>?_,λm x h1 h3=>?_,λy hy=>hk y (I.S0 y hy),λy hy=>?_,⟨hpost.out.1.trans I.out.1,hpost.out.2.trans I.out.2⟩,λj b' F=>?_⟩,back r v (λh1 h3=>(jj h1 h3).1) hrv⟩
  .refine(I.slots t).mono hk ql λm U=>q9 m λj h1 h3 e=>?_;subst e;rw[(hu j h1 h3).2.1 t] at U;cases U
  .rw[hpost.old y (AZ hy I.size) λqz=>?_]
   .exact I.old y hy U
   .obtain⟨n,J,Z⟩:=(hp y).1 qz;rcases ht n y J Z with h|h
    .omega
    .exact U h
  .obtain⟨b1,qe⟩:=AA.1 h1;rcases h9 m b1 qe with⟨j,b,O,_,e1,_,_⟩|⟨U,_,e1,_,b,hb,_⟩
   .rw[e1] at h3;rcases hw j x (by rw[O];rfl) h3 with h|⟨n,J,Z⟩
    .exact .inl (Bl I.size h)
    .exact ht n x J Z
   .rw[e1] at h3;exact I.mine m x (by simp[hb]) h3
  .rcases hpost.new y hy.1 with(h|⟨n,J,Z⟩)|h|h
   .exact I.Snew y h
   .rcases I.mine n y (he n J).2 Z with h|h
    .exact .inr (.inl h)
    .exact .inr (.inr h)
   .exact .inr (.inl (Bl I.size h))
   .obtain⟨n,J,Z⟩:=(hp y).1 h;rcases ht n y J Z with h|h
    .exact .inr (.inl h)
    .exact .inr (.inr h)
  .obtain⟨e1,e2,b0,h1,h2⟩:=q9 (.b j) (λ_ _ _=>by simp) b' F;obtain⟨e3,e4,b1,h3,h4⟩:=I.keep j b0 h1;exact⟨e1.trans e3,e2.trans e4,b1,h3,Blk.same_trans h4 h2⟩
 .exact hv.elim
end
section
variable [Envs]
variable {P:Program}{C:Ctx}{a:Act}{w:World}{S:Nat->Prop}{ρ:Name->Option Nat}{κ:Name->Nat}
structure St where
 s:List (Nat×AV)
 h:List (Name×Blk)
def look:List (Nat×AV)->Nat->AV
 | [],_=>.junk
 |(i,x)::r,t=>if t=i then x else look r t
def aA:List (Name×Blk)->Name->Option Blk
 | [],_=>none
 |(i,x)::r,t=>if t=i then some x else aA r t
def St.f (σ:St):FSt:=⟨look σ.s,aA σ.h⟩
def put (d:Option Nat) (x:AV) (s:List (Nat×AV)):List (Nat×AV):=
 match d with
 |some d=>(d,x)::s
 |none=>s
theorem kE (d:Option Nat) (x:AV) (s:List (Nat×AV)):look (put d x s)=upd (look s) d x:=by
 cases d<;>rfl
def hset (n:Name) (b:Blk):List (Name×Blk)->List (Name×Blk)
 | []=>[(n,b)]
 |(i,x)::r=>if n=i then(i,b)::r else(i,x)::hset n b r
theorem tQ (n:Name) (b:Blk):∀l,aA (hset n b l)=hput (aA l) n (some b)
 | []=>by funext m;simp only[hset,aA,hput]
 | (i,x)::r=>by
  funext m
  simp only[hset,hput];split
  .grind [aA]
  .rename_i F;simp only[aA];by_cases H:m=i
   .subst H;simp[DN F]
   .simp only[H,Bd,tQ n b r,hput]
def Name.isT:Name->Bool
 |.t _ _=>true
 |.b _=>false
def bT (n:Name) (σ:St):Bool:=n.isT&&σ.s.all (λp=>!p.2.has n)&&σ.h.all (λp=>!decide (p.1=n)&&!p.2.has n)
theorem aFV:∀(s:List (Nat×AV)) (t:Nat),look s t=.junk∨∃p,p∈s∧p.2=look s t
 | [],_=>.inl rfl
 | (i,x)::r,t=>by
  simp only[look];split
  .exact .inr ⟨(i,x),by simp,rfl⟩
  .rcases aFV r t with h|⟨p,hp,h⟩
   all_goals grind
theorem pQ:∀(l:List (Name×Blk)) (n:Name) (b:Blk),aA l n=some b->(n,b)∈l
 | [],_,_,h=>by simp[aA] at h
 | (i,x)::r,n,b,h=>by
  simp only[aA] at h;split at h
  .grind
  .exact C9 _ (pQ r n b h)
theorem aHf {l:List (Name×Blk)}{n:Name} (h:∀p,p∈l->p.1≠n):aA l n=none:=by
 cases hl:aA l n with
 |none=>rfl
 |some b=>exact absurd rfl (h _ (pQ l n b hl))
theorem dP {n:Name}{σ:St} (h:bT n σ=true):iJ n σ.f:=by
 simp only[bT,Av,Az,BA,BC] at h;obtain⟨⟨h0,I⟩,h2⟩:=h
 have F:∀j,n≠.b j:=by
  rintro j rfl;cases h0
 have h:=And.intro I h2;clear I h2;refine⟨⟨aHf λp H=>(h.2 p H).1,F⟩,λt=>?_,λm b F=>(h.2 _ (pQ _ _ _ F)).2⟩;rcases aFV σ.s t with e|⟨p,H,e⟩
 .simp only[St.f,e,AV.has]
 .simp only[St.f,←e];exact h.1 p H
def bW (n:Name) (σ:St):St:=⟨σ.s.map λp=>(p.1,scr n p.2),(σ.h.filter λp=>!decide (p.1=n)).map λp=>(p.1,rF n p.2)⟩
theorem nP (f:AV->AV) (F:f .junk=.junk):∀(s:List (Nat×AV)) (t:Nat),look (s.map λp=>(p.1,f p.2)) t=f (look s t)
 | [],_=>by simp[look,F]
 | (i,x)::r,t=>by
  simp only[BD,look];split
  .rfl
  .exact nP f F r t
theorem tO (n:Name):∀(l:List (Name×Blk)) (m:Name),aA ((l.filter λp=>!decide (p.1=n)).map λp=>(p.1,rF n p.2)) m=if m=n then none else(aA l m).map (rF n)
 | [],m=>by simp[aA]
 | (i,x)::r,m=>by
  have F:=tO n r m
  all_goals grind [aA]
theorem pV (n:Name) (σ:St):(bW n σ).f=oF n σ.f:=by
 simp only[St.f,bW,oF,FSt.mk.injEq];exact⟨funext λt=>nP (scr n) (by simp[scr,AV.has]) _ t,funext λm=>tO n _ m⟩
def aQ:Option Name->St->St
 |some n,σ=>bW n σ
 |none,σ=>σ
theorem aF1 (on:Option Name) (σ:St):(aQ on σ).f=aBN on σ.f:=by
 cases on
 .rfl
 .exact pV _ _
/-! ## a call on lists -/
def sP (g:Blk->Blk) (d nB:Nat):Nat->List (Option Blk)->List (Name×Blk)
 |_,[]=>[]
 |i,none::r=>sP g d nB (i+1) r
 |i,some b::r=>if nB<=i then(.t d i,g b)::sP g d nB (i+1) r else sP g d nB (i+1) r
def aGx (B:List Name) (d:Nat) (hout:List (Option Blk)) (fz:Bool) (L:List Name) (m:Name) (b:Blk):Option Blk:=
 match lH B m with
 |some j=>(hout.getD j none).map (rnB (phi B d hout.length))
 |none=>some (if fz=true∧m∈L then frz b else b)
def aDZ (f:Name->Blk->Option Blk):List (Name×Blk)->List (Name×Blk)
 | []=>[]
 | (m,b)::r=>match f m b with
  |some b'=>(m,b')::aDZ f r
  |none=>aDZ f r
def zU (h:List (Name×Blk)) (B:List Name) (d:Nat) (hout:List (Option Blk)) (fz:Bool) (L:List Name):List (Name×Blk):=
 sP (rnB (phi B d hout.length)) d B.length 0 hout++aDZ (aGx B d hout fz L) h
theorem aAY (l F:List (Name×Blk)) (m:Name):aA (l++F) m=(aA l m).or (aA F m):=by
 induction l with
 |nil=>simp[aA]
 | cons p r ih =>
  grind [aA]
def xX (g:Blk->Blk) (d nB i:Nat) (l:List (Option Blk)):Name->Option Blk
 |.t d' j=>if d'=d∧nB<=j∧i<=j∧j<i+l.length then(l.getD (j-i) none).map g else none
 |.b _=>none
theorem aAm (g:Blk->Blk) (d nB:Nat):∀(l:List (Option Blk)) (i:Nat) (m:Name),aA (sP g d nB i l) m=xX g d nB i l m
 | [],i,m=>by
  grind [sP,aA,xX,Name]
 | o::r,i,m=>by
  have I:=aAm g d nB r (i+1) m
  have skip:(∀b,o=some b->¬nB<=i)->aA (sP g d nB (i+1) r) m=xX g d nB i (o::r) m:=by
   intro H;rw[I];cases m with
   |b=>rfl
   | t d' j =>
    simp only[xX,Ab];by_cases F:j=i
    .subst F;rw[AB (by omega)];cases o with
     |none=>simp
     |some b=>rw[AB (by intro h;exact H b rfl h.2.1)]
    all_goals grind
  cases o with
  |none=>exact skip (by simp)
  | some b =>
   grind [sP,aA,xX,Name]
theorem aAl (f:Name->Blk->Option Blk) (F:∀m b H,f m b=none->f m H=none) (m:Name):∀h:List (Name×Blk),aA (aDZ f h) m=(aA h m).bind (f m)
 | []=>rfl
 | (i,x)::r=>by
  have J:=aAl f F m r;simp only[aDZ,aA];by_cases I:m=i
  .subst I;cases hfx:f m x with
   | none =>
    simp only[J,Bj,CQ,hfx];cases hr:aA r m with
    |none=>rfl
    |some b=>exact F m x b hfx
   |some b=>simp[aA,hfx]
  all_goals grind [aA]
theorem aOg {σ:St}{B:List Name}{d:Nat}{F:List (Option Blk)}{fz:Bool}{L:List Name} (I:∀m,m∈B->(aA σ.h m).isSome) (H:∀j,B.length<=j->j<F.length->aA σ.h (.t d j)=none) :
  aA (zU σ.h B d F fz L)=aft (aA σ.h) B d F fz L:=by
 funext m
 unfold zU
 rw [aAY,aAl _ (λm b Y h=>by
   unfold aGx at *
   cases hi:lH B m with
   |none=>rw[hi] at h;cases h
   |some j=>rw[hi] at h;exact h),aAm]
 unfold aft
 have hi:∀d' j,d'=d->B.length<=j->j<F.length->lH B (.t d' j)=none:=by
  rintro d' j rfl O h2;cases hi:lH B (.t d' j) with
  |none=>rfl
  | some i =>
   have:=I _ (BV (pJ hi));rw[H j O h2] at this;cases this
 have J:∀m,(aA σ.h m).bind (aGx B d F fz L m)=match lH B m with
   |some j=>(F.getD j none).map (rnB (phi B d F.length))
   |none=>if fz=true∧m∈L then(aA σ.h m).map frz else aA σ.h m:=by
  intro m;cases hx:lH B m with
  | none =>
   simp only;cases aA σ.h m with
   |none=>simp
   | some b =>
    grind [aGx]
  | some j =>
   have:=I _ (BV (pJ hx));obtain⟨b,U⟩:=AA.1 this;simp only[U,CQ,aGx,hx]
 all_goals grind [xX,Name]
end
section
variable [Envs]
def rM:List Nat->List Value->List Value->Option Bool
 | [],[],[]=>some true
 | k::ks,x::r,y::s=>match eqV k x y,rM ks r s with
  |some a,some b=>some (a&&b)
  |_,_=>none
 |_,_,_=>none
mutual
def eqT (P:Program):Nat->TypeId->Option (List Nat)
 |0,_=>none
 | d+1,t=>match P.underlying t with
  |some .bool=>some [1]
  |some (.int _)=>some [0]
  |some .string=>some [2]
  | some (.struct fs)=>if P.stoodInHeld t then none else match eqF P d fs.toList 0 with
   |some l=>if jY P t=some l.length then some l else none
   |none=>none
  |_=>none
def eqF (P:Program):Nat->List Field->Nat->Option (List Nat)
 |0,_,_=>none
 |_+1,[],_=>some []
 | d+1,f::fs,o=>if f.name != "_" && f.offset==o then match eqT P d f.type with
   | some m=>if m.length=0 then none else match eqF P d fs (o+m.length) with
    |some l=>some (m++l)
    |none=>none
   |none=>none
  else none
end
theorem aGe:∀{F:List Nat}{l m:List Value}{b:Bool},rM F l m=some b->l.length=F.length∧m.length=F.length
 | [],[],[],_,_=>⟨rfl,rfl⟩
 | k::F,x::r,y::s,b,h=>by
  simp only[rM] at h;split at h
  .rename_i a J L h2;obtain⟨H,I⟩:=aGe h2;simp[H,I]
  .cases h
 | [],[],_::_,_,h=>by simp[rM] at h
 | [],_::_,_,_,h=>by simp[rM] at h
 |_::_,[],_,_,h=>by simp[rM] at h
 |_::_,_::_,[],_,h=>by simp[rM] at h
theorem aBS:∀{F H:List Nat}{l m:List Value}{b:Bool},rM (F++H) l m=some b->∃I J,rM F (l.take F.length) (m.take F.length)=some I∧rM H (l.drop F.length) (m.drop F.length)=some J∧b=(I&&J)
 | [],H,l,m,b,h=>⟨true,b,by simp[rM],by simpa using h,by simp⟩
 | k::F,H,l,m,b,h=>by
  cases l with
  |nil=>simp[rM] at h
  | cons x l=>cases m with
   |nil=>simp[rM] at h
   | cons y m =>
    simp only[Ae,rM] at h;split at h
    .rename_i a L Y h2;obtain⟨I,J,O,U,rfl⟩:=aBS h2
     all_goals grind [rM]
    .cases h
def zV (g:Bool) (xs:List Value):Value:=if g then .agg xs.toArray else xs.headD undef
theorem aFA {P:Program}{t:TypeId}{xs:Array Value}{o n:Nat}{g:Bool}{w:World} (F:jA P t=some g) (I:g=true->jY P t=some n) (H:g=false->n=1) (J:o+n<=xs.size) :
  (part t xs o).run P w=.ok (zV g ((xs.toList.drop o).take n)) w:=by
 cases g with
 | true =>
  simp only[part,Sem.run_bind,mY F,Result.andThen_ok,Bj,run_sizeOf (I rfl),Sem.run_pure,zV];congr 2;apply Array.ext';simp
 | false =>
  obtain rfl:=H rfl;have:o<xs.size:=by omega
  simp only[part,Sem.run_bind,mY F,Result.andThen_ok,AR,Bd,zV]
  all_goals grind [Sem.run_pure,List.drop_eq_getElem_cons]
theorem aMH {P:Program}:∀{d:Nat}{t:TypeId}{l:List Nat},eqT P d t=some l->∃g,jA P t=some g∧(g=true->jY P t=some l.length)∧(g=false->l.length=1)
 |0,_,_,h=>by simp[eqT] at h
 | d+1,t,l,h=>by
  simp only[eqT] at h;split at h
  .rename_i F;obtain rfl:=Ay h;exact⟨false,by simp[jA,F],by simp,by simp⟩
  .rename_i F;obtain rfl:=Ay h;exact⟨false,by simp[jA,F],by simp,by simp⟩
  .rename_i F;obtain rfl:=Ay h;exact⟨false,by simp[jA,F],by simp,by simp⟩
  .rename_i H F;split at h
   .cases h
   .split at h
    .rename_i J I;split at h
     .obtain rfl:=Ay h;exact⟨true,by simp[jA,F],λ_=>by assumption,by simp⟩
     .cases h
    .cases h
  .cases h
theorem aNZ {P:Program} (w:World):∀(d:Nat),(∀(t:TypeId) (l:List Nat),eqT P d t=some l->∀(g:Bool),jA P t=some g->∀(xs ys:List Value) (b:Bool) (k:Nat),rM l xs ys=some b->
      (Op.equalIn (d+k) t (zV g xs) (zV g ys)).run P w=.ok b w)∧
  ∀(L:List Field) (o:Nat) (l:List Nat),eqF P d L o=some l->∀(xs ys:Array Value) (b:Bool) (k:Nat),rM l (xs.toList.drop o) (ys.toList.drop o)=some b->(Op.eqFields (d+k) xs ys L).run P w=.ok b w:=by
 intro d
 induction d with
 |zero=>exact⟨λt l h=>by simp[eqT] at h,λL o l h=>by simp[eqF] at h⟩
 | succ d ih =>
  obtain⟨hj,hc⟩:=ih;refine⟨λt l h g H xs ys b k J=>?_,λL o l h xs ys b k J=>?_⟩
  .simp only[eqT] at h
   have I:∀(c:Nat),l=[c]->g=false->∃x y,zV g xs=x∧zV g ys=y∧eqV c x y=some b:=by
    rintro c rfl rfl
    match xs,ys,J with
    | [],_,J=>simp[rM] at J
    |_::_,[],J=>simp[rM] at J
    | x::r,y::s,J =>
     grind [rM,zV]
   have e1:d+1+k=(d+k)+1:=by omega
   rw[e1];split at h
   .rename_i O;simp only[jA,O,Ad] at H;obtain⟨x,y,hx,hy,F⟩:=I 1 (Ay h).symm H.symm
    all_goals grind [eqV,run_equalIn_bool',Value]
   .rename_i kk O;simp only[jA,O,Ad] at H;obtain⟨x,y,hx,hy,F⟩:=I 0 (Ay h).symm H.symm;rw[hx,hy];cases x<;>simp only[eqV] at F<;>try(cases F;done)
    cases y<;>simp only at F<;>try(cases F;done)
    all_goals grind [run_equalIn_int]
   .rename_i O;simp only[jA,O,Ad] at H;obtain⟨x,y,hx,hy,F⟩:=I 2 (Ay h).symm H.symm
    all_goals grind [eqV,run_equalIn_string,Value]
   .rename_i L O;simp only[jA,O,Ad] at H;subst H;split at h
    .cases h
    .rename_i hh;split at h
     .rename_i l' hl;split at h
      .obtain rfl:=Ay h;have Y:P.fieldsOf t=L:=by simp[Program.fieldsOf,O]
       simp only[zV,Bj];rw[run_equalIn_struct w (d+k) t _ _ (by rw[Y];exact O) (by simpa using hh),Y];exact hc _ _ _ hl _ _ b k (by simpa using J)
      .cases h
     .cases h
   .cases h
  .cases L with
   | nil =>
    simp only[eqF,Ad] at h;subst h
    have:b=true:=by
     grind [rM]
    subst this;simp[Op.eqFields]
   | cons f L =>
    simp only[eqF] at h;split at h
    .rename_i U;simp only[Av,bne_iff_ne,ne_eq,BN] at U;split at h
     .rename_i m hm;split at h
      .cases h
      rename_i hk;split at h
      .rename_i l' hd;obtain rfl:=Ay h;obtain⟨g,H,Z,ha⟩:=aMH hm;have hb:=aGe J;simp only[Cg,BO,AQ] at hb;obtain⟨b1,b2,q1,q2,rfl⟩:=aBS J;have he:=aFA (w:=w) (xs:=xs) (o:=o) H Z ha (by omega);have hf:=aFA (w:=w) (xs:=ys) (o:=o) H Z ha (by omega);have e1:d+1+k=d+(1+k):=by omega
       have hq:=hj _ _ hm g H _ _ b1 (1+k) q1;simp only[Op.eqFields,ne_eq,U.1,not_false_eq_true,Bj,U.2,Sem.run_bind,he,hf,Result.andThen_ok,e1,hq];cases b1 with
       |false=>simp
       | true =>
        simp only[BZ,AR,Bd,CX];exact hc L (o+m.length) l' hd xs ys b2 (1+k) (by rw[List.drop_drop,List.drop_drop] at q2;exact q2)
      .cases h
     .cases h
    .cases h
theorem aLk {P:Program}{S:Nat->Prop}{w:World}{ρ:Name->Option Nat}{κ:Name->Nat}{h:Name->Option Blk}:∀{L:List Nat}{c F:List AV}{vs us:List Value}{b:Bool},eqC L c F=some b->
  c.length=vs.length->F.length=us.length->(∀j,j<c.length->RV S w ρ κ h (c.getD j .junk) (vs.getD j undef))->(∀j,j<F.length->RV S w ρ κ h (F.getD j .junk) (us.getD j undef))->rM L vs us=some b
 | [],[],[],[],[],b,hc,_,_,_,_=>by simpa[eqC,rM] using hc
 | k::L,x::r,y::s,v::vs,u::us,b,hc,h1,h2,h3,h4=>by
  have H:=h3 0 (by simp);have I:=h4 0 (by simp);simp only[Aw] at H I;cases x<;>try(simp[eqC] at hc;done)
  cases y<;>try(simp[eqC] at hc;done)
  cases H with|clo H=>cases H with|v x =>
  cases I with|clo I=>cases I with|v y =>
  simp only[eqC] at hc;split at hc
  .rename_i a Y O U;have:=aLk (P:=P) U (by simpa using h1) (by simpa using h2) (λj J=>by simpa using h3 (j+1) (by simpa using J)) (λj J=>by simpa using h4 (j+1) (by simpa using J));simp only[rM,O,this];exact hc
  .cases hc
 | [],[],_::_,_,_,b,hc,_,_,_,_=>by simp[eqC] at hc
 | [],_::_,_,_,_,b,hc,_,_,_,_=>by simp[eqC] at hc
 |_::_,[],_,_,_,b,hc,_,_,_,_=>by simp[eqC] at hc
 |_::_,_::_,[],_,_,b,hc,_,_,_,_=>by simp[eqC] at hc
 |_,_::_,_::_,[],_,b,hc,h1,_,_,_=>by simp at h1
 |_,_::_,_::_,_::_,[],b,hc,_,h2,_,_=>by simp at h2
 |_,[],[],_::_,_,b,hc,h1,_,_,_=>by simp at h1
 |_,[],[],[],_::_,b,hc,_,h2,_,_=>by simp at h2
variable {P:Program}{C:Ctx}{σ:FSt}{a:Act}{w:World}{S:Nat->Prop}{ρ:Name->Option Nat}{κ:Name->Nat}{K:AV->Prop}
theorem aKw (J:OK C σ a w S ρ κ) {op:BinOp}{t:TypeId}{ks:List Nat}{x y:Operand}{I:Bool} (U:(op=.eql∧I=false)∨(op=.neq∧I=true)) (ht:eqT P 30 t=some ks) (hg:P.eqGuardType P.depth t=false) (ha:jA P t=some true)
  (H:rd (evO σ.s) σ.h K (.eqA I ks x y)):Ans P S w ρ κ σ.h K (do eqGuard op t x y (a.eval x) (a.eval y);binOp op t (a.eval x) (a.eval y)):=by
 have Z:=J.ev x;have hy:=J.ev y;generalize a.eval x=va at Z⊢;generalize a.eval y=vb at hy⊢;simp only[rd] at H;split at H
 .rename_i c c' hc L;rw[hc] at Z;rw[L] at hy;obtain⟨vs,rfl,l1,r1⟩:=jW Z;obtain⟨us,rfl,l2,r2⟩:=jW hy;split at H
  .rename_i b hb;have Y:=aLk (P:=P) (vs:=vs.toList) (us:=us.toList) hb (by simpa using l1) (by simpa using l2) (λj O=>by rw[getD_toList];exact r1 j O) (λj O=>by rw[getD_toList];exact r2 j O);have F:=(aNZ (P:=P) w 30).1 t ks ht true ha vs.toList us.toList b 9970 Y;simp only[zV,Bj] at F;rcases U with⟨rfl,rfl⟩|⟨rfl,rfl⟩
   .refine⟨_,_,H,?_,.clo (.v _)⟩;simp only[Sem.run_bind,run_eqGuard_agg w _ t x y vs us hg,Result.andThen_ok,run_eql_struct w t vs us];rw[show(10000:Nat)=30+9970 from rfl,F];rfl
   .refine⟨_,_,H,?_,.clo (.v _)⟩;simp only[Sem.run_bind,run_eqGuard_agg w _ t x y vs us hg,Result.andThen_ok,run_neq_struct w t vs us];rw[show(10000:Nat)=30+9970 from rfl,F];rfl
  .exact H.elim
 .exact H.elim
end
section
variable [Envs]
variable {P:Program}{C:Ctx}{σ:FSt}{a:Act}{w:World}{S:Nat->Prop}{ρ:Name->Option Nat}{κ:Name->Nat}{K:AV->Prop}
theorem aDa (F:List Int):F.foldl (λr n=>r.push (UInt8.ofNat n.toNat)) ByteArray.empty=aCy F:=by
 have H:∀(F:List Int) (b:ByteArray),F.foldl (λr n=>r.push (UInt8.ofNat n.toNat)) b=⟨b.data++(F.map λn=>UInt8.ofNat n.toNat).toArray⟩:=by
  intro F
  induction F with
  |nil=>intro b;cases b;simp
  | cons n r ih =>
   intro b;simp only[List.foldl_cons,ih];cases b;simp[ByteArray.push]
 rw[H];simp[aCy,ByteArray.empty,ByteArray.emptyWithCapacity];rfl
theorem aAd:∀{l:List (List AV)}{F:List Int},sO l=some F->l=F.map λn=>[.v (.int .u8 n)]
 | [],F,h=>by simp[sO] at h;simp[h]
 | [.v (.int .u8 n)]::r,F,h=>by
  simp only[sO] at h;split at h
  .rename_i l H;obtain rfl:=Ay h;rw[aAd H];rfl
  .cases h
 | []::r,F,h=>by simp[sO] at h
 |(x::y::s)::r,F,h=>by simp[sO] at h
 | [x]::r,F,h=>by
  cases x<;>try(simp[sO] at h;done)
  rename_i v;cases v<;>try(simp[sO] at h;done)
  rename_i k n;cases k<;>try(simp[sO] at h;done)
  simp only[sO] at h;split at h
  .rename_i l H;obtain rfl:=Ay h;rw[aAd H];rfl
  .cases h
theorem aND (Z:OK C σ a w S ρ κ) {s d e:TypeId} (hs:P.underlying s=some (.slice e)) (he:P.underlying e=some (.int .u8)) (hd:P.underlying d=some .string) {x:Operand}
  (O:rd (evO σ.s) σ.h K (.b2s x)):Ans P S w ρ κ σ.h K (convert s d (a.eval x)):=by
 have hx:=Z.ev x;generalize a.eval x=va at hx⊢;simp only[rd] at O;split at O
 .rename_i l hl;split at O
  .rename_i ns hc;obtain⟨base,cap,f,rfl,hr⟩:=aCG Z.hok hx hl;have Y:=aAd hc;refine⟨_,_,O,?_,.clo (.v _)⟩;rw[run_convert_bytes_string w s d e _ _ _ hs he hd];have H:l.length=ns.length:=by rw[Y];simp
   cases ns with
   | nil =>
    have h0:l.length=0:=by simpa using H
    rw[h0];cases base with
    | none =>
     simp[Conv.bytesToString,aCy,ByteArray.empty,ByteArray.emptyWithCapacity];rfl
    | some A =>
     rw[run_bytesToString w A 0 cap [] (by simp[loadCells,loadCellsFrom]),aDa]
   | cons L ns0 =>
    have F:=hr.cell w rfl;obtain⟨b,off,hb,_⟩:=F 0 (by simp at H;omega);subst hb;rw[H];rw[run_bytesToString w ⟨b,off,none⟩ _ cap (L::ns0) ?_,aDa];rw[run_loadCells w ⟨b,off,none⟩ _ f (λj I=>?_)]
    .congr 1;apply Array.ext';simp only;apply List.ext_getElem?;intro j;rcases Dc j (L::ns0).length with I|I
     .have J:=hr.rc j (by omega)
      have e1:rG 1 l j=.v (.int .u8 (L::ns0)[j]):=by
       have:l[j]? = some [.v (.int .u8 (L::ns0)[j])]:=by rw[Y];simp only[Cu,Ba I,AU]
       simp[rG,List.getD,this,Nat.mod_one]
      rw[e1] at J
      have e2:f j=.int .u8 (L::ns0)[j]:=by
       generalize f j=u at J;cases J with|v _=>rfl
      rw[Cu,List.getElem?_range I,Cu,Ba I,AU,AU,e2]
     .rw[List.getElem?_eq_none (show(List.map f (List.range (L::ns0).length)).length<=j by simpa using I),List.getElem?_eq_none (show(List.map (Value.int .u8) (L::ns0)).length<=j by simpa using I)]
    .obtain⟨b',hf,U,ha⟩:=F j (by omega);simp only[Ad,Addr.mk.injEq,and_true] at U;obtain⟨rfl,rfl⟩:=U;rw[addr_add];exact ha
  .exact O.elim
 .exact O.elim
def aK1 (P:Program) (f:FuncId):Bool:=match P.funcs[f]? with
 |some fn=>fn.body.isNone&&fn.name == "internal/bytealg.IndexByteString" && fn.origin == ""
 |none=>false
theorem aLf {fn:Func} (h:fn.name = "internal/bytealg.IndexByteString"):Extern.find fn=some Extern.BytealgIndexByte.indexByte:=by
 unfold Extern.find;simp only[h];rfl
theorem aE3 {fn:Func} (h:fn.name = "internal/bytealg.IndexByteString") (F:fn.origin = ""):Extern.findNext fn=none:=by
 unfold Extern.findNext;simp only[h,F];rfl
theorem aMa (J:OK C σ a w S ρ κ) {o:Oper}{c:Call}{f:FuncId}{x y:Operand} (Y:o.op=.call c) (hc:c.callee=.value (.func f)) (H:c.args=#[x,y]) (hi:aK1 P f=true)
  (L:rd (evO σ.s) σ.h K (.idxB x y)):∃x' v,K x'∧(execOp a.eval o).run P w=.ok (.value v) w∧RV S w ρ κ σ.h x' v:=by
 have Z:=J.ev x;have hy:=J.ev y
 have F:(execOp a.eval o).run P w=(callFunc f #[a.eval x,a.eval y]).run P w:=by
  simp[execOp,Y,resolve,hc,H,Act.eval,Deferred.ofValue,invoke]
 generalize a.eval x=va at Z F;generalize a.eval y=vb at hy F;simp only[rd] at L;split at L
 .rename_i s n h1 h2;rw[h1] at Z;rw[h2] at hy;obtain rfl:=bE Z;obtain rfl:=bE hy;unfold aK1 at hi;split at hi
  .rename_i fn U;simp only[Av,BN] at hi;have I:(fn.name == "runtime.NumGoroutine")=false:=by rw[hi.1.2];rfl
   refine⟨_,.int .i64 (zF s n),L,?_,.clo (.v _)⟩;rw[F,run_callFunc_indexByte U I hi.1.1 (aE3 hi.1.2 hi.2) (aLf hi.1.2)]
   have e:Extern.BytealgIndexByte.indexByte #[Value.string s,.int .u8 n]=(do
       let b ←Extern.Bytes.bytesOf (.string s)
       let c ←Extern.Bytes.asByte (.int .u8 n)
       match(List.range b.size).find? (λi=>b[i]! == c) with
       |some i=>pure (goInt i)
       |none=>pure (goInt (-1)):Sem Value):=rfl
   rw[e];simp only[Extern.Bytes.bytesOf,Extern.Bytes.asByte,Sem.run_bind,Sem.run_pure,Result.andThen_ok];unfold zF;split
   .rename_i i O;simp only[O,Sem.run_pure,Result.andThen_ok,goInt]
   .rename_i O;simp only[O,Sem.run_pure,Result.andThen_ok,goInt]
  .cases hi
 .exact L.elim
end
section
variable [Envs]
variable {P:Program}{C:Ctx}{a:Act}{w:World}{S:Nat->Prop}{ρ:Name->Option Nat}{κ:Name->Nat}
structure aI where
 dst:Option Nat
 op:AOp
 guard:Option (Nat×Bool)
def sF:AV->List Name
 |.loc n _ _=>[n]
 |.ptr n _ _=>[n]
 |_=>[]
def l8:AV->List Name
 |.agg c=>c.flatMap sF
 |x=>sF x
def lU (h:List (Name×Blk)) (n:Name):List Name:=
 match aA h n with
 |some (.var c _)=>c.flatMap sF
 |_=>[]
def aGt (h:List (Name×Blk)) (xs:List AV) (bor:List Nat):List Name:=
 let t:=bor.flatMap λi=>l8 (xs.getD i .junk)
 t++t.flatMap (lU h)
def nodupB:List Name->Bool
 | []=>true
 |n::r=>!r.contains n&&nodupB r
def kT (d nB n:Nat) (σ:St):Bool:=(List.range n).all λj=>decide (j<nB)||bT (.t d j) σ
def aB (P:Program) (f:FuncId) (hin:List Blk) (ys:List AV) (L:List Name) (d:Option Nat) (σ:St) (B:List Name) (K:St->Prop) (_:Tag K):Prop:=
 ∃ r hout fz,Fn P f hin ys r hout∧(fz=false->(L=[]∨(flat r=true∧∀b,some b∈hout->iV b)))∧
  kT (d.getD 0) B.length hout.length σ=true∧K ⟨put d (rn (phi B (d.getD 0) hout.length) r) σ.s,zU σ.h B (d.getD 0) hout fz L⟩
def aDn (P:Program) (d:Option Nat) (σ:St) (K:St->Prop) (fv:AV) (xs:List AV) (B:List Name):Prop:=
 match fv with
 | .fn f caps=>match fD (conv (aA σ.h) 8 B false) (xs++caps),wX (aA σ.h) B B with
  |some (ys,L1),some (hin,L2)=>nodupB B=true∧aB P f hin ys (L1++L2) d σ B K .x
  |_,_=>False
 |_=>False
def bP (P:Program) (d:Option Nat) (σ:St) (K:St->Prop):AOp->Prop
 | .box x=>match d with
  |some d=>al (evO (look σ.s)) (aA σ.h) (.t d 0) (λv b=>(bT (.t d 0) σ=true∧b.has (.t d 0)=false)∧K ⟨(d,v)::σ.s,(.t d 0,b)::σ.h⟩) (.box x)
  |none=>False
 | .alloc z=>match d with
  |some d=>al (evO (look σ.s)) (aA σ.h) (.t d 0) (λv b=>(bT (.t d 0) σ=true∧b.has (.t d 0)=false)∧K ⟨(d,v)::σ.s,(.t d 0,b)::σ.h⟩) (.alloc z)
  |none=>False
 | .bslice k m z ps=>match d with
  |some d=>al (evO (look σ.s)) (aA σ.h) (.t d 0) (λv b=>(bT (.t d 0) σ=true∧b.has (.t d 0)=false)∧K ⟨(d,v)::σ.s,(.t d 0,b)::σ.h⟩) (.bslice k m z ps)
  |none=>False
 | .mk k y z n=>match d with
  |some d=>al (evO (look σ.s)) (aA σ.h) (.t d 0) (λv b=>(bT (.t d 0) σ=true∧b.has (.t d 0)=false)∧K ⟨(d,v)::σ.s,(.t d 0,b)::σ.h⟩) (.mk k y z n)
  |none=>False
 |.call f args bor=>aDn P d σ K (evO (look σ.s) f) (args.map (evO (look σ.s))) (aGt σ.h (args.map (evO (look σ.s))) bor)
 | .store k A X=>d=none∧match evO (look σ.s) A with
  | .ptr n e c=>match aA σ.h n,kW (aA σ.h) (evO (look σ.s) X) with
   |some b,some cs=>(b.fz=false∧0<k∧cs.length=k∧c+k<=(b.row e).length∧b.okc cs=true)∧K ⟨σ.s,hset n (b.setRow e (lay (b.row e) c cs)) σ.h⟩
   |_,_=>False
  |_=>False
 | .append k y A X=>match d with
  | some d=>match aBY k (aA σ.h) (evO (look σ.s) A),qD k (aA σ.h) (evO (look σ.s) X) with
   | some (on,l),some l'=>(bT (.t d 0) (aQ on σ)=true∧(l.length+l'.length)*y<=2 ^ 47∧l.length+l'.length<2 ^ 62)∧
     K ⟨(d,.loc (.t d 0) 0 (l.length+l'.length))::(aQ on σ).s,(.t d 0,.arr k (l++l') false)::(aQ on σ).h⟩
   |_,_=>False
  |none=>False
 | .appendC k y A X=>match d with
  | some d=>match aBY k (aA σ.h) (evO (look σ.s) A),qD k (aA σ.h) (evO (look σ.s) X) with
   | some (on,l),some l'=>(bT (.t d 0) (aQ on σ)=true∧(l.length+l'.length)*y<=2 ^ 47∧l.length+l'.length<2 ^ 62)∧
     K ⟨(d,.sl k (l++l'))::(aQ on σ).s,(aQ on σ).h⟩
   |_,_=>False
  |none=>False
 | .bsliceC k m z ps=>match d with
  |some d=>al (evO (look σ.s)) (aA σ.h) (.t d 0) (λv b=>(bT (.t d 0) σ=true∧b.has (.t d 0)=false)∧∃rows,b=.arr k rows false∧v=.loc (.t d 0) 0 rows.length∧K ⟨(d,.sl k rows)::σ.s,σ.h⟩) (.bslice k m z ps)
  |none=>False
 | .clr k z X=>match evO (look σ.s) X with
  | .loc n off len=>match aA σ.h n with
   |some (.arr k' l fz)=>(fz=false∧k'=k∧z.length=k∧(z.all λx=>oQ (aA σ.h) x&&dA x)=true∧off+len<=l.length)∧K ⟨put d (.v (.tuple #[])) σ.s,hset n (.arr k (yK l off len z) false) σ.h⟩
   |_=>False
  |_=>False
 |op=>rd (evO (look σ.s)) (aA σ.h) (λv=>K ⟨put d v σ.s,σ.h⟩) op
/-! ## resolving -/
def avs (z:Array Value):List AV:=z.toList.map λx=>.v x
def uD (P:Program) (b:Builtin) (ts:List TypeId) (args:List Operand):Option AOp:=
 match b,ts,args with
 | .len,[t],[x]=>match P.underlying t with
  |some (.slice _)=>some (.len x)
  |some .string=>some (.lenS x)
  |some (.array n _)=>some (.lenC n)
  |_=>none
 | .append,[t,t2],[x,y]=>match P.underlying t,P.underlying t2 with
  | some (.slice e),some (.slice _)=>match P.info? e with
   | some i=>match i.zero with
    |some z=>if z.cells.size=i.size then some (.append i.size i.bytes x y) else none
    |none=>none
   |none=>none
  |_,_=>none
 |.max,[_,_],[x,y]=>some (.mm true x y)
 |.min,[_,_],[x,y]=>some (.mm false x y)
 | .clear,[t],[x]=>match P.underlying t with
  | some (.slice e)=>match P.info? e with
   | some i=>match i.zero with
    |some z=>some (.clr i.size (avs z.cells) x)
    |none=>none
   |none=>none
  |_=>none
 |_,_,_=>none
def bpS (P:Program) (fs:Array Field):List (Nat×Operand)->Option (List (Nat×Nat×Operand))
 | []=>some []
 | (i,x)::r=>match fs[i]? with
  | some f=>match jY P f.type,bpS P fs r with
   |some n,some l=>some ((f.offset,n,x)::l)
   |_,_=>none
  |none=>none
def aKn:Operand->Operand->Bool
 |.tmp l,.tmp c=>l==c
 |.const (.int k l),.const (.int k' c)=>k==k'&&l==c
 |_,_=>false
theorem aKm {x y:Operand} (h:aKn x y=true):x=y:=by
 unfold aKn at h
 all_goals grind
def comp (P:Program):Op->Option AOp
 |.move x=>some (.mv x)
 |.assign x=>some (.mv x)
 |.pick c x y=>some (.pick c x y)
 |.alloc t=>(zOf P t).map λz=>.alloc (avs z)
 |.box _ x=>some (.box x)
 | .build t ps=>match P.underlying t,zOf P t with
  |some (.struct fs),some z=>if fs.all (λf=>(jY P f.type).isSome) then(bpS P fs ps.toList).map λps=>.build (avs z) ps else none
  |some (.array _ e),some z=>(jY P e).map λn=>.build (avs z) (ps.toList.map λp=>(p.1*n,n,p.2))
  |_,_=>none
 | .buildSlice t m ps=>match P.underlying t with
  | some (.slice e)=>match jY P e,zOf P e with
   |some k,some z=>some (.bslice k m (avs z) ps.toList)
   |_,_=>none
  |_=>none
 |.load t x=>(wK P t).map λp=>.load p.1 p.2 x
 |.store t A X=>(jY P t).map λk=>.store k A X
 |.nilCheck x=>some (.nilc x)
 | .binOp op t x y _=>match P.underlying t with
  |some (.int _)=>some (.bin op x y)
  |some .string=>some (.binS op x y)
  |some .bool=>some (.binB op x y)
  | some (.struct _)=>match eqT P 30 t with
   | some ks=>if P.eqGuardType P.depth t=false∧jA P t=some true then match op with
     |.eql=>some (.eqA false ks x y)
     |.neq=>some (.eqA true ks x y)
     |_=>none
    else none
   |none=>none
  |_=>none
 |.unOp op _ x=>some (.un op x)
 | .convert s d x=>match P.underlying s,P.underlying d with
  |some (.int _),some (.int k)=>some (.conv k x)
  | some (.slice e),some .string=>match P.underlying e with
   |some (.int .u8)=>some (.b2s x)
   |_=>none
  |_,_=>none
 |.makeFunc (.func f) first caps=>if first.size=0 then some (.mkfn f caps.toList) else none
 | .makeSlice t L L'=>if aKn L L'=true then match P.underlying t with
   | some (.slice e)=>match P.info? e with
    | some i=>match i.zero with
     |some z=>some (.mk i.size i.bytes (avs z.cells) L)
     |none=>none
    |none=>none
   |_=>none
  else none
 | .slice t x lo hi none=>match P.underlying t with
  |some (.slice e)=>(jY P e).map λk=>.slc k x lo hi
  |some .string=>some (.sstr x lo hi)
  |_=>none
 | .fieldAddr s x i=>match zO P s i with
  | some f=>match jY P f.type with
   |some (_+1)=>some (.fieldAddr f.offset x)
   |_=>none
  |none=>none
 | .field s x i=>match zO P s i with
  |some f=>(wK P f.type).bind λp=>if jY P f.type=some p.2 then some (.field p.1 f.offset p.2 x) else none
  |none=>none
 | .indexAddr t x i=>match P.underlying t with
  |some (.slice e)=>(jY P e).map λk=>.idxSl k x i
  |some (.array n e)=>(jY P e).map λk=>.idxArr n k x i
  |_=>none
 | .index t x i=>match P.underlying t with
  |some .string=>some (.idxStr x i)
  |some (.array n e)=>(wK P e).bind λp=>if jY P e=some p.2 then some (.idxAgg p.1 n p.2 x i) else none
  |_=>none
 |.extract x i=>some (.extract x i)
 | .call c=>match c.callee with
  |.builtin b=>uD P b c.argTypes.toList c.args.toList
  | .value (.func f)=>if aK1 P f then match c.args.toList with
    | [x,y]=>some (.idxB x y)
    |_=>none
   else some (.call (.func f) c.args.toList [])
  |.value f=>some (.call f c.args.toList [])
  |.invoke _ _=>none
 |_=>none
def AOp.bare0:AOp->AOp
 |.call f args _=>.call f args []
 |op=>op
def AOp.bare:AOp->AOp
 |.appendC k y a x=>.append k y a x
 |.loadV g k a=>.load g k a
 |.fieldV off x=>.fieldAddr off x
 |.bsliceC k n z ps=>.bslice k n z ps
 |op=>op.bare0
def cK (C:Ctx) (K:St->Prop) (a:Act) (w:World):Prop:=∃σ S ρ κ,K σ∧OK C (St.f σ) a w S ρ κ
theorem cK.put {σ:St} (F:OK C σ.f a w S ρ κ) {x:AV}{v:Value} (J:RV S w ρ κ σ.f.h x v) {d:Option Nat} (I:∀d',d=some d'->d'<C.nt) {K:St->Prop} (H:K ⟨Vs.put d x σ.s,σ.h⟩):cK C K (a.put d v) w:=by
 refine⟨_,S,ρ,κ,H,?_⟩;have:=F.put J I;simpa[St.f,kE] using this
theorem wF {σ:St}{K:St->Prop}{o:Oper}{Q:Exit->Act->World->Prop} (H:OK C σ.f a w S ρ κ) (J:∀d',o.dst=some d'->d'<C.nt)
  (h:∃x v,K ⟨put o.dst x σ.s,σ.h⟩∧(execOp a.eval o).run P w=.ok (.value v) w∧RV S w ρ κ σ.f.h x v):o.wp P a w (cK C K) Q:=by
 obtain⟨x,v,I,F,L⟩:=h;unfold Oper.wp;rw[F];exact cK.put H L J I
theorem aHZ {s:Sem Value}{v:Value}{w':World} (h:s.run P w=.ok v w'):(do pure (Next.value (←s)):Sem Next).run P w=.ok (.value v) w':=by
 simp[h]
theorem aBk {σ:St} (hb:OK C σ.f a w S ρ κ) {t:TypeId}{L:Array Field}{z:Array Value}{J:Array (Nat×Operand)}{rp:List (Nat×Nat×Operand)}{K:AV->Prop}
  (hu:P.underlying t=some (.struct L)) (hz:zOf P t=some z) (U:L.all (λf=>(jY P f.type).isSome)=true) (hp:bpS P L J.toList=some rp) (hv:rd (evO (look σ.s)) (aA σ.h) K (.build (avs z) rp)) :
  Ans P S w ρ κ σ.f.h K (Instr.build t (J.map λ(i,x)=>(i,a.eval x))):=by
 obtain⟨zv,ha,rfl⟩:=aAG hz w
 let F:Array (Nat×Nat):=L.map λf=>(f.offset,(jY P f.type).getD 0)
 have H:(L.mapM λf=>(do pure (f.offset,←sizeOf f.type):Sem (Nat×Nat))).run P w=.ok F w:=by
  have hc:∀(l:List Field) (O:List (Nat×Nat)),(∀f,f∈l->(jY P f.type).isSome)->(l.mapM λf=>(do pure (f.offset,←sizeOf f.type):Sem (Nat×Nat))).run P w=.ok (l.map λf=>(f.offset,(jY P f.type).getD 0)) w:=by
   intro l
   induction l with
   |nil=>intro _ _;simp
   | cons f r ih =>
    intro O hl;obtain⟨n,hn⟩:=AA.1 (hl f (by simp));simp only[List.mapM_cons,Sem.run_bind,run_sizeOf hn,Result.andThen_ok,Sem.run_pure,ih O (λg hg=>hl g (by simp[hg])),BD,hn,Ce]
  have:=hc L.toList [] (λf hf=>by
    have:=Array.all_eq_true'.1 U f (by simpa using hf);exact this)
  rw[Array.mapM_eq_mapM_toList];simp only[Sem.run_map,this,Result.andThen_ok];congr 1;apply Array.ext';simp[F]
 simp only[rd] at hv
 have Z:J.toList.map (λp=>((F[p.1]?:Option (Nat×Nat))).map λq=>(q.1,q.2,p.2))=rp.map some:=by
  revert hp;generalize J.toList=l;clear hv
  induction l generalizing rp with
  |nil=>intro hp;simp[bpS] at hp;simp[hp]
  | cons p r ih =>
   grind [bpS]
 obtain⟨cs,vs,hK,I,Y,_⟩:=aCm hb (λi=>F[i]?) J.toList rp _ _ Z (uG zv.cells) hv;refine⟨_,.agg vs,hK,?_,.agg _ _ Y.1 Y.2⟩;have e:(J.map λ(i,x)=>(i,a.eval x)).toList=J.toList.map λp=>(p.1,a.eval p.2):=by simp
 simp only[Instr.build,Sem.run_bind,ha,Result.andThen_ok,run_underlying hu,H,e];rw[I];rfl
theorem aB2 {σ:St} (L:OK C σ.f a w S ρ κ) {t e:TypeId}{m n:Nat}{z:Array Value}{J:Array (Nat×Operand)}{K:AV->Prop}
  (hu:P.underlying t=some (.array m e)) (hz:zOf P t=some z) (Z:jY P e=some n) (O:rd (evO (look σ.s)) (aA σ.h) K (.build (avs z) (J.toList.map λp=>(p.1*n,n,p.2)))) :
  Ans P S w ρ κ σ.f.h K (Instr.build t (J.map λ(i,x)=>(i,a.eval x))):=by
 obtain⟨zv,I,rfl⟩:=aAG hz w;simp only[rd] at O;obtain⟨cs,vs,Y,F,H,_⟩:=aCm L (λi=>some (i*n,n)) J.toList _ _ _ (by simp) (uG zv.cells) O;refine⟨_,.agg vs,Y,?_,.agg _ _ H.1 H.2⟩;have U:(J.map λ(i,x)=>(i,a.eval x)).toList=J.toList.map λp=>(p.1,a.eval p.2):=by simp
 simp only[Instr.build,Sem.run_bind,I,Result.andThen_ok,run_underlying hu,run_sizeOf Z,U];rw[F];rfl
theorem uA:∀{B:List Name},nodupB B=true->B.Nodup
 | [],_=>List.nodup_nil
 | n::r,h=>by
  simp only[nodupB,Av,BA,List.contains_eq_mem,BC] at h;exact List.nodup_cons.2 ⟨h.1,uA h.2⟩
theorem aDQ {σ:St}{K:St->Prop}{o:Oper}{c:Call}{f:Operand}{bor:List Nat}{Q:Exit->Act->World->Prop} (U:OK C σ.f a w S ρ κ) (hd:∀d',o.dst=some d'->d'<C.nt)
  (ho:o.op=.call c) (hc:c.callee=.value f)
  (H:bP P o.dst σ K (.call f c.args.toList bor)):o.wp P a w (cK C K) Q:=by
 simp only[bP,aDn] at H;split at H
 .rename_i g caps hg;have hf:=U.ev f;simp only[St.f] at hf;rw[hg] at hf;obtain⟨vs,hq,hl,hr⟩:=aBs hf
  have I:iO P g:=by
   split at H
   .obtain⟨_,r,F,fz,O,_⟩:=H;exact O.1
   .exact H.elim
  obtain⟨fn,b,Y,h2,h3⟩:=I
  have he:(execOp a.eval o).run P w=.ok (.enter g (c.args.map a.eval++vs)) w:=by
   simp[execOp,ho,resolve,hc,hq,Deferred.ofValue,invoke,callFunc,Y,h2,h3]
  unfold Oper.wp;rw[he];simp only[Oper.upon];split at H
  .rename_i ys L1 hin L2 hs Z;obtain⟨hp,r,F,fz,O,L,hh,hK⟩:=H
   have ha:∀j,(aGt σ.h (c.args.toList.map (evO (look σ.s))) bor).length<=j->j<F.length->bT (.t (o.dst.getD 0) j) σ=true:=by
    grind [kT]
   have J:=aHv (K:=fun σ' x=>∃σl:St,σl.f=σ'∧K ⟨put o.dst (rn (phi (aGt σ.h (c.args.toList.map (evO (look σ.s))) bor) (o.dst.getD 0) F.length) r) σ.s,σl.h⟩∧σl.s=σ.s∧x=rn (phi (aGt σ.h (c.args.toList.map (evO (look σ.s))) bor) (o.dst.getD 0) F.length) r) U (d:=o.dst.getD 0) (f:=g) (caps:=caps) (xs:=c.args.toList.map (evO (look σ.s))) (uA hp) (vs:=c.args.map a.eval++vs) (by
       simp only[aLy,St.f,hs,Z];refine⟨r,F,fz,O,L,λj Y h2=>dP (ha j Y h2),⟨σ.s,zU σ.h (aGt σ.h (c.args.toList.map (evO (look σ.s))) bor) (o.dst.getD 0) F fz (L1++L2)⟩,?_,hK,rfl,rfl⟩;simp only[FSt.mk.injEq,Ci];refine aOg (λm hm=>?_) (λj Y h2=>(dP (ha j Y h2)).1.1);obtain⟨_,hn,_⟩:=wU _ _ Z;obtain⟨j,hj⟩:=BI.1 hm;obtain⟨b0,_,_,hk,_⟩:=hn j m hj;simp[hk]) (by simp[hl]) (λj hj=>by
       simp only[AQ,Bg,BO] at hj;by_cases hb:j<c.args.size
       . have e1:(c.args.toList.map (evO (look σ.s))++caps).getD j .junk=evO (look σ.s) c.args[j]:=by
           grind [look,St,Oper,Call]
         have e2:(c.args.map a.eval++vs).getD j undef=a.eval c.args[j]:=by simp[hb,show j<c.args.size+vs.size by omega]
         rw[e1,e2];exact U.ev _
       . have e1:(c.args.toList.map (evO (look σ.s))++caps).getD j .junk=caps.getD (j-c.args.size) .junk:=by
           grind
         have e2:(c.args.map a.eval++vs).getD j undef=vs.getD (j-c.args.size) undef:=by
           simp[Cz,hb]
         rw[e1,e2];exact hr _ (by omega))
   refine J.mono ?_
   all_goals grind [cK.put]
  .exact H.elim
 .exact H.elim
end
end Go.Vs
