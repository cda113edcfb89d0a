/- One operation: what it asks, and that the machine then does it. -/
import Derived.Test.YtmiiohemehacjaaGreatDoorVsI
import Derived.Laws.StructEq
import Derived.Laws.BytesString
import Derived.Laws.StandIn
set_option linter.all false
set_option maxHeartbeats 8000000
namespace Go.Vs
section
variable [Envs]
variable {P:Program}{C:Ctx}{σ:FSt}{a:Act}{w:World}{S:Nat->Prop}{ρ:Name->Option Nat}{κ:Name->Nat}{h:Name->Option Blk}
def kL:List Name->Name->Option Nat
 | [],_=>none
 |m::r,n=>if m=n then some 0 else(kL r n).map (· + 1)
theorem nV:∀{E:List Name}{n:Name}{j:Nat},kL E n=some j->E[j]? = some n
 | [],_,_,h=>by simp[kL] at h
 | m::r,n,j,h=>by
  simp only[kL] at h;split at h
  .grind
  .cases hr:kL r n with
   |none=>rw[hr] at h;simp at h
   | some i =>
    rw[hr] at h;simp only[Option.map_some,Option.some.injEq] at h;subst h;simpa using nV hr
theorem yR:∀{E:List Name}{n:Name},kL E n=none->n∉E
 | [],_,_=>by simp
 | m::r,n,h=>by
  simp only[kL] at h;split at h
  .cases h
  .rename_i F;have:kL r n=none:=by simpa using h
   simp only[List.mem_cons,not_or];exact⟨λe=>F e.symm,yR this⟩
def eG (f:AV->Option (AV×List Name)):List AV->Option (List AV×List Name)
 | []=>some ([],[])
 | x::r=>match f x,eG f r with
  |some (y,L),some (ys,L')=>some (y::ys,L++L')
  |_,_=>none
theorem fU {f:AV->Option (AV×List Name)}:∀{c F:List AV}{L:List Name},eG f c=some (F,L)->F.length=c.length∧
  ∀j,j<c.length->∃H,f (c.getD j .junk)=some (F.getD j .junk,H)∧∀n,n∈H->n∈L
 | [],F,L,h=>by
  grind [eG]
 | x::r,F,L,h=>by
  simp only[eG] at h;split at h
  .rename_i y I ys Y J h2;simp only[Option.some.injEq,Prod.mk.injEq] at h;obtain⟨rfl,rfl⟩:=h;obtain⟨O,Z⟩:=fU h2;refine⟨by simp[O],λj hj=>?_⟩;cases j with
   |zero=>exact⟨I,by simpa using J,λn U=>List.mem_append_left _ U⟩
   | succ j =>
    grind
  .cases h
theorem aAD {f:AV->Option (AV×List Name)}:∀{cs F:List AV}{L:List Name},eG f cs=some (F,L)->∀n,n∈L->∃j,j<cs.length∧∃H,f (cs.getD j .junk)=some (F.getD j .junk,H)∧n∈H
 | [],F,L,hm,n,hn=>by simp only[eG,Option.some.injEq,Prod.mk.injEq] at hm;obtain⟨_,rfl⟩:=hm;simp at hn
 | x::r,F,L,hm,n,hn=>by
  simp only[eG] at hm;split at hm
  .rename_i y I ys Y J h2;simp only[Option.some.injEq,Prod.mk.injEq] at hm;obtain⟨rfl,rfl⟩:=hm;rcases List.mem_append.1 hn with hn|hn
   .exact⟨0,by simp,I,by simpa using J,hn⟩
   .obtain⟨j,U,H,g,O⟩:=aAD h2 n hn;exact⟨j+1,by simpa using U,H,by simpa using g,O⟩
  .cases hm
def conv (h:Name->Option Blk):Nat->List Name->Bool->AV->Option (AV×List Name)
 |0,_,_,_=>none
 |_+1,_,c,.junk=>if c then none else some (.junk,[])
 | _+1,E,c,.loc n off len=>match kL E n with
  |some j=>if c then none else some (.loc (.b j) off len,[])
  | none=>match h n with
   |some (.arr k l _)=>some (.sl k ((l.drop off).take len),[n])
   |_=>none
 | m+1,E,c,.ptr n e o=>match kL E n with
  |some j=>if c then none else some (.ptr (.b j) e o,[])
  | none=>match h n with
   |some (.arr _ l _)=>some (.ro ((l.getD e []).drop o),[n])
   |some (.var cs _)=>(eG (conv h m E true) cs).map λp=>(.ro (p.1.drop o),n::p.2)
   |none=>none
 |m+1,E,c,.fn f cs=>(eG (conv h m E c) cs).map λp=>(.fn f p.1,p.2)
 |m+1,E,c,.agg cs=>(eG (conv h m E c) cs).map λp=>(.agg p.1,p.2)
 |m+1,E,c,.tup cs=>(eG (conv h m E c) cs).map λp=>(.tup p.1,p.2)
 |_+1,_,_,.v x=>some (.v x,[])
 |_+1,_,_,.sl k l=>some (.sl k l,[])
 |_+1,_,_,.ro c=>some (.ro c,[])
theorem aGf (S:Nat->Prop) {S':Nat->Prop} (F:∀b,S b->S' b) {x:AV}{v:Value} (h:RC S w x v):RC S' w x v:=h.mono F λ_ _=>rfl
theorem oF (ha:HOK S w ρ κ h) {S':Nat->Prop} (hS:∀b,S b->S' b) {E:List Name}{ρ':Name->Option Nat}{κ':Name->Nat}{h':Name->Option Blk}
  (hE:∀j n,E[j]? = some n->ρ' (.b j)=ρ n∧κ' (.b j)=κ n∧∀b',h' (.b j)=some b'->∃b,h n=some b∧b.same b') :
  ∀ (m:Nat) (c:Bool) (x x':AV) (L:List Name) (v:Value),conv h m E c x=some (x',L)->(∀n,n∈L->∀y,ρ n=some y->S' y)->RV S w ρ κ h x v->
   (c=false->RV S' w ρ' κ' h' x' v)∧(c=true->RC S' w x' v)∧∀n,n∈L->n∉E∧(h n).isSome:=by
 intro m
 induction m with
 |zero=>intro c x x' L v F;simp[conv] at F
 | succ m ih =>
  intro c x x' L v F hL hx
  have Y:∀(cs H:List AV) (L:List Name) (vs:Array Value),eG (conv h m E c) cs=some (H,L)->(∀n,n∈L->∀y,ρ n=some y->S' y)->(∀j,j<cs.length->RV S w ρ κ h (cs.getD j .junk) (vs.getD j undef))->
    H.length=cs.length∧(c=false->∀j,j<H.length->RV S' w ρ' κ' h' (H.getD j .junk) (vs.getD j undef))∧(c=true->∀j,j<H.length->RC S' w (H.getD j .junk) (vs.getD j undef))∧∀n,n∈L->n∉E∧(h n).isSome:=by
   intro cs
   induction cs with
   | nil =>
    grind [eG]
   | cons x r ihr =>
    intro H L vs I hL hr;simp only[eG] at I;split at I
    .rename_i y L1 ys L2 h1 h2;simp only[Option.some.injEq,Prod.mk.injEq] at I;obtain⟨rfl,rfl⟩:=I;have g1:=ih c x y L1 (vs.getD 0 undef) h1 (λn hn=>hL n (List.mem_append_left _ hn)) (by simpa using hr 0 (by simp))
     have g2:=ihr ys L2 (vs.extract 1 vs.size) h2 (λn hn=>hL n (List.mem_append_right _ hn)) (λj J=>by
       have:=hr (j+1) (by simpa using J)
       have e:(vs.extract 1 vs.size).getD j undef=vs.getD (j+1) undef:=by
         simp[Array.getElem?_extract,Nat.add_comm 1 j]
         all_goals grind
       rw[e];simpa using this)
     have e:∀j,(vs.extract 1 vs.size).getD j undef=vs.getD (j+1) undef:=by
      intro j;simp[Array.getElem?_extract,Nat.add_comm 1 j];split
      .rfl
      .simp[Array.getElem?_eq_none (show vs.size<=j+1 by omega)]
     refine⟨by simp[g2.1],λF j J=>?_,λF j J=>?_,λn hn=>?_⟩
     .cases j with
      |zero=>simpa using g1.1 F
      |succ j=>have:=g2.2.1 F j (by simpa using J);rw[e] at this;simpa using this
     .cases j with
      |zero=>simpa using g1.2.1 F
      |succ j=>have:=g2.2.2.1 F j (by simpa using J);rw[e] at this;simpa using this
     all_goals grind
    .cases I
  have O:∀x':AV,RC S' w x' v->(c=false->RV S' w ρ' κ' h' x' v)∧(c=true->RC S' w x' v):=λx' hr=>⟨λ_=>.clo hr,λ_=>hr⟩;cases x with
  | v y =>
   simp only[conv,Option.some.injEq,Prod.mk.injEq] at F;obtain⟨rfl,rfl⟩:=F;obtain rfl:=bL hx;exact⟨(O _ (.v _)).1,(O _ (.v _)).2,by simp⟩
  | sl k l =>
   grind [conv,aGf,RV]
  | ro l =>
   grind [conv,aGf,RV]
  | junk =>
   simp only[conv] at F
   all_goals grind [RV]
  | fn f cs =>
   simp only[conv] at F;cases I:eG (conv h m E c) cs with
   |none=>rw[I] at F;cases F
   | some p =>
    obtain⟨H,L'⟩:=p;rw[I] at F;simp only[Option.map_some,Option.some.injEq,Prod.mk.injEq] at F;obtain⟨rfl,rfl⟩:=F;obtain⟨vs,rfl,hl,hr⟩:=aCR hx;obtain⟨g1,g2,g3,g4⟩:=Y cs H L' vs I hL hr;exact⟨λF=>.fn _ _ _ (by omega) (g2 F),λF=>.fn _ _ _ (by omega) (g3 F),g4⟩
  | agg cs =>
   simp only[conv] at F;cases I:eG (conv h m E c) cs with
   |none=>rw[I] at F;cases F
   | some p =>
    obtain⟨H,L'⟩:=p;rw[I] at F;simp only[Option.map_some,Option.some.injEq,Prod.mk.injEq] at F;obtain⟨rfl,rfl⟩:=F;obtain⟨vs,rfl,hl,hr⟩:=qJ hx;obtain⟨g1,g2,g3,g4⟩:=Y cs H L' vs I hL hr;exact⟨λF=>.agg _ _ (by omega) (g2 F),λF=>.agg _ _ (by omega) (g3 F),g4⟩
  | tup cs =>
   simp only[conv] at F;cases I:eG (conv h m E c) cs with
   |none=>rw[I] at F;cases F
   | some p =>
    obtain⟨H,L'⟩:=p;rw[I] at F;simp only[Option.map_some,Option.some.injEq,Prod.mk.injEq] at F;obtain⟨rfl,rfl⟩:=F;obtain⟨vs,rfl,hl,hr⟩:=aB9 hx;obtain⟨g1,g2,g3,g4⟩:=Y cs H L' vs I hL hr;exact⟨λF=>.tup _ _ (by omega) (g2 F),λF=>.tup _ _ (by omega) (g3 F),g4⟩
  | loc n off len =>
   simp only[conv] at F;split at F
   .rename_i j J;split at F
    .cases F
    .rename_i hf;simp only[Option.some.injEq,Prod.mk.injEq] at F;obtain⟨rfl,rfl⟩:=F;refine⟨λ_=>.loc _ _ _ _ λk l z U=>?_,λh=>absurd h hf,by simp⟩;obtain⟨e1,e2,e3⟩:=hE j n (nV J);obtain⟨b,hd,hs⟩:=e3 _ U;cases b with
     |var=>simp[Blk.same] at hs
     | arr k' l' z' =>
      simp only[Blk.same] at hs;obtain⟨rfl,qd⟩:=hs;have:=iL hx _ _ _ hd;rw[e1,e2,←qd];exact this
   .rename_i J;split at F
    .rename_i k l z U;simp only[Option.some.injEq,Prod.mk.injEq] at F;obtain⟨rfl,rfl⟩:=F;have qf:oQ k h (.loc n off len)=some ((l.drop off).take len):=by simp[oQ,U]
     obtain⟨base,cap,rfl,hk,b,o,qm,qa⟩:=aHO ha hx qf;obtain⟨qo,h8,qh,hz,qn,hq,qb,_⟩:=iL hx _ _ _ U;simp only[Value.slice.injEq] at hz;obtain⟨rfl,qi,rfl⟩:=hz
     have:RC S' w (.sl k ((l.drop off).take len)) (.slice base ((l.drop off).take len).length cap):=by
      refine .sl k _ base cap b o (λm=>(w.cell? ⟨b,o+m,none⟩).getD undef) (λqp=>?_) (λi j hi J=>?_) (λi j hi J=>?_) (λi j hi J=>?_) hk ⟨by omega,hq⟩
      .grind [Nat.eq_zero_or_pos]
      all_goals
       obtain⟨u,hu,ho,hr⟩:=qa i j hi J;simp only[hu,Option.getD_some]
      .exact ho
      .exact hr.mono hS λ_ _=>rfl
     all_goals grind [yR]
    .cases F
  | ptr n e o =>
   simp only[conv] at F;split at F
   .rename_i j J;split at F
    .cases F
    .rename_i hf;simp only[Option.some.injEq,Prod.mk.injEq] at F;obtain⟨rfl,rfl⟩:=F;refine⟨λ_=>.ptr _ _ _ _ λb' U=>?_,λh=>absurd h hf,by simp⟩;obtain⟨e1,e2,e3⟩:=hE j n (nV J);obtain⟨b,hd,hs⟩:=e3 _ U;obtain⟨y,hy,hv⟩:=gJ hx _ hd
     all_goals grind [Blk.same_k]
   .rename_i J;split at F
    .rename_i k l z U;simp only[Option.some.injEq,Prod.mk.injEq] at F;obtain⟨rfl,rfl⟩:=F;obtain⟨y,hy,rfl⟩:=gJ hx _ U;have Z:=λj (J:j<((Blk.arr k l z).row e).length)=>ha.cells U hy (e:=e) (j:=j) J;simp only[Blk.row,Blk.k] at Z
     have:RC S' w (.ro ((l.getD e []).drop o)) (.pointer (some ⟨y,e*k+o,none⟩)):=by
      refine .ro _ y _ (λm=>(w.cell? ⟨y,e*k+o+m,none⟩).getD undef) (hL n (by simp) _ hy) (λj J=>?_) (λj J=>?_) λj J=>?_
      all_goals
       simp only[List.length_drop] at J;obtain⟨u,hu,ho,hr⟩:=Z (o+j) (by omega);rw[←Nat.add_assoc] at hu;simp only[hu,Option.getD_some]
      .exact ho
      .have e1:((l.getD e []).drop o).getD j .junk=(l.getD e []).getD (o+j) .junk:=by simp[List.getD]
       rw[e1];obtain⟨h0,⟨h1,h2⟩|⟨y',cs,T,fr,h1,h2,h3,h4,_,h5,h6,h7⟩⟩:=ha.blk n _ U
       .rw[h1] at hy;cases hy
       .have he:e<l.length:=by
         grind
        have qc:o+j<k:=by rw[←h0 e he];omega
        have qg:=(h7 e (o+j) he qc).2;obtain rfl:=Option.some.inj (hy.symm.trans h1)
        have qe:e*k+(o+j)<cs.size:=by
         have:(e+1)*k<=l.length*k:=Nat.mul_le_mul_right _ he;rw[Nat.succ_mul] at this;omega
        have hw:=cell_of_row h2 qe;rw[←Nat.add_assoc,hu] at hw;rw[Option.some.inj hw,Nat.add_assoc];exact qg.mono hS λ_ _=>rfl
     exact ⟨(O _ this).1,(O _ this).2,λm I=>by
       simp only[List.mem_singleton] at I;subst I;exact⟨yR J,by simp[U]⟩⟩
    .rename_i cs z U;cases I:eG (conv h m E true) cs with
     |none=>rw[I] at F;cases F
     | some p =>
      obtain⟨H,L'⟩:=p;rw[I] at F;simp only[Option.map_some,Option.some.injEq,Prod.mk.injEq] at F;obtain⟨rfl,rfl⟩:=F;obtain⟨y,hy,rfl⟩:=gJ hx _ U;obtain⟨y',hp,T,fr,h1,h2,h3,h4,_,h5,h6,h7⟩:=ha.blk n _ U;obtain rfl:=Option.some.inj (hy.symm.trans h1);obtain⟨g1,g2⟩:=fU I
      have qq:∀j,j<cs.length->RC S' w (H.getD j .junk) (hp.getD j undef):=λj J=>by
       obtain⟨Lj,g3,g4⟩:=g2 j J
       all_goals grind
      have:RC S' w (.ro (H.drop o)) (.pointer (some ⟨y,e*(Blk.var cs z).k+o,none⟩)):=by
       simp only[Blk.k,Nat.mul_zero,Nat.zero_add];refine .ro _ y _ (λm=>hp.getD (o+m) undef) (hL n (by simp) _ hy) (λj J=>?_) (λj J=>?_) λj J=>?_
       all_goals grind [cell_of_row]
      refine⟨(O _ this).1,(O _ this).2,λm' hh=>?_⟩;rcases List.mem_cons.1 hh with rfl|hh
      .exact⟨yR J,by simp[U]⟩
      .-- it comes out of one of the cells
       have:∀(cs H:List AV) (L:List Name),eG (conv h m E true) cs=some (H,L)->∀n,n∈L->∃j,j<cs.length∧∃Lj,conv h m E true (cs.getD j .junk)=some (H.getD j .junk,Lj)∧n∈Lj:=by
        intro cs
        induction cs with
        |nil=>intro H L I n hn;simp only[eG,Option.some.injEq,Prod.mk.injEq] at I;obtain⟨_,rfl⟩:=I;simp at hn
        | cons x r ihr =>
         intro H L I n hn;simp only[eG] at I;split at I
         .rename_i y L1 ys L2 h1 h2;simp only[Option.some.injEq,Prod.mk.injEq] at I;obtain⟨rfl,rfl⟩:=I;rcases List.mem_append.1 hn with hn|hn
          .exact⟨0,by simp,L1,by simpa using h1,hn⟩
          .obtain⟨j,J,Lj,g,hg⟩:=ihr _ _ h2 n hn;exact⟨j+1,by simpa using J,Lj,by simpa using g,hg⟩
         .cases I
       obtain⟨j,ht,Lj,g3,hg⟩:=this _ _ _ I _ hh
       have h9:∀n,n∈Lj->∀y,ρ n=some y->S' y:=by
        obtain⟨qj,qk,ql⟩:=g2 j ht
        all_goals grind
       exact(ih true _ _ _ _ g3 h9 (h7 j ht).2).2.2 _ hg
    .cases F
/-! ## renaming -/
mutual
def rn (φ:Name->Option Name):AV->AV
 |.loc n off len=>match φ n with|some m=>.loc m off len|none=>.junk
 |.ptr n e o=>match φ n with|some m=>.ptr m e o|none=>.junk
 |.fn f c=>.fn f (rnL φ c)
 |.agg c=>.agg (rnL φ c)
 |.tup c=>.tup (rnL φ c)
 |x=>x
def rnL (φ:Name->Option Name):List AV->List AV
 | []=>[]
 |x::r=>rn φ x::rnL φ r
end
theorem cK (φ:Name->Option Name):∀c:List AV,(rnL φ c).length=c.length
 | []=>rfl
 |x::r=>by simp[rnL,cK φ r]
theorem mM (φ:Name->Option Name):∀(c:List AV) (j:Nat),j<c.length->(rnL φ c).getD j .junk=rn φ (c.getD j .junk)
 | [],j,h=>by simp at h
 |x::r,0,_=>by simp[rnL]
 |x::r,j+1,h=>by simpa[rnL] using mM φ r j (by simpa using h)
def rnB (φ:Name->Option Name):Blk->Blk
 |.var c z=>.var (rnL φ c) z
 |b=>b
theorem aAw (φ:Name->Option Name) (b:Blk):b.same (rnB φ b):=by
 cases b<;>simp[rnB,Blk.same,cK]
theorem aM5 {S:Nat->Prop}{w:World} (φ:Name->Option Name) {x:AV}{v:Value} (h:RC S w x v):RC S w (rn φ x) v:=by
 induction h with
 |v x=>simpa[rn] using .v x
 |sl k l base cap x off xs hb hc ho hr hk hcap ih=>simpa[rn] using .sl k l base cap x off xs hb hc ho hr hk hcap
 |ro c x off xs hS hc ho hr ih=>simpa[rn] using .ro c x off xs hS hc ho hr
 | fn f c vs hl hr ih =>
  simp only[rn];refine .fn _ _ _ (by rw[cK];exact hl) λj F=>?_
  all_goals grind [cK,mM]
 | agg c vs hl hr ih =>
  simp only[rn];refine .agg _ _ (by rw[cK];exact hl) λj F=>?_
  all_goals grind [cK,mM]
 | tup c vs hl hr ih =>
  simp only[rn];refine .tup _ _ (by rw[cK];exact hl) λj F=>?_
  all_goals grind [cK,mM]
theorem RV.ren {S:Nat->Prop}{w:World}{ρ ρ':Name->Option Nat}{κ κ':Name->Nat}{h h':Name->Option Blk}{φ:Name->Option Name}
  (hφ:∀n m,φ n=some m->ρ' m=ρ n∧κ' m=κ n∧∀J,h' m=some J->∃b,h n=some b∧b.same J) {x:AV}{v:Value} (Z:RV S w ρ κ h x v):RV S w ρ' κ' h' (rn φ x) v:=by
 induction Z with
 |junk v=>simpa[rn] using .junk v
 |clo Z=>exact .clo (aM5 φ Z)
 | loc n off len v I =>
  simp only[rn];split
  .rename_i m Y;obtain⟨e1,e2,L⟩:=hφ n m Y;refine .loc _ _ _ _ λk l z O=>?_;obtain⟨b,F,H⟩:=L _ O;cases b with
   |var=>simp[Blk.same] at H
   | arr k' l' z' =>
    simp only[Blk.same] at H;obtain⟨rfl,U⟩:=H;have:=I _ _ _ F;rw[e1,e2,←U];exact this
  .exact .junk _
 | ptr n e c v I =>
  simp only[rn];split
  .rename_i m Y;obtain⟨e1,e2,L⟩:=hφ n m Y;refine .ptr _ _ _ _ λJ O=>?_;obtain⟨b,F,H⟩:=L _ O;obtain⟨y,hy,I⟩:=I _ F
   all_goals grind [Blk.same_k]
  .exact .junk _
 | fn f c vs hl hr ih =>
  grind [rn,cK,mM,RV]
 | agg c vs hl hr ih =>
  grind [rn,cK,mM,RV]
 | tup c vs hl hr ih =>
  grind [rn,cK,mM,RV]
/-! ## values that hold no memory that stays -/
mutual
def flat:AV->Bool
 |.sl _ _=>false
 |.ro _=>false
 |.fn _ c=>iV c
 |.agg c=>iV c
 |.tup c=>iV c
 |_=>true
def iV:List AV->Bool
 | []=>true
 |x::r=>flat x&&iV r
end
theorem cZ:∀{c:List AV}{j:Nat},iV c=true->flat (c.getD j .junk)=true
 | [],j,_=>by simp[flat]
 |x::r,0,h=>by simp[iV] at h;simpa using h.1
 |x::r,j+1,h=>by simp[iV] at h;simpa using cZ (c:=r) (j:=j) h.2
theorem RC.flat {S S':Nat->Prop}{w:World}{x:AV}{v:Value} (h:RC S w x v) (F:flat x=true):RC S' w x v:=by
 induction h with
 |v x=>exact .v x
 |sl=>simp[Vs.flat] at F
 |ro=>simp[Vs.flat] at F
 |fn f c vs hl hr ih=>simp only[Vs.flat] at F;exact .fn _ _ _ hl λj H=>ih j H (cZ F)
 |agg c vs hl hr ih=>simp only[Vs.flat] at F;exact .agg _ _ hl λj H=>ih j H (cZ F)
 |tup c vs hl hr ih=>simp only[Vs.flat] at F;exact .tup _ _ hl λj H=>ih j H (cZ F)
theorem RV.flat {S S':Nat->Prop}{w:World}{ρ:Name->Option Nat}{κ:Name->Nat}{h:Name->Option Blk}{x:AV}{v:Value} (I:RV S w ρ κ h x v) (F:flat x=true):RV S' w ρ κ h x v:=by
 induction I with
 |junk v=>exact .junk v
 |clo I=>exact .clo (I.flat F)
 |loc n off len v hv=>exact .loc _ _ _ _ hv
 |ptr n e c v hv=>exact .ptr _ _ _ _ hv
 |fn f c vs hl hr ih=>simp only[Vs.flat] at F;exact .fn _ _ _ hl λj H=>ih j H (cZ F)
 |agg c vs hl hr ih=>simp only[Vs.flat] at F;exact .agg _ _ hl λj H=>ih j H (cZ F)
 |tup c vs hl hr ih=>simp only[Vs.flat] at F;exact .tup _ _ hl λj H=>ih j H (cZ F)
def iD:Blk->Prop
 |.var c _=>iV c=true
 |.arr _ l _=>∀r,r∈l->iV r=true
/-! ## contracts -/
def Hn (l:List (Option Blk)):Name->Option Blk
 |.b j=>l.getD j none
 |.t _ _=>none
def aAX (ρ:Name->Option Nat) (hin:List Blk) (x:Nat):Prop:=∃j,j<hin.length∧ρ (.b j)=some x
structure Post (S:Nat->Prop) (w:World) (ρ:Name->Option Nat) (κ:Name->Nat) (hin:List Blk) (S':Nat->Prop) (w':World) (ρ':Name->Option Nat) (κ':Name->Nat) (hout:List (Option Blk)):Prop where
 hok:HOK S' w' ρ' κ' (Hn hout)
 size:w.heap.size<=w'.heap.size
 old:∀b,b<w.heap.size->¬aAX ρ hin b->w'.heap[b]? = w.heap[b]?
 sub:∀b,S b->S' b
 new:∀b,S' b->S b∨w.heap.size<=b∨aAX ρ hin b
 mine:∀j x,(hout.getD j none).isSome->ρ' (.b j)=some x->w.heap.size<=x∨aAX ρ hin x
 out:w'.os=w.os∧w'.output=w.output
 keep:∀j b',j<hin.length->hout.getD j none=some b'->ρ' (.b j)=ρ (.b j)∧κ' (.b j)=κ (.b j)∧∃b,hin[j]? = some b∧b.same b'
def jL (P:Program) (f:FuncId):Prop:=∃fn b,P.funcs[f]? = some fn∧fn.body=some b∧fn.name≠"runtime.NumGoroutine"
def Fn (P:Program) (f:FuncId) (hin:List Blk) (args:List AV) (r:AV) (hout:List (Option Blk)):Prop:=
 jL P f∧∀(S:Nat->Prop) (w:World) (ρ:Name->Option Nat) (κ:Name->Nat) (vs:Array Value),HOK S w ρ κ (Hn (hin.map some))->(∀b,b∈hin->b.fz=false)->vs.size=args.length->
  (∀j,j<args.length->RV S w ρ κ (Hn (hin.map some)) (args.getD j .junk) (vs.getD j undef))->
  Calls P f vs w λe w'=>∃v S' ρ' κ',e=.returned v∧Post S w ρ κ hin S' w' ρ' κ' hout∧RV S' w' ρ' κ' (Hn hout) r v
end
section
variable [Envs]
variable {P:Program}{C:Ctx}{σ:FSt}{a:Act}{w:World}{S:Nat->Prop}{ρ:Name->Option Nat}{κ:Name->Nat}{h:Name->Option Blk}
def eX (h:Name->Option Blk) (E:List Name):Blk->Option (Blk×List Name)
 |.var c z=>(eG (conv h 8 E false) c).map λp=>(.var p.1 z,p.2)
 |.arr k l z=>some (.arr k l z,[])
def wU (h:Name->Option Blk) (E:List Name):List Name->Option (List Blk×List Name)
 | []=>some ([],[])
 | n::r=>match(h n).bind (eX h E),wU h E r with
  |some (b,L),some (bs,L')=>if b.fz then none else some (b::bs,L++L')
  |_,_=>none
theorem wP (h:Name->Option Blk) (E:List Name):∀{B:List Name}{bs:List Blk}{L:List Name},wU h E B=some (bs,L)->bs.length=B.length∧
  (∀(j:Nat) (n:Name),B[j]? = some n->∃b I F,h n=some b∧eX h E b=some (I,F)∧bs[j]? = some I∧I.fz=false∧∀m,m∈F->m∈L)∧
  ∀m,m∈L->∃(n:Name) (b I:Blk) (F:List Name),n∈B∧h n=some b∧eX h E b=some (I,F)∧m∈F
 | [],bs,L,hb=>by
  grind [wU]
 | n::r,bs,L,hb=>by
  simp only[wU] at hb;split at hb
  .rename_i I L1 ha L2 J h2;split at hb
   .cases hb
   .rename_i hz;simp only[Option.some.injEq,Prod.mk.injEq] at hb;obtain⟨rfl,rfl⟩:=hb;obtain⟨h3,h4,h5⟩:=wP h E h2;cases hn:h n with
    |none=>rw[hn] at J;cases J
    | some b =>
     rw[hn] at J;refine⟨by simp[h3],λj m hj=>?_,λm H=>?_⟩
     .cases j with
      | zero =>
       simp only[List.getElem?_cons_zero,Option.some.injEq] at hj;subst hj;exact⟨b,I,L1,hn,J,by simp,by simpa using hz,λm H=>List.mem_append_left _ H⟩
      | succ j =>
       obtain⟨b,O,F,U,Y,Z,g4,g5⟩:=h4 j m (by simpa using hj);exact⟨b,O,F,U,Y,by simpa using Z,g4,λm H=>List.mem_append_right _ (g5 m H)⟩
     .rcases List.mem_append.1 H with H|H
      .exact⟨n,b,I,L1,by simp,hn,J,H⟩
      .obtain⟨n',b1,O,F,U,Y,Z,g4⟩:=h5 m H;exact⟨n',b1,O,F,List.mem_cons_of_mem _ U,Y,Z,g4⟩
  .cases hb
def phi (B:List Name) (d n:Nat):Name->Option Name
 |.b j=>if j<B.length then B[j]? else if j<n then some (.t d j) else none
 |.t _ _=>none
def frz:Blk->Blk
 |.var c _=>.var c true
 |.arr k l _=>.arr k l true
theorem aKK (b:Blk):b.same (frz b):=by cases b<;>simp[frz,Blk.same]
def aft (h:Name->Option Blk) (B:List Name) (d:Nat) (hout:List (Option Blk)) (fz:Bool) (L:List Name) (m:Name):Option Blk:=
 match kL B m with
 |some j=>(hout.getD j none).map (rnB (phi B d hout.length))
 | none=>match m with
  |.t d' j=>if d'=d∧B.length<=j∧j<hout.length then(hout.getD j none).map (rnB (phi B d hout.length)) else if fz=true∧m∈L then(h m).map frz else h m
  |.b _=>if fz=true∧m∈L then(h m).map frz else h m
theorem pF:∀{B:List Name}{j:Nat}{n:Name},B.Nodup->B[j]? = some n->kL B n=some j
 | [],j,n,_,h=>by simp at h
 |m::r,0,n,_,h=>by simp only[List.getElem?_cons_zero,Option.some.injEq] at h;simp[kL,h]
 | m::r,j+1,n,hnd,h=>by
  simp only[List.getElem?_cons_succ] at h
  have F:¬m=n:=by
   grind
  simp[kL,F,pF (List.nodup_cons.1 hnd).2 h]
def aK8 (P:Program) (σ:FSt) (d:Nat) (fv:AV) (xs:List AV) (B:List Name) (K:FSt->AV->Prop):Prop:=
 match fv with
 | .fn f caps=>match eG (conv σ.h 8 B false) (xs++caps),wU σ.h B B with
  | some (ys,L1),some (hin,L2)=>∃r hout fz,Fn P f hin ys r hout∧(fz=false->(L1++L2=[]∨(flat r=true∧∀b,some b∈hout->iD b)))∧
    (∀j,B.length<=j->j<hout.length->gP (.t d j) σ)∧K ⟨σ.s,aft σ.h B d hout fz (L1++L2)⟩ (rn (phi B d hout.length) r)
  |_,_=>False
 |_=>False
theorem aHl (I:OK C σ a w S ρ κ) {d:Nat}{f:FuncId}{caps xs:List AV}{B:List Name}{K:FSt->AV->Prop} (qz:B.Nodup) (hv:aK8 P σ d (.fn f caps) xs B K) {vs:Array Value}
  (hl:vs.size=(xs++caps).length) (hr:∀j,j<(xs++caps).length->RV S w ρ κ σ.h ((xs++caps).getD j .junk) (vs.getD j undef)) :
  Calls P f vs w λe w'=>∃σ' x v S' ρ' κ',e=.returned v∧K σ' x∧OK C σ' a w' S' ρ' κ'∧RV S' w' ρ' κ' σ'.h x v:=by
 simp only[aK8] at hv;split at hv
 .rename_i ys L1 hin L2 ja jt;obtain⟨r,H,fz,ju,qe,hu,hK⟩:=hv;generalize qs:L1++L2=L at hK qe;have je:∀n,n∈L1->n∈L:=λn J=>qs ▸ List.mem_append_left _ J;have jf:∀n,n∈L2->n∈L:=λn J=>qs ▸ List.mem_append_right _ J;obtain⟨qu,ql,js⟩:=wP _ _ jt
  let S1:Nat->Prop:=λy=>S y∨∃n,n∈L∧ρ n=some y
  let ρ0:Name->Option Nat:=λm=>match m with|.b j=>(B[j]?).bind ρ|.t _ _=>none
  let κ0:Name->Nat:=λm=>match m with|.b j=>((B[j]?).map κ).getD 0|.t _ _=>0
  have qt:∀y,S y->S1 y:=λy hy=>.inl hy
  have hE:∀j n,B[j]? = some n->ρ0 (.b j)=ρ n∧κ0 (.b j)=κ n∧∀b',Hn (hin.map some) (.b j)=some b'->∃b,σ.h n=some b∧b.same b':=by
   intro j n O;refine⟨by simp[ρ0,O],by simp[κ0,O],λb' F=>?_⟩;obtain⟨b,b2,Lj,g1,g2,g3,_,_⟩:=ql j n O
   have:b'=b2:=by
    simp only[Hn,List.getD,List.getElem?_map,g3,Option.map_some,Option.getD_some,Option.some.injEq] at F;exact F.symm
   subst this;refine⟨b,g1,?_⟩;cases b with
   | var c z =>
    simp only[eX] at g2;cases U:eG (conv σ.h 8 B false) c with
    |none=>rw[U] at g2;cases g2
    | some p =>
     rw[U] at g2;simp only[Option.map_some,Option.some.injEq,Prod.mk.injEq] at g2;rw[←g2.1];exact((fU U).1).symm
   | arr k l z =>
    simp only[eX,Option.some.injEq,Prod.mk.injEq] at g2;rw[←g2.1];exact Blk.same_refl _
  have h9:=oF I.hok qt (κ':=κ0) hE 8
  have he:∀n,n∈L->n∉B∧(σ.h n).isSome:=by
   intro n J;have qc:∀m,m∈L->∀y,ρ m=some y->S1 y:=λm U y hy=>.inr ⟨m,U,hy⟩;rw[←qs] at J;rcases List.mem_append.1 J with J|J
   .obtain⟨j,O,Lj,g1,g2⟩:=aAD ja n J;obtain⟨jo,qb,g3⟩:=(fU ja).2 j O;rw[g1] at qb;simp only[Option.some.injEq,Prod.mk.injEq,true_and] at qb;subst qb;exact(h9 false _ _ _ _ g1 (λm U=>qc m (je m (g3 m U))) (hr j O)).2.2 n g2
   .obtain⟨n',b,b',Lj,g1,g2,g3,g4⟩:=js n J;cases b with
    | arr k l z =>
     simp only[eX,Option.some.injEq,Prod.mk.injEq] at g3;rw[←g3.2] at g4;simp at g4
    | var c z =>
     simp only[eX] at g3;cases U:eG (conv σ.h 8 B false) c with
     |none=>rw[U] at g3;cases g3
     | some p =>
      obtain⟨c',Lp⟩:=p;rw[U] at g3;simp only[Option.map_some,Option.some.injEq,Prod.mk.injEq] at g3;obtain⟨_,rfl⟩:=g3;obtain⟨j,O,Lj,g5,g6⟩:=aAD U n g4;obtain⟨x,cs,T,fr,q1,q2,q3,q4,_,q5,q6,q7⟩:=I.hok.blk n' _ g2;obtain⟨i,hi⟩:=List.mem_iff_getElem?.1 g1;obtain⟨b1,b2,Lb,p1,p2,p3,p4,p5⟩:=ql i n' hi;rw[g2] at p1;obtain rfl:=Option.some.inj p1;simp only[eX,U,Option.map_some,Option.some.injEq,Prod.mk.injEq] at p2;obtain⟨_,rfl⟩:=p2;obtain⟨jo,qr,g7⟩:=(fU U).2 j O;rw[g5] at qr;simp only[Option.some.injEq,Prod.mk.injEq,true_and] at qr;subst qr;exact(h9 false _ _ _ _ g5 (λm U=>qc m (jf m (p5 m (g7 m U)))) (q7 j O).2).2.2 n g6
  have qc:∀m,m∈L->∀y,ρ m=some y->S1 y:=λm U y hy=>.inr ⟨m,U,hy⟩
  have jd:∀n b,n∈B->σ.h n=some b->b.fz=false->∀x,ρ n=some x->¬S1 x:=by
   rintro n b J hb Y x Z (hs|⟨m,U,hmx⟩)
   .have:=I.hok.blk n b hb;cases b with
    | var c z =>
     obtain⟨y,_,_,_,g1,_,_,g2,_⟩:=this;obtain rfl:=Option.some.inj (Z.symm.trans g1);exact g2 Y hs
    | arr k l z =>
     obtain⟨_,⟨g1,_⟩|⟨y,_,_,_,g1,_,_,g2,_⟩⟩:=this
     .rw[Z] at g1;cases g1
     .obtain rfl:=Option.some.inj (Z.symm.trans g1);exact g2 Y hs
   .have:=I.hok.inj m n x (he m U).2 (by simp[hb]) hmx Z;subst this;exact(he m U).1 J
  have hf:∀(j:Nat) (n:Name),B[j]? = some n->∃b,σ.h n=some b∧b.fz=false:=by
   intro j n O;obtain⟨b,b',Lj,g1,g2,g3,g4,g5⟩:=ql j n O;refine⟨b,g1,?_⟩;cases b with
   | var c z =>
    simp only[eX] at g2;cases U:eG (conv σ.h 8 B false) c with
    |none=>rw[U] at g2;cases g2
    | some p =>
     rw[U] at g2;simp only[Option.map_some,Option.some.injEq,Prod.mk.injEq] at g2;rw[←g2.1] at g4;exact g4
   | arr k l z =>
    simp only[eX,Option.some.injEq,Prod.mk.injEq] at g2;rw[←g2.1] at g4;exact g4
  have qj:∀j b',Hn (hin.map some) (.b j)=some b'->∃n b Lj,B[j]? = some n∧σ.h n=some b∧eX σ.h B b=some (b',Lj)∧(∀m,m∈Lj->m∈L2)∧b'.fz=false:=by
   intro j b' F
   have O:j<B.length:=by
    rw[←qu];rcases Nat.lt_or_ge j hin.length with h'|h'
    .exact h'
    .simp[Hn,List.getD,List.getElem?_eq_none h'] at F
   obtain⟨b,b2,Lj,g1,g2,g3,g4,g5⟩:=ql j B[j] (by simp[O])
   have:b'=b2:=by
    simp only[Hn,List.getD,List.getElem?_map,g3,Option.map_some,Option.getD_some,Option.some.injEq] at F;exact F.symm
   subst this;exact⟨B[j],b,Lj,by simp[O],g1,g2,g5,g4⟩
  have jl:HOK S1 w ρ0 κ0 (Hn (hin.map some)):=by
   refine⟨λm b' F=>?_,λm m' x h1 h2 h3 h4=>?_,?_,I.hok.env.mono (λ_ h=>.inl h) λ_ _=>rfl⟩
   .cases m with
    |t=>simp[Hn] at F
    | b j =>
     obtain⟨n,b,Lj,g0,g1,g2,g5,g4⟩:=qj j b' F;obtain⟨e1,e2,_⟩:=hE j n g0;have hb:=I.hok.blk n b g1;have jj:=jd n b (List.mem_of_getElem? g0) g1;cases b with
     | var c z =>
      simp only[eX] at g2;cases U:eG (conv σ.h 8 B false) c with
      |none=>rw[U] at g2;cases g2
      | some p =>
       obtain⟨c',Lp⟩:=p;rw[U] at g2;simp only[Option.map_some,Option.some.injEq,Prod.mk.injEq] at g2;obtain⟨rfl,rfl⟩:=g2;obtain⟨x,cs,T,fr,q1,q2,q3,q4,hg,q5,q6,q7⟩:=hb;obtain⟨l1,l2⟩:=fU U;refine⟨x,cs,T,fr,by rw[e1];exact q1,q2,q3,λY=>jj Y x q1,λY=>.inl (hg Y),by rw[e2];exact q5,by omega,λi hi=>⟨(q7 i (by omega)).1,?_⟩⟩;obtain⟨Li,l3,l4⟩:=l2 i (by omega);exact(h9 false _ _ _ _ l3 (λm U=>qc m (jf m (g5 m (l4 m U)))) (q7 i (by omega)).2).1 rfl
     | arr k l z =>
      simp only[eX,Option.some.injEq,Prod.mk.injEq] at g2;obtain⟨rfl,rfl⟩:=g2;obtain⟨q0,⟨q1,q2⟩|⟨x,cs,T,fr,q1,q2,q3,q4,hg,q5,q6,q7⟩⟩:=hb
      .exact⟨q0,.inl ⟨by rw[e1];exact q1,q2⟩⟩
      .exact⟨q0,.inr ⟨x,cs,T,fr,by rw[e1];exact q1,q2,q3,λY=>jj Y x q1,λY=>.inl (hg Y),by rw[e2];exact q5,q6,λi j hi O=>⟨(q7 i j hi O).1,(q7 i j hi O).2.mono qt λ_ _=>rfl⟩⟩⟩
   .cases m with
    |t=>simp[Hn] at h1
    | b j =>
     cases m' with
     |t=>simp[Hn] at h2
     | b j' =>
      obtain⟨b1,qd⟩:=Option.isSome_iff_exists.1 h1;obtain⟨b2,ha⟩:=Option.isSome_iff_exists.1 h2;obtain⟨n,b,_,g0,g1,_⟩:=qj j b1 qd;obtain⟨n',b',_,jc,qb,_⟩:=qj j' b2 ha;rw[(hE j n g0).1] at h3;rw[(hE j' n' jc).1] at h4;obtain rfl:=I.hok.inj n n' x (by simp[g1]) (by simp[qb]) h3 h4;congr 1;have e1:=pF qz g0;have e2:=pF qz jc;rw[e1] at e2;exact Option.some.inj e2
   .rintro y (hy|⟨n,J,hy⟩)
    .exact I.hok.dom y hy
    .exact I.hok.lt (he n J).2 hy
  have hp:∀x,aAX ρ0 hin x↔∃n,n∈B∧ρ n=some x:=by
   intro x;constructor
   .rintro⟨j,O,Z⟩;have jw:j<B.length:=by omega
    refine⟨B[j],by simp,?_⟩;simpa[ρ0,jw] using Z
   .rintro⟨n,J,Z⟩;obtain⟨j,O⟩:=List.mem_iff_getElem?.1 J;refine⟨j,?_,by simp[ρ0,O,Z]⟩;rw[qu];exact(List.getElem?_eq_some_iff.1 O).1
  obtain⟨j3,j0⟩:=fU ja
  have qv:=ju.2 S1 w ρ0 κ0 vs jl (λb hb=>by
    obtain⟨j,O⟩:=List.mem_iff_getElem?.1 hb;have:Hn (hin.map some) (.b j)=some b:=by simp[Hn,List.getD,O]
    obtain⟨_,_,_,_,_,_,_,Y⟩:=qj j b this;exact Y) (by omega) (λj O=>by
    obtain⟨Lj,l3,l4⟩:=j0 j (by omega);exact(h9 false _ _ _ _ l3 (λm U=>qc m (je m (l4 m U))) (hr j (by omega))).1 rfl)
  refine qv.mono ?_;rintro e w' ⟨v,S',ρ',κ',rfl,hpost,hrv⟩
  let S2:Nat->Prop:=λy=>S' y∧(fz=true∨¬∃n,n∈L∧ρ n=some y∧¬S y)
  let ρ2:Name->Option Nat:=λm=>match kL B m with
   |some j=>ρ' (.b j)
   | none=>match m with
    |.t d' j=>if d'=d∧B.length<=j∧j<H.length then ρ' (.b j) else ρ (.t d' j)
    |.b i=>ρ (.b i)
  let κ2:Name->Nat:=λm=>match kL B m with
   |some j=>κ' (.b j)
   | none=>match m with
    |.t d' j=>if d'=d∧B.length<=j∧j<H.length then κ' (.b j) else κ (.t d' j)
    |.b i=>κ (.b i)
  let h2:=aft σ.h B d H fz L
  have jk:∀j,B.length<=j->j<H.length->kL B (.t d j)=none:=by
   intro j h1 h3;cases hi:kL B (.t d j) with
   |none=>rfl
   | some i =>
    obtain⟨b,hb,_⟩:=hf i _ (nV hi);rw[(hu j h1 h3).1.1] at hb;cases hb
  have kB:∀(j:Nat) (m:Name),B[j]? = some m->ρ2 m=ρ' (.b j)∧κ2 m=κ' (.b j)∧h2 m=(H.getD j none).map (rnB (phi B d H.length)):=by
   intro j m O;have hi:=pF qz O;simp only[ρ2,κ2,h2,aft,hi,and_self]
  have kN:∀j,B.length<=j->j<H.length->ρ2 (.t d j)=ρ' (.b j)∧κ2 (.t d j)=κ' (.b j)∧h2 (.t d j)=(H.getD j none).map (rnB (phi B d H.length)):=by
   intro j h1 h3;have hi:=jk j h1 h3;simp only[ρ2,κ2,h2,aft,hi,h1,h3,and_self,if_true]
  have kO:∀m,m∉B->(∀j,B.length<=j->j<H.length->m≠.t d j)->ρ2 m=ρ m∧κ2 m=κ m∧h2 m=if fz=true∧m∈L then(σ.h m).map frz else σ.h m:=by
   intro m U J
   have hi:kL B m=none:=by
    cases hi:kL B m with
    |none=>rfl
    |some j=>exact absurd (List.mem_of_getElem? (nV hi)) U
   cases m with
   |b i=>simp only[ρ2,κ2,h2,aft,hi,and_self]
   | t d' j =>
    have hc:¬(d'=d∧B.length<=j∧j<H.length):=by
     rintro⟨rfl,h1,h3⟩;exact J j h1 h3 rfl
    simp only[ρ2,κ2,h2,aft,hi,if_neg hc,and_self]
  have hφ:∀n m,phi B d H.length n=some m->ρ2 m=ρ' n∧κ2 m=κ' n∧∀b',h2 m=some b'->∃b,Hn H n=some b∧b.same b':=by
   intro n m J;cases n with
   |t=>simp[phi] at J
   | b j =>
    have fin:ρ2 m=ρ' (.b j)∧κ2 m=κ' (.b j)∧h2 m=(H.getD j none).map (rnB (phi B d H.length)):=by
     simp only[phi] at J;split at J
     .exact kB j m J
     .split at J
      .obtain rfl:=Option.some.inj J;exact kN j (by omega) (by omega)
      .cases J
    refine⟨fin.1,fin.2.1,λb' F=>?_⟩;rw[fin.2.2] at F;cases O:H.getD j none with
    |none=>rw[O] at F;cases F
    | some b =>
     rw[O] at F;obtain rfl:=Option.some.inj F;exact⟨b,O,aAw _ _⟩
  have q8:∀m,(∀j,B.length<=j->j<H.length->m≠.t d j)->dY ρ ρ2 κ κ2 σ.h h2 m:=by
   intro m J b' F;by_cases U:m∈B
   .obtain⟨j,O⟩:=List.mem_iff_getElem?.1 U;obtain⟨e1,e2,e3⟩:=kB j m O;rw[e3] at F;cases hjo:H.getD j none with
    |none=>rw[hjo] at F;cases F
    | some b =>
     rw[hjo] at F;obtain rfl:=Option.some.inj F;have jx:j<hin.length:=by rw[qu];exact(List.getElem?_eq_some_iff.1 O).1
     obtain⟨k1,k2,bi,k3,k4⟩:=hpost.keep j b jx hjo;obtain⟨g1,g2,g3⟩:=hE j m O;obtain⟨b0,g4,g5⟩:=g3 bi (by simp[Hn,List.getD,k3]);exact⟨by rw[e1,k1,g1],by rw[e2,k2,g2],b0,g4,Blk.same_trans (Blk.same_trans g5 k4) (aAw _ _)⟩
   .obtain⟨e1,e2,e3⟩:=kO m U J;rw[e3] at F;refine⟨e1,e2,?_⟩;split at F
    .cases h0:σ.h m with
     |none=>rw[h0] at F;cases F
     | some b0 =>
      rw[h0] at F;obtain rfl:=Option.some.inj F;exact⟨b0,rfl,aKK _⟩
    .exact⟨b',F,b'.same_refl⟩
  have hk:∀y,S y->S2 y:=λy hy=>⟨hpost.sub y (qt y hy),.inr λ⟨_,_,_,J⟩=>J hy⟩
  have qh:∀y,S y->¬aAX ρ0 hin y:=by
   intro y hy U;obtain⟨n,J,Z⟩:=(hp y).1 U;obtain⟨j,O⟩:=List.mem_iff_getElem?.1 J;obtain⟨b,hb,Y⟩:=hf j n O;exact jd n b J hb Y y Z (.inl hy)
  have qk:∀y,S y->w'.heap[y]? = w.heap[y]?:=λy hy=>hpost.old y (I.hok.dom y hy) (qh y hy)
  have ji:fz=false->L≠[]->flat r=true∧∀b,some b∈H->iD b:=by
   intro h1 h3;rcases qe h1 with h|h
   .exact absurd h h3
   .exact h
  have back:∀(x:AV) (u:Value),(fz=false->L≠[]->flat x=true)->RV S' w' ρ' κ' (Hn H) x u->RV S2 w' ρ2 κ2 h2 (rn (phi B d H.length) x) u:=by
   intro x u qw Z;have jn:=Z.ren (φ:=phi B d H.length) hφ;by_cases Y:fz=true
   .exact jn.mono (λy hy=>⟨hy,.inl Y⟩) (λ_ _=>rfl) λ_ _=>dY.refl _ _ _ _
   .by_cases hl:L=[]
    .exact jn.mono (λy hy=>⟨hy,.inr (by rintro⟨n,J,_⟩;rw[hl] at J;cases J)⟩) (λ_ _=>rfl) λ_ _=>dY.refl _ _ _ _
    .exact(Z.flat (S':=S2) (qw (by simpa using Y) hl)).ren hφ
  have qq:∀(x:AV) (u:Value),(fz=false->L≠[]->flat x=true)->RC S' w' x u->RC S2 w' x u:=by
   intro x u qw Z;by_cases Y:fz=true
   .exact Z.mono (λy hy=>⟨hy,.inl Y⟩) λ_ _=>rfl
   .by_cases hl:L=[]
    .exact Z.mono (λy hy=>⟨hy,.inr (by rintro⟨n,J,_⟩;rw[hl] at J;cases J)⟩) λ_ _=>rfl
    .exact Z.flat (qw (by simpa using Y) hl)
  have hw:∀j x,(H.getD j none).isSome->ρ' (.b j)=some x->w.heap.size<=x∨∃n,n∈B∧ρ n=some x:=by
   intro j x h1 h3;rcases hpost.mine j x h1 h3 with h|h
   .exact .inl h
   .exact .inr ((hp x).1 h)
  have h7:∀j x,(H.getD j none).isSome->ρ' (.b j)=some x->¬∃n,n∈L∧ρ n=some x∧¬S x:=by
   rintro j x h1 h3 ⟨n,J,Z,_⟩;rcases hw j x h1 h3 with h|⟨n',hd,hh⟩
   .exact absurd (I.hok.lt (he n J).2 Z) (by omega)
   .obtain⟨i,hi⟩:=List.mem_iff_getElem?.1 hd;obtain⟨b,hb,_⟩:=hf i n' hi;obtain rfl:=I.hok.inj n n' x (he n J).2 (by simp[hb]) Z hh;exact(he n J).1 hd
  have jb:∀j b m,H.getD j none=some b->ρ2 m=ρ' (.b j)->κ2 m=κ' (.b j)->zM S2 w' ρ2 κ2 h2 m (rnB (phi B d H.length) b):=by
   intro j b m O e1 e2;have hb:=hpost.hok.blk (.b j) b O;have qi:(H.getD j none).isSome:=by rw[O];rfl
   have jh:fz=false->L≠[]->iD b:=λh1 h3=>(ji h1 h3).2 b (by
     refine List.mem_of_getElem? (i:=j) ?_;cases ho:H[j]? with
     |none=>simp[List.getD,ho] at O
     |some o=>simp[List.getD,ho] at O;rw[←O])
   cases b with
   | var c z =>
    obtain⟨x,cs,T,fr,q1,q2,q3,q4,hg,q5,q6,q7⟩:=hb;refine⟨x,cs,T,fr,by rw[e1];exact q1,q2,q3,λY hs=>q4 Y hs.1,λY=>⟨hg Y,.inr (h7 j x qi q1)⟩,by rw[e2];exact q5,by rw[cK];exact q6,λi hi=>?_⟩;rw[cK] at hi;rw[mM _ _ _ hi];exact⟨(q7 i hi).1,back _ _ (λh1 h3=>cZ (jh h1 h3)) (q7 i hi).2⟩
   | arr k l z =>
    obtain⟨q0,⟨q1,q2⟩|⟨x,cs,T,fr,q1,q2,q3,q4,hg,q5,q6,q7⟩⟩:=hb
    .exact⟨q0,.inl ⟨by rw[e1];exact q1,q2⟩⟩
    .refine⟨q0,.inr ⟨x,cs,T,fr,by rw[e1];exact q1,q2,q3,λY hs=>q4 Y hs.1,λY=>⟨hg Y,.inr (h7 j x qi q1)⟩,by rw[e2];exact q5,q6,λi j' hi qf=>⟨(q7 i j' hi qf).1,qq _ _ (λh1 h3=>cZ ?_) (q7 i j' hi qf).2⟩⟩⟩;exact jh h1 h3 _ (by simp[List.getD,hi])
  have h8:∀m b',h2 m=some b'->(∃j b,H.getD j none=some b∧b'=rnB (phi B d H.length) b∧ρ2 m=ρ' (.b j)∧κ2 m=κ' (.b j)∧phi B d H.length (.b j)=some m)∨
    (m∉B∧(∀j,B.length<=j->j<H.length->m≠.t d j)∧ρ2 m=ρ m∧κ2 m=κ m∧∃b,σ.h m=some b∧b'=if fz=true∧m∈L then frz b else b):=by
   intro m b' F;by_cases U:m∈B
   .obtain⟨j,O⟩:=List.mem_iff_getElem?.1 U;obtain⟨e1,e2,e3⟩:=kB j m O;rw[e3] at F;cases hjo:H.getD j none with
    |none=>rw[hjo] at F;cases F
    | some b =>
     rw[hjo] at F;exact .inl ⟨j,b,hjo,(Option.some.inj F).symm,e1,e2,by simp only[phi,if_pos (List.getElem?_eq_some_iff.1 O).1,O]⟩
   .by_cases J:∃j,B.length<=j∧j<H.length∧m=.t d j
    .obtain⟨j,h1,h3,rfl⟩:=J;obtain⟨e1,e2,e3⟩:=kN j h1 h3;rw[e3] at F;cases hjo:H.getD j none with
     |none=>rw[hjo] at F;cases F
     | some b =>
      rw[hjo] at F;exact .inl ⟨j,b,hjo,(Option.some.inj F).symm,e1,e2,by simp[phi,h3,show ¬j<B.length by omega]⟩
    .have hd:∀j,B.length<=j->j<H.length->m≠.t d j:=λj h1 h3 e=>J ⟨j,h1,h3,e⟩;obtain⟨e1,e2,e3⟩:=kO m U hd;rw[e3] at F;refine .inr ⟨U,hd,e1,e2,?_⟩;by_cases hc:fz=true∧m∈L
     .rw[if_pos hc] at F;cases h0:σ.h m with
      |none=>rw[h0] at F;cases F
      |some b0=>rw[h0] at F;exact⟨b0,rfl,by rw[if_pos hc];exact(Option.some.inj F).symm⟩
     .rw[if_neg hc] at F;exact⟨b',F,by rw[if_neg hc]⟩
  have qo:∀m b x,m∉B->σ.h m=some b->ρ m=some x->w'.heap[x]? = w.heap[x]?:=by
   intro m b x U hb Z;refine hpost.old x (I.hok.lt (by simp[hb]) Z) λqy=>?_;obtain⟨n,J,hh⟩:=(hp x).1 qy;obtain⟨i,hi⟩:=List.mem_iff_getElem?.1 J;obtain⟨b',F,_⟩:=hf i n hi;obtain rfl:=I.hok.inj m n x (by simp[hb]) (by simp[F]) Z hh;exact U J
  have jm:HOK S2 w' ρ2 κ2 h2:=by
   refine⟨λm b' F=>?_,λm m' x h1 h3 h4 h5=>?_,λy hy=>hpost.hok.dom y hy.1,I.hok.env.mono hk qk⟩
   .rcases h8 m b' F with⟨j,b,O,rfl,e1,e2,_⟩|⟨U,J,e1,e2,b,hb,rfl⟩
    .exact jb j b m O e1 e2
    .have h0:=I.hok.blk m b hb
     have qg:∀b2:Blk,((b2=b∧¬(fz=true∧m∈L))∨(b2=frz b∧fz=true∧m∈L))->(∀n,b2.has n=b.has n)->zM S2 w' ρ2 κ2 h2 m b2:=by
      intro b2 ha j2
      have qm:∀n,b.has n=true->dY ρ ρ2 κ κ2 σ.h h2 n:=λn hd=>q8 n λj h1 h3 e=>by
       subst e;rw[(hu j h1 h3).2.2 m b hb] at hd;cases hd
      have jg:∀x,ρ m=some x->S2 x->b2.fz=false->S x:=by
       rintro x Z ⟨hs,hs2⟩ Y;rcases hpost.new x hs with(h|⟨n,hd,hh⟩)|h|h
       .exact h
       .obtain rfl:=I.hok.inj m n x (by simp[hb]) (he n hd).2 Z hh;rcases hs2 with h|h
        .rcases ha with⟨rfl,hc⟩|⟨rfl,_,_⟩
         .exact absurd ⟨h,hd⟩ hc
         .cases b<;>simp[frz,Blk.fz] at Y
        .exact Classical.byContradiction λjz=>h ⟨m,hd,Z,jz⟩
       .exact absurd (I.hok.lt (by simp[hb]) Z) (by omega)
       .obtain⟨n,hd,hh⟩:=(hp x).1 h;obtain⟨i,hi⟩:=List.mem_iff_getElem?.1 hd;obtain⟨qp,h6,_⟩:=hf i n hi;obtain rfl:=I.hok.inj m n x (by simp[hb]) (by simp[h6]) Z hh;exact absurd hd U
      have qn:∀x,ρ m=some x->b2.fz=true->(b.fz=true->S x)->S2 x:=by
       intro x Z Y j1;rcases ha with⟨rfl,_⟩|⟨rfl,jv,jy⟩
       .exact hk x (j1 Y)
       .exact⟨hpost.sub x (.inr ⟨m,jy,Z⟩),.inl jv⟩
      cases b with
      | var c z =>
       obtain⟨x,cs,T,fr,q1,q2,q3,q4,hg,q5,q6,q7⟩:=h0;have:∃z2,b2=.var c z2:=by rcases ha with⟨rfl,_⟩|⟨rfl,_⟩<;>exact⟨_,rfl⟩
       obtain⟨z2,rfl⟩:=this;refine⟨x,cs,T,fr,by rw[e1];exact q1,by rw[qo m _ x U hb q1];exact q2,q3,λY hs=>?_,λY=>qn x q1 Y hg,by rw[e2];exact q5,q6,λi hi=>⟨(q7 i hi).1,(q7 i hi).2.mono hk qk λn hd=>qm n ?_⟩⟩
       .have q9:=jg x q1 hs Y;rcases ha with⟨ha,_⟩|⟨ha,_⟩
        .simp only[Blk.var.injEq,true_and] at ha;subst ha;exact q4 Y q9
        .simp[frz] at ha;rw[ha] at Y;cases Y
       .cases hc:oD n c with
        |true=>simp[Blk.has,hc]
        |false=>rw[qZ hc] at hd;cases hd
      | arr k l z =>
       obtain⟨q0,hq⟩:=h0;have:∃z2,b2=.arr k l z2:=by rcases ha with⟨rfl,_⟩|⟨rfl,_⟩<;>exact⟨_,rfl⟩
       obtain⟨z2,rfl⟩:=this;rcases hq with⟨q1,q2⟩|⟨x,cs,T,fr,q1,q2,q3,q4,hg,q5,q6,q7⟩
       .exact⟨q0,.inl ⟨by rw[e1];exact q1,q2⟩⟩
       .refine⟨q0,.inr ⟨x,cs,T,fr,by rw[e1];exact q1,by rw[qo m _ x U hb q1];exact q2,q3,λY hs=>?_,λY=>qn x q1 Y hg,by rw[e2];exact q5,q6,λi j hi O=>⟨(q7 i j hi O).1,(q7 i j hi O).2.mono hk qk⟩⟩⟩;have q9:=jg x q1 hs Y;rcases ha with⟨ha,_⟩|⟨ha,_⟩
        .simp only[Blk.arr.injEq,true_and] at ha;subst ha;exact q4 Y q9
        .simp[frz] at ha;rw[ha] at Y;cases Y
     by_cases hc:fz=true∧m∈L
     .rw[if_pos hc];exact qg _ (.inr ⟨rfl,hc⟩) (by intro n;cases b<;>rfl)
     .rw[if_neg hc];exact qg _ (.inl ⟨rfl,hc⟩) (λ_=>rfl)
   .obtain⟨b1,qd⟩:=Option.isSome_iff_exists.1 h1;obtain⟨b3,jq⟩:=Option.isSome_iff_exists.1 h3
    have mixed:∀(j:Nat) (b:Blk) (m':Name) (qp:Blk),H.getD j none=some b->ρ' (.b j)=some x->m'∉B->σ.h m'=some qp->ρ m'=some x->False:=by
     intro j b m' qp O Z qx h6 hh;rcases hw j x (by rw[O];rfl) Z with h|⟨n,J,hxn⟩
     .exact absurd (I.hok.lt (by simp[h6]) hh) (by omega)
     .obtain⟨i,hi⟩:=List.mem_iff_getElem?.1 J;obtain⟨bi,jr,_⟩:=hf i n hi;obtain rfl:=I.hok.inj m' n x (by simp[h6]) (by simp[jr]) hh hxn;exact qx J
    rcases h8 m b1 qd with⟨j,b,O,_,e1,_,e3⟩|⟨U,_,e1,_,b,hb,_⟩<;>rcases h8 m' b3 jq with⟨j',b',qf,_,qa,_,jp⟩|⟨qx,_,qa,_,b',F,_⟩
    .rw[e1] at h4;rw[qa] at h5;have:=hpost.hok.inj (.b j) (.b j') x (by simp only[Hn];rw[O];rfl) (by simp only[Hn];rw[qf];rfl) h4 h5;rw[this] at e3;exact Option.some.inj (e3.symm.trans jp)
    .rw[e1] at h4;rw[qa] at h5;exact(mixed j b m' b' O h4 qx F h5).elim
    .rw[e1] at h4;rw[qa] at h5;exact(mixed j' b' m b qf h5 U hb h4).elim
    .rw[e1] at h4;rw[qa] at h5;exact I.hok.inj m m' x (by simp[hb]) (by simp[F]) h4 h5
  have ht:∀n x,n∈B->ρ n=some x->C.w0.heap.size<=x∨C.Mut x:=by
   intro n x J Z;obtain⟨i,hi⟩:=List.mem_iff_getElem?.1 J;obtain⟨b,hb,_⟩:=hf i n hi;exact I.mine n x (by simp[hb]) Z
  refine⟨_,_,v,S2,ρ2,κ2,rfl,hK,⟨I.nt,I.defers,λt=>?_,jm,Nat.le_trans I.size hpost.size,λy hy U=>?_,λm x h1 h3=>?_,λy hy=>hk y (I.S0 y hy),λy hy=>?_,⟨hpost.out.1.trans I.out.1,hpost.out.2.trans I.out.2⟩,λj b' F=>?_⟩,back r v (λh1 h3=>(ji h1 h3).1) hrv⟩
  .refine(I.slots t).mono hk qk λm U=>q8 m λj h1 h3 e=>?_;subst e;rw[(hu j h1 h3).2.1 t] at U;cases U
  .rw[hpost.old y (Nat.lt_of_lt_of_le hy I.size) λqy=>?_]
   .exact I.old y hy U
   .obtain⟨n,J,Z⟩:=(hp y).1 qy;rcases ht n y J Z with h|h
    .omega
    .exact U h
  .obtain⟨b1,qd⟩:=Option.isSome_iff_exists.1 h1;rcases h8 m b1 qd with⟨j,b,O,_,e1,_,_⟩|⟨U,_,e1,_,b,hb,_⟩
   .rw[e1] at h3;rcases hw j x (by rw[O];rfl) h3 with h|⟨n,J,Z⟩
    .exact .inl (Nat.le_trans I.size h)
    .exact ht n x J Z
   .rw[e1] at h3;exact I.mine m x (by simp[hb]) h3
  .rcases hpost.new y hy.1 with(h|⟨n,J,Z⟩)|h|h
   .exact I.Snew y h
   .rcases I.mine n y (he n J).2 Z with h|h
    .exact .inr (.inl h)
    .exact .inr (.inr h)
   .exact .inr (.inl (Nat.le_trans I.size h))
   .obtain⟨n,J,Z⟩:=(hp y).1 h;rcases ht n y J Z with h|h
    .exact .inr (.inl h)
    .exact .inr (.inr h)
  .obtain⟨e1,e2,b0,h1,h2⟩:=q8 (.b j) (λ_ _ _=>by simp) b' F;obtain⟨e3,e4,b1,h3,h4⟩:=I.keep j b0 h1;exact⟨e1.trans e3,e2.trans e4,b1,h3,Blk.same_trans h4 h2⟩
 .exact hv.elim
end
section
variable [Envs]
variable {P:Program}{C:Ctx}{a:Act}{w:World}{S:Nat->Prop}{ρ:Name->Option Nat}{κ:Name->Nat}
structure St where
 s:List (Nat×AV)
 h:List (Name×Blk)
def look:List (Nat×AV)->Nat->AV
 | [],_=>.junk
 |(i,x)::r,t=>if t=i then x else look r t
def aB:List (Name×Blk)->Name->Option Blk
 | [],_=>none
 |(i,x)::r,t=>if t=i then some x else aB r t
def St.f (σ:St):FSt:=⟨look σ.s,aB σ.h⟩
def put (d:Option Nat) (x:AV) (s:List (Nat×AV)):List (Nat×AV):=
 match d with
 |some d=>(d,x)::s
 |none=>s
theorem jU (d:Option Nat) (x:AV) (s:List (Nat×AV)):look (put d x s)=upd (look s) d x:=by
 cases d<;>rfl
def hset (n:Name) (b:Blk):List (Name×Blk)->List (Name×Blk)
 | []=>[(n,b)]
 |(i,x)::r=>if n=i then(i,b)::r else(i,x)::hset n b r
theorem wL (n:Name) (b:Blk):∀l,aB (hset n b l)=hput (aB l) n (some b)
 | []=>by funext m;simp only[hset,aB,hput]
 | (i,x)::r=>by
  funext m
  simp only[hset,hput];split
  .grind [aB]
  .rename_i F;simp only[aB];by_cases H:m=i
   .subst H;simp[Ne.symm F]
   .simp only[H,if_false,wL n b r,hput]
def Name.isT:Name->Bool
 |.t _ _=>true
 |.b _=>false
def bX (n:Name) (σ:St):Bool:=n.isT&&σ.s.all (λp=>!p.2.has n)&&σ.h.all (λp=>!decide (p.1=n)&&!p.2.has n)
theorem aFH:∀(s:List (Nat×AV)) (t:Nat),look s t=.junk∨∃p,p∈s∧p.2=look s t
 | [],_=>.inl rfl
 | (i,x)::r,t=>by
  simp only[look];split
  .exact .inr ⟨(i,x),by simp,rfl⟩
  .rcases aFH r t with h|⟨p,hp,h⟩
   all_goals grind
theorem oC:∀(l:List (Name×Blk)) (n:Name) (b:Blk),aB l n=some b->(n,b)∈l
 | [],_,_,h=>by simp[aB] at h
 | (i,x)::r,n,b,h=>by
  simp only[aB] at h;split at h
  .grind
  .exact List.mem_cons_of_mem _ (oC r n b h)
theorem aG6 {l:List (Name×Blk)}{n:Name} (h:∀p,p∈l->p.1≠n):aB l n=none:=by
 cases hl:aB l n with
 |none=>rfl
 |some b=>exact absurd rfl (h _ (oC l n b hl))
theorem dW {n:Name}{σ:St} (h:bX n σ=true):gP n σ.f:=by
 simp only[bX,Bool.and_eq_true,List.all_eq_true,Bool.not_eq_true',decide_eq_false_iff_not] at h;obtain⟨⟨J,I⟩,h2⟩:=h
 have F:∀j,n≠.b j:=by
  rintro j rfl;cases J
 have h:=And.intro I h2;clear I h2;refine⟨⟨aG6 λp H=>(h.2 p H).1,F⟩,λt=>?_,λm b F=>(h.2 _ (oC _ _ _ F)).2⟩;rcases aFH σ.s t with e|⟨p,H,e⟩
 .simp only[St.f,e,AV.has]
 .simp only[St.f,←e];exact h.1 p H
def eU (n:Name) (σ:St):St:=⟨σ.s.map λp=>(p.1,scr n p.2),(σ.h.filter λp=>!decide (p.1=n)).map λp=>(p.1,aA3 n p.2)⟩
theorem mQ (f:AV->AV) (F:f .junk=.junk):∀(s:List (Nat×AV)) (t:Nat),look (s.map λp=>(p.1,f p.2)) t=f (look s t)
 | [],_=>by simp[look,F]
 | (i,x)::r,t=>by
  simp only[List.map_cons,look];split
  .rfl
  .exact mQ f F r t
theorem sU (n:Name):∀(l:List (Name×Blk)) (m:Name),aB ((l.filter λp=>!decide (p.1=n)).map λp=>(p.1,aA3 n p.2)) m=if m=n then none else(aB l m).map (aA3 n)
 | [],m=>by simp[aB]
 | (i,x)::r,m=>by
  have F:=sU n r m
  all_goals grind [aB]
theorem tT (n:Name) (σ:St):(eU n σ).f=pE n σ.f:=by
 simp only[St.f,eU,pE,FSt.mk.injEq];exact⟨funext λt=>mQ (scr n) (by simp[scr,AV.has]) _ t,funext λm=>sU n _ m⟩
def aP:Option Name->St->St
 |some n,σ=>eU n σ
 |none,σ=>σ
theorem aFQ (on:Option Name) (σ:St):(aP on σ).f=aBC on σ.f:=by
 cases on
 .rfl
 .exact tT _ _
/-! ## a call on lists -/
def rV (g:Blk->Blk) (d nB:Nat):Nat->List (Option Blk)->List (Name×Blk)
 |_,[]=>[]
 |i,none::r=>rV g d nB (i+1) r
 |i,some b::r=>if nB<=i then(.t d i,g b)::rV g d nB (i+1) r else rV g d nB (i+1) r
def aGq (B:List Name) (d:Nat) (hout:List (Option Blk)) (fz:Bool) (L:List Name) (m:Name) (b:Blk):Option Blk:=
 match kL B m with
 |some j=>(hout.getD j none).map (rnB (phi B d hout.length))
 |none=>some (if fz=true∧m∈L then frz b else b)
def aDN (f:Name->Blk->Option Blk):List (Name×Blk)->List (Name×Blk)
 | []=>[]
 | (m,b)::r=>match f m b with
  |some b'=>(m,b')::aDN f r
  |none=>aDN f r
def zD (h:List (Name×Blk)) (B:List Name) (d:Nat) (hout:List (Option Blk)) (fz:Bool) (L:List Name):List (Name×Blk):=
 rV (rnB (phi B d hout.length)) d B.length 0 hout++aDN (aGq B d hout fz L) h
theorem aAK (l F:List (Name×Blk)) (m:Name):aB (l++F) m=(aB l m).or (aB F m):=by
 induction l with
 |nil=>simp[aB]
 | cons p r ih =>
  grind [aB]
def xO (g:Blk->Blk) (d nB i:Nat) (l:List (Option Blk)):Name->Option Blk
 |.t d' j=>if d'=d∧nB<=j∧i<=j∧j<i+l.length then(l.getD (j-i) none).map g else none
 |.b _=>none
theorem zW (g:Blk->Blk) (d nB:Nat):∀(l:List (Option Blk)) (i:Nat) (m:Name),aB (rV g d nB i l) m=xO g d nB i l m
 | [],i,m=>by
  grind [rV,aB,xO,Name]
 | o::r,i,m=>by
  have I:=zW g d nB r (i+1) m
  have skip:(∀b,o=some b->¬nB<=i)->aB (rV g d nB (i+1) r) m=xO g d nB i (o::r) m:=by
   intro H;rw[I];cases m with
   |b=>rfl
   | t d' j =>
    simp only[xO,List.length_cons];by_cases F:j=i
    .subst F;rw[if_neg (by omega)];cases o with
     |none=>simp
     |some b=>rw[if_neg (by intro h;exact H b rfl h.2.1)]
    all_goals grind
  cases o with
  |none=>exact skip (by simp)
  | some b =>
   grind [rV,aB,xO,Name]
theorem zV (f:Name->Blk->Option Blk) (F:∀m b H,f m b=none->f m H=none) (m:Name):∀h:List (Name×Blk),aB (aDN f h) m=(aB h m).bind (f m)
 | []=>rfl
 | (i,x)::r=>by
  have J:=zV f F m r;simp only[aDN,aB];by_cases I:m=i
  .subst I;cases hfx:f m x with
   | none =>
    simp only[J,if_true,Option.bind_some,hfx];cases hr:aB r m with
    |none=>rfl
    |some b=>exact F m x b hfx
   |some b=>simp[aB,hfx]
  all_goals grind [aB]
theorem aNM {σ:St}{B:List Name}{d:Nat}{F:List (Option Blk)}{fz:Bool}{L:List Name} (I:∀m,m∈B->(aB σ.h m).isSome) (H:∀j,B.length<=j->j<F.length->aB σ.h (.t d j)=none) :
  aB (zD σ.h B d F fz L)=aft (aB σ.h) B d F fz L:=by
 funext m
 unfold zD
 rw [aAK,zV _ (λm b Y h=>by
   unfold aGq at *
   cases hi:kL B m with
   |none=>rw[hi] at h;cases h
   |some j=>rw[hi] at h;exact h),zW]
 unfold aft
 have hi:∀d' j,d'=d->B.length<=j->j<F.length->kL B (.t d' j)=none:=by
  rintro d' j rfl O h2;cases hi:kL B (.t d' j) with
  |none=>rfl
  | some i =>
   have:=I _ (List.mem_of_getElem? (nV hi));rw[H j O h2] at this;cases this
 have J:∀m,(aB σ.h m).bind (aGq B d F fz L m)=match kL B m with
   |some j=>(F.getD j none).map (rnB (phi B d F.length))
   |none=>if fz=true∧m∈L then(aB σ.h m).map frz else aB σ.h m:=by
  intro m;cases hx:kL B m with
  | none =>
   simp only;cases aB σ.h m with
   |none=>simp
   | some b =>
    grind [aGq]
  | some j =>
   have:=I _ (List.mem_of_getElem? (nV hx));obtain⟨b,U⟩:=Option.isSome_iff_exists.1 this;simp only[U,Option.bind_some,aGq,hx]
 all_goals grind [xO,Name]
end
section
variable [Envs]
def qM:List Nat->List Value->List Value->Option Bool
 | [],[],[]=>some true
 | k::ks,x::r,y::s=>match eqV k x y,qM ks r s with
  |some a,some b=>some (a&&b)
  |_,_=>none
 |_,_,_=>none
mutual
def eqT (P:Program):Nat->TypeId->Option (List Nat)
 |0,_=>none
 | d+1,t=>match P.underlying t with
  |some .bool=>some [1]
  |some (.int _)=>some [0]
  |some .string=>some [2]
  | some (.struct fs)=>if P.stoodInHeld t then none else match eqF P d fs.toList 0 with
   |some l=>if jM P t=some l.length then some l else none
   |none=>none
  |_=>none
def eqF (P:Program):Nat->List Field->Nat->Option (List Nat)
 |0,_,_=>none
 |_+1,[],_=>some []
 | d+1,f::fs,o=>if f.name != "_" && f.offset==o then match eqT P d f.type with
   | some m=>if m.length=0 then none else match eqF P d fs (o+m.length) with
    |some l=>some (m++l)
    |none=>none
   |none=>none
  else none
end
theorem aF5:∀{F:List Nat}{l m:List Value}{b:Bool},qM F l m=some b->l.length=F.length∧m.length=F.length
 | [],[],[],_,_=>⟨rfl,rfl⟩
 | k::F,x::r,y::s,b,h=>by
  simp only[qM] at h;split at h
  .rename_i a J L h2;obtain⟨H,I⟩:=aF5 h2;simp[H,I]
  .cases h
 | [],[],_::_,_,h=>by simp[qM] at h
 | [],_::_,_,_,h=>by simp[qM] at h
 |_::_,[],_,_,h=>by simp[qM] at h
 |_::_,_::_,[],_,h=>by simp[qM] at h
theorem aBG:∀{F H:List Nat}{l m:List Value}{b:Bool},qM (F++H) l m=some b->∃I J,qM F (l.take F.length) (m.take F.length)=some I∧qM H (l.drop F.length) (m.drop F.length)=some J∧b=(I&&J)
 | [],H,l,m,b,h=>⟨true,b,by simp[qM],by simpa using h,by simp⟩
 | k::F,H,l,m,b,h=>by
  cases l with
  |nil=>simp[qM] at h
  | cons x l=>cases m with
   |nil=>simp[qM] at h
   | cons y m =>
    simp only[List.cons_append,qM] at h;split at h
    .rename_i a L Y h2;obtain⟨I,J,O,U,rfl⟩:=aBG h2
     all_goals grind [qM]
    .cases h
def zF (g:Bool) (xs:List Value):Value:=if g then .agg xs.toArray else xs.headD undef
theorem aFm {P:Program}{t:TypeId}{xs:Array Value}{o n:Nat}{g:Bool}{w:World} (F:iK P t=some g) (I:g=true->jM P t=some n) (H:g=false->n=1) (J:o+n<=xs.size) :
  (part t xs o).run P w=.ok (zF g ((xs.toList.drop o).take n)) w:=by
 cases g with
 | true =>
  simp only[part,Sem.run_bind,lY F,Result.andThen_ok,if_true,run_sizeOf (I rfl),Sem.run_pure,zF];congr 2;apply Array.ext';simp
 | false =>
  obtain rfl:=H rfl;have:o<xs.size:=by omega
  simp only[part,Sem.run_bind,lY F,Result.andThen_ok,Bool.false_eq_true,if_false,zF]
  all_goals grind [Sem.run_pure,List.drop_eq_getElem_cons]
theorem aMh {P:Program}:∀{d:Nat}{t:TypeId}{l:List Nat},eqT P d t=some l->∃g,iK P t=some g∧(g=true->jM P t=some l.length)∧(g=false->l.length=1)
 |0,_,_,h=>by simp[eqT] at h
 | d+1,t,l,h=>by
  simp only[eqT] at h;split at h
  .rename_i F;obtain rfl:=Option.some.inj h;exact⟨false,by simp[iK,F],by simp,by simp⟩
  .rename_i F;obtain rfl:=Option.some.inj h;exact⟨false,by simp[iK,F],by simp,by simp⟩
  .rename_i F;obtain rfl:=Option.some.inj h;exact⟨false,by simp[iK,F],by simp,by simp⟩
  .rename_i H F;split at h
   .cases h
   .split at h
    .rename_i J I;split at h
     .obtain rfl:=Option.some.inj h;exact⟨true,by simp[iK,F],λ_=>by assumption,by simp⟩
     .cases h
    .cases h
  .cases h
theorem aNw {P:Program} (w:World):∀(d:Nat),(∀(t:TypeId) (l:List Nat),eqT P d t=some l->∀(g:Bool),iK P t=some g->∀(xs ys:List Value) (b:Bool) (k:Nat),qM l xs ys=some b->
      (Op.equalIn (d+k) t (zF g xs) (zF g ys)).run P w=.ok b w)∧
  ∀(L:List Field) (o:Nat) (l:List Nat),eqF P d L o=some l->∀(xs ys:Array Value) (b:Bool) (k:Nat),qM l (xs.toList.drop o) (ys.toList.drop o)=some b->(Op.eqFields (d+k) xs ys L).run P w=.ok b w:=by
 intro d
 induction d with
 |zero=>exact⟨λt l h=>by simp[eqT] at h,λL o l h=>by simp[eqF] at h⟩
 | succ d ih =>
  obtain⟨hj,hc⟩:=ih;refine⟨λt l h g H xs ys b k J=>?_,λL o l h xs ys b k J=>?_⟩
  .simp only[eqT] at h
   have I:∀(c:Nat),l=[c]->g=false->∃x y,zF g xs=x∧zF g ys=y∧eqV c x y=some b:=by
    rintro c rfl rfl
    match xs,ys,J with
    | [],_,J=>simp[qM] at J
    |_::_,[],J=>simp[qM] at J
    | x::r,y::s,J =>
     grind [qM,zF]
   have e1:d+1+k=(d+k)+1:=by omega
   rw[e1];split at h
   .rename_i O;simp only[iK,O,Option.some.injEq] at H;obtain⟨x,y,hx,hy,F⟩:=I 1 (Option.some.inj h).symm H.symm
    all_goals grind [eqV,run_equalIn_bool',Value]
   .rename_i kk O;simp only[iK,O,Option.some.injEq] at H;obtain⟨x,y,hx,hy,F⟩:=I 0 (Option.some.inj h).symm H.symm;rw[hx,hy];cases x<;>simp only[eqV] at F<;>try(cases F;done)
    cases y<;>simp only at F<;>try(cases F;done)
    all_goals grind [run_equalIn_int]
   .rename_i O;simp only[iK,O,Option.some.injEq] at H;obtain⟨x,y,hx,hy,F⟩:=I 2 (Option.some.inj h).symm H.symm
    all_goals grind [eqV,run_equalIn_string,Value]
   .rename_i L O;simp only[iK,O,Option.some.injEq] at H;subst H;split at h
    .cases h
    .rename_i hh;split at h
     .rename_i l' hl;split at h
      .obtain rfl:=Option.some.inj h;have Y:P.fieldsOf t=L:=by simp[Program.fieldsOf,O]
       simp only[zF,if_true];rw[run_equalIn_struct w (d+k) t _ _ (by rw[Y];exact O) (by simpa using hh),Y];exact hc _ _ _ hl _ _ b k (by simpa using J)
      .cases h
     .cases h
   .cases h
  .cases L with
   | nil =>
    simp only[eqF,Option.some.injEq] at h;subst h
    have:b=true:=by
     grind [qM]
    subst this;simp[Op.eqFields]
   | cons f L =>
    simp only[eqF] at h;split at h
    .rename_i U;simp only[Bool.and_eq_true,bne_iff_ne,ne_eq,beq_iff_eq] at U;split at h
     .rename_i m hm;split at h
      .cases h
      rename_i hk;split at h
      .rename_i l' hd;obtain rfl:=Option.some.inj h;obtain⟨g,H,Z,ha⟩:=aMh hm;have hb:=aF5 J;simp only[List.length_drop,Array.length_toList,List.length_append] at hb;obtain⟨b1,b2,q1,q2,rfl⟩:=aBG J;have he:=aFm (w:=w) (xs:=xs) (o:=o) H Z ha (by omega);have hf:=aFm (w:=w) (xs:=ys) (o:=o) H Z ha (by omega);have e1:d+1+k=d+(1+k):=by omega
       have hq:=hj _ _ hm g H _ _ b1 (1+k) q1;simp only[Op.eqFields,ne_eq,U.1,not_false_eq_true,if_true,U.2,Sem.run_bind,he,hf,Result.andThen_ok,e1,hq];cases b1 with
       |false=>simp
       | true =>
        simp only[Bool.not_true,Bool.false_eq_true,if_false,Bool.true_and];exact hc L (o+m.length) l' hd xs ys b2 (1+k) (by rw[List.drop_drop,List.drop_drop] at q2;exact q2)
      .cases h
     .cases h
    .cases h
theorem aKU {P:Program}{S:Nat->Prop}{w:World}{ρ:Name->Option Nat}{κ:Name->Nat}{h:Name->Option Blk}:∀{L:List Nat}{c F:List AV}{vs us:List Value}{b:Bool},eqC L c F=some b->
  c.length=vs.length->F.length=us.length->(∀j,j<c.length->RV S w ρ κ h (c.getD j .junk) (vs.getD j undef))->(∀j,j<F.length->RV S w ρ κ h (F.getD j .junk) (us.getD j undef))->qM L vs us=some b
 | [],[],[],[],[],b,hc,_,_,_,_=>by simpa[eqC,qM] using hc
 | k::L,x::r,y::s,v::vs,u::us,b,hc,h1,h2,h3,h4=>by
  have H:=h3 0 (by simp);have I:=h4 0 (by simp);simp only[List.getD_cons_zero] at H I;cases x<;>try(simp[eqC] at hc;done)
  cases y<;>try(simp[eqC] at hc;done)
  cases H with|clo H=>cases H with|v x =>
  cases I with|clo I=>cases I with|v y =>
  simp only[eqC] at hc;split at hc
  .rename_i a Y O U;have:=aKU (P:=P) U (by simpa using h1) (by simpa using h2) (λj J=>by simpa using h3 (j+1) (by simpa using J)) (λj J=>by simpa using h4 (j+1) (by simpa using J));simp only[qM,O,this];exact hc
  .cases hc
 | [],[],_::_,_,_,b,hc,_,_,_,_=>by simp[eqC] at hc
 | [],_::_,_,_,_,b,hc,_,_,_,_=>by simp[eqC] at hc
 |_::_,[],_,_,_,b,hc,_,_,_,_=>by simp[eqC] at hc
 |_::_,_::_,[],_,_,b,hc,_,_,_,_=>by simp[eqC] at hc
 |_,_::_,_::_,[],_,b,hc,h1,_,_,_=>by simp at h1
 |_,_::_,_::_,_::_,[],b,hc,_,h2,_,_=>by simp at h2
 |_,[],[],_::_,_,b,hc,h1,_,_,_=>by simp at h1
 |_,[],[],[],_::_,b,hc,_,h2,_,_=>by simp at h2
variable {P:Program}{C:Ctx}{σ:FSt}{a:Act}{w:World}{S:Nat->Prop}{ρ:Name->Option Nat}{κ:Name->Nat}{K:AV->Prop}
theorem aKa (J:OK C σ a w S ρ κ) {op:BinOp}{t:TypeId}{ks:List Nat}{x y:Operand}{I:Bool} (U:(op=.eql∧I=false)∨(op=.neq∧I=true)) (ht:eqT P 30 t=some ks) (hg:P.eqGuardType P.depth t=false) (ha:iK P t=some true)
  (H:rd (evO σ.s) σ.h K (.eqA I ks x y)):Ans P S w ρ κ σ.h K (do eqGuard op t x y (a.eval x) (a.eval y);binOp op t (a.eval x) (a.eval y)):=by
 have Z:=J.ev x;have hy:=J.ev y;generalize a.eval x=va at Z⊢;generalize a.eval y=vb at hy⊢;simp only[rd] at H;split at H
 .rename_i c c' hc L;rw[hc] at Z;rw[L] at hy;obtain⟨vs,rfl,l1,r1⟩:=qJ Z;obtain⟨us,rfl,l2,r2⟩:=qJ hy;split at H
  .rename_i b hb;have Y:=aKU (P:=P) (vs:=vs.toList) (us:=us.toList) hb (by simpa using l1) (by simpa using l2) (λj O=>by rw[getD_toList];exact r1 j O) (λj O=>by rw[getD_toList];exact r2 j O);have F:=(aNw (P:=P) w 30).1 t ks ht true ha vs.toList us.toList b 9970 Y;simp only[zF,if_true] at F;rcases U with⟨rfl,rfl⟩|⟨rfl,rfl⟩
   .refine⟨_,_,H,?_,.clo (.v _)⟩;simp only[Sem.run_bind,run_eqGuard_agg w _ t x y vs us hg,Result.andThen_ok,run_eql_struct w t vs us];rw[show(10000:Nat)=30+9970 from rfl,F];rfl
   .refine⟨_,_,H,?_,.clo (.v _)⟩;simp only[Sem.run_bind,run_eqGuard_agg w _ t x y vs us hg,Result.andThen_ok,run_neq_struct w t vs us];rw[show(10000:Nat)=30+9970 from rfl,F];rfl
  .exact H.elim
 .exact H.elim
end
section
variable [Envs]
variable {P:Program}{C:Ctx}{σ:FSt}{a:Act}{w:World}{S:Nat->Prop}{ρ:Name->Option Nat}{κ:Name->Nat}{K:AV->Prop}
theorem aCW (F:List Int):F.foldl (λr n=>r.push (UInt8.ofNat n.toNat)) ByteArray.empty=aCp F:=by
 have H:∀(F:List Int) (b:ByteArray),F.foldl (λr n=>r.push (UInt8.ofNat n.toNat)) b=⟨b.data++(F.map λn=>UInt8.ofNat n.toNat).toArray⟩:=by
  intro F
  induction F with
  |nil=>intro b;cases b;simp
  | cons n r ih =>
   intro b;simp only[List.foldl_cons,ih];cases b;simp[ByteArray.push]
 rw[H];simp[aCp,ByteArray.empty,ByteArray.emptyWithCapacity];rfl
theorem zP:∀{l:List (List AV)}{F:List Int},rU l=some F->l=F.map λn=>[.v (.int .u8 n)]
 | [],F,h=>by simp[rU] at h;simp[h]
 | [.v (.int .u8 n)]::r,F,h=>by
  simp only[rU] at h;split at h
  .rename_i l H;obtain rfl:=Option.some.inj h;rw[zP H];rfl
  .cases h
 | []::r,F,h=>by simp[rU] at h
 |(x::y::s)::r,F,h=>by simp[rU] at h
 | [x]::r,F,h=>by
  cases x<;>try(simp[rU] at h;done)
  rename_i v;cases v<;>try(simp[rU] at h;done)
  rename_i k n;cases k<;>try(simp[rU] at h;done)
  simp only[rU] at h;split at h
  .rename_i l H;obtain rfl:=Option.some.inj h;rw[zP H];rfl
  .cases h
theorem aM9 (Z:OK C σ a w S ρ κ) {s d e:TypeId} (hs:P.underlying s=some (.slice e)) (he:P.underlying e=some (.int .u8)) (hd:P.underlying d=some .string) {x:Operand}
  (O:rd (evO σ.s) σ.h K (.b2s x)):Ans P S w ρ κ σ.h K (convert s d (a.eval x)):=by
 have hx:=Z.ev x;generalize a.eval x=va at hx⊢;simp only[rd] at O;split at O
 .rename_i l hl;split at O
  .rename_i ns hc;obtain⟨base,cap,f,rfl,hr⟩:=aCs Z.hok hx hl;have Y:=zP hc;refine⟨_,_,O,?_,.clo (.v _)⟩;rw[run_convert_bytes_string w s d e _ _ _ hs he hd];have H:l.length=ns.length:=by rw[Y];simp
   cases ns with
   | nil =>
    have h0:l.length=0:=by simpa using H
    rw[h0];cases base with
    | none =>
     simp[Conv.bytesToString,aCp,ByteArray.empty,ByteArray.emptyWithCapacity];rfl
    | some A =>
     rw[run_bytesToString w A 0 cap [] (by simp[loadCells,loadCellsFrom]),aCW]
   | cons L ns0 =>
    have F:=hr.cell w rfl;obtain⟨b,off,hb,_⟩:=F 0 (by simp at H;omega);subst hb;rw[H];rw[run_bytesToString w ⟨b,off,none⟩ _ cap (L::ns0) ?_,aCW];rw[run_loadCells w ⟨b,off,none⟩ _ f (λj I=>?_)]
    .congr 1;apply Array.ext';simp only;apply List.ext_getElem?;intro j;rcases Nat.lt_or_ge j (L::ns0).length with I|I
     .have J:=hr.rc j (by omega)
      have e1:qI 1 l j=.v (.int .u8 (L::ns0)[j]):=by
       have:l[j]? = some [.v (.int .u8 (L::ns0)[j])]:=by rw[Y];simp only[List.getElem?_map,List.getElem?_eq_getElem I,Option.map_some]
       simp[qI,List.getD,this,Nat.mod_one]
      rw[e1] at J
      have e2:f j=.int .u8 (L::ns0)[j]:=by
       generalize f j=u at J;cases J with|v _=>rfl
      rw[List.getElem?_map,List.getElem?_range I,List.getElem?_map,List.getElem?_eq_getElem I,Option.map_some,Option.map_some,e2]
     .rw[List.getElem?_eq_none (show(List.map f (List.range (L::ns0).length)).length<=j by simpa using I),List.getElem?_eq_none (show(List.map (Value.int .u8) (L::ns0)).length<=j by simpa using I)]
    .obtain⟨b',hf,U,ha⟩:=F j (by omega);simp only[Option.some.injEq,Addr.mk.injEq,and_true] at U;obtain⟨rfl,rfl⟩:=U;rw[addr_add];exact ha
  .exact O.elim
 .exact O.elim
def aKz (P:Program) (f:FuncId):Bool:=match P.funcs[f]? with
 |some fn=>fn.body.isNone&&fn.name == "internal/bytealg.IndexByteString" && fn.origin == ""
 |none=>false
theorem aKN {fn:Func} (h:fn.name = "internal/bytealg.IndexByteString"):Extern.find fn=some Extern.BytealgIndexByte.indexByte:=by
 unfold Extern.find;simp only[h];rfl
theorem aER {fn:Func} (h:fn.name = "internal/bytealg.IndexByteString") (F:fn.origin = ""):Extern.findNext fn=none:=by
 unfold Extern.findNext;simp only[h,F];rfl
theorem aLI (J:OK C σ a w S ρ κ) {o:Oper}{c:Call}{f:FuncId}{x y:Operand} (Y:o.op=.call c) (hc:c.callee=.value (.func f)) (H:c.args=#[x,y]) (hi:aKz P f=true)
  (L:rd (evO σ.s) σ.h K (.idxB x y)):∃x' v,K x'∧(execOp a.eval o).run P w=.ok (.value v) w∧RV S w ρ κ σ.h x' v:=by
 have Z:=J.ev x;have hy:=J.ev y
 have F:(execOp a.eval o).run P w=(callFunc f #[a.eval x,a.eval y]).run P w:=by
  simp[execOp,Y,resolve,hc,H,Act.eval,Deferred.ofValue,invoke]
 generalize a.eval x=va at Z F;generalize a.eval y=vb at hy F;simp only[rd] at L;split at L
 .rename_i s n h1 h2;rw[h1] at Z;rw[h2] at hy;obtain rfl:=bL Z;obtain rfl:=bL hy;unfold aKz at hi;split at hi
  .rename_i fn U;simp only[Bool.and_eq_true,beq_iff_eq] at hi;have I:(fn.name == "runtime.NumGoroutine")=false:=by rw[hi.1.2];rfl
   refine⟨_,.int .i64 (yS s n),L,?_,.clo (.v _)⟩;rw[F,run_callFunc_indexByte U I hi.1.1 (aER hi.1.2 hi.2) (aKN hi.1.2)]
   have e:Extern.BytealgIndexByte.indexByte #[Value.string s,.int .u8 n]=(do
       let b ←Extern.Bytes.bytesOf (.string s)
       let c ←Extern.Bytes.asByte (.int .u8 n)
       match(List.range b.size).find? (λi=>b[i]! == c) with
       |some i=>pure (goInt i)
       |none=>pure (goInt (-1)):Sem Value):=rfl
   rw[e];simp only[Extern.Bytes.bytesOf,Extern.Bytes.asByte,Sem.run_bind,Sem.run_pure,Result.andThen_ok];unfold yS;split
   .rename_i i O;simp only[O,Sem.run_pure,Result.andThen_ok,goInt]
   .rename_i O;simp only[O,Sem.run_pure,Result.andThen_ok,goInt]
  .cases hi
 .exact L.elim
end
section
variable [Envs]
variable {P:Program}{C:Ctx}{a:Act}{w:World}{S:Nat->Prop}{ρ:Name->Option Nat}{κ:Name->Nat}
structure aJ where
 dst:Option Nat
 op:AOp
 guard:Option (Nat×Bool)
def uD:AV->List Name
 |.loc n _ _=>[n]
 |.ptr n _ _=>[n]
 |_=>[]
def nC:AV->List Name
 |.agg c=>c.flatMap uD
 |x=>uD x
def mO (h:List (Name×Blk)) (n:Name):List Name:=
 match aB h n with
 |some (.var c _)=>c.flatMap uD
 |_=>[]
def aGl (h:List (Name×Blk)) (xs:List AV) (bor:List Nat):List Name:=
 let t:=bor.flatMap λi=>nC (xs.getD i .junk)
 t++t.flatMap (mO h)
def nodupB:List Name->Bool
 | []=>true
 |n::r=>!r.contains n&&nodupB r
def kE (d nB n:Nat) (σ:St):Bool:=(List.range n).all λj=>decide (j<nB)||bX (.t d j) σ
def aD (P:Program) (f:FuncId) (hin:List Blk) (ys:List AV) (L:List Name) (d:Option Nat) (σ:St) (B:List Name) (K:St->Prop) (_:Tag K):Prop:=
 ∃ r hout fz,Fn P f hin ys r hout∧(fz=false->(L=[]∨(flat r=true∧∀b,some b∈hout->iD b)))∧
  kE (d.getD 0) B.length hout.length σ=true∧K ⟨put d (rn (phi B (d.getD 0) hout.length) r) σ.s,zD σ.h B (d.getD 0) hout fz L⟩
def aDd (P:Program) (d:Option Nat) (σ:St) (K:St->Prop) (fv:AV) (xs:List AV) (B:List Name):Prop:=
 match fv with
 | .fn f caps=>match eG (conv (aB σ.h) 8 B false) (xs++caps),wU (aB σ.h) B B with
  |some (ys,L1),some (hin,L2)=>nodupB B=true∧aD P f hin ys (L1++L2) d σ B K .x
  |_,_=>False
 |_=>False
def bC (P:Program) (d:Option Nat) (σ:St) (K:St->Prop):AOp->Prop
 | .box x=>match d with
  |some d=>al (evO (look σ.s)) (aB σ.h) (.t d 0) (λv b=>(bX (.t d 0) σ=true∧b.has (.t d 0)=false)∧K ⟨(d,v)::σ.s,(.t d 0,b)::σ.h⟩) (.box x)
  |none=>False
 | .alloc z=>match d with
  |some d=>al (evO (look σ.s)) (aB σ.h) (.t d 0) (λv b=>(bX (.t d 0) σ=true∧b.has (.t d 0)=false)∧K ⟨(d,v)::σ.s,(.t d 0,b)::σ.h⟩) (.alloc z)
  |none=>False
 | .bslice k m z ps=>match d with
  |some d=>al (evO (look σ.s)) (aB σ.h) (.t d 0) (λv b=>(bX (.t d 0) σ=true∧b.has (.t d 0)=false)∧K ⟨(d,v)::σ.s,(.t d 0,b)::σ.h⟩) (.bslice k m z ps)
  |none=>False
 | .mk k y z n=>match d with
  |some d=>al (evO (look σ.s)) (aB σ.h) (.t d 0) (λv b=>(bX (.t d 0) σ=true∧b.has (.t d 0)=false)∧K ⟨(d,v)::σ.s,(.t d 0,b)::σ.h⟩) (.mk k y z n)
  |none=>False
 |.call f args bor=>aDd P d σ K (evO (look σ.s) f) (args.map (evO (look σ.s))) (aGl σ.h (args.map (evO (look σ.s))) bor)
 | .store k A X=>d=none∧match evO (look σ.s) A with
  | .ptr n e c=>match aB σ.h n,kG (aB σ.h) (evO (look σ.s) X) with
   |some b,some cs=>(b.fz=false∧0<k∧cs.length=k∧c+k<=(b.row e).length∧b.okc cs=true)∧K ⟨σ.s,hset n (b.setRow e (lay (b.row e) c cs)) σ.h⟩
   |_,_=>False
  |_=>False
 | .append k y A X=>match d with
  | some d=>match aBL k (aB σ.h) (evO (look σ.s) A),oQ k (aB σ.h) (evO (look σ.s) X) with
   | some (on,l),some l'=>(bX (.t d 0) (aP on σ)=true∧(l.length+l'.length)*y<=2 ^ 47∧l.length+l'.length<2 ^ 62)∧
     K ⟨(d,.loc (.t d 0) 0 (l.length+l'.length))::(aP on σ).s,(.t d 0,.arr k (l++l') false)::(aP on σ).h⟩
   |_,_=>False
  |none=>False
 | .appendC k y A X=>match d with
  | some d=>match aBL k (aB σ.h) (evO (look σ.s) A),oQ k (aB σ.h) (evO (look σ.s) X) with
   | some (on,l),some l'=>(bX (.t d 0) (aP on σ)=true∧(l.length+l'.length)*y<=2 ^ 47∧l.length+l'.length<2 ^ 62)∧
     K ⟨(d,.sl k (l++l'))::(aP on σ).s,(aP on σ).h⟩
   |_,_=>False
  |none=>False
 | .bsliceC k m z ps=>match d with
  |some d=>al (evO (look σ.s)) (aB σ.h) (.t d 0) (λv b=>(bX (.t d 0) σ=true∧b.has (.t d 0)=false)∧∃rows,b=.arr k rows false∧v=.loc (.t d 0) 0 rows.length∧K ⟨(d,.sl k rows)::σ.s,σ.h⟩) (.bslice k m z ps)
  |none=>False
 | .clr k z X=>match evO (look σ.s) X with
  | .loc n off len=>match aB σ.h n with
   |some (.arr k' l fz)=>(fz=false∧k'=k∧z.length=k∧(z.all λx=>nN (aB σ.h) x&&fO x)=true∧off+len<=l.length)∧K ⟨put d (.v (.tuple #[])) σ.s,hset n (.arr k (aAQ l off len z) false) σ.h⟩
   |_=>False
  |_=>False
 |op=>rd (evO (look σ.s)) (aB σ.h) (λv=>K ⟨put d v σ.s,σ.h⟩) op
/-! ## resolving -/
def avs (z:Array Value):List AV:=z.toList.map λx=>.v x
def tX (P:Program) (b:Builtin) (ts:List TypeId) (args:List Operand):Option AOp:=
 match b,ts,args with
 | .len,[t],[x]=>match P.underlying t with
  |some (.slice _)=>some (.len x)
  |some .string=>some (.lenS x)
  |some (.array n _)=>some (.lenC n)
  |_=>none
 | .append,[t,t2],[x,y]=>match P.underlying t,P.underlying t2 with
  | some (.slice e),some (.slice _)=>match P.info? e with
   | some i=>match i.zero with
    |some z=>if z.cells.size=i.size then some (.append i.size i.bytes x y) else none
    |none=>none
   |none=>none
  |_,_=>none
 |.max,[_,_],[x,y]=>some (.mm true x y)
 |.min,[_,_],[x,y]=>some (.mm false x y)
 | .clear,[t],[x]=>match P.underlying t with
  | some (.slice e)=>match P.info? e with
   | some i=>match i.zero with
    |some z=>some (.clr i.size (avs z.cells) x)
    |none=>none
   |none=>none
  |_=>none
 |_,_,_=>none
def bpS (P:Program) (fs:Array Field):List (Nat×Operand)->Option (List (Nat×Nat×Operand))
 | []=>some []
 | (i,x)::r=>match fs[i]? with
  | some f=>match jM P f.type,bpS P fs r with
   |some n,some l=>some ((f.offset,n,x)::l)
   |_,_=>none
  |none=>none
def aJ1:Operand->Operand->Bool
 |.tmp l,.tmp c=>l==c
 |.const (.int k l),.const (.int k' c)=>k==k'&&l==c
 |_,_=>false
theorem aJ0 {x y:Operand} (h:aJ1 x y=true):x=y:=by
 unfold aJ1 at h
 all_goals grind
def comp (P:Program):Op->Option AOp
 |.move x=>some (.mv x)
 |.assign x=>some (.mv x)
 |.pick c x y=>some (.pick c x y)
 |.alloc t=>(zOf P t).map λz=>.alloc (avs z)
 |.box _ x=>some (.box x)
 | .build t ps=>match P.underlying t,zOf P t with
  |some (.struct fs),some z=>if fs.all (λf=>(jM P f.type).isSome) then(bpS P fs ps.toList).map λps=>.build (avs z) ps else none
  |some (.array _ e),some z=>(jM P e).map λn=>.build (avs z) (ps.toList.map λp=>(p.1*n,n,p.2))
  |_,_=>none
 | .buildSlice t m ps=>match P.underlying t with
  | some (.slice e)=>match jM P e,zOf P e with
   |some k,some z=>some (.bslice k m (avs z) ps.toList)
   |_,_=>none
  |_=>none
 |.load t x=>(uG P t).map λp=>.load p.1 p.2 x
 |.store t A X=>(jM P t).map λk=>.store k A X
 |.nilCheck x=>some (.nilc x)
 | .binOp op t x y _=>match P.underlying t with
  |some (.int _)=>some (.bin op x y)
  |some .string=>some (.binS op x y)
  |some .bool=>some (.binB op x y)
  | some (.struct _)=>match eqT P 30 t with
   | some ks=>if P.eqGuardType P.depth t=false∧iK P t=some true then match op with
     |.eql=>some (.eqA false ks x y)
     |.neq=>some (.eqA true ks x y)
     |_=>none
    else none
   |none=>none
  |_=>none
 |.unOp op _ x=>some (.un op x)
 | .convert s d x=>match P.underlying s,P.underlying d with
  |some (.int _),some (.int k)=>some (.conv k x)
  | some (.slice e),some .string=>match P.underlying e with
   |some (.int .u8)=>some (.b2s x)
   |_=>none
  |_,_=>none
 |.makeFunc (.func f) first caps=>if first.size=0 then some (.mkfn f caps.toList) else none
 | .makeSlice t L L'=>if aJ1 L L'=true then match P.underlying t with
   | some (.slice e)=>match P.info? e with
    | some i=>match i.zero with
     |some z=>some (.mk i.size i.bytes (avs z.cells) L)
     |none=>none
    |none=>none
   |_=>none
  else none
 | .slice t x lo hi none=>match P.underlying t with
  |some (.slice e)=>(jM P e).map λk=>.slc k x lo hi
  |some .string=>some (.sstr x lo hi)
  |_=>none
 | .fieldAddr s x i=>match y5 P s i with
  | some f=>match jM P f.type with
   |some (_+1)=>some (.fieldAddr f.offset x)
   |_=>none
  |none=>none
 | .field s x i=>match y5 P s i with
  |some f=>(uG P f.type).bind λp=>if jM P f.type=some p.2 then some (.field p.1 f.offset p.2 x) else none
  |none=>none
 | .indexAddr t x i=>match P.underlying t with
  |some (.slice e)=>(jM P e).map λk=>.idxSl k x i
  |some (.array n e)=>(jM P e).map λk=>.idxArr n k x i
  |_=>none
 | .index t x i=>match P.underlying t with
  |some .string=>some (.idxStr x i)
  |some (.array n e)=>(uG P e).bind λp=>if jM P e=some p.2 then some (.idxAgg p.1 n p.2 x i) else none
  |_=>none
 |.extract x i=>some (.extract x i)
 | .call c=>match c.callee with
  |.builtin b=>tX P b c.argTypes.toList c.args.toList
  | .value (.func f)=>if aKz P f then match c.args.toList with
    | [x,y]=>some (.idxB x y)
    |_=>none
   else some (.call (.func f) c.args.toList [])
  |.value f=>some (.call f c.args.toList [])
  |.invoke _ _=>none
 |_=>none
def AOp.bare0:AOp->AOp
 |.call f args _=>.call f args []
 |op=>op
def AOp.bare:AOp->AOp
 |.appendC k y a x=>.append k y a x
 |.loadV g k a=>.load g k a
 |.fieldV off x=>.fieldAddr off x
 |.bsliceC k n z ps=>.bslice k n z ps
 |op=>op.bare0
def bV (C:Ctx) (K:St->Prop) (a:Act) (w:World):Prop:=∃σ S ρ κ,K σ∧OK C (St.f σ) a w S ρ κ
theorem bV.put {σ:St} (F:OK C σ.f a w S ρ κ) {x:AV}{v:Value} (J:RV S w ρ κ σ.f.h x v) {d:Option Nat} (I:∀d',d=some d'->d'<C.nt) {K:St->Prop} (H:K ⟨Vs.put d x σ.s,σ.h⟩):bV C K (a.put d v) w:=by
 refine⟨_,S,ρ,κ,H,?_⟩;have:=F.put J I;simpa[St.f,jU] using this
theorem vZ {σ:St}{K:St->Prop}{o:Oper}{Q:Exit->Act->World->Prop} (H:OK C σ.f a w S ρ κ) (J:∀d',o.dst=some d'->d'<C.nt)
  (h:∃x v,K ⟨put o.dst x σ.s,σ.h⟩∧(execOp a.eval o).run P w=.ok (.value v) w∧RV S w ρ κ σ.f.h x v):o.wp P a w (bV C K) Q:=by
 obtain⟨x,v,I,F,L⟩:=h;unfold Oper.wp;rw[F];exact bV.put H L J I
theorem aHN {s:Sem Value}{v:Value}{w':World} (h:s.run P w=.ok v w'):(do pure (Next.value (←s)):Sem Next).run P w=.ok (.value v) w':=by
 simp[h]
theorem aA4 {σ:St} (hb:OK C σ.f a w S ρ κ) {t:TypeId}{L:Array Field}{z:Array Value}{J:Array (Nat×Operand)}{rp:List (Nat×Nat×Operand)}{K:AV->Prop}
  (hu:P.underlying t=some (.struct L)) (hz:zOf P t=some z) (U:L.all (λf=>(jM P f.type).isSome)=true) (hp:bpS P L J.toList=some rp) (hv:rd (evO (look σ.s)) (aB σ.h) K (.build (avs z) rp)) :
  Ans P S w ρ κ σ.f.h K (Instr.build t (J.map λ(i,x)=>(i,a.eval x))):=by
 obtain⟨zv,ha,rfl⟩:=aAt hz w
 let F:Array (Nat×Nat):=L.map λf=>(f.offset,(jM P f.type).getD 0)
 have H:(L.mapM λf=>(do pure (f.offset,←sizeOf f.type):Sem (Nat×Nat))).run P w=.ok F w:=by
  have hc:∀(l:List Field) (O:List (Nat×Nat)),(∀f,f∈l->(jM P f.type).isSome)->(l.mapM λf=>(do pure (f.offset,←sizeOf f.type):Sem (Nat×Nat))).run P w=.ok (l.map λf=>(f.offset,(jM P f.type).getD 0)) w:=by
   intro l
   induction l with
   |nil=>intro _ _;simp
   | cons f r ih =>
    intro O hl;obtain⟨n,hn⟩:=Option.isSome_iff_exists.1 (hl f (by simp));simp only[List.mapM_cons,Sem.run_bind,run_sizeOf hn,Result.andThen_ok,Sem.run_pure,ih O (λg hg=>hl g (by simp[hg])),List.map_cons,hn,Option.getD_some]
  have:=hc L.toList [] (λf hf=>by
    have:=Array.all_eq_true'.1 U f (by simpa using hf);exact this)
  rw[Array.mapM_eq_mapM_toList];simp only[Sem.run_map,this,Result.andThen_ok];congr 1;apply Array.ext';simp[F]
 simp only[rd] at hv
 have Z:J.toList.map (λp=>((F[p.1]?:Option (Nat×Nat))).map λq=>(q.1,q.2,p.2))=rp.map some:=by
  revert hp;generalize J.toList=l;clear hv
  induction l generalizing rp with
  |nil=>intro hp;simp[bpS] at hp;simp[hp]
  | cons p r ih =>
   grind [bpS]
 obtain⟨cs,vs,hK,I,Y,_⟩:=aCc hb (λi=>F[i]?) J.toList rp _ _ Z (tZ zv.cells) hv;refine⟨_,.agg vs,hK,?_,.agg _ _ Y.1 Y.2⟩;have e:(J.map λ(i,x)=>(i,a.eval x)).toList=J.toList.map λp=>(p.1,a.eval p.2):=by simp
 simp only[Instr.build,Sem.run_bind,ha,Result.andThen_ok,run_underlying hu,H,e];rw[I];rfl
theorem aBM {σ:St} (L:OK C σ.f a w S ρ κ) {t e:TypeId}{m n:Nat}{z:Array Value}{J:Array (Nat×Operand)}{K:AV->Prop}
  (hu:P.underlying t=some (.array m e)) (hz:zOf P t=some z) (Z:jM P e=some n) (O:rd (evO (look σ.s)) (aB σ.h) K (.build (avs z) (J.toList.map λp=>(p.1*n,n,p.2)))) :
  Ans P S w ρ κ σ.f.h K (Instr.build t (J.map λ(i,x)=>(i,a.eval x))):=by
 obtain⟨zv,I,rfl⟩:=aAt hz w;simp only[rd] at O;obtain⟨cs,vs,Y,F,H,_⟩:=aCc L (λi=>some (i*n,n)) J.toList _ _ _ (by simp) (tZ zv.cells) O;refine⟨_,.agg vs,Y,?_,.agg _ _ H.1 H.2⟩;have U:(J.map λ(i,x)=>(i,a.eval x)).toList=J.toList.map λp=>(p.1,a.eval p.2):=by simp
 simp only[Instr.build,Sem.run_bind,I,Result.andThen_ok,run_underlying hu,run_sizeOf Z,U];rw[F];rfl
theorem tO:∀{B:List Name},nodupB B=true->B.Nodup
 | [],_=>List.nodup_nil
 | n::r,h=>by
  simp only[nodupB,Bool.and_eq_true,Bool.not_eq_true',List.contains_eq_mem,decide_eq_false_iff_not] at h;exact List.nodup_cons.2 ⟨h.1,tO h.2⟩
theorem aDJ {σ:St}{K:St->Prop}{o:Oper}{c:Call}{f:Operand}{bor:List Nat}{Q:Exit->Act->World->Prop} (U:OK C σ.f a w S ρ κ) (hd:∀d',o.dst=some d'->d'<C.nt)
  (ho:o.op=.call c) (hc:c.callee=.value f)
  (H:bC P o.dst σ K (.call f c.args.toList bor)):o.wp P a w (bV C K) Q:=by
 simp only[bC,aDd] at H;split at H
 .rename_i g caps hg;have hf:=U.ev f;simp only[St.f] at hf;rw[hg] at hf;obtain⟨vs,hq,hl,hr⟩:=aCR hf
  have I:jL P g:=by
   split at H
   .obtain⟨_,r,F,fz,O,_⟩:=H;exact O.1
   .exact H.elim
  obtain⟨fn,b,Y,h2,h3⟩:=I
  have he:(execOp a.eval o).run P w=.ok (.enter g (c.args.map a.eval++vs)) w:=by
   simp[execOp,ho,resolve,hc,hq,Deferred.ofValue,invoke,callFunc,Y,h2,h3]
  unfold Oper.wp;rw[he];simp only[Oper.upon];split at H
  .rename_i ys L1 hin L2 hs Z;obtain⟨hp,r,F,fz,O,L,hh,hK⟩:=H
   have ha:∀j,(aGl σ.h (c.args.toList.map (evO (look σ.s))) bor).length<=j->j<F.length->bX (.t (o.dst.getD 0) j) σ=true:=by
    grind [kE]
   have J:=aHl (K:=fun σ' x=>∃σl:St,σl.f=σ'∧K ⟨put o.dst (rn (phi (aGl σ.h (c.args.toList.map (evO (look σ.s))) bor) (o.dst.getD 0) F.length) r) σ.s,σl.h⟩∧σl.s=σ.s∧x=rn (phi (aGl σ.h (c.args.toList.map (evO (look σ.s))) bor) (o.dst.getD 0) F.length) r) U (d:=o.dst.getD 0) (f:=g) (caps:=caps) (xs:=c.args.toList.map (evO (look σ.s))) (tO hp) (vs:=c.args.map a.eval++vs) (by
       simp only[aK8,St.f,hs,Z];refine⟨r,F,fz,O,L,λj Y h2=>dW (ha j Y h2),⟨σ.s,zD σ.h (aGl σ.h (c.args.toList.map (evO (look σ.s))) bor) (o.dst.getD 0) F fz (L1++L2)⟩,?_,hK,rfl,rfl⟩;simp only[FSt.mk.injEq,true_and];refine aNM (λm hm=>?_) (λj Y h2=>(dW (ha j Y h2)).1.1);obtain⟨_,hn,_⟩:=wP _ _ Z;obtain⟨j,hj⟩:=List.mem_iff_getElem?.1 hm;obtain⟨b0,_,_,hk,_⟩:=hn j m hj;simp[hk]) (by simp[hl]) (λj hj=>by
       simp only[List.length_append,List.length_map,Array.length_toList] at hj;by_cases hb:j<c.args.size
       . have e1:(c.args.toList.map (evO (look σ.s))++caps).getD j .junk=evO (look σ.s) c.args[j]:=by
           grind [look,St,Oper,Call]
         have e2:(c.args.map a.eval++vs).getD j undef=a.eval c.args[j]:=by simp[hb,show j<c.args.size+vs.size by omega]
         rw[e1,e2];exact U.ev _
       . have e1:(c.args.toList.map (evO (look σ.s))++caps).getD j .junk=caps.getD (j-c.args.size) .junk:=by
           grind
         have e2:(c.args.map a.eval++vs).getD j undef=vs.getD (j-c.args.size) undef:=by
           simp[Array.getElem?_append,hb]
         rw[e1,e2];exact hr _ (by omega))
   refine J.mono ?_
   all_goals grind [bV.put]
  .exact H.elim
 .exact H.elim
end
end Go.Vs
