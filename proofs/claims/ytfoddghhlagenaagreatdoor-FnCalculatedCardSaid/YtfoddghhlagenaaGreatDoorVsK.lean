/- The call of a function by its contract. -/
import Derived.Test.YtfoddghhlagenaaGreatDoorVsI
set_option linter.all false
set_option maxHeartbeats 8000000
namespace Go.Vs
section
variable [Envs]
variable {P:Program}{C:Ctx}{σ:FSt}{a:Act}{w:World}{S:Nat->Prop}{ρ:Name->Option Nat}{κ:Name->Nat}{h:Name->Option Blk}
def gB:List Name->Name->Option Nat
 | [],_=>none
 |m::r,n=>if m=n then some 0 else(gB r n).map (· + 1)
theorem jR:∀{E:List Name}{n:Name}{j:Nat},gB E n=some j->E[j]? = some n
 | [],_,_,h=>by simp[gB] at h
 | m::r,n,j,h=>by
  simp only[gB] at h
  split at h
  .grind
  .cases hr:gB r n with
   |none=>rw[hr] at h;simp at h
   | some i =>
    rw[hr] at h
    simp only[Option.map_some,Option.some.injEq] at h
    subst h
    simpa using jR hr
theorem q9:∀{E:List Name}{n:Name},gB E n=none->n∉E
 | [],_,_=>by simp
 | m::r,n,h=>by
  simp only[gB] at h
  split at h
  .cases h
  .rename_i hne
   have:gB r n=none:=by simpa using h
   simp only[List.mem_cons,not_or]
   exact⟨λe=>hne e.symm,q9 this⟩
def bO (f:AV->Option (AV×List Name)):List AV->Option (List AV×List Name)
 | []=>some ([],[])
 | x::r=>match f x,bO f r with
  |some (y,L),some (ys,L')=>some (y::ys,L++L')
  |_,_=>none
theorem fD {f:AV->Option (AV×List Name)}:∀{c c':List AV}{L:List Name},bO f c=some (c',L)->c'.length=c.length∧
  ∀j,j<c.length->∃Lj,f (c.getD j .junk)=some (c'.getD j .junk,Lj)∧∀n,n∈Lj->n∈L
 | [],c',L,h=>by
  grind [bO]
 | x::r,c',L,h=>by
  simp only[bO] at h
  split at h
  .rename_i y L1 ys L2 h1 h2
   simp only[Option.some.injEq,Prod.mk.injEq] at h
   obtain⟨rfl,rfl⟩:=h
   obtain⟨h3,h4⟩:=fD h2
   refine⟨by simp[h3],λj hj=>?_⟩
   cases j with
   |zero=>exact⟨L1,by simpa using h1,λn hn=>List.mem_append_left _ hn⟩
   | succ j =>
    grind
  .cases h
theorem tX {f:AV->Option (AV×List Name)}:∀{cs cs':List AV}{L:List Name},bO f cs=some (cs',L)->∀n,n∈L->∃j,j<cs.length∧∃Lj,f (cs.getD j .junk)=some (cs'.getD j .junk,Lj)∧n∈Lj
 | [],cs',L,hm,n,hn=>by simp only[bO,Option.some.injEq,Prod.mk.injEq] at hm;obtain⟨_,rfl⟩:=hm;simp at hn
 | x::r,cs',L,hm,n,hn=>by
  simp only[bO] at hm
  split at hm
  .rename_i y L1 ys L2 h1 h2
   simp only[Option.some.injEq,Prod.mk.injEq] at hm
   obtain⟨rfl,rfl⟩:=hm
   rcases List.mem_append.1 hn with hn|hn
   .exact⟨0,by simp,L1,by simpa using h1,hn⟩
   .obtain⟨j,hj,Lj,g,hg⟩:=tX h2 n hn
    exact⟨j+1,by simpa using hj,Lj,by simpa using g,hg⟩
  .cases hm
def conv (h:Name->Option Blk):Nat->List Name->Bool->AV->Option (AV×List Name)
 |0,_,_,_=>none
 |_+1,_,c,.junk=>if c then none else some (.junk,[])
 | _+1,E,c,.loc n off len=>match gB E n with
  |some j=>if c then none else some (.loc (.b j) off len,[])
  | none=>match h n with
   |some (.arr k l _)=>some (.sl k ((l.drop off).take len),[n])
   |_=>none
 | m+1,E,c,.ptr n e o=>match gB E n with
  |some j=>if c then none else some (.ptr (.b j) e o,[])
  | none=>match h n with
   |some (.arr _ l _)=>some (.ro ((l.getD e []).drop o),[n])
   |some (.var cs _)=>(bO (conv h m E true) cs).map λp=>(.ro (p.1.drop o),n::p.2)
   |none=>none
 |m+1,E,c,.fn f cs=>(bO (conv h m E c) cs).map λp=>(.fn f p.1,p.2)
 |m+1,E,c,.agg cs=>(bO (conv h m E c) cs).map λp=>(.agg p.1,p.2)
 |m+1,E,c,.tup cs=>(bO (conv h m E c) cs).map λp=>(.tup p.1,p.2)
 |_+1,_,_,.v x=>some (.v x,[])
 |_+1,_,_,.sl k l=>some (.sl k l,[])
 |_+1,_,_,.ro c=>some (.ro c,[])
theorem aA5 (S:Nat->Prop) {S':Nat->Prop} (hS:∀b,S b->S' b) {x:AV}{v:Value} (h:RC S w x v):RC S' w x v:=h.mono hS λ_ _=>rfl
theorem rF (hok:HOK S w ρ κ h) {S':Nat->Prop} (hS:∀b,S b->S' b) {E:List Name}{ρ':Name->Option Nat}{κ':Name->Nat}{h':Name->Option Blk}
  (hE:∀j n,E[j]? = some n->ρ' (.b j)=ρ n∧κ' (.b j)=κ n∧∀b',h' (.b j)=some b'->∃b,h n=some b∧b.same b') :
  ∀ (m:Nat) (c:Bool) (x x':AV) (L:List Name) (v:Value),conv h m E c x=some (x',L)->(∀n,n∈L->∀y,ρ n=some y->S' y)->RV S w ρ κ h x v->
   (c=false->RV S' w ρ' κ' h' x' v)∧(c=true->RC S' w x' v)∧∀n,n∈L->n∉E∧(h n).isSome:=by
 intro m
 induction m with
 |zero=>intro c x x' L v hc;simp[conv] at hc
 | succ m ih =>
  intro c x x' L v hc hL hx
  have lists:∀(cs cs':List AV) (L:List Name) (vs:Array Value),bO (conv h m E c) cs=some (cs',L)->(∀n,n∈L->∀y,ρ n=some y->S' y)->(∀j,j<cs.length->RV S w ρ κ h (cs.getD j .junk) (vs.getD j undef))->
    cs'.length=cs.length∧(c=false->∀j,j<cs'.length->RV S' w ρ' κ' h' (cs'.getD j .junk) (vs.getD j undef))∧(c=true->∀j,j<cs'.length->RC S' w (cs'.getD j .junk) (vs.getD j undef))∧∀n,n∈L->n∉E∧(h n).isSome:=by
   intro cs
   induction cs with
   | nil =>
    grind [bO]
   | cons x r ihr =>
    intro cs' L vs hm hL hr
    simp only[bO] at hm
    split at hm
    .rename_i y L1 ys L2 h1 h2
     simp only[Option.some.injEq,Prod.mk.injEq] at hm
     obtain⟨rfl,rfl⟩:=hm
     have g1:=ih c x y L1 (vs.getD 0 undef) h1 (λn hn=>hL n (List.mem_append_left _ hn)) (by simpa using hr 0 (by simp))
     have g2:=ihr ys L2 (vs.extract 1 vs.size) h2 (λn hn=>hL n (List.mem_append_right _ hn)) (λj hj=>by
       have:=hr (j+1) (by simpa using hj)
       have e:(vs.extract 1 vs.size).getD j undef=vs.getD (j+1) undef:=by
         simp[Array.getElem?_extract,Nat.add_comm 1 j]
         all_goals grind
       rw[e];simpa using this)
     have e:∀j,(vs.extract 1 vs.size).getD j undef=vs.getD (j+1) undef:=by
      intro j
      simp[Array.getElem?_extract,Nat.add_comm 1 j]
      split
      .rfl
      .simp[Array.getElem?_eq_none (show vs.size<=j+1 by omega)]
     refine⟨by simp[g2.1],λhc j hj=>?_,λhc j hj=>?_,λn hn=>?_⟩
     .cases j with
      |zero=>simpa using g1.1 hc
      |succ j=>have:=g2.2.1 hc j (by simpa using hj);rw[e] at this;simpa using this
     .cases j with
      |zero=>simpa using g1.2.1 hc
      |succ j=>have:=g2.2.2.1 hc j (by simpa using hj);rw[e] at this;simpa using this
     all_goals grind
    .cases hm
  have clos:∀x':AV,RC S' w x' v->(c=false->RV S' w ρ' κ' h' x' v)∧(c=true->RC S' w x' v):=λx' hr=>⟨λ_=>.clo hr,λ_=>hr⟩
  cases x with
  | v y =>
   simp only[conv,Option.some.injEq,Prod.mk.injEq] at hc
   obtain⟨rfl,rfl⟩:=hc
   obtain rfl:=aZ hx
   exact⟨(clos _ (.v _)).1,(clos _ (.v _)).2,by simp⟩
  | sl k l =>
   grind [conv,aA5,RV]
  | ro l =>
   grind [conv,aA5,RV]
  | junk =>
   simp only[conv] at hc
   all_goals grind [RV]
  | fn f cs =>
   simp only[conv] at hc
   cases hm:bO (conv h m E c) cs with
   |none=>rw[hm] at hc;cases hc
   | some p =>
    obtain⟨cs',L'⟩:=p
    rw[hm] at hc
    simp only[Option.map_some,Option.some.injEq,Prod.mk.injEq] at hc
    obtain⟨rfl,rfl⟩:=hc
    obtain⟨vs,rfl,hl,hr⟩:=xN hx
    obtain⟨g1,g2,g3,g4⟩:=lists cs cs' L' vs hm hL hr
    exact⟨λhc=>.fn _ _ _ (by omega) (g2 hc),λhc=>.fn _ _ _ (by omega) (g3 hc),g4⟩
  | agg cs =>
   simp only[conv] at hc
   cases hm:bO (conv h m E c) cs with
   |none=>rw[hm] at hc;cases hc
   | some p =>
    obtain⟨cs',L'⟩:=p
    rw[hm] at hc
    simp only[Option.map_some,Option.some.injEq,Prod.mk.injEq] at hc
    obtain⟨rfl,rfl⟩:=hc
    obtain⟨vs,rfl,hl,hr⟩:=lC hx
    obtain⟨g1,g2,g3,g4⟩:=lists cs cs' L' vs hm hL hr
    exact⟨λhc=>.agg _ _ (by omega) (g2 hc),λhc=>.agg _ _ (by omega) (g3 hc),g4⟩
  | tup cs =>
   simp only[conv] at hc
   cases hm:bO (conv h m E c) cs with
   |none=>rw[hm] at hc;cases hc
   | some p =>
    obtain⟨cs',L'⟩:=p
    rw[hm] at hc
    simp only[Option.map_some,Option.some.injEq,Prod.mk.injEq] at hc
    obtain⟨rfl,rfl⟩:=hc
    obtain⟨vs,rfl,hl,hr⟩:=wJ hx
    obtain⟨g1,g2,g3,g4⟩:=lists cs cs' L' vs hm hL hr
    exact⟨λhc=>.tup _ _ (by omega) (g2 hc),λhc=>.tup _ _ (by omega) (g3 hc),g4⟩
  | loc n off len =>
   simp only[conv] at hc
   split at hc
   .rename_i j hj
    split at hc
    .cases hc
    .rename_i hcf
     simp only[Option.some.injEq,Prod.mk.injEq] at hc
     obtain⟨rfl,rfl⟩:=hc
     refine⟨λ_=>.loc _ _ _ _ λk l z hb=>?_,λh=>absurd h hcf,by simp⟩
     obtain⟨e1,e2,e3⟩:=hE j n (jR hj)
     obtain⟨b,hb',hs⟩:=e3 _ hb
     cases b with
     |var=>simp[Blk.same] at hs
     | arr k' l' z' =>
      simp only[Blk.same] at hs
      obtain⟨rfl,hll⟩:=hs
      have:=d9 hx _ _ _ hb'
      rw[e1,e2,←hll];exact this
   .rename_i hj
    split at hc
    .rename_i k l z hb
     simp only[Option.some.injEq,Prod.mk.injEq] at hc
     obtain⟨rfl,rfl⟩:=hc
     have hro:kG k h (.loc n off len)=some ((l.drop off).take len):=by simp[kG,hb]
     obtain⟨base,cap,rfl,hk,b,o,hb1,hb2⟩:=aBU hok hx hro
     obtain⟨hle,base',cap',hv',hlc,hcap,hbase,_⟩:=d9 hx _ _ _ hb
     simp only[Value.slice.injEq] at hv'
     obtain⟨rfl,hlen,rfl⟩:=hv'
     have:RC S' w (.sl k ((l.drop off).take len)) (.slice base ((l.drop off).take len).length cap):=by
      refine .sl k _ base cap b o (λm=>(w.cell? ⟨b,o+m,none⟩).getD undef) (λhne=>?_) (λi j hi hj=>?_) (λi j hi hj=>?_) (λi j hi hj=>?_) hk ⟨by omega,hcap⟩
      .grind [Nat.eq_zero_or_pos]
      all_goals
       obtain⟨u,hu,ho,hr⟩:=hb2 i j hi hj
       simp only[hu,Option.getD_some]
      .exact ho
      .exact hr.mono hS λ_ _=>rfl
     all_goals grind [q9]
    .cases hc
  | ptr n e o =>
   simp only[conv] at hc
   split at hc
   .rename_i j hj
    split at hc
    .cases hc
    .rename_i hcf
     simp only[Option.some.injEq,Prod.mk.injEq] at hc
     obtain⟨rfl,rfl⟩:=hc
     refine⟨λ_=>.ptr _ _ _ _ λb' hb=>?_,λh=>absurd h hcf,by simp⟩
     obtain⟨e1,e2,e3⟩:=hE j n (jR hj)
     obtain⟨b,hb',hs⟩:=e3 _ hb
     obtain⟨y,hy,hv⟩:=bZ hx _ hb'
     all_goals grind [Blk.same_k]
   .rename_i hj
    split at hc
    .rename_i k l z hb
     simp only[Option.some.injEq,Prod.mk.injEq] at hc
     obtain⟨rfl,rfl⟩:=hc
     obtain⟨y,hy,rfl⟩:=bZ hx _ hb
     have hcells:=λj (hj:j<((Blk.arr k l z).row e).length)=>hok.cells hb hy (e:=e) (j:=j) hj
     simp only[Blk.row,Blk.k] at hcells
     have:RC S' w (.ro ((l.getD e []).drop o)) (.pointer (some ⟨y,e*k+o,none⟩)):=by
      refine .ro _ y _ (λm=>(w.cell? ⟨y,e*k+o+m,none⟩).getD undef) (hL n (by simp) _ hy) (λj hj=>?_) (λj hj=>?_) λj hj=>?_
      all_goals
       simp only[List.length_drop] at hj
       obtain⟨u,hu,ho,hr⟩:=hcells (o+j) (by omega)
       rw[←Nat.add_assoc] at hu
       simp only[hu,Option.getD_some]
      .exact ho
      .have e1:((l.getD e []).drop o).getD j .junk=(l.getD e []).getD (o+j) .junk:=by simp[List.getD]
       rw[e1]
       obtain⟨h0,⟨h1,h2⟩|⟨y',cs,T,fr,h1,h2,h3,h4,_,h5,h6,h7⟩⟩:=hok.blk n _ hb
       .rw[h1] at hy;cases hy
       .have he:e<l.length:=by
         grind
        have hjk:o+j<k:=by rw[←h0 e he];omega
        have hx7:=(h7 e (o+j) he hjk).2
        obtain rfl:=Option.some.inj (hy.symm.trans h1)
        have hlt:e*k+(o+j)<cs.size:=by
         have:(e+1)*k<=l.length*k:=Nat.mul_le_mul_right _ he
         rw[Nat.succ_mul] at this;omega
        have hu2:=cell_of_row h2 hlt
        rw[←Nat.add_assoc,hu] at hu2
        rw[Option.some.inj hu2,Nat.add_assoc]
        exact hx7.mono hS λ_ _=>rfl
     exact ⟨(clos _ this).1,(clos _ this).2,λm hm=>by
       simp only[List.mem_singleton] at hm
       subst hm
       exact⟨q9 hj,by simp[hb]⟩⟩
    .rename_i cs z hb
     cases hm:bO (conv h m E true) cs with
     |none=>rw[hm] at hc;cases hc
     | some p =>
      obtain⟨cs',L'⟩:=p
      rw[hm] at hc
      simp only[Option.map_some,Option.some.injEq,Prod.mk.injEq] at hc
      obtain⟨rfl,rfl⟩:=hc
      obtain⟨y,hy,rfl⟩:=bZ hx _ hb
      obtain⟨y',cur,T,fr,h1,h2,h3,h4,_,h5,h6,h7⟩:=hok.blk n _ hb
      obtain rfl:=Option.some.inj (hy.symm.trans h1)
      obtain⟨g1,g2⟩:=fD hm
      have key:∀j,j<cs.length->RC S' w (cs'.getD j .junk) (cur.getD j undef):=λj hj=>by
       obtain⟨Lj,g3,g4⟩:=g2 j hj
       all_goals grind
      have:RC S' w (.ro (cs'.drop o)) (.pointer (some ⟨y,e*(Blk.var cs z).k+o,none⟩)):=by
       simp only[Blk.k,Nat.mul_zero,Nat.zero_add]
       refine .ro _ y _ (λm=>cur.getD (o+m) undef) (hL n (by simp) _ hy) (λj hj=>?_) (λj hj=>?_) λj hj=>?_
       all_goals grind [cell_of_row]
      refine⟨(clos _ this).1,(clos _ this).2,λm' hm'=>?_⟩
      rcases List.mem_cons.1 hm' with rfl|hm'
      .exact⟨q9 hj,by simp[hb]⟩
      .-- it comes out of one of the cells
       have:∀(cs cs':List AV) (L:List Name),bO (conv h m E true) cs=some (cs',L)->∀n,n∈L->∃j,j<cs.length∧∃Lj,conv h m E true (cs.getD j .junk)=some (cs'.getD j .junk,Lj)∧n∈Lj:=by
        intro cs
        induction cs with
        |nil=>intro cs' L hm n hn;simp only[bO,Option.some.injEq,Prod.mk.injEq] at hm;obtain⟨_,rfl⟩:=hm;simp at hn
        | cons x r ihr =>
         intro cs' L hm n hn
         simp only[bO] at hm
         split at hm
         .rename_i y L1 ys L2 h1 h2
          simp only[Option.some.injEq,Prod.mk.injEq] at hm
          obtain⟨rfl,rfl⟩:=hm
          rcases List.mem_append.1 hn with hn|hn
          .exact⟨0,by simp,L1,by simpa using h1,hn⟩
          .obtain⟨j,hj,Lj,g,hg⟩:=ihr _ _ h2 n hn
           exact⟨j+1,by simpa using hj,Lj,by simpa using g,hg⟩
         .cases hm
       obtain⟨j,hj',Lj,g3,hg⟩:=this _ _ _ hm _ hm'
       have hL':∀n,n∈Lj->∀y,ρ n=some y->S' y:=by
        obtain⟨Lj',g3',g4'⟩:=g2 j hj'
        all_goals grind
       exact(ih true _ _ _ _ g3 hL' (h7 j hj').2).2.2 _ hg
    .cases hc
/-! ## renaming -/
mutual
def rn (φ:Name->Option Name):AV->AV
 |.loc n off len=>match φ n with|some m=>.loc m off len|none=>.junk
 |.ptr n e o=>match φ n with|some m=>.ptr m e o|none=>.junk
 |.fn f c=>.fn f (rnL φ c)
 |.agg c=>.agg (rnL φ c)
 |.tup c=>.tup (rnL φ c)
 |x=>x
def rnL (φ:Name->Option Name):List AV->List AV
 | []=>[]
 |x::r=>rn φ x::rnL φ r
end
theorem bN (φ:Name->Option Name):∀c:List AV,(rnL φ c).length=c.length
 | []=>rfl
 |x::r=>by simp[rnL,bN φ r]
theorem jA (φ:Name->Option Name):∀(c:List AV) (j:Nat),j<c.length->(rnL φ c).getD j .junk=rn φ (c.getD j .junk)
 | [],j,h=>by simp at h
 |x::r,0,_=>by simp[rnL]
 |x::r,j+1,h=>by simpa[rnL] using jA φ r j (by simpa using h)
def rnB (φ:Name->Option Name):Blk->Blk
 |.var c z=>.var (rnL φ c) z
 |b=>b
theorem tJ (φ:Name->Option Name) (b:Blk):b.same (rnB φ b):=by
 cases b<;>simp[rnB,Blk.same,bN]
theorem aFW {S:Nat->Prop}{w:World} (φ:Name->Option Name) {x:AV}{v:Value} (h:RC S w x v):RC S w (rn φ x) v:=by
 induction h with
 |v x=>simpa[rn] using .v x
 |sl k l base cap x off xs hb hc ho hr hk hcap ih=>simpa[rn] using .sl k l base cap x off xs hb hc ho hr hk hcap
 |ro c x off xs hS hc ho hr ih=>simpa[rn] using .ro c x off xs hS hc ho hr
 | fn f c vs hl hr ih =>
  simp only[rn]
  refine .fn _ _ _ (by rw[bN];exact hl) λj hj=>?_
  all_goals grind [bN,jA]
 | agg c vs hl hr ih =>
  simp only[rn]
  refine .agg _ _ (by rw[bN];exact hl) λj hj=>?_
  all_goals grind [bN,jA]
 | tup c vs hl hr ih =>
  simp only[rn]
  refine .tup _ _ (by rw[bN];exact hl) λj hj=>?_
  all_goals grind [bN,jA]
theorem RV.ren {S:Nat->Prop}{w:World}{ρ ρ':Name->Option Nat}{κ κ':Name->Nat}{h h':Name->Option Blk}{φ:Name->Option Name}
  (hφ:∀n m,φ n=some m->ρ' m=ρ n∧κ' m=κ n∧∀b',h' m=some b'->∃b,h n=some b∧b.same b') {x:AV}{v:Value} (hx:RV S w ρ κ h x v):RV S w ρ' κ' h' (rn φ x) v:=by
 induction hx with
 |junk v=>simpa[rn] using .junk v
 |clo hx=>exact .clo (aFW φ hx)
 | loc n off len v hv =>
  simp only[rn]
  split
  .rename_i m hm
   obtain⟨e1,e2,e3⟩:=hφ n m hm
   refine .loc _ _ _ _ λk l z hb=>?_
   obtain⟨b,hb',hs⟩:=e3 _ hb
   cases b with
   |var=>simp[Blk.same] at hs
   | arr k' l' z' =>
    simp only[Blk.same] at hs
    obtain⟨rfl,hll⟩:=hs
    have:=hv _ _ _ hb'
    rw[e1,e2,←hll];exact this
  .exact .junk _
 | ptr n e c v hv =>
  simp only[rn]
  split
  .rename_i m hm
   obtain⟨e1,e2,e3⟩:=hφ n m hm
   refine .ptr _ _ _ _ λb' hb=>?_
   obtain⟨b,hb',hs⟩:=e3 _ hb
   obtain⟨y,hy,hv⟩:=hv _ hb'
   all_goals grind [Blk.same_k]
  .exact .junk _
 | fn f c vs hl hr ih =>
  grind [rn,bN,jA,RV]
 | agg c vs hl hr ih =>
  grind [rn,bN,jA,RV]
 | tup c vs hl hr ih =>
  grind [rn,bN,jA,RV]
/-! ## values that hold no memory that stays -/
mutual
def flat:AV->Bool
 |.sl _ _=>false
 |.ro _=>false
 |.fn _ c=>iD c
 |.agg c=>iD c
 |.tup c=>iD c
 |_=>true
def iD:List AV->Bool
 | []=>true
 |x::r=>flat x&&iD r
end
theorem bB:∀{c:List AV}{j:Nat},iD c=true->flat (c.getD j .junk)=true
 | [],j,_=>by simp[flat]
 |x::r,0,h=>by simp[iD] at h;simpa using h.1
 |x::r,j+1,h=>by simp[iD] at h;simpa using bB (c:=r) (j:=j) h.2
theorem RC.flat {S S':Nat->Prop}{w:World}{x:AV}{v:Value} (h:RC S w x v) (hf:flat x=true):RC S' w x v:=by
 induction h with
 |v x=>exact .v x
 |sl=>simp[Vs.flat] at hf
 |ro=>simp[Vs.flat] at hf
 |fn f c vs hl hr ih=>simp only[Vs.flat] at hf;exact .fn _ _ _ hl λj hj=>ih j hj (bB hf)
 |agg c vs hl hr ih=>simp only[Vs.flat] at hf;exact .agg _ _ hl λj hj=>ih j hj (bB hf)
 |tup c vs hl hr ih=>simp only[Vs.flat] at hf;exact .tup _ _ hl λj hj=>ih j hj (bB hf)
theorem RV.flat {S S':Nat->Prop}{w:World}{ρ:Name->Option Nat}{κ:Name->Nat}{h:Name->Option Blk}{x:AV}{v:Value} (hx:RV S w ρ κ h x v) (hf:flat x=true):RV S' w ρ κ h x v:=by
 induction hx with
 |junk v=>exact .junk v
 |clo hx=>exact .clo (hx.flat hf)
 |loc n off len v hv=>exact .loc _ _ _ _ hv
 |ptr n e c v hv=>exact .ptr _ _ _ _ hv
 |fn f c vs hl hr ih=>simp only[Vs.flat] at hf;exact .fn _ _ _ hl λj hj=>ih j hj (bB hf)
 |agg c vs hl hr ih=>simp only[Vs.flat] at hf;exact .agg _ _ hl λj hj=>ih j hj (bB hf)
 |tup c vs hl hr ih=>simp only[Vs.flat] at hf;exact .tup _ _ hl λj hj=>ih j hj (bB hf)
def kV:Blk->Prop
 |.var c _=>iD c=true
 |.arr _ l _=>∀r,r∈l->iD r=true
/-! ## contracts -/
def Hn (l:List (Option Blk)):Name->Option Blk
 |.b j=>l.getD j none
 |.t _ _=>none
def nD (ρ:Name->Option Nat) (hin:List Blk) (x:Nat):Prop:=∃j,j<hin.length∧ρ (.b j)=some x
structure Post (S:Nat->Prop) (w:World) (ρ:Name->Option Nat) (κ:Name->Nat) (hin:List Blk) (S':Nat->Prop) (w':World) (ρ':Name->Option Nat) (κ':Name->Nat) (hout:List (Option Blk)):Prop where
 hok:HOK S' w' ρ' κ' (Hn hout)
 size:w.heap.size<=w'.heap.size
 old:∀b,b<w.heap.size->¬nD ρ hin b->w'.heap[b]? = w.heap[b]?
 sub:∀b,S b->S' b
 new:∀b,S' b->S b∨w.heap.size<=b∨nD ρ hin b
 mine:∀j x,(hout.getD j none).isSome->ρ' (.b j)=some x->w.heap.size<=x∨nD ρ hin x
 out:w'.os=w.os∧w'.output=w.output
 keep:∀j b',j<hin.length->hout.getD j none=some b'->ρ' (.b j)=ρ (.b j)∧κ' (.b j)=κ (.b j)∧∃b,hin[j]? = some b∧b.same b'
def lH (P:Program) (f:FuncId):Prop:=∃fn b,P.funcs[f]? = some fn∧fn.body=some b∧fn.name≠"runtime.NumGoroutine"
def Fn (P:Program) (f:FuncId) (hin:List Blk) (args:List AV) (r:AV) (hout:List (Option Blk)):Prop:=
 lH P f∧∀(S:Nat->Prop) (w:World) (ρ:Name->Option Nat) (κ:Name->Nat) (vs:Array Value),HOK S w ρ κ (Hn (hin.map some))->(∀b,b∈hin->b.fz=false)->vs.size=args.length->
  (∀j,j<args.length->RV S w ρ κ (Hn (hin.map some)) (args.getD j .junk) (vs.getD j undef))->
  Calls P f vs w λe w'=>∃v S' ρ' κ',e=.returned v∧Post S w ρ κ hin S' w' ρ' κ' hout∧RV S' w' ρ' κ' (Hn hout) r v
end
section
variable [Envs]
variable {P:Program}{C:Ctx}{σ:FSt}{a:Act}{w:World}{S:Nat->Prop}{ρ:Name->Option Nat}{κ:Name->Nat}{h:Name->Option Blk}
def gL (h:Name->Option Blk) (E:List Name):Blk->Option (Blk×List Name)
 |.var c z=>(bO (conv h 8 E false) c).map λp=>(.var p.1 z,p.2)
 |.arr k l z=>some (.arr k l z,[])
def oD (h:Name->Option Blk) (E:List Name):List Name->Option (List Blk×List Name)
 | []=>some ([],[])
 | n::r=>match(h n).bind (gL h E),oD h E r with
  |some (b,L),some (bs,L')=>if b.fz then none else some (b::bs,L++L')
  |_,_=>none
theorem oV (h:Name->Option Blk) (E:List Name):∀{B:List Name}{bs:List Blk}{L:List Name},oD h E B=some (bs,L)->bs.length=B.length∧
  (∀(j:Nat) (n:Name),B[j]? = some n->∃b b' Lj,h n=some b∧gL h E b=some (b',Lj)∧bs[j]? = some b'∧b'.fz=false∧∀m,m∈Lj->m∈L)∧
  ∀m,m∈L->∃(n:Name) (b b':Blk) (Lj:List Name),n∈B∧h n=some b∧gL h E b=some (b',Lj)∧m∈Lj
 | [],bs,L,hb=>by
  grind [oD]
 | n::r,bs,L,hb=>by
  simp only[oD] at hb
  split at hb
  .rename_i b' L1 bs' L2 h1 h2
   split at hb
   .cases hb
   .rename_i hz
    simp only[Option.some.injEq,Prod.mk.injEq] at hb
    obtain⟨rfl,rfl⟩:=hb
    obtain⟨h3,h4,h5⟩:=oV h E h2
    cases hn:h n with
    |none=>rw[hn] at h1;cases h1
    | some b =>
     rw[hn] at h1
     refine⟨by simp[h3],λj m hj=>?_,λm hm=>?_⟩
     .cases j with
      | zero =>
       simp only[List.getElem?_cons_zero,Option.some.injEq] at hj
       subst hj
       exact⟨b,b',L1,hn,h1,by simp,by simpa using hz,λm hm=>List.mem_append_left _ hm⟩
      | succ j =>
       obtain⟨b,b2,Lj,g1,g2,g3,g4,g5⟩:=h4 j m (by simpa using hj)
       exact⟨b,b2,Lj,g1,g2,by simpa using g3,g4,λm hm=>List.mem_append_right _ (g5 m hm)⟩
     .rcases List.mem_append.1 hm with hm|hm
      .exact⟨n,b,b',L1,by simp,hn,h1,hm⟩
      .obtain⟨n',b1,b2,Lj,g1,g2,g3,g4⟩:=h5 m hm
       exact⟨n',b1,b2,Lj,List.mem_cons_of_mem _ g1,g2,g3,g4⟩
  .cases hb
def phi (B:List Name) (d n:Nat):Name->Option Name
 |.b j=>if j<B.length then B[j]? else if j<n then some (.t d j) else none
 |.t _ _=>none
def frz:Blk->Blk
 |.var c _=>.var c true
 |.arr k l _=>.arr k l true
theorem aEg (b:Blk):b.same (frz b):=by cases b<;>simp[frz,Blk.same]
def aft (h:Name->Option Blk) (B:List Name) (d:Nat) (hout:List (Option Blk)) (fz:Bool) (L:List Name) (m:Name):Option Blk:=
 match gB B m with
 |some j=>(hout.getD j none).map (rnB (phi B d hout.length))
 | none=>match m with
  |.t d' j=>if d'=d∧B.length<=j∧j<hout.length then(hout.getD j none).map (rnB (phi B d hout.length)) else if fz=true∧m∈L then(h m).map frz else h m
  |.b _=>if fz=true∧m∈L then(h m).map frz else h m
theorem nU:∀{B:List Name}{j:Nat}{n:Name},B.Nodup->B[j]? = some n->gB B n=some j
 | [],j,n,_,h=>by simp at h
 |m::r,0,n,_,h=>by simp only[List.getElem?_cons_zero,Option.some.injEq] at h;simp[gB,h]
 | m::r,j+1,n,hnd,h=>by
  simp only[List.getElem?_cons_succ] at h
  have hne:¬m=n:=by
   grind
  simp[gB,hne,nU (List.nodup_cons.1 hnd).2 h]
def aED (P:Program) (σ:FSt) (d:Nat) (fv:AV) (xs:List AV) (B:List Name) (K:FSt->AV->Prop):Prop:=
 match fv with
 | .fn f caps=>match bO (conv σ.h 8 B false) (xs++caps),oD σ.h B B with
  | some (ys,L1),some (hin,L2)=>∃r hout fz,Fn P f hin ys r hout∧(fz=false->(L1++L2=[]∨(flat r=true∧∀b,some b∈hout->kV b)))∧
    (∀j,B.length<=j->j<hout.length->dU (.t d j) σ)∧K ⟨σ.s,aft σ.h B d hout fz (L1++L2)⟩ (rn (phi B d hout.length) r)
  |_,_=>False
 |_=>False
theorem vX (hok:OK C σ a w S ρ κ) {d:Nat}{f:FuncId}{xs ys:List AV}{B L1 L2:List Name}{hin:List Blk}{r:AV}{hout:List (Option Blk)}{fz:Bool}{X:Value->World->(Nat->Prop)->(Name->Option Nat)->(Name->Nat)->Prop} (hnd:B.Nodup)
  (hys:bO (conv σ.h 8 B false) xs=some (ys,L1)) (hbs:oD σ.h B B=some (hin,L2)) (hflat:fz=false->(L1++L2=[]∨(flat r=true∧∀b,some b∈hout->kV b))) (hfresh:∀j,B.length<=j->j<hout.length->dU (.t d j) σ) {vs:Array Value}
  (hl:vs.size=xs.length) (hr:∀j,j<xs.length->RV S w ρ κ σ.h (xs.getD j .junk) (vs.getD j undef))
  (hfn:∀(S1:Nat->Prop) (ρ0:Name->Option Nat) (κ0:Name->Nat),HOK S1 w ρ0 κ0 (Hn (hin.map some))->(∀y,S y->S1 y)->(∀j n,B[j]? = some n->ρ0 (.b j)=ρ n∧κ0 (.b j)=κ n)->(∀b,b∈hin->b.fz=false)->vs.size=ys.length->(∀j,j<ys.length->RV S1 w ρ0 κ0 (Hn (hin.map some)) (ys.getD j .junk) (vs.getD j undef))->
    Calls P f vs w λe w'=>∃v S' ρ' κ',e=.returned v∧Post S1 w ρ0 κ0 hin S' w' ρ' κ' hout∧RV S' w' ρ' κ' (Hn hout) r v∧X v w' S' ρ' κ') :
  Calls P f vs w λe w'=>∃v S2 ρ2 κ2 S' ρ' κ',e=.returned v∧OK C ⟨σ.s,aft σ.h B d hout fz (L1++L2)⟩ a w' S2 ρ2 κ2∧RV S2 w' ρ2 κ2 (aft σ.h B d hout fz (L1++L2)) (rn (phi B d hout.length) r) v∧(∀y,S2 y->S' y)∧(∀j n,B[j]? = some n->ρ2 n=ρ' (.b j)∧κ2 n=κ' (.b j))∧X v w' S' ρ' κ':=by
 generalize hLd:L1++L2=L at hflat⊢
 have hL1:∀n,n∈L1->n∈L:=λn hn=>hLd ▸ List.mem_append_left _ hn
 have hL2:∀n,n∈L2->n∈L:=λn hn=>hLd ▸ List.mem_append_right _ hn
 obtain⟨hbl,hbj,hbm⟩:=oV _ _ hbs
 let S1:Nat->Prop:=λy=>S y∨∃n,n∈L∧ρ n=some y
 let ρ0:Name->Option Nat:=λm=>match m with|.b j=>(B[j]?).bind ρ|.t _ _=>none
 let κ0:Name->Nat:=λm=>match m with|.b j=>((B[j]?).map κ).getD 0|.t _ _=>0
 have hS1:∀y,S y->S1 y:=λy hy=>.inl hy
 have hE:∀j n,B[j]? = some n->ρ0 (.b j)=ρ n∧κ0 (.b j)=κ n∧∀b',Hn (hin.map some) (.b j)=some b'->∃b,σ.h n=some b∧b.same b':=by
  intro j n hj
  refine⟨by simp[ρ0,hj],by simp[κ0,hj],λb' hb'=>?_⟩
  obtain⟨b,b2,Lj,g1,g2,g3,_,_⟩:=hbj j n hj
  have:b'=b2:=by
   simp only[Hn,List.getD,List.getElem?_map,g3,Option.map_some,Option.getD_some,Option.some.injEq] at hb'
   exact hb'.symm
  subst this
  refine⟨b,g1,?_⟩
  cases b with
  | var c z =>
   simp only[gL] at g2
   cases hm:bO (conv σ.h 8 B false) c with
   |none=>rw[hm] at g2;cases g2
   | some p =>
    rw[hm] at g2
    simp only[Option.map_some,Option.some.injEq,Prod.mk.injEq] at g2
    rw[←g2.1]
    exact((fD hm).1).symm
  | arr k l z =>
   simp only[gL,Option.some.injEq,Prod.mk.injEq] at g2
   rw[←g2.1];exact Blk.same_refl _
 have spec:=rF hok.hok hS1 (κ':=κ0) hE 8
 have hlent:∀n,n∈L->n∉B∧(σ.h n).isSome:=by
  intro n hn
  have hLS:∀m,m∈L->∀y,ρ m=some y->S1 y:=λm hm y hy=>.inr ⟨m,hm,hy⟩
  rw[←hLd] at hn
  rcases List.mem_append.1 hn with hn|hn
  .obtain⟨j,hj,Lj,g1,g2⟩:=tX hys n hn
   obtain⟨Lj',g1',g3⟩:=(fD hys).2 j hj
   rw[g1] at g1'
   simp only[Option.some.injEq,Prod.mk.injEq,true_and] at g1'
   subst g1'
   exact(spec false _ _ _ _ g1 (λm hm=>hLS m (hL1 m (g3 m hm))) (hr j hj)).2.2 n g2
  .obtain⟨n',b,b',Lj,g1,g2,g3,g4⟩:=hbm n hn
   cases b with
   | arr k l z =>
    simp only[gL,Option.some.injEq,Prod.mk.injEq] at g3
    rw[←g3.2] at g4;simp at g4
   | var c z =>
    simp only[gL] at g3
    cases hm:bO (conv σ.h 8 B false) c with
    |none=>rw[hm] at g3;cases g3
    | some p =>
     obtain⟨c',Lp⟩:=p
     rw[hm] at g3
     simp only[Option.map_some,Option.some.injEq,Prod.mk.injEq] at g3
     obtain⟨_,rfl⟩:=g3
     obtain⟨j,hj,Lj,g5,g6⟩:=tX hm n g4
     obtain⟨x,cs,T,fr,q1,q2,q3,q4,_,q5,q6,q7⟩:=hok.hok.blk n' _ g2
     obtain⟨i,hi⟩:=List.mem_iff_getElem?.1 g1
     obtain⟨b1,b2,Lb,p1,p2,p3,p4,p5⟩:=hbj i n' hi
     rw[g2] at p1
     obtain rfl:=Option.some.inj p1
     simp only[gL,hm,Option.map_some,Option.some.injEq,Prod.mk.injEq] at p2
     obtain⟨_,rfl⟩:=p2
     obtain⟨Lj',g5',g7⟩:=(fD hm).2 j hj
     rw[g5] at g5'
     simp only[Option.some.injEq,Prod.mk.injEq,true_and] at g5'
     subst g5'
     exact(spec false _ _ _ _ g5 (λm hm=>hLS m (hL2 m (p5 m (g7 m hm)))) (q7 j hj).2).2.2 n g6
 have hLS:∀m,m∈L->∀y,ρ m=some y->S1 y:=λm hm y hy=>.inr ⟨m,hm,hy⟩
 have hBS:∀n b,n∈B->σ.h n=some b->b.fz=false->∀x,ρ n=some x->¬S1 x:=by
  rintro n b hn hb hz x hx (hs|⟨m,hm,hmx⟩)
  .have:=hok.hok.blk n b hb
   cases b with
   | var c z =>
    obtain⟨y,_,_,_,g1,_,_,g2,_⟩:=this
    obtain rfl:=Option.some.inj (hx.symm.trans g1)
    exact g2 hz hs
   | arr k l z =>
    obtain⟨_,⟨g1,_⟩|⟨y,_,_,_,g1,_,_,g2,_⟩⟩:=this
    .rw[hx] at g1;cases g1
    .obtain rfl:=Option.some.inj (hx.symm.trans g1)
     exact g2 hz hs
  .have:=hok.hok.inj m n x (hlent m hm).2 (by simp[hb]) hmx hx
   subst this
   exact(hlent m hm).1 hn
 have hBfz:∀(j:Nat) (n:Name),B[j]? = some n->∃b,σ.h n=some b∧b.fz=false:=by
  intro j n hj
  obtain⟨b,b',Lj,g1,g2,g3,g4,g5⟩:=hbj j n hj
  refine⟨b,g1,?_⟩
  cases b with
  | var c z =>
   simp only[gL] at g2
   cases hm:bO (conv σ.h 8 B false) c with
   |none=>rw[hm] at g2;cases g2
   | some p =>
    rw[hm] at g2
    simp only[Option.map_some,Option.some.injEq,Prod.mk.injEq] at g2
    rw[←g2.1] at g4;exact g4
  | arr k l z =>
   simp only[gL,Option.some.injEq,Prod.mk.injEq] at g2
   rw[←g2.1] at g4;exact g4
 have hHn:∀j b',Hn (hin.map some) (.b j)=some b'->∃n b Lj,B[j]? = some n∧σ.h n=some b∧gL σ.h B b=some (b',Lj)∧(∀m,m∈Lj->m∈L2)∧b'.fz=false:=by
  intro j b' hb'
  have hj:j<B.length:=by
   rw[←hbl]
   rcases Nat.lt_or_ge j hin.length with h'|h'
   .exact h'
   .simp[Hn,List.getD,List.getElem?_eq_none h'] at hb'
  obtain⟨b,b2,Lj,g1,g2,g3,g4,g5⟩:=hbj j B[j] (by simp[hj])
  have:b'=b2:=by
   simp only[Hn,List.getD,List.getElem?_map,g3,Option.map_some,Option.getD_some,Option.some.injEq] at hb'
   exact hb'.symm
  subst this
  exact⟨B[j],b,Lj,by simp[hj],g1,g2,g5,g4⟩
 have hok1:HOK S1 w ρ0 κ0 (Hn (hin.map some)):=by
  refine⟨λm b' hb'=>?_,λm m' x h1 h2 h3 h4=>?_,?_,hok.hok.env.mono (λ_ h=>.inl h) λ_ _=>rfl⟩
  .cases m with
   |t=>simp[Hn] at hb'
   | b j =>
    obtain⟨n,b,Lj,g0,g1,g2,g5,g4⟩:=hHn j b' hb'
    obtain⟨e1,e2,_⟩:=hE j n g0
    have hb:=hok.hok.blk n b g1
    have hnS:=hBS n b (List.mem_of_getElem? g0) g1
    cases b with
    | var c z =>
     simp only[gL] at g2
     cases hm:bO (conv σ.h 8 B false) c with
     |none=>rw[hm] at g2;cases g2
     | some p =>
      obtain⟨c',Lp⟩:=p
      rw[hm] at g2
      simp only[Option.map_some,Option.some.injEq,Prod.mk.injEq] at g2
      obtain⟨rfl,rfl⟩:=g2
      obtain⟨x,cs,T,fr,q1,q2,q3,q4,q4',q5,q6,q7⟩:=hb
      obtain⟨l1,l2⟩:=fD hm
      refine⟨x,cs,T,fr,by rw[e1];exact q1,q2,q3,λhz=>hnS hz x q1,λhz=>.inl (q4' hz),by rw[e2];exact q5,by omega,λi hi=>⟨(q7 i (by omega)).1,?_⟩⟩
      obtain⟨Li,l3,l4⟩:=l2 i (by omega)
      exact(spec false _ _ _ _ l3 (λm hm=>hLS m (hL2 m (g5 m (l4 m hm)))) (q7 i (by omega)).2).1 rfl
    | arr k l z =>
     simp only[gL,Option.some.injEq,Prod.mk.injEq] at g2
     obtain⟨rfl,rfl⟩:=g2
     obtain⟨q0,⟨q1,q2⟩|⟨x,cs,T,fr,q1,q2,q3,q4,q4',q5,q6,q7⟩⟩:=hb
     .exact⟨q0,.inl ⟨by rw[e1];exact q1,q2⟩⟩
     .exact⟨q0,.inr ⟨x,cs,T,fr,by rw[e1];exact q1,q2,q3,λhz=>hnS hz x q1,λhz=>.inl (q4' hz),by rw[e2];exact q5,q6,λi j hi hj=>⟨(q7 i j hi hj).1,(q7 i j hi hj).2.mono hS1 λ_ _=>rfl⟩⟩⟩
  .cases m with
   |t=>simp[Hn] at h1
   | b j =>
    cases m' with
    |t=>simp[Hn] at h2
    | b j' =>
     obtain⟨b1,hb1⟩:=Option.isSome_iff_exists.1 h1
     obtain⟨b2,hb2⟩:=Option.isSome_iff_exists.1 h2
     obtain⟨n,b,_,g0,g1,_⟩:=hHn j b1 hb1
     obtain⟨n',b',_,g0',g1',_⟩:=hHn j' b2 hb2
     rw[(hE j n g0).1] at h3
     rw[(hE j' n' g0').1] at h4
     obtain rfl:=hok.hok.inj n n' x (by simp[g1]) (by simp[g1']) h3 h4
     congr 1
     have e1:=nU hnd g0
     have e2:=nU hnd g0'
     rw[e1] at e2;exact Option.some.inj e2
  .rintro y (hy|⟨n,hn,hy⟩)
   .exact hok.hok.dom y hy
   .exact hok.hok.lt (hlent n hn).2 hy
 have hmut:∀x,nD ρ0 hin x↔∃n,n∈B∧ρ n=some x:=by
  intro x
  constructor
  .rintro⟨j,hj,hx⟩
   have hjB:j<B.length:=by omega
   refine⟨B[j],by simp,?_⟩
   simpa[ρ0,hjB] using hx
  .rintro⟨n,hn,hx⟩
   obtain⟨j,hj⟩:=List.mem_iff_getElem?.1 hn
   refine⟨j,?_,by simp[ρ0,hj,hx]⟩
   rw[hbl]
   exact(List.getElem?_eq_some_iff.1 hj).1
 obtain⟨hyl,hyj⟩:=fD hys
 have hcall:=hfn S1 ρ0 κ0 hok1 hS1 (λj n hj=>⟨(hE j n hj).1,(hE j n hj).2.1⟩) (λb hb=>by
   obtain⟨j,hj⟩:=List.mem_iff_getElem?.1 hb
   have:Hn (hin.map some) (.b j)=some b:=by simp[Hn,List.getD,hj]
   obtain⟨_,_,_,_,_,_,_,hz⟩:=hHn j b this
   exact hz) (by omega) (λj hj=>by
   obtain⟨Lj,l3,l4⟩:=hyj j (by omega)
   exact(spec false _ _ _ _ l3 (λm hm=>hLS m (hL1 m (l4 m hm))) (hr j (by omega))).1 rfl)
 refine hcall.mono ?_
 rintro e w' ⟨v,S',ρ',κ',rfl,hpost,hrv,hX⟩
 let S2:Nat->Prop:=λy=>S' y∧(fz=true∨¬∃n,n∈L∧ρ n=some y∧¬S y)
 let ρ2:Name->Option Nat:=λm=>match gB B m with
  |some j=>ρ' (.b j)
  | none=>match m with
   |.t d' j=>if d'=d∧B.length<=j∧j<hout.length then ρ' (.b j) else ρ (.t d' j)
   |.b i=>ρ (.b i)
 let κ2:Name->Nat:=λm=>match gB B m with
  |some j=>κ' (.b j)
  | none=>match m with
   |.t d' j=>if d'=d∧B.length<=j∧j<hout.length then κ' (.b j) else κ (.t d' j)
   |.b i=>κ (.b i)
 let h2:=aft σ.h B d hout fz L
 have hnew:∀j,B.length<=j->j<hout.length->gB B (.t d j)=none:=by
  intro j h1 h3
  cases hi:gB B (.t d j) with
  |none=>rfl
  | some i =>
   obtain⟨b,hb,_⟩:=hBfz i _ (jR hi)
   rw[(hfresh j h1 h3).1.1] at hb;cases hb
 have kB:∀(j:Nat) (m:Name),B[j]? = some m->ρ2 m=ρ' (.b j)∧κ2 m=κ' (.b j)∧h2 m=(hout.getD j none).map (rnB (phi B d hout.length)):=by
  intro j m hj
  have hi:=nU hnd hj
  simp only[ρ2,κ2,h2,aft,hi,and_self]
 have kN:∀j,B.length<=j->j<hout.length->ρ2 (.t d j)=ρ' (.b j)∧κ2 (.t d j)=κ' (.b j)∧h2 (.t d j)=(hout.getD j none).map (rnB (phi B d hout.length)):=by
  intro j h1 h3
  have hi:=hnew j h1 h3
  simp only[ρ2,κ2,h2,aft,hi,h1,h3,and_self,if_true]
 have kO:∀m,m∉B->(∀j,B.length<=j->j<hout.length->m≠.t d j)->ρ2 m=ρ m∧κ2 m=κ m∧h2 m=if fz=true∧m∈L then(σ.h m).map frz else σ.h m:=by
  intro m hm hn
  have hi:gB B m=none:=by
   cases hi:gB B m with
   |none=>rfl
   |some j=>exact absurd (List.mem_of_getElem? (jR hi)) hm
  cases m with
  |b i=>simp only[ρ2,κ2,h2,aft,hi,and_self]
  | t d' j =>
   have hc:¬(d'=d∧B.length<=j∧j<hout.length):=by
    rintro⟨rfl,h1,h3⟩;exact hn j h1 h3 rfl
   simp only[ρ2,κ2,h2,aft,hi,if_neg hc,and_self]
 have hφ:∀n m,phi B d hout.length n=some m->ρ2 m=ρ' n∧κ2 m=κ' n∧∀b',h2 m=some b'->∃b,Hn hout n=some b∧b.same b':=by
  intro n m hn
  cases n with
  |t=>simp[phi] at hn
  | b j =>
   have fin:ρ2 m=ρ' (.b j)∧κ2 m=κ' (.b j)∧h2 m=(hout.getD j none).map (rnB (phi B d hout.length)):=by
    simp only[phi] at hn
    split at hn
    .exact kB j m hn
    .split at hn
     .obtain rfl:=Option.some.inj hn
      exact kN j (by omega) (by omega)
     .cases hn
   refine⟨fin.1,fin.2.1,λb' hb'=>?_⟩
   rw[fin.2.2] at hb'
   cases hj:hout.getD j none with
   |none=>rw[hj] at hb';cases hb'
   | some b =>
    rw[hj] at hb'
    obtain rfl:=Option.some.inj hb'
    exact⟨b,hj,tJ _ _⟩
 have hnm:∀m,(∀j,B.length<=j->j<hout.length->m≠.t d j)->dK ρ ρ2 κ κ2 σ.h h2 m:=by
  intro m hn b' hb'
  by_cases hm:m∈B
  .obtain⟨j,hj⟩:=List.mem_iff_getElem?.1 hm
   obtain⟨e1,e2,e3⟩:=kB j m hj
   rw[e3] at hb'
   cases hjo:hout.getD j none with
   |none=>rw[hjo] at hb';cases hb'
   | some b =>
    rw[hjo] at hb'
    obtain rfl:=Option.some.inj hb'
    have hjl:j<hin.length:=by rw[hbl];exact(List.getElem?_eq_some_iff.1 hj).1
    obtain⟨k1,k2,bi,k3,k4⟩:=hpost.keep j b hjl hjo
    obtain⟨g1,g2,g3⟩:=hE j m hj
    obtain⟨b0,g4,g5⟩:=g3 bi (by simp[Hn,List.getD,k3])
    exact⟨by rw[e1,k1,g1],by rw[e2,k2,g2],b0,g4,Blk.same_trans (Blk.same_trans g5 k4) (tJ _ _)⟩
  .obtain⟨e1,e2,e3⟩:=kO m hm hn
   rw[e3] at hb'
   refine⟨e1,e2,?_⟩
   split at hb'
   .cases hb0:σ.h m with
    |none=>rw[hb0] at hb';cases hb'
    | some b0 =>
     rw[hb0] at hb'
     obtain rfl:=Option.some.inj hb'
     exact⟨b0,rfl,aEg _⟩
   .exact⟨b',hb',b'.same_refl⟩
 have hSS2:∀y,S y->S2 y:=λy hy=>⟨hpost.sub y (hS1 y hy),.inr λ⟨_,_,_,hn⟩=>hn hy⟩
 have hnotMut:∀y,S y->¬nD ρ0 hin y:=by
  intro y hy hm
  obtain⟨n,hn,hx⟩:=(hmut y).1 hm
  obtain⟨j,hj⟩:=List.mem_iff_getElem?.1 hn
  obtain⟨b,hb,hz⟩:=hBfz j n hj
  exact hBS n b hn hb hz y hx (.inl hy)
 have hSw:∀y,S y->w'.heap[y]? = w.heap[y]?:=λy hy=>hpost.old y (hok.hok.dom y hy) (hnotMut y hy)
 have hfl:fz=false->L≠[]->flat r=true∧∀b,some b∈hout->kV b:=by
  intro h1 h3
  rcases hflat h1 with h|h
  .exact absurd h h3
  .exact h
 have back:∀(x:AV) (u:Value),(fz=false->L≠[]->flat x=true)->RV S' w' ρ' κ' (Hn hout) x u->RV S2 w' ρ2 κ2 h2 (rn (phi B d hout.length) x) u:=by
  intro x u hfx hx
  have hx2:=hx.ren (φ:=phi B d hout.length) hφ
  by_cases hz:fz=true
  .exact hx2.mono (λy hy=>⟨hy,.inl hz⟩) (λ_ _=>rfl) λ_ _=>dK.refl _ _ _ _
  .by_cases hl:L=[]
   .exact hx2.mono (λy hy=>⟨hy,.inr (by rintro⟨n,hn,_⟩;rw[hl] at hn;cases hn)⟩) (λ_ _=>rfl) λ_ _=>dK.refl _ _ _ _
   .exact(hx.flat (S':=S2) (hfx (by simpa using hz) hl)).ren hφ
 have backC:∀(x:AV) (u:Value),(fz=false->L≠[]->flat x=true)->RC S' w' x u->RC S2 w' x u:=by
  intro x u hfx hx
  by_cases hz:fz=true
  .exact hx.mono (λy hy=>⟨hy,.inl hz⟩) λ_ _=>rfl
  .by_cases hl:L=[]
   .exact hx.mono (λy hy=>⟨hy,.inr (by rintro⟨n,hn,_⟩;rw[hl] at hn;cases hn)⟩) λ_ _=>rfl
   .exact hx.flat (hfx (by simpa using hz) hl)
 have hmineB:∀j x,(hout.getD j none).isSome->ρ' (.b j)=some x->w.heap.size<=x∨∃n,n∈B∧ρ n=some x:=by
  intro j x h1 h3
  rcases hpost.mine j x h1 h3 with h|h
  .exact .inl h
  .exact .inr ((hmut x).1 h)
 have hnoted:∀j x,(hout.getD j none).isSome->ρ' (.b j)=some x->¬∃n,n∈L∧ρ n=some x∧¬S x:=by
  rintro j x h1 h3 ⟨n,hn,hx,_⟩
  rcases hmineB j x h1 h3 with h|⟨n',hn',hx'⟩
  .exact absurd (hok.hok.lt (hlent n hn).2 hx) (by omega)
  .obtain⟨i,hi⟩:=List.mem_iff_getElem?.1 hn'
   obtain⟨b,hb,_⟩:=hBfz i n' hi
   obtain rfl:=hok.hok.inj n n' x (hlent n hn).2 (by simp[hb]) hx hx'
   exact(hlent n hn).1 hn'
 have blkC:∀j b m,hout.getD j none=some b->ρ2 m=ρ' (.b j)->κ2 m=κ' (.b j)->pF S2 w' ρ2 κ2 h2 m (rnB (phi B d hout.length) b):=by
  intro j b m hj e1 e2
  have hb:=hpost.hok.blk (.b j) b hj
  have hsome:(hout.getD j none).isSome:=by rw[hj];rfl
  have hfb:fz=false->L≠[]->kV b:=λh1 h3=>(hfl h1 h3).2 b (by
    refine List.mem_of_getElem? (i:=j) ?_
    cases ho:hout[j]? with
    |none=>simp[List.getD,ho] at hj
    |some o=>simp[List.getD,ho] at hj;rw[←hj])
  cases b with
  | var c z =>
   obtain⟨x,cs,T,fr,q1,q2,q3,q4,q4',q5,q6,q7⟩:=hb
   refine⟨x,cs,T,fr,by rw[e1];exact q1,q2,q3,λhz hs=>q4 hz hs.1,λhz=>⟨q4' hz,.inr (hnoted j x hsome q1)⟩,by rw[e2];exact q5,by rw[bN];exact q6,λi hi=>?_⟩
   rw[bN] at hi
   rw[jA _ _ _ hi]
   exact⟨(q7 i hi).1,back _ _ (λh1 h3=>bB (hfb h1 h3)) (q7 i hi).2⟩
  | arr k l z =>
   obtain⟨q0,⟨q1,q2⟩|⟨x,cs,T,fr,q1,q2,q3,q4,q4',q5,q6,q7⟩⟩:=hb
   .exact⟨q0,.inl ⟨by rw[e1];exact q1,q2⟩⟩
   .refine⟨q0,.inr ⟨x,cs,T,fr,by rw[e1];exact q1,q2,q3,λhz hs=>q4 hz hs.1,λhz=>⟨q4' hz,.inr (hnoted j x hsome q1)⟩,by rw[e2];exact q5,q6,λi j' hi hj'=>⟨(q7 i j' hi hj').1,backC _ _ (λh1 h3=>bB ?_) (q7 i j' hi hj').2⟩⟩⟩
    exact hfb h1 h3 _ (by simp[List.getD,hi])
 have live:∀m b',h2 m=some b'->(∃j b,hout.getD j none=some b∧b'=rnB (phi B d hout.length) b∧ρ2 m=ρ' (.b j)∧κ2 m=κ' (.b j)∧phi B d hout.length (.b j)=some m)∨
   (m∉B∧(∀j,B.length<=j->j<hout.length->m≠.t d j)∧ρ2 m=ρ m∧κ2 m=κ m∧∃b,σ.h m=some b∧b'=if fz=true∧m∈L then frz b else b):=by
  intro m b' hb'
  by_cases hm:m∈B
  .obtain⟨j,hj⟩:=List.mem_iff_getElem?.1 hm
   obtain⟨e1,e2,e3⟩:=kB j m hj
   rw[e3] at hb'
   cases hjo:hout.getD j none with
   |none=>rw[hjo] at hb';cases hb'
   | some b =>
    rw[hjo] at hb'
    exact .inl ⟨j,b,hjo,(Option.some.inj hb').symm,e1,e2,by simp only[phi,if_pos (List.getElem?_eq_some_iff.1 hj).1,hj]⟩
  .by_cases hn:∃j,B.length<=j∧j<hout.length∧m=.t d j
   .obtain⟨j,h1,h3,rfl⟩:=hn
    obtain⟨e1,e2,e3⟩:=kN j h1 h3
    rw[e3] at hb'
    cases hjo:hout.getD j none with
    |none=>rw[hjo] at hb';cases hb'
    | some b =>
     rw[hjo] at hb'
     exact .inl ⟨j,b,hjo,(Option.some.inj hb').symm,e1,e2,by simp[phi,h3,show ¬j<B.length by omega]⟩
   .have hn':∀j,B.length<=j->j<hout.length->m≠.t d j:=λj h1 h3 e=>hn ⟨j,h1,h3,e⟩
    obtain⟨e1,e2,e3⟩:=kO m hm hn'
    rw[e3] at hb'
    refine .inr ⟨hm,hn',e1,e2,?_⟩
    by_cases hc:fz=true∧m∈L
    .rw[if_pos hc] at hb'
     cases hb0:σ.h m with
     |none=>rw[hb0] at hb';cases hb'
     |some b0=>rw[hb0] at hb';exact⟨b0,rfl,by rw[if_pos hc];exact(Option.some.inj hb').symm⟩
    .rw[if_neg hc] at hb'
     exact⟨b',hb',by rw[if_neg hc]⟩
 have oldx:∀m b x,m∉B->σ.h m=some b->ρ m=some x->w'.heap[x]? = w.heap[x]?:=by
  intro m b x hm hb hx
  refine hpost.old x (hok.hok.lt (by simp[hb]) hx) λhmu=>?_
  obtain⟨n,hn,hx'⟩:=(hmut x).1 hmu
  obtain⟨i,hi⟩:=List.mem_iff_getElem?.1 hn
  obtain⟨b',hb',_⟩:=hBfz i n hi
  obtain rfl:=hok.hok.inj m n x (by simp[hb]) (by simp[hb']) hx hx'
  exact hm hn
 have hok2:HOK S2 w' ρ2 κ2 h2:=by
  refine⟨λm b' hb'=>?_,λm m' x h1 h3 h4 h5=>?_,λy hy=>hpost.hok.dom y hy.1,hok.hok.env.mono hSS2 hSw⟩
  .rcases live m b' hb' with⟨j,b,hj,rfl,e1,e2,_⟩|⟨hm,hn,e1,e2,b,hb,rfl⟩
   .exact blkC j b m hj e1 e2
   .have hb0:=hok.hok.blk m b hb
    have hmono:∀b2:Blk,((b2=b∧¬(fz=true∧m∈L))∨(b2=frz b∧fz=true∧m∈L))->(∀n,b2.has n=b.has n)->pF S2 w' ρ2 κ2 h2 m b2:=by
     intro b2 hb2 hhas
     have hnames:∀n,b.has n=true->dK ρ ρ2 κ κ2 σ.h h2 n:=λn hn'=>hnm n λj h1 h3 e=>by
      subst e
      rw[(hfresh j h1 h3).2.2 m b hb] at hn';cases hn'
     have hS2:∀x,ρ m=some x->S2 x->b2.fz=false->S x:=by
      rintro x hx ⟨hs,hs2⟩ hz
      rcases hpost.new x hs with(h|⟨n,hn',hx'⟩)|h|h
      .exact h
      .obtain rfl:=hok.hok.inj m n x (by simp[hb]) (hlent n hn').2 hx hx'
       rcases hs2 with h|h
       .rcases hb2 with⟨rfl,hc⟩|⟨rfl,_,_⟩
        .exact absurd ⟨h,hn'⟩ hc
        .cases b<;>simp[frz,Blk.fz] at hz
       .exact Classical.byContradiction λhns=>h ⟨m,hn',hx,hns⟩
      .exact absurd (hok.hok.lt (by simp[hb]) hx) (by omega)
      .obtain⟨n,hn',hx'⟩:=(hmut x).1 h
       obtain⟨i,hi⟩:=List.mem_iff_getElem?.1 hn'
       obtain⟨b'',hb'',_⟩:=hBfz i n hi
       obtain rfl:=hok.hok.inj m n x (by simp[hb]) (by simp[hb'']) hx hx'
       exact absurd hn' hm
     have hS2':∀x,ρ m=some x->b2.fz=true->(b.fz=true->S x)->S2 x:=by
      intro x hx hz hzS
      rcases hb2 with⟨rfl,_⟩|⟨rfl,hfz,hmL⟩
      .exact hSS2 x (hzS hz)
      .exact⟨hpost.sub x (.inr ⟨m,hmL,hx⟩),.inl hfz⟩
     cases b with
     | var c z =>
      obtain⟨x,cs,T,fr,q1,q2,q3,q4,q4',q5,q6,q7⟩:=hb0
      have:∃z2,b2=.var c z2:=by rcases hb2 with⟨rfl,_⟩|⟨rfl,_⟩<;>exact⟨_,rfl⟩
      obtain⟨z2,rfl⟩:=this
      refine⟨x,cs,T,fr,by rw[e1];exact q1,by rw[oldx m _ x hm hb q1];exact q2,q3,λhz hs=>?_,λhz=>hS2' x q1 hz q4',by rw[e2];exact q5,q6,λi hi=>⟨(q7 i hi).1,(q7 i hi).2.mono hSS2 hSw λn hn'=>hnames n ?_⟩⟩
      .have hs':=hS2 x q1 hs hz
       rcases hb2 with⟨hb2,_⟩|⟨hb2,_⟩
       .simp only[Blk.var.injEq,true_and] at hb2;subst hb2;exact q4 hz hs'
       .simp[frz] at hb2;rw[hb2] at hz;cases hz
      .cases hc:iL n c with
       |true=>simp[Blk.has,hc]
       |false=>rw[lT hc] at hn';cases hn'
     | arr k l z =>
      obtain⟨q0,hq⟩:=hb0
      have:∃z2,b2=.arr k l z2:=by rcases hb2 with⟨rfl,_⟩|⟨rfl,_⟩<;>exact⟨_,rfl⟩
      obtain⟨z2,rfl⟩:=this
      rcases hq with⟨q1,q2⟩|⟨x,cs,T,fr,q1,q2,q3,q4,q4',q5,q6,q7⟩
      .exact⟨q0,.inl ⟨by rw[e1];exact q1,q2⟩⟩
      .refine⟨q0,.inr ⟨x,cs,T,fr,by rw[e1];exact q1,by rw[oldx m _ x hm hb q1];exact q2,q3,λhz hs=>?_,λhz=>hS2' x q1 hz q4',by rw[e2];exact q5,q6,λi j hi hj=>⟨(q7 i j hi hj).1,(q7 i j hi hj).2.mono hSS2 hSw⟩⟩⟩
       have hs':=hS2 x q1 hs hz
       rcases hb2 with⟨hb2,_⟩|⟨hb2,_⟩
       .simp only[Blk.arr.injEq,true_and] at hb2;subst hb2;exact q4 hz hs'
       .simp[frz] at hb2;rw[hb2] at hz;cases hz
    by_cases hc:fz=true∧m∈L
    .rw[if_pos hc];exact hmono _ (.inr ⟨rfl,hc⟩) (by intro n;cases b<;>rfl)
    .rw[if_neg hc];exact hmono _ (.inl ⟨rfl,hc⟩) (λ_=>rfl)
  .obtain⟨b1,hb1⟩:=Option.isSome_iff_exists.1 h1
   obtain⟨b3,hb3⟩:=Option.isSome_iff_exists.1 h3
   have mixed:∀(j:Nat) (b:Blk) (m':Name) (b'':Blk),hout.getD j none=some b->ρ' (.b j)=some x->m'∉B->σ.h m'=some b''->ρ m'=some x->False:=by
    intro j b m' b'' hj hx hm' hb'' hx'
    rcases hmineB j x (by rw[hj];rfl) hx with h|⟨n,hn,hxn⟩
    .exact absurd (hok.hok.lt (by simp[hb'']) hx') (by omega)
    .obtain⟨i,hi⟩:=List.mem_iff_getElem?.1 hn
     obtain⟨bi,hbi,_⟩:=hBfz i n hi
     obtain rfl:=hok.hok.inj m' n x (by simp[hb'']) (by simp[hbi]) hx' hxn
     exact hm' hn
   rcases live m b1 hb1 with⟨j,b,hj,_,e1,_,e3⟩|⟨hm,_,e1,_,b,hb,_⟩<;>rcases live m' b3 hb3 with⟨j',b',hj',_,e1',_,e3'⟩|⟨hm',_,e1',_,b',hb',_⟩
   .rw[e1] at h4;rw[e1'] at h5
    have:=hpost.hok.inj (.b j) (.b j') x (by simp only[Hn];rw[hj];rfl) (by simp only[Hn];rw[hj'];rfl) h4 h5
    rw[this] at e3
    exact Option.some.inj (e3.symm.trans e3')
   .rw[e1] at h4;rw[e1'] at h5
    exact(mixed j b m' b' hj h4 hm' hb' h5).elim
   .rw[e1] at h4;rw[e1'] at h5
    exact(mixed j' b' m b hj' h5 hm hb h4).elim
   .rw[e1] at h4;rw[e1'] at h5
    exact hok.hok.inj m m' x (by simp[hb]) (by simp[hb']) h4 h5
 have hBmine:∀n x,n∈B->ρ n=some x->C.w0.heap.size<=x∨C.Mut x:=by
  intro n x hn hx
  obtain⟨i,hi⟩:=List.mem_iff_getElem?.1 hn
  obtain⟨b,hb,_⟩:=hBfz i n hi
  exact hok.mine n x (by simp[hb]) hx
 refine⟨v,S2,ρ2,κ2,S',ρ',κ',rfl,⟨hok.nt,hok.defers,λt=>?_,hok2,Nat.le_trans hok.size hpost.size,λy hy hm=>?_,λm x h1 h3=>?_,λy hy=>hSS2 y (hok.S0 y hy),λy hy=>?_,⟨hpost.out.1.trans hok.out.1,hpost.out.2.trans hok.out.2⟩,λj b' hb'=>?_⟩,back r v (λh1 h3=>(hfl h1 h3).1) hrv,λy hy=>hy.1,λj n hj=>⟨(kB j n hj).1,(kB j n hj).2.1⟩,hX⟩
 .refine(hok.slots t).mono hSS2 hSw λm hm=>hnm m λj h1 h3 e=>?_
  subst e
  rw[(hfresh j h1 h3).2.1 t] at hm;cases hm
 .rw[hpost.old y (Nat.lt_of_lt_of_le hy hok.size) λhmu=>?_]
  .exact hok.old y hy hm
  .obtain⟨n,hn,hx⟩:=(hmut y).1 hmu
   rcases hBmine n y hn hx with h|h
   .omega
   .exact hm h
 .obtain⟨b1,hb1⟩:=Option.isSome_iff_exists.1 h1
  rcases live m b1 hb1 with⟨j,b,hj,_,e1,_,_⟩|⟨hm,_,e1,_,b,hb,_⟩
  .rw[e1] at h3
   rcases hmineB j x (by rw[hj];rfl) h3 with h|⟨n,hn,hx⟩
   .exact .inl (Nat.le_trans hok.size h)
   .exact hBmine n x hn hx
  .rw[e1] at h3
   exact hok.mine m x (by simp[hb]) h3
 .rcases hpost.new y hy.1 with(h|⟨n,hn,hx⟩)|h|h
  .exact hok.Snew y h
  .rcases hok.mine n y (hlent n hn).2 hx with h|h
   .exact .inr (.inl h)
   .exact .inr (.inr h)
  .exact .inr (.inl (Nat.le_trans hok.size h))
  .obtain⟨n,hn,hx⟩:=(hmut y).1 h
   rcases hBmine n y hn hx with h|h
   .exact .inr (.inl h)
   .exact .inr (.inr h)
 .obtain⟨e1,e2,b0,h1,h2⟩:=hnm (.b j) (λ_ _ _=>by simp) b' hb'
  obtain⟨e3,e4,b1,h3,h4⟩:=hok.keep j b0 h1
  exact⟨e1.trans e3,e2.trans e4,b1,h3,Blk.same_trans h4 h2⟩
theorem aBD (hok:OK C σ a w S ρ κ) {d:Nat}{f:FuncId}{caps xs:List AV}{B:List Name}{K:FSt->AV->Prop} (hnd:B.Nodup) (hv:aED P σ d (.fn f caps) xs B K) {vs:Array Value}
  (hl:vs.size=(xs++caps).length) (hr:∀j,j<(xs++caps).length->RV S w ρ κ σ.h ((xs++caps).getD j .junk) (vs.getD j undef)) :
  Calls P f vs w λe w'=>∃σ' x v S' ρ' κ',e=.returned v∧K σ' x∧OK C σ' a w' S' ρ' κ'∧RV S' w' ρ' κ' σ'.h x v:=by
 simp only[aED] at hv
 split at hv
 .rename_i ys L1 hin L2 hys hbs
  obtain⟨r,hout,fz,hfn,hflat,hfresh,hK⟩:=hv
  refine(vX (X:=λ_ _ _ _ _=>True) hok hnd hys hbs hflat hfresh hl hr λS1 ρ0 κ0 h1 _ _ h4 h5 h6=>(hfn.2 S1 w ρ0 κ0 vs h1 h4 h5 h6).mono ?_).mono ?_
  .rintro e w' ⟨v,S',ρ',κ',g1,g2,g3⟩
   exact⟨v,S',ρ',κ',g1,g2,g3,trivial⟩
  .rintro e w' ⟨v,S2,ρ2,κ2,_,_,_,g1,g2,g3,_⟩
   exact⟨_,_,v,S2,ρ2,κ2,g1,hK,g2,g3⟩
 .exact hv.elim
end
end Go.Vs
