/- One operation: what it asks, and that the machine then does it. -/
import Derived.Test.YtkgeiaideklmoaaGreatVsI
import Derived.Laws.StructEq
import Derived.Laws.BytesString
import Derived.Laws.StandIn
set_option linter.all false
set_option maxHeartbeats 8000000
namespace Go.Vs
section
variable [Envs]
variable {P:Program}{C:Ctx}{σ:FSt}{a:Act}{w:World}{S:Nat→Prop}{ρ:Name→Option Nat}{κ:Name→Nat}{h:Name→Option Blk}
def jT:List Name→Name→Option Nat
 | [],_=>none
 |m::r,n=>if m=n then some 0 else(jT r n).map (· + 1)
theorem nP:∀{E:List Name}{n:Name}{j:Nat},jT E n=some j→E[j]? = some n
 | [],_,_,h=>by simp[jT] at h
 | m::r,n,j,h=>by
  simp only[jT] at h;split at h
  ·obtain rfl:=Option.some.inj h;simpa using ‹m=n›
  ·cases hr:jT r n with
   |none=>rw[hr] at h;simp at h
   | some i =>
    rw[hr] at h;simp only[Option.map_some,Option.some.injEq] at h;subst h;simpa using nP hr
theorem xN:∀{E:List Name}{n:Name},jT E n=none→n∉E
 | [],_,_=>by simp
 | m::r,n,h=>by
  simp only[jT] at h;split at h
  ·cases h
  ·rename_i F;have:jT r n=none:=by simpa using h
   simp only[List.mem_cons,not_or];exact⟨fun e=>F e.symm,xN this⟩
def eO (f:AV→Option (AV×List Name)):List AV→Option (List AV×List Name)
 | []=>some ([],[])
 | x::r=>match f x,eO f r with
  |some (y,L),some (ys,L')=>some (y::ys,L++L')
  |_,_=>none
theorem gD {f:AV→Option (AV×List Name)}:∀{c F:List AV}{L:List Name},eO f c=some (F,L)→F.length=c.length∧
  ∀j,j<c.length→∃G,f (c.getD j .junk)=some (F.getD j .junk,G)∧∀n,n∈G→n∈L
 | [],F,L,h=>by
  simp only[eO,Option.some.injEq,Prod.mk.injEq] at h;obtain⟨rfl,rfl⟩:=h;exact⟨rfl,by simp⟩
 | x::r,F,L,h=>by
  simp only[eO] at h;split at h
  ·rename_i y I ys L2 J h2;simp only[Option.some.injEq,Prod.mk.injEq] at h;obtain⟨rfl,rfl⟩:=h;obtain⟨M,O⟩:=gD h2;refine⟨by simp[M],fun j hj=>?_⟩;cases j with
   |zero=>exact⟨I,by simpa using J,fun n H=>List.mem_append_left _ H⟩
   | succ j =>
    obtain⟨G,U,Y⟩:=O j (by simpa using hj);exact⟨G,by simpa using U,fun n H=>List.mem_append_right _ (Y n H)⟩
  ·cases h
theorem zZ {f:AV→Option (AV×List Name)}:∀{cs F:List AV}{L:List Name},eO f cs=some (F,L)→∀n,n∈L→∃j,j<cs.length∧∃G,f (cs.getD j .junk)=some (F.getD j .junk,G)∧n∈G
 | [],F,L,hm,n,hn=>by simp only[eO,Option.some.injEq,Prod.mk.injEq] at hm;obtain⟨_,rfl⟩:=hm;simp at hn
 | x::r,F,L,hm,n,hn=>by
  simp only[eO] at hm;split at hm
  ·rename_i y H ys O I h2;simp only[Option.some.injEq,Prod.mk.injEq] at hm;obtain⟨rfl,rfl⟩:=hm;rcases List.mem_append.1 hn with hn|hn
   ·exact⟨0,by simp,H,by simpa using I,hn⟩
   ·obtain⟨j,M,G,g,J⟩:=zZ h2 n hn;exact⟨j+1,by simpa using M,G,by simpa using g,J⟩
  ·cases hm
def conv (h:Name→Option Blk):Nat→List Name→Bool→AV→Option (AV×List Name)
 |0,_,_,_=>none
 |_+1,_,c,.junk=>if c then none else some (.junk,[])
 | _+1,E,c,.loc n off len=>match jT E n with
  |some j=>if c then none else some (.loc (.b j) off len,[])
  | none=>match h n with
   |some (.arr k l _)=>some (.sl k ((l.drop off).take len),[n])
   |_=>none
 | m+1,E,c,.ptr n e o=>match jT E n with
  |some j=>if c then none else some (.ptr (.b j) e o,[])
  | none=>match h n with
   |some (.arr _ l _)=>some (.ro ((l.getD e []).drop o),[n])
   |some (.var cs _)=>(eO (conv h m E true) cs).map fun p=>(.ro (p.1.drop o),n::p.2)
   |none=>none
 |m+1,E,c,.fn f cs=>(eO (conv h m E c) cs).map fun p=>(.fn f p.1,p.2)
 |m+1,E,c,.agg cs=>(eO (conv h m E c) cs).map fun p=>(.agg p.1,p.2)
 |m+1,E,c,.tup cs=>(eO (conv h m E c) cs).map fun p=>(.tup p.1,p.2)
 |_+1,_,_,.v x=>some (.v x,[])
 |_+1,_,_,.sl k l=>some (.sl k l,[])
 |_+1,_,_,.ro c=>some (.ro c,[])
theorem aE4 (S:Nat→Prop) {S':Nat→Prop} (F:∀b,S b→S' b) {x:AV}{v:Value} (h:RC S w x v):RC S' w x v:=h.mono F fun _ _=>rfl
theorem nV (hd:HOK S w ρ κ h) {S':Nat→Prop} (hS:∀b,S b→S' b) {E:List Name}{ρ':Name→Option Nat}{κ':Name→Nat}{h':Name→Option Blk}
  (hE:∀j n,E[j]? = some n→ρ' (.b j)=ρ n∧κ' (.b j)=κ n∧∀b',h' (.b j)=some b'→∃b,h n=some b∧b.same b') :
  ∀ (m:Nat) (c:Bool) (x x':AV) (L:List Name) (v:Value),conv h m E c x=some (x',L)→(∀n,n∈L→∀y,ρ n=some y→S' y)→RV S w ρ κ h x v→
   (c=false→RV S' w ρ' κ' h' x' v)∧(c=true→RC S' w x' v)∧∀n,n∈L→n∉E∧(h n).isSome:=by
 intro m
 induction m with
 |zero=>intro c x x' L v F;simp[conv] at F
 | succ m ih =>
  intro c x x' L v F hL hx
  have U:∀(cs G:List AV) (L:List Name) (vs:Array Value),eO (conv h m E c) cs=some (G,L)→(∀n,n∈L→∀y,ρ n=some y→S' y)→(∀j,j<cs.length→RV S w ρ κ h (cs.getD j .junk) (vs.getD j undef))→
    G.length=cs.length∧(c=false→∀j,j<G.length→RV S' w ρ' κ' h' (G.getD j .junk) (vs.getD j undef))∧(c=true→∀j,j<G.length→RC S' w (G.getD j .junk) (vs.getD j undef))∧∀n,n∈L→n∉E∧(h n).isSome:=by
   intro cs
   induction cs with
   | nil =>
    intro G L vs H _ _;simp only[eO,Option.some.injEq,Prod.mk.injEq] at H;obtain⟨rfl,rfl⟩:=H;exact⟨rfl,by simp,by simp,by simp⟩
   | cons x r ihr =>
    intro G L vs H hL hr;simp only[eO] at H;split at H
    ·rename_i y L1 ys L2 h1 h2;simp only[Option.some.injEq,Prod.mk.injEq] at H;obtain⟨rfl,rfl⟩:=H;have g1:=ih c x y L1 (vs.getD 0 undef) h1 (fun n M=>hL n (List.mem_append_left _ M)) (by simpa using hr 0 (by simp))
     have g2:=ihr ys L2 (vs.extract 1 vs.size) h2 (fun n M=>hL n (List.mem_append_right _ M)) (fun j J=>by
       have:=hr (j+1) (by simpa using J)
       have e:(vs.extract 1 vs.size).getD j undef=vs.getD (j+1) undef:=by
         simp[Array.getElem?_extract,Nat.add_comm 1 j];split
         · rfl
         · simp[Array.getElem?_eq_none (show vs.size≤j+1 by omega)]
       rw[e];simpa using this)
     have e:∀j,(vs.extract 1 vs.size).getD j undef=vs.getD (j+1) undef:=by
      intro j;simp[Array.getElem?_extract,Nat.add_comm 1 j];split
      ·rfl
      ·simp[Array.getElem?_eq_none (show vs.size≤j+1 by omega)]
     refine⟨by simp[g2.1],fun F j J=>?_,fun F j J=>?_,fun n M=>?_⟩
     ·cases j with
      |zero=>simpa using g1.1 F
      |succ j=>have:=g2.2.1 F j (by simpa using J);rw[e] at this;simpa using this
     ·cases j with
      |zero=>simpa using g1.2.1 F
      |succ j=>have:=g2.2.2.1 F j (by simpa using J);rw[e] at this;simpa using this
     ·rcases List.mem_append.1 M with M|M
      ·exact g1.2.2 n M
      ·exact g2.2.2.2 n M
    ·cases H
  have I:∀x':AV,RC S' w x' v→(c=false→RV S' w ρ' κ' h' x' v)∧(c=true→RC S' w x' v):=fun x' hr=>⟨fun _=>.clo hr,fun _=>hr⟩;cases x with
  | v y =>
   simp only[conv,Option.some.injEq,Prod.mk.injEq] at F;obtain⟨rfl,rfl⟩:=F;obtain rfl:=bM hx;exact⟨(I _ (.v _)).1,(I _ (.v _)).2,by simp⟩
  | sl k l =>
   simp only[conv,Option.some.injEq,Prod.mk.injEq] at F;obtain⟨rfl,rfl⟩:=F;have:=aE4 S hS (sI hx);exact⟨(I _ this).1,(I _ this).2,by simp⟩
  | ro l =>
   simp only[conv,Option.some.injEq,Prod.mk.injEq] at F;obtain⟨rfl,rfl⟩:=F;have:=aE4 S hS (pF hx);exact⟨(I _ this).1,(I _ this).2,by simp⟩
  | junk =>
   simp only[conv] at F;split at F
   ·cases F
   ·rename_i ha;simp only[Option.some.injEq,Prod.mk.injEq] at F;obtain⟨rfl,rfl⟩:=F;exact⟨fun _=>.junk _,fun h=>absurd h ha,by simp⟩
  | fn f cs =>
   simp only[conv] at F;cases H:eO (conv h m E c) cs with
   |none=>rw[H] at F;cases F
   | some p =>
    obtain⟨G,L'⟩:=p;rw[H] at F;simp only[Option.map_some,Option.some.injEq,Prod.mk.injEq] at F;obtain⟨rfl,rfl⟩:=F;obtain⟨vs,rfl,hl,hr⟩:=aB1 hx;obtain⟨g1,g2,g3,g4⟩:=U cs G L' vs H hL hr;exact⟨fun F=>.fn _ _ _ (by omega) (g2 F),fun F=>.fn _ _ _ (by omega) (g3 F),g4⟩
  | agg cs =>
   simp only[conv] at F;cases H:eO (conv h m E c) cs with
   |none=>rw[H] at F;cases F
   | some p =>
    obtain⟨G,L'⟩:=p;rw[H] at F;simp only[Option.map_some,Option.some.injEq,Prod.mk.injEq] at F;obtain⟨rfl,rfl⟩:=F;obtain⟨vs,rfl,hl,hr⟩:=gL hx;obtain⟨g1,g2,g3,g4⟩:=U cs G L' vs H hL hr;exact⟨fun F=>.agg _ _ (by omega) (g2 F),fun F=>.agg _ _ (by omega) (g3 F),g4⟩
  | tup cs =>
   simp only[conv] at F;cases H:eO (conv h m E c) cs with
   |none=>rw[H] at F;cases F
   | some p =>
    obtain⟨G,L'⟩:=p;rw[H] at F;simp only[Option.map_some,Option.some.injEq,Prod.mk.injEq] at F;obtain⟨rfl,rfl⟩:=F;obtain⟨vs,rfl,hl,hr⟩:=nZ hx;obtain⟨g1,g2,g3,g4⟩:=U cs G L' vs H hL hr;exact⟨fun F=>.tup _ _ (by omega) (g2 F),fun F=>.tup _ _ (by omega) (g3 F),g4⟩
  | loc n off len =>
   simp only[conv] at F;split at F
   ·rename_i j J;split at F
    ·cases F
    ·rename_i ha;simp only[Option.some.injEq,Prod.mk.injEq] at F;obtain⟨rfl,rfl⟩:=F;refine⟨fun _=>.loc _ _ _ _ fun k l z O=>?_,fun h=>absurd h ha,by simp⟩;obtain⟨e1,e2,e3⟩:=hE j n (nP J);obtain⟨b,hp,hs⟩:=e3 _ O;cases b with
     |var=>simp[Blk.same] at hs
     | arr k' l' z' =>
      simp only[Blk.same] at hs;obtain⟨rfl,qi⟩:=hs;have:=iP hx _ _ _ hp;rw[e1,e2,←qi];exact this
   ·rename_i J;split at F
    ·rename_i k l z O;simp only[Option.some.injEq,Prod.mk.injEq] at F;obtain⟨rfl,rfl⟩:=F;have qk:pO k h (.loc n off len)=some ((l.drop off).take len):=by simp[pO,O]
     obtain⟨base,cap,rfl,hk,b,o,h8,qg⟩:=aGx hd hx qk;obtain⟨qs,qd,qo,qc,qr,h9,hq,_⟩:=iP hx _ _ _ O;simp only[Value.slice.injEq] at qc;obtain⟨rfl,qp,rfl⟩:=qc
     have:RC S' w (.sl k ((l.drop off).take len)) (.slice base ((l.drop off).take len).length cap):=by
      refine .sl k _ base cap b o (fun m=>(w.cell? ⟨b,o+m,none⟩).getD undef) (fun hw=>?_) (fun i j hi J=>?_) (fun i j hi J=>?_) (fun i j hi J=>?_) hk ⟨by omega,h9⟩
      ·refine⟨(h8 hw).1,?_⟩
       obtain ⟨y,hy,qm⟩:=hq (by
         rcases Nat.eq_zero_or_pos len with h0|h0
         · subst h0;simp at hw
         · exact h0)
       have:=(h8 hw).1.symm.trans qm;simp only[Option.some.injEq,Addr.mk.injEq] at this;obtain⟨rfl,_⟩:=this;exact hL n (by simp) _ hy
      all_goals
       obtain⟨u,hu,ho,hr⟩:=qg i j hi J;simp only[hu,Option.getD_some]
      ·exact ho
      ·exact hr.mono hS fun _ _=>rfl
     exact ⟨(I _ this).1,(I _ this).2,fun m H=>by
       simp only[List.mem_singleton] at H;subst H;exact⟨xN J,by simp[O]⟩⟩
    ·cases F
  | ptr n e o =>
   simp only[conv] at F;split at F
   ·rename_i j J;split at F
    ·cases F
    ·rename_i ha;simp only[Option.some.injEq,Prod.mk.injEq] at F;obtain⟨rfl,rfl⟩:=F;refine⟨fun _=>.ptr _ _ _ _ fun b' O=>?_,fun h=>absurd h ha,by simp⟩;obtain⟨e1,e2,e3⟩:=hE j n (nP J);obtain⟨b,hp,hs⟩:=e3 _ O;obtain⟨y,hy,hv⟩:=eD hx _ hp;exact⟨y,by rw[e1];exact hy,by rw[←Blk.same_k hs];exact hv⟩
   ·rename_i J;split at F
    ·rename_i k l z O;simp only[Option.some.injEq,Prod.mk.injEq] at F;obtain⟨rfl,rfl⟩:=F;obtain⟨y,hy,rfl⟩:=eD hx _ O;have Y:=fun j (J:j<((Blk.arr k l z).row e).length)=>hd.cells O hy (e:=e) (j:=j) J;simp only[Blk.row,Blk.k] at Y
     have:RC S' w (.ro ((l.getD e []).drop o)) (.pointer (some ⟨y,e*k+o,none⟩)):=by
      refine .ro _ y _ (fun m=>(w.cell? ⟨y,e*k+o+m,none⟩).getD undef) (hL n (by simp) _ hy) (fun j J=>?_) (fun j J=>?_) fun j J=>?_
      all_goals
       simp only[List.length_drop] at J;obtain⟨u,hu,ho,hr⟩:=Y (o+j) (by omega);rw[←Nat.add_assoc] at hu;simp only[hu,Option.getD_some]
      ·exact ho
      ·have e1:((l.getD e []).drop o).getD j .junk=(l.getD e []).getD (o+j) .junk:=by simp[List.getD]
       rw[e1];obtain⟨h0,⟨h1,h2⟩|⟨y',cs,T,fr,h1,h2,h3,h4,_,h5,h6,h7⟩⟩:=hd.blk n _ O
       ·rw[h1] at hy;cases hy
       ·have he:e<l.length:=by
         rcases Nat.lt_or_ge e l.length with h'|h'
         ·exact h'
         ·simp[List.getD,List.getElem?_eq_none h'] at J
        have qh:o+j<k:=by rw[←h0 e he];omega
        have ql:=(h7 e (o+j) he qh).2;obtain rfl:=Option.some.inj (hy.symm.trans h1)
        have qj:e*k+(o+j)<cs.size:=by
         have:(e+1)*k≤l.length*k:=Nat.mul_le_mul_right _ he;rw[Nat.succ_mul] at this;omega
        have qb:=cell_of_row h2 qj;rw[←Nat.add_assoc,hu] at qb;rw[Option.some.inj qb,Nat.add_assoc];exact ql.mono hS fun _ _=>rfl
     exact ⟨(I _ this).1,(I _ this).2,fun m H=>by
       simp only[List.mem_singleton] at H;subst H;exact⟨xN J,by simp[O]⟩⟩
    ·rename_i cs z O;cases H:eO (conv h m E true) cs with
     |none=>rw[H] at F;cases F
     | some p =>
      obtain⟨G,L'⟩:=p;rw[H] at F;simp only[Option.map_some,Option.some.injEq,Prod.mk.injEq] at F;obtain⟨rfl,rfl⟩:=F;obtain⟨y,hy,rfl⟩:=eD hx _ O;obtain⟨y',hz,T,fr,h1,h2,h3,h4,_,h5,h6,h7⟩:=hd.blk n _ O;obtain rfl:=Option.some.inj (hy.symm.trans h1);obtain⟨g1,g2⟩:=gD H
      have qn:∀j,j<cs.length→RC S' w (G.getD j .junk) (hz.getD j undef):=fun j J=>by
       obtain⟨Lj,g3,g4⟩:=g2 j J;exact(ih true _ _ _ _ g3 (fun n M=>hL n (List.mem_cons_of_mem _ (g4 n M))) (h7 j J).2).2.1 rfl
      have:RC S' w (.ro (G.drop o)) (.pointer (some ⟨y,e*(Blk.var cs z).k+o,none⟩)):=by
       simp only[Blk.k,Nat.mul_zero,Nat.zero_add];refine .ro _ y _ (fun m=>hz.getD (o+m) undef) (hL n (by simp) _ hy) (fun j J=>?_) (fun j J=>?_) fun j J=>?_
       all_goals
        simp only[List.length_drop,g1] at J
       ·exact cell_of_row h2 (by omega)
       ·exact(h7 (o+j) (by omega)).1
       ·have e1:(G.drop o).getD j .junk=G.getD (o+j) .junk:=by simp[List.getD]
        rw[e1];exact qn (o+j) (by omega)
      refine⟨(I _ this).1,(I _ this).2,fun m' ht=>?_⟩;rcases List.mem_cons.1 ht with rfl|ht
      ·exact⟨xN J,by simp[O]⟩
      ·-- it comes out of one of the cells
       have:∀(cs G:List AV) (L:List Name),eO (conv h m E true) cs=some (G,L)→∀n,n∈L→∃j,j<cs.length∧∃Lj,conv h m E true (cs.getD j .junk)=some (G.getD j .junk,Lj)∧n∈Lj:=by
        intro cs
        induction cs with
        |nil=>intro G L H n M;simp only[eO,Option.some.injEq,Prod.mk.injEq] at H;obtain⟨_,rfl⟩:=H;simp at M
        | cons x r ihr =>
         intro G L H n M;simp only[eO] at H;split at H
         ·rename_i y L1 ys L2 h1 h2;simp only[Option.some.injEq,Prod.mk.injEq] at H;obtain⟨rfl,rfl⟩:=H;rcases List.mem_append.1 M with M|M
          ·exact⟨0,by simp,L1,by simpa using h1,M⟩
          ·obtain⟨j,J,Lj,g,hg⟩:=ihr _ _ h2 n M;exact⟨j+1,by simpa using J,Lj,by simpa using g,hg⟩
         ·cases H
       obtain⟨j,qa,Lj,g3,hg⟩:=this _ _ _ H _ ht
       have qf:∀n,n∈Lj→∀y,ρ n=some y→S' y:=by
        obtain⟨qq,hf,qe⟩:=g2 j qa;rw[g3] at hf;simp only[Option.some.injEq,Prod.mk.injEq,true_and] at hf;subst hf;exact fun n M=>hL n (List.mem_cons_of_mem _ (qe n M))
       exact(ih true _ _ _ _ g3 qf (h7 j qa).2).2.2 _ hg
    ·cases F
/-! ## renaming -/
mutual
def rn (φ:Name→Option Name):AV→AV
 |.loc n off len=>match φ n with|some m=>.loc m off len|none=>.junk
 |.ptr n e o=>match φ n with|some m=>.ptr m e o|none=>.junk
 |.fn f c=>.fn f (rnL φ c)
 |.agg c=>.agg (rnL φ c)
 |.tup c=>.tup (rnL φ c)
 |x=>x
def rnL (φ:Name→Option Name):List AV→List AV
 | []=>[]
 |x::r=>rn φ x::rnL φ r
end
theorem bR (φ:Name→Option Name):∀c:List AV,(rnL φ c).length=c.length
 | []=>rfl
 |x::r=>by simp[rnL,bR φ r]
theorem mH (φ:Name→Option Name):∀(c:List AV) (j:Nat),j<c.length→(rnL φ c).getD j .junk=rn φ (c.getD j .junk)
 | [],j,h=>by simp at h
 |x::r,0,_=>by simp[rnL]
 |x::r,j+1,h=>by simpa[rnL] using mH φ r j (by simpa using h)
def rnB (φ:Name→Option Name):Blk→Blk
 |.var c z=>.var (rnL φ c) z
 |b=>b
theorem zQ (φ:Name→Option Name) (b:Blk):b.same (rnB φ b):=by
 cases b<;>simp[rnB,Blk.same,bR]
theorem aLs {S:Nat→Prop}{w:World} (φ:Name→Option Name) {x:AV}{v:Value} (h:RC S w x v):RC S w (rn φ x) v:=by
 induction h with
 |v x=>simpa[rn] using .v x
 |sl k l base cap x off xs hb hc ho hr hk hcap ih=>simpa[rn] using .sl k l base cap x off xs hb hc ho hr hk hcap
 |ro c x off xs hS hc ho hr ih=>simpa[rn] using .ro c x off xs hS hc ho hr
 | fn f c vs hl hr ih =>
  simp only[rn];refine .fn _ _ _ (by rw[bR];exact hl) fun j F=>?_;rw[bR] at F;rw[mH φ c j F];exact ih j F
 | agg c vs hl hr ih =>
  simp only[rn];refine .agg _ _ (by rw[bR];exact hl) fun j F=>?_;rw[bR] at F;rw[mH φ c j F];exact ih j F
 | tup c vs hl hr ih =>
  simp only[rn];refine .tup _ _ (by rw[bR];exact hl) fun j F=>?_;rw[bR] at F;rw[mH φ c j F];exact ih j F
theorem RV.ren {S:Nat→Prop}{w:World}{ρ ρ':Name→Option Nat}{κ κ':Name→Nat}{h h':Name→Option Blk}{φ:Name→Option Name}
  (hφ:∀n m,φ n=some m→ρ' m=ρ n∧κ' m=κ n∧∀J,h' m=some J→∃b,h n=some b∧b.same J) {x:AV}{v:Value} (hx:RV S w ρ κ h x v):RV S w ρ' κ' h' (rn φ x) v:=by
 induction hx with
 |junk v=>simpa[rn] using .junk v
 |clo hx=>exact .clo (aLs φ hx)
 | loc n off len v I =>
  simp only[rn];split
  ·rename_i m Y;obtain⟨L,e2,M⟩:=hφ n m Y;refine .loc _ _ _ _ fun k l z O=>?_;obtain⟨b,G,H⟩:=M _ O;cases b with
   |var=>simp[Blk.same] at H
   | arr k' l' z' =>
    simp only[Blk.same] at H;obtain⟨rfl,U⟩:=H;have:=I _ _ _ G;rw[L,e2,←U];exact this
  ·exact .junk _
 | ptr n e c v I =>
  simp only[rn];split
  ·rename_i m Y;obtain⟨L,e2,M⟩:=hφ n m Y;refine .ptr _ _ _ _ fun J O=>?_;obtain⟨b,G,H⟩:=M _ O;obtain⟨y,hy,I⟩:=I _ G;exact⟨y,by rw[L];exact hy,by rw[←Blk.same_k H];exact I⟩
  ·exact .junk _
 | fn f c vs hl hr ih =>
  simp only[rn];refine .fn _ _ _ (by rw[bR];exact hl) fun j F=>?_;rw[bR] at F;rw[mH φ c j F];exact ih j F
 | agg c vs hl hr ih =>
  simp only[rn];refine .agg _ _ (by rw[bR];exact hl) fun j F=>?_;rw[bR] at F;rw[mH φ c j F];exact ih j F
 | tup c vs hl hr ih =>
  simp only[rn];refine .tup _ _ (by rw[bR];exact hl) fun j F=>?_;rw[bR] at F;rw[mH φ c j F];exact ih j F
/-! ## values that hold no memory that stays -/
mutual
def flat:AV→Bool
 |.sl _ _=>false
 |.ro _=>false
 |.fn _ c=>jQ c
 |.agg c=>jQ c
 |.tup c=>jQ c
 |_=>true
def jQ:List AV→Bool
 | []=>true
 |x::r=>flat x&&jQ r
end
theorem dA:∀{c:List AV}{j:Nat},jQ c=true→flat (c.getD j .junk)=true
 | [],j,_=>by simp[flat]
 |x::r,0,h=>by simp[jQ] at h;simpa using h.1
 |x::r,j+1,h=>by simp[jQ] at h;simpa using dA (c:=r) (j:=j) h.2
theorem RC.flat {S S':Nat→Prop}{w:World}{x:AV}{v:Value} (h:RC S w x v) (F:flat x=true):RC S' w x v:=by
 induction h with
 |v x=>exact .v x
 |sl=>simp[Vs.flat] at F
 |ro=>simp[Vs.flat] at F
 |fn f c vs hl hr ih=>simp only[Vs.flat] at F;exact .fn _ _ _ hl fun j G=>ih j G (dA F)
 |agg c vs hl hr ih=>simp only[Vs.flat] at F;exact .agg _ _ hl fun j G=>ih j G (dA F)
 |tup c vs hl hr ih=>simp only[Vs.flat] at F;exact .tup _ _ hl fun j G=>ih j G (dA F)
theorem RV.flat {S S':Nat→Prop}{w:World}{ρ:Name→Option Nat}{κ:Name→Nat}{h:Name→Option Blk}{x:AV}{v:Value} (H:RV S w ρ κ h x v) (F:flat x=true):RV S' w ρ κ h x v:=by
 induction H with
 |junk v=>exact .junk v
 |clo H=>exact .clo (H.flat F)
 |loc n off len v hv=>exact .loc _ _ _ _ hv
 |ptr n e c v hv=>exact .ptr _ _ _ _ hv
 |fn f c vs hl hr ih=>simp only[Vs.flat] at F;exact .fn _ _ _ hl fun j G=>ih j G (dA F)
 |agg c vs hl hr ih=>simp only[Vs.flat] at F;exact .agg _ _ hl fun j G=>ih j G (dA F)
 |tup c vs hl hr ih=>simp only[Vs.flat] at F;exact .tup _ _ hl fun j G=>ih j G (dA F)
def iF:Blk→Prop
 |.var c _=>jQ c=true
 |.arr _ l _=>∀r,r∈l→jQ r=true
/-! ## contracts -/
def Hn (l:List (Option Blk)):Name→Option Blk
 |.b j=>l.getD j none
 |.t _ _=>none
def aAu (ρ:Name→Option Nat) (hin:List Blk) (x:Nat):Prop:=∃j,j<hin.length∧ρ (.b j)=some x
structure Post (S:Nat→Prop) (w:World) (ρ:Name→Option Nat) (κ:Name→Nat) (hin:List Blk) (S':Nat→Prop) (w':World) (ρ':Name→Option Nat) (κ':Name→Nat) (hout:List (Option Blk)):Prop where
 hok:HOK S' w' ρ' κ' (Hn hout)
 size:w.heap.size≤w'.heap.size
 old:∀b,b<w.heap.size→¬aAu ρ hin b→w'.heap[b]? = w.heap[b]?
 sub:∀b,S b→S' b
 new:∀b,S' b→S b∨w.heap.size≤b∨aAu ρ hin b
 mine:∀j x,(hout.getD j none).isSome→ρ' (.b j)=some x→w.heap.size≤x∨aAu ρ hin x
 out:w'.os=w.os∧w'.output=w.output
 keep:∀j b',j<hin.length→hout.getD j none=some b'→ρ' (.b j)=ρ (.b j)∧κ' (.b j)=κ (.b j)∧∃b,hin[j]? = some b∧b.same b'
def mW (P:Program) (f:FuncId):Prop:=∃fn b,P.funcs[f]? = some fn∧fn.body=some b∧fn.name≠"runtime.NumGoroutine"
def Fn (P:Program) (f:FuncId) (hin:List Blk) (args:List AV) (r:AV) (hout:List (Option Blk)):Prop:=
 mW P f∧∀(S:Nat→Prop) (w:World) (ρ:Name→Option Nat) (κ:Name→Nat) (vs:Array Value),HOK S w ρ κ (Hn (hin.map some))→(∀b,b∈hin→b.fz=false)→vs.size=args.length→
  (∀j,j<args.length→RV S w ρ κ (Hn (hin.map some)) (args.getD j .junk) (vs.getD j undef))→
  Calls P f vs w fun e w'=>∃v S' ρ' κ',e=.returned v∧Post S w ρ κ hin S' w' ρ' κ' hout∧RV S' w' ρ' κ' (Hn hout) r v
end
section
variable [Envs]
variable {P:Program}{C:Ctx}{σ:FSt}{a:Act}{w:World}{S:Nat→Prop}{ρ:Name→Option Nat}{κ:Name→Nat}{h:Name→Option Blk}
def eU (h:Name→Option Blk) (E:List Name):Blk→Option (Blk×List Name)
 |.var c z=>(eO (conv h 8 E false) c).map fun p=>(.var p.1 z,p.2)
 |.arr k l z=>some (.arr k l z,[])
def vI (h:Name→Option Blk) (E:List Name):List Name→Option (List Blk×List Name)
 | []=>some ([],[])
 | n::r=>match(h n).bind (eU h E),vI h E r with
  |some (b,L),some (bs,L')=>if b.fz then none else some (b::bs,L++L')
  |_,_=>none
theorem vE (h:Name→Option Blk) (E:List Name):∀{B:List Name}{bs:List Blk}{L:List Name},vI h E B=some (bs,L)→bs.length=B.length∧
  (∀(j:Nat) (n:Name),B[j]? = some n→∃b H F,h n=some b∧eU h E b=some (H,F)∧bs[j]? = some H∧H.fz=false∧∀m,m∈F→m∈L)∧
  ∀m,m∈L→∃(n:Name) (b H:Blk) (F:List Name),n∈B∧h n=some b∧eU h E b=some (H,F)∧m∈F
 | [],bs,L,hb=>by
  simp only[vI,Option.some.injEq,Prod.mk.injEq] at hb;obtain⟨rfl,rfl⟩:=hb;exact⟨rfl,by simp,by simp⟩
 | n::r,bs,L,hb=>by
  simp only[vI] at hb;split at hb
  ·rename_i H L1 ha L2 I h2;split at hb
   ·cases hb
   ·rename_i hz;simp only[Option.some.injEq,Prod.mk.injEq] at hb;obtain⟨rfl,rfl⟩:=hb;obtain⟨h3,h4,h5⟩:=vE h E h2;cases hn:h n with
    |none=>rw[hn] at I;cases I
    | some b =>
     rw[hn] at I;refine⟨by simp[h3],fun j m hj=>?_,fun m G=>?_⟩
     ·cases j with
      | zero =>
       simp only[List.getElem?_cons_zero,Option.some.injEq] at hj;subst hj;exact⟨b,H,L1,hn,I,by simp,by simpa using hz,fun m G=>List.mem_append_left _ G⟩
      | succ j =>
       obtain⟨b,J,F,M,O,U,Y,g5⟩:=h4 j m (by simpa using hj);exact⟨b,J,F,M,O,by simpa using U,Y,fun m G=>List.mem_append_right _ (g5 m G)⟩
     ·rcases List.mem_append.1 G with G|G
      ·exact⟨n,b,H,L1,by simp,hn,I,G⟩
      ·obtain⟨n',b1,J,F,M,O,U,Y⟩:=h5 m G;exact⟨n',b1,J,F,List.mem_cons_of_mem _ M,O,U,Y⟩
  ·cases hb
def phi (B:List Name) (d n:Nat):Name→Option Name
 |.b j=>if j<B.length then B[j]? else if j<n then some (.t d j) else none
 |.t _ _=>none
def frz:Blk→Blk
 |.var c _=>.var c true
 |.arr k l _=>.arr k l true
theorem aJf (b:Blk):b.same (frz b):=by cases b<;>simp[frz,Blk.same]
def aft (h:Name→Option Blk) (B:List Name) (d:Nat) (hout:List (Option Blk)) (fz:Bool) (L:List Name) (m:Name):Option Blk:=
 match jT B m with
 |some j=>(hout.getD j none).map (rnB (phi B d hout.length))
 | none=>match m with
  |.t d' j=>if d'=d∧B.length≤j∧j<hout.length then(hout.getD j none).map (rnB (phi B d hout.length)) else if fz=true∧m∈L then(h m).map frz else h m
  |.b _=>if fz=true∧m∈L then(h m).map frz else h m
theorem oK:∀{B:List Name}{j:Nat}{n:Name},B.Nodup→B[j]? = some n→jT B n=some j
 | [],j,n,_,h=>by simp at h
 |m::r,0,n,_,h=>by simp only[List.getElem?_cons_zero,Option.some.injEq] at h;simp[jT,h]
 | m::r,j+1,n,hnd,h=>by
  simp only[List.getElem?_cons_succ] at h
  have F:¬m=n:=by
   rintro rfl;exact(List.nodup_cons.1 hnd).1 (List.mem_of_getElem? h)
  simp[jT,F,oK (List.nodup_cons.1 hnd).2 h]
def aJz (P:Program) (σ:FSt) (d:Nat) (fv:AV) (xs:List AV) (B:List Name) (K:FSt→AV→Prop):Prop:=
 match fv with
 | .fn f caps=>match eO (conv σ.h 8 B false) (xs++caps),vI σ.h B B with
  | some (ys,L1),some (hin,L2)=>∃r hout fz,Fn P f hin ys r hout∧(fz=false→(L1++L2=[]∨(flat r=true∧∀b,some b∈hout→iF b)))∧
    (∀j,B.length≤j→j<hout.length→jM (.t d j) σ)∧K ⟨σ.s,aft σ.h B d hout fz (L1++L2)⟩ (rn (phi B d hout.length) r)
  |_,_=>False
 |_=>False
theorem aF2 (H:OK C σ a w S ρ κ) {d:Nat}{f:FuncId}{caps xs:List AV}{B:List Name}{K:FSt→AV→Prop} (q8:B.Nodup) (hv:aJz P σ d (.fn f caps) xs B K) {vs:Array Value}
  (hl:vs.size=(xs++caps).length) (hr:∀j,j<(xs++caps).length→RV S w ρ κ σ.h ((xs++caps).getD j .junk) (vs.getD j undef)) :
  Calls P f vs w fun e w'=>∃σ' x v S' ρ' κ',e=.returned v∧K σ' x∧OK C σ' a w' S' ρ' κ'∧RV S' w' ρ' κ' σ'.h x v:=by
 simp only[aJz] at hv;split at hv
 ·rename_i ys L1 hin L2 jb ju;obtain⟨r,G,fz,jv,qf,hw,hK⟩:=hv;generalize qt:L1++L2=L at hK qf;have jf:∀n,n∈L1→n∈L:=fun n I=>qt ▸ List.mem_append_left _ I;have jg:∀n,n∈L2→n∈L:=fun n I=>qt ▸ List.mem_append_right _ I;obtain⟨qv,qm,jt⟩:=vE _ _ ju
  let S1:Nat→Prop:=fun y=>S y∨∃n,n∈L∧ρ n=some y
  let ρ0:Name→Option Nat:=fun m=>match m with|.b j=>(B[j]?).bind ρ|.t _ _=>none
  let κ0:Name→Nat:=fun m=>match m with|.b j=>((B[j]?).map κ).getD 0|.t _ _=>0
  have qu:∀y,S y→S1 y:=fun y hy=>.inl hy
  have hE:∀j n,B[j]? = some n→ρ0 (.b j)=ρ n∧κ0 (.b j)=κ n∧∀b',Hn (hin.map some) (.b j)=some b'→∃b,σ.h n=some b∧b.same b':=by
   intro j n J;refine⟨by simp[ρ0,J],by simp[κ0,J],fun b' F=>?_⟩;obtain⟨b,b2,Lj,g1,g2,g3,_,_⟩:=qm j n J
   have:b'=b2:=by
    simp only[Hn,List.getD,List.getElem?_map,g3,Option.map_some,Option.getD_some,Option.some.injEq] at F;exact F.symm
   subst this;refine⟨b,g1,?_⟩;cases b with
   | var c z =>
    simp only[eU] at g2;cases M:eO (conv σ.h 8 B false) c with
    |none=>rw[M] at g2;cases g2
    | some p =>
     rw[M] at g2;simp only[Option.map_some,Option.some.injEq,Prod.mk.injEq] at g2;rw[←g2.1];exact((gD M).1).symm
   | arr k l z =>
    simp only[eU,Option.some.injEq,Prod.mk.injEq] at g2;rw[←g2.1];exact Blk.same_refl _
  have qa:=nV H.hok qu (κ':=κ0) hE 8
  have he:∀n,n∈L→n∉B∧(σ.h n).isSome:=by
   intro n I;have qd:∀m,m∈L→∀y,ρ m=some y→S1 y:=fun m M y hy=>.inr ⟨m,M,hy⟩;rw[←qt] at I;rcases List.mem_append.1 I with I|I
   ·obtain⟨j,J,Lj,g1,g2⟩:=zZ jb n I;obtain⟨jp,qc,g3⟩:=(gD jb).2 j J;rw[g1] at qc;simp only[Option.some.injEq,Prod.mk.injEq,true_and] at qc;subst qc;exact(qa false _ _ _ _ g1 (fun m M=>qd m (jf m (g3 m M))) (hr j J)).2.2 n g2
   ·obtain⟨n',b,b',Lj,g1,g2,g3,g4⟩:=jt n I;cases b with
    | arr k l z =>
     simp only[eU,Option.some.injEq,Prod.mk.injEq] at g3;rw[←g3.2] at g4;simp at g4
    | var c z =>
     simp only[eU] at g3;cases M:eO (conv σ.h 8 B false) c with
     |none=>rw[M] at g3;cases g3
     | some p =>
      obtain⟨c',Lp⟩:=p;rw[M] at g3;simp only[Option.map_some,Option.some.injEq,Prod.mk.injEq] at g3;obtain⟨_,rfl⟩:=g3;obtain⟨j,J,Lj,g5,g6⟩:=zZ M n g4;obtain⟨x,cs,T,fr,q1,q2,q3,q4,_,q5,q6,q7⟩:=H.hok.blk n' _ g2;obtain⟨i,hi⟩:=List.mem_iff_getElem?.1 g1;obtain⟨b1,b2,Lb,p1,p2,p3,p4,p5⟩:=qm i n' hi;rw[g2] at p1;obtain rfl:=Option.some.inj p1;simp only[eU,M,Option.map_some,Option.some.injEq,Prod.mk.injEq] at p2;obtain⟨_,rfl⟩:=p2;obtain⟨jp,qs,g7⟩:=(gD M).2 j J;rw[g5] at qs;simp only[Option.some.injEq,Prod.mk.injEq,true_and] at qs;subst qs;exact(qa false _ _ _ _ g5 (fun m M=>qd m (jg m (p5 m (g7 m M)))) (q7 j J).2).2.2 n g6
  have qd:∀m,m∈L→∀y,ρ m=some y→S1 y:=fun m M y hy=>.inr ⟨m,M,hy⟩
  have je:∀n b,n∈B→σ.h n=some b→b.fz=false→∀x,ρ n=some x→¬S1 x:=by
   rintro n b I hb O x U (hs|⟨m,M,hmx⟩)
   ·have:=H.hok.blk n b hb;cases b with
    | var c z =>
     obtain⟨y,_,_,_,g1,_,_,g2,_⟩:=this;obtain rfl:=Option.some.inj (U.symm.trans g1);exact g2 O hs
    | arr k l z =>
     obtain⟨_,⟨g1,_⟩|⟨y,_,_,_,g1,_,_,g2,_⟩⟩:=this
     ·rw[U] at g1;cases g1
     ·obtain rfl:=Option.some.inj (U.symm.trans g1);exact g2 O hs
   ·have:=H.hok.inj m n x (he m M).2 (by simp[hb]) hmx U;subst this;exact(he m M).1 I
  have hf:∀(j:Nat) (n:Name),B[j]? = some n→∃b,σ.h n=some b∧b.fz=false:=by
   intro j n J;obtain⟨b,b',Lj,g1,g2,g3,g4,g5⟩:=qm j n J;refine⟨b,g1,?_⟩;cases b with
   | var c z =>
    simp only[eU] at g2;cases M:eO (conv σ.h 8 B false) c with
    |none=>rw[M] at g2;cases g2
    | some p =>
     rw[M] at g2;simp only[Option.map_some,Option.some.injEq,Prod.mk.injEq] at g2;rw[←g2.1] at g4;exact g4
   | arr k l z =>
    simp only[eU,Option.some.injEq,Prod.mk.injEq] at g2;rw[←g2.1] at g4;exact g4
  have qk:∀j b',Hn (hin.map some) (.b j)=some b'→∃n b Lj,B[j]? = some n∧σ.h n=some b∧eU σ.h B b=some (b',Lj)∧(∀m,m∈Lj→m∈L2)∧b'.fz=false:=by
   intro j b' F
   have J:j<B.length:=by
    rw[←qv];rcases Nat.lt_or_ge j hin.length with h'|h'
    ·exact h'
    ·simp[Hn,List.getD,List.getElem?_eq_none h'] at F
   obtain⟨b,b2,Lj,g1,g2,g3,g4,g5⟩:=qm j B[j] (by simp[J])
   have:b'=b2:=by
    simp only[Hn,List.getD,List.getElem?_map,g3,Option.map_some,Option.getD_some,Option.some.injEq] at F;exact F.symm
   subst this;exact⟨B[j],b,Lj,by simp[J],g1,g2,g5,g4⟩
  have jm:HOK S1 w ρ0 κ0 (Hn (hin.map some)):=by
   refine⟨fun m b' F=>?_,fun m m' x h1 h2 Y h4=>?_,?_,H.hok.env.mono (fun _ h=>.inl h) fun _ _=>rfl⟩
   ·cases m with
    |t=>simp[Hn] at F
    | b j =>
     obtain⟨n,b,Lj,g0,g1,g2,g5,g4⟩:=qk j b' F;obtain⟨e1,e2,_⟩:=hE j n g0;have hb:=H.hok.blk n b g1;have jk:=je n b (List.mem_of_getElem? g0) g1;cases b with
     | var c z =>
      simp only[eU] at g2;cases M:eO (conv σ.h 8 B false) c with
      |none=>rw[M] at g2;cases g2
      | some p =>
       obtain⟨c',Lp⟩:=p;rw[M] at g2;simp only[Option.map_some,Option.some.injEq,Prod.mk.injEq] at g2;obtain⟨rfl,rfl⟩:=g2;obtain⟨x,cs,T,fr,q1,q2,q3,q4,hg,q5,q6,q7⟩:=hb;obtain⟨l1,l2⟩:=gD M;refine⟨x,cs,T,fr,by rw[e1];exact q1,q2,q3,fun O=>jk O x q1,fun O=>.inl (hg O),by rw[e2];exact q5,by omega,fun i hi=>⟨(q7 i (by omega)).1,?_⟩⟩;obtain⟨Li,l3,l4⟩:=l2 i (by omega);exact(qa false _ _ _ _ l3 (fun m M=>qd m (jg m (g5 m (l4 m M)))) (q7 i (by omega)).2).1 rfl
     | arr k l z =>
      simp only[eU,Option.some.injEq,Prod.mk.injEq] at g2;obtain⟨rfl,rfl⟩:=g2;obtain⟨q0,⟨q1,q2⟩|⟨x,cs,T,fr,q1,q2,q3,q4,hg,q5,q6,q7⟩⟩:=hb
      ·exact⟨q0,.inl ⟨by rw[e1];exact q1,q2⟩⟩
      ·exact⟨q0,.inr ⟨x,cs,T,fr,by rw[e1];exact q1,q2,q3,fun O=>jk O x q1,fun O=>.inl (hg O),by rw[e2];exact q5,q6,fun i j hi J=>⟨(q7 i j hi J).1,(q7 i j hi J).2.mono qu fun _ _=>rfl⟩⟩⟩
   ·cases m with
    |t=>simp[Hn] at h1
    | b j =>
     cases m' with
     |t=>simp[Hn] at h2
     | b j' =>
      obtain⟨b1,qe⟩:=Option.isSome_iff_exists.1 h1;obtain⟨b2,ha⟩:=Option.isSome_iff_exists.1 h2;obtain⟨n,b,_,g0,g1,_⟩:=qk j b1 qe;obtain⟨n',b',_,jd,qc,_⟩:=qk j' b2 ha;rw[(hE j n g0).1] at Y;rw[(hE j' n' jd).1] at h4;obtain rfl:=H.hok.inj n n' x (by simp[g1]) (by simp[qc]) Y h4;congr 1;have e1:=oK q8 g0;have e2:=oK q8 jd;rw[e1] at e2;exact Option.some.inj e2
   ·rintro y (hy|⟨n,I,hy⟩)
    ·exact H.hok.dom y hy
    ·exact H.hok.lt (he n I).2 hy
  have ht:∀x,aAu ρ0 hin x↔∃n,n∈B∧ρ n=some x:=by
   intro x;constructor
   ·rintro⟨j,J,U⟩;have jx:j<B.length:=by omega
    refine⟨B[j],by simp,?_⟩;simpa[ρ0,jx] using U
   ·rintro⟨n,I,U⟩;obtain⟨j,J⟩:=List.mem_iff_getElem?.1 I;refine⟨j,?_,by simp[ρ0,J,U]⟩;rw[qv];exact(List.getElem?_eq_some_iff.1 J).1
  obtain⟨j4,j1⟩:=gD jb
  have qw:=jv.2 S1 w ρ0 κ0 vs jm (fun b hb=>by
    obtain⟨j,J⟩:=List.mem_iff_getElem?.1 hb;have:Hn (hin.map some) (.b j)=some b:=by simp[Hn,List.getD,J]
    obtain⟨_,_,_,_,_,_,_,O⟩:=qk j b this;exact O) (by omega) (fun j J=>by
    obtain⟨Lj,l3,l4⟩:=j1 j (by omega);exact(qa false _ _ _ _ l3 (fun m M=>qd m (jf m (l4 m M))) (hr j (by omega))).1 rfl)
  refine qw.mono ?_;rintro e w' ⟨v,S',ρ',κ',rfl,hpost,hrv⟩
  let S2:Nat→Prop:=fun y=>S' y∧(fz=true∨¬∃n,n∈L∧ρ n=some y∧¬S y)
  let ρ2:Name→Option Nat:=fun m=>match jT B m with
   |some j=>ρ' (.b j)
   | none=>match m with
    |.t d' j=>if d'=d∧B.length≤j∧j<G.length then ρ' (.b j) else ρ (.t d' j)
    |.b i=>ρ (.b i)
  let κ2:Name→Nat:=fun m=>match jT B m with
   |some j=>κ' (.b j)
   | none=>match m with
    |.t d' j=>if d'=d∧B.length≤j∧j<G.length then κ' (.b j) else κ (.t d' j)
    |.b i=>κ (.b i)
  let h2:=aft σ.h B d G fz L
  have jl:∀j,B.length≤j→j<G.length→jT B (.t d j)=none:=by
   intro j h1 Y;cases hi:jT B (.t d j) with
   |none=>rfl
   | some i =>
    obtain⟨b,hb,_⟩:=hf i _ (nP hi);rw[(hw j h1 Y).1.1] at hb;cases hb
  have kB:∀(j:Nat) (m:Name),B[j]? = some m→ρ2 m=ρ' (.b j)∧κ2 m=κ' (.b j)∧h2 m=(G.getD j none).map (rnB (phi B d G.length)):=by
   intro j m J;have hi:=oK q8 J;simp only[ρ2,κ2,h2,aft,hi,and_self]
  have kN:∀j,B.length≤j→j<G.length→ρ2 (.t d j)=ρ' (.b j)∧κ2 (.t d j)=κ' (.b j)∧h2 (.t d j)=(G.getD j none).map (rnB (phi B d G.length)):=by
   intro j h1 Y;have hi:=jl j h1 Y;simp only[ρ2,κ2,h2,aft,hi,h1,Y,and_self,if_true]
  have kO:∀m,m∉B→(∀j,B.length≤j→j<G.length→m≠.t d j)→ρ2 m=ρ m∧κ2 m=κ m∧h2 m=if fz=true∧m∈L then(σ.h m).map frz else σ.h m:=by
   intro m M I
   have hi:jT B m=none:=by
    cases hi:jT B m with
    |none=>rfl
    |some j=>exact absurd (List.mem_of_getElem? (nP hi)) M
   cases m with
   |b i=>simp only[ρ2,κ2,h2,aft,hi,and_self]
   | t d' j =>
    have hc:¬(d'=d∧B.length≤j∧j<G.length):=by
     rintro⟨rfl,h1,Y⟩;exact I j h1 Y rfl
    simp only[ρ2,κ2,h2,aft,hi,if_neg hc,and_self]
  have hφ:∀n m,phi B d G.length n=some m→ρ2 m=ρ' n∧κ2 m=κ' n∧∀b',h2 m=some b'→∃b,Hn G n=some b∧b.same b':=by
   intro n m I;cases n with
   |t=>simp[phi] at I
   | b j =>
    have fin:ρ2 m=ρ' (.b j)∧κ2 m=κ' (.b j)∧h2 m=(G.getD j none).map (rnB (phi B d G.length)):=by
     simp only[phi] at I;split at I
     ·exact kB j m I
     ·split at I
      ·obtain rfl:=Option.some.inj I;exact kN j (by omega) (by omega)
      ·cases I
    refine⟨fin.1,fin.2.1,fun b' F=>?_⟩;rw[fin.2.2] at F;cases J:G.getD j none with
    |none=>rw[J] at F;cases F
    | some b =>
     rw[J] at F;obtain rfl:=Option.some.inj F;exact⟨b,J,zQ _ _⟩
  have q9:∀m,(∀j,B.length≤j→j<G.length→m≠.t d j)→fC ρ ρ2 κ κ2 σ.h h2 m:=by
   intro m I b' F;by_cases M:m∈B
   ·obtain⟨j,J⟩:=List.mem_iff_getElem?.1 M;obtain⟨e1,e2,e3⟩:=kB j m J;rw[e3] at F;cases hjo:G.getD j none with
    |none=>rw[hjo] at F;cases F
    | some b =>
     rw[hjo] at F;obtain rfl:=Option.some.inj F;have jy:j<hin.length:=by rw[qv];exact(List.getElem?_eq_some_iff.1 J).1
     obtain⟨k1,k2,bi,k3,k4⟩:=hpost.keep j b jy hjo;obtain⟨g1,g2,g3⟩:=hE j m J;obtain⟨b0,g4,g5⟩:=g3 bi (by simp[Hn,List.getD,k3]);exact⟨by rw[e1,k1,g1],by rw[e2,k2,g2],b0,g4,Blk.same_trans (Blk.same_trans g5 k4) (zQ _ _)⟩
   ·obtain⟨e1,e2,e3⟩:=kO m M I;rw[e3] at F;refine⟨e1,e2,?_⟩;split at F
    ·cases h6:σ.h m with
     |none=>rw[h6] at F;cases F
     | some b0 =>
      rw[h6] at F;obtain rfl:=Option.some.inj F;exact⟨b0,rfl,aJf _⟩
    ·exact⟨b',F,b'.same_refl⟩
  have hp:∀y,S y→S2 y:=fun y hy=>⟨hpost.sub y (qu y hy),.inr fun⟨_,_,_,I⟩=>I hy⟩
  have qi:∀y,S y→¬aAu ρ0 hin y:=by
   intro y hy M;obtain⟨n,I,U⟩:=(ht y).1 M;obtain⟨j,J⟩:=List.mem_iff_getElem?.1 I;obtain⟨b,hb,O⟩:=hf j n J;exact je n b I hb O y U (.inl hy)
  have ql:∀y,S y→w'.heap[y]? = w.heap[y]?:=fun y hy=>hpost.old y (H.hok.dom y hy) (qi y hy)
  have jj:fz=false→L≠[]→flat r=true∧∀b,some b∈G→iF b:=by
   intro h1 Y;rcases qf h1 with h|h
   ·exact absurd h Y
   ·exact h
  have back:∀(x:AV) (u:Value),(fz=false→L≠[]→flat x=true)→RV S' w' ρ' κ' (Hn G) x u→RV S2 w' ρ2 κ2 h2 (rn (phi B d G.length) x) u:=by
   intro x u qx U;have jo:=U.ren (φ:=phi B d G.length) hφ;by_cases O:fz=true
   ·exact jo.mono (fun y hy=>⟨hy,.inl O⟩) (fun _ _=>rfl) fun _ _=>fC.refl _ _ _ _
   ·by_cases hl:L=[]
    ·exact jo.mono (fun y hy=>⟨hy,.inr (by rintro⟨n,I,_⟩;rw[hl] at I;cases I)⟩) (fun _ _=>rfl) fun _ _=>fC.refl _ _ _ _
    ·exact(U.flat (S':=S2) (qx (by simpa using O) hl)).ren hφ
  have qr:∀(x:AV) (u:Value),(fz=false→L≠[]→flat x=true)→RC S' w' x u→RC S2 w' x u:=by
   intro x u qx U;by_cases O:fz=true
   ·exact U.mono (fun y hy=>⟨hy,.inl O⟩) fun _ _=>rfl
   ·by_cases hl:L=[]
    ·exact U.mono (fun y hy=>⟨hy,.inr (by rintro⟨n,I,_⟩;rw[hl] at I;cases I)⟩) fun _ _=>rfl
    ·exact U.flat (qx (by simpa using O) hl)
  have h0:∀j x,(G.getD j none).isSome→ρ' (.b j)=some x→w.heap.size≤x∨∃n,n∈B∧ρ n=some x:=by
   intro j x h1 Y;rcases hpost.mine j x h1 Y with h|h
   ·exact .inl h
   ·exact .inr ((ht x).1 h)
  have h8:∀j x,(G.getD j none).isSome→ρ' (.b j)=some x→¬∃n,n∈L∧ρ n=some x∧¬S x:=by
   rintro j x h1 Y ⟨n,I,U,_⟩;rcases h0 j x h1 Y with h|⟨n',hd,hk⟩
   ·exact absurd (H.hok.lt (he n I).2 U) (by omega)
   ·obtain⟨i,hi⟩:=List.mem_iff_getElem?.1 hd;obtain⟨b,hb,_⟩:=hf i n' hi;obtain rfl:=H.hok.inj n n' x (he n I).2 (by simp[hb]) U hk;exact(he n I).1 hd
  have jc:∀j b m,G.getD j none=some b→ρ2 m=ρ' (.b j)→κ2 m=κ' (.b j)→vJ S2 w' ρ2 κ2 h2 m (rnB (phi B d G.length) b):=by
   intro j b m J e1 e2;have hb:=hpost.hok.blk (.b j) b J;have qj:(G.getD j none).isSome:=by rw[J];rfl
   have ji:fz=false→L≠[]→iF b:=fun h1 Y=>(jj h1 Y).2 b (by
     refine List.mem_of_getElem? (i:=j) ?_;cases ho:G[j]? with
     |none=>simp[List.getD,ho] at J
     |some o=>simp[List.getD,ho] at J;rw[←J])
   cases b with
   | var c z =>
    obtain⟨x,cs,T,fr,q1,q2,q3,q4,hg,q5,q6,q7⟩:=hb;refine⟨x,cs,T,fr,by rw[e1];exact q1,q2,q3,fun O hs=>q4 O hs.1,fun O=>⟨hg O,.inr (h8 j x qj q1)⟩,by rw[e2];exact q5,by rw[bR];exact q6,fun i hi=>?_⟩;rw[bR] at hi;rw[mH _ _ _ hi];exact⟨(q7 i hi).1,back _ _ (fun h1 Y=>dA (ji h1 Y)) (q7 i hi).2⟩
   | arr k l z =>
    obtain⟨q0,⟨q1,q2⟩|⟨x,cs,T,fr,q1,q2,q3,q4,hg,q5,q6,q7⟩⟩:=hb
    ·exact⟨q0,.inl ⟨by rw[e1];exact q1,q2⟩⟩
    ·refine⟨q0,.inr ⟨x,cs,T,fr,by rw[e1];exact q1,q2,q3,fun O hs=>q4 O hs.1,fun O=>⟨hg O,.inr (h8 j x qj q1)⟩,by rw[e2];exact q5,q6,fun i j' hi qg=>⟨(q7 i j' hi qg).1,qr _ _ (fun h1 Y=>dA ?_) (q7 i j' hi qg).2⟩⟩⟩;exact ji h1 Y _ (by simp[List.getD,hi])
  have h9:∀m b',h2 m=some b'→(∃j b,G.getD j none=some b∧b'=rnB (phi B d G.length) b∧ρ2 m=ρ' (.b j)∧κ2 m=κ' (.b j)∧phi B d G.length (.b j)=some m)∨
    (m∉B∧(∀j,B.length≤j→j<G.length→m≠.t d j)∧ρ2 m=ρ m∧κ2 m=κ m∧∃b,σ.h m=some b∧b'=if fz=true∧m∈L then frz b else b):=by
   intro m b' F;by_cases M:m∈B
   ·obtain⟨j,J⟩:=List.mem_iff_getElem?.1 M;obtain⟨e1,e2,e3⟩:=kB j m J;rw[e3] at F;cases hjo:G.getD j none with
    |none=>rw[hjo] at F;cases F
    | some b =>
     rw[hjo] at F;exact .inl ⟨j,b,hjo,(Option.some.inj F).symm,e1,e2,by simp only[phi,if_pos (List.getElem?_eq_some_iff.1 J).1,J]⟩
   ·by_cases I:∃j,B.length≤j∧j<G.length∧m=.t d j
    ·obtain⟨j,h1,Y,rfl⟩:=I;obtain⟨e1,e2,e3⟩:=kN j h1 Y;rw[e3] at F;cases hjo:G.getD j none with
     |none=>rw[hjo] at F;cases F
     | some b =>
      rw[hjo] at F;exact .inl ⟨j,b,hjo,(Option.some.inj F).symm,e1,e2,by simp[phi,Y,show ¬j<B.length by omega]⟩
    ·have hd:∀j,B.length≤j→j<G.length→m≠.t d j:=fun j h1 Y e=>I ⟨j,h1,Y,e⟩;obtain⟨e1,e2,e3⟩:=kO m M hd;rw[e3] at F;refine .inr ⟨M,hd,e1,e2,?_⟩;by_cases hc:fz=true∧m∈L
     ·rw[if_pos hc] at F;cases h6:σ.h m with
      |none=>rw[h6] at F;cases F
      |some b0=>rw[h6] at F;exact⟨b0,rfl,by rw[if_pos hc];exact(Option.some.inj F).symm⟩
     ·rw[if_neg hc] at F;exact⟨b',F,by rw[if_neg hc]⟩
  have qp:∀m b x,m∉B→σ.h m=some b→ρ m=some x→w'.heap[x]? = w.heap[x]?:=by
   intro m b x M hb U;refine hpost.old x (H.hok.lt (by simp[hb]) U) fun qz=>?_;obtain⟨n,I,hk⟩:=(ht x).1 qz;obtain⟨i,hi⟩:=List.mem_iff_getElem?.1 I;obtain⟨b',F,_⟩:=hf i n hi;obtain rfl:=H.hok.inj m n x (by simp[hb]) (by simp[F]) U hk;exact M I
  have jn:HOK S2 w' ρ2 κ2 h2:=by
   refine⟨fun m b' F=>?_,fun m m' x h1 Y h4 h5=>?_,fun y hy=>hpost.hok.dom y hy.1,H.hok.env.mono hp ql⟩
   ·rcases h9 m b' F with⟨j,b,J,rfl,e1,e2,_⟩|⟨M,I,e1,e2,b,hb,rfl⟩
    ·exact jc j b m J e1 e2
    ·have h6:=H.hok.blk m b hb
     have qh:∀b2:Blk,((b2=b∧¬(fz=true∧m∈L))∨(b2=frz b∧fz=true∧m∈L))→(∀n,b2.has n=b.has n)→vJ S2 w' ρ2 κ2 h2 m b2:=by
      intro b2 ha j3
      have qn:∀n,b.has n=true→fC ρ ρ2 κ κ2 σ.h h2 n:=fun n hd=>q9 n fun j h1 Y e=>by
       subst e;rw[(hw j h1 Y).2.2 m b hb] at hd;cases hd
      have jh:∀x,ρ m=some x→S2 x→b2.fz=false→S x:=by
       rintro x U ⟨hs,hs2⟩ O;rcases hpost.new x hs with(h|⟨n,hd,hk⟩)|h|h
       ·exact h
       ·obtain rfl:=H.hok.inj m n x (by simp[hb]) (he n hd).2 U hk;rcases hs2 with h|h
        ·rcases ha with⟨rfl,hc⟩|⟨rfl,_,_⟩
         ·exact absurd ⟨h,hd⟩ hc
         ·cases b<;>simp[frz,Blk.fz] at O
        ·exact Classical.byContradiction fun j0=>h ⟨m,hd,U,j0⟩
       ·exact absurd (H.hok.lt (by simp[hb]) U) (by omega)
       ·obtain⟨n,hd,hk⟩:=(ht x).1 h;obtain⟨i,hi⟩:=List.mem_iff_getElem?.1 hd;obtain⟨qq,h7,_⟩:=hf i n hi;obtain rfl:=H.hok.inj m n x (by simp[hb]) (by simp[h7]) U hk;exact absurd hd M
      have qo:∀x,ρ m=some x→b2.fz=true→(b.fz=true→S x)→S2 x:=by
       intro x U O j2;rcases ha with⟨rfl,_⟩|⟨rfl,jw,jz⟩
       ·exact hp x (j2 O)
       ·exact⟨hpost.sub x (.inr ⟨m,jz,U⟩),.inl jw⟩
      cases b with
      | var c z =>
       obtain⟨x,cs,T,fr,q1,q2,q3,q4,hg,q5,q6,q7⟩:=h6;have:∃z2,b2=.var c z2:=by rcases ha with⟨rfl,_⟩|⟨rfl,_⟩<;>exact⟨_,rfl⟩
       obtain⟨z2,rfl⟩:=this;refine⟨x,cs,T,fr,by rw[e1];exact q1,by rw[qp m _ x M hb q1];exact q2,q3,fun O hs=>?_,fun O=>qo x q1 O hg,by rw[e2];exact q5,q6,fun i hi=>⟨(q7 i hi).1,(q7 i hi).2.mono hp ql fun n hd=>qn n ?_⟩⟩
       ·have ja:=jh x q1 hs O;rcases ha with⟨ha,_⟩|⟨ha,_⟩
        ·simp only[Blk.var.injEq,true_and] at ha;subst ha;exact q4 O ja
        ·simp[frz] at ha;rw[ha] at O;cases O
       ·cases hc:l6 n c with
        |true=>simp[Blk.has,hc]
        |false=>rw[qF hc] at hd;cases hd
      | arr k l z =>
       obtain⟨q0,hq⟩:=h6;have:∃z2,b2=.arr k l z2:=by rcases ha with⟨rfl,_⟩|⟨rfl,_⟩<;>exact⟨_,rfl⟩
       obtain⟨z2,rfl⟩:=this;rcases hq with⟨q1,q2⟩|⟨x,cs,T,fr,q1,q2,q3,q4,hg,q5,q6,q7⟩
       ·exact⟨q0,.inl ⟨by rw[e1];exact q1,q2⟩⟩
       ·refine⟨q0,.inr ⟨x,cs,T,fr,by rw[e1];exact q1,by rw[qp m _ x M hb q1];exact q2,q3,fun O hs=>?_,fun O=>qo x q1 O hg,by rw[e2];exact q5,q6,fun i j hi J=>⟨(q7 i j hi J).1,(q7 i j hi J).2.mono hp ql⟩⟩⟩;have ja:=jh x q1 hs O;rcases ha with⟨ha,_⟩|⟨ha,_⟩
        ·simp only[Blk.arr.injEq,true_and] at ha;subst ha;exact q4 O ja
        ·simp[frz] at ha;rw[ha] at O;cases O
     by_cases hc:fz=true∧m∈L
     ·rw[if_pos hc];exact qh _ (.inr ⟨rfl,hc⟩) (by intro n;cases b<;>rfl)
     ·rw[if_neg hc];exact qh _ (.inl ⟨rfl,hc⟩) (fun _=>rfl)
   ·obtain⟨b1,qe⟩:=Option.isSome_iff_exists.1 h1;obtain⟨b3,jr⟩:=Option.isSome_iff_exists.1 Y
    have mixed:∀(j:Nat) (b:Blk) (m':Name) (qq:Blk),G.getD j none=some b→ρ' (.b j)=some x→m'∉B→σ.h m'=some qq→ρ m'=some x→False:=by
     intro j b m' qq J U qy h7 hk;rcases h0 j x (by rw[J];rfl) U with h|⟨n,I,hxn⟩
     ·exact absurd (H.hok.lt (by simp[h7]) hk) (by omega)
     ·obtain⟨i,hi⟩:=List.mem_iff_getElem?.1 I;obtain⟨bi,js,_⟩:=hf i n hi;obtain rfl:=H.hok.inj m' n x (by simp[h7]) (by simp[js]) hk hxn;exact qy I
    rcases h9 m b1 qe with⟨j,b,J,_,e1,_,e3⟩|⟨M,_,e1,_,b,hb,_⟩<;>rcases h9 m' b3 jr with⟨j',b',qg,_,qb,_,jq⟩|⟨qy,_,qb,_,b',F,_⟩
    ·rw[e1] at h4;rw[qb] at h5;have:=hpost.hok.inj (.b j) (.b j') x (by simp only[Hn];rw[J];rfl) (by simp only[Hn];rw[qg];rfl) h4 h5;rw[this] at e3;exact Option.some.inj (e3.symm.trans jq)
    ·rw[e1] at h4;rw[qb] at h5;exact(mixed j b m' b' J h4 qy F h5).elim
    ·rw[e1] at h4;rw[qb] at h5;exact(mixed j' b' m b qg h5 M hb h4).elim
    ·rw[e1] at h4;rw[qb] at h5;exact H.hok.inj m m' x (by simp[hb]) (by simp[F]) h4 h5
  have hu:∀n x,n∈B→ρ n=some x→C.w0.heap.size≤x∨C.Mut x:=by
   intro n x I U;obtain⟨i,hi⟩:=List.mem_iff_getElem?.1 I;obtain⟨b,hb,_⟩:=hf i n hi;exact H.mine n x (by simp[hb]) U
  refine⟨_,_,v,S2,ρ2,κ2,rfl,hK,⟨H.nt,H.defers,fun t=>?_,jn,Nat.le_trans H.size hpost.size,fun y hy M=>?_,fun m x h1 Y=>?_,fun y hy=>hp y (H.S0 y hy),fun y hy=>?_,⟨hpost.out.1.trans H.out.1,hpost.out.2.trans H.out.2⟩,fun j b' F=>?_⟩,back r v (fun h1 Y=>(jj h1 Y).1) hrv⟩
  ·refine(H.slots t).mono hp ql fun m M=>q9 m fun j h1 Y e=>?_;subst e;rw[(hw j h1 Y).2.1 t] at M;cases M
  ·rw[hpost.old y (Nat.lt_of_lt_of_le hy H.size) fun qz=>?_]
   ·exact H.old y hy M
   ·obtain⟨n,I,U⟩:=(ht y).1 qz;rcases hu n y I U with h|h
    ·omega
    ·exact M h
  ·obtain⟨b1,qe⟩:=Option.isSome_iff_exists.1 h1;rcases h9 m b1 qe with⟨j,b,J,_,e1,_,_⟩|⟨M,_,e1,_,b,hb,_⟩
   ·rw[e1] at Y;rcases h0 j x (by rw[J];rfl) Y with h|⟨n,I,U⟩
    ·exact .inl (Nat.le_trans H.size h)
    ·exact hu n x I U
   ·rw[e1] at Y;exact H.mine m x (by simp[hb]) Y
  ·rcases hpost.new y hy.1 with(h|⟨n,I,U⟩)|h|h
   ·exact H.Snew y h
   ·rcases H.mine n y (he n I).2 U with h|h
    ·exact .inr (.inl h)
    ·exact .inr (.inr h)
   ·exact .inr (.inl (Nat.le_trans H.size h))
   ·obtain⟨n,I,U⟩:=(ht y).1 h;rcases hu n y I U with h|h
    ·exact .inr (.inl h)
    ·exact .inr (.inr h)
  ·obtain⟨e1,e2,b0,h1,h2⟩:=q9 (.b j) (fun _ _ _=>by simp) b' F;obtain⟨e3,e4,b1,Y,h4⟩:=H.keep j b0 h1;exact⟨e1.trans e3,e2.trans e4,b1,Y,Blk.same_trans h4 h2⟩
 ·exact hv.elim
end
section
variable [Envs]
variable {P:Program}{C:Ctx}{a:Act}{w:World}{S:Nat→Prop}{ρ:Name→Option Nat}{κ:Name→Nat}
structure St where
 s:List (Nat×AV)
 h:List (Name×Blk)
def look:List (Nat×AV)→Nat→AV
 | [],_=>.junk
 |(i,x)::r,t=>if t=i then x else look r t
def aB:List (Name×Blk)→Name→Option Blk
 | [],_=>none
 |(i,x)::r,t=>if t=i then some x else aB r t
def St.f (σ:St):FSt:=⟨look σ.s,aB σ.h⟩
def put (d:Option Nat) (x:AV) (s:List (Nat×AV)):List (Nat×AV):=
 match d with
 |some d=>(d,x)::s
 |none=>s
theorem jX (d:Option Nat) (x:AV) (s:List (Nat×AV)):look (put d x s)=upd (look s) d x:=by
 cases d<;>rfl
def hset (n:Name) (b:Blk):List (Name×Blk)→List (Name×Blk)
 | []=>[(n,b)]
 |(i,x)::r=>if n=i then(i,b)::r else(i,x)::hset n b r
theorem u6 (n:Name) (b:Blk):∀l,aB (hset n b l)=hput (aB l) n (some b)
 | []=>by funext m;simp only[hset,aB,hput]
 | (i,x)::r=>by
  funext m
  simp only[hset,hput];split
  ·subst_vars
   simp only[aB];split<;>simp_all
  ·rename_i F;simp only[aB];by_cases G:m=i
   ·subst G;simp[Ne.symm F]
   ·simp only[G,if_false,u6 n b r,hput]
def Name.isT:Name→Bool
 |.t _ _=>true
 |.b _=>false
def bT (n:Name) (σ:St):Bool:=n.isT&&σ.s.all (fun p=>!p.2.has n)&&σ.h.all (fun p=>!decide (p.1=n)&&!p.2.has n)
theorem aEF:∀(s:List (Nat×AV)) (t:Nat),look s t=.junk∨∃p,p∈s∧p.2=look s t
 | [],_=>.inl rfl
 | (i,x)::r,t=>by
  simp only[look];split
  ·exact .inr ⟨(i,x),by simp,rfl⟩
  ·rcases aEF r t with h|⟨p,hp,h⟩
   ·exact .inl h
   ·exact .inr ⟨p,List.mem_cons_of_mem _ hp,h⟩
theorem nT:∀(l:List (Name×Blk)) (n:Name) (b:Blk),aB l n=some b→(n,b)∈l
 | [],_,_,h=>by simp[aB] at h
 | (i,x)::r,n,b,h=>by
  simp only[aB] at h;split at h
  ·obtain rfl:=Option.some.inj h;subst_vars;simp
  ·exact List.mem_cons_of_mem _ (nT r n b h)
theorem aFP {l:List (Name×Blk)}{n:Name} (h:∀p,p∈l→p.1≠n):aB l n=none:=by
 cases hl:aB l n with
 |none=>rfl
 |some b=>exact absurd rfl (h _ (nT l n b hl))
theorem dI {n:Name}{σ:St} (h:bT n σ=true):jM n σ.f:=by
 simp only[bT,Bool.and_eq_true,List.all_eq_true,Bool.not_eq_true',decide_eq_false_iff_not] at h;obtain⟨⟨I,H⟩,h2⟩:=h
 have F:∀j,n≠.b j:=by
  rintro j rfl;cases I
 have h:=And.intro H h2;clear H h2;refine⟨⟨aFP fun p G=>(h.2 p G).1,F⟩,fun t=>?_,fun m b F=>(h.2 _ (nT _ _ _ F)).2⟩;rcases aEF σ.s t with e|⟨p,G,e⟩
 ·simp only[St.f,e,AV.has]
 ·simp only[St.f,←e];exact h.1 p G
def aW (n:Name) (σ:St):St:=⟨σ.s.map fun p=>(p.1,scr n p.2),(σ.h.filter fun p=>!decide (p.1=n)).map fun p=>(p.1,fM n p.2)⟩
theorem mM (f:AV→AV) (F:f .junk=.junk):∀(s:List (Nat×AV)) (t:Nat),look (s.map fun p=>(p.1,f p.2)) t=f (look s t)
 | [],_=>by simp[look,F]
 | (i,x)::r,t=>by
  simp only[List.map_cons,look];split
  ·rfl
  ·exact mM f F r t
theorem rJ (n:Name):∀(l:List (Name×Blk)) (m:Name),aB ((l.filter fun p=>!decide (p.1=n)).map fun p=>(p.1,fM n p.2)) m=if m=n then none else(aB l m).map (fM n)
 | [],m=>by simp[aB]
 | (i,x)::r,m=>by
  have G:=rJ n r m;by_cases hi:i=n
  ·subst hi;simp only[List.filter_cons,decide_true,Bool.not_true,Bool.false_eq_true,if_false,aB,G];by_cases F:m=i
   ·simp[F]
   ·simp[F]
  ·simp only[List.filter_cons,hi,decide_false,Bool.not_false,if_true,List.map_cons,aB,G];by_cases F:m=i
   ·subst F;simp[hi]
   ·simp[F]
theorem nX (n:Name) (σ:St):(aW n σ).f=nA n σ.f:=by
 simp only[St.f,aW,nA,FSt.mk.injEq];exact⟨funext fun t=>mM (scr n) (by simp[scr,AV.has]) _ t,funext fun m=>rJ n _ m⟩
def aO:Option Name→St→St
 |some n,σ=>aW n σ
 |none,σ=>σ
theorem aEO (on:Option Name) (σ:St):(aO on σ).f=aA0 on σ.f:=by
 cases on
 ·rfl
 ·exact nX _ _
/-! ## a call on lists -/
def qV (g:Blk→Blk) (d nB:Nat):Nat→List (Option Blk)→List (Name×Blk)
 |_,[]=>[]
 |i,none::r=>qV g d nB (i+1) r
 |i,some b::r=>if nB≤i then(.t d i,g b)::qV g d nB (i+1) r else qV g d nB (i+1) r
def aFd (B:List Name) (d:Nat) (hout:List (Option Blk)) (fz:Bool) (L:List Name) (m:Name) (b:Blk):Option Blk:=
 match jT B m with
 |some j=>(hout.getD j none).map (rnB (phi B d hout.length))
 |none=>some (if fz=true∧m∈L then frz b else b)
def aCI (f:Name→Blk→Option Blk):List (Name×Blk)→List (Name×Blk)
 | []=>[]
 | (m,b)::r=>match f m b with
  |some b'=>(m,b')::aCI f r
  |none=>aCI f r
def x9 (h:List (Name×Blk)) (B:List Name) (d:Nat) (hout:List (Option Blk)) (fz:Bool) (L:List Name):List (Name×Blk):=
 qV (rnB (phi B d hout.length)) d B.length 0 hout++aCI (aFd B d hout fz L) h
theorem aAf (l F:List (Name×Blk)) (m:Name):aB (l++F) m=(aB l m).or (aB F m):=by
 induction l with
 |nil=>simp[aB]
 | cons p r ih =>
  simp only[List.cons_append,aB];split
  ·simp
  ·exact ih
def sH (g:Blk→Blk) (d nB i:Nat) (l:List (Option Blk)):Name→Option Blk
 |.t d' j=>if d'=d∧nB≤j∧i≤j∧j<i+l.length then(l.getD (j-i) none).map g else none
 |.b _=>none
theorem yR (g:Blk→Blk) (d nB:Nat):∀(l:List (Option Blk)) (i:Nat) (m:Name),aB (qV g d nB i l) m=sH g d nB i l m
 | [],i,m=>by
  cases m with
  |b=>rfl
  | t d' j =>
   have:¬(d'=d∧nB≤j∧i≤j∧j<i+([]:List (Option Blk)).length):=by
    rintro⟨_,_,M,h2⟩;simp at h2;omega
   simp only[qV,aB,sH,this,if_false]
 | o::r,i,m=>by
  have J:=yR g d nB r (i+1) m
  have skip:(∀b,o=some b→¬nB≤i)→aB (qV g d nB (i+1) r) m=sH g d nB i (o::r) m:=by
   intro L;rw[J];cases m with
   |b=>rfl
   | t d' j =>
    simp only[sH,List.length_cons];by_cases H:j=i
    ·subst H;rw[if_neg (by omega)];cases o with
     |none=>simp
     |some b=>rw[if_neg (by intro h;exact L b rfl h.2.1)]
    ·by_cases G:d'=d∧nB≤j∧i+1≤j∧j<i+1+r.length
     ·rw[if_pos G,if_pos (by omega)];have:j-i=(j-(i+1))+1:=by omega
      rw[this];rfl
     ·rw[if_neg G,if_neg (by omega)]
  cases o with
  |none=>exact skip (by simp)
  | some b =>
   simp only[qV];split
   ·rename_i F;simp only[aB];split
    ·subst_vars
     simp[sH,F]
    ·rename_i I;rw[J];cases m with
     |b=>rfl
     | t d' j =>
      simp only[sH,List.length_cons];by_cases H:d'=d∧j=i
      ·obtain⟨rfl,rfl⟩:=H;exact absurd rfl I
      ·by_cases G:d'=d∧nB≤j∧i+1≤j∧j<i+1+r.length
       ·rw[if_pos G,if_pos (by omega)];have:j-i=(j-(i+1))+1:=by omega
        rw[this];rfl
       ·rw[if_neg G,if_neg (by omega)]
   ·rename_i F;exact skip (fun _ _=>F)
theorem yQ (f:Name→Blk→Option Blk) (H:∀m b I,f m b=none→f m I=none) (m:Name):∀h:List (Name×Blk),aB (aCI f h) m=(aB h m).bind (f m)
 | []=>rfl
 | (i,x)::r=>by
  have G:=yQ f H m r;simp only[aCI,aB];by_cases F:m=i
  ·subst F;cases hfx:f m x with
   | none =>
    simp only[G,if_true,Option.bind_some,hfx];cases hr:aB r m with
    |none=>rfl
    |some b=>exact H m x b hfx
   |some b=>simp[aB,hfx]
  ·cases hfx:f i x with
   |none=>simp[G,F]
   |some b=>simp[aB,F,G]
theorem aLY {σ:St}{B:List Name}{d:Nat}{F:List (Option Blk)}{fz:Bool}{L:List Name} (J:∀m,m∈B→(aB σ.h m).isSome) (G:∀j,B.length≤j→j<F.length→aB σ.h (.t d j)=none) :
  aB (x9 σ.h B d F fz L)=aft (aB σ.h) B d F fz L:=by
 funext m
 unfold x9
 rw [aAf,yQ _ (fun m b U h=>by
   unfold aFd at *
   cases hi:jT B m with
   |none=>rw[hi] at h;cases h
   |some j=>rw[hi] at h;exact h),yR]
 unfold aft
 have hi:∀d' j,d'=d→B.length≤j→j<F.length→jT B (.t d' j)=none:=by
  rintro d' j rfl H h2;cases hi:jT B (.t d' j) with
  |none=>rfl
  | some i =>
   have:=J _ (List.mem_of_getElem? (nP hi));rw[G j H h2] at this;cases this
 have I:∀m,(aB σ.h m).bind (aFd B d F fz L m)=match jT B m with
   |some j=>(F.getD j none).map (rnB (phi B d F.length))
   |none=>if fz=true∧m∈L then(aB σ.h m).map frz else aB σ.h m:=by
  intro m;cases hx:jT B m with
  | none =>
   simp only;cases aB σ.h m with
   |none=>simp
   | some b =>
    simp only[Option.bind_some,aFd,hx];split<;>rfl
  | some j =>
   have:=J _ (List.mem_of_getElem? (nP hx));obtain⟨b,O⟩:=Option.isSome_iff_exists.1 this;simp only[O,Option.bind_some,aFd,hx]
 rw[I];cases m with
 | b i =>
  simp only[sH,Option.none_or]
  all_goals(cases jT B (.b i)<;>rfl)
 | t d' j =>
  simp only[sH,Nat.zero_le,true_and,Nat.zero_add,Nat.sub_zero];by_cases M:d'=d∧B.length≤j∧j<F.length
  ·obtain⟨rfl,H,h2⟩:=M;rw[hi d' j rfl H h2];simp only[H,h2,and_self,if_true,G j H h2];cases(F.getD j none).map (rnB (phi B d' F.length))<;>simp
  ·simp only[M,if_false,Option.none_or]
   all_goals(cases jT B (.t d' j)<;>rfl)
end
section
variable [Envs]
def pJ:List Nat→List Value→List Value→Option Bool
 | [],[],[]=>some true
 | k::ks,x::r,y::s=>match eqV k x y,pJ ks r s with
  |some a,some b=>some (a&&b)
  |_,_=>none
 |_,_,_=>none
mutual
def eqT (P:Program):Nat→TypeId→Option (List Nat)
 |0,_=>none
 | d+1,t=>match P.underlying t with
  |some .bool=>some [1]
  |some (.int _)=>some [0]
  |some .string=>some [2]
  | some (.struct fs)=>if P.stoodInHeld t then none else match eqF P d fs.toList 0 with
   |some l=>if jS P t=some l.length then some l else none
   |none=>none
  |_=>none
def eqF (P:Program):Nat→List Field→Nat→Option (List Nat)
 |0,_,_=>none
 |_+1,[],_=>some []
 | d+1,f::fs,o=>if f.name != "_" && f.offset==o then match eqT P d f.type with
   | some m=>if m.length=0 then none else match eqF P d fs (o+m.length) with
    |some l=>some (m++l)
    |none=>none
   |none=>none
  else none
end
theorem aAm:∀{F:List Nat}{l m:List Value}{b:Bool},pJ F l m=some b→l.length=F.length∧m.length=F.length
 | [],[],[],_,_=>⟨rfl,rfl⟩
 | k::F,x::r,y::s,b,h=>by
  simp only[pJ] at h;split at h
  ·rename_i a I J h2;obtain⟨G,H⟩:=aAm h2;simp[G,H]
  ·cases h
 | [],[],_::_,_,h=>by simp[pJ] at h
 | [],_::_,_,_,h=>by simp[pJ] at h
 |_::_,[],_,_,h=>by simp[pJ] at h
 |_::_,_::_,[],_,h=>by simp[pJ] at h
theorem aA6:∀{F I:List Nat}{l m:List Value}{b:Bool},pJ (F++I) l m=some b→∃G H,pJ F (l.take F.length) (m.take F.length)=some G∧pJ I (l.drop F.length) (m.drop F.length)=some H∧b=(G&&H)
 | [],I,l,m,b,h=>⟨true,b,by simp[pJ],by simpa using h,by simp⟩
 | k::F,I,l,m,b,h=>by
  cases l with
  |nil=>simp[pJ] at h
  | cons x l=>cases m with
   |nil=>simp[pJ] at h
   | cons y m =>
    simp only[List.cons_append,pJ] at h;split at h
    ·rename_i a O M h2;obtain⟨G,H,J,L,rfl⟩:=aA6 h2;obtain rfl:=Option.some.inj h;exact⟨a&&G,H,by simp only[List.length_cons,List.take_succ_cons,pJ,M,J],by simpa using L,by rw[Bool.and_assoc]⟩
    ·cases h
def yY (g:Bool) (xs:List Value):Value:=if g then .agg xs.toArray else xs.headD undef
theorem aEh {P:Program}{t:TypeId}{xs:Array Value}{o n:Nat}{g:Bool}{w:World} (F:iO P t=some g) (H:g=true→jS P t=some n) (G:g=false→n=1) (I:o+n≤xs.size) :
  (part t xs o).run P w=.ok (yY g ((xs.toList.drop o).take n)) w:=by
 cases g with
 | true =>
  simp only[part,Sem.run_bind,lU F,Result.andThen_ok,if_true,run_sizeOf (H rfl),Sem.run_pure,yY];congr 2;apply Array.ext';simp
 | false =>
  obtain rfl:=G rfl;have:o<xs.size:=by omega
  simp only[part,Sem.run_bind,lU F,Result.andThen_ok,Bool.false_eq_true,if_false,yY];rw[Array.getElem?_eq_getElem this];simp only[Sem.run_pure]
  have e:(xs.toList.drop o).take 1=[xs[o]]:=by
   rw[List.drop_eq_getElem_cons (by simpa using this)];simp
  rw[e];rfl
theorem aKG {P:Program}:∀{d:Nat}{t:TypeId}{l:List Nat},eqT P d t=some l→∃g,iO P t=some g∧(g=true→jS P t=some l.length)∧(g=false→l.length=1)
 |0,_,_,h=>by simp[eqT] at h
 | d+1,t,l,h=>by
  simp only[eqT] at h;split at h
  ·rename_i F;obtain rfl:=Option.some.inj h;exact⟨false,by simp[iO,F],by simp,by simp⟩
  ·rename_i F;obtain rfl:=Option.some.inj h;exact⟨false,by simp[iO,F],by simp,by simp⟩
  ·rename_i F;obtain rfl:=Option.some.inj h;exact⟨false,by simp[iO,F],by simp,by simp⟩
  ·rename_i G F;split at h
   ·cases h
   ·split at h
    ·rename_i I H;split at h
     ·obtain rfl:=Option.some.inj h;exact⟨true,by simp[iO,F],fun _=>by assumption,by simp⟩
     ·cases h
    ·cases h
  ·cases h
theorem aLI {P:Program} (w:World):∀(d:Nat),(∀(t:TypeId) (l:List Nat),eqT P d t=some l→∀(g:Bool),iO P t=some g→∀(xs ys:List Value) (b:Bool) (k:Nat),pJ l xs ys=some b→
      (Op.equalIn (d+k) t (yY g xs) (yY g ys)).run P w=.ok b w)∧
  ∀(L:List Field) (o:Nat) (l:List Nat),eqF P d L o=some l→∀(xs ys:Array Value) (b:Bool) (k:Nat),pJ l (xs.toList.drop o) (ys.toList.drop o)=some b→(Op.eqFields (d+k) xs ys L).run P w=.ok b w:=by
 intro d
 induction d with
 |zero=>exact⟨fun t l h=>by simp[eqT] at h,fun L o l h=>by simp[eqF] at h⟩
 | succ d ih =>
  obtain⟨hk,hc⟩:=ih;refine⟨fun t l h g H xs ys b k G=>?_,fun L o l h xs ys b k G=>?_⟩
  ·simp only[eqT] at h
   have J:∀(c:Nat),l=[c]→g=false→∃x y,yY g xs=x∧yY g ys=y∧eqV c x y=some b:=by
    rintro c rfl rfl
    match xs,ys,G with
    | [],_,G=>simp[pJ] at G
    |_::_,[],G=>simp[pJ] at G
    | x::r,y::s,G =>
     simp only[pJ] at G;split at G
     ·rename_i a b' h1 h2;have:=aAm h2;have M:r=[]:=List.length_eq_zero_iff.1 this.1;have e2:s=[]:=List.length_eq_zero_iff.1 this.2;subst M;subst e2;simp only[pJ,Option.some.injEq] at h2;subst h2;simp only[Bool.and_true] at G;exact⟨x,y,rfl,rfl,by rw[h1];exact G⟩
     ·cases G
   have M:d+1+k=(d+k)+1:=by omega
   rw[M];split at h
   ·rename_i I;simp only[iO,I,Option.some.injEq] at H;obtain⟨x,y,hx,hy,F⟩:=J 1 (Option.some.inj h).symm H.symm;rw[hx,hy];unfold eqV at F;split at F<;>first|(exact run_equalIn_bool' w _ t _ _ I ▸ (by rw[Option.some.inj F]))|simp_all
   ·rename_i kk I;simp only[iO,I,Option.some.injEq] at H;obtain⟨x,y,hx,hy,F⟩:=J 0 (Option.some.inj h).symm H.symm;rw[hx,hy];cases x<;>simp only[eqV] at F<;>try(cases F;done)
    cases y<;>simp only at F<;>try(cases F;done)
    split at F
    ·obtain rfl:=Option.some.inj F
     subst_vars
     exact run_equalIn_int w _ t _ _ _ _ I
    ·cases F
   ·rename_i I;simp only[iO,I,Option.some.injEq] at H;obtain⟨x,y,hx,hy,F⟩:=J 2 (Option.some.inj h).symm H.symm;rw[hx,hy];cases x<;>simp only[eqV] at F<;>try(cases F;done)
    cases y<;>simp only at F<;>try(cases F;done)
    obtain rfl:=Option.some.inj F;exact run_equalIn_string w _ t _ _ I
   ·rename_i L I;simp only[iO,I,Option.some.injEq] at H;subst H;split at h
    ·cases h
    ·rename_i hj;split at h
     ·rename_i l' hl;split at h
      ·obtain rfl:=Option.some.inj h;have U:P.fieldsOf t=L:=by simp[Program.fieldsOf,I]
       simp only[yY,if_true];rw[run_equalIn_struct w (d+k) t _ _ (by rw[U];exact I) (by simpa using hj),U];exact hc _ _ _ hl _ _ b k (by simpa using G)
      ·cases h
     ·cases h
   ·cases h
  ·cases L with
   | nil =>
    simp only[eqF,Option.some.injEq] at h;subst h
    have:b=true:=by
     have hl:=aAm G;have M:xs.toList.drop o=[]:=List.length_eq_zero_iff.1 hl.1;have e2:ys.toList.drop o=[]:=List.length_eq_zero_iff.1 hl.2;rw[M,e2] at G;simpa[pJ] using G.symm
    subst this;simp[Op.eqFields]
   | cons f L =>
    simp only[eqF] at h;split at h
    ·rename_i O;simp only[Bool.and_eq_true,bne_iff_ne,ne_eq,beq_iff_eq] at O;split at h
     ·rename_i m hm;split at h
      ·cases h
      rename_i hn;split at h
      ·rename_i l' hd;obtain rfl:=Option.some.inj h;obtain⟨g,H,Y,ha⟩:=aKG hm;have hb:=aAm G;simp only[List.length_drop,Array.length_toList,List.length_append] at hb;obtain⟨b1,b2,q1,q2,rfl⟩:=aA6 G;have he:=aEh (w:=w) (xs:=xs) (o:=o) H Y ha (by omega);have hf:=aEh (w:=w) (xs:=ys) (o:=o) H Y ha (by omega);have M:d+1+k=d+(1+k):=by omega
       have hq:=hk _ _ hm g H _ _ b1 (1+k) q1;simp only[Op.eqFields,ne_eq,O.1,not_false_eq_true,if_true,O.2,Sem.run_bind,he,hf,Result.andThen_ok,M,hq];cases b1 with
       |false=>simp
       | true =>
        simp only[Bool.not_true,Bool.false_eq_true,if_false,Bool.true_and];exact hc L (o+m.length) l' hd xs ys b2 (1+k) (by rw[List.drop_drop,List.drop_drop] at q2;exact q2)
      ·cases h
     ·cases h
    ·cases h
theorem aJm {P:Program}{S:Nat→Prop}{w:World}{ρ:Name→Option Nat}{κ:Name→Nat}{h:Name→Option Blk}:∀{J:List Nat}{c F:List AV}{vs us:List Value}{b:Bool},eqC J c F=some b→
  c.length=vs.length→F.length=us.length→(∀j,j<c.length→RV S w ρ κ h (c.getD j .junk) (vs.getD j undef))→(∀j,j<F.length→RV S w ρ κ h (F.getD j .junk) (us.getD j undef))→pJ J vs us=some b
 | [],[],[],[],[],b,hc,_,_,_,_=>by simpa[eqC,pJ] using hc
 | k::J,x::r,y::s,v::vs,u::us,b,hc,h1,h2,h3,h4=>by
  have G:=h3 0 (by simp);have H:=h4 0 (by simp);simp only[List.getD_cons_zero] at G H;cases x<;>try(simp[eqC] at hc;done)
  cases y<;>try(simp[eqC] at hc;done)
  cases G with|clo G=>cases G with|v x =>
  cases H with|clo H=>cases H with|v y =>
  simp only[eqC] at hc;split at hc
  ·rename_i a O L M;have:=aJm (P:=P) M (by simpa using h1) (by simpa using h2) (fun j I=>by simpa using h3 (j+1) (by simpa using I)) (fun j I=>by simpa using h4 (j+1) (by simpa using I));simp only[pJ,L,this];exact hc
  ·cases hc
 | [],[],_::_,_,_,b,hc,_,_,_,_=>by simp[eqC] at hc
 | [],_::_,_,_,_,b,hc,_,_,_,_=>by simp[eqC] at hc
 |_::_,[],_,_,_,b,hc,_,_,_,_=>by simp[eqC] at hc
 |_::_,_::_,[],_,_,b,hc,_,_,_,_=>by simp[eqC] at hc
 |_,_::_,_::_,[],_,b,hc,h1,_,_,_=>by simp at h1
 |_,_::_,_::_,_::_,[],b,hc,_,h2,_,_=>by simp at h2
 |_,[],[],_::_,_,b,hc,h1,_,_,_=>by simp at h1
 |_,[],[],[],_::_,b,hc,_,h2,_,_=>by simp at h2
variable {P:Program}{C:Ctx}{σ:FSt}{a:Act}{w:World}{S:Nat→Prop}{ρ:Name→Option Nat}{κ:Name→Nat}{K:AV→Prop}
theorem aIG (I:OK C σ a w S ρ κ) {op:BinOp}{t:TypeId}{ks:List Nat}{x y:Operand}{H:Bool} (M:(op=.eql∧H=false)∨(op=.neq∧H=true)) (ht:eqT P 30 t=some ks) (hg:P.eqGuardType P.depth t=false) (ha:iO P t=some true)
  (G:rd (evO σ.s) σ.h K (.eqA H ks x y)):Ans P S w ρ κ σ.h K (do eqGuard op t x y (a.eval x) (a.eval y);binOp op t (a.eval x) (a.eval y)):=by
 have U:=I.ev x;have Y:=I.ev y;generalize a.eval x=va at U⊢;generalize a.eval y=vb at Y⊢;simp only[rd] at G;split at G
 ·rename_i c c' hc J;rw[hc] at U;rw[J] at Y;obtain⟨vs,rfl,l1,r1⟩:=gL U;obtain⟨us,rfl,l2,r2⟩:=gL Y;split at G
  ·rename_i b hb;have O:=aJm (P:=P) (vs:=vs.toList) (us:=us.toList) hb (by simpa using l1) (by simpa using l2) (fun j L=>by rw[getD_toList];exact r1 j L) (fun j L=>by rw[getD_toList];exact r2 j L);have F:=(aLI (P:=P) w 30).1 t ks ht true ha vs.toList us.toList b 9970 O;simp only[yY,if_true] at F;rcases M with⟨rfl,rfl⟩|⟨rfl,rfl⟩
   ·refine⟨_,_,G,?_,.clo (.v _)⟩;simp only[Sem.run_bind,run_eqGuard_agg w _ t x y vs us hg,Result.andThen_ok,run_eql_struct w t vs us];rw[show(10000:Nat)=30+9970 from rfl,F];rfl
   ·refine⟨_,_,G,?_,.clo (.v _)⟩;simp only[Sem.run_bind,run_eqGuard_agg w _ t x y vs us hg,Result.andThen_ok,run_neq_struct w t vs us];rw[show(10000:Nat)=30+9970 from rfl,F];rfl
  ·exact G.elim
 ·exact G.elim
end
section
variable [Envs]
variable {P:Program}{C:Ctx}{σ:FSt}{a:Act}{w:World}{S:Nat→Prop}{ρ:Name→Option Nat}{κ:Name→Nat}{K:AV→Prop}
theorem aB6 (F:List Int):F.foldl (fun r n=>r.push (UInt8.ofNat n.toNat)) ByteArray.empty=aBE F:=by
 have G:∀(F:List Int) (b:ByteArray),F.foldl (fun r n=>r.push (UInt8.ofNat n.toNat)) b=⟨b.data++(F.map fun n=>UInt8.ofNat n.toNat).toArray⟩:=by
  intro F
  induction F with
  |nil=>intro b;cases b;simp
  | cons n r ih =>
   intro b;simp only[List.foldl_cons,ih];cases b;simp[ByteArray.push]
 rw[G];simp[aBE,ByteArray.empty,ByteArray.emptyWithCapacity];rfl
theorem yL:∀{l:List (List AV)}{F:List Int},qU l=some F→l=F.map fun n=>[.v (.int .u8 n)]
 | [],F,h=>by simp[qU] at h;simp[h]
 | [.v (.int .u8 n)]::r,F,h=>by
  simp only[qU] at h;split at h
  ·rename_i l G;obtain rfl:=Option.some.inj h;rw[yL G];rfl
  ·cases h
 | []::r,F,h=>by simp[qU] at h
 |(x::y::s)::r,F,h=>by simp[qU] at h
 | [x]::r,F,h=>by
  cases x<;>try(simp[qU] at h;done)
  rename_i v;cases v<;>try(simp[qU] at h;done)
  rename_i k n;cases k<;>try(simp[qU] at h;done)
  simp only[qU] at h;split at h
  ·rename_i l G;obtain rfl:=Option.some.inj h;rw[yL G];rfl
  ·cases h
theorem aLw (U:OK C σ a w S ρ κ) {s d e:TypeId} (hs:P.underlying s=some (.slice e)) (he:P.underlying e=some (.int .u8)) (hd:P.underlying d=some .string) {x:Operand}
  (L:rd (evO σ.s) σ.h K (.b2s x)):Ans P S w ρ κ σ.h K (convert s d (a.eval x)):=by
 have hx:=U.ev x;generalize a.eval x=va at hx⊢;simp only[rd] at L;split at L
 ·rename_i l hl;split at L
  ·rename_i ns ha;obtain⟨base,cap,f,rfl,hr⟩:=aBK U.hok hx hl;have O:=yL ha;refine⟨_,_,L,?_,.clo (.v _)⟩;rw[run_convert_bytes_string w s d e _ _ _ hs he hd];have G:l.length=ns.length:=by rw[O];simp
   cases ns with
   | nil =>
    have h0:l.length=0:=by simpa using G
    rw[h0];cases base with
    | none =>
     simp[Conv.bytesToString,aBE,ByteArray.empty,ByteArray.emptyWithCapacity];rfl
    | some A =>
     rw[run_bytesToString w A 0 cap [] (by simp[loadCells,loadCellsFrom]),aB6]
   | cons J ns0 =>
    have F:=hr.cell w rfl;obtain⟨b,off,hb,_⟩:=F 0 (by simp at G;omega);subst hb;rw[G];rw[run_bytesToString w ⟨b,off,none⟩ _ cap (J::ns0) ?_,aB6];rw[run_loadCells w ⟨b,off,none⟩ _ f (fun j H=>?_)]
    ·congr 1;apply Array.ext';simp only;apply List.ext_getElem?;intro j;rcases Nat.lt_or_ge j (J::ns0).length with H|H
     ·have I:=hr.rc j (by omega)
      have e1:pQ 1 l j=.v (.int .u8 (J::ns0)[j]):=by
       have:l[j]? = some [.v (.int .u8 (J::ns0)[j])]:=by rw[O];simp only[List.getElem?_map,List.getElem?_eq_getElem H,Option.map_some]
       simp[pQ,List.getD,this,Nat.mod_one]
      rw[e1] at I
      have e2:f j=.int .u8 (J::ns0)[j]:=by
       generalize f j=u at I;cases I with|v _=>rfl
      rw[List.getElem?_map,List.getElem?_range H,List.getElem?_map,List.getElem?_eq_getElem H,Option.map_some,Option.map_some,e2]
     ·rw[List.getElem?_eq_none (show(List.map f (List.range (J::ns0).length)).length≤j by simpa using H),List.getElem?_eq_none (show(List.map (Value.int .u8) (J::ns0)).length≤j by simpa using H)]
    ·obtain⟨b',hc,M,Y⟩:=F j (by omega);simp only[Option.some.injEq,Addr.mk.injEq,and_true] at M;obtain⟨rfl,rfl⟩:=M;rw[addr_add];exact Y
  ·exact L.elim
 ·exact L.elim
def aI6 (P:Program) (f:FuncId):Bool:=match P.funcs[f]? with
 |some fn=>fn.body.isNone&&fn.name == "internal/bytealg.IndexByteString" && fn.origin == ""
 |none=>false
theorem aJj {fn:Func} (h:fn.name = "internal/bytealg.IndexByteString"):Extern.find fn=some Extern.BytealgIndexByte.indexByte:=by
 unfold Extern.find;simp only[h];rfl
theorem aDS {fn:Func} (h:fn.name = "internal/bytealg.IndexByteString") (F:fn.origin = ""):Extern.findNext fn=none:=by
 unfold Extern.findNext;simp only[h,F];rfl
theorem aJ7 (I:OK C σ a w S ρ κ) {o:Oper}{c:Call}{f:FuncId}{x y:Operand} (O:o.op=.call c) (hc:c.callee=.value (.func f)) (G:c.args=#[x,y]) (hi:aI6 P f=true)
  (J:rd (evO σ.s) σ.h K (.idxB x y)):∃x' v,K x'∧(execOp a.eval o).run P w=.ok (.value v) w∧RV S w ρ κ σ.h x' v:=by
 have U:=I.ev x;have Y:=I.ev y
 have F:(execOp a.eval o).run P w=(callFunc f #[a.eval x,a.eval y]).run P w:=by
  simp[execOp,O,resolve,hc,G,Act.eval,Deferred.ofValue,invoke]
 generalize a.eval x=va at U F;generalize a.eval y=vb at Y F;simp only[rd] at J;split at J
 ·rename_i s n h1 h2;rw[h1] at U;rw[h2] at Y;obtain rfl:=bM U;obtain rfl:=bM Y;unfold aI6 at hi;split at hi
  ·rename_i fn M;simp only[Bool.and_eq_true,beq_iff_eq] at hi;have H:(fn.name == "runtime.NumGoroutine")=false:=by rw[hi.1.2];rfl
   refine⟨_,.int .i64 (xO s n),J,?_,.clo (.v _)⟩;rw[F,run_callFunc_indexByte M H hi.1.1 (aDS hi.1.2 hi.2) (aJj hi.1.2)]
   have e:Extern.BytealgIndexByte.indexByte #[Value.string s,.int .u8 n]=(do
       let b ←Extern.Bytes.bytesOf (.string s)
       let c ←Extern.Bytes.asByte (.int .u8 n)
       match(List.range b.size).find? (fun i=>b[i]! == c) with
       |some i=>pure (goInt i)
       |none=>pure (goInt (-1)):Sem Value):=rfl
   rw[e];simp only[Extern.Bytes.bytesOf,Extern.Bytes.asByte,Sem.run_bind,Sem.run_pure,Result.andThen_ok];unfold xO;split
   ·rename_i i L;simp only[L,Sem.run_pure,Result.andThen_ok,goInt]
   ·rename_i L;simp only[L,Sem.run_pure,Result.andThen_ok,goInt]
  ·cases hi
 ·exact J.elim
end
section
variable [Envs]
variable {P:Program}{C:Ctx}{a:Act}{w:World}{S:Nat→Prop}{ρ:Name→Option Nat}{κ:Name→Nat}
structure aJ where
 dst:Option Nat
 op:AOp
 guard:Option (Nat×Bool)
def dF:AV→List Name
 |.loc n _ _=>[n]
 |.ptr n _ _=>[n]
 |_=>[]
def bI:AV→List Name
 |.agg c=>c.flatMap dF
 |x=>dF x
def bH (h:List (Name×Blk)) (n:Name):List Name:=
 match aB h n with
 |some (.var c _)=>c.flatMap dF
 |_=>[]
def aFa (h:List (Name×Blk)) (xs:List AV) (bor:List Nat):List Name:=
 let t:=bor.flatMap fun i=>bI (xs.getD i .junk)
 t++t.flatMap (bH h)
def nodupB:List Name→Bool
 | []=>true
 |n::r=>!r.contains n&&nodupB r
def kF (d nB n:Nat) (σ:St):Bool:=(List.range n).all fun j=>decide (j<nB)||bT (.t d j) σ
def aD (P:Program) (f:FuncId) (hin:List Blk) (ys:List AV) (L:List Name) (d:Option Nat) (σ:St) (B:List Name) (K:St→Prop) (_:Tag K):Prop:=
 ∃ r hout fz,Fn P f hin ys r hout∧(fz=false→(L=[]∨(flat r=true∧∀b,some b∈hout→iF b)))∧
  kF (d.getD 0) B.length hout.length σ=true∧K ⟨put d (rn (phi B (d.getD 0) hout.length) r) σ.s,x9 σ.h B (d.getD 0) hout fz L⟩
def aCi (P:Program) (d:Option Nat) (σ:St) (K:St→Prop) (fv:AV) (xs:List AV) (B:List Name):Prop:=
 match fv with
 | .fn f caps=>match eO (conv (aB σ.h) 8 B false) (xs++caps),vI (aB σ.h) B B with
  |some (ys,L1),some (hin,L2)=>nodupB B=true∧aD P f hin ys (L1++L2) d σ B K .x
  |_,_=>False
 |_=>False
def bG (P:Program) (d:Option Nat) (σ:St) (K:St→Prop):AOp→Prop
 | .box x=>match d with
  |some d=>al (evO (look σ.s)) (aB σ.h) (.t d 0) (fun v b=>(bT (.t d 0) σ=true∧b.has (.t d 0)=false)∧K ⟨(d,v)::σ.s,(.t d 0,b)::σ.h⟩) (.box x)
  |none=>False
 | .alloc z=>match d with
  |some d=>al (evO (look σ.s)) (aB σ.h) (.t d 0) (fun v b=>(bT (.t d 0) σ=true∧b.has (.t d 0)=false)∧K ⟨(d,v)::σ.s,(.t d 0,b)::σ.h⟩) (.alloc z)
  |none=>False
 | .bslice k m z ps=>match d with
  |some d=>al (evO (look σ.s)) (aB σ.h) (.t d 0) (fun v b=>(bT (.t d 0) σ=true∧b.has (.t d 0)=false)∧K ⟨(d,v)::σ.s,(.t d 0,b)::σ.h⟩) (.bslice k m z ps)
  |none=>False
 | .mk k y z n=>match d with
  |some d=>al (evO (look σ.s)) (aB σ.h) (.t d 0) (fun v b=>(bT (.t d 0) σ=true∧b.has (.t d 0)=false)∧K ⟨(d,v)::σ.s,(.t d 0,b)::σ.h⟩) (.mk k y z n)
  |none=>False
 |.call f args bor=>aCi P d σ K (evO (look σ.s) f) (args.map (evO (look σ.s))) (aFa σ.h (args.map (evO (look σ.s))) bor)
 | .store k A X=>d=none∧match evO (look σ.s) A with
  | .ptr n e c=>match aB σ.h n,jL (aB σ.h) (evO (look σ.s) X) with
   |some b,some cs=>(b.fz=false∧0<k∧cs.length=k∧c+k≤(b.row e).length∧b.okc cs=true)∧K ⟨σ.s,hset n (b.setRow e (lay (b.row e) c cs)) σ.h⟩
   |_,_=>False
  |_=>False
 | .append k y A X=>match d with
  | some d=>match aBa k (aB σ.h) (evO (look σ.s) A),pO k (aB σ.h) (evO (look σ.s) X) with
   | some (on,l),some l'=>(bT (.t d 0) (aO on σ)=true∧(l.length+l'.length)*y≤2 ^ 47∧l.length+l'.length<2 ^ 62)∧
     K ⟨(d,.loc (.t d 0) 0 (l.length+l'.length))::(aO on σ).s,(.t d 0,.arr k (l++l') false)::(aO on σ).h⟩
   |_,_=>False
  |none=>False
 | .appendC k y A X=>match d with
  | some d=>match aBa k (aB σ.h) (evO (look σ.s) A),pO k (aB σ.h) (evO (look σ.s) X) with
   | some (on,l),some l'=>(bT (.t d 0) (aO on σ)=true∧(l.length+l'.length)*y≤2 ^ 47∧l.length+l'.length<2 ^ 62)∧
     K ⟨(d,.sl k (l++l'))::(aO on σ).s,(aO on σ).h⟩
   |_,_=>False
  |none=>False
 | .bsliceC k m z ps=>match d with
  |some d=>al (evO (look σ.s)) (aB σ.h) (.t d 0) (fun v b=>(bT (.t d 0) σ=true∧b.has (.t d 0)=false)∧∃rows,b=.arr k rows false∧v=.loc (.t d 0) 0 rows.length∧K ⟨(d,.sl k rows)::σ.s,σ.h⟩) (.bslice k m z ps)
  |none=>False
 | .clr k z X=>match evO (look σ.s) X with
  | .loc n off len=>match aB σ.h n with
   |some (.arr k' l fz)=>(fz=false∧k'=k∧z.length=k∧(z.all fun x=>nM (aB σ.h) x&&dY x)=true∧off+len≤l.length)∧K ⟨put d (.v (.tuple #[])) σ.s,hset n (.arr k (yU l off len z) false) σ.h⟩
   |_=>False
  |_=>False
 |op=>rd (evO (look σ.s)) (aB σ.h) (fun v=>K ⟨put d v σ.s,σ.h⟩) op
/-! ## resolving -/
def avs (z:Array Value):List AV:=z.toList.map fun x=>.v x
def rY (P:Program) (b:Builtin) (ts:List TypeId) (args:List Operand):Option AOp:=
 match b,ts,args with
 | .len,[t],[x]=>match P.underlying t with
  |some (.slice _)=>some (.len x)
  |some .string=>some (.lenS x)
  |some (.array n _)=>some (.lenC n)
  |_=>none
 | .append,[t,t2],[x,y]=>match P.underlying t,P.underlying t2 with
  | some (.slice e),some (.slice _)=>match P.info? e with
   | some i=>match i.zero with
    |some z=>if z.cells.size=i.size then some (.append i.size i.bytes x y) else none
    |none=>none
   |none=>none
  |_,_=>none
 |.max,[_,_],[x,y]=>some (.mm true x y)
 |.min,[_,_],[x,y]=>some (.mm false x y)
 | .clear,[t],[x]=>match P.underlying t with
  | some (.slice e)=>match P.info? e with
   | some i=>match i.zero with
    |some z=>some (.clr i.size (avs z.cells) x)
    |none=>none
   |none=>none
  |_=>none
 |_,_,_=>none
def bpS (P:Program) (fs:Array Field):List (Nat×Operand)→Option (List (Nat×Nat×Operand))
 | []=>some []
 | (i,x)::r=>match fs[i]? with
  | some f=>match jS P f.type,bpS P fs r with
   |some n,some l=>some ((f.offset,n,x)::l)
   |_,_=>none
  |none=>none
def aIu:Operand→Operand→Bool
 |.tmp l,.tmp c=>l==c
 |.const (.int k l),.const (.int k' c)=>k==k'&&l==c
 |_,_=>false
theorem aIt {x y:Operand} (h:aIu x y=true):x=y:=by
 unfold aIu at h;split at h
 ·simp at h;rw[h]
 ·simp at h;rw[h.1,h.2]
 ·cases h
def comp (P:Program):Op→Option AOp
 |.move x=>some (.mv x)
 |.assign x=>some (.mv x)
 |.pick c x y=>some (.pick c x y)
 |.alloc t=>(zOf P t).map fun z=>.alloc (avs z)
 |.box _ x=>some (.box x)
 | .build t ps=>match P.underlying t,zOf P t with
  |some (.struct fs),some z=>if fs.all (fun f=>(jS P f.type).isSome) then(bpS P fs ps.toList).map fun ps=>.build (avs z) ps else none
  |some (.array _ e),some z=>(jS P e).map fun n=>.build (avs z) (ps.toList.map fun p=>(p.1*n,n,p.2))
  |_,_=>none
 | .buildSlice t m ps=>match P.underlying t with
  | some (.slice e)=>match jS P e,zOf P e with
   |some k,some z=>some (.bslice k m (avs z) ps.toList)
   |_,_=>none
  |_=>none
 |.load t x=>(uU P t).map fun p=>.load p.1 p.2 x
 |.store t A X=>(jS P t).map fun k=>.store k A X
 |.nilCheck x=>some (.nilc x)
 | .binOp op t x y _=>match P.underlying t with
  |some (.int _)=>some (.bin op x y)
  |some .string=>some (.binS op x y)
  |some .bool=>some (.binB op x y)
  | some (.struct _)=>match eqT P 30 t with
   | some ks=>if P.eqGuardType P.depth t=false∧iO P t=some true then match op with
     |.eql=>some (.eqA false ks x y)
     |.neq=>some (.eqA true ks x y)
     |_=>none
    else none
   |none=>none
  |_=>none
 |.unOp op _ x=>some (.un op x)
 | .convert s d x=>match P.underlying s,P.underlying d with
  |some (.int _),some (.int k)=>some (.conv k x)
  | some (.slice e),some .string=>match P.underlying e with
   |some (.int .u8)=>some (.b2s x)
   |_=>none
  |_,_=>none
 |.makeFunc (.func f) first caps=>if first.size=0 then some (.mkfn f caps.toList) else none
 | .makeSlice t L L'=>if aIu L L'=true then match P.underlying t with
   | some (.slice e)=>match P.info? e with
    | some i=>match i.zero with
     |some z=>some (.mk i.size i.bytes (avs z.cells) L)
     |none=>none
    |none=>none
   |_=>none
  else none
 | .slice t x lo hi none=>match P.underlying t with
  |some (.slice e)=>(jS P e).map fun k=>.slc k x lo hi
  |some .string=>some (.sstr x lo hi)
  |_=>none
 | .fieldAddr s x i=>match xV P s i with
  | some f=>match jS P f.type with
   |some (_+1)=>some (.fieldAddr f.offset x)
   |_=>none
  |none=>none
 | .field s x i=>match xV P s i with
  |some f=>(uU P f.type).bind fun p=>if jS P f.type=some p.2 then some (.field p.1 f.offset p.2 x) else none
  |none=>none
 | .indexAddr t x i=>match P.underlying t with
  |some (.slice e)=>(jS P e).map fun k=>.idxSl k x i
  |some (.array n e)=>(jS P e).map fun k=>.idxArr n k x i
  |_=>none
 | .index t x i=>match P.underlying t with
  |some .string=>some (.idxStr x i)
  |some (.array n e)=>(uU P e).bind fun p=>if jS P e=some p.2 then some (.idxAgg p.1 n p.2 x i) else none
  |_=>none
 |.extract x i=>some (.extract x i)
 | .call c=>match c.callee with
  |.builtin b=>rY P b c.argTypes.toList c.args.toList
  | .value (.func f)=>if aI6 P f then match c.args.toList with
    | [x,y]=>some (.idxB x y)
    |_=>none
   else some (.call (.func f) c.args.toList [])
  |.value f=>some (.call f c.args.toList [])
  |.invoke _ _=>none
 |_=>none
def AOp.bare0:AOp→AOp
 |.call f args _=>.call f args []
 |op=>op
def AOp.bare:AOp→AOp
 |.appendC k y a x=>.append k y a x
 |.loadV g k a=>.load g k a
 |.fieldV off x=>.fieldAddr off x
 |.bsliceC k n z ps=>.bslice k n z ps
 |op=>op.bare0
def cK (C:Ctx) (K:St→Prop) (a:Act) (w:World):Prop:=∃σ S ρ κ,K σ∧OK C (St.f σ) a w S ρ κ
theorem cK.put {σ:St} (F:OK C σ.f a w S ρ κ) {x:AV}{v:Value} (I:RV S w ρ κ σ.f.h x v) {d:Option Nat} (H:∀d',d=some d'→d'<C.nt) {K:St→Prop} (G:K ⟨Vs.put d x σ.s,σ.h⟩):cK C K (a.put d v) w:=by
 refine⟨_,S,ρ,κ,G,?_⟩;have:=F.put I H;simpa[St.f,jX] using this
theorem uP {σ:St}{K:St→Prop}{o:Oper}{Q:Exit→Act→World→Prop} (G:OK C σ.f a w S ρ κ) (I:∀d',o.dst=some d'→d'<C.nt)
  (h:∃x v,K ⟨put o.dst x σ.s,σ.h⟩∧(execOp a.eval o).run P w=.ok (.value v) w∧RV S w ρ κ σ.f.h x v):o.wp P a w (cK C K) Q:=by
 obtain⟨x,v,H,F,J⟩:=h;unfold Oper.wp;rw[F];exact cK.put G J I H
theorem aGv {s:Sem Value}{v:Value}{w':World} (h:s.run P w=.ok v w'):(do pure (Next.value (←s)):Sem Next).run P w=.ok (.value v) w':=by
 simp[h]
theorem aAx {σ:St} (hb:OK C σ.f a w S ρ κ) {t:TypeId}{L:Array Field}{z:Array Value}{J:Array (Nat×Operand)}{rp:List (Nat×Nat×Operand)}{K:AV→Prop}
  (hu:P.underlying t=some (.struct L)) (hz:zOf P t=some z) (O:L.all (fun f=>(jS P f.type).isSome)=true) (G:bpS P L J.toList=some rp) (hv:rd (evO (look σ.s)) (aB σ.h) K (.build (avs z) rp)) :
  Ans P S w ρ κ σ.f.h K (Instr.build t (J.map fun(i,x)=>(i,a.eval x))):=by
 obtain⟨zv,ha,rfl⟩:=zM hz w
 let F:Array (Nat×Nat):=L.map fun f=>(f.offset,(jS P f.type).getD 0)
 have H:(L.mapM fun f=>(do pure (f.offset,←sizeOf f.type):Sem (Nat×Nat))).run P w=.ok F w:=by
  have hc:∀(l:List Field) (M:List (Nat×Nat)),(∀f,f∈l→(jS P f.type).isSome)→(l.mapM fun f=>(do pure (f.offset,←sizeOf f.type):Sem (Nat×Nat))).run P w=.ok (l.map fun f=>(f.offset,(jS P f.type).getD 0)) w:=by
   intro l
   induction l with
   |nil=>intro _ _;simp
   | cons f r ih =>
    intro M hl;obtain⟨n,hn⟩:=Option.isSome_iff_exists.1 (hl f (by simp));simp only[List.mapM_cons,Sem.run_bind,run_sizeOf hn,Result.andThen_ok,Sem.run_pure,ih M (fun g hg=>hl g (by simp[hg])),List.map_cons,hn,Option.getD_some]
  have:=hc L.toList [] (fun f hf=>by
    have:=Array.all_eq_true'.1 O f (by simpa using hf);exact this)
  rw[Array.mapM_eq_mapM_toList];simp only[Sem.run_map,this,Result.andThen_ok];congr 1;apply Array.ext';simp[F]
 simp only[rd] at hv
 have Y:J.toList.map (fun p=>((F[p.1]?:Option (Nat×Nat))).map fun q=>(q.1,q.2,p.2))=rp.map some:=by
  revert G;generalize J.toList=l;clear hv
  induction l generalizing rp with
  |nil=>intro G;simp[bpS] at G;simp[G]
  | cons p r ih =>
   intro G;obtain⟨i,x⟩:=p;simp only[bpS] at G;split at G
   ·rename_i f hf;split at G
    ·rename_i n l hn hl;obtain rfl:=Option.some.inj G;have h1:F[i]? = some (f.offset,n):=by simp[F,hf,hn]
     rw[List.map_cons,List.map_cons,ih hl,h1];rfl
    ·cases G
   ·cases G
 obtain⟨cs,vs,hK,I,U,_⟩:=aBt hb (fun i=>F[i]?) J.toList rp _ _ Y (r9 zv.cells) hv;refine⟨_,.agg vs,hK,?_,.agg _ _ U.1 U.2⟩;have e:(J.map fun(i,x)=>(i,a.eval x)).toList=J.toList.map fun p=>(p.1,a.eval p.2):=by simp
 simp only[Instr.build,Sem.run_bind,ha,Result.andThen_ok,run_underlying hu,H,e];rw[I];rfl
theorem aBb {σ:St} (J:OK C σ.f a w S ρ κ) {t e:TypeId}{m n:Nat}{z:Array Value}{I:Array (Nat×Operand)}{K:AV→Prop}
  (Y:P.underlying t=some (.array m e)) (hz:zOf P t=some z) (U:jS P e=some n) (L:rd (evO (look σ.s)) (aB σ.h) K (.build (avs z) (I.toList.map fun p=>(p.1*n,n,p.2)))) :
  Ans P S w ρ κ σ.f.h K (Instr.build t (I.map fun(i,x)=>(i,a.eval x))):=by
 obtain⟨zv,H,rfl⟩:=zM hz w;simp only[rd] at L;obtain⟨cs,vs,O,F,G,_⟩:=aBt J (fun i=>some (i*n,n)) I.toList _ _ _ (by simp) (r9 zv.cells) L;refine⟨_,.agg vs,O,?_,.agg _ _ G.1 G.2⟩;have M:(I.map fun(i,x)=>(i,a.eval x)).toList=I.toList.map fun p=>(p.1,a.eval p.2):=by simp
 simp only[Instr.build,Sem.run_bind,H,Result.andThen_ok,run_underlying Y,run_sizeOf U,M];rw[F];rfl
theorem rW:∀{B:List Name},nodupB B=true→B.Nodup
 | [],_=>List.nodup_nil
 | n::r,h=>by
  simp only[nodupB,Bool.and_eq_true,Bool.not_eq_true',List.contains_eq_mem,decide_eq_false_iff_not] at h;exact List.nodup_cons.2 ⟨h.1,rW h.2⟩
theorem aCD {σ:St}{K:St→Prop}{o:Oper}{c:Call}{f:Operand}{bor:List Nat}{Q:Exit→Act→World→Prop} (U:OK C σ.f a w S ρ κ) (hd:∀d',o.dst=some d'→d'<C.nt)
  (ho:o.op=.call c) (hc:c.callee=.value f)
  (H:bG P o.dst σ K (.call f c.args.toList bor)):o.wp P a w (cK C K) Q:=by
 simp only[bG,aCi] at H;split at H
 ·rename_i g caps hg;have hf:=U.ev f;simp only[St.f] at hf;rw[hg] at hf;obtain⟨vs,hq,hl,hr⟩:=aB1 hf
  have I:mW P g:=by
   split at H
   ·obtain⟨_,r,F,fz,M,_⟩:=H;exact M.1
   ·exact H.elim
  obtain⟨fn,b,Y,h2,h3⟩:=I
  have he:(execOp a.eval o).run P w=.ok (.enter g (c.args.map a.eval++vs)) w:=by
   simp[execOp,ho,resolve,hc,hq,Deferred.ofValue,invoke,callFunc,Y,h2,h3]
  unfold Oper.wp;rw[he];simp only[Oper.upon];split at H
  ·rename_i ys L1 hin L2 ht ha;obtain⟨hp,r,F,fz,M,L,G,hK⟩:=H
   have hb:∀j,(aFa σ.h (c.args.toList.map (evO (look σ.s))) bor).length≤j→j<F.length→bT (.t (o.dst.getD 0) j) σ=true:=by
    intro j Y h2;simp only[kF,List.all_eq_true,List.mem_range] at G;have:=G j h2;simp only[Bool.or_eq_true,decide_eq_true_eq] at this;rcases this with h|h
    ·omega
    ·exact h
   have J:=aF2 (K:=fun σ' x=>∃σl:St,σl.f=σ'∧K ⟨put o.dst (rn (phi (aFa σ.h (c.args.toList.map (evO (look σ.s))) bor) (o.dst.getD 0) F.length) r) σ.s,σl.h⟩∧σl.s=σ.s∧x=rn (phi (aFa σ.h (c.args.toList.map (evO (look σ.s))) bor) (o.dst.getD 0) F.length) r) U (d:=o.dst.getD 0) (f:=g) (caps:=caps) (xs:=c.args.toList.map (evO (look σ.s))) (rW hp) (vs:=c.args.map a.eval++vs) (by
       simp only[aJz,St.f,ht,ha];refine⟨r,F,fz,M,L,fun j Y h2=>dI (hb j Y h2),⟨σ.s,x9 σ.h (aFa σ.h (c.args.toList.map (evO (look σ.s))) bor) (o.dst.getD 0) F fz (L1++L2)⟩,?_,hK,rfl,rfl⟩;simp only[FSt.mk.injEq,true_and];refine aLY (fun m hm=>?_) (fun j Y h2=>(dI (hb j Y h2)).1.1);obtain⟨_,hn,_⟩:=vE _ _ ha;obtain⟨j,hj⟩:=List.mem_iff_getElem?.1 hm;obtain⟨b0,_,_,hk,_⟩:=hn j m hj;simp[hk]) (by simp[hl]) (fun j hj=>by
       simp only[List.length_append,List.length_map,Array.length_toList] at hj;by_cases O:j<c.args.size
       · have e1:(c.args.toList.map (evO (look σ.s))++caps).getD j .junk=evO (look σ.s) c.args[j]:=by
           simp[List.getD,List.getElem?_append_left (show j<(c.args.toList.map (evO (look σ.s))).length by simp;omega),O]
         have e2:(c.args.map a.eval++vs).getD j undef=a.eval c.args[j]:=by simp[O,show j<c.args.size+vs.size by omega]
         rw[e1,e2];exact U.ev _
       · have e1:(c.args.toList.map (evO (look σ.s))++caps).getD j .junk=caps.getD (j-c.args.size) .junk:=by
           simp[List.getD,List.getElem?_append_right (show(c.args.toList.map (evO (look σ.s))).length≤j by simp;omega)]
         have e2:(c.args.map a.eval++vs).getD j undef=vs.getD (j-c.args.size) undef:=by
           simp[Array.getElem?_append,O]
         rw[e1,e2];exact hr _ (by omega))
   refine J.mono ?_;rintro e w' ⟨σ',x,v,S',ρ',κ',rfl,⟨σl,hσ,hK',hs,rfl⟩,hok',hx⟩;subst hσ;exact cK.put hok' hx hd (by rw[hs];exact hK')
  ·exact H.elim
 ·exact H.elim
end
end Go.Vs
