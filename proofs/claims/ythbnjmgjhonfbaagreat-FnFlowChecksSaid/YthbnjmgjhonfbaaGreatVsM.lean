/- One operation: what it asks, and that the machine then does it. -/
import Derived.Test.YthbnjmgjhonfbaaGreatVsI
import Derived.Laws.StructEq
import Derived.Laws.BytesString
import Derived.Laws.StandIn
set_option linter.all false
set_option maxHeartbeats 8000000
namespace Go.Vs
section
variable [Envs]
variable {P:Program}{C:Ctx}{σ:FSt}{a:Act}{w:World}{S:Nat→Prop}{ρ:Name→Option Nat}{κ:Name→Nat}{h:Name→Option Blk}
def kG:List Name→Name→Option Nat
 | [],_=>none
 |m::r,n=>if m=n then some 0 else(kG r n).map (· + 1)
theorem oC:∀{E:List Name}{n:Name}{j:Nat},kG E n=some j→E[j]? = some n
 | [],_,_,h=>by simp[kG] at h
 | m::r,n,j,h=>by
  simp only[kG] at h;split at h
  ·obtain rfl:=Option.some.inj h;simpa using ‹m=n›
  ·cases hr:kG r n with
   |none=>rw[hr] at h;simp at h
   | some i =>
    rw[hr] at h;simp only[Option.map_some,Option.some.injEq] at h;subst h;simpa using oC hr
theorem yD:∀{E:List Name}{n:Name},kG E n=none→n∉E
 | [],_,_=>by simp
 | m::r,n,h=>by
  simp only[kG] at h;split at h
  ·cases h
  ·rename_i hne;have:kG r n=none:=by simpa using h
   simp only[List.mem_cons,not_or];exact⟨fun e=>hne e.symm,yD this⟩
def fB (f:AV→Option (AV×List Name)):List AV→Option (List AV×List Name)
 | []=>some ([],[])
 | x::r=>match f x,fB f r with
  |some (y,L),some (ys,L')=>some (y::ys,L++L')
  |_,_=>none
theorem gQ {f:AV→Option (AV×List Name)}:∀{c c':List AV}{L:List Name},fB f c=some (c',L)→c'.length=c.length∧
  ∀j,j<c.length→∃Lj,f (c.getD j .junk)=some (c'.getD j .junk,Lj)∧∀n,n∈Lj→n∈L
 | [],c',L,h=>by
  simp only[fB,Option.some.injEq,Prod.mk.injEq] at h;obtain⟨rfl,rfl⟩:=h;exact⟨rfl,by simp⟩
 | x::r,c',L,h=>by
  simp only[fB] at h;split at h
  ·rename_i y L1 ys L2 h1 h2;simp only[Option.some.injEq,Prod.mk.injEq] at h;obtain⟨rfl,rfl⟩:=h;obtain⟨h3,h4⟩:=gQ h2;refine⟨by simp[h3],fun j hj=>?_⟩;cases j with
   |zero=>exact⟨L1,by simpa using h1,fun n hn=>List.mem_append_left _ hn⟩
   | succ j =>
    obtain⟨Lj,h5,h6⟩:=h4 j (by simpa using hj);exact⟨Lj,by simpa using h5,fun n hn=>List.mem_append_right _ (h6 n hn)⟩
  ·cases h
theorem aAj {f:AV→Option (AV×List Name)}:∀{cs cs':List AV}{L:List Name},fB f cs=some (cs',L)→∀n,n∈L→∃j,j<cs.length∧∃Lj,f (cs.getD j .junk)=some (cs'.getD j .junk,Lj)∧n∈Lj
 | [],cs',L,hm,n,hn=>by simp only[fB,Option.some.injEq,Prod.mk.injEq] at hm;obtain⟨_,rfl⟩:=hm;simp at hn
 | x::r,cs',L,hm,n,hn=>by
  simp only[fB] at hm;split at hm
  ·rename_i y L1 ys L2 h1 h2;simp only[Option.some.injEq,Prod.mk.injEq] at hm;obtain⟨rfl,rfl⟩:=hm;rcases List.mem_append.1 hn with hn|hn
   ·exact⟨0,by simp,L1,by simpa using h1,hn⟩
   ·obtain⟨j,hj,Lj,g,hg⟩:=aAj h2 n hn;exact⟨j+1,by simpa using hj,Lj,by simpa using g,hg⟩
  ·cases hm
def conv (h:Name→Option Blk):Nat→List Name→Bool→AV→Option (AV×List Name)
 |0,_,_,_=>none
 |_+1,_,c,.junk=>if c then none else some (.junk,[])
 | _+1,E,c,.loc n off len=>match kG E n with
  |some j=>if c then none else some (.loc (.b j) off len,[])
  | none=>match h n with
   |some (.arr k l _)=>some (.sl k ((l.drop off).take len),[n])
   |_=>none
 | m+1,E,c,.ptr n e o=>match kG E n with
  |some j=>if c then none else some (.ptr (.b j) e o,[])
  | none=>match h n with
   |some (.arr _ l _)=>some (.ro ((l.getD e []).drop o),[n])
   |some (.var cs _)=>(fB (conv h m E true) cs).map fun p=>(.ro (p.1.drop o),n::p.2)
   |none=>none
 |m+1,E,c,.fn f cs=>(fB (conv h m E c) cs).map fun p=>(.fn f p.1,p.2)
 |m+1,E,c,.agg cs=>(fB (conv h m E c) cs).map fun p=>(.agg p.1,p.2)
 |m+1,E,c,.tup cs=>(fB (conv h m E c) cs).map fun p=>(.tup p.1,p.2)
 |_+1,_,_,.v x=>some (.v x,[])
 |_+1,_,_,.sl k l=>some (.sl k l,[])
 |_+1,_,_,.ro c=>some (.ro c,[])
theorem aFe (S:Nat→Prop) {S':Nat→Prop} (hS:∀b,S b→S' b) {x:AV}{v:Value} (h:RC S w x v):RC S' w x v:=h.mono hS fun _ _=>rfl
theorem uP (hok:HOK S w ρ κ h) {S':Nat→Prop} (hS:∀b,S b→S' b) {E:List Name}{ρ':Name→Option Nat}{κ':Name→Nat}{h':Name→Option Blk}
  (hE:∀j n,E[j]? = some n→ρ' (.b j)=ρ n∧κ' (.b j)=κ n∧∀b',h' (.b j)=some b'→∃b,h n=some b∧b.same b') :
  ∀ (m:Nat) (c:Bool) (x x':AV) (L:List Name) (v:Value),conv h m E c x=some (x',L)→(∀n,n∈L→∀y,ρ n=some y→S' y)→RV S w ρ κ h x v→
   (c=false→RV S' w ρ' κ' h' x' v)∧(c=true→RC S' w x' v)∧∀n,n∈L→n∉E∧(h n).isSome:=by
 intro m
 induction m with
 |zero=>intro c x x' L v hc;simp[conv] at hc
 | succ m ih =>
  intro c x x' L v hc hL hx
  have lists:∀(cs cs':List AV) (L:List Name) (vs:Array Value),fB (conv h m E c) cs=some (cs',L)→(∀n,n∈L→∀y,ρ n=some y→S' y)→(∀j,j<cs.length→RV S w ρ κ h (cs.getD j .junk) (vs.getD j undef))→
    cs'.length=cs.length∧(c=false→∀j,j<cs'.length→RV S' w ρ' κ' h' (cs'.getD j .junk) (vs.getD j undef))∧(c=true→∀j,j<cs'.length→RC S' w (cs'.getD j .junk) (vs.getD j undef))∧∀n,n∈L→n∉E∧(h n).isSome:=by
   intro cs
   induction cs with
   | nil =>
    intro cs' L vs hm _ _;simp only[fB,Option.some.injEq,Prod.mk.injEq] at hm;obtain⟨rfl,rfl⟩:=hm;exact⟨rfl,by simp,by simp,by simp⟩
   | cons x r ihr =>
    intro cs' L vs hm hL hr;simp only[fB] at hm;split at hm
    ·rename_i y L1 ys L2 h1 h2;simp only[Option.some.injEq,Prod.mk.injEq] at hm;obtain⟨rfl,rfl⟩:=hm;have g1:=ih c x y L1 (vs.getD 0 undef) h1 (fun n hn=>hL n (List.mem_append_left _ hn)) (by simpa using hr 0 (by simp))
     have g2:=ihr ys L2 (vs.extract 1 vs.size) h2 (fun n hn=>hL n (List.mem_append_right _ hn)) (fun j hj=>by
       have:=hr (j+1) (by simpa using hj)
       have e:(vs.extract 1 vs.size).getD j undef=vs.getD (j+1) undef:=by
         simp[Array.getElem?_extract,Nat.add_comm 1 j];split
         · rfl
         · simp[Array.getElem?_eq_none (show vs.size≤j+1 by omega)]
       rw[e];simpa using this)
     have e:∀j,(vs.extract 1 vs.size).getD j undef=vs.getD (j+1) undef:=by
      intro j;simp[Array.getElem?_extract,Nat.add_comm 1 j];split
      ·rfl
      ·simp[Array.getElem?_eq_none (show vs.size≤j+1 by omega)]
     refine⟨by simp[g2.1],fun hc j hj=>?_,fun hc j hj=>?_,fun n hn=>?_⟩
     ·cases j with
      |zero=>simpa using g1.1 hc
      |succ j=>have:=g2.2.1 hc j (by simpa using hj);rw[e] at this;simpa using this
     ·cases j with
      |zero=>simpa using g1.2.1 hc
      |succ j=>have:=g2.2.2.1 hc j (by simpa using hj);rw[e] at this;simpa using this
     ·rcases List.mem_append.1 hn with hn|hn
      ·exact g1.2.2 n hn
      ·exact g2.2.2.2 n hn
    ·cases hm
  have clos:∀x':AV,RC S' w x' v→(c=false→RV S' w ρ' κ' h' x' v)∧(c=true→RC S' w x' v):=fun x' hr=>⟨fun _=>.clo hr,fun _=>hr⟩;cases x with
  | v y =>
   simp only[conv,Option.some.injEq,Prod.mk.injEq] at hc;obtain⟨rfl,rfl⟩:=hc;obtain rfl:=dY hx;exact⟨(clos _ (.v _)).1,(clos _ (.v _)).2,by simp⟩
  | sl k l =>
   simp only[conv,Option.some.injEq,Prod.mk.injEq] at hc;obtain⟨rfl,rfl⟩:=hc;have:=aFe S hS (sW hx);exact⟨(clos _ this).1,(clos _ this).2,by simp⟩
  | ro l =>
   simp only[conv,Option.some.injEq,Prod.mk.injEq] at hc;obtain⟨rfl,rfl⟩:=hc;have:=aFe S hS (pU hx);exact⟨(clos _ this).1,(clos _ this).2,by simp⟩
  | junk =>
   simp only[conv] at hc;split at hc
   ·cases hc
   ·rename_i hcf;simp only[Option.some.injEq,Prod.mk.injEq] at hc;obtain⟨rfl,rfl⟩:=hc;exact⟨fun _=>.junk _,fun h=>absurd h hcf,by simp⟩
  | fn f cs =>
   simp only[conv] at hc;cases hm:fB (conv h m E c) cs with
   |none=>rw[hm] at hc;cases hc
   | some p =>
    obtain⟨cs',L'⟩:=p;rw[hm] at hc;simp only[Option.map_some,Option.some.injEq,Prod.mk.injEq] at hc;obtain⟨rfl,rfl⟩:=hc;obtain⟨vs,rfl,hl,hr⟩:=aD3 hx;obtain⟨g1,g2,g3,g4⟩:=lists cs cs' L' vs hm hL hr;exact⟨fun hc=>.fn _ _ _ (by omega) (g2 hc),fun hc=>.fn _ _ _ (by omega) (g3 hc),g4⟩
  | agg cs =>
   simp only[conv] at hc;cases hm:fB (conv h m E c) cs with
   |none=>rw[hm] at hc;cases hc
   | some p =>
    obtain⟨cs',L'⟩:=p;rw[hm] at hc;simp only[Option.map_some,Option.some.injEq,Prod.mk.injEq] at hc;obtain⟨rfl,rfl⟩:=hc;obtain⟨vs,rfl,hl,hr⟩:=mX hx;obtain⟨g1,g2,g3,g4⟩:=lists cs cs' L' vs hm hL hr;exact⟨fun hc=>.agg _ _ (by omega) (g2 hc),fun hc=>.agg _ _ (by omega) (g3 hc),g4⟩
  | tup cs =>
   simp only[conv] at hc;cases hm:fB (conv h m E c) cs with
   |none=>rw[hm] at hc;cases hc
   | some p =>
    obtain⟨cs',L'⟩:=p;rw[hm] at hc;simp only[Option.map_some,Option.some.injEq,Prod.mk.injEq] at hc;obtain⟨rfl,rfl⟩:=hc;obtain⟨vs,rfl,hl,hr⟩:=aAp hx;obtain⟨g1,g2,g3,g4⟩:=lists cs cs' L' vs hm hL hr;exact⟨fun hc=>.tup _ _ (by omega) (g2 hc),fun hc=>.tup _ _ (by omega) (g3 hc),g4⟩
  | loc n off len =>
   simp only[conv] at hc;split at hc
   ·rename_i j hj;split at hc
    ·cases hc
    ·rename_i hcf;simp only[Option.some.injEq,Prod.mk.injEq] at hc;obtain⟨rfl,rfl⟩:=hc;refine⟨fun _=>.loc _ _ _ _ fun k l z hb=>?_,fun h=>absurd h hcf,by simp⟩;obtain⟨e1,e2,e3⟩:=hE j n (oC hj);obtain⟨b,hb',hs⟩:=e3 _ hb;cases b with
     |var=>simp[Blk.same] at hs
     | arr k' l' z' =>
      simp only[Blk.same] at hs;obtain⟨rfl,hll⟩:=hs;have:=kW hx _ _ _ hb';rw[e1,e2,←hll];exact this
   ·rename_i hj;split at hc
    ·rename_i k l z hb;simp only[Option.some.injEq,Prod.mk.injEq] at hc;obtain⟨rfl,rfl⟩:=hc;have hro:p8 k h (.loc n off len)=some ((l.drop off).take len):=by simp[p8,hb]
     obtain⟨base,cap,rfl,hk,b,o,hb1,hb2⟩:=aGv hok hx hro;obtain⟨hle,base',cap',hv',hlc,hcap,hbase,_⟩:=kW hx _ _ _ hb;simp only[Value.slice.injEq] at hv';obtain⟨rfl,hlen,rfl⟩:=hv'
     have:RC S' w (.sl k ((l.drop off).take len)) (.slice base ((l.drop off).take len).length cap):=by
      refine .sl k _ base cap b o (fun m=>(w.cell? ⟨b,o+m,none⟩).getD undef) (fun hne=>?_) (fun i j hi hj=>?_) (fun i j hi hj=>?_) (fun i j hi hj=>?_) hk ⟨by omega,hcap⟩
      ·refine⟨(hb1 hne).1,?_⟩
       obtain ⟨y,hy,hyb⟩:=hbase (by
         rcases Nat.eq_zero_or_pos len with h0|h0
         · subst h0;simp at hne
         · exact h0)
       have:=(hb1 hne).1.symm.trans hyb;simp only[Option.some.injEq,Addr.mk.injEq] at this;obtain⟨rfl,_⟩:=this;exact hL n (by simp) _ hy
      all_goals
       obtain⟨u,hu,ho,hr⟩:=hb2 i j hi hj;simp only[hu,Option.getD_some]
      ·exact ho
      ·exact hr.mono hS fun _ _=>rfl
     exact ⟨(clos _ this).1,(clos _ this).2,fun m hm=>by
       simp only[List.mem_singleton] at hm;subst hm;exact⟨yD hj,by simp[hb]⟩⟩
    ·cases hc
  | ptr n e o =>
   simp only[conv] at hc;split at hc
   ·rename_i j hj;split at hc
    ·cases hc
    ·rename_i hcf;simp only[Option.some.injEq,Prod.mk.injEq] at hc;obtain⟨rfl,rfl⟩:=hc;refine⟨fun _=>.ptr _ _ _ _ fun b' hb=>?_,fun h=>absurd h hcf,by simp⟩;obtain⟨e1,e2,e3⟩:=hE j n (oC hj);obtain⟨b,hb',hs⟩:=e3 _ hb;obtain⟨y,hy,hv⟩:=eX hx _ hb';exact⟨y,by rw[e1];exact hy,by rw[←Blk.same_k hs];exact hv⟩
   ·rename_i hj;split at hc
    ·rename_i k l z hb;simp only[Option.some.injEq,Prod.mk.injEq] at hc;obtain⟨rfl,rfl⟩:=hc;obtain⟨y,hy,rfl⟩:=eX hx _ hb;have hcells:=fun j (hj:j<((Blk.arr k l z).row e).length)=>hok.cells hb hy (e:=e) (j:=j) hj;simp only[Blk.row,Blk.k] at hcells
     have:RC S' w (.ro ((l.getD e []).drop o)) (.pointer (some ⟨y,e*k+o,none⟩)):=by
      refine .ro _ y _ (fun m=>(w.cell? ⟨y,e*k+o+m,none⟩).getD undef) (hL n (by simp) _ hy) (fun j hj=>?_) (fun j hj=>?_) fun j hj=>?_
      all_goals
       simp only[List.length_drop] at hj;obtain⟨u,hu,ho,hr⟩:=hcells (o+j) (by omega);rw[←Nat.add_assoc] at hu;simp only[hu,Option.getD_some]
      ·exact ho
      ·have e1:((l.getD e []).drop o).getD j .junk=(l.getD e []).getD (o+j) .junk:=by simp[List.getD]
       rw[e1];obtain⟨h0,⟨h1,h2⟩|⟨y',cs,T,fr,h1,h2,h3,h4,_,h5,h6,h7⟩⟩:=hok.blk n _ hb
       ·rw[h1] at hy;cases hy
       ·have he:e<l.length:=by
         rcases Nat.lt_or_ge e l.length with h'|h'
         ·exact h'
         ·simp[List.getD,List.getElem?_eq_none h'] at hj
        have hjk:o+j<k:=by rw[←h0 e he];omega
        have hx7:=(h7 e (o+j) he hjk).2;obtain rfl:=Option.some.inj (hy.symm.trans h1)
        have hlt:e*k+(o+j)<cs.size:=by
         have:(e+1)*k≤l.length*k:=Nat.mul_le_mul_right _ he;rw[Nat.succ_mul] at this;omega
        have hu2:=cell_of_row h2 hlt;rw[←Nat.add_assoc,hu] at hu2;rw[Option.some.inj hu2,Nat.add_assoc];exact hx7.mono hS fun _ _=>rfl
     exact ⟨(clos _ this).1,(clos _ this).2,fun m hm=>by
       simp only[List.mem_singleton] at hm;subst hm;exact⟨yD hj,by simp[hb]⟩⟩
    ·rename_i cs z hb;cases hm:fB (conv h m E true) cs with
     |none=>rw[hm] at hc;cases hc
     | some p =>
      obtain⟨cs',L'⟩:=p;rw[hm] at hc;simp only[Option.map_some,Option.some.injEq,Prod.mk.injEq] at hc;obtain⟨rfl,rfl⟩:=hc;obtain⟨y,hy,rfl⟩:=eX hx _ hb;obtain⟨y',cur,T,fr,h1,h2,h3,h4,_,h5,h6,h7⟩:=hok.blk n _ hb;obtain rfl:=Option.some.inj (hy.symm.trans h1);obtain⟨g1,g2⟩:=gQ hm
      have key:∀j,j<cs.length→RC S' w (cs'.getD j .junk) (cur.getD j undef):=fun j hj=>by
       obtain⟨Lj,g3,g4⟩:=g2 j hj;exact(ih true _ _ _ _ g3 (fun n hn=>hL n (List.mem_cons_of_mem _ (g4 n hn))) (h7 j hj).2).2.1 rfl
      have:RC S' w (.ro (cs'.drop o)) (.pointer (some ⟨y,e*(Blk.var cs z).k+o,none⟩)):=by
       simp only[Blk.k,Nat.mul_zero,Nat.zero_add];refine .ro _ y _ (fun m=>cur.getD (o+m) undef) (hL n (by simp) _ hy) (fun j hj=>?_) (fun j hj=>?_) fun j hj=>?_
       all_goals
        simp only[List.length_drop,g1] at hj
       ·exact cell_of_row h2 (by omega)
       ·exact(h7 (o+j) (by omega)).1
       ·have e1:(cs'.drop o).getD j .junk=cs'.getD (o+j) .junk:=by simp[List.getD]
        rw[e1];exact key (o+j) (by omega)
      refine⟨(clos _ this).1,(clos _ this).2,fun m' hm'=>?_⟩;rcases List.mem_cons.1 hm' with rfl|hm'
      ·exact⟨yD hj,by simp[hb]⟩
      ·-- it comes out of one of the cells
       have:∀(cs cs':List AV) (L:List Name),fB (conv h m E true) cs=some (cs',L)→∀n,n∈L→∃j,j<cs.length∧∃Lj,conv h m E true (cs.getD j .junk)=some (cs'.getD j .junk,Lj)∧n∈Lj:=by
        intro cs
        induction cs with
        |nil=>intro cs' L hm n hn;simp only[fB,Option.some.injEq,Prod.mk.injEq] at hm;obtain⟨_,rfl⟩:=hm;simp at hn
        | cons x r ihr =>
         intro cs' L hm n hn;simp only[fB] at hm;split at hm
         ·rename_i y L1 ys L2 h1 h2;simp only[Option.some.injEq,Prod.mk.injEq] at hm;obtain⟨rfl,rfl⟩:=hm;rcases List.mem_append.1 hn with hn|hn
          ·exact⟨0,by simp,L1,by simpa using h1,hn⟩
          ·obtain⟨j,hj,Lj,g,hg⟩:=ihr _ _ h2 n hn;exact⟨j+1,by simpa using hj,Lj,by simpa using g,hg⟩
         ·cases hm
       obtain⟨j,hj',Lj,g3,hg⟩:=this _ _ _ hm _ hm'
       have hL':∀n,n∈Lj→∀y,ρ n=some y→S' y:=by
        obtain⟨Lj',g3',g4'⟩:=g2 j hj';rw[g3] at g3';simp only[Option.some.injEq,Prod.mk.injEq,true_and] at g3';subst g3';exact fun n hn=>hL n (List.mem_cons_of_mem _ (g4' n hn))
       exact(ih true _ _ _ _ g3 hL' (h7 j hj').2).2.2 _ hg
    ·cases hc
/-! ## renaming -/
mutual
def rn (φ:Name→Option Name):AV→AV
 |.loc n off len=>match φ n with|some m=>.loc m off len|none=>.junk
 |.ptr n e o=>match φ n with|some m=>.ptr m e o|none=>.junk
 |.fn f c=>.fn f (rnL φ c)
 |.agg c=>.agg (rnL φ c)
 |.tup c=>.tup (rnL φ c)
 |x=>x
def rnL (φ:Name→Option Name):List AV→List AV
 | []=>[]
 |x::r=>rn φ x::rnL φ r
end
theorem bW (φ:Name→Option Name):∀c:List AV,(rnL φ c).length=c.length
 | []=>rfl
 |x::r=>by simp[rnL,bW φ r]
theorem mR (φ:Name→Option Name):∀(c:List AV) (j:Nat),j<c.length→(rnL φ c).getD j .junk=rn φ (c.getD j .junk)
 | [],j,h=>by simp at h
 |x::r,0,_=>by simp[rnL]
 |x::r,j+1,h=>by simpa[rnL] using mR φ r j (by simpa using h)
def rnB (φ:Name→Option Name):Blk→Blk
 |.var c z=>.var (rnL φ c) z
 |b=>b
theorem aAb (φ:Name→Option Name) (b:Blk):b.same (rnB φ b):=by
 cases b<;>simp[rnB,Blk.same,bW]
theorem aLK {S:Nat→Prop}{w:World} (φ:Name→Option Name) {x:AV}{v:Value} (h:RC S w x v):RC S w (rn φ x) v:=by
 induction h with
 |v x=>simpa[rn] using .v x
 |sl k l base cap x off xs hb hc ho hr hk hcap ih=>simpa[rn] using .sl k l base cap x off xs hb hc ho hr hk hcap
 |ro c x off xs hS hc ho hr ih=>simpa[rn] using .ro c x off xs hS hc ho hr
 | fn f c vs hl hr ih =>
  simp only[rn];refine .fn _ _ _ (by rw[bW];exact hl) fun j hj=>?_;rw[bW] at hj;rw[mR φ c j hj];exact ih j hj
 | agg c vs hl hr ih =>
  simp only[rn];refine .agg _ _ (by rw[bW];exact hl) fun j hj=>?_;rw[bW] at hj;rw[mR φ c j hj];exact ih j hj
 | tup c vs hl hr ih =>
  simp only[rn];refine .tup _ _ (by rw[bW];exact hl) fun j hj=>?_;rw[bW] at hj;rw[mR φ c j hj];exact ih j hj
theorem RV.ren {S:Nat→Prop}{w:World}{ρ ρ':Name→Option Nat}{κ κ':Name→Nat}{h h':Name→Option Blk}{φ:Name→Option Name}
  (hφ:∀n m,φ n=some m→ρ' m=ρ n∧κ' m=κ n∧∀b',h' m=some b'→∃b,h n=some b∧b.same b') {x:AV}{v:Value} (hx:RV S w ρ κ h x v):RV S w ρ' κ' h' (rn φ x) v:=by
 induction hx with
 |junk v=>simpa[rn] using .junk v
 |clo hx=>exact .clo (aLK φ hx)
 | loc n off len v hv =>
  simp only[rn];split
  ·rename_i m hm;obtain⟨e1,e2,e3⟩:=hφ n m hm;refine .loc _ _ _ _ fun k l z hb=>?_;obtain⟨b,hb',hs⟩:=e3 _ hb;cases b with
   |var=>simp[Blk.same] at hs
   | arr k' l' z' =>
    simp only[Blk.same] at hs;obtain⟨rfl,hll⟩:=hs;have:=hv _ _ _ hb';rw[e1,e2,←hll];exact this
  ·exact .junk _
 | ptr n e c v hv =>
  simp only[rn];split
  ·rename_i m hm;obtain⟨e1,e2,e3⟩:=hφ n m hm;refine .ptr _ _ _ _ fun b' hb=>?_;obtain⟨b,hb',hs⟩:=e3 _ hb;obtain⟨y,hy,hv⟩:=hv _ hb';exact⟨y,by rw[e1];exact hy,by rw[←Blk.same_k hs];exact hv⟩
  ·exact .junk _
 | fn f c vs hl hr ih =>
  simp only[rn];refine .fn _ _ _ (by rw[bW];exact hl) fun j hj=>?_;rw[bW] at hj;rw[mR φ c j hj];exact ih j hj
 | agg c vs hl hr ih =>
  simp only[rn];refine .agg _ _ (by rw[bW];exact hl) fun j hj=>?_;rw[bW] at hj;rw[mR φ c j hj];exact ih j hj
 | tup c vs hl hr ih =>
  simp only[rn];refine .tup _ _ (by rw[bW];exact hl) fun j hj=>?_;rw[bW] at hj;rw[mR φ c j hj];exact ih j hj
/-! ## values that hold no memory that stays -/
mutual
def flat:AV→Bool
 |.sl _ _=>false
 |.ro _=>false
 |.fn _ c=>vU c
 |.agg c=>vU c
 |.tup c=>vU c
 |_=>true
def vU:List AV→Bool
 | []=>true
 |x::r=>flat x&&vU r
end
theorem gI:∀{c:List AV}{j:Nat},vU c=true→flat (c.getD j .junk)=true
 | [],j,_=>by simp[flat]
 |x::r,0,h=>by simp[vU] at h;simpa using h.1
 |x::r,j+1,h=>by simp[vU] at h;simpa using gI (c:=r) (j:=j) h.2
theorem RC.flat {S S':Nat→Prop}{w:World}{x:AV}{v:Value} (h:RC S w x v) (hf:flat x=true):RC S' w x v:=by
 induction h with
 |v x=>exact .v x
 |sl=>simp[Vs.flat] at hf
 |ro=>simp[Vs.flat] at hf
 |fn f c vs hl hr ih=>simp only[Vs.flat] at hf;exact .fn _ _ _ hl fun j hj=>ih j hj (gI hf)
 |agg c vs hl hr ih=>simp only[Vs.flat] at hf;exact .agg _ _ hl fun j hj=>ih j hj (gI hf)
 |tup c vs hl hr ih=>simp only[Vs.flat] at hf;exact .tup _ _ hl fun j hj=>ih j hj (gI hf)
theorem RV.flat {S S':Nat→Prop}{w:World}{ρ:Name→Option Nat}{κ:Name→Nat}{h:Name→Option Blk}{x:AV}{v:Value} (hx:RV S w ρ κ h x v) (hf:flat x=true):RV S' w ρ κ h x v:=by
 induction hx with
 |junk v=>exact .junk v
 |clo hx=>exact .clo (hx.flat hf)
 |loc n off len v hv=>exact .loc _ _ _ _ hv
 |ptr n e c v hv=>exact .ptr _ _ _ _ hv
 |fn f c vs hl hr ih=>simp only[Vs.flat] at hf;exact .fn _ _ _ hl fun j hj=>ih j hj (gI hf)
 |agg c vs hl hr ih=>simp only[Vs.flat] at hf;exact .agg _ _ hl fun j hj=>ih j hj (gI hf)
 |tup c vs hl hr ih=>simp only[Vs.flat] at hf;exact .tup _ _ hl fun j hj=>ih j hj (gI hf)
def aAB:Blk→Prop
 |.var c _=>vU c=true
 |.arr _ l _=>∀r,r∈l→vU r=true
/-! ## contracts -/
def Hn (l:List (Option Blk)):Name→Option Blk
 |.b j=>l.getD j none
 |.t _ _=>none
def aCH (ρ:Name→Option Nat) (hin:List Blk) (x:Nat):Prop:=∃j,j<hin.length∧ρ (.b j)=some x
structure Post (S:Nat→Prop) (w:World) (ρ:Name→Option Nat) (κ:Name→Nat) (hin:List Blk) (S':Nat→Prop) (w':World) (ρ':Name→Option Nat) (κ':Name→Nat) (hout:List (Option Blk)):Prop where
 hok:HOK S' w' ρ' κ' (Hn hout)
 size:w.heap.size≤w'.heap.size
 old:∀b,b<w.heap.size→¬aCH ρ hin b→w'.heap[b]? = w.heap[b]?
 sub:∀b,S b→S' b
 new:∀b,S' b→S b∨w.heap.size≤b∨aCH ρ hin b
 mine:∀j x,(hout.getD j none).isSome→ρ' (.b j)=some x→w.heap.size≤x∨aCH ρ hin x
 out:w'.os=w.os∧w'.output=w.output
 keep:∀j b',j<hin.length→hout.getD j none=some b'→ρ' (.b j)=ρ (.b j)∧κ' (.b j)=κ (.b j)∧∃b,hin[j]? = some b∧b.same b'
def aBO (P:Program) (f:FuncId):Prop:=∃fn b,P.funcs[f]? = some fn∧fn.body=some b∧fn.name≠"runtime.NumGoroutine"
def Fn (P:Program) (f:FuncId) (hin:List Blk) (args:List AV) (r:AV) (hout:List (Option Blk)):Prop:=
 aBO P f∧∀(S:Nat→Prop) (w:World) (ρ:Name→Option Nat) (κ:Name→Nat) (vs:Array Value),HOK S w ρ κ (Hn (hin.map some))→(∀b,b∈hin→b.fz=false)→vs.size=args.length→
  (∀j,j<args.length→RV S w ρ κ (Hn (hin.map some)) (args.getD j .junk) (vs.getD j undef))→
  Calls P f vs w fun e w'=>∃v S' ρ' κ',e=.returned v∧Post S w ρ κ hin S' w' ρ' κ' hout∧RV S' w' ρ' κ' (Hn hout) r v
end
section
variable [Envs]
variable {P:Program}{C:Ctx}{σ:FSt}{a:Act}{w:World}{S:Nat→Prop}{ρ:Name→Option Nat}{κ:Name→Nat}{h:Name→Option Blk}
def fJ (h:Name→Option Blk) (E:List Name):Blk→Option (Blk×List Name)
 |.var c z=>(fB (conv h 8 E false) c).map fun p=>(.var p.1 z,p.2)
 |.arr k l z=>some (.arr k l z,[])
def uS (h:Name→Option Blk) (E:List Name):List Name→Option (List Blk×List Name)
 | []=>some ([],[])
 | n::r=>match(h n).bind (fJ h E),uS h E r with
  |some (b,L),some (bs,L')=>if b.fz then none else some (b::bs,L++L')
  |_,_=>none
theorem vO (h:Name→Option Blk) (E:List Name):∀{B:List Name}{bs:List Blk}{L:List Name},uS h E B=some (bs,L)→bs.length=B.length∧
  (∀(j:Nat) (n:Name),B[j]? = some n→∃b b' Lj,h n=some b∧fJ h E b=some (b',Lj)∧bs[j]? = some b'∧b'.fz=false∧∀m,m∈Lj→m∈L)∧
  ∀m,m∈L→∃(n:Name) (b b':Blk) (Lj:List Name),n∈B∧h n=some b∧fJ h E b=some (b',Lj)∧m∈Lj
 | [],bs,L,hb=>by
  simp only[uS,Option.some.injEq,Prod.mk.injEq] at hb;obtain⟨rfl,rfl⟩:=hb;exact⟨rfl,by simp,by simp⟩
 | n::r,bs,L,hb=>by
  simp only[uS] at hb;split at hb
  ·rename_i b' L1 bs' L2 h1 h2;split at hb
   ·cases hb
   ·rename_i hz;simp only[Option.some.injEq,Prod.mk.injEq] at hb;obtain⟨rfl,rfl⟩:=hb;obtain⟨h3,h4,h5⟩:=vO h E h2;cases hn:h n with
    |none=>rw[hn] at h1;cases h1
    | some b =>
     rw[hn] at h1;refine⟨by simp[h3],fun j m hj=>?_,fun m hm=>?_⟩
     ·cases j with
      | zero =>
       simp only[List.getElem?_cons_zero,Option.some.injEq] at hj;subst hj;exact⟨b,b',L1,hn,h1,by simp,by simpa using hz,fun m hm=>List.mem_append_left _ hm⟩
      | succ j =>
       obtain⟨b,b2,Lj,g1,g2,g3,g4,g5⟩:=h4 j m (by simpa using hj);exact⟨b,b2,Lj,g1,g2,by simpa using g3,g4,fun m hm=>List.mem_append_right _ (g5 m hm)⟩
     ·rcases List.mem_append.1 hm with hm|hm
      ·exact⟨n,b,b',L1,by simp,hn,h1,hm⟩
      ·obtain⟨n',b1,b2,Lj,g1,g2,g3,g4⟩:=h5 m hm;exact⟨n',b1,b2,Lj,List.mem_cons_of_mem _ g1,g2,g3,g4⟩
  ·cases hb
def phi (B:List Name) (d n:Nat):Name→Option Name
 |.b j=>if j<B.length then B[j]? else if j<n then some (.t d j) else none
 |.t _ _=>none
def frz:Blk→Blk
 |.var c _=>.var c true
 |.arr k l _=>.arr k l true
theorem aJi (b:Blk):b.same (frz b):=by cases b<;>simp[frz,Blk.same]
def aft (h:Name→Option Blk) (B:List Name) (d:Nat) (hout:List (Option Blk)) (fz:Bool) (L:List Name) (m:Name):Option Blk:=
 match kG B m with
 |some j=>(hout.getD j none).map (rnB (phi B d hout.length))
 | none=>match m with
  |.t d' j=>if d'=d∧B.length≤j∧j<hout.length then(hout.getD j none).map (rnB (phi B d hout.length)) else if fz=true∧m∈L then(h m).map frz else h m
  |.b _=>if fz=true∧m∈L then(h m).map frz else h m
theorem o8:∀{B:List Name}{j:Nat}{n:Name},B.Nodup→B[j]? = some n→kG B n=some j
 | [],j,n,_,h=>by simp at h
 |m::r,0,n,_,h=>by simp only[List.getElem?_cons_zero,Option.some.injEq] at h;simp[kG,h]
 | m::r,j+1,n,hnd,h=>by
  simp only[List.getElem?_cons_succ] at h
  have hne:¬m=n:=by
   rintro rfl;exact(List.nodup_cons.1 hnd).1 (List.mem_of_getElem? h)
  simp[kG,hne,o8 (List.nodup_cons.1 hnd).2 h]
def aJM (P:Program) (σ:FSt) (d:Nat) (fv:AV) (xs:List AV) (B:List Name) (K:FSt→AV→Prop):Prop:=
 match fv with
 | .fn f caps=>match fB (conv σ.h 8 B false) (xs++caps),uS σ.h B B with
  | some (ys,L1),some (hin,L2)=>∃r hout fz,Fn P f hin ys r hout∧(fz=false→(L1++L2=[]∨(flat r=true∧∀b,some b∈hout→aAB b)))∧
    (∀j,B.length≤j→j<hout.length→j3 (.t d j) σ)∧K ⟨σ.s,aft σ.h B d hout fz (L1++L2)⟩ (rn (phi B d hout.length) r)
  |_,_=>False
 |_=>False
theorem aGa (hok:OK C σ a w S ρ κ) {d:Nat}{f:FuncId}{caps xs:List AV}{B:List Name}{K:FSt→AV→Prop} (hnd:B.Nodup) (hv:aJM P σ d (.fn f caps) xs B K) {vs:Array Value}
  (hl:vs.size=(xs++caps).length) (hr:∀j,j<(xs++caps).length→RV S w ρ κ σ.h ((xs++caps).getD j .junk) (vs.getD j undef)) :
  Calls P f vs w fun e w'=>∃σ' x v S' ρ' κ',e=.returned v∧K σ' x∧OK C σ' a w' S' ρ' κ'∧RV S' w' ρ' κ' σ'.h x v:=by
 simp only[aJM] at hv;split at hv
 ·rename_i ys L1 hin L2 hys hbs;obtain⟨r,hout,fz,hfn,hflat,hfresh,hK⟩:=hv;generalize hLd:L1++L2=L at hK hflat;have hL1:∀n,n∈L1→n∈L:=fun n hn=>hLd ▸ List.mem_append_left _ hn;have hL2:∀n,n∈L2→n∈L:=fun n hn=>hLd ▸ List.mem_append_right _ hn;obtain⟨hbl,hbj,hbm⟩:=vO _ _ hbs
  let S1:Nat→Prop:=fun y=>S y∨∃n,n∈L∧ρ n=some y
  let ρ0:Name→Option Nat:=fun m=>match m with|.b j=>(B[j]?).bind ρ|.t _ _=>none
  let κ0:Name→Nat:=fun m=>match m with|.b j=>((B[j]?).map κ).getD 0|.t _ _=>0
  have hS1:∀y,S y→S1 y:=fun y hy=>.inl hy
  have hE:∀j n,B[j]? = some n→ρ0 (.b j)=ρ n∧κ0 (.b j)=κ n∧∀b',Hn (hin.map some) (.b j)=some b'→∃b,σ.h n=some b∧b.same b':=by
   intro j n hj;refine⟨by simp[ρ0,hj],by simp[κ0,hj],fun b' hb'=>?_⟩;obtain⟨b,b2,Lj,g1,g2,g3,_,_⟩:=hbj j n hj
   have:b'=b2:=by
    simp only[Hn,List.getD,List.getElem?_map,g3,Option.map_some,Option.getD_some,Option.some.injEq] at hb';exact hb'.symm
   subst this;refine⟨b,g1,?_⟩;cases b with
   | var c z =>
    simp only[fJ] at g2;cases hm:fB (conv σ.h 8 B false) c with
    |none=>rw[hm] at g2;cases g2
    | some p =>
     rw[hm] at g2;simp only[Option.map_some,Option.some.injEq,Prod.mk.injEq] at g2;rw[←g2.1];exact((gQ hm).1).symm
   | arr k l z =>
    simp only[fJ,Option.some.injEq,Prod.mk.injEq] at g2;rw[←g2.1];exact Blk.same_refl _
  have spec:=uP hok.hok hS1 (κ':=κ0) hE 8
  have hlent:∀n,n∈L→n∉B∧(σ.h n).isSome:=by
   intro n hn;have hLS:∀m,m∈L→∀y,ρ m=some y→S1 y:=fun m hm y hy=>.inr ⟨m,hm,hy⟩;rw[←hLd] at hn;rcases List.mem_append.1 hn with hn|hn
   ·obtain⟨j,hj,Lj,g1,g2⟩:=aAj hys n hn;obtain⟨Lj',g1',g3⟩:=(gQ hys).2 j hj;rw[g1] at g1';simp only[Option.some.injEq,Prod.mk.injEq,true_and] at g1';subst g1';exact(spec false _ _ _ _ g1 (fun m hm=>hLS m (hL1 m (g3 m hm))) (hr j hj)).2.2 n g2
   ·obtain⟨n',b,b',Lj,g1,g2,g3,g4⟩:=hbm n hn;cases b with
    | arr k l z =>
     simp only[fJ,Option.some.injEq,Prod.mk.injEq] at g3;rw[←g3.2] at g4;simp at g4
    | var c z =>
     simp only[fJ] at g3;cases hm:fB (conv σ.h 8 B false) c with
     |none=>rw[hm] at g3;cases g3
     | some p =>
      obtain⟨c',Lp⟩:=p;rw[hm] at g3;simp only[Option.map_some,Option.some.injEq,Prod.mk.injEq] at g3;obtain⟨_,rfl⟩:=g3;obtain⟨j,hj,Lj,g5,g6⟩:=aAj hm n g4;obtain⟨x,cs,T,fr,q1,q2,q3,q4,_,q5,q6,q7⟩:=hok.hok.blk n' _ g2;obtain⟨i,hi⟩:=List.mem_iff_getElem?.1 g1;obtain⟨b1,b2,Lb,p1,p2,p3,p4,p5⟩:=hbj i n' hi;rw[g2] at p1;obtain rfl:=Option.some.inj p1;simp only[fJ,hm,Option.map_some,Option.some.injEq,Prod.mk.injEq] at p2;obtain⟨_,rfl⟩:=p2;obtain⟨Lj',g5',g7⟩:=(gQ hm).2 j hj;rw[g5] at g5';simp only[Option.some.injEq,Prod.mk.injEq,true_and] at g5';subst g5';exact(spec false _ _ _ _ g5 (fun m hm=>hLS m (hL2 m (p5 m (g7 m hm)))) (q7 j hj).2).2.2 n g6
  have hLS:∀m,m∈L→∀y,ρ m=some y→S1 y:=fun m hm y hy=>.inr ⟨m,hm,hy⟩
  have hBS:∀n b,n∈B→σ.h n=some b→b.fz=false→∀x,ρ n=some x→¬S1 x:=by
   rintro n b hn hb hz x hx (hs|⟨m,hm,hmx⟩)
   ·have:=hok.hok.blk n b hb;cases b with
    | var c z =>
     obtain⟨y,_,_,_,g1,_,_,g2,_⟩:=this;obtain rfl:=Option.some.inj (hx.symm.trans g1);exact g2 hz hs
    | arr k l z =>
     obtain⟨_,⟨g1,_⟩|⟨y,_,_,_,g1,_,_,g2,_⟩⟩:=this
     ·rw[hx] at g1;cases g1
     ·obtain rfl:=Option.some.inj (hx.symm.trans g1);exact g2 hz hs
   ·have:=hok.hok.inj m n x (hlent m hm).2 (by simp[hb]) hmx hx;subst this;exact(hlent m hm).1 hn
  have hBfz:∀(j:Nat) (n:Name),B[j]? = some n→∃b,σ.h n=some b∧b.fz=false:=by
   intro j n hj;obtain⟨b,b',Lj,g1,g2,g3,g4,g5⟩:=hbj j n hj;refine⟨b,g1,?_⟩;cases b with
   | var c z =>
    simp only[fJ] at g2;cases hm:fB (conv σ.h 8 B false) c with
    |none=>rw[hm] at g2;cases g2
    | some p =>
     rw[hm] at g2;simp only[Option.map_some,Option.some.injEq,Prod.mk.injEq] at g2;rw[←g2.1] at g4;exact g4
   | arr k l z =>
    simp only[fJ,Option.some.injEq,Prod.mk.injEq] at g2;rw[←g2.1] at g4;exact g4
  have hHn:∀j b',Hn (hin.map some) (.b j)=some b'→∃n b Lj,B[j]? = some n∧σ.h n=some b∧fJ σ.h B b=some (b',Lj)∧(∀m,m∈Lj→m∈L2)∧b'.fz=false:=by
   intro j b' hb'
   have hj:j<B.length:=by
    rw[←hbl];rcases Nat.lt_or_ge j hin.length with h'|h'
    ·exact h'
    ·simp[Hn,List.getD,List.getElem?_eq_none h'] at hb'
   obtain⟨b,b2,Lj,g1,g2,g3,g4,g5⟩:=hbj j B[j] (by simp[hj])
   have:b'=b2:=by
    simp only[Hn,List.getD,List.getElem?_map,g3,Option.map_some,Option.getD_some,Option.some.injEq] at hb';exact hb'.symm
   subst this;exact⟨B[j],b,Lj,by simp[hj],g1,g2,g5,g4⟩
  have hok1:HOK S1 w ρ0 κ0 (Hn (hin.map some)):=by
   refine⟨fun m b' hb'=>?_,fun m m' x h1 h2 h3 h4=>?_,?_,hok.hok.env.mono (fun _ h=>.inl h) fun _ _=>rfl⟩
   ·cases m with
    |t=>simp[Hn] at hb'
    | b j =>
     obtain⟨n,b,Lj,g0,g1,g2,g5,g4⟩:=hHn j b' hb';obtain⟨e1,e2,_⟩:=hE j n g0;have hb:=hok.hok.blk n b g1;have hnS:=hBS n b (List.mem_of_getElem? g0) g1;cases b with
     | var c z =>
      simp only[fJ] at g2;cases hm:fB (conv σ.h 8 B false) c with
      |none=>rw[hm] at g2;cases g2
      | some p =>
       obtain⟨c',Lp⟩:=p;rw[hm] at g2;simp only[Option.map_some,Option.some.injEq,Prod.mk.injEq] at g2;obtain⟨rfl,rfl⟩:=g2;obtain⟨x,cs,T,fr,q1,q2,q3,q4,q4',q5,q6,q7⟩:=hb;obtain⟨l1,l2⟩:=gQ hm;refine⟨x,cs,T,fr,by rw[e1];exact q1,q2,q3,fun hz=>hnS hz x q1,fun hz=>.inl (q4' hz),by rw[e2];exact q5,by omega,fun i hi=>⟨(q7 i (by omega)).1,?_⟩⟩;obtain⟨Li,l3,l4⟩:=l2 i (by omega);exact(spec false _ _ _ _ l3 (fun m hm=>hLS m (hL2 m (g5 m (l4 m hm)))) (q7 i (by omega)).2).1 rfl
     | arr k l z =>
      simp only[fJ,Option.some.injEq,Prod.mk.injEq] at g2;obtain⟨rfl,rfl⟩:=g2;obtain⟨q0,⟨q1,q2⟩|⟨x,cs,T,fr,q1,q2,q3,q4,q4',q5,q6,q7⟩⟩:=hb
      ·exact⟨q0,.inl ⟨by rw[e1];exact q1,q2⟩⟩
      ·exact⟨q0,.inr ⟨x,cs,T,fr,by rw[e1];exact q1,q2,q3,fun hz=>hnS hz x q1,fun hz=>.inl (q4' hz),by rw[e2];exact q5,q6,fun i j hi hj=>⟨(q7 i j hi hj).1,(q7 i j hi hj).2.mono hS1 fun _ _=>rfl⟩⟩⟩
   ·cases m with
    |t=>simp[Hn] at h1
    | b j =>
     cases m' with
     |t=>simp[Hn] at h2
     | b j' =>
      obtain⟨b1,hb1⟩:=Option.isSome_iff_exists.1 h1;obtain⟨b2,hb2⟩:=Option.isSome_iff_exists.1 h2;obtain⟨n,b,_,g0,g1,_⟩:=hHn j b1 hb1;obtain⟨n',b',_,g0',g1',_⟩:=hHn j' b2 hb2;rw[(hE j n g0).1] at h3;rw[(hE j' n' g0').1] at h4;obtain rfl:=hok.hok.inj n n' x (by simp[g1]) (by simp[g1']) h3 h4;congr 1;have e1:=o8 hnd g0;have e2:=o8 hnd g0';rw[e1] at e2;exact Option.some.inj e2
   ·rintro y (hy|⟨n,hn,hy⟩)
    ·exact hok.hok.dom y hy
    ·exact hok.hok.lt (hlent n hn).2 hy
  have hmut:∀x,aCH ρ0 hin x↔∃n,n∈B∧ρ n=some x:=by
   intro x;constructor
   ·rintro⟨j,hj,hx⟩;have hjB:j<B.length:=by omega
    refine⟨B[j],by simp,?_⟩;simpa[ρ0,hjB] using hx
   ·rintro⟨n,hn,hx⟩;obtain⟨j,hj⟩:=List.mem_iff_getElem?.1 hn;refine⟨j,?_,by simp[ρ0,hj,hx]⟩;rw[hbl];exact(List.getElem?_eq_some_iff.1 hj).1
  obtain⟨hyl,hyj⟩:=gQ hys
  have hcall:=hfn.2 S1 w ρ0 κ0 vs hok1 (fun b hb=>by
    obtain⟨j,hj⟩:=List.mem_iff_getElem?.1 hb;have:Hn (hin.map some) (.b j)=some b:=by simp[Hn,List.getD,hj]
    obtain⟨_,_,_,_,_,_,_,hz⟩:=hHn j b this;exact hz) (by omega) (fun j hj=>by
    obtain⟨Lj,l3,l4⟩:=hyj j (by omega);exact(spec false _ _ _ _ l3 (fun m hm=>hLS m (hL1 m (l4 m hm))) (hr j (by omega))).1 rfl)
  refine hcall.mono ?_;rintro e w' ⟨v,S',ρ',κ',rfl,hpost,hrv⟩
  let S2:Nat→Prop:=fun y=>S' y∧(fz=true∨¬∃n,n∈L∧ρ n=some y∧¬S y)
  let ρ2:Name→Option Nat:=fun m=>match kG B m with
   |some j=>ρ' (.b j)
   | none=>match m with
    |.t d' j=>if d'=d∧B.length≤j∧j<hout.length then ρ' (.b j) else ρ (.t d' j)
    |.b i=>ρ (.b i)
  let κ2:Name→Nat:=fun m=>match kG B m with
   |some j=>κ' (.b j)
   | none=>match m with
    |.t d' j=>if d'=d∧B.length≤j∧j<hout.length then κ' (.b j) else κ (.t d' j)
    |.b i=>κ (.b i)
  let h2:=aft σ.h B d hout fz L
  have hnew:∀j,B.length≤j→j<hout.length→kG B (.t d j)=none:=by
   intro j h1 h3;cases hi:kG B (.t d j) with
   |none=>rfl
   | some i =>
    obtain⟨b,hb,_⟩:=hBfz i _ (oC hi);rw[(hfresh j h1 h3).1.1] at hb;cases hb
  have kB:∀(j:Nat) (m:Name),B[j]? = some m→ρ2 m=ρ' (.b j)∧κ2 m=κ' (.b j)∧h2 m=(hout.getD j none).map (rnB (phi B d hout.length)):=by
   intro j m hj;have hi:=o8 hnd hj;simp only[ρ2,κ2,h2,aft,hi,and_self]
  have kN:∀j,B.length≤j→j<hout.length→ρ2 (.t d j)=ρ' (.b j)∧κ2 (.t d j)=κ' (.b j)∧h2 (.t d j)=(hout.getD j none).map (rnB (phi B d hout.length)):=by
   intro j h1 h3;have hi:=hnew j h1 h3;simp only[ρ2,κ2,h2,aft,hi,h1,h3,and_self,if_true]
  have kO:∀m,m∉B→(∀j,B.length≤j→j<hout.length→m≠.t d j)→ρ2 m=ρ m∧κ2 m=κ m∧h2 m=if fz=true∧m∈L then(σ.h m).map frz else σ.h m:=by
   intro m hm hn
   have hi:kG B m=none:=by
    cases hi:kG B m with
    |none=>rfl
    |some j=>exact absurd (List.mem_of_getElem? (oC hi)) hm
   cases m with
   |b i=>simp only[ρ2,κ2,h2,aft,hi,and_self]
   | t d' j =>
    have hc:¬(d'=d∧B.length≤j∧j<hout.length):=by
     rintro⟨rfl,h1,h3⟩;exact hn j h1 h3 rfl
    simp only[ρ2,κ2,h2,aft,hi,if_neg hc,and_self]
  have hφ:∀n m,phi B d hout.length n=some m→ρ2 m=ρ' n∧κ2 m=κ' n∧∀b',h2 m=some b'→∃b,Hn hout n=some b∧b.same b':=by
   intro n m hn;cases n with
   |t=>simp[phi] at hn
   | b j =>
    have fin:ρ2 m=ρ' (.b j)∧κ2 m=κ' (.b j)∧h2 m=(hout.getD j none).map (rnB (phi B d hout.length)):=by
     simp only[phi] at hn;split at hn
     ·exact kB j m hn
     ·split at hn
      ·obtain rfl:=Option.some.inj hn;exact kN j (by omega) (by omega)
      ·cases hn
    refine⟨fin.1,fin.2.1,fun b' hb'=>?_⟩;rw[fin.2.2] at hb';cases hj:hout.getD j none with
    |none=>rw[hj] at hb';cases hb'
    | some b =>
     rw[hj] at hb';obtain rfl:=Option.some.inj hb';exact⟨b,hj,aAb _ _⟩
  have hnm:∀m,(∀j,B.length≤j→j<hout.length→m≠.t d j)→iN ρ ρ2 κ κ2 σ.h h2 m:=by
   intro m hn b' hb';by_cases hm:m∈B
   ·obtain⟨j,hj⟩:=List.mem_iff_getElem?.1 hm;obtain⟨e1,e2,e3⟩:=kB j m hj;rw[e3] at hb';cases hjo:hout.getD j none with
    |none=>rw[hjo] at hb';cases hb'
    | some b =>
     rw[hjo] at hb';obtain rfl:=Option.some.inj hb';have hjl:j<hin.length:=by rw[hbl];exact(List.getElem?_eq_some_iff.1 hj).1
     obtain⟨k1,k2,bi,k3,k4⟩:=hpost.keep j b hjl hjo;obtain⟨g1,g2,g3⟩:=hE j m hj;obtain⟨b0,g4,g5⟩:=g3 bi (by simp[Hn,List.getD,k3]);exact⟨by rw[e1,k1,g1],by rw[e2,k2,g2],b0,g4,Blk.same_trans (Blk.same_trans g5 k4) (aAb _ _)⟩
   ·obtain⟨e1,e2,e3⟩:=kO m hm hn;rw[e3] at hb';refine⟨e1,e2,?_⟩;split at hb'
    ·cases hb0:σ.h m with
     |none=>rw[hb0] at hb';cases hb'
     | some b0 =>
      rw[hb0] at hb';obtain rfl:=Option.some.inj hb';exact⟨b0,rfl,aJi _⟩
    ·exact⟨b',hb',b'.same_refl⟩
  have hSS2:∀y,S y→S2 y:=fun y hy=>⟨hpost.sub y (hS1 y hy),.inr fun⟨_,_,_,hn⟩=>hn hy⟩
  have hnotMut:∀y,S y→¬aCH ρ0 hin y:=by
   intro y hy hm;obtain⟨n,hn,hx⟩:=(hmut y).1 hm;obtain⟨j,hj⟩:=List.mem_iff_getElem?.1 hn;obtain⟨b,hb,hz⟩:=hBfz j n hj;exact hBS n b hn hb hz y hx (.inl hy)
  have hSw:∀y,S y→w'.heap[y]? = w.heap[y]?:=fun y hy=>hpost.old y (hok.hok.dom y hy) (hnotMut y hy)
  have hfl:fz=false→L≠[]→flat r=true∧∀b,some b∈hout→aAB b:=by
   intro h1 h3;rcases hflat h1 with h|h
   ·exact absurd h h3
   ·exact h
  have back:∀(x:AV) (u:Value),(fz=false→L≠[]→flat x=true)→RV S' w' ρ' κ' (Hn hout) x u→RV S2 w' ρ2 κ2 h2 (rn (phi B d hout.length) x) u:=by
   intro x u hfx hx;have hx2:=hx.ren (φ:=phi B d hout.length) hφ;by_cases hz:fz=true
   ·exact hx2.mono (fun y hy=>⟨hy,.inl hz⟩) (fun _ _=>rfl) fun _ _=>iN.refl _ _ _ _
   ·by_cases hl:L=[]
    ·exact hx2.mono (fun y hy=>⟨hy,.inr (by rintro⟨n,hn,_⟩;rw[hl] at hn;cases hn)⟩) (fun _ _=>rfl) fun _ _=>iN.refl _ _ _ _
    ·exact(hx.flat (S':=S2) (hfx (by simpa using hz) hl)).ren hφ
  have backC:∀(x:AV) (u:Value),(fz=false→L≠[]→flat x=true)→RC S' w' x u→RC S2 w' x u:=by
   intro x u hfx hx;by_cases hz:fz=true
   ·exact hx.mono (fun y hy=>⟨hy,.inl hz⟩) fun _ _=>rfl
   ·by_cases hl:L=[]
    ·exact hx.mono (fun y hy=>⟨hy,.inr (by rintro⟨n,hn,_⟩;rw[hl] at hn;cases hn)⟩) fun _ _=>rfl
    ·exact hx.flat (hfx (by simpa using hz) hl)
  have hmineB:∀j x,(hout.getD j none).isSome→ρ' (.b j)=some x→w.heap.size≤x∨∃n,n∈B∧ρ n=some x:=by
   intro j x h1 h3;rcases hpost.mine j x h1 h3 with h|h
   ·exact .inl h
   ·exact .inr ((hmut x).1 h)
  have hnoted:∀j x,(hout.getD j none).isSome→ρ' (.b j)=some x→¬∃n,n∈L∧ρ n=some x∧¬S x:=by
   rintro j x h1 h3 ⟨n,hn,hx,_⟩;rcases hmineB j x h1 h3 with h|⟨n',hn',hx'⟩
   ·exact absurd (hok.hok.lt (hlent n hn).2 hx) (by omega)
   ·obtain⟨i,hi⟩:=List.mem_iff_getElem?.1 hn';obtain⟨b,hb,_⟩:=hBfz i n' hi;obtain rfl:=hok.hok.inj n n' x (hlent n hn).2 (by simp[hb]) hx hx';exact(hlent n hn).1 hn'
  have blkC:∀j b m,hout.getD j none=some b→ρ2 m=ρ' (.b j)→κ2 m=κ' (.b j)→yR S2 w' ρ2 κ2 h2 m (rnB (phi B d hout.length) b):=by
   intro j b m hj e1 e2;have hb:=hpost.hok.blk (.b j) b hj;have hsome:(hout.getD j none).isSome:=by rw[hj];rfl
   have hfb:fz=false→L≠[]→aAB b:=fun h1 h3=>(hfl h1 h3).2 b (by
     refine List.mem_of_getElem? (i:=j) ?_;cases ho:hout[j]? with
     |none=>simp[List.getD,ho] at hj
     |some o=>simp[List.getD,ho] at hj;rw[←hj])
   cases b with
   | var c z =>
    obtain⟨x,cs,T,fr,q1,q2,q3,q4,q4',q5,q6,q7⟩:=hb;refine⟨x,cs,T,fr,by rw[e1];exact q1,q2,q3,fun hz hs=>q4 hz hs.1,fun hz=>⟨q4' hz,.inr (hnoted j x hsome q1)⟩,by rw[e2];exact q5,by rw[bW];exact q6,fun i hi=>?_⟩;rw[bW] at hi;rw[mR _ _ _ hi];exact⟨(q7 i hi).1,back _ _ (fun h1 h3=>gI (hfb h1 h3)) (q7 i hi).2⟩
   | arr k l z =>
    obtain⟨q0,⟨q1,q2⟩|⟨x,cs,T,fr,q1,q2,q3,q4,q4',q5,q6,q7⟩⟩:=hb
    ·exact⟨q0,.inl ⟨by rw[e1];exact q1,q2⟩⟩
    ·refine⟨q0,.inr ⟨x,cs,T,fr,by rw[e1];exact q1,q2,q3,fun hz hs=>q4 hz hs.1,fun hz=>⟨q4' hz,.inr (hnoted j x hsome q1)⟩,by rw[e2];exact q5,q6,fun i j' hi hj'=>⟨(q7 i j' hi hj').1,backC _ _ (fun h1 h3=>gI ?_) (q7 i j' hi hj').2⟩⟩⟩;exact hfb h1 h3 _ (by simp[List.getD,hi])
  have live:∀m b',h2 m=some b'→(∃j b,hout.getD j none=some b∧b'=rnB (phi B d hout.length) b∧ρ2 m=ρ' (.b j)∧κ2 m=κ' (.b j)∧phi B d hout.length (.b j)=some m)∨
    (m∉B∧(∀j,B.length≤j→j<hout.length→m≠.t d j)∧ρ2 m=ρ m∧κ2 m=κ m∧∃b,σ.h m=some b∧b'=if fz=true∧m∈L then frz b else b):=by
   intro m b' hb';by_cases hm:m∈B
   ·obtain⟨j,hj⟩:=List.mem_iff_getElem?.1 hm;obtain⟨e1,e2,e3⟩:=kB j m hj;rw[e3] at hb';cases hjo:hout.getD j none with
    |none=>rw[hjo] at hb';cases hb'
    | some b =>
     rw[hjo] at hb';exact .inl ⟨j,b,hjo,(Option.some.inj hb').symm,e1,e2,by simp only[phi,if_pos (List.getElem?_eq_some_iff.1 hj).1,hj]⟩
   ·by_cases hn:∃j,B.length≤j∧j<hout.length∧m=.t d j
    ·obtain⟨j,h1,h3,rfl⟩:=hn;obtain⟨e1,e2,e3⟩:=kN j h1 h3;rw[e3] at hb';cases hjo:hout.getD j none with
     |none=>rw[hjo] at hb';cases hb'
     | some b =>
      rw[hjo] at hb';exact .inl ⟨j,b,hjo,(Option.some.inj hb').symm,e1,e2,by simp[phi,h3,show ¬j<B.length by omega]⟩
    ·have hn':∀j,B.length≤j→j<hout.length→m≠.t d j:=fun j h1 h3 e=>hn ⟨j,h1,h3,e⟩;obtain⟨e1,e2,e3⟩:=kO m hm hn';rw[e3] at hb';refine .inr ⟨hm,hn',e1,e2,?_⟩;by_cases hc:fz=true∧m∈L
     ·rw[if_pos hc] at hb';cases hb0:σ.h m with
      |none=>rw[hb0] at hb';cases hb'
      |some b0=>rw[hb0] at hb';exact⟨b0,rfl,by rw[if_pos hc];exact(Option.some.inj hb').symm⟩
     ·rw[if_neg hc] at hb';exact⟨b',hb',by rw[if_neg hc]⟩
  have oldx:∀m b x,m∉B→σ.h m=some b→ρ m=some x→w'.heap[x]? = w.heap[x]?:=by
   intro m b x hm hb hx;refine hpost.old x (hok.hok.lt (by simp[hb]) hx) fun hmu=>?_;obtain⟨n,hn,hx'⟩:=(hmut x).1 hmu;obtain⟨i,hi⟩:=List.mem_iff_getElem?.1 hn;obtain⟨b',hb',_⟩:=hBfz i n hi;obtain rfl:=hok.hok.inj m n x (by simp[hb]) (by simp[hb']) hx hx';exact hm hn
  have hok2:HOK S2 w' ρ2 κ2 h2:=by
   refine⟨fun m b' hb'=>?_,fun m m' x h1 h3 h4 h5=>?_,fun y hy=>hpost.hok.dom y hy.1,hok.hok.env.mono hSS2 hSw⟩
   ·rcases live m b' hb' with⟨j,b,hj,rfl,e1,e2,_⟩|⟨hm,hn,e1,e2,b,hb,rfl⟩
    ·exact blkC j b m hj e1 e2
    ·have hb0:=hok.hok.blk m b hb
     have hmono:∀b2:Blk,((b2=b∧¬(fz=true∧m∈L))∨(b2=frz b∧fz=true∧m∈L))→(∀n,b2.has n=b.has n)→yR S2 w' ρ2 κ2 h2 m b2:=by
      intro b2 hb2 hhas
      have hnames:∀n,b.has n=true→iN ρ ρ2 κ κ2 σ.h h2 n:=fun n hn'=>hnm n fun j h1 h3 e=>by
       subst e;rw[(hfresh j h1 h3).2.2 m b hb] at hn';cases hn'
      have hS2:∀x,ρ m=some x→S2 x→b2.fz=false→S x:=by
       rintro x hx ⟨hs,hs2⟩ hz;rcases hpost.new x hs with(h|⟨n,hn',hx'⟩)|h|h
       ·exact h
       ·obtain rfl:=hok.hok.inj m n x (by simp[hb]) (hlent n hn').2 hx hx';rcases hs2 with h|h
        ·rcases hb2 with⟨rfl,hc⟩|⟨rfl,_,_⟩
         ·exact absurd ⟨h,hn'⟩ hc
         ·cases b<;>simp[frz,Blk.fz] at hz
        ·exact Classical.byContradiction fun hns=>h ⟨m,hn',hx,hns⟩
       ·exact absurd (hok.hok.lt (by simp[hb]) hx) (by omega)
       ·obtain⟨n,hn',hx'⟩:=(hmut x).1 h;obtain⟨i,hi⟩:=List.mem_iff_getElem?.1 hn';obtain⟨b'',hb'',_⟩:=hBfz i n hi;obtain rfl:=hok.hok.inj m n x (by simp[hb]) (by simp[hb'']) hx hx';exact absurd hn' hm
      have hS2':∀x,ρ m=some x→b2.fz=true→(b.fz=true→S x)→S2 x:=by
       intro x hx hz hzS;rcases hb2 with⟨rfl,_⟩|⟨rfl,hfz,hmL⟩
       ·exact hSS2 x (hzS hz)
       ·exact⟨hpost.sub x (.inr ⟨m,hmL,hx⟩),.inl hfz⟩
      cases b with
      | var c z =>
       obtain⟨x,cs,T,fr,q1,q2,q3,q4,q4',q5,q6,q7⟩:=hb0;have:∃z2,b2=.var c z2:=by rcases hb2 with⟨rfl,_⟩|⟨rfl,_⟩<;>exact⟨_,rfl⟩
       obtain⟨z2,rfl⟩:=this;refine⟨x,cs,T,fr,by rw[e1];exact q1,by rw[oldx m _ x hm hb q1];exact q2,q3,fun hz hs=>?_,fun hz=>hS2' x q1 hz q4',by rw[e2];exact q5,q6,fun i hi=>⟨(q7 i hi).1,(q7 i hi).2.mono hSS2 hSw fun n hn'=>hnames n ?_⟩⟩
       ·have hs':=hS2 x q1 hs hz;rcases hb2 with⟨hb2,_⟩|⟨hb2,_⟩
        ·simp only[Blk.var.injEq,true_and] at hb2;subst hb2;exact q4 hz hs'
        ·simp[frz] at hb2;rw[hb2] at hz;cases hz
       ·cases hc:nH n c with
        |true=>simp[Blk.has,hc]
        |false=>rw[qM hc] at hn';cases hn'
      | arr k l z =>
       obtain⟨q0,hq⟩:=hb0;have:∃z2,b2=.arr k l z2:=by rcases hb2 with⟨rfl,_⟩|⟨rfl,_⟩<;>exact⟨_,rfl⟩
       obtain⟨z2,rfl⟩:=this;rcases hq with⟨q1,q2⟩|⟨x,cs,T,fr,q1,q2,q3,q4,q4',q5,q6,q7⟩
       ·exact⟨q0,.inl ⟨by rw[e1];exact q1,q2⟩⟩
       ·refine⟨q0,.inr ⟨x,cs,T,fr,by rw[e1];exact q1,by rw[oldx m _ x hm hb q1];exact q2,q3,fun hz hs=>?_,fun hz=>hS2' x q1 hz q4',by rw[e2];exact q5,q6,fun i j hi hj=>⟨(q7 i j hi hj).1,(q7 i j hi hj).2.mono hSS2 hSw⟩⟩⟩;have hs':=hS2 x q1 hs hz;rcases hb2 with⟨hb2,_⟩|⟨hb2,_⟩
        ·simp only[Blk.arr.injEq,true_and] at hb2;subst hb2;exact q4 hz hs'
        ·simp[frz] at hb2;rw[hb2] at hz;cases hz
     by_cases hc:fz=true∧m∈L
     ·rw[if_pos hc];exact hmono _ (.inr ⟨rfl,hc⟩) (by intro n;cases b<;>rfl)
     ·rw[if_neg hc];exact hmono _ (.inl ⟨rfl,hc⟩) (fun _=>rfl)
   ·obtain⟨b1,hb1⟩:=Option.isSome_iff_exists.1 h1;obtain⟨b3,hb3⟩:=Option.isSome_iff_exists.1 h3
    have mixed:∀(j:Nat) (b:Blk) (m':Name) (b'':Blk),hout.getD j none=some b→ρ' (.b j)=some x→m'∉B→σ.h m'=some b''→ρ m'=some x→False:=by
     intro j b m' b'' hj hx hm' hb'' hx';rcases hmineB j x (by rw[hj];rfl) hx with h|⟨n,hn,hxn⟩
     ·exact absurd (hok.hok.lt (by simp[hb'']) hx') (by omega)
     ·obtain⟨i,hi⟩:=List.mem_iff_getElem?.1 hn;obtain⟨bi,hbi,_⟩:=hBfz i n hi;obtain rfl:=hok.hok.inj m' n x (by simp[hb'']) (by simp[hbi]) hx' hxn;exact hm' hn
    rcases live m b1 hb1 with⟨j,b,hj,_,e1,_,e3⟩|⟨hm,_,e1,_,b,hb,_⟩<;>rcases live m' b3 hb3 with⟨j',b',hj',_,e1',_,e3'⟩|⟨hm',_,e1',_,b',hb',_⟩
    ·rw[e1] at h4;rw[e1'] at h5;have:=hpost.hok.inj (.b j) (.b j') x (by simp only[Hn];rw[hj];rfl) (by simp only[Hn];rw[hj'];rfl) h4 h5;rw[this] at e3;exact Option.some.inj (e3.symm.trans e3')
    ·rw[e1] at h4;rw[e1'] at h5;exact(mixed j b m' b' hj h4 hm' hb' h5).elim
    ·rw[e1] at h4;rw[e1'] at h5;exact(mixed j' b' m b hj' h5 hm hb h4).elim
    ·rw[e1] at h4;rw[e1'] at h5;exact hok.hok.inj m m' x (by simp[hb]) (by simp[hb']) h4 h5
  have hBmine:∀n x,n∈B→ρ n=some x→C.w0.heap.size≤x∨C.Mut x:=by
   intro n x hn hx;obtain⟨i,hi⟩:=List.mem_iff_getElem?.1 hn;obtain⟨b,hb,_⟩:=hBfz i n hi;exact hok.mine n x (by simp[hb]) hx
  refine⟨_,_,v,S2,ρ2,κ2,rfl,hK,⟨hok.nt,hok.defers,fun t=>?_,hok2,Nat.le_trans hok.size hpost.size,fun y hy hm=>?_,fun m x h1 h3=>?_,fun y hy=>hSS2 y (hok.S0 y hy),fun y hy=>?_,⟨hpost.out.1.trans hok.out.1,hpost.out.2.trans hok.out.2⟩,fun j b' hb'=>?_⟩,back r v (fun h1 h3=>(hfl h1 h3).1) hrv⟩
  ·refine(hok.slots t).mono hSS2 hSw fun m hm=>hnm m fun j h1 h3 e=>?_;subst e;rw[(hfresh j h1 h3).2.1 t] at hm;cases hm
  ·rw[hpost.old y (Nat.lt_of_lt_of_le hy hok.size) fun hmu=>?_]
   ·exact hok.old y hy hm
   ·obtain⟨n,hn,hx⟩:=(hmut y).1 hmu;rcases hBmine n y hn hx with h|h
    ·omega
    ·exact hm h
  ·obtain⟨b1,hb1⟩:=Option.isSome_iff_exists.1 h1;rcases live m b1 hb1 with⟨j,b,hj,_,e1,_,_⟩|⟨hm,_,e1,_,b,hb,_⟩
   ·rw[e1] at h3;rcases hmineB j x (by rw[hj];rfl) h3 with h|⟨n,hn,hx⟩
    ·exact .inl (Nat.le_trans hok.size h)
    ·exact hBmine n x hn hx
   ·rw[e1] at h3;exact hok.mine m x (by simp[hb]) h3
  ·rcases hpost.new y hy.1 with(h|⟨n,hn,hx⟩)|h|h
   ·exact hok.Snew y h
   ·rcases hok.mine n y (hlent n hn).2 hx with h|h
    ·exact .inr (.inl h)
    ·exact .inr (.inr h)
   ·exact .inr (.inl (Nat.le_trans hok.size h))
   ·obtain⟨n,hn,hx⟩:=(hmut y).1 h;rcases hBmine n y hn hx with h|h
    ·exact .inr (.inl h)
    ·exact .inr (.inr h)
  ·obtain⟨e1,e2,b0,h1,h2⟩:=hnm (.b j) (fun _ _ _=>by simp) b' hb';obtain⟨e3,e4,b1,h3,h4⟩:=hok.keep j b0 h1;exact⟨e1.trans e3,e2.trans e4,b1,h3,Blk.same_trans h4 h2⟩
 ·exact hv.elim
end
section
variable [Envs]
variable {P:Program}{C:Ctx}{a:Act}{w:World}{S:Nat→Prop}{ρ:Name→Option Nat}{κ:Name→Nat}
structure St where
 s:List (Nat×AV)
 h:List (Name×Blk)
def look:List (Nat×AV)→Nat→AV
 | [],_=>.junk
 |(i,x)::r,t=>if t=i then x else look r t
def aB:List (Name×Blk)→Name→Option Blk
 | [],_=>none
 |(i,x)::r,t=>if t=i then some x else aB r t
def St.f (σ:St):FSt:=⟨look σ.s,aB σ.h⟩
def put (d:Option Nat) (x:AV) (s:List (Nat×AV)):List (Nat×AV):=
 match d with
 |some d=>(d,x)::s
 |none=>s
theorem kK (d:Option Nat) (x:AV) (s:List (Nat×AV)):look (put d x s)=upd (look s) d x:=by
 cases d<;>rfl
def hset (n:Name) (b:Blk):List (Name×Blk)→List (Name×Blk)
 | []=>[(n,b)]
 |(i,x)::r=>if n=i then(i,b)::r else(i,x)::hset n b r
theorem vL (n:Name) (b:Blk):∀l,aB (hset n b l)=hput (aB l) n (some b)
 | []=>by funext m;simp only[hset,aB,hput]
 | (i,x)::r=>by
  funext m
  simp only[hset,hput];split
  ·subst_vars
   simp only[aB];split<;>simp_all
  ·rename_i hne;simp only[aB];by_cases h1:m=i
   ·subst h1;simp[Ne.symm hne]
   ·simp only[h1,if_false,vL n b r,hput]
def Name.isT:Name→Bool
 |.t _ _=>true
 |.b _=>false
def dE (n:Name) (σ:St):Bool:=n.isT&&σ.s.all (fun p=>!p.2.has n)&&σ.h.all (fun p=>!decide (p.1=n)&&!p.2.has n)
theorem aEP:∀(s:List (Nat×AV)) (t:Nat),look s t=.junk∨∃p,p∈s∧p.2=look s t
 | [],_=>.inl rfl
 | (i,x)::r,t=>by
  simp only[look];split
  ·exact .inr ⟨(i,x),by simp,rfl⟩
  ·rcases aEP r t with h|⟨p,hp,h⟩
   ·exact .inl h
   ·exact .inr ⟨p,List.mem_cons_of_mem _ hp,h⟩
theorem uK:∀(l:List (Name×Blk)) (n:Name) (b:Blk),aB l n=some b→(n,b)∈l
 | [],_,_,h=>by simp[aB] at h
 | (i,x)::r,n,b,h=>by
  simp only[aB] at h;split at h
  ·obtain rfl:=Option.some.inj h;subst_vars;simp
  ·exact List.mem_cons_of_mem _ (uK r n b h)
theorem aFY {l:List (Name×Blk)}{n:Name} (h:∀p,p∈l→p.1≠n):aB l n=none:=by
 cases hl:aB l n with
 |none=>rfl
 |some b=>exact absurd rfl (h _ (uK l n b hl))
theorem eQ {n:Name}{σ:St} (h:dE n σ=true):j3 n σ.f:=by
 simp only[dE,Bool.and_eq_true,List.all_eq_true,Bool.not_eq_true',decide_eq_false_iff_not] at h;obtain⟨⟨h0,h1⟩,h2⟩:=h
 have hb:∀j,n≠.b j:=by
  rintro j rfl;cases h0
 have h:=And.intro h1 h2;clear h1 h2;refine⟨⟨aFY fun p hp=>(h.2 p hp).1,hb⟩,fun t=>?_,fun m b hb=>(h.2 _ (uK _ _ _ hb)).2⟩;rcases aEP σ.s t with e|⟨p,hp,e⟩
 ·simp only[St.f,e,AV.has]
 ·simp only[St.f,←e];exact h.1 p hp
def o6 (n:Name) (σ:St):St:=⟨σ.s.map fun p=>(p.1,scr n p.2),(σ.h.filter fun p=>!decide (p.1=n)).map fun p=>(p.1,aBp n p.2)⟩
theorem mV (f:AV→AV) (hf:f .junk=.junk):∀(s:List (Nat×AV)) (t:Nat),look (s.map fun p=>(p.1,f p.2)) t=f (look s t)
 | [],_=>by simp[look,hf]
 | (i,x)::r,t=>by
  simp only[List.map_cons,look];split
  ·rfl
  ·exact mV f hf r t
theorem rV (n:Name):∀(l:List (Name×Blk)) (m:Name),aB ((l.filter fun p=>!decide (p.1=n)).map fun p=>(p.1,aBp n p.2)) m=if m=n then none else(aB l m).map (aBp n)
 | [],m=>by simp[aB]
 | (i,x)::r,m=>by
  have ih:=rV n r m;by_cases hi:i=n
  ·subst hi;simp only[List.filter_cons,decide_true,Bool.not_true,Bool.false_eq_true,if_false,aB,ih];by_cases hm:m=i
   ·simp[hm]
   ·simp[hm]
  ·simp only[List.filter_cons,hi,decide_false,Bool.not_false,if_true,List.map_cons,aB,ih];by_cases hm:m=i
   ·subst hm;simp[hi]
   ·simp[hm]
theorem aGQ (n:Name) (σ:St):(o6 n σ).f=tZ n σ.f:=by
 simp only[St.f,o6,tZ,FSt.mk.injEq];exact⟨funext fun t=>mV (scr n) (by simp[scr,AV.has]) _ t,funext fun m=>rV n _ m⟩
def aQ:Option Name→St→St
 |some n,σ=>o6 n σ
 |none,σ=>σ
theorem aEZ (on:Option Name) (σ:St):(aQ on σ).f=aBd on σ.f:=by
 cases on
 ·rfl
 ·exact aGQ _ _
/-! ## a call on lists -/
def rG (g:Blk→Blk) (d nB:Nat):Nat→List (Option Blk)→List (Name×Blk)
 |_,[]=>[]
 |i,none::r=>rG g d nB (i+1) r
 |i,some b::r=>if nB≤i then(.t d i,g b)::rG g d nB (i+1) r else rG g d nB (i+1) r
def aFp (B:List Name) (d:Nat) (hout:List (Option Blk)) (fz:Bool) (L:List Name) (m:Name) (b:Blk):Option Blk:=
 match kG B m with
 |some j=>(hout.getD j none).map (rnB (phi B d hout.length))
 |none=>some (if fz=true∧m∈L then frz b else b)
def aC7 (f:Name→Blk→Option Blk):List (Name×Blk)→List (Name×Blk)
 | []=>[]
 | (m,b)::r=>match f m b with
  |some b'=>(m,b')::aC7 f r
  |none=>aC7 f r
def xR (h:List (Name×Blk)) (B:List Name) (d:Nat) (hout:List (Option Blk)) (fz:Bool) (L:List Name):List (Name×Blk):=
 rG (rnB (phi B d hout.length)) d B.length 0 hout++aC7 (aFp B d hout fz L) h
theorem aAu (l l':List (Name×Blk)) (m:Name):aB (l++l') m=(aB l m).or (aB l' m):=by
 induction l with
 |nil=>simp[aB]
 | cons p r ih =>
  simp only[List.cons_append,aB];split
  ·simp
  ·exact ih
def sU (g:Blk→Blk) (d nB i:Nat) (l:List (Option Blk)):Name→Option Blk
 |.t d' j=>if d'=d∧nB≤j∧i≤j∧j<i+l.length then(l.getD (j-i) none).map g else none
 |.b _=>none
theorem zG (g:Blk→Blk) (d nB:Nat):∀(l:List (Option Blk)) (i:Nat) (m:Name),aB (rG g d nB i l) m=sU g d nB i l m
 | [],i,m=>by
  cases m with
  |b=>rfl
  | t d' j =>
   have:¬(d'=d∧nB≤j∧i≤j∧j<i+([]:List (Option Blk)).length):=by
    rintro⟨_,_,h1,h2⟩;simp at h2;omega
   simp only[rG,aB,sU,this,if_false]
 | o::r,i,m=>by
  have ih:=zG g d nB r (i+1) m
  have skip:(∀b,o=some b→¬nB≤i)→aB (rG g d nB (i+1) r) m=sU g d nB i (o::r) m:=by
   intro ho;rw[ih];cases m with
   |b=>rfl
   | t d' j =>
    simp only[sU,List.length_cons];by_cases hj:j=i
    ·subst hj;rw[if_neg (by omega)];cases o with
     |none=>simp
     |some b=>rw[if_neg (by intro h;exact ho b rfl h.2.1)]
    ·by_cases hc:d'=d∧nB≤j∧i+1≤j∧j<i+1+r.length
     ·rw[if_pos hc,if_pos (by omega)];have:j-i=(j-(i+1))+1:=by omega
      rw[this];rfl
     ·rw[if_neg hc,if_neg (by omega)]
  cases o with
  |none=>exact skip (by simp)
  | some b =>
   simp only[rG];split
   ·rename_i hle;simp only[aB];split
    ·subst_vars
     simp[sU,hle]
    ·rename_i hne;rw[ih];cases m with
     |b=>rfl
     | t d' j =>
      simp only[sU,List.length_cons];by_cases hj:d'=d∧j=i
      ·obtain⟨rfl,rfl⟩:=hj;exact absurd rfl hne
      ·by_cases hc:d'=d∧nB≤j∧i+1≤j∧j<i+1+r.length
       ·rw[if_pos hc,if_pos (by omega)];have:j-i=(j-(i+1))+1:=by omega
        rw[this];rfl
       ·rw[if_neg hc,if_neg (by omega)]
   ·rename_i hle;exact skip (fun _ _=>hle)
theorem zF (f:Name→Blk→Option Blk) (hf:∀m b b',f m b=none→f m b'=none) (m:Name):∀h:List (Name×Blk),aB (aC7 f h) m=(aB h m).bind (f m)
 | []=>rfl
 | (i,x)::r=>by
  have ih:=zF f hf m r;simp only[aC7,aB];by_cases hm:m=i
  ·subst hm;cases hfx:f m x with
   | none =>
    simp only[ih,if_true,Option.bind_some,hfx];cases hr:aB r m with
    |none=>rfl
    |some b=>exact hf m x b hfx
   |some b=>simp[aB,hfx]
  ·cases hfx:f i x with
   |none=>simp[ih,hm]
   |some b=>simp[aB,hm,ih]
theorem aMq {σ:St}{B:List Name}{d:Nat}{hout:List (Option Blk)}{fz:Bool}{L:List Name} (hB:∀m,m∈B→(aB σ.h m).isSome) (hnew:∀j,B.length≤j→j<hout.length→aB σ.h (.t d j)=none) :
  aB (xR σ.h B d hout fz L)=aft (aB σ.h) B d hout fz L:=by
 funext m
 unfold xR
 rw [aAu,zF _ (fun m b b' h=>by
   unfold aFp at *
   cases hi:kG B m with
   |none=>rw[hi] at h;cases h
   |some j=>rw[hi] at h;exact h),zG]
 unfold aft
 have hi:∀d' j,d'=d→B.length≤j→j<hout.length→kG B (.t d' j)=none:=by
  rintro d' j rfl h1 h2;cases hi:kG B (.t d' j) with
  |none=>rfl
  | some i =>
   have:=hB _ (List.mem_of_getElem? (oC hi));rw[hnew j h1 h2] at this;cases this
 have rest:∀m,(aB σ.h m).bind (aFp B d hout fz L m)=match kG B m with
   |some j=>(hout.getD j none).map (rnB (phi B d hout.length))
   |none=>if fz=true∧m∈L then(aB σ.h m).map frz else aB σ.h m:=by
  intro m;cases hx:kG B m with
  | none =>
   simp only;cases aB σ.h m with
   |none=>simp
   | some b =>
    simp only[Option.bind_some,aFp,hx];split<;>rfl
  | some j =>
   have:=hB _ (List.mem_of_getElem? (oC hx));obtain⟨b,hb⟩:=Option.isSome_iff_exists.1 this;simp only[hb,Option.bind_some,aFp,hx]
 rw[rest];cases m with
 | b i =>
  simp only[sU,Option.none_or]
  all_goals(cases kG B (.b i)<;>rfl)
 | t d' j =>
  simp only[sU,Nat.zero_le,true_and,Nat.zero_add,Nat.sub_zero];by_cases hc:d'=d∧B.length≤j∧j<hout.length
  ·obtain⟨rfl,h1,h2⟩:=hc;rw[hi d' j rfl h1 h2];simp only[h1,h2,and_self,if_true,hnew j h1 h2];cases(hout.getD j none).map (rnB (phi B d' hout.length))<;>simp
  ·simp only[hc,if_false,Option.none_or]
   all_goals(cases kG B (.t d' j)<;>rfl)
end
section
variable [Envs]
def pX:List Nat→List Value→List Value→Option Bool
 | [],[],[]=>some true
 | k::ks,x::r,y::s=>match eqV k x y,pX ks r s with
  |some a,some b=>some (a&&b)
  |_,_=>none
 |_,_,_=>none
mutual
def eqT (P:Program):Nat→TypeId→Option (List Nat)
 |0,_=>none
 | d+1,t=>match P.underlying t with
  |some .bool=>some [1]
  |some (.int _)=>some [0]
  |some .string=>some [2]
  | some (.struct fs)=>if P.stoodInHeld t then none else match eqF P d fs.toList 0 with
   |some l=>if kE P t=some l.length then some l else none
   |none=>none
  |_=>none
def eqF (P:Program):Nat→List Field→Nat→Option (List Nat)
 |0,_,_=>none
 |_+1,[],_=>some []
 | d+1,f::fs,o=>if f.name != "_" && f.offset==o then match eqT P d f.type with
   | some m=>if m.length=0 then none else match eqF P d fs (o+m.length) with
    |some l=>some (m++l)
    |none=>none
   |none=>none
  else none
end
theorem aAD:∀{ks:List Nat}{l m:List Value}{b:Bool},pX ks l m=some b→l.length=ks.length∧m.length=ks.length
 | [],[],[],_,_=>⟨rfl,rfl⟩
 | k::ks,x::r,y::s,b,h=>by
  simp only[pX] at h;split at h
  ·rename_i a b' h1 h2;obtain⟨g1,g2⟩:=aAD h2;simp[g1,g2]
  ·cases h
 | [],[],_::_,_,h=>by simp[pX] at h
 | [],_::_,_,_,h=>by simp[pX] at h
 |_::_,[],_,_,h=>by simp[pX] at h
 |_::_,_::_,[],_,h=>by simp[pX] at h
theorem aBi:∀{k1 k2:List Nat}{l m:List Value}{b:Bool},pX (k1++k2) l m=some b→∃b1 b2,pX k1 (l.take k1.length) (m.take k1.length)=some b1∧pX k2 (l.drop k1.length) (m.drop k1.length)=some b2∧b=(b1&&b2)
 | [],k2,l,m,b,h=>⟨true,b,by simp[pX],by simpa using h,by simp⟩
 | k::k1,k2,l,m,b,h=>by
  cases l with
  |nil=>simp[pX] at h
  | cons x l=>cases m with
   |nil=>simp[pX] at h
   | cons y m =>
    simp only[List.cons_append,pX] at h;split at h
    ·rename_i a b' h1 h2;obtain⟨b1,b2,g1,g2,rfl⟩:=aBi h2;obtain rfl:=Option.some.inj h;exact⟨a&&b1,b2,by simp only[List.length_cons,List.take_succ_cons,pX,h1,g1],by simpa using g2,by rw[Bool.and_assoc]⟩
    ·cases h
def zM (g:Bool) (xs:List Value):Value:=if g then .agg xs.toArray else xs.headD undef
theorem aEu {P:Program}{t:TypeId}{xs:Array Value}{o n:Nat}{g:Bool}{w:World} (hg:jA P t=some g) (hn:g=true→kE P t=some n) (h1:g=false→n=1) (ho:o+n≤xs.size) :
  (part t xs o).run P w=.ok (zM g ((xs.toList.drop o).take n)) w:=by
 cases g with
 | true =>
  simp only[part,Sem.run_bind,mD hg,Result.andThen_ok,if_true,run_sizeOf (hn rfl),Sem.run_pure,zM];congr 2;apply Array.ext';simp
 | false =>
  obtain rfl:=h1 rfl;have:o<xs.size:=by omega
  simp only[part,Sem.run_bind,mD hg,Result.andThen_ok,Bool.false_eq_true,if_false,zM];rw[Array.getElem?_eq_getElem this];simp only[Sem.run_pure]
  have e:(xs.toList.drop o).take 1=[xs[o]]:=by
   rw[List.drop_eq_getElem_cons (by simpa using this)];simp
  rw[e];rfl
theorem aK2 {P:Program}:∀{d:Nat}{t:TypeId}{l:List Nat},eqT P d t=some l→∃g,jA P t=some g∧(g=true→kE P t=some l.length)∧(g=false→l.length=1)
 |0,_,_,h=>by simp[eqT] at h
 | d+1,t,l,h=>by
  simp only[eqT] at h;split at h
  ·rename_i hu;obtain rfl:=Option.some.inj h;exact⟨false,by simp[jA,hu],by simp,by simp⟩
  ·rename_i hu;obtain rfl:=Option.some.inj h;exact⟨false,by simp[jA,hu],by simp,by simp⟩
  ·rename_i hu;obtain rfl:=Option.some.inj h;exact⟨false,by simp[jA,hu],by simp,by simp⟩
  ·rename_i fs hu;split at h
   ·cases h
   ·split at h
    ·rename_i l' hl;split at h
     ·obtain rfl:=Option.some.inj h;exact⟨true,by simp[jA,hu],fun _=>by assumption,by simp⟩
     ·cases h
    ·cases h
  ·cases h
theorem aMc {P:Program} (w:World):∀(d:Nat),(∀(t:TypeId) (l:List Nat),eqT P d t=some l→∀(g:Bool),jA P t=some g→∀(xs ys:List Value) (b:Bool) (k:Nat),pX l xs ys=some b→
      (Op.equalIn (d+k) t (zM g xs) (zM g ys)).run P w=.ok b w)∧
  ∀(fs:List Field) (o:Nat) (l:List Nat),eqF P d fs o=some l→∀(xs ys:Array Value) (b:Bool) (k:Nat),pX l (xs.toList.drop o) (ys.toList.drop o)=some b→(Op.eqFields (d+k) xs ys fs).run P w=.ok b w:=by
 intro d
 induction d with
 |zero=>exact⟨fun t l h=>by simp[eqT] at h,fun fs o l h=>by simp[eqF] at h⟩
 | succ d ih =>
  obtain⟨iht,ihf⟩:=ih;refine⟨fun t l h g hg xs ys b k hv=>?_,fun fs o l h xs ys b k hv=>?_⟩
  ·simp only[eqT] at h
   have leaf:∀(c:Nat),l=[c]→g=false→∃x y,zM g xs=x∧zM g ys=y∧eqV c x y=some b:=by
    rintro c rfl rfl
    match xs,ys,hv with
    | [],_,hv=>simp[pX] at hv
    |_::_,[],hv=>simp[pX] at hv
    | x::r,y::s,hv =>
     simp only[pX] at hv;split at hv
     ·rename_i a b' h1 h2;have:=aAD h2;have e1:r=[]:=List.length_eq_zero_iff.1 this.1;have e2:s=[]:=List.length_eq_zero_iff.1 this.2;subst e1;subst e2;simp only[pX,Option.some.injEq] at h2;subst h2;simp only[Bool.and_true] at hv;exact⟨x,y,rfl,rfl,by rw[h1];exact hv⟩
     ·cases hv
   have e1:d+1+k=(d+k)+1:=by omega
   rw[e1];split at h
   ·rename_i hu;simp only[jA,hu,Option.some.injEq] at hg;obtain⟨x,y,hx,hy,hxy⟩:=leaf 1 (Option.some.inj h).symm hg.symm;rw[hx,hy];unfold eqV at hxy;split at hxy<;>first|(exact run_equalIn_bool' w _ t _ _ hu ▸ (by rw[Option.some.inj hxy]))|simp_all
   ·rename_i kk hu;simp only[jA,hu,Option.some.injEq] at hg;obtain⟨x,y,hx,hy,hxy⟩:=leaf 0 (Option.some.inj h).symm hg.symm;rw[hx,hy];cases x<;>simp only[eqV] at hxy<;>try(cases hxy;done)
    cases y<;>simp only at hxy<;>try(cases hxy;done)
    split at hxy
    ·obtain rfl:=Option.some.inj hxy
     subst_vars
     exact run_equalIn_int w _ t _ _ _ _ hu
    ·cases hxy
   ·rename_i hu;simp only[jA,hu,Option.some.injEq] at hg;obtain⟨x,y,hx,hy,hxy⟩:=leaf 2 (Option.some.inj h).symm hg.symm;rw[hx,hy];cases x<;>simp only[eqV] at hxy<;>try(cases hxy;done)
    cases y<;>simp only at hxy<;>try(cases hxy;done)
    obtain rfl:=Option.some.inj hxy;exact run_equalIn_string w _ t _ _ hu
   ·rename_i fs hu;simp only[jA,hu,Option.some.injEq] at hg;subst hg;split at h
    ·cases h
    ·rename_i hst;split at h
     ·rename_i l' hl;split at h
      ·obtain rfl:=Option.some.inj h;have hfo:P.fieldsOf t=fs:=by simp[Program.fieldsOf,hu]
       simp only[zM,if_true];rw[run_equalIn_struct w (d+k) t _ _ (by rw[hfo];exact hu) (by simpa using hst),hfo];exact ihf _ _ _ hl _ _ b k (by simpa using hv)
      ·cases h
     ·cases h
   ·cases h
  ·cases fs with
   | nil =>
    simp only[eqF,Option.some.injEq] at h;subst h
    have:b=true:=by
     have hl:=aAD hv;have e1:xs.toList.drop o=[]:=List.length_eq_zero_iff.1 hl.1;have e2:ys.toList.drop o=[]:=List.length_eq_zero_iff.1 hl.2;rw[e1,e2] at hv;simpa[pX] using hv.symm
    subst this;simp[Op.eqFields]
   | cons f fs =>
    simp only[eqF] at h;split at h
    ·rename_i hno;simp only[Bool.and_eq_true,bne_iff_ne,ne_eq,beq_iff_eq] at hno;split at h
     ·rename_i m hm;split at h
      ·cases h
      rename_i hm0;split at h
      ·rename_i l' hl';obtain rfl:=Option.some.inj h;obtain⟨g,hg,hg1,hg2⟩:=aK2 hm;have hlen:=aAD hv;simp only[List.length_drop,Array.length_toList,List.length_append] at hlen;obtain⟨b1,b2,q1,q2,rfl⟩:=aBi hv;have hpx:=aEu (w:=w) (xs:=xs) (o:=o) hg hg1 hg2 (by omega);have hpy:=aEu (w:=w) (xs:=ys) (o:=o) hg hg1 hg2 (by omega);have e1:d+1+k=d+(1+k):=by omega
       have hq:=iht _ _ hm g hg _ _ b1 (1+k) q1;simp only[Op.eqFields,ne_eq,hno.1,not_false_eq_true,if_true,hno.2,Sem.run_bind,hpx,hpy,Result.andThen_ok,e1,hq];cases b1 with
       |false=>simp
       | true =>
        simp only[Bool.not_true,Bool.false_eq_true,if_false,Bool.true_and];exact ihf fs (o+m.length) l' hl' xs ys b2 (1+k) (by rw[List.drop_drop,List.drop_drop] at q2;exact q2)
      ·cases h
     ·cases h
    ·cases h
theorem aJq {P:Program}{S:Nat→Prop}{w:World}{ρ:Name→Option Nat}{κ:Name→Nat}{h:Name→Option Blk}:∀{ks:List Nat}{c c':List AV}{vs us:List Value}{b:Bool},eqC ks c c'=some b→
  c.length=vs.length→c'.length=us.length→(∀j,j<c.length→RV S w ρ κ h (c.getD j .junk) (vs.getD j undef))→(∀j,j<c'.length→RV S w ρ κ h (c'.getD j .junk) (us.getD j undef))→pX ks vs us=some b
 | [],[],[],[],[],b,hc,_,_,_,_=>by simpa[eqC,pX] using hc
 | k::ks,x::r,y::s,v::vs,u::us,b,hc,h1,h2,h3,h4=>by
  have g1:=h3 0 (by simp);have g2:=h4 0 (by simp);simp only[List.getD_cons_zero] at g1 g2;cases x<;>try(simp[eqC] at hc;done)
  cases y<;>try(simp[eqC] at hc;done)
  cases g1 with|clo g1=>cases g1 with|v x =>
  cases g2 with|clo g2=>cases g2 with|v y =>
  simp only[eqC] at hc;split at hc
  ·rename_i a b' q1 q2;have:=aJq (P:=P) q2 (by simpa using h1) (by simpa using h2) (fun j hj=>by simpa using h3 (j+1) (by simpa using hj)) (fun j hj=>by simpa using h4 (j+1) (by simpa using hj));simp only[pX,q1,this];exact hc
  ·cases hc
 | [],[],_::_,_,_,b,hc,_,_,_,_=>by simp[eqC] at hc
 | [],_::_,_,_,_,b,hc,_,_,_,_=>by simp[eqC] at hc
 |_::_,[],_,_,_,b,hc,_,_,_,_=>by simp[eqC] at hc
 |_::_,_::_,[],_,_,b,hc,_,_,_,_=>by simp[eqC] at hc
 |_,_::_,_::_,[],_,b,hc,h1,_,_,_=>by simp at h1
 |_,_::_,_::_,_::_,[],b,hc,_,h2,_,_=>by simp at h2
 |_,[],[],_::_,_,b,hc,h1,_,_,_=>by simp at h1
 |_,[],[],[],_::_,b,hc,_,h2,_,_=>by simp at h2
variable {P:Program}{C:Ctx}{σ:FSt}{a:Act}{w:World}{S:Nat→Prop}{ρ:Name→Option Nat}{κ:Name→Nat}{K:AV→Prop}
theorem aIG (hok:OK C σ a w S ρ κ) {op:BinOp}{t:TypeId}{ks:List Nat}{x y:Operand}{neg:Bool} (hop:(op=.eql∧neg=false)∨(op=.neq∧neg=true)) (ht:eqT P 30 t=some ks) (hg:P.eqGuardType P.depth t=false) (ha:jA P t=some true)
  (hv:rd (evO σ.s) σ.h K (.eqA neg ks x y)):Ans P S w ρ κ σ.h K (do eqGuard op t x y (a.eval x) (a.eval y);binOp op t (a.eval x) (a.eval y)):=by
 have hx:=hok.ev x;have hy:=hok.ev y;generalize a.eval x=va at hx⊢;generalize a.eval y=vb at hy⊢;simp only[rd] at hv;split at hv
 ·rename_i c c' hc hc';rw[hc] at hx;rw[hc'] at hy;obtain⟨vs,rfl,l1,r1⟩:=mX hx;obtain⟨us,rfl,l2,r2⟩:=mX hy;split at hv
  ·rename_i b hb;have hvs:=aJq (P:=P) (vs:=vs.toList) (us:=us.toList) hb (by simpa using l1) (by simpa using l2) (fun j hj=>by rw[getD_toList];exact r1 j hj) (fun j hj=>by rw[getD_toList];exact r2 j hj);have hrun:=(aMc (P:=P) w 30).1 t ks ht true ha vs.toList us.toList b 9970 hvs;simp only[zM,if_true] at hrun;rcases hop with⟨rfl,rfl⟩|⟨rfl,rfl⟩
   ·refine⟨_,_,hv,?_,.clo (.v _)⟩;simp only[Sem.run_bind,run_eqGuard_agg w _ t x y vs us hg,Result.andThen_ok,run_eql_struct w t vs us];rw[show(10000:Nat)=30+9970 from rfl,hrun];rfl
   ·refine⟨_,_,hv,?_,.clo (.v _)⟩;simp only[Sem.run_bind,run_eqGuard_agg w _ t x y vs us hg,Result.andThen_ok,run_neq_struct w t vs us];rw[show(10000:Nat)=30+9970 from rfl,hrun];rfl
  ·exact hv.elim
 ·exact hv.elim
end
section
variable [Envs]
variable {P:Program}{C:Ctx}{σ:FSt}{a:Act}{w:World}{S:Nat→Prop}{ρ:Name→Option Nat}{κ:Name→Nat}{K:AV→Prop}
theorem aCm (ns:List Int):ns.foldl (fun r n=>r.push (UInt8.ofNat n.toNat)) ByteArray.empty=uX ns:=by
 have key:∀(ns:List Int) (b:ByteArray),ns.foldl (fun r n=>r.push (UInt8.ofNat n.toNat)) b=⟨b.data++(ns.map fun n=>UInt8.ofNat n.toNat).toArray⟩:=by
  intro ns
  induction ns with
  |nil=>intro b;cases b;simp
  | cons n r ih =>
   intro b;simp only[List.foldl_cons,ih];cases b;simp[ByteArray.push]
 rw[key];simp[uX,ByteArray.empty,ByteArray.emptyWithCapacity];rfl
theorem yX:∀{l:List (List AV)}{ns:List Int},rE l=some ns→l=ns.map fun n=>[.v (.int .u8 n)]
 | [],ns,h=>by simp[rE] at h;simp[h]
 | [.v (.int .u8 n)]::r,ns,h=>by
  simp only[rE] at h;split at h
  ·rename_i l hl;obtain rfl:=Option.some.inj h;rw[yX hl];rfl
  ·cases h
 | []::r,ns,h=>by simp[rE] at h
 |(x::y::s)::r,ns,h=>by simp[rE] at h
 | [x]::r,ns,h=>by
  cases x<;>try(simp[rE] at h;done)
  rename_i v;cases v<;>try(simp[rE] at h;done)
  rename_i k n;cases k<;>try(simp[rE] at h;done)
  simp only[rE] at h;split at h
  ·rename_i l hl;obtain rfl:=Option.some.inj h;rw[yX hl];rfl
  ·cases h
theorem aLO (hok:OK C σ a w S ρ κ) {s d e:TypeId} (hs:P.underlying s=some (.slice e)) (he:P.underlying e=some (.int .u8)) (hd:P.underlying d=some .string) {x:Operand}
  (hv:rd (evO σ.s) σ.h K (.b2s x)):Ans P S w ρ κ σ.h K (convert s d (a.eval x)):=by
 have hx:=hok.ev x;generalize a.eval x=va at hx⊢;simp only[rd] at hv;split at hv
 ·rename_i l hl;split at hv
  ·rename_i ns hns;obtain⟨base,cap,f,rfl,hr⟩:=aBZ hok.hok hx hl;have hl':=yX hns;refine⟨_,_,hv,?_,.clo (.v _)⟩;rw[run_convert_bytes_string w s d e _ _ _ hs he hd];have hlen:l.length=ns.length:=by rw[hl'];simp
   cases ns with
   | nil =>
    have h0:l.length=0:=by simpa using hlen
    rw[h0];cases base with
    | none =>
     simp[Conv.bytesToString,uX,ByteArray.empty,ByteArray.emptyWithCapacity];rfl
    | some A =>
     rw[run_bytesToString w A 0 cap [] (by simp[loadCells,loadCellsFrom]),aCm]
   | cons n0 ns0 =>
    have hcell:=hr.cell w rfl;obtain⟨b,off,hb,_⟩:=hcell 0 (by simp at hlen;omega);subst hb;rw[hlen];rw[run_bytesToString w ⟨b,off,none⟩ _ cap (n0::ns0) ?_,aCm];rw[run_loadCells w ⟨b,off,none⟩ _ f (fun j hj=>?_)]
    ·congr 1;apply Array.ext';simp only;apply List.ext_getElem?;intro j;rcases Nat.lt_or_ge j (n0::ns0).length with hj|hj
     ·have hrc:=hr.rc j (by omega)
      have e1:p9 1 l j=.v (.int .u8 (n0::ns0)[j]):=by
       have:l[j]? = some [.v (.int .u8 (n0::ns0)[j])]:=by rw[hl'];simp only[List.getElem?_map,List.getElem?_eq_getElem hj,Option.map_some]
       simp[p9,List.getD,this,Nat.mod_one]
      rw[e1] at hrc
      have e2:f j=.int .u8 (n0::ns0)[j]:=by
       generalize f j=u at hrc;cases hrc with|v _=>rfl
      rw[List.getElem?_map,List.getElem?_range hj,List.getElem?_map,List.getElem?_eq_getElem hj,Option.map_some,Option.map_some,e2]
     ·rw[List.getElem?_eq_none (show(List.map f (List.range (n0::ns0).length)).length≤j by simpa using hj),List.getElem?_eq_none (show(List.map (Value.int .u8) (n0::ns0)).length≤j by simpa using hj)]
    ·obtain⟨b',off',hb',hc'⟩:=hcell j (by omega);simp only[Option.some.injEq,Addr.mk.injEq,and_true] at hb';obtain⟨rfl,rfl⟩:=hb';rw[addr_add];exact hc'
  ·exact hv.elim
 ·exact hv.elim
def aI9 (P:Program) (f:FuncId):Bool:=match P.funcs[f]? with
 |some fn=>fn.body.isNone&&fn.name == "internal/bytealg.IndexByteString" && fn.origin == ""
 |none=>false
theorem aJn {fn:Func} (h:fn.name = "internal/bytealg.IndexByteString"):Extern.find fn=some Extern.BytealgIndexByte.indexByte:=by
 unfold Extern.find;simp only[h];rfl
theorem aD7 {fn:Func} (h:fn.name = "internal/bytealg.IndexByteString") (ho:fn.origin = ""):Extern.findNext fn=none:=by
 unfold Extern.findNext;simp only[h,ho];rfl
theorem aKp (hok:OK C σ a w S ρ κ) {o:Oper}{c:Call}{f:FuncId}{x y:Operand} (hop:o.op=.call c) (hc:c.callee=.value (.func f)) (hargs:c.args=#[x,y]) (hi:aI9 P f=true)
  (hv:rd (evO σ.s) σ.h K (.idxB x y)):∃x' v,K x'∧(execOp a.eval o).run P w=.ok (.value v) w∧RV S w ρ κ σ.h x' v:=by
 have hx:=hok.ev x;have hy:=hok.ev y
 have hrun:(execOp a.eval o).run P w=(callFunc f #[a.eval x,a.eval y]).run P w:=by
  simp[execOp,hop,resolve,hc,hargs,Act.eval,Deferred.ofValue,invoke]
 generalize a.eval x=va at hx hrun;generalize a.eval y=vb at hy hrun;simp only[rd] at hv;split at hv
 ·rename_i s n h1 h2;rw[h1] at hx;rw[h2] at hy;obtain rfl:=dY hx;obtain rfl:=dY hy;unfold aI9 at hi;split at hi
  ·rename_i fn hfn;simp only[Bool.and_eq_true,beq_iff_eq] at hi;have hname:(fn.name == "runtime.NumGoroutine")=false:=by rw[hi.1.2];rfl
   refine⟨_,.int .i64 (yE s n),hv,?_,.clo (.v _)⟩;rw[hrun,run_callFunc_indexByte hfn hname hi.1.1 (aD7 hi.1.2 hi.2) (aJn hi.1.2)]
   have e:Extern.BytealgIndexByte.indexByte #[Value.string s,.int .u8 n]=(do
       let b ←Extern.Bytes.bytesOf (.string s)
       let c ←Extern.Bytes.asByte (.int .u8 n)
       match(List.range b.size).find? (fun i=>b[i]! == c) with
       |some i=>pure (goInt i)
       |none=>pure (goInt (-1)):Sem Value):=rfl
   rw[e];simp only[Extern.Bytes.bytesOf,Extern.Bytes.asByte,Sem.run_bind,Sem.run_pure,Result.andThen_ok];unfold yE;split
   ·rename_i i hf;simp only[hf,Sem.run_pure,Result.andThen_ok,goInt]
   ·rename_i hf;simp only[hf,Sem.run_pure,Result.andThen_ok,goInt]
  ·cases hi
 ·exact hv.elim
end
section
variable [Envs]
variable {P:Program}{C:Ctx}{a:Act}{w:World}{S:Nat→Prop}{ρ:Name→Option Nat}{κ:Name→Nat}
structure aJ where
 dst:Option Nat
 op:AOp
 guard:Option (Nat×Bool)
def bO:AV→List Name
 |.loc n _ _=>[n]
 |.ptr n _ _=>[n]
 |_=>[]
def bC:AV→List Name
 |.agg c=>c.flatMap bO
 |x=>bO x
def bB (h:List (Name×Blk)) (n:Name):List Name:=
 match aB h n with
 |some (.var c _)=>c.flatMap bO
 |_=>[]
def aFl (h:List (Name×Blk)) (xs:List AV) (bor:List Nat):List Name:=
 let t:=bor.flatMap fun i=>bC (xs.getD i .junk)
 t++t.flatMap (bB h)
def nodupB:List Name→Bool
 | []=>true
 |n::r=>!r.contains n&&nodupB r
def jL (d nB n:Nat) (σ:St):Bool:=(List.range n).all fun j=>decide (j<nB)||dE (.t d j) σ
def aA (P:Program) (f:FuncId) (hin:List Blk) (ys:List AV) (L:List Name) (d:Option Nat) (σ:St) (B:List Name) (K:St→Prop) (_:Tag K):Prop:=
 ∃ r hout fz,Fn P f hin ys r hout∧(fz=false→(L=[]∨(flat r=true∧∀b,some b∈hout→aAB b)))∧
  jL (d.getD 0) B.length hout.length σ=true∧K ⟨put d (rn (phi B (d.getD 0) hout.length) r) σ.s,xR σ.h B (d.getD 0) hout fz L⟩
def aCA (P:Program) (d:Option Nat) (σ:St) (K:St→Prop) (fv:AV) (xs:List AV) (B:List Name):Prop:=
 match fv with
 | .fn f caps=>match fB (conv (aB σ.h) 8 B false) (xs++caps),uS (aB σ.h) B B with
  |some (ys,L1),some (hin,L2)=>nodupB B=true∧aA P f hin ys (L1++L2) d σ B K .x
  |_,_=>False
 |_=>False
def bK (P:Program) (d:Option Nat) (σ:St) (K:St→Prop):AOp→Prop
 | .box x=>match d with
  |some d=>al (evO (look σ.s)) (aB σ.h) (.t d 0) (fun v b=>(dE (.t d 0) σ=true∧b.has (.t d 0)=false)∧K ⟨(d,v)::σ.s,(.t d 0,b)::σ.h⟩) (.box x)
  |none=>False
 | .alloc z=>match d with
  |some d=>al (evO (look σ.s)) (aB σ.h) (.t d 0) (fun v b=>(dE (.t d 0) σ=true∧b.has (.t d 0)=false)∧K ⟨(d,v)::σ.s,(.t d 0,b)::σ.h⟩) (.alloc z)
  |none=>False
 | .bslice k m z ps=>match d with
  |some d=>al (evO (look σ.s)) (aB σ.h) (.t d 0) (fun v b=>(dE (.t d 0) σ=true∧b.has (.t d 0)=false)∧K ⟨(d,v)::σ.s,(.t d 0,b)::σ.h⟩) (.bslice k m z ps)
  |none=>False
 | .mk k y z n=>match d with
  |some d=>al (evO (look σ.s)) (aB σ.h) (.t d 0) (fun v b=>(dE (.t d 0) σ=true∧b.has (.t d 0)=false)∧K ⟨(d,v)::σ.s,(.t d 0,b)::σ.h⟩) (.mk k y z n)
  |none=>False
 |.call f args bor=>aCA P d σ K (evO (look σ.s) f) (args.map (evO (look σ.s))) (aFl σ.h (args.map (evO (look σ.s))) bor)
 | .store k A X=>d=none∧match evO (look σ.s) A with
  | .ptr n e c=>match aB σ.h n,jZ (aB σ.h) (evO (look σ.s) X) with
   |some b,some cs=>(b.fz=false∧0<k∧cs.length=k∧c+k≤(b.row e).length∧b.okc cs=true)∧K ⟨σ.s,hset n (b.setRow e (lay (b.row e) c cs)) σ.h⟩
   |_,_=>False
  |_=>False
 | .append k y A X=>match d with
  | some d=>match aBo k (aB σ.h) (evO (look σ.s) A),p8 k (aB σ.h) (evO (look σ.s) X) with
   | some (on,l),some l'=>(dE (.t d 0) (aQ on σ)=true∧(l.length+l'.length)*y≤2 ^ 47∧l.length+l'.length<2 ^ 62)∧
     K ⟨(d,.loc (.t d 0) 0 (l.length+l'.length))::(aQ on σ).s,(.t d 0,.arr k (l++l') false)::(aQ on σ).h⟩
   |_,_=>False
  |none=>False
 | .appendC k y A X=>match d with
  | some d=>match aBo k (aB σ.h) (evO (look σ.s) A),p8 k (aB σ.h) (evO (look σ.s) X) with
   | some (on,l),some l'=>(dE (.t d 0) (aQ on σ)=true∧(l.length+l'.length)*y≤2 ^ 47∧l.length+l'.length<2 ^ 62)∧
     K ⟨(d,.sl k (l++l'))::(aQ on σ).s,(aQ on σ).h⟩
   |_,_=>False
  |none=>False
 | .bsliceC k m z ps=>match d with
  |some d=>al (evO (look σ.s)) (aB σ.h) (.t d 0) (fun v b=>(dE (.t d 0) σ=true∧b.has (.t d 0)=false)∧∃rows,b=.arr k rows false∧v=.loc (.t d 0) 0 rows.length∧K ⟨(d,.sl k rows)::σ.s,σ.h⟩) (.bslice k m z ps)
  |none=>False
 | .clr k z X=>match evO (look σ.s) X with
  | .loc n off len=>match aB σ.h n with
   |some (.arr k' l fz)=>(fz=false∧k'=k∧z.length=k∧(z.all fun x=>rD (aB σ.h) x&&o7 x)=true∧off+len≤l.length)∧K ⟨put d (.v (.tuple #[])) σ.s,hset n (.arr k (aAF l off len z) false) σ.h⟩
   |_=>False
  |_=>False
 |op=>rd (evO (look σ.s)) (aB σ.h) (fun v=>K ⟨put d v σ.s,σ.h⟩) op
/-! ## resolving -/
def avs (z:Array Value):List AV:=z.toList.map fun x=>.v x
def aBk (P:Program) (b:Builtin) (ts:List TypeId) (args:List Operand):Option AOp:=
 match b,ts,args with
 | .len,[t],[x]=>match P.underlying t with
  |some (.slice _)=>some (.len x)
  |some .string=>some (.lenS x)
  |some (.array n _)=>some (.lenC n)
  |_=>none
 | .append,[t,t2],[x,y]=>match P.underlying t,P.underlying t2 with
  | some (.slice e),some (.slice _)=>match P.info? e with
   | some i=>match i.zero with
    |some z=>if z.cells.size=i.size then some (.append i.size i.bytes x y) else none
    |none=>none
   |none=>none
  |_,_=>none
 |.max,[_,_],[x,y]=>some (.mm true x y)
 |.min,[_,_],[x,y]=>some (.mm false x y)
 | .clear,[t],[x]=>match P.underlying t with
  | some (.slice e)=>match P.info? e with
   | some i=>match i.zero with
    |some z=>some (.clr i.size (avs z.cells) x)
    |none=>none
   |none=>none
  |_=>none
 |_,_,_=>none
def bpS (P:Program) (fs:Array Field):List (Nat×Operand)→Option (List (Nat×Nat×Operand))
 | []=>some []
 | (i,x)::r=>match fs[i]? with
  | some f=>match kE P f.type,bpS P fs r with
   |some n,some l=>some ((f.offset,n,x)::l)
   |_,_=>none
  |none=>none
def aIw:Operand→Operand→Bool
 |.tmp l,.tmp c=>l==c
 |.const (.int k l),.const (.int k' c)=>k==k'&&l==c
 |_,_=>false
theorem aIv {x y:Operand} (h:aIw x y=true):x=y:=by
 unfold aIw at h;split at h
 ·simp at h;rw[h]
 ·simp at h;rw[h.1,h.2]
 ·cases h
def comp (P:Program):Op→Option AOp
 |.move x=>some (.mv x)
 |.assign x=>some (.mv x)
 |.pick c x y=>some (.pick c x y)
 |.alloc t=>(zOf P t).map fun z=>.alloc (avs z)
 |.box _ x=>some (.box x)
 | .build t ps=>match P.underlying t,zOf P t with
  |some (.struct fs),some z=>if fs.all (fun f=>(kE P f.type).isSome) then(bpS P fs ps.toList).map fun ps=>.build (avs z) ps else none
  |some (.array _ e),some z=>(kE P e).map fun n=>.build (avs z) (ps.toList.map fun p=>(p.1*n,n,p.2))
  |_,_=>none
 | .buildSlice t m ps=>match P.underlying t with
  | some (.slice e)=>match kE P e,zOf P e with
   |some k,some z=>some (.bslice k m (avs z) ps.toList)
   |_,_=>none
  |_=>none
 |.load t x=>(vG P t).map fun p=>.load p.1 p.2 x
 |.store t A X=>(kE P t).map fun k=>.store k A X
 |.nilCheck x=>some (.nilc x)
 | .binOp op t x y _=>match P.underlying t with
  |some (.int _)=>some (.bin op x y)
  |some .string=>some (.binS op x y)
  |some .bool=>some (.binB op x y)
  | some (.struct _)=>match eqT P 30 t with
   | some ks=>if P.eqGuardType P.depth t=false∧jA P t=some true then match op with
     |.eql=>some (.eqA false ks x y)
     |.neq=>some (.eqA true ks x y)
     |_=>none
    else none
   |none=>none
  |_=>none
 |.unOp op _ x=>some (.un op x)
 | .convert s d x=>match P.underlying s,P.underlying d with
  |some (.int _),some (.int k)=>some (.conv k x)
  | some (.slice e),some .string=>match P.underlying e with
   |some (.int .u8)=>some (.b2s x)
   |_=>none
  |_,_=>none
 |.makeFunc (.func f) first caps=>if first.size=0 then some (.mkfn f caps.toList) else none
 | .makeSlice t L L'=>if aIw L L'=true then match P.underlying t with
   | some (.slice e)=>match P.info? e with
    | some i=>match i.zero with
     |some z=>some (.mk i.size i.bytes (avs z.cells) L)
     |none=>none
    |none=>none
   |_=>none
  else none
 | .slice t x lo hi none=>match P.underlying t with
  |some (.slice e)=>(kE P e).map fun k=>.slc k x lo hi
  |some .string=>some (.sstr x lo hi)
  |_=>none
 | .fieldAddr s x i=>match yJ P s i with
  | some f=>match kE P f.type with
   |some (_+1)=>some (.fieldAddr f.offset x)
   |_=>none
  |none=>none
 | .field s x i=>match yJ P s i with
  |some f=>(vG P f.type).bind fun p=>if kE P f.type=some p.2 then some (.field p.1 f.offset p.2 x) else none
  |none=>none
 | .indexAddr t x i=>match P.underlying t with
  |some (.slice e)=>(kE P e).map fun k=>.idxSl k x i
  |some (.array n e)=>(kE P e).map fun k=>.idxArr n k x i
  |_=>none
 | .index t x i=>match P.underlying t with
  |some .string=>some (.idxStr x i)
  |some (.array n e)=>(vG P e).bind fun p=>if kE P e=some p.2 then some (.idxAgg p.1 n p.2 x i) else none
  |_=>none
 |.extract x i=>some (.extract x i)
 | .call c=>match c.callee with
  |.builtin b=>aBk P b c.argTypes.toList c.args.toList
  | .value (.func f)=>if aI9 P f then match c.args.toList with
    | [x,y]=>some (.idxB x y)
    |_=>none
   else some (.call (.func f) c.args.toList [])
  |.value f=>some (.call f c.args.toList [])
  |.invoke _ _=>none
 |_=>none
def AOp.bare0:AOp→AOp
 |.call f args _=>.call f args []
 |op=>op
def AOp.bare:AOp→AOp
 |.appendC k y a x=>.append k y a x
 |.loadV g k a=>.load g k a
 |.fieldV off x=>.fieldAddr off x
 |.bsliceC k n z ps=>.bslice k n z ps
 |op=>op.bare0
def dF (C:Ctx) (K:St→Prop) (a:Act) (w:World):Prop:=∃σ S ρ κ,K σ∧OK C (St.f σ) a w S ρ κ
theorem dF.put {σ:St} (hok:OK C σ.f a w S ρ κ) {x:AV}{v:Value} (hx:RV S w ρ κ σ.f.h x v) {d:Option Nat} (hd:∀d',d=some d'→d'<C.nt) {K:St→Prop} (hK:K ⟨Vs.put d x σ.s,σ.h⟩):dF C K (a.put d v) w:=by
 refine⟨_,S,ρ,κ,hK,?_⟩;have:=hok.put hx hd;simpa[St.f,kK] using this
theorem uZ {σ:St}{K:St→Prop}{o:Oper}{Q:Exit→Act→World→Prop} (hok:OK C σ.f a w S ρ κ) (hd:∀d',o.dst=some d'→d'<C.nt)
  (h:∃x v,K ⟨put o.dst x σ.s,σ.h⟩∧(execOp a.eval o).run P w=.ok (.value v) w∧RV S w ρ κ σ.f.h x v):o.wp P a w (dF C K) Q:=by
 obtain⟨x,v,hK,hrun,hx⟩:=h;unfold Oper.wp;rw[hrun];exact dF.put hok hx hd hK
theorem aGt {s:Sem Value}{v:Value}{w':World} (h:s.run P w=.ok v w'):(do pure (Next.value (←s)):Sem Next).run P w=.ok (.value v) w':=by
 simp[h]
theorem aAN {σ:St} (hok:OK C σ.f a w S ρ κ) {t:TypeId}{fs:Array Field}{z:Array Value}{ps:Array (Nat×Operand)}{rp:List (Nat×Nat×Operand)}{K:AV→Prop}
  (hu:P.underlying t=some (.struct fs)) (hz:zOf P t=some z) (hall:fs.all (fun f=>(kE P f.type).isSome)=true) (hp:bpS P fs ps.toList=some rp) (hv:rd (evO (look σ.s)) (aB σ.h) K (.build (avs z) rp)) :
  Ans P S w ρ κ σ.f.h K (Instr.build t (ps.map fun(i,x)=>(i,a.eval x))):=by
 obtain⟨zv,hrun,rfl⟩:=zZ hz w
 let places:Array (Nat×Nat):=fs.map fun f=>(f.offset,(kE P f.type).getD 0)
 have hplaces:(fs.mapM fun f=>(do pure (f.offset,←sizeOf f.type):Sem (Nat×Nat))).run P w=.ok places w:=by
  have key:∀(l:List Field) (acc:List (Nat×Nat)),(∀f,f∈l→(kE P f.type).isSome)→(l.mapM fun f=>(do pure (f.offset,←sizeOf f.type):Sem (Nat×Nat))).run P w=.ok (l.map fun f=>(f.offset,(kE P f.type).getD 0)) w:=by
   intro l
   induction l with
   |nil=>intro _ _;simp
   | cons f r ih =>
    intro acc hl;obtain⟨n,hn⟩:=Option.isSome_iff_exists.1 (hl f (by simp));simp only[List.mapM_cons,Sem.run_bind,run_sizeOf hn,Result.andThen_ok,Sem.run_pure,ih acc (fun g hg=>hl g (by simp[hg])),List.map_cons,hn,Option.getD_some]
  have:=key fs.toList [] (fun f hf=>by
    have:=Array.all_eq_true'.1 hall f (by simpa using hf);exact this)
  rw[Array.mapM_eq_mapM_toList];simp only[Sem.run_map,this,Result.andThen_ok];congr 1;apply Array.ext';simp[places]
 simp only[rd] at hv
 have hmap:ps.toList.map (fun p=>((places[p.1]?:Option (Nat×Nat))).map fun q=>(q.1,q.2,p.2))=rp.map some:=by
  revert hp;generalize ps.toList=l;clear hv
  induction l generalizing rp with
  |nil=>intro hp;simp[bpS] at hp;simp[hp]
  | cons p r ih =>
   intro hp;obtain⟨i,x⟩:=p;simp only[bpS] at hp;split at hp
   ·rename_i f hf;split at hp
    ·rename_i n l hn hl;obtain rfl:=Option.some.inj hp;have h1:places[i]? = some (f.offset,n):=by simp[places,hf,hn]
     rw[List.map_cons,List.map_cons,ih hl,h1];rfl
    ·cases hp
   ·cases hp
 obtain⟨cs,vs,hK,hfill,hcs,_⟩:=aBF hok (fun i=>places[i]?) ps.toList rp _ _ hmap (sO zv.cells) hv;refine⟨_,.agg vs,hK,?_,.agg _ _ hcs.1 hcs.2⟩;have e:(ps.map fun(i,x)=>(i,a.eval x)).toList=ps.toList.map fun p=>(p.1,a.eval p.2):=by simp
 simp only[Instr.build,Sem.run_bind,hrun,Result.andThen_ok,run_underlying hu,hplaces,e];rw[hfill];rfl
theorem aBq {σ:St} (hok:OK C σ.f a w S ρ κ) {t e:TypeId}{m n:Nat}{z:Array Value}{ps:Array (Nat×Operand)}{K:AV→Prop}
  (hu:P.underlying t=some (.array m e)) (hz:zOf P t=some z) (hn:kE P e=some n) (hv:rd (evO (look σ.s)) (aB σ.h) K (.build (avs z) (ps.toList.map fun p=>(p.1*n,n,p.2)))) :
  Ans P S w ρ κ σ.f.h K (Instr.build t (ps.map fun(i,x)=>(i,a.eval x))):=by
 obtain⟨zv,hrun,rfl⟩:=zZ hz w;simp only[rd] at hv;obtain⟨cs,vs,hK,hfill,hcs,_⟩:=aBF hok (fun i=>some (i*n,n)) ps.toList _ _ _ (by simp) (sO zv.cells) hv;refine⟨_,.agg vs,hK,?_,.agg _ _ hcs.1 hcs.2⟩;have e':(ps.map fun(i,x)=>(i,a.eval x)).toList=ps.toList.map fun p=>(p.1,a.eval p.2):=by simp
 simp only[Instr.build,Sem.run_bind,hrun,Result.andThen_ok,run_underlying hu,run_sizeOf hn,e'];rw[hfill];rfl
theorem sI:∀{B:List Name},nodupB B=true→B.Nodup
 | [],_=>List.nodup_nil
 | n::r,h=>by
  simp only[nodupB,Bool.and_eq_true,Bool.not_eq_true',List.contains_eq_mem,decide_eq_false_iff_not] at h;exact List.nodup_cons.2 ⟨h.1,sI h.2⟩
theorem aCY {σ:St}{K:St→Prop}{o:Oper}{c:Call}{f:Operand}{bor:List Nat}{Q:Exit→Act→World→Prop} (hok:OK C σ.f a w S ρ κ) (hd:∀d',o.dst=some d'→d'<C.nt)
  (ho:o.op=.call c) (hc:c.callee=.value f)
  (hv:bK P o.dst σ K (.call f c.args.toList bor)):o.wp P a w (dF C K) Q:=by
 simp only[bK,aCA] at hv;split at hv
 ·rename_i g caps hg;have hf:=hok.ev f;simp only[St.f] at hf;rw[hg] at hf;obtain⟨vs,hva,hl,hr⟩:=aD3 hf
  have hbody:aBO P g:=by
   split at hv
   ·obtain⟨_,r,hout,fz,hfn,_⟩:=hv;exact hfn.1
   ·exact hv.elim
  obtain⟨fn,b,h1,h2,h3⟩:=hbody
  have hrun:(execOp a.eval o).run P w=.ok (.enter g (c.args.map a.eval++vs)) w:=by
   simp[execOp,ho,resolve,hc,hva,Deferred.ofValue,invoke,callFunc,h1,h2,h3]
  unfold Oper.wp;rw[hrun];simp only[Oper.upon];split at hv
  ·rename_i ys L1 hin L2 hys hbs;obtain⟨hnd,r,hout,fz,hfn,hflat,hfresh,hK⟩:=hv
   have hfr:∀j,(aFl σ.h (c.args.toList.map (evO (look σ.s))) bor).length≤j→j<hout.length→dE (.t (o.dst.getD 0) j) σ=true:=by
    intro j h1 h2;simp only[jL,List.all_eq_true,List.mem_range] at hfresh;have:=hfresh j h2;simp only[Bool.or_eq_true,decide_eq_true_eq] at this;rcases this with h|h
    ·omega
    ·exact h
   have hcall:=aGa (K:=fun σ' x=>∃σl:St,σl.f=σ'∧K ⟨put o.dst (rn (phi (aFl σ.h (c.args.toList.map (evO (look σ.s))) bor) (o.dst.getD 0) hout.length) r) σ.s,σl.h⟩∧σl.s=σ.s∧x=rn (phi (aFl σ.h (c.args.toList.map (evO (look σ.s))) bor) (o.dst.getD 0) hout.length) r) hok (d:=o.dst.getD 0) (f:=g) (caps:=caps) (xs:=c.args.toList.map (evO (look σ.s))) (sI hnd) (vs:=c.args.map a.eval++vs) (by
       simp only[aJM,St.f,hys,hbs];refine⟨r,hout,fz,hfn,hflat,fun j h1 h2=>eQ (hfr j h1 h2),⟨σ.s,xR σ.h (aFl σ.h (c.args.toList.map (evO (look σ.s))) bor) (o.dst.getD 0) hout fz (L1++L2)⟩,?_,hK,rfl,rfl⟩;simp only[FSt.mk.injEq,true_and];refine aMq (fun m hm=>?_) (fun j h1 h2=>(eQ (hfr j h1 h2)).1.1);obtain⟨_,hbj,_⟩:=vO _ _ hbs;obtain⟨j,hj⟩:=List.mem_iff_getElem?.1 hm;obtain⟨b0,_,_,hb0,_⟩:=hbj j m hj;simp[hb0]) (by simp[hl]) (fun j hj=>by
       simp only[List.length_append,List.length_map,Array.length_toList] at hj;by_cases hj1:j<c.args.size
       · have e1:(c.args.toList.map (evO (look σ.s))++caps).getD j .junk=evO (look σ.s) c.args[j]:=by
           simp[List.getD,List.getElem?_append_left (show j<(c.args.toList.map (evO (look σ.s))).length by simp;omega),hj1]
         have e2:(c.args.map a.eval++vs).getD j undef=a.eval c.args[j]:=by simp[hj1,show j<c.args.size+vs.size by omega]
         rw[e1,e2];exact hok.ev _
       · have e1:(c.args.toList.map (evO (look σ.s))++caps).getD j .junk=caps.getD (j-c.args.size) .junk:=by
           simp[List.getD,List.getElem?_append_right (show(c.args.toList.map (evO (look σ.s))).length≤j by simp;omega)]
         have e2:(c.args.map a.eval++vs).getD j undef=vs.getD (j-c.args.size) undef:=by
           simp[Array.getElem?_append,hj1]
         rw[e1,e2];exact hr _ (by omega))
   refine hcall.mono ?_;rintro e w' ⟨σ',x,v,S',ρ',κ',rfl,⟨σl,hσ,hK',hs,rfl⟩,hok',hx⟩;subst hσ;exact dF.put hok' hx hd (by rw[hs];exact hK')
  ·exact hv.elim
 ·exact hv.elim
end
end Go.Vs
