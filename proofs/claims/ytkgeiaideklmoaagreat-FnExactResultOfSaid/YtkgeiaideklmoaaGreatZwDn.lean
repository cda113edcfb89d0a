/- A run of the program answers an office in memory of its own. -/
import Derived.Test.YtkgeiaideklmoaaGreatZwDk
import Derived.Test.YtkgeiaideklmoaaGreatZwVu
import Derived.Test.YtkgeiaideklmoaaGreatZwDm
set_option linter.all false
set_option maxHeartbeats 8000000
namespace Go.Proofs.YtkgeiaideklmoaaGreat
open Go.Vs
section
variable [Vs.Envs]
attribute [local irreducible] Vs.Fn aX mgC fI mtC eH mY mat rT dkC dkL jK iI fG wO dsC stO chOK areCh chTo chAt l03 chB rk cd3 chI stp stpTo
theorem aGC {S:Nat→Prop}{w:World}{x y u:Value} (h:RC S w (.agg [.v x,.v y]) u):u=.agg #[x,y]:=by
 cases h with
 | agg _ vs hl hr =>
  have F:=hr 0 (by simp);have G:=hr 1 (by simp)
  have H:vs.getD 0 undef=x:=by
   generalize vs.getD 0 undef=z at F;cases F;rfl
  have I:vs.getD 1 undef=y:=by
   generalize vs.getD 1 undef=z at G;cases G;rfl
  rw[qG hl,H,I]
theorem aK5 {S:Nat→Prop}{w:World} (x y:Value):RC S w (.agg [.v x,.v y]) (.agg #[x,y]):=.agg _ _ rfl fun j F=>by
 match j,F with
 |0,_=>exact .v _
 |1,_=>exact .v _
theorem aIL {S:Nat→Prop}{w:World} (x y c:Value):RC S w (.tup [.agg [.v x,.v y],.v c]) (.tuple #[.agg #[x,y],c]):=.tup _ _ rfl fun j F=>by
 match j,F with
 |0,_=>exact aK5 x y
 |1,_=>exact .v _
theorem aIH {S:Nat→Prop}{w:World}{x y c u:Value} (h:RC S w (.tup [.agg [.v x,.v y],.v c]) u):u=.tuple #[.agg #[x,y],c]:=by
 cases h with
 | tup _ vs hl hr =>
  have H:=aGC (hr 0 (by simp));have F:=hr 1 (by simp)
  have G:vs.getD 1 undef=c:=by
   generalize vs.getD 1 undef=z at F;cases F;rfl
  rw[qG hl,H,G]
theorem OfM.sls {w:World}{o:Off}{G F:Value}{m:OM} (h:OfM w o G F m):∃t s:Sl,G=slW t∧F=slW s:=by
 have H:=h.rdT;have h2:=h.rdS;cases H;cases h2;exact⟨(_,_,_),(_,_,_),rfl,rfl⟩
theorem aEe {S:Nat→Prop}{w:World}{ρ:Vs.Name→Option Nat}{κ:Vs.Name→Nat}{g:Vs.Name→Option Vs.Blk}{x y c u:Value} (h:RV S w ρ κ g (.tup [.agg [.v x,.v y],.v c]) u):u=.tuple #[.agg #[x,y],c]:=by
 obtain⟨us,rfl,H,F⟩:=nZ h;have M:us.getD 1 undef=c:=bM (F 1 (by simp));obtain⟨vs,e,I,G⟩:=gL (F 0 (by simp));have J:vs.getD 0 undef=x:=bM (G 0 (by simp));have L:vs.getD 1 undef=y:=bM (G 1 (by simp));rw[qG H,e,M,qG I,J,L]
end
section
variable [Vs.Envs]
attribute [local irreducible] Vs.Fn aX mgC fI mtC eH mY mat rT dkC dkL jK iI fG wO dsC stO chOK areCh chTo chAt l03 chB rk cd3 chI stp stpTo
attribute [local go_sem] Int.reduceBEq Int.reduceBNe cC cFd List.replicate_succ List.replicate_zero List.flatten_cons List.flatten_nil List.cons_append List.nil_append List.set_cons_zero List.set_cons_succ List.length_cons List.length_nil List.length_set List.take_succ_cons List.take_zero aI cD cO cP slW in
set_option maxRecDepth 20000 in
theorem aEj (T:List (List (List Int))) (U:List (List Tot)) (wd:Nat) (ho:okO wd ⟨T,U⟩) (G:List Stp) (q3:∀x,x∈G→x.text.size≤1048576) (qt:G.length≤1048576) {S:Nat→Prop}{w:World}{vs:Array Value} (hS:∀b,S b→b<w.heap.size) (he:Env S w) (qz:vs.size=2) (ha:∀j,j<2→RC S w (([.agg [.sl 1 (E cD T),.sl 1 (E cTs U)],.sl 9 (E cS G)]:List AV).getD j .junk) (vs.getD j undef)):Calls Tryz.prog F.kJ vs w (fun e0 w0=>∃L J,e0=.returned (.tuple #[.agg #[L,J],.int .i64 ((run ⟨T,U⟩ G).2:Nat)])∧Vs.mZ w w0∧aJK S w w0 (run ⟨T,U⟩ G).1 L J):=by
 have qk:=fZ ho;have qw:aDs T:=qk.1;have qx:aBi U:=qk.2;have h6:(E cS G).length=G.length:=aI _;have qv:=aAy ⟨T,U⟩ G;obtain⟨h1,h2,_⟩:=Cd.i_runFlow_k.o;obtain⟨q4,I,hc⟩:=Option.bind_eq_some_iff.1 h2;have hz:(Tryz.f64.body.map (zB Tryz.f64.ntmps (bE Tryz.prog)))=some true:=by kernel_rfl
 rw[I] at hz;have qr:=dB Tryz.mixed;refine Vs.Pt.calls (dr:=bE Tryz.prog) (ac:=Cd.kJ) h1 I hc (by simpa using hz) (args:=[.agg [.sl 1 (E cD T),.sl 1 (E cTs U)],.sl 9 (E cS G)]) (by rw[Cd.i_runFlow_k.n];exact Nat.le_of_ble_eq_true rfl) hS he qz ha fun C1 a H hw qj hp=>?_;unfold Cd.kJ
 refine hp.goS (τ:=⟨[(1,.sl 9 (E cS G)),(2,.ptr (.t 2 0) 0 0),(4,.ptr (.t 4 0) 0 0)],[(.t 2 0,.var [.sl 1 (E cD T),.sl 1 (E cTs U)] false),(.t 4 0,.var [.v (.slice none 0 0),.v (.slice none 0 0)] false)]⟩) qr H 1 _ (E:=fun _ _=>False) [(.t 4 0,.var [.v (.slice none 0 0),.v (.slice none 0 0)] false)] (fun p hp=>by
     rw[List.mem_singleton.1 hp];exact⟨rfl,rfl,rfl⟩) [(1,.sl 9 (E cS G)),(2,.ro [.sl 1 (E cD T),.sl 1 (E cTs U)]),(4,.ptr (.t 4 0) 0 0)] (fun p hp=>?_) (fun C hC=>?_) (fun i σ h=>h) (fun C a w hl hg=>hg.no.elim) fun I1 a1 w1 S1 p1 h7=>?_
 ·simp only[List.mem_cons,List.not_mem_nil,or_false] at hp;rcases hp with rfl|rfl|rfl
  ·exact .inr ⟨rfl,_,rfl,fun n hn=>by cases hn⟩
  ·exact .inr ⟨rfl,_,rfl,fun n hn=>by
     have:n=.t 2 0:=by simpa using hn
     subst this;rfl⟩
  ·exact .inl ⟨rfl,rfl⟩
 ·simp -dsimp only[go_sem,cTs,cS]
  first|(simp[Vs.LeL,Vs.look,Vs.aB];done)
 refine At.seq (At.rg (h7.rgN H 1 (τ:=⟨[(11,.agg [.sl 1 (E cD T),.sl 1 (E cTs U)]),(1,.sl 9 (E cS G)),(4,.ptr (.t 4 0) 0 0)],[(.t 4 0,.var [.v (.slice none 0 0),.v (.slice none 0 0)] false)]⟩) ?_ fun a3 w3 S3 p3 M=>M.rgc H (ts:=[11]) (ys:=[.agg [.sl 1 (E cD T),.sl 1 (E cTs U)]]) (aDP Cd.i_newOffice_k.o) rfl rfl fun us h5 hr=>?_))
 ·simp -dsimp only[go_sem,cTs,cS]
  first|(simp[Vs.LeL,Vs.look,Vs.aB];done)
 refine(uS T U qw qx M.dom M.env h5 hr).mono ?_;rintro e0 w4 ⟨tv0,sv0,rfl,hg,m,hq,hon⟩;obtain⟨L,J,rfl,rfl⟩:=hq.sls;refine⟨_,rfl,?_⟩;have q1:C1.w0.heap.size≤w3.heap.size:=M.size;have O:=(M.grow hg (D:=m.D) (fun b I=>⟨hon b I,hq.lt b I⟩) [(1,.sl 9 (E cS G)),(4,.ptr (.t 4 0) 0 0)] (fvC ⟨rfl,.inr rfl⟩ (fvC ⟨rfl,.inl rfl⟩ fvN))).putR (d:=12) (by rw[H,Cd.i_runFlow_k.n];omega) (r:=.agg [.v (slW L),.v (slW J)]) (aK5 _ _)
 letI I5:=Vs.keepE (fun b=>S3 b∨m.D b) w4
 refine O.rgN H 2 (τ:=⟨[(1,.sl 9 (E cS G)),(4,.ptr (.t 4 0) 0 0),(6,.ptr (.t 6 0) 0 0)],[(.t 4 0,.var [.v (.slice none 0 0),.v (.slice none 0 0)] false),(.t 6 0,.var [.v (slW L),.v (slW J)] false)]⟩) ?_ fun a5 w5 S5 p5 hs=>RgL.nil ?_
 ·simp -dsimp only[go_sem,cTs,cS]
  first|(simp[Vs.LeL,Vs.look,Vs.aB];done)
 have Y:=hq.lite.past (S:=fun b=>S3 b∨m.D b) (fun b I=>.inr I) p5;have hk:∀b,m.D b→S5 b∧C1.w0.heap.size≤b:=fun b I=>⟨p5.sub b (.inr I),by have:=hon b I;omega⟩;refine At.seq (?_);refine hs.goT dM H 1 _ (τ:=⟨[(1,.sl 9 (E cS G)),(4,.ptr (.t 4 0) 0 0),(6,.ptr (.t 6 0) 0 0),(13,.sl 9 (E cS G)),(14,.v (.int .i64 (G.length:Nat))),(15,.v (.int .i64 (0:Nat)))],[(.t 4 0,.var [.v (.slice none 0 0),.v (.slice none 0 0)] false),(.t 6 0,.var [.v (slW L),.v (slW J)] false)]⟩) (fun C hC=>?_) fun a6 w6 S6 p6 hv=>?_
 ·simp -dsimp only[go_sem,h6,cTs,cS]
  repeat' first|simp -dsimp only[go_sem,h6,cTs,cS]|apply Br.mk<;>intro h<;>try simp -dsimp only[h]|refine aC ?_|fail
  all_goals first|(simp[Vs.LeL,Vs.look,Vs.aB];done)|exact⟨by simp[Vs.LeL,Vs.look,Vs.aB],trivial⟩|omega|(and_intros<;>first|trivial|(simp[Vs.LeL,Vs.look,Vs.aB];done)|omega)
 let IV:Nat→Act→World→Prop:=fun nn a' w'=>∃(i:Nat) (o':Off) (L J:Sl) (D:Nat→Prop) (SV:List Sl) (ys:Nat→Option Nat) (cs:Nat→Nat) (S':Nat→Prop) (I':Vs.Envs),nn=G.length-i∧i≤G.length∧okO wd o'∧aBI ⟨T,U⟩ G i o'∧Vs.Pt I' C1 (⟨[(1,.sl 9 (E cS G)),(4,.ptr (.t 4 0) 0 0),(6,.ptr (.t 6 0) 0 0),(13,.sl 9 (E cS G)),(14,.v (.int .i64 (G.length:Nat))),(15,.v (.int .i64 (i:Nat)))],[(.t 4 0,.var [.v (.slice none 0 0),.v (.slice none 0 0)] false),(.t 6 0,.var [.v (slW L),.v (slW J)] false)]⟩:St) a' w' S'∧OfL w' o' (slW L) (slW J) D SV ys cs∧(∀b,D b→S' b)∧∀i b,i<SV.length→ys i=some b→C1.w0.heap.size≤b
 refine At.block (At.loop IV (fun nn a1 w1 hI=>?_) (n:=G.length) ⟨0,⟨T,U⟩,L,J,m.D,m.SV,m.ys,m.cs,S6,_,by omega,by omega,ho,qv,hv,Y.past (fun b I=>(hk b I).1) p6,fun b I=>p6.sub b (hk b I).1,fun i b hi I=>(hk b (.inr (.inr ⟨i,hi,I⟩))).2⟩);clear hv p6 hk Y hs p5 I5 O hon hq hg hr h5 M p3 h7 p1 q1;clear m L J;obtain⟨i,o',L,J,D,SV,ys,cs,S1,I1,hn,hi,qd,h4,h7,hq,hk,qm⟩:=hI;refine h7.goT dM H 1 _ (τ:=⟨[(16,.v (.bool (decide ((i:Nat)<(G.length:Nat))))),(1,.sl 9 (E cS G)),(4,.ptr (.t 4 0) 0 0),(6,.ptr (.t 6 0) 0 0),(13,.sl 9 (E cS G)),(14,.v (.int .i64 (G.length:Nat))),(15,.v (.int .i64 (i:Nat)))],[(.t 4 0,.var [.v (.slice none 0 0),.v (.slice none 0 0)] false),(.t 6 0,.var [.v (slW L),.v (slW J)] false)]⟩) (fun C hC=>?_) fun a2 w2 S2 p2 qe=>?_
 ·simp -dsimp only[go_sem,cTs,cS]
  repeat' first|simp -dsimp only[go_sem,cTs,cS]|apply Br.mk<;>intro h<;>try simp -dsimp only[h]|refine aC ?_|fail
  all_goals first|(simp[Vs.LeL,Vs.look,Vs.aB];done)|exact⟨by simp[Vs.LeL,Vs.look,Vs.aB],trivial⟩|omega|(and_intros<;>first|trivial|(simp[Vs.LeL,Vs.look,Vs.aB];done)|omega)
 have h9:=hq.past hk p2;have hm:∀b,D b→S2 b:=fun b I=>p2.sub b (hk b I);refine At.seq (qe.cond (b:=decide ((i:Nat)<(G.length:Nat))) rfl (fun ht=>At.skip ?_) (fun hf=>At.exit ?_))
 ·have h0:i<G.length:=of_decide_eq_true ht;have q0:=aH h0 qt;have gx:(E cS G).getD i []=cS G[i]:=aS h0;have qn:=q3 _ (List.getElem_mem h0);refine At.seq (At.block ?_);refine qe.goT dM H 1 _ (τ:=⟨[(8,.ptr (.t 8 0) 0 0),(1,.sl 9 (E cS G)),(4,.ptr (.t 4 0) 0 0),(6,.ptr (.t 6 0) 0 0),(7,.v (.int .i64 (i:Nat))),(13,.sl 9 (E cS G)),(14,.v (.int .i64 (G.length:Nat))),(15,.v (.int .i64 (i:Nat)))],[(.t 8 0,.var (cS G[i]) false),(.t 4 0,.var [.v (.slice none 0 0),.v (.slice none 0 0)] false),(.t 6 0,.var [.v (slW L),.v (slW J)] false)]⟩) (fun C hC=>?_) fun a3 w3 S3 p3 M=>?_
  ·simp -dsimp only[go_sem,h6,gx,cTs,cS]
   repeat' first|simp -dsimp only[go_sem,h6,gx,cTs,cS]|apply Br.mk<;>intro h<;>try simp -dsimp only[h]|refine aC ?_|fail
   all_goals first|(simp[Vs.LeL,Vs.look,Vs.aB];done)|exact⟨by simp[Vs.LeL,Vs.look,Vs.aB],trivial⟩|omega|(and_intros<;>first|trivial|(simp[Vs.LeL,Vs.look,Vs.aB];done)|omega)
  refine At.seq (At.rg (M.rgN H 2 (τ:=⟨[(21,.agg [.v (slW L),.v (slW J)]),(22,.agg (cS G[i])),(1,.sl 9 (E cS G)),(4,.ptr (.t 4 0) 0 0),(6,.ptr (.t 6 0) 0 0),(7,.v (.int .i64 (i:Nat))),(13,.sl 9 (E cS G)),(14,.v (.int .i64 (G.length:Nat))),(15,.v (.int .i64 (i:Nat)))],[(.t 4 0,.var [.v (.slice none 0 0),.v (.slice none 0 0)] false),(.t 6 0,.var [.v (slW L),.v (slW J)] false)]⟩) ?_ fun a4 w4 S4 p4 O=>O.rgc H (ts:=[21,22]) (ys:=[.agg [.v (slW L),.v (slW J)],.agg (cS G[i])]) (aDP Cd.i_doStep_k.o) rfl rfl fun us h5 hr=>?_))
  ·simp -dsimp only[go_sem,cTs,cS]
   first|(simp[Vs.LeL,Vs.look,Vs.aB];done)
  have qo:=p3.trans p4;have qa:=h9.past hm qo;have qc:∀b,D b→S4 b:=fun b I=>qo.sub b (hm b I);have qy:us.getD 0 undef=.agg #[slW L,slW J]:=aGC (hr 0 (by simp))
  have ha:∀j,j<2→RC S4 w4 (([.agg [.sl 1 (E cD o'.trays),.sl 1 (E cTs o'.totals)],.agg (cS G[i])]:List AV).getD j .junk) (us.getD j undef):=fun j hj=>by
   match j,hj with
   |0,_=>rw[qy];exact qa.rd.mono qc fun _ _=>rfl
   |1,_=>exact hr 1 (by simp)
  by_cases hd:dsC G[i] o'=0
  ·refine(aFX G[i] qn o'.trays o'.totals wd qd hd O.dom O.env h5 ha).mono ?_;rintro e0 w5 ⟨tv0,sv0,rfl,hg5,D5,SV5,ys5,cs5,Y,hon5,hyN5⟩;obtain⟨hy,hx,rfl,rfl⟩:=Y.sls;refine⟨_,rfl,?_⟩
   have hs:=(O.grow hg5 (D:=fun b=>D5 b∧w4.heap.size≤b) (fun b I=>⟨I.2,Y.lt b I.1⟩) [(1,.sl 9 (E cS G)),(4,.ptr (.t 4 0) 0 0),(6,.ptr (.t 6 0) 0 0),(7,.v (.int .i64 (i:Nat))),(13,.sl 9 (E cS G)),(14,.v (.int .i64 (G.length:Nat))),(15,.v (.int .i64 (i:Nat)))] (fun p hp=>by
       simp only[List.mem_cons,List.not_mem_nil,or_false] at hp;rcases hp with rfl|rfl|rfl|rfl|rfl|rfl|rfl
       all_goals first|exact⟨rfl,.inl rfl⟩|exact⟨rfl,.inr rfl⟩)).putR (d:=23) (by rw[H,Cd.i_runFlow_k.n];omega) (r:=.tup [.agg [.v (slW hy),.v (slW hx)],.v (.int .i64 0)]) (aIL _ _ _)
   have q2:C1.w0.heap.size≤w4.heap.size:=O.size;have qi:∀b,D5 b→S4 b∨(D5 b∧w4.heap.size≤b):=fun b I=>(hon5 b I).elim .inl fun h=>.inr ⟨I,h⟩
   letI I5:=Vs.keepE (fun b=>S4 b∨(D5 b∧w4.heap.size≤b)) w5
   refine hs.rgN H 6 (τ:=⟨[(9,.ptr (.t 9 0) 0 0),(10,.v (.int .i64 0)),(1,.sl 9 (E cS G)),(4,.ptr (.t 4 0) 0 0),(6,.ptr (.t 6 0) 0 0),(7,.v (.int .i64 (i:Nat))),(13,.sl 9 (E cS G)),(14,.v (.int .i64 (G.length:Nat))),(15,.v (.int .i64 (i:Nat)))],[(.t 9 0,.var [.v (slW hy),.v (slW hx)] false),(.t 4 0,.var [.v (.slice none 0 0),.v (.slice none 0 0)] false),(.t 6 0,.var [.v (slW L),.v (slW J)] false)]⟩) ?_ fun a6 w6 S6 p6 hv=>RgL.nil ?_
   ·simp -dsimp only[go_sem,cTs,cS]
    first|(simp[Vs.LeL,Vs.look,Vs.aB];done)
   refine hv.goT dM H 1 _ (τ:=⟨[(9,.ptr (.t 9 0) 0 0),(1,.sl 9 (E cS G)),(4,.ptr (.t 4 0) 0 0),(6,.ptr (.t 6 0) 0 0),(7,.v (.int .i64 (i:Nat))),(13,.sl 9 (E cS G)),(14,.v (.int .i64 (G.length:Nat))),(15,.v (.int .i64 (i:Nat)))],[(.t 9 0,.var [.v (slW hy),.v (slW hx)] false),(.t 4 0,.var [.v (.slice none 0 0),.v (.slice none 0 0)] false),(.t 6 0,.var [.v (slW L),.v (slW J)] false)]⟩) (fun C hC=>?_) fun a7 w7 S7 p7 h8=>?_
   ·simp -dsimp only[go_sem,cTs,cS]
    repeat' first|simp -dsimp only[go_sem,cTs,cS]|apply Br.mk<;>intro h<;>try simp -dsimp only[h]|refine aC ?_|fail
    all_goals first|(simp[Vs.LeL,Vs.look,Vs.aB];done)|exact⟨by simp[Vs.LeL,Vs.look,Vs.aB],trivial⟩|omega|(and_intros<;>first|trivial|(simp[Vs.LeL,Vs.look,Vs.aB];done)|omega)
   refine At.rg (h8.rgN H 2 (τ:=⟨[(1,.sl 9 (E cS G)),(4,.ptr (.t 4 0) 0 0),(6,.ptr (.t 6 0) 0 0),(13,.sl 9 (E cS G)),(14,.v (.int .i64 (G.length:Nat))),(15,.v (.int .i64 (i:Nat)))],[(.t 4 0,.var [.v (.slice none 0 0),.v (.slice none 0 0)] false),(.t 6 0,.var [.v (slW hy),.v (slW hx)] false)]⟩) ?_ fun a8 w8 S8 p8 h3=>RgL.nil ?_)
   ·simp -dsimp only[go_sem,cTs,cS]
    first|(simp[Vs.LeL,Vs.look,Vs.aB];done)
   show Vs.At Tryz.prog Tryz.f64.ntmps (bE Tryz.prog) (.region [⟨some 31,.bin .add (.tmp 15) (.const (.int .i64 (1))),none⟩,⟨some 15,.mv (.tmp 31),none⟩] _ []) _ a8 w8
   refine At.rg (h3.rgN H 2 (τ:=⟨[(1,.sl 9 (E cS G)),(4,.ptr (.t 4 0) 0 0),(6,.ptr (.t 6 0) 0 0),(13,.sl 9 (E cS G)),(14,.v (.int .i64 (G.length:Nat))),(15,.v (.int .i64 (i+1:Nat)))],[(.t 4 0,.var [.v (.slice none 0 0),.v (.slice none 0 0)] false),(.t 6 0,.var [.v (slW hy),.v (slW hx)] false)]⟩) ?_ fun a9 w9 S9 p9 qu=>RgL.nil ?_)
   ·simp -dsimp only[go_sem,q0,cTs,cS]
    first|(simp[Vs.LeL,Vs.look,Vs.aB];done)
   have qq:=((p6.trans p7).trans p8).trans p9;exact⟨G.length-(i+1),by omega,i+1,stO G[i] o',hy,hx,D5,SV5,ys5,cs5,S9,_,rfl,by omega,aE1 qd hd,xH h0 h4 hd,qu,Y.past (S:=fun b=>S4 b∨(D5 b∧w4.heap.size≤b)) qi qq,fun b I=>qq.sub b (qi b I),fun i b hi I=>Nat.le_trans q2 (hyN5 i b hi I)⟩
  ·have DS:=aJr G[i] qn o' wd qd;rw[show dsV G[i] o'=noO by unfold dsV;rw[if_neg hd]] at DS;have e0:(dsC G[i] o' != 0)=true:=by simp[hd]
   have qg:=qB h0 h4 hd;rw[qg];generalize dsC G[i] o'=c at DS e0;refine(DS.calls0 rfl O.dom O.env h5 ha).mono ?_;rintro e w5 ⟨v,S',rfl,hg5,hv5⟩;have ql:=aIH hv5;subst ql;refine⟨_,rfl,?_⟩
   have hs:=(O.grow hg5 (D:=fun _=>False) (fun b I=>I.elim) [(1,.sl 9 (E cS G)),(4,.ptr (.t 4 0) 0 0),(6,.ptr (.t 6 0) 0 0),(7,.v (.int .i64 (i:Nat))),(13,.sl 9 (E cS G)),(14,.v (.int .i64 (G.length:Nat))),(15,.v (.int .i64 (i:Nat)))] (fun p hp=>by
       simp only[List.mem_cons,List.not_mem_nil,or_false] at hp;rcases hp with rfl|rfl|rfl|rfl|rfl|rfl|rfl
       all_goals first|exact⟨rfl,.inl rfl⟩|exact⟨rfl,.inr rfl⟩)).putR (d:=23) (by rw[H,Cd.i_runFlow_k.n];omega) (r:=.tup [.agg [.v (.slice none 0 0),.v (.slice none 0 0)],.v (.int .i64 c)]) (aIL _ _ _)
   have qp:Vs.Past S4 w4 (fun b=>S4 b∨False) w5:=Vs.Past.grow hg5 O.dom
   letI I5:=Vs.keepE (fun b=>S4 b∨False) w5
   refine hs.rgN H 6 (τ:=⟨[(10,.v (.int .i64 c)),(1,.sl 9 (E cS G)),(4,.ptr (.t 4 0) 0 0),(6,.ptr (.t 6 0) 0 0),(7,.v (.int .i64 (i:Nat))),(13,.sl 9 (E cS G)),(14,.v (.int .i64 (G.length:Nat))),(15,.v (.int .i64 (i:Nat)))],[(.t 9 0,.var [.v (.slice none 0 0),.v (.slice none 0 0)] false),(.t 4 0,.var [.v (.slice none 0 0),.v (.slice none 0 0)] false),(.t 6 0,.var [.v (slW L),.v (slW J)] false)]⟩) ?_ fun a6 w6 S6 p6 hv=>RgL.nil ?_
   ·simp -dsimp only[go_sem,cTs,cS]
    first|(simp[Vs.LeL,Vs.look,Vs.aB];done)
   refine At.seq (At.seq (At.rg (hv.rgN H 2 (τ:=⟨[(27,.v (.bool true)),(1,.sl 9 (E cS G)),(4,.ptr (.t 4 0) 0 0),(6,.ptr (.t 6 0) 0 0),(7,.v (.int .i64 (i:Nat))),(13,.sl 9 (E cS G)),(14,.v (.int .i64 (G.length:Nat))),(15,.v (.int .i64 (i:Nat)))],[(.t 4 0,.var [.v (.slice none 0 0),.v (.slice none 0 0)] false),(.t 6 0,.var [.v (slW L),.v (slW J)] false)]⟩) ?_ fun a7 w7 S7 p7 h8=>RgL.nil ?_)))
   ·simp -dsimp only[go_sem,e0,cTs,cS]
    first|(simp[Vs.LeL,Vs.look,Vs.aB];done)
   refine h8.cond rfl (fun _=>?_) fun h=>(by cases h);refine At.seq (At.rg (h8.rgN H 4 (τ:=⟨[(4,.ptr (.t 4 0) 0 0),(5,.v (.int .i64 (i:Nat)))],[(.t 4 0,.var [.v (slW L),.v (slW J)] false)]⟩) ?_ fun a8 w8 S8 p8 h3=>RgL.nil ?_))
   ·simp -dsimp only[go_sem,cTs,cS]
    first|(simp[Vs.LeL,Vs.look,Vs.aB];done)
   obtain ⟨qb,u,ρ,κ,qf,qh,_⟩:=h3.resX (fn:=Tryz.f64) (x:=.tup [.agg [.v (slW L),.v (slW J)],.v (.int .i64 (i:Nat))]) (by
     show Vs.rR Tryz.prog _ _ [_,_]
     simp -dsimp only[go_sem,cTs,cS]
     try simp[Vs.oJ])
   have hu:=aEe qh;subst hu;refine At.ret ?_
   try simp only[Exit.inBlock,Exit.then]
   refine ⟨by first|exact .inl rfl|exact .inl trivial,qb,_,qf,slW L,slW J,rfl,hw ▸ h3.out,_,_,_,_,qa.past qc (((qp.trans p6).trans p7).trans p8),fun b I=>by
     have:=h3.base b ((((qp.trans p6).trans p7).trans p8).sub b (qc b I));rw[qj,hw] at this;exact this,fun i b hi I=>hw ▸ qm i b hi I⟩
 ·have qs:i=G.length:=by have:=of_decide_eq_false hf;omega
  subst qs;simp only[Exit.then,Exit.inBlock,if_true];rw[zO h4];have SZ:=aDt G;refine qe.goT dM H 1 _ (τ:=⟨[(4,.ptr (.t 4 0) 0 0),(5,.v (.int .i64 (G.length:Nat)))],[(.t 4 0,.var [.v (slW L),.v (slW J)] false)]⟩) (fun C hC=>?_) fun a3 w3 S3 p3 M=>?_
  ·simp -dsimp only[go_sem,cTs,cS]
   repeat' first|simp -dsimp only[go_sem,cTs,cS]|apply Br.mk<;>intro h<;>try simp -dsimp only[h]|refine aD.c (by first|exact SZ) ?_|refine aC ?_|fail
   all_goals first|(simp[Vs.LeL,Vs.look,Vs.aB];done)|exact⟨by simp[Vs.LeL,Vs.look,Vs.aB],trivial⟩|omega|(and_intros<;>first|trivial|(simp[Vs.LeL,Vs.look,Vs.aB];done)|omega)
  obtain ⟨qb,u,ρ,κ,qf,qh,_⟩:=M.resX (fn:=Tryz.f64) (x:=.tup [.agg [.v (slW L),.v (slW J)],.v (.int .i64 (G.length:Nat))]) (by
    show Vs.rR Tryz.prog _ _ [_,_]
    simp -dsimp only[go_sem,cTs,cS]
    try simp[Vs.oJ])
  have hu:=aEe qh;subst hu;refine At.ret ?_
  try simp only[Exit.inBlock,Exit.then]
  refine ⟨by first|exact .inl rfl|exact .inl trivial,qb,_,qf,slW L,slW J,rfl,hw ▸ M.out,_,_,_,_,h9.past hm p3,fun b I=>by
    have:=M.base b (p3.sub b (hm b I));rw[qj,hw] at this;exact this,fun i b hi I=>hw ▸ qm i b hi I⟩
end
end Go.Proofs.YtkgeiaideklmoaaGreat
