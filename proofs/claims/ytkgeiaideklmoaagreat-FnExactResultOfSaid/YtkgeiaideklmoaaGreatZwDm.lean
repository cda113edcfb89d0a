/- A step of the program, its totals in memory of their own. -/
import Derived.Test.YtkgeiaideklmoaaGreatZwDk
import Derived.Test.YtkgeiaideklmoaaGreatZwVm
import Derived.Test.YtkgeiaideklmoaaGreatVuU
set_option linter.all false
set_option maxHeartbeats 8000000
namespace Go.Proofs.YtkgeiaideklmoaaGreat
open Go.Vs
variable [Vs.Envs]
attribute [local irreducible] Vs.Fn aX mgC fI mtC eH mY mat rT dkC dkL jK iI fG wO chOK areCh chTo chAt l03 chB rk cd3 chI stp stpTo
structure OfL (w:World) (o:Off) (tv sv:Value) (D:Nat→Prop) (SV:List Sl) (ys:Nat→Option Nat) (cs:Nat→Nat):Prop where
 rd:RC D w (.agg (cO o)) (.agg #[tv,sv])
 rs:RC D w (.sl 1 (E sV SV)) sv
 sl:Vs.pM (fun _=>False) w 2 (o.totals.map (E cT)) (SV.map slW) ys cs
 yD:∀i b,i<SV.length→ys i=some b→D b
 lt:∀b,D b→b<w.heap.size
theorem OfL.past {w w':World}{S S':Nat→Prop}{o:Off}{L J:Value}{D:Nat→Prop}{I:List Sl}{ys:Nat→Option Nat}{cs:Nat→Nat} (h:OfL w o L J D I ys cs) (H:∀b,D b→S b) (G:Vs.Past S w S' w'):OfL w' o L J D I ys cs:=
 ⟨h.rd.mono (fun _ h=>h) fun b F=>G.old b (H b F),h.rs.mono (fun _ h=>h) fun b F=>G.old b (H b F),h.sl.mono (fun _ _ _ _ h=>h) fun i b hi F=>G.old b (H b (h.yD i b (by simpa using hi) F)),h.yD,fun b F=>Nat.lt_of_lt_of_le (h.lt b F) G.size⟩
theorem OfL.sls {w:World}{o:Off}{G H:Value}{D:Nat→Prop}{I:List Sl}{ys:Nat→Option Nat}{cs:Nat→Nat} (h:OfL w o G H D I ys cs):∃t s:Sl,G=slW t∧H=slW s:=by
 have F:=h.rd;cases F with
 | agg _ _ hl F =>
  have J:RC D w (.sl 1 (E cD o.trays)) G:=F 0 (by simp[cO]);have h2:=h.rs;cases J;cases h2;exact⟨(_,_,_),(_,_,_),rfl,rfl⟩
theorem OfL.sn {w:World}{o:Off}{H G:Value}{D:Nat→Prop}{F:List Sl}{ys:Nat→Option Nat}{cs:Nat→Nat} (h:OfL w o H G D F ys cs):o.totals.length=F.length:=by simpa using h.sl.len
theorem OfM.lite {w:World}{o:Off}{H G:Value}{m:OM} (h:OfM w o H G m):OfL w o H G m.D m.SV m.ys m.cs:=
 ⟨h.rd,h.sr.rc.mono (fun b F=>.inr (.inl F)) fun _ _=>rfl,h.sl,fun i b hi F=>.inr (.inr ⟨i,hi,F⟩),h.lt⟩
def aJK (S:Nat→Prop) (w w':World) (o:Off) (tv sv:Value):Prop:=∃D SV ys cs,OfL w' o tv sv D SV ys cs∧(∀b,D b→S b∨w.heap.size≤b)∧∀i b,i<SV.length→ys i=some b→w.heap.size≤b
theorem OfM.aEc {w w':World}{T:List (List (List Int))}{U:List (List Tot)}{tv sv hc ha:Value}{m:OM} (h:OfM w ⟨T,U⟩ tv sv m) (hs:w.heap.size≤w'.heap.size) {Z:Nat→Prop} (hM:∀i b,i<m.TV.length→(m.M i).D b→Z b∧w'.heap[b]? = w.heap[b]?) (hY:∀i b,i<m.SV.length→m.ys i=some b→Z b∧w'.heap[b]? = w.heap[b]?)
  {xt xs:Option Nat}{ct cx I:Nat}{s:Sl}{d:List (List Int)} (hk:I<m.TV.length) (o0:Vs.Own (fun _=>False) w' xt ct 1 (E sV (m.TV.set I s)) hc) (o1:Vs.Own (fun _=>False) w' xs cx 1 (E sV m.SV) ha) (hd:RC Z w' (.sl 1 (E cC d)) (slW s)) (hZ:∀b,Z b→b<w'.heap.size) (he:∀b,xt=some b∨xs=some b→b<w'.heap.size) :
  OfL w' ⟨T.set I d,U⟩ hc ha (fun b=>Z b∨xt=some b∨xs=some b) m.SV m.ys m.cs:=by
 have Y:=h.sl.mono (w':=w') (fun _ _ _ _ h=>h) fun i b hi F=>(hY i b (by simpa using hi) F).2;have hg:T.length=m.TV.length:=h.tn;have hf:U.length=m.SV.length:=h.sn
 have g0:=Vs.vZ (D:=Z) (ss:=(m.TV.set I s).map slW) (xs:=(T.set I d).map fun d=>AV.sl 1 (E cC d)) (by rw[aDv];exact o0.rc) (by simp[hg]) fun j J=>by
  have G:j<m.TV.length:=by simpa using J
  have H:j<T.length:=by omega
  by_cases e:j=I
  ·subst e;have L:((T.set j d).map fun d=>AV.sl 1 (E cC d)).getD j .junk=.sl 1 (E cC d):=by simp[H]
   have O:((m.TV.set j s).map slW).getD j undef=slW s:=by simp[G]
   rw[L,O];exact hd
  ·have L:((T.set I d).map fun d=>AV.sl 1 (E cC d)).getD j .junk=.sl 1 (E cC (T.getD j [])):=by simp[H,List.getElem_set_ne (Ne.symm e)]
   have O:((m.TV.set I s).map slW).getD j undef=slW (m.TV.getD j default):=by simp[G,List.getElem_set_ne (Ne.symm e)]
   rw[L,O,←aGW];exact((h.dk j G).same hs fun b F=>(hM j b G F).2).rd.mono (fun b F=>(hM j b G F).1) fun _ _=>rfl
 rw[aJA] at g0
 have g1:=Vs.vZ (D:=Z) (ss:=m.SV.map slW) (xs:=U.map fun t=>AV.sl 2 (E cT t)) (by rw[aDv];exact o1.rc) (by simp[hf]) fun j J=>by
  have G:j<m.SV.length:=by simpa using J
  have H:j<U.length:=by omega
  have L:(U.map fun t=>AV.sl 2 (E cT t)).getD j .junk=.sl 2 (E cT U[j]):=by simp[H]
  have O:(U.map (E cT)).getD j []=E cT U[j]:=by simp[H]
  rw[L,←O];exact(Y.row j J).rc.mono (fun b F=>(hY j b G F).1) fun _ _=>rfl
 rw[aG1] at g1;refine⟨.agg _ _ rfl fun j J=>?_,o1.rc.mono (fun b F=>.inr (.inr F)) fun _ _=>rfl,Y,fun i b hi F=>.inl (hY i b hi F).1,fun b F=>F.elim (hZ b) (he b)⟩
 match j,J with
 |0,_=>exact g0.mono (fun b F=>F.elim (fun h=>.inr (.inl h)) .inl) fun _ _=>rfl
 |1,_=>exact g1.mono (fun b F=>F.elim (fun h=>.inr (.inr h)) .inl) fun _ _=>rfl
attribute [local go_sem] Int.reduceBEq Int.reduceBNe cC cFd List.replicate_succ List.replicate_zero List.flatten_cons List.flatten_nil List.cons_append List.nil_append List.set_cons_zero List.set_cons_succ List.length_cons List.length_nil List.length_set List.take_succ_cons List.take_zero aI cD cO cP in
set_option maxRecDepth 20000 in
theorem aFX (x:Stp) (q9:x.text.size≤1048576) (T:List (List (List Int))) (U:List (List Tot)) (wd:Nat) (ho:okO wd ⟨T,U⟩) (h0:dsC x ⟨T,U⟩=0) {S:Nat→Prop}{w:World}{vs:Array Value} (hS:∀b,S b→b<w.heap.size) (he:Env S w) (qf:vs.size=2) (qm:∀j,j<2→RC S w (([.agg [.sl 1 (E cD T),.sl 1 (E cTs U)],.agg (cS x)]:List AV).getD j .junk) (vs.getD j undef)):Calls Tryz.prog F.oP vs w (fun e0 w0=>∃tv sv,e0=.returned (.tuple #[.agg #[tv,sv],.int .i64 0])∧Vs.mZ w w0∧aJK S w w0 (stO x ⟨T,U⟩) tv sv):=by
 obtain⟨hv,jg,q3⟩:=aIg h0;have qt:=fZ ho;have hx:=uN ho hv;have ma:tr T x.a∈T:=fK hx.a;have ga:(E cD T).getD x.a.toNat []=[.sl 1 (E cC (tr T x.a))]:=gW hx.a;have a0:=hx.a.1;have a1:x.a<(T.length:Int):=hx.a.2;have t0:=hx.to.1;have t1:x.to<(T.length:Int):=hx.to.2;have q4:(E cD T).length=T.length:=aI _;have js:(E cTs U).length=U.length:=aI _;have qj:aDs T:=qt.1;have qs:aBi U:=qt.2;obtain⟨g1,g2,_⟩:=Cd.i_doStep_k.o;obtain⟨jo,G,hc⟩:=Option.bind_eq_some_iff.1 g2;have hz:(Tryz.f56.body.map (zB Tryz.f56.ntmps (bE Tryz.prog)))=some true:=by kernel_rfl
 rw[G] at hz;have jf:=dB Tryz.mixed;refine Vs.Pt.calls (dr:=bE Tryz.prog) (ac:=Cd.oP) g1 G hc (by simpa using hz) (args:=[.agg [.sl 1 (E cD T),.sl 1 (E cTs U)],.agg (cS x)]) (by rw[Cd.i_doStep_k.n];exact Nat.le_of_ble_eq_true rfl) hS he qf qm fun C1 a H J hw hp=>?_;unfold Cd.oP
 refine hp.goS (τ:=⟨[(2,.ptr (.t 2 0) 0 0),(3,.ptr (.t 3 0) 0 0),(4,.ptr (.t 4 0) 0 0)],[(.t 2 0,.var [.sl 1 (E cD T),.sl 1 (E cTs U)] false),(.t 3 0,.var (cS x) false),(.t 4 0,.var [.v (.slice none 0 0),.v (.slice none 0 0)] false)]⟩) jf H 1 _ (E:=fun _ _=>False) [(.t 3 0,.var (cS x) false),(.t 4 0,.var [.v (.slice none 0 0),.v (.slice none 0 0)] false)] (fun p hp=>by
     simp only[List.mem_cons,List.not_mem_nil,or_false] at hp;rcases hp with rfl|rfl<;>exact⟨rfl,rfl,rfl⟩) [(2,.ro [.sl 1 (E cD T),.sl 1 (E cTs U)]),(3,.ptr (.t 3 0) 0 0),(4,.ptr (.t 4 0) 0 0)] (fun p hp=>?_) (fun C hC=>?_) (fun i σ h=>h) (fun C a w hl hg=>hg.no.elim) fun I1 a1 w1 S1 p1 q7=>?_
 ·simp only[List.mem_cons,List.not_mem_nil,or_false] at hp;rcases hp with rfl|rfl|rfl
  ·exact .inr ⟨rfl,_,rfl,fun n hn=>by
     have:n=.t 2 0:=by simpa using hn
     subst this;rfl⟩
  ·exact .inl ⟨rfl,rfl⟩
  ·exact .inl ⟨rfl,rfl⟩
 ·simp -dsimp only[go_sem,cTs,cS]
  first|(simp[Vs.LeL,Vs.look,Vs.aB];done)
 have OC:Fz F.gG [.agg [.sl 1 (E cD T),.sl 1 (E cTs U)]] (.v (.int .i64 (wO T))):=yE ⟨T,U⟩ qt;have VS:=qZ x (wO T:Int) q9;rw[show(wO T:Int)=wO (⟨T,U⟩:Off).trays from rfl,aKY ho,Bool.true_and,hv] at VS;by_cases h7:x.kind=7
 ·have e7:(x.kind==7)=true:=beq_iff_eq.2 h7;obtain⟨jc,qu⟩:=jg h7;have qg:((U.length:Int)==20)=false:=beq_eq_false_iff_ne.2 (by simp only at jc;omega);have da:=ho.2.2.1 _ ma
  obtain ⟨jk,jj⟩:rT x.s0 x.s1 (tr T x.a)=true∧bP x.f0 x.f1 (tr T x.a)=true:=by
   unfold jK at qu;rw[Bool.and_eq_true] at qu;exact qu
  refine q7.goT dM H 1 _ (τ:=⟨[(2,.ro [.sl 1 (E cD T),.sl 1 (E cTs U)]),(3,.ptr (.t 3 0) 0 0),(4,.ptr (.t 4 0) 0 0)],[(.t 3 0,.var (cS x) false),(.t 4 0,.var [.v (.slice none 0 0),.v (.slice none 0 0)] false)]⟩) (fun C hC=>?_) fun a2 w2 S2 p2 qp=>?_
  ·simp -dsimp only[go_sem,e7,qg,cTs,cS]
   repeat' first|simp -dsimp only[go_sem,e7,qg,cTs,cS]|apply Br.mk<;>intro h<;>try simp -dsimp only[h]|refine aD.c (by first|exact VS|exact OC) ?_|refine aC ?_|fail
   all_goals first|(simp[Vs.LeL,Vs.look,Vs.aB];done)|exact⟨by simp[Vs.LeL,Vs.look,Vs.aB],trivial⟩|omega
  refine At.seq (At.rg (qp.rgN H 1 (τ:=⟨[(29,.agg [.sl 1 (E cD T),.sl 1 (E cTs U)]),(2,.ro [.sl 1 (E cD T),.sl 1 (E cTs U)]),(3,.ptr (.t 3 0) 0 0),(4,.ptr (.t 4 0) 0 0)],[(.t 3 0,.var (cS x) false),(.t 4 0,.var [.v (.slice none 0 0),.v (.slice none 0 0)] false)]⟩) ?_ fun a3 w3 S3 p3 I=>I.rgc H (ts:=[29]) (ys:=[.agg [.sl 1 (E cD T),.sl 1 (E cTs U)]]) (aDP Cd.i_newOffice_k.o) rfl rfl fun us qc hr=>?_))
  ·simp -dsimp only[go_sem,e7,qg,cTs,cS]
   first|(simp[Vs.LeL,Vs.look,Vs.aB];done)
  refine(uS T U qj qs I.dom I.env qc hr).mono ?_;rintro e0 w4 ⟨tv,sv,rfl,hg,m,hom,hon⟩;refine⟨_,rfl,?_⟩;have h4:=(I.grow hg (D:=m.D) (fun b G=>⟨hon b G,hom.lt b G⟩) [(2,.ro [.sl 1 (E cD T),.sl 1 (E cTs U)]),(3,.ptr (.t 3 0) 0 0),(4,.ptr (.t 4 0) 0 0)] (fvC ⟨rfl,.inr rfl⟩ (fvC ⟨rfl,.inl rfl⟩ (fvC ⟨rfl,.inl rfl⟩ fvN)))).put (d:=30) (by rw[H,Cd.i_doStep_k.n];omega) (.agg #[tv,sv]);have hk:C1.w0.heap.size≤w3.heap.size:=I.size;have h3:∀b,m.D b→¬S3 b:=fun b G h=>by have:=hon b G;have:=I.dom b h;omega
  have hm:∀b,S3 b→(S3 b∨m.D b)∧m.xt≠some b∧m.xs≠some b:=fun b G=>⟨.inl G,fun e=>h3 b (.inl (.inl e)) G,fun e=>h3 b (.inr (.inl e)) G⟩
  have h5:=h4.adopt2 (n1:=.t 30 0) (n2:=.t 30 1) (by decide) hom.tr hom.sr (fun b e=>⟨by have:=hon b (.inl (.inl e));omega,.inr (.inl (.inl e)),fun h=>by rw[hw] at h;have g1:=hS b h;have g2:=hon b (.inl (.inl e));have g3:=hk;rw[J] at g3;omega⟩) (fun b e=>⟨by have:=hon b (.inr (.inl e));omega,.inr (.inr (.inl e)),fun h=>by rw[hw] at h;have g1:=hS b h;have g2:=hon b (.inr (.inl e));have g3:=hk;rw[J] at g3;omega⟩) (fun b e e'=>hom.dis b (.inl e) (.inl e')) (t:=30) (h4.valv rfl) [(2,.ro [.sl 1 (E cD T),.sl 1 (E cTs U)]),(3,.ptr (.t 3 0) 0 0),(4,.ptr (.t 4 0) 0 0)] (fun p hp=>by
      simp only[List.mem_cons,List.not_mem_nil,or_false] at hp;rcases hp with rfl|rfl|rfl
      · refine .inr ?_
        have O:=I.val (t:=2) rfl;have e:(a3.put (some 30) (.agg #[tv,sv])).tmps.getD 2 undef=a3.tmps.getD 2 undef:=Vs.aA4 (by decide);rw[e];exact O.mono (fun b G=>hm b G) fun b G=>hg.old b (I.dom b G)
      · exact .inl ⟨rfl,rfl⟩
      · exact .inl ⟨rfl,rfl⟩) rfl rfl
  rw[show(E sV m.TV).length=m.TV.length from aI _,show(E sV m.SV).length=m.SV.length from aI _] at h5;have qh:(E sV m.TV).length=m.TV.length:=aI _;have qi:(E sV m.SV).length=m.SV.length:=aI _
  letI I5:=Vs.keepE (fun b=>(S3 b∨m.D b)∧m.xt≠some b∧m.xs≠some b) w4
  refine h5.rgN H 2 (τ:=⟨[(2,.ro [.sl 1 (E cD T),.sl 1 (E cTs U)]),(3,.ptr (.t 3 0) 0 0),(4,.ptr (.t 4 0) 0 0),(6,.ptr (.t 6 0) 0 0)],[(.t 6 0,.var [.loc (.t 30 0) 0 m.TV.length,.loc (.t 30 1) 0 m.SV.length] false),(.t 30 1,.arr 1 (E sV m.SV) false),(.t 30 0,.arr 1 (E sV m.TV) false),(.t 3 0,.var (cS x) false),(.t 4 0,.var [.v (.slice none 0 0),.v (.slice none 0 0)] false)]⟩) ?_ fun a6 w6 S6 p6 qq=>RgL.nil ?_
  ·simp -dsimp only[go_sem,e7,qg,cTs,cS]
   first|(simp[Vs.LeL,Vs.look,Vs.aB];done)|(and_intros<;>first|omega|(simp[Vs.LeL,Vs.look,Vs.aB];done))
  have jm:Vs.Past S3 w3 S6 w6:=⟨fun b G=>p6.sub b (hm b G),fun b G=>(p6.old b (hm b G)).trans (hg.old b (I.dom b G)),Nat.le_trans hg.size p6.size⟩
  have ha:∀i b,i<m.TV.length→(m.M i).D b→S6 b∧w6.heap[b]? = w4.heap[b]?:=fun i b hi G=>by
   have g:(S3 b∨m.D b)∧m.xt≠some b∧m.xs≠some b:=⟨.inr (.inl (.inr ⟨i,hi,G⟩)),hom.tout i b hi G,fun e=>hom.dis b (.inr ⟨i,hi,G⟩) (.inl e)⟩;exact⟨p6.sub b g,p6.old b g⟩
  have hd:∀i b,i<m.SV.length→m.ys i=some b→S6 b∧w6.heap[b]? = w4.heap[b]?:=fun i b hi G=>by
   have g:(S3 b∨m.D b)∧m.xt≠some b∧m.xs≠some b:=⟨.inr (.inr (.inr ⟨i,hi,G⟩)),fun e=>hom.dis b (.inl e) (.inr ⟨i,hi,G⟩),hom.sout i b hi G⟩;exact⟨p6.sub b g,p6.old b g⟩
  refine At.seq (At.seq (At.rg (qq.rgN H 3 (τ:=⟨[(33,.v (.bool true)),(2,.ro [.sl 1 (E cD T),.sl 1 (E cTs U)]),(3,.ptr (.t 3 0) 0 0),(4,.ptr (.t 4 0) 0 0),(6,.ptr (.t 6 0) 0 0)],[(.t 6 0,.var [.loc (.t 30 0) 0 m.TV.length,.loc (.t 30 1) 0 m.SV.length] false),(.t 30 1,.arr 1 (E sV m.SV) false),(.t 30 0,.arr 1 (E sV m.TV) false),(.t 3 0,.var (cS x) false),(.t 4 0,.var [.v (.slice none 0 0),.v (.slice none 0 0)] false)]⟩) ?_ fun a7 w7 S7 p7 h6=>RgL.nil ?_)))
  ·simp -dsimp only[go_sem,e7,cTs,cS]
   first|(simp[Vs.LeL,Vs.look,Vs.aB];done)
  refine h6.cond rfl (fun _=>?_) fun h=>(by cases h);have qx:∀l:List Tot,E cTt l=E cT l:=fun _=>rfl;have TO:=aHf (tr T x.a) x.f0 x.f1 x.s0 x.s1 (dV da.1 (vC (l7 ho ma) hx.f)) (aDC da.1 (aAC (l7 ho ma) (hx.n h7))) (nN ho.1.2 da).1 jk jj;refine h6.goT dM H 2 _ (τ:=⟨[(4,.ptr (.t 4 0) 0 0),(6,.ptr (.t 6 0) 0 0),(7,.loc (.t 45 0) 0 (iI x.f0 x.f1 x.s0 x.s1 (tr T x.a)).length)],[(.t 45 0,.arr 2 (E cT (iI x.f0 x.f1 x.s0 x.s1 (tr T x.a))) false),(.t 6 0,.var [.loc (.t 30 0) 0 m.TV.length,.loc (.t 30 1) 0 m.SV.length] false),(.t 30 1,.arr 1 (E sV m.SV) false),(.t 30 0,.arr 1 (E sV m.TV) false),(.t 4 0,.var [.v (.slice none 0 0),.v (.slice none 0 0)] false)]⟩) (fun C hC=>?_) fun a8 w8 S8 p8 hf=>?_
  ·simp -dsimp only[go_sem,ga,q4,qx,cTs,cS]
   repeat' first|simp -dsimp only[go_sem,ga,q4,qx,cTs,cS]|apply Br.mk<;>intro h<;>try simp -dsimp only[h]|refine aD.own (by first|exact TO) rfl ?_|refine aC ?_|fail
   all_goals first|(simp[Vs.LeL,Vs.look,Vs.aB];done)|exact⟨by simp[Vs.LeL,Vs.look,Vs.aB],trivial⟩|omega
  have jh:(E cT (iI x.f0 x.f1 x.s0 x.s1 (tr T x.a))).length=(iI x.f0 x.f1 x.s0 x.s1 (tr T x.a)).length:=aI _;rw[←jh] at hf
  obtain ⟨s,x6,c6,⟨sb,sm,sc,rfl⟩,q6,qk,jd⟩:=hf.buryS (n:=.t 45 0) (k:=2) (rows:=E cT (iI x.f0 x.f1 x.s0 x.s1 (tr T x.a))) rfl aBy (t:=7) rfl (by
    simp only[Vs.aW];intro p hp;simp[Vs.fM,Vs.scr,Vs.AV.has] at hp;rcases hp with rfl|rfl|rfl|rfl
    · exact⟨rfl,rfl⟩
    · exact⟨fun r hr=>bQ r hr,rfl⟩
    · exact⟨fun r hr=>bQ r hr,rfl⟩
    · exact⟨rfl,rfl⟩)
  have qr:=(jd [(7,.v (.slice sb sm sc)),(4,.ptr (.t 4 0) 0 0),(6,.ptr (.t 6 0) 0 0)] (fvC (.inr (.inr rfl)) (fvC (.inl ⟨rfl,rfl⟩) (fvC (.inl ⟨rfl,rfl⟩) fvN)))).le (τ:=⟨[(7,.v (.slice sb sm sc)),(4,.ptr (.t 4 0) 0 0),(6,.ptr (.t 6 0) 0 0)],[(.t 6 0,.var [.loc (.t 30 0) 0 m.TV.length,.loc (.t 30 1) 0 m.SV.length] false),(.t 30 1,.arr 1 (E sV m.SV) false),(.t 30 0,.arr 1 (E sV m.TV) false),(.t 4 0,.var [.v (.slice none 0 0),.v (.slice none 0 0)] false)]⟩) (by simp[Vs.LeL,Vs.look,Vs.aB,Vs.aW,Vs.fM,Vs.scr,Vs.AV.has]) (fvC ⟨rfl,rfl⟩ (fvC ⟨bQ,rfl⟩ (fvC ⟨bQ,rfl⟩ (fvC ⟨rfl,rfl⟩ fvN))))
  letI I9:=Vs.keepE (fun b=>S8 b∨x6=some b) w8
  have je:=aFu m.SV (sb,sm,sc);have jp:m.SV.length≤1048576:=by rw[←hom.sn];exact qs.1
  refine qr.goT dM H 2 _ (τ:=⟨[(4,.ptr (.t 4 0) 0 0),(5,.v (.int .i64 0))],[(.t 4 0,.var [.loc (.t 30 0) 0 m.TV.length,.loc (.t 56 0) 0 (m.SV.length+1)] false),(.t 30 0,.arr 1 (E sV m.TV) false),(.t 56 0,.arr 1 (E sV (m.SV++[(sb,sm,sc)])) false)]⟩) (fun C hC=>?_) fun aa wa Sa pa hq=>?_
  ·simp only[Vs.kP]
   repeat' first|simp -dsimp only[go_sem,je,qh,qi,cTs,cS]|apply Br.mk<;>intro h<;>try simp -dsimp only[h]|refine aC ?_|fail
   all_goals first|(simp[Vs.LeL,Vs.look,Vs.aB];done)|exact⟨by simp[Vs.LeL,Vs.look,Vs.aB],trivial⟩|(and_intros<;>first|trivial|(simp[Vs.LeL,Vs.look,Vs.aB];done)|omega)
  obtain ⟨qo,u,ρ,κ,h8,qw,hu,ht,hs⟩:=hq.resX (fn:=Tryz.f56) (x:=.tup [.agg [.loc (.t 30 0) 0 m.TV.length,.loc (.t 56 0) 0 (m.SV.length+1)],.v (.int .i64 0)]) (by
    show Vs.rR Tryz.prog _ _ [_,_]
    simp -dsimp only[go_sem,cTs,cS]
    try simp[Vs.oJ])
  obtain⟨us,rfl,qd,qb⟩:=nZ qw;have qv:us.getD 1 undef=.int .i64 0:=bM (qb 1 (by simp));have qa:=aGh (vs:=us) qd qv;have h9:=qb 0 (by simp);generalize us.getD 0 undef=ou at h9 qa;subst qa;obtain⟨Y,rfl,qf,qe⟩:=gL h9;have O:=qG (vs:=Y) qf;have r0:RV Sa wa ρ κ _ (.loc (.t 30 0) 0 m.TV.length) (Y.getD 0 undef):=qe 0 (by simp);have r1:RV Sa wa ρ κ _ (.loc (.t 56 0) 0 (m.SV.length+1)) (Y.getD 1 undef):=qe 1 (by simp);generalize Y.getD 0 undef=tv2 at r0 O;generalize Y.getD 1 undef=sv2 at r1 O;subst O;have o0:=hu (.t 30 0) 1 (E sV m.TV) tv2 rfl (fun r hr=>bQ r hr) (by rw[aI];simpa using r0);have o1:=hu (.t 56 0) 1 (E sV (m.SV++[(sb,sm,sc)])) sv2 rfl (fun r hr=>bQ r hr) (by rw[aI];simpa using r1);have n0:=fun b=>ht (.t 30 0) b rfl;have n1:=fun b=>ht (.t 56 0) b rfl
  have q2:∀b,ρ (.t 30 0)=some b→ρ (.t 56 0)≠some b:=fun b h1 h2=>by
   have:=hs (.t 30 0) (.t 56 0) b rfl rfl h1 h2;cases this
  have L:Vs.Past S6 w6 Sa wa:=((p7.trans p8).trans ⟨fun _ h=>.inl h,fun _ _=>rfl,Nat.le_refl _⟩).trans pa;have ja:Vs.Past S6 w6 S8 w8:=p7.trans p8;have ql:Vs.Past (fun b=>S8 b∨x6=some b) w8 Sa wa:=pa
  have hO:=hom.snocS (Nat.le_trans p6.size L.size) (fun i b hi G=>(L.old b (ha i b hi G).1).trans (ha i b hi G).2) (fun i b hi G=>(L.old b (hd i b hi G).1).trans (hd i b hi G).2) o0 o1 (q6.mono (fun _ _ h=>h) fun b G=>ql.old b (.inr G))
   (fun b e=>⟨fun i hi G=>(qk b e).2.2 (ja.sub b (ha i b hi G).1),fun i hi G=>(qk b e).2.2 (ja.sub b (hd i b hi G).1)⟩)
   (fun b e=>⟨q2 b e,fun h=>(n0 b e).2.2 (ql.sub b (.inr h)),fun i hi G=>(n0 b e).2.2 (L.sub b (ha i b hi G).1),fun i hi G=>(n0 b e).2.2 (L.sub b (hd i b hi G).1)⟩)
   (fun b e=>⟨fun h=>(n1 b e).2.2 (ql.sub b (.inr h)),fun i hi G=>(n1 b e).2.2 (L.sub b (ha i b hi G).1),fun i hi G=>(n1 b e).2.2 (L.sub b (hd i b hi G).1)⟩)
   (fun b e=>by
     rcases e with e|e|e
     · exact(n0 b e).2.1
     · exact(n1 b e).2.1
     · exact Nat.lt_of_lt_of_le (qk b e).2.1 ql.size)
  rw[←show stO x ⟨T,U⟩=⟨T,U++[(iI x.f0 x.f1 x.s0 x.s1 (tr T x.a))]⟩ from aFp h7] at hO
  have q5:∀b,(OM.D ⟨ρ (.t 30 0),κ (.t 30 0),m.TV,m.M,ρ (.t 56 0),κ (.t 56 0),m.SV++[(sb,sm,sc)],fun j=>if j=(m.SV.map slW).length then x6 else m.ys j,fun j=>if j=(m.SV.map slW).length then c6 else m.cs j⟩) b→w.heap.size≤b:=fun b G=>by
   rcases G with(G|⟨i,hi,G⟩)|(G|⟨j,hj,G⟩)
   ·exact J ▸ (n0 b G).1
   ·exact Nat.le_trans (J ▸ hk) (hon b (.inl (.inr ⟨i,hi,G⟩)))
   ·exact J ▸ (n1 b G).1
   ·have qn:(if j=(m.SV.map slW).length then x6 else m.ys j)=some b:=G;split at qn
    ·exact J ▸ (qk b qn).1
    ·rename_i ji;exact Nat.le_trans (J ▸ hk) (hon b (.inr (.inr ⟨j,by simp at hj ji;omega,qn⟩)))
  refine At.ret ?_;simp only[Exit.inBlock,Exit.then];exact⟨.inl trivial,qo,_,h8,tv2,sv2,rfl,J ▸ hq.out,_,_,_,_,hO.lite,fun b G=>.inr (q5 b G),fun i b hi G=>q5 b (.inr (.inr ⟨i,hi,G⟩))⟩
 ·have e7:(x.kind==7)=false:=beq_eq_false_iff_ne.2 h7;refine q7.goT dM H 1 _ (τ:=⟨[(2,.ro [.sl 1 (E cD T),.sl 1 (E cTs U)]),(3,.ptr (.t 3 0) 0 0),(4,.ptr (.t 4 0) 0 0)],[(.t 3 0,.var (cS x) false),(.t 4 0,.var [.v (.slice none 0 0),.v (.slice none 0 0)] false)]⟩) (fun C hC=>?_) fun a2 w2 S2 p2 qp=>?_
  ·simp -dsimp only[go_sem,e7,cTs,cS]
   repeat' first|simp -dsimp only[go_sem,e7,cTs,cS]|apply Br.mk<;>intro h<;>try simp -dsimp only[h]|refine aD.c (by first|exact VS|exact OC) ?_|refine aC ?_|fail
   all_goals first|(simp[Vs.LeL,Vs.look,Vs.aB];done)|exact⟨by simp[Vs.LeL,Vs.look,Vs.aB],trivial⟩|omega
  refine At.seq (At.rg (qp.rgN H 1 (τ:=⟨[(29,.agg [.sl 1 (E cD T),.sl 1 (E cTs U)]),(2,.ro [.sl 1 (E cD T),.sl 1 (E cTs U)]),(3,.ptr (.t 3 0) 0 0),(4,.ptr (.t 4 0) 0 0)],[(.t 3 0,.var (cS x) false),(.t 4 0,.var [.v (.slice none 0 0),.v (.slice none 0 0)] false)]⟩) ?_ fun a3 w3 S3 p3 I=>I.rgc H (ts:=[29]) (ys:=[.agg [.sl 1 (E cD T),.sl 1 (E cTs U)]]) (aDP Cd.i_newOffice_k.o) rfl rfl fun us qc hr=>?_))
  ·simp -dsimp only[go_sem,e7,cTs,cS]
   first|(simp[Vs.LeL,Vs.look,Vs.aB];done)
  refine(uS T U qj qs I.dom I.env qc hr).mono ?_;rintro e0 w4 ⟨tv,sv,rfl,hg,m,hom,hon⟩;refine⟨_,rfl,?_⟩;have h4:=(I.grow hg (D:=m.D) (fun b G=>⟨hon b G,hom.lt b G⟩) [(2,.ro [.sl 1 (E cD T),.sl 1 (E cTs U)]),(3,.ptr (.t 3 0) 0 0),(4,.ptr (.t 4 0) 0 0)] (fvC ⟨rfl,.inr rfl⟩ (fvC ⟨rfl,.inl rfl⟩ (fvC ⟨rfl,.inl rfl⟩ fvN)))).put (d:=30) (by rw[H,Cd.i_doStep_k.n];omega) (.agg #[tv,sv]);have hk:C1.w0.heap.size≤w3.heap.size:=I.size;have h3:∀b,m.D b→¬S3 b:=fun b G h=>by have:=hon b G;have:=I.dom b h;omega
  have hm:∀b,S3 b→(S3 b∨m.D b)∧m.xt≠some b∧m.xs≠some b:=fun b G=>⟨.inl G,fun e=>h3 b (.inl (.inl e)) G,fun e=>h3 b (.inr (.inl e)) G⟩
  have h5:=h4.adopt2 (n1:=.t 30 0) (n2:=.t 30 1) (by decide) hom.tr hom.sr (fun b e=>⟨by have:=hon b (.inl (.inl e));omega,.inr (.inl (.inl e)),fun h=>by rw[hw] at h;have g1:=hS b h;have g2:=hon b (.inl (.inl e));have g3:=hk;rw[J] at g3;omega⟩) (fun b e=>⟨by have:=hon b (.inr (.inl e));omega,.inr (.inr (.inl e)),fun h=>by rw[hw] at h;have g1:=hS b h;have g2:=hon b (.inr (.inl e));have g3:=hk;rw[J] at g3;omega⟩) (fun b e e'=>hom.dis b (.inl e) (.inl e')) (t:=30) (h4.valv rfl) [(2,.ro [.sl 1 (E cD T),.sl 1 (E cTs U)]),(3,.ptr (.t 3 0) 0 0),(4,.ptr (.t 4 0) 0 0)] (fun p hp=>by
      simp only[List.mem_cons,List.not_mem_nil,or_false] at hp;rcases hp with rfl|rfl|rfl
      · refine .inr ?_
        have O:=I.val (t:=2) rfl;have e:(a3.put (some 30) (.agg #[tv,sv])).tmps.getD 2 undef=a3.tmps.getD 2 undef:=Vs.aA4 (by decide);rw[e];exact O.mono (fun b G=>hm b G) fun b G=>hg.old b (I.dom b G)
      · exact .inl ⟨rfl,rfl⟩
      · exact .inl ⟨rfl,rfl⟩) rfl rfl
  rw[show(E sV m.TV).length=m.TV.length from aI _,show(E sV m.SV).length=m.SV.length from aI _] at h5;have qh:(E sV m.TV).length=m.TV.length:=aI _;have qi:(E sV m.SV).length=m.SV.length:=aI _
  letI I5:=Vs.keepE (fun b=>(S3 b∨m.D b)∧m.xt≠some b∧m.xs≠some b) w4
  refine h5.rgN H 2 (τ:=⟨[(2,.ro [.sl 1 (E cD T),.sl 1 (E cTs U)]),(3,.ptr (.t 3 0) 0 0),(4,.ptr (.t 4 0) 0 0),(6,.ptr (.t 6 0) 0 0)],[(.t 6 0,.var [.loc (.t 30 0) 0 m.TV.length,.loc (.t 30 1) 0 m.SV.length] false),(.t 30 1,.arr 1 (E sV m.SV) false),(.t 30 0,.arr 1 (E sV m.TV) false),(.t 3 0,.var (cS x) false),(.t 4 0,.var [.v (.slice none 0 0),.v (.slice none 0 0)] false)]⟩) ?_ fun a6 w6 S6 p6 qq=>RgL.nil ?_
  ·simp -dsimp only[go_sem,e7,cTs,cS]
   first|(simp[Vs.LeL,Vs.look,Vs.aB];done)|(and_intros<;>first|omega|(simp[Vs.LeL,Vs.look,Vs.aB];done))
  have jm:Vs.Past S3 w3 S6 w6:=⟨fun b G=>p6.sub b (hm b G),fun b G=>(p6.old b (hm b G)).trans (hg.old b (I.dom b G)),Nat.le_trans hg.size p6.size⟩
  have ha:∀i b,i<m.TV.length→(m.M i).D b→S6 b∧w6.heap[b]? = w4.heap[b]?:=fun i b hi G=>by
   have g:(S3 b∨m.D b)∧m.xt≠some b∧m.xs≠some b:=⟨.inr (.inl (.inr ⟨i,hi,G⟩)),hom.tout i b hi G,fun e=>hom.dis b (.inr ⟨i,hi,G⟩) (.inl e)⟩;exact⟨p6.sub b g,p6.old b g⟩
  have hd:∀i b,i<m.SV.length→m.ys i=some b→S6 b∧w6.heap[b]? = w4.heap[b]?:=fun i b hi G=>by
   have g:(S3 b∨m.D b)∧m.xt≠some b∧m.xs≠some b:=⟨.inr (.inr (.inr ⟨i,hi,G⟩)),fun e=>hom.dis b (.inl e) (.inr ⟨i,hi,G⟩),hom.sout i b hi G⟩;exact⟨p6.sub b g,p6.old b g⟩
  refine At.seq (At.seq (At.rg (qq.rgN H 3 (τ:=⟨[(33,.v (.bool false)),(2,.ro [.sl 1 (E cD T),.sl 1 (E cTs U)]),(3,.ptr (.t 3 0) 0 0),(4,.ptr (.t 4 0) 0 0),(6,.ptr (.t 6 0) 0 0)],[(.t 6 0,.var [.loc (.t 30 0) 0 m.TV.length,.loc (.t 30 1) 0 m.SV.length] false),(.t 30 1,.arr 1 (E sV m.SV) false),(.t 30 0,.arr 1 (E sV m.TV) false),(.t 3 0,.var (cS x) false),(.t 4 0,.var [.v (.slice none 0 0),.v (.slice none 0 0)] false)]⟩) ?_ fun a7 w7 S7 p7 h6=>RgL.nil ?_)))
  ·simp -dsimp only[go_sem,e7,cTs,cS]
   first|(simp[Vs.LeL,Vs.look,Vs.aB];done)
  refine h6.cond rfl (fun h=>(by cases h)) fun _=>At.skip ?_;show Vs.At Tryz.prog Tryz.f56.ntmps (bE Tryz.prog) (.seq (.region _ _ _) _) _ _ _
  have jt:T.length=m.TV.length:=hom.tn;have t2:x.to.toNat<m.TV.length:=by omega
  refine At.seq (At.rg (h6.rgN H 2 (τ:=⟨[(60,.agg [.sl 1 (E cD T),.sl 1 (E cTs U)]),(61,.agg (cS x)),(3,.ptr (.t 3 0) 0 0),(4,.ptr (.t 4 0) 0 0),(6,.ptr (.t 6 0) 0 0)],[(.t 6 0,.var [.loc (.t 30 0) 0 m.TV.length,.loc (.t 30 1) 0 m.SV.length] false),(.t 30 1,.arr 1 (E sV m.SV) false),(.t 30 0,.arr 1 (E sV m.TV) false),(.t 3 0,.var (cS x) false),(.t 4 0,.var [.v (.slice none 0 0),.v (.slice none 0 0)] false)]⟩) ?_ fun a8 w8 S8 p8 hf=>hf.rgc H (ts:=[60,61]) (ys:=[.agg [.sl 1 (E cD T),.sl 1 (E cTs U)],.agg (cS x)]) (aDP Cd.i_deckOf_k.o) rfl rfl fun us qc hr=>?_))
  ·simp -dsimp only[go_sem,e7,cTs,cS]
   first|(simp[Vs.LeL,Vs.look,Vs.aB];done)
  have DO:=aA3 x q9 T qj.2 qj.1 hx.a hx.b U;rw[show dkV x (tr T x.a) (tr T x.b)=.sl 1 (E cC (dkL x (tr T x.a) (tr T x.b))) by unfold dkV;rw[if_pos (q3 h7)],q3 h7] at DO;refine(DO.calls1 rfl hf.dom hf.env qc hr).mono ?_;rintro e w9 ⟨u9,S9,rfl,hy,hd9,hn9⟩
  obtain ⟨dv,rfl,qy⟩:∃dv,u9=.tuple #[dv,.int .i64 0]∧RC S9 w9 (.sl 1 (E cC (dkL x (tr T x.a) (tr T x.b)))) dv:=by
   cases hd9 with
   | tup _ vs hl hr =>
    have e1:vs.getD 1 undef=.int .i64 0:=by
     have:=hr 1 (by simp);generalize vs.getD 1 undef=z at this;cases this;rfl
    exact⟨vs.getD 0 undef,congrArg Value.tuple ((qG hl).trans (by rw[e1])),hr 0 (by simp)⟩
  obtain ⟨sb,sm,sc,rfl⟩:∃b n c,dv=.slice b n c:=by
   cases qy;exact⟨_,_,_,rfl⟩
  refine⟨_,rfl,?_⟩
  have qr:=(hf.grow hy (D:=fun b=>S9 b∧w8.heap.size≤b) (fun b G=>⟨G.2,(hn9 b G.1).2⟩) [(3,.ptr (.t 3 0) 0 0),(4,.ptr (.t 4 0) 0 0),(6,.ptr (.t 6 0) 0 0)] (fun p hp=>by
      simp only[List.mem_cons,List.not_mem_nil,or_false] at hp;rcases hp with rfl|rfl|rfl
      all_goals exact⟨rfl,.inl rfl⟩)).putR (d:=62) (by rw[H,Cd.i_doStep_k.n];omega) (r:=.tup [.v (.slice sb sm sc),.v (.int .i64 0)]) (u:=.tuple #[.slice sb sm sc,.int .i64 0]) (.tup _ _ rfl fun j hj=>by
    match j,hj with
    |0,_=>exact .v _
    |1,_=>exact .v _)
  have p9:Vs.Past S8 w8 (fun b=>S8 b∨(S9 b∧w8.heap.size≤b)) w9:=Vs.Past.grow hy hf.dom
  letI I9:=Vs.keepE (fun b=>S8 b∨(S9 b∧w8.heap.size≤b)) w9
  refine qr.rgN H 5 (τ:=⟨[(9,.v (.slice sb sm sc)),(10,.v (.int .i64 0)),(3,.ptr (.t 3 0) 0 0),(4,.ptr (.t 4 0) 0 0),(6,.ptr (.t 6 0) 0 0)],[(.t 6 0,.var [.loc (.t 30 0) 0 m.TV.length,.loc (.t 30 1) 0 m.SV.length] false),(.t 30 1,.arr 1 (E sV m.SV) false),(.t 30 0,.arr 1 (E sV m.TV) false),(.t 3 0,.var (cS x) false),(.t 4 0,.var [.v (.slice none 0 0),.v (.slice none 0 0)] false)]⟩) ?_ fun jr ju jq jl q8=>RgL.nil ?_
  ·simp -dsimp only[go_sem,e7,cTs,cS]
   first|(simp[Vs.LeL,Vs.look,Vs.aB];done)
  have hset:=aLq m.TV x.to.toNat (sb,sm,sc);have q1:(E sV m.TV).getD x.to.toNat []=[.v (slW (m.TV.getD x.to.toNat default))]:=by simp[E,t2,sV,slW]
  have q0:((E sV m.TV).getD x.to.toNat []).length=1:=by rw[q1];rfl
  have hy:((E sV m.TV).getD x.to.toNat []).set 0 (.v (.slice sb sm sc))=[.v (.slice sb sm sc)]:=by rw[q1];rfl
  refine q8.goT dM H 3 _ (τ:=⟨[(4,.ptr (.t 4 0) 0 0),(5,.v (.int .i64 0))],[(.t 4 0,.var [.loc (.t 30 0) 0 m.TV.length,.loc (.t 30 1) 0 m.SV.length] false),(.t 30 0,.arr 1 (E sV (m.TV.set x.to.toNat (sb,sm,sc))) false),(.t 30 1,.arr 1 (E sV m.SV) false)]⟩) (fun C hC=>?_) fun aa wa Sa pa hq=>?_
  ·simp -dsimp only[go_sem,hset,q0,hy,qh,qi,cTs,cS]
   repeat' first|simp -dsimp only[go_sem,hset,q0,hy,qh,qi,cTs,cS]|apply Br.mk<;>intro h<;>try simp -dsimp only[h]|refine aC ?_|fail
   all_goals first|(simp[Vs.LeL,Vs.look,Vs.aB];done)|exact⟨by simp[Vs.LeL,Vs.look,Vs.aB],trivial⟩|(and_intros<;>first|trivial|(simp[Vs.LeL,Vs.look,Vs.aB];done)|omega)
  obtain ⟨qo,u,ρ,κ,h8,qw,hu,ht,hs⟩:=hq.resX (fn:=Tryz.f56) (x:=.tup [.agg [.loc (.t 30 0) 0 m.TV.length,.loc (.t 30 1) 0 m.SV.length],.v (.int .i64 0)]) (by
    show Vs.rR Tryz.prog _ _ [_,_]
    simp -dsimp only[go_sem,cTs,cS]
    try simp[Vs.oJ])
  obtain⟨us,rfl,qd,qb⟩:=nZ qw;have qv:us.getD 1 undef=.int .i64 0:=bM (qb 1 (by simp));have qa:=aGh (vs:=us) qd qv;have h9:=qb 0 (by simp);generalize us.getD 0 undef=ou at h9 qa;subst qa;obtain⟨Y,rfl,qf,qe⟩:=gL h9;have O:=qG (vs:=Y) qf;have r0:RV Sa wa ρ κ _ (.loc (.t 30 0) 0 m.TV.length) (Y.getD 0 undef):=qe 0 (by simp);have r1:RV Sa wa ρ κ _ (.loc (.t 30 1) 0 m.SV.length) (Y.getD 1 undef):=qe 1 (by simp);generalize Y.getD 0 undef=tv2 at r0 O;generalize Y.getD 1 undef=sv2 at r1 O;subst O;have o0:=hu (.t 30 0) 1 (E sV (m.TV.set x.to.toNat (sb,sm,sc))) tv2 rfl (fun r hr=>bQ r hr) (by rw[aI];simpa using r0);have o1:=hu (.t 30 1) 1 (E sV m.SV) sv2 rfl (fun r hr=>bQ r hr) (by rw[aI];simpa using r1);have n0:=fun b=>ht (.t 30 0) b rfl;have n1:=fun b=>ht (.t 30 1) b rfl
  have q2:∀b,ρ (.t 30 0)=some b→ρ (.t 30 1)≠some b:=fun b h1 h2=>by
   have:=hs (.t 30 0) (.t 30 1) b rfl rfl h1 h2;cases this
  have jb:Vs.Past (fun b=>S8 b∨(S9 b∧w8.heap.size≤b)) w9 Sa wa:=jl.trans pa;have L:Vs.Past S6 w6 Sa wa:=((p7.trans p8).trans p9).trans jb;have qz:RC (fun b=>S8 b∨(S9 b∧w8.heap.size≤b)) w9 (.sl 1 (E cC (dkL x (tr T x.a) (tr T x.b)))) (.slice sb sm sc):=qy.mono (fun b G=>(hn9 b G).1.elim .inl fun h=>.inr ⟨G,h⟩) fun _ _=>rfl
  have hO:=hom.aEc (Nat.le_trans p6.size L.size) (Z:=Sa) (fun i b hi G=>⟨L.sub b (ha i b hi G).1,(L.old b (ha i b hi G).1).trans (ha i b hi G).2⟩) (fun i b hi G=>⟨L.sub b (hd i b hi G).1,(L.old b (hd i b hi G).1).trans (hd i b hi G).2⟩) t2 (s:=(sb,sm,sc)) o0 o1 (jb.rcS qz) hq.dom
   (fun b e=>by
     rcases e with e|e
     · exact(n0 b e).2.1
     · exact(n1 b e).2.1)
  rw[←show stO x ⟨T,U⟩=⟨T.set x.to.toNat (dkL x (tr T x.a) (tr T x.b)),U⟩ from aIf h7] at hO;refine At.ret ?_;simp only[Exit.inBlock,Exit.then];have jn:w.heap.size≤w3.heap.size:=J ▸ hk;refine⟨.inl trivial,qo,_,h8,tv2,sv2,rfl,J ▸ hq.out,_,_,_,_,hO,fun b G=>?_,fun i b hi G=>Nat.le_trans jn (hon b (.inr (.inr ⟨i,hi,G⟩)))⟩;rcases G with G|G|G
  ·have:=hq.base b G;rw[hw,J] at this;exact this
  ·exact .inr (J ▸ (n0 b G).1)
  ·exact .inr (J ▸ (n1 b G).1)
end Go.Proofs.YtkgeiaideklmoaaGreat
