/- What is held of the marks of a deck. -/
import Derived.Test.YtkgeiaideklmoaaGreatZwDn
import Derived.Test.YtkgeiaideklmoaaGreatZwVx
import Derived.Test.YtkgeiaideklmoaaGreatVuU
import Derived.Test.YtkgeiaideklmoaaGreatZuM
import Derived.Test.YtkgeiaideklmoaaGreatZwMa
import Derived.Test.YtkgeiaideklmoaaGreatZwSh
set_option linter.all false
set_option maxHeartbeats 8000000
namespace Go.Proofs.YtkgeiaideklmoaaGreat
open Go.Vs
section
variable [Vs.Envs]
attribute [local irreducible] Vs.Fn run fG wO dsC stO chOK areCh chTo chAt l03 chB rk cd3 chI stp stpTo
attribute [local go_sem] Int.reduceBEq Int.reduceBNe cO cFd aI List.replicate_succ List.replicate_zero List.flatten_cons List.flatten_nil List.cons_append List.nil_append List.set_cons_zero List.set_cons_succ List.length_cons List.length_nil List.length_set List.mem_singleton List.mem_cons List.not_mem_nil or_false false_or Vs.Name.t.injEq List.getD_cons_zero List.getD_cons_succ Vs.Name.b.injEq List.getElem?_cons_zero List.getElem?_cons_succ cS
theorem aIw {F:List Stp}{l:List (List Int)} (h:rsB F l=true):0<F.length∧(run (O0 l) F).2=F.length∧(run (O0 l) F).1.totals=[rsL F l]:=by
 unfold rsB at h;unfold rsL;rw[Bool.and_eq_true] at h;obtain⟨G,h2⟩:=h;have G:=of_decide_eq_true G;have h2:=of_decide_eq_true h2;refine⟨?_,G,?_⟩
 ·cases F with
  |nil=>unfold run at h2;simp[O0] at h2
  |cons a r=>simp
 ·generalize(run (O0 l) F).1.totals=T at *
  match T,h2 with
  | [a],_=>rfl
def flB (fl:List Stp) (l:List (List Int)):Bool:=fl.all (fun x=>fG x (bD l))&&decide ((fl.length:Int)≤20)
def rsC (fl:List Stp) (l:List (List Int)):Int:=if bB l then(if flB fl l then(if rsB fl l then 0 else 3) else 2) else 1
def rsW (fl:List Stp) (l:List (List Int)):AV:=if rsC fl l=0 then .sl 2 (E cT (rsL fl l)) else .v (.slice none 0 0)
theorem aK2 {F:List Stp}{l:List (List Int)} (h:rsC F l=0):bB l=true∧flB F l=true∧rsB F l=true:=by
 unfold rsC at h;cases h1:bB l
 ·rw[h1] at h;cases h
 ·cases h2:flB F l
  ·rw[h1,h2] at h;cases h
  ·cases h3:rsB F l
   ·rw[h1,h2,h3] at h;cases h
   ·exact⟨rfl,rfl,rfl⟩
theorem aK1 {F:List Stp}{l:List (List Int)} (h:rsC F l=0):rsW F l=.sl 2 (E cT (rsL F l)):=by unfold rsW;rw[if_pos h]
theorem aIv {F:List Stp}{l:List (List Int)} (h:rsC F l≠0):rsW F l=.v (.slice none 0 0):=by unfold rsW;rw[if_neg h]
attribute [local irreducible] rsB rsL
theorem sJ (G:List Stp) (hz:∀x,x∈G→x.text.size≤1048576) (U:G.length≤1048576) (l:List (List Int)) (O:aU l):Fz F.gV [.sl 9 (E cS G),.sl 1 (E cC l)] (.tup [rsW G l,.v (.int .i64 (rsC G l))]):=by
 have J:=lM l O.2 O.1;have L:=gN l;have I:=wK G (bD l) hz U;cases hd:bB l
 ·rw[hd] at J;rw[show rsC G l=1 by simp[rsC,hd],show rsW G l=.v (.slice none 0 0) by simp[rsW,rsC,hd]];refine fn0 Cd.i_ResultOf_k fun X=>?_
  repeat' first|simp -dsimp only[go_sem,cC]|apply Br.mk<;>intro h<;>try simp -dsimp only[h]|refine aD.c (by first|exact J|exact L|exact I) ?_|refine aC ?_|fail
  all_goals first|omega|exact⟨_,_,rfl,rfl⟩|(refine aV ?_;simp;done)
 ·rw[hd] at J;have Y:=aDe hd;cases hf:flB G l
  ·have H:=hf;unfold flB at H;rw[H] at I
   try rw[Y,Bool.true_and] at I
   rw[show rsC G l=2 by simp[rsC,hd,hf],show rsW G l=.v (.slice none 0 0) by simp[rsW,rsC,hd,hf]];refine fn0 Cd.i_ResultOf_k fun X=>?_
   repeat' first|simp -dsimp only[go_sem,cC]|apply Br.mk<;>intro h<;>try simp -dsimp only[h]|refine aD.c (by first|exact J|exact L|exact I) ?_|refine aC ?_|fail
   all_goals first|omega|exact⟨_,_,rfl,rfl⟩|(refine aV ?_;simp;done)
  ·have H:=hf;unfold flB at H;rw[H] at I
   try rw[Y,Bool.true_and] at I
   have M:=aCv G hz U l O hd;cases hb:rsB G l
   ·rw[show rsV G l=.v (.slice none 0 0) by unfold rsV;rw[hb];rfl,hb] at M;rw[show rsC G l=3 by simp[rsC,hd,hf,hb],show rsW G l=.v (.slice none 0 0) by simp[rsW,rsC,hd,hf,hb]];refine fn0 Cd.i_ResultOf_k fun X=>?_
    repeat' first|simp -dsimp only[go_sem,cC]|apply Br.mk<;>intro h<;>try simp -dsimp only[h]|refine aD.c (by first|exact J|exact L|exact I|exact M) ?_|refine aC ?_|fail
    all_goals first|omega|exact⟨_,_,rfl,rfl⟩|(refine aV ?_;simp;done)
   ·rw[show rsV G l=.sl 2 (E cT (rsL G l)) by unfold rsV;rw[if_pos hb],hb] at M;rw[show rsC G l=0 by simp[rsC,hd,hf,hb],show rsW G l=.sl 2 (E cT (rsL G l)) by simp[rsW,rsC,hd,hf,hb]];refine fn0 Cd.i_ResultOf_k fun X=>?_
    repeat' first|simp -dsimp only[go_sem,cC]|apply Br.mk<;>intro h<;>try simp -dsimp only[h]|refine aD.c (by first|exact J|exact L|exact I|exact M) ?_|refine aC ?_|fail
    all_goals first|omega|exact⟨_,_,rfl,rfl⟩|(refine aV ?_;simp;done)
theorem yB (G:List Stp) (hz:∀x,x∈G→x.text.size≤1048576) (U:G.length≤1048576) (l:List (List Int)) (O:aU l):Fz F.qO [.sl 9 (E cS G),.sl 1 (E cC l)] (.tup [rsW G l,.v (.int .i64 (rsC G l))]):=by
 have J:=dD l O.2 O.1;have L:=dK l;have I:=aKr G (bD l) hz U;cases hd:bB l
 ·rw[hd] at J;rw[show rsC G l=1 by simp[rsC,hd],show rsW G l=.v (.slice none 0 0) by simp[rsW,rsC,hd]];refine fn0 Cd.s_ResultOf_k fun X=>?_
  repeat' first|simp -dsimp only[go_sem,cC]|apply Br.mk<;>intro h<;>try simp -dsimp only[h]|refine aD.c (by first|exact J|exact L|exact I) ?_|refine aC ?_|fail
  all_goals first|omega|exact⟨_,_,rfl,rfl⟩|(refine aV ?_;simp;done)
 ·rw[hd] at J;have Y:=aDe hd;cases hf:flB G l
  ·have H:=hf;unfold flB at H;rw[H] at I
   try rw[Y,Bool.true_and] at I
   rw[show rsC G l=2 by simp[rsC,hd,hf],show rsW G l=.v (.slice none 0 0) by simp[rsW,rsC,hd,hf]];refine fn0 Cd.s_ResultOf_k fun X=>?_
   repeat' first|simp -dsimp only[go_sem,cC]|apply Br.mk<;>intro h<;>try simp -dsimp only[h]|refine aD.c (by first|exact J|exact L|exact I) ?_|refine aC ?_|fail
   all_goals first|omega|exact⟨_,_,rfl,rfl⟩|(refine aV ?_;simp;done)
  ·have H:=hf;unfold flB at H;rw[H] at I
   try rw[Y,Bool.true_and] at I
   have M:=aHz G hz U l O hd;cases hb:rsB G l
   ·rw[show rsV G l=.v (.slice none 0 0) by unfold rsV;rw[hb];rfl,hb] at M;rw[show rsC G l=3 by simp[rsC,hd,hf,hb],show rsW G l=.v (.slice none 0 0) by simp[rsW,rsC,hd,hf,hb]];refine fn0 Cd.s_ResultOf_k fun X=>?_
    repeat' first|simp -dsimp only[go_sem,cC]|apply Br.mk<;>intro h<;>try simp -dsimp only[h]|refine aD.c (by first|exact J|exact L|exact I|exact M) ?_|refine aC ?_|fail
    all_goals first|omega|exact⟨_,_,rfl,rfl⟩|(refine aV ?_;simp;done)
   ·rw[show rsV G l=.sl 2 (E cT (rsL G l)) by unfold rsV;rw[if_pos hb],hb] at M;rw[show rsC G l=0 by simp[rsC,hd,hf,hb],show rsW G l=.sl 2 (E cT (rsL G l)) by simp[rsW,rsC,hd,hf,hb]];refine fn0 Cd.s_ResultOf_k fun X=>?_
    repeat' first|simp -dsimp only[go_sem,cC]|apply Br.mk<;>intro h<;>try simp -dsimp only[h]|refine aD.c (by first|exact J|exact L|exact I|exact M) ?_|refine aC ?_|fail
    all_goals first|omega|exact⟨_,_,rfl,rfl⟩|(refine aV ?_;simp;done)
theorem aIy {S:Nat→Prop}{w:World}{x y u:Value}{r:AV} (h:RC S w (.ro [.v x,.v y]) u) (G:RC S w r y):RC S w (.ro [.v x,r]) u:=by
 cases h with
 | ro _ X off xs hS hc ho hr =>
  refine .ro _ X off xs hS hc ho fun j F=>?_
  match j,F with
  |0,_=>exact hr 0 (by simp)
  | 1,_ =>
   have:=aFy (hr 1 (by simp));show RC S w r (xs 1)
   rw[this];exact G
attribute [local go_sem] List.take_succ_cons List.take_zero slW in
set_option maxRecDepth 20000 in
theorem aEp (fl:List Stp) (hzf:∀x,x∈fl→x.text.size≤1048576) (hlf:fl.length≤1048576) (l:List (List Int)) (hk:aU l) (hd:bB l=true) (hB:rsB fl l=true) {S:Nat→Prop}{w:World}{vs:Array Value} (hS:∀b,S b→b<w.heap.size) (he:Env S w) (hvs:vs.size=2) (hargs:∀j,j<2→RC S w (([.sl 9 (E cS fl),.sl 1 (E cC l)]:List AV).getD j .junk) (vs.getD j undef)):Calls Tryz.prog F.jZ vs w (fun e0 w0=>∃(v:Value) (x:Option Nat) (cc:Nat),e0=.returned (.tuple #[v,.bool true])∧Vs.mZ w w0∧Vs.Own (fun _=>False) w0 x cc 2 (E cT (rsL fl l)) v∧∀b,x=some b→w.heap.size≤b∧b<w0.heap.size):=by
 obtain⟨hne,hn,hT⟩:=aIw hB;have NW:=wL l hk hd;have hr0:∀(S:Nat→Prop) (w:World) v,RC S w (.agg [.sl 1 (yC l),.sl 1 []]) v→RC S w (.agg (cO (O0 l))) v:=fun S w v h=>(aGE (ρ:=fun _=>none) (κ:=fun _=>0) (hh:=fun _=>none) (.clo h)).closed rfl;have e1:decide ((fl.length:Int)<(fl.length:Int))=false:=decide_eq_false (by omega);have e3:((1:Int) != 1)=false:=rfl;obtain⟨h1,h2,_⟩:=Cd.i_resultOf_k.o;obtain⟨body,hb,hc⟩:=Option.bind_eq_some_iff.1 h2;have hz:(Tryz.f39.body.map (zB Tryz.f39.ntmps (bE Tryz.prog)))=some true:=by kernel_rfl
 rw[hb] at hz;have hdr:=dB Tryz.mixed;refine Vs.Pt.calls (dr:=bE Tryz.prog) (ac:=Cd.jZ) h1 hb hc (by simpa using hz) (args:=[.sl 9 (E cS fl),.sl 1 (E cC l)]) (by rw[Cd.i_resultOf_k.n];exact Nat.le_of_ble_eq_true rfl) hS he hvs hargs fun C1 a hnt hw0 hS0 hp=>?_;unfold Cd.jZ;generalize hrn:yC l=RN at *
 refine hp.goS (τ:=⟨[(0,.sl 9 (E cS fl)),(6,.ptr (.t 6 0) 0 0)],[(.t 6 0,.var [.sl 1 RN,.sl 1 []] false)]⟩) hdr hnt 2 _ (E:=fun _ _=>False) [] (fun p hp=>by cases hp) [(0,.sl 9 (E cS fl)),(6,.ro [.sl 1 RN,.sl 1 []])] (fun p hp=>?_) (fun C hC=>?_) (fun i σ h=>h) (fun C a w hl hg=>hg.no.elim) fun I1 a1 w1 S1 p1 hp1=>?_
 ·simp only[List.mem_cons,List.not_mem_nil,or_false] at hp;rcases hp with rfl|rfl
  ·exact .inr ⟨rfl,_,rfl,fun n hn=>by cases hn⟩
  ·exact .inr ⟨rfl,_,rfl,fun n hn=>rfl⟩
 ·simp -dsimp only[go_sem,cC]
  repeat' (first
    |(refine Br.mk (fun h=>?_) (fun h=>?_)<;>simp -dsimp only[go_sem,h,cC])
    |((first|refine RgK.mk rfl ?_|refine aD.c (by first|exact NW) ?_|refine aC ?_|fail);try simp -dsimp only[go_sem,cC])
    |fail)
  all_goals first|(simp[Vs.LeL,Vs.look,Vs.aB];done)|exact⟨by simp[Vs.LeL,Vs.look,Vs.aB],trivial⟩|omega|(and_intros<;>first|trivial|(simp[Vs.LeL,Vs.look,Vs.aB];done)|omega)
 refine At.seq (At.rg (hp1.rgN hnt 2 (τ:=⟨[(16,.agg [.sl 1 RN,.sl 1 []]),(17,.sl 9 (E cS fl)),(0,.sl 9 (E cS fl))],[]⟩) ?_ fun a2 w2 S2 p2 hp2=>hp2.rgc hnt (ts:=[16,17]) (ys:=[.agg [.sl 1 RN,.sl 1 []],.sl 9 (E cS fl)]) (aDP Cd.i_runFlow_k.o) rfl rfl fun us hus hr=>?_))
 ·simp -dsimp only[go_sem,cC]
  first|(simp[Vs.LeL,Vs.look,Vs.aB];done)
 have hargs:∀j,j<2→RC S2 w2 (([.agg [.sl 1 (E cD (O0 l).trays),.sl 1 (E cTs (O0 l).totals)],.sl 9 (E cS fl)]:List AV).getD j .junk) (us.getD j undef):=fun j hj=>by
  match j,hj with
  |0,_=>exact hr0 _ _ _ (hr 0 (by simp))
  |1,_=>exact hr 1 (by simp)
 refine(aEj (O0 l).trays (O0 l).totals _ (aDd hd) fl hzf hlf hp2.dom hp2.env hus hargs).mono ?_;rintro e0 w3 ⟨tv0,sv0,rfl,hg,D,SV,ys,cs,hom,hon,hyN⟩;refine⟨_,rfl,?_⟩;have hom':OfL w3 (run (O0 l) fl).1 tv0 sv0 D SV ys cs:=hom;obtain⟨tv,ss,rfl,rfl⟩:=hom'.sls;have hsn:=hom'.sn;rw[hT] at hsn
 obtain ⟨s,hSV⟩:∃s,SV=[s]:=by
  match h:SV,hsn with
  | [s],_=>exact⟨s,rfl⟩
 have hrow:=hom'.sl.row 0 (by rw[List.length_map,hSV];simp);rw[hT,hSV] at hrow;have hrow':Vs.Own (fun _=>False) w3 (ys 0) (cs 0) 2 (E cT (rsL fl l)) (slW s):=hrow;have hsr:=hom'.rs;have hD2:∀b,D b→S2 b∨(D b∧w2.heap.size≤b):=fun b hb=>(hon b hb).elim .inl fun h=>.inr ⟨hb,h⟩;rw[hSV] at hsr;have hsr':RC (fun b=>S2 b∨(D b∧w2.heap.size≤b)) w3 (.sl 1 [[.v (slW s)]]) (slW ss):=hsr.mono hD2 fun _ _=>rfl;have hz2:C1.w0.heap.size≤w2.heap.size:=hp2.size;have hp3:=(hp2.grow hg (D:=fun b=>D b∧w2.heap.size≤b) (fun b hb=>⟨hb.2,hom'.lt b hb.1⟩) [(0,.sl 9 (E cS fl))] (fvC ⟨rfl,.inr rfl⟩ fvN)).putR (d:=18) (by rw[hnt,Cd.i_resultOf_k.n];omega) (r:=.tup [.agg [.v (slW tv),.v (slW ss)],.v (.int .i64 (fl.length:Nat))]) (aIL _ _ _);have hyD:∀b,ys 0=some b→D b∧w2.heap.size≤b:=fun b hb=>⟨hom'.yD 0 b (by rw[hSV];simp) hb,hyN 0 b (by rw[hSV];simp) hb⟩
 letI I5:=Vs.keepE (fun b=>S2 b∨(D b∧w2.heap.size≤b)) w3
 rw[show(run ⟨(O0 l).trays,(O0 l).totals⟩ fl).2=fl.length from hn];refine hp3.rgN hnt 6 (τ:=⟨[(0,.sl 9 (E cS fl)),(8,.ptr (.t 8 0) 0 0),(9,.v (.int .i64 (fl.length:Nat)))],[(.t 8 0,.var [.v (slW tv),.v (slW ss)] false)]⟩) ?_ fun a4 w4 S4 p4 hp4=>RgL.nil ?_
 ·simp -dsimp only[go_sem,cC]
  first|(simp[Vs.LeL,Vs.look,Vs.aB];done)
 refine hp4.goS (τ:=⟨[(0,.sl 9 (E cS fl)),(8,.ptr (.t 8 0) 0 0),(9,.v (.int .i64 (fl.length:Nat)))],[(.t 8 0,.var [.v (slW tv),.v (slW ss)] false)]⟩) dM hnt 0 _ (E:=fun _ _=>False) [] (fun p hp=>by cases hp) [(0,.sl 9 (E cS fl)),(8,.ro [.v (slW tv),.v (slW ss)]),(9,.v (.int .i64 (fl.length:Nat)))] (fun p hp=>?_) (fun C hC=>?_) (fun i σ h=>h) (fun C a w hl hg=>hg.no.elim) fun I6 a6 w6 S6 p6 hp6=>?_
 ·simp only[List.mem_cons,List.not_mem_nil,or_false] at hp;rcases hp with rfl|rfl|rfl
  ·exact .inr ⟨rfl,_,rfl,fun n hn=>by cases hn⟩
  ·exact .inr ⟨rfl,_,rfl,fun n hn=>rfl⟩
  ·exact .inl ⟨rfl,rfl⟩
 ·show Vs.LeL _ _
  simp[Vs.LeL,Vs.look,Vs.aB]
 have hv8:=hp6.val (t:=8) rfl;have hv0:=hp6.val (t:=0) rfl;have p46:=p4.trans p6;have hp7:=hp6.set [(0,.sl 9 (E cS fl)),(8,.ro [.v (slW tv),.sl 1 [[.v (slW s)]]]),(9,.v (.int .i64 (fl.length:Nat)))] (fvC (.inr hv0) (fvC (.inr (aIy hv8 (p46.rcS hsr'))) (fvC (.inl ⟨rfl,rfl⟩) fvN)))
 letI I7:=Vs.keepE S6 w6
 have SZ:=aDt fl;refine hp7.goT dM hnt 2 _ (τ:=⟨[(4,.v (slW s)),(5,.v (.bool true))],[]⟩) (fun C hC=>?_) fun a5 w5 S5 p5 hp5=>?_
 ·simp -dsimp only[go_sem,e1,e3,cC]
  repeat' (first
    |(refine Br.mk (fun h=>?_) (fun h=>?_)<;>simp -dsimp only[go_sem,h,e1,e3,cC])
    |((first|refine RgK.mk rfl ?_|refine aD.c (by first|exact SZ) ?_|refine aC ?_|fail);try simp -dsimp only[go_sem,e1,e3,cC])
    |fail)
  all_goals first|(simp[Vs.LeL,Vs.look,Vs.aB];done)|exact⟨by simp[Vs.LeL,Vs.look,Vs.aB],trivial⟩|omega|(and_intros<;>first|trivial|(simp[Vs.LeL,Vs.look,Vs.aB];done)|omega)
 obtain ⟨hdf,u,ρ,κ,hrn,hxu,_⟩:=hp5.resX (fn:=Tryz.f39) (x:=.tup [.v (slW s),.v (.bool true)]) (by
   show Vs.rR Tryz.prog _ _ [_,_]
   simp -dsimp only[go_sem,cC]
   try simp[Vs.oJ])
 obtain⟨us2,rfl,hus2,hur⟩:=nZ hxu;have g0:us2.getD 0 undef=slW s:=bM (hur 0 (by simp));have g1:us2.getD 1 undef=.bool true:=bM (hur 1 (by simp));rw[qG hus2,g0,g1] at hrn;refine At.ret ?_
 try simp only[Exit.inBlock,Exit.then]
 refine⟨by first|exact .inl rfl|exact .inl trivial,hdf,_,hrn,slW s,ys 0,cs 0,rfl,hw0 ▸ hp5.out,hrow'.mono (fun _ _ h=>h) fun b hb=>(p46.trans p5).old b (.inr (hyD b hb)),fun b hb=>⟨by have:=(hyD b hb).2;have:w.heap.size≤w2.heap.size:=hw0 ▸ hz2;omega,Nat.lt_of_lt_of_le (hom'.lt b (hyD b hb).1) (p46.trans p5).size⟩⟩
attribute [local go_sem] List.take_succ_cons List.take_zero slW in
set_option maxRecDepth 20000 in
theorem aFe (fl:List Stp) (hzf:∀x,x∈fl→x.text.size≤1048576) (hlf:fl.length≤1048576) (l:List (List Int)) (hk:aU l) (h0:rsC fl l=0) {S:Nat→Prop}{w:World}{vs:Array Value} (hS:∀b,S b→b<w.heap.size) (he:Env S w) (hvs:vs.size=2) (hargs:∀j,j<2→RC S w (([.sl 9 (E cS fl),.sl 1 (E cC l)]:List AV).getD j .junk) (vs.getD j undef)):Calls Tryz.prog F.gV vs w (fun e0 w0=>∃(v:Value) (x:Option Nat) (cc:Nat),e0=.returned (.tuple #[v,.int .i64 0])∧Vs.mZ w w0∧Vs.Own (fun _=>False) w0 x cc 2 (E cT (rsL fl l)) v∧∀b,x=some b→w.heap.size≤b∧b<w0.heap.size):=by
 obtain⟨hd,hf,hB⟩:=aK2 h0;have VD:=lM l hk.2 hk.1;have DC:=gN l;have VF:=wK fl (bD l) hzf hlf;have hw:=aDe hd;have hf':=hf;unfold flB at hf';rw[hf',hw,Bool.true_and] at VF;rw[hd] at VD;obtain⟨h1,h2,_⟩:=Cd.i_ResultOf_k.o;obtain⟨body,hb,hc⟩:=Option.bind_eq_some_iff.1 h2;have hz:(Tryz.f11.body.map (zB Tryz.f11.ntmps (bE Tryz.prog)))=some true:=by kernel_rfl
 rw[hb] at hz;have hdr:=dB Tryz.mixed;refine Vs.Pt.calls (dr:=bE Tryz.prog) (ac:=Cd.gV) h1 hb hc (by simpa using hz) (args:=[.sl 9 (E cS fl),.sl 1 (E cC l)]) (by rw[Cd.i_ResultOf_k.n];exact Nat.le_of_ble_eq_true rfl) hS he hvs hargs fun C1 a hnt hw0 hS0 hp=>?_;unfold Cd.gV;refine hp.goT dM hnt 2 _ (τ:=⟨[(0,.sl 9 (E cS fl)),(1,.sl 1 (E cC l))],[]⟩) (fun C hC=>?_) fun a1 w1 S1 p1 hp1=>?_
 ·simp -dsimp only[go_sem,cC]
  repeat' (first
    |(refine Br.mk (fun h=>?_) (fun h=>?_)<;>simp -dsimp only[go_sem,h,cC])
    |((first|refine RgK.mk rfl ?_|refine aD.c (by first|exact VD|exact DC|exact VF) ?_|refine aC ?_|fail);try simp -dsimp only[go_sem,cC])
    |fail)
  all_goals first|(simp[Vs.LeL,Vs.look,Vs.aB];done)|exact⟨by simp[Vs.LeL,Vs.look,Vs.aB],trivial⟩|omega|(and_intros<;>first|trivial|(simp[Vs.LeL,Vs.look,Vs.aB];done)|omega)
 refine At.seq (At.rg (hp1.rgN hnt 2 (τ:=⟨[(19,.sl 9 (E cS fl)),(20,.sl 1 (E cC l))],[]⟩) ?_ fun a2 w2 S2 p2 hp2=>hp2.rgc hnt (ts:=[19,20]) (ys:=[.sl 9 (E cS fl),.sl 1 (E cC l)]) (aDP Cd.i_resultOf_k.o) rfl rfl fun us hus hr=>?_))
 ·simp -dsimp only[go_sem,cC]
  first|(simp[Vs.LeL,Vs.look,Vs.aB];done)
 refine(aEp fl hzf hlf l hk hd hB hp2.dom hp2.env hus hr).mono ?_;rintro e0 w3 ⟨v,xr,cc,rfl,hg,how,hxr⟩;refine⟨_,rfl,?_⟩
 obtain ⟨s,rfl⟩:∃s:Sl,v=slW s:=by
  have:=how.rc;cases this;exact⟨(_,_,_),rfl⟩
 have hz2:C1.w0.heap.size≤w2.heap.size:=hp2.size
 have hp3:=(hp2.grow hg (D:=fun b=>xr=some b) (fun b hb=>hxr b hb) [] (fun p hp=>by cases hp)).putR (d:=21) (by rw[hnt,Cd.i_ResultOf_k.n];omega) (r:=.tup [.v (slW s),.v (.bool true)]) (u:=.tuple #[slW s,.bool true]) (.tup _ _ rfl fun j hj=>by
   match j,hj with
   |0,_=>exact .v _
   |1,_=>exact .v _)
 letI I5:=Vs.keepE (fun b=>S2 b∨xr=some b) w3
 refine hp3.rgN hnt 5 (τ:=⟨[(6,.v (slW s)),(7,.v (.bool true))],[]⟩) ?_ fun a4 w4 S4 p4 hp4=>RgL.nil ?_
 ·simp -dsimp only[go_sem,cC]
  first|(simp[Vs.LeL,Vs.look,Vs.aB];done)
 refine hp4.goT dM hnt 2 _ (τ:=⟨[(4,.v (slW s)),(5,.v (.int .i64 0))],[]⟩) (fun C hC=>?_) fun a5 w5 S5 p5 hp5=>?_
 ·simp -dsimp only[go_sem,cC]
  repeat' (first
    |(refine Br.mk (fun h=>?_) (fun h=>?_)<;>simp -dsimp only[go_sem,h,cC])
    |((first|refine RgK.mk rfl ?_|refine aC ?_|fail);try simp -dsimp only[go_sem,cC])
    |fail)
  all_goals first|(simp[Vs.LeL,Vs.look,Vs.aB];done)|exact⟨by simp[Vs.LeL,Vs.look,Vs.aB],trivial⟩|omega|(and_intros<;>first|trivial|(simp[Vs.LeL,Vs.look,Vs.aB];done)|omega)
 obtain ⟨hdf,u,ρ,κ,hrn,hxu,_⟩:=hp5.resX (fn:=Tryz.f11) (x:=.tup [.v (slW s),.v (.int .i64 0)]) (by
   show Vs.rR Tryz.prog _ _ [_,_]
   simp -dsimp only[go_sem,cC]
   try simp[Vs.oJ])
 obtain⟨us2,rfl,hus2,hur⟩:=nZ hxu;have g0:us2.getD 0 undef=slW s:=bM (hur 0 (by simp));have g1:us2.getD 1 undef=.int .i64 0:=bM (hur 1 (by simp));rw[qG hus2,g0,g1] at hrn;refine At.ret ?_
 try simp only[Exit.inBlock,Exit.then]
 refine⟨by first|exact .inl rfl|exact .inl trivial,hdf,_,hrn,slW s,xr,cc,rfl,hw0 ▸ hp5.out,how.mono (fun _ _ h=>h) fun b hb=>(p4.trans p5).old b (.inr hb),fun b hb=>⟨by have:=(hxr b hb).1;have:w.heap.size≤w2.heap.size:=hw0 ▸ hz2;omega,Nat.lt_of_lt_of_le (hxr b hb).2 (p4.trans p5).size⟩⟩
theorem aB3 (G:List Stp) (hz:∀x,x∈G→x.text.size≤1048576) (Y:G.length≤1048576) (l:List (List Int)) (U:aU l) (L:rsC G l=0):Vs.Fn Tryz.prog F.gV [] [.sl 9 (E cS G),.sl 1 (E cC l)] (.tup [.loc (.b 0) 0 (rsL G l).length,.v (.int .i64 0)]) [some (.arr 2 (E cT (rsL G l)) false)]:=by
 rw[show(rsL G l).length=(E cT (rsL G l)).length from(aI _).symm];exact Vs.Fn.of_ownT (aDP Cd.i_ResultOf_k.o) (by intro y J;simp only[List.mem_cons,List.not_mem_nil,or_false] at J;rcases J with rfl|rfl<;>rfl) fun S w vs M O I H=>aFe G hz Y l U L M O I H
end
section
variable [Vs.Envs]
attribute [local irreducible] Vs.Fn
end
end Go.Proofs.YtkgeiaideklmoaaGreat
