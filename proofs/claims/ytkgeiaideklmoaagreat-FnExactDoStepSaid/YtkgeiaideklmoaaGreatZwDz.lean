/- The law FnExactDoStep, joined. -/
import Derived.Test.YtkgeiaideklmoaaGreatZwDw
import Derived.Test.YtkgeiaideklmoaaGreatZwVq
import Derived.Test.YtkgeiaideklmoaaGreatVtR
import Derived.Test.YtkgeiaideklmoaaGreatZuO
import Derived.Test.YtkgeiaideklmoaaGreatVuV
set_option linter.all false
set_option maxHeartbeats 8000000
namespace Go.Proofs.YtkgeiaideklmoaaGreat
open Go.Vs
section
variable [Vs.Envs]
attribute [local irreducible] Vs.Fn mY wO stC dsC stO nP bL aP bM bP l03 chB rk cd3 chI stp aQ
theorem aHx (w:World) (k:Nat):Vs.Own (λ_=>False) w none 0 k [] (.slice none 0 0):=by
 refine⟨λF l z h=>?_,⟨by simp,.inl ⟨rfl,rfl⟩⟩,by simp⟩;obtain⟨_,rfl,_⟩:k=F∧[]=l∧false=z:=by simpa using h
 exact⟨by simp,none,0,rfl,by simp,by decide,λh=>absurd h (by simp),λ_ _=>.inl ⟨rfl,rfl,rfl⟩⟩
theorem aBJ.nil (w w':World):aBJ w w' ⟨[],[]⟩ (slW (none,0,0)) (slW (none,0,0)):=
 ⟨⟨none,0,[],λ_=>⟨none,[],λ_=>none,λ_=>0⟩,none,0,[],λ_=>none,λ_=>0⟩,⟨aHx _ _,rfl,by simp,by simp,by simp,aHx _ _,⟨rfl,by simp,by simp⟩,by simp,λb H h2=>by simp[OM.DT] at H,λb F=>by simp[OM.D,OM.DT,OM.DS] at F⟩,λb F=>by simp[OM.D,OM.DT,OM.DS] at F⟩
attribute [local go_sem] cC cFd aH Af Ag Ao Aq Ae Aj Ad Al Ac Ai Ap noO in
theorem aEA (x:Stp) (J:x.text.size<=1048576) (o:Off) (L:eD o) (I:¬(nP o=true∧dsC x o=0)):Fz F.iQ [.agg (cO o),.agg (cS x)] (.tup [.agg [.v (slW (none,0,0)),.v (slW (none,0,0))],.v (.int .i64 (dsK x o))]):=by
 have H:=uW o L;cases hb:nP o
 .rw[hb] at H;rw[show dsK x o=1 by simp[dsK,hb]];refine fn0 Cd.i_DoStep_k λX=>?_
  repeat' first|simp -dsimp only[go_sem,cO,cS]|apply Br.mk<;>intro h<;>try simp -dsimp only[h]|refine aB.c (by first|exact H) ?_|refine aC ?_|fail
  all_goals first|omega|exact⟨_,_,rfl,rfl⟩|exact⟨⟨_,_,rfl,rfl⟩,λh=>h rfl⟩
 .rw[hb] at H;have h0:dsC x o≠0:=λh=>I ⟨hb,h⟩;have DS:=aNh x J o _ (aEn hb L) h0;rw[show dsK x o=dsC x o by simp[dsK,hb]];refine fn0 Cd.i_DoStep_k λX=>?_
  repeat' first|simp -dsimp only[go_sem,cO,cS]|apply Br.mk<;>intro h<;>try simp -dsimp only[h]|refine aB.c (by first|exact H|exact DS) ?_|refine aC ?_|fail
  all_goals first|omega|exact⟨_,_,rfl,rfl⟩|exact⟨⟨_,_,rfl,rfl⟩,λh=>h rfl⟩
theorem aC9 (x:Stp) (J:x.text.size<=1048576) (o:Off) (Z:eD o) {S:Nat->Prop}{w:World}{vs:Array Value} (U:∀b,S b->b<w.heap.size) (Y:Env S w) (I:vs.size=2) (H:∀j,j<2->RC S w (([.agg (cO o),.agg (cS x)]:List AV).getD j .junk) (vs.getD j undef)) :
  Calls Tryz.prog F.iQ vs w λe w'=>∃O L:Sl,e=.returned (.tuple #[.agg #[slW O,slW L],.int .i64 (dsK x o)])∧jU w w'∧aBJ w w' (dsO x o) (slW O) (slW L):=by
 by_cases h:nP o=true∧dsC x o=0
 .rw[show dsO x o=stO x o by unfold dsO;rw[AP h],show dsK x o=0 by unfold dsK;rw[AP h.1];exact h.2];refine(aI8 x J o.trays o.totals _ (aEn h.1 Z) h.1 h.2 U Y I H).mono ?_;rintro e w' ⟨O,L,rfl,hg,m,hom,hn⟩;obtain⟨t,s,rfl,rfl⟩:=hom.sls;exact⟨t,s,rfl,hg,m,hom,hn⟩
 .rw[show dsO x o=⟨[],[]⟩ by unfold dsO;rw[AC h]];refine((aEA x J o Z h).calls0 rfl U Y I H).mono ?_;rintro e w' ⟨v,S',rfl,hg,hv⟩;rw[aJV hv];exact⟨_,_,rfl,hg,aBJ.nil _ _⟩
theorem aFH (x:Stp) (J:x.text.size<=1048576) (o:Off) (ho:eD o):Fz F.iQ [.agg (cO o),.agg (cS x)] (.tup [.agg (cO (dsO x o)),.v (.int .i64 (dsK x o))]):=by
 refine Vs.Fn.of_new (lT Cd.i_DoStep_k.o) (by intro y O;simp only[Am,Ak,AR] at O;rcases O with rfl|rfl<;>rfl) λS w vs U Y I H=>(aC9 x J o ho U Y I H).mono ?_;rintro e w' ⟨tv,sv,rfl,hg,m,hom,hn⟩;refine⟨_,m.D,rfl,hg,λb L=>⟨hn b L,hom.lt b L⟩,.tup _ _ rfl λj Z=>?_⟩
 match j,Z with
 |0,_=>exact hom.rd
 |1,_=>exact .v _
end
section
variable [Vs.Envs]
attribute [local irreducible] Vs.Fn mkD dL mtx l7 mkO dsO dsK lG aBs slW bL aP bM bP l03 chB rk cd3 chI stp aQ
abbrev vW (a b:Sl):Vs.Blk:=.var [.v (slW a),.v (slW b)] false
set_option maxRecDepth 20000 in
theorem lwDsC {dr:Nat->Array Oper->Option (List Nat)} (C:Ctx) (o D:Off) (x:Stp) (k:Int) (ho:eD o) (hD:eD D) (ta U Z O tv Y H F:Sl) (ka:∀S w,Vs.Env S w->RC S w (.agg (cO o)) (.agg #[slW ta,slW U])) (k0:∀S w,Vs.Env S w->RC S w (.agg (cO D)) (.agg #[slW Z,slW O])) (kx:∀S w,Vs.Env S w->RC S w (.agg (cO o)) (.agg #[slW tv,slW Y])) (kg:∀S w,Vs.Env S w->RC S w (.agg (cO D)) (.agg #[slW H,slW F])) :
  aDb Tryz.prog C dr 3 (lD 9 Cd.lawDoStep) (fun σ'=>LeL σ' ⟨[pP 2,pP 3,pP 6,(7,.v (.int .i64 k)),pP 8,pP 9,(10,.v (.int .i64 k)),(11,.v (.int .i64 1))],[(.t 9 0,vW H F),(.t 8 0,vW tv Y),(.t 6 0,vW Z O),(.t 2 0,vW ta U),(.t 3 0,.var (cS x) false)]⟩∧True) (λ_ _=>False) ⟨[pP 2,pP 3,pP 6,(7,.v (.int .i64 k)),pP 8,pP 9,(10,.v (.int .i64 k))],[(.t 9 0,vW H F),(.t 8 0,vW tv Y),(.t 6 0,vW Z O),(.t 2 0,vW ta U),(.t 3 0,.var (cS x) false)]⟩:=by
 have EG:=Vs.Fn.knownR (aAO D hD) (ys':=[.agg [.v (slW H),.v (slW F)],.agg [.v (slW Z),.v (slW O)]]) rfl (λj L=>by
   match j,L with
   |0,_=>exact .inr ⟨rfl,λS w v I J=>by rw[iI J];exact kg S w I⟩
   |1,_=>exact .inr ⟨rfl,λS w v I J=>by rw[iI J];exact k0 S w I⟩)
 have EX:=Vs.Fn.knownR (aAO o ho) (ys':=[.agg [.v (slW tv),.v (slW Y)],.agg (cO o)]) rfl (λj L=>by
   match j,L with
   |0,_=>exact .inr ⟨rfl,λS w v I J=>by rw[iI J];exact kx S w I⟩
   |1,_=>exact .inl rfl)
 have TO:=Vs.Fn.knownR (aCe o ho) (ys':=[.agg [.v (slW ta),.v (slW U)]]) rfl (λj L=>by
   match j,L with
   |0,_=>exact .inr ⟨rfl,λS w v I J=>by rw[iI J];exact ka S w I⟩)
 simp only[cO] at EX TO;have n0:(k != k)=false:=by simp
 unfold Cd.lawDoStep;simp only[lD]
 repeat' first|simp -dsimp only[go_sem,Int.reduceBEq,Int.reduceBNe,cC,aH,Af,Ag,Ao,Aq,Ae,Aj,Ad,Al,Ac,Ai,Ap,Av,Am,Ak,AR,BQ,Vs.Name.t.injEq,Ar,AY,Vs.Name.b.injEq,AJ,Bp,pP,vW,cD,cTs,cO,cS,AJ,Bp,aH,n0]|apply Br.mk<;>intro h<;>try simp -dsimp only[h]|refine aB.c (by first|exact EG|exact EX|exact TO) ?_|refine aC ?_|fail
 all_goals first|(simp[Vs.LeL,Vs.look,aA];done)|exact⟨by simp[Vs.LeL,Vs.look,aA],trivial⟩|omega|(and_intros<;>first|trivial|omega|(simp[Vs.LeL,Vs.look,aA];done))
set_option maxRecDepth 20000 in
theorem lwDsD {dr:Nat->Array Oper->Option (List Nat)} (C:Ctx) (o D:Off) (x:Stp) (k:Int) (ho:eD o) (hD:eD D) (Y U J I tv Z H F:Sl) (ka:∀S w,Vs.Env S w->RC S w (.agg (cO o)) (.agg #[slW Y,slW U])) (k0:∀S w,Vs.Env S w->RC S w (.agg (cO D)) (.agg #[slW J,slW I])) (m:Nat) (kg:∀S w,Vs.Env S w->RC S w (.agg (cO D)) (.agg #[slW H,slW F])) :
  aDb Tryz.prog C dr 2 (lD 13 Cd.lawDoStep) (fun σ'=>LeL σ' ⟨[pP 2,pP 3,pP 6,(7,.v (.int .i64 k)),pP 9,(12,.v (.int .i64 1))],[(.t 9 0,vW H F),(.t 8 0,vW tv Z),(.t 6 0,vW J I),(.t 2 0,vW Y U),(.t 3 0,.var (cS x) false)]⟩∧True) (λ_ _=>False) ⟨[pP 2,pP 3,pP 6,(7,.v (.int .i64 k)),pP 9,(10,.v (.int .i64 k)),(11,.v (.int .i64 (m:Nat)))],[(.t 9 0,vW H F),(.t 8 0,vW tv Z),(.t 6 0,vW J I),(.t 2 0,vW Y U),(.t 3 0,.var (cS x) false)]⟩:=by
 have EG:=Vs.Fn.knownR (aAO D hD) (ys':=[.agg [.v (slW H),.v (slW F)],.agg [.v (slW J),.v (slW I)]]) rfl (λj hj=>by
   match j,hj with
   |0,_=>exact .inr ⟨rfl,λS w v L O=>by rw[iI O];exact kg S w L⟩
   |1,_=>exact .inr ⟨rfl,λS w v L O=>by rw[iI O];exact k0 S w L⟩)
 have hm:decide ((m:Int)<0)=false:=AQ (by omega);have n0:(k != k)=false:=by simp
 unfold Cd.lawDoStep;simp only[lD]
 repeat' first|simp -dsimp only[go_sem,Int.reduceBEq,Int.reduceBNe,cC,aH,Af,Ag,Ao,Aq,Ae,Aj,Ad,Al,Ac,Ai,Ap,Av,Am,Ak,AR,BQ,Vs.Name.t.injEq,Ar,AY,Vs.Name.b.injEq,AJ,Bp,pP,vW,cD,cTs,cO,cS,AJ,Bp,aH,n0,hm]|apply Br.mk<;>intro h<;>try simp -dsimp only[h]|refine aB.c (by first|exact EG) ?_|refine aC ?_|fail
 all_goals first|(simp[Vs.LeL,Vs.look,aA];done)|exact⟨by simp[Vs.LeL,Vs.look,aA],trivial⟩|omega|(and_intros<;>first|trivial|omega|(simp[Vs.LeL,Vs.look,aA];done))
set_option maxRecDepth 20000 in
theorem lwDsE {dr:Nat->Array Oper->Option (List Nat)} (C:Ctx) (o D:Off) (x:Stp) (k:Int) (ho:eD o) (hD:eD D) (ta sa t0 s0 tv sv I H:Sl) (ka:∀S w,Vs.Env S w->RC S w (.agg (cO o)) (.agg #[slW ta,slW sa])) (k0:∀S w,Vs.Env S w->RC S w (.agg (cO D)) (.agg #[slW t0,slW s0])) (hk:1+l7 D<=900000000) (J:Fz F.iQ [.agg (cO o),.agg (cS x)] (.tup [.agg (cO D),.v (.int .i64 k)])) (kg:∀S w,Vs.Env S w->RC S w (.agg (cO (mkO 1 D))) (.agg #[slW I,slW H])) :
  wpc Tryz.prog C dr (lD 16 Cd.lawDoStep) (λ_=>False) (λe σ'=>match e with|.ret=>LeL σ' ⟨[(4,.v (.bool true))],[]⟩|.exit _=>False) ⟨[pP 2,pP 3,pP 6,(7,.v (.int .i64 k)),pP 9,(12,.v (.int .i64 (1+l7 D:Nat)))],[(.t 9 0,vW I H),(.t 8 0,vW tv sv),(.t 6 0,vW t0 s0),(.t 2 0,vW ta sa),(.t 3 0,.var (cS x) false)]⟩:=by
 have HO:=Vs.Fn.knownR (aGP D hD (k0:=1) (by omega) hk) (ys':=[.agg [.v (slW I),.v (slW H)],.v (.int .i64 ((1:Nat):Int))]) rfl (λj O=>by
   match j,O with
   |0,_=>exact .inr ⟨rfl,λS w v L U=>by rw[iI U];exact kg S w L⟩
   |1,_=>exact .inl rfl)
 have EO:=Vs.Fn.knownR (aAO D hD) (ys':=[.agg (cO D),.agg [.v (slW t0),.v (slW s0)]]) rfl (λj O=>by
   match j,O with
   |0,_=>exact .inl rfl
   |1,_=>exact .inr ⟨rfl,λS w v L U=>by rw[iI U];exact k0 S w L⟩)
 have TO:=Vs.Fn.knownR (aCe o ho) (ys':=[.agg [.v (slW ta),.v (slW sa)]]) rfl (λj O=>by
   match j,O with
   |0,_=>exact .inr ⟨rfl,λS w v L U=>by rw[iI U];exact ka S w L⟩)
 have TS:=aGh x;have Y:decide (((1+l7 D:Nat):Int)<0)=false:=AQ (by omega);have Z:(((1+l7 D:Nat):Int) != ((1+l7 D:Nat):Int))=false:=by simp
 simp only[cO,cS] at EO TO TS J;have n0:(k != k)=false:=by simp
 unfold Cd.lawDoStep;simp only[lD]
 repeat' first|simp -dsimp only[go_sem,Int.reduceBEq,Int.reduceBNe,cC,aH,Af,Ag,Ao,Aq,Ae,Aj,Ad,Al,Ac,Ai,Ap,Av,Am,Ak,AR,BQ,Vs.Name.t.injEq,Ar,AY,Vs.Name.b.injEq,AJ,Bp,pP,vW,cD,cTs,cO,cS,AJ,Bp,aH,n0,Y,Z]|apply Br.mk<;>intro h<;>try simp -dsimp only[h]|refine aB.c (by first|exact HO|exact EO|exact TO|exact TS|exact J) ?_|refine aC ?_|fail
 all_goals first|(simp[Vs.LeL,Vs.look,aA];done)|exact⟨by simp[Vs.LeL,Vs.look,aA],trivial⟩|omega|(and_intros<;>first|trivial|omega|(simp[Vs.LeL,Vs.look,aA];done))
end
section
variable [Vs.Envs]
attribute [local irreducible] Vs.Fn mkD dL mtx l7 mkO dsO dsK lG aBs bL aP bM bP l03 chB rk cd3 chI stp aQ
abbrev QL (fn:Func) (w0:World) (S:Nat->Prop):Exit->Act->World->Prop:=λe a' w'=>(e=.ret∨e=.normal)∧a'.defers=[]∧∃v,(results fn a'.tmps).run Tryz.prog w'=.ok v w'∧∃v',Ending.returned v=.returned v'∧jU w0 w'∧RC S w' (.v (.bool true)) v'
def OS9:List (List Nat):=[[0,1,2,3,4,5,6,7,8,9],[0,1,2,3,4,5,7,6,8,9],[0,1,2,3,4,5,7,8,6,9],[0,1,2,3,4,6,5,7,8,9],[0,1,2,3,4,6,7,5,8,9],[0,1,2,3,4,7,5,6,8,9],[0,1,2,3,4,7,5,8,6,9],[0,1,2,3,4,7,6,5,8,9],[0,1,2,3,7,4,5,6,8,9],[0,1,2,3,7,4,5,8,6,9],[0,1,2,3,7,4,6,5,8,9],[0,1,2,7,3,4,5,6,8,9],[0,1,2,7,3,4,5,8,6,9],[0,1,2,7,3,4,6,5,8,9],[0,1,7,2,3,4,5,6,8,9],[0,1,7,2,3,4,5,8,6,9],[0,1,7,2,3,4,6,5,8,9],[0,7,1,2,3,4,5,6,8,9],[0,7,1,2,3,4,5,8,6,9],[0,7,1,2,3,4,6,5,8,9],[1,0,2,3,4,5,6,7,8,9],[1,0,2,3,4,5,7,6,8,9],[1,0,2,3,4,5,7,8,6,9],[1,0,2,3,4,6,5,7,8,9],[1,0,2,3,4,6,7,5,8,9],[1,0,2,3,4,7,5,6,8,9],[1,0,2,3,4,7,5,8,6,9],[1,0,2,3,4,7,6,5,8,9],[1,0,2,3,7,4,5,6,8,9],[1,0,2,3,7,4,5,8,6,9],[1,0,2,3,7,4,6,5,8,9],[1,0,2,7,3,4,5,6,8,9],[1,0,2,7,3,4,5,8,6,9],[1,0,2,7,3,4,6,5,8,9],[1,0,7,2,3,4,5,6,8,9],[1,0,7,2,3,4,5,8,6,9],[1,0,7,2,3,4,6,5,8,9],[1,2,0,3,4,5,6,7,8,9],[1,2,0,3,4,5,7,6,8,9],[1,2,0,3,4,5,7,8,6,9],[1,2,0,3,4,6,5,7,8,9],[1,2,0,3,4,6,7,5,8,9],[1,2,0,3,4,7,5,6,8,9],[1,2,0,3,4,7,5,8,6,9],[1,2,0,3,4,7,6,5,8,9],[1,2,0,3,7,4,5,6,8,9],[1,2,0,3,7,4,5,8,6,9],[1,2,0,3,7,4,6,5,8,9],[1,2,0,7,3,4,5,6,8,9],[1,2,0,7,3,4,5,8,6,9],[1,2,0,7,3,4,6,5,8,9],[1,2,7,0,3,4,5,6,8,9],[1,2,7,0,3,4,5,8,6,9],[1,2,7,0,3,4,6,5,8,9],[1,7,0,2,3,4,5,6,8,9],[1,7,0,2,3,4,5,8,6,9],[1,7,0,2,3,4,6,5,8,9],[1,7,2,0,3,4,5,6,8,9],[1,7,2,0,3,4,5,8,6,9],[1,7,2,0,3,4,6,5,8,9],[7,0,1,2,3,4,5,6,8,9],[7,0,1,2,3,4,5,8,6,9],[7,0,1,2,3,4,6,5,8,9],[7,1,0,2,3,4,5,6,8,9],[7,1,0,2,3,4,5,8,6,9],[7,1,0,2,3,4,6,5,8,9],[7,1,2,0,3,4,5,6,8,9],[7,1,2,0,3,4,5,8,6,9],[7,1,2,0,3,4,6,5,8,9]]
theorem aK3 {S:Nat->Prop}{w:World}{k I:Nat}{r J:List (List AV)}{u:Value} (h:RC S w (.agg [.sl k r,.sl I J]) u):∃t s:Sl,u=.agg #[slW t,slW s]:=by
 cases h with
 | agg _ us hl hr =>
  obtain⟨t,H⟩:=xB (hr 0 (by simp));obtain⟨s,F⟩:=xB (hr 1 (by simp));exact⟨t,s,Vs.us2 (by simpa using hl.symm) H F ▸ rfl⟩
theorem aLb {S:Nat->Prop}{w:World}{k F:Nat}{r H:List (List AV)}{vs:List Value} (J:vs.length=2) (h:∀j,j<2->RC S w (([.sl k r,.sl F H]:List AV).getD j .junk) (vs.getD j undef)):∃t s:Sl,vs=[slW t,slW s]∧RC S w (.agg [.sl k r,.sl F H]) (.agg #[slW t,slW s]):=by
 match vs,J with
 | [a,b],_ =>
  obtain⟨t,rfl⟩:∃t,a=slW t:=xB (h 0 (by omega));obtain⟨s,rfl⟩:∃t,b=slW t:=xB (h 1 (by omega))
  exact ⟨t,s,rfl,.agg _ _ rfl λj I=>by
    match j,I with
    |0,_=>exact h 0 (by omega)
    |1,_=>exact h 1 (by omega)⟩
attribute [local go_sem] Bf BA Int.reduceBEq Int.reduceBNe cC aH Af Ag Ao Aq Ae Aj Ad Al Ac Ai Ap Av Am Ak AR BQ Vs.Name.t.injEq Ar AY Vs.Name.b.injEq AJ Bp pP vW cD cTs AJ Bp aH in
set_option maxRecDepth 20000 in
theorem law_DoStep (o:Off) (x:Stp) (H:aKX o) (hx:x.text.size<2 ^ 63):Fz F.lawDoStep [.agg (cO o),.agg (cS x)] (.v (.bool true)):=by
 by_cases h1:lG o 1048576<0
 .have e1:decide (lG o 1048576<0)=true:=A9 h1;refine fn0 Cd.lawDoStep_k λX=>?_;simp -dsimp only[go_sem,cO,cS,e1];refine aB.flat (aCf o 1048576 H (by omega)) rfl ?_;simp -dsimp only[go_sem,cO,cS,e1]
  first|done|simp
 obtain⟨hn,ho⟩:=aGl H (by omega) (by omega) (by omega:0<=lG o 1048576);have j7:=aIi H (by omega) (by omega) (by omega:0<=lG o 1048576);have e1:decide (lG o 1048576<0)=false:=AQ h1;by_cases h2:aBs x (lG o 1048576)<0
 .have e2:decide (aBs x (lG o 1048576)<0)=true:=A9 h2;refine fn0 Cd.lawDoStep_k λX=>?_;simp -dsimp only[go_sem,cO,cS,e1];refine aB.flat (aCf o 1048576 H (by omega)) rfl ?_;simp -dsimp only[go_sem,cO,cS,e1];refine aB.flat (aJn x _) rfl ?_;simp -dsimp only[go_sem,cO,cS,e1,e2]
  first|done|simp
 have e2:decide (aBs x (lG o 1048576)<0)=false:=AQ h2;have qt:x.text.size<=1048576:=by have:=(aGk hx (by omega) (by omega) (show 0<=szT x.text (lG o 1048576) by unfold aBs at h2;omega)).2;omega
 obtain⟨hD,ja⟩:=aIW (x:=x) ho;refine Vs.Fn.of_calls (lT Cd.lawDoStep_k.o) (by intro y hy;simp only[Am,Ak,AR] at hy;rcases hy with rfl|rfl<;>rfl) rfl λS w vs hS he j9 qm=>?_;obtain⟨g1,_,_⟩:=Cd.lawDoStep_k.o;have g2:Tryz.f4.body.bind (bH Tryz.prog Tryz.f4.ntmps (Vs.drO Tryz.prog 10 OS9))=some Cd.lawDoStep.bare:=by kernel_rfl
 obtain⟨zj,q9,hc⟩:=A7.1 g2;have hz:(Tryz.f4.body.map (zB Tryz.f4.ntmps (Vs.drO Tryz.prog 10 OS9)))=some true:=by kernel_rfl
 rw[q9] at hz;refine Vs.Pt.calls (dr:=Vs.drO Tryz.prog 10 OS9) (ac:=Cd.lawDoStep) g1 q9 hc (by simpa using hz) (args:=[.agg (cO o),.agg (cS x)]) (by rw[Cd.lawDoStep_k.n];exact Bd rfl) hS he j9 qm λC1 a Y za jz U=>?_;have hM:=U.nomut;subst za;have r0:RC S C1.w0 (.agg (cO o)) (a.tmps.getD 0 undef):=U.val (t:=0) rfl;obtain⟨ta,sa,jn⟩:=aK3 r0
 have jk:=U.set [(0,.agg [.v (slW ta),.v (slW sa)]),(1,.agg (cS x))] (λp U=>by
   simp only[Am,Ak,AR] at U;rcases U with rfl|rfl
   . right
     show RC S C1.w0 _ (a.tmps.getD 0 undef)
     rw[jn];exact aHw _ _
   . exact .inl ⟨rfl,rfl⟩)
 rw[jn] at r0;clear U;have j0:=jk.dom
 letI IA:=Vs.keepE S C1.w0
 have jo:∀S' w,Vs.Env S' w->RC S' w (.agg (cO o)) (.agg #[slW ta,slW sa]):=λS' w he=>dN j0 he r0
 have ZO:=Vs.Fn.knownR (aCf o 1048576 H (by omega)) (ys':=[.agg [.v (slW ta),.v (slW sa)],.v (.int .i64 1048576)]) rfl (λj hj=>by
   match j,hj with
   |0,_=>exact .inr ⟨rfl,λS w v he hv=>by rw[iI hv];exact jo S w he⟩
   |1,_=>exact .inl rfl)
 have TO:=Vs.Fn.knownR (aCe o ho) (ys':=[.agg [.v (slW ta),.v (slW sa)]]) rfl (λj hj=>by
   match j,hj with
   |0,_=>exact .inr ⟨rfl,λS w v he hv=>by rw[iI hv];exact jo S w he⟩)
 have ZS:=aJn x (lG o 1048576);have TS:=aGh x;have SD:=aE2 x qt o ho;simp only[cO,cS] at TO TS SD
 refine jk.goV (aBh Tryz.mixed 10 OS9) Y 7 _ (E:=λ_ _=>False) (m:=.t 6 0) (cs:=[.sl 1 (E cD (dsO x o).trays),.sl 1 (E cTs (dsO x o).totals)]) (s:=[pP 2,pP 3,pP 6,(7,.v (.int .i64 (dsK x o)))]) (h0:=[(.t 2 0,vW ta sa),(.t 3 0,.var (cS x) false)]) (λy hy=>by
     simp only[Am,Ak,AR] at hy;rcases hy with rfl|rfl<;>rfl) (λp U=>by
     simp only[Am,Ak,AR] at U;rcases U with rfl|rfl<;>exact⟨rfl,rfl⟩) (λC hC=>?_) (λi σ h=>h) (λC a w hl hg=>hg.no.elim) λvs a1 w1 S1 j8 p1 qp hv=>?_
 .unfold Cd.lawDoStep
  repeat' first|simp -dsimp only[go_sem,cO,cS,e1,e2]|apply Br.mk<;>intro h<;>try simp -dsimp only[h]|refine aB.c (by first|exact ZO|exact TO|exact ZS|exact TS|exact SD) ?_|refine aC ?_|fail
  all_goals first|(simp[Vs.LeL,Vs.look,aA];done)|exact⟨by simp[Vs.LeL,Vs.look,aA],trivial⟩|omega|(and_intros<;>first|trivial|omega|(simp[Vs.LeL,Vs.look,aA];done))
 obtain⟨t0,s0,rfl,r6⟩:=aLb j8 hv;have qf:=p1.rcS r0;have qn:=qp.dom;have q8:∀b,C1.S0 b->S1 b:=λb H=>by rw[jz] at H;exact p1.sub b H
 have zs:=qp.size;show Vs.At Tryz.prog Tryz.f4.ntmps (Vs.drO Tryz.prog 10 OS9) (.seq _ (lD 8 Cd.lawDoStep)) _ a1 w1
 refine At.seq (At.rg (qp.rgN Y 1 (τ:=⟨[(34,.agg [.v (slW ta),.v (slW sa)]),pP 2,pP 3,pP 6,(7,.v (.int .i64 (dsK x o)))],[(.t 6 0,vW t0 s0),(.t 2 0,vW ta sa),(.t 3 0,.var (cS x) false)]⟩) ?_ λa2 w2 S2 p2 h4=>h4.rgc Y (ts:=[34]) (ys:=[.agg [.v (slW ta),.v (slW sa)]]) (lT Cd.l_toOffice_k.o) rfl rfl λus hu hr=>?_))
 .simp -dsimp only[go_sem,cO,cS]
  first|(simp[Vs.LeL,Vs.look,aA];done)|(and_intros<;>first|omega|rfl|(simp[Vs.LeL,Vs.look,aA];done))
 have qv:Vs.Past S1 w1 S2 w2:=p2
 refine (aEQ o ho h4.dom h4.env hu (λj hj=>by
   match j,hj with
   | 0,_ =>
     show RC S2 w2 _ (us.getD 0 undef)
     rw[iI (hr 0 (by simp))];exact qv.rcS qf)).mono ?_
 rintro e w3 ⟨tv,sv,rfl,hg3,m1,hom3,hn1⟩;refine⟨_,rfl,?_⟩
 have j1:=(h4.grow hg3 (D:=m1.D) (λb H=>⟨hn1 b H,hom3.lt b H⟩) [pP 2,pP 3,pP 6,(7,.v (.int .i64 (dsK x o)))] (λp U=>by
       simp only[Am,Ak,AR] at U;rcases U with rfl|rfl|rfl|rfl<;>exact⟨rfl,.inl rfl⟩)).putR (d:=35) (by rw[Y,Cd.lawDoStep_k.n];omega) (r:=.agg [.v (slW tv),.v (slW sv)]) (aHw _ _)
 letI I3:=Vs.keepE (λb=>S2 b∨m1.D b) w3
 refine j1.rgN Y 2 (τ:=⟨[pP 2,pP 3,pP 6,(7,.v (.int .i64 (dsK x o))),pP 8],[(.t 8 0,vW tv sv),(.t 6 0,vW t0 s0),(.t 2 0,vW ta sa),(.t 3 0,.var (cS x) false)]⟩) ?_ λa4 w4 S4 p4 j2=>RgL.nil ?_
 .simp only[vW,slW];simp -dsimp only[go_sem,cO,cS]
  first|(simp[Vs.LeL,Vs.look,aA];done)|(and_intros<;>first|omega|rfl|(simp[Vs.LeL,Vs.look,aA];done))
 have ze:Vs.Past S1 w1 S4 w4:=(qv.trans (Vs.Past.grow hg3 h4.dom)).trans p4;have qe:∀b,m1.D b->S4 b:=λb H=>p4.sub b (.inr H);have qi:=hom3.past (S:=λb=>S2 b∨m1.D b) (λb H=>.inr H) p4;have zt:=h4.size;have jq:∀b,m1.D b->¬S1 b:=λb H hs=>by have:=hn1 b H;have:=qn b hs;have:=qv.size;omega
 have qs:∀(w6:World) (S5:Nat->Prop) (w5:World) (O J:Sl) (m2:OM),Vs.Past S4 w4 S5 w5->(∀b,S5 b->b<w5.heap.size)->jU w5 w6->OfM w6 (dsO x o) (slW O) (slW J) m2->(∀b,m2.D b->w5.heap.size<=b)->C1.w0.heap.size<=w5.heap.size->∀a7 w7 S7,Vs.Past (λb=>S5 b∨m2.D b) w6 S7 w7->Vs.Pt (Vs.keepE (λb=>S5 b∨m2.D b) w6) C1 (⟨[pP 2,pP 3,pP 6,(7,.v (.int .i64 (dsK x o))),pP 8,pP 9,(10,.v (.int .i64 (dsK x o)))],[(.t 9 0,vW O J),(.t 8 0,vW tv sv),(.t 6 0,vW t0 s0),(.t 2 0,vW ta sa),(.t 3 0,.var (cS x) false)]⟩:St) a7 w7 S7->Vs.At Tryz.prog Tryz.f4.ntmps (Vs.drO Tryz.prog 10 OS9) (lD 9 Cd.lawDoStep) (QL Tryz.f4 C1.w0 S) a7 w7:=by
  intro w6 S5 w5 O J m2 p5 qc h6 hd h3 zu a7 w7 S7 p7 qq
  letI I6:Vs.Envs:=Vs.keepE (λb=>S5 b∨m2.D b) w6
  have jt:Vs.Past S1 w1 S5 w5:=ze.trans p5;have ju:Vs.Past S5 w5 (λb=>S5 b∨m2.D b) w6:=Vs.Past.grow h6 qc;have qw:=jt.trans ju;have hk:∀b,(S5 b∨m2.D b)->b<w6.heap.size:=λb H=>H.elim (λh=>AZ (qc b h) h6.size) (hd.lt b);have h9:∀b,m1.D b->S5 b:=λb H=>p5.sub b (qe b H);have qj:=(qi.past qe p5).past h9 ju;have jr:∀b,m2.D b->¬S1 b:=λb H hs=>by have:=h3 b H;have:=qc b (jt.sub b hs);omega
  have zb:∀b,m2.D b->¬m1.D b:=λb H hs=>by have:=h3 b H;have:=qc b (h9 b hs);omega
  refine qq.go (aBh Tryz.mixed 10 OS9) Y 3 _ (τ:=⟨[pP 2,pP 3,pP 6,(7,.v (.int .i64 (dsK x o))),pP 8,pP 9,(10,.v (.int .i64 (dsK x o))),(11,.v (.int .i64 1))],[(.t 9 0,vW O J),(.t 8 0,vW tv sv),(.t 6 0,vW t0 s0),(.t 2 0,vW ta sa),(.t 3 0,.var (cS x) false)]⟩) (X:=True) (E:=λ_ _=>False) (λp U=>by
        simp only[Am,Ak,AR] at U;rcases U with rfl|rfl|rfl|rfl|rfl<;>exact⟨rfl,rfl⟩) (λC hC=>lwDsC C o (dsO x o) x (dsK x o) ho hD ta sa t0 s0 tv sv O J (λS' w' Z=>dN hk Z (qw.rcS qf)) (λS' w' Z=>dN hk Z (qw.rcS r6)) (λS' w' Z=>dN hk Z (qj.rd.mono (λb H=>.inl (h9 b H)) λ_ _=>rfl)) (λS' w' Z=>dN hk Z (hd.rd.mono (λb H=>.inr H) λ_ _=>rfl))) (λi σ h=>h) (λC a w hl hg=>hg.no.elim) λa8 w8 S8 p8 j4 _=>?_
  have zf:Vs.Past (λb=>S5 b∨m2.D b) w6 S8 w8:=p7.trans p8;show Vs.At Tryz.prog Tryz.f4.ntmps (Vs.drO Tryz.prog 10 OS9) (.seq _ (lD 13 Cd.lawDoStep)) _ a8 w8
  refine At.seq (At.rg (j4.rgN Y 2 (τ:=⟨[(57,.agg [.v (slW tv),.v (slW sv)]),(58,.v (.int .i64 ((1:Nat):Int))),pP 2,pP 3,pP 6,(7,.v (.int .i64 (dsK x o))),pP 9,(10,.v (.int .i64 (dsK x o)))],[(.t 9 0,vW O J),(.t 8 0,vW tv sv),(.t 6 0,vW t0 s0),(.t 2 0,vW ta sa),(.t 3 0,.var (cS x) false)]⟩) ?_ λa9 w9 S9 p9 qd=>qd.rgc Y (ts:=[57,58]) (ys:=[.agg [.v (slW tv),.v (slW sv)],.v (.int .i64 ((1:Nat):Int))]) (lT Cd.l_markOffice_k.o) rfl rfl λus hu hr=>?_))
  .simp -dsimp only[go_sem,cO,cS]
   first|(simp[Vs.LeL,Vs.look,aA];done)|(and_intros<;>first|omega|rfl|(simp[Vs.LeL,Vs.look,aA];done))
  obtain rfl:=Vs.us2 hu (iI (hr 0 (by show 0<2;omega))) (Vs.rc_v (hr 1 (by show 1<2;omega)));have qb:=zf.trans p9;have qx:=qw.trans qb;have je:OfM w9 o (slW tv) (slW sv) m1:=qj.past (λb H=>.inl (h9 b H)) qb;refine(@zF ⟨[]⟩ o ho tv sv m1 1 (by omega) j7 S1 w9 (λb H=>AZ (qn b H) qx.size) (λp U=>by cases U) jq je).mono ?_;rintro e qg ⟨rfl,q1,q2,q3,_⟩;refine⟨_,rfl,?_⟩;have jb:∀b,m1.D b->C1.w0.heap.size<=b∧S9 b:=λb H=>⟨by have:=hn1 b H;omega,qb.sub b (.inl (h9 b H))⟩;have q7:∀b,(S1 b∨m2.D b)->S9 b:=λb H=>H.elim (qx.sub b) λh=>qb.sub b (.inr h)
  have jf:=(qd.marked q1 q2 q3 jb (K:=λb=>S1 b∨m2.D b) q7 (λb H=>.inl (q8 b H)) [pP 2,pP 3,pP 6,(7,.v (.int .i64 (dsK x o))),pP 9,(10,.v (.int .i64 (dsK x o)))] (λp U=>by
        simp only[Am,Ak,AR] at U;rcases U with rfl|rfl|rfl|rfl|rfl|rfl<;>exact⟨rfl,rfl⟩)).put (d:=59) (by rw[Y,Cd.lawDoStep_k.n];omega) (.int .i64 (1+l7 o:Nat))
  have qa:Vs.Past S1 w1 (λb=>S1 b∨m2.D b) qg:=qx.mark qd.dom q1 q2 jq λ_ h=>.inl h;have h8:OfM w9 (dsO x o) (slW O) (slW J) m2:=hd.past (S:=λb=>S5 b∨m2.D b) (λb H=>.inr H) qb;have h7:OfM qg (dsO x o) (slW O) (slW J) m2:=h8.same q1 λb H=>q2 b (h8.lt b H) (zb b H);have hf:∀b,(S1 b∨m2.D b)->b<qg.heap.size:=λb H=>AZ (qd.dom b (q7 b H)) q1
  letI zl:=Vs.keepE (λb=>S1 b∨m2.D b) qg
  refine jf.rgN Y 1 (τ:=⟨[pP 2,pP 3,pP 6,(7,.v (.int .i64 (dsK x o))),pP 9,(10,.v (.int .i64 (dsK x o))),(11,.v (.int .i64 (1+l7 o:Nat)))],[(.t 9 0,vW O J),(.t 8 0,vW tv sv),(.t 6 0,vW t0 s0),(.t 2 0,vW ta sa),(.t 3 0,.var (cS x) false)]⟩) ?_ λjw zg zn zc jg=>RgL.nil ?_
  .simp -dsimp only[go_sem,cO,cS]
   first|(simp[Vs.LeL,Vs.look,aA];done)|(and_intros<;>first|omega|rfl|(simp[Vs.LeL,Vs.look,aA];done))
  show Vs.At Tryz.prog Tryz.f4.ntmps (Vs.drO Tryz.prog 10 OS9) (lD 13 Cd.lawDoStep) _ jw zg
  refine jg.go (aBh Tryz.mixed 10 OS9) Y 2 _ (τ:=⟨[pP 2,pP 3,pP 6,(7,.v (.int .i64 (dsK x o))),pP 9,(12,.v (.int .i64 1))],[(.t 9 0,vW O J),(.t 8 0,vW tv sv),(.t 6 0,vW t0 s0),(.t 2 0,vW ta sa),(.t 3 0,.var (cS x) false)]⟩) (X:=True) (E:=λ_ _=>False) (λp U=>by
        simp only[Am,Ak,AR] at U;rcases U with rfl|rfl|rfl|rfl|rfl<;>exact⟨rfl,rfl⟩) (λC hC=>lwDsD C o (dsO x o) x (dsK x o) ho hD ta sa t0 s0 tv sv O J (λS' w' Z=>dN hf Z (qa.rcS qf)) (λS' w' Z=>dN hf Z (qa.rcS r6)) (1+l7 o) (λS' w' Z=>dN hf Z (h7.rd.mono (λb H=>.inr H) λ_ _=>rfl))) (λi σ h=>h) (λC a w hl hg=>hg.no.elim) λjx zh zo js jh _=>?_
  have qu:=zc.trans js;show Vs.At Tryz.prog Tryz.f4.ntmps (Vs.drO Tryz.prog 10 OS9) (.seq _ (lD 16 Cd.lawDoStep)) _ jx zh
  refine At.seq (At.rg (jh.rgN Y 2 (τ:=⟨[(73,.agg [.v (slW O),.v (slW J)]),(74,.v (.int .i64 ((1:Nat):Int))),pP 2,pP 3,pP 6,(7,.v (.int .i64 (dsK x o))),pP 9],[(.t 9 0,vW O J),(.t 8 0,vW tv sv),(.t 6 0,vW t0 s0),(.t 2 0,vW ta sa),(.t 3 0,.var (cS x) false)]⟩) ?_ λzq jv q0 zd hw=>hw.rgc Y (ts:=[73,74]) (ys:=[.agg [.v (slW O),.v (slW J)],.v (.int .i64 ((1:Nat):Int))]) (lT Cd.l_markOffice_k.o) rfl rfl λus hu hr=>?_))
  .simp -dsimp only[go_sem,cO,cS]
   first|(simp[Vs.LeL,Vs.look,aA];done)|(and_intros<;>first|omega|rfl|(simp[Vs.LeL,Vs.look,aA];done))
  obtain rfl:=Vs.us2 hu (iI (hr 0 (by show 0<2;omega))) (Vs.rc_v (hr 1 (by show 1<2;omega)));have hm:=qu.trans zd;have qk:=qa.trans hm;have qo:OfM jv (dsO x o) (slW O) (slW J) m2:=h7.past (S:=λb=>S1 b∨m2.D b) (λb H=>.inr H) hm;refine(@zF ⟨[]⟩ (dsO x o) hD O J m2 1 (by omega) ja S1 jv (λb H=>AZ (qn b H) qk.size) (λp U=>by cases U) jr qo).mono ?_;rintro e qz ⟨rfl,q4,q5,q6,hom14⟩;refine⟨_,rfl,?_⟩;have jc:∀b,m2.D b->C1.w0.heap.size<=b∧q0 b:=λb H=>⟨by have:=h3 b H;omega,hm.sub b (.inr H)⟩;have qh:∀b,(S1 b∨m2.D b)->q0 b:=λb H=>hm.sub b H
  have ji:=(hw.marked q4 q5 q6 jc (K:=λb=>S1 b∨m2.D b) qh (λb H=>.inl (q8 b H)) [pP 2,pP 3,pP 6,(7,.v (.int .i64 (dsK x o))),pP 9] (λp U=>by
        simp only[Am,Ak,AR] at U;rcases U with rfl|rfl|rfl|rfl|rfl<;>exact⟨rfl,rfl⟩)).put (d:=75) (by rw[Y,Cd.lawDoStep_k.n];omega) (.int .i64 (1+l7 (dsO x o):Nat))
  have ql:Vs.Past S1 w1 (λb=>S1 b∨m2.D b) qz:=qk.mark hw.dom q4 q5 jr λ_ h=>.inl h;have hh:∀b,(S1 b∨m2.D b)->b<qz.heap.size:=λb H=>AZ (hw.dom b (qh b H)) q4
  letI zm:=Vs.keepE (λb=>S1 b∨m2.D b) qz
  refine ji.rgN Y 1 (τ:=⟨[pP 2,pP 3,pP 6,(7,.v (.int .i64 (dsK x o))),pP 9,(12,.v (.int .i64 (1+l7 (dsO x o):Nat)))],[(.t 9 0,vW O J),(.t 8 0,vW tv sv),(.t 6 0,vW t0 s0),(.t 2 0,vW ta sa),(.t 3 0,.var (cS x) false)]⟩) ?_ λjy zi zp zk jj=>RgL.nil ?_
  .simp -dsimp only[go_sem,cO,cS]
   first|(simp[Vs.LeL,Vs.look,aA];done)|(and_intros<;>first|omega|rfl|(simp[Vs.LeL,Vs.look,aA];done))
  show Vs.At Tryz.prog Tryz.f4.ntmps (Vs.drO Tryz.prog 10 OS9) (lD 16 Cd.lawDoStep) _ jy zi
  exact jj.fin (aBh Tryz.mixed 10 OS9) Y (λC hC=>lwDsE C o (dsO x o) x (dsK x o) ho hD ta sa t0 s0 tv sv O J (λS' w' Z=>dN hh Z (ql.rcS qf)) (λS' w' Z=>dN hh Z (ql.rcS r6)) ja (aFH x qt o ho) (λS' w' Z=>dN hh Z (hom14.rd.mono (λb H=>.inr H) λ_ _=>rfl))) (λi σ h=>h) (λC a w hl hg=>⟨.inl rfl,aLQ hl hM Cd.lawDoStep_k.r hg⟩)
 show Vs.At Tryz.prog Tryz.f4.ntmps (Vs.drO Tryz.prog 10 OS9) (.seq _ (lD 9 Cd.lawDoStep)) _ a4 w4
 refine At.seq (At.rgs Tryz.mixed (n0:=10) (OS:=OS9) rfl (by decide) λL hL=>?_);simp only[OS9,Am,Ak,AR] at hL;have jl:=j2.drew;have h5:=aGh x;simp only[cS] at h5
 have jp:∀(r9:List (Vs.Name×Blk)) (s9:List (Nat×AV)) (post:List aI) (a5:Act) (w5:World) (S5:Nat->Prop),Vs.Past S4 {w4 with drawn:=w4.drawn+1} S5 w5->(∀p,p∈r9->gZ p.2∧p.2.fz=false)->(∀p,p∈s9->p.2=Vs.look (s9++[(37,.agg [.v (slW tv),.v (slW sv)]),(39,.agg (cS x)),pP 2,pP 3,pP 6,(7,.v (.int .i64 (dsK x o))),pP 8]) p.1∧flat p.2=true)->(∀t,t≠9->Vs.look (s9++[(37,.agg [.v (slW tv),.v (slW sv)]),(39,.agg (cS x)),pP 2,pP 3,pP 6,(7,.v (.int .i64 (dsK x o))),pP 8]) t=Vs.look [(37,.agg [.v (slW tv),.v (slW sv)]),(39,.agg (cS x)),pP 2,pP 3,pP 6,(7,.v (.int .i64 (dsK x o))),pP 8] t)->Vs.Pt I3 C1 (⟨s9++[(37,.agg [.v (slW tv),.v (slW sv)]),(39,.agg (cS x)),pP 2,pP 3,pP 6,(7,.v (.int .i64 (dsK x o))),pP 8],r9++[(.t 8 0,vW tv sv),(.t 6 0,vW t0 s0),(.t 2 0,vW ta sa),(.t 3 0,.var (cS x) false)]⟩:St) a5 w5 S5->
   (∀I:Vs.Envs,∀O J:Sl,@vc I Tryz.prog (fun σ'=>LeL σ' ⟨[pP 2,pP 3,pP 6,(7,.v (.int .i64 (dsK x o))),pP 8,pP 9,(10,.v (.int .i64 (dsK x o)))],[(.t 9 0,vW O J),(.t 8 0,vW tv sv),(.t 6 0,vW t0 s0),(.t 2 0,vW ta sa),(.t 3 0,.var (cS x) false)]⟩) post ⟨(40,.tup [.agg [.v (slW O),.v (slW J)],.v (.int .i64 (dsK x o))])::(s9++[pP 2,pP 3,pP 6,(7,.v (.int .i64 (dsK x o))),pP 8]),r9++[(.t 8 0,vW tv sv),(.t 6 0,vW t0 s0),(.t 2 0,vW ta sa),(.t 3 0,.var (cS x) false)]⟩)->
   RgL Tryz.prog Tryz.f4.ntmps (⟨some 40,.call (.func F.iQ) ([37,39].map .tmp) [],none⟩::post) (Exit.then (Vs.At Tryz.prog Tryz.f4.ntmps (Vs.drO Tryz.prog 10 OS9) (lD 9 Cd.lawDoStep) (QL Tryz.f4 C1.w0 S)) (QL Tryz.f4 C1.w0 S)) a5 w5:=by
  intro r9 s9 post a5 w5 S5 p5 zr jm hq ha qr
  refine ha.rgcall Y (ts:=[37,39]) (ys:=[.agg [.v (slW tv),.v (slW sv)],.agg (cS x)]) (lT Cd.i_DoStep_k.o) rfl (λi hi=>by
    match i,hi with
    |0,_=>exact hq 37 (by decide)
    |1,_=>exact hq 39 (by decide)) (λi hi=>by match i,hi with|0,_=>rfl|1,_=>rfl) λus hu hr=>?_
  have qy:Vs.Past S4 w4 S5 w5:=⟨p5.sub,p5.old,p5.size⟩;have jd:=qi.past qe qy
  refine (aC9 x qt o ho ha.dom ha.env hu (λj hj=>by
    match j,hj with
    | 0,_ =>
      show RC S5 w5 _ (us.getD 0 undef)
      rw[iI (hr 0 (by simp))];exact jd.rd.mono (λb H=>qy.sub b (qe b H)) λ_ _=>rfl
    |1,_=>exact hr 1 (by simp))).mono ?_
  rintro e w6 ⟨O,J,rfl,h6,m2,hd,h3⟩;refine⟨_,rfl,?_⟩
  have j3:=(ha.grow h6 (D:=m2.D) (λb H=>⟨h3 b H,hd.lt b H⟩) (s9++[pP 2,pP 3,pP 6,(7,.v (.int .i64 (dsK x o))),pP 8]) (λp U=>by
    rcases Bg.1 U with U|U
    . exact⟨(jm p U).1,.inl (jm p U).2⟩
    . simp only[Am,Ak,AR] at U
      rcases U with rfl|rfl|rfl|rfl|rfl
      . exact⟨(hq 2 (by decide)).symm,.inl rfl⟩
      . exact⟨(hq 3 (by decide)).symm,.inl rfl⟩
      . exact⟨(hq 6 (by decide)).symm,.inl rfl⟩
      . exact⟨(hq 7 (by decide)).symm,.inl rfl⟩
      . exact⟨(hq 8 (by decide)).symm,.inl rfl⟩)).putR (d:=40) (by rw[Y,Cd.lawDoStep_k.n];omega) (r:=.tup [.agg [.v (slW O),.v (slW J)],.v (.int .i64 (dsK x o))]) (aMw _ _ _)
  rw[←Be post]
  exact j3.rg Y (pre:=post) (post:=[]) (τ:=⟨[pP 2,pP 3,pP 6,(7,.v (.int .i64 (dsK x o))),pP 8,pP 9,(10,.v (.int .i64 (dsK x o)))],[(.t 9 0,vW O J),(.t 8 0,vW tv sv),(.t 6 0,vW t0 s0),(.t 2 0,vW ta sa),(.t 3 0,.var (cS x) false)]⟩) (λp U=>by
      simp only[Am,Ak,AR] at U;rcases U with rfl|rfl|rfl|rfl|rfl<;>exact⟨rfl,rfl⟩) (qr _ O J) λa7 w7 S7 p7 qq=>RgL.nil (qs w6 S5 w5 O J m2 qy ha.dom h6 hd h3 ha.size a7 w7 S7 p7 qq)
 rcases hL with rfl|rfl|rfl|rfl|rfl|rfl|rfl|rfl|rfl|rfl|rfl|rfl|rfl|rfl|rfl|rfl|rfl|rfl|rfl|rfl|rfl|rfl|rfl|rfl|rfl|rfl|rfl|rfl|rfl|rfl|rfl|rfl|rfl|rfl|rfl|rfl|rfl|rfl|rfl|rfl|rfl|rfl|rfl|rfl|rfl|rfl|rfl|rfl|rfl|rfl|rfl|rfl|rfl|rfl|rfl|rfl|rfl|rfl|rfl|rfl|rfl|rfl|rfl|rfl|rfl|rfl|rfl|rfl|rfl
 all_goals first
  | (refine jl.rgM Y 3 (τ:=⟨[(37,.agg [.v (slW tv),.v (slW sv)]),(39,.agg (cS x)),pP 2,pP 3,pP 6,(7,.v (.int .i64 (dsK x o))),pP 8],[(.t 8 0,vW tv sv),(.t 6 0,vW t0 s0),(.t 2 0,vW ta sa),(.t 3 0,.var (cS x) false)]⟩) (λp U=>by
      simp only[Am,Ak,AR] at U;rcases U with rfl|rfl|rfl|rfl<;>exact⟨rfl,rfl⟩) ?_ λa5 w5 S5 p5 ha=>jp [] [] _ a5 w5 S5 p5 (λp U=>by cases U) (λp U=>by cases U) (λt _=>rfl) ha (λI O J=>?_)
     . simp -dsimp only[Bt,BI,Ar,AY,Bf,BA]
       simp -dsimp only[go_sem,cO,cS]
       repeat' first|(refine aB.flat h5 rfl ?_;simp -dsimp only[go_sem,cO,cS])|(refine aB.pure h5 ?_;simp -dsimp only[go_sem,cO,cS])|fail
       all_goals(simp[Vs.LeL,Vs.look,aA];done)
     . simp -dsimp only[Bt,BI,Ar,AY,Cj,Ce]
       simp only[vW,slW];simp -dsimp only[go_sem,cO,cS]
       first|(simp[Vs.LeL,Vs.look,aA];done)|(and_intros<;>first|omega|rfl|(simp[Vs.LeL,Vs.look,aA];done)))
  | (refine jl.rgM Y 4 (τ:=⟨[pP 9,(37,.agg [.v (slW tv),.v (slW sv)]),(39,.agg (cS x)),pP 2,pP 3,pP 6,(7,.v (.int .i64 (dsK x o))),pP 8],[(.t 9 0,.var [.v (.slice none 0 0),.v (.slice none 0 0)] false),(.t 8 0,vW tv sv),(.t 6 0,vW t0 s0),(.t 2 0,vW ta sa),(.t 3 0,.var (cS x) false)]⟩) (λp U=>by
      simp only[Am,Ak,AR] at U;rcases U with rfl|rfl|rfl|rfl|rfl<;>exact⟨rfl,rfl⟩) ?_ λa5 w5 S5 p5 ha=>jp [(.t 9 0,.var [.v (.slice none 0 0),.v (.slice none 0 0)] false)] [pP 9] _ a5 w5 S5 p5 (λp U=>by rw[Av.1 U];exact⟨rfl,rfl⟩) (λp U=>by rw[Av.1 U];exact⟨rfl,rfl⟩) (λt ht=>by simp[Vs.look,ht]) ha (λI O J=>?_)
     . simp -dsimp only[Bt,BI,Ar,AY,Bf,BA]
       simp -dsimp only[go_sem,cO,cS]
       repeat' first|(refine aB.flat h5 rfl ?_;simp -dsimp only[go_sem,cO,cS])|(refine aB.pure h5 ?_;simp -dsimp only[go_sem,cO,cS])|fail
       all_goals(simp[Vs.LeL,Vs.look,aA];done)
     . simp -dsimp only[Bt,BI,Ar,AY,Cj,Ce]
       simp only[vW,slW];simp -dsimp only[go_sem,cO,cS]
       first|(simp[Vs.LeL,Vs.look,aA];done)|(and_intros<;>first|omega|rfl|(simp[Vs.LeL,Vs.look,aA];done)))

end
end Go.Proofs.YtkgeiaideklmoaaGreat
