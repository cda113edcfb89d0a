/- The cards of a specification lie in memory of their own. -/
import Derived.Test.YtkgeiaideklmoaaGreatZwMc
import Derived.Test.YtkgeiaideklmoaaGreatZwMa
import Derived.Test.YtkgeiaideklmoaaGreatZwMd
import Derived.Test.YtkgeiaideklmoaaGreatZwVg
import Derived.Test.YtkgeiaideklmoaaGreatVuN
set_option linter.all false
set_option maxHeartbeats 8000000
namespace Go.Proofs.YtkgeiaideklmoaaGreat
open Go.Vs
variable [Vs.Envs]
attribute [local irreducible] Vs.Fn pun cmT flt dH zR bK aO bL bM l03 chB rk cd3 chI stp aP
theorem aKe {w:World}{l:List (List Int)}{v:Value}{m:Vs.Mem} (I:Vs.Dk w (l.map (E cI)) v m):∃lv:List Slc,lv.map Prod.snd=l∧m.ss=lv.map slV:=by
 have H:l.length=m.ss.length:=by simpa using I.rows.len
 have F:∀s,s∈m.ss->∃b n c,s=.slice b n c:=λs F=>by
  obtain⟨i,hi,rfl⟩:=Cb.1 F;have:=(I.rows.row i hi).loc 1 _ false rfl;obtain⟨_,b,c,e,_⟩:=this;exact⟨_,_,_,by simpa[hi] using e⟩
 generalize m.ss=ss at H F;clear I
 induction l generalizing ss with
 |nil=>exact⟨[],rfl,by simpa using H.symm⟩
 | cons x r ih =>
  cases ss with
  |nil=>simp at H
  | cons s t =>
   obtain⟨b,n,c,rfl⟩:=F s Dp;obtain⟨lv,J,L⟩:=ih t (by simpa using H) λs h=>F s (C9 _ h);exact⟨((b,n,c),x)::lv,by simp[J],by simp[L,slV]⟩
theorem aCP (q:Slc->Bool) {S:Nat->Prop}{w:World}{lv:List Slc}{xs:Nat->Option Nat}{cs:Nat->Nat} (h:mD S w 1 (lv.map λx=>E cI x.2) (lv.map slV) xs cs) :
  ∀n,n<=lv.length->∃H J,mD S w 1 ((dH q (lv.take n)).map λx=>E cI x.2) ((dH q (lv.take n)).map slV) H J∧∀i b,i<(dH q (lv.take n)).length->H i=some b->∃j,j<n∧xs j=some b
 | 0, _=>⟨λ_=>none,λ_=>0,by
     have e:dH q (lv.take 0)=[]:=by simp[dH]
     rw[e];exact⟨⟨rfl,by simp,by simp⟩,by simp⟩⟩
 | n+1,hn=>by
  obtain⟨H,J,L,h2⟩:=aCP q h n (by omega);rw[zN (show n<lv.length by omega)];cases hq:q lv[n]
  .simp only[AR,Bd,Bu,BD,BX];have U:=h.row n (by rw[Bg];omega);have Y:(lv.map λx=>E cI x.2).getD n []=E cI lv[n].2:=by simp[show n<lv.length by omega]
   have Z:(lv.map slV).getD n undef=slV lv[n]:=by simp[show n<lv.length by omega]
   rw[Y,Z] at U
   have h3:=L.snoc U (λi b hi I e=>by
     obtain⟨j,O,F⟩:=h2 i b (by simpa using hi) I;have:=h.dif j n b (by simp;omega) (by simp;omega) F e;omega)
   refine⟨_,_,h3,λi b hi I=>?_⟩;simp only[Bg] at I;simp only[AQ,Cf] at hi;split at I
   .exact⟨n,by omega,I⟩
   .obtain⟨j,O,F⟩:=h2 i b (by omega) I;exact⟨j,by omega,F⟩
  .simp only[Bj,Be]
   exact ⟨H,J,L,λi b hi I=>by
     obtain⟨j,O,F⟩:=h2 i b hi I;exact⟨j,by omega,F⟩⟩
theorem aDT (l:List Slc) (n:Nat):(E cV l++zR n).take l.length=E cV l:=by
 rw[List.take_append_of_le_length (by rw[aH];exact Ar _)];exact Aj (by rw[aH];exact Ar _)
theorem aIr (l:List Slc) (n:Nat):∀r,r∈E cV l++zR n->fJ r=true:=λr F=>by
 rcases Bf.1 F with h|h
 .obtain⟨x,_,rfl⟩:=Bq.1 h;rfl
 .unfold zR at h;rw[List.eq_of_mem_replicate h];rfl
theorem aGa (q:List Int->Bool) (lv:List Slc):(dH (qV q) lv).map Prod.snd=flt q (lv.map Prod.snd):=by
 unfold dH flt;rw[List.filter_map];rfl
theorem jZ {f:FuncId}{fn:Func}{ac:aD} (h:cZ Tryz.prog f fn ac):iO Tryz.prog f:=cZ.has h
attribute [local go_sem] Bh Bz cC Af Ag Al Aq Ae Ai Ac Ak Ab Ah Am in
theorem aBi (l:List (List Int)) (fr to:Int) (s:ByteArray) (hk:aZ l) (hz:s.size<=1048576) (h0:iM fr to s l=0) {S:Nat->Prop}{w:World}{vs:Array Value} (hS:∀b,S b->b<w.heap.size) (he:Env S w) (qu:vs.size=4) (hs:∀j,j<4->RC S w (([.sl 1 (E cC l),.agg (cFd fr to),.v (.string s),.v (.string s)]:List AV).getD j .junk) (vs.getD j undef)):Calls Tryz.prog F.dW vs w (aBd w ((flt (dI fr to s) l).map (E cI))):=by
 have CC:=aGp fr to [l] ⟨by simp,λd hd=>by simp at hd;subst hd;exact hk⟩ [s,s] (by simp) (λt ht=>by simp at ht;subst ht;exact hz);rw[show yJ fr to [s,s] [l]=iM fr to s l from rfl,h0] at CC;obtain⟨hd,hf,qs,qy,qx⟩:=aEJ h0;have ho:=dF hd hf
 have qr:∀x,x∈l->s.size<=to.toNat-fr.toNat:=λx hx=>by
  have qv:((s.size:Int))=W (to-fr):=by simpa using qs
  obtain⟨f0,f1,f2,f3⟩:=ho x hx;rw[show W (to-fr)=to-fr from aR (by omega) (by omega)] at qv;omega
 obtain⟨h1,h2,_⟩:=Cd.i_SelectBetween_k.o;obtain⟨qw,H,hc⟩:=AY.1 h2;have hz:(Tryz.f154.body.map (zB Tryz.f154.ntmps (aW Tryz.prog)))=some true:=by kernel_rfl
 rw[H] at hz;have qk:=bB Tryz.mixed;refine Vs.Pt.calls (dr:=aW Tryz.prog) (ac:=Cd.dW) h1 H hc (by simpa using hz) (args:=[.sl 1 (E cC l),.agg (cFd fr to),.v (.string s),.v (.string s)]) (by rw[Cd.i_SelectBetween_k.n];exact Bc rfl) hS he qu hs λC1 a L ha qi hp=>?_;unfold Cd.dW;refine hp.goT qk L 2 _ (τ:=⟨[(0,.sl 1 (E cC l)),(5,.ptr (.t 5 0) 0 0),(6,.ptr (.t 6 0) 0 0),(7,.ptr (.t 7 0) 0 0)],[(.t 5 0,.var (cFd fr to) false),(.t 6 0,.var [.v (.string s)] false),(.t 7 0,.var [.v (.string s)] false)]⟩) (λC hC=>?_) λa1 w1 S1 p1 qm=>?_
 .simp -dsimp only[go_sem,cFd]
  repeat' first|simp -dsimp only[go_sem,cFd]|apply Br.mk<;>intro h<;>try simp -dsimp only[h]|refine aB.c (by first|exact CC) ?_|refine aC ?_|fail
  all_goals first|exact⟨by simp[Vs.LeL,Vs.look,aA],trivial⟩|(simp[Vs.LeL,Vs.look,aA];done)
 refine At.seq (At.rg (qm.rgN L 1 (τ:=⟨(21,.sl 1 (E cC l))::[(5,.ptr (.t 5 0) 0 0),(6,.ptr (.t 6 0) 0 0),(7,.ptr (.t 7 0) 0 0)],[(.t 5 0,.var (cFd fr to) false),(.t 6 0,.var [.v (.string s)] false),(.t 7 0,.var [.v (.string s)] false)]⟩) ?_ λa2 w2 S2 p2 O=>O.rgc L (ts:=[21]) (ys:=[.sl 1 (E cC l)]) (jZ Cd.i_newDeck_k.o) rfl rfl λus qt hr=>?_))
 .simp -dsimp only[go_sem,cFd];simp[Vs.LeL,Vs.look,aA]
 have qo:RC S2 w2 (.sl 1 (E cC l)) (us.getD 0 undef):=hr 0 Dj
 obtain ⟨u0,rfl⟩:∃u0,us=#[u0]:=by
  obtain⟨ul⟩:=us
  match ul,qt with
  | [u0],_=>exact⟨u0,rfl⟩
 have qp:RC S2 w2 (.sl 1 (E cC l)) u0:=qo;refine(aAe l hk O.dom O.env qp).mono ?_;rintro e w3 ⟨v,rfl,hg,m,hd3,hn,c,ho3⟩;refine⟨v,rfl,?_⟩;have q0:w.heap.size<=w2.heap.size:=by rw[←ha];exact O.size
 have qn:=(O.grow hg (D:=m.D) (λb H=>⟨hn b H,hd3.lt b H⟩) [(5,.ptr (.t 5 0) 0 0),(6,.ptr (.t 6 0) 0 0),(7,.ptr (.t 7 0) 0 0)] (λp hp=>by
     simp only[Ap,Ao,AX] at hp;rcases hp with rfl|rfl|rfl<;>exact⟨rfl,.inl rfl⟩)).put (d:=22) (by rw[L,Cd.i_SelectBetween_k.n];omega) v
 obtain⟨lv,J,Y⟩:=aKe hd3;have qc:(m.ss.map λs=>[AV.v s])=E cV lv:=by rw[Y,Cc];rfl
 have qb:lv.length=l.length:=by rw[←J,Bg]
 rw[qc] at ho3
 have h5:=qn.adopt (n:=.t 22 0) rfl ho3 (λb H=>⟨by rw[ha];have:=hn b (.inl H);omega,.inr (.inl H),λh=>by rw[qi] at h;have:=hS b h;have:=hn b (.inl H);omega⟩) (t:=22) rfl (λp hp=>by
     simp only[Ap,Ao,AX] at hp;rcases hp with rfl|rfl|rfl|rfl<;>rfl)
 rw[aH] at h5
 have hv:∀x,x∈lv->∀(S':Nat->Prop) (w':World),@Vs.Env (Vs.keepE (λb=>(S2 b∨m.D b)∧m.x0≠some b) w3) S' w'->RC S' w' (.sl 1 (E cI x.2)) (slV x):=λx hx S' w' hw=>by
  obtain⟨i,hi,rfl⟩:=Cb.1 hx;have h4:i<m.ss.length:=by rw[Y,Bg];exact hi
  have qe:=(hd3.rows.row i h4).rc;have e1:(l.map (E cI)).getD i []=E cI lv[i].2:=by rw[←J];simp[hi]
  have e2:m.ss.getD i undef=slV lv[i]:=by rw[Y];simp[hi]
  rw[e1,e2] at qe;refine bO (λb H=>h5.dom b H) hw (qe.mono (λb H=>⟨.inr (.inr ⟨i,h4,H⟩),λe=>(hd3.rows.row i h4).no H e⟩) λ_ _=>rfl)
 have qg:∀(I':Vs.Envs),I'=Vs.keepE (λb=>(S2 b∨m.D b)∧m.x0≠some b) w3->@Vs.Fn I' Tryz.prog F.kV [.arr 1 (E cV lv) false] [.loc (.b 0) 0 lv.length,.fn F.dG [.ro (cFd fr to),.ro [.v (.string s)],.ro [.v (.string s)]]] (.loc (.b 0) 0 (dH (qV (dI fr to s)) lv).length) [some (.arr 1 (E cV (dH (qV (dI fr to s)) lv)++zR (lv.length-(dH (qV (dI fr to s)) lv).length)) false)]:=λI' qh=>by
  subst qh
  letI I':=Vs.keepE (λb=>(S2 b∨m.D b)∧m.x0≠some b) w3
  refine delV (qV (dI fr to s)) F.dG [.ro (cFd fr to),.ro [.v (.string s)],.ro [.v (.string s)]] rfl lv (by rw[qb];exact hk.1) λx hx=>?_;have qf:x.2∈l:=by rw[←J];exact Bq.2 ⟨x,hx,rfl⟩
  refine Vs.Fn.knownR (sel1 x.2 fr to s (ho _ qf) (qr _ qf)) rfl λj hj=>?_
  match j,hj with
  | 0,_ =>
   refine .inr ⟨rfl,λS' w' u hw hu=>?_⟩;cases hu with
   | agg _ us hl2 hr2 =>
    refine .agg _ us hl2 λj hj=>?_;obtain rfl:j=0:=by simpa[cC] using hj
    have h3:RC S' w' (.v (.slice x.1.1 x.1.2.1 x.1.2.2)) (us.getD 0 undef):=hr2 0 (by simp[cV]);rw[bE (ρ:=λ_=>none) (κ:=λ_=>0) (h:=λ_=>none) (.clo h3)];exact hv x hx S' w' hw
  |1,_=>exact .inl rfl
  |2,_=>exact .inl rfl
  |3,_=>exact .inl rfl
 have hD:=qg _ rfl;have hq:=aDT (dH (qV (dI fr to s)) lv) (lv.length-(dH (qV (dI fr to s)) lv).length);have qz:(dH (qV (dI fr to s)) lv).length<=lv.length:=aGb ..
 have hy:=aIr (dH (qV (dI fr to s)) lv) (lv.length-(dH (qV (dI fr to s)) lv).length);generalize hZ:zR (lv.length-(dH (qV (dI fr to s)) lv).length)=Z at hD hq hy
 letI I4:=Vs.keepE (λb=>(S2 b∨m.D b)∧m.x0≠some b) w3
 refine h5.rgN L 4 (τ:=⟨[(8,.loc (.t 22 0) 0 (dH (qV (dI fr to s)) lv).length),(9,.v (.int .i64 0))],[(.t 22 0,.arr 1 (E cV (dH (qV (dI fr to s)) lv)++Z) false)]⟩) (hτ:=(fvC ⟨hy,rfl⟩ fvN)) ?_ λa5 w5 S5 p5 h6=>RgL.nil ?_
 .simp -dsimp only[go_sem,cFd,BF,BG,l8,sF,lU,Aw,Be,Au,Ap,Ao,AX,BH,Vs.Name.t.injEq];refine⟨rfl,aB.borL hD rfl ?_⟩;simp -dsimp only[go_sem,AJ,Cn,aH,AQ,cFd]
  first|(simp[Vs.LeL,Vs.look,aA];done)
 obtain ⟨qj,u,x,qd,U,h7⟩:=h6.resRow (fn:=Tryz.f154) (n:=.t 22 0) rfl hy (c:=.int .i64 0) (len:=(dH (qV (dI fr to s)) lv).length) (by
   show dQ Tryz.prog _ _ [_,_]
   simp[dQ,qX,Vs.look,dU])
 rw[hq] at U;have qq:(lv.map λx=>E cI x.2)=l.map (E cI):=by rw[←J,Cc];rfl
 obtain⟨hh,h8,hl,hm⟩:=aCP (qV (dI fr to s)) (S:=λ_=>False) (w:=w3) (lv:=lv) (xs:=m.xs) (cs:=m.cs) (by rw[qq,←Y];exact hd3.rows.mono (λ_ _ _ _ h=>h) λ_ _ _ _=>rfl) lv.length (Ar _);rw[Bv] at hl hm
 have hin:∀i b,i<(dH (qV (dI fr to s)) lv).length->hh i=some b->(m.D b∧m.x0≠some b):=λi b hi H=>by
  obtain⟨j,hj,qa⟩:=hm i b hi H;have h9:j<m.ss.length:=by rw[Y,Bg];exact hj
  exact⟨.inr ⟨j,h9,qa⟩,λe=>(hd3.rows.row j h9).no qa e⟩
 have I:∀i b,i<(dH (qV (dI fr to s)) lv).length->hh i=some b->S5 b∧w5.heap[b]? = w3.heap[b]?:=λi b hi H=>by
  obtain⟨g1,g2⟩:=hin i b hi H;exact⟨p5.sub b ⟨.inr g1,g2⟩,p5.old b ⟨.inr g1,g2⟩⟩
 have ql:((dH (qV (dI fr to s)) lv).map λx=>E cI x.2)=(flt (dI fr to s) l).map (E cI):=by
  rw[←J,←aGa,Cc];rfl
 refine At.ret ⟨.inl rfl,qj,_,qd,u,rfl,ha ▸ h6.out,⟨x,(dH (qV (dI fr to s)) lv).map slV,hh,h8⟩,⟨?_,?_,λb H=>?_⟩,λb H=>?_⟩
 .have e:(((dH (qV (dI fr to s)) lv).map slV).map λs=>[AV.v s])=E cV (dH (qV (dI fr to s)) lv):=by rw[Cc];rfl
  show RC _ w5 (.sl 1 (((dH (qV (dI fr to s)) lv).map slV).map λs=>[AV.v s])) u
  rw[e];exact U
 .show mD _ w5 1 ((flt (dI fr to s) l).map (E cI)) ((dH (qV (dI fr to s)) lv).map slV) hh h8
  rw[←ql];exact hl.mono (λi b hi H e=>(h7 b e).2.2 (I i b (by simpa using hi) H).1) λi b hi H=>(I i b (by simpa using hi) H).2
 .rcases H with H|⟨i,hi,H⟩
  .exact(h7 b H).2.1
  .exact h6.dom b (I i b (by simpa using hi) H).1
 .rcases H with H|⟨i,hi,H⟩
  .rw[←ha];exact(h7 b H).1
  .have:=hn b (hin i b (by simpa using hi) H).1;omega
end Go.Proofs.YtkgeiaideklmoaaGreat
