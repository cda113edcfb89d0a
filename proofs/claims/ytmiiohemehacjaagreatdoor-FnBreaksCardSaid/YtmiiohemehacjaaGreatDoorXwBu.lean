/- The law FnBreaks. -/
import Derived.Test.YtmiiohemehacjaaGreatDoorVsI
import Derived.Test.YtmiiohemehacjaaGreatDoorXwBl
import Derived.Test.YtmiiohemehacjaaGreatDoorXwBe
import Derived.Test.YtmiiohemehacjaaGreatDoorXwBf
set_option linter.all false
set_option maxHeartbeats 8000000
namespace Go.Proofs.YtmiiohemehacjaaGreatDoor
open Go.Vs
variable [Vs.Tab 1 Vs.powP]
attribute [local irreducible] Vs.Fn nxV nxS pkV pkS ptN crd dW dtF lH run wO stC iU bR alg caC fbE fbN lI
theorem f6big (l:List Int) (G:l.length<=9223372036854775807):Fz F.aA1 [.sl 1 (E cU l)] (.v (.bool (decide ((l.length:Int)>4096)))):=by
 have u:(E cU l).length=l.length:=aH _;refine fn0 Cd.l_f6big_k λX=>?_
 repeat' first|simp -dsimp only[go_sem,u,Int.reduceBEq,Int.reduceBNe,cC,cO,cS,cFd,aH,Ai,Ah,Al,Aq,Ad,Af,Ac,Ae,Aa,Ab,Ao,Ar,Ay,Az,Bo,Bq,Vs.Name.t.injEq,Ak,AB,Vs.Name.b.injEq,aW,aX,bG,AA,AO,AP,cFd,cO,cCt,A7,Bi,bne_self_eq_false,Dj,Bool.and_self,BP,Cb]|apply Br.mk<;>intro h<;>try simp -dsimp only[h]|refine aC ?_|refine aC9 ?_|fail
 all_goals first|omega|exact⟨_,_,rfl,rfl⟩
theorem aLQ {fr to:Int}{o:Off}{u:List Stp} (G:caC fr to o u=0) (I:(alg fr to o u).1.length=u.length):fbE fr to o u (alg fr to o u).1=0∧fbN fr to o u (alg fr to o u).1=-1:=by
 obtain⟨H,h2⟩:=aH1 G;have F:fbE fr to o u (alg fr to o u).1=0:=by unfold fbE;rw[AY H,AY I,h2];rfl
 exact⟨F,by unfold fbN;rw[AY F];exact aFX _ _⟩
attribute [local go_sem] Int.reduceBEq Int.reduceBNe cC cO cS cFd aH Ai Ah Al Aq Ad Af Ac Ae Aa Ab Ao Ar Ay Az Bo Bq Vs.Name.t.injEq Ak AB Vs.Name.b.injEq aW aX bG AA AO AP cFd cO cCt A7 Bi bne_self_eq_false Dj Bool.and_self BP Cb in
set_option maxRecDepth 20000 in
theorem law_FnBreaks (l:List Int) (hl:∀x,x∈l->0<=x∧x<=255) (h8:l.length<2 ^ 63):Fz F.l_FnBreaks [.sl 1 (E cU l)] (.v (.bool true)):=by
 have F6:=f6big l (by omega);cases hb:decide ((l.length:Int)>4096)
 rotate_left
 .rw[hb] at F6;refine fn0 Cd.l_FnBreaks_k λX=>?_
  repeat' first|simp -dsimp only[go_sem]|apply Br.mk<;>intro h<;>try simp -dsimp only[h]|refine aA.c (by first|exact F6) ?_|refine aC ?_|refine aC9 ?_|fail
  all_goals first|omega|exact⟨_,_,rfl,rfl⟩|(refine aU ?_;simp_all;done)
 rw[hb] at F6;have hm:byt l:=⟨by have:=CB hb;omega,hl⟩;have HB:aBO l:=λy hy=>iV l y hm hy;obtain⟨o,M,f0,f1,ho,h3,h6,D1⟩:=aNa l hm HB;obtain⟨p,gs,g0,g1,Z,hp,h4,h7,h9,D2⟩:=aM9 l hm HB;obtain⟨a,b,h0,h1,k0,k1,ha,ht,D3⟩:=aM8 l hm;have hr:∀x,x∈M->x.text.size<=1048576:=λx hx=>by have:=h3 x hx;omega
 have hz:∀x,x∈gs->x.text.size<=1048576:=λx hx=>by have:=h4 x hx;omega
 have U:=zZ f0 f1 o ho M hr (by omega);have V:=zW f0 f1 o ho M hr (by omega);have hj:=wU g0 g1 p hp gs hz (by omega) Z (by omega);have hk:=aCb g0 g1 p hp gs hz (by omega) Z (by omega);have hd:=aCe a b h0 h1 k0 k1 ha ht;have he:=aCa a b h0 h1 k0 k1 ha ht;have hv:=@aJi _ h0 h1 k0 k1 a b;generalize lI h0 h1 k0 k1 a b=SS at *
 obtain⟨s1,s2⟩:=SS;dsimp only at hv hd he;generalize fbE g0 g1 p gs Z=e2 at *
 generalize fbN g0 g1 p gs Z=e1 at *
 obtain⟨qs,H⟩:∃q,(s2==0)=q:=⟨_,rfl⟩;have hu:qs=true->s1=true:=λh=>hv (by rw[←H] at h;exact eq_of_beq h);have J:=λ(hx:(alg f0 f1 o M).1.length<=1048576)=>wU f0 f1 o ho M hr (by omega) (alg f0 f1 o M).1 hx;have hn:=@aLQ _ f0 f1 o M;unfold caL at U V;have h5:=aBh f0 f1 M o;by_cases hc:caC f0 f1 o M=0
 rotate_left
 .rw[AJ hc] at U V;have ec:(caC f0 f1 o M != 0)=true:=by simp[hc]
  cases qs
  .refine fn0 Cd.l_FnBreaks_k λX=>?_
   repeat' first|simp -dsimp only[go_sem,ec,H]|apply Br.mk<;>intro h<;>try simp -dsimp only[h]|refine aA.c (by first|exact F6|exact D1|exact U|exact V|exact D2|exact hj|exact hk|exact D3|exact hd|exact he) ?_|refine aC ?_|refine aC9 ?_|fail
   refine aO.at dM (X:={i:Nat // i=0}) (λO=>[(26,.v (.int .i64 (O.1:Nat)))]) (λO=>[]) (λO=>0) ⟨0,rfl⟩ ?_ ?_
   .simp[Vs.LeL,Vs.look,aB,aP,aJ,Vs.hset,aK,Vs.E]
   .rintro⟨i,rfl⟩;dsimp only
    repeat' first|simp -dsimp only[go_sem,ec,H]|apply Br.mk<;>intro h<;>try simp -dsimp only[h]|refine And.intro ?_ (λh=>absurd rfl h)|refine aC ?_|refine aC9 ?_|fail
    all_goals first|omega|exact⟨_,_,rfl,rfl⟩|exact⟨⟨_,_,rfl,rfl⟩,λh=>absurd rfl h⟩|(simp at h;done)
  .have hs:=hu rfl;subst hs;refine fn0 Cd.l_FnBreaks_k λX=>?_
   repeat' first|simp -dsimp only[go_sem,ec,H]|apply Br.mk<;>intro h<;>try simp -dsimp only[h]|refine aA.c (by first|exact F6|exact D1|exact U|exact V|exact D2|exact hj|exact hk|exact D3|exact hd|exact he) ?_|refine aC ?_|refine aC9 ?_|fail
   refine aO.at dM (X:={i:Nat // i=0}) (λO=>[(26,.v (.int .i64 (O.1:Nat)))]) (λO=>[]) (λO=>0) ⟨0,rfl⟩ ?_ ?_
   .simp[Vs.LeL,Vs.look,aB,aP,aJ,Vs.hset,aK,Vs.E]
   .rintro⟨i,rfl⟩;dsimp only
    repeat' first|simp -dsimp only[go_sem,ec,H]|apply Br.mk<;>intro h<;>try simp -dsimp only[h]|refine And.intro ?_ (λh=>absurd rfl h)|refine aC ?_|refine aC9 ?_|fail
    all_goals first|omega|exact⟨_,_,rfl,rfl⟩|exact⟨⟨_,_,rfl,rfl⟩,λh=>absurd rfl h⟩|(simp at h;done)
 rw[AY hc,hc] at U V;have J:=J (by omega);have hn:=hn hc;generalize(alg f0 f1 o M).1=L at *
 have I:(E cCt L).length=L.length:=aH _;cases qs
 .refine fn0 Cd.l_FnBreaks_k λX=>?_
  repeat' first|simp -dsimp only[go_sem,H,I]|apply Br.mk<;>intro h<;>try simp -dsimp only[h]|refine aA.c (by first|exact F6|exact D1|exact U|exact V|exact D2|exact hj|exact hk|exact D3|exact hd|exact he) ?_|refine aC ?_|refine aC9 ?_|fail
  refine aO.at dM (X:={i:Nat // i<=L.length}) (λO=>[(26,.v (.int .i64 (O.1:Nat)))]) (λO=>[]) (λO=>L.length-O.1) ⟨0,by omega⟩ ?_ ?_
  .simp[Vs.LeL,Vs.look,aB,aP,aJ,Vs.hset,aK,Vs.E]
  .rintro⟨i,hi⟩;dsimp only at hi⊢;simp -dsimp only[go_sem,H,I];refine Br.mk (λhc=>?_) λhc=>?_
   .have hg:i<L.length:=by have:=Cu hc;omega
    have gi:(E cCt L).getD i []=[.v (.int .i64 L[i].1),.v (.int .i64 L[i].2.1),.v (.int .i64 L[i].2.2)]:=aR hg;have hw:=aI hg (by omega)
    repeat' first|simp -dsimp only[go_sem,gi,hw,H,I]|apply Br.mk<;>intro h<;>try simp -dsimp only[h]|refine aC ?_|refine aC9 ?_|fail
    all_goals first|omega|(refine⟨⟨i+1,by omega⟩,?_,by simp only;omega⟩;simp[Vs.LeL,Vs.look,aB,aP,aJ,Vs.hset,aK];done)
   .have hq:i=L.length:=by have:=CB hc;omega
    subst hq;by_cases hf:L.length=M.length
    .obtain⟨v1,v2⟩:=hn hf;rw[v1,v2] at J;have Y:((L.length:Int) != (M.length:Int))=false:=by simp[hf]
     repeat' first|simp -dsimp only[go_sem,Y,H,I]|apply Br.mk<;>intro h<;>try simp -dsimp only[h]|refine aA.c (by first|exact J) ?_|refine And.intro ?_ (λh=>absurd rfl h)|refine aC ?_|refine aC9 ?_|fail
     all_goals first|omega|exact⟨_,_,rfl,rfl⟩|exact⟨⟨_,_,rfl,rfl⟩,λh=>absurd rfl h⟩
    .have Y:((L.length:Int) != (M.length:Int))=true:=by simp;omega
     repeat' first|simp -dsimp only[go_sem,Y,H,I]|apply Br.mk<;>intro h<;>try simp -dsimp only[h]|refine aA.c (by first|exact J) ?_|refine And.intro ?_ (λh=>absurd rfl h)|refine aC ?_|refine aC9 ?_|fail
     all_goals first|omega|exact⟨_,_,rfl,rfl⟩|exact⟨⟨_,_,rfl,rfl⟩,λh=>absurd rfl h⟩
 .have hs:=hu rfl;subst hs;refine fn0 Cd.l_FnBreaks_k λX=>?_
  repeat' first|simp -dsimp only[go_sem,H,I]|apply Br.mk<;>intro h<;>try simp -dsimp only[h]|refine aA.c (by first|exact F6|exact D1|exact U|exact V|exact D2|exact hj|exact hk|exact D3|exact hd|exact he) ?_|refine aC ?_|refine aC9 ?_|fail
  refine aO.at dM (X:={i:Nat // i<=L.length}) (λO=>[(26,.v (.int .i64 (O.1:Nat)))]) (λO=>[]) (λO=>L.length-O.1) ⟨0,by omega⟩ ?_ ?_
  .simp[Vs.LeL,Vs.look,aB,aP,aJ,Vs.hset,aK,Vs.E]
  .rintro⟨i,hi⟩;dsimp only at hi⊢;simp -dsimp only[go_sem,H,I];refine Br.mk (λhc=>?_) λhc=>?_
   .have hg:i<L.length:=by have:=Cu hc;omega
    have gi:(E cCt L).getD i []=[.v (.int .i64 L[i].1),.v (.int .i64 L[i].2.1),.v (.int .i64 L[i].2.2)]:=aR hg;have hw:=aI hg (by omega)
    repeat' first|simp -dsimp only[go_sem,gi,hw,H,I]|apply Br.mk<;>intro h<;>try simp -dsimp only[h]|refine aC ?_|refine aC9 ?_|fail
    all_goals first|omega|(refine⟨⟨i+1,by omega⟩,?_,by simp only;omega⟩;simp[Vs.LeL,Vs.look,aB,aP,aJ,Vs.hset,aK];done)
   .have hq:i=L.length:=by have:=CB hc;omega
    subst hq;by_cases hf:L.length=M.length
    .obtain⟨v1,v2⟩:=hn hf;rw[v1,v2] at J;have Y:((L.length:Int) != (M.length:Int))=false:=by simp[hf]
     repeat' first|simp -dsimp only[go_sem,Y,H,I]|apply Br.mk<;>intro h<;>try simp -dsimp only[h]|refine aA.c (by first|exact J) ?_|refine And.intro ?_ (λh=>absurd rfl h)|refine aC ?_|refine aC9 ?_|fail
     all_goals first|omega|exact⟨_,_,rfl,rfl⟩|exact⟨⟨_,_,rfl,rfl⟩,λh=>absurd rfl h⟩
    .have Y:((L.length:Int) != (M.length:Int))=true:=by simp;omega
     repeat' first|simp -dsimp only[go_sem,Y,H,I]|apply Br.mk<;>intro h<;>try simp -dsimp only[h]|refine aA.c (by first|exact J) ?_|refine And.intro ?_ (λh=>absurd rfl h)|refine aC ?_|refine aC9 ?_|fail
     all_goals first|omega|exact⟨_,_,rfl,rfl⟩|exact⟨⟨_,_,rfl,rfl⟩,λh=>absurd rfl h⟩
end Go.Proofs.YtmiiohemehacjaaGreatDoor
