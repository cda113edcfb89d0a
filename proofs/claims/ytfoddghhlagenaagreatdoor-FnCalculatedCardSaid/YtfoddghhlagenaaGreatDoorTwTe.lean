/- Decks and lists of fields that are drawn. -/
import Derived.Test.YtfoddghhlagenaaGreatDoorVsD
import Derived.Test.YtfoddghhlagenaaGreatDoorTwTd
import Derived.Test.YtfoddghhlagenaaGreatDoorTwBs
import Derived.Test.YtfoddghhlagenaaGreatDoorTwY
set_option linter.all false
set_option maxHeartbeats 8000000
namespace Go.Proofs.YtfoddghhlagenaaGreatDoor
open Go.Vs
variable [Vs.Tab 0 Vs.powP]
attribute [local irreducible] Vs.Fn nxV nxS pkV pkS ptN dtF kQ hoF hoR
def itF {α:Type} (g:Sr->α×Sr):Nat->Sr->List α->List α×Sr
 |0,x,o=>(o,x)
 |k+1,x,o=>itF g k (g x).2 (o++[(g x).1])
theorem aBt {α:Type}{P:α->Prop}{g:Sr->α×Sr}{b B:Nat} (hg:∀y:Sr,y.p<=B->P (g y).1∧(g y).2.p<=y.p+b):∀(k:Nat) (x:Sr) (o:List α),x.p+b*k<=B->(∀c,c∈o->P c)->(itF g k x o).1.length=o.length+k∧(itF g k x o).2.p<=x.p+b*k∧∀c,c∈(itF g k x o).1->P c
 |0,x,o,_,h=>⟨rfl,by simp[itF],h⟩
 | k+1,x,o,hx,h=>by
  rw[Nat.mul_succ] at hx⊢
  obtain⟨h1,h2⟩:=hg x (by omega)
  obtain ⟨g1,g2,g3⟩:=aBt hg k (g x).2 (o++[(g x).1]) (by omega) (λc hc=>by
    rcases List.mem_append.1 hc with hc|hc
    . exact h c hc
    . rw[List.mem_singleton.1 hc];exact h1)
  rw[itF]
  refine⟨by rw[g1,List.length_append];simp only[List.length_singleton];omega,by omega,g3⟩
theorem aC1 (l:List Int) (hl:byt l):∃g:Sr->List Int×Sr,∀y:Sr,y.p<=3000->((g y).1.length=14∧(g y).2.p<=y.p+10)∧Vs.Fn Tryz.prog F.fB [sB l y] [.ptr (.b 0) 0 0] (.agg (cC (g y).1)) [some (sB l (g y).2)]:=
 Classical.axiomOfChoice (r:=λ(y:Sr) (cz:List Int×Sr)=>y.p<=3000->(cz.1.length=14∧cz.2.p<=y.p+10)∧Vs.Fn Tryz.prog F.fB [sB l y] [.ptr (.b 0) 0 0] (.agg (cC cz.1)) [some (sB l cz.2)]) λy=>by
  by_cases h:y.p<=3000
  .obtain⟨c,z,h1,h2,h3⟩:=fV l y hl h
   exact⟨(c,z),λ_=>⟨⟨h1,h2⟩,h3⟩⟩
  .exact⟨([],y),λh'=>absurd h' h⟩
attribute [local go_sem] Int.reduceBEq Int.reduceBNe aJ List.replicate_succ List.replicate_zero List.flatten_cons List.flatten_nil List.cons_append List.nil_append List.set_cons_zero List.set_cons_succ List.length_cons List.length_nil List.length_set List.mem_singleton List.mem_cons List.not_mem_nil or_false false_or Vs.Name.t.injEq List.getD_cons_zero List.getD_cons_succ bW bX eF List.append_nil List.flatMap_cons List.flatMap_nil Int.reduceAdd Int.reduceSub in
theorem vP (l:List Int) (x:Sr) (hl:byt l) (hp:x.p<=1000):∃d z,jK d∧z.p<=x.p+710∧Vs.Fn Tryz.prog F.dL [sB l x] [.ptr (.b 0) 0 0] (.sl 1 (E cC d)) [some (sB l z)]:=by
 have P1:=one l x hl 12 (by omega)
 have q1:=aR l x 12
 obtain⟨b1,hb1⟩:∃b,(pkV l x 12==0)=b:=⟨_,rfl⟩
 rw[hb1] at P1
 generalize pkS l x 12=y1 at *
 cases b1
 .have P2:=pick l y1 hl 5 (by omega)
  have h2:=bC hl y1 (n:=5) (by omega)
  have q2:=aR l y1 5
  generalize pkV l y1 5=v2 at *
  generalize pkS l y1 5=y2 at *
  obtain⟨k0,hk0⟩:∃k:Nat,v2=k:=⟨v2.toNat,by omega⟩
  subst hk0
  obtain⟨g,hg⟩:=aC1 l hl
  have hmul:10*k0<=50:=by omega
  obtain⟨r1,r2,r3⟩:=aBt (P:=λc:List Int=>c.length=14) (λy hy=>(hg y hy).1) k0 y2 [] (by omega) (λc hc=>by cases hc)
  simp only[List.length_nil,Nat.zero_add] at r1
  generalize hR:itF g k0 y2 []=R at *
  refine⟨R.1,R.2,⟨by omega,λc hc=>by rw[r3 c hc];omega⟩,by omega,?_⟩
  refine fn1 Cd.s_l14DrawDeck_k [.b 0] [sB l R.2] λX=>?_
  unfold Cd.dL
  repeat' first|simp -dsimp only[go_sem,cC,sB]|apply Br.mk<;>intro h<;>try simp -dsimp only[h]|refine aB.bor (by first|exact P1|exact P2) rfl ?_|refine aC ?_|refine aC9 ?_|fail
  refine bA.at dM (X:={zz:Nat×Sr×List (List Int) // (zz.2.1.p+10*zz.1<=2000)∧(zz.1+zz.2.2.length=k0)∧itF g zz.1 zz.2.1 zz.2.2=R}) (λzz=>[(3,.loc (.t 3 0) 0 zz.1.2.2.length),(4,.v (.int .i64 (zz.1.1:Nat)))]) (λzz=>[(.b 0,sB l zz.1.2.1),(.t 3 0,.arr 1 (E cC zz.1.2.2) false)]) (λzz=>zz.1.1) ⟨(k0,y2,[]),by dsimp only;omega,by dsimp only;simp only[List.length_nil];omega,hR⟩ ?_ ?_
  .simp[Vs.LeL,Vs.look,Vs.aA,Vs.bL,Vs.aO,Vs.hset,Vs.aP,Vs.E,sB]
  .rintro⟨⟨k,y,o⟩,hk1,hk2,hr⟩
   dsimp only at hk1 hk2 hr
   simp -dsimp only[go_sem,cC,sB]
   refine Br.mk (λhc=>?_) λhc=>?_
   .obtain⟨k,rfl⟩:∃j,k=j+1:=⟨k-1,by simp at hc;omega⟩
    have w:=aCA (k:=k) (by omega)
    rw[Nat.mul_succ] at hk1
    rw[itF] at hr
    obtain⟨⟨hg1,hg2⟩,hf⟩:=hg y (by omega)
    generalize g y=H at *
    have hap:E cC o++[[.sl 1 (E cI H.1)]]=E cC (o++[H.1]):=by rw[bR];rfl
    repeat' first|simp -dsimp only[go_sem,w,hap,cC,sB]|apply Br.mk<;>intro h<;>try simp -dsimp only[h]|refine aB.bor (by first|exact hf) rfl ?_|refine aC ?_|refine aC9 ?_|fail
    all_goals first|omega|(refine⟨⟨(k,H.2,o++[H.1]),by dsimp only;omega,by dsimp only;rw[List.length_append];simp only[List.length_cons,List.length_nil];omega,hr⟩,?_,by simp only;omega⟩;simp[Vs.LeL,Vs.look,Vs.aA,Vs.bL,Vs.aO,Vs.hset,Vs.aP,Vs.E,sB,cC];done)
   .obtain rfl:k=0:=by simp at hc;omega
    rw[itF] at hr
    subst hr
    dsimp only at *
    have hlen:o.length=k0:=by omega
    have htk:(E cC o).take o.length=E cC o:=List.take_of_length_le (by rw[aJ];omega)
    simp -dsimp only[go_sem,htk,cC,sB]
    all_goals first|exact⟨⟨_,_,rfl,rfl⟩,λh=>h rfl⟩|exact⟨_,_,rfl,rfl⟩|(refine⟨?_,λh=>h rfl⟩;exact⟨_,_,rfl,rfl⟩)|(refine⟨⟨_,_,?_,rfl⟩,λh=>h rfl⟩;rw[htk])
 .obtain⟨d,z,hd,hz,BD⟩:=eO l y1 hl (by omega)
  refine⟨d,z,hd,by omega,?_⟩
  refine fn1 Cd.s_l14DrawDeck_k [.b 0] [sB l z] λX=>?_
  unfold Cd.dL
  repeat' first|simp -dsimp only[go_sem,cC,sB]|apply Br.mk<;>intro h<;>try simp -dsimp only[h]|refine aB.bor (by first|exact P1|exact BD) rfl ?_|refine aC ?_|refine aC9 ?_|fail
  all_goals first|omega|exact⟨_,_,rfl,rfl⟩
theorem aEp (l:List Int) (hl:byt l):∃g:Sr->((Int×Int)×(Int×Int))×Sr,∀y:Sr,y.p<=2800->(g y).2.p<=y.p+16∧Vs.Fn Tryz.prog F.lU [sB l y] [.ptr (.b 0) 0 0] (.tup [.agg [.v (.int .i64 (g y).1.1.1),.v (.int .i64 (g y).1.1.2)],.agg [.v (.int .i64 (g y).1.2.1),.v (.int .i64 (g y).1.2.2)]]) [some (sB l (g y).2)]:=
 Classical.axiomOfChoice (r:=λ(y:Sr) (cz:((Int×Int)×(Int×Int))×Sr)=>y.p<=2800->cz.2.p<=y.p+16∧Vs.Fn Tryz.prog F.lU [sB l y] [.ptr (.b 0) 0 0] (.tup [.agg [.v (.int .i64 cz.1.1.1),.v (.int .i64 cz.1.1.2)],.agg [.v (.int .i64 cz.1.2.1),.v (.int .i64 cz.1.2.2)]]) [some (sB l cz.2)]) λy=>by
  by_cases h:y.p<=2800
  .obtain⟨a0,a1,b0,b1,z,h2,h3⟩:=nG l y hl h
   exact⟨(((a0,a1),(b0,b1)),z),λ_=>⟨h2,h3⟩⟩
  .exact⟨(((0,0),(0,0)),y),λh'=>absurd h' h⟩
def aDU (l:List Int) (g:Sr->((Int×Int)×(Int×Int))×Sr) (y:Sr):(Int×Int)×Sr:=(if pkV l (g y).2 2==0 then(g y).1.2 else(g y).1.1,pkS l (g y).2 2)
attribute [local go_sem] Int.reduceBEq Int.reduceBNe cC aJ List.replicate_succ List.replicate_zero List.flatten_cons List.flatten_nil List.cons_append List.nil_append List.set_cons_zero List.set_cons_succ List.length_cons List.length_nil List.length_set List.mem_singleton List.mem_cons List.not_mem_nil or_false false_or Vs.Name.t.injEq List.getD_cons_zero List.getD_cons_succ bW bX eF List.append_nil List.flatMap_cons List.flatMap_nil Int.reduceAdd Int.reduceSub cFd in
theorem aCb (l:List Int) (x:Sr) (hl:byt l) (hp:x.p<=1500):∃fs z,fs.length<=10∧z.p<=x.p+70∧Vs.Fn Tryz.prog F.jL [sB l x] [.ptr (.b 0) 0 0] (.sl 2 (E cPf fs)) [some (sB l z)]:=by
 have P1:=pick l x hl 3 (by omega)
 have h1:=bC hl x (n:=3) (by omega)
 have q1:=aR l x 3
 generalize pkV l x 3=v1 at *
 generalize pkS l x 3=y1 at *
 obtain⟨k0,hk0⟩:∃k:Nat,v1=k:=⟨v1.toNat,by omega⟩
 subst hk0
 obtain⟨g,hg⟩:=aEp l hl
 obtain ⟨r1,r2,r3⟩:=aBt (P:=λc:Int×Int=>True) (g:=aDU l g) (b:=20) (B:=2700) (λy hy=>⟨trivial,by
   have h1:=(hg y (by omega)).1
   have h2:=aR l (g y).2 2
   unfold aDU
   dsimp only
   omega⟩) k0 y1 [] (by omega) (λc hc=>trivial)
 simp only[List.length_nil,Nat.zero_add] at r1
 generalize hR:itF (aDU l g) k0 y1 []=R at *
 refine⟨R.1,R.2,by omega,by omega,?_⟩
 refine fn1 Cd.s_l14List_k [.b 0] [sB l R.2] λX=>?_
 unfold Cd.jL
 repeat' first|simp -dsimp only[go_sem,sB,cPf]|apply Br.mk<;>intro h<;>try simp -dsimp only[h]|refine aB.bor (by first|exact P1) rfl ?_|refine aC ?_|refine aC9 ?_|fail
 refine bA.at dM (X:={zz:Nat×Sr×List (Int×Int) // (zz.2.1.p+20*zz.1<=2000)∧(zz.1+zz.2.2.length=k0)∧itF (aDU l g) zz.1 zz.2.1 zz.2.2=R}) (λzz=>[(3,.loc (.t 3 0) 0 zz.1.2.2.length),(4,.v (.int .i64 (zz.1.1:Nat)))]) (λzz=>[(.b 0,sB l zz.1.2.1),(.t 3 0,.arr 2 (E cPf zz.1.2.2) false)]) (λzz=>zz.1.1) ⟨(k0,y1,[]),by dsimp only;omega,by dsimp only;simp only[List.length_nil];omega,hR⟩ ?_ ?_
 .simp[Vs.LeL,Vs.look,Vs.aA,Vs.bL,Vs.aO,Vs.hset,Vs.aP,Vs.E,sB]
 .rintro⟨⟨k,y,o⟩,hk1,hk2,hr⟩
  dsimp only at hk1 hk2 hr
  simp -dsimp only[go_sem,sB,cPf]
  refine Br.mk (λhc=>?_) λhc=>?_
  .obtain⟨k,rfl⟩:∃j,k=j+1:=⟨k-1,by simp at hc;omega⟩
   have w:=aCA (k:=k) (by omega)
   rw[Nat.mul_succ] at hk1
   rw[itF] at hr
   obtain⟨hg2,hf⟩:=hg y (by omega)
   rw[show aDU l g y=(if pkV l (g y).2 2==0 then(g y).1.2 else(g y).1.1,pkS l (g y).2 2) from rfl] at hr
   have P2:=one l (g y).2 hl 2 (by omega)
   have q2:=aR l (g y).2 2
   generalize pkS l (g y).2 2=z2 at *
   obtain⟨bb,hbb⟩:∃b,(pkV l (g y).2 2==0)=b:=⟨_,rfl⟩
   rw[hbb] at P2
   dsimp only at hr
   rw[hbb] at hr
   obtain⟨⟨⟨fa,fb⟩,H2⟩,hH⟩:∃H,g y=H:=⟨_,rfl⟩
   rw[hH] at hf hg2 hr P2 q2
   dsimp only at hf hg2 hr P2 q2
   cases bb
   .rw[if_neg (by decide)] at hr
    have hap:E cPf o++[[.v (.int .i64 fa.1),.v (.int .i64 fa.2)]]=E cPf (o++[fa]):=by rw[bR];rfl
    repeat' first|simp -dsimp only[go_sem,w,hap,sB,cPf]|apply Br.mk<;>intro h<;>try simp -dsimp only[h]|refine aB.bor (by first|exact hf|exact P2) rfl ?_|refine aC ?_|refine aC9 ?_|fail
    all_goals first|omega|(refine⟨⟨(k,z2,o++[fa]),by dsimp only;omega,by dsimp only;rw[List.length_append];simp only[List.length_cons,List.length_nil];omega,hr⟩,?_,by simp only;omega⟩;simp[Vs.LeL,Vs.look,Vs.aA,Vs.bL,Vs.aO,Vs.hset,Vs.aP,Vs.E,sB,cPf,cFd];done)
   .rw[if_pos rfl] at hr
    have hap:E cPf o++[[.v (.int .i64 fb.1),.v (.int .i64 fb.2)]]=E cPf (o++[fb]):=by rw[bR];rfl
    repeat' first|simp -dsimp only[go_sem,w,hap,sB,cPf]|apply Br.mk<;>intro h<;>try simp -dsimp only[h]|refine aB.bor (by first|exact hf|exact P2) rfl ?_|refine aC ?_|refine aC9 ?_|fail
    all_goals first|omega|(refine⟨⟨(k,z2,o++[fb]),by dsimp only;omega,by dsimp only;rw[List.length_append];simp only[List.length_cons,List.length_nil];omega,hr⟩,?_,by simp only;omega⟩;simp[Vs.LeL,Vs.look,Vs.aA,Vs.bL,Vs.aO,Vs.hset,Vs.aP,Vs.E,sB,cPf,cFd];done)
  .obtain rfl:k=0:=by simp at hc;omega
   rw[itF] at hr
   subst hr
   dsimp only at *
   have hlen:o.length=k0:=by omega
   have htk:(E cPf o).take o.length=E cPf o:=List.take_of_length_le (by rw[aJ];omega)
   simp -dsimp only[go_sem,htk,sB,cPf]
   all_goals first|exact⟨⟨_,_,rfl,rfl⟩,λh=>h rfl⟩|exact⟨_,_,rfl,rfl⟩|(refine⟨?_,λh=>h rfl⟩;exact⟨_,_,rfl,rfl⟩)|(refine⟨⟨_,_,?_,rfl⟩,λh=>h rfl⟩;rw[htk])
end Go.Proofs.YtfoddghhlagenaaGreatDoor
