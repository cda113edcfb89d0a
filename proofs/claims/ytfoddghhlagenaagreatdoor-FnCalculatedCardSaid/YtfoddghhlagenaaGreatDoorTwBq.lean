/- A deck in new memory, one card of which is spoilt. -/
import Derived.Test.YtfoddghhlagenaaGreatDoorTwBp
set_option linter.all false
set_option maxHeartbeats 8000000
namespace Go.Proofs.YtfoddghhlagenaaGreatDoor
open Go.Vs
section
variable [Vs.Envs]
attribute [local irreducible] Vs.Fn nxV nxS pkV pkS ptN dtF kQ hoF hoR
open Go.Vs.Q in
def CdV.l02DrawDeckN:aD:=s [mn 6] [0,1,2]<|.seq ((.region [o 9 (.bslice 1 0 [.v (.slice none 0 0)] []),m 7 9] [0,1,2,7] []))<|.seq (s [m 10 0,m 11 2,ad 12 11 1,o 13 (.call (.func F.aF) [10,12] [0]),m 8 13] [0,1,7,8]<|.block 0 (.loop (.seq (s [m 14 8,o 15 (.bin .gtr 14 (k 0))] [0,1,7,8,15]<|.cond 15 .skip
 (.exit 0))<|.seq (.block 1 ((.region [m 18 7,m 19 0,m 20 1,o 21 (.call (.func F.dC) [19,20] [0]),o 22 (.bslice 1 1 [.v (.slice none 0 0)] [(0,21)]),o 23 (.append 1 24 18 22),m 7 23] [0,1,7,8] [])))<|.region [m 16 8,o 17 (.bin .sub 16 (k 1)),m 8 17] [0,1,7,8] [])))<|s [m 24 7,m 6 24]
 [6]<|.ret
theorem CdV.l02DrawDeckN_k:CK 100 Tryz.f100 CdV.l02DrawDeckN 25 [.tmp 6]:=ck Tryz.func100
attribute [go_sem] CdV.l02DrawDeckN
structure aFP (w w':World) (S':Nat->Prop) (d:List (List Int)) (v:Value) (ss:List Value) (xs:Nat->Option Nat) (cs:Nat->Nat) (x0:Option Nat) (c0:Nat):Prop where
 root:Own S' w' x0 c0 1 (ss.map λs=>[AV.v s]) v
 rows:Vs.sI S' w' 1 (d.map (E cI)) ss xs cs
 new0:∀b,x0=some b->w.heap.size<=b∧b<w'.heap.size∧∀j,j<ss.length->xs j≠some b
 new:∀j b,j<ss.length->xs j=some b->w.heap.size<=b∧b<w'.heap.size
attribute [local go_sem] Int.reduceBEq Int.reduceBNe cC aJ List.replicate_succ List.replicate_zero List.flatten_cons List.flatten_nil List.cons_append List.nil_append List.set_cons_zero List.set_cons_succ List.length_cons List.length_nil List.length_set List.mem_singleton List.mem_cons List.not_mem_nil or_false false_or Vs.Name.t.injEq List.getD_cons_zero List.getD_cons_succ bW bX eF List.append_nil List.flatMap_cons List.flatMap_nil List.getElem?_cons_zero List.getElem?_cons_succ in
theorem wD (l:List Int) (x:Sr) (hl:byt l) (n:Nat) (h0:0<n) (hn:n<=20) (m:Nat) (hm:m<=7) (hp:x.p<=1600) {S:Nat->Prop}{w:World}{ρ0_:Vs.Name->Option Nat}{κ0_:Vs.Name->Nat}{vs:Array Value} (hok0:HOK S w ρ0_ κ0_ (Hn ([sB l x].map some))) (hvs:vs.size=3)
  (hargs:∀j,j<3->RV S w ρ0_ κ0_ (Hn ([sB l x].map some)) (([.ptr (.b 0) 0 0,.v (.int .i64 n),.v (.int .i64 m)]:List AV).getD j .junk) (vs.getD j undef)) :
  Calls Tryz.prog F.gZ vs w λe w'=>∃v S' ρ' κ',e=.returned v∧Post S w ρ0_ κ0_ [sB l x] S' w' ρ' κ' [some (sB l (ddF l n (pkV l x (m+1:Nat)).toNat (pkS l x (m+1:Nat)) []).2)]∧
   ∃ss xs cs x0 c0,aFP w w' S' (ddF l n (pkV l x (m+1:Nat)).toNat (pkS l x (m+1:Nat)) []).1 v ss xs cs x0 c0:=by
 have v:=bC hl x (n:=(m+1:Nat)) (by omega)
 have hw0:IntKind.i64.wrap ((m:Int)+1)=((m+1:Nat):Int):=by rw[aG (by omega) (by omega)];omega
 have P0:=pick l x hl (m+1:Nat) (by omega)
 have p0:=aR l x (m+1:Nat)
 obtain⟨k0,hk0⟩:∃k:Nat,pkV l x (m+1:Nat)=k:=⟨(pkV l x (m+1:Nat)).toNat,by omega⟩
 rw[hk0] at P0 v
 rw[hk0,Int.toNat_natCast]
 generalize pkS l x (m+1:Nat)=x1 at *
 have hm2:8*n*k0<=160*8:=by
  have:8*n*k0<=(8*20)*8:=Nat.mul_le_mul (by omega) (by omega)
  omega
 generalize hR:ddF l n k0 x1 []=R
 obtain⟨h1,h2,_⟩:=CdV.l02DrawDeckN_k.o
 obtain⟨body,hb,hc⟩:=Option.bind_eq_some_iff.1 h2
 have hz:(Tryz.f100.body.map (zB Tryz.f100.ntmps (bV Tryz.prog)))=some true:=by kernel_rfl
 rw[hb] at hz
 have hdr:=jH Tryz.mixed
 refine zK (dr:=bV Tryz.prog) (ac:=CdV.l02DrawDeckN) (hin:=[sB l x]) (args:=[.ptr (.b 0) 0 0,.v (.int .i64 n),.v (.int .i64 m)]) h1 hb hc (by simpa using hz) (by rw[CdV.l02DrawDeckN_k.n];exact Nat.le_of_ble_eq_true rfl) hok0 hvs hargs λa hok=>?_
 generalize hC0:(⟨Tryz.f100.ntmps,w,S,nD ρ0_ [sB l x],λj=>ρ0_ (.b j),λj=>κ0_ (.b j),λj=>[sB l x][j]?⟩:Ctx)=C0 at hok
 have hnt:C0.nt=Tryz.f100.ntmps:=by rw[←hC0]
 have hw0':C0.w0=w:=by rw[←hC0]
 unfold CdV.l02DrawDeckN
 refine At.step ⟨[(0,.ptr (.b 0) 0 0),(1,.v (.int .i64 n)),(2,.v (.int .i64 m))],[(.b 0,sB l x)]⟩ hdr hok hnt ?_ λa w1 S1 ρ1 κ1 hok=>?_
 .simp -dsimp only[go_sem,hw0,sB]
  try simp[Vs.LeL,Vs.look,Vs.aA]
 refine At.step ⟨[(7,.loc (.t 9 0) 0 0),(0,.ptr (.b 0) 0 0),(1,.v (.int .i64 n)),(2,.v (.int .i64 m))],[(.t 9 0,.arr 1 [] false),(.b 0,sB l x)]⟩ hdr hok hnt ?_ λa w2 S2 ρ2 κ2 hok=>?_
 .simp -dsimp only[go_sem,hw0,sB]
  try simp[Vs.LeL,Vs.look,Vs.aA,sB]
 refine At.seq (At.step ⟨[(0,.ptr (.b 0) 0 0),(1,.v (.int .i64 n)),(7,.loc (.t 9 0) 0 0),(8,.v (.int .i64 (k0:Int)))],[(.t 9 0,.arr 1 [] false),(.b 0,sB l x1)]⟩ hdr hok hnt ?_ λa w3 S3 ρ3 κ3 hok=>?_)
 .simp -dsimp only[go_sem,hw0,sB]
  refine And.intro rfl ?_
  refine aB.bor (by exact P0) rfl ?_
  simp -dsimp only[go_sem,hw0,sB]
  try simp[Vs.LeL,Vs.look,Vs.aA,sB]
 refine At.block ?_
 obtain⟨ρ3,κ3,hok⟩:=hok.oJ (n:=.t 9 0) (m:=.t 7 0) (by decide) (by rfl)
 let T:Nat->List Value->Sr->St:=λi ss y=>⟨[(0,.ptr (.b 0) 0 0),(1,.v (.int .i64 n)),(7,.loc (.t 7 0) 0 ss.length),(8,.v (.int .i64 (i:Int)))],[(.t 7 0,.arr 1 (ss.map (λs=>[AV.v s])) false),(.b 0,sB l y)]⟩
 let I:Nat->Act->World->Prop:=λi a w=>∃(ss:List Value) (o:List (List Int)) (y:Sr) (D:Nat->Prop) (C:Ctx) (S:Nat->Prop) (ρ:Vs.Name->Option Nat) (κ:Vs.Name->Nat),ddF l n i y o=R∧ss.length=o.length∧ss.length+i=k0∧y.p+8*n*i<=2900∧C.nt=C0.nt∧Later C0 C∧OK C (T i ss y).f a w S ρ κ∧(∀b,D b->C0.w0.heap.size<=b)∧Hid C D (.tup (o.map λr=>.sl 1 (E cI r))) (.tuple ss.toArray)∧∃xs cs,Vs.sI C.S0 C.w0 1 (o.map (E cI)) ss xs cs∧∀j b,j<ss.length->xs j=some b->D b
 refine At.loop I (λi a w hI=>?_) (n:=k0) ?_
 rotate_left
 .refine⟨[],[],x1,λ_=>False,C0.anew w3 S3 _ ρ3,S3,ρ3,κ3,hR,rfl,by simp,by omega,rfl,hok.later,?_,λb hb=>hb.elim,⟨.tup _ _ rfl (by simp),λb hb=>hb.elim,λb hb=>hb.elim⟩,λ_=>none,λ_=>0,⟨rfl,by simp,by simp⟩,by simp⟩
  exact hok.anew.le (by simp[T,Vs.oJ,Vs.LeL,Vs.look,Vs.aA,sB,Vs.rn,Vs.rnB,Vs.rnL,Vs.nmF])
 obtain⟨ss,o,y,D,C,S,ρ,κ,hdd,hso,hsk,hyp,hcn,hla,hok,hD,hh,xs,cs,how,hxD⟩:=hI
 have hcnt:C.nt=Tryz.f100.ntmps:=hcn.trans hnt
 refine At.seq (At.fw hdr hok hcnt (N:=fun σ'=>LeL σ' (T i ss y)∧0<i) (E:=λe σ'=>match e with|.exit j=>j=0∧LeL σ' (T i ss y)∧i=0|.ret=>False) ?_ (λa w hg=>?_) (λj a w hg=>?_) (λa w hg=>hg.no.elim))
 .simp only[T]
  simp -dsimp only[go_sem,hw0,sB]
  refine Br.mk (λhc=>?_) λhc=>?_
  .have hlt:0<i:=by have:=of_decide_eq_true hc;omega
   try simp -dsimp only[go_sem,hw0,sB]
   exact⟨by simp[Vs.LeL,Vs.look,Vs.aA,sB],hlt⟩
  .have hge:i=0:=by have:=of_decide_eq_false hc;omega
   try simp -dsimp only[go_sem,hw0,sB]
   exact⟨by simp[Vs.LeL,Vs.look,Vs.aA,sB],hge⟩
 rotate_left
 .obtain⟨σ',S',ρ',κ',⟨rfl,hle,rfl⟩,hok'⟩:=hg
  have hok:=hok'.le hle
  simp only[Exit.then,Exit.inBlock,if_true]
  refine At.step ⟨[(6,.loc (.t 7 0) 0 ss.length)],[(.t 7 0,.arr 1 (ss.map λs=>[AV.v s]) false),(.b 0,sB l y)]⟩ hdr hok hcnt ?_ λa w4 S4 ρ4 κ4 hok4=>?_
  .simp only[T]
   try simp -dsimp only[go_sem,hw0,sB]
   simp[Vs.LeL,Vs.look,Vs.aA,sB]
  refine At.ret ⟨.inl rfl,hok4.defers,?_⟩
  obtain ⟨x,v,hx,hxv,hrun⟩:=Vs.wH hok4 (fn:=Tryz.f100) (K:=λx=>x=.loc (.t 7 0) 0 ss.length) (by
    show Vs.tL Tryz.prog _ _ [_]
    simp[Vs.tL,Vs.aBl,Vs.look,Vs.tT])
  subst hx
  rw[ddF] at hdd
  subst hdd
  have hb4:=hok4.back hla
  have hown:=hok4.own (n:=.t 7 0) (rows:=ss.map λs=>[AV.v s]) (by rfl) (λr hr=>by
      obtain⟨y,_,rfl⟩:=List.mem_map.1 hr
      rfl) (by simpa using hxv)
  have hol:=how.mono (S':=S4) (w':=w4) (λj b hj hb=>(hh.same hok4).2.2.1 b (hxD j b hj hb)) λj b hj hb=>(hh.same hok4).1 b (hxD j b hj hb)
  refine⟨v,hrun,v,S4,ρ4,κ4,rfl,?_,ss,xs,cs,ρ4 (.t 7 0),κ4 (.t 7 0),hown,hol,λb hb=>⟨?_,hok4.hok.lt (n:=.t 7 0) (by rfl) hb,λj hj hx=>(hh.same hok4).2.2.2 b (hxD j b hj hx) (.t 7 0) (by rfl) hb⟩,λj b hj hb=>⟨?_,(hh.same hok4).2.1 b (hxD j b hj hb)⟩⟩
  .rw[←hC0] at hb4
   refine OK.post (hout:=[sB l y]) hb4 λn b hb=>?_
   obtain⟨rfl,rfl⟩:=yM hb
   exact⟨rfl,wU l y⟩
  .have hmine:=hb4.mine (.t 7 0) b (by rfl) hb
   have hmut:C0.Mut b->False:=λhm=>by
    rw[←hC0] at hm
    obtain⟨j,hj,hjx⟩:=hm
    have hj0:j=0:=by simpa using hj
    subst hj0
    have hk:=hb4.keep 0 (sB l y) rfl
    have e1:ρ4 (.b 0)=ρ0_ (.b 0):=by
     have:=hk.1
     rw[←hC0] at this
     exact this
    have:=hok4.hok.inj (.t 7 0) (.b 0) b (by rfl) (by rfl) hb (e1.trans hjx)
    cases this
   rcases hmine with h|h
   .exact hw0' ▸ h
   .exact(hmut h).elim
  .exact hw0' ▸ hD b (hxD j b hj hb)
 obtain⟨σ',S',ρ',κ',⟨hle,hlt⟩,hok'⟩:=hg
 have hok:=hok'.le hle
 obtain⟨i,rfl⟩:∃j,i=j+1:=⟨i-1,by omega⟩
 have hw:=aCA (k:=i) (by omega)
 rw[Nat.mul_succ] at hyp
 have LD:=zZ l y hl n h0 hn (by omega)
 have hq:=(nI l n y []).2
 have hcl:=(nI l n y []).1
 simp only[List.length_nil,Nat.zero_add] at hcl
 rw[ddF] at hdd
 generalize hoF l n y []=H at *
 obtain⟨c,y2⟩:=H
 dsimp only at hq hcl hdd LD
 show At Tryz.prog _ _ (.seq _ _) _ a w
 refine At.seq (At.block (At.halt (pre:=[⟨some 18,.mv (.tmp 7),none⟩,⟨some 19,.mv (.tmp 0),none⟩,⟨some 20,.mv (.tmp 1),none⟩,⟨some 21,.call (.func F.dC) [(.tmp 19),(.tmp 20)] [0],none⟩]) (post:=[⟨some 22,.bslice 1 1 [.v (.slice none 0 0)] [(0,(.tmp 21))],none⟩,⟨some 23,.append 1 24 (.tmp 18) (.tmp 22),none⟩,⟨some 7,.mv (.tmp 23),none⟩]) hok hcnt ?_))
 simp only[T]
 simp -dsimp only[go_sem,hw0,sB]
 refine And.intro rfl ?_
 refine aB.bor (by exact LD) rfl ?_
 simp -dsimp only[go_sem,hw0,sB]
 intro a w S2 ρ2 κ2 hok2
 have hrl:(E cI c).length=n:=by rw[aJ,hcl]
 let σA:St:=⟨[(21,.agg [.loc (.t 21 1) 0 (E cI c).length]),(18,.loc (.t 7 0) 0 ss.length),(0,.ptr (.b 0) 0 0),(1,.v (.int .i64 n)),(7,.loc (.t 7 0) 0 ss.length),(8,.v (.int .i64 ((i+1:Nat):Int)))],[(.t 21 1,.arr 1 (E cI c) false),(.t 7 0,.arr 1 (ss.map (λs=>[AV.v s])) false),(.b 0,sB l y2)]⟩
 have hokA:OK C σA.f a w S2 ρ2 κ2:=hok2.le (by simp[σA,Vs.LeL,Vs.look,Vs.aA,hrl,sB])
 obtain⟨s,C',hl',hok3,hh3,⟨sb,sn,sc,rfl⟩,hCw,hCS,hown⟩:=hokA.bury (n:=.t 21 1) (k:=1) (rows:=E cI c) (t:=21) rfl (aBy c) rfl hh
 have hbA:=hokA.back hla
 have how2:=(how.mono (S':=S2) (w':=w) (λj b hj hb=>(hh.same hokA).2.2.1 b (hxD j b hj hb)) λj b hj hb=>(hh.same hokA).1 b (hxD j b hj hb)).snoc hown (λj b hj hb=>(hh.same hokA).2.2.2 b (hxD j b hj hb) (.t 21 1) (by rfl))
 have e3:o.map (E cI)++[E cI c]=(o++[c]).map (E cI):=by rw[List.map_append];rfl
 rw[e3,←hCw,←hCS] at how2
 have hD3:∀b,(D b∨ρ2 (.t 21 1)=some b)->C0.w0.heap.size<=b:=λb hb=>by
  rcases hb with hb|hb
  .exact hD b hb
  .have hmut:C0.Mut b->False:=λhm=>by
    rw[←hC0] at hm
    obtain⟨j,hj,hjx⟩:=hm
    have hj0:j=0:=by simpa using hj
    subst hj0
    have hk:=hbA.keep 0 (sB l y2) rfl
    have e1:ρ2 (.b 0)=ρ0_ (.b 0):=by
     have:=hk.1
     rw[←hC0] at this
     exact this
    have:=hokA.hok.inj (.t 21 1) (.b 0) b (by rfl) (by rfl) hb (e1.trans hjx)
    cases this
   rcases hbA.mine (.t 21 1) b (by rfl) hb with h|h
   .exact h
   .exact(hmut h).elim
 let σB:St:=⟨[(21,.agg [.v (.slice sb sn sc)]),(18,.loc (.t 7 0) 0 ss.length),(0,.ptr (.b 0) 0 0),(1,.v (.int .i64 n)),(7,.loc (.t 7 0) 0 ss.length),(8,.v (.int .i64 ((i+1:Nat):Int)))],[(.t 7 0,.arr 1 (ss.map (λs=>[AV.v s])) false),(.b 0,sB l y2)]⟩
 have hokB:OK C' σB.f a w S2 ρ2 κ2:=hok3.le (by simp[σA,σB,Vs.dA,Vs.LeL,Vs.look,Vs.aA,Vs.scr,Vs.rR,Vs.AV.has,Vs.iL,Vs.Blk.has,sB])
 have hap:(ss.map λs=>[AV.v s])++[[AV.v (.slice sb sn sc)]]=(ss++[Value.slice sb sn sc]).map λs=>[AV.v s]:=by simp
 have hsl:(ss.map λs=>[AV.v s]).length=ss.length:=by simp
 let τ:St:=⟨[(0,.ptr (.b 0) 0 0),(1,.v (.int .i64 n)),(7,.loc (.t 23 0) 0 (ss.length+1)),(8,.v (.int .i64 ((i+1:Nat):Int)))],[(.t 23 0,.arr 1 ((ss++[Value.slice sb sn sc]).map (λs=>[AV.v s])) false),(.b 0,sB l y2)]⟩
 refine⟨C',σB,S2,ρ2,κ2,fun σ'=>LeL σ' τ,hl'.nt.trans hcnt,hokB,?_,λa w hg=>?_⟩
 .simp only[σB,τ]
  simp -dsimp only[go_sem,hap,hsl,hw,sB]
  and_intros
  all_goals first|omega|(simp[Vs.LeL,Vs.look,Vs.aA,sB];done)|(simp[Vs.LeL,Vs.look,Vs.aA,sB];omega)
 obtain⟨S4,ρ4,κ4,hok4⟩:=hg.le
 obtain⟨ρ5,κ5,hok5⟩:=hok4.oJ (n:=.t 23 0) (m:=.t 7 0) (by decide) (by rfl)
 show At Tryz.prog _ _ (.region _ _ _) _ a w
 refine At.fw hdr hok5 (hl'.nt.trans hcnt) (N:=fun σ'=>LeL σ' (T i (ss++[Value.slice sb sn sc]) y2)) (E:=λ_ _=>False) ?_ (λa w hg=>?_) (λj a w hg=>hg.no.elim) (λa w hg=>hg.no.elim)
 .simp only[τ,T,Vs.oJ]
  simp -dsimp only[go_sem,hap,hsl,hw,sB]
  first|(simp[Vs.LeL,Vs.look,Vs.aA,hw,sB];done)
 obtain⟨S6,ρ6,κ6,hok6⟩:=hg.le
 refine⟨i,by omega,ss++[Value.slice sb sn sc],o++[c],y2,_,C',S6,ρ6,κ6,hdd,by simp[hso],by simp;omega,by omega,hl'.nt.trans hcn,hla.trans hl',hok6,hD3,?_,_,_,how2,?_⟩
 .rw[List.map_append]
  exact hh3
 .intro j b hj hb
  simp only[List.length_append,List.length_singleton] at hj
  split at hb
  .exact .inr hb
  .exact .inl (hxD j b (by omega) hb)
end
section
variable [Vs.Envs]
attribute [local irreducible] Vs.Fn nxV nxS pkV pkS ptN dtF kQ hoF hoR
theorem aDS {A B:List Value}{x:AV}{j:Nat} (hj:j<(mid A x B).length) (hne:j≠A.length) (s:Value):(mid A x B).getD j .junk=.v ((A++s::B).getD j undef):=by
 unfold mid at hj⊢
 rw[List.getD_eq_getElem?_getD,List.getD_eq_getElem?_getD]
 rcases Nat.lt_or_ge j A.length with h|h
 .rw[List.getElem?_append_left (by simpa using h),List.getElem?_append_left h,List.getElem?_map]
  rw[List.getElem?_eq_getElem h];rfl
 .rw[List.getElem?_append_right (by simpa using h),List.getElem?_append_right h,List.length_map]
  obtain⟨k,hk⟩:∃k,j-A.length=k+1:=⟨j-A.length-1,by omega⟩
  rw[hk,List.getElem?_cons_succ,List.getElem?_cons_succ,List.getElem?_map]
  have hk2:k<B.length:=by simp at hj;omega
  rw[List.getElem?_eq_getElem hk2];rfl
theorem aDj (l:List Int) (y:Sr) (hl:byt l) (d:List (List Int)) (hd:∀c,c∈d->c.length<=20) (hd8:d.length<=8) (j:Nat) (hj:j<d.length) (hp:y.p<=3000):∃(d':List (List Int)) (z:Sr),d'.length=d.length∧(∀c,c∈d'->c.length<=100)∧z.p<=y.p+8∧
  ∀ {C:Ctx}{σ:St}{a:Act}{w:World}{S:Nat->Prop}{ρ:Vs.Name->Option Nat}{κ:Vs.Name->Nat}{ss:List Value}{xs:Nat->Option Nat}{cs:Nat->Nat}{u0 u1:Value} (hok:OK C σ.f a w S ρ κ) (h0:σ.f.h (.b 0)=some (sB l y)) (hR:σ.f.h (.t 11 0)=some (.arr 1 (ss.map λs=>[AV.v s]) false))
   (how:Vs.sI S w 1 (d.map (E cI)) ss xs cs) (hnew:∀i b,i<ss.length->xs i=some b->C.w0.heap.size<=b∧b<w.heap.size∧∀m,(σ.f.h m).isSome->ρ m≠some b) (hRn:∀b,ρ (.t 11 0)=some b->C.w0.heap.size<=b) (h4:RV S w ρ κ σ.f.h (.loc (.t 11 0) 0 ss.length) (a.tmps.getD 4 undef))
   (hu0:RV S w ρ κ σ.f.h (.ptr (.b 0) 0 0) u0) (hu1:RV S w ρ κ σ.f.h (.ptr (.t 11 0) j 0) u1),
   Calls Tryz.prog F.jQ #[u0,u1] w λe w'=>∃u S',e=.returned u∧OK C (⟨[(4,.sl 1 (E cC d'))],[(.b 0,sB l z)]⟩:St).f a w' S' ρ κ:=by
 have hcj:(d.getD j []).length<=20:=by
  rw[List.getD_eq_getElem?_getD,List.getElem?_eq_getElem hj]
  exact hd _ (List.getElem_mem hj)
 obtain⟨xx,c',z,hxx,hc',hz,SP⟩:=jD l y hl (d.getD j []) hcj hp
 obtain ⟨cj,hcj2,hcj3⟩:∃cj:List Int,cj.length<=100∧((xx=.loc (.b 2) 0 (d.getD j []).length∧cj=c')∨xx=.sl 1 (E cI cj)):=by
  rcases hxx with h|⟨c2,h,h2⟩
  .exact⟨c',by omega,.inl ⟨h,rfl⟩⟩
  .exact⟨c2,h2,.inr h⟩
 refine⟨d.set j cj,z,by simp,λc hc=>?_,hz,?_⟩
 .rcases List.mem_or_eq_of_mem_set hc with h|h
  .exact Nat.le_trans (hd c h) (by omega)
  .rw[h];exact hcj2
 intro C σ a w S ρ κ ss xs cs u0 u1 hok h0 hR how hnew hRn h4 hu0 hu1
 have hlen:ss.length=d.length:=by rw[←how.len];simp
 have hjs:j<ss.length:=by omega
 generalize hv0:a.tmps.getD 4 undef=v0 at h4
 obtain⟨A1,s,A2,hss,hA1⟩:∃A1 s A2,ss=A1++s::A2∧A1.length=j:=⟨ss.take j,ss[j],ss.drop (j+1),by rw[←List.drop_eq_getElem_cons hjs,List.take_append_drop],by simp;omega⟩
 have hsj:ss.getD j undef=s:=by rw[hss,←hA1];simp
 have hdj:(d.map (E cI)).getD j []=E cI (d.getD j []):=by
  rw[List.getD_eq_getElem?_getD,List.getD_eq_getElem?_getD,List.getElem?_map,List.getElem?_eq_getElem hj];rfl
 have hrow:=how.row j hjs
 rw[hdj,hsj] at hrow
 have hel:(E cI (d.getD j [])).length=(d.getD j []).length:=aJ _
 have SP := SP A1 A2 (by have:ss.length=A1.length+(A2.length+1):=by rw[hss];simp
                         omega)
 let ρ0:Vs.Name->Option Nat:=λm=>match m with|.b 0=>ρ (.b 0)|.b 1=>ρ (.t 11 0)|.b 2=>xs j|_=>none
 let κ0:Vs.Name->Nat:=λm=>match m with|.b 0=>κ (.b 0)|.b 1=>κ (.t 11 0)|.b 2=>cs j|_=>0
 let hin:List Blk:=[sB l y,.var (mid A1 (.loc (.b 2) 0 (d.getD j []).length) A2) false,.arr 1 (E cI (d.getD j [])) false]
 have hsR:(σ.f.h (.t 11 0)).isSome:=by rw[hR];rfl
 have hs0:(σ.f.h (.b 0)).isSome:=by rw[h0];rfl
 have hne0:∀b,ρ (.b 0)=some b->ρ (.t 11 0)=some b->False:=λb h1 h2=>by
  have:=hok.hok.inj (.b 0) (.t 11 0) b hs0 hsR h1 h2
  cases this
 obtain⟨hrk,hblk⟩:=hok.hok.blk (.t 11 0) _ hR
 obtain ⟨x,cells,T,fr,g1,g2,g3,g4,g5,g6,g7,g8⟩:∃x cells T fr,ρ (.t 11 0)=some x∧w.heap[x]? = some (.cells cells T fr)∧aBM fr cells.size∧(false=false->¬S x)∧(false=true->S x)∧cells.size=κ (.t 11 0)∧(ss.map λs=>[AV.v s]).length*1<=cells.size∧
   ∀i jj,i<(ss.map λs=>[AV.v s]).length->jj<1->(cells.getD (i*1+jj) undef).oneCell'=true∧RC S w (((ss.map λs=>[AV.v s]).getD i []).getD jj .junk) (cells.getD (i*1+jj) undef):=by
  rcases hblk with⟨_,h⟩|h
  .exfalso
   have:ss=[]:=by simpa using h
   rw[this] at hjs;simp at hjs
  .exact h
 rw[List.length_map,Nat.mul_one] at g7
 have hcell:∀i,i<ss.length->(cells.getD i undef).oneCell'=true∧cells.getD i undef=ss.getD i undef:=λi hi=>by
  have:=g8 i 0 (by simpa using hi) (by omega)
  rw[Nat.mul_one,Nat.add_zero] at this
  refine⟨this.1,?_⟩
  have h2:=this.2
  rw [show((ss.map λs=>[AV.v s]).getD i []).getD 0 .junk=.v (ss.getD i undef) by
    rw[List.getD_eq_getElem?_getD (l:=ss.map _),List.getElem?_map,List.getElem?_eq_getElem hi,List.getD_eq_getElem?_getD (l:=ss),List.getElem?_eq_getElem hi];rfl] at h2
  exact aZ (ρ:=λ_=>none) (κ:=λ_=>0) (h:=λ_=>none) (.clo h2)
 have hN:∀n b,Hn (hin.map some) n=some b->(n=.b 0∧b=sB l y)∨(n=.b 1∧b=.var (mid A1 (.loc (.b 2) 0 (d.getD j []).length) A2) false)∨(n=.b 2∧b=.arr 1 (E cI (d.getD j [])) false):=by
  intro n b h
  match n,h with
  |.b 0,h=>exact .inl ⟨rfl,by simpa[Hn,hin] using h.symm⟩
  |.b 1,h=>exact .inr (.inl ⟨rfl,by simpa[Hn,hin] using h.symm⟩)
  |.b 2,h=>exact .inr (.inr ⟨rfl,by simpa[Hn,hin] using h.symm⟩)
  |.b (i+3),h=>simp[Hn,hin] at h
  |.t _ _,h=>simp[Hn] at h
 have hml:(mid A1 (.loc (.b 2) 0 (d.getD j []).length) A2).length=ss.length:=by rw[zY,hss];simp
 have hokc:HOK S w ρ0 κ0 (Hn (hin.map some)):=by
  refine⟨λn b hb=>?_,λn m b h1 h2 h3 h4=>?_,hok.hok.dom,hok.hok.env⟩
  .rcases hN n b hb with⟨rfl,rfl⟩|⟨rfl,rfl⟩|⟨rfl,rfl⟩
   .exact(hok.hok.blk (.b 0) _ h0).mono (λ_ h=>h) (λ_ _ h=>h) (λ_ _=>rfl) (λ_ _=>rfl) rfl rfl λm hm=>by rw[wU] at hm;cases hm
   .refine⟨x,cells,T,fr,g1,g2,g3,λh=>g4 h,λh=>(by cases h),g6,by rw[hml];exact g7,λi hi=>?_⟩
    rw[hml] at hi
    obtain⟨e1,e2⟩:=hcell i hi
    refine⟨e1,?_⟩
    rw[e2]
    by_cases hij:i=j
    .subst hij
     rw[←hA1,aAM,hA1,hsj,←hel]
     exact .loc _ _ _ _ (rP.of_own hrow rfl rfl rfl)
    .rw[aDS (by rw[hml];exact hi) (by rw[hA1];exact hij) s,←hss]
     exact .clo (.v _)
   .have:=hrow.blk
    simp only[pF] at this⊢
    exact this
  .obtain⟨b1,hb1⟩:=Option.isSome_iff_exists.1 h1
   obtain⟨b2,hb2⟩:=Option.isSome_iff_exists.1 h2
   rcases hN n b1 hb1 with⟨rfl,_⟩|⟨rfl,_⟩|⟨rfl,_⟩<;>rcases hN m b2 hb2 with⟨rfl,_⟩|⟨rfl,_⟩|⟨rfl,_⟩<;>(first|rfl|exfalso)
   .exact hne0 b h3 h4
   .exact(hnew j b hjs h4).2.2 (.b 0) hs0 h3
   .exact hne0 b h4 h3
   .exact(hnew j b hjs h4).2.2 (.t 11 0) hsR h3
   .exact(hnew j b hjs h3).2.2 (.b 0) hs0 h4
   .exact(hnew j b hjs h3).2.2 (.t 11 0) hsR h4
 have hmut:∀b,nD ρ0 hin b->ρ (.b 0)=some b∨ρ (.t 11 0)=some b∨xs j=some b:=by
  rintro b ⟨i,hi,hb⟩
  match i,hi,hb with
  |0,_,hb=>exact .inl hb
  |1,_,hb=>exact .inr (.inl hb)
  |2,_,hb=>exact .inr (.inr hb)
  | i+3,hi,_ =>
   have h3:i+3<3:=hi
   omega
 refine(SP.use S w ρ0 κ0 #[u0,u1] hokc (λb hb=>?_) rfl λi hi=>?_).mono ?_
 .simp only[List.mem_cons,List.not_mem_nil,or_false] at hb
  rcases hb with rfl|rfl|rfl<;>rfl
 .match i,hi with
  | 0,_ =>
   refine .ptr _ _ _ _ λb hb=>?_
   rcases hN _ b hb with⟨_,rfl⟩|⟨h,_⟩|⟨h,_⟩
   .exact bZ hu0 _ h0
   .cases h
   .cases h
  | 1,_ =>
   refine .ptr _ _ _ _ λb hb=>?_
   rcases hN _ b hb with⟨h,_⟩|⟨_,rfl⟩|⟨h,_⟩
   .cases h
   .obtain⟨x2,hx2,hu⟩:=bZ hu1 _ hR
    refine⟨x2,hx2,?_⟩
    show u1=_
    rw[hu,hA1]
    simp[Blk.k]
   .cases h
 rintro e w' ⟨v,S',ρ',κ',rfl,hpo,hr⟩
 obtain⟨k01,k02,_⟩:=hpo.keep 0 (sB l z) (by simp) rfl
 obtain⟨k11,k12,_⟩:=hpo.keep 1 (.var (mid A1 xx A2) false) (by simp) rfl
 obtain⟨k21,k22,_⟩:=hpo.keep 2 (.arr 1 (E cI c') false) (by simp) rfl
 have k01:ρ' (.b 0)=ρ (.b 0):=k01
 have k02:κ' (.b 0)=κ (.b 0):=k02
 have k11:ρ' (.b 1)=ρ (.t 11 0):=k11
 have k21:ρ' (.b 2)=xs j:=k21
 have hold:∀b,b<w.heap.size->ρ (.b 0)≠some b->ρ (.t 11 0)≠some b->xs j≠some b->w'.heap[b]? = w.heap[b]?:=λb hb q1 q2 q3=>hpo.old b hb λhm=>by
  rcases hmut b hm with h|h|h
  .exact q1 h
  .exact q2 h
  .exact q3 h
 let S2:Nat->Prop:=λb=>S' b∨ρ (.t 11 0)=some b∨∃i,i<ss.length∧xs i=some b
 have hread:RC S2 w' (.sl 1 (E cC (d.set j cj))) v0:=by
  obtain⟨_,base,cap,rfl,q2,q3,q4,_⟩:=d9 h4 1 (ss.map λs=>[AV.v s]) false hR
  obtain⟨x1,hx1,hbase⟩:=q4 (by omega)
  have:x1=x:=Option.some.inj (hx1.symm.trans g1)
  subst this
  obtain⟨x2,cells',T',fr',r1,r2,r3,r4,r5,r6,r7,r8⟩:=hpo.hok.blk (.b 1) (.var (mid A1 xx A2) false) rfl
  have hx2:x2=x1:=Option.some.inj (r1.symm.trans (k11.trans g1))
  subst hx2
  have hml2:(mid A1 xx A2).length=ss.length:=by rw[zY,hss];simp
  rw[hml2] at r7 r8
  have hEl:(E cC (d.set j cj)).length=ss.length:=by rw[aJ,List.length_set,hlen]
  rw[←hEl]
  refine .sl 1 _ base cap x2 0 (λi=>cells'.getD i undef) (λ_=>⟨hbase.trans (by simp),.inr (.inl g1)⟩) (λi jj hi hjj=>?_) (λi jj hi hjj=>?_) (λi jj hi hjj=>?_) (λi hi=>?_) ⟨by rw[hEl];exact q2,q3⟩
  .obtain rfl:jj=0:=by omega
   rw[hEl] at hi
   have:0+(i*1+0)<cells'.size:=by omega
   rw[Vs.cell_of_row r2 this]
   simp
  .obtain rfl:jj=0:=by omega
   rw[hEl] at hi
   have:=(r8 i hi).1
   simpa using this
  .obtain rfl:jj=0:=by omega
   rw[hEl] at hi
   have hir:i<(d.set j cj).length:=by rw[List.length_set];omega
   have h8:=(r8 i hi).2
   refine(?_:RC S2 w' (((E cC (d.set j cj)).getD i []).getD 0 .junk) (cells'.getD (i*1+0) undef))
   rw[show((E cC (d.set j cj)).getD i []).getD 0 .junk=.sl 1 (E cI (d.set j cj)[i]) by rw[bI hir];rfl,Nat.mul_one,Nat.add_zero]
   by_cases hij:i=j
   .subst hij
    rw[List.getElem_set_self]
    rw[←hA1,aAM] at h8
    rw[hA1] at h8
    rcases hcj3 with⟨e,rfl⟩|e
    .rw[e] at h8
     have hb2:=hpo.hok.blk (.b 2) (.arr 1 (E cI cj) false) rfl
     have hlc:(d.getD i []).length=(E cI cj).length:=by rw[aJ,hc']
     rw[hlc] at h8
     have hlo:=d9 h8
     have ho:Own S' w' (ρ' (.b 2)) (κ' (.b 2)) 1 (E cI cj) (cells'.getD i undef):=⟨λk' l' z' hl'=>by
       obtain⟨rfl,rfl,rfl⟩:1=k'∧E cI cj=l'∧false=z':=by simpa using hl'
       exact hlo 1 (E cI cj) false rfl,hb2,aBy cj⟩
     exact ho.rc.mono (λb hb=>.inr (.inr ⟨i,hjs,k21 ▸ hb⟩)) λ_ _=>rfl
    .rw[e] at h8
     exact(p8 h8).mono (λ_ h=>.inl h) λ_ _=>rfl
   .rw[List.getElem_set_ne (Ne.symm hij)]
    rw[aDS (by rw[hml2];exact hi) (by rw[hA1];exact hij) s,←hss] at h8
    rw[aZ h8]
    have hro:=(how.row i hi).rc
    have hid:i<d.length:=by omega
    rw[show(d.map (E cI)).getD i []=E cI d[i] by rw[List.getD_eq_getElem?_getD,List.getElem?_map,List.getElem?_eq_getElem hid];rfl] at hro
    refine hro.mono (λb hb=>.inr (.inr ⟨i,hi,hb⟩)) λb hb=>?_
    obtain⟨_,n2,n3⟩:=hnew i b hi hb
    exact hold b n2 (n3 (.b 0) hs0) (n3 (.t 11 0) hsR) λh=>hij (how.dif i j b hi hjs hb h)
  .have hir:i<(d.set j cj).length:=by rw[aJ] at hi;exact hi
   rw[bI hir];rfl
 have hn0:∀n b,(⟨[(4,.sl 1 (E cC (d.set j cj)))],[(.b 0,sB l z)]⟩:St).f.h n=some b->n=.b 0∧b=sB l z:=by
  intro n b hb
  simp only[St.f,aA] at hb
  split at hb
  .rename_i h;exact⟨by first|exact h|exact h.symm,(Option.some.inj hb).symm⟩
  .cases hb
 refine⟨v,S2,rfl,hok.nt,hok.defers,λt=>?_,⟨λn b hb=>?_,λn m b h1 h2 h3 h4=>?_,λb hb=>?_,hpo.hok.env.mono (λ_ h=>.inl h) λ_ _=>rfl⟩,Nat.le_trans hok.size hpo.size,λb hb hm=>?_,λn b h1 h2=>?_,λb hb=>.inl (hpo.sub b (hok.S0 b hb)),λb hb=>?_,⟨hpo.out.1.trans hok.out.1,hpo.out.2.trans hok.out.2⟩,λi b hb=>?_⟩
 .by_cases ht:t=4
  .subst ht
   rw[show(⟨[(4,.sl 1 (E cC (d.set j cj)))],[(.b 0,sB l z)]⟩:St).f.s 4=.sl 1 (E cC (d.set j cj)) by simp[St.f,Vs.look],hv0]
   exact .clo hread
  .rw[show(⟨[(4,.sl 1 (E cC (d.set j cj)))],[(.b 0,sB l z)]⟩:St).f.s t=.junk by simp[St.f,Vs.look,ht,Ne.symm ht]]
   exact .junk _
 .obtain⟨rfl,rfl⟩:=hn0 n b hb
  refine(hpo.hok.blk (.b 0) (sB l z) rfl).mono (λ_ h=>.inl h) (λb hb hs=>?_) (λ_ _=>rfl) (λ_ _=>rfl) k01.symm k02.symm λm hm=>by rw[wU] at hm;cases hm
  rcases hs with h|h|⟨i,hi,h⟩
  .exact h
  .exact(hne0 b (k01 ▸ hb) h).elim
  .exact((hnew i b hi h).2.2 (.b 0) hs0 (k01 ▸ hb)).elim
 .obtain⟨b1,hb1⟩:=Option.isSome_iff_exists.1 h1
  obtain⟨b2,hb2⟩:=Option.isSome_iff_exists.1 h2
  rw[(hn0 n b1 hb1).1,(hn0 m b2 hb2).1]
 .rcases hb with h|h|⟨i,hi,h⟩
  .exact hpo.hok.dom b h
  .exact Nat.lt_of_lt_of_le (hok.hok.lt hsR h) hpo.size
  .exact Nat.lt_of_lt_of_le (hnew i b hi h).2.1 hpo.size
 .rw[hold b (Nat.lt_of_lt_of_le hb hok.size) (λh=>?_) (λh=>?_) λh=>?_]
  .exact hok.old b hb hm
  .rcases hok.mine (.b 0) b hs0 h with h'|h'
   .omega
   .exact hm h'
  .have:=hRn b h;omega
  .have:=(hnew j b hjs h).1;omega
 .obtain⟨b1,hb1⟩:=Option.isSome_iff_exists.1 h1
  obtain⟨rfl,_⟩:=hn0 n b1 hb1
  exact hok.mine (.b 0) b hs0 h2
 .rcases hb with h|h|⟨i,hi,h⟩
  .rcases hpo.new b h with h'|h'|h'
   .exact hok.Snew b h'
   .exact .inr (.inl (Nat.le_trans hok.size h'))
   .rcases hmut b h' with h2|h2|h2
    .rcases hok.mine (.b 0) b hs0 h2 with q|q
     .exact .inr (.inl q)
     .exact .inr (.inr q)
    .exact .inr (.inl (hRn b h2))
    .exact .inr (.inl (hnew j b hjs h2).1)
  .exact .inr (.inl (hRn b h))
  .exact .inr (.inl (hnew i b hi h).1)
 .obtain⟨hi,rfl⟩:=hn0 (.b i) b hb
  have hi0:i=0:=by simpa using hi
  subst hi0
  obtain⟨e1,e2,b0,e3,e4⟩:=hok.keep 0 (sB l y) h0
  exact⟨e1,e2,b0,e3,Blk.same_trans e4 (by simp[sB,Blk.same])⟩
end
end Go.Proofs.YtfoddghhlagenaaGreatDoor
