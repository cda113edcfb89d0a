/- The marks of a deck, and what is held of them. -/
import Derived.Test.YtkgeiaideklmoaaGreatZwRh
import Derived.Test.YtkgeiaideklmoaaGreatVuD
set_option linter.all false
set_option maxHeartbeats 8000000
namespace Go.Proofs.YtkgeiaideklmoaaGreat
open Go.Vs
variable [Vs.Envs]
attribute [local irreducible] Vs.Fn
def mI (k:Nat) (j:Nat):Int:=(k+j:Nat)
theorem aG3 (l:List Int) (k:Nat) (hl:l.length<=1048576) (hk:k<=2 ^ 61):Vs.Fn Tryz.prog F.iZ [.arr 1 (E cI l) false] [.loc (.b 0) 0 l.length,.v (.int .i64 k)] (.v (.int .i64 (k+l.length:Nat))) [some (.arr 1 (E cI (mkR (mI k) l l.length)) false)]:=by
 refine fn1 Cd.l_markInt64S_k [.b 0] [.arr 1 (E cI (mkR (mI k) l l.length)) false] λX=>?_;unfold Cd.iZ;simp -dsimp only[go_sem];refine aM.at dM (X:={i:Nat // i<=l.length}) (λi=>[(0,.loc (.b 0) 0 l.length),(1,.v (.int .i64 (k+i.1:Nat))),(5,.v (.int .i64 i.1))]) (λi=>[(.b 0,.arr 1 (E cI (mkR (mI k) l i.1)) false)]) (λi=>l.length-i.1) ⟨0,by omega⟩ ?_ ?_
 .simp[Vs.LeL,Vs.look,aA,aS,aJ,Vs.hset,aK,aCX]
 .rintro⟨i,hi⟩;simp -dsimp only[go_sem];refine Br.mk (λhc=>?_) λhc=>?_
  .have hlt:i<l.length:=by simpa using hc
   have hw:=aG hlt hl;have hw2:IntKind.i64.wrap (((k+i:Nat):Int)+1)=((k+(i+1):Nat):Int):=by rw[aR (by omega) (by omega)];omega
   have hgi:(E cI (mkR (mI k) l i)).getD i []=[.v (.int .i64 l[i])]:=aES (c:=cI) _ l hlt;have hst:(E cI (mkR (mI k) l i)).set i [.v (.int .i64 (k+i:Nat))]=E cI (mkR (mI k) l (i+1)):=aER (c:=cI) (mI k) l hlt;have hlr:(mkR (mI k) l i).length=l.length:=iH _ l (by omega)
   repeat' first|simp -dsimp only[go_sem,hw,hw2,hgi,hst,hlr,aH]|apply Br.mk<;>intro h<;>try simp -dsimp only[h]|refine aC ?_|fail
   all_goals(exact⟨⟨i+1,by omega⟩,by simp[Vs.LeL,Vs.look,aA,aS,aJ,Vs.hset,aK],by simp only;omega⟩)
  .have hge:i=l.length:=by
    have:¬i<l.length:=by simpa using hc
    omega
   subst hge;simp -dsimp only[go_sem];exact⟨⟨_,_,rfl,rfl⟩,λh=>h rfl⟩
theorem aHi (l:List Int) (k:Nat) (hl:l.length<=1048576) (hk:k<=2 ^ 61):Fz F.nT [.sl 1 (E cI (mkR (mI k) l l.length)),.v (.int .i64 k)] (.v (.int .i64 (k+l.length:Nat))):=by
 have hlr:(mkR (mI k) l l.length).length=l.length:=iH _ l (Ar _);refine fn0 Cd.l_heldInt64S_k λX=>?_;simp -dsimp only[go_sem];refine aM.at dM (X:={i:Nat // i<=l.length}) (λi=>[(1,.v (.int .i64 (k+i.1:Nat))),(5,.v (.int .i64 i.1))]) (λi=>[]) (λi=>l.length-i.1) ⟨0,by omega⟩ ?_ ?_
 .exact le0
 .rintro⟨i,hi⟩;simp -dsimp only[go_sem,aH,hlr];refine Br.mk (λhc=>?_) λhc=>?_
  .have hlt:i<l.length:=by simpa using hc
   have hw:=aG hlt hl;have hw2:IntKind.i64.wrap (((k+i:Nat):Int)+1)=((k+(i+1):Nat):Int):=by rw[aR (by omega) (by omega)];omega
   have hgi:(E cI (mkR (mI k) l l.length)).getD i []=[.v (.int .i64 (k+i:Nat))]:=by
    rw[aN (by rw[hlr];exact hlt)];simp only[aIc,DF,List.getElem_range];rfl
   have hbe:(((k+i:Nat):Int) != ((k+i:Nat):Int))=false:=by simp
   repeat' first|simp -dsimp only[go_sem,hw,hw2,hgi,hlr,hbe,aH]|apply Br.mk<;>intro h<;>try simp -dsimp only[h]|refine aC ?_|fail
   all_goals(exact⟨⟨i+1,by omega⟩,by simp[Vs.LeL,Vs.look,aA,aS,aJ,Vs.hset,aK],by simp only;omega⟩)
  .have hge:i=l.length:=by
    have:¬i<l.length:=by simpa using hc
    omega
   subst hge;simp -dsimp only[go_sem];simp
def mkD (k:Nat):List (List Int)->List (List Int)
 | []=>[]
 |c::r=>mkR (mI k) c c.length::mkD (k+c.length) r
def dL:List (List Int)->Nat
 | []=>0
 |c::r=>c.length+dL r
theorem y9:∀(k:Nat) (l:List (List Int)),(mkD k l).length=l.length
 |_,[]=>rfl
 |k,c::r=>by simp[mkD,y9 _ r]
theorem aBf:∀(l:List (List Int)) (c:List Int),dL (l++[c])=dL l+c.length
 | [],c=>by simp[dL]
 |d::r,c=>by simp only[Ae,dL,aBf r c];omega
theorem aFN:∀(k:Nat) (l:List (List Int)) (c:List Int),mkD k (l++[c])=mkD k l++[mkR (mI (k+dL l)) c c.length]
 |k,[],c=>by simp[mkD,dL]
 |k,d::r,c=>by simp only[Ae,mkD,aFN _ r c,dL,Ck]
theorem aEy:∀{l:List (List Int)},(∀c,c∈l->c.length<=1048576)->dL l<=l.length*1048576
 | [],_=>by simp[dL]
 | d::r,h=>by
  have H:=h d Dp;have h2:=aEy (l:=r) λc F=>h c (C9 _ F);simp only[dL,Ab];omega
theorem aMn (k:Nat) {l:List (List Int)}{i:Nat} (h:i<l.length):(E cC (mkD k l)).getD i []=[.sl 1 (E cI (mkR (mI (k+dL (l.take i))) l[i] l[i].length))]:=by
 rw[aN (by rw[y9];exact h)]
 have:(mkD k l)[i]'(by rw[y9];exact h)=mkR (mI (k+dL (l.take i))) l[i] l[i].length:=by
  induction l generalizing k i with
  |nil=>simp at h
  | cons d r ih =>
   cases i with
   |zero=>simp[mkD,dL]
   | succ i =>
    simp only[Ab] at h;have:=ih (k+d.length) (i:=i) (by omega);simp only[mkD,List.getElem_cons_succ,this,Bh,dL,Ck]
 rw[this];rfl
attribute [local go_sem] Int.reduceBEq Int.reduceBNe cC aH Af Ag Al Aq Ae Ai Ac Ak Ab Ah Am Au Ap Ao AX BH Vs.Name.t.injEq Aw A9 Vs.Name.b.injEq AJ Bn in
theorem aDC (k0:Nat) (jc:k0<=2 ^ 60) {S:Nat->Prop}{w:World}{v:Value}{l:List (List Int)}{ss:List Value}{xs:Nat->Option Nat}{cs:Nat->Nat} (hk:aZ l) (hS:∀b,S b->b<w.heap.size) (he:Env S w) (h0:RC S w (.sl 1 (ss.map λs=>[AV.v s])) v)
  (ho:mD S w 1 (l.map (E cI)) ss xs cs) (hx:∀i b,i<ss.length->xs i=some b->b<w.heap.size) :
  Calls Tryz.prog F.iX #[v,.int .i64 k0] w λe w'=>e=.returned (.int .i64 (k0+dL l:Nat))∧w.heap.size<=w'.heap.size∧(∀b,b<w.heap.size->(∀i,i<ss.length->xs i≠some b)->w'.heap[b]? = w.heap[b]?)∧(w'.os=w.os∧w'.output=w.output)∧mD S w' 1 ((mkD k0 l).map (E cI)) ss xs cs:=by
 obtain⟨h1,h2,_⟩:=Cd.l_markCardS_k.o;obtain⟨ja,J,hc⟩:=AY.1 h2;have hz:(Tryz.f16.body.map (zB Tryz.f16.ntmps (aW Tryz.prog)))=some true:=by kernel_rfl
 rw[J] at hz;have ht:=bB Tryz.mixed;have hu:l.length=ss.length:=by simpa using ho.len
 refine vV (dr:=aW Tryz.prog) (ac:=Cd.iX) h1 J hc (by simpa using hz) (args:=[.sl 1 (ss.map λs=>[AV.v s]),.v (.int .i64 (k0:Int))]) (by rw[Cd.l_markCardS_k.n];exact Bc rfl) hS he rfl (λj hj=>?_) (λb=>∃i,i<ss.length∧xs i=some b) λa L=>?_
 .match j,hj with
  |0,_=>exact h0
  |1,_=>exact .v _
 generalize hl:(⟨Tryz.f16.ntmps,w,S,λb=>∃i,i<ss.length∧xs i=some b,λ_=>none,λ_=>0,λ_=>none⟩:Ctx)=C0 at L;have q0:C0.nt=Tryz.f16.ntmps:=by rw[←hl]
 have hy:C0.w0=w:=by rw[←hl]
 let D:Nat->Prop:=λb=>∃i,i<ss.length∧xs i=some b
 have hM:∀b,D b->C0.Mut b:=λb h=>by rw[←hl];exact h
 have qa:=L.later;have qf:=L.hid (D:=D) (λb ⟨i,hi,J⟩=>hx i b hi J) (λb ⟨i,hi,J⟩=>(ho.row i hi).no J) (λb _ n hn=>by simp[St.f,aA] at hn);have h5:=L.anew;generalize qu:C0.anew w S _ _=C1 at qa qf h5;have qo:mD C1.S0 C1.w0 1 (l.map (E cI)) ss xs cs:=by rw[←qu];exact ho
 have Z:C1.nt=Tryz.f16.ntmps:=qa.nt.trans q0;unfold Cd.iX;refine At.step ⟨[(0,.sl 1 (ss.map λs=>[AV.v s])),(1,.v (.int .i64 (k0:Int)))],[]⟩ ht h5 Z ?_ λa w1 S1 ρ1 κ1 L=>?_
 .simp -dsimp only[go_sem]
  try simp[Vs.LeL,Vs.look,aA]
 refine At.seq (At.step ⟨[(0,.sl 1 (ss.map λs=>[AV.v s])),(1,.v (.int .i64 (k0:Int))),(5,.v (.int .i64 ((0:Nat):Int)))],[]⟩ ht L Z ?_ λa w3 S3 ρ3 κ3 L=>?_)
 .simp -dsimp only[go_sem]
  try simp[Vs.LeL,Vs.look,aA]
 refine At.block ?_
 let T:Nat->Nat->St:=λi kk=>⟨[(0,.sl 1 (ss.map λs=>[AV.v s])),(1,.v (.int .i64 (kk:Int))),(5,.v (.int .i64 (i:Int)))],[]⟩
 let I:Nat->Act->World->Prop:=λn a w=>∃(i kk:Nat) (m:List (List Int)) (C:Ctx) (S:Nat->Prop) (ρ:Vs.Name->Option Nat) (κ:Vs.Name->Nat),n=ss.length-i∧i<=ss.length∧kk=k0+dL (l.take i)∧m=mkD k0 (l.take i)++l.drop i∧C.nt=Tryz.f16.ntmps∧Later C0 C∧OK C (T i kk).f a w S ρ κ∧Hid C D (.v undef) undef∧aZ m∧mD C.S0 C.w0 1 (m.map (E cI)) ss xs cs
 have q6:ss.length<=1048576:=by rw[←hu];exact hk.1
 refine At.loop I (λn a w hI=>?_) (n:=ss.length) ⟨0,k0,l,C1,S3,ρ3,κ3,by omega,by omega,by simp[dL],by simp[mkD],Z,qa,L,qf,hk,qo⟩;obtain⟨i,kk,m,C,S,ρ,κ,hn,hi,h9,qd,O,qg,L,hh,hm,hf⟩:=hI
 have jd:dL (l.take i)<=2 ^ 40:=by
  have h1:=aEy (l:=l.take i) λc hc=>hk.2 c (CE hc);have h2:(l.take i).length<=1048576:=by rw[BM];have:=hk.1;omega
  have:=Bo 1048576 h2;omega
 have ha:(ss.map λs=>[AV.v s]).length=ss.length:=Bg _;refine At.seq (At.fw ht L O (N:=fun σ'=>LeL σ' (T i kk)∧i<ss.length) (E:=λe σ'=>match e with|.exit j=>j=0∧LeL σ' (T i kk)∧i=ss.length|.ret=>False) ?_ (λa w hg=>?_) (λj a w hg=>?_) (λa w hg=>hg.no.elim))
 .simp only[T];simp -dsimp only[go_sem,ha];refine Br.mk (λhc=>?_) λhc=>?_
  .have U:i<ss.length:=by have:=BJ hc;omega
   try simp -dsimp only[go_sem,ha]
   exact⟨by simp[Vs.LeL,Vs.look,aA],U⟩
  .have qv:i=ss.length:=by have:=BQ hc;omega
   try simp -dsimp only[go_sem,ha]
   exact⟨by simp[Vs.LeL,Vs.look,aA],qv⟩
 rotate_left
 .obtain⟨σ',S',ρ',κ',⟨rfl,qb,rfl⟩,hv⟩:=hg;have L:=hv.le qb;simp only[Exit.then,Exit.inBlock,Bj];refine At.step ⟨[(4,.v (.int .i64 (kk:Int)))],[]⟩ ht L O ?_ λa w4 S4 ρ4 κ4 Y=>?_
  .simp only[T]
   try simp -dsimp only[go_sem,ha]
   simp[Vs.LeL,Vs.look,aA]
  refine At.ret ⟨.inl rfl,Y.defers,?_⟩
  obtain ⟨x,v,q8,q9,qq⟩:=mE Y (fn:=Tryz.f16) (K:=λx=>x=.v (.int .i64 (kk:Int))) (by
    show dQ Tryz.prog _ _ [_]
    simp[dQ,qX,Vs.look,dU])
  subst q8;have hw:=Y.back qg;refine⟨v,qq,by rw[bE q9,h9,←hu,Bv],?_,λb J qz=>?_,?_,?_⟩
  .have:=hw.size;rw[hy] at this;exact this
  .have:=hw.old b (by rw[hy];exact J) (by rw[←hl];rintro⟨i,hi,J⟩;exact qz i hi J);rw[hy] at this;exact this
  .have:=hw.out;rw[hy] at this;exact this
  .rw[qd,←hu,Bv,CV,Be] at hf;exact hf.mono (λj b hj J hs=>(hh.same Y).2.2.1 b ⟨j,hj,J⟩ (hw.S0 b (by rw[←hl];exact hs))) (λj b hj J=>(hh.same Y).1 b ⟨j,hj,J⟩)
 obtain⟨σ',S',ρ',κ',⟨qb,U⟩,hv⟩:=hg;have L:=hv.le qb;have jb:m.length=ss.length:=by simpa using hf.len
 have je:i<m.length:=by omega
 have h8:(ss.map λs=>[AV.v s]).getD i []=[.v ss[i]]:=by simp[U]
 obtain ⟨sb,sn,sc,jf⟩:∃b n c,ss[i]=.slice b n c:=by
  have:=(hf.row i U).loc 1 _ false rfl;obtain⟨_,b,c,e,_⟩:=this;exact⟨_,_,_,by simpa[U] using e⟩
 show At Tryz.prog _ _ (.seq _ _) _ a w
 refine At.seq (At.block (At.region (pre:=[⟨some 12,.mv (.tmp 0),none⟩,⟨some 13,.mv (.tmp 5),none⟩,⟨some 14,.idxSl 1 (.tmp 12) (.tmp 13),none⟩,⟨some 15,.fieldAddr 0 (.tmp 14),none⟩,⟨some 16,.load false 1 (.tmp 15),none⟩,⟨some 17,.mv (.tmp 1),none⟩]) (o:=⟨some 18,.call (.func F.iZ) [(.tmp 16),(.tmp 17)] [0],none⟩) (post:=[⟨some 1,.mv (.tmp 18),none⟩]) L O rfl ?_))
 let τ:St:=⟨[(16,.v ss[i]),(17,.v (.int .i64 (kk:Int))),(0,.sl 1 (ss.map λs=>[AV.v s])),(1,.v (.int .i64 (kk:Int))),(5,.v (.int .i64 (i:Int)))],[]⟩
 refine aB5 (K:=fun σ'=>LeL σ' τ) (fun σ1 qi=>?_) _ _ ?_
 rotate_left
 .simp only[T];simp -dsimp only[go_sem,ha,h8];exact⟨⟨by omega,by omega⟩,by simp[τ,Vs.LeL,Vs.look,aA]⟩
 intro a w S2 ρ2 κ2 op ops qn qe;have H:=qn.le qi;have qy:m.length=ss.length:=by simpa using hf.len
 have qj:m[i].length<=1048576:=hm.2 _ (Aa _);have h3:=aG3 m[i] kk qj (by omega);have h6:mD S2 w 1 (m.map (E cI)) ss xs cs:=hf.mono (λj b hj J=>(hh.same H).2.2.1 b ⟨j,hj,J⟩) (λj b hj J=>(hh.same H).1 b ⟨j,hj,J⟩);have hr:=h6.row i U;have e1:(m.map (E cI)).getD i []=E cI m[i]:=by simp[qy,U]
 have e2:ss.getD i undef=ss[i]:=by simp[U]
 rw[e1,e2] at hr;have hE:(E cI m[i]).length=m[i].length:=aH _;have qs:a.tmps.getD 16 undef=ss[i]:=bE (H.slots 16);have qt:a.tmps.getD 17 undef=.int .i64 (kk:Int):=bE (H.slots 17)
 have h7:([Operand.tmp 16,.tmp 17].map a.eval).toArray=#[ss[i],.int .i64 (kk:Int)]:=by
  show #[a.tmps.getD 16 undef,a.tmps.getD 17 undef]=_
  rw[qs,qt]
 refine aCd (by rw[O];exact qe) rfl H h3.has ?_;rw[h7]
 refine (aBC (by rw[hE];exact h3) (λr hr=>by
   obtain⟨y,_,rfl⟩:=Bq.1 hr;rfl) hr H.hok.dom H.hok.env).mono ?_
 rintro e w' ⟨rfl,q1,q2,q3,q4,q5⟩;have hp:=hh.same H;have qr:∀b,b<w.heap.size->¬D b->w'.heap[b]? = w.heap[b]?:=λb J hd=>q2 b J λhx=>hd ⟨i,U,hx⟩;have qk:=OK.wrote hh H q1 qr q3;have qh:=OK.wroteM qg (λb J=>.inr (hM b J)) H q1 qr q3;have qw:Hid (C.anew w' S2 τ.f.h ρ2) D (.v undef) undef:=⟨.v _,λb J=>AZ (hp.2.1 b J) q1,λb J=>⟨hp.2.2.1 b J,λ⟨n,g1,g2⟩=>hp.2.2.2 b J n g1 g2⟩⟩
 have qp:mD S2 w' 1 ((m.set i (mkR (mI kk) m[i] m[i].length)).map (E cI)) ss xs cs:=by
  rw[De];exact h6.write U (by rw[e2];exact q4) (λj b hj J hx=>q2 b (hp.2.1 b ⟨j,hj,J⟩) hx) (λj b hj J=>hp.2.2.1 b ⟨j,hj,J⟩)
 have qx:aZ (m.set i (mkR (mI kk) m[i] m[i].length)):=by
  refine⟨by rw[Am];exact hm.1,λc hc=>?_⟩;rcases List.mem_or_eq_of_mem_set hc with h|h
  .exact hm.2 c h
  .rw[h,iH _ _ (Ar _)];exact qj
 let σ4:St:=⟨(18,.v (.int .i64 ((kk+m[i].length:Nat):Int)))::τ.s,τ.h⟩
 have Y:OK (C.anew w' S2 τ.f.h ρ2) σ4.f (a.put (some 18) (.int .i64 ((kk+m[i].length:Nat):Int))) w' S2 ρ2 κ2:=qk.put (x:=.v (.int .i64 ((kk+m[i].length:Nat):Int))) (v:=.int .i64 ((kk+m[i].length:Nat):Int)) (d:=some 18) (.clo (.v _)) (λd hd=>by
   obtain rfl:=Ay hd;show 18<C.nt
   rw[O,Cd.l_markCardS_k.n];omega)
 refine⟨_,rfl,C.anew w' S2 τ.f.h ρ2,σ4,S2,ρ2,κ2,fun σ'=>LeL σ' (T i (kk+m[i].length)),O,Y,?_,λa w hg=>?_⟩
 .simp only[σ4,τ,T];simp -dsimp only[go_sem,ha,h8];simp[Vs.LeL,Vs.look,aA]
 obtain⟨S5,ρ5,κ5,ql⟩:=hg.le;have q7:=aG U q6;show At Tryz.prog _ _ (.region _ _ _) _ a w
 refine At.fw ht ql O (N:=fun σ'=>LeL σ' (T (i+1) (kk+m[i].length))) (E:=λ_ _=>False) ?_ (λa w hg=>?_) (λj a w hg=>hg.no.elim) (λa w hg=>hg.no.elim)
 .simp only[T];simp -dsimp only[go_sem,ha,h8];simp[Vs.LeL,Vs.look,aA,q7]
 obtain⟨S6,ρ6,κ6,qm⟩:=hg.le;have qc:i<l.length:=by omega
 have h4:m[i]=l[i]:=by
  have hq:(mkD k0 (l.take i)).length=i:=by rw[y9,BM];omega
  simp only[qd];rw[List.getElem_append_right (by omega)];simp[hq]
 refine⟨ss.length-(i+1),by omega,i+1,kk+m[i].length,_,C.anew w' S2 τ.f.h ρ2,S6,ρ6,κ6,rfl,by omega,?_,?_,O,qh,qm,qw,qx,qp⟩
 .rw[aY qc,aBf,h9,h4];omega
 .rw[aY qc,aFN];simp only[h4];rw[qd,←h9];have hq:(mkD k0 (l.take i)).length=i:=by rw[y9,BM];omega
  rw[Cy _ _ (by omega),hq,Cw,BS qc,Ac];simp
theorem deckE (l:List (List Int)):(l.map (E cI)).map (λr=>[AV.sl 1 r])=E cC l:=by simp[E,cC,Cc]
theorem aGI (l:List (List Int)) (U:aZ l) {S:Nat->Prop}{w:World}{J:Value} (L:∀b,S b->b<w.heap.size) (O:Env S w) (h0:RC S w (.sl 1 (E cC l)) J) :
  Calls Tryz.prog F.jL #[J] w λe w'=>∃v,e=.returned v∧kY w w'∧aBb w w' (l.map (E cI)) v:=by
 refine(aFj l U L O h0).mono ?_;rintro e w' ⟨v,D,ss,xs,cs,x0,rfl,q1,q2,q3,q4,q5,q6,q7,q8,q9⟩;have I:∀b,Vs.Mem.D ⟨x0,ss,xs,cs⟩ b->D b:=λb H=>H.elim (λh=>q7 b h) λ⟨i,hi,h⟩=>q8 i b hi h;exact⟨v,rfl,⟨q1,q2,q3⟩,⟨x0,ss,xs,cs⟩,⟨q6,q9.mono (λi b hi H Y=>(q9.row i hi).no H (.inr Y)) λ_ _ _ _=>rfl,λb H=>(q5 b (I b H)).2⟩,λb H=>(q5 b (I b H)).1⟩
theorem aAe (l:List (List Int)) (U:aZ l) {S:Nat->Prop}{w:World}{J:Value} (L:∀b,S b->b<w.heap.size) (O:Env S w) (h0:RC S w (.sl 1 (E cC l)) J) :
  Calls Tryz.prog F.dE #[J] w λe w'=>∃v,e=.returned v∧kY w w'∧∃m,Vs.Dk w' (l.map (E cI)) v m∧(∀b,m.D b->w.heap.size<=b)∧∃c,Vs.Own (λ_=>False) w' m.x0 c 1 (m.ss.map λs=>[AV.v s]) v:=by
 refine(aFL l U L O h0).mono ?_;rintro e w' ⟨v,D,ss,xs,cs,x0,rfl,q1,q2,q3,q4,q5,q6,⟨c,qo⟩,q7,q8,q9⟩;have I:∀b,Vs.Mem.D ⟨x0,ss,xs,cs⟩ b->D b:=λb H=>H.elim (λh=>q7 b h) λ⟨i,hi,h⟩=>q8 i b hi h;exact⟨v,rfl,⟨q1,q2,q3⟩,⟨x0,ss,xs,cs⟩,⟨q6,q9.mono (λi b hi H Y=>(q9.row i hi).no H (.inr Y)) λ_ _ _ _=>rfl,λb H=>(q5 b (I b H)).2⟩,λb H=>(q5 b (I b H)).1,c,qo⟩
theorem aEV (k0:Nat) (J:k0<=2 ^ 60) {S:Nat->Prop}{w:World}{v:Value}{l:List (List Int)}{m:Vs.Mem} (hk:aZ l) (Y:∀b,S b->b<w.heap.size) (Z:Env S w) (L:∀b,m.D b->¬S b) (I:Vs.Dk w (l.map (E cI)) v m) :
  Calls Tryz.prog F.iX #[v,.int .i64 k0] w λe w'=>e=.returned (.int .i64 (k0+dL l:Nat))∧w.heap.size<=w'.heap.size∧(∀b,b<w.heap.size->¬m.D b->w'.heap[b]? = w.heap[b]?)∧(w'.os=w.os∧w'.output=w.output)∧Vs.Dk w' ((mkD k0 l).map (E cI)) v m:=by
 have hx:∀i b,i<m.ss.length->m.xs i=some b->b<w.heap.size:=λi b hi H=>I.lt b (.inr ⟨i,hi,H⟩);refine(aDC k0 J (S:=λb=>S b∨m.x0=some b) hk (λb H=>H.elim (Y b) λh=>I.lt b (.inl h)) (Z.mono (λ_ h=>.inl h) λ_ _=>rfl) (I.root.mono (λ_ h=>.inr h) λ_ _=>rfl) (I.rows.mono (λi b hi H O=>O.elim (L b (.inr ⟨i,hi,H⟩)) ((I.rows.row i hi).no H)) λ_ _ _ _=>rfl) hx).mono ?_;rintro e w' ⟨rfl,q1,q2,q3,q4⟩;refine⟨rfl,q1,λb H U=>q2 b H λi hi h=>U (.inr ⟨i,hi,h⟩),q3,I.root.mono (λ_ h=>h) λb H=>q2 b (I.lt b (.inl H)) λi hi h=>(I.rows.row i hi).no h H,q4.mono (λi b hi H O=>(q4.row i hi).no H (.inr O)) λ_ _ _ _=>rfl,λb H=>AZ (I.lt b H) q1⟩
end Go.Proofs.YtkgeiaideklmoaaGreat
