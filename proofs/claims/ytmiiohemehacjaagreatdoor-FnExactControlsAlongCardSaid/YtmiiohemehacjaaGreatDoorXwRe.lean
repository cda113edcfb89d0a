/- Totals that are marked, and read back. -/
import Derived.Test.YtmiiohemehacjaaGreatDoorXuO
import Derived.Test.YtmiiohemehacjaaGreatDoorVtR
import Derived.Test.YtmiiohemehacjaaGreatDoorXuF
import Derived.Test.YtmiiohemehacjaaGreatDoorXwVf
set_option linter.all false
set_option maxHeartbeats 8000000
namespace Go.Proofs.YtmiiohemehacjaaGreatDoor
open Go.Vs
section
variable [Vs.Envs]
attribute [local irreducible] Vs.Fn chOK areCh chTo chAt l03
theorem hB1 {x:Blk}:∀j,j < [x].length->[Name.b 0][j]? = some (.b j):=by
 intro j F;have:j=0:=by simpa using F
 subst this;rfl
theorem aF2 {F:Blk} (h:Vs.iD F):∀b,some b∈[some F]->Vs.iD b:=by
 intro b H;have:b=F:=by simpa using H
 subst this;exact h
theorem wrap_u8 {n:Int} (F:0<=n) (H:n<=255):IntKind.u8.wrap n=n:=by
 simp[IntKind.wrap,IntKind.signed,IntKind.bits];omega
def dgs (n:Nat):ByteArray:=if h:n=0 then⟨#[]⟩ else dgs (n/10)++⟨#[UInt8.ofNat (48+n%10)]⟩
termination_by n
decreasing_by omega
theorem aGc:dgs 0=⟨#[]⟩:=by rw[dgs,dif_pos rfl]
theorem aIi {n:Nat} (h:n≠0):dgs n=dgs (n/10)++⟨#[UInt8.ofNat (48+n%10)]⟩:=by rw[dgs,dif_neg h]
theorem aKZ (n:Nat):(dgs n).size<=n:=by
 induction n using Nat.strongRecOn with
 | _ n ih =>
  by_cases h:n=0
  .subst h;rw[aGc];exact Nat.le_refl _
  .rw[aIi h,ByteArray.size_append];have:=ih (n/10) (by omega);have e:(ByteArray.mk #[UInt8.ofNat (48+n%10)]).size=1:=rfl;omega
def mtx (n:Nat):ByteArray:=⟨#[109]⟩++dgs n
theorem aNI (s:ByteArray):s++(⟨#[]⟩:ByteArray)=s:=by
 apply ByteArray.ext;simp
theorem aMs (s:ByteArray):(⟨#[]⟩:ByteArray)++s=s:=by
 apply ByteArray.ext;simp
theorem aFF (n:Nat) (h0:0<n) (hn:n<=1000000000):Fz F.nT [.v (.int .i64 n)] (.v (.string (mtx n))):=by
 have hd:decide ((n:Int)<=0)=false:=decide_eq_false (by omega);refine fn0 Cd.l_markText_k λX=>?_;simp -dsimp only[go_sem,hd];refine aN.at dM (X:={zz:Nat×ByteArray // zz.1<=n∧dgs zz.1++zz.2=dgs n}) (λzz=>[(0,.v (.int .i64 zz.1.1)),(3,.v (.string zz.1.2))]) (λ_=>[]) (λzz=>zz.1.1) ⟨(n,⟨#[]⟩),Nat.le_refl _,aNI _⟩ ?_ ?_
 .exact le0
 .rintro⟨⟨m,s⟩,hm,hg⟩;dsimp only at hm hg;simp -dsimp only[go_sem]
  have hsz:s.size<=n:=by
   have h1:=congrArg ByteArray.size hg;rw[ByteArray.size_append] at h1;have:=aKZ n;omega
  refine Br.mk (λhc=>?_) λhc=>?_
  .have hpos:m≠0:=by simp at hc;omega
   rw[aIi hpos,ByteArray.append_assoc] at hg;have q1:((m:Int)).tmod 10=((m%10:Nat):Int):=by rw[Int.tmod_eq_emod_of_nonneg (by omega)];omega
   have q2:IntKind.i64.wrap (((m:Int)).tdiv 10)=((m/10:Nat):Int):=by rw[Int.tdiv_eq_ediv_of_nonneg (by omega),aO (by omega) (by omega)];omega
   have q4:IntKind.i64.wrap (48+((m%10:Nat):Int))=((48+m%10:Nat):Int):=by rw[aO (by omega) (by omega)];omega
   have q5:IntKind.u8.wrap ((48+m%10:Nat):Int)=((48+m%10:Nat):Int):=wrap_u8 (by omega) (by omega);have q6:aCp [((48+m%10:Nat):Int)]=⟨#[UInt8.ofNat (48+m%10)]⟩:=by simp only[aCp,List.map_cons,List.map_nil,Int.toNat_natCast]
   have q7:(ByteArray.mk #[UInt8.ofNat (48+m%10)]).size+s.size<=9223372036854775807:=by
    have e:(ByteArray.mk #[UInt8.ofNat (48+m%10)]).size=1:=rfl;omega
   repeat' first|simp -dsimp only[go_sem,q1,q2,q4,q5,q6,rU,List.replicate_succ,List.replicate_zero,List.flatten_cons,List.flatten_nil]|apply Br.mk<;>intro h<;>try simp -dsimp only[h]|refine RgK.mk rfl ?_|refine And.intro (by first|rfl|omega|decide|exact q7|(refine⟨?_,?_⟩<;>(first|rfl|omega|decide|exact q7))|(refine⟨?_,?_,?_⟩<;>(first|rfl|omega|decide|exact q7))|(refine⟨?_,?_,?_,?_⟩<;>(first|rfl|omega|decide|exact q7))) ?_|fail
   all_goals(exact⟨⟨(m/10,⟨#[UInt8.ofNat (48+m%10)]⟩++s),by dsimp only;omega,hg⟩,by simp[Vs.LeL,Vs.look,Vs.aB,Vs.aR,Vs.aK,Vs.hset,Vs.aL],by simp only;omega⟩)
  .have hz:m=0:=by simp at hc;omega
   subst hz;rw[aGc,aMs] at hg;subst hg
   have q8:(ByteArray.mk #[109]).size+(dgs n).size<=9223372036854775807:=by
    have e:(ByteArray.mk #[109]).size=1:=rfl;omega
   simp -dsimp only[go_sem];exact⟨⟨q8,aU rfl⟩,λh=>h rfl⟩
end
section
variable [Vs.Envs]
attribute [local irreducible] Vs.Fn mtx chOK areCh chTo chAt l03 chB rk cd3 chI stp stpTo
def mT (k:Nat) (j:Nat):ByteArray×Int:=(mtx (k+2*j),(k+2*j+1:Nat))
set_option maxRecDepth 20000 in
theorem aGU (l:List (ByteArray×Int)) (k:Nat) (hl:l.length<=1048576) (hk0:0<k) (hk:k<=900000000):Vs.Fn Tryz.prog F.kK [.arr 2 (E cTt l) false] [.loc (.b 0) 0 l.length,.v (.int .i64 k)] (.v (.int .i64 (k+2*l.length:Nat))) [some (.arr 2 (E cTt (mkR (mT k) l l.length)) false)]:=by
 refine Cd.l_markTotalS_k.o.fn Tryz.mixed (hin:=[.arr 2 (E cTt l) false]) 28 _ [.b 0] [.arr 2 (E cTt (mkR (mT k) l l.length)) false] Cd.l_markTotalS_k.n Cd.l_markTotalS_k.r rfl (by simp) rfl hB1 λX=>?_;unfold Cd.kK;simp -dsimp only[go_sem];refine aN.at dM (X:={i:Nat // i<=l.length}) (λi=>[(0,.loc (.b 0) 0 l.length),(1,.v (.int .i64 (k+2*i.1:Nat))),(5,.v (.int .i64 i.1))]) (λi=>[(.b 0,.arr 2 (E cTt (mkR (mT k) l i.1)) false)]) (λi=>l.length-i.1) ⟨0,by omega⟩ ?_ ?_
 .simp[Vs.LeL,Vs.look,Vs.aB,Vs.aR,Vs.aK,Vs.hset,Vs.aL,aAA]
 .rintro⟨i,hi⟩;simp -dsimp only[go_sem];refine Br.mk (λhc=>?_) λhc=>?_
  .have hlt:i<l.length:=by simpa using hc
   have hw:=aH hlt hl;have w0:IntKind.i64.wrap (((k+2*i:Nat):Int)+1)=((k+2*i+1:Nat):Int):=by rw[aO (by omega) (by omega)];omega
   have w1:IntKind.i64.wrap (((k+2*i+1:Nat):Int)+1)=((k+2*(i+1):Nat):Int):=by rw[aO (by omega) (by omega)];omega
   have hlr:(mkR (mT k) l i).length=l.length:=fI _ l (by omega);have hgi:(E cTt (mkR (mT k) l i)).getD i []=cTt l[i]:=aB1 (c:=cTt) _ l hlt;have hgs:∀r,((E cTt (mkR (mT k) l i)).set i r).getD i []=r:=λr=>aEy (by rw[aI,hlr];exact hlt) r;have hst:(E cTt (mkR (mT k) l i)).set i [.v (.string (mtx (k+2*i))),.v (.int .i64 (k+2*i+1:Nat))]=E cTt (mkR (mT k) l (i+1)):=aB0 (c:=cTt) (mT k) l hlt
   repeat' first|simp -dsimp only[go_sem,hw,w0,w1,hgi,hgs,hst,hlr,cTt,aI,List.set_set,List.length_set,List.set_cons_zero,List.set_cons_succ,List.length_cons,List.length_nil]|apply Br.mk<;>intro h<;>try simp -dsimp only[h]|refine aD.c (by first|exact aFF (k+2*i) (by omega) (by omega)) ?_|refine aC ?_|fail
   all_goals(exact⟨⟨i+1,by omega⟩,by simp[Vs.LeL,Vs.look,Vs.aB,Vs.aR,Vs.aK,Vs.hset,Vs.aL],by simp only;omega⟩)
  .have hge:i=l.length:=by
    have:¬i<l.length:=by simpa using hc
    omega
   subst hge;simp -dsimp only[go_sem];exact⟨⟨_,_,rfl,rfl⟩,λh=>h rfl⟩
end
end Go.Proofs.YtmiiohemehacjaaGreatDoor
