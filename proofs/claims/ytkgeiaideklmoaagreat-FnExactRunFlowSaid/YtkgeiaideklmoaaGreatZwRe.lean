/- Totals that are marked, and read back. -/
import Derived.Test.YtkgeiaideklmoaaGreatZuO
import Derived.Test.YtkgeiaideklmoaaGreatVtR
import Derived.Test.YtkgeiaideklmoaaGreatZuS
import Derived.Test.YtkgeiaideklmoaaGreatZwVg
set_option linter.all false
set_option maxHeartbeats 8000000
namespace Go.Proofs.YtkgeiaideklmoaaGreat
open Go.Vs
section
variable [Vs.Envs]
attribute [local irreducible] Vs.Fn bK aO bL bM l03
theorem hB1 {x:Blk}:∀j,j < [x].length->[Name.b 0][j]? = some (.b j):=by
 intro j F;have:j=0:=by simpa using F
 subst this;rfl
theorem wrap_u8 {n:Int} (h0:0<=n) (F:n<=255):IntKind.u8.wrap n=n:=by
 simp[IntKind.wrap,IntKind.signed,IntKind.bits];omega
def dgs (n:Nat):ByteArray:=if h:n=0 then⟨#[]⟩ else dgs (n/10)++⟨#[UInt8.ofNat (48+n%10)]⟩
termination_by n
decreasing_by omega
theorem aGj:dgs 0=⟨#[]⟩:=by rw[dgs,dif_pos rfl]
theorem aIx {n:Nat} (h:n≠0):dgs n=dgs (n/10)++⟨#[UInt8.ofNat (48+n%10)]⟩:=by rw[dgs,dif_neg h]
theorem aLr (n:Nat):(dgs n).size<=n:=by
 induction n using Nat.strongRecOn with
 | _ n ih =>
  by_cases h:n=0
  .subst h;rw[aGj];exact Ar _
  .rw[aIx h,ByteArray.size_append];have:=ih (n/10) (by omega);have e:(ByteArray.mk #[UInt8.ofNat (48+n%10)]).size=1:=rfl;omega
def mtx (n:Nat):ByteArray:=⟨#[109]⟩++dgs n
theorem aOc (s:ByteArray):s++(⟨#[]⟩:ByteArray)=s:=by
 apply ByteArray.ext;simp
theorem aMT (s:ByteArray):(⟨#[]⟩:ByteArray)++s=s:=by
 apply ByteArray.ext;simp
theorem aC1 (n:Nat) (h0:0<n) (hn:n<=1000000000):Fz F.mP [.v (.int .i64 n)] (.v (.string (mtx n))):=by
 have hd:decide ((n:Int)<=0)=false:=AO (by omega);refine fn0 Cd.l_markText_k λX=>?_;simp -dsimp only[go_sem,hd];refine aM.at dM (X:={zz:Nat×ByteArray // zz.1<=n∧dgs zz.1++zz.2=dgs n}) (λzz=>[(0,.v (.int .i64 zz.1.1)),(3,.v (.string zz.1.2))]) (λ_=>[]) (λzz=>zz.1.1) ⟨(n,⟨#[]⟩),Ar _,aOc _⟩ ?_ ?_
 .exact le0
 .rintro⟨⟨m,s⟩,hm,hg⟩;dsimp only at hm hg;simp -dsimp only[go_sem]
  have hsz:s.size<=n:=by
   have h1:=Cj ByteArray.size hg;rw[ByteArray.size_append] at h1;have:=aLr n;omega
  refine Br.mk (λhc=>?_) λhc=>?_
  .have hpos:m≠0:=by simp at hc;omega
   rw[aIx hpos,ByteArray.append_assoc] at hg;have q1:((m:Int)).tmod 10=((m%10:Nat):Int):=by rw[Int.tmod_eq_emod_of_nonneg (by omega)];omega
   have q2:IntKind.i64.wrap (((m:Int)).tdiv 10)=((m/10:Nat):Int):=by rw[Int.tdiv_eq_ediv_of_nonneg (by omega),aR (by omega) (by omega)];omega
   have q4:IntKind.i64.wrap (48+((m%10:Nat):Int))=((48+m%10:Nat):Int):=by rw[aR (by omega) (by omega)];omega
   have q5:IntKind.u8.wrap ((48+m%10:Nat):Int)=((48+m%10:Nat):Int):=wrap_u8 (by omega) (by omega);have q6:aCy [((48+m%10:Nat):Int)]=⟨#[UInt8.ofNat (48+m%10)]⟩:=by simp only[aCy,BD,BX,BP]
   have q7:(ByteArray.mk #[UInt8.ofNat (48+m%10)]).size+s.size<=9223372036854775807:=by
    have e:(ByteArray.mk #[UInt8.ofNat (48+m%10)]).size=1:=rfl;omega
   repeat' first|simp -dsimp only[go_sem,q1,q2,q4,q5,q6,sO,Af,Ag,Al,Aq]|apply Br.mk<;>intro h<;>try simp -dsimp only[h]|refine RgK.mk rfl ?_|refine And.intro (by first|rfl|omega|decide|exact q7|(refine⟨?_,?_⟩<;>(first|rfl|omega|decide|exact q7))|(refine⟨?_,?_,?_⟩<;>(first|rfl|omega|decide|exact q7))|(refine⟨?_,?_,?_,?_⟩<;>(first|rfl|omega|decide|exact q7))) ?_|fail
   all_goals(exact⟨⟨(m/10,⟨#[UInt8.ofNat (48+m%10)]⟩++s),by dsimp only;omega,hg⟩,by simp[Vs.LeL,Vs.look,aA,aS,aJ,Vs.hset,aK],by simp only;omega⟩)
  .have hz:m=0:=by simp at hc;omega
   subst hz;rw[aGj,aMT] at hg;subst hg
   have q8:(ByteArray.mk #[109]).size+(dgs n).size<=9223372036854775807:=by
    have e:(ByteArray.mk #[109]).size=1:=rfl;omega
   simp -dsimp only[go_sem];exact⟨⟨q8,bN rfl⟩,λh=>h rfl⟩
end
section
variable [Vs.Envs]
attribute [local irreducible] Vs.Fn mtx bK aO bL bM l03 chB rk cd3 chI stp aP
def mT (k:Nat) (j:Nat):ByteArray×Int:=(mtx (k+2*j),(k+2*j+1:Nat))
set_option maxRecDepth 20000 in
theorem aG2 (l:List (ByteArray×Int)) (k:Nat) (hl:l.length<=1048576) (hk0:0<k) (hk:k<=900000000):Vs.Fn Tryz.prog F.lF [.arr 2 (E cTt l) false] [.loc (.b 0) 0 l.length,.v (.int .i64 k)] (.v (.int .i64 (k+2*l.length:Nat))) [some (.arr 2 (E cTt (mkR (mT k) l l.length)) false)]:=by
 refine Cd.l_markTotalS_k.o.fn Tryz.mixed (hin:=[.arr 2 (E cTt l) false]) 28 _ [.b 0] [.arr 2 (E cTt (mkR (mT k) l l.length)) false] Cd.l_markTotalS_k.n Cd.l_markTotalS_k.r rfl (by simp) rfl hB1 λX=>?_;unfold Cd.lF;simp -dsimp only[go_sem];refine aM.at dM (X:={i:Nat // i<=l.length}) (λi=>[(0,.loc (.b 0) 0 l.length),(1,.v (.int .i64 (k+2*i.1:Nat))),(5,.v (.int .i64 i.1))]) (λi=>[(.b 0,.arr 2 (E cTt (mkR (mT k) l i.1)) false)]) (λi=>l.length-i.1) ⟨0,by omega⟩ ?_ ?_
 .simp[Vs.LeL,Vs.look,aA,aS,aJ,Vs.hset,aK,aCX]
 .rintro⟨i,hi⟩;simp -dsimp only[go_sem];refine Br.mk (λhc=>?_) λhc=>?_
  .have hlt:i<l.length:=by simpa using hc
   have hw:=aG hlt hl;have w0:IntKind.i64.wrap (((k+2*i:Nat):Int)+1)=((k+2*i+1:Nat):Int):=by rw[aR (by omega) (by omega)];omega
   have w1:IntKind.i64.wrap (((k+2*i+1:Nat):Int)+1)=((k+2*(i+1):Nat):Int):=by rw[aR (by omega) (by omega)];omega
   have hlr:(mkR (mT k) l i).length=l.length:=iH _ l (by omega);have hgi:(E cTt (mkR (mT k) l i)).getD i []=cTt l[i]:=aES (c:=cTt) _ l hlt;have hgs:∀r,((E cTt (mkR (mT k) l i)).set i r).getD i []=r:=λr=>aHX (by rw[aH,hlr];exact hlt) r;have hst:(E cTt (mkR (mT k) l i)).set i [.v (.string (mtx (k+2*i))),.v (.int .i64 (k+2*i+1:Nat))]=E cTt (mkR (mT k) l (i+1)):=aER (c:=cTt) (mT k) l hlt
   repeat' first|simp -dsimp only[go_sem,hw,w0,w1,hgi,hgs,hst,hlr,cTt,aH,List.set_set,Am,Ac,Ak,Ab,Ah]|apply Br.mk<;>intro h<;>try simp -dsimp only[h]|refine aB.c (by first|exact aC1 (k+2*i) (by omega) (by omega)) ?_|refine aC ?_|fail
   all_goals(exact⟨⟨i+1,by omega⟩,by simp[Vs.LeL,Vs.look,aA,aS,aJ,Vs.hset,aK],by simp only;omega⟩)
  .have hge:i=l.length:=by
    have:¬i<l.length:=by simpa using hc
    omega
   subst hge;simp -dsimp only[go_sem];exact⟨⟨_,_,rfl,rfl⟩,λh=>h rfl⟩
set_option maxRecDepth 20000 in
theorem aHg (l:List (ByteArray×Int)) (k:Nat) (hl:l.length<=1048576) (hk0:0<k) (hk:k<=900000000):Fz F.nS [.sl 2 (E cTt (mkR (mT k) l l.length)),.v (.int .i64 k)] (.v (.int .i64 (k+2*l.length:Nat))):=by
 have hlr:(mkR (mT k) l l.length).length=l.length:=iH _ l (Ar _);refine fn0 Cd.l_heldTotalS_k λX=>?_;simp -dsimp only[go_sem];refine aM.at dM (X:={i:Nat // i<=l.length}) (λi=>[(1,.v (.int .i64 (k+2*i.1:Nat))),(5,.v (.int .i64 i.1))]) (λi=>[]) (λi=>l.length-i.1) ⟨0,by omega⟩ ?_ ?_
 .exact le0
 .rintro⟨i,hi⟩;simp -dsimp only[go_sem,aH,hlr];refine Br.mk (λhc=>?_) λhc=>?_
  .have hlt:i<l.length:=by simpa using hc
   have hw:=aG hlt hl;have w0:IntKind.i64.wrap (((k+2*i:Nat):Int)+1)=((k+2*i+1:Nat):Int):=by rw[aR (by omega) (by omega)];omega
   have w1:IntKind.i64.wrap (((k+2*i+1:Nat):Int)+1)=((k+2*(i+1):Nat):Int):=by rw[aR (by omega) (by omega)];omega
   have n0:(!((mtx (k+2*i)).toList==(mtx (k+2*i)).toList))=false:=by simp
   have n1:(((k+2*i+1:Nat):Int) != ((k+2*i+1:Nat):Int))=false:=by simp
   have hgi:(E cTt (mkR (mT k) l l.length)).getD i []=[.v (.string (mtx (k+2*i))),.v (.int .i64 (k+2*i+1:Nat))]:=by
    rw[aN (by rw[hlr];exact hlt)];simp only[aIc,DF,List.getElem_range];rfl
   repeat' first|simp -dsimp only[go_sem,hw,w0,w1,n0,n1,hgi,hlr,aH]|apply Br.mk<;>intro h<;>try simp -dsimp only[h]|refine aB.c (by first|exact aC1 (k+2*i) (by omega) (by omega)) ?_|refine aC ?_|fail
   all_goals(exact⟨⟨i+1,by omega⟩,by simp[Vs.LeL,Vs.look,aA,aS,aJ,Vs.hset,aK],by simp only;omega⟩)
  .have hge:i=l.length:=by
    have:¬i<l.length:=by simpa using hc
    omega
   subst hge;simp -dsimp only[go_sem];simp
end
end Go.Proofs.YtkgeiaideklmoaaGreat
