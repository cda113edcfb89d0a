/- Totals that are marked, and read back. -/
import Derived.Test.YtkgeiaideklmoaaGreatZuO
import Derived.Test.YtkgeiaideklmoaaGreatVtR
import Derived.Test.YtkgeiaideklmoaaGreatZuS
import Derived.Test.YtkgeiaideklmoaaGreatZwVg
set_option linter.all false
set_option maxHeartbeats 8000000
namespace Go.Proofs.YtkgeiaideklmoaaGreat
open Go.Vs
section
variable [Vs.Envs]
attribute [local irreducible] Vs.Fn chOK areCh chTo chAt l03
theorem hB1 {x:Blk}:∀j,j < [x].length→[Name.b 0][j]? = some (.b j):=by
 intro j F;have:j=0:=by simpa using F
 subst this;rfl
theorem aJi {F:Blk} (h:Vs.iF F):∀b,some b∈[some F]→Vs.iF b:=by
 intro b G;have:b=F:=by simpa using G
 subst this;exact h
theorem wrap_u8 {n:Int} (F:0≤n) (G:n≤255):IntKind.u8.wrap n=n:=by
 simp[IntKind.wrap,IntKind.signed,IntKind.bits];omega
def dgs (n:Nat):ByteArray:=if h:n=0 then⟨#[]⟩ else dgs (n/10)++⟨#[UInt8.ofNat (48+n%10)]⟩
termination_by n
decreasing_by omega
theorem aE2:dgs 0=⟨#[]⟩:=by rw[dgs,dif_pos rfl]
theorem aGV {n:Nat} (h:n≠0):dgs n=dgs (n/10)++⟨#[UInt8.ofNat (48+n%10)]⟩:=by rw[dgs,dif_neg h]
theorem aJs (n:Nat):(dgs n).size≤n:=by
 induction n using Nat.strongRecOn with
 | _ n ih =>
  by_cases h:n=0
  ·subst h;rw[aE2];exact Nat.le_refl _
  ·rw[aGV h,ByteArray.size_append];have:=ih (n/10) (by omega);have e:(ByteArray.mk #[UInt8.ofNat (48+n%10)]).size=1:=rfl;omega
def mtx (n:Nat):ByteArray:=⟨#[109]⟩++dgs n
theorem aLU (s:ByteArray):s++(⟨#[]⟩:ByteArray)=s:=by
 apply ByteArray.ext;simp
theorem aKO (s:ByteArray):(⟨#[]⟩:ByteArray)++s=s:=by
 apply ByteArray.ext;simp
theorem aBX (n:Nat) (h0:0<n) (hn:n≤1000000000):Fz F.lK [.v (.int .i64 n)] (.v (.string (mtx n))):=by
 have hd:decide ((n:Int)≤0)=false:=decide_eq_false (by omega);refine fn0 Cd.l_markText_k fun X=>?_;simp -dsimp only[go_sem,hd];refine aN.at dM (X:={zz:Nat×ByteArray // zz.1≤n∧dgs zz.1++zz.2=dgs n}) (fun zz=>[(0,.v (.int .i64 zz.1.1)),(3,.v (.string zz.1.2))]) (fun _=>[]) (fun zz=>zz.1.1) ⟨(n,⟨#[]⟩),Nat.le_refl _,aLU _⟩ ?_ ?_
 ·exact le0
 ·rintro⟨⟨m,s⟩,hm,hg⟩;dsimp only at hm hg;simp -dsimp only[go_sem]
  have hsz:s.size≤n:=by
   have h1:=congrArg ByteArray.size hg;rw[ByteArray.size_append] at h1;have:=aJs n;omega
  refine Br.mk (fun hc=>?_) fun hc=>?_
  ·have hpos:m≠0:=by simp at hc;omega
   rw[aGV hpos,ByteArray.append_assoc] at hg;have q1:((m:Int)).tmod 10=((m%10:Nat):Int):=by rw[Int.tmod_eq_emod_of_nonneg (by omega)];omega
   have q2:IntKind.i64.wrap (((m:Int)).tdiv 10)=((m/10:Nat):Int):=by rw[Int.tdiv_eq_ediv_of_nonneg (by omega),aP (by omega) (by omega)];omega
   have q4:IntKind.i64.wrap (48+((m%10:Nat):Int))=((48+m%10:Nat):Int):=by rw[aP (by omega) (by omega)];omega
   have q5:IntKind.u8.wrap ((48+m%10:Nat):Int)=((48+m%10:Nat):Int):=wrap_u8 (by omega) (by omega);have q6:aBE [((48+m%10:Nat):Int)]=⟨#[UInt8.ofNat (48+m%10)]⟩:=by simp only[aBE,List.map_cons,List.map_nil,Int.toNat_natCast]
   have q7:(ByteArray.mk #[UInt8.ofNat (48+m%10)]).size+s.size≤9223372036854775807:=by
    have e:(ByteArray.mk #[UInt8.ofNat (48+m%10)]).size=1:=rfl;omega
   repeat' first|simp -dsimp only[go_sem,q1,q2,q4,q5,q6,qU,List.replicate_succ,List.replicate_zero,List.flatten_cons,List.flatten_nil]|apply Br.mk<;>intro h<;>try simp -dsimp only[h]|refine RgK.mk rfl ?_|refine And.intro (by first|rfl|omega|decide|exact q7|(refine⟨?_,?_⟩<;>(first|rfl|omega|decide|exact q7))|(refine⟨?_,?_,?_⟩<;>(first|rfl|omega|decide|exact q7))|(refine⟨?_,?_,?_,?_⟩<;>(first|rfl|omega|decide|exact q7))) ?_|fail
   all_goals(exact⟨⟨(m/10,⟨#[UInt8.ofNat (48+m%10)]⟩++s),by dsimp only;omega,hg⟩,by simp[Vs.LeL,Vs.look,Vs.aB,Vs.aQ,Vs.aL,Vs.hset,Vs.aM],by simp only;omega⟩)
  ·have hz:m=0:=by simp at hc;omega
   subst hz;rw[aE2,aKO] at hg;subst hg
   have q8:(ByteArray.mk #[109]).size+(dgs n).size≤9223372036854775807:=by
    have e:(ByteArray.mk #[109]).size=1:=rfl;omega
   simp -dsimp only[go_sem];exact⟨⟨q8,aV rfl⟩,fun h=>h rfl⟩
end
section
variable [Vs.Envs]
attribute [local irreducible] Vs.Fn chOK areCh chTo chAt l03
def mS (k:Nat) (j:Nat):Stp:=⟨(k+9*j:Nat),(k+9*j+1:Nat),(k+9*j+2:Nat),(k+9*j+3:Nat),(k+9*j+4:Nat),(k+9*j+5:Nat),(k+9*j+6:Nat),(k+9*j+7:Nat),mtx (k+9*j+8)⟩
theorem aD3 (l:List Stp) (G:l.length≤1048576):Vs.Fn Tryz.prog F.kI [] [.sl 9 (E cS l)] (.loc (.b 0) 0 l.length) [some (.arr 9 (E cS l) false)]:=
 aJR Tryz.mixed (g:=F.qW) (k:=9) (y:=80) (z:=[.v (.int .i64 (0)),.v (.int .i64 (0)),.v (.int .i64 (0)),.v (.int .i64 (0)),.v (.int .i64 (0)),.v (.int .i64 (0)),.v (.int .i64 (0)),.v (.int .i64 (0)),.v (.string ⟨#[]⟩)]) Cd.l_toStepS_k.o Cd.l_toStepS_k.n Cd.l_toStepS_k.r rfl (fun _=>rfl) (by decide) rfl rfl (fun _=>rfl) (fun x H=>aH3 x) G (by decide)
set_option maxRecDepth 20000 in
theorem aCK (l:List Stp) (k:Nat) (hl:l.length≤1048576) (hk0:0<k) (hk:k≤900000000):Vs.Fn Tryz.prog F.lV [.arr 9 (E cS l) false] [.loc (.b 0) 0 l.length,.v (.int .i64 k)] (.v (.int .i64 (k+9*l.length:Nat))) [some (.arr 9 (E cS (mkR (mS k) l l.length)) false)]:=by
 refine Cd.l_markStepS_k.o.fn Tryz.mixed (hin:=[.arr 9 (E cS l) false]) 81 _ [.b 0] [.arr 9 (E cS (mkR (mS k) l l.length)) false] Cd.l_markStepS_k.n Cd.l_markStepS_k.r rfl (by simp) rfl hB1 fun X=>?_;unfold Cd.lV;simp -dsimp only[go_sem];refine aN.at dM (X:={i:Nat // i≤l.length}) (fun i=>[(0,.loc (.b 0) 0 l.length),(1,.v (.int .i64 (k+9*i.1:Nat))),(5,.v (.int .i64 i.1))]) (fun i=>[(.b 0,.arr 9 (E cS (mkR (mS k) l i.1)) false)]) (fun i=>l.length-i.1) ⟨0,by omega⟩ ?_ ?_
 ·simp[Vs.LeL,Vs.look,Vs.aB,Vs.aQ,Vs.aL,Vs.hset,Vs.aM,aBU]
 ·rintro⟨i,hi⟩;simp -dsimp only[go_sem];refine Br.mk (fun hc=>?_) fun hc=>?_
  ·have hlt:i<l.length:=by simpa using hc
   have hw:=aH hlt hl;have w0:IntKind.i64.wrap (((k+9*i:Nat):Int)+1)=((k+9*i+1:Nat):Int):=by rw[aP (by omega) (by omega)];omega
   have w1:IntKind.i64.wrap (((k+9*i+1:Nat):Int)+1)=((k+9*i+2:Nat):Int):=by rw[aP (by omega) (by omega)];omega
   have w2:IntKind.i64.wrap (((k+9*i+2:Nat):Int)+1)=((k+9*i+3:Nat):Int):=by rw[aP (by omega) (by omega)];omega
   have w3:IntKind.i64.wrap (((k+9*i+3:Nat):Int)+1)=((k+9*i+4:Nat):Int):=by rw[aP (by omega) (by omega)];omega
   have w4:IntKind.i64.wrap (((k+9*i+4:Nat):Int)+1)=((k+9*i+5:Nat):Int):=by rw[aP (by omega) (by omega)];omega
   have w5:IntKind.i64.wrap (((k+9*i+5:Nat):Int)+1)=((k+9*i+6:Nat):Int):=by rw[aP (by omega) (by omega)];omega
   have w6:IntKind.i64.wrap (((k+9*i+6:Nat):Int)+1)=((k+9*i+7:Nat):Int):=by rw[aP (by omega) (by omega)];omega
   have w7:IntKind.i64.wrap (((k+9*i+7:Nat):Int)+1)=((k+9*i+8:Nat):Int):=by rw[aP (by omega) (by omega)];omega
   have w8:IntKind.i64.wrap (((k+9*i+8:Nat):Int)+1)=((k+9*(i+1):Nat):Int):=by rw[aP (by omega) (by omega)];omega
   have hlr:(mkR (mS k) l i).length=l.length:=gU _ l (by omega);have hgi:(E cS (mkR (mS k) l i)).getD i []=cS l[i]:=aDE (c:=cS) _ l hlt;have hgs:∀r,((E cS (mkR (mS k) l i)).set i r).getD i []=r:=fun r=>aGs (by rw[aI,hlr];exact hlt) r;have hst:(E cS (mkR (mS k) l i)).set i [.v (.int .i64 (k+9*i:Nat)),.v (.int .i64 (k+9*i+1:Nat)),.v (.int .i64 (k+9*i+2:Nat)),.v (.int .i64 (k+9*i+3:Nat)),.v (.int .i64 (k+9*i+4:Nat)),.v (.int .i64 (k+9*i+5:Nat)),.v (.int .i64 (k+9*i+6:Nat)),.v (.int .i64 (k+9*i+7:Nat)),.v (.string (mtx (k+9*i+8)))]=E cS (mkR (mS k) l (i+1)):=aDD (c:=cS) (mS k) l hlt
   repeat' first|simp -dsimp only[go_sem,hw,w0,w1,w2,w3,w4,w5,w6,w7,w8,hgi,hgs,hst,hlr,cS,aI,List.set_set,List.length_set,List.set_cons_zero,List.set_cons_succ,List.length_cons,List.length_nil]|apply Br.mk<;>intro h<;>try simp -dsimp only[h]|refine aD.c (by first|exact aBX (k+9*i+8) (by omega) (by omega)) ?_|refine aC ?_|fail
   all_goals(exact⟨⟨i+1,by omega⟩,by simp[Vs.LeL,Vs.look,Vs.aB,Vs.aQ,Vs.aL,Vs.hset,Vs.aM],by simp only;omega⟩)
  ·have hge:i=l.length:=by
    have:¬i<l.length:=by simpa using hc
    omega
   subst hge;simp -dsimp only[go_sem];exact⟨⟨_,_,rfl,rfl⟩,fun h=>h rfl⟩
end
section
variable [Vs.Envs]
attribute [local irreducible] Vs.Fn mtx chOK areCh chTo chAt l03 chB rk cd3 chI stp stpTo
def mT (k:Nat) (j:Nat):ByteArray×Int:=(mtx (k+2*j),(k+2*j+1:Nat))
set_option maxRecDepth 20000 in
theorem aFE (l:List (ByteArray×Int)) (k:Nat) (hl:l.length≤1048576) (hk0:0<k) (hk:k≤900000000):Vs.Fn Tryz.prog F.iK [.arr 2 (E cTt l) false] [.loc (.b 0) 0 l.length,.v (.int .i64 k)] (.v (.int .i64 (k+2*l.length:Nat))) [some (.arr 2 (E cTt (mkR (mT k) l l.length)) false)]:=by
 refine Cd.l_markTotalS_k.o.fn Tryz.mixed (hin:=[.arr 2 (E cTt l) false]) 28 _ [.b 0] [.arr 2 (E cTt (mkR (mT k) l l.length)) false] Cd.l_markTotalS_k.n Cd.l_markTotalS_k.r rfl (by simp) rfl hB1 fun X=>?_;unfold Cd.iK;simp -dsimp only[go_sem];refine aN.at dM (X:={i:Nat // i≤l.length}) (fun i=>[(0,.loc (.b 0) 0 l.length),(1,.v (.int .i64 (k+2*i.1:Nat))),(5,.v (.int .i64 i.1))]) (fun i=>[(.b 0,.arr 2 (E cTt (mkR (mT k) l i.1)) false)]) (fun i=>l.length-i.1) ⟨0,by omega⟩ ?_ ?_
 ·simp[Vs.LeL,Vs.look,Vs.aB,Vs.aQ,Vs.aL,Vs.hset,Vs.aM,aBU]
 ·rintro⟨i,hi⟩;simp -dsimp only[go_sem];refine Br.mk (fun hc=>?_) fun hc=>?_
  ·have hlt:i<l.length:=by simpa using hc
   have hw:=aH hlt hl;have w0:IntKind.i64.wrap (((k+2*i:Nat):Int)+1)=((k+2*i+1:Nat):Int):=by rw[aP (by omega) (by omega)];omega
   have w1:IntKind.i64.wrap (((k+2*i+1:Nat):Int)+1)=((k+2*(i+1):Nat):Int):=by rw[aP (by omega) (by omega)];omega
   have hlr:(mkR (mT k) l i).length=l.length:=gU _ l (by omega);have hgi:(E cTt (mkR (mT k) l i)).getD i []=cTt l[i]:=aDE (c:=cTt) _ l hlt;have hgs:∀r,((E cTt (mkR (mT k) l i)).set i r).getD i []=r:=fun r=>aGs (by rw[aI,hlr];exact hlt) r;have hst:(E cTt (mkR (mT k) l i)).set i [.v (.string (mtx (k+2*i))),.v (.int .i64 (k+2*i+1:Nat))]=E cTt (mkR (mT k) l (i+1)):=aDD (c:=cTt) (mT k) l hlt
   repeat' first|simp -dsimp only[go_sem,hw,w0,w1,hgi,hgs,hst,hlr,cTt,aI,List.set_set,List.length_set,List.set_cons_zero,List.set_cons_succ,List.length_cons,List.length_nil]|apply Br.mk<;>intro h<;>try simp -dsimp only[h]|refine aD.c (by first|exact aBX (k+2*i) (by omega) (by omega)) ?_|refine aC ?_|fail
   all_goals(exact⟨⟨i+1,by omega⟩,by simp[Vs.LeL,Vs.look,Vs.aB,Vs.aQ,Vs.aL,Vs.hset,Vs.aM],by simp only;omega⟩)
  ·have hge:i=l.length:=by
    have:¬i<l.length:=by simpa using hc
    omega
   subst hge;simp -dsimp only[go_sem];exact⟨⟨_,_,rfl,rfl⟩,fun h=>h rfl⟩
set_option maxRecDepth 20000 in
theorem aFQ (l:List (ByteArray×Int)) (k:Nat) (hl:l.length≤1048576) (hk0:0<k) (hk:k≤900000000):Fz F.iM [.sl 2 (E cTt (mkR (mT k) l l.length)),.v (.int .i64 k)] (.v (.int .i64 (k+2*l.length:Nat))):=by
 have hlr:(mkR (mT k) l l.length).length=l.length:=gU _ l (Nat.le_refl _);refine fn0 Cd.l_heldTotalS_k fun X=>?_;simp -dsimp only[go_sem];refine aN.at dM (X:={i:Nat // i≤l.length}) (fun i=>[(1,.v (.int .i64 (k+2*i.1:Nat))),(5,.v (.int .i64 i.1))]) (fun i=>[]) (fun i=>l.length-i.1) ⟨0,by omega⟩ ?_ ?_
 ·exact le0
 ·rintro⟨i,hi⟩;simp -dsimp only[go_sem,aI,hlr];refine Br.mk (fun hc=>?_) fun hc=>?_
  ·have hlt:i<l.length:=by simpa using hc
   have hw:=aH hlt hl;have w0:IntKind.i64.wrap (((k+2*i:Nat):Int)+1)=((k+2*i+1:Nat):Int):=by rw[aP (by omega) (by omega)];omega
   have w1:IntKind.i64.wrap (((k+2*i+1:Nat):Int)+1)=((k+2*(i+1):Nat):Int):=by rw[aP (by omega) (by omega)];omega
   have n0:(!((mtx (k+2*i)).toList==(mtx (k+2*i)).toList))=false:=by simp
   have n1:(((k+2*i+1:Nat):Int) != ((k+2*i+1:Nat):Int))=false:=by simp
   have hgi:(E cTt (mkR (mT k) l l.length)).getD i []=[.v (.string (mtx (k+2*i))),.v (.int .i64 (k+2*i+1:Nat))]:=by
    rw[aS (by rw[hlr];exact hlt)];simp only[aKi,List.getElem_map,List.getElem_range];rfl
   repeat' first|simp -dsimp only[go_sem,hw,w0,w1,n0,n1,hgi,hlr,aI]|apply Br.mk<;>intro h<;>try simp -dsimp only[h]|refine aD.c (by first|exact aBX (k+2*i) (by omega) (by omega)) ?_|refine aC ?_|fail
   all_goals(exact⟨⟨i+1,by omega⟩,by simp[Vs.LeL,Vs.look,Vs.aB,Vs.aQ,Vs.aL,Vs.hset,Vs.aM],by simp only;omega⟩)
  ·have hge:i=l.length:=by
    have:¬i<l.length:=by simpa using hc
    omega
   subst hge;simp -dsimp only[go_sem];simp
theorem aFW  : Fz F.iN [.v (.slice none 0 0),.v (.slice none 0 0)] (.v (.bool true)):=by
 refine fn0 Cd.l_eqTotalS_k fun X=>?_;simp -dsimp only[go_sem];refine aN.at dM (X:=Unit) (fun _=>[]) (fun _=>[]) (fun _=>0) () ?_ ?_
 ·exact le0
 ·rintro⟨⟩;simp -dsimp only[go_sem];refine Br.mk (fun h=>absurd h (by decide)) fun _=>?_;simp -dsimp only[go_sem];exact⟨aV rfl,fun h=>h rfl⟩
theorem aIW (k:Int):Fz F.iK [.v (.slice none 0 0),.v (.int .i64 k)] (.v (.int .i64 k)):=by
 refine fn0 Cd.l_markTotalS_k fun X=>?_;simp -dsimp only[go_sem];refine aN.at dM (X:=Unit) (fun _=>[]) (fun _=>[]) (fun _=>0) () ?_ ?_
 ·exact le0
 ·rintro⟨⟩;simp -dsimp only[go_sem];refine Br.mk (fun h=>absurd h (by decide)) fun _=>?_;simp -dsimp only[go_sem];exact⟨aV rfl,fun h=>h rfl⟩
theorem aJa (k:Int):Fz F.iM [.v (.slice none 0 0),.v (.int .i64 k)] (.v (.int .i64 k)):=by
 refine fn0 Cd.l_heldTotalS_k fun X=>?_;simp -dsimp only[go_sem];refine aN.at dM (X:=Unit) (fun _=>[]) (fun _=>[]) (fun _=>0) () ?_ ?_
 ·exact le0
 ·rintro⟨⟩;simp -dsimp only[go_sem];refine Br.mk (fun h=>absurd h (by decide)) fun _=>?_;simp -dsimp only[go_sem];exact⟨aV rfl,fun h=>h rfl⟩
end
end Go.Proofs.YtkgeiaideklmoaaGreat
