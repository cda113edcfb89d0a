/- Steps that are marked. -/
import Derived.Test.YthfnpdhpefialaaGreatYuO
import Derived.Test.YthfnpdhpefialaaGreatVtR
set_option linter.all false
set_option maxHeartbeats 8000000
namespace Go.Proofs.YthfnpdhpefialaaGreat
open Go.Vs
variable [Vs.Envs]
attribute [local irreducible] Vs.Fn chOK areCh chTo chAt l03
theorem hB1 {x:Blk}:∀j,j < [x].length→[Name.b 0][j]? = some (.b j):=by
 intro j hj
 have:j=0:=by simpa using hj
 subst this;rfl
theorem flat_one {b0:Blk} (h:Vs.flatB b0):∀b,some b∈[some b0]→Vs.flatB b:=by
 intro b hb
 have:b=b0:=by simpa using hb
 subst this;exact h
theorem wrap_u8 {n:Int} (h0:0≤n) (h1:n≤255):IntKind.u8.wrap n=n:=by
 simp[IntKind.wrap,IntKind.signed,IntKind.bits]
 omega
def dgs (n:Nat):ByteArray:=if h:n=0 then⟨#[]⟩ else dgs (n/10)++⟨#[UInt8.ofNat (48+n%10)]⟩
termination_by n
decreasing_by omega
theorem dgs_zero:dgs 0=⟨#[]⟩:=by rw[dgs,dif_pos rfl]
theorem dgs_pos {n:Nat} (h:n≠0):dgs n=dgs (n/10)++⟨#[UInt8.ofNat (48+n%10)]⟩:=by rw[dgs,dif_neg h]
theorem dgs_size (n:Nat):(dgs n).size≤n:=by
 induction n using Nat.strongRecOn with
 | _ n ih =>
  by_cases h:n=0
  ·subst h;rw[dgs_zero];exact Nat.le_refl _
  ·rw[dgs_pos h,ByteArray.size_append]
   have:=ih (n/10) (by omega)
   have e:(ByteArray.mk #[UInt8.ofNat (48+n%10)]).size=1:=rfl
   omega
def mtx (n:Nat):ByteArray:=⟨#[109]⟩++dgs n
theorem bempty (s:ByteArray):s++(⟨#[]⟩:ByteArray)=s:=by
 apply ByteArray.ext;simp
theorem bemptyl (s:ByteArray):(⟨#[]⟩:ByteArray)++s=s:=by
 apply ByteArray.ext;simp
theorem markText (n:Nat) (h0:0<n) (hn:n≤1000000000):Fz F.l_markText [.v (.int .i64 n)] (.v (.string (mtx n))):=by
 have hd:decide ((n:Int)≤0)=false:=decide_eq_false (by omega)
 refine fn0 Cd.l_markText_k fun X=>?_
 simp -dsimp only[go_sem,hd]
 refine LoopK.at dM (X:={zz:Nat×ByteArray // zz.1≤n∧dgs zz.1++zz.2=dgs n}) (fun zz=>[(0,.v (.int .i64 zz.1.1)),(3,.v (.string zz.1.2))]) (fun _=>[]) (fun zz=>zz.1.1) ⟨(n,⟨#[]⟩),Nat.le_refl _,bempty _⟩ ?_ ?_
 ·exact le0
 ·rintro⟨⟨m,s⟩,hm,hg⟩
  dsimp only at hm hg
  simp -dsimp only[go_sem]
  have hsz:s.size≤n:=by
   have h1:=congrArg ByteArray.size hg
   rw[ByteArray.size_append] at h1
   have:=dgs_size n
   omega
  refine Br.mk (fun hc=>?_) fun hc=>?_
  ·have hpos:m≠0:=by simp at hc;omega
   rw[dgs_pos hpos,ByteArray.append_assoc] at hg
   have q1:((m:Int)).tmod 10=((m%10:Nat):Int):=by rw[Int.tmod_eq_emod_of_nonneg (by omega)];omega
   have q2:IntKind.i64.wrap (((m:Int)).tdiv 10)=((m/10:Nat):Int):=by rw[Int.tdiv_eq_ediv_of_nonneg (by omega),wrap_in (by omega) (by omega)];omega
   have q4:IntKind.i64.wrap (48+((m%10:Nat):Int))=((48+m%10:Nat):Int):=by rw[wrap_in (by omega) (by omega)];omega
   have q5:IntKind.u8.wrap ((48+m%10:Nat):Int)=((48+m%10:Nat):Int):=wrap_u8 (by omega) (by omega)
   have q6:strB [((48+m%10:Nat):Int)]=⟨#[UInt8.ofNat (48+m%10)]⟩:=by simp only[strB,List.map_cons,List.map_nil,Int.toNat_natCast]
   have q7:(ByteArray.mk #[UInt8.ofNat (48+m%10)]).size+s.size≤9223372036854775807:=by
    have e:(ByteArray.mk #[UInt8.ofNat (48+m%10)]).size=1:=rfl
    omega
   repeat' first|simp -dsimp only[go_sem,q1,q2,q4,q5,q6,numsO,List.replicate_succ,List.replicate_zero,List.flatten_cons,List.flatten_nil]|apply Br.mk<;>intro h<;>try simp -dsimp only[h]|refine RgK.mk rfl ?_|refine And.intro (by first|rfl|omega|decide|exact q7|(refine⟨?_,?_⟩<;>(first|rfl|omega|decide|exact q7))|(refine⟨?_,?_,?_⟩<;>(first|rfl|omega|decide|exact q7))|(refine⟨?_,?_,?_,?_⟩<;>(first|rfl|omega|decide|exact q7))) ?_|fail
   all_goals(exact⟨⟨(m/10,⟨#[UInt8.ofNat (48+m%10)]⟩++s),by dsimp only;omega,hg⟩,by simp[Vs.LeL,Vs.look,Vs.hlook,Vs.sput,Vs.sputs,Vs.hset,Vs.hputs],by simp only;omega⟩)
  ·have hz:m=0:=by simp at hc;omega
   subst hz
   rw[dgs_zero,bemptyl] at hg
   subst hg
   have q8:(ByteArray.mk #[109]).size+(dgs n).size≤9223372036854775807:=by
    have e:(ByteArray.mk #[109]).size=1:=rfl
    omega
   simp -dsimp only[go_sem]
   exact⟨⟨q8,ret_eq rfl⟩,fun h=>h rfl⟩
end Go.Proofs.YthfnpdhpefialaaGreat
