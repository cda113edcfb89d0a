/- A deck is read by a tabulator: the reference. -/
import Derived.Test.YtkgeiaideklmoaaGreatZwVg
import Derived.Test.YtkgeiaideklmoaaGreatZwSq
import Derived.Test.YtkgeiaideklmoaaGreatZwSh
import Derived.Test.YtkgeiaideklmoaaGreatVtR
set_option linter.all false
set_option maxHeartbeats 8000000
namespace Go.Proofs.YtkgeiaideklmoaaGreat
open Go.Vs
section
variable [Vs.Envs]
attribute [local irreducible] Vs.Fn flt zR areCh chTo chAt stp stpTo
set_option maxRecDepth 100000 in
theorem aG0:∀n:Nat,n<256→chOK (n:Int)=true→0≤rk (cd3 (n:Int))∧chI (cd3 (n:Int))=(n:Int):=by decide +kernel
attribute [local irreducible] chOK rk cd3 chI
theorem aDa {s:ByteArray} (h:areCh s=true):∀b,b∈s.data.toList→chOK (b.toNat:Int)=true:=by
 unfold areCh at h;exact List.all_eq_true.1 h
theorem aHL {s:ByteArray} (h:areCh s=true):bY (bcd s)=true:=by
 unfold bY bcd;rw[List.all_eq_true];intro x G;obtain⟨b,F,rfl⟩:=List.mem_map.1 G;exact decide_eq_true (aG0 b.toNat (UInt8.toNat_lt _) (aDa h b F)).1
theorem aJQ {s:ByteArray} (h:areCh s=true):txt (bcd s)=s:=by
 have e:(bcd s).map chI=s.data.toList.map fun b=>(b.toNat:Int):=by
  unfold bcd;rw[List.map_map];refine List.map_congr_left fun b G=>?_;exact(aG0 b.toNat (UInt8.toNat_lt _) (aDa h b G)).2
 unfold txt aBE;rw[e,List.map_map]
 have F:(s.data.toList.map ((fun n:Int=>UInt8.ofNat n.toNat)∘fun b:UInt8=>(b.toNat:Int)))=s.data.toList:=by
  rw[show((fun n:Int=>UInt8.ofNat n.toNat)∘fun b:UInt8=>(b.toNat:Int))=id from funext fun b=>by simp];simp
 rw[F]
theorem aKd {s:ByteArray}{w:Nat} (h:s.size=w):pun s w=bcd s:=by
 unfold pun;rw[h,Nat.sub_self];simp
theorem aKw {fr to:Int}{c:List Int}{s:ByteArray} (J:okF fr to c) (hh:bY (fH fr to c)=true) (I:s.size=to.toNat-fr.toNat) (H:areCh s=true) :
  ((txt (fH fr to c)).toList==s.toList) = !gY fr to s c:=by
 have G:=aDi (a:=fH fr to c) (b:=bcd s) (by rw[kQ J,aBz,I]) hh (aHL H);rw[aJQ H] at G;rw[G];unfold gY cmT;rw[aKd I];generalize iR (fH fr to c) (bcd s)=v;by_cases F:v=0
 ·subst F;rfl
 ·have e:(v==0)=false:=beq_eq_false_iff_ne.2 F;rw[e];rcases Int.lt_or_gt_of_ne F with h|h<;>simp[h]
theorem aJZ {fr to:Int}{s:ByteArray}{l:List (List Int)}:fI fr to s l=if aX fr to l=0∨aX fr to l=8 then(if l09 s fr to=0 then aX fr to l else l09 s fr to) else aX fr to l:=by
 unfold fI x8 aX l09;cases h1:bB l<;>cases h2:d9 fr to (bD l)<;>cases h5:bP fr to l<;>by_cases F:(s.size:Int)=W (to-fr)<;>cases h4:areCh s<;>simp[h1,h2,F,h4,h5]
end
section
variable [Vs.Envs]
attribute [local irreducible] Vs.Fn pun cmT flt zR gY chOK areCh chTo chAt l03 chB rk cd3 chI stp stpTo
def aHW (fr to:Int) (s:ByteArray) (l:List (List Int)):AV:=if fI fr to s l=0 then .sl 1 (E cSt (bO fr to l)) else .v (.slice none 0 0)
theorem aIZ (s:ByteArray) (a b:Int):l09 s a b=2∨l09 s a b=0∨l09 s a b=7:=by
 unfold l09;split
 ·exact .inl rfl
 ·split
  ·exact .inr (.inl rfl)
  ·exact .inr (.inr rfl)
theorem aKy (fr to:Int) (l:List (List Int)):aX fr to l=0∨aX fr to l=8∨aX fr to l=1∨aX fr to l=2:=by
 unfold aX;split
 ·split
  ·split<;>simp
  ·simp
 ·simp
attribute [local go_sem] Int.reduceBEq Int.reduceBNe List.replicate_succ List.replicate_zero List.flatten_cons List.flatten_nil List.cons_append List.nil_append List.set_cons_zero List.set_cons_succ List.length_cons List.length_nil List.length_set in
theorem aLC (l:List (List Int)) (fr to:Int) (s:ByteArray) (hk:aU l) (hz:s.size≤1048576):Fz F.vV [.sl 1 (E cC l),.agg (cFd fr to),.sl 1 [[.v (.string s)]]] (.tup [aHW fr to s l,.v (.int .i64 (fI fr to s l))]):=by
 have KS:=jP l fr to hk.2 hk.1;have TX:=aGL s fr to hz;have hsc:=aJZ (fr:=fr) (to:=to) (s:=s) (l:=l);unfold aHW;rcases aKy fr to l with hc|hc|hc|hc
 ·rcases aIZ s fr to with hb|hb|hb
  ·rw[show gK fr to l=.sl 1 (E cSt (bO fr to l)) by simp[gK,hc],hc] at KS;have hs0:fI fr to s l=2:=by rw[hsc];simp[hc,hb]
   rw[hb] at TX;rw[hs0];simp only[if_true,if_false,Int.reduceEq];refine fn0 Cd.s_l09Ask_k fun X=>?_
   repeat' first|simp -dsimp only[go_sem,cC,cFd]|apply Br.mk<;>intro h<;>try simp -dsimp only[h]|refine aD.c (by first|exact KS|exact TX) ?_|refine aC ?_|fail
   refine aN.at dM (X:={zz:Nat×(Unit) // zz.1≤1∧True}) (fun zz=>[(10,.v (.int .i64 (if zz.1.1=0 then 0 else 2))),(11,.v (.int .i64 zz.1.1))]) (fun zz=>[]) (fun zz=>1-zz.1.1) ⟨(0,()),by omega,trivial⟩ ?_ ?_
   ·exact le0
   ·rintro⟨⟨i,_⟩,hi,hg⟩;dsimp only at hi hg;simp -dsimp only[go_sem,cC,cFd];refine Br.mk (fun hc=>?_) fun hc=>?_
    ·have hlt:i<1:=Dq;have hw:=aH hlt (by omega);obtain rfl:i=0:=by omega
     repeat' first|simp -dsimp only[go_sem,cC,cFd,hw]|apply Br.mk<;>intro h<;>try simp -dsimp only[h]|refine aD.c (by first|exact TX) ?_|refine aC ?_|fail
     all_goals first|exact fun _=>⟨⟨_,_,rfl,rfl⟩,fun h=>h rfl⟩|omega|exact⟨_,_,rfl,rfl⟩|exact⟨⟨_,_,rfl,rfl⟩,fun h=>h rfl⟩|exact⟨fun _=>⟨_,_,rfl,rfl⟩,fun h=>absurd rfl h⟩|(exact nx (1,()) trivial)
    ·have hge:i=1:=by
      have:¬i<1:=Dq;omega
     subst hge;simp -dsimp only[go_sem,cC,cFd]
     first|exact⟨⟨_,_,rfl,rfl⟩,fun h=>h rfl⟩|omega|exact⟨_,_,rfl,rfl⟩|exact⟨⟨_,_,rfl,rfl⟩,fun h=>h rfl⟩|exact⟨fun _=>⟨_,_,rfl,rfl⟩,fun h=>absurd rfl h⟩
  ·rw[show gK fr to l=.sl 1 (E cSt (bO fr to l)) by simp[gK,hc],hc] at KS;have hs0:fI fr to s l=0:=by rw[hsc];simp[hc,hb]
   rw[hb] at TX;rw[hs0];simp only[if_true,if_false,Int.reduceEq];refine fn0 Cd.s_l09Ask_k fun X=>?_
   repeat' first|simp -dsimp only[go_sem,cC,cFd]|apply Br.mk<;>intro h<;>try simp -dsimp only[h]|refine aD.c (by first|exact KS|exact TX) ?_|refine aC ?_|fail
   refine aN.at dM (X:={zz:Nat×(Unit) // zz.1≤1∧True}) (fun zz=>[(10,.v (.int .i64 (if zz.1.1=0 then 0 else 0))),(11,.v (.int .i64 zz.1.1))]) (fun zz=>[]) (fun zz=>1-zz.1.1) ⟨(0,()),by omega,trivial⟩ ?_ ?_
   ·exact le0
   ·rintro⟨⟨i,_⟩,hi,hg⟩;dsimp only at hi hg;simp -dsimp only[go_sem,cC,cFd];refine Br.mk (fun hc=>?_) fun hc=>?_
    ·have hlt:i<1:=Dq;have hw:=aH hlt (by omega);obtain rfl:i=0:=by omega
     repeat' first|simp -dsimp only[go_sem,cC,cFd,hw]|apply Br.mk<;>intro h<;>try simp -dsimp only[h]|refine aD.c (by first|exact TX) ?_|refine aC ?_|fail
     all_goals first|exact fun _=>⟨⟨_,_,rfl,rfl⟩,fun h=>h rfl⟩|omega|exact⟨_,_,rfl,rfl⟩|exact⟨⟨_,_,rfl,rfl⟩,fun h=>h rfl⟩|exact⟨fun _=>⟨_,_,rfl,rfl⟩,fun h=>absurd rfl h⟩|(exact nx (1,()) trivial)
    ·have hge:i=1:=by
      have:¬i<1:=Dq;omega
     subst hge;simp -dsimp only[go_sem,cC,cFd]
     first|exact⟨⟨_,_,rfl,rfl⟩,fun h=>h rfl⟩|omega|exact⟨_,_,rfl,rfl⟩|exact⟨⟨_,_,rfl,rfl⟩,fun h=>h rfl⟩|exact⟨fun _=>⟨_,_,rfl,rfl⟩,fun h=>absurd rfl h⟩
  ·rw[show gK fr to l=.sl 1 (E cSt (bO fr to l)) by simp[gK,hc],hc] at KS;have hs0:fI fr to s l=7:=by rw[hsc];simp[hc,hb]
   rw[hb] at TX;rw[hs0];simp only[if_true,if_false,Int.reduceEq];refine fn0 Cd.s_l09Ask_k fun X=>?_
   repeat' first|simp -dsimp only[go_sem,cC,cFd]|apply Br.mk<;>intro h<;>try simp -dsimp only[h]|refine aD.c (by first|exact KS|exact TX) ?_|refine aC ?_|fail
   refine aN.at dM (X:={zz:Nat×(Unit) // zz.1≤1∧True}) (fun zz=>[(10,.v (.int .i64 (if zz.1.1=0 then 0 else 7))),(11,.v (.int .i64 zz.1.1))]) (fun zz=>[]) (fun zz=>1-zz.1.1) ⟨(0,()),by omega,trivial⟩ ?_ ?_
   ·exact le0
   ·rintro⟨⟨i,_⟩,hi,hg⟩;dsimp only at hi hg;simp -dsimp only[go_sem,cC,cFd];refine Br.mk (fun hc=>?_) fun hc=>?_
    ·have hlt:i<1:=Dq;have hw:=aH hlt (by omega);obtain rfl:i=0:=by omega
     repeat' first|simp -dsimp only[go_sem,cC,cFd,hw]|apply Br.mk<;>intro h<;>try simp -dsimp only[h]|refine aD.c (by first|exact TX) ?_|refine aC ?_|fail
     all_goals first|exact fun _=>⟨⟨_,_,rfl,rfl⟩,fun h=>h rfl⟩|omega|exact⟨_,_,rfl,rfl⟩|exact⟨⟨_,_,rfl,rfl⟩,fun h=>h rfl⟩|exact⟨fun _=>⟨_,_,rfl,rfl⟩,fun h=>absurd rfl h⟩|(exact nx (1,()) trivial)
    ·have hge:i=1:=by
      have:¬i<1:=Dq;omega
     subst hge;simp -dsimp only[go_sem,cC,cFd]
     first|exact⟨⟨_,_,rfl,rfl⟩,fun h=>h rfl⟩|omega|exact⟨_,_,rfl,rfl⟩|exact⟨⟨_,_,rfl,rfl⟩,fun h=>h rfl⟩|exact⟨fun _=>⟨_,_,rfl,rfl⟩,fun h=>absurd rfl h⟩
 ·rcases aIZ s fr to with hb|hb|hb
  ·rw[show gK fr to l=.v (.slice none 0 0) by simp[gK,hc],hc] at KS;have hs0:fI fr to s l=2:=by rw[hsc];simp[hc,hb]
   rw[hb] at TX;rw[hs0];simp only[if_true,if_false,Int.reduceEq];refine fn0 Cd.s_l09Ask_k fun X=>?_
   repeat' first|simp -dsimp only[go_sem,cC,cFd]|apply Br.mk<;>intro h<;>try simp -dsimp only[h]|refine aD.c (by first|exact KS|exact TX) ?_|refine aC ?_|fail
   refine aN.at dM (X:={zz:Nat×(Unit) // zz.1≤1∧True}) (fun zz=>[(10,.v (.int .i64 (if zz.1.1=0 then 0 else 2))),(11,.v (.int .i64 zz.1.1))]) (fun zz=>[]) (fun zz=>1-zz.1.1) ⟨(0,()),by omega,trivial⟩ ?_ ?_
   ·exact le0
   ·rintro⟨⟨i,_⟩,hi,hg⟩;dsimp only at hi hg;simp -dsimp only[go_sem,cC,cFd];refine Br.mk (fun hc=>?_) fun hc=>?_
    ·have hlt:i<1:=Dq;have hw:=aH hlt (by omega);obtain rfl:i=0:=by omega
     repeat' first|simp -dsimp only[go_sem,cC,cFd,hw]|apply Br.mk<;>intro h<;>try simp -dsimp only[h]|refine aD.c (by first|exact TX) ?_|refine aC ?_|fail
     all_goals first|exact fun _=>⟨⟨_,_,rfl,rfl⟩,fun h=>h rfl⟩|omega|exact⟨_,_,rfl,rfl⟩|exact⟨⟨_,_,rfl,rfl⟩,fun h=>h rfl⟩|exact⟨fun _=>⟨_,_,rfl,rfl⟩,fun h=>absurd rfl h⟩|(exact nx (1,()) trivial)
    ·have hge:i=1:=by
      have:¬i<1:=Dq;omega
     subst hge;simp -dsimp only[go_sem,cC,cFd]
     first|exact⟨⟨_,_,rfl,rfl⟩,fun h=>h rfl⟩|omega|exact⟨_,_,rfl,rfl⟩|exact⟨⟨_,_,rfl,rfl⟩,fun h=>h rfl⟩|exact⟨fun _=>⟨_,_,rfl,rfl⟩,fun h=>absurd rfl h⟩
  ·rw[show gK fr to l=.v (.slice none 0 0) by simp[gK,hc],hc] at KS;have hs0:fI fr to s l=8:=by rw[hsc];simp[hc,hb]
   rw[hb] at TX;rw[hs0];simp only[if_true,if_false,Int.reduceEq];refine fn0 Cd.s_l09Ask_k fun X=>?_
   repeat' first|simp -dsimp only[go_sem,cC,cFd]|apply Br.mk<;>intro h<;>try simp -dsimp only[h]|refine aD.c (by first|exact KS|exact TX) ?_|refine aC ?_|fail
   refine aN.at dM (X:={zz:Nat×(Unit) // zz.1≤1∧True}) (fun zz=>[(10,.v (.int .i64 (if zz.1.1=0 then 0 else 0))),(11,.v (.int .i64 zz.1.1))]) (fun zz=>[]) (fun zz=>1-zz.1.1) ⟨(0,()),by omega,trivial⟩ ?_ ?_
   ·exact le0
   ·rintro⟨⟨i,_⟩,hi,hg⟩;dsimp only at hi hg;simp -dsimp only[go_sem,cC,cFd];refine Br.mk (fun hc=>?_) fun hc=>?_
    ·have hlt:i<1:=Dq;have hw:=aH hlt (by omega);obtain rfl:i=0:=by omega
     repeat' first|simp -dsimp only[go_sem,cC,cFd,hw]|apply Br.mk<;>intro h<;>try simp -dsimp only[h]|refine aD.c (by first|exact TX) ?_|refine aC ?_|fail
     all_goals first|exact fun _=>⟨⟨_,_,rfl,rfl⟩,fun h=>h rfl⟩|omega|exact⟨_,_,rfl,rfl⟩|exact⟨⟨_,_,rfl,rfl⟩,fun h=>h rfl⟩|exact⟨fun _=>⟨_,_,rfl,rfl⟩,fun h=>absurd rfl h⟩|(exact nx (1,()) trivial)
    ·have hge:i=1:=by
      have:¬i<1:=Dq;omega
     subst hge;simp -dsimp only[go_sem,cC,cFd]
     first|exact⟨⟨_,_,rfl,rfl⟩,fun h=>h rfl⟩|omega|exact⟨_,_,rfl,rfl⟩|exact⟨⟨_,_,rfl,rfl⟩,fun h=>h rfl⟩|exact⟨fun _=>⟨_,_,rfl,rfl⟩,fun h=>absurd rfl h⟩
  ·rw[show gK fr to l=.v (.slice none 0 0) by simp[gK,hc],hc] at KS;have hs0:fI fr to s l=7:=by rw[hsc];simp[hc,hb]
   rw[hb] at TX;rw[hs0];simp only[if_true,if_false,Int.reduceEq];refine fn0 Cd.s_l09Ask_k fun X=>?_
   repeat' first|simp -dsimp only[go_sem,cC,cFd]|apply Br.mk<;>intro h<;>try simp -dsimp only[h]|refine aD.c (by first|exact KS|exact TX) ?_|refine aC ?_|fail
   refine aN.at dM (X:={zz:Nat×(Unit) // zz.1≤1∧True}) (fun zz=>[(10,.v (.int .i64 (if zz.1.1=0 then 0 else 7))),(11,.v (.int .i64 zz.1.1))]) (fun zz=>[]) (fun zz=>1-zz.1.1) ⟨(0,()),by omega,trivial⟩ ?_ ?_
   ·exact le0
   ·rintro⟨⟨i,_⟩,hi,hg⟩;dsimp only at hi hg;simp -dsimp only[go_sem,cC,cFd];refine Br.mk (fun hc=>?_) fun hc=>?_
    ·have hlt:i<1:=Dq;have hw:=aH hlt (by omega);obtain rfl:i=0:=by omega
     repeat' first|simp -dsimp only[go_sem,cC,cFd,hw]|apply Br.mk<;>intro h<;>try simp -dsimp only[h]|refine aD.c (by first|exact TX) ?_|refine aC ?_|fail
     all_goals first|exact fun _=>⟨⟨_,_,rfl,rfl⟩,fun h=>h rfl⟩|omega|exact⟨_,_,rfl,rfl⟩|exact⟨⟨_,_,rfl,rfl⟩,fun h=>h rfl⟩|exact⟨fun _=>⟨_,_,rfl,rfl⟩,fun h=>absurd rfl h⟩|(exact nx (1,()) trivial)
    ·have hge:i=1:=by
      have:¬i<1:=Dq;omega
     subst hge;simp -dsimp only[go_sem,cC,cFd]
     first|exact⟨⟨_,_,rfl,rfl⟩,fun h=>h rfl⟩|omega|exact⟨_,_,rfl,rfl⟩|exact⟨⟨_,_,rfl,rfl⟩,fun h=>h rfl⟩|exact⟨fun _=>⟨_,_,rfl,rfl⟩,fun h=>absurd rfl h⟩
 ·rw[show gK fr to l=.v (.slice none 0 0) by simp[gK,hc],hc] at KS;have hs0:fI fr to s l=1:=by rw[hsc];simp[hc]
  rw[hs0];simp only[if_true,if_false,Int.reduceEq];refine fn0 Cd.s_l09Ask_k fun X=>?_
  repeat' first|simp -dsimp only[go_sem,cC,cFd]|apply Br.mk<;>intro h<;>try simp -dsimp only[h]|refine aD.c (by first|exact KS|exact TX) ?_|refine aC ?_|fail
  all_goals first|omega|exact⟨_,_,rfl,rfl⟩|exact⟨⟨_,_,rfl,rfl⟩,fun h=>h rfl⟩|exact⟨fun _=>⟨_,_,rfl,rfl⟩,fun h=>absurd rfl h⟩
 ·rw[show gK fr to l=.v (.slice none 0 0) by simp[gK,hc],hc] at KS;have hs0:fI fr to s l=2:=by rw[hsc];simp[hc]
  rw[hs0];simp only[if_true,if_false,Int.reduceEq];refine fn0 Cd.s_l09Ask_k fun X=>?_
  repeat' first|simp -dsimp only[go_sem,cC,cFd]|apply Br.mk<;>intro h<;>try simp -dsimp only[h]|refine aD.c (by first|exact KS|exact TX) ?_|refine aC ?_|fail
  all_goals first|omega|exact⟨_,_,rfl,rfl⟩|exact⟨⟨_,_,rfl,rfl⟩,fun h=>h rfl⟩|exact⟨fun _=>⟨_,_,rfl,rfl⟩,fun h=>absurd rfl h⟩
end
section
variable [Vs.Envs]
attribute [local irreducible] Vs.Fn bL kS aX chOK areCh chTo chAt l03 chB rk cd3 chI stp stpTo
attribute [local go_sem] Int.reduceBEq Int.reduceBNe cC cFd aI List.replicate_succ List.replicate_zero List.flatten_cons List.flatten_nil List.cons_append List.nil_append List.set_cons_zero List.set_cons_succ List.length_cons List.length_nil List.length_set List.getD_cons_zero
open Go.Vs.Q in
def CdV.l13Read:aF:=s [o 4 (.mv (.const (.pointer none))),mi 5 0] [0,1]<|s [o 14 (.build [.v (.slice none 0 0),.v (.slice none 0 0),.v (.slice none 0 0)] []),bx 15 14,m 6 15] [0,1,6]<|.seq (s [m 16 1,c 17 F.kH [16],nt 18 17] [0,1,6,18]<|.cond 18 (s [m 19 6,m 4 19,mi 5 1] [4,5]<|.ret) .skip)<|.seq (s [m 20 0,m
 21 1,c 22 F.iJ [21],c 23 F.zK [20,22],nt 24 23] [0,1,6,24]<|.cond 24 (s [m 25 6,m 4 25,mi 5 2] [4,5]<|.ret) .skip)<|s [m 27 1,m 28 0,nc 29 28,fa 30 0 29,lt 31 2 30,c 32 F.jD [27,31],m 26 32,ex 33 26 0,ex 34 26 1,m 7 33,m 8 34] [0,1,6,7,8]<|.seq (s [m 35 8,ne 36 35 0]
 [0,1,6,7,8,36]<|.cond 36 (s [m 37 6,m 38 8,m 4 37,m 5 38] [4,5]<|.ret) .skip)<|.seq (s [mi 9 0] [0,1,6,7,9]<|.block 0 (.loop (.seq (s [m 39 9,m 40 1,ln 41 40,ls 42 39 41] [0,1,6,7,9,42]<|.cond 42 .skip (.exit 0))<|.seq (.block 1 (.seq (.naming 10 (.region [o 45 (.bslice 1 0 [.v (.int .i64 (0))] []),m
 10 45] [0,1,6,7,9,10] []))<|.seq (s [mi 11 0] [0,1,6,7,9,10,11]<|.closing 10 (.block 2 (.loop (.seq (s [m 46 11,m 47 0,nc 48 47,fa 49 2 48,lf 50 1 49,ln 51 50,ls 52 46 51] [0,1,6,7,9,10,11,52]<|.cond 52 .skip (.exit 2))<|.seq (.block 3 (r [m 56 1,m 57 9,ix 58 1 56 57,m 59 0,nc 60 59,fa 61 2 60,lf 62
 1 61,m 63 11,ix 64 2 62 63,lt 65 2 64,c 66 F.nJ [58,65],c 67 F.lT [66],m 55 67,ex 68 55 0,ex 69 55 1,m 12 68,m 13 69] [0,1,6,7,9,10,11,12,13] [56,57,59,58,60,61,62,63,64,65,66,67,55,68,69,12]<|.seq (s [m 70 13,nt 71 70] [0,1,6,7,9,10,11,12,71]<|.cond 71 (s [m 72 6,m 4 72,mi 5 8]
 [4,5]<|.ret) .skip)<|.naming 10 (.region [m 73 10,m 74 12,o 75 (.bslice 1 1 [.v (.int .i64 (0))] [(0,74)]),o 76 (.append 1 8 73 75),m 10 76] [0,1,6,7,9,10,11] [])))<|.region [m 53 11,ad 54 53 1,m 11 54] [0,1,6,7,9,10,11] []))))<|.region [m 77 6,m 78 6,nc 79 78,fa 80 1 79,lf 81 1 80,m 82 10,o 83
 (.bslice 1 1 [.v (.slice none 0 0)] [(0,82)]),o 84 (.append 1 24 81 83),nc 85 77,fa 86 1 85,⟨none,.store 1 86 84,none⟩] [0,1,6,7,9] []))<|.region [m 43 9,ad 44 43 1,m 9 44] [0,1,6,7,9] [])))<|s [m 87 6,m 88 7,nc 89 87,fa 90 0 89,⟨none,.store 1 90 88,none⟩] [6,7]<|s [m 91 6,m 92 7,c 93
 F.lQ [92],nc 94 91,fa 95 2 94,⟨none,.store 1 95 93,none⟩] [6]<|s [m 96 6,m 4 96,mi 5 0] [4,5]<|.ret
theorem CdV.l13Read_k:CK 107 Tryz.f107 CdV.l13Read 97 [.tmp 4,.tmp 5]:=ck Tryz.func107
attribute [go_sem] CdV.l13Read
def vL (ns:List Int):Int:=ns.foldl (fun a n=>IntKind.i64.wrap (a+n)) 0
theorem aHj {F:List Int}{i:Nat} (h:i<F.length):vL (F.take (i+1))=IntKind.i64.wrap (vL (F.take i)+F[i]):=by
 unfold vL;rw[bJ h,List.foldl_append];rfl
theorem aId (sf st:Int) (l:List (List Int)):vL (l.map fun c=>(kS sf st c).1)=eX sf st l:=by
 unfold vL eX;rw[List.foldl_map]
theorem aJV {F:List Int}{i:Nat}{x:Int} (h:F[i]? = some x):vL (F.take (i+1))=IntKind.i64.wrap (vL (F.take i)+x):=by
 obtain⟨hi,rfl⟩:=List.getElem?_eq_some_iff.1 h;exact aHj hi
def cRw (n:Int):List AV:=[.sl 1 [[.v (.int .i64 n)]]]
theorem aKN {F:List Int}{i:Nat} (h:i<F.length):(E cRw F).getD i []=[.sl 1 [[.v (.int .i64 (F.getD i 0))]]]:=by rw[aS h];simp[cRw,List.getD,h]
attribute [local irreducible] vL
theorem aFK (g0 g1 s0 s1 w:Int) (hw:inB w 1 20=true) (hf:d9 g0 g1 w=true) (hn:xZ s0 s1 w=true):Fz F.zK [.ro [.v (.int .i64 g0),.v (.int .i64 g1),.sl 2 [[.v (.int .i64 s0),.v (.int .i64 s1)]],.v (.bool false)],.v (.int .i64 w)] (.v (.bool true)):=by
 have hn2:=hn;unfold xZ at hn2;rw[Bool.and_eq_true] at hn2;obtain⟨hn0,hn1⟩:=hn2;have IN:=yG w 1 20;rw[hw] at IN;have FG:=dX g0 g1 w;rw[hf] at FG;have FS:=dX s0 s1 w;rw[hn0] at FS
 have e12:decide (IntKind.i64.wrap (s1-s0)>12)=false:=by
  have:=of_decide_eq_true hn1;exact decide_eq_false (by unfold W at this;omega)
 refine fn0 Cd.s_l13Ok_k fun X=>?_
 repeat' first|simp -dsimp only[go_sem,e12]|apply Br.mk<;>intro h<;>try simp -dsimp only[h]|refine aD.c (by first|exact IN|exact FG) ?_|refine aC ?_|fail
 refine aN.at dM (X:={zz:Nat×(Unit) // zz.1≤1∧True}) (fun zz=>[(5,.v (.int .i64 zz.1.1))]) (fun zz=>[]) (fun zz=>1-zz.1.1) ⟨(0,()),by omega,trivial⟩ ?_ ?_
 ·exact le0
 ·rintro⟨⟨i,_⟩,hi,hg⟩;dsimp only at hi hg;simp -dsimp only[go_sem];refine Br.mk (fun hc=>?_) fun hc=>?_
  ·have hlt:i<1:=Dq;have hw:=aH hlt (by omega);obtain rfl:i=0:=by omega
   repeat' first|simp -dsimp only[go_sem,hw,e12]|apply Br.mk<;>intro h<;>try simp -dsimp only[h]|refine aD.c (by first|exact FS) ?_|refine aC ?_|fail
   all_goals first|omega|(exact nx (1,()) trivial)
  ·have hge:i=1:=by
    have:¬i<1:=Dq;omega
   subst hge;simp -dsimp only[go_sem]
   first|exact⟨⟨_,_,rfl,rfl⟩,fun h=>h rfl⟩|(simp;done)
theorem r_end (M:AV) (G:List Int) (J:List ByteArray) (g:Nat) (O:g<G.length) (U:G.length≤1048576):Fz F.mV [.ro [.sl 1 (E cSt J),M,.sl 1 (E cI G)],.v (.int .i64 (g:Int))] (.v (.int .i64 (if g+1<G.length then G.getD (g+1) 0 else(J.length:Int)))):=by
 have I:IntKind.i64.wrap ((g:Int)+1)=((g+1:Nat):Int):=by rw[aP (by omega) (by omega)];omega
 by_cases h:g+1<G.length
 ·have H:decide (((g+1:Nat):Int)<(G.length:Int))=true:=decide_eq_true (by omega);have L:(E cI G).getD (g+1) []=[.v (.int .i64 (G.getD (g+1) 0))]:=by rw[aS h];simp[cI,List.getD,h]
  rw[if_pos h];refine fn0 Cd._s_l13R__end_k fun X=>?_
  repeat' first|simp -dsimp only[go_sem,I,H,L]|apply Br.mk<;>intro h<;>try simp -dsimp only[h]|refine aC ?_|fail
  all_goals first|exact⟨_,_,rfl,rfl⟩
 ·have H:decide (((g+1:Nat):Int)<(G.length:Int))=false:=decide_eq_false (by omega);rw[if_neg h];refine fn0 Cd._s_l13R__end_k fun X=>?_
  repeat' first|simp -dsimp only[go_sem,I,H]|apply Br.mk<;>intro h<;>try simp -dsimp only[h]|refine aC ?_|fail
  all_goals first|exact⟨_,_,rfl,rfl⟩
theorem aLz (kv hv:AV) (ns:List Int) (fr to:Nat) (h1:fr≤to) (h2:to≤ns.length) (hl:ns.length≤1048576):Fz F.lD [.ro [kv,.sl 1 (E cRw ns),hv],.v (.int .i64 (fr:Int)),.v (.int .i64 (to:Int)),.v (.int .i64 1)] (.sl 1 (E cI [vL ((ns.take to).drop fr)])):=by
 have hml:((ns.take to).drop fr).length=to-fr:=by simp;omega
 have hge:∀i,i<to-fr→((ns.take to).drop fr)[i]? = some (ns.getD (fr+i) 0):=by
  intro i h;rw[List.getElem?_drop,List.getElem?_take,if_pos (by omega)];simp[List.getD,(by omega:fr+i<ns.length)]
 generalize hm:(ns.take to).drop fr=ms at *
 have e1c:∀x:Int,E cI [x]=[[.v (.int .i64 x)]]:=fun _=>rfl;refine fn0 Cd._s_l13R__sums_k fun X=>?_
 repeat' first|simp -dsimp only[go_sem]|apply Br.mk<;>intro h<;>try simp -dsimp only[h]|refine aC ?_|fail
 refine aN.at dM (X:={zz:Nat×(Unit) // zz.1≤(to-fr)∧True}) (fun zz=>[(9,.loc (.t 13 0) 0 1),(10,.v (.int .i64 ((fr+zz.1.1:Nat):Int)))]) (fun zz=>[(.t 13 0,.arr 1 (E cI [vL (ms.take zz.1.1)]) false)]) (fun zz=>(to-fr)-zz.1.1) ⟨(0,()),by omega,trivial⟩ ?_ ?_
 ·simp[Vs.LeL,Vs.look,Vs.aB,Vs.aQ,Vs.aL,Vs.hset,Vs.aM,Vs.E,cI,vL]
 ·rintro⟨⟨i,_⟩,hi,hg⟩;dsimp only at hi hg;simp -dsimp only[go_sem];refine Br.mk (fun hc=>?_) fun hc=>?_
  ·have hlt:i<(to-fr):=Dq;have hw:=aH hlt (by omega);have hj:((fr+i:Nat):Int).toNat=fr+i:=by omega
   have gr:=aKN (by omega:fr+i<ns.length);have hss:=aJV (hge i (by omega));have hwj:IntKind.i64.wrap (((fr+i:Nat):Int)+1)=((fr+(i+1):Nat):Int):=by rw[aP (by omega) (by omega)];omega
   obtain⟨j,rfl⟩:∃j,j=i:=⟨i,rfl⟩;simp -dsimp only[go_sem];refine aN.at dM (X:={zz:Nat×(Unit) // zz.1≤1∧True}) (fun zz=>[(9,.loc (.t 13 0) 0 1),(17,.junk),(11,.v (.int .i64 zz.1.1))]) (fun zz=>[(.t 13 0,.arr 1 (E cI [if zz.1.1=0 then vL (ms.take j) else vL (ms.take (j+1))]) false)]) (fun zz=>1-zz.1.1) ⟨(0,()),by omega,trivial⟩ ?_ ?_
   ·simp[Vs.LeL,Vs.look,Vs.aB,Vs.aQ,Vs.aL,Vs.hset,Vs.aM,Vs.E,cI]
   ·rintro⟨⟨i,_⟩,hi,hg⟩;dsimp only at hi hg;simp -dsimp only[go_sem];refine Br.mk (fun hc=>?_) fun hc=>?_
    ·have hlt:i<1:=Dq;have hw:=aH hlt (by omega);obtain rfl:i=0:=by omega
     repeat' first|simp -dsimp only[go_sem,gr,hj,hss,e1c,hw]|apply Br.mk<;>intro h<;>try simp -dsimp only[h]|refine aC ?_|fail
     all_goals first|omega|(exact nx (1,()) trivial (h2:=by simp[Vs.LeL,Vs.look,Vs.aB,Vs.aQ,Vs.aL,Vs.hset,Vs.aM,hss,Vs.E,cI]))
    ·have hge:i=1:=by
      have:¬i<1:=Dq;omega
     subst hge;simp -dsimp only[go_sem];refine And.intro ?_ (fun h=>absurd rfl h);simp -dsimp only[go_sem,hwj]
     first|(exact⟨⟨(j+1,()),by omega,trivial⟩,by simp[Vs.LeL,Vs.look,Vs.aB,Vs.aQ,Vs.aL,Vs.hset,Vs.aM],by simp only;omega⟩)
  ·have hge:i=(to-fr):=by
    have:¬i<(to-fr):=Dq;omega
   subst hge;simp -dsimp only[go_sem];have hfull:(E cI [vL (ms.take (to-fr))]).take 1=E cI [vL ms]:=by rw[List.take_of_length_le (l:=ms) (by omega)];rfl
   first|(rw[hfull];exact⟨⟨_,_,rfl,rfl⟩,fun h=>h rfl⟩)
end
section
variable [Vs.Envs]
attribute [local irreducible] Vs.Fn bL kS aX vL bO chOK areCh chTo chAt l03 chB rk cd3 chI stp stpTo
def lI (sf st:Int) (l:List (List Int)):List Int:=l.map fun c=>(kS sf st c).1
theorem jW (sf st:Int) (l:List (List Int)):(lI sf st l).length=l.length:=by simp[lI]
theorem aBQ {sf st:Int}{l:List (List Int)}{i:Nat} (h:i<l.length):E cRw ((lI sf st l).take i)++[[.sl 1 [[.v (.int .i64 (kS sf st l[i]).1)]]]]=E cRw ((lI sf st l).take (i+1)):=by
 rw[bJ (by rw[jW];exact h),aY];simp[lI,E,cRw]
def jO (sf st:Int) (l:List (List Int)) (i:Nat):AV:=if i=0 then .v (.slice none 0 0) else .loc (.t 84 0) 0 i
def jN (sf st:Int) (l:List (List Int)) (i:Nat):List (Vs.Name×Blk):=if i=0 then[] else[(.t 84 0,.arr 1 (E cRw ((lI sf st l).take i)) false)]
def tF (sf st:Int) (l:List (List Int)) (i:Nat):AV:=if i=0 then .v (.slice none 0 0) else .sl 1 (E cRw ((lI sf st l).take i))
section
variable (l:List (List Int)) (fr to sf st:Int) (hk:aU l) (hd:bB l=true) (hf:d9 fr to (bD l)=true) (hn:xZ sf st (bD l)=true)
include hk hd hf hn
theorem aDf:inB (bD l) 1 20=true:=by
 have _:=hk;have _:=hf;have _:=hn;by_cases G:l.length=0
 ·unfold bD;rw[if_pos G];rfl
 ·have F:=hd;simp only[bB,Bool.and_eq_true,List.all_eq_true,decide_eq_true_eq] at F;have H:l.getD 0 []∈l:=by rw[show l.getD 0 []=l[0]'(by omega) by simp[List.getD,(by omega:0<l.length)]];exact List.getElem_mem _
  have:=(F.1 _ H).1;simp only[gX,inB,Bool.and_eq_true,decide_eq_true_eq] at this;unfold bD;rw[if_neg G];simp only[inB,Bool.and_eq_true,decide_eq_true_eq];omega
theorem aFJ (M:bP fr to l=false):Fz F.xG [.ro [.v (.int .i64 fr),.v (.int .i64 to),.sl 2 [[.v (.int .i64 sf),.v (.int .i64 st)]],.v (.bool false)],.sl 1 (E cC l)] (.tup [.ro [.v (.slice none 0 0),.v (.slice none 0 0),.v (.slice none 0 0)],.v (.int .i64 8)]):=by
 have H:=dD l hk.2 hk.1;rw[hd] at H;have L:=dK l;have G:=aFK fr to sf st (bD l) (aDf l fr to sf st hk hd hf hn) hf hn;have I:=jP l fr to hk.2 hk.1;have J:aX fr to l=8:=by simp only[aX,hd,hf,M];rfl
 rw[show gK fr to l=.v (.slice none 0 0) by simp[gK,J],J] at I;refine fn0 CdV.l13Read_k fun X=>?_
 repeat' first|simp -dsimp only[go_sem,Int.reduceBEq,Int.reduceBNe,cC,cFd,aI,List.replicate_succ,List.replicate_zero,List.flatten_cons,List.flatten_nil,List.cons_append,List.nil_append,List.set_cons_zero,List.set_cons_succ,List.length_cons,List.length_nil,List.length_set,List.getD_cons_zero]|apply Br.mk<;>intro h<;>try simp -dsimp only[h]|refine aD.c (by first|exact H|exact L|exact G|exact I) ?_|refine aC ?_|fail
 all_goals first|exact⟨_,_,rfl,rfl⟩
attribute [local go_sem] Int.reduceBEq Int.reduceBNe cFd aI List.replicate_succ List.replicate_zero List.flatten_cons List.flatten_nil List.cons_append List.nil_append List.set_cons_zero List.set_cons_succ List.length_cons List.length_nil List.length_set List.getD_cons_zero in
theorem aFI (ha:bP fr to l=true) (hN:rT sf st l=true):Fz F.xG [.ro [.v (.int .i64 fr),.v (.int .i64 to),.sl 2 [[.v (.int .i64 sf),.v (.int .i64 st)]],.v (.bool false)],.sl 1 (E cC l)] (.tup [.ro [.sl 1 (E cSt (bO fr to l)),tF sf st l l.length,.sl 1 (E cI (bL fr to l l.length))],.v (.int .i64 0)]):=by
 have DK:=dD l hk.2 hk.1;rw[hd] at DK;have WD:=dK l;have OKS:=aFK fr to sf st (bD l) (aDf l fr to sf st hk hd hf hn) hf hn;have KS:=jP l fr to hk.2 hk.1;have ho:=dV hd hf;have h40:=kK hd;have hc:aX fr to l=0:=by simp only[aX,hd,hf,ha];rfl
 rw[show gK fr to l=.sl 1 (E cSt (bO fr to l)) by simp[gK,hc],hc] at KS;have hp:∀c,c∈l→okP sf st c:=aDC hd hn;have e1c:∀x:Int,E cI [x]=[[.v (.int .i64 x)]]:=fun _=>rfl;have hok:∀j,(h:j<l.length)→j<l.length→(kS sf st l[j]).2=true:=fun j h _=>List.all_eq_true.1 hN _ (List.getElem_mem h);have GR:=aCP l fr to ho ha (by omega);have hgl:=jJ fr to l l.length;refine fn0 CdV.l13Read_k fun X=>?_
 repeat' first|simp -dsimp only[go_sem,cC]|apply Br.mk<;>intro h<;>try simp -dsimp only[h]|refine aD.c (by first|exact DK|exact WD|exact OKS|exact KS) ?_|refine aC ?_|fail
 refine aN.at dM (X:={j:Nat // j≤l.length}) (fun j=>[(9,.v (.int .i64 (j.1:Nat)))]) (fun j=>(.t 15 0,.var [.v (.slice none 0 0),jO sf st l j.1,.v (.slice none 0 0)] false)::jN sf st l j.1) (fun j=>l.length-j.1) ⟨0,by omega⟩ ?_ ?_
 ·simp[Vs.LeL,Vs.look,Vs.aB,Vs.aQ,Vs.aL,Vs.hset,Vs.aM,jO,jN]
 ·rintro⟨j,hj⟩
  try dsimp only at hj
  by_cases hjm:j<l.length
  ·have hlt:j<l.length:=by omega
   have ht:decide ((j:Int)<(l.length:Int))=true:=decide_eq_true (by omega);have gj:(E cC l).getD j []=[.sl 1 (E cI l[j])]:=aS hlt;have PC:=aIK (hp _ (List.getElem_mem hlt));have NI:=yO (hp _ (List.getElem_mem hlt));have hrow:=aBQ (sf:=sf) (st:=st) hlt;have hrl:(E cRw ((lI sf st l).take j)).length=j:=by rw[aI,List.length_take,jW];omega
   have hrl2:((lI sf st l).take j).length=j:=by rw[List.length_take,jW];omega
   have hwj:IntKind.i64.wrap ((j:Int)+1)=((j+1:Nat):Int):=by rw[aP (by omega) (by omega)];omega
   rw[hok j hlt hjm] at NI;by_cases hj0:j=0
   ·have hA:jO sf st l j=.v (.slice none 0 0):=by simp[jO,hj0]
    have hH:jN sf st l j=[]:=by simp[jN,hj0]
    have hr0:E cRw ((lI sf st l).take j)=[]:=by rw[hj0];rfl
    have hrow0:[[.sl 1 [[.v (.int .i64 (kS sf st l[j]).1)]]]]=E cRw ((lI sf st l).take (j+1)):=by rw[←hrow,hr0];rfl
    rw[hA,hH]
    repeat' first|simp -dsimp only[go_sem,ht,e1c,cC]|apply Br.mk<;>intro h<;>try simp -dsimp only[h]|refine aC ?_|fail
    refine aN.at dM (X:={zz:Nat×(Unit) // zz.1≤1∧True}) (fun zz=>[(10,.loc (.t 10 0) 0 zz.1.1),(42,.junk),(11,.v (.int .i64 zz.1.1))]) (fun zz=>[(.t 10 0,.arr 1 (E cI ([(kS sf st l[j]).1].take zz.1.1)) false)]) (fun zz=>1-zz.1.1) ⟨(0,()),by omega,trivial⟩ ?_ ?_
    ·simp[Vs.LeL,Vs.look,Vs.aB,Vs.aQ,Vs.aL,Vs.hset,Vs.aM,Vs.E,cI]
    ·rintro⟨⟨i,_⟩,hi,hg⟩;dsimp only at hi hg;simp -dsimp only[go_sem,cC];refine Br.mk (fun hc=>?_) fun hc=>?_
     ·have hlt:i<1:=Dq;have hw:=aH hlt (by omega);obtain rfl:i=0:=by omega
      repeat' first|simp -dsimp only[go_sem,gj,e1c,cC,hw]|apply Br.mk<;>intro h<;>try simp -dsimp only[h]|refine aD.c (by first|exact PC|exact NI) ?_|refine aC ?_|fail
      all_goals first|omega|(exact nx (1,()) trivial (h2:=by simp[Vs.LeL,Vs.look,Vs.aB,Vs.aQ,Vs.aL,Vs.hset,Vs.aM,Vs.E,cI]))
     ·have hge:i=1:=by
       have:¬i<1:=Dq;omega
      subst hge;simp -dsimp only[go_sem,cC]
      repeat' first|simp -dsimp only[go_sem,hwj,e1c,hrow,hrl,hrl2,ht,hrow0,cC]|apply Br.mk<;>intro h<;>try simp -dsimp only[h]|refine And.intro ?_ (fun h=>absurd rfl h)|refine aC ?_|fail
      first|(exact⟨⟨j+1,by omega⟩,by simp[Vs.LeL,Vs.look,Vs.aB,Vs.aQ,Vs.aL,Vs.hset,Vs.aM,jO,jN,hrow,Vs.E,hj0],by simp only;omega⟩)
   ·have hA:jO sf st l j=.loc (.t 84 0) 0 j:=by simp[jO,hj0]
    have hH:jN sf st l j=[(.t 84 0,.arr 1 (E cRw ((lI sf st l).take j)) false)]:=by simp[jN,hj0]
    rw[hA,hH]
    repeat' first|simp -dsimp only[go_sem,ht,e1c,cC]|apply Br.mk<;>intro h<;>try simp -dsimp only[h]|refine aC ?_|fail
    refine aN.at dM (X:={zz:Nat×(Unit) // zz.1≤1∧True}) (fun zz=>[(10,.loc (.t 10 0) 0 zz.1.1),(42,.junk),(11,.v (.int .i64 zz.1.1))]) (fun zz=>[(.t 10 0,.arr 1 (E cI ([(kS sf st l[j]).1].take zz.1.1)) false)]) (fun zz=>1-zz.1.1) ⟨(0,()),by omega,trivial⟩ ?_ ?_
    ·simp[Vs.LeL,Vs.look,Vs.aB,Vs.aQ,Vs.aL,Vs.hset,Vs.aM,Vs.E,cI]
    ·rintro⟨⟨i,_⟩,hi,hg⟩;dsimp only at hi hg;simp -dsimp only[go_sem,cC];refine Br.mk (fun hc=>?_) fun hc=>?_
     ·have hlt:i<1:=Dq;have hw:=aH hlt (by omega);obtain rfl:i=0:=by omega
      repeat' first|simp -dsimp only[go_sem,gj,e1c,cC,hw]|apply Br.mk<;>intro h<;>try simp -dsimp only[h]|refine aD.c (by first|exact PC|exact NI) ?_|refine aC ?_|fail
      all_goals first|omega|(exact nx (1,()) trivial (h2:=by simp[Vs.LeL,Vs.look,Vs.aB,Vs.aQ,Vs.aL,Vs.hset,Vs.aM,Vs.E,cI]))
     ·have hge:i=1:=by
       have:¬i<1:=Dq;omega
      subst hge;simp -dsimp only[go_sem,cC]
      repeat' first|simp -dsimp only[go_sem,hwj,e1c,hrow,hrl,hrl2,ht,cC]|apply Br.mk<;>intro h<;>try simp -dsimp only[h]|refine And.intro ?_ (fun h=>absurd rfl h)|refine aC ?_|fail
      first|(exact⟨⟨j+1,by omega⟩,by simp[Vs.LeL,Vs.look,Vs.aB,Vs.aQ,Vs.aL,Vs.hset,Vs.aM,jO,jN,hrow,Vs.E],by simp only;omega⟩)
  ·obtain rfl:j=l.length:=by omega
   have ht:decide ((l.length:Int)<(l.length:Int))=false:=by simp
   by_cases hj0:l.length=0
   ·have hA:jO sf st l l.length=.v (.slice none 0 0):=by simp[jO,hj0]
    have hH:jN sf st l l.length=[]:=by simp[jN,hj0]
    rw[hA,hH,show tF sf st l l.length=.v (.slice none 0 0) by simp[tF,hj0]]
    repeat' first|simp -dsimp only[go_sem,ht,cC]|apply Br.mk<;>intro h<;>try simp -dsimp only[h]|refine aD.c (by first|exact GR) ?_|refine And.intro ?_ (fun h=>absurd rfl h)|refine aC ?_|fail
    all_goals first|exact⟨⟨_,_,rfl,rfl⟩,fun h=>h rfl⟩|exact⟨_,_,rfl,rfl⟩
   ·have hA:jO sf st l l.length=.loc (.t 84 0) 0 l.length:=by simp[jO,hj0]
    have hH:jN sf st l l.length=[(.t 84 0,.arr 1 (E cRw ((lI sf st l).take l.length)) false)]:=by simp[jN,hj0]
    rw[hA,hH,show tF sf st l l.length=.sl 1 (E cRw ((lI sf st l).take l.length)) by simp[tF,hj0]];have htk:(E cRw ((lI sf st l).take l.length)).take l.length=E cRw ((lI sf st l).take l.length):=List.take_of_length_le (by rw[aI,List.length_take,jW];omega);simp -dsimp only[go_sem,ht,cC]
    repeat' first|simp -dsimp only[go_sem,ht,htk,cC]|apply Br.mk<;>intro h<;>try simp -dsimp only[h]|refine aD.c (by first|exact GR) ?_|refine And.intro ?_ (fun h=>absurd rfl h)|refine aC ?_|fail
    all_goals first|exact⟨⟨_,_,rfl,rfl⟩,fun h=>h rfl⟩|exact⟨_,_,rfl,rfl⟩
end
end
end Go.Proofs.YtkgeiaideklmoaaGreat
