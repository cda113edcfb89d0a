/- The reference's number of a field. -/
import Derived.Test.YthbnjmgjhonfbaaGreatTwXh
import Derived.Test.YthbnjmgjhonfbaaGreatTwQb
set_option linter.all false
set_option maxHeartbeats 8000000
namespace Go.Proofs.YthbnjmgjhonfbaaGreat
open Go.Vs
section
variable [Vs.Envs]
attribute [local irreducible] Vs.Fn nxV nxS pkV pkS ptN
def uR (b:ByteArray):List Int:=b.data.toList.map fun x=>l03 x.toNat
theorem aFh (b:ByteArray):(uR b).length=b.size:=by
 show(b.data.toList.map _).length=b.data.size
 rw[List.length_map,Array.length_toList]
theorem aG1 {b:ByteArray}{i:Nat} (h:i<b.size):l03 ((b.data.toList.getD i 0).toNat:Nat)=(uR b)[i]'(by rw[aFh];exact h):=by
 have h':i<b.data.toList.length:=by rw[Array.length_toList];exact h
 unfold uR;rw[List.getElem_map,List.getD_eq_getElem?_getD,List.getElem?_eq_getElem h'];rfl
def gvC (i:Nat):AV:=if i=0 then .v (.slice none 0 0) else .loc (.t 19 0) 0 i
def ghC (b:ByteArray) (i:Nat):List (Vs.Name×Blk):=if i=0 then[] else[(.t 19 0,.arr 1 (E cI ((uR b).take i)) false)]
attribute [local go_sem] Int.reduceBEq Int.reduceBNe cC aH List.replicate_succ List.replicate_zero List.flatten_cons List.flatten_nil List.cons_append List.nil_append List.set_cons_zero List.set_cons_succ List.length_cons List.length_nil List.length_set List.mem_singleton List.mem_cons List.not_mem_nil or_false false_or Vs.Name.t.injEq List.getD_cons_zero List.getD_cons_succ in
theorem aI4 (t:ByteArray) (h0:0<t.size) (h1:t.size≤20):Vs.Fn Tryz.prog F.nT [] [.v (.string t)] (.agg [.loc (.b 0) 0 t.size]) [some (.arr 1 (E cI (uR t)) false)]:=by
 have hcl:=aFh t;refine fn1 Cd.s_l03Card_k [.t 19 0] [.arr 1 (E cI (uR t)) false] fun X=>?_;unfold Cd.nT
 repeat' first|simp -dsimp only[go_sem]|apply Br.mk<;>intro h<;>try simp -dsimp only[h]|refine aC ?_|fail
 refine aN.intro dM (X:={i:Nat // i≤t.size}) (fun i=>⟨[(0,.v (.string t)),(2,.ptr (.t 2 0) 0 0),(3,.ptr (.t 3 0) 0 0),(4,.v (.int .i64 (i.1:Nat)))],(.t 3 0,.var [gvC i.1] false)::(.t 2 0,.var [.v (.slice none 0 0)] false)::ghC t i.1⟩) (fun i=>t.size-i.1) ⟨0,by omega⟩ ?_ ?_
 ·simp[Vs.LeL,Vs.look,Vs.aB,Vs.aP,Vs.aK,Vs.hset,Vs.aL,gvC,ghC]
 ·rintro⟨i,hi⟩
  try dsimp only at hi
  rcases i with _|j
  ·simp only[gvC,ghC,if_true]
   try simp -dsimp only[go_sem]
   refine Br.mk (fun hc=>?_) fun hc=>?_
   ·have hlt:0<t.size:=h0;have hw:IntKind.i64.wrap (((0:Nat):Int)+1)=((1:Nat):Int):=rfl;have LC:=aAn ((t.data.toList.getD 0 0).toNat:Nat);rw[aG1 hlt] at LC;have hap:[[AV.v (.int .i64 ((uR t)[0]'(by omega)))]]=E cI ((uR t).take 1):=by rw[bL (show 0<(uR t).length by omega)];rfl
    generalize(uR t)[0]'(by omega)=cc at *
    repeat' first|simp -dsimp only[go_sem,hw,hap]|apply Br.mk<;>intro h<;>try simp -dsimp only[h]|refine aA.c (by first|exact LC) ?_|refine aC ?_|fail
    all_goals first|omega|(refine⟨⟨1,by omega⟩,?_,by simp only;omega⟩;simp[Vs.LeL,Vs.look,Vs.aB,Vs.aP,Vs.aK,Vs.hset,Vs.aL,gvC,ghC,hap];done)
   ·have:¬0<t.size:=Dq;omega
  ·have e0:¬j+1=0:=by omega
   simp only[gvC,ghC,if_neg e0];have hal:(E cI ((uR t).take (j+1))).length=j+1:=by rw[aH];simp;omega
   have htk:(E cI ((uR t).take (j+1))).take (j+1)=E cI ((uR t).take (j+1)):=List.take_of_length_le (by omega)
   try simp -dsimp only[go_sem,hal,htk]
   refine Br.mk (fun hc=>?_) fun hc=>?_
   ·have hlt:j+1<t.size:=Dq;have hw:=aG hlt (by omega);have LC:=aAn ((t.data.toList.getD (j+1) 0).toNat:Nat);rw[aG1 hlt] at LC;have hap:E cI ((uR t).take (j+1))++[[AV.v (.int .i64 ((uR t)[j+1]'(by omega)))]]=E cI ((uR t).take (j+1+1)):=by rw[bL (show j+1<(uR t).length by omega),aY];rfl
    generalize(uR t)[j+1]'(by omega)=cc at *
    repeat' first|simp -dsimp only[go_sem,hw,hap,hal,htk]|apply Br.mk<;>intro h<;>try simp -dsimp only[h]|refine aA.c (by first|exact LC) ?_|refine aC ?_|fail
    all_goals first|omega|(refine⟨⟨j+1+1,by omega⟩,?_,by simp only;omega⟩;simp[Vs.LeL,Vs.look,Vs.aB,Vs.aP,Vs.aK,Vs.hset,Vs.aL,gvC,ghC,hap];done)
   ·have hge:j+1=t.size:=by
     have:¬j+1<t.size:=Dq;omega
    have hall:(uR t).take (j+1)=uR t:=List.take_of_length_le (by omega);rw[hall];rw[hall] at htk
    try simp -dsimp only[go_sem,hal,htk]
    all_goals first|omega|exact⟨_,_,rfl,rfl⟩|(refine⟨?_,fun h=>h rfl⟩;rw[←hge];exact⟨_,_,rfl,rfl⟩)
def crd (c:List Int):Prop:=∃a n m:Int,(a=l03 65∨a=l03 66∨a=l03 49)∧(0≤n∧n<100)∧(-30≤m∧m<100)∧c=a::(ptN 2 n++ptN 2 m)
def kF (a z p0 p1 q0 q1:Int):Nat→List Int
 |0=>[a,z,z,z,z]
 |1=>[a,p0,z,q0,z]
 |_=>[a,p0,p1,q0,q1]
theorem aH7 {u:List Int} (h:u.length=2):∃a b,u=[a,b]:=by
 match u,h with
 | [a,b],_=>exact⟨a,b,rfl⟩
theorem aCf (a:UInt8):Vs.Fn Tryz.prog F.nT [] [.v (.string ⟨#[a,48,48,48,48]⟩)] (.agg [.loc (.b 0) 0 5]) [some (.arr 1 (E cI [l03 a.toNat,l03 48,l03 48,l03 48,l03 48]) false)]:=
 aI4 ⟨#[a,48,48,48,48]⟩ (Nat.le_of_ble_eq_true rfl) (Nat.le_of_ble_eq_true rfl)
attribute [local go_sem] Int.reduceBEq Int.reduceBNe aH List.replicate_succ List.replicate_zero List.flatten_cons List.flatten_nil List.cons_append List.nil_append List.set_cons_zero List.set_cons_succ List.length_cons List.length_nil List.length_set List.mem_singleton List.mem_cons List.not_mem_nil or_false false_or Vs.Name.t.injEq List.getD_cons_zero List.getD_cons_succ bB bC bO List.append_nil List.flatMap_cons List.flatMap_nil in
theorem aGN (l:List Int) (x:Sr) (hl:byt l) (hp:x.p≤3900):∃c z,crd c∧z.p≤x.p+6∧Vs.Fn Tryz.prog F.kV [sB l x] [.ptr (.b 0) 0 0] (.agg (cC c)) [some (sB l z)]:=by
 have P1:=pick l x hl 3 (by omega);have q1:=bD l x 3;have h1:=dI hl x (n:=3) (by omega);have P2:=pick l (pkS l x 3) hl 100 (by omega);have q2:=bD l (pkS l x 3) 100;have h2:=dI hl (pkS l x 3) (n:=100) (by omega);have P3:=pick l (pkS l (pkS l x 3) 100) hl 130 (by omega);have q3:=bD l (pkS l (pkS l x 3) 100) 130;have h3:=dI hl (pkS l (pkS l x 3) 100) (n:=130) (by omega);generalize pkV l (pkS l (pkS l x 3) 100) 130=v3 at *
 generalize pkS l (pkS l (pkS l x 3) 100) 130=z at *
 generalize pkV l (pkS l x 3) 100=v2 at *
 generalize pkS l (pkS l x 3) 100=y2 at *
 generalize pkV l x 3=v1 at *
 generalize pkS l x 3=y1 at *
 have wm:IntKind.i64.wrap (v3-30)=v3-30:=aR (by omega) (by omega);have h3':-30≤v3-30∧v3-30<100:=by omega
 have PA:=aFT v2 2 (by omega) (by omega) (by omega) (by omega);have PB:=aFT (v3-30) 2 (by omega) (by omega) (by omega) (by omega);obtain⟨p0,p1,hp01⟩:=aH7 (aFJ 2 v2);obtain⟨q0,q9,hq01⟩:=aH7 (aFJ 2 (v3-30));rw[hp01] at PA;rw[hq01] at PB;have w0:IntKind.i64.wrap (1+((0:Nat):Int))=1:=rfl;have w1:IntKind.i64.wrap (1+((1:Nat):Int))=2:=rfl;have w2:IntKind.i64.wrap (3+((0:Nat):Int))=3:=rfl;have w3:IntKind.i64.wrap (3+((1:Nat):Int))=4:=rfl;have hv:v1=0∨v1=1∨v1=2:=by omega
 rcases hv with rfl|rfl|rfl
 ·have e1:(⟨#[65,66,49]⟩:ByteArray).extract 0 3=⟨#[65,66,49]⟩:=by decide
  have e2:(⟨#[65,66,49]⟩:ByteArray).extract 0 1=⟨#[65]⟩:=by decide
  have e3:(⟨#[65]⟩++⟨#[48,48,48,48]⟩:ByteArray)=⟨#[65,48,48,48,48]⟩:=by decide
  have es:(⟨#[65,66,49]⟩:ByteArray).size=3:=rfl;have LC:=aCf 65;rw[show((65:UInt8).toNat:Int)=65 from rfl] at LC;refine⟨l03 65::([p0,p1]++[q0,q9]),z,⟨l03 65,v2,v3-30,.inl rfl,h2,h3',by rw[hp01,hq01]⟩,by omega,?_⟩;generalize hz:l03 48=z0 at *
  generalize ha:l03 65=a0 at *
  refine fn1 Cd.s_l13Card_k [.b 0] [sB l z] fun X=>?_;unfold Cd.kV
  repeat' first|simp -dsimp only[go_sem,cC,sB,es,e1,e2,e3,w0,w1,w2,w3,wm]|apply Br.mk<;>intro h<;>try simp -dsimp only[h]|refine aA.bor (by first|exact P1|exact P2|exact P3) rfl ?_|refine aA.own (by first|exact LC) rfl ?_|refine aA.c (by first|exact PA|exact PB) ?_|refine aC ?_|fail
  refine aN.at dM (X:={k:Nat // k≤2}) (fun k=>[(8,.v (.int .i64 (k.1:Nat)))]) (fun k=>[(.t 14 0,.arr 1 (E cI (kF a0 z0 p0 p1 q0 q9 k.1)) false)]) (fun k=>2-k.1) ⟨0,by omega⟩ ?_ ?_
  ·simp[Vs.LeL,Vs.look,Vs.aB,Vs.aP,Vs.aK,Vs.hset,Vs.aL,kF,Vs.E,cI,sB]
  ·rintro⟨k,hk⟩
   try dsimp only at hk
   have hk3:k=0∨k=1∨k=2:=by omega
   rcases hk3 with rfl|rfl|rfl
   ·have hw:IntKind.i64.wrap (((0:Nat):Int)+1)=((1:Nat):Int):=rfl;simp -dsimp only[go_sem,cC,sB,es,e1,e2,e3,w0,w1,w2,w3,wm,kF,Vs.E,cI,List.map_cons,List.map_nil,hw];refine Br.mk (fun hc=>?_) fun hc=>?_
    ·try simp -dsimp only[go_sem,cC,sB,es,e1,e2,e3,w0,w1,w2,w3,wm,kF,Vs.E,cI,List.map_cons,List.map_nil,hw]
     repeat' first|simp -dsimp only[go_sem,cC,sB,es,e1,e2,e3,w0,w1,w2,w3,wm,kF,Vs.E,cI,List.map_cons,List.map_nil,hw]|apply Br.mk<;>intro h<;>try simp -dsimp only[h]|refine aC ?_|fail
     all_goals first|omega|(refine⟨⟨1,by omega⟩,?_,by simp only;omega⟩;simp[Vs.LeL,Vs.look,Vs.aB,Vs.aP,Vs.aK,Vs.hset,Vs.aL,kF,Vs.E,cI,sB];done)
    ·exact absurd hc (by decide)
   ·have hw:IntKind.i64.wrap (((1:Nat):Int)+1)=((2:Nat):Int):=rfl;simp -dsimp only[go_sem,cC,sB,es,e1,e2,e3,w0,w1,w2,w3,wm,kF,Vs.E,cI,List.map_cons,List.map_nil,hw];refine Br.mk (fun hc=>?_) fun hc=>?_
    ·try simp -dsimp only[go_sem,cC,sB,es,e1,e2,e3,w0,w1,w2,w3,wm,kF,Vs.E,cI,List.map_cons,List.map_nil,hw]
     repeat' first|simp -dsimp only[go_sem,cC,sB,es,e1,e2,e3,w0,w1,w2,w3,wm,kF,Vs.E,cI,List.map_cons,List.map_nil,hw]|apply Br.mk<;>intro h<;>try simp -dsimp only[h]|refine aC ?_|fail
     all_goals first|omega|(refine⟨⟨2,by omega⟩,?_,by simp only;omega⟩;simp[Vs.LeL,Vs.look,Vs.aB,Vs.aP,Vs.aK,Vs.hset,Vs.aL,kF,Vs.E,cI,sB];done)
    ·exact absurd hc (by decide)
   ·simp -dsimp only[go_sem,cC,sB,es,e1,e2,e3,w0,w1,w2,w3,wm,kF];refine Br.mk (fun hc=>absurd hc (by decide)) fun hc=>?_
    try simp -dsimp only[go_sem,cC,sB,es,e1,e2,e3,w0,w1,w2,w3,wm,kF]
    all_goals first|exact⟨⟨_,_,rfl,rfl⟩,fun h=>h rfl⟩|exact⟨_,_,rfl,rfl⟩|(refine⟨?_,fun h=>h rfl⟩;exact⟨_,_,rfl,rfl⟩)
 ·have e1:(⟨#[65,66,49]⟩:ByteArray).extract 1 3=⟨#[66,49]⟩:=by decide
  have e2:(⟨#[66,49]⟩:ByteArray).extract 0 1=⟨#[66]⟩:=by decide
  have e3:(⟨#[66]⟩++⟨#[48,48,48,48]⟩:ByteArray)=⟨#[66,48,48,48,48]⟩:=by decide
  have es:(⟨#[66,49]⟩:ByteArray).size=2:=rfl;have LC:=aCf 66;rw[show((66:UInt8).toNat:Int)=66 from rfl] at LC;refine⟨l03 66::([p0,p1]++[q0,q9]),z,⟨l03 66,v2,v3-30,.inr (.inl rfl),h2,h3',by rw[hp01,hq01]⟩,by omega,?_⟩;generalize hz:l03 48=z0 at *
  generalize ha:l03 66=a0 at *
  refine fn1 Cd.s_l13Card_k [.b 0] [sB l z] fun X=>?_;unfold Cd.kV
  repeat' first|simp -dsimp only[go_sem,cC,sB,es,e1,e2,e3,w0,w1,w2,w3,wm]|apply Br.mk<;>intro h<;>try simp -dsimp only[h]|refine aA.bor (by first|exact P1|exact P2|exact P3) rfl ?_|refine aA.own (by first|exact LC) rfl ?_|refine aA.c (by first|exact PA|exact PB) ?_|refine aC ?_|fail
  refine aN.at dM (X:={k:Nat // k≤2}) (fun k=>[(8,.v (.int .i64 (k.1:Nat)))]) (fun k=>[(.t 14 0,.arr 1 (E cI (kF a0 z0 p0 p1 q0 q9 k.1)) false)]) (fun k=>2-k.1) ⟨0,by omega⟩ ?_ ?_
  ·simp[Vs.LeL,Vs.look,Vs.aB,Vs.aP,Vs.aK,Vs.hset,Vs.aL,kF,Vs.E,cI,sB]
  ·rintro⟨k,hk⟩
   try dsimp only at hk
   have hk3:k=0∨k=1∨k=2:=by omega
   rcases hk3 with rfl|rfl|rfl
   ·have hw:IntKind.i64.wrap (((0:Nat):Int)+1)=((1:Nat):Int):=rfl;simp -dsimp only[go_sem,cC,sB,es,e1,e2,e3,w0,w1,w2,w3,wm,kF,Vs.E,cI,List.map_cons,List.map_nil,hw];refine Br.mk (fun hc=>?_) fun hc=>?_
    ·try simp -dsimp only[go_sem,cC,sB,es,e1,e2,e3,w0,w1,w2,w3,wm,kF,Vs.E,cI,List.map_cons,List.map_nil,hw]
     repeat' first|simp -dsimp only[go_sem,cC,sB,es,e1,e2,e3,w0,w1,w2,w3,wm,kF,Vs.E,cI,List.map_cons,List.map_nil,hw]|apply Br.mk<;>intro h<;>try simp -dsimp only[h]|refine aC ?_|fail
     all_goals first|omega|(refine⟨⟨1,by omega⟩,?_,by simp only;omega⟩;simp[Vs.LeL,Vs.look,Vs.aB,Vs.aP,Vs.aK,Vs.hset,Vs.aL,kF,Vs.E,cI,sB];done)
    ·exact absurd hc (by decide)
   ·have hw:IntKind.i64.wrap (((1:Nat):Int)+1)=((2:Nat):Int):=rfl;simp -dsimp only[go_sem,cC,sB,es,e1,e2,e3,w0,w1,w2,w3,wm,kF,Vs.E,cI,List.map_cons,List.map_nil,hw];refine Br.mk (fun hc=>?_) fun hc=>?_
    ·try simp -dsimp only[go_sem,cC,sB,es,e1,e2,e3,w0,w1,w2,w3,wm,kF,Vs.E,cI,List.map_cons,List.map_nil,hw]
     repeat' first|simp -dsimp only[go_sem,cC,sB,es,e1,e2,e3,w0,w1,w2,w3,wm,kF,Vs.E,cI,List.map_cons,List.map_nil,hw]|apply Br.mk<;>intro h<;>try simp -dsimp only[h]|refine aC ?_|fail
     all_goals first|omega|(refine⟨⟨2,by omega⟩,?_,by simp only;omega⟩;simp[Vs.LeL,Vs.look,Vs.aB,Vs.aP,Vs.aK,Vs.hset,Vs.aL,kF,Vs.E,cI,sB];done)
    ·exact absurd hc (by decide)
   ·simp -dsimp only[go_sem,cC,sB,es,e1,e2,e3,w0,w1,w2,w3,wm,kF];refine Br.mk (fun hc=>absurd hc (by decide)) fun hc=>?_
    try simp -dsimp only[go_sem,cC,sB,es,e1,e2,e3,w0,w1,w2,w3,wm,kF]
    all_goals first|exact⟨⟨_,_,rfl,rfl⟩,fun h=>h rfl⟩|exact⟨_,_,rfl,rfl⟩|(refine⟨?_,fun h=>h rfl⟩;exact⟨_,_,rfl,rfl⟩)
 ·have e1:(⟨#[65,66,49]⟩:ByteArray).extract 2 3=⟨#[49]⟩:=by decide
  have e2:(⟨#[49]⟩:ByteArray).extract 0 1=⟨#[49]⟩:=by decide
  have e3:(⟨#[49]⟩++⟨#[48,48,48,48]⟩:ByteArray)=⟨#[49,48,48,48,48]⟩:=by decide
  have es:(⟨#[49]⟩:ByteArray).size=1:=rfl;have LC:=aCf 49;rw[show((49:UInt8).toNat:Int)=49 from rfl] at LC;refine⟨l03 49::([p0,p1]++[q0,q9]),z,⟨l03 49,v2,v3-30,.inr (.inr rfl),h2,h3',by rw[hp01,hq01]⟩,by omega,?_⟩;generalize hz:l03 48=z0 at *
  generalize ha:l03 49=a0 at *
  refine fn1 Cd.s_l13Card_k [.b 0] [sB l z] fun X=>?_;unfold Cd.kV
  repeat' first|simp -dsimp only[go_sem,cC,sB,es,e1,e2,e3,w0,w1,w2,w3,wm]|apply Br.mk<;>intro h<;>try simp -dsimp only[h]|refine aA.bor (by first|exact P1|exact P2|exact P3) rfl ?_|refine aA.own (by first|exact LC) rfl ?_|refine aA.c (by first|exact PA|exact PB) ?_|refine aC ?_|fail
  refine aN.at dM (X:={k:Nat // k≤2}) (fun k=>[(8,.v (.int .i64 (k.1:Nat)))]) (fun k=>[(.t 14 0,.arr 1 (E cI (kF a0 z0 p0 p1 q0 q9 k.1)) false)]) (fun k=>2-k.1) ⟨0,by omega⟩ ?_ ?_
  ·simp[Vs.LeL,Vs.look,Vs.aB,Vs.aP,Vs.aK,Vs.hset,Vs.aL,kF,Vs.E,cI,sB]
  ·rintro⟨k,hk⟩
   try dsimp only at hk
   have hk3:k=0∨k=1∨k=2:=by omega
   rcases hk3 with rfl|rfl|rfl
   ·have hw:IntKind.i64.wrap (((0:Nat):Int)+1)=((1:Nat):Int):=rfl;simp -dsimp only[go_sem,cC,sB,es,e1,e2,e3,w0,w1,w2,w3,wm,kF,Vs.E,cI,List.map_cons,List.map_nil,hw];refine Br.mk (fun hc=>?_) fun hc=>?_
    ·try simp -dsimp only[go_sem,cC,sB,es,e1,e2,e3,w0,w1,w2,w3,wm,kF,Vs.E,cI,List.map_cons,List.map_nil,hw]
     repeat' first|simp -dsimp only[go_sem,cC,sB,es,e1,e2,e3,w0,w1,w2,w3,wm,kF,Vs.E,cI,List.map_cons,List.map_nil,hw]|apply Br.mk<;>intro h<;>try simp -dsimp only[h]|refine aC ?_|fail
     all_goals first|omega|(refine⟨⟨1,by omega⟩,?_,by simp only;omega⟩;simp[Vs.LeL,Vs.look,Vs.aB,Vs.aP,Vs.aK,Vs.hset,Vs.aL,kF,Vs.E,cI,sB];done)
    ·exact absurd hc (by decide)
   ·have hw:IntKind.i64.wrap (((1:Nat):Int)+1)=((2:Nat):Int):=rfl;simp -dsimp only[go_sem,cC,sB,es,e1,e2,e3,w0,w1,w2,w3,wm,kF,Vs.E,cI,List.map_cons,List.map_nil,hw];refine Br.mk (fun hc=>?_) fun hc=>?_
    ·try simp -dsimp only[go_sem,cC,sB,es,e1,e2,e3,w0,w1,w2,w3,wm,kF,Vs.E,cI,List.map_cons,List.map_nil,hw]
     repeat' first|simp -dsimp only[go_sem,cC,sB,es,e1,e2,e3,w0,w1,w2,w3,wm,kF,Vs.E,cI,List.map_cons,List.map_nil,hw]|apply Br.mk<;>intro h<;>try simp -dsimp only[h]|refine aC ?_|fail
     all_goals first|omega|(refine⟨⟨2,by omega⟩,?_,by simp only;omega⟩;simp[Vs.LeL,Vs.look,Vs.aB,Vs.aP,Vs.aK,Vs.hset,Vs.aL,kF,Vs.E,cI,sB];done)
    ·exact absurd hc (by decide)
   ·simp -dsimp only[go_sem,cC,sB,es,e1,e2,e3,w0,w1,w2,w3,wm,kF];refine Br.mk (fun hc=>absurd hc (by decide)) fun hc=>?_
    try simp -dsimp only[go_sem,cC,sB,es,e1,e2,e3,w0,w1,w2,w3,wm,kF]
    all_goals first|exact⟨⟨_,_,rfl,rfl⟩,fun h=>h rfl⟩|exact⟨_,_,rfl,rfl⟩|(refine⟨?_,fun h=>h rfl⟩;exact⟨_,_,rfl,rfl⟩)
end
section
variable [Vs.Envs]
attribute [local irreducible] Vs.Fn nxV nxS pkV pkS ptN crd
theorem subK {k:Nat} (h:k≤1000):IntKind.i64.wrap (((k+1:Nat):Int)-1)=(k:Int):=by rw[aR (by omega) (by omega)];omega
def ORD:ByteArray:=⟨#[32,38,65,66,67,68,69,70,71,72,73,45,74,75,76,77,78,79,80,81,82,47,83,84,85,86,87,88,89,90,48,49,50,51,52,53,54,55,56,57]⟩
def SEV:ByteArray:=⟨#[65,66,48,49,32,74,90]⟩
theorem aMu:(⟨#[32,38,65,66,67,68,69,70,71,72,73,45,74,75,76,77,78,79,80,81,82,47,83,84,85,86,87,88,89,90,48,49,50,51,52,53,54,55,56,57]⟩:ByteArray)=ORD:=rfl
theorem aMs:(⟨#[65,66,48,49,32,74,90]⟩:ByteArray)=SEV:=rfl
theorem aJ2:ORD.size=40:=rfl
theorem aJ1:SEV.size=7:=rfl
def byA (b:ByteArray) (i:Int):Int:=((b.data.toList.getD i.toNat 0).toNat:Nat)
def dtU (l:List Int) (x:Sr):Int:=if pkV l x 3=0 then byA ORD (pkV l (pkS l x 3) 40) else byA SEV (pkV l (pkS l x 3) 7)
def dtS (l:List Int) (x:Sr):Sr:=if pkV l x 3=0 then pkS l (pkS l x 3) 40 else pkS l (pkS l x 3) 7
def dtF (l:List Int):Nat→Sr→List Int→List Int×Sr
 |0,x,o=>(o,x)
 |k+1,x,o=>dtF l k (dtS l x) (o++[dtU l x])
theorem aJt (l:List Int) (x:Sr):(dtS l x).p≤x.p+4:=by
 unfold dtS;have h1:=bD l x 3;have h2:=bD l (pkS l x 3) 40;have h3:=bD l (pkS l x 3) 7;split<;>omega
theorem aF3 (l:List Int):∀(k:Nat) (x:Sr) (o:List Int),(dtF l k x o).1.length=o.length+k∧(dtF l k x o).2.p≤x.p+4*k
 |0,x,o=>⟨rfl,by simp[dtF]⟩
 | k+1,x,o=>by
  have ih:=aF3 l k (dtS l x) (o++[dtU l x]);have h1:=aJt l x;rw[dtF];refine⟨?_,by omega⟩;rw[ih.1,List.length_append];simp only[List.length_singleton];omega
theorem aCV (o:List Int):(uX o).size=o.length:=by simp[uX,ByteArray.size]
attribute [local irreducible] ORD SEV dtU dtS
attribute [local go_sem] Int.reduceBEq Int.reduceBNe cC aH List.replicate_succ List.replicate_zero List.flatten_cons List.flatten_nil List.cons_append List.nil_append List.set_cons_zero List.set_cons_succ List.length_cons List.length_nil List.length_set List.mem_singleton List.mem_cons List.not_mem_nil or_false false_or Vs.Name.t.injEq List.getD_cons_zero List.getD_cons_succ bB bC bO List.append_nil List.flatMap_cons List.flatMap_nil aMu aMs aJ2 aJ1 in
theorem aBc (l:List Int) (x:Sr) (hl:byt l) (n:Nat) (hn:n≤20) (hp:x.p≤3000):Vs.Fn Tryz.prog F.jO [sB l x] [.ptr (.b 0) 0 0,.v (.int .i64 n)] (.v (.string (uX (dtF l n x []).1))) [some (sB l (dtF l n x []).2)]:=by
 have OR:=aCe;have hall:dtF l n x []=dtF l (n-0) x []:=rfl;generalize hR:dtF l n x []=R at *
 refine fn1 Cd.s_l03DrawText_k [.b 0] [sB l R.2] fun X=>?_;unfold Cd.jO
 repeat' first|simp -dsimp only[go_sem,sB]|apply Br.mk<;>intro h<;>try simp -dsimp only[h]|refine aA.c (by first|exact OR) ?_|refine aC ?_|fail
 refine aN.at dM (X:={zz:Nat×Sr×List Int // zz.1≤n∧(zz.2.1.p+4*(n-zz.1)≤3100)∧(zz.2.2.length=zz.1)∧dtF l (n-zz.1) zz.2.1 zz.2.2=R}) (fun zz=>[(6,.loc (.t 6 0) 0 zz.1.2.2.length),(7,.v (.int .i64 (zz.1.1:Nat)))]) (fun zz=>[(.b 0,sB l zz.1.2.1),(.t 6 0,.arr 1 (E cU zz.1.2.2) false)]) (fun zz=>n-zz.1.1) ⟨(0,x,[]),by dsimp only;omega,by dsimp only;omega,rfl,by dsimp only;rw[←hR];rfl⟩ ?_ ?_
 ·simp[Vs.LeL,Vs.look,Vs.aB,Vs.aP,Vs.aK,Vs.hset,Vs.aL,Vs.E,sB]
 ·rintro⟨⟨i,y,o⟩,hi,hk1,hk2,hr⟩;dsimp only at hi hk1 hk2 hr;simp -dsimp only[go_sem,sB];refine Br.mk (fun hc=>?_) fun hc=>?_
  ·have hlt:i<n:=Dq;have hw:IntKind.i64.wrap ((i:Int)+1)=((i+1:Nat):Int):=by rw[aR (by omega) (by omega)];omega
   rw[show n-i=(n-i-1)+1 by omega,dtF] at hr;have q1:=bD l y 3;have P1:=one l y hl 3 (by omega);by_cases hz:pkV l y 3=0
   ·have e1:(pkV l y 3==0)=true:=by simp[hz]
    rw[e1] at P1;have v2:=dI hl (pkS l y 3) (n:=40) (by omega);have P2:=pick l (pkS l y 3) hl 40 (by omega);have hu:dtU l y=byA ORD (pkV l (pkS l y 3) 40):=by unfold dtU;rw[if_pos hz]
    have hs:dtS l y=pkS l (pkS l y 3) 40:=by unfold dtS;rw[if_pos hz]
    unfold byA at hu;have hq:=aJt l y;rw[hs] at hq;rw[hs,hu] at hr;generalize pkV l (pkS l y 3) 40=i2 at *
    generalize pkS l (pkS l y 3) 40=y2 at *
    obtain⟨u,hu0⟩:∃u:Nat,((ORD).data.toList.getD i2.toNat 0).toNat=u:=⟨_,rfl⟩;rw[hu0] at hr;have hap:E cU o++[[.v (.int .u8 (u:Nat))]]=E cU (o++[(u:Int)]):=by rw[aY];rfl
    repeat' first|simp -dsimp only[go_sem,hw,hap,hu0,sB]|apply Br.mk<;>intro h<;>try simp -dsimp only[h]|refine aA.bor (by first|exact P1|exact P2) rfl ?_|refine aA.c (by first|exact OR) ?_|refine aC ?_|fail
    all_goals first|omega|(refine⟨⟨(i+1,y2,o++[(u:Int)]),by dsimp only;omega,by dsimp only;omega,by dsimp only;rw[List.length_append];simp only[List.length_singleton];omega,by rw[show n-(i+1)=n-i-1 by omega];exact hr⟩,?_,by simp only;omega⟩;simp[Vs.LeL,Vs.look,Vs.aB,Vs.aP,Vs.aK,Vs.hset,Vs.aL,Vs.E,sB,cU];done)
   ·have e1:(pkV l y 3==0)=false:=by simp[hz]
    rw[e1] at P1;have v2:=dI hl (pkS l y 3) (n:=7) (by omega);have P2:=pick l (pkS l y 3) hl 7 (by omega);have hu:dtU l y=byA SEV (pkV l (pkS l y 3) 7):=by unfold dtU;rw[if_neg hz]
    have hs:dtS l y=pkS l (pkS l y 3) 7:=by unfold dtS;rw[if_neg hz]
    unfold byA at hu;have hq:=aJt l y;rw[hs] at hq;rw[hs,hu] at hr;generalize pkV l (pkS l y 3) 7=i2 at *
    generalize pkS l (pkS l y 3) 7=y2 at *
    obtain⟨u,hu0⟩:∃u:Nat,((SEV).data.toList.getD i2.toNat 0).toNat=u:=⟨_,rfl⟩;rw[hu0] at hr;have hap:E cU o++[[.v (.int .u8 (u:Nat))]]=E cU (o++[(u:Int)]):=by rw[aY];rfl
    repeat' first|simp -dsimp only[go_sem,hw,hap,hu0,sB]|apply Br.mk<;>intro h<;>try simp -dsimp only[h]|refine aA.bor (by first|exact P1|exact P2) rfl ?_|refine aA.c (by first|exact OR) ?_|refine aC ?_|fail
    all_goals first|omega|(refine⟨⟨(i+1,y2,o++[(u:Int)]),by dsimp only;omega,by dsimp only;omega,by dsimp only;rw[List.length_append];simp only[List.length_singleton];omega,by rw[show n-(i+1)=n-i-1 by omega];exact hr⟩,?_,by simp only;omega⟩;simp[Vs.LeL,Vs.look,Vs.aB,Vs.aP,Vs.aK,Vs.hset,Vs.aL,Vs.E,sB,cU];done)
  ·have hge:i=n:=by
    have:¬i<n:=Dq;omega
   subst hge;rw[Nat.sub_self,dtF] at hr;subst hr;have hno:Vs.rE (E cU o)=some o:=oZ o;simp -dsimp only[go_sem,sB,hno]
   all_goals first|exact⟨⟨_,_,rfl,rfl⟩,fun h=>h rfl⟩
end
section
variable [Vs.Envs]
attribute [local irreducible] Vs.Fn
theorem aA.own {P:Program}{f:FuncId}{ys:List AV}{d:Option Nat}{σ:St}{K:St→Prop}{t:Tag K}{r:AV}{hout:List (Option Blk)} (hfn:Vs.Fn P f [] ys r hout) (hfr:jL (d.getD 0) 0 hout.length σ=true)
  (hK:K ⟨put d (rn (phi [] (d.getD 0) hout.length) r) σ.s,xR σ.h [] (d.getD 0) hout true []⟩):aA P f [] ys [] d σ [] K t:=
 ⟨r,hout,true,hfn,fun h=>(by cases h),hfr,hK⟩
def nGo:List Int→Int→Bool→Option (Int×Bool)
 | [],n,b=>some (n,b)
 |m::r,n,b=>if m=0∧b=false then nGo r n b else if dg m<0 then none else nGo r (W (W (10*n)+dg m)) true
def nB (x:Int):Bool:=iM .and .i64 x 2 != 0
def nY (x:Int):Int:=iM .andNot .i64 x 2
def wV (u:List Int) (x:Int):Int×Bool:=
 if (u++[x]).any (fun z=>z != 0) then
  match nGo (u++[nY x]) 0 false with
  |none=>(0,false)
  |some (n,b)=>if !b||(nY x==0||(nB x&&n==0)) then(0,false) else(if nB x then W (0-n) else n,true)
 else(0,true)
theorem aKC (u v:List Int):∀(n:Int) (b:Bool),nGo (u++v) n b=(nGo u n b).bind fun p=>nGo v p.1 p.2:=by
 induction u with
 |nil=>intro n b;rfl
 | cons m r ih =>
  intro n b;simp only[List.cons_append,nGo];split
  ·exact ih _ _
  ·split
   ·rfl
   ·exact ih _ _
theorem nGo_t (u:List Int):∀(n:Int),nGo u n true=none∨∃k,nGo u n true=some (k,true):=by
 induction u with
 |nil=>intro n;exact .inr ⟨n,rfl⟩
 | cons m r ih =>
  intro n;simp only[nGo,Bool.true_eq_false,and_false,if_false];split
  ·exact .inl rfl
  ·exact ih _
theorem nGo_f (u:List Int):∀(n:Int),(u.any (fun z=>z != 0)=false∧nGo u n false=some (n,false))∨(u.any (fun z=>z != 0)=true∧(nGo u n false=none∨∃k,nGo u n false=some (k,true))):=by
 induction u with
 |nil=>intro n;exact .inl ⟨rfl,rfl⟩
 | cons m r ih =>
  intro n;simp only[nGo,List.any_cons,and_true];by_cases hm:m=0
  ·subst hm;simpa using ih n
  ·rw[if_neg hm];refine .inr ⟨by simp[hm],?_⟩;split
   ·exact .inl rfl
   ·exact nGo_t r _
set_option maxRecDepth 20000 in
theorem bits2:∀a,a<64→∀b,b<64→(if nB ((64*a+b:Nat):Int)=true then nY ((64*a+b:Nat):Int)=((64*a+b:Nat):Int)-2∧2≤64*a+b else nY ((64*a+b:Nat):Int)=((64*a+b:Nat):Int)):=by
 decide +kernel
theorem bit2 (x:Int) (h0:0≤x) (h1:x≤4095):if nB x=true then nY x=x-2∧2≤x else nY x=x:=by
 obtain⟨n,rfl⟩:∃n:Nat,x=n:=⟨x.toNat,by omega⟩;have:=bits2 (n/64) (by omega) (n%64) (by omega);rw[show 64*(n/64)+n%64=n by omega] at this;split at this<;>split<;>first|omega|(rename_i a b;exact absurd a b)|(rename_i a b;exact absurd b a)
theorem aHw (x:Int):Fz F.fO [.v (.int .i64 x)] (.v (.bool (x != 0))):=by
 refine fn0 Cd.i_numberIn_1_k fun X=>?_
 repeat' first|simp -dsimp only[go_sem]|apply Br.mk<;>intro h<;>try simp -dsimp only[h]|refine aC ?_|fail
 all_goals(simp_all)
theorem kG (l:List Int) (hl:l.length≤1048576):Fz F.jT [.sl 1 (E cI l),.fn F.fO []] (.v (.int .i64 (sD (fun z=>z != 0) l))):=
 aFV Tryz.mixed Cd.ixf_int64_k.o Cd.ixf_int64_k.n Cd.ixf_int64_k.r rfl (fun z=>z != 0) F.fO [] rfl (fun x hx=>aHw x) hl
theorem conN (l:List Int) (hl:l.length≤1048576):Fz F.kY [.sl 1 (E cI l),.fn F.fO []] (.v (.bool (l.any (fun z=>z != 0)))):=
 aDs Tryz.mixed (g:=F.jT) Cd.ctf_int64_k.o Cd.ctf_int64_k.n Cd.ctf_int64_k.r rfl (fun z=>z != 0) F.fO [] rfl (kG l hl)
theorem aIP (c:List Int) (fr to:Int) (u:List Int) (x:Int) (h0:0≤fr) (h1:fr≤to) (h2:to≤c.length) (hp:(c.take to.toNat).drop fr.toNat=u++[x]) (hu:u.length+1≤12):Fz F.oF [.agg (cC c),.agg [.v (.int .i64 fr),.v (.int .i64 to)]] (.tup [.v (.int .i64 (wV u x).1),.v (.bool (wV u x).2)]):=by
 obtain⟨l,hl⟩:∃l:List Int,u++[x]=l:=⟨_,rfl⟩;obtain⟨M,hM⟩:∃M:List Int,u++[nY x]=M:=⟨_,rfl⟩;have hll:l.length=u.length+1:=by rw[←hl];simp
 have hML:M.length=u.length+1:=by rw[←hM];simp
 have hE:List.drop fr.toNat (List.take to.toNat (E cI c))=E cI l:=by rw[←aLC,hp,hl]
 have hw1:IntKind.i64.wrap ((l.length:Int)-1)=(u.length:Int):=by rw[aR (by omega) (by omega)];omega
 have hx:(E cI l).getD u.length []=[.v (.int .i64 x)]:=by rw[←hl];simp[E,cI,List.getD]
 have hst:(E cI l).set u.length [.v (.int .i64 (iM .andNot .i64 x 2))]=E cI M:=by rw[←hl,←hM];simp[E,cI,nY]
 have hB:(iM .and .i64 x 2 != 0)=nB x:=rfl;have hXM:(E cI M).getD u.length []=[.v (.int .i64 (nY x))]:=by rw[←hM];simp[E,cI,List.getD]
 refine fn0 Cd.i_numberIn_k fun X=>?_;simp -dsimp only[go_sem,cC];refine⟨⟨by omega,by omega,by simpa using h2⟩,?_⟩;simp -dsimp only[go_sem,hE];refine aA.own (aA0 l (by omega)) rfl ?_;by_cases ha:l.any (fun z=>z != 0)=true
 ·simp -dsimp only[go_sem,hw1,hx,hst,ha,hB]
  repeat' first|simp -dsimp only[go_sem,hw1,hx,hst,ha,hB]|apply Br.mk<;>intro h<;>try simp -dsimp only[h]|refine aA.c (by first|exact aA0 l (by omega)|exact conN l (by omega)|exact aG6) ?_|refine aC ?_|fail
  refine aN.at dM (X:={zz:Nat×(Int×Bool) // zz.1≤l.length∧nGo (M.drop zz.1) zz.2.1 zz.2.2=nGo M 0 false}) (fun zz=>[(44,.v (.int .i64 zz.1.1)),(9,.v (.int .i64 zz.1.2.1)),(10,.v (.bool zz.1.2.2))]) (fun zz=>[]) (fun zz=>l.length-zz.1.1) ⟨(0,(0,false)),by omega,by simp⟩ ?_ ?_
  ·exact le0
  ·rintro⟨⟨i,a,b⟩,hi,hg⟩;dsimp only at hi hg;simp -dsimp only[go_sem,hw1,hx,hst,ha,hB];refine Br.mk (fun hc=>?_) fun hc=>?_
   ·have hlt:i<l.length:=Dq;have hw:=aG hlt (by omega);have hm:(E cI M).getD i []=[.v (.int .i64 M[i])]:=dK (by omega);have hiM:i<M.length:=by omega
    rw[List.drop_eq_getElem_cons hiM,nGo] at hg;by_cases hz:M[i]=0
    ·have e1:(M[i]==0)=true:=beq_iff_eq.2 hz;cases b with
     | false =>
      rw[if_pos ⟨hz,rfl⟩] at hg
      repeat' first|simp -dsimp only[go_sem,hm,hw,e1]|apply Br.mk<;>intro h<;>try simp -dsimp only[h]|refine aA.c (by first|exact aBH _) ?_|refine aC ?_|fail
      all_goals((refine fun _=>⟨?_,fun h=>absurd rfl h⟩);exact nx (i+1,(a,false)) hg)
     | true =>
      rw[if_neg (by simp)] at hg;have hd:dg M[i]=-1:=by rw[hz];rfl
      rw[if_pos (by omega)] at hg;have hN:wV u x=(0,false):=by unfold wV;rw[hl,if_pos ha,hM,←hg]
      have e2:decide (dg M[i]<0)=true:=decide_eq_true (by omega)
      repeat' first|simp -dsimp only[go_sem,hm,hw,e1,e2]|apply Br.mk<;>intro h<;>try simp -dsimp only[h]|refine aA.c (by first|exact aBH _) ?_|refine aC ?_|fail
      all_goals simp[hN]
    ·have e1:(M[i]==0)=false:=beq_eq_false_iff_ne.2 hz;rw[if_neg (by simp[hz])] at hg;by_cases hd:dg M[i]<0
     ·rw[if_pos hd] at hg;have hN:wV u x=(0,false):=by unfold wV;rw[hl,if_pos ha,hM,←hg]
      have e2:decide (dg M[i]<0)=true:=decide_eq_true hd
      repeat' first|simp -dsimp only[go_sem,hm,hw,e1,e2]|apply Br.mk<;>intro h<;>try simp -dsimp only[h]|refine aA.c (by first|exact aBH _) ?_|refine aC ?_|fail
      all_goals simp[hN]
     ·rw[if_neg hd] at hg;have e2:decide (dg M[i]<0)=false:=decide_eq_false hd
      repeat' first|simp -dsimp only[go_sem,hm,hw,e1,e2]|apply Br.mk<;>intro h<;>try simp -dsimp only[h]|refine aA.c (by first|exact aBH _) ?_|refine aC ?_|fail
      all_goals(exact nx (i+1,(W (W (10*a)+dg M[i]),true)) hg)
   ·have hge:i=l.length:=by
     have:¬i<l.length:=Dq;omega
    subst hge;simp -dsimp only[go_sem,hw1,hx,hst,ha,hB];rw[List.drop_eq_nil_of_le (by omega),nGo] at hg;have hN:wV u x=(if !b||(nY x==0||(nB x&&a==0)) then(0,false) else(if nB x then W (0-a) else a,true)):=by unfold wV;rw[hl,if_pos ha,hM,←hg]
    cases hb:nB x<;>cases hy:(nY x==0)<;>cases h0:(a==0)<;>cases b
    all_goals
     simp -dsimp only[go_sem,hXM,hb,hy,h0,hw1,hx,hst,ha,hB]
    all_goals simp[hN,hb,hy,h0]
    all_goals omega
 ·have ha:=by simpa using ha
  have hN:wV u x=(0,true):=by unfold wV;rw[hl,if_neg (by simpa using ha)]
  have ha:l.any (fun z=>z != 0)=false:=by simpa using ha
  repeat' first|simp -dsimp only[go_sem,hw1,hx,hst,ha,hB]|apply Br.mk<;>intro h<;>try simp -dsimp only[h]|refine aA.c (by first|exact aA0 l (by omega)|exact conN l (by omega)|exact aG6) ?_|refine aC ?_|fail
  all_goals simp[hN]
end
section
variable [Vs.Envs]
attribute [local irreducible] Vs.Fn
def aF2 (a:Int) (m:Bool):Int×Bool:=if m then(W (0-a),a != 0) else(a,true)
theorem aHx (u:List Int) (x:Int) (h0:0≤x) (h1:x≤4095) :
  wV u x=match nGo u 0 false with
   |none=>(0,false)
   |some (a,b)=>if nY x=0∧b=false∧nB x=false then(a,true) else if dg (nY x)<0 then(0,false) else aF2 (W (W (10*a)+dg (nY x))) (nB x):=by
 have hb:=bit2 x h0 h1;have hd0:dg 0=-1:=rfl;unfold wV aF2;rw[aKC,List.any_append];rcases nGo_f u 0 with⟨hu,hg⟩|⟨hu,hg|⟨k,hg⟩⟩
 ·rw[hg,hu];simp only[Option.bind_some,nGo,List.any_cons,List.any_nil,Bool.or_false,Bool.false_or];have hw0:W 0=0:=by decide
  cases hn:nB x<;>simp only[hn,Bool.false_eq_true,if_false,if_true] at hb
  ·rw[hb];by_cases hx:x=0
   ·simp[hx]
   ·by_cases hd:dg x<0
    ·simp[hx,hd]
    ·simp[hx,hd]
  ·obtain⟨hb,h2⟩:=hb;have hx:x≠0:=by omega
   by_cases hy:nY x=0
   ·simp[hy,hx,hd0]
   ·by_cases hd:dg (nY x)<0
    ·simp[hx,hy,hd]
    ·by_cases hz:W (dg (nY x))=0
     ·simp[hx,hy,hd,hz,hw0]
     ·simp[hx,hy,hd,hz,hw0]
 ·rw[hg,hu];simp
 ·rw[hg,hu];have hw0:W 0=0:=by decide
  simp only[Option.bind_some,nGo,Bool.true_or,if_true,Bool.true_eq_false,and_false,false_and,if_false];by_cases hd:dg (nY x)<0
  ·simp[hd]
  ·have hy:nY x≠0:=by intro e;rw[e] at hd;exact hd (by decide)
   cases hn:nB x
   ·simp[hy,hd]
   ·by_cases hz:W (W (10*k)+dg (nY x))=0
    ·simp[hy,hd,hz,hw0]
    ·simp[hy,hd,hz]
theorem aHL (u:List Int) (x:Int) (h0:0≤x) (h1:x≤4095) (hu:u.length+1≤12):Fz F.l8 [.sl 1 (E cI (u++[x]))] (.tup [.v (.int .i64 (wV u x).1),.v (.bool (wV u x).2)]):=by
 have hF:=aHx u x h0 h1;have hb2:=bit2 x h0 h1;obtain⟨l,hl⟩:∃l:List Int,u++[x]=l:=⟨_,rfl⟩;have hll:l.length=u.length+1:=by rw[←hl];simp
 have hw1:IntKind.i64.wrap ((l.length:Int)-1)=(u.length:Int):=by rw[aR (by omega) (by omega)];omega
 rw[hl];refine fn0 Cd.s_l03Number_k fun X=>?_;simp -dsimp only[go_sem];refine aN.at dM (X:={zz:Nat×(Int×Bool×Bool) // zz.1≤l.length∧((zz.1≤u.length∧zz.2.2.2=false∧nGo (u.drop zz.1) zz.2.1 zz.2.2.1=nGo u 0 false)∨(zz.1=u.length+1∧aF2 zz.2.1 zz.2.2.2=wV u x))}) (fun zz=>[(7,.v (.int .i64 zz.1.1)),(4,.v (.int .i64 zz.1.2.1)),(5,.v (.bool zz.1.2.2.1)),(6,.v (.bool zz.1.2.2.2))]) (fun zz=>[]) (fun zz=>l.length-zz.1.1) ⟨(0,(0,false,false)),by omega,.inl ⟨by omega,rfl,by simp⟩⟩ ?_ ?_
 ·exact le0
 ·rintro⟨⟨i,a,b,m⟩,hi,hg⟩;dsimp only at hi hg;simp -dsimp only[go_sem,hw1];refine Br.mk (fun hc=>?_) fun hc=>?_
  ·have hlt:i<l.length:=Dq;have hw:=aG hlt (by omega);have hm:(E cI l).getD i []=[.v (.int .i64 l[i])]:=dK hlt;have hiu:i≤u.length:=by omega
   rcases hg with⟨_,hmi,hg⟩|⟨hi2,_⟩
   case inr=>omega
   subst hmi;by_cases hi2:i<u.length
   ·have hq:((i:Int)==(u.length:Int))=false:=beq_eq_false_iff_ne.2 (by omega);have hm:(E cI l).getD i []=[.v (.int .i64 u[i])]:=by rw[hm];subst hl;simp[List.getElem_append,hi2]
    rw[List.drop_eq_getElem_cons hi2,nGo] at hg;by_cases hz:u[i]=0
    ·have e1:(u[i]==0)=true:=beq_iff_eq.2 hz;cases b with
     | false =>
      rw[if_pos ⟨hz,rfl⟩] at hg
      repeat' first|simp -dsimp only[go_sem,hm,hw,hq,e1,hw1]|apply Br.mk<;>intro h<;>try simp -dsimp only[h]|refine aA.c (by first|exact lD _) ?_|refine aC ?_|fail
      all_goals((refine⟨?_,fun h=>absurd rfl h⟩);exact nx (i+1,(a,false,false)) (.inl ⟨by first|omega|(simp;omega),rfl,hg⟩))
     | true =>
      rw[if_neg (by simp)] at hg;have hd:dg u[i]=-1:=by rw[hz];rfl
      rw[if_pos (by omega)] at hg;rw[←hg] at hF;have e2:decide (dg u[i]<0)=true:=decide_eq_true (by omega)
      repeat' first|simp -dsimp only[go_sem,hm,hw,hq,e1,e2,hw1]|apply Br.mk<;>intro h<;>try simp -dsimp only[h]|refine aA.c (by first|exact lD _) ?_|refine aC ?_|fail
      all_goals simp[hF]
    ·have e1:(u[i]==0)=false:=beq_eq_false_iff_ne.2 hz;rw[if_neg (by simp[hz])] at hg;by_cases hd:dg u[i]<0
     ·rw[if_pos hd] at hg;rw[←hg] at hF;have e2:decide (dg u[i]<0)=true:=decide_eq_true hd
      repeat' first|simp -dsimp only[go_sem,hm,hw,hq,e1,e2,hw1]|apply Br.mk<;>intro h<;>try simp -dsimp only[h]|refine aA.c (by first|exact lD _) ?_|refine aC ?_|fail
      all_goals simp[hF]
     ·rw[if_neg hd] at hg;have e2:decide (dg u[i]<0)=false:=decide_eq_false hd
      repeat' first|simp -dsimp only[go_sem,hm,hw,hq,e1,e2,hw1]|apply Br.mk<;>intro h<;>try simp -dsimp only[h]|refine aA.c (by first|exact lD _) ?_|refine aC ?_|fail
      all_goals(exact nx (i+1,(W (W (10*a)+dg u[i]),true,false)) (.inl ⟨by first|omega|(simp;omega),rfl,hg⟩))
   ·have hiu:i=u.length:=by omega
    subst hiu;have hq:((u.length:Int)==(u.length:Int))=true:=beq_iff_eq.2 rfl;have hm:(E cI l).getD u.length []=[.v (.int .i64 x)]:=by rw[hm];subst hl;simp
    rw[List.drop_length,nGo] at hg;rw[←hg] at hF;dsimp only at hF;have hB:(iM BinOp.and IntKind.i64 x 2 != 0)=nB x:=rfl;cases hn:nB x<;>simp only[hn,Bool.false_eq_true,if_false,if_true] at hb2
    ·rw[hb2,hn] at hF;by_cases hz:x=0
     ·have e1:(x==0)=true:=beq_iff_eq.2 hz;cases b with
      | false =>
       rw[if_pos ⟨hz,rfl,rfl⟩] at hF
       repeat' first|simp -dsimp only[go_sem,hm,hw,hq,e1,hB,hn,hw1]|apply Br.mk<;>intro h<;>try simp -dsimp only[h]|refine aA.c (by first|exact lD _) ?_|refine aC ?_|fail
       all_goals((refine⟨?_,fun h=>absurd rfl h⟩);exact nx (u.length+1,(a,false,false)) (.inr ⟨rfl,by first|(rw[hF];done)|(rw[hF];simp[aF2])⟩))
      | true =>
       have hd:dg x=-1:=by rw[hz];rfl
       rw[if_neg (by simp),if_pos (by omega)] at hF;have e2:decide (dg x<0)=true:=decide_eq_true (by omega)
       repeat' first|simp -dsimp only[go_sem,hm,hw,hq,e1,e2,hB,hn,hw1]|apply Br.mk<;>intro h<;>try simp -dsimp only[h]|refine aA.c (by first|exact lD _) ?_|refine aC ?_|fail
       all_goals simp[hF]
     ·have e1:(x==0)=false:=beq_eq_false_iff_ne.2 hz;rw[if_neg (by simp[hz])] at hF;by_cases hd:dg x<0
      ·rw[if_pos hd] at hF;have e2:decide (dg x<0)=true:=decide_eq_true hd
       repeat' first|simp -dsimp only[go_sem,hm,hw,hq,e1,e2,hB,hn,hw1]|apply Br.mk<;>intro h<;>try simp -dsimp only[h]|refine aA.c (by first|exact lD _) ?_|refine aC ?_|fail
       all_goals simp[hF]
      ·rw[if_neg hd] at hF;have e2:decide (dg x<0)=false:=decide_eq_false hd
       repeat' first|simp -dsimp only[go_sem,hm,hw,hq,e1,e2,hB,hn,hw1]|apply Br.mk<;>intro h<;>try simp -dsimp only[h]|refine aA.c (by first|exact lD _) ?_|refine aC ?_|fail
       all_goals(exact nx (u.length+1,(W (W (10*a)+dg x),true,false)) (.inr ⟨rfl,by first|(rw[hF];done)|(rw[hF];simp[aF2])⟩))
    ·obtain⟨hb2,hx2⟩:=hb2;rw[hb2,hn] at hF;rw[if_neg (by simp)] at hF;have hw2:IntKind.i64.wrap (x-2)=x-2:=aR (by omega) (by omega);by_cases hd:dg (x-2)<0
     ·rw[if_pos hd] at hF;have e2:decide (dg (x-2)<0)=true:=decide_eq_true hd;cases e1:(x-2==0)<;>cases b
      all_goals
       repeat' first|simp -dsimp only[go_sem,hm,hw,hq,hw2,e1,e2,hB,hn,hw1]|apply Br.mk<;>intro h<;>try simp -dsimp only[h]|refine aA.c (by first|exact lD _) ?_|refine aC ?_|fail
       all_goals simp[hF]
     ·rw[if_neg hd] at hF;have e2:decide (dg (x-2)<0)=false:=decide_eq_false hd;cases e1:(x-2==0)<;>cases b
      all_goals
       repeat' first|simp -dsimp only[go_sem,hm,hw,hq,hw2,e1,e2,hB,hn,hw1]|apply Br.mk<;>intro h<;>try simp -dsimp only[h]|refine aA.c (by first|exact lD _) ?_|refine aC ?_|fail
       all_goals(exact nx (u.length+1,(W (W (10*a)+dg (x-2)),true,true)) (.inr ⟨rfl,by first|(rw[hF];done)|(rw[hF];simp[aF2])⟩))
  ·have hge:i=l.length:=by
    have:¬i<l.length:=Dq;omega
   subst hge;simp -dsimp only[go_sem,hw1];rcases hg with⟨h3,_⟩|⟨_,hg⟩
   ·omega
   cases m
   all_goals
    simp -dsimp only[go_sem,hw1]
   all_goals simp[←hg,aF2]
end
end Go.Proofs.YthbnjmgjhonfbaaGreat
