/- A deck is read by a tabulator: the reference. -/
import Derived.Test.YthbnjmgjhonfbaaGreatTwSq
import Derived.Test.YthbnjmgjhonfbaaGreatTwSh
import Derived.Test.YthbnjmgjhonfbaaGreatTwVf
import Derived.Test.YthbnjmgjhonfbaaGreatTwQd
import Derived.Test.YthbnjmgjhonfbaaGreatVtR
set_option linter.all false
set_option maxHeartbeats 8000000
namespace Go.Proofs.YthbnjmgjhonfbaaGreat
open Go.Vs
section
variable [Vs.Envs]
attribute [local irreducible] Vs.Fn bT cZ aW dB dC l03 chB rk cd3 chI stp aZ
attribute [local go_sem] aH List.replicate_succ List.replicate_zero List.flatten_cons List.flatten_nil List.cons_append List.nil_append List.set_cons_zero List.set_cons_succ List.length_cons List.length_nil List.length_set in
theorem aDd (l:List (List Int)) (fr to:Int) (ho:∀c,c∈l→okF fr to c) (hall:bI fr to l=true) (hl:l.length≤1048576):Fz F.l6 [.sl 1 (E cSt (bS fr to l))] (.sl 1 (E cI (bT fr to l l.length))):=by
 have hkl:(E cSt (bS fr to l)).length=l.length:=by rw[aH];simp[bS]
 have hke:∀i:Nat,i<l.length→(E cSt (bS fr to l)).getD i []=[.v (.string (txt (fH fr to (l.getD i []))))]:=fun i hi=>by
  have h:=aI8 (fr:=fr) (to:=to) (l:=l) (x:=(i:Int)) ⟨by omega,by omega⟩;rw[Int.toNat_natCast] at h;exact h
 have hin:∀i:Nat,i<l.length→l.getD i []∈l:=fun i hi=>by rw[show l.getD i []=l[i] by simp[List.getD,hi]];exact List.getElem_mem hi
 have hne:∀i j:Nat,i<l.length→j<l.length→(!((txt (fH fr to (l.getD i []))).toList==(txt (fH fr to (l.getD j []))).toList))=(cmF fr to (l.getD j []) (l.getD i []) != 0):=fun i j hi hj=>by
  have hli:=lC (ho _ (hin i hi));have hlj:=lC (ho _ (hin j hj));have hci:=List.all_eq_true.1 hall _ (hin i hi);have hcj:=List.all_eq_true.1 hall _ (hin j hj);rw[aDE (by rw[hli,hlj]) hci hcj];unfold cmF;rw[aA1 (fH fr to (l.getD i [])) (fH fr to (l.getD j [])) (by rw[hli,hlj])];generalize jC (fH fr to (l.getD i [])) (fH fr to (l.getD j []))=c;by_cases h0:c=0
  ·subst h0;rfl
  ·have h1:(c==0)=false:=by simp[h0]
   have h2:(-c != 0)=true:=by simp;omega
   rw[h1,h2];rfl
 generalize E cSt (bS fr to l)=K at *
 refine fn0 Cd.s_l09Groups_k fun X=>?_
 repeat' first|simp -dsimp only[go_sem,hkl]|apply Br.mk<;>intro h<;>try simp -dsimp only[h]|refine aC ?_|fail
 refine aN.at dM (X:={zz:Nat×(Unit) // zz.1≤l.length∧True}) (fun zz=>[(3,.loc (.t 3 0) 0 (bT fr to l zz.1.1).length),(4,.v (.int .i64 zz.1.1))]) (fun zz=>[(.t 3 0,.arr 1 (E cI (bT fr to l zz.1.1)) false)]) (fun zz=>l.length-zz.1.1) ⟨(0,()),by omega,trivial⟩ ?_ ?_
 ·simp[Vs.LeL,Vs.look,Vs.aB,Vs.aP,Vs.aK,Vs.hset,Vs.aL,Vs.E,vM]
 ·rintro⟨⟨i,_⟩,hi,hg⟩;dsimp only at hi hg;simp -dsimp only[go_sem,hkl];refine Br.mk (fun hc=>?_) fun hc=>?_
  ·have hlt:i<l.length:=Dq;have hw:=aG hlt (by omega);have hgl:=jX fr to l i;have gi:=hke i hlt;have hap:E cI (bT fr to l i)++[[.v (.int .i64 (i:Int))]]=E cI (bT fr to l i++[(i:Int)]):=by rw[aY];rfl
   have hal:(E cI (bT fr to l i)).length=(bT fr to l i).length:=aH ..
   have hgs:=rW fr to l i;by_cases h0:i=0
   ·subst h0;rw[if_pos (.inl rfl)] at hgs;have e0:(((0:Nat):Int)==0)=true:=rfl
    repeat' first|simp -dsimp only[go_sem,e0,hw,hap,hal,gi]|apply Br.mk<;>intro h<;>try simp -dsimp only[h]|refine aC ?_|fail
    all_goals first|omega|(exact nx (0+1,()) trivial (h2:=by simp[Vs.LeL,Vs.look,Vs.aB,Vs.aP,Vs.aK,Vs.hset,Vs.aL,hgs]))
   ·have e0:((i:Int)==0)=false:=by simp[h0]
    have w0:IntKind.i64.wrap ((i:Int)-1)=((i-1:Nat):Int):=by rw[aR (by omega) (by omega)];omega
    have hl1:i-1<l.length:=by omega
    have gj:=hke (i-1) hl1;have hn:=hne i (i-1) hlt hl1;by_cases hc0:cmF fr to (l.getD (i-1) []) (l.getD i [])=0
    ·have e1:(cmF fr to (l.getD (i-1) []) (l.getD i []) != 0)=false:=by rw[hc0];rfl
     rw[e1] at hn;rw[if_neg (by rintro(h|h)<;>contradiction),List.append_nil] at hgs
     repeat' first|simp -dsimp only[go_sem,e0,hn,hkl,w0,hw,hap,hal,gi,gj]|apply Br.mk<;>intro h<;>try simp -dsimp only[h]|refine aC ?_|fail
     all_goals first|omega|(exact nx (i+1,()) trivial (h2:=by simp[Vs.LeL,Vs.look,Vs.aB,Vs.aP,Vs.aK,Vs.hset,Vs.aL,hgs]))
    ·have e1:(cmF fr to (l.getD (i-1) []) (l.getD i []) != 0)=true:=bne_iff_ne.2 hc0;rw[e1] at hn;rw[if_pos (.inr hc0)] at hgs
     repeat' first|simp -dsimp only[go_sem,e0,hn,hkl,w0,hw,hap,hal,gi,gj]|apply Br.mk<;>intro h<;>try simp -dsimp only[h]|refine aC ?_|fail
     all_goals first|omega|(exact nx (i+1,()) trivial (h2:=by simp[Vs.LeL,Vs.look,Vs.aB,Vs.aP,Vs.aK,Vs.hset,Vs.aL,hgs]))
  ·have hge:i=l.length:=by
    have:¬i<l.length:=Dq;omega
   subst hge;simp -dsimp only[go_sem,hkl];have htk:(E cI (bT fr to l l.length)).take (bT fr to l l.length).length=E cI (bT fr to l l.length):=List.take_of_length_le (by rw[aH];exact Nat.le_refl _)
   first|exact⟨⟨_,_,rfl,rfl⟩,fun h=>h rfl⟩|(rw[htk];exact⟨⟨_,_,rfl,rfl⟩,fun h=>h rfl⟩)|(simp[htk];done)
end
section
variable [Vs.Envs]
attribute [local irreducible] Vs.Fn bT bG kH cZ aW dB dC l03 chB rk cd3 chI stp aZ
def sZ (fr to:Int) (l:List (List Int)):List (List Int):=(bT fr to l l.length).map fun i=>l.getD i.toNat []
def pW (fr to:Int) (l:List (List Int)):AV:=if bG fr to l=0 then .sl 1 (E cC (sZ fr to l)) else .v (.slice none 0 0)
theorem aJE (fr to:Int) (l:List (List Int)):kH fr to [l]=bG fr to l:=by
 unfold kH bG;simp only[List.all_cons,List.all_nil,Bool.and_true]
theorem aAU {fr to:Int}{l:List (List Int)}:∀x,x∈bT fr to l l.length→inO l.length x:=fun x hx=>uM l.length x hx
attribute [local go_sem] cD aH List.replicate_succ List.replicate_zero List.flatten_cons List.flatten_nil List.cons_append List.nil_append List.set_cons_zero List.set_cons_succ List.length_cons List.length_nil List.length_set in
theorem zD (l:List (List Int)) (fr to:Int) (hk:bA l):Fz F.jK [.sl 1 (E cC l),.agg (cFd fr to)] (.tup [pW fr to l,.v (.int .i64 (bG fr to l))]):=by
 have CC:=uQ fr to [l] ⟨by simp,fun d hd=>by simp at hd;subst hd;exact hk⟩;rw[aJE] at CC;by_cases h0:bG fr to l=0
 ·obtain⟨hd,hf,ha⟩:=aBD h0;have ho:=dW hd hf;have h40:=iE hd;rw[show pW fr to l=.sl 1 (E cC (sZ fr to l)) by simp[pW,h0],h0];have hol:=jX fr to l l.length;have hoi:=aAU (fr:=fr) (to:=to) (l:=l);rw[show sZ fr to l=(bT fr to l l.length).map (fun i=>l.getD i.toNat []) from rfl];have GO:=aE7 l fr to ho (by omega);rw[h0] at CC;generalize bT fr to l l.length=o at *
  refine fn0 Cd.i_FirstOfGroups_k fun X=>?_
  repeat' first|simp -dsimp only[go_sem,cC,cFd]|apply Br.mk<;>intro h<;>try simp -dsimp only[h]|refine aA.c (by first|exact CC|exact GO) ?_|refine aC ?_|fail
  refine aN.at dM (X:={zz:Nat×(Unit) // zz.1≤o.length∧True}) (fun zz=>[(7,.loc (.t 7 0) 0 zz.1.1),(22,.v (.int .i64 zz.1.1))]) (fun zz=>[(.t 7 0,.arr 1 (E cC ((o.take zz.1.1).map fun i=>l.getD i.toNat [])) false)]) (fun zz=>o.length-zz.1.1) ⟨(0,()),by omega,trivial⟩ ?_ ?_
  ·simp[Vs.LeL,Vs.look,Vs.aB,Vs.aP,Vs.aK,Vs.hset,Vs.aL,Vs.E]
  ·rintro⟨⟨i,_⟩,hi,hg⟩;dsimp only at hi hg;simp -dsimp only[go_sem,cC,cFd];refine Br.mk (fun hc=>?_) fun hc=>?_
   ·have hlt:i<o.length:=Dq;have hw:=aG hlt (by omega);have hx:=hoi _ (List.getElem_mem hlt);have gx:=aA2 hx;have hm:=mU hx;have hc20:(l.getD o[i].toNat []).length≤20:=(ho _ hm).2.2.2;have NC:=aAg (l.getD o[i].toNat []) (by omega);have x0:=hx.1;have x1:=hx.2
    have hap:E cC ((o.take i).map fun i=>l.getD i.toNat [])++[[.sl 1 (E cI (l.getD o[i].toNat []))]]=E cC ((o.take (i+1)).map fun i=>l.getD i.toNat []):=by
     rw[bL hlt,List.map_append,aY];rfl
    have hal:(E cC ((o.take i).map fun i=>l.getD i.toNat [])).length=i:=by rw[aH];simp;omega
    repeat' first|simp -dsimp only[go_sem,dK hlt,hw,hap,hal,gx,cC,cFd]|apply Br.mk<;>intro h<;>try simp -dsimp only[h]|refine aA.c (by first|exact NC) ?_|refine aC ?_|fail
    all_goals first|omega|(exact nx (i+1,()) trivial (h2:=by simp[Vs.LeL,Vs.look,Vs.aB,Vs.aP,Vs.aK,Vs.hset,Vs.aL,hap]))
   ·have hge:i=o.length:=by
     have:¬i<o.length:=Dq;omega
    subst hge;simp -dsimp only[go_sem,cC,cFd]
    have htk:(E cC ((o.take o.length).map fun i=>l.getD i.toNat [])).take o.length=E cC (o.map fun i=>l.getD i.toNat []):=by
     rw[List.take_of_length_le (Nat.le_refl o.length)];exact List.take_of_length_le (by rw[aH];simp)
    first|exact⟨⟨_,_,rfl,rfl⟩,fun h=>h rfl⟩|(rw[htk];exact⟨⟨_,_,rfl,rfl⟩,fun h=>h rfl⟩)|(simp[htk];done)
 ·have e0:(bG fr to l != 0)=true:=by simp[h0]
  rw[show pW fr to l=.v (.slice none 0 0) by simp[pW,h0]];generalize bG fr to l=c at *
  refine fn0 Cd.i_FirstOfGroups_k fun X=>?_
  repeat' first|simp -dsimp only[go_sem,cC,cFd,e0]|apply Br.mk<;>intro h<;>try simp -dsimp only[h]|refine aA.c (by first|exact CC) ?_|refine aC ?_|fail
  all_goals first|exact⟨_,_,rfl,rfl⟩
attribute [local go_sem] cD aH List.replicate_succ List.replicate_zero List.flatten_cons List.flatten_nil List.cons_append List.nil_append List.set_cons_zero List.set_cons_succ List.length_cons List.length_nil List.length_set in
theorem qQ (l:List (List Int)) (fr to:Int) (hk:bA l):Fz F.jG [.sl 1 (E cC l),.agg (cFd fr to)] (.tup [pW fr to l,.v (.int .i64 (bG fr to l))]):=by
 have KS:=j6 l fr to hk.2 hk.1;by_cases h0:bG fr to l=0
 ·obtain⟨hd,hf,ha⟩:=aBD h0;have ho:=dW hd hf;have h40:=iE hd;rw[show pW fr to l=.sl 1 (E cC (sZ fr to l)) by simp[pW,h0],h0];have hol:=jX fr to l l.length;have hoi:=aAU (fr:=fr) (to:=to) (l:=l);rw[show sZ fr to l=(bT fr to l l.length).map (fun i=>l.getD i.toNat []) from rfl];have GO:=aDd l fr to ho ha (by omega);rw[show gY fr to l=.sl 1 (E cSt (bS fr to l)) by simp[gY,h0],h0] at KS;generalize bT fr to l l.length=o at *
  refine fn0 Cd.s_FirstOfGroups_k fun X=>?_
  repeat' first|simp -dsimp only[go_sem,cC,cFd]|apply Br.mk<;>intro h<;>try simp -dsimp only[h]|refine aA.c (by first|exact KS|exact GO) ?_|refine aC ?_|fail
  refine aN.at dM (X:={zz:Nat×(Unit) // zz.1≤o.length∧True}) (fun zz=>[(9,.loc (.t 9 0) 0 zz.1.1),(10,.v (.int .i64 zz.1.1))]) (fun zz=>[(.t 9 0,.arr 1 (E cC ((o.take zz.1.1).map fun i=>l.getD i.toNat [])) false)]) (fun zz=>o.length-zz.1.1) ⟨(0,()),by omega,trivial⟩ ?_ ?_
  ·simp[Vs.LeL,Vs.look,Vs.aB,Vs.aP,Vs.aK,Vs.hset,Vs.aL,Vs.E]
  ·rintro⟨⟨i,_⟩,hi,hg⟩;dsimp only at hi hg;simp -dsimp only[go_sem,cC,cFd];refine Br.mk (fun hc=>?_) fun hc=>?_
   ·have hlt:i<o.length:=Dq;have hw:=aG hlt (by omega);have hx:=hoi _ (List.getElem_mem hlt);have gx:=aA2 hx;have hm:=mU hx;have hc20:(l.getD o[i].toNat []).length≤20:=(ho _ hm).2.2.2;have NC:=wX (l.getD o[i].toNat []) (by omega);have x0:=hx.1;have x1:=hx.2
    have hap:E cC ((o.take i).map fun i=>l.getD i.toNat [])++[[.sl 1 (E cI (l.getD o[i].toNat []))]]=E cC ((o.take (i+1)).map fun i=>l.getD i.toNat []):=by
     rw[bL hlt,List.map_append,aY];rfl
    have hal:(E cC ((o.take i).map fun i=>l.getD i.toNat [])).length=i:=by rw[aH];simp;omega
    repeat' first|simp -dsimp only[go_sem,dK hlt,hw,hap,hal,gx,cC,cFd]|apply Br.mk<;>intro h<;>try simp -dsimp only[h]|refine aA.c (by first|exact NC) ?_|refine aC ?_|fail
    all_goals first|omega|(exact nx (i+1,()) trivial (h2:=by simp[Vs.LeL,Vs.look,Vs.aB,Vs.aP,Vs.aK,Vs.hset,Vs.aL,hap]))
   ·have hge:i=o.length:=by
     have:¬i<o.length:=Dq;omega
    subst hge;simp -dsimp only[go_sem,cC,cFd]
    have htk:(E cC ((o.take o.length).map fun i=>l.getD i.toNat [])).take o.length=E cC (o.map fun i=>l.getD i.toNat []):=by
     rw[List.take_of_length_le (Nat.le_refl o.length)];exact List.take_of_length_le (by rw[aH];simp)
    first|exact⟨⟨_,_,rfl,rfl⟩,fun h=>h rfl⟩|(rw[htk];exact⟨⟨_,_,rfl,rfl⟩,fun h=>h rfl⟩)|(simp[htk];done)
 ·have e0:(bG fr to l != 0)=true:=by simp[h0]
  rw[show pW fr to l=.v (.slice none 0 0) by simp[pW,h0]];rw[show gY fr to l=.v (.slice none 0 0) by simp[gY,h0]] at KS;generalize bG fr to l=c at *
  refine fn0 Cd.s_FirstOfGroups_k fun X=>?_
  repeat' first|simp -dsimp only[go_sem,cC,cFd,e0]|apply Br.mk<;>intro h<;>try simp -dsimp only[h]|refine aA.c (by first|exact KS) ?_|refine aC ?_|fail
  all_goals first|exact⟨_,_,rfl,rfl⟩
end
section
variable [Vs.Envs]
attribute [local irreducible] Vs.Fn flt zR aW dB dC stp aZ
set_option maxRecDepth 100000 in
theorem aG4:∀n:Nat,n<256→cZ (n:Int)=true→0≤rk (cd3 (n:Int))∧chI (cd3 (n:Int))=(n:Int):=by decide +kernel
attribute [local irreducible] cZ rk cd3 chI
theorem aDz {s:ByteArray} (h:aW s=true):∀b,b∈s.data.toList→cZ (b.toNat:Int)=true:=by
 unfold aW at h;exact List.all_eq_true.1 h
theorem aHQ {s:ByteArray} (h:aW s=true):cK (bcd s)=true:=by
 unfold cK bcd;rw[List.all_eq_true];intro x hx;obtain⟨b,hb,rfl⟩:=List.mem_map.1 hx;exact decide_eq_true (aG4 b.toNat (UInt8.toNat_lt _) (aDz h b hb)).1
theorem aJ7 {s:ByteArray} (h:aW s=true):txt (bcd s)=s:=by
 have e:(bcd s).map chI=s.data.toList.map fun b=>(b.toNat:Int):=by
  unfold bcd;rw[List.map_map];refine List.map_congr_left fun b hb=>?_;exact(aG4 b.toNat (UInt8.toNat_lt _) (aDz h b hb)).2
 unfold txt uX;rw[e,List.map_map]
 have e2:(s.data.toList.map ((fun n:Int=>UInt8.ofNat n.toNat)∘fun b:UInt8=>(b.toNat:Int)))=s.data.toList:=by
  rw[show((fun n:Int=>UInt8.ofNat n.toNat)∘fun b:UInt8=>(b.toNat:Int))=id from funext fun b=>by simp];simp
 rw[e2]
theorem aKw {s:ByteArray}{w:Nat} (h:s.size=w):pun s w=bcd s:=by
 unfold pun;rw[h,Nat.sub_self];simp
theorem aKR {fr to:Int}{c:List Int}{s:ByteArray} (hc:okF fr to c) (hh:cK (fH fr to c)=true) (hs:s.size=to.toNat-fr.toNat) (ha:aW s=true) :
  ((txt (fH fr to c)).toList==s.toList) = !iI fr to s c:=by
 have h1:=aDE (a:=fH fr to c) (b:=bcd s) (by rw[lC hc,aBM,hs]) hh (aHQ ha);rw[aJ7 ha] at h1;rw[h1];unfold iI cmT;rw[aKw hs];generalize jC (fH fr to c) (bcd s)=v;by_cases h0:v=0
 ·subst h0;rfl
 ·have e:(v==0)=false:=beq_eq_false_iff_ne.2 h0;rw[e];rcases Int.lt_or_gt_of_ne h0 with h|h<;>simp[h]
theorem aKg {fr to:Int}{s:ByteArray}{l:List (List Int)}:gF fr to s l=if bG fr to l=0∨bG fr to l=8 then(if l09 s fr to=0 then bG fr to l else l09 s fr to) else bG fr to l:=by
 unfold gF yM bG l09;cases h1:aS l<;>cases h2:dJ fr to (aT l)<;>cases h5:bI fr to l<;>by_cases h3:(s.size:Int)=W (to-fr)<;>cases h4:aW s<;>simp[h1,h2,h3,h4,h5]
end
section
variable [Vs.Envs]
attribute [local irreducible] Vs.Fn pun cmT flt zR iI cZ aW dB dC l03 chB rk cd3 chI stp aZ
def aH1 (fr to:Int) (s:ByteArray) (l:List (List Int)):AV:=if gF fr to s l=0 then .sl 1 (E cSt (bS fr to l)) else .v (.slice none 0 0)
theorem aI1 (s:ByteArray) (a b:Int):l09 s a b=2∨l09 s a b=0∨l09 s a b=7:=by
 unfold l09;split
 ·exact .inl rfl
 ·split
  ·exact .inr (.inl rfl)
  ·exact .inr (.inr rfl)
theorem aKT (fr to:Int) (l:List (List Int)):bG fr to l=0∨bG fr to l=8∨bG fr to l=1∨bG fr to l=2:=by
 unfold bG;split
 ·split
  ·split<;>simp
  ·simp
 ·simp
attribute [local go_sem] Int.reduceBEq Int.reduceBNe List.replicate_succ List.replicate_zero List.flatten_cons List.flatten_nil List.cons_append List.nil_append List.set_cons_zero List.set_cons_succ List.length_cons List.length_nil List.length_set in
theorem aL4 (l:List (List Int)) (fr to:Int) (s:ByteArray) (hk:bA l) (hz:s.size≤1048576):Fz F.wL [.sl 1 (E cC l),.agg (cFd fr to),.sl 1 [[.v (.string s)]]] (.tup [aH1 fr to s l,.v (.int .i64 (gF fr to s l))]):=by
 have KS:=j6 l fr to hk.2 hk.1;have TX:=aDZ s fr to hz;have hsc:=aKg (fr:=fr) (to:=to) (s:=s) (l:=l);unfold aH1;rcases aKT fr to l with hc|hc|hc|hc
 ·rcases aI1 s fr to with hb|hb|hb
  ·rw[show gY fr to l=.sl 1 (E cSt (bS fr to l)) by simp[gY,hc],hc] at KS;have hs0:gF fr to s l=2:=by rw[hsc];simp[hc,hb]
   rw[hb] at TX;rw[hs0];simp only[if_true,if_false,Int.reduceEq];refine fn0 Cd.s_l09Ask_k fun X=>?_
   repeat' first|simp -dsimp only[go_sem,cC,cFd]|apply Br.mk<;>intro h<;>try simp -dsimp only[h]|refine aA.c (by first|exact KS|exact TX) ?_|refine aC ?_|fail
   refine aN.at dM (X:={zz:Nat×(Unit) // zz.1≤1∧True}) (fun zz=>[(10,.v (.int .i64 (if zz.1.1=0 then 0 else 2))),(11,.v (.int .i64 zz.1.1))]) (fun zz=>[]) (fun zz=>1-zz.1.1) ⟨(0,()),by omega,trivial⟩ ?_ ?_
   ·exact le0
   ·rintro⟨⟨i,_⟩,hi,hg⟩;dsimp only at hi hg;simp -dsimp only[go_sem,cC,cFd];refine Br.mk (fun hc=>?_) fun hc=>?_
    ·have hlt:i<1:=Dq;have hw:=aG hlt (by omega);obtain rfl:i=0:=by omega
     repeat' first|simp -dsimp only[go_sem,cC,cFd,hw]|apply Br.mk<;>intro h<;>try simp -dsimp only[h]|refine aA.c (by first|exact TX) ?_|refine aC ?_|fail
     all_goals first|exact fun _=>⟨⟨_,_,rfl,rfl⟩,fun h=>h rfl⟩|omega|exact⟨_,_,rfl,rfl⟩|exact⟨⟨_,_,rfl,rfl⟩,fun h=>h rfl⟩|exact⟨fun _=>⟨_,_,rfl,rfl⟩,fun h=>absurd rfl h⟩|(exact nx (1,()) trivial)
    ·have hge:i=1:=by
      have:¬i<1:=Dq;omega
     subst hge;simp -dsimp only[go_sem,cC,cFd]
     first|exact⟨⟨_,_,rfl,rfl⟩,fun h=>h rfl⟩|omega|exact⟨_,_,rfl,rfl⟩|exact⟨⟨_,_,rfl,rfl⟩,fun h=>h rfl⟩|exact⟨fun _=>⟨_,_,rfl,rfl⟩,fun h=>absurd rfl h⟩
  ·rw[show gY fr to l=.sl 1 (E cSt (bS fr to l)) by simp[gY,hc],hc] at KS;have hs0:gF fr to s l=0:=by rw[hsc];simp[hc,hb]
   rw[hb] at TX;rw[hs0];simp only[if_true,if_false,Int.reduceEq];refine fn0 Cd.s_l09Ask_k fun X=>?_
   repeat' first|simp -dsimp only[go_sem,cC,cFd]|apply Br.mk<;>intro h<;>try simp -dsimp only[h]|refine aA.c (by first|exact KS|exact TX) ?_|refine aC ?_|fail
   refine aN.at dM (X:={zz:Nat×(Unit) // zz.1≤1∧True}) (fun zz=>[(10,.v (.int .i64 (if zz.1.1=0 then 0 else 0))),(11,.v (.int .i64 zz.1.1))]) (fun zz=>[]) (fun zz=>1-zz.1.1) ⟨(0,()),by omega,trivial⟩ ?_ ?_
   ·exact le0
   ·rintro⟨⟨i,_⟩,hi,hg⟩;dsimp only at hi hg;simp -dsimp only[go_sem,cC,cFd];refine Br.mk (fun hc=>?_) fun hc=>?_
    ·have hlt:i<1:=Dq;have hw:=aG hlt (by omega);obtain rfl:i=0:=by omega
     repeat' first|simp -dsimp only[go_sem,cC,cFd,hw]|apply Br.mk<;>intro h<;>try simp -dsimp only[h]|refine aA.c (by first|exact TX) ?_|refine aC ?_|fail
     all_goals first|exact fun _=>⟨⟨_,_,rfl,rfl⟩,fun h=>h rfl⟩|omega|exact⟨_,_,rfl,rfl⟩|exact⟨⟨_,_,rfl,rfl⟩,fun h=>h rfl⟩|exact⟨fun _=>⟨_,_,rfl,rfl⟩,fun h=>absurd rfl h⟩|(exact nx (1,()) trivial)
    ·have hge:i=1:=by
      have:¬i<1:=Dq;omega
     subst hge;simp -dsimp only[go_sem,cC,cFd]
     first|exact⟨⟨_,_,rfl,rfl⟩,fun h=>h rfl⟩|omega|exact⟨_,_,rfl,rfl⟩|exact⟨⟨_,_,rfl,rfl⟩,fun h=>h rfl⟩|exact⟨fun _=>⟨_,_,rfl,rfl⟩,fun h=>absurd rfl h⟩
  ·rw[show gY fr to l=.sl 1 (E cSt (bS fr to l)) by simp[gY,hc],hc] at KS;have hs0:gF fr to s l=7:=by rw[hsc];simp[hc,hb]
   rw[hb] at TX;rw[hs0];simp only[if_true,if_false,Int.reduceEq];refine fn0 Cd.s_l09Ask_k fun X=>?_
   repeat' first|simp -dsimp only[go_sem,cC,cFd]|apply Br.mk<;>intro h<;>try simp -dsimp only[h]|refine aA.c (by first|exact KS|exact TX) ?_|refine aC ?_|fail
   refine aN.at dM (X:={zz:Nat×(Unit) // zz.1≤1∧True}) (fun zz=>[(10,.v (.int .i64 (if zz.1.1=0 then 0 else 7))),(11,.v (.int .i64 zz.1.1))]) (fun zz=>[]) (fun zz=>1-zz.1.1) ⟨(0,()),by omega,trivial⟩ ?_ ?_
   ·exact le0
   ·rintro⟨⟨i,_⟩,hi,hg⟩;dsimp only at hi hg;simp -dsimp only[go_sem,cC,cFd];refine Br.mk (fun hc=>?_) fun hc=>?_
    ·have hlt:i<1:=Dq;have hw:=aG hlt (by omega);obtain rfl:i=0:=by omega
     repeat' first|simp -dsimp only[go_sem,cC,cFd,hw]|apply Br.mk<;>intro h<;>try simp -dsimp only[h]|refine aA.c (by first|exact TX) ?_|refine aC ?_|fail
     all_goals first|exact fun _=>⟨⟨_,_,rfl,rfl⟩,fun h=>h rfl⟩|omega|exact⟨_,_,rfl,rfl⟩|exact⟨⟨_,_,rfl,rfl⟩,fun h=>h rfl⟩|exact⟨fun _=>⟨_,_,rfl,rfl⟩,fun h=>absurd rfl h⟩|(exact nx (1,()) trivial)
    ·have hge:i=1:=by
      have:¬i<1:=Dq;omega
     subst hge;simp -dsimp only[go_sem,cC,cFd]
     first|exact⟨⟨_,_,rfl,rfl⟩,fun h=>h rfl⟩|omega|exact⟨_,_,rfl,rfl⟩|exact⟨⟨_,_,rfl,rfl⟩,fun h=>h rfl⟩|exact⟨fun _=>⟨_,_,rfl,rfl⟩,fun h=>absurd rfl h⟩
 ·rcases aI1 s fr to with hb|hb|hb
  ·rw[show gY fr to l=.v (.slice none 0 0) by simp[gY,hc],hc] at KS;have hs0:gF fr to s l=2:=by rw[hsc];simp[hc,hb]
   rw[hb] at TX;rw[hs0];simp only[if_true,if_false,Int.reduceEq];refine fn0 Cd.s_l09Ask_k fun X=>?_
   repeat' first|simp -dsimp only[go_sem,cC,cFd]|apply Br.mk<;>intro h<;>try simp -dsimp only[h]|refine aA.c (by first|exact KS|exact TX) ?_|refine aC ?_|fail
   refine aN.at dM (X:={zz:Nat×(Unit) // zz.1≤1∧True}) (fun zz=>[(10,.v (.int .i64 (if zz.1.1=0 then 0 else 2))),(11,.v (.int .i64 zz.1.1))]) (fun zz=>[]) (fun zz=>1-zz.1.1) ⟨(0,()),by omega,trivial⟩ ?_ ?_
   ·exact le0
   ·rintro⟨⟨i,_⟩,hi,hg⟩;dsimp only at hi hg;simp -dsimp only[go_sem,cC,cFd];refine Br.mk (fun hc=>?_) fun hc=>?_
    ·have hlt:i<1:=Dq;have hw:=aG hlt (by omega);obtain rfl:i=0:=by omega
     repeat' first|simp -dsimp only[go_sem,cC,cFd,hw]|apply Br.mk<;>intro h<;>try simp -dsimp only[h]|refine aA.c (by first|exact TX) ?_|refine aC ?_|fail
     all_goals first|exact fun _=>⟨⟨_,_,rfl,rfl⟩,fun h=>h rfl⟩|omega|exact⟨_,_,rfl,rfl⟩|exact⟨⟨_,_,rfl,rfl⟩,fun h=>h rfl⟩|exact⟨fun _=>⟨_,_,rfl,rfl⟩,fun h=>absurd rfl h⟩|(exact nx (1,()) trivial)
    ·have hge:i=1:=by
      have:¬i<1:=Dq;omega
     subst hge;simp -dsimp only[go_sem,cC,cFd]
     first|exact⟨⟨_,_,rfl,rfl⟩,fun h=>h rfl⟩|omega|exact⟨_,_,rfl,rfl⟩|exact⟨⟨_,_,rfl,rfl⟩,fun h=>h rfl⟩|exact⟨fun _=>⟨_,_,rfl,rfl⟩,fun h=>absurd rfl h⟩
  ·rw[show gY fr to l=.v (.slice none 0 0) by simp[gY,hc],hc] at KS;have hs0:gF fr to s l=8:=by rw[hsc];simp[hc,hb]
   rw[hb] at TX;rw[hs0];simp only[if_true,if_false,Int.reduceEq];refine fn0 Cd.s_l09Ask_k fun X=>?_
   repeat' first|simp -dsimp only[go_sem,cC,cFd]|apply Br.mk<;>intro h<;>try simp -dsimp only[h]|refine aA.c (by first|exact KS|exact TX) ?_|refine aC ?_|fail
   refine aN.at dM (X:={zz:Nat×(Unit) // zz.1≤1∧True}) (fun zz=>[(10,.v (.int .i64 (if zz.1.1=0 then 0 else 0))),(11,.v (.int .i64 zz.1.1))]) (fun zz=>[]) (fun zz=>1-zz.1.1) ⟨(0,()),by omega,trivial⟩ ?_ ?_
   ·exact le0
   ·rintro⟨⟨i,_⟩,hi,hg⟩;dsimp only at hi hg;simp -dsimp only[go_sem,cC,cFd];refine Br.mk (fun hc=>?_) fun hc=>?_
    ·have hlt:i<1:=Dq;have hw:=aG hlt (by omega);obtain rfl:i=0:=by omega
     repeat' first|simp -dsimp only[go_sem,cC,cFd,hw]|apply Br.mk<;>intro h<;>try simp -dsimp only[h]|refine aA.c (by first|exact TX) ?_|refine aC ?_|fail
     all_goals first|exact fun _=>⟨⟨_,_,rfl,rfl⟩,fun h=>h rfl⟩|omega|exact⟨_,_,rfl,rfl⟩|exact⟨⟨_,_,rfl,rfl⟩,fun h=>h rfl⟩|exact⟨fun _=>⟨_,_,rfl,rfl⟩,fun h=>absurd rfl h⟩|(exact nx (1,()) trivial)
    ·have hge:i=1:=by
      have:¬i<1:=Dq;omega
     subst hge;simp -dsimp only[go_sem,cC,cFd]
     first|exact⟨⟨_,_,rfl,rfl⟩,fun h=>h rfl⟩|omega|exact⟨_,_,rfl,rfl⟩|exact⟨⟨_,_,rfl,rfl⟩,fun h=>h rfl⟩|exact⟨fun _=>⟨_,_,rfl,rfl⟩,fun h=>absurd rfl h⟩
  ·rw[show gY fr to l=.v (.slice none 0 0) by simp[gY,hc],hc] at KS;have hs0:gF fr to s l=7:=by rw[hsc];simp[hc,hb]
   rw[hb] at TX;rw[hs0];simp only[if_true,if_false,Int.reduceEq];refine fn0 Cd.s_l09Ask_k fun X=>?_
   repeat' first|simp -dsimp only[go_sem,cC,cFd]|apply Br.mk<;>intro h<;>try simp -dsimp only[h]|refine aA.c (by first|exact KS|exact TX) ?_|refine aC ?_|fail
   refine aN.at dM (X:={zz:Nat×(Unit) // zz.1≤1∧True}) (fun zz=>[(10,.v (.int .i64 (if zz.1.1=0 then 0 else 7))),(11,.v (.int .i64 zz.1.1))]) (fun zz=>[]) (fun zz=>1-zz.1.1) ⟨(0,()),by omega,trivial⟩ ?_ ?_
   ·exact le0
   ·rintro⟨⟨i,_⟩,hi,hg⟩;dsimp only at hi hg;simp -dsimp only[go_sem,cC,cFd];refine Br.mk (fun hc=>?_) fun hc=>?_
    ·have hlt:i<1:=Dq;have hw:=aG hlt (by omega);obtain rfl:i=0:=by omega
     repeat' first|simp -dsimp only[go_sem,cC,cFd,hw]|apply Br.mk<;>intro h<;>try simp -dsimp only[h]|refine aA.c (by first|exact TX) ?_|refine aC ?_|fail
     all_goals first|exact fun _=>⟨⟨_,_,rfl,rfl⟩,fun h=>h rfl⟩|omega|exact⟨_,_,rfl,rfl⟩|exact⟨⟨_,_,rfl,rfl⟩,fun h=>h rfl⟩|exact⟨fun _=>⟨_,_,rfl,rfl⟩,fun h=>absurd rfl h⟩|(exact nx (1,()) trivial)
    ·have hge:i=1:=by
      have:¬i<1:=Dq;omega
     subst hge;simp -dsimp only[go_sem,cC,cFd]
     first|exact⟨⟨_,_,rfl,rfl⟩,fun h=>h rfl⟩|omega|exact⟨_,_,rfl,rfl⟩|exact⟨⟨_,_,rfl,rfl⟩,fun h=>h rfl⟩|exact⟨fun _=>⟨_,_,rfl,rfl⟩,fun h=>absurd rfl h⟩
 ·rw[show gY fr to l=.v (.slice none 0 0) by simp[gY,hc],hc] at KS;have hs0:gF fr to s l=1:=by rw[hsc];simp[hc]
  rw[hs0];simp only[if_true,if_false,Int.reduceEq];refine fn0 Cd.s_l09Ask_k fun X=>?_
  repeat' first|simp -dsimp only[go_sem,cC,cFd]|apply Br.mk<;>intro h<;>try simp -dsimp only[h]|refine aA.c (by first|exact KS|exact TX) ?_|refine aC ?_|fail
  all_goals first|omega|exact⟨_,_,rfl,rfl⟩|exact⟨⟨_,_,rfl,rfl⟩,fun h=>h rfl⟩|exact⟨fun _=>⟨_,_,rfl,rfl⟩,fun h=>absurd rfl h⟩
 ·rw[show gY fr to l=.v (.slice none 0 0) by simp[gY,hc],hc] at KS;have hs0:gF fr to s l=2:=by rw[hsc];simp[hc]
  rw[hs0];simp only[if_true,if_false,Int.reduceEq];refine fn0 Cd.s_l09Ask_k fun X=>?_
  repeat' first|simp -dsimp only[go_sem,cC,cFd]|apply Br.mk<;>intro h<;>try simp -dsimp only[h]|refine aA.c (by first|exact KS|exact TX) ?_|refine aC ?_|fail
  all_goals first|omega|exact⟨_,_,rfl,rfl⟩|exact⟨⟨_,_,rfl,rfl⟩,fun h=>h rfl⟩|exact⟨fun _=>⟨_,_,rfl,rfl⟩,fun h=>absurd rfl h⟩
end
section
variable [Vs.Envs]
attribute [local irreducible] Vs.Fn bT lU bG cZ aW dB dC l03 chB rk cd3 chI stp aZ
attribute [local go_sem] Int.reduceBEq Int.reduceBNe cC cFd aH List.replicate_succ List.replicate_zero List.flatten_cons List.flatten_nil List.cons_append List.nil_append List.set_cons_zero List.set_cons_succ List.length_cons List.length_nil List.length_set List.getD_cons_zero
open Go.Vs.Q in
def CdV.l13Read:aD:=s [o 4 (.mv (.const (.pointer none))),mi 5 0] [0,1]<|s [o 14 (.build [.v (.slice none 0 0),.v (.slice none 0 0),.v (.slice none 0 0)] []),bx 15 14,m 6 15] [0,1,6]<|.seq (s [m 16 1,c 17 F.iR [16],nt 18 17] [0,1,6,18]<|.cond 18 (s [m 19 6,m 4 19,mi 5 1] [4,5]<|.ret) .skip)<|.seq (s [m 20 0,m
 21 1,c 22 F.gG [21],c 23 F.zX [20,22],nt 24 23] [0,1,6,24]<|.cond 24 (s [m 25 6,m 4 25,mi 5 2] [4,5]<|.ret) .skip)<|s [m 27 1,m 28 0,nc 29 28,fa 30 0 29,lt 31 2 30,c 32 F.jN [27,31],m 26 32,ex 33 26 0,ex 34 26 1,m 7 33,m 8 34] [0,1,6,7,8]<|.seq (s [m 35 8,ne 36 35 0]
 [0,1,6,7,8,36]<|.cond 36 (s [m 37 6,m 38 8,m 4 37,m 5 38] [4,5]<|.ret) .skip)<|.seq (s [mi 9 0] [0,1,6,7,9]<|.block 0 (.loop (.seq (s [m 39 9,m 40 1,ln 41 40,ls 42 39 41] [0,1,6,7,9,42]<|.cond 42 .skip (.exit 0))<|.seq (.block 1 (.seq (.naming 10 (.region [o 45 (.bslice 1 0 [.v (.int .i64 (0))] []),m
 10 45] [0,1,6,7,9,10] []))<|.seq (s [mi 11 0] [0,1,6,7,9,10,11]<|.closing 10 (.block 2 (.loop (.seq (s [m 46 11,m 47 0,nc 48 47,fa 49 2 48,lf 50 1 49,ln 51 50,ls 52 46 51] [0,1,6,7,9,10,11,52]<|.cond 52 .skip (.exit 2))<|.seq (.block 3 (r [m 56 1,m 57 9,ix 58 1 56 57,m 59 0,nc 60 59,fa 61 2 60,lf 62
 1 61,m 63 11,ix 64 2 62 63,lt 65 2 64,c 66 F.nU [58,65],c 67 F.l8 [66],m 55 67,ex 68 55 0,ex 69 55 1,m 12 68,m 13 69] [0,1,6,7,9,10,11,12,13] [56,57,59,58,60,61,62,63,64,65,66,67,55,68,69,12]<|.seq (s [m 70 13,nt 71 70] [0,1,6,7,9,10,11,12,71]<|.cond 71 (s [m 72 6,m 4 72,mi 5 8]
 [4,5]<|.ret) .skip)<|.naming 10 (.region [m 73 10,m 74 12,o 75 (.bslice 1 1 [.v (.int .i64 (0))] [(0,74)]),o 76 (.append 1 8 73 75),m 10 76] [0,1,6,7,9,10,11] [])))<|.region [m 53 11,ad 54 53 1,m 11 54] [0,1,6,7,9,10,11] []))))<|.region [m 77 6,m 78 6,nc 79 78,fa 80 1 79,lf 81 1 80,m 82 10,o 83
 (.bslice 1 1 [.v (.slice none 0 0)] [(0,82)]),o 84 (.append 1 24 81 83),nc 85 77,fa 86 1 85,⟨none,.store 1 86 84,none⟩] [0,1,6,7,9] []))<|.region [m 43 9,ad 44 43 1,m 9 44] [0,1,6,7,9] [])))<|s [m 87 6,m 88 7,nc 89 87,fa 90 0 89,⟨none,.store 1 90 88,none⟩] [6,7]<|s [m 91 6,m 92 7,c 93
 F.l6 [92],nc 94 91,fa 95 2 94,⟨none,.store 1 95 93,none⟩] [6]<|s [m 96 6,m 4 96,mi 5 0] [4,5]<|.ret
theorem CdV.l13Read_k:CK 102 Tryz.f102 CdV.l13Read 97 [.tmp 4,.tmp 5]:=ck Tryz.func102
attribute [go_sem] CdV.l13Read
def vV (ns:List Int):Int:=ns.foldl (fun a n=>IntKind.i64.wrap (a+n)) 0
theorem aHi {ns:List Int}{i:Nat} (h:i<ns.length):vV (ns.take (i+1))=IntKind.i64.wrap (vV (ns.take i)+ns[i]):=by
 unfold vV;rw[bL h,List.foldl_append];rfl
theorem aIb (sf st:Int) (l:List (List Int)):vV (l.map fun c=>(lU sf st c).1)=jY sf st l:=by
 unfold vV jY;rw[List.foldl_map]
theorem aJ8 {ns:List Int}{i:Nat}{x:Int} (h:ns[i]? = some x):vV (ns.take (i+1))=IntKind.i64.wrap (vV (ns.take i)+x):=by
 obtain⟨hi,rfl⟩:=List.getElem?_eq_some_iff.1 h;exact aHi hi
def cRw (n:Int):List AV:=[.sl 1 [[.v (.int .i64 n)]]]
theorem aLa {ns:List Int}{i:Nat} (h:i<ns.length):(E cRw ns).getD i []=[.sl 1 [[.v (.int .i64 (ns.getD i 0))]]]:=by rw[aX h];simp[cRw,List.getD,h]
attribute [local irreducible] vV
theorem aFS (g0 g1 s0 s1 w:Int) (hw:inB w 1 20=true) (hf:dJ g0 g1 w=true) (hn:rF s0 s1 w=true):Fz F.zX [.ro [.v (.int .i64 g0),.v (.int .i64 g1),.sl 2 [[.v (.int .i64 s0),.v (.int .i64 s1)]],.v (.bool false)],.v (.int .i64 w)] (.v (.bool true)):=by
 have hn2:=hn;unfold rF at hn2;rw[Bool.and_eq_true] at hn2;obtain⟨hn0,hn1⟩:=hn2;have IN:=yO w 1 20;rw[hw] at IN;have FG:=dS g0 g1 w;rw[hf] at FG;have FS:=dS s0 s1 w;rw[hn0] at FS
 have e12:decide (IntKind.i64.wrap (s1-s0)>12)=false:=by
  have:=of_decide_eq_true hn1;exact decide_eq_false (by unfold W at this;omega)
 refine fn0 Cd.s_l13Ok_k fun X=>?_
 repeat' first|simp -dsimp only[go_sem,e12]|apply Br.mk<;>intro h<;>try simp -dsimp only[h]|refine aA.c (by first|exact IN|exact FG) ?_|refine aC ?_|fail
 refine aN.at dM (X:={zz:Nat×(Unit) // zz.1≤1∧True}) (fun zz=>[(5,.v (.int .i64 zz.1.1))]) (fun zz=>[]) (fun zz=>1-zz.1.1) ⟨(0,()),by omega,trivial⟩ ?_ ?_
 ·exact le0
 ·rintro⟨⟨i,_⟩,hi,hg⟩;dsimp only at hi hg;simp -dsimp only[go_sem];refine Br.mk (fun hc=>?_) fun hc=>?_
  ·have hlt:i<1:=Dq;have hw:=aG hlt (by omega);obtain rfl:i=0:=by omega
   repeat' first|simp -dsimp only[go_sem,hw,e12]|apply Br.mk<;>intro h<;>try simp -dsimp only[h]|refine aA.c (by first|exact FS) ?_|refine aC ?_|fail
   all_goals first|omega|(exact nx (1,()) trivial)
  ·have hge:i=1:=by
    have:¬i<1:=Dq;omega
   subst hge;simp -dsimp only[go_sem]
   first|exact⟨⟨_,_,rfl,rfl⟩,fun h=>h rfl⟩|(simp;done)
theorem r_end (nv:AV) (hs:List Int) (ks:List ByteArray) (g:Nat) (hg:g<hs.length) (hl:hs.length≤1048576):Fz F.nE [.ro [.sl 1 (E cSt ks),nv,.sl 1 (E cI hs)],.v (.int .i64 (g:Int))] (.v (.int .i64 (if g+1<hs.length then hs.getD (g+1) 0 else(ks.length:Int)))):=by
 have hw:IntKind.i64.wrap ((g:Int)+1)=((g+1:Nat):Int):=by rw[aR (by omega) (by omega)];omega
 by_cases h:g+1<hs.length
 ·have e1:decide (((g+1:Nat):Int)<(hs.length:Int))=true:=decide_eq_true (by omega);have gh:(E cI hs).getD (g+1) []=[.v (.int .i64 (hs.getD (g+1) 0))]:=by rw[aX h];simp[cI,List.getD,h]
  rw[if_pos h];refine fn0 Cd._s_l13R__end_k fun X=>?_
  repeat' first|simp -dsimp only[go_sem,hw,e1,gh]|apply Br.mk<;>intro h<;>try simp -dsimp only[h]|refine aC ?_|fail
  all_goals first|exact⟨_,_,rfl,rfl⟩
 ·have e1:decide (((g+1:Nat):Int)<(hs.length:Int))=false:=decide_eq_false (by omega);rw[if_neg h];refine fn0 Cd._s_l13R__end_k fun X=>?_
  repeat' first|simp -dsimp only[go_sem,hw,e1]|apply Br.mk<;>intro h<;>try simp -dsimp only[h]|refine aC ?_|fail
  all_goals first|exact⟨_,_,rfl,rfl⟩
theorem aLR (kv hv:AV) (ns:List Int) (fr to:Nat) (h1:fr≤to) (h2:to≤ns.length) (hl:ns.length≤1048576):Fz F.lK [.ro [kv,.sl 1 (E cRw ns),hv],.v (.int .i64 (fr:Int)),.v (.int .i64 (to:Int)),.v (.int .i64 1)] (.sl 1 (E cI [vV ((ns.take to).drop fr)])):=by
 have hml:((ns.take to).drop fr).length=to-fr:=by simp;omega
 have hge:∀i,i<to-fr→((ns.take to).drop fr)[i]? = some (ns.getD (fr+i) 0):=by
  intro i h;rw[List.getElem?_drop,List.getElem?_take,if_pos (by omega)];simp[List.getD,(by omega:fr+i<ns.length)]
 generalize hm:(ns.take to).drop fr=ms at *
 have e1c:∀x:Int,E cI [x]=[[.v (.int .i64 x)]]:=fun _=>rfl;refine fn0 Cd._s_l13R__sums_k fun X=>?_
 repeat' first|simp -dsimp only[go_sem]|apply Br.mk<;>intro h<;>try simp -dsimp only[h]|refine aC ?_|fail
 refine aN.at dM (X:={zz:Nat×(Unit) // zz.1≤(to-fr)∧True}) (fun zz=>[(9,.loc (.t 13 0) 0 1),(10,.v (.int .i64 ((fr+zz.1.1:Nat):Int)))]) (fun zz=>[(.t 13 0,.arr 1 (E cI [vV (ms.take zz.1.1)]) false)]) (fun zz=>(to-fr)-zz.1.1) ⟨(0,()),by omega,trivial⟩ ?_ ?_
 ·simp[Vs.LeL,Vs.look,Vs.aB,Vs.aP,Vs.aK,Vs.hset,Vs.aL,Vs.E,cI,vV]
 ·rintro⟨⟨i,_⟩,hi,hg⟩;dsimp only at hi hg;simp -dsimp only[go_sem];refine Br.mk (fun hc=>?_) fun hc=>?_
  ·have hlt:i<(to-fr):=Dq;have hw:=aG hlt (by omega);have hj:((fr+i:Nat):Int).toNat=fr+i:=by omega
   have gr:=aLa (by omega:fr+i<ns.length);have hss:=aJ8 (hge i (by omega));have hwj:IntKind.i64.wrap (((fr+i:Nat):Int)+1)=((fr+(i+1):Nat):Int):=by rw[aR (by omega) (by omega)];omega
   obtain⟨j,rfl⟩:∃j,j=i:=⟨i,rfl⟩;simp -dsimp only[go_sem];refine aN.at dM (X:={zz:Nat×(Unit) // zz.1≤1∧True}) (fun zz=>[(9,.loc (.t 13 0) 0 1),(17,.junk),(11,.v (.int .i64 zz.1.1))]) (fun zz=>[(.t 13 0,.arr 1 (E cI [if zz.1.1=0 then vV (ms.take j) else vV (ms.take (j+1))]) false)]) (fun zz=>1-zz.1.1) ⟨(0,()),by omega,trivial⟩ ?_ ?_
   ·simp[Vs.LeL,Vs.look,Vs.aB,Vs.aP,Vs.aK,Vs.hset,Vs.aL,Vs.E,cI]
   ·rintro⟨⟨i,_⟩,hi,hg⟩;dsimp only at hi hg;simp -dsimp only[go_sem];refine Br.mk (fun hc=>?_) fun hc=>?_
    ·have hlt:i<1:=Dq;have hw:=aG hlt (by omega);obtain rfl:i=0:=by omega
     repeat' first|simp -dsimp only[go_sem,gr,hj,hss,e1c,hw]|apply Br.mk<;>intro h<;>try simp -dsimp only[h]|refine aC ?_|fail
     all_goals first|omega|(exact nx (1,()) trivial (h2:=by simp[Vs.LeL,Vs.look,Vs.aB,Vs.aP,Vs.aK,Vs.hset,Vs.aL,hss,Vs.E,cI]))
    ·have hge:i=1:=by
      have:¬i<1:=Dq;omega
     subst hge;simp -dsimp only[go_sem];refine And.intro ?_ (fun h=>absurd rfl h);simp -dsimp only[go_sem,hwj]
     first|(exact⟨⟨(j+1,()),by omega,trivial⟩,by simp[Vs.LeL,Vs.look,Vs.aB,Vs.aP,Vs.aK,Vs.hset,Vs.aL],by simp only;omega⟩)
  ·have hge:i=(to-fr):=by
    have:¬i<(to-fr):=Dq;omega
   subst hge;simp -dsimp only[go_sem];have hfull:(E cI [vV (ms.take (to-fr))]).take 1=E cI [vV ms]:=by rw[List.take_of_length_le (l:=ms) (by omega)];rfl
   first|(rw[hfull];exact⟨⟨_,_,rfl,rfl⟩,fun h=>h rfl⟩)
end
section
variable [Vs.Envs]
attribute [local irreducible] Vs.Fn bT lU bG vV bS cZ aW dB dC l03 chB rk cd3 chI stp aZ
def lT (sf st:Int) (l:List (List Int)):List Int:=l.map fun c=>(lU sf st c).1
theorem kJ (sf st:Int) (l:List (List Int)):(lT sf st l).length=l.length:=by simp[lT]
theorem aB5 {sf st:Int}{l:List (List Int)}{i:Nat} (h:i<l.length):E cRw ((lT sf st l).take i)++[[.sl 1 [[.v (.int .i64 (lU sf st l[i]).1)]]]]=E cRw ((lT sf st l).take (i+1)):=by
 rw[bL (by rw[kJ];exact h),aY];simp[lT,E,cRw]
def j5 (sf st:Int) (l:List (List Int)) (i:Nat):AV:=if i=0 then .v (.slice none 0 0) else .loc (.t 84 0) 0 i
def j4 (sf st:Int) (l:List (List Int)) (i:Nat):List (Vs.Name×Blk):=if i=0 then[] else[(.t 84 0,.arr 1 (E cRw ((lT sf st l).take i)) false)]
def tY (sf st:Int) (l:List (List Int)) (i:Nat):AV:=if i=0 then .v (.slice none 0 0) else .sl 1 (E cRw ((lT sf st l).take i))
section
variable (l:List (List Int)) (fr to sf st:Int) (hk:bA l) (hd:aS l=true) (hf:dJ fr to (aT l)=true) (hn:rF sf st (aT l)=true)
include hk hd hf hn
theorem aDD:inB (aT l) 1 20=true:=by
 have _:=hk;have _:=hf;have _:=hn;by_cases h0:l.length=0
 ·unfold aT;rw[if_pos h0];rfl
 ·have hd2:=hd;simp only[aS,Bool.and_eq_true,List.all_eq_true,decide_eq_true_eq] at hd2;have hm:l.getD 0 []∈l:=by rw[show l.getD 0 []=l[0]'(by omega) by simp[List.getD,(by omega:0<l.length)]];exact List.getElem_mem _
  have:=(hd2.1 _ hm).1;simp only[gM,inB,Bool.and_eq_true,decide_eq_true_eq] at this;unfold aT;rw[if_neg h0];simp only[inB,Bool.and_eq_true,decide_eq_true_eq];omega
theorem aFR (ha:bI fr to l=false):Fz F.xY [.ro [.v (.int .i64 fr),.v (.int .i64 to),.sl 2 [[.v (.int .i64 sf),.v (.int .i64 st)]],.v (.bool false)],.sl 1 (E cC l)] (.tup [.ro [.v (.slice none 0 0),.v (.slice none 0 0),.v (.slice none 0 0)],.v (.int .i64 8)]):=by
 have DK:=dG l hk.2 hk.1;rw[hd] at DK;have WD:=dO l;have OKS:=aFS fr to sf st (aT l) (aDD l fr to sf st hk hd hf hn) hf hn;have KS:=j6 l fr to hk.2 hk.1;have hc:bG fr to l=8:=by simp only[bG,hd,hf,ha];rfl
 rw[show gY fr to l=.v (.slice none 0 0) by simp[gY,hc],hc] at KS;refine fn0 CdV.l13Read_k fun X=>?_
 repeat' first|simp -dsimp only[go_sem,Int.reduceBEq,Int.reduceBNe,cC,cFd,aH,List.replicate_succ,List.replicate_zero,List.flatten_cons,List.flatten_nil,List.cons_append,List.nil_append,List.set_cons_zero,List.set_cons_succ,List.length_cons,List.length_nil,List.length_set,List.getD_cons_zero]|apply Br.mk<;>intro h<;>try simp -dsimp only[h]|refine aA.c (by first|exact DK|exact WD|exact OKS|exact KS) ?_|refine aC ?_|fail
 all_goals first|exact⟨_,_,rfl,rfl⟩
attribute [local go_sem] Int.reduceBEq Int.reduceBNe cFd aH List.replicate_succ List.replicate_zero List.flatten_cons List.flatten_nil List.cons_append List.nil_append List.set_cons_zero List.set_cons_succ List.length_cons List.length_nil List.length_set List.getD_cons_zero in
theorem aFQ (ha:bI fr to l=true) (hN:zL sf st l=true):Fz F.xY [.ro [.v (.int .i64 fr),.v (.int .i64 to),.sl 2 [[.v (.int .i64 sf),.v (.int .i64 st)]],.v (.bool false)],.sl 1 (E cC l)] (.tup [.ro [.sl 1 (E cSt (bS fr to l)),tY sf st l l.length,.sl 1 (E cI (bT fr to l l.length))],.v (.int .i64 0)]):=by
 have DK:=dG l hk.2 hk.1;rw[hd] at DK;have WD:=dO l;have OKS:=aFS fr to sf st (aT l) (aDD l fr to sf st hk hd hf hn) hf hn;have KS:=j6 l fr to hk.2 hk.1;have ho:=dW hd hf;have h40:=iE hd;have hc:bG fr to l=0:=by simp only[bG,hd,hf,ha];rfl
 rw[show gY fr to l=.sl 1 (E cSt (bS fr to l)) by simp[gY,hc],hc] at KS;have hp:∀c,c∈l→okP sf st c:=aDS hd hn;have e1c:∀x:Int,E cI [x]=[[.v (.int .i64 x)]]:=fun _=>rfl;have hok:∀j,(h:j<l.length)→j<l.length→(lU sf st l[j]).2=true:=fun j h _=>List.all_eq_true.1 hN _ (List.getElem_mem h);have GR:=aDd l fr to ho ha (by omega);have hgl:=jX fr to l l.length;refine fn0 CdV.l13Read_k fun X=>?_
 repeat' first|simp -dsimp only[go_sem,cC]|apply Br.mk<;>intro h<;>try simp -dsimp only[h]|refine aA.c (by first|exact DK|exact WD|exact OKS|exact KS) ?_|refine aC ?_|fail
 refine aN.at dM (X:={j:Nat // j≤l.length}) (fun j=>[(9,.v (.int .i64 (j.1:Nat)))]) (fun j=>(.t 15 0,.var [.v (.slice none 0 0),j5 sf st l j.1,.v (.slice none 0 0)] false)::j4 sf st l j.1) (fun j=>l.length-j.1) ⟨0,by omega⟩ ?_ ?_
 ·simp[Vs.LeL,Vs.look,Vs.aB,Vs.aP,Vs.aK,Vs.hset,Vs.aL,j5,j4]
 ·rintro⟨j,hj⟩
  try dsimp only at hj
  by_cases hjm:j<l.length
  ·have hlt:j<l.length:=by omega
   have ht:decide ((j:Int)<(l.length:Int))=true:=decide_eq_true (by omega);have gj:(E cC l).getD j []=[.sl 1 (E cI l[j])]:=aX hlt;have PC:=aIK (hp _ (List.getElem_mem hlt));have NI:=zC (hp _ (List.getElem_mem hlt));have hrow:=aB5 (sf:=sf) (st:=st) hlt;have hrl:(E cRw ((lT sf st l).take j)).length=j:=by rw[aH,List.length_take,kJ];omega
   have hrl2:((lT sf st l).take j).length=j:=by rw[List.length_take,kJ];omega
   have hwj:IntKind.i64.wrap ((j:Int)+1)=((j+1:Nat):Int):=by rw[aR (by omega) (by omega)];omega
   rw[hok j hlt hjm] at NI;by_cases hj0:j=0
   ·have hA:j5 sf st l j=.v (.slice none 0 0):=by simp[j5,hj0]
    have hH:j4 sf st l j=[]:=by simp[j4,hj0]
    have hr0:E cRw ((lT sf st l).take j)=[]:=by rw[hj0];rfl
    have hrow0:[[.sl 1 [[.v (.int .i64 (lU sf st l[j]).1)]]]]=E cRw ((lT sf st l).take (j+1)):=by rw[←hrow,hr0];rfl
    rw[hA,hH]
    repeat' first|simp -dsimp only[go_sem,ht,e1c,cC]|apply Br.mk<;>intro h<;>try simp -dsimp only[h]|refine aC ?_|fail
    refine aN.at dM (X:={zz:Nat×(Unit) // zz.1≤1∧True}) (fun zz=>[(10,.loc (.t 10 0) 0 zz.1.1),(42,.junk),(11,.v (.int .i64 zz.1.1))]) (fun zz=>[(.t 10 0,.arr 1 (E cI ([(lU sf st l[j]).1].take zz.1.1)) false)]) (fun zz=>1-zz.1.1) ⟨(0,()),by omega,trivial⟩ ?_ ?_
    ·simp[Vs.LeL,Vs.look,Vs.aB,Vs.aP,Vs.aK,Vs.hset,Vs.aL,Vs.E,cI]
    ·rintro⟨⟨i,_⟩,hi,hg⟩;dsimp only at hi hg;simp -dsimp only[go_sem,cC];refine Br.mk (fun hc=>?_) fun hc=>?_
     ·have hlt:i<1:=Dq;have hw:=aG hlt (by omega);obtain rfl:i=0:=by omega
      repeat' first|simp -dsimp only[go_sem,gj,e1c,cC,hw]|apply Br.mk<;>intro h<;>try simp -dsimp only[h]|refine aA.c (by first|exact PC|exact NI) ?_|refine aC ?_|fail
      all_goals first|omega|(exact nx (1,()) trivial (h2:=by simp[Vs.LeL,Vs.look,Vs.aB,Vs.aP,Vs.aK,Vs.hset,Vs.aL,Vs.E,cI]))
     ·have hge:i=1:=by
       have:¬i<1:=Dq;omega
      subst hge;simp -dsimp only[go_sem,cC]
      repeat' first|simp -dsimp only[go_sem,hwj,e1c,hrow,hrl,hrl2,ht,hrow0,cC]|apply Br.mk<;>intro h<;>try simp -dsimp only[h]|refine And.intro ?_ (fun h=>absurd rfl h)|refine aC ?_|fail
      first|(exact⟨⟨j+1,by omega⟩,by simp[Vs.LeL,Vs.look,Vs.aB,Vs.aP,Vs.aK,Vs.hset,Vs.aL,j5,j4,hrow,Vs.E,hj0],by simp only;omega⟩)
   ·have hA:j5 sf st l j=.loc (.t 84 0) 0 j:=by simp[j5,hj0]
    have hH:j4 sf st l j=[(.t 84 0,.arr 1 (E cRw ((lT sf st l).take j)) false)]:=by simp[j4,hj0]
    rw[hA,hH]
    repeat' first|simp -dsimp only[go_sem,ht,e1c,cC]|apply Br.mk<;>intro h<;>try simp -dsimp only[h]|refine aC ?_|fail
    refine aN.at dM (X:={zz:Nat×(Unit) // zz.1≤1∧True}) (fun zz=>[(10,.loc (.t 10 0) 0 zz.1.1),(42,.junk),(11,.v (.int .i64 zz.1.1))]) (fun zz=>[(.t 10 0,.arr 1 (E cI ([(lU sf st l[j]).1].take zz.1.1)) false)]) (fun zz=>1-zz.1.1) ⟨(0,()),by omega,trivial⟩ ?_ ?_
    ·simp[Vs.LeL,Vs.look,Vs.aB,Vs.aP,Vs.aK,Vs.hset,Vs.aL,Vs.E,cI]
    ·rintro⟨⟨i,_⟩,hi,hg⟩;dsimp only at hi hg;simp -dsimp only[go_sem,cC];refine Br.mk (fun hc=>?_) fun hc=>?_
     ·have hlt:i<1:=Dq;have hw:=aG hlt (by omega);obtain rfl:i=0:=by omega
      repeat' first|simp -dsimp only[go_sem,gj,e1c,cC,hw]|apply Br.mk<;>intro h<;>try simp -dsimp only[h]|refine aA.c (by first|exact PC|exact NI) ?_|refine aC ?_|fail
      all_goals first|omega|(exact nx (1,()) trivial (h2:=by simp[Vs.LeL,Vs.look,Vs.aB,Vs.aP,Vs.aK,Vs.hset,Vs.aL,Vs.E,cI]))
     ·have hge:i=1:=by
       have:¬i<1:=Dq;omega
      subst hge;simp -dsimp only[go_sem,cC]
      repeat' first|simp -dsimp only[go_sem,hwj,e1c,hrow,hrl,hrl2,ht,cC]|apply Br.mk<;>intro h<;>try simp -dsimp only[h]|refine And.intro ?_ (fun h=>absurd rfl h)|refine aC ?_|fail
      first|(exact⟨⟨j+1,by omega⟩,by simp[Vs.LeL,Vs.look,Vs.aB,Vs.aP,Vs.aK,Vs.hset,Vs.aL,j5,j4,hrow,Vs.E],by simp only;omega⟩)
  ·obtain rfl:j=l.length:=by omega
   have ht:decide ((l.length:Int)<(l.length:Int))=false:=by simp
   by_cases hj0:l.length=0
   ·have hA:j5 sf st l l.length=.v (.slice none 0 0):=by simp[j5,hj0]
    have hH:j4 sf st l l.length=[]:=by simp[j4,hj0]
    rw[hA,hH,show tY sf st l l.length=.v (.slice none 0 0) by simp[tY,hj0]]
    repeat' first|simp -dsimp only[go_sem,ht,cC]|apply Br.mk<;>intro h<;>try simp -dsimp only[h]|refine aA.c (by first|exact GR) ?_|refine And.intro ?_ (fun h=>absurd rfl h)|refine aC ?_|fail
    all_goals first|exact⟨⟨_,_,rfl,rfl⟩,fun h=>h rfl⟩|exact⟨_,_,rfl,rfl⟩
   ·have hA:j5 sf st l l.length=.loc (.t 84 0) 0 l.length:=by simp[j5,hj0]
    have hH:j4 sf st l l.length=[(.t 84 0,.arr 1 (E cRw ((lT sf st l).take l.length)) false)]:=by simp[j4,hj0]
    rw[hA,hH,show tY sf st l l.length=.sl 1 (E cRw ((lT sf st l).take l.length)) by simp[tY,hj0]];have htk:(E cRw ((lT sf st l).take l.length)).take l.length=E cRw ((lT sf st l).take l.length):=List.take_of_length_le (by rw[aH,List.length_take,kJ];omega);simp -dsimp only[go_sem,ht,cC]
    repeat' first|simp -dsimp only[go_sem,ht,htk,cC]|apply Br.mk<;>intro h<;>try simp -dsimp only[h]|refine aA.c (by first|exact GR) ?_|refine And.intro ?_ (fun h=>absurd rfl h)|refine aC ?_|fail
    all_goals first|exact⟨⟨_,_,rfl,rfl⟩,fun h=>h rfl⟩|exact⟨_,_,rfl,rfl⟩
end
end
end Go.Proofs.YthbnjmgjhonfbaaGreat
