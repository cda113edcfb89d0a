/- Cards of a text are selected: the reference's way. -/
import Derived.Test.YtonkjfiffcfaoaaGreatUwVf
import Derived.Test.YtonkjfiffcfaoaaGreatUwSm
import Derived.Test.YtonkjfiffcfaoaaGreatUwSh
import Derived.Test.YtonkjfiffcfaoaaGreatUwQd
set_option linter.all false
set_option maxHeartbeats 8000000
namespace Go.Proofs.YtonkjfiffcfaoaaGreat
open Go.Vs
section
variable [Vs.Envs]
attribute [local irreducible] Vs.Fn bR cZ aW dA dB l03 chB rk cd3 chI stp aY
attribute [local go_sem] aG List.replicate_succ List.replicate_zero List.flatten_cons List.flatten_nil List.cons_append List.nil_append List.set_cons_zero List.set_cons_succ List.length_cons List.length_nil List.length_set in
theorem aDb (l:List (List Int)) (fr to:Int) (ho:∀c,c∈l→okF fr to c) (hall:bT fr to l=true) (hl:l.length≤1048576):Fz F.l6 [.sl 1 (E cSt (bQ fr to l))] (.sl 1 (E cI (bR fr to l l.length))):=by
 have hkl:(E cSt (bQ fr to l)).length=l.length:=by rw[aG];simp[bQ]
 have hke:∀i:Nat,i<l.length→(E cSt (bQ fr to l)).getD i []=[.v (.string (txt (fH fr to (l.getD i []))))]:=fun i hi=>by
  have h:=aI3 (fr:=fr) (to:=to) (l:=l) (x:=(i:Int)) ⟨by omega,by omega⟩;rw[Int.toNat_natCast] at h;exact h
 have hin:∀i:Nat,i<l.length→l.getD i []∈l:=fun i hi=>by rw[show l.getD i []=l[i] by simp[List.getD,hi]];exact List.getElem_mem hi
 have hne:∀i j:Nat,i<l.length→j<l.length→(!((txt (fH fr to (l.getD i []))).toList==(txt (fH fr to (l.getD j []))).toList))=(cmF fr to (l.getD j []) (l.getD i []) != 0):=fun i j hi hj=>by
  have hli:=kZ (ho _ (hin i hi));have hlj:=kZ (ho _ (hin j hj));have hci:=List.all_eq_true.1 hall _ (hin i hi);have hcj:=List.all_eq_true.1 hall _ (hin j hj);rw[aDw (by rw[hli,hlj]) hci hcj];unfold cmF;rw[aA6 (fH fr to (l.getD i [])) (fH fr to (l.getD j [])) (by rw[hli,hlj])];generalize jA (fH fr to (l.getD i [])) (fH fr to (l.getD j []))=c;by_cases h0:c=0
  ·subst h0;rfl
  ·have h1:(c==0)=false:=by simp[h0]
   have h2:(-c != 0)=true:=by simp;omega
   rw[h1,h2];rfl
 generalize E cSt (bQ fr to l)=K at *
 refine fn0 Cd.s_l09Groups_k fun X=>?_
 repeat' first|simp -dsimp only[go_sem,hkl]|apply Br.mk<;>intro h<;>try simp -dsimp only[h]|refine aC ?_|fail
 refine aN.at dM (X:={zz:Nat×(Unit) // zz.1≤l.length∧True}) (fun zz=>[(3,.loc (.t 3 0) 0 (bR fr to l zz.1.1).length),(4,.v (.int .i64 zz.1.1))]) (fun zz=>[(.t 3 0,.arr 1 (E cI (bR fr to l zz.1.1)) false)]) (fun zz=>l.length-zz.1.1) ⟨(0,()),by omega,trivial⟩ ?_ ?_
 ·simp[Vs.LeL,Vs.look,Vs.aB,Vs.aP,Vs.aK,Vs.hset,Vs.aL,Vs.E,vI]
 ·rintro⟨⟨i,_⟩,hi,hg⟩;dsimp only at hi hg;simp -dsimp only[go_sem,hkl];refine Br.mk (fun hc=>?_) fun hc=>?_
  ·have hlt:i<l.length:=Dq;have hw:=aH hlt (by omega);have hgl:=jT fr to l i;have gi:=hke i hlt;have hap:E cI (bR fr to l i)++[[.v (.int .i64 (i:Int))]]=E cI (bR fr to l i++[(i:Int)]):=by rw[aR];rfl
   have hal:(E cI (bR fr to l i)).length=(bR fr to l i).length:=aG ..
   have hgs:=rU fr to l i;by_cases h0:i=0
   ·subst h0;rw[if_pos (.inl rfl)] at hgs;have e0:(((0:Nat):Int)==0)=true:=rfl
    repeat' first|simp -dsimp only[go_sem,e0,hw,hap,hal,gi]|apply Br.mk<;>intro h<;>try simp -dsimp only[h]|refine aC ?_|fail
    all_goals first|omega|(exact nx (0+1,()) trivial (h2:=by simp[Vs.LeL,Vs.look,Vs.aB,Vs.aP,Vs.aK,Vs.hset,Vs.aL,hgs]))
   ·have e0:((i:Int)==0)=false:=by simp[h0]
    have w0:IntKind.i64.wrap ((i:Int)-1)=((i-1:Nat):Int):=by rw[aO (by omega) (by omega)];omega
    have hl1:i-1<l.length:=by omega
    have gj:=hke (i-1) hl1;have hn:=hne i (i-1) hlt hl1;by_cases hc0:cmF fr to (l.getD (i-1) []) (l.getD i [])=0
    ·have e1:(cmF fr to (l.getD (i-1) []) (l.getD i []) != 0)=false:=by rw[hc0];rfl
     rw[e1] at hn;rw[if_neg (by rintro(h|h)<;>contradiction),List.append_nil] at hgs
     repeat' first|simp -dsimp only[go_sem,e0,hn,hkl,w0,hw,hap,hal,gi,gj]|apply Br.mk<;>intro h<;>try simp -dsimp only[h]|refine aC ?_|fail
     all_goals first|omega|(exact nx (i+1,()) trivial (h2:=by simp[Vs.LeL,Vs.look,Vs.aB,Vs.aP,Vs.aK,Vs.hset,Vs.aL,hgs]))
    ·have e1:(cmF fr to (l.getD (i-1) []) (l.getD i []) != 0)=true:=bne_iff_ne.2 hc0;rw[e1] at hn;rw[if_pos (.inr hc0)] at hgs
     repeat' first|simp -dsimp only[go_sem,e0,hn,hkl,w0,hw,hap,hal,gi,gj]|apply Br.mk<;>intro h<;>try simp -dsimp only[h]|refine aC ?_|fail
     all_goals first|omega|(exact nx (i+1,()) trivial (h2:=by simp[Vs.LeL,Vs.look,Vs.aB,Vs.aP,Vs.aK,Vs.hset,Vs.aL,hgs]))
  ·have hge:i=l.length:=by
    have:¬i<l.length:=Dq;omega
   subst hge;simp -dsimp only[go_sem,hkl];have htk:(E cI (bR fr to l l.length)).take (bR fr to l l.length).length=E cI (bR fr to l l.length):=List.take_of_length_le (by rw[aG];exact Nat.le_refl _)
   first|exact⟨⟨_,_,rfl,rfl⟩,fun h=>h rfl⟩|(rw[htk];exact⟨⟨_,_,rfl,rfl⟩,fun h=>h rfl⟩)|(simp[htk];done)
end
section
variable [Vs.Envs]
attribute [local irreducible] Vs.Fn bR bH kG cZ aW dA dB l03 chB rk cd3 chI stp aY
def sP (fr to:Int) (l:List (List Int)):List (List Int):=(bR fr to l l.length).map fun i=>l.getD i.toNat []
def pQ (fr to:Int) (l:List (List Int)):AV:=if bH fr to l=0 then .sl 1 (E cC (sP fr to l)) else .v (.slice none 0 0)
theorem aJv (fr to:Int) (l:List (List Int)):kG fr to [l]=bH fr to l:=by
 unfold kG bH;simp only[List.all_cons,List.all_nil,Bool.and_true]
theorem aAZ {fr to:Int}{l:List (List Int)}:∀x,x∈bR fr to l l.length→inO l.length x:=fun x hx=>uH l.length x hx
attribute [local go_sem] cD aG List.replicate_succ List.replicate_zero List.flatten_cons List.flatten_nil List.cons_append List.nil_append List.set_cons_zero List.set_cons_succ List.length_cons List.length_nil List.length_set in
theorem zF (l:List (List Int)) (fr to:Int) (hk:bE l):Fz F.jI [.sl 1 (E cC l),.agg (cFd fr to)] (.tup [pQ fr to l,.v (.int .i64 (bH fr to l))]):=by
 have CC:=uL fr to [l] ⟨by simp,fun d hd=>by simp at hd;subst hd;exact hk⟩;rw[aJv] at CC;by_cases h0:bH fr to l=0
 ·obtain⟨hd,hf,ha⟩:=aBI h0;have ho:=fA hd hf;have h40:=kX hd;rw[show pQ fr to l=.sl 1 (E cC (sP fr to l)) by simp[pQ,h0],h0];have hol:=jT fr to l l.length;have hoi:=aAZ (fr:=fr) (to:=to) (l:=l);rw[show sP fr to l=(bR fr to l l.length).map (fun i=>l.getD i.toNat []) from rfl];have GO:=aE1 l fr to ho (by omega);rw[h0] at CC;generalize bR fr to l l.length=o at *
  refine fn0 Cd.i_FirstOfGroups_k fun X=>?_
  repeat' first|simp -dsimp only[go_sem,cC,cFd]|apply Br.mk<;>intro h<;>try simp -dsimp only[h]|refine aA.c (by first|exact CC|exact GO) ?_|refine aC ?_|fail
  refine aN.at dM (X:={zz:Nat×(Unit) // zz.1≤o.length∧True}) (fun zz=>[(7,.loc (.t 7 0) 0 zz.1.1),(22,.v (.int .i64 zz.1.1))]) (fun zz=>[(.t 7 0,.arr 1 (E cC ((o.take zz.1.1).map fun i=>l.getD i.toNat [])) false)]) (fun zz=>o.length-zz.1.1) ⟨(0,()),by omega,trivial⟩ ?_ ?_
  ·simp[Vs.LeL,Vs.look,Vs.aB,Vs.aP,Vs.aK,Vs.hset,Vs.aL,Vs.E]
  ·rintro⟨⟨i,_⟩,hi,hg⟩;dsimp only at hi hg;simp -dsimp only[go_sem,cC,cFd];refine Br.mk (fun hc=>?_) fun hc=>?_
   ·have hlt:i<o.length:=Dq;have hw:=aH hlt (by omega);have hx:=hoi _ (List.getElem_mem hlt);have gx:=aA7 hx;have hm:=mU hx;have hc20:(l.getD o[i].toNat []).length≤20:=(ho _ hm).2.2.2;have NC:=aAk (l.getD o[i].toNat []) (by omega);have x0:=hx.1;have x1:=hx.2
    have hap:E cC ((o.take i).map fun i=>l.getD i.toNat [])++[[.sl 1 (E cI (l.getD o[i].toNat []))]]=E cC ((o.take (i+1)).map fun i=>l.getD i.toNat []):=by
     rw[bK hlt,List.map_append,aR];rfl
    have hal:(E cC ((o.take i).map fun i=>l.getD i.toNat [])).length=i:=by rw[aG];simp;omega
    repeat' first|simp -dsimp only[go_sem,dI hlt,hw,hap,hal,gx,cC,cFd]|apply Br.mk<;>intro h<;>try simp -dsimp only[h]|refine aA.c (by first|exact NC) ?_|refine aC ?_|fail
    all_goals first|omega|(exact nx (i+1,()) trivial (h2:=by simp[Vs.LeL,Vs.look,Vs.aB,Vs.aP,Vs.aK,Vs.hset,Vs.aL,hap]))
   ·have hge:i=o.length:=by
     have:¬i<o.length:=Dq;omega
    subst hge;simp -dsimp only[go_sem,cC,cFd]
    have htk:(E cC ((o.take o.length).map fun i=>l.getD i.toNat [])).take o.length=E cC (o.map fun i=>l.getD i.toNat []):=by
     rw[List.take_of_length_le (Nat.le_refl o.length)];exact List.take_of_length_le (by rw[aG];simp)
    first|exact⟨⟨_,_,rfl,rfl⟩,fun h=>h rfl⟩|(rw[htk];exact⟨⟨_,_,rfl,rfl⟩,fun h=>h rfl⟩)|(simp[htk];done)
 ·have e0:(bH fr to l != 0)=true:=by simp[h0]
  rw[show pQ fr to l=.v (.slice none 0 0) by simp[pQ,h0]];generalize bH fr to l=c at *
  refine fn0 Cd.i_FirstOfGroups_k fun X=>?_
  repeat' first|simp -dsimp only[go_sem,cC,cFd,e0]|apply Br.mk<;>intro h<;>try simp -dsimp only[h]|refine aA.c (by first|exact CC) ?_|refine aC ?_|fail
  all_goals first|exact⟨_,_,rfl,rfl⟩
attribute [local go_sem] cD aG List.replicate_succ List.replicate_zero List.flatten_cons List.flatten_nil List.cons_append List.nil_append List.set_cons_zero List.set_cons_succ List.length_cons List.length_nil List.length_set in
theorem qN (l:List (List Int)) (fr to:Int) (hk:bE l):Fz F.jD [.sl 1 (E cC l),.agg (cFd fr to)] (.tup [pQ fr to l,.v (.int .i64 (bH fr to l))]):=by
 have KS:=j4 l fr to hk.2 hk.1;by_cases h0:bH fr to l=0
 ·obtain⟨hd,hf,ha⟩:=aBI h0;have ho:=fA hd hf;have h40:=kX hd;rw[show pQ fr to l=.sl 1 (E cC (sP fr to l)) by simp[pQ,h0],h0];have hol:=jT fr to l l.length;have hoi:=aAZ (fr:=fr) (to:=to) (l:=l);rw[show sP fr to l=(bR fr to l l.length).map (fun i=>l.getD i.toNat []) from rfl];have GO:=aDb l fr to ho ha (by omega);rw[show gV fr to l=.sl 1 (E cSt (bQ fr to l)) by simp[gV,h0],h0] at KS;generalize bR fr to l l.length=o at *
  refine fn0 Cd.s_FirstOfGroups_k fun X=>?_
  repeat' first|simp -dsimp only[go_sem,cC,cFd]|apply Br.mk<;>intro h<;>try simp -dsimp only[h]|refine aA.c (by first|exact KS|exact GO) ?_|refine aC ?_|fail
  refine aN.at dM (X:={zz:Nat×(Unit) // zz.1≤o.length∧True}) (fun zz=>[(9,.loc (.t 9 0) 0 zz.1.1),(10,.v (.int .i64 zz.1.1))]) (fun zz=>[(.t 9 0,.arr 1 (E cC ((o.take zz.1.1).map fun i=>l.getD i.toNat [])) false)]) (fun zz=>o.length-zz.1.1) ⟨(0,()),by omega,trivial⟩ ?_ ?_
  ·simp[Vs.LeL,Vs.look,Vs.aB,Vs.aP,Vs.aK,Vs.hset,Vs.aL,Vs.E]
  ·rintro⟨⟨i,_⟩,hi,hg⟩;dsimp only at hi hg;simp -dsimp only[go_sem,cC,cFd];refine Br.mk (fun hc=>?_) fun hc=>?_
   ·have hlt:i<o.length:=Dq;have hw:=aH hlt (by omega);have hx:=hoi _ (List.getElem_mem hlt);have gx:=aA7 hx;have hm:=mU hx;have hc20:(l.getD o[i].toNat []).length≤20:=(ho _ hm).2.2.2;have NC:=vD (l.getD o[i].toNat []) (by omega);have x0:=hx.1;have x1:=hx.2
    have hap:E cC ((o.take i).map fun i=>l.getD i.toNat [])++[[.sl 1 (E cI (l.getD o[i].toNat []))]]=E cC ((o.take (i+1)).map fun i=>l.getD i.toNat []):=by
     rw[bK hlt,List.map_append,aR];rfl
    have hal:(E cC ((o.take i).map fun i=>l.getD i.toNat [])).length=i:=by rw[aG];simp;omega
    repeat' first|simp -dsimp only[go_sem,dI hlt,hw,hap,hal,gx,cC,cFd]|apply Br.mk<;>intro h<;>try simp -dsimp only[h]|refine aA.c (by first|exact NC) ?_|refine aC ?_|fail
    all_goals first|omega|(exact nx (i+1,()) trivial (h2:=by simp[Vs.LeL,Vs.look,Vs.aB,Vs.aP,Vs.aK,Vs.hset,Vs.aL,hap]))
   ·have hge:i=o.length:=by
     have:¬i<o.length:=Dq;omega
    subst hge;simp -dsimp only[go_sem,cC,cFd]
    have htk:(E cC ((o.take o.length).map fun i=>l.getD i.toNat [])).take o.length=E cC (o.map fun i=>l.getD i.toNat []):=by
     rw[List.take_of_length_le (Nat.le_refl o.length)];exact List.take_of_length_le (by rw[aG];simp)
    first|exact⟨⟨_,_,rfl,rfl⟩,fun h=>h rfl⟩|(rw[htk];exact⟨⟨_,_,rfl,rfl⟩,fun h=>h rfl⟩)|(simp[htk];done)
 ·have e0:(bH fr to l != 0)=true:=by simp[h0]
  rw[show pQ fr to l=.v (.slice none 0 0) by simp[pQ,h0]];rw[show gV fr to l=.v (.slice none 0 0) by simp[gV,h0]] at KS;generalize bH fr to l=c at *
  refine fn0 Cd.s_FirstOfGroups_k fun X=>?_
  repeat' first|simp -dsimp only[go_sem,cC,cFd,e0]|apply Br.mk<;>intro h<;>try simp -dsimp only[h]|refine aA.c (by first|exact KS) ?_|refine aC ?_|fail
  all_goals first|exact⟨_,_,rfl,rfl⟩
end
section
variable [Vs.Envs]
attribute [local irreducible] Vs.Fn flt zR aW dA dB stp aY
set_option maxRecDepth 100000 in
theorem aG1:∀n:Nat,n<256→cZ (n:Int)=true→0≤rk (cd3 (n:Int))∧chI (cd3 (n:Int))=(n:Int):=by decide +kernel
attribute [local irreducible] cZ rk cd3 chI
theorem aDr {s:ByteArray} (h:aW s=true):∀b,b∈s.data.toList→cZ (b.toNat:Int)=true:=by
 unfold aW at h;exact List.all_eq_true.1 h
theorem aHK {s:ByteArray} (h:aW s=true):cB (bcd s)=true:=by
 unfold cB bcd;rw[List.all_eq_true];intro x hx;obtain⟨b,hb,rfl⟩:=List.mem_map.1 hx;exact decide_eq_true (aG1 b.toNat (UInt8.toNat_lt _) (aDr h b hb)).1
theorem aJU {s:ByteArray} (h:aW s=true):txt (bcd s)=s:=by
 have e:(bcd s).map chI=s.data.toList.map fun b=>(b.toNat:Int):=by
  unfold bcd;rw[List.map_map];refine List.map_congr_left fun b hb=>?_;exact(aG1 b.toNat (UInt8.toNat_lt _) (aDr h b hb)).2
 unfold txt uT;rw[e,List.map_map]
 have e2:(s.data.toList.map ((fun n:Int=>UInt8.ofNat n.toNat)∘fun b:UInt8=>(b.toNat:Int)))=s.data.toList:=by
  rw[show((fun n:Int=>UInt8.ofNat n.toNat)∘fun b:UInt8=>(b.toNat:Int))=id from funext fun b=>by simp];simp
 rw[e2]
theorem aKj {s:ByteArray}{w:Nat} (h:s.size=w):pun s w=bcd s:=by
 unfold pun;rw[h,Nat.sub_self];simp
theorem aKB {fr to:Int}{c:List Int}{s:ByteArray} (hc:okF fr to c) (hh:cB (fH fr to c)=true) (hs:s.size=to.toNat-fr.toNat) (ha:aW s=true) :
  ((txt (fH fr to c)).toList==s.toList) = !iY fr to s c:=by
 have h1:=aDw (a:=fH fr to c) (b:=bcd s) (by rw[kZ hc,aBP,hs]) hh (aHK ha);rw[aJU ha] at h1;rw[h1];unfold iY cmT;rw[aKj hs];generalize jA (fH fr to c) (bcd s)=v;by_cases h0:v=0
 ·subst h0;rfl
 ·have e:(v==0)=false:=beq_eq_false_iff_ne.2 h0;rw[e];rcases Int.lt_or_gt_of_ne h0 with h|h<;>simp[h]
theorem aJ4 {fr to:Int}{s:ByteArray}{l:List (List Int)}:iU fr to s l=if bH fr to l=0∨bH fr to l=8 then(if l09 s fr to=0 then bH fr to l else l09 s fr to) else bH fr to l:=by
 unfold iU yO bH l09;cases h1:aX l<;>cases h2:dU fr to (bD l)<;>cases h5:bT fr to l<;>by_cases h3:(s.size:Int)=W (to-fr)<;>cases h4:aW s<;>simp[h1,h2,h3,h4,h5]
end
section
variable [Vs.Envs]
attribute [local irreducible] Vs.Fn pun cmT flt zR iY cZ aW dA dB l03 chB rk cd3 chI stp aY
def aHV (fr to:Int) (s:ByteArray) (l:List (List Int)):AV:=if iU fr to s l=0 then .sl 1 (E cSt (bQ fr to l)) else .v (.slice none 0 0)
theorem aIV (s:ByteArray) (a b:Int):l09 s a b=2∨l09 s a b=0∨l09 s a b=7:=by
 unfold l09;split
 ·exact .inl rfl
 ·split
  ·exact .inr (.inl rfl)
  ·exact .inr (.inr rfl)
theorem aKD (fr to:Int) (l:List (List Int)):bH fr to l=0∨bH fr to l=8∨bH fr to l=1∨bH fr to l=2:=by
 unfold bH;split
 ·split
  ·split<;>simp
  ·simp
 ·simp
attribute [local go_sem] Int.reduceBEq Int.reduceBNe List.replicate_succ List.replicate_zero List.flatten_cons List.flatten_nil List.cons_append List.nil_append List.set_cons_zero List.set_cons_succ List.length_cons List.length_nil List.length_set in
theorem aLR (l:List (List Int)) (fr to:Int) (s:ByteArray) (hk:bE l) (hz:s.size≤1048576):Fz F.wH [.sl 1 (E cC l),.agg (cFd fr to),.sl 1 [[.v (.string s)]]] (.tup [aHV fr to s l,.v (.int .i64 (iU fr to s l))]):=by
 have KS:=j4 l fr to hk.2 hk.1;have TX:=aDU s fr to hz;have hsc:=aJ4 (fr:=fr) (to:=to) (s:=s) (l:=l);unfold aHV;rcases aKD fr to l with hc|hc|hc|hc
 ·rcases aIV s fr to with hb|hb|hb
  ·rw[show gV fr to l=.sl 1 (E cSt (bQ fr to l)) by simp[gV,hc],hc] at KS;have hs0:iU fr to s l=2:=by rw[hsc];simp[hc,hb]
   rw[hb] at TX;rw[hs0];simp only[if_true,if_false,Int.reduceEq];refine fn0 Cd.s_l09Ask_k fun X=>?_
   repeat' first|simp -dsimp only[go_sem,cC,cFd]|apply Br.mk<;>intro h<;>try simp -dsimp only[h]|refine aA.c (by first|exact KS|exact TX) ?_|refine aC ?_|fail
   refine aN.at dM (X:={zz:Nat×(Unit) // zz.1≤1∧True}) (fun zz=>[(10,.v (.int .i64 (if zz.1.1=0 then 0 else 2))),(11,.v (.int .i64 zz.1.1))]) (fun zz=>[]) (fun zz=>1-zz.1.1) ⟨(0,()),by omega,trivial⟩ ?_ ?_
   ·exact le0
   ·rintro⟨⟨i,_⟩,hi,hg⟩;dsimp only at hi hg;simp -dsimp only[go_sem,cC,cFd];refine Br.mk (fun hc=>?_) fun hc=>?_
    ·have hlt:i<1:=Dq;have hw:=aH hlt (by omega);obtain rfl:i=0:=by omega
     repeat' first|simp -dsimp only[go_sem,cC,cFd,hw]|apply Br.mk<;>intro h<;>try simp -dsimp only[h]|refine aA.c (by first|exact TX) ?_|refine aC ?_|fail
     all_goals first|exact fun _=>⟨⟨_,_,rfl,rfl⟩,fun h=>h rfl⟩|omega|exact⟨_,_,rfl,rfl⟩|exact⟨⟨_,_,rfl,rfl⟩,fun h=>h rfl⟩|exact⟨fun _=>⟨_,_,rfl,rfl⟩,fun h=>absurd rfl h⟩|(exact nx (1,()) trivial)
    ·have hge:i=1:=by
      have:¬i<1:=Dq;omega
     subst hge;simp -dsimp only[go_sem,cC,cFd]
     first|exact⟨⟨_,_,rfl,rfl⟩,fun h=>h rfl⟩|omega|exact⟨_,_,rfl,rfl⟩|exact⟨⟨_,_,rfl,rfl⟩,fun h=>h rfl⟩|exact⟨fun _=>⟨_,_,rfl,rfl⟩,fun h=>absurd rfl h⟩
  ·rw[show gV fr to l=.sl 1 (E cSt (bQ fr to l)) by simp[gV,hc],hc] at KS;have hs0:iU fr to s l=0:=by rw[hsc];simp[hc,hb]
   rw[hb] at TX;rw[hs0];simp only[if_true,if_false,Int.reduceEq];refine fn0 Cd.s_l09Ask_k fun X=>?_
   repeat' first|simp -dsimp only[go_sem,cC,cFd]|apply Br.mk<;>intro h<;>try simp -dsimp only[h]|refine aA.c (by first|exact KS|exact TX) ?_|refine aC ?_|fail
   refine aN.at dM (X:={zz:Nat×(Unit) // zz.1≤1∧True}) (fun zz=>[(10,.v (.int .i64 (if zz.1.1=0 then 0 else 0))),(11,.v (.int .i64 zz.1.1))]) (fun zz=>[]) (fun zz=>1-zz.1.1) ⟨(0,()),by omega,trivial⟩ ?_ ?_
   ·exact le0
   ·rintro⟨⟨i,_⟩,hi,hg⟩;dsimp only at hi hg;simp -dsimp only[go_sem,cC,cFd];refine Br.mk (fun hc=>?_) fun hc=>?_
    ·have hlt:i<1:=Dq;have hw:=aH hlt (by omega);obtain rfl:i=0:=by omega
     repeat' first|simp -dsimp only[go_sem,cC,cFd,hw]|apply Br.mk<;>intro h<;>try simp -dsimp only[h]|refine aA.c (by first|exact TX) ?_|refine aC ?_|fail
     all_goals first|exact fun _=>⟨⟨_,_,rfl,rfl⟩,fun h=>h rfl⟩|omega|exact⟨_,_,rfl,rfl⟩|exact⟨⟨_,_,rfl,rfl⟩,fun h=>h rfl⟩|exact⟨fun _=>⟨_,_,rfl,rfl⟩,fun h=>absurd rfl h⟩|(exact nx (1,()) trivial)
    ·have hge:i=1:=by
      have:¬i<1:=Dq;omega
     subst hge;simp -dsimp only[go_sem,cC,cFd]
     first|exact⟨⟨_,_,rfl,rfl⟩,fun h=>h rfl⟩|omega|exact⟨_,_,rfl,rfl⟩|exact⟨⟨_,_,rfl,rfl⟩,fun h=>h rfl⟩|exact⟨fun _=>⟨_,_,rfl,rfl⟩,fun h=>absurd rfl h⟩
  ·rw[show gV fr to l=.sl 1 (E cSt (bQ fr to l)) by simp[gV,hc],hc] at KS;have hs0:iU fr to s l=7:=by rw[hsc];simp[hc,hb]
   rw[hb] at TX;rw[hs0];simp only[if_true,if_false,Int.reduceEq];refine fn0 Cd.s_l09Ask_k fun X=>?_
   repeat' first|simp -dsimp only[go_sem,cC,cFd]|apply Br.mk<;>intro h<;>try simp -dsimp only[h]|refine aA.c (by first|exact KS|exact TX) ?_|refine aC ?_|fail
   refine aN.at dM (X:={zz:Nat×(Unit) // zz.1≤1∧True}) (fun zz=>[(10,.v (.int .i64 (if zz.1.1=0 then 0 else 7))),(11,.v (.int .i64 zz.1.1))]) (fun zz=>[]) (fun zz=>1-zz.1.1) ⟨(0,()),by omega,trivial⟩ ?_ ?_
   ·exact le0
   ·rintro⟨⟨i,_⟩,hi,hg⟩;dsimp only at hi hg;simp -dsimp only[go_sem,cC,cFd];refine Br.mk (fun hc=>?_) fun hc=>?_
    ·have hlt:i<1:=Dq;have hw:=aH hlt (by omega);obtain rfl:i=0:=by omega
     repeat' first|simp -dsimp only[go_sem,cC,cFd,hw]|apply Br.mk<;>intro h<;>try simp -dsimp only[h]|refine aA.c (by first|exact TX) ?_|refine aC ?_|fail
     all_goals first|exact fun _=>⟨⟨_,_,rfl,rfl⟩,fun h=>h rfl⟩|omega|exact⟨_,_,rfl,rfl⟩|exact⟨⟨_,_,rfl,rfl⟩,fun h=>h rfl⟩|exact⟨fun _=>⟨_,_,rfl,rfl⟩,fun h=>absurd rfl h⟩|(exact nx (1,()) trivial)
    ·have hge:i=1:=by
      have:¬i<1:=Dq;omega
     subst hge;simp -dsimp only[go_sem,cC,cFd]
     first|exact⟨⟨_,_,rfl,rfl⟩,fun h=>h rfl⟩|omega|exact⟨_,_,rfl,rfl⟩|exact⟨⟨_,_,rfl,rfl⟩,fun h=>h rfl⟩|exact⟨fun _=>⟨_,_,rfl,rfl⟩,fun h=>absurd rfl h⟩
 ·rcases aIV s fr to with hb|hb|hb
  ·rw[show gV fr to l=.v (.slice none 0 0) by simp[gV,hc],hc] at KS;have hs0:iU fr to s l=2:=by rw[hsc];simp[hc,hb]
   rw[hb] at TX;rw[hs0];simp only[if_true,if_false,Int.reduceEq];refine fn0 Cd.s_l09Ask_k fun X=>?_
   repeat' first|simp -dsimp only[go_sem,cC,cFd]|apply Br.mk<;>intro h<;>try simp -dsimp only[h]|refine aA.c (by first|exact KS|exact TX) ?_|refine aC ?_|fail
   refine aN.at dM (X:={zz:Nat×(Unit) // zz.1≤1∧True}) (fun zz=>[(10,.v (.int .i64 (if zz.1.1=0 then 0 else 2))),(11,.v (.int .i64 zz.1.1))]) (fun zz=>[]) (fun zz=>1-zz.1.1) ⟨(0,()),by omega,trivial⟩ ?_ ?_
   ·exact le0
   ·rintro⟨⟨i,_⟩,hi,hg⟩;dsimp only at hi hg;simp -dsimp only[go_sem,cC,cFd];refine Br.mk (fun hc=>?_) fun hc=>?_
    ·have hlt:i<1:=Dq;have hw:=aH hlt (by omega);obtain rfl:i=0:=by omega
     repeat' first|simp -dsimp only[go_sem,cC,cFd,hw]|apply Br.mk<;>intro h<;>try simp -dsimp only[h]|refine aA.c (by first|exact TX) ?_|refine aC ?_|fail
     all_goals first|exact fun _=>⟨⟨_,_,rfl,rfl⟩,fun h=>h rfl⟩|omega|exact⟨_,_,rfl,rfl⟩|exact⟨⟨_,_,rfl,rfl⟩,fun h=>h rfl⟩|exact⟨fun _=>⟨_,_,rfl,rfl⟩,fun h=>absurd rfl h⟩|(exact nx (1,()) trivial)
    ·have hge:i=1:=by
      have:¬i<1:=Dq;omega
     subst hge;simp -dsimp only[go_sem,cC,cFd]
     first|exact⟨⟨_,_,rfl,rfl⟩,fun h=>h rfl⟩|omega|exact⟨_,_,rfl,rfl⟩|exact⟨⟨_,_,rfl,rfl⟩,fun h=>h rfl⟩|exact⟨fun _=>⟨_,_,rfl,rfl⟩,fun h=>absurd rfl h⟩
  ·rw[show gV fr to l=.v (.slice none 0 0) by simp[gV,hc],hc] at KS;have hs0:iU fr to s l=8:=by rw[hsc];simp[hc,hb]
   rw[hb] at TX;rw[hs0];simp only[if_true,if_false,Int.reduceEq];refine fn0 Cd.s_l09Ask_k fun X=>?_
   repeat' first|simp -dsimp only[go_sem,cC,cFd]|apply Br.mk<;>intro h<;>try simp -dsimp only[h]|refine aA.c (by first|exact KS|exact TX) ?_|refine aC ?_|fail
   refine aN.at dM (X:={zz:Nat×(Unit) // zz.1≤1∧True}) (fun zz=>[(10,.v (.int .i64 (if zz.1.1=0 then 0 else 0))),(11,.v (.int .i64 zz.1.1))]) (fun zz=>[]) (fun zz=>1-zz.1.1) ⟨(0,()),by omega,trivial⟩ ?_ ?_
   ·exact le0
   ·rintro⟨⟨i,_⟩,hi,hg⟩;dsimp only at hi hg;simp -dsimp only[go_sem,cC,cFd];refine Br.mk (fun hc=>?_) fun hc=>?_
    ·have hlt:i<1:=Dq;have hw:=aH hlt (by omega);obtain rfl:i=0:=by omega
     repeat' first|simp -dsimp only[go_sem,cC,cFd,hw]|apply Br.mk<;>intro h<;>try simp -dsimp only[h]|refine aA.c (by first|exact TX) ?_|refine aC ?_|fail
     all_goals first|exact fun _=>⟨⟨_,_,rfl,rfl⟩,fun h=>h rfl⟩|omega|exact⟨_,_,rfl,rfl⟩|exact⟨⟨_,_,rfl,rfl⟩,fun h=>h rfl⟩|exact⟨fun _=>⟨_,_,rfl,rfl⟩,fun h=>absurd rfl h⟩|(exact nx (1,()) trivial)
    ·have hge:i=1:=by
      have:¬i<1:=Dq;omega
     subst hge;simp -dsimp only[go_sem,cC,cFd]
     first|exact⟨⟨_,_,rfl,rfl⟩,fun h=>h rfl⟩|omega|exact⟨_,_,rfl,rfl⟩|exact⟨⟨_,_,rfl,rfl⟩,fun h=>h rfl⟩|exact⟨fun _=>⟨_,_,rfl,rfl⟩,fun h=>absurd rfl h⟩
  ·rw[show gV fr to l=.v (.slice none 0 0) by simp[gV,hc],hc] at KS;have hs0:iU fr to s l=7:=by rw[hsc];simp[hc,hb]
   rw[hb] at TX;rw[hs0];simp only[if_true,if_false,Int.reduceEq];refine fn0 Cd.s_l09Ask_k fun X=>?_
   repeat' first|simp -dsimp only[go_sem,cC,cFd]|apply Br.mk<;>intro h<;>try simp -dsimp only[h]|refine aA.c (by first|exact KS|exact TX) ?_|refine aC ?_|fail
   refine aN.at dM (X:={zz:Nat×(Unit) // zz.1≤1∧True}) (fun zz=>[(10,.v (.int .i64 (if zz.1.1=0 then 0 else 7))),(11,.v (.int .i64 zz.1.1))]) (fun zz=>[]) (fun zz=>1-zz.1.1) ⟨(0,()),by omega,trivial⟩ ?_ ?_
   ·exact le0
   ·rintro⟨⟨i,_⟩,hi,hg⟩;dsimp only at hi hg;simp -dsimp only[go_sem,cC,cFd];refine Br.mk (fun hc=>?_) fun hc=>?_
    ·have hlt:i<1:=Dq;have hw:=aH hlt (by omega);obtain rfl:i=0:=by omega
     repeat' first|simp -dsimp only[go_sem,cC,cFd,hw]|apply Br.mk<;>intro h<;>try simp -dsimp only[h]|refine aA.c (by first|exact TX) ?_|refine aC ?_|fail
     all_goals first|exact fun _=>⟨⟨_,_,rfl,rfl⟩,fun h=>h rfl⟩|omega|exact⟨_,_,rfl,rfl⟩|exact⟨⟨_,_,rfl,rfl⟩,fun h=>h rfl⟩|exact⟨fun _=>⟨_,_,rfl,rfl⟩,fun h=>absurd rfl h⟩|(exact nx (1,()) trivial)
    ·have hge:i=1:=by
      have:¬i<1:=Dq;omega
     subst hge;simp -dsimp only[go_sem,cC,cFd]
     first|exact⟨⟨_,_,rfl,rfl⟩,fun h=>h rfl⟩|omega|exact⟨_,_,rfl,rfl⟩|exact⟨⟨_,_,rfl,rfl⟩,fun h=>h rfl⟩|exact⟨fun _=>⟨_,_,rfl,rfl⟩,fun h=>absurd rfl h⟩
 ·rw[show gV fr to l=.v (.slice none 0 0) by simp[gV,hc],hc] at KS;have hs0:iU fr to s l=1:=by rw[hsc];simp[hc]
  rw[hs0];simp only[if_true,if_false,Int.reduceEq];refine fn0 Cd.s_l09Ask_k fun X=>?_
  repeat' first|simp -dsimp only[go_sem,cC,cFd]|apply Br.mk<;>intro h<;>try simp -dsimp only[h]|refine aA.c (by first|exact KS|exact TX) ?_|refine aC ?_|fail
  all_goals first|omega|exact⟨_,_,rfl,rfl⟩|exact⟨⟨_,_,rfl,rfl⟩,fun h=>h rfl⟩|exact⟨fun _=>⟨_,_,rfl,rfl⟩,fun h=>absurd rfl h⟩
 ·rw[show gV fr to l=.v (.slice none 0 0) by simp[gV,hc],hc] at KS;have hs0:iU fr to s l=2:=by rw[hsc];simp[hc]
  rw[hs0];simp only[if_true,if_false,Int.reduceEq];refine fn0 Cd.s_l09Ask_k fun X=>?_
  repeat' first|simp -dsimp only[go_sem,cC,cFd]|apply Br.mk<;>intro h<;>try simp -dsimp only[h]|refine aA.c (by first|exact KS|exact TX) ?_|refine aC ?_|fail
  all_goals first|omega|exact⟨_,_,rfl,rfl⟩|exact⟨⟨_,_,rfl,rfl⟩,fun h=>h rfl⟩|exact⟨fun _=>⟨_,_,rfl,rfl⟩,fun h=>absurd rfl h⟩
end
end Go.Proofs.YtonkjfiffcfaoaaGreat
