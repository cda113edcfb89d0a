/- Steps that are drawn; decks and flows of a source. -/
import Derived.Test.YthbnjmgjhonfbaaGreatTwK
import Derived.Test.YthbnjmgjhonfbaaGreatTwQd
import Derived.Test.YthbnjmgjhonfbaaGreatTuH
set_option linter.all false
set_option maxHeartbeats 8000000
namespace Go.Proofs.YthbnjmgjhonfbaaGreat
open Go.Vs
variable [Vs.Envs]
attribute [local irreducible] Vs.Fn nxV nxS pkV pkS ptN crd dP dtF uX
theorem aA.borM {P:Program}{f:FuncId}{b:Blk}{ys:List AV}{L:List Vs.Name}{d:Option Nat}{σ:St}{n:Vs.Name}{K:St→Prop}{t:Tag K}{r:AV}{hout:List (Option Blk)} (hfn:Vs.Fn P f [b] ys r hout) (hfr:jL (d.getD 0) 1 hout.length σ=true)
  (hK:K ⟨put d (rn (phi [n] (d.getD 0) hout.length) r) σ.s,xR σ.h [n] (d.getD 0) hout true L⟩):aA P f [b] ys L d σ [n] K t:=
 ⟨r,hout,true,hfn,fun h=>(by cases h),hfr,hK⟩
theorem text (l:List Int) (x:Sr) (hl:byt l) (m:List ByteArray) (hp:x.p≤3990) (h0:m≠[]) (hm:m.length≤1000):Vs.Fn Tryz.prog F.dH [sB l x] [.ptr (.b 0) 0 0,.sl 1 (E cSt m)] (.v (.string (m.getD (pkV l x (m.length:Nat)).toNat ⟨#[]⟩))) [some (sB l (pkS l x (m.length:Nat)))]:=by
 have N1:=pick l x hl (m.length:Nat) hp;have hpos:0<m.length:=List.length_pos_iff.2 h0;have hb:=dI hl x (n:=(m.length:Nat)) (by omega)
 have g1:(E cSt m).getD (pkV l x (m.length:Nat)).toNat []=[.v (.string (m.getD (pkV l x (m.length:Nat)).toNat ⟨#[]⟩))]:=by
  have hlt:(pkV l x (m.length:Nat)).toNat<m.length:=by omega
  rw[aX hlt];simp[cSt,List.getD,hlt]
 generalize pkV l x (m.length:Nat)=v at *
 refine fn1 Cd._s_l00Src__text_k [.b 0] [sB l (pkS l x (m.length:Nat))] fun X=>?_;unfold Cd.dH
 repeat' first|simp -dsimp only[go_sem,aH,g1,Int.reduceBEq,Int.reduceBNe,cC,aH,List.replicate_succ,List.replicate_zero,List.flatten_cons,List.flatten_nil,List.cons_append,List.nil_append,List.set_cons_zero,List.set_cons_succ,List.length_cons,List.length_nil,List.length_set,List.mem_singleton,List.mem_cons,List.not_mem_nil,or_false,false_or,Vs.Name.t.injEq,List.getD_cons_zero,List.getD_cons_succ,bB,bC,bO,sB,List.append_nil,List.flatMap_cons,List.flatMap_nil]|apply Br.mk<;>intro h<;>try simp -dsimp only[h]|refine aA.bor (by first|exact N1) rfl ?_|refine aC ?_|fail
 all_goals exact⟨_,_,rfl,rfl⟩
def abc:List ByteArray:=[⟨#[65]⟩,⟨#[66]⟩,⟨#[49]⟩]
theorem aLf:E cSt abc=[[.v (.string ⟨#[65]⟩)],[.v (.string ⟨#[66]⟩)],[.v (.string ⟨#[49]⟩)]]:=rfl
theorem aJX (i:Nat):(abc.getD i ⟨#[]⟩).size≤1:=by
 rcases i with _|_|_|i<;>first|decide|exact Nat.zero_le _
theorem dsW {p:Prop} (h:p:=by
  refine fn1 Cd.s_l15DrawStep_k [.b 0] [sB l z] fun X=>?_;unfold Cd.iH
  repeat' first|simp -dsimp only[go_sem,Int.reduceBEq,Int.reduceBNe,cC,aH,List.replicate_succ,List.replicate_zero,List.flatten_cons,List.flatten_nil,List.cons_append,List.nil_append,List.set_cons_zero,List.set_cons_succ,List.length_cons,List.length_nil,List.length_set,List.mem_singleton,List.mem_cons,List.not_mem_nil,or_false,false_or,Vs.Name.t.injEq,List.getD_cons_zero,List.getD_cons_succ,bB,bC,bO,sB,List.append_nil,List.flatMap_cons,List.flatMap_nil,cS,cSt,Int.reduceBEq,Int.reduceBNe,List.take_succ_cons,List.take_zero,List.drop_succ_cons,List.drop_zero,Bool.false_eq_true,decide_true,decide_false,wk,wn]|apply Br.mk<;>intro h<;>try simp -dsimp only[h]|refine aA.bor (by first|exact P1|exact P2|exact P3|exact P4|exact DT|exact P9) rfl ?_|refine aA.borM (by first|exact TX) rfl ?_|refine aC ?_|fail
  all_goals first|omega|exact⟨_,_,rfl,rfl⟩):p:=h
theorem aJv (l:List Int) (x:Sr) (hl:byt l) (hp:x.p≤2900):∃s z,s.text.size≤2∧z.p≤x.p+30∧Vs.Fn Tryz.prog F.iH [sB l x] [.ptr (.b 0) 0 0] (.agg (cS s)) [some (sB l z)]:=by
 have P1:=pick l x hl 7 (by omega);have q1:=bD l x 7;have h1:=dI hl x (n:=7) (by omega);generalize pkV l x 7=v1 at *
 generalize pkS l x 7=y1 at *
 have P2:=pick l y1 hl 3 (by omega);have q2:=bD l y1 3;generalize pkV l y1 3=va at *
 generalize pkS l y1 3=y2 at *
 have P3:=one l y2 hl 4 (by omega);have q3:=bD l y2 4;obtain⟨b4,hb4⟩:∃b,(pkV l y2 4==0)=b:=⟨_,rfl⟩;rw[hb4] at P3;generalize pkS l y2 4=y3 at *
 have hv:v1=0∨v1=1∨v1=2∨v1=3∨v1=4∨v1=5∨v1=6:=by omega
 rcases hv with rfl|rfl|rfl|rfl|rfl|rfl|rfl<;>cases b4
 ·have wn:IntKind.i64.wrap (1-0)=((1:Nat):Int):=rfl;have wk:IntKind.i64.wrap (1+0)=1:=rfl;have P9:=pick l y3 hl 3 (by omega);have q9:=bD l y3 3;generalize pkV l y3 3=vt at *
  generalize pkS l y3 3=z at *
  refine⟨⟨1,va,0,vt,0,1,0,0,⟨#[]⟩⟩,z,Nat.zero_le _,by omega,?_⟩;exact dsW
 ·have wn:IntKind.i64.wrap (1-0)=((1:Nat):Int):=rfl;have wk:IntKind.i64.wrap (1+0)=1:=rfl;have P9:=pick l y3 hl 3 (by omega);have q9:=bD l y3 3;generalize pkV l y3 3=vt at *
  generalize pkS l y3 3=z at *
  refine⟨⟨1,va,0,vt,1,3,0,0,⟨#[]⟩⟩,z,Nat.zero_le _,by omega,?_⟩;exact dsW
 ·have wn:IntKind.i64.wrap (1-0)=((1:Nat):Int):=rfl;have wk:IntKind.i64.wrap (1+1)=2:=rfl;have P4:=pick l y3 hl 3 (by omega);have q4:=bD l y3 3;generalize pkV l y3 3=vb at *
  generalize pkS l y3 3=y4 at *
  have P9:=pick l y4 hl 3 (by omega);have q9:=bD l y4 3;generalize pkV l y4 3=vt at *
  generalize pkS l y4 3=z at *
  refine⟨⟨2,va,vb,vt,0,1,0,0,⟨#[]⟩⟩,z,Nat.zero_le _,by omega,?_⟩;exact dsW
 ·have wn:IntKind.i64.wrap (1-0)=((1:Nat):Int):=rfl;have wk:IntKind.i64.wrap (1+1)=2:=rfl;have P4:=pick l y3 hl 3 (by omega);have q4:=bD l y3 3;generalize pkV l y3 3=vb at *
  generalize pkS l y3 3=y4 at *
  have P9:=pick l y4 hl 3 (by omega);have q9:=bD l y4 3;generalize pkV l y4 3=vt at *
  generalize pkS l y4 3=z at *
  refine⟨⟨2,va,vb,vt,1,3,0,0,⟨#[]⟩⟩,z,Nat.zero_le _,by omega,?_⟩;exact dsW
 ·have wn:IntKind.i64.wrap (1-0)=((1:Nat):Int):=rfl;have wk:IntKind.i64.wrap (1+2)=3:=rfl;have P4:=pick l y3 hl 3 (by omega);have q4:=bD l y3 3;generalize pkV l y3 3=vb at *
  generalize pkS l y3 3=y4 at *
  have P9:=pick l y4 hl 3 (by omega);have q9:=bD l y4 3;generalize pkV l y4 3=vt at *
  generalize pkS l y4 3=z at *
  refine⟨⟨3,va,vb,vt,0,1,0,0,⟨#[]⟩⟩,z,Nat.zero_le _,by omega,?_⟩;exact dsW
 ·have wn:IntKind.i64.wrap (1-0)=((1:Nat):Int):=rfl;have wk:IntKind.i64.wrap (1+2)=3:=rfl;have P4:=pick l y3 hl 3 (by omega);have q4:=bD l y3 3;generalize pkV l y3 3=vb at *
  generalize pkS l y3 3=y4 at *
  have P9:=pick l y4 hl 3 (by omega);have q9:=bD l y4 3;generalize pkV l y4 3=vt at *
  generalize pkS l y4 3=z at *
  refine⟨⟨3,va,vb,vt,1,3,0,0,⟨#[]⟩⟩,z,Nat.zero_le _,by omega,?_⟩;exact dsW
 ·have wn:IntKind.i64.wrap (1-0)=((1:Nat):Int):=rfl;have wk:IntKind.i64.wrap (1+3)=4:=rfl;have P4:=pick l y3 hl 3 (by omega);have q4:=bD l y3 3;generalize pkV l y3 3=vb at *
  generalize pkS l y3 3=y4 at *
  have P9:=pick l y4 hl 3 (by omega);have q9:=bD l y4 3;generalize pkV l y4 3=vt at *
  generalize pkS l y4 3=z at *
  refine⟨⟨4,va,vb,vt,0,1,0,0,⟨#[]⟩⟩,z,Nat.zero_le _,by omega,?_⟩;exact dsW
 ·have wn:IntKind.i64.wrap (1-0)=((1:Nat):Int):=rfl;have wk:IntKind.i64.wrap (1+3)=4:=rfl;have P4:=pick l y3 hl 3 (by omega);have q4:=bD l y3 3;generalize pkV l y3 3=vb at *
  generalize pkS l y3 3=y4 at *
  have P9:=pick l y4 hl 3 (by omega);have q9:=bD l y4 3;generalize pkV l y4 3=vt at *
  generalize pkS l y4 3=z at *
  refine⟨⟨4,va,vb,vt,1,3,0,0,⟨#[]⟩⟩,z,Nat.zero_le _,by omega,?_⟩;exact dsW
 ·have wk:IntKind.i64.wrap (1+4)=5:=rfl;have wn:IntKind.i64.wrap (1-0)=((1:Nat):Int):=rfl;have DT:=aBc l y3 hl 1 (by omega) (by omega);have hd:=aF3 l 1 y3 [];have hsz:=aCV (dtF l 1 y3 []).1;generalize uX (dtF l 1 y3 []).1=tx at *
  generalize(dtF l 1 y3 []).2=y4 at *
  have TX:=text l y4 hl abc (by omega) (by simp[abc]) (by simp[abc]);have hts:=aJX (pkV l y4 (abc.length:Nat)).toNat;have q5:=bD l y4 (abc.length:Nat);rw[aLf] at TX;generalize abc.getD (pkV l y4 (abc.length:Nat)).toNat ⟨#[]⟩=tt at *
  generalize pkS l y4 (abc.length:Nat)=y5 at *
  have P9:=pick l y5 hl 3 (by omega);have q9:=bD l y5 3;generalize pkV l y5 3=vt at *
  generalize pkS l y5 3=z at *
  refine⟨⟨5,va,0,vt,0,1,0,0,tt⟩,z,by show tt.size≤2;omega,by omega,?_⟩;exact dsW
 ·have wk:IntKind.i64.wrap (1+4)=5:=rfl;have wn:IntKind.i64.wrap (3-1)=((2:Nat):Int):=rfl;have DT:=aBc l y3 hl 2 (by omega) (by omega);have hd:=aF3 l 2 y3 [];have hsz:=aCV (dtF l 2 y3 []).1;generalize uX (dtF l 2 y3 []).1=tx at *
  generalize(dtF l 2 y3 []).2=y4 at *
  have P9:=pick l y4 hl 3 (by omega);have q9:=bD l y4 3;generalize pkV l y4 3=vt at *
  generalize pkS l y4 3=z at *
  refine⟨⟨5,va,0,vt,1,3,0,0,tx⟩,z,by show tx.size≤2;rw[hsz,hd.1];simp,by omega,?_⟩;exact dsW
 ·have wn:IntKind.i64.wrap (1-0)=((1:Nat):Int):=rfl;have wk:IntKind.i64.wrap (1+5)=6:=rfl;have P9:=pick l y3 hl 3 (by omega);have q9:=bD l y3 3;generalize pkV l y3 3=vt at *
  generalize pkS l y3 3=z at *
  refine⟨⟨6,va,0,vt,0,1,0,0,⟨#[]⟩⟩,z,Nat.zero_le _,by omega,?_⟩;exact dsW
 ·have wn:IntKind.i64.wrap (1-0)=((1:Nat):Int):=rfl;have wk:IntKind.i64.wrap (1+5)=6:=rfl;have P9:=pick l y3 hl 3 (by omega);have q9:=bD l y3 3;generalize pkV l y3 3=vt at *
  generalize pkS l y3 3=z at *
  refine⟨⟨6,va,0,vt,1,3,0,0,⟨#[]⟩⟩,z,Nat.zero_le _,by omega,?_⟩;exact dsW
 ·have wn:IntKind.i64.wrap (1-0)=((1:Nat):Int):=rfl;have wk:IntKind.i64.wrap (1+6)=7:=rfl;have P4:=pick l y3 hl 2 (by omega);have q4:=bD l y3 2;have h4:=dI hl y3 (n:=2) (by omega);generalize pkV l y3 2=vs at *
  generalize pkS l y3 2=z at *
  refine⟨⟨7,va,0,0,0,1,IntKind.i64.wrap (1+IntKind.i64.wrap (2*vs)),IntKind.i64.wrap (IntKind.i64.wrap (1+IntKind.i64.wrap (2*vs))+2),⟨#[]⟩⟩,z,Nat.zero_le _,by omega,?_⟩;exact dsW
 ·have wn:IntKind.i64.wrap (1-0)=((1:Nat):Int):=rfl;have wk:IntKind.i64.wrap (1+6)=7:=rfl;have P4:=pick l y3 hl 2 (by omega);have q4:=bD l y3 2;have h4:=dI hl y3 (n:=2) (by omega);generalize pkV l y3 2=vs at *
  generalize pkS l y3 2=z at *
  refine⟨⟨7,va,0,0,1,3,IntKind.i64.wrap (1+IntKind.i64.wrap (2*vs)),IntKind.i64.wrap (IntKind.i64.wrap (1+IntKind.i64.wrap (2*vs))+2),⟨#[]⟩⟩,z,Nat.zero_le _,by omega,?_⟩;exact dsW
end Go.Proofs.YthbnjmgjhonfbaaGreat
