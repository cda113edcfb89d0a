/- A flow, a sample and a bound that are drawn. -/
import Derived.Test.YthbnjmgjhonfbaaGreatTwPf
import Derived.Test.YthbnjmgjhonfbaaGreatTwFz
import Derived.Test.YthbnjmgjhonfbaaGreatTwVf
import Derived.Test.YthbnjmgjhonfbaaGreatTuH
import Derived.Test.YthbnjmgjhonfbaaGreatVuO
set_option linter.all false
set_option maxHeartbeats 8000000
namespace Go.Proofs.YthbnjmgjhonfbaaGreat
open Go.Vs
variable [Vs.Envs]
attribute [local irreducible] Vs.Fn nxV nxS pkV pkS ptN crd dP dtF uX
attribute [local go_sem] Int.reduceBEq Int.reduceBNe aH List.replicate_succ List.replicate_zero List.flatten_cons List.flatten_nil List.cons_append List.nil_append List.set_cons_zero List.set_cons_succ List.length_cons List.length_nil List.length_set List.mem_singleton List.mem_cons List.not_mem_nil or_false false_or Vs.Name.t.injEq List.getD_cons_zero List.getD_cons_succ bB bC bO List.append_nil List.flatMap_cons List.flatMap_nil List.take_succ_cons List.take_zero List.drop_succ_cons List.drop_zero Bool.false_eq_true decide_true decide_false
def gdS (x:Spc):Prop:=((x.g0=0∧x.g1=1∧x.s0=1∧x.s1=3)∨(x.g0=1∧x.g1=2∧x.s0=3∧x.s1=5))∧((x.w0=0∧x.w1=0∧x.text=⟨#[]⟩)∨(x.w0=0∧x.w1=1∧(x.text=⟨#[65]⟩∨x.text=⟨#[66]⟩∨x.text=⟨#[49]⟩))∨(x.w0=2∧x.w1=3∧(x.text=⟨#[48]⟩∨x.text=⟨#[49]⟩∨x.text=⟨#[53]⟩)))
theorem aHj {p:Prop} (h:p:=by
  refine fn1 Cd.s_l16Draw_k [.b 0] [sB l z] fun X=>?_;unfold Cd.qE
  repeat' first|simp -dsimp only[go_sem,Int.reduceBEq,Int.reduceBNe,cC,aH,List.replicate_succ,List.replicate_zero,List.flatten_cons,List.flatten_nil,List.cons_append,List.nil_append,List.set_cons_zero,List.set_cons_succ,List.length_cons,List.length_nil,List.length_set,List.mem_singleton,List.mem_cons,List.not_mem_nil,or_false,false_or,Vs.Name.t.injEq,List.getD_cons_zero,List.getD_cons_succ,bB,bC,bO,sB,List.append_nil,List.flatMap_cons,List.flatMap_nil,cP,Int.reduceBEq,Int.reduceBNe,List.take_succ_cons,List.take_zero,List.drop_succ_cons,List.drop_zero,Bool.false_eq_true,decide_true,decide_false]|apply Br.mk<;>intro h<;>try simp -dsimp only[h]|refine aA.bor (by first|exact P1|exact P2) rfl ?_|refine aA.borM (by first|exact TX) rfl ?_|refine aC ?_|fail
  all_goals first|omega|exact⟨_,_,rfl,rfl⟩):p:=h
theorem aJw (l:List Int) (x:Sr) (hl:byt l) (hp:x.p≤2900):∃s z,gdS s∧z.p≤x.p+8∧Vs.Fn Tryz.prog F.qE [sB l x] [.ptr (.b 0) 0 0] (.agg (cP s)) [some (sB l z)]:=by
 have P1:=one l x hl 4 (by omega);have q1:=bD l x 4;obtain⟨b1,hb1⟩:∃b,(pkV l x 4==0)=b:=⟨_,rfl⟩;rw[hb1] at P1;generalize pkS l x 4=y1 at *
 have P2:=pick l y1 hl 3 (by omega);have q2:=bD l y1 3;have h2:=dI hl y1 (n:=3) (by omega);generalize pkV l y1 3=v2 at *
 generalize pkS l y1 3=z at *
 have hv:v2=0∨v2=1∨v2=2:=by omega
 rcases hv with rfl|rfl|rfl<;>cases b1
 ·generalize hy:z=y2 at *
  clear hy;have TX:=text l y2 hl [⟨#[65]⟩,⟨#[66]⟩,⟨#[49]⟩] (by omega) (by simp) (by simp);have q3:=bD l y2 (([⟨#[65]⟩,⟨#[66]⟩,⟨#[49]⟩]:List ByteArray).length:Nat);have hk:=dI hl y2 (n:=3) (by omega)
  have ht:([⟨#[65]⟩,⟨#[66]⟩,⟨#[49]⟩]:List ByteArray).getD (pkV l y2 (([⟨#[65]⟩,⟨#[66]⟩,⟨#[49]⟩]:List ByteArray).length:Nat)).toNat ⟨#[]⟩=⟨#[65]⟩∨([⟨#[65]⟩,⟨#[66]⟩,⟨#[49]⟩]:List ByteArray).getD (pkV l y2 (([⟨#[65]⟩,⟨#[66]⟩,⟨#[49]⟩]:List ByteArray).length:Nat)).toNat ⟨#[]⟩=⟨#[66]⟩∨([⟨#[65]⟩,⟨#[66]⟩,⟨#[49]⟩]:List ByteArray).getD (pkV l y2 (([⟨#[65]⟩,⟨#[66]⟩,⟨#[49]⟩]:List ByteArray).length:Nat)).toNat ⟨#[]⟩=⟨#[49]⟩:=by
   show([⟨#[65]⟩,⟨#[66]⟩,⟨#[49]⟩]:List ByteArray).getD (pkV l y2 3).toNat ⟨#[]⟩=_∨([⟨#[65]⟩,⟨#[66]⟩,⟨#[49]⟩]:List ByteArray).getD (pkV l y2 3).toNat ⟨#[]⟩=_∨([⟨#[65]⟩,⟨#[66]⟩,⟨#[49]⟩]:List ByteArray).getD (pkV l y2 3).toNat ⟨#[]⟩=_
   generalize pkV l y2 3=w at *
   have hw:w=0∨w=1∨w=2:=by omega
   rcases hw with rfl|rfl|rfl
   ·exact .inl rfl
   ·exact .inr (.inl rfl)
   ·exact .inr (.inr rfl)
  unfold cSt at TX;simp only[Vs.E,List.map_cons,List.map_nil] at TX;generalize([⟨#[65]⟩,⟨#[66]⟩,⟨#[49]⟩]:List ByteArray).getD _ ⟨#[]⟩=tt at *
  generalize pkS l y2 (([⟨#[65]⟩,⟨#[66]⟩,⟨#[49]⟩]:List ByteArray).length:Nat)=z at *
  refine⟨⟨0,1,tt,0,1,1,3⟩,z,⟨.inl ⟨rfl,rfl,rfl,rfl⟩,.inr (.inl ⟨rfl,rfl,ht⟩)⟩,by omega,?_⟩;exact aHj
 ·generalize hy:z=y2 at *
  clear hy;have TX:=text l y2 hl [⟨#[65]⟩,⟨#[66]⟩,⟨#[49]⟩] (by omega) (by simp) (by simp);have q3:=bD l y2 (([⟨#[65]⟩,⟨#[66]⟩,⟨#[49]⟩]:List ByteArray).length:Nat);have hk:=dI hl y2 (n:=3) (by omega)
  have ht:([⟨#[65]⟩,⟨#[66]⟩,⟨#[49]⟩]:List ByteArray).getD (pkV l y2 (([⟨#[65]⟩,⟨#[66]⟩,⟨#[49]⟩]:List ByteArray).length:Nat)).toNat ⟨#[]⟩=⟨#[65]⟩∨([⟨#[65]⟩,⟨#[66]⟩,⟨#[49]⟩]:List ByteArray).getD (pkV l y2 (([⟨#[65]⟩,⟨#[66]⟩,⟨#[49]⟩]:List ByteArray).length:Nat)).toNat ⟨#[]⟩=⟨#[66]⟩∨([⟨#[65]⟩,⟨#[66]⟩,⟨#[49]⟩]:List ByteArray).getD (pkV l y2 (([⟨#[65]⟩,⟨#[66]⟩,⟨#[49]⟩]:List ByteArray).length:Nat)).toNat ⟨#[]⟩=⟨#[49]⟩:=by
   show([⟨#[65]⟩,⟨#[66]⟩,⟨#[49]⟩]:List ByteArray).getD (pkV l y2 3).toNat ⟨#[]⟩=_∨([⟨#[65]⟩,⟨#[66]⟩,⟨#[49]⟩]:List ByteArray).getD (pkV l y2 3).toNat ⟨#[]⟩=_∨([⟨#[65]⟩,⟨#[66]⟩,⟨#[49]⟩]:List ByteArray).getD (pkV l y2 3).toNat ⟨#[]⟩=_
   generalize pkV l y2 3=w at *
   have hw:w=0∨w=1∨w=2:=by omega
   rcases hw with rfl|rfl|rfl
   ·exact .inl rfl
   ·exact .inr (.inl rfl)
   ·exact .inr (.inr rfl)
  unfold cSt at TX;simp only[Vs.E,List.map_cons,List.map_nil] at TX;generalize([⟨#[65]⟩,⟨#[66]⟩,⟨#[49]⟩]:List ByteArray).getD _ ⟨#[]⟩=tt at *
  generalize pkS l y2 (([⟨#[65]⟩,⟨#[66]⟩,⟨#[49]⟩]:List ByteArray).length:Nat)=z at *
  refine⟨⟨0,1,tt,1,2,3,5⟩,z,⟨.inr ⟨rfl,rfl,rfl,rfl⟩,.inr (.inl ⟨rfl,rfl,ht⟩)⟩,by omega,?_⟩;exact aHj
 ·generalize hy:z=y2 at *
  clear hy;have TX:=text l y2 hl [⟨#[48]⟩,⟨#[49]⟩,⟨#[53]⟩] (by omega) (by simp) (by simp);have q3:=bD l y2 (([⟨#[48]⟩,⟨#[49]⟩,⟨#[53]⟩]:List ByteArray).length:Nat);have hk:=dI hl y2 (n:=3) (by omega)
  have ht:([⟨#[48]⟩,⟨#[49]⟩,⟨#[53]⟩]:List ByteArray).getD (pkV l y2 (([⟨#[48]⟩,⟨#[49]⟩,⟨#[53]⟩]:List ByteArray).length:Nat)).toNat ⟨#[]⟩=⟨#[48]⟩∨([⟨#[48]⟩,⟨#[49]⟩,⟨#[53]⟩]:List ByteArray).getD (pkV l y2 (([⟨#[48]⟩,⟨#[49]⟩,⟨#[53]⟩]:List ByteArray).length:Nat)).toNat ⟨#[]⟩=⟨#[49]⟩∨([⟨#[48]⟩,⟨#[49]⟩,⟨#[53]⟩]:List ByteArray).getD (pkV l y2 (([⟨#[48]⟩,⟨#[49]⟩,⟨#[53]⟩]:List ByteArray).length:Nat)).toNat ⟨#[]⟩=⟨#[53]⟩:=by
   show([⟨#[48]⟩,⟨#[49]⟩,⟨#[53]⟩]:List ByteArray).getD (pkV l y2 3).toNat ⟨#[]⟩=_∨([⟨#[48]⟩,⟨#[49]⟩,⟨#[53]⟩]:List ByteArray).getD (pkV l y2 3).toNat ⟨#[]⟩=_∨([⟨#[48]⟩,⟨#[49]⟩,⟨#[53]⟩]:List ByteArray).getD (pkV l y2 3).toNat ⟨#[]⟩=_
   generalize pkV l y2 3=w at *
   have hw:w=0∨w=1∨w=2:=by omega
   rcases hw with rfl|rfl|rfl
   ·exact .inl rfl
   ·exact .inr (.inl rfl)
   ·exact .inr (.inr rfl)
  unfold cSt at TX;simp only[Vs.E,List.map_cons,List.map_nil] at TX;generalize([⟨#[48]⟩,⟨#[49]⟩,⟨#[53]⟩]:List ByteArray).getD _ ⟨#[]⟩=tt at *
  generalize pkS l y2 (([⟨#[48]⟩,⟨#[49]⟩,⟨#[53]⟩]:List ByteArray).length:Nat)=z at *
  refine⟨⟨2,3,tt,0,1,1,3⟩,z,⟨.inl ⟨rfl,rfl,rfl,rfl⟩,.inr (.inr ⟨rfl,rfl,ht⟩)⟩,by omega,?_⟩;exact aHj
 ·generalize hy:z=y2 at *
  clear hy;have TX:=text l y2 hl [⟨#[48]⟩,⟨#[49]⟩,⟨#[53]⟩] (by omega) (by simp) (by simp);have q3:=bD l y2 (([⟨#[48]⟩,⟨#[49]⟩,⟨#[53]⟩]:List ByteArray).length:Nat);have hk:=dI hl y2 (n:=3) (by omega)
  have ht:([⟨#[48]⟩,⟨#[49]⟩,⟨#[53]⟩]:List ByteArray).getD (pkV l y2 (([⟨#[48]⟩,⟨#[49]⟩,⟨#[53]⟩]:List ByteArray).length:Nat)).toNat ⟨#[]⟩=⟨#[48]⟩∨([⟨#[48]⟩,⟨#[49]⟩,⟨#[53]⟩]:List ByteArray).getD (pkV l y2 (([⟨#[48]⟩,⟨#[49]⟩,⟨#[53]⟩]:List ByteArray).length:Nat)).toNat ⟨#[]⟩=⟨#[49]⟩∨([⟨#[48]⟩,⟨#[49]⟩,⟨#[53]⟩]:List ByteArray).getD (pkV l y2 (([⟨#[48]⟩,⟨#[49]⟩,⟨#[53]⟩]:List ByteArray).length:Nat)).toNat ⟨#[]⟩=⟨#[53]⟩:=by
   show([⟨#[48]⟩,⟨#[49]⟩,⟨#[53]⟩]:List ByteArray).getD (pkV l y2 3).toNat ⟨#[]⟩=_∨([⟨#[48]⟩,⟨#[49]⟩,⟨#[53]⟩]:List ByteArray).getD (pkV l y2 3).toNat ⟨#[]⟩=_∨([⟨#[48]⟩,⟨#[49]⟩,⟨#[53]⟩]:List ByteArray).getD (pkV l y2 3).toNat ⟨#[]⟩=_
   generalize pkV l y2 3=w at *
   have hw:w=0∨w=1∨w=2:=by omega
   rcases hw with rfl|rfl|rfl
   ·exact .inl rfl
   ·exact .inr (.inl rfl)
   ·exact .inr (.inr rfl)
  unfold cSt at TX;simp only[Vs.E,List.map_cons,List.map_nil] at TX;generalize([⟨#[48]⟩,⟨#[49]⟩,⟨#[53]⟩]:List ByteArray).getD _ ⟨#[]⟩=tt at *
  generalize pkS l y2 (([⟨#[48]⟩,⟨#[49]⟩,⟨#[53]⟩]:List ByteArray).length:Nat)=z at *
  refine⟨⟨2,3,tt,1,2,3,5⟩,z,⟨.inr ⟨rfl,rfl,rfl,rfl⟩,.inr (.inr ⟨rfl,rfl,ht⟩)⟩,by omega,?_⟩;exact aHj
 ·refine⟨⟨0,0,⟨#[]⟩,0,1,1,3⟩,z,⟨.inl ⟨rfl,rfl,rfl,rfl⟩,.inl ⟨rfl,rfl,rfl⟩⟩,by omega,?_⟩;exact aHj
 ·refine⟨⟨0,0,⟨#[]⟩,1,2,3,5⟩,z,⟨.inr ⟨rfl,rfl,rfl,rfl⟩,.inl ⟨rfl,rfl,rfl⟩⟩,by omega,?_⟩;exact aHj
theorem aE8 {x:Spc} (h:gdS x):lN x 5=true∧x.text.size≤1∧sF (gK x) 5=true:=by
 obtain⟨h1,h2⟩:=h;obtain⟨w0,w1,t,g0,g1,s0,s1⟩:=x;simp only at h1 h2;rcases h1 with⟨rfl,rfl,rfl,rfl⟩|⟨rfl,rfl,rfl,rfl⟩<;>rcases h2 with⟨rfl,rfl,rfl⟩|⟨rfl,rfl,rfl|rfl|rfl⟩|⟨rfl,rfl,rfl|rfl|rfl⟩<;>exact⟨by decide +kernel,by decide,by decide +kernel⟩
theorem aD6 {x:Spc} (h:x.text.size≤1):okZ (gK x):=by
 intro s hs;unfold gK at hs;split at hs
 ·simp only[List.mem_cons,List.not_mem_nil,or_false] at hs;rcases hs with rfl|rfl<;>exact Nat.zero_le _
 ·simp only[List.mem_cons,List.not_mem_nil,or_false] at hs;rcases hs with rfl|rfl|rfl
  ·exact Nat.le_trans h (by omega)
  ·exact Nat.zero_le _
  ·exact Nat.zero_le _
theorem lsS_z {fl:List Stp} (i:Nat) (h:okZ fl):okZ (lsS fl i):=fun s hs=>h s (aKH hs)
theorem aJm (x:Spc):0<(gK x).length:=by unfold gK;split<;>simp
def aIg:Stp:=⟨1,0,0,0,1,3,0,0,⟨#[]⟩⟩
attribute [local go_sem] cC in
theorem aK3 (l:List Int) (x:Sr) (hl:byt l) (hp:x.p≤900) (s:Spc) (hx:gdS s):∃fs z,okZ fs∧fs.length≤21∧z.p≤x.p+410∧Vs.Fn Tryz.prog F.dZ [sB l x] [.ptr (.b 0) 0 0,.ro (cP s)] (.sl 9 (E cS fs)) [some (sB l z)]:=by
 obtain⟨hv5,hx1,_⟩:=aE8 hx;have OK:=aIZ s 5 (by omega);rw[hv5] at OK;have FW:=aGL s;have hfz:=aD6 hx1;have hfl:=aCn s;have hfp:=aJm s;have P4:=one l x hl 4 (by omega);have q4:=bD l x 4;obtain⟨b4,hb4⟩:∃b,(pkV l x 4==0)=b:=⟨_,rfl⟩;rw[hb4] at P4;generalize pkS l x 4=y1 at *
 cases b4
 rotate_left
 ·obtain⟨fs,z,h1,h2,h3,D⟩:=aJx l y1 hl (by omega);refine⟨fs,z,h1,h2,by omega,?_⟩;refine fn1 Cd.s_l17DrawFlow_k [.b 0] [sB l z] fun X=>?_;unfold Cd.dZ
  repeat' first|simp -dsimp only[go_sem,sB]|apply Br.mk<;>intro h<;>try simp -dsimp only[h]|refine aA.bor (by first|exact P4|exact D) rfl ?_|refine aA.c (by first|exact OK|exact FW) ?_|refine aC ?_|fail
  all_goals first|omega|exact⟨_,_,rfl,rfl⟩
 have K4:=pick l y1 hl 4 (by omega);have k4:=bD l y1 4;have v4:=dI hl y1 (n:=4) (by omega);generalize pkV l y1 4=v at *
 generalize pkS l y1 4=y2 at *
 by_cases h0:v=0
 ·subst h0;have KN:=pick l y2 hl ((gK s).length:Nat) (by omega);have kn:=bD l y2 ((gK s).length:Nat);have vn:=dI hl y2 (n:=((gK s).length:Nat)) (by omega);obtain⟨i,hi⟩:∃i:Nat,pkV l y2 ((gK s).length:Nat)=i:=⟨(pkV l y2 ((gK s).length:Nat)).toNat,by omega⟩;rw[hi] at KN vn;generalize pkS l y2 ((gK s).length:Nat)=y3 at *
  refine⟨lsS (gK s) i,y3,lsS_z i hfz,by have:=aKI (gK s) i;omega,by omega,?_⟩;have hlt:i<(gK s).length:=by omega
  generalize gK s=fl at *
  have hw:IntKind.i64.wrap ((i:Int)+1)=((i+1:Nat):Int):=by rw[aR (by omega) (by omega)];omega
  have ht:(E cS fl).take i=E cS (fl.take i):=by simp[E,List.map_take]
  have hdr:(E cS fl).drop (i+1)=E cS (fl.drop (i+1)):=by simp[E,List.map_drop]
  have hli:(fl.take i).length=i:=by simp;omega
  have hld:(fl.drop (i+1)).length=fl.length-(i+1):=by simp
  have hjn:E cS (fl.take i)++E cS (fl.drop (i+1))=E cS (lsS fl i):=by rw[←aY];rfl
  have hll:(lsS fl i).length=i+(fl.length-(i+1)):=by simp[lsS,hli]
  have htk2:(E cS fl).take fl.length=E cS fl:=List.take_of_length_le (by rw[aH];exact Nat.le_refl _);have htk3:(E cS (lsS fl i)).take (i+(fl.length-(i+1)))=E cS (lsS fl i):=List.take_of_length_le (by rw[aH,hll];exact Nat.le_refl _);refine fn1 Cd.s_l17DrawFlow_k [.b 0] [sB l y3] fun X=>?_;unfold Cd.dZ
  repeat' first|simp -dsimp only[go_sem,hw,ht,hdr,hli,hld,hjn,hll,htk2,htk3,sB]|apply Br.mk<;>intro h<;>try simp -dsimp only[h]|refine aA.bor (by first|exact P4|exact K4|exact KN) rfl ?_|refine aA.c (by first|exact OK|exact FW) ?_|refine aC ?_|fail
  all_goals first|omega|exact⟨_,_,rfl,rfl⟩
 by_cases h1:v=1
 ·subst h1;refine⟨aIg::gK s,y2,fun t ht=>?_,by simp only[List.length_cons];omega,by omega,?_⟩
  ·rcases List.mem_cons.1 ht with rfl|ht
   ·exact Nat.zero_le _
   ·exact hfz t ht
  generalize gK s=fl at *
  have hjn:[[AV.v (.int .i64 1),.v (.int .i64 0),.v (.int .i64 0),.v (.int .i64 0),.v (.int .i64 1),.v (.int .i64 3),.v (.int .i64 0),.v (.int .i64 0),.v (.string ⟨#[]⟩)]]++E cS fl=E cS (aIg::fl):=rfl;have hjn2:[AV.v (.int .i64 1),.v (.int .i64 0),.v (.int .i64 0),.v (.int .i64 0),.v (.int .i64 1),.v (.int .i64 3),.v (.int .i64 0),.v (.int .i64 0),.v (.string ⟨#[]⟩)]::E cS fl=E cS (aIg::fl):=rfl;have htk4:(E cS (aIg::fl)).take (1+fl.length)=E cS (aIg::fl):=List.take_of_length_le (by rw[aH,List.length_cons];omega);refine fn1 Cd.s_l17DrawFlow_k [.b 0] [sB l y2] fun X=>?_;unfold Cd.dZ
  repeat' first|simp -dsimp only[go_sem,hjn,hjn2,htk4,sB]|apply Br.mk<;>intro h<;>try simp -dsimp only[h]|refine aA.bor (by first|exact P4|exact K4) rfl ?_|refine aA.c (by first|exact OK|exact FW) ?_|refine aC ?_|fail
  all_goals first|omega|exact⟨_,_,rfl,rfl⟩
 ·refine⟨gK s,y2,hfz,by omega,by omega,?_⟩;have e0:(v==0)=false:=beq_eq_false_iff_ne.2 h0;have e1:(v==1)=false:=beq_eq_false_iff_ne.2 h1;refine fn1 Cd.s_l17DrawFlow_k [.b 0] [sB l y2] fun X=>?_;unfold Cd.dZ
  repeat' first|simp -dsimp only[go_sem,e0,e1,sB]|apply Br.mk<;>intro h<;>try simp -dsimp only[h]|refine aA.bor (by first|exact P4|exact K4) rfl ?_|refine aA.c (by first|exact OK|exact FW) ?_|refine aC ?_|fail
  all_goals first|omega|exact⟨_,_,rfl,rfl⟩
theorem a2T1 (l:List Int) (s:Spc) (FS:List Stp) (cs:List (List Int)) (n:Int) (z z6:Sr) (PK:Vs.Fn Tryz.prog F.aI [sB l z] [.ptr (.b 0) 0 0,.v (.int .i64 3)] (.v (.int .i64 n)) [some (sB l z6)]) {C:Ctx} (hnt:C.nt=Tryz.f5.ntmps) {a:Act}{w:World}{S:Nat→Prop}{ρ:Vs.Name→Option Nat}{κ:Vs.Name→Nat}
  (hok:OK C (⟨[(3,.ptr (.t 3 0) 0 0),(6,.ptr (.t 11 0) 0 0),(7,.ptr (.t 7 0) 0 0),(8,.sl 9 (E cS FS)),(9,.loc (.t 18 0) 0 cs.length)],[(.t 18 0,.arr 1 (E cC cs) false),(.t 7 0,.var (cP s) true),(.t 11 0,sB l z),(.t 3 0,.var [.v (.int .i64 0),.v (.int .i64 0),.v (.string ⟨#[]⟩),.v (.int .i64 0),.v (.int .i64 0),.v (.int .i64 0),.v (.int .i64 0)] false)]⟩:St).f a w S ρ κ):Vs.At Tryz.prog Tryz.f5.ntmps (Vs.drI Tryz.prog 9 9 [(4,3),(5,0),(6,1),(7,2),(8,4)] [[]]) (Vs.aGY 7 Cd.bV) (fun e a' w'=>(e=.ret∨e=.normal)∧dF C (wQ Tryz.prog Tryz.f5.results.toList [] (.tup [.sl 9 (E cS FS),.agg (cP s),.sl 1 (E cC cs),.v (.int .i64 n)]) []) a' w') a w:=by
 show Vs.At Tryz.prog Tryz.f5.ntmps (Vs.drI Tryz.prog 9 9 [(4,3),(5,0),(6,1),(7,2),(8,4)] [[]]) (.seq (.region [⟨some 30,.mv (.tmp 8),none⟩,⟨some 31,.load true 7 (.tmp 7),none⟩,⟨some 32,.mv (.tmp 9),none⟩,⟨some 33,.mv (.tmp 6),none⟩,⟨some 34,.call (.func F.aI) [(.tmp 33),(.const (.int .i64 (3)))] [0],none⟩,⟨some 2,.mv (.tmp 30),none⟩,⟨none,.store 7 (.tmp 3) (.tmp 31),none⟩,⟨some 4,.mv (.tmp 32),none⟩,⟨some 5,.mv (.tmp 34),none⟩] _ _) .ret) _ a w
 refine At.seq (At.rgJ Tryz.mixed (n0:=9) (n1:=9) (deps:=[(4,3),(5,0),(6,1),(7,2),(8,4)]) (OT:=[[]]) rfl (by decide) (fun Dn a' w'=>∃(x30 x31 x32 x33 x34 x2 x4 x5:AV) (zz:Sr) (cells:List AV) (S:Nat→Prop) (ρ:Vs.Name→Option Nat) (κ:Vs.Name→Nat),OK C (⟨[(3,.ptr (.t 3 0) 0 0),(6,.ptr (.t 11 0) 0 0),(7,.ptr (.t 7 0) 0 0),(8,.sl 9 (E cS FS)),(9,.loc (.t 18 0) 0 cs.length),(30,x30),(31,x31),(32,x32),(33,x33),(34,x34),(2,x2),(4,x4),(5,x5)],[(.t 18 0,.arr 1 (E cC cs) false),(.t 7 0,.var (cP s) true),(.t 11 0,sB l zz),(.t 3 0,.var cells false)]⟩:St).f a' w' S ρ κ∧(Dn 0→x30=.sl 9 (E cS FS))∧(Dn 1→x31=.agg (cP s))∧(Dn 2→x32=.loc (.t 18 0) 0 cs.length)∧(Dn 3→x33=.ptr (.t 11 0) 0 0)∧(Dn 4→x34=.v (.int .i64 n))∧(Dn 5→x2=.sl 9 (E cS FS))∧(Dn 7→x4=.loc (.t 18 0) 0 cs.length)∧(Dn 8→x5=.v (.int .i64 n))∧(¬Dn 4→zz=z)∧(¬Dn 6→cells=[.v (.int .i64 0),.v (.int .i64 0),.v (.string ⟨#[]⟩),.v (.int .i64 0),.v (.int .i64 0),.v (.int .i64 0),.v (.int .i64 0)])∧(Dn 6→cells=cP s)) (fun i Dn a' w' rest hi hnd hdep hI hk=>?_) (fun Dn D' a' w' h hI=>?_) ?_ (by decide) fun a5 w5 hI L hL=>?_)
 ·obtain⟨x30,x31,x32,x33,x34,x2,x4,x5,zz,cells,S,ρ,κ,hok,h0,h1,h2,h3,h4,h5,h7,h8,hz,hc,hc6⟩:=hI;have hi9:i=0∨i=1∨i=2∨i=3∨i=4∨i=5∨i=6∨i=7∨i=8:=by omega
  rcases hi9 with rfl|rfl|rfl|rfl|rfl|rfl|rfl|rfl|rfl
  ·show RgL Tryz.prog _ ([⟨some 30,.mv (.tmp 8),none⟩]++rest) _ _ _
   rw[←hnt]
   refine RgL.fw (K:=fun σ'=>LeL σ' (⟨[(3,.ptr (.t 3 0) 0 0),(6,.ptr (.t 11 0) 0 0),(7,.ptr (.t 7 0) 0 0),(8,.sl 9 (E cS FS)),(9,.loc (.t 18 0) 0 cs.length),(30,.sl 9 (E cS FS)),(31,x31),(32,x32),(33,x33),(34,x34),(2,x2),(4,x4),(5,x5)],[(.t 18 0,.arr 1 (E cC cs) false),(.t 7 0,.var (cP s) true),(.t 11 0,sB l zz),(.t 3 0,.var cells false)]⟩:St)) (fun σ' a2 w2 S2 ρ2 κ2 hle hok2=>by
     rw[hnt];exact hk a2 w2 ⟨.sl 9 (E cS FS),x31,x32,x33,x34,x2,x4,x5,zz,cells,S2,ρ2,κ2,hok2.le hle,fun _=>rfl,fun h=>h1 (h.resolve_right (by decide)),fun h=>h2 (h.resolve_right (by decide)),fun h=>h3 (h.resolve_right (by decide)),fun h=>h4 (h.resolve_right (by decide)),fun h=>h5 (h.resolve_right (by decide)),fun h=>h7 (h.resolve_right (by decide)),fun h=>h8 (h.resolve_right (by decide)),fun h=>hz (fun h'=>h (.inl h')),fun h=>hc (fun h'=>h (.inl h')),fun h=>hc6 (h.resolve_right (by decide))⟩) [⟨some 30,.mv (.tmp 8),none⟩] _ a' w' S ρ κ ?_ hok
   simp -dsimp only[go_sem,cC,sB,cP]
   first|(simp[Vs.LeL,Vs.look,Vs.aB,cP,sB];done)|(refine⟨by omega,?_⟩;simp[Vs.LeL,Vs.look,Vs.aB,cP,sB];done)
  ·show RgL Tryz.prog _ ([⟨some 31,.load true 7 (.tmp 7),none⟩]++rest) _ _ _
   rw[←hnt]
   refine RgL.fw (K:=fun σ'=>LeL σ' (⟨[(3,.ptr (.t 3 0) 0 0),(6,.ptr (.t 11 0) 0 0),(7,.ptr (.t 7 0) 0 0),(8,.sl 9 (E cS FS)),(9,.loc (.t 18 0) 0 cs.length),(30,x30),(31,.agg (cP s)),(32,x32),(33,x33),(34,x34),(2,x2),(4,x4),(5,x5)],[(.t 18 0,.arr 1 (E cC cs) false),(.t 7 0,.var (cP s) true),(.t 11 0,sB l zz),(.t 3 0,.var cells false)]⟩:St)) (fun σ' a2 w2 S2 ρ2 κ2 hle hok2=>by
     rw[hnt];exact hk a2 w2 ⟨x30,.agg (cP s),x32,x33,x34,x2,x4,x5,zz,cells,S2,ρ2,κ2,hok2.le hle,fun h=>h0 (h.resolve_right (by decide)),fun _=>rfl,fun h=>h2 (h.resolve_right (by decide)),fun h=>h3 (h.resolve_right (by decide)),fun h=>h4 (h.resolve_right (by decide)),fun h=>h5 (h.resolve_right (by decide)),fun h=>h7 (h.resolve_right (by decide)),fun h=>h8 (h.resolve_right (by decide)),fun h=>hz (fun h'=>h (.inl h')),fun h=>hc (fun h'=>h (.inl h')),fun h=>hc6 (h.resolve_right (by decide))⟩) [⟨some 31,.load true 7 (.tmp 7),none⟩] _ a' w' S ρ κ ?_ hok
   simp -dsimp only[go_sem,cC,sB,cP]
   first|(simp[Vs.LeL,Vs.look,Vs.aB,cP,sB];done)|(refine⟨by omega,?_⟩;simp[Vs.LeL,Vs.look,Vs.aB,cP,sB];done)
  ·show RgL Tryz.prog _ ([⟨some 32,.mv (.tmp 9),none⟩]++rest) _ _ _
   rw[←hnt]
   refine RgL.fw (K:=fun σ'=>LeL σ' (⟨[(3,.ptr (.t 3 0) 0 0),(6,.ptr (.t 11 0) 0 0),(7,.ptr (.t 7 0) 0 0),(8,.sl 9 (E cS FS)),(9,.loc (.t 18 0) 0 cs.length),(30,x30),(31,x31),(32,.loc (.t 18 0) 0 cs.length),(33,x33),(34,x34),(2,x2),(4,x4),(5,x5)],[(.t 18 0,.arr 1 (E cC cs) false),(.t 7 0,.var (cP s) true),(.t 11 0,sB l zz),(.t 3 0,.var cells false)]⟩:St)) (fun σ' a2 w2 S2 ρ2 κ2 hle hok2=>by
     rw[hnt];exact hk a2 w2 ⟨x30,x31,.loc (.t 18 0) 0 cs.length,x33,x34,x2,x4,x5,zz,cells,S2,ρ2,κ2,hok2.le hle,fun h=>h0 (h.resolve_right (by decide)),fun h=>h1 (h.resolve_right (by decide)),fun _=>rfl,fun h=>h3 (h.resolve_right (by decide)),fun h=>h4 (h.resolve_right (by decide)),fun h=>h5 (h.resolve_right (by decide)),fun h=>h7 (h.resolve_right (by decide)),fun h=>h8 (h.resolve_right (by decide)),fun h=>hz (fun h'=>h (.inl h')),fun h=>hc (fun h'=>h (.inl h')),fun h=>hc6 (h.resolve_right (by decide))⟩) [⟨some 32,.mv (.tmp 9),none⟩] _ a' w' S ρ κ ?_ hok
   simp -dsimp only[go_sem,cC,sB,cP]
   first|(simp[Vs.LeL,Vs.look,Vs.aB,cP,sB];done)|(refine⟨by omega,?_⟩;simp[Vs.LeL,Vs.look,Vs.aB,cP,sB];done)
  ·show RgL Tryz.prog _ ([⟨some 33,.mv (.tmp 6),none⟩]++rest) _ _ _
   rw[←hnt]
   refine RgL.fw (K:=fun σ'=>LeL σ' (⟨[(3,.ptr (.t 3 0) 0 0),(6,.ptr (.t 11 0) 0 0),(7,.ptr (.t 7 0) 0 0),(8,.sl 9 (E cS FS)),(9,.loc (.t 18 0) 0 cs.length),(30,x30),(31,x31),(32,x32),(33,.ptr (.t 11 0) 0 0),(34,x34),(2,x2),(4,x4),(5,x5)],[(.t 18 0,.arr 1 (E cC cs) false),(.t 7 0,.var (cP s) true),(.t 11 0,sB l zz),(.t 3 0,.var cells false)]⟩:St)) (fun σ' a2 w2 S2 ρ2 κ2 hle hok2=>by
     rw[hnt];exact hk a2 w2 ⟨x30,x31,x32,.ptr (.t 11 0) 0 0,x34,x2,x4,x5,zz,cells,S2,ρ2,κ2,hok2.le hle,fun h=>h0 (h.resolve_right (by decide)),fun h=>h1 (h.resolve_right (by decide)),fun h=>h2 (h.resolve_right (by decide)),fun _=>rfl,fun h=>h4 (h.resolve_right (by decide)),fun h=>h5 (h.resolve_right (by decide)),fun h=>h7 (h.resolve_right (by decide)),fun h=>h8 (h.resolve_right (by decide)),fun h=>hz (fun h'=>h (.inl h')),fun h=>hc (fun h'=>h (.inl h')),fun h=>hc6 (h.resolve_right (by decide))⟩) [⟨some 33,.mv (.tmp 6),none⟩] _ a' w' S ρ κ ?_ hok
   simp -dsimp only[go_sem,cC,sB,cP]
   first|(simp[Vs.LeL,Vs.look,Vs.aB,cP,sB];done)|(refine⟨by omega,?_⟩;simp[Vs.LeL,Vs.look,Vs.aB,cP,sB];done)
  ·show RgL Tryz.prog _ ([⟨some 34,.call (.func F.aI) [(.tmp 33),(.const (.int .i64 (3)))] [0],none⟩]++rest) _ _ _
   rw[←hnt];have d3:=h3 (hdep 3 (by decide));subst d3;rw[hz hnd] at hok
   refine RgL.fw (K:=fun σ'=>LeL σ' (⟨[(3,.ptr (.t 3 0) 0 0),(6,.ptr (.t 11 0) 0 0),(7,.ptr (.t 7 0) 0 0),(8,.sl 9 (E cS FS)),(9,.loc (.t 18 0) 0 cs.length),(30,x30),(31,x31),(32,x32),(33,.ptr (.t 11 0) 0 0),(34,.v (.int .i64 n)),(2,x2),(4,x4),(5,x5)],[(.t 18 0,.arr 1 (E cC cs) false),(.t 7 0,.var (cP s) true),(.t 11 0,sB l z6),(.t 3 0,.var cells false)]⟩:St)) (fun σ' a2 w2 S2 ρ2 κ2 hle hok2=>by
     rw[hnt];exact hk a2 w2 ⟨x30,x31,x32,.ptr (.t 11 0) 0 0,.v (.int .i64 n),x2,x4,x5,z6,cells,S2,ρ2,κ2,hok2.le hle,fun h=>h0 (h.resolve_right (by decide)),fun h=>h1 (h.resolve_right (by decide)),fun h=>h2 (h.resolve_right (by decide)),fun _=>rfl,fun _=>rfl,fun h=>h5 (h.resolve_right (by decide)),fun h=>h7 (h.resolve_right (by decide)),fun h=>h8 (h.resolve_right (by decide)),fun h=>absurd (.inr rfl) h,fun h=>hc (fun h'=>h (.inl h')),fun h=>hc6 (h.resolve_right (by decide))⟩) [⟨some 34,.call (.func F.aI) [(.tmp 33),(.const (.int .i64 (3)))] [0],none⟩] _ a' w' S ρ κ ?_ hok
   simp -dsimp only[go_sem,cC,sB,cP];refine⟨rfl,aA.bor PK rfl ?_⟩;simp -dsimp only[go_sem,cC,sB,cP]
   first|(simp[Vs.LeL,Vs.look,Vs.aB,cP,sB];done)|(refine⟨by omega,?_⟩;simp[Vs.LeL,Vs.look,Vs.aB,cP,sB];done)
  ·show RgL Tryz.prog _ ([⟨some 2,.mv (.tmp 30),none⟩]++rest) _ _ _
   rw[←hnt];have d0:=h0 (hdep 0 (by decide));subst d0
   refine RgL.fw (K:=fun σ'=>LeL σ' (⟨[(3,.ptr (.t 3 0) 0 0),(6,.ptr (.t 11 0) 0 0),(7,.ptr (.t 7 0) 0 0),(8,.sl 9 (E cS FS)),(9,.loc (.t 18 0) 0 cs.length),(30,.sl 9 (E cS FS)),(31,x31),(32,x32),(33,x33),(34,x34),(2,.sl 9 (E cS FS)),(4,x4),(5,x5)],[(.t 18 0,.arr 1 (E cC cs) false),(.t 7 0,.var (cP s) true),(.t 11 0,sB l zz),(.t 3 0,.var cells false)]⟩:St)) (fun σ' a2 w2 S2 ρ2 κ2 hle hok2=>by
     rw[hnt];exact hk a2 w2 ⟨.sl 9 (E cS FS),x31,x32,x33,x34,.sl 9 (E cS FS),x4,x5,zz,cells,S2,ρ2,κ2,hok2.le hle,fun _=>rfl,fun h=>h1 (h.resolve_right (by decide)),fun h=>h2 (h.resolve_right (by decide)),fun h=>h3 (h.resolve_right (by decide)),fun h=>h4 (h.resolve_right (by decide)),fun _=>rfl,fun h=>h7 (h.resolve_right (by decide)),fun h=>h8 (h.resolve_right (by decide)),fun h=>hz (fun h'=>h (.inl h')),fun h=>hc (fun h'=>h (.inl h')),fun h=>hc6 (h.resolve_right (by decide))⟩) [⟨some 2,.mv (.tmp 30),none⟩] _ a' w' S ρ κ ?_ hok
   simp -dsimp only[go_sem,cC,sB,cP]
   first|(simp[Vs.LeL,Vs.look,Vs.aB,cP,sB];done)|(refine⟨by omega,?_⟩;simp[Vs.LeL,Vs.look,Vs.aB,cP,sB];done)
  ·show RgL Tryz.prog _ ([⟨none,.store 7 (.tmp 3) (.tmp 31),none⟩]++rest) _ _ _
   rw[←hnt];have d1:=h1 (hdep 1 (by decide));subst d1;obtain rfl:=hc hnd
   refine RgL.fw (K:=fun σ'=>LeL σ' (⟨[(3,.ptr (.t 3 0) 0 0),(6,.ptr (.t 11 0) 0 0),(7,.ptr (.t 7 0) 0 0),(8,.sl 9 (E cS FS)),(9,.loc (.t 18 0) 0 cs.length),(30,x30),(31,.agg (cP s)),(32,x32),(33,x33),(34,x34),(2,x2),(4,x4),(5,x5)],[(.t 18 0,.arr 1 (E cC cs) false),(.t 7 0,.var (cP s) true),(.t 11 0,sB l zz),(.t 3 0,.var (cP s) false)]⟩:St)) (fun σ' a2 w2 S2 ρ2 κ2 hle hok2=>by
     rw[hnt];exact hk a2 w2 ⟨x30,.agg (cP s),x32,x33,x34,x2,x4,x5,zz,(cP s),S2,ρ2,κ2,hok2.le hle,fun h=>h0 (h.resolve_right (by decide)),fun _=>rfl,fun h=>h2 (h.resolve_right (by decide)),fun h=>h3 (h.resolve_right (by decide)),fun h=>h4 (h.resolve_right (by decide)),fun h=>h5 (h.resolve_right (by decide)),fun h=>h7 (h.resolve_right (by decide)),fun h=>h8 (h.resolve_right (by decide)),fun h=>hz (fun h'=>h (.inl h')),fun h=>absurd (.inr rfl) h,fun _=>rfl⟩) [⟨none,.store 7 (.tmp 3) (.tmp 31),none⟩] _ a' w' S ρ κ ?_ hok
   simp -dsimp only[go_sem,cC,sB,cP]
   first|(simp[Vs.LeL,Vs.look,Vs.aB,cP,sB];done)|(refine⟨by omega,?_⟩;simp[Vs.LeL,Vs.look,Vs.aB,cP,sB];done)
  ·show RgL Tryz.prog _ ([⟨some 4,.mv (.tmp 32),none⟩]++rest) _ _ _
   rw[←hnt];have d2:=h2 (hdep 2 (by decide));subst d2
   refine RgL.fw (K:=fun σ'=>LeL σ' (⟨[(3,.ptr (.t 3 0) 0 0),(6,.ptr (.t 11 0) 0 0),(7,.ptr (.t 7 0) 0 0),(8,.sl 9 (E cS FS)),(9,.loc (.t 18 0) 0 cs.length),(30,x30),(31,x31),(32,.loc (.t 18 0) 0 cs.length),(33,x33),(34,x34),(2,x2),(4,.loc (.t 18 0) 0 cs.length),(5,x5)],[(.t 18 0,.arr 1 (E cC cs) false),(.t 7 0,.var (cP s) true),(.t 11 0,sB l zz),(.t 3 0,.var cells false)]⟩:St)) (fun σ' a2 w2 S2 ρ2 κ2 hle hok2=>by
     rw[hnt];exact hk a2 w2 ⟨x30,x31,.loc (.t 18 0) 0 cs.length,x33,x34,x2,.loc (.t 18 0) 0 cs.length,x5,zz,cells,S2,ρ2,κ2,hok2.le hle,fun h=>h0 (h.resolve_right (by decide)),fun h=>h1 (h.resolve_right (by decide)),fun _=>rfl,fun h=>h3 (h.resolve_right (by decide)),fun h=>h4 (h.resolve_right (by decide)),fun h=>h5 (h.resolve_right (by decide)),fun _=>rfl,fun h=>h8 (h.resolve_right (by decide)),fun h=>hz (fun h'=>h (.inl h')),fun h=>hc (fun h'=>h (.inl h')),fun h=>hc6 (h.resolve_right (by decide))⟩) [⟨some 4,.mv (.tmp 32),none⟩] _ a' w' S ρ κ ?_ hok
   simp -dsimp only[go_sem,cC,sB,cP]
   first|(simp[Vs.LeL,Vs.look,Vs.aB,cP,sB];done)|(refine⟨by omega,?_⟩;simp[Vs.LeL,Vs.look,Vs.aB,cP,sB];done)
  ·show RgL Tryz.prog _ ([⟨some 5,.mv (.tmp 34),none⟩]++rest) _ _ _
   rw[←hnt];have d4:=h4 (hdep 4 (by decide));subst d4
   refine RgL.fw (K:=fun σ'=>LeL σ' (⟨[(3,.ptr (.t 3 0) 0 0),(6,.ptr (.t 11 0) 0 0),(7,.ptr (.t 7 0) 0 0),(8,.sl 9 (E cS FS)),(9,.loc (.t 18 0) 0 cs.length),(30,x30),(31,x31),(32,x32),(33,x33),(34,.v (.int .i64 n)),(2,x2),(4,x4),(5,.v (.int .i64 n))],[(.t 18 0,.arr 1 (E cC cs) false),(.t 7 0,.var (cP s) true),(.t 11 0,sB l zz),(.t 3 0,.var cells false)]⟩:St)) (fun σ' a2 w2 S2 ρ2 κ2 hle hok2=>by
     rw[hnt];exact hk a2 w2 ⟨x30,x31,x32,x33,.v (.int .i64 n),x2,x4,.v (.int .i64 n),zz,cells,S2,ρ2,κ2,hok2.le hle,fun h=>h0 (h.resolve_right (by decide)),fun h=>h1 (h.resolve_right (by decide)),fun h=>h2 (h.resolve_right (by decide)),fun h=>h3 (h.resolve_right (by decide)),fun _=>rfl,fun h=>h5 (h.resolve_right (by decide)),fun h=>h7 (h.resolve_right (by decide)),fun _=>rfl,fun h=>hz (fun h'=>h (.inl h')),fun h=>hc (fun h'=>h (.inl h')),fun h=>hc6 (h.resolve_right (by decide))⟩) [⟨some 5,.mv (.tmp 34),none⟩] _ a' w' S ρ κ ?_ hok
   simp -dsimp only[go_sem,cC,sB,cP]
   first|(simp[Vs.LeL,Vs.look,Vs.aB,cP,sB];done)|(refine⟨by omega,?_⟩;simp[Vs.LeL,Vs.look,Vs.aB,cP,sB];done)
 ·obtain⟨x30,x31,x32,x33,x34,x2,x4,x5,zz,cells,S,ρ,κ,hok,h0,h1,h2,h3,h4,h5,h7,h8,hz,hc,hc6⟩:=hI;exact⟨x30,x31,x32,x33,x34,x2,x4,x5,zz,cells,S,ρ,κ,hok,fun q=>h0 ((h 0).1 q),fun q=>h1 ((h 1).1 q),fun q=>h2 ((h 2).1 q),fun q=>h3 ((h 3).1 q),fun q=>h4 ((h 4).1 q),fun q=>h5 ((h 5).1 q),fun q=>h7 ((h 7).1 q),fun q=>h8 ((h 8).1 q),fun q=>hz fun q'=>q ((h 4).2 q'),fun q=>hc fun q'=>q ((h 6).2 q'),fun q=>hc6 ((h 6).1 q)⟩
 ·exact⟨.junk,.junk,.junk,.junk,.junk,.junk,.junk,.junk,z,[.v (.int .i64 0),.v (.int .i64 0),.v (.string ⟨#[]⟩),.v (.int .i64 0),.v (.int .i64 0),.v (.int .i64 0),.v (.int .i64 0)],S,ρ,κ,OK.le (σ:=(⟨[(3,.ptr (.t 3 0) 0 0),(6,.ptr (.t 11 0) 0 0),(7,.ptr (.t 7 0) 0 0),(8,.sl 9 (E cS FS)),(9,.loc (.t 18 0) 0 cs.length)],[(.t 18 0,.arr 1 (E cC cs) false),(.t 7 0,.var (cP s) true),(.t 11 0,sB l z),(.t 3 0,.var [.v (.int .i64 0),.v (.int .i64 0),.v (.string ⟨#[]⟩),.v (.int .i64 0),.v (.int .i64 0),.v (.int .i64 0),.v (.int .i64 0)] false)]⟩:St)) (σ':=(⟨[(3,.ptr (.t 3 0) 0 0),(6,.ptr (.t 11 0) 0 0),(7,.ptr (.t 7 0) 0 0),(8,.sl 9 (E cS FS)),(9,.loc (.t 18 0) 0 cs.length),(30,.junk),(31,.junk),(32,.junk),(33,.junk),(34,.junk),(2,.junk),(4,.junk),(5,.junk)],[(.t 18 0,.arr 1 (E cC cs) false),(.t 7 0,.var (cP s) true),(.t 11 0,sB l z),(.t 3 0,.var [.v (.int .i64 0),.v (.int .i64 0),.v (.string ⟨#[]⟩),.v (.int .i64 0),.v (.int .i64 0),.v (.int .i64 0),.v (.int .i64 0)] false)]⟩:St)) (OK.ext hok (Ext.of_heap rfl rfl rfl)) (by simp[Vs.LeL,Vs.look,Vs.aB]),fun h=>h.elim,fun h=>h.elim,fun h=>h.elim,fun h=>h.elim,fun h=>h.elim,fun h=>h.elim,fun h=>h.elim,fun h=>h.elim,fun _=>rfl,fun _=>rfl,fun h=>h.elim⟩
 ·obtain⟨x30,x31,x32,x33,x34,x2,x4,x5,zz,cells,S,ρ,κ,hok,h0,h1,h2,h3,h4,h5,h7,h8,hz,hc,hc6⟩:=hI;obtain rfl:=h5 (by decide);obtain rfl:=h7 (by decide);obtain rfl:=h8 (by decide);obtain rfl:=hc6 (by decide);obtain rfl:L=[]:=by simpa using hL
  refine RgL.nil ?_;show Vs.At Tryz.prog Tryz.f5.ntmps (Vs.drI Tryz.prog 9 9 [(4,3),(5,0),(6,1),(7,2),(8,4)] [[]]) .ret _ a5 w5
  refine At.fw (aAX Tryz.mixed _ _ _ _) hok hnt (N:=fun _=>False) (E:=fun e σ=>match e with|.ret=>wQ Tryz.prog Tryz.f5.results.toList [] (.tup [.sl 9 (E cS FS),.agg (cP s),.sl 1 (E cC cs),.v (.int .i64 n)]) [] σ|.exit _=>False) ?_ (fun a w hg=>hg.no.elim) (fun j a w hg=>hg.no.elim) (fun a w hg=>⟨.inl rfl,hg⟩);rw[Cd.s_A2Sample_k.r];simp -dsimp only[go_sem,cC,sB,cP]
  first|exact⟨_,_,rfl,rfl⟩|(refine aO ?_;simp[cP,cC,Vs.E];done)
theorem a2T2 (l:List Int) (s:Spc) (FS:List Stp) (cs:List (List Int)) (n:Int) (z z6:Sr) (PK:Vs.Fn Tryz.prog F.aI [sB l z] [.ptr (.b 0) 0 0,.v (.int .i64 3)] (.v (.int .i64 n)) [some (sB l z6)]) {C:Ctx} (hnt:C.nt=Tryz.f5.ntmps) {a:Act}{w:World}{S:Nat→Prop}{ρ:Vs.Name→Option Nat}{κ:Vs.Name→Nat}
  (hok:OK C (⟨[(3,.ptr (.t 3 0) 0 0),(6,.ptr (.t 11 0) 0 0),(7,.ptr (.t 7 0) 0 0),(8,.sl 9 (E cS FS)),(9,.loc (.t 25 0) 0 cs.length)],[(.t 25 0,.arr 1 (E cC cs) false),(.t 7 0,.var (cP s) true),(.t 11 0,sB l z),(.t 3 0,.var [.v (.int .i64 0),.v (.int .i64 0),.v (.string ⟨#[]⟩),.v (.int .i64 0),.v (.int .i64 0),.v (.int .i64 0),.v (.int .i64 0)] false)]⟩:St).f a w S ρ κ):Vs.At Tryz.prog Tryz.f5.ntmps (Vs.drI Tryz.prog 9 9 [(4,3),(5,0),(6,1),(7,2),(8,4)] [[]]) (Vs.aGY 7 Cd.bV) (fun e a' w'=>(e=.ret∨e=.normal)∧dF C (wQ Tryz.prog Tryz.f5.results.toList [] (.tup [.sl 9 (E cS FS),.agg (cP s),.sl 1 (E cC cs),.v (.int .i64 n)]) []) a' w') a w:=by
 show Vs.At Tryz.prog Tryz.f5.ntmps (Vs.drI Tryz.prog 9 9 [(4,3),(5,0),(6,1),(7,2),(8,4)] [[]]) (.seq (.region [⟨some 30,.mv (.tmp 8),none⟩,⟨some 31,.load true 7 (.tmp 7),none⟩,⟨some 32,.mv (.tmp 9),none⟩,⟨some 33,.mv (.tmp 6),none⟩,⟨some 34,.call (.func F.aI) [(.tmp 33),(.const (.int .i64 (3)))] [0],none⟩,⟨some 2,.mv (.tmp 30),none⟩,⟨none,.store 7 (.tmp 3) (.tmp 31),none⟩,⟨some 4,.mv (.tmp 32),none⟩,⟨some 5,.mv (.tmp 34),none⟩] _ _) .ret) _ a w
 refine At.seq (At.rgJ Tryz.mixed (n0:=9) (n1:=9) (deps:=[(4,3),(5,0),(6,1),(7,2),(8,4)]) (OT:=[[]]) rfl (by decide) (fun Dn a' w'=>∃(x30 x31 x32 x33 x34 x2 x4 x5:AV) (zz:Sr) (cells:List AV) (S:Nat→Prop) (ρ:Vs.Name→Option Nat) (κ:Vs.Name→Nat),OK C (⟨[(3,.ptr (.t 3 0) 0 0),(6,.ptr (.t 11 0) 0 0),(7,.ptr (.t 7 0) 0 0),(8,.sl 9 (E cS FS)),(9,.loc (.t 25 0) 0 cs.length),(30,x30),(31,x31),(32,x32),(33,x33),(34,x34),(2,x2),(4,x4),(5,x5)],[(.t 25 0,.arr 1 (E cC cs) false),(.t 7 0,.var (cP s) true),(.t 11 0,sB l zz),(.t 3 0,.var cells false)]⟩:St).f a' w' S ρ κ∧(Dn 0→x30=.sl 9 (E cS FS))∧(Dn 1→x31=.agg (cP s))∧(Dn 2→x32=.loc (.t 25 0) 0 cs.length)∧(Dn 3→x33=.ptr (.t 11 0) 0 0)∧(Dn 4→x34=.v (.int .i64 n))∧(Dn 5→x2=.sl 9 (E cS FS))∧(Dn 7→x4=.loc (.t 25 0) 0 cs.length)∧(Dn 8→x5=.v (.int .i64 n))∧(¬Dn 4→zz=z)∧(¬Dn 6→cells=[.v (.int .i64 0),.v (.int .i64 0),.v (.string ⟨#[]⟩),.v (.int .i64 0),.v (.int .i64 0),.v (.int .i64 0),.v (.int .i64 0)])∧(Dn 6→cells=cP s)) (fun i Dn a' w' rest hi hnd hdep hI hk=>?_) (fun Dn D' a' w' h hI=>?_) ?_ (by decide) fun a5 w5 hI L hL=>?_)
 ·obtain⟨x30,x31,x32,x33,x34,x2,x4,x5,zz,cells,S,ρ,κ,hok,h0,h1,h2,h3,h4,h5,h7,h8,hz,hc,hc6⟩:=hI;have hi9:i=0∨i=1∨i=2∨i=3∨i=4∨i=5∨i=6∨i=7∨i=8:=by omega
  rcases hi9 with rfl|rfl|rfl|rfl|rfl|rfl|rfl|rfl|rfl
  ·show RgL Tryz.prog _ ([⟨some 30,.mv (.tmp 8),none⟩]++rest) _ _ _
   rw[←hnt]
   refine RgL.fw (K:=fun σ'=>LeL σ' (⟨[(3,.ptr (.t 3 0) 0 0),(6,.ptr (.t 11 0) 0 0),(7,.ptr (.t 7 0) 0 0),(8,.sl 9 (E cS FS)),(9,.loc (.t 25 0) 0 cs.length),(30,.sl 9 (E cS FS)),(31,x31),(32,x32),(33,x33),(34,x34),(2,x2),(4,x4),(5,x5)],[(.t 25 0,.arr 1 (E cC cs) false),(.t 7 0,.var (cP s) true),(.t 11 0,sB l zz),(.t 3 0,.var cells false)]⟩:St)) (fun σ' a2 w2 S2 ρ2 κ2 hle hok2=>by
     rw[hnt];exact hk a2 w2 ⟨.sl 9 (E cS FS),x31,x32,x33,x34,x2,x4,x5,zz,cells,S2,ρ2,κ2,hok2.le hle,fun _=>rfl,fun h=>h1 (h.resolve_right (by decide)),fun h=>h2 (h.resolve_right (by decide)),fun h=>h3 (h.resolve_right (by decide)),fun h=>h4 (h.resolve_right (by decide)),fun h=>h5 (h.resolve_right (by decide)),fun h=>h7 (h.resolve_right (by decide)),fun h=>h8 (h.resolve_right (by decide)),fun h=>hz (fun h'=>h (.inl h')),fun h=>hc (fun h'=>h (.inl h')),fun h=>hc6 (h.resolve_right (by decide))⟩) [⟨some 30,.mv (.tmp 8),none⟩] _ a' w' S ρ κ ?_ hok
   simp -dsimp only[go_sem,cC,sB,cP]
   first|(simp[Vs.LeL,Vs.look,Vs.aB,cP,sB];done)|(refine⟨by omega,?_⟩;simp[Vs.LeL,Vs.look,Vs.aB,cP,sB];done)
  ·show RgL Tryz.prog _ ([⟨some 31,.load true 7 (.tmp 7),none⟩]++rest) _ _ _
   rw[←hnt]
   refine RgL.fw (K:=fun σ'=>LeL σ' (⟨[(3,.ptr (.t 3 0) 0 0),(6,.ptr (.t 11 0) 0 0),(7,.ptr (.t 7 0) 0 0),(8,.sl 9 (E cS FS)),(9,.loc (.t 25 0) 0 cs.length),(30,x30),(31,.agg (cP s)),(32,x32),(33,x33),(34,x34),(2,x2),(4,x4),(5,x5)],[(.t 25 0,.arr 1 (E cC cs) false),(.t 7 0,.var (cP s) true),(.t 11 0,sB l zz),(.t 3 0,.var cells false)]⟩:St)) (fun σ' a2 w2 S2 ρ2 κ2 hle hok2=>by
     rw[hnt];exact hk a2 w2 ⟨x30,.agg (cP s),x32,x33,x34,x2,x4,x5,zz,cells,S2,ρ2,κ2,hok2.le hle,fun h=>h0 (h.resolve_right (by decide)),fun _=>rfl,fun h=>h2 (h.resolve_right (by decide)),fun h=>h3 (h.resolve_right (by decide)),fun h=>h4 (h.resolve_right (by decide)),fun h=>h5 (h.resolve_right (by decide)),fun h=>h7 (h.resolve_right (by decide)),fun h=>h8 (h.resolve_right (by decide)),fun h=>hz (fun h'=>h (.inl h')),fun h=>hc (fun h'=>h (.inl h')),fun h=>hc6 (h.resolve_right (by decide))⟩) [⟨some 31,.load true 7 (.tmp 7),none⟩] _ a' w' S ρ κ ?_ hok
   simp -dsimp only[go_sem,cC,sB,cP]
   first|(simp[Vs.LeL,Vs.look,Vs.aB,cP,sB];done)|(refine⟨by omega,?_⟩;simp[Vs.LeL,Vs.look,Vs.aB,cP,sB];done)
  ·show RgL Tryz.prog _ ([⟨some 32,.mv (.tmp 9),none⟩]++rest) _ _ _
   rw[←hnt]
   refine RgL.fw (K:=fun σ'=>LeL σ' (⟨[(3,.ptr (.t 3 0) 0 0),(6,.ptr (.t 11 0) 0 0),(7,.ptr (.t 7 0) 0 0),(8,.sl 9 (E cS FS)),(9,.loc (.t 25 0) 0 cs.length),(30,x30),(31,x31),(32,.loc (.t 25 0) 0 cs.length),(33,x33),(34,x34),(2,x2),(4,x4),(5,x5)],[(.t 25 0,.arr 1 (E cC cs) false),(.t 7 0,.var (cP s) true),(.t 11 0,sB l zz),(.t 3 0,.var cells false)]⟩:St)) (fun σ' a2 w2 S2 ρ2 κ2 hle hok2=>by
     rw[hnt];exact hk a2 w2 ⟨x30,x31,.loc (.t 25 0) 0 cs.length,x33,x34,x2,x4,x5,zz,cells,S2,ρ2,κ2,hok2.le hle,fun h=>h0 (h.resolve_right (by decide)),fun h=>h1 (h.resolve_right (by decide)),fun _=>rfl,fun h=>h3 (h.resolve_right (by decide)),fun h=>h4 (h.resolve_right (by decide)),fun h=>h5 (h.resolve_right (by decide)),fun h=>h7 (h.resolve_right (by decide)),fun h=>h8 (h.resolve_right (by decide)),fun h=>hz (fun h'=>h (.inl h')),fun h=>hc (fun h'=>h (.inl h')),fun h=>hc6 (h.resolve_right (by decide))⟩) [⟨some 32,.mv (.tmp 9),none⟩] _ a' w' S ρ κ ?_ hok
   simp -dsimp only[go_sem,cC,sB,cP]
   first|(simp[Vs.LeL,Vs.look,Vs.aB,cP,sB];done)|(refine⟨by omega,?_⟩;simp[Vs.LeL,Vs.look,Vs.aB,cP,sB];done)
  ·show RgL Tryz.prog _ ([⟨some 33,.mv (.tmp 6),none⟩]++rest) _ _ _
   rw[←hnt]
   refine RgL.fw (K:=fun σ'=>LeL σ' (⟨[(3,.ptr (.t 3 0) 0 0),(6,.ptr (.t 11 0) 0 0),(7,.ptr (.t 7 0) 0 0),(8,.sl 9 (E cS FS)),(9,.loc (.t 25 0) 0 cs.length),(30,x30),(31,x31),(32,x32),(33,.ptr (.t 11 0) 0 0),(34,x34),(2,x2),(4,x4),(5,x5)],[(.t 25 0,.arr 1 (E cC cs) false),(.t 7 0,.var (cP s) true),(.t 11 0,sB l zz),(.t 3 0,.var cells false)]⟩:St)) (fun σ' a2 w2 S2 ρ2 κ2 hle hok2=>by
     rw[hnt];exact hk a2 w2 ⟨x30,x31,x32,.ptr (.t 11 0) 0 0,x34,x2,x4,x5,zz,cells,S2,ρ2,κ2,hok2.le hle,fun h=>h0 (h.resolve_right (by decide)),fun h=>h1 (h.resolve_right (by decide)),fun h=>h2 (h.resolve_right (by decide)),fun _=>rfl,fun h=>h4 (h.resolve_right (by decide)),fun h=>h5 (h.resolve_right (by decide)),fun h=>h7 (h.resolve_right (by decide)),fun h=>h8 (h.resolve_right (by decide)),fun h=>hz (fun h'=>h (.inl h')),fun h=>hc (fun h'=>h (.inl h')),fun h=>hc6 (h.resolve_right (by decide))⟩) [⟨some 33,.mv (.tmp 6),none⟩] _ a' w' S ρ κ ?_ hok
   simp -dsimp only[go_sem,cC,sB,cP]
   first|(simp[Vs.LeL,Vs.look,Vs.aB,cP,sB];done)|(refine⟨by omega,?_⟩;simp[Vs.LeL,Vs.look,Vs.aB,cP,sB];done)
  ·show RgL Tryz.prog _ ([⟨some 34,.call (.func F.aI) [(.tmp 33),(.const (.int .i64 (3)))] [0],none⟩]++rest) _ _ _
   rw[←hnt];have d3:=h3 (hdep 3 (by decide));subst d3;rw[hz hnd] at hok
   refine RgL.fw (K:=fun σ'=>LeL σ' (⟨[(3,.ptr (.t 3 0) 0 0),(6,.ptr (.t 11 0) 0 0),(7,.ptr (.t 7 0) 0 0),(8,.sl 9 (E cS FS)),(9,.loc (.t 25 0) 0 cs.length),(30,x30),(31,x31),(32,x32),(33,.ptr (.t 11 0) 0 0),(34,.v (.int .i64 n)),(2,x2),(4,x4),(5,x5)],[(.t 25 0,.arr 1 (E cC cs) false),(.t 7 0,.var (cP s) true),(.t 11 0,sB l z6),(.t 3 0,.var cells false)]⟩:St)) (fun σ' a2 w2 S2 ρ2 κ2 hle hok2=>by
     rw[hnt];exact hk a2 w2 ⟨x30,x31,x32,.ptr (.t 11 0) 0 0,.v (.int .i64 n),x2,x4,x5,z6,cells,S2,ρ2,κ2,hok2.le hle,fun h=>h0 (h.resolve_right (by decide)),fun h=>h1 (h.resolve_right (by decide)),fun h=>h2 (h.resolve_right (by decide)),fun _=>rfl,fun _=>rfl,fun h=>h5 (h.resolve_right (by decide)),fun h=>h7 (h.resolve_right (by decide)),fun h=>h8 (h.resolve_right (by decide)),fun h=>absurd (.inr rfl) h,fun h=>hc (fun h'=>h (.inl h')),fun h=>hc6 (h.resolve_right (by decide))⟩) [⟨some 34,.call (.func F.aI) [(.tmp 33),(.const (.int .i64 (3)))] [0],none⟩] _ a' w' S ρ κ ?_ hok
   simp -dsimp only[go_sem,cC,sB,cP];refine⟨rfl,aA.bor PK rfl ?_⟩;simp -dsimp only[go_sem,cC,sB,cP]
   first|(simp[Vs.LeL,Vs.look,Vs.aB,cP,sB];done)|(refine⟨by omega,?_⟩;simp[Vs.LeL,Vs.look,Vs.aB,cP,sB];done)
  ·show RgL Tryz.prog _ ([⟨some 2,.mv (.tmp 30),none⟩]++rest) _ _ _
   rw[←hnt];have d0:=h0 (hdep 0 (by decide));subst d0
   refine RgL.fw (K:=fun σ'=>LeL σ' (⟨[(3,.ptr (.t 3 0) 0 0),(6,.ptr (.t 11 0) 0 0),(7,.ptr (.t 7 0) 0 0),(8,.sl 9 (E cS FS)),(9,.loc (.t 25 0) 0 cs.length),(30,.sl 9 (E cS FS)),(31,x31),(32,x32),(33,x33),(34,x34),(2,.sl 9 (E cS FS)),(4,x4),(5,x5)],[(.t 25 0,.arr 1 (E cC cs) false),(.t 7 0,.var (cP s) true),(.t 11 0,sB l zz),(.t 3 0,.var cells false)]⟩:St)) (fun σ' a2 w2 S2 ρ2 κ2 hle hok2=>by
     rw[hnt];exact hk a2 w2 ⟨.sl 9 (E cS FS),x31,x32,x33,x34,.sl 9 (E cS FS),x4,x5,zz,cells,S2,ρ2,κ2,hok2.le hle,fun _=>rfl,fun h=>h1 (h.resolve_right (by decide)),fun h=>h2 (h.resolve_right (by decide)),fun h=>h3 (h.resolve_right (by decide)),fun h=>h4 (h.resolve_right (by decide)),fun _=>rfl,fun h=>h7 (h.resolve_right (by decide)),fun h=>h8 (h.resolve_right (by decide)),fun h=>hz (fun h'=>h (.inl h')),fun h=>hc (fun h'=>h (.inl h')),fun h=>hc6 (h.resolve_right (by decide))⟩) [⟨some 2,.mv (.tmp 30),none⟩] _ a' w' S ρ κ ?_ hok
   simp -dsimp only[go_sem,cC,sB,cP]
   first|(simp[Vs.LeL,Vs.look,Vs.aB,cP,sB];done)|(refine⟨by omega,?_⟩;simp[Vs.LeL,Vs.look,Vs.aB,cP,sB];done)
  ·show RgL Tryz.prog _ ([⟨none,.store 7 (.tmp 3) (.tmp 31),none⟩]++rest) _ _ _
   rw[←hnt];have d1:=h1 (hdep 1 (by decide));subst d1;obtain rfl:=hc hnd
   refine RgL.fw (K:=fun σ'=>LeL σ' (⟨[(3,.ptr (.t 3 0) 0 0),(6,.ptr (.t 11 0) 0 0),(7,.ptr (.t 7 0) 0 0),(8,.sl 9 (E cS FS)),(9,.loc (.t 25 0) 0 cs.length),(30,x30),(31,.agg (cP s)),(32,x32),(33,x33),(34,x34),(2,x2),(4,x4),(5,x5)],[(.t 25 0,.arr 1 (E cC cs) false),(.t 7 0,.var (cP s) true),(.t 11 0,sB l zz),(.t 3 0,.var (cP s) false)]⟩:St)) (fun σ' a2 w2 S2 ρ2 κ2 hle hok2=>by
     rw[hnt];exact hk a2 w2 ⟨x30,.agg (cP s),x32,x33,x34,x2,x4,x5,zz,(cP s),S2,ρ2,κ2,hok2.le hle,fun h=>h0 (h.resolve_right (by decide)),fun _=>rfl,fun h=>h2 (h.resolve_right (by decide)),fun h=>h3 (h.resolve_right (by decide)),fun h=>h4 (h.resolve_right (by decide)),fun h=>h5 (h.resolve_right (by decide)),fun h=>h7 (h.resolve_right (by decide)),fun h=>h8 (h.resolve_right (by decide)),fun h=>hz (fun h'=>h (.inl h')),fun h=>absurd (.inr rfl) h,fun _=>rfl⟩) [⟨none,.store 7 (.tmp 3) (.tmp 31),none⟩] _ a' w' S ρ κ ?_ hok
   simp -dsimp only[go_sem,cC,sB,cP]
   first|(simp[Vs.LeL,Vs.look,Vs.aB,cP,sB];done)|(refine⟨by omega,?_⟩;simp[Vs.LeL,Vs.look,Vs.aB,cP,sB];done)
  ·show RgL Tryz.prog _ ([⟨some 4,.mv (.tmp 32),none⟩]++rest) _ _ _
   rw[←hnt];have d2:=h2 (hdep 2 (by decide));subst d2
   refine RgL.fw (K:=fun σ'=>LeL σ' (⟨[(3,.ptr (.t 3 0) 0 0),(6,.ptr (.t 11 0) 0 0),(7,.ptr (.t 7 0) 0 0),(8,.sl 9 (E cS FS)),(9,.loc (.t 25 0) 0 cs.length),(30,x30),(31,x31),(32,.loc (.t 25 0) 0 cs.length),(33,x33),(34,x34),(2,x2),(4,.loc (.t 25 0) 0 cs.length),(5,x5)],[(.t 25 0,.arr 1 (E cC cs) false),(.t 7 0,.var (cP s) true),(.t 11 0,sB l zz),(.t 3 0,.var cells false)]⟩:St)) (fun σ' a2 w2 S2 ρ2 κ2 hle hok2=>by
     rw[hnt];exact hk a2 w2 ⟨x30,x31,.loc (.t 25 0) 0 cs.length,x33,x34,x2,.loc (.t 25 0) 0 cs.length,x5,zz,cells,S2,ρ2,κ2,hok2.le hle,fun h=>h0 (h.resolve_right (by decide)),fun h=>h1 (h.resolve_right (by decide)),fun _=>rfl,fun h=>h3 (h.resolve_right (by decide)),fun h=>h4 (h.resolve_right (by decide)),fun h=>h5 (h.resolve_right (by decide)),fun _=>rfl,fun h=>h8 (h.resolve_right (by decide)),fun h=>hz (fun h'=>h (.inl h')),fun h=>hc (fun h'=>h (.inl h')),fun h=>hc6 (h.resolve_right (by decide))⟩) [⟨some 4,.mv (.tmp 32),none⟩] _ a' w' S ρ κ ?_ hok
   simp -dsimp only[go_sem,cC,sB,cP]
   first|(simp[Vs.LeL,Vs.look,Vs.aB,cP,sB];done)|(refine⟨by omega,?_⟩;simp[Vs.LeL,Vs.look,Vs.aB,cP,sB];done)
  ·show RgL Tryz.prog _ ([⟨some 5,.mv (.tmp 34),none⟩]++rest) _ _ _
   rw[←hnt];have d4:=h4 (hdep 4 (by decide));subst d4
   refine RgL.fw (K:=fun σ'=>LeL σ' (⟨[(3,.ptr (.t 3 0) 0 0),(6,.ptr (.t 11 0) 0 0),(7,.ptr (.t 7 0) 0 0),(8,.sl 9 (E cS FS)),(9,.loc (.t 25 0) 0 cs.length),(30,x30),(31,x31),(32,x32),(33,x33),(34,.v (.int .i64 n)),(2,x2),(4,x4),(5,.v (.int .i64 n))],[(.t 25 0,.arr 1 (E cC cs) false),(.t 7 0,.var (cP s) true),(.t 11 0,sB l zz),(.t 3 0,.var cells false)]⟩:St)) (fun σ' a2 w2 S2 ρ2 κ2 hle hok2=>by
     rw[hnt];exact hk a2 w2 ⟨x30,x31,x32,x33,.v (.int .i64 n),x2,x4,.v (.int .i64 n),zz,cells,S2,ρ2,κ2,hok2.le hle,fun h=>h0 (h.resolve_right (by decide)),fun h=>h1 (h.resolve_right (by decide)),fun h=>h2 (h.resolve_right (by decide)),fun h=>h3 (h.resolve_right (by decide)),fun _=>rfl,fun h=>h5 (h.resolve_right (by decide)),fun h=>h7 (h.resolve_right (by decide)),fun _=>rfl,fun h=>hz (fun h'=>h (.inl h')),fun h=>hc (fun h'=>h (.inl h')),fun h=>hc6 (h.resolve_right (by decide))⟩) [⟨some 5,.mv (.tmp 34),none⟩] _ a' w' S ρ κ ?_ hok
   simp -dsimp only[go_sem,cC,sB,cP]
   first|(simp[Vs.LeL,Vs.look,Vs.aB,cP,sB];done)|(refine⟨by omega,?_⟩;simp[Vs.LeL,Vs.look,Vs.aB,cP,sB];done)
 ·obtain⟨x30,x31,x32,x33,x34,x2,x4,x5,zz,cells,S,ρ,κ,hok,h0,h1,h2,h3,h4,h5,h7,h8,hz,hc,hc6⟩:=hI;exact⟨x30,x31,x32,x33,x34,x2,x4,x5,zz,cells,S,ρ,κ,hok,fun q=>h0 ((h 0).1 q),fun q=>h1 ((h 1).1 q),fun q=>h2 ((h 2).1 q),fun q=>h3 ((h 3).1 q),fun q=>h4 ((h 4).1 q),fun q=>h5 ((h 5).1 q),fun q=>h7 ((h 7).1 q),fun q=>h8 ((h 8).1 q),fun q=>hz fun q'=>q ((h 4).2 q'),fun q=>hc fun q'=>q ((h 6).2 q'),fun q=>hc6 ((h 6).1 q)⟩
 ·exact⟨.junk,.junk,.junk,.junk,.junk,.junk,.junk,.junk,z,[.v (.int .i64 0),.v (.int .i64 0),.v (.string ⟨#[]⟩),.v (.int .i64 0),.v (.int .i64 0),.v (.int .i64 0),.v (.int .i64 0)],S,ρ,κ,OK.le (σ:=(⟨[(3,.ptr (.t 3 0) 0 0),(6,.ptr (.t 11 0) 0 0),(7,.ptr (.t 7 0) 0 0),(8,.sl 9 (E cS FS)),(9,.loc (.t 25 0) 0 cs.length)],[(.t 25 0,.arr 1 (E cC cs) false),(.t 7 0,.var (cP s) true),(.t 11 0,sB l z),(.t 3 0,.var [.v (.int .i64 0),.v (.int .i64 0),.v (.string ⟨#[]⟩),.v (.int .i64 0),.v (.int .i64 0),.v (.int .i64 0),.v (.int .i64 0)] false)]⟩:St)) (σ':=(⟨[(3,.ptr (.t 3 0) 0 0),(6,.ptr (.t 11 0) 0 0),(7,.ptr (.t 7 0) 0 0),(8,.sl 9 (E cS FS)),(9,.loc (.t 25 0) 0 cs.length),(30,.junk),(31,.junk),(32,.junk),(33,.junk),(34,.junk),(2,.junk),(4,.junk),(5,.junk)],[(.t 25 0,.arr 1 (E cC cs) false),(.t 7 0,.var (cP s) true),(.t 11 0,sB l z),(.t 3 0,.var [.v (.int .i64 0),.v (.int .i64 0),.v (.string ⟨#[]⟩),.v (.int .i64 0),.v (.int .i64 0),.v (.int .i64 0),.v (.int .i64 0)] false)]⟩:St)) (OK.ext hok (Ext.of_heap rfl rfl rfl)) (by simp[Vs.LeL,Vs.look,Vs.aB]),fun h=>h.elim,fun h=>h.elim,fun h=>h.elim,fun h=>h.elim,fun h=>h.elim,fun h=>h.elim,fun h=>h.elim,fun h=>h.elim,fun _=>rfl,fun _=>rfl,fun h=>h.elim⟩
 ·obtain⟨x30,x31,x32,x33,x34,x2,x4,x5,zz,cells,S,ρ,κ,hok,h0,h1,h2,h3,h4,h5,h7,h8,hz,hc,hc6⟩:=hI;obtain rfl:=h5 (by decide);obtain rfl:=h7 (by decide);obtain rfl:=h8 (by decide);obtain rfl:=hc6 (by decide);obtain rfl:L=[]:=by simpa using hL
  refine RgL.nil ?_;show Vs.At Tryz.prog Tryz.f5.ntmps (Vs.drI Tryz.prog 9 9 [(4,3),(5,0),(6,1),(7,2),(8,4)] [[]]) .ret _ a5 w5
  refine At.fw (aAX Tryz.mixed _ _ _ _) hok hnt (N:=fun _=>False) (E:=fun e σ=>match e with|.ret=>wQ Tryz.prog Tryz.f5.results.toList [] (.tup [.sl 9 (E cS FS),.agg (cP s),.sl 1 (E cC cs),.v (.int .i64 n)]) [] σ|.exit _=>False) ?_ (fun a w hg=>hg.no.elim) (fun j a w hg=>hg.no.elim) (fun a w hg=>⟨.inl rfl,hg⟩);rw[Cd.s_A2Sample_k.r];simp -dsimp only[go_sem,cC,sB,cP]
  first|exact⟨_,_,rfl,rfl⟩|(refine aO ?_;simp[cP,cC,Vs.E];done)
attribute [local go_sem] sB in
theorem aJY (l:List Int) (hl:byt l):∃fs s cs n,okZ fs∧sF fs 5=true∧gdS s∧(∀c,c∈cs→crd c)∧0<cs.length∧cs.length≤2∧0≤n∧n<3∧Fz F.bV [.sl 1 (E cU l)] (.tup [.sl 9 (E cS fs),.agg (cP s),.sl 1 (E cC cs),.v (.int .i64 n)]):=by
 obtain⟨s,z1,hs,p1,DS⟩:=aJw l ⟨0,0⟩ hl (by dsimp only;omega);dsimp only at p1;obtain⟨hv5,hx1,hff⟩:=aE8 hs;obtain⟨fs,z2,hfz,hf21,p2,DF⟩:=aK3 l z1 hl (by omega) s hs;obtain⟨c1,z3,hc1,p3,C1⟩:=aGN l z2 hl (by omega);have FR:=aI7 l;have FW:=aGL s;have LF:=aGM fs 5 (fun x hx=>Nat.le_trans (hfz x hx) (by omega)) (by omega);rw[show(fs.all (fun x=>dP x 5)&&decide ((fs.length:Int)≤20))=sF fs 5 from rfl] at LF;have P2:=one l z3 hl 2 (by omega);have q2:=bD l z3 2;obtain⟨b2,hb2⟩:∃b,(pkV l z3 2==0)=b:=⟨_,rfl⟩;rw[hb2] at P2;generalize pkS l z3 2=z4 at *
 obtain⟨g1,g2,g3⟩:=Cd.s_A2Sample_k.o;have h2:Tryz.f5.body.bind (bU Tryz.prog Tryz.f5.ntmps (Vs.drI Tryz.prog 9 9 [(4,3),(5,0),(6,1),(7,2),(8,4)] [[]]))=some Cd.bV.bare:=by kernel_rfl
 obtain⟨body,hb,hc⟩:=Option.bind_eq_some_iff.1 h2;have hz:(Tryz.f5.body.map (zB Tryz.f5.ntmps (Vs.drI Tryz.prog 9 9 [(4,3),(5,0),(6,1),(7,2),(8,4)] [[]])))=some true:=by kernel_rfl
 rw[hb] at hz;cases b2
 ·have PK:=pick l z4 hl 3 (by omega);have vn:=dI hl z4 (n:=3) (by omega);generalize pkV l z4 3=n at *
  generalize pkS l z4 3=z6 at *
  have hcc:[[AV.sl 1 (E cI c1)]]=E cC [c1]:=rfl;cases hv:sF fs 5
  ·rw[hv] at LF
   refine ⟨(gK s),s,[c1],n,aD6 hx1,hff,hs,(fun c hc=>by
         simp only[List.mem_cons,List.not_mem_nil,or_false] at hc;rcases hc with rfl
         exact hc1),by simp,by simp,vn.1,by omega,?_⟩
   refine Fn.of_at (dr:=(Vs.drI Tryz.prog 9 9 [(4,3),(5,0),(6,1),(7,2),(8,4)] [[]])) (ac:=Cd.bV) g1 hb (by simpa using g3) hc (by simpa using hz) (by rw[Cd.s_A2Sample_k.n];exact Nat.le_of_ble_eq_true rfl) (fun x hx=>by rw[List.mem_singleton.1 hx];rfl) fun C a w S ρ κ hnt hok=>?_;refine At.upto (aAX Tryz.mixed _ _ _ _) hnt (N:=fun σ'=>LeL σ' (⟨[(3,.ptr (.t 3 0) 0 0),(6,.ptr (.t 11 0) 0 0),(7,.ptr (.t 7 0) 0 0),(8,.sl 9 (E cS (gK s))),(9,.loc (.t 18 0) 0 1)],[(.t 18 0,.arr 1 (E cC [c1]) false),(.t 7 0,.var (cP s) true),(.t 11 0,sB l z4),(.t 3 0,.var [.v (.int .i64 0),.v (.int .i64 0),.v (.string ⟨#[]⟩),.v (.int .i64 0),.v (.int .i64 0),.v (.int .i64 0),.v (.int .i64 0)] false)]⟩:St)) (E:=fun _ _=>False) (fun i a w hg=>hg.no.elim) (fun a w hg=>hg.no.elim) 7 _ hok ?_ fun a w hg=>?_
   ·unfold Cd.bV
    repeat' first|simp -dsimp only[go_sem,cC,cP,cC,hcc]|apply Br.mk<;>intro h<;>try simp -dsimp only[h]|refine aA.bor (by first|exact DS|exact DF|exact C1|exact P2) rfl ?_|refine aA.own (by first|exact FR) rfl ?_|refine aA.c (by first|exact LF|exact FW) ?_|refine aA.borL (by first|exact DF) rfl ?_|refine aC ?_|fail
    all_goals first|(simp[Vs.LeL,Vs.look,Vs.aB,cP,sB,cC,Vs.E];done)
   obtain⟨S5,ρ5,κ5,hok5⟩:=hg.le;exact a2T1 l s (gK s) [c1] n z4 z6 PK hnt hok5
  ·rw[hv] at LF
   refine ⟨fs,s,[c1],n,hfz,hv,hs,(fun c hc=>by
         simp only[List.mem_cons,List.not_mem_nil,or_false] at hc;rcases hc with rfl
         exact hc1),by simp,by simp,vn.1,by omega,?_⟩
   refine Fn.of_at (dr:=(Vs.drI Tryz.prog 9 9 [(4,3),(5,0),(6,1),(7,2),(8,4)] [[]])) (ac:=Cd.bV) g1 hb (by simpa using g3) hc (by simpa using hz) (by rw[Cd.s_A2Sample_k.n];exact Nat.le_of_ble_eq_true rfl) (fun x hx=>by rw[List.mem_singleton.1 hx];rfl) fun C a w S ρ κ hnt hok=>?_;refine At.upto (aAX Tryz.mixed _ _ _ _) hnt (N:=fun σ'=>LeL σ' (⟨[(3,.ptr (.t 3 0) 0 0),(6,.ptr (.t 11 0) 0 0),(7,.ptr (.t 7 0) 0 0),(8,.sl 9 (E cS fs)),(9,.loc (.t 18 0) 0 1)],[(.t 18 0,.arr 1 (E cC [c1]) false),(.t 7 0,.var (cP s) true),(.t 11 0,sB l z4),(.t 3 0,.var [.v (.int .i64 0),.v (.int .i64 0),.v (.string ⟨#[]⟩),.v (.int .i64 0),.v (.int .i64 0),.v (.int .i64 0),.v (.int .i64 0)] false)]⟩:St)) (E:=fun _ _=>False) (fun i a w hg=>hg.no.elim) (fun a w hg=>hg.no.elim) 7 _ hok ?_ fun a w hg=>?_
   ·unfold Cd.bV
    repeat' first|simp -dsimp only[go_sem,cC,cP,cC,hcc]|apply Br.mk<;>intro h<;>try simp -dsimp only[h]|refine aA.bor (by first|exact DS|exact DF|exact C1|exact P2) rfl ?_|refine aA.own (by first|exact FR) rfl ?_|refine aA.c (by first|exact LF|exact FW) ?_|refine aA.borL (by first|exact DF) rfl ?_|refine aC ?_|fail
    all_goals first|(simp[Vs.LeL,Vs.look,Vs.aB,cP,sB,cC,Vs.E];done)
   obtain⟨S5,ρ5,κ5,hok5⟩:=hg.le;exact a2T1 l s fs [c1] n z4 z6 PK hnt hok5
 ·obtain⟨c2,z5,hc2,p5,C2⟩:=aGN l z4 hl (by omega);have PK:=pick l z5 hl 3 (by omega);have vn:=dI hl z5 (n:=3) (by omega);generalize pkV l z5 3=n at *
  generalize pkS l z5 3=z6 at *
  have hcc:[[AV.sl 1 (E cI c1)],[AV.sl 1 (E cI c2)]]=E cC [c1,c2]:=rfl;have hcd:[[AV.sl 1 (E cI c1)]]++[[AV.sl 1 (E cI c2)]]=E cC [c1,c2]:=rfl;have hce:[AV.sl 1 (E cI c1)]::[[AV.sl 1 (E cI c2)]]=E cC [c1,c2]:=rfl;cases hv:sF fs 5
  ·rw[hv] at LF
   refine ⟨(gK s),s,[c1,c2],n,aD6 hx1,hff,hs,(fun c hc=>by
         simp only[List.mem_cons,List.not_mem_nil,or_false] at hc;rcases hc with rfl|rfl
         · exact hc1
         · exact hc2),by simp,by simp,vn.1,by omega,?_⟩
   refine Fn.of_at (dr:=(Vs.drI Tryz.prog 9 9 [(4,3),(5,0),(6,1),(7,2),(8,4)] [[]])) (ac:=Cd.bV) g1 hb (by simpa using g3) hc (by simpa using hz) (by rw[Cd.s_A2Sample_k.n];exact Nat.le_of_ble_eq_true rfl) (fun x hx=>by rw[List.mem_singleton.1 hx];rfl) fun C a w S ρ κ hnt hok=>?_;refine At.upto (aAX Tryz.mixed _ _ _ _) hnt (N:=fun σ'=>LeL σ' (⟨[(3,.ptr (.t 3 0) 0 0),(6,.ptr (.t 11 0) 0 0),(7,.ptr (.t 7 0) 0 0),(8,.sl 9 (E cS (gK s))),(9,.loc (.t 25 0) 0 2)],[(.t 25 0,.arr 1 (E cC [c1,c2]) false),(.t 7 0,.var (cP s) true),(.t 11 0,sB l z5),(.t 3 0,.var [.v (.int .i64 0),.v (.int .i64 0),.v (.string ⟨#[]⟩),.v (.int .i64 0),.v (.int .i64 0),.v (.int .i64 0),.v (.int .i64 0)] false)]⟩:St)) (E:=fun _ _=>False) (fun i a w hg=>hg.no.elim) (fun a w hg=>hg.no.elim) 7 _ hok ?_ fun a w hg=>?_
   ·unfold Cd.bV
    repeat' first|simp -dsimp only[go_sem,cC,cP,cC,hcc]|apply Br.mk<;>intro h<;>try simp -dsimp only[h]|refine aA.bor (by first|exact DS|exact DF|exact C1|exact P2|exact C2) rfl ?_|refine aA.own (by first|exact FR) rfl ?_|refine aA.c (by first|exact LF|exact FW) ?_|refine aA.borL (by first|exact DF) rfl ?_|refine aC ?_|fail
    all_goals first|(simp[Vs.LeL,Vs.look,Vs.aB,cP,sB,cC,Vs.E];done)
   obtain⟨S5,ρ5,κ5,hok5⟩:=hg.le;exact a2T2 l s (gK s) [c1,c2] n z5 z6 PK hnt hok5
  ·rw[hv] at LF
   refine ⟨fs,s,[c1,c2],n,hfz,hv,hs,(fun c hc=>by
         simp only[List.mem_cons,List.not_mem_nil,or_false] at hc;rcases hc with rfl|rfl
         · exact hc1
         · exact hc2),by simp,by simp,vn.1,by omega,?_⟩
   refine Fn.of_at (dr:=(Vs.drI Tryz.prog 9 9 [(4,3),(5,0),(6,1),(7,2),(8,4)] [[]])) (ac:=Cd.bV) g1 hb (by simpa using g3) hc (by simpa using hz) (by rw[Cd.s_A2Sample_k.n];exact Nat.le_of_ble_eq_true rfl) (fun x hx=>by rw[List.mem_singleton.1 hx];rfl) fun C a w S ρ κ hnt hok=>?_;refine At.upto (aAX Tryz.mixed _ _ _ _) hnt (N:=fun σ'=>LeL σ' (⟨[(3,.ptr (.t 3 0) 0 0),(6,.ptr (.t 11 0) 0 0),(7,.ptr (.t 7 0) 0 0),(8,.sl 9 (E cS fs)),(9,.loc (.t 25 0) 0 2)],[(.t 25 0,.arr 1 (E cC [c1,c2]) false),(.t 7 0,.var (cP s) true),(.t 11 0,sB l z5),(.t 3 0,.var [.v (.int .i64 0),.v (.int .i64 0),.v (.string ⟨#[]⟩),.v (.int .i64 0),.v (.int .i64 0),.v (.int .i64 0),.v (.int .i64 0)] false)]⟩:St)) (E:=fun _ _=>False) (fun i a w hg=>hg.no.elim) (fun a w hg=>hg.no.elim) 7 _ hok ?_ fun a w hg=>?_
   ·unfold Cd.bV
    repeat' first|simp -dsimp only[go_sem,cC,cP,cC,hcc]|apply Br.mk<;>intro h<;>try simp -dsimp only[h]|refine aA.bor (by first|exact DS|exact DF|exact C1|exact P2|exact C2) rfl ?_|refine aA.own (by first|exact FR) rfl ?_|refine aA.c (by first|exact LF|exact FW) ?_|refine aA.borL (by first|exact DF) rfl ?_|refine aC ?_|fail
    all_goals first|(simp[Vs.LeL,Vs.look,Vs.aB,cP,sB,cC,Vs.E];done)
   obtain⟨S5,ρ5,κ5,hok5⟩:=hg.le;exact a2T2 l s fs [c1,c2] n z5 z6 PK hnt hok5
theorem aLg (l:List Int):Fz F.o5 [.sl 1 (E cU l),.v (.slice none 0 0)] (.v (.bool (decide ((l.length:Int)>3000)))):=by
 have h:=aMr l [];rw[show(decide ((l.length:Int)>3000)||decide ((([]:List Int).length:Int)>3000))=decide ((l.length:Int)>3000) by simp] at h;refine aAz (args':=[.sl 1 (E cU l),.sl 1 (E cU [])]) rfl (fun S w j v hj ρ κ hh hv=>?_) h
 match j,hj with
 |0,_=>exact hv
 |1,_=>cases hv with|clo h=>exact .clo (vC h)
theorem wid_5 {cs:List (List Int)} (h:okD 5 cs) (h0:0<cs.length):aT cs=5:=by
 unfold aT;rw[if_neg (by omega)];have:=h.2 (cs.getD 0 []) (by rw[show cs.getD 0 []=cs[0] by simp[List.getD,h0]];exact List.getElem_mem _);omega
theorem aH4 {cs:List (List Int)} (h:okD 5 cs) (h0:0<cs.length) (i q:Nat):(5:Int)≤aT (atD cs i q):=by
 unfold aT;split
 ·omega
 ·rename_i hn;have hp:0<(atD cs i q).length:=by omega
  have hm:(atD cs i q).getD 0 []∈cs:=(aEg cs h0 i q).2 _ (by rw[show(atD cs i q).getD 0 []=(atD cs i q)[0] by simp[List.getD,hp]];exact List.getElem_mem _);have:=h.2 _ hm;omega
end Go.Proofs.YthbnjmgjhonfbaaGreat
