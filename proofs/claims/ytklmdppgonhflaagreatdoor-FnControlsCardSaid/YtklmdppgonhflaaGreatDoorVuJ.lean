/- Numbers read from their decimal forms, and words between spaces: plain laws. -/
import Derived.Lib.ParseIntB
import Derived.Lib.SplitLaws
import Derived.Lib.ItoaNum
set_option linter.all false
set_option maxHeartbeats 8000000
namespace Go.Vs
open Go
section
def mP (b:Nat):Bool:=decide ((b:Int)≥48)&&decide ((b:Int)<=57)
def pG (l:List UInt8):Nat:=l.foldl (λn b=>10*n+(b.toNat-48)) 0
def rdL (l t:List UInt8) (neg:Bool):Int×Bool:=
 if t.length<1∨18<t.length then(0,false)
 else if t.all (λb=>mP b.toNat) then
  (if Lib.itoa (if neg then -(pG t:Int) else(pG t:Int))==l then((if neg then -(pG t:Int) else(pG t:Int)),true) else(0,false))
 else(0,false)
def aA6 (l:List UInt8):Int×Bool:=if l.getD 0 0=45∧0<l.length then rdL l (l.drop 1) true else rdL l l false
def aDh (l:List UInt8):Int×Bool:=match Lib.parseIntB 64 l with
 |.ok v=>if Lib.itoa v==l&&decide ((Lib.trimPrefix l [45]).length<=18) then(v,true) else(0,false)
 |_=>(0,false)
theorem vT {b:Nat}:mP b=true↔48<=b∧b<=57:=by
 simp only[mP,Bool.and_eq_true,decide_eq_true_eq];omega
theorem aDN:∀(t:List UInt8) (F k:Nat),t.all (λb=>mP b.toNat)=true->F<10 ^ k->t.foldl (λn b=>10*n+(b.toNat-48)) F<10 ^ (k+t.length)
 | [],F,k,_,h=>by simpa using h
 | c::r,F,k,hd,h=>by
  simp only[List.all_cons,Bool.and_eq_true] at hd;obtain⟨G,h2⟩:=hd;have G:=vT.1 G;have:=aDN r (10*F+(c.toNat-48)) (k+1) h2 (by rw[Nat.pow_succ];omega);rw[List.foldl_cons,List.length_cons,show k+(r.length+1)=k+1+r.length by omega];exact this
theorem wW {t:List UInt8} (F:t.all (λb=>mP b.toNat)=true) (G:t.length<=18):pG t<10 ^ 18:=by
 have:=aDN t 0 0 F (by decide);rw[Nat.zero_add] at this;exact Nat.lt_of_lt_of_le this (Nat.pow_le_pow_right (by decide) G)
theorem aKW:∀(t:List UInt8) (F k:Nat),t.all (λb=>mP b.toNat)=true->F<10 ^ k->k+t.length<=18->Lib.parseUintM (2 ^ 64-1) F t=.ok (t.foldl (λn b=>10*n+(b.toNat-48)) F)
 | [],F,k,_,_,_=>rfl
 | c::r,F,k,hd,h,hk=>by
  simp only[List.all_cons,Bool.and_eq_true] at hd;obtain⟨G,h2⟩:=hd;have G:=vT.1 G;rw[List.length_cons] at hk;have H:10 ^ k<=10 ^ 17:=Nat.pow_le_pow_right (by decide) (by omega);rw[Lib.parseUintM,if_pos G,if_neg (by omega),if_neg (by omega),Nat.mul_comm F 10];exact aKW r (10*F+(c.toNat-48)) (k+1) h2 (by rw[Nat.pow_succ];omega) (by omega)
theorem aIj {t:List UInt8} (G:t.all (λb=>mP b.toNat)=true) (F:1<=t.length) (H:t.length<=18):Lib.parseUintB 64 t=.ok (pG t):=by
 unfold Lib.parseUintB;rw[if_neg (by intro e;rw[e] at F;simp at F)];exact aKW t 0 0 G (by decide) (by omega)
theorem aBu:∀n:Nat,(Lib.decDigits n).all (λb=>mP b.toNat)=true∧1<=(Lib.decDigits n).length:=by
 intro n
 induction n using Nat.strongRecOn with
 | _ n ih =>
  rw[Lib.decDigits]
  have F:∀m:Nat,m<10->mP (UInt8.ofNat (48+m)).toNat=true:=λm H=>by
   rw[vT,UInt8.toNat_ofNat'];omega
  split
  .rename_i h;exact⟨by simp only[List.all_cons,List.all_nil,Bool.and_true];exact F n h,by simp⟩
  .rename_i h;obtain⟨G,h2⟩:=ih (n/10) (by omega);refine⟨?_,by simp⟩;rw[List.all_append,G,Bool.true_and];simp only[List.all_cons,List.all_nil,Bool.and_true];exact F (n%10) (by omega)
theorem aBT (v:Int):(∃t,Lib.itoa v=45::t∧t.all (λb=>mP b.toNat)=true∧1<=t.length)∨((Lib.itoa v).all (λb=>mP b.toNat)=true∧1<=(Lib.itoa v).length):=by
 unfold Lib.itoa;split
 .exact .inl ⟨_,rfl,aBu _⟩
 .exact .inr (aBu _)
theorem aFK (r:List UInt8):Lib.trimPrefix (45::r) [45]=r:=by simp[Lib.trimPrefix,Lib.hasPrefix,List.isPrefixOf]
theorem aFJ {c:UInt8}{r:List UInt8} (h:c≠45):Lib.trimPrefix (c::r) [45]=c::r:=by simp[Lib.trimPrefix,Lib.hasPrefix,List.isPrefixOf,Ne.symm h]
theorem rd_eq (l:List UInt8):aDh l=aA6 l:=by
 cases l with
 |nil=>rfl
 | cons c r =>
  by_cases O:c=45
  .subst O;have Y:aA6 (45::r)=rdL (45::r) r true:=by unfold aA6;rw[if_pos ⟨rfl,by simp⟩];rfl
   rw[Y];by_cases J:(1<=r.length∧r.length<=18)∧r.all (λb=>mP b.toNat)=true
   .obtain⟨⟨U,I⟩,H⟩:=J;have hv:=wW H I
    have Z:Lib.parseIntB 64 (45::r)=.ok (-(pG r:Int)):=by
     unfold Lib.parseIntB;simp only[show(45:UInt8).toNat=45 from rfl,or_true,if_true,aIj H U I,not_true_eq_false,false_and,if_false,true_and];rw[if_neg (by omega)]
    unfold aDh rdL;rw[Z,if_neg (by omega),H];simp[aFK,I]
   .have V:rdL (45::r) r true=(0,false):=by
     unfold rdL;by_cases G:r.length<1∨18<r.length
     .rw[if_pos G]
     .rw[if_neg G]
      have:r.all (λb=>mP b.toNat)=false:=by
       cases h:r.all (λb=>mP b.toNat)
       .rfl
       .exact(J ⟨⟨by omega,by omega⟩,h⟩).elim
      rw[this];rfl
    rw[V];unfold aDh;split
    .rename_i v hv;split
     .rename_i F;rw[Bool.and_eq_true,beq_iff_eq,decide_eq_true_eq,aFK] at F;obtain⟨e,M⟩:=F;exfalso;rcases aBT v with⟨t,G,h2,h3⟩|⟨G,h2⟩
      .rw[G] at e;obtain rfl:=(List.cons.inj e).2;exact J ⟨⟨h3,M⟩,h2⟩
      .rw[e] at G;simp[mP] at G
     .rfl
    .rfl
  .have Y:aA6 (c::r)=rdL (c::r) (c::r) false:=by
    unfold aA6;rw[if_neg (λh=>O h.1)]
   rw[Y];by_cases J:(1<=(c::r).length∧(c::r).length<=18)∧(c::r).all (λb=>mP b.toNat)=true
   .obtain⟨⟨U,I⟩,H⟩:=J;have hv:=wW H I
    have ha:48<=c.toNat∧c.toNat<=57:=by
     simp only[List.all_cons,Bool.and_eq_true] at H;exact vT.1 H.1
    have Z:Lib.parseIntB 64 (c::r)=.ok (pG (c::r):Int):=by
     unfold Lib.parseIntB;have n1:¬c.toNat=43:=by omega
     have n2:¬c.toNat=45:=by omega
     simp only[n1,n2,or_self,if_false,not_false_eq_true,true_and,false_and];rw[aIj H U I];simp only;rw[if_neg (by omega)]
    unfold aDh rdL;rw[Z,if_neg (by omega),H];simp only[aFJ O,I,decide_true,Bool.and_true,if_true,Bool.false_eq_true,if_false]
   .have V:rdL (c::r) (c::r) false=(0,false):=by
     unfold rdL;by_cases G:(c::r).length<1∨18<(c::r).length
     .rw[if_pos G]
     .rw[if_neg G]
      have:(c::r).all (λb=>mP b.toNat)=false:=by
       cases h:(c::r).all (λb=>mP b.toNat)
       .rfl
       .exact(J ⟨⟨by omega,by omega⟩,h⟩).elim
      rw[this];rfl
    rw[V];unfold aDh;split
    .rename_i v hv;split
     .rename_i F;rw[Bool.and_eq_true,beq_iff_eq,decide_eq_true_eq,aFJ O] at F;obtain⟨e,M⟩:=F;exfalso;rcases aBT v with⟨t,G,h2,h3⟩|⟨G,h2⟩
      .rw[G] at e;exact O (List.cons.inj e).1.symm
      .rw[e] at G h2;exact J ⟨⟨h2,M⟩,G⟩
     .rfl
    .rfl
def spL:List UInt8->List (List UInt8)
 | []=>[[]]
 | b::r=>if b=32 then[]::spL r else match spL r with
  | []=>[[b]]
  |h::t=>(b::h)::t
theorem aE6:∀l,spL l≠[]
 | []=>by simp[spL]
 | b::r=>by
  unfold spL;split
  .simp
  .split<;>simp
theorem aDa:∀{u l:List UInt8},(32:UInt8)∉u->∃h t,spL l=h::t∧spL (u++l)=(u++h)::t
 | [],l,_=>by
  cases e:spL l with
  |nil=>exact(aE6 l e).elim
  |cons h t=>exact⟨h,t,rfl,by simpa using e⟩
 | b::u,l,hu=>by
  simp only[List.mem_cons,not_or] at hu;obtain⟨h,t,F,h2⟩:=aDa (u:=u) (l:=l) hu.2;refine⟨h,t,F,?_⟩;rw[List.cons_append,spL,if_neg (Ne.symm hu.1),h2];rfl
theorem aAS {u:List UInt8} (G:(32:UInt8)∉u):spL u=[u]:=by
 obtain⟨h,t,F,h2⟩:=aDa (u:=u) (l:=[]) G;simp only[spL,List.cons.injEq] at F;obtain⟨rfl,rfl⟩:=F;simpa using h2
theorem mZ {u l:List UInt8} (G:(32:UInt8)∉u):spL (u++32::l)=u::spL l:=by
 obtain⟨h,t,F,h2⟩:=aDa (u:=u) (l:=32::l) G;rw[spL,if_pos rfl] at F;obtain⟨rfl,rfl⟩:=List.cons.inj F;simpa using h2
def jnL:List (List UInt8)->List UInt8
 | []=>[]
 | [a]=>a
 |a::r=>a++32::jnL r
theorem aLu:∀l,jnL (spL l)=l
 | []=>rfl
 | b::r=>by
  have F:=aLu r;unfold spL;split
  .rename_i h;subst h;cases e:spL r with
   |nil=>exact(aE6 r e).elim
   |cons h t=>rw[e] at F;rw[jnL,F]<;>simp
  .cases e:spL r with
   |nil=>exact(aE6 r e).elim
   | cons h t =>
    rw[e] at F;cases t with
    |nil=>simpa[jnL] using F
    |cons h2 t2=>simp only[jnL] at F⊢;rw[List.cons_append,F]
theorem aHa (l:List UInt8):Lib.splitK [32] 0 (Lib.count l [32]) l=spL l:=by
 induction h:l.length using Nat.strongRecOn generalizing l with
 | _ n ih =>
  subst h;rcases Lib.index_spec l [32] with⟨G,h2⟩|⟨i,G,hi,H,Y⟩
  .rw[Lib.count_miss G,Lib.splitK];refine(aAS λV=>?_).symm;obtain⟨j,O,e⟩:=List.mem_iff_getElem.1 V;have:=h2 j (by omega);unfold Lib.occAt at this;rw[List.drop_eq_getElem_cons O,e] at this;simp[List.isPrefixOf] at this
  .have I:i<l.length:=by
    have:=Lib.index_room l [32] (by omega);rw[G] at this;simp at this;omega
   have M:l[i]=32:=by
    unfold Lib.occAt at H;rw[List.drop_eq_getElem_cons I] at H;have H:((32:UInt8)==l[i]&&([]:List UInt8).isPrefixOf (l.drop (i+1)))=true:=H;rw[Bool.and_eq_true,beq_iff_eq] at H;exact H.1.symm
   have F:(32:UInt8)∉l.take i:=λV=>by
    obtain⟨j,O,e⟩:=List.mem_iff_getElem.1 V;rw[List.length_take] at O;have U:j<i:=by omega
    have:=Y j U;unfold Lib.occAt at this;rw[List.drop_eq_getElem_cons (by omega)] at this;rw[List.getElem_take] at e;rw[e] at this;simp[List.isPrefixOf] at this
   have Z:l.take i++32::l.drop (i+1)=l:=by
    have:=List.take_append_drop i l;rw[List.drop_eq_getElem_cons I,M] at this;exact this
   have J:=Lib.count_hit (sub:=[32]) (by simp) G;rw[J,show 1+Lib.count (l.drop (i + [(32:UInt8)].length)) [32]=Lib.count (l.drop (i+1)) [32]+1 by simp;omega,Lib.splitK,if_neg (by rw[G];simp),G];have:=ih (l.drop (i+1)).length (by rw[List.length_drop];omega) (l.drop (i+1)) rfl;simp only[Int.toNat_natCast,Nat.add_zero,List.length_cons,List.length_nil,Nat.zero_add] at this⊢;rw[this];rw[←mZ F,Z]
end
section
theorem aIR {t:List UInt8} (h:t.all (λb=>mP b.toNat)=true):(32:UInt8)∉t:=λF=>by
 have:=List.all_eq_true.1 h _ F;simp[mP] at this
theorem sH (v:Int):(32:UInt8)∉Lib.itoa v:=by
 rcases aBT v with⟨t,F,h2,_⟩|⟨F,_⟩
 .rw[F];intro G;rcases List.mem_cons.1 G with h|h
  .cases h
  .exact aIR h2 h
 .exact aIR F
theorem aFd {l:List UInt8} (h:(aA6 l).2=true):Lib.itoa (aA6 l).1=l:=by
 have H:∀(t:List UInt8) (F:Bool),(rdL l t F).2=true->Lib.itoa (rdL l t F).1=l:=by
  intro t F h;unfold rdL at h⊢;generalize(if F=true then -(pG t:Int) else(pG t:Int))=n at *
  split at h
  .cases h
  .rename_i G;rw[if_neg G];split at h
   .rename_i h2;rw[if_pos h2];split at h
    .rename_i I;rw[if_pos I];exact beq_iff_eq.1 I
    .cases h
   .cases h
 unfold aA6 at h⊢;split at h
 .rename_i G;rw[if_pos G];exact H _ _ h
 .rename_i G;rw[if_neg G];exact H _ _ h
def wC:List UInt8:=[99,97,114,100,115]
def wS:List UInt8:=[115,117,109]
def wD:List UInt8:=[100,105,103,105,116,115]
theorem aMJ {a b c d e f l:List UInt8}{x y z:Int} (h:spL l=[a,b,c,d,e,f]) (H:Lib.itoa x=a) (I:Lib.itoa y=c) (J:Lib.itoa z=e) :
  Lib.itoa x++32::(wC++32::(Lib.itoa y++32::(wS++32::(Lib.itoa z++32::wD))))=l↔b=wC∧d=wS∧f=wD:=by
 constructor
 .intro e;have:=congrArg spL e;rw[mZ (sH _),mZ (by decide),mZ (sH _),mZ (by decide),mZ (sH _),aAS (by decide),h] at this;simp only[List.cons.injEq,and_true] at this;obtain⟨_,F,_,h2,_,G⟩:=this;exact⟨F.symm,h2.symm,G.symm⟩
 .rintro⟨rfl,rfl,rfl⟩;have:=aLu l;rw[h] at this;rw[←this,H,I,J];rfl
def wdS (s:ByteArray):List ByteArray:=(spL s.data.toList).map λu=>⟨u.toArray⟩
theorem aEh (s:ByteArray):Lib.splitB ⟨#[32]⟩ 0 (Lib.countB s ⟨#[32]⟩) s=wdS s:=by
 have h:=Lib.splitB_data ⟨#[32]⟩ 0 (Lib.countB s ⟨#[32]⟩) s;have G:(⟨#[32]⟩:ByteArray).data.toList=[32]:=rfl;have F:Lib.countB s ⟨#[32]⟩=Lib.count s.data.toList [32]:=rfl;rw[G,F,aHa] at h;unfold wdS;rw[←h,List.map_map,F];refine(List.map_id _).symm.trans (List.map_congr_left λx _=>?_);obtain⟨⟨l⟩⟩:=x;rfl
theorem aCE (s:ByteArray):(wdS s).length=Lib.countB s ⟨#[32]⟩ + 1:=by
 rw[←aEh];exact Lib.splitB_all _ (by decide) 0 _ _ rfl
end
end Go.Vs
