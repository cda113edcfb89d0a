/- A function whose first result is a row of its own, told by memory. -/
import Derived.Test.YtkgeiaideklmoaaGreatVuN
set_option linter.all false
set_option maxHeartbeats 8000000
namespace Go.Vs
variable {P:Program}
section
variable [Envs]
theorem Fn.calls1 {S:Nat→Prop}{w:World}{f:FuncId}{ys:List AV}{r:AV} (h:Fn P f [] ys r []) (O:dY r=true) {vs:Array Value} (M:∀b,S b→b<w.heap.size) (U:Env S w) (J:vs.size=ys.length) (G:∀j,j<ys.length→RC S w (ys.getD j .junk) (vs.getD j undef)) :
  Calls P f vs w fun e w'=>∃v S',e=.returned v∧mZ w w'∧RC S' w' r v∧∀b,S' b→(S b∨w.heap.size≤b)∧b<w'.heap.size:=by
 have F:∀n,Hn (([]:List Blk).map some) n=none:=by
  intro n;cases n<;>simp[Hn]
 have I:HOK S w (fun _=>none) (fun _=>0) (Hn (([]:List Blk).map some)):=
  ⟨fun n b H=>(by rw[F] at H;cases H),fun n m y L _ _ _=>(by rw[F] at L;cases L),M,U⟩
 refine(h.2 S w _ _ vs I (by simp) J fun j Y=>.clo (G j Y)).mono ?_;rintro e w' ⟨u,S',ρ',κ',rfl,hp,hu⟩;refine⟨u,S',rfl,⟨hp.size,fun b H=>hp.old b H aAE,hp.out⟩,RV.closed hu O,fun b H=>⟨?_,hp.hok.dom b H⟩⟩;rcases hp.new b H with h|h|h
 ·exact .inl h
 ·exact .inr h
 ·exact absurd h aAE
theorem Fn.of_ownT {f:FuncId}{args:List AV}{k:Nat}{l:List (List AV)}{c:Value} (F:mW P f) (hc:∀y,y∈args→dY y=true)
  (h : ∀(S:Nat→Prop) (w:World) (vs:Array Value),(∀b,S b→b<w.heap.size)→Env S w→vs.size=args.length→(∀j,j<args.length→RC S w (args.getD j .junk) (vs.getD j undef))→
    Calls P f vs w fun e w'=>∃(v:Value) (x:Option Nat) (M:Nat),e=.returned (.tuple #[v,c])∧mZ w w'∧Own (fun _=>False) w' x M k l v∧∀b,x=some b→w.heap.size≤b∧b<w'.heap.size):Fn P f [] args (.tup [.loc (.b 0) 0 l.length,.v c]) [some (.arr k l false)]:=by
 refine⟨F,fun S w ρ κ vs G _ U J=>(h S w vs G.dom G.env U fun j H=>(J j H).closed (hc _ ?_)).mono ?_⟩
 ·rw[List.getD_eq_getElem?_getD,List.getElem?_eq_getElem H];exact List.getElem_mem _
 ·rintro e w' ⟨v,x,M,rfl,hg,ho,hx⟩;have L:Own S w' x M k l v:=ho.mono (fun b e hs=>by have:=G.dom b hs;have:=(hx b e).1;omega) fun _ _=>rfl
  have I:∀n b,Hn [some (Blk.arr k l false)] n=some b→n=.b 0∧b=.arr k l false:=fun n b F=>by
   cases n with
   | b j =>
    cases j with
    |zero=>simp[Hn] at F;exact⟨rfl,F.symm⟩
    |succ j=>simp[Hn] at F
   |t s j=>simp[Hn] at F
  refine⟨_,S,fun n=>if n=.b 0 then x else none,fun _=>M,rfl,⟨⟨fun n b F=>?_,fun n m y hn hm _ _=>?_,fun b F=>Nat.lt_of_lt_of_le (G.dom b F) hg.size,(hg.env G.dom G.env).mono (fun _ h=>h) fun _ _=>rfl⟩,hg.size,fun b F _=>hg.old b F,fun _ h=>h,fun b F=>.inl F,fun j y H hy=>?_,hg.out,fun j b' H=>(by simp at H)⟩,.tup _ _ rfl fun j H=>?_⟩
  ·obtain⟨rfl,rfl⟩:=I n b F;have:=L.blk;simp only[vJ] at this⊢;simp only[if_true];exact this
  ·obtain⟨b,F⟩:=Option.isSome_iff_exists.1 hn;obtain⟨b',O⟩:=Option.isSome_iff_exists.1 hm;rw[(I n b F).1,(I m b' O).1]
  ·cases j with
   | zero =>
    have Y:x=some y:=by simpa using hy
    exact .inl (hx y Y).1
   |succ j=>simp at H
  ·match j,H with
   |0,_=>exact .loc _ _ _ _ (wY.of_own L (by simp) rfl (by simp[Hn]))
   |1,_=>exact .clo (.v _)
end
end Go.Vs
