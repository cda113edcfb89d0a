/- Copies that are handed over, to be written; rows that are marked one by one. -/
import Derived.Test.YtfoddghhlagenaaGreatDoorVtN
import Derived.Sort.Grow
import Derived.Deep.Draws
import Derived.LaidMore
import Derived.Lib.LaidTab
import Derived.MakeChecks
import Derived.Stop.LaidErr
set_option linter.all false
set_option maxHeartbeats 8000000
namespace Go.Vs
section
variable [Envs]
variable {P:Program}
theorem Fn.of_ext {f:FuncId}{args:List AV}{x:AV} (hb:lH P f)
  (h : ∀(S:Nat->Prop) (w:World) (vs:Array Value),Env S w->vs.size=args.length->(∀j,j<args.length->RV S w (λ_=>none) (λ_=>0) (Hn []) (args.getD j .junk) (vs.getD j undef))->
    Calls P f vs w λe w'=>∃v,e=.returned v∧RC S w' x v∧Ext w w'):Fn P f [] args x []:=by
 refine⟨hb,λS w ρ κ vs hok _ hvs hargs=>?_⟩
 have hH:Hn (([]:List Blk).map some)=Hn []:=rfl
 refine(h S w vs hok.env hvs λj hj=>?_).mono ?_
 .refine(hargs j hj).mono (λ_ h=>h) (λ_ _=>rfl) λn _ b hb=>?_
  cases n<;>simp[Hn] at hb
 .rintro e w' ⟨v,rfl,hv,hx⟩
  refine⟨v,S,ρ,κ,rfl,⟨⟨λn b hb=>?_,λn m y h1=>?_,λb hb=>Nat.lt_of_lt_of_le (hok.dom b hb) hx.1,hok.env.mono (λ_ h=>h) λb hb=>hx.2.1 b (hok.dom b hb)⟩,hx.1,λb hb _=>hx.2.1 b hb,λ_ h=>h,λb hb=>.inl hb,λj z hj=>?_,hx.2.2,λj b hj=>?_⟩,.clo hv⟩
  .cases n<;>simp[Hn] at hb
  .cases n<;>simp[Hn] at h1
  .simp at hj
  .simp at hj
theorem aEi (w:World) (k:Nat) (os:Array Obj):Ext w (Go.Sort.grow (w.drewN k) os):=by
 refine⟨by simp[Go.Sort.grow,World.drewN],λb hb=>?_,rfl,rfl⟩
 simp[Go.Sort.grow,World.drewN,Array.getElem?_append,hb]
end
section
variable [Envs]
def sM:List Int->Int
 | []=>0
 |x::r=>x+sM r
theorem vK:∀{l:List Int},(∀x,x∈l->0<=x)->0<=sM l
 | [],_=>by simp[sM]
 | x::r,h=>by
  have:=vK (l:=r) λy hy=>h y (by simp[hy])
  have:=h x (by simp)
  simp only[sM];omega
theorem aCz {l:List Int}{i:Nat} (h:i<l.length):sM (l.drop i)=l[i]+sM (l.drop (i+1)):=by
 rw[List.drop_eq_getElem_cons h,sM]
theorem aBh {l:List Int} (h:∀x,x∈l->0<=x) (i:Nat):0<=sM (l.drop i):=
 vK λx hx=>h x (List.mem_of_mem_drop hx)
def dsN (n:Nat):Nat:=if h:n=0 then 0 else n%10+dsN (n/10)
termination_by n
decreasing_by omega
theorem uG:dsN 0=0:=by rw[dsN,dif_pos rfl]
theorem aCi {n:Nat} (h:n≠0):dsN n=n%10+dsN (n/10):=by rw[dsN,dif_neg h]
theorem aCj (n:Nat):dsN n=n%10+dsN (n/10):=by
 by_cases h:n=0
 .subst h;simp[uG]
 .exact aCi h
theorem aBz (n:Nat):dsN n<=n:=by
 induction n using Nat.strongRecOn with
 | _ n ih =>
  by_cases h:n=0
  .subst h;rw[uG];omega
  .rw[aCi h]
   have:=ih (n/10) (by omega)
   omega
end
section
variable [Envs]
open Go.ChangeShapes Go.WideShapes Go.ChangeAt Go.RowKit
theorem law_returns_and {C:Checked}{os:Os}{s:ChangeSpec}{f:FuncId}{fn:Func}{dom:List PathCond}{H:Type}{enc:TypeId×Value->H}{tb:TypeId}{A:Type}{e:A->List AV}{X:World->Array Value->Prop}
  (hX:∀(w w':World) (args:Array Value),w.heap=w'.heap->X w args->X w' args) (henv:∀W args,X W args->Env (λb=>b<W.heap.size) W)
  (own:ownKnob C.prog.godebug=none) (started:os.Started) (noInit:C.prog.inits.idxOf? f=none) (hfn:C.prog.funcs[f]? = some fn)
  (witness:∃(w:World) (tape:Tape) (i:Input),w.os=os∧(w.forCall tape i).Shaped C.prog∧i.vars=[]∧Input.okWide C.prog (w.forCall tape i) .any w.heap.size f i∧
    ((s.pre enc C.prog fn dom false (w.forCall tape i).memory i.args∧X (w.forCall tape i).memory i.args)∧sizedMet enc C.prog fn (OpenSpec.ofChange s) false (w.forCall tape i).memory i.args)∧Assume.holds {} C.prog (lone (Frame.enter C.prog f i.args .normal) [] (w.forCall tape i)))
  (hl:laidOutB C.prog=true) (htB:(fn.params.toList.all λt=>C.prog.readableRec t&&decide (t<C.prog.types.size))=true) (hrt:fn.resultTypes=#[tb]) (htb:C.prog.underlying tb=some .bool)
  (hvars:s.vars=[]) (hs:∀ds:List (DataW H),ds.length=fn.params.toList.length->(s.fn H (ds++[])).results=[.lit (.bool true)]∧(s.fn H (ds++[])).args=ds∧(s.fn H (ds++[])).vars=[])
  (hargs:Args C.prog fn.params.toList e) (hlaw:∀a,Fn C.prog f [] (e a) (.v (.bool true)) []) :
  ReturnsInHanded {} C os f .any (λw args=>(s.pre enc C.prog fn dom false w args∧X w args)∧sizedMet enc C.prog fn (OpenSpec.ofChange s) false w args) (s.post enc C.prog fn false true false false):=by
 refine returnsInHanded_of_change_and hX own started noInit hfn witness ?_
 intro W base args ds gs before hval hW _ _ hx _
 have hW':=hW
 obtain⟨p,q,hA,hV,rfl,hfz,hnd⟩:=hW
 rw[hvars] at hV
 obtain⟨rfl,rfl⟩:=trodVars_none hV
 obtain⟨a,h1,h2⟩:=hargs H enc W base args.toList ds p (λj t v ht hv=>hval j t v (by simpa using ht) (by simpa using hv)) hA
 refine aDW hl htB hrt htb hW' hvars (hs ds (vJ hA)) (henv W args hx) (hlaw a) (by simpa using h1.symm) λj hj=>?_
 have:=h2 j (by rw[h1] at hj;exact hj)
 rwa [getD_toList] at this
end
section
variable [Envs]
variable {P:Program}{α:Type}{c:α->List AV}
theorem aB.own {f:FuncId}{ys:List AV}{d:Option Nat}{σ:St}{K:St->Prop}{t:Tag K}{r:AV}{hout:List (Option Blk)} (hfn:Fn P f [] ys r hout) (hfr:iC (d.getD 0) 0 hout.length σ=true)
  (hK:K ⟨put d (rn (phi [] (d.getD 0) hout.length) r) σ.s,sH σ.h [] (d.getD 0) hout true []⟩):aB P f [] ys [] d σ [] K t:=
 ⟨r,hout,true,hfn,λh=>(by cases h),hfr,hK⟩
theorem aB.bor {f:FuncId}{b:Blk}{ys:List AV}{d:Option Nat}{σ:St}{n:Name}{K:St->Prop}{t:Tag K}{r:AV}{hout:List (Option Blk)} (hfn:Fn P f [b] ys r hout) (hfr:iC (d.getD 0) 1 hout.length σ=true)
  (hK:K ⟨put d (rn (phi [n] (d.getD 0) hout.length) r) σ.s,sH σ.h [n] (d.getD 0) hout true []⟩):aB P f [b] ys [] d σ [n] K t:=
 ⟨r,hout,true,hfn,λh=>(by cases h),hfr,hK⟩
theorem aBQ {K K':St->Prop} (hK:∀σ,K σ->K' σ):∀(ops:List aH) (σ:St),vc P K ops σ->vc P K' ops σ
 | [],σ,hv=>hK σ hv
 |_::r,_,hv=>zP.2 (sJ (fun σ' h=>aBQ hK r σ' h) (zP.1 hv))
end
end Go.Vs
