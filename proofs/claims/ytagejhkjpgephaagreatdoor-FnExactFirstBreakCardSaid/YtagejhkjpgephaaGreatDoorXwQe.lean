/- Codes of collating; the first step down. -/
import Derived.Test.YtagejhkjpgephaaGreatDoorXwQd
import Derived.Test.YtagejhkjpgephaaGreatDoorXwD
set_option linter.unusedSimpArgs false
set_option linter.unusedVariables false
set_option maxHeartbeats 8000000
namespace Go.Proofs.YtagejhkjpgephaaGreatDoor
open Go.Vs
attribute [local irreducible] Vs.Fn chOK areCh chTo chAt l03 chB rk cd3 chI stp stpTo
attribute [local irreducible] keyC
attribute [local go_sem] cC List.replicate_succ List.replicate_zero List.flatten_cons List.flatten_nil List.cons_append List.nil_append List.set_cons_zero List.set_cons_succ List.length_cons List.length_nil List.length_set
def smallK (l : List (List (List Int))) : Prop := l.length ≤ 1048576 ∧ ∀ d, d ∈ l → smallC d
def colC (fr to : Int) (ls : List (List (List Int))) : Int :=
 if ls.all deckB then (if ls.all (fun d => fldB fr to (widB d)) then (if ls.all (allCh fr to) then 0 else 8) else 2) else 1
def colT (fr to : Int) (ts : List ByteArray) (ls : List (List (List Int))) : Int :=
 if ls.all deckB then (if ls.all (fun d => fldB fr to (widB d)) then (if ts.all (fun t => (t.size : Int) == W (to - fr)) then (if ts.all areCh then (if ls.all (allCh fr to) then 0 else 8) else 7) else 2) else 2) else 1
theorem collate0 (fr to : Int) (ls : List (List (List Int))) (hk : smallK ls) : Fz F.i_collateCode [.agg (cFd fr to), .v (.bool true), .v (.slice none 0 0), .sl 1 (E cD ls)] (.v (.int .i64 (colC fr to ls))) := by
 refine fn0 Cd.i_collateCode_k fun X => ?_
 simp -dsimp only [go_sem, cFd, cD]
 refine LoopK.at (drawn_ok Tryz.mixed) (X := { zz : Nat × (Unit) // zz.1 ≤ ls.length ∧ (ls.take zz.1).all (deckB) = true }) (fun zz => [(21, .v (.int .i64 zz.1.1))]) (fun zz => []) (fun zz => ls.length - zz.1.1) ⟨(0, ()), by omega, by simp⟩ ?_ ?_
 ·exact le0
 ·rintro ⟨⟨i, _⟩, hi, hg⟩
  dsimp only at hi hg
  simp -dsimp only [go_sem, cFd, cD]
  refine Br.mk (fun hc => ?_) fun hc => ?_
  ·have hlt : i < ls.length := Dq
   have hw := wrap_succ hlt hk.1
   have hsm := hk.2 _ (List.getElem_mem hlt)
   have hm : (E cD ls).getD i [] = [.sl 1 (E cC ls[i])] := E_get hlt
   cases hb : deckB ls[i]
   ·have hall : ls.all (deckB) = false := not_all (p := deckB) hlt hb
    repeat' first
     |simp -dsimp only [go_sem, hw, hm, hb, cFd, cD]
     |refine Br.mk ?_ ?_<;>intro h<;>try simp -dsimp only[h]
     |refine CallK.c (by first|exact validDeck _ hsm.2 hsm.1) ?_
     |refine and_c ?_
     |fail
    all_goals first | omega | (refine ret_eq ?_; simp [colC, hall]; done) | (simp [colC, hall]; done)
   ·simp -dsimp only [go_sem, hw, hm, hb, cFd, cD]
    repeat' first
     |simp -dsimp only [go_sem, hw, hm, hb, cFd, cD]
     |refine Br.mk ?_ ?_<;>intro h<;>try simp -dsimp only[h]
     |refine CallK.c (by first|exact validDeck _ hsm.2 hsm.1) ?_
     |refine and_c ?_
     |fail
    all_goals first | omega | (exact nx (i + 1, ()) (take_succ_all (p := deckB) hlt hg hb))
  ·have hge : i = ls.length := by
    have : ¬ i < ls.length := Dq
    omega
   subst hge
   simp -dsimp only [go_sem, cFd, cD]
   have a1 : ls.all (deckB) = true := by simpa using hg
   clear hg hi hc
   refine ⟨?_, by simp⟩
   refine LoopK.at (drawn_ok Tryz.mixed) (X := { zz : Nat × (Unit) // zz.1 ≤ ls.length ∧ (ls.take zz.1).all ((fun d => fldB fr to (widB d))) = true }) (fun zz => [(33, .v (.int .i64 zz.1.1))]) (fun zz => []) (fun zz => ls.length - zz.1.1) ⟨(0, ()), by omega, by simp⟩ ?_ ?_
   ·exact le0
   ·rintro ⟨⟨i, _⟩, hi, hg⟩
    dsimp only at hi hg
    simp -dsimp only [go_sem, cFd, cD]
    refine Br.mk (fun hc => ?_) fun hc => ?_
    ·have hlt : i < ls.length := Dq
     have hw := wrap_succ hlt hk.1
     have hsm := hk.2 _ (List.getElem_mem hlt)
     have hm : (E cD ls).getD i [] = [.sl 1 (E cC ls[i])] := E_get hlt
     cases hb : (fun d => fldB fr to (widB d)) ls[i]
     ·have hall : ls.all ((fun d => fldB fr to (widB d))) = false := not_all (p := (fun d => fldB fr to (widB d))) hlt hb
      repeat' first
       |simp -dsimp only [go_sem, hw, hm, hb, cFd, cD]
       |refine Br.mk ?_ ?_<;>intro h<;>try simp -dsimp only[h]
       |refine CallK.c (by first|exact deckColumns _|exact isField fr to _) ?_
       |refine and_c ?_
       |fail
      all_goals first | omega | (refine ret_eq ?_; simp [colC, hall, a1]; done) | (simp [colC, hall, a1]; done)
     ·simp -dsimp only [go_sem, hw, hm, hb, cFd, cD]
      repeat' first
       |simp -dsimp only [go_sem, hw, hm, hb, cFd, cD]
       |refine Br.mk ?_ ?_<;>intro h<;>try simp -dsimp only[h]
       |refine CallK.c (by first|exact deckColumns _|exact isField fr to _) ?_
       |refine and_c ?_
       |fail
      all_goals first | omega | (exact nx (i + 1, ()) (take_succ_all (p := (fun d => fldB fr to (widB d))) hlt hg hb))
    ·have hge : i = ls.length := by
      have : ¬ i < ls.length := Dq
      omega
     subst hge
     simp -dsimp only [go_sem, cFd, cD]
     have a2 : ls.all ((fun d => fldB fr to (widB d))) = true := by simpa using hg
     clear hg hi hc
     refine ⟨?_, by simp⟩
     refine LoopK.at (drawn_ok Tryz.mixed) (X := { zz : Nat × (Unit) // zz.1 ≤ 0 ∧ True }) (fun zz => [(45, .v (.int .i64 zz.1.1))]) (fun zz => []) (fun zz => 0 - zz.1.1) ⟨(0, ()), by omega, trivial⟩ ?_ ?_
     ·exact le0
     ·rintro ⟨⟨i, _⟩, hi, hg⟩
      dsimp only at hi hg
      simp -dsimp only [go_sem, cFd, cD]
      refine Br.mk (fun hc => ?_) fun hc => ?_
      ·have hlt : i < 0 := by have := of_decide_eq_true hc; omega
       have hw := wrap_succ hlt (by omega)
       exact absurd hlt (by omega)
      ·have hge : i = 0 := by
        have : ¬ i < 0 := by have := of_decide_eq_false hc; omega
        omega
       subst hge
       simp -dsimp only [go_sem, cFd, cD]
       clear hg hi hc
       refine ⟨?_, by simp⟩
       refine LoopK.at (drawn_ok Tryz.mixed) (X := { zz : Nat × (Unit) // zz.1 ≤ 0 ∧ True }) (fun zz => [(60, .v (.int .i64 zz.1.1))]) (fun zz => []) (fun zz => 0 - zz.1.1) ⟨(0, ()), by omega, trivial⟩ ?_ ?_
       ·exact le0
       ·rintro ⟨⟨i, _⟩, hi, hg⟩
        dsimp only at hi hg
        simp -dsimp only [go_sem, cFd, cD]
        refine Br.mk (fun hc => ?_) fun hc => ?_
        ·have hlt : i < 0 := by have := of_decide_eq_true hc; omega
         have hw := wrap_succ hlt (by omega)
         exact absurd hlt (by omega)
        ·have hge : i = 0 := by
          have : ¬ i < 0 := by have := of_decide_eq_false hc; omega
          omega
         subst hge
         simp -dsimp only [go_sem, cFd, cD]
         clear hg hi hc
         refine ⟨?_, by simp⟩
         refine LoopK.at (drawn_ok Tryz.mixed) (X := { zz : Nat × (Unit) // zz.1 ≤ ls.length ∧ (ls.take zz.1).all ((allCh fr to)) = true }) (fun zz => [(70, .v (.int .i64 zz.1.1))]) (fun zz => []) (fun zz => ls.length - zz.1.1) ⟨(0, ()), by omega, by simp⟩ ?_ ?_
         ·exact le0
         ·rintro ⟨⟨i, _⟩, hi, hg⟩
          dsimp only at hi hg
          simp -dsimp only [go_sem, cFd, cD]
          refine Br.mk (fun hc => ?_) fun hc => ?_
          ·have hlt : i < ls.length := Dq
           have hw := wrap_succ hlt hk.1
           have hsm := hk.2 _ (List.getElem_mem hlt)
           have hm : (E cD ls).getD i [] = [.sl 1 (E cC ls[i])] := E_get hlt
           have hdk : deckB ls[i] = true := (List.all_eq_true.1 a1) _ (List.getElem_mem hlt)
           have hfk : fldB fr to (widB ls[i]) = true := (List.all_eq_true.1 a2) _ (List.getElem_mem hlt)
           have hof := okF_of hdk hfk
           cases hb : (allCh fr to) ls[i]
           ·have hall : ls.all ((allCh fr to)) = false := not_all (p := (allCh fr to)) hlt hb
            repeat' first
             |simp -dsimp only [go_sem, hw, hm, hb, cFd, cD]
             |refine Br.mk ?_ ?_<;>intro h<;>try simp -dsimp only[h]
             |refine CallK.c (by first|exact haveField _ fr to hof hsm.1) ?_
             |refine and_c ?_
             |fail
            all_goals first | omega | (refine ret_eq ?_; simp [colC, hall, a1, a2]; done) | (simp [colC, hall, a1, a2]; done)
           ·simp -dsimp only [go_sem, hw, hm, hb, cFd, cD]
            repeat' first
             |simp -dsimp only [go_sem, hw, hm, hb, cFd, cD]
             |refine Br.mk ?_ ?_<;>intro h<;>try simp -dsimp only[h]
             |refine CallK.c (by first|exact haveField _ fr to hof hsm.1) ?_
             |refine and_c ?_
             |fail
            all_goals first | omega | (exact nx (i + 1, ()) (take_succ_all (p := (allCh fr to)) hlt hg hb))
          ·have hge : i = ls.length := by
            have : ¬ i < ls.length := Dq
            omega
           subst hge
           simp -dsimp only [go_sem, cFd, cD]
           have a5 : ls.all (allCh fr to) = true := by simpa using hg
           simp [colC, a1, a2, a5]
theorem collateT (fr to : Int) (ls : List (List (List Int))) (hk : smallK ls) (ts : List ByteArray) (hts : ts.length ≤ 1048576) (htz : ∀ t, t ∈ ts → t.size ≤ 1048576) : Fz F.i_collateCode [.agg (cFd fr to), .v (.bool true), .sl 1 (E cSt ts), .sl 1 (E cD ls)] (.v (.int .i64 (colT fr to ts ls))) := by
 refine fn0 Cd.i_collateCode_k fun X => ?_
 simp -dsimp only [go_sem, cFd, cD]
 refine LoopK.at (drawn_ok Tryz.mixed) (X := { zz : Nat × (Unit) // zz.1 ≤ ls.length ∧ (ls.take zz.1).all (deckB) = true }) (fun zz => [(21, .v (.int .i64 zz.1.1))]) (fun zz => []) (fun zz => ls.length - zz.1.1) ⟨(0, ()), by omega, by simp⟩ ?_ ?_
 ·exact le0
 ·rintro ⟨⟨i, _⟩, hi, hg⟩
  dsimp only at hi hg
  simp -dsimp only [go_sem, cFd, cD]
  refine Br.mk (fun hc => ?_) fun hc => ?_
  ·have hlt : i < ls.length := Dq
   have hw := wrap_succ hlt hk.1
   have hsm := hk.2 _ (List.getElem_mem hlt)
   have hm : (E cD ls).getD i [] = [.sl 1 (E cC ls[i])] := E_get hlt
   cases hb : deckB ls[i]
   ·have hall : ls.all (deckB) = false := not_all (p := deckB) hlt hb
    repeat' first
     |simp -dsimp only [go_sem, hw, hm, hb, cFd, cD]
     |refine Br.mk ?_ ?_<;>intro h<;>try simp -dsimp only[h]
     |refine CallK.c (by first|exact validDeck _ hsm.2 hsm.1) ?_
     |refine and_c ?_
     |fail
    all_goals first | omega | (refine ret_eq ?_; simp [colT, hall]; done) | (simp [colT, hall]; done)
   ·simp -dsimp only [go_sem, hw, hm, hb, cFd, cD]
    repeat' first
     |simp -dsimp only [go_sem, hw, hm, hb, cFd, cD]
     |refine Br.mk ?_ ?_<;>intro h<;>try simp -dsimp only[h]
     |refine CallK.c (by first|exact validDeck _ hsm.2 hsm.1) ?_
     |refine and_c ?_
     |fail
    all_goals first | omega | (exact nx (i + 1, ()) (take_succ_all (p := deckB) hlt hg hb))
  ·have hge : i = ls.length := by
    have : ¬ i < ls.length := Dq
    omega
   subst hge
   simp -dsimp only [go_sem, cFd, cD]
   have a1 : ls.all (deckB) = true := by simpa using hg
   clear hg hi hc
   refine ⟨?_, by simp⟩
   refine LoopK.at (drawn_ok Tryz.mixed) (X := { zz : Nat × (Unit) // zz.1 ≤ ls.length ∧ (ls.take zz.1).all ((fun d => fldB fr to (widB d))) = true }) (fun zz => [(33, .v (.int .i64 zz.1.1))]) (fun zz => []) (fun zz => ls.length - zz.1.1) ⟨(0, ()), by omega, by simp⟩ ?_ ?_
   ·exact le0
   ·rintro ⟨⟨i, _⟩, hi, hg⟩
    dsimp only at hi hg
    simp -dsimp only [go_sem, cFd, cD]
    refine Br.mk (fun hc => ?_) fun hc => ?_
    ·have hlt : i < ls.length := Dq
     have hw := wrap_succ hlt hk.1
     have hsm := hk.2 _ (List.getElem_mem hlt)
     have hm : (E cD ls).getD i [] = [.sl 1 (E cC ls[i])] := E_get hlt
     cases hb : (fun d => fldB fr to (widB d)) ls[i]
     ·have hall : ls.all ((fun d => fldB fr to (widB d))) = false := not_all (p := (fun d => fldB fr to (widB d))) hlt hb
      repeat' first
       |simp -dsimp only [go_sem, hw, hm, hb, cFd, cD]
       |refine Br.mk ?_ ?_<;>intro h<;>try simp -dsimp only[h]
       |refine CallK.c (by first|exact deckColumns _|exact isField fr to _) ?_
       |refine and_c ?_
       |fail
      all_goals first | omega | (refine ret_eq ?_; simp [colT, hall, a1]; done) | (simp [colT, hall, a1]; done)
     ·simp -dsimp only [go_sem, hw, hm, hb, cFd, cD]
      repeat' first
       |simp -dsimp only [go_sem, hw, hm, hb, cFd, cD]
       |refine Br.mk ?_ ?_<;>intro h<;>try simp -dsimp only[h]
       |refine CallK.c (by first|exact deckColumns _|exact isField fr to _) ?_
       |refine and_c ?_
       |fail
      all_goals first | omega | (exact nx (i + 1, ()) (take_succ_all (p := (fun d => fldB fr to (widB d))) hlt hg hb))
    ·have hge : i = ls.length := by
      have : ¬ i < ls.length := Dq
      omega
     subst hge
     simp -dsimp only [go_sem, cFd, cD]
     have a2 : ls.all ((fun d => fldB fr to (widB d))) = true := by simpa using hg
     clear hg hi hc
     refine ⟨?_, by simp⟩
     refine LoopK.at (drawn_ok Tryz.mixed) (X := { zz : Nat × (Unit) // zz.1 ≤ ts.length ∧ (ts.take zz.1).all ((fun t : ByteArray => (t.size : Int) == W (to - fr))) = true }) (fun zz => [(45, .v (.int .i64 zz.1.1))]) (fun zz => []) (fun zz => ts.length - zz.1.1) ⟨(0, ()), by omega, by simp⟩ ?_ ?_
     ·exact le0
     ·rintro ⟨⟨i, _⟩, hi, hg⟩
      dsimp only at hi hg
      simp -dsimp only [go_sem, cFd, cD]
      refine Br.mk (fun hc => ?_) fun hc => ?_
      ·have hlt : i < ts.length := Dq
       have hw := wrap_succ hlt hts
       have hm : (E cSt ts).getD i [] = [.v (.string ts[i])] := E_get hlt
       have hne : ((ts[i].size : Int) != IntKind.i64.wrap (to - fr)) = !((ts[i].size : Int) == W (to - fr)) := rfl
       cases hb : (fun t : ByteArray => (t.size : Int) == W (to - fr)) ts[i]
       ·have hall : ts.all ((fun t : ByteArray => (t.size : Int) == W (to - fr))) = false := not_all (p := (fun t : ByteArray => (t.size : Int) == W (to - fr))) hlt hb
        repeat' first
         |simp -dsimp only [go_sem, hw, hm, hb, hne, Bool.not_true, Bool.not_false, cFd, cD]
         |refine Br.mk ?_ ?_<;>intro h<;>try simp -dsimp only[h]
         |refine and_c ?_
         |fail
        all_goals first | omega | (refine ret_eq ?_; simp [colT, hall, a1, a2]; done) | (simp [colT, hall, a1, a2]; done)
       ·simp -dsimp only [go_sem, hw, hm, hb, hne, Bool.not_true, Bool.not_false, cFd, cD]
        repeat' first
         |simp -dsimp only [go_sem, hw, hm, hb, hne, Bool.not_true, Bool.not_false, cFd, cD]
         |refine Br.mk ?_ ?_<;>intro h<;>try simp -dsimp only[h]
         |refine and_c ?_
         |fail
        all_goals first | omega | (exact nx (i + 1, ()) (take_succ_all (p := (fun t : ByteArray => (t.size : Int) == W (to - fr))) hlt hg hb))
      ·have hge : i = ts.length := by
        have : ¬ i < ts.length := Dq
        omega
       subst hge
       simp -dsimp only [go_sem, cFd, cD]
       have a3 : ts.all ((fun t : ByteArray => (t.size : Int) == W (to - fr))) = true := by simpa using hg
       clear hg hi hc
       refine ⟨?_, by simp⟩
       refine LoopK.at (drawn_ok Tryz.mixed) (X := { zz : Nat × (Unit) // zz.1 ≤ ts.length ∧ (ts.take zz.1).all (areCh) = true }) (fun zz => [(60, .v (.int .i64 zz.1.1))]) (fun zz => []) (fun zz => ts.length - zz.1.1) ⟨(0, ()), by omega, by simp⟩ ?_ ?_
       ·exact le0
       ·rintro ⟨⟨i, _⟩, hi, hg⟩
        dsimp only at hi hg
        simp -dsimp only [go_sem, cFd, cD]
        refine Br.mk (fun hc => ?_) fun hc => ?_
        ·have hlt : i < ts.length := Dq
         have hw := wrap_succ hlt hts
         have hm : (E cSt ts).getD i [] = [.v (.string ts[i])] := E_get hlt
         cases hb : areCh ts[i]
         ·have hall : ts.all (areCh) = false := not_all (p := areCh) hlt hb
          repeat' first
           |simp -dsimp only [go_sem, hw, hm, hb, cFd, cD]
           |refine Br.mk ?_ ?_<;>intro h<;>try simp -dsimp only[h]
           |refine CallK.c (by first|exact areCharacters _ (htz _ (List.getElem_mem hlt))) ?_
           |refine and_c ?_
           |fail
          all_goals first | omega | (refine ret_eq ?_; simp [colT, hall, a1, a2, a3]; done) | (simp [colT, hall, a1, a2, a3]; done)
         ·simp -dsimp only [go_sem, hw, hm, hb, cFd, cD]
          repeat' first
           |simp -dsimp only [go_sem, hw, hm, hb, cFd, cD]
           |refine Br.mk ?_ ?_<;>intro h<;>try simp -dsimp only[h]
           |refine CallK.c (by first|exact areCharacters _ (htz _ (List.getElem_mem hlt))) ?_
           |refine and_c ?_
           |fail
          all_goals first | omega | (exact nx (i + 1, ()) (take_succ_all (p := areCh) hlt hg hb))
        ·have hge : i = ts.length := by
          have : ¬ i < ts.length := Dq
          omega
         subst hge
         simp -dsimp only [go_sem, cFd, cD]
         have a4 : ts.all (areCh) = true := by simpa using hg
         clear hg hi hc
         refine ⟨?_, by simp⟩
         refine LoopK.at (drawn_ok Tryz.mixed) (X := { zz : Nat × (Unit) // zz.1 ≤ ls.length ∧ (ls.take zz.1).all ((allCh fr to)) = true }) (fun zz => [(70, .v (.int .i64 zz.1.1))]) (fun zz => []) (fun zz => ls.length - zz.1.1) ⟨(0, ()), by omega, by simp⟩ ?_ ?_
         ·exact le0
         ·rintro ⟨⟨i, _⟩, hi, hg⟩
          dsimp only at hi hg
          simp -dsimp only [go_sem, cFd, cD]
          refine Br.mk (fun hc => ?_) fun hc => ?_
          ·have hlt : i < ls.length := Dq
           have hw := wrap_succ hlt hk.1
           have hsm := hk.2 _ (List.getElem_mem hlt)
           have hm : (E cD ls).getD i [] = [.sl 1 (E cC ls[i])] := E_get hlt
           have hdk : deckB ls[i] = true := (List.all_eq_true.1 a1) _ (List.getElem_mem hlt)
           have hfk : fldB fr to (widB ls[i]) = true := (List.all_eq_true.1 a2) _ (List.getElem_mem hlt)
           have hof := okF_of hdk hfk
           cases hb : (allCh fr to) ls[i]
           ·have hall : ls.all ((allCh fr to)) = false := not_all (p := (allCh fr to)) hlt hb
            repeat' first
             |simp -dsimp only [go_sem, hw, hm, hb, cFd, cD]
             |refine Br.mk ?_ ?_<;>intro h<;>try simp -dsimp only[h]
             |refine CallK.c (by first|exact haveField _ fr to hof hsm.1) ?_
             |refine and_c ?_
             |fail
            all_goals first | omega | (refine ret_eq ?_; simp [colT, hall, a1, a2, a3, a4]; done) | (simp [colT, hall, a1, a2, a3, a4]; done)
           ·simp -dsimp only [go_sem, hw, hm, hb, cFd, cD]
            repeat' first
             |simp -dsimp only [go_sem, hw, hm, hb, cFd, cD]
             |refine Br.mk ?_ ?_<;>intro h<;>try simp -dsimp only[h]
             |refine CallK.c (by first|exact haveField _ fr to hof hsm.1) ?_
             |refine and_c ?_
             |fail
            all_goals first | omega | (exact nx (i + 1, ()) (take_succ_all (p := (allCh fr to)) hlt hg hb))
          ·have hge : i = ls.length := by
            have : ¬ i < ls.length := Dq
            omega
           subst hge
           simp -dsimp only [go_sem, cFd, cD]
           have a5 : ls.all (allCh fr to) = true := by simpa using hg
           simp [colT, a1, a2, a3, a4, a5]
theorem stp_pre (fr to : Int) (l : List (List Int)) (i : Nat) : ∀ k, ∃ r, stpTo fr to l (i + k) = stpTo fr to l i ++ r
 | 0 => ⟨[], by simp⟩
 | k + 1 => by
  obtain ⟨r, hr⟩ := stp_pre fr to l i k
  exact ⟨r ++ (if cmF fr to (l.getD (i + k + 1) []) (l.getD (i + k) []) < 0 then [((i + k + 1 : Nat) : Int)] else []), by rw [← Nat.add_assoc, stpTo, hr, List.append_assoc]⟩
def stF (fr to : Int) (l : List (List Int)) : Int := (stp fr to l).headD (-1)
theorem stF_asc (fr to : Int) (l : List (List Int)) : decide (stF fr to l ≥ 0) = !ascB fr to l := by
 have hm : ∀ k, ∀ x, x ∈ stpTo fr to l k → 0 ≤ x := by
  intro k
  induction k with
  | zero => intro x hx; simp [stpTo] at hx
  | succ k ih =>
   intro x hx
   rw [stpTo] at hx
   rcases List.mem_append.1 hx with hx | hx
   ·exact ih x hx
   ·split at hx
    ·simp at hx; omega
    ·cases hx
 unfold stF ascB
 cases h : stp fr to l with
 | nil => simp
 | cons x r =>
  have := hm (l.length - 1) x (by unfold stp at h; rw [h]; simp)
  simp only [List.headD_cons, ge_iff_le, this, decide_true, List.length_cons]
  symm
  simp; omega
attribute [local go_sem] E_len cFd cD in
theorem l07Step (l : List (List Int)) (fr to : Int) (ho : ∀ c, c ∈ l → okF fr to c) (hh : allCh fr to l = true) (hl : l.length ≤ 1048576) : Fz F.s_l07Step [.sl 1 (E cSt (keyL fr to l))] (.v (.int .i64 (stF fr to l))) := by
 have hkl : (keyL fr to l).length = l.length := by simp [keyL]
 refine fn0 Cd.s_l07Step_k fun X => ?_
 simp -dsimp only [go_sem, hkl]
 refine LoopK.at (drawn_ok Tryz.mixed) (X := { zz : Nat × (Unit) // zz.1 ≤ l.length - 1 ∧ stpTo fr to l zz.1 = [] }) (fun zz => [(3, .v (.int .i64 ((zz.1.1 + 1 : Nat) : Int)))]) (fun zz => []) (fun zz => l.length - 1 - zz.1.1) ⟨(0, ()), by omega, by simp [stpTo]⟩ ?_ ?_
 ·simp [Vs.LeL, Vs.look, Vs.hlook, Vs.sput, Vs.sputs, Vs.hset, Vs.hputs, Vs.E, stpTo]
 ·rintro ⟨⟨i, _⟩, hi, hg⟩
  dsimp only at hi hg
  simp -dsimp only [go_sem, hkl]
  refine Br.mk (fun hc => ?_) fun hc => ?_
  ·have hlt : i < l.length - 1 := Dq
   have hw := wrap_succ hlt (by omega)
   have hl1 : i + 1 < l.length := by omega
   have hl0 : i < l.length := by omega
   have hk1 := ho _ (List.getElem_mem hl1)
   have hk0 := ho _ (List.getElem_mem hl0)
   have hc1 : hasCh (fH fr to l[i + 1]) = true := (List.all_eq_true.1 hh) _ (List.getElem_mem hl1)
   have hc0 : hasCh (fH fr to l[i]) = true := (List.all_eq_true.1 hh) _ (List.getElem_mem hl0)
   have hm1 : (E cSt (keyL fr to l)).getD (i + 1) [] = [.v (.string (txt (fH fr to l[i + 1])))] := by rw [E_get (by omega)]; simp [keyL, cSt]
   have hm0 : (E cSt (keyL fr to l)).getD i [] = [.v (.string (txt (fH fr to l[i])))] := by rw [E_get (by omega)]; simp [keyL, cSt]
   have hw2 := wrap2 hlt hl
   have hw3 := wrap3 hlt hl
   have g1 : l.getD (i + 1) [] = l[i + 1] := by simp [List.getD, hl1]
   have g0 : l.getD i [] = l[i] := by simp [List.getD, hl0]
   have hcf : cmpR (fH fr to l[i + 1]) (fH fr to l[i]) = cmF fr to l[i + 1] l[i] := rfl
   by_cases hz : cmF fr to l[i + 1] l[i] < 0
   ·have e1 : decide (cmF fr to l[i + 1] l[i] < 0) = true := decide_eq_true hz
    have hs : stpTo fr to l (i + 1) = [((i + 1 : Nat) : Int)] := by rw [stpTo, g1, g0, if_pos hz, hg]; rfl
    obtain ⟨r, hr⟩ := stp_pre fr to l (i + 1) (l.length - 1 - (i + 1))
    rw [show i + 1 + (l.length - 1 - (i + 1)) = l.length - 1 by omega, hs] at hr
    have hst : stF fr to l = ((i + 1 : Nat) : Int) := by unfold stF stp; rw [hr]; rfl
    repeat' first
     |simp -dsimp only [go_sem, hw2, hw3, hm1, hm0, hcf, e1, hkl]
     |refine Br.mk ?_ ?_<;>intro h<;>try simp -dsimp only[h]
     |refine CallK.c (by first|exact l03Compare _ _ (fH_le hk1) ((fH_len hk1).trans (fH_len hk0).symm) hc1 hc0) ?_
     |refine and_c ?_
     |fail
    all_goals first | omega | (refine ret_eq ?_; simp [hst]; done) | (simp [hst]; done)
   ·have e1 : decide (cmF fr to l[i + 1] l[i] < 0) = false := decide_eq_false hz
    have hs : stpTo fr to l (i + 1) = [] := by rw [stpTo, g1, g0, if_neg hz, hg]; rfl
    repeat' first
     |simp -dsimp only [go_sem, hw2, hw3, hm1, hm0, hcf, e1, hkl]
     |refine Br.mk ?_ ?_<;>intro h<;>try simp -dsimp only[h]
     |refine CallK.c (by first|exact l03Compare _ _ (fH_le hk1) ((fH_len hk1).trans (fH_len hk0).symm) hc1 hc0) ?_
     |refine and_c ?_
     |fail
    all_goals first | omega | (exact nx (i + 1, ()) hs)
  ·have hge : i = l.length - 1 := by
    have : ¬ i < l.length - 1 := Dq
    omega
   subst hge
   simp -dsimp only [go_sem, hkl]
   have hst : stF fr to l = -1 := by unfold stF stp; rw [hg]; rfl
   simp [hst]
end Go.Proofs.YtagejhkjpgephaaGreatDoor
