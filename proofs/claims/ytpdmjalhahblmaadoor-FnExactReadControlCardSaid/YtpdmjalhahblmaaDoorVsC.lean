/- The operations that read and compute: resolved, their meaning on abstract values, and that the machine does what they say. -/
import Derived.Test.YtpdmjalhahblmaaDoorVsB
import Derived.Laws.Sem
import Derived.Laws.Cells
import Derived.Laws.Slices
namespace Go.Vs
set_option linter.unusedSectionVars false
variable [Envs]

inductive AOp where
  | mv (x : Operand)
  | pick (c a b : Operand)
  | load (g : Bool) (k : Nat) (a : Operand)
  | fieldAddr (off : Nat) (x : Operand)
  | loadV (g : Bool) (k : Nat) (a : Operand)
  | fieldV (off : Nat) (x : Operand)
  | field (g : Bool) (off k : Nat) (x : Operand)
  | idxSl (k : Nat) (x i : Operand)
  | idxArr (n k : Nat) (x i : Operand)
  | idxAgg (g : Bool) (n k : Nat) (x i : Operand)
  | idxStr (x i : Operand)
  | bin (op : BinOp) (x y : Operand)
  | binS (op : BinOp) (x y : Operand)
  | binB (op : BinOp) (x y : Operand)
  | un (op : UnOp) (x : Operand)
  | conv (k : IntKind) (x : Operand)
  | b2s (x : Operand)
  | eqA (neg : Bool) (ks : List Nat) (x y : Operand)
  | idxB (x y : Operand)
  | len (x : Operand)
  | lenS (x : Operand)
  | lenC (n : Nat)
  | slc (k : Nat) (x : Operand) (lo hi : Option Operand)
  | sstr (x : Operand) (lo hi : Option Operand)
  | nilc (x : Operand)
  | extract (x : Operand) (i : Nat)
  | build (z : List AV) (parts : List (Nat × Nat × Operand))
  | mkfn (f : FuncId) (caps : List Operand)
  | mm (mx : Bool) (x y : Operand)
  | box (x : Operand)
  | alloc (z : List AV)
  | bslice (k n : Nat) (z : List AV) (parts : List (Nat × Operand))
  | mk (k bytes : Nat) (z : List AV) (n : Operand)
  | call (f : Operand) (args : List Operand) (bor : List Nat)
  | store (k : Nat) (a x : Operand)
  | append (k bytes : Nat) (a x : Operand)
  | appendC (k bytes : Nat) (a x : Operand)
  | bsliceC (k n : Nat) (z : List AV) (parts : List (Nat × Operand))
  | clr (k : Nat) (z : List AV) (x : Operand)
  deriving Inhabited

/-- surely the value of one cell -/
def oneB (h : Name → Option Blk) : AV → Bool
  | .v x => x.oneCell'
  | .sl _ _ => true
  | .ro _ => true
  | .fn _ _ => true
  | .loc n _ _ => match h n with | some (.arr _ _ _) => true | _ => false
  | .ptr n _ _ => (h n).isSome
  | _ => false

/-- the cells of a value, where they are surely cells -/
def cellsO (h : Name → Option Blk) : AV → Option (List AV)
  | .agg c => if c.all (oneB h) then some c else none
  | x => if oneB h x then some [x] else none

def AV.mk (g : Bool) (c : List AV) : AV := if g then .agg c else c.headD .junk

def Blk.row : Blk → Nat → List AV
  | .var c _, 0 => c
  | .var _ _, _ + 1 => []
  | .arr _ l _, e => l.getD e []

def bitsOp (op : BinOp) (k : IntKind) (a b : Int) : Int :=
  let x := BitVec.ofInt k.bits a
  let y := BitVec.ofInt k.bits b
  k.wrap (match op with | .and => x &&& y | .or => x ||| y | .xor => x ^^^ y | _ => x &&& ~~~y).toNat

def binI (op : BinOp) (k k' : IntKind) (a b : Int) (K : AV → Prop) : Prop :=
  match op with
  | .add => k = k' ∧ K (.v (.int k (k.wrap (a + b))))
  | .sub => k = k' ∧ K (.v (.int k (k.wrap (a - b))))
  | .mul => k = k' ∧ K (.v (.int k (k.wrap (a * b))))
  | .quo => (k = k' ∧ b ≠ 0) ∧ K (.v (.int k (k.wrap (a.tdiv b))))
  | .rem => (k = k' ∧ b ≠ 0) ∧ K (.v (.int k (a.tmod b)))
  | .eql => k = k' ∧ K (.v (.bool (a == b)))
  | .neq => k = k' ∧ K (.v (.bool (a != b)))
  | .lss => k = k' ∧ K (.v (.bool (a < b)))
  | .leq => k = k' ∧ K (.v (.bool (a ≤ b)))
  | .gtr => k = k' ∧ K (.v (.bool (a > b)))
  | .geq => k = k' ∧ K (.v (.bool (a ≥ b)))
  | .shl => 0 ≤ b ∧ K (.v (.int k (k.wrap (a * 2 ^ (min b.toNat k.bits)))))
  | .shr => 0 ≤ b ∧ K (.v (.int k (a.fdiv (2 ^ (min b.toNat k.bits)))))
  | .and => k = k' ∧ K (.v (.int k (bitsOp .and k a b)))
  | .or => k = k' ∧ K (.v (.int k (bitsOp .or k a b)))
  | .xor => k = k' ∧ K (.v (.int k (bitsOp .xor k a b)))
  | .andNot => k = k' ∧ K (.v (.int k (bitsOp .andNot k a b)))

def binStr (op : BinOp) (x y : ByteArray) (K : AV → Prop) : Prop :=
  match op with
  | .add => x.size + y.size ≤ 9223372036854775807 ∧ K (.v (.string (x ++ y)))
  | .eql => K (.v (.bool (x.toList == y.toList)))
  | .neq => K (.v (.bool (!(x.toList == y.toList))))
  | _ => False

def binBool (op : BinOp) (x y : Bool) (K : AV → Prop) : Prop :=
  match op with
  | .eql => K (.v (.bool (x == y)))
  | .neq => K (.v (.bool (!(x == y))))
  | _ => False

/-- A part laid into cells. -/
def lay : List AV → Nat → List AV → List AV
  | cs, _, [] => cs
  | cs, o, x :: r => lay (cs.set o x) (o + 1) r

def layAll (ev : Operand → AV) (h : Name → Option Blk) : List AV → List (Nat × Nat × Operand) → (List AV → Prop) → Prop
  | cs, [], K => K cs
  | cs, (o, n, x) :: r, K => match cellsO h (ev x) with
    | some c => (c.length = n ∧ o + n ≤ cs.length) ∧ layAll ev h (lay cs o c) r K
    | none => False

/-- two cells of one kind: 0 an integer, 1 a bool, 2 a string -/
def eqV : Nat → Value → Value → Option Bool
  | 0, .int k a, .int k' b => if k = k' then some (a == b) else none
  | 1, .bool a, .bool b => some (a == b)
  | 2, .string a, .string b => some (a.toList == b.toList)
  | _, _, _ => none

def eqC : List Nat → List AV → List AV → Option Bool
  | [], [], [] => some true
  | k :: ks, .v x :: r, .v y :: s => match eqV k x y, eqC ks r s with
    | some a, some b => some (a && b)
    | _, _ => none
  | _, _, _ => none

/-- The rows of a slice that is read. -/
def rowsO (k : Nat) (h : Name → Option Blk) : AV → Option (List (List AV))
  | .sl k' l => if k' = k then some l else none
  | .loc n off len => match h n with
    | some (.arr k' l _) => if k' = k then some ((l.drop off).take len) else none
    | _ => none
  | .v (.slice none 0 0) => some []
  | _ => none

/-- It keeps a simplifier out of what it is the tag of. -/
inductive Tag {α : Type} (a : α) : Type where
  | x
  | y

/-- Two ways, of which a simplifier sees none before it knows which. -/
def Br (b : Bool) (A B : Prop) (_ : Tag (A, B)) : Prop := (b = true → A) ∧ (b = false → B)
theorem Br_true {A B : Prop} {t : Tag (A, B)} : Br true A B t ↔ A := ⟨fun h => h.1 rfl, fun h => ⟨fun _ => h, fun h => (by cases h)⟩⟩
theorem Br_false {A B : Prop} {t : Tag (A, B)} : Br false A B t ↔ B := ⟨fun h => h.2 rfl, fun h => ⟨fun h => (by cases h), fun _ => h⟩⟩
theorem Br.mk {b : Bool} {A B : Prop} {t : Tag (A, B)} (h1 : b = true → A) (h2 : b = false → B) : Br b A B t := ⟨h1, h2⟩
theorem Br.get {b : Bool} {A B : Prop} {t : Tag (A, B)} (h : Br b A B t) : (b = true → A) ∧ (b = false → B) := h
def BrW (b want : Bool) (A B : Prop) : Prop := match want with
  | true => Br b A B .x
  | false => Br b B A .x
theorem BrW_iff {b want : Bool} {A B : Prop} : BrW b want A B ↔ (b = want → A) ∧ (b = !want → B) := by
  cases want
  · exact ⟨fun h => ⟨h.2, h.1⟩, fun h => ⟨h.2, h.1⟩⟩
  · exact ⟨fun h => ⟨h.1, h.2⟩, fun h => ⟨h.1, h.2⟩⟩

/-- the bytes of rows of one byte each -/
def numsO : List (List AV) → Option (List Int)
  | [] => some []
  | [.v (.int .u8 n)] :: r => match numsO r with
    | some l => some (n :: l)
    | none => none
  | _ => none

/-- the first place of a byte in a string; -1 if it has none -/
def idxByte (s : ByteArray) (c : Int) : Int := match (List.range s.size).find? fun i => s[i]! == c.toNat.toUInt8 with
  | some i => i
  | none => -1

def strB (ns : List Int) : ByteArray := ⟨(ns.map fun n => UInt8.ofNat n.toNat).toArray⟩

def plainV : AV → Bool
  | .v _ => true
  | _ => false

/-- Operations that leave the heap alone. -/
def rd (ev : Operand → AV) (h : Name → Option Blk) (K : AV → Prop) : AOp → Prop
  | .mv x => K (ev x)
  | .pick c a b => match ev c with
    | .v (.bool t) => Br t (K (ev a)) (K (ev b)) .x
    | _ => False
  | .load g k a => match ev a with
    | .ro c => k ≤ c.length ∧ K (.mk g (c.take k))
    | .ptr n e c => match h n with
      | some b => c + k ≤ (b.row e).length ∧ K (.mk g (((b.row e).drop c).take k))
      | none => False
    | _ => False
  | .fieldAddr off x => match ev x with
    | .ptr n e c => match h n with
      | some _ => K (.ptr n e (c + off))
      | none => False
    | .ro c => off ≤ c.length ∧ K (.ro (c.drop off))
    | _ => False
  | .loadV g k a => match ev a with
    | .ptr n e c => match h n with
      | some (.var cs z) => (c + k ≤ ((Blk.var cs z).row e).length ∧ (!g || ((((Blk.var cs z).row e).drop c).take k).all plainV) = true) ∧ K (.mk g ((((Blk.var cs z).row e).drop c).take k))
      | _ => False
    | _ => False
  | .fieldV off x => match ev x with
    | .ptr n e c => match h n with
      | some (.var _ _) => K (.ptr n e (c + off))
      | _ => False
    | _ => False
  | .field g off k x => match ev x with
    | .agg c => off + k ≤ c.length ∧ K (.mk g ((c.drop off).take k))
    | _ => False
  | .idxSl k x i => match ev x, ev i with
    | .sl k' l, .v (.int _ i) => (k' = k ∧ 0 ≤ i ∧ i < l.length) ∧ K (.ro (l.getD i.toNat []))
    | .loc n off len, .v (.int _ i) => match h n with
      | some (.arr k' _ _) => (k' = k ∧ 0 ≤ i ∧ i < len) ∧ K (.ptr n (off + i.toNat) 0)
      | _ => False
    | _, _ => False
  | .idxArr n k x i => match ev x, ev i with
    | .ro c, .v (.int _ i) => (0 ≤ i ∧ i < n ∧ i.toNat * k ≤ c.length) ∧ K (.ro (c.drop (i.toNat * k)))
    | .ptr m e c, .v (.int _ i) => match h m with
      | some _ => (0 ≤ i ∧ i < n) ∧ K (.ptr m e (c + i.toNat * k))
      | none => False
    | _, _ => False
  | .idxAgg g n k x i => match ev x, ev i with
    | .agg c, .v (.int _ i) => (0 ≤ i ∧ i < n ∧ i.toNat * k + k ≤ c.length) ∧ K (.mk g ((c.drop (i.toNat * k)).take k))
    | _, _ => False
  | .idxStr x i => match ev x, ev i with
    | .v (.string s), .v (.int _ i) => (0 ≤ i ∧ i < s.size) ∧ K (.v (.int .u8 (s.data.toList.getD i.toNat 0).toNat))
    | _, _ => False
  | .bin op x y => match ev x, ev y with
    | .v (.int k a), .v (.int k' b) => binI op k k' a b K
    | _, _ => False
  | .binS op x y => match ev x, ev y with
    | .v (.string a), .v (.string b) => binStr op a b K
    | _, _ => False
  | .binB op x y => match ev x, ev y with
    | .v (.bool a), .v (.bool b) => binBool op a b K
    | _, _ => False
  | .un op x => match op, ev x with
    | .not, .v (.bool b) => K (.v (.bool (!b)))
    | .neg, .v (.int k n) => K (.v (.int k (k.wrap (0 - n))))
    | .xor, .v (.int k n) => K (.v (.int k (bitsOp .xor k (if k.signed then -1 else k.max) n)))
    | _, _ => False
  | .conv k x => match ev x with
    | .v (.int _ n) => K (.v (.int k (k.wrap n)))
    | _ => False
  | .len x => match ev x with
    | .sl _ l => K (.v (.int .i64 l.length))
    | .loc n _ len => match h n with
      | some (.arr _ _ _) => K (.v (.int .i64 len))
      | _ => False
    | .v (.slice _ n _) => K (.v (.int .i64 n))
    | _ => False
  | .lenS x => match ev x with
    | .v (.string s) => K (.v (.int .i64 s.size))
    | _ => False
  | .lenC n => K (.v (.int .i64 n))
  | .slc k x lo hi => match ev x with
    | .sl k' l =>
      let f : Int → Int → Prop := fun lo hi => (k' = k ∧ 0 ≤ lo ∧ lo ≤ hi ∧ hi ≤ l.length) ∧ K (.sl k ((l.take hi.toNat).drop lo.toNat))
      match lo.map ev, hi.map ev with
      | none, none => f 0 l.length
      | some (.v (.int _ lo)), none => f lo l.length
      | none, some (.v (.int _ hi)) => f 0 hi
      | some (.v (.int _ lo)), some (.v (.int _ hi)) => f lo hi
      | _, _ => False
    | .loc n off len => match h n with
      | some (.arr k' _ _) =>
        let f : Int → Int → Prop := fun lo hi => (k' = k ∧ 0 ≤ lo ∧ lo ≤ hi ∧ hi ≤ len) ∧ K (.loc n (off + lo.toNat) (hi - lo).toNat)
        match lo.map ev, hi.map ev with
        | none, none => f 0 len
        | some (.v (.int _ lo)), none => f lo len
        | none, some (.v (.int _ hi)) => f 0 hi
        | some (.v (.int _ lo)), some (.v (.int _ hi)) => f lo hi
        | _, _ => False
      | _ => False
    | _ => False
  | .sstr x lo hi => match ev x with
    | .v (.string s) =>
      let f : Int → Int → Prop := fun lo hi => (0 ≤ lo ∧ lo ≤ hi ∧ hi ≤ s.size) ∧ K (.v (.string (s.extract lo.toNat hi.toNat)))
      match lo.map ev, hi.map ev with
      | none, none => f 0 s.size
      | some (.v (.int _ lo)), none => f lo s.size
      | none, some (.v (.int _ hi)) => f 0 hi
      | some (.v (.int _ lo)), some (.v (.int _ hi)) => f lo hi
      | _, _ => False
    | _ => False
  | .nilc x => match ev x with
    | .ro c => K (.ro c)
    | .ptr n e c => match h n with
      | some _ => K (.ptr n e c)
      | none => False
    | .fn f c => K (.fn f c)
    | _ => False
  | .extract x i => match ev x with
    | .tup c => i < c.length ∧ K (c.getD i .junk)
    | _ => False
  | .build z parts => layAll ev h z parts fun cs => K (.agg cs)
  | .mkfn f caps => K (.fn f (caps.map ev))
  | .mm mx x y => match ev x, ev y with
    | .v (.int k a), .v (.int _ b) => K (.v (.int k (if mx then (if b > a then b else a) else (if b < a then b else a))))
    | _, _ => False
  | .b2s x => match rowsO 1 h (ev x) with
    | some l => match numsO l with
      | some ns => K (.v (.string (strB ns)))
      | none => False
    | none => False
  | .eqA neg ks x y => match ev x, ev y with
    | .agg c, .agg c' => match eqC ks c c' with
      | some b => K (.v (.bool (if neg then !b else b)))
      | none => False
    | _, _ => False
  | .idxB x y => match ev x, ev y with
    | .v (.string s), .v (.int .u8 c) => K (.v (.int .i64 (idxByte s c)))
    | _, _ => False
  | .box _ | .alloc _ | .bslice .. | .mk .. | .call .. | .store .. | .append .. | .appendC .. | .bsliceC .. | .clr .. => False

/-- what is read out of a variable is read -/
theorem rd_loadV {ev : Operand → AV} {h : Name → Option Blk} {K : AV → Prop} {g : Bool} {k : Nat} {a : Operand} (hv : rd ev h K (.loadV g k a)) : rd ev h K (.load g k a) := by
  simp only [rd] at hv
  split at hv
  · rename_i n e c hx
    split at hv
    · rename_i cs z hb
      simp only [rd, hx, hb]; exact ⟨hv.1.1, hv.2⟩
    · exact hv.elim
  · exact hv.elim
theorem rd_fieldV {ev : Operand → AV} {h : Name → Option Blk} {K : AV → Prop} {off : Nat} {x : Operand} (hv : rd ev h K (.fieldV off x)) : rd ev h K (.fieldAddr off x) := by
  simp only [rd] at hv
  split at hv
  · rename_i n e c hx
    split at hv
    · rename_i cs z hb
      simp only [rd, hx, hb]; exact hv
    · exact hv.elim
  · exact hv.elim

/-! ## resolving -/
def szOf (P : Program) (t : TypeId) : Option Nat := (P.info? t).map (·.size)
def isAggT (P : Program) (t : TypeId) : Option Bool :=
  match P.underlying t with
  | some (.struct _) | some (.array _ _) => some true
  | some _ => some false
  | none => none

/-- the cells that a load takes: one, where the type is no struct or array -/
def ldOf (P : Program) (t : TypeId) : Option (Bool × Nat) :=
  match isAggT P t, szOf P t with
  | some true, some n => some (true, n)
  | some false, some _ => some (false, 1)
  | _, _ => none

theorem run_isAgg {P : Program} {t : TypeId} {b : Bool} (h : isAggT P t = some b) (w : World) : (isAgg t).run P w = .ok b w := by
  unfold isAggT at h
  unfold isAgg underlying
  cases hu : P.underlying t with
  | none => simp [hu] at h
  | some d => cases d <;> simp_all

theorem run_sizeOf {P : Program} {t : TypeId} {n : Nat} (h : szOf P t = some n) (w : World) : (sizeOf t).run P w = .ok n w := by
  unfold szOf at h
  unfold sizeOf typeInfo
  cases hi : P.info? t with
  | none => simp [hi] at h
  | some i => simp_all

theorem run_underlying {P : Program} {t : TypeId} {d : TypeDesc} (h : P.underlying t = some d) (w : World) : (underlying t).run P w = .ok d w := by
  unfold underlying; simp [h]

end Go.Vs
