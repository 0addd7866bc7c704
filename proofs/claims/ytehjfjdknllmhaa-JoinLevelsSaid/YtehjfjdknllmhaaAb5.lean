/- An abstract machine over list values: what each operation gives; a contract of a function. -/
import Derived.Test.YtehjfjdknllmhaaAb4
import Derived.IntWalk
set_option linter.unusedVariables false
set_option linter.unusedSimpArgs false
set_option linter.unnecessarySimpa false
namespace Go.Ab
open Go

abbrev I (n : Int) : V := .imm (.int .i64 n)
abbrev B (b : Bool) : V := .imm (.bool b)

def R64 (n : Int) : Prop := -9223372036854775808 ≤ n ∧ n ≤ 9223372036854775807

/-! ### Constants, types -/
def ofL : Value → V
  | .slice none 0 0 => .arr [] .full
  | .func (.func f) first caps => if first.size = 0 ∧ caps.size = 0 then .fn f [] else .imm (.func (.func f) first caps)
  | x => .imm x
def ofC : Value → V
  | .agg cs => if cs.all Value.oneCell' then .agg (cs.toList.map ofL) else .junk
  | .tuple cs => .junk
  | x => ofL x

def szT (P : Program) (t : TypeId) : Nat := P.cellsOf t
def byT (P : Program) (t : TypeId) : Nat := P.bytesOf t
def agT (P : Program) (t : TypeId) : Bool := match P.underlying t with | some (.struct _) => true | some (.array _ _) => true | _ => false
def zeroV (P : Program) (t : TypeId) : Option V := match P.info? t with | some i => i.zero.map ofC | none => none

structure An where
  imm : List Nat := []
  jn : List (Nat × List Nat) := []
  lp : List (Nat × List Nat) := []
  loud : List Nat := []
  ord : List (Nat × List (Nat × Nat) × List (List Nat)) := []

def hasN : List Nat → Nat → Bool
  | [], _ => false
  | k :: L, i => Nat.beq k i || hasN L i
/-- A call that may turn the abstract heap in a region that draws its order. -/
def loudO (an : An) (o : Oper) : Bool := match o.dst with | some d => hasN an.loud d | none => false

/-! ### Operands -/
def evV (fr : Fr) : Operand → V
  | .tmp t => fr t
  | .const v => ofC v
  | .global g => .imm (.pointer (some ⟨g, 0, none⟩))
  | .func f => .fn f []

/-- An operand as it is read: it owns nothing, but for the slot that is used up. -/
def opd (fr : Fr) (c : Option Nat) : Operand → V
  | .tmp t => bif c == some t then fr t else (fr t).nod
  | x => evV fr x

def isBase (d : Nat) (o : Oper) : Bool :=
  match o.op with
  | .call { callee := .builtin .append, args, argTypes := _ } => (match args.toList with | .tmp t :: _ => Nat.beq t d | _ => false)
  | _ => false
def mvOf (ops : List Oper) (o : Oper) : Bool := match o.dst with | some d => ops.any (isBase d) | none => false

def isTmp (t : Nat) : Operand → Bool
  | .tmp k => Nat.beq k t
  | _ => false
/-- The slot that becomes the first part of a struct, and no other part. -/
def firstT : List (Nat × Operand) → Option Nat
  | (0, .tmp t) :: rest => bif rest.all (fun p => !isTmp t p.2) then some t else none
  | _ => none
/-- The slot that an operation uses up. -/
def consOf (mv : Bool) (o : Oper) : Option Nat :=
  match o.op with
  | .assign (.tmp t) => some t
  | .move (.tmp t) => bif mv then some t else none
  | .store _ _ (.tmp t) => some t
  | .build _ parts => firstT parts.toList
  | .call { callee := .builtin .append, args, argTypes := _ } => (match args.toList with | .tmp t :: _ => some t | _ => none)
  | _ => none

def useO (fr : Fr) (c : Option Nat) : Fr := match c with | some t => put fr t (fr t).nod | none => fr
def putO (fr : Fr) (d : Option Nat) (v : V) : Fr := match d with | some d => put fr d v | none => fr

/-! ### Cells -/
def cellOk : V → Bool
  | .junk | .agg _ | .tup _ => false
  | .imm x => x.oneCell'
  | _ => true
def okE (size : Nat) (v : V) : Prop := v.cl.length = size ∧ ∀ c, c ∈ v.cl → cellOk c = true
def cutA (off size : Nat) (ag : Bool) (cs : List V) : V := bif ag then .agg ((cs.drop off).take size) else cs.getD off .junk
def spl (cs : List V) (off : Nat) (vs : List V) : List V := cs.take off ++ vs ++ cs.drop (off + vs.length)
def stV : V → V
  | .agg (c :: cs) => .agg (c :: cs.map V.nodL)
  | v => v
/-- A struct whose first part is a list with its spare room. -/
def own0 (v u : V) : V := match v, u with | .agg (_ :: cs), .arr xs f => .agg (.arr xs f :: cs) | v, _ => v

/-! ### What the operations give -/
def aPick (c a b : V) (K : V → Prop) : Prop := match c with | .imm (.bool t) => K (bif t then a else b) | _ => False

def aNum (k : IntKind) (n : Int) (K : V → Prop) : Prop := match k with | .i64 => R64 n ∧ K (I n) | k => K (.imm (.int k (k.wrap n)))
def bitsV (op : BinOp) (k : IntKind) (a b : Int) : Int :=
  k.wrap (match op with
    | .and => (BitVec.ofInt k.bits a &&& BitVec.ofInt k.bits b).toNat
    | .or => (BitVec.ofInt k.bits a ||| BitVec.ofInt k.bits b).toNat
    | .xor => (BitVec.ofInt k.bits a ^^^ BitVec.ofInt k.bits b).toNat
    | _ => (BitVec.ofInt k.bits a &&& ~~~ (BitVec.ofInt k.bits b)).toNat)
def aInt (op : BinOp) (k : IntKind) (a : Int) (k' : IntKind) (b : Int) (K : V → Prop) : Prop :=
  match op with
  | .shl => 0 ≤ b ∧ aNum k (a * 2 ^ (min b.toNat k.bits)) K
  | .shr => 0 ≤ b ∧ K (.imm (.int k (a.fdiv (2 ^ (min b.toNat k.bits)))))
  | .add => k = k' ∧ aNum k (a + b) K
  | .sub => k = k' ∧ aNum k (a - b) K
  | .mul => k = k' ∧ aNum k (a * b) K
  | .quo => k = k' ∧ b ≠ 0 ∧ aNum k (a.tdiv b) K
  | .rem => k = k' ∧ b ≠ 0 ∧ K (.imm (.int k (a.tmod b)))
  | .and => k = k' ∧ K (.imm (.int k (bitsV .and k a b)))
  | .or => k = k' ∧ K (.imm (.int k (bitsV .or k a b)))
  | .xor => k = k' ∧ K (.imm (.int k (bitsV .xor k a b)))
  | .andNot => k = k' ∧ K (.imm (.int k (bitsV .andNot k a b)))
  | .eql => k = k' ∧ K (B (decide (a = b)))
  | .neq => k = k' ∧ K (B (!decide (a = b)))
  | .lss => k = k' ∧ K (B (decide (a < b)))
  | .leq => k = k' ∧ K (B (decide (a ≤ b)))
  | .gtr => k = k' ∧ K (B (decide (b < a)))
  | .geq => k = k' ∧ K (B (decide (b ≤ a)))
def aStr (op : BinOp) (s t : ByteArray) (K : V → Prop) : Prop :=
  match op with
  | .add => s.size + t.size ≤ 9223372036854775807 ∧ K (.imm (.string (s ++ t)))
  | .eql => K (B (s.toList == t.toList))
  | .neq => K (B (!(s.toList == t.toList)))
  | _ => False
def aBool (d : Option TypeDesc) (op : BinOp) (a b : Bool) (K : V → Prop) : Prop :=
  match d, op with
  | some .bool, .eql => K (B (a == b))
  | some .bool, .neq => K (B (!(a == b)))
  | _, _ => False
def aBin (d : Option TypeDesc) (op : BinOp) (x y : V) (K : V → Prop) : Prop :=
  match x, y with
  | .imm (.int k a), .imm (.int k' b) => aInt op k a k' b K
  | .imm (.bool a), .imm (.bool b) => aBool d op a b K
  | .imm (.string s), .imm (.string t) => aStr op s t K
  | _, _ => False
/-- A slice held against nil: which of the two an empty one is, is left open. -/
def aNilS (d : Option TypeDesc) (op : BinOp) (x : V) (K : V → Prop) : Prop :=
  match d, op, x with
  | some (.slice _), .eql, .arr xs _ => (xs ≠ [] → K (B false)) ∧ (xs = [] → K (B true) ∧ K (B false))
  | some (.slice _), .neq, .arr xs _ => (xs ≠ [] → K (B true)) ∧ (xs = [] → K (B true) ∧ K (B false))
  | _, _, _ => False
def aNilP (d : Option TypeDesc) (op : BinOp) (x : V) (K : V → Prop) : Prop :=
  match d, op, x with
  | some (.pointer _), .eql, .imm (.pointer none) => K (B true)
  | some (.pointer _), .neq, .imm (.pointer none) => K (B false)
  | some (.pointer _), .eql, .ptr _ _ => K (B false)
  | some (.pointer _), .neq, .ptr _ _ => K (B true)
  | some (.pointer _), .eql, .cptr _ => K (B false)
  | some (.pointer _), .neq, .cptr _ => K (B true)
  | _, _, _ => False
def aUn (op : UnOp) (x : V) (K : V → Prop) : Prop :=
  match op, x with
  | .neg, .imm (.int k n) => aNum k (0 - n) K
  | .not, .imm (.bool b) => K (B (!b))
  | _, _ => False
def aExt (i : Nat) (x : V) (K : V → Prop) : Prop := match x with | .tup vs => i < vs.length ∧ K (vs.getD i .junk) | _ => False

def aFA (off size : Nat) (ag : Bool) (x : V) (K : V → Prop) : Prop :=
  match x with
  | .ptr b o => K (.ptr b (o + off))
  | .cptr (.agg cs) => off + size ≤ cs.length ∧ K (.cptr (cutA off size ag cs))
  | _ => False
def ldC (size : Nat) (ag : Bool) (v : V) (K : V → Prop) : Prop :=
  match ag, v with
  | true, .agg cs => cs.length = size ∧ K (.agg cs)
  | true, _ => False
  | false, .agg _ => False
  | false, v => K v
def aLd (size : Nat) (ag mv : Bool) (x : V) (H : Hp) (K : V → Hp → Prop) : Prop :=
  match x with
  | .cptr v => ldC size ag v fun u => K u H
  | .ptr b off =>
    (match H[b]? with
     | some (.cells cs) => off + size ≤ cs.length ∧ (bif mv && !ag then K (cs.getD off .junk) (H.set b (.cells (cs.set off (cs.getD off .junk).nodL))) else K (cutA off size ag cs).nod H)
     | _ => False)
  | _ => False
def aSt (size : Nat) (x v : V) (H : Hp) (K : V → Hp → Prop) : Prop :=
  match x with
  | .ptr b off =>
    (match H[b]? with
     | some (.cells cs) => off + size ≤ cs.length ∧ okE size (stV v) ∧ K .junk (H.set b (.cells (spl cs off (stV v).cl)))
     | _ => False)
  | _ => False
def aIx (size : Nat) (x i : V) (K : V → Prop) : Prop :=
  match x, i with
  | .arr xs _, .imm (.int _ n) => 0 ≤ n ∧ n < xs.length ∧ (xs.getD n.toNat .junk).cl.length = size ∧ K (.cptr (xs.getD n.toNat .junk))
  | .sl b off len _, .imm (.int _ n) => 0 ≤ n ∧ n < len ∧ K (.ptr b (off + n.toNat * size))
  | _, _ => False
def aIxA (len size : Nat) (ag : Bool) (x i : V) (K : V → Prop) : Prop :=
  match x, i with
  | .ptr b off, .imm (.int _ n) => 0 ≤ n ∧ n < len ∧ K (.ptr b (off + n.toNat * size))
  | .cptr (.agg cs), .imm (.int _ n) => 0 ≤ n ∧ n < len ∧ n.toNat * size + size ≤ cs.length ∧ K (.cptr (cutA (n.toNat * size) size ag cs))
  | _, _ => False
def aLen (x : V) (K : V → Prop) : Prop :=
  match x with
  | .arr xs _ => K (I xs.length)
  | .sl _ _ len _ => K (I len)
  | _ => False
def aLenT (x : V) (K : V → Prop) : Prop :=
  match x with
  | .imm (.string s) => K (I s.size)
  | _ => False
def intOf? : Option V → Option Int
  | some (.imm (.int _ n)) => some n
  | _ => none
def SzL (size : Nat) (xs : List V) : Prop := ∀ u, u ∈ xs → u.cl.length = size
/-- Where a part of a block begins; one without room does not go on. -/
def offS (off l m size : Nat) : Nat := if m = l then off else off + l * size
/-- 'x[l:h:m]', each bound there or not. -/
def aSlc (size : Nat) (x : V) (lo hi mx : Option V) (K : V → Prop) : Prop :=
  match x with
  | .arr xs f => SzL size xs ∧
    (match lo, hi, mx with
     | none, none, none => K (.arr xs .no)
     | some (.imm (.int _ l)), none, none => 0 ≤ l ∧ l ≤ xs.length ∧ K (.arr (xs.drop l.toNat) .no)
     | none, some (.imm (.int _ h)), none => 0 ≤ h ∧ h ≤ xs.length ∧ K (.arr (xs.take h.toNat) .no)
     | some (.imm (.int _ l)), some (.imm (.int _ h)), none => 0 ≤ l ∧ l ≤ h ∧ h ≤ xs.length ∧ K (.arr ((xs.take h.toNat).drop l.toNat) .no)
     | none, some (.imm (.int _ h)), some (.imm (.int _ m)) => 0 ≤ h ∧ h = m ∧ m ≤ xs.length ∧ K (.arr (xs.take h.toNat) .full)
     | some (.imm (.int _ l)), some (.imm (.int _ h)), some (.imm (.int _ m)) => 0 ≤ l ∧ l ≤ h ∧ h = m ∧ m ≤ xs.length ∧ K (.arr ((xs.take h.toNat).drop l.toNat) .full)
     | _, _, _ => False)
  | .sl b off len cap =>
    (match lo, hi, mx with
     | none, none, none => K (.sl b off len cap)
     | some (.imm (.int _ l)), none, none => 0 ≤ l ∧ l ≤ len ∧ K (.sl b (offS off l.toNat cap size) (len - l.toNat) (cap - l.toNat))
     | none, some (.imm (.int _ h)), none => 0 ≤ h ∧ h ≤ cap ∧ K (.sl b off h.toNat cap)
     | some (.imm (.int _ l)), some (.imm (.int _ h)), none => 0 ≤ l ∧ l ≤ h ∧ h ≤ cap ∧ K (.sl b (offS off l.toNat cap size) (h.toNat - l.toNat) (cap - l.toNat))
     | none, some (.imm (.int _ h)), some (.imm (.int _ m)) => 0 ≤ h ∧ h ≤ m ∧ m ≤ cap ∧ K (.sl b off h.toNat m.toNat)
     | some (.imm (.int _ l)), some (.imm (.int _ h)), some (.imm (.int _ m)) => 0 ≤ l ∧ l ≤ h ∧ h ≤ m ∧ m ≤ cap ∧ K (.sl b (offS off l.toNat m.toNat size) (h.toNat - l.toNat) (m.toNat - l.toNat))
     | _, _, _ => False)
  | _ => False
/-- Append to nothing, into a block of its own. -/
def aAppB (size bytes : Nat) (x y : V) (H : Hp) (K : V → Hp → Prop) : Prop :=
  match x, y with
  | .arr [] .full, .arr ys _ => ys ≠ [] ∧ (∀ e, e ∈ ys → e.cl.length = size ∧ ∀ c, c ∈ e.cl → cellOk c = true) ∧ ys.length * bytes ≤ 140737488355328 ∧ K (.sl H.length 0 ys.length ys.length) (H ++ [.cells (ys.flatMap V.cl)])
  | _, _ => False
def aApp (size bytes : Nat) (x y : V) (K : V → Prop) : Prop :=
  match x, y with
  | .arr xs f, .arr ys _ => f ≠ .no ∧ SzL size xs ∧ SzL size ys ∧ (xs.length + ys.length) * bytes ≤ 140737488355328 ∧ K (.arr (xs ++ ys) .own)
  | _, _ => False
def aCpy (size : Nat) (x y : V) (H : Hp) (K : V → Hp → Prop) : Prop :=
  match x, y with
  | .sl b off len _, .arr ys _ =>
    (match H[b]? with
     | some (.cells cs) => SzL size ys ∧ off + (min ys.length len) * size ≤ cs.length ∧
         K (I ((min ys.length len : Nat) : Int)) (H.set b (.cells (spl cs off ((ys.take (min ys.length len)).flatMap V.cl))))
     | _ => False)
  | _, _ => False
def aMk (imm : Bool) (z : V) (bytes : Nat) (x y : V) (H : Hp) (K : V → Hp → Prop) : Prop :=
  match x, y with
  | .imm (.int _ n), .imm (.int _ m) => n = m ∧ 0 ≤ n ∧ n * bytes ≤ 140737488355328 ∧
      (bif imm then K (.arr (List.replicate n.toNat z) .full) H else K (.sl H.length 0 n.toNat n.toNat) (H ++ [.cells (List.replicate n.toNat z.cl).flatten]))
  | _, _ => False
def aPs (size len : Nat) : List (Nat × V) → Prop
  | [] => True
  | (i, v) :: rest => i < len ∧ okE size v ∧ aPs size len rest
def setP (l : List V) : List (Nat × V) → List V
  | [] => l
  | (i, v) :: rest => setP (l.set i v) rest
def aBS (size len : Nat) (z : V) (ps : List (Nat × V)) (K : V → Prop) : Prop := aPs size len ps ∧ K (.arr (setP (List.replicate len z) ps) .full)
def aBx (imm : Bool) (size : Nat) (v : V) (H : Hp) (K : V → Hp → Prop) : Prop :=
  okE size v ∧ (bif imm then K (.cptr v) H else K (.ptr H.length 0) (H ++ [.cells v.cl]))
def aBd (cs : List V) (parts : List (Nat × Nat × V)) (K : V → Prop) : Prop :=
  match parts with
  | [] => K (.agg cs)
  | (off, size, v) :: rest => okE size v ∧ off + size ≤ cs.length ∧ aBd (spl cs off v.cl) rest K
def aNC (x : V) (K : V → Prop) : Prop := match x with | .ptr b o => K (.ptr b o) | .cptr v => K (.cptr v) | _ => False
def aCv (d : Option TypeDesc) (x : V) (K : V → Prop) : Prop :=
  match d, x with
  | some (.int k), .imm (.int _ n) => aNum k n K
  | _, _ => False
def mm2 (mx : Bool) (x y : Int) : Int := bif mx then (if x < y then y else x) else (if y < x then y else x)
def aMM2 (mx : Bool) (acc : V) : List V → (V → Prop) → Prop
  | [], K => (match acc with | .imm (.int k a) => K (.imm (.int k a)) | _ => False)
  | y :: rest, K => (match acc, y with | .imm (.int k a), .imm (.int k' b) => k = k' ∧ aMM2 mx (.imm (.int k (mm2 mx a b))) rest K | _, _ => False)
def aMM (mx : Bool) (l : List V) (K : V → Prop) : Prop := match l with | [] => False | x :: rest => aMM2 mx x rest K

/-! ### A function's contract -/
def argF (args : List V) : Fr := fun i => args.getD i .junk
def oneF (v : V) : Fr := fun i => bif Nat.beq i 0 then v else .junk

/-- Called with these values over this heap, function f gives v and leaves H': in whatever memory, whatever is drawn. -/
def Ret (P : Program) (f : Nat) (args : List V) (H : Hp) (v : V) (H' : Hp) : Prop :=
  (∀ ar w, (callFunc f ar).run P w = .ok (.enter f ar) w) ∧ ∀ (σ : Sg) (w : World) (ra : Array Value), args.length = ra.size → St σ w (argF args) ra H → (∀ a, a ∈ args → a.Nd) →
    Calls P f ra w fun e w' => ∃ x σ', e = .returned x ∧ St σ' w' (oneF v) #[x] H' ∧ Tr σ w (Own σ w (argF args) ra H) σ' w' (Own σ' w' (oneF v) #[x] H')

/-- A call of yield, of the loop that is block b: what the loop's body gives. -/
def RetY (P : Program) (b : Nat) (args : List V) (H : Hp) (v : V) (H' : Hp) : Prop :=
  ∀ (σ : Sg) (w : World) (ra : Array Value), args.length = ra.size → St σ w (argF args) ra H → (∀ a, a ∈ args → a.Nd) →
    ∃ f tmps as body, (Instr.yield (σ.ρ b) ra).run P w = .ok (.round (σ.ρ b) f tmps as body) w ∧ ∀ r, RoundIn { Fence.wide with round := r } 0 P (σ.ρ b) f tmps as body w fun e w' =>
      ∃ x σ', e = .returned x ∧ St σ' w' (oneF v) #[x] H' ∧ Tr σ w (Own σ w (argF args) ra H) σ' w' (Own σ' w' (oneF v) #[x] H')

def CallA (P : Program) (f : Nat) (args : List V) (H : Hp) (K : V → Hp → Prop) : Prop := ∃ v H', Ret P f args H v H' ∧ K v H'
def CallY (P : Program) (b : Nat) (args : List V) (H : Hp) (K : V → Hp → Prop) : Prop := ∃ v H', RetY P b args H v H' ∧ K v H'
def aCall (P : Program) (fv : V) (args : List V) (H : Hp) (K : V → Hp → Prop) : Prop := match fv with | .fn f caps => CallA P f (args ++ caps) H K | .yld b => CallY P b args H K | _ => False

def partsOf (pl : Nat → Option (Nat × Nat)) (ev : Operand → V) : List (Nat × Operand) → Option (List (Nat × Nat × V))
  | [] => some []
  | (i, x) :: rest => match pl i with | some (off, size) => (partsOf pl ev rest).map ((off, size, ev x) :: ·) | none => none
def placesOf (P : Program) (t : TypeId) : Option (Nat → Option (Nat × Nat)) :=
  match P.underlying t with
  | some (.struct fs) => (match fs.toList.mapM (fun f => (P.info? f.type).map fun i => (f.offset, i.size)) with | some places => some (fun x => places.toArray[x]?) | none => none)
  | some (.array _ e) => (match P.info? e with | some ie => some (fun i => some (i * ie.size, ie.size)) | none => none)
  | _ => none

def bld0 (pl : Nat → Option (Nat × Nat)) (parts : List (Nat × Operand)) : Bool :=
  match pl 0 with
  | some (off, size) => Nat.beq off 0 && Nat.beq size 1 && (firstT parts).isSome && parts.tail.all (fun p => match pl p.1 with | some (off, _) => Nat.ble 1 off | none => false)
  | none => false
def firstV (ev : Operand → V) : List (Nat × Operand) → V
  | p :: _ => ev p.2
  | [] => .junk

def immO (an : An) (o : Oper) : Bool := match o.dst with | some d => an.imm.contains d | none => false

def effA (P : Program) (an : An) (mv : Bool) (o : Oper) (ev : Operand → V) (H : Hp) (K : V → Hp → Prop) : Prop :=
  match o.op with
  | .move x => K (ev x) H
  | .assign x => K (ev x) H
  | .pick c a b => aPick (ev c) (ev a) (ev b) fun v => K v H
  | .binOp op t x (.const (.slice none 0 0)) _ => aNilS (P.underlying t) op (ev x) fun v => K v H
  | .binOp op t x (.const (.pointer none)) _ => aNilP (P.underlying t) op (ev x) fun v => K v H
  | .binOp op t x y _ => aBin (P.underlying t) op (ev x) (ev y) fun v => K v H
  | .unOp op _ x => aUn op (ev x) fun v => K v H
  | .extract x i => aExt i (ev x) fun v => K v H
  | .alloc t => (match zeroV P t with | some z => aBx false (szT P t) z H K | none => False)
  | .box t x => aBx (immO an o) (szT P t) (ev x) H K
  | .fieldAddr s x f =>
    (match P.underlying s with
     | some (.struct fs) => (match fs[f]? with | some fd => (bif Nat.beq (szT P fd.type) 0 then False else aFA fd.offset (szT P fd.type) (agT P fd.type) (ev x) fun v => K v H) | none => False)
     | _ => False)
  | .load t x => (match P.underlying t with | some _ => bif Nat.beq (szT P t) 0 then False else aLd (szT P t) (agT P t) mv (ev x) H K | none => False)
  | .store t x v => bif Nat.beq (szT P t) 0 then False else aSt (szT P t) (ev x) (ev v) H K
  | .indexAddr t x i =>
    (match P.underlying t with
     | some (.slice e) => bif Nat.beq (szT P e) 0 then False else aIx (szT P e) (ev x) (ev i) fun v => K v H
     | some (.array n e) => bif Nat.beq (szT P e) 0 then False else aIxA n (szT P e) (agT P e) (ev x) (ev i) fun v => K v H
     | _ => False)
  | .slice t x lo hi mx =>
    (match P.underlying t with
     | some (.slice e) => bif Nat.beq (szT P e) 0 then False else aSlc (szT P e) (ev x) (lo.map ev) (hi.map ev) (mx.map ev) fun v => K v H
     | _ => False)
  | .makeSlice t l c =>
    (match P.underlying t with
     | some (.slice e) => (match zeroV P e with | some z => bif !(Nat.beq z.cl.length (szT P e) && z.cl.all cellOk) || Nat.beq (byT P e) 0 || Nat.beq (szT P e) 0 then False else aMk (immO an o) z (byT P e) (ev l) (ev c) H K | none => False)
     | _ => False)
  | .buildSlice t len parts =>
    (match P.underlying t with
     | some (.slice e) => (match zeroV P e with | some z => bif !(Nat.beq z.cl.length (szT P e) && z.cl.all cellOk) || Nat.beq (szT P e) 0 || !Nat.ble (len * szT P e) 16777216 then False else aBS (szT P e) len z (parts.toList.map fun p => (p.1, ev p.2)) fun v => K v H | none => False)
     | _ => False)
  | .build t parts =>
    (match placesOf P t with
     | some pl => (match zeroV P t, partsOf pl (fun x => (ev x).nod) parts.toList with | some (.agg cs), some ps => aBd cs ps fun v => K (match bld0 pl parts.toList with | true => own0 v (firstV ev parts.toList) | false => v) H | _, _ => False)
     | none => False)
  | .makeInterface t x => (match P.underlying t with | some (.interface _) => False | some _ => K (.ifc t (ev x)) H | none => False)
  | .makeFunc (.func f) first caps => (match first.toList with | [] => K (.fn f (caps.toList.map ev)) H | _ => False)
  | .nilCheck x => aNC (ev x) fun v => K v H
  | .convert s d x => (match P.underlying s with | some _ => aCv (P.underlying d) (ev x) fun v => K v H | none => False)
  | .call { callee := .builtin .len, args, argTypes } =>
    (match args.toList, argTypes.toList with | [x], [t] => (match P.underlying t with | some (.slice _) => aLen (ev x) fun v => K v H | some .string => aLenT (ev x) fun v => K v H | _ => False) | _, _ => False)
  | .call { callee := .builtin .append, args, argTypes } =>
    (match args.toList, argTypes.toList with
     | [x, y], [t, t'] => (bif Nat.beq t t' then (match P.underlying t with | some (.slice e) => (match zeroV P e with | some z => (bif !(Nat.beq z.cl.length (szT P e) && z.cl.all cellOk) || Nat.beq (szT P e) 0 || Nat.beq (byT P e) 0 then False else (bif immO an o then aAppB (szT P e) (byT P e) (ev x) (ev y) H K else aApp (szT P e) (byT P e) (ev x) (ev y) fun v => K v H)) | none => False) | _ => False) else False)
     | _, _ => False)
  | .call { callee := .builtin .copy, args, argTypes } =>
    (match args.toList, argTypes.toList with
     | [x, y], [t, _] => (match P.underlying t with | some (.slice e) => bif Nat.beq (szT P e) 0 then False else aCpy (szT P e) (ev x) (ev y) H K | _ => False)
     | _, _ => False)
  | .call { callee := .builtin .max, args, argTypes := _ } => aMM true (args.toList.map ev) fun v => K v H
  | .call { callee := .builtin .min, args, argTypes := _ } => aMM false (args.toList.map ev) fun v => K v H
  | .call { callee := .value f, args, argTypes := _ } => aCall P (ev f) (args.toList.map ev) H K
  | _ => False

def opA (P : Program) (an : An) (ops : List Oper) (o : Oper) (fr : Fr) (H : Hp) (K : Fr → Hp → Prop) : Prop :=
  effA P an (mvOf ops o) o (opd fr (consOf (mvOf ops o) o)) H fun v H' => K (putO (useO fr (consOf (mvOf ops o) o)) o.dst v) H'
end Go.Ab
