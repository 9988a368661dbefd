/- The evaluator over abstract memory: values, columns, blocks, one operation, code, calls. Definitions alone; nothing is proved here. -/
import Derived.Calls
import Derived.Laws.Sem
import Derived.KernelRfl
namespace Go.Ab
open Go

/-! ## Values -/
inductive V where
  | undef
  | B (x : Bool)
  | I (k : IntKind) (n : Int)
  | S (x : List Int)
  | ptr (k row fld : Nat)
  | nilp
  | sl (k row : Nat) (len cap : Option Nat)
  | nils
  | agg (vs : List V)
  | tup (vs : List V)
  | fn (f : Fn) (first captured : List V)
  | nilf
  | ifc (t : TypeId) (v : V)
  | nili
  | nilm
  | mapp (k : Nat)
  | itp (k : Nat)
  | yv (k : Nat)
  | L (k : IntKind) (i : Nat) (q b c d : Int)
  | pan (v : V)
  | chp (k : Nat)

/-- A number q * c + d of the variable 'i' (0 <= q < b), as a plain number. -/
def V.pl : V → V | .L k _ q _ c d => .I k (q * c + d) | v => v
def inR (k : IntKind) (n : Int) : Bool := decide (k.min ≤ n) && decide (n ≤ k.max)

def V.of1 : Value → V
  | .bool b => .B b
  | .int k n => if inR k n then .I k n else .undef
  | .string s => if s.size ≤ 9223372036854775807 then .S (s.data.toList.map fun c => (c.toNat : Int)) else .undef
  | .pointer none => .nilp
  | .slice none 0 0 => .nils
  | .nilFunc => .nilf
  | .nilIface => .nili
  | .map none => .nilm
  | _ => .undef
def V.of : Value → V
  | .agg cs => if cs.toList.all Value.oneCell' then .agg (cs.toList.map V.of1) else .undef
  | v => V.of1 v

/-- A value's cells; none, if it is not known to be storable. -/
def V.cells? : V → Option (List V)
  | .agg vs => some vs
  | .undef => none
  | .tup _ => none
  | .pan _ => none
  | v => some [v]
/-- The cells of a value that is known to be storable. -/
def V.cells (v : V) : List V := match v.cells? with | some cs => cs | none => []
def V.sto : V → Bool
  | .undef => false
  | .tup _ => false
  | .pan _ => false
  | _ => true

mutual
def V.refs : V → List Nat
  | .ptr k _ _ => [k]
  | .sl k _ _ _ => [k]
  | .mapp k => [k]
  | .itp k => [k]
  | .yv k => [k]
  | .chp k => [k]
  | .agg vs => V.refsL vs
  | .tup vs => V.refsL vs
  | .fn _ a c => V.refsL a ++ V.refsL c
  | .ifc _ v => V.refs v
  | .pan v => V.refs v
  | _ => []
def V.refsL : List V → List Nat
  | [] => []
  | v :: vs => V.refs v ++ V.refsL vs
end

mutual
def V.ren (π : Nat → Option Nat) : V → V
  | .ptr k r f => match π k with | some j => .ptr j r f | none => .undef
  | .sl k r l c => match π k with | some j => .sl j r l c | none => .undef
  | .mapp k => match π k with | some j => .mapp j | none => .undef
  | .itp k => match π k with | some j => .itp j | none => .undef
  | .yv k => match π k with | some j => .yv j | none => .undef
  | .chp k => match π k with | some j => .chp j | none => .undef
  | .agg vs => .agg (V.renL π vs)
  | .tup vs => .tup (V.renL π vs)
  | .fn f a c => .fn f (V.renL π a) (V.renL π c)
  | .ifc t v => .ifc t (V.ren π v)
  | .pan v => .pan (V.ren π v)
  | v => v
def V.renL (π : Nat → Option Nat) : List V → List V
  | [] => []
  | v :: vs => V.ren π v :: V.renL π vs
end

mutual
def V.kill (j : Nat) : V → V
  | .ptr k r f => if k = j then .undef else .ptr k r f
  | .sl k r l c => if k = j then .undef else .sl k r l c
  | .mapp k => if k = j then .undef else .mapp k
  | .itp k => if k = j then .undef else .itp k
  | .yv k => if k = j then .undef else .yv k
  | .chp k => if k = j then .undef else .chp k
  | .agg vs => .agg (V.killL j vs)
  | .tup vs => .tup (V.killL j vs)
  | .fn f a c => .fn f (V.killL j a) (V.killL j c)
  | .ifc t v => .ifc t (V.kill j v)
  | .pan v => .pan (V.kill j v)
  | v => v
def V.killL (j : Nat) : List V → List V
  | [] => []
  | v :: vs => V.kill j v :: V.killL j vs
end

/-! ## Memory: blocks of columns -/
inductive Col where
  | ints (k : IntKind) (xs : List Int)
  | bools (xs : List Bool)
  | strs (xs : List (List Int))
  | vals (xs : List V)
  | mix (k : IntKind) (n : Nat) (xs : List Int) (vs : List V)
  | map (es : List (V × V))
  | it (k n : Nat) (seen : List Nat) (last : Nat)
  | st (xs : List Int) (pos : Nat)
  | lp (st : LoopState) (pend : Option Code) (ps : Array Tmp) (asg body : Code) (d : List V)
  | gone
  | ch (cap : Nat) (xs : List V)

/-- The 'j'th of numbers, of which those at the end that are 0 need not stand there, anew. -/
def setP : List Int → Nat → Int → List Int
  | [], 0, v => [v]
  | [], j + 1, v => 0 :: setP [] j v
  | _ :: xs, 0, v => v :: xs
  | x :: xs, j + 1, v => x :: setP xs j v
def takeP : Nat → List Int → List Int
  | 0, _ => []
  | m + 1, [] => 0 :: takeP m []
  | m + 1, x :: xs => x :: takeP m xs
def mixL (k : IntKind) (n : Nat) (xs : List Int) : List V := (List.range n).map fun i => V.I k (xs.getD i 0)
def Col.len : Col → Nat
  | .ints _ xs => xs.length
  | .bools xs => xs.length
  | .strs xs => xs.length
  | .vals xs => xs.length
  | .mix _ n _ vs => n + vs.length
  | _ => 0
def Col.get (j : Nat) : Col → V
  | .ints k xs => .I k (xs.getD j 0)
  | .bools xs => .B (xs.getD j false)
  | .strs xs => .S (xs.getD j [])
  | .vals xs => xs.getD j .undef
  | .mix k n xs vs => (match Nat.blt j n with | true => .I k (xs.getD j 0) | false => vs.getD (j - n) .undef)
  | _ => .undef
def Col.set (j : Nat) (v : V) : Col → Option Col
  | .ints k xs => match v with | .I k' n => if k' = k then some (.ints k (xs.set j n)) else none | .L k' i q b c d => some (.vals ((xs.map (V.I k)).set j (.L k' i q b c d))) | _ => none
  | .bools xs => match v with | .B x => some (.bools (xs.set j x)) | _ => none
  | .strs xs => match v with | .S x => some (.strs (xs.set j x)) | _ => none
  | .vals xs => some (.vals (xs.set j v))
  | .mix k n xs vs => (match Nat.blt j n with | true => (match v with | .I k' x => if k' = k then some (.mix k n (setP xs j x) vs) else none | _ => none) | false => some (.mix k n xs (vs.set (j - n) v)))
  | _ => none
/-- Is it a column of cells (and no map or iterator)? -/
def Col.plain : Col → Bool | .ints _ _ => true | .bools _ => true | .strs _ => true | .vals _ => true | .mix _ _ _ _ => true | _ => false
/-- The first 'n', then another's. -/
def Col.over (n : Nat) : Col → Col → Option Col
  | .ints k xs, .ints k' ys => if k' = k then some (.ints k (xs.take n ++ ys)) else none
  | .bools xs, .bools ys => some (.bools (xs.take n ++ ys))
  | .strs xs, .strs ys => some (.strs (xs.take n ++ ys))
  | .vals xs, .vals ys => some (.vals (xs.take n ++ ys))
  | .ints k xs, .vals ys => some (.vals ((xs.map (V.I k)).take n ++ ys))
  | .vals _, d => (match d.plain, n with | true, 0 => some d | _, _ => none)
  | .mix k q xs _, .ints k' ys => if k' = k then (match Nat.ble n q with | true => some (.ints k (takeP n xs ++ ys)) | false => none) else none
  | _, _ => none
def Col.app : Col → Col → Option Col
  | .ints k xs, .ints k' ys => if k' = k then some (.ints k (xs ++ ys)) else none
  | .bools xs, .bools ys => some (.bools (xs ++ ys))
  | .strs xs, .strs ys => some (.strs (xs ++ ys))
  | .vals xs, .vals ys => some (.vals (xs ++ ys))
  | .ints k xs, .mix k' q ys vs => if k' = k then some (.mix k (xs.length + q) (xs ++ ys) vs) else none
  | .ints k xs, .vals ys => some (.vals (xs.map (V.I k) ++ ys))
  | .vals xs, .ints k ys => some (.vals (xs ++ ys.map (V.I k)))
  | _, _ => none
/-- From 'a' on, 'n' of them. -/
def Col.win (a n : Nat) : Col → Col
  | .ints k xs => .ints k ((xs.drop a).take n)
  | .bools xs => .bools ((xs.drop a).take n)
  | .strs xs => .strs ((xs.drop a).take n)
  | .vals xs => .vals ((xs.drop a).take n)
  | .mix k q xs vs =>
    (match Nat.ble (q + vs.length) (a + n) with
     | true => (match Nat.ble a q with | true => .mix k (q - a) (xs.drop a) vs | false => .vals (vs.drop (a - q)))
     | false => (match Nat.ble (a + n) q with | true => .ints k (takeP n (xs.drop a)) | false => .vals (((mixL k q xs ++ vs).drop a).take n)))
  | _ => .vals []
def Col.from (a : Nat) : Col → Col
  | .ints k xs => .ints k (xs.drop a)
  | .bools xs => .bools (xs.drop a)
  | .strs xs => .strs (xs.drop a)
  | .vals xs => .vals (xs.drop a)
  | .mix k q xs vs => (match Nat.ble a q with | true => .mix k (q - a) (xs.drop a) vs | false => .vals (vs.drop (a - q)))
  | _ => .vals []
/-- A column as a list of values. -/
def Col.list : Col → List V
  | .ints k xs => xs.map (V.I k)
  | .bools xs => xs.map V.B
  | .strs xs => xs.map V.S
  | .vals xs => xs
  | .mix k q xs vs => mixL k q xs ++ vs
  | _ => []
def Col.ren (π : Nat → Option Nat) : Col → Col
  | .vals xs => .vals (V.renL π xs)
  | .mix k q xs vs => .mix k q xs (V.renL π vs)
  | .map es => .map (es.map fun p => (V.ren π p.1, V.ren π p.2))
  | .it k n s l => (match π k with | some j => .it j n s l | none => .gone)
  | .lp s0 pe ps x y d => .lp s0 pe ps x y (V.renL π d)
  | .ch c xs => .ch c (V.renL π xs)
  | c => c
def Col.kill (j : Nat) : Col → Col
  | .vals xs => .vals (V.killL j xs)
  | .mix k q xs vs => .mix k q xs (V.killL j vs)
  | .map es => .map (es.map fun p => (V.kill j p.1, V.kill j p.2))
  | .it k n s l => if k = j then .gone else .it k n s l
  | .lp s0 pe ps x y d => .lp s0 pe ps x y (V.killL j d)
  | .ch c xs => .ch c (V.killL j xs)
  | c => c
def Col.refs : Col → List Nat
  | .vals xs => V.refsL xs
  | .mix _ _ _ vs => V.refsL vs
  | .map es => es.flatMap fun p => V.refs p.1 ++ V.refs p.2
  | .it k _ _ _ => [k]
  | .lp _ _ _ _ _ d => V.refsL d
  | .ch _ xs => V.refsL xs
  | _ => []

def allI (k : IntKind) : List V → Option (List Int)
  | [] => some []
  | .I k' n :: vs => if k' = k then (match allI k vs with | some r => some (n :: r) | none => none) else none
  | _ :: _ => none
def allB : List V → Option (List Bool)
  | [] => some []
  | .B x :: vs => (match allB vs with | some r => some (x :: r) | none => none)
  | _ :: _ => none
def allS : List V → Option (List (List Int))
  | [] => some []
  | .S x :: vs => (match allS vs with | some r => some (x :: r) | none => none)
  | _ :: _ => none
/-- A column of the kind of a zero cell. -/
def Col.mk (z : Value) (vs : List V) : Option Col :=
  match z with
  | .int k _ => match allI k vs with | some xs => some (.ints k xs) | none => some (.vals vs)
  | .bool _ => match allB vs with | some xs => some (.bools xs) | none => none
  | .string _ => match allS vs with | some xs => some (.strs xs) | none => none
  | _ => some (.vals vs)
/-- A zero cell as 'Col.zeros' spells it. -/
def zeroOk : Value → Bool
  | .int k n => n == 0 && inR k 0
  | .bool b => !b
  | .string s => s.size == 0
  | _ => true
/-- 'n' zeros. -/
def Col.zeros (z : Value) (n : Nat) : Col :=
  match z with
  | .int k _ => .ints k (List.replicate n 0)
  | .bool _ => .bools (List.replicate n false)
  | .string _ => .strs (List.replicate n [])
  | z => .vals (List.replicate n (V.of1 z))

structure Blk where
  cols : List Col
  et : TypeId
  ro : Bool
  mv : Bool
instance : Inhabited Blk := ⟨⟨[], 0, true, false⟩⟩
/-- The entries of a block that is a map. -/
def Blk.mp (b : Blk) : Option (List (V × V)) := match b.cols with | [.map es] => some es | _ => none
/-- The one column of a block that is a map or an iterator. -/
def Blk.sp (b : Blk) : Option Col := match b.cols with | [c] => (match c.plain with | true => none | false => some c) | _ => none
abbrev Mem := List Blk
/-- A frame: a tree of temporaries. -/
inductive Tr where
  | nil
  | node (v : V) (l r : Tr)
namespace Tr
def get : Tr → Nat → V
  | .nil, _ => .undef
  | .node v l r, n => match n with | 0 => v | k + 1 => (match Nat.beq (Nat.mod k 2) 0 with | true => l.get (Nat.div k 2) | false => r.get (Nat.div k 2))
def look : Tr → Nat → Option V
  | .nil, _ => none
  | .node v l r, n => match n with | 0 => some v | k + 1 => (match Nat.beq (Nat.mod k 2) 0 with | true => l.look (Nat.div k 2) | false => r.look (Nat.div k 2))
def has : Tr → Nat → Bool
  | .nil, _ => false
  | .node _ l r, n => match n with | 0 => true | k + 1 => (match Nat.beq (Nat.mod k 2) 0 with | true => l.has (Nat.div k 2) | false => r.has (Nat.div k 2))
def set : Tr → Nat → V → Tr
  | .nil, _, _ => .nil
  | .node v l r, n, x => match n with | 0 => .node x l r | k + 1 => (match Nat.beq (Nat.mod k 2) 0 with | true => .node v (l.set (Nat.div k 2) x) r | false => .node v l (r.set (Nat.div k 2) x))
def map (f : V → V) : Tr → Tr
  | .nil => .nil
  | .node v l r => .node (f v) (l.map f) (r.map f)
/-- 'n' temporaries, all alike. -/
def full (v : V) : Nat → Nat → Tr
  | 0, _ => .nil
  | f + 1, n => match n with | 0 => .nil | k + 1 => .node v (full v f (Nat.div (k + 1) 2)) (full v f (Nat.div k 2))
/-- From 'i' on, these. -/
def puts : Nat → List V → Tr → Tr
  | _, [], t => t
  | i, v :: vs, t => puts (i + 1) vs (t.set i v)
end Tr
abbrev Env := Tr
def Blk.rows (b : Blk) : Nat := match b.cols with | [] => 0 | c :: _ => c.len
def Blk.ren (π : Nat → Option Nat) (b : Blk) : Blk := ⟨b.cols.map (Col.ren π), b.et, b.ro, b.mv⟩
def Blk.kill (j : Nat) (b : Blk) : Blk := ⟨b.cols.map (Col.kill j), b.et, b.ro, b.mv⟩
def refsC : List Col → List Nat
  | [] => []
  | c :: cs => c.refs ++ refsC cs
def Blk.refs (b : Blk) : List Nat := refsC b.cols

def rdHead (row : Nat) : Nat → List Col → List V
  | n + 1, c :: cs => c.get row :: rdHead row n cs
  | _, _ => []
def rdCols (row n : Nat) : Nat → List Col → List V
  | f + 1, _ :: cs => rdCols row n f cs
  | _, cs => rdHead row n cs
def wrCols (row : Nat) : (fld : Nat) → List V → List Col → Option (List Col)
  | _, [], cs => some cs
  | 0, v :: vs, c :: cs =>
    match c.set row v, wrCols row 0 vs cs with
    | some c', some cs' => some (c' :: cs')
    | _, _ => none
  | f + 1, vs, c :: cs => (match wrCols row f vs cs with | some cs' => some (c :: cs') | none => none)
  | _, _ :: _, [] => none
/-! ## Types -/
section
variable (P : Program)
def zeroCells (t : TypeId) : Option (List Value) :=
  match P.info? t with
  | some i => (match i.zero with | some z => if z.cells.toList.all Value.oneCell' && z.cells.size == i.size then some z.cells.toList else none | none => none)
  | none => none
def sizeT (t : TypeId) : Option Nat := match P.info? t with | some i => some i.size | none => none
def bytesT (t : TypeId) : Nat := match P.info? t with | some i => i.bytes | none => 0
def isAggT (t : TypeId) : Option Bool := match P.underlying t with | some (.struct _) => some true | some (.array _ _) => some true | some _ => some false | none => none
def elemT (t : TypeId) : Option TypeId := match P.underlying t with | some (.slice e) => some e | _ => none
def fieldT (t : TypeId) (f : Nat) : Option (Nat × TypeId) :=
  match P.underlying t with
  | some (.struct fs) => (match fs.toList[f]? with | some x => some (x.offset, x.type) | none => none)
  | _ => none
/-- 'n' cells of a list from 'o' on, as a value of a type. -/
def partV (t : TypeId) (vs : List V) (o : Nat) : Option V :=
  match isAggT P t with
  | some true => (match sizeT P t with | some n => some (.agg ((vs.drop o).take n)) | none => none)
  | some false => vs[o]?
  | none => none
end

def zipCols : List Value → List (List V) → Option (List Col)
  | [], _ => some []
  | z :: zs, rows =>
    match Col.mk z (rows.map fun r => r.headD .undef), zipCols zs (rows.map List.tail) with
    | some c, some cs => some (c :: cs)
    | _, _ => none
/-- A block of rows of cells. -/
def mkBlk (et : TypeId) (zero : List Value) (rows : List (List V)) : Option Blk :=
  match zipCols zero rows with
  | some [] => none
  | some cs => some ⟨cs, et, false, true⟩
  | none => none
/-- Is a variable of the type kept cell by cell, one column of rows? Arrays of cells, great structs. -/
def flatT (P : Program) (t : TypeId) : Bool :=
  match P.underlying t with
  | some (.array n e) => (match isAggT P e with | some false => Nat.blt 0 n | _ => false)
  | some (.struct _) => (match sizeT P t with | some n => Nat.blt 1024 n | none => false)
  | _ => false
/-- The kind of such a column. -/
def flatZ (P : Program) (t : TypeId) (z : List Value) : Value := match P.underlying t with | some (.array _ _) => z.headD (.pointer none) | _ => .pointer none
/-- A great struct that begins with an array of numbers: these as numbers. -/
def mixBlk (P : Program) (t : TypeId) (vs : List V) : Option Blk :=
  match P.underlying t with
  | some (.struct fs) =>
    (match fs.toList with
     | f :: _ =>
       (match P.underlying f.type with
        | some (.array n e) =>
          (match P.underlying e with
           | some (.int k) =>
             (match allI k (vs.take n) with
              | some xs => (match Nat.beq xs.length n with | true => some ⟨[.mix k n (match xs.all (fun x => x == 0) with | true => [] | false => xs) (vs.drop n)], t, false, true⟩ | false => none)
              | none => none)
           | _ => none)
        | _ => none)
     | [] => none)
  | _ => none
def varBlk (P : Program) (t : TypeId) (z : List Value) (vs : List V) : Option Blk :=
  match flatT P t && Nat.ble vs.length 1048576, vs with
  | true, v :: vs => (match mixBlk P t (v :: vs) with | some b => some b | none => mkBlk t [flatZ P t z] ((v :: vs).map fun v => [v]))
  | _, _ => mkBlk t z [vs]
/-- Cells overlaid from 'o' on. -/
def lay (o : Nat) (vs cells : List V) : List V := cells.take o ++ vs ++ cells.drop (o + vs.length)

/-! ## Whole numbers -/
def ibits (op : BinOp) (k : IntKind) (x y : Int) : Int :=
  let a := BitVec.ofInt k.bits x
  let b := BitVec.ofInt k.bits y
  match op with
  | .and => k.wrap (a &&& b).toNat
  | .or => k.wrap (a ||| b).toNat
  | .xor => k.wrap (a ^^^ b).toNat
  | _ => k.wrap (a &&& ~~~b).toNat
def ltI : List Int → List Int → Bool
  | _, [] => false
  | [], _ :: _ => true
  | a :: x, b :: y => decide (a < b) || (a == b && ltI x y)
/-- Of two whole numbers: may it be done, and what comes. -/
def iop (op : BinOp) (k : IntKind) (a b : Int) : Option (Bool × V) :=
  match op with
  | .add => some (true, .I k (k.wrap (a + b)))
  | .sub => some (true, .I k (k.wrap (a - b)))
  | .mul => some (true, .I k (k.wrap (a * b)))
  | .quo => some (!(b == 0), .I k (k.wrap (a.tdiv b)))
  | .rem => some (!(b == 0), .I k (a.tmod b))
  | .and | .or | .xor | .andNot => some (true, .I k (ibits op k a b))
  | .eql => some (true, .B (a == b))
  | .neq => some (true, .B (a != b))
  | .lss => some (true, .B (decide (a < b)))
  | .leq => some (true, .B (decide (a ≤ b)))
  | .gtr => some (true, .B (decide (a > b)))
  | .geq => some (true, .B (decide (a ≥ b)))
  | _ => none
def shop (op : BinOp) (k : IntKind) (a y : Int) : Option (Bool × V) :=
  match op with
  | .shl => some (decide (0 ≤ y), .I k (k.wrap (a * 2 ^ (min y.toNat k.bits))))
  | .shr => some (decide (0 ≤ y), .I k (a.fdiv (2 ^ (min y.toNat k.bits))))
  | _ => none
def strop (op : BinOp) (x y : List Int) : Option (Bool × V) :=
  match op with
  | .add => some (decide (x.length + y.length ≤ 4611686018427387904), .S (x ++ y))
  | .eql => some (true, .B (x == y))
  | .neq => some (true, .B (!(x == y)))
  | .lss => some (true, .B (ltI x y))
  | .leq => some (true, .B (ltI x y || x == y))
  | .gtr => some (true, .B (!(ltI x y || x == y)))
  | .geq => some (true, .B (!(ltI x y)))
  | _ => none
/-- Surely not the same? -/
def linA (i i' : Nat) (c c' d d' : Int) : Bool := !(Nat.beq i i') && (decide (c = c') && (decide (0 ≤ d) && (decide (d < c) && (decide (0 ≤ d') && decide (d' < c)))))
/-- Are two numbers the same? -/
def eqN (x y : V) : Option Bool :=
  match x, y with
  | .L k i q _ c d, .L k' i' q' _ c' d' =>
    if k = k' then
      (match Nat.beq i i' && decide (c = c') with
       | true => some (d == d')
       | false => (match linA i i' c c' d d' with | true => some false | false => some (q * c + d == q' * c' + d')))
    else none
  | .L k _ q _ c d, .I k' n => if k = k' then some (q * c + d == n) else none
  | .I k n, .L k' _ q _ c d => if k = k' then some (n == q * c + d) else none
  | .I k a, .I k' b => if k = k' then some (a == b) else none
  | _, _ => none
/-- Field by field, by 'eq'. -/
def eqF (P : Program) (eq : TypeId → V → V → Option Bool) (xs ys : List V) : List Field → Option Bool
  | [] => some true
  | f :: fs =>
    if f.name ≠ "_" then
      (match partV P f.type xs f.offset, partV P f.type ys f.offset with
       | some x, some y => (match eq f.type x y, eqF P eq xs ys fs with | some r, some s => some (r && s) | _, _ => none)
       | _, _ => none)
    else eqF P eq xs ys fs
/-- Are the items of two arrays alike? -/
def eqA (P : Program) (eq : V → V → Option Bool) (e : TypeId) (q : Nat) (xs ys : List V) : List Nat → Option Bool
  | [] => some true
  | i :: is =>
    (match partV P e xs (i * q), partV P e ys (i * q) with
     | some x, some y => (match eq x y, eqA P eq e q xs ys is with | some r, some s => some (r && s) | _, _ => none)
     | _, _ => none)
/-- Are two values of a plain type alike? -/
def eqT (P : Program) : Nat → TypeId → V → V → Option Bool
  | 0, _, _, _ => none
  | d + 1, t, x, y =>
    match P.underlying t, x, y with
    | some .bool, .B a, .B b => some (a == b)
    | some (.int _), .I k a, .I k' b => if k = k' then some (a == b) else none
    | some (.int _), .L k i q b c d, y => eqN (.L k i q b c d) y
    | some (.int _), .I k n, .L k' i q b c d => eqN (.I k n) (.L k' i q b c d)
    | some .string, .S a, .S b => some (a == b)
    | some (.struct fs), .agg xs, .agg ys => if P.stoodInHeld t then none else eqF P (eqT P d) xs ys fs.toList
    | some (.array n e), .agg xs, .agg ys => (match sizeT P e with | some q => eqA P (eqT P d e) e q xs ys (List.range n) | none => none)
    | _, _, _ => none

section
variable (P : Program)
/-- With nil. -/
def nilop (op : BinOp) (z : Bool) : Option (Bool × V) :=
  match op with
  | .eql => some (true, .B z)
  | .neq => some (true, .B (!z))
  | _ => none
def slen (m : Mem) (k row : Nat) (len : Option Nat) : Nat :=
  match len with
  | some n => n
  | none => (m.getD k default).rows - row
/-- The least and the greatest that q * c + d can be. -/
def linLo (b c d : Int) : Int := min d ((b - 1) * c + d)
def linHi (b c d : Int) : Int := max d ((b - 1) * c + d)
def linV (k : IntKind) (i : Nat) (q b c d : Int) : V :=
  match decide (k.min ≤ linLo b c d) && decide (linHi b c d ≤ k.max) with
  | true => .L k i q b c d
  | false => .I k (k.wrap (q * c + d))
/-- Is it less than 'n', whatever q is? -/
def linB (b c d n : Int) : Option Bool :=
  match decide (linHi b c d < n) with
  | true => some true
  | false => (match decide (n ≤ linLo b c d) with | true => some false | false => none)
def divs (k : IntKind) (c n : Int) : Bool := decide (0 < n) && (decide (c % n = 0) && decide (k.min = 0))
def linI (op : BinOp) (k : IntKind) (i : Nat) (q b c d n : Int) : Option (Bool × V) :=
  match op with
  | .add => some (true, linV k i q b c (d + n))
  | .sub => some (true, linV k i q b c (d - n))
  | .mul => some (true, linV k i q b (c * n) (d * n))
  | .quo => (match divs k c n with | true => some (true, linV k i q b (c / n) (d / n)) | false => iop .quo k (q * c + d) n)
  | .rem => (match divs k c n with | true => some (true, .I k (d % n)) | false => iop .rem k (q * c + d) n)
  | .lss => (match linB b c d n with | some r => some (true, .B r) | none => iop .lss k (q * c + d) n)
  | .geq => (match linB b c d n with | some r => some (true, .B (!r)) | none => iop .geq k (q * c + d) n)
  | .leq => (match linB b c d (n + 1) with | some r => some (true, .B r) | none => iop .leq k (q * c + d) n)
  | .gtr => (match linB b c d (n + 1) with | some r => some (true, .B (!r)) | none => iop .gtr k (q * c + d) n)
  | op => iop op k (q * c + d) n
def linR (op : BinOp) (k : IntKind) (n : Int) (i : Nat) (q b c d : Int) : Option (Bool × V) :=
  match op with
  | .add => some (true, linV k i q b c (n + d))
  | .sub => some (true, linV k i q b (-c) (n - d))
  | .lss => linI .gtr k i q b c d n
  | .gtr => linI .lss k i q b c d n
  | .leq => linI .geq k i q b c d n
  | .geq => linI .leq k i q b c d n
  | op => iop op k n (q * c + d)
def linL (op : BinOp) (k : IntKind) (i : Nat) (q c d : Int) (i' : Nat) (q' c' d' : Int) : Option (Bool × V) :=
  match Nat.beq i i' && decide (c = c') with
  | true =>
    (match op with
     | .sub => some (true, .I k (k.wrap (d - d')))
     | .eql => some (true, .B (d == d'))
     | .neq => some (true, .B (d != d'))
     | .lss => some (true, .B (decide (d < d')))
     | .leq => some (true, .B (decide (d ≤ d')))
     | .gtr => some (true, .B (decide (d > d')))
     | .geq => some (true, .B (decide (d ≥ d')))
     | op => iop op k (q * c + d) (q' * c' + d'))
  | false =>
    (match linA i i' c c' d d' with
     | true =>
       (match op with
        | .eql => some (true, .B false)
        | .neq => some (true, .B true)
        | .lss => some (true, .B (Nat.blt i i'))
        | .leq => some (true, .B (Nat.blt i i'))
        | .gtr => some (true, .B (Nat.blt i' i))
        | .geq => some (true, .B (Nat.blt i' i))
        | op => iop op k (q * c + d) (q' * c' + d'))
     | false => iop op k (q * c + d) (q' * c' + d'))
def bop0 (op : BinOp) (t : TypeId) (x y : V) : Option (Bool × V) :=
  match x, y with
  | .I k a, .I k' b =>
    (match op with
     | .shl => shop op k a b
     | .shr => shop op k a b
     | _ => if k = k' then iop op k a b else none)
  | .S a, .S b => strop op a b
  | .B a, .B b => (match P.underlying t, op with | some .bool, .eql => some (true, .B (a == b)) | some .bool, .neq => some (true, .B (!(a == b))) | _, _ => none)
  | .agg xs, .agg ys =>
    if P.eqGuardType P.depth t then none else
      (match op, eqT P 12 t (.agg xs) (.agg ys) with
       | .eql, some r => some (true, .B r)
       | .neq, some r => some (true, .B (!r))
       | _, _ => none)
  | .nilp, .nilp => (match P.underlying t with | some (.pointer _) => nilop op true | _ => none)
  | .ptr _ _ _, .nilp => (match P.underlying t with | some (.pointer _) => nilop op false | _ => none)
  | .nils, .nils => (match P.underlying t with | some (.slice _) => nilop op true | _ => none)
  | .ifc _ _, .nili => (match P.underlying t with | some (.interface _) => nilop op false | _ => none)
  | _, _ => none
def bop (op : BinOp) (t : TypeId) (x y : V) : Option (Bool × V) :=
  match x with
  | .L k i q b c d =>
    (match y with
     | .L k' i' q' _ c' d' => if k = k' then linL op k i q c d i' q' c' d' else none
     | .I k' n => if k = k' then linI op k i q b c d n else none
     | _ => none)
  | .I k n =>
    (match y with
     | .L k' i q b c d => if k = k' then linR op k n i q b c d else bop0 P op t (.I k n) (.I k' (q * c + d))
     | y => bop0 P op t (.I k n) y)
  | x => bop0 P op t x y
def uop (op : UnOp) (x : V) : Option V :=
  match op, x with
  | .neg, .I k n => some (.I k (k.wrap (0 - n)))
  | .xor, .I k n => some (.I k (ibits .xor k (if k.signed then -1 else k.max) n))
  | .not, .B b => some (.B (!b))
  | _, _ => none
/-- The bytes of a slice of bytes. -/
def bytesOf (m : Mem) : V → Option (List Int)
  | .nils => some []
  | .sl k row len _ =>
    match (m.getD k default).cols with
    | [.ints .u8 xs] =>
      (match len with
       | none => some (xs.drop row)
       | some n => some ((xs.drop row).take n))
    | _ => none
  | _ => none
def cop1 (src dst : TypeId) (m : Mem) (x : V) : Option V :=
  match P.underlying src, P.underlying dst, x with
  | some (.int _), some (.int k), .I _ n => some (.I k (k.wrap n))
  | some (.int _), some (.int k), .L _ i q b c d => some (linV k i q b c d)
  | some .string, some .string, .S x => some (.S x)
  | some (.slice e), some .string, x =>
    (match P.underlying e with
     | some (.int .u8) => (match bytesOf m x with | some r => some (.S r) | none => none)
     | _ => none)
  | _, _, _ => none
def addN (a b : Nat) : Nat := match a with | 0 => b | a + 1 => a + 1 + b
def intN : V → Option (IntKind × Int) | .I k n => some (k, n) | _ => none
def roomOf (m : Mem) (k row : Nat) (cap : Option Nat) : Nat := match cap with | some c => c | none => (m.getD k default).rows - row
def lessO (x : Option Nat) (l : Nat) : Option Nat := match x with | none => none | some n => some (n - l)
/-- 'x[lo:hi:max]' of a slice that is none of nil: the checks, and what comes. -/
def slop (m : Mem) (k row : Nat) (len cap : Option Nat) (lo hi mx : Option Int) : Bool × V :=
  match lo, hi, mx with
  | none, none, none => (true, .sl k row len cap)
  | some l, none, none => (decide (0 ≤ l) && decide (l.toNat ≤ slen m k row len), .sl k (addN row l.toNat) (lessO len l.toNat) (lessO cap l.toNat))
  | none, some h, none => (decide (0 ≤ h) && decide (h.toNat ≤ roomOf m k row cap), .sl k row (some h.toNat) cap)
  | some l, some h, none => (decide (0 ≤ h) && (decide (h.toNat ≤ roomOf m k row cap) && (decide (0 ≤ l) && decide (l ≤ h))), .sl k (addN row l.toNat) (some (h.toNat - l.toNat)) (lessO cap l.toNat))
  | none, some h, some x => (decide (0 ≤ x) && (decide (x.toNat ≤ roomOf m k row cap) && (decide (0 ≤ h) && decide (h ≤ x))), .sl k row (some h.toNat) (some x.toNat))
  | some l, some h, some x => (decide (0 ≤ x) && (decide (x.toNat ≤ roomOf m k row cap) && (decide (0 ≤ h) && (decide (h ≤ x) && (decide (0 ≤ l) && decide (l ≤ h))))), .sl k (addN row l.toNat) (some (h.toNat - l.toNat)) (some (x.toNat - l.toNat)))
  | _, none, some _ => (false, .undef)
def zeroO (x : Option Int) : Bool := match x with | none => true | some n => n == 0
def mxO (x h : Option Int) : Bool := match x, h with | some _, none => false | _, _ => zeroO x
/-- A slice of an array of 'n' cells, which begins at a row. -/
def arrsl (k row n : Nat) (lo hi : Option Int) : Bool × V :=
  match lo, hi with
  | none, none => (true, .sl k row (some n) (some n))
  | some l, none => (decide (0 ≤ l) && decide (l.toNat ≤ n), .sl k (row + l.toNat) (some (n - l.toNat)) (some (n - l.toNat)))
  | none, some h => (decide (0 ≤ h) && decide (h.toNat ≤ n), .sl k row (some h.toNat) (some n))
  | some l, some h => (decide (0 ≤ h) && (decide (h.toNat ≤ n) && (decide (0 ≤ l) && decide (l ≤ h))), .sl k (row + l.toNat) (some (h.toNat - l.toNat)) (some (n - l.toNat)))
def strsl (x : List Int) (lo hi : Option Int) : Bool × V :=
  match lo, hi with
  | none, none => (true, .S x)
  | some l, none => (decide (0 ≤ l) && decide (l.toNat ≤ x.length), .S (x.drop l.toNat))
  | none, some h => (decide (0 ≤ h) && decide (h.toNat ≤ x.length), .S (x.take h.toNat))
  | some l, some h => (decide (0 ≤ h) && (decide (h.toNat ≤ x.length) && (decide (0 ≤ l) && decide (l ≤ h))), .S ((x.take h.toNat).drop l.toNat))

/-- The number 'n' is told as 'k'. -/
def mvN (n k j : Nat) : Option Nat := match Nat.beq j n with | true => some k | false => some j

/-! ## One operation -/
def opd (ρ : Env) : Operand → V
  | .tmp t => ρ.get t
  | .const v => V.of v
  | .func f => .fn (.func f) [] []
  | .global _ => .undef
/-- What an operation comes to: the check, the value, the frame and the memory behind it. -/
abbrev Step1 := Option (Bool × V × Env × Mem)
def okV (v : V) (ρ : Env) (m : Mem) : Step1 := some (true, v, ρ, m)
def okO (v : Option V) (ρ : Env) (m : Mem) : Step1 := match v with | some v => some (true, v, ρ, m) | none => none
def okC (r : Option (Bool × V)) (ρ : Env) (m : Mem) : Step1 := match r with | some (c, v) => some (c, v, ρ, m) | none => none
def newB (b : Option Blk) (ρ : Env) (m : Mem) : Step1 := match b with | some b => some (true, .ptr m.length 0 0, ρ, m ++ [b]) | none => none
def optI (ρ : Env) : Option Operand → Option (Option Int)
  | none => some none
  | some x => match opd ρ x with | .I _ n => some (some n) | _ => none

def fillV (place : Nat → Option (Nat × Nat)) : List V → List (Nat × V) → Option (List V)
  | cells, [] => some cells
  | cells, (i, v) :: rest =>
    match place i with
    | none => none
    | some (off, size) =>
      if v.sto && v.cells.length == size then (if off + size ≤ cells.length then fillV place (lay off v.cells cells) rest else none) else none
def buildV (t : TypeId) (parts : List (Nat × V)) : Option V :=
  match zeroCells P t, P.underlying t with
  | some z, some (.struct fs) =>
    (match fs.toList.mapM (fun f => (P.info? f.type).map fun i => (f.offset, i.size)) with
     | some places => (match fillV (fun i => places[i]?) (z.map V.of1) parts with | some cs => some (.agg cs) | none => none)
     | none => none)
  | some z, some (.array _ e) =>
    (match sizeT P e with
     | some n => (match fillV (fun i => some (i * n, n)) (z.map V.of1) parts with | some cs => some (.agg cs) | none => none)
     | none => none)
  | _, _ => none
def rowsOf (zero : List V) (n : Nat) (parts : List (Nat × V)) : List (List V) :=
  parts.foldl (fun rows p => rows.set p.1 p.2.cells) (List.replicate n zero)
def loadV (t : TypeId) (m : Mem) : V → Option V
  | .ptr k row fld =>
    match sizeT P t with
    | none => none
    | some n =>
      if fld + n ≤ (m.getD k default).cols.length then
        (match isAggT P t with
         | some true => some (.agg (rdCols row n fld (m.getD k default).cols))
         | some false => (match rdCols row 1 fld (m.getD k default).cols with | [v] => some v | _ => none)
         | none => none)
      else
        (match (m.getD k default).cols with
         | [c] =>
           if row + fld + n ≤ c.len then
             (match isAggT P t with
              | some true => some (.agg ((c.list.drop (row + fld)).take n))
              | some false => (match n with | 1 => some (c.get (row + fld)) | _ => none)
              | none => none)
           else none
         | _ => none)
  | _ => none
/-- A column of single cells: some of them anew. -/
def flatSet (r : Nat) (vs : List V) (c : Col) : Option Col :=
  match vs with
  | [v] => c.set r v
  | vs => (match c with | .vals xs => some (.vals (lay r vs xs)) | .ints k xs => (match allI k vs with | some ys => some (.ints k (xs.take r ++ ys ++ xs.drop (r + ys.length))) | none => some (.vals (lay r vs (xs.map (V.I k))))) | .strs xs => (match allS vs with | some ys => some (.strs (xs.take r ++ ys ++ xs.drop (r + ys.length))) | none => none) | .bools xs => (match allB vs with | some ys => some (.bools (xs.take r ++ ys ++ xs.drop (r + ys.length))) | none => none) | _ => none)
def storeV (t : TypeId) (m : Mem) (p x : V) : Option Mem :=
  match p with
  | .ptr k row fld =>
    match sizeT P t, (m.getD k default).ro, wrCols row fld x.cells (m.getD k default).cols with
    | some n, false, some cs => if x.sto && (x.cells.length == n && decide (0 < n)) then some (m.set k ⟨cs, (m.getD k default).et, false, (m.getD k default).mv⟩) else none
    | some n, false, none =>
      (match (m.getD k default).cols with
       | [c] =>
         (match flatSet (row + fld) x.cells c with
          | some c' => if x.sto && (x.cells.length == n && (decide (0 < n) && decide (row + fld + n ≤ c.len))) then some (m.set k ⟨[c'], (m.getD k default).et, false, (m.getD k default).mv⟩) else none
          | none => none)
       | _ => none)
    | _, _, _ => none
  | _ => none
def typedAt (vs : List V) (i : Int) : V :=
  match i with
  | .ofNat 0 => vs.getD 0 .undef
  | i =>
  match vs with
  | .I k _ :: _ => (match allI k vs with | some xs => .I k (xs.getD i.toNat 0) | none => vs.getD i.toNat .undef)
  | .S _ :: _ => (match allS vs with | some xs => .S (xs.getD i.toNat []) | none => .undef)
  | .B _ :: _ => (match allB vs with | some xs => .B (xs.getD i.toNat false) | none => .undef)
  | _ => vs.getD i.toNat .undef
def idxV (t : TypeId) (x : V) (i : Int) : Option (Bool × V) :=
  match P.underlying t, x with
  | some (.array n e), .agg vs =>
    (match sizeT P e, isAggT P e with
     | some 1, some false => if vs.length = n then some (decide (0 ≤ i) && decide (i < (n : Int)), typedAt vs i) else none
     | some sz, some true => if vs.length = n * sz then some (decide (0 ≤ i) && decide (i < (n : Int)), .agg ((vs.drop (i.toNat * sz)).take sz)) else none
     | _, _ => none)
  | some .string, .S xs => some (decide (0 ≤ i) && decide (i < (xs.length : Int)), .I .u8 (xs.getD i.toNat 0))
  | _, _ => none
def idxA (t : TypeId) (m : Mem) (x : V) (i : Int) : Option (Bool × V) :=
  match P.underlying t, x with
  | some (.array n e), .ptr k row fld =>
    (match sizeT P e with
     | some sz => some (decide (0 ≤ i) && decide (i < (n : Int)), .ptr k row (fld + i.toNat * sz))
     | none => none)
  | some (.slice e), .sl k row len _ =>
    (match sizeT P e with
     | some sz => if sz = (m.getD k default).cols.length then some (decide (0 ≤ i) && decide (i < (slen m k row len : Int)), .ptr k (addN row i.toNat) 0) else none
     | none => none)
  | _, _ => none
/-- A column of the kind of another one. -/
def Col.to (c d : Col) : Col :=
  match c, d with
  | .ints k _, .vals vs => (match allI k vs with | some ys => .ints k ys | none => .vals vs)
  | .mix k _ _ _, .vals vs => (match allI k vs with | some ys => .ints k ys | none => .vals vs)
  | .vals _, .ints k xs => .vals (xs.map (V.I k))
  | .vals _, .bools xs => .vals (xs.map V.B)
  | .vals _, .strs xs => .vals (xs.map V.S)
  | .vals _, .mix k n xs vs => .vals (mixL k n xs ++ vs)
  | _, d => d
/-- Columns of the kinds of zero cells. -/
def tyCols : List Value → List Col → List Col
  | .int k _ :: z, .vals vs :: cs => Col.to (.ints k []) (.vals vs) :: tyCols z cs
  | _ :: z, c :: cs => c :: tyCols z cs
  | _, cs => cs
/-- The columns of what is appended or copied. -/
def srcCols (m : Mem) : V → Option (List Col)
  | .sl k row len _ =>
    let cs := (m.getD k default).cols
    match len with
    | none => some (cs.map (Col.from row))
    | some n => some (cs.map (Col.win row n))
  | _ => none
def zipApp : List Col → List Col → Option (List Col)
  | [], [] => some []
  | c :: cs, d :: ds => (match c.app d, zipApp cs ds with | some x, some xs => some (x :: xs) | _, _ => none)
  | _, _ => none
def zipOver (n : Nat) : List Col → List Col → Option (List Col)
  | [], [] => some []
  | c :: cs, d :: ds => (match c.over n d, zipOver n cs ds with | some x, some xs => some (x :: xs) | _, _ => none)
  | _, _ => none
def colsLen : List Col → Nat | [] => 0 | c :: _ => c.len
def limit : Nat := 140737488355328
/-- append of 'n2' rows with the columns 'xs': the check, the value; all that pointed to s' block is forgotten. -/
def appendC (e : TypeId) (z : List Value) (ρ : Env) (m : Mem) (s : V) (xs : List Col) (n2 : Nat) : Step1 :=
  if z.length = xs.length && (decide (0 < z.length) && xs.all Col.plain) then
    (match s with
     | .nils => some (decide (n2 * bytesT P e ≤ limit) && decide (n2 ≤ limit), .sl m.length 0 none none, ρ, m ++ [⟨xs, e, false, true⟩])
     | .sl k row len (some c) =>
       -- an exact capacity: it must grow
       (match srcCols m (.sl k row len none) with
        | some olds =>
          (match zipApp olds xs with
           | some cs =>
             some (decide (c < slen m k row len + n2) && (decide ((slen m k row len + n2) * bytesT P e ≤ limit) && decide (slen m k row len + n2 ≤ limit)), .sl m.length 0 none none, ρ, m ++ [⟨cs, e, false, true⟩])
           | none => none)
        | none => none)
     | .sl k 0 len none =>
       (match (m.getD k default).ro, (if (m.getD k default).et = e then (match len with | none => zipApp (m.getD k default).cols xs | some n => zipOver n (m.getD k default).cols xs) else none) with
        | false, some cs =>
          some (decide ((slen m k 0 len + n2) * bytesT P e ≤ limit) && decide (slen m k 0 len + n2 ≤ limit), .sl k 0 none none, ρ.map (V.kill k), (m.map (Blk.kill k)).set k ⟨cs.map (Col.kill k), e, false, true⟩)
        | _, _ => none)
     | _ => none)
  else none
/-- append(s, x...) -/
def appendV (st : TypeId) (ρ : Env) (m : Mem) (s x : V) : Step1 :=
  match elemT P st with
  | none => none
  | some e =>
    match x with
    | .nils => (match s, sizeT P e with | .nils, some _ => okV V.nils ρ m | .sl k row len cap, some _ => okV (V.sl k row len cap) ρ m | _, _ => none)
    | .sl k2 row2 len2 cap2 =>
      (match srcCols m (.sl k2 row2 len2 cap2), zeroCells P e with
       | some xs, some z => appendC P e z ρ m s (tyCols z xs) (slen m k2 row2 len2)
       | _, _ => none)
    | _ => none
/-- append(s, make([]T, n)...), and append(s, text...) -/
def appendN (st xt : TypeId) (ρ : Env) (m : Mem) (s x : V) : Step1 :=
  match elemT P st with
  | none => none
  | some e =>
    match P.underlying xt, x, zeroCells P e with
    | some (.int _), .I .i64 n, some z =>
      if z.all zeroOk then
        (match appendC P e z ρ m s (z.map fun x => Col.zeros x n.toNat) n.toNat with
         | some (c, r) => some (decide (0 ≤ n) && (decide (n.toNat * bytesT P e ≤ limit) && c), r)
         | none => none)
      else none
    | some .string, .S bs, some [.int .u8 z] => appendC P e [.int .u8 z] ρ m s [.ints .u8 bs] bs.length
    | _, _, _ => none
def copyCols (row n row2 : Nat) : List Col → List Col → Option (List Col)
  | [], [] => some []
  | c :: cs, d :: ds =>
    (match c.over row (Col.to c (d.win row2 n)), copyCols row n row2 cs ds with
     | some y, some ys => (match y.app (c.from (row + n)) with | some z => some (z :: ys) | none => none)
     | _, _ => none)
  | _, _ => none
def copyV (ρ : Env) (m : Mem) (d x : V) : Step1 :=
  match d, x with
  | .sl k row len _, .sl k2 row2 len2 _ =>
    match (m.getD k default).ro, copyCols row (min (slen m k2 row2 len2) (slen m k row len)) row2 (m.getD k default).cols (m.getD k2 default).cols with
    | false, some [c] => some (true, .I .i64 (min (slen m k2 row2 len2) (slen m k row len) : Nat), ρ, m.set k ⟨[c], (m.getD k default).et, false, (m.getD k default).mv⟩)
    | _, _ => none
  | _, _ => none
def makeSl (t : TypeId) (ρ : Env) (m : Mem) (l c : V) : Step1 :=
  match elemT P t, l, c with
  | some e, .I .i64 n, .I .i64 cp =>
    (match zeroCells P e with
     | some z => if z.length = 0 then none else if z.all zeroOk then some (decide (0 ≤ n) && (decide (n ≤ cp) && (decide (cp ≤ (limit : Int)) && decide (bytesT P e * cp ≤ (limit : Int)))), .sl m.length 0 none none, ρ, m ++ [⟨z.map fun x => Col.zeros x n.toNat, e, false, true⟩]) else none
     | none => none)
  | _, _, _ => none
def biop (b : Builtin) (argTypes : List TypeId) (ρ : Env) (m : Mem) (args : List V) : Step1 :=
  match b, args, argTypes with
  | .len, [x], [t] =>
    (match P.underlying t, x with
     | some .string, .S xs => okV (.I .i64 xs.length) ρ m
     | some (.array n _), _ => if n ≤ 9223372036854775807 then okV (.I .i64 n) ρ m else none
     | some (.slice _), .sl k row len _ => okV (.I .i64 (slen m k row len)) ρ m
     | some (.slice _), .nils => okV (.I .i64 0) ρ m
     | _, _ => none)
  | .append, [s, x], [t, u] => if t = u then appendV P t ρ m s x else appendN P t u ρ m s x
  | .copy, [d, x], [t, _] => (match elemT P t with | some e => (match sizeT P e with | some 1 => copyV ρ m d x | _ => none) | none => none)
  | .min, [.I k a, .I k' b], _ => if k = k' then okV (.I k (if b < a then b else a)) ρ m else none
  | .max, [.I k a, .I k' b], _ => if k = k' then okV (.I k (if b > a then b else a)) ρ m else none
  | _, _, _ => none

def sop0 (o : Oper) (ρ : Env) (m : Mem) : Step1 :=
  match o.op with
  | .move x => okV (opd ρ x) ρ m
  | .assign x => okV (opd ρ x) ρ m
  | .alloc t => (match zeroCells P t with | some z => newB (varBlk P t z (z.map V.of1)) ρ m | none => none)
  | .box t x =>
    (match zeroCells P t with
     | some z => if (opd ρ x).sto && (opd ρ x).cells.length == z.length then newB (varBlk P t z (opd ρ x).cells) ρ m else none
     | none => none)
  | .build t parts => okO (buildV P t (parts.toList.map fun p => (p.1, opd ρ p.2))) ρ m
  | .buildSlice t n parts =>
    (match elemT P t with
     | some e =>
       (match zeroCells P e with
        | some z =>
          let ps := parts.toList.map fun p => (p.1, opd ρ p.2)
          if n * z.length ≤ 16777216 && (ps.all fun p => p.2.sto && (p.2.cells.length == z.length && decide (p.1 < n))) then
            (match mkBlk e z (rowsOf (z.map V.of1) n ps) with
             | some b => some (true, .sl m.length 0 none none, ρ, m ++ [b])
             | none => none)
          else none
        | none => none)
     | none => none)
  | .load t a => okO (loadV P t m (opd ρ a)) ρ m
  | .store t a x => (match storeV P t m (opd ρ a) (opd ρ x) with | some m' => some (true, .undef, ρ, m') | none => none)
  | .nilCheck x =>
    (match opd ρ x with
     | .ptr k r f => okV (.ptr k r f) ρ m
     | .fn (.func f) a c => okV (.fn (.func f) a c) ρ m
     | _ => none)
  | .binOp op t x y _ => okC (bop P op t (opd ρ x) (opd ρ y)) ρ m
  | .unOp op _ x => okO (uop op (opd ρ x)) ρ m
  | .convert s d x => okO (cop1 P s d m (opd ρ x)) ρ m
  | .makeInterface t x => (match P.underlying t with | some (.interface _) => none | some _ => okV (.ifc t (opd ρ x)) ρ m | none => none)
  | .makeFunc f a c => okV (.fn f (a.toList.map (opd ρ)) (c.toList.map (opd ρ))) ρ m
  | .makeSlice t l c => makeSl P t ρ m (opd ρ l) (opd ρ c)
  | .slice t x lo hi mx =>
    (match optI ρ lo, optI ρ hi, optI ρ mx with
     | some l, some h, some x' =>
       (match P.underlying t, opd ρ x with
        | some (.slice e), .sl k row len cap =>
          (match sizeT P e with
           | some sz => if sz = (m.getD k default).cols.length then some ((slop m k row len cap l h x').1, (slop m k row len cap l h x').2, ρ, m) else none
           | none => none)
        | some .string, .S xs => (match x' with | none => some ((strsl xs l h).1, (strsl xs l h).2, ρ, m) | some _ => none)
        | some (.slice e), .nils => (match sizeT P e with | some _ => some (zeroO l && (zeroO h && mxO x' h), .nils, ρ, m) | none => none)
        | some (.array n e), .ptr k row fld =>
          (match sizeT P e, (m.getD k default).cols, x' with
           | some 1, [c], none => if row + fld + n ≤ c.len then some ((arrsl k (row + fld) n l h).1, (arrsl k (row + fld) n l h).2, ρ, m) else none
           | _, _, _ => none)
        | _, _ => none)
     | _, _, _ => none)
  | .fieldAddr s x f =>
    (match fieldT P s f, opd ρ x with
     | some (o, ft), .ptr k row fld => (match sizeT P ft with | some (_ + 1) => okV (.ptr k row (fld + o)) ρ m | _ => none)
     | _, _ => none)
  | .field t x f =>
    (match fieldT P t f, opd ρ x with
     | some (o, ft), .agg vs => okO (partV P ft vs o) ρ m
     | _, _ => none)
  | .indexAddr t x ix => (match opd ρ ix with | .I _ i => okC (idxA P t m (opd ρ x) i) ρ m | _ => none)
  | .index t x ix => (match opd ρ ix with | .I _ i => okC (idxV P t (opd ρ x) i) ρ m | _ => none)
  | .extract x ix => (match opd ρ x with | .tup vs => okO vs[ix]? ρ m | _ => none)
  | .call c => (match c.callee with | .builtin b => biop P b c.argTypes.toList ρ m (c.args.toList.map (opd ρ)) | _ => none)
  | _ => none

/-! ### More operations: what hangs on the operands' values and the memory alone -/
/-- A pointer to whole variables of a type, one behind the other. -/
def plainAt (m : Mem) (u k : Nat) : Bool := !(m.getD k default).ro && (Nat.beq (m.getD k default).et u && (Nat.beq (m.getD k default).cols.length (P.cellsOf u) && Nat.blt 0 (P.cellsOf u)))
def ustrV (t : TypeId) (m : Mem) (p : V) (n : Int) : Option (Bool × V × Mem) :=
  match p with
  | .nilp => some (n == 0, .S [], m)
  | .ptr k 0 0 =>
    (match P.underlying t, (m.getD k default).cols with
     | some (.pointer e), [.ints .u8 xs] =>
       (match plainAt P m e k with
        | true => some (decide (0 < n) && decide (n.toNat ≤ xs.length), .S (xs.take n.toNat), m.set k ⟨[.ints .u8 xs], (m.getD k default).et, true, (m.getD k default).mv⟩)
        | false => none)
     | _, _ => none)
  | _ => none
def xlen (t : TypeId) (m : Mem) (x : V) : Option (Bool × V × Mem) :=
  match P.underlying t, x with
  | some (.map _ _), .nilm => some (true, .I .i64 0, m)
  | some (.map _ _), .mapp j => (match (m.getD j default).mp with | some es => some (Nat.ble es.length 9223372036854775807, .I .i64 (es.length : Int), m) | none => none)
  | _, _ => none
def xbi (b : Builtin) (ts : List TypeId) (vs : List V) (m : Mem) : Option (Bool × V × Mem) :=
  match b, vs, ts with
  | .len, [x], [t] => xlen P t m x
  | .cap, [x], [t] =>
    (match P.underlying t, x with
     | some (.slice _), .nils => some (true, .I .i64 0, m)
     | some (.slice _), .sl _ _ _ (some c) => some (Nat.ble c 9223372036854775807, .I .i64 (c : Int), m)
     | some (.slice _), .sl _ _ _ none => some (true, .undef, m)
     | _, _ => none)
  | .unsafeSliceData, [x], [t] =>
    (match P.underlying t, x with
     | some (.slice _), .nils => some (true, .nilp, m)
     | some (.slice _), .sl k row len _ => some (decide (0 < slen m k row len), .ptr k row 0, m)
     | _, _ => none)
  | .unsafeString, [x, .I .i64 n], [t, _] => ustrV P t m x n
  | .copy, [d, .nils], [t, _] =>
    (match elemT P t with
     | some e =>
       (match sizeT P e, d with
        | some 1, .sl _ _ _ _ => some (true, .I .i64 0, m)
        | some 1, .nils => some (true, .I .i64 0, m)
        | _, _ => none)
     | none => none)
  | _, _, _ => none
def xcv (s d : TypeId) (m : Mem) (x : V) : Option V :=
  match P.underlying s, P.underlying d, x with
  | some (.pointer _), some .unsafePointer, .nilp => some .nilp
  | some .unsafePointer, some (.pointer _), .nilp => some .nilp
  | some (.pointer t), some .unsafePointer, .ptr k row 0 => (match sizeT P t, (m.getD k default).cols with | some (_ + 1), _ :: _ => some (.ptr k row 0) | _, _ => none)
  | some .unsafePointer, some (.pointer u), .ptr k 0 0 => (match plainAt P m u k with | true => some (.ptr k 0 0) | false => none)
  | _, _, _ => none
def xbin (op : BinOp) (t : TypeId) (m : Mem) (x y : V) : Option (Bool × V) :=
  match x, y with
  | .ptr k r f, .ptr k' r' f' =>
    (match P.underlying t, Nat.beq k k' && (Nat.beq r r' && Nat.beq f f') with
     | some (.pointer u), true => (match sizeT P u with | some (_ + 1) => nilop op true | _ => none)
     | _, _ => none)
  | .mapp _, .nilm => (match P.underlying t with | some (.map _ _) => nilop op false | _ => none)
  | .nilm, .nilm => (match P.underlying t with | some (.map _ _) => nilop op true | _ => none)
  | .fn _ _ _, .nilf => (match P.underlying t with | some (.func _ _ _) => nilop op false | _ => none)
  | .nilf, .nilf => (match P.underlying t with | some (.func _ _ _) => nilop op true | _ => none)
  | .nili, .nili => (match P.underlying t with | some (.interface ms) => (match ms.isEmpty with | true => nilop op true | false => none) | _ => none)
  | .sl k row len _, .nils => (match P.underlying t, nilop op false with | some (.slice _), some (_, v) => some (Nat.blt 0 (slen m k row len), v) | _, _ => none)
  | _, _ => none
/-! ## Maps -/
mutual
def V.same : V → V → Bool
  | .undef, .undef => true
  | .B x, .B y => x == y
  | .I k n, .I k' n' => if k = k' then n == n' else false
  | .S x, .S y => x == y
  | .ptr k r f, .ptr k' r' f' => if k = k' then (r == r') && (f == f') else false
  | .nilp, .nilp => true
  | .sl k r l c, .sl k' r' l' c' => if k = k' then (r == r') && ((l == l') && (c == c')) else false
  | .nils, .nils => true
  | .agg vs, .agg ws => V.sameL vs ws
  | .tup vs, .tup ws => V.sameL vs ws
  | .fn f a d, .fn f' a' d' => if f = f' then V.sameL a a' && V.sameL d d' else false
  | .nilf, .nilf => true
  | .ifc t v, .ifc t' v' => if t = t' then V.same v v' else false
  | .nili, .nili => true
  | .nilm, .nilm => true
  | .mapp k, .mapp k' => Nat.beq k k'
  | .itp k, .itp k' => Nat.beq k k'
  | .yv k, .yv k' => Nat.beq k k'
  | .chp k, .chp k' => Nat.beq k k'
  | .L k i q b c d, .L k' i' q' b' c' d' => if k = k' then (Nat.beq i i' && (b == b' && (c == c' && d == d'))) && q == q' else false
  | _, _ => false
def V.sameL : List V → List V → Bool
  | [], [] => true
  | v :: vs, w :: ws => V.same v w && V.sameL vs ws
  | _, _ => false
end
def sameV : V → V → Option Bool
  | .I k a, .I k' b => if k = k' then some (a == b) else none
  | .L k i q b c d, y => eqN (.L k i q b c d) y
  | .I k n, .L k' i q b c d => eqN (.I k n) (.L k' i q b c d)
  | .S a, .S b => some (a == b)
  | .B a, .B b => some (a == b)
  | _, _ => none
/-- May a value be a key, of a type that is compared at once? -/
def keyOk (d : TypeDesc) (k : V) : Bool :=
  match d, k with
  | .int _, .I _ _ => true
  | .int _, .L _ _ _ _ _ _ => true
  | .string, .S _ => true
  | .bool, .B _ => true
  | _, _ => false
/-- Which entry has the key? -/
def findV (k : V) : List (V × V) → Nat → Option (Option Nat)
  | [], _ => some none
  | e :: es, i => match sameV k e.1 with | some b => (match b with | true => some (some i) | false => findV k es (i + 1)) | none => none
def findE (eq : V → V → Option Bool) (k : V) : List (V × V) → Nat → Option (Option Nat)
  | [], _ => some none
  | e :: es, i => match eq k e.1 with | some b => (match b with | true => some (some i) | false => findE eq k es (i + 1)) | none => none
/-- Fields of whole numbers, texts and truth values alone. -/
def flatF (vs : List V) : List Field → Bool
  | [] => true
  | f :: fs =>
    (match P.underlying f.type, partV P f.type vs f.offset with
     | some (.int _), some (.I _ _) => true
     | some .string, some (.S _) => true
     | some .bool, some (.B _) => true
     | _, _ => false) && flatF vs fs
def keyOkP (d : TypeDesc) (k : V) : Bool := match d, k with | .struct fs, .agg vs => flatF P vs fs.toList | d, k => keyOk d k
def findP (kt : TypeId) (k : V) (es : List (V × V)) : Option (Option Nat) := match k with | .agg vs => findE (eqT P 12 kt) (.agg vs) es 0 | k => findV k es 0
def plainL : List V → Bool
  | [] => true
  | .I _ _ :: vs => plainL vs
  | .S _ :: vs => plainL vs
  | .B _ :: vs => plainL vs
  | _ :: _ => false
/-- Is it the same key to the letter? -/
def stayOk (k e : V) : Bool := match k with | .agg vs => (match e with | .agg ws => plainL vs && V.sameL vs ws | _ => false) | _ => true
def zeroM (t : TypeId) : Option V := match P.info? t with | some i => (match i.zero with | some z => some (V.of z) | none => none) | none => none
def entriesV (m : Mem) (x : V) : Option (List (V × V)) :=
  match x with
  | .nilm => some []
  | .mapp j => (m.getD j default).mp
  | _ => none
def gotV (ok : Bool) (v : V) (b : Bool) : V := match ok with | true => .tup [v, .B b] | false => v
def lookupV (t : TypeId) (ok : Bool) (m : Mem) (x k : V) : Option V :=
  match P.underlying t with
  | some (.map kt et) =>
    (match P.underlying kt, zeroM P et, entriesV m x with
     | some d, some z, some es =>
       (match keyOkP P d k, findP P kt k es with
        | true, some none => some (gotV ok z false)
        | true, some (some i) => (match es[i]? with | some p => some (gotV ok p.2 true) | none => none)
        | _, _ => none)
     | _, _, _ => none)
  | _ => none
def insV (t : TypeId) (m : Mem) (x k v : V) : Option Mem :=
  match P.underlying t, x with
  | some (.map kt _), .mapp j =>
    (match P.underlying kt, (m.getD j default).ro, (m.getD j default).mp with
     | some d, false, some es =>
       (match keyOkP P d k, findP P kt k es with
        | true, some none => some (m.set j ⟨[.map (es ++ [(k, v)])], (m.getD j default).et, false, (m.getD j default).mv⟩)
        | true, some (some i) => (match es[i]? with | some p => (match stayOk k p.1 with | true => some (m.set j ⟨[.map (es.set i (k, v))], (m.getD j default).et, false, (m.getD j default).mv⟩) | false => none) | none => none)
        | _, _ => none)
     | _, _, _ => none)
  | _, _ => none
/-- m[k] op= v: the entry first. -/
def entV (t : TypeId) (m : Mem) (x k : V) : Option (Bool × V × Mem) :=
  match P.underlying t, x with
  | some (.map kt et), .mapp j =>
    (match P.underlying kt, zeroM P et, (m.getD j default).ro, (m.getD j default).mp with
     | some d, some z, false, some es =>
       (match keyOkP P d k, findP P kt k es with
        | true, some none => some (Nat.ble es.length 9223372036854775807, .tup [z, .I .i64 (es.length : Int)], m.set j ⟨[.map (es ++ [(k, z)])], (m.getD j default).et, false, (m.getD j default).mv⟩)
        | true, some (some i) => (match es[i]? with | some p => (match stayOk k p.1 with | true => some (Nat.ble i 9223372036854775807, .tup [p.2, .I .i64 (i : Int)], m.set j ⟨[.map (es.set i (k, p.2))], (m.getD j default).et, false, (m.getD j default).mv⟩) | false => none) | none => none)
        | _, _ => none)
     | _, _, _, _ => none)
  | _, _ => none
def entS (m : Mem) (x s v : V) : Option Mem :=
  match x, s with
  | .mapp j, .I .i64 (.ofNat i) =>
    (match (m.getD j default).ro, (m.getD j default).mp with
     | false, some es => (match es[i]? with | some p => some (m.set j ⟨[.map (es.set i (p.1, v))], (m.getD j default).et, false, (m.getD j default).mv⟩) | none => none)
     | _, _ => none)
  | _, _ => none
def rangeV (t : TypeId) (m : Mem) (x : V) : Option (V × Mem) :=
  match P.underlying t, x with
  | some .string, .S xs => some (.itp m.length, m ++ [⟨[.st xs 0], 0, false, true⟩])
  | some (.map _ _), .mapp j => (match (m.getD j default).mp with | some es => some (.itp m.length, m ++ [⟨[.it j es.length [] es.length], 0, false, true⟩]) | none => none)
  | _, _ => none
/-- The entry to which an iterator has come. -/
def entryV (m : Mem) (x : V) : Option V :=
  match x with
  | .itp r =>
    (match (m.getD r default).sp with
     | some (.it j _ seen last) =>
       (match (m.getD j default).mp, seen.getLast? with
        | some es, some i => (match Nat.beq es.length last, es[i]? with | true, some p => some (.tup [p.1, p.2]) | _, _ => none)
        | _, _ => none)
     | _ => none)
  | _ => none
/-- The next letter of a text. -/
def nextS (m : Mem) (x : V) : Option (Bool × V × Mem) :=
  match x with
  | .itp r =>
    (match (m.getD r default).ro, (m.getD r default).sp with
     | false, some (.st xs pos) =>
       (match Nat.blt pos xs.length with
        | true => some (decide (xs.getD pos 0 < 128), .tup [.B true, .I .i64 (pos : Int), .I .i32 (xs.getD pos 0)], m.set r ⟨[.st xs (pos + 1)], (m.getD r default).et, false, (m.getD r default).mv⟩)
        | false => some (true, .tup [.B false], m))
     | _, _ => none)
  | _ => none
def assertV (t : TypeId) (ok : Bool) (x : V) : Option V :=
  match P.underlying t, zeroM P t with
  | some (.interface _), _ => none
  | some _, some z =>
    (match x with
     | .ifc u v => if u = t then some (gotV ok v true) else (match ok with | true => some (.tup [z, .B false]) | false => none)
     | .nili => (match ok with | true => some (.tup [z, .B false]) | false => none)
     | _ => none)
  | _, _ => none
/-- A channel. -/
def makeChV (t : TypeId) (n : Int) (m : Mem) : Option (Bool × V × Mem) :=
  match P.underlying t with
  | some (.chan _ e) =>
    (match P.info? e with
     | some i => some (decide (0 ≤ n) && (decide (n ≤ 9223372036854775807) && decide ((i.bytes : Int) * n ≤ 281474976710544)), .chp m.length, m ++ [⟨[.ch n.toNat []], t, false, true⟩])
     | none => none)
  | _ => none
def xmap (op : Op) (vs : List V) (m : Mem) : Option (Bool × V × Mem) :=
  match op, vs with
  | .makeChan t _, [.I .i64 n] => makeChV P t n m
  | .makeMap t none, [] => some (true, .mapp m.length, m ++ [⟨[.map []], t, false, true⟩])
  | .lookup t _ _ ok, [x, k] => (match lookupV P t ok m x k with | some v => some (true, v, m) | none => none)
  | .mapUpdate t _ _ _, [x, k, v] => (match insV P t m x k v with | some m' => some (true, .undef, m') | none => none)
  | .insert t _ _ _, [x, k, v] => (match insV P t m x k v with | some m' => some (true, .undef, m') | none => none)
  | .mapEntry t _ _, [x, k] => entV P t m x k
  | .entryStore _ _ _ _, [x, s, v] => (match entS m x s v with | some m' => some (true, .undef, m') | none => none)
  | .range t _, [x] => (match rangeV P t m x with | some (v, m') => some (true, v, m') | none => none)
  | .entry _, [x] => (match entryV m x with | some v => some (true, v, m) | none => none)
  | .next _ true, [x] => nextS m x
  | .typeAssert _ _ t ok, [x] => (match assertV P t ok x with | some v => some (true, v, m) | none => none)
  | _, _ => none
def xop (o : Oper) (vs : List V) (m : Mem) : Option (Bool × V × Mem) :=
  match o.op with
  | .call c => (match c.callee with | .builtin b => xbi P b c.argTypes.toList vs m | _ => none)
  | .convert s d _ => (match vs with | [x] => (match xcv P s d m x with | some v => some (true, v, m) | none => none) | _ => none)
  | .binOp op t _ _ _ => (match vs with | [x, y] => (match xbin P op t m x y with | some (c, v) => some (c, v, m) | none => none) | _ => none)
  | op => xmap P op vs m
def sop (o : Oper) (ρ : Env) (m : Mem) : Step1 :=
  match sop0 P o ρ m with
  | some r => some r
  | none => (match xop P o (o.op.operands.toList.map (opd ρ)) m with | some (c, v, m') => some (c, v, ρ, m') | none => none)
end

/-! ## Calls: the least memory -/
def mem? (k : Nat) : List Nat → Bool
  | [] => false
  | j :: js => match Nat.beq j k with | true => true | false => mem? k js
def idx? (k : Nat) : Nat → List Nat → Option Nat
  | _, [] => none
  | i, j :: js => match Nat.beq j k with | true => some i | false => idx? k (i + 1) js
/-- What is reached from 'todo': each block once. -/
def reach (m : Mem) : Nat → List Nat → List Nat → List Nat
  | 0, _, seen => seen
  | _, [], seen => seen
  | n + 1, k :: todo, seen =>
    match mem? k seen, m[k]? with
    | false, some b => reach m n (todo ++ b.refs) (seen ++ [k])
    | _, _ => reach m n todo seen
def foot (m : Mem) (vs : List V) : List Nat := reach m 4096 (V.refsL vs) []
/-- The blocks 'ks' alone, with numbers of their own. -/
def cut (m : Mem) (ks : List Nat) : Mem := ks.map fun k => ⟨((m.getD k default).ren (fun j => idx? j 0 ks)).cols, (m.getD k default).et, (m.getD k default).ro, false⟩
/-- Which blocks of the caller were appended to by the callee. -/
def movedOf : List Nat → Mem → List Nat
  | k :: ks, b :: bs => match b.mv with | true => k :: movedOf ks bs | false => movedOf ks bs
  | _, _ => []
def notIn (js : List Nat) (k : Nat) : Option Nat := match mem? k js with | true => none | false => some k
def dropE (js : List Nat) (ρ : Env) : Env := match js with | [] => ρ | js => ρ.map (V.ren (notIn js))
def dropB (js : List Nat) (b : Blk) : Blk := match js with | [] => b | js => b.ren (notIn js)
/-- Back: the number of a block of the callee in the caller. -/
def backN (ks : List Nat) (n j : Nat) : Option Nat := match ks[j]? with | some k => some k | none => some (n + (j - ks.length))
def putB (ks : List Nat) (n : Nat) (mf : Mem) (js : List Nat) : Nat → Mem → Mem
  | _, [] => []
  | k, b :: bs =>
    (match idx? k 0 ks with
     | some i => ⟨((mf.getD i default).ren (backN ks n)).cols, (mf.getD i default).et, (mf.getD i default).ro, b.mv || (mf.getD i default).mv⟩
     | none => dropB js b) :: putB ks n mf js (k + 1) bs
def newsB (ks : List Nat) (n : Nat) (mf : Mem) : Mem := (mf.drop ks.length).map fun b => ⟨(b.ren (backN ks n)).cols, b.et, b.ro, true⟩
/-- What stays of the memory: the arguments' blocks, and what the result reaches. -/
def keep (m : Mem) (a : Nat) (v : V) : List Nat :=
  List.range a ++ (reach m 4096 (List.range a ++ V.refs v) []).filter fun k => Nat.ble a k
def trim (m : Mem) (ks : List Nat) : Mem :=
  ks.map fun k => ⟨((m.getD k default).ren (fun j => idx? j 0 ks)).cols, (m.getD k default).et, (m.getD k default).ro, (m.getD k default).mv⟩

/-! ## Code -/
abbrev CC := FuncId → List V → Mem → (V → Mem → Prop) → Prop
def put (dst : Option Tmp) (v : V) (ρ : Env) : Env := match dst with | some d => ρ.set d v | none => ρ
/-- The method of a type: a function that takes the value as it is. -/
def methV (P : Program) (t : TypeId) (nm : String) : Option FuncId :=
  match P.info? t with
  | some i =>
    (match i.methods.toList.find? (fun m => m.name == nm) with
     | some m =>
       (match m.path.toList, m.func with
        | [], some (g, pr) => (match P.underlying t, pr with | some (.pointer _), true => some g | some (.pointer _), false => none | some _, false => some g | _, _ => none)
        | _, _ => none)
     | none => none)
  | none => none
/-- A temporary is known by now. -/
def refine (x : Operand) (b : Bool) (ρ : Env) : Env := match x with | .tmp d => ρ.set d (.B b) | _ => ρ
section
variable (P : Program) (C : CC)
def ccall (g : FuncId) (args : List V) (ρ : Env) (m : Mem) (K : V → Env → Mem → Prop) : Prop :=
  C g (V.renL (fun j => idx? j 0 (foot m args)) args) (cut m (foot m args)) fun r mf =>
    K (V.ren (backN (foot m args) m.length) r) (dropE (movedOf (foot m args) mf) ρ)
      (putB (foot m args) m.length mf (movedOf (foot m args) mf) 0 m ++ newsB (foot m args) m.length mf)
def csop (o : Oper) (ρ : Env) (m : Mem) (K : V → Env → Mem → Prop) : Prop :=
  match sop P o ρ m with
  | some (c, v, ρ', m') => (match c with | true => K v ρ' m' | false => False)
  | none => False
/-- One of 'n' numbers. -/
def casesI (f : Nat → Prop) (i : Int) : Nat → Prop
  | 0 => False
  | n + 1 => match i == (n : Int) with | true => f n | false => casesI f i n
/-- The entry with the key, whichever it is: one way for each entry, and one for none. -/
def lookK (f : V → Bool → Prop) (k z : V) : List (V × V) → Prop
  | [] => f z false
  | e :: es => (match sameV k e.1 with | some b => (match b with | true => f e.2 true | false => lookK f k z es) | none => False)
/-- For each of some numbers. -/
def allN (f : Nat → Prop) : List Nat → Prop
  | [] => True
  | [i] => f i
  | i :: j :: l => f i ∧ allN f (j :: l)
/-- The entries' numbers that an iterator has not come to. -/
def leftN (n : Nat) (seen : List Nat) : List Nat := (List.range n).filter fun i => !mem? i seen
/-- The next entry of a map: any of those that are left. -/
def cnext (m : Mem) (x : V) (K : V → Mem → Prop) : Prop :=
  match x with
  | .itp r =>
    (match (m.getD r default).ro, (m.getD r default).sp with
     | false, some (.it j n seen last) =>
       (match (m.getD j default).mp with
        | some es =>
          (match Nat.beq es.length n && Nat.beq last n with
           | true =>
             (match leftN n seen with
              | [] => K (.tup [.B false]) m
              | l => allN (fun i => match es[i]? with | some p => K (.tup [.B true, p.1, p.2]) (m.set r ⟨[.it j n (seen ++ [i]) n], (m.getD r default).et, false, (m.getD r default).mv⟩) | none => False) l)
           | false => False)
        | none => False)
     | _, _ => False)
  | _ => False
/-- What a round of the loop at hand does: yield's arguments (the loop's record first), memory, what comes. -/
abbrev YC := List V → Mem → (V → Mem → Prop) → Prop
def noY : YC := fun _ _ _ => False
variable (Y : YC)
/-- What came of a call: a panic goes its own way. -/
def retK (KP K : V → Env → Mem → Prop) : V → Env → Mem → Prop := fun r ρ m => match r with | .pan p => KP p ρ m | r => K r ρ m
/-- No panic. -/
def noP : V → Env → Mem → Prop := fun _ _ _ => False
variable (KP : V → Env → Mem → Prop)
def cop (o : Oper) (ρ : Env) (m : Mem) (K : V → Env → Mem → Prop) : Prop :=
  match o.op with
  | .index t x ix =>
    (match P.underlying t, opd ρ x, opd ρ ix with
     | some (.array n e), .agg vs, .I _ i =>
       (match isAggT P e, sizeT P e with
        | some true, some sz => if vs.length = n * sz then casesI (fun j => K (.agg ((vs.drop (j * sz)).take sz)) ρ m) i n else False
        | _, _ => csop P o ρ m K)
     | _, _, _ => csop P o ρ m K)
  | .lookup t x ix ok =>
    (match opd ρ ix with
     | .agg _ => csop P o ρ m K
     | _ =>
     match P.underlying t with
     | some (.map kt et) =>
       (match P.underlying kt, zeroM P et, entriesV m (opd ρ x) with
        | some d, some z, some es => (match keyOk d (opd ρ ix) with | true => lookK (fun v b => K (gotV ok v b) ρ m) (opd ρ ix) z es | false => False)
        | _, _, _ => False)
     | _ => False)
  | .next x false => cnext m (opd ρ x) fun v m' => K v ρ m'
  | .panic x => (match opd ρ x with | .ifc t v => KP (.ifc t v) ρ m | _ => False)
  | .pick c x y =>
    (match opd ρ c with
     | .B t => (match t with | true => K (opd ρ x) (refine c true ρ) m | false => K (opd ρ y) (refine c false ρ) m)
     | _ => False)
  | .call c =>
    (match c.callee with
     | .value f =>
       (match opd ρ f with
        | .fn (.func g) first captured => ccall C g (first ++ c.args.toList.map (opd ρ) ++ captured) ρ m (retK KP K)
        | .yv k => ccall (fun _ => Y) 0 (.yv k :: c.args.toList.map (opd ρ)) ρ m (retK noP K)
        | _ => False)
     | .invoke r nm =>
       (match opd ρ r with
        | .ifc t v => (match methV P t nm with | some g => ccall C g (v :: c.args.toList.map (opd ρ)) ρ m (retK KP K) | none => False)
        | _ => False)
     | _ => csop P o ρ m K)
  | _ => csop P o ρ m K
/-- Where the j-th of the operations leaves its value. -/
def slotOf (all : List Oper) (j : Nat) : Option Tmp := match all[j]? with | some g => g.dst | none => none
/-- Is an operation wanted? -/
def cguard (all : List Oper) (o : Oper) (ρ : Env) (yes no : Env → Prop) : Prop :=
  match o.guard with
  | none => yes ρ
  | some (j, want) =>
    match slotOf all j with
    | none => no ρ
    | some d =>
      match ρ.get d with
      | .B x =>
        (match x with
         | true => (match want with | true => yes (ρ.set d (.B true)) | false => no (ρ.set d (.B true)))
         | false => (match want with | true => no (ρ.set d (.B false)) | false => yes (ρ.set d (.B false))))
      | .tup [] => no ρ
      | _ => False
/-- One operation with its guard. -/
def cstep (all : List Oper) (o : Oper) (ρ : Env) (m : Mem) (K : Env → Mem → Prop) : Prop :=
  cguard all o ρ (fun ρ => cop P C Y KP o ρ m fun v ρ m => K (put o.dst v ρ) m) (fun ρ => K (put o.dst (.tup []) ρ) m)
def cops (all : List Oper) : List Oper → Env → Mem → (Env → Mem → Prop) → Prop
  | [], ρ, m, K => K ρ m
  | o :: os, ρ, m, K => cstep P C Y KP all o ρ m fun ρ m => cops all os ρ m K

/-! ## Regions whose order is open -/
/-- An operation that asks nothing of the memory but to read it, and changes nothing. -/
def pureOp (o : Oper) : Bool :=
  match o.op with
  | .move _ | .pick _ _ _ | .build _ _ | .load _ _ | .nilCheck _ | .binOp _ _ _ _ _ | .unOp _ _ _ | .convert _ _ _ | .makeInterface _ _ | .makeFunc _ _ _
  | .slice _ _ _ _ _ | .fieldAddr _ _ _ | .field _ _ _ | .indexAddr _ _ _ | .index _ _ _ | .extract _ _ | .lookup _ _ _ _ | .typeAssert _ _ _ _ => true
  | .call c => (match c.callee with | .builtin .len => true | .builtin .min => true | .builtin .max => true | .builtin .cap => true | .builtin .unsafeSliceData => true | _ => false)
  | _ => false
/-- An operation that lays a new block, and looks at no memory. -/
def freeOp (o : Oper) : Bool :=
  match o.op with
  | .alloc _ | .box _ _ | .buildSlice _ _ _ | .makeSlice _ _ _ | .makeMap _ _ | .makeChan _ _ => true
  | _ => false
/-- One that may be taken as soon as what it waits for is done. -/
def earlyOp (o : Oper) : Bool := pureOp o || freeOp o
def bindsAny (e : Edge) : Bool := match e.ground with | .textOnly _ => false | .gcOnly _ => false | _ => true
def waitsFor (o : Oper) (i : Nat) : Bool := o.after.toList.any fun e => bindsAny e && Nat.beq e.on i
/-- Does an operation wait for one of these? -/
def waitsOne (o : Oper) (l : List Nat) : Bool := o.after.toList.any fun e => bindsAny e && mem? e.on l
/-- Is it wanted, as far as is known? -/
def wantV (all : List Oper) (o : Oper) (ρ : Env) : Option Bool :=
  match o.guard with
  | none => some true
  | some (j, want) =>
    match slotOf all j with
    | none => some false
    | some d =>
      match ρ.get d with
      | .B true => some want
      | .B false => some (!want)
      | .tup [] => some false
      | _ => none
/-- What an operation that changes nothing leaves. -/
def valV (o : Oper) (ρ : Env) (m : Mem) : Option (Bool × V) :=
  match o.op with
  | .pick c x y => (match opd ρ c with | .B true => some (true, opd ρ x) | .B false => some (true, opd ρ y) | _ => none)
  | _ => (match sop P o ρ m with | some (c, v, _, _) => some (c, v) | none => none)
/-- What it would leave now: none, if that is not known. -/
def again (all : List Oper) (o : Oper) (ρ : Env) (m : Mem) : Option (Bool × V) :=
  match wantV all o ρ with
  | some true => valV P o ρ m
  | some false => some (true, .tup [])
  | none => none
def afters (o : Oper) : List Nat := (o.after.toList.filter bindsAny).map (·.on)
def Col.same : Col → Col → Bool
  | .ints k xs, .ints k' ys => if k = k' then xs == ys else false
  | .bools xs, .bools ys => xs == ys
  | .strs xs, .strs ys => xs == ys
  | .vals xs, .vals ys => V.sameL xs ys
  | .map es, .map fs => V.sameL (es.map (·.1)) (fs.map (·.1)) && V.sameL (es.map (·.2)) (fs.map (·.2))
  | .it k n s l, .it k' n' s' l' => Nat.beq k k' && (Nat.beq n n' && (s == s' && Nat.beq l l'))
  | .st xs p, .st xs' p' => xs == xs' && Nat.beq p p'
  | .gone, .gone => true
  | .ch c xs, .ch c' xs' => Nat.beq c c' && V.sameL xs xs'
  | _, _ => false
def sameCols : List Col → List Col → Bool
  | [], [] => true
  | c :: cs, d :: ds => Col.same c d && sameCols cs ds
  | _, _ => false
def Blk.same (b c : Blk) : Bool := Nat.beq b.et c.et && (b.ro == c.ro && (b.mv == c.mv && sameCols b.cols c.cols))
def lookN (i : Nat) : List (Nat × Nat) → Option Nat
  | [] => none
  | p :: l => match Nat.beq i p.1 with | true => some p.2 | false => lookN i l
/-- Would one that lays a new block (number 'kb' here) still lay it so? -/
def sameNew (all : List Oper) (news : List (Nat × Nat)) (i : Nat) (p : Oper) (ρ : Env) (m : Mem) : Bool :=
  match wantV all p ρ with
  | some false => (match lookN i news, p.dst with | none, some d => V.same (ρ.get d) (.tup []) | _, _ => false)
  | some true =>
    (match lookN i news, p.dst, sop P p ρ m with
     | some kb, some d, some (c, v, _, m') =>
       (match m'.drop m.length with
        | [b] => c && (V.same (ρ.get d) (V.ren (mvN m.length kb) v) && (Nat.blt kb m.length && Blk.same (m.getD kb default) (b.ren (mvN m.length kb))))
        | _ => false)
     | _, _, _ => false)
  | none => false
/-- Would all of these that are not known to be done ('R', and whoever they wait for) still leave what they left? -/
def stable (all : List Oper) (news : List (Nat × Nat)) : List Nat → List (Nat × Oper) → Env → Mem → Bool
  | _, [], _, _ => true
  | R, (i, p) :: l, ρ, m =>
    match mem? i R with
    | true => stable all news (afters p ++ R) l ρ m
    | false =>
      (match pureOp p with
       | false => (match freeOp p with | true => sameNew P all news i p ρ m | false => true)
       | true =>
         match again P all p ρ m, p.dst with
         | some (c, v), some d => c && V.same (ρ.get d) v
         | _, _ => false) && stable all news R l ρ m
/-- The new block, if there is one, has this number. -/
def newsOf (i : Nat) (m m' : Mem) (news : List (Nat × Nat)) : List (Nat × Nat) := match Nat.beq m'.length m.length with | true => news | false => (i, m.length) :: news
/-- These temporaries are forgotten. -/
def undefs : List Tmp → Env → Env
  | [], ρ => ρ
  | d :: ds, ρ => undefs ds (ρ.set d .undef)
/-- What those that may be taken early write. -/
def earlyD (all : List Oper) : List Tmp := all.filterMap fun o => match earlyOp o with | true => o.dst | false => none
/-- Those that change nothing, and those that lay new blocks, as soon as they may; then the first other one. 'fuel' bounds the rounds. -/
def cdraw (all : List Oper) : Nat → List (Nat × Oper) → List (Nat × Oper) → List Nat → List (Nat × Oper) → List (Nat × Nat) → Env → Mem → (Env → Mem → Prop) → Prop
  | 0, _, _, _, _, _, _, _, _ => False
  | n + 1, done, later, blocked, todo, news, ρ, m, K =>
    match todo with
    | (i, o) :: rest =>
      (match earlyOp o && !waitsOne o blocked with
       | true =>
         (match pureOp o with
          | true => cstep P C Y noP all o ρ m fun ρ m => cdraw all n ((i, o) :: done) later blocked rest news ρ m K
          | false => cstep P C Y noP all o ρ m fun ρ' m' =>
            (match stable P all (newsOf i m m' news) [] ((i, o) :: done) ρ' m' with
             | true => cdraw all n ((i, o) :: done) later blocked rest (newsOf i m m' news) ρ' m' K
             | false => False))
       | false => cdraw all n done ((i, o) :: later) (i :: blocked) rest news ρ m K)
    | [] =>
      (match later.reverse with
       | [] => K ρ m
       | (i, o) :: rest =>
         match earlyOp o with
         | false => cstep P C Y (fun p ρ m => KP p (undefs (earlyD all) ρ) m) all o ρ m fun ρ m => (match stable P all news (afters o) done ρ m with | true => cdraw all n ((i, o) :: done) [] [] rest news ρ m K | false => False)
         | true => False)
def tmpOf : Operand → Option Tmp | .tmp t => some t | _ => none
/-- The temporaries that an operation looks at. -/
def looks (all : List Oper) (o : Oper) : List Tmp :=
  (match o.guard with | some (j, _) => (match slotOf all j with | some d => [d] | none => []) | none => []) ++ o.op.operands.toList.filterMap tmpOf
/-- One operation 'o' with number 'r', against all others: whoever changes nothing and leaves what 'o' looks at, 'o' waits for; nobody else writes where one that changes nothing writes. -/
def fits (all : List Oper) (o : Oper) (r : Nat) : Nat → List Oper → Bool
  | _, [] => true
  | i, p :: ps =>
    (match earlyOp p, p.dst with
     | true, some d => (!mem? d (looks all o) || waitsFor o i) && (Nat.beq i r || (match o.dst with | some d' => !Nat.beq d d' | none => true))
     | true, none => false
     | false, _ => true) && fits all o r (i + 1) ps
def forward (o : Oper) (r : Nat) : Bool := o.after.toList.all fun e => !bindsAny e || Nat.blt e.on r
/-- Does an operation wait for 'l', itself or through those that it waits for? -/
def waitsT (all : List Oper) : Nat → Oper → Nat → Bool
  | 0, o, l => waitsFor o l
  | n + 1, o, l => waitsFor o l || o.after.toList.any fun e => bindsAny e && (Nat.blt l e.on && (match all[e.on]? with | some p => waitsT all n p l | none => false))
/-- Those that change something, one behind the other. -/
def chained (all : List Oper) : Option Nat → Nat → List Oper → Bool
  | _, _, [] => true
  | last, i, o :: os =>
    match earlyOp o with
    | true => chained all last (i + 1) os
    | false => (match last with | none => true | some l => waitsT all 4 o l) && chained all (some i) (i + 1) os
def eachFits (all : List Oper) : Nat → List Oper → Bool
  | _, [] => true
  | r, o :: os => forward o r && (fits all o r 0 all && eachFits all (r + 1) os)
/-- What must hold of the text of such a region. -/
def drawOk (ops : List Oper) : Bool := P.follows .mixedOrders && (chained ops none 0 ops && eachFits ops 0 ops)

def number : Nat → List Oper → List (Nat × Oper)
  | _, [] => []
  | i, o :: os => (i, o) :: number (i + 1) os
inductive Ex where
  | normal
  | ret
  | exit (id : Nat)
  | panic (v : V)
/-- A frame of which some temporaries are known. -/
def setsE : List (Nat × V) → Env → Env
  | [], ρ => ρ
  | (i, v) :: ps, ρ => setsE ps (ρ.set i v)
def selE (n : Nat) (ps : List (Nat × V)) : Env := setsE ps (Tr.full .undef n n)
/-- A frame and a memory without what is forgotten: the first 'a' blocks, and what the temporaries 'ts' reach. -/
def tidyK (a : Nat) (ts : List Nat) (ρ : Env) (m : Mem) : List Nat := keep m a (.tup (ts.map ρ.get))
def tidyE (a : Nat) (ts : List Nat) (ρ : Env) (m : Mem) : Env := setsE (ts.map fun i => (i, (ρ.get i).ren (fun j => idx? j 0 (tidyK a ts ρ m)))) (ρ.map fun _ => .undef)
def tidyM (a : Nat) (ts : List Nat) (ρ : Env) (m : Mem) : Mem := trim m (tidyK a ts ρ m)
def cloop (body : Env → Mem → (Ex → Env → Mem → Prop) → Prop) : Nat → Env → Mem → (Ex → Env → Mem → Prop) → Prop
  | 0, _, _, _ => False
  | n + 1, ρ, m, K => body ρ m fun e ρ m => match e with | .normal => cloop body n ρ m K | e => K e ρ m
/-- A loop that forgets: at its head what 'h' tells, at its end what 'x' tells. -/
def cround (a : Nat) (h x : List Nat) (body : Env → Mem → (Ex → Env → Mem → Prop) → Prop) : Nat → Env → Mem → (Ex → Env → Mem → Prop) → Prop
  | 0, _, _, _ => False
  | n + 1, ρ, m, K => body ρ m fun e ρ m => match e with | .normal => cround a h x body n (tidyE a h ρ m) (tidyM a h ρ m) K | .panic p => K (.panic p) ρ m | e => K e (tidyE a x ρ m) (tidyM a x ρ m)
/-- The number of the first region. -/
def firstR : Code → Nat
  | .region id _ _ => id
  | .seq a _ => firstR a
  | .block _ a => firstR a
  | .loop a => firstR a
  | _ => 0
/-- What loops (by their first region) are known to do. -/
abbrev LoopF := Code → Env → Mem → (Ex → Env → Mem → Prop) → Prop
abbrev Masks := Nat → Option LoopF
def cexec (W : Masks) (a n : Nat) : Code → Env → Mem → (Ex → Env → Mem → Prop) → Prop
  | .skip, ρ, m, K => K .normal ρ m
  | .region _ ops draw, ρ, m, K =>
    (match draw with
     | false => cops P C Y (fun p ρ m => K (.panic p) ρ m) ops.toList ops.toList ρ m fun ρ m => K .normal ρ m
     | true =>
       match drawOk P ops.toList with
       | true => cdraw P C Y (fun p ρ m => K (.panic p) ρ m) ops.toList (2 * ops.size * ops.size + 2) [] [] [] (number 0 ops.toList) [] ρ m fun ρ m => K .normal ρ m
       | false => False)
  | .seq x y, ρ, m, K => cexec W a n x ρ m fun e ρ m => match e with | .normal => cexec W a n y ρ m K | e => K e ρ m
  | .cond c x y, ρ, m, K =>
    (match opd ρ c with
     | .B t => (match t with | true => cexec W a n x ρ m K | false => cexec W a n y ρ m K)
     | _ => False)
  | .block id x, ρ, m, K => cexec W a n x ρ m fun e ρ m => match e with | .exit j => (match Nat.beq j id with | true => K .normal ρ m | false => K (.exit j) ρ m) | e => K e ρ m
  | .loop x, ρ, m, K =>
    (match W (firstR x) with
     | none => cloop (fun ρ m K => cexec W a n x ρ m K) n ρ m K
     | some lf => lf x ρ m K)
  | .scope x, ρ, m, K => cexec W a n x ρ m K
  | .exit id, ρ, m, K => K (.exit id) ρ m
  | .ret, ρ, m, K => K .ret ρ m
  | .label _, ρ, m, K => K .normal ρ m
  | _, _, _, _ => False
def resV (ρ : Env) (m : Mem) : ResultVar → Option V
  | .tmp t => some (ρ.get t)
  | .cell a t => loadV P t m (ρ.get a)
def resVs (ρ : Env) (m : Mem) : List ResultVar → Option (List V)
  | [] => some []
  | r :: rs => (match resV P ρ m r, resVs ρ m rs with | some v, some vs => some (v :: vs) | _, _ => none)
def one : List V → V
  | [v] => v
  | vs => .tup vs
def kbody (a : Nat) (fn : Func) (K : V → Mem → Prop) : Ex → Env → Mem → Prop := fun e ρ m' =>
  match e with
  | .exit _ => False
  | .panic p => K (.pan (V.ren (fun j => idx? j 0 (keep m' a p)) p)) (trim m' (keep m' a p))
  | _ =>
    match resVs P ρ m' fn.results.toList with
    | some vs => K (V.ren (fun j => idx? j 0 (keep m' a (one vs))) (one vs)) (trim m' (keep m' a (one vs)))
    | none => False
def cbody (W : Masks) (n : Nat) (fn : Func) (args : List V) (m : Mem) (K : V → Mem → Prop) : Prop :=
  match fn.body with
  | none => False
  | some c => cexec P C noY W m.length n c (Tr.puts 0 args (Tr.full (.tup []) (max fn.ntmps args.length) (max fn.ntmps args.length))) m (kbody P m.length fn K)
end
/-- Functions that are known without their text: what they answer. -/
abbrev Prims := FuncId → Option (List V → Mem → (V → Mem → Prop) → Prop)
def call (P : Program) (S : Prims) : Nat → CC
  | 0 => fun _ _ _ _ => False
  | n + 1 => fun f args m K =>
    match S f with
    | some g => g args m K
    | none => match P.funcs[f]? with | some fn => cbody P (call P S n) (fun _ => none) n fn args m K | none => False
/-- Code within code: left, or right. -/
def sub : List Bool → Code → Code
  | [], c => c
  | b :: bs, c =>
    match c with
    | .seq x y => (match b with | false => sub bs x | true => sub bs y)
    | .cond _ x y => (match b with | false => sub bs x | true => sub bs y)
    | .block _ x => sub bs x
    | .loop x => sub bs x
    | .scope x => sub bs x
    | c => c
/-- The text of a function. -/
def bodyOf (P : Program) (f : FuncId) : Code := match P.funcs[f]? with | some fn => (match fn.body with | some c => c | none => .skip) | none => .skip
def fnOf (P : Program) (f : FuncId) : Func := match P.funcs[f]? with | some fn => fn | none => default
end Go.Ab
