/-
  The abstract machine: a deterministic evaluator over the loaded code. Values carry block ids and versions in the place of addresses; capacities, orders and addresses are abstracted away. Its soundness against the model is proved in the texts behind this one.
-/
import Derived.CallsIn
import Derived.RangeFuncLeaves
import Derived.Laws.Cells
import Derived.Laws.World
set_option linter.unusedSimpArgs false
set_option linter.unusedVariables false
namespace Go.AM
/-- A place: a block's id, the version of the block, an offset in cells. -/
structure ARef where
  id : Nat
  ver : Nat
  off : Nat
  deriving DecidableEq
inductive AVal where
  | bool (b : Bool)
  | int (k : IntKind) (n : Int)
  | str (s : ByteArray)
  | ptr (a : Option ARef)
  | slice (a : Option ARef) (len kcap : Nat)
  | emp
  | vals (l : List AVal)
  | map (r : Option Nat)
  | fn (f : FuncId) (first captured : List AVal)
  | yld (l : Nat)
  | nilFn
  | agg (cs : List AVal)
  | tuple (vs : List AVal)
  | none
abbrev AFrame := Nat → AVal
structure ALoop where
  state : LoopState
  pending : Option Code
  fr : AFrame
  params : List Tmp
  assign : Code
  body : Code
inductive ABody where
  | cells (c : List AVal) (elem : TypeId) (row ro : Bool)
  | map (es : List (AVal × AVal))
  | loop (l : ALoop)
structure ABlk where
  body : ABody
  ver : Nat
abbrev Heap := List ABlk
def undefA : AVal := .tuple []
/-- A constant, or a cell of a zero value: what has no address in it, and is one cell. -/
def cv : Value → Option AVal
  | .bool b => some (.bool b)
  | .int k n => some (.int k n)
  | .string s => some (.str s)
  | .pointer .none => some (.ptr .none)
  | .slice .none 0 0 => some (.slice .none 0 0)
  | .map .none => some (.map .none)
  | .nilFunc => some .nilFn
  | _ => .none
def ev (fr : AFrame) : Operand → AVal
  | .tmp t => fr t
  | .const v => (cv v).getD .none
  | .global _ => .none
  | .func f => .fn f [] []
def put (fr : AFrame) (d : Option Tmp) (v : AVal) : AFrame :=
  match d with
  | some d => fun t => if t = d then v else fr t
  | .none => fr
def AVal.scalar : AVal → Bool
  | .agg _ | .tuple _ | .none => false
  | _ => true
def AVal.isN : AVal → Bool
  | .none => true
  | _ => false
def AVal.cells : AVal → List AVal
  | .agg cs => cs
  | v => [v]
/-! ### Types -/
section types
variable (P : Program)
def allCv : List Value → Option (List AVal)
  | [] => some []
  | v :: vs => match cv v, allCv vs with | some a, some as => some (a :: as) | _, _ => .none
/-- The cells of a type's zero value. -/
def zc (t : TypeId) : Option (List AVal) := match (P.info? t).bind (·.zero) with | some v => allCv v.cells.toList | .none => .none
/-- A type's zero value. -/
def zvA (t : TypeId) : Option AVal := match (P.info? t).bind (·.zero) with | some (.agg cs) => (allCv cs.toList).map .agg | some v => cv v | .none => .none
def isAggD : TypeDesc → Bool | .struct _ | .array _ _ => true | _ => false
/-- Is a type a struct or an array, and its size in cells. -/
def tyA (t : TypeId) : Option (Bool × Nat) :=
  match P.underlying t, P.info? t with | some d, some i => some (isAggD d, i.size) | _, _ => .none
/-- A field's offset, whether it is a struct or an array, and its size. -/
def fld (t : TypeId) (i : Nat) : Option (Nat × Bool × Nat) :=
  match P.underlying t with
  | some (.struct fs) => match fs[i]? with
    | some f => (tyA P f.type).map fun q => (f.offset, q)
    | .none => .none
  | _ => .none
/-- The element type of a slice type, its size, its zero cells. -/
def elS (t : TypeId) : Option (TypeId × Nat × List AVal) :=
  match P.underlying t with
  | some (.slice e) => match P.info? e, zc P e with
    | some i, some z => if i.bytes ≤ 2 ^ 12 ∧ 0 < i.size ∧ z.length = i.size then some (e, i.size, z) else .none
    | _, _ => .none
  | _ => .none
/-- The length of an array type, whether the element is a struct or an array, and its size. -/
def arT (t : TypeId) : Option (Nat × Bool × Nat) :=
  match P.underlying t with
  | some (.array n e) => (tyA P e).map fun q => (n, q)
  | _ => .none
def mpT (t : TypeId) : Option (TypeId × TypeId) := match P.underlying t with | some (.map k e) => some (k, e) | _ => .none
def ikT (t : TypeId) : Option IntKind := match P.underlying t with | some (.int k) => some k | _ => .none
end types
def mkVal (isAgg : Bool) (cs : List AVal) : Option AVal :=
  if isAgg then some (.agg cs) else match cs with | [v] => some v | _ => .none
/-! ### Memory -/
def ARef.add (r : ARef) (n : Nat) : ARef := { r with off := r.off + n }
def cellsAt (h : Heap) (id ver : Nat) : Option (List AVal) :=
  match h[id]? with
  | some ⟨.cells c _ _ _, v⟩ => if v = ver then some c else .none
  | _ => .none
def loadN (h : Heap) (r : ARef) (n : Nat) : Option (List AVal) :=
  match cellsAt h r.id r.ver with
  | some c => if r.off + n ≤ c.length then some ((c.drop r.off).take n) else .none
  | .none => .none
/-- A value without a reference. -/
def AVal.bare : AVal → Bool
  | .bool _ | .int _ _ | .str _ | .ptr .none | .slice .none _ _ | .emp | .map .none | .nilFn => true
  | .fn _ [] [] => true
  | _ => false
def splice (c : List AVal) (off : Nat) : List AVal → List AVal
  | [] => c
  | v :: vs => splice (c.set off v) (off + 1) vs
/-- A store of cells. Below the base (what lay before the activation) only values without references may be stored. -/
def storeN (base : Nat) (h : Heap) (r : ARef) (vs : List AVal) : Option Heap :=
  match h[r.id]? with
  | some ⟨.cells c e row false, v⟩ =>
    if v = r.ver ∧ r.off + vs.length ≤ c.length ∧ vs.all AVal.scalar = true ∧ (base ≤ r.id ∨ vs.all AVal.bare = true) then
      some (h.set r.id ⟨.cells (splice c r.off vs) e row false, v⟩) else .none
  | _ => .none
/-- The cells of the first n elements of a slice. -/
def firstN (h : Heap) (size n : Nat) : AVal → Option (List AVal)
  | .slice (some r) _ _ => loadN h r (n * size)
  | .slice .none _ _ => if n = 0 then some [] else .none
  | .emp => if n = 0 then some [] else .none
  | .vals l => if n * size ≤ l.length then some (l.take (n * size)) else .none
  | _ => .none
def lenA (size : Nat) : AVal → Option Nat
  | .slice _ n _ => some n
  | .emp => some 0
  | .vals l => if size = 1 then some l.length else .none
  | _ => .none
/-! ### Operations without calls -/
section ops
variable (P : Program)
def partQ (q : Bool × Nat) (cs : List AVal) (off : Nat) : Option AVal :=
  if q.1 then (if off + q.2 ≤ cs.length then some (.agg ((cs.drop off).take q.2)) else .none) else cs[off]?
def partA (t : TypeId) (cs : List AVal) (off : Nat) : Option AVal := (tyA P t).bind fun q => partQ q cs off
def nilS : AVal → Option Bool
  | .slice a _ _ => some a.isNone
  | .emp => some false
  | .vals _ => some false
  | _ => .none
def nilP : AVal → Option Bool
  | .ptr a => some a.isNone
  | _ => .none
/-- Equality of two values of a type, to a depth. -/
def eqT : Nat → TypeId → AVal → AVal → Option Bool
  | 0, _, _, _ => .none
  | d + 1, t, x, y =>
    match P.underlying t, x, y with
    | some .bool, .bool a, .bool b => some (a == b)
    | some (.int _), .int k a, .int k' b => if k = k' then some (a == b) else .none
    | some (.struct fs), .agg xs, .agg ys =>
      if P.stoodInHeld t then .none else
      fs.toList.foldr (fun f acc => if f.name = "_" then acc else
        match partA P f.type xs f.offset, partA P f.type ys f.offset with
        | some a, some b => match eqT d f.type a b with | some true => acc | r => r
        | _, _ => .none) (some true)
    | some (.array n e), .agg xs, .agg ys =>
      match tyA P e with
      | .none => .none
      | some q => (List.range n).foldr (fun i acc =>
        match partQ q xs (i * q.2), partQ q ys (i * q.2) with
        | some a, some b => match eqT d e a b with | some true => acc | r => r
        | _, _ => .none) (some true)
    | some (.slice _), x, .slice .none _ _ => nilS x
    | some (.pointer _), x, .ptr .none => nilP x
    | _, _, _ => .none
def intBin (op : BinOp) (k : IntKind) (a b : Int) : Option AVal :=
  match op with
  | .add => some (.int k (k.wrap (a + b)))
  | .sub => some (.int k (k.wrap (a - b)))
  | .mul => some (.int k (k.wrap (a * b)))
  | .quo => if b = 0 then .none else some (.int k (k.wrap (a.tdiv b)))
  | .rem => if b = 0 then .none else some (.int k (a.tmod b))
  | .and => some (.int k (k.wrap ((BitVec.ofInt k.bits a &&& BitVec.ofInt k.bits b).toNat : Int)))
  | .or => some (.int k (k.wrap ((BitVec.ofInt k.bits a ||| BitVec.ofInt k.bits b).toNat : Int)))
  | .xor => some (.int k (k.wrap ((BitVec.ofInt k.bits a ^^^ BitVec.ofInt k.bits b).toNat : Int)))
  | .andNot => some (.int k (k.wrap ((BitVec.ofInt k.bits a &&& ~~~ BitVec.ofInt k.bits b).toNat : Int)))
  | .eql => some (.bool (a == b))
  | .neq => some (.bool (a != b))
  | .lss => some (.bool (decide (a < b)))
  | .leq => some (.bool (decide (a ≤ b)))
  | .gtr => some (.bool (decide (a > b)))
  | .geq => some (.bool (decide (a ≥ b)))
  | _ => .none
def shiftA (op : BinOp) (k : IntKind) (a b : Int) : Option AVal :=
  if b < 0 then .none else
  match op with
  | .shl => some (.int k (k.wrap (a * 2 ^ (min b.toNat k.bits))))
  | .shr => some (.int k (a.fdiv (2 ^ (min b.toNat k.bits))))
  | _ => .none
def isShift : BinOp → Bool | .shl | .shr => true | _ => false
def eqDepth : Nat := 6
def binA (op : BinOp) (t : TypeId) (x y : AVal) : Option AVal :=
  match x, y with
  | .int k a, .int k' b => if isShift op then shiftA op k a b else if k = k' then intBin op k a b else .none
  | .bool a, .bool b => match op with | .eql => (eqT P eqDepth t (.bool a) (.bool b)).map .bool | .neq => (eqT P eqDepth t (.bool a) (.bool b)).map fun r => .bool !r | _ => .none
  | .agg a, .agg b => if P.eqGuardType P.depth t then .none else match op with | .eql => (eqT P eqDepth t (.agg a) (.agg b)).map .bool | .neq => (eqT P eqDepth t (.agg a) (.agg b)).map fun r => .bool !r | _ => .none
  | x, y => match op with
    | .eql => (eqT P eqDepth t x y).map .bool
    | .neq => (eqT P eqDepth t x y).map fun r => .bool !r
    | _ => .none
def unA (op : UnOp) : AVal → Option AVal
  | .int k n => match op with | .neg => some (.int k (k.wrap (0 - n))) | .xor => intBin .xor k (if k.signed then -1 else k.max) n | _ => .none
  | .bool b => match op with | .not => some (.bool !b) | _ => .none
  | _ => .none
def boundA (v : AVal) (hi : Nat) : Option Nat :=
  match v with
  | .int _ i => if 0 ≤ i ∧ i ≤ hi then some i.toNat else .none
  | _ => .none
def optB (v : Option AVal) (hi dflt : Nat) : Option Nat := match v with | some v => boundA v hi | .none => some dflt
/-- 'x[lo:hi]' and 'x[lo:hi:max]' of a slice, of an array behind an address. -/
def sliceA (t : TypeId) (x : AVal) (lo hi mx : Option AVal) : Option AVal :=
  match arT P t with
  | some (n, _, z) =>
    match x, mx with
    | .ptr (some r), .none =>
      match optB hi n n with
      | .none => .none
      | some h => match optB lo h 0 with
        | .none => .none
        | some l => some (.slice (some (r.add (l * z))) (h - l) (n - l))
    | _, _ => .none
  | .none =>
    match elS P t, x with
    | some (_, z, _), .slice a len kcap =>
      match optB mx kcap kcap with
      | .none => .none
      | some m => match optB hi m len with
        | .none => .none
        | some h => match optB lo h 0 with
          | .none => .none
          | some l => some (.slice (a.map (·.add (l * z))) (h - l) (m - l))
    | some _, .emp =>
      match optB mx 0 0, optB hi 0 0, optB lo 0 0 with | some _, some _, some _ => some .emp | _, _, _ => .none
    | _, _ => .none
def indexAddrA (t : TypeId) (x i : AVal) : Option AVal :=
  match i with
  | .int _ i =>
    match arT P t with
    | some (n, _, z) => match x with
      | .ptr (some r) => if 0 ≤ i ∧ i < n then some (.ptr (some (r.add (i.toNat * z)))) else .none
      | _ => .none
    | .none => match elS P t, x with
      | some (_, z, _), .slice (some r) len _ => if 0 ≤ i ∧ i < len then some (.ptr (some (r.add (i.toNat * z)))) else .none
      | _, _ => .none
  | _ => .none
def strT (t : TypeId) : Bool := match P.underlying t with | some .string => true | _ => false
def indexA (t : TypeId) (x i : AVal) : Option AVal :=
  match arT P t, x, i with
  | some (n, q), .agg cs, .int _ i => if 0 ≤ i ∧ i < n then partQ q cs (i.toNat * q.2) else .none
  | .none, .str s, .int _ i => if strT P t = true ∧ 0 ≤ i then (s[i.toNat]?).map fun b => .int .u8 b.toNat else .none
  | _, _, _ => .none
def fieldAddrA (s : TypeId) (x : AVal) (f : Nat) : Option AVal :=
  match fld P s f, x with
  | some (off, _, z), .ptr (some r) => if z = 0 then .none else some (.ptr (some (r.add off)))
  | _, _ => .none
def fieldA (s : TypeId) (x : AVal) (f : Nat) : Option AVal :=
  match fld P s f, x with
  | some (off, q), .agg cs => partQ q cs off
  | _, _ => .none
def fillA (place : Nat → Option (Nat × Nat)) (cells : List AVal) : List (Nat × AVal) → Option (List AVal)
  | [] => some cells
  | (i, v) :: rest =>
    match place i with
    | .none => .none
    | some (off, size) => if v.isN = true ∨ v.cells.length ≠ size ∨ off + size > cells.length then .none else fillA place (splice cells off v.cells) rest
/-- The places of a struct's fields: offset and size. -/
def placesL : List Field → Option (List (Nat × Nat))
  | [] => some []
  | f :: fs => match P.info? f.type, placesL fs with | some i, some r => some ((f.offset, i.size) :: r) | _, _ => .none
def plcS (t : TypeId) : Option (List (Nat × Nat)) := match P.underlying t with | some (.struct fs) => placesL P fs.toList | _ => .none
def buildA (t : TypeId) (parts : List (Nat × AVal)) : Option AVal :=
  match zc P t with
  | some z => match plcS P t with
    | some ps => (fillA (fun i => ps[i]?) z parts).map .agg
    | .none => match arT P t with
      | some (_, _, s) => (fillA (fun i => some (i * s, s)) z parts).map .agg
      | .none => .none
  | .none => .none
def repCells (z : List AVal) : Nat → List AVal
  | 0 => []
  | n + 1 => z ++ repCells z n
def convA (dst : TypeId) (src : TypeId) (x : AVal) : Option AVal :=
  match P.underlying src, ikT P dst, x with
  | some _, some k, .int _ n => some (.int k (k.wrap n))
  | _, _, _ => .none
def extractA (x : AVal) (i : Nat) : Option AVal := match x with | .tuple vs => vs[i]? | _ => .none
def entriesA (h : Heap) : AVal → Option (List (AVal × AVal))
  | .map .none => some []
  | .map (some r) => match h[r]? with | some ⟨.map es, 0⟩ => some es | _ => .none
  | _ => .none
def findA (kt : TypeId) (key : AVal) : List (AVal × AVal) → Option (Option Nat)
  | [] => some .none
  | (k, _) :: es => match eqT P eqDepth kt key k with
    | some true => some (some 0)
    | some false => (findA kt key es).map (·.map (· + 1))
    | .none => .none
/-- A value that can be asked for as a key without more ado. -/
def keyOk : Nat → TypeId → AVal → Bool
  | 0, _, _ => false
  | d + 1, t, x => match P.underlying t, x with
    | some .bool, _ | some (.int _), _ => true
    | some (.struct fs), .agg xs => fs.toList.all fun f => f.name = "_" || (match partA P f.type xs f.offset with | some a => keyOk d f.type a | .none => false)
    | some (.array n e), .agg xs => match tyA P e with
      | .none => false
      | some q => (List.range n).all fun i => (match partQ q xs (i * q.2) with | some a => keyOk d e a | .none => false)
    | _, _ => false
def lookupA (h : Heap) (t : TypeId) (x key : AVal) (ok : Bool) : Option AVal :=
  match mpT P t, entriesA h x with
  | some (kt, et), some es =>
    if keyOk P eqDepth kt key then
      match findA P kt key es with
      | some (some i) => match es[i]? with | some (_, v) => some (if ok then .tuple [v, .bool true] else v) | .none => .none
      | some .none => match zvA P et with
        | some v => some (if ok then .tuple [v, .bool false] else v)
        | .none => .none
      | .none => .none
    else .none
  | _, _ => .none
def loadA (h : Heap) (t : TypeId) (r : ARef) : Option AVal :=
  match tyA P t with
  | some (q, z) => (loadN h r (if q then z else 1)).bind (mkVal q)
  | .none => .none
/-- Operations that leave memory as it is. -/
def pureA (fr : AFrame) (h : Heap) : Op → Option AVal
  | .move x | .assign x => some (ev fr x)
  | .pick c a b => match ev fr c with | .bool t => some (if t then ev fr a else ev fr b) | _ => .none
  | .load t a => match ev fr a with
    | .ptr (some r) => loadA P h t r
    | _ => .none
  | .nilCheck x => match ev fr x with | .ptr (some r) => some (.ptr (some r)) | _ => .none
  | .binOp op t x y _ => binA P op t (ev fr x) (ev fr y)
  | .unOp op _ x => unA op (ev fr x)
  | .convert s d x => convA P d s (ev fr x)
  | .makeFunc (.func f) first captured => some (.fn f (first.toList.map (ev fr)) (captured.toList.map (ev fr)))
  | .slice t x lo hi mx => if (mx.isSome && hi.isNone) = true then .none else sliceA P t (ev fr x) (lo.map (ev fr)) (hi.map (ev fr)) (mx.map (ev fr))
  | .fieldAddr s x f => fieldAddrA P s (ev fr x) f
  | .field s x f => fieldA P s (ev fr x) f
  | .indexAddr t x i => indexAddrA P t (ev fr x) (ev fr i)
  | .index t x i => indexA P t (ev fr x) (ev fr i)
  | .lookup t x i ok => lookupA P h t (ev fr x) (ev fr i) ok
  | .extract x i => extractA (ev fr x) i
  | .build t parts => buildA P t (parts.toList.map fun (i, x) => (i, ev fr x))
  | _ => .none
def isPure : Op → Bool
  | .move _ | .assign _ | .pick .. | .load .. | .nilCheck _ | .binOp .. | .unOp .. | .convert .. | .makeFunc .. | .slice .. | .fieldAddr ..
  | .field .. | .indexAddr .. | .index .. | .lookup .. | .extract .. | .build .. => true
  | _ => false
open Classical in
noncomputable def mapUpdateA (base : Nat) (h : Heap) (t : TypeId) (m key val : AVal) : Option Heap :=
  match mpT P t, m with
  | some (kt, _), .map (some r) => match h[r]? with
    | some ⟨.map es, 0⟩ =>
      if keyOk P eqDepth kt key = true ∧ (base ≤ r ∨ key.bare = true ∧ val.bare = true) then
        match findA P kt key es with
        | some (some i) => if (es[i]?).map (·.1) = some key then some (h.set r ⟨.map (es.set i (key, val)), 0⟩) else .none
        | some .none => some (h.set r ⟨.map (es ++ [(key, val)]), 0⟩)
        | .none => .none
      else .none
    | _ => .none
  | _, _ => .none
def rowOf (t : TypeId) (n : Nat) (parts : List (Nat × AVal)) : Option (TypeId × Nat × List AVal) :=
  match elS P t with
  | some (e, z, zs) => if n * z > 2 ^ 24 then .none else
    match fillA (fun i => some (i * z, z)) (repCells zs n) parts with
    | some cs => some (e, z, cs)
    | .none => .none
  | .none => .none
def makeSliceA (h : Heap) (t : TypeId) (len cap : AVal) : Option (AVal × Heap) :=
  match elS P t, len, cap with
  | some (e, _, zs), .int .i64 l, .int .i64 c =>
    if 0 ≤ l ∧ l ≤ c ∧ c < 2 ^ 32 then
      if c = 0 then some (.emp, h) else some (.slice (some ⟨h.length, 0, 0⟩) l.toNat c.toNat, h ++ [⟨.cells (repCells zs c.toNat) e true false, 0⟩])
    else .none
  | _, _, _ => .none
/-- 'append(s, x...)'. -/
def appendA (base : Nat) (h : Heap) (t : TypeId) (s x : AVal) : Option (AVal × Heap) :=
  match elS P t with
  | .none => .none
  | some (e, z, _) =>
    match lenA z x with
    | .none => .none
    | some n =>
      match firstN h z n x with
      | .none => .none
      | some new =>
        if new.all AVal.scalar = true then
          match s with
          | .slice .none _ _ => if n = 0 then some (.slice .none 0 0, h) else if n < 2 ^ 31 then
              some (.slice (some ⟨h.length, 0, 0⟩) n n, h ++ [⟨.cells new e true false, 0⟩]) else .none
          | .emp => if n = 0 then some (.emp, h) else if n < 2 ^ 31 then
              some (.slice (some ⟨h.length, 0, 0⟩) n n, h ++ [⟨.cells new e true false, 0⟩]) else .none
          | .slice (some r) len kcap =>
            if len + n ≤ kcap then
              match storeN base h (r.add (len * z)) new with
              | some h' => some (.slice (some r) (len + n) kcap, h')
              | .none => .none
            else match h[r.id]? with
              | some ⟨.cells c e' true false, v⟩ =>
                if v = r.ver ∧ r.off = 0 ∧ kcap * z = c.length ∧ e' = e ∧ len + n < 2 ^ 31 ∧ 0 < kcap ∧ (base ≤ r.id ∨ new.all AVal.bare = true) then
                  some (.slice (some ⟨r.id, v + 1, 0⟩) (len + n) (len + n), h.set r.id ⟨.cells (c.take (len * z) ++ new) e' true false, v + 1⟩)
                else .none
              | _ => .none
          | _ => .none
        else .none
def copyA (base : Nat) (h : Heap) (t : TypeId) (d s : AVal) : Option (AVal × Heap) :=
  match elS P t, d with
  | some (_, z, _), .slice a dlen _ =>
    match lenA z s with
    | .none => .none
    | some n => match firstN h z (min n dlen) s with
      | .none => .none
      | some cs => match a with
        | .none => some (.int .i64 0, h)
        | some r => match storeN base h r cs with
          | some h' => some (.int .i64 (min n dlen : Nat), h')
          | .none => .none
  | _, _ => .none
def clearA (base : Nat) (h : Heap) (t : TypeId) (x : AVal) : Option (AVal × Heap) :=
  match elS P t, x with
  | some _, .slice .none _ _ => some (.tuple [], h)
  | some _, .slice (some _) 0 _ => some (.tuple [], h)
  | some _, .emp => some (.tuple [], h)
  | some (_, _, zs), .slice (some r) (n + 1) _ => match storeN base h r (repCells zs (n + 1)) with
    | some h' => some (.tuple [], h')
    | .none => .none
  | _, _ => .none
def lenOpA (h : Heap) (t : TypeId) (x : AVal) : Option AVal :=
  match elS P t with
  | some (_, z, _) => (lenA z x).map fun n => .int .i64 n
  | .none => match arT P t with
    | some (n, _) => some (.int .i64 n)
    | .none => match mpT P t with
      | some _ => (entriesA h x).map fun es => .int .i64 es.length
      | .none => .none
def minmax (big : Bool) : AVal → List AVal → Option AVal
  | x, [] => some x
  | .int k x, .int _ y :: rest => minmax big (.int k (if big then (if y > x then y else x) else (if y < x then y else x))) rest
  | _, _ => .none
/-- The builtins. -/
def builtinA (base : Nat) (h : Heap) (b : Builtin) (ts : List TypeId) (args : List AVal) : Option (AVal × Heap) :=
  match b, ts, args with
  | .len, t :: _, [x] => (lenOpA P h t x).map fun v => (v, h)
  | .append, [t, t'], [s, x] => if (elS P t').isNone then .none else appendA P base h t s x
  | .copy, t :: _, [d, s] => copyA P base h t d s
  | .clear, t :: _, [x] => clearA P base h t x
  | .min, _, x :: xs => (minmax false x xs).map fun v => (v, h)
  | .max, _, x :: xs => (minmax true x xs).map fun v => (v, h)
  | _, _, _ => .none
/-- Operations that make or write memory. 'lit': a literal that is appended at once. -/
noncomputable def memA (base : Nat) (lit : Bool) (fr : AFrame) (h : Heap) : Op → Option (AVal × Heap)
  | .alloc t => (zc P t).map fun z => (.ptr (some ⟨h.length, 0, 0⟩), h ++ [⟨.cells z t false false, 0⟩])
  | .box t x => if (ev fr x).isN = true then .none else some (.ptr (some ⟨h.length, 0, 0⟩), h ++ [⟨.cells (ev fr x).cells t false false, 0⟩])
  | .buildSlice t n parts => match rowOf P t n (parts.toList.map fun (i, x) => (i, ev fr x)) with
    | some (e, z, cs) =>
      if n = 0 then some (.emp, h) else
      if lit = true ∧ z = 1 ∧ cs.all AVal.bare = true then some (.vals cs, h) else
      some (.slice (some ⟨h.length, 0, 0⟩) n n, h ++ [⟨.cells cs e true false, 0⟩])
    | .none => .none
  | .store t a x => match ev fr a with
    | .ptr (some r) => if (tyA P t).map (·.2) = some (ev fr x).cells.length then (storeN base h r (ev fr x).cells).map fun h' => (undefA, h') else .none
    | _ => .none
  | .makeSlice t l c => makeSliceA P h t (ev fr l) (ev fr c)
  | .makeMap t .none => (mpT P t).map fun _ => (.map (some h.length), h ++ [⟨.map [], 0⟩])
  | .mapUpdate t m k x | .insert t m k x => (mapUpdateA P base h t (ev fr m) (ev fr k) (ev fr x)).map fun h' => (undefA, h')
  | _ => .none
end ops
/-! ### References, and what is kept of what a call has made -/
mutual
def AVal.refs : AVal → List (Nat × Nat)
  | .ptr (some r) => [(r.id, r.ver)]
  | .slice (some r) _ k => if k = 0 then [] else [(r.id, r.ver)]
  | .map (some r) => [(r, 0)]
  | .yld l => [(l, 0)]
  | .fn _ a b => refsL a ++ refsL b
  | .agg cs => refsL cs
  | .tuple cs => refsL cs
  | .vals cs => refsL cs
  | _ => []
def refsL : List AVal → List (Nat × Nat)
  | [] => []
  | v :: vs => v.refs ++ refsL vs
end
mutual
def AVal.ren (f : Nat → Nat → Nat × Nat) : AVal → AVal
  | .ptr (some r) => .ptr (some ⟨(f r.id r.ver).1, (f r.id r.ver).2, r.off⟩)
  | .slice (some r) n c => .slice (some ⟨(f r.id r.ver).1, (f r.id r.ver).2, r.off⟩) n c
  | .map (some r) => .map (some (f r 0).1)
  | .yld l => .yld (f l 0).1
  | .fn g a b => .fn g (renL f a) (renL f b)
  | .agg cs => .agg (renL f cs)
  | .tuple cs => .tuple (renL f cs)
  | .vals _ => .none
  | .bool b => .bool b
  | .int k n => .int k n
  | .str s => .str s
  | .ptr .none => .ptr .none
  | .slice .none n c => .slice .none n c
  | .emp => .emp
  | .map .none => .map .none
  | .nilFn => .nilFn
  | .none => .none
def renL (f : Nat → Nat → Nat × Nat) : List AVal → List AVal
  | [] => []
  | v :: vs => v.ren f :: renL f vs
end
def ABody.refs : ABody → List (Nat × Nat)
  | .cells c _ _ _ => refsL c
  | .map es => refsL (es.map (·.1)) ++ refsL (es.map (·.2))
  | .loop _ => []
def ABody.isLoop : ABody → Bool
  | .loop _ => true
  | _ => false
def ABody.ren (f : Nat → Nat → Nat × Nat) : ABody → ABody
  | .cells c e row ro => .cells (renL f c) e row ro
  | .map es => .map (es.map fun (k, v) => (k.ren f, v.ren f))
  | .loop l => .loop l
/-- The blocks, from the base on, that can be reached. -/
def reach (h : Heap) (base : Nat) : Nat → List Nat → List Nat → List Nat
  | 0, _, seen => seen
  | _ + 1, [], seen => seen
  | n + 1, i :: todo, seen =>
    if i < base ∨ seen.contains i = true then reach h base n todo seen
    else reach h base n (((h[i]?).map fun b => b.body.refs.map (·.1)).getD [] ++ todo) (seen ++ [i])
def newId (base : Nat) (ids : List Nat) (id ver : Nat) : Nat × Nat := if id < base then (id, ver) else (base + ids.idxOf id, 0)
/-- A reference that stays good: it lies below the base, or among the blocks that are kept, at their version. -/
def keptRef (h : Heap) (base : Nat) (ids : List Nat) (r : Nat × Nat) : Bool :=
  decide (r.1 < base) || (ids.contains r.1 && ((h[r.1]?).map (·.ver) == some r.2))
def compactBy (ids : List Nat) (base : Nat) (v : AVal) (h : Heap) : Option (AVal × Heap) :=
  if v.refs.all (keptRef h base ids) = true ∧ base ≤ h.length ∧ ids.Nodup ∧ ids.all (fun i => decide (base ≤ i) &&
      match h[i]? with | some b => !b.body.isLoop && b.body.refs.all (keptRef h base ids) | .none => false) = true then
    some (v.ren (newId base ids), h.take base ++ ids.map fun i => match h[i]? with | some b => ⟨b.body.ren (newId base ids), 0⟩ | .none => ⟨.map [], 0⟩)
  else .none
def compact (base : Nat) (v : AVal) (h : Heap) : Option (AVal × Heap) :=
  compactBy (reach h base 64 (v.refs.map (·.1)) []) base v h
/-! ### Code -/
structure St where
  fr : AFrame
  h : Heap
inductive AExit where
  | normal
  | exit (id : Nat)
  | ret
/-- Is an operation wanted? (none: it cannot be said.) -/
def guardA (ops : Array Oper) (fr : AFrame) (g : Option (Nat × Bool)) : Option Bool :=
  match g with
  | .none => some true
  | some (j, want) => match (ops[j]?).bind (·.dst) with
    | some d => match fr d with | .bool b => some (b == want) | .tuple _ => some false | _ => .none
    | .none => .none
/-- Is this slot appended at once? -/
def litIn (ops : List Oper) (d : Option Tmp) : Bool :=
  match d with
  | .none => false
  | some d => ops.any fun o => match o.op with
    | .call c => (match c.callee, c.args.toList with | .builtin .append, [_, .tmp t] => t == d | _, _ => false)
    | _ => false
abbrev Caller := Nat → AVal → List AVal → Heap → Option (AVal × Heap)
/-- What may write memory that there was. -/
def isE : Op → Bool
  | .store .. | .mapUpdate .. | .insert .. => true
  | .call c => (match c.callee with | .builtin .append | .builtin .copy | .builtin .clear => true | _ => false)
  | _ => false
/-- A call that is not one of these. -/
def isD : Op → Bool
  | .call c => (match c.callee with | .builtin .append | .builtin .copy | .builtin .clear => false | _ => true)
  | _ => false
/-- A call of a function. -/
def isV : Op → Bool
  | .call c => (match c.callee with | .value _ => true | _ => false)
  | _ => false
/-- What may write memory that there was; 'wd': calls of functions count, too. -/
def isEw (wd : Bool) (o : Op) : Bool := isE o || (wd && isV o)
def isDw (wd : Bool) (o : Op) : Bool := isD o && !(wd && isV o)
def readsH : Op → Bool
  | .load .. | .lookup .. => true
  | _ => false
/-- An operation with an effect: what it yields, and the heap behind it. -/
noncomputable def effA (P : Program) (call : Caller) (base : Nat) (lit : Bool) (fr : AFrame) (h : Heap) : Op → Option (AVal × Heap)
  | .call c => (match c.callee with
    | .builtin b => builtinA P base h b c.argTypes.toList (c.args.toList.map (ev fr))
    | .value g => call base (ev fr g) (c.args.toList.map (ev fr)) h
    | .invoke _ _ => .none)
  | op => memA P base lit fr h op
open Classical in
noncomputable def stepOp (P : Program) (call : Caller) (base : Nat) (ops : Array Oper) (chk : Bool) (o : Oper) (s : St) : Option St :=
  match guardA ops s.fr o.guard with
  | some true =>
    if isPure o.op = true then
      match pureA P s.fr s.h o.op with
      | some v => some ⟨put s.fr o.dst v, s.h⟩
      | .none => .none
    else
      match effA P call base (litIn ops.toList o.dst) s.fr s.h o.op with
      | some (v, h') => if chk = true ∧ isD o.op = true ∧ ¬ (∃ t, h' = s.h ++ t) then .none else some ⟨put s.fr o.dst v, h'⟩
      | .none => .none
  | some false => some ⟨put s.fr o.dst undefA, s.h⟩
  | .none => .none
noncomputable def evOps (P : Program) (call : Caller) (base : Nat) (ops : Array Oper) (chk : Bool) : List Oper → St → Option St
  | [], s => some s
  | o :: rest, s => match stepOp P call base ops chk o s with
    | some s' => evOps P call base ops chk rest s'
    | .none => .none
/-- The states that a region passes through. -/
noncomputable def trOps (P : Program) (call : Caller) (base : Nat) (ops : Array Oper) (chk : Bool) : List Oper → St → List St
  | [], s => [s]
  | o :: rest, s => s :: (match stepOp P call base ops chk o s with
    | some s' => trOps P call base ops chk rest s'
    | .none => [])
/-- What a region's operation waits for. -/
def befores (ops : Array Oper) (j i : Nat) : Bool := ((Region.before ops).getD j 0).testBit i
/-- Loads that no order ties to an operation that writes. -/
def looseL (wd : Bool) (ops : Array Oper) : List Nat :=
  (List.range ops.size).filter fun l => readsH (ops.getD l default).op && (List.range ops.size).any fun m => isEw wd (ops.getD m default).op && !(befores ops l m) && !(befores ops m l)
/-- Such a load reads what no operation of the region writes. -/
def LooseOk (P : Program) (call : Caller) (base : Nat) (wd : Bool) (ops : Array Oper) (s : St) : Prop :=
  ∀ l ∈ looseL wd ops, ∃ o x v, ops[l]? = some o ∧ (trOps P call base ops (!wd) ops.toList s)[l]? = some x ∧ (∀ j y, (trOps P call base ops (!wd) ops.toList s)[j]? = some y → (∀ m, m < ops.size → isEw wd (ops.getD m default).op = true → befores ops m l = true → j ≤ m) → pureA P x.fr y.h o.op = some v) ∧
    v.refs.all (fun r => decide (r.1 < s.h.length)) = true
/-! ### What is asked of code before it is run -/
def tmpLt (nt : Nat) : Option Tmp → Bool
  | some d => decide (d < nt)
  | .none => true
def tmpsOf (xs : List Operand) : List Tmp := xs.filterMap fun | .tmp t => some t | _ => .none
/-- The temporaries that an operation reads. -/
def usesOf (ops : Array Oper) (o : Oper) : List Tmp :=
  tmpsOf o.op.operands.toList ++ (match o.guard with | some (j, _) => ((ops[j]?).bind (·.dst)).toList | .none => [])
/-- Built in, and reads no memory: a slice's length, the least, the greatest. -/
def quietB (P : Program) : Op → Bool
  | .call c => (match c.callee, c.argTypes.toList with
    | .builtin .len, t :: _ => (elS P t).isSome
    | .builtin .min, _ => true
    | .builtin .max, _ => true
    | _, _ => false)
  | _ => false
/-- Two operations, in the text's order, that stand in that order or do not meet. 'q': operations that read no memory. -/
def pairOk (q : Op → Bool) (wd : Bool) (ops : Array Oper) (i j : Nat) : Bool :=
  let o := ops.getD i default
  let p := ops.getD j default
  befores ops j i ||
    ((match o.dst with | some t => p.dst != some t && !(usesOf ops p).contains t | .none => true) &&
     (match p.dst with | some t => !(usesOf ops o).contains t | .none => true) &&
     (!isEw wd o.op || (!isEw wd p.op && (!isDw wd p.op || q p.op))) &&
     (!isEw wd p.op || isPure o.op || q o.op))
def drawOk (q : Op → Bool) (wd : Bool) (ops : Array Oper) : Bool :=
  (List.range ops.size).all fun j =>
    ((List.range j).all fun i => pairOk q wd ops i j) &&
    ((ops.getD j default).after.all fun e => !Region.binds .any e || decide (e.on < j)) &&
    (!(looseL wd ops).contains j || (ops.getD j default).guard.isNone)
/-- A region may draw its order: calls write nothing that there was, or they are in order with all that reads it. -/
def DrawSafe (P : Program) (call : Caller) (base : Nat) (ops : Array Oper) (s : St) : Prop :=
  (LooseOk P call base false ops s ∧ ∃ s', evOps P call base ops true ops.toList s = some s') ∨ (drawOk (quietB P) true ops = true ∧ LooseOk P call base true ops s)
/-- 'rng': ranges over functions may stand here. -/
def okS (rng : Bool) (nt : Nat) : Code → Bool
  | .region _ ops draw => (ops.all fun o => tmpLt nt o.dst) && (!draw || drawOk (fun _ => false) false ops)
  | .seq a b => okS rng nt a && okS rng nt b
  | .cond _ a b => okS rng nt a && okS rng nt b
  | .block _ b => okS rng nt b
  | .loop b => okS rng nt b
  | .scope b => okS rng nt b
  | .rangeFunc _ ps assign body => rng && (ps.all fun t => decide (t < nt)) && okS false nt assign && okS false nt body
  | _ => true
def argFr (args : List AVal) : AFrame := fun t => (args[t]?).getD undefA
def resultA (P : Program) (fr : AFrame) (h : Heap) : ResultVar → Option AVal
  | .tmp t => some (fr t)
  | .cell a t => match fr a with
    | .ptr (some r) => loadA P h t r
    | _ => .none
def resultsL (P : Program) (fr : AFrame) (h : Heap) : List ResultVar → Option (List AVal)
  | [] => some []
  | r :: rs => match resultA P fr h r, resultsL P fr h rs with | some v, some vs => some (v :: vs) | _, _ => .none
def resultsA (P : Program) (fn : Func) (fr : AFrame) (h : Heap) : Option AVal :=
  match resultsL P fr h fn.results.toList with
  | some [v] => some v
  | some vs => some (.tuple vs)
  | .none => .none
def putAll (fr : AFrame) : List Tmp → List AVal → AFrame
  | t :: ts, v :: vs => putAll (put fr (some t) v) ts vs
  | _, _ => fr
def jumpOf : AExit → Option Code
  | .normal => .none
  | .exit id => some (.exit id)
  | .ret => some .ret
/-- What a call does, where 'ev' evaluates code. 'raw': functions whose garbage is kept, and which share their caller's base. -/
noncomputable def callWith (P : Program) (raw : FuncId → Bool) (ev : Nat → Code → St → Option (AExit × St)) : Caller := fun base v args h =>
  match v with
  | .fn f first captured =>
    match P.funcs[f]? with
    | some fn => match fn.body with
      | some b =>
        match ev (if raw f = true then base else h.length) b ⟨argFr (first ++ args ++ captured), h⟩ with
        | some (.exit _, _) => .none
        | some (_, s') => match resultsA P fn s'.fr s'.h with
          | some v => if raw f = true then some (v, s'.h) else compact h.length v s'.h
          | .none => .none
        | .none => .none
      | .none => .none
    | .none => .none
  | .yld l =>
    match h[l]? with
    | some ⟨.loop L, 0⟩ =>
      if L.state = .ready ∧ args.length = L.params.length then
        match ev base L.assign ⟨putAll L.fr L.params args, h⟩ with
        | some (.normal, s1) =>
          match s1.h[l]? with
          | some ⟨.loop L1, 0⟩ => if L1.state = .ready then
            match ev base L.body ⟨s1.fr, s1.h.set l ⟨.loop { L1 with state := .busy }, 0⟩⟩ with
            | some (e, s2) => match s2.h[l]? with
              | some ⟨.loop L2, 0⟩ =>
                some (.bool (jumpOf e).isNone, s2.h.set l ⟨.loop { L2 with state := if (jumpOf e).isNone then .ready else .done, pending := jumpOf e }, 0⟩)
              | _ => .none
            | .none => .none
            else .none
          | _ => .none
        | _ => .none
      else .none
    | _ => .none
  | _ => .none
def AVal.isFn : AVal → Bool
  | .fn _ _ _ => true
  | _ => false
open Classical in
/-- What evaluates code, by fuel. -/
noncomputable def evC (P : Program) (raw : FuncId → Bool) : Nat → Nat → Code → St → Option (AExit × St)
  | 0, _, _, _ => .none
  | n + 1, base, c, s =>
    match c with
    | .skip => some (.normal, s)
    | .label _ => some (.normal, s)
    | .region _ ops draw => if draw = true ∧ ¬ DrawSafe P (callWith P raw (evC P raw n)) base ops s then .none else
      match evOps P (callWith P raw (evC P raw n)) base ops false ops.toList s with
      | some s' => some (.normal, s')
      | .none => .none
    | .seq a b => match evC P raw n base a s with
      | some (.normal, s') => evC P raw n base b s'
      | r => r
    | .cond g a b => match ev s.fr g with
      | .bool t => evC P raw n base (if t then a else b) s
      | _ => .none
    | .block id b => match evC P raw n base b s with
      | some (.exit id', s') => if id' = id then some (.normal, s') else some (.exit id', s')
      | r => r
    | .loop b => match evC P raw n base b s with
      | some (.normal, s') => evC P raw n base (.loop b) s'
      | r => r
    | .exit id => some (.exit id, s)
    | .scope b => evC P raw n base b s
    | .ret => some (.ret, s)
    | .rangeFunc g params assign body =>
      if (ev s.fr g).isFn = true then
        match callWith P raw (evC P raw n) base (ev s.fr g) [.yld s.h.length] (s.h ++ [⟨.loop { state := .ready, pending := .none, fr := s.fr, params := params.toList, assign, body }, 0⟩]) with
        | some (_, h2) => match h2[s.h.length]? with
          | some ⟨.loop L, 0⟩ =>
            if L.state = .busy then .none else
            match L.pending with
            | .none => some (.normal, ⟨s.fr, h2.set s.h.length ⟨.loop { L with state := .exhausted }, 0⟩⟩)
            | some (.exit id) => some (.exit id, ⟨s.fr, h2.set s.h.length ⟨.loop { L with state := .exhausted }, 0⟩⟩)
            | some .ret => some (.ret, ⟨s.fr, h2.set s.h.length ⟨.loop { L with state := .exhausted }, 0⟩⟩)
            | _ => .none
          | _ => .none
        | .none => .none
      else .none
    | .goto _ => .none
    | .refuse _ => .none
end Go.AM
/-
  How the abstract machine's values and heaps stand to the model's: the relations, and that each operation without a write does in the model what it does here.
-/
namespace Go.AM
/-- Where a block's cells lie: the model's block, the first cell, how many cells are its own, the size of an element of a row (0: no row). -/
structure Loc where
  blk : Nat
  base : Nat
  size : Nat
  esz : Nat
structure Mu where
  loc : Nat → Nat → Option Loc
  anon : Nat → Option (List AVal)
inductive VR (μ : Mu) : AVal → Value → Prop
  | none (v : Value) : VR μ .none v
  | bool (b : Bool) : VR μ (.bool b) (.bool b)
  | int (k : IntKind) (n : Int) : VR μ (.int k n) (.int k n)
  | str (s : ByteArray) : VR μ (.str s) (.string s)
  | ptrN : VR μ (.ptr .none) (.pointer .none)
  | ptr (r : ARef) (L : Loc) (h : μ.loc r.id r.ver = some L) : VR μ (.ptr (some r)) (.pointer (some ⟨L.blk, L.base + r.off, .none⟩))
  | sliceN : VR μ (.slice .none 0 0) (.slice .none 0 0)
  | slice0 (r : ARef) (a : Addr) (C : Nat) : VR μ (.slice (some r) 0 0) (.slice (some a) 0 C)
  | slice (r : ARef) (L : Loc) (n kcap C : Nat) (h : μ.loc r.id r.ver = some L) (hk : 0 < kcap) (hn : n ≤ kcap) (hc : kcap ≤ C) (hl : r.off = 0 → C = kcap ∨ C * L.esz ≤ L.size) :
      VR μ (.slice (some r) n kcap) (.slice (some ⟨L.blk, L.base + r.off, .none⟩) n C)
  | emp (a : Addr) : VR μ .emp (.slice (some a) 0 0)
  | vals (b : Nat) (l : List AVal) (h : μ.anon b = some l) : VR μ (.vals l) (.slice (some ⟨b, 0, .none⟩) l.length l.length)
  | mapN : VR μ (.map .none) (.map .none)
  | map (r : Nat) (L : Loc) (h : μ.loc r 0 = some L) : VR μ (.map (some r)) (.map (some L.blk))
  | fn (f : FuncId) (a b : List AVal) (A B : Array Value) (ha : a.length = A.size) (hb : b.length = B.size)
      (h1 : ∀ (i : Nat) (x : AVal) (y : Value), a[i]? = some x → A[i]? = some y → VR μ x y) (h2 : ∀ (i : Nat) (x : AVal) (y : Value), b[i]? = some x → B[i]? = some y → VR μ x y) :
      VR μ (.fn f a b) (.func (.func f) A B)
  | yld (l : Nat) (L : Loc) (h : μ.loc l 0 = some L) : VR μ (.yld l) (.func (.yield L.blk) #[] #[])
  | nilFn : VR μ .nilFn .nilFunc
  | agg (a : List AVal) (A : Array Value) (ha : a.length = A.size) (h : ∀ (i : Nat) (x : AVal) (y : Value), a[i]? = some x → A[i]? = some y → VR μ x y) : VR μ (.agg a) (.agg A)
  | tuple (a : List AVal) (A : Array Value) (ha : a.length = A.size) (h : ∀ (i : Nat) (x : AVal) (y : Value), a[i]? = some x → A[i]? = some y → VR μ x y) : VR μ (.tuple a) (.tuple A)
/-- Lists of values, element by element. -/
def VRs (μ : Mu) (l : List AVal) (L : List Value) : Prop := l.length = L.length ∧ ∀ (i : Nat) (x : AVal) (y : Value), l[i]? = some x → L[i]? = some y → VR μ x y
structure Mu.le (μ μ' : Mu) : Prop where
  loc : ∀ id v L, μ.loc id v = some L → μ'.loc id v = some L
  anon : ∀ b l, μ.anon b = some l → μ'.anon b = some l
theorem Mu.le.rfl {μ : Mu} : μ.le μ := ⟨fun _ _ _ h => h, fun _ _ h => h⟩
theorem Mu.le.trans {a b c : Mu} (h : a.le b) (k : b.le c) : a.le c := ⟨fun i v L x => k.loc i v L (h.loc i v L x), fun b l x => k.anon b l (h.anon b l x)⟩
theorem VR.mono {μ μ' : Mu} (hm : μ.le μ') {v : AVal} {V : Value} (h : VR μ v V) : VR μ' v V := by
  induction h with
  | none v => exact .none v
  | bool b => exact .bool b
  | int k n => exact .int k n
  | str s => exact .str s
  | ptrN => exact .ptrN
  | ptr r L h => exact .ptr r L (hm.loc _ _ _ h)
  | sliceN => exact .sliceN
  | slice0 r a C => exact .slice0 r a C
  | slice r L n k C h hk hn hc hl => exact .slice r L n k C (hm.loc _ _ _ h) hk hn hc hl
  | emp a => exact .emp a
  | vals b l h => exact .vals b l (hm.anon _ _ h)
  | mapN => exact .mapN
  | map r L h => exact .map r L (hm.loc _ _ _ h)
  | fn f a b A B ha hb h1 h2 ih1 ih2 => exact .fn f a b A B ha hb (fun i x y hx hy => ih1 i x y hx hy) (fun i x y hx hy => ih2 i x y hx hy)
  | yld l L h => exact .yld l L (hm.loc _ _ _ h)
  | nilFn => exact .nilFn
  | agg a A ha h ih => exact .agg a A ha ih
  | tuple a A ha h ih => exact .tuple a A ha ih
theorem VRs.mono {μ μ' : Mu} (hm : μ.le μ') {l : List AVal} {L : List Value} (h : VRs μ l L) : VRs μ' l L := ⟨h.1, fun i x y hx hy => (h.2 i x y hx hy).mono hm⟩
theorem VRs.nil {μ : Mu} : VRs μ [] [] := ⟨rfl, fun i x y h => by simp at h⟩
theorem VRs.cons {μ : Mu} {v : AVal} {V : Value} {l : List AVal} {L : List Value} (h : VR μ v V) (hs : VRs μ l L) : VRs μ (v :: l) (V :: L) := by
  refine ⟨by simp [hs.1], fun i x y hx hy => ?_⟩
  cases i with
  | zero => simp at hx hy; exact hx ▸ hy ▸ h
  | succ i => simp at hx hy; exact hs.2 i x y hx hy
theorem VRs.head {μ : Mu} {v : AVal} {V : Value} {l : List AVal} {L : List Value} (h : VRs μ (v :: l) (V :: L)) : VR μ v V := h.2 0 v V rfl rfl
theorem VRs.tail {μ : Mu} {v : AVal} {V : Value} {l : List AVal} {L : List Value} (h : VRs μ (v :: l) (V :: L)) : VRs μ l L :=
  ⟨by have := h.1; simpa using this, fun i x y hx hy => h.2 (i + 1) x y (by simpa using hx) (by simpa using hy)⟩
theorem VRs.append {μ : Mu} {l m : List AVal} {L M : List Value} (h : VRs μ l L) (k : VRs μ m M) : VRs μ (l ++ m) (L ++ M) := by
  refine ⟨by simp [h.1, k.1], fun i x y hx hy => ?_⟩
  by_cases hi : i < l.length
  · rw [List.getElem?_append_left hi] at hx
    rw [List.getElem?_append_left (h.1 ▸ hi)] at hy
    exact h.2 i x y hx hy
  · rw [List.getElem?_append_right (by omega)] at hx
    rw [List.getElem?_append_right (by have := h.1; omega), ← h.1] at hy
    exact k.2 _ x y hx hy
theorem VRs.take {μ : Mu} {l : List AVal} {L : List Value} (n : Nat) (h : VRs μ l L) : VRs μ (l.take n) (L.take n) := by
  refine ⟨by simp [h.1], fun i x y hx hy => ?_⟩
  simp only [List.getElem?_take] at hx hy
  split at hx
  · rename_i hi; rw [if_pos hi] at hy; exact h.2 i x y hx hy
  · cases hx
theorem VRs.drop {μ : Mu} {l : List AVal} {L : List Value} (n : Nat) (h : VRs μ l L) : VRs μ (l.drop n) (L.drop n) := by
  refine ⟨by simp [h.1], fun i x y hx hy => ?_⟩
  simp only [List.getElem?_drop] at hx hy
  exact h.2 _ x y hx hy
theorem VRs.set {μ : Mu} {l : List AVal} {L : List Value} {v : AVal} {V : Value} (i : Nat) (h : VRs μ l L) (hv : VR μ v V) : VRs μ (l.set i v) (L.set i V) := by
  refine ⟨by simp [h.1], fun j x y hx hy => ?_⟩
  simp only [List.getElem?_set] at hx hy
  by_cases hij : i = j
  · subst hij
    rw [if_pos rfl] at hx hy
    split at hx <;> split at hy <;> simp_all
  · rw [if_neg hij] at hx hy
    exact h.2 j x y hx hy
theorem VRs.agg {μ : Mu} {l : List AVal} {A : Array Value} (h : VRs μ l A.toList) : VR μ (.agg l) (.agg A) := .agg l A (by simpa using h.1) (fun i x y hx hy => h.2 i x y hx (by simpa using hy))
theorem VRs.tuple {μ : Mu} {l : List AVal} {A : Array Value} (h : VRs μ l A.toList) : VR μ (.tuple l) (.tuple A) := .tuple l A (by simpa using h.1) (fun i x y hx hy => h.2 i x y hx (by simpa using hy))
theorem VR.agg_inv {μ : Mu} {l : List AVal} {V : Value} (h : VR μ (.agg l) V) : ∃ A, V = .agg A ∧ VRs μ l A.toList := by
  cases h with
  | agg a A ha h => exact ⟨A, rfl, by simpa using ha, fun i x y hx hy => h i x y hx (by simpa using hy)⟩
theorem VR.tuple_inv {μ : Mu} {l : List AVal} {V : Value} (h : VR μ (.tuple l) V) : ∃ A, V = .tuple A ∧ VRs μ l A.toList := by
  cases h with
  | tuple a A ha h => exact ⟨A, rfl, by simpa using ha, fun i x y hx hy => h i x y hx (by simpa using hy)⟩
theorem VRs.get {μ : Mu} {l : List AVal} {L : List Value} (h : VRs μ l L) {i : Nat} {x : AVal} (hx : l[i]? = some x) : ∃ y, L[i]? = some y ∧ VR μ x y := by
  have hi : i < l.length := by
    rcases Nat.lt_or_ge i l.length with h' | h'
    · exact h'
    · simp [List.getElem?_eq_none h'] at hx
  exact ⟨L[i]'(h.1 ▸ hi), List.getElem?_eq_getElem _, h.2 i x _ hx (List.getElem?_eq_getElem _)⟩
/-! ### Heaps -/
def ABody.wr : ABody → Bool
  | .cells _ _ _ ro => !ro
  | _ => true
def MapR (μ : Mu) (es : List (AVal × AVal)) (E : Array MapEntry) : Prop :=
  es.length = E.size ∧ ∀ (i : Nat) (k v : AVal) (e : MapEntry), es[i]? = some (k, v) → E[i]? = some e → VR μ k e.key ∧ VR μ v e.val ∧ e.born = i
def LoopR (μ : Mu) (L : ALoop) (l : Loop) : Prop :=
  l.state = L.state ∧ l.pending = L.pending ∧ l.params.toList = L.params ∧ l.assign = L.assign ∧ l.body = L.body ∧ (∀ t, VR μ (L.fr t) (l.tmps.getD t undef)) ∧ (L.params.all fun t => decide (t < l.tmps.size)) = true ∧ okS false l.tmps.size L.assign = true ∧ okS false l.tmps.size L.body = true
/-- A body in the model's memory. -/
def BR (P : Program) (μ : Mu) (b : ABody) (L : Loc) (w : World) : Prop :=
  match b with
  | .cells c e row ro => ∃ (C : Array Value) (T : TypeId) (fz : Nat × Nat), w.heap[L.blk]? = some (.cells C T fz) ∧ c.length ≤ L.size ∧ L.base + L.size ≤ C.size ∧
      (∀ (i : Nat) (x : AVal) (y : Value), c[i]? = some x → C[L.base + i]? = some y → VR μ x y) ∧ (L.esz = if row then ((P.info? e).map (·.size)).getD 0 else 0) ∧
      (ro = false → ∀ i, L.base ≤ i → i < L.base + L.size → ¬ (fz.1 ≤ i ∧ i < fz.2))
  | .map es => ∃ (E : Array MapEntry) (clock : Nat), w.heap[L.blk]? = some (.map E clock) ∧ MapR μ es E ∧ clock = E.size
  | .loop l => ∃ l', w.heap[L.blk]? = some (.loop l') ∧ LoopR μ l l'
structure HRel (P : Program) (μ : Mu) (h : Heap) (w : World) : Prop where
  dom : ∀ id v L, μ.loc id v = some L → ∃ b, h[id]? = some b ∧ v ≤ b.ver ∧ L.blk < w.heap.size
  blk : ∀ id b L, h[id]? = some b → μ.loc id b.ver = some L → BR P μ b.body L w
  disj : ∀ i j b c L M, i ≠ j → h[i]? = some b → h[j]? = some c → μ.loc i b.ver = some L → μ.loc j c.ver = some M → b.body.wr = true → L.blk ≠ M.blk
  cur : ∀ id v L b, μ.loc id v = some L → h[id]? = some b → ∃ M, μ.loc id b.ver = some M
  anon : ∀ b l, μ.anon b = some l → (∃ C e fz, w.heap[b]? = some (.cells C e fz) ∧ VRs μ l C.toList) ∧
    ∀ id k L, h[id]? = some k → μ.loc id k.ver = some L → k.body.wr = true → L.blk ≠ b
  adom : ∀ b l, μ.anon b = some l → refsL l = []
/-- A model's block that a writable block stands for. -/
def WImg (μ : Mu) (h : Heap) (b : Nat) : Prop := ∃ (id : Nat) (k : ABlk) (L : Loc), h[id]? = some k ∧ μ.loc id k.ver = some L ∧ k.body.wr = true ∧ L.blk = b
structure Evo (μ : Mu) (h : Heap) (w : World) (μ' : Mu) (h' : Heap) (w' : World) : Prop where
  size : w.heap.size ≤ w'.heap.size
  os : w'.os = w.os
  tape : w'.tape = w.tape
  output : w'.output = w.output
  keep : ∀ b, b < w.heap.size → ¬ WImg μ h b → w'.heap[b]? = w.heap[b]? ∧ ¬ WImg μ' h' b
  anew : ∀ b l, μ'.anon b = some l → μ.anon b = some l ∨ w.heap.size ≤ b
theorem Evo.rfl {μ : Mu} {h : Heap} {w : World} : Evo μ h w μ h w := ⟨Nat.le_refl _, _root_.rfl, _root_.rfl, _root_.rfl, fun _ _ hb => ⟨_root_.rfl, hb⟩, fun _ _ h => .inl h⟩
theorem Evo.trans {μ μ' μ'' : Mu} {h h' h'' : Heap} {w w' w'' : World} (a : Evo μ h w μ' h' w') (b : Evo μ' h' w' μ'' h'' w'') : Evo μ h w μ'' h'' w'' :=
  ⟨Nat.le_trans a.size b.size, b.os.trans a.os, b.tape.trans a.tape, b.output.trans a.output, fun k hk hb =>
    let ⟨e, n⟩ := a.keep k hk hb
    let ⟨e', n'⟩ := b.keep k (Nat.lt_of_lt_of_le hk a.size) n
    ⟨e'.trans e, n'⟩, fun k l hl => (b.anew k l hl).elim (a.anew k l) fun hk => .inr (Nat.le_trans a.size hk)⟩
/-- What is new in a map of places: ids from the heap's end on, or versions that were not yet (below the base: of what had a place). -/
def Fresh (base : Nat) (μ : Mu) (h : Heap) (μ' : Mu) : Prop :=
  ∀ id v L, μ'.loc id v = some L → μ.loc id v = some L ∨ h.length ≤ id ∨ ∃ b, h[id]? = some b ∧ b.ver < v ∧ (base ≤ id ∨ ∃ M, μ.loc id b.ver = some M)
/-! ### Operands -/
structure ARel (μ : Mu) (fr : AFrame) (a : Act) : Prop where
  tmps : ∀ t, VR μ (fr t) (a.tmps.getD t undef)
theorem cv_VR {μ : Mu} {v : Value} {x : AVal} (h : cv v = some x) : VR μ x v := by
  unfold cv at h
  split at h <;> first | (cases h; done) | (cases h; constructor)
theorem ev_VR {μ : Mu} {fr : AFrame} {a : Act} (h : ∀ t, VR μ (fr t) (a.tmps.getD t undef)) (x : Operand) : VR μ (ev fr x) (a.eval x) := by
  cases x with
  | tmp t => exact h t
  | const v =>
    simp only [ev, Act.eval]
    cases hc : cv v with
    | none => exact .none v
    | some x => exact cv_VR hc
  | global g => exact .none _
  | func f => exact .fn f [] [] #[] #[] rfl rfl (fun i x y h => by simp at h) (fun i x y h => by simp at h)
theorem map_VRs {μ : Mu} {fr : AFrame} {a : Act} (h : ∀ t, VR μ (fr t) (a.tmps.getD t undef)) (xs : List Operand) : VRs μ (xs.map (ev fr)) (xs.map a.eval) := by
  induction xs with
  | nil => exact .nil
  | cons x xs ih => exact ih.cons (ev_VR h x)
theorem getD_setIfInBounds (A : Array Value) (d t : Nat) (V : Value) (hd : d < A.size) : (A.setIfInBounds d V).getD t undef = if t = d then V else A.getD t undef := by
  simp only [Array.getD_eq_getD_getElem?, Array.getElem?_setIfInBounds]
  by_cases h : d = t
  · subst h; simp [hd]
  · simp [h, Ne.symm h]
theorem put_VR {μ : Mu} {fr : AFrame} {a : Act} {d : Option Tmp} {v : AVal} {V : Value} (h : ∀ t, VR μ (fr t) (a.tmps.getD t undef)) (hv : VR μ v V)
    (hd : ∀ d', d = some d' → d' < a.tmps.size) : ∀ t, VR μ (put fr d v t) ((a.put d V).tmps.getD t undef) := by
  intro t
  cases d with
  | none => exact h t
  | some d =>
    simp only [put, Act.put, getD_setIfInBounds _ _ _ _ (hd d rfl)]
    split
    · exact hv
    · exact h t
theorem VR_undef {μ : Mu} : VR μ undefA undef := .tuple [] #[] rfl (fun i x y h => by simp at h)
theorem VR.cells {μ : Mu} {v : AVal} {V : Value} (h : VR μ v V) (hv : v ≠ .none) : VRs μ v.cells V.cells.toList := by
  have one : ∀ {x : AVal} {X : Value}, VR μ x X → VRs μ [x] [X] := fun h => VRs.nil.cons h
  cases h with
  | agg a A ha h => exact ⟨by simpa [AVal.cells, Value.cells] using ha, fun i x y hx hy => h i x y hx (by simpa [Value.cells] using hy)⟩
  | none v => exact absurd rfl hv
  | _ => exact one (by first | assumption | (constructor <;> assumption))
end Go.AM
/-
  Operations that leave memory as it is: what the abstract machine makes of them stands to what the model makes of them.
-/
namespace Go.AM
section
variable {P : Program} {μ : Mu} {h : Heap} {w : World}
theorem run_underlying' {t : TypeId} {d : TypeDesc} (hd : P.underlying t = some d) : (underlying t).run P w = .ok d w := by simp [underlying, hd]
theorem run_typeInfo' {t : TypeId} {i : TypeInfo} (hi : P.info? t = some i) : (typeInfo t).run P w = .ok i w := by simp [typeInfo, hi]
theorem run_sizeOf' {t : TypeId} {i : TypeInfo} (hi : P.info? t = some i) : (sizeOf t).run P w = .ok i.size w := by simp [sizeOf, run_typeInfo' hi]
theorem run_isAgg' {t : TypeId} {d : TypeDesc} (hd : P.underlying t = some d) : (isAgg t).run P w = .ok (isAggD d) w := by
  simp only [isAgg, Sem.run_bind, run_underlying' hd, Result.andThen_ok]
  cases d <;> rfl
theorem tyA_inv {t : TypeId} {q : Bool × Nat} (ht : tyA P t = some q) : ∃ d i, P.underlying t = some d ∧ P.info? t = some i ∧ q = (isAggD d, i.size) := by
  unfold tyA at ht
  split at ht
  · rename_i d i hd hi; simp at ht; exact ⟨d, i, hd, hi, ht.symm⟩
  · cases ht
theorem addr_add (b o n : Nat) : (⟨b, o, .none⟩ : Addr).add n = ⟨b, o + n, .none⟩ := by
  unfold Addr.add; split
  · rename_i h; subst h; rfl
  · rfl
/-- A block's cells in the model. -/
theorem cellsAt_inv (H : HRel P μ h w) {id ver : Nat} {c : List AVal} {L : Loc} (hc : cellsAt h id ver = some c) (hL : μ.loc id ver = some L) :
    ∃ C T fz e row ro, h[id]? = some ⟨.cells c e row ro, ver⟩ ∧ w.heap[L.blk]? = some (.cells C T fz) ∧ c.length ≤ L.size ∧ L.base + L.size ≤ C.size ∧
      (∀ (i : Nat) (x : AVal) (y : Value), c[i]? = some x → C[L.base + i]? = some y → VR μ x y) := by
  unfold cellsAt at hc
  split at hc
  · rename_i c' e row ro v hb
    split at hc
    · rename_i hv; subst hv; simp at hc; subst hc
      obtain ⟨C, T, fz, h1, h2, h3, h4, _⟩ := H.blk id _ L hb hL
      exact ⟨C, T, fz, e, row, ro, hb, h1, h2, h3, h4⟩
    · cases hc
  · cases hc
theorem loadN_inv (H : HRel P μ h w) {r : ARef} {n : Nat} {cs : List AVal} {L : Loc} (hl : loadN h r n = some cs) (hL : μ.loc r.id r.ver = some L) :
    cs.length = n ∧ ∃ V : List Value, VRs μ cs V ∧ V.length = n ∧ ∀ j v, V[j]? = some v → w.cell? ((⟨L.blk, L.base + r.off, .none⟩ : Addr).add j) = some v := by
  unfold loadN at hl
  split at hl
  · rename_i c hc
    split at hl
    · rename_i hlen
      simp at hl
      obtain ⟨C, T, fz, e, row, ro, hb, h1, h2, h3, h4⟩ := cellsAt_inv H hc hL
      have hcs : cs.length = n := by rw [← hl]; simp; omega
      refine ⟨hcs, (C.toList.drop (L.base + r.off)).take n, ⟨by simp; omega, ?_⟩, by simp; omega, ?_⟩
      · intro i x y hx hy
        rw [← hl] at hx
        simp only [List.getElem?_take, List.getElem?_drop] at hx hy
        split at hx
        · rename_i hi
          rw [if_pos hi] at hy
          refine h4 _ x y hx ?_
          rw [← Nat.add_assoc]; simpa using hy
        · cases hx
      · intro j v hv
        simp only [List.getElem?_take, List.getElem?_drop] at hv
        split at hv
        · rw [addr_add]
          simp only [World.cell?, h1]
          simpa using hv
        · cases hv
    · cases hl
  · cases hl
theorem loadA_sound (H : HRel P μ h w) {r : ARef} {t : TypeId} {v : AVal} {L : Loc} (hl : loadA P h t r = some v) (hL : μ.loc r.id r.ver = some L) :
    ∃ V, (loadVar t ⟨L.blk, L.base + r.off, .none⟩).run P w = .ok V w ∧ VR μ v V := by
  unfold loadA at hl
  split at hl
  · rename_i q z ht
    obtain ⟨d, i, hd, hi, hq⟩ := tyA_inv ht
    simp at hq
    obtain ⟨rfl, rfl⟩ := hq
    cases hload : loadN h r (if isAggD d = true then i.size else 1) with
    | none => simp [hload] at hl
    | some cs =>
      simp only [hload, Option.bind_some, mkVal] at hl
      obtain ⟨hlen, V, hV, hVl, hcell⟩ := loadN_inv H hload hL
      simp only [loadVar, Sem.run_bind, run_isAgg' hd, Result.andThen_ok]
      cases hagg : isAggD d with
      | true =>
        simp only [hagg, if_true] at hl hVl hlen
        simp at hl
        subst hl
        refine ⟨.agg V.toArray, ?_, VRs.agg (by simpa using hV)⟩
        rw [if_pos rfl]
        simp only [Sem.run_bind, run_sizeOf' hi, Result.andThen_ok]
        rw [← hVl, run_loadCells_list w _ V hcell]
        rfl
      | false =>
        simp only [hagg, Bool.false_eq_true, if_false] at hl hVl hlen
        match cs, V, hlen, hVl, hl with
        | [x], [y], _, _, hl =>
          simp at hl; subst hl
          refine ⟨y, ?_, hV.head⟩
          have := hcell 0 y rfl
          rw [addr_add, Nat.add_zero] at this
          rw [if_neg (by simp)]
          simp [run_load, this]
  · cases hl
theorem partQ_sound {t : TypeId} {d : TypeDesc} {i : TypeInfo} (hd : P.underlying t = some d) (hi : P.info? t = some i) {cs : List AVal} {C : Array Value} {off : Nat} {v : AVal}
    (hc : VRs μ cs C.toList) (hp : partQ (isAggD d, i.size) cs off = some v) : ∃ V, (part t C off).run P w = .ok V w ∧ VR μ v V := by
  simp only [partQ] at hp
  simp only [part, Sem.run_bind, run_isAgg' hd, Result.andThen_ok]
  cases hagg : isAggD d with
  | true =>
    simp only [hagg, if_true] at hp
    split at hp
    · rename_i hle
      simp at hp; subst hp
      refine ⟨.agg (C.extract off (off + i.size)), by simp [run_sizeOf' hi], VRs.agg ?_⟩
      have := (hc.drop off).take i.size
      simpa [Array.toList_extract, List.extract_eq_take_drop] using this
    · cases hp
  | false =>
    simp only [hagg, Bool.false_eq_true, if_false] at hp
    obtain ⟨y, hy, hv⟩ := hc.get hp
    refine ⟨y, ?_, hv⟩
    have hy' : C[off]? = some y := by simpa using hy
    simp [hy']
theorem partA_sound {t : TypeId} {cs : List AVal} {C : Array Value} {off : Nat} {v : AVal} (hc : VRs μ cs C.toList) (hp : partA P t cs off = some v) :
    ∃ V, (part t C off).run P w = .ok V w ∧ VR μ v V := by
  unfold partA at hp
  cases ht : tyA P t with
  | none => simp [ht] at hp
  | some q =>
    obtain ⟨d, i, hd, hi, rfl⟩ := tyA_inv ht
    simp only [ht, Option.bind_some] at hp
    exact partQ_sound hd hi hc hp
/-- The loop over fields or elements that ends at the first that parts. -/
theorem run_loop {α : Type} (body : α → Option Bool × Unit → Sem (ForInStep (Option Bool × Unit))) (g : α → Option Bool → Option Bool) (l : List α)
    (hb : ∀ x ∈ l, ∀ acc r, g x acc = some r → ((body x (.none, ())).run P w = .ok (.yield (.none, ())) w ∧ acc = some r) ∨ ((body x (.none, ())).run P w = .ok (.done (some false, ())) w ∧ r = false)) :
    ∀ r, l.foldr g (some true) = some r → (forIn l (.none, ()) body : Sem (Option Bool × Unit)).run P w = .ok (if r then (.none, ()) else (some false, ())) w := by
  induction l with
  | nil => intro r hr; simp at hr; subst hr; simp
  | cons x l ih =>
    intro r hr
    simp only [List.foldr_cons] at hr
    rw [List.forIn_cons]
    rcases hb x (by simp) _ _ hr with ⟨h1, h2⟩ | ⟨h1, h2⟩
    · simp only [Sem.run_bind, h1, Result.andThen_ok]
      exact ih (fun y hy => hb y (by simp [hy])) r h2
    · subst h2
      simp [Sem.run_bind, h1]
theorem eqT_sound : ∀ (d D : Nat) (t : TypeId) (x y : AVal) (X Y : Value) (r : Bool), d ≤ D → eqT P d t x y = some r → VR μ x X → VR μ y Y → (Op.equalIn D t X Y).run P w = .ok r w
  | 0, _, _, _, _, _, _, _, _, h, _, _ => by simp [eqT] at h
  | d + 1, D, t, x, y, X, Y, r, hD, h, hx, hy => by
    obtain ⟨D, rfl⟩ : ∃ D', D = D' + 1 := ⟨D - 1, by omega⟩
    unfold eqT at h
    split at h
    · rename_i a b hd
      cases hx; cases hy; simp at h; subst h
      simp [Op.equalIn, run_underlying' hd]
    · rename_i k j a j' b hd
      cases hx; cases hy
      split at h
      · rename_i hk; simp at h; subst h
        simp [Op.equalIn, run_underlying' hd, hk]
      · cases h
    · rename_i fs xs ys hd
      split at h
      · cases h
      · rename_i hs
        obtain ⟨A, rfl, hA⟩ := hx.agg_inv
        obtain ⟨B, rfl, hB⟩ := hy.agg_inv
        simp only [Op.equalIn, Sem.run_bind, run_underlying' hd, Result.andThen_ok, run_program, hs]
        simp only [Bool.false_eq_true, if_false]
        rw [← Array.forIn_toList, Sem.run_bind, run_loop _ _ _ ?_ r h]
        · cases r <;> simp
        · intro f hf acc r' hg
          split at hg
          · rename_i hn
            left; refine ⟨?_, hg⟩
            simp [hn]
          · rename_i hn
            split at hg
            · rename_i a b ha hb
              obtain ⟨V, hV, hv⟩ := partA_sound (w := w) hA ha
              obtain ⟨V', hV', hv'⟩ := partA_sound (w := w) hB hb
              cases he : eqT P d f.type a b with
              | none => simp [he] at hg
              | some q =>
                have ih := eqT_sound d D f.type a b V V' q (by omega) he hv hv'
                cases q with
                | true =>
                  simp only [he] at hg
                  left; refine ⟨?_, hg⟩
                  simp [hn, hV, hV', ih]
                | false =>
                  simp [he] at hg
                  right; refine ⟨?_, hg⟩
                  simp [hn, hV, hV', ih]
            · cases hg
    · rename_i n e xs ys hd
      obtain ⟨A, rfl, hA⟩ := hx.agg_inv
      obtain ⟨B, rfl, hB⟩ := hy.agg_inv
      cases ht : tyA P e with
      | none => simp [ht] at h
      | some q =>
        obtain ⟨d', i, hd', hi, rfl⟩ := tyA_inv ht
        simp only [ht] at h
        simp only [Op.equalIn, Sem.run_bind, run_underlying' hd, Result.andThen_ok, run_sizeOf' hi]
        rw [Std.Legacy.Range.forIn_eq_forIn_range', show (Std.Legacy.Range.size [:n]) = n by simp [Std.Legacy.Range.size], ← List.range_eq_range', run_loop _ _ _ ?_ r h]
        · cases r <;> simp
        · intro f hf acc r' hg
          split at hg
          · rename_i a b ha hb
            obtain ⟨V, hV, hv⟩ := partQ_sound (w := w) hd' hi hA ha
            obtain ⟨V', hV', hv'⟩ := partQ_sound (w := w) hd' hi hB hb
            cases he : eqT P d e a b with
            | none => simp [he] at hg
            | some q =>
              have ih := eqT_sound d D e a b V V' q (by omega) he hv hv'
              cases q with
              | true =>
                simp only [he] at hg
                left; refine ⟨?_, hg⟩
                simp [hV, hV', ih]
              | false =>
                simp [he] at hg
                right; refine ⟨?_, hg⟩
                simp [hV, hV', ih]
          · cases hg
    · rename_i hd
      cases hy
      cases hx <;> simp [nilS] at h <;> subst h <;> simp [Op.equalIn, run_underlying' hd]
    · rename_i hd
      cases hy
      cases hx <;> simp [nilP] at h <;> subst h <;> simp [Op.equalIn, run_underlying' hd]
    · cases h
theorem run_all {α : Type} (body : α → Unit → Sem (ForInStep Unit)) (l : List α) (hb : ∀ x ∈ l, (body x ()).run P w = .ok (.yield ()) w) :
    (forIn l () body : Sem Unit).run P w = .ok () w := by
  induction l with
  | nil => simp
  | cons x l ih =>
    rw [List.forIn_cons]
    simp only [Sem.run_bind, hb x (by simp), Result.andThen_ok]
    exact ih (fun y hy => hb y (by simp [hy]))
theorem keyOk_sound : ∀ (d D : Nat) (b : Bool) (t : TypeId) (x : AVal) (X : Value), d ≤ D → keyOk P d t x = true → VR μ x X → (Instr.checkKey b D t X).run P w = .ok () w
  | 0, _, _, _, _, _, _, h, _ => by simp [keyOk] at h
  | d + 1, D, b, t, x, X, hD, h, hx => by
    obtain ⟨D, rfl⟩ : ∃ D', D = D' + 1 := ⟨D - 1, by omega⟩
    unfold keyOk at h
    split at h
    · rename_i hd; simp [Instr.checkKey, run_underlying' hd]
    · rename_i hd; simp [Instr.checkKey, run_underlying' hd]
    · rename_i fs xs hd
      obtain ⟨A, rfl, hA⟩ := hx.agg_inv
      simp only [Instr.checkKey, Sem.run_bind, run_underlying' hd, Result.andThen_ok]
      rw [← Array.forIn_toList, run_all _ _ ?_]
      · simp
      · intro f hf
        have := List.all_eq_true.1 h f hf
        by_cases hn : f.name = "_"
        · simp [hn]
        · simp only [hn, decide_false, Bool.false_or] at this
          split at this
          · rename_i a ha
            obtain ⟨V, hV, hv⟩ := partA_sound (w := w) hA ha
            have ih := keyOk_sound d D b f.type a V (by omega) this hv
            simp [hn, hV, ih]
          · cases this
    · rename_i n e xs hd
      obtain ⟨A, rfl, hA⟩ := hx.agg_inv
      cases ht : tyA P e with
      | none => simp [ht] at h
      | some q =>
        obtain ⟨d', i, hd', hi, rfl⟩ := tyA_inv ht
        simp only [ht] at h
        simp only [Instr.checkKey, Sem.run_bind, run_underlying' hd, Result.andThen_ok]
        rw [Std.Legacy.Range.forIn_eq_forIn_range', show (Std.Legacy.Range.size [:n]) = n by simp [Std.Legacy.Range.size], ← List.range_eq_range', run_all _ _ ?_]
        · simp
        · intro j hj
          have := List.all_eq_true.1 h j hj
          split at this
          · rename_i a ha
            obtain ⟨V, hV, hv⟩ := partQ_sound (w := w) hd' hi hA ha
            have ih := keyOk_sound d D b e a V (by omega) this hv
            simp [run_sizeOf' hi, hV, ih]
          · cases this
    · cases h
theorem sameNow_eqT {kt : TypeId} {d : Nat} {desc : TypeDesc} (hd : P.underlying kt = some desc) {x y : AVal} {X Y : Value} {r q : Bool} (h : eqT P d kt x y = some r) (hx : VR μ x X) (hy : VR μ y Y)
    (hs : Instr.sameNow desc X Y = some q) : q = r := by
  cases d with
  | zero => simp [eqT] at h
  | succ d =>
    unfold eqT at h
    rw [hd] at h
    cases desc <;> simp [Instr.sameNow] at hs
    · cases hx <;> cases hy <;> simp at hs h <;> (try exact hs.symm.trans h)
    · cases hx <;> cases hy <;> simp at hs h
      obtain ⟨rfl, hs⟩ := hs
      simp at h
      exact hs.symm.trans h
    · cases hx <;> cases hy <;> simp at hs h
theorem findNow_sound {kt : TypeId} {desc : TypeDesc} (hd : P.underlying kt = some desc) {key : AVal} {K : Value} (hk : VR μ key K) :
    ∀ (es : List (AVal × AVal)) (E : List MapEntry) (k : Nat) (r : Option Nat) (q : Option (Nat × Value)), es.length = E.length → (∀ (i : Nat) (x v : AVal) (e : MapEntry), es[i]? = some (x, v) → E[i]? = some e → VR μ x e.key ∧ VR μ v e.val) →
      findA P kt key es = some r → Instr.findNow desc K E k = some q → q = r.bind fun i => (E[i]?).map fun e => (i + k, e.val)
  | [], [], k, r, q, _, _, h, hq => by simp [findA] at h; simp [Instr.findNow] at hq; subst h hq; rfl
  | (x, v) :: es, e :: E, k, r, q, hl, hr, h, hq => by
    have h0 := hr 0 x v e rfl rfl
    simp only [findA] at h
    simp only [Instr.findNow] at hq
    split at h
    · rename_i he
      simp at h; subst h
      split at hq
      · simp at hq; subst hq; simp
      · rename_i hs; have := sameNow_eqT hd he hk h0.1 hs; simp at this
      · cases hq
    · rename_i he
      split at hq
      · rename_i hs; have := sameNow_eqT hd he hk h0.1 hs; simp at this
      · cases hf : findA P kt key es with
        | none => simp [hf] at h
        | some r' =>
          simp [hf] at h; subst h
          have ih := findNow_sound hd hk es E (k + 1) r' q (by simpa using hl) (fun i a b c ha hb => hr (i + 1) a b c (by simpa using ha) (by simpa using hb)) hf hq
          rw [ih]; cases r' <;> simp [Nat.add_assoc, Nat.add_comm 1 k]
      · cases hq
    · cases h
theorem findAsking_sound {kt : TypeId} {key : AVal} {K : Value} (hk : VR μ key K) :
    ∀ (es : List (AVal × AVal)) (E : List MapEntry) (k : Nat) (r : Option Nat), es.length = E.length → (∀ (i : Nat) (x v : AVal) (e : MapEntry), es[i]? = some (x, v) → E[i]? = some e → VR μ x e.key ∧ VR μ v e.val) →
      findA P kt key es = some r → (Instr.findAsking kt K E k).run P w = .ok (r.bind fun i => (E[i]?).map fun e => (i + k, e.val)) w
  | [], [], k, r, _, _, h => by simp [findA] at h; subst h; simp [Instr.findAsking]
  | (x, v) :: es, e :: E, k, r, hl, hr, h => by
    have h0 := hr 0 x v e rfl rfl
    simp only [findA] at h
    simp only [Instr.findAsking, Sem.run_bind, Op.equal]
    split at h
    · rename_i he
      simp at h; subst h
      rw [eqT_sound eqDepth Op.maxDepth kt key x K e.key true (by decide) he hk h0.1]
      simp
    · rename_i he
      rw [eqT_sound eqDepth Op.maxDepth kt key x K e.key false (by decide) he hk h0.1]
      cases hf : findA P kt key es with
      | none => simp [hf] at h
      | some r' =>
        simp [hf] at h; subst h
        simp only [Result.andThen_ok, Bool.false_eq_true, if_false]
        rw [findAsking_sound hk es E (k + 1) r' (by simpa using hl) (fun i a b c ha hb => hr (i + 1) a b c (by simpa using ha) (by simpa using hb)) hf]
        cases r' <;> simp [Nat.add_assoc, Nat.add_comm 1 k]
    · cases h
theorem findKey_sound {kt : TypeId} {key : AVal} {K : Value} (hk : VR μ key K) {es : List (AVal × AVal)} {E : Array MapEntry} {r : Option Nat} (hE : MapR μ es E) {desc : TypeDesc} (hd : P.underlying kt = some desc)
    (h : findA P kt key es = some r) : (Instr.findKey kt K E.toList).run P w = .ok (r.bind fun i => (E[i]?).map fun e => (i, e.val)) w := by
  have hr : ∀ (i : Nat) (x v : AVal) (e : MapEntry), es[i]? = some (x, v) → E.toList[i]? = some e → VR μ x e.key ∧ VR μ v e.val := fun i x v e hx he => by
    have := hE.2 i x v e hx (by simpa using he); exact ⟨this.1, this.2.1⟩
  simp only [Instr.findKey, Sem.run_bind, run_underlying' hd, Result.andThen_ok]
  split
  · rename_i q hq
    have := findNow_sound hd hk es E.toList 0 r q (by simpa using hE.1) hr h hq
    subst this
    simp
  · have := findAsking_sound (P := P) (w := w) hk es E.toList 0 r (by simpa using hE.1) hr h
    rw [this]; simp
end
end Go.AM
/-
  Operations that leave memory as it is, one by one, and all of them together.
-/
namespace Go.AM
section
variable {P : Program} {μ : Mu} {h : Heap} {w : World}
theorem allCv_VRs : ∀ (l : List Value) (z : List AVal), allCv l = some z → VRs μ z l
  | [], z, h => by simp [allCv] at h; subst h; exact .nil
  | v :: vs, z, h => by
    simp only [allCv] at h
    split at h
    · rename_i a as ha has
      simp at h; subst h
      exact (allCv_VRs vs as has).cons (cv_VR ha)
    · cases h
theorem zc_inv {t : TypeId} {z : List AVal} (hz : zc P t = some z) : ∃ v, (∀ w : World, (zeroValue t).run P w = .ok v w) ∧ VRs μ z v.cells.toList := by
  unfold zc at hz
  cases hi : P.info? t with
  | none => simp [hi] at hz
  | some i =>
    cases hv : i.zero with
    | none => simp [hi, hv] at hz
    | some v =>
      simp [hi, hv] at hz
      exact ⟨v, fun w => by simp [zeroValue, run_typeInfo' hi, hv], allCv_VRs _ _ hz⟩
theorem zvA_inv {t : TypeId} {z : AVal} (hz : zvA P t = some z) : ∃ v, (zeroValue t).run P w = .ok v w ∧ VR μ z v := by
  unfold zvA at hz
  cases hi : P.info? t with
  | none => simp [hi] at hz
  | some i =>
    cases hv : i.zero with
    | none => simp [hi, hv] at hz
    | some v =>
      refine ⟨v, by simp [zeroValue, run_typeInfo' hi, hv], ?_⟩
      simp only [hi, Option.bind_some, hv] at hz
      split at hz
      · rename_i cs hcs
        simp at hcs; subst hcs
        cases ha : allCv cs.toList with
        | none => simp [ha] at hz
        | some as => simp [ha] at hz; subst hz; exact VRs.agg (allCv_VRs _ _ ha)
      · rename_i u _ hu
        simp at hu; subst hu
        exact cv_VR hz
      · cases hz
theorem intBin_sound {op : BinOp} {k : IntKind} {a b : Int} {v : AVal} (hb : intBin op k a b = some v) (t : TypeId) (hs : isShift op = false) :
    ∃ V, (binOp op t (.int k a) (.int k b)).run P w = .ok V w ∧ VR μ v V := by
  cases op <;> simp [intBin, isShift] at hb hs <;> (try subst hb) <;> simp [binOp, Op.intArith, Op.intBits, Op.intCmp, VR.int, VR.bool]
  · obtain ⟨h0, rfl⟩ := hb; simp [Op.intDiv, h0, VR.int]
  · obtain ⟨h0, rfl⟩ := hb; simp [Op.intDiv, h0, VR.int]
  all_goals first | exact .int _ _ | exact .bool _ | skip
theorem shiftA_sound {op : BinOp} {k k' : IntKind} {a b : Int} {v : AVal} (hb : shiftA op k a b = some v) (t : TypeId) :
    ∃ V, (binOp op t (.int k a) (.int k' b)).run P w = .ok V w ∧ VR μ v V := by
  unfold shiftA at hb
  split at hb
  · cases hb
  · rename_i h0
    cases op <;> simp at hb <;> subst hb <;> simp [binOp, Op.shift, h0] <;> exact .int _ _
theorem eqGuard_none (op : BinOp) (t : TypeId) (x y : Operand) (a b : Value) (hab : (∀ A, a ≠ .agg A) ∧ a ≠ .nilIface) : (eqGuard op t x y a b).run P w = .ok () w := by
  unfold eqGuard
  cases op <;> simp <;> (split <;> simp_all)
theorem eqGuard_agg (op : BinOp) (t : TypeId) (x y : Operand) (A B : Array Value) (hg : P.eqGuardType P.depth t = false) : (eqGuard op t x y (.agg A) (.agg B)).run P w = .ok () w := by
  unfold eqGuard
  cases op <;> simp [hg]
theorem binOp_eql {t : TypeId} {x y : AVal} {X Y : Value} {r : Bool} (hx : VR μ x X) (hy : VR μ y Y) (h : eqT P eqDepth t x y = some r) (hi : ∀ k a k' b, ¬ (X = .int k a ∧ Y = .int k' b)) (hs : ∀ a b, ¬ (X = .string a ∧ Y = .string b))
    (hf : ∀ k a k' b, ¬ (X = .float k a ∧ Y = .float k' b)) (hc : ∀ k a b k' c d, ¬ (X = .complex k a b ∧ Y = .complex k' c d)) :
    (binOp .eql t X Y).run P w = .ok (.bool r) w ∧ (binOp .neq t X Y).run P w = .ok (.bool !r) w := by
  have := eqT_sound (w := w) eqDepth Op.maxDepth t x y X Y r (by decide) h hx hy
  constructor
  · unfold binOp
    split <;> first | (exfalso; first | exact hi _ _ _ _ ⟨rfl, rfl⟩ | exact hs _ _ ⟨rfl, rfl⟩ | exact hf _ _ _ _ ⟨rfl, rfl⟩ | exact hc _ _ _ _ _ _ ⟨rfl, rfl⟩) | (simp [Op.equal, this]; done) | simp_all
  · unfold binOp
    split <;> first | (exfalso; first | exact hi _ _ _ _ ⟨rfl, rfl⟩ | exact hs _ _ ⟨rfl, rfl⟩ | exact hf _ _ _ _ ⟨rfl, rfl⟩ | exact hc _ _ _ _ _ _ ⟨rfl, rfl⟩) | (simp [Op.equal, this]; done) | simp_all
theorem binA_sound {op : BinOp} {t : TypeId} {x y : Operand} {a b : AVal} {A B : Value} {v : AVal} (hv : binA P op t a b = some v) (ha : VR μ a A) (hb : VR μ b B) :
    ∃ V, (do eqGuard op t x y A B; binOp op t A B : Sem Value).run P w = .ok V w ∧ VR μ v V := by
  unfold binA at hv
  split at hv
  · rename_i k n k' m
    cases ha; cases hb
    simp only [Sem.run_bind, eqGuard_none op t x y (.int k n) (.int k' m) ⟨by simp, by simp⟩, Result.andThen_ok]
    split at hv
    · exact shiftA_sound hv t
    · rename_i hs
      split at hv
      · rename_i hk; subst hk; exact intBin_sound hv t (by simpa using hs)
      · cases hv
  · rename_i p q
    cases ha; cases hb
    simp only [Sem.run_bind, eqGuard_none op t x y (.bool p) (.bool q) ⟨by simp, by simp⟩, Result.andThen_ok]
    split at hv
    · cases he : eqT P eqDepth t (.bool p) (.bool q) with
      | none => simp [he] at hv
      | some r => simp [he] at hv; subst hv; exact ⟨_, (binOp_eql (w := w) (μ := μ) (.bool p) (.bool q) he (by simp) (by simp) (by simp) (by simp)).1, .bool _⟩
    · cases he : eqT P eqDepth t (.bool p) (.bool q) with
      | none => simp [he] at hv
      | some r => simp [he] at hv; subst hv; exact ⟨_, (binOp_eql (w := w) (μ := μ) (.bool p) (.bool q) he (by simp) (by simp) (by simp) (by simp)).2, .bool _⟩
    · cases hv
  · rename_i p q
    split at hv
    · cases hv
    · rename_i hg
      obtain ⟨A, rfl, hA⟩ := ha.agg_inv
      obtain ⟨B, rfl, hB⟩ := hb.agg_inv
      simp only [Sem.run_bind, eqGuard_agg op t x y A B (by simpa using hg), Result.andThen_ok]
      split at hv
      · cases he : eqT P eqDepth t (.agg p) (.agg q) with
        | none => simp [he] at hv
        | some r => simp [he] at hv; subst hv; exact ⟨_, (binOp_eql (w := w) ha hb he (by simp) (by simp) (by simp) (by simp)).1, .bool _⟩
      · cases he : eqT P eqDepth t (.agg p) (.agg q) with
        | none => simp [he] at hv
        | some r => simp [he] at hv; subst hv; exact ⟨_, (binOp_eql (w := w) ha hb he (by simp) (by simp) (by simp) (by simp)).2, .bool _⟩
      · cases hv
  · rename_i hI hB hAg
    have nog : ∀ r, eqT P eqDepth t a b = some r → (eqGuard op t x y A B).run P w = .ok () w ∧ (∀ k a k' b, ¬ (A = .int k a ∧ B = .int k' b)) ∧ (∀ a b, ¬ (A = .string a ∧ B = .string b)) ∧
        (∀ k a k' b, ¬ (A = .float k a ∧ B = .float k' b)) ∧ (∀ k a b k' c d, ¬ (A = .complex k a b ∧ B = .complex k' c d)) := by
      intro r he
      have : (∃ u l c, B = .slice u l c) ∨ (∃ u, B = .pointer u) := by
        simp only [eqDepth] at he
        unfold eqT at he
        split at he
        · exact (hB _ _ rfl rfl).elim
        · exact (hI _ _ _ _ rfl rfl).elim
        · exact (hAg _ _ rfl rfl).elim
        · exact (hAg _ _ rfl rfl).elim
        · cases hb <;> exact .inl ⟨_, _, _, rfl⟩
        · cases hb <;> exact .inr ⟨_, rfl⟩
        · cases he
      rcases this with ⟨u, l, c, rfl⟩ | ⟨u, rfl⟩
      · refine ⟨?_, by simp, by simp, by simp, by simp⟩
        unfold eqGuard; cases op <;> simp <;> (split <;> simp_all)
      · refine ⟨?_, by simp, by simp, by simp, by simp⟩
        unfold eqGuard; cases op <;> simp <;> (split <;> simp_all)
    split at hv
    · cases he : eqT P eqDepth t a b with
      | none => simp [he] at hv
      | some r =>
        simp [he] at hv; subst hv
        obtain ⟨h1, h2, h3, h4, h5⟩ := nog r he
        simp only [Sem.run_bind, h1, Result.andThen_ok]
        exact ⟨_, (binOp_eql (w := w) ha hb he h2 h3 h4 h5).1, .bool _⟩
    · cases he : eqT P eqDepth t a b with
      | none => simp [he] at hv
      | some r =>
        simp [he] at hv; subst hv
        obtain ⟨h1, h2, h3, h4, h5⟩ := nog r he
        simp only [Sem.run_bind, h1, Result.andThen_ok]
        exact ⟨_, (binOp_eql (w := w) ha hb he h2 h3 h4 h5).2, .bool _⟩
    · cases hv
theorem unA_sound {op : UnOp} {a : AVal} {A : Value} {v : AVal} (hv : unA op a = some v) (ha : VR μ a A) : ∃ V, (Op.unary op A).run P w = .ok V w ∧ VR μ v V := by
  unfold unA at hv
  split at hv
  · cases ha
    split at hv
    · simp at hv; subst hv; exact ⟨_, by simp [Op.unary, Op.intArith], .int _ _⟩
    · simp [intBin] at hv; subst hv; exact ⟨_, by simp [Op.unary, Op.intBits], .int _ _⟩
    · cases hv
  · cases ha
    split at hv
    · simp at hv; subst hv; exact ⟨_, by simp [Op.unary], .bool _⟩
    · cases hv
  · cases hv
theorem boundA_sound {v : AVal} {V : Value} {hi : Nat} {code : BoundsCode} {n : Nat} {hi' : Nat} (hb : boundA v hi = some n) (hv : VR μ v V) (hle : hi ≤ hi') : n ≤ hi ∧ (Instr.sliceBound V hi' code).run P w = .ok n w := by
  unfold boundA at hb
  split at hb
  · cases hv
    split at hb
    · rename_i h1; simp at hb; subst hb
      refine ⟨by omega, ?_⟩
      rename_i i
      simp only [Instr.sliceBound, asIntOf, Sem.run_bind, Sem.run_pure, Result.andThen_ok]
      rw [if_pos ⟨h1.1, by omega⟩]; rfl
    · cases hb
  · cases hb
/-- An optional bound. -/
def VRo (μ : Mu) : Option AVal → Option Value → Prop
  | .none, .none => True
  | some x, some X => VR μ x X
  | _, _ => False
theorem sliceBounds_sound {b : Bool} {len kcap C : Nat} {lo hi mx : Option AVal} {LO HI MX : Option Value} {m h' l : Nat} (hlo : VRo μ lo LO) (hhi : VRo μ hi HI) (hmx : VRo μ mx MX)
    (hm : optB mx kcap kcap = some m) (hh : optB hi m len = some h') (hl : optB lo h' 0 = some l) (hlen : len ≤ kcap) (hC : kcap ≤ C) (hmh : mx ≠ .none → hi ≠ .none) :
    l ≤ h' ∧ h' ≤ m ∧ m ≤ kcap ∧ ∃ M, (Instr.sliceBounds b len C LO HI MX).run P w = .ok (l, h', M) w ∧ m ≤ M ∧ M ≤ C ∧ (M = m ∨ (M = C ∧ m = kcap)) := by
  have lo' : l ≤ h' ∧ ((LO = .none ∧ l = 0) ∨ ∃ V, LO = some V ∧ ∀ code, (Instr.sliceBound V h' code).run P w = .ok l w) := by
    cases lo with
    | none => cases LO with
      | none => simp [optB] at hl; subst hl; exact ⟨Nat.zero_le _, .inl ⟨rfl, rfl⟩⟩
      | some V => exact hlo.elim
    | some v => cases LO with
      | none => exact hlo.elim
      | some V => exact ⟨(boundA_sound (w := w) (P := P) (code := .sliceB) hl hlo (Nat.le_refl _)).1, .inr ⟨V, rfl, fun code => (boundA_sound hl hlo (Nat.le_refl _)).2⟩⟩
  cases mx with
  | none =>
    cases MX with
    | some V => exact hmx.elim
    | none =>
      simp [optB] at hm; subst hm
      cases hi with
      | none => cases HI with
        | some V => exact hhi.elim
        | none =>
          simp [optB] at hh; subst hh
          refine ⟨lo'.1, hlen, Nat.le_refl _, C, ?_, hC, Nat.le_refl _, .inr ⟨rfl, rfl⟩⟩
          simp only [Instr.sliceBounds, Sem.run_bind, Sem.run_pure, Result.andThen_ok, Option.isSome_none, Bool.false_eq_true, if_false]
          rcases lo'.2 with ⟨rfl, rfl⟩ | ⟨V', rfl, hV'⟩ <;> simp [*]
      | some v => cases HI with
        | none => exact hhi.elim
        | some V =>
          have h1 := boundA_sound (w := w) (P := P) (code := if b = true then .sliceAcap else .sliceAlen) (hi' := C) hh hhi hC
          refine ⟨lo'.1, h1.1, Nat.le_refl _, C, ?_, hC, Nat.le_refl _, .inr ⟨rfl, rfl⟩⟩
          simp only [Instr.sliceBounds, Sem.run_bind, Sem.run_pure, Result.andThen_ok, Option.isSome_none, Bool.false_eq_true, if_false, h1.2]
          rcases lo'.2 with ⟨rfl, rfl⟩ | ⟨V', rfl, hV'⟩ <;> simp [*]
  | some mv =>
    cases MX with
    | none => exact hmx.elim
    | some MV =>
      have h0 := boundA_sound (w := w) (P := P) (code := if b = true then .slice3Acap else .slice3Alen) (hi' := C) hm hmx hC
      cases hi with
      | none => exact absurd rfl (hmh (by simp))
      | some v => cases HI with
        | none => exact hhi.elim
        | some V =>
          have h1 := boundA_sound (w := w) (P := P) (code := .slice3B) (hi' := m) hh hhi (Nat.le_refl _)
          refine ⟨lo'.1, h1.1, h0.1, m, ?_, Nat.le_refl _, by omega, .inl rfl⟩
          simp only [Instr.sliceBounds, Sem.run_bind, Result.andThen_ok, Option.isSome_some, if_true, h0.2, h1.2]
          rcases lo'.2 with ⟨rfl, rfl⟩ | ⟨V', rfl, hV'⟩ <;> simp [*]
end
end Go.AM
/-
  Slices, elements, fields, builds, look-ups; and all operations that leave memory as it is.
-/
namespace Go.AM
section
variable {P : Program} {μ : Mu} {h : Heap} {w : World}
theorem elS_inv {t e : TypeId} {z : Nat} {zs : List AVal} (ht : elS P t = some (e, z, zs)) :
    ∃ i, P.underlying t = some (.slice e) ∧ P.info? e = some i ∧ i.size = z ∧ zc P e = some zs ∧ i.bytes ≤ 2 ^ 12 ∧ 0 < z ∧ zs.length = z := by
  unfold elS at ht
  split at ht
  · rename_i e' hd
    split at ht
    · rename_i i z' hi hz
      split at ht
      · rename_i hc
        simp at ht
        obtain ⟨rfl, rfl, rfl⟩ := ht
        exact ⟨i, hd, hi, rfl, hz, hc.1, hc.2.1, hc.2.2⟩
      · cases ht
    · cases ht
  · cases ht
theorem arT_inv {t : TypeId} {n : Nat} {q : Bool × Nat} (ht : arT P t = some (n, q)) :
    ∃ e d i, P.underlying t = some (.array n e) ∧ P.underlying e = some d ∧ P.info? e = some i ∧ q = (isAggD d, i.size) := by
  unfold arT at ht
  split at ht
  · rename_i n' e hd
    cases hq : tyA P e with
    | none => simp [hq] at ht
    | some q' =>
      obtain ⟨d, i, hd', hi, rfl⟩ := tyA_inv hq
      simp [hq] at ht
      obtain ⟨rfl, rfl⟩ := ht
      exact ⟨e, d, i, hd, hd', hi, rfl⟩
  · cases ht
theorem fld_inv {t : TypeId} {f off : Nat} {q : Bool × Nat} (ht : fld P t f = some (off, q)) :
    ∃ fs F d i, P.underlying t = some (.struct fs) ∧ fs[f]? = some F ∧ F.offset = off ∧ P.underlying F.type = some d ∧ P.info? F.type = some i ∧ q = (isAggD d, i.size) := by
  unfold fld at ht
  split at ht
  · rename_i fs hd
    split at ht
    · rename_i F hF
      cases hq : tyA P F.type with
      | none => simp [hq] at ht
      | some q' =>
        obtain ⟨d, i, hd', hi, rfl⟩ := tyA_inv hq
        simp [hq] at ht
        obtain ⟨rfl, rfl⟩ := ht
        exact ⟨fs, F, d, i, hd, hF, rfl, hd', hi, rfl⟩
    · cases ht
  · cases ht
theorem hL_add {r : ARef} {L : Loc} (hL : μ.loc r.id r.ver = some L) (n : Nat) : VR μ (.ptr (some (r.add n))) (.pointer (some ((⟨L.blk, L.base + r.off, .none⟩ : Addr).add n))) := by
  rw [addr_add]
  have := VR.ptr (μ := μ) (r.add n) L hL
  simpa [ARef.add, Nat.add_assoc] using this
theorem sliceA_sound {t : TypeId} {x : AVal} {X : Value} {lo hi mx : Option AVal} {LO HI MX : Option Value} {v : AVal} (hv : sliceA P t x lo hi mx = some v) (hx : VR μ x X)
    (hlo : VRo μ lo LO) (hhi : VRo μ hi HI) (hmx : VRo μ mx MX) (hmh : mx ≠ .none → hi ≠ .none) : ∃ V, (Instr.sliceAt t X LO HI MX).run P w = .ok V w ∧ VR μ v V := by
  unfold sliceA at hv
  split at hv
  · rename_i n q z ha
    obtain ⟨e, d, i, hd, hd', hi', hq⟩ := arT_inv ha
    simp at hq
    obtain ⟨rfl, rfl⟩ := hq
    split at hv
    · rename_i r
      cases MX with
      | some _ => exact hmx.elim
      | none =>
      cases hx with
      | ptr _ L hL =>
        split at hv
        · cases hv
        · rename_i hh hhe
          split at hv
          · cases hv
          · rename_i l hle
            simp at hv; subst hv
            obtain ⟨h1, h2, h3, M, hM, h4, h5, h6⟩ := sliceBounds_sound (P := P) (w := w) (μ := μ) (b := false) (len := n) (kcap := n) (C := n) (m := n) (MX := .none) (mx := .none) hlo hhi trivial rfl hhe hle (Nat.le_refl _) (Nat.le_refl _) (by simp)
            have hMn : M = n := by omega
            subst hMn
            simp only [Instr.sliceAt, Sem.run_bind, run_underlying' hd, Result.andThen_ok, Instr.sureAddr, Sem.run_pure, hM, run_sizeOf' hi']
            refine ⟨_, rfl, ?_⟩
            by_cases hml : M = l
            · have e1 : hh - l = 0 := by omega
              have e2 : M - l = 0 := by omega
              rw [e1, e2, if_pos hml]
              exact .slice0 _ _ _
            · rw [if_neg hml, addr_add]
              have := VR.slice (μ := μ) (r.add (l * i.size)) L (hh - l) (M - l) (M - l) hL (by omega) (by omega) (Nat.le_refl _)
              simp only [ARef.add] at this
              rw [Nat.add_assoc]
              exact this fun _ => .inl (by first | trivial | rfl)
    · cases hv
  · rename_i ha
    split at hv
    · rename_i e z zs a len kcap he
      obtain ⟨i, hd, hi', rfl, hz, hb, h0, hzl⟩ := elS_inv he
      split at hv
      · cases hv
      · rename_i m hme
        split at hv
        · cases hv
        · rename_i hh hhe
          split at hv
          · cases hv
          · rename_i l hle
            simp at hv; subst hv
            have hat : ∀ X, (Instr.sliceAt t X LO HI MX).run P w = (Instr.slice t X LO HI MX).run P w := fun X => by simp [Instr.sliceAt, run_underlying' hd]
            rw [hat]
            cases hx with
            | sliceN =>
              obtain ⟨h1, h2, h3, M, hM, h4, h5, h6⟩ := sliceBounds_sound (P := P) (w := w) (μ := μ) (b := true) (len := 0) (kcap := 0) (C := 0) hlo hhi hmx hme hhe hle (Nat.le_refl _) (Nat.le_refl _) hmh
              simp only [Instr.slice, Sem.run_bind, run_underlying' hd, Result.andThen_ok, hM, run_sizeOf' hi', Sem.run_pure]
              refine ⟨_, rfl, ?_⟩
              have e1 : hh - l = 0 := by omega
              have e2 : M - l = 0 := by omega
              have e3 : m - l = 0 := by omega
              rw [e1, e2, e3]
              simp only [Option.map_none, ite_self]
              exact .sliceN
            | slice0 r a C =>
              obtain ⟨h1, h2, h3, M, hM, h4, h5, h6⟩ := sliceBounds_sound (P := P) (w := w) (μ := μ) (b := true) (len := 0) (kcap := 0) (C := C) hlo hhi hmx hme hhe hle (Nat.le_refl _) (Nat.zero_le _) hmh
              simp only [Instr.slice, Sem.run_bind, run_underlying' hd, Result.andThen_ok, hM, run_sizeOf' hi', Sem.run_pure]
              refine ⟨_, rfl, ?_⟩
              have e1 : hh - l = 0 := by omega
              have e3 : m - l = 0 := by omega
              rw [e1, e3]
              simp only [Option.map_some]
              split <;> exact .slice0 _ _ _
            | slice r L _ _ C hL hk hn hc hl =>
              obtain ⟨h1, h2, h3, M, hM, h4, h5, h6⟩ := sliceBounds_sound (P := P) (w := w) (μ := μ) (b := true) (len := len) (kcap := kcap) (C := C) hlo hhi hmx hme hhe hle hn hc hmh
              simp only [Instr.slice, Sem.run_bind, run_underlying' hd, Result.andThen_ok, hM, run_sizeOf' hi', Sem.run_pure]
              refine ⟨_, rfl, ?_⟩
              by_cases hml : m = l
              · have e1 : hh - l = 0 := by omega
                have e3 : m - l = 0 := by omega
                rw [e1, e3]
                simp only [Option.map_some]
                split <;> exact .slice0 _ _ _
              · rw [if_neg (by omega)]
                simp only [Option.map_some, addr_add]
                have := VR.slice (μ := μ) (r.add (l * i.size)) L (hh - l) (m - l) (M - l) hL (by omega) (by omega) (by omega)
                simp only [ARef.add] at this
                rw [Nat.add_assoc]
                refine this fun hoff => ?_
                have hl0 : l = 0 := by
                  rcases Nat.eq_zero_of_add_eq_zero_left hoff with h
                  rcases Nat.mul_eq_zero.1 h with h | h
                  · exact h
                  · omega
                subst hl0
                rcases h6 with h6 | ⟨h6, h7⟩
                · exact .inl (by omega)
                · rcases hl (by omega) with hl | hl
                  · exact .inl (by omega)
                  · exact .inr (by simpa [h6] using hl)
    · rename_i q he
      obtain ⟨e, z, zs⟩ := q
      obtain ⟨i, hd, hi', rfl, hz, hb, h0, hzl⟩ := elS_inv he
      have hat : ∀ X, (Instr.sliceAt t X LO HI MX).run P w = (Instr.slice t X LO HI MX).run P w := fun X => by simp [Instr.sliceAt, run_underlying' hd]
      rw [hat]
      split at hv
      · rename_i m hh l hme hhe hle
        simp at hv; subst hv
        cases hx with
        | emp a =>
          have hm0 : m = 0 := by
            cases mx with
            | none => simp [optB] at hme; omega
            | some q => simp only [optB, boundA] at hme; split at hme <;> (try cases hme); split at hme <;> simp at hme; omega
          have hh0 : hh = 0 := by
            cases hi with
            | none => simp [optB] at hhe; omega
            | some q => simp only [optB, boundA] at hhe; split at hhe <;> (try cases hhe); split at hhe <;> simp at hhe; omega
          subst hm0 hh0
          obtain ⟨h1, h2, h3, M, hM, h4, h5, h6⟩ := sliceBounds_sound (P := P) (w := w) (μ := μ) (b := true) (len := 0) (kcap := 0) (C := 0) hlo hhi hmx hme hhe hle (Nat.le_refl _) (Nat.le_refl _) hmh
          simp only [Instr.slice, Sem.run_bind, run_underlying' hd, Result.andThen_ok, hM, run_sizeOf' hi', Sem.run_pure]
          refine ⟨_, rfl, ?_⟩
          have e2 : M - l = 0 := by omega
          have e4 : M = l := by omega
          rw [e2, if_pos e4, Nat.zero_sub]
          exact .emp _
      · cases hv
    · cases hv
theorem indexAddrA_sound {t : TypeId} {x i : AVal} {X I : Value} {v : AVal} (hv : indexAddrA P t x i = some v) (hx : VR μ x X) (hi : VR μ i I) :
    ∃ V, (Instr.indexAt t X I).run P w = .ok V w ∧ VR μ v V := by
  unfold indexAddrA at hv
  split at hv
  · rename_i k n
    cases hi
    split at hv
    · rename_i m q z ha
      obtain ⟨e, d, i, hd, hd', hi', hq⟩ := arT_inv ha
      simp at hq
      obtain ⟨rfl, rfl⟩ := hq
      split at hv
      · rename_i r
        cases hx with
        | ptr _ L hL =>
          split at hv
          · rename_i hb
            simp at hv; subst hv
            refine ⟨_, ?_, hL_add hL _⟩
            simp only [Instr.indexAt, asIntOf, Sem.run_bind, Sem.run_pure, Result.andThen_ok, run_underlying' hd, Instr.sureAddr]
            simp [hb.1, hb.2, run_sizeOf' hi']
          · cases hv
      · cases hv
    · split at hv
      · rename_i e z zs r len kcap he
        obtain ⟨i, hd, hi', rfl, hz, hb, h0, hzl⟩ := elS_inv he
        split at hv
        · rename_i hb
          simp at hv; subst hv
          cases hx with
          | slice0 => omega
          | slice _ L _ _ C hL hk hn hc hl =>
            refine ⟨_, ?_, hL_add hL _⟩
            simp only [Instr.indexAt, asIntOf, Sem.run_bind, Sem.run_pure, Result.andThen_ok, run_underlying' hd]
            simp [hb.1, hb.2, run_sizeOf' hi']
        · cases hv
      · cases hv
  · cases hv
theorem indexA_sound {t : TypeId} {x i : AVal} {X I : Value} {v : AVal} (hv : indexA P t x i = some v) (hx : VR μ x X) (hi : VR μ i I) :
    ∃ V, (Instr.index t X I).run P w = .ok V w ∧ VR μ v V := by
  unfold indexA at hv
  split at hv
  · rename_i n q cs k j ha
    obtain ⟨e, d, i, hd, hd', hi', rfl⟩ := arT_inv ha
    obtain ⟨A, rfl, hA⟩ := hx.agg_inv
    cases hi
    split at hv
    · rename_i hb
      obtain ⟨V, hV, hr⟩ := partQ_sound (w := w) hd' hi' hA hv
      refine ⟨V, ?_, hr⟩
      simp [Instr.index, asIntOf, run_underlying' hd, hb.1, hb.2, run_sizeOf' hi', hV]
    · cases hv
  · rename_i s k j ha
    cases hx
    cases hi
    split at hv
    · rename_i hb
      have hd : P.underlying t = some .string := by
        have := hb.1
        unfold strT at this
        split at this
        · assumption
        · cases this
      cases hs : s[j.toNat]? with
      | none => rw [hs] at hv; cases hv
      | some b =>
        rw [hs] at hv
        simp only [Option.map_some, Option.some.injEq] at hv
        subst hv
        refine ⟨_, ?_, .int _ _⟩
        simp only [Instr.index, asIntOf, Sem.run_bind, Sem.run_pure, Result.andThen_ok, run_underlying' hd]
        simp [hb.2, hs]
    · cases hv
  · cases hv
theorem fieldAddrA_sound {t : TypeId} {x : AVal} {X : Value} {f : Nat} {v : AVal} (hv : fieldAddrA P t x f = some v) (hx : VR μ x X) :
    ∃ V, (Instr.fieldAt t X f).run P w = .ok V w ∧ VR μ v V := by
  unfold fieldAddrA at hv
  split at hv
  · rename_i off q z r hf
    obtain ⟨fs, F, d, i, hd, hF, rfl, hd', hi', hq⟩ := fld_inv hf
    simp at hq
    obtain ⟨rfl, rfl⟩ := hq
    split at hv
    · cases hv
    · rename_i hz
      simp at hv; subst hv
      cases hx with
      | ptr _ L hL =>
        refine ⟨_, ?_, hL_add hL _⟩
        simp [Instr.fieldAt, run_underlying' hd, hF, Instr.sureAddr, fieldPlace, run_sizeOf' hi', hz]
  · cases hv
theorem fieldA_sound {t : TypeId} {x : AVal} {X : Value} {f : Nat} {v : AVal} (hv : fieldA P t x f = some v) (hx : VR μ x X) :
    ∃ V, (Instr.field t X f).run P w = .ok V w ∧ VR μ v V := by
  unfold fieldA at hv
  split at hv
  · rename_i off q cs hf
    obtain ⟨fs, F, d, i, hd, hF, rfl, hd', hi', rfl⟩ := fld_inv hf
    obtain ⟨A, rfl, hA⟩ := hx.agg_inv
    obtain ⟨V, hV, hr⟩ := partQ_sound (w := w) hd' hi' hA hv
    exact ⟨V, by simp [Instr.field, run_underlying' hd, hF, asAgg, hV], hr⟩
  · cases hv
theorem extractA_sound {x : AVal} {X : Value} {i : Nat} {v : AVal} (hv : extractA x i = some v) (hx : VR μ x X) : ∃ V, (Instr.extract X i).run P w = .ok V w ∧ VR μ v V := by
  unfold extractA at hv
  split at hv
  · obtain ⟨A, rfl, hA⟩ := hx.tuple_inv
    obtain ⟨y, hy, hr⟩ := hA.get hv
    have hy' : A[i]? = some y := by simpa using hy
    exact ⟨y, by simp [Instr.extract, hy'], hr⟩
  · cases hv
theorem convA_sound {s d : TypeId} {x : AVal} {X : Value} {v : AVal} (hv : convA P d s x = some v) (hx : VR μ x X) : ∃ V, (convert s d X).run P w = .ok V w ∧ VR μ v V := by
  unfold convA at hv
  split at hv
  · rename_i sd k j n hs hd
    simp at hv; subst hv
    cases hx
    unfold ikT at hd
    split at hd
    · rename_i k' hk
      simp at hd; subst hd
      refine ⟨_, ?_, .int _ _⟩
      simp only [convert, Sem.run_bind, run_underlying' hs, Result.andThen_ok, run_underlying' hk]
      simp [Conv.intToInt]
    · cases hd
  · cases hv
theorem splice_length (c : List AVal) : ∀ (vs : List AVal) (off : Nat), (splice c off vs).length = c.length := by
  intro vs
  induction vs generalizing c with
  | nil => intro off; rfl
  | cons v vs ih => intro off; simp [splice, ih]
theorem splice_VRs : ∀ (vs : List AVal) (VS : List Value) (c : List AVal) (C : Array Value) (off : Nat), VRs μ c C.toList → VRs μ vs VS → ∀ k,
    VRs μ (splice c (off + k) vs) ((VS.zipIdx k).foldl (fun (cs : Array Value) (p : Value × Nat) => cs.setIfInBounds (off + p.2) p.1) C).toList
  | [], [], c, C, off, hc, _, k => by simpa [splice] using hc
  | v :: vs, V :: VS, c, C, off, hc, hv, k => by
    simp only [splice, List.zipIdx_cons, List.foldl_cons]
    have := splice_VRs vs VS (c.set (off + k) v) (C.setIfInBounds (off + k) V) off (by simpa using hc.set (off + k) hv.head) hv.tail (k + 1)
    simpa [Nat.add_assoc] using this
  | [], _ :: _, _, _, _, _, hv, _ => by have := hv.1; simp at this
  | _ :: _, [], _, _, _, _, hv, _ => by have := hv.1; simp at this
theorem fillA_sound {place : Nat → Option (Nat × Nat)} : ∀ (parts : List (Nat × AVal)) (PS : List (Nat × Value)) (c c' : List AVal) (C : Array Value), VRs μ c C.toList → parts.length = PS.length →
    (∀ (i : Nat) (a b : Nat) (x : AVal) (X : Value), parts[i]? = some (a, x) → PS[i]? = some (b, X) → a = b ∧ VR μ x X) → fillA place c parts = some c' →
    ∃ C', Instr.fill place C PS = some C' ∧ VRs μ c' C'.toList
  | [], [], c, c', C, hc, _, _, hf => by simp [fillA] at hf; subst hf; exact ⟨C, rfl, hc⟩
  | (i, x) :: parts, (j, X) :: PS, c, c', C, hc, hl, hp, hf => by
    obtain ⟨hij, hx⟩ := hp 0 i j x X rfl rfl
    subst hij
    simp only [fillA] at hf
    split at hf
    · cases hf
    · rename_i off size hpl
      split at hf
      · cases hf
      · rename_i hcond
        have hne : x ≠ .none := by
          intro hx0; subst hx0
          simp [AVal.isN] at hcond
        have hcells := hx.cells hne
        have hsz : X.cells.size = x.cells.length := by have := hcells.1; simpa using this.symm
        have hcs : C.size = c.length := by have := hc.1; simpa using this.symm
        have h1 := splice_VRs x.cells X.cells.toList c C off hc hcells 0
        obtain ⟨C', hC', hr⟩ := fillA_sound parts PS (splice c off x.cells) c' _ (by simpa using h1) (by simpa using hl) (fun k a b y Y ha hb => hp (k + 1) a b y Y (by simpa using ha) (by simpa using hb)) hf
        refine ⟨C', ?_, hr⟩
        simp only [Instr.fill, hpl]
        rw [if_neg (by rw [hsz, hcs]; simp only [not_or] at hcond; simp only [Bool.or_eq_true, decide_eq_true_eq, not_or]; omega)]
        rw [← hC']
        congr 1
        rw [← Array.foldl_toList]
        simp [Array.toList_zipIdx]
  | [], _ :: _, _, _, _, _, hl, _, _ => by simp at hl
  | _ :: _, [], _, _, _, _, hl, _, _ => by simp at hl
theorem parts_VR {fr : AFrame} {a : Act} (hf : ∀ t, VR μ (fr t) (a.tmps.getD t undef)) (parts : List (Nat × Operand)) :
    ∀ (i : Nat) (p q : Nat) (x : AVal) (X : Value), (parts.map fun (i, x) => (i, ev fr x))[i]? = some (p, x) → (parts.map fun (i, x) => (i, a.eval x))[i]? = some (q, X) → p = q ∧ VR μ x X := by
  intro i p q x X hx hX
  simp only [List.getElem?_map] at hx hX
  cases hp : parts[i]? with
  | none => simp [hp] at hx
  | some y =>
    obtain ⟨j, o⟩ := y
    simp [hp] at hx hX
    obtain ⟨rfl, rfl⟩ := hx
    obtain ⟨rfl, rfl⟩ := hX
    exact ⟨rfl, ev_VR hf o⟩
theorem placesL_sound : ∀ (fs : List Field) (ps : List (Nat × Nat)), placesL P fs = some ps → (fs.mapM fun f => do pure (f.offset, ← sizeOf f.type) : Sem (List (Nat × Nat))).run P w = .ok ps w
  | [], ps, h => by simp [placesL] at h; subst h; simp
  | f :: fs, ps, h => by
    simp only [placesL] at h
    split at h
    · rename_i i r hi hr
      simp at h; subst h
      have := placesL_sound fs r hr
      simp only [List.mapM_cons, Sem.run_bind, run_sizeOf' hi, Result.andThen_ok, Sem.run_pure, this]
    · cases h
theorem buildA_sound {t : TypeId} {parts : List (Nat × AVal)} {PS : Array (Nat × Value)} {v : AVal} (hv : buildA P t parts = some v) (hl : parts.length = PS.size)
    (hp : ∀ (i : Nat) (a b : Nat) (x : AVal) (X : Value), parts[i]? = some (a, x) → PS[i]? = some (b, X) → a = b ∧ VR μ x X) : ∃ V, (Instr.build t PS).run P w = .ok V w ∧ VR μ v V := by
  unfold buildA at hv
  split at hv
  · rename_i z hz
    obtain ⟨Z, hZ, hzr⟩ := zc_inv (μ := μ) hz
    split at hv
    · rename_i ps hps
      unfold plcS at hps
      split at hps
      · rename_i fs hd
        cases hf : fillA (fun i => ps[i]?) z parts with
        | none => simp [hf] at hv
        | some c' =>
          simp [hf] at hv; subst hv
          obtain ⟨C', hC', hr⟩ := fillA_sound parts PS.toList z c' Z.cells hzr (by simpa using hl) (fun i a b x X ha hb => hp i a b x X ha (by simpa using hb)) hf
          refine ⟨.agg C', ?_, VRs.agg hr⟩
          have := placesL_sound (w := w) _ _ hps
          simp only [Instr.build, Sem.run_bind, hZ, Result.andThen_ok, run_underlying' hd, Array.mapM_eq_mapM_toList, Sem.run_map, this, List.getElem?_toArray]
          simp [hC']
      · cases hps
    · split at hv
      · rename_i n q s ha
        obtain ⟨e, d, i, hd, hd', hi', hq⟩ := arT_inv ha
        simp at hq
        obtain ⟨rfl, rfl⟩ := hq
        cases hf : fillA (fun j => some (j * i.size, i.size)) z parts with
        | none => simp [hf] at hv
        | some c' =>
          simp [hf] at hv; subst hv
          obtain ⟨C', hC', hr⟩ := fillA_sound parts PS.toList z c' Z.cells hzr (by simpa using hl) (fun i a b x X ha hb => hp i a b x X ha (by simpa using hb)) hf
          refine ⟨.agg C', ?_, VRs.agg hr⟩
          simp only [Instr.build, Sem.run_bind, hZ, Result.andThen_ok, run_underlying' hd, run_sizeOf' hi', hC']
          simp
      · cases hv
  · cases hv
theorem mpT_inv {t k e : TypeId} (ht : mpT P t = some (k, e)) : P.underlying t = some (.map k e) := by
  unfold mpT at ht
  split at ht
  · rename_i h; simp at ht; obtain ⟨rfl, rfl⟩ := ht; exact h
  · cases ht
theorem keyOk_underlying {d : Nat} {t : TypeId} {x : AVal} (h : keyOk P d t x = true) : ∃ desc, P.underlying t = some desc := by
  cases d with
  | zero => simp [keyOk] at h
  | succ d =>
    unfold keyOk at h
    split at h <;> first | (rename_i hd; exact ⟨_, hd⟩) | (cases h; done)
theorem entriesA_sound (H : HRel P μ h w) {x : AVal} {X : Value} {es : List (AVal × AVal)} (he : entriesA h x = some es) (hx : VR μ x X) :
    (x = .map .none ∧ X = .map .none ∧ es = []) ∨ ∃ r L E, x = .map (some r) ∧ X = .map (some L.blk) ∧ μ.loc r 0 = some L ∧ h[r]? = some ⟨.map es, 0⟩ ∧ w.heap[L.blk]? = some (.map E E.size) ∧ MapR μ es E := by
  unfold entriesA at he
  split at he
  · simp at he; subst he; cases hx; exact .inl ⟨rfl, rfl, rfl⟩
  · rename_i r
    split at he
    · rename_i es' hr
      simp at he; subst he
      cases hx with
      | map _ L hL =>
        obtain ⟨E, c, h1, h2, h3⟩ := H.blk r _ L hr hL
        subst h3
        exact .inr ⟨r, L, E, rfl, rfl, hL, hr, h1, h2⟩
    · cases he
  · cases he
theorem run_getObj {r : Nat} {o : Obj} (ho : w.heap[r]? = some o) (hc : ∀ c e f, o ≠ .cells c e f) : (getObj r).run P w = .ok o w := by
  cases o <;> first | (exact absurd rfl (hc _ _ _)) | simp only [getObj, Sem.run, ho]
theorem lookupA_sound (H : HRel P μ h w) {t : TypeId} {x k : AVal} {X K : Value} {ok : Bool} {v : AVal} (hv : lookupA P h t x k ok = some v) (hx : VR μ x X) (hk : VR μ k K) :
    ∃ V, (Instr.lookup t X K ok).run P w = .ok V w ∧ VR μ v V := by
  unfold lookupA at hv
  split at hv
  · rename_i kt et es ht he
    have hd := mpT_inv ht
    split at hv
    · rename_i hko
      have hck := fun b => keyOk_sound (w := w) eqDepth 10000 b kt k K (by decide) hko hk
      obtain ⟨desc, hdesc⟩ := keyOk_underlying hko
      have fin : ∀ (E : Array MapEntry), MapR μ es E →
          ((Instr.findKey kt K E.toList).run P w = .ok .none w ∧ ∃ z Z, (zeroValue et).run P w = .ok Z w ∧ VR μ z Z ∧ v = (if ok then AVal.tuple [z, .bool false] else z)) ∨
          (∃ i z Z, (Instr.findKey kt K E.toList).run P w = .ok (some (i, Z)) w ∧ VR μ z Z ∧ v = (if ok then AVal.tuple [z, .bool true] else z)) := by
        intro E hE
        cases hf : findA P kt k es with
        | none => simp [hf] at hv
        | some r =>
          have hfk := findKey_sound (w := w) hk hE hdesc hf
          cases r with
          | none =>
            simp only [hf] at hv
            cases hz : zvA P et with
            | none => simp [hz] at hv
            | some z =>
              obtain ⟨Z, hZ, hzr⟩ := zvA_inv (w := w) (μ := μ) hz
              simp [hz] at hv; subst hv
              exact .inl ⟨hfk, z, Z, hZ, hzr, rfl⟩
          | some i =>
            simp only [hf] at hv
            cases hi : es[i]? with
            | none => simp [hi] at hv
            | some p =>
              obtain ⟨k', v'⟩ := p
              simp [hi] at hv; subst hv
              have hlt : i < E.size := by
                rcases Nat.lt_or_ge i es.length with h' | h'
                · exact hE.1 ▸ h'
                · simp [List.getElem?_eq_none h'] at hi
              have hEi : E[i]? = some E[i] := Array.getElem?_eq_getElem hlt
              have := hE.2 i k' v' _ hi hEi
              simp only [Option.bind_some, hEi, Option.map_some] at hfk
              exact .inr ⟨i, v', _, hfk, this.2.1, rfl⟩
      rcases entriesA_sound H he hx with ⟨rfl, rfl, rfl⟩ | ⟨r, L, E, rfl, rfl, hL, hr, hw, hE⟩
      · simp only [Instr.lookup, Sem.run_bind, run_underlying' hd, Result.andThen_ok, Sem.run_pure, hck]
        rcases fin #[] ⟨rfl, fun i k v e h => by simp at h⟩ with ⟨h1, z, Z, hZ, hr, rfl⟩ | ⟨i, z, Z, h1, hr, rfl⟩
        · simp only [h1, hZ, Result.andThen_ok, Sem.run_bind, Sem.run_pure]
          cases ok
          · exact ⟨_, rfl, hr⟩
          · exact ⟨_, rfl, VRs.tuple ((VRs.nil.cons (.bool _)).cons hr)⟩
        · simp only [h1, Result.andThen_ok]
          cases ok
          · exact ⟨_, rfl, hr⟩
          · exact ⟨_, rfl, VRs.tuple ((VRs.nil.cons (.bool _)).cons hr)⟩
      · simp only [Instr.lookup, Sem.run_bind, run_underlying' hd, Result.andThen_ok, Sem.run_pure, run_getObj hw (by simp), hck]
        rcases fin E hE with ⟨h1, z, Z, hZ, hr, rfl⟩ | ⟨i, z, Z, h1, hr, rfl⟩
        · simp only [h1, hZ, Result.andThen_ok, Sem.run_bind, Sem.run_pure]
          cases ok
          · exact ⟨_, rfl, hr⟩
          · exact ⟨_, rfl, VRs.tuple ((VRs.nil.cons (.bool _)).cons hr)⟩
        · simp only [h1, Result.andThen_ok]
          cases ok
          · exact ⟨_, rfl, hr⟩
          · exact ⟨_, rfl, VRs.tuple ((VRs.nil.cons (.bool _)).cons hr)⟩
    · cases hv
  · cases hv
/-- **Every operation that leaves memory as it is.** -/
theorem pure_sound {o : Oper} (H : readsH o.op = true → HRel P μ h w) {fr : AFrame} {a : Act} (hf : ∀ t, VR μ (fr t) (a.tmps.getD t undef)) {v : AVal} (hv : pureA P fr h o.op = some v) (hp : isPure o.op = true) :
    ∃ V, (execOp a.eval o).run P w = .ok (.value V) w ∧ VR μ v V := by
  have lift : ∀ {s : Sem Value}, (∃ V, s.run P w = .ok V w ∧ VR μ v V) → ∃ V, (do pure (Next.value (← s)) : Sem Next).run P w = .ok (.value V) w ∧ VR μ v V := by
    rintro s ⟨V, h1, h2⟩
    exact ⟨V, by simp [h1], h2⟩
  have E := fun x => ev_VR hf x
  have vro : ∀ x : Option Operand, VRo μ (x.map (ev fr)) (x.map a.eval) := by
    intro x; cases x with
    | none => trivial
    | some x => exact E x
  unfold execOp
  cases ho : o.op <;> rw [ho] at hv hp <;> simp only [isPure] at hp <;> (try cases hp) <;> simp only [pureA] at hv ⊢
  case move x => simp at hv; subst hv; exact ⟨_, rfl, E x⟩
  case assign x => simp at hv; subst hv; exact ⟨_, rfl, E x⟩
  case pick c x y =>
    split at hv
    · rename_i t hc
      simp at hv; subst hv
      have hcv := E c
      rw [hc] at hcv
      generalize a.eval c = cv' at hcv ⊢
      cases hcv
      cases t
      · exact ⟨_, by simp [asBool], E y⟩
      · exact ⟨_, by simp [asBool], E x⟩
    · cases hv
  case load t x =>
    split at hv
    · rename_i r hr
      have hx := E x
      rw [hr] at hx
      generalize a.eval x = X at hx ⊢
      cases hx with
      | ptr _ L hL =>
        apply lift
        obtain ⟨V, h1, h2⟩ := loadA_sound (H (by rw [ho]; rfl)) hv hL
        exact ⟨V, by simp [Instr.loadAt, Instr.sureAddr, h1], h2⟩
    · cases hv
  case nilCheck x =>
    split at hv
    · rename_i r hr
      simp at hv; subst hv
      have hx := E x
      rw [hr] at hx
      generalize a.eval x = X at hx ⊢
      cases hx with
      | ptr _ L hL => exact ⟨_, rfl, .ptr r L hL⟩
    · cases hv
  case binOp op t x y yt => exact lift (binA_sound hv (E x) (E y))
  case unOp op t x => exact lift (unA_sound hv (E x))
  case convert s d x => exact lift (convA_sound hv (E x))
  case makeFunc fn first captured =>
    cases fn <;> simp at hv
    subst hv
    have h1 := map_VRs hf first.toList
    have h2 := map_VRs hf captured.toList
    exact ⟨.func (.func _) (first.map a.eval) (captured.map a.eval), by simp [Instr.makeFunc], .fn _ _ _ _ _ (by simp) (by simp) (fun i x y hx hy => h1.2 i x y hx (by simpa using hy)) (fun i x y hx hy => h2.2 i x y hx (by simpa using hy))⟩
  case slice t x lo hi mx =>
    split at hv
    · cases hv
    · rename_i hc
      refine lift (sliceA_sound hv (E x) (vro lo) (vro hi) (vro mx) ?_)
      intro h1 h2
      cases mx <;> cases hi <;> simp_all
  case fieldAddr t x f => exact lift (fieldAddrA_sound hv (E x))
  case field t x f => exact lift (fieldA_sound hv (E x))
  case indexAddr t x i => exact lift (indexAddrA_sound hv (E x) (E i))
  case index t x i => exact lift (indexA_sound hv (E x) (E i))
  case lookup t x i ok => exact lift (lookupA_sound (H (by rw [ho]; rfl)) hv (E x) (E i))
  case extract x i => exact lift (extractA_sound hv (E x))
  case build t parts =>
    refine lift (buildA_sound hv (by simp) ?_)
    intro i a' b x X hx hX
    have := parts_VR hf parts.toList i a' b x X hx
    exact this (by simpa using hX)
end
end Go.AM
/-
  What becomes of the relation between heaps where a block is made, written, or grown.
-/
namespace Go.AM
structure Calm (w w' : World) : Prop where
  os : w'.os = w.os
  tape : w'.tape = w.tape
  output : w'.output = w.output
theorem Calm.rfl {w : World} : Calm w w := ⟨_root_.rfl, _root_.rfl, _root_.rfl⟩
theorem mem_refsL : ∀ {l : List AVal} {x : AVal} {r : Nat × Nat}, x ∈ l → r ∈ x.refs → r ∈ refsL l
  | y :: ys, x, r, hx, hr => by
    simp only [refsL, List.mem_append]
    rcases List.mem_cons.1 hx with rfl | hx
    · exact .inl hr
    · exact .inr (mem_refsL hx hr)
theorem mem_refsL_inv : ∀ {l : List AVal} {r : Nat × Nat}, r ∈ refsL l → ∃ x ∈ l, r ∈ x.refs
  | [], r, h => by simp [refsL] at h
  | y :: ys, r, h => by
    simp only [refsL, List.mem_append] at h
    rcases h with h | h
    · exact ⟨y, by simp, h⟩
    · obtain ⟨x, hx, hr⟩ := mem_refsL_inv h
      exact ⟨x, by simp [hx], hr⟩
theorem bare_refs {x : AVal} (hx : x.bare = true) : x.refs = [] := by
  unfold AVal.bare at hx
  split at hx <;> first | (simp [AVal.refs, refsL]; done) | (cases hx; done)
theorem bare_refsL : ∀ {l : List AVal}, l.all AVal.bare = true → refsL l = []
  | [], _ => rfl
  | x :: xs, h => by simp at h; simp [refsL, bare_refs h.1, bare_refsL (l := xs) (by simpa using h.2)]
section
variable {P : Program} {base : Nat} {μ μ' : Mu} {h : Heap} {w w' : World}
/-- A value that stands for one in the model refers to what has a place. -/
theorem VR.refs_dom {x : AVal} {X : Value} (hx : VR μ x X) (hanon : ∀ b l, μ.anon b = some l → refsL l = []) : ∀ r ∈ x.refs, ∃ L, μ.loc r.1 r.2 = some L := by
  induction hx with
  | ptr r L h => intro q hq; simp [AVal.refs] at hq; subst hq; exact ⟨L, h⟩
  | slice r L n k C h hk hn hc hl =>
    intro q hq
    simp only [AVal.refs] at hq
    rw [if_neg (by omega)] at hq
    simp at hq; subst hq; exact ⟨L, h⟩
  | vals b l h => intro q hq; simp [AVal.refs, hanon b l h] at hq
  | map r L h => intro q hq; simp [AVal.refs] at hq; subst hq; exact ⟨L, h⟩
  | yld l L h => intro q hq; simp [AVal.refs] at hq; subst hq; exact ⟨L, h⟩
  | fn f a b A B ha hb h1 h2 ih1 ih2 =>
    intro q hq
    simp only [AVal.refs, List.mem_append] at hq
    rcases hq with hq | hq
    · obtain ⟨y, hy, hr⟩ := mem_refsL_inv hq
      obtain ⟨i, hi, rfl⟩ := List.mem_iff_getElem.1 hy
      exact ih1 i _ A[i] (List.getElem?_eq_getElem hi) (Array.getElem?_eq_getElem (ha ▸ hi)) q hr
    · obtain ⟨y, hy, hr⟩ := mem_refsL_inv hq
      obtain ⟨i, hi, rfl⟩ := List.mem_iff_getElem.1 hy
      exact ih2 i _ B[i] (List.getElem?_eq_getElem hi) (Array.getElem?_eq_getElem (hb ▸ hi)) q hr
  | agg a A ha h1 ih =>
    intro q hq
    obtain ⟨y, hy, hr⟩ := mem_refsL_inv (by simpa [AVal.refs] using hq)
    obtain ⟨i, hi, rfl⟩ := List.mem_iff_getElem.1 hy
    exact ih i _ A[i] (List.getElem?_eq_getElem hi) (Array.getElem?_eq_getElem (ha ▸ hi)) q hr
  | tuple a A ha h1 ih =>
    intro q hq
    obtain ⟨y, hy, hr⟩ := mem_refsL_inv (by simpa [AVal.refs] using hq)
    obtain ⟨i, hi, rfl⟩ := List.mem_iff_getElem.1 hy
    exact ih i _ A[i] (List.getElem?_eq_getElem hi) (Array.getElem?_eq_getElem (ha ▸ hi)) q hr
  | _ => intro q hq; simp [AVal.refs] at hq
theorem BR.step {b : ABody} {L : Loc} (hb : BR P μ b L w) (hm : μ.le μ') (hw : w'.heap[L.blk]? = w.heap[L.blk]?) : BR P μ' b L w' := by
  cases b with
  | cells c e row ro =>
    obtain ⟨C, T, fz, h1, h2, h3, h4, h5, h6⟩ := hb
    exact ⟨C, T, fz, hw.trans h1, h2, h3, fun i x y hx hy => (h4 i x y hx hy).mono hm, h5, h6⟩
  | map es =>
    obtain ⟨E, c, h1, h2, h3⟩ := hb
    exact ⟨E, c, hw.trans h1, ⟨h2.1, fun i k v e hk he => let ⟨a, b, c⟩ := h2.2 i k v e hk he; ⟨a.mono hm, b.mono hm, c⟩⟩, h3⟩
  | loop l =>
    obtain ⟨l', h1, h2, h3, h4, h5, h6, h7, h8⟩ := hb
    exact ⟨l', hw.trans h1, h2, h3, h4, h5, h6, fun t => (h7 t).mono hm, h8⟩
def Mu.add (μ : Mu) (id v : Nat) (L : Loc) : Mu := { μ with loc := fun i u => if i = id ∧ u = v then some L else μ.loc i u }
theorem Mu.add_le {id v : Nat} {L : Loc} (h0 : μ.loc id v = .none) : μ.le (μ.add id v L) := by
  refine ⟨fun i u M hM => ?_, fun b l hb => hb⟩
  simp only [Mu.add]
  split
  · rename_i hc; obtain ⟨rfl, rfl⟩ := hc; rw [h0] at hM; cases hM
  · exact hM
theorem Mu.add_same {id v : Nat} {L : Loc} : (μ.add id v L).loc id v = some L := by simp [Mu.add]
theorem Mu.add_other {id v i u : Nat} {L : Loc} (hne : ¬ (i = id ∧ u = v)) : (μ.add id v L).loc i u = μ.loc i u := by simp [Mu.add, hne]
theorem HRel.none_of_len (H : HRel P μ h w) {id v : Nat} (hid : h.length ≤ id) : μ.loc id v = .none := by
  cases hc : μ.loc id v with
  | none => rfl
  | some L =>
    obtain ⟨b, hb, _⟩ := H.dom id v L hc
    simp [List.getElem?_eq_none hid] at hb
theorem HRel.none_of_ver (H : HRel P μ h w) {id v : Nat} {b : ABlk} (hb : h[id]? = some b) (hv : b.ver < v) : μ.loc id v = .none := by
  cases hc : μ.loc id v with
  | none => rfl
  | some L =>
    obtain ⟨b', hb', hle, _⟩ := H.dom id v L hc
    rw [hb] at hb'; cases hb'; omega
theorem get_push_inv {b : ABlk} {i : Nat} {c : ABlk} (hc : (h ++ [b])[i]? = some c) : (i < h.length ∧ h[i]? = some c) ∨ (i = h.length ∧ c = b) := by
  rcases Nat.lt_or_ge i h.length with hi | hi
  · rw [List.getElem?_append_left hi] at hc; exact .inl ⟨hi, hc⟩
  · rw [List.getElem?_append_right hi] at hc
    cases hk : i - h.length with
    | zero => rw [hk] at hc; simp at hc; exact .inr ⟨by omega, hc.symm⟩
    | succ k => rw [hk] at hc; simp at hc
theorem lt_of_get {b : ABlk} {i : Nat} (hb : h[i]? = some b) : i < h.length := by
  rcases Nat.lt_or_ge i h.length with hi | hi
  · exact hi
  · simp [List.getElem?_eq_none hi] at hb
/-- Worlds that differ in nothing that a heap of the abstract machine stands on. -/
theorem HRel.world (H : HRel P μ h w) (hw : ∀ k, k < w.heap.size → w'.heap[k]? = w.heap[k]?) (hs : w.heap.size ≤ w'.heap.size) : HRel P μ h w' := by
  refine ⟨fun id v L hL => ?_, fun id b L hb hL => ?_, H.disj, H.cur, fun b l hb => ?_, H.adom⟩
  · obtain ⟨b, h1, h2, h3⟩ := H.dom id v L hL
    exact ⟨b, h1, h2, Nat.lt_of_lt_of_le h3 hs⟩
  · obtain ⟨_, _, _, h3⟩ := H.dom id _ L hL
    exact (H.blk id b L hb hL).step .rfl (hw _ h3)
  · obtain ⟨⟨C, e, fz, h1, h2⟩, h3⟩ := H.anon b l hb
    have hlt : b < w.heap.size := by
      rcases Nat.lt_or_ge b w.heap.size with hi | hi
      · exact hi
      · simp [Array.getElem?_eq_none hi] at h1
    exact ⟨⟨C, e, fz, (hw _ hlt).trans h1, h2⟩, h3⟩
/-- A new block. -/
theorem HRel.push (H : HRel P μ h w) {b : ABlk} (hv : b.ver = 0) {L : Loc} (hc : Calm w w') (hw : ∀ k, k < w.heap.size → w'.heap[k]? = w.heap[k]?) (hL : w.heap.size ≤ L.blk) (hL' : L.blk < w'.heap.size)
    (hbr : BR P (μ.add h.length 0 L) b.body L w') : μ.le (μ.add h.length 0 L) ∧ HRel P (μ.add h.length 0 L) (h ++ [b]) w' ∧ Evo μ h w (μ.add h.length 0 L) (h ++ [b]) w' ∧ Fresh base μ h (μ.add h.length 0 L) := by
  have hs : w.heap.size ≤ w'.heap.size := by omega
  have hle : μ.le (μ.add h.length 0 L) := Mu.add_le (H.none_of_len (Nat.le_refl _))
  have old : ∀ {i v : Nat} {M : Loc}, i < h.length → (μ.add h.length 0 L).loc i v = some M → μ.loc i v = some M := by
    intro i v M hi hM
    rwa [Mu.add_other (by omega)] at hM
  have newL : ∀ {M : Loc}, (μ.add h.length 0 L).loc h.length b.ver = some M → M = L := by
    intro M hM; rw [hv, Mu.add_same] at hM; exact (Option.some.inj hM).symm
  refine ⟨hle, ⟨fun id v M hM => ?_, fun id c M hb hM => ?_, fun i j c d M N hij hc hd hM hN hwr => ?_, fun i v M c hM hc => ?_, fun a l ha => ?_, H.adom⟩, ⟨hs, hc.os, hc.tape, hc.output, fun k hk hn => ⟨hw k hk, ?_⟩, fun _ _ hl => .inl hl⟩, fun id v M hM => ?_⟩
  · by_cases hc : id = h.length ∧ v = 0
    · obtain ⟨rfl, rfl⟩ := hc
      rw [Mu.add_same] at hM; cases hM
      exact ⟨b, by simp, by omega, hL'⟩
    · rw [Mu.add_other hc] at hM
      obtain ⟨b', h1, h2, h3⟩ := H.dom id v M hM
      exact ⟨b', by rw [List.getElem?_append_left (lt_of_get h1)]; exact h1, h2, by omega⟩
  · rcases get_push_inv hb with ⟨hi, hb⟩ | ⟨rfl, rfl⟩
    · have hM := old hi hM
      obtain ⟨_, _, _, h3⟩ := H.dom id _ M hM
      exact (H.blk id c M hb hM).step hle (hw _ h3)
    · rw [newL hM]; exact hbr
  · rcases get_push_inv hc with ⟨hi, hc⟩ | ⟨rfl, rfl⟩ <;> rcases get_push_inv hd with ⟨hj, hd⟩ | ⟨rfl, rfl⟩
    · exact H.disj i j c d M N hij hc hd (old hi hM) (old hj hN) hwr
    · obtain ⟨_, _, _, h3⟩ := H.dom i _ M (old hi hM)
      rw [newL hN]; omega
    · obtain ⟨_, _, _, h3⟩ := H.dom j _ N (old hj hN)
      rw [newL hM]; omega
    · exact absurd rfl hij
  · rcases get_push_inv hc with ⟨hi, hc⟩ | ⟨rfl, rfl⟩
    · obtain ⟨N, hN⟩ := H.cur i v M c (old hi hM) hc
      exact ⟨N, hle.loc _ _ _ hN⟩
    · exact ⟨L, by rw [hv]; exact Mu.add_same⟩
  · obtain ⟨⟨C, e, fz, h1, h2⟩, h3⟩ := H.anon a l ha
    have hlt : a < w.heap.size := by
      rcases Nat.lt_or_ge a w.heap.size with hi | hi
      · exact hi
      · simp [Array.getElem?_eq_none hi] at h1
    refine ⟨⟨C, e, fz, (hw _ hlt).trans h1, h2.mono hle⟩, fun id k M hk hM hwr => ?_⟩
    rcases get_push_inv hk with ⟨hi, hk⟩ | ⟨rfl, rfl⟩
    · exact h3 id k M hk (old hi hM) hwr
    · rw [newL hM]; omega
  · rintro ⟨id, c, M, hc, hM, hwr, rfl⟩
    rcases get_push_inv hc with ⟨hi, hc⟩ | ⟨rfl, rfl⟩
    · exact hn ⟨id, c, M, hc, old hi hM, hwr, rfl⟩
    · rw [newL hM] at hk; omega
  · by_cases hc : id = h.length ∧ v = 0
    · exact .inr (.inl (by omega))
    · rw [Mu.add_other hc] at hM; exact .inl hM
theorem get_set_inv {b : ABlk} {id i : Nat} {c : ABlk} (hc : (h.set id b)[i]? = some c) : (i = id ∧ c = b) ∨ (i ≠ id ∧ h[i]? = some c) := by
  rw [List.getElem?_set] at hc
  split at hc
  · rename_i he
    split at hc
    · cases hc; exact .inl ⟨he.symm, rfl⟩
    · cases hc
  · rename_i he; exact .inr ⟨fun x => he x.symm, hc⟩
/-- A block that is written. -/
theorem HRel.upd (H : HRel P μ h w) {id : Nat} {b b' : ABlk} {L : Loc} (hb : h[id]? = some b) (hL : μ.loc id b.ver = some L) (hwr : b.body.wr = true) (hv : b'.ver = b.ver) (hc : Calm w w')
    (hw : ∀ k, k ≠ L.blk → w'.heap[k]? = w.heap[k]?) (hs : w'.heap.size = w.heap.size) (hbr : BR P μ b'.body L w') : HRel P μ (h.set id b') w' ∧ Evo μ h w μ (h.set id b') w' := by
  have hid := lt_of_get hb
  refine ⟨⟨fun i v M hM => ?_, fun i c M hc hM => ?_, fun i j c d M N hij hc hd hM hN hwr' => ?_, fun i v M c hM hc => ?_, fun a l ha => ?_, H.adom⟩, ⟨by omega, hc.os, hc.tape, hc.output, fun k hk hn => ?_, fun _ _ hl => .inl hl⟩⟩
  · obtain ⟨c, h1, h2, h3⟩ := H.dom i v M hM
    by_cases he : i = id
    · subst he; rw [hb] at h1; cases h1
      exact ⟨b', by simp [hid], by omega, by omega⟩
    · exact ⟨c, by rw [List.getElem?_set_ne (fun x => he x.symm)]; exact h1, h2, by omega⟩
  · rcases get_set_inv hc with ⟨rfl, rfl⟩ | ⟨hne, hc⟩
    · rw [hv, hL] at hM; cases hM; exact hbr
    · exact (H.blk i c M hc hM).step .rfl (hw _ (fun e => H.disj id i b c L M (fun x => hne x.symm) hb hc hL hM hwr e.symm))
  · rcases get_set_inv hc with ⟨rfl, rfl⟩ | ⟨hi, hc'⟩ <;> rcases get_set_inv hd with ⟨rfl, rfl⟩ | ⟨hj, hd'⟩
    · exact absurd rfl hij
    · rw [hv] at hM; exact H.disj _ j b d M N hij hb hd' hM hN hwr
    · rw [hv] at hN; exact H.disj i _ c b M N hij hc' hb hM hN hwr'
    · exact H.disj i j c d M N hij hc' hd' hM hN hwr'
  · rcases get_set_inv hc with ⟨rfl, rfl⟩ | ⟨hi, hc⟩
    · exact ⟨L, by rw [hv]; exact hL⟩
    · exact H.cur i v M c hM hc
  · obtain ⟨⟨C, e, fz, h1, h2⟩, h3⟩ := H.anon a l ha
    refine ⟨⟨C, e, fz, (hw _ (fun x => h3 id b L hb hL hwr x.symm)).trans h1, h2⟩, fun i k M hk hM hwr' => ?_⟩
    rcases get_set_inv hk with ⟨rfl, rfl⟩ | ⟨hi, hk⟩
    · rw [hv] at hM; exact h3 _ b M hb hM hwr
    · exact h3 i k M hk hM hwr'
  · have hkL : k ≠ L.blk := fun e => hn ⟨id, b, L, hb, hL, hwr, e.symm⟩
    refine ⟨hw k hkL, ?_⟩
    rintro ⟨i, c, M, hc, hM, hwr', rfl⟩
    rcases get_set_inv hc with ⟨rfl, rfl⟩ | ⟨hi, hc⟩
    · rw [hv, hL] at hM; cases hM; exact hkL rfl
    · exact hn ⟨i, c, M, hc, hM, hwr', rfl⟩
/-- A block that is grown: a new version, in its place or in another. -/
theorem HRel.grow (H : HRel P μ h w) {id : Nat} {b b' : ABlk} {L : Loc} (hb : h[id]? = some b) (hv : b'.ver = b.ver + 1) (hc : Calm w w') (hs : w.heap.size ≤ w'.heap.size) (hL' : L.blk < w'.heap.size)
    (hpl : (μ.loc id b.ver = some L ∧ b.body.wr = true ∧ ∀ k, k < w.heap.size → k ≠ L.blk → w'.heap[k]? = w.heap[k]?) ∨ (w.heap.size ≤ L.blk ∧ ∀ k, k < w.heap.size → w'.heap[k]? = w.heap[k]?))
    (hbr : BR P (μ.add id (b.ver + 1) L) b'.body L w') (hbase : base ≤ id ∨ ∃ M, μ.loc id b.ver = some M) : μ.le (μ.add id (b.ver + 1) L) ∧ HRel P (μ.add id (b.ver + 1) L) (h.set id b') w' ∧ Evo μ h w (μ.add id (b.ver + 1) L) (h.set id b') w' ∧ Fresh base μ h (μ.add id (b.ver + 1) L) := by
  have hid := lt_of_get hb
  have hle : μ.le (μ.add id (b.ver + 1) L) := Mu.add_le (H.none_of_ver hb (by omega))
  have old : ∀ {i v : Nat} {M : Loc}, i ≠ id → (μ.add id (b.ver + 1) L).loc i v = some M → μ.loc i v = some M := by
    intro i v M hi hM
    rwa [Mu.add_other (by omega)] at hM
  have newL : ∀ {M : Loc}, (μ.add id (b.ver + 1) L).loc id b'.ver = some M → M = L := by
    intro M hM; rw [hv, Mu.add_same] at hM; exact (Option.some.inj hM).symm
  have apart : ∀ {j : Nat} {c : ABlk} {M : Loc}, j ≠ id → h[j]? = some c → μ.loc j c.ver = some M → L.blk ≠ M.blk := by
    intro j c M hj hc hM
    rcases hpl with ⟨hL, hwr, _⟩ | ⟨hL, _⟩
    · exact H.disj id j b c L M (fun x => hj x.symm) hb hc hL hM hwr
    · obtain ⟨_, _, _, h3⟩ := H.dom j _ M hM; omega
  have stay : ∀ k, k < w.heap.size → k ≠ L.blk → w'.heap[k]? = w.heap[k]? := by
    rcases hpl with ⟨_, _, h3⟩ | ⟨_, h3⟩
    · exact h3
    · exact fun k hk _ => h3 k hk
  refine ⟨hle, ⟨fun i v M hM => ?_, fun i c M hc hM => ?_, fun i j c d M N hij hc hd hM hN hwr' => ?_, fun i v M c hM hc => ?_, fun a l ha => ?_, H.adom⟩, ⟨hs, hc.os, hc.tape, hc.output, fun k hk hn => ?_, fun _ _ hl => .inl hl⟩, fun i v M hM => ?_⟩
  · by_cases hcs : i = id ∧ v = b.ver + 1
    · obtain ⟨rfl, rfl⟩ := hcs
      rw [Mu.add_same] at hM; cases hM
      exact ⟨b', by simp [hid], by omega, hL'⟩
    · rw [Mu.add_other hcs] at hM
      obtain ⟨c, h1, h2, h3⟩ := H.dom i v M hM
      by_cases he : i = id
      · subst he; rw [hb] at h1; cases h1
        exact ⟨b', by simp [hid], by omega, by omega⟩
      · exact ⟨c, by rw [List.getElem?_set_ne (fun x => he x.symm)]; exact h1, h2, by omega⟩
  · rcases get_set_inv hc with ⟨rfl, rfl⟩ | ⟨hne, hc⟩
    · rw [newL hM]; exact hbr
    · have hM := old hne hM
      obtain ⟨_, _, _, h3⟩ := H.dom i _ M hM
      exact (H.blk i c M hc hM).step hle (stay _ h3 (fun e => apart hne hc hM e.symm))
  · rcases get_set_inv hc with ⟨rfl, rfl⟩ | ⟨hi, hc'⟩ <;> rcases get_set_inv hd with ⟨rfl, rfl⟩ | ⟨hj, hd'⟩
    · exact absurd rfl hij
    · rw [newL hM]; exact apart hj hd' (old hj hN)
    · rw [newL hN]; exact fun e => apart hi hc' (old hi hM) e.symm
    · exact H.disj i j c d M N hij hc' hd' (old hi hM) (old hj hN) hwr'
  · rcases get_set_inv hc with ⟨rfl, rfl⟩ | ⟨hi, hc⟩
    · exact ⟨L, by rw [hv]; exact Mu.add_same⟩
    · obtain ⟨N, hN⟩ := H.cur i v M c (old hi hM) hc
      exact ⟨N, hle.loc _ _ _ hN⟩
  · obtain ⟨⟨C, e, fz, h1, h2⟩, h3⟩ := H.anon a l ha
    have hlt : a < w.heap.size := by
      rcases Nat.lt_or_ge a w.heap.size with hi | hi
      · exact hi
      · simp [Array.getElem?_eq_none hi] at h1
    have hne : a ≠ L.blk := by
      rcases hpl with ⟨hL, hwr, _⟩ | ⟨hL, _⟩
      · exact fun e => h3 id b L hb hL hwr e.symm
      · omega
    refine ⟨⟨C, e, fz, (stay _ hlt hne).trans h1, h2.mono hle⟩, fun i k M hk hM hwr' => ?_⟩
    rcases get_set_inv hk with ⟨rfl, rfl⟩ | ⟨hi, hk⟩
    · rw [newL hM]; exact fun e => hne e.symm
    · exact h3 i k M hk (old hi hM) hwr'
  · have hkL : k ≠ L.blk := by
      rcases hpl with ⟨hL, hwr, _⟩ | ⟨hL, _⟩
      · exact fun e => hn ⟨id, b, L, hb, hL, hwr, e.symm⟩
      · omega
    refine ⟨stay k hk hkL, ?_⟩
    rintro ⟨i, c, M, hc, hM, hwr', rfl⟩
    rcases get_set_inv hc with ⟨rfl, rfl⟩ | ⟨hi, hc⟩
    · rw [newL hM] at hkL; exact hkL rfl
    · exact hn ⟨i, c, M, hc, old hi hM, hwr', rfl⟩
  · by_cases hcs : i = id ∧ v = b.ver + 1
    · obtain ⟨rfl, rfl⟩ := hcs; exact .inr (.inr ⟨b, hb, by omega, hbase⟩)
    · rw [Mu.add_other hcs] at hM; exact .inl hM
/-- What an operation has made: its value, its heap, in the model's terms. -/
def Fine (P : Program) (base : Nat) (μ : Mu) (h : Heap) (w : World) (v : AVal) (h' : Heap) (V : Value) (w' : World) : Prop :=
  ∃ μ', μ.le μ' ∧ VR μ' v V ∧ HRel P μ' h' w' ∧ Evo μ h w μ' h' w' ∧ Fresh base μ h μ'
theorem Fresh.rfl : Fresh base μ h μ := fun _ _ _ hL => .inl hL
theorem Fine.same (H : HRel P μ h w) {v : AVal} {V : Value} (hv : VR μ v V) : Fine P base μ h w v h V w := ⟨μ, .rfl, hv, H, .rfl, .rfl⟩
end
end Go.AM
