/-
  What slices.Insert does with one number, in terms of the model's memory: in its place where there is room, else in a new row.
-/
import Derived.CallsIn
import Derived.RangeFuncLeaves
import Derived.Laws.Cells
import Derived.Laws.World
set_option linter.unusedSimpArgs false
set_option linter.unusedVariables false
namespace Go.AM
def insV (C:Array Value) (off n i:Nat) (v:Value):List Value:=((C.toList.drop off).take n).take i++v :: ((C.toList.drop off).take n).drop i
def InsF (P:Program) (f:FuncId) (e:TypeId):Prop:=(∃ q,P.info? e=some q∧q.size=1) ∧
  ∀ (b off n c i vb voff vc:Nat) (C VC:Array Value) (T TV:TypeId) (fz fv:Nat × Nat) (v:Value) (w:World),
    i<n→n≤c→c≤9223372036854775807→n<2147483648→vb ≠ b →
    w.heap[b]?=some (.cells C T fz)→off+n≤C.size→(n+1≤c→off+n+1≤C.size) →
    (n+1≤c→∀ j,off≤j→j<off+n+1→¬ (fz.1≤j∧j<fz.2))→(∀ j u,j<n→C[off+j]?=some u→u.oneCell'=true) →
    w.heap[vb]?=some (.cells VC TV fv)→VC[voff]?=some v→v.oneCell'=true→¬ (fv.1≤voff∧voff<fv.2)→¬ (fv.1≤VC.size∧VC.size<fv.2) →
    Calls P f #[.slice (some ⟨b,off,none⟩) n c,.int .i64 (i:Int),.slice (some ⟨vb,voff,none⟩) 1 vc] w fun r w' =>
      (w'.os=w.os∧w'.tape=w.tape∧w'.output=w.output) ∧
      ((n+1≤c∧r=.returned (.slice (some ⟨b,off,none⟩) (n+1) c)∧w'.heap.size=w.heap.size∧(∀ k,k ≠ b→w'.heap[k]?=w.heap[k]?) ∧
          ∃ C',w'.heap[b]?=some (.cells C' T fz)∧C'.size=C.size∧∀ j,j<n+1→C'[off+j]?=(insV C off n i v)[j]?) ∨
       (c<n+1∧∃ G e0,n+1≤G∧G≤9223372036854775807∧r=.returned (.slice (some ⟨w.heap.size,0,none⟩) (n+1) G)∧w'.heap.size=w.heap.size+1∧(∀ k,k<w.heap.size→w'.heap[k]?=w.heap[k]?) ∧
          ∃ C',w'.heap[w.heap.size]?=some (.cells C' e0 (0,0))∧C'.size=G∧∀ j,j<n+1→C'[j]?=(insV C off n i v)[j]?))
end Go.AM
namespace Go.AM
def SrtF (P:Program) (f:FuncId) (e:TypeId):Prop:=(∀ w:World,(Go.sizeOf e).run P w=.ok 1 w) ∧
  ∀ (b off c:Nat) (zs:List Int) (C:Array Value) (T:TypeId) (fz:Nat × Nat) (w:World),
    zs.length<2147483648→w.heap[b]?=some (.cells C T fz)→(∀ j,j<zs.length→C[off+j]?=some (.int .i64 (zs.getD j 0)))→(∀ j,off≤j→j<off+zs.length→¬ (fz.1≤j∧j<fz.2)) →
    Calls P f #[.slice (some ⟨b,off,none⟩) zs.length c] w fun r w' =>
      r=.returned (.tuple #[])∧(w'.os=w.os∧w'.tape=w.tape∧w'.output=w.output)∧w.heap.size≤w'.heap.size∧(∀ k,k<w.heap.size→k ≠ b→w'.heap[k]?=w.heap[k]?) ∧
        ∃ C',w'.heap[b]?=some (.cells C' T fz)∧C'.size=C.size∧∀ j,C'[j]?=if off≤j∧j<off+zs.length∧j<C.size then some (.int .i64 ((zs.mergeSort fun x y=>decide (x≤y)).getD (j-off) 0)) else C[j]?
end Go.AM
namespace Go.AM
def insV2 (C:Array Value) (off n:Nat) (v1 v2:Value):List Value:=v1 :: v2 :: (C.toList.drop off).take (n * 2)
def InsF2 (P:Program) (f:FuncId) (e:TypeId):Prop:=(∃ q,P.info? e=some q∧q.size=2) ∧
  ∀ (b off n c vb voff vc:Nat) (C VC:Array Value) (T TV:TypeId) (fz fv:Nat × Nat) (v1 v2:Value) (w:World),
    0<n→n≤c→c≤9223372036854775807→n<2147483648→vb ≠ b →
    w.heap[b]?=some (.cells C T fz)→off+n * 2≤C.size→(n+1≤c→off+n * 2+2≤C.size) →
    (n+1≤c→∀ j,off≤j→j<off+n * 2+2→¬ (fz.1≤j∧j<fz.2))→(∀ j u,j<n * 2→C[off+j]?=some u→u.oneCell'=true) →
    w.heap[vb]?=some (.cells VC TV fv)→VC[voff]?=some v1→VC[voff+1]?=some v2→v1.oneCell'=true→v2.oneCell'=true→¬ (fv.1≤voff∧voff<fv.2)→¬ (fv.1≤VC.size∧VC.size<fv.2) →
    Calls P f #[.slice (some ⟨b,off,none⟩) n c,.int .i64 0,.slice (some ⟨vb,voff,none⟩) 1 vc] w fun r w' =>
      (w'.os=w.os∧w'.tape=w.tape∧w'.output=w.output) ∧
      ((n+1≤c∧r=.returned (.slice (some ⟨b,off,none⟩) (n+1) c)∧w'.heap.size=w.heap.size∧(∀ k,k ≠ b→w'.heap[k]?=w.heap[k]?) ∧
          ∃ C',w'.heap[b]?=some (.cells C' T fz)∧C'.size=C.size∧∀ j,j<n * 2+2→C'[off+j]?=(insV2 C off n v1 v2)[j]?) ∨
       (c<n+1∧∃ G e0,n+1≤G∧G≤9223372036854775807∧r=.returned (.slice (some ⟨w.heap.size,0,none⟩) (n+1) G)∧w'.heap.size=w.heap.size+1∧(∀ k,k<w.heap.size→w'.heap[k]?=w.heap[k]?) ∧
          ∃ C',w'.heap[w.heap.size]?=some (.cells C' e0 (0,0))∧C'.size=G * 2∧∀ j,j<n * 2+2→C'[j]?=(insV2 C off n v1 v2)[j]?))
end Go.AM
namespace Go.AM
structure ARef where
  id:Nat
  ver:Nat
  off:Nat
  deriving DecidableEq
inductive AVal where
  | bool (b:Bool)
  | int (k:IntKind) (n:Int)
  | str (s:ByteArray)
  | ptr (a:Option ARef)
  | slice (a:Option ARef) (len kcap:Nat)
  | emp
  | vals (l:List AVal)
  | map (r:Option Nat)
  | fn (f:FuncId) (first captured:List AVal)
  | yld (l:Nat)
  | nilFn
  | atl (n:Nat)
  | agg (cs:List AVal)
  | tuple (vs:List AVal)
  | none
abbrev AFrame:=Nat→AVal
structure ALoop where
  state:LoopState
  pending:Option Code
  fr:AFrame
  params:List Tmp
  assign:Code
  body:Code
inductive ABody where
  | cells (c:List AVal) (elem:TypeId) (row ro:Bool)
  | map (es:List (AVal × AVal))
  | loop (l:ALoop)
structure ABlk where
  body:ABody
  ver:Nat
abbrev Heap:=List ABlk
def undefA:AVal:=.tuple []
def cv:Value→Option AVal
  | .bool b=>some (.bool b)
  | .int k n=>some (.int k n)
  | .string s=>some (.str s)
  | .pointer .none=>some (.ptr .none)
  | .slice .none 0 0=>some (.slice .none 0 0)
  | .map .none=>some (.map .none)
  | .nilFunc=>some .nilFn
  | _=>.none
def ev (fr:AFrame):Operand→AVal
  | .tmp t=>fr t
  | .const v=>(cv v).getD .none
  | .global _=>.none
  | .func f=>.fn f [] []
def put (fr:AFrame) (d:Option Tmp) (v:AVal):AFrame :=
  match d with
  | some d=>fun t=>if t=d then v else fr t
  | .none=>fr
def AVal.scalar:AVal→Bool
  | .agg _|.tuple _|.none|.atl _=>false
  | _=>true
def AVal.isN:AVal→Bool
  | .none=>true
  | _=>false
def AVal.cells:AVal→List AVal
  | .agg cs=>cs
  | v=>[v]
section types
variable (P:Program)
def allCv:List Value→Option (List AVal)
  | []=>some []
  | v :: vs=>match cv v,allCv vs with|some a,some as=>some (a :: as)|_,_=>.none
def zc (t:TypeId):Option (List AVal):=match (P.info? t).bind (·.zero) with|some v=>allCv v.cells.toList|.none=>.none
def zvA (t:TypeId):Option AVal:=match (P.info? t).bind (·.zero) with|some (.agg cs)=>(allCv cs.toList).map .agg|some v=>cv v|.none=>.none
def isAggD:TypeDesc→Bool|.struct _|.array _ _=>true|_=>false
def tyA (t:TypeId):Option (Bool × Nat) :=
  match P.underlying t,P.info? t with|some d,some i=>some (isAggD d,i.size)|_,_=>.none
def fld (t:TypeId) (i:Nat):Option (Nat × Bool × Nat) :=
  match P.underlying t with
  | some (.struct fs)=>match fs[i]? with
    | some f=>(tyA P f.type).map fun q=>(f.offset,q)
    | .none=>.none
  | _=>.none
def elS (t:TypeId):Option (TypeId × Nat × List AVal) :=
  match P.underlying t with
  | some (.slice e)=>match P.info? e,zc P e with
    | some i,some z=>if i.bytes≤2 ^ 12∧0<i.size∧z.length=i.size then some (e,i.size,z) else .none
    | _,_=>.none
  | _=>.none
def arT (t:TypeId):Option (Nat × Bool × Nat) :=
  match P.underlying t with
  | some (.array n e)=>(tyA P e).map fun q=>(n,q)
  | _=>.none
def mpT (t:TypeId):Option (TypeId × TypeId):=match P.underlying t with|some (.map k e)=>some (k,e)|_=>.none
def ikT (t:TypeId):Option IntKind:=match P.underlying t with|some (.int k)=>some k|_=>.none
end types
def mkVal (isAgg:Bool) (cs:List AVal):Option AVal :=
  if isAgg then some (.agg cs) else match cs with|[v]=>some v|_=>.none
def ARef.add (r:ARef) (n:Nat):ARef:={ r with off:=r.off+n }
def cellsAt (h:Heap) (id ver:Nat):Option (List AVal) :=
  match h[id]? with
  | some ⟨.cells c _ _ _,v⟩=>if v=ver then some c else .none
  | _=>.none
def loadN (h:Heap) (r:ARef) (n:Nat):Option (List AVal) :=
  match cellsAt h r.id r.ver with
  | some c=>if r.off+n≤c.length then some ((c.drop r.off).take n) else .none
  | .none=>.none
def AVal.bare:AVal→Bool
  | .bool _|.int _ _|.str _|.ptr .none|.slice .none _ _|.emp|.map .none|.nilFn=>true
  | .fn _ [] []=>true
  | _=>false
def splice (c:List AVal) (off:Nat):List AVal→List AVal
  | []=>c
  | v :: vs=>splice (c.set off v) (off+1) vs
def storeN (base:Nat) (h:Heap) (r:ARef) (vs:List AVal):Option Heap :=
  match h[r.id]? with
  | some ⟨.cells c e row false,v⟩ =>
    if v=r.ver∧r.off+vs.length≤c.length∧vs.all AVal.scalar=true∧(base≤r.id ∨ vs.all AVal.bare=true) then
      some (h.set r.id ⟨.cells (splice c r.off vs) e row false,v⟩) else .none
  | _=>.none
def firstN (h:Heap) (size n:Nat):AVal→Option (List AVal)
  | .slice (some r) _ _=>loadN h r (n * size)
  | .slice .none _ _=>if n=0 then some [] else .none
  | .emp=>if n=0 then some [] else .none
  | .vals l=>if n * size≤l.length then some (l.take (n * size)) else .none
  | _=>.none
def lenA (size:Nat):AVal→Option Nat
  | .slice _ n _=>some n
  | .emp=>some 0
  | .vals l=>if size=1 then some l.length else .none
  | _=>.none
section ops
variable (P:Program)
def partQ (q:Bool × Nat) (cs:List AVal) (off:Nat):Option AVal :=
  if q.1 then (if off+q.2≤cs.length then some (.agg ((cs.drop off).take q.2)) else .none) else cs[off]?
def partA (t:TypeId) (cs:List AVal) (off:Nat):Option AVal:=(tyA P t).bind fun q=>partQ q cs off
def nilS:AVal→Option Bool
  | .slice a _ _=>some a.isNone
  | .emp=>some false
  | .vals _=>some false
  | _=>.none
def nilP:AVal→Option Bool
  | .ptr a=>some a.isNone
  | _=>.none
def eqT:Nat→TypeId→AVal→AVal→Option Bool
  | 0,_,_,_=>.none
  | d+1,t,x,y =>
    match P.underlying t,x,y with
    | some .bool,.bool a,.bool b=>some (a == b)
    | some (.int _),.int k a,.int k' b=>if k=k' then some (a == b) else .none
    | some (.struct fs),.agg xs,.agg ys =>
      if P.stoodInHeld t then .none else
      fs.toList.foldr (fun f acc => if f.name = "_" then acc else
        match partA P f.type xs f.offset,partA P f.type ys f.offset with
        | some a,some b=>match eqT d f.type a b with|some true=>acc|r=>r
        | _,_=>.none) (some true)
    | some (.array n e),.agg xs,.agg ys =>
      match tyA P e with
      | .none=>.none
      | some q=>(List.range n).foldr (fun i acc =>
        match partQ q xs (i * q.2),partQ q ys (i * q.2) with
        | some a,some b=>match eqT d e a b with|some true=>acc|r=>r
        | _,_=>.none) (some true)
    | some (.slice _),x,.slice .none _ _=>nilS x
    | some (.pointer _),x,.ptr .none=>nilP x
    | _,_,_=>.none
def intBin (op:BinOp) (k:IntKind) (a b:Int):Option AVal :=
  match op with
  | .add=>some (.int k (k.wrap (a+b)))
  | .sub=>some (.int k (k.wrap (a-b)))
  | .mul=>some (.int k (k.wrap (a * b)))
  | .quo=>if b=0 then .none else some (.int k (k.wrap (a.tdiv b)))
  | .rem=>if b=0 then .none else some (.int k (a.tmod b))
  | .and=>some (.int k (k.wrap ((BitVec.ofInt k.bits a &&& BitVec.ofInt k.bits b).toNat:Int)))
  | .or=>some (.int k (k.wrap ((BitVec.ofInt k.bits a ||| BitVec.ofInt k.bits b).toNat:Int)))
  | .xor=>some (.int k (k.wrap ((BitVec.ofInt k.bits a ^^^ BitVec.ofInt k.bits b).toNat:Int)))
  | .andNot=>some (.int k (k.wrap ((BitVec.ofInt k.bits a &&& ~~~ BitVec.ofInt k.bits b).toNat:Int)))
  | .eql=>some (.bool (a == b))
  | .neq=>some (.bool (a != b))
  | .lss=>some (.bool (decide (a<b)))
  | .leq=>some (.bool (decide (a≤b)))
  | .gtr=>some (.bool (decide (a > b)))
  | .geq=>some (.bool (decide (a ≥ b)))
  | _=>.none
def shiftA (op:BinOp) (k:IntKind) (a b:Int):Option AVal :=
  if b<0 then .none else
  match op with
  | .shl=>some (.int k (k.wrap (a * 2 ^ (min b.toNat k.bits))))
  | .shr=>some (.int k (a.fdiv (2 ^ (min b.toNat k.bits))))
  | _=>.none
def isShift:BinOp→Bool|.shl|.shr=>true|_=>false
def eqDepth:Nat:=6
def binA (op:BinOp) (t:TypeId) (x y:AVal):Option AVal :=
  match x,y with
  | .int .i64 a,.atl b=>match op with|.gtr=>if a≤(b:Int) then some (.bool false) else .none|_=>.none
  | .int k a,.int k' b=>if isShift op then shiftA op k a b else if k=k' then intBin op k a b else .none
  | .bool a,.bool b=>match op with|.eql=>(eqT P eqDepth t (.bool a) (.bool b)).map .bool|.neq=>(eqT P eqDepth t (.bool a) (.bool b)).map fun r=>.bool !r|_=>.none
  | .agg a,.agg b=>if P.eqGuardType P.depth t then .none else match op with|.eql=>(eqT P eqDepth t (.agg a) (.agg b)).map .bool|.neq=>(eqT P eqDepth t (.agg a) (.agg b)).map fun r=>.bool !r|_=>.none
  | x,y=>match op with
    | .eql=>(eqT P eqDepth t x y).map .bool
    | .neq=>(eqT P eqDepth t x y).map fun r=>.bool !r
    | _=>.none
def unA (op:UnOp):AVal→Option AVal
  | .int k n=>match op with|.neg=>some (.int k (k.wrap (0-n)))|.xor=>intBin .xor k (if k.signed then -1 else k.max) n|_=>.none
  | .bool b=>match op with|.not=>some (.bool !b)|_=>.none
  | _=>.none
def boundA (v:AVal) (hi:Nat):Option Nat :=
  match v with
  | .int _ i=>if 0≤i∧i≤hi then some i.toNat else .none
  | _=>.none
def optB (v:Option AVal) (hi dflt:Nat):Option Nat:=match v with|some v=>boundA v hi|.none=>some dflt
def sliceA (t:TypeId) (x:AVal) (lo hi mx:Option AVal):Option AVal :=
  match arT P t with
  | some (n,_,z) =>
    match x,mx with
    | .ptr (some r),.none =>
      match optB hi n n with
      | .none=>.none
      | some h=>match optB lo h 0 with
        | .none=>.none
        | some l=>some (.slice (some (r.add (l * z))) (h-l) (n-l))
    | _,_=>.none
  | .none =>
    match elS P t,x with
    | some (_,z,_),.slice a len kcap =>
      match optB mx kcap kcap with
      | .none=>.none
      | some m=>match optB hi m len with
        | .none=>.none
        | some h=>match optB lo h 0 with
          | .none=>.none
          | some l=>some (.slice (a.map (·.add (l * z))) (h-l) (m-l))
    | some _,.emp =>
      match optB mx 0 0,optB hi 0 0,optB lo 0 0 with|some _,some _,some _=>some .emp|_,_,_=>.none
    | _,_=>.none
def indexAddrA (t:TypeId) (x i:AVal):Option AVal :=
  match i with
  | .int _ i =>
    match arT P t with
    | some (n,_,z)=>match x with
      | .ptr (some r)=>if 0≤i∧i<n then some (.ptr (some (r.add (i.toNat * z)))) else .none
      | _=>.none
    | .none=>match elS P t,x with
      | some (_,z,_),.slice (some r) len _=>if 0≤i∧i<len then some (.ptr (some (r.add (i.toNat * z)))) else .none
      | _,_=>.none
  | _=>.none
def strT (t:TypeId):Bool:=match P.underlying t with|some .string=>true|_=>false
def indexA (t:TypeId) (x i:AVal):Option AVal :=
  match arT P t,x,i with
  | some (n,q),.agg cs,.int _ i=>if 0≤i∧i<n then partQ q cs (i.toNat * q.2) else .none
  | .none,.str s,.int _ i=>if strT P t=true∧0≤i then (s[i.toNat]?).map fun b=>.int .u8 b.toNat else .none
  | _,_,_=>.none
def fieldAddrA (s:TypeId) (x:AVal) (f:Nat):Option AVal :=
  match fld P s f,x with
  | some (off,_,z),.ptr (some r)=>if z=0 then .none else some (.ptr (some (r.add off)))
  | _,_=>.none
def fieldA (s:TypeId) (x:AVal) (f:Nat):Option AVal :=
  match fld P s f,x with
  | some (off,q),.agg cs=>partQ q cs off
  | _,_=>.none
def fillA (place:Nat→Option (Nat × Nat)) (cells:List AVal):List (Nat × AVal)→Option (List AVal)
  | []=>some cells
  | (i,v) :: rest =>
    match place i with
    | .none=>.none
    | some (off,size)=>if v.isN=true ∨ v.cells.length ≠ size ∨ off+size > cells.length then .none else fillA place (splice cells off v.cells) rest
def placesL:List Field→Option (List (Nat × Nat))
  | []=>some []
  | f :: fs=>match P.info? f.type,placesL fs with|some i,some r=>some ((f.offset,i.size) :: r)|_,_=>.none
def plcS (t:TypeId):Option (List (Nat × Nat)):=match P.underlying t with|some (.struct fs)=>placesL P fs.toList|_=>.none
def buildA (t:TypeId) (parts:List (Nat × AVal)):Option AVal :=
  match zc P t with
  | some z=>match plcS P t with
    | some ps=>(fillA (fun i=>ps[i]?) z parts).map .agg
    | .none=>match arT P t with
      | some (_,_,s)=>(fillA (fun i=>some (i * s,s)) z parts).map .agg
      | .none=>.none
  | .none=>.none
def repCells (z:List AVal):Nat→List AVal
  | 0=>[]
  | n+1=>z++repCells z n
def convA (dst:TypeId) (src:TypeId) (x:AVal):Option AVal :=
  match P.underlying src,ikT P dst,x with
  | some _,some k,.int _ n=>some (.int k (k.wrap n))
  | _,_,_=>.none
def extractA (x:AVal) (i:Nat):Option AVal:=match x with|.tuple vs=>vs[i]?|_=>.none
def entriesA (h:Heap):AVal→Option (List (AVal × AVal))
  | .map .none=>some []
  | .map (some r)=>match h[r]? with|some ⟨.map es,0⟩=>some es|_=>.none
  | _=>.none
def findA (kt:TypeId) (key:AVal):List (AVal × AVal)→Option (Option Nat)
  | []=>some .none
  | (k,_) :: es=>match eqT P eqDepth kt key k with
    | some true=>some (some 0)
    | some false=>(findA kt key es).map (·.map (·+1))
    | .none=>.none
def keyOk:Nat→TypeId→AVal→Bool
  | 0,_,_=>false
  | d+1,t,x=>match P.underlying t,x with
    | some .bool,_|some (.int _),_=>true
    | some (.struct fs), .agg xs => fs.toList.all fun f => f.name = "_" || (match partA P f.type xs f.offset with | some a => keyOk d f.type a | .none => false)
    | some (.array n e),.agg xs=>match tyA P e with
      | .none=>false
      | some q=>(List.range n).all fun i=>(match partQ q xs (i * q.2) with|some a=>keyOk d e a|.none=>false)
    | _,_=>false
def lookupA (h:Heap) (t:TypeId) (x key:AVal) (ok:Bool):Option AVal :=
  match mpT P t,entriesA h x with
  | some (kt,et),some es =>
    if keyOk P eqDepth kt key then
      match findA P kt key es with
      | some (some i)=>match es[i]? with|some (_,v)=>some (if ok then .tuple [v,.bool true] else v)|.none=>.none
      | some .none=>match zvA P et with
        | some v=>some (if ok then .tuple [v,.bool false] else v)
        | .none=>.none
      | .none=>.none
    else .none
  | _,_=>.none
def loadA (h:Heap) (t:TypeId) (r:ARef):Option AVal :=
  match tyA P t with
  | some (q,z)=>(loadN h r (if q then z else 1)).bind (mkVal q)
  | .none=>.none
def pureA (fr:AFrame) (h:Heap):Op→Option AVal
  | .move x|.assign x=>some (ev fr x)
  | .pick c a b=>match ev fr c with|.bool t=>some (if t then ev fr a else ev fr b)|_=>.none
  | .load t a=>match ev fr a with
    | .ptr (some r)=>loadA P h t r
    | _=>.none
  | .nilCheck x=>match ev fr x with|.ptr (some r)=>some (.ptr (some r))|_=>.none
  | .binOp op t x y _=>binA P op t (ev fr x) (ev fr y)
  | .unOp op _ x=>unA op (ev fr x)
  | .convert s d x=>convA P d s (ev fr x)
  | .makeFunc (.func f) first captured=>some (.fn f (first.toList.map (ev fr)) (captured.toList.map (ev fr)))
  | .slice t x lo hi mx=>if (mx.isSome && hi.isNone)=true then .none else sliceA P t (ev fr x) (lo.map (ev fr)) (hi.map (ev fr)) (mx.map (ev fr))
  | .fieldAddr s x f=>fieldAddrA P s (ev fr x) f
  | .field s x f=>fieldA P s (ev fr x) f
  | .indexAddr t x i=>indexAddrA P t (ev fr x) (ev fr i)
  | .index t x i=>indexA P t (ev fr x) (ev fr i)
  | .lookup t x i ok=>lookupA P h t (ev fr x) (ev fr i) ok
  | .extract x i=>extractA (ev fr x) i
  | .build t parts=>buildA P t (parts.toList.map fun (i,x)=>(i,ev fr x))
  | _=>.none
def isPure:Op→Bool
  | .move _|.assign _|.pick ..|.load ..|.nilCheck _|.binOp ..|.unOp ..|.convert ..|.makeFunc ..|.slice ..|.fieldAddr ..
  | .field ..|.indexAddr ..|.index ..|.lookup ..|.extract ..|.build ..=>true
  | _=>false
open Classical in
noncomputable def mapUpdateA (base:Nat) (h:Heap) (t:TypeId) (m key val:AVal):Option Heap :=
  match mpT P t,m with
  | some (kt,_),.map (some r)=>match h[r]? with
    | some ⟨.map es,0⟩ =>
      if keyOk P eqDepth kt key=true∧(base≤r ∨ key.bare=true∧val.bare=true) then
        match findA P kt key es with
        | some (some i)=>if (es[i]?).map (·.1)=some key then some (h.set r ⟨.map (es.set i (key,val)),0⟩) else .none
        | some .none=>some (h.set r ⟨.map (es++[(key,val)]),0⟩)
        | .none=>.none
      else .none
    | _=>.none
  | _,_=>.none
def rowOf (t:TypeId) (n:Nat) (parts:List (Nat × AVal)):Option (TypeId × Nat × List AVal) :=
  match elS P t with
  | some (e,z,zs)=>if n * z > 2 ^ 24 then .none else
    match fillA (fun i=>some (i * z,z)) (repCells zs n) parts with
    | some cs=>some (e,z,cs)
    | .none=>.none
  | .none=>.none
def makeSliceA (h:Heap) (t:TypeId) (len cap:AVal):Option (AVal × Heap) :=
  match elS P t,len,cap with
  | some (e,_,zs),.int .i64 l,.int .i64 c =>
    if 0≤l∧l≤c∧c<2 ^ 32 then
      if c=0 then some (.emp,h) else some (.slice (some ⟨h.length,0,0⟩) l.toNat c.toNat,h++[⟨.cells (repCells zs c.toNat) e true false,0⟩])
    else .none
  | _,_,_=>.none
def appendA (base:Nat) (h:Heap) (t:TypeId) (s x:AVal):Option (AVal × Heap) :=
  match elS P t with
  | .none=>.none
  | some (e,z,_) =>
    match lenA z x with
    | .none=>.none
    | some n =>
      match firstN h z n x with
      | .none=>.none
      | some new =>
        if new.all AVal.scalar=true then
          match s with
          | .slice .none _ _=>if n=0 then some (.slice .none 0 0,h) else if n<2 ^ 31 then
              some (.slice (some ⟨h.length,0,0⟩) n n,h++[⟨.cells new e true false,0⟩]) else .none
          | .emp=>if n=0 then some (.emp,h) else if n<2 ^ 31 then
              some (.slice (some ⟨h.length,0,0⟩) n n,h++[⟨.cells new e true false,0⟩]) else .none
          | .slice (some r) len kcap =>
            if len+n≤kcap then
              match storeN base h (r.add (len * z)) new with
              | some h'=>some (.slice (some r) (len+n) kcap,h')
              | .none=>.none
            else match h[r.id]? with
              | some ⟨.cells c e' true false,v⟩ =>
                if v=r.ver∧r.off=0∧kcap * z=c.length∧e'=e∧len+n<2 ^ 31∧0<kcap∧(base≤r.id ∨ new.all AVal.bare=true) then
                  some (.slice (some ⟨r.id,v+1,0⟩) (len+n) (len+n),h.set r.id ⟨.cells (c.take (len * z)++new) e' true false,v+1⟩)
                else .none
              | _=>.none
          | _=>.none
        else .none
def copyA (base:Nat) (h:Heap) (t:TypeId) (d s:AVal):Option (AVal × Heap) :=
  match elS P t,d with
  | some (_,z,_),.slice a dlen _ =>
    match lenA z s with
    | .none=>.none
    | some n=>match firstN h z (min n dlen) s with
      | .none=>.none
      | some cs=>match a with
        | .none=>some (.int .i64 0,h)
        | some r=>match storeN base h r cs with
          | some h'=>some (.int .i64 (min n dlen:Nat),h')
          | .none=>.none
  | _,_=>.none
def clearA (base:Nat) (h:Heap) (t:TypeId) (x:AVal):Option (AVal × Heap) :=
  match elS P t,x with
  | some _,.slice .none _ _=>some (.tuple [],h)
  | some _,.slice (some _) 0 _=>some (.tuple [],h)
  | some _,.emp=>some (.tuple [],h)
  | some (_,_,zs),.slice (some r) (n+1) _=>match storeN base h r (repCells zs (n+1)) with
    | some h'=>some (.tuple [],h')
    | .none=>.none
  | _,_=>.none
def lenOpA (h:Heap) (t:TypeId) (x:AVal):Option AVal :=
  match elS P t with
  | some (_,z,_)=>(lenA z x).map fun n=>.int .i64 n
  | .none=>match arT P t with
    | some (n,_)=>some (.int .i64 n)
    | .none=>match mpT P t with
      | some _=>(entriesA h x).map fun es=>.int .i64 es.length
      | .none=>.none
def minmax (big:Bool):AVal→List AVal→Option AVal
  | x,[]=>some x
  | .int k x,.int _ y :: rest=>minmax big (.int k (if big then (if y > x then y else x) else (if y<x then y else x))) rest
  | _,_=>.none
def capA (t:TypeId) (x:AVal):Option AVal :=
  match elS P t with
  | some _=>match x with
    | .slice _ _ k=>some (.atl k)
    | .emp=>some (.atl 0)
    | _=>.none
  | .none=>.none
def builtinA (base:Nat) (h:Heap) (b:Builtin) (ts:List TypeId) (args:List AVal):Option (AVal × Heap) :=
  match b,ts,args with
  | .len,t :: _,[x]=>(lenOpA P h t x).map fun v=>(v,h)
  | .append,[t,t'],[s,x]=>if (elS P t').isNone then .none else appendA P base h t s x
  | .copy,t :: _,[d,s]=>copyA P base h t d s
  | .clear,t :: _,[x]=>clearA P base h t x
  | .min,_,x :: xs=>(minmax false x xs).map fun v=>(v,h)
  | .max,_,x :: xs=>(minmax true x xs).map fun v=>(v,h)
  | .cap,t :: _,[x]=>(capA P t x).map fun v=>(v,h)
  | _,_,_=>.none
noncomputable def memA (base:Nat) (lit:Bool) (fr:AFrame) (h:Heap):Op→Option (AVal × Heap)
  | .alloc t=>(zc P t).map fun z=>(.ptr (some ⟨h.length,0,0⟩),h++[⟨.cells z t false false,0⟩])
  | .box t x=>if (ev fr x).isN=true then .none else some (.ptr (some ⟨h.length,0,0⟩),h++[⟨.cells (ev fr x).cells t false false,0⟩])
  | .buildSlice t n parts=>match rowOf P t n (parts.toList.map fun (i,x)=>(i,ev fr x)) with
    | some (e,z,cs) =>
      if n=0 then some (.emp,h) else
      if lit=true∧z=1∧cs.all AVal.bare=true then some (.vals cs,h) else
      some (.slice (some ⟨h.length,0,0⟩) n n,h++[⟨.cells cs e true false,0⟩])
    | .none=>.none
  | .store t a x=>match ev fr a with
    | .ptr (some r)=>if (tyA P t).map (·.2)=some (ev fr x).cells.length then (storeN base h r (ev fr x).cells).map fun h'=>(undefA,h') else .none
    | _=>.none
  | .makeSlice t l c=>makeSliceA P h t (ev fr l) (ev fr c)
  | .makeMap t .none=>(mpT P t).map fun _=>(.map (some h.length),h++[⟨.map [],0⟩])
  | .mapUpdate t m k x|.insert t m k x=>(mapUpdateA P base h t (ev fr m) (ev fr k) (ev fr x)).map fun h'=>(undefA,h')
  | _=>.none
end ops
mutual
def AVal.refs:AVal→List (Nat × Nat)
  | .ptr (some r)=>[(r.id,r.ver)]
  | .slice (some r) _ k=>if k=0 then [] else [(r.id,r.ver)]
  | .map (some r)=>[(r,0)]
  | .yld l=>[(l,0)]
  | .fn _ a b=>refsL a++refsL b
  | .agg cs=>refsL cs
  | .tuple cs=>refsL cs
  | .vals cs=>refsL cs
  | _=>[]
def refsL:List AVal→List (Nat × Nat)
  | []=>[]
  | v :: vs=>v.refs++refsL vs
end
mutual
def AVal.ren (f:Nat→Nat→Nat × Nat):AVal→AVal
  | .ptr (some r)=>.ptr (some ⟨(f r.id r.ver).1,(f r.id r.ver).2,r.off⟩)
  | .slice (some r) n c=>.slice (some ⟨(f r.id r.ver).1,(f r.id r.ver).2,r.off⟩) n c
  | .map (some r)=>.map (some (f r 0).1)
  | .yld l=>.yld (f l 0).1
  | .fn g a b=>.fn g (renL f a) (renL f b)
  | .agg cs=>.agg (renL f cs)
  | .tuple cs=>.tuple (renL f cs)
  | .vals _=>.none
  | .bool b=>.bool b
  | .int k n=>.int k n
  | .str s=>.str s
  | .ptr .none=>.ptr .none
  | .slice .none n c=>.slice .none n c
  | .emp=>.emp
  | .map .none=>.map .none
  | .nilFn=>.nilFn
  | .atl n=>.atl n
  | .none=>.none
def renL (f:Nat→Nat→Nat × Nat):List AVal→List AVal
  | []=>[]
  | v :: vs=>v.ren f :: renL f vs
end
def ABody.refs:ABody→List (Nat × Nat)
  | .cells c _ _ _=>refsL c
  | .map es=>refsL (es.map (·.1))++refsL (es.map (·.2))
  | .loop _=>[]
def ABody.isLoop:ABody→Bool
  | .loop _=>true
  | _=>false
def ABody.ren (f:Nat→Nat→Nat × Nat):ABody→ABody
  | .cells c e row ro=>.cells (renL f c) e row ro
  | .map es=>.map (es.map fun (k,v)=>(k.ren f,v.ren f))
  | .loop l=>.loop l
def reach (h:Heap) (base:Nat):Nat→List Nat→List Nat→List Nat
  | 0,_,seen=>seen
  | _+1,[],seen=>seen
  | n+1,i :: todo,seen =>
    if i<base ∨ seen.contains i=true then reach h base n todo seen
    else reach h base n (((h[i]?).map fun b=>b.body.refs.map (·.1)).getD []++todo) (seen++[i])
def newId (base:Nat) (ids:List Nat) (id ver:Nat):Nat × Nat:=if id<base then (id,ver) else (base+ids.idxOf id,0)
def keptRef (h:Heap) (base:Nat) (ids:List Nat) (r:Nat × Nat):Bool :=
  decide (r.1<base) || (ids.contains r.1 && ((h[r.1]?).map (·.ver) == some r.2))
def compactBy (ids:List Nat) (base:Nat) (v:AVal) (h:Heap):Option (AVal × Heap) :=
  if v.refs.all (keptRef h base ids)=true∧base≤h.length∧ids.Nodup∧ids.all (fun i=>decide (base≤i) &&
      match h[i]? with|some b=>!b.body.isLoop && b.body.refs.all (keptRef h base ids)|.none=>false)=true then
    some (v.ren (newId base ids),h.take base++ids.map fun i=>match h[i]? with|some b=>⟨b.body.ren (newId base ids),0⟩|.none=>⟨.map [],0⟩)
  else .none
def compact (base:Nat) (v:AVal) (h:Heap):Option (AVal × Heap) :=
  compactBy (reach h base 64 (v.refs.map (·.1)) []) base v h
structure St where
  fr:AFrame
  h:Heap
inductive AExit where
  | normal
  | exit (id:Nat)
  | ret
def guardA (ops:Array Oper) (fr:AFrame) (g:Option (Nat × Bool)):Option Bool :=
  match g with
  | .none=>some true
  | some (j,want)=>match (ops[j]?).bind (·.dst) with
    | some d=>match fr d with|.bool b=>some (b == want)|.tuple _=>some false|_=>.none
    | .none=>.none
def litIn (ops:List Oper) (d:Option Tmp):Bool :=
  match d with
  | .none=>false
  | some d=>ops.any fun o=>match o.op with
    | .call c=>(match c.callee,c.args.toList with|.builtin .append,[_,.tmp t]=>t == d|_,_=>false)
    | _=>false
abbrev Caller:=Nat→AVal→List AVal→Heap→Option (AVal × Heap)
def isE:Op→Bool
  | .store ..|.mapUpdate ..|.insert ..=>true
  | .call c=>(match c.callee with|.builtin .append|.builtin .copy|.builtin .clear=>true|_=>false)
  | _=>false
def isD:Op→Bool
  | .call c=>(match c.callee with|.builtin .append|.builtin .copy|.builtin .clear=>false|_=>true)
  | _=>false
def isV:Op→Bool
  | .call c=>(match c.callee with|.value _=>true|_=>false)
  | _=>false
def isEw (wd:Bool) (o:Op):Bool:=isE o || (wd && isV o)
def isDw (wd:Bool) (o:Op):Bool:=isD o && !(wd && isV o)
def readsH:Op→Bool
  | .load ..|.lookup ..=>true
  | _=>false
noncomputable def effA (P:Program) (call:Caller) (base:Nat) (lit:Bool) (fr:AFrame) (h:Heap):Op→Option (AVal × Heap)
  | .call c=>(match c.callee with
    | .builtin b=>builtinA P base h b c.argTypes.toList (c.args.toList.map (ev fr))
    | .value g=>call base (ev fr g) (c.args.toList.map (ev fr)) h
    | .invoke _ _=>.none)
  | op=>memA P base lit fr h op
open Classical in
noncomputable def stepOp (P:Program) (call:Caller) (base:Nat) (ops:Array Oper) (chk:Bool) (o:Oper) (s:St):Option St :=
  match guardA ops s.fr o.guard with
  | some true =>
    if isPure o.op=true then
      match pureA P s.fr s.h o.op with
      | some v=>some ⟨put s.fr o.dst v,s.h⟩
      | .none=>.none
    else
      match effA P call base (litIn ops.toList o.dst) s.fr s.h o.op with
      | some (v,h')=>if chk=true∧isD o.op=true∧¬ (∃ t,h'=s.h++t) then .none else some ⟨put s.fr o.dst v,h'⟩
      | .none=>.none
  | some false=>some ⟨put s.fr o.dst undefA,s.h⟩
  | .none=>.none
noncomputable def evOps (P:Program) (call:Caller) (base:Nat) (ops:Array Oper) (chk:Bool):List Oper→St→Option St
  | [],s=>some s
  | o :: rest,s=>match stepOp P call base ops chk o s with
    | some s'=>evOps P call base ops chk rest s'
    | .none=>.none
noncomputable def trOps (P:Program) (call:Caller) (base:Nat) (ops:Array Oper) (chk:Bool):List Oper→St→List St
  | [],s=>[s]
  | o :: rest,s=>s :: (match stepOp P call base ops chk o s with
    | some s'=>trOps P call base ops chk rest s'
    | .none=>[])
def befores (ops:Array Oper) (j i:Nat):Bool:=((Region.before ops).getD j 0).testBit i
def looseL (wd:Bool) (ops:Array Oper):List Nat :=
  (List.range ops.size).filter fun l=>readsH (ops.getD l default).op && (List.range ops.size).any fun m=>isEw wd (ops.getD m default).op && !(befores ops l m) && !(befores ops m l)
def LooseOk (P:Program) (call:Caller) (base:Nat) (wd:Bool) (ops:Array Oper) (s:St):Prop :=
  ∀ l ∈ looseL wd ops,∃ o x v,ops[l]?=some o∧(trOps P call base ops (!wd) ops.toList s)[l]?=some x∧(guardA ops x.fr o.guard=some true→(∀ j y,(trOps P call base ops (!wd) ops.toList s)[j]?=some y→(∀ m,m<ops.size→isEw wd (ops.getD m default).op=true→befores ops m l=true→j≤m)→pureA P x.fr y.h o.op=some v) ∧
    v.refs.all (fun r=>decide (r.1<s.h.length))=true)
def tmpLt (nt:Nat):Option Tmp→Bool
  | some d=>decide (d<nt)
  | .none=>true
def tmpsOf (xs:List Operand):List Tmp:=xs.filterMap fun|.tmp t=>some t|_=>.none
def usesOf (ops:Array Oper) (o:Oper):List Tmp :=
  tmpsOf o.op.operands.toList++(match o.guard with|some (j,_)=>((ops[j]?).bind (·.dst)).toList|.none=>[])
def quietB (P:Program):Op→Bool
  | .call c=>(match c.callee,c.argTypes.toList with
    | .builtin .len,t :: _=>(elS P t).isSome
    | .builtin .min,_=>true
    | .builtin .max,_=>true
    | _,_=>false)
  | _=>false
def pairOk (q:Op→Bool) (wd:Bool) (ops:Array Oper) (i j:Nat):Bool :=
  let o:=ops.getD i default
  let p:=ops.getD j default
  befores ops j i ||
    ((match o.dst with|some t=>p.dst != some t && !(usesOf ops p).contains t|.none=>true) &&
     (match p.dst with|some t=>!(usesOf ops o).contains t|.none=>true) &&
     (!isEw wd o.op || (!isEw wd p.op && (!isDw wd p.op || q p.op))) &&
     (!isEw wd p.op || isPure o.op || q o.op))
def drawOk (q:Op→Bool) (wd:Bool) (ops:Array Oper):Bool :=
  (List.range ops.size).all fun j =>
    ((List.range j).all fun i=>pairOk q wd ops i j) &&
    ((ops.getD j default).after.all fun e=>!Region.binds .any e || decide (e.on<j))
def DrawSafe (P:Program) (call:Caller) (base:Nat) (ops:Array Oper) (s:St):Prop :=
  (drawOk (quietB P) false ops=true∧LooseOk P call base false ops s∧∃ s',evOps P call base ops true ops.toList s=some s') ∨ (drawOk (quietB P) true ops=true∧LooseOk P call base true ops s)
def okS (rng:Bool) (nt:Nat):Code→Bool
  | .region _ ops draw=>(ops.all fun o=>tmpLt nt o.dst) && (!draw || draw)
  | .seq a b=>okS rng nt a && okS rng nt b
  | .cond _ a b=>okS rng nt a && okS rng nt b
  | .block _ b=>okS rng nt b
  | .loop b=>okS rng nt b
  | .scope b=>okS rng nt b
  | .rangeFunc _ ps assign body=>rng && (ps.all fun t=>decide (t<nt)) && okS false nt assign && okS false nt body
  | _=>true
def argFr (args:List AVal):AFrame:=fun t=>(args[t]?).getD undefA
def resultA (P:Program) (fr:AFrame) (h:Heap):ResultVar→Option AVal
  | .tmp t=>some (fr t)
  | .cell a t=>match fr a with
    | .ptr (some r)=>loadA P h t r
    | _=>.none
def resultsL (P:Program) (fr:AFrame) (h:Heap):List ResultVar→Option (List AVal)
  | []=>some []
  | r :: rs=>match resultA P fr h r,resultsL P fr h rs with|some v,some vs=>some (v :: vs)|_,_=>.none
def resultsA (P:Program) (fn:Func) (fr:AFrame) (h:Heap):Option AVal :=
  match resultsL P fr h fn.results.toList with
  | some [v]=>some v
  | some vs=>some (.tuple vs)
  | .none=>.none
def putAll (fr:AFrame):List Tmp→List AVal→AFrame
  | t :: ts,v :: vs=>putAll (put fr (some t) v) ts vs
  | _,_=>fr
def jumpOf:AExit→Option Code
  | .normal=>.none
  | .exit id=>some (.exit id)
  | .ret=>some .ret
def OvlF (P : Program) (fn : Func) : Prop := (fn.name == "runtime.NumGoroutine") = false ∧ Extern.findNext fn = .none ∧
  ∃ t t' e i,Extern.find fn=some (Extern.SlicesOverlaps.overlaps #[t,t] #[t'])∧P.underlying t=some (.slice e)∧P.info? e=some i
def offOk (h:Heap) (a:ARef):Bool:=match h[a.id]? with|some ⟨.cells c _ _ false,v⟩=>v == a.ver && decide (a.off<c.length)|_=>false
open Classical in
noncomputable def ovlA (P:Program) (fn:Func) (args:List AVal) (h:Heap):Option (AVal × Heap) :=
  match args with
  | [.slice (some a) _ ka,.slice (some b) _ kb] =>
    if OvlF P fn∧a.id ≠ b.id∧0<ka∧0<kb∧offOk h a=true∧offOk h b=true then some (.bool false,h) else .none
  | _=>.none
def insQ (fn:Func) (args:List AVal):Bool:=(fn.params.size == 3 && fn.ntmps == 95) && match args with
  | [.slice (some _) n k,.int .i64 i,.slice (some _) m _]=>decide (k=n) && (decide (0≤i) && (decide (i<(n:Int)) && decide (m=1)))
  | _=>false
def srtQ (fn:Func) (args:List AVal):Bool:=(fn.params.size == 1 && (fn.ntmps == 11 && fn.results.size == 0)) && match args with
  | [.slice (some _) n k]=>decide (k=n)
  | _=>false
def xtrQ (fn:Func):Bool:=(fn.params.size == 3 && fn.ntmps == 95) || (fn.params.size == 1 && (fn.ntmps == 11 && fn.results.size == 0))
def intsOf:List AVal→Option (List Int)
  | []=>some []
  | .int .i64 n :: l=>(intsOf l).map (n :: ·)
  | _=>.none
def bodyA (fn:Func) (args:List AVal):Option Code:=if (insQ fn args || srtQ fn args)=true then .none else fn.body
open Classical in
noncomputable def insA (P:Program) (base:Nat) (f:FuncId) (fn:Func) (args:List AVal) (h:Heap):Option (AVal × Heap) :=
  match args with
  | [.slice (some r) n _,.int .i64 i,.slice (some r2) _ _] =>
    match h[r.id]?,h[r2.id]? with
    | some ⟨.cells c e true false,v⟩,some ⟨.cells [x] _ _ false,v2⟩ =>
      if InsF P f e∧fn.body.isSome=true∧r=⟨r.id,v,0⟩∧n=c.length∧r2=⟨r2.id,v2,0⟩∧r.id ≠ r2.id∧base≤r.id∧n<2147483647∧(x :: c).all AVal.scalar=true then
        some (.slice (some ⟨r.id,v+1,0⟩) (n+1) (n+1),h.set r.id ⟨.cells (c.take i.toNat++x :: c.drop i.toNat) e true false,v+1⟩)
      else .none
    | _,_=>.none
  | _=>.none
open Classical in
noncomputable def ins2A (P:Program) (base:Nat) (f:FuncId) (fn:Func) (args:List AVal) (h:Heap):Option (AVal × Heap) :=
  match args with
  | [.slice (some r) n _,.int .i64 i,.slice (some r2) _ _] =>
    match h[r.id]?,h[r2.id]? with
    | some ⟨.cells c e true false,v⟩,some ⟨.cells [x,y] _ _ false,v2⟩ =>
      if InsF2 P f e∧fn.body.isSome=true∧r=⟨r.id,v,0⟩∧c.length=n * 2∧r2=⟨r2.id,v2,0⟩∧r.id ≠ r2.id∧base≤r.id∧n<2147483647∧i=0∧(x :: y :: c).all AVal.scalar=true then
        some (.slice (some ⟨r.id,v+1,0⟩) (n+1) (n+1),h.set r.id ⟨.cells (x :: y :: c) e true false,v+1⟩)
      else .none
    | _,_=>.none
  | _=>.none
noncomputable def insB (P:Program) (base:Nat) (f:FuncId) (fn:Func) (args:List AVal) (h:Heap):Option (AVal × Heap) :=
  match insA P base f fn args h with
  | some r=>some r
  | .none=>ins2A P base f fn args h
open Classical in
noncomputable def srtA (P:Program) (f:FuncId) (fn:Func) (args:List AVal) (h:Heap):Option (AVal × Heap) :=
  match args with
  | [.slice (some r) n _] =>
    match h[r.id]? with
    | some ⟨.cells c e row false,v⟩ =>
      match intsOf c with
      | some zs =>
        if (∃ e,SrtF P f e)∧fn.body.isSome=true∧r=⟨r.id,v,0⟩∧n=zs.length∧n<2147483648∧0<n then
          some (.tuple [],h.set r.id ⟨.cells ((zs.mergeSort fun x y=>decide (x≤y)).map fun z=>.int .i64 z) e row false,v⟩)
        else .none
      | .none=>.none
    | _=>.none
  | _=>.none
noncomputable def extA (P:Program) (base:Nat) (f:FuncId) (fn:Func) (args:List AVal) (h:Heap):Option (AVal × Heap) :=
  if insQ fn args=true then insB P base f fn args h else if srtQ fn args=true then srtA P f fn args h else ovlA P fn args h
noncomputable def callWith (P:Program) (raw:FuncId→Bool) (ev:Nat→Code→St→Option (AExit × St)):Caller:=fun base v args h =>
  match v with
  | .fn f first captured =>
    match P.funcs[f]? with
    | some fn=>match bodyA fn args with
      | some b =>
        match ev (if raw f=true then base else h.length) b ⟨argFr (first++args++captured),h⟩ with
        | some (.exit _,_)=>.none
        | some (_,s')=>match resultsA P fn s'.fr s'.h with
          | some v=>if raw f=true then some (v,s'.h) else compact h.length v s'.h
          | .none=>.none
        | .none=>.none
      | .none=>if first.isEmpty=true∧captured.isEmpty=true then extA P base f fn args h else .none
    | .none=>.none
  | .yld l =>
    match h[l]? with
    | some ⟨.loop L,0⟩ =>
      if L.state=.ready∧args.length=L.params.length then
        match ev base L.assign ⟨putAll L.fr L.params args,h⟩ with
        | some (.normal,s1) =>
          match s1.h[l]? with
          | some ⟨.loop L1,0⟩=>if L1.state=.ready then
            match ev base L.body ⟨s1.fr,s1.h.set l ⟨.loop { L1 with state:=.busy },0⟩⟩ with
            | some (e,s2)=>match s2.h[l]? with
              | some ⟨.loop L2,0⟩ =>
                some (.bool (jumpOf e).isNone,s2.h.set l ⟨.loop { L2 with state:=if (jumpOf e).isNone then .ready else .done,pending:=jumpOf e },0⟩)
              | _=>.none
            | .none=>.none
            else .none
          | _=>.none
        | _=>.none
      else .none
    | _=>.none
  | _=>.none
def AVal.isFn:AVal→Bool
  | .fn _ _ _=>true
  | _=>false
open Classical in
noncomputable def evC (P:Program) (raw:FuncId→Bool):Nat→Nat→Code→St→Option (AExit × St)
  | 0,_,_,_=>.none
  | n+1,base,c,s =>
    match c with
    | .skip=>some (.normal,s)
    | .label _=>some (.normal,s)
    | .region _ ops draw=>if draw=true∧¬ DrawSafe P (callWith P raw (evC P raw n)) base ops s then .none else
      match evOps P (callWith P raw (evC P raw n)) base ops false ops.toList s with
      | some s'=>some (.normal,s')
      | .none=>.none
    | .seq a b=>match evC P raw n base a s with
      | some (.normal,s')=>evC P raw n base b s'
      | r=>r
    | .cond g a b=>match ev s.fr g with
      | .bool t=>evC P raw n base (if t then a else b) s
      | _=>.none
    | .block id b=>match evC P raw n base b s with
      | some (.exit id',s')=>if id'=id then some (.normal,s') else some (.exit id',s')
      | r=>r
    | .loop b=>match evC P raw n base b s with
      | some (.normal,s')=>evC P raw n base (.loop b) s'
      | r=>r
    | .exit id=>some (.exit id,s)
    | .scope b=>evC P raw n base b s
    | .ret=>some (.ret,s)
    | .rangeFunc g params assign body =>
      if (ev s.fr g).isFn=true then
        match callWith P raw (evC P raw n) base (ev s.fr g) [.yld s.h.length] (s.h++[⟨.loop { state:=.ready,pending:=.none,fr:=s.fr,params:=params.toList,assign,body },0⟩]) with
        | some (_,h2)=>match h2[s.h.length]? with
          | some ⟨.loop L,0⟩ =>
            if L.state=.busy then .none else
            match L.pending with
            | .none=>some (.normal,⟨s.fr,h2.set s.h.length ⟨.loop { L with state:=.exhausted },0⟩⟩)
            | some (.exit id)=>some (.exit id,⟨s.fr,h2.set s.h.length ⟨.loop { L with state:=.exhausted },0⟩⟩)
            | some .ret=>some (.ret,⟨s.fr,h2.set s.h.length ⟨.loop { L with state:=.exhausted },0⟩⟩)
            | _=>.none
          | _=>.none
        | .none=>.none
      else .none
    | .goto _=>.none
    | .refuse _=>.none
end Go.AM
namespace Go.AM
structure Loc where
  blk:Nat
  base:Nat
  size:Nat
  esz:Nat
structure Mu where
  loc:Nat→Nat→Option Loc
  anon:Nat→Option (List AVal)
inductive VR (μ:Mu):AVal→Value→Prop
  | none (v:Value):VR μ .none v
  | bool (b:Bool):VR μ (.bool b) (.bool b)
  | int (k:IntKind) (n:Int):VR μ (.int k n) (.int k n)
  | str (s:ByteArray):VR μ (.str s) (.string s)
  | ptrN:VR μ (.ptr .none) (.pointer .none)
  | ptr (r:ARef) (L:Loc) (h:μ.loc r.id r.ver=some L):VR μ (.ptr (some r)) (.pointer (some ⟨L.blk,L.base+r.off,.none⟩))
  | sliceN:VR μ (.slice .none 0 0) (.slice .none 0 0)
  | slice0 (r:ARef) (a:Addr) (C:Nat):VR μ (.slice (some r) 0 0) (.slice (some a) 0 C)
  | slice (r:ARef) (L:Loc) (n kcap C:Nat) (h:μ.loc r.id r.ver=some L) (hk:0<kcap) (hn:n≤kcap) (hc:kcap≤C) (hl:r.off=0→C=kcap ∨ (C * L.esz≤L.size∧C≤9223372036854775807)) :
      VR μ (.slice (some r) n kcap) (.slice (some ⟨L.blk,L.base+r.off,.none⟩) n C)
  | emp (a:Addr):VR μ .emp (.slice (some a) 0 0)
  | vals (b:Nat) (l:List AVal) (h:μ.anon b=some l):VR μ (.vals l) (.slice (some ⟨b,0,.none⟩) l.length l.length)
  | mapN:VR μ (.map .none) (.map .none)
  | map (r:Nat) (L:Loc) (h:μ.loc r 0=some L):VR μ (.map (some r)) (.map (some L.blk))
  | fn (f:FuncId) (a b:List AVal) (A B:Array Value) (ha:a.length=A.size) (hb:b.length=B.size)
      (h1:∀ (i:Nat) (x:AVal) (y:Value),a[i]?=some x→A[i]?=some y→VR μ x y) (h2:∀ (i:Nat) (x:AVal) (y:Value),b[i]?=some x→B[i]?=some y→VR μ x y) :
      VR μ (.fn f a b) (.func (.func f) A B)
  | yld (l:Nat) (L:Loc) (h:μ.loc l 0=some L):VR μ (.yld l) (.func (.yield L.blk) #[] #[])
  | nilFn:VR μ .nilFn .nilFunc
  | atl (lo:Nat) (n:Int) (h:(lo:Int)≤n):VR μ (.atl lo) (.int .i64 n)
  | agg (a:List AVal) (A:Array Value) (ha:a.length=A.size) (h:∀ (i:Nat) (x:AVal) (y:Value),a[i]?=some x→A[i]?=some y→VR μ x y):VR μ (.agg a) (.agg A)
  | tuple (a:List AVal) (A:Array Value) (ha:a.length=A.size) (h:∀ (i:Nat) (x:AVal) (y:Value),a[i]?=some x→A[i]?=some y→VR μ x y):VR μ (.tuple a) (.tuple A)
def VRs (μ:Mu) (l:List AVal) (L:List Value):Prop:=l.length=L.length∧∀ (i:Nat) (x:AVal) (y:Value),l[i]?=some x→L[i]?=some y→VR μ x y
structure Mu.le (μ μ':Mu):Prop where
  loc:∀ id v L,μ.loc id v=some L→μ'.loc id v=some L
  anon:∀ b l,μ.anon b=some l→μ'.anon b=some l
theorem Mu.le.rfl {μ:Mu}:μ.le μ:=⟨fun _ _ _ h=>h,fun _ _ h=>h⟩
theorem Mu.le.trans {a b c:Mu} (h:a.le b) (k:b.le c):a.le c:=⟨fun i v L x=>k.loc i v L (h.loc i v L x),fun b l x=>k.anon b l (h.anon b l x)⟩
theorem VR.mono {μ μ':Mu} (hm:μ.le μ') {v:AVal} {V:Value} (h:VR μ v V):VR μ' v V:=by
  induction h with
  | none v=>exact .none v
  | bool b=>exact .bool b
  | int k n=>exact .int k n
  | str s=>exact .str s
  | ptrN=>exact .ptrN
  | ptr r L h=>exact .ptr r L (hm.loc _ _ _ h)
  | sliceN=>exact .sliceN
  | slice0 r a C=>exact .slice0 r a C
  | slice r L n k C h hk hn hc hl=>exact .slice r L n k C (hm.loc _ _ _ h) hk hn hc hl
  | emp a=>exact .emp a
  | vals b l h=>exact .vals b l (hm.anon _ _ h)
  | mapN=>exact .mapN
  | map r L h=>exact .map r L (hm.loc _ _ _ h)
  | fn f a b A B ha hb h1 h2 ih1 ih2=>exact .fn f a b A B ha hb (fun i x y hx hy=>ih1 i x y hx hy) (fun i x y hx hy=>ih2 i x y hx hy)
  | yld l L h=>exact .yld l L (hm.loc _ _ _ h)
  | nilFn=>exact .nilFn
  | atl lo n h=>exact .atl lo n h
  | agg a A ha h ih=>exact .agg a A ha ih
  | tuple a A ha h ih=>exact .tuple a A ha ih
theorem VRs.mono {μ μ':Mu} (hm:μ.le μ') {l:List AVal} {L:List Value} (h:VRs μ l L):VRs μ' l L:=⟨h.1,fun i x y hx hy=>(h.2 i x y hx hy).mono hm⟩
theorem VRs.nil {μ:Mu}:VRs μ [] []:=⟨rfl,fun i x y h=>by simp at h⟩
theorem VRs.cons {μ:Mu} {v:AVal} {V:Value} {l:List AVal} {L:List Value} (h:VR μ v V) (hs:VRs μ l L):VRs μ (v :: l) (V :: L):=by
  refine ⟨by simp [hs.1],fun i x y hx hy=>?_⟩
  cases i with
  | zero=>simp at hx hy;exact hx ▸ hy ▸ h
  | succ i=>simp at hx hy;exact hs.2 i x y hx hy
theorem VRs.head {μ:Mu} {v:AVal} {V:Value} {l:List AVal} {L:List Value} (h:VRs μ (v :: l) (V :: L)):VR μ v V:=h.2 0 v V rfl rfl
theorem VRs.tail {μ:Mu} {v:AVal} {V:Value} {l:List AVal} {L:List Value} (h:VRs μ (v :: l) (V :: L)):VRs μ l L :=
  ⟨by have:=h.1;simpa using this,fun i x y hx hy=>h.2 (i+1) x y (by simpa using hx) (by simpa using hy)⟩
theorem VRs.append {μ:Mu} {l m:List AVal} {L M:List Value} (h:VRs μ l L) (k:VRs μ m M):VRs μ (l++m) (L++M):=by
  refine ⟨by simp [h.1,k.1],fun i x y hx hy=>?_⟩
  by_cases hi:i<l.length
  · rw [List.getElem?_append_left hi] at hx
    rw [List.getElem?_append_left (h.1 ▸ hi)] at hy
    exact h.2 i x y hx hy
  · rw [List.getElem?_append_right (by omega)] at hx
    rw [List.getElem?_append_right (by have:=h.1;omega),← h.1] at hy
    exact k.2 _ x y hx hy
theorem VRs.take {μ:Mu} {l:List AVal} {L:List Value} (n:Nat) (h:VRs μ l L):VRs μ (l.take n) (L.take n):=by
  refine ⟨by simp [h.1],fun i x y hx hy=>?_⟩
  simp only [List.getElem?_take] at hx hy
  split at hx
  · rename_i hi;rw [if_pos hi] at hy;exact h.2 i x y hx hy
  · cases hx
theorem VRs.drop {μ:Mu} {l:List AVal} {L:List Value} (n:Nat) (h:VRs μ l L):VRs μ (l.drop n) (L.drop n):=by
  refine ⟨by simp [h.1],fun i x y hx hy=>?_⟩
  simp only [List.getElem?_drop] at hx hy
  exact h.2 _ x y hx hy
theorem VRs.set {μ:Mu} {l:List AVal} {L:List Value} {v:AVal} {V:Value} (i:Nat) (h:VRs μ l L) (hv:VR μ v V):VRs μ (l.set i v) (L.set i V):=by
  refine ⟨by simp [h.1],fun j x y hx hy=>?_⟩
  simp only [List.getElem?_set] at hx hy
  by_cases hij:i=j
  · subst hij
    rw [if_pos rfl] at hx hy
    split at hx<;>split at hy<;>simp_all
  · rw [if_neg hij] at hx hy
    exact h.2 j x y hx hy
theorem VRs.agg {μ:Mu} {l:List AVal} {A:Array Value} (h:VRs μ l A.toList):VR μ (.agg l) (.agg A):=.agg l A (by simpa using h.1) (fun i x y hx hy=>h.2 i x y hx (by simpa using hy))
theorem VRs.tuple {μ:Mu} {l:List AVal} {A:Array Value} (h:VRs μ l A.toList):VR μ (.tuple l) (.tuple A):=.tuple l A (by simpa using h.1) (fun i x y hx hy=>h.2 i x y hx (by simpa using hy))
theorem VR.agg_inv {μ:Mu} {l:List AVal} {V:Value} (h:VR μ (.agg l) V):∃ A,V=.agg A∧VRs μ l A.toList:=by
  cases h with
  | agg a A ha h=>exact ⟨A,rfl,by simpa using ha,fun i x y hx hy=>h i x y hx (by simpa using hy)⟩
theorem VR.tuple_inv {μ:Mu} {l:List AVal} {V:Value} (h:VR μ (.tuple l) V):∃ A,V=.tuple A∧VRs μ l A.toList:=by
  cases h with
  | tuple a A ha h=>exact ⟨A,rfl,by simpa using ha,fun i x y hx hy=>h i x y hx (by simpa using hy)⟩
theorem VRs.get {μ:Mu} {l:List AVal} {L:List Value} (h:VRs μ l L) {i:Nat} {x:AVal} (hx:l[i]?=some x):∃ y,L[i]?=some y∧VR μ x y:=by
  have hi:i<l.length:=by
    rcases Nat.lt_or_ge i l.length with h'|h'
    · exact h'
    · simp [List.getElem?_eq_none h'] at hx
  exact ⟨L[i]'(h.1 ▸ hi),List.getElem?_eq_getElem _,h.2 i x _ hx (List.getElem?_eq_getElem _)⟩
def ABody.wr:ABody→Bool
  | .cells _ _ _ ro=>!ro
  | _=>true
def MapR (μ:Mu) (es:List (AVal × AVal)) (E:Array MapEntry):Prop :=
  es.length=E.size∧∀ (i:Nat) (k v:AVal) (e:MapEntry),es[i]?=some (k,v)→E[i]?=some e→VR μ k e.key∧VR μ v e.val∧e.born=i
def LoopR (μ:Mu) (L:ALoop) (l:Loop):Prop :=
  l.state=L.state∧l.pending=L.pending∧l.params.toList=L.params∧l.assign=L.assign∧l.body=L.body∧(∀ t,VR μ (L.fr t) (l.tmps.getD t undef))∧(L.params.all fun t=>decide (t<l.tmps.size))=true∧okS false l.tmps.size L.assign=true∧okS false l.tmps.size L.body=true
def BR (P:Program) (μ:Mu) (b:ABody) (L:Loc) (w:World):Prop :=
  match b with
  | .cells c e row ro=>∃ (C:Array Value) (T:TypeId) (fz:Nat × Nat),w.heap[L.blk]?=some (.cells C T fz)∧c.length≤L.size∧L.base+L.size≤C.size ∧
      (∀ (i:Nat) (x:AVal) (y:Value),c[i]?=some x→C[L.base+i]?=some y→VR μ x y)∧(L.esz=if row then ((P.info? e).map (·.size)).getD 0 else 0) ∧
      (ro=false→∀ i,L.base≤i→(i<L.base+L.size ∨ i=C.size)→¬ (fz.1≤i∧i<fz.2))
  | .map es=>∃ (E:Array MapEntry) (clock:Nat),w.heap[L.blk]?=some (.map E clock)∧MapR μ es E∧clock=E.size
  | .loop l=>∃ l',w.heap[L.blk]?=some (.loop l')∧LoopR μ l l'
structure HRel (P:Program) (μ:Mu) (h:Heap) (w:World):Prop where
  dom:∀ id v L,μ.loc id v=some L→∃ b,h[id]?=some b∧v≤b.ver∧L.blk<w.heap.size
  blk:∀ id b L,h[id]?=some b→μ.loc id b.ver=some L→BR P μ b.body L w
  disj:∀ i j b c L M,i ≠ j→h[i]?=some b→h[j]?=some c→μ.loc i b.ver=some L→μ.loc j c.ver=some M→b.body.wr=true→L.blk ≠ M.blk
  cur:∀ id v L b,μ.loc id v=some L→h[id]?=some b→∃ M,μ.loc id b.ver=some M
  anon:∀ b l,μ.anon b=some l→(∃ C e fz,w.heap[b]?=some (.cells C e fz)∧VRs μ l C.toList) ∧
    ∀ id k L,h[id]?=some k→μ.loc id k.ver=some L→k.body.wr=true→L.blk ≠ b
  adom:∀ b l,μ.anon b=some l→refsL l=[]
def WImg (μ:Mu) (h:Heap) (b:Nat):Prop:=∃ (id:Nat) (k:ABlk) (L:Loc),h[id]?=some k∧μ.loc id k.ver=some L∧k.body.wr=true∧L.blk=b
structure Evo (μ:Mu) (h:Heap) (w:World) (μ':Mu) (h':Heap) (w':World):Prop where
  size:w.heap.size≤w'.heap.size
  os:w'.os=w.os
  tape:w'.tape=w.tape
  output:w'.output=w.output
  keep:∀ b,b<w.heap.size→¬ WImg μ h b→w'.heap[b]?=w.heap[b]?∧¬ WImg μ' h' b
  anew:∀ b l,μ'.anon b=some l→μ.anon b=some l ∨ w.heap.size≤b
theorem Evo.rfl {μ:Mu} {h:Heap} {w:World}:Evo μ h w μ h w:=⟨Nat.le_refl _,_root_.rfl,_root_.rfl,_root_.rfl,fun _ _ hb=>⟨_root_.rfl,hb⟩,fun _ _ h=>.inl h⟩
theorem Evo.trans {μ μ' μ'':Mu} {h h' h'':Heap} {w w' w'':World} (a:Evo μ h w μ' h' w') (b:Evo μ' h' w' μ'' h'' w''):Evo μ h w μ'' h'' w'' :=
  ⟨Nat.le_trans a.size b.size,b.os.trans a.os,b.tape.trans a.tape,b.output.trans a.output,fun k hk hb =>
    let ⟨e,n⟩:=a.keep k hk hb
    let ⟨e',n'⟩:=b.keep k (Nat.lt_of_lt_of_le hk a.size) n
    ⟨e'.trans e,n'⟩,fun k l hl=>(b.anew k l hl).elim (a.anew k l) fun hk=>.inr (Nat.le_trans a.size hk)⟩
def Fresh (base:Nat) (μ:Mu) (h:Heap) (μ':Mu):Prop :=
  ∀ id v L,μ'.loc id v=some L→μ.loc id v=some L ∨ h.length≤id ∨ ∃ b,h[id]?=some b∧b.ver<v∧(base≤id ∨ ∃ M,μ.loc id b.ver=some M)
structure ARel (μ:Mu) (fr:AFrame) (a:Act):Prop where
  tmps:∀ t,VR μ (fr t) (a.tmps.getD t undef)
theorem cv_VR {μ:Mu} {v:Value} {x:AVal} (h:cv v=some x):VR μ x v:=by
  unfold cv at h
  split at h<;>first|(cases h;done)|(cases h;constructor)
theorem ev_VR {μ:Mu} {fr:AFrame} {a:Act} (h:∀ t,VR μ (fr t) (a.tmps.getD t undef)) (x:Operand):VR μ (ev fr x) (a.eval x):=by
  cases x with
  | tmp t=>exact h t
  | const v =>
    simp only [ev,Act.eval]
    cases hc:cv v with
    | none=>exact .none v
    | some x=>exact cv_VR hc
  | global g=>exact .none _
  | func f=>exact .fn f [] [] #[] #[] rfl rfl (fun i x y h=>by simp at h) (fun i x y h=>by simp at h)
theorem map_VRs {μ:Mu} {fr:AFrame} {a:Act} (h:∀ t,VR μ (fr t) (a.tmps.getD t undef)) (xs:List Operand):VRs μ (xs.map (ev fr)) (xs.map a.eval):=by
  induction xs with
  | nil=>exact .nil
  | cons x xs ih=>exact ih.cons (ev_VR h x)
theorem getD_setIfInBounds (A:Array Value) (d t:Nat) (V:Value) (hd:d<A.size):(A.setIfInBounds d V).getD t undef=if t=d then V else A.getD t undef:=by
  simp only [Array.getD_eq_getD_getElem?,Array.getElem?_setIfInBounds]
  by_cases h:d=t
  · subst h;simp [hd]
  · simp [h,Ne.symm h]
theorem put_VR {μ:Mu} {fr:AFrame} {a:Act} {d:Option Tmp} {v:AVal} {V:Value} (h:∀ t,VR μ (fr t) (a.tmps.getD t undef)) (hv:VR μ v V)
    (hd:∀ d',d=some d'→d'<a.tmps.size):∀ t,VR μ (put fr d v t) ((a.put d V).tmps.getD t undef):=by
  intro t
  cases d with
  | none=>exact h t
  | some d =>
    simp only [put,Act.put,getD_setIfInBounds _ _ _ _ (hd d rfl)]
    split
    · exact hv
    · exact h t
theorem VR_undef {μ:Mu}:VR μ undefA undef:=.tuple [] #[] rfl (fun i x y h=>by simp at h)
theorem VR.cells {μ:Mu} {v:AVal} {V:Value} (h:VR μ v V) (hv:v ≠ .none):VRs μ v.cells V.cells.toList:=by
  have one:∀ {x:AVal} {X:Value},VR μ x X→VRs μ [x] [X]:=fun h=>VRs.nil.cons h
  cases h with
  | agg a A ha h=>exact ⟨by simpa [AVal.cells,Value.cells] using ha,fun i x y hx hy=>h i x y hx (by simpa [Value.cells] using hy)⟩
  | none v=>exact absurd rfl hv
  | _=>exact one (by first|assumption|(constructor<;>assumption))
end Go.AM
