/- An abstract machine that runs the text of a Go function on typed values: its definitions. -/
import GoSem.Core.Code
import Derived.Still
import Derived.Lib.IndexMore
import Derived.Lib.ValidU
set_option linter.unusedSimpArgs false
set_option linter.unusedVariables false
set_option linter.unusedSectionVars false
/- The abstract machine, part 1: abstract values, typed rows of slices, abstract objects, frames and stores. No program in sight. -/
namespace Go.Abs
open Go

abbrev Bytes := List UInt8

/-- an expression (api.Expr) -/
inductive XE where
  | mk (kind pos axis test num : Int) (text : Bytes) (kids : List XE)

instance : Inhabited XE := ⟨.mk 0 0 0 0 0 [] []⟩
def XE.kind : XE → Int | .mk k _ _ _ _ _ _ => k
def XE.pos : XE → Int | .mk _ p _ _ _ _ _ => p
def XE.axis : XE → Int | .mk _ _ a _ _ _ _ => a
def XE.test : XE → Int | .mk _ _ _ t _ _ _ => t
def XE.num : XE → Int | .mk _ _ _ _ n _ _ => n
def XE.text : XE → Bytes | .mk _ _ _ _ _ s _ => s
def XE.kids : XE → List XE | .mk _ _ _ _ _ _ l => l

/-- a node (api.Node) -/
structure XN where
  kind : Int
  name : Bytes
  value : Bytes
  parent : Int
instance : Inhabited XN := ⟨⟨0, [], [], 0⟩⟩

/-- a token (api.Token) -/
structure XT where
  kind : Int
  text : Bytes
  num : Int
  pos : Int
instance : Inhabited XT := ⟨⟨0, [], 0, 0⟩⟩

inductive Cell where
  | int (n : Int)
  | bool (b : Bool)
  | str (s : Bytes)

inductive CK where
  | int (k : IntKind)
  | bool
  | str
  deriving DecidableEq

def Cell.i : Cell → Int | .int n => n | _ => 0
def Cell.b : Cell → Bool | .bool b => b | _ => false
def Cell.s : Cell → Bytes | .str s => s | _ => []

inductive RowKind where
  | bytes
  | ints (k : IntKind)
  | strs
  | exprs
  | nodes
  | toks
  | tab (sig : List CK)
  deriving DecidableEq

inductive Rows where
  | bytes (l : Bytes)
  | ints (k : IntKind) (l : List Int)
  | strs (l : List Bytes)
  | exprs (l : List XE)
  | nodes (l : List XN)
  | toks (l : List XT)
  | tab (sig : List CK) (l : List (List Cell))

inductive U where
  | undef
  | int (k : IntKind) (n : Int)
  | bool (b : Bool)
  | str (s : Bytes)
  | agg (cs : List U)
  | tup (vs : List U)
  | slice (S : Rows) (full : Bool)
  | gsl (id : Nat)
  | ptr (id off : Nat)
  | elem (S : Rows) (i off : Nat)
  | gelem (id w i off : Nat)
  | nilp
  | func (f : FuncId) (first caps : List U)
  | iface (t : TypeId) (v : U)
  | map (id : Nat)
  | iter (id : Nat)

instance : Inhabited U := ⟨.undef⟩

/-! ### rows -/

def Rows.len : Rows → Nat
  | .bytes l => l.length
  | .ints _ l => l.length
  | .strs l => l.length
  | .exprs l => l.length
  | .nodes l => l.length
  | .toks l => l.length
  | .tab _ l => l.length

def Rows.width : Rows → Nat
  | .exprs _ => 7
  | .nodes _ => 4
  | .toks _ => 4
  | .tab sig _ => sig.length
  | _ => 1

def Rows.kind : Rows → RowKind
  | .bytes _ => .bytes
  | .ints k _ => .ints k
  | .strs _ => .strs
  | .exprs _ => .exprs
  | .nodes _ => .nodes
  | .toks _ => .toks
  | .tab sig _ => .tab sig

def RowKind.width : RowKind → Nat
  | .exprs => 7
  | .nodes => 4
  | .toks => 4
  | .tab sig => sig.length
  | _ => 1

def XE.cells (e : XE) : List U := [.int .u8 e.kind, .int .i64 e.pos, .int .u8 e.axis, .int .u8 e.test, .int .i64 e.num, .str e.text, .slice (.exprs e.kids) false]
def XN.cells (n : XN) : List U := [.int .u8 n.kind, .str n.name, .str n.value, .int .i64 n.parent]
def XT.cells (t : XT) : List U := [.int .u8 t.kind, .str t.text, .int .i64 t.num, .int .i64 t.pos]

/-- the cells of a record of a table; c: the whole record -/
def tabCells (r : List Cell) : List CK → Nat → List U
  | [], _ => []
  | .int k :: sig, j => .int k (r.getD j (.int 0)).i :: tabCells r sig (j + 1)
  | .bool :: sig, j => .bool (r.getD j (.int 0)).b :: tabCells r sig (j + 1)
  | .str :: sig, j => .str (r.getD j (.int 0)).s :: tabCells r sig (j + 1)

/-- a row's cells (of any number; those that are not there: zero) -/
def Rows.row : Rows → Nat → List U
  | .bytes l, i => [.int .u8 ((l.getD i 0).toNat : Int)]
  | .ints k l, i => [.int k (l.getD i 0)]
  | .strs l, i => [.str (l.getD i [])]
  | .exprs l, i => (l.getD i default).cells
  | .nodes l, i => (l.getD i default).cells
  | .toks l, i => (l.getD i default).cells
  | .tab sig l, i => tabCells (l.getD i []) sig 0

def Rows.empty : RowKind → Rows
  | .bytes => .bytes []
  | .ints k => .ints k []
  | .strs => .strs []
  | .exprs => .exprs []
  | .nodes => .nodes []
  | .toks => .toks []
  | .tab sig => .tab sig []

def Rows.take (n : Nat) : Rows → Rows
  | .bytes l => .bytes (l.take n)
  | .ints k l => .ints k (l.take n)
  | .strs l => .strs (l.take n)
  | .exprs l => .exprs (l.take n)
  | .nodes l => .nodes (l.take n)
  | .toks l => .toks (l.take n)
  | .tab sig l => .tab sig (l.take n)

def Rows.drop (n : Nat) : Rows → Rows
  | .bytes l => .bytes (l.drop n)
  | .ints k l => .ints k (l.drop n)
  | .strs l => .strs (l.drop n)
  | .exprs l => .exprs (l.drop n)
  | .nodes l => .nodes (l.drop n)
  | .toks l => .toks (l.drop n)
  | .tab sig l => .tab sig (l.drop n)

def Rows.append : Rows → Rows → Option Rows
  | .bytes l, .bytes m => some (.bytes (l ++ m))
  | .ints k l, .ints j m => if k = j then some (.ints k (l ++ m)) else none
  | .strs l, .strs m => some (.strs (l ++ m))
  | .exprs l, .exprs m => some (.exprs (l ++ m))
  | .nodes l, .nodes m => some (.nodes (l ++ m))
  | .toks l, .toks m => some (.toks (l ++ m))
  | .tab s l, .tab t m => if s = t then some (.tab s (l ++ m)) else none
  | _, _ => none

def XE.of : List U → Option XE
  | [.int .u8 k, .int .i64 p, .int .u8 a, .int .u8 t, .int .i64 n, .str s, .slice (.exprs ks) _] => some (.mk k p a t n s ks)
  | _ => none
def XN.of : List U → Option XN
  | [.int .u8 k, .str n, .str v, .int .i64 p] => some ⟨k, n, v, p⟩
  | _ => none
def XT.of : List U → Option XT
  | [.int .u8 k, .str s, .int .i64 n, .int .i64 p] => some ⟨k, s, n, p⟩
  | _ => none

def tabOf : List CK → List U → Option (List Cell)
  | [], [] => some []
  | .int k :: sig, .int j n :: us => if k = j then (tabOf sig us).map (.int n :: ·) else none
  | .bool :: sig, .bool b :: us => (tabOf sig us).map (.bool b :: ·)
  | .str :: sig, .str s :: us => (tabOf sig us).map (.str s :: ·)
  | _, _ => none

def consE : Option XE → Option Rows → Option Rows
  | some e, some (.exprs l) => some (.exprs (e :: l))
  | _, _ => none
def consN : Option XN → Option Rows → Option Rows
  | some e, some (.nodes l) => some (.nodes (e :: l))
  | _, _ => none
def consT : Option XT → Option Rows → Option Rows
  | some e, some (.toks l) => some (.toks (e :: l))
  | _, _ => none
def consTab : Option (List Cell) → Option Rows → Option Rows
  | some e, some (.tab sig l) => some (.tab sig (e :: l))
  | _, _ => none

/-- one row more, ahead -/
def Rows.cons (k : RowKind) (c : List U) (r : Option Rows) : Option Rows :=
  match k with
  | .bytes => match c, r with
    | [.int .u8 n], some (.bytes l) => some (.bytes (UInt8.ofNat n.toNat :: l))
    | _, _ => none
  | .ints k => match c, r with
    | [.int j n], some (.ints k' l) => if k = j ∧ k = k' then some (.ints k (n :: l)) else none
    | _, _ => none
  | .strs => match c, r with
    | [.str s], some (.strs l) => some (.strs (s :: l))
    | _, _ => none
  | .exprs => consE (XE.of c) r
  | .nodes => consN (XN.of c) r
  | .toks => consT (XT.of c) r
  | .tab sig => consTab (tabOf sig c) r

def Rows.ofRows (k : RowKind) : List (List U) → Option Rows
  | [] => some (Rows.empty k)
  | c :: cs => Rows.cons k c (Rows.ofRows k cs)

/-- one row written anew -/
def Rows.set (S : Rows) (i : Nat) (c : List U) : Option Rows :=
  match S, c with
  | .bytes l, [.int .u8 n] => some (.bytes (l.set i (UInt8.ofNat n.toNat)))
  | .ints k l, [.int j n] => if k = j then some (.ints k (l.set i n)) else none
  | .strs l, [.str s] => some (.strs (l.set i s))
  | .exprs l, c => (XE.of c).map fun e => .exprs (l.set i e)
  | .nodes l, c => (XN.of c).map fun e => .nodes (l.set i e)
  | .toks l, c => (XT.of c).map fun e => .toks (l.set i e)
  | .tab sig l, c => (tabOf sig c).map fun e => .tab sig (l.set i e)
  | _, _ => none

/-! ### what mentions what -/

/-- how an identity is turned -/
inductive To where
  | same
  | gone
  | id (n : Nat)
  | frozen (S : Rows)

mutual
def U.turn (f : Nat → To) : U → U
  | .agg cs => .agg (U.turns f cs)
  | .tup vs => .tup (U.turns f vs)
  | .gsl id => match f id with
    | .same => .gsl id
    | .gone => .undef
    | .id j => .gsl j
    | .frozen S => .slice S false
  | .ptr id off => match f id with
    | .same => .ptr id off
    | .id j => .ptr j off
    | _ => .undef
  | .gelem id w i off => match f id with
    | .same => .gelem id w i off
    | .id j => .gelem j w i off
    | _ => .undef
  | .map id => match f id with
    | .same => .map id
    | .id j => .map j
    | _ => .undef
  | .iter id => match f id with
    | .same => .iter id
    | .id j => .iter j
    | _ => .undef
  | .func g fs cs => .func g (U.turns f fs) (U.turns f cs)
  | .iface t v => .iface t (U.turn f v)
  | .undef => .undef
  | .int k n => .int k n
  | .bool b => .bool b
  | .str s => .str s
  | .slice S b => .slice S b
  | .elem S i o => .elem S i o
  | .nilp => .nilp
def U.turns (f : Nat → To) : List U → List U
  | [] => []
  | u :: us => U.turn f u :: U.turns f us
end

mutual
def U.ids : U → List Nat
  | .agg cs => U.idsL cs
  | .tup vs => U.idsL vs
  | .gsl id => [id]
  | .ptr id _ => [id]
  | .gelem id _ _ _ => [id]
  | .map id => [id]
  | .iter id => [id]
  | .func _ fs cs => U.idsL fs ++ U.idsL cs
  | .iface _ v => U.ids v
  | _ => []
def U.idsL : List U → List Nat
  | [] => []
  | u :: us => U.ids u ++ U.idsL us
end

mutual
/-- nothing is said of the room of slices -/
def U.weak : U → U
  | .agg cs => .agg (U.weaks cs)
  | .tup vs => .tup (U.weaks vs)
  | .slice S _ => .slice S false
  | .func g fs cs => .func g (U.weaks fs) (U.weaks cs)
  | .iface t v => .iface t (U.weak v)
  | .undef => .undef
  | .int k n => .int k n
  | .bool b => .bool b
  | .str s => .str s
  | .gsl id => .gsl id
  | .ptr id off => .ptr id off
  | .elem S i o => .elem S i o
  | .gelem id w i o => .gelem id w i o
  | .nilp => .nilp
  | .map id => .map id
  | .iter id => .iter id
def U.weaks : List U → List U
  | [] => []
  | u :: us => U.weak u :: U.weaks us
end

/-! ### objects, frames, stores -/

inductive AObj where
  | cells (us : List U)
  | gbuf (S : Rows) (w : Bool)
  | iter (s : Bytes) (pos : Nat)
  | map (sig : List CK) (es : List (Bytes × List Cell))

def AObj.turn (f : Nat → To) : AObj → AObj
  | .cells us => .cells (U.turns f us)
  | o => o

def AObj.weak : AObj → AObj
  | .cells us => .cells (U.weaks us)
  | o => o

def AObj.ids : AObj → List Nat
  | .cells us => U.idsL us
  | _ => []

abbrev Fr := List (Nat × U)
abbrev St := List (Nat × AObj)

def look {α : Type _} (k : Nat) : List (Nat × α) → Option α
  | [] => none
  | (j, a) :: r => bif Nat.beq j k then some a else look k r

def drop1 {α : Type _} (k : Nat) : List (Nat × α) → List (Nat × α)
  | [] => []
  | (j, a) :: r => bif Nat.beq j k then drop1 k r else (j, a) :: drop1 k r

/-- written anew where it stands -/
def repl {α : Type _} (k : Nat) (x : α) : List (Nat × α) → List (Nat × α)
  | [] => []
  | (j, a) :: r => bif Nat.beq j k then (j, x) :: r else (j, a) :: repl k x r

def put (k : Nat) (u : U) (fr : Fr) : Fr := (k, u) :: drop1 k fr

def turnFr (f : Nat → To) : Fr → Fr
  | [] => []
  | (j, u) :: r => (j, u.turn f) :: turnFr f r

def turnSt (f : Nat → To) : St → St
  | [] => []
  | (j, o) :: r => (j, o.turn f) :: turnSt f r

def weakSt : St → St
  | [] => []
  | (j, o) :: r => (j, o.weak) :: weakSt r

def weakFr : Fr → Fr
  | [] => []
  | (j, u) :: r => (j, u.weak) :: weakFr r

end Go.Abs

/- The abstract machine, part 2: what each operation does to a frame and a store; the run of a body, with what is called, and the loops, handed in as tables. It is written in passing style: every test on a Bool that is not known parts the run by 'cond'. -/
namespace Go.Abs
open Go

structure TyInfo where
  agg : Bool
  size : Nat

/-- what the machine knows of the program's types and variables (held against the program once) -/
structure Env where
  tys : List (TypeId × TyInfo)
  fields : List (TypeId × List (Nat × TypeId))          -- structs: each field's place and type
  arrs : List (TypeId × Nat × TypeId)                   -- arrays: how many, of what
  zeros : List (TypeId × List U)                        -- the cells of a zero value
  elems : List (TypeId × TypeId × RowKind)              -- slices: the element's type, how rows are kept
  globs : List (Nat × Rows)                             -- variables that are tables
  eqs : List (TypeId × List CK)                         -- structs that are compared
  kinds : List (TypeId × Nat)                           -- underlying: 0 bool, 1 string, 3 pointer
  maps : List (TypeId × TypeId × List CK)               -- maps from texts: the element's type, its cells
  ints : List (TypeId × IntKind)
  vars : List Nat                                       -- variables that hold some number

/-- no list longer than that -/
def lim : Nat := 1099511627776

inductive Out where
  | fail
  | ret (u : U) (st : St)
  | pan (u : U) (st : St)

inductive Ex where
  | normal
  | exit (id : Nat)
  | ret

abbrev K := Ex → Fr → St → Out
abbrev KR := U → St → Out
/-- what calls come to -/
abbrev Table := FuncId → List U → St → KR → KR → Out
/-- what loops come to, by the number of the block about them -/
abbrev Loops := Nat → Option (Fr → St → K → KR → Out)

structure Ctx where
  env : Env
  tab : Table
  loops : Loops
  keep : List (Nat × List Nat × List (Nat × Nat))     -- at the head of a region: the slots kept; slots whose buffer gets a name
  ntmps : Nat
  results : List ResultVar
  fuel : Nat

/-! ### values -/

def nilSlice (e : Env) (t : TypeId) : U :=
  match look t e.elems with
  | some (_, k) => .slice (Rows.empty k) true
  | none => .undef

def constCell : Value → U → U
  | .bool b, _ => .bool b
  | .int k n, _ => .int k n
  | .string s, _ => .str s.data.toList
  | .pointer none, _ => .nilp
  | .slice none 0 0, .slice S true => match S.len with
    | 0 => .slice S true
    | _ => .undef
  | _, _ => .undef

def constCells : List Value → List U → List U
  | v :: vs, u :: us => constCell v u :: constCells vs us
  | _, _ => []

def ofConst (e : Env) (t : TypeId) : Value → U
  | .agg cs => match look t e.zeros with
    | some us => bif Nat.beq cs.size us.length then .agg (constCells cs.toList us) else .undef
    | none => .undef
  | .bool b => .bool b
  | .int k n => .int k n
  | .string s => .str s.data.toList
  | .pointer none => .nilp
  | .slice none 0 0 => nilSlice e t
  | _ => .undef

def evalO (e : Env) (t : TypeId) (fr : Fr) : Operand → U
  | .tmp i => (look i fr).getD .undef
  | .const v => ofConst e t v
  | .global g => match look g e.globs with
    | some S => .elem S 0 0
    | none => .undef
  | .func f => .func f [] []

def U.cells : U → List U
  | .agg cs => cs
  | u => [u]

/-- that is known to be the value of one cell -/
def solid1 : U → Bool
  | .undef => false
  | .agg _ => false
  | .tup _ => false
  | _ => true
def solids : List U → Bool
  | [] => true
  | u :: us => solid1 u && solids us
/-- that is known to be the value of so many cells -/
def solid : U → Bool
  | .undef => false
  | .tup _ => false
  | _ => true

/-- cells from off on, as a value of that type -/
def partU (i : TyInfo) (us : List U) (off : Nat) : U :=
  bif i.agg then .agg ((us.drop off).take i.size) else us.getD off .undef

def writeAt : List U → Nat → List U → List U
  | us, _, [] => us
  | [], _, _ => []
  | _ :: us, 0, v :: vs => v :: writeAt us 0 vs
  | u :: us, n + 1, vs => u :: writeAt us n vs

/-! ### what an operation does -/

structure Eff where
  v : U
  ok : Bool
  tn : List (Nat × To)
  sets : List (Nat × Option AObj)

def asTo : List (Nat × To) → Nat → To
  | [], _ => .same
  | (j, t) :: r, i => bif Nat.beq j i then t else asTo r i

def turnFr' (tn : List (Nat × To)) (fr : Fr) : Fr := match tn with | [] => fr | t :: r => turnFr (asTo (t :: r)) fr
def turnSt' (tn : List (Nat × To)) (st : St) : St := match tn with | [] => st | t :: r => turnSt (asTo (t :: r)) st

def setOne (st : St) (i : Nat) (o : AObj) : St := match look i st with | some _ => repl i o st | none => st ++ [(i, o)]

def setSt (st : St) : List (Nat × Option AObj) → St
  | [] => st
  | (i, none) :: r => setSt (drop1 i st) r
  | (i, some o) :: r => setSt (setOne st i o) r

def val (u : U) : Option Eff := some ⟨u, true, [], []⟩
def valIf (b : Bool) (u : U) : Option Eff := some ⟨u, b, [], []⟩

def elemN (i : Nat) : List Nat → Bool
  | [] => false
  | j :: r => Nat.beq j i || elemN i r

def notParam (i : Nat) : Bool := Nat.blt i 1000 || Nat.blt 1999 i

/-- a new object, named after the slot -/
def newObj (d : Option Tmp) (v : Nat → U) (o : AObj) : Option Eff :=
  match d with
  | some d => bif elemN d o.ids || !notParam d then none else some ⟨v d, true, [(d, .gone)], [(d, some o)]⟩
  | none => none

def eqCells : List CK → List U → List U → Bool
  | .int _ :: r, .int _ a :: x, .int _ b :: y => decide (a = b) && eqCells r x y
  | .bool :: r, .bool a :: x, .bool b :: y => (a == b) && eqCells r x y
  | .str :: r, .str a :: x, .str b :: y => decide (a = b) && eqCells r x y
  | _, _, _ => true

def sigOK : List CK → List U → Bool
  | [], [] => true
  | .int k :: r, .int j _ :: x => decide (k = j) && sigOK r x
  | .bool :: r, .bool _ :: x => sigOK r x
  | .str :: r, .str _ :: x => sigOK r x
  | _, _ => false

def intBin (op : BinOp) (k : IntKind) (a b : Int) : Option Eff :=
  match op with
  | .add => val (.int k (k.wrap (a + b)))
  | .sub => val (.int k (k.wrap (a - b)))
  | .mul => val (.int k (k.wrap (a * b)))
  | .quo => valIf (!decide (b = 0)) (.int k (k.wrap (a.tdiv b)))
  | .rem => valIf (!decide (b = 0)) (.int k (a.tmod b))
  | .eql => val (.bool (decide (a = b)))
  | .neq => val (.bool (!decide (a = b)))
  | .lss => val (.bool (decide (a < b)))
  | .leq => val (.bool (decide (a ≤ b)))
  | .gtr => val (.bool (decide (b < a)))
  | .geq => val (.bool (decide (b ≤ a)))
  | _ => none

def strBin (op : BinOp) (a b : Bytes) : Option Eff :=
  match op with
  | .add => valIf (decide (a.length + b.length ≤ lim)) (.str (a ++ b))
  | .eql => val (.bool (decide (a = b)))
  | .neq => val (.bool (!decide (a = b)))
  | _ => none

def eqBool (op : BinOp) (b : Bool) : Option Eff :=
  match op with
  | .eql => val (.bool b)
  | .neq => val (.bool (!b))
  | _ => none

def isKind (e : Env) (t : TypeId) (n : Nat) : Bool := match look t e.kinds with | some m => Nat.beq m n | none => false

def binEff (e : Env) (op : BinOp) (t : TypeId) (x y : U) : Option Eff :=
  match x, y with
  | .int k a, .int j b => bif decide (k = j) then intBin op k a b else none
  | .str a, .str b => strBin op a b
  | .bool a, .bool b => bif isKind e t 0 then eqBool op (a == b) else none
  | .nilp, .nilp => bif isKind e t 3 then eqBool op true else none
  | .nilp, .ptr _ _ => bif isKind e t 3 then eqBool op false else none
  | .ptr _ _, .nilp => bif isKind e t 3 then eqBool op false else none
  | .agg xs, .agg ys => match look t e.eqs with
    | some sig => bif sigOK sig xs && sigOK sig ys then eqBool op (eqCells sig xs ys) else none
    | none => none
  | _, _ => none

/-- the buffers that stand in cells -/
def heldBufs : List U → List Nat
  | [] => []
  | .gsl id :: us => id :: heldBufs us
  | _ :: us => heldBufs us

def frozenOf (lk : Nat → Option AObj) : List Nat → Option (List (Nat × To))
  | [] => some []
  | id :: r => match lk id, frozenOf lk r with
    | some (.gbuf S _), some l => some ((id, .frozen S) :: l)
    | _, _ => none

def gonesOf : List (Nat × To) → List (Nat × Option AObj)
  | [] => []
  | (i, _) :: r => (i, none) :: gonesOf r

def solidParts : List (Nat × U) → Bool
  | [] => true
  | (_, u) :: us => solid u && solidParts us

def partsCells : List (Nat × U) → List (List U)
  | [] => []
  | (_, u) :: us => u.cells :: partsCells us

def flat : List (List U) → List U
  | [] => []
  | c :: cs => c ++ flat cs

def turnAll (f : Nat → To) : List (List U) → List (List U)
  | [] => []
  | c :: cs => U.turns f c :: turnAll f cs

def inOrder : Nat → List (Nat × U) → Bool
  | _, [] => true
  | n, (i, _) :: r => Nat.beq n i && inOrder (n + 1) r

def structAt (e : Env) (t : TypeId) (i : Nat) : Option (Nat × TyInfo) :=
  match look t e.fields with
  | some fs => match fs[i]? with
    | some (off, ft) => match look ft e.tys with
      | some ti => some (off, ti)
      | none => none
    | none => none
  | none => none

def arrAt (e : Env) (t : TypeId) (i : Nat) : Option (Nat × TyInfo) :=
  match look t e.arrs with
  | some (n, et) => bif Nat.blt i n then (match look et e.tys with
    | some ti => some (i * ti.size, ti)
    | none => none) else none
  | none => none

def fieldAt (e : Env) (t : TypeId) (i : Nat) : Option (Nat × TyInfo) :=
  match look t e.fields with
  | some _ => structAt e t i
  | none => arrAt e t i

def placeAll (pl : Nat → Option (Nat × TyInfo)) : List (Nat × U) → List U → Option (List U)
  | [], us => some us
  | (i, u) :: r, us => match pl i with
    | some (off, ti) => bif solid u && Nat.beq u.cells.length ti.size && Nat.ble (off + ti.size) us.length then placeAll pl r (writeAt us off u.cells) else none
    | none => none

def asRows (lk : Nat → Option AObj) : U → Option Rows
  | .slice S _ => some S
  | .gsl id => match lk id with
    | some (.gbuf S _) => some S
    | _ => none
  | .str s => some (.bytes s)
  | _ => none

def intOf? : U → Option Int
  | .int _ n => some n
  | _ => none

def mapHas : List (Bytes × List Cell) → Bytes → Bool
  | [], _ => false
  | (k, _) :: r, x => decide (k = x) || mapHas r x
def mapGet : List (Bytes × List Cell) → Bytes → List Cell
  | [], _ => []
  | (k, v) :: r, x => bif decide (k = x) then v else mapGet r x
def mapPut : List (Bytes × List Cell) → Bytes → List Cell → List (Bytes × List Cell)
  | [], x, v => [(x, v)]
  | (k, u) :: r, x, v => bif decide (k = x) then (k, v) :: r else (k, u) :: mapPut r x v

def Rows.zeros : RowKind → Nat → Option Rows
  | .bytes, n => some (.bytes (List.replicate n 0))
  | .ints k, n => some (.ints k (List.replicate n 0))
  | .strs, n => some (.strs (List.replicate n []))
  | .nodes, n => some (.nodes (List.replicate n ⟨0, [], [], 0⟩))
  | .toks, n => some (.toks (List.replicate n ⟨0, [], 0, 0⟩))
  | .exprs, n => some (.exprs (List.replicate n (.mk 0 0 0 0 0 [] [])))
  | .tab _, _ => none

/-- a byte is one -/
def byteIn : RowKind → List U → Bool
  | .bytes, [.int .u8 n] => decide (0 ≤ n) && decide (n < 256)
  | _, _ => true
def bytesIn (k : RowKind) : List (List U) → Bool
  | [] => true
  | c :: cs => byteIn k c && bytesIn k cs

/-- a literal's rows -/
def litEff (e : Env) (lk : Nat → Option AObj) (t : TypeId) (n : Nat) (parts : List (Nat × U)) : Option Eff :=
  match look t e.elems with
  | some (_, k) =>
    bif inOrder 0 parts && solidParts parts && Nat.beq parts.length n && Nat.ble (n * k.width) 16777216 then
      match frozenOf lk (heldBufs (flat (partsCells parts))) with
      | some tn => match Rows.ofRows k (turnAll (asTo tn) (partsCells parts)) with
        | some S => some ⟨.slice S true, bytesIn k (partsCells parts), tn, gonesOf tn⟩
        | none => none
      | none => none
    else none
  | none => none

/-- how rows of that slice type are kept -/
def isElem (e : Env) (t : TypeId) (k : RowKind) : Bool := match look t e.elems with | some (_, j) => decide (j = k) | none => false

def appendEff (e : Env) (lk : Nat → Option AObj) (d : Option Tmp) (t : TypeId) (x y : U) : Option Eff :=
  match d, asRows lk y with
  | some d, some Y =>
    bif !notParam d then none else match x with
    | .slice S true => match S.append Y with
      | some Z => bif isElem e t S.kind then some ⟨.gsl d, (Nat.beq S.len 0 || Nat.blt 0 Y.len) && decide (S.len + Y.len ≤ lim), [(d, .gone)], [(d, some (.gbuf Z true))]⟩ else none
      | none => none
    | .gsl id => bif Nat.beq id d then none else match lk id with
      | some (.gbuf S w) => match S.append Y with
        | some Z => bif isElem e t S.kind then some ⟨.gsl d, decide (S.len + Y.len ≤ lim), [(id, .gone), (d, .gone)], [(id, none), (d, some (.gbuf Z (w || Nat.blt 0 Y.len)))]⟩ else none
        | none => none
      | _ => none
    | _ => none
  | _, _ => none

def bound (d : Int) : Option U → Option Int
  | none => some d
  | some (.int _ n) => some n
  | _ => none

def sliceEff (e : Env) (lk : Nat → Option AObj) (d : Option Tmp) (t : TypeId) (x : U) (lo hi : Option U) : Option Eff :=
  match x with
  | .str s => match bound 0 lo, bound (s.length : Int) hi with
    | some l, some h => bif !isKind e t 1 then none else valIf (decide (0 ≤ l) && decide (l ≤ h) && decide (h ≤ (s.length : Int))) (.str ((s.take h.toNat).drop l.toNat))
    | _, _ => none
  | .slice S f => bif !isElem e t S.kind then none else match hi with
    | none => match bound 0 lo with
      | some l => valIf (decide (0 ≤ l) && decide (l ≤ (S.len : Int))) (.slice (S.drop l.toNat) f)
      | none => none
    | some h => match bound 0 lo, intOf? h with
      | some l, some h => valIf (decide (0 ≤ l) && decide (l ≤ h) && decide (h ≤ (S.len : Int))) (.slice ((S.take h.toNat).drop l.toNat) false)
      | _, _ => none
  | .gsl id => match lo, hi, lk id, d with
    | none, some (.int _ h), some (.gbuf S true), some d => bif Nat.beq id d || !isElem e t S.kind || !notParam d then none else
      some ⟨.gsl d, decide (0 ≤ h) && decide (h ≤ (S.len : Int)), [(id, .gone), (d, .gone)], [(id, none), (d, some (.gbuf (S.take h.toNat) true))]⟩
    | _, _, _, _ => none
  | .elem S 0 0 => match look t e.arrs, lo, hi with
    | some (n, et), none, none => match look et e.tys with
      | some ti => bif Nat.beq S.len n && Nat.beq ti.size S.width then val (.slice S true) else none
      | none => none
    | _, _, _ => none
  | _ => none

/-- the cells of the first rows, one behind the other -/
def Rows.cellsTo (S : Rows) : Nat → List U
  | 0 => []
  | n + 1 => S.cellsTo n ++ S.row n

def loadEff (e : Env) (lk : Nat → Option AObj) (t : TypeId) (x : U) : Option Eff :=
  match look t e.tys with
  | none => none
  | some ti => match x with
    | .ptr id off => match lk id with
      | some (.cells us) => bif Nat.ble (off + ti.size) us.length then val (partU ti us off) else none
      | _ => none
    | .elem S i off => bif Nat.ble (off + ti.size) S.width then val (partU ti (S.row i) off) else
        bif Nat.beq i 0 && (Nat.beq off 0 && Nat.beq ti.size (S.len * S.width)) then val (partU ti (S.cellsTo S.len) 0) else none
    | .gelem id w i off => match lk id with
      | some (.gbuf S _) => bif Nat.beq w S.width && Nat.ble (off + ti.size) w then valIf (decide (i < S.len)) (partU ti (S.row i) off) else none
      | _ => none
    | _ => none

def storeEff (e : Env) (lk : Nat → Option AObj) (t : TypeId) (x v : U) : Option Eff :=
  match look t e.tys with
  | none => none
  | some ti => bif solids v.cells && Nat.beq v.cells.length ti.size then (match x with
    | .ptr id off => match lk id with
      | some (.cells us) => bif Nat.ble (off + ti.size) us.length then some ⟨.tup [], true, [], [(id, some (.cells (writeAt us off v.cells)))]⟩ else none
      | _ => none
    | .gelem id w i off => match lk id with
      | some (.gbuf S true) => bif Nat.beq w S.width && Nat.ble (off + ti.size) w then
          (match heldBufs v.cells, S.set i (writeAt (S.row i) off v.cells) with
            | [], some Z => some ⟨.tup [], byteIn S.kind (writeAt (S.row i) off v.cells) && decide (i < S.len), [], [(id, some (.gbuf Z true))]⟩
            | _, _ => none) else none
      | _ => none
    | _ => none) else none

def indexAddrEff (e : Env) (lk : Nat → Option AObj) (t : TypeId) (x : U) (n : Int) : Option Eff :=
  match x with
  | .slice S _ => bif isElem e t S.kind then valIf (decide (0 ≤ n) && decide (n < (S.len : Int))) (.elem S n.toNat 0) else none
  | .gsl id => match lk id with
    | some (.gbuf S _) => bif isElem e t S.kind then valIf (decide (0 ≤ n) && decide (n < (S.len : Int))) (.gelem id S.width n.toNat 0) else none
    | _ => none
  | .elem S 0 0 => match look t e.arrs with
    | some (m, et) => match look et e.tys with
      | some ti => bif Nat.beq S.len m && Nat.beq ti.size S.width then valIf (decide (0 ≤ n) && decide (n < (m : Int))) (.elem S n.toNat 0) else none
      | none => none
    | none => none
  | .ptr id off => match look t e.arrs with
    | some (m, et) => match look et e.tys with
      | some ti => valIf (decide (0 ≤ n) && decide (n < (m : Int))) (.ptr id (off + n.toNat * ti.size))
      | none => none
    | none => none
  | _ => none

def indexEff (e : Env) (t : TypeId) (x : U) (n : Int) : Option Eff :=
  match x with
  | .str s => bif isKind e t 1 then valIf (decide (0 ≤ n) && decide (n < (s.length : Int))) (.int .u8 ((s.getD n.toNat 0).toNat : Int)) else none
  | .agg cs => match look t e.arrs with
    | some (m, et) => match look et e.tys with
      | some ti => bif Nat.ble (m * ti.size) cs.length then valIf (decide (0 ≤ n) && decide (n < (m : Int))) (partU ti cs (n.toNat * ti.size)) else none
      | none => none
    | none => none
  | _ => none

def fieldAddrEff (e : Env) (t : TypeId) (x : U) (i : Nat) : Option Eff :=
  match structAt e t i with
  | none => none
  | some (off, ti) => bif Nat.beq ti.size 0 then none else match x with
    | .ptr id o => val (.ptr id (o + off))
    | .elem S j o => val (.elem S j (o + off))
    | .gelem id w j o => val (.gelem id w j (o + off))
    | _ => none

def convEff (e : Env) (lk : Nat → Option AObj) (s d : TypeId) (x : U) : Option Eff :=
  match x with
  | .int _ n => match look s e.ints with
    | none => none
    | some _ => match look d e.ints with
      | some k => val (.int k (k.wrap n))
      | none => bif isKind e d 1 then val (.str (Utf8.encode n).data.toList) else none
  | .str b => bif isKind e s 1 && isKind e d 1 then val (.str b) else none
  | .slice (.bytes l) _ => bif isKind e d 1 then (match look s e.elems with | some (_, .bytes) => val (.str l) | _ => none) else none
  | .gsl id => match lk id with
    | some (.gbuf (.bytes l) _) => bif isKind e d 1 then (match look s e.elems with | some (_, .bytes) => val (.str l) | _ => none) else none
    | _ => none
  | _ => none

def lenU (lk : Nat → Option AObj) : U → Option U
  | .slice S _ => some (.int .i64 (S.len : Int))
  | .gsl id => match lk id with
    | some (.gbuf S _) => some (.int .i64 (S.len : Int))
    | _ => none
  | .str s => some (.int .i64 (s.length : Int))
  | _ => none

def orNone (o : Option U) : Option Eff := match o with | some u => val u | none => none

/-- the types of what is measured, or put behind -/
def lenOK (e : Env) (lk : Nat → Option AObj) (t : TypeId) : U → Bool
  | .slice S _ => isElem e t S.kind
  | .gsl id => match lk id with
    | some (.gbuf S _) => isElem e t S.kind
    | _ => false
  | .str _ => isKind e t 1
  | _ => false

def builtinEff (e : Env) (lk : Nat → Option AObj) (b : Builtin) (d : Option Tmp) (ts : List TypeId) (us : List U) : Option Eff :=
  match b, us with
  | .len, [x] => match ts with
    | [t] => bif lenOK e lk t x then orNone (lenU lk x) else none
    | _ => none
  | .append, [x, y] => match ts with
    | [t, u] => bif lenOK e lk u y then appendEff e lk d t x y else none
    | _ => none
  | .max, [.int k a, .int j b] => bif decide (k = j) then val (.int k (if b > a then b else a)) else none
  | .min, [.int k a, .int j b] => bif decide (k = j) then val (.int k (if b < a then b else a)) else none
  | _, _ => none

def unEff (op : UnOp) (x : U) : Option Eff :=
  match op, x with
  | .not, .bool b => val (.bool (!b))
  | .neg, .int k n => val (.int k (k.wrap (0 - n)))
  | _, _ => none

def makeSliceEff (e : Env) (d : Option Tmp) (t : TypeId) (l c : U) : Option Eff :=
  match look t e.elems, l, c, d with
  | some (_, k), .int _ l, .int _ c, some d => match Rows.zeros k l.toNat with
    | some S => some ⟨.gsl d, decide (0 ≤ l) && decide (l ≤ c) && decide (c ≤ (lim : Int)), [(d, .gone)], [(d, some (.gbuf S true))]⟩
    | none => none
  | _, _, _, _ => none

def nilCheckEff : U → Option Eff
  | .ptr id off => val (.ptr id off)
  | .elem S i off => val (.elem S i off)
  | .gelem id w i off => val (.gelem id w i off)
  | .func f a b => val (.func f a b)
  | _ => none

def lookupEff (e : Env) (lk : Nat → Option AObj) (t : TypeId) (m k : U) (ok : Bool) : Option Eff :=
  match look t e.maps, m, k with
  | some (et, sig), .map id, .str x => match lk id, look et e.tys with
    | some (.map sig' es), some ti => bif decide (sig = sig') && (ti.agg && (Nat.beq sig.length ti.size && Nat.blt 1 ti.size)) then
        (let v := partU ti (tabCells (mapGet es x) sig 0) 0
         bif ok then val (.tup [v, .bool (mapHas es x)]) else val v) else none
    | _, _ => none
  | _, _, _ => none

def mapPutEff (e : Env) (lk : Nat → Option AObj) (t : TypeId) (m k v : U) : Option Eff :=
  match look t e.maps, m, k with
  | some (_, sig), .map id, .str x => match lk id, tabOf sig v.cells with
    | some (.map sig' es), some c => bif decide (sig = sig') && solid v then some ⟨.tup [], true, [], [(id, some (.map sig (mapPut es x c)))]⟩ else none
    | _, _ => none
  | _, _, _ => none

/-- a new map -/
def makeMapEff (e : Env) (d : Option Tmp) (t : TypeId) : Option Eff :=
  match look t e.maps with
  | some (_, sig) => newObj d .map (.map sig [])
  | none => none

def ifaceEff (e : Env) (t : TypeId) (x : U) : Option Eff :=
  match look t e.ints with
  | some _ => val (.iface t x)
  | none => none

def evPairs (ev : Operand → U) : List (Nat × Operand) → List (Nat × U)
  | [] => []
  | (i, x) :: r => (i, ev x) :: evPairs ev r

def elemT (e : Env) (t : TypeId) : TypeId := match look t e.elems with | some (et, _) => et | none => t

/-- which type a constant among the operands has -/
def hint (e : Env) (o : Oper) : TypeId :=
  match o.op with
  | .buildSlice t _ _ => elemT e t
  | .store t _ _ => t
  | _ => o.type

/-- does it look at what is in memory? -/
def looks : Op → Bool
  | .move _ => false
  | .assign _ => false
  | .build .. => false
  | .nilCheck _ => false
  | .binOp .. => false
  | .unOp .. => false
  | .makeFunc .. => false
  | .makeInterface .. => false
  | .makeMap .. => false
  | .fieldAddr .. => false
  | .field .. => false
  | .index .. => false
  | .extract .. => false
  | _ => true

def opEff (e : Env) (o : Oper) (ev : Operand → U) (lk : Nat → Option AObj) : Option Eff :=
  match o.op with
  | .move x => val (ev x)
  | .assign x => val (ev x)
  | .alloc t => match look t e.zeros with
    | some us => newObj o.dst (.ptr · 0) (.cells us)
    | none => none
  | .box _ x => bif solid (ev x) then newObj o.dst (.ptr · 0) (.cells (ev x).cells) else none
  | .build t ps => match look t e.zeros with
    | some us => (match look t e.fields with
      | some _ => (match placeAll (structAt e t) (evPairs ev ps.toList) us with
        | some cs => val (.agg cs)
        | none => none)
      | none => match look t e.arrs with
        | some (_, et) => (match look et e.tys with
          | some _ => (match placeAll (arrAt e t) (evPairs ev ps.toList) us with
            | some cs => val (.agg cs)
            | none => none)
          | none => none)
        | none => none)
    | none => none
  | .buildSlice t n ps => litEff e lk t n (evPairs ev ps.toList)
  | .load t x => loadEff e lk t (ev x)
  | .store t x v => storeEff e lk t (ev x) (ev v)
  | .nilCheck x => nilCheckEff (ev x)
  | .binOp op t x y _ => binEff e op t (ev x) (ev y)
  | .unOp op _ x => unEff op (ev x)
  | .convert s d x => convEff e lk s d (ev x)
  | .makeFunc (.func f) a b => val (.func f (a.toList.map ev) (b.toList.map ev))
  | .slice t x lo hi none => sliceEff e lk o.dst t (ev x) (lo.map ev) (hi.map ev)
  | .fieldAddr t x i => fieldAddrEff e t (ev x) i
  | .field t x i => match ev x, structAt e t i with
    | .agg cs, some (off, ti) => bif Nat.ble (off + ti.size) cs.length then val (partU ti cs off) else none
    | _, _ => none
  | .indexAddr t x i => match ev i with
    | .int _ n => indexAddrEff e lk t (ev x) n
    | _ => none
  | .index t x i => match ev i with
    | .int _ n => indexEff e t (ev x) n
    | _ => none
  | .range t x => match ev x with
    | .str s => bif isKind e t 1 then newObj o.dst .iter (.iter s 0) else none
    | _ => none
  | .extract x i => match ev x with
    | .tup us => match us[i]? with
      | some u => val u
      | none => none
    | _ => none
  | .makeMap t none => makeMapEff e o.dst t
  | .insert t m k v => mapPutEff e lk t (ev m) (ev k) (ev v)
  | .mapUpdate t m k v => mapPutEff e lk t (ev m) (ev k) (ev v)
  | .lookup t m k ok => lookupEff e lk t (ev m) (ev k) ok
  | .makeInterface t x => ifaceEff e t (ev x)
  | .call { callee := .builtin b, args, argTypes } => builtinEff e lk b o.dst argTypes.toList (args.toList.map ev)
  | _ => none

/-! ### calls: what can be reached is handed over under names of its own -/

def nodupN : List Nat → Bool
  | [] => true
  | i :: r => !elemN i r && nodupN r

/-- all that can be reached, each once (what is named and is not there too) -/
def reach (lk : Nat → Option AObj) : Nat → List Nat → List Nat → List Nat
  | 0, _, acc => acc
  | _, [], acc => acc
  | n + 1, i :: todo, acc =>
    bif elemN i acc then reach lk n todo acc else
    match lk i with
    | some o => reach lk n (o.ids ++ todo) (acc ++ [i])
    | none => reach lk n todo (acc ++ [i])

def reachOf (lk : Nat → Option AObj) (l : List Nat) : List Nat := reach lk 600 l []
def reachSt (st : St) (l : List Nat) : List Nat := reachOf (fun i => look i st) l

def number (b : Nat) : List Nat → List (Nat × Nat)
  | [] => []
  | i :: r => (i, b) :: number (b + 1) r

def flip : List (Nat × Nat) → List (Nat × Nat)
  | [] => []
  | (i, j) :: r => (j, i) :: flip r

/-- old names to new ones; what has none is gone -/
def nmTo (nm : List (Nat × Nat)) (i : Nat) : To :=
  match nm with
  | [] => .gone
  | (j, k) :: r => bif Nat.beq j i then .id k else nmTo r i

/-- what of a store bears new names -/
def renameSt (f : Nat → To) (lk : Nat → Option AObj) : List (Nat × Nat) → St
  | [] => []
  | (i, j) :: r => match lk i with
    | some o => (j, o.turn f) :: renameSt f lk r
    | none => renameSt f lk r

/-- the same, as what is written: what is not there is gone -/
def renameSets (f : Nat → To) (lk : Nat → Option AObj) : List (Nat × Nat) → List (Nat × Option AObj)
  | [] => []
  | (i, j) :: r => (j, (lk i).map (AObj.turn f)) :: renameSets f lk r

def sndN : List (Nat × Nat) → List Nat
  | [] => []
  | (_, j) :: r => j :: sndN r

def fstN : List (Nat × Nat) → List Nat
  | [] => []
  | (i, _) :: r => i :: fstN r

def handed (lk : Nat → Option AObj) : List Nat → St
  | [] => []
  | i :: r => match lk i with
    | some o => (i, o) :: handed lk r
    | none => handed lk r

def dstName (d : Option Tmp) : Nat := match d with | some d => 2000 + 50 * d | none => 2000
def growName (d : Option Tmp) : Nat := match d with | some d => 100000 + 50 * d | none => 99000

def keepNew : List Nat → List Nat
  | [] => []
  | i :: r => bif notParam i then i :: keepNew r else keepNew r

/-- the ids that the callee's side holds behind the call and that are no parameters', as they are come upon -/
def backIds (st2 : St) (u : U) (n : Nat) : List Nat :=
  keepNew (reachSt st2 (u.ids ++ (List.range n).map (1000 + ·)))

def putD (d : Option Tmp) (u : U) (fr : Fr) : Fr := match d with | some d => put d u fr | none => fr

/-- an argument that is a buffer of which no object knows is frozen -/
def frzArgs (lk : Nat → Option AObj) (known : List Nat) : List U → List (Nat × To)
  | [] => []
  | .gsl id :: us => bif elemN id known then frzArgs lk known us else (match lk id with
    | some (.gbuf S _) => (id, .frozen S) :: frzArgs lk known us
    | _ => frzArgs lk known us)
  | _ :: us => frzArgs lk known us

def objIds : St → List Nat
  | [] => []
  | (_, o) :: r => o.ids ++ objIds r

def params : St → List Nat
  | [] => []
  | (i, _) :: r => bif notParam i then params r else i :: params r

def keysN : St → List Nat
  | [] => []
  | (i, _) :: r => i :: keysN r

/-- an empty slice that has no room is a buffer -/
def growU (b : Nat) : U → Option (U × AObj)
  | .slice S true => match S.len with
    | 0 => some (.gsl b, .gbuf (Rows.empty S.kind) true)
    | _ => none
  | _ => none

def growCells (b : Nat) : List U → List U × St
  | [] => ([], [])
  | u :: us => match growU b u with
    | some (v, o) => let p := growCells (b + 1) us; (v :: p.1, (b, o) :: p.2)
    | none => let p := growCells b us; (u :: p.1, p.2)

/-- in all objects that are handed over -/
def growSt (ids : List Nat) (b : Nat) : St → St
  | [] => []
  | (i, o) :: r => bif elemN i ids then (match o with
      | .cells us => let p := growCells b us; (i, .cells p.1) :: p.2 ++ growSt ids (b + p.2.length) r
      | o => (i, o) :: growSt ids b r)
    else (i, o) :: growSt ids b r

/-- what is there behind a freezing -/
def thawed (fz : List (Nat × To)) (lk : Nat → Option AObj) : Nat → Option AObj :=
  match fz with
  | [] => lk
  | t :: r => fun i => match asTo (t :: r) i with
    | .same => (lk i).map (AObj.turn (asTo (t :: r)))
    | _ => none

/-- none is among the others -/
def apartN : List Nat → List Nat → Bool
  | [], _ => true
  | i :: r, l => !elemN i l && apartN r l

def notIn (l : List Nat) : List Nat → List Nat
  | [] => []
  | i :: r => bif elemN i l then notIn l r else i :: notIn l r

/-- the names that a growing has made are new, and nothing mentions them -/
def grownOK (old new : List Nat) (mentioned : List Nat) : Bool := nodupN new && apartN (notIn old new) mentioned

structure Pre where
  fz : List (Nat × To)
  ids0 : List Nat
  h0 : St
  ids : List Nat
  us : List U
  h : St

/-- what is handed over at a call, in the caller's names; known: no argument is frozen of which an object knows; none: none is frozen -/
def callPre (d : Option Tmp) (lk : Nat → Option AObj) (known : Option (List Nat)) (us : List U) : Pre :=
  let fz := match known with | some l => frzArgs lk l us | none => []
  let us := U.turns (asTo fz) us
  let ids0 := reachOf (thawed fz lk) (U.idsL us)
  let h0 := handed (thawed fz lk) ids0
  let h := growSt ids0 (growName d) h0
  ⟨fz, ids0, h0, reachSt h (U.idsL us), us, h⟩

def isNilN : List Nat → Bool
  | [] => true
  | _ => false
def allNew : List Nat → Bool
  | [] => true
  | i :: r => notParam i && allNew r
def preOK (p : Pre) : Bool :=
  (nodupN p.ids && grownOK (keysN p.h0) (keysN p.h) (U.idsL p.us ++ objIds p.h0)) &&
    (Nat.blt p.ids.length 1000 && isNilN (notIn p.ids p.ids0) && (apartN (notIn (keysN p.h0) (keysN p.h)) p.ids0 && allNew (notIn (keysN p.h0) (keysN p.h))))
def Pre.args (p : Pre) : List U := U.weaks (U.turns (nmTo (number 1000 p.ids)) p.us)
def Pre.st (p : Pre) : St := weakSt (renameSt (nmTo (number 1000 p.ids)) (fun i => look i p.h) (number 1000 p.ids))

def gones : List Nat → List (Nat × To)
  | [] => []
  | i :: r => (i, .gone) :: gones r

/-- what a call does to the caller -/
def callPost (d : Option Tmp) (p : Pre) (u : U) (st2 : St) : Eff :=
  let news := backIds st2 u p.ids.length
  let nm := flip (number 1000 p.ids) ++ number (dstName d) news
  { v := u.turn (nmTo nm)
    ok := nodupN (fstN nm) && nodupN (sndN nm)
    tn := p.fz ++ gones (notIn p.ids0 p.ids) ++ gones (sndN (number (dstName d) news))
    sets := gonesOf p.fz ++ renameSets (nmTo nm) (fun i => look i st2) nm }

def callOp (c : Ctx) (d : Option Tmp) (f : FuncId) (us : List U) (fr : Fr) (st : St) (κ : Fr → St → Out) (κp : KR) : Out :=
  let p := callPre d (fun i => look i st) (some (objIds st ++ params st)) us
  cond (preOK p) (c.tab f p.args p.st
    (fun u st2 => let e := callPost d p u st2; cond e.ok (κ (putD d e.v (turnFr' e.tn fr)) (setSt (turnSt' e.tn st) e.sets)) .fail)
    (fun u st2 => let e := callPost d p u st2; cond e.ok (κp e.v (setSt (turnSt' e.tn st) e.sets)) .fail)) .fail

/-! ### the run of a body -/

def doEff (d : Option Tmp) (fr : Fr) (st : St) (κ : Fr → St → Out) : Option Eff → Out
  | none => .fail
  | some e => cond e.ok (κ (putD d e.v (turnFr' e.tn fr)) (setSt (turnSt' e.tn st) e.sets)) .fail

def nextOp (d : Option Tmp) (x : U) (fr : Fr) (st : St) (κ : Fr → St → Out) : Out :=
  match x with
  | .iter id => match look id st with
    | some (.iter s pos) =>
      cond (decide (pos < s.length))
        (κ (putD d (.tup [.bool true, .int .i64 (pos : Int), .int .i32 ((Utf8.decode ⟨s.toArray⟩ pos).1 : Int)]) fr) (repl id (.iter s (pos + (Utf8.decode ⟨s.toArray⟩ pos).2)) st))
        (κ (putD d (.tup [.bool false]) fr) st)
    | _ => .fail
  | _ => .fail

def calleeArgs (x : U) (us : List U) : Option (FuncId × List U) :=
  match x with
  | .func f a b => some (f, a ++ us ++ b)
  | _ => none

def execOp (c : Ctx) (o : Oper) (fr : Fr) (st : St) (κ : Fr → St → Out) (κp : KR) : Out :=
  match o.op with
  | .pick x a b => match evalO c.env o.type fr x with
    | .bool t => cond t (κ (putD o.dst (evalO c.env o.type fr a) fr) st) (κ (putD o.dst (evalO c.env o.type fr b) fr) st)
    | _ => .fail
  | .next x true => nextOp o.dst (evalO c.env o.type fr x) fr st κ
  | .call { callee := .value f, args, .. } => match calleeArgs (evalO c.env o.type fr f) (args.toList.map (evalO c.env o.type fr)) with
    | some (f, us) => callOp c o.dst f us fr st κ κp
    | none => .fail
  | .panic x => match evalO c.env o.type fr x with
    | .iface t u => κp (.iface t u) st
    | _ => .fail
  | _ => doEff o.dst fr st κ (opEff c.env o (evalO c.env (hint c.env o) fr) (fun i => look i st))

def guardSlot (ops : List Oper) (g : Nat) : Option Tmp := match ops[g]? with | some o => o.dst | none => none

def execOps (c : Ctx) (ops : List Oper) : List Oper → Fr → St → (Fr → St → Out) → KR → Out
  | [], fr, st, κ, _ => κ fr st
  | o :: r, fr, st, κ, κp =>
    match o.guard with
    | none => execOp c o fr st (fun fr st => execOps c ops r fr st κ κp) κp
    | some (g, b) => match guardSlot ops g with
      | none => .fail
      | some s => match look s fr with
        | some (.bool x) =>
          cond x
            (cond b (execOp c o (put s (.bool true) fr) st (fun fr st => execOps c ops r fr st κ κp) κp) (execOps c ops r (putD o.dst (.tup []) (put s (.bool true) fr)) st κ κp))
            (cond b (execOps c ops r (putD o.dst (.tup []) (put s (.bool false) fr)) st κ κp) (execOp c o (put s (.bool false) fr) st (fun fr st => execOps c ops r fr st κ κp) κp))
        | some (.tup []) => execOps c ops r (putD o.dst (.tup []) fr) st κ κp
        | _ => .fail

end Go.Abs

/- The abstract machine, part 3: regions that draw their order, heads of loops, bodies. -/
namespace Go.Abs
open Go

/-! ### a region that draws its order: run in the order of the text; what may come up elsewhere must be apart -/

def frIds : Fr → List Nat
  | [] => []
  | (_, u) :: r => u.ids ++ frIds r

structure Log where
  i : Nat
  reads : List Nat
  writes : List Nat
  tns : List Nat
  ments : List Nat
  raw : List Nat

def idsOfTn : List (Nat × To) → List Nat
  | [] => []
  | (i, _) :: r => i :: idsOfTn r

def idsOfSets : List (Nat × Option AObj) → List Nat
  | [] => []
  | (i, _) :: r => i :: idsOfSets r

def mentsOfSets : List (Nat × Option AObj) → List Nat
  | [] => []
  | (_, some o) :: r => o.ids ++ mentsOfSets r
  | (_, none) :: r => mentsOfSets r

/-- nothing is renamed -/
def plainTn : List (Nat × To) → Bool
  | [] => true
  | (_, .id _) :: _ => false
  | _ :: r => plainTn r

def idsAtFr (fr : Fr) : List Nat → List Nat
  | [] => []
  | t :: r => (match look t fr with | some u => u.ids | none => []) ++ idsAtFr fr r

def idsAtSt (st : St) : List Nat → List Nat
  | [] => []
  | i :: r => (match look i st with | some o => o.ids | none => []) ++ idsAtSt st r

def mentsBefore (bj : Nat) : List Log → List Nat
  | [] => []
  | x :: r => bif bj.testBit x.i then x.ments ++ mentsBefore bj r else mentsBefore bj r

/-- x stands ahead of y in the text, and nothing orders them -/
def apart2 (x y : Log) : Bool :=
  apartN x.writes y.reads && (apartN x.writes y.writes && (apartN y.writes x.reads && (apartN x.tns y.ments && (apartN y.tns x.ments && (apartN x.tns y.tns && (apartN x.tns y.raw && apartN y.tns x.raw))))))

def logAll (bj : Nat) (y : Log) : List Log → Bool
  | [] => true
  | x :: r => (bj.testBit x.i || apart2 x y) && logAll bj y r

def readsOf (op : Op) (ev : Operand → U) (m : List Nat) : List Nat :=
  match op with
  | .store _ x _ => (ev x).ids
  | op => bif looks op then m else []

def effLog (j bj : Nat) (fr0 : Fr) (st0 : St) (names reads : List Nat) (log : List Log) (e : Eff) : Log :=
  ⟨j, reads, idsOfSets e.sets, idsOfTn e.tn, e.v.ids ++ mentsOfSets e.sets, idsAtFr fr0 names ++ (idsAtSt st0 reads ++ mentsBefore bj log)⟩

/-- fr0, st0: what stood ahead of the region -/
def takeD (o : Oper) (j bj : Nat) (fr0 : Fr) (st0 : St) (names : List Nat) (log : List Log) (fr : Fr) (st : St) (κ : List Log → Fr → St → Out) (reads : List Nat) (e : Eff) : Out :=
  cond e.ok (cond (plainTn e.tn && logAll bj (effLog j bj fr0 st0 names reads log e) log)
    (κ (effLog j bj fr0 st0 names reads log e :: log) (putD o.dst e.v (turnFr' e.tn fr)) (setSt (turnSt' e.tn st) e.sets)) .fail) .fail

/-- an operation of a region that draws -/
def execOpD (c : Ctx) (o : Oper) (j bj : Nat) (fr0 : Fr) (st0 : St) (names : List Nat) (log : List Log) (fr : Fr) (st : St) (κ : List Log → Fr → St → Out) : Out :=
  let ev := evalO c.env (hint c.env o) fr
  match o.op with
  | .pick x a b => match ev x with
    | .bool t => cond t (takeD o j bj fr0 st0 names log fr st κ [] ⟨ev a, true, [], []⟩) (takeD o j bj fr0 st0 names log fr st κ [] ⟨ev b, true, [], []⟩)
    | _ => .fail
  | .next _ _ => .fail
  | .call { callee := .value f, args, .. } => match calleeArgs (ev f) (args.toList.map ev) with
    | some (f, us) =>
      let p := callPre o.dst (fun i => look i st) none us
      cond (preOK p) (c.tab f p.args p.st (fun u st2 => takeD o j bj fr0 st0 names log fr st κ p.ids0 (callPost o.dst p u st2)) (fun _ _ => .fail)) .fail
    | none => .fail
  | .panic _ => .fail
  | _ =>
    let reads := readsOf o.op ev (U.idsL (o.op.operands.toList.map ev))
    match opEff c.env o ev (fun i => bif elemN i reads then look i st else none) with
    | none => .fail
    | some e => takeD o j bj fr0 st0 names log fr st κ reads e

/-- what is left out -/
def skipD (o : Oper) (j bj : Nat) (fr0 : Fr) (st0 : St) (names : List Nat) (log : List Log) (fr : Fr) (st : St) (κ : List Log → Fr → St → Out) : Out :=
  takeD o j bj fr0 st0 names log fr st κ [] ⟨.tup [], true, [], []⟩

/-! what orders what: one number an operation, a bit for each one that comes ahead of it -/

def tmpsOf : List Operand → List Nat
  | [] => []
  | .tmp t :: r => t :: tmpsOf r
  | _ :: r => tmpsOf r

def guardTmp (ops : List Oper) (o : Oper) : List Nat :=
  match o.guard with
  | some (g, _) => match guardSlot ops g with
    | some s => [s]
    | none => []
  | none => []

/-- the slots that an operation looks at -/
def namesOf (ops : List Oper) (o : Oper) : List Nat := guardTmp ops o ++ tmpsOf o.op.operands.toList

def execDrawn (c : Ctx) (ops : List Oper) (bs : List Nat) (fr0 : Fr) (st0 : St) : List Oper → Nat → List Log → Fr → St → (Fr → St → Out) → Out
  | [], _, _, fr, st, κ => κ fr st
  | o :: r, j, log, fr, st, κ =>
    let go := fun fr => execOpD c o j (bs.getD j 0) fr0 st0 (namesOf ops o) log fr st (fun log fr st => execDrawn c ops bs fr0 st0 r (j + 1) log fr st κ)
    let skip := fun fr => skipD o j (bs.getD j 0) fr0 st0 (namesOf ops o) log fr st (fun log fr st => execDrawn c ops bs fr0 st0 r (j + 1) log fr st κ)
    match o.guard with
    | none => go fr
    | some (g, b) => match guardSlot ops g with
      | none => .fail
      | some s => match look s fr with
        | some (.bool x) =>
          cond x
            (cond b (go (put s (.bool true) fr)) (skip (put s (.bool true) fr)))
            (cond b (skip (put s (.bool false) fr)) (go (put s (.bool false) fr)))
        | some (.tup []) => skip fr
        | _ => .fail

def maskOf (acc : List Nat) : List Edge → Nat
  | [] => 0
  | e :: r => bif Region.binds .any e then Nat.lor (Nat.lor (2 ^ e.on) (acc.getD e.on 0)) (maskOf acc r) else maskOf acc r

def befs : List Oper → List Nat → List Nat
  | [], acc => acc
  | o :: r, acc => befs r (acc ++ [maskOf acc o.after.toList])

/-- all that stands behind e comes behind all that stands ahead of it -/
def isCut (bs : List Nat) (e : Nat) : Bool := (bs.drop e).all fun b => Nat.beq (Nat.land b (2 ^ e - 1)) (2 ^ e - 1)

/-- where a region falls into parts that come one behind the other: the parts' ends -/
def cutsOf (bs : List Nat) (n : Nat) : List Nat := (List.range (n + 1)).filter fun e => Nat.blt 0 e && isCut bs e

def blocksB (bs : List Nat) (n : Nat) : Nat → List Nat → Bool
  | j, [] => Nat.beq j n
  | j, e :: r => Nat.blt j e && (Nat.ble e n && (isCut bs e && blocksB bs n e r))

/-- part by part -/
def execBlocks (c : Ctx) (ops : List Oper) (bs : List Nat) : List Nat → Nat → Fr → St → (Fr → St → Out) → KR → Out
  | [], _, fr, st, κ, _ => κ fr st
  | e :: r, j, fr, st, κ, κp =>
    cond (Nat.beq e (j + 1))
      (execOps c ops ((ops.drop j).take 1) fr st (fun fr st => execBlocks c ops bs r e fr st κ κp) κp)
      (execDrawn c ops bs fr st ((ops.drop j).take (e - j)) j [] fr st (fun fr st => execBlocks c ops bs r e fr st κ κp))

def dstL (o : Oper) : List Nat := match o.dst with | some d => [d] | none => []
def unlike (ops : List Oper) (x y : Oper) : Bool := apartN (dstL x) (namesOf ops y) && apartN (dstL y) (namesOf ops x) && apartN (dstL x) (dstL y)

/-- a region that draws: all edges lead back; the bits are the edges'; what touches one slot is ordered -/
def drawOK (ops : List Oper) : Bool :=
  let bs := befs ops []
  (Nat.beq bs.length ops.length && blocksB bs ops.length 0 (cutsOf bs ops.length)) && (List.range ops.length).all fun j =>
    ((ops.getD j default).after.toList.all fun g => !Region.binds .any g || Nat.blt g.on j) && (List.range j).all fun i =>
      (!(bs.getD j 0).testBit i || (ops.getD j default).after.toList.any fun g => Region.binds .any g && (Nat.beq g.on i || (Nat.blt i g.on && (bs.getD g.on 0).testBit i))) &&
      ((bs.getD j 0).testBit i || unlike ops (ops.getD i default) (ops.getD j default))

def dstsOK (nt : Nat) : List Oper → Bool
  | [] => true
  | o :: r => (match o.dst with | some d => Nat.blt d nt | none => true) && dstsOK nt r

def allBelow (nt : Nat) : List Nat → Bool
  | [] => true
  | t :: r => Nat.blt t nt && allBelow nt r

/-- what is looked at of a body's text, once -/
def codeOK (nt : Nat) : Code → Bool
  | .region _ ops draw => dstsOK nt ops.toList && (!draw || drawOK ops.toList)
  | .seq a b => codeOK nt a && codeOK nt b
  | .cond _ a b => codeOK nt a && codeOK nt b
  | .block _ b => codeOK nt b
  | .loop b => codeOK nt b
  | _ => true

/-! ### names made alike: at the head of a loop, at the end of a call -/

def keepFr (fr : Fr) : List Nat → Fr
  | [] => []
  | t :: r => (t, (look t fr).getD .undef) :: keepFr fr r

def isBuf (lk : Nat → Option AObj) (i : Nat) : Bool := match lk i with | some (.gbuf _ _) => true | _ => false

/-- new names from b on for those that ask for one, as they are come upon -/
def newNames (p : Nat → Bool) (b : Nat) : List Nat → List (Nat × Nat)
  | [] => []
  | i :: r => bif p i then (i, b) :: newNames p (b + 1) r else (i, i) :: newNames p b r

structure Head where
  keep : List Nat
  grow : List (Nat × Bool)          -- slots in which a buffer stands (true: one of which nothing is written anew)
  cells : List (Nat × Nat × Bool)   -- likewise cells of objects
  out : List Nat                    -- the slots kept behind the loop
  res : List Nat                    -- the results' slots

/-- a slice that has no room becomes a buffer; a buffer one of which nothing is written anew, where that is asked -/
def headBuf (weak : Bool) (b : Nat) (u : U) (st : St) : U × St :=
  match u with
  | .slice S true => bif weak then (.gsl b, st ++ [(b, .gbuf S false)]) else (match growU b u with
    | some (v, o) => (v, st ++ [(b, o)])
    | none => (u, st))
  | .gsl id => bif weak then (match look id st with
    | some (.gbuf S _) => (u, repl id (.gbuf S false) st)
    | _ => (u, st)) else (u, st)
  | u => (u, st)

def growSlots (b : Nat) : List (Nat × Bool) → Fr → St → Fr × St
  | [], fr, st => (fr, st)
  | (t, k) :: r, fr, st => match look t fr with
    | some u => growSlots (b + 1) r (repl t (headBuf k b u st).1 fr) (headBuf k b u st).2
    | none => growSlots (b + 1) r fr st

def growObjs (b : Nat) : List (Nat × Nat × Bool) → St → St
  | [], st => st
  | (id, off, k) :: r, st => match look id st with
    | some (.cells us) => growObjs (b + 1) r (repl id (.cells (us.set off (headBuf k b (us.getD off .undef) st).1)) (headBuf k b (us.getD off .undef) st).2)
    | _ => growObjs (b + 1) r st

def live (fr : Fr) (st : St) : List Nat := reachSt st (frIds fr ++ params st)

/-- what is kept, under names alike -/
def canonFr (keep : List Nat) (fr : Fr) (st : St) (k : Fr → St → Out) : Out :=
  let fr1 := keepFr fr keep
  let lk := fun i => look i st
  let l := live fr1 st
  let nm := newNames (fun i => isBuf lk i && (notParam i || elemN i (objIds st))) 300000 l
  cond (nodupN l && nodupN (sndN nm)) (k (weakFr (turnFr (nmTo nm) fr1)) (weakSt (renameSt (nmTo nm) lk nm))) .fail

/-- at a loop's head -/
def headOf (h : Head) (fr : Fr) (st : St) (k : Fr → St → Out) : Out :=
  let p := growSlots 700000 h.grow fr st
  let s := growObjs 710000 h.cells p.2
  cond (grownOK (keysN st) (keysN s) (frIds fr ++ objIds st)) (canonFr h.keep p.1 s k) .fail

/-! ### bodies -/

structure FCtx extends Ctx where
  heads : List (Nat × Head)
  sects : List (Nat × Head) := []                                        -- parts of the text that stand by themselves
  sectT : Nat → Option (Fr → St → K → KR → Out) := fun _ => none

def headsOK (nt : Nat) : List (Nat × Head) → Bool
  | [] => true
  | (_, h) :: r => (allBelow nt h.keep && allBelow nt h.out && allBelow nt h.res) && headsOK nt r

def loopStep (run : Fr → St → K → KR → Out) (id : Nat) (h : Option Head) (κ : K) (κp : KR) (next : Fr → St → Out) (fr : Fr) (st : St) : Out :=
  run fr st (fun ex fr st => match h with
    | some h => (match ex with
      | .normal => headOf h fr st next
      | .exit j => bif Nat.beq j id then canonFr h.out fr st (κ .normal) else .fail
      | .ret => canonFr h.res fr st (κ .ret))
    | none => (match ex with
      | .normal => next fr st
      | .exit j => bif Nat.beq j id then κ .normal fr st else κ (.exit j) fr st
      | .ret => κ .ret fr st)) κp

def loopRun (run : Fr → St → K → KR → Out) (id : Nat) (h : Option Head) (κ : K) (κp : KR) : Nat → Fr → St → Out
  | 0, _, _ => .fail
  | n + 1, fr, st => loopStep run id h κ κp (loopRun run id h κ κp n) fr st

def condLit (x : Operand) (b : Bool) (fr : Fr) : Fr := match x with | .tmp t => put t (.bool b) fr | _ => fr

/-- a part's number -/
def sectKey : Code → Option Nat
  | .region id _ _ => some (2 * id)
  | .cond (.tmp t) _ _ => some (2 * t + 1)
  | _ => none

def sectEnd (h : Head) (κ : K) : K := fun ex fr st => match ex with
  | .normal => canonFr h.out fr st (κ .normal)
  | .ret => canonFr h.res fr st (κ .ret)
  | .exit _ => .fail

def sectOr (c : FCtx) (a : Code) (run : Fr → St → K → KR → Out) (fr : Fr) (st : St) (κ : K) (κp : KR) : Out :=
  match sectKey a with
  | none => run fr st κ κp
  | some k => match look k c.sects with
    | none => run fr st κ κp
    | some h => canonFr h.keep fr st fun fr st => match c.sectT k with
      | some f => f fr st κ κp
      | none => run fr st (sectEnd h κ) κp

def exec (c : FCtx) : Code → Fr → St → K → KR → Out
  | .skip, fr, st, κ, _ => κ .normal fr st
  | .region _ ops draw, fr, st, κ, κp =>
    cond draw
      (execBlocks c.toCtx ops.toList (befs ops.toList []) (cutsOf (befs ops.toList []) ops.toList.length) 0 fr st (κ .normal) κp)
      (execOps c.toCtx ops.toList ops.toList fr st (κ .normal) κp)
  | .seq a b, fr, st, κ, κp => sectOr c a (exec c a) fr st (fun ex fr st => match ex with
      | .normal => exec c b fr st κ κp
      | ex => κ ex fr st) κp
  | .cond x a b, fr, st, κ, κp => match evalO c.env 0 fr x with
    | .bool t => cond t (exec c a (condLit x true fr) st κ κp) (exec c b (condLit x false fr) st κ κp)
    | _ => .fail
  | .block id (.loop body), fr, st, κ, κp =>
    match look id c.heads, c.loops id with
    | some h, some f => headOf h fr st (fun fr st => f fr st κ κp)
    | some h, none => headOf h fr st (loopRun (exec c body) id (some h) κ κp c.fuel)
    | none, _ => loopRun (exec c body) id none κ κp c.fuel fr st
  | .block id b, fr, st, κ, κp => exec c b fr st (fun ex fr st => match ex with
      | .exit j => bif Nat.beq j id then κ .normal fr st else κ (.exit j) fr st
      | ex => κ ex fr st) κp
  | .exit id, fr, st, κ, _ => κ (.exit id) fr st
  | .ret, fr, st, κ, _ => κ .ret fr st
  | _, _, _, _, _ => .fail

/-! ### the end of a call -/

def resOne (e : Env) (fr : Fr) (st : St) : ResultVar → U
  | .tmp t => (look t fr).getD .undef
  | .cell t ty => match look ty e.tys, (look t fr).getD .undef with
    | some ti, .ptr id off => match look id st with
      | some (.cells us) => bif Nat.ble (off + ti.size) us.length then partU ti us off else .undef
      | _ => .undef
    | _, _ => .undef

def resAll (e : Env) (fr : Fr) (st : St) : List ResultVar → List U
  | [] => []
  | r :: rs => resOne e fr st r :: resAll e fr st rs

def oneOf : List U → U
  | [u] => u
  | us => .tup us

def cellsAll : List U → List U
  | [] => []
  | u :: us => u.cells ++ cellsAll us

def isUndef : U → Bool
  | .undef => true
  | _ => false

def anyUndef : List U → Bool
  | [] => false
  | u :: r => isUndef u || anyUndef r

/-- new names for all that is no parameter's, and for all buffers that something holds -/
def canonRet (u : U) (st : St) (k : U → St → Out) : Out :=
  let s := growSt (reachSt st (params st)) 730000 st
  let lk := fun i => look i s
  let l := reachSt s (u.ids ++ params s)
  let nm := newNames (fun i => notParam i || (isBuf lk i && elemN i (u.ids ++ objIds s))) 500000 l
  cond (grownOK (keysN st) (keysN s) (u.ids ++ objIds st) && nodupN l && nodupN (sndN nm)) (k (u.turn (nmTo nm)).weak (weakSt (renameSt (nmTo nm) lk nm))) .fail

def finish (c : FCtx) : K := fun ex fr st =>
  match ex with
  | .exit _ => .fail
  | _ =>
    let us := resAll c.env fr st c.results
    cond (anyUndef us) .fail
      (match frozenOf (fun i => look i st) (heldBufs (cellsAll us)) with
        | some tn => canonRet ((oneOf us).turn (asTo tn)) (setSt (turnSt' tn st) (gonesOf tn)) .ret
        | none => .fail)

def finishP : KR := fun u st => canonRet u st .pan

def argFr (n : Nat) : List U → Fr
  | [] => []
  | u :: us => (n, u) :: argFr (n + 1) us

def bodyRun (c : FCtx) (body : Code) (us : List U) (st : St) : Out :=
  exec c body (argFr 0 us) st (finish c) finishP

/-! ### tables -/

def goO {α : Type} (o : Option α) (κ : α → Out) : Out := match o with | none => .fail | some a => κ a
def goS {α β : Type} (o : Option (α ⊕ β)) (κ : α → Out) (κ' : β → Out) : Out := match o with | none => .fail | some (.inl a) => κ a | some (.inr b) => κ' b

/-- what a call comes to: a value of a type of its own, told by its text -/
inductive CallX where
  | plain {α : Type} (val : Option α) (ret : α → U × St)
  | pan {α β : Type} (val : Option (α ⊕ β)) (ret : α → U × St) (pan : β → U × St)

def CallX.go (x : CallX) (κ κp : KR) : Out :=
  match x with
  | .plain v r => goO v (fun a => κ (r a).1 (r a).2)
  | .pan v r p => goS v (fun a => κ (r a).1 (r a).2) (fun b => κp (p b).1 (p b).2)

abbrev Entry := List U → St → Option CallX

def tableOf (l : List (FuncId × Entry)) : Table := fun f us st κ κp =>
  match look f l with
  | some en => match en us st with
    | some x => x.go κ κp
    | none => .fail
  | none => .fail

end Go.Abs

/- Typed functions: how what may fail is put together; and how that is carried to the machine's outcomes. -/
namespace Go.Abs
open Go

def bindS {α β γ : Type} (o : Option (α ⊕ β)) (f : α → Option γ) (g : β → Option γ) : Option γ :=
  match o with
  | none => none
  | some (.inl a) => f a
  | some (.inr b) => g b

def XE.re (e : XE) : XE := .mk e.kind e.pos e.axis e.test e.num e.text e.kids
theorem XE.re_eq (e : XE) : e.re = e := by cases e; rfl

section
variable {α β γ δ : Type}
theorem goO_cond (c : Bool) (a b : Option α) (κ : α → Out) : goO (cond c a b) κ = cond c (goO a κ) (goO b κ) := by cases c <;> rfl
theorem goO_none (κ : α → Out) : goO (none : Option α) κ = .fail := rfl
theorem goO_some (a : α) (κ : α → Out) : goO (some a) κ = κ a := rfl
theorem goO_bind (o : Option β) (f : β → Option α) (κ : α → Out) : goO (o.bind f) κ = goO o (fun b => goO (f b) κ) := by cases o <;> rfl
theorem goO_bindS (o : Option (β ⊕ γ)) (f : β → Option α) (g : γ → Option α) (κ : α → Out) : goO (bindS o f g) κ = goS o (fun b => goO (f b) κ) (fun b => goO (g b) κ) := by
  rcases o with _ | b | b <;> rfl
theorem goS_cond (c : Bool) (a b : Option (α ⊕ β)) (κ : α → Out) (κ' : β → Out) : goS (cond c a b) κ κ' = cond c (goS a κ κ') (goS b κ κ') := by cases c <;> rfl
theorem goS_none (κ : α → Out) (κ' : β → Out) : goS (none : Option (α ⊕ β)) κ κ' = .fail := rfl
theorem goS_inl (a : α) (κ : α → Out) (κ' : β → Out) : goS (some (.inl a)) κ κ' = κ a := rfl
theorem goS_inr (b : β) (κ : α → Out) (κ' : β → Out) : goS (some (.inr b)) κ κ' = κ' b := rfl
theorem goS_bind (o : Option γ) (f : γ → Option (α ⊕ β)) (κ : α → Out) (κ' : β → Out) : goS (o.bind f) κ κ' = goO o (fun c => goS (f c) κ κ') := by cases o <;> rfl
theorem goS_bindS (o : Option (γ ⊕ δ)) (f : γ → Option (α ⊕ β)) (g : δ → Option (α ⊕ β)) (κ : α → Out) (κ' : β → Out) :
    goS (bindS o f g) κ κ' = goS o (fun c => goS (f c) κ κ') (fun c => goS (g c) κ κ') := by
  rcases o with _ | b | b <;> rfl
end

def bodyOf (f : Func) : Code := match f.body with | some c => c | none => .skip

end Go.Abs
namespace Go.Abs
open Go
/-- the body of the loop in the block of that number -/
def loopIn (id : Nat) : Code → Option Code
  | .block i (.loop b) => bif Nat.beq i id then some b else loopIn id b
  | .block _ b => loopIn id b
  | .seq a b => match loopIn id a with | some c => some c | none => loopIn id b
  | .cond _ a b => match loopIn id a with | some c => some c | none => loopIn id b
  | .loop b => loopIn id b
  | _ => none
def loopBody (id : Nat) (c : Code) : Code := match loopIn id c with | some b => b | none => .skip
end Go.Abs
namespace Go.Abs
open Go
/-- all loops that stand in blocks of their own, by the blocks' numbers -/
def loopsOf : Code → List (Nat × Code)
  | .block i (.loop b) => (i, b) :: loopsOf b
  | .block _ b => loopsOf b
  | .seq a b => loopsOf a ++ loopsOf b
  | .cond _ a b => loopsOf a ++ loopsOf b
  | .loop b => loopsOf b
  | _ => []
/-- all parts that have a number and something behind them -/
def sectsOf : Code → List (Nat × Code)
  | .seq a b => (match sectKey a with | some k => [(k, a)] | none => []) ++ (sectsOf a ++ sectsOf b)
  | .block _ b => sectsOf b
  | .cond _ a b => sectsOf a ++ sectsOf b
  | .loop b => sectsOf b
  | _ => []
def sectBody (k : Nat) (c : Code) : Code := match look k (sectsOf c) with | some b => b | none => .skip
end Go.Abs

/- Library functions that stand by their contracts: as typed functions. No program in sight. -/
namespace Go.Abs
open Go

def hk_contains (s t : Bytes) : Option Bool := bif decide (s.length < 4294967281) then some (Lib.contains s t) else none
def hk_valid (s : Bytes) : Option Bool := bif decide (s.length ≤ 9223372036854775807) then some (Lib.validD s) else none

end Go.Abs

