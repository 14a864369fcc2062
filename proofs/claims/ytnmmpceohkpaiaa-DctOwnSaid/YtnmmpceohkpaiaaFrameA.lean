/- The abstract interpreter of this session's proofs, part A: types of data, abstract values, decision trees. No program in sight. -/
import Derived.RangeFuncCalls
import Derived.RangeFuncLeaves
import Derived.Laws.AppendOwn
import Derived.Laws.MakeOwn
import Derived.Laws.OwnMore
import Derived.KernelRfl
import Derived.WideKeyEntry
import Derived.DeepKeys3
set_option linter.unusedVariables false
set_option linter.unusedSimpArgs false
namespace Go.Sh

/-- The types of data. 'pair' and 'unit' put cells together; 'agg' is a struct's or an array's value. -/
inductive Ty where
  | int (k : IntKind) | bool | unit
  | pair (a b : Ty)
  | agg (t : Ty)
  | list (t : Ty)
  | ref (t : Ty)
  | clo (f : FuncId) (first caps : Ty)
  | self (f : FuncId) (caps : Ty)
  | sum (a b : Ty)
  deriving DecidableEq

@[reducible] def Ty.den : Ty → Type
  | .int _ => Int
  | .bool => Bool
  | .unit => Unit
  | .pair a b => a.den × b.den
  | .agg t => t.den
  | .list t => List t.den
  | .ref t => t.den
  | .clo _ a b => a.den × b.den
  | .self _ c => c.den
  | .sum a b => a.den ⊕ b.den

def Ty.nc : Ty → Nat
  | .unit | .sum .. => 0
  | .pair a b => a.nc + b.nc
  | .agg t => t.nc
  | _ => 1

def Ty.dflt : (t : Ty) → t.den
  | .int _ => (0 : Int)
  | .bool => false
  | .unit => ()
  | .pair a b => (a.dflt, b.dflt)
  | .agg t => t.dflt
  | .list t => ([] : List t.den)
  | .ref t => t.dflt
  | .clo _ a b => (a.dflt, b.dflt)
  | .self _ c => c.dflt
  | .sum a _ => .inl a.dflt

def Ty.isAgg : Ty → Bool
  | .agg _ => true
  | _ => false

/-- One cell's type. -/
def Ty.one : Ty → Bool
  | .int _ | .bool | .list _ | .ref _ | .clo .. | .self .. => true
  | _ => false

/-- No memory is needed to tell it. -/
def Ty.flat : Ty → Bool
  | .int _ | .bool | .unit => true
  | .pair a b => a.flat && b.flat
  | .agg t => t.flat
  | _ => false

/-- A datum of one cell with its type. -/
structure D where
  t : Ty
  x : t.den

/-- The abstract value of one cell. -/
inductive A0 where
  | top
  | dat (t : Ty) (x : t.den)
  | nils
  | sl (id : Nat)
  | slp (id off len : Nat) (ex : Bool)
  | ptr (id off : Nat)
  | vptr (id i j : Nat)
  | rp (ds : List D)
  | fn (f : FuncId) (caps : List Nat)
  | yld
  /-- a slice that is a block of the frame's own, of cells that are one value each -/
  | bsl (id len : Nat)

/-- A value: one cell, or a struct's or an array's cells. -/
structure A1 where
  agg : Bool
  cs : List A0

inductive AV where
  | v (x : A1)
  | tup (xs : List A1)

def AV.one (a : A0) : AV := .v ⟨false, [a]⟩
def AV.agg (cs : List A0) : AV := .v ⟨true, cs⟩
def AV.top : AV := .one .top
def AV.int (k : IntKind) (n : Int) : AV := .one (.dat (.int k) n)
def AV.bool (b : Bool) : AV := .one (.dat .bool b)

/-- What a block of the frame's own holds. -/
inductive AObj where
  | box (cells : List A0) (fz : Bool)
  | vec (e : TypeId) (t : Ty) (xs : List t.den) (fz : Bool)
  /-- a map: its keys are two whole numbers -/
  | mapo (kd : IntKind) (v : Ty) (xs : List ((Int × Int) × v.den)) (fz : Bool)

def AObj.fz : AObj → Bool
  | .box _ b => b
  | .vec _ _ _ b => b
  | .mapo _ _ _ b => b

/-- Looking up, and putting in. -/
def mget {α : Type} : List ((Int × Int) × α) → Int → Int → Option α
  | [], _, _ => none
  | (k, x) :: r, a, b => bif a == k.1 && b == k.2 then some x else mget r a b
def mput {α : Type} : List ((Int × Int) × α) → Int → Int → α → List ((Int × Int) × α)
  | [], a, b, x => [((a, b), x)]
  | (k, y) :: r, a, b, x => bif a == k.1 && b == k.2 then ((a, b), x) :: r else (k, y) :: mput r a b x

structure St (G : Type) where
  s : Nat → AV
  h : Nat → Option AObj
  n : Nat
  g : G

def upd {α : Type} (f : Nat → α) (i : Nat) (v : α) : Nat → α := fun j => if j = i then v else f j

/-- Decision trees. -/
inductive Tree (α : Type) where
  | ret (a : α)
  | fail
  | ite (b : Bool) (x y : Tree α)
  | call (t : Ty) (o : Option t.den) (k : t.den → Tree α)
  | cas (a b : Ty) (y : a.den ⊕ b.den) (f : a.den → Tree α) (g : b.den → Tree α)

namespace Tree
def bind {α β : Type} : Tree α → (α → Tree β) → Tree β
  | .ret a, f => f a
  | .fail, _ => .fail
  | .ite b x y, f => .ite b (x.bind f) (y.bind f)
  | .call t o k, f => .call t o fun x => (k x).bind f
  | .cas a b y p q, f => .cas a b y (fun x => (p x).bind f) (fun x => (q x).bind f)
def eval {α : Type} : Tree α → Option α
  | .ret a => some a
  | .fail => none
  | .ite b x y => bif b then x.eval else y.eval
  | .call _ o k => o.bind fun x => (k x).eval
  | .cas _ _ y p q => y.elim (fun x => (p x).eval) (fun x => (q x).eval)
def ofOpt {α : Type} : Option α → Tree α
  | some a => .ret a
  | none => .fail
def need (b : Bool) {α : Type} (x : Tree α) : Tree α := .ite b x .fail
theorem eval_bind {α β : Type} (t : Tree α) (f : α → Tree β) : (t.bind f).eval = t.eval.bind fun a => (f a).eval := by
  induction t with
  | ret a => rfl
  | fail => rfl
  | ite b x y ihx ihy => cases b <;> simp [bind, eval, ihx, ihy]
  | call t o k ih => cases o <;> simp [bind, eval, ih]
  | cas a b y p q ihp ihq => cases y <;> simp [bind, eval, ihp, ihq]
theorem eval_need {α : Type} {b : Bool} {x : Tree α} {r : α} (h : (need b x).eval = some r) : b = true ∧ x.eval = some r := by
  cases b <;> simp_all [need, eval]
theorem eval_ite {α : Type} {b : Bool} {x y : Tree α} {r : α} (h : (Tree.ite b x y).eval = some r) : (b = true ∧ x.eval = some r) ∨ (b = false ∧ y.eval = some r) := by
  cases b <;> simp_all [eval]
theorem eval_bind_some {α β : Type} {t : Tree α} {f : α → Tree β} {r : β} (h : (t.bind f).eval = some r) : ∃ a, t.eval = some a ∧ (f a).eval = some r := by
  rw [eval_bind] at h
  cases ht : t.eval with
  | none => simp [ht] at h
  | some a => exact ⟨a, rfl, by simpa [ht] using h⟩
theorem eval_call {α : Type} {t : Ty} {o : Option t.den} {k : t.den → Tree α} {r : α} (h : (Tree.call t o k).eval = some r) : ∃ x, o = some x ∧ (k x).eval = some r := by
  cases o with
  | none => simp [eval] at h
  | some x => exact ⟨x, rfl, by simpa [eval] using h⟩
theorem eval_ofOpt {α : Type} {o : Option α} {r : α} (h : (ofOpt o).eval = some r) : o = some r := by
  cases o <;> simp_all [ofOpt, eval]
end Tree
end Go.Sh

namespace Go.Sh

/-! ### Data and cells -/
def explode : (t : Ty) → t.den → List D
  | .unit, _ => []
  | .pair a b, x => explode a x.1 ++ explode b x.2
  | .agg t, x => explode t x
  | .int k, x => [⟨.int k, x⟩]
  | .bool, x => [⟨.bool, x⟩]
  | .list t, x => [⟨.list t, x⟩]
  | .ref t, x => [⟨.ref t, x⟩]
  | .clo f a b, x => [⟨.clo f a b, x⟩]
  | .self f c, x => [⟨.self f c, x⟩]
  | .sum _ _, _ => []

def D.a0 (d : D) : A0 := .dat d.t d.x
def cast? {t u : Ty} (x : t.den) : Option u.den := if h : t = u then some (h ▸ x) else none

def cutAt {α : Type} (off len : Nat) (xs : List α) : List α := match off with
  | 0 => xs.take len
  | o + 1 => (xs.drop (o + 1)).take len
def dataOf (h : Nat → Option AObj) : A0 → Option D
  | .dat t x => some ⟨t, x⟩
  | .sl id => match h id with
    | some (.vec _ t xs _) => some ⟨.list t, xs⟩
    | _ => none
  | .slp id off len _ => match h id with
    | some (.vec _ t xs _) => some ⟨.list t, cutAt off len xs⟩
    | _ => none
  | _ => none

/-- The first cells, read as a datum of type t; what is left. 'h' tells what the frame's own slices hold. -/
def parse (h : Nat → Option AObj) : (t : Ty) → List A0 → Option (t.den × List A0)
  | .unit, cs => some ((), cs)
  | .pair a b, cs => match parse h a cs with
    | some (x, r) => match parse h b r with
      | some (y, r') => some ((x, y), r')
      | none => none
    | none => none
  | .agg t, cs => parse h t cs
  | .list t, c :: r => match c with
    | .nils => some (([] : List t.den), r)
    | c => match dataOf h c with
      | some d => match cast? (u := .list t) d.x with
        | some x => some (x, r)
        | none => none
      | none => none
  | .ref t, c :: r => match c with
    | .dat u x => match cast? (u := .ref t) x with
      | some x => some (x, r)
      | none => none
    | .ptr id 0 => match h id with
      | some (.box cells _) => match parse (fun _ => none) t cells with
        | some (x, []) => some (x, r)
        | _ => none
      | _ => none
    | .rp ds => match parse (fun _ => none) t (ds.map D.a0) with
      | some (x, []) => some (x, r)
      | _ => none
    | _ => none
  | .int k, c :: r => match c with
    | .dat u x => match cast? (u := .int k) x with
      | some x => some (x, r)
      | none => none
    | _ => none
  | .bool, c :: r => match c with
    | .dat u x => match cast? (u := .bool) x with
      | some x => some (x, r)
      | none => none
    | _ => none
  | .clo f a b, c :: r => match c with
    | .dat u x => match cast? (u := .clo f a b) x with
      | some x => some (x, r)
      | none => none
    | _ => none
  | .self f b, c :: r => match c with
    | .dat u x => match cast? (u := .self f b) x with
      | some x => some (x, r)
      | none => none
    | _ => none
  | _, _ => none

/-- A whole value, read as a datum. -/
def A1.den? (h : Nat → Option AObj) (t : Ty) (x : A1) : Option t.den :=
  if x.agg = t.isAgg then match parse h t x.cs with
    | some (y, []) => some y
    | _ => none
  else none

def A1.of (t : Ty) (x : t.den) : A1 := ⟨t.isAgg, (explode t x).map D.a0⟩

/-- The frame's own blocks that a cell leads to. -/
def A0.ids : A0 → List Nat
  | .sl id => [id]
  | .slp id _ _ _ => [id]
  | .ptr id _ => [id]
  | .vptr id _ _ => [id]
  | .fn _ caps => caps
  | .bsl id _ => [id]
  | _ => []

/-! ### Types of the program -/
def Ty.cat : Ty → Ty → Ty
  | .pair a r, b => .pair a (Ty.cat r b)
  | _, b => b
def Ty.row : Ty → Ty
  | .agg t => t
  | t => .pair t .unit
def Ty.rep (t : Ty) : Nat → Ty
  | 0 => .unit
  | n + 1 => Ty.cat t (Ty.rep t n)
def tyOf (P : Program) : Nat → TypeId → Option Ty
  | 0, _ => none
  | d + 1, t => match P.underlying t with
    | some (.int k) => some (.int k)
    | some .bool => some .bool
    | some (.slice e) => (tyOf P d e).map .list
    | some (.array n e) => (tyOf P d e).map fun t => .agg (Ty.rep t.row n)
    | some (.struct fs) => (fs.toList.foldr (fun f acc => match acc, tyOf P d f.type with | some r, some t => some (Ty.cat t.row r) | _, _ => none) (some .unit)).map .agg
    | _ => none
def isAggT (P : Program) (t : TypeId) : Option Bool :=
  match P.underlying t with
  | some (.struct _) | some (.array _ _) => some true
  | some _ => some false
  | none => none

def A0.ofConst : Value → A0
  | .int k n => .dat (.int k) n
  | .bool b => .dat .bool b
  | .slice none 0 0 => .nils
  | _ => .top
def A1.ofConst : Value → A1
  | .agg cs => ⟨true, cs.toList.map A0.ofConst⟩
  | v => ⟨false, [A0.ofConst v]⟩
/-- The zero row of a type, as cells. -/
def zeroCells (P : Program) (t : TypeId) : Option (List A0) :=
  match P.info? t with
  | some i => match i.zero with
    | some z => if z.cells.size = i.size then some (z.cells.toList.map A0.ofConst) else none
    | none => none
  | none => none
def zeroDen (P : Program) (e : TypeId) (t : Ty) : Option t.den :=
  match zeroCells P e with
  | some cs => match parse (fun _ => none) t cs with
    | some (x, []) => some x
    | _ => none
  | none => none

/-! ### Patterns: the shapes of states at the heads of functions and loops, and at their ends -/
inductive CP where
  | dat (t : Ty) | vref (k : Nat) | bptr (k : Nat) | yld | nil
  /-- a function value that has captured the frame's own variables -/
  | cfn (f : FuncId) (ks : List Nat)
  /-- a slice over a block of the frame's own -/
  | bsl (k n : Nat)
def CP.ty : CP → Ty
  | .dat t => t
  | _ => .unit
inductive OPat where
  | vec (e : TypeId) (t : Ty) | box (cs : List CP) | map (kd : IntKind) (v : Ty)
  /-- a slice that stays where it is, and as long -/
  | arr (e : TypeId) (t : Ty)
def cpsTy : List CP → Ty
  | [] => .unit
  | c :: r => .pair c.ty (cpsTy r)
def OPat.ty : OPat → Ty
  | .vec _ t => .list t
  | .box cs => cpsTy cs
  | .map kd v => .list (.pair (.pair (.int kd) (.int kd)) v)
  | .arr _ t => .list t
structure Pat where
  objs : List OPat
  slots : List (Nat × CP)
def objsTy : List OPat → Ty
  | [] => .unit
  | o :: r => .pair o.ty (objsTy r)
def slotsTy : List (Nat × CP) → Ty
  | [] => .unit
  | s :: r => .pair s.2.ty (slotsTy r)
def Pat.ty (p : Pat) : Ty := .pair (objsTy p.objs) (slotsTy p.slots)

/-- How long the slices of the objects are. -/
def objLen : (o : OPat) → o.ty.den → Nat
  | .vec _ _, xs => List.length xs
  | .box _, _ => 0
  | .map _ _, _ => 0
  | .arr _ _, xs => List.length xs
def objLens : (os : List OPat) → (objsTy os).den → List Nat
  | [], _ => []
  | o :: r, x => objLen o x.1 :: objLens r x.2
def CP.inst (ids : Nat → Nat) : (c : CP) → c.ty.den → A1
  | .dat t, x => A1.of t x
  | .vref k, _ => ⟨false, [.sl (ids k)]⟩
  | .bptr k, _ => ⟨false, [.ptr (ids k) 0]⟩
  | .yld, _ => ⟨false, [.yld]⟩
  | .nil, _ => ⟨false, [.nils]⟩
  | .cfn f ks, _ => ⟨false, [.fn f (ks.map ids)]⟩
  | .bsl k n, _ => ⟨false, [.bsl (ids k) n]⟩
def cpsInst (ids : Nat → Nat) : (cs : List CP) → (cpsTy cs).den → List A0
  | [], _ => []
  | c :: r, x => (c.inst ids x.1).cs ++ cpsInst ids r x.2
def OPat.inst (ids : Nat → Nat) : (o : OPat) → o.ty.den → AObj
  | .vec e t, xs => .vec e t xs false
  | .box cs, x => .box (cpsInst ids cs x) false
  | .map kd v, xs => .mapo kd v xs false
  | .arr e t, xs => .vec e t xs false
abbrev Wr := List (Nat × Option AObj)
def objsInst (ids : Nat → Nat) : (k : Nat) → (os : List OPat) → (objsTy os).den → Wr
  | _, [], _ => []
  | k, o :: r, x => (ids k, some (o.inst ids x.1)) :: objsInst ids (k + 1) r x.2
def slotsInst (ids : Nat → Nat) : (ss : List (Nat × CP)) → (slotsTy ss).den → List (Nat × A1)
  | [], _ => []
  | s :: r, x => (s.1, s.2.inst ids x.1) :: slotsInst ids r x.2

def putAll (f : Nat → Option AObj) : Wr → Nat → Option AObj
  | [] => f
  | (i, a) :: r => putAll (upd f i a) r
def putSlots (f : Nat → AV) : List (Nat × A1) → Nat → AV
  | [] => f
  | (i, a) :: r => putSlots (upd f i (.v a)) r

/-! Finding what a pattern speaks of. -/
abbrev Ids := List (Nat × Option Nat)
def Ids.add (m : Ids) (k : Nat) (i : Option Nat) : Option Ids :=
  match m.lookup k with
  | some j => if j = i then some m else none
  | none => some ((k, i) :: m)
def Ids.addAll : Ids → List Nat → List Nat → Option Ids
  | m, [], [] => some m
  | m, k :: ks, i :: is => match m.add k (some i) with
    | some m => Ids.addAll m ks is
    | none => none
  | _, _, _ => none
def CP.find (m : Ids) : CP → List A0 → Option Ids
  | .dat _, _ => some m
  | .vref k, [.sl id] => m.add k (some id)
  | .vref k, [.nils] => m.add k none
  | .bptr k, [.ptr id _] => m.add k (some id)
  | .yld, _ => some m
  | .nil, _ => some m
  | .cfn f ks, [.fn f' ids] => if f' = f then m.addAll ks ids else none
  | .bsl k _, [.bsl id _] => m.add k (some id)
  | _, _ => none
def findSlots (s : Nat → AV) : Ids → List (Nat × CP) → Option Ids
  | m, [] => some m
  | m, (t, c) :: r => match s t with
    | .v x => match c.find m x.cs with
      | some m => findSlots s m r
      | none => none
    | _ => none
def findCells : Ids → List CP → List A0 → Option Ids
  | m, [], _ => some m
  | m, c :: r, a :: as => match c.find m [a] with
    | some m => findCells m r as
    | none => none
  | _, _, _ => none
def findObjs (h : Nat → Option AObj) : Ids → Nat → List OPat → Option Ids
  | m, _, [] => some m
  | m, k, .vec _ _ :: r => findObjs h m (k + 1) r
  | m, k, .map _ _ :: r => findObjs h m (k + 1) r
  | m, k, .arr _ _ :: r => findObjs h m (k + 1) r
  | m, k, .box cs :: r => match m.lookup k with
    | some (some id) => match h id with
      | some (.box cells _) => match findCells m cs cells with
        | some m => findObjs h m (k + 1) r
        | none => none
      | _ => none
    | _ => none
def Pat.findFrom {G : Type} (p : Pat) (m : Ids) (σ : St G) : Option Ids :=
  match findSlots σ.s m p.slots with
  | some m => findObjs σ.h m 0 p.objs
  | none => none
def Pat.find {G : Type} (p : Pat) (σ : St G) : Option Ids := p.findFrom [] σ

/-! Reading it. 'h' is the frame's own memory. -/
def readRef (m : Ids) (k : Nat) : A1 → Option Unit
  | ⟨false, [.sl id]⟩ => if m.lookup k = some (some id) then some () else none
  | ⟨false, [.nils]⟩ => if m.lookup k = some none then some () else none
  | _ => none
def readPtr (m : Ids) (k : Nat) : A1 → Option Unit
  | ⟨false, [.ptr id 0]⟩ => if m.lookup k = some (some id) then some () else none
  | _ => none
def readFn (m : Ids) (f : FuncId) (ks : List Nat) : A1 → Option Unit
  | ⟨false, [.fn f' ids]⟩ => if f' = f ∧ ks.map (fun k => m.lookup k) = ids.map (fun i => some (some i)) then some () else none
  | _ => none
def readBsl (m : Ids) (k n : Nat) : A1 → Option Unit
  | ⟨false, [.bsl id n']⟩ => if m.lookup k = some (some id) ∧ n' = n then some () else none
  | _ => none
def readYld : A1 → Option Unit
  | ⟨false, [.yld]⟩ => some ()
  | _ => none
def readNil : A1 → Option Unit
  | ⟨false, [.nils]⟩ => some ()
  | _ => none
def readCell (h : Nat → Option AObj) (m : Ids) : (c : CP) → A1 → Option c.ty.den
  | .dat t, x => x.den? h t
  | .vref k, x => readRef m k x
  | .bptr k, x => readPtr m k x
  | .yld, x => readYld x
  | .nil, x => readNil x
  | .cfn f ks, x => readFn m f ks x
  | .bsl k n, x => readBsl m k n x
def readCells (h : Nat → Option AObj) (m : Ids) : (cs : List CP) → List A0 → Option (cpsTy cs).den
  | [], [] => some ()
  | c :: r, a :: as => match readCell h m c ⟨false, [a]⟩ with
    | some x => match readCells h m r as with
      | some y => some (x, y)
      | none => none
    | none => none
  | _, _ => none
def readObj (h : Nat → Option AObj) (m : Ids) (k : Nat) : (o : OPat) → Option o.ty.den
  | .vec e t => match m.lookup k with
    | some none => some ([] : List t.den)
    | some (some id) => match h id with
      | some (.vec e' u xs false) => if e' = e then cast? (t := .list u) (u := .list t) xs else none
      | _ => none
    | none => none
  | .box cs => match m.lookup k with
    | some (some id) => match h id with
      | some (.box cells false) => readCells h m cs cells
      | _ => none
    | _ => none
  | .map kd v => match m.lookup k with
    | some (some id) => match h id with
      | some (.mapo kd' v' xs false) => cast? (t := .list (.pair (.pair (.int kd') (.int kd')) v')) (u := .list (.pair (.pair (.int kd) (.int kd)) v)) xs
      | _ => none
    | _ => none
  | .arr e t => match m.lookup k with
    | some (some id) => match h id with
      | some (.vec e' u xs false) => if e' = e then cast? (t := .list u) (u := .list t) xs else none
      | _ => none
    | _ => none
def readObjs (h : Nat → Option AObj) (m : Ids) : (k : Nat) → (os : List OPat) → Option (objsTy os).den
  | _, [] => some ()
  | k, o :: r => match readObj h m k o with
    | some x => match readObjs h m (k + 1) r with
      | some y => some (x, y)
      | none => none
    | none => none
def readSlots (h : Nat → Option AObj) (m : Ids) (s : Nat → AV) : (ss : List (Nat × CP)) → Option (slotsTy ss).den
  | [] => some ()
  | c :: r => match s c.1 with
    | .v x => match readCell h m c.2 x with
      | some y => match readSlots h m s r with
        | some z => some (y, z)
        | none => none
      | none => none
    | _ => none
def idsOf (m : Ids) : List Nat := m.filterMap (·.2)
def nodup : List Nat → Bool
  | [] => true
  | x :: r => !r.contains x && nodup r
/-- Which slices of a pattern are nil there. -/
def nilOf : CP → A1 → Option Nat
  | .vref k, ⟨false, [.nils]⟩ => some k
  | _, _ => none
/-- The blocks of the frame's own that are read as data. -/
def datOf : CP → A1 → List Nat
  | .dat _, x => x.cs.flatMap A0.ids
  | _, _ => []
def slotNils (s : Nat → AV) : List (Nat × CP) → List Nat
  | [] => []
  | c :: r => match s c.1 with
    | .v x => match nilOf c.2 x with
      | some k => k :: slotNils s r
      | none => slotNils s r
    | _ => slotNils s r
def slotDats (s : Nat → AV) : List (Nat × CP) → List Nat
  | [] => []
  | c :: r => match s c.1 with
    | .v x => datOf c.2 x ++ slotDats s r
    | _ => slotDats s r
def cellNils : List CP → List A0 → List Nat
  | c :: r, a :: as => match nilOf c ⟨false, [a]⟩ with
    | some k => k :: cellNils r as
    | none => cellNils r as
  | _, _ => []
def cellDats : List CP → List A0 → List Nat
  | c :: r, a :: as => datOf c ⟨false, [a]⟩ ++ cellDats r as
  | _, _ => []
/-- The cells of the boxes of a pattern. -/
def boxesAt (h : Nat → Option AObj) (m : Ids) : (k : Nat) → List OPat → List (Nat × List CP × List A0)
  | _, [] => []
  | k, .vec _ _ :: r => boxesAt h m (k + 1) r
  | k, .map _ _ :: r => boxesAt h m (k + 1) r
  | k, .arr _ _ :: r => boxesAt h m (k + 1) r
  | k, .box cs :: r => match m.lookup k with
    | some (some id) => match h id with
      | some (.box cells _) => (id, cs, cells) :: boxesAt h m (k + 1) r
      | _ => boxesAt h m (k + 1) r
    | _ => boxesAt h m (k + 1) r
def Pat.nils {G : Type} (p : Pat) (m : Ids) (σ : St G) : List Nat :=
  slotNils σ.s p.slots ++ (boxesAt σ.h m 0 p.objs).flatMap fun b => cellNils b.2.1 b.2.2
def Pat.dats {G : Type} (p : Pat) (m : Ids) (σ : St G) : List Nat :=
  slotDats σ.s p.slots ++ (boxesAt σ.h m 0 p.objs).flatMap fun b => cellDats b.2.1 b.2.2
def Pat.read {G : Type} (p : Pat) (m : Ids) (σ : St G) : Option p.ty.den :=
  if nodup (idsOf m) && nodup (p.nils m σ) && (p.dats m σ).all (fun i => !(idsOf m).contains i) then match readObjs σ.h m 0 p.objs with
    | some x => match readSlots σ.h m σ.s p.slots with
      | some y => some (x, y)
      | none => none
    | none => none
  else none
end Go.Sh

namespace Go.Sh

structure Entry where
  f : FuncId
  pre : Pat
  post : Pat
  F : pre.ty.den → Option post.ty.den

inductive Ex where
  | normal | exit (id : Nat) | ret
  deriving DecidableEq

def sumTy : List (Ex × Pat) → Ty
  | [] => .unit
  | [p] => p.2.ty
  | p :: r => .sum p.2.ty (sumTy r)

/-- A loop; 'G' is its law where the function yields. -/
structure LoopE (sT : Ty) where
  blk : Nat
  pre : Pat
  exits : List (Ex × Pat)
  wr : List Nat
  F : pre.ty.den → Option (sumTy exits).den
  G : Option (sT.den → pre.ty.den → Option (sT.den × (sumTy exits).den)) := none

/-- A range over a function: what is ranged over, as a datum. -/
structure RangeE where
  blk : Nat
  cl : Ty
  pre : Pat
  exits : List (Ex × Pat)
  wr : List Nat
  F : cl.den → pre.ty.den → Option (sumTy exits).den

structure Env (sT : Ty) where
  P : Program
  globs : List (Nat × D) := []
  funs : List Entry := []
  loops : List (LoopE sT) := []
  ranges : List RangeE := []
  /-- may it make blocks that are written to? (an iterator's body may not) -/
  mayMake : Bool := true
  /-- slices of so many own slices are kept as blocks of the frame's own (0: none) -/
  refs : Nat := 0
  Y : Ty := .unit
  step : Option (Y.den → sT.den → Option (Bool × sT.den)) := none

structure Out (G : Type) where
  v : AV
  wr : Wr
  rd : List Nat
  g : G
  gh : Bool

section
variable {sT : Ty} (E : Env sT) (σ : St sT.den)

def ev : Operand → AV
  | .tmp t => σ.s t
  | .const v => .v (A1.ofConst v)
  | .global g => match E.globs.lookup g with
    | some (d : D) => .one d.a0
    | none => .top
  | .func f => .one (.dat (.clo f .unit .unit) ((), ()))

def out (v : AV) (rd : List Nat := []) : Tree (Out sT.den) := .ret ⟨v, [], rd, σ.g, false⟩
def outW (v : AV) (wr : Wr) (rd : List Nat := []) : Tree (Out sT.den) := if E.mayMake then .ret ⟨v, wr, rd, σ.g, false⟩ else .fail

def asInt : AV → Option (IntKind × Int)
  | .v ⟨false, [.dat (.int k) n]⟩ => some (k, n)
  | _ => none
def asA1 : AV → Option A1
  | .v x => some x
  | _ => none
def asBool : AV → Option Bool
  | .v ⟨false, [.dat .bool b]⟩ => some b
  | _ => none

def intBits (op : BinOp) (k : IntKind) (x y : Int) : Option Int :=
  let a := BitVec.ofInt k.bits x
  let b := BitVec.ofInt k.bits y
  match op with
  | .and => some (k.wrap (a &&& b).toNat)
  | .or => some (k.wrap (a ||| b).toNat)
  | .xor => some (k.wrap (a ^^^ b).toNat)
  | .andNot => some (k.wrap (a &&& ~~~b).toNat)
  | _ => none

def binInt (op : BinOp) (k : IntKind) (x y : Int) : Tree AV :=
  match op with
  | .add => .ret (.int k (k.wrap (x + y)))
  | .sub => .ret (.int k (k.wrap (x - y)))
  | .mul => .ret (.int k (k.wrap (x * y)))
  | .quo => .need (!(y == 0)) (.ret (.int k (k.wrap (x.tdiv y))))
  | .rem => .need (!(y == 0)) (.ret (.int k (x.tmod y)))
  | .shl => .need (!(decide (y < 0))) (.ret (.int k (k.wrap (x * 2 ^ min y.toNat k.bits))))
  | .shr => .need (!(decide (y < 0))) (.ret (.int k (x.fdiv (2 ^ min y.toNat k.bits))))
  | .eql => .ret (.bool (x == y))
  | .neq => .ret (.bool (x != y))
  | .lss => .ret (.bool (decide (x < y)))
  | .leq => .ret (.bool (decide (x ≤ y)))
  | .gtr => .ret (.bool (decide (x > y)))
  | .geq => .ret (.bool (decide (x ≥ y)))
  | op => match intBits op k x y with
    | some r => .ret (.int k r)
    | none => .fail

def isShift : BinOp → Bool
  | .shl | .shr => true
  | _ => false

def isNilC : Operand → Bool
  | .const (.slice none 0 0) => true
  | _ => false
def doBin (op : BinOp) (t : TypeId) (yo : Operand) (x y : AV) : Tree AV :=
  match x with
  | .v ⟨false, [.dat (.int k) a]⟩ => match y with
    | .v ⟨false, [.dat (.int k') b]⟩ => if isShift op || k == k' then binInt op k a b else .fail
    | _ => .fail
  | .v ⟨false, [.dat (.list _) xs]⟩ => if isNilC yo then (match E.P.underlying t with
    | some (.slice _) => match op with
      | .eql => .need (!(List.isEmpty xs)) (.ret (.bool false))
      | .neq => .need (!(List.isEmpty xs)) (.ret (.bool true))
      | _ => .fail
    | _ => .fail) else .fail
  | .v ⟨false, [.dat .bool a]⟩ => match y with
    | .v ⟨false, [.dat .bool b]⟩ => (match E.P.underlying t with
      | some .bool => match op with
        | .eql => .ret (.bool (a == b))
        | .neq => .ret (.bool (!(a == b)))
        | _ => .fail
      | _ => .fail)
    | _ => .fail
  | _ => .fail

def doUn (op : UnOp) (x : AV) : Tree AV :=
  match op, x with
  | .neg, .v ⟨false, [.dat (.int k) n]⟩ => .ret (.int k (k.wrap (0 - n)))
  | .not, .v ⟨false, [.dat .bool b]⟩ => .ret (.bool (!b))
  | _, _ => .fail

def isVec : Option AObj → Bool
  | some (.vec _ _ _ _) => true
  | _ => false
def isBox : Option AObj → Bool
  | some (.box _ _) => true
  | _ => false
/-- A cell of which is known that it is one. -/
def solid (h : Nat → Option AObj) : A0 → Bool
  | .top => false
  | .sl id => isVec (h id)
  | .slp id _ _ _ => isVec (h id)
  | .vptr id _ _ => isVec (h id)
  | .ptr id _ => isBox (h id)
  | .bsl _ _ => false
  | _ => true
/-- Putting cells into cells. -/
def putCells (cs : List A0) (off : Nat) (xs : List A0) : Option (List A0) :=
  if off + xs.length ≤ cs.length then some (cs.take off ++ xs ++ cs.drop (off + xs.length)) else none
def fillCells (h : Nat → Option AObj) (place : Nat → Option (Nat × Nat)) (σ' : Operand → AV) : List A0 → List (Nat × Operand) → Option (List A0)
  | cs, [] => some cs
  | cs, (i, x) :: r => match place i with
    | some (off, size) => match asA1 (σ' x) with
      | some a => if a.cs.length = size && a.cs.all (solid h) then match putCells cs off a.cs with
          | some cs' => fillCells h place σ' cs' r
          | none => none
        else none
      | none => none
    | none => none

/-- Equal pieces of cells. -/
def rowsOf (t : Ty) : Nat → List A0 → Option (List t.den)
  | 0, [] => some []
  | n + 1, cs => match parse (fun _ => none) t cs with
    | some (x, r) => match rowsOf t n r with
      | some xs => some (x :: xs)
      | none => none
    | none => none
  | _, _ => none

def freezable (h : Nat → Option AObj) : A0 → Bool
  | .dat _ _ => true
  | _ => false

def packDs : List D → D
  | [] => ⟨.unit, ()⟩
  | d :: r => ⟨.pair d.t (packDs r).t, (d.x, (packDs r).x)⟩
def a0D : A0 → Option D
  | .dat t x => some ⟨t, x⟩
  | _ => none
def allD : List A0 → Option (List D)
  | [] => some []
  | a :: r => match a0D a with
    | some d => match allD r with
      | some ds => some (d :: ds)
      | none => none
    | none => none
def A1.toD : A1 → Option D
  | ⟨false, [a]⟩ => match a0D a with
    | some d => if d.t.isAgg then none else some d
    | none => none
  | ⟨true, cs⟩ => match allD cs with
    | some ds => some ⟨.agg (packDs ds).t, (packDs ds).x⟩
    | none => none
  | _ => none
/-- A captured variable that won't change: what it leads to, and its block, frozen. -/
def capD (h : Nat → Option AObj) : AV → Option (D × Wr)
  | .v ⟨false, [.ptr id 0]⟩ => match h id with
    | some (.box cells _) => match allD cells with
      | some [d] => some (⟨.ref d.t, d.x⟩, [(id, some (.box cells true))])
      | some ds => some (⟨.ref (.agg (packDs ds).t), (packDs ds).x⟩, [(id, some (.box cells true))])
      | none => none
    | _ => none
  | .v ⟨false, [.dat (.ref t) x]⟩ => some (⟨.ref t, x⟩, [])
  | .v ⟨false, [.dat (.self f t) x]⟩ => some (⟨.self f t, x⟩, [])
  | _ => none
def capDs (h : Nat → Option AObj) : List AV → Option (List D × Wr)
  | [] => some ([], [])
  | a :: r => match capD h a with
    | some (d, w) => match capDs h r with
      | some (ds, w') => some (d :: ds, w ++ w')
      | none => none
    | none => none
def toDs : List AV → Option (List D)
  | [] => some []
  | .v a :: r => match a.toD with
    | some d => match toDs r with
      | some ds => some (d :: ds)
      | none => none
    | none => none
  | _ => none
def ptrIds : List AV → Option (List Nat)
  | [] => some []
  | .v ⟨false, [.ptr id 0]⟩ :: r => match ptrIds r with
    | some ids => some (id :: ids)
    | none => none
  | _ => none

def avIds : AV → List Nat
  | .v x => x.cs.flatMap A0.ids
  | .tup _ => []

/-- The values that a function value brings along. -/
def valuesOf : (t : Ty) → t.den → List AV
  | .pair a b, x => .v (A1.of a x.1) :: valuesOf b x.2
  | _, _ => []

def AObj.freeze : AObj → AObj
  | .vec e t xs _ => .vec e t xs true
  | .box c _ => .box c true
  | .mapo kd v xs _ => .mapo kd v xs true
def frz (h : Nat → Option AObj) : List Nat → Wr
  | [] => []
  | id :: r => match h id with
    | some (.vec e t xs false) => (id, some (.vec e t xs true)) :: frz h r
    | _ => frz h r
/-- Variables and slices alike. -/
def frzA (h : Nat → Option AObj) : List Nat → Wr
  | [] => []
  | id :: r => match h id with
    | some o => (id, some o.freeze) :: frzA h r
    | none => frzA h r
def Pat.flat (p : Pat) : Bool :=
  p.objs.all (fun o => match o with | .vec _ t => t.flat | .box cs => (cs.all fun c => c.ty.flat) | .map _ v => v.flat | .arr _ t => t.flat) && p.slots.all fun s => s.2.ty.flat
def resultAV (xs : List (Nat × A1)) : AV :=
  match xs with
  | [x] => .v x.2
  | xs => .tup (xs.map (·.2))

def postIds (m : Ids) (new : Nat) (k : Nat) : Nat :=
  match m.lookup k with
  | some (some id) => id
  | _ => new + k
def inOrder (ss : List (Nat × CP)) : Bool := ss.map (·.1) == List.range ss.length

/-- A variable that holds a function value and holds it still has not been written to. -/
def sameFn : Option AObj → Option AObj → Bool
  | some (.box [.fn f ids] false), some (.box [.fn f' ids'] false) => f == f' && ids == ids'
  | _, _ => false
def dropSame (h : Nat → Option AObj) (wr : Wr) : Wr := wr.filter fun p => !sameFn (h p.1) p.2

def tryCall (new : Nat) (args : List AV) (e : Entry) : Option (Tree (Out sT.den)) :=
  let τ : St sT.den := { σ with s := fun j => args.getD j .top }
  match e.pre.find τ with
  | none => none
  | some m => match e.pre.read m τ with
    | none => none
    | some x =>
      if inOrder e.pre.slots && e.pre.slots.length == args.length && inOrder e.post.slots && decide (e.post.objs.length ≤ 4) && m.all (fun q => decide (q.1 < e.pre.objs.length)) then
        let ids := postIds m new
        let ds := e.pre.dats m τ
        let fr := if e.post.flat then [] else frzA σ.h ds
        some (.call e.post.ty (e.F x) fun y =>
          if E.mayMake || (e.post.objs.isEmpty && ds.isEmpty) then
            .ret ⟨resultAV (slotsInst ids e.post.slots y.2), fr ++ dropSame σ.h (objsInst ids 0 e.post.objs y.1), [], σ.g, false⟩
          else .fail)
      else none
def callFn (new : Nat) (f : FuncId) (args : List AV) : List Entry → Tree (Out sT.den)
  | [] => .fail
  | e :: r => if e.f = f then match tryCall E σ new args e with
      | some t => t
      | none => callFn new f args r
    else callFn new f args r

/-- What is handed to yield. -/
def denArgs (h : Nat → Option AObj) : (t : Ty) → List AV → Option t.den
  | .unit, [] => some ()
  | .pair a b, x :: r => match x with
    | .v x => match x.den? h a with
      | some y => match denArgs h b r with
        | some z => some (y, z)
        | none => none
      | none => none
    | _ => none
  | _, _ => none
def callVal (new : Nat) (fv : AV) (args : List AV) : Tree (Out sT.den) :=
  match fv with
  | .v ⟨false, [.dat (.clo f a b) x]⟩ => callFn E σ new f (valuesOf a x.1 ++ args ++ valuesOf b x.2) E.funs
  | .v ⟨false, [.fn f caps]⟩ => callFn E σ new f (args ++ caps.map fun id => .one (.ptr id 0)) E.funs
  | .v ⟨false, [.yld]⟩ => match E.step with
    | some st => match denArgs σ.h E.Y args with
      | some y => .call (.pair .bool sT) (st y σ.g) fun r => .ret ⟨.bool r.1, [], [], r.2, true⟩
      | none => .fail
    | none => .fail
  | _ => .fail

def listView (x : AV) (t : Ty) : Option (List t.den) :=
  match x with
  | .v a => A1.den? σ.h (.list t) a
  | _ => none

def natOr (off n : Nat) : Nat := match off with
  | 0 => n
  | o + 1 => o + 1 + n

/-- What is put behind a slice, and whether it may be. -/
def appSrc (t : Ty) (z : t.den) (bytes : Nat) (xT : TypeId) (x : AV) : Option (List t.den × Bool) :=
  match E.P.underlying xT with
  | some (.int _) => match asInt x with
    | some (.i64, n) => some (List.replicate n.toNat z, decide (0 ≤ n) && decide (n * bytes ≤ 140737488355328))
    | _ => none
  | some (.slice _) => match listView σ x t with
    | some ys => some (ys, true)
    | none => none
  | _ => none
def appTo (new : Nat) (e : TypeId) (t : Ty) (bytes : Nat) (s : AV) (ys : List t.den) (rd : List Nat) : Tree (Out sT.den) :=
  match s with
  | .v ⟨false, [.nils]⟩ => .need (decide (ys.length * bytes ≤ 140737488355328)) (outW E σ (.one (.sl new)) [(new, some (.vec e t ys false))] rd)
  | .v ⟨false, [.sl id]⟩ => match σ.h id with
    | some (.vec e' u xs false) => if e' = e then match cast? (t := .list u) (u := .list t) xs with
        | some xs => .need (decide ((List.length xs + ys.length) * bytes ≤ 140737488355328))
            (outW E σ (.one (.sl new)) [(id, none), (new, some (.vec e t (List.append xs ys) false))] rd)
        | none => .fail
      else .fail
    | _ => .fail
  | .v ⟨false, [.slp id off len true]⟩ => match σ.h id with
    | some (.vec _ u xs _) => match cast? (t := .list u) (u := .list t) xs with
        | some xs => .need (decide (ys.length ≠ 0) && decide ((len + ys.length) * bytes ≤ 140737488355328))
            (outW E σ (.one (.sl new)) [(new, some (.vec e t (List.append (cutAt off len xs) ys) false))] (id :: rd))
        | none => .fail
    | _ => .fail
  | _ => .fail
def doAppend (new : Nat) (sT' xT : TypeId) (s x : AV) : Tree (Out sT.den) :=
  match E.P.underlying sT' with
  | some (.slice e) => match tyOf E.P 8 e, E.P.info? e with
    | some t, some i => match zeroDen E.P e t with
      | some z => match appSrc E σ t z i.bytes xT x with
        | some (ys, ok) => if i.size = t.nc && decide (0 < i.bytes) && decide (0 < t.nc) then .need ok (appTo E σ new e t i.bytes s ys (avIds x)) else .fail
        | none => .fail
      | none => .fail
    | _, _ => .fail
  | _ => .fail

def lenOf (x : AV) : Option (Nat × List Nat) :=
  match x with
  | .v ⟨false, [.dat (.list _) xs]⟩ => some (List.length xs, [])
  | .v ⟨false, [.nils]⟩ => some (0, [])
  | .v ⟨false, [.sl id]⟩ => match σ.h id with
    | some (.vec _ _ xs _) => some (List.length xs, [id])
    | _ => none
  | .v ⟨false, [.slp id _ len _]⟩ => match σ.h id with
    | some (.vec _ _ _ _) => some (len, [id])
    | _ => none
  | .v ⟨false, [.bsl id len]⟩ => match σ.h id with
    | some (.box _ _) => some (len, [id])
    | _ => none
  | _ => none

def foldInt (f : Int → Int → Int) (k : IntKind) : Int → List AV → Option Int
  | a, [] => some a
  | a, x :: r => match asInt x with
    | some (_, b) => foldInt f k (f a b) r
    | none => none

def doBuiltin (new : Nat) (b : Builtin) (tys : List TypeId) (args : List AV) : Tree (Out sT.den) :=
  match b, tys, args with
  | .len, [t], [x] => match E.P.underlying t, lenOf σ x with
    | some (.slice _), some (n, rd) => out σ (.int .i64 (n : Int)) rd
    | _, _ => .fail
  | .append, [t, u], [s, x] => doAppend E σ new t u s x
  | .max, _, x :: r => match asInt x with
    | some (k, a) => match foldInt (fun x y => if y > x then y else x) k a r with
      | some n => out σ (.int k n)
      | none => .fail
    | none => .fail
  | .min, _, x :: r => match asInt x with
    | some (k, a) => match foldInt (fun x y => if y < x then y else x) k a r with
      | some n => out σ (.int k n)
      | none => .fail
    | none => .fail
  | .copy, [t, _], [d, x] => match E.P.underlying t with
    | some (.slice e) => match tyOf E.P 8 e, E.P.info? e with
      | some ty, some i => match d, listView σ x ty with
        | .v ⟨false, [.slp id off len _]⟩, some ys => match σ.h id with
          | some (.vec e' u xs false) => if e' = e then match cast? (t := .list u) (u := .list ty) xs with
              | some xs => if i.size = ty.nc then
                    outW E σ (.int .i64 ((min ys.length len : Nat) : Int)) [(id, some (.vec e ty (xs.take off ++ ys.take (min ys.length len) ++ xs.drop (off + min ys.length len)) false))] (id :: avIds x)
                  else .fail
              | none => .fail
            else .fail
          | _ => .fail
        | _, _ => .fail
      | _, _ => .fail
    | _ => .fail
  | _, _, _ => .fail

def optInt : Option AV → Option (Option Int)
  | none => some none
  | some v => match asInt v with
    | some (_, n) => some (some n)
    | none => none

def inRange (n : Int) (len : Nat) : Bool := decide (0 ≤ n) && decide (n < (len : Int))

/-- An address in an array of the frame's own: the index is tried. -/
def pick1 (n : Int) : Nat → (Nat → A0) → Tree AV
  | 0, _ => .fail
  | k + 1, f => .ite (n == (k : Int)) (.ret (.one (f k))) (pick1 n k f)
def atIndex (len : Nat) (ix : Operand) (n : Int) (f : Nat → A0) : Tree AV :=
  match ix with
  | .const (.int _ (.ofNat k)) => if k < len then .ret (.one (f k)) else .fail
  | _ => pick1 n len f

def dropDs (ds : List D) (k size : Nat) : List D := (ds.drop k).take size

def indexAddr' (t : TypeId) (x : AV) (ixo : Operand) (ix : AV) : Tree (AV × List Nat) :=
  match asInt ix with
  | none => .fail
  | some (_, n) => match E.P.underlying t with
    | some (.slice e) => match E.P.info? e with
      | some i => match x with
        | .v ⟨false, [.dat (.list t') xs]⟩ => if i.size = t'.nc then .need (inRange n (List.length xs)) (.ret (.one (.rp (explode t' (List.getD xs n.toNat t'.dflt))), [])) else .fail
        | .v ⟨false, [.sl id]⟩ => match σ.h id with
          | some (.vec _ t' xs _) => if i.size = t'.nc then .need (inRange n (List.length xs)) (.ret (.one (.vptr id n.toNat 0), [id])) else .fail
          | _ => .fail
        | .v ⟨false, [.slp id off len _]⟩ => match σ.h id with
          | some (.vec _ t' _ _) => if i.size = t'.nc then .need (inRange n len) (.ret (.one (.vptr id (natOr off n.toNat) 0), [id])) else .fail
          | _ => .fail
        | .v ⟨false, [.bsl id len]⟩ => match σ.h id with
          | some (.box _ _) => if i.size = 1 then (atIndex len ixo n fun k => .ptr id k).bind fun v => .ret (v, [id]) else .fail
          | _ => .fail
        | _ => .fail
      | none => .fail
    | some (.array len e) => match E.P.info? e with
      | some i => (match x with
        | .v ⟨false, [.ptr id off]⟩ => match σ.h id with
          | some (.box _ _) => (atIndex len ixo n fun k => .ptr id (off + k * i.size)).bind fun v => .ret (v, [id])
          | _ => .fail
        | .v ⟨false, [.vptr id j c]⟩ => match σ.h id with
          | some (.vec _ _ _ _) => (atIndex len ixo n fun k => .vptr id j (c + k * i.size)).bind fun v => .ret (v, [id])
          | _ => .fail
        | .v ⟨false, [.rp ds]⟩ => (atIndex len ixo n fun k => .rp (dropDs ds (k * i.size) i.size)).bind fun v => .ret (v, [])
        | .v ⟨false, [.dat (.ref t') y]⟩ => (atIndex len ixo n fun k => .rp (dropDs (explode t' y) (k * i.size) i.size)).bind fun v => .ret (v, [])
        | _ => .fail)
      | none => .fail
    | _ => .fail

def fieldAddr' (s : TypeId) (x : AV) (f : Nat) : Option (AV × List Nat) :=
  match E.P.underlying s with
  | some (.struct fs) => match fs[f]? with
    | some fd => match E.P.info? fd.type with
      | some i => if i.size = 0 then none else match x with
        | .v ⟨false, [.ptr id off]⟩ => match σ.h id with
          | some (.box _ _) => some (.one (.ptr id (off + fd.offset)), [id])
          | _ => none
        | .v ⟨false, [.vptr id j c]⟩ => match σ.h id with
          | some (.vec _ _ _ _) => some (.one (.vptr id j (c + fd.offset)), [id])
          | _ => none
        | .v ⟨false, [.rp ds]⟩ => some (.one (.rp (dropDs ds fd.offset i.size)), [])
        | .v ⟨false, [.dat (.ref t') y]⟩ => some (.one (.rp (dropDs (explode t' y) fd.offset i.size)), [])
        | _ => none
      | none => none
    | none => none
  | _ => none

/-- The cells from an address on. -/
def cellsAt (x : AV) : Option (List A0 × List Nat) :=
  match x with
  | .v ⟨false, [.rp ds]⟩ => some (ds.map D.a0, [])
  | .v ⟨false, [.dat (.ref t') y]⟩ => some ((explode t' y).map D.a0, [])
  | .v ⟨false, [.ptr id off]⟩ => match σ.h id with
    | some (.box cells _) => some (cells.drop off, [id])
    | _ => none
  | .v ⟨false, [.vptr id j c]⟩ => match σ.h id with
    | some (.vec _ t' xs _) => some (((explode t' (List.getD xs j t'.dflt)).drop c).map D.a0, [id])
    | _ => none
  | _ => none
def load' (t : TypeId) (x : AV) : Option (AV × List Nat) :=
  match isAggT E.P t, E.P.info? t with
  | some agg, some i => match x with
    | .v ⟨false, [.dat (.self f c) y]⟩ => if agg then none else some (.one (.dat (.clo f .unit (.pair (.self f c) c)) ((), (y, y))), [])
    | x => match cellsAt σ x with
      | some (cs, rd) => if agg then (if i.size ≤ cs.length then some (.agg (cs.take i.size), rd) else none)
          else match cs with
            | a :: _ => some (.one a, rd)
            | [] => none
      | none => none
  | _, _ => none

def store' (t : TypeId) (a x : AV) : Tree (Out sT.den) :=
  match asA1 x, E.P.info? t with
  | some y, some i => if y.cs.length = i.size && y.cs.all (solid σ.h) then match a with
      | .v ⟨false, [.ptr id off]⟩ => match σ.h id with
        | some (.box cells false) => match putCells cells off y.cs with
          | some cells' => outW E σ .top [(id, some (.box cells' false))] (id :: y.cs.flatMap A0.ids)
          | none => .fail
        | _ => .fail
      | .v ⟨false, [.vptr id j c]⟩ => match σ.h id with
        | some (.vec e t' xs false) => if (y.cs.flatMap A0.ids).contains id || !(y.cs.flatMap A0.ids).all (fun k => isVec (σ.h k)) then .fail else match putCells ((explode t' (List.getD xs j t'.dflt)).map D.a0) c y.cs with
            | some row => match parse σ.h t' row with
              | some (r, []) => outW E σ .top (frz σ.h (y.cs.flatMap A0.ids) ++ [(id, some (.vec e t' (List.set xs j r) false))]) (id :: y.cs.flatMap A0.ids)
              | _ => .fail
            | none => .fail
        | _ => .fail
      | _ => .fail
    else .fail
  | _, _ => .fail

def bound (lo hi mx : Option Int) (len : Nat) : Bool :=
  let h := hi.getD (len : Int)
  let l := lo.getD 0
  decide (0 ≤ l) && decide (l ≤ h) && (match mx with | some m => decide (h ≤ m) && decide (m ≤ (len : Int)) | none => decide (h ≤ (len : Int)))
def cutList {α : Type} (lo hi : Option Int) (xs : List α) : List α :=
  let ys := match hi with | some h => xs.take h.toNat | none => xs
  match lo with | some l => ys.drop l.toNat | none => ys
def isZero : Option Operand → Bool
  | some (.const (.int _ (.ofNat 0))) => true
  | _ => false
def loN : Option Int → Nat
  | some l => l.toNat
  | none => 0
def hiN (hi : Option Int) (n : Nat) : Nat := match hi with
  | some h => h.toNat
  | none => n
def slice' (t : TypeId) (x : AV) (oh om : Option Operand) (lo hi mx : Option Int) : Tree (Out sT.den) :=
  match x with
  | .v ⟨false, [.dat (.list t') xs]⟩ => match E.P.underlying t with
    | some (.slice e) => match E.P.info? e with
      | some i => if i.size = t'.nc then (if isZero oh && isZero om && lo.isNone then out σ (.one .nils)
          else .need (bound lo hi mx (List.length xs)) (out σ (.one (.dat (.list t') (cutList lo hi xs))))) else .fail
      | none => .fail
    | _ => .fail
  | .v ⟨false, [.sl id]⟩ => match E.P.underlying t with
    | some (.slice e) => match σ.h id, E.P.info? e with
      | some (.vec _ t' xs _), some i => if i.size = t'.nc then if isZero oh && isZero om && lo.isNone then out σ (.one .nils) [id] else
          .need (bound lo hi mx (List.length xs) && (match mx with | some m => m == hi.getD (List.length xs : Int) | none => true)) (out σ (.one (.slp id (loN lo) (hiN hi (List.length xs) - loN lo) mx.isSome)) [id]) else .fail
      | _, _ => .fail
    | _ => .fail
  | .v ⟨false, [.ptr id 0]⟩ => match E.P.underlying t with
    | some (.array n e) => match σ.h id, tyOf E.P 8 e, E.P.info? e with
      | some (.box cells _), some t', some i => if i.size = t'.nc && cells.length = n * t'.nc then match rowsOf t' n cells with
          | some xs => .need (bound lo hi mx n) (outW E σ (.one (.dat (.list t') (cutList lo hi xs))) [(id, some (.box cells true))] [id])
          | none => .fail
        else .fail
      | _, _, _ => .fail
    | _ => .fail
  | .v ⟨false, [.dat (.ref u) y]⟩ => match E.P.underlying t with
    | some (.array n e) => match tyOf E.P 8 e, E.P.info? e with
      | some t', some i => if i.size = t'.nc && (explode u y).length = n * t'.nc then match rowsOf t' n ((explode u y).map D.a0) with
          | some xs => .need (bound lo hi mx n) (out σ (.one (.dat (.list t') (cutList lo hi xs))))
          | none => .fail
        else .fail
      | _, _ => .fail
    | _ => .fail
  | _ => .fail

/-- Maps whose keys are two whole numbers. -/
def keyKind (P : Program) (k : TypeId) : Option IntKind :=
  match P.underlying k with
  | some (.array 2 e) => match P.underlying e with
    | some (.int kd) => if (P.info? e).isSome && P.cellsOf e == 1 then some kd else none
    | _ => none
  | _ => none
def zeroAgg (P : Program) (e : TypeId) : Bool :=
  match P.info? e with
  | some i => match i.zero with
    | some (.agg _) => true
    | _ => false
  | none => false
def key2 (kd : IntKind) : AV → Option (Int × Int)
  | .v ⟨true, [.dat (.int k1) a, .dat (.int k2) b]⟩ => if k1 = kd ∧ k2 = kd then some (a, b) else none
  | _ => none
/-- A map's own block, its type, and what it holds. -/
def mapAt (x : AV) (kd : IntKind) (ty : Ty) : Option (Nat × List ((Int × Int) × ty.den)) :=
  match x with
  | .v ⟨false, [.ptr id 0]⟩ => match σ.h id with
    | some (.mapo kd' ty' xs false) => match cast? (t := .list (.pair (.pair (.int kd') (.int kd')) ty')) (u := .list (.pair (.pair (.int kd) (.int kd)) ty)) xs with
      | some xs => some (id, xs)
      | none => none
    | _ => none
  | _ => none
def mapTy (P : Program) (t : TypeId) : Option (IntKind × TypeId × Ty) :=
  match P.underlying t with
  | some (.map k e) => match keyKind P k, tyOf P 8 e with
    | some kd, some ty => if ty.flat && ty.isAgg && zeroAgg P e then some (kd, e, ty) else none
    | _, _ => none
  | _ => none
def doMap (new : Nat) (t : TypeId) (r : Option Operand) : Tree (Out sT.den) :=
  match mapTy E.P t with
  | some (kd, _, ty) => if r.isNone then outW E σ (.one (.ptr new 0)) [(new, some (.mapo kd ty [] false))] else .fail
  | none => .fail
def doLookup (t : TypeId) (x ix : AV) (ok : Bool) : Tree (Out sT.den) :=
  match mapTy E.P t with
  | some (kd, e, ty) => match mapAt σ x kd ty, key2 kd ix, zeroDen E.P e ty with
    | some (id, xs), some (a, b), some z =>
      out σ (if ok then .tup [A1.of ty ((mget xs a b).getD z), ⟨false, [.dat .bool (mget xs a b).isSome]⟩] else .v (A1.of ty ((mget xs a b).getD z))) [id]
    | _, _, _ => .fail
  | none => .fail
def doMapPut (t : TypeId) (x ix y : AV) : Tree (Out sT.den) :=
  match mapTy E.P t with
  | some (kd, _, ty) => match mapAt σ x kd ty, key2 kd ix, asA1 y with
    | some (id, xs), some (a, b), some y => match A1.den? (fun _ => none) ty y with
      | some y => outW E σ .top [(id, some (.mapo kd ty (mput xs a b y) false))] [id]
      | none => .fail
    | _, _, _ => .fail
  | none => .fail

def doOp (new : Nat) (o : Oper) : Tree (Out sT.den) :=
  let v := ev E σ
  match o.op with
  | .move x | .assign x => out σ (v x)
  | .pick c a b => match asBool (v c) with
    | some t => .ite t (out σ (v a)) (out σ (v b))
    | none => .fail
  | .alloc t => match zeroCells E.P t with
    | some cs => outW E σ (.one (.ptr new 0)) [(new, some (.box cs false))]
    | none => .fail
  | .box _ x => match asA1 (v x) with
    | some a => if a.cs.all (solid σ.h) then outW E σ (.one (.ptr new 0)) [(new, some (.box a.cs false))] (a.cs.flatMap A0.ids) else .fail
    | none => .fail
  | .build t parts => match E.P.underlying t, zeroCells E.P t with
    | some (.struct fs), some z => if fs.any (fun f => (E.P.info? f.type).isNone) then .fail else match fillCells σ.h (fun i => match fs[i]? with | some f => (E.P.info? f.type).map fun j => (f.offset, j.size) | none => none) v z parts.toList with
      | some cs => out σ (.agg cs)
      | none => .fail
    | some (.array _ e), some z => match E.P.info? e with
      | some i => match fillCells σ.h (fun k => some (k * i.size, i.size)) v z parts.toList with
        | some cs => out σ (.agg cs)
        | none => .fail
      | none => .fail
    | _, _ => .fail
  | .buildSlice t len parts => match E.P.underlying t with
    | some (.slice e) => match tyOf E.P 8 e, zeroCells E.P e, E.P.info? e with
      | some t', some z, some i => if i.size = t'.nc && decide (0 < t'.nc) && decide (len * t'.nc ≤ 16777216) then
          match fillCells σ.h (fun k => some (k * i.size, i.size)) v (List.replicate len z).flatten parts.toList with
          | some cs => if E.refs == len && decide (0 < len) then outW E σ (.one (.bsl new len)) [(new, some (.box cs false))] (cs.flatMap A0.ids) else
            let fr := frz σ.h (cs.flatMap A0.ids)
            match rowsOf t' len (cs.map fun a => match dataOf σ.h a with | some d => d.a0 | none => a) with
            | some xs => outW E σ (.one (.sl new)) (fr ++ [(new, some (.vec e t' xs false))]) (cs.flatMap A0.ids)
            | none => .fail
          | none => .fail
        else .fail
      | _, _, _ => .fail
    | _ => .fail
  | .load t a => match load' E σ t (v a) with
    | some (x, rd) => out σ x rd
    | none => .fail
  | .store t a x => store' E σ t (v a) (v x)
  | .binOp op t x y _ => (doBin E op t y (v x) (v y)).bind fun r => out σ r
  | .unOp op _ x => (doUn op (v x)).bind fun r => out σ r
  | .convert t d x => match E.P.underlying t, E.P.underlying d, asInt (v x) with
    | some _, some (.int k), some (_, n) => out σ (.int k (k.wrap n))
    | _, _, _ => .fail
  | .makeFunc (.func f) first caps =>
    match toDs (first.toList.map v), capDs σ.h (caps.toList.map v) with
    | some fs, some (cs, w) => if w.isEmpty then out σ (.one (.dat (.clo f (packDs fs).t (packDs cs).t) ((packDs fs).x, (packDs cs).x)))
        else outW E σ (.one (.dat (.clo f (packDs fs).t (packDs cs).t) ((packDs fs).x, (packDs cs).x))) w (w.map (·.1))
    | _, _ => if first.isEmpty then match ptrIds (caps.toList.map v) with
        | some ids => out σ (.one (.fn f ids))
        | none => .fail
      else .fail
  | .makeSlice t l c => match E.P.underlying t with
    | some (.slice e) => match tyOf E.P 8 e, E.P.info? e, asInt (v l), asInt (v c) with
      | some t', some i, some (.i64, n), some (.i64, m) => match zeroDen E.P e t' with
        | some z => if i.size = t'.nc && decide (0 < t'.nc) && decide (0 < i.bytes) then .need (n == m && decide (0 ≤ n) && decide (n * i.bytes ≤ 140737488355328))
            (outW E σ (.one (.sl new)) [(new, some (.vec e t' (List.replicate n.toNat z) false))]) else .fail
        | none => .fail
      | _, _, _, _ => .fail
    | _ => .fail
  | .slice t x lo hi mx => match optInt (lo.map v), optInt (hi.map v), optInt (mx.map v) with
    | some l, some h, some m => if m.isSome && h.isNone then .fail else slice' E σ t (v x) hi mx l h m
    | _, _, _ => .fail
  | .fieldAddr s x f => match fieldAddr' E σ s (v x) f with
    | some (r, rd) => out σ r rd
    | none => .fail
  | .field s x f => match E.P.underlying s, v x with
    | some (.struct fs), .v ⟨true, cs⟩ => match fs[f]? with
      | some fd => match E.P.info? fd.type, isAggT E.P fd.type with
        | some i, some true => if fd.offset + i.size ≤ cs.length then out σ (.agg ((cs.drop fd.offset).take i.size)) else .fail
        | some _, some false => match cs[fd.offset]? with
          | some a => out σ (.one a)
          | none => .fail
        | _, _ => .fail
      | none => .fail
    | _, _ => .fail
  | .indexAddr t x ix => (indexAddr' E σ t (v x) ix (v ix)).bind fun r => out σ r.1 r.2
  | .index t x ix => match E.P.underlying t, v x, asInt (v ix) with
    | some (.array len e), .v ⟨true, cs⟩, some (_, n) => match tyOf E.P 8 e, E.P.info? e, isAggT E.P e with
      | some t', some i, some ag => if i.size = t'.nc && t'.isAgg == ag && (ag || i.size == 1) then match rowsOf t' len cs with
          | some xs => .need (inRange n len) (out σ (.v (A1.of t' (List.getD xs n.toNat t'.dflt))))
          | none => .fail
        else .fail
      | _, _, _ => .fail
    | _, _, _ => .fail
  | .makeMap t r => doMap E σ new t r
  | .lookup t x ix ok => doLookup E σ t (v x) (v ix) ok
  | .mapUpdate t x ix y => doMapPut E σ t (v x) (v ix) (v y)
  | .extract x i => match v x with
    | .tup xs => match xs[i]? with
      | some a => out σ (.v a)
      | none => .fail
    | _ => .fail
  | .call c => match c.callee with
    | .value f => callVal E σ new (v f) (c.args.toList.map v)
    | .builtin b => doBuiltin E σ new b c.argTypes.toList (c.args.toList.map v)
    | .invoke .. => .fail
  | _ => .fail
end

/-! ### Regions -/
section
variable {sT : Ty} (E : Env sT)
def applyOut (σ : St sT.den) (dst : Option Tmp) (o : Out sT.den) : St sT.den :=
  { σ with s := (match dst with | some d => upd σ.s d o.v | none => σ.s), h := putAll σ.h o.wr, g := o.g }
/-- One operation in its place; the guard, if there is one, is decided and remembered. What it touched is told. -/
structure Foot where
  rs : List Nat
  ws : List Nat
  rd : List Nat
  wr : List Nat
  /-- it has yielded -/
  gh : Bool
def opSlots (o : Oper) : List Nat := o.op.operands.toList.filterMap fun | .tmp t => some t | _ => none
/-- The blocks that an operation may look at. -/
def farOp (o : Oper) : Bool := match o.op with
  | .call _ => true
  | _ => false
def blindOp (o : Oper) : Bool := match o.op with
  | .move _ | .assign _ | .pick .. | .binOp .. | .unOp .. | .convert .. | .extract .. | .field .. | .index .. => true
  | _ => false
def reach (σ : St sT.den) (o : Oper) : List Nat :=
  if blindOp o then [] else
  let ids := o.op.operands.toList.flatMap fun x => avIds (ev E σ x)
  ids ++ if farOp o then (ids.flatMap fun id => match σ.h id with
    | some (.box cells _) => cells.flatMap A0.ids
    | _ => []) else []
/-- What it may look at, and nothing else. -/
def mask (σ : St sT.den) (ss rd : List Nat) : St sT.den :=
  { σ with s := fun t => if ss.contains t then σ.s t else .top, h := fun id => if rd.contains id then σ.h id else none }
def actOp (draw : Bool) (new : Nat) (σ : St sT.den) (gs : List Nat) (o : Oper) : Tree (St sT.den × Foot) :=
  if draw then
    let rd := reach E σ o
    (doOp E (mask σ (opSlots o) rd) new o).bind fun r => .ret (applyOut σ o.dst r, ⟨gs ++ opSlots o, o.dst.toList, rd ++ r.wr.map (·.1), r.wr.map (·.1), r.gh⟩)
  else (doOp E σ new o).bind fun r => .ret (applyOut σ o.dst r, ⟨[], [], [], [], false⟩)
def topOp (σ : St sT.den) (o : Oper) : St sT.den :=
  match o.dst with
  | some d => { σ with s := upd σ.s d (.tup []) }
  | none => σ
/-- An operation that was left out leaves nothing. -/
def isUndef : AV → Bool
  | .tup [] => true
  | _ => false
def runOp (draw : Bool) (ops : Array Oper) (base : Nat) (σ : St sT.den) (i : Nat) (o : Oper) : Tree (St sT.den × Foot) :=
  match o.guard with
  | none => actOp E draw (base + 4 * i) σ [] o
  | some (j, b) => match (ops[j]?).bind (·.dst) with
    | some d => match asBool (σ.s d) with
      | some t => .ite t
          (if b then actOp E draw (base + 4 * i) { σ with s := upd σ.s d (.bool true) } [d] o else .ret (topOp { σ with s := upd σ.s d (.bool true) } o, ⟨[d], o.dst.toList, [], [], false⟩))
          (if b then .ret (topOp { σ with s := upd σ.s d (.bool false) } o, ⟨[d], o.dst.toList, [], [], false⟩) else actOp E draw (base + 4 * i) { σ with s := upd σ.s d (.bool false) } [d] o)
      | none => if isUndef (σ.s d) then .ret (topOp σ o, ⟨[d], o.dst.toList, [], [], false⟩) else .fail
    | none => .fail
def runOps (draw : Bool) (ops : Array Oper) (base : Nat) : List (Nat × Oper) → St sT.den → Tree (St sT.den × List (Nat × Foot))
  | [], σ => .ret (σ, [])
  | (i, o) :: r, σ => (runOp E draw ops base σ i o).bind fun x => (runOps draw ops base r x.1).bind fun y => .ret (y.1, (i, x.2) :: y.2)
def hits (a b : List Nat) : Bool := a.any b.contains
def Foot.clash (a b : Foot) : Bool := hits a.ws (b.rs ++ b.ws) || hits b.ws a.rs || hits a.wr b.rd || hits b.wr a.rd || (a.gh && b.gh)
/-- It looks at no ghost. -/
def plainOp (o : Oper) : Bool := match o.op with
  | .move _ | .assign _ | .binOp .. | .unOp .. | .convert .. | .extract .. | .load .. | .indexAddr .. | .build .. => true
  | .call c => match c.callee with
    | .builtin b => match b with
      | .min => true
      | .max => true
      | .len => true
      | _ => false
    | _ => false
  | _ => false
/-- All that clashes is ordered. -/
def ordered (bf : Array Nat) : List (Nat × Foot) → Bool
  | [] => true
  | (i, a) :: r => r.all (fun y => (bf.getD y.1 0).testBit i || !(a.clash y.2)) && ordered bf r
/-- Edges lead back. -/
def backward (ops : Array Oper) : Bool := (List.range ops.size).all fun i => match ops[i]? with
  | some o => o.after.all fun e => !Region.binds .any e || decide (e.on < i)
  | none => true
def numbered (ops : Array Oper) : List (Nat × Oper) := ops.toList.zipIdx.map fun x => (x.2, x.1)
def runRegion (ops : Array Oper) (draw : Bool) (σ : St sT.den) : Tree (St sT.den) :=
  (runOps E draw ops σ.n (numbered ops) σ).bind fun x =>
    if !draw || ((E.step.isNone || x.2.all fun y => y.2.gh || (match ops[y.1]? with | some o => plainOp o | none => false)) && backward ops && ordered (Region.before ops) x.2) then .ret { x.1 with n := σ.n + 4 * ops.size } else .fail

/-! ### Code -/
/-- What keeps its number: variables, and slices that stay. -/
def OPat.stays : OPat → Bool
  | .box _ => true
  | .arr _ _ => true
  | _ => false
/-- The variables among a pattern's objects: they keep their numbers. -/
def boxIds : (k : Nat) → List OPat → Ids
  | _, [] => []
  | k, .box _ :: r => (k, some k) :: boxIds (k + 1) r
  | k, .vec _ _ :: r => boxIds (k + 1) r
  | k, .map _ _ :: r => boxIds (k + 1) r
  | k, .arr _ _ :: r => (k, some k) :: boxIds (k + 1) r
/-- The numbers of a loop's objects behind it: a variable keeps its own; a slice that may have grown gets a new one. -/
def exitIds (pre : Pat) (m : Ids) (new k : Nat) : Nat :=
  match pre.objs[k]? with
  | some o => if o.stays then match m.lookup k with
    | some (some id) => id
    | _ => new + k
    else new + k
  | _ => new + k
def killed (m : Ids) : Wr := (idsOf m).map fun id => (id, none)
def exitOne (σ : St sT.den) (m : Ids) (fr : Wr) (pre : Pat) (wr : List Nat) (e : Ex) (p : Pat) (y : p.ty.den) : Ex × St sT.den :=
  let ids := exitIds pre m σ.n
  (e, { σ with s := putSlots (fun t => if wr.contains t then .top else σ.s t) (slotsInst ids p.slots y.2), h := putAll (putAll (putAll σ.h fr) (killed m)) (objsInst ids 0 p.objs y.1), n := σ.n + p.objs.length })
def exitSt (σ : St sT.den) (m : Ids) (fr : Wr) (pre : Pat) (wr : List Nat) : (exits : List (Ex × Pat)) → (sumTy exits).den → Tree (Ex × St sT.den)
  | [], _ => .fail
  | [p], y => .ret (exitOne σ m fr pre wr p.1 p.2 y)
  | p :: q :: r, y => .cas p.2.ty (sumTy (q :: r)) y (fun y => .ret (exitOne σ m fr pre wr p.1 p.2 y)) (fun y => exitSt σ m fr pre wr (q :: r) y)
def flatExits (es : List (Ex × Pat)) : Bool := es.all fun e => e.2.flat

def runCode (blk : Nat) : Code → St sT.den → Tree (Ex × St sT.den)
  | .skip, σ => .ret (.normal, σ)
  | .label _, σ => .ret (.normal, σ)
  | .ret, σ => .ret (.ret, σ)
  | .exit id, σ => .ret (.exit id, σ)
  | .region _ ops draw, σ => (runRegion E ops draw σ).bind fun τ => .ret (.normal, τ)
  | .seq a b, σ => (runCode blk a σ).bind fun x => match x.1 with
    | .normal => runCode blk b x.2
    | e => .ret (e, x.2)
  | .cond c a b, σ => match c with
    | .tmp t => match asBool (σ.s t) with
      | some v => .ite v (runCode blk a { σ with s := upd σ.s t (.bool true) }) (runCode blk b { σ with s := upd σ.s t (.bool false) })
      | none => .fail
    | c => match asBool (ev E σ c) with
      | some v => .ite v (runCode blk a σ) (runCode blk b σ)
      | none => .fail
  | .block id c, σ => (runCode id c σ).bind fun x => .ret (if x.1 = .exit id then .normal else x.1, x.2)
  | .loop _, σ => match E.loops.find? (·.blk == blk) with
    | some L => match L.pre.find σ with
      | some m => match L.pre.read m σ with
        | some x => if m.all (fun q => decide (q.1 < L.pre.objs.length)) && (E.mayMake || (L.pre.objs.isEmpty && L.exits.all (fun e => e.2.objs.isEmpty) && (L.pre.dats m σ).isEmpty)) then
            let fr := if flatExits L.exits then [] else frzA σ.h (L.pre.dats m σ)
            match L.G with
            | none => if E.step.isNone then .call (sumTy L.exits) (L.F x) (exitSt σ m fr L.pre L.wr L.exits) else .fail
            | some G => .call (.pair sT (sumTy L.exits)) (G σ.g x) fun r => exitSt { σ with g := r.1 } m fr L.pre L.wr L.exits r.2
          else .fail
        | none => .fail
      | none => .fail
    | none => .fail
  | .rangeFunc f _ _ _, σ => match E.ranges.find? (·.blk == blk) with
    | some L => match ev E σ f, L.pre.find σ with
      | .v fv, some m => match fv.den? σ.h L.cl, L.pre.read m σ with
        | some c, some x => if E.mayMake && (fv.cs.flatMap A0.ids).isEmpty && m.all (fun q => decide (q.1 < L.pre.objs.length)) then
            let fr := if flatExits L.exits then [] else frzA σ.h (L.pre.dats m σ)
            .call (sumTy L.exits) (L.F c x) (exitSt σ m fr L.pre L.wr L.exits)
          else .fail
        | _, _ => .fail
      | _, _ => .fail
    | none => .fail
  | _, _ => .fail

/-- A state that a pattern tells. -/
def startSt (g : sT.den) (p : Pat) (x : p.ty.den) : St sT.den :=
  { s := putSlots (fun _ => .top) (slotsInst id p.slots x.2), h := putAll (fun _ => none) (objsInst id 0 p.objs x.1), n := p.objs.length, g := g }

/-- The results of a function. -/
def resVals (rs : List ResultVar) (σ : St sT.den) : Option (List AV) :=
  match rs with
  | [] => some []
  | .tmp t :: r => match resVals r σ with
    | some l => some (σ.s t :: l)
    | none => none
  | .cell a ty :: r => match load' E σ ty (σ.s a), resVals r σ with
    | some (v, _), some l => some (v :: l)
    | _, _ => none
/-- A whole function: from its entry's pattern to its end's. -/
def endSt (fn : Func) (σ : St sT.den) (pre post : Pat) : Option post.ty.den :=
  match resVals E fn.results.toList σ with
  | none => none
  | some rs =>
    let τ : St sT.den := { σ with s := fun j => rs.getD j .top }
    if post.slots.length = rs.length && decide (pre.objs.length ≤ post.objs.length) then
      match post.findFrom ((List.range pre.objs.length).map fun k => (k, some k)) τ with
      | none => none
      | some m => if m.all (fun q => decide (q.1 < post.objs.length)) then post.read m τ else none
    else none
def runFun (T : Ty) (post : Pat) (mk : sT.den → post.ty.den → T.den) (fn : Func) (pre : Pat) (g : sT.den) (x : pre.ty.den) : Option T.den :=
  match fn.body with
  | none => none
  | some c => ((runCode E 0 c (startSt g pre x)).bind fun r => match r.1 with
    | .exit _ => .fail
    | _ => match endSt E fn r.2 pre post with
      | some y => .ret (mk r.2.g y)
      | none => .fail).eval

/-- One round of a loop: 'rec' tells what the next ones do. -/
def sumPut : (exits : List (Ex × Pat)) → (e : Ex) → ((p : Pat) → Option p.ty.den) → Option (sumTy exits).den
  | [], _, _ => none
  | [p], e, f => if p.1 = e then f p.2 else none
  | p :: q :: r, e, f => if p.1 = e then (match f p.2 with | some y => some (.inl y) | none => none) else match sumPut (q :: r) e f with
    | some y => some (.inr y)
    | none => none
def leave (pre : Pat) (σ : St sT.den) (p : Pat) : Option p.ty.den :=
  match p.findFrom (boxIds 0 pre.objs) σ with
  | none => none
  | some m => if m.all (fun q => decide (q.1 < p.objs.length)) then p.read m σ else none
def runLoop (T : Ty) (exits : List (Ex × Pat)) (mk : sT.den → (sumTy exits).den → T.den) (c : Code) (pre : Pat) (rec : sT.den → pre.ty.den → Option T.den) (g : sT.den) (x : pre.ty.den) : Option T.den :=
  ((runCode E 0 c (startSt g pre x)).bind fun r => match r.1 with
    | .normal => match leave pre r.2 pre with
      | some x' => .call T (rec r.2.g x') .ret
      | none => .fail
    | e => match sumPut exits e (fun p => leave pre r.2 p) with
      | some y => .ret (mk r.2.g y)
      | none => .fail).eval
end
end Go.Sh

namespace Go.Sh

abbrev Mem := Nat → Nat → Option Value
def Mem.le (C C' : Mem) : Prop := ∀ b o v, C b o = some v → C' b o = some v
def Mem.sub (C : Mem) (w : World) : Prop := ∀ b o v, C b o = some v → w.cell? ⟨b, o, none⟩ = some v
theorem Mem.le.refl (C : Mem) : C.le C := fun _ _ _ h => h
theorem Mem.le.trans {A B C : Mem} (h : A.le B) (k : B.le C) : A.le C := fun b o v x => k b o v (h b o v x)

inductive All2 {α β : Type} (R : α → β → Prop) : List α → List β → Prop
  | nil : All2 R [] []
  | cons {a b as bs} (h : R a b) (t : All2 R as bs) : All2 R (a :: as) (b :: bs)
namespace All2
variable {α β γ : Type} {R S : α → β → Prop}
theorem length {as : List α} {bs : List β} (h : All2 R as bs) : as.length = bs.length := by induction h <;> simp_all
theorem mono {as : List α} {bs : List β} (h : All2 R as bs) (f : ∀ a b, a ∈ as → R a b → S a b) : All2 S as bs := by
  induction h with
  | nil => exact .nil
  | cons h _ ih => exact .cons (f _ _ (by simp) h) (ih fun a b ha => f a b (by simp [ha]))
theorem append {as as' : List α} {bs bs' : List β} (h : All2 R as bs) (h' : All2 R as' bs') : All2 R (as ++ as') (bs ++ bs') := by
  induction h with
  | nil => exact h'
  | cons h _ ih => exact .cons h ih
theorem split {as as' : List α} {bs : List β} (h : All2 R (as ++ as') bs) : ∃ b1 b2, bs = b1 ++ b2 ∧ All2 R as b1 ∧ All2 R as' b2 := by
  induction as generalizing bs with
  | nil => exact ⟨[], bs, rfl, .nil, h⟩
  | cons a as ih =>
    cases h with
    | cons h t =>
      obtain ⟨b1, b2, rfl, h1, h2⟩ := ih t
      exact ⟨_ :: b1, b2, rfl, .cons h h1, h2⟩
theorem drop {as : List α} {bs : List β} (h : All2 R as bs) (n : Nat) : All2 R (as.drop n) (bs.drop n) := by
  induction h generalizing n with
  | nil => simpa using All2.nil
  | cons h t ih => cases n with
    | zero => exact .cons h t
    | succ n => exact ih n
theorem take {as : List α} {bs : List β} (h : All2 R as bs) (n : Nat) : All2 R (as.take n) (bs.take n) := by
  induction h generalizing n with
  | nil => simpa using All2.nil
  | cons h t ih => cases n with
    | zero => exact .nil
    | succ n => exact .cons h (ih n)
theorem get {as : List α} {bs : List β} (h : All2 R as bs) {i : Nat} {a : α} (ha : as[i]? = some a) : ∃ b, bs[i]? = some b ∧ R a b := by
  induction h generalizing i with
  | nil => simp at ha
  | cons h t ih => cases i with
    | zero => simp at ha; exact ⟨_, rfl, ha ▸ h⟩
    | succ i => exact ih (by simpa using ha)
theorem get' {as : List α} {bs : List β} (h : All2 R as bs) {i : Nat} {b : β} (hb : bs[i]? = some b) : ∃ a, as[i]? = some a ∧ R a b := by
  induction h generalizing i with
  | nil => simp at hb
  | cons h t ih => cases i with
    | zero => simp at hb; exact ⟨_, rfl, hb ▸ h⟩
    | succ i => exact ih (by simpa using hb)
theorem map_left {f : γ → α} {as : List γ} {bs : List β} : All2 R (as.map f) bs ↔ All2 (fun a b => R (f a) b) as bs := by
  induction as generalizing bs with
  | nil => constructor <;> (intro h; cases h; exact .nil)
  | cons a as ih => constructor <;> (intro h; cases h with | cons h t => exact .cons h (by first | exact ih.1 t | exact ih.2 t))
end All2

def valRep (ag : Bool) (p : List Value → Prop) (v : Value) : Prop := if ag then ∃ cs : List Value, v = .agg cs.toArray ∧ p cs else p [v]
theorem valRep.mono {ag : Bool} {p q : List Value → Prop} {v : Value} (h : valRep ag p v) (f : ∀ cs, p cs → q cs) : valRep ag q v := by
  cases ag with
  | false => exact f _ h
  | true => obtain ⟨cs, rfl, hp⟩ := h; exact ⟨cs, rfl, f _ hp⟩

/-- The cells of a datum; and, for the values that a function brings along, the values. -/
def RepX (C : Mem) : (t : Ty) → t.den → (List Value → Prop) × (List Value → Prop)
  | .int k, n => (fun cs => cs = [.int k n], fun _ => False)
  | .bool, b => (fun cs => cs = [.bool b], fun _ => False)
  | .unit, _ => (fun cs => cs = [], fun vs => vs = [])
  | .pair a b, x => (fun cs => ∃ c1 c2, cs = c1 ++ c2 ∧ (RepX C a x.1).1 c1 ∧ (RepX C b x.2).1 c2,
      fun vs => ∃ v r, vs = v :: r ∧ valRep a.isAgg (RepX C a x.1).1 v ∧ (RepX C b x.2).2 r)
  | .agg t, x => (fun cs => (RepX C t x).1 cs, fun _ => False)
  | .list t, xs => (fun cs => ∃ (a : Option Addr) (cap : Nat), cs = [.slice a (List.length xs) cap] ∧ List.length xs ≤ cap ∧
      ∀ i (h : i < List.length xs), ∃ b o row, a = some ⟨b, o, none⟩ ∧ (RepX C t xs[i]).1 row ∧ ∀ j v, row[j]? = some v → C b (o + i * t.nc + j) = some v, fun _ => False)
  | .ref t, x => (fun cs => ∃ b o row, cs = [.pointer (some ⟨b, o, none⟩)] ∧ (RepX C t x).1 row ∧ ∀ j v, row[j]? = some v → C b (o + j) = some v, fun _ => False)
  | .clo f a b, x => (fun cs => ∃ va vb : List Value, cs = [.func (.func f) va.toArray vb.toArray] ∧ (RepX C a x.1).2 va ∧ (RepX C b x.2).2 vb, fun _ => False)
  | .self f c, x => (fun cs => ∃ b o, ∃ vc : List Value, cs = [.pointer (some ⟨b, o, none⟩)] ∧ C b o = some (.func (.func f) #[] (Value.pointer (some ⟨b, o, none⟩) :: vc).toArray) ∧ (RepX C c x).2 vc, fun _ => False)
  | .sum _ _, _ => (fun cs => cs = [], fun _ => False)
abbrev Rep (C : Mem) (t : Ty) (x : t.den) (cs : List Value) : Prop := (RepX C t x).1 cs
abbrev Vals (C : Mem) (t : Ty) (x : t.den) (vs : List Value) : Prop := (RepX C t x).2 vs

theorem RepX.mono {C C' : Mem} (h : C.le C') : ∀ (t : Ty) (x : t.den), (∀ cs, Rep C t x cs → Rep C' t x cs) ∧ (∀ vs, Vals C t x vs → Vals C' t x vs) := by
  intro t
  induction t with
  | int k => exact fun x => ⟨fun _ h => h, fun _ h => h⟩
  | bool => exact fun x => ⟨fun _ h => h, fun _ h => h⟩
  | unit => exact fun x => ⟨fun _ h => h, fun _ h => h⟩
  | sum a b => exact fun x => ⟨fun _ h => h, fun _ h => h⟩
  | pair a b iha ihb =>
    exact fun x => ⟨fun cs ⟨c1, c2, e, h1, h2⟩ => ⟨c1, c2, e, (iha _).1 _ h1, (ihb _).1 _ h2⟩, fun vs ⟨v, r, e, h1, h2⟩ => ⟨v, r, e, h1.mono (iha _).1, (ihb _).2 _ h2⟩⟩
  | agg t ih => exact fun x => ⟨fun cs hh => (ih x).1 _ hh, fun _ h => h⟩
  | list t ih => exact fun x => ⟨fun cs ⟨a, cap, e, hc, hr⟩ => ⟨a, cap, e, hc, fun i hi => let ⟨b, o, row, e1, h1, h2⟩ := hr i hi; ⟨b, o, row, e1, (ih _).1 _ h1, fun j v hv => h _ _ _ (h2 j v hv)⟩⟩, fun _ h => h⟩
  | ref t ih => exact fun x => ⟨fun cs ⟨b, o, row, e, h1, h2⟩ => ⟨b, o, row, e, (ih _).1 _ h1, fun j v hv => h _ _ _ (h2 j v hv)⟩, fun _ h => h⟩
  | clo f a b iha ihb => exact fun x => ⟨fun cs ⟨va, vb, e, h1, h2⟩ => ⟨va, vb, e, (iha _).2 _ h1, (ihb _).2 _ h2⟩, fun _ h => h⟩
  | self f c ih => exact fun x => ⟨fun cs ⟨b, o, vc, e, h1, h2⟩ => ⟨b, o, vc, e, h _ _ _ h1, (ih x).2 _ h2⟩, fun _ h => h⟩
theorem Rep.mono {C C' : Mem} (h : C.le C') {t : Ty} {x : t.den} {cs : List Value} (hr : Rep C t x cs) : Rep C' t x cs := (RepX.mono h t x).1 cs hr

theorem Rep.flat {C C' : Mem} : ∀ {t : Ty} {x : t.den} {cs : List Value}, t.flat = true → Rep C t x cs → Rep C' t x cs := by
  intro t
  induction t with
  | int k => exact fun _ h => h
  | bool => exact fun _ h => h
  | unit => exact fun _ h => h
  | pair a b iha ihb =>
    intro x cs hf ⟨c1, c2, e, h1, h2⟩
    simp only [Ty.flat, Bool.and_eq_true] at hf
    exact ⟨c1, c2, e, iha hf.1 h1, ihb hf.2 h2⟩
  | agg t ih => exact fun hf h => ih (by simpa [Ty.flat] using hf) h
  | list t ih => simp [Ty.flat]
  | ref t ih => simp [Ty.flat]
  | clo f a b _ _ => simp [Ty.flat]
  | self f c _ => simp [Ty.flat]
  | sum a b _ _ => simp [Ty.flat]

theorem explode_rep {C : Mem} : ∀ {t : Ty} {x : t.den} {cs : List Value}, Rep C t x cs ↔ All2 (fun (d : D) v => Rep C d.t d.x [v]) (explode t x) cs := by
  intro t
  induction t with
  | unit => intro x cs; constructor <;> intro h <;> (first | (cases h; exact .nil) | (cases h; rfl))
  | sum a b _ _ => intro x cs; constructor <;> intro h <;> (first | (cases h; exact .nil) | (cases h; rfl))
  | agg t ih => exact fun {x cs} => ih (x := x) (cs := cs)
  | pair a b iha ihb =>
    intro x cs
    constructor
    · rintro ⟨c1, c2, rfl, h1, h2⟩
      exact (iha.1 h1).append (ihb.1 h2)
    · intro h
      obtain ⟨c1, c2, rfl, h1, h2⟩ := All2.split h
      exact ⟨c1, c2, rfl, iha.2 h1, ihb.2 h2⟩
  | int k =>
    intro x cs
    constructor
    · intro h; cases h; exact .cons rfl .nil
    · intro h; cases h with | cons h t => cases t; exact h
  | bool =>
    intro x cs
    constructor
    · intro h; cases h; exact .cons rfl .nil
    · intro h; cases h with | cons h t => cases t; exact h
  | list t ih =>
    intro x cs
    constructor
    · intro h; have h' := h; obtain ⟨a, cap, rfl, _⟩ := h; exact .cons h' .nil
    · intro h; cases h with | cons h t => cases t; exact h
  | ref t ih =>
    intro x cs
    constructor
    · intro h; have h' := h; obtain ⟨a, cap, row, rfl, _⟩ := h; exact .cons h' .nil
    · intro h; cases h with | cons h t => cases t; exact h
  | clo f a b _ _ =>
    intro x cs
    constructor
    · intro h; have h' := h; obtain ⟨a, cap, rfl, _⟩ := h; exact .cons h' .nil
    · intro h; cases h with | cons h t => cases t; exact h
  | self f c _ =>
    intro x cs
    constructor
    · intro h; have h' := h; obtain ⟨a, cap, vc, rfl, _⟩ := h; exact .cons h' .nil
    · intro h; cases h with | cons h t => cases t; exact h
theorem explode_length : ∀ (t : Ty) (x : t.den), (explode t x).length = t.nc := by
  intro t
  induction t with
  | pair a b iha ihb => intro x; simp [explode, Ty.nc, iha, ihb]
  | agg t ih => exact fun x => ih x
  | _ => intro x; rfl
theorem Rep.length {C : Mem} {t : Ty} {x : t.den} {cs : List Value} (h : Rep C t x cs) : cs.length = t.nc := by
  rw [← (explode_rep.1 h).length, explode_length]
theorem Rep.oneCell1 {C : Mem} {t : Ty} {x : t.den} {v : Value} : ∀ d ∈ explode t x, Rep C d.t d.x [v] → v.oneCell' = true := by
  revert x
  induction t with
  | unit => intro x d hd; simp [explode] at hd
  | sum a b _ _ => intro x d hd; simp [explode] at hd
  | agg t ih => exact fun {x} => ih (x := x)
  | pair a b iha ihb =>
    intro x d hd
    simp only [explode, List.mem_append] at hd
    rcases hd with hd | hd
    · exact iha d hd
    · exact ihb d hd
  | int k => intro x d hd h; simp only [explode, List.mem_singleton] at hd; subst hd; cases h; rfl
  | bool => intro x d hd h; simp only [explode, List.mem_singleton] at hd; subst hd; cases h; rfl
  | list t ih => intro x d hd h; simp only [explode, List.mem_singleton] at hd; subst hd; obtain ⟨a, cap, e, _⟩ := h; cases e; rfl
  | ref t ih => intro x d hd h; simp only [explode, List.mem_singleton] at hd; subst hd; obtain ⟨a, cap, row, e, _⟩ := h; cases e; rfl
  | clo f a b _ _ => intro x d hd h; simp only [explode, List.mem_singleton] at hd; subst hd; obtain ⟨a, cap, e, _⟩ := h; cases e; rfl
  | self f c _ => intro x d hd h; simp only [explode, List.mem_singleton] at hd; subst hd; obtain ⟨a, cap, vc, e, _⟩ := h; cases e; rfl
theorem Rep.oneCell {C : Mem} {t : Ty} {x : t.den} {cs : List Value} (h : Rep C t x cs) : ∀ v ∈ cs, v.oneCell' = true := by
  intro v hv
  obtain ⟨i, hi⟩ := List.mem_iff_getElem?.1 hv
  obtain ⟨d, hd, hr⟩ := (explode_rep.1 h).get' hi
  exact Rep.oneCell1 (x := x) d (List.mem_of_getElem? hd) hr

/-! ### Rows, one after the other -/
def Rows (C : Mem) (t : Ty) : List t.den → List Value → Prop
  | [], cs => cs = []
  | x :: xs, cs => ∃ r cs', cs = r ++ cs' ∧ Rep C t x r ∧ Rows C t xs cs'
theorem Rows.length {C : Mem} {t : Ty} : ∀ {xs : List t.den} {cs : List Value}, Rows C t xs cs → cs.length = xs.length * t.nc := by
  intro xs
  induction xs with
  | nil => intro cs h; cases h; simp
  | cons x xs ih =>
    rintro cs ⟨r, cs', rfl, h1, h2⟩
    simp [h1.length, ih h2, Nat.add_mul, Nat.add_comm]
theorem Rows.mono {C C' : Mem} (hc : C.le C') {t : Ty} : ∀ {xs : List t.den} {cs : List Value}, Rows C t xs cs → Rows C' t xs cs := by
  intro xs
  induction xs with
  | nil => exact fun h => h
  | cons x xs ih => rintro cs ⟨r, cs', e, h1, h2⟩; exact ⟨r, cs', e, h1.mono hc, ih h2⟩
theorem Rows.flat {C C' : Mem} {t : Ty} (hf : t.flat = true) : ∀ {xs : List t.den} {cs : List Value}, Rows C t xs cs → Rows C' t xs cs := by
  intro xs
  induction xs with
  | nil => exact fun h => h
  | cons x xs ih => rintro cs ⟨r, cs', e, h1, h2⟩; exact ⟨r, cs', e, h1.flat hf, ih h2⟩
theorem Rows.append {C : Mem} {t : Ty} {ys : List t.den} {ds : List Value} (k : Rows C t ys ds) : ∀ {xs : List t.den} {cs : List Value}, Rows C t xs cs → Rows C t (xs ++ ys) (cs ++ ds) := by
  intro xs
  induction xs with
  | nil => intro cs h; cases h; exact k
  | cons x xs ih => rintro cs ⟨r, cs', rfl, h1, h2⟩; exact ⟨r, cs' ++ ds, by simp, h1, ih h2⟩
theorem Rows.split {C : Mem} {t : Ty} : ∀ {xs ys : List t.den} {cs : List Value}, Rows C t (xs ++ ys) cs → ∃ c1 c2, cs = c1 ++ c2 ∧ Rows C t xs c1 ∧ Rows C t ys c2 := by
  intro xs
  induction xs with
  | nil => intro ys cs h; exact ⟨[], cs, rfl, rfl, h⟩
  | cons x xs ih =>
    rintro ys cs ⟨r, cs', rfl, h1, h2⟩
    obtain ⟨c1, c2, rfl, h3, h4⟩ := ih h2
    exact ⟨r ++ c1, c2, by simp, ⟨r, c1, rfl, h1, h3⟩, h4⟩
theorem Rows.oneCell {C : Mem} {t : Ty} : ∀ {xs : List t.den} {cs : List Value}, Rows C t xs cs → ∀ v ∈ cs, v.oneCell' = true := by
  intro xs
  induction xs with
  | nil => intro cs h; cases h; simp
  | cons x xs ih =>
    rintro cs ⟨r, cs', rfl, h1, h2⟩ v hv
    rcases List.mem_append.1 hv with h | h
    · exact h1.oneCell v h
    · exact ih h2 v h
/-- Row i of them. -/
theorem Rows.at {C : Mem} {t : Ty} : ∀ {xs : List t.den} {cs : List Value}, Rows C t xs cs → ∀ i (h : i < xs.length), ∃ pre row post, cs = pre ++ row ++ post ∧ pre.length = i * t.nc ∧ Rep C t xs[i] row := by
  intro xs
  induction xs with
  | nil => intro cs _ i h; simp at h
  | cons x xs ih =>
    rintro cs ⟨r, cs', rfl, h1, h2⟩ i hi
    cases i with
    | zero => exact ⟨[], r, cs', by simp, by simp, h1⟩
    | succ i =>
      obtain ⟨pre, row, post, rfl, h3, h4⟩ := ih h2 i (by simpa using hi)
      exact ⟨r ++ pre, row, post, by simp, by simp [h3, h1.length, Nat.add_mul, Nat.add_comm], h4⟩
theorem Rows.set {C : Mem} {t : Ty} : ∀ {xs : List t.den} {cs : List Value}, Rows C t xs cs → ∀ i (_ : i < xs.length) (y : t.den) (row : List Value), Rep C t y row →
    Rows C t (xs.set i y) (cs.take (i * t.nc) ++ row ++ cs.drop (i * t.nc + row.length)) := by
  intro xs
  induction xs with
  | nil => intro cs _ i h; simp at h
  | cons x xs ih =>
    rintro cs ⟨r, cs', rfl, h1, h2⟩ i hi y row hy
    cases i with
    | zero => exact ⟨row, cs', by simp [hy.length, ← h1.length], hy, h2⟩
    | succ i =>
      have := ih h2 i (by simpa using hi) y row hy
      have hl := h1.length
      refine ⟨r, _, ?_, h1, this⟩
      rw [show (i + 1) * t.nc = r.length + i * t.nc by rw [hl, Nat.add_mul]; omega]
      rw [List.take_length_add_append, show r.length + i * t.nc + row.length = r.length + (i * t.nc + row.length) by omega, List.drop_length_add_append]
      simp
/-- A slice whose rows lie in memory. -/
theorem Rep.list_of_rows {C : Mem} {t : Ty} {xs : List t.den} {cs : List Value} {b o cap : Nat} (h : Rows C t xs cs) (hc : xs.length ≤ cap) (hm : ∀ j v, cs[j]? = some v → C b (o + j) = some v) :
    Rep C (.list t) xs [.slice (some ⟨b, o, none⟩) xs.length cap] := by
  refine ⟨_, _, rfl, hc, fun i hi => ?_⟩
  obtain ⟨pre, row, post, rfl, h1, h2⟩ := h.at i hi
  refine ⟨b, o, row, rfl, h2, fun j v hv => ?_⟩
  rw [Nat.add_assoc, ← h1]
  refine hm _ v ?_
  rw [List.append_assoc, List.getElem?_append_right (by omega), Nat.add_sub_cancel_left]
  rw [List.getElem?_append_left (by obtain ⟨h, _⟩ := List.getElem?_eq_some_iff.1 hv; exact h)]
  exact hv
theorem Rep.list_nil {C : Mem} {t : Ty} (a : Option Addr) (cap : Nat) : Rep C (.list t) [] [.slice a 0 cap] := ⟨a, cap, rfl, by simp, fun i h => by simp at h⟩
/-- The rows of a slice, as they lie. -/
theorem Rep.rows {C : Mem} {t : Ty} {xs : List t.den} {a : Option Addr} {n cap : Nat} (h : Rep C (.list t) xs [.slice a n cap]) :
    n = xs.length ∧ n ≤ cap ∧ ∃ cs, Rows C t xs cs ∧ (xs = [] ∨ ∃ b o, a = some ⟨b, o, none⟩ ∧ ∀ j v, cs[j]? = some v → C b (o + j) = some v) := by
  obtain ⟨a', cap', e, hc, hr⟩ := h
  cases e
  refine ⟨rfl, hc, ?_⟩
  clear hc
  cases xs with
  | nil => exact ⟨[], rfl, .inl rfl⟩
  | cons x0 xs0 =>
    obtain ⟨b, o, _, rfl, _⟩ := hr 0 (by simp)
    have hr' : ∀ i (h : i < (x0 :: xs0).length), ∃ row, Rep C t (x0 :: xs0)[i] row ∧ ∀ j v, row[j]? = some v → C b (o + i * t.nc + j) = some v := by
      intro i hi
      obtain ⟨b', o', row, e, h1, h2⟩ := hr i hi
      cases e
      exact ⟨row, h1, h2⟩
    clear hr
    suffices h : ∀ (xs : List t.den) (o : Nat), (∀ i (h : i < xs.length), ∃ row, Rep C t xs[i] row ∧ ∀ j v, row[j]? = some v → C b (o + i * t.nc + j) = some v) →
        ∃ cs, Rows C t xs cs ∧ ∀ j v, cs[j]? = some v → C b (o + j) = some v by
      obtain ⟨cs, h1, h2⟩ := h _ o hr'
      exact ⟨cs, h1, .inr ⟨b, o, rfl, h2⟩⟩
    clear hr'
    intro xs
    induction xs with
    | nil => intro o _; exact ⟨[], rfl, by simp⟩
    | cons x xs ih =>
      intro o hr
      obtain ⟨row, h1, h2⟩ := hr 0 (by simp)
      obtain ⟨cs, h3, h4⟩ := ih (o + t.nc) (fun i hi => by
        obtain ⟨row, h5, h6⟩ := hr (i + 1) (by simpa using hi)
        refine ⟨row, h5, fun j v hv => ?_⟩
        have := h6 j v hv
        rw [show o + (i + 1) * t.nc + j = o + t.nc + i * t.nc + j by rw [Nat.add_mul]; omega] at this
        exact this)
      refine ⟨row ++ cs, ⟨row, cs, rfl, h1, h3⟩, fun j v hv => ?_⟩
      by_cases hj : j < row.length
      · rw [List.getElem?_append_left hj] at hv
        simpa using h2 j v hv
      · rw [List.getElem?_append_right (by omega)] at hv
        have := h4 _ v hv
        rw [h1.length] at this hj
        rw [show o + t.nc + (j - t.nc) = o + j by omega] at this
        exact this
end Go.Sh

namespace Go.Sh
open Go.MapKept Go.ChangeMaps

/-- A map's key: two whole numbers. -/
def keyV (kd : IntKind) (a b : Int) : Value := .agg #[.int kd a, .int kd b]
structure KeyT (P : Program) (k : TypeId) (kd : IntKind) (e : TypeId) (i : TypeInfo) : Prop where
  arr : P.underlying k = some (.array 2 e)
  int : P.underlying e = some (.int kd)
  info : P.info? e = some i
  one : P.cellsOf e = 1
section
variable {P : Program} {w : World} {k e : TypeId} {kd : IntKind} {i : TypeInfo}
theorem part_at (K : KeyT P k kd e i) {xs : Array Value} {off : Nat} {v : Value} (h : xs[off]? = some v) : (part e xs off).run P w = .ok v w := by
  simp [part, isAgg, run_underlying K.int, h]
theorem equal_key (K : KeyT P k kd e i) (a b a' b' : Int) : (Op.equal k (keyV kd a b) (keyV kd a' b')).run P w = .ok (a == a' && b == b') w := by
  have hint : ∀ (d : Nat) (x y : Int), (Op.equalIn (d + 1) e (.int kd x) (.int kd y)).run P w = .ok (x == y) w := fun d x y => by
    simp [Op.equalIn, run_underlying K.int]
  show (Op.equalIn (9998 + 1 + 1) k _ _).run P w = _
  unfold keyV
  rw [run_equalIn_array w (9998 + 1) _ _ K.arr K.info, K.one]
  have p0 := part_at (w := w) K (xs := #[.int kd a, .int kd b]) (off := 0 * 1) (v := .int kd a) rfl
  have p1 := part_at (w := w) K (xs := #[.int kd a, .int kd b]) (off := 1 * 1) (v := .int kd b) rfl
  have q0 := part_at (w := w) K (xs := #[.int kd a', .int kd b']) (off := 0 * 1) (v := .int kd a') rfl
  have q1 := part_at (w := w) K (xs := #[.int kd a', .int kd b']) (off := 1 * 1) (v := .int kd b') rfl
  rw [show List.range 2 = [0, 1] from rfl]
  simp only [Op.eqItems, Sem.run_bind, p0, q0, hint, Result.andThen_ok]
  cases a == a'
  · simp
  · simp only [Bool.not_true, Bool.false_eq_true, if_false, Sem.run_bind, p1, q1, hint, Result.andThen_ok]
    cases b == b' <;> simp
theorem check_key (K : KeyT P k kd e i) (em : Bool) (a b : Int) : (Instr.checkKey em 10000 k (keyV kd a b)).run P w = .ok () w := by
  have hint : ∀ (d : Nat) (x : Int), (Instr.checkKey em (d + 1) e (.int kd x)).run P w = .ok () w := fun d x => by
    simp [Instr.checkKey, run_underlying K.int]
  have hs := run_sizeOf w K.info
  have p0 := part_at (w := w) K (xs := #[.int kd a, .int kd b]) (off := 0 * 1) (v := .int kd a) rfl
  have p1 := part_at (w := w) K (xs := #[.int kd a, .int kd b]) (off := 1 * 1) (v := .int kd b) rfl
  show (Instr.checkKey em (9998 + 1 + 1) k _).run P w = _
  unfold keyV
  rw [Instr.checkKey]
  simp only [Sem.run_bind, run_underlying K.arr, Result.andThen_ok]
  simp only [Std.Legacy.Range.forIn_eq_forIn_range', Std.Legacy.Range.size]
  rw [show (2 - 0 + 1 - 1) / 1 = 2 from rfl, show List.range' 0 2 1 = [0, 1] from rfl]
  simp [List.forIn_cons, hs, K.one, p0, p1, hint]
theorem same_key (a b : Int) : (Instr.keyThatStays (keyV kd a b) (keyV kd a b)).run P w = .ok (keyV kd a b) w := by
  have : Instr.sameBits 10000 (keyV kd a b) (keyV kd a b) = true := by
    show Instr.sameBits (9999 + 1) (.agg _) (.agg _) = true
    simp [Instr.sameBits]
  simp [Instr.keyThatStays, this]
/-- The entries of a map, told. -/
def Ent {α : Type} (kd : IntKind) (R : α → Value → Prop) (x : (Int × Int) × α) (e : MapEntry) : Prop := e.key = keyV kd x.1.1 x.1.2 ∧ R x.2 e.val
end
end Go.Sh

namespace Go.Sh
open Go.RowKit

/-- Where an object of the frame's own lies: the whole slice's value; the block (none: it holds nothing). -/
structure Loc where
  v : Value
  blk : Option Nat

structure View where
  C : Mem
  U : Nat → Prop
  h : Nat → Option AObj
  ι : Nat → Loc
  yl : Nat

abbrev RepD (C : Mem) (d : D) (v : Value) : Prop := Rep C d.t d.x [v]

def ptrTo (V : View) (id off : Nat) (v : Value) : Prop :=
  V.U id ∧ (∀ cells fz, V.h id = some (.box cells fz) → ∃ b, (V.ι id).blk = some b ∧ v = .pointer (some ⟨b, off, none⟩)) ∧
    ∀ kd t xs fz, V.h id = some (.mapo kd t xs fz) → ∃ b, (V.ι id).blk = some b ∧ v = .map (some b)

def RA0 (V : View) : A0 → Value → Prop
  | .top, _ => True
  | .dat t x, v => Rep V.C t x [v]
  | .nils, v => ∃ a, v = .slice a 0 0
  | .sl id, v => V.U id ∧ ∀ e t xs fz, V.h id = some (.vec e t xs fz) → v = (V.ι id).v
  | .slp id off len ex, v => V.U id ∧ ∀ e t xs fz, V.h id = some (.vec e t xs fz) → off + len ≤ xs.length ∧
      ∃ a cap, v = .slice a len cap ∧ len ≤ cap ∧ (ex = true → cap = len) ∧ (len = 0 ∨ ∃ b, (V.ι id).blk = some b ∧ a = some ⟨b, off * t.nc, none⟩)
  | .ptr id off, v => ptrTo V id off v
  | .vptr id i j, v => V.U id ∧ ∀ e t xs fz, V.h id = some (.vec e t xs fz) → i < xs.length ∧ ∃ b, (V.ι id).blk = some b ∧ v = .pointer (some ⟨b, i * t.nc + j, none⟩)
  | .rp ds, v => ∃ b o row, v = .pointer (some ⟨b, o, none⟩) ∧ All2 (RepD V.C) ds row ∧ ∀ j u, row[j]? = some u → V.C b (o + j) = some u
  | .fn f caps, v => ∃ vs : List Value, v = .func (.func f) #[] vs.toArray ∧ All2 (fun id v => ptrTo V id 0 v) caps vs
  | .yld, v => v = .func (.yield V.yl) #[] #[]
  | .bsl id len, v => V.U id ∧ ∀ cells fz, V.h id = some (.box cells fz) → ∃ b cap, (V.ι id).blk = some b ∧ v = .slice (some ⟨b, 0, none⟩) len cap
abbrev RCs (V : View) (cs : List A0) (vs : List Value) : Prop := All2 (RA0 V) cs vs
def RA1 (V : View) (x : A1) (v : Value) : Prop := valRep x.agg (fun vs => RCs V x.cs vs) v
def RAV (V : View) : AV → Value → Prop
  | .v x, v => RA1 V x v
  | .tup xs, v => ∃ vs : List Value, v = .tuple vs.toArray ∧ All2 (RA1 V) xs vs

theorem RAV.top (V : View) (v : Value) : RAV V .top v := show RA1 V ⟨false, [.top]⟩ v from (show All2 (RA0 V) [.top] [v] from .cons trivial .nil)
theorem RAV.one {V : View} {a : A0} {v : Value} : RAV V (.one a) v ↔ RA0 V a v := by
  constructor
  · intro h; cases (show All2 (RA0 V) [a] [v] from h) with | cons h _ => exact h
  · intro h; exact (show All2 (RA0 V) [a] [v] from .cons h .nil)
theorem RAV.agg {V : View} {cs : List A0} {v : Value} : RAV V (.agg cs) v ↔ ∃ vs : List Value, v = .agg vs.toArray ∧ RCs V cs vs := Iff.rfl

def OwnV (w : World) (e : TypeId) (nc : Nat) (l : Loc) (n : Nat) (p : List Value → Prop) : Prop :=
  (n = 0 ∧ l.blk = none ∧ ∃ a, l.v = .slice a 0 0) ∨
  ∃ b cap cur, l.blk = some b ∧ l.v = .slice (some ⟨b, 0, none⟩) n cap ∧ w.heap[b]? = some (.cells cur e (0, 0)) ∧ n ≤ cap ∧ cap ≤ maxLen ∧ cur.size = cap * nc ∧ p (cur.toList.take (n * nc))

def FrzV (C : Mem) (t : Ty) (l : Loc) (xs : List t.den) : Prop :=
  (xs = [] ∧ l.blk = none ∧ ∃ a, l.v = .slice a 0 0) ∨
  ∃ b cap cs, l.blk = some b ∧ l.v = .slice (some ⟨b, 0, none⟩) xs.length cap ∧ xs.length ≤ cap ∧ Rows C t xs cs ∧ ∀ j v, cs[j]? = some v → C b j = some v

/-- A map's entry: nothing of it hangs on memory. -/
def EntR (kd : IntKind) (t : Ty) : (Int × Int) × t.den → MapEntry → Prop := Ent kd fun x v => valRep t.isAgg (fun cs => Rep (fun _ _ => none) t x cs) v
def ObjR (V : View) (w : World) (l : Loc) : AObj → Prop
  | .vec e t xs false => OwnV w e t.nc l xs.length fun cs => Rows V.C t xs cs
  | .vec _ t xs true => FrzV V.C t l xs
  | .box cells false => ∃ b cur e, l.blk = some b ∧ w.heap[b]? = some (.cells cur e (0, 0)) ∧ RCs V cells cur.toList
  | .box cells true => ∃ b vs, l.blk = some b ∧ RCs V cells vs ∧ ∀ j v, vs[j]? = some v → V.C b j = some v
  | .mapo kd t xs false => t.flat = true ∧ ∃ b es clock, l.blk = some b ∧ w.heap[b]? = some (.map es clock) ∧ All2 (EntR kd t) xs es.toList
  | .mapo _ _ _ true => True

def AObj.like : AObj → AObj → Prop
  | .vec _ t xs _, .vec _ t' xs' _ => t = t' ∧ List.length xs = List.length xs'
  | .box _ _, .box _ _ => True
  | .mapo _ _ _ _, .mapo _ _ _ _ => True
  | _, _ => False

/-- How what is known may go on: memory that doesn't change grows; nothing that is gone comes back; what lives stays where it is. -/
structure Evolve (V V' : View) : Prop where
  c : V.C.le V'.C
  u : ∀ id, V.U id → V'.U id
  o : ∀ id o', V.U id → V'.h id = some o' → ∃ o, V.h id = some o ∧ o.like o' ∧ V'.ι id = V.ι id
  yl : V'.yl = V.yl
theorem AObj.like.refl (o : AObj) : o.like o := by cases o <;> simp [AObj.like]
theorem AObj.like.trans {a b c : AObj} (h : a.like b) (k : b.like c) : a.like c := by
  cases a <;> cases b <;> cases c <;> simp_all [AObj.like]
theorem Evolve.refl (V : View) : Evolve V V := ⟨Mem.le.refl _, fun _ h => h, fun _ o _ h => ⟨o, h, .refl o, rfl⟩, rfl⟩
theorem Evolve.trans {A B D : View} (h : Evolve A B) (k : Evolve B D) : Evolve A D :=
  ⟨h.c.trans k.c, fun id hu => k.u id (h.u id hu), fun id o' hu ho => by
    obtain ⟨o1, h1, l1, e1⟩ := k.o id o' (h.u id hu) ho
    obtain ⟨o2, h2, l2, e2⟩ := h.o id o1 hu h1
    exact ⟨o2, h2, l2.trans l1, e1.trans e2⟩, k.yl.trans h.yl⟩

theorem ptrTo.evolve {V V' : View} (E : Evolve V V') {id off : Nat} {v : Value} (h : ptrTo V id off v) : ptrTo V' id off v := by
  refine ⟨E.u _ h.1, fun cells fz hb => ?_, fun kd t xs fz hb => ?_⟩
  · obtain ⟨o, ho, hl, he⟩ := E.o id _ h.1 hb
    rw [he]
    cases o with
    | box cells0 fz0 => exact h.2.1 _ _ ho
    | vec => exact hl.elim
    | mapo => exact hl.elim
  · obtain ⟨o, ho, hl, he⟩ := E.o id _ h.1 hb
    rw [he]
    cases o with
    | box => exact hl.elim
    | vec => exact hl.elim
    | mapo => exact h.2.2 _ _ _ _ ho
theorem RA0.evolve {V V' : View} (E : Evolve V V') : ∀ {a : A0} {v : Value}, RA0 V a v → RA0 V' a v := by
  intro a v h
  cases a with
  | top => trivial
  | dat t x => exact Rep.mono E.c h
  | nils => exact h
  | sl id =>
    refine ⟨E.u _ h.1, fun e t xs fz hb => ?_⟩
    obtain ⟨o, ho, hl, he⟩ := E.o id _ h.1 hb
    rw [he]
    cases o with
    | vec => exact h.2 _ _ _ _ ho
    | box => exact hl.elim
    | mapo => exact hl.elim
  | slp id off len ex =>
    refine ⟨E.u _ h.1, fun e t xs fz hb => ?_⟩
    obtain ⟨o, ho, hl, he⟩ := E.o id _ h.1 hb
    rw [he]
    cases o with
    | vec e0 t0 xs0 fz0 =>
      obtain ⟨rfl, hl⟩ := hl
      rw [← hl]
      exact h.2 _ _ _ _ ho
    | box => exact hl.elim
    | mapo => exact hl.elim
  | ptr id off => exact ptrTo.evolve E h
  | vptr id i j =>
    refine ⟨E.u _ h.1, fun e t xs fz hb => ?_⟩
    obtain ⟨o, ho, hl, he⟩ := E.o id _ h.1 hb
    rw [he]
    cases o with
    | vec e0 t0 xs0 fz0 =>
      obtain ⟨rfl, hl⟩ := hl
      rw [← hl]
      exact h.2 _ _ _ _ ho
    | box => exact hl.elim
    | mapo => exact hl.elim
  | rp ds =>
    obtain ⟨b, o, row, rfl, h1, h2⟩ := h
    exact ⟨b, o, row, rfl, h1.mono fun d v _ hr => Rep.mono E.c hr, fun j u hu => E.c _ _ _ (h2 j u hu)⟩
  | fn f caps =>
    obtain ⟨vs, rfl, h1⟩ := h
    exact ⟨vs, rfl, h1.mono fun id v _ hr => ptrTo.evolve E hr⟩
  | yld => exact (show v = _ from by rw [E.yl]; exact h)
  | bsl id len =>
    refine ⟨E.u _ h.1, fun cells fz hb => ?_⟩
    obtain ⟨o, ho, hl, he⟩ := E.o id _ h.1 hb
    rw [he]
    cases o with
    | box cells0 fz0 => exact h.2 _ _ ho
    | vec => exact hl.elim
    | mapo => exact hl.elim
theorem RCs.evolve {V V' : View} (E : Evolve V V') {cs : List A0} {vs : List Value} (h : RCs V cs vs) : RCs V' cs vs := h.mono fun _ _ _ hr => hr.evolve E
theorem RA1.evolve {V V' : View} (E : Evolve V V') {x : A1} {v : Value} (h : RA1 V x v) : RA1 V' x v := valRep.mono h fun _ hr => RCs.evolve E hr
theorem RAV.evolve {V V' : View} (E : Evolve V V') {x : AV} {v : Value} (h : RAV V x v) : RAV V' x v := by
  cases x with
  | v x => exact RA1.evolve E h
  | tup xs => obtain ⟨vs, rfl, h1⟩ := h; exact ⟨vs, rfl, h1.mono fun _ _ _ hr => hr.evolve E⟩
theorem ObjR.evolve {V V' : View} (E : Evolve V V') {w w' : World} {l : Loc} {o : AObj} (hw : o.fz = false → ∀ b, l.blk = some b → w'.heap[b]? = w.heap[b]?) (h : ObjR V w l o) : ObjR V' w' l o := by
  cases o with
  | vec e t xs fz =>
    cases fz with
    | false =>
      rcases h with h | ⟨b, cap, cur, hb, h1, h2, h3, h4, h5, h6⟩
      · exact .inl h
      · exact .inr ⟨b, cap, cur, hb, h1, (hw rfl b hb).trans h2, h3, h4, h5, h6.mono E.c⟩
    | true =>
      rcases h with h | ⟨b, cap, cs, hb, h1, h2, h3, h4⟩
      · exact .inl h
      · exact .inr ⟨b, cap, cs, hb, h1, h2, h3.mono E.c, fun j v hv => E.c _ _ _ (h4 j v hv)⟩
  | box cells fz =>
    cases fz with
    | false =>
      obtain ⟨b, cur, e, hb, h1, h2⟩ := h
      exact ⟨b, cur, e, hb, (hw rfl b hb).trans h1, h2.evolve E⟩
    | true =>
      obtain ⟨b, vs, hb, h1, h2⟩ := h
      exact ⟨b, vs, hb, h1.evolve E, fun j v hv => E.c _ _ _ (h2 j v hv)⟩
  | mapo kd t xs fz =>
    cases fz with
    | false =>
      obtain ⟨hf, b, es, clock, hb, h1, h2⟩ := h
      exact ⟨hf, b, es, clock, hb, (hw rfl b hb).trans h1, h2⟩
    | true => trivial

/-! ### The frame around -/
structure Keeps (K : List Nat) (free : Bool) (w w' : World) : Prop where
  os : w'.os = w.os
  tape : w'.tape = w.tape
  output : w'.output = w.output
  size : w.heap.size ≤ w'.heap.size
  block : free = false → ∀ b, b < w.heap.size → b ∉ K → w'.heap[b]? = w.heap[b]?
  defs : ∀ D : Nat, w.heap[D]? = some (Obj.deferred (some [])) → w'.heap[D]? = some (Obj.deferred (some []))
  loops : ∀ (D : Nat) (r : Loop), w.heap[D]? = some (Obj.loop r) → ∃ r', w'.heap[D]? = some (Obj.loop r')
theorem Keeps.refl (K : List Nat) (free : Bool) (w : World) : Keeps K free w w := ⟨rfl, rfl, rfl, Nat.le_refl _, fun _ _ _ _ => rfl, fun _ h => h, fun _ r h => ⟨r, h⟩⟩

structure Cx (sT : Ty) where
  w0 : World
  C0 : Mem
  K : List Nat
  free : Bool
  r : Option Nat
  nt : Nat
  a0 : Act
  W : Nat → Bool
  yl : Nat
  J : sT.den → World → Mem → Prop
  A : Nat → Option (Loc × AObj) := fun _ => none

/-- What a step that makes new blocks alone does. -/
structure Grow (w : World) (C : Mem) (w' : World) (C' : Mem) : Prop where
  os : w'.os = w.os
  tape : w'.tape = w.tape
  output : w'.output = w.output
  size : w.heap.size ≤ w'.heap.size
  block : ∀ b, b < w.heap.size → w'.heap[b]? = w.heap[b]?
  c : C.le C'
  new : ∀ b o v, C' b o = some v → C b o = some v ∨ w.heap.size ≤ b
  sub : C'.sub w'

structure Cx.Ok {sT : Ty} (cx : Cx sT) (mk : Bool) : Prop where
  wlt : ∀ t, cx.W t = true → t < cx.nt
  triv : mk = true → ∀ g w C, cx.J g w C
  grow : ∀ g w w' C C', cx.J g w C → Grow w C w' C' → cx.J g w' C'
  fr : mk = true → cx.free = false
  nofr : mk = false → cx.free = true

def markOf (D : Nat) : Deferred := { target := .collected D, args := #[] }

structure Core {sT : Ty} (cx : Cx sT) (V : View) (g : sT.den) (w : World) : Prop where
  keeps : Keeps cx.K cx.free cx.w0 w
  cle : cx.C0.le V.C
  csub : V.C.sub w
  cnew : ∀ b o v, V.C b o = some v → cx.C0 b o = some v ∨ b ∈ cx.K ∨ cx.w0.heap.size ≤ b
  used : ∀ id o, V.h id = some o → V.U id
  sep : ∀ id o b, V.h id = some o → o.fz = false → (V.ι id).blk = some b → (∀ o', V.C b o' = none) ∧ (b ∈ cx.K ∨ cx.w0.heap.size ≤ b)
  inj : ∀ id id' o o' b, V.h id = some o → o.fz = false → V.h id' = some o' → o'.fz = false → (V.ι id).blk = some b → (V.ι id').blk = some b → id = id'
  obj : ∀ id o, V.h id = some o → ObjR V w (V.ι id) o
  ghost : cx.J g w V.C
  yl : V.yl = cx.yl
  nofree : cx.free = true → ∀ i, V.h i = none
  anch : ∀ k l o0, cx.A k = some (l, o0) → V.U k ∧ ∀ o, V.h k = some o → V.ι k = l ∧ o0.like o

theorem anch_evolve {A : Nat → Option (Loc × AObj)} {V V' : View} (E : Evolve V V') (h : ∀ k l o0, A k = some (l, o0) → V.U k ∧ ∀ o, V.h k = some o → V.ι k = l ∧ o0.like o) : ∀ k l o0, A k = some (l, o0) → V'.U k ∧ ∀ o, V'.h k = some o → V'.ι k = l ∧ o0.like o := by
  intro k l o0 hk
  obtain ⟨h1, h2⟩ := h k l o0 hk
  refine ⟨E.u k h1, fun o' ho' => ?_⟩
  obtain ⟨o, h3, h4, h5⟩ := E.o k o' h1 ho'
  obtain ⟨h6, h7⟩ := h2 o h3
  exact ⟨h5.trans h6, h7.trans h4⟩

def DefsR (free : Bool) (a0 a : Act) (w0 w : World) : Prop :=
  ∃ Ds : List Nat, (free = true → Ds = []) ∧ a.defers = Ds.map markOf ++ a0.defers ∧ Ds.Nodup ∧ ∀ D ∈ Ds, w0.heap.size ≤ D ∧ w.heap[D]? = some (.deferred (some []))

structure Rel {sT : Ty} (cx : Cx sT) (V : View) (s : Nat → AV) (g : sT.den) (a : Act) (w : World) : Prop extends Core cx V g w where
  slot : ∀ t, RAV V (s t) (a.tmps.getD t undef)
  size : a.tmps.size = cx.nt
  defs : DefsR cx.free cx.a0 a cx.w0 w
  keepS : ∀ t, cx.W t = false → a.tmps.getD t undef = cx.a0.tmps.getD t undef
end Go.Sh

namespace Go.Sh
open Go.RowKit

theorem upd_same {α : Type} (f : Nat → α) (i : Nat) (v : α) : upd f i v i = v := by simp [upd]
theorem upd_other {α : Type} (f : Nat → α) {i j : Nat} (v : α) (h : j ≠ i) : upd f i v j = f j := by simp [upd, h]

theorem lt_of_heap {w : World} {b : Nat} {o : Obj} (h : w.heap[b]? = some o) : b < w.heap.size := (Array.getElem?_eq_some_iff.1 h).1
theorem cell_of_heap {w w' : World} {b : Nat} (h : w'.heap[b]? = w.heap[b]?) (o : Nat) : w'.cell? ⟨b, o, none⟩ = w.cell? ⟨b, o, none⟩ := World.cell?_of_block (w := w) h
theorem cell_cells {w : World} {b o : Nat} {cur : Array Value} {e : TypeId} {fr : Nat × Nat} (h : w.heap[b]? = some (.cells cur e fr)) : w.cell? ⟨b, o, none⟩ = cur[o]? := by simp [World.cell?, h]
theorem cell_lt {w : World} {b o : Nat} {v : Value} (h : w.cell? ⟨b, o, none⟩ = some v) : b < w.heap.size := World.block_lt_of_cell? w _ h

section
variable {sT : Ty} {cx : Cx sT} {V V' : View} {g g' : sT.den} {w w' : World}

theorem Core.step (h : Core cx V g w) (E : Evolve V V')
    (os : w'.os = w.os) (tape : w'.tape = w.tape) (output : w'.output = w.output) (size : w.heap.size ≤ w'.heap.size)
    (blk : ∀ k, k < w.heap.size → (∀ id o, V.h id = some o → o.fz = false → (V.ι id).blk ≠ some k) → w'.heap[k]? = w.heap[k]?)
    (csub : V'.C.sub w') (cnew : ∀ b o v, V'.C b o = some v → V.C b o = some v ∨ b ∈ cx.K ∨ cx.w0.heap.size ≤ b) (used : ∀ id o, V'.h id = some o → V'.U id)
    (sep : ∀ id o b, V'.h id = some o → o.fz = false → (V'.ι id).blk = some b → (∀ o', V'.C b o' = none) ∧ (b ∈ cx.K ∨ cx.w0.heap.size ≤ b))
    (inj : ∀ id id' o o' b, V'.h id = some o → o.fz = false → V'.h id' = some o' → o'.fz = false → (V'.ι id).blk = some b → (V'.ι id').blk = some b → id = id')
    (obj : ∀ id o, V'.h id = some o → (V.h id = some o ∧ V'.ι id = V.ι id ∧ (o.fz = false → ∀ b, (V.ι id).blk = some b → w'.heap[b]? = w.heap[b]?)) ∨ ObjR V' w' (V'.ι id) o)
    (ghost : cx.J g' w' V'.C) (nofree : cx.free = true → ∀ i, V'.h i = none) : Core cx V' g' w' where
  keeps := ⟨os.trans h.keeps.os, tape.trans h.keeps.tape, output.trans h.keeps.output, Nat.le_trans h.keeps.size size, fun hf b hb hK => by
    refine (blk b (Nat.lt_of_lt_of_le hb h.keeps.size) fun id o ho hz hl => ?_).trans (h.keeps.block hf b hb hK)
    rcases (h.sep id o b ho hz hl).2 with h1 | h1
    · exact hK h1
    · omega, fun D hD => (by
    have hD1 := h.keeps.defs D hD
    rw [blk D (lt_of_heap hD1) fun id o ho hz hl => ?_]
    · exact hD1
    · have hob := h.obj id o ho
      cases o with
      | vec e t xs fz =>
        simp only [AObj.fz] at hz; subst hz
        rcases hob with ⟨_, h4, _⟩ | ⟨b', cap, cur', h4, h5, h6, _⟩
        · rw [hl] at h4; cases h4
        · rw [hl] at h4; cases h4; rw [hD1] at h6; cases h6
      | box cells fz =>
        simp only [AObj.fz] at hz; subst hz
        obtain ⟨b', cur', e', h4, h5, _⟩ := hob
        rw [hl] at h4; cases h4; rw [hD1] at h5; cases h5
      | mapo kd t xs fz =>
        simp only [AObj.fz] at hz; subst hz
        obtain ⟨_, b', es', c', h4, h5, _⟩ := hob
        rw [hl] at h4; cases h4; rw [hD1] at h5; cases h5), fun D r hD => by
    obtain ⟨r', hD1⟩ := h.keeps.loops D r hD
    refine ⟨r', ?_⟩
    rw [blk D (lt_of_heap hD1) fun id o ho hz hl => ?_]
    · exact hD1
    · have hob := h.obj id o ho
      cases o with
      | vec e t xs fz =>
        simp only [AObj.fz] at hz; subst hz
        rcases hob with ⟨_, h4, _⟩ | ⟨b', cap, cur', h4, h5, h6, _⟩
        · rw [hl] at h4; cases h4
        · rw [hl] at h4; cases h4; rw [hD1] at h6; cases h6
      | box cells fz =>
        simp only [AObj.fz] at hz; subst hz
        obtain ⟨b', cur', e', h4, h5, _⟩ := hob
        rw [hl] at h4; cases h4; rw [hD1] at h5; cases h5
      | mapo kd t xs fz =>
        simp only [AObj.fz] at hz; subst hz
        obtain ⟨_, b', es', c', h4, h5, _⟩ := hob
        rw [hl] at h4; cases h4; rw [hD1] at h5; cases h5⟩
  cle := h.cle.trans E.c
  csub := csub
  cnew := fun b o v hv => (cnew b o v hv).elim (h.cnew b o v) .inr
  used := used
  sep := sep
  inj := inj
  obj := fun id o ho => by
    rcases obj id o ho with ⟨h1, h2, h3⟩ | h1
    · rw [h2]; exact (h.obj id o h1).evolve E h3
    · exact h1
  ghost := ghost
  yl := E.yl.trans h.yl
  nofree := nofree
  anch := anch_evolve E h.anch

/-- What doesn't change is still there where only blocks of the frame's own were written. -/
theorem Core.sub_step (h : Core cx V g w) (blk : ∀ k, k < w.heap.size → (∀ id o, V.h id = some o → o.fz = false → (V.ι id).blk ≠ some k) → w'.heap[k]? = w.heap[k]?) : V.C.sub w' := by
  intro b o v hv
  have hc := h.csub b o v hv
  rw [cell_of_heap (blk b (cell_lt hc) fun id ob ho hz hl => by have := (h.sep id ob b ho hz hl).1 o; rw [this] at hv; cases hv)]
  exact hc

def View.add (V : View) (new : Nat) (o : AObj) (l : Loc) : View := { V with U := fun id => V.U id ∨ id = new, h := upd V.h new (some o), ι := upd V.ι new l }
theorem View.add_evolve (V : View) {new : Nat} (hn : ¬ V.U new) (o : AObj) (l : Loc) : Evolve V (V.add new o l) where
  c := Mem.le.refl _
  u := fun _ h => .inl h
  o := fun id o' hu ho => by
    have hne : id ≠ new := fun e => hn (e ▸ hu)
    simp only [View.add, upd_other _ _ hne] at ho ⊢
    exact ⟨o', ho, .refl _, trivial⟩
  yl := rfl

/-- A new block, and an object that lies there (or that holds nothing). -/
theorem Core.allocO (h : Core cx V g w) (cxo : cx.Ok true) {new : Nat} (hn : ¬ V.U new) (q : Obj) (o : AObj) (l : Loc) (hl : o.fz = false)
    (hb : ∀ b, l.blk = some b → b = w.heap.size) (ho : ObjR (V.add new o l) (w.alloc q) l o) : Core cx (V.add new o l) g (w.alloc q) := by
  have hfresh : ∀ o', V.C w.heap.size o' = none := fun o' => by
    cases hc : V.C w.heap.size o' with
    | none => rfl
    | some v => have := cell_lt (h.csub _ _ _ hc); omega
  have hold : ∀ k, k < w.heap.size → (w.alloc q).heap[k]? = w.heap[k]? := fun k hk => heap_alloc_old w _ k hk
  have hlt : ∀ id o b, V.h id = some o → o.fz = false → (V.ι id).blk = some b → b < w.heap.size := fun id o b h1 h2 h3 => by
    have := h.obj id o h1
    cases o with
    | vec e t xs fz =>
      simp only [AObj.fz] at h2; subst h2
      rcases this with ⟨_, h4, _⟩ | ⟨b', cap, cur', h4, h5, h6, _⟩
      · rw [h3] at h4; cases h4
      · rw [h3] at h4; cases h4; exact lt_of_heap h6
    | box cells fz =>
      simp only [AObj.fz] at h2; subst h2
      obtain ⟨b', cur', e', h4, h5, _⟩ := this
      rw [h3] at h4; cases h4; exact lt_of_heap h5
    | mapo kd t xs fz =>
      simp only [AObj.fz] at h2; subst h2
      obtain ⟨_, b', es', c', h4, h5, _⟩ := this
      rw [h3] at h4; cases h4; exact lt_of_heap h5
  refine h.step (View.add_evolve V hn o l) rfl rfl rfl (by simp) (fun k hk _ => hold k hk) (fun b o' v hv => ?_) (fun _ _ _ h => .inl h) (fun id ob hob => ?_) (fun id ob b h1 h2 h3 => ?_) (fun id id' ob ob' b h1 h2 h3 h4 h5 h6 => ?_) (fun id ob hob => ?_) (cxo.triv rfl _ _ _) (fun hf => by rw [cxo.fr rfl] at hf; cases hf)
  · have := h.csub b o' v hv
    rw [cell_of_heap (hold b (cell_lt this))]; exact this
  · by_cases hid : id = new
    · exact .inr hid
    · exact .inl (h.used id ob (by simpa only [View.add, upd_other _ _ hid] using hob))
  · by_cases hid : id = new
    · subst hid
      simp only [View.add, upd_same] at h1 h3
      obtain rfl := hb b h3
      exact ⟨hfresh, .inr h.keeps.size⟩
    · simp only [View.add, upd_other _ _ hid] at h1 h3
      exact h.sep id ob b h1 h2 h3
  · by_cases hid : id = new <;> by_cases hid' : id' = new
    · rw [hid, hid']
    · subst hid
      simp only [View.add, upd_same, upd_other _ _ hid'] at h1 h3 h5 h6
      have h7 := hb b h5
      have h8 := hlt id' ob' b h3 h4 h6
      omega
    · subst hid'
      simp only [View.add, upd_same, upd_other _ _ hid] at h1 h3 h5 h6
      have h7 := hb b h6
      have h8 := hlt id ob b h1 h2 h5
      omega
    · simp only [View.add, upd_other _ _ hid, upd_other _ _ hid'] at h1 h3 h5 h6
      exact h.inj id id' ob ob' b h1 h2 h3 h4 h5 h6
  · by_cases hid : id = new
    · subst hid
      refine .inr ?_
      have e1 : (V.add id o l).ι id = l := by simp [View.add, upd_same]
      rw [e1]
      simp only [View.add, upd_same] at hob
      cases hob
      exact ho
    · refine .inl ⟨by simpa only [View.add, upd_other _ _ hid] using hob, by simp only [View.add, upd_other _ _ hid], fun hz b hbl => hold b ?_⟩
      exact hlt id ob b (by simpa only [View.add, upd_other _ _ hid] using hob) hz hbl

theorem Core.alloc (h : Core cx V g w) (cxo : cx.Ok true) {new : Nat} (hn : ¬ V.U new) (cur : Array Value) (e : TypeId) (o : AObj) (l : Loc) (hl : o.fz = false)
    (hb : ∀ b, l.blk = some b → b = w.heap.size) (ho : ObjR (V.add new o l) (w.alloc (.cells cur e)) l o) : Core cx (V.add new o l) g (w.alloc (.cells cur e)) := h.allocO cxo hn _ o l hl hb ho

theorem Core.blk_lt (h : Core cx V g w) {id b : Nat} {o : AObj} (h1 : V.h id = some o) (h2 : o.fz = false) (h3 : (V.ι id).blk = some b) : b < w.heap.size := by
  have := h.obj id o h1
  cases o with
  | vec e t xs fz =>
    simp only [AObj.fz] at h2; subst h2
    rcases this with ⟨_, h4, _⟩ | ⟨b', cap, cur', h4, h5, h6, _⟩
    · rw [h3] at h4; cases h4
    · rw [h3] at h4; cases h4; exact lt_of_heap h6
  | box cells fz =>
    simp only [AObj.fz] at h2; subst h2
    obtain ⟨b', cur', e', h4, h5, _⟩ := this
    rw [h3] at h4; cases h4; exact lt_of_heap h5
  | mapo kd t xs fz =>
    simp only [AObj.fz] at h2; subst h2
    obtain ⟨_, b', es', c', h4, h5, _⟩ := this
    rw [h3] at h4; cases h4; exact lt_of_heap h5

/-- An object that lives is written to. -/
theorem Core.writeW (h : Core cx V g w) (cxo : cx.Ok true) {id b : Nat} {o o' : AObj} (ho : V.h id = some o) (hz : o.fz = false) (hlike : o.like o') (hb : (V.ι id).blk = some b) {w' : World} (hos : w'.os = w.os) (htape : w'.tape = w.tape) (hout : w'.output = w.output) (hsize : w.heap.size ≤ w'.heap.size) (hold : ∀ k, k ≠ b → w'.heap[k]? = w.heap[k]?)
    (hobj : ObjR { V with h := upd V.h id (some o') } w' (V.ι id) o') : Core cx { V with h := upd V.h id (some o') } g w' := by
  have hblk : ∀ k, k < w.heap.size → (∀ id o, V.h id = some o → o.fz = false → (V.ι id).blk ≠ some k) → w'.heap[k]? = w.heap[k]? := fun k _ hk => hold k fun e => hk id o ho hz (e ▸ hb)
  refine h.step ⟨Mem.le.refl _, fun _ h => h, fun i o2 hu ho2 => ?_, rfl⟩ hos htape hout hsize hblk (h.sub_step hblk) (fun _ _ _ h => .inl h) (fun i o2 h2 => ?_) (fun i o2 b2 h1 h2 h3 => ?_) (fun i i' o2 o2' b2 h1 h2 h3 h4 h5 h6 => ?_) (fun i o2 h2 => ?_) (cxo.triv rfl _ _ _) (fun hf => by rw [cxo.fr rfl] at hf; cases hf)
  · by_cases hi : i = id
    · subst hi; simp only [upd_same] at ho2; cases ho2; exact ⟨o, ho, hlike, rfl⟩
    · simp only [upd_other _ _ hi] at ho2; exact ⟨o2, ho2, .refl _, rfl⟩
  · by_cases hi : i = id
    · subst hi; exact h.used i o ho
    · simp only [upd_other _ _ hi] at h2; exact h.used i o2 h2
  · by_cases hi : i = id
    · subst hi; exact h.sep i o b2 ho hz h3
    · simp only [upd_other _ _ hi] at h1; exact h.sep i o2 b2 h1 h2 h3
  · by_cases hi : i = id <;> by_cases hi' : i' = id
    · rw [hi, hi']
    · subst hi; simp only [upd_other _ _ hi'] at h3; exact h.inj i i' o o2' b2 ho hz h3 h4 h5 h6
    · subst hi'; simp only [upd_other _ _ hi] at h1; exact h.inj i i' o2 o b2 h1 h2 ho hz h5 h6
    · simp only [upd_other _ _ hi] at h1; simp only [upd_other _ _ hi'] at h3; exact h.inj i i' o2 o2' b2 h1 h2 h3 h4 h5 h6
  · by_cases hi : i = id
    · subst hi; simp only [upd_same] at h2; cases h2; exact .inr hobj
    · simp only [upd_other _ _ hi] at h2
      refine .inl ⟨h2, rfl, fun hz2 b2 hb2 => hold b2 fun e => hi ?_⟩
      subst e
      exact h.inj i id o2 o _ h2 hz2 ho hz hb2 hb
theorem Core.write (h : Core cx V g w) (cxo : cx.Ok true) {id b : Nat} {o o' : AObj} (ho : V.h id = some o) (hz : o.fz = false) (hz' : o'.fz = false) (hlike : o.like o') (hb : (V.ι id).blk = some b) (cs : Array Value)
    (hobj : ObjR { V with h := upd V.h id (some o') } (w.setRow b cs) (V.ι id) o') : Core cx { V with h := upd V.h id (some o') } g (w.setRow b cs) :=
  h.writeW cxo ho hz hlike hb rfl rfl rfl (by simp [World.setRow]) (fun k hk => setRow_other w b k cs hk) hobj

def Mem.add (C : Mem) (w : World) (b : Nat) : Mem := fun b' o => if b' = b then w.cell? ⟨b, o, none⟩ else C b' o
/-- A slice of the frame's own is not written to any more. -/
theorem Core.freezeVec (h : Core cx V g w) (cxo : cx.Ok true) {id : Nat} {e : TypeId} {t : Ty} {xs : List t.den} (ho : V.h id = some (.vec e t xs false)) :
    ∃ C', V.C.le C' ∧ Core cx { V with C := C', h := upd V.h id (some (.vec e t xs true)) } g w ∧ Evolve V { V with C := C', h := upd V.h id (some (.vec e t xs true)) } := by
  have hob := h.obj id _ ho
  -- the block
  have key : ∃ C', V.C.le C' ∧ C'.sub w ∧ (∀ b o v, C' b o = some v → V.C b o = some v ∨ b ∈ cx.K ∨ cx.w0.heap.size ≤ b) ∧ FrzV C' t (V.ι id) xs ∧ ∀ b', (V.ι id).blk ≠ some b' → ∀ o', C' b' o' = V.C b' o' := by
    rcases hob with ⟨h0, hb, a, hv⟩ | ⟨b, cap, cur, hb, hv, hh, hn, hm, hs, hr⟩
    · exact ⟨V.C, Mem.le.refl _, h.csub, fun _ _ _ h => .inl h, .inl ⟨List.eq_nil_of_length_eq_zero h0, hb, a, hv⟩, fun _ _ _ => rfl⟩
    · have hle : V.C.le (V.C.add w b) := fun b' o v hvv => by
        unfold Mem.add
        by_cases hbb : b' = b
        · subst hbb; have := (h.sep id _ b' ho rfl hb).1 o; rw [this] at hvv; cases hvv
        · rw [if_neg hbb]; exact hvv
      refine ⟨V.C.add w b, hle, fun b' o v hvv => ?_, fun b' o v hvv => ?_, .inr ⟨b, cap, _, hb, hv, hn, Rows.mono hle hr, fun j v hj => ?_⟩, fun b' hb' o' => ?_⟩
      · unfold Mem.add at hvv
        by_cases hbb : b' = b
        · subst hbb; simpa using hvv
        · rw [if_neg hbb] at hvv; exact h.csub _ _ _ hvv
      · unfold Mem.add at hvv
        by_cases hbb : b' = b
        · subst hbb; exact .inr (h.sep id _ b' ho rfl hb).2
        · rw [if_neg hbb] at hvv; exact .inl hvv
      · unfold Mem.add
        rw [if_pos rfl, cell_cells hh]
        obtain ⟨hj1, hj2⟩ := List.getElem?_eq_some_iff.1 hj
        rw [List.length_take] at hj1
        rw [List.getElem_take] at hj2
        rw [← Array.getElem?_toList, List.getElem?_eq_getElem (by omega), hj2]
      · unfold Mem.add
        rw [if_neg (fun e2 : b' = b => hb' (by rw [hb, e2]))]
  obtain ⟨C', hle, hsub, hcn, hfr, hother⟩ := key
  have hev : Evolve V { V with C := C', h := upd V.h id (some (.vec e t xs true)) } := ⟨hle, fun _ h => h, fun i o2 hu ho2 => by
    by_cases hi : i = id
    · subst hi; simp only [upd_same] at ho2; cases ho2; exact ⟨_, ho, ⟨rfl, rfl⟩, rfl⟩
    · simp only [upd_other _ _ hi] at ho2; exact ⟨o2, ho2, .refl _, rfl⟩, rfl⟩
  refine ⟨C', hle, ?_, hev⟩
  refine h.step hev rfl rfl rfl (Nat.le_refl _) (fun _ _ _ => rfl) hsub hcn (fun i o2 h2 => ?_) (fun i o2 b2 h1 h2 h3 => ?_) (fun i i' o2 o2' b2 h1 h2 h3 h4 h5 h6 => ?_) (fun i o2 h2 => ?_) (cxo.triv rfl _ _ _) (fun hf => by rw [cxo.fr rfl] at hf; cases hf)
  · by_cases hi : i = id
    · subst hi; exact h.used i _ ho
    · simp only [upd_other _ _ hi] at h2; exact h.used i o2 h2
  · by_cases hi : i = id
    · subst hi; simp only [upd_same] at h1; cases h1; cases h2
    · simp only [upd_other _ _ hi] at h1
      have := h.sep i o2 b2 h1 h2 h3
      refine ⟨fun o' => ?_, this.2⟩
      show C' b2 o' = none
      rw [hother b2 (fun e2 => hi (h.inj i id o2 _ b2 h1 h2 ho rfl h3 e2))]; exact this.1 o'
  · by_cases hi : i = id
    · subst hi; simp only [upd_same] at h1; cases h1; cases h2
    · by_cases hi' : i' = id
      · subst hi'; simp only [upd_same] at h3; cases h3; cases h4
      · simp only [upd_other _ _ hi] at h1; simp only [upd_other _ _ hi'] at h3; exact h.inj i i' o2 o2' b2 h1 h2 h3 h4 h5 h6
  · by_cases hi : i = id
    · subst hi; simp only [upd_same] at h2; cases h2; exact .inr hfr
    · simp only [upd_other _ _ hi] at h2
      exact .inl ⟨h2, rfl, fun _ _ _ => rfl⟩

/-- A variable of the frame's own is not written to any more. -/
theorem Core.freezeBox (h : Core cx V g w) (cxo : cx.Ok true) {id : Nat} {cells : List A0} {fz : Bool} (ho : V.h id = some (.box cells fz)) :
    ∃ C', V.C.le C' ∧ Core cx { V with C := C', h := upd V.h id (some (.box cells true)) } g w ∧ Evolve V { V with C := C', h := upd V.h id (some (.box cells true)) } := by
  have hob := h.obj id _ ho
  cases fz with
  | true =>
    refine ⟨V.C, Mem.le.refl _, ?_⟩
    have : upd V.h id (some (.box cells true)) = V.h := by funext i; by_cases hi : i = id <;> simp [upd, hi, ho]
    rw [this]
    exact ⟨h, Evolve.refl V⟩
  | false =>
  obtain ⟨b, cur, e, hb, hh, hcs⟩ := hob
  have hle : V.C.le (V.C.add w b) := fun b' o v hvv => by
    unfold Mem.add
    by_cases hbb : b' = b
    · subst hbb; have := (h.sep id _ b' ho rfl hb).1 o; rw [this] at hvv; cases hvv
    · rw [if_neg hbb]; exact hvv
  have hev : Evolve V { V with C := V.C.add w b, h := upd V.h id (some (.box cells true)) } := ⟨hle, fun _ h => h, fun i o2 hu ho2 => by
    by_cases hi : i = id
    · subst hi; simp only [upd_same] at ho2; cases ho2; exact ⟨_, ho, trivial, rfl⟩
    · simp only [upd_other _ _ hi] at ho2; exact ⟨o2, ho2, .refl _, rfl⟩, rfl⟩
  refine ⟨V.C.add w b, hle, ?_, hev⟩
  refine h.step hev rfl rfl rfl (Nat.le_refl _) (fun _ _ _ => rfl) (fun b' o v hvv => ?_) (fun b' o v hvv => by
    simp only [Mem.add] at hvv
    by_cases hbb : b' = b
    · subst hbb; exact .inr (h.sep id _ b' ho rfl hb).2
    · rw [if_neg hbb] at hvv; exact .inl hvv) (fun i o2 h2 => ?_) (fun i o2 b2 h1 h2 h3 => ?_) (fun i i' o2 o2' b2 h1 h2 h3 h4 h5 h6 => ?_) (fun i o2 h2 => ?_) (cxo.triv rfl _ _ _) (fun hf => by rw [cxo.fr rfl] at hf; cases hf)
  · simp only [Mem.add] at hvv
    by_cases hbb : b' = b
    · subst hbb; simpa using hvv
    · rw [if_neg hbb] at hvv; exact h.csub _ _ _ hvv
  · by_cases hi : i = id
    · subst hi; exact h.used i _ ho
    · simp only [upd_other _ _ hi] at h2; exact h.used i o2 h2
  · by_cases hi : i = id
    · subst hi; simp only [upd_same] at h1; cases h1; cases h2
    · simp only [upd_other _ _ hi] at h1
      have := h.sep i o2 b2 h1 h2 h3
      refine ⟨fun o' => ?_, this.2⟩
      show V.C.add w b b2 o' = none
      unfold Mem.add
      rw [if_neg (fun e2 : b2 = b => hi (h.inj i id o2 _ b2 h1 h2 ho rfl h3 (by rw [hb, e2])))]; exact this.1 o'
  · by_cases hi : i = id
    · subst hi; simp only [upd_same] at h1; cases h1; cases h2
    · by_cases hi' : i' = id
      · subst hi'; simp only [upd_same] at h3; cases h3; cases h4
      · simp only [upd_other _ _ hi] at h1; simp only [upd_other _ _ hi'] at h3; exact h.inj i i' o2 o2' b2 h1 h2 h3 h4 h5 h6
  · by_cases hi : i = id
    · subst hi; simp only [upd_same] at h2; cases h2
      refine .inr ⟨b, cur.toList, hb, hcs.evolve hev, fun j v hj => ?_⟩
      show V.C.add w b b j = some v
      unfold Mem.add
      rw [if_pos rfl, cell_cells hh, ← Array.getElem?_toList]; exact hj
    · simp only [upd_other _ _ hi] at h2
      exact .inl ⟨h2, rfl, fun _ _ _ => rfl⟩

/-- An object is forgotten. -/
theorem Core.kill (h : Core cx V g w) (id : Nat) : Core cx { V with h := upd V.h id none } g w ∧ Evolve V { V with h := upd V.h id none } := by
  have hof : ∀ {i : Nat} {o : AObj}, upd V.h id none i = some o → V.h i = some o := fun {i o} hi => by
    by_cases e : i = id
    · subst e; simp [upd] at hi
    · simpa [upd, e] using hi
  have hev : Evolve V { V with h := upd V.h id none } := ⟨Mem.le.refl _, fun _ h => h, fun i o2 _ ho2 => ⟨o2, hof ho2, .refl _, rfl⟩, rfl⟩
  exact ⟨h.step hev rfl rfl rfl (Nat.le_refl _) (fun _ _ _ => rfl) h.csub (fun _ _ _ h => .inl h) (fun i o2 h2 => h.used i o2 (hof h2)) (fun i o2 b2 h1 h2 h3 => h.sep i o2 b2 (hof h1) h2 h3)
    (fun i i' o2 o2' b2 h1 h2 h3 h4 h5 h6 => h.inj i i' o2 o2' b2 (hof h1) h2 (hof h3) h4 h5 h6) (fun i o2 h2 => .inl ⟨hof h2, rfl, fun _ _ _ => rfl⟩) h.ghost (fun hf i => by
      by_cases hi : i = id
      · subst hi; exact upd_same _ _ _
      · exact (upd_other _ _ hi).trans (h.nofree hf i)), hev⟩

/-- A map of the frame's own is not written to any more. -/
theorem Core.freezeMap (h : Core cx V g w) {id : Nat} {kd : IntKind} {t : Ty} {xs : List ((Int × Int) × t.den)} {fz : Bool} (ho : V.h id = some (.mapo kd t xs fz)) : Core cx { V with h := upd V.h id (some (.mapo kd t xs true)) } g w ∧ Evolve V { V with h := upd V.h id (some (.mapo kd t xs true)) } := by
  have hof : ∀ {i : Nat} {o : AObj}, upd V.h id (some (.mapo kd t xs true)) i = some o → (i = id ∧ o = .mapo kd t xs true) ∨ (i ≠ id ∧ V.h i = some o) := fun {i o} hi => by
    by_cases e : i = id
    · subst e; rw [upd_same] at hi; cases hi; exact .inl ⟨rfl, rfl⟩
    · rw [upd_other _ _ e] at hi; exact .inr ⟨e, hi⟩
  have hev : Evolve V { V with h := upd V.h id (some (.mapo kd t xs true)) } := ⟨Mem.le.refl _, fun _ h => h, fun i o2 _ ho2 => by
    rcases hof ho2 with ⟨rfl, rfl⟩ | ⟨_, h2⟩
    · exact ⟨_, ho, trivial, rfl⟩
    · exact ⟨o2, h2, .refl _, rfl⟩, rfl⟩
  refine ⟨h.step hev rfl rfl rfl (Nat.le_refl _) (fun _ _ _ => rfl) h.csub (fun _ _ _ h => .inl h) (fun i o2 h2 => ?_) (fun i o2 b2 h1 h2 h3 => ?_)
    (fun i i' o2 o2' b2 h1 h2 h3 h4 h5 h6 => ?_) (fun i o2 h2 => ?_) h.ghost (fun hf i => ?_), hev⟩
  · rcases hof h2 with ⟨rfl, _⟩ | ⟨_, h2⟩
    · exact h.used _ _ ho
    · exact h.used i o2 h2
  · rcases hof h1 with ⟨_, rfl⟩ | ⟨_, h1⟩
    · cases h2
    · exact h.sep i o2 b2 h1 h2 h3
  · rcases hof h1 with ⟨_, rfl⟩ | ⟨_, h1⟩
    · cases h2
    · rcases hof h3 with ⟨_, rfl⟩ | ⟨_, h3⟩
      · cases h4
      · exact h.inj i i' o2 o2' b2 h1 h2 h3 h4 h5 h6
  · rcases hof h2 with ⟨_, rfl⟩ | ⟨_, h2⟩
    · exact .inr trivial
    · exact .inl ⟨h2, rfl, fun _ _ _ => rfl⟩
  · have := h.nofree hf id
    rw [ho] at this; cases this
end
end Go.Sh

namespace Go.Sh
open Go.RowKit

def WF (r : Option Nat) : Fence := { Fence.wide with round := r }
theorem WF.room (r : Option Nat) (n : Nat) : (WF r).room n := fun _ h => by simp [WF, Fence.wide] at h

section
variable {sT : Ty} {cx : Cx sT} {V : View} {s : Nat → AV} {g : sT.den} {a : Act} {w : World} {P : Program}

def Post (cx : Cx sT) (V : View) (w : World) (new : Nat) (r : Out sT.den) (v : Value) (w' : World) : Prop :=
  ∃ V', Core cx V' r.g w' ∧ Evolve V V' ∧ V'.h = putAll V.h r.wr ∧ RAV V' r.v v ∧ (∀ id, V'.U id → V.U id ∨ (new ≤ id ∧ id < new + 4)) ∧
    (∀ D : Nat, w.heap[D]? = some (Obj.deferred (some [])) → w'.heap[D]? = some (Obj.deferred (some [])))
def OpOk (cx : Cx sT) (P : Program) (V : View) (a : Act) (w : World) (new : Nat) (o : Oper) (r : Out sT.den) : Prop :=
  ∀ n K Q, (∀ v w', Post cx V w new r v w' → K (a.put o.dst v) w') → o.wpIn (WF cx.r) n P a w K Q

theorem OpOk.ofRun {new : Nat} {o : Oper} {r : Out sT.den} {v : Value} {w' : World} (hd : ∀ c, o.op ≠ .defer c) (h : (execOp a.eval o).run P w = .ok (.value v) w') (hp : Post cx V w new r v w') : OpOk cx P V a w new o r := by
  intro n K Q hK
  refine ⟨fun _ _ => trivial, ?_⟩
  rw [Oper.semAt_eq _ _ _ hd, h]
  exact hK v w' hp
theorem OpOk.ofSkip {new : Nat} {o : Oper} {r : Out sT.den} {w' : World} (hd : ∀ c, o.op ≠ .defer c) (h : (execOp a.eval o).run P w = .ok .skip w') (hp : Post cx V w new r undef w') : OpOk cx P V a w new o r := by
  intro n K Q hK
  refine ⟨fun _ _ => trivial, ?_⟩
  rw [Oper.semAt_eq _ _ _ hd, h]
  exact hK undef w' hp
/-- Nothing but a value comes of it. -/
theorem Post.pure (hc : Core cx V g w) {new : Nat} {r : Out sT.den} {v : Value} (hw : r.wr = []) (hg : r.g = g) (hv : RAV V r.v v) : Post cx V w new r v w :=
  ⟨V, hg ▸ hc, .refl V, by rw [hw]; rfl, hv, fun _ h => .inl h, fun _ h => h⟩

theorem RAV.one' {V : View} {a : A0} {v : Value} (h : RAV V (.v ⟨false, [a]⟩) v) : RA0 V a v := RAV.one.1 h
theorem RAV.int_val {V : View} {k : IntKind} {n : Int} {v : Value} (h : RAV V (.v ⟨false, [.dat (.int k) n]⟩) v) : v = .int k n := by
  have := RAV.one' h; injection (show [v] = [_] from this)
theorem RAV.bool_val {V : View} {b : Bool} {v : Value} (h : RAV V (.v ⟨false, [.dat .bool b]⟩) v) : v = .bool b := by
  have := RAV.one' h; injection (show [v] = [_] from this)
theorem RAV.mk_int {V : View} (k : IntKind) (n : Int) : RAV V (.int k n) (.int k n) := RAV.one.2 rfl
theorem RAV.mk_bool {V : View} (b : Bool) : RAV V (.bool b) (.bool b) := RAV.one.2 rfl
theorem asInt_ok {V : View} {x : AV} {k : IntKind} {n : Int} {v : Value} (h : asInt x = some (k, n)) (hv : RAV V x v) : v = .int k n := by
  unfold asInt at h
  split at h
  · cases h; exact RAV.int_val hv
  · cases h
theorem asBool_ok {V : View} {x : AV} {b : Bool} {v : Value} (h : asBool x = some b) (hv : RAV V x v) : v = .bool b := by
  unfold asBool at h
  split at h
  · cases h; exact RAV.bool_val hv
  · cases h
theorem asA1_ok {x : AV} {y : A1} (h : asA1 x = some y) : x = .v y := by
  unfold asA1 at h
  split at h
  · cases h; rfl
  · cases h

theorem RA0.ofConst (V : View) (v : Value) : RA0 V (A0.ofConst v) v := by
  unfold A0.ofConst
  split
  · exact rfl
  · exact rfl
  · exact ⟨none, rfl⟩
  · exact trivial
theorem RCs.ofConst (V : View) : ∀ (cs : List Value), RCs V (cs.map A0.ofConst) cs
  | [] => .nil
  | c :: cs => .cons (RA0.ofConst V c) (RCs.ofConst V cs)
theorem RA1.ofConst (V : View) (v : Value) : RA1 V (A1.ofConst v) v := by
  unfold A1.ofConst
  split
  · rename_i cs
    exact (show ∃ vs : List Value, _ ∧ _ from ⟨cs.toList, by simp, RCs.ofConst V _⟩)
  · exact (show All2 (RA0 V) [A0.ofConst v] [v] from .cons (RA0.ofConst V v) .nil)

/-- Package-level variables that don't change. -/
def GlobOk (globs : List (Nat × D)) (C : Mem) : Prop := ∀ i d, globs.lookup i = some d → RepD C d (.pointer (some ⟨i, 0, none⟩))
theorem GlobOk.mono {globs : List (Nat × D)} {C C' : Mem} (h : GlobOk globs C) (hc : C.le C') : GlobOk globs C' := fun i d hd => Rep.mono hc (h i d hd)

theorem ev_ok {E : Env sT} {σ : St sT.den} (hg : GlobOk E.globs V.C) (hs : ∀ t, RAV V (σ.s t) (a.tmps.getD t undef)) (x : Operand) : RAV V (ev E σ x) (a.eval x) := by
  cases x with
  | tmp t => exact hs t
  | const v => exact RA1.ofConst V v
  | global i =>
    simp only [ev]
    split
    · rename_i d hd; exact RAV.one.2 (hg i d hd)
    · exact RAV.top _ _
  | func f => exact RAV.one.2 ⟨[], [], rfl, rfl, rfl⟩

/-- What an operation finds. -/
structure At (cx : Cx sT) (E : Env sT) (V : View) (σ : St sT.den) (a : Act) (w : World) : Prop where
  core : Core cx V σ.g w
  h : ∀ id o, σ.h id = some o → V.h id = some o
  val : ∀ x, RAV V (ev E σ x) (a.eval x)

section ops
variable {E : Env sT} {σ : St sT.den} {new : Nat} {o : Oper} {r : Out sT.den}

theorem out_ok {v : AV} {rd : List Nat} (h : (out σ v rd).eval = some r) : r = ⟨v, [], rd, σ.g, false⟩ := by
  simp only [out, Tree.eval] at h; cases h; rfl
theorem outW_ok {v : AV} {wr : Wr} {rd : List Nat} (h : (outW E σ v wr rd).eval = some r) : E.mayMake = true ∧ r = ⟨v, wr, rd, σ.g, false⟩ := by
  simp only [outW] at h
  split at h
  · rename_i hm; simp only [Tree.eval] at h; cases h; exact ⟨hm, rfl⟩
  · simp [Tree.eval] at h

theorem op_move (A : At cx E V σ a w) {x : Operand} (ho : o.op = .move x ∨ o.op = .assign x) (h : (out σ (ev E σ x)).eval = some r) : OpOk cx P V a w new o r := by
  have hr := out_ok h
  refine OpOk.ofRun (v := a.eval x) (w' := w) (by rcases ho with h | h <;> simp [h]) (by rcases ho with h | h <;> simp [execOp, h]) (Post.pure (g := σ.g) A.core (by rw [hr]) (by rw [hr]) (by rw [hr]; exact A.val x))

theorem op_pick (A : At cx E V σ a w) {c x y : Operand} (ho : o.op = .pick c x y)
    (h : (match asBool (ev E σ c) with | some t => Tree.ite t (out σ (ev E σ x)) (out σ (ev E σ y)) | none => Tree.fail).eval = some r) : OpOk cx P V a w new o r := by
  split at h
  · rename_i t ht
    have hc := asBool_ok ht (A.val c)
    rcases Tree.eval_ite h with ⟨rfl, h⟩ | ⟨rfl, h⟩
    · have hr := out_ok h
      exact OpOk.ofRun (v := a.eval x) (w' := w) (by simp [ho]) (by simp [execOp, ho, hc, Go.asBool]) (Post.pure (g := σ.g) A.core (by rw [hr]) (by rw [hr]) (by rw [hr]; exact A.val x))
    · have hr := out_ok h
      exact OpOk.ofRun (v := a.eval y) (w' := w) (by simp [ho]) (by simp [execOp, ho, hc, Go.asBool]) (Post.pure (g := σ.g) A.core (by rw [hr]) (by rw [hr]) (by rw [hr]; exact A.val y))
  · simp [Tree.eval] at h

theorem run_binInt {op : BinOp} {k k' : IntKind} {x y : Int} {av : AV} (hk : isShift op = true ∨ k = k') (h : (binInt op k x y).eval = some av) (t : TypeId) (xo yo : Operand) (w : World) :
    ∃ v, ((do eqGuard op t xo yo (.int k x) (.int k' y); binOp op t (.int k x) (.int k' y)) : Sem Value).run P w = .ok v w ∧ RAV V av v := by
  have g0 : (eqGuard op t xo yo (.int k x) (.int k' y)).run P w = .ok () w := by
    unfold eqGuard; split <;> rfl
  simp only [Sem.run_bind, g0, Result.andThen_ok]
  cases op with
  | add => rcases hk with hk | rfl; cases hk; simp only [binInt, Tree.eval] at h; cases h; exact ⟨_, by simp [binOp, Op.intArith], RAV.mk_int _ _⟩
  | sub => rcases hk with hk | rfl; cases hk; simp only [binInt, Tree.eval] at h; cases h; exact ⟨_, by simp [binOp, Op.intArith], RAV.mk_int _ _⟩
  | mul => rcases hk with hk | rfl; cases hk; simp only [binInt, Tree.eval] at h; cases h; exact ⟨_, by simp [binOp, Op.intArith], RAV.mk_int _ _⟩
  | quo =>
    rcases hk with hk | rfl; cases hk
    simp only [binInt] at h
    obtain ⟨h0, h⟩ := Tree.eval_need h
    simp only [Tree.eval] at h; cases h
    exact ⟨_, by simp [binOp, Op.intDiv, show ¬ y = 0 by simpa using h0], RAV.mk_int _ _⟩
  | rem =>
    rcases hk with hk | rfl; cases hk
    simp only [binInt] at h
    obtain ⟨h0, h⟩ := Tree.eval_need h
    simp only [Tree.eval] at h; cases h
    exact ⟨_, by simp [binOp, Op.intDiv, show ¬ y = 0 by simpa using h0], RAV.mk_int _ _⟩
  | and => rcases hk with hk | rfl; cases hk; simp only [binInt, intBits, Tree.eval] at h; cases h; exact ⟨_, by simp [binOp, Op.intBits], RAV.mk_int _ _⟩
  | or => rcases hk with hk | rfl; cases hk; simp only [binInt, intBits, Tree.eval] at h; cases h; exact ⟨_, by simp [binOp, Op.intBits], RAV.mk_int _ _⟩
  | xor => rcases hk with hk | rfl; cases hk; simp only [binInt, intBits, Tree.eval] at h; cases h; exact ⟨_, by simp [binOp, Op.intBits], RAV.mk_int _ _⟩
  | andNot => rcases hk with hk | rfl; cases hk; simp only [binInt, intBits, Tree.eval] at h; cases h; exact ⟨_, by simp [binOp, Op.intBits], RAV.mk_int _ _⟩
  | shl =>
    simp only [binInt] at h
    obtain ⟨h0, h⟩ := Tree.eval_need h
    simp only [Tree.eval] at h; cases h
    exact ⟨_, by simp [binOp, Op.shift, show ¬ y < 0 by simpa using h0], RAV.mk_int _ _⟩
  | shr =>
    simp only [binInt] at h
    obtain ⟨h0, h⟩ := Tree.eval_need h
    simp only [Tree.eval] at h; cases h
    exact ⟨_, by simp [binOp, Op.shift, show ¬ y < 0 by simpa using h0], RAV.mk_int _ _⟩
  | eql => rcases hk with hk | rfl; cases hk; simp only [binInt, Tree.eval] at h; cases h; exact ⟨_, by simp [binOp, Op.intCmp], RAV.mk_bool _⟩
  | neq => rcases hk with hk | rfl; cases hk; simp only [binInt, Tree.eval] at h; cases h; exact ⟨_, by simp [binOp, Op.intCmp], RAV.mk_bool _⟩
  | lss => rcases hk with hk | rfl; cases hk; simp only [binInt, Tree.eval] at h; cases h; exact ⟨_, by simp [binOp, Op.intCmp], RAV.mk_bool _⟩
  | leq => rcases hk with hk | rfl; cases hk; simp only [binInt, Tree.eval] at h; cases h; exact ⟨_, by simp [binOp, Op.intCmp], RAV.mk_bool _⟩
  | gtr => rcases hk with hk | rfl; cases hk; simp only [binInt, Tree.eval] at h; cases h; exact ⟨_, by simp [binOp, Op.intCmp], RAV.mk_bool _⟩
  | geq => rcases hk with hk | rfl; cases hk; simp only [binInt, Tree.eval] at h; cases h; exact ⟨_, by simp [binOp, Op.intCmp], RAV.mk_bool _⟩

theorem isNilC_ok {yo : Operand} (h : isNilC yo = true) (a : Act) : a.eval yo = .slice none 0 0 := by
  unfold isNilC at h
  split at h
  · rfl
  · cases h
theorem run_isNil {t e : TypeId} (ht : P.underlying t = some (.slice e)) (b : Addr) (n c : Nat) (xo yo : Operand) (w : World) :
    ((do eqGuard .eql t xo yo (.slice (some b) n c) (.slice none 0 0); binOp .eql t (.slice (some b) n c) (.slice none 0 0)) : Sem Value).run P w = .ok (.bool false) w ∧
    ((do eqGuard .neq t xo yo (.slice (some b) n c) (.slice none 0 0); binOp .neq t (.slice (some b) n c) (.slice none 0 0)) : Sem Value).run P w = .ok (.bool true) w := by
  have he : (Op.equal t (.slice (some b) n c) (.slice none 0 0)).run P w = .ok false w := by
    rw [show Op.equal t (.slice (some b) n c) (.slice none 0 0) = Op.equalIn (9999 + 1) t (.slice (some b) n c) (.slice none 0 0) from rfl, Op.equalIn]
    simp [run_underlying ht]
  constructor
  · simp [eqGuard, binOp, he]
  · simp [eqGuard, binOp, he]

theorem run_eqBool {t : TypeId} (ht : P.underlying t = some .bool) (p q : Bool) (x y : Operand) (w : World) :
    ((do eqGuard .eql t x y (.bool p) (.bool q); binOp .eql t (.bool p) (.bool q)) : Sem Value).run P w = .ok (.bool (p == q)) w ∧
    ((do eqGuard .neq t x y (.bool p) (.bool q); binOp .neq t (.bool p) (.bool q)) : Sem Value).run P w = .ok (.bool (!(p == q))) w := by
  have he : (Op.equal t (.bool p) (.bool q)).run P w = .ok (p == q) w := by
    rw [show Op.equal t (.bool p) (.bool q) = Op.equalIn (9999 + 1) t (.bool p) (.bool q) from rfl, Op.equalIn]
    simp [run_underlying ht]
  constructor
  · simp [eqGuard, binOp, he]
  · simp [eqGuard, binOp, he]

theorem op_bin (A : At cx E V σ a w) {op : BinOp} {t t' : TypeId} {x y : Operand} (ho : o.op = .binOp op t x y t')
    (h : ((doBin E op t y (ev E σ x) (ev E σ y)).bind fun r => out σ r).eval = some r) (hP : E.P = P) : OpOk cx P V a w new o r := by
  obtain ⟨av, h1, h2⟩ := Tree.eval_bind_some h
  have hr := out_ok h2
  have hx := A.val x
  have hy := A.val y
  suffices hs : ∃ v, ((do eqGuard op t x y (a.eval x) (a.eval y); binOp op t (a.eval x) (a.eval y)) : Sem Value).run P w = .ok v w ∧ RAV V av v by
    obtain ⟨v, hv, hav⟩ := hs
    refine OpOk.ofRun (v := v) (w' := w) (by simp [ho]) ?_ (Post.pure (g := σ.g) A.core (by rw [hr]) (by rw [hr]) (by rw [hr]; exact hav))
    simp only [execOp, ho, Sem.run_bind] at hv ⊢
    rw [hv]; rfl
  unfold doBin at h1
  split at h1
  · rename_i k n hxe
    rw [hxe] at hx
    split at h1
    · rename_i k' n' hye
      rw [hye] at hy
      rw [RAV.int_val hx, RAV.int_val hy]
      split at h1
      · rename_i hk
        exact run_binInt (by simpa using hk) h1 t x y w
      · simp [Tree.eval] at h1
    · simp [Tree.eval] at h1
  · rename_i tl xs hxe
    rw [hxe] at hx
    split at h1
    · rename_i hn
      rw [isNilC_ok hn a]
      obtain ⟨ad, cap, e1, _, hrow⟩ := (show Rep V.C (.list tl) xs [a.eval x] from RAV.one' hx)
      injection e1 with e1 _
      split at h1
      · rename_i e ht
        rw [hP] at ht
        have hne : ∀ (b : Bool) (rest : AV), ((Tree.need (!(List.isEmpty xs)) (.ret rest)).eval = some av) → ∃ b o, ad = some ⟨b, o, none⟩ ∧ av = rest := by
          intro _ rest h1
          obtain ⟨h3, h4⟩ := Tree.eval_need h1
          cases xs with
          | nil => simp at h3
          | cons x0 xs =>
            obtain ⟨b, o, _, e2, _⟩ := hrow 0 (by simp)
            simp only [Tree.eval] at h4
            exact ⟨b, o, e2, (Option.some.inj h4).symm⟩
        split at h1
        · obtain ⟨b, o', rfl, rfl⟩ := hne true _ h1
          rw [e1]
          exact ⟨_, (run_isNil ht _ _ _ x y w).1, RAV.mk_bool _⟩
        · obtain ⟨b, o', rfl, rfl⟩ := hne true _ h1
          rw [e1]
          exact ⟨_, (run_isNil ht _ _ _ x y w).2, RAV.mk_bool _⟩
        · simp [Tree.eval] at h1
      · simp [Tree.eval] at h1
    · simp [Tree.eval] at h1
  · rename_i p hxe
    rw [hxe] at hx
    split at h1
    · rename_i q hye
      rw [hye] at hy
      rw [RAV.bool_val hx, RAV.bool_val hy]
      split at h1
      · rename_i ht
        rw [hP] at ht
        split at h1
        · simp only [Tree.eval] at h1; cases h1
          exact ⟨_, (run_eqBool ht p q x y w).1, RAV.mk_bool _⟩
        · simp only [Tree.eval] at h1; cases h1
          exact ⟨_, (run_eqBool ht p q x y w).2, RAV.mk_bool _⟩
        · simp [Tree.eval] at h1
      · simp [Tree.eval] at h1
    · simp [Tree.eval] at h1
  · simp [Tree.eval] at h1

theorem op_un (A : At cx E V σ a w) {op : UnOp} {t : TypeId} {x : Operand} (ho : o.op = .unOp op t x)
    (h : ((doUn op (ev E σ x)).bind fun r => out σ r).eval = some r) : OpOk cx P V a w new o r := by
  obtain ⟨av, h1, h2⟩ := Tree.eval_bind_some h
  have hr := out_ok h2
  have hx := A.val x
  unfold doUn at h1
  split at h1
  · rename_i k n hxe
    rw [hxe] at hx
    simp only [Tree.eval] at h1; cases h1
    exact OpOk.ofRun (v := .int k (k.wrap (0 - n))) (w' := w) (by simp [ho]) (by simp [execOp, ho, RAV.int_val hx, Op.unary, Op.intArith]) (Post.pure (g := σ.g) A.core (by rw [hr]) (by rw [hr]) (by rw [hr]; exact RAV.mk_int _ _))
  · rename_i b hxe
    rw [hxe] at hx
    simp only [Tree.eval] at h1; cases h1
    exact OpOk.ofRun (v := .bool (!b)) (w' := w) (by simp [ho]) (by simp [execOp, ho, RAV.bool_val hx, Op.unary]) (Post.pure (g := σ.g) A.core (by rw [hr]) (by rw [hr]) (by rw [hr]; exact RAV.mk_bool _))
  · simp [Tree.eval] at h1

theorem op_convert (A : At cx E V σ a w) (hP : E.P = P) {t d : TypeId} {x : Operand} (ho : o.op = .convert t d x) 
    (h : (match E.P.underlying t, E.P.underlying d, asInt (ev E σ x) with | some _, some (.int k), some (_, n) => out σ (.int k (k.wrap n)) | _, _, _ => Tree.fail).eval = some r) : OpOk cx P V a w new o r := by
  split at h
  · rename_i ts k q n hts hd hx
    rw [hP] at hd hts
    have hr := out_ok h
    have hv := asInt_ok hx (A.val x)
    exact OpOk.ofRun (v := .int k (k.wrap n)) (w' := w) (by simp [ho]) (by simp [execOp, ho, hv, convert, run_underlying hts, run_underlying hd, Conv.intToInt]) (Post.pure (g := σ.g) A.core (by rw [hr]) (by rw [hr]) (by rw [hr]; exact RAV.mk_int _ _))
  · simp [Tree.eval] at h

theorem op_extract (A : At cx E V σ a w) {x : Operand} {i : Nat} (ho : o.op = .extract x i)
    (h : (match ev E σ x with | .tup xs => (match xs[i]? with | some b => out σ (.v b) | none => Tree.fail) | _ => Tree.fail).eval = some r) : OpOk cx P V a w new o r := by
  have hx := A.val x
  split at h
  · rename_i xs hxe
    rw [hxe] at hx
    split at h
    · rename_i b hb
      have hr := out_ok h
      obtain ⟨vs, hv, hall⟩ := hx
      obtain ⟨u, hu, hru⟩ := hall.get hb
      exact OpOk.ofRun (v := u) (w' := w) (by simp [ho]) (by simp [execOp, ho, hv, Instr.extract, hu]) (Post.pure (g := σ.g) A.core (by rw [hr]) (by rw [hr]) (by rw [hr]; exact hru))
    · simp [Tree.eval] at h
  · simp [Tree.eval] at h

theorem run_isAgg {t : TypeId} {b : Bool} (h : isAggT P t = some b) (w : World) : (isAgg t).run P w = .ok b w := by
  unfold isAggT at h
  unfold isAgg
  cases ht : P.underlying t with
  | none => simp [ht] at h
  | some d => rw [ht] at h; cases d <;> simp at h <;> subst h <;> simp [run_underlying ht]
theorem run_typeInfo {t : TypeId} {i : TypeInfo} (h : P.info? t = some i) (w : World) : (typeInfo t).run P w = .ok i w := by simp [typeInfo, h]
theorem run_sizeOf {t : TypeId} {i : TypeInfo} (h : P.info? t = some i) (w : World) : (sizeOf t).run P w = .ok i.size w := by simp [sizeOf, typeInfo, h]

theorem op_field (A : At cx E V σ a w) (hP : E.P = P) {t : TypeId} {x : Operand} {f : Nat} (ho : o.op = .field t x f)
    (h : (match E.P.underlying t, ev E σ x with
      | some (.struct fs), .v ⟨true, cs⟩ => (match fs[f]? with
        | some fd => (match E.P.info? fd.type, isAggT E.P fd.type with
          | some i, some true => if fd.offset + i.size ≤ cs.length then out σ (.agg ((cs.drop fd.offset).take i.size)) else Tree.fail
          | some _, some false => (match cs[fd.offset]? with
            | some b => out σ (.one b)
            | none => Tree.fail)
          | _, _ => Tree.fail)
        | none => Tree.fail)
      | _, _ => Tree.fail).eval = some r) : OpOk cx P V a w new o r := by
  have hx := A.val x
  split at h
  · rename_i fs cs hu hxe
    rw [hxe] at hx
    rw [hP] at hu
    obtain ⟨vs, hv, hall⟩ := hx
    split at h
    · rename_i fd hfd
      split at h
      · rename_i i hi hag
        rw [hP] at hi hag
        split at h
        · rename_i hle
          have hr := out_ok h
          refine OpOk.ofRun (v := .agg ((vs.drop fd.offset).take i.size).toArray) (w' := w) (by simp [ho]) ?_ (Post.pure (g := σ.g) A.core (by rw [hr]) (by rw [hr]) (by rw [hr]; exact ⟨_, rfl, (hall.drop _).take _⟩))
          simp [execOp, ho, hv, Instr.field, run_underlying hu, hfd, part, run_isAgg hag, asAgg, run_sizeOf hi]
        · simp [Tree.eval] at h
      · rename_i i hi hag
        rw [hP] at hi hag
        split at h
        · rename_i b hb
          have hr := out_ok h
          obtain ⟨u, hu', hru⟩ := hall.get hb
          refine OpOk.ofRun (v := u) (w' := w) (by simp [ho]) ?_ (Post.pure (g := σ.g) A.core (by rw [hr]) (by rw [hr]) (by rw [hr]; exact RAV.one.2 hru))
          simp [execOp, ho, hv, Instr.field, run_underlying hu, hfd, part, run_isAgg hag, asAgg, hu']
        · simp [Tree.eval] at h
      · simp [Tree.eval] at h
    · simp [Tree.eval] at h
  · simp [Tree.eval] at h
end ops
end
end Go.Sh

namespace Go.Sh
open Go.RowKit

theorem cast_ok {t u : Ty} {x : t.den} {y : u.den} (h : cast? x = some y) : ∃ e : t = u, e ▸ x = y := by
  unfold cast? at h
  split at h
  · rename_i e; exact ⟨e, Option.some.inj h⟩
  · cases h
theorem cutAt_eq {α : Type} (off len : Nat) (xs : List α) : cutAt off len xs = (xs.drop off).take len := by cases off <;> rfl

section
variable {V : View} {w : World}
theorem FrzV.rep {C : Mem} {t : Ty} {l : Loc} {xs : List t.den} (h : FrzV C t l xs) : Rep C (.list t) xs [l.v] := by
  rcases h with ⟨rfl, _, a, e⟩ | ⟨b, cap, cs, _, e, hc, hr, hm⟩
  · rw [e]; exact Rep.list_nil _ _
  · rw [e]; exact Rep.list_of_rows hr hc (fun j v hv => by simpa using hm j v hv)
theorem FrzV.cut {C : Mem} {t : Ty} {l : Loc} {xs : List t.den} {off len cap : Nat} {a : Option Addr} (h : FrzV C t l xs) (hl : off + len ≤ xs.length) (hc : len ≤ cap)
    (ha : len = 0 ∨ ∃ b, l.blk = some b ∧ a = some ⟨b, off * t.nc, none⟩) : Rep C (.list t) ((xs.drop off).take len) [.slice a len cap] := by
  have hlen : ((xs.drop off).take len).length = len := by simp; omega
  refine ⟨a, cap, by simp only [hlen], by omega, fun i hi => ?_⟩
  rcases ha with rfl | ⟨b, hb, rfl⟩
  · simp at hi
  · rcases h with ⟨rfl, _, _⟩ | ⟨b', cap', cs, hb', e, _, hr, hm⟩
    · simp at hi
    · rw [hb] at hb'; cases hb'
      have hi' : off + i < xs.length := by omega
      obtain ⟨pre, row, post, rfl, h1, h2⟩ := hr.at (off + i) hi'
      refine ⟨b, off * t.nc, row, rfl, ?_, fun j v hv => ?_⟩
      · simpa using h2
      · have hj := (List.getElem?_eq_some_iff.1 hv).1
        have := hm (pre.length + j) v (by rw [List.append_assoc, List.getElem?_append_right (by omega), Nat.add_sub_cancel_left, List.getElem?_append_left hj]; exact hv)
        rw [h1, Nat.add_mul] at this
        rw [show off * t.nc + i * t.nc + j = off * t.nc + i * t.nc + j from rfl]; exact this

theorem dataOf_ok (hobj : ∀ id o, V.h id = some o → ObjR V w (V.ι id) o) {hh : Nat → Option AObj} {a : A0} {d : D} {v : Value} (h : dataOf hh a = some d) (hv : RA0 V a v)
    (hc : ∀ id ∈ a.ids, ∀ o, hh id = some o → V.h id = some o.freeze) : RepD V.C d v := by
  unfold dataOf at h
  split at h
  · cases h; exact hv
  · rename_i id
    split at h
    · rename_i e t xs fz hid
      cases h
      have h1 := hc id (by simp [A0.ids]) _ hid
      have h2 : FrzV V.C t (V.ι id) xs := hobj id _ h1
      rw [hv.2 e t xs true h1]
      exact h2.rep
    · cases h
  · rename_i id off len ex
    split at h
    · rename_i e t xs fz hid
      cases h
      have h1 := hc id (by simp [A0.ids]) _ hid
      have h2 : FrzV V.C t (V.ι id) xs := hobj id _ h1
      obtain ⟨h3, a, cap, rfl, h4, _, h5⟩ := hv.2 e t xs true h1
      show Rep V.C (.list t) (cutAt off len xs) _
      rw [cutAt_eq]
      exact h2.cut h3 h4 h5
    · cases h
  · cases h

theorem parse_pair (h : Nat → Option AObj) (a b : Ty) (cs : List A0) : parse h (.pair a b) cs = match parse h a cs with
    | some (x, r) => match parse h b r with
      | some (y, r') => some ((x, y), r')
      | none => none
    | none => none := by cases cs <;> rfl
theorem rowsOf_succ (t : Ty) (n : Nat) (cs : List A0) : rowsOf t (n + 1) cs = match parse (fun _ => none) t cs with
    | some (x, r) => match rowsOf t n r with
      | some xs => some (x :: xs)
      | none => none
    | none => none := by cases cs <;> rfl
theorem parse_ok (hobj : ∀ id o, V.h id = some o → ObjR V w (V.ι id) o) {hh : Nat → Option AObj} : ∀ (t : Ty) {cs : List A0} {x : t.den} {r : List A0} {vs : List Value}, parse hh t cs = some (x, r) → RCs V cs vs →
    (∀ a ∈ cs, ∀ id ∈ a.ids, ∀ o, hh id = some o → V.h id = some o.freeze) → ∃ p vs1 vs2, cs = p ++ r ∧ vs = vs1 ++ vs2 ∧ Rep V.C t x vs1 ∧ RCs V r vs2 := by
  intro t
  induction t generalizing hh with
  | unit =>
    intro cs x r vs h hv _
    cases cs <;> (simp only [parse] at h; cases h; exact ⟨[], [], vs, rfl, rfl, rfl, hv⟩)
  | sum a b _ _ => intro cs x r vs h; cases cs <;> simp [parse] at h
  | agg t ih => intro cs x r vs h hv hc; exact ih (by cases cs <;> simpa only [parse] using h) hv hc
  | pair a b iha ihb =>
    intro cs x r vs h hv hc
    rw [parse_pair] at h
    split at h
    · rename_i x1 r1 h1
      split at h
      · rename_i x2 r2 h2
        cases h
        obtain ⟨p, v1, v2, rfl, rfl, h3, h4⟩ := iha h1 hv hc
        obtain ⟨p2, v3, v4, rfl, rfl, h5, h6⟩ := ihb h2 h4 (fun a ha => hc a (by simp [ha]))
        exact ⟨p ++ p2, v1 ++ v3, v4, by simp, by simp, ⟨v1, v3, rfl, h3, h5⟩, h6⟩
      · cases h
    · cases h
  | list t ih =>
    intro cs x r vs h hv hc
    cases cs with
    | nil => simp [parse] at h
    | cons c cs =>
      cases hv with
      | @cons _ v _ vs hv1 hv2 =>
      simp only [parse] at h
      split at h
      · cases h
        obtain ⟨ad, rfl⟩ := hv1
        exact ⟨[_], [_], vs, rfl, rfl, Rep.list_nil _ _, hv2⟩
      · split at h
        · rename_i d hd
          split at h
          · rename_i y hy
            cases h
            obtain ⟨e, hy⟩ := cast_ok hy
            obtain ⟨dt, dx⟩ := d
            simp only at e
            subst e
            cases hy
            exact ⟨[_], [_], vs, rfl, rfl, dataOf_ok hobj hd hv1 (hc _ (by simp)), hv2⟩
          · cases h
        · cases h
  | ref t ih =>
    intro cs x r vs h hv hc
    cases cs with
    | nil => simp [parse] at h
    | cons c cs =>
      cases hv with
      | @cons _ v _ vs hv1 hv2 =>
      simp only [parse] at h
      split at h
      · split at h
        · rename_i y hy
          cases h
          obtain ⟨e, hy⟩ := cast_ok hy
          subst e; cases hy
          exact ⟨[_], [_], vs, rfl, rfl, hv1, hv2⟩
        · cases h
      · rename_i id
        split at h
        · rename_i cells fz hid
          split at h
          · rename_i y hy
            cases h
            have h1 := hc (.ptr id 0) (by simp) id (by simp [A0.ids]) _ hid
            obtain ⟨b, us, hb, hcs, hm⟩ := (show ObjR V w (V.ι id) (.box cells true) from hobj id _ h1)
            obtain ⟨b', hb', rfl⟩ := hv1.2.1 _ _ h1
            rw [hb] at hb'; cases hb'
            obtain ⟨p, v1, v2, _, rfl, h3, h4⟩ := ih hy hcs (fun _ _ _ _ _ ho => by cases ho)
            cases h4
            exact ⟨[_], [_], vs, rfl, rfl, ⟨b, 0, v1, rfl, h3, fun j u hu => by simpa using hm j u (by simpa using hu)⟩, hv2⟩
          · cases h
        · cases h
      · rename_i ds
        split at h
        · rename_i y hy
          cases h
          obtain ⟨b, o, row, rfl, hds, hm⟩ := hv1
          obtain ⟨p, v1, v2, _, rfl, h3, h4⟩ := ih hy (All2.map_left.2 hds) (fun _ _ _ _ _ ho => by cases ho)
          cases h4
          exact ⟨[_], [_], vs, rfl, rfl, ⟨b, o, v1, rfl, h3, fun j u hu => hm j u (by simpa using hu)⟩, hv2⟩
        · cases h
      · cases h
  | int k =>
    intro cs x r vs h hv hc
    cases cs with
    | nil => simp [parse] at h
    | cons c cs =>
      cases hv with
      | @cons _ v _ vs hv1 hv2 =>
      simp only [parse] at h
      split at h
      · split at h
        · rename_i y hy
          cases h
          obtain ⟨e, hy⟩ := cast_ok hy
          subst e; cases hy
          exact ⟨[_], [_], vs, rfl, rfl, hv1, hv2⟩
        · cases h
      · cases h
  | bool =>
    intro cs x r vs h hv hc
    cases cs with
    | nil => simp [parse] at h
    | cons c cs =>
      cases hv with
      | @cons _ v _ vs hv1 hv2 =>
      simp only [parse] at h
      split at h
      · split at h
        · rename_i y hy
          cases h
          obtain ⟨e, hy⟩ := cast_ok hy
          subst e; cases hy
          exact ⟨[_], [_], vs, rfl, rfl, hv1, hv2⟩
        · cases h
      · cases h
  | clo f a b _ _ =>
    intro cs x r vs h hv hc
    cases cs with
    | nil => simp [parse] at h
    | cons c cs =>
      cases hv with
      | @cons _ v _ vs hv1 hv2 =>
      simp only [parse] at h
      split at h
      · split at h
        · rename_i y hy
          cases h
          obtain ⟨e, hy⟩ := cast_ok hy
          subst e; cases hy
          exact ⟨[_], [_], vs, rfl, rfl, hv1, hv2⟩
        · cases h
      · cases h
  | self f b _ =>
    intro cs x r vs h hv hc
    cases cs with
    | nil => simp [parse] at h
    | cons c cs =>
      cases hv with
      | @cons _ v _ vs hv1 hv2 =>
      simp only [parse] at h
      split at h
      · split at h
        · rename_i y hy
          cases h
          obtain ⟨e, hy⟩ := cast_ok hy
          subst e; cases hy
          exact ⟨[_], [_], vs, rfl, rfl, hv1, hv2⟩
        · cases h
      · cases h

theorem rowsOf_ok (hobj : ∀ id o, V.h id = some o → ObjR V w (V.ι id) o) {t : Ty} : ∀ {n : Nat} {cs : List A0} {xs : List t.den} {vs : List Value}, rowsOf t n cs = some xs → RCs V cs vs → Rows V.C t xs vs ∧ xs.length = n := by
  intro n
  induction n with
  | zero =>
    intro cs xs vs h hv
    cases cs with
    | nil => simp only [rowsOf] at h; cases h; cases hv; exact ⟨rfl, rfl⟩
    | cons => simp [rowsOf] at h
  | succ n ih =>
    intro cs xs vs h hv
    rw [rowsOf_succ] at h
    split at h
    · rename_i x r h1
      split at h
      · rename_i xs' h2
        cases h
        obtain ⟨p, v1, v2, _, rfl, h3, h4⟩ := parse_ok hobj t h1 hv (fun _ _ _ _ _ ho => by cases ho)
        obtain ⟨h5, h6⟩ := ih h2 h4
        exact ⟨⟨v1, v2, rfl, h3, h5⟩, by simp [h6]⟩
      · cases h
    · cases h

theorem RCs.of_rep {t : Ty} {x : t.den} {vs : List Value} (h : Rep V.C t x vs) : RCs V ((explode t x).map D.a0) vs := All2.map_left.2 (explode_rep.1 h)
theorem RCs.to_rep {t : Ty} {x : t.den} {vs : List Value} (h : RCs V ((explode t x).map D.a0) vs) : Rep V.C t x vs := explode_rep.2 (All2.map_left.1 h)
theorem RA1.of {t : Ty} {x : t.den} {v : Value} : RA1 V (A1.of t x) v ↔ valRep t.isAgg (Rep V.C t x) v :=
  ⟨fun h => valRep.mono h fun _ h => RCs.to_rep h, fun h => valRep.mono h fun _ h => RCs.of_rep h⟩

theorem den_ok (hobj : ∀ id o, V.h id = some o → ObjR V w (V.ι id) o) {hh : Nat → Option AObj} {t : Ty} {x : A1} {y : t.den} {v : Value} (h : A1.den? hh t x = some y) (hv : RA1 V x v)
    (hc : ∀ a ∈ x.cs, ∀ id ∈ a.ids, ∀ o, hh id = some o → V.h id = some o.freeze) : valRep t.isAgg (Rep V.C t y) v := by
  unfold A1.den? at h
  split at h
  · rename_i hag
    split at h
    · rename_i z hz
      cases h
      rw [← hag]
      refine valRep.mono hv fun vs hvs => ?_
      obtain ⟨p, v1, v2, _, rfl, h3, h4⟩ := parse_ok hobj t hz hvs hc
      cases h4
      simpa using h3
    · cases h
  · cases h
end

section
variable {sT : Ty} {cx : Cx sT} {V : View} {g : sT.den} {a : Act} {w : World} {P : Program} {E : Env sT} {σ : St sT.den} {new : Nat} {o : Oper} {r : Out sT.den}

/-- Where a pointer points to: cells that lie there. -/
def Points (V : View) (w : World) (v : Value) (cs : List A0) : Prop :=
  ∃ b o vs, v = .pointer (some ⟨b, o, none⟩) ∧ RCs V cs vs ∧ ∀ j u, vs[j]? = some u → w.cell? ⟨b, o + j, none⟩ = some u

theorem Points.rp (hc : Core cx V g w) {ds : List D} {v : Value} (h : RA0 V (.rp ds) v) : Points V w v (ds.map D.a0) := by
  obtain ⟨b, o, row, rfl, h1, h2⟩ := h
  exact ⟨b, o, row, rfl, All2.map_left.2 h1, fun j u hu => hc.csub _ _ _ (h2 j u hu)⟩
theorem RA0.rp_of_ref {t : Ty} {y : t.den} {v : Value} (h : RA0 V (.dat (.ref t) y) v) : RA0 V (.rp (explode t y)) v := by
  obtain ⟨b, o, row, e, h1, h2⟩ := (show Rep V.C (.ref t) y [v] from h)
  injection e with e _
  exact ⟨b, o, row, e, explode_rep.1 h1, h2⟩
theorem Points.box (hc : Core cx V g w) {id off : Nat} {cells : List A0} {fz : Bool} {v : Value} (hid : V.h id = some (.box cells fz)) (h : RA0 V (.ptr id off) v) : Points V w v (cells.drop off) := by
  obtain ⟨b, hb, rfl⟩ := h.2.1 _ _ hid
  have hob := hc.obj id _ hid
  cases fz with
  | false =>
    obtain ⟨b', cur, e, hb', hh, hcs⟩ := hob
    rw [hb] at hb'; cases hb'
    refine ⟨b, off, cur.toList.drop off, rfl, hcs.drop _, fun j u hu => ?_⟩
    rw [cell_cells hh, ← Array.getElem?_toList]
    simpa using hu
  | true =>
    obtain ⟨b', vs, hb', hcs, hm⟩ := hob
    rw [hb] at hb'; cases hb'
    exact ⟨b, off, vs.drop off, rfl, hcs.drop _, fun j u hu => hc.csub _ _ _ (hm _ _ (by simpa using hu))⟩
/-- A row of a slice of the frame's own, where it lies. -/
theorem vec_row (hc : Core cx V g w) {id : Nat} {e : TypeId} {t : Ty} {xs : List t.den} {fz : Bool} (hid : V.h id = some (.vec e t xs fz)) {i : Nat} (hi : i < xs.length) :
    ∃ b cap row, (V.ι id).blk = some b ∧ (V.ι id).v = .slice (some ⟨b, 0, none⟩) xs.length cap ∧ xs.length ≤ cap ∧ Rep V.C t xs[i] row ∧ ∀ j u, row[j]? = some u → w.cell? ⟨b, i * t.nc + j, none⟩ = some u := by
  have hob := hc.obj id _ hid
  cases fz with
  | false =>
    rcases hob with ⟨h0, _⟩ | ⟨b, cap, cur, hb, hv, hh, hn, _, hs, hr⟩
    · omega
    · obtain ⟨pre, row, post, he, h1, h2⟩ := hr.at i hi
      refine ⟨b, cap, row, hb, hv, hn, h2, fun j u hu => ?_⟩
      have hj := (List.getElem?_eq_some_iff.1 hu).1
      have h3 : (cur.toList.take (xs.length * t.nc))[i * t.nc + j]? = some u := by
        rw [he, ← h1, List.append_assoc, List.getElem?_append_right (by omega), Nat.add_sub_cancel_left, List.getElem?_append_left hj]; exact hu
      rw [cell_cells hh, ← Array.getElem?_toList]
      rw [List.getElem?_take] at h3
      split at h3
      · exact h3
      · cases h3
  | true =>
    rcases hob with ⟨rfl, _⟩ | ⟨b, cap, cs, hb, hv, hn, hr, hm⟩
    · simp at hi
    · obtain ⟨pre, row, post, rfl, h1, h2⟩ := hr.at i hi
      refine ⟨b, cap, row, hb, hv, hn, h2, fun j u hu => hc.csub _ _ _ (hm _ _ ?_)⟩
      have hj := (List.getElem?_eq_some_iff.1 hu).1
      rw [← h1, List.append_assoc, List.getElem?_append_right (by omega), Nat.add_sub_cancel_left, List.getElem?_append_left hj]; exact hu
theorem Points.vec (hc : Core cx V g w) {id i c : Nat} {e : TypeId} {t : Ty} {xs : List t.den} {fz : Bool} {v : Value} (hid : V.h id = some (.vec e t xs fz)) (h : RA0 V (.vptr id i c) v) :
    Points V w v (((explode t (List.getD xs i t.dflt)).drop c).map D.a0) := by
  obtain ⟨hi, b, hb, rfl⟩ := h.2 _ _ _ _ hid
  obtain ⟨b', cap, row, hb', _, _, h1, h2⟩ := vec_row hc hid hi
  rw [hb] at hb'; cases hb'
  rw [show List.getD xs i t.dflt = xs[i] by simp [hi]]
  refine ⟨b, i * t.nc + c, row.drop c, rfl, ?_, fun j u hu => ?_⟩
  · rw [List.map_drop]; exact (RCs.of_rep h1).drop c
  · rw [Nat.add_assoc]; exact h2 _ _ (by simpa using hu)
theorem cellsAt_ok (hc : Core cx V g w) (hh : ∀ id o, σ.h id = some o → V.h id = some o) {x : AV} {cs : List A0} {rd : List Nat} {v : Value} (h : cellsAt σ x = some (cs, rd)) (hv : RAV V x v) : Points V w v cs := by
  unfold cellsAt at h
  split at h
  · cases h; exact Points.rp hc (RAV.one' hv)
  · cases h; exact Points.rp hc (RA0.rp_of_ref (RAV.one' hv))
  · split at h
    · rename_i hid
      cases h; exact Points.box hc (hh _ _ hid) (RAV.one' hv)
    · cases h
  · split at h
    · rename_i hid
      cases h; exact Points.vec hc (hh _ _ hid) (RAV.one' hv)
    · cases h
  · cases h

theorem run_loadAt_one {t : TypeId} {b o : Nat} {u : Value} (hag : isAggT P t = some false) (hu : w.cell? ⟨b, o, none⟩ = some u) : (Instr.loadAt t (.pointer (some ⟨b, o, none⟩))).run P w = .ok u w := by
  simp [Instr.loadAt, Instr.sureAddr, loadVar, run_isAgg hag, hu]
theorem run_loadAt_agg {t : TypeId} {i : TypeInfo} {b o : Nat} {vs : List Value} (hag : isAggT P t = some true) (hi : P.info? t = some i) (hl : i.size ≤ vs.length) (hu : ∀ j u, vs[j]? = some u → w.cell? ⟨b, o + j, none⟩ = some u) :
    (Instr.loadAt t (.pointer (some ⟨b, o, none⟩))).run P w = .ok (.agg (vs.take i.size).toArray) w := by
  have hr := run_loadCells_list (P := P) w ⟨b, o, none⟩ (vs.take i.size) (fun j v hv => by
    rw [Addr.add_lit]; refine hu j v ?_; rw [List.getElem?_take] at hv; split at hv; exact hv; cases hv)
  rw [show (vs.take i.size).length = i.size by simp; omega] at hr
  simp [Instr.loadAt, Instr.sureAddr, loadVar, run_isAgg hag, run_sizeOf hi, hr]

theorem load_ok (hc : Core cx V g w) (hh : ∀ id o, σ.h id = some o → V.h id = some o) (hP : E.P = P) {t : TypeId} {x y : AV} {rd : List Nat} {v : Value} (h : load' E σ t x = some (y, rd)) (hv : RAV V x v) :
    ∃ u, (Instr.loadAt t v).run P w = .ok u w ∧ RAV V y u := by
  unfold load' at h
  split at h
  · rename_i ag i hag hi
    rw [hP] at hag hi
    split at h
    · rename_i f c z
      split at h
      · cases h
      · rename_i hag'
        have : ag = false := by simpa using hag'
        subst this
        cases h
        obtain ⟨b, o, vc, e, h1, h2⟩ := (show Rep V.C (.self f c) z [v] from RAV.one' hv)
        injection e with e _
        subst e
        refine ⟨_, run_loadAt_one hag (hc.csub _ _ _ h1), RAV.one.2 ⟨[], _, rfl, rfl, ⟨_, vc, rfl, ?_, h2⟩⟩⟩
        exact (show Rep V.C (.self f c) z [_] from ⟨b, o, vc, rfl, h1, h2⟩)
    · split at h
      · rename_i cs rd' hcs
        obtain ⟨b, o, vs, rfl, h1, h2⟩ := cellsAt_ok hc hh hcs hv
        split at h
        · rename_i hagt
          have : ag = true := by simpa using hagt
          subst this
          split at h
          · rename_i hle
            cases h
            rw [h1.length] at hle
            exact ⟨_, run_loadAt_agg hag hi hle h2, RAV.agg.2 ⟨_, rfl, h1.take _⟩⟩
          · cases h
        · rename_i hagf
          have : ag = false := by simpa using hagf
          subst this
          split at h
          · rename_i a0 r0
            cases h
            cases h1 with
            | @cons _ u _ us hu _ =>
            exact ⟨u, run_loadAt_one hag (by simpa using h2 0 u (by simp)), RAV.one.2 hu⟩
          · cases h
      · cases h
  · cases h

theorem op_load (A : At cx E V σ a w) (hP : E.P = P) {t : TypeId} {x : Operand} (ho : o.op = .load t x)
    (h : (match load' E σ t (ev E σ x) with | some (y, rd) => out σ y rd | none => Tree.fail).eval = some r) : OpOk cx P V a w new o r := by
  split at h
  · rename_i y rd hl
    have hr := out_ok h
    obtain ⟨u, h1, h2⟩ := load_ok A.core A.h hP hl (A.val x)
    exact OpOk.ofRun (v := u) (w' := w) (by simp [ho]) (by simp only [execOp, ho, Sem.run_bind, h1]; rfl) (Post.pure (g := σ.g) A.core (by rw [hr]) (by rw [hr]) (by rw [hr]; exact h2))
  · simp [Tree.eval] at h
end
end Go.Sh

namespace Go.Sh
open Go.RowKit
section
variable {sT : Ty} {cx : Cx sT} {V : View} {g : sT.den} {a : Act} {w : World} {P : Program} {E : Env sT} {σ : St sT.den} {new : Nat} {o : Oper} {r : Out sT.den}

theorem run_fieldAt {s : TypeId} {fs : Array Field} {fd : Field} {f : Nat} {i : TypeInfo} {b off : Nat} (hu : P.underlying s = some (.struct fs)) (hf : fs[f]? = some fd) (hi : P.info? fd.type = some i) (h0 : i.size ≠ 0) :
    (Instr.fieldAt s (.pointer (some ⟨b, off, none⟩)) f).run P w = .ok (.pointer (some ⟨b, off + fd.offset, none⟩)) w := by
  simp [Instr.fieldAt, run_underlying hu, hf, Instr.sureAddr, fieldPlace, run_sizeOf hi, h0, Addr.add_lit]

theorem RA0.rp_drop {ds : List D} {b off k size : Nat} (h : RA0 V (.rp ds) (.pointer (some ⟨b, off, none⟩))) : RA0 V (.rp (dropDs ds k size)) (.pointer (some ⟨b, off + k, none⟩)) := by
  obtain ⟨b', o', row, e, h1, h2⟩ := h
  cases e
  refine ⟨_, _, (row.drop k).take size, rfl, (h1.drop k).take size, fun j u hu => ?_⟩
  rw [List.getElem?_take] at hu
  split at hu
  · rw [List.getElem?_drop] at hu
    rw [Nat.add_assoc]; exact h2 _ _ hu
  · cases hu
theorem RA0.ptr_add {id off b k : Nat} {cells : List A0} {fz : Bool} (hid : V.h id = some (.box cells fz)) (h : RA0 V (.ptr id off) (.pointer (some ⟨b, off, none⟩))) : RA0 V (.ptr id (off + k)) (.pointer (some ⟨b, off + k, none⟩)) := by
  obtain ⟨b', hb, e⟩ := h.2.1 _ _ hid
  cases e
  exact ⟨h.1, fun _ _ _ => ⟨b, hb, rfl⟩, fun kd t xs fz h2 => by rw [hid] at h2; cases h2⟩
theorem RA0.vptr_add {id i c b q k : Nat} {e : TypeId} {t : Ty} {xs : List t.den} {fz : Bool} (hid : V.h id = some (.vec e t xs fz)) (h : RA0 V (.vptr id i c) (.pointer (some ⟨b, q, none⟩))) : RA0 V (.vptr id i (c + k)) (.pointer (some ⟨b, q + k, none⟩)) := by
  obtain ⟨h1, b', hb, e1⟩ := h.2 _ _ _ _ hid
  cases e1
  refine ⟨h.1, fun e2 t2 xs2 fz2 h2 => ?_⟩
  rw [hid] at h2; cases h2
  exact ⟨h1, b, hb, by rw [Nat.add_assoc]⟩
/-- Pointers have the form of pointers. -/
theorem ptr_form (hc : Core cx V g w) {x : AV} {v : Value} (hv : RAV V x v) :
    (∀ {ds}, x = .v ⟨false, [.rp ds]⟩ → ∃ b q, v = .pointer (some ⟨b, q, none⟩)) ∧ (∀ {id off cells fz}, x = .v ⟨false, [.ptr id off]⟩ → V.h id = some (.box cells fz) → ∃ b, v = .pointer (some ⟨b, off, none⟩)) ∧
    (∀ {id i c e t xs fz}, x = .v ⟨false, [.vptr id i c]⟩ → V.h id = some (.vec e t xs fz) → ∃ b q, v = .pointer (some ⟨b, q, none⟩)) := by
  refine ⟨fun e => ?_, fun e hid => ?_, fun e hid => ?_⟩
  · subst e; obtain ⟨b, q, _, rfl, _⟩ := (show RA0 V (.rp _) v from RAV.one' hv); exact ⟨b, q, rfl⟩
  · subst e; obtain ⟨b, _, rfl⟩ := (RAV.one' hv).2.1 _ _ hid; exact ⟨b, rfl⟩
  · subst e; obtain ⟨_, b, _, rfl⟩ := (RAV.one' hv).2 _ _ _ _ hid; exact ⟨b, _, rfl⟩

theorem op_fieldAddr (A : At cx E V σ a w) (hP : E.P = P) {t : TypeId} {x : Operand} {f : Nat} (ho : o.op = .fieldAddr t x f)
    (h : (match fieldAddr' E σ t (ev E σ x) f with | some (y, rd) => out σ y rd | none => Tree.fail).eval = some r) : OpOk cx P V a w new o r := by
  have hx := A.val x
  split at h
  · rename_i y rd hl
    have hr := out_ok h
    suffices hs : ∃ u, (Instr.fieldAt t (a.eval x) f).run P w = .ok u w ∧ RAV V y u by
      obtain ⟨u, h1, h2⟩ := hs
      exact OpOk.ofRun (v := u) (w' := w) (by simp [ho]) (by simp only [execOp, ho, Sem.run_bind, h1]; rfl) (Post.pure (g := σ.g) A.core (by rw [hr]) (by rw [hr]) (by rw [hr]; exact h2))
    unfold fieldAddr' at hl
    split at hl
    · rename_i fs hu
      rw [hP] at hu
      split at hl
      · rename_i fd hfd
        split at hl
        · rename_i i hi
          rw [hP] at hi
          split at hl
          · cases hl
          · rename_i h0
            split at hl
            · rename_i id off hxe
              split at hl
              · rename_i cells fz hid
                replace hid := A.h _ _ hid
                cases hl
                rw [hxe] at hx
                obtain ⟨b, e⟩ := (ptr_form A.core hx).2.1 rfl hid
                rw [e] at hx ⊢
                exact ⟨_, run_fieldAt hu hfd hi h0, RAV.one.2 (RA0.ptr_add hid (RAV.one' hx))⟩
              · cases hl
            · rename_i id i' c hxe
              split at hl
              · rename_i e' t' xs fz hid
                replace hid := A.h _ _ hid
                cases hl
                rw [hxe] at hx
                obtain ⟨b, q, e⟩ := (ptr_form A.core hx).2.2 rfl hid
                rw [e] at hx ⊢
                exact ⟨_, run_fieldAt hu hfd hi h0, RAV.one.2 (RA0.vptr_add hid (RAV.one' hx))⟩
              · cases hl
            · rename_i ds hxe
              cases hl
              rw [hxe] at hx
              obtain ⟨b, q, e⟩ := (ptr_form A.core hx).1 rfl
              rw [e] at hx ⊢
              exact ⟨_, run_fieldAt hu hfd hi h0, RAV.one.2 (RA0.rp_drop (RAV.one' hx))⟩
            · rename_i t' y' hxe
              cases hl
              rw [hxe] at hx
              have hx' := RAV.one.2 (RA0.rp_of_ref (RAV.one' hx))
              obtain ⟨b, q, e⟩ := (ptr_form A.core hx').1 rfl
              rw [e] at hx' ⊢
              exact ⟨_, run_fieldAt hu hfd hi h0, RAV.one.2 (RA0.rp_drop (RAV.one' hx'))⟩
            · cases hl
        · cases hl
      · cases hl
    · cases hl
  · simp [Tree.eval] at h

theorem run_indexAt_slice {t e : TypeId} {i : TypeInfo} {b off len cap : Nat} {k : IntKind} {n : Int} (ht : P.underlying t = some (.slice e)) (hi : P.info? e = some i) (h0 : 0 ≤ n) (h1 : n < (len : Int)) :
    (Instr.indexAt t (.slice (some ⟨b, off, none⟩) len cap) (.int k n)).run P w = .ok (.pointer (some ⟨b, off + n.toNat * i.size, none⟩)) w := by
  simp [Instr.indexAt, asIntOf, run_underlying ht, h0, h1, run_sizeOf hi, Addr.add_lit]
theorem run_indexAt_array {t e : TypeId} {i : TypeInfo} {b off len : Nat} {k : IntKind} {n : Int} (ht : P.underlying t = some (.array len e)) (hi : P.info? e = some i) (h0 : 0 ≤ n) (h1 : n < (len : Int)) :
    (Instr.indexAt t (.pointer (some ⟨b, off, none⟩)) (.int k n)).run P w = .ok (.pointer (some ⟨b, off + n.toNat * i.size, none⟩)) w := by
  simp [Instr.indexAt, asIntOf, run_underlying ht, h0, h1, run_sizeOf hi, Addr.add_lit, Instr.sureAddr]

theorem pick1_ok {n : Int} {f : Nat → A0} : ∀ {k : Nat} {v : AV}, (pick1 n k f).eval = some v → ∃ j : Nat, n = (j : Int) ∧ j < k ∧ v = .one (f j)
  | 0, _, h => by simp [pick1, Tree.eval] at h
  | k + 1, v, h => by
    simp only [pick1] at h
    rcases Tree.eval_ite h with ⟨h1, h2⟩ | ⟨_, h2⟩
    · simp only [Tree.eval] at h2
      exact ⟨k, by simpa using h1, by omega, (Option.some.inj h2).symm⟩
    · obtain ⟨j, h3, h4, h5⟩ := pick1_ok h2
      exact ⟨j, h3, by omega, h5⟩
theorem atIndex_ok {ix : Operand} {kk : IntKind} {n : Int} {f : Nat → A0} {len : Nat} {v : AV} (hn : asInt (ev E σ ix) = some (kk, n)) (h : (atIndex len ix n f).eval = some v) : ∃ j : Nat, n = (j : Int) ∧ j < len ∧ v = .one (f j) := by
  unfold atIndex at h
  split at h
  · rename_i k
    split at h
    · rename_i hk
      simp only [Tree.eval] at h
      simp only [ev, A1.ofConst, A0.ofConst, asInt, Option.some.injEq, Prod.mk.injEq] at hn
      exact ⟨k, by rw [← hn.2]; rfl, hk, (Option.some.inj h).symm⟩
    · simp [Tree.eval] at h
  · exact pick1_ok h

theorem inRange_ok {n : Int} {len : Nat} (h : inRange n len = true) : 0 ≤ n ∧ n < (len : Int) ∧ n.toNat < len := by
  simp only [inRange, Bool.and_eq_true, decide_eq_true_eq] at h
  omega

theorem natOr_eq (off n : Nat) : natOr off n = off + n := by cases off <;> simp [natOr]

theorem op_indexAddr (A : At cx E V σ a w) (hP : E.P = P) {t : TypeId} {x ix : Operand} (ho : o.op = .indexAddr t x ix)
    (h : ((indexAddr' E σ t (ev E σ x) ix (ev E σ ix)).bind fun y => out σ y.1 y.2).eval = some r) : OpOk cx P V a w new o r := by
  have hx := A.val x
  have hix := A.val ix
  obtain ⟨y, hl, h⟩ := Tree.eval_bind_some h
  have hr := out_ok h
  suffices hs : ∃ u, (Instr.indexAt t (a.eval x) (a.eval ix)).run P w = .ok u w ∧ RAV V y.1 u by
    obtain ⟨u, h1, h2⟩ := hs
    exact OpOk.ofRun (v := u) (w' := w) (by simp [ho]) (by simp only [execOp, ho, Sem.run_bind, h1]; rfl) (Post.pure (g := σ.g) A.core (by rw [hr]) (by rw [hr]) (by rw [hr]; exact h2))
  unfold indexAddr' at hl
  split at hl
  · simp [Tree.eval] at hl
  · rename_i k n hn
    rw [asInt_ok hn hix]
    split at hl
    · rename_i e hu
      rw [hP] at hu
      split at hl
      · rename_i i hi
        rw [hP] at hi
        split at hl
        · rename_i t' xs hxe
          rw [hxe] at hx
          split at hl
          · rename_i hsz
            obtain ⟨hin, hl⟩ := Tree.eval_need hl
            simp only [Tree.eval] at hl; cases hl
            obtain ⟨h0, h1, h2⟩ := inRange_ok hin
            obtain ⟨ad, cap, e1, _, hrow⟩ := (show Rep V.C (.list t') xs [a.eval x] from RAV.one' hx)
            injection e1 with e1 _
            obtain ⟨b, off, row, rfl, h3, h4⟩ := hrow n.toNat h2
            rw [e1]
            refine ⟨_, run_indexAt_slice hu hi h0 h1, RAV.one.2 ⟨b, off + n.toNat * t'.nc, row, by rw [hsz], ?_, h4⟩⟩
            rw [show List.getD xs n.toNat t'.dflt = xs[n.toNat] by simp [h2]]
            exact explode_rep.1 h3
          · simp [Tree.eval] at hl
        · rename_i id hxe
          rw [hxe] at hx
          split at hl
          · rename_i e' t' xs fz hid
            replace hid := A.h _ _ hid
            split at hl
            · rename_i hsz
              obtain ⟨hin, hl⟩ := Tree.eval_need hl
              simp only [Tree.eval] at hl; cases hl
              obtain ⟨h0, h1, h2⟩ := inRange_ok hin
              obtain ⟨b, cap, row, hb, hv, _⟩ := vec_row A.core hid h2
              have hx0 := RAV.one' hx
              rw [hx0.2 _ _ _ _ hid, hv]
              refine ⟨_, run_indexAt_slice hu hi h0 h1, RAV.one.2 ⟨hx0.1, fun e2 t2 xs2 fz2 h2' => ?_⟩⟩
              rw [hid] at h2'; cases h2'
              exact ⟨h2, b, hb, by rw [hsz]; simp⟩
            · simp [Tree.eval] at hl
          · simp [Tree.eval] at hl
        · rename_i id off len ex hxe
          rw [hxe] at hx
          split at hl
          · rename_i e' t' xs fz hid
            replace hid := A.h _ _ hid
            split at hl
            · rename_i hsz
              obtain ⟨hin, hl⟩ := Tree.eval_need hl
              simp only [Tree.eval] at hl; cases hl
              obtain ⟨h0, h1, h2⟩ := inRange_ok hin
              have hx0 := RAV.one' hx
              obtain ⟨h3, ad, cap, e1, h4, _, h5⟩ := hx0.2 _ _ _ _ hid
              rcases h5 with rfl | ⟨b, hb, rfl⟩
              · omega
              · rw [e1]
                refine ⟨_, run_indexAt_slice hu hi h0 h1, RAV.one.2 ⟨hx0.1, fun e2 t2 xs2 fz2 h2' => ?_⟩⟩
                rw [hid] at h2'; cases h2'
                rw [natOr_eq]
                exact ⟨by omega, b, hb, by rw [hsz, Nat.add_mul]; simp⟩
            · simp [Tree.eval] at hl
          · simp [Tree.eval] at hl
        · rename_i id len hxe
          rw [hxe] at hx
          split at hl
          · rename_i cells fz hid
            replace hid := A.h _ _ hid
            split at hl
            · rename_i hsz
              obtain ⟨v, h1, h2⟩ := Tree.eval_bind_some hl
              obtain ⟨j, rfl, hj, rfl⟩ := atIndex_ok hn h1
              simp only [Tree.eval] at h2; cases h2
              have hx0 := RAV.one' hx
              obtain ⟨b, cap, hb, hv⟩ := hx0.2 _ _ hid
              rw [hv]
              refine ⟨_, run_indexAt_slice hu hi (by omega) (by omega), RAV.one.2 ⟨hx0.1, fun cells2 fz2 h2' => ⟨b, hb, ?_⟩, fun kd t2 xs2 fz2 h2' => by rw [hid] at h2'; cases h2'⟩⟩
              rw [hsz]; simp
            · simp [Tree.eval] at hl
          · simp [Tree.eval] at hl
        · simp [Tree.eval] at hl
      · simp [Tree.eval] at hl
    · rename_i len e hu
      rw [hP] at hu
      split at hl
      · rename_i i hi
        rw [hP] at hi
        split at hl
        · rename_i id off hxe
          rw [hxe] at hx
          split at hl
          · rename_i cells fz hid
            replace hid := A.h _ _ hid
            obtain ⟨v, h1, h2⟩ := Tree.eval_bind_some hl
            obtain ⟨j, rfl, hj, rfl⟩ := atIndex_ok hn h1
            simp only [Tree.eval] at h2; cases h2
            obtain ⟨b, e2⟩ := (ptr_form A.core hx).2.1 rfl hid
            rw [e2] at hx ⊢
            refine ⟨_, run_indexAt_array hu hi (by omega) (by omega), ?_⟩
            rw [Int.toNat_natCast]
            exact RAV.one.2 (RA0.ptr_add hid (RAV.one' hx))
          · simp [Tree.eval] at hl
        · rename_i id i' c hxe
          rw [hxe] at hx
          split at hl
          · rename_i e' t' xs fz hid
            replace hid := A.h _ _ hid
            obtain ⟨v, h1, h2⟩ := Tree.eval_bind_some hl
            obtain ⟨j, rfl, hj, rfl⟩ := atIndex_ok hn h1
            simp only [Tree.eval] at h2; cases h2
            obtain ⟨b, q, e2⟩ := (ptr_form A.core hx).2.2 rfl hid
            rw [e2] at hx ⊢
            refine ⟨_, run_indexAt_array hu hi (by omega) (by omega), ?_⟩
            rw [Int.toNat_natCast]
            exact RAV.one.2 (RA0.vptr_add hid (RAV.one' hx))
          · simp [Tree.eval] at hl
        · rename_i ds hxe
          rw [hxe] at hx
          obtain ⟨v, h1, h2⟩ := Tree.eval_bind_some hl
          obtain ⟨j, rfl, hj, rfl⟩ := atIndex_ok hn h1
          simp only [Tree.eval] at h2; cases h2
          obtain ⟨b, q, e2⟩ := (ptr_form A.core hx).1 rfl
          rw [e2] at hx ⊢
          refine ⟨_, run_indexAt_array hu hi (by omega) (by omega), ?_⟩
          rw [Int.toNat_natCast]
          exact RAV.one.2 (RA0.rp_drop (RAV.one' hx))
        · rename_i t' y' hxe
          rw [hxe] at hx
          obtain ⟨v, h1, h2⟩ := Tree.eval_bind_some hl
          obtain ⟨j, rfl, hj, rfl⟩ := atIndex_ok hn h1
          simp only [Tree.eval] at h2; cases h2
          have hx' := RAV.one.2 (RA0.rp_of_ref (RAV.one' hx))
          obtain ⟨b, q, e2⟩ := (ptr_form A.core hx').1 rfl
          rw [e2] at hx' ⊢
          refine ⟨_, run_indexAt_array hu hi (by omega) (by omega), ?_⟩
          rw [Int.toNat_natCast]
          exact RAV.one.2 (RA0.rp_drop (RAV.one' hx'))
        · simp [Tree.eval] at hl
      · simp [Tree.eval] at hl
    · simp [Tree.eval] at hl

theorem op_index (A : At cx E V σ a w) (hP : E.P = P) {t : TypeId} {x ix : Operand} (ho : o.op = .index t x ix)
    (h : (match E.P.underlying t, ev E σ x, asInt (ev E σ ix) with
      | some (.array len e), .v ⟨true, cs⟩, some (_, n) => (match tyOf E.P 8 e, E.P.info? e, isAggT E.P e with
        | some t', some i, some ag => if i.size = t'.nc && t'.isAgg == ag && (ag || i.size == 1) then (match rowsOf t' len cs with
            | some xs => Tree.need (inRange n len) (out σ (.v (A1.of t' (List.getD xs n.toNat t'.dflt))))
            | none => Tree.fail)
          else Tree.fail
        | _, _, _ => Tree.fail)
      | _, _, _ => Tree.fail).eval = some r) : OpOk cx P V a w new o r := by
  have hx := A.val x
  split at h
  · rename_i len e cs q n hu hxe hn
    rw [hP] at hu
    rw [hxe] at hx
    have hix := asInt_ok hn (A.val ix)
    obtain ⟨vs, hv, hall⟩ := hx
    split at h
    · rename_i t' i ag _ hi hag
      rw [hP] at hi hag
      split at h
      · rename_i hcond
        simp only [Bool.and_eq_true, decide_eq_true_eq, beq_iff_eq] at hcond
        obtain ⟨⟨hsz, hagg⟩, hone⟩ := hcond
        split at h
        · rename_i xs hxs
          obtain ⟨hin, h⟩ := Tree.eval_need h
          have hr := out_ok h
          obtain ⟨hrows, hlen⟩ := rowsOf_ok (fun id o h => A.core.obj id o h) hxs hall
          obtain ⟨h0, h1, h2⟩ := inRange_ok hin
          obtain ⟨pre, row, post, rfl, h3, h4⟩ := hrows.at n.toNat (by omega)
          have hxn : List.getD xs n.toNat t'.dflt = xs[n.toNat] := by simp [show n.toNat < xs.length by omega]
          cases hc : ag with
          | true =>
            rw [hc] at hag hagg
            refine OpOk.ofRun (v := .agg row.toArray) (w' := w) (by simp [ho]) ?_ (Post.pure (g := σ.g) A.core (by rw [hr]) (by rw [hr]) (by rw [hr]; exact RA1.of.2 (by rw [hxn, hagg]; exact ⟨row, rfl, h4⟩)))
            have hex : (pre ++ (row ++ post)).toArray.extract (n.toNat * i.size) (n.toNat * i.size + i.size) = row.toArray := by
              rw [hsz, ← h3, ← h4.length]
              simp
            simp [execOp, ho, hv, hix, Instr.index, asIntOf, run_underlying hu, h0, h1, run_sizeOf hi, part, run_isAgg hag]
            simpa using hex
          | false =>
            rw [hc] at hag hagg
            have hl1 : i.size = 1 := by simpa [hc] using hone
            have hl2 := h4.length
            rw [← hsz, hl1] at hl2
            obtain ⟨u, rfl⟩ := List.length_eq_one_iff.1 hl2
            refine OpOk.ofRun (v := u) (w' := w) (by simp [ho]) ?_ (Post.pure (g := σ.g) A.core (by rw [hr]) (by rw [hr]) (by rw [hr]; exact RA1.of.2 (by rw [hxn, hagg]; exact h4)))
            have hpl : pre.length = n.toNat := by rw [h3, ← hsz, hl1, Nat.mul_one]
            simp [execOp, ho, hv, hix, Instr.index, asIntOf, run_underlying hu, h0, h1, run_sizeOf hi, part, run_isAgg hag, hl1, ← hpl]
        · simp [Tree.eval] at h
      · simp [Tree.eval] at h
    · simp [Tree.eval] at h
  · simp [Tree.eval] at h
end
end Go.Sh
