/- A verified evaluator for the program, part Ra1 of this claim. -/
import Derived.Calls
import Derived.Below
import Derived.Orders
import Derived.Laws.Sem
import Derived.Laws.BytesString
import Derived.Laws.Tables
set_option linter.unusedSimpArgs false
set_option linter.unusedVariables false
/- The evaluator: the loaded program's own code, run on trees of values, with an account of which slices are owned. No memory in it. -/
namespace Go.Proofs.YtfelodpbejdhlaaDoor.Ra
open Go

inductive Step where | idx (i : Nat) | fld (j : Nat)

inductive T where
  | int (n : Int)
  | bool (b : Bool)
  | str (s : ByteArray)
  | sl (es : List T)
  | st (fs : List T)
  | fn (f : Nat) (caps : List T)
instance : Inhabited T := ⟨.int 0⟩

def T.i : T → Int | .int n => n | _ => 0
def T.b : T → Bool | .bool b => b | _ => false
def T.s : T → ByteArray | .str s => s | _ => ⟨#[]⟩
def T.es : T → List T | .sl es => es | _ => []
def T.fs : T → List T | .st fs => fs | _ => []
def T.fid : T → Nat | .fn f _ => f | _ => 0
def T.caps : T → List T | .fn _ c => c | _ => []
def T.fld (t : T) (j : Nat) : T := t.fs.getD j (.int 0)
def T.nth (t : T) (i : Nat) : T := t.es.getD i (.int 0)
def T.get : T → List Step → T
  | t, [] => t
  | t, .idx i :: p => T.get (t.nth i) p
  | t, .fld j :: p => T.get (t.fld j) p
def T.put : T → List Step → T → T
  | _, [], x => x
  | t, .idx i :: p, x => .sl (t.es.set i (T.put (t.nth i) p x))
  | t, .fld j :: p, x => .st (t.fs.set j (T.put (t.fld j) p x))
def T.cut (lo hi : Nat) (t : T) : T := .sl ((t.es.take hi).drop lo)

/- how a part is owned: frozen (never written again, may be shared), owned to the bottom, moved away, or part by part -/
inductive O where | fz | dp | dead | sl (o : O) | st (os : List O)
def O.isFz : O → Bool | .fz => true | _ => false
def O.isDead : O → Bool | .dead => true | _ => false
def O.elem : O → O | .fz => .fz | .dp => .dp | .dead => .dead | .sl o => o | .st _ => .dp
def O.fld : O → Nat → O | .fz, _ => .fz | .dp, _ => .dp | .dead, _ => .dead | .sl _, _ => .dp | .st os, j => os.getD j .dp
def O.own : O → Bool | .dp => true | .sl _ => true | _ => false
def O.get : O → List Step → O
  | o, [] => o
  | o, .idx _ :: p => O.get o.elem p
  | o, .fld j :: p => O.get (o.fld j) p
/-- Nothing on the way to a place has been moved away; where the way goes through a slice it is owned. -/
def O.way : O → List Step → Bool
  | _, [] => true
  | o, .idx _ :: p => o.own && O.way o.elem p
  | .dead, .fld _ :: _ => false
  | o, .fld j :: p => O.way (o.fld j) p
mutual
def O.live : O → Bool
  | .fz => true
  | .dp => true
  | .dead => false
  | .sl o => o.live
  | .st os => O.lives os
def O.lives : List O → Bool
  | [] => true
  | o :: os => o.live && O.lives os
end
mutual
def O.geDp : O → Bool
  | .fz => false
  | .dp => true
  | .dead => false
  | .sl o => o.geDp
  | .st os => O.geDps os
def O.geDps : List O → Bool
  | [] => true
  | o :: os => o.geDp && O.geDps os
end
mutual
/-- What is owned as the second may be taken as owned as the first. -/
def O.le : O → O → Bool
  | .fz, o => o.live
  | .dead, _ => true
  | .dp, o => o.geDp
  | .sl a, o => bif o.own then O.le a o.elem else false
  | .st as, o => match o with
    | .st bs => O.les as bs
    | _ => false
def O.les : List O → List O → Bool
  | [], bs => bs.isEmpty
  | a :: as, bs => match bs with
    | [] => false
    | b :: bs => O.le a b && O.les as bs
end
mutual
def O.eq : O → O → Bool
  | .fz, .fz => true
  | .dp, .dp => true
  | .dead, .dead => true
  | .sl a, .sl b => O.eq a b
  | .st as, .st bs => O.eqs as bs
  | _, _ => false
def O.eqs : List O → List O → Bool
  | [], [] => true
  | a :: as, b :: bs => O.eq a b && O.eqs as bs
  | _, _ => false
end
def O.meet (a b : O) : O := bif O.le a b then a else bif O.le b a then b else .fz

inductive Ty where
  | int (k : IntKind) | bool | str
  | sl (e : Nat) | st (fs : List Nat) | ptr (e : Nat) | cp (e : Nat) | fn (ps rs : List Nat) | bad

inductive AV where
  | undef
  | val (ty : Nat) (t : T)
  | cst (v : Value)
  | nil (ty : Nat)
  | fnc (f : Nat)
  | gd (b : Bool) (a : AV)
  | sref (ty r : Nat) (p : List Step)
  | sub (ty r : Nat) (p : List Step) (lo hi : Nat)
  | pref (ty r : Nat) (p : List Step)
  | fptr (ty : Nat) (t : T)
  | pv (ty : Nat) (a : AV)
  | agg (ty : Nat) (l : List AV)
  | tup (l : List AV)
instance : Inhabited AV := ⟨.undef⟩

/-- A thing that is owned: its type, what it holds, how that is owned, and whether it lies behind a pointer. -/
structure Rt where
  ty : Nat
  t : T
  o : O
  box : Bool

structure St where
  tm : Nat → AV
  rt : Nat → Option Rt

/- how a parameter is handed over: to be read alone; with what it holds, of a slice; with what it points to -/
inductive Mode where | ro | mu (o : O) | bx (o : O)
inductive Ret where | vl (o : O) | bx (o : O)

structure Fi where
  ntmps : Nat
  params : List (Nat × Mode)
  rets : List (Nat × Ret)
  body : Code
  results : List ResultVar
  keep : List (Nat × List Nat)
  weak : List (Nat × O)
  decl : List (Nat × List (List Nat × List Nat))
  pin : List Nat
  clip : Bool
  inl : List (Nat × Nat)

abbrev R := Option (List T)
structure Env where
  ty : Nat → Ty
  sz : Nat → Nat
  flat : Nat → Bool
  nofn : Nat → Bool
  zero : Nat → T
  zc : Nat → List Value
  zok : Nat → Bool
  bt : Nat
  fn : Nat → Option Fi
  /- blocks of which it is known what they hold; functions that are told -/
  tab : List (Nat × List Value)
  told : Nat → Option (List T → R)

/-- The bound on lengths: 2 ^ 32. -/
def LIM : Nat := 4294967296
def parRoot (i : Nat) : Nat := 100000 + i
def resRoot (j : Nat) : Nat := 200000 + j

abbrev CS := List (Nat × AV) × List (Nat × Rt)

def assoc {α : Type} : List (Nat × α) → Nat → Option α
  | [], _ => none
  | (k, v) :: l, n => bif Nat.beq k n then some v else assoc l n
def mem (n : Nat) : List Nat → Bool
  | [] => false
  | k :: l => Nat.beq k n || mem n l
def subset (l m : List Nat) : Bool := l.all fun n => mem n m
def apartL (l m : List Nat) : Bool := l.all fun n => !mem n m

/- ---- what a value names ---- -/
mutual
def AV.refs : AV → List Nat
  | .gd _ a => a.refs
  | .sref _ r _ => [r]
  | .sub _ r _ _ _ => [r]
  | .pref _ r _ => [r]
  | .agg _ l => AV.refsL l
  | .tup l => AV.refsL l
  | .undef => []
  | .val _ _ => []
  | .cst _ => []
  | .nil _ => []
  | .fnc _ => []
  | .fptr _ _ => []
  | .pv _ a => a.refs
def AV.refsL : List AV → List Nat
  | [] => []
  | a :: l => a.refs ++ AV.refsL l
end

def allFld : List Step → Bool
  | [] => true
  | .fld _ :: p => allFld p
  | .idx _ :: _ => false
def noIdx (p : List Step) : Bool := allFld p
/-- Which references die: root by root: 0: all; 1: (a root that lies in a register, written into) all but its fields' slices; 2: (what lies behind a pointer, written into) all but its fields' places. -/
abbrev Ks := List (Nat × Nat)
def diesS (ks : Ks) (r : Nat) (p : List Step) : Bool :=
  match assoc ks r with
  | none => false
  | some 1 => !allFld p
  | some 3 => !allFld p
  | some _ => true
def diesP (ks : Ks) (r : Nat) (p : List Step) : Bool :=
  match assoc ks r with
  | none => false
  | some 2 => !allFld p
  | some 3 => !allFld p
  | some _ => true
mutual
def AV.cut (ks : Ks) : AV → AV
  | .gd b a => .gd b (a.cut ks)
  | .sref ty r p => bif diesS ks r p then .undef else .sref ty r p
  | .sub ty r p lo hi => bif diesS ks r p then .undef else .sub ty r p lo hi
  | .pref ty r p => bif diesP ks r p then .undef else .pref ty r p
  | .agg ty l => .agg ty (AV.cutL ks l)
  | .tup l => .tup (AV.cutL ks l)
  | .undef => .undef
  | .val ty t => .val ty t
  | .cst v => .cst v
  | .nil ty => .nil ty
  | .fnc f => .fnc f
  | .fptr ty t => .fptr ty t
  | .pv ty a => .pv ty (a.cut ks)
def AV.cutL (ks : Ks) : List AV → List AV
  | [] => []
  | a :: l => a.cut ks :: AV.cutL ks l
end

/- ---- values out of operands ---- -/
def constT : Ty → Value → Option T
  | .int k, .int k' n => bif decide (k = k') then some (.int n) else none
  | .bool, .bool b => some (.bool b)
  | .str, .string s => some (.str s)
  | .sl _, .slice none 0 0 => some (.sl [])
  | _, _ => none
/-- The types of a function, as a closure of it over caps shows them: parameters ahead of the captured ones, results. -/
def fnFits (E : Env) (f : Nat) (caps : List Nat) (ps rs : List Nat) : Bool :=
  match E.fn f with
  | none => false
  | some fi => fi.params.all (fun p => match p.2 with | .ro => true | _ => false) && decide (fi.params.map (·.1) = ps ++ caps) && (decide (fi.rets.map (·.1) = rs) && fi.rets.all fun r => match r.2 with | .vl o => o.live | .bx _ => false)
mutual
/-- What a value reads as, of its type; what it names of roots is read where they hold it. -/
def sn (E : Env) (look : Nat → Option Rt) (ty : Nat) : AV → Option T
  | .val ty' t => bif Nat.beq ty' ty then some t else none
  | .cst v => constT (E.ty ty) v
  | .nil ty' => bif Nat.beq ty' ty then some (.sl []) else none
  | .fnc f => match E.ty ty with
    | .fn ps rs => bif fnFits E f [] ps rs then some (.fn f []) else none
    | _ => none
  | .sref ty' r p => match look r with
    | some R => bif Nat.beq ty' ty && (R.o.get p).live then some (R.t.get p) else none
    | none => none
  | .sub ty' r p lo hi => match look r with
    | some R => bif Nat.beq ty' ty && (R.o.get p).live then some ((R.t.get p).cut lo hi) else none
    | none => none
  | .agg ty' l => match E.ty ty with
    | .st fs => bif Nat.beq ty' ty then (snL E look fs l).map .st else none
    | _ => none
  | .pv ty' a => match E.ty ty with
    | .cp e => bif Nat.beq e ty' then sn E look e a else none
    | _ => none
  | _ => none
def snL (E : Env) (look : Nat → Option Rt) : List Nat → List AV → Option (List T)
  | [], [] => some []
  | f :: fs, a :: l => match sn E look f a, snL E look fs l with
    | some t, some ts => some (t :: ts)
    | _, _ => none
  | _, _ => none
end
def noRoot (_ : Nat) : Option Rt := none
/-- A plain value of a type, with no root in it. -/
def vt (E : Env) (ty : Nat) (a : AV) : Option T := sn E noRoot ty a

structure Taken where
  t : T
  o : O
  mv : List (Nat × List Step)
mutual
/-- A value, taken to be put elsewhere: what it holds, how that is owned, and from where it is moved. -/
def take (E : Env) (look : Nat → Option Rt) (ty : Nat) : AV → Option Taken
  | .sref ty' r p => match look r with
    | some R => bif Nat.beq ty' ty && ((R.o.get p).own && (R.o.get p).live && noIdx p) then some ⟨R.t.get p, R.o.get p, [(r, p)]⟩ else none
    | none => none
  | .sub ty' r p lo hi => match look r with
    | some R => bif Nat.beq ty' ty && ((R.o.get p).own && (R.o.get p).live && noIdx p) then some ⟨(R.t.get p).cut lo hi, R.o.get p, [(r, p)]⟩ else none
    | none => none
  | .nil ty' => bif Nat.beq ty' ty then some ⟨.sl [], .dp, []⟩ else none
  | .agg ty' l => match E.ty ty with
    | .st fs => bif Nat.beq ty' ty then match takeL E look fs l with
        | some (ts, os, mv) => some ⟨.st ts, .st os, mv⟩
        | none => none
      else none
    | _ => none
  | .val ty' t => bif Nat.beq ty' ty then some ⟨t, bif E.flat ty then .dp else .fz, []⟩ else none
  | .cst v => match constT (E.ty ty) v with
    | some t => some ⟨t, .dp, []⟩
    | none => none
  | _ => none
def takeL (E : Env) (look : Nat → Option Rt) : List Nat → List AV → Option (List T × List O × List (Nat × List Step))
  | [], [] => some ([], [], [])
  | f :: fs, a :: l => match take E look f a, takeL E look fs l with
    | some x, some (ts, os, mv) => some (x.t :: ts, x.o :: os, x.mv ++ mv)
    | _, _ => none
  | _, _ => none
end
def stepEq : Step → Step → Bool
  | .fld i, .fld j => Nat.beq i j
  | .idx _, .idx _ => true
  | _, _ => false
/-- Two places of one root that share nothing. -/
def split : List Step → List Step → Bool
  | .fld i :: p, .fld j :: q => bif Nat.beq i j then split p q else true
  | _, _ => false
def mvOk : List (Nat × List Step) → Bool
  | [] => true
  | (r, p) :: l => (l.all fun (r', q) => !Nat.beq r r' || split p q) && mvOk l
/-- How a root is owned when a part of it, field by field, turns. -/
def O.set (E : Env) : Nat → O → List Step → O → O
  | _, _, [], x => x
  | ty, o, .fld j :: p, x => match E.ty ty with
    | .st fs => .st ((List.range fs.length).map fun k => bif Nat.beq k j then O.set E (fs.getD j 0) (o.fld j) p x else o.fld k)
    | _ => .dead
  | ty, o, .idx _ :: p, x => match E.ty ty with
    | .sl e => .sl (O.set E e o.elem p x)
    | _ => .dead
def moved (E : Env) (mv : List (Nat × List Step)) (r : Nat) (R : Rt) : Option Rt :=
  mv.foldl (fun R? (r', p) => bif Nat.beq r' r then (match R?, p with
    | some R, _ :: _ => some { R with o := O.set E R.ty R.o p .dead }
    | some R, [] => bif R.box then some { R with o := .dead } else none
    | none, _ => none) else R?) (some R)
abbrev Wr := List (Nat × Option Rt)
def rootsOf (mv : List (Nat × List Step)) : List Nat := (mv.map (·.1)).eraseDups
def movedAll (E : Env) (look : Nat → Option Rt) (mv : List (Nat × List Step)) : Wr :=
  (rootsOf mv).map fun r => (r, (look r).bind (moved E mv r))
/-- What dies by moves. -/
def killMv (look : Nat → Option Rt) (mv : List (Nat × List Step)) : Ks :=
  mv.map fun (r, p) => (r, bif p.isEmpty then (match look r with | some R => bif R.box then 2 else 0 | none => 0) else (match look r with | some R => bif R.box then 2 else 1 | none => 0))

mutual
/-- A value read from a place of a root. -/
def view (E : Env) (n : Nat) (ty : Nat) (t : T) (o : O) (r : Nat) (p : List Step) : AV :=
  match n with
  | 0 => .undef
  | n + 1 => bif E.flat ty || o.isFz then .val ty t else bif o.isDead then .undef else match E.ty ty with
      | .sl _ => bif o.own then .sref ty r p else .undef
      | .st fs => bif Nat.beq (views E n fs 0 t o r p).length fs.length then .agg ty (views E n fs 0 t o r p) else .undef
      | _ => .undef
def views (E : Env) (n : Nat) (fs : List Nat) (j : Nat) (t : T) (o : O) (r : Nat) (p : List Step) : List AV :=
  match n with
  | 0 => []
  | n + 1 => match fs with
    | [] => []
    | f :: fs => view E n f (t.fld j) (o.fld j) r (p ++ [.fld j]) :: views E n fs (j + 1) t o r p
end
end Go.Proofs.YtfelodpbejdhlaaDoor.Ra
/- The evaluator, second part: one operation; a region; a function. -/
namespace Go.Proofs.YtfelodpbejdhlaaDoor.Ra
open Go

/-- What an operation does: the value it yields, the roots that it lays, turns or takes away, the references that die. -/
structure Upd where
  av : AV
  wr : Wr
  ks : Ks
/-- 'pre': what must hold (else the run may panic); 'g': whether a call is made at all. -/
structure Eff where
  pre : Bool
  g : Bool
  req : Option (Nat × List T)
  ret : List T → Upd
def one (pre : Bool) (av : AV) : Option Eff := some ⟨pre, true, none, fun _ => ⟨av, [], []⟩⟩

def strip : AV → Bool × AV
  | .gd b a => (b, a)
  | a => (true, a)
def opd (st : St) : Operand → AV
  | .tmp t => st.tm t
  | .const v => .cst v
  | .func f => .fnc f
  | .global _ => .undef

def binI (op : BinOp) (k : IntKind) (x y : Int) : Option (Bool × (Bool ⊕ Int)) :=
  match op with
  | .add => some (true, .inr (k.wrap (x + y)))
  | .sub => some (true, .inr (k.wrap (x - y)))
  | .mul => some (true, .inr (k.wrap (x * y)))
  | .quo => some (!(y == 0), .inr (k.wrap (x.tdiv y)))
  | .rem => some (!(y == 0), .inr (x.tmod y))
  | .and => some (true, .inr (k.wrap (BitVec.ofInt k.bits x &&& BitVec.ofInt k.bits y).toNat))
  | .or => some (true, .inr (k.wrap (BitVec.ofInt k.bits x ||| BitVec.ofInt k.bits y).toNat))
  | .xor => some (true, .inr (k.wrap (BitVec.ofInt k.bits x ^^^ BitVec.ofInt k.bits y).toNat))
  | .andNot => some (true, .inr (k.wrap (BitVec.ofInt k.bits x &&& ~~~ BitVec.ofInt k.bits y).toNat))
  | .eql => some (true, .inl (x == y))
  | .neq => some (true, .inl (x != y))
  | .lss => some (true, .inl (decide (x < y)))
  | .leq => some (true, .inl (decide (x ≤ y)))
  | .gtr => some (true, .inl (decide (x > y)))
  | .geq => some (true, .inl (decide (x ≥ y)))
  | _ => none
def binS (op : BinOp) (x y : ByteArray) : Option (Bool × (Bool ⊕ ByteArray)) :=
  match op with
  | .add => some (decide (x.size + y.size ≤ LIM), .inr (x ++ y))
  | .eql => some (true, .inl (x.toList == y.toList))
  | .neq => some (true, .inl (!(x.toList == y.toList)))
  | .lss => some (true, .inl (Op.bytesLess x.toList y.toList))
  | .leq => some (true, .inl (Op.bytesLess x.toList y.toList || x.toList == y.toList))
  | .gtr => some (true, .inl (!(Op.bytesLess x.toList y.toList || x.toList == y.toList)))
  | .geq => some (true, .inl (!(Op.bytesLess x.toList y.toList)))
  | _ => none
/-- A type that the evaluator serves. -/
def okTy (E : Env) (t : Nat) : Bool := match E.ty t with | .bad => false | .cp _ => false | _ => true
def boolTy (E : Env) (ty : Nat) : Bool := match E.ty ty with | .bool => true | _ => false
def intTy (E : Env) (ty : Nat) : Bool := match E.ty ty with | .int _ => true | _ => false
def strTy (E : Env) (ty : Nat) : Bool := match E.ty ty with | .str => true | _ => false
def binOpE (E : Env) (op : BinOp) (rty xty : Nat) (b : Bool) (x y : AV) : Option Eff :=
  match vt E xty x, vt E xty y with
  | some x, some y => match E.ty xty with
    | .int k => match binI op k x.i y.i with
      | some (pre, .inl v) => bif boolTy E rty then one (b && pre) (.val rty (.bool v)) else none
      | some (pre, .inr v) => bif Nat.beq rty xty then one (b && pre) (.val rty (.int v)) else none
      | none => none
    | .str => match binS op x.s y.s with
      | some (pre, .inl v) => bif boolTy E rty then one (b && pre) (.val rty (.bool v)) else none
      | some (pre, .inr v) => bif Nat.beq rty xty then one (b && pre) (.val rty (.str v)) else none
      | none => none
    | .bool => bif boolTy E rty then match op with
        | .eql => one b (.val rty (.bool (x.b == y.b)))
        | .neq => one b (.val rty (.bool (!(x.b == y.b))))
        | _ => none
      else none
    | _ => none
  | _, _ => none

/-- The zero of a type, its slices not yet anywhere. -/
def zav (E : Env) (n : Nat) (ty : Nat) : AV :=
  match n with
  | 0 => .undef
  | n + 1 => bif !(E.zok ty) then .undef else bif E.flat ty then .val ty (E.zero ty) else match E.ty ty with
    | .sl _ => .nil ty
    | .st fs => .agg ty (fs.map (zav E n))
    | _ => .undef
def plain : AV → Bool
  | .val _ _ => true
  | .cst _ => true
  | _ => false
def mkAgg (E : Env) (ty : Nat) (l : List AV) : AV :=
  bif l.all plain then (match vt E ty (.agg ty l) with | some t => .val ty t | none => .undef) else .agg ty l

/-- What an owned root is laid as, by its own word or weaker. -/
def weakTo (fi : Fi) (E : Env) (d : Nat) (R : Rt) : Option Rt :=
  match assoc fi.weak d with
  | none => some R
  | some o => bif O.le o R.o then some { R with o := o } else none
/-- A new root and the value that names it. -/
def lay (fi : Fi) (E : Env) (pre : Bool) (d : Nat) (R : Rt) (mvs : Wr) (ks : Ks) : Option Eff :=
  match weakTo fi E d R with
  | none => none
  | some R => bif R.o.isFz && !R.box then some ⟨pre, true, none, fun _ => ⟨.val R.ty R.t, (d, none) :: mvs, (d, 0) :: ks⟩⟩
    else some ⟨pre, true, none, fun _ => ⟨bif R.box then .pref R.ty d [] else .sref R.ty d [], (d, some R) :: mvs, (d, 0) :: ks⟩⟩

def idxE (E : Env) (look : Nat → Option Rt) (ty e : Nat) (b : Bool) (x : AV) (i : Int) : Option Eff :=
  match x with
  | .val ty' t => bif Nat.beq ty ty' then one (b && (decide (0 ≤ i) && decide (i.toNat < t.es.length))) (.fptr e (t.nth i.toNat)) else none
  | .sref ty' r p => match look r with
    | some R => bif Nat.beq ty ty' && (R.o.get p).own then one (b && (decide (0 ≤ i) && decide (i.toNat < (R.t.get p).es.length))) (.pref e r (p ++ [.idx i.toNat])) else none
    | none => none
  | .sub ty' r p lo hi => match look r with
    | some R => bif Nat.beq ty ty' && (R.o.get p).own then one (b && (decide (0 ≤ i) && decide (i.toNat < hi - lo))) (.pref e r (p ++ [.idx (lo + i.toNat)])) else none
    | none => none
  | _ => none
/-- A slice's length, where it is one. -/
def lenE (E : Env) (look : Nat → Option Rt) (ty : Nat) (x : AV) : Option Nat :=
  match E.ty ty with
  | .str => (vt E ty x).map fun t => t.s.size
  | .sl _ => match x with
    | .sub ty' _ _ lo hi => bif Nat.beq ty ty' then some (hi - lo) else none
    | x => (sn E look ty x).map fun t => t.es.length
  | _ => none
def bnd (E : Env) (d : Nat) : Option AV → Option (Bool × Int)
  | none => some (true, d)
  | some (.val ty t) => bif intTy E ty then some (true, t.i) else none
  | some (.cst (.int _ n)) => some (true, n)
  | some (.gd b (.val ty t)) => bif intTy E ty then some (b, t.i) else none
  | _ => none
def sliceE (E : Env) (look : Nat → Option Rt) (ty : Nat) (b : Bool) (x : AV) (lo hi mx : Option AV) : Option Eff :=
  match lenE E look ty x with
  | none => none
  | some n => match bnd E 0 lo, bnd E n hi, bnd E n mx with
    | some (b0, l), some (b1, h), some (b2, m) =>
      let pre := b && (b0 && (b1 && (b2 && (decide (0 ≤ l) && (decide (l ≤ h) && (decide (h ≤ m) && decide (m ≤ n)))))))
      match E.ty ty with
      | .str => bif mx.isNone then match vt E ty x with
          | some t => one pre (.val ty (.str (t.s.extract l.toNat h.toNat)))
          | none => none
        else none
      | .sl _ => bif mx.isSome && hi.isNone then none else match x with
        | .val ty' t => bif Nat.beq ty ty' then one pre (.val ty (t.cut l.toNat h.toNat)) else none
        | .nil ty' => bif Nat.beq ty ty' then one pre (.nil ty) else none
        | .sref ty' r p => match look r with
          | some R => bif Nat.beq ty ty' && (R.o.get p).own then one pre (.sub ty r p l.toNat h.toNat) else none
          | none => none
        | .sub ty' r p lo' _ => bif Nat.beq ty ty' then one pre (.sub ty r p (lo' + l.toNat) (lo' + h.toNat)) else none
        | _ => none
      | _ => none
    | _, _, _ => none

def isSl (E : Env) (ty : Nat) : Option Nat := match E.ty ty with | .sl e => some e | _ => none
/-- The elements of what is appended: copied where they own nothing, else moved. -/
def source (E : Env) (look : Nat → Option Rt) (ty e : Nat) (x : AV) : Option Taken :=
  match x with
  | .sref ty' r p => match look r with
    | some R => bif Nat.beq ty ty' && (R.o.get p).live then
        (bif E.flat e then some ⟨R.t.get p, .dp, []⟩ else bif (R.o.get p).elem.isFz then some ⟨R.t.get p, .fz, []⟩
          else bif noIdx p && (R.o.get p).own then some ⟨R.t.get p, (R.o.get p).elem, [(r, p)]⟩ else none)
      else none
    | none => none
  | .sub ty' r p lo hi => match look r with
    | some R => bif Nat.beq ty ty' && (R.o.get p).live then
        (bif E.flat e then some ⟨(R.t.get p).cut lo hi, .dp, []⟩ else bif (R.o.get p).elem.isFz then some ⟨(R.t.get p).cut lo hi, .fz, []⟩
          else bif noIdx p && (R.o.get p).own then some ⟨(R.t.get p).cut lo hi, (R.o.get p).elem, [(r, p)]⟩ else none)
      else none
    | none => none
  | x => (vt E ty x).map fun t => ⟨t, bif E.flat e then .dp else .fz, []⟩
def appendE (fi : Fi) (E : Env) (look : Nat → Option Rt) (d ty : Nat) (b : Bool) (s x : AV) : Option Eff :=
  match isSl E ty with
  | none => none
  | some e => match take E look ty s, source E look ty e x with
    | some a, some c =>
      bif a.o.own && (mvOk (a.mv ++ c.mv) && E.zok e) then
        lay fi E (b && decide (a.t.es.length + c.t.es.length ≤ LIM)) d ⟨ty, .sl (a.t.es ++ c.t.es), .sl (O.meet a.o.elem c.o), false⟩
          (movedAll E look (a.mv ++ c.mv)) (killMv look (a.mv ++ c.mv))
      else none
    | _, _ => none

def distinct : List Nat → Bool
  | [] => true
  | n :: l => !mem n l && distinct l
/-- A value that is of a type, by its make. -/
def shapeE (E : Env) (ty : Nat) : AV → Bool
  | .val ty' _ => Nat.beq ty' ty
  | .cst v => (constT (E.ty ty) v).isSome
  | .nil ty' => Nat.beq ty' ty
  | .sref ty' _ _ => Nat.beq ty' ty
  | .sub ty' _ _ _ _ => Nat.beq ty' ty
  | .agg ty' _ => Nat.beq ty' ty
  | _ => false
def findPart (l : List (Nat × AV)) (j : Nat) : Option AV := assoc l j
/-- What a part is built of: (all preconditions, the parts). -/
def parts (ρ : Operand → AV) (ps : Array (Nat × Operand)) : Bool × List (Nat × AV) :=
  (ps.toList.all fun x => (strip (ρ x.2)).1, ps.toList.map fun x => (x.1, (strip (ρ x.2)).2))
def buildE (E : Env) (ty : Nat) (b : Bool) (ps : List (Nat × AV)) : Option Eff :=
  match E.ty ty with
  | .st fs => bif E.zok ty && (distinct (ps.map (·.1)) && (ps.all fun x => decide (x.1 < fs.length) && shapeE E (fs.getD x.1 0) x.2)) then
      one b (mkAgg E ty (((List.range fs.length).zip fs).map fun x => (findPart ps x.1).getD (zav E 8 x.2)))
    else none
  | _ => none
def takes (E : Env) (look : Nat → Option Rt) (e : Nat) : List AV → Option (List T × List O × List (Nat × List Step))
  | [] => some ([], [], [])
  | a :: l => match take E look e a, takes E look e l with
    | some x, some (ts, os, mv) => some (x.t :: ts, x.o :: os, x.mv ++ mv)
    | _, _ => none
def meets0 : List O → O
  | [] => .dp
  | o :: os => O.meet o (meets0 os)
def meets (os : List O) : O := bif os.all (O.le (meets0 os)) then meets0 os else .fz
def buildSliceE (fi : Fi) (E : Env) (look : Nat → Option Rt) (d ty len : Nat) (b : Bool) (ps : List (Nat × AV)) : Option Eff :=
  match isSl E ty with
  | none => none
  | some e => bif decide (len * E.sz e ≤ 1000000) && (E.zok e && (distinct (ps.map (·.1)) && ps.all fun x => decide (x.1 < len) && shapeE E e x.2)) then
      match takes E look e ((List.range len).map fun j => (findPart ps j).getD (zav E 8 e)) with
      | some (ts, os, mv) => bif mvOk mv then
          lay fi E b d ⟨ty, .sl ts, .sl (meets os), false⟩ (movedAll E look mv) (killMv look mv)
        else none
      | none => none
    else none

/-- A store: what is put, and how the root is owned behind it. -/
def storeE (E : Env) (look : Nat → Option Rt) (ty : Nat) (b : Bool) (a x : AV) : Option Eff :=
  match a with
  | .pref ty' r p => match look r, take E look ty x with
    | some R, some c => bif Nat.beq ty ty' && (mvOk c.mv && R.o.way p) then
        (bif E.flat ty then (bif (R.o.get p).live && c.mv.isEmpty then some ⟨b, true, none, fun _ => ⟨.undef, [(r, some { R with t := R.t.put p c.t })], []⟩⟩ else none)
         else match (bif mem r (rootsOf c.mv) then moved E c.mv r R else some R) with
          | none => none
          | some R1 => bif R1.o.way p then
            (bif noIdx p then
              some ⟨b, true, none, fun _ => ⟨.undef, (r, some { R1 with t := R1.t.put p c.t, o := O.set E R1.ty R1.o p c.o }) :: movedAll E look c.mv, (r, bif R.box then 2 else 1) :: killMv look c.mv⟩⟩
            else bif (R1.o.get p).live && O.le (R1.o.get p) c.o then
              some ⟨b, true, none, fun _ => ⟨.undef, (r, some { R1 with t := R1.t.put p c.t }) :: movedAll E look c.mv, (r, bif R.box then 2 else 1) :: killMv look c.mv⟩⟩
            else none)
            else none)
      else none
    | _, _ => none
  | _ => none

def convE (E : Env) (look : Nat → Option Rt) (src dst : Nat) (b : Bool) (x : AV) : Option Eff :=
  match E.ty src, E.ty dst with
  | .int _, .int k => (vt E src x).bind fun t => one b (.val dst (.int (k.wrap t.i)))
  | .str, .str => (vt E src x).bind fun t => one b (.val dst (.str t.s))
  | .sl e, .str => match E.ty e with
    | .int .u8 => (sn E look src x).bind fun t => one b (.val dst (.str ⟨(t.es.map fun c => UInt8.ofNat c.i.toNat).toArray⟩))
    | _ => none
  | _, _ => none

/- ---- a call ---- -/
inductive Arg where | ro | mu (r : Nat) (p : List Step) (o : O) | bx (r : Nat) (o : O)
/-- The arguments: what is handed to the evaluator, and where what is turned comes back. -/
def argsE (E : Env) (look : Nat → Option Rt) : List (Nat × Mode) → List AV → Option (List T × List Arg)
  | [], [] => some ([], [])
  | (ty, m) :: ps, a :: l => match argsE E look ps l with
    | none => none
    | some (ts, as) => match m with
      | .ro => match sn E look ty a with
        | some t => some (t :: ts, .ro :: as)
        | none => none
      | .mu o => match a with
        | .sref ty' r p => match look r with
          | some R => bif Nat.beq ty ty' && ((R.o.get p).own && (O.le o (R.o.get p) && ((noIdx p || O.eq (R.o.get p) o) && R.o.way p))) then some (R.t.get p :: ts, .mu r p o :: as) else none
          | none => none
        | _ => none
      | .bx o => match a with
        | .pref ty' r [] => match look r with
          | some R => bif (match E.ty ty with | .ptr e => Nat.beq e ty' | _ => false) && R.box && O.le o R.o then some (R.t :: ts, .bx r o :: as) else none
          | none => none
        | _ => none
  | _, _ => none
def muRoots (as : List Arg) : List Nat := as.filterMap fun | .mu r _ _ => some r | .bx r _ => some r | .ro => none
def roRefs : List Arg → List AV → List Nat
  | .ro :: as, a :: l => a.refs ++ roRefs as l
  | _ :: as, _ :: l => roRefs as l
  | _, _ => []
/-- What the arguments that were turned hold behind the call. -/
def backE (E : Env) (look : Nat → Option Rt) : List Arg → List T → Wr
  | .mu r p o :: as, ts => (r, (look r).map fun R => { R with t := R.t.put p (ts.headD (.int 0)), o := bif noIdx p then O.set E R.ty R.o p o else R.o }) :: backE E look as ts.tail
  | .bx r o :: as, ts => (r, (look r).map fun R => { R with t := ts.headD (.int 0), o := o }) :: backE E look as ts.tail
  | .ro :: as, ts => backE E look as ts
  | [], _ => []
def isBx : List Arg → Nat → Bool
  | [], _ => false
  | .bx r' _ :: l, r => Nat.beq r' r || isBx l r
  | .mu _ _ _ :: l, r => isBx l r
  | .ro :: l, r => isBx l r
def backKs (look : Nat → Option Rt) (as : List Arg) : Ks :=
  (muRoots as).map fun r => (r, match look r with | some R => bif R.box then (bif isBx as r then 2 else 3) else 1 | none => 0)
def retRoot (d j : Nat) : Nat := d + 1000 * j
def boxed (E : Env) (ty : Nat) : Nat := match E.ty ty with | .ptr e => e | _ => 0
def resRt (E : Env) (d j : Nat) (ty : Nat) (t : T) : Ret → Nat × Option Rt
  | .vl o => (retRoot d j, bif E.flat ty || o.isFz then none else some ⟨ty, t, o, false⟩)
  | .bx o => (retRoot d j, some ⟨boxed E ty, t, o, true⟩)
def resAv (E : Env) (d j : Nat) (ty : Nat) (t : T) : Ret → AV
  | .vl o => view E 9 ty t o (retRoot d j) []
  | .bx _ => .pref (boxed E ty) (retRoot d j) []
def resWr (E : Env) (d : Nat) : Nat → List (Nat × Ret) → List T → Wr
  | j, (ty, k) :: l, ts => resRt E d j ty (ts.headD (.int 0)) k :: resWr E d (j + 1) l ts.tail
  | _, [], _ => []
def resAvs (E : Env) (d : Nat) : Nat → List (Nat × Ret) → List T → List AV
  | j, (ty, k) :: l, ts => resAv E d j ty (ts.headD (.int 0)) k :: resAvs E d (j + 1) l ts.tail
  | _, [], _ => []
def resKs (d : Nat) : Nat → List (Nat × Ret) → Ks
  | j, _ :: l => (retRoot d j, 0) :: resKs d (j + 1) l
  | _, [] => []
/-- What shares nothing with what was handed over to be read. -/
def deep (E : Env) (ty : Nat) (o : O) : Bool := E.flat ty || (o.geDp && E.nofn ty)
def deepR (E : Env) (x : Nat × Ret) : Bool := match x.2 with | .vl o => deep E x.1 o | .bx o => deep E (boxed E x.1) o
def deepM (E : Env) (x : Nat × Mode) : Bool := match x.2 with | .ro => true | .mu o => deep E x.1 o | .bx o => deep E (boxed E x.1) o
def fineR (E : Env) (x : Nat × Ret) : Bool := match x.2 with | .vl o => o.live && okTy E x.1 | .bx o => o.live
def fineM (x : Nat × Mode) : Bool := match x.2 with | .ro => true | .mu o => o.live && o.own | .bx o => o.live
def callE (E : Env) (look : Nat → Option Rt) (d : Nat) (b : Bool) (f : Nat) (rs : List (Nat × Ret)) (ps : List (Nat × Mode)) (as : List AV) : Option Eff :=
  match argsE E look ps as with
  | none => none
  | some (ts, args) =>
    bif distinct (muRoots args) && apartL (muRoots args) ((resKs d 0 rs).map (·.1)) && apartL (muRoots args) (roRefs args as) && ((rs.all (deepR E) && ps.all (deepM E)) || (roRefs args as).isEmpty) && (rs.all (fineR E) && (ps.all fineM && (decide (d < 1000) && (decide (rs.length < 90) && decide (ps.length < 1000))))) then
      some ⟨b, true, some (f, ts), fun res =>
        ⟨match rs with
          | [(ty, k)] => resAv E d 0 ty (res.headD (.int 0)) k
          | _ => .tup (resAvs E d 0 rs res),
         backE E look args (res.drop rs.length) ++ resWr E d 0 rs res, backKs look args ++ resKs d 0 rs⟩⟩
    else none
/-- A slice without spare places. -/
def clipAv (look : Nat → Option Rt) (n : Nat) : AV → Option AV
  | .val ty t => some (.val ty t)
  | .nil ty => some (.nil ty)
  | .sref ty r p => match look r with
    | some R => bif (R.o.get p).own then some (.sub ty r p 0 n) else none
    | none => none
  | .sub ty r p lo hi => some (.sub ty r p lo hi)
  | _ => none
def clipE (E : Env) (look : Nat → Option Rt) (b : Bool) (f : Nat) (ps : List (Nat × Mode)) (as : List AV) : Option Eff :=
  match ps, as with
  | [(ty, _)], [a] => match isSl E ty, sn E look ty a with
    | some _, some t => match clipAv look t.es.length a with
      | some av => some ⟨b, true, some (f, [t]), fun _ => ⟨av, [], []⟩⟩
      | none => none
    | _, _ => none
  | _, _ => none
/-- A call of a value that is a function: nothing is turned by it, and what comes back is not owned. -/
def callV (E : Env) (look : Nat → Option Rt) (d : Nat) (b : Bool) (fty : Nat) (x : AV) (as : List AV) : Option Eff :=
  match x, E.ty fty with
  | .val ty' t, .fn ps rs => bif Nat.beq fty ty' && rs.all E.flat then
      match argsE E look (ps.map fun p => (p, Mode.ro)) as with
      | none => none
      | some (ts, _) => bif decide (d < 1000) then
          some ⟨b, true, some (t.fid, ts ++ t.caps), fun res =>
            ⟨match rs with
              | [ty] => .val ty (res.headD (.int 0))
              | _ => .undef, [], []⟩⟩
        else none
    else none
  | _, _ => none
end Go.Proofs.YtfelodpbejdhlaaDoor.Ra
/- The evaluator, third part: the operations of a region, the code between two heads of loops, a function. -/
namespace Go.Proofs.YtfelodpbejdhlaaDoor.Ra
open Go

def modeRo (ps : List (Nat × Mode)) : Bool := ps.all fun p => match p.2 with | .ro => true | _ => false
def modes (tys : List Nat) (ps : List (Nat × Mode)) : Bool := decide (ps.map (·.1) = tys)

def loadE (E : Env) (look : Nat → Option Rt) (t : Nat) (b : Bool) (x : AV) : Option Eff :=
  match x with
  | .pref ty r p => match look r with
    | some R => bif Nat.beq ty t && (R.o.get p).live then one b (view E 9 t (R.t.get p) (R.o.get p) r p) else none
    | none => none
  | .fptr ty v => bif Nat.beq ty t then one b (.val t v) else none
  | .val ty v => match E.ty ty with
    | .cp e => bif Nat.beq e t then one b (.val t v) else none
    | _ => none
  | _ => none
def assignT (fi : Fi) (E : Env) (look : Nat → Option Rt) (d ty : Nat) (b : Bool) (x : AV) : Option Eff :=
  match take E look ty x with
  | some c => bif mvOk c.mv then lay fi E b d ⟨ty, c.t, c.o, false⟩ (movedAll E look c.mv) (killMv look c.mv) else none
  | none => none
/-- A slice that is owned gets a root of its own name; a constant is told with its type. -/
def assignE (fi : Fi) (E : Env) (look : Nat → Option Rt) (d ty : Nat) (b : Bool) (x : AV) : Option Eff :=
  match x with
  | .sref ty' r [] => bif Nat.beq r d || mem d fi.pin then one b (.sref ty' r []) else bif (isSl E ty).isSome then assignT fi E look d ty b (.sref ty' r []) else none
  | .sub ty' r [] lo hi => bif (isSl E ty).isSome then assignT fi E look d ty b (.sub ty' r [] lo hi) else none
  | .nil ty' => bif (isSl E ty).isSome then assignT fi E look d ty b (.nil ty') else none
  | .cst v => match constT (E.ty ty) v with
    | some t => bif (isSl E ty).isSome then assignT fi E look d ty b (.cst v) else one b (.val ty t)
    | none => one b (.cst v)
  | a => one b a
def pickE (E : Env) (qc qa qb : Bool) (c a b : AV) : Option Eff :=
  match c with
  | .val tyc tc => bif boolTy E tyc then match a, b with
      | .val ty ta, .val ty' tb => bif Nat.beq ty ty' then one (qc && (bif tc.b then qa else qb)) (.val ty (bif tc.b then ta else tb)) else none
      | .val ty ta, .cst v => match constT (E.ty ty) v with
        | some tb => one (qc && (bif tc.b then qa else qb)) (.val ty (bif tc.b then ta else tb))
        | none => none
      | .cst v, .val ty tb => match constT (E.ty ty) v with
        | some ta => one (qc && (bif tc.b then qa else qb)) (.val ty (bif tc.b then ta else tb))
        | none => none
      | _, _ => none
    else none
  | _ => none
def boxE (fi : Fi) (E : Env) (look : Nat → Option Rt) (d e : Nat) (b : Bool) (x : AV) : Option Eff :=
  match take E look e x with
  | some c => bif mvOk c.mv then lay fi E b d ⟨e, c.t, c.o, true⟩ (movedAll E look c.mv) (killMv look c.mv) else none
  | none => none
/-- What is boxed and never turned again: the block is frozen. -/
def pinE (E : Env) (e : Nat) (b : Bool) (x : AV) : Option Eff := bif shapeE E e x then one b (.pv e x) else none
def nilE (b : Bool) (x : AV) : Option Eff :=
  match x with
  | .pref ty r p => one b (.pref ty r p)
  | .fptr ty t => one b (.fptr ty t)
  | _ => none
def unE (E : Env) (op : UnOp) (t : Nat) (b : Bool) (x : AV) : Option Eff :=
  match vt E t x, E.ty t, op with
  | some v, .bool, .not => one b (.val t (.bool (!v.b)))
  | some v, .int k, .neg => one b (.val t (.int (k.wrap (0 - v.i))))
  | _, _, _ => none
def funcE (E : Env) (fty f : Nat) (bare : Bool) (b : Bool) (cs : List AV) : Option Eff :=
  match E.ty fty, E.fn f with
  | .fn ps rs, some g =>
    let cts := (g.params.drop ps.length).map (·.1)
    bif bare && (fnFits E f cts ps rs && decide (cts.length = cs.length)) then match snL E noRoot cts cs with
      | some ts => one b (.val fty (.fn f ts))
      | none => none
    else none
  | _, _ => none
def makeSliceE (fi : Fi) (E : Env) (d t : Nat) (b : Bool) (l c : AV) : Option Eff :=
  match isSl E t, bnd E 0 (some l), bnd E 0 (some c) with
  | some e, some (b0, l'), some (b1, c') => bif !(E.zok e) then none else
      lay fi E (b && (b0 && (b1 && (decide (0 ≤ l') && (decide (l' ≤ c') && decide (c'.toNat ≤ LIM)))))) d ⟨t, .sl (List.replicate l'.toNat (E.zero e)), .dp, false⟩ [] []
  | _, _, _ => none
def fieldAddrE (E : Env) (t j : Nat) (b : Bool) (x : AV) : Option Eff :=
  match E.ty t with
  | .st fs => match x with
    | .pref ty r p => bif Nat.beq ty t && decide (j < fs.length) then one b (.pref (fs.getD j 0) r (p ++ [.fld j])) else none
    | .fptr ty v => bif Nat.beq ty t && decide (j < fs.length) then one b (.fptr (fs.getD j 0) (v.fld j)) else none
    | _ => none
  | _ => none
def fieldE (E : Env) (t j : Nat) (b : Bool) (x : AV) : Option Eff :=
  match E.ty t with
  | .st fs => match x with
    | .val ty v => bif Nat.beq ty t && decide (j < fs.length) then one b (.val (fs.getD j 0) (v.fld j)) else none
    | .agg ty l => bif Nat.beq ty t && decide (j < fs.length) then one b (l.getD j .undef) else none
    | _ => none
  | _ => none
def indexE (E : Env) (rty t : Nat) (b : Bool) (x i : AV) : Option Eff :=
  match E.ty t, vt E t x, bnd E 0 (some i), E.ty rty with
  | .str, some v, some (b', i'), .int .u8 =>
    one (b && (b' && (decide (0 ≤ i') && decide (i'.toNat < v.s.size)))) (.val rty (.int (v.s.data.getD i'.toNat 0).toNat))
  | _, _, _, _ => none
def extractE (j : Nat) (b : Bool) (x : AV) : Option Eff :=
  match x with
  | .tup l => bif decide (j < l.length) then one b (l.getD j .undef) else none
  | _ => none
def lenOp (E : Env) (look : Nat → Option Rt) (rty t : Nat) (b : Bool) (x : AV) : Option Eff :=
  match E.ty rty, lenE E look t x with
  | .int .i64, some n => one b (.val rty (.int n))
  | _, _ => none
def mxE (E : Env) (max : Bool) (rty : Nat) (b : Bool) (x y : AV) : Option Eff :=
  match vt E rty x, vt E rty y with
  | some a, some c => bif intTy E rty then
      one b (.val rty (.int (bif max then (bif decide (a.i < c.i) then c.i else a.i) else (bif decide (c.i < a.i) then c.i else a.i)))) else none
  | _, _ => none

/-- A constant, told with its type. -/
def mvAv (E : Env) (ty : Nat) : AV → AV
  | .cst v => match constT (E.ty ty) v with
    | some t => bif (isSl E ty).isSome then .cst v else .val ty t
    | none => .cst v
  | a => a
/-- What a comparison yields is told as a bool, where the code does not tell its type. -/
def rtyOf (E : Env) (op : BinOp) (ty : Nat) : Nat :=
  match op with
  | .eql => bif boolTy E ty then ty else E.bt
  | .neq => bif boolTy E ty then ty else E.bt
  | .lss => bif boolTy E ty then ty else E.bt
  | .leq => bif boolTy E ty then ty else E.bt
  | .gtr => bif boolTy E ty then ty else E.bt
  | .geq => bif boolTy E ty then ty else E.bt
  | _ => ty
/-- A result that is wanted frozen. -/
def weakR (fi : Fi) (d n : Nat) (rs : List (Nat × Ret)) : List (Nat × Ret) :=
  match assoc fi.weak d, rs with
  | some .fz, [(ty, .vl o)] => bif o.live && decide (n < 1000) then [(ty, .vl .fz)] else rs
  | _, _ => rs
/-- One operation, its operands' values given. -/
def effOp (fi : Fi) (E : Env) (look : Nat → Option Rt) (ρ : Operand → AV) (o : Oper) : Option Eff :=
  let d := o.dst.getD 999
  let s (x : Operand) : AV := (strip (ρ x)).2
  let q (x : Operand) : Bool := (strip (ρ x)).1
  match o.op with
  | .move x => one (q x) (mvAv E o.type (s x))
  | .assign x => assignE fi E look d o.type (q x) (s x)
  | .pick c a b => pickE E (q c) (q a) (q b) (s c) (s a) (s b)
  | .alloc e => bif E.zok e then lay fi E true d ⟨e, E.zero e, .dp, true⟩ [] [] else none
  | .box e x => bif okTy E e then (bif mem d fi.pin then pinE E e (q x) (s x) else boxE fi E look d e (q x) (s x)) else none
  | .build t ps => buildE E t (parts ρ ps).1 (parts ρ ps).2
  | .buildSlice t n ps => buildSliceE fi E look d t n (parts ρ ps).1 (parts ρ ps).2
  | .load t a => bif okTy E t then loadE E look t (q a) (s a) else none
  | .store t a x => bif okTy E t && o.dst.isNone then storeE E look t (q a && q x) (s a) (s x) else none
  | .nilCheck x => nilE (q x) (s x)
  | .binOp op t x y _ => binOpE E op (rtyOf E op o.type) t (q x && q y) (s x) (s y)
  | .unOp op t x => unE E op t (q x) (s x)
  | .convert a b x => convE E look a b (q x) (s x)
  | .makeFunc (.func f) fs cs => funcE E o.type f fs.isEmpty (cs.toList.all q) (cs.toList.map s)
  | .makeSlice t l c => makeSliceE fi E d t (q l && q c) (s l) (s c)
  | .slice t x lo hi mx => sliceE E look t (q x) (s x) (lo.map ρ) (hi.map ρ) (mx.map ρ)
  | .fieldAddr t x j => fieldAddrE E t j (q x) (s x)
  | .field t x j => fieldE E t j (q x) (s x)
  | .indexAddr t x i => match isSl E t, bnd E 0 (some (s i)) with
    | some e, some (b, i') => idxE E look t e (q x && (q i && b)) (s x) i'
    | _, _ => none
  | .index t x i => indexE E o.type t (q x && q i) (s x) (s i)
  | .extract x j => extractE j (q x) (s x)
  | .call c => match c.callee with
    | .builtin .len => match c.args.toList, c.argTypes.toList with
      | [x], [t] => lenOp E look o.type t (q x) (s x)
      | _, _ => none
    | .builtin .append => match c.args.toList, c.argTypes.toList with
      | [x, y], [t, u] => bif Nat.beq t u then appendE fi E look d t (q x && q y) (s x) (s y) else none
      | _, _ => none
    | .builtin .max => match c.args.toList with
      | [x, y] => mxE E true o.type (q x && q y) (s x) (s y)
      | _ => none
    | .builtin .min => match c.args.toList with
      | [x, y] => mxE E false o.type (q x && q y) (s x) (s y)
      | _ => none
    | .value (.func f) => match E.fn f with
      | some g => bif g.clip then clipE E look (c.args.toList.all q) f g.params (c.args.toList.map s) else callE E look d (c.args.toList.all q) f (weakR fi d g.params.length g.rets) g.params (c.args.toList.map s)
      | none => none
    | .value x => match s x with
      | .val ty t => callV E look d (q x && c.args.toList.all q) ty (.val ty t) (c.args.toList.map s)
      | _ => none
    | _ => none
  | _ => none

def condL {α : Type} (g : Bool) : List α → List α
  | [] => []
  | x :: l => bif g then x :: l else []
/-- What only forgets: roots are dropped, with all that names them. -/
def quiet (u : Upd) : Bool := u.wr.all (fun x => x.2.isNone && mem x.1 (u.ks.map (·.1))) && u.ks.all (fun x => Nat.beq x.2 0)
/-- With its guard: where it is not wanted, nothing is done, and its value is none. -/
def guarded (E : Env) (ops : List Oper) (ρ : Operand → AV) (o : Oper) (e : Eff) : Option Eff :=
  match o.guard with
  | none => some e
  | some (j, want) => match (ops[j]?).bind (·.dst) with
    | none => none
    | some t => match strip (ρ (.tmp t)) with
      | (b, .val ty v) => bif boolTy E ty then
          let g := b && (v.b == want)
          some ⟨!g || e.pre, g, e.req, fun res => bif quiet (e.ret res) then ⟨.gd g (e.ret res).av, (e.ret res).wr, (e.ret res).ks⟩ else ⟨.gd g (e.ret res).av, condL g (e.ret res).wr, condL g (e.ret res).ks⟩⟩
        else none
      | _ => none
def applyU (d : Option Nat) (u : Upd) (st : St) : St :=
  ⟨fun t => bif (match d with | some d => Nat.beq t d | none => false) then u.av else bif u.ks.isEmpty then st.tm t else (st.tm t).cut u.ks,
   fun r => match assoc u.wr r with | some x => x | none => st.rt r⟩

def effG (fi : Fi) (E : Env) (ops : List Oper) (look : Nat → Option Rt) (ρ : Operand → AV) (o : Oper) : Option Eff :=
  match effOp fi E look ρ o with
  | none => none
  | some e => bif (match o.dst with | none => true | some d => decide (d < fi.ntmps)) then guarded E ops ρ o e else none

abbrev CallsE := Nat → List T → R
/- A function that hands the slices of a struct to two others, one after the other: its calls stand in its place. -/
def fldOf (ty : Nat) (a : AV) (j : Nat) : AV := match a with
  | .agg ty' l => bif Nat.beq ty' ty then l.getD j .undef else .undef
  | _ => .undef
def aggOf (ty : Nat) (a : AV) : Bool := match a with
  | .agg ty' _ => Nat.beq ty' ty
  | _ => false
def callIn (E : Env) (C : CallsE) (d f : Nat) (as : List AV) (st : St) (K : St → R) : R :=
  match E.fn f with
  | none => none
  | some g => match callE E st.rt d true f g.rets g.params as with
    | none => none
    | some e => match e.req with
      | none => none
      | some (f', ts) => match C f' ts with
        | some res => K (applyU (some d) (e.ret res) st)
        | none => none
def inlOf (E : Env) (o : Oper) : Option (Nat × List (Nat × Nat) × Operand × Operand) :=
  match o.op with
  | .call c => match c.callee, c.args.toList with
    | .value (.func f), [x, k] => match E.fn f with
      | some g => match g.inl, g.params with
        | [], _ => none
        | l, (ty, _) :: _ => some (ty, l, x, k)
        | _, _ => none
      | none => none
    | _, _ => none
  | _ => none
def evalInl (fi : Fi) (E : Env) (C : CallsE) (o : Oper) (ty : Nat) (l : List (Nat × Nat)) (x k : Operand) (st : St) (K : St → R) : R :=
  match o.dst, o.guard, x, l with
  | some d, none, .tmp t, [(f1, j1), (f2, j2)] =>
    bif decide (d < fi.ntmps) && (!Nat.beq t d && aggOf ty (st.tm t)) then
      callIn E C d f1 [fldOf ty (st.tm t) j1, opd st k] st fun st1 => callIn E C d f2 [fldOf ty (st1.tm t) j2, st1.tm d] st1 K
    else none
  | _, _, _, _ => none
def evalOp (fi : Fi) (E : Env) (C : CallsE) (ops : List Oper) (o : Oper) (st : St) (K : St → R) : R :=
  match inlOf E o with
  | some (ty, l, x, k) => evalInl fi E C o ty l x k st K
  | none => match effG fi E ops st.rt (opd st) o with
  | none => none
  | some e => bif e.pre then
      (match e.req with
       | none => K (applyU o.dst (e.ret []) st)
       | some (f, ts) => match (bif e.g then C f ts else some []) with
         | some res => K (applyU o.dst (e.ret res) st)
         | none => none)
    else none
def evalOps (fi : Fi) (E : Env) (C : CallsE) (ops : List Oper) : List Oper → St → (St → R) → R
  | [], st, K => K st
  | o :: l, st, K => evalOp fi E C ops o st fun st => evalOps fi E C ops l st K

/- ---- regions of free order: what each operation may look at, and what it may turn, is told ahead ---- -/
abbrev RW := List Nat × List Nat
def narrow (ts rs : List Nat) (st : St) : Operand → AV
  | .tmp t => bif mem t ts && subset (st.tm t).refs rs then st.tm t else .undef
  | .const v => .cst v
  | .func f => .fnc f
  | .global _ => .undef
def narrowL (rs : List Nat) (st : St) : Nat → Option Rt := fun r => bif mem r rs then st.rt r else none
def fits (rw : RW) (u : Upd) : Bool := subset (u.wr.map (·.1)) rw.2 && (subset (u.ks.map (·.1)) rw.2 && subset u.av.refs (rw.1 ++ rw.2))
def evalOpD (fi : Fi) (E : Env) (C : CallsE) (ops : Array Oper) (rw : RW) (o : Oper) (st : St) (K : St → R) : R :=
  match effG fi E ops.toList (narrowL rw.1 st) (narrow (o.looksAt ops) rw.1 st) o with
  | none => none
  | some e => bif e.pre then
      (match e.req with
       | none => bif fits rw (e.ret []) then K (applyU o.dst (e.ret []) st) else none
       | some (f, ts) => match (bif e.g then C f ts else some []) with
         | some res => bif fits rw (e.ret res) then K (applyU o.dst (e.ret res) st) else none
         | none => none)
    else none
def evalOpsD (fi : Fi) (E : Env) (C : CallsE) (ops : Array Oper) (rws : List RW) : Nat → List Oper → St → (St → R) → R
  | _, [], st, K => K st
  | i, o :: l, st, K => evalOpD fi E C ops (rws.getD i ([], [])) o st fun st => evalOpsD fi E C ops rws (i + 1) l st K
def bindL (o : Oper) : List Nat := (o.after.toList.filter (Region.binds .any)).map (·.on)
/-- Of each operation, all that must come ahead of it, as bits. -/
def masks : List Nat → List Oper → List Nat
  | acc, [] => acc
  | acc, o :: l => masks (acc ++ [(bindL o).foldl (fun s k => s ||| (2 ^ k ||| acc.getD k 0)) 0]) l
def freeP (ops : Array Oper) (rws : List RW) (l i : Nat) (ol oi : Oper) : Bool :=
  ol.apart ops oi && (apartL (rws.getD l ([], [])).2 (rws.getD i ([], [])).1 && (apartL (rws.getD i ([], [])).2 (rws.getD l ([], [])).1 && apartL (rws.getD l ([], [])).2 (rws.getD i ([], [])).2))
def drawOk (ops : Array Oper) (rws : List RW) : Bool :=
  (List.range ops.size).all fun i => match ops[i]? with
    | none => false
    | some oi => (bindL oi).all (fun k => decide (k < i)) && (List.range i).all fun l => ((masks [] ops.toList).getD i 0).testBit l || (match ops[l]? with
      | some ol => freeP ops rws l i ol oi
      | none => false)

def lookCS (cs : CS) : St := ⟨fun t => (assoc cs.1 t).getD .undef, assoc cs.2⟩
def keepOf (fi : Fi) (k : List Item) : List Nat :=
  match k with
  | .inBlock id :: _ => (assoc fi.keep id).getD []
  | _ => []
def canon (ks : List Nat) (st : St) : CS :=
  (ks.map fun t => (t, st.tm t),
   (ks.flatMap fun t => (st.tm t).refs).eraseDups.filterMap fun r => (st.rt r).map fun R => (r, R))

/- ---- the end of a function ---- -/
def resultAV (E : Env) (st : St) : ResultVar → AV
  | .tmp t => st.tm t
  | .cell a ty => match st.tm a with
    | .pref ty' r p => match st.rt r with
      | some R => bif okTy E ty && (Nat.beq ty ty' && (R.o.get p).live) then view E 9 ty (R.t.get p) (R.o.get p) r p else .undef
      | none => .undef
    | .fptr ty' t => bif okTy E ty && Nat.beq ty ty' then .val ty t else .undef
    | _ => .undef
def retOne (E : Env) (st : St) (ty : Nat) : Ret → AV → Option Taken
  | .vl o, a => match take E st.rt ty a with
    | some c => bif O.le o c.o then some ⟨c.t, o, c.mv⟩ else none
    | none => none
  | .bx o, a => match a with
    | .pref ty' r [] => match st.rt r with
      | some R => bif R.box && (Nat.beq (boxed E ty) ty' && (O.le o R.o && (Nat.beq R.ty ty' && !R.o.isDead))) then some ⟨R.t, o, [(r, [])]⟩ else none
      | none => none
    | _ => none
def retAll (E : Env) (st : St) : List (Nat × Ret) → List ResultVar → Option (List T × List (Nat × List Step))
  | [], [] => some ([], [])
  | (ty, k) :: l, v :: vs => match retOne E st ty k (resultAV E st v), retAll E st l vs with
    | some c, some (ts, mv) => some (c.t :: ts, c.mv ++ mv)
    | _, _ => none
  | _, _ => none
def retMu (E : Env) (rt : Nat → Option Rt) : Nat → List (Nat × Mode) → Option (List T)
  | _, [] => some []
  | i, (_, .ro) :: l => retMu E rt (i + 1) l
  | i, (ty, .mu o) :: l => match rt (parRoot i), retMu E rt (i + 1) l with
    | some R, some ts => bif Nat.beq R.ty ty && (!R.box && O.le o R.o) then some (R.t :: ts) else none
    | _, _ => none
  | i, (ty, .bx o) :: l => match rt (parRoot i), retMu E rt (i + 1) l with
    | some R, some ts => bif Nat.beq R.ty (boxed E ty) && (R.box && O.le o R.o) then some (R.t :: ts) else none
    | _, _ => none
def finish (fi : Fi) (E : Env) (st : St) : R :=
  match retAll E st fi.rets fi.results with
  | none => none
  | some (ts, mv) => bif mvOk mv then
      match retMu E (fun r => match assoc (movedAll E st.rt mv) r with | some x => x | none => st.rt r) 0 fi.params with
      | some ms => some (ts ++ ms)
      | none => none
    else none

/-- The code from one head of a loop to the next, or to the end. H: the heads; C: the calls. -/
def ex (fi : Fi) (E : Env) (H : List Item → CS → R) (C : CallsE) : Nat → List Item → St → R
  | 0, _, _ => none
  | m + 1, todo, st => match todo with
    | [] => finish fi E st
    | .code .ret :: _ => finish fi E st
    | .code .skip :: k => ex fi E H C m k st
    | .code (.label _) :: k => ex fi E H C m k st
    | .inBlock _ :: k => ex fi E H C m k st
    | .inScope _ :: k => ex fi E H C m k st
    | .code (.scope body) :: k => ex fi E H C m (.code body :: .inScope body :: k) st
    | .code (.seq a b) :: k => ex fi E H C m (.code a :: .code b :: k) st
    | .code (.cond c x y) :: k => match strip (opd st c) with
      | (b, .val ty v) => bif boolTy E ty then (bif b then (bif v.b then ex fi E H C m (.code x :: k) st else ex fi E H C m (.code y :: k) st) else none) else none
      | (b, .cst (.bool v)) => bif b then (bif v then ex fi E H C m (.code x :: k) st else ex fi E H C m (.code y :: k) st) else none
      | _ => none
    | .code (.block id body) :: k => ex fi E H C m (.code body :: .inBlock id :: k) st
    | .code (.loop body) :: k => H (.inLoop body :: k) (canon (keepOf fi k) st)
    | .inLoop body :: k => H (.inLoop body :: k) (canon (keepOf fi k) st)
    | .code (.exit id) :: k => match exitTo id k with
      | some k' => ex fi E H C m k' st
      | none => none
    | .code (.goto l) :: k => match gotoIn l k with
      | some k' => ex fi E H C m k' st
      | none => none
    | .code (.region id ops draw) :: k =>
      bif draw then
        (let rws := (assoc fi.decl id).getD []
         bif drawOk ops rws then evalOpsD fi E C ops rws 0 ops.toList st (fun st => ex fi E H C m k st) else none)
      else evalOps fi E C ops.toList ops.toList st (fun st => ex fi E H C m k st)
    | _ => none

def BIG : Nat := 100000
def initAV (E : Env) (i : Nat) (ty : Nat) (t : T) : Mode → AV
  | .ro => .val ty t
  | .mu _ => .sref ty (parRoot i) []
  | .bx _ => .pref (boxed E ty) (parRoot i) []
def initL (E : Env) : Nat → List (Nat × Mode) → List T → CS
  | i, (ty, m) :: ps, t :: ts =>
    let r := initL E (i + 1) ps ts
    ((i, initAV E i ty t m) :: r.1, match m with
      | .ro => r.2
      | .mu o => (parRoot i, ⟨ty, t, o, false⟩) :: r.2
      | .bx o => (parRoot i, ⟨boxed E ty, t, o, true⟩) :: r.2)
  | _, _, _ => ([], [])
def enterE (fi : Fi) (E : Env) (H : List Item → CS → R) (C : CallsE) (ts : List T) : R :=
  bif Nat.beq ts.length fi.params.length then ex fi E H C BIG [.code fi.body] (lookCS (initL E 0 fi.params ts)) else none
def headE (fi : Fi) (E : Env) (H : List Item → CS → R) (C : CallsE) (todo : List Item) (cs : CS) : R :=
  match todo with
  | .inLoop body :: k => ex fi E H C BIG (.code body :: .inLoop body :: k) (lookCS cs)
  | _ => none

/-- n bounds rounds and depth together. X: functions that are told from outside. Behind a head; a call. -/
def both (E : Env) (X : Nat → Option (List T → R)) : Nat → (Fi → List Item → CS → R) × CallsE
  | 0 => (fun _ _ _ => none, fun _ _ => none)
  | n + 1 => (fun fi todo cs => headE fi E ((both E X n).1 fi) (both E X n).2 todo cs,
      fun f ts => match X f with
        | some g => g ts
        | none => match E.fn f with
          | some fi => enterE fi E ((both E X n).1 fi) (both E X n).2 ts
          | none => none)
def headN (E : Env) (X : Nat → Option (List T → R)) (n : Nat) : Fi → List Item → CS → R := (both E X n).1
def callN (E : Env) (X : Nat → Option (List T → R)) (n : Nat) : CallsE := (both E X n).2
theorem headN_succ (E : Env) (X : Nat → Option (List T → R)) (n : Nat) (fi : Fi) (todo : List Item) (cs : CS) :
    headN E X (n + 1) fi todo cs = headE fi E (headN E X n fi) (callN E X n) todo cs := rfl
theorem callN_succ (E : Env) (X : Nat → Option (List T → R)) (n f : Nat) (ts : List T) :
    callN E X (n + 1) f ts = match X f with
      | some g => g ts
      | none => match E.fn f with
        | some fi => enterE fi E (headN E X n fi) (callN E X n) ts
        | none => none := rfl
end Go.Proofs.YtfelodpbejdhlaaDoor.Ra
/- What trees say of memory: the reading of a tree at a place, who owns which block, and how both are kept. -/
namespace Go.Proofs.YtfelodpbejdhlaaDoor.Ra
open Go Go.RowKit

/-- Who holds a block: nobody here; it is frozen; it is the array of the slice at a place of a root; it is what a root's pointer points to. -/
inductive Own where | free | frz | at (r : Nat) (p : List Step) | hd (r : Nat)
abbrev Gh := Nat → Own

inductive Place where | reg (vs : List Value) (o : Nat) | mem (b o : Nat)
def Place.add : Place → Nat → Place
  | .reg vs o, k => .reg vs (o + k)
  | .mem b o, k => .mem b (o + k)
def rd (w : World) : Place → Option Value
  | .reg vs o => vs[o]?
  | .mem b o => w.cell? ⟨b, o, none⟩
theorem Place.add_zero (κ : Place) : κ.add 0 = κ := by cases κ <;> rfl
theorem Place.add_add (κ : Place) (a b : Nat) : (κ.add a).add b = κ.add (a + b) := by cases κ <;> simp [Place.add, Nat.add_assoc]

def BlkOk (w : World) (b n : Nat) : Prop := ∃ c e, w.heap[b]? = some (.cells c e (0, 0)) ∧ n ≤ c.size
theorem BlkOk.mono {w : World} {b n m : Nat} (h : BlkOk w b n) (hm : m ≤ n) : BlkOk w b m := by
  obtain ⟨c, e, h1, h2⟩ := h; exact ⟨c, e, h1, by omega⟩

def off (E : Env) (fs : List Nat) (j : Nat) : Nat := ((fs.take j).map E.sz).sum

def Shaped (E : Env) (ty : Nat) (v : Value) : Prop :=
  v.cells.size = E.sz ty ∧ match E.ty ty with
    | .st _ => ∃ cs, v = .agg cs
    | _ => v.cells = #[v]

inductive Rep (E : Env) (w : World) (g : Gh) : Nat → T → O → Nat → List Step → Place → Prop
  | int {ty k n o r p κ} : E.ty ty = .int k → rd w κ = some (.int k n) → Rep E w g ty (.int n) o r p κ
  | bool {ty b o r p κ} : E.ty ty = .bool → rd w κ = some (.bool b) → Rep E w g ty (.bool b) o r p κ
  | str {ty s o r p κ} : E.ty ty = .str → rd w κ = some (.string s) → Rep E w g ty (.str s) o r p κ
  | fn {ty ps rs f caps o r p κ} (vs : List Value) (cts : List Nat) : E.ty ty = .fn ps rs →
      fnFits E f cts ps rs = true → caps.length = cts.length → vs.length = cts.length → rd w κ = some (.func (.func f) #[] vs.toArray) →
      (∀ (i ct : Nat) (c : T) (v : Value), cts[i]? = some ct → caps[i]? = some c → vs[i]? = some v → Rep E w g ct c .fz r p (.reg v.cells.toList 0)) →
      (∀ (i ct : Nat) (v : Value), cts[i]? = some ct → vs[i]? = some v → Shaped E ct v) → Rep E w g ty (.fn f caps) o r p κ
  | cp {ty e t a o r p κ} : E.ty ty = .cp e → rd w κ = some (.pointer (some a)) → a.spot = none → g a.block = .frz →
      Rep E w g e t .fz r p (.mem a.block a.off) → Rep E w g ty t o r p κ
  | dead {ty t r p κ} : Rep E w g ty t .dead r p κ
  | fz0 {ty e A cap r p κ} : E.ty ty = .sl e → rd w κ = some (.slice A 0 cap) → Rep E w g ty (.sl []) .fz r p κ
  | fz {ty e es a cap r p κ} : E.ty ty = .sl e → rd w κ = some (.slice (some a) es.length cap) → a.spot = none → es.length ≤ cap → g a.block = .frz →
      (∀ i t, es[i]? = some t → Rep E w g e t .fz r p (.mem a.block (a.off + i * E.sz e))) → Rep E w g ty (.sl es) .fz r p κ
  | own0 {ty e o r p κ} : E.ty ty = .sl e → o.own = true → rd w κ = some (.slice none 0 0) → Rep E w g ty (.sl []) o r p κ
  | own {ty e es a cap o r p κ} : E.ty ty = .sl e → o.own = true → rd w κ = some (.slice (some a) es.length cap) → a.spot = none → es.length ≤ cap →
      g a.block = .at r p → BlkOk w a.block (a.off + cap * E.sz e) →
      (∀ i t, es[i]? = some t → Rep E w g e t o.elem r (p ++ [.idx i]) (.mem a.block (a.off + i * E.sz e))) → Rep E w g ty (.sl es) o r p κ
  | st {ty fs ts o r p κ} : E.ty ty = .st fs → ts.length = fs.length →
      (∀ j f t, fs[j]? = some f → ts[j]? = some t → Rep E w g f t (o.fld j) r (p ++ [.fld j]) (κ.add (off E fs j))) → Rep E w g ty (.st ts) o r p κ

/-- What the evaluator's table of types must say of itself. -/
structure TyWf (E : Env) : Prop where
  one : ∀ t, (match E.ty t with | .st _ => False | .bad => False | _ => True) → E.sz t = 1
  sum : ∀ t fs, E.ty t = .st fs → E.sz t = (fs.map E.sz).sum
  flat_st : ∀ t fs, E.ty t = .st fs → E.flat t = true → ∀ f ∈ fs, E.flat f = true
  flat_sl : ∀ t e, E.ty t = .sl e → E.flat t = false
  flat_fn : ∀ t a b, E.ty t = .fn a b → E.flat t = false
  flat_cp : ∀ t e, E.ty t = .cp e → E.flat t = false
  nofn_st : ∀ t fs, E.ty t = .st fs → E.nofn t = true → ∀ f ∈ fs, E.nofn f = true
  nofn_sl : ∀ t e, E.ty t = .sl e → E.nofn t = true → E.nofn e = true
  nofn_fn : ∀ t a b, E.ty t = .fn a b → E.nofn t = false
  nofn_cp : ∀ t e, E.ty t = .cp e → E.nofn t = false

theorem sum_take_le (l : List Nat) : ∀ (j : Nat), (l.take j).sum ≤ l.sum := by
  induction l with
  | nil => intro j; simp
  | cons a l ih => intro j; cases j with
    | zero => simp
    | succ j => simp only [List.take_succ_cons, List.sum_cons]; have := ih j; omega
theorem sum_take_add (l : List Nat) : ∀ (j x : Nat), l[j]? = some x → (l.take j).sum + x ≤ l.sum := by
  induction l with
  | nil => intro j x h; simp at h
  | cons a l ih => intro j x h; cases j with
    | zero => simp at h; subst h; simp
    | succ j => simp only [List.getElem?_cons_succ] at h; have := ih j x h; simp only [List.take_succ_cons, List.sum_cons]; omega
theorem off_le {E : Env} {fs : List Nat} {j f : Nat} (h : fs[j]? = some f) : off E fs j + E.sz f ≤ (fs.map E.sz).sum := by
  unfold off
  rw [List.map_take]
  exact sum_take_add (fs.map E.sz) j (E.sz f) (by simp [h])
theorem off_succ {E : Env} {fs : List Nat} {j f : Nat} (h : fs[j]? = some f) : off E fs (j + 1) = off E fs j + E.sz f := by
  unfold off
  obtain ⟨hl, rfl⟩ := List.getElem?_eq_some_iff.1 h
  rw [List.take_succ_eq_append_getElem hl, List.map_append, List.sum_append]; simp
theorem sum_take_mono (l : List Nat) : ∀ (i j : Nat), i ≤ j → (l.take i).sum ≤ (l.take j).sum := by
  induction l with
  | nil => intro i j _; simp
  | cons a l ih => intro i j h; cases i with
    | zero => simp
    | succ i => cases j with
      | zero => omega
      | succ j => simp only [List.take_succ_cons, List.sum_cons]; have := ih i j (by omega); omega
theorem off_mono {E : Env} {fs : List Nat} {i j : Nat} (h : i ≤ j) : off E fs i ≤ off E fs j := by
  unfold off; rw [List.map_take, List.map_take]; exact sum_take_mono _ _ _ h

/-- A block reads as it did. -/
def SameBlk (w w' : World) (b : Nat) : Prop := (∀ o, w'.cell? ⟨b, o, none⟩ = w.cell? ⟨b, o, none⟩) ∧ ∀ n, BlkOk w b n → BlkOk w' b n
theorem SameBlk.of_heap {w w' : World} {b : Nat} (h : w'.heap[b]? = w.heap[b]?) : SameBlk w w' b :=
  ⟨fun o => by simp only [World.cell?, h], fun n hn => by unfold BlkOk at *; rw [h]; exact hn⟩
theorem SameBlk.refl (w : World) (b : Nat) : SameBlk w w b := ⟨fun _ => rfl, fun _ h => h⟩
theorem SameBlk.trans {a b c : World} {k : Nat} (h : SameBlk a b k) (h' : SameBlk b c k) : SameBlk a c k :=
  ⟨fun o => (h'.1 o).trans (h.1 o), fun n hn => h'.2 n (h.2 n hn)⟩

/-- Blocks that a reading at a root's place leans on. -/
def Leans (g : Gh) (r : Nat) (p : List Step) (b : Nat) : Prop := g b = .frz ∨ ∃ q, g b = .at r (p ++ q)
theorem Leans.step {g : Gh} {r : Nat} {p : List Step} {s : Step} {b : Nat} (h : Leans g r (p ++ [s]) b) : Leans g r p b := by
  rcases h with h | ⟨q, h⟩
  · exact .inl h
  · exact .inr ⟨s :: q, by rw [h]; simp⟩

theorem Rep.reloc {E : Env} {w : World} {g : Gh} (hE : TyWf E) {ty : Nat} {t : T} {o : O} {r : Nat} {p : List Step} {κ : Place} (h : Rep E w g ty t o r p κ)
    {w' : World} {g' : Gh} {κ' : Place} :
    (∀ k, k < E.sz ty → rd w' (κ'.add k) = rd w (κ.add k)) → (∀ b, Leans g r p b → SameBlk w w' b ∧ g' b = g b) → Rep E w' g' ty t o r p κ' := by
  induction h generalizing κ' with
  | int h1 h2 => intro hc hb; exact .int h1 (by rw [← h2]; simpa [Place.add_zero] using hc 0 (by rw [hE.one _ (by simp [h1])]; omega))
  | bool h1 h2 => intro hc hb; exact .bool h1 (by rw [← h2]; simpa [Place.add_zero] using hc 0 (by rw [hE.one _ (by simp [h1])]; omega))
  | str h1 h2 => intro hc hb; exact .str h1 (by rw [← h2]; simpa [Place.add_zero] using hc 0 (by rw [hE.one _ (by simp [h1])]; omega))
  | fn vs cts h1 h3 h4 h5 h6 h7 h8 ih =>
    intro hc hb
    exact .fn vs cts h1 h3 h4 h5 (by rw [← h6]; simpa [Place.add_zero] using hc 0 (by rw [hE.one _ (by simp [h1])]; omega))
      (fun i ct c v a1 a2 a3 => ih i ct c v a1 a2 a3 (fun _ _ => rfl) hb) h8
  | cp h1 h2 h3 h4 _ ih =>
    intro hc hb
    exact .cp h1 (by rw [← h2]; simpa [Place.add_zero] using hc 0 (by rw [hE.one _ (by simp [h1])]; omega)) h3 (by rw [(hb _ (.inl h4)).2, h4]) (ih (fun k _ => (hb _ (.inl h4)).1.1 _) hb)
  | dead => intro _ _; exact .dead
  | fz0 h1 h2 => intro hc hb; exact .fz0 h1 (by rw [← h2]; simpa [Place.add_zero] using hc 0 (by rw [hE.one _ (by simp [h1])]; omega))
  | fz h1 h2 h3 h4 h5 h6 ih =>
    intro hc hb
    refine .fz h1 (by rw [← h2]; simpa [Place.add_zero] using hc 0 (by rw [hE.one _ (by simp [h1])]; omega)) h3 h4 (by rw [(hb _ (.inl h5)).2, h5]) fun i t hi => ?_
    exact ih i t hi (fun k _ => (hb _ (.inl h5)).1.1 _) hb
  | own0 h1 h2 h3 => intro hc hb; exact .own0 h1 h2 (by rw [← h3]; simpa [Place.add_zero] using hc 0 (by rw [hE.one _ (by simp [h1])]; omega))
  | own h1 h2 h3 h4 h5 h6 h7 h8 ih =>
    intro hc hb
    have hl := hb _ (.inr ⟨[], by rw [h6]; simp⟩)
    refine .own h1 h2 (by rw [← h3]; simpa [Place.add_zero] using hc 0 (by rw [hE.one _ (by simp [h1])]; omega)) h4 h5 (by rw [hl.2, h6]) (hl.1.2 _ h7) fun i t hi => ?_
    exact ih i t hi (fun k _ => hl.1.1 _) fun b hb' => hb b hb'.step
  | st h1 h2 h3 ih =>
    intro hc hb
    refine .st h1 h2 fun j f t hf ht => ih j f t hf ht (fun k hk => ?_) fun b hb' => hb b hb'.step
    rw [Place.add_add, Place.add_add]
    exact hc _ (by rw [hE.sum _ _ h1]; have := off_le (E := E) hf; omega)
theorem Rep.frame {E : Env} {w : World} {g : Gh} (hE : TyWf E) {ty : Nat} {t : T} {o : O} {r : Nat} {p : List Step} {κ : Place} (h : Rep E w g ty t o r p κ)
    {w' : World} {g' : Gh} (hc : ∀ k, k < E.sz ty → rd w' (κ.add k) = rd w (κ.add k)) (hb : ∀ b, Leans g r p b → SameBlk w w' b ∧ g' b = g b) : Rep E w' g' ty t o r p κ :=
  h.reloc hE hc hb
theorem Rep.place {E : Env} {w : World} {g : Gh} (hE : TyWf E) {ty : Nat} {t : T} {o : O} {r : Nat} {p : List Step} {κ κ' : Place} (h : Rep E w g ty t o r p κ)
    (hc : ∀ k, k < E.sz ty → rd w (κ'.add k) = rd w (κ.add k)) : Rep E w g ty t o r p κ' :=
  h.reloc hE hc fun b _ => ⟨SameBlk.refl _ _, rfl⟩
end Go.Proofs.YtfelodpbejdhlaaDoor.Ra
/- Readings moved to another root, held less firmly, opened along a path. -/
namespace Go.Proofs.YtfelodpbejdhlaaDoor.Ra
open Go Go.RowKit

theorem lives_get {os : List O} (h : O.lives os = true) : ∀ j, (os.getD j .dp).live = true := by
  induction os with
  | nil => intro j; simp [O.live]
  | cons o os ih => intro j; simp only [O.lives, Bool.and_eq_true] at h; cases j with
    | zero => simpa using h.1
    | succ j => simpa using ih h.2 j
theorem geDps_get {os : List O} (h : O.geDps os = true) : ∀ j, (os.getD j .dp).geDp = true := by
  induction os with
  | nil => intro j; simp [O.geDp]
  | cons o os ih => intro j; simp only [O.geDps, Bool.and_eq_true] at h; cases j with
    | zero => simpa using h.1
    | succ j => simpa using ih h.2 j
theorem les_get {as : List O} : ∀ {bs : List O}, O.les as bs = true → ∀ j, O.le (as.getD j .dp) (bs.getD j .dp) = true := by
  induction as with
  | nil => intro bs h j; cases bs with
    | nil => simp [O.le, O.geDp]
    | cons => simp [O.les] at h
  | cons a as ih => intro bs h j; cases bs with
    | nil => simp [O.les] at h
    | cons b bs =>
      simp only [O.les, Bool.and_eq_true] at h
      cases j with
      | zero => simpa using h.1
      | succ j => simpa using ih h.2 j
theorem live_elem {o : O} (h : o.live = true) : o.elem.live = true := by cases o <;> simp_all [O.live, O.elem]
theorem live_fld {o : O} (h : o.live = true) (j : Nat) : (o.fld j).live = true := by
  cases o with
  | st os => exact lives_get (by simpa [O.live] using h) j
  | _ => simp_all [O.live, O.fld]
theorem geDp_elem {o : O} (h : o.geDp = true) : o.elem.geDp = true := by cases o <;> simp_all [O.geDp, O.elem]
theorem geDp_fld {o : O} (h : o.geDp = true) (j : Nat) : (o.fld j).geDp = true := by
  cases o with
  | st os => exact geDps_get (by simpa [O.geDp] using h) j
  | _ => simp_all [O.geDp, O.fld]
theorem le_fld {a o : O} (h : O.le a o = true) (j : Nat) : O.le (a.fld j) (o.fld j) = true := by
  cases a with
  | fz => simp only [O.le, O.fld] at *; exact live_fld h j
  | dp => simp only [O.le, O.fld] at *; exact geDp_fld h j
  | dead => simp [O.le, O.fld]
  | sl x => cases o <;> simp_all [O.le, O.fld, O.own, O.geDp]
  | st as => cases o with
    | st bs => exact les_get (by simpa [O.le] using h) j
    | _ => simp [O.le] at h
theorem le_elem {a o : O} (h : O.le a o = true) (ho : o.own = true) (ha : a.own = true ∨ a = .fz) : O.le a.elem o.elem = true := by
  cases a with
  | fz => simp only [O.le, O.elem] at *; exact live_elem h
  | dp => simp only [O.le, O.elem] at *; exact geDp_elem h
  | sl x => simp only [O.le, O.elem, ho, cond_true] at *; exact h
  | dead => simp [O.own] at ha
  | st as => simp [O.own] at ha

/-- How blocks are told anew when what a root's place holds goes to another one, held as o' says. -/
def Goes (g g' : Gh) (r : Nat) (p : List Step) (o' : O) (r' : Nat) (p' : List Step) : Prop :=
  (∀ b, g b = .frz → g' b = .frz) ∧ ∀ b q, g b = .at r (p ++ q) → g' b = if (o'.get q).isFz then .frz else .at r' (p' ++ q)
theorem Goes.step {g g' : Gh} {r : Nat} {p : List Step} {o' : O} {r' : Nat} {p' : List Step} (h : Goes g g' r p o' r' p') (s : Step) {o₁ : O}
    (hs : ∀ q, o₁.get q = o'.get (s :: q)) : Goes g g' r (p ++ [s]) o₁ r' (p' ++ [s]) :=
  ⟨h.1, fun b q hb => by rw [h.2 b (s :: q) (by rw [hb]; simp), hs]; simp⟩

theorem Rep.frozen {E : Env} {w : World} {g : Gh} {ty : Nat} {t : T} {o : O} {r : Nat} {p : List Step} {κ : Place} (h : Rep E w g ty t o r p κ)
    {g' : Gh} (ho : o = .fz) (hg : ∀ b, g b = .frz → g' b = .frz) (r' : Nat) (p' : List Step) : Rep E w g' ty t .fz r' p' κ := by
  induction h generalizing p' with
  | int h1 h2 => exact .int h1 h2
  | bool h1 h2 => exact .bool h1 h2
  | str h1 h2 => exact .str h1 h2
  | fn vs cts h1 h3 h4 h5 h6 h7 h8 ih => exact .fn vs cts h1 h3 h4 h5 h6 (fun i ct c v a1 a2 a3 => ih i ct c v a1 a2 a3 rfl p') h8
  | cp h1 h2 h3 h4 _ ih => exact .cp h1 h2 h3 (hg _ h4) (ih rfl p')
  | dead => cases ho
  | fz0 h1 h2 => exact .fz0 h1 h2
  | fz h1 h2 h3 h4 h5 h6 ih => exact .fz h1 h2 h3 h4 (hg _ h5) fun i t hi => ih i t hi rfl p'
  | own0 h1 h2 h3 => subst ho; simp [O.own] at h2
  | own h1 h2 => subst ho; simp [O.own] at h2
  | st h1 h2 h3 ih => subst ho; exact .st h1 h2 fun j f t hf ht => ih j f t hf ht rfl _

theorem Rep.move {E : Env} {w : World} {g : Gh} {ty : Nat} {t : T} {o : O} {r : Nat} {p : List Step} {κ : Place} (h : Rep E w g ty t o r p κ)
    {g' : Gh} {o' : O} {r' : Nat} {p' : List Step} (hle : O.le o' o = true) (hg : Goes g g' r p o' r' p') : Rep E w g' ty t o' r' p' κ := by
  by_cases hd : o' = .dead
  · subst hd; exact .dead
  induction h generalizing o' p' with
  | int h1 h2 => exact .int h1 h2
  | bool h1 h2 => exact .bool h1 h2
  | str h1 h2 => exact .str h1 h2
  | fn vs cts h1 h3 h4 h5 h6 h7 h8 ih =>
    exact .fn vs cts h1 h3 h4 h5 h6 (fun i ct c v a1 a2 a3 => (h7 i ct c v a1 a2 a3).frozen rfl hg.1 _ _) h8
  | cp h1 h2 h3 h4 h5 _ => exact .cp h1 h2 h3 (hg.1 _ h4) (h5.frozen rfl hg.1 _ _)
  | dead => cases o' <;> simp_all [O.le, O.live, O.geDp, O.own]
  | fz0 h1 h2 =>
    cases o' with
    | fz => exact .fz0 h1 h2
    | dead => exact absurd rfl hd
    | _ => simp [O.le, O.geDp, O.own] at hle
  | fz h1 h2 h3 h4 h5 h6 ih =>
    cases o' with
    | fz => exact .fz h1 h2 h3 h4 (hg.1 _ h5) fun i t hi => (h6 i t hi).frozen rfl hg.1 _ _
    | dead => exact absurd rfl hd
    | _ => simp [O.le, O.geDp, O.own] at hle
  | own0 h1 h2 h3 =>
    cases o' with
    | fz => exact .fz0 h1 h3
    | dp => exact .own0 h1 rfl h3
    | sl x => exact .own0 h1 rfl h3
    | dead => exact absurd rfl hd
    | st as => simp only [O.le] at hle; split at hle <;> simp_all [O.own]
  | @own ty e es a cap o r p κ h1 h2 h3 h4 h5 h6 h7 h8 ih =>
    have h6' := hg.2 a.block [] (by rw [h6]; simp)
    have go : ∀ {o₁ : O}, (o₁.own = true ∨ o₁ = .fz) → O.le o₁ o = true → Goes g g' r p o₁ r' p' → ∀ (i : Nat) (t : T), es[i]? = some t →
        Rep E w g' e t o₁.elem r' (p' ++ [.idx i]) (.mem a.block (a.off + i * E.sz e)) := by
      intro o₁ ho₁ hl hg₁ i t hi
      by_cases hdd : o₁.elem = .dead
      · rw [hdd]; exact .dead
      · exact ih i t hi (le_elem hl h2 ho₁) (hg₁.step (.idx i) fun q => rfl) hdd
    cases o' with
    | fz =>
      refine .fz h1 h3 h4 h5 (by rw [h6']; rfl) fun i t hi => ?_
      exact (go (.inr rfl) hle hg i t hi).frozen rfl (fun _ h => h) _ _
    | dp => exact .own h1 rfl h3 h4 h5 (by rw [h6']; simp [O.get, O.isFz]) h7 (go (.inl rfl) hle hg)
    | sl x => exact .own h1 rfl h3 h4 h5 (by rw [h6']; simp [O.get, O.isFz]) h7 (go (.inl rfl) hle hg)
    | dead => exact absurd rfl hd
    | st as => simp only [O.le] at hle; split at hle <;> simp_all [O.own]
  | st h1 h2 h3 ih =>
    refine .st h1 h2 fun j f t hf ht => ?_
    by_cases hdd : o'.fld j = .dead
    · rw [hdd]; exact .dead
    · exact ih j f t hf ht (le_fld hle j) (hg.step (.fld j) fun q => rfl) hdd
end Go.Proofs.YtfelodpbejdhlaaDoor.Ra
/- A place inside what a root holds: found in memory, read, and written. -/
namespace Go.Proofs.YtfelodpbejdhlaaDoor.Ra
open Go Go.RowKit

inductive Sub (E : Env) (w : World) (g : Gh) (r : Nat) : Nat → List Step → Place → List Step → Nat → Place → Prop
  | nil {ty p κ} : Sub E w g r ty p κ [] ty κ
  | fld {ty fs j f p κ q ty' κ'} : E.ty ty = .st fs → fs[j]? = some f → Sub E w g r f (p ++ [.fld j]) (κ.add (off E fs j)) q ty' κ' →
      Sub E w g r ty p κ (.fld j :: q) ty' κ'
  | idx {ty e a len cap i p κ q ty' κ'} : E.ty ty = .sl e → rd w κ = some (.slice (some a) len cap) → i < len → a.spot = none → g a.block = .at r p →
      Sub E w g r e (p ++ [.idx i]) (.mem a.block (a.off + i * E.sz e)) q ty' κ' → Sub E w g r ty p κ (.idx i :: q) ty' κ'

theorem nth_of {es : List T} {i : Nat} (h : i < es.length) : es[i]? = some ((T.sl es).nth i) := by
  simp [T.nth, T.es, h]
theorem fld_of {ts : List T} {j : Nat} (h : j < ts.length) : ts[j]? = some ((T.st ts).fld j) := by
  simp [T.fld, T.fs, h]

theorem get_dead (q : List Step) : O.get .dead q = .dead := by
  induction q with
  | nil => rfl
  | cons s q ih => cases s <;> exact ih

theorem Rep.sub {E : Env} {w : World} {g : Gh} {r : Nat} {ty : Nat} {p : List Step} {κ : Place} {q : List Step} {ty' : Nat} {κ' : Place}
    (hs : Sub E w g r ty p κ q ty' κ') : ∀ {t : T} {o : O}, Rep E w g ty t o r p κ → Rep E w g ty' (t.get q) (o.get q) r (p ++ q) κ' := by
  induction hs with
  | nil => intro t o h; simpa [T.get, O.get] using h
  | @fld ty fs j f p κ q ty' κ' h1 h2 _ ih =>
    intro t o h
    by_cases hd : o = .dead
    · subst hd; rw [get_dead]; exact .dead
    cases h with
    | st a1 a2 a3 =>
      rw [h1] at a1; cases a1
      have hj : j < fs.length := (List.getElem?_eq_some_iff.1 h2).1
      have := ih (a3 j f _ h2 (fld_of (by omega)))
      simpa [T.get, O.get] using this
    | dead => exact absurd rfl hd
    | _ => simp_all
  | @idx ty e a len cap i p κ q ty' κ' h1 h2 h3 h4 h5 _ ih =>
    intro t o h
    by_cases hd : o = .dead
    · subst hd; rw [get_dead]; exact .dead
    cases h with
    | own a1 a2 a3 a4 a5 a6 a7 a8 =>
      rw [h1] at a1; cases a1
      rw [h2] at a3; cases a3
      have := ih (a8 i _ (nth_of h3))
      simpa [T.get, O.get] using this
    | fz a1 a2 a3 a4 a5 a6 => rw [h2] at a2; cases a2; rw [h5] at a5; cases a5
    | fz0 a1 a2 => rw [h2] at a2; cases a2; omega
    | own0 a1 a2 a3 => rw [h2] at a3; cases a3
    | dead => exact absurd rfl hd
    | _ => simp_all

/-- Where a place lies: within the cells that the way began at, or in the array of a slice on the way. -/
theorem Sub.where {E : Env} {w : World} {g : Gh} (hE : TyWf E) {r : Nat} {ty : Nat} {p : List Step} {κ : Place} {q : List Step} {ty' : Nat} {κ' : Place}
    (hs : Sub E w g r ty p κ q ty' κ') : (allFld q = true ∧ ∃ d, κ' = κ.add d ∧ d + E.sz ty' ≤ E.sz ty) ∨
      (∃ b o q1 i q2, κ' = .mem b o ∧ g b = .at r (p ++ q1) ∧ q = q1 ++ .idx i :: q2) := by
  induction hs with
  | nil => exact .inl ⟨rfl, 0, (Place.add_zero _).symm, by omega⟩
  | @fld ty fs j f p κ q ty' κ' h1 h2 _ ih =>
    rcases ih with ⟨ha, d, h, hd⟩ | ⟨b, o, q1, i, q2, h, hg, hq⟩
    · refine .inl ⟨ha, off E fs j + d, by rw [h, Place.add_add], ?_⟩
      rw [hE.sum _ _ h1]; have := off_le (E := E) h2; omega
    · exact .inr ⟨b, o, .fld j :: q1, i, q2, h, by rw [hg]; simp, by simp [hq]⟩
  | @idx ty e a len cap i p κ q ty' κ' h1 h2 h3 h4 h5 _ ih =>
    rcases ih with ⟨ha, d, h, hd⟩ | ⟨b, o, q1, i', q2, h, hg, hq⟩
    · exact .inr ⟨_, _, [], i, q, by rw [h]; rfl, by simpa using h5, by simp⟩
    · exact .inr ⟨b, o, .idx i :: q1, i', q2, h, by rw [hg]; simp, by simp [hq]⟩

def OPut (E : Env) : Nat → O → List Step → O → O → Prop
  | _, _, [], x, o' => o' = x
  | ty, o, .fld j :: q, x, o' => ∃ fs, E.ty ty = .st fs ∧ (∀ k, k < fs.length → k ≠ j → o'.fld k = o.fld k) ∧ OPut E (fs.getD j 0) (o.fld j) q x (o'.fld j)
  | ty, o, .idx _ :: q, x, o' => ∃ e, E.ty ty = .sl e ∧ o'.own = true ∧ o'.elem = o.elem ∧ OPut E e o.elem q x o.elem
theorem getD_of {fs : List Nat} {j f : Nat} (h : fs[j]? = some f) : fs.getD j 0 = f := by simp [List.getD_eq_getElem?_getD, h]
theorem OPut.self {E : Env} {w : World} {g : Gh} {r : Nat} {ty : Nat} {p : List Step} {κ : Place} {q : List Step} {ty' : Nat} {κ' : Place}
    (hs : Sub E w g r ty p κ q ty' κ') : ∀ (o : O), o.way q = true → OPut E ty o q (o.get q) o := by
  induction hs with
  | nil => intro o _; rfl
  | @fld ty fs j f p κ q ty' κ' h1 h2 _ ih =>
    intro o h
    refine ⟨fs, h1, fun _ _ _ => rfl, ?_⟩
    rw [getD_of h2]
    exact ih (o.fld j) (by cases o <;> simp_all [O.way])
  | @idx ty e a len cap i p κ q ty' κ' h1 h2 h3 h4 h5 _ ih =>
    intro o h
    simp only [O.way, Bool.and_eq_true] at h
    exact ⟨e, h1, h.1, rfl, ih o.elem h.2⟩

theorem mul_apart {i i' n d s : Nat} (h : i ≠ i') (hd : d + s ≤ n) (m : Nat) (hm : m < n) : ¬ (i * n + d ≤ i' * n + m ∧ i' * n + m < i * n + d + s) := by
  intro ⟨h1, h2⟩
  rcases Nat.lt_or_gt_of_ne h with hl | hl
  · have : (i + 1) * n ≤ i' * n := Nat.mul_le_mul_right n hl
    rw [Nat.succ_mul] at this; omega
  · have : (i' + 1) * n ≤ i * n := Nat.mul_le_mul_right n hl
    rw [Nat.succ_mul] at this; omega

theorem pre_cons {s : Step} {q q' : List Step} (h : ¬ q <+: q') : ¬ (s :: q) <+: (s :: q') := by
  intro hp; exact h ((List.cons_prefix_cons).1 hp).2

theorem Rep.update {E : Env} {w : World} {g : Gh} (hE : TyWf E) {r : Nat} {ty : Nat} {p : List Step} {κ : Place} {q : List Step} {ty₁ : Nat} {κ₁ : Place}
    (hs : Sub E w g r ty p κ q ty₁ κ₁) : ∀ {b₁ a₁ : Nat}, κ₁ = .mem b₁ a₁ → ∀ {t t₁ : T} {o o₁ o' : O} {w' : World} {g' : Gh},
    Rep E w g ty t o r p κ → o.way q = true → OPut E ty o q o₁ o' → Rep E w' g' ty₁ t₁ o₁ r (p ++ q) κ₁ →
    (∀ b, (g b = .frz ∨ ∃ q', g b = .at r (p ++ q') ∧ ¬ q <+: q') → g' b = g b ∧
      (∀ n, ¬ (b = b₁ ∧ a₁ ≤ n ∧ n < a₁ + E.sz ty₁) → w'.cell? ⟨b, n, none⟩ = w.cell? ⟨b, n, none⟩) ∧ ∀ n, BlkOk w b n → BlkOk w' b n) →
    (∀ k, k < E.sz ty → (∀ n, κ.add k = .mem b₁ n → ¬ (a₁ ≤ n ∧ n < a₁ + E.sz ty₁)) → rd w' (κ.add k) = rd w (κ.add k)) →
    (∀ b n, κ = .mem b n → g b ≠ .frz ∧ ∀ q', g b ≠ .at r (p ++ q')) →
    Rep E w' g' ty (t.put q t₁) o' r p κ := by
  induction hs with
  | nil =>
    intro b₁ a₁ hκ t t₁ o o₁ o' w' g' h hw hp hn hb hi hsep
    cases hp
    simpa [T.put] using hn
  | @fld ty fs j f p κ q ty' κ' h1 h2 hsub ih =>
    intro b₁ a₁ hκ t t₁ o o₁ o' w' g' h hw hp hn hb hi hsep
    obtain ⟨fs', hp0, hp1, hp2⟩ := hp
    rw [h1] at hp0; cases hp0
    rw [getD_of h2] at hp2
    have hj : j < fs.length := (List.getElem?_eq_some_iff.1 h2).1
    have hwh := hsub.where hE
    cases h with
    | st a1 a2 a3 =>
      rw [h1] at a1; cases a1
      rename_i ts
      refine .st h1 (by simp [T.fs, a2]) fun k f' t' hf' ht' => ?_
      by_cases hk : k = j
      · subst hk
        rw [h2] at hf'; cases hf'
        simp only [T.fs] at ht'
        rw [List.getElem?_set_self (by omega)] at ht'; cases ht'
        refine ih hκ (a3 k _ _ h2 (fld_of (by omega))) (by cases o <;> simp_all [O.way]) hp2 (by simpa using hn) ?_ ?_ ?_
        · intro b hb'
          refine hb b (hb'.imp id fun ⟨q', hq', hn'⟩ => ⟨.fld k :: q', by rw [hq']; simp, pre_cons hn'⟩)
        · intro m hm hne
          rw [Place.add_add] at hne ⊢
          exact hi _ (by rw [hE.sum _ _ h1]; have := off_le (E := E) h2; omega) hne
        · intro b n hbn
          cases κ with
          | reg vs x => simp [Place.add] at hbn
          | mem bb x =>
            simp only [Place.add, Place.mem.injEq] at hbn
            obtain ⟨rfl, _⟩ := hbn
            obtain ⟨s1, s2⟩ := hsep bb x rfl
            exact ⟨s1, fun q' e => s2 (.fld k :: q') (by rw [e]; simp)⟩
      · simp only [T.fs] at ht'
        rw [List.getElem?_set_ne (Ne.symm hk)] at ht'
        rw [hp1 k (List.getElem?_eq_some_iff.1 hf').1 hk]
        refine (a3 k f' t' hf' ht').frame hE ?_ ?_
        · intro m hm
          rw [Place.add_add]
          refine hi _ (by rw [hE.sum _ _ h1]; have := off_le (E := E) hf'; omega) ?_
          intro n hn' hr
          rcases hwh with ⟨_, d, hd, hd'⟩ | ⟨b, o'', q1, i, q2, hm1, hg1, _⟩
          · rw [hκ, Place.add_add] at hd
            cases κ with
            | reg vs x => simp [Place.add] at hn'
            | mem bb x =>
              simp only [Place.add, Place.mem.injEq] at hn' hd
              have o1 := off_succ (E := E) h2
              have o2 := off_succ (E := E) hf'
              rcases Nat.lt_or_gt_of_ne hk with hlt | hlt
              · have := off_mono (E := E) (fs := fs) (i := k + 1) (j := j) hlt; omega
              · have := off_mono (E := E) (fs := fs) (i := j + 1) (j := k) hlt; omega
          · cases κ with
            | reg vs x => simp [Place.add] at hn'
            | mem bb x =>
              simp only [Place.add, Place.mem.injEq] at hn'
              rw [hκ] at hm1; simp only [Place.mem.injEq] at hm1
              obtain ⟨rfl, _⟩ := hn'; obtain ⟨rfl, _⟩ := hm1
              exact (hsep bb x rfl).2 (.fld j :: q1) (by rw [hg1]; simp)
        · intro b hl
          have hset : g b = .frz ∨ ∃ q', g b = .at r (p ++ q') ∧ ¬ (.fld j :: q) <+: q' := by
            rcases hl with hl | ⟨q', hl⟩
            · exact .inl hl
            · refine .inr ⟨.fld k :: q', by rw [hl]; simp, fun hpre => ?_⟩
              have := ((List.cons_prefix_cons).1 hpre).1
              simp only [Step.fld.injEq] at this; exact hk this.symm
          obtain ⟨c1, c2, c3⟩ := hb b hset
          refine ⟨⟨fun n => c2 n fun ⟨e1, e2⟩ => ?_, c3⟩, c1⟩
          subst e1
          rcases hwh with ⟨_, d, hd, hd'⟩ | ⟨b', o'', q1, i, q2, hm1, hg1, _⟩
          · rw [hκ, Place.add_add] at hd
            cases κ with
            | reg vs x => simp [Place.add] at hd
            | mem bb x =>
              simp only [Place.add, Place.mem.injEq] at hd
              obtain ⟨rfl, _⟩ := hd
              obtain ⟨s1, s2⟩ := hsep _ x rfl
              rcases hl with hl | ⟨q', hl⟩
              · exact s1 hl
              · exact s2 (.fld k :: q') (by rw [hl]; simp)
          · rw [hκ] at hm1; simp only [Place.mem.injEq] at hm1
            obtain ⟨rfl, _⟩ := hm1
            rcases hl with hl | ⟨q', hl⟩
            · rw [hg1] at hl; cases hl
            · rw [hg1] at hl
              simp only [Own.at.injEq, true_and, List.append_assoc, List.append_cancel_left_eq, List.singleton_append, List.cons.injEq, Step.fld.injEq] at hl
              exact hk hl.1.symm
    | dead => simp [O.way] at hw
    | _ => simp_all
  | @idx ty e a len cap i p κ q ty' κ' h1 h2 h3 h4 h5 hsub ih =>
    intro b₁ a₁ hκ t t₁ o o₁ o' w' g' h hw hp hn hb hi hsep
    obtain ⟨e', hp0, hp1, hp2, hp3⟩ := hp
    rw [h1] at hp0; cases hp0
    have hwh := hsub.where hE
    simp only [O.way, Bool.and_eq_true] at hw
    -- the block of the target is owned at or below this slice
    have hown : ∃ q1, g b₁ = .at r (p ++ q1) := by
      rcases hwh with ⟨_, d, hd, _⟩ | ⟨b', o'', q1, i', q2, hm1, hg1, _⟩
      · rw [hκ] at hd; simp only [Place.add, Place.mem.injEq] at hd
        exact ⟨[], by rw [hd.1]; simpa using h5⟩
      · rw [hκ] at hm1; simp only [Place.mem.injEq] at hm1
        exact ⟨.idx i :: q1, by rw [hm1.1, hg1]; simp⟩
    cases h with
    | own a1 a2 a3 a4 a5 a6 a7 a8 =>
      rw [h1] at a1; cases a1
      rw [h2] at a3; cases a3
      rename_i es
      have hA := hb a.block (.inr ⟨[], by simpa using h5, by simp⟩)
      refine .own (a := a) (cap := cap) h1 hp1 ?_ a4 (by simpa [T.es] using a5) (by rw [hA.1]; exact h5) (hA.2.2 _ a7) fun k t' ht' => ?_
      · have := hi 0 (by rw [hE.one _ (by simp [h1])]; omega) (fun n hn' _ => ?_)
        · rw [Place.add_zero] at this; rw [this, h2]; simp [T.es]
        · rw [Place.add_zero] at hn'
          obtain ⟨q1, hq1⟩ := hown
          exact (hsep _ _ hn').2 q1 hq1
      · rw [hp2]
        simp only [T.es] at ht'
        by_cases hk : k = i
        · subst hk
          rw [List.getElem?_set_self (by omega)] at ht'; cases ht'
          refine ih hκ (a8 k _ (nth_of h3)) hw.2 hp3 (by simpa using hn) ?_ ?_ ?_
          · intro b hb'
            exact hb b (hb'.imp id fun ⟨q', hq', hn'⟩ => ⟨.idx k :: q', by rw [hq']; simp, pre_cons hn'⟩)
          · intro m hm hne
            exact hA.2.1 _ fun ⟨e1, e2⟩ => hne (a.off + k * E.sz e + m) (by simp [Place.add, e1]) e2
          · intro b n hbn
            simp only [Place.mem.injEq] at hbn
            obtain ⟨rfl, _⟩ := hbn
            rw [h5]
            exact ⟨by simp, fun q' e => by simp at e⟩
        · rw [List.getElem?_set_ne (Ne.symm hk)] at ht'
          refine (a8 k t' ht').frame hE ?_ ?_
          · intro m hm
            refine hA.2.1 _ fun ⟨e1, e2⟩ => ?_
            rcases hwh with ⟨_, d, hd, hd'⟩ | ⟨b', o'', q1, i', q2, hm1, hg1, _⟩
            · rw [hκ] at hd; simp only [Place.add, Place.mem.injEq] at hd
              have := mul_apart (Ne.symm hk) hd' m hm
              rw [hd.2] at e2; omega
            · rw [hκ] at hm1; simp only [Place.mem.injEq] at hm1
              rw [← hm1.1, ← e1, h5] at hg1
              simp at hg1
          · intro b hl
            have hset : g b = .frz ∨ ∃ q', g b = .at r (p ++ q') ∧ ¬ (.idx i :: q) <+: q' := by
              rcases hl with hl | ⟨q', hl⟩
              · exact .inl hl
              · refine .inr ⟨.idx k :: q', by rw [hl]; simp, fun hpre => ?_⟩
                have := ((List.cons_prefix_cons).1 hpre).1
                simp only [Step.idx.injEq] at this; exact hk this.symm
            obtain ⟨c1, c2, c3⟩ := hb b hset
            refine ⟨⟨fun n => c2 n fun ⟨e1, e2⟩ => ?_, c3⟩, c1⟩
            subst e1
            rcases hwh with ⟨_, d, hd, hd'⟩ | ⟨b', o'', q1, i', q2, hm1, hg1, _⟩
            · rw [hκ] at hd; simp only [Place.add, Place.mem.injEq] at hd
              rw [hd.1] at hl
              rcases hl with hl | ⟨q', hl⟩
              · rw [h5] at hl; cases hl
              · rw [h5] at hl; simp at hl
            · rw [hκ] at hm1; simp only [Place.mem.injEq] at hm1
              obtain ⟨rfl, _⟩ := hm1
              rcases hl with hl | ⟨q', hl⟩
              · rw [hg1] at hl; cases hl
              · rw [hg1] at hl
                simp only [Own.at.injEq, true_and, List.append_assoc, List.append_cancel_left_eq, List.singleton_append, List.cons.injEq, Step.idx.injEq] at hl
                exact hk hl.1.symm
    | fz a1 a2 a3 a4 a5 a6 => rw [h2] at a2; cases a2; rw [h5] at a5; cases a5
    | fz0 a1 a2 => rw [h2] at a2; cases a2; omega
    | own0 a1 a2 a3 => rw [h2] at a3; cases a3
    | dead => simp [O.own] at hw
    | _ => simp_all
end Go.Proofs.YtfelodpbejdhlaaDoor.Ra
/- What the evaluator's state says of the machine's: values, roots, and how they are carried over a change. -/
namespace Go.Proofs.YtfelodpbejdhlaaDoor.Ra
open Go Go.RowKit

theorem Rep.frame_fz {E : Env} (hE : TyWf E) {w w' : World} {g g' : Gh} {ty : Nat} {t : T} {r : Nat} {p : List Step} {κ : Place} (h : Rep E w g ty t .fz r p κ)
    (hc : ∀ k, k < E.sz ty → rd w' (κ.add k) = rd w (κ.add k)) (hf : ∀ b, g b = .frz → SameBlk w w' b ∧ g' b = .frz) (r' : Nat) (p' : List Step) :
    Rep E w' g' ty t .fz r' p' κ := by
  classical
  let g₁ : Gh := fun b => if g b = .frz then .frz else .free
  have h1 : Rep E w g₁ ty t .fz r p κ := h.frozen rfl (fun b hb => by simp [g₁, hb]) _ _
  have h2 : Rep E w' g₁ ty t .fz r p κ := h1.frame hE hc fun b hl => by
    rcases hl with hl | ⟨q, hl⟩
    · by_cases hb : g b = .frz
      · exact ⟨(hf b hb).1, rfl⟩
      · simp [g₁, hb] at hl
    · by_cases hb : g b = .frz <;> simp [g₁, hb] at hl
  exact h2.frozen rfl (fun b hb => by
    by_cases hb' : g b = .frz
    · exact (hf b hb').2
    · simp [g₁, hb'] at hb) _ _

theorem off_find {E : Env} : ∀ {fs : List Nat} {k : Nat}, k < (fs.map E.sz).sum → ∃ j f, fs[j]? = some f ∧ off E fs j ≤ k ∧ k < off E fs j + E.sz f := by
  intro fs
  induction fs with
  | nil => intro k h; simp at h
  | cons f fs ih =>
    intro k h
    simp only [List.map_cons, List.sum_cons] at h
    by_cases hk : k < E.sz f
    · exact ⟨0, f, rfl, by simp [off], by simpa [off] using hk⟩
    · obtain ⟨j, f', hj, h1, h2⟩ := ih (k := k - E.sz f) (by omega)
      refine ⟨j + 1, f', by simpa using hj, ?_, ?_⟩ <;> simp only [off, List.take_succ_cons, List.map_cons, List.sum_cons] at * <;> omega

theorem Rep.cells {E : Env} (hE : TyWf E) {w : World} {g : Gh} {ty : Nat} {t : T} {o : O} {r : Nat} {p : List Step} {κ : Place} (h : Rep E w g ty t o r p κ) :
    o.live = true → ∀ k, k < E.sz ty → ∃ v, rd w (κ.add k) = some v ∧ v.cells = #[v] := by
  induction h with
  | int h1 h2 => intro _ k hk; rw [hE.one _ (by simp [h1])] at hk; obtain rfl : k = 0 := by omega
                 exact ⟨_, by rw [Place.add_zero]; exact h2, rfl⟩
  | bool h1 h2 => intro _ k hk; rw [hE.one _ (by simp [h1])] at hk; obtain rfl : k = 0 := by omega
                  exact ⟨_, by rw [Place.add_zero]; exact h2, rfl⟩
  | str h1 h2 => intro _ k hk; rw [hE.one _ (by simp [h1])] at hk; obtain rfl : k = 0 := by omega
                 exact ⟨_, by rw [Place.add_zero]; exact h2, rfl⟩
  | fn vs cts h1 h3 h4 h5 h6 => intro _ k hk; rw [hE.one _ (by simp [h1])] at hk; obtain rfl : k = 0 := by omega
                                exact ⟨_, by rw [Place.add_zero]; exact h6, rfl⟩
  | cp h1 h2 => intro _ k hk; rw [hE.one _ (by simp [h1])] at hk; obtain rfl : k = 0 := by omega
                exact ⟨_, by rw [Place.add_zero]; exact h2, rfl⟩
  | dead => intro h; simp [O.live] at h
  | fz0 h1 h2 => intro _ k hk; rw [hE.one _ (by simp [h1])] at hk; obtain rfl : k = 0 := by omega
                 exact ⟨_, by rw [Place.add_zero]; exact h2, rfl⟩
  | fz h1 h2 => intro _ k hk; rw [hE.one _ (by simp [h1])] at hk; obtain rfl : k = 0 := by omega
                exact ⟨_, by rw [Place.add_zero]; exact h2, rfl⟩
  | own0 h1 _ h2 => intro _ k hk; rw [hE.one _ (by simp [h1])] at hk; obtain rfl : k = 0 := by omega
                    exact ⟨_, by rw [Place.add_zero]; exact h2, rfl⟩
  | own h1 _ h2 => intro _ k hk; rw [hE.one _ (by simp [h1])] at hk; obtain rfl : k = 0 := by omega
                   exact ⟨_, by rw [Place.add_zero]; exact h2, rfl⟩
  | @st ty fs ts o r p κ h1 h2 h3 ih =>
    intro hl k hk
    rw [hE.sum _ _ h1] at hk
    obtain ⟨j, f, hj, a1, a2⟩ := off_find hk
    have hj' := (List.getElem?_eq_some_iff.1 hj).1
    obtain ⟨v, hv, hv'⟩ := ih j f _ hj (fld_of (by omega)) (live_fld hl j) (k - off E fs j) (by omega)
    rw [Place.add_add, Nat.add_sub_cancel' a1] at hv
    exact ⟨v, hv, hv'⟩

/-- A value without parts that lie elsewhere. -/
def Plain (v : Value) : Prop := (∃ k n, v = .int k n) ∨ (∃ b, v = .bool b) ∨ ∃ s, v = .string s
theorem Rep.plain {E : Env} (hE : TyWf E) {w : World} {g : Gh} {ty : Nat} {t : T} {o : O} {r : Nat} {p : List Step} {κ : Place} (h : Rep E w g ty t o r p κ) :
    o.live = true → E.flat ty = true → ∀ k, k < E.sz ty → ∃ v, rd w (κ.add k) = some v ∧ Plain v := by
  induction h with
  | int h1 h2 => intro _ _ k hk; rw [hE.one _ (by simp [h1])] at hk; obtain rfl : k = 0 := by omega
                 exact ⟨_, by rw [Place.add_zero]; exact h2, .inl ⟨_, _, rfl⟩⟩
  | bool h1 h2 => intro _ _ k hk; rw [hE.one _ (by simp [h1])] at hk; obtain rfl : k = 0 := by omega
                  exact ⟨_, by rw [Place.add_zero]; exact h2, .inr (.inl ⟨_, rfl⟩)⟩
  | str h1 h2 => intro _ _ k hk; rw [hE.one _ (by simp [h1])] at hk; obtain rfl : k = 0 := by omega
                 exact ⟨_, by rw [Place.add_zero]; exact h2, .inr (.inr ⟨_, rfl⟩)⟩
  | fn vs cts h1 h3 h4 h5 h6 => intro _ h; rw [hE.flat_fn _ _ _ h1] at h; cases h
  | cp h1 h2 => intro _ h; rw [hE.flat_cp _ _ h1] at h; cases h
  | dead => intro h; simp [O.live] at h
  | fz0 h1 h2 => intro _ h; rw [hE.flat_sl _ _ h1] at h; cases h
  | fz h1 h2 => intro _ h; rw [hE.flat_sl _ _ h1] at h; cases h
  | own0 h1 _ h2 => intro _ h; rw [hE.flat_sl _ _ h1] at h; cases h
  | own h1 _ h2 => intro _ h; rw [hE.flat_sl _ _ h1] at h; cases h
  | @st ty fs ts o r p κ h1 h2 h3 ih =>
    intro hl hf k hk
    rw [hE.sum _ _ h1] at hk
    obtain ⟨j, f, hj, a1, a2⟩ := off_find hk
    have hj' := (List.getElem?_eq_some_iff.1 hj).1
    obtain ⟨v, hv, hv'⟩ := ih j f _ hj (fld_of (by omega)) (live_fld hl j) (hE.flat_st _ _ h1 hf f (List.mem_of_getElem? hj)) (k - off E fs j) (by omega)
    rw [Place.add_add, Nat.add_sub_cancel' a1] at hv
    exact ⟨v, hv, hv'⟩
/-- What owns nothing may be told as owned in whatever way. -/
theorem Rep.flat {E : Env} (hE : TyWf E) {w : World} {g : Gh} {ty : Nat} {t : T} {o : O} {r : Nat} {p : List Step} {κ : Place} (h : Rep E w g ty t o r p κ)
    {w' : World} {g' : Gh} {o' : O} {r' : Nat} {p' : List Step} {κ' : Place} :
    o.live = true → E.flat ty = true → (∀ k, k < E.sz ty → rd w' (κ'.add k) = rd w (κ.add k)) → Rep E w' g' ty t o' r' p' κ' := by
  induction h generalizing o' p' κ' with
  | int h1 h2 => intro _ _ hk; exact .int h1 (by have := hk 0 (by rw [hE.one _ (by simp [h1])]; omega); rw [Place.add_zero, Place.add_zero] at this; rw [this]; exact h2)
  | bool h1 h2 => intro _ _ hk; exact .bool h1 (by have := hk 0 (by rw [hE.one _ (by simp [h1])]; omega); rw [Place.add_zero, Place.add_zero] at this; rw [this]; exact h2)
  | str h1 h2 => intro _ _ hk; exact .str h1 (by have := hk 0 (by rw [hE.one _ (by simp [h1])]; omega); rw [Place.add_zero, Place.add_zero] at this; rw [this]; exact h2)
  | fn vs cts h1 h3 h4 h5 h6 => intro _ h; rw [hE.flat_fn _ _ _ h1] at h; cases h
  | cp h1 h2 => intro _ h; rw [hE.flat_cp _ _ h1] at h; cases h
  | dead => intro h; simp [O.live] at h
  | fz0 h1 h2 => intro _ h; rw [hE.flat_sl _ _ h1] at h; cases h
  | fz h1 h2 => intro _ h; rw [hE.flat_sl _ _ h1] at h; cases h
  | own0 h1 _ h2 => intro _ h; rw [hE.flat_sl _ _ h1] at h; cases h
  | own h1 _ h2 => intro _ h; rw [hE.flat_sl _ _ h1] at h; cases h
  | st h1 h2 h3 ih =>
    intro hl hf hk
    refine .st h1 h2 fun j f t hj ht => ih j f t hj ht (live_fld hl j) (hE.flat_st _ _ h1 hf f (List.mem_of_getElem? hj)) fun k hk' => ?_
    rw [Place.add_add, Place.add_add]
    exact hk _ (by rw [hE.sum _ _ h1]; have := off_le (E := E) hj; omega)

structure RtOk (E : Env) (w : World) (g : Gh) (hold : Nat → Place) (r : Nat) (R : Rt) : Prop where
  rep : Rep E w g R.ty R.t R.o r [] (hold r)
  box : R.box = true → ∃ b o, hold r = .mem b o ∧ g b = .hd r ∧ BlkOk w b (o + E.sz R.ty)
  reg : R.box = false → ∃ vs, hold r = .reg vs 0

inductive AvOk (E : Env) (w : World) (g : Gh) (rt : Nat → Option Rt) (hold : Nat → Place) : AV → Value → Prop
  | undef {v} : AvOk E w g rt hold .undef v
  | val {ty t v} : Rep E w g ty t .fz 0 [] (.reg v.cells.toList 0) → Shaped E ty v → AvOk E w g rt hold (.val ty t) v
  | cst {v} : AvOk E w g rt hold (.cst v) v
  | nil {ty e} : E.ty ty = .sl e → AvOk E w g rt hold (.nil ty) (.slice none 0 0)
  | fnc {f} : AvOk E w g rt hold (.fnc f) (.func (.func f) #[] #[])
  | gd {b a v} : (b = true → AvOk E w g rt hold a v) → (b = false → v = Go.undef) → AvOk E w g rt hold (.gd b a) v
  | sref {ty e r p A n c R κ} : rt r = some R → E.ty ty = .sl e → Sub E w g r R.ty [] (hold r) p ty κ → rd w κ = some (.slice A n c) →
      AvOk E w g rt hold (.sref ty r p) (.slice A n c)
  | sub {ty e r p lo hi A len cap A' cap' R κ} : rt r = some R → E.ty ty = .sl e → Sub E w g r R.ty [] (hold r) p ty κ → rd w κ = some (.slice A len cap) →
      lo ≤ hi → hi ≤ len → hi - lo ≤ cap' → lo + cap' ≤ cap →
      ((A = none ∧ A' = none) ∨ ∃ b x y, A = some ⟨b, x, none⟩ ∧ A' = some ⟨b, y, none⟩ ∧ y ≤ x + lo * E.sz e ∧ (cap' = 0 ∨ y = x + lo * E.sz e)) →
      AvOk E w g rt hold (.sub ty r p lo hi) (.slice A' (hi - lo) cap')
  | pref {ty r p b o R} : rt r = some R → Sub E w g r R.ty [] (hold r) p ty (.mem b o) → AvOk E w g rt hold (.pref ty r p) (.pointer (some ⟨b, o, none⟩))
  | pv {ty a v b o} : AvOk E w g rt hold a v → Shaped E ty v → g b = .frz → (∀ k, k < E.sz ty → w.cell? ⟨b, o + k, none⟩ = v.cells[k]?) → AvOk E w g rt hold (.pv ty a) (.pointer (some ⟨b, o, none⟩))
  | fptr {ty t a} : a.spot = none → g a.block = .frz → Rep E w g ty t .fz 0 [] (.mem a.block a.off) → AvOk E w g rt hold (.fptr ty t) (.pointer (some a))
  | agg {ty fs l} {vs : List Value} : E.ty ty = .st fs → l.length = fs.length → vs.length = fs.length →
      (∀ (j : Nat) (a : AV) (v : Value), l[j]? = some a → vs[j]? = some v → AvOk E w g rt hold a v) →
      (∀ (j f : Nat) (v : Value), fs[j]? = some f → vs[j]? = some v → Shaped E f v) → AvOk E w g rt hold (.agg ty l) (.agg (vs.flatMap fun v => v.cells.toList).toArray)
  | tup {l} {vs : List Value} : l.length = vs.length → (∀ (j : Nat) (a : AV) (v : Value), l[j]? = some a → vs[j]? = some v → AvOk E w g rt hold a v) →
      AvOk E w g rt hold (.tup l) (.tuple vs.toArray)

/-- The references that do not die name what they named. -/
def Surv (E : Env) (w : World) (g : Gh) (rt : Nat → Option Rt) (hold : Nat → Place) (w' : World) (g' : Gh) (rt' : Nat → Option Rt) (hold' : Nat → Place) (ks : Ks) : Prop :=
  ∀ r R, rt r = some R →
    (∀ p ty e κ v, E.ty ty = .sl e → Sub E w g r R.ty [] (hold r) p ty κ → rd w κ = some v → (∃ A n c, v = .slice A n c) → diesS ks r p = false →
      ∃ R' κ', rt' r = some R' ∧ Sub E w' g' r R'.ty [] (hold' r) p ty κ' ∧ rd w' κ' = some v) ∧
    (∀ p ty b o, Sub E w g r R.ty [] (hold r) p ty (.mem b o) → diesP ks r p = false →
      ∃ R', rt' r = some R' ∧ Sub E w' g' r R'.ty [] (hold' r) p ty (.mem b o))

theorem cutL_eq (ks : Ks) : ∀ l, AV.cutL ks l = l.map (AV.cut ks)
  | [] => rfl
  | a :: l => by simp [AV.cutL, cutL_eq ks l]

theorem AvOk.cut {E : Env} (hE : TyWf E) {w w' : World} {g g' : Gh} {rt rt' : Nat → Option Rt} {hold hold' : Nat → Place} {ks : Ks}
    (hf : ∀ b, g b = .frz → SameBlk w w' b ∧ g' b = .frz) (hs : Surv E w g rt hold w' g' rt' hold' ks) {a : AV} {v : Value} (h : AvOk E w g rt hold a v) :
    AvOk E w' g' rt' hold' (a.cut ks) v := by
  induction h with
  | undef => exact .undef
  | val h1 h2 => exact .val (h1.frame_fz (w' := w') hE (fun _ _ => rfl) hf _ _) h2
  | cst => exact .cst
  | nil h => exact .nil h
  | fnc => exact .fnc
  | gd _ h2 ih => exact .gd ih h2
  | @sref ty e r p A n c R κ h1 h2 h3 h4 =>
    simp only [AV.cut]
    cases hd : diesS ks r p with
    | true => exact .undef
    | false =>
      obtain ⟨R', κ', a1, a2, a3⟩ := (hs _ _ h1).1 _ _ _ _ _ h2 h3 h4 ⟨_, _, _, rfl⟩ hd
      exact .sref a1 h2 a2 a3
  | @sub ty e r p lo hi A len cap A' cap' R κ h1 h2 h3 h4 h5 h6 h7 h8 h9 =>
    simp only [AV.cut]
    cases hd : diesS ks r p with
    | true => exact .undef
    | false =>
      obtain ⟨R', κ', a1, a2, a3⟩ := (hs _ _ h1).1 _ _ _ _ _ h2 h3 h4 ⟨_, _, _, rfl⟩ hd
      exact .sub a1 h2 a2 a3 h5 h6 h7 h8 h9
  | @pref ty r p b o R h1 h2 =>
    simp only [AV.cut]
    cases hd : diesP ks r p with
    | true => exact .undef
    | false =>
      obtain ⟨R', a1, a2⟩ := (hs _ _ h1).2 _ _ _ _ h2 hd
      exact .pref a1 a2
  | pv _ h2 h3 h4 ih => exact .pv ih h2 (hf _ h3).2 fun k hk => by rw [(hf _ h3).1.1]; exact h4 k hk
  | fptr h1 h2 h3 => exact .fptr h1 (hf _ h2).2 (h3.frame_fz hE (fun k _ => (hf _ h2).1.1 _) hf _ _)
  | agg h1 h2 h3 h4 h5 ih =>
    simp only [AV.cut, cutL_eq]
    refine .agg h1 (by simpa using h2) h3 (fun j a v ha hv => ?_) h5
    simp only [List.getElem?_map, Option.map_eq_some_iff] at ha
    obtain ⟨a', ha', rfl⟩ := ha
    exact ih j a' v ha' hv
  | tup h1 h2 ih =>
    simp only [AV.cut, cutL_eq]
    refine .tup (by simpa using h1) (fun j a v ha hv => ?_)
    simp only [List.getElem?_map, Option.map_eq_some_iff] at ha
    obtain ⟨a', ha', rfl⟩ := ha
    exact ih j a' v ha' hv

/-- A step of the world: what is frozen, or nobody's, stays. -/
structure Stp (w : World) (g : Gh) (w' : World) (g' : Gh) : Prop where
  os : w'.os = w.os
  tape : w'.tape = w.tape
  output : w'.output = w.output
  size : w.heap.size ≤ w'.heap.size
  keep : ∀ b, b < w.heap.size → (g b = .free ∨ g b = .frz) → w'.heap[b]? = w.heap[b]? ∧ g' b = g b
theorem Stp.refl (w : World) (g : Gh) : Stp w g w g := ⟨rfl, rfl, rfl, Nat.le_refl _, fun _ _ _ => ⟨rfl, rfl⟩⟩
theorem Stp.trans {w w' w'' : World} {g g' g'' : Gh} (h : Stp w g w' g') (h' : Stp w' g' w'' g'') : Stp w g w'' g'' :=
  ⟨h'.os.trans h.os, h'.tape.trans h.tape, h'.output.trans h.output, Nat.le_trans h.size h'.size, fun b hb hg => by
    obtain ⟨a1, a2⟩ := h.keep b hb hg
    obtain ⟨b1, b2⟩ := h'.keep b (Nat.lt_of_lt_of_le hb h.size) (by rw [a2]; exact hg)
    exact ⟨b1.trans a1, b2.trans a2⟩⟩
theorem Stp.drew (w : World) (g : Gh) : Stp w g { w with drawn := w.drawn + 1 } g := ⟨rfl, rfl, rfl, Nat.le_refl _, fun _ _ _ => ⟨rfl, rfl⟩⟩

/-- The known blocks are frozen, and hold what is known. -/
def Kn (E : Env) (w : World) (g : Gh) : Prop := ∀ b cs, (b, cs) ∈ E.tab → g b = .frz ∧ ∀ o, w.cell? ⟨b, o, none⟩ = cs[o]?
theorem Kn.step {E : Env} {w w' : World} {g g' : Gh} (h : Kn E w g) (hf : ∀ b, g b = .frz → SameBlk w w' b ∧ g' b = .frz) : Kn E w' g' := fun b cs hb => by
  obtain ⟨h1, h2⟩ := h b cs hb
  exact ⟨(hf b h1).2, fun o => ((hf b h1).1.1 o).trans (h2 o)⟩
structure Inv (E : Env) (n : Nat) (st : St) (a : Act) (w : World) (g : Gh) (hold : Nat → Place) : Prop where
  size : a.tmps.size = n
  defers : a.defers = []
  tms : ∀ t, AvOk E w g st.rt hold (st.tm t) (a.tmps.getD t undef)
  rts : ∀ r R, st.rt r = some R → RtOk E w g hold r R
  bnd : ∀ b, g b ≠ .free → b < w.heap.size
  kn : Kn E w g

theorem Inv.opd {E : Env} {n : Nat} {st : St} {a : Act} {w : World} {g : Gh} {hold : Nat → Place} (h : Inv E n st a w g hold) (x : Operand) :
    AvOk E w g st.rt hold (opd st x) (a.eval x) := by
  cases x with
  | tmp t => exact h.tms t
  | const v => exact .cst
  | func f => exact .fnc
  | global g => exact .undef

theorem cut_nil : ∀ (a : AV), a.cut [] = a
  | .gd b a => by simp [AV.cut, cut_nil a]
  | .sref _ _ _ => rfl
  | .sub _ _ _ _ _ => rfl
  | .pref _ _ _ => rfl
  | .agg ty l => by
    have : AV.cutL [] l = l := cut_nils l
    simp [AV.cut, this]
  | .tup l => by
    have : AV.cutL [] l = l := cut_nils l
    simp [AV.cut, this]
  | .undef => rfl
  | .val _ _ => rfl
  | .cst _ => rfl
  | .nil _ => rfl
  | .fnc _ => rfl
  | .fptr _ _ => rfl
  | .pv ty a => by simp [AV.cut, cut_nil a]
where cut_nils : ∀ (l : List AV), AV.cutL [] l = l
  | [] => rfl
  | a :: l => by simp [AV.cutL, cut_nil a, cut_nils l]

theorem Inv.apply {E : Env} (hE : TyWf E) {n : Nat} {st : St} {a : Act} {w : World} {g : Gh} {hold : Nat → Place} (h : Inv E n st a w g hold)
    {d : Option Nat} {u : Upd} {v : Value} {w' : World} {g' : Gh} {hold' : Nat → Place}
    (hd : ∀ x, d = some x → x < n) (hf : ∀ b, g b = .frz → SameBlk w w' b ∧ g' b = .frz)
    (hs : Surv E w g st.rt hold w' g' (applyU d u st).rt hold' u.ks)
    (hr : ∀ r R, (applyU d u st).rt r = some R → RtOk E w' g' hold' r R) (hb : ∀ b, g' b ≠ .free → b < w'.heap.size)
    (hv : d.isSome = true → AvOk E w' g' (applyU d u st).rt hold' u.av v) : Inv E n (applyU d u st) (a.put d v) w' g' hold' := by
  have hcut : ∀ t, AvOk E w' g' (applyU d u st).rt hold' (bif u.ks.isEmpty then st.tm t else (st.tm t).cut u.ks) (a.tmps.getD t undef) := by
    intro t
    have := (h.tms t).cut hE hf hs
    cases hk : u.ks.isEmpty with
    | false => exact this
    | true => rw [List.isEmpty_iff.1 hk, cut_nil] at this; exact this
  refine ⟨?_, ?_, fun t => ?_, hr, hb, h.kn.step hf⟩
  · cases d <;> simp [Act.put, h.size]
  · cases d <;> simp [Act.put, h.defers]
  · cases d with
    | none => simpa [applyU, Act.put] using hcut t
    | some x =>
      have hx := hd x rfl
      by_cases ht : t = x
      · subst ht
        have : (a.put (some t) v).tmps.getD t undef = v := by
          simp [Act.put, Array.getD_eq_getD_getElem?, h.size, hx]
        rw [this]
        simpa [applyU] using hv rfl
      · have h1 : (a.put (some x) v).tmps.getD t undef = a.tmps.getD t undef := by
          simp [Act.put, Array.getD_eq_getD_getElem?, Ne.symm ht]
        rw [h1]
        have h2 : Nat.beq t x = false := by
          cases hbq : Nat.beq t x with
          | false => rfl
          | true => exact absurd (Nat.eq_of_beq_eq_true hbq) ht
        simpa [applyU, h2] using hcut t
end Go.Proofs.YtfelodpbejdhlaaDoor.Ra
/- The program's own tables against the evaluator's; values of operands; operations that only reckon. -/
namespace Go.Proofs.YtfelodpbejdhlaaDoor.Ra
open Go Go.RowKit

structure PrOk (P : Program) (E : Env) : Prop where
  wf : TyWf E
  int : ∀ t k, E.ty t = .int k → P.underlying t = some (.int k)
  bool : ∀ t, E.ty t = .bool → P.underlying t = some .bool
  str : ∀ t, E.ty t = .str → P.underlying t = some .string
  sl : ∀ t e, E.ty t = .sl e → P.underlying t = some (.slice e) ∧ okTy E e = true
  st : ∀ t fs, E.ty t = .st fs → ∃ fds, P.underlying t = some (.struct fds) ∧ fds.size = fs.length ∧ P.stoodInHeld t = false ∧ P.eqGuardType P.depth t = false ∧
    ∀ j f fd, fs[j]? = some f → fds[j]? = some fd → fd.type = f ∧ fd.offset = off E fs j ∧ E.sz f ≠ 0 ∧ fd.name ≠ "_" ∧ okTy E f = true
  fn : ∀ t ps rs, E.ty t = .fn ps rs → ∃ b, P.underlying t = some (.func ps.toArray rs.toArray b)
  ptr : ∀ t e, E.ty t = .ptr e → P.underlying t = some (.pointer e) ∧ okTy E e = true
  info : ∀ t, okTy E t = true → ∃ i, P.info? t = some i ∧ i.size = E.sz t ∧ i.bytes ≤ 4096
  zero : ∀ t, E.zok t = true → okTy E t = true ∧ ∃ i z, P.info? t = some i ∧ i.zero = some z ∧ Shaped E t z ∧ z.cells.toList = E.zc t
  zc_st : ∀ t fs, E.zok t = true → E.ty t = .st fs → E.zc t = fs.flatMap E.zc ∧ E.zero t = .st (fs.map E.zero) ∧ ∀ f ∈ fs, E.zok f = true
  zc_sl : ∀ t e, E.zok t = true → E.ty t = .sl e → E.zc t = [.slice none 0 0] ∧ E.zero t = .sl []
  zrep : ∀ t, E.zok t = true → ∀ w g r p, Rep E w g t (E.zero t) .dp r p (.reg (E.zc t) 0)

theorem shaped_one {E : Env} {ty : Nat} {v : Value} (hE : TyWf E) (h : match E.ty ty with | .st _ => False | .bad => False | _ => True) (hv : v.cells = #[v]) : Shaped E ty v := by
  refine ⟨by rw [hE.one _ h, hv]; rfl, ?_⟩
  split <;> simp_all

theorem flatMap_get {vs : List Value} {fs : List Nat} {E : Env} : ∀ (_ : vs.length = fs.length)
    (_ : ∀ (j f : Nat) (v : Value), fs[j]? = some f → vs[j]? = some v → Shaped E f v) (j f : Nat) (v : Value), fs[j]? = some f → vs[j]? = some v →
    ∀ k, k < E.sz f → (vs.flatMap fun v => v.cells.toList)[off E fs j + k]? = v.cells.toList[k]? := by
  induction vs generalizing fs with
  | nil => intro h _ j f v hf hv; simp at hv
  | cons a vs ih =>
    intro hl hs j f v hf hv k hk
    cases fs with
    | nil => simp at hf
    | cons f₀ fs =>
      have h0 := (hs 0 f₀ a rfl rfl).1
      simp only [List.flatMap_cons]
      cases j with
      | zero =>
        simp at hf hv; subst hf; subst hv
        rw [List.getElem?_append_left (by simp [off]; omega)]
        simp [off]
      | succ j =>
        simp only [List.getElem?_cons_succ] at hf hv
        have := ih (by simpa using hl) (fun j f v a b => hs (j + 1) f v (by simpa using a) (by simpa using b)) j f v hf hv k hk
        rw [List.getElem?_append_right (by simp [off]; omega), ← this]
        congr 1
        simp [off, h0]; omega

theorem flatMap_len {E : Env} : ∀ {vs : List Value} {fs : List Nat}, vs.length = fs.length →
    (∀ (j f : Nat) (v : Value), fs[j]? = some f → vs[j]? = some v → Shaped E f v) → (vs.flatMap fun v => v.cells.toList).length = (fs.map E.sz).sum := by
  intro vs
  induction vs with
  | nil => intro fs hl _; cases fs <;> simp_all
  | cons a vs ih =>
    intro fs hl hs
    cases fs with
    | nil => simp at hl
    | cons f fs =>
      have h0 := (hs 0 f a rfl rfl).1
      have := ih (fs := fs) (by simpa using hl) (fun j f v a b => hs (j + 1) f v (by simpa using a) (by simpa using b))
      rw [List.flatMap_cons, List.length_append, this, Array.length_toList, h0]; rfl
theorem Shaped.agg {E : Env} (hE : TyWf E) {ty : Nat} {fs : List Nat} (h : E.ty ty = .st fs) {vs : List Value} (hl : vs.length = fs.length)
    (hs : ∀ (j f : Nat) (v : Value), fs[j]? = some f → vs[j]? = some v → Shaped E f v) : Shaped E ty (.agg (vs.flatMap fun v => v.cells.toList).toArray) := by
  refine ⟨?_, by rw [h]; exact ⟨_, rfl⟩⟩
  rw [hE.sum _ _ h, ← flatMap_len hl hs]
  exact List.size_toArray

section
variable {P : Program} {E : Env} {w : World} {g : Gh} {rt : Nat → Option Rt} {hold : Nat → Place}

theorem constT_ok (hE : TyWf E) {ty : Nat} {v : Value} {t : T} {g : Gh} {o : O} {r : Nat} {p : List Step} (ho : o.own = true ∨ o = .fz) (h : constT (E.ty ty) v = some t) :
    Rep E w g ty t o r p (.reg v.cells.toList 0) ∧ Shaped E ty v := by
  unfold constT at h
  split at h <;> try (cases h; done)
  · rename_i k k' n he
    cases hk : decide (k = k') with
    | false => simp [hk] at h
    | true =>
      simp [hk] at h; subst h
      have := of_decide_eq_true hk; subst this
      exact ⟨.int he rfl, shaped_one hE (by simp [he]) rfl⟩
  · rename_i b he; cases h; exact ⟨.bool he rfl, shaped_one hE (by simp [he]) rfl⟩
  · rename_i s he; cases h; exact ⟨.str he rfl, shaped_one hE (by simp [he]) rfl⟩
  · rename_i e he; cases h
    refine ⟨?_, shaped_one hE (by simp [he]) rfl⟩
    rcases ho with ho | rfl
    · exact .own0 he ho rfl
    · exact .fz0 (A := none) (cap := 0) he rfl

mutual
theorem vt_ok (hE : TyWf E) : ∀ {a : AV} {ty : Nat} {t : T} {v : Value}, sn E noRoot ty a = some t → AvOk E w g rt hold a v →
    Rep E w g ty t .fz 0 [] (.reg v.cells.toList 0) ∧ Shaped E ty v
  | .val ty' t', ty, t, v, h, hv => by
    simp only [sn] at h
    cases hb : Nat.beq ty' ty with
    | false => simp [hb] at h
    | true =>
      simp [hb] at h; subst h
      have := Nat.eq_of_beq_eq_true hb; subst this
      cases hv with
      | val h1 h2 => exact ⟨h1, h2⟩
  | .cst c, ty, t, v, h, hv => by
    simp only [sn] at h
    cases hv
    exact constT_ok hE (.inr rfl) h
  | .nil ty', ty, t, v, h, hv => by
    simp only [sn] at h
    cases hb : Nat.beq ty' ty with
    | false => simp [hb] at h
    | true =>
      simp [hb] at h; subst h
      have := Nat.eq_of_beq_eq_true hb; subst this
      cases hv with
      | nil he => exact ⟨.fz0 (A := none) (cap := 0) he rfl, shaped_one hE (by simp [he]) rfl⟩
  | .fnc f, ty, t, v, h, hv => by
    simp only [sn] at h
    split at h
    · rename_i ps rs he
      cases hb : fnFits E f [] ps rs with
      | false => simp [hb] at h
      | true =>
        simp [hb] at h; subst h
        cases hv
        exact ⟨.fn (cts := []) [] he hb rfl rfl rfl (fun i ct c v h => by simp at h) (fun i ct v h => by simp at h), shaped_one hE (by simp [he]) rfl⟩
    · cases h
  | .sref ty' r p, ty, t, v, h, hv => by simp [sn, noRoot] at h
  | .sub ty' r p lo hi, ty, t, v, h, hv => by simp [sn, noRoot] at h
  | .agg ty' l, ty, t, v, h, hv => by
    simp only [sn] at h
    split at h
    · rename_i fs he
      cases hb : Nat.beq ty' ty with
      | false => simp [hb] at h
      | true =>
        simp [hb] at h
        obtain ⟨ts, hts, rfl⟩ := h
        have := Nat.eq_of_beq_eq_true hb; subst this
        cases hv with
        | agg h1 h2 h3 h4 h5 =>
          rename_i vs
          rw [he] at h1; cases h1
          have hl := vts_ok hE hts
          refine ⟨.st he hl.1 fun j f t hf ht => ?_, Shaped.agg hE he h3 h5⟩
          have hjl : j < fs.length := (List.getElem?_eq_some_iff.1 hf).1
          obtain ⟨v, hv⟩ : ∃ v, vs[j]? = some v := ⟨vs[j]'(by omega), List.getElem?_eq_getElem _⟩
          obtain ⟨a, ha⟩ : ∃ a, l[j]? = some a := ⟨l[j]'(by omega), List.getElem?_eq_getElem _⟩
          have hr := (hl.2 j f t a v hf ht ha (h4 j a v ha hv)).1
          have hr' : Rep E w g f t .fz 0 ([] ++ [.fld j]) (.reg v.cells.toList 0) := hr.frozen rfl (fun _ h => h) _ _
          refine hr'.place hE fun k hk => ?_
          have := flatMap_get h3 h5 j f v hf hv k hk
          simpa [Place.add, rd, Value.cells] using this
    · cases h
  | .undef, ty, t, v, h, hv => by simp [sn] at h
  | .gd b a, ty, t, v, h, hv => by simp [sn] at h
  | .pref _ _ _, ty, t, v, h, hv => by simp [sn] at h
  | .fptr _ _, ty, t, v, h, hv => by simp [sn] at h
  | .pv ty' a, ty, t, v, h, hv => by
    simp only [sn] at h
    split at h
    · rename_i e he
      cases hb : Nat.beq e ty' with
      | false => simp [hb] at h
      | true =>
        simp only [hb, cond_true] at h
        have := Nat.eq_of_beq_eq_true hb; subst this
        cases hv with
        | pv h1 h2 h3 h4 =>
          obtain ⟨r1, _⟩ := vt_ok hE h h1
          refine ⟨.cp he rfl rfl h3 (r1.place hE fun k hk => ?_), shaped_one hE (by simp [he]) rfl⟩
          simp only [Place.add, rd, Nat.zero_add]
          rw [h4 k hk]; simp
    · cases h
  | .tup _, ty, t, v, h, hv => by simp [sn] at h
theorem vts_ok (hE : TyWf E) : ∀ {l : List AV} {fs : List Nat} {ts : List T}, snL E noRoot fs l = some ts → ts.length = fs.length ∧
    ∀ (j f : Nat) (t : T) (a : AV) (v : Value), fs[j]? = some f → ts[j]? = some t → l[j]? = some a → AvOk E w g rt hold a v → Rep E w g f t .fz 0 [] (.reg v.cells.toList 0) ∧ Shaped E f v
  | [], fs, ts, h => by
    cases fs with
    | nil => simp [snL] at h; subst h; exact ⟨rfl, fun j f t a v hf => by simp at hf⟩
    | cons f fs => simp [snL] at h
  | a :: l, fs, ts, h => by
    cases fs with
    | nil => simp [snL] at h
    | cons f fs =>
      simp only [snL] at h
      split at h
      · rename_i t ts' h1 h2
        cases h
        obtain ⟨i1, i2⟩ := vts_ok hE h2
        refine ⟨by simp [i1], fun j f' t' a' v hf ht ha hv => ?_⟩
        cases j with
        | zero => simp at hf ht ha; subst hf; subst ht; subst ha; exact vt_ok hE h1 hv
        | succ j => exact i2 j f' t' a' v (by simpa using hf) (by simpa using ht) (by simpa using ha) hv
      · cases h
end

/- ---- single values ---- -/
theorem vt_int (hE : TyWf E) {a : AV} {ty : Nat} {t : T} {v : Value} {k : IntKind} (hk : E.ty ty = .int k) (h : vt E ty a = some t) (hv : AvOk E w g rt hold a v) : v = .int k t.i := by
  obtain ⟨h1, h2⟩ := vt_ok hE h hv
  have hs := h2.2; rw [hk] at hs; simp only at hs
  rw [hs] at h1
  cases h1 <;> simp_all [rd, T.i]
theorem vt_bool (hE : TyWf E) {a : AV} {ty : Nat} {t : T} {v : Value} (hk : E.ty ty = .bool) (h : vt E ty a = some t) (hv : AvOk E w g rt hold a v) : v = .bool t.b := by
  obtain ⟨h1, h2⟩ := vt_ok hE h hv
  have hs := h2.2; rw [hk] at hs; simp only at hs
  rw [hs] at h1
  cases h1 <;> simp_all [rd, T.b]
theorem vt_str (hE : TyWf E) {a : AV} {ty : Nat} {t : T} {v : Value} (hk : E.ty ty = .str) (h : vt E ty a = some t) (hv : AvOk E w g rt hold a v) : v = .string t.s := by
  obtain ⟨h1, h2⟩ := vt_ok hE h hv
  have hs := h2.2; rw [hk] at hs; simp only at hs
  rw [hs] at h1
  cases h1 <;> simp_all [rd, T.s]
theorem val_int (hE : TyWf E) {ty : Nat} {k : IntKind} {n : Int} (h : E.ty ty = .int k) : AvOk E w g rt hold (.val ty (.int n)) (.int k n) :=
  .val (.int h rfl) (shaped_one hE (by simp [h]) rfl)
theorem val_bool (hE : TyWf E) {ty : Nat} {b : Bool} (h : E.ty ty = .bool) : AvOk E w g rt hold (.val ty (.bool b)) (.bool b) :=
  .val (.bool h rfl) (shaped_one hE (by simp [h]) rfl)
theorem val_str (hE : TyWf E) {ty : Nat} {s : ByteArray} (h : E.ty ty = .str) : AvOk E w g rt hold (.val ty (.str s)) (.string s) :=
  .val (.str h rfl) (shaped_one hE (by simp [h]) rfl)
end
end Go.Proofs.YtfelodpbejdhlaaDoor.Ra
/- How an operation is carried out: the frame; operations that turn no root. -/
namespace Go.Proofs.YtfelodpbejdhlaaDoor.Ra
open Go Go.RowKit

theorem Sub.frame {E : Env} (hE : TyWf E) {w w' : World} {g g' : Gh} {r : Nat} {ty : Nat} {p : List Step} {κ : Place} {q : List Step} {ty' : Nat} {κ' : Place}
    (h : Sub E w g r ty p κ q ty' κ') : (∀ k, k < E.sz ty → rd w' (κ.add k) = rd w (κ.add k)) → (∀ b, (∃ q, g b = .at r (p ++ q)) → SameBlk w w' b ∧ g' b = g b) →
    Sub E w' g' r ty p κ q ty' κ' ∧ ∀ k, k < E.sz ty' → rd w' (κ'.add k) = rd w (κ'.add k) := by
  induction h with
  | nil => intro hc hb; exact ⟨.nil, hc⟩
  | fld h1 h2 _ ih =>
    intro hc hb
    obtain ⟨i1, i2⟩ := ih (fun k hk => by rw [Place.add_add]; exact hc _ (by rw [hE.sum _ _ h1]; have := off_le (E := E) h2; omega))
      (fun b ⟨q, hq⟩ => hb b ⟨_ :: q, by rw [hq]; simp; rfl⟩)
    exact ⟨.fld h1 h2 i1, i2⟩
  | idx h1 h2 h3 h4 h5 _ ih =>
    intro hc hb
    have hA := hb _ ⟨[], by rw [h5]; simp⟩
    obtain ⟨i1, i2⟩ := ih (fun k _ => hA.1.1 _) (fun b ⟨q, hq⟩ => hb b ⟨_ :: q, by rw [hq]; simp; rfl⟩)
    exact ⟨.idx h1 (by rw [← h2]; simpa [Place.add_zero] using hc 0 (by rw [hE.one _ (by simp [h1])]; omega)) h3 h4 (by rw [hA.2, h5]) i1, i2⟩

theorem Sub.flds {E : Env} {w w' : World} {g g' : Gh} {r : Nat} {ty : Nat} {p : List Step} {κ : Place} {q : List Step} {ty' : Nat} {κ' : Place}
    (h : Sub E w g r ty p κ q ty' κ') : allFld q = true → Sub E w' g' r ty p κ q ty' κ' := by
  induction h with
  | nil => intro _; exact .nil
  | fld h1 h2 _ ih => intro hq; exact .fld h1 h2 (ih (by simpa [allFld] using hq))
  | idx => intro hq; simp [allFld] at hq

/-- Root r is left alone. -/
def Keeps (w : World) (g : Gh) (hold : Nat → Place) (w' : World) (g' : Gh) (hold' : Nat → Place) (r : Nat) : Prop :=
  hold' r = hold r ∧ ∀ b, (g b = .hd r ∨ ∃ q, g b = .at r q) → SameBlk w w' b ∧ g' b = g b

theorem Keeps.rd {E : Env} {w w' : World} {g g' : Gh} {hold hold' : Nat → Place} {r : Nat} {R : Rt} (hr : RtOk E w g hold r R) (h : Keeps w g hold w' g' hold' r) :
    ∀ k, rd w' ((hold r).add k) = rd w ((hold r).add k) := by
  intro k
  cases hb : R.box with
  | true =>
    obtain ⟨b, o, h1, h2, _⟩ := hr.box hb
    rw [h1]; exact (h.2 b (.inl h2)).1.1 _
  | false =>
    obtain ⟨vs, h1⟩ := hr.reg hb
    rw [h1]; rfl

theorem RtOk.keep {E : Env} (hE : TyWf E) {w w' : World} {g g' : Gh} {hold hold' : Nat → Place} {r : Nat} {R : Rt} (hr : RtOk E w g hold r R)
    (h : Keeps w g hold w' g' hold' r) (hf : ∀ b, g b = .frz → SameBlk w w' b ∧ g' b = .frz) : RtOk E w' g' hold' r R := by
  refine ⟨?_, fun hb => ?_, fun hb => ?_⟩
  · rw [h.1]
    refine hr.rep.frame hE (fun k _ => h.rd hr k) fun b hl => ?_
    rcases hl with hl | ⟨q, hl⟩
    · obtain ⟨a1, a2⟩ := hf b hl; exact ⟨a1, by rw [a2, hl]⟩
    · exact h.2 b (.inr ⟨q, by simpa using hl⟩)
  · obtain ⟨b, o, h1, h2, h3⟩ := hr.box hb
    obtain ⟨a1, a2⟩ := h.2 b (.inl h2)
    exact ⟨b, o, by rw [h.1, h1], by rw [a2, h2], a1.2 _ h3⟩
  · obtain ⟨vs, h1⟩ := hr.reg hb
    exact ⟨vs, by rw [h.1, h1]⟩

/-- One root over a change: left alone; its references dead; its slice alone still named; its fields' places alone still named. -/
inductive Carried (w : World) (g : Gh) (hold : Nat → Place) (w' : World) (g' : Gh) (rt' : Nat → Option Rt) (hold' : Nat → Place) (ks : Ks) (r : Nat) (R : Rt) : Prop
  | keep : rt' r = some R → Keeps w g hold w' g' hold' r → Carried w g hold w' g' rt' hold' ks r R
  | dead : assoc ks r = some 0 → Carried w g hold w' g' rt' hold' ks r R
  | val {R'} : R.box = false → rt' r = some R' → R'.ty = R.ty → hold' r = hold r → assoc ks r = some 1 → Carried w g hold w' g' rt' hold' ks r R
  | lent {R'} : R.box = true → rt' r = some R' → R'.ty = R.ty → hold' r = hold r → (∀ m, rd w' ((hold r).add m) = rd w ((hold r).add m)) → assoc ks r = some 3 → Carried w g hold w' g' rt' hold' ks r R
  | box {R'} : R.box = true → rt' r = some R' → R'.ty = R.ty → hold' r = hold r → assoc ks r = some 2 → Carried w g hold w' g' rt' hold' ks r R

theorem Surv.of {E : Env} (hE : TyWf E) {w w' : World} {g g' : Gh} {rt rt' : Nat → Option Rt} {hold hold' : Nat → Place} {ks : Ks}
    (hr : ∀ r R, rt r = some R → RtOk E w g hold r R) (h : ∀ r R, rt r = some R → Carried w g hold w' g' rt' hold' ks r R) : Surv E w g rt hold w' g' rt' hold' ks := by
  intro r R hR
  have ok := hr r R hR
  cases h r R hR with
  | keep h1 h2 =>
    have fr : ∀ {p ty κ}, Sub E w g r R.ty [] (hold r) p ty κ → Sub E w' g' r R.ty [] (hold' r) p ty κ ∧ ∀ k, k < E.sz ty → rd w' (κ.add k) = rd w (κ.add k) := by
      intro p ty κ hs
      rw [h2.1]
      exact hs.frame hE (fun k _ => h2.rd ok k) fun b ⟨q, hq⟩ => h2.2 b (.inr ⟨q, by simpa using hq⟩)
    refine ⟨fun p ty e κ v he hs hv _ _ => ?_, fun p ty b o hs _ => ⟨R, h1, (fr hs).1⟩⟩
    obtain ⟨a1, a2⟩ := fr hs
    exact ⟨R, κ, h1, a1, by rw [← hv]; simpa [Place.add_zero] using a2 0 (by rw [hE.one _ (by simp [he])]; omega)⟩
  | dead h1 => exact ⟨fun p ty e κ v _ _ _ _ hd => by simp [diesS, h1] at hd, fun p ty b o _ hd => by simp [diesP, h1] at hd⟩
  | @val R' h0 h1 h2 h3 h4 =>
    refine ⟨fun p ty e κ v he hs hv _ hd => ?_, fun p ty b o _ hd => by simp [diesP, h4] at hd⟩
    have hp : allFld p = true := by simpa [diesS, h4] using hd
    obtain ⟨vs, h5⟩ := ok.reg h0
    refine ⟨R', κ, h1, by rw [h2, h3]; exact hs.flds hp, ?_⟩
    rcases hs.where hE with ⟨_, d, hκ, _⟩ | ⟨b, o, q1, i, q2, _, _, hq⟩
    · rw [← hv, hκ, h5]; rfl
    · exfalso
      rw [hq] at hp
      have : ∀ l : List Step, allFld (l ++ .idx i :: q2) = false := by
        intro l; induction l with
        | nil => rfl
        | cons s l ih => cases s with
          | idx => rfl
          | fld => exact ih
      rw [this] at hp; cases hp
  | @lent R' h0 h1 h2 h3 hrd h4 =>
    refine ⟨fun p ty e κ v he hs hv _ hd => ?_, fun p ty b o hs hd => ?_⟩
    · have hp : allFld p = true := by simpa [diesS, h4] using hd
      refine ⟨R', κ, h1, by rw [h2, h3]; exact hs.flds hp, ?_⟩
      rcases hs.where hE with ⟨_, d, hκ, _⟩ | ⟨b, o, q1, i, q2, _, _, hq⟩
      · rw [← hv, hκ]; exact hrd d
      · exfalso
        rw [hq] at hp
        have : ∀ l : List Step, allFld (l ++ .idx i :: q2) = false := by
          intro l; induction l with
          | nil => rfl
          | cons s l ih => cases s with
            | idx => rfl
            | fld => exact ih
        rw [this] at hp; cases hp
    · have hp : allFld p = true := by simpa [diesP, h4] using hd
      exact ⟨R', h1, by rw [h2, h3]; exact hs.flds hp⟩
  | @box R' h0 h1 h2 h3 h4 =>
    refine ⟨fun p ty e κ v _ _ _ _ hd => by simp [diesS, h4] at hd, fun p ty b o hs hd => ?_⟩
    have hp : allFld p = true := by simpa [diesP, h4] using hd
    exact ⟨R', h1, by rw [h2, h3]; exact hs.flds hp⟩

theorem Carried.self {w : World} {g : Gh} {hold : Nat → Place} {rt : Nat → Option Rt} {ks : Ks} {r : Nat} {R : Rt} (h : rt r = some R) : Carried w g hold w g rt hold ks r R :=
  .keep h ⟨rfl, fun b _ => ⟨SameBlk.refl _ _, rfl⟩⟩

/-- The roots that a function was handed lie where they lay. -/
def Sld (hold hold' : Nat → Place) : Prop := ∀ r, 100000 ≤ r → hold' r = hold r
def Does (P : Program) (E : Env) (n : Nat) (st : St) (a : Act) (w : World) (g : Gh) (hold : Nat → Place) (o : Oper) (u : Upd) : Prop :=
  ∃ nx w' v g' hold', (execOp a.eval o).run P w = .ok nx w' ∧ (nx = .value v ∨ (nx = .skip ∧ v = Go.undef)) ∧ Stp w g w' g' ∧
    Sld hold hold' ∧ Inv E n (applyU o.dst u st) (a.put o.dst v) w' g' hold'

section
variable {P : Program} {E : Env} {n : Nat} {st : St} {a : Act} {w : World} {g : Gh} {hold : Nat → Place}

theorem Does.one (hE : TyWf E) (h : Inv E n st a w g hold) {o : Oper} {v : Value} {av : AV} (hd : ∀ x, o.dst = some x → x < n)
    (hrun : (execOp a.eval o).run P w = .ok (.value v) w) (hv : AvOk E w g st.rt hold av v) : Does P E n st a w g hold o ⟨av, [], []⟩ := by
  refine ⟨_, w, v, g, hold, hrun, .inl rfl, Stp.refl _ _, fun _ _ => rfl, h.apply hE hd (fun b hb => ⟨SameBlk.refl _ _, hb⟩) (Surv.of hE h.rts fun r R hR => .self hR) h.rts h.bnd fun _ => hv⟩

theorem strip_ok {rt : Nat → Option Rt} {x : AV} {v : Value} (h : AvOk E w g rt hold x v) (hp : (strip x).1 = true) : AvOk E w g rt hold (strip x).2 v := by
  cases h with
  | gd h1 _ => exact h1 hp
  | undef => exact .undef
  | val h1 h2 => exact .val h1 h2
  | cst => exact .cst
  | nil h => exact .nil h
  | fnc => exact .fnc
  | sref h1 h2 h3 h4 => exact .sref h1 h2 h3 h4
  | sub h1 h2 h3 h4 h5 h6 h7 h8 h9 => exact .sub h1 h2 h3 h4 h5 h6 h7 h8 h9
  | pref h1 h2 => exact .pref h1 h2
  | fptr h1 h2 h3 => exact .fptr h1 h2 h3
  | pv h1 h2 h3 h4 => exact .pv h1 h2 h3 h4
  | agg h1 h2 h3 h4 h5 => exact .agg h1 h2 h3 h4 h5
  | tup h1 h2 => exact .tup h1 h2

/-- An operation that yields a value and does nothing else. -/
def Yld (P : Program) (E : Env) (st : St) (a : Act) (w : World) (g : Gh) (hold : Nat → Place) (o : Oper) (av : AV) : Prop :=
  ∃ v, (execOp a.eval o).run P w = .ok (.value v) w ∧ AvOk E w g st.rt hold av v

theorem Yld.does (hE : TyWf E) (h : Inv E n st a w g hold) {o : Oper} {av : AV} (hd : ∀ x, o.dst = some x → x < n)
    (hy : Yld P E st a w g hold o av) : Does P E n st a w g hold o ⟨av, [], []⟩ := by
  obtain ⟨v, h1, h2⟩ := hy
  exact Does.one hE h hd h1 h2

theorem one_inv {b : Bool} {av : AV} {e : Eff} (h : one b av = some e) (hp : e.pre = true) : b = true ∧ e.ret [] = ⟨av, [], []⟩ := by
  simp only [one, Option.some.injEq] at h; subst h; exact ⟨hp, rfl⟩

theorem run_value (s : Sem Value) (v : Value) (h : s.run P w = .ok v w) : (do pure (Next.value (← s)) : Sem Next).run P w = .ok (.value v) w := by
  simp [h]

theorem und (hP : PrOk P E) {t : Nat} {d : TypeDesc} (h : P.underlying t = some d) : (underlying t).run P w = .ok d w := by
  simp [underlying, h]

theorem info_ok (hP : PrOk P E) {t : Nat} (h : okTy E t = true) : ∃ i, P.info? t = some i ∧ (typeInfo t).run P w = .ok i w ∧ (sizeOf t).run P w = .ok (E.sz t) w ∧ i.bytes ≤ 4096 := by
  obtain ⟨i, h1, h2, h3⟩ := hP.info t h
  exact ⟨i, h1, by simp [typeInfo, h1], by simp [sizeOf, typeInfo, h1, h2], h3⟩
end
end Go.Proofs.YtfelodpbejdhlaaDoor.Ra
/- Operations that reckon. -/
namespace Go.Proofs.YtfelodpbejdhlaaDoor.Ra
open Go Go.RowKit
section
variable {P : Program} {E : Env} {w : World} {g : Gh} {rt : Nat → Option Rt} {hold : Nat → Place}

theorem boolTy_ok {ty : Nat} (h : boolTy E ty = true) : E.ty ty = .bool := by unfold boolTy at h; split at h <;> simp_all
theorem intTy_ok {ty : Nat} (h : intTy E ty = true) : ∃ k, E.ty ty = .int k := by unfold intTy at h; split at h <;> simp_all

theorem binI_ok {op : BinOp} {k : IntKind} {x y : Int} {pre : Bool} {r : Bool ⊕ Int} (h : binI op k x y = some (pre, r)) (hp : pre = true) (t : TypeId) :
    (Go.binOp op t (.int k x) (.int k y)).run P w = .ok (match r with | .inl v => .bool v | .inr v => .int k v) w := by
  cases op <;> simp only [binI, Option.some.injEq, Prod.mk.injEq, reduceCtorEq] at h <;> obtain ⟨rfl, rfl⟩ := h <;>
    simp_all [Go.binOp, Op.intArith, Op.intDiv, Op.intBits, Op.intCmp]

theorem binS_ok {op : BinOp} {x y : ByteArray} {pre : Bool} {r : Bool ⊕ ByteArray} (h : binS op x y = some (pre, r)) (hp : pre = true) (t : TypeId) :
    (Go.binOp op t (.string x) (.string y)).run P w = .ok (match r with | .inl v => .bool v | .inr v => .string v) w := by
  cases op <;> simp only [binS, Option.some.injEq, Prod.mk.injEq, reduceCtorEq] at h <;> obtain ⟨rfl, rfl⟩ := h
  case add =>
    have hl := of_decide_eq_true hp
    have hm : IntKind.i64.max = 9223372036854775807 := by decide
    unfold LIM at hl
    have : ¬ (((x.size + y.size : Nat) : Int) > IntKind.i64.max) := by rw [hm]; omega
    simp only [Go.binOp, Op.stringOp, this, if_false]; rfl
  all_goals simp [Go.binOp, Op.stringOp]

theorem guard_plain {op : BinOp} {t : TypeId} {X Y : Operand} {x y : Value} (h : (∀ c, x ≠ .agg c) ∧ x ≠ .nilIface) : (eqGuard op t X Y x y).run P w = .ok () w := by
  unfold eqGuard
  obtain ⟨h1, h2⟩ := h
  cases op <;> cases x <;> simp_all

theorem eq_bool (hP : PrOk P E) {t : Nat} (h : E.ty t = .bool) (a b : Bool) : (Op.equal t (.bool a) (.bool b)).run P w = .ok (a == b) w := by
  have := hP.bool t h
  show (Op.equalIn (9999 + 1) t (.bool a) (.bool b)).run P w = _
  unfold Op.equalIn
  simp [underlying, this]

theorem binOpE_ok (hP : PrOk P E) {op : BinOp} {rty xty : Nat} {b : Bool} {x y : AV} {vx vy : Value} {e : Eff} (X Y : Operand) (h : binOpE E op rty xty b x y = some e)
    (hp : e.pre = true) (hx : b = true → AvOk E w g rt hold x vx) (hy : b = true → AvOk E w g rt hold y vy) :
    ∃ av v, e.req = none ∧ e.ret [] = ⟨av, [], []⟩ ∧ (do eqGuard op xty X Y vx vy; Go.binOp op xty vx vy : Sem Value).run P w = .ok v w ∧ AvOk E w g rt hold av v := by
  unfold binOpE at h
  split at h
  · rename_i tx ty' h1 h2
    split at h
    · rename_i k hk
      split at h
      · rename_i pre v hb
        cases hr : boolTy E rty with
        | false => simp [hr] at h
        | true =>
          simp only [hr, cond_true, one, Option.some.injEq] at h; subst h
          simp only [Bool.and_eq_true] at hp
          have e1 := vt_int hP.wf hk h1 (hx hp.1); have e2 := vt_int hP.wf hk h2 (hy hp.1); subst e1; subst e2
          refine ⟨_, _, rfl, rfl, ?_, val_bool hP.wf (boolTy_ok hr)⟩
          have := binI_ok (P := P) (w := w) hb hp.2 xty
          simp [guard_plain, this]
      · rename_i pre v hb
        cases hr : Nat.beq rty xty with
        | false => simp [hr] at h
        | true =>
          simp only [hr, cond_true, one, Option.some.injEq] at h; subst h
          simp only [Bool.and_eq_true] at hp
          have := Nat.eq_of_beq_eq_true hr; subst this
          have e1 := vt_int hP.wf hk h1 (hx hp.1); have e2 := vt_int hP.wf hk h2 (hy hp.1); subst e1; subst e2
          refine ⟨_, _, rfl, rfl, ?_, val_int hP.wf hk⟩
          have := binI_ok (P := P) (w := w) hb hp.2 rty
          simp [guard_plain, this]
      · cases h
    · rename_i hk
      split at h
      · rename_i pre v hb
        cases hr : boolTy E rty with
        | false => simp [hr] at h
        | true =>
          simp only [hr, cond_true, one, Option.some.injEq] at h; subst h
          simp only [Bool.and_eq_true] at hp
          have e1 := vt_str hP.wf hk h1 (hx hp.1); have e2 := vt_str hP.wf hk h2 (hy hp.1); subst e1; subst e2
          refine ⟨_, _, rfl, rfl, ?_, val_bool hP.wf (boolTy_ok hr)⟩
          have := binS_ok (P := P) (w := w) hb hp.2 xty
          simp [guard_plain, this]
      · rename_i pre v hb
        cases hr : Nat.beq rty xty with
        | false => simp [hr] at h
        | true =>
          simp only [hr, cond_true, one, Option.some.injEq] at h; subst h
          simp only [Bool.and_eq_true] at hp
          have := Nat.eq_of_beq_eq_true hr; subst this
          have e1 := vt_str hP.wf hk h1 (hx hp.1); have e2 := vt_str hP.wf hk h2 (hy hp.1); subst e1; subst e2
          refine ⟨_, _, rfl, rfl, ?_, val_str hP.wf hk⟩
          have := binS_ok (P := P) (w := w) hb hp.2 rty
          simp [guard_plain, this]
      · cases h
    · rename_i hk
      cases hr : boolTy E rty with
      | false => simp [hr] at h
      | true =>
        simp only [hr, cond_true] at h
        split at h
        · simp only [one, Option.some.injEq] at h; subst h
          have e1 := vt_bool hP.wf hk h1 (hx hp); have e2 := vt_bool hP.wf hk h2 (hy hp); subst e1; subst e2
          refine ⟨_, _, rfl, rfl, ?_, val_bool hP.wf (boolTy_ok hr)⟩
          simp [guard_plain, Go.binOp, eq_bool hP hk]
        · simp only [one, Option.some.injEq] at h; subst h
          have e1 := vt_bool hP.wf hk h1 (hx hp); have e2 := vt_bool hP.wf hk h2 (hy hp); subst e1; subst e2
          refine ⟨_, _, rfl, rfl, ?_, val_bool hP.wf (boolTy_ok hr)⟩
          simp [guard_plain, Go.binOp, eq_bool hP hk]
        · cases h
    · cases h
  · cases h

theorem bnd_ok (hE : TyWf E) {d : Nat} {x : AV} {b : Bool} {i : Int} {v : Value} (h : bnd E d (some x) = some (b, i)) (hb : b = true) (hx : AvOk E w g rt hold x v) :
    ∃ k, v = .int k i := by
  unfold bnd at h
  split at h
  · rename_i he; cases he
  · rename_i ty t he
    cases he
    cases hi : intTy E ty with
    | false => simp [hi] at h
    | true =>
      simp only [hi, cond_true, Option.some.injEq, Prod.mk.injEq] at h
      obtain ⟨k, hk⟩ := intTy_ok hi
      obtain ⟨_, rfl⟩ := h
      exact ⟨k, vt_int (E := E) hE hk (a := .val ty t) (by simp [vt, sn]) hx⟩
  · rename_i k n he
    cases he; simp at h; obtain ⟨_, rfl⟩ := h
    cases hx; exact ⟨_, rfl⟩
  · rename_i b' ty t he
    cases he
    cases hi : intTy E ty with
    | false => simp [hi] at h
    | true =>
      simp only [hi, cond_true, Option.some.injEq, Prod.mk.injEq] at h
      obtain ⟨k, hk⟩ := intTy_ok hi
      obtain ⟨rfl, rfl⟩ := h
      cases hx with
      | gd h1 _ => exact ⟨k, vt_int (E := E) hE hk (a := .val ty t) (by simp [vt, sn]) (h1 hb)⟩
  · cases h
end
end Go.Proofs.YtfelodpbejdhlaaDoor.Ra
/- Reading memory: loads, fields, elements. -/
namespace Go.Proofs.YtfelodpbejdhlaaDoor.Ra
open Go Go.RowKit

theorem Sub.snoc_fld {E : Env} {w : World} {g : Gh} {r : Nat} {ty : Nat} {p : List Step} {κ : Place} {q : List Step} {ty' : Nat} {κ' : Place}
    (h : Sub E w g r ty p κ q ty' κ') : ∀ {fs : List Nat} {j f : Nat}, E.ty ty' = .st fs → fs[j]? = some f → Sub E w g r ty p κ (q ++ [.fld j]) f (κ'.add (off E fs j)) := by
  induction h with
  | nil => intro fs j f h1 h2; exact .fld h1 h2 .nil
  | fld a1 a2 _ ih => intro fs j f h1 h2; exact .fld a1 a2 (ih h1 h2)
  | idx a1 a2 a3 a4 a5 _ ih => intro fs j f h1 h2; exact .idx a1 a2 a3 a4 a5 (ih h1 h2)
theorem Sub.snoc_idx {E : Env} {w : World} {g : Gh} {r : Nat} {ty : Nat} {p : List Step} {κ : Place} {q : List Step} {ty' : Nat} {κ' : Place}
    (h : Sub E w g r ty p κ q ty' κ') : ∀ {e : Nat} {a : Addr} {len cap i : Nat}, E.ty ty' = .sl e → rd w κ' = some (.slice (some a) len cap) → i < len → a.spot = none →
      g a.block = .at r (p ++ q) → Sub E w g r ty p κ (q ++ [.idx i]) e (.mem a.block (a.off + i * E.sz e)) := by
  induction h with
  | nil => intro e a len cap i h1 h2 h3 h4 h5; exact .idx h1 h2 h3 h4 (by simpa using h5) .nil
  | fld a1 a2 _ ih => intro e a len cap i h1 h2 h3 h4 h5; exact .fld a1 a2 (ih h1 h2 h3 h4 (by rw [h5]; simp))
  | idx a1 a2 a3 a4 a5 _ ih => intro e a len cap i h1 h2 h3 h4 h5; exact .idx a1 a2 a3 a4 a5 (ih h1 h2 h3 h4 (by rw [h5]; simp))

/-- A value read from a place, cell by cell. -/
def LoadsAs (E : Env) (w : World) (κ : Place) (ty : Nat) (v : Value) : Prop := Shaped E ty v ∧ ∀ k, k < E.sz ty → v.cells.toList[k]? = rd w (κ.add k)

theorem pieces {E : Env} (hE : TyWf E) : ∀ (fs : List Nat) (cs : List Value), cs.length = (fs.map E.sz).sum → (∀ v ∈ cs, v.cells = #[v]) →
    (∀ f ∈ fs, okTy E f = true) → ∃ vs : List Value, vs.length = fs.length ∧ (vs.flatMap fun v => v.cells.toList) = cs ∧
    (∀ (j f : Nat) (v : Value), fs[j]? = some f → vs[j]? = some v → Shaped E f v) := by
  intro fs
  induction fs with
  | nil => intro cs h _ _; exact ⟨[], rfl, by cases cs <;> simp_all, by simp⟩
  | cons f fs ih =>
    intro cs h hc ho
    simp only [List.map_cons, List.sum_cons] at h
    obtain ⟨vs, h1, h2, h3⟩ := ih (cs.drop (E.sz f)) (by simp; omega) (fun v hv => hc v (List.mem_of_mem_drop hv)) (fun f hf => ho f (by simp [hf]))
    have hf := ho f (by simp)
    obtain ⟨v, hv, hs⟩ : ∃ v : Value, v.cells.toList = cs.take (E.sz f) ∧ Shaped E f v := by
      cases he : E.ty f with
      | st fs' =>
        refine ⟨.agg (cs.take (E.sz f)).toArray, by simp [Value.cells], ?_, by rw [he]; exact ⟨_, rfl⟩⟩
        simp only [Value.cells, List.size_toArray, List.length_take]; omega
      | bad => simp [okTy, he] at hf
      | cp => simp [okTy, he] at hf
      | _ =>
        have h1 := hE.one f (by simp [he])
        rw [h1]
        rw [h1] at h
        cases cs with
        | nil => simp at h; omega
        | cons c cs =>
          have := hc c (by simp)
          exact ⟨c, by simp [this], shaped_one hE (by simp [he]) this⟩
    refine ⟨v :: vs, by simp [h1], ?_, fun j f' v' hf' hv' => ?_⟩
    · rw [List.flatMap_cons, h2, hv, List.take_append_drop]
    · cases j with
      | zero => simp at hf' hv'; subst hf'; subst hv'; exact hs
      | succ j => exact h3 j f' v' (by simpa using hf') (by simpa using hv')

theorem Rep.slice_cell {E : Env} {w : World} {g : Gh} {ty : Nat} {t : T} {o : O} {r : Nat} {p : List Step} {κ : Place} (h : Rep E w g ty t o r p κ) {e : Nat}
    (he : E.ty ty = .sl e) (hd : o ≠ .dead) : ∃ A n c, rd w κ = some (.slice A n c) := by
  cases h with
  | fz0 _ h => exact ⟨_, _, _, h⟩
  | fz _ h => exact ⟨_, _, _, h⟩
  | own0 _ _ h => exact ⟨_, _, _, h⟩
  | own _ _ h => exact ⟨_, _, _, h⟩
  | dead => exact absurd rfl hd
  | _ => simp_all

section
variable {P : Program} {E : Env} {w : World} {g : Gh} {rt : Nat → Option Rt} {hold : Nat → Place}

theorem LoadsAs.reg {κ : Place} {ty : Nat} {v : Value} (h : LoadsAs E w κ ty v) : ∀ k, k < E.sz ty → rd w ((Place.reg v.cells.toList 0).add k) = rd w (κ.add k) := by
  intro k hk
  simpa [Place.add, rd] using h.2 k hk

theorem view_ok (hP : PrOk P E) {r : Nat} {R : Rt} (hR : rt r = some R) : ∀ (n : Nat) {ty : Nat} {t : T} {o : O} {p : List Step} {κ : Place} {v : Value},
    Rep E w g ty t o r p κ → o.live = true → Sub E w g r R.ty [] (hold r) p ty κ → LoadsAs E w κ ty v → okTy E ty = true → AvOk E w g rt hold (view E n ty t o r p) v := by
  intro n
  have key : ∀ (n : Nat), (∀ {ty : Nat} {t : T} {o : O} {p : List Step} {κ : Place} {v : Value},
      Rep E w g ty t o r p κ → o.live = true → Sub E w g r R.ty [] (hold r) p ty κ → LoadsAs E w κ ty v → okTy E ty = true → AvOk E w g rt hold (view E n ty t o r p) v) ∧
    (∀ (fs : List Nat) (j : Nat) {t : T} {o : O} {p : List Step} (vs : List Value), (views E n fs j t o r p).length ≤ fs.length ∧
      ((∀ (i f : Nat) (v : Value), fs[i]? = some f → vs[i]? = some v → ∃ κ, Rep E w g f (t.fld (j + i)) (o.fld (j + i)) r (p ++ [.fld (j + i)]) κ ∧ (o.fld (j + i)).live = true ∧
        Sub E w g r R.ty [] (hold r) (p ++ [.fld (j + i)]) f κ ∧ LoadsAs E w κ f v ∧ okTy E f = true) →
      ∀ (i : Nat) (a : AV) (v : Value), (views E n fs j t o r p)[i]? = some a → vs[i]? = some v → AvOk E w g rt hold a v)) := by
    intro n
    induction n with
    | zero =>
      exact ⟨fun _ _ _ _ _ => by rw [view]; exact .undef, fun fs j t o p vs => ⟨by simp [views], fun _ i a v ha => by simp [views] at ha⟩⟩
    | succ n ih =>
      refine ⟨fun {ty t o p κ v} h hl hs hv hty => ?_, fun fs j t o p vs => ?_⟩
      · have hreg := hv.reg
        rw [view]
        cases hf : E.flat ty with
        | true => exact .val (h.flat hP.wf hl hf hreg) hv.1
        | false =>
          cases hz : o.isFz with
          | true =>
            have : o = .fz := by cases o <;> simp_all [O.isFz]
            subst this
            exact .val ((h.frozen rfl (fun _ h => h) 0 []).place hP.wf hreg) hv.1
          | false =>
            have h2 : o ≠ .dead := by intro h; subst h; simp [O.live] at hl
            have hdd : o.isDead = false := by cases o <;> simp_all [O.isDead]
            simp only [Bool.or_self, cond_false, hdd]
            split
            · rename_i e he
              cases ho : o.own with
              | false => exact .undef
              | true =>
                have hv0 := hv.2 0 (by rw [hP.wf.one _ (by simp [he])]; omega)
                have hsh := hv.1.2; rw [he] at hsh; simp only at hsh
                rw [Place.add_zero, hsh] at hv0
                obtain ⟨A, m, c, hc⟩ := h.slice_cell he h2
                have hvv : v = .slice A m c := by rw [hc] at hv0; simpa using hv0
                subst hvv
                exact .sref hR he hs hc
            · rename_i fs he
              cases h with
              | st a1 a2 a3 =>
                rw [he] at a1; cases a1
                rename_i ts
                obtain ⟨fds, hu, hsz, _, _, hfd⟩ := hP.st ty fs he
                have hokf : ∀ f ∈ fs, okTy E f = true := fun f hf => by
                  obtain ⟨j, hj⟩ := List.mem_iff_getElem?.1 hf
                  have hj' := (List.getElem?_eq_some_iff.1 hj).1
                  exact (hfd j f _ hj (Array.getElem?_eq_getElem (by omega))).2.2.2.2
                obtain ⟨cs, hcs⟩ : ∃ cs, v = .agg cs := by have := hv.1.2; rw [he] at this; exact this
                have hlen : cs.toList.length = (fs.map E.sz).sum := by
                  have := hv.1.1; rw [hcs, hP.wf.sum _ _ he] at this; simpa [Value.cells] using this
                have hself : ∀ c ∈ cs.toList, c.cells = #[c] := by
                  intro c hc
                  obtain ⟨k, hk⟩ := List.mem_iff_getElem?.1 hc
                  have hk' := (List.getElem?_eq_some_iff.1 hk).1
                  have h1 := hv.2 k (by rw [hP.wf.sum _ _ he]; omega)
                  rw [hcs] at h1; simp only [Value.cells] at h1; rw [hk] at h1
                  obtain ⟨x, hx, hx'⟩ := (Rep.st he a2 a3).cells hP.wf hl k (by rw [hP.wf.sum _ _ he]; omega)
                  rw [hx] at h1; cases h1; exact hx'
                obtain ⟨vs, b1, b2, b3⟩ := pieces hP.wf fs cs.toList hlen hself hokf
                have hvs := (ih.2 fs 0 (t := .st ts) (o := o) (p := p) vs).2 (fun i f v' hf' hv' => by
                  have hi := (List.getElem?_eq_some_iff.1 hf').1
                  refine ⟨κ.add (off E fs i), ?_, live_fld hl _, ?_, ⟨b3 i f v' hf' hv', fun k hk => ?_⟩, hokf f (List.mem_of_getElem? hf')⟩
                  · rw [Nat.zero_add]; exact a3 i f _ hf' (fld_of (by omega))
                  · rw [Nat.zero_add]; exact hs.snoc_fld he hf'
                  · have c1 := flatMap_get b1 b3 i f v' hf' hv' k hk
                    rw [b2] at c1
                    rw [← c1, Place.add_add]
                    have := hv.2 (off E fs i + k) (by rw [hP.wf.sum _ _ he]; have := off_le (E := E) hf'; omega)
                    rw [hcs] at this; simpa [Value.cells] using this)
                rw [hcs, show cs = (vs.flatMap fun v => v.cells.toList).toArray by rw [b2]]
                cases hn : Nat.beq (views E n fs 0 (.st ts) o r p).length fs.length with
                | true => exact .agg he (Nat.eq_of_beq_eq_true hn) b1 hvs b3
                | false => exact .undef
              | dead => exact absurd rfl h2
              | _ => simp_all
            · exact .undef
      · cases fs with
        | nil => exact ⟨by simp [views], fun _ i a v ha => by simp [views] at ha⟩
        | cons f fs =>
          rw [views]
          refine ⟨?_, fun hh i a v ha hv => ?_⟩
          · have := (ih.2 fs (j + 1) (t := t) (o := o) (p := p) vs.tail).1
            simp; omega
          · cases i with
            | zero =>
              simp at ha; subst ha
              obtain ⟨κ, c1, c2, c3, c4, c5⟩ := hh 0 f v rfl hv
              exact ih.1 c1 c2 c3 c4 c5
            | succ i =>
              refine (ih.2 fs (j + 1) (t := t) (o := o) (p := p) vs.tail).2 (fun i' f' v' hf' hv' => ?_) i a v (by simpa using ha) (by cases vs <;> simp_all)
              have := hh (i' + 1) f' v' (by simpa using hf') (by cases vs <;> simp_all)
              rw [show j + 1 + i' = j + (i' + 1) by omega]; exact this
  intro ty t o p κ v h1 h2 h3 h4 h5
  exact (key n).1 h1 h2 h3 h4 h5

theorem addr_add {a : Addr} (h : a.spot = none) (k : Nat) : a.add k = ⟨a.block, a.off + k, none⟩ := by
  obtain ⟨b, o, s⟩ := a
  simp only at h; subst h
  unfold Addr.add
  split
  · rename_i h; subst h; rfl
  · rfl

theorem run_loadCells {a : Addr} (hs : a.spot = none) : ∀ (n i : Nat) (acc : Array Value), (∀ k, k < n → ∃ v, w.cell? ⟨a.block, a.off + (i + k), none⟩ = some v) →
    ∃ l : List Value, l.length = n ∧ (loadCellsFrom a i n acc).run P w = .ok (acc ++ l.toArray) w ∧ ∀ k, k < n → l[k]? = w.cell? ⟨a.block, a.off + (i + k), none⟩ := by
  intro n
  induction n with
  | zero => intro i acc _; exact ⟨[], rfl, by simp [loadCellsFrom], by simp⟩
  | succ n ih =>
    intro i acc h
    obtain ⟨v, hv⟩ := h 0 (by omega)
    obtain ⟨l, h1, h2, h3⟩ := ih (i + 1) (acc.push v) (fun k hk => by rw [show i + 1 + k = i + (k + 1) by omega]; exact h (k + 1) (by omega))
    refine ⟨v :: l, by simp [h1], ?_, fun k hk => ?_⟩
    · rw [Nat.add_zero] at hv
      simp [loadCellsFrom, addr_add hs, hv, h2]
    · cases k with
      | zero => show some v = _; rw [hv]
      | succ k => rw [show i + (k + 1) = i + 1 + k by omega]; simpa using h3 k (by omega)

theorem isAgg_ok (hP : PrOk P E) {t : Nat} (h : okTy E t = true) : (isAgg t).run P w = .ok (match E.ty t with | .st _ => true | _ => false) w := by
  cases he : E.ty t with
  | int k => simp [isAgg, underlying, hP.int t k he]
  | bool => simp [isAgg, underlying, hP.bool t he]
  | str => simp [isAgg, underlying, hP.str t he]
  | sl e => simp [isAgg, underlying, (hP.sl t e he).1]
  | st fs => obtain ⟨fds, hu, _⟩ := hP.st t fs he; simp [isAgg, underlying, hu]
  | ptr e => simp [isAgg, underlying, (hP.ptr t e he).1]
  | fn a b => obtain ⟨v, hu⟩ := hP.fn t a b he; simp [isAgg, underlying, hu]
  | bad => simp [okTy, he] at h
  | cp => simp [okTy, he] at h

/-- A load of a variable whose cells are there. -/
theorem run_loadVar (hP : PrOk P E) {t : Nat} (h : okTy E t = true) {a : Addr} (hs : a.spot = none)
    (hc : ∀ k, k < E.sz t → ∃ v, w.cell? ⟨a.block, a.off + k, none⟩ = some v ∧ v.cells = #[v]) :
    ∃ v, (loadVar t a).run P w = .ok v w ∧ LoadsAs E w (.mem a.block a.off) t v := by
  obtain ⟨i, _, _, hsz, _⟩ := info_ok (w := w) hP h
  have hag := isAgg_ok (w := w) hP h
  cases he : E.ty t with
  | st fs =>
    rw [he] at hag
    obtain ⟨l, h1, h2, h3⟩ := run_loadCells (P := P) hs (E.sz t) 0 #[] (fun k hk => by obtain ⟨v, hv, _⟩ := hc k hk; exact ⟨v, by rw [Nat.zero_add]; exact hv⟩)
    refine ⟨.agg l.toArray, ?_, ⟨by simp [Value.cells, h1], by rw [he]; exact ⟨_, rfl⟩⟩, fun k hk => ?_⟩
    · simp only [loadVar, Sem.run_bind, hag]
      simp [hsz, loadCells, h2]
    · have := h3 k hk; rw [Nat.zero_add] at this
      simpa [Value.cells, rd, Place.add] using this
  | bad => simp [okTy, he] at h
  | cp => simp [okTy, he] at h
  | _ =>
    rw [he] at hag
    have h1 := hP.wf.one t (by simp [he])
    obtain ⟨v, hv, hv'⟩ := hc 0 (by omega)
    refine ⟨v, ?_, shaped_one hP.wf (by simp [he]) hv', fun k hk => ?_⟩
    · have hv2 : w.cell? a = some v := by rw [← hv]; congr 1; obtain ⟨b, o, s⟩ := a; simp only at hs; subst hs; rfl
      simp only [loadVar, Sem.run_bind, hag]
      simp [hv2]
    · obtain rfl : k = 0 := by omega
      simp [hv', rd, Place.add]; exact hv.symm
end
end Go.Proofs.YtfelodpbejdhlaaDoor.Ra
/- Operations that read: one by one. -/
namespace Go.Proofs.YtfelodpbejdhlaaDoor.Ra
open Go Go.RowKit

section
variable {P : Program} {E : Env} {n : Nat} {st : St} {a : Act} {w : World} {g : Gh} {hold : Nat → Place} {look : Nat → Option Rt} {o : Oper} {b : Bool}

/-- What an operation that only yields comes to: its precondition; then a value. -/
def Ylds (P : Program) (E : Env) (st : St) (a : Act) (w : World) (g : Gh) (hold : Nat → Place) (o : Oper) (e : Eff) : Prop :=
  ∃ av, e = ⟨e.pre, true, none, fun _ => ⟨av, [], []⟩⟩ ∧ (e.pre = true → Yld P E st a w g hold o av)
theorem Ylds.mk {b : Bool} {av : AV} {e : Eff} (h : one b av = some e) (hy : b = true → Yld P E st a w g hold o av) : Ylds P E st a w g hold o e := by
  simp only [one, Option.some.injEq] at h; subst h; exact ⟨av, rfl, hy⟩

theorem sub_rep {r : Nat} {R : Rt} (hr : RtOk E w g hold r R) {p : List Step} {ty : Nat} {κ : Place} (hs : Sub E w g r R.ty [] (hold r) p ty κ) :
    Rep E w g ty (R.t.get p) (R.o.get p) r p κ := by simpa using Rep.sub hs hr.rep

theorem load_ok (hP : PrOk P E) (h : Inv E n st a w g hold) {t : Nat} {x : Operand} {e : Eff} (hop : o.op = .load t x) {av : AV} (hl : ∀ r R, look r = some R → st.rt r = some R)
    (hv : b = true → AvOk E w g st.rt hold av (a.eval x)) (ht : okTy E t = true)
    (he : loadE E look t b av = some e) : Ylds P E st a w g hold o e := by
  unfold loadE at he
  split at he
  · rename_i ty r p
    split at he
    · rename_i R hR
      cases hc : Nat.beq ty t && (R.o.get p).live with
      | false => simp [hc] at he
      | true =>
        simp only [hc, cond_true] at he
        simp only [Bool.and_eq_true] at hc
        have := Nat.eq_of_beq_eq_true hc.1; subst this
        refine .mk he fun hb => ?_
        have hv := hv hb
        generalize hev : a.eval x = vx at hv
        cases hv with
        | pref a1 a2 =>
          rename_i b' o' R'
          have := hl r R hR; rw [this] at a1; cases a1
          have hrep := sub_rep (h.rts r R this) a2
          obtain ⟨v, h1, h2⟩ := run_loadVar (P := P) hP ht (a := ⟨b', o', none⟩) rfl (fun k hk => by simpa [rd, Place.add] using hrep.cells hP.wf hc.2 k hk)
          refine ⟨v, ?_, view_ok hP this 9 hrep hc.2 a2 h2 ht⟩
          simp [execOp, hop, hev, Instr.loadAt, Instr.sureAddr, h1]
    · cases he
  · rename_i ty v
    cases hc : Nat.beq ty t with
    | false => simp [hc] at he
    | true =>
      simp only [hc, cond_true] at he
      have := Nat.eq_of_beq_eq_true hc; subst this
      refine .mk he fun hb => ?_
      have hv := hv hb
      generalize hev : a.eval x = vx at hv
      cases hv with
      | fptr a1 a2 a3 =>
        rename_i a'
        obtain ⟨v', h1, h2⟩ := run_loadVar (P := P) hP ht a1 (fun k hk => by simpa [rd, Place.add] using a3.cells hP.wf rfl k hk)
        refine ⟨v', by simp [execOp, hop, hev, Instr.loadAt, Instr.sureAddr, h1], .val (a3.place hP.wf h2.reg) h2.1⟩
  · rename_i ty v
    split at he
    · rename_i e hty
      cases hc : Nat.beq e t with
      | false => simp [hc] at he
      | true =>
        simp only [hc, cond_true] at he
        have := Nat.eq_of_beq_eq_true hc; subst this
        refine .mk he fun hb => ?_
        have hv := hv hb
        generalize hev : a.eval x = vx at hv
        cases hv with
        | val c1 c2 =>
          have hs := c2.2; rw [hty] at hs; simp only at hs
          rw [hs] at c1
          cases c1 with
          | cp b1 b2 b3 b4 b5 =>
            rename_i e' a'
            rw [hty] at b1; cases b1
            simp [rd] at b2
            obtain ⟨v', h1, h2⟩ := run_loadVar (P := P) hP ht b3 (fun k hk => by simpa [rd, Place.add] using b5.cells hP.wf rfl k hk)
            refine ⟨v', by simp [execOp, hop, hev, b2, Instr.loadAt, Instr.sureAddr, h1], .val (b5.place hP.wf h2.reg) h2.1⟩
          | _ => simp_all
    · cases he
  · cases he

theorem st_fld (hP : PrOk P E) {t : Nat} {fs : List Nat} (hs : E.ty t = .st fs) {j : Nat} (hj : j < fs.length) :
    ∃ fds fd f, fs.getD j 0 = f ∧ fs[j]? = some f ∧ P.underlying t = some (.struct fds) ∧ fds[j]? = some fd ∧ fd.type = f ∧ fd.offset = off E fs j ∧ E.sz f ≠ 0 ∧ okTy E f = true := by
  obtain ⟨fds, hu, hsz, _, _, hfd⟩ := hP.st t fs hs
  have h1 : fs[j]? = some (fs.getD j 0) := by simp [hj]
  have h2 : fds[j]? = some (fds[j]'(by omega)) := Array.getElem?_eq_getElem _
  obtain ⟨c1, c2, c3, _, c5⟩ := hfd j _ _ h1 h2
  exact ⟨fds, _, _, rfl, h1, hu, h2, c1, c2, c3, c5⟩

theorem fieldAddr_ok (hP : PrOk P E) (h : Inv E n st a w g hold) {t j : Nat} {x : Operand} {e : Eff} (hop : o.op = .fieldAddr t x j) {av : AV}
    (hv : b = true → AvOk E w g st.rt hold av (a.eval x)) 
    (he : fieldAddrE E t j b av = some e) : Ylds P E st a w g hold o e := by
  unfold fieldAddrE at he
  split at he
  rotate_left
  · cases he
  rename_i fs hs
  have run : ∀ {a' : Addr}, a'.spot = none → j < fs.length → a.eval x = .pointer (some a') →
      (execOp a.eval o).run P w = .ok (.value (.pointer (some ⟨a'.block, a'.off + off E fs j, none⟩))) w := by
    intro a' ha hj hev
    obtain ⟨fds, fd, f, _, _, hu, hfd, c1, c2, c3, c5⟩ := st_fld hP hs hj
    obtain ⟨i, hi, _, hsz, _⟩ := info_ok (w := w) hP c5
    simp [execOp, hop, hev, Instr.fieldAt, underlying, hu, hfd, Instr.sureAddr, fieldPlace, c1, hsz, c3, c2, addr_add ha]
  split at he
  · rename_i ty r p
    cases hc : Nat.beq ty t && decide (j < fs.length) with
    | false => simp [hc] at he
    | true =>
      simp only [hc, cond_true] at he
      simp only [Bool.and_eq_true, decide_eq_true_eq] at hc
      have := Nat.eq_of_beq_eq_true hc.1; subst this
      refine .mk he fun hb => ?_
      have hv := hv hb
      generalize hev : a.eval x = vx at hv
      cases hv with
      | pref a1 a2 =>
        obtain ⟨_, _, f, hff, hf, _⟩ := st_fld hP hs hc.2
        rw [hff]
        exact ⟨_, run rfl hc.2 hev, .pref a1 (by simpa [Place.add] using a2.snoc_fld hs hf)⟩
  · rename_i ty v
    cases hc : Nat.beq ty t && decide (j < fs.length) with
    | false => simp [hc] at he
    | true =>
      simp only [hc, cond_true] at he
      simp only [Bool.and_eq_true, decide_eq_true_eq] at hc
      have := Nat.eq_of_beq_eq_true hc.1; subst this
      refine .mk he fun hb => ?_
      have hv := hv hb
      generalize hev : a.eval x = vx at hv
      cases hv with
      | fptr a1 a2 a3 =>
        obtain ⟨_, _, f, hff, hf, _⟩ := st_fld hP hs hc.2
        rw [hff]
        refine ⟨_, run a1 hc.2 hev, .fptr rfl a2 ?_⟩
        cases a3 with
        | st b1 b2 b3 =>
          rw [hs] at b1; cases b1
          have := b3 j _ _ hf (fld_of (by omega))
          exact (this.frozen rfl (fun _ h => h) _ _)
        | _ => simp_all
  · cases he

theorem index_run (hP : PrOk P E) {t e : Nat} (hs : E.ty t = .sl e) {x i : Operand} (hop : o.op = .indexAddr t x i) {a' : Addr} {len cap : Nat} {k : IntKind} {j : Int}
    (hx : a.eval x = .slice (some a') len cap) (hi : a.eval i = .int k j) (h0 : 0 ≤ j) (h1 : j.toNat < len) (ha : a'.spot = none) :
    (execOp a.eval o).run P w = .ok (.value (.pointer (some ⟨a'.block, a'.off + j.toNat * E.sz e, none⟩))) w := by
  obtain ⟨i', hi', _, hsz, _⟩ := info_ok (w := w) hP (hP.sl t e hs).2
  have : j < (len : Int) := by omega
  simp only [execOp, hop, hx, hi, Instr.indexAt]
  simp [asIntOf, underlying, (hP.sl t e hs).1, hsz, h0, this, addr_add ha]

theorem indexAddr_ok (hP : PrOk P E) (h : Inv E n st a w g hold) {t ety : Nat} {x i : Operand} {e : Eff} (hop : o.op = .indexAddr t x i) {av : AV} {j : Int} {k : IntKind}
    (hl : ∀ r R, look r = some R → st.rt r = some R) (hv : b = true → AvOk E w g st.rt hold av (a.eval x)) (hs : E.ty t = .sl ety) (hi : b = true → a.eval i = .int k j)
    (he : idxE E look t ety b av j = some e) : Ylds P E st a w g hold o e := by
  unfold idxE at he
  split at he
  · rename_i ty v
    cases hc : Nat.beq t ty with
    | false => simp [hc] at he
    | true =>
      simp only [hc, cond_true] at he
      have := Nat.eq_of_beq_eq_true hc; subst this
      refine .mk he fun hb => ?_
      simp only [Bool.and_eq_true, decide_eq_true_eq] at hb
      obtain ⟨hb, h0, h1⟩ := hb
      have hv := hv hb
      generalize hev : a.eval x = vx at hv
      cases hv with
      | val a1 a2 =>
        have hsh := a2.2; rw [hs] at hsh; simp only at hsh
        rw [hsh] at a1
        cases a1 with
        | fz b1 b2 b3 b4 b5 b6 =>
          rw [hs] at b1; cases b1
          simp [rd] at b2; subst b2
          refine ⟨_, index_run hP hs hop hev (hi hb) h0 h1 b3, .fptr rfl b5 ?_⟩
          exact b6 _ _ (nth_of h1)
        | fz0 b1 b2 => simp [T.es] at h1
        | own0 b1 b2 => simp [O.own] at b2
        | own b1 b2 => simp [O.own] at b2
        | _ => simp_all
  · rename_i ty r p
    split at he
    · rename_i R hR
      cases hc : Nat.beq t ty && (R.o.get p).own with
      | false => simp [hc] at he
      | true =>
        simp only [hc, cond_true] at he
        simp only [Bool.and_eq_true] at hc
        have := Nat.eq_of_beq_eq_true hc.1; subst this
        refine .mk he fun hb => ?_
        simp only [Bool.and_eq_true, decide_eq_true_eq] at hb
        obtain ⟨hb, h0, h1⟩ := hb
        have hv := hv hb
        generalize hev : a.eval x = vx at hv
        cases hv with
        | sref a1 a2 a3 a4 =>
          have hR' := hl r R hR; rw [hR'] at a1; cases a1
          have hrep := sub_rep (h.rts r R hR') a3
          generalize hT : R.t.get p = tt at hrep h1
          generalize hO : R.o.get p = oo at hrep hc
          cases hrep with
          | own b1 b2 b3 b4 b5 b6 b7 b8 =>
            rw [hs] at b1; cases b1
            rw [a4] at b3; simp only [Option.some.injEq, Value.slice.injEq] at b3
            obtain ⟨rfl, rfl, rfl⟩ := b3
            refine ⟨_, index_run hP hs hop hev (hi hb) h0 (by simpa [T.es] using h1) b4, .pref hR' ?_⟩
            exact a3.snoc_idx hs a4 (by simpa [T.es] using h1) b4 (by simpa using b6)
          | own0 b1 b2 b3 => simp [T.es] at h1
          | fz0 b1 b2 => simp [T.es] at h1
          | fz => simp [O.own] at hc
          | dead => simp [O.own] at hc
          | _ => simp_all
    · cases he
  · rename_i ty r p lo hi'
    split at he
    · rename_i R hR
      cases hc : Nat.beq t ty && (R.o.get p).own with
      | false => simp [hc] at he
      | true =>
        simp only [hc, cond_true] at he
        simp only [Bool.and_eq_true] at hc
        have := Nat.eq_of_beq_eq_true hc.1; subst this
        refine .mk he fun hb => ?_
        simp only [Bool.and_eq_true, decide_eq_true_eq] at hb
        obtain ⟨hb, h0, h1⟩ := hb
        have hv := hv hb
        generalize hev : a.eval x = vx at hv
        cases hv with
        | sub a1 a2 a3 a4 a5 a6 a7 a8 a9 =>
          rename_i A len cap A' cap' R' κ
          have hR' := hl r R hR; rw [hR'] at a1; cases a1
          have hrep := sub_rep (h.rts r R hR') a3
          rw [hs] at a2; cases a2
          generalize hT : R.t.get p = tt at hrep
          generalize hO : R.o.get p = oo at hrep hc
          cases hrep with
          | own b1 b2 b3 b4 b5 b6 b7 b8 =>
            rw [hs] at b1; cases b1
            rw [a4] at b3; simp only [Option.some.injEq, Value.slice.injEq] at b3
            obtain ⟨rfl, rfl, rfl⟩ := b3
            rename_i es aa
            have hA : A' = some ⟨aa.block, aa.off + lo * E.sz ety, none⟩ := by
              rcases a9 with ⟨c1, _⟩ | ⟨b', x', y', c1, c2, c3, c4⟩
              · cases c1
              · simp only [Option.some.injEq] at c1; subst c1
                rcases c4 with c4 | c4
                · omega
                · rw [c2, c4]
            subst hA
            refine ⟨_, index_run hP hs hop hev (hi hb) h0 (by omega) rfl, .pref hR' ?_⟩
            have := a3.snoc_idx (i := lo + j.toNat) hs a4 (by omega) b4 (by simpa using b6)
            simp only
            rw [show aa.off + lo * E.sz ety + j.toNat * E.sz ety = aa.off + (lo + j.toNat) * E.sz ety by rw [Nat.add_mul]; omega]
            exact this
          | own0 b1 b2 b3 => rw [a4] at b3; cases b3; omega
          | fz0 b1 b2 => rw [a4] at b2; cases b2; omega
          | fz => simp [O.own] at hc
          | dead => simp [O.own] at hc
          | _ => simp_all
    · cases he
  · cases he
end
end Go.Proofs.YtfelodpbejdhlaaDoor.Ra
/- Operations that read, the others. -/
namespace Go.Proofs.YtfelodpbejdhlaaDoor.Ra
open Go Go.RowKit

section
variable {P : Program} {E : Env} {n : Nat} {st : St} {a : Act} {w : World} {g : Gh} {hold : Nat → Place} {look : Nat → Option Rt} {o : Oper} {b : Bool}

theorem assign_plain {x : Operand} {e : Eff} (hop : o.op = .assign x) {av : AV} (hv : b = true → AvOk E w g st.rt hold av (a.eval x)) (he : one b av = some e) : Ylds P E st a w g hold o e :=
  .mk he fun hb => ⟨_, by simp [execOp, hop], hv hb⟩

theorem cst_val (hE : TyWf E) {rt : Nat → Option Rt} {ty : Nat} {v vx : Value} {t : T} (h : constT (E.ty ty) v = some t) (hx : AvOk E w g rt hold (.cst v) vx) : AvOk E w g rt hold (.val ty t) vx := by
  cases hx
  obtain ⟨h1, h2⟩ := constT_ok (w := w) (g := g) (r := 0) (p := []) hE (.inr rfl) h
  exact .val h1 h2

theorem move_ok (hE : TyWf E) {ty : Nat} {x : Operand} {e : Eff} (hop : o.op = .move x) {av : AV} (hv : b = true → AvOk E w g st.rt hold av (a.eval x)) (he : one b (mvAv E ty av) = some e) : Ylds P E st a w g hold o e := by
  refine .mk he fun hb => ⟨a.eval x, by simp [execOp, hop], ?_⟩
  have hv := hv hb
  unfold mvAv
  split
  · rename_i v
    split
    · rename_i t ht
      cases (isSl E ty).isSome with
      | true => exact hv
      | false => exact cst_val hE ht hv
    · exact hv
  · exact hv

theorem pick_ok (hP : PrOk P E) {c x y : Operand} {e : Eff} (hop : o.op = .pick c x y) {qc qa qb : Bool} {ac ax ay : AV}
    (hc : qc = true → AvOk E w g st.rt hold ac (a.eval c)) (hx : qa = true → AvOk E w g st.rt hold ax (a.eval x)) (hy : qb = true → AvOk E w g st.rt hold ay (a.eval y))
    (he : pickE E qc qa qb ac ax ay = some e) : Ylds P E st a w g hold o e := by
  unfold pickE at he
  split at he
  · rename_i tyc tc
    cases hbt : boolTy E tyc with
    | false => simp [hbt] at he
    | true =>
      simp only [hbt, cond_true] at he
      have go : ∀ {ty : Nat} {ta tb : T}, (qa = true → AvOk E w g st.rt hold (.val ty ta) (a.eval x)) → (qb = true → AvOk E w g st.rt hold (.val ty tb) (a.eval y)) →
          one (qc && (bif tc.b then qa else qb)) (.val ty (bif tc.b then ta else tb)) = some e → Ylds P E st a w g hold o e := by
        intro ty ta tb h1 h2 he
        refine .mk he fun hb => ?_
        simp only [Bool.and_eq_true] at hb
        have hcv := vt_bool hP.wf (boolTy_ok hbt) (show vt E tyc (.val tyc tc) = some tc by simp [vt, sn]) (hc hb.1)
        cases htc : tc.b with
        | true =>
          rw [htc] at hcv hb
          exact ⟨a.eval x, by simp [execOp, hop, hcv, asBool], by simpa using h1 (by simpa using hb.2)⟩
        | false =>
          rw [htc] at hcv hb
          exact ⟨a.eval y, by simp [execOp, hop, hcv, asBool], by simpa using h2 (by simpa using hb.2)⟩
      split at he
      · rename_i ty ta ty' tb
        cases hbq : Nat.beq ty ty' with
        | false => simp [hbq] at he
        | true =>
          simp only [hbq, cond_true] at he
          have := Nat.eq_of_beq_eq_true hbq; subst this
          exact go hx hy he
      · rename_i ty ta v
        split at he
        · rename_i tb hcv
          exact go hx (fun h => cst_val hP.wf hcv (hy h)) he
        · cases he
      · rename_i v ty tb
        split at he
        · rename_i ta hcv
          exact go (fun h => cst_val hP.wf hcv (hx h)) hy he
        · cases he
      · cases he
  · cases he

theorem nil_ok {x : Operand} {e : Eff} (hop : o.op = .nilCheck x) {av : AV} (hv : b = true → AvOk E w g st.rt hold av (a.eval x)) (he : nilE b av = some e) : Ylds P E st a w g hold o e := by
  unfold nilE at he
  split at he
  · refine .mk he fun hb => ?_
    have hv := hv hb
    generalize hev : a.eval x = vx at hv
    cases hv with
    | pref h1 h2 => exact ⟨_, by simp [execOp, hop, hev], .pref h1 h2⟩
  · refine .mk he fun hb => ?_
    have hv := hv hb
    generalize hev : a.eval x = vx at hv
    cases hv with
    | fptr h1 h2 h3 => exact ⟨_, by simp [execOp, hop, hev], .fptr h1 h2 h3⟩
  · cases he

theorem un_ok (hP : PrOk P E) {op : UnOp} {t : Nat} {x : Operand} {e : Eff} (hop : o.op = .unOp op t x) {av : AV} (hv : b = true → AvOk E w g st.rt hold av (a.eval x))
    (he : unE E op t b av = some e) : Ylds P E st a w g hold o e := by
  unfold unE at he
  split at he
  · rename_i v hk ht
    refine .mk he fun hb => ?_
    have := vt_bool hP.wf ht hk (hv hb)
    exact ⟨_, by simp [execOp, hop, this, Op.unary], val_bool hP.wf ht⟩
  · rename_i v k hk ht
    refine .mk he fun hb => ?_
    have := vt_int hP.wf ht hk (hv hb)
    exact ⟨_, by simp [execOp, hop, this, Op.unary, Op.intArith], val_int hP.wf ht⟩
  · cases he

theorem extract_ok {x : Operand} {j : Nat} {e : Eff} (hop : o.op = .extract x j) {av : AV} (hv : b = true → AvOk E w g st.rt hold av (a.eval x)) (he : extractE j b av = some e) :
    Ylds P E st a w g hold o e := by
  unfold extractE at he
  split at he
  · rename_i l
    cases hj : decide (j < l.length) with
    | false => simp [hj] at he
    | true =>
      simp only [hj, cond_true] at he
      have hj := of_decide_eq_true hj
      refine .mk he fun hb => ?_
      have hv := hv hb
      generalize hev : a.eval x = vx at hv
      cases hv with
      | tup h1 h2 =>
        rename_i vs
        have hj2 : vs[j]? = some (vs[j]'(by omega)) := List.getElem?_eq_getElem _
        exact ⟨vs[j]'(by omega), by simp [execOp, hop, hev, Instr.extract, hj2], h2 j _ _ (by simp [hj]) hj2⟩
  · cases he

theorem mx_ok (hP : PrOk P E) {mx : Bool} {x y : Operand} {e : Eff} {tys : Array TypeId} (hop : o.op = .call { callee := .builtin (if mx then .max else .min), args := #[x, y], argTypes := tys })
    {ax ay : AV} (hx : b = true → AvOk E w g st.rt hold ax (a.eval x)) (hy : b = true → AvOk E w g st.rt hold ay (a.eval y)) (he : mxE E mx o.type b ax ay = some e) :
    Ylds P E st a w g hold o e := by
  unfold mxE at he
  split at he
  · rename_i ta tb h1 h2
    cases hi : intTy E o.type with
    | false => simp [hi] at he
    | true =>
      simp only [hi, cond_true] at he
      obtain ⟨k, hk⟩ := intTy_ok hi
      refine .mk he fun hb => ?_
      have e1 := vt_int hP.wf hk h1 (hx hb); have e2 := vt_int hP.wf hk h2 (hy hb)
      refine ⟨_, ?_, val_int hP.wf hk⟩
      cases mx
      · by_cases hlt : tb.i < ta.i <;> simp [execOp, hop, resolve, invoke, builtin, Builtin.min_, Builtin.min2, e1, e2, hlt]
      · by_cases hlt : ta.i < tb.i <;> simp [execOp, hop, resolve, invoke, builtin, Builtin.max_, Builtin.max2, e1, e2, hlt]
  · cases he

theorem index_ok (hP : PrOk P E) {t : Nat} {x i : Operand} {e : Eff} (hop : o.op = .index t x i) {ax ai : AV} (hx : b = true → AvOk E w g st.rt hold ax (a.eval x))
    (hi : b = true → AvOk E w g st.rt hold ai (a.eval i)) (he : indexE E o.type t b ax ai = some e) : Ylds P E st a w g hold o e := by
  unfold indexE at he
  split at he
  · rename_i v b' i' ht h1 h2 hr
    refine .mk he fun hb => ?_
    simp only [Bool.and_eq_true, decide_eq_true_eq] at hb
    obtain ⟨hb, hb', h0, h3⟩ := hb
    have e1 := vt_str hP.wf ht h1 (hx hb)
    obtain ⟨k, e2⟩ := bnd_ok hP.wf h2 hb' (hi hb)
    refine ⟨_, ?_, val_int hP.wf hr⟩
    have hlt : i'.toNat < v.s.data.size := h3
    have : v.s[i'.toNat]? = some (v.s.data.getD i'.toNat 0) := by
      rw [getElem?_pos v.s i'.toNat h3]
      have h5 : v.s.data.getD i'.toNat 0 = v.s.data[i'.toNat] := by unfold Array.getD; rw [dif_pos hlt]; rfl
      rw [h5]; rfl
    simp [execOp, hop, e1, e2, Instr.index, asIntOf, underlying, hP.str t ht, h0, this]
  · cases he

/-- A value of a slice's type, whatever it is told by: its length. -/
theorem len_slice (hP : PrOk P E) (h : Inv E n st a w g hold) (hl : ∀ r R, look r = some R → st.rt r = some R) {ty e : Nat} {x : AV} {v : Value} {m : Nat} (ht : E.ty ty = .sl e)
    (hlen : lenE E look ty x = some m) (hx : AvOk E w g st.rt hold x v) : ∃ A cap, v = .slice A m cap ∧ m ≤ cap := by
  simp only [lenE, ht] at hlen
  have viaRep : ∀ {t : T} {o : O} {r : Nat} {p : List Step} {κ : Place} {A : Option Addr} {k cap : Nat}, Rep E w g ty t o r p κ → o.live = true → rd w κ = some (.slice A k cap) → k = t.es.length ∧ k ≤ cap := by
    intro t o r p κ A k cap hr hlv hk
    cases hr with
    | fz0 _ h => rw [h] at hk; cases hk; exact ⟨rfl, by omega⟩
    | fz _ h _ h4 => rw [h] at hk; cases hk; exact ⟨rfl, h4⟩
    | own0 _ _ h => rw [h] at hk; cases hk; exact ⟨rfl, by omega⟩
    | own _ _ h _ h5 => rw [h] at hk; cases hk; exact ⟨rfl, h5⟩
    | dead => simp [O.live] at hlv
    | _ => simp_all
  split at hlen
  · rename_i ty' r p lo hi
    cases hb : Nat.beq ty ty' with
    | false => simp [hb] at hlen
    | true =>
      simp [hb] at hlen; subst hlen
      cases hx with
      | sub h1 h2 h3 h4 h5 h6 h7 h8 h9 => exact ⟨_, _, rfl, h7⟩
  · rename_i hns
    simp only [Option.map_eq_some_iff] at hlen
    obtain ⟨t, ht', rfl⟩ := hlen
    cases x with
    | sub ty' r p lo hi => exact absurd rfl (hns ty' r p lo hi)
    | sref ty' r p =>
      simp only [sn] at ht'
      split at ht'
      · rename_i R hR
        cases hc : Nat.beq ty' ty && (R.o.get p).live with
        | false => simp [hc] at ht'
        | true =>
          simp [hc] at ht'; subst ht'
          simp only [Bool.and_eq_true] at hc
          have := Nat.eq_of_beq_eq_true hc.1; subst this
          cases hx with
          | sref a1 a2 a3 a4 =>
            have hR' := hl r R hR; rw [hR'] at a1; cases a1
            obtain ⟨e1, e2⟩ := viaRep (sub_rep (h.rts r R hR') a3) hc.2 a4
            exact ⟨_, _, by rw [e1], by rw [← e1]; exact e2⟩
      · cases ht'
    | val ty' t' =>
      have hv : sn E noRoot ty (.val ty' t') = some t := by simpa [sn] using ht'
      obtain ⟨h1, h2⟩ := vt_ok hP.wf hv hx
      have hs := h2.2; rw [ht] at hs; simp only at hs
      rw [hs] at h1
      obtain ⟨A, k, cap, hk⟩ := h1.slice_cell ht (by simp)
      obtain ⟨e1, e2⟩ := viaRep h1 rfl hk
      simp [rd] at hk; subst hk
      exact ⟨_, _, by rw [e1], by rw [← e1]; exact e2⟩
    | nil ty' =>
      simp only [sn] at ht'
      cases hbq : Nat.beq ty' ty with
      | false => simp [hbq] at ht'
      | true =>
        simp [hbq] at ht'; subst ht'
        cases hx with
        | nil => exact ⟨_, _, rfl, by simp [T.es]⟩
    | cst c =>
      simp only [sn] at ht'
      cases hx
      obtain ⟨h1, h2⟩ := constT_ok (w := w) (g := g) (r := 0) (p := []) hP.wf (.inr rfl) ht'
      have hs := h2.2; rw [ht] at hs; simp only at hs
      rw [hs] at h1
      obtain ⟨A, k, cap, hk⟩ := h1.slice_cell ht (by simp)
      obtain ⟨e1, e2⟩ := viaRep h1 rfl hk
      simp [rd] at hk; subst hk
      exact ⟨_, _, by rw [e1], by rw [← e1]; exact e2⟩
    | fnc f => simp [sn, ht] at ht'
    | agg ty' l => simp [sn, ht] at ht'
    | pv ty' a => simp [sn, ht] at ht'
    | _ => simp [sn] at ht'

theorem len_ok (hP : PrOk P E) (h : Inv E n st a w g hold) (hl : ∀ r R, look r = some R → st.rt r = some R) {t : Nat} {x : Operand} {e : Eff}
    (hop : o.op = .call { callee := .builtin .len, args := #[x], argTypes := #[t] }) {av : AV} (hx : b = true → AvOk E w g st.rt hold av (a.eval x))
    (he : lenOp E look o.type t b av = some e) : Ylds P E st a w g hold o e := by
  unfold lenOp at he
  split at he
  · rename_i m hr hm
    refine .mk he fun hb => ?_
    have hx := hx hb
    cases ht : E.ty t with
    | str =>
      have hm' := hm
      simp only [lenE, ht, Option.map_eq_some_iff] at hm'
      obtain ⟨v, hv, rfl⟩ := hm'
      have := vt_str hP.wf ht hv hx
      exact ⟨_, by simp [execOp, hop, resolve, invoke, builtin, Builtin.len_, underlying, hP.str t ht, this, goInt], val_int hP.wf hr⟩
    | sl e' =>
      obtain ⟨A, cap, hv, _⟩ := len_slice hP h hl ht hm hx
      exact ⟨_, by simp [execOp, hop, resolve, invoke, builtin, Builtin.len_, underlying, (hP.sl t e' ht).1, hv, goInt], val_int hP.wf hr⟩
    | _ => simp [lenE, ht] at hm
  · cases he
end
end Go.Proofs.YtfelodpbejdhlaaDoor.Ra
/- Slicing; conversions; structs built in a value. -/
namespace Go.Proofs.YtfelodpbejdhlaaDoor.Ra
open Go Go.RowKit

section
variable {P : Program} {E : Env} {n : Nat} {st : St} {a : Act} {w : World} {g : Gh} {hold : Nat → Place} {look : Nat → Option Rt} {o : Oper} {b : Bool}

def BV (x : Option Value) (d i : Int) : Prop := match x with
  | none => i = d
  | some v => ∃ k, v = .int k i
theorem run_bound {i : Int} {k : IntKind} {y : Nat} {c : BoundsCode} (h0 : 0 ≤ i) (h1 : i ≤ y) : (Instr.sliceBound (.int k i) y c).run P w = .ok i.toNat w := by
  simp [Instr.sliceBound, asIntOf, h0, h1]
theorem run_bounds {s : Bool} {len cap : Nat} {lo hi mx : Option Value} {l h m : Int} (hl : BV lo 0 l) (hh : BV hi len h) (hm : BV mx cap m) (h0 : 0 ≤ l) (h1 : l ≤ h) (h2 : h ≤ m)
    (h3 : m ≤ cap) (h4 : mx = none ∨ hi ≠ none) : (Instr.sliceBounds s len cap lo hi mx).run P w = .ok (l.toNat, h.toNat, m.toNat) w := by
  have hm0 : 0 ≤ m := by omega
  have hh0 : 0 ≤ h := by omega
  have e1 : h ≤ (m.toNat : Int) := by omega
  have e2 : l ≤ (h.toNat : Int) := by omega
  cases mx with
  | none =>
    simp only [BV] at hm; subst hm
    cases hi with
    | none =>
      simp only [BV] at hh; subst hh
      cases lo with
      | none => simp only [BV] at hl; subst hl; simp [Instr.sliceBounds]
      | some v => obtain ⟨k, rfl⟩ := hl; simp [Instr.sliceBounds, run_bound h0 h1]
    | some v =>
      obtain ⟨k, rfl⟩ := hh
      cases lo with
      | none => simp only [BV] at hl; subst hl; simp [Instr.sliceBounds, run_bound hh0 h2]
      | some v => obtain ⟨k', rfl⟩ := hl; simp [Instr.sliceBounds, run_bound hh0 h2, run_bound h0 e2]
  | some v =>
    obtain ⟨k, rfl⟩ := hm
    cases hi with
    | none => simp at h4
    | some v =>
      obtain ⟨k', rfl⟩ := hh
      cases lo with
      | none => simp only [BV] at hl; subst hl; simp [Instr.sliceBounds, run_bound hm0 h3, run_bound hh0 e1]
      | some v => obtain ⟨k'', rfl⟩ := hl; simp [Instr.sliceBounds, run_bound hm0 h3, run_bound hh0 e1, run_bound h0 e2]

theorem bnd_bv (hE : TyWf E) {rt : Nat → Option Rt} {d : Nat} {ρ : Operand → AV} (hρ : ∀ x, AvOk E w g rt hold (ρ x) (a.eval x)) {x : Option Operand} {bb : Bool} {i : Int}
    (h : bnd E d (x.map ρ) = some (bb, i)) (hb : bb = true) : BV (x.map a.eval) d i := by
  cases x with
  | none => simp [bnd] at h; simp [BV, h.2]
  | some x => exact bnd_ok hE h hb (hρ x)

theorem cut_get {es : List T} {l h i : Nat} {t : T} (hi : ((es.take h).drop l)[i]? = some t) : es[l + i]? = some t ∧ l + i < h := by
  rw [List.getElem?_drop, List.getElem?_take] at hi
  split at hi
  · exact ⟨hi, by omega⟩
  · cases hi

theorem slice_ok (hP : PrOk P E) (h : Inv E n st a w g hold) (hl : ∀ r R, look r = some R → st.rt r = some R) {t : Nat} {x : Operand} {lo hi mx : Option Operand} {e : Eff}
    {ρ : Operand → AV} (hρ : ∀ x, AvOk E w g st.rt hold (ρ x) (a.eval x)) (hop : o.op = .slice t x lo hi mx) {av : AV} (hx : b = true → AvOk E w g st.rt hold av (a.eval x))
    (he : sliceE E look t b av (lo.map ρ) (hi.map ρ) (mx.map ρ) = some e) : Ylds P E st a w g hold o e := by
  unfold sliceE at he
  split at he
  · cases he
  rename_i m hm
  split at he
  rotate_left
  · cases he
  rename_i b0 l b1 hh b2 mm h0 h1 h2
  simp only at he
  have hpre : ∀ {x : Bool}, (b && (b0 && (b1 && (b2 && (decide (0 ≤ l) && (decide (l ≤ hh) && (decide (hh ≤ mm) && decide (mm ≤ ↑m)))))))) = true →
      b = true ∧ BV (lo.map a.eval) 0 l ∧ BV (hi.map a.eval) m hh ∧ BV (mx.map a.eval) m mm ∧ 0 ≤ l ∧ l ≤ hh ∧ hh ≤ mm ∧ mm ≤ m := by
    intro _ hp
    simp only [Bool.and_eq_true, decide_eq_true_eq] at hp
    obtain ⟨p1, p2, p3, p4, p5, p6, p7, p8⟩ := hp
    exact ⟨p1, by simpa using bnd_bv hP.wf hρ h0 p2, bnd_bv hP.wf hρ h1 p3, bnd_bv hP.wf hρ h2 p4, p5, p6, p7, p8⟩
  split at he
  · rename_i ht
    cases hmx : mx with
    | some y => rw [hmx] at he; simp at he
    | none =>
      simp only [hmx, Option.map_none, Option.isNone_none, cond_true] at he
      split at he
      · rename_i v hv
        refine .mk he fun hb => ?_
        obtain ⟨p1, p2, p3, p4, p5, p6, p7, p8⟩ := hpre (x := true) hb
        have hvx := vt_str hP.wf ht hv (hx p1)
        have hm' : m = v.s.size := by simp only [lenE, ht, hv, Option.map_some, Option.some.injEq] at hm; exact hm.symm
        subst hm'
        have hmm : mm = v.s.size := by rw [hmx] at p4; simpa [BV] using p4
        have hb := run_bounds (P := P) (w := w) (s := false) (mx := none) p2 p3 (m := v.s.size) rfl p5 p6 (by omega) (by omega) (.inl rfl)
        exact ⟨_, by simp [execOp, hop, hmx, hvx, Instr.sliceAt, Instr.slice, underlying, hP.str t ht, hb], val_str hP.wf ht⟩
      · cases he
  · rename_i e' ht
    cases hmh : mx.isSome && hi.isNone with
    | true => simp [hmh] at he
    | false =>
    have h4 : mx.map a.eval = none ∨ hi.map a.eval ≠ none := by
      cases mx <;> cases hi <;> simp_all
    have hmh' : ((mx.map ρ).isSome && (hi.map ρ).isNone) = false := by simpa using hmh
    simp only [hmh', cond_false] at he
    -- the run, whatever the slice is told by
    have run : ∀ {A : Option Addr} {cap : Nat}, a.eval x = .slice A m cap → m ≤ cap → (b && (b0 && (b1 && (b2 && (decide (0 ≤ l) && (decide (l ≤ hh) && (decide (hh ≤ mm) && decide (mm ≤ ↑m)))))))) = true →
        ∃ m' : Nat, (execOp a.eval o).run P w = .ok (.value (.slice (if m' = l.toNat then A else A.map (·.add (l.toNat * E.sz e'))) (hh.toNat - l.toNat) (m' - l.toNat))) w ∧
          hh.toNat ≤ m' ∧ m' ≤ cap ∧ l.toNat ≤ hh.toNat ∧ hh.toNat ≤ m := by
      intro A cap hev hcap hb
      obtain ⟨p1, p2, p3, p4, p5, p6, p7, p8⟩ := hpre (x := true) hb
      obtain ⟨_, _, _, hsz, _⟩ := info_ok (w := w) hP (hP.sl t e' ht).2
      cases hmx : mx with
      | none =>
        have hb' := run_bounds (P := P) (w := w) (s := true) (len := m) (cap := cap) (mx := none) p2 p3 (m := cap) rfl p5 p6 (by omega) (by omega) (.inl rfl)
        exact ⟨cap, by simp [execOp, hop, hmx, hev, Instr.sliceAt, Instr.slice, underlying, (hP.sl t e' ht).1, hb', hsz], by omega, by omega, by omega, by omega⟩
      | some y =>
        rw [hmx] at p4 h4
        have hb' := run_bounds (P := P) (w := w) (s := true) (len := m) (cap := cap) (mx := some (a.eval y)) p2 p3 (m := mm) p4 p5 p6 (by omega) (by omega) h4
        exact ⟨mm.toNat, by simp [execOp, hop, hmx, hev, Instr.sliceAt, Instr.slice, underlying, (hP.sl t e' ht).1, hb', hsz], by omega, by omega, by omega, by omega⟩
    split at he
    · rename_i ty v
      cases hbq : Nat.beq t ty with
      | false => simp [hbq] at he
      | true =>
        simp only [hbq, cond_true] at he
        have := Nat.eq_of_beq_eq_true hbq; subst this
        refine .mk he fun hb => ?_
        have p1 := (hpre (x := true) hb).1
        have hxx := hx p1
        obtain ⟨A, cap, hev, hcap⟩ := len_slice hP h hl ht hm hxx
        obtain ⟨m', hrun, q1, q2, q3, q4⟩ := run hev hcap hb
        refine ⟨_, hrun, .val ?_ (shaped_one hP.wf (by simp [ht]) rfl)⟩
        rw [hev] at hxx
        cases hxx with
        | val a1 a2 =>
          have hz : ∀ {A' : Option Addr} {c : Nat}, hh.toNat = l.toNat → Rep E w g t (v.cut l.toNat hh.toNat) .fz 0 [] (.reg (Value.slice A' (hh.toNat - l.toNat) c).cells.toList 0) := by
            intro A' c heq
            have : v.cut l.toNat hh.toNat = .sl [] := by
              simp only [T.cut, heq]; congr 1; apply List.drop_eq_nil_of_le; simp; omega
            rw [this, heq, Nat.sub_self]
            exact .fz0 ht rfl
          cases a1 with
          | fz b1 b2 b3 b4 b5 b6 =>
            rw [ht] at b1; cases b1
            rename_i es aa cc
            simp [rd, Value.cells] at b2
            obtain ⟨rfl, hlen, rfl⟩ := b2
            by_cases heq : hh.toNat = l.toNat
            · exact hz heq
            · have hne : m' ≠ l.toNat := by omega
              have hcl : ((es.take hh.toNat).drop l.toNat).length = hh.toNat - l.toNat := by simp; omega
              simp only [if_neg hne, Option.map_some, addr_add b3, T.cut, T.es]
              refine .fz (a := ⟨aa.block, aa.off + l.toNat * E.sz e', none⟩) (cap := m' - l.toNat) ht (by simp [rd, Value.cells, hcl]) rfl (by omega) b5 fun i tt hi' => ?_
              obtain ⟨c1, c2⟩ := cut_get hi'
              have := b6 _ _ c1
              simp only
              rw [show aa.off + l.toNat * E.sz e' + i * E.sz e' = aa.off + (l.toNat + i) * E.sz e' by rw [Nat.add_mul]; omega]
              exact this
          | fz0 b1 b2 => simp [rd, Value.cells] at b2; exact hz (by omega)
          | own0 b1 b2 => simp [O.own] at b2
          | own b1 b2 => simp [O.own] at b2
          | _ => simp_all
    · rename_i ty
      cases hbq : Nat.beq t ty with
      | false => simp [hbq] at he
      | true =>
        simp only [hbq, cond_true] at he
        have := Nat.eq_of_beq_eq_true hbq; subst this
        refine .mk he fun hb => ?_
        have p1 := (hpre (x := true) hb).1
        have hxx := hx p1
        obtain ⟨A, cap, hev, hcap⟩ := len_slice hP h hl ht hm hxx
        obtain ⟨m', hrun, q1, q2, q3, q4⟩ := run hev hcap hb
        rw [hev] at hxx
        cases hxx with
        | nil =>
          obtain rfl : m' = 0 := by omega
          have hl0 : l.toNat = 0 := by omega
          have hh0 : hh.toNat = 0 := by omega
          rw [hl0, hh0] at hrun
          exact ⟨_, hrun, .nil ht⟩
    · rename_i ty r p
      split at he
      · rename_i R hR
        cases hbq : Nat.beq t ty && (R.o.get p).own with
        | false => simp [hbq] at he
        | true =>
          simp only [hbq, cond_true] at he
          simp only [Bool.and_eq_true] at hbq
          have := Nat.eq_of_beq_eq_true hbq.1; subst this
          refine .mk he fun hb => ?_
          have p1 := (hpre (x := true) hb).1
          have hxx := hx p1
          obtain ⟨A, cap, hev, hcap⟩ := len_slice hP h hl ht hm hxx
          obtain ⟨m', hrun, q1, q2, q3, q4⟩ := run hev hcap hb
          refine ⟨_, hrun, ?_⟩
          rw [hev] at hxx
          cases hxx with
          | sref a1 a2 a3 a4 =>
            have hR' := hl r R hR
            rw [ht] at a2; cases a2
            refine .sub a1 ht a3 a4 q3 q4 (by omega) (by omega) ?_
            have hrep := sub_rep (h.rts r R hR') (by rw [hR'] at a1; cases a1; exact a3)
            generalize R.t.get p = tt at hrep
            generalize R.o.get p = oo at hrep hbq
            cases hrep with
            | own b1 b2 b3 b4 b5 b6 b7 b8 =>
              rename_i es aa cc
              rw [a4] at b3; simp only [Option.some.injEq, Value.slice.injEq] at b3
              obtain ⟨rfl, _, _⟩ := b3
              obtain ⟨bb, oo', ss⟩ := aa
              cases b4
              right
              by_cases hml : m' = l.toNat
              · exact ⟨bb, oo', oo', rfl, by rw [if_pos hml], by omega, .inl (by omega)⟩
              · exact ⟨bb, oo', oo' + l.toNat * E.sz e', rfl, by rw [if_neg hml, Option.map_some, addr_add rfl], by omega, .inr rfl⟩
            | own0 b1 b2 b3 => rw [a4] at b3; cases b3; left; exact ⟨rfl, by split <;> rfl⟩
            | fz => simp [O.own] at hbq
            | fz0 => simp [O.own] at hbq
            | dead => simp [O.own] at hbq
            | _ => simp_all
      · cases he
    · rename_i ty r p lo' hi'
      cases hbq : Nat.beq t ty with
      | false => simp [hbq] at he
      | true =>
        simp only [hbq, cond_true] at he
        have := Nat.eq_of_beq_eq_true hbq; subst this
        refine .mk he fun hb => ?_
        have p1 := (hpre (x := true) hb).1
        have hxx := hx p1
        obtain ⟨A, cap, hev, hcap⟩ := len_slice hP h hl ht hm hxx
        obtain ⟨m', hrun, q1, q2, q3, q4⟩ := run hev hcap hb
        refine ⟨_, hrun, ?_⟩
        rw [hev] at hxx
        have hmm : m = hi' - lo' := by simp only [lenE, ht, hbq, cond_true, Option.some.injEq] at hm; exact hm.symm
        generalize hvv : Value.slice A m cap = vv at hxx
        cases hxx with
        | sub a1 a2 a3 a4 a5 a6 a7 a8 a9 =>
          simp only [Value.slice.injEq] at hvv
          obtain ⟨rfl, _, rfl⟩ := hvv
          rw [ht] at a2; cases a2
          rw [show hh.toNat - l.toNat = (lo' + hh.toNat) - (lo' + l.toNat) by omega]
          refine .sub a1 ht a3 a4 (by omega) (by omega) (by omega) (by omega) ?_
          rcases a9 with ⟨c1, c2⟩ | ⟨bb, xx, yy, c1, c2, c3, c4⟩
          · left; exact ⟨c1, by rw [c2]; split <;> rfl⟩
          · right
            by_cases hml : m' = l.toNat
            · exact ⟨bb, xx, yy, c1, by rw [if_pos hml, c2], by rw [Nat.add_mul]; omega, .inl (by omega)⟩
            · rcases c4 with c4 | c4
              · omega
              · exact ⟨bb, xx, yy + l.toNat * E.sz e', c1, by rw [if_neg hml, c2, Option.map_some, addr_add rfl], by rw [Nat.add_mul]; omega, .inr (by rw [Nat.add_mul]; omega)⟩
    · cases he
  · cases he
end
end Go.Proofs.YtfelodpbejdhlaaDoor.Ra
/- Fields of values, conversions, structs, closures. -/
namespace Go.Proofs.YtfelodpbejdhlaaDoor.Ra
open Go Go.RowKit

theorem shaped_ext {E : Env} {f : Nat} {v v' : Value} (h : Shaped E f v) (h' : Shaped E f v') (hc : v.cells = v'.cells) : v = v' := by
  obtain ⟨_, h⟩ := h
  obtain ⟨_, h'⟩ := h'
  cases he : E.ty f with
  | st fs =>
    rw [he] at h h'
    obtain ⟨c, rfl⟩ := h; obtain ⟨c', rfl⟩ := h'
    simp [Value.cells] at hc; rw [hc]
  | _ =>
    rw [he] at h h'
    simp only at h h'
    rw [h, h'] at hc
    simpa using hc

section
variable {P : Program} {E : Env} {n : Nat} {st : St} {a : Act} {w : World} {g : Gh} {hold : Nat → Place} {look : Nat → Option Rt} {o : Oper} {b : Bool}

theorem part_run (hP : PrOk P E) {f k : Nat} (hf : okTy E f = true) {cs : Array Value} (hlen : k + E.sz f ≤ cs.size) (hc : (∀ fs, E.ty f ≠ .st fs) → ∃ v, cs[k]? = some v ∧ v.cells = #[v]) :
    ∃ v, (part f cs k).run P w = .ok v w ∧ Shaped E f v ∧ ∀ j, j < E.sz f → v.cells.toList[j]? = cs[k + j]? := by
  obtain ⟨i, _, _, hsz, _⟩ := info_ok (w := w) hP hf
  have hag := isAgg_ok (w := w) hP hf
  cases he : E.ty f with
  | st fs =>
    rw [he] at hag
    refine ⟨.agg (cs.extract k (k + E.sz f)), ?_, ⟨by simp [Value.cells]; omega, by rw [he]; exact ⟨_, rfl⟩⟩, fun j hj => ?_⟩
    · simp only [part, Sem.run_bind, hag]
      simp [hsz]
    · simp [Value.cells, List.getElem?_take, hj]
  | bad => simp [okTy, he] at hf
  | cp => simp [okTy, he] at hf
  | _ =>
    rw [he] at hag
    have h1 := hP.wf.one f (by simp [he])
    obtain ⟨v, hv, hv'⟩ := hc (by simp [he])
    refine ⟨v, ?_, shaped_one hP.wf (by simp [he]) hv', fun j hj => ?_⟩
    · simp only [part, Sem.run_bind, hag]
      simp [hv]
    · obtain rfl : j = 0 := by omega
      rw [Nat.add_zero, hv]; simp [hv']

theorem field_ok (hP : PrOk P E) {t j : Nat} {x : Operand} {e : Eff} (hop : o.op = .field t x j) {av : AV} (hv : b = true → AvOk E w g st.rt hold av (a.eval x))
    (he : fieldE E t j b av = some e) : Ylds P E st a w g hold o e := by
  unfold fieldE at he
  split at he
  rotate_left
  · cases he
  rename_i fs hs
  split at he
  · rename_i ty v
    cases hc : Nat.beq ty t && decide (j < fs.length) with
    | false => simp [hc] at he
    | true =>
      simp only [hc, cond_true] at he
      simp only [Bool.and_eq_true, decide_eq_true_eq] at hc
      have := Nat.eq_of_beq_eq_true hc.1; subst this
      refine .mk he fun hb => ?_
      have hv := hv hb
      generalize hev : a.eval x = vx at hv
      cases hv with
      | val a1 a2 =>
        obtain ⟨fds, fd, f, hff, hf, hu, hfd, c1, c2, c3, c5⟩ := st_fld hP hs hc.2
        obtain ⟨cs, rfl⟩ : ∃ cs, vx = .agg cs := by have := a2.2; rw [hs] at this; exact this
        have hsz := a2.1
        simp only [Value.cells] at hsz a1
        have hcell := a1.cells hP.wf rfl
        obtain ⟨v', h1, h2, h3⟩ := part_run (P := P) (w := w) hP c5 (k := off E fs j) (cs := cs) (by rw [hsz, hP.wf.sum _ _ hs]; exact off_le hf) (fun _ => by
          have := hcell (off E fs j) (by rw [hP.wf.sum _ _ hs]; have := off_le (E := E) hf; omega)
          simpa [rd, Place.add] using this)
        rw [hff]
        refine ⟨v', by simp [execOp, hop, hev, Instr.field, underlying, hu, hfd, asAgg, c1, c2, h1], .val ?_ h2⟩
        cases a1 with
        | st b1 b2 b3 =>
          rw [hs] at b1; cases b1
          have := (b3 j _ _ hf (fld_of (by omega))).frozen rfl (fun _ h => h) 0 []
          exact this.place hP.wf fun k hk => by simpa [rd, Place.add] using h3 k hk
        | _ => simp_all
  · rename_i ty l
    cases hc : Nat.beq ty t && decide (j < fs.length) with
    | false => simp [hc] at he
    | true =>
      simp only [hc, cond_true] at he
      simp only [Bool.and_eq_true, decide_eq_true_eq] at hc
      have := Nat.eq_of_beq_eq_true hc.1; subst this
      refine .mk he fun hb => ?_
      have hv := hv hb
      generalize hev : a.eval x = vx at hv
      cases hv with
      | agg a1 a2 a3 a4 a5 =>
        rename_i vs
        rw [hs] at a1; cases a1
        obtain ⟨fds, fd, f, hff, hf, hu, hfd, c1, c2, c3, c5⟩ := st_fld hP hs hc.2
        have hvj : vs[j]? = some (vs[j]'(by omega)) := List.getElem?_eq_getElem _
        have hlj : l[j]? = some (l.getD j .undef) := by simp [a2, hc.2]
        refine ⟨vs[j]'(by omega), ?_, a4 j _ _ hlj hvj⟩
        have hshape := a5 j f _ hf hvj
        have hget := flatMap_get a3 a5 j f _ hf hvj
        have hlen := flatMap_len a3 a5
        obtain ⟨v', h1, h2, h3⟩ := part_run (P := P) (w := w) hP c5 (k := off E fs j) (cs := (vs.flatMap fun v => v.cells.toList).toArray)
          (by rw [List.size_toArray, hlen]; exact off_le hf) (fun hns => by
            have h0 := hP.wf.one f (by cases he : E.ty f <;> simp_all [okTy])
            have hsj := hshape.2
            have hself : (vs[j]'(by omega)).cells = #[vs[j]'(by omega)] := by
              cases he : E.ty f <;> simp_all
            refine ⟨vs[j]'(by omega), ?_, hself⟩
            have := hget 0 (by omega)
            rw [hself] at this
            simpa using this)
        have : v' = vs[j]'(by omega) := shaped_ext h2 hshape (by
          apply Array.ext'
          apply List.ext_getElem?
          intro k
          by_cases hk : k < E.sz f
          · rw [h3 k hk, ← hget k hk]; simp
          · rw [List.getElem?_eq_none (by have := h2.1; simp; omega), List.getElem?_eq_none (by have := hshape.1; simp; omega)])
        subst this
        simp [execOp, hop, hev, Instr.field, underlying, hu, hfd, asAgg, c1, c2, h1]
  · cases he
end
end Go.Proofs.YtfelodpbejdhlaaDoor.Ra
/- A slice's elements, whatever it is told by; conversions; structs; closures. -/
namespace Go.Proofs.YtfelodpbejdhlaaDoor.Ra
open Go Go.RowKit

section
variable {P : Program} {E : Env} {n : Nat} {st : St} {a : Act} {w : World} {g : Gh} {hold : Nat → Place} {look : Nat → Option Rt} {o : Oper} {b : Bool}

def SlCells (E : Env) (w : World) (g : Gh) (e : Nat) (v : Value) (t : T) : Prop :=
  ∃ A cap, v = .slice A t.es.length cap ∧ t = .sl t.es ∧ t.es.length ≤ cap ∧
    (t.es = [] ∨ ∃ aa : Addr, A = some aa ∧ aa.spot = none ∧ ∀ (i : Nat) (t' : T), t.es[i]? = some t' → ∃ o r p, o.live = true ∧ Rep E w g e t' o r p (.mem aa.block (aa.off + i * E.sz e)))

theorem Rep.slCells {ty e : Nat} {t : T} {o : O} {r : Nat} {p : List Step} {κ : Place} {v : Value} (ht : E.ty ty = .sl e) (h : Rep E w g ty t o r p κ) (hl : o.live = true) (hv : rd w κ = some v) :
    SlCells E w g e v t := by
  cases h with
  | fz0 _ h => rw [h] at hv; cases hv; exact ⟨_, _, rfl, rfl, by simp [T.es], .inl rfl⟩
  | fz b1 b2 b3 b4 b5 b6 => rw [b2] at hv; cases hv; rw [ht] at b1; cases b1; exact ⟨_, _, rfl, rfl, b4, .inr ⟨_, rfl, b3, fun i t' h => ⟨_, _, _, rfl, b6 i t' h⟩⟩⟩
  | own0 _ _ h => rw [h] at hv; cases hv; exact ⟨_, _, rfl, rfl, by simp [T.es], .inl rfl⟩
  | own b1 b2 b3 b4 b5 b6 b7 b8 =>
    rw [b3] at hv; cases hv; rw [ht] at b1; cases b1
    exact ⟨_, _, rfl, rfl, b5, .inr ⟨_, rfl, b4, fun i t' h => ⟨_, _, _, live_elem hl, b8 i t' h⟩⟩⟩
  | dead => simp [O.live] at hl
  | _ => simp_all

theorem sl_cells (hP : PrOk P E) (h : Inv E n st a w g hold) (hl : ∀ r R, look r = some R → st.rt r = some R) {ty e : Nat} {x : AV} {v : Value} {t : T} (ht : E.ty ty = .sl e)
    (hs : sn E look ty x = some t) (hx : AvOk E w g st.rt hold x v) : SlCells E w g e v t := by
  cases x with
  | sref ty' r p =>
    simp only [sn] at hs
    split at hs
    · rename_i R hR
      cases hc : Nat.beq ty' ty && (R.o.get p).live with
      | false => simp [hc] at hs
      | true =>
        simp [hc] at hs; subst hs
        simp only [Bool.and_eq_true] at hc
        have := Nat.eq_of_beq_eq_true hc.1; subst this
        cases hx with
        | sref a1 a2 a3 a4 =>
          have hR' := hl r R hR; rw [hR'] at a1; cases a1
          exact (sub_rep (h.rts r R hR') a3).slCells ht hc.2 a4
    · cases hs
  | sub ty' r p lo hi =>
    simp only [sn] at hs
    split at hs
    · rename_i R hR
      cases hc : Nat.beq ty' ty && (R.o.get p).live with
      | false => simp [hc] at hs
      | true =>
        simp [hc] at hs; subst hs
        simp only [Bool.and_eq_true] at hc
        have := Nat.eq_of_beq_eq_true hc.1; subst this
        cases hx with
        | sub a1 a2 a3 a4 a5 a6 a7 a8 a9 =>
          have hR' := hl r R hR; rw [hR'] at a1; cases a1
          rw [ht] at a2; cases a2
          obtain ⟨A', cap'', hv', ht', hle, hel⟩ := (sub_rep (h.rts r R hR') a3).slCells ht hc.2 a4
          generalize hT : R.t.get p = tt at *
          simp only [Value.slice.injEq] at hv'
          obtain ⟨rfl, rfl, rfl⟩ := hv'
          have hlen : ((tt.cut lo hi)).es.length = hi - lo := by simp [T.cut, T.es]; simp [T.es] at a6; omega
          refine ⟨_, _, by rw [hlen], rfl, by rw [hlen]; exact a7, ?_⟩
          by_cases hz : hi = lo
          · left; exact List.eq_nil_of_length_eq_zero (by rw [hlen, hz]; omega)
          · right
            rcases hel with hel | ⟨aa, rfl, h1, h2⟩
            · rw [hel] at a6; simp at a6; omega
            · rcases a9 with ⟨c1, _⟩ | ⟨bb, xx, yy, c1, c2, c3, c4⟩
              · cases c1
              · simp only [Option.some.injEq] at c1; subst c1
                have hyy : yy = xx + lo * E.sz e := by rcases c4 with c4 | c4 <;> omega
                refine ⟨_, c2, rfl, fun i t' hi' => ?_⟩
                obtain ⟨d1, _⟩ := cut_get (es := tt.es) hi'
                obtain ⟨o', r', p', q1, q2⟩ := h2 _ _ d1
                refine ⟨o', r', p', q1, ?_⟩
                simp only at q2 ⊢
                rw [hyy, show xx + lo * E.sz e + i * E.sz e = xx + (lo + i) * E.sz e by rw [Nat.add_mul]; omega]
                exact q2
    · cases hs
  | agg ty' l => simp [sn, ht] at hs
  | fnc f => simp [sn, ht] at hs
  | val ty' t' =>
    obtain ⟨h1, h2⟩ := vt_ok hP.wf (show sn E noRoot ty (.val ty' t') = some t by simpa [sn] using hs) hx
    have hs := h2.2; rw [ht] at hs; simp only at hs
    rw [hs] at h1
    exact h1.slCells ht rfl rfl
  | cst c =>
    obtain ⟨h1, h2⟩ := vt_ok hP.wf (show sn E noRoot ty (.cst c) = some t by simpa [sn] using hs) hx
    have hs := h2.2; rw [ht] at hs; simp only at hs
    rw [hs] at h1
    exact h1.slCells ht rfl rfl
  | nil ty' =>
    obtain ⟨h1, h2⟩ := vt_ok hP.wf (show sn E noRoot ty (.nil ty') = some t by simpa [sn] using hs) hx
    have hs := h2.2; rw [ht] at hs; simp only at hs
    rw [hs] at h1
    exact h1.slCells ht rfl rfl
  | pv ty' a => simp [sn, ht] at hs
  | _ => simp [sn] at hs

theorem foldl_push (ns : List Int) : ∀ (s : ByteArray), ns.foldl (fun r m => r.push (UInt8.ofNat m.toNat)) s = ⟨s.data ++ (ns.map fun m => UInt8.ofNat m.toNat).toArray⟩ := by
  induction ns with
  | nil => intro s; simp
  | cons m ns ih => intro s; rw [List.foldl_cons, ih]; simp [ByteArray.push]

theorem conv_ok (hP : PrOk P E) (h : Inv E n st a w g hold) (hl : ∀ r R, look r = some R → st.rt r = some R) {src dst : Nat} {x : Operand} {e : Eff} (hop : o.op = .convert src dst x) {av : AV}
    (hv : b = true → AvOk E w g st.rt hold av (a.eval x)) (he : convE E look src dst b av = some e) : Ylds P E st a w g hold o e := by
  unfold convE at he
  split at he
  · rename_i k k' h1 h2
    simp only [Option.bind_eq_some_iff] at he
    obtain ⟨t, ht, he⟩ := he
    refine .mk he fun hb => ?_
    have := vt_int hP.wf h1 ht (hv hb)
    exact ⟨_, by simp [execOp, hop, this, convert, underlying, hP.int _ _ h1, hP.int _ _ h2, Conv.intToInt], val_int hP.wf h2⟩
  · rename_i h1 h2
    simp only [Option.bind_eq_some_iff] at he
    obtain ⟨t, ht, he⟩ := he
    refine .mk he fun hb => ?_
    have := vt_str hP.wf h1 ht (hv hb)
    exact ⟨_, by simp [execOp, hop, this, convert, underlying, hP.str _ h1, hP.str _ h2], val_str hP.wf h2⟩
  · rename_i e' h1 h2
    split at he
    · rename_i h3
      simp only [Option.bind_eq_some_iff] at he
      obtain ⟨t, ht, he⟩ := he
      refine .mk he fun hb => ?_
      obtain ⟨A, cap, hev, ht', hle, hel⟩ := sl_cells hP h hl h1 ht (hv hb)
      refine ⟨_, ?_, val_str hP.wf h2⟩
      have base : (Conv.bytesToString (.slice A t.es.length cap)).run P w = .ok (.string ⟨(t.es.map fun c => UInt8.ofNat c.i.toNat).toArray⟩) w := by
        cases A with
        | none =>
          rcases hel with hel | ⟨aa, hA, _⟩
          · rw [hel]; simp [Conv.bytesToString]; rfl
          · cases hA
        | some aa =>
          have hcells : (loadCells aa t.es.length).run P w = .ok ((t.es.map T.i).map (Value.int .u8)).toArray w := by
            rcases hel with hel | ⟨aa', hA, hsp, hel⟩
            · rw [hel]; simp [loadCells, loadCellsFrom]
            · simp only [Option.some.injEq] at hA; subst hA
              have hsz := hP.wf.one e' (by simp [h3])
              have hc : ∀ k, k < t.es.length → w.cell? ⟨aa.block, aa.off + k, none⟩ = some (.int .u8 ((t.es.map T.i).getD k 0)) := by
                intro k hk
                have hk' : t.es[k]? = some (t.es[k]'hk) := List.getElem?_eq_getElem _
                obtain ⟨o', r', p', q1, q2⟩ := hel k _ hk'
                rw [hsz, Nat.mul_one] at q2
                generalize hgt : t.es[k]'hk = tk at q2 hk'
                have hm : (t.es.map T.i).getD k 0 = tk.i := by simp [hk']
                rw [hm]
                cases q2 with
                | int d1 d2 => rw [h3] at d1; cases d1; exact d2
                | dead => simp [O.live] at q1
                | bool d1 => rw [h3] at d1; cases d1
                | str d1 => rw [h3] at d1; cases d1
                | fn _ _ d1 => rw [h3] at d1; cases d1
                | cp d1 => rw [h3] at d1; cases d1
                | fz0 d1 => rw [h3] at d1; cases d1
                | fz d1 => rw [h3] at d1; cases d1
                | own0 d1 => rw [h3] at d1; cases d1
                | own d1 => rw [h3] at d1; cases d1
                | st d1 => rw [h3] at d1; cases d1
              obtain ⟨l, e1, e2, e3⟩ := run_loadCells (P := P) hsp t.es.length 0 #[] (fun k hk => ⟨_, by rw [Nat.zero_add]; exact hc k hk⟩)
              unfold loadCells
              rw [e2]
              congr 1
              simp only [Array.empty_append]
              congr 1
              apply List.ext_getElem?
              intro k
              by_cases hk : k < t.es.length
              · rw [e3 k hk, Nat.zero_add, hc k hk]; simp [hk]
              · rw [List.getElem?_eq_none (by omega), List.getElem?_eq_none (by simp; omega)]
          rw [run_bytesToString w aa t.es.length cap (t.es.map T.i) hcells, foldl_push]
          simp [Function.comp_def]
      simp [execOp, hop, hev, convert, underlying, (hP.sl _ _ h1).1, hP.str _ h2, hP.int _ _ h3, base]
    · cases he
  · cases he

theorem func_ok (hP : PrOk P E) {f : Nat} {fs cs : Array Operand} {e : Eff} (hop : o.op = .makeFunc (.func f) fs cs) {ρ : Operand → AV} (hρ : ∀ x, AvOk E w g st.rt hold (ρ x) (a.eval x))
    (he : funcE E o.type f fs.isEmpty (cs.toList.all fun x => (strip (ρ x)).1) (cs.toList.map fun x => (strip (ρ x)).2) = some e) : Ylds P E st a w g hold o e := by
  unfold funcE at he
  split at he
  · rename_i ps rs gi h1 h2
    simp only at he
    generalize hct : (gi.params.drop ps.length).map (·.1) = cts at he
    cases hc : fs.isEmpty && (fnFits E f cts ps rs && decide (cts.length = (cs.toList.map fun x => (strip (ρ x)).2).length)) with
    | false => simp only [hc, cond_false] at he; cases he
    | true =>
      simp only [hc, cond_true] at he
      simp only [Bool.and_eq_true, decide_eq_true_eq] at hc
      obtain ⟨c1, c2, c3⟩ := hc
      split at he
      · rename_i ts hts
        refine .mk he fun hb => ?_
        have hfs : fs = #[] := by simpa using c1
        have hq : ∀ x ∈ cs.toList, (strip (ρ x)).1 = true := List.all_eq_true.1 hb
        refine ⟨.func (.func f) #[] (cs.map a.eval), by simp [execOp, hop, hfs, Instr.makeFunc], .val ?_ (shaped_one hP.wf (by simp [h1]) rfl)⟩
        obtain ⟨l1, l2⟩ := vts_ok (w := w) (g := g) (rt := st.rt) (hold := hold) hP.wf hts
        have hel : ∀ (i ct : Nat) (c : T) (v : Value), cts[i]? = some ct → ts[i]? = some c → (cs.map a.eval).toList[i]? = some v →
            Rep E w g ct c .fz 0 [] (.reg v.cells.toList 0) ∧ Shaped E ct v := by
          intro i ct c v hi1 hi2 hi3
          simp only [Array.toList_map, List.getElem?_map, Option.map_eq_some_iff] at hi3
          obtain ⟨x, hx, rfl⟩ := hi3
          exact l2 i ct c (strip (ρ x)).2 _ hi1 hi2 (by simp [hx]) (strip_ok (hρ x) (hq x (List.mem_of_getElem? hx)))
        refine .fn (cs.map a.eval).toList cts h1 c2 l1 (by simpa using c3.symm) (by rw [Array.toArray_toList]; rfl) (fun i ct c v x1 x2 x3 => (hel i ct c v x1 x2 x3).1) (fun i ct v x1 x3 => ?_)
        have hi := (List.getElem?_eq_some_iff.1 x1).1
        exact (hel i ct (ts[i]'(by omega)) v x1 (List.getElem?_eq_getElem _) x3).2
      · cases he
  · cases he
end
end Go.Proofs.YtfelodpbejdhlaaDoor.Ra
/- Structs built as values. -/
namespace Go.Proofs.YtfelodpbejdhlaaDoor.Ra
open Go Go.RowKit

def flatV (vs : List Value) : List Value := vs.flatMap fun v => v.cells.toList

theorem foldl_sets : ∀ (cs : List Value) (k i : Nat) (arr : Array Value), (cs.zipIdx i).foldl (fun a (c, j) => a.setIfInBounds (k + j) c) arr =
    Array.ofFn (n := arr.size) fun x => if h : k + i ≤ x.1 ∧ x.1 < k + i + cs.length then cs[x.1 - (k + i)]'(by omega) else arr[x.1] := by
  intro cs
  induction cs with
  | nil => intro k i arr; apply Array.ext <;> simp; intro j h1 h2 h3; omega
  | cons c cs ih =>
    intro k i arr
    simp only [List.zipIdx_cons, List.foldl_cons]
    rw [ih]
    apply Array.ext
    · simp
    · intro x h1 h2
      simp only [Array.getElem_ofFn, List.length_cons]
      by_cases hx : x = k + i
      · subst hx
        rw [dif_neg (by omega), dif_pos (by omega)]
        simp [Array.getElem_setIfInBounds]
      · by_cases h : k + (i + 1) ≤ x ∧ x < k + (i + 1) + cs.length
        · rw [dif_pos h, dif_pos (by omega)]
          have : x - (k + i) = (x - (k + (i + 1))) + 1 := by omega
          simp [this]
        · rw [dif_neg h, dif_neg (by omega)]
          apply Option.some.inj
          rw [← Array.getElem?_eq_getElem, ← Array.getElem?_eq_getElem, Array.getElem?_setIfInBounds_ne (by omega)]

theorem flat_get {E : Env} {vs : List Value} {fs : List Nat} (hl : vs.length = fs.length) (hs : ∀ (j f : Nat) (v : Value), fs[j]? = some f → vs[j]? = some v → Shaped E f v)
    {j f : Nat} {v : Value} (hf : fs[j]? = some f) (hv : vs[j]? = some v) {k : Nat} (hk : k < E.sz f) : (flatV vs)[off E fs j + k]? = v.cells.toList[k]? := flatMap_get hl hs j f v hf hv k hk

theorem set_shape {E : Env} {vs : List Value} {fs : List Nat} (hs : ∀ (j f : Nat) (v : Value), fs[j]? = some f → vs[j]? = some v → Shaped E f v) {i f : Nat} {x : Value} (hf : fs[i]? = some f)
    (hx : Shaped E f x) : ∀ (j f : Nat) (v : Value), fs[j]? = some f → (vs.set i x)[j]? = some v → Shaped E f v := by
  intro j f' v hf' hv
  by_cases hj : i = j
  · subst hj
    rw [hf] at hf'; cases hf'
    rw [List.getElem?_set] at hv
    split at hv
    · split at hv
      · cases hv; exact hx
      · cases hv
    · rename_i h; exact absurd rfl h
  · rw [List.getElem?_set_ne hj] at hv
    exact hs j f' v hf' hv

theorem flat_set {E : Env} {vs : List Value} {fs : List Nat} (hl : vs.length = fs.length) (hs : ∀ (j f : Nat) (v : Value), fs[j]? = some f → vs[j]? = some v → Shaped E f v)
    {i f : Nat} {x : Value} (hf : fs[i]? = some f) (hx : Shaped E f x) :
    x.cells.zipIdx.foldl (fun cs (c, j) => cs.setIfInBounds (off E fs i + j) c) (flatV vs).toArray = (flatV (vs.set i x)).toArray := by
  have hlen := flatMap_len hl hs
  have hlen' : (flatV (vs.set i x)).length = (fs.map E.sz).sum := flatMap_len (by simpa using hl) (set_shape hs hf hx)
  have hoff := off_le (E := E) hf
  have h0 := hx.1
  have := foldl_sets x.cells.toList (off E fs i) 0 (flatV vs).toArray
  rw [show x.cells.zipIdx.foldl (fun cs (c, j) => cs.setIfInBounds (off E fs i + j) c) (flatV vs).toArray =
    (x.cells.toList.zipIdx 0).foldl (fun cs (c, j) => cs.setIfInBounds (off E fs i + j) c) (flatV vs).toArray by
      rw [← Array.foldl_toList]; simp, this]
  apply Array.ext
  · simp [flatV] at *; omega
  · intro k h1 h2
    have hk : k < (fs.map E.sz).sum := by simp at h2; omega
    simp only [Array.getElem_ofFn]
    obtain ⟨j, f', hj, a1, a2⟩ := off_find hk
    have hjl := (List.getElem?_eq_some_iff.1 hj).1
    have hgv : vs[j]? = some (vs[j]'(by omega)) := List.getElem?_eq_getElem _
    apply Option.some.inj
    by_cases hji : i = j
    · subst hji
      rw [hf] at hj; cases hj
      have hgs : (vs.set i x)[i]? = some x := by rw [List.getElem?_set_self (by omega)]
      have hh := flat_get (by simpa using hl) (set_shape hs hf hx) hf hgs (k := k - off E fs i) (by omega)
      rw [Nat.add_sub_cancel' a1] at hh
      rw [dif_pos (by simp; omega)]
      simp only [List.getElem_toArray]
      rw [← List.getElem?_eq_getElem, ← List.getElem?_eq_getElem, hh]; simp
    · have hgs : (vs.set i x)[j]? = some (vs[j]'(by omega)) := by rw [List.getElem?_set_ne hji, hgv]
      have hh := flat_get (by simpa using hl) (set_shape hs hf hx) hj hgs (k := k - off E fs j) (by omega)
      have hh2 := flat_get hl hs hj hgv (k := k - off E fs j) (by omega)
      rw [Nat.add_sub_cancel' a1] at hh hh2
      rw [dif_neg]
      · simp only [List.getElem_toArray]
        rw [← List.getElem?_eq_getElem, ← List.getElem?_eq_getElem, hh, hh2]
      · simp only [Nat.add_zero, Array.length_toList]
        have o1 := off_succ (E := E) hf
        have o2 := off_succ (E := E) hj
        rcases Nat.lt_or_gt_of_ne hji with h | h
        · have := off_mono (E := E) (fs := fs) (i := i + 1) (j := j) h; omega
        · have := off_mono (E := E) (fs := fs) (i := j + 1) (j := i) h; omega

theorem fill_ok {E : Env} {fs : List Nat} {place : Nat → Option (Nat × Nat)} (hp : ∀ j f, fs[j]? = some f → place j = some (off E fs j, E.sz f)) : ∀ (parts : List (Nat × Value)) (vs : List Value),
    vs.length = fs.length → (∀ (j f : Nat) (v : Value), fs[j]? = some f → vs[j]? = some v → Shaped E f v) → (∀ x ∈ parts, ∃ f, fs[x.1]? = some f ∧ Shaped E f x.2) →
    Instr.fill place (flatV vs).toArray parts = some (flatV (parts.foldl (fun vs x => vs.set x.1 x.2) vs)).toArray ∧
      (parts.foldl (fun vs x => vs.set x.1 x.2) vs).length = fs.length ∧
      (∀ (j f : Nat) (v : Value), fs[j]? = some f → (parts.foldl (fun vs x => vs.set x.1 x.2) vs)[j]? = some v → Shaped E f v) := by
  intro parts
  induction parts with
  | nil => intro vs hl hs _; exact ⟨rfl, hl, hs⟩
  | cons x parts ih =>
    intro vs hl hs hx
    obtain ⟨f, hf, hsx⟩ := hx x (by simp)
    have hoff := off_le (E := E) hf
    have hlen := flatMap_len hl hs
    obtain ⟨h1, h2, h3⟩ := ih (vs.set x.1 x.2) (by simpa using hl) (set_shape hs hf hsx) fun y hy => hx y (by simp [hy])
    refine ⟨?_, h2, h3⟩
    obtain ⟨i, v⟩ := x
    simp only [Instr.fill, hp i f hf]
    have h0 := hsx.1
    simp only at h0
    rw [if_neg (by simp [flatV] at *; omega), flat_set hl hs hf hsx]
    exact h1

theorem foldl_set_get {α : Type} : ∀ (parts : List (Nat × α)) (vs : List α) (j : Nat), distinct (parts.map (·.1)) = true → j < vs.length →
    (parts.foldl (fun vs x => vs.set x.1 x.2) vs)[j]? = (match assoc parts j with | some v => some v | none => vs[j]?) := by
  intro parts
  induction parts with
  | nil => intro vs j _ _; rfl
  | cons x parts ih =>
    intro vs j hd hj
    obtain ⟨i, v⟩ := x
    simp only [List.map_cons, distinct, Bool.and_eq_true, Bool.not_eq_true'] at hd
    simp only [List.foldl_cons, assoc]
    rw [ih _ _ hd.2 (by simpa using hj)]
    have hmem : ∀ (l : List (Nat × α)), mem i (l.map (·.1)) = false → assoc l i = none := by
      intro l
      induction l with
      | nil => intro _; rfl
      | cons y l ihl =>
        intro h
        simp only [List.map_cons, mem, Bool.or_eq_false_iff] at h
        simp only [assoc, h.1, cond_false]; exact ihl h.2
    cases hb : Nat.beq i j with
    | true =>
      have := Nat.eq_of_beq_eq_true hb; subst this
      simp [hmem parts hd.1, hj]
    | false =>
      have hne : i ≠ j := fun h => by subst h; rw [show Nat.beq i i = true from Nat.beq_refl i] at hb; cases hb
      simp only [cond_false]
      rw [List.getElem?_set_ne hne]
end Go.Proofs.YtfelodpbejdhlaaDoor.Ra
