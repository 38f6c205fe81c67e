/- A verified evaluator for the program, part Ra1 of this claim. -/
import Derived.Calls
import Derived.Below
import Derived.Orders
import Derived.Laws.Sem
import Derived.Laws.StructEq
import Derived.Laws.BytesString
import Derived.Laws.Tables
import Derived.DataShut
import Derived.Laws.MakeOwn
set_option linter.unusedSimpArgs false
set_option linter.unusedVariables false
namespace Go.Proofs.YtdcnobhlknjnoaaGreatDoor.Ra
open Go
inductive aH where | idx (i:Nat) | fld (j:Nat)
inductive T where
 | int (n:Int)
 | bool (b:Bool)
 | str (s:ByteArray)
 | sl (es:List T)
 | st (fs:List T)
 | fn (f:Nat) (caps:List T)
instance:Inhabited T:=⟨.int 0⟩
def T.i:T→Int | .int n=>n | _=>0
def T.b:T→Bool | .bool b=>b | _=>false
def T.s:T→ByteArray | .str s=>s | _=>⟨#[]⟩
def T.es:T→List T | .sl es=>es | _=>[]
def T.fs:T→List T | .st fs=>fs | _=>[]
def T.fid:T→Nat | .fn f _=>f | _=>0
def T.caps:T→List T | .fn _ c=>c | _=>[]
def T.fld (t:T) (j:Nat):T:=t.fs.getD j (.int 0)
def T.nth (t:T) (i:Nat):T:=t.es.getD i (.int 0)
def T.get:T→List aH→T
 | t,[]=>t
 | t,.idx i :: p=>T.get (t.nth i) p
 | t,.fld j :: p=>T.get (t.fld j) p
def T.put:T→List aH→T→T
 | _,[],x=>x
 | t,.idx i :: p,x=>.sl (t.es.set i (T.put (t.nth i) p x))
 | t,.fld j :: p,x=>.st (t.fs.set j (T.put (t.fld j) p x))
def T.cut (lo hi:Nat) (t:T):T:=.sl ((t.es.take hi).drop lo)
inductive Ty where
 | int (k:IntKind) | bool | str
 | sl (e:Nat) | st (fs:List Nat) | ptr (e:Nat) | cp (e:Nat) | fn (ps rs:List Nat) | bad
inductive O where | fz | fo | dp | dead | sl (o:O) | st (os:List O)
def O.isFz:O→Bool | .fz=>true | _=>false
def O.isDead:O→Bool | .dead=>true | _=>false
def O.elem:O→O | .fz=>.fz | .fo=>.fo | .dp=>.dp | .dead=>.dead | .sl o=>o | .st _=>.dp
def O.fld:O→Nat→O | .fz,_=>.fz | .fo,_=>.fo | .dp,_=>.dp | .dead,_=>.dead | .sl _,_=>.dp | .st os,j=>os.getD j .dp
def O.own:O→Bool | .dp=>true | .sl _=>true | _=>false
def O.get:O→List aH→O
 | o,[]=>o
 | o,.idx _ :: p=>O.get o.elem p
 | o,.fld j :: p=>O.get (o.fld j) p
def O.way:O→List aH→Bool
 | _,[]=>true
 | o,.idx _ :: p=>o.own&&O.way o.elem p
 | .dead,.fld _ :: _=>false
 | o,.fld j :: p=>O.way (o.fld j) p
mutual
def O.live:O→Bool
 | .fz=>true
 | .fo=>true
 | .dp=>true
 | .dead=>false
 | .sl o=>o.live
 | .st os=>O.lives os
def O.lives:List O→Bool
 | []=>true
 | o :: os=>o.live&&O.lives os
end
mutual
def O.geDp:O→Bool
 | .fz=>false
 | .fo=>false
 | .dp=>true
 | .dead=>false
 | .sl o=>o.geDp
 | .st os=>O.geDps os
def O.geDps:List O→Bool
 | []=>true
 | o :: os=>o.geDp&&O.geDps os
end
mutual
def O.geFo:O→Bool
 | .fz=>false
 | .fo=>true
 | .dp=>true
 | .dead=>false
 | .sl o=>o.geFo
 | .st os=>O.geFos os
def O.geFos:List O→Bool
 | []=>true
 | o :: os=>o.geFo&&O.geFos os
end
def O.isFo:O→Bool | .fo=>true | _=>false
mutual
def O.le:O→O→Bool
 | .fz,o=>o.live
 | .fo,o=>o.isFo
 | .dead,_=>true
 | .dp,o=>o.geDp
 | .sl a,o=>bif o.own then O.le a o.elem else false
 | .st as,o=>match o with
  | .st bs=>O.les as bs
  | _=>false
def O.les:List O→List O→Bool
 | [],bs=>bs.isEmpty
 | a :: as,bs=>match bs with
  | []=>false
  | b :: bs=>O.le a b&&O.les as bs
end
mutual
def O.eq:O→O→Bool
 | .fz,.fz=>true
 | .fo,.fo=>true
 | .dp,.dp=>true
 | .dead,.dead=>true
 | .sl a,.sl b=>O.eq a b
 | .st as,.st bs=>O.eqs as bs
 | _,_=>false
def O.eqs:List O→List O→Bool
 | [],[]=>true
 | a :: as,b :: bs=>O.eq a b&&O.eqs as bs
 | _,_=>false
end
mutual
def leX (flat:Nat→Bool) (ty:Nat→Ty):O→Nat→O→Bool
 | .fz,_,o=>o.live
 | .fo,t,o=>o.isFo||(flat t&&o.live)
 | .dp,t,o=>o.geDp||(flat t&&o.live)
 | .dead,_,_=>true
 | .sl a,t,o=>match ty t with
  | .sl e=>o.own&&leX flat ty a e o.elem
  | _=>false
 | .st as,t,o=>match ty t with
  | .st fs=>!o.isDead&&lesX flat ty as fs o 0
  | _=>false
def lesX (flat:Nat→Bool) (ty:Nat→Ty):List O→List Nat→O→Nat→Bool
 | [],[],_,_=>true
 | a :: as,f :: fs,o,j=>leX flat ty a f (o.fld j)&&lesX flat ty as fs o (j+1)
 | _,_,_,_=>false
end
def O.meet (a b:O):O:=bif O.le a b then a else bif O.le b a then b else .fz
inductive AV where
 | undef
 | val (ty:Nat) (t:T)
 | cst (v:Value)
 | nil (ty:Nat)
 | fnc (f:Nat)
 | gd (b:Bool) (a:AV)
 | sref (ty r:Nat) (p:List aH)
 | sub (ty r:Nat) (p:List aH) (lo hi:Nat)
 | pref (ty r:Nat) (p:List aH)
 | fptr (ty:Nat) (t:T)
 | pv (ty:Nat) (a:AV)
 | alt (ty r:Nat) (p:List aH) (t:T)
 | row (ty d:Nat) (t:T) (a:AV)
 | ln (ty n:Nat)
 | agg (ty:Nat) (l:List AV)
 | tup (l:List AV)
instance:Inhabited AV:=⟨.undef⟩
structure Rt where
 ty:Nat
 t:T
 o:O
 box:Bool
structure St where
 tm:Nat→AV
 rt:Nat→Option Rt
inductive Mode where | ro | mu (o:O) | bx (o:O) | mv (o:O) | ig
inductive Ret where | vl (o:O) | bx (o:O) | ig
structure Fi where
 ntmps:Nat
 params:List (Nat × Mode)
 rets:List (Nat × Ret)
 body:Code
 results:List ResultVar
 keep:List (Nat × List Nat)
 weak:List (Nat × O)
 decl:List (Nat × List (List Nat × List Nat))
 pin:List Nat
 clip:Bool
 inl:List (Nat × Nat)
 alt:List Nat
 row:List Nat
 spl:List Nat
 var:List (Nat × Nat)
 tries:List (Nat × List Nat)
 lens:List Nat
 first:List (Nat × List Nat)
abbrev R:=Option (List T)
structure Env where
 ty:Nat→Ty
 sz:Nat→Nat
 flat:Nat→Bool
 nofn:Nat→Bool
 zero:Nat→T
 zc:Nat→List Value
 zok:Nat→Bool
 bt:Nat
 fn:Nat→Option Fi
 src:Nat→Nat
 tab:List (Nat × List Value)
 told:Nat→Option (List T→R)
 old:Nat
def leT (E:Env) (a:O) (ty:Nat) (o:O):Bool:=O.le a o||leX E.flat E.ty a ty o
def LIM:Nat:=4294967296
def aN (i:Nat):Nat:=100000+i
def eC (j:Nat):Nat:=200000+j
abbrev CS:=List (Nat × AV) × List (Nat × Rt)
def aJ {α:Type} : List (Nat × α)→Nat→Option α
 | [],_=>none
 | (k,v) :: l,n=>bif Nat.beq k n then some v else aJ l n
def mem (n:Nat):List Nat→Bool
 | []=>false
 | k :: l=>Nat.beq k n||mem n l
def mU (l m:List Nat):Bool:=l.all fun n=>mem n m
def dP (l m:List Nat):Bool:=l.all fun n=>!mem n m
mutual
def AV.refs:AV→List Nat
 | .gd _ a=>a.refs
 | .sref _ r _=>[r]
 | .sub _ r _ _ _=>[r]
 | .pref _ r _=>[r]
 | .alt _ r _ _=>[r]
 | .row _ d _ a=>d :: a.refs
 | .agg _ l=>AV.refsL l
 | .tup l=>AV.refsL l
 | .undef=>[]
 | .val _ _=>[]
 | .cst _=>[]
 | .nil _=>[]
 | .fnc _=>[]
 | .fptr _ _=>[]
 | .ln _ _=>[]
 | .pv _ a=>a.refs
def AV.refsL:List AV→List Nat
 | []=>[]
 | a :: l=>a.refs++AV.refsL l
end
def bj:List aH→Bool
 | []=>true
 | .fld _ :: p=>bj p
 | .idx _ :: _=>false
def dq (p:List aH):Bool:=bj p
abbrev Ks:=List (Nat × Nat)
def rl (j:Nat):List aH→Bool
 | .fld i :: _=>!Nat.beq i j
 | _=>false
def cb (ks:Ks) (r:Nat) (p:List aH):Bool:=
 match aJ ks r with
 | none=>false
 | some 1=>!bj p
 | some 3=>!bj p
 | some 4=>false
 | some k=>bif Nat.ble 10 k then !(bj p&&rl (k - 10) p) else true
def cD (ks:Ks) (r:Nat) (p:List aH):Bool:=
 match aJ ks r with
 | none=>false
 | some 2=>!bj p
 | some 3=>!bj p
 | some 4=>false
 | some k=>bif Nat.ble 10 k then !bj p else true
def dg (ks:Ks) (r:Nat):Bool:=(aJ ks r).isSome
mutual
def AV.cut (ks:Ks):AV→AV
 | .gd b a=>.gd b (a.cut ks)
 | .sref ty r p=>bif cb ks r p then .undef else .sref ty r p
 | .sub ty r p lo hi=>bif cb ks r p then .undef else .sub ty r p lo hi
 | .pref ty r p=>bif cD ks r p then .undef else .pref ty r p
 | .alt ty r p t=>bif dg ks r then .undef else .alt ty r p t
 | .row ty d t a=>bif dg ks d then .undef else .row ty d t (a.cut ks)
 | .agg ty l=>.agg ty (AV.cutL ks l)
 | .tup l=>.tup (AV.cutL ks l)
 | .undef=>.undef
 | .val ty t=>.val ty t
 | .cst v=>.cst v
 | .nil ty=>.nil ty
 | .fnc f=>.fnc f
 | .fptr ty t=>.fptr ty t
 | .ln ty n=>.ln ty n
 | .pv ty a=>.pv ty (a.cut ks)
def AV.cutL (ks:Ks):List AV→List AV
 | []=>[]
 | a :: l=>a.cut ks :: AV.cutL ks l
end
def jL:Ty→Value→Option T
 | .int k,.int k' n=>bif decide (k=k') then some (.int n) else none
 | .bool,.bool b=>some (.bool b)
 | .str,.string s=>some (.str s)
 | .sl _,.slice none 0 0=>some (.sl [])
 | _,_=>none
def pW (E:Env) (f:Nat) (caps:List Nat) (ps rs:List Nat):Bool:=
 match E.fn f with
 | none=>false
 | some fi=>fi.params.all (fun p=>match p.2 with | .ro=>true | _=>false)&&decide (fi.params.map (·.1)=ps++caps)&&(Nat.beq (E.src f) f&&(decide (fi.rets.map (·.1)=rs)&&fi.rets.all fun r=>match r.2 with | .vl o=>o.live | _=>false))
mutual
def sn (E:Env) (look:Nat→Option Rt) (ty:Nat):AV→Option T
 | .val ty' t=>bif Nat.beq ty' ty then some t else none
 | .cst v=>jL (E.ty ty) v
 | .nil ty'=>bif Nat.beq ty' ty then some (.sl []) else none
 | .fnc f=>match E.ty ty with
  | .fn ps rs=>bif pW E f [] ps rs then some (.fn f []) else none
  | _=>none
 | .sref ty' r p=>match look r with
  | some R=>bif Nat.beq ty' ty&&(R.o.get p).live then some (R.t.get p) else none
  | none=>none
 | .sub ty' r p lo hi=>match look r with
  | some R=>bif Nat.beq ty' ty&&(R.o.get p).live then some ((R.t.get p).cut lo hi) else none
  | none=>none
 | .alt ty' r _ t=>match look r with
  | some _=>bif Nat.beq ty' ty then some t else none
  | none=>none
 | .row ty' d t a=>match look d,E.ty ty with
  | some _,.sl e=>bif Nat.beq ty' ty then (sn E look e a).map fun x=>.sl (t.es ++ [x]) else none
  | _,_=>none
 | .agg ty' l=>match E.ty ty with
  | .st fs=>bif Nat.beq ty' ty then (snL E look fs l).map .st else none
  | _=>none
 | .pv ty' a=>match E.ty ty with
  | .cp e=>bif Nat.beq e ty' then sn E look e a else none
  | _=>none
 | _=>none
def snL (E:Env) (look:Nat→Option Rt):List Nat→List AV→Option (List T)
 | [],[]=>some []
 | f :: fs,a :: l=>match sn E look f a,snL E look fs l with
  | some t,some ts=>some (t :: ts)
  | _,_=>none
 | _,_=>none
end
def fB (_:Nat):Option Rt:=none
def vt (E:Env) (ty:Nat) (a:AV):Option T:=sn E fB ty a
structure mo where
 t:T
 o:O
 mv:List (Nat × List aH)
mutual
def take (E:Env) (look:Nat→Option Rt) (ty:Nat):AV→Option mo
 | .sref ty' r p=>match look r with
  | some R=>bif Nat.beq ty' ty&&(((R.o.get p).own||(R.o.get p).isFo)&&(R.o.get p).live&&dq p) then some ⟨R.t.get p,R.o.get p,[(r,p)]⟩ else none
  | none=>none
 | .sub ty' r p lo hi=>match look r with
  | some R=>bif Nat.beq ty' ty&&(((R.o.get p).own||(R.o.get p).isFo)&&(R.o.get p).live&&dq p) then some ⟨(R.t.get p).cut lo hi,R.o.get p,[(r,p)]⟩ else none
  | none=>none
 | .nil ty'=>bif Nat.beq ty' ty then some ⟨.sl [],.dp,[]⟩ else none
 | .agg ty' l=>match E.ty ty with
  | .st fs=>bif Nat.beq ty' ty then match lm E look fs l with
    | some (ts,os,mv)=>some ⟨.st ts,.st os,mv⟩
    | none=>none
   else none
  | _=>none
 | .val ty' t=>bif Nat.beq ty' ty then some ⟨t,bif E.flat ty then .dp else .fz,[]⟩ else none
 | .cst v=>match jL (E.ty ty) v with
  | some t=>some ⟨t,.dp,[]⟩
  | none=>none
 | _=>none
def lm (E:Env) (look:Nat→Option Rt):List Nat→List AV→Option (List T × List O × List (Nat × List aH))
 | [],[]=>some ([],[],[])
 | f :: fs,a :: l=>match take E look f a,lm E look fs l with
  | some x,some (ts,os,mv)=>some (x.t :: ts,x.o :: os,x.mv++mv)
  | _,_=>none
 | _,_=>none
end
def split:List aH→List aH→Bool
 | .fld i :: p,.fld j :: q=>bif Nat.beq i j then split p q else true
 | _,_=>false
def bP:List (Nat × List aH)→Bool
 | []=>true
 | (r,p) :: l=>(l.all fun (r',q)=>!Nat.beq r r'||split p q)&&bP l
def O.set (E:Env):Nat→O→List aH→O→O
 | _,_,[],x=>x
 | ty,o,.fld j :: p,x=>match E.ty ty with
  | .st fs=>.st ((List.range fs.length).map fun k=>bif Nat.beq k j then O.set E (fs.getD j 0) (o.fld j) p x else o.fld k)
  | _=>.dead
 | ty,o,.idx _ :: p,x=>match E.ty ty with
  | .sl e=>.sl (O.set E e o.elem p x)
  | _=>.dead
def qF (E:Env) (mv:List (Nat × List aH)) (r:Nat) (R:Rt):Option Rt:=
 mv.foldl (fun R? (r',p)=>bif Nat.beq r' r then (match R?,p with
  | some R,_ :: _=>some { R with o:=O.set E R.ty R.o p .dead }
  | some R,[]=>bif R.box then some { R with o:=.dead } else none
  | none,_=>none) else R?) (some R)
abbrev Wr:=List (Nat × Option Rt)
def dy (mv:List (Nat × List aH)):List Nat:=(mv.map (·.1)).eraseDups
def bY (E:Env) (look:Nat→Option Rt) (mv:List (Nat × List aH)):Wr:=
 (dy mv).map fun r=>(r,(look r).bind (qF E mv r))
def bW (look:Nat→Option Rt) (mv:List (Nat × List aH)):Ks:=
 mv.map fun (r,p)=>(r,bif p.isEmpty then (match look r with | some R=>bif R.box then 2 else 0 | none=>0) else (match look r with | some R=>bif R.box then 3 else 1 | none=>0))
mutual
def qf (E:Env) (n:Nat) (ty:Nat) (t:T) (o:O) (r:Nat) (p:List aH):AV:=
 match n with
 | 0=>.undef
 | n+1=>bif E.flat ty||(o.isFz||o.isFo) then .val ty t else bif o.isDead then .undef else match E.ty ty with
   | .sl _=>bif o.own then .sref ty r p else .undef
   | .st fs=>bif Nat.beq (mX E n fs 0 t o r p).length fs.length then .agg ty (mX E n fs 0 t o r p) else .undef
   | _=>.undef
def mX (E:Env) (n:Nat) (fs:List Nat) (j:Nat) (t:T) (o:O) (r:Nat) (p:List aH):List AV:=
 match n with
 | 0=>[]
 | n+1=>match fs with
  | []=>[]
  | f :: fs=>qf E n f (t.fld j) (o.fld j) r (p ++ [.fld j]) :: mX E n fs (j+1) t o r p
end
structure Upd where
 av:AV
 wr:Wr
 ks:Ks
structure Eff where
 pre:Bool
 g:Bool
 req:Option (Nat × List T)
 ret:List T→Upd
def one (pre:Bool) (av:AV):Option Eff:=some ⟨pre,true,none,fun _=>⟨av,[],[]⟩⟩
def bK:AV→Bool × AV
 | .gd b a=>(b,a)
 | a=>(true,a)
def opd (st:St):Operand→AV
 | .tmp t=>st.tm t
 | .const v=>.cst v
 | .func f=>.fnc f
 | .global _=>.undef
def binI (op:BinOp) (k:IntKind) (x y:Int):Option (Bool × (Bool ⊕ Int)):=
 match op with
 | .add=>some (true,.inr (k.wrap (x+y)))
 | .sub=>some (true,.inr (k.wrap (x - y)))
 | .mul=>some (true,.inr (k.wrap (x * y)))
 | .quo=>some (!(y==0),.inr (k.wrap (x.tdiv y)))
 | .rem=>some (!(y==0),.inr (x.tmod y))
 | .and=>some (true,.inr (k.wrap (BitVec.ofInt k.bits x &&& BitVec.ofInt k.bits y).toNat))
 | .or=>some (true,.inr (k.wrap (BitVec.ofInt k.bits x ||| BitVec.ofInt k.bits y).toNat))
 | .xor=>some (true,.inr (k.wrap (BitVec.ofInt k.bits x ^^^ BitVec.ofInt k.bits y).toNat))
 | .andNot=>some (true,.inr (k.wrap (BitVec.ofInt k.bits x &&& ~~~ BitVec.ofInt k.bits y).toNat))
 | .eql=>some (true,.inl (x==y))
 | .neq=>some (true,.inl (x != y))
 | .lss=>some (true,.inl (decide (x < y)))
 | .leq=>some (true,.inl (decide (x≤y)))
 | .gtr=>some (true,.inl (decide (x > y)))
 | .geq=>some (true,.inl (decide (x≥y)))
 | _=>none
def binS (op:BinOp) (x y:ByteArray):Option (Bool × (Bool ⊕ ByteArray)):=
 match op with
 | .add=>some (decide (x.size+y.size≤LIM),.inr (x++y))
 | .eql=>some (true,.inl (x.toList==y.toList))
 | .neq=>some (true,.inl (!(x.toList==y.toList)))
 | .lss=>some (true,.inl (Op.bytesLess x.toList y.toList))
 | .leq=>some (true,.inl (Op.bytesLess x.toList y.toList||x.toList==y.toList))
 | .gtr=>some (true,.inl (!(Op.bytesLess x.toList y.toList||x.toList==y.toList)))
 | .geq=>some (true,.inl (!(Op.bytesLess x.toList y.toList)))
 | _=>none
def bN (E:Env) (t:Nat):Bool:=match E.ty t with | .bad=>false | .cp _=>false | _=>true
def cT (E:Env) (ty:Nat):Bool:=match E.ty ty with | .bool=>true | _=>false
def qC (E:Env) (ty:Nat):Bool:=match E.ty ty with | .int _=>true | _=>false
def CG (E:Env) (f:Nat):Bool:=match E.ty f with | .int _=>true | .str=>true | .bool=>true | _=>false
def eq1 (E:Env) (f:Nat) (a c:T):Bool:=match E.ty f with | .int _=>a.i==c.i | .str=>a.s.toList==c.s.toList | .bool=>a.b==c.b | _=>false
def eqFs (E:Env):List Nat→Nat→T→T→Bool
 | [],_,_,_=>true
 | f :: fs,j,x,y=>eq1 E f (x.fld j) (y.fld j)&&eqFs E fs (j+1) x y
def sH (E:Env) (op:BinOp) (rty xty:Nat) (b:Bool) (x y:AV):Option Eff:=
 match vt E xty x,vt E xty y with
 | some x,some y=>match E.ty xty with
  | .int k=>match binI op k x.i y.i with
   | some (pre,.inl v)=>bif cT E rty then one (b&&pre) (.val rty (.bool v)) else none
   | some (pre,.inr v)=>bif Nat.beq rty xty then one (b&&pre) (.val rty (.int v)) else none
   | none=>none
  | .str=>match binS op x.s y.s with
   | some (pre,.inl v)=>bif cT E rty then one (b&&pre) (.val rty (.bool v)) else none
   | some (pre,.inr v)=>bif Nat.beq rty xty then one (b&&pre) (.val rty (.str v)) else none
   | none=>none
  | .bool=>bif cT E rty then match op with
    | .eql=>one b (.val rty (.bool (x.b==y.b)))
    | .neq=>one b (.val rty (.bool (!(x.b==y.b))))
    | _=>none
   else none
  | .st fs=>bif cT E rty&&fs.all (CG E) then match op with
    | .eql=>one b (.val rty (.bool (eqFs E fs 0 x y)))
    | .neq=>one b (.val rty (.bool (!(eqFs E fs 0 x y))))
    | _=>none
   else none
  | _=>none
 | _,_=>none
def zav (E:Env) (n:Nat) (ty:Nat):AV:=
 match n with
 | 0=>.undef
 | n+1=>bif !(E.zok ty) then .undef else bif E.flat ty then .val ty (E.zero ty) else match E.ty ty with
  | .sl _=>.nil ty
  | .st fs=>.agg ty (fs.map (zav E n))
  | _=>.undef
def plain:AV→Bool
 | .val _ _=>true
 | .cst _=>true
 | _=>false
def mkAgg (E:Env) (ty:Nat) (l:List AV):AV:=
 bif l.all plain then (match vt E ty (.agg ty l) with | some t=>.val ty t | none=>.undef) else .agg ty l
def zX (fi:Fi) (E:Env) (d:Nat) (R:Rt):Option Rt:=
 match aJ fi.weak d with
 | none=>some R
 | some o=>bif leT E o R.ty R.o then some { R with o:=o } else none
def lay (fi:Fi) (E:Env) (pre:Bool) (d:Nat) (R:Rt) (mvs:Wr) (ks:Ks):Option Eff:=
 match zX fi E d R with
 | none=>none
 | some R=>bif R.o.isFz && !R.box then some ⟨pre,true,none,fun _=>⟨.val R.ty R.t,(d,none) :: mvs,(d,0) :: ks⟩⟩
  else some ⟨pre,true,none,fun _=>⟨bif R.box then .pref R.ty d [] else .sref R.ty d [],(d,some R) :: mvs,(d,0) :: ks⟩⟩
def idxE (E:Env) (look:Nat→Option Rt) (ty e:Nat) (b:Bool) (x:AV) (i:Int):Option Eff:=
 match x with
 | .val ty' t=>bif Nat.beq ty ty' then one (b&&(decide (0≤i)&&decide (i.toNat < t.es.length))) (.fptr e (t.nth i.toNat)) else none
 | .sref ty' r p=>match look r with
  | some R=>bif Nat.beq ty ty'&&(R.o.get p).own then one (b&&(decide (0≤i)&&decide (i.toNat < (R.t.get p).es.length))) (.pref e r (p ++ [.idx i.toNat])) else none
  | none=>none
 | .sub ty' r p lo hi=>match look r with
  | some R=>bif Nat.beq ty ty'&&(R.o.get p).own then one (b&&(decide (0≤i)&&decide (i.toNat < hi - lo))) (.pref e r (p ++ [.idx (lo+i.toNat)])) else none
  | none=>none
 | _=>none
def lenE (E:Env) (look:Nat→Option Rt) (ty:Nat) (x:AV):Option Nat:=
 match E.ty ty with
 | .str=>(vt E ty x).map fun t=>t.s.size
 | .sl _=>match x with
  | .sub ty' _ _ lo hi=>bif Nat.beq ty ty' then some (hi - lo) else none
  | .ln ty' n=>bif Nat.beq ty ty' then some n else none
  | .alt _ _ _ _=>none
  | .row _ _ _ _=>none
  | x=>(sn E look ty x).map fun t=>t.es.length
 | _=>none
def bnd (E:Env) (d:Nat):Option AV→Option (Bool × Int)
 | none=>some (true,d)
 | some (.val ty t)=>bif qC E ty then some (true,t.i) else none
 | some (.cst (.int _ n))=>some (true,n)
 | some (.gd b (.val ty t))=>bif qC E ty then some (b,t.i) else none
 | _=>none
def zQ (E:Env) (look:Nat→Option Rt) (ty:Nat) (b:Bool) (x:AV) (lo hi mx:Option AV):Option Eff:=
 match lenE E look ty x with
 | none=>none
 | some n=>match bnd E 0 lo,bnd E n hi,bnd E n mx with
  | some (b0,l),some (b1,h),some (b2,m)=>
   let pre:=b&&(b0&&(b1&&(b2&&(decide (0≤l)&&(decide (l≤h)&&(decide (h≤m)&&decide (m≤n)))))))
   match E.ty ty with
   | .str=>bif mx.isNone then match vt E ty x with
     | some t=>one pre (.val ty (.str (t.s.extract l.toNat h.toNat)))
     | none=>none
    else none
   | .sl _=>bif mx.isSome&&hi.isNone then none else match x with
    | .val ty' t=>bif Nat.beq ty ty' then one pre (.val ty (t.cut l.toNat h.toNat)) else none
    | .nil ty'=>bif Nat.beq ty ty' then one pre (.nil ty) else none
    | .sref ty' r p=>match look r with
     | some R=>bif Nat.beq ty ty'&&((R.o.get p).own||(R.o.get p).isFo) then one (bif (R.o.get p).own then pre else (pre&&decide (0 < n))) (.sub ty r p l.toNat h.toNat) else none
     | none=>none
    | .sub ty' r p lo' _=>bif Nat.beq ty ty' then one pre (.sub ty r p (lo'+l.toNat) (lo'+h.toNat)) else none
    | _=>none
   | _=>none
  | _,_,_=>none
def isSl (E:Env) (ty:Nat):Option Nat:=match E.ty ty with | .sl e=>some e | _=>none
def dV (E:Env) (look:Nat→Option Rt) (ty e:Nat) (x:AV):Option mo:=
 match x with
 | .sref ty' r p=>match look r with
  | some R=>bif Nat.beq ty ty'&&(R.o.get p).live then
    (bif E.flat e then some ⟨R.t.get p,.dp,[]⟩ else bif (R.o.get p).elem.isFz then some ⟨R.t.get p,.fz,[]⟩
     else bif dq p&&(R.o.get p).own then some ⟨R.t.get p,(R.o.get p).elem,[(r,p)]⟩ else none)
   else none
  | none=>none
 | .sub ty' r p lo hi=>match look r with
  | some R=>bif Nat.beq ty ty'&&(R.o.get p).live then
    (bif E.flat e then some ⟨(R.t.get p).cut lo hi,.dp,[]⟩ else bif (R.o.get p).elem.isFz then some ⟨(R.t.get p).cut lo hi,.fz,[]⟩
     else bif dq p&&(R.o.get p).own then some ⟨(R.t.get p).cut lo hi,(R.o.get p).elem,[(r,p)]⟩ else none)
   else none
  | none=>none
 | x=>(vt E ty x).map fun t=>⟨t,bif E.flat e then .dp else .fz,[]⟩
def vq (t:T):Bool:=match t with | .sl []=>true | _=>false
def CF (E:Env) (look:Nat→Option Rt) (ty e:Nat) (b:Bool) (x y:AV):Option Eff:=
 let put (r:Nat) (p:List aH) (t0:T):Option Eff:=match look r,dV E look ty e y with
  | some R,some c=>bif (R.o.get p).own&&((R.o.get p).live&&(R.o.way p&&(leT E (R.o.get p).elem e c.o&&(E.zok e&&(bP c.mv&&c.mv.all fun m=>!Nat.beq m.1 r))))) then
    some ⟨b&&decide (t0.es.length+c.t.es.length≤LIM),true,none,fun _=>⟨.alt ty r p (.sl (t0.es++c.t.es)),bY E look c.mv,(r,4) :: bW look c.mv⟩⟩
   else none
  | _,_=>none
 match x with
 | .sref ty' r p=>match look r with
  | some R=>bif Nat.beq ty ty' then put r p (R.t.get p) else none
  | none=>none
 | .alt ty' r p t=>bif Nat.beq ty ty' then put r p t else none
 | _=>none
def wK (E:Env) (look:Nat→Option Rt) (ty e:Nat) (b:Bool) (x y:AV):Option Eff:=
 match x,y with
 | .sref ty1 r1 [],.sref ty2 r p=>match look r1,look r with
  | some R1,some R=>bif !p.isEmpty&&(Nat.beq ty ty1&&(Nat.beq ty ty2&&(Nat.beq R1.ty ty&&(!R1.box&&(R1.o.own&&(R1.o.live&&(vq R1.t&&(!Nat.beq r1 r&&((R.o.get p).own&&((R.o.get p).live&&(R.o.way p&&E.zok e))))))))))) then
    some ⟨b&&decide ((R.t.get p).es.length≤LIM),true,none,fun _=>⟨.alt ty r p (.sl (R.t.get p).es),bY E look [(r1,[])],(r,4) :: bW look [(r1,[])]⟩⟩
   else none
  | _,_=>none
 | _,_=>none
def sA (E:Env) (look:Nat→Option Rt) (d ty e:Nat) (b:Bool) (x y:AV):Option Eff:=
 match y,take E look ty x with
 | .row ty' r (.sl []) a,some c=>bif Nat.beq ty ty'&&(c.o.own&&((E.flat e||c.o.elem.isFz)&&(bP c.mv&&(E.zok e&&(!Nat.beq r d&&((sn E look e a).isSome&&c.mv.all fun m=>!Nat.beq m.1 r)))))) then
   some ⟨b&&decide (c.t.es.length+1≤LIM),true,none,fun _=>⟨.row ty d c.t (a.cut ((d,0) :: bW look c.mv)),(d,some ⟨ty,c.t,.dead,false⟩) :: bY E look c.mv,(d,0) :: bW look c.mv⟩⟩
  else none
 | _,_=>none
def ra (fi:Fi) (E:Env) (look:Nat→Option Rt) (d ty:Nat) (b:Bool) (s x:AV):Option Eff:=
 match isSl E ty with
 | none=>none
 | some e=>bif mem d fi.alt then (match wK E look ty e b s x with
   | some f=>some f
   | none=>CF E look ty e b s x)
  else bif mem d fi.row then sA E look d ty e b s x else match take E look ty s,dV E look ty e x with
  | some a,some c=>
   bif a.o.own&&(bP (a.mv++c.mv)&&E.zok e) then
    lay fi E (b&&decide (a.t.es.length+c.t.es.length≤LIM)) d ⟨ty,.sl (a.t.es++c.t.es),.sl (bif leT E a.o.elem e c.o then a.o.elem else O.meet a.o.elem c.o),false⟩
     (bY E look (a.mv++c.mv)) (bW look (a.mv++c.mv))
   else none
  | _,_=>none
def cg:List Nat→Bool
 | []=>true
 | n :: l=>!mem n l&&cg l
def kf (E:Env) (ty:Nat):AV→Bool
 | .val ty' _=>Nat.beq ty' ty
 | .cst v=>(jL (E.ty ty) v).isSome
 | .nil ty'=>Nat.beq ty' ty
 | .sref ty' _ _=>Nat.beq ty' ty
 | .sub ty' _ _ _ _=>Nat.beq ty' ty
 | .alt ty' _ _ _=>Nat.beq ty' ty
 | .agg ty' _=>Nat.beq ty' ty
 | _=>false
def gI (l:List (Nat × AV)) (j:Nat):Option AV:=aJ l j
def parts (ρ:Operand→AV) (ps:Array (Nat × Operand)):Bool × List (Nat × AV):=
 (ps.toList.all fun x=>(bK (ρ x.2)).1,ps.toList.map fun x=>(x.1,(bK (ρ x.2)).2))
def yO (E:Env) (ty:Nat) (b:Bool) (ps:List (Nat × AV)):Option Eff:=
 match E.ty ty with
 | .st fs=>bif E.zok ty&&(cg (ps.map (·.1))&&(ps.all fun x=>decide (x.1 < fs.length)&&kf E (fs.getD x.1 0) x.2)) then
   one b (mkAgg E ty (((List.range fs.length).zip fs).map fun x=>(gI ps x.1).getD (zav E 8 x.2)))
  else none
 | _=>none
def takes (E:Env) (look:Nat→Option Rt) (e:Nat):List AV→Option (List T × List O × List (Nat × List aH))
 | []=>some ([],[],[])
 | a :: l=>match take E look e a,takes E look e l with
  | some x,some (ts,os,mv)=>some (x.t :: ts,x.o :: os,x.mv++mv)
  | _,_=>none
def w8:List O→O
 | []=>.dp
 | [o]=>o
 | o :: os=>O.meet o (w8 os)
def w7 (os:List O):O:=bif os.all (O.le (w8 os)) then w8 os else .fz
def kQ (fi:Fi) (E:Env) (look:Nat→Option Rt) (d ty len:Nat) (b:Bool) (ps:List (Nat × AV)):Option Eff:=
 match isSl E ty with
 | none=>none
 | some e=>bif decide (len * E.sz e≤1000000)&&(E.zok e&&(cg (ps.map (·.1))&&ps.all fun x=>decide (x.1 < len)&&kf E e x.2)) then
   bif mem d fi.row then (match ps with
    | [(0,a)]=>bif decide (len=1) then some ⟨b,true,none,fun _=>⟨.row ty d (.sl []) (a.cut [(d,0)]),[(d,some ⟨ty,.sl [],.dead,false⟩)],[(d,0)]⟩⟩ else none
    | _=>none)
   else match takes E look e ((List.range len).map fun j=>(gI ps j).getD (zav E 8 e)) with
   | some (ts,os,mv)=>bif bP mv then
     lay fi E b d ⟨ty,.sl ts,.sl (w7 os),false⟩ (bY E look mv) (bW look mv)
    else none
   | none=>none
  else none
def ka:List aH→List aH→Bool
 | [],[]=>true
 | .fld i :: p,.fld j :: q=>Nat.beq i j&&ka p q
 | .idx i :: p,.idx j :: q=>Nat.beq i j&&ka p q
 | _,_=>false
def nV:List aH→List aH→Bool
 | [],[]=>true
 | .fld i :: p,.fld j :: q=>Nat.beq i j&&nV p q
 | .idx _ :: p,.idx _ :: q=>nV p q
 | _,_=>false
def q8 (R:Rt) (p:List aH):Nat:=
 bif R.box then (bif dq p then (match p with | .fld j :: _=>10+j | _=>2) else 3) else 1
def sE (ty r:Nat) (p:List aH) (R:Rt):AV→Option (T × List aH)
 | .alt ty' r' q t=>bif Nat.beq ty ty'&&(Nat.beq r r'&&nV p q) then some (t,q) else none
 | .sub ty' r' q lo hi=>bif Nat.beq ty ty'&&(Nat.beq r r'&&(nV p q&&(!dq p&&Nat.beq lo 0))) then some ((R.t.get p).cut lo hi,q) else none
 | _=>none
def zR (E:Env) (look:Nat→Option Rt) (ty:Nat) (b:Bool) (a x:AV):Option Eff:=
 match a with
 | .pref ty' r p=>match look r with
  | none=>none
  | some R=>match sE ty r p R x with
  | some (t,q)=>bif Nat.beq ty ty'&&(R.o.way p&&((R.o.get p).own&&(R.o.get p).live)) then
    some ⟨b&&ka p q,true,none,fun _=>⟨.undef,[(r,some { R with t:=R.t.put p t })],[(r,q8 R p)]⟩⟩
   else none
  | none=>match take E look ty x with
  | none=>none
  | some c=>bif Nat.beq ty ty'&&(bP c.mv&&R.o.way p) then
    (
     bif E.flat ty then (bif (R.o.get p).live&&c.mv.isEmpty then some ⟨b,true,none,fun _=>⟨.undef,[(r,some { R with t:=R.t.put p c.t })],[(r,4)]⟩⟩ else none)
     else match (bif mem r (dy c.mv) then qF E c.mv r R else some R) with
           | none => none
           | some R1 => bif R1.o.way p then
             (bif dq p then
               some ⟨b, true, none, fun _ => ⟨.undef, (r, some { R1 with t := R1.t.put p c.t, o := O.set E R1.ty R1.o p c.o }) :: bY E look c.mv, (r, q8 R p) :: bW look c.mv⟩⟩
             else bif (R1.o.get p).live && leT E (R1.o.get p) ty c.o then
               some ⟨b, true, none, fun _ => ⟨.undef, (r, some { R1 with t := R1.t.put p c.t }) :: bY E look c.mv, (r, q8 R p) :: bW look c.mv⟩⟩
             else none)
             else none)
   else none
 | _=>none
def w9:AV→Bool
 | .alt _ _ _ _=>false
 | .row _ _ _ _=>false
 | _=>true
def convE (E:Env) (look:Nat→Option Rt) (src dst:Nat) (b:Bool) (x:AV):Option Eff:=
 match E.ty src,E.ty dst with
 | .int _,.int k=>(vt E src x).bind fun t=>one b (.val dst (.int (k.wrap t.i)))
 | .str,.str=>(vt E src x).bind fun t=>one b (.val dst (.str t.s))
 | .sl e,.str=>match E.ty e with
  | .int .u8=>(bif w9 x then sn E look src x else none).bind fun t=>one b (.val dst (.str ⟨(t.es.map fun c=>UInt8.ofNat c.i.toNat).toArray⟩))
  | _=>none
 | _,_=>none
inductive Arg where | ro | mu (r:Nat) (p:List aH) (o:O) | bx (r:Nat) (o:O) | mv (r:Nat) (o:O) | ig
def lnE (E:Env) (look:Nat→Option Rt) (ty:Nat) (x:AV):Option Nat:=
 match E.ty ty with
 | .sl _=>match x with
  | .alt ty' _ _ t=>bif Nat.beq ty ty' then some t.es.length else none
  | x=>lenE E look ty x
 | _=>none
def kj (E:Env) (look:Nat→Option Rt):List (Nat × Mode)→List AV→Option (List T × List Arg)
 | [],[]=>some ([],[])
 | (ty,m) :: ps,a :: l=>match kj E look ps l with
  | none=>none
  | some (ts,as)=>match m with
   | .ro=>match sn E look ty a with
    | some t=>some (t :: ts,.ro :: as)
    | none=>none
   | .mu o=>match a with
    | .sref ty' r p=>match look r with
     | some R=>bif Nat.beq ty ty'&&((R.o.get p).own&&(O.le o (R.o.get p)&&((dq p||O.eq (R.o.get p) o)&&R.o.way p))) then some (R.t.get p :: ts,.mu r p o :: as) else none
     | none=>none
    | _=>none
   | .bx o=>match a with
    | .pref ty' r []=>match look r with
     | some R=>bif (match E.ty ty with | .ptr e=>Nat.beq e ty'&&Nat.beq R.ty e | _=>false)&&R.box&&leT E o R.ty R.o then some (R.t :: ts,.bx r o :: as) else none
     | none=>none
    | _=>none
   | .mv o=>match a with
    | .alt ty' r [] t=>match look r with
     | some R=>bif Nat.beq ty ty'&&(Nat.beq R.ty ty&&(!R.box&&leT E o ty R.o)) then some (t :: ts,.mv r o :: as) else none
     | none=>none
    | _=>none
   | .ig=>match lnE E look ty a with
    | some n=>some (.int n :: ts,.ig :: as)
    | none=>none
 | _,_=>none
def aZ (as:List Arg):List Nat:=as.filterMap fun | .mu r _ _=>some r | .bx r _=>some r | .mv r _=>some r | .ro=>none | .ig=>none
def NN:List Arg→List AV→List Nat
 | .ro :: as,a :: l=>a.refs++NN as l
 | _ :: as,_ :: l=>NN as l
 | _,_=>[]
def cL (E:Env) (look:Nat→Option Rt):List Arg→List T→Wr
 | .mu r p o :: as,ts=>(r,(look r).map fun R=>{ R with t:=R.t.put p (ts.headD (.int 0)),o:=bif dq p then O.set E R.ty R.o p o else R.o }) :: cL E look as ts.tail
 | .bx r o :: as,ts=>(r,(look r).map fun R=>{ R with t:=ts.headD (.int 0),o:=o }) :: cL E look as ts.tail
 | .mv r _ :: as,ts=>(r,none) :: cL E look as ts
 | .ro :: as,ts=>cL E look as ts
 | .ig :: as,ts=>cL E look as ts
 | [],_=>[]
def ij:List Arg→Nat→Bool
 | [],_=>false
 | .bx r' _ :: l,r=>Nat.beq r' r||ij l r
 | .mu _ _ _ :: l,r=>ij l r
 | .mv _ _ :: l,r=>ij l r
 | .ig :: l,r=>ij l r
 | .ro :: l,r=>ij l r
def jU:List Arg→Nat→Bool
 | [],_=>false
 | .mv r' _ :: l,r=>Nat.beq r' r||jU l r
 | .mu _ _ _ :: l,r=>jU l r
 | .bx _ _ :: l,r=>jU l r
 | .ig :: l,r=>jU l r
 | .ro :: l,r=>jU l r
def rb (look:Nat→Option Rt) (as:List Arg):Ks:=
 (aZ as).map fun r=>(r,bif jU as r then 0 else match look r with | some R=>bif R.box then (bif ij as r then 2 else 3) else 1 | none=>0)
def bc (d j:Nat):Nat:=d+1000 * j
def fY (E:Env) (ty:Nat):Nat:=match E.ty ty with | .ptr e=>e | _=>0
def pA (E:Env) (d j:Nat) (ty:Nat) (t:T):Ret→Nat × Option Rt
 | .vl o=>(bc d j,bif E.flat ty||o.isFz then none else some ⟨ty,t,o,false⟩)
 | .bx o=>(bc d j,some ⟨fY E ty,t,o,true⟩)
 | .ig=>(bc d j,none)
def pz (E:Env) (d j:Nat) (ty:Nat) (t:T):Ret→AV
 | .vl o=>qf E 9 ty t o (bc d j) []
 | .bx _=>.pref (fY E ty) (bc d j) []
 | .ig=>.ln ty t.i.toNat
def ll (E:Env) (d:Nat):Nat→List (Nat × Ret)→List T→Wr
 | j,(ty,k) :: l,ts=>pA E d j ty (ts.headD (.int 0)) k :: ll E d (j+1) l ts.tail
 | _,[],_=>[]
def jc (E:Env) (d:Nat):Nat→List (Nat × Ret)→List T→List AV
 | j,(ty,k) :: l,ts=>pz E d j ty (ts.headD (.int 0)) k :: jc E d (j+1) l ts.tail
 | _,[],_=>[]
def ga (d:Nat):Nat→List (Nat × Ret)→Ks
 | j,_ :: l=>(bc d j,0) :: ga d (j+1) l
 | _,[]=>[]
def deep (E:Env) (ty:Nat) (o:O):Bool:=E.flat ty||(o.geFo&&E.nofn ty)
def o6 (E:Env) (x:Nat × Ret):Bool:=match x.2 with | .vl o=>deep E x.1 o | .bx o=>deep E (fY E x.1) o | .ig=>true
def o5 (E:Env) (x:Nat × Mode):Bool:=match x.2 with | .ro=>true | .mu o=>deep E x.1 o | .bx o=>deep E (fY E x.1) o | .mv _=>true | .ig=>true
def pu (E:Env) (x:Nat × Ret):Bool:=match x.2 with | .vl o=>o.live&&bN E x.1 | .bx o=>o.live | .ig=>true
def gW (x:Nat × Mode):Bool:=match x.2 with | .ro=>true | .mu o=>o.live&&o.own | .bx o=>o.live | .mv o=>o.live | .ig=>true
def kZ (E:Env) (look:Nat→Option Rt) (d:Nat) (b:Bool) (f:Nat) (rs:List (Nat × Ret)) (ps:List (Nat × Mode)) (as:List AV):Option Eff:=
 match kj E look ps as with
 | none=>none
 | some (ts,args)=>
  bif cg (aZ args)&&dP (aZ args) ((ga d 0 rs).map (·.1))&&dP (aZ args) (NN args as)&&((rs.all (o6 E)&&ps.all (o5 E))||(NN args as).isEmpty)&&(rs.all (pu E)&&(ps.all gW&&(decide (d < 1000)&&(decide (rs.length < 90)&&decide (ps.length < 1000))))) then
   some ⟨b,true,some (f,ts),fun res=>
    ⟨match rs with
     | [(ty,k)]=>pz E d 0 ty (res.headD (.int 0)) k
     | _=>.tup (jc E d 0 rs res),
         cL E look args (res.drop rs.length) ++ ll E d 0 rs res, rb look args ++ ga d 0 rs⟩⟩
  else none
def cV:Nat:=95000
def mvAt:List (Nat × Mode)→Option (Nat × Nat)
 | []=>none
 | (ty,.mv _) :: _=>some (0,ty)
 | _ :: l=>(mvAt l).map fun x=>(x.1+1,x.2)
def kR (k1 k2:Ks):Bool:=k1.all fun x=>match aJ k2 x.1 with | none=>true | some k=>Nat.beq k x.2
def callM (E:Env) (look:Nat→Option Rt) (d:Nat) (b:Bool) (f:Nat) (rs:List (Nat × Ret)) (ps:List (Nat × Mode)) (as:List AV):Option Eff:=
 match mvAt ps with
 | none=>kZ E look d b f rs ps as
 | some (k,ty)=>match as[k]? with
  | none=>none
  | some a=>match take E look ty a with
   | none=>none
   | some c=>
    let wr:=(cV,some ⟨ty,c.t,c.o,false⟩) :: bY E look c.mv
    let ks:=(cV,0) :: bW look c.mv
    match kZ E (fun r=>match aJ wr r with | some x=>x | none=>look r) d b f rs ps ((as.map (AV.cut ks)).set k (.alt ty cV [] c.t)) with
    | none=>none
    | some e=>bif bP c.mv&&((look cV).isNone&&kR ks (e.ret []).ks) then
      some ⟨e.pre,e.g,e.req,fun res=>⟨(e.ret res).av,(e.ret res).wr++wr,ks++(e.ret res).ks⟩⟩
     else none
def mH (look:Nat→Option Rt) (n:Nat):AV→Option AV
 | .val ty t=>some (.val ty t)
 | .nil ty=>some (.nil ty)
 | .sref ty r p=>match look r with
  | some R=>bif (R.o.get p).own then some (.sub ty r p 0 n) else none
  | none=>none
 | .sub ty r p lo hi=>some (.sub ty r p lo hi)
 | _=>none
def clipE (E:Env) (look:Nat→Option Rt) (b:Bool) (f:Nat) (ps:List (Nat × Mode)) (as:List AV):Option Eff:=
 match ps,as with
 | [(ty,_)],[a]=>match isSl E ty,sn E look ty a with
  | some _,some t=>match mH look t.es.length a with
   | some av=>some ⟨b,true,some (f,[t]),fun _=>⟨av,[],[]⟩⟩
   | none=>none
  | _,_=>none
 | _,_=>none
def callV (E:Env) (look:Nat→Option Rt) (d:Nat) (b:Bool) (fty:Nat) (x:AV) (as:List AV):Option Eff:=
 match x,E.ty fty with
 | .val ty' t,.fn ps rs=>bif Nat.beq fty ty'&&rs.all E.flat then
   match kj E look (ps.map fun p=>(p,Mode.ro)) as with
   | none=>none
   | some (ts,_)=>bif decide (d < 1000) then
     some ⟨b,true,some (t.fid,ts++t.caps),fun res=>
      ⟨match rs with
       | [ty]=>.val ty (res.headD (.int 0))
       | _=>.undef,[],[]⟩⟩
    else none
  else none
 | _,_=>none
def wR (fi:Fi) (E:Env) (look:Nat→Option Rt) (d t:Nat) (b:Bool) (x:AV):Option Eff:=
 match aJ fi.weak d,x with
 | some .fz,.pref ty r p=>match look r with
  | some R=>bif Nat.beq ty t&&((R.o.get p).live&&(!((R.o.get p).isFz||E.flat t)&&(leT E (O.set E R.ty R.o p .fz) R.ty R.o&&((O.set E R.ty R.o p .fz).get p).isFz))) then
    some ⟨b,true,none,fun _=>⟨.val t (R.t.get p),[(r,some { R with o:=O.set E R.ty R.o p .fz })],[(r,bif R.box then 3 else 1)]⟩⟩
   else none
  | none=>none
 | _,_=>none
def uA (E:Env) (look:Nat→Option Rt) (t:Nat) (b:Bool) (x:AV):Option Eff:=
 match x,E.ty t with
 | .pref ty r p,.sl _=>match look r with
  | some R=>bif Nat.beq ty t&&(R.o.get p).live then one b (.ln t (R.t.get p).es.length) else none
  | none=>none
 | _,_=>none
def loadE (E:Env) (look:Nat→Option Rt) (t:Nat) (b:Bool) (x:AV):Option Eff:=
 match x with
 | .pref ty r p=>match look r with
  | some R=>bif Nat.beq ty t&&(R.o.get p).live then one b (qf E 9 t (R.t.get p) (R.o.get p) r p) else none
  | none=>none
 | .fptr ty v=>bif Nat.beq ty t then one b (.val t v) else none
 | .val ty v=>match E.ty ty with
  | .cp e=>bif Nat.beq e t then one b (.val t v) else none
  | _=>none
 | _=>none
def pG (fi:Fi) (E:Env) (look:Nat→Option Rt) (d ty:Nat) (b:Bool) (x:AV):Option Eff:=
 match take E look ty x with
 | some c=>bif bP c.mv then lay fi E b d ⟨ty,c.t,c.o,false⟩ (bY E look c.mv) (bW look c.mv) else none
 | none=>none
def wG (fi:Fi) (E:Env) (look:Nat→Option Rt) (d ty:Nat) (b:Bool) (x:AV):Option Eff:=
 match x with
 | .sref ty' r []=>bif Nat.beq r d||mem d fi.pin then one b (.sref ty' r []) else bif (isSl E ty).isSome then pG fi E look d ty b (.sref ty' r []) else none
 | .sub ty' r [] lo hi=>bif (isSl E ty).isSome then pG fi E look d ty b (.sub ty' r [] lo hi) else none
 | .nil ty'=>bif (isSl E ty).isSome then pG fi E look d ty b (.nil ty') else none
 | .cst v=>match jL (E.ty ty) v with
  | some t=>bif (isSl E ty).isSome then pG fi E look d ty b (.cst v) else one b (.val ty t)
  | none=>one b (.cst v)
 | a=>one b a
def pickE (E:Env) (qc qa qb:Bool) (c a b:AV):Option Eff:=
 match c with
 | .val tyc tc=>bif cT E tyc then match a,b with
   | .val ty ta,.val ty' tb=>bif Nat.beq ty ty' then one (qc&&(bif tc.b then qa else qb)) (.val ty (bif tc.b then ta else tb)) else none
   | .val ty ta,.cst v=>match jL (E.ty ty) v with
    | some tb=>one (qc&&(bif tc.b then qa else qb)) (.val ty (bif tc.b then ta else tb))
    | none=>none
   | .cst v,.val ty tb=>match jL (E.ty ty) v with
    | some ta=>one (qc&&(bif tc.b then qa else qb)) (.val ty (bif tc.b then ta else tb))
    | none=>none
   | _,_=>none
  else none
 | _=>none
def boxE (fi:Fi) (E:Env) (look:Nat→Option Rt) (d e:Nat) (b:Bool) (x:AV):Option Eff:=
 match take E look e x with
 | some c=>bif bP c.mv then lay fi E b d ⟨e,c.t,c.o,true⟩ (bY E look c.mv) (bW look c.mv) else none
 | none=>none
def pinE (E:Env) (e:Nat) (b:Bool) (x:AV):Option Eff:=bif kf E e x then one b (.pv e x) else none
def nilE (b:Bool) (x:AV):Option Eff:=
 match x with
 | .pref ty r p=>one b (.pref ty r p)
 | .fptr ty t=>one b (.fptr ty t)
 | _=>none
def unE (E:Env) (op:UnOp) (t:Nat) (b:Bool) (x:AV):Option Eff:=
 match vt E t x,E.ty t,op with
 | some v,.bool,.not=>one b (.val t (.bool (!v.b)))
 | some v,.int k,.neg=>one b (.val t (.int (k.wrap (0 - v.i))))
 | _,_,_=>none
def funcE (E:Env) (fty f:Nat) (bare:Bool) (b:Bool) (cs:List AV):Option Eff:=
 match E.ty fty,E.fn f with
 | .fn ps rs,some g=>
  let cts:=(g.params.drop ps.length).map (·.1)
  bif bare&&(pW E f cts ps rs&&decide (cts.length=cs.length)) then match snL E fB cts cs with
   | some ts=>one b (.val fty (.fn f ts))
   | none=>none
  else none
 | _,_=>none
def rM (fi:Fi) (E:Env) (d t:Nat) (b:Bool) (l c:AV):Option Eff:=
 match isSl E t,bnd E 0 (some l),bnd E 0 (some c) with
 | some e,some (b0,l'),some (b1,c')=>bif !(E.zok e) then none else
   lay fi E (b&&(b0&&(b1&&(decide (0≤l')&&(decide (l'≤c')&&decide (c'.toNat≤LIM)))))) d ⟨t,.sl (List.replicate l'.toNat (E.zero e)),.dp,false⟩ [] []
 | _,_,_=>none
def mP (E:Env) (t j:Nat) (b:Bool) (x:AV):Option Eff:=
 match E.ty t with
 | .st fs=>match x with
  | .pref ty r p=>bif Nat.beq ty t&&decide (j < fs.length) then one b (.pref (fs.getD j 0) r (p ++ [.fld j])) else none
  | .fptr ty v=>bif Nat.beq ty t&&decide (j < fs.length) then one b (.fptr (fs.getD j 0) (v.fld j)) else none
  | _=>none
 | _=>none
def z6 (E:Env) (t j:Nat) (b:Bool) (x:AV):Option Eff:=
 match E.ty t with
 | .st fs=>match x with
  | .val ty v=>bif Nat.beq ty t&&decide (j < fs.length) then one b (.val (fs.getD j 0) (v.fld j)) else none
  | .agg ty l=>bif Nat.beq ty t&&decide (j < fs.length) then one b (l.getD j .undef) else none
  | _=>none
 | _=>none
def zh (E:Env) (rty t:Nat) (b:Bool) (x i:AV):Option Eff:=
 match E.ty t,vt E t x,bnd E 0 (some i),E.ty rty with
 | .str,some v,some (b',i'),.int .u8=>
  one (b&&(b'&&(decide (0≤i')&&decide (i'.toNat < v.s.size)))) (.val rty (.int (v.s.data.getD i'.toNat 0).toNat))
 | _,_,_,_=>none
def uq (j:Nat) (b:Bool) (x:AV):Option Eff:=
 match x with
 | .tup l=>bif decide (j < l.length) then one b (l.getD j .undef) else none
 | _=>none
def lenOp (E:Env) (look:Nat→Option Rt) (rty t:Nat) (b:Bool) (x:AV):Option Eff:=
 match E.ty rty,lenE E look t x with
 | .int .i64,some n=>one b (.val rty (.int n))
 | _,_=>none
def mxE (E:Env) (max:Bool) (rty:Nat) (b:Bool) (x y:AV):Option Eff:=
 match vt E rty x,vt E rty y with
 | some a,some c=>bif qC E rty then
   one b (.val rty (.int (bif max then (bif decide (a.i < c.i) then c.i else a.i) else (bif decide (c.i < a.i) then c.i else a.i)))) else none
 | _,_=>none
def mvAv (E:Env) (ty:Nat):AV→AV
 | .cst v=>match jL (E.ty ty) v with
  | some t=>bif (isSl E ty).isSome then .cst v else .val ty t
  | none=>.cst v
 | a=>a
def rtyOf (E:Env) (op:BinOp) (ty:Nat):Nat:=
 match op with
 | .eql=>bif cT E ty then ty else E.bt
 | .neq=>bif cT E ty then ty else E.bt
 | .lss=>bif cT E ty then ty else E.bt
 | .leq=>bif cT E ty then ty else E.bt
 | .gtr=>bif cT E ty then ty else E.bt
 | .geq=>bif cT E ty then ty else E.bt
 | _=>ty
def weakR (fi:Fi) (d n:Nat) (rs:List (Nat × Ret)):List (Nat × Ret):=
 match aJ fi.weak d,rs with
 | some .fz,[(ty,.vl o)]=>bif o.live&&decide (n < 1000) then [(ty,.vl .fz)] else rs
 | _,_=>rs
def tC (fi:Fi) (E:Env) (look:Nat→Option Rt) (ρ:Operand→AV) (o:Oper):Option Eff:=
 let d:=o.dst.getD 999
 let s (x:Operand):AV:=(bK (ρ x)).2
 let q (x:Operand):Bool:=(bK (ρ x)).1
 match o.op with
 | .move x=>one (q x) (mvAv E o.type (s x))
 | .assign x=>wG fi E look d o.type (q x) (s x)
 | .pick c a b=>pickE E (q c) (q a) (q b) (s c) (s a) (s b)
 | .alloc e=>bif E.zok e then lay fi E true d ⟨e,E.zero e,.dp,true⟩ [] [] else none
 | .box e x=>bif bN E e then (bif mem d fi.pin then pinE E e (q x) (s x) else boxE fi E look d e (q x) (s x)) else none
 | .build t ps=>yO E t (parts ρ ps).1 (parts ρ ps).2
 | .buildSlice t n ps=>kQ fi E look d t n (parts ρ ps).1 (parts ρ ps).2
 | .load t a=>bif bN E t then bif mem d fi.lens then uA E look t (q a) (s a) else (match wR fi E look d t (q a) (s a) with | some e=>some e | none=>loadE E look t (q a) (s a)) else none
 | .store t a x=>bif bN E t&&o.dst.isNone then zR E look t (q a&&q x) (s a) (s x) else none
 | .nilCheck x=>nilE (q x) (s x)
 | .binOp op t x y _=>sH E op (rtyOf E op o.type) t (q x&&q y) (s x) (s y)
 | .unOp op t x=>unE E op t (q x) (s x)
 | .convert a b x=>convE E look a b (q x) (s x)
 | .makeFunc (.func f) fs cs=>funcE E o.type f fs.isEmpty (cs.toList.all q) (cs.toList.map s)
 | .makeSlice t l c=>rM fi E d t (q l&&q c) (s l) (s c)
 | .slice t x lo hi mx=>zQ E look t (q x) (s x) (lo.map ρ) (hi.map ρ) (mx.map ρ)
 | .fieldAddr t x j=>mP E t j (q x) (s x)
 | .field t x j=>z6 E t j (q x) (s x)
 | .indexAddr t x i=>match isSl E t,bnd E 0 (some (s i)) with
  | some e,some (b,i')=>idxE E look t e (q x&&(q i&&b)) (s x) i'
  | _,_=>none
 | .index t x i=>zh E o.type t (q x&&q i) (s x) (s i)
 | .extract x j=>uq j (q x) (s x)
 | .call c=>match c.callee with
  | .builtin .len=>match c.args.toList,c.argTypes.toList with
   | [x],[t]=>lenOp E look o.type t (q x) (s x)
   | _,_=>none
  | .builtin .append=>match c.args.toList,c.argTypes.toList with
   | [x,y],[t,u]=>bif Nat.beq t u then ra fi E look d t (q x&&q y) (s x) (s y) else none
   | _,_=>none
  | .builtin .max=>match c.args.toList with
   | [x,y]=>mxE E true o.type (q x&&q y) (s x) (s y)
   | _=>none
  | .builtin .min=>match c.args.toList with
   | [x,y]=>mxE E false o.type (q x&&q y) (s x) (s y)
   | _=>none
  | .value (.func f)=>match E.fn ((aJ fi.var d).getD f) with
   | some g=>bif Nat.beq (E.src ((aJ fi.var d).getD f)) f then (bif g.clip then clipE E look (c.args.toList.all q) ((aJ fi.var d).getD f) g.params (c.args.toList.map s)
     else callM E look d (c.args.toList.all q) ((aJ fi.var d).getD f) (weakR fi d g.params.length g.rets) g.params (c.args.toList.map s)) else none
   | none=>none
  | .value x=>match s x with
   | .val ty t=>callV E look d (q x&&c.args.toList.all q) ty (.val ty t) (c.args.toList.map s)
   | _=>none
  | _=>none
 | _=>none
def condL {α:Type} (g:Bool):List α→List α
 | []=>[]
 | x :: l=>bif g then x :: l else []
def wh (u:Upd):Bool:=u.wr.all (fun x=>x.2.isNone&&mem x.1 (u.ks.map (·.1)))&&u.ks.all (fun x=>Nat.beq x.2 0)
def nO (E:Env) (ops:List Oper) (ρ:Operand→AV) (o:Oper) (e:Eff):Option Eff:=
 match o.guard with
 | none=>some e
 | some (j,want)=>match (ops[j]?).bind (·.dst) with
  | none=>none
  | some t=>match bK (ρ (.tmp t)) with
   | (b,.val ty v)=>bif cT E ty then
     let g:=b&&(v.b==want)
     some ⟨e.pre || !g,g,e.req,fun res=>bif wh (e.ret res) then ⟨.gd g (e.ret res).av,(e.ret res).wr,(e.ret res).ks⟩ else ⟨.gd g (e.ret res).av,condL g (e.ret res).wr,condL g (e.ret res).ks⟩⟩
    else none
   | _=>none
def aX (d:Option Nat) (u:Upd) (st:St):St:=
 ⟨fun t=>bif (match d with | some d=>Nat.beq t d | none=>false) then u.av else bif u.ks.isEmpty then st.tm t else (st.tm t).cut u.ks,
   fun r => match aJ u.wr r with | some x => x | none => st.rt r⟩
def effG (fi:Fi) (E:Env) (ops:List Oper) (look:Nat→Option Rt) (ρ:Operand→AV) (o:Oper):Option Eff:=
 match tC fi E look ρ o with
 | none=>none
 | some e=>bif (match o.dst with | none=>true | some d=>decide (d < fi.ntmps)) then nO E ops ρ o e else none
abbrev aF:=Nat→List T→R
def fldOf (ty:Nat) (a:AV) (j:Nat):AV:=match a with
 | .agg ty' l=>bif Nat.beq ty' ty then l.getD j .undef else .undef
 | _=>.undef
def aggOf (ty:Nat) (a:AV):Bool:=match a with
 | .agg ty' _=>Nat.beq ty' ty
 | _=>false
def ob (E:Env) (C:aF) (d f:Nat) (as:List AV) (st:St) (K:St→R):R:=
 match E.fn f with
 | none=>none
 | some g=>match kZ E st.rt d true f g.rets g.params as with
  | none=>none
  | some e=>match e.req with
   | none=>none
   | some (f',ts)=>match C f' ts with
    | some res=>K (aX (some d) (e.ret res) st)
    | none=>none
def vR (E:Env) (o:Oper):Option (Nat × List (Nat × Nat) × Operand × Operand):=
 match o.op with
 | .call c=>match c.callee,c.args.toList with
  | .value (.func f),[x,k]=>match E.fn f with
   | some g=>match g.inl,g.params with
    | [],_=>none
    | l,(ty,_) :: _=>some (ty,l,x,k)
    | _,_=>none
   | none=>none
  | _,_=>none
 | _=>none
def pI (fi:Fi) (E:Env) (C:aF) (o:Oper) (ty:Nat) (l:List (Nat × Nat)) (x k:Operand) (st:St) (K:St→R):R:=
 match o.dst,o.guard,x,l with
 | some d,none,.tmp t,[(f1,j1),(f2,j2)]=>
  bif decide (d < fi.ntmps)&&(!Nat.beq t d&&aggOf ty (st.tm t)) then
   ob E C d f1 [fldOf ty (st.tm t) j1,opd st k] st fun st1=>ob E C d f2 [fldOf ty (st1.tm t) j2,st1.tm d] st1 K
  else none
 | _,_,_,_=>none
def je (fi:Fi) (E:Env) (C:aF) (ops:List Oper) (o:Oper) (st:St) (K:St→R):R:=
 match effG fi E ops st.rt (opd st) o with
 | none=>none
 | some e=>bif e.pre then
   (
    match e.req with
    | none=>K (aX o.dst (e.ret []) st)
    | some (f,ts)=>match (bif e.g then C f ts else some []) with
     | some res=>K (aX o.dst (e.ret res) st)
     | none=>none)
  else none
def orE:R→R→R
 | some r,_=>some r
 | none,y=>y
def xh (fi:Fi) (d f:Nat):Fi:={ fi with var:=(d,f) :: fi.var }
def jN (fi:Fi) (E:Env) (C:aF) (ops:List Oper) (o:Oper) (st:St) (K:St→R) (d:Nat):List Nat→R
 | []=>none
 | f :: l=>orE (je (xh fi d f) E C ops o st K) (jN fi E C ops o st K d l)
def kq (fi:Fi) (E:Env) (C:aF) (ops:List Oper) (o:Oper) (st:St) (K:St→R):R:=
 match o.dst with
 | none=>je fi E C ops o st K
 | some d=>match aJ fi.tries d with
  | none=>je fi E C ops o st K
  | some l=>jN fi E C ops o st K d l
def setB (st:St) (t ty:Nat) (x:Bool):St:=⟨fun k=>bif Nat.beq k t then .val ty (.bool x) else st.tm k,st.rt⟩
def wi (E:Env) (o:Oper):AV:=.gd false (.val (match o.op with | .binOp op _ _ _ _=>rtyOf E op o.type | _=>o.type) (.int 0))
def splOf (fi:Fi) (ops:List Oper) (o:Oper):Option (Nat × Bool):=
 match o.guard with
 | none=>none
 | some (j,want)=>match (ops[j]?).bind (·.dst) with
  | none=>none
  | some t=>bif mem t fi.spl then some (t,want) else none
def nD (fi:Fi) (E:Env) (C:aF) (ops:List Oper) (o:Oper) (st:St) (K:St→R) (want x:Bool):R:=
 bif x==want then kq fi E C ops { o with guard:=none } st K else K (aX o.dst ⟨wi E o,[],[]⟩ st)
def pK (fi:Fi) (E:Env) (C:aF) (ops:List Oper) (o:Oper) (st:St) (K:St→R) (t:Nat) (want:Bool):R:=
 match bK (st.tm t) with
 | (b,.val ty v)=>bif cT E ty&&(match o.dst with | none=>true | some d=>decide (d < fi.ntmps) && !Nat.beq d t) then
   (
    bif b then (bif v.b then nD fi E C ops o (setB st t ty true) K want true else nD fi E C ops o (setB st t ty false) K want false)
    else K (aX o.dst ⟨wi E o,[],[]⟩ st)) else none
 | _=>none
def rg (fi:Fi) (E:Env) (C:aF) (ops:List Oper) (o:Oper) (st:St) (K:St→R):R:=
 match vR E o with
 | some (ty,l,x,k)=>pI fi E C o ty l x k st K
 | none=>match splOf fi ops o with
  | some (t,want)=>pK fi E C ops o st K t want
  | none=>kq fi E C ops o st K
def pJ (fi:Fi) (E:Env) (C:aF) (ops:List Oper):List Oper→St→(St→R)→R
 | [],st,K=>K st
 | o :: l,st,K=>rg fi E C ops o st fun st=>pJ fi E C ops l st K
abbrev RW:=List Nat × List Nat
mutual
def AV.keys:AV→List Nat
 | .gd _ a=>a.keys
 | .sref _ r _=>[r]
 | .sub _ r _ _ _=>[r]
 | .pref _ r p=>bif bj p then [r+600000] else [r]
 | .alt _ r _ _=>[r,r+500000]
 | .row _ d _ a=>d :: (d+500000) :: a.keys
 | .agg _ l=>AV.keysL l
 | .tup l=>AV.keysL l
 | .undef=>[]
 | .val _ _=>[]
 | .cst _=>[]
 | .nil _=>[]
 | .fnc _=>[]
 | .fptr _ _=>[]
 | .ln _ _=>[]
 | .pv _ a=>a.keys
def AV.keysL:List AV→List Nat
 | []=>[]
 | a :: l=>a.keys++AV.keysL l
end
def li:Nat × Nat→List Nat
 | (r,4)=>[r+500000]
 | (r,2)=>[r,r+500000]
 | (r,3)=>[r,r+500000]
 | (r,k)=>bif Nat.ble 10 k then [r,r+500000] else [r,r+500000,r+600000]
def AV.only (rs:List Nat) (a:AV):AV:=
 let b:=a.cut ((a.refs.filter fun r=>!(mem r rs||mem (r+600000) rs)).map fun r=>(r,0))
 bif mU b.keys rs then b else .undef
def rp (ts rs:List Nat) (st:St):Operand→AV
 | .tmp t=>bif mem t ts then (st.tm t).only rs else .undef
 | .const v=>.cst v
 | .func f=>.fnc f
 | .global _=>.undef
def AL (rs:List Nat) (st:St):Nat→Option Rt:=fun r=>bif mem r rs then st.rt r else none
def fits (rw:RW) (u:Upd):Bool:=mU (u.wr.map (·.1)) rw.2&&(mU (u.ks.flatMap li) rw.2&&mU u.av.keys (rw.1++rw.2))
def eI (o:Oper):List Nat:=(o.after.toList.filter (Region.binds .any)).map (·.on)
def di:List Nat→List Oper→List Nat
 | acc,[]=>acc
 | acc,o :: l=>di (acc ++ [(eI o).foldl (fun s k=>s ||| (2 ^ k ||| acc.getD k 0)) 0]) l
def lightK (o:Oper):Bool:=match o.op with
 | .fieldAddr _ _ _=>true
 | .load _ (.tmp _)=>true
 | _=>false
def noDst (ops:Array Oper) (q:Nat):Bool:=ops.toList.all fun o=>match o.dst with
 | some d=>!Nat.beq d q
 | none=>true
def o9 (ms:List Nat) (l j:Nat):Bool:=!Nat.beq j l&&(!(ms.getD l 0).testBit j && !(ms.getD j 0).testBit l)
def vU (ops:Array Oper) (ol oj:Oper):Bool:=ol.apart ops oj&&(match ol.op with
 | .load _ _=>(match oj.op with
  | .load _ _=>true
  | .store _ (.tmp q) _=>noDst ops q
  | _=>false)
 | _=>(match oj.op with
  | .select _ _=>false
  | _=>true))
def vK (ops:Array Oper) (ms:List Nat) (l:Nat):Bool:=match ops[l]? with
 | some ol=>lightK ol&&(List.range ops.size).all fun j=>!o9 ms l j||match ops[j]? with
  | some oj=>vU ops ol oj
  | none=>true
 | none=>false
def fP (ops:Array Oper) (ms fst:List Nat) (i:Nat):Nat→Nat
 | 0=>0
 | n+1=>bif mem n fst&&(match ops[n]? with | some o=>(eI o).all fun k=>(ms.getD i 0).testBit k||(fP ops ms fst i n).testBit k | none=>false) then fP ops ms fst i n ||| 2 ^ n else fP ops ms fst i n
def bxd (st:St) (r:Nat):Bool:=match st.rt r with
 | some R=>R.box
 | none=>false
def tg (rw:RW) (st:St) (a b:AV):Bool:=match a,b with
 | .pref ty r p,.pref ty' r' p'=>!Nat.beq r r'&&(bj p&&(bj p'&&(bxd st r&&(bxd st r'&&(mem r rw.1&&(mem r' rw.1&&(mU (AV.keys (.pref ty r p)) rw.1&&mU (AV.keys (.pref ty' r' p')) rw.1)))))))
 | _,_=>false
def ldOk (ops:Array Oper) (fst:List Nat) (rw:RW) (i:Nat) (o:Oper) (st:St):Bool:=bif mem i fst then (match o.op with
 | .load _ x=>(List.range ops.size).all fun j=>!o9 (di [] ops.toList) i j||match ops[j]? with
  | some oj=>(match oj.op with
   | .store _ (.tmp q) _=>noDst ops q&&tg rw st (bK (opd st x)).2 (st.tm q)
   | _=>true)
  | none=>true
 | _=>true) else true
def rh (fi:Fi) (E:Env) (C:aF) (ops:Array Oper) (fst:List Nat) (rw:RW) (i:Nat) (o:Oper) (st:St) (K:St→R):R:=
 bif !ldOk ops fst rw i o st then none else
 match effG fi E ops.toList (AL rw.1 st) (rp (o.looksAt ops) rw.1 st) o with
 | none=>none
 | some e=>bif e.pre then
   (
    match e.req with
    | none=>bif fits rw (e.ret []) then K (aX o.dst (e.ret []) st) else none
    | some (f,ts)=>match (bif e.g then C f ts else some []) with
     | some res=>bif fits rw (e.ret res) then K (aX o.dst (e.ret res) st) else none
     | none=>none)
  else none
def iQ (fi:Fi) (E:Env) (C:aF) (ops:Array Oper) (fst:List Nat) (rws:List RW):Nat→List Oper→St→(St→R)→R
 | _,[],st,K=>K st
 | i,o :: l,st,K=>rh fi E C ops fst (rws.getD i ([],[])) i o st fun st=>iQ fi E C ops fst rws (i+1) l st K
def tE (ops:Array Oper) (rws:List RW) (l i:Nat) (ol oi:Oper):Bool:=
 ol.apart ops oi&&(dP (rws.getD l ([],[])).2 (rws.getD i ([],[])).1&&(dP (rws.getD i ([],[])).2 (rws.getD l ([],[])).1&&dP (rws.getD l ([],[])).2 (rws.getD i ([],[])).2))
def re (ops:Array Oper) (fst:List Nat) (rws:List RW):Bool:=
 fst.all (vK ops (di [] ops.toList))&&(List.range ops.size).all fun i=>match ops[i]? with
  | none=>false
  | some oi=>(eI oi).all (fun k=>decide (k < i))&&(List.range i).all fun l=>((di [] ops.toList).getD i 0).testBit l||(fP ops (di [] ops.toList) fst i i).testBit l||(match ops[l]? with
   | some ol=>tE ops rws l i ol oi
   | none=>false)
def jY (cs:CS):St:=⟨fun t=>(aJ cs.1 t).getD .undef,aJ cs.2⟩
def keepOf (fi:Fi) (k:List Item):List Nat:=
 match k with
 | .inBlock id :: _=>(aJ fi.keep id).getD []
 | _=>[]
def canon (ks:List Nat) (st:St):CS:=
 (
  ks.map fun t=>(t,st.tm t),
  (ks.flatMap fun t=>(st.tm t).refs).eraseDups.filterMap fun r=>(st.rt r).map fun R=>(r,R))
def lX (E:Env) (st:St):ResultVar→AV
 | .tmp t=>st.tm t
 | .cell a ty=>match st.tm a with
  | .pref ty' r p=>match st.rt r with
   | some R=>bif bN E ty&&(Nat.beq ty ty'&&(R.o.get p).live) then qf E 9 ty (R.t.get p) (R.o.get p) r p else .undef
   | none=>.undef
  | .fptr ty' t=>bif bN E ty&&Nat.beq ty ty' then .val ty t else .undef
  | _=>.undef
def qe (E:Env) (st:St) (ty:Nat):Ret→AV→Option mo
 | .vl o,a=>match take E st.rt ty a with
  | some c=>bif leT E o ty c.o then some ⟨c.t,o,c.mv⟩ else none
  | none=>none
 | .ig,a=>match lnE E st.rt ty a with
  | some n=>some ⟨.int n,.dp,[]⟩
  | none=>none
 | .bx o,a=>match a with
  | .pref ty' r []=>match st.rt r with
   | some R=>bif R.box&&(Nat.beq (fY E ty) ty'&&(leT E o R.ty R.o&&(Nat.beq R.ty ty' && !R.o.isDead))) then some ⟨R.t,o,[(r,[])]⟩ else none
   | none=>none
  | _=>none
def igOk:Ret→ResultVar→Bool
 | .ig,.cell _ _=>false
 | _,_=>true
def ke (E:Env) (st:St):List (Nat × Ret)→List ResultVar→Option (List T × List (Nat × List aH))
 | [],[]=>some ([],[])
 | (ty,k) :: l,v :: vs=>bif igOk k v then (match qe E st ty k (lX E st v),ke E st l vs with
  | some c,some (ts,mv)=>some (c.t :: ts,c.mv++mv)
  | _,_=>none) else none
 | _,_=>none
def ku (E:Env) (rt:Nat→Option Rt):Nat→List (Nat × Mode)→Option (List T)
 | _,[]=>some []
 | i,(_,.ro) :: l=>ku E rt (i+1) l
 | i,(_,.mv _) :: l=>ku E rt (i+1) l
 | i,(_,.ig) :: l=>ku E rt (i+1) l
 | i,(ty,.mu o) :: l=>match rt (aN i),ku E rt (i+1) l with
  | some R,some ts=>bif Nat.beq R.ty ty&&(!R.box&&leT E o R.ty R.o) then some (R.t :: ts) else none
  | _,_=>none
 | i,(ty,.bx o) :: l=>match rt (aN i),ku E rt (i+1) l with
  | some R,some ts=>bif Nat.beq R.ty (fY E ty)&&(R.box&&leT E o R.ty R.o) then some (R.t :: ts) else none
  | _,_=>none
def pV (fi:Fi) (E:Env) (st:St):R:=
 match ke E st fi.rets fi.results with
 | none=>none
 | some (ts,mv)=>bif bP mv then
   match ku E (fun r=>match aJ (bY E st.rt mv) r with | some x=>x | none=>st.rt r) 0 fi.params with
   | some ms=>some (ts++ms)
   | none=>none
  else none
def setC (st:St) (c:Operand) (ty:Nat) (x:Bool):St:=match c with
 | .tmp t=>setB st t ty x
 | _=>st
def ex (fi:Fi) (E:Env) (H:List Item→CS→R) (C:aF):Nat→List Item→St→R
 | 0,_,_=>none
 | m+1,todo,st=>match todo with
  | []=>pV fi E st
  | .code .ret :: _=>pV fi E st
  | .code .skip :: k=>ex fi E H C m k st
  | .code (.label _) :: k=>ex fi E H C m k st
  | .inBlock _ :: k=>ex fi E H C m k st
  | .inScope _ :: k=>ex fi E H C m k st
  | .code (.scope body) :: k=>ex fi E H C m (.code body :: .inScope body :: k) st
  | .code (.seq a b) :: k=>ex fi E H C m (.code a :: .code b :: k) st
  | .code (.cond c x y) :: k=>match bK (opd st c) with
   | (b,.val ty v)=>bif cT E ty then (bif b then (bif v.b then ex fi E H C m (.code x :: k) (setC st c ty true) else ex fi E H C m (.code y :: k) (setC st c ty false)) else none) else none
   | (b,.cst (.bool v))=>bif b then (bif v then ex fi E H C m (.code x :: k) st else ex fi E H C m (.code y :: k) st) else none
   | _=>none
  | .code (.block id body) :: k=>ex fi E H C m (.code body :: .inBlock id :: k) st
  | .code (.loop body) :: k=>H (.inLoop body :: k) (canon (keepOf fi k) st)
  | .inLoop body :: k=>H (.inLoop body :: k) (canon (keepOf fi k) st)
  | .code (.exit id) :: k=>match exitTo id k with
   | some k'=>ex fi E H C m k' st
   | none=>none
  | .code (.goto l) :: k=>match gotoIn l k with
   | some k'=>ex fi E H C m k' st
   | none=>none
  | .code (.region id ops draw) :: k=>
   bif draw then
    (
     let rws:=(aJ fi.decl id).getD []
     let fst:=(aJ fi.first id).getD []
     bif re ops fst rws then iQ fi E C ops fst rws 0 ops.toList st (fun st=>ex fi E H C m k st) else none)
   else pJ fi E C ops.toList ops.toList st (fun st=>ex fi E H C m k st)
  | _=>none
def BIG:Nat:=100000
def initAV (E:Env) (i:Nat) (ty:Nat) (t:T):Mode→AV
 | .ro=>.val ty t
 | .mu _=>.sref ty (aN i) []
 | .bx _=>.pref (fY E ty) (aN i) []
 | .mv o=>bif bN E ty then (bif o.isFo then (match E.ty ty with | .sl _=>.sref ty (aN i) [] | _=>.undef) else qf E 9 ty t o (aN i) []) else .undef
 | .ig=>.ln ty t.i.toNat
def eT (E:Env):Nat→List (Nat × Mode)→List T→CS
 | i,(ty,m) :: ps,t :: ts=>
  let r:=eT E (i+1) ps ts
  ((
   i,initAV E i ty t m) :: r.1,match m with
   | .ro=>r.2
   | .ig=>r.2
   | .mv o=>(aN i,⟨ty,t,o,false⟩) :: r.2
   | .mu o=>(aN i,⟨ty,t,o,false⟩) :: r.2
   | .bx o=>(aN i,⟨fY E ty,t,o,true⟩) :: r.2)
 | _,_,_=>([],[])
def bI (fi:Fi) (E:Env) (H:List Item→CS→R) (C:aF) (ts:List T):R:=
 bif Nat.beq ts.length fi.params.length then ex fi E H C BIG [.code fi.body] (jY (eT E 0 fi.params ts)) else none
def iU (fi:Fi) (E:Env) (H:List Item→CS→R) (C:aF) (todo:List Item) (cs:CS):R:=
 match todo with
 | .inLoop body :: k=>ex fi E H C BIG (.code body :: .inLoop body :: k) (jY cs)
 | _=>none
def pU (E:Env) (X:Nat→Option (List T→R)):Nat→(Fi→List Item→CS→R) × aF
 | 0=>(fun _ _ _=>none,fun _ _=>none)
 | n+1=>(fun fi todo cs=>iU fi E ((pU E X n).1 fi) (pU E X n).2 todo cs,
   fun f ts=>match X f with
    | some g=>g ts
    | none=>match E.fn f with
     | some fi=>bI fi E ((pU E X n).1 fi) (pU E X n).2 ts
     | none=>none)
def lg (E:Env) (X:Nat→Option (List T→R)) (n:Nat):Fi→List Item→CS→R:=(pU E X n).1
def Uj (E:Env) (X:Nat→Option (List T→R)) (n:Nat):aF:=(pU E X n).2
theorem vO (E:Env) (X:Nat→Option (List T→R)) (n:Nat) (fi:Fi) (todo:List Item) (cs:CS) :
  lg E X (n+1) fi todo cs=iU fi E (lg E X n fi) (Uj E X n) todo cs:=rfl
theorem mG (E:Env) (X:Nat→Option (List T→R)) (n f:Nat) (ts:List T) :
  Uj E X (n+1) f ts=match X f with
   | some g=>g ts
   | none=>match E.fn f with
    | some fi=>bI fi E (lg E X n fi) (Uj E X n) ts
    | none=>none:=rfl
open Go.RowKit
inductive Own where | free | frz | at (r:Nat) (p:List aH) | hd (r:Nat)
abbrev Gh:=Nat→Own
inductive aE where | reg (vs:List Value) (o:Nat) | mem (b o:Nat)
def aE.add:aE→Nat→aE
 | .reg vs o,k=>.reg vs (o+k)
 | .mem b o,k=>.mem b (o+k)
def rd (w:World):aE→Option Value
 | .reg vs o=>vs[o]?
 | .mem b o=>w.cell? ⟨b,o,none⟩
theorem aE.add_zero (κ:aE):κ.add 0=κ:=by cases κ <;> rfl
theorem aE.add_add (κ:aE) (a b:Nat):(κ.add a).add b=κ.add (a+b):=by cases κ <;> simp[aE.add,Nat.add_assoc]
def ch (w:World) (b n:Nat):Prop:=∃c e,w.heap[b]?=some (.cells c e (0,0))∧n≤c.size
theorem ch.mono {w:World} {b n m:Nat} (h:ch w b n) (hm:m≤n):ch w b m:=by
 obtain ⟨c,e,h1,h2⟩:=h;exact ⟨c,e,h1,by omega⟩
def off (E:Env) (fs:List Nat) (j:Nat):Nat:=((fs.take j).map E.sz).sum
def bd (E:Env) (ty:Nat) (v:Value):Prop:=
 v.cells.size=E.sz ty∧match E.ty ty with
  | .st _=>∃cs,v = .agg cs
  | _=>v.cells = #[v]
inductive Rep (E:Env) (w:World) (g:Gh):Nat→T→O→Nat→List aH→aE→Prop
 | int {ty k n o r p κ} : E.ty ty = .int k→rd w κ=some (.int k n)→Rep E w g ty (.int n) o r p κ
 | bool {ty b o r p κ} : E.ty ty = .bool→rd w κ=some (.bool b)→Rep E w g ty (.bool b) o r p κ
 | str {ty s o r p κ} : E.ty ty = .str→rd w κ=some (.string s)→Rep E w g ty (.str s) o r p κ
 | fn {ty ps rs f caps o r p κ} (vs:List Value) (cts:List Nat):E.ty ty = .fn ps rs→
   pW E f cts ps rs=true→caps.length=cts.length→vs.length=cts.length→rd w κ=some (.func (.func f) #[] vs.toArray)→
   (∀(i ct:Nat) (c:T) (v:Value),cts[i]?=some ct→caps[i]?=some c→vs[i]?=some v→Rep E w g ct c .fz r p (.reg v.cells.toList 0))→
   (∀(i ct:Nat) (v:Value),cts[i]?=some ct→vs[i]?=some v→bd E ct v)→Rep E w g ty (.fn f caps) o r p κ
 | cp {ty e t a o r p κ} : E.ty ty = .cp e→rd w κ=some (.pointer (some a))→a.spot=none→g a.block = .frz→
   Rep E w g e t .fz r p (.mem a.block a.off)→Rep E w g ty t o r p κ
 | dead {ty t r p κ} : Rep E w g ty t .dead r p κ
 | fz0 {ty e A cap r p κ} : E.ty ty = .sl e→rd w κ=some (.slice A 0 cap)→Rep E w g ty (.sl []) .fz r p κ
 | fz {ty e es a cap r p κ} : E.ty ty = .sl e→rd w κ=some (.slice (some a) es.length cap)→a.spot=none→es.length≤cap→g a.block = .frz→
   (∀i t,es[i]?=some t→Rep E w g e t .fz r p (.mem a.block (a.off+i * E.sz e)))→Rep E w g ty (.sl es) .fz r p κ
 | fo0 {ty e A cap r p κ} : E.ty ty = .sl e→rd w κ=some (.slice A 0 cap)→Rep E w g ty (.sl []) .fo r p κ
 | fo {ty e es a cap r p κ} : E.ty ty = .sl e→rd w κ=some (.slice (some a) es.length cap)→a.spot=none→es.length≤cap→g a.block = .frz→a.block < E.old→
   (∀i t,es[i]?=some t→Rep E w g e t .fo r p (.mem a.block (a.off+i * E.sz e)))→Rep E w g ty (.sl es) .fo r p κ
 | own0 {ty e o r p κ} : E.ty ty = .sl e→o.own=true→rd w κ=some (.slice none 0 0)→Rep E w g ty (.sl []) o r p κ
 | own {ty e es a cap o r p κ} : E.ty ty = .sl e→o.own=true→rd w κ=some (.slice (some a) es.length cap)→a.spot=none→es.length≤cap→
   g a.block = .at r p→ch w a.block (a.off+cap * E.sz e)→
   (∀i t,es[i]?=some t→Rep E w g e t o.elem r (p ++ [.idx i]) (.mem a.block (a.off+i * E.sz e)))→Rep E w g ty (.sl es) o r p κ
 | st {ty fs ts o r p κ} : E.ty ty = .st fs→ts.length=fs.length→
   (∀j f t,fs[j]?=some f→ts[j]?=some t→Rep E w g f t (o.fld j) r (p ++ [.fld j]) (κ.add (off E fs j)))→Rep E w g ty (.st ts) o r p κ
structure bl (E:Env):Prop where
 one : ∀t,(match E.ty t with | .st _=>False | .bad=>False | _=>True)→E.sz t=1
 sum : ∀t fs,E.ty t = .st fs→E.sz t=(fs.map E.sz).sum
 flat_st : ∀t fs,E.ty t = .st fs→E.flat t=true→∀f∈fs,E.flat f=true
 flat_sl : ∀t e,E.ty t = .sl e→E.flat t=false
 flat_fn : ∀t a b,E.ty t = .fn a b→E.flat t=false
 flat_cp : ∀t e,E.ty t = .cp e→E.flat t=false
 nofn_st : ∀t fs,E.ty t = .st fs→E.nofn t=true→∀f∈fs,E.nofn f=true
 nofn_sl : ∀t e,E.ty t = .sl e→E.nofn t=true→E.nofn e=true
 nofn_fn : ∀t a b,E.ty t = .fn a b→E.nofn t=false
 nofn_cp : ∀t e,E.ty t = .cp e→E.nofn t=false
theorem zS (l:List Nat) : ∀(j x:Nat),l[j]?=some x→(l.take j).sum+x≤l.sum:=by
 induction l with
 | nil=>intro j x h;simp at h
 | cons a l ih=>intro j x h;cases j with
  | zero=>simp at h;subst h;simp
  | succ j=>simp only[List.getElem?_cons_succ] at h;have:=ih j x h;simp only[List.take_succ_cons,List.sum_cons];omega
theorem eL {E:Env} {fs:List Nat} {j f:Nat} (h:fs[j]?=some f):off E fs j+E.sz f≤(fs.map E.sz).sum:=by
 unfold off;rw[List.map_take];exact zS (fs.map E.sz) j (E.sz f) (by simp[h])
theorem nU {E:Env} {fs:List Nat} {j f:Nat} (h:fs[j]?=some f):off E fs (j+1)=off E fs j+E.sz f:=by
 unfold off;obtain ⟨hl,rfl⟩:=List.getElem?_eq_some_iff.1 h;rw[List.take_succ_eq_append_getElem hl,List.map_append,List.sum_append];simp
theorem yn (l:List Nat) : ∀(i j:Nat),i≤j→(l.take i).sum≤(l.take j).sum:=by
 induction l with
 | nil=>intro i j _;simp
 | cons a l ih=>intro i j h;cases i with
  | zero=>simp
  | succ i=>cases j with
   | zero=>omega
   | succ j=>simp only[List.take_succ_cons,List.sum_cons];have:=ih i j (by omega);omega
theorem nT {E:Env} {fs:List Nat} {i j:Nat} (h:i≤j):off E fs i≤off E fs j:=by
 unfold off;rw[List.map_take,List.map_take];exact yn _ _ _ h
def aP (w w':World) (b:Nat):Prop:=(∀o,w'.cell? ⟨b,o,none⟩=w.cell? ⟨b,o,none⟩)∧∀n,ch w b n→ch w' b n
theorem aP.of_heap {w w':World} {b:Nat} (h:w'.heap[b]?=w.heap[b]?):aP w w' b:=
 ⟨fun o=>by simp only[World.cell?,h],fun n hn=>by unfold ch at *;rw[h];exact hn⟩
theorem aP.refl (w:World) (b:Nat):aP w w b:=⟨fun _=>rfl,fun _ h=>h⟩
theorem aP.trans {a b c:World} {k:Nat} (h:aP a b k) (h':aP b c k):aP a c k:=
 ⟨fun o=>(h'.1 o).trans (h.1 o),fun n hn=>h'.2 n (h.2 n hn)⟩
def o4 (g:Gh) (r:Nat) (p:List aH) (b:Nat):Prop:=g b = .frz∨∃q,g b = .at r (p++q)
theorem o4.step {g:Gh} {r:Nat} {p:List aH} {s:aH} {b:Nat} (h:o4 g r (p ++ [s]) b):o4 g r p b:=by
 rcases h with h | ⟨q,h⟩
 ·exact .inl h
 ·exact .inr ⟨s :: q,by rw[h];simp⟩
theorem Rep.reloc {E:Env} {w:World} {g:Gh} (hE:bl E) {ty:Nat} {t:T} {o:O} {r:Nat} {p:List aH} {κ:aE} (h:Rep E w g ty t o r p κ)
  {w':World} {g':Gh} {κ':aE} :
  (∀k,k < E.sz ty→rd w' (κ'.add k)=rd w (κ.add k))→(∀b,o4 g r p b→aP w w' b∧g' b=g b)→Rep E w' g' ty t o r p κ':=by
 induction h generalizing κ' with
 | int h1 h2=>intro hc hb;exact .int h1 (by rw[← h2];simpa[aE.add_zero] using hc 0 (by rw[hE.one _ (by simp[h1])];omega))
 | bool h1 h2=>intro hc hb;exact .bool h1 (by rw[← h2];simpa[aE.add_zero] using hc 0 (by rw[hE.one _ (by simp[h1])];omega))
 | str h1 h2=>intro hc hb;exact .str h1 (by rw[← h2];simpa[aE.add_zero] using hc 0 (by rw[hE.one _ (by simp[h1])];omega))
 | fn vs cts h1 h3 h4 h5 h6 h7 h8 ih=>
  intro hc hb;exact .fn vs cts h1 h3 h4 h5 (by rw[← h6];simpa[aE.add_zero] using hc 0 (by rw[hE.one _ (by simp[h1])];omega))
   (fun i ct c v a1 a2 a3=>ih i ct c v a1 a2 a3 (fun _ _=>rfl) hb) h8
 | cp h1 h2 h3 h4 _ ih=>
  intro hc hb;exact .cp h1 (by rw[← h2];simpa[aE.add_zero] using hc 0 (by rw[hE.one _ (by simp[h1])];omega)) h3 (by rw[(hb _ (.inl h4)).2,h4]) (ih (fun k _=>(hb _ (.inl h4)).1.1 _) hb)
 | dead=>intro _ _;exact .dead
 | fz0 h1 h2=>intro hc hb;exact .fz0 h1 (by rw[← h2];simpa[aE.add_zero] using hc 0 (by rw[hE.one _ (by simp[h1])];omega))
 | fz h1 h2 h3 h4 h5 h6 ih=>
  intro hc hb;refine .fz h1 (by rw[← h2];simpa[aE.add_zero] using hc 0 (by rw[hE.one _ (by simp[h1])];omega)) h3 h4 (by rw[(hb _ (.inl h5)).2,h5]) fun i t hi=>?_
  exact ih i t hi (fun k _=>(hb _ (.inl h5)).1.1 _) hb
 | fo0 h1 h2=>intro hc hb;exact .fo0 h1 (by rw[← h2];simpa[aE.add_zero] using hc 0 (by rw[hE.one _ (by simp[h1])];omega))
 | fo h1 h2 h3 h4 h5 h5' h6 ih=>
  intro hc hb;refine .fo h1 (by rw[← h2];simpa[aE.add_zero] using hc 0 (by rw[hE.one _ (by simp[h1])];omega)) h3 h4 (by rw[(hb _ (.inl h5)).2,h5]) h5' fun i t hi=>?_
  exact ih i t hi (fun k _=>(hb _ (.inl h5)).1.1 _) hb
 | own0 h1 h2 h3=>intro hc hb;exact .own0 h1 h2 (by rw[← h3];simpa[aE.add_zero] using hc 0 (by rw[hE.one _ (by simp[h1])];omega))
 | own h1 h2 h3 h4 h5 h6 h7 h8 ih=>
  intro hc hb;have hl:=hb _ (.inr ⟨[],by rw[h6];simp⟩)
  refine .own h1 h2 (by rw[← h3];simpa[aE.add_zero] using hc 0 (by rw[hE.one _ (by simp[h1])];omega)) h4 h5 (by rw[hl.2,h6]) (hl.1.2 _ h7) fun i t hi=>?_
  exact ih i t hi (fun k _=>hl.1.1 _) fun b hb'=>hb b hb'.step
 | st h1 h2 h3 ih=>
  intro hc hb;refine .st h1 h2 fun j f t hf ht=>ih j f t hf ht (fun k hk=>?_) fun b hb'=>hb b hb'.step
  rw[aE.add_add,aE.add_add];exact hc _ (by rw[hE.sum _ _ h1];have:=eL (E:=E) hf;omega)
theorem Rep.frame {E:Env} {w:World} {g:Gh} (hE:bl E) {ty:Nat} {t:T} {o:O} {r:Nat} {p:List aH} {κ:aE} (h:Rep E w g ty t o r p κ)
  {w':World} {g':Gh} (hc : ∀k,k < E.sz ty→rd w' (κ.add k)=rd w (κ.add k)) (hb : ∀b,o4 g r p b→aP w w' b∧g' b=g b):Rep E w' g' ty t o r p κ:=
 h.reloc hE hc hb
theorem Rep.place {E:Env} {w:World} {g:Gh} (hE:bl E) {ty:Nat} {t:T} {o:O} {r:Nat} {p:List aH} {κ κ':aE} (h:Rep E w g ty t o r p κ)
  (hc : ∀k,k < E.sz ty→rd w (κ'.add k)=rd w (κ.add k)):Rep E w g ty t o r p κ':=
 h.reloc hE hc fun b _=>⟨aP.refl _ _,rfl⟩
theorem C7 {os:List O} (h:O.lives os=true) : ∀j,(os.getD j .dp).live=true:=by
 induction os with
 | nil=>intro j;simp[O.live]
 | cons o os ih=>intro j;simp only[O.lives,Bool.and_eq_true] at h;cases j with
  | zero=>simpa using h.1
  | succ j=>simpa using ih h.2 j
theorem BR {os:List O} (h:O.geDps os=true) : ∀j,(os.getD j .dp).geDp=true:=by
 induction os with
 | nil=>intro j;simp[O.geDp]
 | cons o os ih=>intro j;simp only[O.geDps,Bool.and_eq_true] at h;cases j with
  | zero=>simpa using h.1
  | succ j=>simpa using ih h.2 j
theorem BU {os:List O} (h:O.geFos os=true) : ∀j,(os.getD j .dp).geFo=true:=by
 induction os with
 | nil=>intro j;simp[O.geFo]
 | cons o os ih=>intro j;simp only[O.geFos,Bool.and_eq_true] at h;cases j with
  | zero=>simpa using h.1
  | succ j=>simpa using ih h.2 j
theorem les_get {as:List O} : ∀{bs:List O},O.les as bs=true→∀j,O.le (as.getD j .dp) (bs.getD j .dp)=true:=by
 induction as with
 | nil=>intro bs h j;cases bs with
  | nil=>simp[O.le,O.geDp]
  | cons=>simp[O.les] at h
 | cons a as ih=>intro bs h j;cases bs with
  | nil=>simp[O.les] at h
  | cons b bs=>
   simp only[O.les,Bool.and_eq_true] at h;cases j with
   | zero=>simpa using h.1
   | succ j=>simpa using ih h.2 j
theorem not_fo {o:O} (h:o.own=true) (h':o.isFo=true):False:=by cases o <;> simp[O.own,O.isFo] at h h'
theorem eF {o:O} (h:o.live=true):o.elem.live=true:=by cases o <;> simp_all[O.live,O.elem]
theorem nR {o:O} (h:o.live=true) (j:Nat):(o.fld j).live=true:=by
 cases o with
 | st os=>exact C7 (by simpa[O.live] using h) j
 | _=>simp_all[O.live,O.fld]
theorem BQ {o:O} (h:o.geDp=true):o.elem.geDp=true:=by cases o <;> simp_all[O.geDp,O.elem]
theorem geDp_fld {o:O} (h:o.geDp=true) (j:Nat):(o.fld j).geDp=true:=by
 cases o with
 | st os=>exact BR (by simpa[O.geDp] using h) j
 | _=>simp_all[O.geDp,O.fld]
theorem BS {o:O} (h:o.geFo=true):o.elem.geFo=true:=by cases o <;> simp_all[O.geFo,O.elem]
theorem geFo_fld {o:O} (h:o.geFo=true) (j:Nat):(o.fld j).geFo=true:=by
 cases o with
 | st os=>exact BU (by simpa[O.geFo] using h) j
 | _=>simp_all[O.geFo,O.fld]
theorem le_fld {a o:O} (h:O.le a o=true) (j:Nat):O.le (a.fld j) (o.fld j)=true:=by
 cases a with
 | fz=>simp only[O.le,O.fld] at *;exact nR h j
 | fo=>cases o <;> simp_all[O.le,O.fld,O.isFo]
 | dp=>simp only[O.le,O.fld] at *;exact geDp_fld h j
 | dead=>simp[O.le,O.fld]
 | sl x=>cases o <;> simp_all[O.le,O.fld,O.own,O.geDp]
 | st as=>cases o with
  | st bs=>exact les_get (by simpa[O.le] using h) j
  | _=>simp[O.le] at h
theorem le_elem {a o:O} (h:O.le a o=true) (ho:o.own=true) (ha:a.own=true∨a = .fz):O.le a.elem o.elem=true:=by
 cases a with
 | fz=>simp only[O.le,O.elem] at *;exact eF h
 | fo=>simp[O.own] at ha
 | dp=>simp only[O.le,O.elem] at *;exact BQ h
 | sl x=>simp only[O.le,O.elem,ho,cond_true] at *;exact h
 | dead=>simp[O.own] at ha
 | st as=>simp[O.own] at ha
def Goes (g g':Gh) (r:Nat) (p:List aH) (o':O) (r':Nat) (p':List aH):Prop:=
 (∀b,g b = .frz→g' b = .frz)∧∀b q,g b = .at r (p++q)→g' b=if (o'.get q).isFz then .frz else .at r' (p'++q)
theorem Goes.step {g g':Gh} {r:Nat} {p:List aH} {o':O} {r':Nat} {p':List aH} (h:Goes g g' r p o' r' p') (s:aH) {o₁:O}
  (hs : ∀q,o₁.get q=o'.get (s :: q)):Goes g g' r (p ++ [s]) o₁ r' (p' ++ [s]):=
 ⟨h.1,fun b q hb=>by rw[h.2 b (s :: q) (by rw[hb];simp),hs];simp⟩
theorem Rep.frozen {E:Env} {w:World} {g:Gh} {ty:Nat} {t:T} {o:O} {r:Nat} {p:List aH} {κ:aE} (h:Rep E w g ty t o r p κ)
  {g':Gh} (ho:o = .fz) (hg : ∀b,g b = .frz→g' b = .frz) (r':Nat) (p':List aH):Rep E w g' ty t .fz r' p' κ:=by
 induction h generalizing p' with
 | int h1 h2=>exact .int h1 h2
 | bool h1 h2=>exact .bool h1 h2
 | str h1 h2=>exact .str h1 h2
 | fn vs cts h1 h3 h4 h5 h6 h7 h8 ih=>exact .fn vs cts h1 h3 h4 h5 h6 (fun i ct c v a1 a2 a3=>ih i ct c v a1 a2 a3 rfl p') h8
 | cp h1 h2 h3 h4 _ ih=>exact .cp h1 h2 h3 (hg _ h4) (ih rfl p')
 | dead=>cases ho
 | fz0 h1 h2=>exact .fz0 h1 h2
 | fz h1 h2 h3 h4 h5 h6 ih=>exact .fz h1 h2 h3 h4 (hg _ h5) fun i t hi=>ih i t hi rfl p'
 | fo0=>cases ho
 | fo=>cases ho
 | own0 h1 h2 h3=>subst ho;simp[O.own] at h2
 | own h1 h2=>subst ho;simp[O.own] at h2
 | st h1 h2 h3 ih=>subst ho;exact .st h1 h2 fun j f t hf ht=>ih j f t hf ht rfl _
theorem Rep.old {E:Env} {w:World} {g:Gh} {ty:Nat} {t:T} {o:O} {r:Nat} {p:List aH} {κ:aE} (h:Rep E w g ty t o r p κ)
  {g':Gh} (ho:o = .fo) (hg : ∀b,g b = .frz→g' b = .frz) (r':Nat) (p':List aH):Rep E w g' ty t .fo r' p' κ:=by
 induction h generalizing p' with
 | int h1 h2=>exact .int h1 h2
 | bool h1 h2=>exact .bool h1 h2
 | str h1 h2=>exact .str h1 h2
 | fn vs cts h1 h3 h4 h5 h6 h7 h8 ih=>exact .fn vs cts h1 h3 h4 h5 h6 (fun i ct c v a1 a2 a3=>(h7 i ct c v a1 a2 a3).frozen rfl hg _ _) h8
 | cp h1 h2 h3 h4 h5=>exact .cp h1 h2 h3 (hg _ h4) (h5.frozen rfl hg _ _)
 | dead=>cases ho
 | fz0=>cases ho
 | fz=>cases ho
 | fo0 h1 h2=>exact .fo0 h1 h2
 | fo h1 h2 h3 h4 h5 h5o h6 ih=>exact .fo h1 h2 h3 h4 (hg _ h5) h5o fun i t hi=>ih i t hi rfl p'
 | own0 h1 h2 h3=>subst ho;simp[O.own] at h2
 | own h1 h2=>subst ho;simp[O.own] at h2
 | st h1 h2 h3 ih=>subst ho;exact .st h1 h2 fun j f t hf ht=>ih j f t hf ht rfl _
theorem Rep.thaw {E:Env} {w:World} {g:Gh} {ty:Nat} {t:T} {o:O} {r:Nat} {p:List aH} {κ:aE} (h:Rep E w g ty t o r p κ)
  (ho:o.isFz=true∨o.isFo=true) (r':Nat) (p':List aH):Rep E w g ty t .fz r' p' κ:=by
 induction h generalizing p' with
 | int h1 h2=>exact .int h1 h2
 | bool h1 h2=>exact .bool h1 h2
 | str h1 h2=>exact .str h1 h2
 | fn vs cts h1 h3 h4 h5 h6 h7 h8 ih=>exact .fn vs cts h1 h3 h4 h5 h6 (fun i ct c v a1 a2 a3=>(h7 i ct c v a1 a2 a3).frozen rfl (fun _ h=>h) _ _) h8
 | cp h1 h2 h3 h4 h5=>exact .cp h1 h2 h3 h4 (h5.frozen rfl (fun _ h=>h) _ _)
 | dead=>simp[O.isFz,O.isFo] at ho
 | fz0 h1 h2=>exact .fz0 h1 h2
 | fz h1 h2 h3 h4 h5 h6 ih=>exact .fz h1 h2 h3 h4 h5 fun i t hi=>ih i t hi ho p'
 | fo0 h1 h2=>exact .fz0 h1 h2
 | fo h1 h2 h3 h4 h5 h5o h6 ih=>exact .fz h1 h2 h3 h4 h5 fun i t hi=>ih i t hi ho p'
 | own0 h1 h2 h3=>rename_i o _ _ _;cases o <;> simp[O.own,O.isFz,O.isFo] at h2 ho
 | own h1 h2=>rename_i o _ _ _ _ _ _ _ _ _ _;cases o <;> simp[O.own,O.isFz,O.isFo] at h2 ho
 | st h1 h2 h3 ih=>
  refine .st h1 h2 fun j f t hf ht=>ih j f t hf ht ?_ _
  rename_i o _ _ _
  cases o <;> simp_all[O.fld,O.isFz,O.isFo]
theorem Rep.move {E:Env} {w:World} {g:Gh} {ty:Nat} {t:T} {o:O} {r:Nat} {p:List aH} {κ:aE} (h:Rep E w g ty t o r p κ)
  {g':Gh} {o':O} {r':Nat} {p':List aH} (hle:O.le o' o=true) (hg:Goes g g' r p o' r' p'):Rep E w g' ty t o' r' p' κ:=by
 by_cases hd:o' = .dead
 ·subst hd;exact .dead
 induction h generalizing o' p' with
 | int h1 h2=>exact .int h1 h2
 | bool h1 h2=>exact .bool h1 h2
 | str h1 h2=>exact .str h1 h2
 | fn vs cts h1 h3 h4 h5 h6 h7 h8 ih=>
  exact .fn vs cts h1 h3 h4 h5 h6 (fun i ct c v a1 a2 a3=>(h7 i ct c v a1 a2 a3).frozen rfl hg.1 _ _) h8
 | cp h1 h2 h3 h4 h5 _=>exact .cp h1 h2 h3 (hg.1 _ h4) (h5.frozen rfl hg.1 _ _)
 | dead=>cases o' <;> simp_all[O.le,O.live,O.geDp,O.own,O.isFo]
 | fz0 h1 h2=>
  cases o' with
  | fz=>exact .fz0 h1 h2
  | dead=>exact absurd rfl hd
  | _=>simp[O.le,O.geDp,O.own,O.isFo] at hle
 | fz h1 h2 h3 h4 h5 h6 ih=>
  cases o' with
  | fz=>exact .fz h1 h2 h3 h4 (hg.1 _ h5) fun i t hi=>(h6 i t hi).frozen rfl hg.1 _ _
  | dead=>exact absurd rfl hd
  | _=>simp[O.le,O.geDp,O.own,O.isFo] at hle
 | fo0 h1 h2=>
  cases o' with
  | fz=>exact .fz0 h1 h2
  | fo=>exact .fo0 h1 h2
  | dead=>exact absurd rfl hd
  | _=>simp[O.le,O.geDp,O.own,O.isFo] at hle
 | fo h1 h2 h3 h4 h5 h5' h6 ih=>
  cases o' with
  | fz=>exact .fz h1 h2 h3 h4 (hg.1 _ h5) fun i t hi=>ih i t hi hle hg hd
  | fo=>exact .fo h1 h2 h3 h4 (hg.1 _ h5) h5' fun i t hi=>ih i t hi hle hg hd
  | dead=>exact absurd rfl hd
  | _=>simp[O.le,O.geDp,O.own,O.isFo] at hle
 | own0 h1 h2 h3=>
  cases o' with
  | fo=>exact (not_fo h2 hle).elim
  | fz=>exact .fz0 h1 h3
  | dp=>exact .own0 h1 rfl h3
  | sl x=>exact .own0 h1 rfl h3
  | dead=>exact absurd rfl hd
  | st as=>simp only[O.le] at hle;split at hle <;> simp_all[O.own]
 | @own ty e es a cap o r p κ h1 h2 h3 h4 h5 h6 h7 h8 ih=>
  have h6':=hg.2 a.block [] (by rw[h6];simp)
  have go : ∀{o₁:O},(o₁.own=true∨o₁ = .fz)→O.le o₁ o=true→Goes g g' r p o₁ r' p'→∀(i:Nat) (t:T),es[i]?=some t→
    Rep E w g' e t o₁.elem r' (p' ++ [.idx i]) (.mem a.block (a.off+i * E.sz e)):=by
   intro o₁ ho₁ hl hg₁ i t hi;by_cases hdd:o₁.elem = .dead
   ·rw[hdd];exact .dead
   ·exact ih i t hi (le_elem hl h2 ho₁) (hg₁.step (.idx i) fun q=>rfl) hdd
  cases o' with
  | fo=>exact (not_fo h2 hle).elim
  | fz=>
   refine .fz h1 h3 h4 h5 (by rw[h6'];rfl) fun i t hi=>?_
   exact (go (.inr rfl) hle hg i t hi).frozen rfl (fun _ h=>h) _ _
  | dp=>exact .own h1 rfl h3 h4 h5 (by rw[h6'];simp[O.get,O.isFz]) h7 (go (.inl rfl) hle hg)
  | sl x=>exact .own h1 rfl h3 h4 h5 (by rw[h6'];simp[O.get,O.isFz]) h7 (go (.inl rfl) hle hg)
  | dead=>exact absurd rfl hd
  | st as=>simp only[O.le] at hle;split at hle <;> simp_all[O.own]
 | st h1 h2 h3 ih=>
  refine .st h1 h2 fun j f t hf ht=>?_
  by_cases hdd:o'.fld j = .dead
  ·rw[hdd];exact .dead
  ·exact ih j f t hf ht (le_fld hle j) (hg.step (.fld j) fun q=>rfl) hdd
inductive Sub (E:Env) (w:World) (g:Gh) (r:Nat):Nat→List aH→aE→List aH→Nat→aE→Prop
 | nil {ty p κ} : Sub E w g r ty p κ [] ty κ
 | fld {ty fs j f p κ q ty' κ'} : E.ty ty = .st fs→fs[j]?=some f→Sub E w g r f (p ++ [.fld j]) (κ.add (off E fs j)) q ty' κ'→
   Sub E w g r ty p κ (.fld j :: q) ty' κ'
 | idx {ty e a len cap i p κ q ty' κ'} : E.ty ty = .sl e→rd w κ=some (.slice (some a) len cap)→i < len→a.spot=none→g a.block = .at r p→
   Sub E w g r e (p ++ [.idx i]) (.mem a.block (a.off+i * E.sz e)) q ty' κ'→Sub E w g r ty p κ (.idx i :: q) ty' κ'
theorem rq {es:List T} {i:Nat} (h:i < es.length):es[i]?=some ((T.sl es).nth i):=by
 simp[T.nth,T.es,h]
theorem jR {ts:List T} {j:Nat} (h:j < ts.length):ts[j]?=some ((T.st ts).fld j):=by
 simp[T.fld,T.fs,h]
theorem jS (q:List aH):O.get .dead q = .dead:=by
 induction q with
 | nil=>rfl
 | cons s q ih=>cases s <;> exact ih
theorem Rep.sub {E:Env} {w:World} {g:Gh} {r:Nat} {ty:Nat} {p:List aH} {κ:aE} {q:List aH} {ty':Nat} {κ':aE}
  (hs:Sub E w g r ty p κ q ty' κ') : ∀{t:T} {o:O},Rep E w g ty t o r p κ→Rep E w g ty' (t.get q) (o.get q) r (p++q) κ':=by
 induction hs with
 | nil=>intro t o h;simpa[T.get,O.get] using h
 | @fld ty fs j f p κ q ty' κ' h1 h2 _ ih=>
  intro t o h;by_cases hd:o = .dead
  ·subst hd;rw[jS];exact .dead
  cases h with
  | st a1 a2 a3=>
   rw[h1] at a1;cases a1;have hj:j < fs.length:=(List.getElem?_eq_some_iff.1 h2).1
   have:=ih (a3 j f _ h2 (jR (by omega)))
   simpa[T.get,O.get] using this
  | dead=>exact absurd rfl hd
  | _=>simp_all
 | @idx ty e a len cap i p κ q ty' κ' h1 h2 h3 h4 h5 _ ih=>
  intro t o h;by_cases hd:o = .dead
  ·subst hd;rw[jS];exact .dead
  cases h with
  | own a1 a2 a3 a4 a5 a6 a7 a8=>
   rw[h1] at a1;cases a1;rw[h2] at a3;cases a3;have:=ih (a8 i _ (rq h3))
   simpa[T.get,O.get] using this
  | fz a1 a2 a3 a4 a5 a6=>rw[h2] at a2;cases a2;rw[h5] at a5;cases a5
  | fo a1 a2 a3 a4 a5 a6 a7=>rw[h2] at a2;cases a2;rw[h5] at a5;cases a5
  | fz0 a1 a2=>rw[h2] at a2;cases a2;omega
  | fo0 a1 a2=>rw[h2] at a2;cases a2;omega
  | own0 a1 a2 a3=>rw[h2] at a3;cases a3
  | dead=>exact absurd rfl hd
  | _=>simp_all
theorem Sub.where {E:Env} {w:World} {g:Gh} (hE:bl E) {r:Nat} {ty:Nat} {p:List aH} {κ:aE} {q:List aH} {ty':Nat} {κ':aE}
  (hs:Sub E w g r ty p κ q ty' κ'):(bj q=true∧∃d,κ'=κ.add d∧d+E.sz ty'≤E.sz ty)∨
   (∃b o q1 i q2,κ' = .mem b o∧g b = .at r (p++q1)∧q=q1 ++ .idx i :: q2):=by
 induction hs with
 | nil=>exact .inl ⟨rfl,0,(aE.add_zero _).symm,by omega⟩
 | @fld ty fs j f p κ q ty' κ' h1 h2 _ ih=>
  rcases ih with ⟨ha,d,h,hd⟩ | ⟨b,o,q1,i,q2,h,hg,hq⟩
  ·refine .inl ⟨ha,off E fs j+d,by rw[h,aE.add_add],?_⟩
   rw[hE.sum _ _ h1];have:=eL (E:=E) h2;omega
  ·exact .inr ⟨b,o,.fld j :: q1,i,q2,h,by rw[hg];simp,by simp[hq]⟩
 | @idx ty e a len cap i p κ q ty' κ' h1 h2 h3 h4 h5 _ ih=>
  rcases ih with ⟨ha,d,h,hd⟩ | ⟨b,o,q1,i',q2,h,hg,hq⟩
  ·exact .inr ⟨_,_,[],i,q,by rw[h];rfl,by simpa using h5,by simp⟩
  ·exact .inr ⟨b,o,.idx i :: q1,i',q2,h,by rw[hg];simp,by simp[hq]⟩
def lx (E:Env):Nat→O→List aH→O→O→Prop
 | _,_,[],x,o'=>o'=x
 | ty,o,.fld j :: q,x,o'=>∃fs,E.ty ty = .st fs∧(∀k,k < fs.length→k≠j→o'.fld k=o.fld k)∧lx E (fs.getD j 0) (o.fld j) q x (o'.fld j)
 | ty,o,.idx _ :: q,x,o'=>∃e,E.ty ty = .sl e∧o'.own=true∧o'.elem=o.elem∧lx E e o.elem q x o.elem
theorem jf {fs:List Nat} {j f:Nat} (h:fs[j]?=some f):fs.getD j 0=f:=by simp[List.getD_eq_getElem?_getD,h]
theorem lx.self {E:Env} {w:World} {g:Gh} {r:Nat} {ty:Nat} {p:List aH} {κ:aE} {q:List aH} {ty':Nat} {κ':aE}
  (hs:Sub E w g r ty p κ q ty' κ') : ∀(o:O),o.way q=true→lx E ty o q (o.get q) o:=by
 induction hs with
 | nil=>intro o _;rfl
 | @fld ty fs j f p κ q ty' κ' h1 h2 _ ih=>
  intro o h;refine ⟨fs,h1,fun _ _ _=>rfl,?_⟩
  rw[jf h2];exact ih (o.fld j) (by cases o <;> simp_all[O.way])
 | @idx ty e a len cap i p κ q ty' κ' h1 h2 h3 h4 h5 _ ih=>
  intro o h;simp only[O.way,Bool.and_eq_true] at h;exact ⟨e,h1,h.1,rfl,ih o.elem h.2⟩
theorem Ca {i i' n d s:Nat} (h:i≠i') (hd:d+s≤n) (m:Nat) (hm:m < n) : ¬(i * n+d≤i' * n+m∧i' * n+m < i * n+d+s):=by
 intro ⟨h1,h2⟩
 rcases Nat.lt_or_gt_of_ne h with hl | hl
 ·have:(i+1) * n≤i' * n:=Nat.mul_le_mul_right n hl
  rw[Nat.succ_mul] at this;omega
 ·have:(i'+1) * n≤i * n:=Nat.mul_le_mul_right n hl
  rw[Nat.succ_mul] at this;omega
theorem rS {s:aH} {q q':List aH} (h : ¬q <+: q') : ¬(s :: q) <+: (s :: q'):=by
 intro hp;exact h ((List.cons_prefix_cons).1 hp).2
theorem Rep.update {E:Env} {w:World} {g:Gh} (hE:bl E) {r:Nat} {ty:Nat} {p:List aH} {κ:aE} {q:List aH} {ty₁:Nat} {κ₁:aE}
  (hs:Sub E w g r ty p κ q ty₁ κ₁) : ∀{b₁ a₁:Nat},κ₁ = .mem b₁ a₁→∀{t t₁:T} {o o₁ o':O} {w':World} {g':Gh},
  Rep E w g ty t o r p κ→o.way q=true→lx E ty o q o₁ o'→Rep E w' g' ty₁ t₁ o₁ r (p++q) κ₁→
  (∀b,(g b = .frz∨∃q',g b = .at r (p++q')∧¬q <+: q')→g' b=g b∧
   (∀n,¬(b=b₁∧a₁≤n∧n < a₁+E.sz ty₁)→w'.cell? ⟨b,n,none⟩=w.cell? ⟨b,n,none⟩)∧∀n,ch w b n→ch w' b n)→
  (∀k,k < E.sz ty→(∀n,κ.add k = .mem b₁ n→¬(a₁≤n∧n < a₁+E.sz ty₁))→rd w' (κ.add k)=rd w (κ.add k))→
  (∀b n,κ = .mem b n→g b≠.frz∧∀q',g b≠.at r (p++q'))→
  Rep E w' g' ty (t.put q t₁) o' r p κ:=by
 induction hs with
 | nil=>
  intro b₁ a₁ hκ t t₁ o o₁ o' w' g' h hw hp hn hb hi hsep;cases hp;simpa[T.put] using hn
 | @fld ty fs j f p κ q ty' κ' h1 h2 hsub ih=>
  intro b₁ a₁ hκ t t₁ o o₁ o' w' g' h hw hp hn hb hi hsep;obtain ⟨fs',hp0,hp1,hp2⟩:=hp;rw[h1] at hp0;cases hp0;rw[jf h2] at hp2;have hj:j < fs.length:=(List.getElem?_eq_some_iff.1 h2).1
  have hwh:=hsub.where hE;cases h with
  | st a1 a2 a3=>
   rw[h1] at a1;cases a1;rename_i ts
   refine .st h1 (by simp[T.fs,a2]) fun k f' t' hf' ht'=>?_
   by_cases hk:k=j
   ·subst hk;rw[h2] at hf';cases hf';simp only[T.fs] at ht';rw[List.getElem?_set_self (by omega)] at ht';cases ht'
    refine ih hκ (a3 k _ _ h2 (jR (by omega))) (by cases o <;> simp_all[O.way]) hp2 (by simpa using hn) ?_ ?_ ?_
    ·intro b hb';refine hb b (hb'.imp id fun ⟨q',hq',hn'⟩=>⟨.fld k :: q',by rw[hq'];simp,rS hn'⟩)
    ·intro m hm hne;rw[aE.add_add] at hne ⊢;exact hi _ (by rw[hE.sum _ _ h1];have:=eL (E:=E) h2;omega) hne
    ·intro b n hbn;cases κ with
     | reg vs x=>simp[aE.add] at hbn
     | mem bb x=>
      simp only[aE.add,aE.mem.injEq] at hbn;obtain ⟨rfl,_⟩:=hbn;obtain ⟨s1,s2⟩:=hsep bb x rfl;exact ⟨s1,fun q' e=>s2 (.fld k :: q') (by rw[e];simp)⟩
   ·simp only[T.fs] at ht';rw[List.getElem?_set_ne (Ne.symm hk)] at ht';rw[hp1 k (List.getElem?_eq_some_iff.1 hf').1 hk];refine (a3 k f' t' hf' ht').frame hE ?_ ?_
    ·intro m hm;rw[aE.add_add];refine hi _ (by rw[hE.sum _ _ h1];have:=eL (E:=E) hf';omega) ?_
     intro n hn' hr;rcases hwh with ⟨_,d,hd,hd'⟩ | ⟨b,o'',q1,i,q2,hm1,hg1,_⟩
     ·rw[hκ,aE.add_add] at hd;cases κ with
      | reg vs x=>simp[aE.add] at hn'
      | mem bb x=>
       simp only[aE.add,aE.mem.injEq] at hn' hd;have o1:=nU (E:=E) h2
       have o2:=nU (E:=E) hf'
       rcases Nat.lt_or_gt_of_ne hk with hlt | hlt
       ·have:=nT (E:=E) (fs:=fs) (i:=k+1) (j:=j) hlt;omega
       ·have:=nT (E:=E) (fs:=fs) (i:=j+1) (j:=k) hlt;omega
     ·cases κ with
      | reg vs x=>simp[aE.add] at hn'
      | mem bb x=>
       simp only[aE.add,aE.mem.injEq] at hn';rw[hκ] at hm1;simp only[aE.mem.injEq] at hm1;obtain ⟨rfl,_⟩:=hn';obtain ⟨rfl,_⟩:=hm1;exact (hsep bb x rfl).2 (.fld j :: q1) (by rw[hg1];simp)
    ·intro b hl;have hset:g b = .frz∨∃q',g b = .at r (p++q')∧¬(.fld j :: q) <+: q':=by
      rcases hl with hl | ⟨q',hl⟩
      ·exact .inl hl
      ·refine .inr ⟨.fld k :: q',by rw[hl];simp,fun hpre=>?_⟩
       have:=((List.cons_prefix_cons).1 hpre).1
       simp only[aH.fld.injEq] at this;exact hk this.symm
     obtain ⟨c1,c2,c3⟩:=hb b hset;refine ⟨⟨fun n=>c2 n fun ⟨e1,e2⟩=>?_,c3⟩,c1⟩
     subst e1;rcases hwh with ⟨_,d,hd,hd'⟩ | ⟨b',o'',q1,i,q2,hm1,hg1,_⟩
     ·rw[hκ,aE.add_add] at hd;cases κ with
      | reg vs x=>simp[aE.add] at hd
      | mem bb x=>
       simp only[aE.add,aE.mem.injEq] at hd;obtain ⟨rfl,_⟩:=hd;obtain ⟨s1,s2⟩:=hsep _ x rfl;rcases hl with hl | ⟨q',hl⟩
       ·exact s1 hl
       ·exact s2 (.fld k :: q') (by rw[hl];simp)
     ·rw[hκ] at hm1;simp only[aE.mem.injEq] at hm1;obtain ⟨rfl,_⟩:=hm1;rcases hl with hl | ⟨q',hl⟩
      ·rw[hg1] at hl;cases hl
      ·rw[hg1] at hl;simp only[Own.at.injEq,true_and,List.append_assoc,List.append_cancel_left_eq,List.singleton_append,List.cons.injEq,aH.fld.injEq] at hl;exact hk hl.1.symm
  | dead=>simp[O.way] at hw
  | _=>simp_all
 | @idx ty e a len cap i p κ q ty' κ' h1 h2 h3 h4 h5 hsub ih=>
  intro b₁ a₁ hκ t t₁ o o₁ o' w' g' h hw hp hn hb hi hsep;obtain ⟨e',hp0,hp1,hp2,hp3⟩:=hp;rw[h1] at hp0;cases hp0;have hwh:=hsub.where hE;simp only[O.way,Bool.and_eq_true] at hw;have hown : ∃q1,g b₁ = .at r (p++q1):=by
   rcases hwh with ⟨_,d,hd,_⟩ | ⟨b',o'',q1,i',q2,hm1,hg1,_⟩
   ·rw[hκ] at hd;simp only[aE.add,aE.mem.injEq] at hd;exact ⟨[],by rw[hd.1];simpa using h5⟩
   ·rw[hκ] at hm1;simp only[aE.mem.injEq] at hm1;exact ⟨.idx i :: q1,by rw[hm1.1,hg1];simp⟩
  cases h with
  | own a1 a2 a3 a4 a5 a6 a7 a8=>
   rw[h1] at a1;cases a1;rw[h2] at a3;cases a3;rename_i es
   have hA:=hb a.block (.inr ⟨[],by simpa using h5,by simp⟩)
   refine .own (a:=a) (cap:=cap) h1 hp1 ?_ a4 (by simpa[T.es] using a5) (by rw[hA.1];exact h5) (hA.2.2 _ a7) fun k t' ht'=>?_
   ·have:=hi 0 (by rw[hE.one _ (by simp[h1])];omega) (fun n hn' _=>?_)
    ·rw[aE.add_zero] at this;rw[this,h2];simp[T.es]
    ·rw[aE.add_zero] at hn';obtain ⟨q1,hq1⟩:=hown;exact (hsep _ _ hn').2 q1 hq1
   ·rw[hp2];simp only[T.es] at ht';by_cases hk:k=i
    ·subst hk;rw[List.getElem?_set_self (by omega)] at ht';cases ht'
     refine ih hκ (a8 k _ (rq h3)) hw.2 hp3 (by simpa using hn) ?_ ?_ ?_
     ·intro b hb';exact hb b (hb'.imp id fun ⟨q',hq',hn'⟩=>⟨.idx k :: q',by rw[hq'];simp,rS hn'⟩)
     ·intro m hm hne;exact hA.2.1 _ fun ⟨e1,e2⟩=>hne (a.off+k * E.sz e+m) (by simp[aE.add,e1]) e2
     ·intro b n hbn;simp only[aE.mem.injEq] at hbn;obtain ⟨rfl,_⟩:=hbn;rw[h5];exact ⟨by simp,fun q' e=>by simp at e⟩
    ·rw[List.getElem?_set_ne (Ne.symm hk)] at ht';refine (a8 k t' ht').frame hE ?_ ?_
     ·intro m hm;refine hA.2.1 _ fun ⟨e1,e2⟩=>?_
      rcases hwh with ⟨_,d,hd,hd'⟩ | ⟨b',o'',q1,i',q2,hm1,hg1,_⟩
      ·rw[hκ] at hd;simp only[aE.add,aE.mem.injEq] at hd;have:=Ca (Ne.symm hk) hd' m hm
       rw[hd.2] at e2;omega
      ·rw[hκ] at hm1;simp only[aE.mem.injEq] at hm1;rw[← hm1.1,← e1,h5] at hg1;simp at hg1
     ·intro b hl;have hset:g b = .frz∨∃q',g b = .at r (p++q')∧¬(.idx i :: q) <+: q':=by
       rcases hl with hl | ⟨q',hl⟩
       ·exact .inl hl
       ·refine .inr ⟨.idx k :: q',by rw[hl];simp,fun hpre=>?_⟩
        have:=((List.cons_prefix_cons).1 hpre).1
        simp only[aH.idx.injEq] at this;exact hk this.symm
      obtain ⟨c1,c2,c3⟩:=hb b hset;refine ⟨⟨fun n=>c2 n fun ⟨e1,e2⟩=>?_,c3⟩,c1⟩
      subst e1;rcases hwh with ⟨_,d,hd,hd'⟩ | ⟨b',o'',q1,i',q2,hm1,hg1,_⟩
      ·rw[hκ] at hd;simp only[aE.add,aE.mem.injEq] at hd;rw[hd.1] at hl;rcases hl with hl | ⟨q',hl⟩
       ·rw[h5] at hl;cases hl
       ·rw[h5] at hl;simp at hl
      ·rw[hκ] at hm1;simp only[aE.mem.injEq] at hm1;obtain ⟨rfl,_⟩:=hm1;rcases hl with hl | ⟨q',hl⟩
       ·rw[hg1] at hl;cases hl
       ·rw[hg1] at hl;simp only[Own.at.injEq,true_and,List.append_assoc,List.append_cancel_left_eq,List.singleton_append,List.cons.injEq,aH.idx.injEq] at hl;exact hk hl.1.symm
  | fz a1 a2 a3 a4 a5 a6=>rw[h2] at a2;cases a2;rw[h5] at a5;cases a5
  | fo a1 a2 a3 a4 a5 a6 a7=>rw[h2] at a2;cases a2;rw[h5] at a5;cases a5
  | fz0 a1 a2=>rw[h2] at a2;cases a2;omega
  | fo0 a1 a2=>rw[h2] at a2;cases a2;omega
  | own0 a1 a2 a3=>rw[h2] at a3;cases a3
  | dead=>simp[O.own] at hw
  | _=>simp_all
theorem Rep.frame_fz {E:Env} (hE:bl E) {w w':World} {g g':Gh} {ty:Nat} {t:T} {r:Nat} {p:List aH} {κ:aE} (h:Rep E w g ty t .fz r p κ)
  (hc : ∀k,k < E.sz ty→rd w' (κ.add k)=rd w (κ.add k)) (hf : ∀b,g b = .frz→aP w w' b∧g' b = .frz) (r':Nat) (p':List aH) :
  Rep E w' g' ty t .fz r' p' κ:=by
 classical
 let g₁:Gh:=fun b=>if g b = .frz then .frz else .free
 have h1:Rep E w g₁ ty t .fz r p κ:=h.frozen rfl (fun b hb=>by simp[g₁,hb]) _ _
 have h2:Rep E w' g₁ ty t .fz r p κ:=h1.frame hE hc fun b hl=>by
  rcases hl with hl | ⟨q,hl⟩
  ·by_cases hb:g b = .frz
   ·exact ⟨(hf b hb).1,rfl⟩
   ·simp[g₁,hb] at hl
  ·by_cases hb:g b = .frz <;> simp[g₁,hb] at hl
 exact h2.frozen rfl (fun b hb=>by
  by_cases hb':g b = .frz
  ·exact (hf b hb').2
  ·simp[g₁,hb'] at hb) _ _
theorem rR {E:Env} : ∀{fs:List Nat} {k:Nat},k < (fs.map E.sz).sum→∃j f,fs[j]?=some f∧off E fs j≤k∧k < off E fs j+E.sz f:=by
 intro fs;induction fs with
 | nil=>intro k h;simp at h
 | cons f fs ih=>
  intro k h;simp only[List.map_cons,List.sum_cons] at h;by_cases hk:k < E.sz f
  ·exact ⟨0,f,rfl,by simp[off],by simpa[off] using hk⟩
  ·obtain ⟨j,f',hj,h1,h2⟩:=ih (k:=k - E.sz f) (by omega)
   refine ⟨j+1,f',by simpa using hj,?_,?_⟩ <;> simp only[off,List.take_succ_cons,List.map_cons,List.sum_cons] at * <;> omega
theorem Rep.cells {E:Env} (hE:bl E) {w:World} {g:Gh} {ty:Nat} {t:T} {o:O} {r:Nat} {p:List aH} {κ:aE} (h:Rep E w g ty t o r p κ) :
  o.live=true→∀k,k < E.sz ty→∃v,rd w (κ.add k)=some v∧v.cells = #[v]:=by
 induction h with
 | int h1 h2=>
  intro _ k hk;rw[hE.one _ (by simp[h1])] at hk;obtain rfl:k=0:=by omega
  exact ⟨_,by rw[aE.add_zero];exact h2,rfl⟩
 | bool h1 h2=>
  intro _ k hk;rw[hE.one _ (by simp[h1])] at hk;obtain rfl:k=0:=by omega
  exact ⟨_,by rw[aE.add_zero];exact h2,rfl⟩
 | str h1 h2=>
  intro _ k hk;rw[hE.one _ (by simp[h1])] at hk;obtain rfl:k=0:=by omega
  exact ⟨_,by rw[aE.add_zero];exact h2,rfl⟩
 | fn vs cts h1 h3 h4 h5 h6=>
  intro _ k hk;rw[hE.one _ (by simp[h1])] at hk;obtain rfl:k=0:=by omega
  exact ⟨_,by rw[aE.add_zero];exact h6,rfl⟩
 | cp h1 h2=>
  intro _ k hk;rw[hE.one _ (by simp[h1])] at hk;obtain rfl:k=0:=by omega
  exact ⟨_,by rw[aE.add_zero];exact h2,rfl⟩
 | dead=>intro h;simp[O.live] at h
 | fz0 h1 h2=>
  intro _ k hk;rw[hE.one _ (by simp[h1])] at hk;obtain rfl:k=0:=by omega
  exact ⟨_,by rw[aE.add_zero];exact h2,rfl⟩
 | fo0 h1 h2=>
  intro _ k hk;rw[hE.one _ (by simp[h1])] at hk;obtain rfl:k=0:=by omega
  exact ⟨_,by rw[aE.add_zero];exact h2,rfl⟩
 | fz h1 h2=>
  intro _ k hk;rw[hE.one _ (by simp[h1])] at hk;obtain rfl:k=0:=by omega
  exact ⟨_,by rw[aE.add_zero];exact h2,rfl⟩
 | fo h1 h2=>
  intro _ k hk;rw[hE.one _ (by simp[h1])] at hk;obtain rfl:k=0:=by omega
  exact ⟨_,by rw[aE.add_zero];exact h2,rfl⟩
 | own0 h1 _ h2=>
  intro _ k hk;rw[hE.one _ (by simp[h1])] at hk;obtain rfl:k=0:=by omega
  exact ⟨_,by rw[aE.add_zero];exact h2,rfl⟩
 | own h1 _ h2=>
  intro _ k hk;rw[hE.one _ (by simp[h1])] at hk;obtain rfl:k=0:=by omega
  exact ⟨_,by rw[aE.add_zero];exact h2,rfl⟩
 | @st ty fs ts o r p κ h1 h2 h3 ih=>
  intro hl k hk;rw[hE.sum _ _ h1] at hk;obtain ⟨j,f,hj,a1,a2⟩:=rR hk;have hj':=(List.getElem?_eq_some_iff.1 hj).1;obtain ⟨v,hv,hv'⟩:=ih j f _ hj (jR (by omega)) (nR hl j) (k - off E fs j) (by omega)
  rw[aE.add_add,Nat.add_sub_cancel' a1] at hv;exact ⟨v,hv,hv'⟩
def Plain (v:Value):Prop:=(∃k n,v = .int k n)∨(∃b,v = .bool b)∨∃s,v = .string s
theorem Rep.plain {E:Env} (hE:bl E) {w:World} {g:Gh} {ty:Nat} {t:T} {o:O} {r:Nat} {p:List aH} {κ:aE} (h:Rep E w g ty t o r p κ) :
  o.live=true→E.flat ty=true→∀k,k < E.sz ty→∃v,rd w (κ.add k)=some v∧Plain v:=by
 induction h with
 | int h1 h2=>
  intro _ _ k hk;rw[hE.one _ (by simp[h1])] at hk;obtain rfl:k=0:=by omega
  exact ⟨_,by rw[aE.add_zero];exact h2,.inl ⟨_,_,rfl⟩⟩
 | bool h1 h2=>
  intro _ _ k hk;rw[hE.one _ (by simp[h1])] at hk;obtain rfl:k=0:=by omega
  exact ⟨_,by rw[aE.add_zero];exact h2,.inr (.inl ⟨_,rfl⟩)⟩
 | str h1 h2=>
  intro _ _ k hk;rw[hE.one _ (by simp[h1])] at hk;obtain rfl:k=0:=by omega
  exact ⟨_,by rw[aE.add_zero];exact h2,.inr (.inr ⟨_,rfl⟩)⟩
 | fn vs cts h1 h3 h4 h5 h6=>intro _ h;rw[hE.flat_fn _ _ _ h1] at h;cases h
 | cp h1 h2=>intro _ h;rw[hE.flat_cp _ _ h1] at h;cases h
 | dead=>intro h;simp[O.live] at h
 | fz0 h1 h2=>intro _ h;rw[hE.flat_sl _ _ h1] at h;cases h
 | fo0 h1 h2=>intro _ h;rw[hE.flat_sl _ _ h1] at h;cases h
 | fz h1 h2=>intro _ h;rw[hE.flat_sl _ _ h1] at h;cases h
 | fo h1 h2=>intro _ h;rw[hE.flat_sl _ _ h1] at h;cases h
 | own0 h1 _ h2=>intro _ h;rw[hE.flat_sl _ _ h1] at h;cases h
 | own h1 _ h2=>intro _ h;rw[hE.flat_sl _ _ h1] at h;cases h
 | @st ty fs ts o r p κ h1 h2 h3 ih=>
  intro hl hf k hk;rw[hE.sum _ _ h1] at hk;obtain ⟨j,f,hj,a1,a2⟩:=rR hk;have hj':=(List.getElem?_eq_some_iff.1 hj).1;obtain ⟨v,hv,hv'⟩:=ih j f _ hj (jR (by omega)) (nR hl j) (hE.flat_st _ _ h1 hf f (List.mem_of_getElem? hj)) (k - off E fs j) (by omega)
  rw[aE.add_add,Nat.add_sub_cancel' a1] at hv;exact ⟨v,hv,hv'⟩
theorem Rep.flat {E:Env} (hE:bl E) {w:World} {g:Gh} {ty:Nat} {t:T} {o:O} {r:Nat} {p:List aH} {κ:aE} (h:Rep E w g ty t o r p κ)
  {w':World} {g':Gh} {o':O} {r':Nat} {p':List aH} {κ':aE} :
  o.live=true→E.flat ty=true→(∀k,k < E.sz ty→rd w' (κ'.add k)=rd w (κ.add k))→Rep E w' g' ty t o' r' p' κ':=by
 induction h generalizing o' p' κ' with
 | int h1 h2=>intro _ _ hk;exact .int h1 (by have:=hk 0 (by rw[hE.one _ (by simp[h1])];omega);rw[aE.add_zero,aE.add_zero] at this;rw[this];exact h2)
 | bool h1 h2=>intro _ _ hk;exact .bool h1 (by have:=hk 0 (by rw[hE.one _ (by simp[h1])];omega);rw[aE.add_zero,aE.add_zero] at this;rw[this];exact h2)
 | str h1 h2=>intro _ _ hk;exact .str h1 (by have:=hk 0 (by rw[hE.one _ (by simp[h1])];omega);rw[aE.add_zero,aE.add_zero] at this;rw[this];exact h2)
 | fn vs cts h1 h3 h4 h5 h6=>intro _ h;rw[hE.flat_fn _ _ _ h1] at h;cases h
 | cp h1 h2=>intro _ h;rw[hE.flat_cp _ _ h1] at h;cases h
 | dead=>intro h;simp[O.live] at h
 | fz0 h1 h2=>intro _ h;rw[hE.flat_sl _ _ h1] at h;cases h
 | fo0 h1 h2=>intro _ h;rw[hE.flat_sl _ _ h1] at h;cases h
 | fz h1 h2=>intro _ h;rw[hE.flat_sl _ _ h1] at h;cases h
 | fo h1 h2=>intro _ h;rw[hE.flat_sl _ _ h1] at h;cases h
 | own0 h1 _ h2=>intro _ h;rw[hE.flat_sl _ _ h1] at h;cases h
 | own h1 _ h2=>intro _ h;rw[hE.flat_sl _ _ h1] at h;cases h
 | st h1 h2 h3 ih=>
  intro hl hf hk;refine .st h1 h2 fun j f t hj ht=>ih j f t hj ht (nR hl j) (hE.flat_st _ _ h1 hf f (List.mem_of_getElem? hj)) fun k hk'=>?_
  rw[aE.add_add,aE.add_add];exact hk _ (by rw[hE.sum _ _ h1];have:=eL (E:=E) hj;omega)
theorem zn {flat:Nat→Bool} {tys:Nat→Ty} {o:O} : ∀{as:List O} {fs:List Nat} {j:Nat},lesX flat tys as fs o j=true→
  as.length=fs.length∧∀(i:Nat) (a:O) (f:Nat),as[i]?=some a→fs[i]?=some f→leX flat tys a f (o.fld (j+i))=true
 | [],[],_,_=>⟨rfl,fun i a f h=>by simp at h⟩
 | [],_ :: _,_,h=>by simp[lesX] at h
 | _ :: _,[],_,h=>by simp[lesX] at h
 | a :: as,f :: fs,j,h=>by
  simp only[lesX,Bool.and_eq_true] at h;obtain ⟨i1,i2⟩:=zn h.2;refine ⟨by simp[i1],fun i a' f' ha hf=>?_⟩
  cases i with
  | zero=>simp at ha hf;subst ha;subst hf;exact h.1
  | succ i=>
   have:=i2 i a' f' (by simpa using ha) (by simpa using hf)
   rwa [show j+1+i=j+(i+1) by omega] at this
theorem Rep.moveX {E:Env} (hE:bl E) {w:World} {g g':Gh} {r r':Nat} : ∀(o':O) {ty:Nat} {t:T} {o:O} {p p':List aH} {κ:aE},Rep E w g ty t o r p κ→
  leX E.flat E.ty o' ty o=true→Goes g g' r p o' r' p'→Rep E w g' ty t o' r' p' κ
 | .fz,ty,t,o,p,p',κ,h,hle,hg=>h.move (by simpa[O.le,leX] using hle) hg
 | .fo,ty,t,o,p,p',κ,h,hle,hg=>by
  simp only[leX,Bool.or_eq_true,Bool.and_eq_true] at hle;rcases hle with h' | ⟨h1,h2⟩
  ·exact h.move (by simpa[O.le] using h') hg
  ·exact h.flat hE h2 h1 fun _ _=>rfl
 | .dead,ty,t,o,p,p',κ,h,hle,hg=>.dead
 | .dp,ty,t,o,p,p',κ,h,hle,hg=>by
  simp only[leX,Bool.or_eq_true,Bool.and_eq_true] at hle;rcases hle with h' | ⟨h1,h2⟩
  ·exact h.move (by simpa[O.le] using h') hg
  ·exact h.flat hE h2 h1 fun _ _=>rfl
 | .sl a,ty,t,o,p,p',κ,h,hle,hg=>by
  simp only[leX] at hle;cases h with
  | own0 h1 h2 h3=>exact .own0 h1 rfl h3
  | own h1 h2 h3 h4 h5 h6 h7 h8=>
   simp only[h1,Bool.and_eq_true] at hle;have h6':=hg.2 _ [] (by rw[h6];simp)
   exact .own h1 rfl h3 h4 h5 (by rw[h6'];simp[O.get,O.isFz]) h7 fun i t hi=>Rep.moveX hE a (h8 i t hi) hle.2 (hg.step (.idx i) fun q=>rfl)
  | dead=>split at hle <;> simp[O.own] at hle
  | int h1=>simp[h1] at hle
  | bool h1=>simp[h1] at hle
  | str h1=>simp[h1] at hle
  | fn _ _ h1=>simp[h1] at hle
  | cp h1=>simp[h1] at hle
  | fz0 h1=>simp[h1,O.own] at hle
  | fo0 h1=>simp[h1,O.own] at hle
  | fz h1=>simp[h1,O.own] at hle
  | fo h1=>simp[h1,O.own] at hle
  | st h1=>simp[h1] at hle
 | .st as,ty,t,o,p,p',κ,h,hle,hg=>by
  simp only[leX] at hle;cases h with
  | st h1 h2 h3=>
   simp only[h1,Bool.and_eq_true] at hle;obtain ⟨l1,l2⟩:=zn hle.2;refine .st h1 h2 fun j f t hf ht=>?_
   have hj:j < as.length:=by rw[l1];exact (List.getElem?_eq_some_iff.1 hf).1
   have hfj:(O.st as).fld j=as[j]:=by simp[O.fld,hj]
   have:=l2 j as[j] f (List.getElem?_eq_getElem hj) hf
   rw[Nat.zero_add] at this;rw[hfj];exact Rep.moveX hE as[j] (h3 j f t hf ht) this (hg.step (.fld j) fun q=>by simp only[O.get];rw[hfj])
  | dead=>split at hle <;> simp[O.isDead] at hle
  | int h1=>simp[h1] at hle
  | bool h1=>simp[h1] at hle
  | str h1=>simp[h1] at hle
  | fn _ _ h1=>simp[h1] at hle
  | cp h1=>simp[h1] at hle
  | fz0 h1=>simp[h1] at hle
  | fo0 h1=>simp[h1] at hle
  | fz h1=>simp[h1] at hle
  | fo h1=>simp[h1] at hle
  | own0 h1=>simp[h1] at hle
  | own h1=>simp[h1] at hle
termination_by o'=>SizeOf.sizeOf o'
decreasing_by
 all_goals simp_wf
 all_goals first
  | omega
  | (have:=List.sizeOf_lt_of_mem (List.getElem_mem hj);omega)
theorem Rep.moveT {E:Env} (hE:bl E) {w:World} {g g':Gh} {r r':Nat} {o':O} {ty:Nat} {t:T} {o:O} {p p':List aH} {κ:aE} (h:Rep E w g ty t o r p κ)
  (hle:leT E o' ty o=true) (hg:Goes g g' r p o' r' p'):Rep E w g' ty t o' r' p' κ:=by
 unfold leT at hle;rcases Bool.or_eq_true _ _ ▸ hle with h' | h'
 ·exact h.move h' hg
 ·exact h.moveX hE o' h' hg
theorem Sub.frame {E:Env} (hE:bl E) {w w':World} {g g':Gh} {r:Nat} {ty:Nat} {p:List aH} {κ:aE} {q:List aH} {ty':Nat} {κ':aE}
  (h:Sub E w g r ty p κ q ty' κ'):(∀k,k < E.sz ty→rd w' (κ.add k)=rd w (κ.add k))→(∀b,(∃q,g b = .at r (p++q))→aP w w' b∧g' b=g b)→
  Sub E w' g' r ty p κ q ty' κ'∧∀k,k < E.sz ty'→rd w' (κ'.add k)=rd w (κ'.add k):=by
 induction h with
 | nil=>intro hc hb;exact ⟨.nil,hc⟩
 | fld h1 h2 _ ih=>
  intro hc hb;obtain ⟨i1,i2⟩:=ih (fun k hk=>by rw[aE.add_add];exact hc _ (by rw[hE.sum _ _ h1];have:=eL (E:=E) h2;omega))
   (fun b ⟨q,hq⟩=>hb b ⟨_ :: q,by rw[hq];simp;rfl⟩)
  exact ⟨.fld h1 h2 i1,i2⟩
 | idx h1 h2 h3 h4 h5 _ ih=>
  intro hc hb;have hA:=hb _ ⟨[],by rw[h5];simp⟩
  obtain ⟨i1,i2⟩:=ih (fun k _=>hA.1.1 _) (fun b ⟨q,hq⟩=>hb b ⟨_ :: q,by rw[hq];simp;rfl⟩)
  exact ⟨.idx h1 (by rw[← h2];simpa[aE.add_zero] using hc 0 (by rw[hE.one _ (by simp[h1])];omega)) h3 h4 (by rw[hA.2,h5]) i1,i2⟩
def jt (w:World) (g:Gh) (hold:Nat→aE) (w':World) (g':Gh) (hold':Nat→aE) (r:Nat):Prop:=
 hold' r=hold r∧∀b,(g b = .hd r∨∃q,g b = .at r q)→aP w w' b∧g' b=g b
def HdRel (w:World) (κ:aE) (v:Value):Prop:=∀b o0 n0 c0 o n c,rd w κ=some (.slice (some ⟨b,o0,none⟩) n0 c0)→v = .slice (some ⟨b,o,none⟩) n c→o=o0∧n0≤n
theorem Rep.isSl {E:Env} {w:World} {g:Gh} {ty:Nat} {t:T} {o:O} {r:Nat} {p:List aH} {A:Option Addr} {n c:Nat}
  (h:Rep E w g ty t o r p (.reg (Value.slice A n c).cells.toList 0)) (hs:bd E ty (.slice A n c)) (ho:o.live=true) : ∃e,E.ty ty = .sl e:=by
 have hc:=hs.2;cases h with
 | own0 q _ _=>exact ⟨_,q⟩
 | own q _ _ _ _ _ _ _=>exact ⟨_,q⟩
 | fz0 q _=>exact ⟨_,q⟩
 | fo0 q _=>exact ⟨_,q⟩
 | fz q _ _ _ _ _=>exact ⟨_,q⟩
 | fo q _ _ _ _ _o _=>exact ⟨_,q⟩
 | int _ q=>simp[rd,Value.cells] at q
 | bool _ q=>simp[rd,Value.cells] at q
 | str _ q=>simp[rd,Value.cells] at q
 | fn _ _ _ _ _ _ q=>simp[rd,Value.cells] at q
 | cp _ q=>simp[rd,Value.cells] at q
 | dead=>simp[O.live] at ho
 | st q _ _=>simp[q] at hc
structure dF (E:Env) (w:World) (g:Gh) (hold:Nat→aE) (r:Nat) (R:Rt):Prop where
 rep:Rep E w g R.ty R.t R.o r [] (hold r)
 box:R.box=true→∃b o,hold r = .mem b o∧g b = .hd r∧ch w b (o+E.sz R.ty)
 reg:R.box=false→∃vs,hold r = .reg vs 0
inductive aO (E:Env) (w:World) (g:Gh) (rt:Nat→Option Rt) (hold:Nat→aE):AV→Value→Prop
 | undef {v} : aO E w g rt hold .undef v
 | val {ty t v} : Rep E w g ty t .fz 0 [] (.reg v.cells.toList 0)→bd E ty v→aO E w g rt hold (.val ty t) v
 | cst {v} : aO E w g rt hold (.cst v) v
 | nil {ty e} : E.ty ty = .sl e→aO E w g rt hold (.nil ty) (.slice none 0 0)
 | fnc {f} : aO E w g rt hold (.fnc f) (.func (.func f) #[] #[])
 | gd {b a v} : (b=true→aO E w g rt hold a v)→(b=false→v=Go.undef)→aO E w g rt hold (.gd b a) v
 | sref {ty e r p A n c R κ} : rt r=some R→E.ty ty = .sl e→Sub E w g r R.ty [] (hold r) p ty κ→rd w κ=some (.slice A n c)→
   aO E w g rt hold (.sref ty r p) (.slice A n c)
 | sub {ty e r p lo hi A len cap A' cap' R κ} : rt r=some R→E.ty ty = .sl e→Sub E w g r R.ty [] (hold r) p ty κ→rd w κ=some (.slice A len cap)→
   lo≤hi→hi≤len→hi - lo≤cap'→lo+cap'≤cap→
   ((A=none∧A'=none)∨∃b x y,A=some ⟨b,x,none⟩∧A'=some ⟨b,y,none⟩∧y≤x+lo * E.sz e∧(cap'=0∨y=x+lo * E.sz e))→
   aO E w g rt hold (.sub ty r p lo hi) (.slice A' (hi - lo) cap')
 | pref {ty r p b o R} : rt r=some R→Sub E w g r R.ty [] (hold r) p ty (.mem b o)→aO E w g rt hold (.pref ty r p) (.pointer (some ⟨b,o,none⟩))
 | pv {ty a v b o} : aO E w g rt hold a v→bd E ty v→g b = .frz→(∀k,k < E.sz ty→w.cell? ⟨b,o+k,none⟩=v.cells[k]?)→aO E w g rt hold (.pv ty a) (.pointer (some ⟨b,o,none⟩))
 | alt {ty r p t v R κ} : rt r=some R→bd E ty v→(R.o.get p).live=true→Sub E w g r R.ty [] (hold r) p ty κ→Rep E w g ty t (R.o.get p) r p (.reg v.cells.toList 0)→HdRel w κ v→
   aO E w g rt hold (.alt ty r p t) v
 | row {ty e d t a va b o c R} : rt d=some R→E.ty ty = .sl e→t.es.length+1≤c→g b = .at d []→ch w b (o+c * E.sz e)→
   (∀(i:Nat) (t':T),t.es[i]?=some t'→Rep E w g e t' .fz 0 [] (.mem b (o+i * E.sz e)))→bd E e va→aO E w g rt hold a va→
   (∀k,k < E.sz e→w.cell? ⟨b,o+t.es.length * E.sz e+k,none⟩=va.cells[k]?)→aO E w g rt hold (.row ty d t a) (.slice (some ⟨b,o,none⟩) (t.es.length+1) c)
 | ln {ty n A c} : n≤c→aO E w g rt hold (.ln ty n) (.slice A n c)
 | fptr {ty t a} : a.spot=none→g a.block = .frz→Rep E w g ty t .fz 0 [] (.mem a.block a.off)→aO E w g rt hold (.fptr ty t) (.pointer (some a))
 | agg {ty fs l} {vs:List Value} : E.ty ty = .st fs→l.length=fs.length→vs.length=fs.length→
   (∀(j:Nat) (a:AV) (v:Value),l[j]?=some a→vs[j]?=some v→aO E w g rt hold a v)→
   (∀(j f:Nat) (v:Value),fs[j]?=some f→vs[j]?=some v→bd E f v)→aO E w g rt hold (.agg ty l) (.agg (vs.flatMap fun v=>v.cells.toList).toArray)
 | tup {l} {vs:List Value} : l.length=vs.length→(∀(j:Nat) (a:AV) (v:Value),l[j]?=some a→vs[j]?=some v→aO E w g rt hold a v)→
   aO E w g rt hold (.tup l) (.tuple vs.toArray)
def hU (E:Env) (w:World) (g:Gh) (rt:Nat→Option Rt) (hold:Nat→aE) (w':World) (g':Gh) (rt':Nat→Option Rt) (hold':Nat→aE) (ks:Ks):Prop:=
 ∀r R,rt r=some R→
  (∀p ty e κ v,E.ty ty = .sl e→Sub E w g r R.ty [] (hold r) p ty κ→rd w κ=some v→(∃A n c,v = .slice A n c)→cb ks r p=false→
   ∃R' κ',rt' r=some R'∧Sub E w' g' r R'.ty [] (hold' r) p ty κ'∧rd w' κ'=some v)∧
  (∀p ty b o,Sub E w g r R.ty [] (hold r) p ty (.mem b o)→cD ks r p=false→
   ∃R',rt' r=some R'∧Sub E w' g' r R'.ty [] (hold' r) p ty (.mem b o))∧
  (dg ks r=false→rt' r=some R∧jt w g hold w' g' hold' r∧∀k,rd w' ((hold r).add k)=rd w ((hold r).add k))
theorem wL (ks:Ks) : ∀l,AV.cutL ks l=l.map (AV.cut ks)
 | []=>rfl
 | a :: l=>by simp[AV.cutL,wL ks l]
theorem aO.cut {E:Env} (hE:bl E) {w w':World} {g g':Gh} {rt rt':Nat→Option Rt} {hold hold':Nat→aE} {ks:Ks}
  (hf : ∀b,g b = .frz→aP w w' b∧g' b = .frz) (hs:hU E w g rt hold w' g' rt' hold' ks) {a:AV} {v:Value} (h:aO E w g rt hold a v) :
  aO E w' g' rt' hold' (a.cut ks) v:=by
 induction h with
 | undef=>exact .undef
 | val h1 h2=>exact .val (h1.frame_fz (w':=w') hE (fun _ _=>rfl) hf _ _) h2
 | cst=>exact .cst
 | nil h=>exact .nil h
 | fnc=>exact .fnc
 | gd _ h2 ih=>exact .gd ih h2
 | @sref ty e r p A n c R κ h1 h2 h3 h4=>
  simp only[AV.cut];cases hd:cb ks r p with
  | true=>exact .undef
  | false=>
   obtain ⟨R',κ',a1,a2,a3⟩:=(hs _ _ h1).1 _ _ _ _ _ h2 h3 h4 ⟨_,_,_,rfl⟩ hd;exact .sref a1 h2 a2 a3
 | @sub ty e r p lo hi A len cap A' cap' R κ h1 h2 h3 h4 h5 h6 h7 h8 h9=>
  simp only[AV.cut];cases hd:cb ks r p with
  | true=>exact .undef
  | false=>
   obtain ⟨R',κ',a1,a2,a3⟩:=(hs _ _ h1).1 _ _ _ _ _ h2 h3 h4 ⟨_,_,_,rfl⟩ hd;exact .sub a1 h2 a2 a3 h5 h6 h7 h8 h9
 | @pref ty r p b o R h1 h2=>
  simp only[AV.cut];cases hd:cD ks r p with
  | true=>exact .undef
  | false=>
   obtain ⟨R',a1,a2⟩:=(hs _ _ h1).2.1 _ _ _ _ h2 hd;exact .pref a1 a2
 | pv _ h2 h3 h4 ih=>exact .pv ih h2 (hf _ h3).2 fun k hk=>by rw[(hf _ h3).1.1];exact h4 k hk
 | @alt ty r p t v R κ h1 h2 h3 h4 h5 h6=>
  simp only[AV.cut];cases hd:dg ks r with
  | true=>exact .undef
  | false=>
   obtain ⟨a1,a2,a3⟩:=(hs _ _ h1).2.2 hd;obtain ⟨s1,s2⟩:=h4.frame hE (fun k _=>a3 k) fun b ⟨q,hq⟩=>a2.2 b (.inr ⟨q,by simpa using hq⟩)
   refine .alt a1 h2 h3 (κ:=κ) (by rw[a2.1];exact s1) (h5.frame hE (fun _ _=>rfl) fun b hl=>?_) fun b o0 n0 c0 o n c e1 e2=>?_
   ·rcases hl with hl | ⟨q,hl⟩
    ·obtain ⟨c1,c2⟩:=hf b hl;exact ⟨c1,by rw[c2,hl]⟩
    ·exact a2.2 b (.inr ⟨_,hl⟩)
   ·subst e2;refine h6 b o0 n0 c0 o n c ?_ rfl;have hz : ∃e,E.ty ty = .sl e:=h5.isSl h2 h3
    obtain ⟨e,he⟩:=hz;have:=s2 0 (by rw[hE.one _ (by simp[he])];omega)
    rw[aE.add_zero] at this;rw[← this];exact e1
 | @row ty e d t a va b o c R h1 h2 h3 h4 h5 h6 h7 h8 h9 ih=>
  simp only[AV.cut];cases hd:dg ks d with
  | true=>exact .undef
  | false=>
   obtain ⟨a1,a2,_⟩:=(hs _ _ h1).2.2 hd;obtain ⟨c1,c2⟩:=a2.2 b (.inr ⟨[],h4⟩);exact .row a1 h2 h3 (by rw[c2,h4]) (c1.2 _ h5) (fun i t' hi=>(h6 i t' hi).frame_fz hE (fun k _=>c1.1 _) hf _ _) h7 ih fun k hk=>by rw[c1.1];exact h9 k hk
 | ln h=>exact .ln h
 | fptr h1 h2 h3=>exact .fptr h1 (hf _ h2).2 (h3.frame_fz hE (fun k _=>(hf _ h2).1.1 _) hf _ _)
 | agg h1 h2 h3 h4 h5 ih=>
  simp only[AV.cut,wL];refine .agg h1 (by simpa using h2) h3 (fun j a v ha hv=>?_) h5
  simp only[List.getElem?_map,Option.map_eq_some_iff] at ha;obtain ⟨a',ha',rfl⟩:=ha;exact ih j a' v ha' hv
 | tup h1 h2 ih=>
  simp only[AV.cut,wL];refine .tup (by simpa using h1) (fun j a v ha hv=>?_)
  simp only[List.getElem?_map,Option.map_eq_some_iff] at ha;obtain ⟨a',ha',rfl⟩:=ha;exact ih j a' v ha' hv
structure Stp (w:World) (g:Gh) (w':World) (g':Gh):Prop where
 os:w'.os=w.os
 tape:w'.tape=w.tape
 output:w'.output=w.output
 size:w.heap.size≤w'.heap.size
 keep : ∀b,b < w.heap.size→(g b = .free∨g b = .frz)→w'.heap[b]?=w.heap[b]?∧g' b=g b
theorem Stp.refl (w:World) (g:Gh):Stp w g w g:=⟨rfl,rfl,rfl,Nat.le_refl _,fun _ _ _=>⟨rfl,rfl⟩⟩
theorem Stp.trans {w w' w'':World} {g g' g'':Gh} (h:Stp w g w' g') (h':Stp w' g' w'' g''):Stp w g w'' g'':=
 ⟨h'.os.trans h.os,h'.tape.trans h.tape,h'.output.trans h.output,Nat.le_trans h.size h'.size,fun b hb hg=>by
  obtain ⟨a1,a2⟩:=h.keep b hb hg;obtain ⟨b1,b2⟩:=h'.keep b (Nat.lt_of_lt_of_le hb h.size) (by rw[a2];exact hg)
  exact ⟨b1.trans a1,b2.trans a2⟩⟩
theorem Stp.drew (w:World) (g:Gh):Stp w g { w with drawn:=w.drawn+1 } g:=⟨rfl,rfl,rfl,Nat.le_refl _,fun _ _ _=>⟨rfl,rfl⟩⟩
def Kn (E:Env) (w:World) (g:Gh):Prop:=(∀b cs,(b,cs)∈E.tab→g b = .frz∧∀o,w.cell? ⟨b,o,none⟩=cs[o]?)∧∀b,b < E.old→g b = .frz
theorem Kn.step {E:Env} {w w':World} {g g':Gh} (h:Kn E w g) (hf : ∀b,g b = .frz→aP w w' b∧g' b = .frz):Kn E w' g':=
 ⟨fun b cs hb=>by
  obtain ⟨h1,h2⟩:=h.1 b cs hb;exact ⟨(hf b h1).2,fun o=>((hf b h1).1.1 o).trans (h2 o)⟩,fun b hb=>(hf b (h.2 b hb)).2⟩
structure Inv (E:Env) (n:Nat) (st:St) (a:Act) (w:World) (g:Gh) (hold:Nat→aE):Prop where
 size:a.tmps.size=n
 defers:a.defers = []
 tms : ∀t,aO E w g st.rt hold (st.tm t) (a.tmps.getD t undef)
 rts : ∀r R,st.rt r=some R→dF E w g hold r R
 bnd : ∀b,g b≠.free→b < w.heap.size
 kn:Kn E w g
theorem Inv.opd {E:Env} {n:Nat} {st:St} {a:Act} {w:World} {g:Gh} {hold:Nat→aE} (h:Inv E n st a w g hold) (x:Operand) :
  aO E w g st.rt hold (opd st x) (a.eval x):=by
 cases x with
 | tmp t=>exact h.tms t
 | const v=>exact .cst
 | func f=>exact .fnc
 | global g=>exact .undef
theorem jd : ∀(a:AV),a.cut []=a
 | .gd b a=>by simp[AV.cut,jd a]
 | .sref _ _ _=>rfl
 | .sub _ _ _ _ _=>rfl
 | .pref _ _ _=>rfl
 | .alt _ _ _ _=>rfl
 | .row ty d t a=>by simp[AV.cut,dg,aJ,jd a]
 | .agg ty l=>by
  have:AV.cutL [] l=l:=cut_nils l
  simp[AV.cut,this]
 | .tup l=>by
  have:AV.cutL [] l=l:=cut_nils l
  simp[AV.cut,this]
 | .undef=>rfl
 | .val _ _=>rfl
 | .cst _=>rfl
 | .nil _=>rfl
 | .fnc _=>rfl
 | .fptr _ _=>rfl
 | .ln _ _=>rfl
 | .pv ty a=>by simp[AV.cut,jd a]
where cut_nils : ∀(l:List AV),AV.cutL [] l=l
 | []=>rfl
 | a :: l=>by simp[AV.cutL,jd a,cut_nils l]
theorem Inv.apply {E:Env} (hE:bl E) {n:Nat} {st:St} {a:Act} {w:World} {g:Gh} {hold:Nat→aE} (h:Inv E n st a w g hold)
  {d:Option Nat} {u:Upd} {v:Value} {w':World} {g':Gh} {hold':Nat→aE}
  (hd : ∀x,d=some x→x < n) (hf : ∀b,g b = .frz→aP w w' b∧g' b = .frz)
  (hs:hU E w g st.rt hold w' g' (aX d u st).rt hold' u.ks)
  (hr : ∀r R,(aX d u st).rt r=some R→dF E w' g' hold' r R) (hb : ∀b,g' b≠.free→b < w'.heap.size)
  (hv:d.isSome=true→aO E w' g' (aX d u st).rt hold' u.av v):Inv E n (aX d u st) (a.put d v) w' g' hold':=by
 have hcut : ∀t,aO E w' g' (aX d u st).rt hold' (bif u.ks.isEmpty then st.tm t else (st.tm t).cut u.ks) (a.tmps.getD t undef):=by
  intro t;have:=(h.tms t).cut hE hf hs
  cases hk:u.ks.isEmpty with
  | false=>exact this
  | true=>rw[List.isEmpty_iff.1 hk,jd] at this;exact this
 refine ⟨?_,?_,fun t=>?_,hr,hb,h.kn.step hf⟩
 ·cases d <;> simp[Act.put,h.size]
 ·cases d <;> simp[Act.put,h.defers]
 ·cases d with
  | none=>simpa[aX,Act.put] using hcut t
  | some x=>
   have hx:=hd x rfl;by_cases ht:t=x
   ·subst ht;have:(a.put (some t) v).tmps.getD t undef=v:=by
     simp[Act.put,Array.getD_eq_getD_getElem?,h.size,hx]
    rw[this];simpa[aX] using hv rfl
   ·have h1:(a.put (some x) v).tmps.getD t undef=a.tmps.getD t undef:=by
     simp[Act.put,Array.getD_eq_getD_getElem?,Ne.symm ht]
    rw[h1];have h2:Nat.beq t x=false:=by
     cases hbq:Nat.beq t x with
     | false=>rfl
     | true=>exact absurd (Nat.eq_of_beq_eq_true hbq) ht
    simpa[aX,h2] using hcut t
structure ba (P:Program) (E:Env):Prop where
 wf:bl E
 int : ∀t k,E.ty t = .int k→P.underlying t=some (.int k)
 bool : ∀t,E.ty t = .bool→P.underlying t=some .bool
 str : ∀t,E.ty t = .str→P.underlying t=some .string
 sl : ∀t e,E.ty t = .sl e→P.underlying t=some (.slice e)∧bN E e=true
 st : ∀t fs,E.ty t = .st fs→∃fds,P.underlying t=some (.struct fds)∧fds.size=fs.length∧P.stoodInHeld t=false∧P.eqGuardType P.depth t=false∧
  ∀ j f fd, fs[j]? = some f → fds[j]? = some fd → fd.type = f ∧ fd.offset = off E fs j ∧ E.sz f ≠ 0 ∧ fd.name ≠ "_" ∧ bN E f = true
 fn : ∀t ps rs,E.ty t = .fn ps rs→∃b,P.underlying t=some (.func ps.toArray rs.toArray b)
 ptr : ∀t e,E.ty t = .ptr e→P.underlying t=some (.pointer e)∧bN E e=true
 info : ∀t,bN E t=true→∃i,P.info? t=some i∧i.size=E.sz t∧i.bytes≤4096
 zero : ∀t,E.zok t=true→bN E t=true∧∃i z,P.info? t=some i∧i.zero=some z∧bd E t z∧z.cells.toList=E.zc t
 zc_st : ∀t fs,E.zok t=true→E.ty t = .st fs→E.zc t=fs.flatMap E.zc∧E.zero t = .st (fs.map E.zero)∧∀f∈fs,E.zok f=true
 zc_sl : ∀t e,E.zok t=true→E.ty t = .sl e→E.zc t = [.slice none 0 0]∧E.zero t = .sl []
 zrep : ∀t,E.zok t=true→∀w g r p,Rep E w g t (E.zero t) .dp r p (.reg (E.zc t) 0)
theorem bq {E:Env} {ty:Nat} {v:Value} (hE:bl E) (h:match E.ty ty with | .st _=>False | .bad=>False | _=>True) (hv:v.cells = #[v]):bd E ty v:=by
 refine ⟨by rw[hE.one _ h,hv];rfl,?_⟩
 split <;> simp_all
theorem fG {vs:List Value} {fs:List Nat} {E:Env} : ∀(_:vs.length=fs.length)
  (_ : ∀(j f:Nat) (v:Value),fs[j]?=some f→vs[j]?=some v→bd E f v) (j f:Nat) (v:Value),fs[j]?=some f→vs[j]?=some v→
  ∀k,k < E.sz f→(vs.flatMap fun v=>v.cells.toList)[off E fs j+k]?=v.cells.toList[k]?:=by
 induction vs generalizing fs with
 | nil=>intro h _ j f v hf hv;simp at hv
 | cons a vs ih=>
  intro hl hs j f v hf hv k hk;cases fs with
  | nil=>simp at hf
  | cons f₀ fs=>
   have h0:=(hs 0 f₀ a rfl rfl).1;simp only[List.flatMap_cons];cases j with
   | zero=>
    simp at hf hv;subst hf;subst hv;rw[List.getElem?_append_left (by simp[off];omega)]
    simp[off]
   | succ j=>
    simp only[List.getElem?_cons_succ] at hf hv;have:=ih (by simpa using hl) (fun j f v a b=>hs (j+1) f v (by simpa using a) (by simpa using b)) j f v hf hv k hk
    rw[List.getElem?_append_right (by simp[off];omega),← this]
    congr 1
    simp[off,h0];omega
theorem gJ {E:Env} : ∀{vs:List Value} {fs:List Nat},vs.length=fs.length→
  (∀(j f:Nat) (v:Value),fs[j]?=some f→vs[j]?=some v→bd E f v)→(vs.flatMap fun v=>v.cells.toList).length=(fs.map E.sz).sum:=by
 intro vs;induction vs with
 | nil=>intro fs hl _;cases fs <;> simp_all
 | cons a vs ih=>
  intro fs hl hs;cases fs with
  | nil=>simp at hl
  | cons f fs=>
   have h0:=(hs 0 f a rfl rfl).1;have:=ih (fs:=fs) (by simpa using hl) (fun j f v a b=>hs (j+1) f v (by simpa using a) (by simpa using b))
   rw[List.flatMap_cons,List.length_append,this,Array.length_toList,h0];rfl
theorem bd.agg {E:Env} (hE:bl E) {ty:Nat} {fs:List Nat} (h:E.ty ty = .st fs) {vs:List Value} (hl:vs.length=fs.length)
  (hs : ∀(j f:Nat) (v:Value),fs[j]?=some f→vs[j]?=some v→bd E f v):bd E ty (.agg (vs.flatMap fun v=>v.cells.toList).toArray):=by
 refine ⟨?_,by rw[h];exact ⟨_,rfl⟩⟩
 rw[hE.sum _ _ h,← gJ hl hs];exact List.size_toArray
section
variable {P:Program} {E:Env} {w:World} {g:Gh} {rt:Nat→Option Rt} {hold:Nat→aE}
theorem lZ (hE:bl E) {ty:Nat} {v:Value} {t:T} {g:Gh} {o:O} {r:Nat} {p:List aH} (ho:o.own=true∨o = .fz) (h:jL (E.ty ty) v=some t) :
  Rep E w g ty t o r p (.reg v.cells.toList 0)∧bd E ty v:=by
 unfold jL at h;split at h <;> try (cases h;done)
 ·rename_i k k' n he
  cases hk:decide (k=k') with
  | false=>simp[hk] at h
  | true=>
   simp[hk] at h;subst h;have:=of_decide_eq_true hk;subst this;exact ⟨.int he rfl,bq hE (by simp[he]) rfl⟩
 ·rename_i b he;cases h;exact ⟨.bool he rfl,bq hE (by simp[he]) rfl⟩
 ·rename_i s he;cases h;exact ⟨.str he rfl,bq hE (by simp[he]) rfl⟩
 ·rename_i e he;cases h;refine ⟨?_,bq hE (by simp[he]) rfl⟩
  rcases ho with ho | rfl
  ·exact .own0 he ho rfl
  ·exact .fz0 (A:=none) (cap:=0) he rfl
mutual
theorem iZ (hE:bl E) : ∀{a:AV} {ty:Nat} {t:T} {v:Value},sn E fB ty a=some t→aO E w g rt hold a v→
  Rep E w g ty t .fz 0 [] (.reg v.cells.toList 0)∧bd E ty v
 | .val ty' t',ty,t,v,h,hv=>by
  simp only[sn] at h;cases hb:Nat.beq ty' ty with
  | false=>simp[hb] at h
  | true=>
   simp[hb] at h;subst h;have:=Nat.eq_of_beq_eq_true hb;subst this;cases hv with
   | val h1 h2=>exact ⟨h1,h2⟩
 | .cst c,ty,t,v,h,hv=>by
  simp only[sn] at h;cases hv;exact lZ hE (.inr rfl) h
 | .nil ty',ty,t,v,h,hv=>by
  simp only[sn] at h;cases hb:Nat.beq ty' ty with
  | false=>simp[hb] at h
  | true=>
   simp[hb] at h;subst h;have:=Nat.eq_of_beq_eq_true hb;subst this;cases hv with
   | nil he=>exact ⟨.fz0 (A:=none) (cap:=0) he rfl,bq hE (by simp[he]) rfl⟩
 | .fnc f,ty,t,v,h,hv=>by
  simp only[sn] at h;split at h
  ·rename_i ps rs he
   cases hb:pW E f [] ps rs with
   | false=>simp[hb] at h
   | true=>
    simp[hb] at h;subst h;cases hv;exact ⟨.fn (cts:=[]) [] he hb rfl rfl rfl (fun i ct c v h=>by simp at h) (fun i ct v h=>by simp at h),bq hE (by simp[he]) rfl⟩
  ·cases h
 | .sref ty' r p,ty,t,v,h,hv=>by simp[sn,fB] at h
 | .sub ty' r p lo hi,ty,t,v,h,hv=>by simp[sn,fB] at h
 | .agg ty' l,ty,t,v,h,hv=>by
  simp only[sn] at h;split at h
  ·rename_i fs he
   cases hb:Nat.beq ty' ty with
   | false=>simp[hb] at h
   | true=>
    simp[hb] at h
    obtain ⟨ts,hts,rfl⟩:=h;have:=Nat.eq_of_beq_eq_true hb;subst this;cases hv with
    | agg h1 h2 h3 h4 h5=>
     rename_i vs
     rw[he] at h1;cases h1;have hl:=zW hE hts;refine ⟨.st he hl.1 fun j f t hf ht=>?_,bd.agg hE he h3 h5⟩
     have hjl:j < fs.length:=(List.getElem?_eq_some_iff.1 hf).1
     obtain ⟨v,hv⟩ : ∃v,vs[j]?=some v:=⟨vs[j]'(by omega),List.getElem?_eq_getElem _⟩
     obtain ⟨a,ha⟩ : ∃a,l[j]?=some a:=⟨l[j]'(by omega),List.getElem?_eq_getElem _⟩
     have hr:=(hl.2 j f t a v hf ht ha (h4 j a v ha hv)).1;have hr':Rep E w g f t .fz 0 ([] ++ [.fld j]) (.reg v.cells.toList 0):=hr.frozen rfl (fun _ h=>h) _ _
     refine hr'.place hE fun k hk=>?_
     have:=fG h3 h5 j f v hf hv k hk
     simpa[aE.add,rd,Value.cells] using this
  ·cases h
 | .undef,ty,t,v,h,hv=>by simp[sn] at h
 | .gd b a,ty,t,v,h,hv=>by simp[sn] at h
 | .pref _ _ _,ty,t,v,h,hv=>by simp[sn] at h
 | .fptr _ _,ty,t,v,h,hv=>by simp[sn] at h
 | .ln _ _,ty,t,v,h,hv=>by simp[sn] at h
 | .pv ty' a,ty,t,v,h,hv=>by
  simp only[sn] at h;split at h
  ·rename_i e he
   cases hb:Nat.beq e ty' with
   | false=>simp[hb] at h
   | true=>
    simp only[hb,cond_true] at h;have:=Nat.eq_of_beq_eq_true hb;subst this;cases hv with
    | pv h1 h2 h3 h4=>
     obtain ⟨r1,_⟩:=iZ hE h h1;refine ⟨.cp he rfl rfl h3 (r1.place hE fun k hk=>?_),bq hE (by simp[he]) rfl⟩
     simp only[aE.add,rd,Nat.zero_add];rw[h4 k hk];simp
  ·cases h
 | .alt _ _ _ _,ty,t,v,h,hv=>by simp[sn,fB] at h
 | .row _ _ _ _,ty,t,v,h,hv=>by simp[sn,fB] at h
 | .tup _,ty,t,v,h,hv=>by simp[sn] at h
theorem zW (hE:bl E) : ∀{l:List AV} {fs:List Nat} {ts:List T},snL E fB fs l=some ts→ts.length=fs.length∧
  ∀(j f:Nat) (t:T) (a:AV) (v:Value),fs[j]?=some f→ts[j]?=some t→l[j]?=some a→aO E w g rt hold a v→Rep E w g f t .fz 0 [] (.reg v.cells.toList 0)∧bd E f v
 | [],fs,ts,h=>by
  cases fs with
  | nil=>simp[snL] at h;subst h;exact ⟨rfl,fun j f t a v hf=>by simp at hf⟩
  | cons f fs=>simp[snL] at h
 | a :: l,fs,ts,h=>by
  cases fs with
  | nil=>simp[snL] at h
  | cons f fs=>
   simp only[snL] at h;split at h
   ·rename_i t ts' h1 h2
    cases h;obtain ⟨i1,i2⟩:=zW hE h2;refine ⟨by simp[i1],fun j f' t' a' v hf ht ha hv=>?_⟩
    cases j with
    | zero=>simp at hf ht ha;subst hf;subst ht;subst ha;exact iZ hE h1 hv
    | succ j=>exact i2 j f' t' a' v (by simpa using hf) (by simpa using ht) (by simpa using ha) hv
   ·cases h
end
theorem kT (hE:bl E) {a:AV} {ty:Nat} {t:T} {v:Value} {k:IntKind} (hk:E.ty ty = .int k) (h:vt E ty a=some t) (hv:aO E w g rt hold a v):v = .int k t.i:=by
 obtain ⟨h1,h2⟩:=iZ hE h hv;have hs:=h2.2;rw[hk] at hs;simp only at hs
 rw[hs] at h1;cases h1 <;> simp_all[rd,T.i]
theorem ji (hE:bl E) {a:AV} {ty:Nat} {t:T} {v:Value} (hk:E.ty ty = .bool) (h:vt E ty a=some t) (hv:aO E w g rt hold a v):v = .bool t.b:=by
 obtain ⟨h1,h2⟩:=iZ hE h hv;have hs:=h2.2;rw[hk] at hs;simp only at hs
 rw[hs] at h1;cases h1 <;> simp_all[rd,T.b]
theorem og (hE:bl E) {a:AV} {ty:Nat} {t:T} {v:Value} (hk:E.ty ty = .str) (h:vt E ty a=some t) (hv:aO E w g rt hold a v):v = .string t.s:=by
 obtain ⟨h1,h2⟩:=iZ hE h hv;have hs:=h2.2;rw[hk] at hs;simp only at hs
 rw[hs] at h1;cases h1 <;> simp_all[rd,T.s]
theorem nZ (hE:bl E) {ty:Nat} {k:IntKind} {n:Int} (h:E.ty ty = .int k):aO E w g rt hold (.val ty (.int n)) (.int k n):=
 .val (.int h rfl) (bq hE (by simp[h]) rfl)
theorem nY (hE:bl E) {ty:Nat} {b:Bool} (h:E.ty ty = .bool):aO E w g rt hold (.val ty (.bool b)) (.bool b):=
 .val (.bool h rfl) (bq hE (by simp[h]) rfl)
theorem tI (hE:bl E) {ty:Nat} {s:ByteArray} (h:E.ty ty = .str):aO E w g rt hold (.val ty (.str s)) (.string s):=
 .val (.str h rfl) (bq hE (by simp[h]) rfl)
end
theorem Sub.flds {E:Env} {w w':World} {g g':Gh} {r:Nat} {ty:Nat} {p:List aH} {κ:aE} {q:List aH} {ty':Nat} {κ':aE}
  (h:Sub E w g r ty p κ q ty' κ'):bj q=true→Sub E w' g' r ty p κ q ty' κ':=by
 induction h with
 | nil=>intro _;exact .nil
 | fld h1 h2 _ ih=>intro hq;exact .fld h1 h2 (ih (by simpa[bj] using hq))
 | idx=>intro hq;simp[bj] at hq
theorem jt.rd {E:Env} {w w':World} {g g':Gh} {hold hold':Nat→aE} {r:Nat} {R:Rt} (hr:dF E w g hold r R) (h:jt w g hold w' g' hold' r) :
  ∀k,rd w' ((hold r).add k)=rd w ((hold r).add k):=by
 intro k;cases hb:R.box with
 | true=>
  obtain ⟨b,o,h1,h2,_⟩:=hr.box hb;rw[h1];exact (h.2 b (.inl h2)).1.1 _
 | false=>
  obtain ⟨vs,h1⟩:=hr.reg hb;rw[h1];rfl
theorem dF.keep {E:Env} (hE:bl E) {w w':World} {g g':Gh} {hold hold':Nat→aE} {r:Nat} {R:Rt} (hr:dF E w g hold r R)
  (h:jt w g hold w' g' hold' r) (hf : ∀b,g b = .frz→aP w w' b∧g' b = .frz):dF E w' g' hold' r R:=by
 refine ⟨?_,fun hb=>?_,fun hb=>?_⟩
 ·rw[h.1];refine hr.rep.frame hE (fun k _=>h.rd hr k) fun b hl=>?_
  rcases hl with hl | ⟨q,hl⟩
  ·obtain ⟨a1,a2⟩:=hf b hl;exact ⟨a1,by rw[a2,hl]⟩
  ·exact h.2 b (.inr ⟨q,by simpa using hl⟩)
 ·obtain ⟨b,o,h1,h2,h3⟩:=hr.box hb;obtain ⟨a1,a2⟩:=h.2 b (.inl h2);exact ⟨b,o,by rw[h.1,h1],by rw[a2,h2],a1.2 _ h3⟩
 ·obtain ⟨vs,h1⟩:=hr.reg hb;exact ⟨vs,by rw[h.1,h1]⟩
inductive eM (E:Env) (w:World) (g:Gh) (hold:Nat→aE) (w':World) (g':Gh) (rt':Nat→Option Rt) (hold':Nat→aE) (ks:Ks) (r:Nat) (R:Rt):Prop
 | keep:rt' r=some R→jt w g hold w' g' hold' r→eM E w g hold w' g' rt' hold' ks r R
 | dead:aJ ks r=some 0→eM E w g hold w' g' rt' hold' ks r R
 | val {R'} : R.box=false→rt' r=some R'→R'.ty=R.ty→hold' r=hold r→aJ ks r=some 1→eM E w g hold w' g' rt' hold' ks r R
 | lent {R'} : R.box=true→rt' r=some R'→R'.ty=R.ty→hold' r=hold r→(∀m,rd w' ((hold r).add m)=rd w ((hold r).add m))→aJ ks r=some 3→eM E w g hold w' g' rt' hold' ks r R
 | box {R'} : R.box=true→rt' r=some R'→R'.ty=R.ty→hold' r=hold r→aJ ks r=some 2→eM E w g hold w' g' rt' hold' ks r R
 | grown:rt' r=some R→hold' r=hold r→(∀p ty κ,Sub E w g r R.ty [] (hold r) p ty κ→Sub E w' g' r R.ty [] (hold r) p ty κ∧((∃e,E.ty ty = .sl e)→rd w' κ=rd w κ))→
   aJ ks r=some 4→eM E w g hold w' g' rt' hold' ks r R
 | part {R' j fs} : R.box=true→rt' r=some R'→R'.ty=R.ty→hold' r=hold r→E.ty R.ty = .st fs→j < fs.length→
   (∀m,m < E.sz R.ty→¬(off E fs j≤m∧m < off E fs j+E.sz (fs.getD j 0))→rd w' ((hold r).add m)=rd w ((hold r).add m))→
   aJ ks r=some (10+j)→eM E w g hold w' g' rt' hold' ks r R
theorem Sub.head_fld {E:Env} (hE:bl E) {w:World} {g:Gh} {r ty:Nat} {p:List aH} {κ:aE} {i:Nat} {q:List aH} {ty':Nat} {κ':aE} {fs:List Nat} (hf:E.ty ty = .st fs)
  (hs:Sub E w g r ty p κ (.fld i :: q) ty' κ') (ha:bj q=true) : ∃d,κ'=κ.add d∧i < fs.length∧off E fs i≤d∧d+E.sz ty'≤off E fs i+E.sz (fs.getD i 0):=by
 cases hs with
 | fld h1 h2 h3=>
  rw[hf] at h1;cases h1;rcases h3.where hE with ⟨_,d,hd,hl⟩ | ⟨b,o,q1,i',q2,_,_,hq⟩
  ·refine ⟨off E fs i+d,by rw[hd,aE.add_add],(List.getElem?_eq_some_iff.1 h2).1,by omega,?_⟩
   rw[jf h2];omega
  ·exfalso
   rw[hq] at ha;have : ∀l:List aH,bj (l ++ .idx i' :: q2)=false:=by
    intro l;induction l with
    | nil=>rfl
    | cons s l ih=>cases s with
     | idx=>rfl
     | fld=>exact ih
   rw[this] at ha;cases ha
theorem Cb {E:Env} {fs:List Nat} {i j:Nat} (hi:i < fs.length) (hj:j < fs.length) (h:i≠j):off E fs i+E.sz (fs.getD i 0)≤off E fs j∨off E fs j+E.sz (fs.getD j 0)≤off E fs i:=by
 have gi:fs[i]?=some (fs.getD i 0):=by simp[hi]
 have gj:fs[j]?=some (fs.getD j 0):=by simp[hj]
 rcases Nat.lt_or_gt_of_ne h with hl | hl
 ·left;rw[← nU gi];exact nT hl
 ·right;rw[← nU gj];exact nT hl
theorem hU.of {E:Env} (hE:bl E) {w w':World} {g g':Gh} {rt rt':Nat→Option Rt} {hold hold':Nat→aE} {ks:Ks}
  (hr : ∀r R,rt r=some R→dF E w g hold r R) (h : ∀r R,rt r=some R→eM E w g hold w' g' rt' hold' ks r R):hU E w g rt hold w' g' rt' hold' ks:=by
 intro r R hR;have ok:=hr r R hR;cases h r R hR with
 | keep h1 h2=>
  have fr : ∀{p ty κ},Sub E w g r R.ty [] (hold r) p ty κ→Sub E w' g' r R.ty [] (hold' r) p ty κ∧∀k,k < E.sz ty→rd w' (κ.add k)=rd w (κ.add k):=by
   intro p ty κ hs;rw[h2.1];exact hs.frame hE (fun k _=>h2.rd ok k) fun b ⟨q,hq⟩=>h2.2 b (.inr ⟨q,by simpa using hq⟩)
  refine ⟨fun p ty e κ v he hs hv _ _=>?_,fun p ty b o hs _=>⟨R,h1,(fr hs).1⟩,fun _=>⟨h1,h2,fun k=>h2.rd ok k⟩⟩
  obtain ⟨a1,a2⟩:=fr hs;exact ⟨R,κ,h1,a1,by rw[← hv];simpa[aE.add_zero] using a2 0 (by rw[hE.one _ (by simp[he])];omega)⟩
 | dead h1=>exact ⟨fun p ty e κ v _ _ _ _ hd=>by simp[cb,h1] at hd,fun p ty b o _ hd=>by simp[cD,h1] at hd,fun hd=>by simp[dg,h1] at hd⟩
 | @val R' h0 h1 h2 h3 h4=>
  refine ⟨fun p ty e κ v he hs hv _ hd=>?_,fun p ty b o _ hd=>by simp[cD,h4] at hd,fun hd=>by simp[dg,h4] at hd⟩
  have hp:bj p=true:=by simpa[cb,h4] using hd
  obtain ⟨vs,h5⟩:=ok.reg h0;refine ⟨R',κ,h1,by rw[h2,h3];exact hs.flds hp,?_⟩
  rcases hs.where hE with ⟨_,d,hκ,_⟩ | ⟨b,o,q1,i,q2,_,_,hq⟩
  ·rw[← hv,hκ,h5];rfl
  ·exfalso
   rw[hq] at hp;have : ∀l:List aH,bj (l ++ .idx i :: q2)=false:=by
    intro l;induction l with
    | nil=>rfl
    | cons s l ih=>cases s with
     | idx=>rfl
     | fld=>exact ih
   rw[this] at hp;cases hp
 | @lent R' h0 h1 h2 h3 hrd h4=>
  refine ⟨fun p ty e κ v he hs hv _ hd=>?_,fun p ty b o hs hd=>?_,fun hd=>by simp[dg,h4] at hd⟩
  ·have hp:bj p=true:=by simpa[cb,h4] using hd
   refine ⟨R',κ,h1,by rw[h2,h3];exact hs.flds hp,?_⟩
   rcases hs.where hE with ⟨_,d,hκ,_⟩ | ⟨b,o,q1,i,q2,_,_,hq⟩
   ·rw[← hv,hκ];exact hrd d
   ·exfalso
    rw[hq] at hp;have : ∀l:List aH,bj (l ++ .idx i :: q2)=false:=by
     intro l;induction l with
     | nil=>rfl
     | cons s l ih=>cases s with
      | idx=>rfl
      | fld=>exact ih
    rw[this] at hp;cases hp
  ·have hp:bj p=true:=by simpa[cD,h4] using hd
   exact ⟨R',h1,by rw[h2,h3];exact hs.flds hp⟩
 | @box R' h0 h1 h2 h3 h4=>
  refine ⟨fun p ty e κ v _ _ _ _ hd=>by simp[cb,h4] at hd,fun p ty b o hs hd=>?_,fun hd=>by simp[dg,h4] at hd⟩
  have hp:bj p=true:=by simpa[cD,h4] using hd
  exact ⟨R',h1,by rw[h2,h3];exact hs.flds hp⟩
 | grown h1 h2 h3 h4=>
  refine ⟨fun p ty e κ v he hs hv _ _=>?_,fun p ty b o hs _=>⟨R,h1,by rw[h2];exact (h3 _ _ _ hs).1⟩,fun hd=>by simp[dg,h4] at hd⟩
  obtain ⟨a1,a2⟩:=h3 _ _ _ hs;exact ⟨R,κ,h1,by rw[h2];exact a1,by rw[a2 ⟨e,he⟩,hv]⟩
 | @part R' j fs h0 h1 h2 h3 hf hj hrd h4=>
  have hb:Nat.ble 10 (10+j)=true:=by rw[Nat.ble_eq];omega
  have hsub:10+j - 10=j:=by omega
  have hne : ∀x,10+j=x→10≤x:=by intro x hx;omega
  have e1 : ∀p,cb ks r p = !(bj p&&rl j p):=by
   intro p;unfold cb;rw[h4];split
   ·rename_i hx;cases hx
   ·rename_i hx;have:=hne 1 (by simpa using hx);omega
   ·rename_i hx;have:=hne 3 (by simpa using hx);omega
   ·rename_i hx;have:=hne 4 (by simpa using hx);omega
   ·rename_i k _ _ _ hx
    obtain rfl:10+j=k:=by simpa using hx
    rw[hb,hsub];rfl
  have e2 : ∀p,cD ks r p = !bj p:=by
   intro p;unfold cD;rw[h4];split
   ·rename_i hx;cases hx
   ·rename_i hx;have:=hne 2 (by simpa using hx);omega
   ·rename_i hx;have:=hne 3 (by simpa using hx);omega
   ·rename_i hx;have:=hne 4 (by simpa using hx);omega
   ·rename_i k _ _ _ hx
    obtain rfl:10+j=k:=by simpa using hx
    rw[hb];rfl
  refine ⟨fun p ty e κ v he hs hv _ hd=>?_,fun p ty b o hs hd=>?_,fun hd=>by simp[dg,h4] at hd⟩
  ·rw[e1] at hd;have hd':bj p=true∧rl j p=true:=by simpa using hd
   refine ⟨R',κ,h1,by rw[h2,h3];exact hs.flds hd'.1,?_⟩
   cases p with
   | nil=>simp[rl] at hd'
   | cons s q=>
    cases s with
    | idx=>simp[rl] at hd'
    | fld i=>
     have hij:i≠j:=by
      rintro rfl
      simp[rl] at hd'
     obtain ⟨d,hκ,hi,d1,d2⟩:=hs.head_fld hE hf (by simpa[bj] using hd'.1)
     rw[← hv,hκ];have hs1:E.sz ty=1:=hE.one _ (by simp[he])
     have:=eL (E:=E) (fs:=fs) (j:=i) (f:=fs.getD i 0) (by simp[hi])
     refine hrd d (by rw[hE.sum _ _ hf];omega) ?_
     rintro ⟨k1,k2⟩
     rcases Cb (E:=E) hi hj hij with h | h <;> omega
  ·rw[e2] at hd;have hp:bj p=true:=by simpa using hd
   exact ⟨R',h1,by rw[h2,h3];exact hs.flds hp⟩
theorem eM.self {E:Env} {w:World} {g:Gh} {hold:Nat→aE} {rt:Nat→Option Rt} {ks:Ks} {r:Nat} {R:Rt} (h:rt r=some R):eM E w g hold w g rt hold ks r R:=
 .keep h ⟨rfl,fun b _=>⟨aP.refl _ _,rfl⟩⟩
def Sld (hold hold':Nat→aE):Prop:=∀r,100000≤r→hold' r=hold r
def Does (P:Program) (E:Env) (n:Nat) (st:St) (a:Act) (w:World) (g:Gh) (hold:Nat→aE) (o:Oper) (u:Upd):Prop:=
 ∃nx w' v g' hold',(execOp a.eval o).run P w = .ok nx w'∧(nx = .value v∨(nx = .skip∧v=Go.undef))∧Stp w g w' g'∧
  Sld hold hold'∧Inv E n (aX o.dst u st) (a.put o.dst v) w' g' hold'
section
variable {P:Program} {E:Env} {n:Nat} {st:St} {a:Act} {w:World} {g:Gh} {hold:Nat→aE}
theorem Does.one (hE:bl E) (h:Inv E n st a w g hold) {o:Oper} {v:Value} {av:AV} (hd : ∀x,o.dst=some x→x < n)
  (hrun:(execOp a.eval o).run P w = .ok (.value v) w) (hv:aO E w g st.rt hold av v):Does P E n st a w g hold o ⟨av,[],[]⟩:=by
 refine ⟨_,w,v,g,hold,hrun,.inl rfl,Stp.refl _ _,fun _ _=>rfl,h.apply hE hd (fun b hb=>⟨aP.refl _ _,hb⟩) (hU.of hE h.rts fun r R hR=>.self hR) h.rts h.bnd fun _=>hv⟩
theorem fV {rt:Nat→Option Rt} {x:AV} {v:Value} (h:aO E w g rt hold x v) (hp:(bK x).1=true):aO E w g rt hold (bK x).2 v:=by
 cases h with
 | gd h1 _=>exact h1 hp
 | undef=>exact .undef
 | val h1 h2=>exact .val h1 h2
 | cst=>exact .cst
 | nil h=>exact .nil h
 | fnc=>exact .fnc
 | sref h1 h2 h3 h4=>exact .sref h1 h2 h3 h4
 | sub h1 h2 h3 h4 h5 h6 h7 h8 h9=>exact .sub h1 h2 h3 h4 h5 h6 h7 h8 h9
 | pref h1 h2=>exact .pref h1 h2
 | fptr h1 h2 h3=>exact .fptr h1 h2 h3
 | ln h1=>exact .ln h1
 | pv h1 h2 h3 h4=>exact .pv h1 h2 h3 h4
 | alt h1 h2 h3 h4 h5 h6=>exact .alt h1 h2 h3 h4 h5 h6
 | row h1 h2 h3 h4 h5 h6 h7 h8 h9=>exact .row h1 h2 h3 h4 h5 h6 h7 h8 h9
 | agg h1 h2 h3 h4 h5=>exact .agg h1 h2 h3 h4 h5
 | tup h1 h2=>exact .tup h1 h2
def Yld (P:Program) (E:Env) (st:St) (a:Act) (w:World) (g:Gh) (hold:Nat→aE) (o:Oper) (av:AV):Prop:=
 ∃v,(execOp a.eval o).run P w = .ok (.value v) w∧aO E w g st.rt hold av v
theorem Yld.does (hE:bl E) (h:Inv E n st a w g hold) {o:Oper} {av:AV} (hd : ∀x,o.dst=some x→x < n)
  (hy:Yld P E st a w g hold o av):Does P E n st a w g hold o ⟨av,[],[]⟩:=by
 obtain ⟨v,h1,h2⟩:=hy;exact Does.one hE h hd h1 h2
theorem xY (s:Sem Value) (v:Value) (h:s.run P w = .ok v w):(do pure (Next.value (← s)):Sem Next).run P w = .ok (.value v) w:=by
 simp[h]
theorem kr (hP:ba P E) {t:Nat} (h:bN E t=true) : ∃i,P.info? t=some i∧(typeInfo t).run P w = .ok i w∧(sizeOf t).run P w = .ok (E.sz t) w∧i.bytes≤4096:=by
 obtain ⟨i,h1,h2,h3⟩:=hP.info t h;exact ⟨i,h1,by simp[typeInfo,h1],by simp[sizeOf,typeInfo,h1,h2],h3⟩
end
section
variable {P:Program} {E:Env} {w:World} {g:Gh} {rt:Nat→Option Rt} {hold:Nat→aE}
theorem fF {ty:Nat} (h:cT E ty=true):E.ty ty = .bool:=by unfold cT at h;split at h <;> simp_all
theorem uy {ty:Nat} (h:qC E ty=true) : ∃k,E.ty ty = .int k:=by unfold qC at h;split at h <;> simp_all
theorem Ao {op:BinOp} {k:IntKind} {x y:Int} {pre:Bool} {r:Bool ⊕ Int} (h:binI op k x y=some (pre,r)) (hp:pre=true) (t:TypeId) :
  (Go.binOp op t (.int k x) (.int k y)).run P w = .ok (match r with | .inl v=>.bool v | .inr v=>.int k v) w:=by
 cases op <;> simp only[binI,Option.some.injEq,Prod.mk.injEq,reduceCtorEq] at h <;> obtain ⟨rfl,rfl⟩:=h <;>
  simp_all[Go.binOp,Op.intArith,Op.intDiv,Op.intBits,Op.intCmp]
theorem Ap {op:BinOp} {x y:ByteArray} {pre:Bool} {r:Bool ⊕ ByteArray} (h:binS op x y=some (pre,r)) (hp:pre=true) (t:TypeId) :
  (Go.binOp op t (.string x) (.string y)).run P w = .ok (match r with | .inl v=>.bool v | .inr v=>.string v) w:=by
 cases op <;> simp only[binS,Option.some.injEq,Prod.mk.injEq,reduceCtorEq] at h <;> obtain ⟨rfl,rfl⟩:=h
 case add=>
  have hl:=of_decide_eq_true hp;have hm:IntKind.i64.max=9223372036854775807:=by decide
  unfold LIM at hl;have : ¬(((x.size+y.size:Nat):Int) > IntKind.i64.max):=by rw[hm];omega
  simp only[Go.binOp,Op.stringOp,this,if_false];rfl
 all_goals simp[Go.binOp,Op.stringOp]
theorem jg {op:BinOp} {t:TypeId} {X Y:Operand} {x y:Value} (h:(∀c,x≠.agg c)∧x≠.nilIface):(eqGuard op t X Y x y).run P w = .ok () w:=by
 unfold eqGuard;obtain ⟨h1,h2⟩:=h;cases op <;> cases x <;> simp_all
theorem Az (hP:ba P E) {t:Nat} (h:E.ty t = .bool) (a b:Bool):(Op.equal t (.bool a) (.bool b)).run P w = .ok (a==b) w:=by
 have:=hP.bool t h
 show (Op.equalIn (9999+1) t (.bool a) (.bool b)).run P w=_
 unfold Op.equalIn;simp[underlying,this]
theorem Cz {f:Nat} {cs:Array Value} {o:Nat} {v:Value} {d:TypeDesc} (hu:P.underlying f=some d) (hd:(match d with | .int _=>true | .bool=>true | .string=>true | _=>false)=true) (h:cs[o]?=some v):(part f cs o).run P w = .ok v w:=by
 unfold part;cases d <;> simp at hd <;> simp[isAgg,underlying,hu,h]
theorem CJ {x y:T} {xs ys:Array Value} {d:Nat} : ∀(L:List Field) (fs:List Nat) (j:Nat),L.length=fs.length→
  (∀ (i f : Nat) (fd : Field), fs[i]? = some f → L[i]? = some fd → fd.type = f ∧ fd.name ≠ "_" ∧ ∃ vx vy, (part f xs fd.offset).run P w = .ok vx w ∧ (part f ys fd.offset).run P w = .ok vy w ∧ (Op.equalIn d f vx vy).run P w = .ok (eq1 E f (x.fld (j + i)) (y.fld (j + i))) w) →
  (Op.eqFields d xs ys L).run P w = .ok (eqFs E fs j x y) w
 | [],[],j,_,_=>rfl
 | [],_ :: _,j,h,_=>by simp at h
 | _ :: _,[],j,h,_=>by simp at h
 | fd :: L,f :: fs,j,h,hf=>by
  obtain ⟨h1,h2,vx,vy,h3,h4,h5⟩:=hf 0 f fd rfl rfl;have ih:=CJ (x:=x) (y:=y) L fs (j+1) (by simpa using h) (fun i f fd h1 h2=>by
   have:=hf (i+1) f fd (by simpa using h1) (by simpa using h2)
   rwa [show j+(i+1)=j+1+i by omega] at this)
  subst h1;simp only[Op.eqFields,eqFs,ne_eq,h2,not_false_eq_true,if_true,Sem.run_bind,h3,h4,h5,Result.andThen_ok,Nat.add_zero];cases eq1 E fd.type (x.fld j) (y.fld j) with
  | false=>simp
  | true=>simpa using ih
theorem CW {f:Nat} {k:IntKind} {t:T} {r:Nat} {p:List aH} {κ:aE} (hty:E.ty f = .int k) (h:Rep E w g f t .fz r p κ) : ∃n,t = .int n∧rd w κ=some (.int k n):=by
 cases h with
 | int h1 h2=>rw[hty] at h1;cases h1;exact ⟨_,rfl,h2⟩
 | _=>simp_all
theorem CR {f:Nat} {t:T} {r:Nat} {p:List aH} {κ:aE} (hty:E.ty f = .bool) (h:Rep E w g f t .fz r p κ) : ∃n,t = .bool n∧rd w κ=some (.bool n):=by
 cases h with
 | bool h1 h2=>exact ⟨_,rfl,h2⟩
 | _=>simp_all
theorem CX {f:Nat} {t:T} {r:Nat} {p:List aH} {κ:aE} (hty:E.ty f = .str) (h:Rep E w g f t .fz r p κ) : ∃n,t = .str n∧rd w κ=some (.string n):=by
 cases h with
 | str h1 h2=>exact ⟨_,rfl,h2⟩
 | _=>simp_all
theorem eq_st (hP:ba P E) {t:Nat} {fs:List Nat} {x y:T} {vx vy:Value} {p q:List aH} (hk:E.ty t = .st fs) (hb:fs.all (CG E)=true) (hx:Rep E w g t x .fz 0 p (.reg vx.cells.toList 0)) (hy:Rep E w g t y .fz 0 q (.reg vy.cells.toList 0))
  (sx:bd E t vx) (sy:bd E t vy):(∃cs,vx = .agg cs)∧(∃cs,vy = .agg cs)∧(Op.equal t vx vy).run P w = .ok (eqFs E fs 0 x y) w∧P.eqGuardType P.depth t=false:=by
 obtain ⟨fds,hu,hsz,hp,hg,hfd⟩:=hP.st t fs hk;have s1:=sx.2;have s2:=sy.2;rw[hk] at s1 s2;obtain ⟨xs,rfl⟩:=s1;obtain ⟨ys,rfl⟩:=s2;refine ⟨⟨xs,rfl⟩,⟨ys,rfl⟩,?_,hg⟩;have hfo:P.fieldsOf t=fds:=by simp[Program.fieldsOf,hu]
 show (Op.equalIn (9999+1) t (.agg xs) (.agg ys)).run P w=_
 rw[run_equalIn_struct w 9999 t xs ys (by rw[hfo];exact hu) hp,hfo]
 refine CJ fds.toList fs 0 (by simpa using hsz) (fun i f fd hi hf=>?_)
 obtain ⟨c1,c2,_,c4,_⟩:=hfd i f fd hi (by simpa using hf)
 refine ⟨c1,c4,?_⟩;have hbt:CG E f=true:=List.all_eq_true.1 hb f (List.mem_of_getElem? hi)
 have get : ∀{x:T} {p:List aH} {cs:Array Value},Rep E w g t x .fz 0 p (.reg cs.toList 0)→∃t',x.fld i=t'∧Rep E w g f t' .fz 0 (p ++ [.fld i]) (.reg cs.toList (off E fs i)):=by
  intro x p cs h;cases h with
  | st e1 e2 e3=>
   rename_i ts
   rw[hk] at e1;cases e1;have hlt:i < ts.length:=by rw[e2];exact (List.getElem?_eq_some_iff.1 hi).1
   have:=e3 i f ts[i] hi (List.getElem?_eq_getElem hlt)
   refine ⟨ts[i],by simp[T.fld,T.fs,hlt],?_⟩
   rw[show (O.fz).fld i=O.fz from rfl] at this
   simpa[aE.add] using this
  | int h=>rw[hk] at h;cases h
  | bool h=>rw[hk] at h;cases h
  | str h=>rw[hk] at h;cases h
  | fn _ _ h=>rw[hk] at h;cases h
  | cp h=>rw[hk] at h;cases h
  | fz0 h=>rw[hk] at h;cases h
  | fz h=>rw[hk] at h;cases h
  | own0 h=>rw[hk] at h;cases h
  | own h=>rw[hk] at h;cases h
 obtain ⟨tx,ex,rx⟩:=get hx;obtain ⟨ty',ey,ry⟩:=get hy;rw[Nat.zero_add,ex,ey,c2];unfold CG at hbt;unfold eq1;cases hty:E.ty f with
 | int k=>
  have hu:=hP.int f k hty;obtain ⟨n,rfl,a1⟩ : ∃n,tx = .int n∧xs[off E fs i]?=some (.int k n):=by
   obtain ⟨n,e,h⟩:=CW hty rx;exact ⟨n,e,by simpa[rd,Value.cells] using h⟩
  obtain ⟨m,rfl,a2⟩ : ∃n,ty' = .int n∧ys[off E fs i]?=some (.int k n):=by
   obtain ⟨n,e,h⟩:=CW hty ry;exact ⟨n,e,by simpa[rd,Value.cells] using h⟩
  exact ⟨_,_,Cz hu rfl a1,Cz hu rfl a2,run_equalIn_int w 9998 f k k n m hu⟩
 | bool=>
  have hu:=hP.bool f hty;obtain ⟨n,rfl,a1⟩ : ∃n,tx = .bool n∧xs[off E fs i]?=some (.bool n):=by
   obtain ⟨n,e,h⟩:=CR hty rx;exact ⟨n,e,by simpa[rd,Value.cells] using h⟩
  obtain ⟨m,rfl,a2⟩ : ∃n,ty' = .bool n∧ys[off E fs i]?=some (.bool n):=by
   obtain ⟨n,e,h⟩:=CR hty ry;exact ⟨n,e,by simpa[rd,Value.cells] using h⟩
  exact ⟨_,_,Cz hu rfl a1,Cz hu rfl a2,run_equalIn_bool' w 9998 f n m hu⟩
 | str=>
  have hu:=hP.str f hty;obtain ⟨n,rfl,a1⟩ : ∃n,tx = .str n∧xs[off E fs i]?=some (.string n):=by
   obtain ⟨n,e,h⟩:=CX hty rx;exact ⟨n,e,by simpa[rd,Value.cells] using h⟩
  obtain ⟨m,rfl,a2⟩ : ∃n,ty' = .str n∧ys[off E fs i]?=some (.string n):=by
   obtain ⟨n,e,h⟩:=CX hty ry;exact ⟨n,e,by simpa[rd,Value.cells] using h⟩
  exact ⟨_,_,Cz hu rfl a1,Cz hu rfl a2,run_equalIn_string w 9998 f n m hu⟩
 | sl=>rw[hty] at hbt;cases hbt
 | st=>rw[hty] at hbt;cases hbt
 | ptr=>rw[hty] at hbt;cases hbt
 | cp=>rw[hty] at hbt;cases hbt
 | fn=>rw[hty] at hbt;cases hbt
 | bad=>rw[hty] at hbt;cases hbt
theorem CP {op:BinOp} {t:TypeId} {X Y:Operand} {xs ys:Array Value} (h:P.eqGuardType P.depth t=false):(eqGuard op t X Y (.agg xs) (.agg ys)).run P w = .ok () w:=by
 unfold eqGuard;cases op <;> simp[h]
theorem Bx (hP:ba P E) {op:BinOp} {rty xty:Nat} {b:Bool} {x y:AV} {vx vy:Value} {e:Eff} (X Y:Operand) (h:sH E op rty xty b x y=some e)
  (hp:e.pre=true) (hx:b=true→aO E w g rt hold x vx) (hy:b=true→aO E w g rt hold y vy) :
  ∃av v,e.req=none∧e.ret []=⟨av,[],[]⟩∧(do eqGuard op xty X Y vx vy;Go.binOp op xty vx vy:Sem Value).run P w = .ok v w∧aO E w g rt hold av v:=by
 unfold sH at h;split at h
 ·rename_i tx ty' h1 h2
  split at h
  ·rename_i k hk
   split at h
   ·rename_i pre v hb
    cases hr:cT E rty with
    | false=>simp[hr] at h
    | true=>
     simp only[hr,cond_true,one,Option.some.injEq] at h;subst h;simp only[Bool.and_eq_true] at hp;have e1:=kT hP.wf hk h1 (hx hp.1);have e2:=kT hP.wf hk h2 (hy hp.1);subst e1;subst e2;refine ⟨_,_,rfl,rfl,?_,nY hP.wf (fF hr)⟩;have:=Ao (P:=P) (w:=w) hb hp.2 xty
     simp[jg,this]
   ·rename_i pre v hb
    cases hr:Nat.beq rty xty with
    | false=>simp[hr] at h
    | true=>
     simp only[hr,cond_true,one,Option.some.injEq] at h;subst h;simp only[Bool.and_eq_true] at hp;have:=Nat.eq_of_beq_eq_true hr;subst this;have e1:=kT hP.wf hk h1 (hx hp.1);have e2:=kT hP.wf hk h2 (hy hp.1);subst e1;subst e2;refine ⟨_,_,rfl,rfl,?_,nZ hP.wf hk⟩;have:=Ao (P:=P) (w:=w) hb hp.2 rty
     simp[jg,this]
   ·cases h
  ·rename_i hk
   split at h
   ·rename_i pre v hb
    cases hr:cT E rty with
    | false=>simp[hr] at h
    | true=>
     simp only[hr,cond_true,one,Option.some.injEq] at h;subst h;simp only[Bool.and_eq_true] at hp;have e1:=og hP.wf hk h1 (hx hp.1);have e2:=og hP.wf hk h2 (hy hp.1);subst e1;subst e2;refine ⟨_,_,rfl,rfl,?_,nY hP.wf (fF hr)⟩;have:=Ap (P:=P) (w:=w) hb hp.2 xty
     simp[jg,this]
   ·rename_i pre v hb
    cases hr:Nat.beq rty xty with
    | false=>simp[hr] at h
    | true=>
     simp only[hr,cond_true,one,Option.some.injEq] at h;subst h;simp only[Bool.and_eq_true] at hp;have:=Nat.eq_of_beq_eq_true hr;subst this;have e1:=og hP.wf hk h1 (hx hp.1);have e2:=og hP.wf hk h2 (hy hp.1);subst e1;subst e2;refine ⟨_,_,rfl,rfl,?_,tI hP.wf hk⟩;have:=Ap (P:=P) (w:=w) hb hp.2 rty
     simp[jg,this]
   ·cases h
  ·rename_i hk
   cases hr:cT E rty with
   | false=>simp[hr] at h
   | true=>
    simp only[hr,cond_true] at h;split at h
    ·simp only[one,Option.some.injEq] at h;subst h;have e1:=ji hP.wf hk h1 (hx hp);have e2:=ji hP.wf hk h2 (hy hp);subst e1;subst e2;refine ⟨_,_,rfl,rfl,?_,nY hP.wf (fF hr)⟩;simp[jg,Go.binOp,Az hP hk]
    ·simp only[one,Option.some.injEq] at h;subst h;have e1:=ji hP.wf hk h1 (hx hp);have e2:=ji hP.wf hk h2 (hy hp);subst e1;subst e2;refine ⟨_,_,rfl,rfl,?_,nY hP.wf (fF hr)⟩;simp[jg,Go.binOp,Az hP hk]
    ·cases h
  ·rename_i fs hk
   cases hr:cT E rty&&fs.all (CG E) with
   | false=>simp[hr] at h
   | true=>
    simp only[hr,cond_true] at h;rw[Bool.and_eq_true] at hr;split at h
    ·simp only[one,Option.some.injEq] at h;subst h;have e1:=iZ hP.wf h1 (hx hp);have e2:=iZ hP.wf h2 (hy hp);obtain ⟨⟨xs,rfl⟩,⟨ys,rfl⟩,e3,e4⟩:=eq_st hP hk hr.2 e1.1 e2.1 e1.2 e2.2;refine ⟨_,_,rfl,rfl,?_,nY hP.wf (fF hr.1)⟩;simp[CP e4,Go.binOp,e3]
    ·simp only[one,Option.some.injEq] at h;subst h;have e1:=iZ hP.wf h1 (hx hp);have e2:=iZ hP.wf h2 (hy hp);obtain ⟨⟨xs,rfl⟩,⟨ys,rfl⟩,e3,e4⟩:=eq_st hP hk hr.2 e1.1 e2.1 e1.2 e2.2;refine ⟨_,_,rfl,rfl,?_,nY hP.wf (fF hr.1)⟩;simp[CP e4,Go.binOp,e3]
    ·cases h
  ·cases h
 ·cases h
theorem sI (hE:bl E) {d:Nat} {x:AV} {b:Bool} {i:Int} {v:Value} (h:bnd E d (some x)=some (b,i)) (hb:b=true) (hx:aO E w g rt hold x v) :
  ∃k,v = .int k i:=by
 unfold bnd at h;split at h
 ·rename_i he;cases he
 ·rename_i ty t he
  cases he;cases hi:qC E ty with
  | false=>simp[hi] at h
  | true=>
   simp only[hi,cond_true,Option.some.injEq,Prod.mk.injEq] at h;obtain ⟨k,hk⟩:=uy hi;obtain ⟨_,rfl⟩:=h;exact ⟨k,kT (E:=E) hE hk (a:=.val ty t) (by simp[vt,sn]) hx⟩
 ·rename_i k n he
  cases he;simp at h;obtain ⟨_,rfl⟩:=h;cases hx;exact ⟨_,rfl⟩
 ·rename_i b' ty t he
  cases he;cases hi:qC E ty with
  | false=>simp[hi] at h
  | true=>
   simp only[hi,cond_true,Option.some.injEq,Prod.mk.injEq] at h;obtain ⟨k,hk⟩:=uy hi;obtain ⟨rfl,rfl⟩:=h;cases hx with
   | gd h1 _=>exact ⟨k,kT (E:=E) hE hk (a:=.val ty t) (by simp[vt,sn]) (h1 hb)⟩
 ·cases h
end
theorem Sub.snoc_fld {E:Env} {w:World} {g:Gh} {r:Nat} {ty:Nat} {p:List aH} {κ:aE} {q:List aH} {ty':Nat} {κ':aE}
  (h:Sub E w g r ty p κ q ty' κ') : ∀{fs:List Nat} {j f:Nat},E.ty ty' = .st fs→fs[j]?=some f→Sub E w g r ty p κ (q ++ [.fld j]) f (κ'.add (off E fs j)):=by
 induction h with
 | nil=>intro fs j f h1 h2;exact .fld h1 h2 .nil
 | fld a1 a2 _ ih=>intro fs j f h1 h2;exact .fld a1 a2 (ih h1 h2)
 | idx a1 a2 a3 a4 a5 _ ih=>intro fs j f h1 h2;exact .idx a1 a2 a3 a4 a5 (ih h1 h2)
theorem Sub.snoc_idx {E:Env} {w:World} {g:Gh} {r:Nat} {ty:Nat} {p:List aH} {κ:aE} {q:List aH} {ty':Nat} {κ':aE}
  (h:Sub E w g r ty p κ q ty' κ') : ∀{e:Nat} {a:Addr} {len cap i:Nat},E.ty ty' = .sl e→rd w κ'=some (.slice (some a) len cap)→i < len→a.spot=none→
   g a.block = .at r (p++q)→Sub E w g r ty p κ (q ++ [.idx i]) e (.mem a.block (a.off+i * E.sz e)):=by
 induction h with
 | nil=>intro e a len cap i h1 h2 h3 h4 h5;exact .idx h1 h2 h3 h4 (by simpa using h5) .nil
 | fld a1 a2 _ ih=>intro e a len cap i h1 h2 h3 h4 h5;exact .fld a1 a2 (ih h1 h2 h3 h4 (by rw[h5];simp))
 | idx a1 a2 a3 a4 a5 _ ih=>intro e a len cap i h1 h2 h3 h4 h5;exact .idx a1 a2 a3 a4 a5 (ih h1 h2 h3 h4 (by rw[h5];simp))
def pF (E:Env) (w:World) (κ:aE) (ty:Nat) (v:Value):Prop:=bd E ty v∧∀k,k < E.sz ty→v.cells.toList[k]?=rd w (κ.add k)
theorem pieces {E:Env} (hE:bl E) : ∀(fs:List Nat) (cs:List Value),cs.length=(fs.map E.sz).sum→(∀v∈cs,v.cells = #[v])→
  (∀f∈fs,bN E f=true)→∃vs:List Value,vs.length=fs.length∧(vs.flatMap fun v=>v.cells.toList)=cs∧
  (∀(j f:Nat) (v:Value),fs[j]?=some f→vs[j]?=some v→bd E f v):=by
 intro fs;induction fs with
 | nil=>intro cs h _ _;exact ⟨[],rfl,by cases cs <;> simp_all,by simp⟩
 | cons f fs ih=>
  intro cs h hc ho;simp only[List.map_cons,List.sum_cons] at h;obtain ⟨vs,h1,h2,h3⟩:=ih (cs.drop (E.sz f)) (by simp;omega) (fun v hv=>hc v (List.mem_of_mem_drop hv)) (fun f hf=>ho f (by simp[hf]))
  have hf:=ho f (by simp)
  obtain ⟨v,hv,hs⟩ : ∃v:Value,v.cells.toList=cs.take (E.sz f)∧bd E f v:=by
   cases he:E.ty f with
   | st fs'=>
    refine ⟨.agg (cs.take (E.sz f)).toArray,by simp[Value.cells],?_,by rw[he];exact ⟨_,rfl⟩⟩
    simp only[Value.cells,List.size_toArray,List.length_take];omega
   | bad=>simp[bN,he] at hf
   | cp=>simp[bN,he] at hf
   | _=>
    have h1:=hE.one f (by simp[he])
    rw[h1];rw[h1] at h;cases cs with
    | nil=>simp at h;omega
    | cons c cs=>
     have:=hc c (by simp)
     exact ⟨c,by simp[this],bq hE (by simp[he]) this⟩
  refine ⟨v :: vs,by simp[h1],?_,fun j f' v' hf' hv'=>?_⟩
  ·rw[List.flatMap_cons,h2,hv,List.take_append_drop]
  ·cases j with
   | zero=>simp at hf' hv';subst hf';subst hv';exact hs
   | succ j=>exact h3 j f' v' (by simpa using hf') (by simpa using hv')
theorem Rep.slice_cell {E:Env} {w:World} {g:Gh} {ty:Nat} {t:T} {o:O} {r:Nat} {p:List aH} {κ:aE} (h:Rep E w g ty t o r p κ) {e:Nat}
  (he:E.ty ty = .sl e) (hd:o≠.dead) : ∃A n c,rd w κ=some (.slice A n c):=by
 cases h with
 | fz0 _ h=>exact ⟨_,_,_,h⟩
 | fz _ h=>exact ⟨_,_,_,h⟩
 | own0 _ _ h=>exact ⟨_,_,_,h⟩
 | own _ _ h=>exact ⟨_,_,_,h⟩
 | dead=>exact absurd rfl hd
 | _=>simp_all
section
variable {P:Program} {E:Env} {w:World} {g:Gh} {rt:Nat→Option Rt} {hold:Nat→aE}
theorem pF.reg {κ:aE} {ty:Nat} {v:Value} (h:pF E w κ ty v) : ∀k,k < E.sz ty→rd w ((aE.reg v.cells.toList 0).add k)=rd w (κ.add k):=by
 intro k hk;simpa[aE.add,rd] using h.2 k hk
theorem tJ (hP:ba P E) {r:Nat} {R:Rt} (hR:rt r=some R) : ∀(n:Nat) {ty:Nat} {t:T} {o:O} {p:List aH} {κ:aE} {v:Value},
  Rep E w g ty t o r p κ→o.live=true→Sub E w g r R.ty [] (hold r) p ty κ→pF E w κ ty v→bN E ty=true→aO E w g rt hold (qf E n ty t o r p) v:=by
 intro n;have key : ∀(n:Nat),(∀{ty:Nat} {t:T} {o:O} {p:List aH} {κ:aE} {v:Value},
   Rep E w g ty t o r p κ→o.live=true→Sub E w g r R.ty [] (hold r) p ty κ→pF E w κ ty v→bN E ty=true→aO E w g rt hold (qf E n ty t o r p) v)∧
  (∀(fs:List Nat) (j:Nat) {t:T} {o:O} {p:List aH} (vs:List Value),(mX E n fs j t o r p).length≤fs.length∧
   ((
    ∀(i f:Nat) (v:Value),fs[i]?=some f→vs[i]?=some v→∃κ,Rep E w g f (t.fld (j+i)) (o.fld (j+i)) r (p ++ [.fld (j+i)]) κ∧(o.fld (j+i)).live=true∧
    Sub E w g r R.ty [] (hold r) (p ++ [.fld (j+i)]) f κ∧pF E w κ f v∧bN E f=true)→
   ∀(i:Nat) (a:AV) (v:Value),(mX E n fs j t o r p)[i]?=some a→vs[i]?=some v→aO E w g rt hold a v)):=by
  intro n;induction n with
  | zero=>
   exact ⟨fun _ _ _ _ _=>by rw[qf];exact .undef,fun fs j t o p vs=>⟨by simp[mX],fun _ i a v ha=>by simp[mX] at ha⟩⟩
  | succ n ih=>
   refine ⟨fun {ty t o p κ v} h hl hs hv hty=>?_,fun fs j t o p vs=>?_⟩
   ·have hreg:=hv.reg;rw[qf];cases hf:E.flat ty with
    | true=>exact .val (h.flat hP.wf hl hf hreg) hv.1
    | false=>
     cases hz:(o.isFz||o.isFo) with
     | true=>exact .val ((h.thaw (by simpa using hz) 0 []).place hP.wf hreg) hv.1
     | false=>
      have h2:o≠.dead:=by intro h;subst h;simp[O.live] at hl
      have hdd:o.isDead=false:=by cases o <;> simp_all[O.isDead]
      simp only[Bool.or_self,cond_false,hdd];split
      ·rename_i e he
       cases ho:o.own with
       | false=>exact .undef
       | true=>
        have hv0:=hv.2 0 (by rw[hP.wf.one _ (by simp[he])];omega)
        have hsh:=hv.1.2;rw[he] at hsh;simp only at hsh
        rw[aE.add_zero,hsh] at hv0;obtain ⟨A,m,c,hc⟩:=h.slice_cell he h2;have hvv:v = .slice A m c:=by rw[hc] at hv0;simpa using hv0
        subst hvv;exact .sref hR he hs hc
      ·rename_i fs he
       cases h with
       | st a1 a2 a3=>
        rw[he] at a1;cases a1;rename_i ts
        obtain ⟨fds,hu,hsz,_,_,hfd⟩:=hP.st ty fs he;have hokf : ∀f∈fs,bN E f=true:=fun f hf=>by
         obtain ⟨j,hj⟩:=List.mem_iff_getElem?.1 hf;have hj':=(List.getElem?_eq_some_iff.1 hj).1;exact (hfd j f _ hj (Array.getElem?_eq_getElem (by omega))).2.2.2.2
        obtain ⟨cs,hcs⟩ : ∃cs,v = .agg cs:=by have:=hv.1.2;rw[he] at this;exact this
        have hlen:cs.toList.length=(fs.map E.sz).sum:=by
         have:=hv.1.1;rw[hcs,hP.wf.sum _ _ he] at this;simpa[Value.cells] using this
        have hself : ∀c∈cs.toList,c.cells = #[c]:=by
         intro c hc;obtain ⟨k,hk⟩:=List.mem_iff_getElem?.1 hc;have hk':=(List.getElem?_eq_some_iff.1 hk).1;have h1:=hv.2 k (by rw[hP.wf.sum _ _ he];omega)
         rw[hcs] at h1;simp only[Value.cells] at h1;rw[hk] at h1;obtain ⟨x,hx,hx'⟩:=(Rep.st he a2 a3).cells hP.wf hl k (by rw[hP.wf.sum _ _ he];omega)
         rw[hx] at h1;cases h1;exact hx'
        obtain ⟨vs,b1,b2,b3⟩:=pieces hP.wf fs cs.toList hlen hself hokf;have hvs:=(ih.2 fs 0 (t:=.st ts) (o:=o) (p:=p) vs).2 (fun i f v' hf' hv'=>by
         have hi:=(List.getElem?_eq_some_iff.1 hf').1;refine ⟨κ.add (off E fs i),?_,nR hl _,?_,⟨b3 i f v' hf' hv',fun k hk=>?_⟩,hokf f (List.mem_of_getElem? hf')⟩
         ·rw[Nat.zero_add];exact a3 i f _ hf' (jR (by omega))
         ·rw[Nat.zero_add];exact hs.snoc_fld he hf'
         ·have c1:=fG b1 b3 i f v' hf' hv' k hk;rw[b2] at c1;rw[← c1,aE.add_add];have:=hv.2 (off E fs i+k) (by rw[hP.wf.sum _ _ he];have:=eL (E:=E) hf';omega)
          rw[hcs] at this;simpa[Value.cells] using this)
        rw[hcs,show cs=(vs.flatMap fun v=>v.cells.toList).toArray by rw[b2]]
        cases hn:Nat.beq (mX E n fs 0 (.st ts) o r p).length fs.length with
        | true=>exact .agg he (Nat.eq_of_beq_eq_true hn) b1 hvs b3
        | false=>exact .undef
       | dead=>exact absurd rfl h2
       | _=>simp_all
      ·exact .undef
   ·cases fs with
    | nil=>exact ⟨by simp[mX],fun _ i a v ha=>by simp[mX] at ha⟩
    | cons f fs=>
     rw[mX];refine ⟨?_,fun hh i a v ha hv=>?_⟩
     ·have:=(ih.2 fs (j+1) (t:=t) (o:=o) (p:=p) vs.tail).1
      simp;omega
     ·cases i with
      | zero=>
       simp at ha;subst ha;obtain ⟨κ,c1,c2,c3,c4,c5⟩:=hh 0 f v rfl hv;exact ih.1 c1 c2 c3 c4 c5
      | succ i=>
       refine (ih.2 fs (j+1) (t:=t) (o:=o) (p:=p) vs.tail).2 (fun i' f' v' hf' hv'=>?_) i a v (by simpa using ha) (by cases vs <;> simp_all)
       have:=hh (i'+1) f' v' (by simpa using hf') (by cases vs <;> simp_all)
       rw[show j+1+i'=j+(i'+1) by omega];exact this
 intro ty t o p κ v h1 h2 h3 h4 h5;exact (key n).1 h1 h2 h3 h4 h5
theorem fM {a:Addr} (h:a.spot=none) (k:Nat):a.add k=⟨a.block,a.off+k,none⟩:=by
 obtain ⟨b,o,s⟩:=a;simp only at h;subst h;unfold Addr.add;split
 ·rename_i h;subst h;rfl
 ·rfl
theorem sc {a:Addr} (hs:a.spot=none) : ∀(n i:Nat) (acc:Array Value),(∀k,k < n→∃v,w.cell? ⟨a.block,a.off+(i+k),none⟩=some v)→
  ∃l:List Value,l.length=n∧(loadCellsFrom a i n acc).run P w = .ok (acc++l.toArray) w∧∀k,k < n→l[k]?=w.cell? ⟨a.block,a.off+(i+k),none⟩:=by
 intro n;induction n with
 | zero=>intro i acc _;exact ⟨[],rfl,by simp[loadCellsFrom],by simp⟩
 | succ n ih=>
  intro i acc h;obtain ⟨v,hv⟩:=h 0 (by omega)
  obtain ⟨l,h1,h2,h3⟩:=ih (i+1) (acc.push v) (fun k hk=>by rw[show i+1+k=i+(k+1) by omega];exact h (k+1) (by omega))
  refine ⟨v :: l,by simp[h1],?_,fun k hk=>?_⟩
  ·rw[Nat.add_zero] at hv;simp[loadCellsFrom,fM hs,hv,h2]
  ·cases k with
   | zero=>show some v=_;rw[hv]
   | succ k=>rw[show i+(k+1)=i+1+k by omega];simpa using h3 k (by omega)
theorem zj (hP:ba P E) {t:Nat} (h:bN E t=true):(isAgg t).run P w = .ok (match E.ty t with | .st _=>true | _=>false) w:=by
 cases he:E.ty t with
 | int k=>simp[isAgg,underlying,hP.int t k he]
 | bool=>simp[isAgg,underlying,hP.bool t he]
 | str=>simp[isAgg,underlying,hP.str t he]
 | sl e=>simp[isAgg,underlying,(hP.sl t e he).1]
 | st fs=>obtain ⟨fds,hu,_⟩:=hP.st t fs he;simp[isAgg,underlying,hu]
 | ptr e=>simp[isAgg,underlying,(hP.ptr t e he).1]
 | fn a b=>obtain ⟨v,hu⟩:=hP.fn t a b he;simp[isAgg,underlying,hu]
 | bad=>simp[bN,he] at h
 | cp=>simp[bN,he] at h
theorem fI (hP:ba P E) {t:Nat} (h:bN E t=true) {a:Addr} (hs:a.spot=none)
  (hc : ∀k,k < E.sz t→∃v,w.cell? ⟨a.block,a.off+k,none⟩=some v∧v.cells = #[v]) :
  ∃v,(loadVar t a).run P w = .ok v w∧pF E w (.mem a.block a.off) t v:=by
 obtain ⟨i,_,_,hsz,_⟩:=kr (w:=w) hP h;have hag:=zj (w:=w) hP h
 cases he:E.ty t with
 | st fs=>
  rw[he] at hag;obtain ⟨l,h1,h2,h3⟩:=sc (P:=P) hs (E.sz t) 0 #[] (fun k hk=>by obtain ⟨v,hv,_⟩:=hc k hk;exact ⟨v,by rw[Nat.zero_add];exact hv⟩)
  refine ⟨.agg l.toArray,?_,⟨by simp[Value.cells,h1],by rw[he];exact ⟨_,rfl⟩⟩,fun k hk=>?_⟩
  ·simp only[loadVar,Sem.run_bind,hag];simp[hsz,loadCells,h2]
  ·have:=h3 k hk;rw[Nat.zero_add] at this;simpa[Value.cells,rd,aE.add] using this
 | bad=>simp[bN,he] at h
 | cp=>simp[bN,he] at h
 | _=>
  rw[he] at hag;have h1:=hP.wf.one t (by simp[he])
  obtain ⟨v,hv,hv'⟩:=hc 0 (by omega)
  refine ⟨v,?_,bq hP.wf (by simp[he]) hv',fun k hk=>?_⟩
  ·have hv2:w.cell? a=some v:=by rw[← hv];congr 1;obtain ⟨b,o,s⟩:=a;simp only at hs;subst hs;rfl
   simp only[loadVar,Sem.run_bind,hag];simp[hv2]
  ·obtain rfl:k=0:=by omega
   simp[hv',rd,aE.add];exact hv.symm
end
section
variable {P:Program} {E:Env} {n:Nat} {st:St} {a:Act} {w:World} {g:Gh} {hold:Nat→aE} {look:Nat→Option Rt} {o:Oper} {b:Bool}
def fC (P:Program) (E:Env) (st:St) (a:Act) (w:World) (g:Gh) (hold:Nat→aE) (o:Oper) (e:Eff):Prop:=
 ∃av,e=⟨e.pre,true,none,fun _=>⟨av,[],[]⟩⟩∧(e.pre=true→Yld P E st a w g hold o av)
theorem fC.mk {b:Bool} {av:AV} {e:Eff} (h:one b av=some e) (hy:b=true→Yld P E st a w g hold o av):fC P E st a w g hold o e:=by
 simp only[one,Option.some.injEq] at h;subst h;exact ⟨av,rfl,hy⟩
theorem im {r:Nat} {R:Rt} (hr:dF E w g hold r R) {p:List aH} {ty:Nat} {κ:aE} (hs:Sub E w g r R.ty [] (hold r) p ty κ) :
  Rep E w g ty (R.t.get p) (R.o.get p) r p κ:=by simpa using Rep.sub hs hr.rep
theorem load_ok (hP:ba P E) (h:Inv E n st a w g hold) {t:Nat} {x:Operand} {e:Eff} (hop:o.op = .load t x) {av:AV} (hl : ∀r R,look r=some R→st.rt r=some R)
  (hv:b=true→aO E w g st.rt hold av (a.eval x)) (ht:bN E t=true)
  (he:loadE E look t b av=some e):fC P E st a w g hold o e:=by
 unfold loadE at he;split at he
 ·rename_i ty r p
  split at he
  ·rename_i R hR
   cases hc:Nat.beq ty t&&(R.o.get p).live with
   | false=>simp[hc] at he
   | true=>
    simp only[hc,cond_true] at he;simp only[Bool.and_eq_true] at hc;have:=Nat.eq_of_beq_eq_true hc.1;subst this;refine .mk he fun hb=>?_
    have hv:=hv hb;generalize hev:a.eval x=vx at hv
    cases hv with
    | pref a1 a2=>
     rename_i b' o' R'
     have:=hl r R hR;rw[this] at a1;cases a1;have hrep:=im (h.rts r R this) a2;obtain ⟨v,h1,h2⟩:=fI (P:=P) hP ht (a:=⟨b',o',none⟩) rfl (fun k hk=>by simpa[rd,aE.add] using hrep.cells hP.wf hc.2 k hk)
     refine ⟨v,?_,tJ hP this 9 hrep hc.2 a2 h2 ht⟩;simp[execOp,hop,hev,Instr.loadAt,Instr.sureAddr,h1]
  ·cases he
 ·rename_i ty v
  cases hc:Nat.beq ty t with
  | false=>simp[hc] at he
  | true=>
   simp only[hc,cond_true] at he;have:=Nat.eq_of_beq_eq_true hc;subst this;refine .mk he fun hb=>?_
   have hv:=hv hb;generalize hev:a.eval x=vx at hv
   cases hv with
   | fptr a1 a2 a3=>
    rename_i a'
    obtain ⟨v',h1,h2⟩:=fI (P:=P) hP ht a1 (fun k hk=>by simpa[rd,aE.add] using a3.cells hP.wf rfl k hk)
    refine ⟨v',by simp[execOp,hop,hev,Instr.loadAt,Instr.sureAddr,h1],.val (a3.place hP.wf h2.reg) h2.1⟩
 ·rename_i ty v
  split at he
  ·rename_i e hty
   cases hc:Nat.beq e t with
   | false=>simp[hc] at he
   | true=>
    simp only[hc,cond_true] at he;have:=Nat.eq_of_beq_eq_true hc;subst this;refine .mk he fun hb=>?_
    have hv:=hv hb;generalize hev:a.eval x=vx at hv
    cases hv with
    | val c1 c2=>
     have hs:=c2.2;rw[hty] at hs;simp only at hs
     rw[hs] at c1;cases c1 with
     | cp b1 b2 b3 b4 b5=>
      rename_i e' a'
      rw[hty] at b1;cases b1;simp[rd] at b2
      obtain ⟨v',h1,h2⟩:=fI (P:=P) hP ht b3 (fun k hk=>by simpa[rd,aE.add] using b5.cells hP.wf rfl k hk)
      refine ⟨v',by simp[execOp,hop,hev,b2,Instr.loadAt,Instr.sureAddr,h1],.val (b5.place hP.wf h2.reg) h2.1⟩
     | _=>simp_all
  ·cases he
 ·cases he
theorem oe (hP:ba P E) {t:Nat} {fs:List Nat} (hs:E.ty t = .st fs) {j:Nat} (hj:j < fs.length) :
  ∃fds fd f,fs.getD j 0=f∧fs[j]?=some f∧P.underlying t=some (.struct fds)∧fds[j]?=some fd∧fd.type=f∧fd.offset=off E fs j∧E.sz f≠0∧bN E f=true:=by
 obtain ⟨fds,hu,hsz,_,_,hfd⟩:=hP.st t fs hs;have h1:fs[j]?=some (fs.getD j 0):=by simp[hj]
 have h2:fds[j]?=some (fds[j]'(by omega)):=Array.getElem?_eq_getElem _
 obtain ⟨c1,c2,c3,_,c5⟩:=hfd j _ _ h1 h2;exact ⟨fds,_,_,rfl,h1,hu,h2,c1,c2,c3,c5⟩
theorem Tz (hP:ba P E) (h:Inv E n st a w g hold) {t j:Nat} {x:Operand} {e:Eff} (hop:o.op = .fieldAddr t x j) {av:AV}
  (hv:b=true→aO E w g st.rt hold av (a.eval x))
  (he:mP E t j b av=some e):fC P E st a w g hold o e:=by
 unfold mP at he;split at he
 rotate_left
 ·cases he
 rename_i fs hs
 have run : ∀{a':Addr},a'.spot=none→j < fs.length→a.eval x = .pointer (some a')→
   (execOp a.eval o).run P w = .ok (.value (.pointer (some ⟨a'.block,a'.off+off E fs j,none⟩))) w:=by
  intro a' ha hj hev;obtain ⟨fds,fd,f,_,_,hu,hfd,c1,c2,c3,c5⟩:=oe hP hs hj;obtain ⟨i,hi,_,hsz,_⟩:=kr (w:=w) hP c5;simp[execOp,hop,hev,Instr.fieldAt,underlying,hu,hfd,Instr.sureAddr,fieldPlace,c1,hsz,c3,c2,fM ha]
 split at he
 ·rename_i ty r p
  cases hc:Nat.beq ty t&&decide (j < fs.length) with
  | false=>simp[hc] at he
  | true=>
   simp only[hc,cond_true] at he;simp only[Bool.and_eq_true,decide_eq_true_eq] at hc;have:=Nat.eq_of_beq_eq_true hc.1;subst this;refine .mk he fun hb=>?_
   have hv:=hv hb;generalize hev:a.eval x=vx at hv
   cases hv with
   | pref a1 a2=>
    obtain ⟨_,_,f,hff,hf,_⟩:=oe hP hs hc.2;rw[hff];exact ⟨_,run rfl hc.2 hev,.pref a1 (by simpa[aE.add] using a2.snoc_fld hs hf)⟩
 ·rename_i ty v
  cases hc:Nat.beq ty t&&decide (j < fs.length) with
  | false=>simp[hc] at he
  | true=>
   simp only[hc,cond_true] at he;simp only[Bool.and_eq_true,decide_eq_true_eq] at hc;have:=Nat.eq_of_beq_eq_true hc.1;subst this;refine .mk he fun hb=>?_
   have hv:=hv hb;generalize hev:a.eval x=vx at hv
   cases hv with
   | fptr a1 a2 a3=>
    obtain ⟨_,_,f,hff,hf,_⟩:=oe hP hs hc.2;rw[hff];refine ⟨_,run a1 hc.2 hev,.fptr rfl a2 ?_⟩;cases a3 with
    | st b1 b2 b3=>
     rw[hs] at b1;cases b1;have:=b3 j _ _ hf (jR (by omega))
     exact (this.frozen rfl (fun _ h=>h) _ _)
    | _=>simp_all
 ·cases he
theorem sY (hP:ba P E) {t e:Nat} (hs:E.ty t = .sl e) {x i:Operand} (hop:o.op = .indexAddr t x i) {a':Addr} {len cap:Nat} {k:IntKind} {j:Int}
  (hx:a.eval x = .slice (some a') len cap) (hi:a.eval i = .int k j) (h0:0≤j) (h1:j.toNat < len) (ha:a'.spot=none) :
  (execOp a.eval o).run P w = .ok (.value (.pointer (some ⟨a'.block,a'.off+j.toNat * E.sz e,none⟩))) w:=by
 obtain ⟨i',hi',_,hsz,_⟩:=kr (w:=w) hP (hP.sl t e hs).2;have:j < (len:Int):=by omega
 simp only[execOp,hop,hx,hi,Instr.indexAt];simp[asIntOf,underlying,(hP.sl t e hs).1,hsz,h0,this,fM ha]
theorem sX (hP:ba P E) (h:Inv E n st a w g hold) {t ety:Nat} {x i:Operand} {e:Eff} (hop:o.op = .indexAddr t x i) {av:AV} {j:Int} {k:IntKind}
  (hl : ∀r R,look r=some R→st.rt r=some R) (hv:b=true→aO E w g st.rt hold av (a.eval x)) (hs:E.ty t = .sl ety) (hi:b=true→a.eval i = .int k j)
  (he:idxE E look t ety b av j=some e):fC P E st a w g hold o e:=by
 unfold idxE at he;split at he
 ·rename_i ty v
  cases hc:Nat.beq t ty with
  | false=>simp[hc] at he
  | true=>
   simp only[hc,cond_true] at he;have:=Nat.eq_of_beq_eq_true hc;subst this;refine .mk he fun hb=>?_
   simp only[Bool.and_eq_true,decide_eq_true_eq] at hb;obtain ⟨hb,h0,h1⟩:=hb;have hv:=hv hb;generalize hev:a.eval x=vx at hv
   cases hv with
   | val a1 a2=>
    have hsh:=a2.2;rw[hs] at hsh;simp only at hsh
    rw[hsh] at a1;cases a1 with
    | fz b1 b2 b3 b4 b5 b6=>
     rw[hs] at b1;cases b1;simp[rd] at b2;subst b2;refine ⟨_,sY hP hs hop hev (hi hb) h0 h1 b3,.fptr rfl b5 ?_⟩;exact b6 _ _ (rq h1)
    | fz0 b1 b2=>simp[T.es] at h1
    | own0 b1 b2=>simp[O.own] at b2
    | own b1 b2=>simp[O.own] at b2
    | _=>simp_all
 ·rename_i ty r p
  split at he
  ·rename_i R hR
   cases hc:Nat.beq t ty&&(R.o.get p).own with
   | false=>simp[hc] at he
   | true=>
    simp only[hc,cond_true] at he;simp only[Bool.and_eq_true] at hc;have:=Nat.eq_of_beq_eq_true hc.1;subst this;refine .mk he fun hb=>?_
    simp only[Bool.and_eq_true,decide_eq_true_eq] at hb;obtain ⟨hb,h0,h1⟩:=hb;have hv:=hv hb;generalize hev:a.eval x=vx at hv
    cases hv with
    | sref a1 a2 a3 a4=>
     have hR':=hl r R hR;rw[hR'] at a1;cases a1;have hrep:=im (h.rts r R hR') a3;generalize hT:R.t.get p=tt at hrep h1
     generalize hO:R.o.get p=oo at hrep hc
     cases hrep with
     | own b1 b2 b3 b4 b5 b6 b7 b8=>
      rw[hs] at b1;cases b1;rw[a4] at b3;simp only[Option.some.injEq,Value.slice.injEq] at b3;obtain ⟨rfl,rfl,rfl⟩:=b3;refine ⟨_,sY hP hs hop hev (hi hb) h0 (by simpa[T.es] using h1) b4,.pref hR' ?_⟩
      exact a3.snoc_idx hs a4 (by simpa[T.es] using h1) b4 (by simpa using b6)
     | own0 b1 b2 b3=>simp[T.es] at h1
     | fz0 b1 b2=>simp[T.es] at h1
     | fo0 b1 b2=>simp[T.es] at h1
     | fz=>simp[O.own] at hc
     | fo=>simp[O.own] at hc
     | dead=>simp[O.own] at hc
     | _=>simp_all
  ·cases he
 ·rename_i ty r p lo hi'
  split at he
  ·rename_i R hR
   cases hc:Nat.beq t ty&&(R.o.get p).own with
   | false=>simp[hc] at he
   | true=>
    simp only[hc,cond_true] at he;simp only[Bool.and_eq_true] at hc;have:=Nat.eq_of_beq_eq_true hc.1;subst this;refine .mk he fun hb=>?_
    simp only[Bool.and_eq_true,decide_eq_true_eq] at hb;obtain ⟨hb,h0,h1⟩:=hb;have hv:=hv hb;generalize hev:a.eval x=vx at hv
    cases hv with
    | sub a1 a2 a3 a4 a5 a6 a7 a8 a9=>
     rename_i A len cap A' cap' R' κ
     have hR':=hl r R hR;rw[hR'] at a1;cases a1;have hrep:=im (h.rts r R hR') a3;rw[hs] at a2;cases a2;generalize hT:R.t.get p=tt at hrep
     generalize hO:R.o.get p=oo at hrep hc
     cases hrep with
     | own b1 b2 b3 b4 b5 b6 b7 b8=>
      rw[hs] at b1;cases b1;rw[a4] at b3;simp only[Option.some.injEq,Value.slice.injEq] at b3;obtain ⟨rfl,rfl,rfl⟩:=b3;rename_i es aa
      have hA:A'=some ⟨aa.block,aa.off+lo * E.sz ety,none⟩:=by
       rcases a9 with ⟨c1,_⟩ | ⟨b',x',y',c1,c2,c3,c4⟩
       ·cases c1
       ·simp only[Option.some.injEq] at c1;subst c1;rcases c4 with c4 | c4
        ·omega
        ·rw[c2,c4]
      subst hA;refine ⟨_,sY hP hs hop hev (hi hb) h0 (by omega) rfl,.pref hR' ?_⟩
      have:=a3.snoc_idx (i:=lo+j.toNat) hs a4 (by omega) b4 (by simpa using b6)
      simp only
      rw[show aa.off+lo * E.sz ety+j.toNat * E.sz ety=aa.off+(lo+j.toNat) * E.sz ety by rw[Nat.add_mul];omega]
      exact this
     | own0 b1 b2 b3=>rw[a4] at b3;cases b3;omega
     | fz0 b1 b2=>rw[a4] at b2;cases b2;omega
     | fo0 b1 b2=>rw[a4] at b2;cases b2;omega
     | fz=>simp[O.own] at hc
     | fo=>simp[O.own] at hc
     | dead=>simp[O.own] at hc
     | _=>simp_all
  ·cases he
 ·cases he
end
section
variable {P:Program} {E:Env} {n:Nat} {st:St} {a:Act} {w:World} {g:Gh} {hold:Nat→aE} {look:Nat→Option Rt} {o:Oper} {b:Bool}
theorem yK {x:Operand} {e:Eff} (hop:o.op = .assign x) {av:AV} (hv:b=true→aO E w g st.rt hold av (a.eval x)) (he:one b av=some e):fC P E st a w g hold o e:=
 .mk he fun hb=>⟨_,by simp[execOp,hop],hv hb⟩
theorem tB (hE:bl E) {rt:Nat→Option Rt} {ty:Nat} {v vx:Value} {t:T} (h:jL (E.ty ty) v=some t) (hx:aO E w g rt hold (.cst v) vx):aO E w g rt hold (.val ty t) vx:=by
 cases hx;obtain ⟨h1,h2⟩:=lZ (w:=w) (g:=g) (r:=0) (p:=[]) hE (.inr rfl) h;exact .val h1 h2
theorem move_ok (hE:bl E) {ty:Nat} {x:Operand} {e:Eff} (hop:o.op = .move x) {av:AV} (hv:b=true→aO E w g st.rt hold av (a.eval x)) (he:one b (mvAv E ty av)=some e):fC P E st a w g hold o e:=by
 refine .mk he fun hb=>⟨a.eval x,by simp[execOp,hop],?_⟩
 have hv:=hv hb;unfold mvAv;split
 ·rename_i v
  split
  ·rename_i t ht
   cases (isSl E ty).isSome with
   | true=>exact hv
   | false=>exact tB hE ht hv
  ·exact hv
 ·exact hv
theorem pick_ok (hP:ba P E) {c x y:Operand} {e:Eff} (hop:o.op = .pick c x y) {qc qa qb:Bool} {ac ax ay:AV}
  (hc:qc=true→aO E w g st.rt hold ac (a.eval c)) (hx:qa=true→aO E w g st.rt hold ax (a.eval x)) (hy:qb=true→aO E w g st.rt hold ay (a.eval y))
  (he:pickE E qc qa qb ac ax ay=some e):fC P E st a w g hold o e:=by
 unfold pickE at he;split at he
 ·rename_i tyc tc
  cases hbt:cT E tyc with
  | false=>simp[hbt] at he
  | true=>
   simp only[hbt,cond_true] at he;have go : ∀{ty:Nat} {ta tb:T},(qa=true→aO E w g st.rt hold (.val ty ta) (a.eval x))→(qb=true→aO E w g st.rt hold (.val ty tb) (a.eval y))→
     one (qc&&(bif tc.b then qa else qb)) (.val ty (bif tc.b then ta else tb))=some e→fC P E st a w g hold o e:=by
    intro ty ta tb h1 h2 he;refine .mk he fun hb=>?_
    simp only[Bool.and_eq_true] at hb;have hcv:=ji hP.wf (fF hbt) (show vt E tyc (.val tyc tc)=some tc by simp[vt,sn]) (hc hb.1)
    cases htc:tc.b with
    | true=>
     rw[htc] at hcv hb;exact ⟨a.eval x,by simp[execOp,hop,hcv,asBool],by simpa using h1 (by simpa using hb.2)⟩
    | false=>
     rw[htc] at hcv hb;exact ⟨a.eval y,by simp[execOp,hop,hcv,asBool],by simpa using h2 (by simpa using hb.2)⟩
   split at he
   ·rename_i ty ta ty' tb
    cases hbq:Nat.beq ty ty' with
    | false=>simp[hbq] at he
    | true=>
     simp only[hbq,cond_true] at he;have:=Nat.eq_of_beq_eq_true hbq;subst this;exact go hx hy he
   ·rename_i ty ta v
    split at he
    ·rename_i tb hcv
     exact go hx (fun h=>tB hP.wf hcv (hy h)) he
    ·cases he
   ·rename_i v ty tb
    split at he
    ·rename_i ta hcv
     exact go (fun h=>tB hP.wf hcv (hx h)) hy he
    ·cases he
   ·cases he
 ·cases he
theorem nil_ok {x:Operand} {e:Eff} (hop:o.op = .nilCheck x) {av:AV} (hv:b=true→aO E w g st.rt hold av (a.eval x)) (he:nilE b av=some e):fC P E st a w g hold o e:=by
 unfold nilE at he;split at he
 ·refine .mk he fun hb=>?_
  have hv:=hv hb;generalize hev:a.eval x=vx at hv
  cases hv with
  | pref h1 h2=>exact ⟨_,by simp[execOp,hop,hev],.pref h1 h2⟩
 ·refine .mk he fun hb=>?_
  have hv:=hv hb;generalize hev:a.eval x=vx at hv
  cases hv with
  | fptr h1 h2 h3=>exact ⟨_,by simp[execOp,hop,hev],.fptr h1 h2 h3⟩
 ·cases he
theorem un_ok (hP:ba P E) {op:UnOp} {t:Nat} {x:Operand} {e:Eff} (hop:o.op = .unOp op t x) {av:AV} (hv:b=true→aO E w g st.rt hold av (a.eval x))
  (he:unE E op t b av=some e):fC P E st a w g hold o e:=by
 unfold unE at he;split at he
 ·rename_i v hk ht
  refine .mk he fun hb=>?_
  have:=ji hP.wf ht hk (hv hb)
  exact ⟨_,by simp[execOp,hop,this,Op.unary],nY hP.wf ht⟩
 ·rename_i v k hk ht
  refine .mk he fun hb=>?_
  have:=kT hP.wf ht hk (hv hb)
  exact ⟨_,by simp[execOp,hop,this,Op.unary,Op.intArith],nZ hP.wf ht⟩
 ·cases he
theorem Bd {x:Operand} {j:Nat} {e:Eff} (hop:o.op = .extract x j) {av:AV} (hv:b=true→aO E w g st.rt hold av (a.eval x)) (he:uq j b av=some e) :
  fC P E st a w g hold o e:=by
 unfold uq at he;split at he
 ·rename_i l
  cases hj:decide (j < l.length) with
  | false=>simp[hj] at he
  | true=>
   simp only[hj,cond_true] at he;have hj:=of_decide_eq_true hj;refine .mk he fun hb=>?_
   have hv:=hv hb;generalize hev:a.eval x=vx at hv
   cases hv with
   | tup h1 h2=>
    rename_i vs
    have hj2:vs[j]?=some (vs[j]'(by omega)):=List.getElem?_eq_getElem _
    exact ⟨vs[j]'(by omega),by simp[execOp,hop,hev,Instr.extract,hj2],h2 j _ _ (by simp[hj]) hj2⟩
 ·cases he
theorem mx_ok (hP:ba P E) {mx:Bool} {x y:Operand} {e:Eff} {tys:Array TypeId} (hop:o.op = .call { callee:=.builtin (if mx then .max else .min),args:=#[x,y],argTypes:=tys })
  {ax ay:AV} (hx:b=true→aO E w g st.rt hold ax (a.eval x)) (hy:b=true→aO E w g st.rt hold ay (a.eval y)) (he:mxE E mx o.type b ax ay=some e) :
  fC P E st a w g hold o e:=by
 unfold mxE at he;split at he
 ·rename_i ta tb h1 h2
  cases hi:qC E o.type with
  | false=>simp[hi] at he
  | true=>
   simp only[hi,cond_true] at he;obtain ⟨k,hk⟩:=uy hi;refine .mk he fun hb=>?_
   have e1:=kT hP.wf hk h1 (hx hb);have e2:=kT hP.wf hk h2 (hy hb);refine ⟨_,?_,nZ hP.wf hk⟩;cases mx
   ·by_cases hlt:tb.i < ta.i <;> simp[execOp,hop,resolve,invoke,builtin,Builtin.min_,Builtin.min2,e1,e2,hlt]
   ·by_cases hlt:ta.i < tb.i <;> simp[execOp,hop,resolve,invoke,builtin,Builtin.max_,Builtin.max2,e1,e2,hlt]
 ·cases he
theorem index_ok (hP:ba P E) {t:Nat} {x i:Operand} {e:Eff} (hop:o.op = .index t x i) {ax ai:AV} (hx:b=true→aO E w g st.rt hold ax (a.eval x))
  (hi:b=true→aO E w g st.rt hold ai (a.eval i)) (he:zh E o.type t b ax ai=some e):fC P E st a w g hold o e:=by
 unfold zh at he;split at he
 ·rename_i v b' i' ht h1 h2 hr
  refine .mk he fun hb=>?_
  simp only[Bool.and_eq_true,decide_eq_true_eq] at hb;obtain ⟨hb,hb',h0,h3⟩:=hb;have e1:=og hP.wf ht h1 (hx hb);obtain ⟨k,e2⟩:=sI hP.wf h2 hb' (hi hb);refine ⟨_,?_,nZ hP.wf hr⟩;have hlt:i'.toNat < v.s.data.size:=h3
  have:v.s[i'.toNat]?=some (v.s.data.getD i'.toNat 0):=by
   rw[getElem?_pos v.s i'.toNat h3];have h5:v.s.data.getD i'.toNat 0=v.s.data[i'.toNat]:=by unfold Array.getD;rw[dif_pos hlt];rfl
   rw[h5];rfl
  simp[execOp,hop,e1,e2,Instr.index,asIntOf,underlying,hP.str t ht,h0,this]
 ·cases he
theorem Rep.len {ty:Nat} {t:T} {o:O} {r:Nat} {p:List aH} {κ:aE} {A:Option Addr} {k cap e:Nat} (hr:Rep E w g ty t o r p κ) (he:E.ty ty = .sl e) (hlv:o.live=true) (hk:rd w κ=some (.slice A k cap)):k=t.es.length∧k≤cap:=by
 cases hr with
 | fz0 _ h=>rw[h] at hk;cases hk;exact ⟨rfl,by omega⟩
 | fo0 _ h=>rw[h] at hk;cases hk;exact ⟨rfl,by omega⟩
 | fz _ h _ h4=>rw[h] at hk;cases hk;exact ⟨rfl,h4⟩
 | fo _ h _ h4=>rw[h] at hk;cases hk;exact ⟨rfl,h4⟩
 | own0 _ _ h=>rw[h] at hk;cases hk;exact ⟨rfl,by omega⟩
 | own _ _ h _ h5=>rw[h] at hk;cases hk;exact ⟨rfl,h5⟩
 | dead=>simp[O.live] at hlv
 | _=>simp_all
theorem Bk (hP:ba P E) (h:Inv E n st a w g hold) {t:Nat} {x:Operand} {e:Eff} (hop:o.op = .load t x) {av:AV} (hl : ∀r R,look r=some R→st.rt r=some R)
  (hv:b=true→aO E w g st.rt hold av (a.eval x)) (ht:bN E t=true) (he:uA E look t b av=some e):fC P E st a w g hold o e:=by
 unfold uA at he;split at he
 ·rename_i ty r p e' hty
  split at he
  ·rename_i R hR
   cases hc:Nat.beq ty t&&(R.o.get p).live with
   | false=>simp[hc] at he
   | true=>
    simp only[hc,cond_true] at he;simp only[Bool.and_eq_true] at hc;have:=Nat.eq_of_beq_eq_true hc.1;subst this;refine .mk he fun hb=>?_
    have hv:=hv hb;generalize hev:a.eval x=vx at hv
    cases hv with
    | pref a1 a2=>
     rename_i b' o' R'
     have:=hl r R hR;rw[this] at a1;cases a1;have hrep:=im (h.rts r R this) a2;obtain ⟨v,h1,h2⟩:=fI (P:=P) hP ht (a:=⟨b',o',none⟩) rfl (fun k hk=>by simpa[rd,aE.add] using hrep.cells hP.wf hc.2 k hk)
     have hsh:=h2.1.2;rw[hty] at hsh;simp only at hsh
     have h0:=h2.2 0 (by rw[hP.wf.one _ (by simp[hty])];omega)
     rw[aE.add_zero,hsh] at h0;obtain ⟨A,m,c,hcell⟩:=hrep.slice_cell hty (by intro hd;rw[hd] at hc;simp[O.live] at hc)
     obtain ⟨e1,e2⟩:=hrep.len hty hc.2 hcell;have h0':some v=rd w (.mem b' o'):=by simpa using h0
     rw[hcell] at h0';cases h0';subst e1;exact ⟨.slice A (R.t.get p).es.length c,by simp[execOp,hop,hev,Instr.loadAt,Instr.sureAddr,h1],.ln e2⟩
  ·cases he
 ·cases he
theorem jX (hE:bl E) (h:Inv E n st a w g hold) (hl : ∀r R,look r=some R→st.rt r=some R) {ty e:Nat} {x:AV} {v:Value} {m:Nat} (ht:E.ty ty = .sl e)
  (hlen:lenE E look ty x=some m) (hx:aO E w g st.rt hold x v) : ∃A cap,v = .slice A m cap∧m≤cap:=by
 simp only[lenE,ht] at hlen;have viaRep : ∀{t:T} {o:O} {r:Nat} {p:List aH} {κ:aE} {A:Option Addr} {k cap:Nat},Rep E w g ty t o r p κ→o.live=true→rd w κ=some (.slice A k cap)→k=t.es.length∧k≤cap:=by
  intro t o r p κ A k cap hr hlv hk;cases hr with
  | fz0 _ h=>rw[h] at hk;cases hk;exact ⟨rfl,by omega⟩
  | fo0 _ h=>rw[h] at hk;cases hk;exact ⟨rfl,by omega⟩
  | fz _ h _ h4=>rw[h] at hk;cases hk;exact ⟨rfl,h4⟩
  | fo _ h _ h4=>rw[h] at hk;cases hk;exact ⟨rfl,h4⟩
  | own0 _ _ h=>rw[h] at hk;cases hk;exact ⟨rfl,by omega⟩
  | own _ _ h _ h5=>rw[h] at hk;cases hk;exact ⟨rfl,h5⟩
  | dead=>simp[O.live] at hlv
  | _=>simp_all
 split at hlen
 ·rename_i ty' r p lo hi
  cases hb:Nat.beq ty ty' with
  | false=>simp[hb] at hlen
  | true=>
   simp[hb] at hlen;subst hlen;cases hx with
   | sub h1 h2 h3 h4 h5 h6 h7 h8 h9=>exact ⟨_,_,rfl,h7⟩
 ·rename_i ty' n'
  cases hb:Nat.beq ty ty' with
  | false=>simp[hb] at hlen
  | true=>
   simp[hb] at hlen;subst hlen;cases hx with
   | ln h1=>exact ⟨_,_,rfl,h1⟩
 ·cases hlen
 ·cases hlen
 ·rename_i hns hnl hna hnr
  simp only[Option.map_eq_some_iff] at hlen;obtain ⟨t,ht',rfl⟩:=hlen;cases x with
  | sub ty' r p lo hi=>exact absurd rfl (hns ty' r p lo hi)
  | sref ty' r p=>
   simp only[sn] at ht';split at ht'
   ·rename_i R hR
    cases hc:Nat.beq ty' ty&&(R.o.get p).live with
    | false=>simp[hc] at ht'
    | true=>
     simp[hc] at ht';subst ht';simp only[Bool.and_eq_true] at hc;have:=Nat.eq_of_beq_eq_true hc.1;subst this;cases hx with
     | sref a1 a2 a3 a4=>
      have hR':=hl r R hR;rw[hR'] at a1;cases a1;obtain ⟨e1,e2⟩:=viaRep (im (h.rts r R hR') a3) hc.2 a4;exact ⟨_,_,by rw[e1],by rw[← e1];exact e2⟩
   ·cases ht'
  | val ty' t'=>
   have hv:sn E fB ty (.val ty' t')=some t:=by simpa[sn] using ht'
   obtain ⟨h1,h2⟩:=iZ hE hv hx;have hs:=h2.2;rw[ht] at hs;simp only at hs
   rw[hs] at h1;obtain ⟨A,k,cap,hk⟩:=h1.slice_cell ht (by simp)
   obtain ⟨e1,e2⟩:=viaRep h1 rfl hk;simp[rd] at hk;subst hk;exact ⟨_,_,by rw[e1],by rw[← e1];exact e2⟩
  | nil ty'=>
   simp only[sn] at ht';cases hbq:Nat.beq ty' ty with
   | false=>simp[hbq] at ht'
   | true=>
    simp[hbq] at ht';subst ht';cases hx with
    | nil=>exact ⟨_,_,rfl,by simp[T.es]⟩
  | cst c=>
   simp only[sn] at ht';cases hx;obtain ⟨h1,h2⟩:=lZ (w:=w) (g:=g) (r:=0) (p:=[]) hE (.inr rfl) ht';have hs:=h2.2;rw[ht] at hs;simp only at hs
   rw[hs] at h1;obtain ⟨A,k,cap,hk⟩:=h1.slice_cell ht (by simp)
   obtain ⟨e1,e2⟩:=viaRep h1 rfl hk;simp[rd] at hk;subst hk;exact ⟨_,_,by rw[e1],by rw[← e1];exact e2⟩
  | fnc f=>simp[sn,ht] at ht'
  | ln ty' n'=>exact absurd rfl (hnl ty' n')
  | alt ty' r p t'=>exact absurd rfl (hna ty' r p t')
  | row ty' d t' a'=>exact absurd rfl (hnr ty' d t' a')
  | agg ty' l=>simp[sn,ht] at ht'
  | pv ty' a=>simp[sn,ht] at ht'
  | _=>simp[sn] at ht'
theorem zp (hE:bl E) (h:Inv E n st a w g hold) (hl : ∀r R,look r=some R→st.rt r=some R) {ty:Nat} {x:AV} {v:Value} {m:Nat}
  (hlen:lnE E look ty x=some m) (hx:aO E w g st.rt hold x v):(∃e,E.ty ty = .sl e)∧∃A cap,v = .slice A m cap∧m≤cap:=by
 unfold lnE at hlen;split at hlen
 ·rename_i e ht
  refine ⟨⟨e,ht⟩,?_⟩;split at hlen
  ·rename_i ty' r p t
   cases hb:Nat.beq ty ty' with
   | false=>simp[hb] at hlen
   | true=>
    simp[hb] at hlen;subst hlen;have:=Nat.eq_of_beq_eq_true hb;subst this;cases hx with
    | alt a1 a2 a3 a4 a5 a6=>
     have hs:=a2.2;rw[ht] at hs;simp only at hs
     rw[hs] at a5;obtain ⟨A,k,cap,hk⟩:=a5.slice_cell ht (by intro hd;rw[hd] at a3;simp[O.live] at a3)
     have hkv:v = .slice A k cap:=by simpa[rd] using hk
     have:k=t.es.length∧k≤cap:=by
      rename_i R κ
      generalize R.o.get p=o at a5 a3
      cases a5 with
      | fz0 _ h=>rw[h] at hk;cases hk;exact ⟨rfl,by omega⟩
      | fo0 _ h=>rw[h] at hk;cases hk;exact ⟨rfl,by omega⟩
      | fz _ h _ h4=>rw[h] at hk;cases hk;exact ⟨rfl,h4⟩
      | fo _ h _ h4=>rw[h] at hk;cases hk;exact ⟨rfl,h4⟩
      | own0 _ _ h=>rw[h] at hk;cases hk;exact ⟨rfl,by omega⟩
      | own _ _ h _ h5=>rw[h] at hk;cases hk;exact ⟨rfl,h5⟩
      | dead=>simp[O.live] at a3
      | _=>simp_all
     exact ⟨A,cap,by rw[hkv,this.1],by rw[← this.1];exact this.2⟩
  ·exact jX hE h hl ht hlen hx
 ·cases hlen
theorem len_ok (hP:ba P E) (h:Inv E n st a w g hold) (hl : ∀r R,look r=some R→st.rt r=some R) {t:Nat} {x:Operand} {e:Eff}
  (hop:o.op = .call { callee:=.builtin .len,args:=#[x],argTypes:=#[t] }) {av:AV} (hx:b=true→aO E w g st.rt hold av (a.eval x))
  (he:lenOp E look o.type t b av=some e):fC P E st a w g hold o e:=by
 unfold lenOp at he;split at he
 ·rename_i m hr hm
  refine .mk he fun hb=>?_
  have hx:=hx hb;cases ht:E.ty t with
  | str=>
   have hm':=hm;simp only[lenE,ht,Option.map_eq_some_iff] at hm';obtain ⟨v,hv,rfl⟩:=hm';have:=og hP.wf ht hv hx
   exact ⟨_,by simp[execOp,hop,resolve,invoke,builtin,Builtin.len_,underlying,hP.str t ht,this,goInt],nZ hP.wf hr⟩
  | sl e'=>
   obtain ⟨A,cap,hv,_⟩:=jX hP.wf h hl ht hm hx;exact ⟨_,by simp[execOp,hop,resolve,invoke,builtin,Builtin.len_,underlying,(hP.sl t e' ht).1,hv,goInt],nZ hP.wf hr⟩
  | _=>simp[lenE,ht] at hm
 ·cases he
end
section
variable {P:Program} {E:Env} {n:Nat} {st:St} {a:Act} {w:World} {g:Gh} {hold:Nat→aE} {look:Nat→Option Rt} {o:Oper} {b:Bool}
def BV (x:Option Value) (d i:Int):Prop:=match x with
 | none=>i=d
 | some v=>∃k,v = .int k i
theorem gF {i:Int} {k:IntKind} {y:Nat} {c:BoundsCode} (h0:0≤i) (h1:i≤y):(Instr.sliceBound (.int k i) y c).run P w = .ok i.toNat w:=by
 simp[Instr.sliceBound,asIntOf,h0,h1]
theorem pB {s:Bool} {len cap:Nat} {lo hi mx:Option Value} {l h m:Int} (hl:BV lo 0 l) (hh:BV hi len h) (hm:BV mx cap m) (h0:0≤l) (h1:l≤h) (h2:h≤m)
  (h3:m≤cap) (h4:mx=none∨hi≠none):(Instr.sliceBounds s len cap lo hi mx).run P w = .ok (l.toNat,h.toNat,m.toNat) w:=by
 have hm0:0≤m:=by omega
 have hh0:0≤h:=by omega
 have e1:h≤(m.toNat:Int):=by omega
 have e2:l≤(h.toNat:Int):=by omega
 cases mx with
 | none=>
  simp only[BV] at hm;subst hm;cases hi with
  | none=>
   simp only[BV] at hh;subst hh;cases lo with
   | none=>simp only[BV] at hl;subst hl;simp[Instr.sliceBounds]
   | some v=>obtain ⟨k,rfl⟩:=hl;simp[Instr.sliceBounds,gF h0 h1]
  | some v=>
   obtain ⟨k,rfl⟩:=hh;cases lo with
   | none=>simp only[BV] at hl;subst hl;simp[Instr.sliceBounds,gF hh0 h2]
   | some v=>obtain ⟨k',rfl⟩:=hl;simp[Instr.sliceBounds,gF hh0 h2,gF h0 e2]
 | some v=>
  obtain ⟨k,rfl⟩:=hm;cases hi with
  | none=>simp at h4
  | some v=>
   obtain ⟨k',rfl⟩:=hh;cases lo with
   | none=>simp only[BV] at hl;subst hl;simp[Instr.sliceBounds,gF hm0 h3,gF hh0 e1]
   | some v=>obtain ⟨k'',rfl⟩:=hl;simp[Instr.sliceBounds,gF hm0 h3,gF hh0 e1,gF h0 e2]
theorem yN (hE:bl E) {rt:Nat→Option Rt} {d:Nat} {ρ:Operand→AV} (hρ : ∀x,aO E w g rt hold (ρ x) (a.eval x)) {x:Option Operand} {bb:Bool} {i:Int}
  (h:bnd E d (x.map ρ)=some (bb,i)) (hb:bb=true):BV (x.map a.eval) d i:=by
 cases x with
 | none=>simp[bnd] at h;simp[BV,h.2]
 | some x=>exact sI hE h hb (hρ x)
theorem pH {es:List T} {l h i:Nat} {t:T} (hi:((es.take h).drop l)[i]?=some t):es[l+i]?=some t∧l+i < h:=by
 rw[List.getElem?_drop,List.getElem?_take] at hi;split at hi
 ·exact ⟨hi,by omega⟩
 ·cases hi
theorem slice_ok (hP:ba P E) (h:Inv E n st a w g hold) (hl : ∀r R,look r=some R→st.rt r=some R) {t:Nat} {x:Operand} {lo hi mx:Option Operand} {e:Eff}
  {ρ:Operand→AV} (hρ : ∀x,aO E w g st.rt hold (ρ x) (a.eval x)) (hop:o.op = .slice t x lo hi mx) {av:AV} (hx:b=true→aO E w g st.rt hold av (a.eval x))
  (he:zQ E look t b av (lo.map ρ) (hi.map ρ) (mx.map ρ)=some e):fC P E st a w g hold o e:=by
 unfold zQ at he;split at he
 ·cases he
 rename_i m hm
 split at he
 rotate_left
 ·cases he
 rename_i b0 l b1 hh b2 mm h0 h1 h2
 simp only at he
 have hpre : ∀{x:Bool},(b&&(b0&&(b1&&(b2&&(decide (0≤l)&&(decide (l≤hh)&&(decide (hh≤mm)&&decide (mm≤↑m))))))))=true→
   b=true∧BV (lo.map a.eval) 0 l∧BV (hi.map a.eval) m hh∧BV (mx.map a.eval) m mm∧0≤l∧l≤hh∧hh≤mm∧mm≤m:=by
  intro _ hp;simp only[Bool.and_eq_true,decide_eq_true_eq] at hp;obtain ⟨p1,p2,p3,p4,p5,p6,p7,p8⟩:=hp;exact ⟨p1,by simpa using yN hP.wf hρ h0 p2,yN hP.wf hρ h1 p3,yN hP.wf hρ h2 p4,p5,p6,p7,p8⟩
 split at he
 ·rename_i ht
  cases hmx:mx with
  | some y=>rw[hmx] at he;simp at he
  | none=>
   simp only[hmx,Option.map_none,Option.isNone_none,cond_true] at he;split at he
   ·rename_i v hv
    refine .mk he fun hb=>?_
    obtain ⟨p1,p2,p3,p4,p5,p6,p7,p8⟩:=hpre (x:=true) hb;have hvx:=og hP.wf ht hv (hx p1);have hm':m=v.s.size:=by simp only[lenE,ht,hv,Option.map_some,Option.some.injEq] at hm;exact hm.symm
    subst hm';have hmm:mm=v.s.size:=by rw[hmx] at p4;simpa[BV] using p4
    have hb:=pB (P:=P) (w:=w) (s:=false) (mx:=none) p2 p3 (m:=v.s.size) rfl p5 p6 (by omega) (by omega) (.inl rfl)
    exact ⟨_,by simp[execOp,hop,hmx,hvx,Instr.sliceAt,Instr.slice,underlying,hP.str t ht,hb],tI hP.wf ht⟩
   ·cases he
 ·rename_i e' ht
  cases hmh:mx.isSome&&hi.isNone with
  | true=>simp[hmh] at he
  | false=>
  have h4:mx.map a.eval=none∨hi.map a.eval≠none:=by
   cases mx <;> cases hi <;> simp_all
  have hmh':((mx.map ρ).isSome&&(hi.map ρ).isNone)=false:=by simpa using hmh
  simp only[hmh',cond_false] at he;have run : ∀{A:Option Addr} {cap:Nat},a.eval x = .slice A m cap→m≤cap→(b&&(b0&&(b1&&(b2&&(decide (0≤l)&&(decide (l≤hh)&&(decide (hh≤mm)&&decide (mm≤↑m))))))))=true→
    ∃m':Nat,(execOp a.eval o).run P w = .ok (.value (.slice (if m'=l.toNat then A else A.map (·.add (l.toNat * E.sz e'))) (hh.toNat - l.toNat) (m' - l.toNat))) w∧
     hh.toNat≤m'∧m'≤cap∧l.toNat≤hh.toNat∧hh.toNat≤m:=by
   intro A cap hev hcap hb;obtain ⟨p1,p2,p3,p4,p5,p6,p7,p8⟩:=hpre (x:=true) hb;obtain ⟨_,_,_,hsz,_⟩:=kr (w:=w) hP (hP.sl t e' ht).2;cases hmx:mx with
   | none=>
    have hb':=pB (P:=P) (w:=w) (s:=true) (len:=m) (cap:=cap) (mx:=none) p2 p3 (m:=cap) rfl p5 p6 (by omega) (by omega) (.inl rfl)
    exact ⟨cap,by simp[execOp,hop,hmx,hev,Instr.sliceAt,Instr.slice,underlying,(hP.sl t e' ht).1,hb',hsz],by omega,by omega,by omega,by omega⟩
   | some y=>
    rw[hmx] at p4 h4;have hb':=pB (P:=P) (w:=w) (s:=true) (len:=m) (cap:=cap) (mx:=some (a.eval y)) p2 p3 (m:=mm) p4 p5 p6 (by omega) (by omega) h4
    exact ⟨mm.toNat,by simp[execOp,hop,hmx,hev,Instr.sliceAt,Instr.slice,underlying,(hP.sl t e' ht).1,hb',hsz],by omega,by omega,by omega,by omega⟩
  split at he
  ·rename_i ty v
   cases hbq:Nat.beq t ty with
   | false=>simp[hbq] at he
   | true=>
    simp only[hbq,cond_true] at he;have:=Nat.eq_of_beq_eq_true hbq;subst this;refine .mk he fun hb=>?_
    have p1:=(hpre (x:=true) hb).1
    have hxx:=hx p1;obtain ⟨A,cap,hev,hcap⟩:=jX hP.wf h hl ht hm hxx;obtain ⟨m',hrun,q1,q2,q3,q4⟩:=run hev hcap hb;refine ⟨_,hrun,.val ?_ (bq hP.wf (by simp[ht]) rfl)⟩
    rw[hev] at hxx;cases hxx with
    | val a1 a2=>
     have hz : ∀{A':Option Addr} {c:Nat},hh.toNat=l.toNat→Rep E w g t (v.cut l.toNat hh.toNat) .fz 0 [] (.reg (Value.slice A' (hh.toNat - l.toNat) c).cells.toList 0):=by
      intro A' c heq;have:v.cut l.toNat hh.toNat = .sl []:=by
       simp only[T.cut,heq];congr 1;apply List.drop_eq_nil_of_le;simp;omega
      rw[this,heq,Nat.sub_self];exact .fz0 ht rfl
     cases a1 with
     | fz b1 b2 b3 b4 b5 b6=>
      rw[ht] at b1;cases b1;rename_i es aa cc
      simp[rd,Value.cells] at b2
      obtain ⟨rfl,hlen,rfl⟩:=b2;by_cases heq:hh.toNat=l.toNat
      ·exact hz heq
      ·have hne:m'≠l.toNat:=by omega
       have hcl:((es.take hh.toNat).drop l.toNat).length=hh.toNat - l.toNat:=by simp;omega
       simp only[if_neg hne,Option.map_some,fM b3,T.cut,T.es];refine .fz (a:=⟨aa.block,aa.off+l.toNat * E.sz e',none⟩) (cap:=m' - l.toNat) ht (by simp[rd,Value.cells,hcl]) rfl (by omega) b5 fun i tt hi'=>?_
       obtain ⟨c1,c2⟩:=pH hi';have:=b6 _ _ c1
       simp only
       rw[show aa.off+l.toNat * E.sz e'+i * E.sz e'=aa.off+(l.toNat+i) * E.sz e' by rw[Nat.add_mul];omega]
       exact this
     | fz0 b1 b2=>simp[rd,Value.cells] at b2;exact hz (by omega)
     | own0 b1 b2=>simp[O.own] at b2
     | own b1 b2=>simp[O.own] at b2
     | _=>simp_all
  ·rename_i ty
   cases hbq:Nat.beq t ty with
   | false=>simp[hbq] at he
   | true=>
    simp only[hbq,cond_true] at he;have:=Nat.eq_of_beq_eq_true hbq;subst this;refine .mk he fun hb=>?_
    have p1:=(hpre (x:=true) hb).1
    have hxx:=hx p1;obtain ⟨A,cap,hev,hcap⟩:=jX hP.wf h hl ht hm hxx;obtain ⟨m',hrun,q1,q2,q3,q4⟩:=run hev hcap hb;rw[hev] at hxx;cases hxx with
    | nil=>
     obtain rfl:m'=0:=by omega
     have hl0:l.toNat=0:=by omega
     have hh0:hh.toNat=0:=by omega
     rw[hl0,hh0] at hrun;exact ⟨_,hrun,.nil ht⟩
  ·rename_i ty r p
   split at he
   ·rename_i R hR
    cases hbq:Nat.beq t ty&&((R.o.get p).own||(R.o.get p).isFo) with
    | false=>simp[hbq] at he
    | true=>
     simp only[hbq,cond_true] at he;simp only[Bool.and_eq_true] at hbq;have:=Nat.eq_of_beq_eq_true hbq.1;subst this;refine .mk he fun hb0=>?_
     have hb:(b&&(b0&&(b1&&(b2&&(decide (0≤l)&&(decide (l≤hh)&&(decide (hh≤mm)&&decide (mm≤↑m))))))))=true:=by
      cases hown:(R.o.get p).own with
      | true=>simpa only[hown,cond_true] using hb0
      | false=>rw[hown] at hb0;simp only[cond_false] at hb0;exact (Bool.and_eq_true _ _ ▸ hb0).1
     have hnz:(R.o.get p).own=false→0 < m:=by
      intro hown;rw[hown] at hb0;simp only[cond_false] at hb0;exact of_decide_eq_true (Bool.and_eq_true _ _ ▸ hb0).2
     have p1:=(hpre (x:=true) hb).1
     have hxx:=hx p1;obtain ⟨A,cap,hev,hcap⟩:=jX hP.wf h hl ht hm hxx;obtain ⟨m',hrun,q1,q2,q3,q4⟩:=run hev hcap hb;refine ⟨_,hrun,?_⟩;rw[hev] at hxx;cases hxx with
     | sref a1 a2 a3 a4=>
      have hR':=hl r R hR;rw[ht] at a2;cases a2;refine .sub a1 ht a3 a4 q3 q4 (by omega) (by omega) ?_
      have hrep:=im (h.rts r R hR') (by rw[hR'] at a1;cases a1;exact a3)
      generalize R.t.get p=tt at hrep
      clear hb0 he
      generalize R.o.get p=oo at hrep hbq hnz
      cases hrep with
      | own b1 b2 b3 b4 b5 b6 b7 b8=>
       rename_i es aa cc
       rw[a4] at b3;simp only[Option.some.injEq,Value.slice.injEq] at b3;obtain ⟨rfl,_,_⟩:=b3;obtain ⟨bb,oo',ss⟩:=aa;cases b4;right
       by_cases hml:m'=l.toNat
       ·exact ⟨bb,oo',oo',rfl,by rw[if_pos hml],by omega,.inl (by omega)⟩
       ·exact ⟨bb,oo',oo'+l.toNat * E.sz e',rfl,by rw[if_neg hml,Option.map_some,fM rfl],by omega,.inr rfl⟩
      | own0 b1 b2 b3=>rw[a4] at b3;cases b3;left;exact ⟨rfl,by split <;> rfl⟩
      | fz=>simp[O.own,O.isFo] at hbq
      | fo b1 b2 b3 b4 b5 b6 b7=>
       rename_i es aa cc
       rw[a4] at b2;simp only[Option.some.injEq,Value.slice.injEq] at b2;obtain ⟨rfl,_,_⟩:=b2;obtain ⟨bb,oo',ss⟩:=aa;cases b3;right
       by_cases hml:m'=l.toNat
       ·exact ⟨bb,oo',oo',rfl,by rw[if_pos hml],by omega,.inl (by omega)⟩
       ·exact ⟨bb,oo',oo'+l.toNat * E.sz e',rfl,by rw[if_neg hml,Option.map_some,fM rfl],by omega,.inr rfl⟩
      | fz0=>simp[O.own,O.isFo] at hbq
      | fo0 b1 b2=>
       rw[a4] at b2;simp only[Option.some.injEq,Value.slice.injEq] at b2;have:=hnz rfl
       omega
      | dead=>simp[O.own,O.isFo] at hbq
      | _=>simp_all
   ·cases he
  ·rename_i ty r p lo' hi'
   cases hbq:Nat.beq t ty with
   | false=>simp[hbq] at he
   | true=>
    simp only[hbq,cond_true] at he;have:=Nat.eq_of_beq_eq_true hbq;subst this;refine .mk he fun hb=>?_
    have p1:=(hpre (x:=true) hb).1
    have hxx:=hx p1;obtain ⟨A,cap,hev,hcap⟩:=jX hP.wf h hl ht hm hxx;obtain ⟨m',hrun,q1,q2,q3,q4⟩:=run hev hcap hb;refine ⟨_,hrun,?_⟩;rw[hev] at hxx;have hmm:m=hi' - lo':=by simp only[lenE,ht,hbq,cond_true,Option.some.injEq] at hm;exact hm.symm
    generalize hvv:Value.slice A m cap=vv at hxx
    cases hxx with
    | sub a1 a2 a3 a4 a5 a6 a7 a8 a9=>
     simp only[Value.slice.injEq] at hvv;obtain ⟨rfl,_,rfl⟩:=hvv;rw[ht] at a2;cases a2;rw[show hh.toNat - l.toNat=(lo'+hh.toNat) - (lo'+l.toNat) by omega]
     refine .sub a1 ht a3 a4 (by omega) (by omega) (by omega) (by omega) ?_
     rcases a9 with ⟨c1,c2⟩ | ⟨bb,xx,yy,c1,c2,c3,c4⟩
     ·left;exact ⟨c1,by rw[c2];split <;> rfl⟩
     ·right
      by_cases hml:m'=l.toNat
      ·exact ⟨bb,xx,yy,c1,by rw[if_pos hml,c2],by rw[Nat.add_mul];omega,.inl (by omega)⟩
      ·rcases c4 with c4 | c4
       ·omega
       ·exact ⟨bb,xx,yy+l.toNat * E.sz e',c1,by rw[if_neg hml,c2,Option.map_some,fM rfl],by rw[Nat.add_mul];omega,.inr (by rw[Nat.add_mul];omega)⟩
  ·cases he
 ·cases he
end
theorem Bp {E:Env} {f:Nat} {v v':Value} (h:bd E f v) (h':bd E f v') (hc:v.cells=v'.cells):v=v':=by
 obtain ⟨_,h⟩:=h;obtain ⟨_,h'⟩:=h';cases he:E.ty f with
 | st fs=>
  rw[he] at h h';obtain ⟨c,rfl⟩:=h;obtain ⟨c',rfl⟩:=h';simp[Value.cells] at hc;rw[hc]
 | _=>
  rw[he] at h h';simp only at h h'
  rw[h,h'] at hc;simpa using hc
section
variable {P:Program} {E:Env} {n:Nat} {st:St} {a:Act} {w:World} {g:Gh} {hold:Nat→aE} {look:Nat→Option Rt} {o:Oper} {b:Bool}
theorem zC (hP:ba P E) {f k:Nat} (hf:bN E f=true) {cs:Array Value} (hlen:k+E.sz f≤cs.size) (hc:(∀fs,E.ty f≠.st fs)→∃v,cs[k]?=some v∧v.cells = #[v]) :
  ∃v,(part f cs k).run P w = .ok v w∧bd E f v∧∀j,j < E.sz f→v.cells.toList[j]?=cs[k+j]?:=by
 obtain ⟨i,_,_,hsz,_⟩:=kr (w:=w) hP hf;have hag:=zj (w:=w) hP hf
 cases he:E.ty f with
 | st fs=>
  rw[he] at hag;refine ⟨.agg (cs.extract k (k+E.sz f)),?_,⟨by simp[Value.cells];omega,by rw[he];exact ⟨_,rfl⟩⟩,fun j hj=>?_⟩
  ·simp only[part,Sem.run_bind,hag];simp[hsz]
  ·simp[Value.cells,List.getElem?_take,hj]
 | bad=>simp[bN,he] at hf
 | cp=>simp[bN,he] at hf
 | _=>
  rw[he] at hag;have h1:=hP.wf.one f (by simp[he])
  obtain ⟨v,hv,hv'⟩:=hc (by simp[he])
  refine ⟨v,?_,bq hP.wf (by simp[he]) hv',fun j hj=>?_⟩
  ·simp only[part,Sem.run_bind,hag];simp[hv]
  ·obtain rfl:j=0:=by omega
   rw[Nat.add_zero,hv];simp[hv']
theorem field_ok (hP:ba P E) {t j:Nat} {x:Operand} {e:Eff} (hop:o.op = .field t x j) {av:AV} (hv:b=true→aO E w g st.rt hold av (a.eval x))
  (he:z6 E t j b av=some e):fC P E st a w g hold o e:=by
 unfold z6 at he;split at he
 rotate_left
 ·cases he
 rename_i fs hs
 split at he
 ·rename_i ty v
  cases hc:Nat.beq ty t&&decide (j < fs.length) with
  | false=>simp[hc] at he
  | true=>
   simp only[hc,cond_true] at he;simp only[Bool.and_eq_true,decide_eq_true_eq] at hc;have:=Nat.eq_of_beq_eq_true hc.1;subst this;refine .mk he fun hb=>?_
   have hv:=hv hb;generalize hev:a.eval x=vx at hv
   cases hv with
   | val a1 a2=>
    obtain ⟨fds,fd,f,hff,hf,hu,hfd,c1,c2,c3,c5⟩:=oe hP hs hc.2;obtain ⟨cs,rfl⟩ : ∃cs,vx = .agg cs:=by have:=a2.2;rw[hs] at this;exact this
    have hsz:=a2.1;simp only[Value.cells] at hsz a1;have hcell:=a1.cells hP.wf rfl;obtain ⟨v',h1,h2,h3⟩:=zC (P:=P) (w:=w) hP c5 (k:=off E fs j) (cs:=cs) (by rw[hsz,hP.wf.sum _ _ hs];exact eL hf) (fun _=>by
     have:=hcell (off E fs j) (by rw[hP.wf.sum _ _ hs];have:=eL (E:=E) hf;omega)
     simpa[rd,aE.add] using this)
    rw[hff];refine ⟨v',by simp[execOp,hop,hev,Instr.field,underlying,hu,hfd,asAgg,c1,c2,h1],.val ?_ h2⟩
    cases a1 with
    | st b1 b2 b3=>
     rw[hs] at b1;cases b1;have:=(b3 j _ _ hf (jR (by omega))).frozen rfl (fun _ h=>h) 0 []
     exact this.place hP.wf fun k hk=>by simpa[rd,aE.add] using h3 k hk
    | _=>simp_all
 ·rename_i ty l
  cases hc:Nat.beq ty t&&decide (j < fs.length) with
  | false=>simp[hc] at he
  | true=>
   simp only[hc,cond_true] at he;simp only[Bool.and_eq_true,decide_eq_true_eq] at hc;have:=Nat.eq_of_beq_eq_true hc.1;subst this;refine .mk he fun hb=>?_
   have hv:=hv hb;generalize hev:a.eval x=vx at hv
   cases hv with
   | agg a1 a2 a3 a4 a5=>
    rename_i vs
    rw[hs] at a1;cases a1;obtain ⟨fds,fd,f,hff,hf,hu,hfd,c1,c2,c3,c5⟩:=oe hP hs hc.2;have hvj:vs[j]?=some (vs[j]'(by omega)):=List.getElem?_eq_getElem _
    have hlj:l[j]?=some (l.getD j .undef):=by simp[a2,hc.2]
    refine ⟨vs[j]'(by omega),?_,a4 j _ _ hlj hvj⟩
    have hshape:=a5 j f _ hf hvj;have hget:=fG a3 a5 j f _ hf hvj;have hlen:=gJ a3 a5;obtain ⟨v',h1,h2,h3⟩:=zC (P:=P) (w:=w) hP c5 (k:=off E fs j) (cs:=(vs.flatMap fun v=>v.cells.toList).toArray)
     (by rw[List.size_toArray,hlen];exact eL hf) (fun hns=>by
      have h0:=hP.wf.one f (by cases he:E.ty f <;> simp_all[bN])
      have hsj:=hshape.2;have hself:(vs[j]'(by omega)).cells = #[vs[j]'(by omega)]:=by
       cases he:E.ty f <;> simp_all
      refine ⟨vs[j]'(by omega),?_,hself⟩
      have:=hget 0 (by omega)
      rw[hself] at this;simpa using this)
    have:v'=vs[j]'(by omega):=Bp h2 hshape (by
     apply Array.ext'
     apply List.ext_getElem?
     intro k;by_cases hk:k < E.sz f
     ·rw[h3 k hk,← hget k hk];simp
     ·rw[List.getElem?_eq_none (by have:=h2.1;simp;omega),List.getElem?_eq_none (by have:=hshape.1;simp;omega)])
    subst this;simp[execOp,hop,hev,Instr.field,underlying,hu,hfd,asAgg,c1,c2,h1]
 ·cases he
end
section
variable {P:Program} {E:Env} {n:Nat} {st:St} {a:Act} {w:World} {g:Gh} {hold:Nat→aE} {look:Nat→Option Rt} {o:Oper} {b:Bool}
def Am (E:Env) (w:World) (g:Gh) (e:Nat) (v:Value) (t:T):Prop:=
 ∃A cap,v = .slice A t.es.length cap∧t = .sl t.es∧t.es.length≤cap∧
  (t.es = []∨∃aa:Addr,A=some aa∧aa.spot=none∧∀(i:Nat) (t':T),t.es[i]?=some t'→∃o r p,o.live=true∧Rep E w g e t' o r p (.mem aa.block (aa.off+i * E.sz e)))
theorem Rep.slCells {ty e:Nat} {t:T} {o:O} {r:Nat} {p:List aH} {κ:aE} {v:Value} (ht:E.ty ty = .sl e) (h:Rep E w g ty t o r p κ) (hl:o.live=true) (hv:rd w κ=some v) :
  Am E w g e v t:=by
 cases h with
 | fz0 _ h=>rw[h] at hv;cases hv;exact ⟨_,_,rfl,rfl,by simp[T.es],.inl rfl⟩
 | fo0 _ h=>rw[h] at hv;cases hv;exact ⟨_,_,rfl,rfl,by simp[T.es],.inl rfl⟩
 | fz b1 b2 b3 b4 b5 b6=>rw[b2] at hv;cases hv;rw[ht] at b1;cases b1;exact ⟨_,_,rfl,rfl,b4,.inr ⟨_,rfl,b3,fun i t' h=>⟨_,_,_,rfl,b6 i t' h⟩⟩⟩
 | fo b1 b2 b3 b4 b5 b5o b6=>rw[b2] at hv;cases hv;rw[ht] at b1;cases b1;exact ⟨_,_,rfl,rfl,b4,.inr ⟨_,rfl,b3,fun i t' h=>⟨_,_,_,rfl,b6 i t' h⟩⟩⟩
 | own0 _ _ h=>rw[h] at hv;cases hv;exact ⟨_,_,rfl,rfl,by simp[T.es],.inl rfl⟩
 | own b1 b2 b3 b4 b5 b6 b7 b8=>
  rw[b3] at hv;cases hv;rw[ht] at b1;cases b1;exact ⟨_,_,rfl,rfl,b5,.inr ⟨_,rfl,b4,fun i t' h=>⟨_,_,_,eF hl,b8 i t' h⟩⟩⟩
 | dead=>simp[O.live] at hl
 | _=>simp_all
theorem sl_cells (hP:ba P E) (h:Inv E n st a w g hold) (hl : ∀r R,look r=some R→st.rt r=some R) {ty e:Nat} {x:AV} {v:Value} {t:T} (ht:E.ty ty = .sl e)
  (hna:w9 x=true) (hs:sn E look ty x=some t) (hx:aO E w g st.rt hold x v):Am E w g e v t:=by
 cases x with
 | sref ty' r p=>
  simp only[sn] at hs;split at hs
  ·rename_i R hR
   cases hc:Nat.beq ty' ty&&(R.o.get p).live with
   | false=>simp[hc] at hs
   | true=>
    simp[hc] at hs;subst hs;simp only[Bool.and_eq_true] at hc;have:=Nat.eq_of_beq_eq_true hc.1;subst this;cases hx with
    | sref a1 a2 a3 a4=>
     have hR':=hl r R hR;rw[hR'] at a1;cases a1;exact (im (h.rts r R hR') a3).slCells ht hc.2 a4
  ·cases hs
 | sub ty' r p lo hi=>
  simp only[sn] at hs;split at hs
  ·rename_i R hR
   cases hc:Nat.beq ty' ty&&(R.o.get p).live with
   | false=>simp[hc] at hs
   | true=>
    simp[hc] at hs;subst hs;simp only[Bool.and_eq_true] at hc;have:=Nat.eq_of_beq_eq_true hc.1;subst this;cases hx with
    | sub a1 a2 a3 a4 a5 a6 a7 a8 a9=>
     have hR':=hl r R hR;rw[hR'] at a1;cases a1;rw[ht] at a2;cases a2;obtain ⟨A',cap'',hv',ht',hle,hel⟩:=(im (h.rts r R hR') a3).slCells ht hc.2 a4;generalize hT:R.t.get p=tt at *
     simp only[Value.slice.injEq] at hv';obtain ⟨rfl,rfl,rfl⟩:=hv';have hlen:((tt.cut lo hi)).es.length=hi - lo:=by simp[T.cut,T.es];simp[T.es] at a6;omega
     refine ⟨_,_,by rw[hlen],rfl,by rw[hlen];exact a7,?_⟩
     by_cases hz:hi=lo
     ·left;exact List.eq_nil_of_length_eq_zero (by rw[hlen,hz];omega)
     ·right
      rcases hel with hel | ⟨aa,rfl,h1,h2⟩
      ·rw[hel] at a6;simp at a6;omega
      ·rcases a9 with ⟨c1,_⟩ | ⟨bb,xx,yy,c1,c2,c3,c4⟩
       ·cases c1
       ·simp only[Option.some.injEq] at c1;subst c1;have hyy:yy=xx+lo * E.sz e:=by rcases c4 with c4 | c4 <;> omega
        refine ⟨_,c2,rfl,fun i t' hi'=>?_⟩
        obtain ⟨d1,_⟩:=pH (es:=tt.es) hi';obtain ⟨o',r',p',q1,q2⟩:=h2 _ _ d1;refine ⟨o',r',p',q1,?_⟩;simp only at q2 ⊢
        rw[hyy,show xx+lo * E.sz e+i * E.sz e=xx+(lo+i) * E.sz e by rw[Nat.add_mul];omega]
        exact q2
  ·cases hs
 | agg ty' l=>simp[sn,ht] at hs
 | fnc f=>simp[sn,ht] at hs
 | val ty' t'=>
  obtain ⟨h1,h2⟩:=iZ hP.wf (show sn E fB ty (.val ty' t')=some t by simpa[sn] using hs) hx
  have hs:=h2.2;rw[ht] at hs;simp only at hs
  rw[hs] at h1;exact h1.slCells ht rfl rfl
 | cst c=>
  obtain ⟨h1,h2⟩:=iZ hP.wf (show sn E fB ty (.cst c)=some t by simpa[sn] using hs) hx
  have hs:=h2.2;rw[ht] at hs;simp only at hs
  rw[hs] at h1;exact h1.slCells ht rfl rfl
 | nil ty'=>
  obtain ⟨h1,h2⟩:=iZ hP.wf (show sn E fB ty (.nil ty')=some t by simpa[sn] using hs) hx
  have hs:=h2.2;rw[ht] at hs;simp only at hs
  rw[hs] at h1;exact h1.slCells ht rfl rfl
 | alt=>simp[w9] at hna
 | row=>simp[w9] at hna
 | pv ty' a=>simp[sn,ht] at hs
 | _=>simp[sn] at hs
theorem Bf (ns:List Int) : ∀(s:ByteArray),ns.foldl (fun r m=>r.push (UInt8.ofNat m.toNat)) s=⟨s.data++(ns.map fun m=>UInt8.ofNat m.toNat).toArray⟩:=by
 induction ns with
 | nil=>intro s;simp
 | cons m ns ih=>intro s;rw[List.foldl_cons,ih];simp[ByteArray.push]
theorem conv_ok (hP:ba P E) (h:Inv E n st a w g hold) (hl : ∀r R,look r=some R→st.rt r=some R) {src dst:Nat} {x:Operand} {e:Eff} (hop:o.op = .convert src dst x) {av:AV}
  (hv:b=true→aO E w g st.rt hold av (a.eval x)) (he:convE E look src dst b av=some e):fC P E st a w g hold o e:=by
 unfold convE at he;split at he
 ·rename_i k k' h1 h2
  simp only[Option.bind_eq_some_iff] at he;obtain ⟨t,ht,he⟩:=he;refine .mk he fun hb=>?_
  have:=kT hP.wf h1 ht (hv hb)
  exact ⟨_,by simp[execOp,hop,this,convert,underlying,hP.int _ _ h1,hP.int _ _ h2,Conv.intToInt],nZ hP.wf h2⟩
 ·rename_i h1 h2
  simp only[Option.bind_eq_some_iff] at he;obtain ⟨t,ht,he⟩:=he;refine .mk he fun hb=>?_
  have:=og hP.wf h1 ht (hv hb)
  exact ⟨_,by simp[execOp,hop,this,convert,underlying,hP.str _ h1,hP.str _ h2],tI hP.wf h2⟩
 ·rename_i e' h1 h2
  split at he
  ·rename_i h3
   simp only[Option.bind_eq_some_iff] at he;obtain ⟨t,ht,he⟩:=he;refine .mk he fun hb=>?_
   cases hna:w9 av with
   | false=>simp[hna] at ht
   | true=>
   simp only[hna,cond_true] at ht;obtain ⟨A,cap,hev,ht',hle,hel⟩:=sl_cells hP h hl h1 hna ht (hv hb);refine ⟨_,?_,tI hP.wf h2⟩;have base:(Conv.bytesToString (.slice A t.es.length cap)).run P w = .ok (.string ⟨(t.es.map fun c=>UInt8.ofNat c.i.toNat).toArray⟩) w:=by
    cases A with
    | none=>
     rcases hel with hel | ⟨aa,hA,_⟩
     ·rw[hel];simp[Conv.bytesToString];rfl
     ·cases hA
    | some aa=>
     have hcells:(loadCells aa t.es.length).run P w = .ok ((t.es.map T.i).map (Value.int .u8)).toArray w:=by
      rcases hel with hel | ⟨aa',hA,hsp,hel⟩
      ·rw[hel];simp[loadCells,loadCellsFrom]
      ·simp only[Option.some.injEq] at hA;subst hA;have hsz:=hP.wf.one e' (by simp[h3])
       have hc : ∀k,k < t.es.length→w.cell? ⟨aa.block,aa.off+k,none⟩=some (.int .u8 ((t.es.map T.i).getD k 0)):=by
        intro k hk;have hk':t.es[k]?=some (t.es[k]'hk):=List.getElem?_eq_getElem _
        obtain ⟨o',r',p',q1,q2⟩:=hel k _ hk';rw[hsz,Nat.mul_one] at q2;generalize hgt:t.es[k]'hk=tk at q2 hk'
        have hm:(t.es.map T.i).getD k 0=tk.i:=by simp[hk']
        rw[hm];cases q2 with
        | int d1 d2=>rw[h3] at d1;cases d1;exact d2
        | dead=>simp[O.live] at q1
        | bool d1=>rw[h3] at d1;cases d1
        | str d1=>rw[h3] at d1;cases d1
        | fn _ _ d1=>rw[h3] at d1;cases d1
        | cp d1=>rw[h3] at d1;cases d1
        | fz0 d1=>rw[h3] at d1;cases d1
        | fo0 d1=>rw[h3] at d1;cases d1
        | fz d1=>rw[h3] at d1;cases d1
        | fo d1=>rw[h3] at d1;cases d1
        | own0 d1=>rw[h3] at d1;cases d1
        | own d1=>rw[h3] at d1;cases d1
        | st d1=>rw[h3] at d1;cases d1
       obtain ⟨l,e1,e2,e3⟩:=sc (P:=P) hsp t.es.length 0 #[] (fun k hk=>⟨_,by rw[Nat.zero_add];exact hc k hk⟩)
       unfold loadCells;rw[e2];congr 1
       simp only[Array.empty_append];congr 1
       apply List.ext_getElem?
       intro k;by_cases hk:k < t.es.length
       ·rw[e3 k hk,Nat.zero_add,hc k hk];simp[hk]
       ·rw[List.getElem?_eq_none (by omega),List.getElem?_eq_none (by simp;omega)]
     rw[run_bytesToString w aa t.es.length cap (t.es.map T.i) hcells,Bf];simp[Function.comp_def]
   simp[execOp,hop,hev,convert,underlying,(hP.sl _ _ h1).1,hP.str _ h2,hP.int _ _ h3,base]
  ·cases he
 ·cases he
theorem func_ok (hP:ba P E) {f:Nat} {fs cs:Array Operand} {e:Eff} (hop:o.op = .makeFunc (.func f) fs cs) {ρ:Operand→AV} (hρ : ∀x,aO E w g st.rt hold (ρ x) (a.eval x))
  (he:funcE E o.type f fs.isEmpty (cs.toList.all fun x=>(bK (ρ x)).1) (cs.toList.map fun x=>(bK (ρ x)).2)=some e):fC P E st a w g hold o e:=by
 unfold funcE at he;split at he
 ·rename_i ps rs gi h1 h2
  simp only at he
  generalize hct:(gi.params.drop ps.length).map (·.1)=cts at he
  cases hc:fs.isEmpty&&(pW E f cts ps rs&&decide (cts.length=(cs.toList.map fun x=>(bK (ρ x)).2).length)) with
  | false=>simp only[hc,cond_false] at he;cases he
  | true=>
   simp only[hc,cond_true] at he;simp only[Bool.and_eq_true,decide_eq_true_eq] at hc;obtain ⟨c1,c2,c3⟩:=hc;split at he
   ·rename_i ts hts
    refine .mk he fun hb=>?_
    have hfs:fs = #[]:=by simpa using c1
    have hq : ∀x∈cs.toList,(bK (ρ x)).1=true:=List.all_eq_true.1 hb
    refine ⟨.func (.func f) #[] (cs.map a.eval),by simp[execOp,hop,hfs,Instr.makeFunc],.val ?_ (bq hP.wf (by simp[h1]) rfl)⟩
    obtain ⟨l1,l2⟩:=zW (w:=w) (g:=g) (rt:=st.rt) (hold:=hold) hP.wf hts;have hel : ∀(i ct:Nat) (c:T) (v:Value),cts[i]?=some ct→ts[i]?=some c→(cs.map a.eval).toList[i]?=some v→
      Rep E w g ct c .fz 0 [] (.reg v.cells.toList 0)∧bd E ct v:=by
     intro i ct c v hi1 hi2 hi3;simp only[Array.toList_map,List.getElem?_map,Option.map_eq_some_iff] at hi3;obtain ⟨x,hx,rfl⟩:=hi3;exact l2 i ct c (bK (ρ x)).2 _ hi1 hi2 (by simp[hx]) (fV (hρ x) (hq x (List.mem_of_getElem? hx)))
    refine .fn (cs.map a.eval).toList cts h1 c2 l1 (by simpa using c3.symm) (by rw[Array.toArray_toList];rfl) (fun i ct c v x1 x2 x3=>(hel i ct c v x1 x2 x3).1) (fun i ct v x1 x3=>?_)
    have hi:=(List.getElem?_eq_some_iff.1 x1).1;exact (hel i ct (ts[i]'(by omega)) v x1 (List.getElem?_eq_getElem _) x3).2
   ·cases he
 ·cases he
end
def dJ (vs:List Value):List Value:=vs.flatMap fun v=>v.cells.toList
theorem Bg : ∀(cs:List Value) (k i:Nat) (arr:Array Value),(cs.zipIdx i).foldl (fun a (c,j)=>a.setIfInBounds (k+j) c) arr =
  Array.ofFn (n:=arr.size) fun x=>if h:k+i≤x.1∧x.1 < k+i+cs.length then cs[x.1 - (k+i)]'(by omega) else arr[x.1]:=by
 intro cs;induction cs with
 | nil=>intro k i arr;apply Array.ext <;> simp;intro j h1 h2 h3;omega
 | cons c cs ih=>
  intro k i arr;simp only[List.zipIdx_cons,List.foldl_cons];rw[ih];apply Array.ext
  ·simp
  ·intro x h1 h2;simp only[Array.getElem_ofFn,List.length_cons];by_cases hx:x=k+i
   ·subst hx;rw[dif_neg (by omega),dif_pos (by omega)]
    simp[Array.getElem_setIfInBounds]
   ·by_cases h:k+(i+1)≤x∧x < k+(i+1)+cs.length
    ·rw[dif_pos h,dif_pos (by omega)]
     have:x - (k+i)=(x - (k+(i+1)))+1:=by omega
     simp[this]
    ·rw[dif_neg h,dif_neg (by omega)]
     apply Option.some.inj
     rw[← Array.getElem?_eq_getElem,← Array.getElem?_eq_getElem,Array.getElem?_setIfInBounds_ne (by omega)]
theorem nN {E:Env} {vs:List Value} {fs:List Nat} (hl:vs.length=fs.length) (hs : ∀(j f:Nat) (v:Value),fs[j]?=some f→vs[j]?=some v→bd E f v)
  {j f:Nat} {v:Value} (hf:fs[j]?=some f) (hv:vs[j]?=some v) {k:Nat} (hk:k < E.sz f):(dJ vs)[off E fs j+k]?=v.cells.toList[k]?:=fG hl hs j f v hf hv k hk
theorem qI {E:Env} {vs:List Value} {fs:List Nat} (hs : ∀(j f:Nat) (v:Value),fs[j]?=some f→vs[j]?=some v→bd E f v) {i f:Nat} {x:Value} (hf:fs[i]?=some f)
  (hx:bd E f x) : ∀(j f:Nat) (v:Value),fs[j]?=some f→(vs.set i x)[j]?=some v→bd E f v:=by
 intro j f' v hf' hv;by_cases hj:i=j
 ·subst hj;rw[hf] at hf';cases hf';rw[List.getElem?_set] at hv;split at hv
  ·split at hv
   ·cases hv;exact hx
   ·cases hv
  ·rename_i h;exact absurd rfl h
 ·rw[List.getElem?_set_ne hj] at hv;exact hs j f' v hf' hv
theorem flat_set {E:Env} {vs:List Value} {fs:List Nat} (hl:vs.length=fs.length) (hs : ∀(j f:Nat) (v:Value),fs[j]?=some f→vs[j]?=some v→bd E f v)
  {i f:Nat} {x:Value} (hf:fs[i]?=some f) (hx:bd E f x) :
  x.cells.zipIdx.foldl (fun cs (c,j)=>cs.setIfInBounds (off E fs i+j) c) (dJ vs).toArray=(dJ (vs.set i x)).toArray:=by
 have hlen:=gJ hl hs;have hlen':(dJ (vs.set i x)).length=(fs.map E.sz).sum:=gJ (by simpa using hl) (qI hs hf hx)
 have hoff:=eL (E:=E) hf
 have h0:=hx.1;have:=Bg x.cells.toList (off E fs i) 0 (dJ vs).toArray
 rw[show x.cells.zipIdx.foldl (fun cs (c,j)=>cs.setIfInBounds (off E fs i+j) c) (dJ vs).toArray =
  (x.cells.toList.zipIdx 0).foldl (fun cs (c,j)=>cs.setIfInBounds (off E fs i+j) c) (dJ vs).toArray by
   rw[← Array.foldl_toList];simp,this]
 apply Array.ext
 ·simp[dJ] at *;omega
 ·intro k h1 h2;have hk:k < (fs.map E.sz).sum:=by simp at h2;omega
  simp only[Array.getElem_ofFn];obtain ⟨j,f',hj,a1,a2⟩:=rR hk;have hjl:=(List.getElem?_eq_some_iff.1 hj).1;have hgv:vs[j]?=some (vs[j]'(by omega)):=List.getElem?_eq_getElem _
  apply Option.some.inj
  by_cases hji:i=j
  ·subst hji;rw[hf] at hj;cases hj;have hgs:(vs.set i x)[i]?=some x:=by rw[List.getElem?_set_self (by omega)]
   have hh:=nN (by simpa using hl) (qI hs hf hx) hf hgs (k:=k - off E fs i) (by omega)
   rw[Nat.add_sub_cancel' a1] at hh;rw[dif_pos (by simp;omega)]
   simp only[List.getElem_toArray];rw[← List.getElem?_eq_getElem,← List.getElem?_eq_getElem,hh];simp
  ·have hgs:(vs.set i x)[j]?=some (vs[j]'(by omega)):=by rw[List.getElem?_set_ne hji,hgv]
   have hh:=nN (by simpa using hl) (qI hs hf hx) hj hgs (k:=k - off E fs j) (by omega)
   have hh2:=nN hl hs hj hgv (k:=k - off E fs j) (by omega)
   rw[Nat.add_sub_cancel' a1] at hh hh2;rw[dif_neg]
   ·simp only[List.getElem_toArray];rw[← List.getElem?_eq_getElem,← List.getElem?_eq_getElem,hh,hh2]
   ·simp only[Nat.add_zero,Array.length_toList];have o1:=nU (E:=E) hf
    have o2:=nU (E:=E) hj
    rcases Nat.lt_or_gt_of_ne hji with h | h
    ·have:=nT (E:=E) (fs:=fs) (i:=i+1) (j:=j) h;omega
    ·have:=nT (E:=E) (fs:=fs) (i:=j+1) (j:=i) h;omega
theorem wQ {E:Env} {fs:List Nat} {place:Nat→Option (Nat × Nat)} (hp : ∀j f,fs[j]?=some f→place j=some (off E fs j,E.sz f)) : ∀(parts:List (Nat × Value)) (vs:List Value),
  vs.length=fs.length→(∀(j f:Nat) (v:Value),fs[j]?=some f→vs[j]?=some v→bd E f v)→(∀x∈parts,∃f,fs[x.1]?=some f∧bd E f x.2)→
  Instr.fill place (dJ vs).toArray parts=some (dJ (parts.foldl (fun vs x=>vs.set x.1 x.2) vs)).toArray∧
   (parts.foldl (fun vs x=>vs.set x.1 x.2) vs).length=fs.length∧
   (∀(j f:Nat) (v:Value),fs[j]?=some f→(parts.foldl (fun vs x=>vs.set x.1 x.2) vs)[j]?=some v→bd E f v):=by
 intro parts;induction parts with
 | nil=>intro vs hl hs _;exact ⟨rfl,hl,hs⟩
 | cons x parts ih=>
  intro vs hl hs hx;obtain ⟨f,hf,hsx⟩:=hx x (by simp)
  have hoff:=eL (E:=E) hf
  have hlen:=gJ hl hs;obtain ⟨h1,h2,h3⟩:=ih (vs.set x.1 x.2) (by simpa using hl) (qI hs hf hsx) fun y hy=>hx y (by simp[hy])
  refine ⟨?_,h2,h3⟩;obtain ⟨i,v⟩:=x;simp only[Instr.fill,hp i f hf];have h0:=hsx.1;simp only at h0
  rw[if_neg (by simp[dJ] at *;omega),flat_set hl hs hf hsx]
  exact h1
theorem oY {α:Type} : ∀(parts:List (Nat × α)) (vs:List α) (j:Nat),cg (parts.map (·.1))=true→j < vs.length→
  (parts.foldl (fun vs x=>vs.set x.1 x.2) vs)[j]?=(match aJ parts j with | some v=>some v | none=>vs[j]?):=by
 intro parts;induction parts with
 | nil=>intro vs j _ _;rfl
 | cons x parts ih=>
  intro vs j hd hj;obtain ⟨i,v⟩:=x;simp only[List.map_cons,cg,Bool.and_eq_true,Bool.not_eq_true'] at hd;simp only[List.foldl_cons,aJ];rw[ih _ _ hd.2 (by simpa using hj)]
  have hmem : ∀(l:List (Nat × α)),mem i (l.map (·.1))=false→aJ l i=none:=by
   intro l;induction l with
   | nil=>intro _;rfl
   | cons y l ihl=>
    intro h;simp only[List.map_cons,mem,Bool.or_eq_false_iff] at h;simp only[aJ,h.1,cond_false];exact ihl h.2
  cases hb:Nat.beq i j with
  | true=>
   have:=Nat.eq_of_beq_eq_true hb;subst this;simp[hmem parts hd.1,hj]
  | false=>
   have hne:i≠j:=fun h=>by subst h;rw[show Nat.beq i i=true from Nat.beq_refl i] at hb;cases hb
   simp only[cond_false];rw[List.getElem?_set_ne hne]
section
variable {P:Program} {E:Env} {n:Nat} {st:St} {a:Act} {w:World} {g:Gh} {hold:Nat→aE} {look:Nat→Option Rt} {o:Oper} {b:Bool} {rt:Nat→Option Rt}
theorem zeros (hP:ba P E) : ∀(fs:List Nat),(∀f∈fs,E.zok f=true)→∃zs:List Value,zs.length=fs.length∧dJ zs=fs.flatMap E.zc∧
  ∀(j f:Nat) (v:Value),fs[j]?=some f→zs[j]?=some v→bd E f v∧v.cells.toList=E.zc f:=by
 intro fs;induction fs with
 | nil=>intro _;exact ⟨[],rfl,rfl,by simp⟩
 | cons f fs ih=>
  intro h;obtain ⟨zs,h1,h2,h3⟩:=ih fun f hf=>h f (by simp[hf])
  obtain ⟨_,i,z,_,_,hz,hzc⟩:=hP.zero f (h f (by simp))
  refine ⟨z :: zs,by simp[h1],by simp only[dJ,List.flatMap_cons] at *;rw[h2,hzc],fun j f' v hf hv=>?_⟩
  cases j with
  | zero=>simp at hf hv;subst hf;subst hv;exact ⟨hz,hzc⟩
  | succ j=>exact h3 j f' v (by simpa using hf) (by simpa using hv)
theorem A4 (hP:ba P E) : ∀(k:Nat) {f:Nat} {v:Value},bd E f v→v.cells.toList=E.zc f→aO E w g rt hold (zav E k f) v:=by
 intro k;induction k with
 | zero=>intro f v _ _;exact .undef
 | succ k ih=>
  intro f v hs hc;rw[zav];cases hz:E.zok f with
  | false=>exact .undef
  | true=>
   cases hf:E.flat f with
   | true=>
    refine .val ?_ hs;rw[hc];exact (hP.zrep f hz w g 0 []).flat hP.wf rfl hf fun _ _=>rfl
   | false=>
    simp only[Bool.not_true,cond_false];split
    ·rename_i e he
     have h1:=(hP.zc_sl f e hz he).1;have h2:=hs.2;rw[he] at h2;simp only at h2
     rw[h1,h2] at hc;simp at hc;subst hc;exact .nil he
    ·rename_i fs he
     obtain ⟨h1,_,h3⟩:=hP.zc_st f fs hz he;obtain ⟨zs,a1,a2,a3⟩:=zeros hP fs h3;obtain ⟨cs,rfl⟩ : ∃cs,v = .agg cs:=by have:=hs.2;rw[he] at this;exact this
     have:cs=(zs.flatMap fun v=>v.cells.toList).toArray:=by
      apply Array.ext';simp only[Value.cells] at hc;rw[hc,h1,← a2];rfl
     rw[this];refine .agg he (by simp) a1 (fun j a v ha hv=>?_) (fun j f v hf hv=>(a3 j f v hf hv).1)
     simp only[List.getElem?_map,Option.map_eq_some_iff] at ha;obtain ⟨f',hf',rfl⟩:=ha;obtain ⟨b1,b2⟩:=a3 j f' v hf' hv;exact ih b1 b2
    ·exact .undef
theorem mkAgg_ok (hE:bl E) {ty:Nat} {l:List AV} {v:Value} (h:aO E w g rt hold (.agg ty l) v):aO E w g rt hold (mkAgg E ty l) v:=by
 unfold mkAgg;cases hp:l.all plain with
 | false=>exact h
 | true=>
  simp only[cond_true];split
  ·rename_i t ht
   obtain ⟨h1,h2⟩:=iZ hE ht h;exact .val h1 h2
  ·exact .undef
theorem qJ (hP:ba P E) {ty:Nat} {x:AV} {v:Value} (h:kf E ty x=true) (hx:aO E w g rt hold x v) (hok:bN E ty=true):bd E ty v:=by
 have sl : ∀{A n c e},E.ty ty = .sl e→bd E ty (.slice A n c):=fun he=>bq hP.wf (by simp[he]) rfl
 cases x with
 | val ty' t=>
  have:=Nat.eq_of_beq_eq_true h;subst this;cases hx with
  | val _ h2=>exact h2
 | cst c=>
  simp only[kf,Option.isSome_iff_exists] at h;obtain ⟨t,ht⟩:=h;cases hx;exact (lZ (w:=w) (g:=g) (r:=0) (p:=[]) hP.wf (.inr rfl) ht).2
 | nil ty'=>
  have:=Nat.eq_of_beq_eq_true h;subst this;cases hx with
  | nil he=>exact sl he
 | sref ty' r p=>
  have:=Nat.eq_of_beq_eq_true h;subst this;cases hx with
  | sref _ he=>exact sl he
 | sub ty' r p lo hi=>
  have:=Nat.eq_of_beq_eq_true h;subst this;cases hx with
  | sub _ he=>exact sl he
 | agg ty' l=>
  have:=Nat.eq_of_beq_eq_true h;subst this;cases hx with
  | agg h1 h2 h3 h4 h5=>exact bd.agg hP.wf h1 h3 h5
 | alt ty' r p t=>
  have:=Nat.eq_of_beq_eq_true h;subst this;cases hx with
  | alt _ h2=>exact h2
 | _=>simp[kf] at h
theorem xC {α β:Type} (f:α→β) : ∀(l:List (Nat × α)) (j:Nat),aJ (l.map fun x=>(x.1,f x.2)) j=(aJ l j).map f:=by
 intro l j;induction l with
 | nil=>rfl
 | cons x l ih=>
  simp only[List.map_cons,aJ];cases Nat.beq x.1 j <;> simp[ih]
theorem xD {α:Type} : ∀(l:List (Nat × α)) (j:Nat) (x:α),aJ l j=some x→(j,x)∈l:=by
 intro l j x;induction l with
 | nil=>intro h;simp[aJ] at h
 | cons y l ih=>
  intro h;obtain ⟨k,v⟩:=y;simp only[aJ] at h;cases hb:Nat.beq k j with
  | true=>
   have:=Nat.eq_of_beq_eq_true hb;subst this;simp[hb] at h;subst h;simp
  | false=>simp[hb] at h;simp[ih h]
theorem uF {ρ:Operand→AV} (hρ : ∀x,aO E w g st.rt hold (ρ x) (a.eval x)) {ps:Array (Nat × Operand)} (hb:(parts ρ ps).1=true) :
  ∀(j:Nat),match aJ (parts ρ ps).2 j,aJ (ps.toList.map fun x=>(x.1,a.eval x.2)) j with
   | some x,some v=>aO E w g st.rt hold x v
   | none,none=>True
   | _,_=>False:=by
 intro j;unfold parts at *
 simp only at *
 rw[xC (fun x=>(bK (ρ x)).2) ps.toList j,xC a.eval ps.toList j]
 cases hx:aJ ps.toList j with
 | none=>simp
 | some x=>
  simp only[Option.map_some];exact fV (hρ x) (List.all_eq_true.1 hb (j,x) (xD _ _ _ hx))
theorem build_ok (hP:ba P E) {t:Nat} {ps:Array (Nat × Operand)} {e:Eff} (hop:o.op = .build t ps) {ρ:Operand→AV} (hρ : ∀x,aO E w g st.rt hold (ρ x) (a.eval x))
  (he:yO E t (parts ρ ps).1 (parts ρ ps).2=some e):fC P E st a w g hold o e:=by
 unfold yO at he;split at he
 rotate_left
 ·cases he
 rename_i fs hs
 generalize hc:(E.zok t&&(cg ((parts ρ ps).2.map (·.1))&&((parts ρ ps).2.all fun x=>decide (x.1 < fs.length)&&kf E (fs.getD x.1 0) x.2)))=c at he
 cases c with
 | false=>simp at he
 | true=>
  simp only[cond_true] at he;simp only[Bool.and_eq_true] at hc;obtain ⟨c1,c2,c3⟩:=hc;refine .mk he fun hb=>?_
  obtain ⟨z1,z2,z3⟩:=hP.zc_st t fs c1 hs;obtain ⟨zs,a1,a2,a3⟩:=zeros hP fs z3;obtain ⟨hokt,i,z,hi,hz,hzs,hzc⟩:=hP.zero t c1;obtain ⟨fds,hu,hsz,_,_,hfd⟩:=hP.st t fs hs;have hpo:=uF hρ hb;let vps:List (Nat × Value):=ps.toList.map fun x=>(x.1,a.eval x.2)
  have hfst:vps.map (·.1)=(parts ρ ps).2.map (·.1):=by simp[vps,parts,Function.comp_def]
  have hparts : ∀x∈vps,∃f,fs[x.1]?=some f∧bd E f x.2:=by
   intro x hx;obtain ⟨y,hy,rfl⟩:=List.mem_map.1 hx;have hy':(y.1,(bK (ρ y.2)).2)∈(parts ρ ps).2:=List.mem_map.2 ⟨y,hy,rfl⟩
   have:=List.all_eq_true.1 c3 _ hy'
   simp only[Bool.and_eq_true,decide_eq_true_eq] at this;have hq:=List.all_eq_true.1 hb y hy;have hget:fs[y.1]?=some (fs.getD y.1 0):=by simp[this.1]
   refine ⟨_,hget,qJ hP this.2 (fV (hρ y.2) hq) ?_⟩;exact (hfd y.1 _ _ hget (Array.getElem?_eq_getElem (by omega))).2.2.2.2
  have hplace:(fds.toList.mapM fun f=>(P.info? f.type).map fun i=>(f.offset,i.size))=some ((List.range fs.length).map fun j=>(off E fs j,E.sz (fs.getD j 0))):=by
   apply mapM_some_of_get
   ·simp[hsz]
   ·intro j fd hj;have hjl:j < fs.length:=by have:=(List.getElem?_eq_some_iff.1 hj).1;simp at this;omega
    have hget:fs[j]?=some (fs.getD j 0):=by simp[hjl]
    obtain ⟨d1,d2,d3,_,d5⟩:=hfd j _ fd hget (by simpa using hj)
    obtain ⟨i',hi',hs',_⟩:=hP.info _ d5;rw[List.getElem?_map,List.getElem?_range hjl,d1,hi',Option.map_some,Option.map_some,d2,hs']
  have hf:=wQ (E:=E) (fs:=fs) (place:=fun x=>((List.range fs.length).map fun j=>(off E fs j,E.sz (fs.getD j 0))).toArray[x]?) (fun j f hf=>by
   have hjl:=(List.getElem?_eq_some_iff.1 hf).1;have:fs.getD j 0=f:=by simp[List.getD_eq_getElem?_getD,hf]
   simp[hjl,this]
   rw[← this];simp[hjl]) vps zs a1 (fun j f v hf hv=>(a3 j f v hf hv).1) hparts
  have hbuilt:P.built t vps=some (dJ (vps.foldl (fun vs x=>vs.set x.1 x.2) zs)).toArray:=by
   unfold Program.built;simp only[hi,hu,hz,hplace];have:z.cells=(dJ zs).toArray:=by apply Array.ext';rw[hzc,z1,← a2]
   rw[this];exact hf.1
  have hrun:=run_build (P:=P) w t (ps.map fun (i,x)=>(i,a.eval x)) _ (by rw[← hbuilt];simp[vps])
  refine ⟨_,by simp only[execOp,hop];exact xY _ _ hrun,mkAgg_ok hP.wf ?_⟩
  refine .agg hs (by simp) hf.2.1 (fun j x v hx hv=>?_) hf.2.2
  have hjl:j < fs.length:=by
   have:=(List.getElem?_eq_some_iff.1 hx).1;simp at this;omega
  rw[List.getElem?_map] at hx;have hz2:(List.zip (List.range fs.length) fs)[j]?=some (j,fs[j]):=by
   rw[List.getElem?_zip_eq_some];exact ⟨by simp[hjl],by simp[hjl]⟩
  rw[hz2] at hx;simp only[Option.map_some,Option.some.injEq] at hx;rw[oY vps zs j (by rw[hfst];exact c2) (by omega)] at hv
  have hpj:=hpo j;unfold gI at hx;cases h1:aJ (parts ρ ps).2 j with
  | some y=>
   rw[h1] at hx hpj;cases h2:aJ vps j with
   | some v'=>
    rw[h2] at hv;simp only[Option.getD_some] at hx;subst hx;simp only[Option.some.injEq] at hv;subst hv;rw[show aJ (ps.toList.map fun x=>(x.1,a.eval x.2)) j=some v' from h2] at hpj
    exact hpj
   | none=>rw[show aJ (ps.toList.map fun x=>(x.1,a.eval x.2)) j=none from h2] at hpj;exact hpj.elim
  | none=>
   rw[h1] at hx hpj;cases h2:aJ vps j with
   | some v'=>rw[show aJ (ps.toList.map fun x=>(x.1,a.eval x.2)) j=some v' from h2] at hpj;exact hpj.elim
   | none=>
    rw[h2] at hv;simp only[Option.getD_none] at hx;subst hx;obtain ⟨b1,b2⟩:=a3 j _ v (List.getElem?_eq_getElem hjl) hv;exact A4 hP 8 b1 b2
end
def LeansO (g:Gh) (o:O) (r:Nat) (p:List aH) (b:Nat):Prop:=g b = .frz∨∃q,g b = .at r (p++q)∧o.get q≠.dead
theorem Rep.relocO {E:Env} {w:World} {g:Gh} (hE:bl E) {ty:Nat} {t:T} {o:O} {r:Nat} {p:List aH} {κ:aE} (h:Rep E w g ty t o r p κ)
  {w':World} {g':Gh} {κ':aE} :
  (∀k,k < E.sz ty→rd w' (κ'.add k)=rd w (κ.add k))→(∀b,LeansO g o r p b→aP w w' b∧g' b=g b)→Rep E w' g' ty t o r p κ':=by
 induction h generalizing κ' with
 | int h1 h2=>intro hc hb;exact .int h1 (by rw[← h2];simpa[aE.add_zero] using hc 0 (by rw[hE.one _ (by simp[h1])];omega))
 | bool h1 h2=>intro hc hb;exact .bool h1 (by rw[← h2];simpa[aE.add_zero] using hc 0 (by rw[hE.one _ (by simp[h1])];omega))
 | str h1 h2=>intro hc hb;exact .str h1 (by rw[← h2];simpa[aE.add_zero] using hc 0 (by rw[hE.one _ (by simp[h1])];omega))
 | fn vs cts h1 h3 h4 h5 h6 h7 h8 ih=>
  intro hc hb;refine .fn vs cts h1 h3 h4 h5 (by rw[← h6];simpa[aE.add_zero] using hc 0 (by rw[hE.one _ (by simp[h1])];omega)) (fun i ct c v a1 a2 a3=>?_) h8
  exact (h7 i ct c v a1 a2 a3).frame_fz (w':=w') (g':=g') hE (fun _ _=>rfl) (fun b hb'=>by obtain ⟨c1,c2⟩:=hb b (.inl hb');exact ⟨c1,by rw[c2,hb']⟩) _ _
 | cp h1 h2 h3 h4 h5 _=>
  intro hc hb;obtain ⟨c1,c2⟩:=hb _ (.inl h4);exact .cp h1 (by rw[← h2];simpa[aE.add_zero] using hc 0 (by rw[hE.one _ (by simp[h1])];omega)) h3 (by rw[c2,h4])
   (h5.frame_fz (w':=w') (g':=g') hE (fun k _=>c1.1 _) (fun b hb'=>by obtain ⟨c1,c2⟩:=hb b (.inl hb');exact ⟨c1,by rw[c2,hb']⟩) _ _)
 | dead=>intro _ _;exact .dead
 | fz0 h1 h2=>intro hc hb;exact .fz0 h1 (by rw[← h2];simpa[aE.add_zero] using hc 0 (by rw[hE.one _ (by simp[h1])];omega))
 | fo0 h1 h2=>intro hc hb;exact .fo0 h1 (by rw[← h2];simpa[aE.add_zero] using hc 0 (by rw[hE.one _ (by simp[h1])];omega))
 | fz h1 h2 h3 h4 h5 h6 ih=>
  intro hc hb;refine .fz h1 (by rw[← h2];simpa[aE.add_zero] using hc 0 (by rw[hE.one _ (by simp[h1])];omega)) h3 h4 (by rw[(hb _ (.inl h5)).2,h5]) fun i t hi=>?_
  exact ih i t hi (fun k _=>(hb _ (.inl h5)).1.1 _) hb
 | fo h1 h2 h3 h4 h5 h5o h6 ih=>
  intro hc hb;refine .fo h1 (by rw[← h2];simpa[aE.add_zero] using hc 0 (by rw[hE.one _ (by simp[h1])];omega)) h3 h4 (by rw[(hb _ (.inl h5)).2,h5]) h5o fun i t hi=>?_
  exact ih i t hi (fun k _=>(hb _ (.inl h5)).1.1 _) hb
 | own0 h1 h2 h3=>intro hc hb;exact .own0 h1 h2 (by rw[← h3];simpa[aE.add_zero] using hc 0 (by rw[hE.one _ (by simp[h1])];omega))
 | own h1 h2 h3 h4 h5 h6 h7 h8 ih=>
  intro hc hb;have hl:=hb _ (.inr ⟨[],by rw[h6];simp,by intro hd;simp only[O.get] at hd;rw[hd] at h2;simp[O.own] at h2⟩)
  refine .own h1 h2 (by rw[← h3];simpa[aE.add_zero] using hc 0 (by rw[hE.one _ (by simp[h1])];omega)) h4 h5 (by rw[hl.2,h6]) (hl.1.2 _ h7) fun i t hi=>?_
  exact ih i t hi (fun k _=>hl.1.1 _) fun b hb'=>hb b (hb'.imp id fun ⟨q,q1,q2⟩=>⟨.idx i :: q,by rw[q1];simp,q2⟩)
 | st h1 h2 h3 ih=>
  intro hc hb;refine .st h1 h2 fun j f t hf ht=>ih j f t hf ht (fun k hk=>?_) fun b hb'=>hb b (hb'.imp id fun ⟨q,q1,q2⟩=>⟨.fld j :: q,by rw[q1];simp,q2⟩)
  rw[aE.add_add,aE.add_add];exact hc _ (by rw[hE.sum _ _ h1];have:=eL (E:=E) hf;omega)
theorem Rep.rekey {E:Env} {w:World} {g:Gh} {ty:Nat} {t:T} {o:O} {r:Nat} {p:List aH} {κ:aE} (h:Rep E w g ty t o r p κ)
  {g':Gh} {r':Nat} {p':List aH} (hf : ∀b,g b = .frz→g' b = .frz) (hg : ∀b q,g b = .at r (p++q)→g' b = .at r' (p'++q)):Rep E w g' ty t o r' p' κ:=by
 induction h generalizing p' with
 | int h1 h2=>exact .int h1 h2
 | bool h1 h2=>exact .bool h1 h2
 | str h1 h2=>exact .str h1 h2
 | fn vs cts h1 h3 h4 h5 h6 h7 h8 ih=>exact .fn vs cts h1 h3 h4 h5 h6 (fun i ct c v a1 a2 a3=>ih i ct c v a1 a2 a3 hg) h8
 | cp h1 h2 h3 h4 _ ih=>exact .cp h1 h2 h3 (hf _ h4) (ih hg)
 | dead=>exact .dead
 | fz0 h1 h2=>exact .fz0 h1 h2
 | fo0 h1 h2=>exact .fo0 h1 h2
 | fz h1 h2 h3 h4 h5 h6 ih=>exact .fz h1 h2 h3 h4 (hf _ h5) fun i t hi=>ih i t hi hg
 | fo h1 h2 h3 h4 h5 h5o h6 ih=>exact .fo h1 h2 h3 h4 (hf _ h5) h5o fun i t hi=>ih i t hi hg
 | own0 h1 h2 h3=>exact .own0 h1 h2 h3
 | own h1 h2 h3 h4 h5 h6 h7 h8 ih=>
  refine .own h1 h2 h3 h4 h5 (by simpa using hg _ [] (by simpa using h6)) h7 fun i t hi=>ih i t hi fun b q hq=>?_
  have:=hg b (.idx i :: q) (by rw[hq];simp)
  simpa using this
 | st h1 h2 h3 ih=>
  refine .st h1 h2 fun j f t hf' ht=>ih j f t hf' ht fun b q hq=>?_
  have:=hg b (.fld j :: q) (by rw[hq];simp)
  simpa using this
theorem Rep.leave {E:Env} {w:World} {g:Gh} {r:Nat} {ty:Nat} {p:List aH} {κ:aE} {q:List aH} {ty':Nat} {κ':aE} (hs:Sub E w g r ty p κ q ty' κ') :
  ∀{t:T} {o o':O},Rep E w g ty t o r p κ→bj q=true→o.way q=true→lx E ty o q .dead o'→Rep E w g ty t o' r p κ:=by
 induction hs with
 | nil=>intro t o o' h _ _ ho;cases ho;exact .dead
 | idx=>intro t o o' h hq;simp[bj] at hq
 | @fld ty fs j f p κ q ty' κ' b1 b2 _ ih=>
  intro t o o' h hq hw ho;obtain ⟨fs',h0,h1,h2⟩:=ho;rw[b1] at h0;cases h0;rw[jf b2] at h2;cases h with
  | st a1 a2 a3=>
   refine .st a1 a2 fun k f' t hf ht=>?_
   by_cases hk:k=j
   ·subst hk;rw[b1] at a1;cases a1;rw[b2] at hf;cases hf;exact ih (a3 k f t b2 ht) (by simpa[bj] using hq) (by cases o <;> simp_all[O.way]) h2
   ·rw[b1] at a1;cases a1;rw[h1 k (List.getElem?_eq_some_iff.1 hf).1 hk];exact a3 k f' t hf ht
  | dead=>simp[O.way] at hw
  | _=>simp_all
theorem ru {l:List Nat} {o x:O} {E:Env} {ty:Nat} {j:Nat} {p:List aH} (h:E.ty ty = .st l) (k:Nat) (hk:k < l.length) :
  (O.set E ty o (.fld j :: p) x).fld k=if k=j then O.set E (l.getD j 0) (o.fld j) p x else o.fld k:=by
 simp only[O.set,h,O.fld];rw[List.getD_eq_getElem?_getD,List.getElem?_map,List.getElem?_range hk];simp only[Option.map_some,Option.getD_some];by_cases hkj:k=j
 ·subst hkj;simp
 ·have:Nat.beq k j=false:=by
   cases hb:Nat.beq k j with
   | false=>rfl
   | true=>exact absurd (Nat.eq_of_beq_eq_true hb) hkj
  simp[this,hkj]
theorem uh {E:Env} {w:World} {g:Gh} {r:Nat} {ty:Nat} {p:List aH} {κ:aE} {q:List aH} {ty':Nat} {κ':aE} (hs:Sub E w g r ty p κ q ty' κ') :
  ∀{o x:O},bj q=true→lx E ty o q x (O.set E ty o q x):=by
 induction hs with
 | nil=>intro o x _;rfl
 | idx=>intro o x h;simp[bj] at h
 | @fld ty fs j f p κ q ty' κ' b1 b2 _ ih=>
  intro o x h;have hj:=(List.getElem?_eq_some_iff.1 b2).1;refine ⟨fs,b1,fun k hk hkj=>by rw[ru b1 k hk,if_neg hkj],?_⟩
  rw[ru b1 j hj,if_pos rfl,jf b2];exact ih (by simpa[bj] using h)
theorem set_self {E:Env} {w:World} {g:Gh} {r:Nat} {ty:Nat} {p:List aH} {κ:aE} {q:List aH} {ty':Nat} {κ':aE} (hs:Sub E w g r ty p κ q ty' κ') :
  ∀{o x:O},bj q=true→(O.set E ty o q x).get q=x:=by
 induction hs with
 | nil=>intro o x _;rfl
 | idx=>intro o x h;simp[bj] at h
 | @fld ty fs j f p κ q ty' κ' b1 b2 _ ih=>
  intro o x h;have hj:=(List.getElem?_eq_some_iff.1 b2).1;simp only[O.get];rw[ru b1 j hj,if_pos rfl,jf b2];exact ih (by simpa[bj] using h)
theorem xZ {E:Env} {w:World} {g:Gh} {r:Nat} {ty:Nat} {p:List aH} {κ:aE} {q:List aH} {ty':Nat} {κ':aE} (hs:Sub E w g r ty p κ q ty' κ') :
  ∀{q':List aH} {ty'':Nat} {κ'':aE},Sub E w g r ty p κ q' ty'' κ''→split q q'=true→∀{o x:O},(O.set E ty o q x).get q'=o.get q'∧(o.way q'=true→(O.set E ty o q x).way q'=true):=by
 induction hs with
 | nil=>intro q' ty'' κ'' _ h;cases q' <;> simp[split] at h
 | idx=>intro q' ty'' κ'' _ h;cases q' <;> simp[split] at h
 | @fld ty fs j f p κ q ty' κ' b1 b2 _ ih=>
  intro q' ty'' κ'' hs' h o x;cases hs' with
  | nil=>simp[split] at h
  | idx=>simp[split] at h
  | @fld _ fs' j' f' _ _ q' _ _ c1 c2 c3=>
   rw[b1] at c1;cases c1;have hj:=(List.getElem?_eq_some_iff.1 b2).1;have hj':=(List.getElem?_eq_some_iff.1 c2).1;have hst : ∀y,O.set E ty o (.fld j :: q) x=y→y≠.dead:=by
    intro y hy hd;rw[hd] at hy;simp[O.set,b1] at hy
   have hway : ∀(y:O) (k:Nat) (s:List aH),y≠.dead→y.way (.fld k :: s)=(y.fld k).way s:=by
    intro y k s hy;cases y <;> simp_all[O.way]
   simp only[O.get];rw[ru b1 j' hj',hway _ _ _ (hst _ rfl),ru b1 j' hj'];by_cases hjj:j'=j
   ·subst hjj;rw[b2] at c2;cases c2;simp only[if_true,jf b2];have h':split q q'=true:=by simpa[split] using h
    obtain ⟨i1,i2⟩:=ih c3 h' (o:=o.fld j') (x:=x);exact ⟨i1,fun hw=>i2 (by cases o <;> simp_all[O.way])⟩
   ·rw[if_neg hjj];exact ⟨rfl,fun hw=>by cases o <;> simp_all[O.way]⟩
theorem pD : ∀{p q:List aH},split p q=true→split q p=true
 | [],_,h=>by simp[split] at h
 | .idx _ :: _,_,h=>by simp[split] at h
 | .fld i :: p,[],h=>by simp[split] at h
 | .fld i :: p,.idx _ :: _,h=>by simp[split] at h
 | .fld i :: p,.fld j :: q,h=>by
  simp only[split] at h ⊢;cases hb:Nat.beq i j with
  | true=>
   have:=Nat.eq_of_beq_eq_true hb;subst this;simp only[hb,cond_true] at h;rw[show Nat.beq i i=true from hb];exact pD h
  | false=>
   have:Nat.beq j i=false:=by
    cases hb':Nat.beq j i with
    | false=>rfl
    | true=>have:=Nat.eq_of_beq_eq_true hb';subst this;rw[hb'] at hb;cases hb
   simp[this]
theorem oZ : ∀{p q s:List aH},split p q=true→p <+: s→¬q <+: s
 | [],_,_,h,_=>by simp[split] at h
 | .idx _ :: _,_,_,h,_=>by simp[split] at h
 | .fld i :: p,[],_,h,_=>by simp[split] at h
 | .fld i :: p,.idx _ :: _,_,h,_=>by simp[split] at h
 | .fld i :: p,.fld j :: q,s,h,hp=>by
  intro hq;cases s with
  | nil=>simp at hp
  | cons a s=>
   obtain ⟨e1,h1⟩:=List.cons_prefix_cons.1 hp;obtain ⟨e2,h2⟩:=List.cons_prefix_cons.1 hq;have:i=j:=by rw[← e1] at e2;simpa using e2.symm
   subst this;simp only[split,show Nat.beq i i=true from Nat.beq_refl i,cond_true] at h
   exact oZ h h1 h2
abbrev Ent:=Nat × List aH × (List aH→List aH)
def sh (lo:Nat):List aH→List aH
 | .idx k :: q=>.idx (k - lo) :: q
 | q=>q
mutual
def dk (pd:List aH):AV→List Ent
 | .sref _ r p=>[(r,p,fun q=>pd++q)]
 | .sub _ r p lo _=>[(r,p,fun q=>pd++sh lo q)]
 | .agg _ l=>tD pd 0 l
 | .undef=>[]
 | .val _ _=>[]
 | .cst _=>[]
 | .nil _=>[]
 | .fnc _=>[]
 | .gd _ _=>[]
 | .pref _ _ _=>[]
 | .fptr _ _=>[]
 | .ln _ _=>[]
 | .pv _ _=>[]
 | .alt _ _ _ _=>[]
 | .row _ _ _ _=>[]
 | .tup _=>[]
def tD (pd:List aH):Nat→List AV→List Ent
 | _,[]=>[]
 | j,a :: l=>dk (pd ++ [.fld j]) a++tD pd (j+1) l
end
def srcs (es:List Ent):List (Nat × List aH):=es.map fun e=>(e.1,e.2.1)
def Tks (es:List Ent) (d:Nat) (g g':Gh):Prop:=∀e∈es,∀b q,g b = .at e.1 (e.2.1++q)→g' b = .at d (e.2.2 q)
structure eH (E:Env) (w:World) (g:Gh) (rt look:Nat→Option Rt) (hold:Nat→aE) (x:Nat × List aH):Prop where
 ok : ∃R ty e κ,look x.1=some R∧rt x.1=some R∧E.ty ty = .sl e∧Sub E w g x.1 R.ty [] (hold x.1) x.2 ty κ∧((R.o.get x.2).own||(R.o.get x.2).isFo)=true∧(R.o.get x.2).live=true∧dq x.2=true
theorem Tks.left {a b:List Ent} {d:Nat} {g g':Gh} (h:Tks (a++b) d g g'):Tks a d g g':=fun e he=>h e (List.mem_append_left _ he)
theorem Tks.right {a b:List Ent} {d:Nat} {g g':Gh} (h:Tks (a++b) d g g'):Tks b d g g':=fun e he=>h e (List.mem_append_right _ he)
section
variable {E:Env} {w:World} {g:Gh} {rt look:Nat→Option Rt} {hold:Nat→aE}
theorem eS {r:Nat} {R:Rt} (hr:dF E w g hold r R) {p:List aH} {ty:Nat} {κ:aE} (hs:Sub E w g r R.ty [] (hold r) p ty κ) :
  Rep E w g ty (R.t.get p) (R.o.get p) r p κ:=by simpa using Rep.sub hs hr.rep
theorem Rep.cutTo (hE:bl E) {ty e:Nat} {t:T} {o:O} {r:Nat} {p:List aH} {κ:aE} (h:Rep E w g ty t o r p κ) (he:E.ty ty = .sl e) (hof:(o.own||o.isFo)=true)
  {A A':Option Addr} {len cap lo hi cap':Nat} (hv:rd w κ=some (.slice A len cap)) (h1:lo≤hi) (h2:hi≤len) (h3:hi - lo≤cap') (h4:lo+cap'≤cap)
  (h5:(A=none∧A'=none)∨∃b x y,A=some ⟨b,x,none⟩∧A'=some ⟨b,y,none⟩∧y≤x+lo * E.sz e∧(cap'=0∨y=x+lo * E.sz e))
  {g':Gh} {d:Nat} {pd:List aH} (hf : ∀b,g b = .frz→g' b = .frz) (hg : ∀b q,g b = .at r (p++q)→g' b = .at d (pd++sh lo q)) :
  Rep E w g' ty (t.cut lo hi) o d pd (.reg [.slice A' (hi - lo) cap'] 0):=by
 cases h with
 | own0 a1 ho a3=>
  rw[hv] at a3;cases a3;have:hi=0:=by omega
  subst this;have:lo=0:=by omega
  subst this;rcases h5 with ⟨_,rfl⟩ | ⟨b,x,y,hA,_⟩
  ·have:cap'=0:=by omega
   subst this;simp only[T.cut,T.es,List.take_nil,List.drop_nil];exact .own0 he ho rfl
  ·cases hA
 | @own _ e' es a cap₁ _ _ _ _ a1 ho a3 a4 a5 a6 a7 a8=>
  rw[he] at a1;cases a1;rw[hv] at a3;cases a3;rcases h5 with ⟨hA,_⟩ | ⟨b,x,y,hA,rfl,hy,hy'⟩
  ·cases hA
  ·cases hA;have hlen:(((T.sl es).cut lo hi).es).length=hi - lo:=by simp[T.cut,T.es];omega
   have hes:(T.sl es).cut lo hi = .sl ((es.take hi).drop lo):=rfl
   rw[hes];have hlen':((es.take hi).drop lo).length=hi - lo:=by simp;omega
   have hsz:y+cap' * E.sz e≤x+cap * E.sz e:=by
    have:(lo+cap') * E.sz e≤cap * E.sz e:=Nat.mul_le_mul_right _ h4
    rw[Nat.add_mul] at this;rcases hy' with rfl | rfl
    ·omega
    ·omega
   refine .own (a:=⟨b,y,none⟩) he ho (by rw[hlen'];rfl) rfl (by rw[hlen'];exact h3) (by have:=hg b [] (by simpa using a6);simpa[sh] using this) (a7.mono hsz) ?_
   intro i t hi';obtain ⟨b1,b2⟩:=pH hi';have hc0:cap'≠0:=by omega
   have hy'':y=x+lo * E.sz e:=by rcases hy' with h | h;exact absurd h hc0;exact h
   have:=(a8 (lo+i) t b1).rekey (g':=g') (r':=d) (p':=pd ++ [.idx i]) hf (fun b q hq=>by
    have:=hg b (.idx (lo+i) :: q) (by rw[hq];simp)
    rw[this];simp[sh])
   rw[Nat.add_mul] at this;simpa[hy'',Nat.add_assoc] using this
 | fz0=>simp[O.own,O.isFo] at hof
 | fo0 a1 a2=>
  rw[hv] at a2;cases a2;have:hi=0:=by omega
  subst this;simp only[T.cut,T.es,List.take_nil,List.drop_nil];exact .fo0 he (by rw[Nat.zero_sub];rfl)
 | fz=>simp[O.own,O.isFo] at hof
 | @fo _ e' es a cap₁ _ _ _ a1 a2 a3 a4 a5 a6 a7=>
  rw[he] at a1;cases a1;rw[hv] at a2;cases a2;rcases h5 with ⟨hA,_⟩ | ⟨b,x,y,hA,rfl,hy,hy'⟩
  ·cases hA
  ·cases hA;have hes:(T.sl es).cut lo hi = .sl ((es.take hi).drop lo):=rfl
   rw[hes];have hlen':((es.take hi).drop lo).length=hi - lo:=by simp;omega
   refine .fo (a:=⟨b,y,none⟩) he (by rw[hlen'];rfl) rfl (by rw[hlen'];exact h3) (hf _ a5) a6 ?_
   intro i t hi';obtain ⟨b1,b2⟩:=pH hi';have hc0:cap'≠0:=by omega
   have hy'':y=x+lo * E.sz e:=by rcases hy' with h | h;exact absurd h hc0;exact h
   have:=(a7 (lo+i) t b1).old (g':=g') rfl hf d pd
   rw[Nat.add_mul] at this;simpa[hy'',Nat.add_assoc] using this
 | dead=>simp[O.own,O.isFo] at hof
 | _=>simp_all
mutual
theorem jh (hE:bl E) (hl : ∀r R,look r=some R→rt r=some R) (hr : ∀r R,rt r=some R→dF E w g hold r R) :
  ∀{av:AV} {ty:Nat} {c:mo} {v:Value},take E look ty av=some c→aO E w g rt hold av v→
  bd E ty v∧(∀pd,srcs (dk pd av)=c.mv)∧(∀x∈c.mv,eH E w g rt look hold x)∧
  ∀(d:Nat) (pd:List aH) (g':Gh),(∀b,g b = .frz→g' b = .frz)→Tks (dk pd av) d g g'→Rep E w g' ty c.t c.o d pd (.reg v.cells.toList 0)
 | .sref ty' r p,ty,c,v,h,hv=>by
  simp only[take] at h;cases hlr:look r with
  | none=>simp[hlr] at h
  | some R=>
   simp only[hlr] at h;generalize hc:(Nat.beq ty' ty&&(((R.o.get p).own||(R.o.get p).isFo)&&(R.o.get p).live&&dq p))=bb at h
   cases bb with
   | false=>simp at h
   | true=>
    rw[Bool.and_eq_true,Bool.and_eq_true,Bool.and_eq_true] at hc;obtain ⟨c1,⟨c2,c3⟩,c4⟩:=hc;have:=Nat.eq_of_beq_eq_true c1;subst this;simp only[cond_true,Option.some.injEq] at h;subst h;cases hv with
    | @sref _ e _ _ A n cp R' κ h1 h2 h3 h4=>
     rw[hl _ _ hlr] at h1;cases h1;refine ⟨bq hE (by simp[h2]) rfl,fun pd=>by simp[srcs,dk],fun x hx=>?_,fun d pd g' hf ht=>?_⟩
     ·simp only[List.mem_singleton] at hx;subst hx;exact ⟨⟨R,ty',e,κ,hlr,hl _ _ hlr,h2,h3,c2,c3,c4⟩⟩
     ·have hrep:=eS (hr _ _ (hl _ _ hlr)) h3;have ht' : ∀b q,g b = .at r (p++q)→g' b = .at d (pd++q):=fun b q hq=>ht _ (List.mem_singleton.2 rfl) b q hq
      refine (hrep.rekey hf ht').place hE fun k hk=>?_
      rw[hE.one _ (by simp[h2])] at hk
      obtain rfl:k=0:=by omega
      rw[aE.add_zero,aE.add_zero,h4];rfl
 | .sub ty' r p lo hi,ty,c,v,h,hv=>by
  simp only[take] at h;cases hlr:look r with
  | none=>simp[hlr] at h
  | some R=>
   simp only[hlr] at h;generalize hc:(Nat.beq ty' ty&&(((R.o.get p).own||(R.o.get p).isFo)&&(R.o.get p).live&&dq p))=bb at h
   cases bb with
   | false=>simp at h
   | true=>
    rw[Bool.and_eq_true,Bool.and_eq_true,Bool.and_eq_true] at hc;obtain ⟨c1,⟨c2,c3⟩,c4⟩:=hc;have:=Nat.eq_of_beq_eq_true c1;subst this;simp only[cond_true,Option.some.injEq] at h;subst h;cases hv with
    | @sub _ e _ _ _ _ A len cap A' cap' R' κ h1 h2 h3 h4 h5 h6 h7 h8 h9=>
     rw[hl _ _ hlr] at h1;cases h1;refine ⟨bq hE (by simp[h2]) rfl,fun pd=>by simp[srcs,dk],fun x hx=>?_,fun d pd g' hf ht=>?_⟩
     ·simp only[List.mem_singleton] at hx;subst hx;exact ⟨⟨R,ty',e,κ,hlr,hl _ _ hlr,h2,h3,c2,c3,c4⟩⟩
     ·have hrep:=eS (hr _ _ (hl _ _ hlr)) h3;exact hrep.cutTo hE h2 c2 h4 h5 h6 h7 h8 h9 hf (fun b q hq=>ht _ (List.mem_singleton.2 rfl) b q hq)
 | .nil ty',ty,c,v,h,hv=>by
  simp only[take] at h;cases hb:Nat.beq ty' ty with
  | false=>simp[hb] at h
  | true=>
   have:=Nat.eq_of_beq_eq_true hb;subst this;simp[hb] at h;subst h;cases hv with
   | nil he=>exact ⟨bq hE (by simp[he]) rfl,fun pd=>rfl,fun x hx=>by simp at hx,fun d pd g' _ _=>.own0 he rfl rfl⟩
 | .val ty' t',ty,c,v,h,hv=>by
  simp only[take] at h;cases hb:Nat.beq ty' ty with
  | false=>simp[hb] at h
  | true=>
   have:=Nat.eq_of_beq_eq_true hb;subst this;simp only[hb,cond_true,Option.some.injEq] at h;subst h;cases hv with
   | val h1 h2=>
    refine ⟨h2,fun pd=>rfl,fun x hx=>by simp at hx,fun d pd g' hf _=>?_⟩
    cases hfl:E.flat ty' with
    | true=>exact h1.flat hE rfl hfl fun _ _=>rfl
    | false=>exact h1.frozen rfl hf _ _
 | .cst cv,ty,c,v,h,hv=>by
  simp only[take] at h;split at h
  ·rename_i t ht
   cases h;cases hv;exact ⟨(lZ (w:=w) (g:=g) (r:=0) (p:=[]) hE (.inr rfl) ht).2,fun pd=>rfl,fun x hx=>by simp at hx,fun d pd g' hf _=>(lZ hE (.inl rfl) ht).1⟩
  ·cases h
 | .agg ty' l,ty,c,v,h,hv=>by
  simp only[take] at h;split at h
  ·rename_i fs he
   cases hb:Nat.beq ty' ty with
   | false=>simp[hb] at h
   | true=>
    have:=Nat.eq_of_beq_eq_true hb;subst this;simp only[hb,cond_true] at h;split at h
    ·rename_i ts os mv htl
     cases h;cases hv with
     | agg h1 h2 h3 h4 h5=>
      rename_i vs
      rw[he] at h1;cases h1;obtain ⟨i1,i2,i3,i4,i5⟩:=zT hE hl hr htl (vs:=vs) (by omega) h4
      refine ⟨bd.agg hE he h3 h5,fun pd=>i3 pd 0,i4,fun d pd g' hf ht=>.st he i1 fun j f t hj hjt=>?_⟩
      have hjl:j < fs.length:=(List.getElem?_eq_some_iff.1 hj).1
      obtain ⟨v,hv⟩ : ∃v,vs[j]?=some v:=⟨vs[j]'(by omega),List.getElem?_eq_getElem _⟩
      have:=i5 j f t v hj hjt hv d pd 0 g' hf ht
      rw[Nat.zero_add] at this;refine this.place hE fun k hk=>?_
      have:=fG h3 h5 j f v hj hv k hk
      simpa[aE.add,rd,Value.cells] using this
    ·cases h
  ·cases h
 | .undef,ty,c,v,h,hv=>by simp[take] at h
 | .fnc _,ty,c,v,h,hv=>by simp[take] at h
 | .gd _ _,ty,c,v,h,hv=>by simp[take] at h
 | .pref _ _ _,ty,c,v,h,hv=>by simp[take] at h
 | .fptr _ _,ty,c,v,h,hv=>by simp[take] at h
 | .ln _ _,ty,c,v,h,hv=>by simp[take] at h
 | .pv _ _,ty,c,v,h,hv=>by simp[take] at h
 | .alt _ _ _ _,ty,c,v,h,hv=>by simp[take] at h
 | .row _ _ _ _,ty,c,v,h,hv=>by simp[take] at h
 | .tup _,ty,c,v,h,hv=>by simp[take] at h
theorem zT (hE:bl E) (hl : ∀r R,look r=some R→rt r=some R) (hr : ∀r R,rt r=some R→dF E w g hold r R) :
  ∀{l:List AV} {fs:List Nat} {ts:List T} {os:List O} {mv:List (Nat × List aH)},lm E look fs l=some (ts,os,mv)→∀{vs:List Value},l.length=vs.length→
  (∀(j:Nat) (a:AV) (v:Value),l[j]?=some a→vs[j]?=some v→aO E w g rt hold a v)→
  ts.length=fs.length∧os.length=fs.length∧(∀pd j0,srcs (tD pd j0 l)=mv)∧(∀x∈mv,eH E w g rt look hold x)∧
  ∀(j f:Nat) (t:T) (v:Value),fs[j]?=some f→ts[j]?=some t→vs[j]?=some v→∀(d:Nat) (pd:List aH) (j0:Nat) (g':Gh),(∀b,g b = .frz→g' b = .frz)→
   Tks (tD pd j0 l) d g g'→Rep E w g' f t ((O.st os).fld j) d (pd ++ [.fld (j0+j)]) (.reg v.cells.toList 0)
 | [],fs,ts,os,mv,h,vs,hlen,hv=>by
  cases fs with
  | nil=>
   simp only[lm,Option.some.injEq,Prod.mk.injEq] at h;obtain ⟨rfl,rfl,rfl⟩:=h;exact ⟨rfl,rfl,fun _ _=>rfl,fun x hx=>by simp at hx,fun j f t v hf=>by simp at hf⟩
  | cons f fs=>simp[lm] at h
 | a :: l,fs,ts,os,mv,h,vs,hlen,hv=>by
  cases fs with
  | nil=>simp[lm] at h
  | cons f fs=>
   cases vs with
   | nil=>simp at hlen
   | cons v0 vs=>
   simp only[lm] at h;split at h
   ·rename_i x ts' os' mv' h1 h2
    cases h;obtain ⟨a1,a2,a3,a4⟩:=jh hE hl hr h1 (hv 0 a v0 rfl rfl);obtain ⟨i1,i2,i3,i4,i5⟩:=zT hE hl hr h2 (vs:=vs) (by simpa using hlen) (fun j a v b1 b2=>hv (j+1) a v (by simpa using b1) (by simpa using b2))
    refine ⟨by simp[i1],by simp[i2],fun pd j0=>by rw[tD,srcs,List.map_append];exact congr (congrArg _ (a2 _)) (i3 pd (j0+1)),fun y hy=>?_,?_⟩
    ·rcases List.mem_append.1 hy with hy | hy
     ·exact a3 y hy
     ·exact i4 y hy
    ·intro j f' t' v hf ht hvj d pd j0 g' hfz htk;rw[tD] at htk;cases j with
     | zero=>
      simp at hf ht hvj;subst hf;subst ht;subst hvj;exact a4 d (pd ++ [.fld j0]) g' hfz htk.left
     | succ j=>
      have:=i5 j f' t' v (by simpa using hf) (by simpa using ht) (by simpa using hvj) d pd (j0+1) g' hfz htk.right
      rw[show j0+1+j=j0+(j+1) by omega] at this
      simpa[O.fld] using this
   ·cases h
end
end
theorem bZ {a b:Nat} : Nat.beq a b=decide (a=b):=by
 cases h:Nat.beq a b with
 | true=>have:=Nat.eq_of_beq_eq_true h;simp[this]
 | false=>
  by_cases hab:a=b
  ·subst hab;rw[Nat.beq_refl] at h;cases h
  ·simp[hab]
theorem eR {n:Nat} {l:List Nat} : mem n l=true↔n∈l:=by
 induction l with
 | nil=>simp[mem]
 | cons k l ih=>simp only[mem,bZ,Bool.or_eq_true,decide_eq_true_eq,List.mem_cons,ih,eq_comm (a:=k)]
theorem qG {r:Nat} {p:List aH} {l:List (Nat × List aH)} (h:bP ((r,p) :: l)=true):(∀x∈l,r≠x.1∨split p x.2=true)∧bP l=true:=by
 simp only[bP,Bool.and_eq_true,List.all_eq_true] at h;refine ⟨fun x hx=>?_,h.2⟩
 have:=h.1 x hx
 simp only[Bool.or_eq_true,Bool.not_eq_true',bZ,decide_eq_false_iff_not] at this;exact this
theorem xR : ∀{es:List Ent},bP (srcs es)=true→∀{e e':Ent},e∈es→e'∈es→e=e'∨e.1≠e'.1∨split e.2.1 e'.2.1=true
 | [],_,_,_,h,_=>by cases h
 | x :: es,hm,e,e',h,h'=>by
  obtain ⟨m1,m2⟩:=qG (r:=x.1) (p:=x.2.1) (l:=srcs es) hm;rcases List.mem_cons.1 h with k | k
  ·rcases List.mem_cons.1 h' with k' | k'
   ·exact .inl (k.trans k'.symm)
   ·rw[k];exact .inr (m1 (e'.1,e'.2.1) (List.mem_map.2 ⟨e',k',rfl⟩))
  ·rcases List.mem_cons.1 h' with k' | k'
   ·rw[k'];rcases m1 (e.1,e.2.1) (List.mem_map.2 ⟨e,k,rfl⟩) with h1 | h1
    ·exact .inr (.inl (Ne.symm h1))
    ·exact .inr (.inr (pD h1))
   ·exact xR m2 k k'
def cq (es:List Ent) (g:Gh) (b:Nat):Prop:=∃e∈es,∃q,g b = .at e.1 (e.2.1++q)
open Classical in
noncomputable def go (es:List Ent) (d:Nat) (g:Gh):Gh:=fun b=>
 if h : ∃x:Own,∃e∈es,∃q,g b = .at e.1 (e.2.1++q)∧x = .at d (e.2.2 q) then h.choose else g b
theorem jT {es:List Ent} {d:Nat} {g:Gh} (hm:bP (srcs es)=true):Tks es d g (go es d g):=by
 intro e he b q hb;have h : ∃x:Own,∃e∈es,∃q,g b = .at e.1 (e.2.1++q)∧x = .at d (e.2.2 q):=⟨_,e,he,q,hb,rfl⟩
 unfold go;rw[dif_pos h];obtain ⟨e',h1,q',h2,h3⟩:=h.choose_spec;rw[h3];rw[hb] at h2;simp only[Own.at.injEq] at h2;obtain ⟨e1,e2⟩:=h2;rcases xR hm h1 he with h' | h' | h'
 ·subst h';rw[List.append_cancel_left e2]
 ·exact absurd e1.symm h'
 ·have p1:e'.2.1 <+: (e.2.1++q):=by rw[e2];exact List.prefix_append _ _
  exact absurd (List.prefix_append e.2.1 q) (oZ h' p1)
theorem bX {es:List Ent} {d:Nat} {g:Gh} {b:Nat} (h : ¬cq es g b):go es d g b=g b:=by
 unfold go;rw[dif_neg];rintro ⟨_,e,he,q,hq,_⟩;exact h ⟨e,he,q,hq⟩
theorem ez {es:List Ent} {d:Nat} {g:Gh} {b:Nat} (h:g b = .frz):go es d g b = .frz:=by
 rw[bX,h];rintro ⟨e,_,q,hq⟩;rw[h] at hq;cases hq
theorem pL {es:List Ent} {d:Nat} {g:Gh} {b:Nat} (h:g b = .free):go es d g b = .free:=by
 rw[bX,h];rintro ⟨e,_,q,hq⟩;rw[h] at hq;cases hq
theorem go_hd {es:List Ent} {d:Nat} {g:Gh} {b r:Nat} (h:g b = .hd r):go es d g b = .hd r:=by
 rw[bX,h];rintro ⟨e,_,q,hq⟩;rw[h] at hq;cases hq
theorem cE {es:List Ent} {d:Nat} {g:Gh} {b:Nat} (h:go es d g b≠.free):g b≠.free:=fun h'=>h (pL h')
theorem mQ (o:O) : ∀(p q:List aH),o.get (p++q)=(o.get p).get q:=by
 intro p;induction p generalizing o with
 | nil=>intro q;rfl
 | cons s p ih=>intro q;cases s <;> exact ih _ q
theorem way_of {p:List aH} : ∀{o:O},bj p=true→o.get p≠.dead→o.way p=true:=by
 induction p with
 | nil=>intro o _ _;rfl
 | cons s p ih=>
  intro o hp hg;cases s with
  | idx i=>simp[bj] at hp
  | fld j=>
   have h1:(o.fld j).way p=true:=ih (by simpa[bj] using hp) hg
   cases o with
   | dead=>exact absurd (jS _) hg
   | _=>simpa[O.way] using h1
section
variable {E:Env} {w:World} {g:Gh} {rt look:Nat→Option Rt} {hold:Nat→aE}
def kS (E:Env) (r:Nat) (R?:Option Rt) (x:Nat × List aH):Option Rt:=
 bif Nat.beq x.1 r then (match R?,x.2 with
  | some R,_ :: _=>some { R with o:=O.set E R.ty R.o x.2 .dead }
  | some R,[]=>bif R.box then some { R with o:=.dead } else none
  | none,_=>none) else R?
theorem uB (mv:List (Nat × List aH)) (r:Nat) (R:Rt):qF E mv r R=mv.foldl (kS E r) (some R):=by
 unfold qF;congr 1
theorem td {r:Nat} {R:Option Rt} {x:Nat × List aH} (h:x.1≠r):kS E r R x=R:=by
 unfold kS;rw[bZ];simp[h]
theorem u9 {r:Nat} {R:Option Rt} : ∀{l:List (Nat × List aH)},(∀x∈l,x.1≠r)→l.foldl (kS E r) R=R
 | [],_=>rfl
 | x :: l,h=>by
  rw[List.foldl_cons,td (h x (by simp))]
  exact u9 fun y hy=>h y (by simp[hy])
theorem rP {r ty₀:Nat} : ∀{l:List (Nat × List aH)},bP l=true→(∀p,(r,p)∈l→bj p=true∧∃ty κ,Sub E w g r ty₀ [] (hold r) p ty κ)→
  ∀{R:Rt},R.ty=ty₀→Rep E w g ty₀ R.t R.o r [] (hold r)→(∀p,(r,p)∈l→R.o.get p≠.dead)→
  match l.foldl (kS E r) (some R) with
  | none=>R.box=false∧(r,[])∈l
  | some R1=>R1.ty=ty₀∧R1.t=R.t∧R1.box=R.box∧Rep E w g ty₀ R1.t R1.o r [] (hold r)∧(∀p,(r,p)∈l→R1.o.get p = .dead)∧(R.box=false→(r,[]) ∉ l)∧
    ∀p ty κ,Sub E w g r ty₀ [] (hold r) p ty κ→bj p=true→(∀p',(r,p')∈l→split p' p=true)→R1.o.get p=R.o.get p∧(R.o.way p=true→R1.o.way p=true)
 | [],_,_,R,hty,hR,_=>⟨hty,rfl,rfl,hR,by simp,by simp,fun p ty κ _ _ _=>⟨rfl,id⟩⟩
 | (r',p) :: l,hm,hs,R,hty,hR,hg=>by
  obtain ⟨m1,m2⟩:=qG hm;rw[List.foldl_cons];by_cases hr:r'=r
  ·subst hr;obtain ⟨f1,ty1,κ1,s1⟩:=hs p (by simp)
   cases p with
   | nil=>
    have hno : ∀x∈l,x.1≠r':=fun x hx=>by
     rcases m1 x hx with h | h
     ·exact Ne.symm h
     ·simp[split] at h
    have hno' : ∀p,(r',p) ∉ l:=fun p hp=>hno _ hp rfl
    rw[u9 hno];simp only[kS,Nat.beq_refl,cond_true];cases hbx:R.box with
    | false=>exact ⟨by simp,by simp⟩
    | true=>
     simp only[cond_true];refine ⟨hty,trivial,trivial,.dead,fun p hp=>?_,by simp,fun p ty κ _ _ h=>?_⟩
     ·exact jS p
     ·have:=h [] (by simp);simp[split] at this
   | cons s p=>
    have hstep:kS E r' (some R) (r',s :: p)=some { R with o:=O.set E R.ty R.o (s :: p) .dead }:=by
     simp[kS,show Nat.beq r' r'=true from Nat.beq_refl r']
    rw[hstep];have hput:=uh s1 (o:=R.o) (x:=.dead) f1
    have hrep:Rep E w g ty₀ R.t (O.set E R.ty R.o (s :: p) .dead) r' [] (hold r'):=by
     rw[hty];exact Rep.leave s1 hR f1 (way_of f1 (hg _ (by simp))) hput
    have htl : ∀q,(r',q)∈l→split (s :: p) q=true:=fun q hq=>by
     rcases m1 _ hq with h | h
     ·exact absurd rfl h
     ·exact h
    have ih:=rP m2 (fun q hq=>hs q (by simp[hq])) (R:={ R with o:=O.set E R.ty R.o (s :: p) .dead }) hty hrep (fun q hq=>by
     obtain ⟨_,ty2,κ2,s2⟩:=hs q (by simp[hq])
     have:=(xZ s1 s2 (htl q hq) (o:=R.o) (x:=.dead)).1
     simp only
     rw[hty,this];exact hg q (by simp[hq]))
    split
    ·rename_i he;rw[he] at ih;exact ⟨ih.1,by simp[ih.2]⟩
    ·rename_i R1 he;rw[he] at ih;obtain ⟨i1,i2,i3,i4,i5,i6,i7⟩:=ih;refine ⟨i1,i2,i3,i4,fun q hq=>?_,fun hb=>by simpa using i6 hb,fun q ty κ hsq hfq hall=>?_⟩
     ·rcases List.mem_cons.1 hq with hq | hq
      ·cases hq;rw[(i7 (s :: p) ty1 κ1 s1 f1 (fun p' hp'=>pD (htl p' hp'))).1]
       simp only;rw[hty];exact set_self s1 f1
      ·exact i5 q hq
     ·obtain ⟨j1,j2⟩:=i7 q ty κ hsq hfq (fun p' hp'=>hall p' (by simp[hp']))
      have:=xZ s1 hsq (hall _ (by simp)) (o:=R.o) (x:=.dead)
      simp only at j1 j2
      rw[hty] at j1 j2;exact ⟨j1.trans this.1,fun hw=>j2 (this.2 hw)⟩
  ·rw[td (x:=(r',p)) hr];have ih:=rP m2 (fun q hq=>hs q (by simp[hq])) hty hR (fun q hq=>hg q (by simp[hq]))
   split
   ·rename_i he;rw[he] at ih;exact ⟨ih.1,by simp[ih.2]⟩
   ·rename_i R1 he;rw[he] at ih;obtain ⟨i1,i2,i3,i4,i5,i6,i7⟩:=ih;refine ⟨i1,i2,i3,i4,fun q hq=>?_,fun hb=>?_,fun q ty κ hsq hfq hall=>i7 q ty κ hsq hfq fun p' hp'=>hall p' (by simp[hp'])⟩
    ·rcases List.mem_cons.1 hq with hq | hq
     ·cases hq;exact absurd rfl hr
     ·exact i5 q hq
    ·intro hc;rcases List.mem_cons.1 hc with hq | hq
     ·cases hq;exact absurd rfl hr
     ·exact i6 hb hq
end
theorem jG {α:Type} (f:Nat→α) : ∀(l:List Nat) (r:Nat),aJ (l.map fun r=>(r,f r)) r=if r∈l then some (f r) else none
 | [],r=>by simp[aJ]
 | k :: l,r=>by
  simp only[List.map_cons,aJ,jG f l r,bZ,List.mem_cons];by_cases h:k=r
  ·subst h;simp
  ·simp[h,Ne.symm h]
theorem fH {mv:List (Nat × List aH)} {r:Nat} : r∈dy mv↔∃p,(r,p)∈mv:=by
 simp[dy,List.mem_eraseDups]
theorem km {E:Env} {look:Nat→Option Rt} {mv:List (Nat × List aH)} (r:Nat) :
  aJ (bY E look mv) r=if r∈dy mv then some ((look r).bind (qF E mv r)) else none:=jG _ _ _
def nP (look:Nat→Option Rt) (r:Nat) (p:List aH):Nat:=
 bif p.isEmpty then (match look r with | some R=>bif R.box then 2 else 0 | none=>0) else (match look r with | some R=>bif R.box then 3 else 1 | none=>0)
theorem C2 (look:Nat→Option Rt) (mv:List (Nat × List aH)):bW look mv=mv.map fun x=>(x.1,nP look x.1 x.2):=rfl
theorem sB {look:Nat→Option Rt} {r:Nat} : ∀{mv:List (Nat × List aH)},(∃p,(r,p)∈mv)→∃p,(r,p)∈mv∧aJ (bW look mv) r=some (nP look r p)
 | [],h=>by obtain ⟨p,h⟩:=h;cases h
 | (r',p') :: mv,h=>by
  rw[C2,List.map_cons];simp only[aJ,bZ];by_cases hr:r'=r
  ·subst hr;exact ⟨p',by simp,by simp⟩
  ·obtain ⟨p,hp⟩:=h;rcases List.mem_cons.1 hp with hp | hp
   ·cases hp;exact absurd rfl hr
   ·obtain ⟨q,h1,h2⟩:=sB (mv:=mv) (look:=look) ⟨p,hp⟩;exact ⟨q,by simp[h1],by simp only[hr,decide_false,cond_false];exact h2⟩
theorem zx {r:Nat} : ∀{mv:List (Nat × List aH)},bP mv=true→(r,[])∈mv→∀{p},(r,p)∈mv→p = []
 | [],_,h,_,_=>by cases h
 | (r',p') :: mv,hm,h,p,hp=>by
  obtain ⟨m1,m2⟩:=qG hm;rcases List.mem_cons.1 h with k | k
  ·cases k;rcases List.mem_cons.1 hp with k' | k'
   ·cases k';rfl
   ·rcases m1 _ k' with h | h
    ·exact absurd rfl h
    ·simp[split] at h
  ·rcases List.mem_cons.1 hp with k' | k'
   ·cases k';rcases m1 _ k with h | h
    ·exact absurd rfl h
    ·cases p' with
     | nil=>rfl
     | cons s p=>cases s <;> simp[split] at h
   ·exact zx m2 k k'
section
variable {E:Env} {n:Nat} {st:St} {a:Act} {w:World} {g:Gh} {hold:Nat→aE} {look:Nat→Option Rt}
theorem aP.rd {w w':World} {b:Nat} (h:aP w w' b) (o:Nat):rd w' (.mem b o)=rd w (.mem b o):=h.1 o
def iY (E:Env) (look:Nat→Option Rt) (st:St) (d:Nat) (Rd:Option Rt) (mv:List (Nat × List aH)):Nat→Option Rt:=fun r=>
 match aJ ((d,Rd) :: bY E look mv) r with | some x=>x | none=>st.rt r
theorem dj {d:Nat} {Rd:Option Rt} {mv:List (Nat × List aH)} : iY E look st d Rd mv d=Rd:=by
 simp[iY,aJ,bZ]
theorem zy {d r:Nat} {Rd:Option Rt} {mv:List (Nat × List aH)} (h:r≠d) (hr:r∈dy mv):iY E look st d Rd mv r=(look r).bind (qF E mv r):=by
 simp only[iY,aJ,bZ,Ne.symm h,decide_false,cond_false,km,hr,if_true]
theorem xS {d r:Nat} {Rd:Option Rt} {mv:List (Nat × List aH)} (h:r≠d) (hr:r ∉ dy mv):iY E look st d Rd mv r=st.rt r:=by
 simp only[iY,aJ,bZ,Ne.symm h,decide_false,cond_false,km,hr,if_false]
theorem wT (hE:bl E) (h:Inv E n st a w g hold) (hl : ∀r R,look r=some R→st.rt r=some R) {es:List Ent} (hm:bP (srcs es)=true)
  (hs : ∀x∈srcs es,eH E w g st.rt look hold x) {r:Nat} {R:Rt} (hR:st.rt r=some R) (hr:r∈dy (srcs es)) :
  match (look r).bind (qF E (srcs es) r) with
  | none=>R.box=false∧aJ (bW look (srcs es)) r=some 0
  | some R1=>R1.ty=R.ty∧R1.t=R.t∧R1.box=R.box∧Rep E w g R.ty R.t R1.o r [] (hold r)∧(∀p,(r,p)∈srcs es→R1.o.get p = .dead)∧
    (∃k,aJ (bW look (srcs es)) r=some k∧(R.box=true→k=2∨k=3)∧(R.box=false→k=1))∧
    ∀p ty κ,Sub E w g r R.ty [] (hold r) p ty κ→bj p=true→(∀p',(r,p')∈srcs es→split p' p=true)→R1.o.get p=R.o.get p∧(R.o.way p=true→R1.o.way p=true):=by
 obtain ⟨p0,hp0⟩:=fH.1 hr;have src : ∀p,(r,p)∈srcs es→look r=some R∧bj p=true∧(∃ty κ,Sub E w g r R.ty [] (hold r) p ty κ)∧R.o.get p≠.dead:=by
  intro p hp;obtain ⟨R',ty,e,κ,h1,h2,h3,h4,h5,h6,h7⟩:=(hs _ hp).ok;simp only at h1 h2 h4 h5 h6 h7
  rw[hR] at h2;cases h2;exact ⟨h1,h7,⟨ty,κ,h4⟩,fun hd=>by rw[hd] at h5;simp[O.own,O.isFo] at h5⟩
 have hlr:=(src p0 hp0).1;obtain ⟨p1,hp1,hk⟩:=sB (look:=look) ⟨p0,hp0⟩;have:=rP (E:=E) (w:=w) (g:=g) (hold:=hold) (r:=r) (ty₀:=R.ty) hm (fun p hp=>⟨(src p hp).2.1,(src p hp).2.2.1⟩) (R:=R) rfl (h.rts r R hR).rep (fun p hp=>(src p hp).2.2.2)
 rw[hlr,Option.bind_some,uB];split
 ·rename_i he
  rw[he] at this;obtain ⟨t1,t2⟩:=this;refine ⟨t1,?_⟩;have:=zx hm t2 hp1;subst this;rw[hk];simp[nP,hlr,t1]
 ·rename_i R1 he
  rw[he] at this;obtain ⟨i1,i2,i3,i4,i5,i6,i7⟩:=this;refine ⟨i1,i2,i3,by rw[← i2];exact i4,i5,?_,i7⟩
  refine ⟨_,hk,fun hb=>?_,fun hb=>?_⟩
  ·cases p1 with
   | nil=>left;simp[nP,hlr,hb]
   | cons s p=>right;simp[nP,hlr,hb]
  ·have hne:p1≠[]:=fun hp=>i6 hb (by rw[← hp];exact hp1)
   cases p1 with
   | nil=>exact absurd rfl hne
   | cons s p=>simp[nP,hlr,hb]
theorem mV (hE:bl E) (h:Inv E n st a w g hold) (hl : ∀r R,look r=some R→st.rt r=some R) {es:List Ent} (hm:bP (srcs es)=true)
  (hs : ∀x∈srcs es,eH E w g st.rt look hold x) {w':World} {g':Gh} {hold':Nat→aE} {d kd:Nat} {Rd:Option Rt}
  (hu : ∀b,g b≠.free→¬cq es g b→g b≠.hd d→(∀q,g b≠.at d q)→aP w w' b∧g' b=g b)
  (hh : ∀r,r≠d→hold' r=hold r)
  (hc:kd=0∨∀R,st.rt d=some R→eM E w g hold w' g' (iY E look st d Rd (srcs es)) hold' ((d,kd) :: bW look (srcs es)) d R) :
  ∀r R,st.rt r=some R→eM E w g hold w' g' (iY E look st d Rd (srcs es)) hold' ((d,kd) :: bW look (srcs es)) r R:=by
 intro r R hr;have hout : ∀r,r≠d→r ∉ dy (srcs es)→jt w g hold w' g' hold' r:=by
  intro r hr hn;refine ⟨hh r hr,fun b hb=>?_⟩
  have hng : ¬cq es g b:=by
   rintro ⟨e,he,q,hq⟩
   rcases hb with hb | ⟨s,hb⟩
   ·rw[hb] at hq;cases hq
   ·rw[hb] at hq;simp only[Own.at.injEq] at hq;exact hn (fH.2 ⟨e.2.1,by rw[hq.1];exact List.mem_map.2 ⟨e,he,rfl⟩⟩)
  refine hu b ?_ hng ?_ ?_
  ·rcases hb with hb | ⟨s,hb⟩ <;> rw[hb] <;> simp
  ·rcases hb with hb | ⟨s,hb⟩ <;> rw[hb] <;> simp[hr]
  ·intro q;rcases hb with hb | ⟨s,hb⟩ <;> rw[hb] <;> simp[hr]
 by_cases hrd:r=d
 ·subst hrd;rcases hc with rfl | hc
  ·exact .dead (by simp[aJ,bZ])
  ·exact hc R hr
 ·by_cases hrm:r∈dy (srcs es)
  ·have:=wT hE h hl hm hs hr hrm
   have hks : ∀k,aJ (bW look (srcs es)) r=some k→aJ ((d,kd) :: bW look (srcs es)) r=some k:=by
    intro k hk;simp only[aJ,bZ,Ne.symm hrd,decide_false,cond_false];exact hk
   split at this
   ·exact .dead (hks _ this.2)
   ·rename_i R1 he
    obtain ⟨i1,i2,i3,i4,i5,⟨kk,i6,i8,i9⟩,_⟩:=this;have hn:iY E look st d Rd (srcs es) r=some R1:=by rw[zy hrd hrm];exact he
    cases hbx:R.box with
    | true=>
     rcases i8 hbx with rfl | rfl
     ·exact .box hbx hn i1 (hh r hrd) (hks _ i6)
     ·refine .lent hbx hn i1 (hh r hrd) (fun m=>?_) (hks _ i6)
      obtain ⟨b,o,e1,e2,_⟩:=(h.rts r R hr).box hbx;rw[e1];exact (hu b (by rw[e2];simp) (by rintro ⟨e,_,q,hq⟩;rw[e2] at hq;cases hq) (by rw[e2];simp[hrd]) (by rw[e2];simp)).1.1 _
    | false=>rw[i9 hbx] at i6;exact .val hbx hn i1 (hh r hrd) (hks _ i6)
  ·exact .keep (by rw[xS hrd hrm];exact hr) (hout r hrd hrm)
theorem kg (hE:bl E) (h:Inv E n st a w g hold) (hl : ∀r R,look r=some R→st.rt r=some R) {es:List Ent} (hm:bP (srcs es)=true)
  (hs : ∀x∈srcs es,eH E w g st.rt look hold x) {w':World} {g':Gh} {hold':Nat→aE} {d kd:Nat} {dst:Option Nat} {Rd:Option Rt} {av:AV} {v:Value}
  (hdst : ∀x,dst=some x→x < n)
  (hu : ∀b,g b≠.free→¬cq es g b→g b≠.hd d→(∀q,g b≠.at d q)→aP w w' b∧g' b=g b)
  (hh : ∀r,r≠d→hold' r=hold r)
  (hR : ∀R,Rd=some R→dF E w' g' hold' d R)
  (hb : ∀b,g' b≠.free→b < w'.heap.size)
  (hc:kd=0∨∀R,st.rt d=some R→eM E w g hold w' g' (iY E look st d Rd (srcs es)) hold' ((d,kd) :: bW look (srcs es)) d R)
  (hv:dst.isSome=true→aO E w' g' (iY E look st d Rd (srcs es)) hold' av v) :
  Inv E n (aX dst ⟨av,(d,Rd) :: bY E look (srcs es),(d,kd) :: bW look (srcs es)⟩ st) (a.put dst v) w' g' hold':=by
 have hfrz : ∀b,g b = .frz→aP w w' b∧g' b = .frz:=by
  intro b hb;obtain ⟨h1,h2⟩:=hu b (by rw[hb];simp) (by rintro ⟨e,_,q,hq⟩;rw[hb] at hq;cases hq) (by rw[hb];simp) (by rw[hb];simp)
  exact ⟨h1,by rw[h2,hb]⟩
 have hwrt:(aX dst ⟨av,(d,Rd) :: bY E look (srcs es),(d,kd) :: bW look (srcs es)⟩ st).rt=iY E look st d Rd (srcs es):=rfl
 have hout : ∀r,r≠d→r ∉ dy (srcs es)→jt w g hold w' g' hold' r:=by
  intro r hr hn;refine ⟨hh r hr,fun b hb=>?_⟩
  have hng : ¬cq es g b:=by
   rintro ⟨e,he,q,hq⟩
   rcases hb with hb | ⟨s,hb⟩
   ·rw[hb] at hq;cases hq
   ·rw[hb] at hq;simp only[Own.at.injEq] at hq;exact hn (fH.2 ⟨e.2.1,by rw[hq.1];exact List.mem_map.2 ⟨e,he,rfl⟩⟩)
  refine hu b ?_ hng ?_ ?_
  ·rcases hb with hb | ⟨s,hb⟩ <;> rw[hb] <;> simp
  ·rcases hb with hb | ⟨s,hb⟩ <;> rw[hb] <;> simp[hr]
  ·intro q;rcases hb with hb | ⟨s,hb⟩ <;> rw[hb] <;> simp[hr]
 refine h.apply hE hdst hfrz (hU.of hE h.rts fun r R hr=>by rw[hwrt];exact mV hE h hl hm hs hu hh hc r R hr) (fun r R hr=>?_) hb (by rw[hwrt];exact hv)
 ·rw[hwrt] at hr;by_cases hrd:r=d
  ·subst hrd;rw[dj] at hr;exact hR R hr
  ·by_cases hrm:r∈dy (srcs es)
   ·rw[zy hrd hrm] at hr;obtain ⟨p0,hp0⟩:=fH.1 hrm;obtain ⟨R0,_,_,_,h1,h2,_⟩:=(hs _ hp0).ok;simp only at h1 h2
    have:=wT hE h hl hm hs h2 hrm
    rw[hr] at this;obtain ⟨i1,i2,i3,i4,i5,_,_⟩:=this;have ok:=h.rts r R0 h2;have hhd : ∀b,g b = .hd r→aP w w' b∧g' b=g b:=fun b hb=>hu b (by rw[hb];simp) (by rintro ⟨e,_,q,hq⟩;rw[hb] at hq;cases hq)
     (by rw[hb];simp[hrd]) (by rw[hb];simp)
    refine ⟨?_,fun hb=>?_,fun hb=>?_⟩
    ·rw[hh r hrd,i1,i2];refine i4.relocO hE (fun k _=>?_) fun b hlo=>?_
     ·cases hbx:R0.box with
      | true=>
       obtain ⟨b,o,e1,e2,_⟩:=ok.box hbx;rw[e1];exact (hhd b e2).1.1 _
      | false=>
       obtain ⟨vs,e1⟩:=ok.reg hbx;rw[e1];rfl
     ·rcases hlo with hf | ⟨q,hq,hnd⟩
      ·obtain ⟨f1,f2⟩:=hfrz b hf;exact ⟨f1,by rw[f2,hf]⟩
      ·rw[List.nil_append] at hq;refine hu b (by rw[hq];simp) ?_ (by rw[hq];simp) (by rw[hq];simp[hrd])
       rintro ⟨e,he,q',hq'⟩
       rw[hq] at hq';simp only[Own.at.injEq] at hq';obtain ⟨rfl,rfl⟩:=hq';apply hnd
       rw[mQ,i5 e.2.1 (List.mem_map.2 ⟨e,he,rfl⟩),jS]
    ·obtain ⟨b,o,e1,e2,e3⟩:=ok.box (by rw[← i3];exact hb)
     obtain ⟨f1,f2⟩:=hhd b e2;exact ⟨b,o,by rw[hh r hrd,e1],by rw[f2,e2],by rw[i1];exact f1.2 _ e3⟩
    ·obtain ⟨vs,e1⟩:=ok.reg (by rw[← i3];exact hb)
     exact ⟨vs,by rw[hh r hrd,e1]⟩
   ·rw[xS hrd hrm] at hr;exact (h.rts r R hr).keep hE (hout r hrd hrm) hfrz
end
def wk (o':O) (d:Nat) (g:Gh):Gh:=fun b=>match g b with
 | .at r q=>if r=d∧(o'.get q).isFz=true then .frz else .at r q
 | x=>x
theorem xi (o':O) (d:Nat) (g:Gh):Goes g (wk o' d g) d [] o' d []:=by
 refine ⟨fun b hb=>by simp[wk,hb],fun b q hb=>?_⟩
 rw[List.nil_append] at hb;simp[wk,hb]
theorem fW {o':O} {d:Nat} {g:Gh} {b:Nat} (h : ∀q,g b≠.at d q):wk o' d g b=g b:=by
 unfold wk;split
 ·rename_i r q hb
  rw[if_neg,hb];rintro ⟨rfl,_⟩;exact h q hb
 ·rfl
theorem CB {o':O} {d:Nat} {g:Gh} {b:Nat} (h:wk o' d g b≠.free):g b≠.free:=by
 intro hf;exact h (by rw[fW (by rw[hf];simp),hf])
section
variable {P:Program} {E:Env} {n:Nat} {st:St} {a:Act} {w:World} {g:Gh} {hold:Nat→aE} {look:Nat→Option Rt}
theorem weak_ok (hE:bl E) {fi:Fi} {d:Nat} {R R':Rt} {w':World} {g₁:Gh} {κ:aE} (hw:zX fi E d R=some R') (h:Rep E w' g₁ R.ty R.t R.o d [] κ) :
  R'.ty=R.ty∧R'.t=R.t∧R'.box=R.box∧∃g₂,Rep E w' g₂ R'.ty R'.t R'.o d [] κ∧(∀b,(∀q,g₁ b≠.at d q)→g₂ b=g₁ b)∧∀b,g₂ b≠.free→g₁ b≠.free:=by
 unfold zX at hw;split at hw
 ·cases hw;exact ⟨rfl,rfl,rfl,g₁,h,fun _ _=>rfl,fun _ h=>h⟩
 ·rename_i o ho
  cases hle:leT E o R.ty R.o with
  | false=>simp[hle] at hw
  | true=>
   simp only[hle,cond_true,Option.some.injEq] at hw;subst hw;exact ⟨rfl,rfl,rfl,wk o d g₁,h.moveT hE hle (xi o d g₁),fun b hb=>fW hb,fun b hb=>CB hb⟩
theorem vV (hE:bl E) (h:Inv E n st a w g hold) (hl : ∀r R,look r=some R→st.rt r=some R) {es:List Ent} (hm:bP (srcs es)=true)
  (hs : ∀x∈srcs es,eH E w g st.rt look hold x) {fi:Fi} {d:Nat} {pre:Bool} {R:Rt} {e:Eff}
  (hlay:lay fi E pre d R (bY E look (srcs es)) (bW look (srcs es))=some e) {dst:Option Nat} (hdst : ∀x,dst=some x→x < n) (hd9:d < 100000)
  {w':World} {g₁:Gh} {κ:aE} {v:Value}
  (hu : ∀b,g b≠.free→¬cq es g b→(∀q,g b≠.at d q)→aP w w' b∧g₁ b=g b)
  (hb : ∀b,g₁ b≠.free→b < w'.heap.size)
  (hst:w'.os=w.os∧w'.tape=w.tape∧w'.output=w.output∧w.heap.size≤w'.heap.size)
  (hkeep : ∀b,b < w.heap.size→(g b = .free∨g b = .frz)→w'.heap[b]?=w.heap[b]?∧g₁ b=g b)
  (hrep:Rep E w' g₁ R.ty R.t R.o d [] κ)
  (hcase:(R.box=false∧κ = .reg [v] 0∧∃A k c e0,v = .slice A k c∧E.ty R.ty = .sl e0)∨
   (R.box=true∧∃b o,κ = .mem b o∧v = .pointer (some ⟨b,o,none⟩)∧g₁ b = .hd d∧ch w' b (o+E.sz R.ty))) :
  e.pre=pre∧e.g=true∧e.req=none∧∃g' hold',Stp w g w' g'∧Sld hold hold'∧Inv E n (aX dst (e.ret []) st) (a.put dst v) w' g' hold':=by
 unfold lay at hlay;split at hlay
 ·cases hlay
 rename_i R' hw
 obtain ⟨e1,e2,e3,g₂,hrep₂,hg₂,hfr⟩:=weak_ok hE hw hrep;have hstp:Stp w g w' g₂:=⟨hst.1,hst.2.1,hst.2.2.1,hst.2.2.2,fun b hb hfree=>by
  obtain ⟨k1,k2⟩:=hkeep b hb hfree;refine ⟨k1,?_⟩;rw[hg₂ b,k2];intro q;rw[k2];rcases hfree with hf | hf <;> rw[hf] <;> simp⟩
 have hu₂ : ∀b,g b≠.free→¬cq es g b→g b≠.hd d→(∀q,g b≠.at d q)→aP w w' b∧g₂ b=g b:=by
  intro b h1 h2 _ h4;obtain ⟨k1,k2⟩:=hu b h1 h2 h4;exact ⟨k1,by rw[hg₂ b (fun q=>by rw[k2];exact h4 q),k2]⟩
 have hb₂ : ∀b,g₂ b≠.free→b < w'.heap.size:=fun b hb'=>hb b (hfr b hb')
 let hold':Nat→aE:=fun r=>if r=d then κ else hold r
 have hh : ∀r,r≠d→hold' r=hold r:=fun r hr=>by simp[hold',hr]
 have hd:hold' d=κ:=by simp[hold']
 generalize hz:(R'.o.isFz && !R'.box)=z at hlay
 cases z with
 | true=>
  simp only[cond_true,Option.some.injEq] at hlay;subst hlay;simp only[Bool.and_eq_true,Bool.not_eq_true'] at hz;rcases hcase with ⟨c1,c2,A,k,c,e0,c3,c4⟩ | ⟨c1,_⟩
  ·refine ⟨rfl,rfl,rfl,g₂,hold',hstp,fun r hr=>hh r (by omega),kg hE h hl hm hs hdst hu₂ hh (fun R hR=>by cases hR) hb₂ (.inl rfl) fun _=>?_⟩
   subst c2;subst c3;refine .val ?_ (bq hE (by rw[e1,c4];trivial) rfl)
   have:R'.o = .fz:=by cases ho:R'.o <;> rw[ho] at hz <;> simp[O.isFz] at hz;
   exact hrep₂.frozen this (fun _ h=>h) _ _
  ·rw[e3,c1] at hz;simp at hz
 | false=>
  simp only[cond_false,Option.some.injEq] at hlay;subst hlay;have hroot:dF E w' g₂ hold' d R':=by
   refine ⟨by rw[hd];exact hrep₂,fun hbx=>?_,fun hbx=>?_⟩
   ·rcases hcase with ⟨c1,_⟩ | ⟨_,b,o,c2,_,c4,c5⟩
    ·rw[e3,c1] at hbx;cases hbx
    ·exact ⟨b,o,by rw[hd,c2],by rw[hg₂ b (fun q=>by rw[c4];simp),c4],by rw[e1];exact c5⟩
   ·rcases hcase with ⟨_,c2,_⟩ | ⟨c1,_⟩
    ·exact ⟨[v],by rw[hd,c2]⟩
    ·rw[e3,c1] at hbx;cases hbx
  refine ⟨rfl,rfl,rfl,g₂,hold',hstp,fun r hr=>hh r (by omega),kg hE h hl hm hs hdst hu₂ hh (fun R hR=>by cases hR;exact hroot) hb₂ (.inl rfl) fun _=>?_⟩
  rcases hcase with ⟨c1,c2,A,k,c,e0,c3,c4⟩ | ⟨c1,b,o,c2,c3,_⟩
  ·rw[e3,c1];subst c3;subst c2;exact .sref (R:=R') dj (by rw[e1,c4]) (by rw[hd];exact .nil) rfl
  ·rw[e3,c1];subst c3;subst c2;exact .pref (R:=R') dj (by rw[hd];exact .nil)
structure Gr (w w':World) (c:Array Value) (e:TypeId):Prop where
 heap:w'.heap=w.heap.push (.cells c e (0,0))
 os:w'.os=w.os
 tape:w'.tape=w.tape
 output:w'.output=w.output
theorem Gr.alloc (w:World) (c:Array Value) (e:TypeId):Gr w (w.alloc (.cells c e)) c e:=⟨rfl,rfl,rfl,rfl⟩
theorem Gr.drew (w:World) (c:Array Value) (e:TypeId):Gr w (w.drew.alloc (.cells c e)) c e:=⟨rfl,rfl,rfl,rfl⟩
theorem Gr.old {w w':World} {c:Array Value} {e:TypeId} (h:Gr w w' c e) {b:Nat} (hb:b < w.heap.size):w'.heap[b]?=w.heap[b]?:=by
 rw[h.heap,Array.getElem?_push_lt hb];simp[hb]
theorem Gr.same {w w':World} {c:Array Value} {e:TypeId} (h:Gr w w' c e) {b:Nat} (hb:b < w.heap.size):aP w w' b:=.of_heap (h.old hb)
theorem Gr.cell {w w':World} {c:Array Value} {e:TypeId} (h:Gr w w' c e) (k:Nat):w'.cell? ⟨w.heap.size,k,none⟩=c[k]?:=by
 simp[World.cell?,h.heap]
theorem Gr.blk {w w':World} {c:Array Value} {e:TypeId} (h:Gr w w' c e) {k:Nat} (hk:k≤c.size):ch w' w.heap.size k:=
 ⟨c,e,by simp[h.heap],hk⟩
theorem Gr.size {w w':World} {c:Array Value} {e:TypeId} (h:Gr w w' c e):w'.heap.size=w.heap.size+1:=by simp[h.heap]
theorem pX (hE:bl E) (h:Inv E n st a w g hold) (hl : ∀r R,look r=some R→st.rt r=some R) {es:List Ent} (hm:bP (srcs es)=true)
  (hs : ∀x∈srcs es,eH E w g st.rt look hold x) {fi:Fi} {d:Nat} {pre:Bool} {R:Rt} {e:Eff}
  (hlay:lay fi E pre d R (bY E look (srcs es)) (bW look (srcs es))=some e) {dst:Option Nat} (hdst : ∀x,dst=some x→x < n) (hd9:d < 100000)
  {w':World} {c:Array Value} {ce:TypeId} (hgr:Gr w w' c ce) {κ:aE} {v:Value} {g₁:Gh}
  (hg₁ : ∀b,b < w.heap.size→(∀q,go es d g b≠.at d q)→g₁ b=go es d g b) (hf₁ : ∀b,g₁ b≠.free→b=w.heap.size∨go es d g b≠.free)
  (hrep:Rep E w' g₁ R.ty R.t R.o d [] κ)
  (hcase:(R.box=false∧κ = .reg [v] 0∧∃A k c e0,v = .slice A k c∧E.ty R.ty = .sl e0)∨
   (R.box=true∧κ = .mem w.heap.size 0∧v = .pointer (some ⟨w.heap.size,0,none⟩)∧g₁ w.heap.size = .hd d∧E.sz R.ty≤c.size)) :
  e.pre=pre∧e.g=true∧e.req=none∧∃g' hold',Stp w g w' g'∧Sld hold hold'∧Inv E n (aX dst (e.ret []) st) (a.put dst v) w' g' hold':=by
 have hlt : ∀b,g b≠.free→b < w.heap.size:=h.bnd
 refine vV hE h hl hm hs hlay hdst hd9 (fun b hb hng hnd=>?_) (fun b hb=>?_) ⟨hgr.os,hgr.tape,hgr.output,by rw[hgr.size];omega⟩ (fun b hb hfr=>?_) hrep ?_
 ·have:=hlt b hb
  exact ⟨hgr.same this,by rw[hg₁ b this (by rw[bX hng];exact hnd),bX hng]⟩
 ·rw[hgr.size];rcases hf₁ b hb with rfl | hb
  ·omega
  ·have:=hlt b (cE hb);omega
 ·refine ⟨hgr.old hb,?_⟩;have hng : ¬cq es g b:=by
   rintro ⟨e,_,q,hq⟩
   rcases hfr with hf | hf <;> rw[hf] at hq <;> cases hq
  rw[hg₁ b hb (by rw[bX hng];intro q;rcases hfr with hf | hf <;> rw[hf] <;> simp),bX hng]
 ·rcases hcase with hc | ⟨c1,c2,c3,c4,c5⟩
  ·exact .inl hc
  ·exact .inr ⟨c1,_,_,c2,c3,c4,by simpa using hgr.blk c5⟩
noncomputable def fg (es:List Ent) (d:Nat) (g:Gh) (w:World) (own:Own):Gh:=fun b=>if b=w.heap.size then own else go es d g b
theorem sQ {es:List Ent} {d:Nat} {g:Gh} {w:World} {own:Own} : fg es d g w own w.heap.size=own:=if_pos rfl
theorem oc {es:List Ent} {d:Nat} {g:Gh} {w:World} {own:Own} {b:Nat} (h:b < w.heap.size):fg es d g w own b=go es d g b:=if_neg (by omega)
theorem ri {es:List Ent} {d:Nat} {g:Gh} {w:World} {own:Own} {b:Nat} (h:fg es d g w own b≠.free):b=w.heap.size∨go es d g b≠.free:=by
 unfold fg at h;by_cases hb:b=w.heap.size
 ·exact .inl hb
 ·rw[if_neg hb] at h;exact .inr h
theorem o4.nf {g:Gh} {r:Nat} {p:List aH} {b:Nat} (h:o4 g r p b):g b≠.free:=by
 rcases h with h | ⟨q,h⟩ <;> rw[h] <;> simp
theorem Rep.fresh (hE:bl E) (hbnd : ∀b,g b≠.free→b < w.heap.size) {es:List Ent} {d:Nat} {w':World} {c:Array Value} {ce:TypeId} (hgr:Gr w w' c ce) {own:Own}
  {ty:Nat} {t:T} {o:O} {p:List aH} {κ κ':aE} (h:Rep E w (go es d g) ty t o d p κ) (hk : ∀k,k < E.sz ty→rd w' (κ'.add k)=rd w (κ.add k)) :
  Rep E w' (fg es d g w own) ty t o d p κ':=
 h.reloc hE hk fun b hb=>by
  have:=hbnd b (cE hb.nf)
  exact ⟨hgr.same this,oc this⟩
end
section
variable {P:Program} {E:Env} {n:Nat} {st:St} {a:Act} {w:World} {g:Gh} {hold:Nat→aE} {look:Nat→Option Rt} {o:Oper} {b:Bool}
def eG (P:Program) (E:Env) (n:Nat) (st:St) (a:Act) (w:World) (g:Gh) (hold:Nat→aE) (o:Oper) (e:Eff):Prop:=
 e.g=true∧e.req=none∧(e.pre=true→Does P E n st a w g hold o (e.ret []))
theorem fC.acts (hE:bl E) (h:Inv E n st a w g hold) (hd : ∀x,o.dst=some x→x < n) {e:Eff} (hy:fC P E st a w g hold o e):eG P E n st a w g hold o e:=by
 obtain ⟨av,he,hy⟩:=hy;rw[he];refine ⟨rfl,rfl,fun hp=>?_⟩
 exact (hy hp).does hE h hd
theorem eG.mk {e:Eff} {pre:Bool} {v:Value} (hres:pre=true→∃w',(execOp a.eval o).run P w = .ok (.value v) w'∧
   (e.pre=pre∧e.g=true∧e.req=none∧∃g' hold',Stp w g w' g'∧Sld hold hold'∧Inv E n (aX o.dst (e.ret []) st) (a.put o.dst v) w' g' hold'))
  (h0:e.pre=pre∧e.g=true∧e.req=none):eG P E n st a w g hold o e:=by
 refine ⟨h0.2.1,h0.2.2,fun hp=>?_⟩
 obtain ⟨w',hr,_,_,_,g',hold',h1,h2⟩:=hres (by rw[← h0.1];exact hp)
 exact ⟨_,w',v,g',hold',hr,.inl rfl,h1,h2⟩
theorem mb {fi:Fi} {pre:Bool} {d:Nat} {R:Rt} {mvs:Wr} {ks:Ks} {e:Eff} (h:lay fi E pre d R mvs ks=some e):e.pre=pre∧e.g=true∧e.req=none:=by
 unfold lay at h;split at h
 ·cases h
 ·rename_i R' _
  cases hz:(R'.o.isFz && !R'.box) <;> simp[hz] at h <;> subst h <;> exact ⟨rfl,rfl,rfl⟩
theorem rY {w':World} (s:Sem Value) (v:Value) (h:s.run P w = .ok v w'):(do pure (Next.value (← s)):Sem Next).run P w = .ok (.value v) w':=by
 simp[h]
theorem qH:bP (srcs [])=true:=rfl
theorem alloc_ok (hP:ba P E) (h:Inv E n st a w g hold) (hd : ∀x,o.dst=some x→x < n) {fi:Fi} {t d:Nat} {e:Eff} (hop:o.op = .alloc t) (hz:E.zok t=true)
  (hd9:d < 100000) (he:lay fi E true d ⟨t,E.zero t,.dp,true⟩ [] []=some e):eG P E n st a w g hold o e:=by
 obtain ⟨hok,i,z,hi,hiz,hsh,hzc⟩:=hP.zero t hz;refine eG.mk (v:=.pointer (some ⟨w.heap.size,0,none⟩)) (fun _=>⟨w.alloc (.cells z.cells t),?_,?_⟩) (mb he)
 ·simp[execOp,hop,Instr.alloc,zeroValue,typeInfo,hi,hiz,newVar,newRow]
 ·have hgr:=Gr.alloc w z.cells t;refine pX (look:=st.rt) (es:=[]) hP.wf h (fun _ _ h=>h) qH (fun x hx=>by cases hx) he hd hd9 hgr (g₁:=fg [] d g w (.hd d)) (fun b hb _=>oc hb) (fun b hb=>ri hb)
   (κ:=.mem w.heap.size 0) ?_ (.inr ⟨rfl,rfl,rfl,sQ,by rw[← hsh.1];exact Nat.le_refl _⟩)
  refine (hP.zrep t hz w _ d []).fresh hP.wf h.bnd hgr (fun k _=>?_)
  simp only[aE.add,Nat.zero_add,rd];rw[hgr.cell,← hzc];simp
theorem box_ok (hP:ba P E) (h:Inv E n st a w g hold) (hl : ∀r R,look r=some R→st.rt r=some R) (hd : ∀x,o.dst=some x→x < n) {fi:Fi} {t d:Nat} {x:Operand} {e:Eff}
  (hop:o.op = .box t x) {av:AV} (hv:b=true→aO E w g st.rt hold av (a.eval x)) (hd9:d < 100000) (he:boxE fi E look d t b av=some e):eG P E n st a w g hold o e:=by
 unfold boxE at he;split at he
 rotate_left
 ·cases he
 rename_i c hc
 cases hm:bP c.mv with
 | false=>simp[hm] at he
 | true=>
  simp only[hm,cond_true] at he;refine eG.mk (v:=.pointer (some ⟨w.heap.size,0,none⟩)) (fun hb=>⟨w.alloc (.cells (a.eval x).cells t),?_,?_⟩) (mb he)
  ·simp[execOp,hop,Instr.box,newVar,newRow]
  ·obtain ⟨hsh,hen,hsrc,hrep⟩:=jh hP.wf hl h.rts hc (hv hb);have hgr:=Gr.alloc w (a.eval x).cells t;have hen0:=hen [];have hsrc' : ∀x∈srcs (dk [] av),eH E w g st.rt look hold x:=by rw[hen0];exact hsrc
   have hm':bP (srcs (dk [] av))=true:=by rw[hen0];exact hm
   refine pX (look:=look) (es:=dk [] av) hP.wf h hl hm' hsrc' (by rw[hen0];exact he) hd hd9 hgr (g₁:=fg (dk [] av) d g w (.hd d)) (fun b hb _=>oc hb) (fun b hb=>ri hb)
    (κ:=.mem w.heap.size 0) ?_ (.inr ⟨rfl,rfl,rfl,sQ,by rw[← hsh.1];exact Nat.le_refl _⟩)
   refine (hrep d [] _ (fun b hb=>ez hb) (jT hm')).fresh hP.wf h.bnd hgr (fun k _=>?_)
   simp only[aE.add,Nat.zero_add,rd];rw[hgr.cell];simp
theorem Inv.grow (hE:bl E) (h:Inv E n st a w g hold) {w':World} {c:Array Value} {ce:TypeId} (hgr:Gr w w' c ce) (s:Own) (hs:s = .free∨s = .frz) :
  Stp w g w' (fun b=>if b=w.heap.size then s else g b)∧(∀b,g b = .frz→aP w w' b∧(if b=w.heap.size then s else g b) = .frz)∧
  ∀r,jt w g hold w' (fun b=>if b=w.heap.size then s else g b) hold r:=by
 have old : ∀b,g b≠.free→b < w.heap.size:=h.bnd
 refine ⟨⟨hgr.os,hgr.tape,hgr.output,by rw[hgr.size];omega,fun b hb _=>⟨hgr.old hb,if_neg (by omega)⟩⟩,fun b hb=>?_,fun r=>⟨rfl,fun b hb=>?_⟩⟩
 ·have:=old b (by rw[hb];simp)
  exact ⟨hgr.same this,by rw[if_neg (by omega),hb]⟩
 ·have:=old b (by rcases hb with hb | ⟨q,hb⟩ <;> rw[hb] <;> simp)
  exact ⟨hgr.same this,if_neg (by omega)⟩
theorem pin_ok (hP:ba P E) (h:Inv E n st a w g hold) (hd : ∀x,o.dst=some x→x < n) {t:Nat} {x:Operand} {e:Eff}
  (hop:o.op = .box t x) (hok:bN E t=true) {av:AV} (hv:b=true→aO E w g st.rt hold av (a.eval x)) (he:pinE E t b av=some e):eG P E n st a w g hold o e:=by
 unfold pinE at he;cases hsh:kf E t av with
 | false=>simp[hsh] at he
 | true=>
  simp only[hsh,cond_true,one,Option.some.injEq] at he;subst he;refine eG.mk (pre:=b) (v:=.pointer (some ⟨w.heap.size,0,none⟩)) (fun hb=>⟨w.alloc (.cells (a.eval x).cells t),?_,rfl,rfl,rfl,?_⟩) ⟨rfl,rfl,rfl⟩
  ·simp[execOp,hop,Instr.box,newVar,newRow]
  ·have hgr:=Gr.alloc w (a.eval x).cells t;obtain ⟨k1,k2,k3⟩:=h.grow hP.wf hgr .frz (.inr rfl);refine ⟨_,hold,k1,fun _ _=>rfl,h.apply hP.wf hd k2 (hU.of hP.wf h.rts fun r R hR=>.keep hR (k3 r)) (fun r R hR=>(h.rts r R hR).keep hP.wf (k3 r) k2) (fun b hb=>?_) fun _=>?_⟩
   ·rw[hgr.size];by_cases hbs:b=w.heap.size
    ·omega
    ·rw[if_neg hbs] at hb;have:=h.bnd b hb;omega
   ·have hav:=(hv hb).cut (ks:=[]) hP.wf k2 (hU.of (rt':=st.rt) (ks:=[]) hP.wf h.rts fun r R hR=>.keep hR (k3 r))
    rw[jd] at hav;exact .pv hav (qJ hP hsh (hv hb) hok) (by simp) fun k hk=>by rw[Nat.zero_add];exact hgr.cell k
theorem zt {z:Array Value} {c i k s:Nat} (hs:s=z.size) (hi:i < c) (hk:k < s):(madeCells z (c * s))[i * s+k]?=z[k]?:=by
 have h1:i * s+k < c * s:=by
  have:(i+1) * s≤c * s:=Nat.mul_le_mul_right _ hi
  rw[Nat.add_mul] at this;omega
 have h2:(i * s+k) % z.size=k:=by rw[← hs,Nat.mul_comm,Nat.mul_add_mod,Nat.mod_eq_of_lt hk]
 have h3:k < z.size:=by omega
 unfold madeCells;rw[Array.getElem?_map,Array.getElem?_range,if_pos h1];simp[h2,h3]
theorem zu (hP:ba P E) (h:Inv E n st a w g hold) (hd : ∀x,o.dst=some x→x < n) {fi:Fi} {t d:Nat} {l c:Operand} {e:Eff}
  (hop:o.op = .makeSlice t l c) {al ac:AV} (hl:b=true→aO E w g st.rt hold al (a.eval l)) (hc:b=true→aO E w g st.rt hold ac (a.eval c))
  (hd9:d < 100000) (he:rM fi E d t b al ac=some e):eG P E n st a w g hold o e:=by
 unfold rM at he;split at he
 rotate_left
 ·cases he
 rename_i et b0 l' b1 c' hs0 hbl hbc
 have hs:E.ty t = .sl et:=by unfold isSl at hs0;split at hs0 <;> simp_all
 cases hz:E.zok et with
 | false=>simp[hz] at he
 | true=>
  simp only[hz,Bool.not_true,cond_false] at he;obtain ⟨hok,i,z,hi,hiz,hsh,hzc⟩:=hP.zero et hz;obtain ⟨hu,_⟩:=hP.sl t et hs;obtain ⟨i',hi',hsz,hby⟩:=hP.info et hok;rw[hi] at hi';cases hi';refine eG.mk (v:=.slice (some ⟨w.heap.size,0,none⟩) l'.toNat c'.toNat) (fun hb=>?_) (mb he)
  simp only[Bool.and_eq_true,decide_eq_true_eq] at hb;obtain ⟨p1,p2,p3,p4,p5,p6⟩:=hb;obtain ⟨kl,hkl⟩:=sI hP.wf hbl p2 (hl p1);obtain ⟨kc,hkc⟩:=sI hP.wf hbc p3 (hc p1);have hlim:c'.toNat≤4294967296:=p6
  have hbb:(i.bytes:Int) * c'≤281474976710656:=by
   have h1:i.bytes * c'.toNat≤4096 * 4294967296:=Nat.mul_le_mul hby hlim
   have h2:((i.bytes * c'.toNat:Nat):Int)≤281474976710656:=by omega
   rw[Int.natCast_mul] at h2;rwa [Int.toNat_of_nonneg (by omega)] at h2
  have hrun:=run_make (P:=P) w t et i z hu hi hiz kl kc l' c' p4 p5 hbb (by omega)
  refine ⟨_,by simp only[execOp,hop,hkl,hkc];exact rY _ _ hrun,?_⟩
  have hgr:=Gr.alloc w (madeCells z.cells (c'.toNat * i.size)) et;refine pX (look:=st.rt) (es:=[]) hP.wf h (fun _ _ h=>h) qH (fun x hx=>by cases hx) he hd hd9 hgr (g₁:=fg [] d g w (.at d [])) (fun b hb _=>oc hb) (fun b hb=>ri hb)
   (κ:=.reg [.slice (some ⟨w.heap.size,0,none⟩) l'.toNat c'.toNat] 0) ?_ (.inl ⟨rfl,rfl,_,_,_,et,rfl,hs⟩)
  have hcs:i.size=z.cells.size:=by rw[hsz,hsh.1]
  refine .own (a:=⟨w.heap.size,0,none⟩) (cap:=c'.toNat) hs rfl (by simp[rd]) rfl (by simp only[List.length_replicate];omega) sQ ?_ fun j x hj=>?_
  ·exact hgr.blk (by simp[size_madeCells,hsz])
  ·simp only[List.getElem?_replicate] at hj;split at hj
   ·rename_i hjl
    cases hj;refine (hP.zrep et hz w _ d ([] ++ [.idx j])).fresh hP.wf h.bnd hgr (fun k hk=>?_)
    simp only[aE.add,Nat.zero_add,rd];rw[hgr.cell,← hzc,hcs,← hsz,hcs,zt rfl (by omega) (by rw[← hcs,hsz];exact hk)];simp
   ·cases hj
end
end Go.Proofs.YtdcnobhlknjnoaaGreatDoor.Ra
