/- A verified evaluator for the program, part Pl1 of this claim. -/
import Derived.Test.YtdcnobhlknjnoaaGreatDoorXRa3
import Derived.Test.YtdcnobhlknjnoaaGreatDoorXEq
import Derived.Laws.Strings
set_option linter.unusedSimpArgs false
set_option linter.unusedVariables false
namespace Go.Proofs.YtdcnobhlknjnoaaGreatDoor.Ra
open Go
theorem jZ:maxLen=9223372036854775807:=by decide
theorem vQ {es:List T} {i:Nat} (h:i < es.length):(T.sl es).nth (T.int (i:Int)).i.toNat=es[i]:=by
 show (T.sl es).nth ((i:Int).toNat)=es[i]
 rw[Int.toNat_natCast,bh h]
theorem F2 {es:List T} {i:Nat} (h:i < es.length):decide ((T.int (i:Int)).i < ((T.sl es).es.length:Int))=true:=by
 apply decide_eq_true;show (i:Int) < (es.length:Int);omega
theorem FH {es:List T} {i:Nat} (h : ¬i < es.length):decide ((T.int (i:Int)).i < ((T.sl es).es.length:Int))=false:=by
 apply decide_eq_false;show ¬(i:Int) < (es.length:Int);omega
theorem pw {es:List T} {i:Nat} (h:i < es.length):(decide (0≤(T.int (i:Int)).i)&&decide ((T.int (i:Int)).i.toNat < (T.sl es).es.length))=true:=by
 rw[Bool.and_eq_true];refine ⟨decide_eq_true ?_,decide_eq_true ?_⟩
 ·show (0:Int)≤i;omega
 ·show (i:Int).toNat < es.length;omega
theorem AM {n i:Nat} (h:i < n) (hn:n≤maxLen):T.int (IntKind.wrap .i64 ((T.int (i:Int)).i+(1:Int)))=T.int ((i+1:Nat):Int):=by
 rw[jZ] at hn;show T.int (IntKind.wrap .i64 ((i:Int)+1))=_
 rw[bf (by omega) (by omega)]
 rfl
section
variable {E:Env}
end
inductive EB (b:Nat):T→Prop
 | mk {s:ByteArray} {n:Int} {ps is:List T} : s.size≤maxLen→-9223372036854775808≤n→n≤9223372036854775807→ps.length≤b→is.length≤b→(∀x∈is,∃m:Int,x = .int m)→(∀x∈ps,EB b x)→
   EB b (.st [.str s,.int n,.sl ps,.sl is])
def tv (t:T):Prop:=∃s:ByteArray,t = .str s∧s.size≤maxLen
def DG (b:Nat) (t:T):Prop:=∃(a:Int) (fs:List T),t = .st [.int a,.sl fs]∧-9223372036854775808≤a∧a≤9223372036854775807∧fs.length≤b∧∀x∈fs,tv x
def yD (b:Nat) (t:T):Prop:=∃rs:List T,t = .sl rs∧rs.length≤b∧∀x∈rs,DG b x
def Eo (b:Nat) (t:T):Prop:=∃(o:Int) (v:T),t = .st [.int o,v]∧-9223372036854775808≤o∧o≤9223372036854775807∧EB b v
def BB:Nat:=1048576
theorem room {n:Nat} (h:n≤BB):(decide (0≤(n:Int))&&(decide ((n:Int)≤(n:Int))&&decide (n≤LIM)))=true:=by
 unfold BB at h;rw[Bool.and_eq_true,Bool.and_eq_true,decide_eq_true_eq,decide_eq_true_eq,decide_eq_true_eq];exact ⟨by omega,by omega,by unfold LIM;omega⟩
theorem DU {n:Nat} (h:n≤BB):n≤maxLen:=by rw[jZ];unfold BB at h;omega
def bU (s:ByteArray) (i:Nat):Nat:=(s.data.getD i 0).toNat
def O6 (s:ByteArray):Option (Nat × Nat):=
 if s.size=3∧bU s 0=83∧48≤bU s 1∧bU s 1≤57∧48≤bU s 2∧bU s 2≤57 then some (bU s 1 - 48,bU s 2 - 48) else none
def KJ:Option (Nat × Nat)→List T
 | none=>[.int 0,.int 0,.bool false]
 | some (i,j)=>[.int (i:Int),.int (j:Int),.bool true]
theorem wrap8 {n:Int} (h0:0≤n) (h1:n≤255):IntKind.wrap .u8 n=n:=by
 simp only[IntKind.wrap,IntKind.bits,IntKind.signed];have:n % 256=n:=by omega
 simpa using this
theorem digit {n:Nat} (h:48≤n) (h2:n≤57):IntKind.wrap .i64 (IntKind.wrap .u8 ((n:Int) - (48:Int)))=((n - 48:Nat):Int):=by
 rw[wrap8 (by omega) (by omega),bf (by omega) (by omega)];omega
theorem C3 (s:ByteArray):Yields (fun k=>oK (hl env k ii) (cl env k) (.str s)) (KJ (O6 s)):=by
 have no : ∀{x:Nat→R},¬(s.size=3∧bU s 0=83∧48≤bU s 1∧bU s 1≤57∧48≤bU s 2∧bU s 2≤57)→x=(fun _=>some [(T.int (0:Int)),(T.int (0:Int)),(T.bool false)])→Yields x (KJ (O6 s)):=by
  intro x h hx;subst hx;unfold O6;rw[if_neg h];exact Yields.some _
 by_cases hs:s.size=3
 ·have g : ∀i:Nat,i < 3→(decide (0≤(i:Int))&&decide (i < (T.str s).s.size))=true:=fun i hi=>by
   rw[Bool.and_eq_true];exact ⟨decide_eq_true (by omega),decide_eq_true (by show i < s.size;omega)⟩
  refine Yields.ff (by show (((s.size:Nat):Int) != 3)=false;rw[hs];rfl) (Yields.tt (g 0 (by omega)) (Yields.ite (fun h2=>no ?_ rfl) (fun h2=>Yields.tt (g 1 (by omega)) (Yields.ite (fun h3=>no ?_ rfl) (fun h3=>Yields.tt (g 1 (by omega)) (Yields.ite (fun h4=>no ?_ rfl) (fun h4=>Yields.tt (g 2 (by omega)) (Yields.ite (fun h5=>no ?_ rfl) (fun h5=>Yields.tt (g 2 (by omega)) (Yields.ite (fun h6=>no ?_ rfl) (fun h6=>Yields.tt (g 1 (by omega)) (Yields.tt (g 2 (by omega)) ?_))))))))))))
  all_goals simp only[bne_iff_ne,ne_eq,bne_eq_false_iff_eq,decide_eq_true_eq,decide_eq_false_iff_not] at *
  ·intro ⟨_,c,_⟩;unfold bU at c;exact h2 (by exact_mod_cast c)
  ·intro ⟨_,_,c,_⟩;unfold bU at c;have:((s.data.getD 1 0).toNat:Int) < 48:=h3;omega
  ·intro ⟨_,_,_,c,_⟩;unfold bU at c;have:((s.data.getD 1 0).toNat:Int) > 57:=h4;omega
  ·intro ⟨_,_,_,_,c,_⟩;unfold bU at c;have:((s.data.getD 2 0).toNat:Int) < 48:=h5;omega
  ·intro ⟨_,_,_,_,_,c⟩;unfold bU at c;have:((s.data.getD 2 0).toNat:Int) > 57:=h6;omega
  ·have e2:((s.data.getD 0 0).toNat:Int)=83:=h2
   have e3 : ¬((s.data.getD 1 0).toNat:Int) < 48:=h3
   have e4 : ¬((s.data.getD 1 0).toNat:Int) > 57:=h4
   have e5 : ¬((s.data.getD 2 0).toNat:Int) < 48:=h5
   have e6 : ¬((s.data.getD 2 0).toNat:Int) > 57:=h6
   have hk:O6 s=some (bU s 1 - 48,bU s 2 - 48):=by
    unfold O6;rw[if_pos ⟨hs,by unfold bU;omega,by unfold bU;omega,by unfold bU;omega,by unfold bU;omega,by unfold bU;omega⟩]
   rw[hk];have d1:IntKind.wrap .i64 (IntKind.wrap .u8 (((T.str s).s.data.getD 1 0).toNat - (48:Int)))=((bU s 1 - 48:Nat):Int):=digit (by omega) (by omega)
   have d2:IntKind.wrap .i64 (IntKind.wrap .u8 (((T.str s).s.data.getD 2 0).toNat - (48:Int)))=((bU s 2 - 48:Nat):Int):=digit (by omega) (by omega)
   rw[d1,d2];exact Yields.some _
 ·refine Yields.tt (bne_iff_ne.2 ?_) (no (fun h=>hs h.1) rfl)
  show ¬((s.size:Nat):Int)=3
  omega
theorem zl (s:ByteArray):Yields (fun k=>cl env k cU [.str s]) (KJ (O6 s)):=yp _ (C3 s)
theorem ma {s:ByteArray} {i j:Nat} (h:O6 s=some (i,j)):s.size=3∧bU s 0=83∧i≤9∧j≤9:=by
 unfold O6 at h;split at h
 ·rename_i hc
  simp only[Option.some.injEq,Prod.mk.injEq] at h;obtain ⟨rfl,rfl⟩:=h;exact ⟨hc.1,hc.2.1,by omega,by omega⟩
 ·cases h
def dw (s:ByteArray):Bool:=s.toList==(⟨#[110]⟩:ByteArray).toList||(s.toList==(⟨#[98]⟩:ByteArray).toList||s.toList==(⟨#[111]⟩:ByteArray).toList)
theorem base_s (s:ByteArray):Yields (fun k=>cl env k kU [.str s]) [.bool (dw s)]:=by
 refine yo _ (Yields.ite (fun h=>?_) (fun h=>Yields.ite (fun h2=>?_) (fun h2=>?_)))
 ·have:dw s=true:=by unfold dw;rw[show (s.toList==(⟨#[110]⟩:ByteArray).toList)=true from h];rfl
  rw[this];exact Yields.some _
 ·have:dw s=true:=by unfold dw;rw[show (s.toList==(⟨#[98]⟩:ByteArray).toList)=true from h2];simp
  rw[this];exact Yields.some _
 ·have:dw s=(s.toList==(⟨#[111]⟩:ByteArray).toList):=by
   unfold dw;rw[show (s.toList==(⟨#[110]⟩:ByteArray).toList)=false from h,show (s.toList==(⟨#[98]⟩:ByteArray).toList)=false from h2];simp
  rw[this];exact Yields.some _
theorem byte1 {s:ByteArray} {c:UInt8} (h:(s.toList==(⟨#[c]⟩:ByteArray).toList)=true):s.size=1∧bU s 0=c.toNat:=by
 rw[beq_iff_eq,ByteArray.toList_eq,ByteArray.toList_eq] at h;have hs:s=⟨#[c]⟩:=WideShapes.bytes_inj h
 subst hs;exact ⟨rfl,rfl⟩
theorem sG {s:ByteArray} (h:dw s=true):s.size=1∧(bU s 0=110∨bU s 0=98∨bU s 0=111):=by
 unfold dw at h;rw[Bool.or_eq_true,Bool.or_eq_true] at h;rcases h with h | h | h
 ·obtain ⟨a,b⟩:=byte1 h;exact ⟨a,.inl b⟩
 ·obtain ⟨a,b⟩:=byte1 h;exact ⟨a,.inr (.inl b)⟩
 ·obtain ⟨a,b⟩:=byte1 h;exact ⟨a,.inr (.inr b)⟩
theorem sF {s:ByteArray} (h:dw s=true):O6 s=none:=by
 cases hk:O6 s with
 | none=>rfl
 | some x=>
  obtain ⟨i,j⟩:=x;have:=(ma hk).1
  have:=(sG h).1
  omega
def lS (ks:List T) (i j:Nat):Bool:=decide (i < ks.length)&&decide (j < ((T.sl ks).nth i).es.length)
theorem KH (ks:List T) (i j:Nat):Yields (fun k=>cl env k mg [.sl ks,.int (i:Int),.int (j:Int)]) [.bool (lS ks i j)]:=by
 refine A0 _ _ _ ?_;by_cases h:i < ks.length
 ·refine Yields.tt (F2 h) (Yields.tt (pw h) ?_);have:lS ks i j=decide ((T.int (j:Int)).i < ((((T.sl ks).nth (T.int (i:Int)).i.toNat).es).length:Int)):=by
   unfold lS;rw[decide_eq_true h,Bool.true_and];show _=decide ((j:Int) < (((T.sl ks).nth ((i:Int).toNat)).es.length:Int))
   rw[Int.toNat_natCast];by_cases hj:j < ((T.sl ks).nth i).es.length
   ·rw[decide_eq_true hj,decide_eq_true (by omega)]
   ·rw[decide_eq_false hj,decide_eq_false (by omega)]
  rw[this];exact Yields.some _
 ·have:lS ks i j=false:=by unfold lS;rw[decide_eq_false h];rfl
  rw[this];exact Yields.ff (FH h) (Yields.some _)
def nQ (ks:List T) (s:ByteArray):Bool:=match O6 s with
 | some (i,j)=>lS ks i j
 | none=>false
theorem wb {ks:List T} {s:ByteArray} (h:(dw s||nQ ks s)=true):0 < s.size∧bU s 0≠38∧bU s 0≠33:=by
 rw[Bool.or_eq_true] at h;rcases h with h | h
 ·obtain ⟨h1,h2⟩:=sG h;exact ⟨by omega,by omega,by omega⟩
 ·unfold nQ at h;split at h
  ·rename_i i j hk
   obtain ⟨h1,h2,_⟩:=ma hk;exact ⟨by omega,by omega,by omega⟩
  ·cases h
def tA (ks:List T) (s:ByteArray):T:=match O6 s with
 | some (i,j)=>(((T.sl ks).nth i).nth j).fld 0
 | none=>.int 7
theorem LH {s:ByteArray} : ((s.data.getD 0 0).toNat:Int)=(bU s 0:Int):=rfl
theorem ref_s {s:ByteArray} (h0:0 < s.size) (h1:bU s 0≠38) (h2:bU s 0≠33):Yields (fun k=>cl env k bO [.str s]) [.bool false]:=by
 refine tp _ (Yields.tt ?_ (Yields.tt ?_ (Yields.ff ?_ (Yields.tt ?_ ?_))))
 ·apply decide_eq_true;show (s.size:Int) > 0;omega
 ·rw[Bool.and_eq_true];exact ⟨rfl,decide_eq_true h0⟩
 ·show (((s.data.getD 0 0).toNat:Int)==38)=false
  rw[beq_eq_false_iff_ne,LH];omega
 ·rw[Bool.and_eq_true];exact ⟨rfl,decide_eq_true h0⟩
 ·have:((((T.str s).s.data.getD 0 0).toNat:Int)==33)=false:=by
   show (((s.data.getD 0 0).toNat:Int)==33)=false
   rw[beq_eq_false_iff_ne,LH];omega
  rw[this];exact Yields.some _
theorem rk {ks:List T} {i j:Nat} (h:lS ks i j=true):i < ks.length∧j < ((T.sl ks).nth i).es.length:=by
 unfold lS at h;rw[Bool.and_eq_true,decide_eq_true_eq,decide_eq_true_eq] at h;exact h
theorem JP {ks:List T} {i j:Nat} (h:j < ((T.sl ks).nth i).es.length):(decide (0≤(T.int (j:Int)).i)&&decide (((T.int (j:Int)).i).toNat < (((T.sl ks).nth ((T.int (i:Int)).i.toNat)).es).length))=true:=by
 rw[Bool.and_eq_true];refine ⟨decide_eq_true ?_,decide_eq_true ?_⟩
 ·show (0:Int)≤j;omega
 ·show (j:Int).toNat < (((T.sl ks).nth ((i:Int).toNat)).es).length
  rw[Int.toNat_natCast,Int.toNat_natCast];exact h
theorem Lw (ks:List T) (s:ByteArray) (h:(dw s||nQ ks s)=true):Yields (fun k=>cl env k eD [.sl ks,.str s]) [tA ks s]:=by
 obtain ⟨h0,h1,h2⟩:=wb h;refine se _ _ (Yields.obind (ref_s h0 h1 h2) (Yields.ff rfl (Yields.obind (ref_s h0 h1 h2) (Yields.ff rfl (Yields.obind (zl s) ?_)))));unfold tA;cases hk:O6 s with
 | none=>exact Yields.ff rfl (Yields.some _)
 | some x=>
  obtain ⟨i,j⟩:=x;have hh:lS ks i j=true:=by
   rw[Bool.or_eq_true] at h;rcases h with h | h
   ·rw[sF h] at hk;cases hk
   ·unfold nQ at h;rw[hk] at h;exact h
  obtain ⟨g1,g2⟩:=rk hh;refine Yields.tt rfl (Yields.tt (pw g1) (Yields.tt (JP g2) ?_));exact Yields.some _
def eV (ks:List T) (m k:Nat) (s:ByteArray):Bool:=match O6 s with
 | none=>dw s
 | some (i,j)=>lS ks i j&&(decide (i < m)||(decide (i=m)&&decide (j < k)))
theorem vZ (a b:Nat):decide ((T.int (a:Int)).i < (T.int (b:Int)).i)=decide (a < b):=by
 show decide ((a:Int) < (b:Int))=decide (a < b)
 by_cases h:a < b
 ·rw[decide_eq_true h,decide_eq_true (by omega)]
 ·rw[decide_eq_false h,decide_eq_false (by omega)]
theorem Km (a b:Nat):((T.int (a:Int)).i==(T.int (b:Int)).i)=decide (a=b):=by
 show ((a:Int)==(b:Int))=decide (a=b)
 by_cases h:a=b
 ·subst h;simp
 ·rw[decide_eq_false h,beq_eq_false_iff_ne];omega
theorem Nq (ks:List T) (m k:Nat) (s:ByteArray):Yields (fun r=>cl env r kh [.sl ks,.int (m:Int),.int (k:Int),.str s]) [.bool (eV ks m k s)]:=by
 refine xl _ _ _ _ (Yields.obind (zl s) ?_);unfold eV;cases hk:O6 s with
 | none=>exact Yields.tt rfl (Yields.obind (base_s s) (Yields.some _))
 | some x=>
  obtain ⟨i,j⟩:=x;refine Yields.ff rfl (Yields.obind (KH ks i j) ?_);simp only
  cases hh:lS ks i j with
  | false=>exact Yields.ff rfl (Yields.some _)
  | true=>
   refine Yields.tt rfl ?_;refine Yields.ite (fun h=>?_) (fun h=>Yields.ite (fun h2=>?_) (fun h2=>?_))
   ·have h':decide (i < m)=true:=by rw[← vZ];exact h
    rw[h'];exact Yields.some _
   ·have h':decide (i < m)=false:=by rw[← vZ];exact h
    have h2':decide (i=m)=true:=by rw[← Km];exact h2
    rw[h',h2',Bool.true_and,Bool.false_or,Bool.true_and,← vZ];exact Yields.some _
   ·have h':decide (i < m)=false:=by rw[← vZ];exact h
    have h2':decide (i=m)=false:=by rw[← Km];exact h2
    rw[h',h2'];exact Yields.some _
theorem o7 {ks:List T} {m k:Nat} {s:ByteArray} (h:eV ks m k s=true):(dw s||nQ ks s)=true:=by
 unfold eV at h;unfold nQ;cases hk:O6 s with
 | none=>rw[hk] at h;simp only at h;rw[h];rfl
 | some x=>
  obtain ⟨i,j⟩:=x;rw[hk] at h;simp only[Bool.and_eq_true] at h;simp only[h.1,Bool.or_true]
theorem JV (a:Int) (p:Int) (ha:0≤a∧a≤15) (hp:p=1∨p=2∨p=4∨p=8):Yields (fun k=>cl env k bH [.int a,.int p]) [.bool ((a.tdiv p).tmod 2==1)]:=by
 have hw:IntKind.wrap .i64 (a.tdiv p)=a.tdiv p:=by
  have h1:0≤a.tdiv p:=Int.tdiv_nonneg ha.1 (by omega)
  have h2:a.tdiv p≤a:=by rw[Int.tdiv_eq_ediv_of_nonneg ha.1];exact Int.ediv_le_self _ ha.1
  exact bf (by omega) (by omega)
 refine zZ _ _ (Yields.tt ?_ (Yields.tt rfl ?_))
 ·rcases hp with rfl | rfl | rfl | rfl <;> rfl
 ·show Yields (fun _=>some [T.bool (((IntKind.wrap .i64 (a.tdiv p)).tmod 2)==1)]) _
  rw[hw];exact Yields.some _
def v8 (ks:List T) (m k:Nat):Prop:=∀i j,(i < m∨(i=m∧j < k))→i < ks.length→j < ((T.sl ks).nth i).es.length→∃a:Int,(((T.sl ks).nth i).nth j).fld 0 = .int a∧0≤a∧a≤15
theorem Be {ks:List T} {m k:Nat} {s:ByteArray} (he:v8 ks m k) (h:eV ks m k s=true) : ∃f:Int,tA ks s = .int f∧0≤f∧f≤15:=by
 unfold eV at h;unfold tA;cases hk:O6 s with
 | none=>exact ⟨7,rfl,by omega,by omega⟩
 | some x=>
  obtain ⟨i,j⟩:=x;rw[hk] at h;simp only[Bool.and_eq_true,Bool.or_eq_true,decide_eq_true_eq] at h;obtain ⟨g1,g2⟩:=rk h.1;exact he i j h.2 g1 g2
theorem in_s (x lo hi:Int):Yields (fun k=>cl env k dZ [.int x,.int lo,.int hi]) [.bool (decide (x≥lo)&&decide (x≤hi))]:=by
 refine Ak _ _ _ (Yields.ite (fun h=>?_) (fun h=>?_))
 ·rw[show decide (x≥lo)=true from h,Bool.true_and];exact Yields.some _
 ·rw[show decide (x≥lo)=false from h,Bool.false_and];exact Yields.some _
section
variable {ks:List T} {b:Nat}
end
inductive J1:T→Prop
 | num {s:ByteArray} {n:Int} : (s.toList==(⟨#[110]⟩:ByteArray).toList)=true→0≤n→n≤1000000→J1 (.st [.str s,.int n,.sl [],.sl []])
 | bit {s:ByteArray} {n:Int} : (s.toList==(⟨#[110]⟩:ByteArray).toList)=false→(s.toList==(⟨#[98]⟩:ByteArray).toList)=true→0≤n→n≤1→J1 (.st [.str s,.int n,.sl [],.sl []])
 | own {s:ByteArray} {n:Int} : (s.toList==(⟨#[110]⟩:ByteArray).toList)=false→(s.toList==(⟨#[98]⟩:ByteArray).toList)=false→(s.toList==(⟨#[111]⟩:ByteArray).toList)=true→0≤n→n≤3→J1 (.st [.str s,.int n,.sl [],.sl []])
 | made {s:ByteArray} {n:Int} {ps:List T} : (s.toList==(⟨#[110]⟩:ByteArray).toList)=false→(s.toList==(⟨#[98]⟩:ByteArray).toList)=false→(s.toList==(⟨#[111]⟩:ByteArray).toList)=false→s.size=3→(∀x∈ps,J1 x)→
   J1 (.st [.str s,.int n,.sl ps,.sl []])
section
variable {ks:List T} {b:Nat}
end
section
variable {ks:List T} {b:Nat}
theorem pred_ok {i:Nat} (h:0 < i) (hi:i≤maxLen):IntKind.wrap .i64 ((T.int (i:Int)).i - (1:Int))=((i - 1:Nat):Int):=by
 rw[jZ] at hi;show IntKind.wrap .i64 ((i:Int) - 1)=_
 rw[bf (by omega) (by omega)];omega
end
inductive Run (g:T→Int→Int→Prop):Int→List T→Int→Prop
 | nil {k} : Run g k [] k
 | cons {k n m t l} : g t k n→Run g n l m→Run g k (t :: l) m
theorem st2 {b:Nat} {x:T} (h:Eo b x):T.st [x.fld 0,x.fld 1]=x:=by obtain ⟨o,v,rfl,_⟩:=h;rfl
def IsIns (t:T):Prop:=∃(s:ByteArray) (a b:Int),t = .st [.str s,.int a,.int b]∧s.size≤maxLen
def cz (is:List T):Prop:=∀x∈is,∃m:Int,x = .int m
inductive j5 (b:Nat):T→Prop
 | mk {n:Int} {ags rs ls tk cd:List T} : ags.length≤b→rs.length≤b→ls.length≤b→tk.length≤b→cd.length≤b→(∀x∈ags,tv x)→(∀x∈rs,tv x)→(∀x∈ls,tv x)→cz tk→
   (∀x∈cd,IsIns x)→j5 b (.st [.int n,.sl ags,.sl rs,.sl ls,.sl tk,.sl cd])
inductive kW (b:Nat):T→Prop
 | mk {rs fs fr:List T} : yD b (.sl rs)→fs.length≤b→(∀x∈fs,j5 b x)→fr.length≤b→cz fr→kW b (.st [.sl rs,.sl fs,.sl fr])
def Po (t:Nat→Bool):Nat→Nat→Bool
 | _,0=>true
 | i,m+1=>t i&&Po t (i+1) m
theorem Qz {t:Nat→Bool} : ∀{m i:Nat},Po t i m=true→∀j,i≤j→j < i+m→t j=true
 | 0,i,_,j,h1,h2=>by omega
 | m+1,i,h,j,h1,h2=>by
  simp only[Po,Bool.and_eq_true] at h;by_cases hj:j=i
  ·subst hj;exact h.1
  ·exact Qz h.2 j (by omega) (by omega)
theorem ask_each {A:Nat→Nat→R} {n:Nat} {t:Nat→Bool} {r:List T} (step : ∀i,i < n→(t i=false→r = [T.bool false])→(t i=true→Yields (A (i+1)) r)→Yields (A i) r)
  (yes:Po t 0 n=true→Yields (A n) r) (no:Po t 0 n=false→r = [T.bool false]):Yields (A 0) r:=by
 have key : ∀m i,i+m=n→(Po t i m=true→Yields (A n) r)→(Po t i m=false→r = [T.bool false])→Yields (A i) r:=by
  intro m;induction m with
  | zero=>
   intro i hi hy _;have:i=n:=by omega
   subst this;exact hy rfl
  | succ m ih=>
   intro i hi hy hn;refine step i (by omega) (fun h=>hn (by simp only[Po,h,Bool.false_and])) fun h=>ih (i+1) (by omega) (fun h2=>hy (by simp only[Po,h,h2,Bool.and_self])) fun h2=>hn (by simp only[Po,h,h2,Bool.and_false])
 exact key n 0 (by omega) yes no
theorem QS {A:Nat→Nat→R} {n:Nat} {t:Nat→Bool} {e:Bool} (step : ∀i,i < n→∀r,(t i=false→r = [T.bool false])→(t i=true→Yields (A (i+1)) r)→Yields (A i) r)
  (stop:Yields (A n) [.bool e]):Yields (A 0) [.bool (Po t 0 n&&e)]:=by
 refine ask_each (t:=t) (fun i hi h1 h2=>step i hi _ h1 h2) (fun h=>?_) fun h=>?_
 ·rw[h,Bool.true_and];exact stop
 ·rw[h,Bool.false_and]
noncomputable def pY:T:=((nk (fun _ _=>none) (fun _ _=>none)).getD []).headD (.int 0)
theorem QT:Yields (fun k=>cl env k nb []) [pY]:=xm (Yields.some _)
theorem tab_sl:pY = .sl pY.es:=by kernel_rfl
def O8 (s:ByteArray):Bool:=decide (s.size > 0)&&(bU s 0==38||bU s 0==33)
def ofB (s:ByteArray):ByteArray:=bif O8 s then s.extract 1 s.size else s
theorem nB (s:ByteArray):(s.toList==(⟨#[]⟩:ByteArray).toList) = !decide (s.size > 0):=by
 by_cases h:s.size > 0
 ·rw[decide_eq_true h];rw[beq_eq_false_iff_ne.2];· rfl
  rw[ne_eq,ByteArray.toList_eq,ByteArray.toList_eq];intro he;have:s=⟨#[]⟩:=WideShapes.bytes_inj he
  subst this;exact absurd h (by decide)
 ·have:s=⟨#[]⟩:=by
   obtain ⟨⟨l⟩⟩:=s;cases l with
   | nil=>rfl
   | cons a l=>exact absurd (by show 0 < (a :: l).length;simp) h
  subst this;simp[ByteArray.size]
theorem wI (s:ByteArray) (c:Nat):(((s.data.getD 0 0).toNat:Int)==(c:Int))=(bU s 0==c):=by
 rw[LH];by_cases h:bU s 0=c
 ·rw[h];simp
 ·rw[beq_eq_false_iff_ne.2 h,beq_eq_false_iff_ne];omega
theorem lk (s:ByteArray):Yields (fun k=>cl env k bO [.str s]) [.bool (O8 s)]:=by
 refine tp _ ?_;unfold O8;by_cases h:s.size > 0
 ·refine Yields.tt (decide_eq_true (by show (s.size:Int) > 0;omega)) (Yields.tt (by rw[Bool.and_eq_true];exact ⟨rfl,decide_eq_true h⟩) ?_)
  rw[decide_eq_true h,Bool.true_and];refine Yields.ite (fun e=>?_) (fun e=>?_)
  ·have:(bU s 0==38)=true:=by rw[← wI];exact e
   rw[this,Bool.true_or];exact Yields.some _
  ·have:(bU s 0==38)=false:=by rw[← wI];exact e
   rw[this,Bool.false_or,← wI];exact Yields.tt (by rw[Bool.and_eq_true];exact ⟨rfl,decide_eq_true h⟩) (Yields.some _)
 ·rw[decide_eq_false h,Bool.false_and];exact Yields.ff (decide_eq_false (by show ¬(s.size:Int) > 0;omega)) (Yields.some _)
theorem Q5 {n:Nat} (h:n > 0):(decide (0≤(1:Int))&&(decide ((1:Int)≤(n:Int))&&(decide ((n:Int)≤(n:Int))&&decide ((n:Int)≤(n:Int)))))=true:=by
 simp only[Bool.and_eq_true,decide_eq_true_eq];exact ⟨by omega,by omega,by omega,by omega⟩
theorem rW {s:ByteArray} (h:O8 s=true):s.size > 0:=by unfold O8 at h;rw[Bool.and_eq_true,decide_eq_true_eq] at h;exact h.1
theorem of_s (s:ByteArray):Yields (fun k=>cl env k cx [.str s]) [.str (ofB s)]:=by
 refine Ai _ (Yields.obind (lk s) ?_);unfold ofB;cases h:O8 s with
 | true=>exact Yields.tt rfl (Yields.tt (Q5 (rW h)) (Yields.some _))
 | false=>exact Yields.ff rfl (Yields.some _)
theorem plain_s (ks:List T) (s:ByteArray):Yields (fun k=>cl env k H7 [.sl ks,.str s]) [.bool (dw s||nQ ks s)]:=by
 refine Mq _ _ (Yields.obind (zl s) (Yields.obind (base_s s) ?_));cases hb:dw s with
 | true=>exact Yields.tt rfl (Yields.some _)
 | false=>
  refine Yields.ff rfl ?_;rw[Bool.false_or];unfold nQ;cases hk:O6 s with
  | none=>exact Yields.ff rfl (Yields.some _)
  | some x=>obtain ⟨i,j⟩:=x;exact Yields.tt rfl (Yields.obind (KH ks i j) (Yields.some _))
def typeB (ks:List T) (x:T):Bool:=dw (ofB x.s)||nQ ks (ofB x.s)
theorem types_s (ks xs:List T) (hx : ∀x∈xs,tv x) (hl:xs.length≤maxLen):Yields (fun k=>cl env k O9 [.sl ks,.sl xs]) [.bool (Po (fun i=>typeB ks ((T.sl xs).nth i)) 0 xs.length&&true)]:=by
 refine Qy _ _ (QS (A:=fun i k=>OL (Ra.hl env k Oh) (.sl ks) (.sl xs) (.int (i:Int))) (fun i hi r h1 h2=>?_) (PQ _ _ _ (Yields.ff (FH (by omega)) (Yields.some _))))
 obtain ⟨s,hs,_⟩:=hx _ (List.getElem_mem hi);have hn:((T.sl xs).nth (T.int (i:Int)).i.toNat) = .str s:=by rw[vQ hi,hs]
 have hn':((T.sl xs).nth i) = .str s:=by rw[bh hi,hs]
 rw[hn'] at h1 h2;refine PQ _ _ _ (Yields.tt (F2 hi) (Yields.tt (pw hi) ?_));rw[hn];refine Yields.obind (of_s s) (Yields.obind (plain_s ks (ofB s)) ?_);cases hc:(dw (ofB s)||nQ ks (ofB s)) with
 | true=>
  refine Yields.ff rfl ?_;rw[AM hi hl];exact h2 hc
 | false=>
  refine Yields.tt rfl ?_;rw[h1 hc];exact Yields.some _
def riseB (xs:List T) (lo hi:Int) (i:Nat):Bool:=(decide (((T.sl xs).nth i).i≥lo)&&decide (((T.sl xs).nth i).i≤hi))&&(decide (i=0)||decide (((T.sl xs).nth (i - 1)).i < ((T.sl xs).nth i).i))
theorem QU (xs:List T) (hx:cz xs) (hl:xs.length≤maxLen) (lo hi:Int):Yields (fun k=>cl env k OD [.sl xs,.int lo,.int hi]) [.bool (Po (riseB xs lo hi) 0 xs.length&&true)]:=by
 refine Qx _ _ _ (QS (A:=fun i k=>Og (Ra.hl env k NZ) (.sl xs) (.int lo) (.int hi) (.int (i:Int))) (fun i hi' r h1 h2=>?_) (PP _ _ _ _ (Yields.ff (FH (by omega)) (Yields.some _))))
 obtain ⟨n,hn0⟩:=hx _ (List.getElem_mem hi');have hn:((T.sl xs).nth (T.int (i:Int)).i.toNat) = .int n:=by rw[vQ hi',hn0]
 have hn':((T.sl xs).nth i) = .int n:=by rw[bh hi',hn0]
 unfold riseB at h1 h2;rw[hn'] at h1 h2;have h1:((decide (n≥lo)&&decide (n≤hi))&&(decide (i=0)||decide (((T.sl xs).nth (i - 1)).i < n)))=false→r = [T.bool false]:=h1
 have h2:((decide (n≥lo)&&decide (n≤hi))&&(decide (i=0)||decide (((T.sl xs).nth (i - 1)).i < n)))=true→_:=h2
 refine PP _ _ _ _ (Yields.tt (F2 hi') (Yields.tt (pw hi') ?_));rw[hn];refine Yields.obind (in_s n lo hi) ?_;cases hc:(decide (n≥lo)&&decide (n≤hi)) with
 | false=>
  rw[hc] at h1;refine Yields.tt rfl ?_;rw[h1 rfl];exact Yields.some _
 | true=>
  rw[hc,Bool.true_and] at h1 h2;refine Yields.ff rfl (Yields.ite (fun e=>?_) (fun e=>?_))
  ·have h0:0 < i:=by
    have:(i:Int) > 0:=of_decide_eq_true e
    omega
   rw[pred_ok h0 (by omega),AM hi' hl]
   rw[decide_eq_false (by omega : ¬i=0),Bool.false_or] at h1 h2
   refine Yields.tt ?_ (Yields.ite (fun e=>?_) (fun e=>?_))
   ·rw[Bool.and_eq_true];refine ⟨decide_eq_true (by omega),decide_eq_true ?_⟩
    rw[Int.toNat_natCast];show i - 1 < xs.length;omega
   ·rw[Int.toNat_natCast] at e;have e':((T.sl xs).nth (i - 1)).i≥n:=of_decide_eq_true e
    rw[h1 (decide_eq_false (by omega))];exact Yields.some _
   ·rw[Int.toNat_natCast] at e;have e' : ¬((T.sl xs).nth (i - 1)).i≥n:=of_decide_eq_false e
    exact h2 (decide_eq_true (by omega))
  ·have h0:i=0:=by
    have : ¬(i:Int) > 0:=of_decide_eq_false e
    omega
   rw[AM hi' hl];exact h2 (by rw[decide_eq_true h0,Bool.true_or])
def aY (ms:List T):List T:=ms.map (·.fld 0)
theorem ub {ms:List T} {i:Nat} (h:i < (aY ms).length) (h':i < ms.length):(aY ms)[i]=ms[i].fld 0:=by simp[aY]
theorem st2' {x:T} (h:DG BB x):T.st [x.fld 0,x.fld 1]=x:=by obtain ⟨a,fs,rfl,_⟩:=h;rfl
theorem rec_fs {x:T} (h:DG BB x) : ∃fs,x.fld 1 = .sl fs∧fs.length≤BB:=by obtain ⟨a,fs,rfl,_,_,h3,_⟩:=h;exact ⟨fs,rfl,h3⟩
theorem DS {x:T} (h:kW BB x) : ∃rs,x.fld 0 = .sl rs∧yD BB (.sl rs):=by cases h with | mk h1=>exact ⟨_,rfl,h1⟩
theorem tF (ms:List T) (hlen:ms.length≤BB) (hm : ∀x∈ms,kW BB x):Yields (fun k=>cl env k d9 [.sl ms]) [.sl (aY ms)]:=by
 have key : ∀(m i:Nat),i+m=ms.length→Yields (fun k=>dC (hl env k E5) (.sl ms) (.int (i:Int)) (.sl ((aY ms).take i))) [.sl (aY ms)]:=by
  intro m;induction m with
  | zero=>
   intro i hi;refine n8 _ _ _ (Yields.ff (FH (by omega)) ?_)
   rw[List.take_of_length_le (by unfold aY;simp;omega)];exact Yields.some _
  | succ m ih=>
   intro i hi;have hlt:i < ms.length:=by omega
   obtain ⟨rs,hr1,hr2⟩:=DS (hm _ (List.getElem_mem hlt));obtain ⟨_,he,hrl,hrr⟩:=hr2;cases he;have hn1:(((T.sl ms).nth (T.int (i:Int)).i.toNat).fld 0) = .sl rs:=by rw[vQ hlt];exact hr1
   have hk:i < (aY ms).length:=by unfold aY;simpa using hlt
   have e:(aY ms)[i] = .sl rs:=(ub hk hlt).trans hr1
   refine n8 _ _ _ (Yields.tt (F2 hlt) ?_);have inner : ∀(m' j:Nat),j+m'=rs.length→Yields (fun k=>dD (hl env k E5) (.sl ms) (.int (i:Int)) (.int (j:Int)) (.sl ((aY ms).take i)) (.sl (rs.take j))) [.sl (aY ms)]:=by
    intro m';induction m' with
    | zero=>
     intro j hj;refine n9 _ _ _ _ _ (Yields.tt (pw hlt) ?_);rw[hn1];refine Yields.ff (FH (by omega)) (Yields.tt (decide_eq_true ?_) ?_)
     ·show ((aY ms).take i).length+1≤LIM
      rw[List.length_take];unfold BB at hlen;unfold LIM;omega
     ·rw[AM hlt (DU hlen),List.take_of_length_le (by omega:rs.length≤j),← e]
      show Yields (fun k=>dC (hl env k E5) (.sl ms) (.int ((i+1:Nat):Int)) (.sl ((aY ms).take i ++ [(aY ms)[i]]))) _
      rw[List.take_append_getElem hk];exact ih (i+1) (by omega)
    | succ m' ih'=>
     intro j hj;have hjt:j < rs.length:=by omega
     have hkr:=hrr _ (List.getElem_mem hjt);obtain ⟨fs,hf,hfl⟩:=rec_fs hkr;refine n9 _ _ _ _ _ (Yields.tt (pw hlt) ?_);rw[hn1];have hn2:((T.sl rs).nth (T.int (j:Int)).i.toNat)=rs[j]:=vQ hjt
     rw[hn2,hf];have e2:T.st [rs[j].fld 0,T.sl (([]:List T)++(T.sl fs).es)]=rs[j]:=by show T.st [rs[j].fld 0,.sl fs]=_;rw[← hf];exact st2' hkr
     refine Yields.tt (F2 hjt) (Yields.tt (pw hjt) (Yields.tt (decide_eq_true ?_) (Yields.tt (decide_eq_true ?_) ?_)))
     ·show ([]:List T).length+fs.length≤LIM
      unfold BB at hfl;unfold LIM;simp;omega
     ·show (rs.take j).length+1≤LIM
      rw[List.length_take];unfold BB at hrl;unfold LIM;omega
     ·rw[e2,AM hjt (DU hrl)];show Yields (fun k=>dD (hl env k E5) (.sl ms) (.int (i:Int)) (.int ((j+1:Nat):Int)) (.sl ((aY ms).take i)) (.sl (rs.take j ++ [rs[j]]))) _
      rw[List.take_append_getElem hjt];exact ih' (j+1) (by omega)
   exact inner rs.length 0 (by omega)
 exact tV _ (key ms.length 0 (by omega))
theorem qW (ms:List T):(aY ms).length=ms.length:=by simp[aY]
theorem vN {f:T} (h:j5 BB f):T.st [f.fld 0,f.fld 1,f.fld 2,f.fld 3,f.fld 4,f.fld 5]=f:=by cases h;rfl
end Go.Proofs.YtdcnobhlknjnoaaGreatDoor.Ra
