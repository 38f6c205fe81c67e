/- A verified evaluator for the program, part Pl1 of this claim. -/
import Derived.Test.YtgmhmcnogmojaaaDRa3
import Derived.Test.YtgmhmcnogmojaaaDEq
import Derived.Laws.Strings
set_option linter.unusedSimpArgs false
set_option linter.unusedVariables false
namespace Go.Proofs.Ytgmhmcnogmojaaa.Ra
open Go
theorem jZ:maxLen=9223372036854775807:=by decide
theorem vQ {es:List T} {i:Nat} (h:i < es.length):(T.sl es).nth (T.int (i:Int)).i.toNat=es[i]:=by
 show (T.sl es).nth ((i:Int).toNat)=es[i]
 rw[Int.toNat_natCast,bh h]
theorem F2 {es:List T} {i:Nat} (h:i < es.length):decide ((T.int (i:Int)).i < ((T.sl es).es.length:Int))=true:=by
 apply decide_eq_true;show (i:Int) < (es.length:Int);omega
theorem FH {es:List T} {i:Nat} (h : ¬i < es.length):decide ((T.int (i:Int)).i < ((T.sl es).es.length:Int))=false:=by
 apply decide_eq_false;show ¬(i:Int) < (es.length:Int);omega
theorem pw {es:List T} {i:Nat} (h:i < es.length):(decide (0≤(T.int (i:Int)).i)&&decide ((T.int (i:Int)).i.toNat < (T.sl es).es.length))=true:=by
 rw[Bool.and_eq_true];refine ⟨decide_eq_true ?_,decide_eq_true ?_⟩
 ·show (0:Int)≤i;omega
 ·show (i:Int).toNat < es.length;omega
theorem AM {n i:Nat} (h:i < n) (hn:n≤maxLen):T.int (IntKind.wrap .i64 ((T.int (i:Int)).i+(1:Int)))=T.int ((i+1:Nat):Int):=by
 rw[jZ] at hn;show T.int (IntKind.wrap .i64 ((i:Int)+1))=_
 rw[bf (by omega) (by omega)]
 rfl
section
variable {E:Env}
end
inductive EB (b:Nat):T→Prop
 | mk {s:ByteArray} {n:Int} {ps is:List T} : s.size≤maxLen→-9223372036854775808≤n→n≤9223372036854775807→ps.length≤b→is.length≤b→(∀x∈is,∃m:Int,x = .int m)→(∀x∈ps,EB b x)→
   EB b (.st [.str s,.int n,.sl ps,.sl is])
def tv (t:T):Prop:=∃s:ByteArray,t = .str s∧s.size≤maxLen
def DG (b:Nat) (t:T):Prop:=∃(a:Int) (fs:List T),t = .st [.int a,.sl fs]∧-9223372036854775808≤a∧a≤9223372036854775807∧fs.length≤b∧∀x∈fs,tv x
def yD (b:Nat) (t:T):Prop:=∃rs:List T,t = .sl rs∧rs.length≤b∧∀x∈rs,DG b x
def Eo (b:Nat) (t:T):Prop:=∃(o:Int) (v:T),t = .st [.int o,v]∧-9223372036854775808≤o∧o≤9223372036854775807∧EB b v
def BB:Nat:=1048576
theorem room {n:Nat} (h:n≤BB):(decide (0≤(n:Int))&&(decide ((n:Int)≤(n:Int))&&decide (n≤LIM)))=true:=by
 unfold BB at h;rw[Bool.and_eq_true,Bool.and_eq_true,decide_eq_true_eq,decide_eq_true_eq,decide_eq_true_eq];exact ⟨by omega,by omega,by unfold LIM;omega⟩
theorem DU {n:Nat} (h:n≤BB):n≤maxLen:=by rw[jZ];unfold BB at h;omega
def bU (s:ByteArray) (i:Nat):Nat:=(s.data.getD i 0).toNat
def dn (s:ByteArray):Option (Nat × Nat):=
 if s.size=3∧bU s 0=83∧48≤bU s 1∧bU s 1≤57∧48≤bU s 2∧bU s 2≤57 then some (bU s 1 - 48,bU s 2 - 48) else none
def KJ:Option (Nat × Nat)→List T
 | none=>[.int 0,.int 0,.bool false]
 | some (i,j)=>[.int (i:Int),.int (j:Int),.bool true]
theorem wrap8 {n:Int} (h0:0≤n) (h1:n≤255):IntKind.wrap .u8 n=n:=by
 simp only[IntKind.wrap,IntKind.bits,IntKind.signed];have:n % 256=n:=by omega
 simpa using this
theorem digit {n:Nat} (h:48≤n) (h2:n≤57):IntKind.wrap .i64 (IntKind.wrap .u8 ((n:Int) - (48:Int)))=((n - 48:Nat):Int):=by
 rw[wrap8 (by omega) (by omega),bf (by omega) (by omega)];omega
theorem C3 (s:ByteArray):Yields (fun k=>oK (hl env k ii) (cl env k) (.str s)) (KJ (dn s)):=by
 have no : ∀{x:Nat→R},¬(s.size=3∧bU s 0=83∧48≤bU s 1∧bU s 1≤57∧48≤bU s 2∧bU s 2≤57)→x=(fun _=>some [(T.int (0:Int)),(T.int (0:Int)),(T.bool false)])→Yields x (KJ (dn s)):=by
  intro x h hx;subst hx;unfold dn;rw[if_neg h];exact Yields.some _
 by_cases hs:s.size=3
 ·have g : ∀i:Nat,i < 3→(decide (0≤(i:Int))&&decide (i < (T.str s).s.size))=true:=fun i hi=>by
   rw[Bool.and_eq_true];exact ⟨decide_eq_true (by omega),decide_eq_true (by show i < s.size;omega)⟩
  refine Yields.ff (by show (((s.size:Nat):Int) != 3)=false;rw[hs];rfl) (Yields.tt (g 0 (by omega)) (Yields.ite (fun h2=>no ?_ rfl) (fun h2=>Yields.tt (g 1 (by omega)) (Yields.ite (fun h3=>no ?_ rfl) (fun h3=>Yields.tt (g 1 (by omega)) (Yields.ite (fun h4=>no ?_ rfl) (fun h4=>Yields.tt (g 2 (by omega)) (Yields.ite (fun h5=>no ?_ rfl) (fun h5=>Yields.tt (g 2 (by omega)) (Yields.ite (fun h6=>no ?_ rfl) (fun h6=>Yields.tt (g 1 (by omega)) (Yields.tt (g 2 (by omega)) ?_))))))))))))
  all_goals simp only[bne_iff_ne,ne_eq,bne_eq_false_iff_eq,decide_eq_true_eq,decide_eq_false_iff_not] at *
  ·intro ⟨_,c,_⟩;unfold bU at c;exact h2 (by exact_mod_cast c)
  ·intro ⟨_,_,c,_⟩;unfold bU at c;have:((s.data.getD 1 0).toNat:Int) < 48:=h3;omega
  ·intro ⟨_,_,_,c,_⟩;unfold bU at c;have:((s.data.getD 1 0).toNat:Int) > 57:=h4;omega
  ·intro ⟨_,_,_,_,c,_⟩;unfold bU at c;have:((s.data.getD 2 0).toNat:Int) < 48:=h5;omega
  ·intro ⟨_,_,_,_,_,c⟩;unfold bU at c;have:((s.data.getD 2 0).toNat:Int) > 57:=h6;omega
  ·have e2:((s.data.getD 0 0).toNat:Int)=83:=h2
   have e3 : ¬((s.data.getD 1 0).toNat:Int) < 48:=h3
   have e4 : ¬((s.data.getD 1 0).toNat:Int) > 57:=h4
   have e5 : ¬((s.data.getD 2 0).toNat:Int) < 48:=h5
   have e6 : ¬((s.data.getD 2 0).toNat:Int) > 57:=h6
   have hk:dn s=some (bU s 1 - 48,bU s 2 - 48):=by
    unfold dn;rw[if_pos ⟨hs,by unfold bU;omega,by unfold bU;omega,by unfold bU;omega,by unfold bU;omega,by unfold bU;omega⟩]
   rw[hk];have d1:IntKind.wrap .i64 (IntKind.wrap .u8 (((T.str s).s.data.getD 1 0).toNat - (48:Int)))=((bU s 1 - 48:Nat):Int):=digit (by omega) (by omega)
   have d2:IntKind.wrap .i64 (IntKind.wrap .u8 (((T.str s).s.data.getD 2 0).toNat - (48:Int)))=((bU s 2 - 48:Nat):Int):=digit (by omega) (by omega)
   rw[d1,d2];exact Yields.some _
 ·refine Yields.tt (bne_iff_ne.2 ?_) (no (fun h=>hs h.1) rfl)
  show ¬((s.size:Nat):Int)=3
  omega
theorem zl (s:ByteArray):Yields (fun k=>cl env k cU [.str s]) (KJ (dn s)):=yp _ (C3 s)
theorem ma {s:ByteArray} {i j:Nat} (h:dn s=some (i,j)):s.size=3∧bU s 0=83∧i≤9∧j≤9:=by
 unfold dn at h;split at h
 ·rename_i hc
  simp only[Option.some.injEq,Prod.mk.injEq] at h;obtain ⟨rfl,rfl⟩:=h;exact ⟨hc.1,hc.2.1,by omega,by omega⟩
 ·cases h
def dw (s:ByteArray):Bool:=s.toList==(⟨#[110]⟩:ByteArray).toList||(s.toList==(⟨#[98]⟩:ByteArray).toList||s.toList==(⟨#[111]⟩:ByteArray).toList)
theorem base_s (s:ByteArray):Yields (fun k=>cl env k kU [.str s]) [.bool (dw s)]:=by
 refine yo _ (Yields.ite (fun h=>?_) (fun h=>Yields.ite (fun h2=>?_) (fun h2=>?_)))
 ·have:dw s=true:=by unfold dw;rw[show (s.toList==(⟨#[110]⟩:ByteArray).toList)=true from h];rfl
  rw[this];exact Yields.some _
 ·have:dw s=true:=by unfold dw;rw[show (s.toList==(⟨#[98]⟩:ByteArray).toList)=true from h2];simp
  rw[this];exact Yields.some _
 ·have:dw s=(s.toList==(⟨#[111]⟩:ByteArray).toList):=by
   unfold dw;rw[show (s.toList==(⟨#[110]⟩:ByteArray).toList)=false from h,show (s.toList==(⟨#[98]⟩:ByteArray).toList)=false from h2];simp
  rw[this];exact Yields.some _
theorem byte1 {s:ByteArray} {c:UInt8} (h:(s.toList==(⟨#[c]⟩:ByteArray).toList)=true):s.size=1∧bU s 0=c.toNat:=by
 rw[beq_iff_eq,ByteArray.toList_eq,ByteArray.toList_eq] at h;have hs:s=⟨#[c]⟩:=WideShapes.bytes_inj h
 subst hs;exact ⟨rfl,rfl⟩
theorem sG {s:ByteArray} (h:dw s=true):s.size=1∧(bU s 0=110∨bU s 0=98∨bU s 0=111):=by
 unfold dw at h;rw[Bool.or_eq_true,Bool.or_eq_true] at h;rcases h with h | h | h
 ·obtain ⟨a,b⟩:=byte1 h;exact ⟨a,.inl b⟩
 ·obtain ⟨a,b⟩:=byte1 h;exact ⟨a,.inr (.inl b)⟩
 ·obtain ⟨a,b⟩:=byte1 h;exact ⟨a,.inr (.inr b)⟩
theorem sF {s:ByteArray} (h:dw s=true):dn s=none:=by
 cases hk:dn s with
 | none=>rfl
 | some x=>
  obtain ⟨i,j⟩:=x;have:=(ma hk).1
  have:=(sG h).1
  omega
def lS (ks:List T) (i j:Nat):Bool:=decide (i < ks.length)&&decide (j < ((T.sl ks).nth i).es.length)
theorem KH (ks:List T) (i j:Nat):Yields (fun k=>cl env k mg [.sl ks,.int (i:Int),.int (j:Int)]) [.bool (lS ks i j)]:=by
 refine A0 _ _ _ ?_;by_cases h:i < ks.length
 ·refine Yields.tt (F2 h) (Yields.tt (pw h) ?_);have:lS ks i j=decide ((T.int (j:Int)).i < ((((T.sl ks).nth (T.int (i:Int)).i.toNat).es).length:Int)):=by
   unfold lS;rw[decide_eq_true h,Bool.true_and];show _=decide ((j:Int) < (((T.sl ks).nth ((i:Int).toNat)).es.length:Int))
   rw[Int.toNat_natCast];by_cases hj:j < ((T.sl ks).nth i).es.length
   ·rw[decide_eq_true hj,decide_eq_true (by omega)]
   ·rw[decide_eq_false hj,decide_eq_false (by omega)]
  rw[this];exact Yields.some _
 ·have:lS ks i j=false:=by unfold lS;rw[decide_eq_false h];rfl
  rw[this];exact Yields.ff (FH h) (Yields.some _)
def nQ (ks:List T) (s:ByteArray):Bool:=match dn s with
 | some (i,j)=>lS ks i j
 | none=>false
theorem wb {ks:List T} {s:ByteArray} (h:(dw s||nQ ks s)=true):0 < s.size∧bU s 0≠38∧bU s 0≠33:=by
 rw[Bool.or_eq_true] at h;rcases h with h | h
 ·obtain ⟨h1,h2⟩:=sG h;exact ⟨by omega,by omega,by omega⟩
 ·unfold nQ at h;split at h
  ·rename_i i j hk
   obtain ⟨h1,h2,_⟩:=ma hk;exact ⟨by omega,by omega,by omega⟩
  ·cases h
def tA (ks:List T) (s:ByteArray):T:=match dn s with
 | some (i,j)=>(((T.sl ks).nth i).nth j).fld 0
 | none=>.int 7
theorem LH {s:ByteArray} : ((s.data.getD 0 0).toNat:Int)=(bU s 0:Int):=rfl
theorem ref_s {s:ByteArray} (h0:0 < s.size) (h1:bU s 0≠38) (h2:bU s 0≠33):Yields (fun k=>cl env k bO [.str s]) [.bool false]:=by
 refine tp _ (Yields.tt ?_ (Yields.tt ?_ (Yields.ff ?_ (Yields.tt ?_ ?_))))
 ·apply decide_eq_true;show (s.size:Int) > 0;omega
 ·rw[Bool.and_eq_true];exact ⟨rfl,decide_eq_true h0⟩
 ·show (((s.data.getD 0 0).toNat:Int)==38)=false
  rw[beq_eq_false_iff_ne,LH];omega
 ·rw[Bool.and_eq_true];exact ⟨rfl,decide_eq_true h0⟩
 ·have:((((T.str s).s.data.getD 0 0).toNat:Int)==33)=false:=by
   show (((s.data.getD 0 0).toNat:Int)==33)=false
   rw[beq_eq_false_iff_ne,LH];omega
  rw[this];exact Yields.some _
theorem rk {ks:List T} {i j:Nat} (h:lS ks i j=true):i < ks.length∧j < ((T.sl ks).nth i).es.length:=by
 unfold lS at h;rw[Bool.and_eq_true,decide_eq_true_eq,decide_eq_true_eq] at h;exact h
theorem JP {ks:List T} {i j:Nat} (h:j < ((T.sl ks).nth i).es.length):(decide (0≤(T.int (j:Int)).i)&&decide (((T.int (j:Int)).i).toNat < (((T.sl ks).nth ((T.int (i:Int)).i.toNat)).es).length))=true:=by
 rw[Bool.and_eq_true];refine ⟨decide_eq_true ?_,decide_eq_true ?_⟩
 ·show (0:Int)≤j;omega
 ·show (j:Int).toNat < (((T.sl ks).nth ((i:Int).toNat)).es).length
  rw[Int.toNat_natCast,Int.toNat_natCast];exact h
theorem Lw (ks:List T) (s:ByteArray) (h:(dw s||nQ ks s)=true):Yields (fun k=>cl env k eD [.sl ks,.str s]) [tA ks s]:=by
 obtain ⟨h0,h1,h2⟩:=wb h;refine se _ _ (Yields.obind (ref_s h0 h1 h2) (Yields.ff rfl (Yields.obind (ref_s h0 h1 h2) (Yields.ff rfl (Yields.obind (zl s) ?_)))));unfold tA;cases hk:dn s with
 | none=>exact Yields.ff rfl (Yields.some _)
 | some x=>
  obtain ⟨i,j⟩:=x;have hh:lS ks i j=true:=by
   rw[Bool.or_eq_true] at h;rcases h with h | h
   ·rw[sF h] at hk;cases hk
   ·unfold nQ at h;rw[hk] at h;exact h
  obtain ⟨g1,g2⟩:=rk hh;refine Yields.tt rfl (Yields.tt (pw g1) (Yields.tt (JP g2) ?_));exact Yields.some _
def eV (ks:List T) (m k:Nat) (s:ByteArray):Bool:=match dn s with
 | none=>dw s
 | some (i,j)=>lS ks i j&&(decide (i < m)||(decide (i=m)&&decide (j < k)))
theorem vZ (a b:Nat):decide ((T.int (a:Int)).i < (T.int (b:Int)).i)=decide (a < b):=by
 show decide ((a:Int) < (b:Int))=decide (a < b)
 by_cases h:a < b
 ·rw[decide_eq_true h,decide_eq_true (by omega)]
 ·rw[decide_eq_false h,decide_eq_false (by omega)]
theorem Km (a b:Nat):((T.int (a:Int)).i==(T.int (b:Int)).i)=decide (a=b):=by
 show ((a:Int)==(b:Int))=decide (a=b)
 by_cases h:a=b
 ·subst h;simp
 ·rw[decide_eq_false h,beq_eq_false_iff_ne];omega
theorem Nq (ks:List T) (m k:Nat) (s:ByteArray):Yields (fun r=>cl env r kh [.sl ks,.int (m:Int),.int (k:Int),.str s]) [.bool (eV ks m k s)]:=by
 refine xl _ _ _ _ (Yields.obind (zl s) ?_);unfold eV;cases hk:dn s with
 | none=>exact Yields.tt rfl (Yields.obind (base_s s) (Yields.some _))
 | some x=>
  obtain ⟨i,j⟩:=x;refine Yields.ff rfl (Yields.obind (KH ks i j) ?_);simp only
  cases hh:lS ks i j with
  | false=>exact Yields.ff rfl (Yields.some _)
  | true=>
   refine Yields.tt rfl ?_;refine Yields.ite (fun h=>?_) (fun h=>Yields.ite (fun h2=>?_) (fun h2=>?_))
   ·have h':decide (i < m)=true:=by rw[← vZ];exact h
    rw[h'];exact Yields.some _
   ·have h':decide (i < m)=false:=by rw[← vZ];exact h
    have h2':decide (i=m)=true:=by rw[← Km];exact h2
    rw[h',h2',Bool.true_and,Bool.false_or,Bool.true_and,← vZ];exact Yields.some _
   ·have h':decide (i < m)=false:=by rw[← vZ];exact h
    have h2':decide (i=m)=false:=by rw[← Km];exact h2
    rw[h',h2'];exact Yields.some _
theorem o7 {ks:List T} {m k:Nat} {s:ByteArray} (h:eV ks m k s=true):(dw s||nQ ks s)=true:=by
 unfold eV at h;unfold nQ;cases hk:dn s with
 | none=>rw[hk] at h;simp only at h;rw[h];rfl
 | some x=>
  obtain ⟨i,j⟩:=x;rw[hk] at h;simp only[Bool.and_eq_true] at h;simp only[h.1,Bool.or_true]
theorem JV (a:Int) (p:Int) (ha:0≤a∧a≤15) (hp:p=1∨p=2∨p=4∨p=8):Yields (fun k=>cl env k bH [.int a,.int p]) [.bool ((a.tdiv p).tmod 2==1)]:=by
 have hw:IntKind.wrap .i64 (a.tdiv p)=a.tdiv p:=by
  have h1:0≤a.tdiv p:=Int.tdiv_nonneg ha.1 (by omega)
  have h2:a.tdiv p≤a:=by rw[Int.tdiv_eq_ediv_of_nonneg ha.1];exact Int.ediv_le_self _ ha.1
  exact bf (by omega) (by omega)
 refine zZ _ _ (Yields.tt ?_ (Yields.tt rfl ?_))
 ·rcases hp with rfl | rfl | rfl | rfl <;> rfl
 ·show Yields (fun _=>some [T.bool (((IntKind.wrap .i64 (a.tdiv p)).tmod 2)==1)]) _
  rw[hw];exact Yields.some _
def v8 (ks:List T) (m k:Nat):Prop:=∀i j,(i < m∨(i=m∧j < k))→i < ks.length→j < ((T.sl ks).nth i).es.length→∃a:Int,(((T.sl ks).nth i).nth j).fld 0 = .int a∧0≤a∧a≤15
theorem Be {ks:List T} {m k:Nat} {s:ByteArray} (he:v8 ks m k) (h:eV ks m k s=true) : ∃f:Int,tA ks s = .int f∧0≤f∧f≤15:=by
 unfold eV at h;unfold tA;cases hk:dn s with
 | none=>exact ⟨7,rfl,by omega,by omega⟩
 | some x=>
  obtain ⟨i,j⟩:=x;rw[hk] at h;simp only[Bool.and_eq_true,Bool.or_eq_true,decide_eq_true_eq] at h;obtain ⟨g1,g2⟩:=rk h.1;exact he i j h.2 g1 g2
theorem in_s (x lo hi:Int):Yields (fun k=>cl env k dZ [.int x,.int lo,.int hi]) [.bool (decide (x≥lo)&&decide (x≤hi))]:=by
 refine Ak _ _ _ (Yields.ite (fun h=>?_) (fun h=>?_))
 ·rw[show decide (x≥lo)=true from h,Bool.true_and];exact Yields.some _
 ·rw[show decide (x≥lo)=false from h,Bool.false_and];exact Yields.some _
section
variable {ks:List T} {b:Nat}
end
inductive J1:T→Prop
 | num {s:ByteArray} {n:Int} : (s.toList==(⟨#[110]⟩:ByteArray).toList)=true→0≤n→n≤1000000→J1 (.st [.str s,.int n,.sl [],.sl []])
 | bit {s:ByteArray} {n:Int} : (s.toList==(⟨#[110]⟩:ByteArray).toList)=false→(s.toList==(⟨#[98]⟩:ByteArray).toList)=true→0≤n→n≤1→J1 (.st [.str s,.int n,.sl [],.sl []])
 | own {s:ByteArray} {n:Int} : (s.toList==(⟨#[110]⟩:ByteArray).toList)=false→(s.toList==(⟨#[98]⟩:ByteArray).toList)=false→(s.toList==(⟨#[111]⟩:ByteArray).toList)=true→0≤n→n≤3→J1 (.st [.str s,.int n,.sl [],.sl []])
 | made {s:ByteArray} {n:Int} {ps:List T} : (s.toList==(⟨#[110]⟩:ByteArray).toList)=false→(s.toList==(⟨#[98]⟩:ByteArray).toList)=false→(s.toList==(⟨#[111]⟩:ByteArray).toList)=false→s.size=3→(∀x∈ps,J1 x)→
   J1 (.st [.str s,.int n,.sl ps,.sl []])
section
variable {ks:List T} {b:Nat}
end
section
variable {ks:List T} {b:Nat}
end
inductive Run (g:T→Int→Int→Prop):Int→List T→Int→Prop
 | nil {k} : Run g k [] k
 | cons {k n m t l} : g t k n→Run g n l m→Run g k (t :: l) m
theorem st2 {b:Nat} {x:T} (h:Eo b x):T.st [x.fld 0,x.fld 1]=x:=by obtain ⟨o,v,rfl,_⟩:=h;rfl
def IsIns (t:T):Prop:=∃(s:ByteArray) (a b:Int),t = .st [.str s,.int a,.int b]∧s.size≤maxLen
def cz (is:List T):Prop:=∀x∈is,∃m:Int,x = .int m
inductive j5 (b:Nat):T→Prop
 | mk {n:Int} {ags rs ls tk cd:List T} : ags.length≤b→rs.length≤b→ls.length≤b→tk.length≤b→cd.length≤b→(∀x∈ags,tv x)→(∀x∈rs,tv x)→(∀x∈ls,tv x)→cz tk→
   (∀x∈cd,IsIns x)→j5 b (.st [.int n,.sl ags,.sl rs,.sl ls,.sl tk,.sl cd])
inductive kW (b:Nat):T→Prop
 | mk {rs fs fr:List T} : yD b (.sl rs)→fs.length≤b→(∀x∈fs,j5 b x)→fr.length≤b→cz fr→kW b (.st [.sl rs,.sl fs,.sl fr])
noncomputable def pY:T:=((nk (fun _ _=>none) (fun _ _=>none)).getD []).headD (.int 0)
theorem forms_s:Yields (fun k=>cl env k nb []) [pY]:=xm (Yields.some _)
theorem tab_sl:pY = .sl pY.es:=by kernel_rfl
def kb (s:ByteArray):Bool:=decide (s.size > 0)&&(bU s 0==38||bU s 0==33)
def ofB (s:ByteArray):ByteArray:=bif kb s then s.extract 1 s.size else s
theorem nB (s:ByteArray):(s.toList==(⟨#[]⟩:ByteArray).toList) = !decide (s.size > 0):=by
 by_cases h:s.size > 0
 ·rw[decide_eq_true h];rw[beq_eq_false_iff_ne.2];· rfl
  rw[ne_eq,ByteArray.toList_eq,ByteArray.toList_eq];intro he;have:s=⟨#[]⟩:=WideShapes.bytes_inj he
  subst this;exact absurd h (by decide)
 ·have:s=⟨#[]⟩:=by
   obtain ⟨⟨l⟩⟩:=s;cases l with
   | nil=>rfl
   | cons a l=>exact absurd (by show 0 < (a :: l).length;simp) h
  subst this;simp[ByteArray.size]
theorem wI (s:ByteArray) (c:Nat):(((s.data.getD 0 0).toNat:Int)==(c:Int))=(bU s 0==c):=by
 rw[LH];by_cases h:bU s 0=c
 ·rw[h];simp
 ·rw[beq_eq_false_iff_ne.2 h,beq_eq_false_iff_ne];omega
theorem lk (s:ByteArray):Yields (fun k=>cl env k bO [.str s]) [.bool (kb s)]:=by
 refine tp _ ?_;unfold kb;by_cases h:s.size > 0
 ·refine Yields.tt (decide_eq_true (by show (s.size:Int) > 0;omega)) (Yields.tt (by rw[Bool.and_eq_true];exact ⟨rfl,decide_eq_true h⟩) ?_)
  rw[decide_eq_true h,Bool.true_and];refine Yields.ite (fun e=>?_) (fun e=>?_)
  ·have:(bU s 0==38)=true:=by rw[← wI];exact e
   rw[this,Bool.true_or];exact Yields.some _
  ·have:(bU s 0==38)=false:=by rw[← wI];exact e
   rw[this,Bool.false_or,← wI];exact Yields.tt (by rw[Bool.and_eq_true];exact ⟨rfl,decide_eq_true h⟩) (Yields.some _)
 ·rw[decide_eq_false h,Bool.false_and];exact Yields.ff (decide_eq_false (by show ¬(s.size:Int) > 0;omega)) (Yields.some _)
theorem cut_tt {n:Nat} (h:n > 0):(decide (0≤(1:Int))&&(decide ((1:Int)≤(n:Int))&&(decide ((n:Int)≤(n:Int))&&decide ((n:Int)≤(n:Int)))))=true:=by
 simp only[Bool.and_eq_true,decide_eq_true_eq];exact ⟨by omega,by omega,by omega,by omega⟩
theorem rW {s:ByteArray} (h:kb s=true):s.size > 0:=by unfold kb at h;rw[Bool.and_eq_true,decide_eq_true_eq] at h;exact h.1
theorem of_s (s:ByteArray):Yields (fun k=>cl env k cx [.str s]) [.str (ofB s)]:=by
 refine Ai _ (Yields.obind (lk s) ?_);unfold ofB;cases h:kb s with
 | true=>exact Yields.tt rfl (Yields.tt (cut_tt (rW h)) (Yields.some _))
 | false=>exact Yields.ff rfl (Yields.some _)
def aY (ms:List T):List T:=ms.map (·.fld 0)
theorem ub {ms:List T} {i:Nat} (h:i < (aY ms).length) (h':i < ms.length):(aY ms)[i]=ms[i].fld 0:=by simp[aY]
theorem st2' {x:T} (h:DG BB x):T.st [x.fld 0,x.fld 1]=x:=by obtain ⟨a,fs,rfl,_⟩:=h;rfl
theorem rec_fs {x:T} (h:DG BB x) : ∃fs,x.fld 1 = .sl fs∧fs.length≤BB:=by obtain ⟨a,fs,rfl,_,_,h3,_⟩:=h;exact ⟨fs,rfl,h3⟩
theorem DS {x:T} (h:kW BB x) : ∃rs,x.fld 0 = .sl rs∧yD BB (.sl rs):=by cases h with | mk h1=>exact ⟨_,rfl,h1⟩
theorem xc (xs:List T) (h:xs.length≤BB):Yields (fun k=>cl env k fJ [.sl xs]) [.sl xs]:=by
 have hc : ∀l:List T,Yields (fun k=>cl env k iu [.sl l]) [.sl l]:=fun l=>by
  refine sa _ (Yields.tt ?_ ?_)
  ·simp only[Bool.and_eq_true,decide_eq_true_eq];exact ⟨by omega,by show (0:Int)≤(l.length:Int);omega,by omega,by omega⟩
  ·show Yields (fun _=>some [T.sl ((l.take l.length).drop 0)]) _
   rw[List.take_length,List.drop_zero];exact Yields.some _
 refine uN _ (Yields.tt (decide_eq_true ?_) (Yields.obind (hc _) ?_))
 ·show ([]:List T).length+xs.length≤LIM
  unfold BB at h;unfold LIM;simp;omega
 ·show Yields (fun _=>some [T.sl ((([]++xs).take ([]++xs).length).drop 0)]) _
  rw[List.take_length,List.drop_zero,List.nil_append];exact Yields.some _
theorem tF (ms:List T) (hlen:ms.length≤BB) (hm : ∀x∈ms,kW BB x):Yields (fun k=>cl env k d9 [.sl ms]) [.sl (aY ms)]:=by
 have key : ∀(m i:Nat),i+m=ms.length→Yields (fun k=>dC (hl env k E5) (.sl ms) (.int (i:Int)) (.sl ((aY ms).take i))) [.sl (aY ms)]:=by
  intro m;induction m with
  | zero=>
   intro i hi;refine n8 _ _ _ (Yields.ff (FH (by omega)) ?_)
   rw[List.take_of_length_le (by unfold aY;simp;omega)];exact Yields.some _
  | succ m ih=>
   intro i hi;have hlt:i < ms.length:=by omega
   obtain ⟨rs,hr1,hr2⟩:=DS (hm _ (List.getElem_mem hlt));obtain ⟨_,he,hrl,hrr⟩:=hr2;cases he;have hn1:(((T.sl ms).nth (T.int (i:Int)).i.toNat).fld 0) = .sl rs:=by rw[vQ hlt];exact hr1
   have hk:i < (aY ms).length:=by unfold aY;simpa using hlt
   have e:(aY ms)[i] = .sl rs:=(ub hk hlt).trans hr1
   refine n8 _ _ _ (Yields.tt (F2 hlt) ?_);have inner : ∀(m' j:Nat),j+m'=rs.length→Yields (fun k=>dD (hl env k E5) (.sl ms) (.int (i:Int)) (.int (j:Int)) (.sl ((aY ms).take i)) (.sl (rs.take j))) [.sl (aY ms)]:=by
    intro m';induction m' with
    | zero=>
     intro j hj;refine n9 _ _ _ _ _ (Yields.tt (pw hlt) ?_);rw[hn1];refine Yields.ff (FH (by omega)) (Yields.tt (decide_eq_true ?_) ?_)
     ·show ((aY ms).take i).length+1≤LIM
      rw[List.length_take];unfold BB at hlen;unfold LIM;omega
     ·rw[AM hlt (DU hlen),List.take_of_length_le (by omega:rs.length≤j),← e]
      show Yields (fun k=>dC (hl env k E5) (.sl ms) (.int ((i+1:Nat):Int)) (.sl ((aY ms).take i ++ [(aY ms)[i]]))) _
      rw[List.take_append_getElem hk];exact ih (i+1) (by omega)
    | succ m' ih'=>
     intro j hj;have hjt:j < rs.length:=by omega
     have hkr:=hrr _ (List.getElem_mem hjt);obtain ⟨fs,hf,hfl⟩:=rec_fs hkr;refine n9 _ _ _ _ _ (Yields.tt (pw hlt) ?_);rw[hn1];have hn2:((T.sl rs).nth (T.int (j:Int)).i.toNat)=rs[j]:=vQ hjt
     rw[hn2,hf];have e2:T.st [rs[j].fld 0,T.sl (([]:List T)++(T.sl fs).es)]=rs[j]:=by show T.st [rs[j].fld 0,.sl fs]=_;rw[← hf];exact st2' hkr
     refine Yields.tt (F2 hjt) (Yields.tt (pw hjt) (Yields.tt (decide_eq_true ?_) (Yields.tt (decide_eq_true ?_) ?_)))
     ·show ([]:List T).length+fs.length≤LIM
      unfold BB at hfl;unfold LIM;simp;omega
     ·show (rs.take j).length+1≤LIM
      rw[List.length_take];unfold BB at hrl;unfold LIM;omega
     ·rw[e2,AM hjt (DU hrl)];show Yields (fun k=>dD (hl env k E5) (.sl ms) (.int (i:Int)) (.int ((j+1:Nat):Int)) (.sl ((aY ms).take i)) (.sl (rs.take j ++ [rs[j]]))) _
      rw[List.take_append_getElem hjt];exact ih' (j+1) (by omega)
   exact inner rs.length 0 (by omega)
 exact tV _ (key ms.length 0 (by omega))
theorem C9 {x:T} (h:kW BB x) : ∃rs fs fr,x = .st [.sl rs,.sl fs,.sl fr]∧yD BB (.sl rs)∧fs.length≤BB∧(∀x∈fs,j5 BB x)∧fr.length≤BB∧cz fr:=by
 cases h with | mk h1 h2 h3 h4 h5=>exact ⟨_,_,_,rfl,h1,h2,h3,h4,h5⟩
theorem qW (ms:List T):(aY ms).length=ms.length:=by simp[aY]
theorem clip_ins (l:List T):Yields (fun k=>cl env k gH [.sl l]) [.sl l]:=by
 refine qY _ (Yields.tt ?_ ?_)
 ·simp only[Bool.and_eq_true,decide_eq_true_eq];exact ⟨by omega,by show (0:Int)≤(l.length:Int);omega,by omega,by omega⟩
 ·show Yields (fun _=>some [T.sl ((l.take l.length).drop 0)]) _
  rw[List.take_length,List.drop_zero];exact Yields.some _
theorem BA (l:List T):Yields (fun k=>cl env k kx [.sl l]) [.sl l]:=by
 refine tT _ (Yields.tt ?_ ?_)
 ·simp only[Bool.and_eq_true,decide_eq_true_eq];exact ⟨by omega,by show (0:Int)≤(l.length:Int);omega,by omega,by omega⟩
 ·show Yields (fun _=>some [T.sl ((l.take l.length).drop 0)]) _
  rw[List.take_length,List.drop_zero];exact Yields.some _
theorem nums_i (is:List T) (h:is.length≤BB):Yields (fun k=>cl env k me [.sl is]) [.sl is]:=by
 refine ws _ (Yields.tt (decide_eq_true ?_) (Yields.obind (BA _) ?_))
 ·show ([]:List T).length+is.length≤LIM
  unfold BB at h;unfold LIM;simp;omega
 ·show Yields (fun _=>some [T.sl ((([]++is).take ([]++is).length).drop 0)]) _
  rw[List.take_length,List.drop_zero,List.nil_append];exact Yields.some _
theorem func_i (f:T) (h:j5 BB f):Yields (fun k=>cl env k jq [f]) [f]:=by
 cases h with
 | @mk n ags rs ls tk cd h1 h2 h3 h4 h5 g1 g2 g3 g4 g5=>
  refine wq _ (Yields.tt (decide_eq_true ?_) (Yields.obind (clip_ins _) (Yields.obind (xc ags h1) (Yields.obind (xc rs h2) (Yields.obind (xc ls h3) (Yields.obind (nums_i tk h4) ?_))))))
  ·show ([]:List T).length+cd.length≤LIM
   unfold BB at h5;unfold LIM;simp;omega
  ·show Yields (fun _=>some [T.st [.int n,.sl ags,.sl rs,.sl ls,.sl tk,T.sl ((([]++cd).take ([]++cd).length).drop 0)]]) _
   rw[List.take_length,List.drop_zero,List.nil_append];exact Yields.some _
theorem func6 {f:T} (h:j5 BB f):T.st [f.fld 0,f.fld 1,f.fld 2,f.fld 3,f.fld 4,f.fld 5]=f:=by cases h;rfl
def zeroF:T:=.st [.int 0,.sl [],.sl [],.sl [],.sl [],.sl []]
theorem has_same (ms:List T) (hlen:ms.length≤BB) (hm : ∀x∈ms,kW BB x) (m f:Int) :
  (Yields (fun k=>cl env k eb [.sl ms,.int m,.int f]) [.bool false]∧Yields (fun k=>cl env k it [.sl ms,.int m,.int f]) [zeroF,.bool false])∨
  ∃(i j:Nat) (g:T),m=i∧f=j∧i < ms.length∧j < (((T.sl ms).nth i).fld 1).es.length∧(((T.sl ms).nth i).fld 1).nth j=g∧j5 BB g∧
   Yields (fun k=>cl env k eb [.sl ms,.int m,.int f]) [.bool true]∧Yields (fun k=>cl env k it [.sl ms,.int m,.int f]) [g,.bool true]:=by
 have w1:IntKind.wrap .i64 (((T.sl ms).es.length:Int) - (1:Int))=(ms.length:Int) - 1:=by show IntKind.wrap .i64 ((ms.length:Int) - 1)=_;unfold BB at hlen;rw[bf (by omega) (by omega)]
 have hin:=in_s m 0 ((ms.length:Int) - 1);have no1 : ¬(m≥0∧m≤(ms.length:Int) - 1)→Yields (fun k=>cl env k eb [.sl ms,.int m,.int f]) [.bool false]:=by
  intro h;have:(decide (m≥0)&&decide (m≤(ms.length:Int) - 1))=false:=by
   rw[Bool.eq_false_iff,ne_eq,Bool.and_eq_true,decide_eq_true_eq,decide_eq_true_eq];exact h
  rw[this] at hin;refine qi _ _ _ ?_;unfold hY;rw[w1];exact Yields.obind hin (Yields.ff rfl (Yields.some _))
 by_cases h1:m < 0
 ·exact .inl ⟨no1 (by omega),fX _ _ _ (Yields.tt (decide_eq_true h1) (Yields.some _))⟩
 by_cases h2:m≥(ms.length:Int)
 ·exact .inl ⟨no1 (by omega),fX _ _ _ (Yields.ff (decide_eq_false h1) (Yields.tt (decide_eq_true h2) (Yields.some _)))⟩
 obtain ⟨i,rfl⟩ : ∃i:Nat,m=i:=⟨m.toNat,by omega⟩
 have hlt:i < ms.length:=by omega
 obtain ⟨rs,fs,fr,hx,_,hfl,hff,_⟩:=C9 (hm _ (List.getElem_mem hlt));have hn:((T.sl ms).nth (T.int (i:Int)).i.toNat) = .st [.sl rs,.sl fs,.sl fr]:=by rw[vQ hlt,hx]
 have hn':((T.sl ms).nth i) = .st [.sl rs,.sl fs,.sl fr]:=by rw[bh hlt,hx]
 have w2:IntKind.wrap .i64 ((fs.length:Int) - (1:Int))=(fs.length:Int) - 1:=by unfold BB at hfl;rw[bf (by omega) (by omega)]
 rw[decide_eq_true (by omega:(i:Int)≥0),decide_eq_true (by omega:(i:Int)≤(ms.length:Int) - 1)] at hin
 have hif:=in_s f 0 ((fs.length:Int) - 1);have has:Yields (fun k=>cl env k eb [.sl ms,.int i,.int f]) [.bool (decide (f≥0)&&decide (f≤(fs.length:Int) - 1))]:=by
  refine qi _ _ _ ?_;unfold hY;rw[w1,hn];have e:(((T.st [.sl rs,.sl fs,.sl fr]).fld 1).es).length=fs.length:=rfl
  rw[e,w2];exact Yields.obind hin (Yields.tt rfl (Yields.tt (pw hlt) (Yields.obind hif (Yields.some _))))
 by_cases h3:f < 0
 ·rw[decide_eq_false (by omega : ¬f≥0),Bool.false_and] at has
  exact .inl ⟨has,fX _ _ _ (Yields.ff (decide_eq_false h1) (Yields.ff (decide_eq_false h2) (Yields.tt (decide_eq_true h3) (Yields.some _))))⟩
 by_cases h4:f≥(fs.length:Int)
 ·rw[decide_eq_false (by omega : ¬f≤(fs.length:Int) - 1),Bool.and_false] at has
  refine .inl ⟨has,fX _ _ _ (Yields.ff (decide_eq_false h1) (Yields.ff (decide_eq_false h2) (Yields.ff (decide_eq_false h3) (Yields.tt (pw hlt) ?_))))⟩;rw[hn];exact Yields.tt (decide_eq_true h4) (Yields.some _)
 obtain ⟨j,rfl⟩ : ∃j:Nat,f=j:=⟨f.toNat,by omega⟩
 have hj:j < fs.length:=by omega
 rw[decide_eq_true (by omega:(j:Int)≥0),decide_eq_true (by omega:(j:Int)≤(fs.length:Int) - 1)] at has
 have hg:=hff _ (List.getElem_mem hj);refine .inr ⟨i,j,fs[j],rfl,rfl,hlt,by rw[hn'];exact hj,by rw[hn'];exact bh hj,hg,has,fX _ _ _ (Yields.ff (decide_eq_false h1) (Yields.ff (decide_eq_false h2) (Yields.ff (decide_eq_false h3) (Yields.tt (pw hlt) ?_))))⟩
 rw[hn];have e:((T.st [.sl rs,.sl fs,.sl fr]).fld 1).nth (T.int (j:Int)).i.toNat=fs[j]:=vQ hj
 rw[e];refine Yields.ff (decide_eq_false h4) (Yields.tt (pw hj) (Yields.obind (func_i _ hg) ?_));show Yields (fun _=>some [T.st [fs[j].fld 0,fs[j].fld 1,fs[j].fld 2,fs[j].fld 3,fs[j].fld 4,fs[j].fld 5],T.bool true]) _
 rw[func6 hg];exact Yields.some _
end Go.Proofs.Ytgmhmcnogmojaaa.Ra
