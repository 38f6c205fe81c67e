/- A verified evaluator for the program, part Pl1 of this claim. -/
import Derived.Test.YtdcnobhlknjnoaaGreatDoorSRa3
import Derived.Test.YtdcnobhlknjnoaaGreatDoorSEq
import Derived.Laws.Strings
set_option linter.unusedSimpArgs false
set_option linter.unusedVariables false
namespace Go.Proofs.YtdcnobhlknjnoaaGreatDoor.Ra
open Go
theorem Yields.uniq {x:Nat→R} {r r':List T} (h:Yields x r) (h':Yields x r'):r=r':=by
 obtain ⟨m,hm⟩:=h;obtain ⟨n,hn⟩:=h';have h1:=hm (m+n) (by omega)
 rw[hn (m+n) (by omega)] at h1
 exact (Option.some.inj h1).symm
theorem jZ:maxLen=9223372036854775807:=by decide
theorem vQ {es:List T} {i:Nat} (h:i < es.length):(T.sl es).nth (T.int (i:Int)).i.toNat=es[i]:=by
 show (T.sl es).nth ((i:Int).toNat)=es[i]
 rw[Int.toNat_natCast,bh h]
theorem F2 {es:List T} {i:Nat} (h:i < es.length):decide ((T.int (i:Int)).i < ((T.sl es).es.length:Int))=true:=by
 apply decide_eq_true;show (i:Int) < (es.length:Int);omega
theorem FH {es:List T} {i:Nat} (h : ¬i < es.length):decide ((T.int (i:Int)).i < ((T.sl es).es.length:Int))=false:=by
 apply decide_eq_false;show ¬(i:Int) < (es.length:Int);omega
theorem pw {es:List T} {i:Nat} (h:i < es.length):(decide (0≤(T.int (i:Int)).i)&&decide ((T.int (i:Int)).i.toNat < (T.sl es).es.length))=true:=by
 rw[Bool.and_eq_true];refine ⟨decide_eq_true ?_,decide_eq_true ?_⟩
 ·show (0:Int)≤i;omega
 ·show (i:Int).toNat < es.length;omega
theorem AM {n i:Nat} (h:i < n) (hn:n≤maxLen):T.int (IntKind.wrap .i64 ((T.int (i:Int)).i+(1:Int)))=T.int ((i+1:Nat):Int):=by
 rw[jZ] at hn;show T.int (IntKind.wrap .i64 ((i:Int)+1))=_
 rw[bf (by omega) (by omega)]
 rfl
section
variable {E:Env}
end
inductive EB (b:Nat):T→Prop
 | mk {s:ByteArray} {n:Int} {ps is:List T} : s.size≤maxLen→-9223372036854775808≤n→n≤9223372036854775807→ps.length≤b→is.length≤b→(∀x∈is,∃m:Int,x = .int m)→(∀x∈ps,EB b x)→
   EB b (.st [.str s,.int n,.sl ps,.sl is])
def tv (t:T):Prop:=∃s:ByteArray,t = .str s∧s.size≤maxLen
def DG (b:Nat) (t:T):Prop:=∃(a:Int) (fs:List T),t = .st [.int a,.sl fs]∧-9223372036854775808≤a∧a≤9223372036854775807∧fs.length≤b∧∀x∈fs,tv x
def yD (b:Nat) (t:T):Prop:=∃rs:List T,t = .sl rs∧rs.length≤b∧∀x∈rs,DG b x
def Eo (b:Nat) (t:T):Prop:=∃(o:Int) (v:T),t = .st [.int o,v]∧-9223372036854775808≤o∧o≤9223372036854775807∧EB b v
def BB:Nat:=1048576
theorem room {n:Nat} (h:n≤BB):(decide (0≤(n:Int))&&(decide ((n:Int)≤(n:Int))&&decide (n≤LIM)))=true:=by
 unfold BB at h;rw[Bool.and_eq_true,Bool.and_eq_true,decide_eq_true_eq,decide_eq_true_eq,decide_eq_true_eq];exact ⟨by omega,by omega,by unfold LIM;omega⟩
theorem DU {n:Nat} (h:n≤BB):n≤maxLen:=by rw[jZ];unfold BB at h;omega
def bU (s:ByteArray) (i:Nat):Nat:=(s.data.getD i 0).toNat
def O6 (s:ByteArray):Option (Nat × Nat):=
 if s.size=3∧bU s 0=83∧48≤bU s 1∧bU s 1≤57∧48≤bU s 2∧bU s 2≤57 then some (bU s 1 - 48,bU s 2 - 48) else none
def KJ:Option (Nat × Nat)→List T
 | none=>[.int 0,.int 0,.bool false]
 | some (i,j)=>[.int (i:Int),.int (j:Int),.bool true]
theorem wrap8 {n:Int} (h0:0≤n) (h1:n≤255):IntKind.wrap .u8 n=n:=by
 simp only[IntKind.wrap,IntKind.bits,IntKind.signed];have:n % 256=n:=by omega
 simpa using this
theorem digit {n:Nat} (h:48≤n) (h2:n≤57):IntKind.wrap .i64 (IntKind.wrap .u8 ((n:Int) - (48:Int)))=((n - 48:Nat):Int):=by
 rw[wrap8 (by omega) (by omega),bf (by omega) (by omega)];omega
theorem C3 (s:ByteArray):Yields (fun k=>oK (hl env k ii) (cl env k) (.str s)) (KJ (O6 s)):=by
 have no : ∀{x:Nat→R},¬(s.size=3∧bU s 0=83∧48≤bU s 1∧bU s 1≤57∧48≤bU s 2∧bU s 2≤57)→x=(fun _=>some [(T.int (0:Int)),(T.int (0:Int)),(T.bool false)])→Yields x (KJ (O6 s)):=by
  intro x h hx;subst hx;unfold O6;rw[if_neg h];exact Yields.some _
 by_cases hs:s.size=3
 ·have g : ∀i:Nat,i < 3→(decide (0≤(i:Int))&&decide (i < (T.str s).s.size))=true:=fun i hi=>by
   rw[Bool.and_eq_true];exact ⟨decide_eq_true (by omega),decide_eq_true (by show i < s.size;omega)⟩
  refine Yields.ff (by show (((s.size:Nat):Int) != 3)=false;rw[hs];rfl) (Yields.tt (g 0 (by omega)) (Yields.ite (fun h2=>no ?_ rfl) (fun h2=>Yields.tt (g 1 (by omega)) (Yields.ite (fun h3=>no ?_ rfl) (fun h3=>Yields.tt (g 1 (by omega)) (Yields.ite (fun h4=>no ?_ rfl) (fun h4=>Yields.tt (g 2 (by omega)) (Yields.ite (fun h5=>no ?_ rfl) (fun h5=>Yields.tt (g 2 (by omega)) (Yields.ite (fun h6=>no ?_ rfl) (fun h6=>Yields.tt (g 1 (by omega)) (Yields.tt (g 2 (by omega)) ?_))))))))))))
  all_goals simp only[bne_iff_ne,ne_eq,bne_eq_false_iff_eq,decide_eq_true_eq,decide_eq_false_iff_not] at *
  ·intro ⟨_,c,_⟩;unfold bU at c;exact h2 (by exact_mod_cast c)
  ·intro ⟨_,_,c,_⟩;unfold bU at c;have:((s.data.getD 1 0).toNat:Int) < 48:=h3;omega
  ·intro ⟨_,_,_,c,_⟩;unfold bU at c;have:((s.data.getD 1 0).toNat:Int) > 57:=h4;omega
  ·intro ⟨_,_,_,_,c,_⟩;unfold bU at c;have:((s.data.getD 2 0).toNat:Int) < 48:=h5;omega
  ·intro ⟨_,_,_,_,_,c⟩;unfold bU at c;have:((s.data.getD 2 0).toNat:Int) > 57:=h6;omega
  ·have e2:((s.data.getD 0 0).toNat:Int)=83:=h2
   have e3 : ¬((s.data.getD 1 0).toNat:Int) < 48:=h3
   have e4 : ¬((s.data.getD 1 0).toNat:Int) > 57:=h4
   have e5 : ¬((s.data.getD 2 0).toNat:Int) < 48:=h5
   have e6 : ¬((s.data.getD 2 0).toNat:Int) > 57:=h6
   have hk:O6 s=some (bU s 1 - 48,bU s 2 - 48):=by
    unfold O6;rw[if_pos ⟨hs,by unfold bU;omega,by unfold bU;omega,by unfold bU;omega,by unfold bU;omega,by unfold bU;omega⟩]
   rw[hk];have d1:IntKind.wrap .i64 (IntKind.wrap .u8 (((T.str s).s.data.getD 1 0).toNat - (48:Int)))=((bU s 1 - 48:Nat):Int):=digit (by omega) (by omega)
   have d2:IntKind.wrap .i64 (IntKind.wrap .u8 (((T.str s).s.data.getD 2 0).toNat - (48:Int)))=((bU s 2 - 48:Nat):Int):=digit (by omega) (by omega)
   rw[d1,d2];exact Yields.some _
 ·refine Yields.tt (bne_iff_ne.2 ?_) (no (fun h=>hs h.1) rfl)
  show ¬((s.size:Nat):Int)=3
  omega
theorem zl (s:ByteArray):Yields (fun k=>cl env k cU [.str s]) (KJ (O6 s)):=yp _ (C3 s)
theorem Nb (s:ByteArray):Yields (fun k=>cl env k Fu [.str s]) (KJ (O6 s)):=MY _ (C3 s)
theorem ma {s:ByteArray} {i j:Nat} (h:O6 s=some (i,j)):s.size=3∧bU s 0=83∧i≤9∧j≤9:=by
 unfold O6 at h;split at h
 ·rename_i hc
  simp only[Option.some.injEq,Prod.mk.injEq] at h;obtain ⟨rfl,rfl⟩:=h;exact ⟨hc.1,hc.2.1,by omega,by omega⟩
 ·cases h
def dw (s:ByteArray):Bool:=s.toList==(⟨#[110]⟩:ByteArray).toList||(s.toList==(⟨#[98]⟩:ByteArray).toList||s.toList==(⟨#[111]⟩:ByteArray).toList)
theorem base_s (s:ByteArray):Yields (fun k=>cl env k kU [.str s]) [.bool (dw s)]:=by
 refine yo _ (Yields.ite (fun h=>?_) (fun h=>Yields.ite (fun h2=>?_) (fun h2=>?_)))
 ·have:dw s=true:=by unfold dw;rw[show (s.toList==(⟨#[110]⟩:ByteArray).toList)=true from h];rfl
  rw[this];exact Yields.some _
 ·have:dw s=true:=by unfold dw;rw[show (s.toList==(⟨#[98]⟩:ByteArray).toList)=true from h2];simp
  rw[this];exact Yields.some _
 ·have:dw s=(s.toList==(⟨#[111]⟩:ByteArray).toList):=by
   unfold dw;rw[show (s.toList==(⟨#[110]⟩:ByteArray).toList)=false from h,show (s.toList==(⟨#[98]⟩:ByteArray).toList)=false from h2];simp
  rw[this];exact Yields.some _
theorem byte1 {s:ByteArray} {c:UInt8} (h:(s.toList==(⟨#[c]⟩:ByteArray).toList)=true):s.size=1∧bU s 0=c.toNat:=by
 rw[beq_iff_eq,ByteArray.toList_eq,ByteArray.toList_eq] at h;have hs:s=⟨#[c]⟩:=WideShapes.bytes_inj h
 subst hs;exact ⟨rfl,rfl⟩
theorem sG {s:ByteArray} (h:dw s=true):s.size=1∧(bU s 0=110∨bU s 0=98∨bU s 0=111):=by
 unfold dw at h;rw[Bool.or_eq_true,Bool.or_eq_true] at h;rcases h with h | h | h
 ·obtain ⟨a,b⟩:=byte1 h;exact ⟨a,.inl b⟩
 ·obtain ⟨a,b⟩:=byte1 h;exact ⟨a,.inr (.inl b)⟩
 ·obtain ⟨a,b⟩:=byte1 h;exact ⟨a,.inr (.inr b)⟩
theorem sF {s:ByteArray} (h:dw s=true):O6 s=none:=by
 cases hk:O6 s with
 | none=>rfl
 | some x=>
  obtain ⟨i,j⟩:=x;have:=(ma hk).1
  have:=(sG h).1
  omega
def lS (ks:List T) (i j:Nat):Bool:=decide (i < ks.length)&&decide (j < ((T.sl ks).nth i).es.length)
theorem KH (ks:List T) (i j:Nat):Yields (fun k=>cl env k mg [.sl ks,.int (i:Int),.int (j:Int)]) [.bool (lS ks i j)]:=by
 refine A0 _ _ _ ?_;by_cases h:i < ks.length
 ·refine Yields.tt (F2 h) (Yields.tt (pw h) ?_);have:lS ks i j=decide ((T.int (j:Int)).i < ((((T.sl ks).nth (T.int (i:Int)).i.toNat).es).length:Int)):=by
   unfold lS;rw[decide_eq_true h,Bool.true_and];show _=decide ((j:Int) < (((T.sl ks).nth ((i:Int).toNat)).es.length:Int))
   rw[Int.toNat_natCast];by_cases hj:j < ((T.sl ks).nth i).es.length
   ·rw[decide_eq_true hj,decide_eq_true (by omega)]
   ·rw[decide_eq_false hj,decide_eq_false (by omega)]
  rw[this];exact Yields.some _
 ·have:lS ks i j=false:=by unfold lS;rw[decide_eq_false h];rfl
  rw[this];exact Yields.ff (FH h) (Yields.some _)
def nQ (ks:List T) (s:ByteArray):Bool:=match O6 s with
 | some (i,j)=>lS ks i j
 | none=>false
theorem Jq (ks:List T) (s:ByteArray):Yields (fun k=>cl env k ER [.sl ks,.str s]) [.bool (nQ ks s)]:=by
 refine MZ _ _ (Yields.obind (Nb s) ?_);unfold nQ;cases hk:O6 s with
 | none=>exact Yields.ff rfl (Yields.some _)
 | some x=>
  obtain ⟨i,j⟩:=x;refine Yields.tt rfl ?_;simp only
  by_cases h:i < ks.length
  ·refine Yields.tt (F2 h) (Yields.tt (pw h) ?_);have:lS ks i j=decide ((T.int (j:Int)).i < ((((T.sl ks).nth (T.int (i:Int)).i.toNat).es).length:Int)):=by
    unfold lS;rw[decide_eq_true h,Bool.true_and];show _=decide ((j:Int) < (((T.sl ks).nth ((i:Int).toNat)).es.length:Int))
    rw[Int.toNat_natCast];by_cases hj:j < ((T.sl ks).nth i).es.length
    ·rw[decide_eq_true hj,decide_eq_true (by omega)]
    ·rw[decide_eq_false hj,decide_eq_false (by omega)]
   rw[this];exact Yields.some _
  ·have:lS ks i j=false:=by unfold lS;rw[decide_eq_false h];rfl
   rw[this];exact Yields.ff (FH h) (Yields.some _)
theorem JO (ks:List T) (s:ByteArray):Yields (fun k=>cl env k ET [.sl ks,.str s]) [.bool (dw s||nQ ks s)]:=by
 refine Mn _ _ (Yields.ite (fun h=>?_) (fun h=>Yields.ite (fun h2=>?_) (fun h2=>Yields.ite (fun h3=>?_) (fun h3=>?_))))
 ·have:dw s=true:=by unfold dw;rw[show (s.toList==(⟨#[110]⟩:ByteArray).toList)=true from h];rfl
  rw[this];exact Yields.some _
 ·have:dw s=true:=by unfold dw;rw[show (s.toList==(⟨#[98]⟩:ByteArray).toList)=true from h2];simp
  rw[this];exact Yields.some _
 ·have:dw s=true:=by unfold dw;rw[show (s.toList==(⟨#[111]⟩:ByteArray).toList)=true from h3];simp
  rw[this];exact Yields.some _
 ·have:dw s=false:=by
   unfold dw;rw[show (s.toList==(⟨#[110]⟩:ByteArray).toList)=false from h,show (s.toList==(⟨#[98]⟩:ByteArray).toList)=false from h2,show (s.toList==(⟨#[111]⟩:ByteArray).toList)=false from h3];rfl
  rw[this];exact Yields.obind (Jq ks s) (Yields.some _)
theorem wb {ks:List T} {s:ByteArray} (h:(dw s||nQ ks s)=true):0 < s.size∧bU s 0≠38∧bU s 0≠33:=by
 rw[Bool.or_eq_true] at h;rcases h with h | h
 ·obtain ⟨h1,h2⟩:=sG h;exact ⟨by omega,by omega,by omega⟩
 ·unfold nQ at h;split at h
  ·rename_i i j hk
   obtain ⟨h1,h2,_⟩:=ma hk;exact ⟨by omega,by omega,by omega⟩
  ·cases h
def tA (ks:List T) (s:ByteArray):T:=match O6 s with
 | some (i,j)=>(((T.sl ks).nth i).nth j).fld 0
 | none=>.int 7
theorem LH {s:ByteArray} : ((s.data.getD 0 0).toNat:Int)=(bU s 0:Int):=rfl
theorem ref_s {s:ByteArray} (h0:0 < s.size) (h1:bU s 0≠38) (h2:bU s 0≠33):Yields (fun k=>cl env k bO [.str s]) [.bool false]:=by
 refine tp _ (Yields.tt ?_ (Yields.tt ?_ (Yields.ff ?_ (Yields.tt ?_ ?_))))
 ·apply decide_eq_true;show (s.size:Int) > 0;omega
 ·rw[Bool.and_eq_true];exact ⟨rfl,decide_eq_true h0⟩
 ·show (((s.data.getD 0 0).toNat:Int)==38)=false
  rw[beq_eq_false_iff_ne,LH];omega
 ·rw[Bool.and_eq_true];exact ⟨rfl,decide_eq_true h0⟩
 ·have:((((T.str s).s.data.getD 0 0).toNat:Int)==33)=false:=by
   show (((s.data.getD 0 0).toNat:Int)==33)=false
   rw[beq_eq_false_iff_ne,LH];omega
  rw[this];exact Yields.some _
theorem rk {ks:List T} {i j:Nat} (h:lS ks i j=true):i < ks.length∧j < ((T.sl ks).nth i).es.length:=by
 unfold lS at h;rw[Bool.and_eq_true,decide_eq_true_eq,decide_eq_true_eq] at h;exact h
theorem JP {ks:List T} {i j:Nat} (h:j < ((T.sl ks).nth i).es.length):(decide (0≤(T.int (j:Int)).i)&&decide (((T.int (j:Int)).i).toNat < (((T.sl ks).nth ((T.int (i:Int)).i.toNat)).es).length))=true:=by
 rw[Bool.and_eq_true];refine ⟨decide_eq_true ?_,decide_eq_true ?_⟩
 ·show (0:Int)≤j;omega
 ·show (j:Int).toNat < (((T.sl ks).nth ((i:Int).toNat)).es).length
  rw[Int.toNat_natCast,Int.toNat_natCast];exact h
theorem Lw (ks:List T) (s:ByteArray) (h:(dw s||nQ ks s)=true):Yields (fun k=>cl env k eD [.sl ks,.str s]) [tA ks s]:=by
 obtain ⟨h0,h1,h2⟩:=wb h;refine se _ _ (Yields.obind (ref_s h0 h1 h2) (Yields.ff rfl (Yields.obind (ref_s h0 h1 h2) (Yields.ff rfl (Yields.obind (zl s) ?_)))));unfold tA;cases hk:O6 s with
 | none=>exact Yields.ff rfl (Yields.some _)
 | some x=>
  obtain ⟨i,j⟩:=x;have hh:lS ks i j=true:=by
   rw[Bool.or_eq_true] at h;rcases h with h | h
   ·rw[sF h] at hk;cases hk
   ·unfold nQ at h;rw[hk] at h;exact h
  obtain ⟨g1,g2⟩:=rk hh;refine Yields.tt rfl (Yields.tt (pw g1) (Yields.tt (JP g2) ?_));exact Yields.some _
theorem Ml (ks:List T) {s:ByteArray} {i j:Nat} (hk:O6 s=some (i,j)) (hh:lS ks i j=true):Yields (fun k=>cl env k F3 [.sl ks,.str s]) [((T.sl ks).nth i).nth j]:=by
 obtain ⟨g1,g2⟩:=rk hh;refine LY _ _ (Yields.obind (Nb s) ?_);rw[hk];exact Yields.tt (pw g1) (Yields.tt (JP g2) (Yields.some _))
theorem sign_i {s:ByteArray} (h0:0 < s.size) (h1:bU s 0≠38) (h2:bU s 0≠33):Yields (fun k=>cl env k IB [.str s]) [.str ⟨#[]⟩,.str s]:=by
 refine N0 _ (Yields.tt ?_ (Yields.tt ?_ (Yields.ff ?_ (Yields.tt ?_ (Yields.ff ?_ (Yields.some _))))))
 ·show (!(s.toList==(⟨#[]⟩:ByteArray).toList))=true
  rw[Bool.not_eq_true',beq_eq_false_iff_ne,ByteArray.toList_eq,ByteArray.toList_eq];intro he;have:s=⟨#[]⟩:=WideShapes.bytes_inj he
  subst this;exact absurd h0 (by decide)
 ·rw[Bool.and_eq_true];exact ⟨rfl,decide_eq_true h0⟩
 ·show (((s.data.getD 0 0).toNat:Int)==38)=false
  rw[beq_eq_false_iff_ne,LH];omega
 ·rw[Bool.and_eq_true];exact ⟨rfl,decide_eq_true h0⟩
 ·show (((s.data.getD 0 0).toNat:Int)==33)=false
  rw[beq_eq_false_iff_ne,LH];omega
theorem emp_ne (c:UInt8):((⟨#[]⟩:ByteArray).toList==(⟨#[c]⟩:ByteArray).toList)=false:=by
 rw[beq_eq_false_iff_ne,ByteArray.toList_eq,ByteArray.toList_eq];intro h;cases h
theorem able_i (ks:List T) (s:ByteArray) (h:(dw s||nQ ks s)=true):Yields (fun k=>cl env k Ft [.sl ks,.str s]) [tA ks s]:=by
 obtain ⟨h0,h1,h2⟩:=wb h;refine MX _ _ (Yields.obind (sign_i h0 h1 h2) (Yields.ff (emp_ne 38) (Yields.ff (emp_ne 33) (Yields.obind (Jq ks s) ?_))));unfold tA;cases hk:O6 s with
 | none=>
  have:nQ ks s=false:=by unfold nQ;rw[hk]
  rw[this];exact Yields.ff rfl (Yields.some _)
 | some x=>
  obtain ⟨i,j⟩:=x;have hh:lS ks i j=true:=by
   rw[Bool.or_eq_true] at h;rcases h with h | h
   ·rw[sF h] at hk;cases hk
   ·unfold nQ at h;rw[hk] at h;exact h
  have:nQ ks s=true:=by unfold nQ;rw[hk];exact hh
  rw[this];exact Yields.tt rfl (Yields.obind (Ml ks hk hh) (Yields.some _))
def eV (ks:List T) (m k:Nat) (s:ByteArray):Bool:=match O6 s with
 | none=>dw s
 | some (i,j)=>lS ks i j&&(decide (i < m)||(decide (i=m)&&decide (j < k)))
theorem vZ (a b:Nat):decide ((T.int (a:Int)).i < (T.int (b:Int)).i)=decide (a < b):=by
 show decide ((a:Int) < (b:Int))=decide (a < b)
 by_cases h:a < b
 ·rw[decide_eq_true h,decide_eq_true (by omega)]
 ·rw[decide_eq_false h,decide_eq_false (by omega)]
theorem Km (a b:Nat):((T.int (a:Int)).i==(T.int (b:Int)).i)=decide (a=b):=by
 show ((a:Int)==(b:Int))=decide (a=b)
 by_cases h:a=b
 ·subst h;simp
 ·rw[decide_eq_false h,beq_eq_false_iff_ne];omega
theorem Nq (ks:List T) (m k:Nat) (s:ByteArray):Yields (fun r=>cl env r kh [.sl ks,.int (m:Int),.int (k:Int),.str s]) [.bool (eV ks m k s)]:=by
 refine xl _ _ _ _ (Yields.obind (zl s) ?_);unfold eV;cases hk:O6 s with
 | none=>exact Yields.tt rfl (Yields.obind (base_s s) (Yields.some _))
 | some x=>
  obtain ⟨i,j⟩:=x;refine Yields.ff rfl (Yields.obind (KH ks i j) ?_);simp only
  cases hh:lS ks i j with
  | false=>exact Yields.ff rfl (Yields.some _)
  | true=>
   refine Yields.tt rfl ?_;refine Yields.ite (fun h=>?_) (fun h=>Yields.ite (fun h2=>?_) (fun h2=>?_))
   ·have h':decide (i < m)=true:=by rw[← vZ];exact h
    rw[h'];exact Yields.some _
   ·have h':decide (i < m)=false:=by rw[← vZ];exact h
    have h2':decide (i=m)=true:=by rw[← Km];exact h2
    rw[h',h2',Bool.true_and,Bool.false_or,Bool.true_and,← vZ];exact Yields.some _
   ·have h':decide (i < m)=false:=by rw[← vZ];exact h
    have h2':decide (i=m)=false:=by rw[← Km];exact h2
    rw[h',h2'];exact Yields.some _
theorem o7 {ks:List T} {m k:Nat} {s:ByteArray} (h:eV ks m k s=true):(dw s||nQ ks s)=true:=by
 unfold eV at h;unfold nQ;cases hk:O6 s with
 | none=>rw[hk] at h;simp only at h;rw[h];rfl
 | some x=>
  obtain ⟨i,j⟩:=x;rw[hk] at h;simp only[Bool.and_eq_true] at h;simp only[h.1,Bool.or_true]
def FT (a f:Int):Bool:=
 !((a.tdiv 1).tmod 2==1 && !((f.tdiv 1).tmod 2==1))&&(!((a.tdiv 2).tmod 2==1 && !((f.tdiv 2).tmod 2==1)) && !(decide (a≥4) && !((f.tdiv 4).tmod 2==1)))
def G5 (x y:Int):Int:=IntKind.wrap .i64 ((BitVec.ofInt (IntKind.i64).bits x &&& BitVec.ofInt (IntKind.i64).bits y).toNat:Nat)
def IY (x y:Int):Int:=IntKind.wrap .i64 ((BitVec.ofInt (IntKind.i64).bits x &&& ~~~ BitVec.ofInt (IntKind.i64).bits y).toNat:Nat)
def stepI (a f:Int):Bool:=!(IY (G5 a 7) f != 0) && !((G5 a 8 != 0)&&(G5 f 4==0))
theorem step_fin : ∀(a f:Fin 16),stepI (a.val:Int) (f.val:Int)=FT (a.val:Int) (f.val:Int):=by decide +kernel
theorem step_eq {a f:Int} (h0:0≤a) (h1:a≤15) (h2:0≤f) (h3:f≤15):stepI a f=FT a f:=by
 have:=step_fin ⟨a.toNat,by omega⟩ ⟨f.toNat,by omega⟩
 simp only at this
 rwa [Int.toNat_of_nonneg h0,Int.toNat_of_nonneg h2] at this
theorem JV (a:Int) (p:Int) (ha:0≤a∧a≤15) (hp:p=1∨p=2∨p=4∨p=8):Yields (fun k=>cl env k bH [.int a,.int p]) [.bool ((a.tdiv p).tmod 2==1)]:=by
 have hw:IntKind.wrap .i64 (a.tdiv p)=a.tdiv p:=by
  have h1:0≤a.tdiv p:=Int.tdiv_nonneg ha.1 (by omega)
  have h2:a.tdiv p≤a:=by rw[Int.tdiv_eq_ediv_of_nonneg ha.1];exact Int.ediv_le_self _ ha.1
  exact bf (by omega) (by omega)
 refine zZ _ _ (Yields.tt ?_ (Yields.tt rfl ?_))
 ·rcases hp with rfl | rfl | rfl | rfl <;> rfl
 ·show Yields (fun _=>some [T.bool (((IntKind.wrap .i64 (a.tdiv p)).tmod 2)==1)]) _
  rw[hw];exact Yields.some _
theorem tail_s {a f:Int} (ha:0≤a∧a≤15) (hf:0≤f∧f≤15) {N:Nat→R} {r:List T} (no:FT a f=false→r = [.bool false]) (yes:FT a f=true→Yields N r) :
  Yields (fun k=>obind (cl env k bH [(T.int a),(T.int (1:Int))]) fun r3=>
    bif (rt r3 0).b then
     obind (cl env k bH [(T.int f),(T.int (1:Int))]) fun r4=>
     bif (!(rt r4 0).b) then
      some [(T.bool false)]
     else
      obind (cl env k bH [(T.int a),(T.int (2:Int))]) fun r5=>
      bif (rt r5 0).b then
       obind (cl env k bH [(T.int f),(T.int (2:Int))]) fun r6=>
       bif (!(rt r6 0).b) then
        some [(T.bool false)]
       else
        bif (decide (a≥(4:Int))) then
         obind (cl env k bH [(T.int f),(T.int (4:Int))]) fun r7=>
         bif (!(rt r7 0).b) then
          some [(T.bool false)]
         else
          N k
        else
         N k
      else
       bif (decide (a≥(4:Int))) then
        obind (cl env k bH [(T.int f),(T.int (4:Int))]) fun r6=>
        bif (!(rt r6 0).b) then
         some [(T.bool false)]
        else
         N k
       else
        N k
    else
     obind (cl env k bH [(T.int a),(T.int (2:Int))]) fun r4=>
     bif (rt r4 0).b then
      obind (cl env k bH [(T.int f),(T.int (2:Int))]) fun r5=>
      bif (!(rt r5 0).b) then
       some [(T.bool false)]
      else
       bif (decide (a≥(4:Int))) then
        obind (cl env k bH [(T.int f),(T.int (4:Int))]) fun r6=>
        bif (!(rt r6 0).b) then
         some [(T.bool false)]
        else
         N k
       else
        N k
     else
      bif (decide (a≥(4:Int))) then
       obind (cl env k bH [(T.int f),(T.int (4:Int))]) fun r5=>
       bif (!(rt r5 0).b) then
        some [(T.bool false)]
       else
        N k
      else
       N k) r:=by
 have p1:(1:Int)=1∨(1:Int)=2∨(1:Int)=4∨(1:Int)=8:=.inl rfl
 have p2:(2:Int)=1∨(2:Int)=2∨(2:Int)=4∨(2:Int)=8:=.inr (.inl rfl)
 have p4:(4:Int)=1∨(4:Int)=2∨(4:Int)=4∨(4:Int)=8:=.inr (.inr (.inl rfl))
 unfold FT at no yes;generalize hc1:((a.tdiv 1).tmod 2==1)=c1 at no yes
 generalize hc2:((a.tdiv 2).tmod 2==1)=c2 at no yes
 generalize hd1:((f.tdiv 1).tmod 2==1)=d1 at no yes
 generalize hd2:((f.tdiv 2).tmod 2==1)=d2 at no yes
 generalize hd4:((f.tdiv 4).tmod 2==1)=d4 at no yes
 generalize hc4:decide (a≥4)=c4 at no yes
 have a1:=JV a 1 ha p1;have a2:=JV a 2 ha p2;have f1:=JV f 1 hf p1;have f2:=JV f 2 hf p2;have f4:=JV f 4 hf p4;rw[hc1] at a1;rw[hc2] at a2;rw[hd1] at f1;rw[hd2] at f2;rw[hd4] at f4;have nn : ∀{x:Nat→R},x=(fun _=>some [(T.bool false)])→r = [.bool false]→Yields x r:=fun hx hr=>by subst hx;subst hr;exact Yields.some _
 have last:(c1 && !d1)=false→(c2 && !d2)=false→Yields (fun k=>bif c4 then obind (cl env k bH [(T.int f),(T.int (4:Int))]) fun r5=>
       bif (!(rt r5 0).b) then
        some [(T.bool false)]
       else
        N k
      else
       N k) r:=by
  intro h1 h2;cases c4 with
  | false=>exact yes (by rw[h1,h2];rfl)
  | true=>
   refine Yields.tt rfl (Yields.obind f4 ?_);cases d4 with
   | false=>exact Yields.tt rfl (nn rfl (no (by rw[h1,h2];rfl)))
   | true=>exact Yields.ff rfl (yes (by rw[h1,h2];rfl))
 cases c1 with
 | true=>
  refine Yields.obind a1 (Yields.tt rfl (Yields.obind f1 ?_));cases d1 with
  | false=>exact Yields.tt rfl (nn rfl (no rfl))
  | true=>
   refine Yields.ff rfl (Yields.obind a2 ?_);cases c2 with
   | true=>
    refine Yields.tt rfl (Yields.obind f2 ?_);cases d2 with
    | false=>exact Yields.tt rfl (nn rfl (no rfl))
    | true=>exact Yields.ff rfl (last rfl rfl)
   | false=>exact Yields.ff rfl (last rfl rfl)
 | false=>
  refine Yields.obind a1 (Yields.ff rfl (Yields.obind a2 ?_));cases c2 with
  | true=>
   refine Yields.tt rfl (Yields.obind f2 ?_);cases d2 with
   | false=>exact Yields.tt rfl (nn rfl (no rfl))
   | true=>exact Yields.ff rfl (last rfl rfl)
  | false=>exact Yields.ff rfl (last rfl rfl)
theorem Ng {ks:List T} {s:ByteArray} {a f:Int} (ha:0≤a∧a≤15) (hp:(dw s||nQ ks s)=true→tA ks s = .int f∧0≤f∧f≤15) {N:Nat→R} {r:List T}
  (no1:(dw s||nQ ks s)=false→r = [.bool false]) (no:(dw s||nQ ks s)=true→FT a f=false→r = [.bool false]) (yes:(dw s||nQ ks s)=true→FT a f=true→Yields N r) :
  Yields (fun k=>obind (cl env k ET [.sl ks,.str s]) fun r2=>
    bif (!(rt r2 0).b) then
     some [(T.bool false)]
    else
     obind (cl env k Ft [.sl ks,.str s]) fun r3=>
     bif (IY (G5 a 7) (rt r3 0).i != (0:Int)) then
      some [(T.bool false)]
     else
      bif (G5 a 8 != (0:Int)) then
       bif (G5 (rt r3 0).i 4==(0:Int)) then
        some [(T.bool false)]
       else
        N k
      else
       N k) r:=by
 have nn : ∀{x:Nat→R},x=(fun _=>some [(T.bool false)])→r = [.bool false]→Yields x r:=fun hx hr=>by subst hx;subst hr;exact Yields.some _
 refine Yields.obind (JO ks s) ?_;cases hpl:(dw s||nQ ks s) with
 | false=>exact Yields.tt rfl (nn rfl (no1 hpl))
 | true=>
  obtain ⟨h1,h2⟩:=hp hpl;have hab:=able_i ks s hpl;rw[h1] at hab;refine Yields.ff rfl (Yields.obind hab ?_);have hst:=step_eq ha.1 ha.2 h2.1 h2.2;unfold stepI at hst;refine Yields.ite (fun e1=>nn rfl (no hpl ?_)) (fun e1=>Yields.ite (fun e2=>Yields.ite (fun e3=>nn rfl (no hpl ?_)) (fun e3=>yes hpl ?_)) (fun e2=>yes hpl ?_))
  ·rw[← hst,show (IY (G5 a 7) f != 0)=true from e1];rfl
  ·rw[← hst,show (IY (G5 a 7) f != 0)=false from e1,show (G5 a 8 != 0)=true from e2,show (G5 f 4==0)=true from e3];rfl
  ·rw[← hst,show (IY (G5 a 7) f != 0)=false from e1,show (G5 a 8 != 0)=true from e2,show (G5 f 4==0)=false from e3];rfl
  ·rw[← hst,show (IY (G5 a 7) f != 0)=false from e1,show (G5 a 8 != 0)=false from e2];rfl
def v8 (ks:List T) (m k:Nat):Prop:=∀i j,(i < m∨(i=m∧j < k))→i < ks.length→j < ((T.sl ks).nth i).es.length→∃a:Int,(((T.sl ks).nth i).nth j).fld 0 = .int a∧0≤a∧a≤15
theorem Be {ks:List T} {m k:Nat} {s:ByteArray} (he:v8 ks m k) (h:eV ks m k s=true) : ∃f:Int,tA ks s = .int f∧0≤f∧f≤15:=by
 unfold eV at h;unfold tA;cases hk:O6 s with
 | none=>exact ⟨7,rfl,by omega,by omega⟩
 | some x=>
  obtain ⟨i,j⟩:=x;rw[hk] at h;simp only[Bool.and_eq_true,Bool.or_eq_true,decide_eq_true_eq] at h;obtain ⟨g1,g2⟩:=rk h.1;exact he i j h.2 g1 g2
theorem Ni {ks:List T} {m k:Nat} {a:Int} {fs:List T} (he:v8 ks m k) (ha:0≤a∧a≤15) (hl:fs.length≤maxLen) (hs : ∀x∈fs,tv x) :
  ∃b,Yields (fun r=>bQ (Ra.hl env r bV) (.sl ks) (.int (m:Int)) (.int (k:Int)) (.int 0) (.st [.int a,.sl fs])) [.bool b]∧
   Yields (fun r=>Ef (Ra.hl env r Eb) (.sl ks) (.int (m:Int)) (.int (k:Int)) (.sl fs) (.int (fs.length:Int)) (.int 0) (.st [.int a,.sl fs])) [.bool b]:=by
 have key : ∀(n i:Nat),i+n=fs.length→∃b,Yields (fun r=>bQ (Ra.hl env r bV) (.sl ks) (.int (m:Int)) (.int (k:Int)) (.int (i:Int)) (.st [.int a,.sl fs])) [.bool b]∧
   Yields (fun r=>Ef (Ra.hl env r Eb) (.sl ks) (.int (m:Int)) (.int (k:Int)) (.sl fs) (.int (fs.length:Int)) (.int (i:Int)) (.st [.int a,.sl fs])) [.bool b]:=by
  intro n;induction n with
  | zero=>
   intro i hi;refine ⟨true,pg _ _ _ _ _ (Yields.ff (FH (by omega)) (Yields.some _)),IU _ _ _ _ _ _ _ (Yields.ff ?_ (Yields.some _))⟩
   rw[vZ];exact decide_eq_false (by omega)
  | succ n ih=>
   intro i hi;have hlt:i < fs.length:=by omega
   obtain ⟨b,y1,y2⟩:=ih (i+1) (by omega)
   obtain ⟨s,hs1,hs2⟩:=hs _ (List.getElem_mem hlt);have hnth:((T.sl fs).nth (T.int (i:Int)).i.toNat) = .str s:=by rw[vQ hlt,hs1]
   have hnx:=AM hlt hl;have c1:decide ((T.int (i:Int)).i < (T.int (fs.length:Int)).i)=true:=by rw[vZ];exact decide_eq_true hlt
   have spec : ∀b',(eV ks m k s=false→b'=false)→(∀f,eV ks m k s=true→tA ks s = .int f→0≤f→f≤15→(FT a f=false→b'=false)∧(FT a f=true→b'=b))→
     Yields (fun r=>bQ (Ra.hl env r bV) (.sl ks) (.int (m:Int)) (.int (k:Int)) (.int (i:Int)) (.st [.int a,.sl fs])) [.bool b']:=by
    intro b' q1 q2;refine pg _ _ _ _ _ (Yields.tt (F2 hlt) (Yields.tt (pw hlt) ?_));have hf:=Nq ks m k s;rw[← hnth] at hf;refine Yields.obind hf ?_;cases hfb:eV ks m k s with
    | false=>
     rw[q1 hfb];exact Yields.tt rfl (Yields.some _)
    | true=>
     obtain ⟨f,hf1,hf2,hf3⟩:=Be he hfb;obtain ⟨q3,q4⟩:=q2 f hfb hf1 hf2 hf3;have hab:=Lw ks s (o7 hfb);rw[hf1,← hnth] at hab;refine Yields.ff rfl (Yields.obind hab ?_);refine tail_s ha ⟨hf2,hf3⟩ (N:=fun r=>bQ (Ra.hl env r bV) (.sl ks) (.int (m:Int)) (.int (k:Int)) (T.int (IntKind.wrap .i64 ((T.int (i:Int)).i+(1:Int)))) (.st [.int a,.sl fs]))
      (fun h=>by rw[q3 h]) fun h=>?_
     rw[q4 h,hnx];exact y1
   have impl : ∀b',(eV ks m k s=false→b'=false)→(∀f,eV ks m k s=true→tA ks s = .int f→0≤f→f≤15→(FT a f=false→b'=false)∧(FT a f=true→b'=b))→
     Yields (fun r=>Ef (Ra.hl env r Eb) (.sl ks) (.int (m:Int)) (.int (k:Int)) (.sl fs) (.int (fs.length:Int)) (.int (i:Int)) (.st [.int a,.sl fs])) [.bool b']:=by
    intro b' q1 q2;refine IU _ _ _ _ _ _ _ (Yields.tt c1 (Yields.tt (pw hlt) ?_));rw[hnth,hnx];have tail:(eV ks m k s=(dw s||nQ ks s))→∀{Z:Nat→R},(∀{f:Int},((dw s||nQ ks s)=true→tA ks s = .int f∧0≤f∧f≤15)→((dw s||nQ ks s)=false→b'=false)→((dw s||nQ ks s)=true→FT a f=false→b'=false)→
      ((dw s||nQ ks s)=true→FT a f=true→Yields (fun r=>Ef (Ra.hl env r Eb) (.sl ks) (.int (m:Int)) (.int (k:Int)) (.sl fs) (.int (fs.length:Int)) (.int ((i+1:Nat):Int)) (.st [.int a,.sl fs])) [.bool b'])→Yields Z [.bool b'])→Yields Z [.bool b']:=by
     intro heq Z hz;cases hpl:(dw s||nQ ks s) with
     | false=>exact hz (f:=0) (fun h=>by rw[hpl] at h;cases h) (fun _=>q1 (by rw[heq,hpl])) (fun h=>by rw[hpl] at h;cases h) (fun h=>by rw[hpl] at h;cases h)
     | true=>
      have hfb:eV ks m k s=true:=by rw[heq,hpl]
      obtain ⟨f,hf1,hf2,hf3⟩:=Be he hfb;obtain ⟨q3,q4⟩:=q2 f hfb hf1 hf2 hf3;exact hz (f:=f) (fun _=>⟨hf1,hf2,hf3⟩) (fun h=>by rw[hpl] at h;cases h) (fun _ h=>q3 h) (fun _ h=>by rw[q4 h];exact y2)
    refine Yields.obind (Nb s) ?_;cases hk:O6 s with
    | none=>
     refine Yields.ff rfl (tail (by unfold eV nQ;rw[hk];simp) fun {f} g1 g2 g3 g4=>?_)
     exact Ng ha g1 (fun h=>by rw[g2 h]) (fun h1 h2=>by rw[g3 h1 h2]) g4
    | some x=>
     obtain ⟨u,v⟩:=x;have hnb:dw s=false:=by
      cases hb:dw s with
      | false=>rfl
      | true=>rw[sF hb] at hk;cases hk
     refine Yields.tt rfl (Yields.ite (fun e1=>?_) (fun e1=>Yields.ite (fun e2=>Yields.ite (fun e3=>?_) (fun e3=>?_)) (fun e2=>?_)))
     ·have e1':(u:Int) > (m:Int):=of_decide_eq_true e1
      rw[q1 (by unfold eV;rw[hk];simp only;rw[show decide (u < m)=false from decide_eq_false (by omega),show decide (u=m)=false from decide_eq_false (by omega)];simp)]
      exact Yields.some _
     ·have e3':(v:Int)≥(k:Int):=of_decide_eq_true e3
      have e2':u=m:=by
       have:decide (u=m)=true:=by rw[← Km];exact e2
       exact of_decide_eq_true this
      rw[q1 (by unfold eV;rw[hk];simp only;rw[show decide (u < m)=false from decide_eq_false (by omega),show decide (v < k)=false from decide_eq_false (by omega)];simp)]
      exact Yields.some _
     ·have e3' : ¬(v:Int)≥(k:Int):=of_decide_eq_false e3
      have e2':u=m:=by
       have:decide (u=m)=true:=by rw[← Km];exact e2
       exact of_decide_eq_true this
      refine tail (by unfold eV nQ;rw[hk,hnb];simp only;rw[show decide (u=m)=true from decide_eq_true e2',show decide (v < k)=true from decide_eq_true (by omega)];simp) fun {f} g1 g2 g3 g4=>?_
      exact Ng ha g1 (fun h=>by rw[g2 h]) (fun h1 h2=>by rw[g3 h1 h2]) g4
     ·have e1' : ¬(u:Int) > (m:Int):=of_decide_eq_false e1
      have e2' : ¬u=m:=by
       have:decide (u=m)=false:=by rw[← Km];exact e2
       exact of_decide_eq_false this
      refine tail (by unfold eV nQ;rw[hk,hnb];simp only;rw[show decide (u < m)=true from decide_eq_true (by omega)];simp) fun {f} g1 g2 g3 g4=>?_
      exact Ng ha g1 (fun h=>by rw[g2 h]) (fun h1 h2=>by rw[g3 h1 h2]) g4
   cases hfb:eV ks m k s with
   | false=>exact ⟨false,spec false (fun _=>rfl) (fun f h=>by rw[hfb] at h;cases h),impl false (fun _=>rfl) (fun f h=>by rw[hfb] at h;cases h)⟩
   | true=>
    obtain ⟨f,hf1,hf2,hf3⟩:=Be he hfb;have one : ∀f',tA ks s = .int f'→f'=f:=fun f' h=>by rw[hf1] at h;cases h;rfl
    cases hst:FT a f with
    | false=>
     have q : ∀f',eV ks m k s=true→tA ks s = .int f'→0≤f'→f'≤15→(FT a f'=false→false=false)∧(FT a f'=true→false=b):=fun f' _ h _ _=>by
      have:=one f' h;subst this;exact ⟨fun _=>rfl,fun h=>by rw[hst] at h;cases h⟩
     exact ⟨false,spec false (fun _=>rfl) q,impl false (fun _=>rfl) q⟩
    | true=>
     have q : ∀f',eV ks m k s=true→tA ks s = .int f'→0≤f'→f'≤15→(FT a f'=false→b=false)∧(FT a f'=true→b=b):=fun f' _ h _ _=>by
      have:=one f' h;subst this;exact ⟨(fun h=>by rw[hst] at h;cases h),fun _=>rfl⟩
     exact ⟨b,spec b (fun h=>by rw[hfb] at h;cases h) q,impl b (fun h=>by rw[hfb] at h;cases h) q⟩
 exact key fs.length 0 (by omega)
theorem Vo (x lo hi:Int):Yields (fun k=>cl env k dZ [.int x,.int lo,.int hi]) [.bool (decide (x≥lo)&&decide (x≤hi))]:=by
 refine Ak _ _ _ (Yields.ite (fun h=>?_) (fun h=>?_))
 ·rw[show decide (x≥lo)=true from h,Bool.true_and];exact Yields.some _
 ·rw[show decide (x≥lo)=false from h,Bool.false_and];exact Yields.some _
section
variable {ks:List T} {b:Nat}
theorem Mx (hk : ∀x∈ks,yD b x) {m k:Nat} (hm:m < ks.length) (hkk:k < ((T.sl ks).nth m).es.length) : ∃(a:Int) (fs:List T),((T.sl ks).nth m).nth k = .st [.int a,.sl fs]∧fs.length≤b∧∀x∈fs,tv x:=by
 obtain ⟨rs,h1,h2,h3⟩:=hk _ (List.getElem_mem hm);rw[bh hm,h1] at hkk ⊢;have hkr:k < rs.length:=hkk
 rw[bh hkr];obtain ⟨a,fs,e1,_,_,e2,e3⟩:=h3 _ (List.getElem_mem hkr);exact ⟨a,fs,e1,e2,e3⟩
theorem rec_same (hk : ∀x∈ks,yD b x) (hb:b≤maxLen) {m k:Nat} (hm:m < ks.length) (hkk:k < ((T.sl ks).nth m).es.length) (he:v8 ks m k) :
  ∃c,Yields (fun r=>cl env r mh [.sl ks,.int (m:Int),.int (k:Int)]) [.bool c]∧Yields (fun r=>cl env r GF [.sl ks,.int (m:Int),.int (k:Int)]) [.bool c]∧
   (c=true→∃a:Int,(((T.sl ks).nth m).nth k).fld 0 = .int a∧0≤a∧a≤15):=by
 obtain ⟨a,fs,hr,hf1,hf2⟩:=Mx hk hm hkk;have hrec:((T.sl ks).nth (T.int (m:Int)).i.toNat).nth ((T.int (k:Int)).i.toNat) = .st [.int a,.sl fs]:=by
  show ((T.sl ks).nth ((m:Int).toNat)).nth ((k:Int).toNat)=_
  rw[Int.toNat_natCast,Int.toNat_natCast];exact hr
 have spec : ∀{c:Bool} {Z:Nat→R},((decide (a≥0)&&decide (a≤15))=false→c=false)→((decide (a≥0)&&decide (a≤15))=true→(fs.length:Int) > 3→c=false)→
   ((decide (a≥0)&&decide (a≤15))=true→¬(fs.length:Int) > 3→Yields (fun r=>bQ (Ra.hl env r bV) (.sl ks) (.int (m:Int)) (.int (k:Int)) (.int 0) (.st [.int a,.sl fs])) [.bool c])→
   Yields (fun r=>cl env r mh [.sl ks,.int (m:Int),.int (k:Int)]) [.bool c]:=by
  intro c Z h1 h2 h3;refine wv _ _ _ (Yields.tt (pw hm) (Yields.tt (JP hkk) ?_));rw[hrec];refine Yields.obind (Vo a 0 15) ?_;cases hin:(decide (a≥0)&&decide (a≤15)) with
  | false=>rw[h1 hin];exact Yields.tt rfl (Yields.some _)
  | true=>
   refine Yields.ff rfl (Yields.ite (fun e=>?_) (fun e=>h3 hin (of_decide_eq_false e)))
   rw[h2 hin (of_decide_eq_true e)];exact Yields.some _
 have impl : ∀{c:Bool} {Z:Nat→R},((decide (a≥0)&&decide (a≤15))=false→c=false)→((decide (a≥0)&&decide (a≤15))=true→(fs.length:Int) > 3→c=false)→
   ((decide (a≥0)&&decide (a≤15))=true→¬(fs.length:Int) > 3→Yields (fun r=>Ef (Ra.hl env r Eb) (.sl ks) (.int (m:Int)) (.int (k:Int)) (.sl fs) (.int (fs.length:Int)) (.int 0) (.st [.int a,.sl fs])) [.bool c])→
   Yields (fun r=>cl env r GF [.sl ks,.int (m:Int),.int (k:Int)]) [.bool c]:=by
  intro c Z h1 h2 h3;refine LZ _ _ _ (Yields.tt (pw hm) (Yields.tt (JP hkk) ?_));rw[hrec];refine Yields.ite (fun e=>?_) (fun e=>Yields.ite (fun e2=>?_) (fun e2=>?_))
  ·have e':a < 0:=of_decide_eq_true e
   rw[h1 (by rw[decide_eq_false (by omega : ¬a≥0)];rfl)];exact Yields.some _
  ·have e':a > 15:=of_decide_eq_true e2
   rw[h1 (by rw[decide_eq_false (by omega : ¬a≤15),Bool.and_false])];exact Yields.some _
  ·have e1' : ¬a < 0:=of_decide_eq_false e
   have e2' : ¬a > 15:=of_decide_eq_false e2
   have hin:(decide (a≥0)&&decide (a≤15))=true:=by rw[decide_eq_true (by omega:a≥0),decide_eq_true (by omega:a≤15)];rfl
   refine Yields.ite (fun e3=>?_) (fun e3=>h3 hin (of_decide_eq_false e3))
   rw[h2 hin (of_decide_eq_true e3)];exact Yields.some _
 have hfld:(((T.sl ks).nth m).nth k).fld 0 = .int a:=by rw[hr];rfl
 cases hin:(decide (a≥0)&&decide (a≤15)) with
 | false=>exact ⟨false,spec (Z:=fun _=>none) (fun _=>rfl) (fun h=>by rw[hin] at h;cases h) (fun h=>by rw[hin] at h;cases h),impl (Z:=fun _=>none) (fun _=>rfl) (fun h=>by rw[hin] at h;cases h) (fun h=>by rw[hin] at h;cases h),fun h=>by cases h⟩
 | true=>
  have hr2:0≤a∧a≤15:=by rw[Bool.and_eq_true,decide_eq_true_eq,decide_eq_true_eq] at hin;exact ⟨hin.1,hin.2⟩
  by_cases h3:(fs.length:Int) > 3
  ·exact ⟨false,spec (Z:=fun _=>none) (fun _=>rfl) (fun _ _=>rfl) (fun _ h=>absurd h3 h),impl (Z:=fun _=>none) (fun _=>rfl) (fun _ _=>rfl) (fun _ h=>absurd h3 h),fun h=>by cases h⟩
  ·obtain ⟨c,y1,y2⟩:=Ni he hr2 (Nat.le_trans hf1 hb) hf2;exact ⟨c,spec (Z:=fun _=>none) (fun h=>by rw[hin] at h;cases h) (fun _ h=>absurd h h3) (fun _ _=>y1),impl (Z:=fun _=>none) (fun h=>by rw[hin] at h;cases h) (fun _ h=>absurd h h3) (fun _ _=>y2),fun _=>⟨a,hfld,hr2⟩⟩
def Ir (ks:List T) (m:Nat):Prop:=∀i,i < m→i < ks.length→((T.sl ks).nth i).es.length≤3
def KRes (ks:List T) (r:List T):Prop:=∃p q:Int,r = [.int p,.int q]∧((p = -1∧v8 ks ks.length 0∧Ir ks ks.length)∨0≤p)
theorem Ny (hk : ∀x∈ks,yD b x) (hb:b≤maxLen) (hl:ks.length≤b) : ∀(n m:Nat),m+n=ks.length→v8 ks m 0→Ir ks m→
  ∃r,KRes ks r∧Yields (fun k=>fw (Ra.hl env k bw) (.sl ks) (.int (m:Int))) r∧
   Yields (fun k=>G8 (Ra.hl env k Ed) (.sl ks) (.sl ks) (.int (ks.length:Int)) (.int (m:Int))) r:=by
 intro n;induction n with
 | zero=>
  intro m hm he hsm;have hmk:m=ks.length:=by omega
  subst hmk;refine ⟨[.int (-1),.int (-1)],⟨-1,-1,rfl,.inl ⟨rfl,he,hsm⟩⟩,pc _ _ (Yields.ff (FH (by omega)) (Yields.some _)),Ho _ _ _ _ (Yields.ff ?_ (Yields.some _))⟩
  rw[vZ];exact decide_eq_false (by omega)
 | succ n ih=>
  intro m hm he hsm;have hlt:m < ks.length:=by omega
  obtain ⟨rs,hrs,hrl,hrr⟩:=hk _ (List.getElem_mem hlt);have hnth:((T.sl ks).nth (T.int (m:Int)).i.toNat) = .sl rs:=by rw[vQ hlt,hrs]
  have hnth':((T.sl ks).nth m) = .sl rs:=by rw[bh hlt,hrs]
  have c1:decide ((T.int (m:Int)).i < (T.int (ks.length:Int)).i)=true:=by rw[vZ];exact decide_eq_true hlt
  have hnx:=AM hlt (Nat.le_trans hl hb);have inner:rs.length≤3→∀(n' k:Nat),k+n'=rs.length→v8 ks m k→
    ∃r,KRes ks r∧Yields (fun r=>gX (Ra.hl env r bw) (.sl ks) (.int (m:Int)) (.int (k:Int))) r∧
     Yields (fun r=>G9 (Ra.hl env r Ed) (.sl ks) (.int (m:Int)) (.sl ks) (.int (ks.length:Int)) (.int (m:Int)) (.int (rs.length:Int)) (.int (k:Int))) r:=by
   intro h3 n';have hsm':Ir ks (m+1):=fun i hi hi2=>by
    by_cases him:i < m
    ·exact hsm i him hi2
    ·have:i=m:=by omega
     subst this;rw[hnth'];exact h3
   induction n' with
   | zero=>
    intro k hkr hek;have hkk:k=rs.length:=by omega
    subst hkk;have he':v8 ks (m+1) 0:=by
     intro i j hij hi hj;rcases hij with h | ⟨_,h⟩
     ·by_cases him:i < m
      ·exact he i j (.inl him) hi hj
      ·have:i=m:=by omega
       subst this;rw[hnth'] at hj;exact hek i j (.inr ⟨rfl,hj⟩) hi (by rw[hnth'];exact hj)
     ·omega
    obtain ⟨r,r1,y1,y2⟩:=ih (m+1) (by omega) he' hsm'
    refine ⟨r,r1,pf _ _ _ (Yields.tt (pw hlt) (Yields.ff ?_ ?_)),Hp _ _ _ _ _ _ _ (Yields.ff ?_ ?_)⟩
    ·rw[hnth];exact FH (by omega)
    ·rw[hnx];exact y1
    ·rw[vZ];exact decide_eq_false (by omega)
    ·rw[hnx];exact y2
   | succ n' ihk=>
    intro k hkr hek;have hkl:k < rs.length:=by omega
    have hkk:k < ((T.sl ks).nth m).es.length:=by rw[hnth'];exact hkl
    obtain ⟨c,z1,z2,z3⟩:=rec_same hk hb hlt hkk hek;have c2:decide ((T.int (k:Int)).i < (T.int (rs.length:Int)).i)=true:=by rw[vZ];exact decide_eq_true hkl
    have c3:decide ((T.int (k:Int)).i < ((((T.sl ks).nth (T.int (m:Int)).i.toNat).es).length:Int))=true:=by rw[hnth];exact F2 hkl
    cases c with
    | false=>
     exact ⟨[.int (m:Int),.int (k:Int)],⟨m,k,rfl,.inr (by omega)⟩,pf _ _ _ (Yields.tt (pw hlt) (Yields.tt c3 (Yields.obind z1 (Yields.tt rfl (Yields.some _))))),
      Hp _ _ _ _ _ _ _ (Yields.tt c2 (Yields.obind z2 (Yields.tt rfl (Yields.some _))))⟩
    | true=>
     have hek':v8 ks m (k+1):=by
      intro i j hij hi hj;rcases hij with h | ⟨h1,h2⟩
      ·exact hek i j (.inl h) hi hj
      ·by_cases hjk:j < k
       ·exact hek i j (.inr ⟨h1,hjk⟩) hi hj
       ·have:j=k:=by omega
        subst this;subst h1;exact z3 rfl
     obtain ⟨r,r1,y1,y2⟩:=ihk (k+1) (by omega) hek'
     have hnk:=AM hkl (Nat.le_trans hrl hb);refine ⟨r,r1,pf _ _ _ (Yields.tt (pw hlt) (Yields.tt c3 (Yields.obind z1 (Yields.ff rfl ?_)))),Hp _ _ _ _ _ _ _ (Yields.tt c2 (Yields.obind z2 (Yields.ff rfl ?_)))⟩
     ·rw[hnk];exact y1
     ·rw[hnk];exact y2
  by_cases h3:(rs.length:Int) > 3
  ·refine ⟨[.int (m:Int),.int 3],⟨m,3,rfl,.inr (by omega)⟩,pc _ _ (Yields.tt (F2 hlt) (Yields.tt (pw hlt) (Yields.tt ?_ (Yields.some _)))),
    Ho _ _ _ _ (Yields.tt c1 (Yields.tt (pw hlt) (Yields.tt ?_ (Yields.some _))))⟩
   ·rw[hnth];exact decide_eq_true h3
   ·rw[hnth];exact decide_eq_true h3
  ·obtain ⟨r,r1,y1,y2⟩:=inner (by omega) rs.length 0 (by omega) he
   refine ⟨r,r1,pc _ _ (Yields.tt (F2 hlt) (Yields.tt (pw hlt) (Yields.ff ?_ ?_))),Ho _ _ _ _ (Yields.tt c1 (Yields.tt (pw hlt) (Yields.ff ?_ ?_)))⟩
   ·rw[hnth];exact decide_eq_false h3
   ·exact y1
   ·rw[hnth];exact decide_eq_false h3
   ·rw[hnth];exact y2
theorem MI (hk : ∀x∈ks,yD b x) (hb:b≤maxLen) (hl:ks.length≤b) : ∃r,(KRes ks r∧(ks.length≤3∨r = [.int 3,.int 0]))∧Yields (fun k=>cl env k qx [.sl ks]) r∧Yields (fun k=>cl env k HQ [.sl ks]) r:=by
 by_cases h3:(ks.length:Int) > 3
 ·exact ⟨[.int 3,.int 0],⟨⟨3,0,rfl,.inr (by omega)⟩,.inr rfl⟩,wu _ (Yields.tt (decide_eq_true h3) (Yields.some _)),Jt _ (Yields.tt (decide_eq_true h3) (Yields.some _))⟩
 ·obtain ⟨r,r1,y1,y2⟩:=Ny hk hb hl ks.length 0 (by omega) (fun i j h=>by omega) (fun i h=>by omega)
  exact ⟨r,⟨r1,.inl (by omega)⟩,wu _ (Yields.ff (decide_eq_false h3) y1),Jt _ (Yields.ff (decide_eq_false h3) y2)⟩
theorem IM (hk : ∀x∈ks,yD b x) (hb:b≤maxLen) (hl:ks.length≤b) : ∃c,Yields (fun k=>cl env k na [.sl ks]) [.bool c]∧Yields (fun k=>cl env k Gd [.sl ks]) [.bool c]∧(c=true→v8 ks ks.length 0∧Ir ks ks.length∧ks.length≤3):=by
 obtain ⟨r,⟨⟨p,q,rfl,hr⟩,h3⟩,y1,y2⟩:=MI hk hb hl;rcases hr with ⟨rfl,he,hs⟩ | hp
 ·exact ⟨true,xk _ (Yields.obind y1 (Yields.some _)),JQ _ (Yields.obind y2 (Yields.some _)),fun _=>⟨he,hs,h3.elim id fun h=>by cases h⟩⟩
 ·refine ⟨false,xk _ (Yields.obind y1 ?_),JQ _ (Yields.obind y2 ?_),fun h=>by cases h⟩
  ·show Yields (fun _=>some [T.bool (decide (p < 0))]) _
   rw[decide_eq_false (by omega)];exact Yields.some _
  ·show Yields (fun _=>some [T.bool (p == -1)]) _
   rw[show (p == -1)=false from beq_eq_false_iff_ne.2 (by omega)];exact Yields.some _
end
inductive J1:T→Prop
 | num {s:ByteArray} {n:Int} : (s.toList==(⟨#[110]⟩:ByteArray).toList)=true→0≤n→n≤1000000→J1 (.st [.str s,.int n,.sl [],.sl []])
 | bit {s:ByteArray} {n:Int} : (s.toList==(⟨#[110]⟩:ByteArray).toList)=false→(s.toList==(⟨#[98]⟩:ByteArray).toList)=true→0≤n→n≤1→J1 (.st [.str s,.int n,.sl [],.sl []])
 | own {s:ByteArray} {n:Int} : (s.toList==(⟨#[110]⟩:ByteArray).toList)=false→(s.toList==(⟨#[98]⟩:ByteArray).toList)=false→(s.toList==(⟨#[111]⟩:ByteArray).toList)=true→0≤n→n≤3→J1 (.st [.str s,.int n,.sl [],.sl []])
 | made {s:ByteArray} {n:Int} {ps:List T} : (s.toList==(⟨#[110]⟩:ByteArray).toList)=false→(s.toList==(⟨#[98]⟩:ByteArray).toList)=false→(s.toList==(⟨#[111]⟩:ByteArray).toList)=false→s.size=3→(∀x∈ps,J1 x)→
   J1 (.st [.str s,.int n,.sl ps,.sl []])
section
variable {ks:List T} {b:Nat}
end
section
variable {ks:List T} {b:Nat}
theorem WL {i:Nat} (h:0 < i) (hi:i≤maxLen):IntKind.wrap .i64 ((T.int (i:Int)).i - (1:Int))=((i - 1:Nat):Int):=by
 rw[jZ] at hi;show IntKind.wrap .i64 ((i:Int) - 1)=_
 rw[bf (by omega) (by omega)];omega
end
inductive Run (g:T→Int→Int→Prop):Int→List T→Int→Prop
 | nil {k} : Run g k [] k
 | cons {k n m t l} : g t k n→Run g n l m→Run g k (t :: l) m
theorem st2 {b:Nat} {x:T} (h:Eo b x):T.st [x.fld 0,x.fld 1]=x:=by obtain ⟨o,v,rfl,_⟩:=h;rfl
def IsIns (t:T):Prop:=∃(s:ByteArray) (a b:Int),t = .st [.str s,.int a,.int b]∧s.size≤maxLen
def cz (is:List T):Prop:=∀x∈is,∃m:Int,x = .int m
inductive j5 (b:Nat):T→Prop
 | mk {n:Int} {ags rs ls tk cd:List T} : ags.length≤b→rs.length≤b→ls.length≤b→tk.length≤b→cd.length≤b→(∀x∈ags,tv x)→(∀x∈rs,tv x)→(∀x∈ls,tv x)→cz tk→
   (∀x∈cd,IsIns x)→j5 b (.st [.int n,.sl ags,.sl rs,.sl ls,.sl tk,.sl cd])
inductive kW (b:Nat):T→Prop
 | mk {rs fs fr:List T} : yD b (.sl rs)→fs.length≤b→(∀x∈fs,j5 b x)→fr.length≤b→cz fr→kW b (.st [.sl rs,.sl fs,.sl fr])
def Po (t:Nat→Bool):Nat→Nat→Bool
 | _,0=>true
 | i,m+1=>t i&&Po t (i+1) m
theorem W8 {A:Nat→Nat→R} {n:Nat} {t:Nat→Bool} {r:List T} (step : ∀i,i < n→(t i=false→r = [T.bool false])→(t i=true→Yields (A (i+1)) r)→Yields (A i) r)
  (yes:Po t 0 n=true→Yields (A n) r) (no:Po t 0 n=false→r = [T.bool false]):Yields (A 0) r:=by
 have key : ∀m i,i+m=n→(Po t i m=true→Yields (A n) r)→(Po t i m=false→r = [T.bool false])→Yields (A i) r:=by
  intro m;induction m with
  | zero=>
   intro i hi hy _;have:i=n:=by omega
   subst this;exact hy rfl
  | succ m ih=>
   intro i hi hy hn;refine step i (by omega) (fun h=>hn (by simp only[Po,h,Bool.false_and])) fun h=>ih (i+1) (by omega) (fun h2=>hy (by simp only[Po,h,h2,Bool.and_self])) fun h2=>hn (by simp only[Po,h,h2,Bool.and_false])
 exact key n 0 (by omega) yes no
theorem QS {A:Nat→Nat→R} {n:Nat} {t:Nat→Bool} {e:Bool} (step : ∀i,i < n→∀r,(t i=false→r = [T.bool false])→(t i=true→Yields (A (i+1)) r)→Yields (A i) r)
  (stop:Yields (A n) [.bool e]):Yields (A 0) [.bool (Po t 0 n&&e)]:=by
 refine W8 (t:=t) (fun i hi h1 h2=>step i hi _ h1 h2) (fun h=>?_) fun h=>?_
 ·rw[h,Bool.true_and];exact stop
 ·rw[h,Bool.false_and]
open Classical in
noncomputable def yB (X:Nat→R):Bool:=if Yields X [.bool true] then true else false
theorem yB_eq {X:Nat→R} {c:Bool} (h:Yields X [.bool c]):yB X=c:=by
 unfold yB;cases c with
 | true=>exact if_pos h
 | false=>exact if_neg fun h'=>by have:=Yields.uniq h h';cases this
noncomputable def pY:T:=((nk (fun _ _=>none) (fun _ _=>none)).getD []).headD (.int 0)
theorem QT:Yields (fun k=>cl env k nb []) [pY]:=xm (Yields.some _)
set_option maxRecDepth 100000 in
theorem forms_i0 : ∀k,cl env (k+40) Ve []=some [pY]:=fun k=>by kernel_rfl
theorem forms_i:Yields (fun k=>cl env k Ve []) [pY]:=⟨40,fun k hk=>by obtain ⟨j,rfl⟩ : ∃j,k=j+40:=⟨k - 40,by omega⟩;exact forms_i0 j⟩
def Wi (x:T):Bool:=decide (0≤(x.fld 1).i)&&decide ((x.fld 1).i≤2000000)&&(decide (0≤(x.fld 2).i)&&decide ((x.fld 2).i≤2000000))
theorem WW:(pY.es.all Wi&&decide (pY.es.length≤100))=true:=by kernel_rfl
theorem tab_sl:pY = .sl pY.es:=by kernel_rfl
def zeroI:T:=.st [.str ⟨#[]⟩,.int 0,.int 0]
theorem WS (s:ByteArray) : ∃(x:T) (b:Bool),Yields (fun k=>cl env k Pm [.str s]) [x,.bool b]∧Yields (fun k=>cl env k Vu [.str s]) [x,.bool b]∧Wi x=true:=by
 have hall:=WW;rw[Bool.and_eq_true,List.all_eq_true,decide_eq_true_eq] at hall;obtain ⟨hsm,hlen⟩:=hall;have f1:=QT;have f2:=forms_i;rw[tab_sl] at f1 f2;generalize pY.es=es at *
 have key : ∀(m i:Nat),i+m=es.length→∃(x:T) (b:Bool),Yields (fun k=>OK (hl env k vF) (.str s) (.int (i:Int)) zeroI (.sl es)) [x,.bool b]∧
   Yields (fun k=>UV (hl env k Uo) (.str s) (.int (es.length:Int)) (.int (i:Int)) zeroI (.sl es)) [x,.bool b]∧Wi x=true:=by
  intro m;induction m with
  | zero=>
   intro i hi;refine ⟨zeroI,false,PO _ _ _ _ (Yields.ff (FH (by omega)) (Yields.some _)),Vg _ _ _ _ _ (Yields.ff ?_ (Yields.some _)),rfl⟩
   rw[vZ];exact decide_eq_false (by omega)
  | succ m ih=>
   intro i hi;have hlt:i < es.length:=by omega
   have c1:decide ((T.int (i:Int)).i < (T.int (es.length:Int)).i)=true:=by rw[vZ];exact decide_eq_true hlt
   have hn:=AM hlt (by rw[jZ];omega)
   cases hc:((((T.sl es).nth (T.int (i:Int)).i.toNat).fld 0).s.toList==(T.str s).s.toList) with
   | true=>
    refine ⟨_,true,PO _ _ _ _ (Yields.tt (F2 hlt) (Yields.tt (pw hlt) (Yields.tt hc (Yields.tt (pw hlt) (Yields.some _))))),Vg _ _ _ _ _ (Yields.tt c1 (Yields.tt (pw hlt) (Yields.tt hc (Yields.some _)))),?_⟩;rw[vQ hlt];exact hsm _ (List.getElem_mem hlt)
   | false=>
    obtain ⟨x,b,y1,y2,y3⟩:=ih (i+1) (by omega)
    rw[← hn] at y1 y2;exact ⟨x,b,PO _ _ _ _ (Yields.tt (F2 hlt) (Yields.tt (pw hlt) (Yields.ff hc y1))),Vg _ _ _ _ _ (Yields.tt c1 (Yields.tt (pw hlt) (Yields.ff hc y2))),y3⟩
 obtain ⟨x,b,y1,y2,y3⟩:=key es.length 0 (by omega)
 exact ⟨x,b,Qw _ (Yields.obind f1 y1),Wx _ (Yields.obind f2 y2),y3⟩
def VC (l n:Int):Bool:=bif l==0 then n==0 else decide (n≥0)&&decide (n≤l - 1)
theorem WC {t:T} {n:Int} (h0:0≤t.i) (h1:t.i≤2000000):Yields (fun k=>cl env k P1 [.int n,t]) [.bool (VC t.i n)]∧Yields (fun k=>cl env k UZ [t,.int n]) [.bool (VC t.i n)]:=by
 constructor
 ·refine QG _ _ (Yields.ite (fun h=>?_) (fun h=>?_))
  ·unfold VC;rw[show (t.i==0)=true from h,cond_true];exact Yields.some _
  ·have h2:=Vo n 0 (t.i - 1);unfold VC;rw[show (t.i==0)=false from h,cond_false]
   rw[bf (by omega) (by omega)]
   exact Yields.obind h2 (Yields.some _)
 ·refine Ws _ _ (Yields.ite (fun h=>?_) (fun h=>Yields.ite (fun h2=>?_) (fun h2=>?_)))
  ·have hn:n=0:=by
    have:(n==0)=true:=h
    simpa using this
   subst hn;have:VC t.i 0=true:=by
    unfold VC;cases ht:(t.i==0) with
    | true=>rfl
    | false=>
     have : ¬t.i=0:=by simpa using ht
     rw[cond_false,decide_eq_true (by omega),decide_eq_true (by omega)];rfl
   rw[this];exact Yields.some _
  ·have hn:n > 0:=of_decide_eq_true h2
   have:VC t.i n=decide ((T.int n).i < t.i):=by
    unfold VC;show _=decide (n < t.i)
    cases ht:(t.i==0) with
    | true=>
     have:t.i=0:=by simpa using ht
     rw[cond_true,decide_eq_false (by omega)];simp;omega
    | false=>
     rw[cond_false,decide_eq_true (by omega:n≥0),Bool.true_and]
     by_cases hlt:n < t.i
     ·rw[decide_eq_true hlt,decide_eq_true (by omega)]
     ·rw[decide_eq_false hlt,decide_eq_false (by omega)]
   rw[this];exact Yields.some _
  ·have hn : ¬n > 0:=of_decide_eq_false h2
   have hne : ¬n=0:=by
    have:(n==0)=false:=h
    simpa using this
   have:VC t.i n=false:=by
    unfold VC;cases ht:(t.i==0) with
    | true=>rw[cond_true];simpa using hne
    | false=>rw[cond_false,decide_eq_false (by omega),Bool.false_and]
   rw[this];exact Yields.some _
noncomputable def insB (t:T):Bool:=yB fun k=>cl env k PJ [t]
theorem WB (t:T) (h:IsIns t):Yields (fun k=>cl env k PJ [t]) [.bool (insB t)]∧Yields (fun k=>cl env k UW [t]) [.bool (insB t)]:=by
 have : ∃c,Yields (fun k=>cl env k PJ [t]) [.bool c]∧Yields (fun k=>cl env k UW [t]) [.bool c]:=by
  obtain ⟨s,a,b,rfl,_⟩:=h;obtain ⟨x,c,y1,y2,y3⟩:=WS s;unfold Wi at y3;simp only[Bool.and_eq_true,decide_eq_true_eq] at y3;obtain ⟨⟨q1,q2⟩,q3,q4⟩:=y3;obtain ⟨z1,z2⟩:=WC (n:=a) q1 q2;obtain ⟨z3,z4⟩:=WC (n:=b) q3 q4;cases c with
  | false=>exact ⟨false,QP _ (Yields.obind y1 (Yields.ff rfl (Yields.some _))),VD _ (Yields.obind y2 (Yields.ff rfl (Yields.some _)))⟩
  | true=>
   cases hb:VC (x.fld 1).i a with
   | false=>rw[hb] at z1 z2;exact ⟨false,QP _ (Yields.obind y1 (Yields.tt rfl (Yields.obind z1 (Yields.ff rfl (Yields.some _))))),VD _ (Yields.obind y2 (Yields.tt rfl (Yields.obind z2 (Yields.ff rfl (Yields.some _)))))⟩
   | true=>rw[hb] at z1 z2;exact ⟨_,QP _ (Yields.obind y1 (Yields.tt rfl (Yields.obind z1 (Yields.tt rfl (Yields.obind z3 (Yields.some _)))))),VD _ (Yields.obind y2 (Yields.tt rfl (Yields.obind z2 (Yields.tt rfl (Yields.obind z4 (Yields.some _))))))⟩
 obtain ⟨c,y1,y2⟩:=this;have hc:insB t=c:=yB_eq y1
 rw[hc];exact ⟨y1,y2⟩
def O8 (s:ByteArray):Bool:=decide (s.size > 0)&&(bU s 0==38||bU s 0==33)
def ofB (s:ByteArray):ByteArray:=bif O8 s then s.extract 1 s.size else s
theorem nB (s:ByteArray):(s.toList==(⟨#[]⟩:ByteArray).toList) = !decide (s.size > 0):=by
 by_cases h:s.size > 0
 ·rw[decide_eq_true h];rw[beq_eq_false_iff_ne.2];· rfl
  rw[ne_eq,ByteArray.toList_eq,ByteArray.toList_eq];intro he;have:s=⟨#[]⟩:=WideShapes.bytes_inj he
  subst this;exact absurd h (by decide)
 ·have:s=⟨#[]⟩:=by
   obtain ⟨⟨l⟩⟩:=s;cases l with
   | nil=>rfl
   | cons a l=>exact absurd (by show 0 < (a :: l).length;simp) h
  subst this;simp[ByteArray.size]
theorem wI (s:ByteArray) (c:Nat):(((s.data.getD 0 0).toNat:Int)==(c:Int))=(bU s 0==c):=by
 rw[LH];by_cases h:bU s 0=c
 ·rw[h];simp
 ·rw[beq_eq_false_iff_ne.2 h,beq_eq_false_iff_ne];omega
theorem lk (s:ByteArray):Yields (fun k=>cl env k bO [.str s]) [.bool (O8 s)]:=by
 refine tp _ ?_;unfold O8;by_cases h:s.size > 0
 ·refine Yields.tt (decide_eq_true (by show (s.size:Int) > 0;omega)) (Yields.tt (by rw[Bool.and_eq_true];exact ⟨rfl,decide_eq_true h⟩) ?_)
  rw[decide_eq_true h,Bool.true_and];refine Yields.ite (fun e=>?_) (fun e=>?_)
  ·have:(bU s 0==38)=true:=by rw[← wI];exact e
   rw[this,Bool.true_or];exact Yields.some _
  ·have:(bU s 0==38)=false:=by rw[← wI];exact e
   rw[this,Bool.false_or,← wI];exact Yields.tt (by rw[Bool.and_eq_true];exact ⟨rfl,decide_eq_true h⟩) (Yields.some _)
 ·rw[decide_eq_false h,Bool.false_and];exact Yields.ff (decide_eq_false (by show ¬(s.size:Int) > 0;omega)) (Yields.some _)
theorem Q5 {n:Nat} (h:n > 0):(decide (0≤(1:Int))&&(decide ((1:Int)≤(n:Int))&&(decide ((n:Int)≤(n:Int))&&decide ((n:Int)≤(n:Int)))))=true:=by
 simp only[Bool.and_eq_true,decide_eq_true_eq];exact ⟨by omega,by omega,by omega,by omega⟩
theorem Ql {n:Nat} (h:n > 0):(decide (0≤(0:Int))&&(decide ((0:Int)≤(1:Int))&&(decide ((1:Int)≤(n:Int))&&decide ((n:Int)≤(n:Int)))))=true:=by
 simp only[Bool.and_eq_true,decide_eq_true_eq];exact ⟨by omega,by omega,by omega,by omega⟩
theorem rW {s:ByteArray} (h:O8 s=true):s.size > 0:=by unfold O8 at h;rw[Bool.and_eq_true,decide_eq_true_eq] at h;exact h.1
theorem of_s (s:ByteArray):Yields (fun k=>cl env k cx [.str s]) [.str (ofB s)]:=by
 refine Ai _ (Yields.obind (lk s) ?_);unfold ofB;cases h:O8 s with
 | true=>exact Yields.tt rfl (Yields.tt (Q5 (rW h)) (Yields.some _))
 | false=>exact Yields.ff rfl (Yields.some _)
theorem WF (s:ByteArray) : ∃g:ByteArray,Yields (fun k=>cl env k IB [.str s]) [.str g,.str (ofB s)]∧(!(g.toList==(⟨#[]⟩:ByteArray).toList))=O8 s:=by
 by_cases h:s.size > 0
 ·have he:(!(s.toList==(⟨#[]⟩:ByteArray).toList))=true:=by rw[nB,decide_eq_true h];rfl
  have hin:(decide (0≤(0:Int))&&decide (0 < s.size))=true:=by rw[Bool.and_eq_true];exact ⟨rfl,decide_eq_true h⟩
  have hx:(!((s.extract 0 1).toList==(⟨#[]⟩:ByteArray).toList))=true:=by rw[nB,decide_eq_true (by rw[ByteArray.size_extract];omega)];rfl
  cases h1:(bU s 0==38) with
  | true=>
   have hr:O8 s=true:=by unfold O8;rw[decide_eq_true h,h1];rfl
   refine ⟨s.extract 0 1,?_,by rw[hx,hr]⟩
   unfold ofB;rw[hr,cond_true];exact N0 _ (Yields.tt he (Yields.tt hin (Yields.tt ((wI s 38).trans h1) (Yields.tt (Ql h) (Yields.tt (Q5 h) (Yields.some _))))))
  | false=>
   cases h2:(bU s 0==33) with
   | true=>
    have hr:O8 s=true:=by unfold O8;rw[decide_eq_true h,h1,h2];rfl
    refine ⟨s.extract 0 1,?_,by rw[hx,hr]⟩
    unfold ofB;rw[hr,cond_true];exact N0 _ (Yields.tt he (Yields.tt hin (Yields.ff ((wI s 38).trans h1) (Yields.tt hin (Yields.tt ((wI s 33).trans h2) (Yields.tt (Ql h) (Yields.tt (Q5 h) (Yields.some _))))))))
   | false=>
    have hr:O8 s=false:=by unfold O8;rw[decide_eq_true h,h1,h2];rfl
    refine ⟨⟨#[]⟩,?_,by rw[hr];simp⟩
    unfold ofB;rw[hr,cond_false];exact N0 _ (Yields.tt he (Yields.tt hin (Yields.ff ((wI s 38).trans h1) (Yields.tt hin (Yields.ff ((wI s 33).trans h2) (Yields.some _))))))
 ·have hr:O8 s=false:=by unfold O8;rw[decide_eq_false h];rfl
  refine ⟨⟨#[]⟩,?_,by rw[hr];simp⟩
  unfold ofB;rw[hr,cond_false];exact N0 _ (Yields.ff (by show (!(s.toList==(⟨#[]⟩:ByteArray).toList))=false;rw[nB,decide_eq_false h];rfl) (Yields.some _))
theorem plain_s (ks:List T) (s:ByteArray):Yields (fun k=>cl env k H7 [.sl ks,.str s]) [.bool (dw s||nQ ks s)]:=by
 refine Mq _ _ (Yields.obind (zl s) (Yields.obind (base_s s) ?_));cases hb:dw s with
 | true=>exact Yields.tt rfl (Yields.some _)
 | false=>
  refine Yields.ff rfl ?_;rw[Bool.false_or];unfold nQ;cases hk:O6 s with
  | none=>exact Yields.ff rfl (Yields.some _)
  | some x=>obtain ⟨i,j⟩:=x;exact Yields.tt rfl (Yields.obind (KH ks i j) (Yields.some _))
def Wj (ks:List T) (x:T):Bool:=dw (ofB x.s)||nQ ks (ofB x.s)
theorem Wq (ks xs:List T) (hx : ∀x∈xs,tv x) (hl:xs.length≤maxLen):Yields (fun k=>cl env k O9 [.sl ks,.sl xs]) [.bool (Po (fun i=>Wj ks ((T.sl xs).nth i)) 0 xs.length&&true)]:=by
 refine Qy _ _ (QS (A:=fun i k=>OL (Ra.hl env k Oh) (.sl ks) (.sl xs) (.int (i:Int))) (fun i hi r h1 h2=>?_) (PQ _ _ _ (Yields.ff (FH (by omega)) (Yields.some _))))
 obtain ⟨s,hs,_⟩:=hx _ (List.getElem_mem hi);have hn:((T.sl xs).nth (T.int (i:Int)).i.toNat) = .str s:=by rw[vQ hi,hs]
 have hn':((T.sl xs).nth i) = .str s:=by rw[bh hi,hs]
 rw[hn'] at h1 h2;refine PQ _ _ _ (Yields.tt (F2 hi) (Yields.tt (pw hi) ?_));rw[hn];refine Yields.obind (of_s s) (Yields.obind (plain_s ks (ofB s)) ?_);cases hc:(dw (ofB s)||nQ ks (ofB s)) with
 | true=>
  refine Yields.ff rfl ?_;rw[AM hi hl];exact h2 hc
 | false=>
  refine Yields.tt rfl ?_;rw[h1 hc];exact Yields.some _
theorem Wp (ks xs:List T) (hx : ∀x∈xs,tv x) (hl:xs.length≤maxLen):Yields (fun k=>cl env k Ua [.sl ks,.sl xs]) [.bool (Po (fun i=>Wj ks ((T.sl xs).nth i)) 0 xs.length&&true)]:=by
 refine Wl _ _ (QS (A:=fun i k=>UB (Ra.hl env k Uf) (.sl ks) (.sl xs) (.int (xs.length:Int)) (.int (i:Int))) (fun i hi r h1 h2=>?_) (Vz _ _ _ _ (Yields.ff (by rw[vZ];exact decide_eq_false (by omega)) (Yields.some _))))
 obtain ⟨s,hs,_⟩:=hx _ (List.getElem_mem hi);have hn:((T.sl xs).nth (T.int (i:Int)).i.toNat) = .str s:=by rw[vQ hi,hs]
 have hn':((T.sl xs).nth i) = .str s:=by rw[bh hi,hs]
 rw[hn'] at h1 h2;obtain ⟨g,hg,_⟩:=WF s;refine Vz _ _ _ _ (Yields.tt (by rw[vZ];exact decide_eq_true hi) (Yields.tt (pw hi) ?_))
 rw[hn];refine Yields.obind hg (Yields.obind (JO ks (ofB s)) ?_);cases hc:(dw (ofB s)||nQ ks (ofB s)) with
 | true=>
  refine Yields.ff rfl ?_;rw[AM hi hl];exact h2 hc
 | false=>
  refine Yields.tt rfl ?_;rw[h1 hc];exact Yields.some _
def W7 (xs:List T) (lo hi:Int) (i:Nat):Bool:=(decide (((T.sl xs).nth i).i≥lo)&&decide (((T.sl xs).nth i).i≤hi))&&(decide (i=0)||decide (((T.sl xs).nth (i - 1)).i < ((T.sl xs).nth i).i))
theorem QU (xs:List T) (hx:cz xs) (hl:xs.length≤maxLen) (lo hi:Int):Yields (fun k=>cl env k OD [.sl xs,.int lo,.int hi]) [.bool (Po (W7 xs lo hi) 0 xs.length&&true)]:=by
 refine Qx _ _ _ (QS (A:=fun i k=>Og (Ra.hl env k NZ) (.sl xs) (.int lo) (.int hi) (.int (i:Int))) (fun i hi' r h1 h2=>?_) (PP _ _ _ _ (Yields.ff (FH (by omega)) (Yields.some _))))
 obtain ⟨n,hn0⟩:=hx _ (List.getElem_mem hi');have hn:((T.sl xs).nth (T.int (i:Int)).i.toNat) = .int n:=by rw[vQ hi',hn0]
 have hn':((T.sl xs).nth i) = .int n:=by rw[bh hi',hn0]
 unfold W7 at h1 h2;rw[hn'] at h1 h2;have h1:((decide (n≥lo)&&decide (n≤hi))&&(decide (i=0)||decide (((T.sl xs).nth (i - 1)).i < n)))=false→r = [T.bool false]:=h1
 have h2:((decide (n≥lo)&&decide (n≤hi))&&(decide (i=0)||decide (((T.sl xs).nth (i - 1)).i < n)))=true→_:=h2
 refine PP _ _ _ _ (Yields.tt (F2 hi') (Yields.tt (pw hi') ?_));rw[hn];refine Yields.obind (Vo n lo hi) ?_;cases hc:(decide (n≥lo)&&decide (n≤hi)) with
 | false=>
  rw[hc] at h1;refine Yields.tt rfl ?_;rw[h1 rfl];exact Yields.some _
 | true=>
  rw[hc,Bool.true_and] at h1 h2;refine Yields.ff rfl (Yields.ite (fun e=>?_) (fun e=>?_))
  ·have h0:0 < i:=by
    have:(i:Int) > 0:=of_decide_eq_true e
    omega
   rw[WL h0 (by omega),AM hi' hl]
   rw[decide_eq_false (by omega : ¬i=0),Bool.false_or] at h1 h2
   refine Yields.tt ?_ (Yields.ite (fun e=>?_) (fun e=>?_))
   ·rw[Bool.and_eq_true];refine ⟨decide_eq_true (by omega),decide_eq_true ?_⟩
    rw[Int.toNat_natCast];show i - 1 < xs.length;omega
   ·rw[Int.toNat_natCast] at e;have e':((T.sl xs).nth (i - 1)).i≥n:=of_decide_eq_true e
    rw[h1 (decide_eq_false (by omega))];exact Yields.some _
   ·rw[Int.toNat_natCast] at e;have e' : ¬((T.sl xs).nth (i - 1)).i≥n:=of_decide_eq_false e
    exact h2 (decide_eq_true (by omega))
  ·have h0:i=0:=by
    have : ¬(i:Int) > 0:=of_decide_eq_false e
    omega
   rw[AM hi' hl];exact h2 (by rw[decide_eq_true h0,Bool.true_or])
theorem WM (xs:List T) (hx:cz xs) (hl:xs.length≤maxLen) (lo hi:Int):Yields (fun k=>cl env k UN [.sl xs,.int lo,.int hi]) [.bool (Po (W7 xs lo hi) 0 xs.length&&true)]:=by
 refine Wy _ _ _ (QS (A:=fun i k=>Uz (Ra.hl env k Up) (.sl xs) (.int lo) (.int hi) (.sl xs) (.int (xs.length:Int)) (.int (i:Int))) (fun i hi' r h1 h2=>?_)
  (VM _ _ _ _ _ _ (Yields.ff (by rw[vZ];exact decide_eq_false (by omega)) (Yields.some _))))
 obtain ⟨n,hn0⟩:=hx _ (List.getElem_mem hi');have hn:((T.sl xs).nth (T.int (i:Int)).i.toNat) = .int n:=by rw[vQ hi',hn0]
 have hn':((T.sl xs).nth i) = .int n:=by rw[bh hi',hn0]
 unfold W7 at h1 h2;rw[hn'] at h1 h2;have h1:((decide (n≥lo)&&decide (n≤hi))&&(decide (i=0)||decide (((T.sl xs).nth (i - 1)).i < n)))=false→r = [T.bool false]:=h1
 have h2:((decide (n≥lo)&&decide (n≤hi))&&(decide (i=0)||decide (((T.sl xs).nth (i - 1)).i < n)))=true→_:=h2
 refine VM _ _ _ _ _ _ (Yields.tt (by rw[vZ];exact decide_eq_true hi') (Yields.tt (pw hi') ?_))
 rw[hn];refine Yields.ite (fun e1=>?_) (fun e1=>Yields.ite (fun e2=>?_) (fun e2=>?_))
 ·have e1:n < lo:=of_decide_eq_true e1
  rw[h1 (by rw[decide_eq_false (by omega : ¬n≥lo)];rfl)];exact Yields.some _
 ·have e2:n > hi:=of_decide_eq_true e2
  rw[h1 (by rw[decide_eq_false (by omega : ¬n≤hi),Bool.and_false];rfl)];exact Yields.some _
 ·have e1 : ¬n < lo:=of_decide_eq_false e1
  have e2 : ¬n > hi:=of_decide_eq_false e2
  rw[decide_eq_true (by omega:n≥lo),decide_eq_true (by omega:n≤hi),Bool.true_and,Bool.true_and] at h1 h2
  refine Yields.ite (fun e=>?_) (fun e=>?_)
  ·have h0:0 < i:=by
    have:(i:Int) > 0:=of_decide_eq_true e
    omega
   rw[WL h0 (by omega),AM hi' hl]
   rw[decide_eq_false (by omega : ¬i=0),Bool.false_or] at h1 h2
   refine Yields.tt ?_ (Yields.ite (fun e=>?_) (fun e=>?_))
   ·rw[Bool.and_eq_true];refine ⟨decide_eq_true (by omega),decide_eq_true ?_⟩
    rw[Int.toNat_natCast];show i - 1 < xs.length;omega
   ·rw[Int.toNat_natCast] at e;have e':n≤((T.sl xs).nth (i - 1)).i:=of_decide_eq_true e
    rw[h1 (decide_eq_false (by omega))];exact Yields.some _
   ·rw[Int.toNat_natCast] at e;have e' : ¬n≤((T.sl xs).nth (i - 1)).i:=of_decide_eq_false e
    exact h2 (decide_eq_true (by omega))
  ·have h0:i=0:=by
    have : ¬(i:Int) > 0:=of_decide_eq_false e
    omega
   rw[AM hi' hl];exact h2 (by rw[decide_eq_true h0,Bool.true_or])
theorem lt_t {es:List T} {i:Nat} (h:i < es.length):decide ((T.int (i:Int)).i < (T.int (es.length:Int)).i)=true:=by rw[vZ];exact decide_eq_true h
theorem lt_f {es:List T} {i:Nat} (h : ¬i < es.length):decide ((T.int (i:Int)).i < (T.int (es.length:Int)).i)=false:=by rw[vZ];exact decide_eq_false h
noncomputable def W4 (cd:List T) (m:Int) (i:Nat):Bool:=insB ((T.sl cd).nth i) && !((((T.sl cd).nth i).fld 0).s.toList==(⟨#[99,97,108,108]⟩:ByteArray).toList&&decide ((((T.sl cd).nth i).fld 1).i > m))
def lenB (cd:List T):Bool:=decide ((cd.length:Int)≥1)&&decide ((cd.length:Int)≤40)
theorem Wv {cd:List T} {m:Int} {i:Nat} {r:List T} {X Z:Nat→R} {F:Nat} (hn:((T.sl cd).nth (T.int (i:Int)).i.toNat)=(T.sl cd).nth i) (hi:Yields (fun k=>cl env k F [(T.sl cd).nth i]) [.bool (insB ((T.sl cd).nth i))])
  (h1:W4 cd m i=false→r = [T.bool false]) (h2:W4 cd m i=true→Yields Z r)
  (hx:X=fun k=>obind (cl env k F [((T.sl cd).nth (T.int (i:Int)).i.toNat)]) fun r1=>
   bif (!(rt r1 0).b) then
    some [(T.bool false)]
   else
    bif ((((((T.sl cd).nth (T.int (i:Int)).i.toNat)).fld 0).s).toList==(⟨#[99,97,108,108]⟩:ByteArray).toList) then
     bif (decide ((((T.sl cd).nth (T.int (i:Int)).i.toNat).fld 1).i > m)) then
      some [(T.bool false)]
     else
      Z k
    else
     Z k):Yields X r:=by
 subst hx;rw[hn];unfold W4 at h1 h2;refine Yields.obind hi ?_;cases hc:insB ((T.sl cd).nth i) with
 | false=>rw[h1 (by rw[hc];rfl)];exact Yields.tt rfl (Yields.some _)
 | true=>
  rw[hc,Bool.true_and] at h1 h2;refine Yields.ff rfl (Yields.ite (fun e=>Yields.ite (fun e2=>?_) (fun e2=>h2 (by rw[e2,Bool.and_false];rfl))) (fun e=>h2 (by rw[e];rfl)))
  rw[h1 (by rw[e,e2];rfl)];exact Yields.some _
theorem code_s (cd:List T) (hx : ∀x∈cd,IsIns x) (hl:cd.length≤maxLen) (m:Int):Yields (fun k=>cl env k P2 [.int m,.sl cd]) [.bool (Po (W4 cd m) 0 cd.length&&lenB cd)]:=by
 refine QH _ _ (QS (A:=fun i k=>Oy (Ra.hl env k Om) (.int m) (.sl cd) (.int (i:Int))) (fun i hi r h1 h2=>?_) (PT _ _ _ (Yields.ff (FH (by omega)) (Yields.obind (Vo _ 1 40) (Yields.some _)))))
 refine PT _ _ _ (Yields.tt (F2 hi) (Yields.tt (pw hi) ?_));simp only[pw hi,cond_true];rw[AM hi hl];have hn:((T.sl cd).nth (T.int (i:Int)).i.toNat)=(T.sl cd).nth i:=by rw[vQ hi,bh hi]
 exact Wv hn (by rw[bh hi];exact (WB _ (hx _ (List.getElem_mem hi))).1) h1 h2 rfl
theorem code_i (f:T) (cd:List T) (hf:f.fld 5 = .sl cd) (hx : ∀x∈cd,IsIns x) (hl:cd.length≤maxLen) (m:Int):Yields (fun k=>U8 (Ra.hl env k nr) (.int m) (.sl cd) (.int (cd.length:Int)) (.int 0) f) [.bool (Po (W4 cd m) 0 cd.length&&lenB cd)]:=by
 refine QS (A:=fun i k=>U8 (Ra.hl env k nr) (.int m) (.sl cd) (.int (cd.length:Int)) (.int (i:Int)) f) (fun i hi r h1 h2=>?_) ?_
 ·refine Vt _ _ _ _ _ (Yields.tt (lt_t hi) (Yields.tt (pw hi) ?_));rw[AM hi hl];have hn:((T.sl cd).nth (T.int (i:Int)).i.toNat)=(T.sl cd).nth i:=by rw[vQ hi,bh hi]
  exact Wv hn (by rw[bh hi];exact (WB _ (hx _ (List.getElem_mem hi))).2) h1 h2 rfl
 ·refine Vt _ _ _ _ _ (Yields.ff (lt_f (by omega)) ?_)
  rw[hf];show Yields (fun k=>bif decide ((cd.length:Int)≥1) then some [T.bool (decide ((cd.length:Int)≤40))] else some [T.bool false]) _
  unfold lenB;cases decide ((cd.length:Int)≥1) with
  | true=>rw[Bool.true_and];exact Yields.tt rfl (Yields.some _)
  | false=>exact Yields.ff rfl (Yields.some _)
theorem BO {ks:List T} {m:Nat} (hm:m < ks.length) (hkl:ks.length≤BB) (hkm:((T.sl ks).nth m).es.length≤BB) (f:T) (hf:j5 BB f) : ∃c,Yields (fun k=>cl env k Pt [.sl ks,.int (m:Int),f]) [.bool c]∧
  Yields (fun k=>cl env k UK [.sl (ks.take (m+1)),.int (m:Int),f]) [.bool c]:=by
 have hm1:IntKind.wrap .i64 ((m:Int)+1)=((m+1:Nat):Int):=by unfold BB at hkl;rw[bf (by omega) (by omega)];rfl
 have hcut:((T.sl ks).es.take ((IntKind.wrap .i64 ((T.int (m:Int)).i+(1:Int))).toNat)).drop 0=ks.take (m+1):=by
  show (ks.take (IntKind.wrap .i64 ((m:Int)+1)).toNat).drop 0=_
  rw[hm1,Int.toNat_natCast,List.drop_zero]
 have hcc:(decide (0≤(0:Int))&&(decide ((0:Int)≤(IntKind.wrap .i64 ((T.int (m:Int)).i+(1:Int))))&&(decide ((IntKind.wrap .i64 ((T.int (m:Int)).i+(1:Int)))≤((T.sl ks).es.length:Int))&&decide (((T.sl ks).es.length:Int)≤((T.sl ks).es.length:Int)))))=true:=by
  show (decide (0≤(0:Int))&&(decide ((0:Int)≤(IntKind.wrap .i64 ((m:Int)+1)))&&(decide ((IntKind.wrap .i64 ((m:Int)+1))≤(ks.length:Int))&&decide ((ks.length:Int)≤(ks.length:Int)))))=true
  rw[hm1];simp only[Bool.and_eq_true,decide_eq_true_eq];exact ⟨by omega,by omega,by omega,by omega⟩
 have hmt:m < (ks.take (m+1)).length:=by rw[List.length_take];omega
 have hnt:((T.sl (ks.take (m+1))).nth (T.int (m:Int)).i.toNat)=(T.sl ks).nth m:=by
  rw[vQ hmt,bh hm,List.getElem_take]
 have hns:((T.sl ks).nth (T.int (m:Int)).i.toNat)=(T.sl ks).nth m:=by rw[vQ hm,bh hm]
 have hpred:IntKind.wrap .i64 ((((T.sl ks).nth m).es.length:Int) - (1:Int))=(((T.sl ks).nth m).es.length:Int) - 1:=by unfold BB at hkm;rw[bf (by omega) (by omega)]
 cases hf with
 | @mk n ags rs ls tk cd h1 h2 h3 h4 h5 g1 g2 g3 g4 g5=>
  have hsum:IntKind.wrap .i64 ((ags.length:Int)+(ls.length:Int))=(ags.length:Int)+(ls.length:Int):=by unfold BB at h1 h3;rw[bf (by omega) (by omega)]
  have a1:=Wq (ks.take (m+1)) ags g1 (DU h1);have a2:=Wq (ks.take (m+1)) rs g2 (DU h2);have a3:=Wq (ks.take (m+1)) ls g3 (DU h3);have b1:=Wp (ks.take (m+1)) ags g1 (DU h1);have b2:=Wp (ks.take (m+1)) rs g2 (DU h2);have b3:=Wp (ks.take (m+1)) ls g3 (DU h3);have a4:=QU tk g4 (DU h4) 0 ((((T.sl ks).nth m).es.length:Int) - 1);have b4:=WM tk g4 (DU h4) 0 ((((T.sl ks).nth m).es.length:Int) - 1);have a5:=code_s cd g5 (DU h5) (m:Int);have b5:=code_i (.st [.int n,.sl ags,.sl rs,.sl ls,.sl tk,.sl cd]) cd rfl g5 (DU h5) (m:Int);generalize (Po (fun i=>Wj (ks.take (m+1)) ((T.sl ags).nth i)) 0 ags.length&&true)=t1 at a1 b1
  generalize (Po (fun i=>Wj (ks.take (m+1)) ((T.sl rs).nth i)) 0 rs.length&&true)=t2 at a2 b2
  generalize (Po (fun i=>Wj (ks.take (m+1)) ((T.sl ls).nth i)) 0 ls.length&&true)=t3 at a3 b3
  generalize (Po (W7 tk 0 ((((T.sl ks).nth m).es.length:Int) - 1)) 0 tk.length&&true)=t4 at a4 b4
  generalize (Po (W4 cd (m:Int)) 0 cd.length&&lenB cd)=t5 at a5 b5
  have hin:=Vo n 0 2;by_cases q1:n < 0
  ·rw[decide_eq_false (by omega : ¬n≥0)] at hin
   exact ⟨false,QI _ _ _ (Yields.obind hin (Yields.tt rfl (Yields.some _))),Ug _ _ _ (Yields.tt (decide_eq_true q1) (Yields.some _))⟩
  by_cases q2:n > 2
  ·rw[decide_eq_false (by omega : ¬n≤2),Bool.and_false] at hin
   exact ⟨false,QI _ _ _ (Yields.obind hin (Yields.tt rfl (Yields.some _))),Ug _ _ _ (Yields.ff (decide_eq_false q1) (Yields.tt (decide_eq_true q2) (Yields.some _)))⟩
  rw[decide_eq_true (by omega:n≥0),decide_eq_true (by omega:n≤2)] at hin
  have e1:=decide_eq_false q1;have e2:=decide_eq_false q2;by_cases q3:(ags.length:Int) > 3
  ·exact ⟨false,QI _ _ _ (Yields.obind hin (Yields.ff rfl (Yields.tt (decide_eq_true q3) (Yields.some _)))),Ug _ _ _ (Yields.ff e1 (Yields.ff e2 (Yields.tt (decide_eq_true q3) (Yields.some _))))⟩
  have e3:=decide_eq_false q3;by_cases q4:(rs.length:Int) > 3
  ·exact ⟨false,QI _ _ _ (Yields.obind hin (Yields.ff rfl (Yields.ff e3 (Yields.tt (decide_eq_true q4) (Yields.some _))))),Ug _ _ _ (Yields.ff e1 (Yields.ff e2 (Yields.ff e3 (Yields.tt (decide_eq_true q4) (Yields.some _)))))⟩
  have e4:=decide_eq_false q4;by_cases q5:IntKind.wrap .i64 ((ags.length:Int)+(ls.length:Int)) > 6
  ·exact ⟨false,QI _ _ _ (Yields.obind hin (Yields.ff rfl (Yields.ff e3 (Yields.ff e4 (Yields.tt (decide_eq_true q5) (Yields.some _)))))),Ug _ _ _ (Yields.ff e1 (Yields.ff e2 (Yields.ff e3 (Yields.ff e4 (Yields.tt (decide_eq_true q5) (Yields.some _))))))⟩
  have e5:=decide_eq_false q5;let c:Bool:=bif t1 then bif t2 then bif t3 then bif t4 then t5 else false else false else false else false
  refine ⟨c,QI _ _ _ (Yields.obind hin (Yields.ff rfl (Yields.ff e3 (Yields.ff e4 (Yields.ff e5 (Yields.tt hcc ?_)))))),Ug _ _ _ (Yields.ff e1 (Yields.ff e2 (Yields.ff e3 (Yields.ff e4 (Yields.ff e5 ?_)))))⟩
  ·rw[hcut,hns,hpred];show Yields _ [T.bool (bif t1 then bif t2 then bif t3 then bif t4 then t5 else false else false else false else false)]
   refine Yields.obind a1 ?_;cases t1 with
   | false=>exact Yields.ff rfl (Yields.some _)
   | true=>
    refine Yields.tt rfl (Yields.obind a2 ?_);cases t2 with
    | false=>exact Yields.ff rfl (Yields.some _)
    | true=>
     refine Yields.tt rfl (Yields.obind a3 ?_);cases t3 with
     | false=>exact Yields.ff rfl (Yields.some _)
     | true=>
      refine Yields.tt rfl (Yields.tt (pw hm) (Yields.obind a4 ?_));cases t4 with
      | false=>exact Yields.ff rfl (Yields.some _)
      | true=>exact Yields.tt rfl (Yields.obind a5 (Yields.some _))
  ·rw[hnt,hpred];show Yields _ [T.bool (bif t1 then bif t2 then bif t3 then bif t4 then t5 else false else false else false else false)]
   refine Yields.obind b1 ?_;cases t1 with
   | false=>exact Yields.tt rfl (Yields.some _)
   | true=>
    refine Yields.ff rfl (Yields.obind b2 ?_);cases t2 with
    | false=>exact Yields.tt rfl (Yields.some _)
    | true=>
     refine Yields.ff rfl (Yields.obind b3 ?_);cases t3 with
     | false=>exact Yields.tt rfl (Yields.some _)
     | true=>
      refine Yields.ff rfl (Yields.tt (pw hmt) (Yields.obind b4 ?_));cases t4 with
      | false=>exact Yields.tt rfl (Yields.some _)
      | true=>exact Yields.ff rfl b5
def aY (ms:List T):List T:=ms.map (·.fld 0)
theorem ub {ms:List T} {i:Nat} (h:i < (aY ms).length) (h':i < ms.length):(aY ms)[i]=ms[i].fld 0:=by simp[aY]
theorem st2' {x:T} (h:DG BB x):T.st [x.fld 0,x.fld 1]=x:=by obtain ⟨a,fs,rfl,_⟩:=h;rfl
theorem rec_fs {x:T} (h:DG BB x) : ∃fs,x.fld 1 = .sl fs∧fs.length≤BB:=by obtain ⟨a,fs,rfl,_,_,h3,_⟩:=h;exact ⟨fs,rfl,h3⟩
theorem DS {x:T} (h:kW BB x) : ∃rs,x.fld 0 = .sl rs∧yD BB (.sl rs):=by cases h with | mk h1=>exact ⟨_,rfl,h1⟩
theorem E4 {ms:List T} (hm : ∀x∈ms,kW BB x) : ∀x∈aY ms,yD BB x:=by
 intro x hx;unfold aY at hx;obtain ⟨y,hy,rfl⟩:=List.mem_map.1 hx;obtain ⟨rs,h1,h2⟩:=DS (hm y hy);rw[h1];exact h2
theorem xc (xs:List T) (h:xs.length≤BB):Yields (fun k=>cl env k fJ [.sl xs]) [.sl xs]:=by
 have hc : ∀l:List T,Yields (fun k=>cl env k iu [.sl l]) [.sl l]:=fun l=>by
  refine sa _ (Yields.tt ?_ ?_)
  ·simp only[Bool.and_eq_true,decide_eq_true_eq];exact ⟨by omega,by show (0:Int)≤(l.length:Int);omega,by omega,by omega⟩
  ·show Yields (fun _=>some [T.sl ((l.take l.length).drop 0)]) _
   rw[List.take_length,List.drop_zero];exact Yields.some _
 refine uN _ (Yields.tt (decide_eq_true ?_) (Yields.obind (hc _) ?_))
 ·show ([]:List T).length+xs.length≤LIM
  unfold BB at h;unfold LIM;simp;omega
 ·show Yields (fun _=>some [T.sl ((([]++xs).take ([]++xs).length).drop 0)]) _
  rw[List.take_length,List.drop_zero,List.nil_append];exact Yields.some _
theorem recs_i (rs:List T) (h:yD BB (.sl rs)):Yields (fun k=>cl env k D7 [.sl rs]) [.sl rs]:=by
 obtain ⟨_,he,hlen,hr⟩:=h;cases he;have hc : ∀l:List T,Yields (fun k=>cl env k D4 [.sl l]) [.sl l]:=fun l=>by
  refine DC _ (Yields.tt ?_ ?_)
  ·simp only[Bool.and_eq_true,decide_eq_true_eq];exact ⟨by omega,by show (0:Int)≤(l.length:Int);omega,by omega,by omega⟩
  ·show Yields (fun _=>some [T.sl ((l.take l.length).drop 0)]) _
   rw[List.take_length,List.drop_zero];exact Yields.some _
 have key : ∀(m i:Nat),i+m=rs.length→Yields (fun k=>si (hl env k sj) (.sl rs) (.int (rs.length:Int)) (.int (i:Int)) (.sl (rs.take i))) [.sl rs]:=by
  intro m;induction m with
  | zero=>
   intro i hi;refine Dq _ _ _ _ (Yields.ff (lt_f (by omega)) (Yields.obind (hc _) ?_))
   show Yields (fun _=>some [T.sl (((rs.take i).take (rs.take i).length).drop 0)]) _
   rw[List.take_length,List.drop_zero,List.take_of_length_le (by omega)];exact Yields.some _
  | succ m ih=>
   intro i hi;have hlt:i < rs.length:=by omega
   have hk:=hr _ (List.getElem_mem hlt);obtain ⟨fs,hf,hfl⟩:=rec_fs hk;have hn1:((T.sl rs).nth (T.int (i:Int)).i.toNat)=rs[i]:=vQ hlt
   refine Dq _ _ _ _ (Yields.tt (lt_t hlt) (Yields.tt (pw hlt) ?_));rw[hn1,hf];refine Yields.obind (xc fs hfl) (Yields.tt (decide_eq_true ?_) ?_)
   ·show (rs.take i).length+1≤LIM
    rw[List.length_take];unfold BB at hlen;unfold LIM;omega
   ·rw[AM hlt (DU hlen)];have e:T.st [rs[i].fld 0,rt [T.sl fs] 0]=rs[i]:=by show T.st [rs[i].fld 0,.sl fs]=_;rw[← hf];exact st2' hk
    rw[e];show Yields (fun k=>si (hl env k sj) (.sl rs) (.int (rs.length:Int)) (.int ((i+1:Nat):Int)) (.sl (rs.take i ++ [rs[i]]))) _
    rw[List.take_append_getElem hlt];exact ih (i+1) (by omega)
 exact DP _ (key rs.length 0 (by omega))
theorem WI (ms:List T) (hlen:ms.length≤BB) (hm : ∀x∈ms,kW BB x):Yields (fun k=>cl env k Dn [.sl ms]) [.sl (aY ms)]:=by
 have hc : ∀l:List T,Yields (fun k=>cl env k D2 [.sl l]) [.sl l]:=fun l=>by
  refine Dz _ (Yields.tt ?_ ?_)
  ·simp only[Bool.and_eq_true,decide_eq_true_eq];exact ⟨by omega,by show (0:Int)≤(l.length:Int);omega,by omega,by omega⟩
  ·show Yields (fun _=>some [T.sl ((l.take l.length).drop 0)]) _
   rw[List.take_length,List.drop_zero];exact Yields.some _
 have key : ∀(m i:Nat),i+m=ms.length→Yields (fun k=>D3 (hl env k sR) (.sl ms) (.int (ms.length:Int)) (.int (i:Int)) (.sl ((aY ms).take i))) [.sl (aY ms)]:=by
  intro m;induction m with
  | zero=>
   intro i hi;refine Dr _ _ _ _ (Yields.ff (lt_f (by omega)) (Yields.obind (hc _) ?_))
   show Yields (fun _=>some [T.sl ((((aY ms).take i).take ((aY ms).take i).length).drop 0)]) _
   rw[List.take_length,List.drop_zero,List.take_of_length_le (by unfold aY;simp;omega)];exact Yields.some _
  | succ m ih=>
   intro i hi;have hlt:i < ms.length:=by omega
   obtain ⟨rs,hr1,hr2⟩:=DS (hm _ (List.getElem_mem hlt));have hn1:((T.sl ms).nth (T.int (i:Int)).i.toNat)=ms[i]:=vQ hlt
   refine Dr _ _ _ _ (Yields.tt (lt_t hlt) (Yields.tt (pw hlt) ?_));rw[hn1,hr1];refine Yields.obind (recs_i rs hr2) (Yields.tt (decide_eq_true ?_) ?_)
   ·show ((aY ms).take i).length+1≤LIM
    rw[List.length_take];unfold BB at hlen;unfold LIM;omega
   ·rw[AM hlt (DU hlen)];have hk:i < (aY ms).length:=by unfold aY;simpa using hlt
    have e:(aY ms)[i] = .sl rs:=(ub hk hlt).trans hr1
    show Yields (fun k=>D3 (hl env k sR) (.sl ms) (.int (ms.length:Int)) (.int ((i+1:Nat):Int)) (.sl ((aY ms).take i ++ [.sl rs]))) _
    rw[← e,List.take_append_getElem hk];exact ih (i+1) (by omega)
 exact DR _ (key ms.length 0 (by omega))
theorem tF (ms:List T) (hlen:ms.length≤BB) (hm : ∀x∈ms,kW BB x):Yields (fun k=>cl env k d9 [.sl ms]) [.sl (aY ms)]:=by
 have key : ∀(m i:Nat),i+m=ms.length→Yields (fun k=>dC (hl env k E5) (.sl ms) (.int (i:Int)) (.sl ((aY ms).take i))) [.sl (aY ms)]:=by
  intro m;induction m with
  | zero=>
   intro i hi;refine n8 _ _ _ (Yields.ff (FH (by omega)) ?_)
   rw[List.take_of_length_le (by unfold aY;simp;omega)];exact Yields.some _
  | succ m ih=>
   intro i hi;have hlt:i < ms.length:=by omega
   obtain ⟨rs,hr1,hr2⟩:=DS (hm _ (List.getElem_mem hlt));obtain ⟨_,he,hrl,hrr⟩:=hr2;cases he;have hn1:(((T.sl ms).nth (T.int (i:Int)).i.toNat).fld 0) = .sl rs:=by rw[vQ hlt];exact hr1
   have hk:i < (aY ms).length:=by unfold aY;simpa using hlt
   have e:(aY ms)[i] = .sl rs:=(ub hk hlt).trans hr1
   refine n8 _ _ _ (Yields.tt (F2 hlt) ?_);have inner : ∀(m' j:Nat),j+m'=rs.length→Yields (fun k=>dD (hl env k E5) (.sl ms) (.int (i:Int)) (.int (j:Int)) (.sl ((aY ms).take i)) (.sl (rs.take j))) [.sl (aY ms)]:=by
    intro m';induction m' with
    | zero=>
     intro j hj;refine n9 _ _ _ _ _ (Yields.tt (pw hlt) ?_);rw[hn1];refine Yields.ff (FH (by omega)) (Yields.tt (decide_eq_true ?_) ?_)
     ·show ((aY ms).take i).length+1≤LIM
      rw[List.length_take];unfold BB at hlen;unfold LIM;omega
     ·rw[AM hlt (DU hlen),List.take_of_length_le (by omega:rs.length≤j),← e]
      show Yields (fun k=>dC (hl env k E5) (.sl ms) (.int ((i+1:Nat):Int)) (.sl ((aY ms).take i ++ [(aY ms)[i]]))) _
      rw[List.take_append_getElem hk];exact ih (i+1) (by omega)
    | succ m' ih'=>
     intro j hj;have hjt:j < rs.length:=by omega
     have hkr:=hrr _ (List.getElem_mem hjt);obtain ⟨fs,hf,hfl⟩:=rec_fs hkr;refine n9 _ _ _ _ _ (Yields.tt (pw hlt) ?_);rw[hn1];have hn2:((T.sl rs).nth (T.int (j:Int)).i.toNat)=rs[j]:=vQ hjt
     rw[hn2,hf];have e2:T.st [rs[j].fld 0,T.sl (([]:List T)++(T.sl fs).es)]=rs[j]:=by show T.st [rs[j].fld 0,.sl fs]=_;rw[← hf];exact st2' hkr
     refine Yields.tt (F2 hjt) (Yields.tt (pw hjt) (Yields.tt (decide_eq_true ?_) (Yields.tt (decide_eq_true ?_) ?_)))
     ·show ([]:List T).length+fs.length≤LIM
      unfold BB at hfl;unfold LIM;simp;omega
     ·show (rs.take j).length+1≤LIM
      rw[List.length_take];unfold BB at hrl;unfold LIM;omega
     ·rw[e2,AM hjt (DU hrl)];show Yields (fun k=>dD (hl env k E5) (.sl ms) (.int (i:Int)) (.int ((j+1:Nat):Int)) (.sl ((aY ms).take i)) (.sl (rs.take j ++ [rs[j]]))) _
      rw[List.take_append_getElem hjt];exact ih' (j+1) (by omega)
   exact inner rs.length 0 (by omega)
 exact tV _ (key ms.length 0 (by omega))
theorem C9 {x:T} (h:kW BB x) : ∃rs fs fr,x = .st [.sl rs,.sl fs,.sl fr]∧yD BB (.sl rs)∧fs.length≤BB∧(∀x∈fs,j5 BB x)∧fr.length≤BB∧cz fr:=by
 cases h with | mk h1 h2 h3 h4 h5=>exact ⟨_,_,_,rfl,h1,h2,h3,h4,h5⟩
theorem qW (ms:List T):(aY ms).length=ms.length:=by simp[aY]
theorem WV {ms:List T} (hm : ∀x∈ms,kW BB x) {m:Nat} (h:m < ms.length):((T.sl (aY ms)).nth m).es.length≤BB:=by
 rw[bh (by rw[qW];exact h),ub _ h]
 obtain ⟨rs,h1,_,he,h2,_⟩:=DS (hm _ (List.getElem_mem h));cases he;rw[h1];exact h2
theorem Wh (ms:List T) (hlen:ms.length≤BB) (hm : ∀x∈ms,kW BB x) : ∃c,Yields (fun k=>cl env k OZ [.sl ms]) [.bool c]∧Yields (fun k=>cl env k UA [.sl ms]) [.bool c]∧
  (c=true→v8 (aY ms) ms.length 0∧Yields (fun k=>cl env k Gd [.sl (aY ms)]) [.bool true]):=by
 have hkl:(aY ms).length≤BB:=by rw[qW];exact hlen
 obtain ⟨c,y1,y2,y3⟩:=IM (E4 hm) (DU (Nat.le_refl BB)) hkl;have k1:=tF ms hlen hm;have k2:=WI ms hlen hm;by_cases h3:(ms.length:Int) > 3
 ·have hc:c=false:=by
   cases c with
   | false=>rfl
   | true=>have:=(y3 rfl).2.2;rw[qW] at this;omega
  subst hc;exact ⟨false,Qb _ (Yields.obind k1 (Yields.obind y1 (Yields.tt rfl (Yields.some _)))),V7 _ (Yields.tt (decide_eq_true h3) (Yields.some _)),fun h=>by cases h⟩
 cases c with
 | false=>exact ⟨false,Qb _ (Yields.obind k1 (Yields.obind y1 (Yields.tt rfl (Yields.some _)))),V7 _ (Yields.ff (decide_eq_false h3) (Yields.obind k2 (Yields.obind y2 (Yields.tt rfl (Yields.some _))))),fun h=>by cases h⟩
 | true=>
  have key : ∀(n i:Nat),i+n=ms.length→∃c,Yields (fun k=>Of (hl env k NY) (.sl ms) (.int (i:Int)) (.sl (aY ms))) [.bool c]∧
    Yields (fun k=>Ut (hl env k U7) (.sl ms) (.sl ms) (.int (ms.length:Int)) (.int (i:Int)) (.sl (aY ms))) [.bool c]:=by
   intro n;induction n with
   | zero=>intro i hi;exact ⟨true,Pj _ _ _ (Yields.ff (FH (by omega)) (Yields.some _)),Uv _ _ _ _ _ (Yields.ff (lt_f (by omega)) (Yields.some _))⟩
   | succ n ih=>
    intro i hi;have hlt:i < ms.length:=by omega
    obtain ⟨c,z1,z2⟩:=ih (i+1) (by omega)
    obtain ⟨rs,fs,fr,hx,_,hfl,hff,hrl,hrn⟩:=C9 (hm _ (List.getElem_mem hlt));have hn:((T.sl ms).nth (T.int (i:Int)).i.toNat) = .st [.sl rs,.sl fs,.sl fr]:=by rw[vQ hlt,hx]
    have hnx:=AM hlt (DU hlen);have w1:IntKind.wrap .i64 ((T.int (i:Int)).i+(1:Int))=(i:Int)+1:=by show IntKind.wrap .i64 ((i:Int)+1)=_;unfold BB at hlen;rw[bf (by omega) (by omega)]
    have w2:IntKind.wrap .i64 (((T.sl ms).es.length:Int) - (1:Int))=(ms.length:Int) - 1:=by show IntKind.wrap .i64 ((ms.length:Int) - 1)=_;unfold BB at hlen;rw[bf (by omega) (by omega)]
    have r1:=QU fr hrn (DU hrl) ((i:Int)+1) ((ms.length:Int) - 1);have r2:=WM fr hrn (DU hrl) ((i:Int)+1) ((ms.length:Int) - 1);generalize (Po (W7 fr ((i:Int)+1) ((ms.length:Int) - 1)) 0 fr.length&&true)=t at r1 r2
    by_cases h4:(fs.length:Int) > 4
    ·refine ⟨false,Pj _ _ _ (Yields.tt (F2 hlt) (Yields.tt (pw hlt) ?_)),Uv _ _ _ _ _ (Yields.tt (lt_t hlt) (Yields.tt (pw hlt) ?_))⟩
     ·rw[hn];exact Yields.tt (decide_eq_true h4) (Yields.some _)
     ·rw[hn];exact Yields.tt (decide_eq_true h4) (Yields.some _)
    have h4':=decide_eq_false h4;cases t with
    | false=>
     refine ⟨false,Pj _ _ _ (Yields.tt (F2 hlt) (Yields.tt (pw hlt) ?_)),Uv _ _ _ _ _ (Yields.tt (lt_t hlt) (Yields.tt (pw hlt) ?_))⟩
     ·rw[hn,w1,w2];exact Yields.ff h4' (Yields.tt (pw hlt) (Yields.obind r1 (Yields.tt rfl (Yields.some _))))
     ·rw[hn,w1,w2];exact Yields.ff h4' (Yields.obind r2 (Yields.tt rfl (Yields.some _)))
    | true=>
     have hkm:i < (aY ms).length:=by rw[qW];exact hlt
     let fb:Nat→Bool:=fun j=>yB fun k=>cl env k Pt [.sl (aY ms),.int (i:Int),(T.sl fs).nth j]
     have hfb : ∀j (hj:j < fs.length),Yields (fun k=>cl env k Pt [.sl (aY ms),.int (i:Int),fs[j]]) [.bool (fb j)]∧Yields (fun k=>cl env k UK [.sl ((aY ms).take (i+1)),.int (i:Int),fs[j]]) [.bool (fb j)]:=by
      intro j hj;obtain ⟨c,q1,q2⟩:=BO hkm hkl (WV hm hlt) fs[j] (hff _ (List.getElem_mem hj));have:fb j=c:=by show yB _=c;rw[bh hj];exact yB_eq q1
      rw[this];exact ⟨q1,q2⟩
     have res : ∃c',(Po fb 0 fs.length=true→c'=c)∧(Po fb 0 fs.length=false→c'=false):=by
      cases Po fb 0 fs.length with
      | true=>exact ⟨c,fun _=>rfl,fun h=>by cases h⟩
      | false=>exact ⟨false,(fun h=>by cases h),fun _=>rfl⟩
     obtain ⟨c',p1,p2⟩:=res;refine ⟨c',Pj _ _ _ (Yields.tt (F2 hlt) (Yields.tt (pw hlt) ?_)),Uv _ _ _ _ _ (Yields.tt (lt_t hlt) (Yields.tt (pw hlt) ?_))⟩
     ·rw[hn,w1,w2];refine Yields.ff h4' (Yields.tt (pw hlt) (Yields.obind r1 (Yields.ff rfl ?_)));refine W8 (A:=fun j k=>Ou (hl env k NY) (.sl ms) (.int (i:Int)) (.int (j:Int)) (.sl (aY ms))) (t:=fb) (n:=fs.length) (fun j hj a1 a2=>?_) (fun h=>?_) fun h=>by rw[p2 h]
      ·refine Pk _ _ _ _ (Yields.tt (pw hlt) ?_);rw[hn];refine Yields.tt (F2 hj) (Yields.tt (pw hlt) (Yields.tt (pw hj) ?_));have e:((T.st [.sl rs,.sl fs,.sl fr]).fld 1).nth (T.int (j:Int)).i.toNat=fs[j]:=vQ hj
       rw[e];refine Yields.obind (hfb j hj).1 ?_;cases hc:fb j with
       | false=>rw[a1 hc];exact Yields.tt rfl (Yields.some _)
       | true=>
        refine Yields.ff rfl ?_;rw[AM hj (DU hfl)];exact a2 hc
      ·refine Pk _ _ _ _ (Yields.tt (pw hlt) ?_);rw[hn,p1 h];refine Yields.ff (FH (es:=fs) (by omega)) ?_
       rw[hnx];exact z1
     ·rw[hn,w1,w2];refine Yields.ff h4' (Yields.obind r2 (Yields.ff rfl ?_));refine W8 (A:=fun j k=>Uu (hl env k U7) (.sl ms) (.int (i:Int)) (.sl ms) (.int (ms.length:Int)) (.int (i:Int)) (.sl fs) (.int (fs.length:Int)) (.int (j:Int)) (.sl (aY ms))) (t:=fb) (n:=fs.length) (fun j hj a1 a2=>?_) (fun h=>?_) fun h=>by rw[p2 h]
      ·refine Vl _ _ _ _ _ _ _ _ _ (Yields.tt (lt_t hj) (Yields.tt (pw hj) (Yields.tt ?_ ?_)))
       ·rw[w1];simp only[Bool.and_eq_true,decide_eq_true_eq];exact ⟨by omega,by omega,by show (i:Int)+1≤((aY ms).length:Int);omega,by omega⟩
       ·have e:((T.sl (aY ms)).es.take ((IntKind.wrap .i64 ((T.int (i:Int)).i+(1:Int))).toNat)).drop 0=(aY ms).take (i+1):=by
         rw[w1,List.drop_zero,show ((i:Int)+1).toNat=i+1 by omega];rfl
        rw[e,vQ hj];refine Yields.obind (hfb j hj).2 ?_;cases hc:fb j with
        | false=>rw[a1 hc];exact Yields.tt rfl (Yields.some _)
        | true=>
         refine Yields.ff rfl ?_;rw[AM hj (DU hfl)];exact a2 hc
      ·refine Vl _ _ _ _ _ _ _ _ _ (Yields.ff (lt_f (by omega)) ?_)
       rw[p1 h,hnx];exact z2
  obtain ⟨c,z1,z2⟩:=key ms.length 0 (by omega)
  exact ⟨c,Qb _ (Yields.obind k1 (Yields.obind y1 (Yields.ff rfl z1))),V7 _ (Yields.ff (decide_eq_false h3) (Yields.obind k2 (Yields.obind y2 (Yields.ff rfl z2)))),fun _=>⟨by have:=(y3 rfl).1;rwa [qW] at this,y2⟩⟩
theorem clip_ins (l:List T):Yields (fun k=>cl env k gH [.sl l]) [.sl l]:=by
 refine qY _ (Yields.tt ?_ ?_)
 ·simp only[Bool.and_eq_true,decide_eq_true_eq];exact ⟨by omega,by show (0:Int)≤(l.length:Int);omega,by omega,by omega⟩
 ·show Yields (fun _=>some [T.sl ((l.take l.length).drop 0)]) _
  rw[List.take_length,List.drop_zero];exact Yields.some _
theorem BA (l:List T):Yields (fun k=>cl env k kx [.sl l]) [.sl l]:=by
 refine tT _ (Yields.tt ?_ ?_)
 ·simp only[Bool.and_eq_true,decide_eq_true_eq];exact ⟨by omega,by show (0:Int)≤(l.length:Int);omega,by omega,by omega⟩
 ·show Yields (fun _=>some [T.sl ((l.take l.length).drop 0)]) _
  rw[List.take_length,List.drop_zero];exact Yields.some _
theorem nums_i (is:List T) (h:is.length≤BB):Yields (fun k=>cl env k me [.sl is]) [.sl is]:=by
 refine ws _ (Yields.tt (decide_eq_true ?_) (Yields.obind (BA _) ?_))
 ·show ([]:List T).length+is.length≤LIM
  unfold BB at h;unfold LIM;simp;omega
 ·show Yields (fun _=>some [T.sl ((([]++is).take ([]++is).length).drop 0)]) _
  rw[List.take_length,List.drop_zero,List.nil_append];exact Yields.some _
theorem func_i (f:T) (h:j5 BB f):Yields (fun k=>cl env k jq [f]) [f]:=by
 cases h with
 | @mk n ags rs ls tk cd h1 h2 h3 h4 h5 g1 g2 g3 g4 g5=>
  refine wq _ (Yields.tt (decide_eq_true ?_) (Yields.obind (clip_ins _) (Yields.obind (xc ags h1) (Yields.obind (xc rs h2) (Yields.obind (xc ls h3) (Yields.obind (nums_i tk h4) ?_))))))
  ·show ([]:List T).length+cd.length≤LIM
   unfold BB at h5;unfold LIM;simp;omega
  ·show Yields (fun _=>some [T.st [.int n,.sl ags,.sl rs,.sl ls,.sl tk,T.sl ((([]++cd).take ([]++cd).length).drop 0)]]) _
   rw[List.take_length,List.drop_zero,List.nil_append];exact Yields.some _
theorem vN {f:T} (h:j5 BB f):T.st [f.fld 0,f.fld 1,f.fld 2,f.fld 3,f.fld 4,f.fld 5]=f:=by cases h;rfl
def zeroF:T:=.st [.int 0,.sl [],.sl [],.sl [],.sl [],.sl []]
theorem WA (ms:List T) (hlen:ms.length≤BB) (hm : ∀x∈ms,kW BB x) (m f:Int) :
  (Yields (fun k=>cl env k P9 [.sl ms,.int m,.int f]) [.bool false]∧Yields (fun k=>cl env k it [.sl ms,.int m,.int f]) [zeroF,.bool false])∨
  ∃(i j:Nat) (g:T),m=i∧f=j∧i < ms.length∧j < (((T.sl ms).nth i).fld 1).es.length∧(((T.sl ms).nth i).fld 1).nth j=g∧j5 BB g∧
   Yields (fun k=>cl env k P9 [.sl ms,.int m,.int f]) [.bool true]∧Yields (fun k=>cl env k it [.sl ms,.int m,.int f]) [g,.bool true]:=by
 have w1:IntKind.wrap .i64 (((T.sl ms).es.length:Int) - (1:Int))=(ms.length:Int) - 1:=by show IntKind.wrap .i64 ((ms.length:Int) - 1)=_;unfold BB at hlen;rw[bf (by omega) (by omega)]
 have hin:=Vo m 0 ((ms.length:Int) - 1);have no1 : ¬(m≥0∧m≤(ms.length:Int) - 1)→Yields (fun k=>cl env k P9 [.sl ms,.int m,.int f]) [.bool false]:=by
  intro h;have:(decide (m≥0)&&decide (m≤(ms.length:Int) - 1))=false:=by
   rw[Bool.eq_false_iff,ne_eq,Bool.and_eq_true,decide_eq_true_eq,decide_eq_true_eq];exact h
  rw[this] at hin;refine qi _ _ _ ?_;unfold hY;rw[w1];exact Yields.obind hin (Yields.ff rfl (Yields.some _))
 by_cases h1:m < 0
 ·exact .inl ⟨no1 (by omega),fX _ _ _ (Yields.tt (decide_eq_true h1) (Yields.some _))⟩
 by_cases h2:m≥(ms.length:Int)
 ·exact .inl ⟨no1 (by omega),fX _ _ _ (Yields.ff (decide_eq_false h1) (Yields.tt (decide_eq_true h2) (Yields.some _)))⟩
 obtain ⟨i,rfl⟩ : ∃i:Nat,m=i:=⟨m.toNat,by omega⟩
 have hlt:i < ms.length:=by omega
 obtain ⟨rs,fs,fr,hx,_,hfl,hff,_⟩:=C9 (hm _ (List.getElem_mem hlt));have hn:((T.sl ms).nth (T.int (i:Int)).i.toNat) = .st [.sl rs,.sl fs,.sl fr]:=by rw[vQ hlt,hx]
 have hn':((T.sl ms).nth i) = .st [.sl rs,.sl fs,.sl fr]:=by rw[bh hlt,hx]
 have w2:IntKind.wrap .i64 ((fs.length:Int) - (1:Int))=(fs.length:Int) - 1:=by unfold BB at hfl;rw[bf (by omega) (by omega)]
 rw[decide_eq_true (by omega:(i:Int)≥0),decide_eq_true (by omega:(i:Int)≤(ms.length:Int) - 1)] at hin
 have hif:=Vo f 0 ((fs.length:Int) - 1);have has:Yields (fun k=>cl env k P9 [.sl ms,.int i,.int f]) [.bool (decide (f≥0)&&decide (f≤(fs.length:Int) - 1))]:=by
  refine qi _ _ _ ?_;unfold hY;rw[w1,hn];have e:(((T.st [.sl rs,.sl fs,.sl fr]).fld 1).es).length=fs.length:=rfl
  rw[e,w2];exact Yields.obind hin (Yields.tt rfl (Yields.tt (pw hlt) (Yields.obind hif (Yields.some _))))
 by_cases h3:f < 0
 ·rw[decide_eq_false (by omega : ¬f≥0),Bool.false_and] at has
  exact .inl ⟨has,fX _ _ _ (Yields.ff (decide_eq_false h1) (Yields.ff (decide_eq_false h2) (Yields.tt (decide_eq_true h3) (Yields.some _))))⟩
 by_cases h4:f≥(fs.length:Int)
 ·rw[decide_eq_false (by omega : ¬f≤(fs.length:Int) - 1),Bool.and_false] at has
  refine .inl ⟨has,fX _ _ _ (Yields.ff (decide_eq_false h1) (Yields.ff (decide_eq_false h2) (Yields.ff (decide_eq_false h3) (Yields.tt (pw hlt) ?_))))⟩;rw[hn];exact Yields.tt (decide_eq_true h4) (Yields.some _)
 obtain ⟨j,rfl⟩ : ∃j:Nat,f=j:=⟨f.toNat,by omega⟩
 have hj:j < fs.length:=by omega
 rw[decide_eq_true (by omega:(j:Int)≥0),decide_eq_true (by omega:(j:Int)≤(fs.length:Int) - 1)] at has
 have hg:=hff _ (List.getElem_mem hj);refine .inr ⟨i,j,fs[j],rfl,rfl,hlt,by rw[hn'];exact hj,by rw[hn'];exact bh hj,hg,has,fX _ _ _ (Yields.ff (decide_eq_false h1) (Yields.ff (decide_eq_false h2) (Yields.ff (decide_eq_false h3) (Yields.tt (pw hlt) ?_))))⟩
 rw[hn];have e:((T.st [.sl rs,.sl fs,.sl fr]).fld 1).nth (T.int (j:Int)).i.toNat=fs[j]:=vQ hj
 rw[e];refine Yields.ff (decide_eq_false h4) (Yields.tt (pw hlt) (Yields.tt (pw hj) (Yields.obind (func_i _ hg) ?_)));show Yields (fun _=>some [T.st [fs[j].fld 0,fs[j].fld 1,fs[j].fld 2,fs[j].fld 3,fs[j].fld 4,fs[j].fld 5],T.bool true]) _
 rw[vN hg];exact Yields.some _
end Go.Proofs.YtdcnobhlknjnoaaGreatDoor.Ra
