/- A verified evaluator for the program, part Pl1 of this claim. -/
import Derived.Test.YtdcnobhlknjnoaaGreatDoorTRa3
import Derived.Test.YtdcnobhlknjnoaaGreatDoorTEq
import Derived.Laws.Strings
set_option linter.unusedSimpArgs false
set_option linter.unusedVariables false
namespace Go.Proofs.YtdcnobhlknjnoaaGreatDoor.Ra
open Go
theorem Yields.uniq {x:Nat→R} {r r':List T} (h:Yields x r) (h':Yields x r'):r=r':=by
 obtain ⟨m,hm⟩:=h;obtain ⟨n,hn⟩:=h';have h1:=hm (m+n) (by omega)
 rw[hn (m+n) (by omega)] at h1
 exact (Option.some.inj h1).symm
theorem jZ:maxLen=9223372036854775807:=by decide
theorem vQ {es:List T} {i:Nat} (h:i < es.length):(T.sl es).nth (T.int (i:Int)).i.toNat=es[i]:=by
 show (T.sl es).nth ((i:Int).toNat)=es[i]
 rw[Int.toNat_natCast,bh h]
theorem F2 {es:List T} {i:Nat} (h:i < es.length):decide ((T.int (i:Int)).i < ((T.sl es).es.length:Int))=true:=by
 apply decide_eq_true;show (i:Int) < (es.length:Int);omega
theorem FH {es:List T} {i:Nat} (h : ¬i < es.length):decide ((T.int (i:Int)).i < ((T.sl es).es.length:Int))=false:=by
 apply decide_eq_false;show ¬(i:Int) < (es.length:Int);omega
theorem pw {es:List T} {i:Nat} (h:i < es.length):(decide (0≤(T.int (i:Int)).i)&&decide ((T.int (i:Int)).i.toNat < (T.sl es).es.length))=true:=by
 rw[Bool.and_eq_true];refine ⟨decide_eq_true ?_,decide_eq_true ?_⟩
 ·show (0:Int)≤i;omega
 ·show (i:Int).toNat < es.length;omega
theorem AM {n i:Nat} (h:i < n) (hn:n≤maxLen):T.int (IntKind.wrap .i64 ((T.int (i:Int)).i+(1:Int)))=T.int ((i+1:Nat):Int):=by
 rw[jZ] at hn;show T.int (IntKind.wrap .i64 ((i:Int)+1))=_
 rw[bf (by omega) (by omega)]
 rfl
mutual
def T.wt:T→Nat
 | .sl es=>T.wts es+es.length
 | .st fs=>T.wts fs
 | _=>0
def T.wts:List T→Nat
 | []=>0
 | t :: l=>t.wt+T.wts l
end
section
variable {E:Env}
end
inductive EB (b:Nat):T→Prop
 | mk {s:ByteArray} {n:Int} {ps is:List T} : s.size≤maxLen→-9223372036854775808≤n→n≤9223372036854775807→ps.length≤b→is.length≤b→(∀x∈is,∃m:Int,x = .int m)→(∀x∈ps,EB b x)→
   EB b (.st [.str s,.int n,.sl ps,.sl is])
def tv (t:T):Prop:=∃s:ByteArray,t = .str s∧s.size≤maxLen
def DG (b:Nat) (t:T):Prop:=∃(a:Int) (fs:List T),t = .st [.int a,.sl fs]∧-9223372036854775808≤a∧a≤9223372036854775807∧fs.length≤b∧∀x∈fs,tv x
def yD (b:Nat) (t:T):Prop:=∃rs:List T,t = .sl rs∧rs.length≤b∧∀x∈rs,DG b x
def HO (b:Nat) (t:T):Prop:=∃ks:List T,t = .sl ks∧ks.length≤b∧∀x∈ks,yD b x
def Eo (b:Nat) (t:T):Prop:=∃(o:Int) (v:T),t = .st [.int o,v]∧-9223372036854775808≤o∧o≤9223372036854775807∧EB b v
def FV (b:Nat) (t:T):Prop:=∃ks:List T,t = .sl ks∧ks.length≤b∧∀x∈ks,Eo b x
def BB:Nat:=1048576
theorem room {n:Nat} (h:n≤BB):(decide (0≤(n:Int))&&(decide ((n:Int)≤(n:Int))&&decide (n≤LIM)))=true:=by
 unfold BB at h;rw[Bool.and_eq_true,Bool.and_eq_true,decide_eq_true_eq,decide_eq_true_eq,decide_eq_true_eq];exact ⟨by omega,by omega,by unfold LIM;omega⟩
theorem DU {n:Nat} (h:n≤BB):n≤maxLen:=by rw[jZ];unfold BB at h;omega
def bU (s:ByteArray) (i:Nat):Nat:=(s.data.getD i 0).toNat
def O6 (s:ByteArray):Option (Nat × Nat):=
 if s.size=3∧bU s 0=83∧48≤bU s 1∧bU s 1≤57∧48≤bU s 2∧bU s 2≤57 then some (bU s 1 - 48,bU s 2 - 48) else none
def KJ:Option (Nat × Nat)→List T
 | none=>[.int 0,.int 0,.bool false]
 | some (i,j)=>[.int (i:Int),.int (j:Int),.bool true]
theorem wrap8 {n:Int} (h0:0≤n) (h1:n≤255):IntKind.wrap .u8 n=n:=by
 simp only[IntKind.wrap,IntKind.bits,IntKind.signed];have:n % 256=n:=by omega
 simpa using this
theorem digit {n:Nat} (h:48≤n) (h2:n≤57):IntKind.wrap .i64 (IntKind.wrap .u8 ((n:Int) - (48:Int)))=((n - 48:Nat):Int):=by
 rw[wrap8 (by omega) (by omega),bf (by omega) (by omega)];omega
theorem C3 (s:ByteArray):Yields (fun k=>oK (hl env k ii) (cl env k) (.str s)) (KJ (O6 s)):=by
 have no : ∀{x:Nat→R},¬(s.size=3∧bU s 0=83∧48≤bU s 1∧bU s 1≤57∧48≤bU s 2∧bU s 2≤57)→x=(fun _=>some [(T.int (0:Int)),(T.int (0:Int)),(T.bool false)])→Yields x (KJ (O6 s)):=by
  intro x h hx;subst hx;unfold O6;rw[if_neg h];exact Yields.some _
 by_cases hs:s.size=3
 ·have g : ∀i:Nat,i < 3→(decide (0≤(i:Int))&&decide (i < (T.str s).s.size))=true:=fun i hi=>by
   rw[Bool.and_eq_true];exact ⟨decide_eq_true (by omega),decide_eq_true (by show i < s.size;omega)⟩
  refine Yields.ff (by show (((s.size:Nat):Int) != 3)=false;rw[hs];rfl) (Yields.tt (g 0 (by omega)) (Yields.ite (fun h2=>no ?_ rfl) (fun h2=>Yields.tt (g 1 (by omega)) (Yields.ite (fun h3=>no ?_ rfl) (fun h3=>Yields.tt (g 1 (by omega)) (Yields.ite (fun h4=>no ?_ rfl) (fun h4=>Yields.tt (g 2 (by omega)) (Yields.ite (fun h5=>no ?_ rfl) (fun h5=>Yields.tt (g 2 (by omega)) (Yields.ite (fun h6=>no ?_ rfl) (fun h6=>Yields.tt (g 1 (by omega)) (Yields.tt (g 2 (by omega)) ?_))))))))))))
  all_goals simp only[bne_iff_ne,ne_eq,bne_eq_false_iff_eq,decide_eq_true_eq,decide_eq_false_iff_not] at *
  ·intro ⟨_,c,_⟩;unfold bU at c;exact h2 (by exact_mod_cast c)
  ·intro ⟨_,_,c,_⟩;unfold bU at c;have:((s.data.getD 1 0).toNat:Int) < 48:=h3;omega
  ·intro ⟨_,_,_,c,_⟩;unfold bU at c;have:((s.data.getD 1 0).toNat:Int) > 57:=h4;omega
  ·intro ⟨_,_,_,_,c,_⟩;unfold bU at c;have:((s.data.getD 2 0).toNat:Int) < 48:=h5;omega
  ·intro ⟨_,_,_,_,_,c⟩;unfold bU at c;have:((s.data.getD 2 0).toNat:Int) > 57:=h6;omega
  ·have e2:((s.data.getD 0 0).toNat:Int)=83:=h2
   have e3 : ¬((s.data.getD 1 0).toNat:Int) < 48:=h3
   have e4 : ¬((s.data.getD 1 0).toNat:Int) > 57:=h4
   have e5 : ¬((s.data.getD 2 0).toNat:Int) < 48:=h5
   have e6 : ¬((s.data.getD 2 0).toNat:Int) > 57:=h6
   have hk:O6 s=some (bU s 1 - 48,bU s 2 - 48):=by
    unfold O6;rw[if_pos ⟨hs,by unfold bU;omega,by unfold bU;omega,by unfold bU;omega,by unfold bU;omega,by unfold bU;omega⟩]
   rw[hk];have d1:IntKind.wrap .i64 (IntKind.wrap .u8 (((T.str s).s.data.getD 1 0).toNat - (48:Int)))=((bU s 1 - 48:Nat):Int):=digit (by omega) (by omega)
   have d2:IntKind.wrap .i64 (IntKind.wrap .u8 (((T.str s).s.data.getD 2 0).toNat - (48:Int)))=((bU s 2 - 48:Nat):Int):=digit (by omega) (by omega)
   rw[d1,d2];exact Yields.some _
 ·refine Yields.tt (bne_iff_ne.2 ?_) (no (fun h=>hs h.1) rfl)
  show ¬((s.size:Nat):Int)=3
  omega
theorem zl (s:ByteArray):Yields (fun k=>cl env k cU [.str s]) (KJ (O6 s)):=yp _ (C3 s)
theorem Nb (s:ByteArray):Yields (fun k=>cl env k Fu [.str s]) (KJ (O6 s)):=MY _ (C3 s)
theorem ma {s:ByteArray} {i j:Nat} (h:O6 s=some (i,j)):s.size=3∧bU s 0=83∧i≤9∧j≤9:=by
 unfold O6 at h;split at h
 ·rename_i hc
  simp only[Option.some.injEq,Prod.mk.injEq] at h;obtain ⟨rfl,rfl⟩:=h;exact ⟨hc.1,hc.2.1,by omega,by omega⟩
 ·cases h
def dw (s:ByteArray):Bool:=s.toList==(⟨#[110]⟩:ByteArray).toList||(s.toList==(⟨#[98]⟩:ByteArray).toList||s.toList==(⟨#[111]⟩:ByteArray).toList)
theorem base_s (s:ByteArray):Yields (fun k=>cl env k kU [.str s]) [.bool (dw s)]:=by
 refine yo _ (Yields.ite (fun h=>?_) (fun h=>Yields.ite (fun h2=>?_) (fun h2=>?_)))
 ·have:dw s=true:=by unfold dw;rw[show (s.toList==(⟨#[110]⟩:ByteArray).toList)=true from h];rfl
  rw[this];exact Yields.some _
 ·have:dw s=true:=by unfold dw;rw[show (s.toList==(⟨#[98]⟩:ByteArray).toList)=true from h2];simp
  rw[this];exact Yields.some _
 ·have:dw s=(s.toList==(⟨#[111]⟩:ByteArray).toList):=by
   unfold dw;rw[show (s.toList==(⟨#[110]⟩:ByteArray).toList)=false from h,show (s.toList==(⟨#[98]⟩:ByteArray).toList)=false from h2];simp
  rw[this];exact Yields.some _
theorem byte1 {s:ByteArray} {c:UInt8} (h:(s.toList==(⟨#[c]⟩:ByteArray).toList)=true):s.size=1∧bU s 0=c.toNat:=by
 rw[beq_iff_eq,ByteArray.toList_eq,ByteArray.toList_eq] at h;have hs:s=⟨#[c]⟩:=WideShapes.bytes_inj h
 subst hs;exact ⟨rfl,rfl⟩
theorem sG {s:ByteArray} (h:dw s=true):s.size=1∧(bU s 0=110∨bU s 0=98∨bU s 0=111):=by
 unfold dw at h;rw[Bool.or_eq_true,Bool.or_eq_true] at h;rcases h with h | h | h
 ·obtain ⟨a,b⟩:=byte1 h;exact ⟨a,.inl b⟩
 ·obtain ⟨a,b⟩:=byte1 h;exact ⟨a,.inr (.inl b)⟩
 ·obtain ⟨a,b⟩:=byte1 h;exact ⟨a,.inr (.inr b)⟩
theorem sF {s:ByteArray} (h:dw s=true):O6 s=none:=by
 cases hk:O6 s with
 | none=>rfl
 | some x=>
  obtain ⟨i,j⟩:=x;have:=(ma hk).1
  have:=(sG h).1
  omega
def lS (ks:List T) (i j:Nat):Bool:=decide (i < ks.length)&&decide (j < ((T.sl ks).nth i).es.length)
theorem KH (ks:List T) (i j:Nat):Yields (fun k=>cl env k mg [.sl ks,.int (i:Int),.int (j:Int)]) [.bool (lS ks i j)]:=by
 refine A0 _ _ _ ?_;by_cases h:i < ks.length
 ·refine Yields.tt (F2 h) (Yields.tt (pw h) ?_);have:lS ks i j=decide ((T.int (j:Int)).i < ((((T.sl ks).nth (T.int (i:Int)).i.toNat).es).length:Int)):=by
   unfold lS;rw[decide_eq_true h,Bool.true_and];show _=decide ((j:Int) < (((T.sl ks).nth ((i:Int).toNat)).es.length:Int))
   rw[Int.toNat_natCast];by_cases hj:j < ((T.sl ks).nth i).es.length
   ·rw[decide_eq_true hj,decide_eq_true (by omega)]
   ·rw[decide_eq_false hj,decide_eq_false (by omega)]
  rw[this];exact Yields.some _
 ·have:lS ks i j=false:=by unfold lS;rw[decide_eq_false h];rfl
  rw[this];exact Yields.ff (FH h) (Yields.some _)
def nQ (ks:List T) (s:ByteArray):Bool:=match O6 s with
 | some (i,j)=>lS ks i j
 | none=>false
theorem Jq (ks:List T) (s:ByteArray):Yields (fun k=>cl env k ER [.sl ks,.str s]) [.bool (nQ ks s)]:=by
 refine MZ _ _ (Yields.obind (Nb s) ?_);unfold nQ;cases hk:O6 s with
 | none=>exact Yields.ff rfl (Yields.some _)
 | some x=>
  obtain ⟨i,j⟩:=x;refine Yields.tt rfl ?_;simp only
  by_cases h:i < ks.length
  ·refine Yields.tt (F2 h) (Yields.tt (pw h) ?_);have:lS ks i j=decide ((T.int (j:Int)).i < ((((T.sl ks).nth (T.int (i:Int)).i.toNat).es).length:Int)):=by
    unfold lS;rw[decide_eq_true h,Bool.true_and];show _=decide ((j:Int) < (((T.sl ks).nth ((i:Int).toNat)).es.length:Int))
    rw[Int.toNat_natCast];by_cases hj:j < ((T.sl ks).nth i).es.length
    ·rw[decide_eq_true hj,decide_eq_true (by omega)]
    ·rw[decide_eq_false hj,decide_eq_false (by omega)]
   rw[this];exact Yields.some _
  ·have:lS ks i j=false:=by unfold lS;rw[decide_eq_false h];rfl
   rw[this];exact Yields.ff (FH h) (Yields.some _)
theorem JO (ks:List T) (s:ByteArray):Yields (fun k=>cl env k ET [.sl ks,.str s]) [.bool (dw s||nQ ks s)]:=by
 refine Mn _ _ (Yields.ite (fun h=>?_) (fun h=>Yields.ite (fun h2=>?_) (fun h2=>Yields.ite (fun h3=>?_) (fun h3=>?_))))
 ·have:dw s=true:=by unfold dw;rw[show (s.toList==(⟨#[110]⟩:ByteArray).toList)=true from h];rfl
  rw[this];exact Yields.some _
 ·have:dw s=true:=by unfold dw;rw[show (s.toList==(⟨#[98]⟩:ByteArray).toList)=true from h2];simp
  rw[this];exact Yields.some _
 ·have:dw s=true:=by unfold dw;rw[show (s.toList==(⟨#[111]⟩:ByteArray).toList)=true from h3];simp
  rw[this];exact Yields.some _
 ·have:dw s=false:=by
   unfold dw;rw[show (s.toList==(⟨#[110]⟩:ByteArray).toList)=false from h,show (s.toList==(⟨#[98]⟩:ByteArray).toList)=false from h2,show (s.toList==(⟨#[111]⟩:ByteArray).toList)=false from h3];rfl
  rw[this];exact Yields.obind (Jq ks s) (Yields.some _)
theorem wb {ks:List T} {s:ByteArray} (h:(dw s||nQ ks s)=true):0 < s.size∧bU s 0≠38∧bU s 0≠33:=by
 rw[Bool.or_eq_true] at h;rcases h with h | h
 ·obtain ⟨h1,h2⟩:=sG h;exact ⟨by omega,by omega,by omega⟩
 ·unfold nQ at h;split at h
  ·rename_i i j hk
   obtain ⟨h1,h2,_⟩:=ma hk;exact ⟨by omega,by omega,by omega⟩
  ·cases h
def tA (ks:List T) (s:ByteArray):T:=match O6 s with
 | some (i,j)=>(((T.sl ks).nth i).nth j).fld 0
 | none=>.int 7
theorem LH {s:ByteArray} : ((s.data.getD 0 0).toNat:Int)=(bU s 0:Int):=rfl
theorem ref_s {s:ByteArray} (h0:0 < s.size) (h1:bU s 0≠38) (h2:bU s 0≠33):Yields (fun k=>cl env k bO [.str s]) [.bool false]:=by
 refine tp _ (Yields.tt ?_ (Yields.tt ?_ (Yields.ff ?_ (Yields.tt ?_ ?_))))
 ·apply decide_eq_true;show (s.size:Int) > 0;omega
 ·rw[Bool.and_eq_true];exact ⟨rfl,decide_eq_true h0⟩
 ·show (((s.data.getD 0 0).toNat:Int)==38)=false
  rw[beq_eq_false_iff_ne,LH];omega
 ·rw[Bool.and_eq_true];exact ⟨rfl,decide_eq_true h0⟩
 ·have:((((T.str s).s.data.getD 0 0).toNat:Int)==33)=false:=by
   show (((s.data.getD 0 0).toNat:Int)==33)=false
   rw[beq_eq_false_iff_ne,LH];omega
  rw[this];exact Yields.some _
theorem rk {ks:List T} {i j:Nat} (h:lS ks i j=true):i < ks.length∧j < ((T.sl ks).nth i).es.length:=by
 unfold lS at h;rw[Bool.and_eq_true,decide_eq_true_eq,decide_eq_true_eq] at h;exact h
theorem JP {ks:List T} {i j:Nat} (h:j < ((T.sl ks).nth i).es.length):(decide (0≤(T.int (j:Int)).i)&&decide (((T.int (j:Int)).i).toNat < (((T.sl ks).nth ((T.int (i:Int)).i.toNat)).es).length))=true:=by
 rw[Bool.and_eq_true];refine ⟨decide_eq_true ?_,decide_eq_true ?_⟩
 ·show (0:Int)≤j;omega
 ·show (j:Int).toNat < (((T.sl ks).nth ((i:Int).toNat)).es).length
  rw[Int.toNat_natCast,Int.toNat_natCast];exact h
theorem Lw (ks:List T) (s:ByteArray) (h:(dw s||nQ ks s)=true):Yields (fun k=>cl env k eD [.sl ks,.str s]) [tA ks s]:=by
 obtain ⟨h0,h1,h2⟩:=wb h;refine se _ _ (Yields.obind (ref_s h0 h1 h2) (Yields.ff rfl (Yields.obind (ref_s h0 h1 h2) (Yields.ff rfl (Yields.obind (zl s) ?_)))));unfold tA;cases hk:O6 s with
 | none=>exact Yields.ff rfl (Yields.some _)
 | some x=>
  obtain ⟨i,j⟩:=x;have hh:lS ks i j=true:=by
   rw[Bool.or_eq_true] at h;rcases h with h | h
   ·rw[sF h] at hk;cases hk
   ·unfold nQ at h;rw[hk] at h;exact h
  obtain ⟨g1,g2⟩:=rk hh;refine Yields.tt rfl (Yields.tt (pw g1) (Yields.tt (JP g2) ?_));exact Yields.some _
theorem Ml (ks:List T) {s:ByteArray} {i j:Nat} (hk:O6 s=some (i,j)) (hh:lS ks i j=true):Yields (fun k=>cl env k F3 [.sl ks,.str s]) [((T.sl ks).nth i).nth j]:=by
 obtain ⟨g1,g2⟩:=rk hh;refine LY _ _ (Yields.obind (Nb s) ?_);rw[hk];exact Yields.tt (pw g1) (Yields.tt (JP g2) (Yields.some _))
theorem sign_i {s:ByteArray} (h0:0 < s.size) (h1:bU s 0≠38) (h2:bU s 0≠33):Yields (fun k=>cl env k IB [.str s]) [.str ⟨#[]⟩,.str s]:=by
 refine N0 _ (Yields.tt ?_ (Yields.tt ?_ (Yields.ff ?_ (Yields.tt ?_ (Yields.ff ?_ (Yields.some _))))))
 ·show (!(s.toList==(⟨#[]⟩:ByteArray).toList))=true
  rw[Bool.not_eq_true',beq_eq_false_iff_ne,ByteArray.toList_eq,ByteArray.toList_eq];intro he;have:s=⟨#[]⟩:=WideShapes.bytes_inj he
  subst this;exact absurd h0 (by decide)
 ·rw[Bool.and_eq_true];exact ⟨rfl,decide_eq_true h0⟩
 ·show (((s.data.getD 0 0).toNat:Int)==38)=false
  rw[beq_eq_false_iff_ne,LH];omega
 ·rw[Bool.and_eq_true];exact ⟨rfl,decide_eq_true h0⟩
 ·show (((s.data.getD 0 0).toNat:Int)==33)=false
  rw[beq_eq_false_iff_ne,LH];omega
theorem emp_ne (c:UInt8):((⟨#[]⟩:ByteArray).toList==(⟨#[c]⟩:ByteArray).toList)=false:=by
 rw[beq_eq_false_iff_ne,ByteArray.toList_eq,ByteArray.toList_eq];intro h;cases h
theorem able_i (ks:List T) (s:ByteArray) (h:(dw s||nQ ks s)=true):Yields (fun k=>cl env k Ft [.sl ks,.str s]) [tA ks s]:=by
 obtain ⟨h0,h1,h2⟩:=wb h;refine MX _ _ (Yields.obind (sign_i h0 h1 h2) (Yields.ff (emp_ne 38) (Yields.ff (emp_ne 33) (Yields.obind (Jq ks s) ?_))));unfold tA;cases hk:O6 s with
 | none=>
  have:nQ ks s=false:=by unfold nQ;rw[hk]
  rw[this];exact Yields.ff rfl (Yields.some _)
 | some x=>
  obtain ⟨i,j⟩:=x;have hh:lS ks i j=true:=by
   rw[Bool.or_eq_true] at h;rcases h with h | h
   ·rw[sF h] at hk;cases hk
   ·unfold nQ at h;rw[hk] at h;exact h
  have:nQ ks s=true:=by unfold nQ;rw[hk];exact hh
  rw[this];exact Yields.tt rfl (Yields.obind (Ml ks hk hh) (Yields.some _))
def eV (ks:List T) (m k:Nat) (s:ByteArray):Bool:=match O6 s with
 | none=>dw s
 | some (i,j)=>lS ks i j&&(decide (i < m)||(decide (i=m)&&decide (j < k)))
theorem vZ (a b:Nat):decide ((T.int (a:Int)).i < (T.int (b:Int)).i)=decide (a < b):=by
 show decide ((a:Int) < (b:Int))=decide (a < b)
 by_cases h:a < b
 ·rw[decide_eq_true h,decide_eq_true (by omega)]
 ·rw[decide_eq_false h,decide_eq_false (by omega)]
theorem Km (a b:Nat):((T.int (a:Int)).i==(T.int (b:Int)).i)=decide (a=b):=by
 show ((a:Int)==(b:Int))=decide (a=b)
 by_cases h:a=b
 ·subst h;simp
 ·rw[decide_eq_false h,beq_eq_false_iff_ne];omega
theorem Nq (ks:List T) (m k:Nat) (s:ByteArray):Yields (fun r=>cl env r kh [.sl ks,.int (m:Int),.int (k:Int),.str s]) [.bool (eV ks m k s)]:=by
 refine xl _ _ _ _ (Yields.obind (zl s) ?_);unfold eV;cases hk:O6 s with
 | none=>exact Yields.tt rfl (Yields.obind (base_s s) (Yields.some _))
 | some x=>
  obtain ⟨i,j⟩:=x;refine Yields.ff rfl (Yields.obind (KH ks i j) ?_);simp only
  cases hh:lS ks i j with
  | false=>exact Yields.ff rfl (Yields.some _)
  | true=>
   refine Yields.tt rfl ?_;refine Yields.ite (fun h=>?_) (fun h=>Yields.ite (fun h2=>?_) (fun h2=>?_))
   ·have h':decide (i < m)=true:=by rw[← vZ];exact h
    rw[h'];exact Yields.some _
   ·have h':decide (i < m)=false:=by rw[← vZ];exact h
    have h2':decide (i=m)=true:=by rw[← Km];exact h2
    rw[h',h2',Bool.true_and,Bool.false_or,Bool.true_and,← vZ];exact Yields.some _
   ·have h':decide (i < m)=false:=by rw[← vZ];exact h
    have h2':decide (i=m)=false:=by rw[← Km];exact h2
    rw[h',h2'];exact Yields.some _
theorem o7 {ks:List T} {m k:Nat} {s:ByteArray} (h:eV ks m k s=true):(dw s||nQ ks s)=true:=by
 unfold eV at h;unfold nQ;cases hk:O6 s with
 | none=>rw[hk] at h;simp only at h;rw[h];rfl
 | some x=>
  obtain ⟨i,j⟩:=x;rw[hk] at h;simp only[Bool.and_eq_true] at h;simp only[h.1,Bool.or_true]
def FT (a f:Int):Bool:=
 !((a.tdiv 1).tmod 2==1 && !((f.tdiv 1).tmod 2==1))&&(!((a.tdiv 2).tmod 2==1 && !((f.tdiv 2).tmod 2==1)) && !(decide (a≥4) && !((f.tdiv 4).tmod 2==1)))
def G5 (x y:Int):Int:=IntKind.wrap .i64 ((BitVec.ofInt (IntKind.i64).bits x &&& BitVec.ofInt (IntKind.i64).bits y).toNat:Nat)
def IY (x y:Int):Int:=IntKind.wrap .i64 ((BitVec.ofInt (IntKind.i64).bits x &&& ~~~ BitVec.ofInt (IntKind.i64).bits y).toNat:Nat)
def stepI (a f:Int):Bool:=!(IY (G5 a 7) f != 0) && !((G5 a 8 != 0)&&(G5 f 4==0))
theorem step_fin : ∀(a f:Fin 16),stepI (a.val:Int) (f.val:Int)=FT (a.val:Int) (f.val:Int):=by decide +kernel
theorem step_eq {a f:Int} (h0:0≤a) (h1:a≤15) (h2:0≤f) (h3:f≤15):stepI a f=FT a f:=by
 have:=step_fin ⟨a.toNat,by omega⟩ ⟨f.toNat,by omega⟩
 simp only at this
 rwa [Int.toNat_of_nonneg h0,Int.toNat_of_nonneg h2] at this
theorem JV (a:Int) (p:Int) (ha:0≤a∧a≤15) (hp:p=1∨p=2∨p=4∨p=8):Yields (fun k=>cl env k bH [.int a,.int p]) [.bool ((a.tdiv p).tmod 2==1)]:=by
 have hw:IntKind.wrap .i64 (a.tdiv p)=a.tdiv p:=by
  have h1:0≤a.tdiv p:=Int.tdiv_nonneg ha.1 (by omega)
  have h2:a.tdiv p≤a:=by rw[Int.tdiv_eq_ediv_of_nonneg ha.1];exact Int.ediv_le_self _ ha.1
  exact bf (by omega) (by omega)
 refine zZ _ _ (Yields.tt ?_ (Yields.tt rfl ?_))
 ·rcases hp with rfl | rfl | rfl | rfl <;> rfl
 ·show Yields (fun _=>some [T.bool (((IntKind.wrap .i64 (a.tdiv p)).tmod 2)==1)]) _
  rw[hw];exact Yields.some _
theorem tail_s {a f:Int} (ha:0≤a∧a≤15) (hf:0≤f∧f≤15) {N:Nat→R} {r:List T} (no:FT a f=false→r = [.bool false]) (yes:FT a f=true→Yields N r) :
  Yields (fun k=>obind (cl env k bH [(T.int a),(T.int (1:Int))]) fun r3=>
    bif (rt r3 0).b then
     obind (cl env k bH [(T.int f),(T.int (1:Int))]) fun r4=>
     bif (!(rt r4 0).b) then
      some [(T.bool false)]
     else
      obind (cl env k bH [(T.int a),(T.int (2:Int))]) fun r5=>
      bif (rt r5 0).b then
       obind (cl env k bH [(T.int f),(T.int (2:Int))]) fun r6=>
       bif (!(rt r6 0).b) then
        some [(T.bool false)]
       else
        bif (decide (a≥(4:Int))) then
         obind (cl env k bH [(T.int f),(T.int (4:Int))]) fun r7=>
         bif (!(rt r7 0).b) then
          some [(T.bool false)]
         else
          N k
        else
         N k
      else
       bif (decide (a≥(4:Int))) then
        obind (cl env k bH [(T.int f),(T.int (4:Int))]) fun r6=>
        bif (!(rt r6 0).b) then
         some [(T.bool false)]
        else
         N k
       else
        N k
    else
     obind (cl env k bH [(T.int a),(T.int (2:Int))]) fun r4=>
     bif (rt r4 0).b then
      obind (cl env k bH [(T.int f),(T.int (2:Int))]) fun r5=>
      bif (!(rt r5 0).b) then
       some [(T.bool false)]
      else
       bif (decide (a≥(4:Int))) then
        obind (cl env k bH [(T.int f),(T.int (4:Int))]) fun r6=>
        bif (!(rt r6 0).b) then
         some [(T.bool false)]
        else
         N k
       else
        N k
     else
      bif (decide (a≥(4:Int))) then
       obind (cl env k bH [(T.int f),(T.int (4:Int))]) fun r5=>
       bif (!(rt r5 0).b) then
        some [(T.bool false)]
       else
        N k
      else
       N k) r:=by
 have p1:(1:Int)=1∨(1:Int)=2∨(1:Int)=4∨(1:Int)=8:=.inl rfl
 have p2:(2:Int)=1∨(2:Int)=2∨(2:Int)=4∨(2:Int)=8:=.inr (.inl rfl)
 have p4:(4:Int)=1∨(4:Int)=2∨(4:Int)=4∨(4:Int)=8:=.inr (.inr (.inl rfl))
 unfold FT at no yes;generalize hc1:((a.tdiv 1).tmod 2==1)=c1 at no yes
 generalize hc2:((a.tdiv 2).tmod 2==1)=c2 at no yes
 generalize hd1:((f.tdiv 1).tmod 2==1)=d1 at no yes
 generalize hd2:((f.tdiv 2).tmod 2==1)=d2 at no yes
 generalize hd4:((f.tdiv 4).tmod 2==1)=d4 at no yes
 generalize hc4:decide (a≥4)=c4 at no yes
 have a1:=JV a 1 ha p1;have a2:=JV a 2 ha p2;have f1:=JV f 1 hf p1;have f2:=JV f 2 hf p2;have f4:=JV f 4 hf p4;rw[hc1] at a1;rw[hc2] at a2;rw[hd1] at f1;rw[hd2] at f2;rw[hd4] at f4;have nn : ∀{x:Nat→R},x=(fun _=>some [(T.bool false)])→r = [.bool false]→Yields x r:=fun hx hr=>by subst hx;subst hr;exact Yields.some _
 have last:(c1 && !d1)=false→(c2 && !d2)=false→Yields (fun k=>bif c4 then obind (cl env k bH [(T.int f),(T.int (4:Int))]) fun r5=>
       bif (!(rt r5 0).b) then
        some [(T.bool false)]
       else
        N k
      else
       N k) r:=by
  intro h1 h2;cases c4 with
  | false=>exact yes (by rw[h1,h2];rfl)
  | true=>
   refine Yields.tt rfl (Yields.obind f4 ?_);cases d4 with
   | false=>exact Yields.tt rfl (nn rfl (no (by rw[h1,h2];rfl)))
   | true=>exact Yields.ff rfl (yes (by rw[h1,h2];rfl))
 cases c1 with
 | true=>
  refine Yields.obind a1 (Yields.tt rfl (Yields.obind f1 ?_));cases d1 with
  | false=>exact Yields.tt rfl (nn rfl (no rfl))
  | true=>
   refine Yields.ff rfl (Yields.obind a2 ?_);cases c2 with
   | true=>
    refine Yields.tt rfl (Yields.obind f2 ?_);cases d2 with
    | false=>exact Yields.tt rfl (nn rfl (no rfl))
    | true=>exact Yields.ff rfl (last rfl rfl)
   | false=>exact Yields.ff rfl (last rfl rfl)
 | false=>
  refine Yields.obind a1 (Yields.ff rfl (Yields.obind a2 ?_));cases c2 with
  | true=>
   refine Yields.tt rfl (Yields.obind f2 ?_);cases d2 with
   | false=>exact Yields.tt rfl (nn rfl (no rfl))
   | true=>exact Yields.ff rfl (last rfl rfl)
  | false=>exact Yields.ff rfl (last rfl rfl)
theorem Ng {ks:List T} {s:ByteArray} {a f:Int} (ha:0≤a∧a≤15) (hp:(dw s||nQ ks s)=true→tA ks s = .int f∧0≤f∧f≤15) {N:Nat→R} {r:List T}
  (no1:(dw s||nQ ks s)=false→r = [.bool false]) (no:(dw s||nQ ks s)=true→FT a f=false→r = [.bool false]) (yes:(dw s||nQ ks s)=true→FT a f=true→Yields N r) :
  Yields (fun k=>obind (cl env k ET [.sl ks,.str s]) fun r2=>
    bif (!(rt r2 0).b) then
     some [(T.bool false)]
    else
     obind (cl env k Ft [.sl ks,.str s]) fun r3=>
     bif (IY (G5 a 7) (rt r3 0).i != (0:Int)) then
      some [(T.bool false)]
     else
      bif (G5 a 8 != (0:Int)) then
       bif (G5 (rt r3 0).i 4==(0:Int)) then
        some [(T.bool false)]
       else
        N k
      else
       N k) r:=by
 have nn : ∀{x:Nat→R},x=(fun _=>some [(T.bool false)])→r = [.bool false]→Yields x r:=fun hx hr=>by subst hx;subst hr;exact Yields.some _
 refine Yields.obind (JO ks s) ?_;cases hpl:(dw s||nQ ks s) with
 | false=>exact Yields.tt rfl (nn rfl (no1 hpl))
 | true=>
  obtain ⟨h1,h2⟩:=hp hpl;have hab:=able_i ks s hpl;rw[h1] at hab;refine Yields.ff rfl (Yields.obind hab ?_);have hst:=step_eq ha.1 ha.2 h2.1 h2.2;unfold stepI at hst;refine Yields.ite (fun e1=>nn rfl (no hpl ?_)) (fun e1=>Yields.ite (fun e2=>Yields.ite (fun e3=>nn rfl (no hpl ?_)) (fun e3=>yes hpl ?_)) (fun e2=>yes hpl ?_))
  ·rw[← hst,show (IY (G5 a 7) f != 0)=true from e1];rfl
  ·rw[← hst,show (IY (G5 a 7) f != 0)=false from e1,show (G5 a 8 != 0)=true from e2,show (G5 f 4==0)=true from e3];rfl
  ·rw[← hst,show (IY (G5 a 7) f != 0)=false from e1,show (G5 a 8 != 0)=true from e2,show (G5 f 4==0)=false from e3];rfl
  ·rw[← hst,show (IY (G5 a 7) f != 0)=false from e1,show (G5 a 8 != 0)=false from e2];rfl
def v8 (ks:List T) (m k:Nat):Prop:=∀i j,(i < m∨(i=m∧j < k))→i < ks.length→j < ((T.sl ks).nth i).es.length→∃a:Int,(((T.sl ks).nth i).nth j).fld 0 = .int a∧0≤a∧a≤15
theorem Be {ks:List T} {m k:Nat} {s:ByteArray} (he:v8 ks m k) (h:eV ks m k s=true) : ∃f:Int,tA ks s = .int f∧0≤f∧f≤15:=by
 unfold eV at h;unfold tA;cases hk:O6 s with
 | none=>exact ⟨7,rfl,by omega,by omega⟩
 | some x=>
  obtain ⟨i,j⟩:=x;rw[hk] at h;simp only[Bool.and_eq_true,Bool.or_eq_true,decide_eq_true_eq] at h;obtain ⟨g1,g2⟩:=rk h.1;exact he i j h.2 g1 g2
theorem Ni {ks:List T} {m k:Nat} {a:Int} {fs:List T} (he:v8 ks m k) (ha:0≤a∧a≤15) (hl:fs.length≤maxLen) (hs : ∀x∈fs,tv x) :
  ∃b,Yields (fun r=>bQ (Ra.hl env r bV) (.sl ks) (.int (m:Int)) (.int (k:Int)) (.int 0) (.st [.int a,.sl fs])) [.bool b]∧
   Yields (fun r=>Ef (Ra.hl env r Eb) (.sl ks) (.int (m:Int)) (.int (k:Int)) (.sl fs) (.int (fs.length:Int)) (.int 0) (.st [.int a,.sl fs])) [.bool b]:=by
 have key : ∀(n i:Nat),i+n=fs.length→∃b,Yields (fun r=>bQ (Ra.hl env r bV) (.sl ks) (.int (m:Int)) (.int (k:Int)) (.int (i:Int)) (.st [.int a,.sl fs])) [.bool b]∧
   Yields (fun r=>Ef (Ra.hl env r Eb) (.sl ks) (.int (m:Int)) (.int (k:Int)) (.sl fs) (.int (fs.length:Int)) (.int (i:Int)) (.st [.int a,.sl fs])) [.bool b]:=by
  intro n;induction n with
  | zero=>
   intro i hi;refine ⟨true,pg _ _ _ _ _ (Yields.ff (FH (by omega)) (Yields.some _)),IU _ _ _ _ _ _ _ (Yields.ff ?_ (Yields.some _))⟩
   rw[vZ];exact decide_eq_false (by omega)
  | succ n ih=>
   intro i hi;have hlt:i < fs.length:=by omega
   obtain ⟨b,y1,y2⟩:=ih (i+1) (by omega)
   obtain ⟨s,hs1,hs2⟩:=hs _ (List.getElem_mem hlt);have hnth:((T.sl fs).nth (T.int (i:Int)).i.toNat) = .str s:=by rw[vQ hlt,hs1]
   have hnx:=AM hlt hl;have c1:decide ((T.int (i:Int)).i < (T.int (fs.length:Int)).i)=true:=by rw[vZ];exact decide_eq_true hlt
   have spec : ∀b',(eV ks m k s=false→b'=false)→(∀f,eV ks m k s=true→tA ks s = .int f→0≤f→f≤15→(FT a f=false→b'=false)∧(FT a f=true→b'=b))→
     Yields (fun r=>bQ (Ra.hl env r bV) (.sl ks) (.int (m:Int)) (.int (k:Int)) (.int (i:Int)) (.st [.int a,.sl fs])) [.bool b']:=by
    intro b' q1 q2;refine pg _ _ _ _ _ (Yields.tt (F2 hlt) (Yields.tt (pw hlt) ?_));have hf:=Nq ks m k s;rw[← hnth] at hf;refine Yields.obind hf ?_;cases hfb:eV ks m k s with
    | false=>
     rw[q1 hfb];exact Yields.tt rfl (Yields.some _)
    | true=>
     obtain ⟨f,hf1,hf2,hf3⟩:=Be he hfb;obtain ⟨q3,q4⟩:=q2 f hfb hf1 hf2 hf3;have hab:=Lw ks s (o7 hfb);rw[hf1,← hnth] at hab;refine Yields.ff rfl (Yields.obind hab ?_);refine tail_s ha ⟨hf2,hf3⟩ (N:=fun r=>bQ (Ra.hl env r bV) (.sl ks) (.int (m:Int)) (.int (k:Int)) (T.int (IntKind.wrap .i64 ((T.int (i:Int)).i+(1:Int)))) (.st [.int a,.sl fs]))
      (fun h=>by rw[q3 h]) fun h=>?_
     rw[q4 h,hnx];exact y1
   have impl : ∀b',(eV ks m k s=false→b'=false)→(∀f,eV ks m k s=true→tA ks s = .int f→0≤f→f≤15→(FT a f=false→b'=false)∧(FT a f=true→b'=b))→
     Yields (fun r=>Ef (Ra.hl env r Eb) (.sl ks) (.int (m:Int)) (.int (k:Int)) (.sl fs) (.int (fs.length:Int)) (.int (i:Int)) (.st [.int a,.sl fs])) [.bool b']:=by
    intro b' q1 q2;refine IU _ _ _ _ _ _ _ (Yields.tt c1 (Yields.tt (pw hlt) ?_));rw[hnth,hnx];have tail:(eV ks m k s=(dw s||nQ ks s))→∀{Z:Nat→R},(∀{f:Int},((dw s||nQ ks s)=true→tA ks s = .int f∧0≤f∧f≤15)→((dw s||nQ ks s)=false→b'=false)→((dw s||nQ ks s)=true→FT a f=false→b'=false)→
      ((dw s||nQ ks s)=true→FT a f=true→Yields (fun r=>Ef (Ra.hl env r Eb) (.sl ks) (.int (m:Int)) (.int (k:Int)) (.sl fs) (.int (fs.length:Int)) (.int ((i+1:Nat):Int)) (.st [.int a,.sl fs])) [.bool b'])→Yields Z [.bool b'])→Yields Z [.bool b']:=by
     intro heq Z hz;cases hpl:(dw s||nQ ks s) with
     | false=>exact hz (f:=0) (fun h=>by rw[hpl] at h;cases h) (fun _=>q1 (by rw[heq,hpl])) (fun h=>by rw[hpl] at h;cases h) (fun h=>by rw[hpl] at h;cases h)
     | true=>
      have hfb:eV ks m k s=true:=by rw[heq,hpl]
      obtain ⟨f,hf1,hf2,hf3⟩:=Be he hfb;obtain ⟨q3,q4⟩:=q2 f hfb hf1 hf2 hf3;exact hz (f:=f) (fun _=>⟨hf1,hf2,hf3⟩) (fun h=>by rw[hpl] at h;cases h) (fun _ h=>q3 h) (fun _ h=>by rw[q4 h];exact y2)
    refine Yields.obind (Nb s) ?_;cases hk:O6 s with
    | none=>
     refine Yields.ff rfl (tail (by unfold eV nQ;rw[hk];simp) fun {f} g1 g2 g3 g4=>?_)
     exact Ng ha g1 (fun h=>by rw[g2 h]) (fun h1 h2=>by rw[g3 h1 h2]) g4
    | some x=>
     obtain ⟨u,v⟩:=x;have hnb:dw s=false:=by
      cases hb:dw s with
      | false=>rfl
      | true=>rw[sF hb] at hk;cases hk
     refine Yields.tt rfl (Yields.ite (fun e1=>?_) (fun e1=>Yields.ite (fun e2=>Yields.ite (fun e3=>?_) (fun e3=>?_)) (fun e2=>?_)))
     ·have e1':(u:Int) > (m:Int):=of_decide_eq_true e1
      rw[q1 (by unfold eV;rw[hk];simp only;rw[show decide (u < m)=false from decide_eq_false (by omega),show decide (u=m)=false from decide_eq_false (by omega)];simp)]
      exact Yields.some _
     ·have e3':(v:Int)≥(k:Int):=of_decide_eq_true e3
      have e2':u=m:=by
       have:decide (u=m)=true:=by rw[← Km];exact e2
       exact of_decide_eq_true this
      rw[q1 (by unfold eV;rw[hk];simp only;rw[show decide (u < m)=false from decide_eq_false (by omega),show decide (v < k)=false from decide_eq_false (by omega)];simp)]
      exact Yields.some _
     ·have e3' : ¬(v:Int)≥(k:Int):=of_decide_eq_false e3
      have e2':u=m:=by
       have:decide (u=m)=true:=by rw[← Km];exact e2
       exact of_decide_eq_true this
      refine tail (by unfold eV nQ;rw[hk,hnb];simp only;rw[show decide (u=m)=true from decide_eq_true e2',show decide (v < k)=true from decide_eq_true (by omega)];simp) fun {f} g1 g2 g3 g4=>?_
      exact Ng ha g1 (fun h=>by rw[g2 h]) (fun h1 h2=>by rw[g3 h1 h2]) g4
     ·have e1' : ¬(u:Int) > (m:Int):=of_decide_eq_false e1
      have e2' : ¬u=m:=by
       have:decide (u=m)=false:=by rw[← Km];exact e2
       exact of_decide_eq_false this
      refine tail (by unfold eV nQ;rw[hk,hnb];simp only;rw[show decide (u < m)=true from decide_eq_true (by omega)];simp) fun {f} g1 g2 g3 g4=>?_
      exact Ng ha g1 (fun h=>by rw[g2 h]) (fun h1 h2=>by rw[g3 h1 h2]) g4
   cases hfb:eV ks m k s with
   | false=>exact ⟨false,spec false (fun _=>rfl) (fun f h=>by rw[hfb] at h;cases h),impl false (fun _=>rfl) (fun f h=>by rw[hfb] at h;cases h)⟩
   | true=>
    obtain ⟨f,hf1,hf2,hf3⟩:=Be he hfb;have one : ∀f',tA ks s = .int f'→f'=f:=fun f' h=>by rw[hf1] at h;cases h;rfl
    cases hst:FT a f with
    | false=>
     have q : ∀f',eV ks m k s=true→tA ks s = .int f'→0≤f'→f'≤15→(FT a f'=false→false=false)∧(FT a f'=true→false=b):=fun f' _ h _ _=>by
      have:=one f' h;subst this;exact ⟨fun _=>rfl,fun h=>by rw[hst] at h;cases h⟩
     exact ⟨false,spec false (fun _=>rfl) q,impl false (fun _=>rfl) q⟩
    | true=>
     have q : ∀f',eV ks m k s=true→tA ks s = .int f'→0≤f'→f'≤15→(FT a f'=false→b=false)∧(FT a f'=true→b=b):=fun f' _ h _ _=>by
      have:=one f' h;subst this;exact ⟨(fun h=>by rw[hst] at h;cases h),fun _=>rfl⟩
     exact ⟨b,spec b (fun h=>by rw[hfb] at h;cases h) q,impl b (fun h=>by rw[hfb] at h;cases h) q⟩
 exact key fs.length 0 (by omega)
theorem Vo (x lo hi:Int):Yields (fun k=>cl env k dZ [.int x,.int lo,.int hi]) [.bool (decide (x≥lo)&&decide (x≤hi))]:=by
 refine Ak _ _ _ (Yields.ite (fun h=>?_) (fun h=>?_))
 ·rw[show decide (x≥lo)=true from h,Bool.true_and];exact Yields.some _
 ·rw[show decide (x≥lo)=false from h,Bool.false_and];exact Yields.some _
section
variable {ks:List T} {b:Nat}
theorem Mx (hk : ∀x∈ks,yD b x) {m k:Nat} (hm:m < ks.length) (hkk:k < ((T.sl ks).nth m).es.length) : ∃(a:Int) (fs:List T),((T.sl ks).nth m).nth k = .st [.int a,.sl fs]∧fs.length≤b∧∀x∈fs,tv x:=by
 obtain ⟨rs,h1,h2,h3⟩:=hk _ (List.getElem_mem hm);rw[bh hm,h1] at hkk ⊢;have hkr:k < rs.length:=hkk
 rw[bh hkr];obtain ⟨a,fs,e1,_,_,e2,e3⟩:=h3 _ (List.getElem_mem hkr);exact ⟨a,fs,e1,e2,e3⟩
theorem rec_same (hk : ∀x∈ks,yD b x) (hb:b≤maxLen) {m k:Nat} (hm:m < ks.length) (hkk:k < ((T.sl ks).nth m).es.length) (he:v8 ks m k) :
  ∃c,Yields (fun r=>cl env r mh [.sl ks,.int (m:Int),.int (k:Int)]) [.bool c]∧Yields (fun r=>cl env r GF [.sl ks,.int (m:Int),.int (k:Int)]) [.bool c]∧
   (c=true→∃a:Int,(((T.sl ks).nth m).nth k).fld 0 = .int a∧0≤a∧a≤15):=by
 obtain ⟨a,fs,hr,hf1,hf2⟩:=Mx hk hm hkk;have hrec:((T.sl ks).nth (T.int (m:Int)).i.toNat).nth ((T.int (k:Int)).i.toNat) = .st [.int a,.sl fs]:=by
  show ((T.sl ks).nth ((m:Int).toNat)).nth ((k:Int).toNat)=_
  rw[Int.toNat_natCast,Int.toNat_natCast];exact hr
 have spec : ∀{c:Bool} {Z:Nat→R},((decide (a≥0)&&decide (a≤15))=false→c=false)→((decide (a≥0)&&decide (a≤15))=true→(fs.length:Int) > 3→c=false)→
   ((decide (a≥0)&&decide (a≤15))=true→¬(fs.length:Int) > 3→Yields (fun r=>bQ (Ra.hl env r bV) (.sl ks) (.int (m:Int)) (.int (k:Int)) (.int 0) (.st [.int a,.sl fs])) [.bool c])→
   Yields (fun r=>cl env r mh [.sl ks,.int (m:Int),.int (k:Int)]) [.bool c]:=by
  intro c Z h1 h2 h3;refine wv _ _ _ (Yields.tt (pw hm) (Yields.tt (JP hkk) ?_));rw[hrec];refine Yields.obind (Vo a 0 15) ?_;cases hin:(decide (a≥0)&&decide (a≤15)) with
  | false=>rw[h1 hin];exact Yields.tt rfl (Yields.some _)
  | true=>
   refine Yields.ff rfl (Yields.ite (fun e=>?_) (fun e=>h3 hin (of_decide_eq_false e)))
   rw[h2 hin (of_decide_eq_true e)];exact Yields.some _
 have impl : ∀{c:Bool} {Z:Nat→R},((decide (a≥0)&&decide (a≤15))=false→c=false)→((decide (a≥0)&&decide (a≤15))=true→(fs.length:Int) > 3→c=false)→
   ((decide (a≥0)&&decide (a≤15))=true→¬(fs.length:Int) > 3→Yields (fun r=>Ef (Ra.hl env r Eb) (.sl ks) (.int (m:Int)) (.int (k:Int)) (.sl fs) (.int (fs.length:Int)) (.int 0) (.st [.int a,.sl fs])) [.bool c])→
   Yields (fun r=>cl env r GF [.sl ks,.int (m:Int),.int (k:Int)]) [.bool c]:=by
  intro c Z h1 h2 h3;refine LZ _ _ _ (Yields.tt (pw hm) (Yields.tt (JP hkk) ?_));rw[hrec];refine Yields.ite (fun e=>?_) (fun e=>Yields.ite (fun e2=>?_) (fun e2=>?_))
  ·have e':a < 0:=of_decide_eq_true e
   rw[h1 (by rw[decide_eq_false (by omega : ¬a≥0)];rfl)];exact Yields.some _
  ·have e':a > 15:=of_decide_eq_true e2
   rw[h1 (by rw[decide_eq_false (by omega : ¬a≤15),Bool.and_false])];exact Yields.some _
  ·have e1' : ¬a < 0:=of_decide_eq_false e
   have e2' : ¬a > 15:=of_decide_eq_false e2
   have hin:(decide (a≥0)&&decide (a≤15))=true:=by rw[decide_eq_true (by omega:a≥0),decide_eq_true (by omega:a≤15)];rfl
   refine Yields.ite (fun e3=>?_) (fun e3=>h3 hin (of_decide_eq_false e3))
   rw[h2 hin (of_decide_eq_true e3)];exact Yields.some _
 have hfld:(((T.sl ks).nth m).nth k).fld 0 = .int a:=by rw[hr];rfl
 cases hin:(decide (a≥0)&&decide (a≤15)) with
 | false=>exact ⟨false,spec (Z:=fun _=>none) (fun _=>rfl) (fun h=>by rw[hin] at h;cases h) (fun h=>by rw[hin] at h;cases h),impl (Z:=fun _=>none) (fun _=>rfl) (fun h=>by rw[hin] at h;cases h) (fun h=>by rw[hin] at h;cases h),fun h=>by cases h⟩
 | true=>
  have hr2:0≤a∧a≤15:=by rw[Bool.and_eq_true,decide_eq_true_eq,decide_eq_true_eq] at hin;exact ⟨hin.1,hin.2⟩
  by_cases h3:(fs.length:Int) > 3
  ·exact ⟨false,spec (Z:=fun _=>none) (fun _=>rfl) (fun _ _=>rfl) (fun _ h=>absurd h3 h),impl (Z:=fun _=>none) (fun _=>rfl) (fun _ _=>rfl) (fun _ h=>absurd h3 h),fun h=>by cases h⟩
  ·obtain ⟨c,y1,y2⟩:=Ni he hr2 (Nat.le_trans hf1 hb) hf2;exact ⟨c,spec (Z:=fun _=>none) (fun h=>by rw[hin] at h;cases h) (fun _ h=>absurd h h3) (fun _ _=>y1),impl (Z:=fun _=>none) (fun h=>by rw[hin] at h;cases h) (fun _ h=>absurd h h3) (fun _ _=>y2),fun _=>⟨a,hfld,hr2⟩⟩
def Ir (ks:List T) (m:Nat):Prop:=∀i,i < m→i < ks.length→((T.sl ks).nth i).es.length≤3
def KRes (ks:List T) (r:List T):Prop:=∃p q:Int,r = [.int p,.int q]∧((p = -1∧v8 ks ks.length 0∧Ir ks ks.length)∨0≤p)
theorem Ny (hk : ∀x∈ks,yD b x) (hb:b≤maxLen) (hl:ks.length≤b) : ∀(n m:Nat),m+n=ks.length→v8 ks m 0→Ir ks m→
  ∃r,KRes ks r∧Yields (fun k=>fw (Ra.hl env k bw) (.sl ks) (.int (m:Int))) r∧
   Yields (fun k=>G8 (Ra.hl env k Ed) (.sl ks) (.sl ks) (.int (ks.length:Int)) (.int (m:Int))) r:=by
 intro n;induction n with
 | zero=>
  intro m hm he hsm;have hmk:m=ks.length:=by omega
  subst hmk;refine ⟨[.int (-1),.int (-1)],⟨-1,-1,rfl,.inl ⟨rfl,he,hsm⟩⟩,pc _ _ (Yields.ff (FH (by omega)) (Yields.some _)),Ho _ _ _ _ (Yields.ff ?_ (Yields.some _))⟩
  rw[vZ];exact decide_eq_false (by omega)
 | succ n ih=>
  intro m hm he hsm;have hlt:m < ks.length:=by omega
  obtain ⟨rs,hrs,hrl,hrr⟩:=hk _ (List.getElem_mem hlt);have hnth:((T.sl ks).nth (T.int (m:Int)).i.toNat) = .sl rs:=by rw[vQ hlt,hrs]
  have hnth':((T.sl ks).nth m) = .sl rs:=by rw[bh hlt,hrs]
  have c1:decide ((T.int (m:Int)).i < (T.int (ks.length:Int)).i)=true:=by rw[vZ];exact decide_eq_true hlt
  have hnx:=AM hlt (Nat.le_trans hl hb);have inner:rs.length≤3→∀(n' k:Nat),k+n'=rs.length→v8 ks m k→
    ∃r,KRes ks r∧Yields (fun r=>gX (Ra.hl env r bw) (.sl ks) (.int (m:Int)) (.int (k:Int))) r∧
     Yields (fun r=>G9 (Ra.hl env r Ed) (.sl ks) (.int (m:Int)) (.sl ks) (.int (ks.length:Int)) (.int (m:Int)) (.int (rs.length:Int)) (.int (k:Int))) r:=by
   intro h3 n';have hsm':Ir ks (m+1):=fun i hi hi2=>by
    by_cases him:i < m
    ·exact hsm i him hi2
    ·have:i=m:=by omega
     subst this;rw[hnth'];exact h3
   induction n' with
   | zero=>
    intro k hkr hek;have hkk:k=rs.length:=by omega
    subst hkk;have he':v8 ks (m+1) 0:=by
     intro i j hij hi hj;rcases hij with h | ⟨_,h⟩
     ·by_cases him:i < m
      ·exact he i j (.inl him) hi hj
      ·have:i=m:=by omega
       subst this;rw[hnth'] at hj;exact hek i j (.inr ⟨rfl,hj⟩) hi (by rw[hnth'];exact hj)
     ·omega
    obtain ⟨r,r1,y1,y2⟩:=ih (m+1) (by omega) he' hsm'
    refine ⟨r,r1,pf _ _ _ (Yields.tt (pw hlt) (Yields.ff ?_ ?_)),Hp _ _ _ _ _ _ _ (Yields.ff ?_ ?_)⟩
    ·rw[hnth];exact FH (by omega)
    ·rw[hnx];exact y1
    ·rw[vZ];exact decide_eq_false (by omega)
    ·rw[hnx];exact y2
   | succ n' ihk=>
    intro k hkr hek;have hkl:k < rs.length:=by omega
    have hkk:k < ((T.sl ks).nth m).es.length:=by rw[hnth'];exact hkl
    obtain ⟨c,z1,z2,z3⟩:=rec_same hk hb hlt hkk hek;have c2:decide ((T.int (k:Int)).i < (T.int (rs.length:Int)).i)=true:=by rw[vZ];exact decide_eq_true hkl
    have c3:decide ((T.int (k:Int)).i < ((((T.sl ks).nth (T.int (m:Int)).i.toNat).es).length:Int))=true:=by rw[hnth];exact F2 hkl
    cases c with
    | false=>
     exact ⟨[.int (m:Int),.int (k:Int)],⟨m,k,rfl,.inr (by omega)⟩,pf _ _ _ (Yields.tt (pw hlt) (Yields.tt c3 (Yields.obind z1 (Yields.tt rfl (Yields.some _))))),
      Hp _ _ _ _ _ _ _ (Yields.tt c2 (Yields.obind z2 (Yields.tt rfl (Yields.some _))))⟩
    | true=>
     have hek':v8 ks m (k+1):=by
      intro i j hij hi hj;rcases hij with h | ⟨h1,h2⟩
      ·exact hek i j (.inl h) hi hj
      ·by_cases hjk:j < k
       ·exact hek i j (.inr ⟨h1,hjk⟩) hi hj
       ·have:j=k:=by omega
        subst this;subst h1;exact z3 rfl
     obtain ⟨r,r1,y1,y2⟩:=ihk (k+1) (by omega) hek'
     have hnk:=AM hkl (Nat.le_trans hrl hb);refine ⟨r,r1,pf _ _ _ (Yields.tt (pw hlt) (Yields.tt c3 (Yields.obind z1 (Yields.ff rfl ?_)))),Hp _ _ _ _ _ _ _ (Yields.tt c2 (Yields.obind z2 (Yields.ff rfl ?_)))⟩
     ·rw[hnk];exact y1
     ·rw[hnk];exact y2
  by_cases h3:(rs.length:Int) > 3
  ·refine ⟨[.int (m:Int),.int 3],⟨m,3,rfl,.inr (by omega)⟩,pc _ _ (Yields.tt (F2 hlt) (Yields.tt (pw hlt) (Yields.tt ?_ (Yields.some _)))),
    Ho _ _ _ _ (Yields.tt c1 (Yields.tt (pw hlt) (Yields.tt ?_ (Yields.some _))))⟩
   ·rw[hnth];exact decide_eq_true h3
   ·rw[hnth];exact decide_eq_true h3
  ·obtain ⟨r,r1,y1,y2⟩:=inner (by omega) rs.length 0 (by omega) he
   refine ⟨r,r1,pc _ _ (Yields.tt (F2 hlt) (Yields.tt (pw hlt) (Yields.ff ?_ ?_))),Ho _ _ _ _ (Yields.tt c1 (Yields.tt (pw hlt) (Yields.ff ?_ ?_)))⟩
   ·rw[hnth];exact decide_eq_false h3
   ·exact y1
   ·rw[hnth];exact decide_eq_false h3
   ·rw[hnth];exact y2
theorem MI (hk : ∀x∈ks,yD b x) (hb:b≤maxLen) (hl:ks.length≤b) : ∃r,(KRes ks r∧(ks.length≤3∨r = [.int 3,.int 0]))∧Yields (fun k=>cl env k qx [.sl ks]) r∧Yields (fun k=>cl env k HQ [.sl ks]) r:=by
 by_cases h3:(ks.length:Int) > 3
 ·exact ⟨[.int 3,.int 0],⟨⟨3,0,rfl,.inr (by omega)⟩,.inr rfl⟩,wu _ (Yields.tt (decide_eq_true h3) (Yields.some _)),Jt _ (Yields.tt (decide_eq_true h3) (Yields.some _))⟩
 ·obtain ⟨r,r1,y1,y2⟩:=Ny hk hb hl ks.length 0 (by omega) (fun i j h=>by omega) (fun i h=>by omega)
  exact ⟨r,⟨r1,.inl (by omega)⟩,wu _ (Yields.ff (decide_eq_false h3) y1),Jt _ (Yields.ff (decide_eq_false h3) y2)⟩
theorem IM (hk : ∀x∈ks,yD b x) (hb:b≤maxLen) (hl:ks.length≤b) : ∃c,Yields (fun k=>cl env k na [.sl ks]) [.bool c]∧Yields (fun k=>cl env k Gd [.sl ks]) [.bool c]∧(c=true→v8 ks ks.length 0∧Ir ks ks.length∧ks.length≤3):=by
 obtain ⟨r,⟨⟨p,q,rfl,hr⟩,h3⟩,y1,y2⟩:=MI hk hb hl;rcases hr with ⟨rfl,he,hs⟩ | hp
 ·exact ⟨true,xk _ (Yields.obind y1 (Yields.some _)),JQ _ (Yields.obind y2 (Yields.some _)),fun _=>⟨he,hs,h3.elim id fun h=>by cases h⟩⟩
 ·refine ⟨false,xk _ (Yields.obind y1 ?_),JQ _ (Yields.obind y2 ?_),fun h=>by cases h⟩
  ·show Yields (fun _=>some [T.bool (decide (p < 0))]) _
   rw[decide_eq_false (by omega)];exact Yields.some _
  ·show Yields (fun _=>some [T.bool (p == -1)]) _
   rw[show (p == -1)=false from beq_eq_false_iff_ne.2 (by omega)];exact Yields.some _
end
theorem Kz {b:Nat} {v:T} (h:EB b v) : ∃(s:ByteArray) (n:Int) (ps is:List T),v = .st [.str s,.int n,.sl ps,.sl is]∧ps.length≤b∧is.length≤b∧(∀x∈ps,EB b x)∧(∀x∈is,∃m:Int,x = .int m)∧s.size≤maxLen∧-9223372036854775808≤n∧n≤9223372036854775807:=by
 cases h with
 | mk h1 h2 h3 h4 h5 h6 h7=>exact ⟨_,_,_,_,rfl,h4,h5,h7,h6,h1,h2,h3⟩
theorem len0 (l:List T):(((l.length:Int)==(0:Int)):Bool)=l.isEmpty:=by
 cases l with
 | nil=>rfl
 | cons a l=>rw[show (((a :: l).length:Int)==0)=false from beq_eq_false_iff_ne.2 (by simp;omega)];rfl
theorem lenpos (l:List T):decide ((l.length:Int) > (0:Int)) = !l.isEmpty:=by
 cases l with
 | nil=>rfl
 | cons a l=>rw[decide_eq_true (by simp)];rfl
inductive J1:T→Prop
 | num {s:ByteArray} {n:Int} : (s.toList==(⟨#[110]⟩:ByteArray).toList)=true→0≤n→n≤1000000→J1 (.st [.str s,.int n,.sl [],.sl []])
 | bit {s:ByteArray} {n:Int} : (s.toList==(⟨#[110]⟩:ByteArray).toList)=false→(s.toList==(⟨#[98]⟩:ByteArray).toList)=true→0≤n→n≤1→J1 (.st [.str s,.int n,.sl [],.sl []])
 | own {s:ByteArray} {n:Int} : (s.toList==(⟨#[110]⟩:ByteArray).toList)=false→(s.toList==(⟨#[98]⟩:ByteArray).toList)=false→(s.toList==(⟨#[111]⟩:ByteArray).toList)=true→0≤n→n≤3→J1 (.st [.str s,.int n,.sl [],.sl []])
 | made {s:ByteArray} {n:Int} {ps:List T} : (s.toList==(⟨#[110]⟩:ByteArray).toList)=false→(s.toList==(⟨#[98]⟩:ByteArray).toList)=false→(s.toList==(⟨#[111]⟩:ByteArray).toList)=false→(∃i j,O6 s=some (i,j))→(∀x∈ps,J1 x)→
   J1 (.st [.str s,.int n,.sl ps,.sl []])
theorem Le {ps is:List T} {n hi:Int} (h:(ps.isEmpty&&is.isEmpty&&(decide (n≥0)&&decide (n≤hi)))=true):ps = []∧is = []∧0≤n∧n≤hi:=by
 simp only[Bool.and_eq_true,decide_eq_true_eq,List.isEmpty_iff] at h;exact ⟨h.1.1,h.1.2,h.2.1,h.2.2⟩
section
variable {ks:List T} {b:Nat}
theorem l2plain (s:T) (n:T) (ps is:List T):Yields (fun k=>cl env k EV [.st [s,n,.sl ps,.sl is]]) [.bool (ps.isEmpty&&is.isEmpty)]:=by
 have e2:((((T.st [s,n,.sl ps,.sl is]).fld 2).es).length:Int)=(ps.length:Int):=rfl
 have e3:((((T.st [s,n,.sl ps,.sl is]).fld 3).es).length:Int)=(is.length:Int):=rfl
 refine Mr _ ?_;unfold H9;rw[e2,e3,len0,len0];cases ps.isEmpty with
 | true=>exact Yields.tt rfl (Yields.some _)
 | false=>exact Yields.ff rfl (Yields.some _)
theorem XH (hk : ∀x∈ks,yD b x) (hb:b≤maxLen) : ∀v,EB b v→∃c,Yields (fun k=>cl env k Fk [.sl ks,v]) [.bool c]∧Yields (fun k=>cl env k El [.sl ks,v]) [.bool c]∧
  (c=true→(dw (v.fld 0).s||nQ ks (v.fld 0).s)=true)∧(c=true→J1 v):=by
 intro v h;induction h with
 | @mk s n ps is h1 h2 h3 h4 h5 h6 h7 ih=>
  have e0:((T.st [.str s,.int n,.sl ps,.sl is]).fld 0).s=s:=rfl
  have e2:((((T.st [.str s,.int n,.sl ps,.sl is]).fld 2).es).length:Int)=(ps.length:Int):=rfl
  have e3:decide (((((T.st [.str s,.int n,.sl ps,.sl is]).fld 3).es).length:Int) > (0:Int)) = !is.isEmpty:=lenpos is
  rw[e0];have basic : ∀(hi:Int) (c:Bool),c=(ps.isEmpty&&is.isEmpty&&(decide (n≥0)&&decide (n≤hi)))→
    Yields (fun k=>obind (cl env k EV [T.st [.str s,.int n,.sl ps,.sl is]]) fun r1=>
     bif (rt r1 0).b then
      obind (cl env k dZ [.int n,(T.int (0:Int)),(T.int hi)]) fun r2=>
      some [(rt r2 0)]
     else
      some [(T.bool false)]) [.bool c]:=by
   intro hi c hc;subst hc;refine Yields.obind (l2plain _ _ ps is) ?_;cases hpi:(ps.isEmpty&&is.isEmpty) with
   | true=>exact Yields.tt rfl (Yields.obind (Vo n 0 hi) (Yields.some _))
   | false=>exact Yields.ff rfl (Yields.some _)
  by_cases b1:(s.toList==(⟨#[110]⟩:ByteArray).toList)=true
  ·have hbase:dw s=true:=by unfold dw;rw[b1];rfl
   refine ⟨ps.isEmpty&&is.isEmpty&&(decide (n≥0)&&decide (n≤1000000)),Hw _ _ (Yields.tt b1 (basic 1000000 _ rfl)),?_,(fun _=>by rw[hbase];rfl),fun h=>by obtain ⟨rfl,rfl,q1,q2⟩:=Le h;exact .num b1 q1 q2⟩
   refine FO _ _ ?_;unfold EO;rw[e3];cases his:is.isEmpty with
   | false=>rw[Bool.and_false,Bool.false_and];exact Yields.tt rfl (Yields.some _)
   | true=>
    have hpl:=JO ks s;rw[hbase,Bool.true_or] at hpl;refine Yields.ff rfl (Yields.obind hpl (Yields.ff rfl (Yields.tt b1 ?_)));rw[Bool.and_true];refine Yields.ite (fun q1=>Yields.ite (fun q2=>?_) (fun q2=>?_)) (fun q1=>?_)
    ·rw[show decide (n≥0)=true from q1,show decide (n≤1000000)=true from q2,Bool.and_self,Bool.and_true,← len0];exact Yields.some _
    ·rw[show decide (n≤1000000)=false from q2,Bool.and_false,Bool.and_false];exact Yields.some _
    ·rw[show decide (n≥0)=false from q1,Bool.false_and,Bool.and_false];exact Yields.some _
  ·have b1:=eq_false_of_ne_true b1;by_cases b2:(s.toList==(⟨#[98]⟩:ByteArray).toList)=true
   ·have hbase:dw s=true:=by unfold dw;rw[b2];simp
    refine ⟨ps.isEmpty&&is.isEmpty&&(decide (n≥0)&&decide (n≤1)),Hw _ _ (Yields.ff b1 (Yields.tt b2 (basic 1 _ rfl))),?_,(fun _=>by rw[hbase];rfl),fun h=>by obtain ⟨rfl,rfl,q1,q2⟩:=Le h;exact .bit b1 b2 q1 q2⟩
    refine FO _ _ ?_;unfold EO;rw[e3];cases his:is.isEmpty with
    | false=>rw[Bool.and_false,Bool.false_and];exact Yields.tt rfl (Yields.some _)
    | true=>
     have hpl:=JO ks s;rw[hbase,Bool.true_or] at hpl;refine Yields.ff rfl (Yields.obind hpl (Yields.ff rfl (Yields.ff b1 (Yields.tt b2 ?_))));rw[Bool.and_true];refine Yields.ite (fun q1=>?_) (fun q1=>Yields.ite (fun q2=>?_) (fun q2=>?_))
     ·have q:n=0:=by
       have:(n==0)=true:=q1
       simpa using this
      subst q;rw[show (decide ((0:Int)≥0)&&decide ((0:Int)≤1))=true from rfl,Bool.and_true,← len0];exact Yields.some _
     ·have q:n=1:=by
       have:(n==1)=true:=q2
       simpa using this
      subst q;rw[show (decide ((1:Int)≥0)&&decide ((1:Int)≤1))=true from rfl,Bool.and_true,← len0];exact Yields.some _
     ·have p0 : ¬n=0:=by
       have:(n==0)=false:=q1
       simpa using this
      have p1 : ¬n=1:=by
       have:(n==1)=false:=q2
       simpa using this
      have:(decide (n≥0)&&decide (n≤1))=false:=by
       by_cases hn:n≥0
       ·rw[decide_eq_false (by omega : ¬n≤1),Bool.and_false]
       ·rw[decide_eq_false hn,Bool.false_and]
      rw[this,Bool.and_false];exact Yields.some _
   ·have b2:=eq_false_of_ne_true b2;by_cases b3:(s.toList==(⟨#[111]⟩:ByteArray).toList)=true
    ·have hbase:dw s=true:=by unfold dw;rw[b3];simp
     refine ⟨ps.isEmpty&&is.isEmpty&&(decide (n≥0)&&decide (n≤3)),Hw _ _ (Yields.ff b1 (Yields.ff b2 (Yields.tt b3 (basic 3 _ rfl)))),?_,(fun _=>by rw[hbase];rfl),fun h=>by obtain ⟨rfl,rfl,q1,q2⟩:=Le h;exact .own b1 b2 b3 q1 q2⟩
     refine FO _ _ ?_;unfold EO;rw[e3];cases his:is.isEmpty with
     | false=>rw[Bool.and_false,Bool.false_and];exact Yields.tt rfl (Yields.some _)
     | true=>
      have hpl:=JO ks s;rw[hbase,Bool.true_or] at hpl;refine Yields.ff rfl (Yields.obind hpl (Yields.ff rfl (Yields.ff b1 (Yields.ff b2 (Yields.tt b3 ?_)))));rw[Bool.and_true];refine Yields.ite (fun q1=>Yields.ite (fun q2=>?_) (fun q2=>?_)) (fun q1=>?_)
      ·have q2':n < 4:=of_decide_eq_true q2
       rw[show decide (n≥0)=true from q1,decide_eq_true (by omega:n≤3),Bool.and_self,Bool.and_true,← len0];exact Yields.some _
      ·have q2' : ¬n < 4:=of_decide_eq_false q2
       rw[decide_eq_false (by omega : ¬n≤3),Bool.and_false,Bool.and_false];exact Yields.some _
      ·rw[show decide (n≥0)=false from q1,Bool.false_and,Bool.and_false];exact Yields.some _
    ·have b3:=eq_false_of_ne_true b3;have hbase:dw s=false:=by unfold dw;rw[b1,b2,b3];rfl
     have hpl:=JO ks s;rw[hbase,Bool.false_or] at hpl ⊢;have nope:nQ ks s=false→∃c,Yields (fun k=>cl env k Fk [.sl ks,T.st [.str s,.int n,.sl ps,.sl is]]) [.bool c]∧Yields (fun k=>cl env k El [.sl ks,T.st [.str s,.int n,.sl ps,.sl is]]) [.bool c]∧(c=true→nQ ks s=true)∧(c=true→J1 (T.st [.str s,.int n,.sl ps,.sl is])):=by
      intro hkn;refine ⟨false,Hw _ _ (Yields.ff b1 (Yields.ff b2 (Yields.ff b3 (Yields.obind (zl s) ?_)))),?_,(fun h=>by cases h),fun h=>by cases h⟩
      ·unfold nQ at hkn;cases hkc:O6 s with
       | none=>exact Yields.tt rfl (Yields.some _)
       | some x=>
        obtain ⟨i,j⟩:=x;rw[hkc] at hkn;have hs:=KH ks i j;rw[show lS ks i j=false from hkn] at hs
        exact Yields.ff rfl (Yields.obind hs (Yields.tt rfl (Yields.some _)))
      ·refine FO _ _ ?_;unfold EO;rw[e3];rw[hkn] at hpl;cases is.isEmpty with
       | false=>exact Yields.tt rfl (Yields.some _)
       | true=>exact Yields.ff rfl (Yields.obind hpl (Yields.tt rfl (Yields.some _)))
     cases hkn:nQ ks s with
     | false=>
      have:=nope hkn
      rw[hkn] at this;exact this
     | true=>
      rw[hkn] at hpl;have hkn':=hkn;unfold nQ at hkn';cases hkc:O6 s with
      | none=>rw[hkc] at hkn';cases hkn'
      | some x=>
       obtain ⟨i,j⟩:=x;rw[hkc] at hkn';have hh:lS ks i j=true:=hkn'
       obtain ⟨g1,g2⟩:=rk hh;obtain ⟨a,fs,hr,hf1,hf2⟩:=Mx hk g1 g2;have hrec:((T.sl ks).nth (T.int (i:Int)).i.toNat).nth ((T.int (j:Int)).i.toNat) = .st [.int a,.sl fs]:=by
        show ((T.sl ks).nth ((i:Int).toNat)).nth ((j:Int).toNat)=_
        rw[Int.toNat_natCast,Int.toNat_natCast];exact hr
       have hs:=KH ks i j;rw[hh] at hs;have loop : ∃c,(ps.length=fs.length→Yields (fun k=>Fc (Ra.hl env k Ev) (.sl ks) (.int (i:Int)) (.int (j:Int)) (.int 0) (.st [.str s,.int n,.sl ps,.sl is])) [.bool c]∧
         Yields (fun k=>EF (Ra.hl env k Ee) (.sl ks) (.sl fs) (.sl ps) (.int (ps.length:Int)) (.int 0)) [.bool c]∧(c=true→∀x∈ps,J1 x)):=by
        by_cases hlen:ps.length=fs.length
        ·have key : ∀(m q:Nat),q+m=ps.length→∃c,Yields (fun k=>Fc (Ra.hl env k Ev) (.sl ks) (.int (i:Int)) (.int (j:Int)) (.int (q:Int)) (.st [.str s,.int n,.sl ps,.sl is])) [.bool c]∧
           Yields (fun k=>EF (Ra.hl env k Ee) (.sl ks) (.sl fs) (.sl ps) (.int (ps.length:Int)) (.int (q:Int))) [.bool c]∧(c=true→∀j x,q≤j→ps[j]?=some x→J1 x):=by
          intro m;induction m with
          | zero=>
           intro q hq;refine ⟨true,Kb _ _ _ _ _ (Yields.ff (FH (es:=ps) (by omega)) (Yields.some _)),Iw _ _ _ _ _ (Yields.ff ?_ (Yields.some _)),fun _ j x hj hx=>by rw[List.getElem?_eq_none (by omega)] at hx;cases hx⟩
           rw[vZ];exact decide_eq_false (by omega)
          | succ m ihm=>
           intro q hq;have hlt:q < ps.length:=by omega
           have hlf:q < fs.length:=by omega
           obtain ⟨c,y1,y2,y3⟩:=ihm (q+1) (by omega)
           obtain ⟨c',z1,z2,_,z4⟩:=ih _ (List.getElem_mem hlt);have pU:c'=true→c=true→∀j x,q≤j→ps[j]?=some x→J1 x:=by
            intro h1 h2 j x hj hx;by_cases hjq:j=q
            ·subst hjq;rw[List.getElem?_eq_getElem hlt] at hx;cases hx;exact z4 h1
            ·exact y3 h2 j x (by omega) hx
           have hn1:((T.sl ps).nth (T.int (q:Int)).i.toNat)=ps[q]:=vQ hlt
           have hnx:=AM hlt (Nat.le_trans h4 hb);have c2:decide ((T.int (q:Int)).i < (T.int (ps.length:Int)).i)=true:=by rw[vZ];exact decide_eq_true hlt
           have d1:(decide (0≤(T.int (q:Int)).i)&&decide ((T.int (q:Int)).i.toNat < ((((((T.sl ks).nth (T.int (i:Int)).i.toNat).nth ((T.int (j:Int)).i.toNat)).fld 1).es).length)))=true:=by rw[hrec];exact pw hlf
           generalize htest:(!((((T.sl ps).nth (T.int (q:Int)).i.toNat).fld 0).s.toList==((T.sl fs).nth (T.int (q:Int)).i.toNat).s.toList))=tst
           have spec : ∀r,(tst=true→r = [T.bool false])→(tst=false→c'=false→r = [T.bool false])→(tst=false→c'=true→r = [T.bool c])→
             Yields (fun k=>Fc (Ra.hl env k Ev) (.sl ks) (.int (i:Int)) (.int (j:Int)) (.int (q:Int)) (.st [.str s,.int n,.sl ps,.sl is])) r:=by
            intro r r1 r2 r3;refine Kb _ _ _ _ _ (Yields.tt (F2 (es:=ps) hlt) (Yields.tt (pw (es:=ps) hlt) (Yields.tt (pw g1) (Yields.tt (JP g2) (Yields.tt d1 ?_)))));rw[hrec];refine Yields.ite (fun t=>?_) (fun t=>?_)
            ·rw[r1 (htest.symm.trans t)];exact Yields.some _
            ·have t':tst=false:=htest.symm.trans t
             have z1':Yields (fun k=>cl env k Fk [.sl ks,(((T.st [.str s,.int n,.sl ps,.sl is]).fld 2).nth (T.int (q:Int)).i.toNat)]) [.bool c']:=by
              rw[show (((T.st [.str s,.int n,.sl ps,.sl is]).fld 2).nth (T.int (q:Int)).i.toNat)=ps[q] from hn1];exact z1
             refine Yields.obind z1' ?_;cases hc':c' with
             | false=>rw[r2 t' hc'];exact Yields.tt rfl (Yields.some _)
             | true=>rw[r3 t' hc',hnx];exact Yields.ff rfl y1
           have impl : ∀r,(tst=true→r = [T.bool false])→(tst=false→c'=false→r = [T.bool false])→(tst=false→c'=true→r = [T.bool c])→
             Yields (fun k=>EF (Ra.hl env k Ee) (.sl ks) (.sl fs) (.sl ps) (.int (ps.length:Int)) (.int (q:Int))) r:=by
            intro r r1 r2 r3;refine Iw _ _ _ _ _ (Yields.tt c2 (Yields.tt (pw hlt) (Yields.tt (pw hlf) ?_)));refine Yields.ite (fun t=>?_) (fun t=>?_)
            ·rw[r1 (htest.symm.trans t)];exact Yields.some _
            ·have t':tst=false:=htest.symm.trans t
             have z2':Yields (fun k=>cl env k El [.sl ks,((T.sl ps).nth (T.int (q:Int)).i.toNat)]) [.bool c']:=by rw[hn1];exact z2
             refine Yields.obind z2' ?_;cases hc':c' with
             | false=>rw[r2 t' hc'];exact Yields.tt rfl (Yields.some _)
             | true=>rw[r3 t' hc',hnx];exact Yields.ff rfl y2
           cases tst with
           | true=>exact ⟨false,spec _ (fun _=>rfl) (fun h=>by cases h) (fun h=>by cases h),impl _ (fun _=>rfl) (fun h=>by cases h) (fun h=>by cases h),fun h=>by cases h⟩
           | false=>
            cases c' with
            | false=>exact ⟨false,spec _ (fun h=>by cases h) (fun _ _=>rfl) (fun _ h=>by cases h),impl _ (fun h=>by cases h) (fun _ _=>rfl) (fun _ h=>by cases h),fun h=>by cases h⟩
            | true=>exact ⟨c,spec _ (fun h=>by cases h) (fun _ h=>by cases h) (fun _ _=>rfl),impl _ (fun h=>by cases h) (fun _ h=>by cases h) (fun _ _=>rfl),pU rfl⟩
         obtain ⟨c,y1,y2,y3⟩:=key ps.length 0 (by omega)
         exact ⟨c,fun _=>⟨y1,y2,fun h x hx=>by
          obtain ⟨j,hj⟩:=List.mem_iff_getElem?.1 hx;exact y3 h j x (Nat.zero_le _) hj⟩⟩
        ·exact ⟨false,fun h=>absurd h hlen⟩
       obtain ⟨c,hloop⟩:=loop;let res:Bool:=is.isEmpty&&((n==0)&&(decide (ps.length=fs.length)&&c))
       have fit:res=true→J1 (T.st [.str s,.int n,.sl ps,.sl is]):=by
        intro h;have h:(is.isEmpty&&((n==0)&&(decide (ps.length=fs.length)&&c)))=true:=h
        simp only[Bool.and_eq_true,decide_eq_true_eq,List.isEmpty_iff] at h;obtain ⟨h1,_,h2,h3⟩:=h;subst h1;exact .made b1 b2 b3 ⟨_,_,hkc⟩ ((hloop h2).2.2 h3)
       refine ⟨res,?_,?_,(fun _=>rfl),fit⟩
       ·refine Hw _ _ (Yields.ff b1 (Yields.ff b2 (Yields.ff b3 (Yields.obind (zl s) ?_))));rw[hkc];refine Yields.ff rfl (Yields.obind hs (Yields.ff rfl ?_));show Yields _ [T.bool (is.isEmpty&&((n==0)&&(decide (ps.length=fs.length)&&c)))]
        refine Yields.ite (fun q1=>?_) (fun q1=>?_)
        ·have:(n==0)=false:=by
          have:(n != 0)=true:=q1
          simpa using this
         rw[this,Bool.false_and,Bool.and_false];exact Yields.some _
        ·have:(n==0)=true:=by
          have:(n != 0)=false:=q1
          simpa using this
         rw[this,Bool.true_and,e3];cases his:is.isEmpty with
         | false=>exact Yields.tt rfl (Yields.some _)
         | true=>
          refine Yields.ff rfl (Yields.tt (pw g1) (Yields.tt (JP g2) ?_));have hrec':((T.sl ks).nth (((rt (KJ (some (i,j))) 0).i).toNat)).nth (((rt (KJ (some (i,j))) 1).i).toNat) = .st [.int a,.sl fs]:=hrec
          rw[hrec'];by_cases hlen:ps.length=fs.length
          ·rw[decide_eq_true hlen];refine Yields.ff ?_ (hloop hlen).1;show (((ps.length:Int)) != (fs.length:Int))=false
           rw[hlen];simp
          ·rw[decide_eq_false hlen];refine Yields.tt ?_ (Yields.some _);show (((ps.length:Int)) != (fs.length:Int))=true
           rw[bne_iff_ne];omega
       ·refine FO _ _ ?_;unfold EO;rw[e3];show Yields _ [T.bool (is.isEmpty&&((n==0)&&(decide (ps.length=fs.length)&&c)))]
        cases his:is.isEmpty with
        | false=>exact Yields.tt rfl (Yields.some _)
        | true=>
         have hro:=Ml ks hkc hh;rw[hr] at hro;refine Yields.ff rfl (Yields.obind hpl (Yields.ff rfl (Yields.ff b1 (Yields.ff b2 (Yields.ff b3 (Yields.obind hro ?_))))));refine Yields.ite (fun q1=>?_) (fun q1=>?_)
         ·have:(n==0)=false:=by
           have:(n != 0)=true:=q1
           simpa using this
          rw[this];exact Yields.some _
         ·have:(n==0)=true:=by
           have:(n != 0)=false:=q1
           simpa using this
          rw[this];by_cases hlen:ps.length=fs.length
          ·rw[decide_eq_true hlen];refine Yields.ff ?_ (hloop hlen).2.1;show (((ps.length:Int)) != (fs.length:Int))=false
           rw[hlen];simp
          ·rw[decide_eq_false hlen];refine Yields.tt ?_ (Yields.some _);show (((ps.length:Int)) != (fs.length:Int))=true
           rw[bne_iff_ne];omega
theorem Mu (hk : ∀x∈ks,yD b x) (hb:b≤maxLen) (v:T) (hv:EB b v) : ∃c,Yields (fun k=>cl env k Fk [.sl ks,v]) [.bool c]∧Yields (fun k=>cl env k El [.sl ks,v]) [.bool c]∧
  (c=true→(dw (v.fld 0).s||nQ ks (v.fld 0).s)=true):=by
 obtain ⟨c,y1,y2,y3,_⟩:=XH hk hb v hv;exact ⟨c,y1,y2,y3⟩
end
theorem keep_fin : ∀(a:Fin 16),(G5 (a.val:Int) 8 != 0)=(((a.val:Int).tdiv 8).tmod 2==1):=by decide +kernel
theorem keep_eq {a:Int} (h0:0≤a) (h1:a≤15):(G5 a 8 != 0)=((a.tdiv 8).tmod 2==1):=by
 have:=keep_fin ⟨a.toNat,by omega⟩
 simp only at this
 rwa [Int.toNat_of_nonneg h0] at this
section
variable {ks:List T} {b:Nat}
theorem Lg (hk : ∀x∈ks,yD b x) (hb:b≤maxLen) (he:v8 ks ks.length 0) (v:T) (hv:EB b v) : ∃c,Yields (fun k=>cl env k EG [.sl ks,v]) [.bool c]∧Yields (fun k=>cl env k EJ [.sl ks,v]) [.bool c]∧(c=true→nQ ks (v.fld 0).s=true):=by
 obtain ⟨c,y1,y2,y3⟩:=Mu hk hb v hv;obtain ⟨s,n,ps,is,rfl,_⟩:=Kz hv;have y3:c=true→(dw s||nQ ks s)=true:=y3
 cases hkc:O6 s with
 | none=>
  have hkn:nQ ks s=false:=by unfold nQ;rw[hkc]
  refine ⟨false,Hy _ _ (Yields.obind (zl s) ?_),Ic _ _ (Yields.obind (Jq ks s) ?_),fun h=>by cases h⟩
  ·rw[hkc];exact Yields.ff rfl (Yields.some _)
  ·rw[hkn];exact Yields.ff rfl (Yields.some _)
 | some x=>
  obtain ⟨i,j⟩:=x;have hnb:dw s=false:=by
   cases hb:dw s with
   | false=>rfl
   | true=>rw[sF hb] at hkc;cases hkc
  have hkn:nQ ks s=lS ks i j:=by unfold nQ;rw[hkc]
  cases hh:lS ks i j with
  | false=>
   have hc:c=false:=by
    cases c with
    | false=>rfl
    | true=>have:=y3 rfl;rw[hnb,hkn,hh] at this;cases this
   subst hc;refine ⟨false,Hy _ _ (Yields.obind (zl s) ?_),Ic _ _ (Yields.obind (Jq ks s) ?_),fun h=>by cases h⟩
   ·rw[hkc];exact Yields.tt rfl (Yields.obind y1 (Yields.ff rfl (Yields.some _)))
   ·rw[hkn,hh];exact Yields.ff rfl (Yields.some _)
  | true=>
   obtain ⟨g1,g2⟩:=rk hh;obtain ⟨a,ha1,ha2⟩:=he i j (.inl g1) g1 g2;have hro:=Ml ks hkc hh;have hab:=Lw ks s (by rw[hkn,hh,Bool.or_true])
   have habt:tA ks s = .int a:=by unfold tA;rw[hkc];exact ha1
   rw[habt] at hab;have hkp:=keep_eq ha2.1 ha2.2;refine ⟨c&&(G5 a 8 != 0),Hy _ _ (Yields.obind (zl s) ?_),Ic _ _ (Yields.obind (Jq ks s) ?_),fun _=>(by show nQ ks s=true;rw[hkn,hh])⟩
   ·rw[hkc,hkp];refine Yields.tt rfl (Yields.obind y1 ?_);cases c with
    | false=>exact Yields.ff rfl (Yields.some _)
    | true=>exact Yields.tt rfl (Yields.obind hab (Yields.obind (JV a 8 ha2 (.inr (.inr (.inr rfl)))) (Yields.some _)))
   ·rw[hkn,hh];refine Yields.tt rfl (Yields.obind hro ?_);show Yields (fun k=>bif (G5 ((((T.sl ks).nth i).nth j).fld 0).i 8 != 0) then obind (cl env k El [.sl ks,.st [.str s,.int n,.sl ps,.sl is]]) (fun r3=>some [rt r3 0]) else some [T.bool false]) _
    rw[ha1];show Yields (fun k=>bif (G5 a 8 != 0) then obind (cl env k El [.sl ks,.st [.str s,.int n,.sl ps,.sl is]]) (fun r3=>some [rt r3 0]) else some [T.bool false]) _
    cases (G5 a 8 != 0) with
    | true=>rw[Bool.and_true];exact Yields.tt rfl (Yields.obind y2 (Yields.some _))
    | false=>rw[Bool.and_false];exact Yields.ff rfl (Yields.some _)
def J2 (ks:List T) (v:T):Prop:=Yields (fun k=>cl env k EG [.sl ks,v]) [.bool true]
def Fv (p:Int) (u:T) (o:Int) (v:T):Bool:=decide (p < o)||((p==o)&&Op.bytesLess (u.fld 0).s.toList (v.fld 0).s.toList)
def AtOk (ks es:List T) (j:Nat):Prop:=∃(o:Int) (v:T),es[j]?=some (.st [.int o,v])∧0≤o∧o≤3∧J2 ks v∧nQ ks (v.fld 0).s=true∧
 (0 < j→∃(p:Int) (u:T),es[j - 1]?=some (.st [.int p,u])∧Fv p u o v=true)
def EK (ks es:List T):Prop:=es.length≤36∧∀j,j < es.length→AtOk ks es j
theorem WL {i:Nat} (h:0 < i) (hi:i≤maxLen):IntKind.wrap .i64 ((T.int (i:Int)).i - (1:Int))=((i - 1:Nat):Int):=by
 rw[jZ] at hi;show IntKind.wrap .i64 ((i:Int) - 1)=_
 rw[bf (by omega) (by omega)];omega
theorem L3 (o o':Int) (v v':T):Yields (fun k=>cl env k F0 [.st [.int o,v],.st [.int o',v']]) [.bool (decide (o < o')||((o==o')&&Op.bytesLess (v.fld 0).s.toList (v'.fld 0).s.toList))]:=by
 refine KA _ _ (Yields.ite (fun h=>?_) (fun h=>Yields.ite (fun h2=>?_) (fun h2=>?_)))
 ·rw[show decide (o < o')=true from h,Bool.true_or];exact Yields.some _
 ·rw[show decide (o < o')=false from h,show (o==o')=true from h2,Bool.false_or,Bool.true_and];exact Yields.some _
 ·rw[show decide (o < o')=false from h,show (o==o')=false from h2];exact Yields.some _
theorem NJ (hk : ∀x∈ks,yD b x) (hb:b≤maxLen) (he:v8 ks ks.length 0) (es:List T) (hes : ∀x∈es,Eo b x) (hle:es.length≤b) : ∀(n i:Nat),i+n=es.length→
  ∃c,Yields (fun k=>Fw (Ra.hl env k EH) (.sl ks) (.sl es) (.int (i:Int))) [.bool c]∧((es.length:Int) > 36→c=false)∧
   (¬(es.length:Int) > 36→Yields (fun k=>EX (Ra.hl env k Em) (.sl ks) (.sl es) (.sl es) (.int (es.length:Int)) (.int (i:Int))) [.bool c])∧
   (c=true↔es.length≤36∧∀j,i≤j→j < es.length→AtOk ks es j):=by
 intro n;induction n with
 | zero=>
  intro i hi;refine ⟨decide ((es.length:Int)≤36),Kc _ _ _ (Yields.ff (FH (by omega)) (Yields.some _)),fun h=>decide_eq_false (by omega),fun h=>IS _ _ _ _ _ (Yields.ff ?_ ?_),?_⟩
  ·rw[vZ];exact decide_eq_false (by omega)
  ·rw[decide_eq_true (by omega)];exact Yields.some _
  ·rw[decide_eq_true_eq];exact ⟨fun h=>⟨by omega,fun j h1 h2=>by omega⟩,fun h=>by omega⟩
 | succ n ih=>
  intro i hi;have hlt:i < es.length:=by omega
  have hnx:=AM hlt (Nat.le_trans hle hb);obtain ⟨o,v,hx,ho1,ho2,hv⟩:=hes _ (List.getElem_mem hlt);have hnth:((T.sl es).nth (T.int (i:Int)).i.toNat) = .st [.int o,v]:=by rw[vQ hlt,hx]
  have c1:decide ((T.int (i:Int)).i < (T.int (es.length:Int)).i)=true:=by rw[vZ];exact decide_eq_true hlt
  obtain ⟨c,y1,y2,y3,y4⟩:=ih (i+1) (by omega)
  obtain ⟨d,k1,k2,k3⟩:=Lg hk hb he v hv;let ord:Bool:=if h:0 < i then
   (match es[i - 1]'(by omega) with
    | .st [.int p,u]=>decide (p < o)||((p==o)&&Op.bytesLess (u.fld 0).s.toList (v.fld 0).s.toList)
    | _=>false) else true
  let own:Bool:=(decide (o≥0)&&decide (o≤3))&&d
  have res : ∃c',(own=false→c'=false)∧(own=true→ord=false→c'=false)∧(own=true→ord=true→c'=c)∧(c'=true→own=true∧ord=true∧c=true):=by
   cases own with
   | false=>exact ⟨false,(fun _=>rfl),(fun h=>by cases h),(fun h=>by cases h),(fun h=>by cases h)⟩
   | true=>
    cases ord with
    | false=>exact ⟨false,(fun h=>by cases h),(fun _ _=>rfl),(fun _ h=>by cases h),(fun h=>by cases h)⟩
    | true=>exact ⟨c,(fun h=>by cases h),(fun _ h=>by cases h),(fun _ _=>rfl),(fun h=>⟨rfl,rfl,h⟩)⟩
  obtain ⟨c',q1,q2,q3,q4⟩:=res;have hown:own=((decide (o≥0)&&decide (o≤3))&&d):=rfl
  have hprev:0 < i→∃(p:Int) (u:T),((T.sl es).nth ((IntKind.wrap .i64 ((T.int (i:Int)).i - (1:Int))).toNat)) = .st [.int p,u]∧ord=(decide (p < o)||((p==o)&&Op.bytesLess (u.fld 0).s.toList (v.fld 0).s.toList))∧
    (decide (0≤(IntKind.wrap .i64 ((T.int (i:Int)).i - (1:Int))))&&decide ((IntKind.wrap .i64 ((T.int (i:Int)).i - (1:Int))).toNat < (T.sl es).es.length))=true:=by
   intro h0;obtain ⟨p,u,hp,_⟩:=hes _ (List.getElem_mem (show i - 1 < es.length by omega))
   rw[WL h0 (by omega)]
   refine ⟨p,u,?_,?_,?_⟩
   ·rw[Int.toNat_natCast,bh (by omega),hp]
   ·show (if h:0 < i then _ else true)=_
    rw[dif_pos h0,hp]
   ·rw[Bool.and_eq_true];refine ⟨decide_eq_true (by omega),decide_eq_true ?_⟩
    rw[Int.toNat_natCast];show i - 1 < es.length;omega
  have hfirst : ¬0 < i→ord=true:=fun h=>by show (if h:0 < i then _ else true)=true;rw[dif_neg h]
  have hat:own=true∧ord=true↔AtOk ks es i:=by
   constructor
   ·intro ⟨h1,h2⟩
    rw[hown,Bool.and_eq_true,Bool.and_eq_true,decide_eq_true_eq,decide_eq_true_eq] at h1;obtain ⟨⟨g1,g2⟩,g3⟩:=h1;subst g3;refine ⟨o,v,by rw[List.getElem?_eq_getElem hlt,hx],g1,g2,k1,k3 rfl,fun h0=>?_⟩
    obtain ⟨p,u,hp,_⟩:=hes _ (List.getElem_mem (show i - 1 < es.length by omega))
    refine ⟨p,u,by rw[List.getElem?_eq_getElem (by omega),hp],?_⟩
    have h2':(if h:0 < i then _ else true)=true:=h2
    rw[dif_pos h0,hp] at h2';exact h2'
   ·intro ⟨o',v',g0,g1,g2,g3,_,g4⟩
    rw[List.getElem?_eq_getElem hlt,hx] at g0;cases g0;have hd:d=true:=by have:=Yields.uniq k1 g3;cases this;rfl
    refine ⟨by rw[hown,decide_eq_true g1,decide_eq_true g2,hd];rfl,?_⟩
    show (if h:0 < i then _ else true)=true
    by_cases h0:0 < i
    ·rw[dif_pos h0];obtain ⟨p,u,hp,hb⟩:=g4 h0;rw[List.getElem?_eq_getElem (by omega)] at hp
     rw[Option.some.inj hp];exact hb
    ·rw[dif_neg h0]
  refine ⟨c',?_,fun h36=>?_,fun h36=>?_,?_⟩
  rotate_left 3
  ·constructor
   ·intro h;obtain ⟨h1,h2,h3⟩:=q4 h;obtain ⟨h4,h5⟩:=y4.1 h3;refine ⟨h4,fun j hj hj2=>?_⟩
    by_cases hji:j=i
    ·subst hji;exact hat.1 ⟨h1,h2⟩
    ·exact h5 j (by omega) hj2
   ·intro ⟨h4,h5⟩
    obtain ⟨h1,h2⟩:=hat.2 (h5 i (by omega) hlt)
    rw[q3 h1 h2];exact y4.2 ⟨h4,fun j hj hj2=>h5 j (by omega) hj2⟩
  ·refine Kc _ _ _ (Yields.tt (F2 hlt) (Yields.tt (pw hlt) ?_));rw[hnth];refine Yields.obind (Vo o 0 3) ?_;cases hin:(decide (o≥0)&&decide (o≤3)) with
   | false=>rw[q1 (by rw[hown,hin];rfl)];exact Yields.tt rfl (Yields.some _)
   | true=>
    refine Yields.ff rfl (Yields.obind k1 ?_);cases hd:d with
    | false=>rw[q1 (by rw[hown,hin,hd];rfl)];exact Yields.tt rfl (Yields.some _)
    | true=>
     have ho:own=true:=by rw[hown,hin,hd];rfl
     refine Yields.ff rfl (Yields.ite (fun e=>?_) (fun e=>?_))
     ·have h0:0 < i:=by
       have:(i:Int) > 0:=of_decide_eq_true e
       omega
      obtain ⟨p,u,hp1,hp2,hp3⟩:=hprev h0;refine Yields.tt hp3 ?_;rw[hp1];refine Yields.ite (fun e1=>?_) (fun e1=>Yields.ite (fun e2=>Yields.ite (fun e3=>?_) (fun e3=>?_)) (fun e2=>?_))
      ·have e1':p > o:=of_decide_eq_true e1
       rw[q2 ho (by rw[hp2,decide_eq_false (by omega : ¬p < o),show (p==o)=false from beq_eq_false_iff_ne.2 (by omega)];rfl)];exact Yields.some _
      ·have e2':(p==o)=true:=e2
       have e3':(!Op.bytesLess (u.fld 0).s.toList (v.fld 0).s.toList)=true:=e3
       have e1' : ¬p > o:=of_decide_eq_false e1
       have hpo:p=o:=by simpa using e2'
       rw[q2 ho (by rw[hp2,decide_eq_false (by omega : ¬p < o),e2',Bool.true_and,Bool.false_or];simpa using e3')];exact Yields.some _
      ·have e2':(p==o)=true:=e2
       have e3':(!Op.bytesLess (u.fld 0).s.toList (v.fld 0).s.toList)=false:=e3
       rw[q3 ho (by rw[hp2,e2',Bool.true_and];simp only[Bool.not_eq_false'] at e3';rw[e3',Bool.or_true]),hnx];exact y1
      ·have e2':(p==o)=false:=e2
       have e1' : ¬p > o:=of_decide_eq_false e1
       have hpo : ¬p=o:=by simpa using e2'
       rw[q3 ho (by rw[hp2,decide_eq_true (by omega:p < o),Bool.true_or]),hnx];exact y1
     ·have h0 : ¬0 < i:=by
       have : ¬(i:Int) > 0:=of_decide_eq_false e
       omega
      rw[q3 ho (hfirst h0),hnx];exact y1
  ·by_cases ho:own=true
   ·by_cases hor:ord=true
    ·rw[q3 ho hor];exact y2 h36
    ·exact q2 ho (eq_false_of_ne_true hor)
   ·exact q1 (eq_false_of_ne_true ho)
  ·refine IS _ _ _ _ _ (Yields.tt c1 (Yields.tt (pw hlt) ?_));rw[hnth];have stop:(decide (o≥0)&&decide (o≤3))=false→Yields (fun _=>some [T.bool false]) [T.bool c']:=fun h=>by rw[q1 (by rw[hown,h];rfl)];exact Yields.some _
   refine Yields.ite (fun e=>?_) (fun e=>Yields.ite (fun e2=>?_) (fun e2=>?_))
   ·have e':o < 0:=of_decide_eq_true e
    exact stop (by rw[decide_eq_false (by omega : ¬o≥0)];rfl)
   ·have e':o≥4:=of_decide_eq_true e2
    exact stop (by rw[decide_eq_false (by omega : ¬o≤3),Bool.and_false])
   ·have e' : ¬o < 0:=of_decide_eq_false e
    have e2' : ¬o≥4:=of_decide_eq_false e2
    have hin:(decide (o≥0)&&decide (o≤3))=true:=by rw[decide_eq_true (by omega:o≥0),decide_eq_true (by omega:o≤3)];rfl
    refine Yields.obind k2 ?_;cases hd:d with
    | false=>rw[q1 (by rw[hown,hin,hd];rfl)];exact Yields.tt rfl (Yields.some _)
    | true=>
     have ho:own=true:=by rw[hown,hin,hd];rfl
     refine Yields.ff rfl (Yields.ite (fun e=>?_) (fun e=>?_))
     ·have h0:0 < i:=by
       have:(i:Int) > 0:=of_decide_eq_true e
       omega
      obtain ⟨p,u,hp1,hp2,hp3⟩:=hprev h0;refine Yields.tt hp3 ?_;rw[hp1];have hbf:=L3 p o u v;rw[← hp2] at hbf;refine Yields.obind hbf ?_;cases hor:ord with
      | false=>rw[q2 ho hor];exact Yields.tt rfl (Yields.some _)
      | true=>rw[q3 ho hor,hnx];exact Yields.ff rfl (y3 h36)
     ·have h0 : ¬0 < i:=by
       have : ¬(i:Int) > 0:=of_decide_eq_false e
       omega
      rw[q3 ho (hfirst h0),hnx];exact y3 h36
end
theorem Nm {b:Nat} (hb:b≤maxLen) (ks es:List T) (hk:HO b (.sl ks)) (hl:FV b (.sl es)) : ∃c,Yields (fun k=>cl env k Ep [.sl ks,.sl es]) [.bool c]∧Yields (fun k=>cl env k Ek [.sl ks,.sl es]) [.bool c]∧
  (c=true→(∀x∈ks,yD b x)∧v8 ks ks.length 0∧Ir ks ks.length∧ks.length≤3∧EK ks es)∧(Yields (fun k=>cl env k na [.sl ks]) [.bool true]→EK ks es→c=true):=by
 obtain ⟨ks',he,hk1,hk2⟩:=hk;cases he;obtain ⟨es',he,hl1,hl2⟩:=hl;cases he;obtain ⟨c,y1,y2,y3⟩:=IM hk2 hb hk1;cases c with
 | false=>exact ⟨false,Ie _ _ (Yields.obind y1 (Yields.ff rfl (Yields.some _))),Ju _ _ (Yields.obind y2 (Yields.tt rfl (Yields.some _))),(fun h=>by cases h),fun h _=>by have:=Yields.uniq y1 h;cases this⟩
 | true=>
  obtain ⟨e1,e2,e3⟩:=y3 rfl;obtain ⟨c,z1,z2,z3,z4⟩:=NJ hk2 hb e1 es hl2 hl1 es.length 0 (by omega)
  refine ⟨c,Ie _ _ (Yields.obind y1 (Yields.tt rfl (Yields.obind (Nn _ _ z1) (Yields.some _)))),Ju _ _ (Yields.obind y2 (Yields.ff rfl (Yields.ite (fun e=>?_) (fun e=>?_)))),fun h=>⟨hk2,e1,e2,e3,(z4.1 h).1,fun j hj=>(z4.1 h).2 j (Nat.zero_le _) hj⟩,fun _ h=>z4.2 ⟨h.1,fun j _ hj=>h.2 j hj⟩⟩
  ·rw[z2 (of_decide_eq_true e)];exact Yields.some _
  ·exact z3 (of_decide_eq_false e)
inductive Run (g:T→Int→Int→Prop):Int→List T→Int→Prop
 | nil {k} : Run g k [] k
 | cons {k n m t l} : g t k n→Run g n l m→Run g k (t :: l) m
theorem st4 {b:Nat} {t:T} (h:EB b t):T.st [t.fld 0,t.fld 1,t.fld 2,t.fld 3]=t:=by cases h;rfl
theorem JM {n m:Nat} (h:n≤BB) (hm:m≤1):n+m≤LIM:=by unfold BB at h;unfold LIM;omega
theorem J8 : ∀v,EB BB v→Yields (fun k=>cl env k E7 [v]) [v]:=by
 intro v h;induction h with
 | @mk s n ps is h1 h2 h3 h4 h5 h6 h7 ih=>
  have key : ∀(m i:Nat) (z:T),i+m=ps.length→Yields (fun k=>Fq (hl env k Eg) (.int (i:Int)) (.st [.str s,.int n,.sl ps,.sl is]) z (.st [.str s,.int n,.sl (ps.take i),.sl is])) [.st [.str s,.int n,.sl ps,.sl is]]:=by
   intro m;induction m with
   | zero=>
    intro i z hi;refine Jy _ _ _ _ (Yields.ff (FH (es:=ps) (by omega)) ?_)
    show Yields (fun _=>some [T.st [.str s,.int n,.sl (ps.take i),.sl is]]) _
    rw[List.take_of_length_le (by omega)];exact Yields.some _
   | succ m ihm=>
    intro i z hi;have hlt:i < ps.length:=by omega
    have hv:=h7 _ (List.getElem_mem hlt);have y:=ih _ (List.getElem_mem hlt);have hn1:((T.sl ps).nth (T.int (i:Int)).i.toNat)=ps[i]:=vQ hlt
    rw[← hn1] at y;refine Jy _ _ _ _ (Yields.tt (F2 (es:=ps) hlt) (Yields.tt (pw (es:=ps) hlt) (Yields.obind y (Yields.tt (decide_eq_true ?_) ?_))))
    ·show (ps.take i).length+1≤LIM
     have:(ps.take i).length≤BB:=by rw[List.length_take];omega
     exact JM this (by omega)
    ·have hnx:=AM hlt (DU h4);rw[hnx];show Yields (fun k=>Fq (Ra.hl env k Eg) (.int ((i+1:Nat):Int)) _ _ (.st [.str s,.int n,.sl (ps.take i ++ [T.st [((T.sl ps).nth (T.int (i:Int)).i.toNat).fld 0,((T.sl ps).nth (T.int (i:Int)).i.toNat).fld 1,((T.sl ps).nth (T.int (i:Int)).i.toNat).fld 2,((T.sl ps).nth (T.int (i:Int)).i.toNat).fld 3]]),.sl is])) _
     rw[hn1,st4 hv,List.take_append_getElem hlt];exact ihm (i+1) z (by omega)
  refine N3 _ (Yields.tt (decide_eq_true ?_) ?_)
  ·show ([]:List T).length+is.length≤LIM
   have:=JM h5 (m:=0) (by omega);simp;omega
  ·show Yields (fun k=>I9 (Ra.hl env k Eg) (.int 0) _ _ (.st [.str s,.int n,.sl [],.sl is])) _
   by_cases hp:ps = []
   ·subst hp;exact Jx _ _ _ _ (Yields.ff (FH (es:=[]) (i:=0) (by simp)) (Yields.some _))
   ·have hlt:0 < ps.length:=by cases ps <;> simp_all
    have hv:=h7 _ (List.getElem_mem hlt);have y:=ih _ (List.getElem_mem hlt);have hn1:((T.sl ps).nth (T.int ((0:Nat):Int)).i.toNat)=ps[0]:=vQ hlt
    rw[← hn1] at y;refine Jx _ _ _ _ (Yields.tt (F2 (es:=ps) hlt) (Yields.tt (pw (es:=ps) hlt) (Yields.obind y (Yields.tt (decide_eq_true ?_) ?_))))
    ·show 0+1≤LIM
     unfold LIM;omega
    ·have hnx:=AM hlt (DU h4);show Yields (fun k=>Fq (Ra.hl env k Eg) (T.int (IntKind.wrap .i64 ((T.int ((0:Nat):Int)).i+(1:Int)))) _ _ (.st [.str s,.int n,.sl ([] ++ [T.st [((T.sl ps).nth (T.int ((0:Nat):Int)).i.toNat).fld 0,((T.sl ps).nth (T.int ((0:Nat):Int)).i.toNat).fld 1,((T.sl ps).nth (T.int ((0:Nat):Int)).i.toNat).fld 2,((T.sl ps).nth (T.int ((0:Nat):Int)).i.toNat).fld 3]]),.sl is])) _
     rw[hnx,hn1,st4 hv,show ([]:List T) ++ [ps[0]]=ps.take 1 by rw[← List.take_append_getElem hlt];rfl]
     exact key (ps.length - 1) 1 _ (by omega)
theorem st2 {b:Nat} {x:T} (h:Eo b x):T.st [x.fld 0,x.fld 1]=x:=by obtain ⟨o,v,rfl,_⟩:=h;rfl
def IsIns (t:T):Prop:=∃(s:ByteArray) (a b:Int),t = .st [.str s,.int a,.int b]∧s.size≤maxLen
def cz (is:List T):Prop:=∀x∈is,∃m:Int,x = .int m
inductive j5 (b:Nat):T→Prop
 | mk {n:Int} {ags rs ls tk cd:List T} : ags.length≤b→rs.length≤b→ls.length≤b→tk.length≤b→cd.length≤b→(∀x∈ags,tv x)→(∀x∈rs,tv x)→(∀x∈ls,tv x)→cz tk→
   (∀x∈cd,IsIns x)→j5 b (.st [.int n,.sl ags,.sl rs,.sl ls,.sl tk,.sl cd])
inductive kW (b:Nat):T→Prop
 | mk {rs fs fr:List T} : yD b (.sl rs)→fs.length≤b→(∀x∈fs,j5 b x)→fr.length≤b→cz fr→kW b (.st [.sl rs,.sl fs,.sl fr])
noncomputable def pY:T:=((nk (fun _ _=>none) (fun _ _=>none)).getD []).headD (.int 0)
theorem QT:Yields (fun k=>cl env k nb []) [pY]:=xm (Yields.some _)
theorem tab_sl:pY = .sl pY.es:=by kernel_rfl
def O8 (s:ByteArray):Bool:=decide (s.size > 0)&&(bU s 0==38||bU s 0==33)
def ofB (s:ByteArray):ByteArray:=bif O8 s then s.extract 1 s.size else s
theorem nB (s:ByteArray):(s.toList==(⟨#[]⟩:ByteArray).toList) = !decide (s.size > 0):=by
 by_cases h:s.size > 0
 ·rw[decide_eq_true h];rw[beq_eq_false_iff_ne.2];· rfl
  rw[ne_eq,ByteArray.toList_eq,ByteArray.toList_eq];intro he;have:s=⟨#[]⟩:=WideShapes.bytes_inj he
  subst this;exact absurd h (by decide)
 ·have:s=⟨#[]⟩:=by
   obtain ⟨⟨l⟩⟩:=s;cases l with
   | nil=>rfl
   | cons a l=>exact absurd (by show 0 < (a :: l).length;simp) h
  subst this;simp[ByteArray.size]
theorem wI (s:ByteArray) (c:Nat):(((s.data.getD 0 0).toNat:Int)==(c:Int))=(bU s 0==c):=by
 rw[LH];by_cases h:bU s 0=c
 ·rw[h];simp
 ·rw[beq_eq_false_iff_ne.2 h,beq_eq_false_iff_ne];omega
theorem lk (s:ByteArray):Yields (fun k=>cl env k bO [.str s]) [.bool (O8 s)]:=by
 refine tp _ ?_;unfold O8;by_cases h:s.size > 0
 ·refine Yields.tt (decide_eq_true (by show (s.size:Int) > 0;omega)) (Yields.tt (by rw[Bool.and_eq_true];exact ⟨rfl,decide_eq_true h⟩) ?_)
  rw[decide_eq_true h,Bool.true_and];refine Yields.ite (fun e=>?_) (fun e=>?_)
  ·have:(bU s 0==38)=true:=by rw[← wI];exact e
   rw[this,Bool.true_or];exact Yields.some _
  ·have:(bU s 0==38)=false:=by rw[← wI];exact e
   rw[this,Bool.false_or,← wI];exact Yields.tt (by rw[Bool.and_eq_true];exact ⟨rfl,decide_eq_true h⟩) (Yields.some _)
 ·rw[decide_eq_false h,Bool.false_and];exact Yields.ff (decide_eq_false (by show ¬(s.size:Int) > 0;omega)) (Yields.some _)
theorem Q5 {n:Nat} (h:n > 0):(decide (0≤(1:Int))&&(decide ((1:Int)≤(n:Int))&&(decide ((n:Int)≤(n:Int))&&decide ((n:Int)≤(n:Int)))))=true:=by
 simp only[Bool.and_eq_true,decide_eq_true_eq];exact ⟨by omega,by omega,by omega,by omega⟩
theorem rW {s:ByteArray} (h:O8 s=true):s.size > 0:=by unfold O8 at h;rw[Bool.and_eq_true,decide_eq_true_eq] at h;exact h.1
theorem of_s (s:ByteArray):Yields (fun k=>cl env k cx [.str s]) [.str (ofB s)]:=by
 refine Ai _ (Yields.obind (lk s) ?_);unfold ofB;cases h:O8 s with
 | true=>exact Yields.tt rfl (Yields.tt (Q5 (rW h)) (Yields.some _))
 | false=>exact Yields.ff rfl (Yields.some _)
theorem lt_t {es:List T} {i:Nat} (h:i < es.length):decide ((T.int (i:Int)).i < (T.int (es.length:Int)).i)=true:=by rw[vZ];exact decide_eq_true h
theorem lt_f {es:List T} {i:Nat} (h : ¬i < es.length):decide ((T.int (i:Int)).i < (T.int (es.length:Int)).i)=false:=by rw[vZ];exact decide_eq_false h
def aY (ms:List T):List T:=ms.map (·.fld 0)
theorem ub {ms:List T} {i:Nat} (h:i < (aY ms).length) (h':i < ms.length):(aY ms)[i]=ms[i].fld 0:=by simp[aY]
theorem st2' {x:T} (h:DG BB x):T.st [x.fld 0,x.fld 1]=x:=by obtain ⟨a,fs,rfl,_⟩:=h;rfl
theorem rec_fs {x:T} (h:DG BB x) : ∃fs,x.fld 1 = .sl fs∧fs.length≤BB:=by obtain ⟨a,fs,rfl,_,_,h3,_⟩:=h;exact ⟨fs,rfl,h3⟩
theorem DS {x:T} (h:kW BB x) : ∃rs,x.fld 0 = .sl rs∧yD BB (.sl rs):=by cases h with | mk h1=>exact ⟨_,rfl,h1⟩
theorem E4 {ms:List T} (hm : ∀x∈ms,kW BB x) : ∀x∈aY ms,yD BB x:=by
 intro x hx;unfold aY at hx;obtain ⟨y,hy,rfl⟩:=List.mem_map.1 hx;obtain ⟨rs,h1,h2⟩:=DS (hm y hy);rw[h1];exact h2
theorem tF (ms:List T) (hlen:ms.length≤BB) (hm : ∀x∈ms,kW BB x):Yields (fun k=>cl env k d9 [.sl ms]) [.sl (aY ms)]:=by
 have key : ∀(m i:Nat),i+m=ms.length→Yields (fun k=>dC (hl env k E5) (.sl ms) (.int (i:Int)) (.sl ((aY ms).take i))) [.sl (aY ms)]:=by
  intro m;induction m with
  | zero=>
   intro i hi;refine n8 _ _ _ (Yields.ff (FH (by omega)) ?_)
   rw[List.take_of_length_le (by unfold aY;simp;omega)];exact Yields.some _
  | succ m ih=>
   intro i hi;have hlt:i < ms.length:=by omega
   obtain ⟨rs,hr1,hr2⟩:=DS (hm _ (List.getElem_mem hlt));obtain ⟨_,he,hrl,hrr⟩:=hr2;cases he;have hn1:(((T.sl ms).nth (T.int (i:Int)).i.toNat).fld 0) = .sl rs:=by rw[vQ hlt];exact hr1
   have hk:i < (aY ms).length:=by unfold aY;simpa using hlt
   have e:(aY ms)[i] = .sl rs:=(ub hk hlt).trans hr1
   refine n8 _ _ _ (Yields.tt (F2 hlt) ?_);have inner : ∀(m' j:Nat),j+m'=rs.length→Yields (fun k=>dD (hl env k E5) (.sl ms) (.int (i:Int)) (.int (j:Int)) (.sl ((aY ms).take i)) (.sl (rs.take j))) [.sl (aY ms)]:=by
    intro m';induction m' with
    | zero=>
     intro j hj;refine n9 _ _ _ _ _ (Yields.tt (pw hlt) ?_);rw[hn1];refine Yields.ff (FH (by omega)) (Yields.tt (decide_eq_true ?_) ?_)
     ·show ((aY ms).take i).length+1≤LIM
      rw[List.length_take];unfold BB at hlen;unfold LIM;omega
     ·rw[AM hlt (DU hlen),List.take_of_length_le (by omega:rs.length≤j),← e]
      show Yields (fun k=>dC (hl env k E5) (.sl ms) (.int ((i+1:Nat):Int)) (.sl ((aY ms).take i ++ [(aY ms)[i]]))) _
      rw[List.take_append_getElem hk];exact ih (i+1) (by omega)
    | succ m' ih'=>
     intro j hj;have hjt:j < rs.length:=by omega
     have hkr:=hrr _ (List.getElem_mem hjt);obtain ⟨fs,hf,hfl⟩:=rec_fs hkr;refine n9 _ _ _ _ _ (Yields.tt (pw hlt) ?_);rw[hn1];have hn2:((T.sl rs).nth (T.int (j:Int)).i.toNat)=rs[j]:=vQ hjt
     rw[hn2,hf];have e2:T.st [rs[j].fld 0,T.sl (([]:List T)++(T.sl fs).es)]=rs[j]:=by show T.st [rs[j].fld 0,.sl fs]=_;rw[← hf];exact st2' hkr
     refine Yields.tt (F2 hjt) (Yields.tt (pw hjt) (Yields.tt (decide_eq_true ?_) (Yields.tt (decide_eq_true ?_) ?_)))
     ·show ([]:List T).length+fs.length≤LIM
      unfold BB at hfl;unfold LIM;simp;omega
     ·show (rs.take j).length+1≤LIM
      rw[List.length_take];unfold BB at hrl;unfold LIM;omega
     ·rw[e2,AM hjt (DU hrl)];show Yields (fun k=>dD (hl env k E5) (.sl ms) (.int (i:Int)) (.int ((j+1:Nat):Int)) (.sl ((aY ms).take i)) (.sl (rs.take j ++ [rs[j]]))) _
      rw[List.take_append_getElem hjt];exact ih' (j+1) (by omega)
   exact inner rs.length 0 (by omega)
 exact tV _ (key ms.length 0 (by omega))
theorem qW (ms:List T):(aY ms).length=ms.length:=by simp[aY]
theorem func6 {f:T} (h:j5 BB f):T.st [f.fld 0,f.fld 1,f.fld 2,f.fld 3,f.fld 4,f.fld 5]=f:=by cases h;rfl
end Go.Proofs.YtdcnobhlknjnoaaGreatDoor.Ra
