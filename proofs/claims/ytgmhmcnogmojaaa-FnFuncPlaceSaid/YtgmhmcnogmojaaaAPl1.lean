/- A verified evaluator for the program, part Pl1 of this claim. -/
import Derived.Test.YtgmhmcnogmojaaaARa3
import Derived.Test.YtgmhmcnogmojaaaAEq
import Derived.Laws.Strings
set_option linter.unusedSimpArgs false
set_option linter.unusedVariables false
namespace Go.Proofs.Ytgmhmcnogmojaaa.Ra
open Go
theorem jZ:maxLen=9223372036854775807:=by decide
theorem vQ {es:List T} {i:Nat} (h:i < es.length):(T.sl es).nth (T.int (i:Int)).i.toNat=es[i]:=by
 show (T.sl es).nth ((i:Int).toNat)=es[i]
 rw[Int.toNat_natCast,bh h]
theorem lt_tt {es:List T} {i:Nat} (h:i < es.length):decide ((T.int (i:Int)).i < ((T.sl es).es.length:Int))=true:=by
 apply decide_eq_true;show (i:Int) < (es.length:Int);omega
theorem lt_ff {es:List T} {i:Nat} (h : ¬i < es.length):decide ((T.int (i:Int)).i < ((T.sl es).es.length:Int))=false:=by
 apply decide_eq_false;show ¬(i:Int) < (es.length:Int);omega
theorem pw {es:List T} {i:Nat} (h:i < es.length):(decide (0≤(T.int (i:Int)).i)&&decide ((T.int (i:Int)).i.toNat < (T.sl es).es.length))=true:=by
 rw[Bool.and_eq_true]
 refine ⟨decide_eq_true ?_,decide_eq_true ?_⟩
 ·show (0:Int)≤i;omega
 ·show (i:Int).toNat < es.length;omega
theorem AM {n i:Nat} (h:i < n) (hn:n≤maxLen):T.int (IntKind.wrap .i64 ((T.int (i:Int)).i+(1:Int)))=T.int ((i+1:Nat):Int):=by
 rw[jZ] at hn
 show T.int (IntKind.wrap .i64 ((i:Int)+1))=_
 rw[bf (by omega) (by omega)]
 rfl
section
variable {E:Env}
end
inductive IsVal (b:Nat):T→Prop
 | mk {s:ByteArray} {n:Int} {ps is:List T} : s.size≤maxLen→-9223372036854775808≤n→n≤9223372036854775807→ps.length≤b→is.length≤b→(∀x∈is,∃m:Int,x = .int m)→(∀x∈ps,IsVal b x)→
   IsVal b (.st [.str s,.int n,.sl ps,.sl is])
def tv (t:T):Prop:=∃s:ByteArray,t = .str s∧s.size≤maxLen
def IsRec (b:Nat) (t:T):Prop:=∃(a:Int) (fs:List T),t = .st [.int a,.sl fs]∧-9223372036854775808≤a∧a≤9223372036854775807∧fs.length≤b∧∀x∈fs,tv x
def yD (b:Nat) (t:T):Prop:=∃rs:List T,t = .sl rs∧rs.length≤b∧∀x∈rs,IsRec b x
def IsKept (b:Nat) (t:T):Prop:=∃(o:Int) (v:T),t = .st [.int o,v]∧-9223372036854775808≤o∧o≤9223372036854775807∧IsVal b v
def BB:Nat:=1048576
theorem room {n:Nat} (h:n≤BB):(decide (0≤(n:Int))&&(decide ((n:Int)≤(n:Int))&&decide (n≤LIM)))=true:=by
 unfold BB at h
 rw[Bool.and_eq_true,Bool.and_eq_true,decide_eq_true_eq,decide_eq_true_eq,decide_eq_true_eq]
 exact ⟨by omega,by omega,by unfold LIM;omega⟩
theorem bb_max {n:Nat} (h:n≤BB):n≤maxLen:=by rw[jZ];unfold BB at h;omega
def bU (s:ByteArray) (i:Nat):Nat:=(s.data.getD i 0).toNat
def dn (s:ByteArray):Option (Nat × Nat):=
 if s.size=3∧bU s 0=83∧48≤bU s 1∧bU s 1≤57∧48≤bU s 2∧bU s 2≤57 then some (bU s 1 - 48,bU s 2 - 48) else none
def kindR:Option (Nat × Nat)→List T
 | none=>[.int 0,.int 0,.bool false]
 | some (i,j)=>[.int (i:Int),.int (j:Int),.bool true]
theorem wrap8 {n:Int} (h0:0≤n) (h1:n≤255):IntKind.wrap .u8 n=n:=by
 simp only[IntKind.wrap,IntKind.bits,IntKind.signed]
 have:n % 256=n:=by omega
 simpa using this
theorem digit {n:Nat} (h:48≤n) (h2:n≤57):IntKind.wrap .i64 (IntKind.wrap .u8 ((n:Int) - (48:Int)))=((n - 48:Nat):Int):=by
 rw[wrap8 (by omega) (by omega),bf (by omega) (by omega)];omega
theorem C3 (s:ByteArray):Yields (fun _=>
  bif (((T.str s).s.size:Int) != (3:Int)) then
   some [(T.int (0:Int)),(T.int (0:Int)),(T.bool false)]
  else
   bif (decide (0≤(0:Int))&&decide (0 < (T.str s).s.size)) then
    bif (((T.str s).s.data.getD 0 0).toNat != (83:Int)) then
     some [(T.int (0:Int)),(T.int (0:Int)),(T.bool false)]
    else
     bif (decide (0≤(1:Int))&&decide (1 < (T.str s).s.size)) then
      bif (decide (((T.str s).s.data.getD 1 0).toNat < (48:Int))) then
       some [(T.int (0:Int)),(T.int (0:Int)),(T.bool false)]
      else
       bif (decide (((T.str s).s.data.getD 1 0).toNat > (57:Int))) then
        some [(T.int (0:Int)),(T.int (0:Int)),(T.bool false)]
       else
        bif (decide (0≤(2:Int))&&decide (2 < (T.str s).s.size)) then
         bif (decide (((T.str s).s.data.getD 2 0).toNat < (48:Int))) then
          some [(T.int (0:Int)),(T.int (0:Int)),(T.bool false)]
         else
          bif (decide (((T.str s).s.data.getD 2 0).toNat > (57:Int))) then
           some [(T.int (0:Int)),(T.int (0:Int)),(T.bool false)]
          else
           some [(T.int (IntKind.wrap .i64 (IntKind.wrap .u8 (((T.str s).s.data.getD 1 0).toNat - (48:Int))))),(T.int (IntKind.wrap .i64 (IntKind.wrap .u8 (((T.str s).s.data.getD 2 0).toNat - (48:Int))))),(T.bool true)]
        else
         none
     else
      none
   else
    none) (kindR (dn s)):=by
 have no : ∀{x:Nat→R},¬(s.size=3∧bU s 0=83∧48≤bU s 1∧bU s 1≤57∧48≤bU s 2∧bU s 2≤57)→x=(fun _=>some [(T.int (0:Int)),(T.int (0:Int)),(T.bool false)])→Yields x (kindR (dn s)):=by
  intro x h hx
  subst hx
  unfold dn
  rw[if_neg h]
  exact Yields.some _
 have sz:(T.str s).s.size=s.size:=rfl
 refine Yields.ite (fun h=>no ?_ rfl) (fun h=>Yields.ite (fun _=>Yields.ite (fun h2=>no ?_ rfl) (fun h2=>Yields.ite (fun _=>Yields.ite (fun h3=>no ?_ rfl) (fun h3=>Yields.ite (fun h4=>no ?_ rfl) (fun h4=>Yields.ite (fun _=>Yields.ite (fun h5=>no ?_ rfl) (fun h5=>Yields.ite (fun h6=>no ?_ rfl) (fun h6=>?_))) (fun h5=>?_)))) (fun h3=>?_))) (fun h2=>?_))
 all_goals simp only[bne_iff_ne,ne_eq,bne_eq_false_iff_eq,decide_eq_true_eq,decide_eq_false_iff_not,Bool.and_eq_true,Bool.and_eq_false_iff] at *
 ·intro ⟨c,_⟩;rw[sz] at h;omega
 ·intro ⟨_,c,_⟩;unfold bU at c;exact h2 (by exact_mod_cast c)
 ·intro ⟨_,_,c,_⟩;unfold bU at c;have:((s.data.getD 1 0).toNat:Int) < 48:=h3;omega
 ·intro ⟨_,_,_,c,_⟩;unfold bU at c;have:((s.data.getD 1 0).toNat:Int) > 57:=h4;omega
 ·intro ⟨_,_,_,_,c,_⟩;unfold bU at c;have:((s.data.getD 2 0).toNat:Int) < 48:=h5;omega
 ·intro ⟨_,_,_,_,_,c⟩;unfold bU at c;have:((s.data.getD 2 0).toNat:Int) > 57:=h6;omega
 ·have e0:((s.size:Nat):Int)=3:=h
  have e2:((s.data.getD 0 0).toNat:Int)=83:=h2
  have e3 : ¬((s.data.getD 1 0).toNat:Int) < 48:=h3
  have e4 : ¬((s.data.getD 1 0).toNat:Int) > 57:=h4
  have e5 : ¬((s.data.getD 2 0).toNat:Int) < 48:=h5
  have e6 : ¬((s.data.getD 2 0).toNat:Int) > 57:=h6
  have hk:dn s=some (bU s 1 - 48,bU s 2 - 48):=by
   unfold dn
   rw[if_pos ⟨by omega,by unfold bU;omega,by unfold bU;omega,by unfold bU;omega,by unfold bU;omega,by unfold bU;omega⟩]
  rw[hk]
  have d1:IntKind.wrap .i64 (IntKind.wrap .u8 (((T.str s).s.data.getD 1 0).toNat - (48:Int)))=((bU s 1 - 48:Nat):Int):=digit (by omega) (by omega)
  have d2:IntKind.wrap .i64 (IntKind.wrap .u8 (((T.str s).s.data.getD 2 0).toNat - (48:Int)))=((bU s 2 - 48:Nat):Int):=digit (by omega) (by omega)
  rw[d1,d2]
  exact Yields.some _
 ·exfalso;rw[sz] at *;rcases h5 with h5 | h5 <;> omega
 ·exfalso;rw[sz] at *;rcases h3 with h3 | h3 <;> omega
 ·exfalso;rw[sz] at *;rcases h2 with h2 | h2 <;> omega
theorem zl (s:ByteArray):Yields (fun k=>cl env k cU [.str s]) (kindR (dn s)):=yp _ (C3 s)
theorem ma {s:ByteArray} {i j:Nat} (h:dn s=some (i,j)):s.size=3∧bU s 0=83∧i≤9∧j≤9:=by
 unfold dn at h
 split at h
 ·rename_i hc
  simp only[Option.some.injEq,Prod.mk.injEq] at h
  obtain ⟨rfl,rfl⟩:=h
  exact ⟨hc.1,hc.2.1,by omega,by omega⟩
 ·cases h
def dw (s:ByteArray):Bool:=s.toList==(⟨#[110]⟩:ByteArray).toList||(s.toList==(⟨#[98]⟩:ByteArray).toList||s.toList==(⟨#[111]⟩:ByteArray).toList)
theorem base_s (s:ByteArray):Yields (fun k=>cl env k kU [.str s]) [.bool (dw s)]:=by
 refine yo _ (Yields.ite (fun h=>?_) (fun h=>Yields.ite (fun h2=>?_) (fun h2=>?_)))
 ·have:dw s=true:=by unfold dw;rw[show (s.toList==(⟨#[110]⟩:ByteArray).toList)=true from h];rfl
  rw[this];exact Yields.some _
 ·have:dw s=true:=by unfold dw;rw[show (s.toList==(⟨#[98]⟩:ByteArray).toList)=true from h2];simp
  rw[this];exact Yields.some _
 ·have:dw s=(s.toList==(⟨#[111]⟩:ByteArray).toList):=by
   unfold dw;rw[show (s.toList==(⟨#[110]⟩:ByteArray).toList)=false from h,show (s.toList==(⟨#[98]⟩:ByteArray).toList)=false from h2];simp
  rw[this];exact Yields.some _
theorem byte1 {s:ByteArray} {c:UInt8} (h:(s.toList==(⟨#[c]⟩:ByteArray).toList)=true):s.size=1∧bU s 0=c.toNat:=by
 rw[beq_iff_eq,ByteArray.toList_eq,ByteArray.toList_eq] at h
 have hs:s=⟨#[c]⟩:=WideShapes.bytes_inj h
 subst hs
 exact ⟨rfl,rfl⟩
theorem sG {s:ByteArray} (h:dw s=true):s.size=1∧(bU s 0=110∨bU s 0=98∨bU s 0=111):=by
 unfold dw at h
 rw[Bool.or_eq_true,Bool.or_eq_true] at h
 rcases h with h | h | h
 ·obtain ⟨a,b⟩:=byte1 h;exact ⟨a,.inl b⟩
 ·obtain ⟨a,b⟩:=byte1 h;exact ⟨a,.inr (.inl b)⟩
 ·obtain ⟨a,b⟩:=byte1 h;exact ⟨a,.inr (.inr b)⟩
theorem sF {s:ByteArray} (h:dw s=true):dn s=none:=by
 cases hk:dn s with
 | none=>rfl
 | some x=>
  obtain ⟨i,j⟩:=x
  have:=(ma hk).1
  have:=(sG h).1
  omega
def lS (ks:List T) (i j:Nat):Bool:=decide (i < ks.length)&&decide (j < ((T.sl ks).nth i).es.length)
theorem has_s (ks:List T) (i j:Nat):Yields (fun k=>cl env k mg [.sl ks,.int (i:Int),.int (j:Int)]) [.bool (lS ks i j)]:=by
 refine A0 _ _ _ ?_
 by_cases h:i < ks.length
 ·refine Yields.tt (lt_tt h) (Yields.tt (pw h) ?_)
  have:lS ks i j=decide ((T.int (j:Int)).i < ((((T.sl ks).nth (T.int (i:Int)).i.toNat).es).length:Int)):=by
   unfold lS
   rw[decide_eq_true h,Bool.true_and]
   show _=decide ((j:Int) < (((T.sl ks).nth ((i:Int).toNat)).es.length:Int))
   rw[Int.toNat_natCast]
   by_cases hj:j < ((T.sl ks).nth i).es.length
   ·rw[decide_eq_true hj,decide_eq_true (by omega)]
   ·rw[decide_eq_false hj,decide_eq_false (by omega)]
  rw[this];exact Yields.some _
 ·have:lS ks i j=false:=by unfold lS;rw[decide_eq_false h];rfl
  rw[this]
  exact Yields.ff (lt_ff h) (Yields.some _)
def nQ (ks:List T) (s:ByteArray):Bool:=match dn s with
 | some (i,j)=>lS ks i j
 | none=>false
theorem wb {ks:List T} {s:ByteArray} (h:(dw s||nQ ks s)=true):0 < s.size∧bU s 0≠38∧bU s 0≠33:=by
 rw[Bool.or_eq_true] at h
 rcases h with h | h
 ·obtain ⟨h1,h2⟩:=sG h
  exact ⟨by omega,by omega,by omega⟩
 ·unfold nQ at h
  split at h
  ·rename_i i j hk
   obtain ⟨h1,h2,_⟩:=ma hk
   exact ⟨by omega,by omega,by omega⟩
  ·cases h
def tA (ks:List T) (s:ByteArray):T:=match dn s with
 | some (i,j)=>(((T.sl ks).nth i).nth j).fld 0
 | none=>.int 7
theorem getD0 {s:ByteArray} : ((s.data.getD 0 0).toNat:Int)=(bU s 0:Int):=rfl
theorem ref_s {s:ByteArray} (h0:0 < s.size) (h1:bU s 0≠38) (h2:bU s 0≠33):Yields (fun k=>cl env k bO [.str s]) [.bool false]:=by
 refine tp _ (Yields.tt ?_ (Yields.tt ?_ (Yields.ff ?_ ?_)))
 ·apply decide_eq_true;show (s.size:Int) > 0;omega
 ·rw[Bool.and_eq_true];exact ⟨rfl,decide_eq_true h0⟩
 ·show (((s.data.getD 0 0).toNat:Int)==38)=false
  rw[beq_eq_false_iff_ne,getD0];omega
 ·have:((((T.str s).s.data.getD 0 0).toNat:Int)==33)=false:=by
   show (((s.data.getD 0 0).toNat:Int)==33)=false
   rw[beq_eq_false_iff_ne,getD0];omega
  rw[this];exact Yields.some _
theorem rk {ks:List T} {i j:Nat} (h:lS ks i j=true):i < ks.length∧j < ((T.sl ks).nth i).es.length:=by
 unfold lS at h
 rw[Bool.and_eq_true,decide_eq_true_eq,decide_eq_true_eq] at h
 exact h
theorem rec_at {ks:List T} {i j:Nat} (h:j < ((T.sl ks).nth i).es.length):(decide (0≤(T.int (j:Int)).i)&&decide (((T.int (j:Int)).i).toNat < (((T.sl ks).nth ((T.int (i:Int)).i.toNat)).es).length))=true:=by
 rw[Bool.and_eq_true]
 refine ⟨decide_eq_true ?_,decide_eq_true ?_⟩
 ·show (0:Int)≤j;omega
 ·show (j:Int).toNat < (((T.sl ks).nth ((i:Int).toNat)).es).length
  rw[Int.toNat_natCast,Int.toNat_natCast];exact h
theorem able_s (ks:List T) (s:ByteArray) (h:(dw s||nQ ks s)=true):Yields (fun k=>cl env k eD [.sl ks,.str s]) [tA ks s]:=by
 obtain ⟨h0,h1,h2⟩:=wb h
 refine se _ _ (Yields.obind (ref_s h0 h1 h2) (Yields.ff rfl (Yields.obind (ref_s h0 h1 h2) (Yields.ff rfl (Yields.obind (zl s) ?_)))))
 unfold tA
 cases hk:dn s with
 | none=>exact Yields.ff rfl (Yields.some _)
 | some x=>
  obtain ⟨i,j⟩:=x
  have hh:lS ks i j=true:=by
   rw[Bool.or_eq_true] at h
   rcases h with h | h
   ·rw[sF h] at hk;cases hk
   ·unfold nQ at h;rw[hk] at h;exact h
  obtain ⟨g1,g2⟩:=rk hh
  refine Yields.tt rfl (Yields.tt (pw g1) (Yields.tt (rec_at g2) ?_))
  exact Yields.some _
def eV (ks:List T) (m k:Nat) (s:ByteArray):Bool:=match dn s with
 | none=>dw s
 | some (i,j)=>lS ks i j&&(decide (i < m)||(decide (i=m)&&decide (j < k)))
theorem vZ (a b:Nat):decide ((T.int (a:Int)).i < (T.int (b:Int)).i)=decide (a < b):=by
 show decide ((a:Int) < (b:Int))=decide (a < b)
 by_cases h:a < b
 ·rw[decide_eq_true h,decide_eq_true (by omega)]
 ·rw[decide_eq_false h,decide_eq_false (by omega)]
theorem eq_nat (a b:Nat):((T.int (a:Int)).i==(T.int (b:Int)).i)=decide (a=b):=by
 show ((a:Int)==(b:Int))=decide (a=b)
 by_cases h:a=b
 ·subst h;simp
 ·rw[decide_eq_false h,beq_eq_false_iff_ne];omega
theorem field_s (ks:List T) (m k:Nat) (s:ByteArray):Yields (fun r=>cl env r kh [.sl ks,.int (m:Int),.int (k:Int),.str s]) [.bool (eV ks m k s)]:=by
 refine xl _ _ _ _ (Yields.obind (zl s) ?_)
 unfold eV
 cases hk:dn s with
 | none=>exact Yields.tt rfl (Yields.obind (base_s s) (Yields.some _))
 | some x=>
  obtain ⟨i,j⟩:=x
  refine Yields.ff rfl (Yields.obind (has_s ks i j) ?_)
  simp only
  cases hh:lS ks i j with
  | false=>exact Yields.ff rfl (Yields.some _)
  | true=>
   refine Yields.tt rfl ?_
   refine Yields.ite (fun h=>?_) (fun h=>Yields.ite (fun h2=>?_) (fun h2=>?_))
   ·have h':decide (i < m)=true:=by rw[← vZ];exact h
    rw[h'];exact Yields.some _
   ·have h':decide (i < m)=false:=by rw[← vZ];exact h
    have h2':decide (i=m)=true:=by rw[← eq_nat];exact h2
    rw[h',h2',Bool.true_and,Bool.false_or,Bool.true_and,← vZ];exact Yields.some _
   ·have h':decide (i < m)=false:=by rw[← vZ];exact h
    have h2':decide (i=m)=false:=by rw[← eq_nat];exact h2
    rw[h',h2'];exact Yields.some _
theorem o7 {ks:List T} {m k:Nat} {s:ByteArray} (h:eV ks m k s=true):(dw s||nQ ks s)=true:=by
 unfold eV at h
 unfold nQ
 cases hk:dn s with
 | none=>rw[hk] at h;simp only at h;rw[h];rfl
 | some x=>
  obtain ⟨i,j⟩:=x
  rw[hk] at h;simp only[Bool.and_eq_true] at h
  simp only[h.1,Bool.or_true]
theorem can_s (a:Int) (p:Int) (ha:0≤a∧a≤15) (hp:p=1∨p=2∨p=4∨p=8):Yields (fun k=>cl env k bH [.int a,.int p]) [.bool ((a.tdiv p).tmod 2==1)]:=by
 have hw:IntKind.wrap .i64 (a.tdiv p)=a.tdiv p:=by
  have h1:0≤a.tdiv p:=Int.tdiv_nonneg ha.1 (by omega)
  have h2:a.tdiv p≤a:=by rw[Int.tdiv_eq_ediv_of_nonneg ha.1];exact Int.ediv_le_self _ ha.1
  exact bf (by omega) (by omega)
 refine zZ _ _ (Yields.tt ?_ (Yields.tt rfl ?_))
 ·rcases hp with rfl | rfl | rfl | rfl <;> rfl
 ·show Yields (fun _=>some [T.bool (((IntKind.wrap .i64 (a.tdiv p)).tmod 2)==1)]) _
  rw[hw];exact Yields.some _
def v8 (ks:List T) (m k:Nat):Prop:=∀i j,(i < m∨(i=m∧j < k))→i < ks.length→j < ((T.sl ks).nth i).es.length→∃a:Int,(((T.sl ks).nth i).nth j).fld 0 = .int a∧0≤a∧a≤15
theorem Be {ks:List T} {m k:Nat} {s:ByteArray} (he:v8 ks m k) (h:eV ks m k s=true) : ∃f:Int,tA ks s = .int f∧0≤f∧f≤15:=by
 unfold eV at h
 unfold tA
 cases hk:dn s with
 | none=>exact ⟨7,rfl,by omega,by omega⟩
 | some x=>
  obtain ⟨i,j⟩:=x
  rw[hk] at h
  simp only[Bool.and_eq_true,Bool.or_eq_true,decide_eq_true_eq] at h
  obtain ⟨g1,g2⟩:=rk h.1
  exact he i j h.2 g1 g2
theorem in_s (x lo hi:Int):Yields (fun k=>cl env k dZ [.int x,.int lo,.int hi]) [.bool (decide (x≥lo)&&decide (x≤hi))]:=by
 refine Ak _ _ _ (Yields.ite (fun h=>?_) (fun h=>?_))
 ·rw[show decide (x≥lo)=true from h,Bool.true_and];exact Yields.some _
 ·rw[show decide (x≥lo)=false from h,Bool.false_and];exact Yields.some _
section
variable {ks:List T} {b:Nat}
end
inductive FitV:T→Prop
 | num {s:ByteArray} {n:Int} : (s.toList==(⟨#[110]⟩:ByteArray).toList)=true→0≤n→n≤1000000→FitV (.st [.str s,.int n,.sl [],.sl []])
 | bit {s:ByteArray} {n:Int} : (s.toList==(⟨#[110]⟩:ByteArray).toList)=false→(s.toList==(⟨#[98]⟩:ByteArray).toList)=true→0≤n→n≤1→FitV (.st [.str s,.int n,.sl [],.sl []])
 | own {s:ByteArray} {n:Int} : (s.toList==(⟨#[110]⟩:ByteArray).toList)=false→(s.toList==(⟨#[98]⟩:ByteArray).toList)=false→(s.toList==(⟨#[111]⟩:ByteArray).toList)=true→0≤n→n≤3→FitV (.st [.str s,.int n,.sl [],.sl []])
 | made {s:ByteArray} {n:Int} {ps:List T} : (s.toList==(⟨#[110]⟩:ByteArray).toList)=false→(s.toList==(⟨#[98]⟩:ByteArray).toList)=false→(s.toList==(⟨#[111]⟩:ByteArray).toList)=false→s.size=3→(∀x∈ps,FitV x)→
   FitV (.st [.str s,.int n,.sl ps,.sl []])
section
variable {ks:List T} {b:Nat}
end
section
variable {ks:List T} {b:Nat}
end
inductive Run (g:T→Int→Int→Prop):Int→List T→Int→Prop
 | nil {k} : Run g k [] k
 | cons {k n m t l} : g t k n→Run g n l m→Run g k (t :: l) m
theorem st2 {b:Nat} {x:T} (h:IsKept b x):T.st [x.fld 0,x.fld 1]=x:=by obtain ⟨o,v,rfl,_⟩:=h;rfl
def IsIns (t:T):Prop:=∃(s:ByteArray) (a b:Int),t = .st [.str s,.int a,.int b]∧s.size≤maxLen
def cz (is:List T):Prop:=∀x∈is,∃m:Int,x = .int m
inductive j5 (b:Nat):T→Prop
 | mk {n:Int} {ags rs ls tk cd:List T} : ags.length≤b→rs.length≤b→ls.length≤b→tk.length≤b→cd.length≤b→(∀x∈ags,tv x)→(∀x∈rs,tv x)→(∀x∈ls,tv x)→cz tk→
   (∀x∈cd,IsIns x)→j5 b (.st [.int n,.sl ags,.sl rs,.sl ls,.sl tk,.sl cd])
inductive kW (b:Nat):T→Prop
 | mk {rs fs fr:List T} : yD b (.sl rs)→fs.length≤b→(∀x∈fs,j5 b x)→fr.length≤b→cz fr→kW b (.st [.sl rs,.sl fs,.sl fr])
noncomputable def pY:T:=((nk (fun _ _=>none) (fun _ _=>none)).getD []).headD (.int 0)
theorem forms_s:Yields (fun k=>cl env k nb []) [pY]:=xm (Yields.some _)
theorem tab_sl:pY = .sl pY.es:=by kernel_rfl
def kb (s:ByteArray):Bool:=decide (s.size > 0)&&(bU s 0==38||bU s 0==33)
def ofB (s:ByteArray):ByteArray:=bif kb s then s.extract 1 s.size else s
theorem nB (s:ByteArray):(s.toList==(⟨#[]⟩:ByteArray).toList) = !decide (s.size > 0):=by
 by_cases h:s.size > 0
 ·rw[decide_eq_true h]
  rw[beq_eq_false_iff_ne.2];· rfl
  rw[ne_eq,ByteArray.toList_eq,ByteArray.toList_eq]
  intro he
  have:s=⟨#[]⟩:=WideShapes.bytes_inj he
  subst this
  exact absurd h (by decide)
 ·have:s=⟨#[]⟩:=by
   obtain ⟨⟨l⟩⟩:=s
   cases l with
   | nil=>rfl
   | cons a l=>exact absurd (by show 0 < (a :: l).length;simp) h
  subst this;simp[ByteArray.size]
theorem wI (s:ByteArray) (c:Nat):(((s.data.getD 0 0).toNat:Int)==(c:Int))=(bU s 0==c):=by
 rw[getD0]
 by_cases h:bU s 0=c
 ·rw[h];simp
 ·rw[beq_eq_false_iff_ne.2 h,beq_eq_false_iff_ne];omega
theorem lk (s:ByteArray):Yields (fun k=>cl env k bO [.str s]) [.bool (kb s)]:=by
 refine tp _ ?_
 unfold kb
 by_cases h:s.size > 0
 ·refine Yields.tt (decide_eq_true (by show (s.size:Int) > 0;omega)) (Yields.tt (by rw[Bool.and_eq_true];exact ⟨rfl,decide_eq_true h⟩) ?_)
  rw[decide_eq_true h,Bool.true_and]
  refine Yields.ite (fun e=>?_) (fun e=>?_)
  ·have:(bU s 0==38)=true:=by rw[← wI];exact e
   rw[this,Bool.true_or];exact Yields.some _
  ·have:(bU s 0==38)=false:=by rw[← wI];exact e
   rw[this,Bool.false_or,← wI];exact Yields.some _
 ·rw[decide_eq_false h,Bool.false_and]
  exact Yields.ff (decide_eq_false (by show ¬(s.size:Int) > 0;omega)) (Yields.some _)
theorem cut_tt {n:Nat} (h:n > 0):(decide (0≤(1:Int))&&(decide ((1:Int)≤(n:Int))&&(decide ((n:Int)≤(n:Int))&&decide ((n:Int)≤(n:Int)))))=true:=by
 simp only[Bool.and_eq_true,decide_eq_true_eq];exact ⟨by omega,by omega,by omega,by omega⟩
theorem rW {s:ByteArray} (h:kb s=true):s.size > 0:=by unfold kb at h;rw[Bool.and_eq_true,decide_eq_true_eq] at h;exact h.1
theorem of_s (s:ByteArray):Yields (fun k=>cl env k cx [.str s]) [.str (ofB s)]:=by
 refine Ai _ (Yields.obind (lk s) ?_)
 unfold ofB
 cases h:kb s with
 | true=>exact Yields.tt rfl (Yields.tt (cut_tt (rW h)) (Yields.some _))
 | false=>exact Yields.ff rfl (Yields.some _)
def aY (ms:List T):List T:=ms.map (·.fld 0)
theorem ub {ms:List T} {i:Nat} (h:i < (aY ms).length) (h':i < ms.length):(aY ms)[i]=ms[i].fld 0:=by simp[aY]
theorem st2' {x:T} (h:IsRec BB x):T.st [x.fld 0,x.fld 1]=x:=by obtain ⟨a,fs,rfl,_⟩:=h;rfl
theorem rec_fs {x:T} (h:IsRec BB x) : ∃fs,x.fld 1 = .sl fs∧fs.length≤BB:=by obtain ⟨a,fs,rfl,_,_,h3,_⟩:=h;exact ⟨fs,rfl,h3⟩
theorem mod_recs {x:T} (h:kW BB x) : ∃rs,x.fld 0 = .sl rs∧yD BB (.sl rs):=by cases h with | mk h1=>exact ⟨_,rfl,h1⟩
theorem xc (xs:List T) (h:xs.length≤BB):Yields (fun k=>cl env k fJ [.sl xs]) [.sl xs]:=by
 have hc : ∀l:List T,Yields (fun k=>cl env k iu [.sl l]) [.sl l]:=fun l=>by
  refine sa _ (Yields.tt ?_ ?_)
  ·simp only[Bool.and_eq_true,decide_eq_true_eq]
   exact ⟨by omega,by show (0:Int)≤(l.length:Int);omega,by omega,by omega⟩
  ·show Yields (fun _=>some [T.sl ((l.take l.length).drop 0)]) _
   rw[List.take_length,List.drop_zero];exact Yields.some _
 refine uN _ (Yields.tt (decide_eq_true ?_) (Yields.obind (hc _) ?_))
 ·show ([]:List T).length+xs.length≤LIM
  unfold BB at h;unfold LIM;simp;omega
 ·show Yields (fun _=>some [T.sl ((([]++xs).take ([]++xs).length).drop 0)]) _
  rw[List.take_length,List.drop_zero,List.nil_append];exact Yields.some _
theorem tF (ms:List T) (hlen:ms.length≤BB) (hm : ∀x∈ms,kW BB x):Yields (fun k=>cl env k d9 [.sl ms]) [.sl (aY ms)]:=by
 have key : ∀(m i:Nat),i+m=ms.length→Yields (fun k=>dC (hl env k be) (.sl ms) (.int (i:Int)) (.sl ((aY ms).take i))) [.sl (aY ms)]:=by
  intro m
  induction m with
  | zero=>
   intro i hi
   refine n8 _ _ _ (Yields.ff (lt_ff (by omega)) ?_)
   rw[List.take_of_length_le (by unfold aY;simp;omega)];exact Yields.some _
  | succ m ih=>
   intro i hi
   have hlt:i < ms.length:=by omega
   obtain ⟨rs,hr1,hr2⟩:=mod_recs (hm _ (List.getElem_mem hlt))
   obtain ⟨_,he,hrl,hrr⟩:=hr2
   cases he
   have hn1:(((T.sl ms).nth (T.int (i:Int)).i.toNat).fld 0) = .sl rs:=by rw[vQ hlt];exact hr1
   have hk:i < (aY ms).length:=by unfold aY;simpa using hlt
   have e:(aY ms)[i] = .sl rs:=(ub hk hlt).trans hr1
   refine n8 _ _ _ (Yields.tt (lt_tt hlt) ?_)
   have inner : ∀(m' j:Nat),j+m'=rs.length→Yields (fun k=>dD (hl env k be) (.sl ms) (.int (i:Int)) (.int (j:Int)) (.sl ((aY ms).take i)) (.sl (rs.take j))) [.sl (aY ms)]:=by
    intro m'
    induction m' with
    | zero=>
     intro j hj
     refine n9 _ _ _ _ _ (Yields.tt (pw hlt) ?_)
     rw[hn1]
     refine Yields.ff (lt_ff (by omega)) (Yields.tt (decide_eq_true ?_) ?_)
     ·show ((aY ms).take i).length+1≤LIM
      rw[List.length_take];unfold BB at hlen;unfold LIM;omega
     ·rw[AM hlt (bb_max hlen),List.take_of_length_le (by omega:rs.length≤j),← e]
      show Yields (fun k=>dC (hl env k be) (.sl ms) (.int ((i+1:Nat):Int)) (.sl ((aY ms).take i ++ [(aY ms)[i]]))) _
      rw[List.take_append_getElem hk];exact ih (i+1) (by omega)
    | succ m' ih'=>
     intro j hj
     have hjt:j < rs.length:=by omega
     have hkr:=hrr _ (List.getElem_mem hjt)
     obtain ⟨fs,hf,hfl⟩:=rec_fs hkr
     refine n9 _ _ _ _ _ (Yields.tt (pw hlt) ?_)
     rw[hn1]
     have hn2:((T.sl rs).nth (T.int (j:Int)).i.toNat)=rs[j]:=vQ hjt
     rw[hn2,hf]
     have e2:T.st [rs[j].fld 0,T.sl (([]:List T)++(T.sl fs).es)]=rs[j]:=by show T.st [rs[j].fld 0,.sl fs]=_;rw[← hf];exact st2' hkr
     refine Yields.tt (lt_tt hjt) (Yields.tt (pw hjt) (Yields.tt (decide_eq_true ?_) (Yields.tt (decide_eq_true ?_) ?_)))
     ·show ([]:List T).length+fs.length≤LIM
      unfold BB at hfl;unfold LIM;simp;omega
     ·show (rs.take j).length+1≤LIM
      rw[List.length_take];unfold BB at hrl;unfold LIM;omega
     ·rw[e2,AM hjt (bb_max hrl)]
      show Yields (fun k=>dD (hl env k be) (.sl ms) (.int (i:Int)) (.int ((j+1:Nat):Int)) (.sl ((aY ms).take i)) (.sl (rs.take j ++ [rs[j]]))) _
      rw[List.take_append_getElem hjt];exact ih' (j+1) (by omega)
   exact inner rs.length 0 (by omega)
 exact tV _ (key ms.length 0 (by omega))
theorem C9 {x:T} (h:kW BB x) : ∃rs fs fr,x = .st [.sl rs,.sl fs,.sl fr]∧yD BB (.sl rs)∧fs.length≤BB∧(∀x∈fs,j5 BB x)∧fr.length≤BB∧cz fr:=by
 cases h with | mk h1 h2 h3 h4 h5=>exact ⟨_,_,_,rfl,h1,h2,h3,h4,h5⟩
theorem qW (ms:List T):(aY ms).length=ms.length:=by simp[aY]
theorem clip_ins (l:List T):Yields (fun k=>cl env k gH [.sl l]) [.sl l]:=by
 refine qY _ (Yields.tt ?_ ?_)
 ·simp only[Bool.and_eq_true,decide_eq_true_eq]
  exact ⟨by omega,by show (0:Int)≤(l.length:Int);omega,by omega,by omega⟩
 ·show Yields (fun _=>some [T.sl ((l.take l.length).drop 0)]) _
  rw[List.take_length,List.drop_zero];exact Yields.some _
theorem BA (l:List T):Yields (fun k=>cl env k kx [.sl l]) [.sl l]:=by
 refine tT _ (Yields.tt ?_ ?_)
 ·simp only[Bool.and_eq_true,decide_eq_true_eq]
  exact ⟨by omega,by show (0:Int)≤(l.length:Int);omega,by omega,by omega⟩
 ·show Yields (fun _=>some [T.sl ((l.take l.length).drop 0)]) _
  rw[List.take_length,List.drop_zero];exact Yields.some _
theorem nums_i (is:List T) (h:is.length≤BB):Yields (fun k=>cl env k me [.sl is]) [.sl is]:=by
 refine ws _ (Yields.tt (decide_eq_true ?_) (Yields.obind (BA _) ?_))
 ·show ([]:List T).length+is.length≤LIM
  unfold BB at h;unfold LIM;simp;omega
 ·show Yields (fun _=>some [T.sl ((([]++is).take ([]++is).length).drop 0)]) _
  rw[List.take_length,List.drop_zero,List.nil_append];exact Yields.some _
theorem func_i (f:T) (h:j5 BB f):Yields (fun k=>cl env k jq [f]) [f]:=by
 cases h with
 | @mk n ags rs ls tk cd h1 h2 h3 h4 h5 g1 g2 g3 g4 g5=>
  refine wq _ (Yields.tt (decide_eq_true ?_) (Yields.obind (clip_ins _) (Yields.obind (xc ags h1) (Yields.obind (xc rs h2) (Yields.obind (xc ls h3) (Yields.obind (nums_i tk h4) ?_))))))
  ·show ([]:List T).length+cd.length≤LIM
   unfold BB at h5;unfold LIM;simp;omega
  ·show Yields (fun _=>some [T.st [.int n,.sl ags,.sl rs,.sl ls,.sl tk,T.sl ((([]++cd).take ([]++cd).length).drop 0)]]) _
   rw[List.take_length,List.drop_zero,List.nil_append];exact Yields.some _
theorem vN {f:T} (h:j5 BB f):T.st [f.fld 0,f.fld 1,f.fld 2,f.fld 3,f.fld 4,f.fld 5]=f:=by cases h;rfl
def zeroF:T:=.st [.int 0,.sl [],.sl [],.sl [],.sl [],.sl []]
theorem has_same (ms:List T) (hlen:ms.length≤BB) (hm : ∀x∈ms,kW BB x) (m f:Int) :
  (Yields (fun k=>cl env k eb [.sl ms,.int m,.int f]) [.bool false]∧Yields (fun k=>cl env k it [.sl ms,.int m,.int f]) [zeroF,.bool false])∨
  ∃(i j:Nat) (g:T),m=i∧f=j∧i < ms.length∧j < (((T.sl ms).nth i).fld 1).es.length∧(((T.sl ms).nth i).fld 1).nth j=g∧j5 BB g∧
   Yields (fun k=>cl env k eb [.sl ms,.int m,.int f]) [.bool true]∧Yields (fun k=>cl env k it [.sl ms,.int m,.int f]) [g,.bool true]:=by
 have w1:IntKind.wrap .i64 (((T.sl ms).es.length:Int) - (1:Int))=(ms.length:Int) - 1:=by show IntKind.wrap .i64 ((ms.length:Int) - 1)=_;unfold BB at hlen;rw[bf (by omega) (by omega)]
 have hin:=in_s m 0 ((ms.length:Int) - 1)
 have no1 : ¬(m≥0∧m≤(ms.length:Int) - 1)→Yields (fun k=>cl env k eb [.sl ms,.int m,.int f]) [.bool false]:=by
  intro h
  have:(decide (m≥0)&&decide (m≤(ms.length:Int) - 1))=false:=by
   rw[Bool.eq_false_iff,ne_eq,Bool.and_eq_true,decide_eq_true_eq,decide_eq_true_eq];exact h
  rw[this] at hin
  refine qi _ _ _ ?_
  unfold hY
  rw[w1]
  exact Yields.obind hin (Yields.ff rfl (Yields.some _))
 by_cases h1:m < 0
 ·exact .inl ⟨no1 (by omega),fX _ _ _ (Yields.tt (decide_eq_true h1) (Yields.some _))⟩
 by_cases h2:m≥(ms.length:Int)
 ·exact .inl ⟨no1 (by omega),fX _ _ _ (Yields.ff (decide_eq_false h1) (Yields.tt (decide_eq_true h2) (Yields.some _)))⟩
 obtain ⟨i,rfl⟩ : ∃i:Nat,m=i:=⟨m.toNat,by omega⟩
 have hlt:i < ms.length:=by omega
 obtain ⟨rs,fs,fr,hx,_,hfl,hff,_⟩:=C9 (hm _ (List.getElem_mem hlt))
 have hn:((T.sl ms).nth (T.int (i:Int)).i.toNat) = .st [.sl rs,.sl fs,.sl fr]:=by rw[vQ hlt,hx]
 have hn':((T.sl ms).nth i) = .st [.sl rs,.sl fs,.sl fr]:=by rw[bh hlt,hx]
 have w2:IntKind.wrap .i64 ((fs.length:Int) - (1:Int))=(fs.length:Int) - 1:=by unfold BB at hfl;rw[bf (by omega) (by omega)]
 rw[decide_eq_true (by omega:(i:Int)≥0),decide_eq_true (by omega:(i:Int)≤(ms.length:Int) - 1)] at hin
 have hif:=in_s f 0 ((fs.length:Int) - 1)
 have has:Yields (fun k=>cl env k eb [.sl ms,.int i,.int f]) [.bool (decide (f≥0)&&decide (f≤(fs.length:Int) - 1))]:=by
  refine qi _ _ _ ?_
  unfold hY
  rw[w1,hn]
  have e:(((T.st [.sl rs,.sl fs,.sl fr]).fld 1).es).length=fs.length:=rfl
  rw[e,w2]
  exact Yields.obind hin (Yields.tt rfl (Yields.tt (pw hlt) (Yields.obind hif (Yields.some _))))
 by_cases h3:f < 0
 ·rw[decide_eq_false (by omega : ¬f≥0),Bool.false_and] at has
  exact .inl ⟨has,fX _ _ _ (Yields.ff (decide_eq_false h1) (Yields.ff (decide_eq_false h2) (Yields.tt (decide_eq_true h3) (Yields.some _))))⟩
 by_cases h4:f≥(fs.length:Int)
 ·rw[decide_eq_false (by omega : ¬f≤(fs.length:Int) - 1),Bool.and_false] at has
  refine .inl ⟨has,fX _ _ _ (Yields.ff (decide_eq_false h1) (Yields.ff (decide_eq_false h2) (Yields.ff (decide_eq_false h3) (Yields.tt (pw hlt) ?_))))⟩
  rw[hn]
  exact Yields.tt (decide_eq_true h4) (Yields.some _)
 obtain ⟨j,rfl⟩ : ∃j:Nat,f=j:=⟨f.toNat,by omega⟩
 have hj:j < fs.length:=by omega
 rw[decide_eq_true (by omega:(j:Int)≥0),decide_eq_true (by omega:(j:Int)≤(fs.length:Int) - 1)] at has
 have hg:=hff _ (List.getElem_mem hj)
 refine .inr ⟨i,j,fs[j],rfl,rfl,hlt,by rw[hn'];exact hj,by rw[hn'];exact bh hj,hg,has,fX _ _ _ (Yields.ff (decide_eq_false h1) (Yields.ff (decide_eq_false h2) (Yields.ff (decide_eq_false h3) (Yields.tt (pw hlt) ?_))))⟩
 rw[hn]
 have e:((T.st [.sl rs,.sl fs,.sl fr]).fld 1).nth (T.int (j:Int)).i.toNat=fs[j]:=vQ hj
 rw[e]
 refine Yields.ff (decide_eq_false h4) (Yields.tt (pw hj) (Yields.obind (func_i _ hg) ?_))
 show Yields (fun _=>some [T.st [fs[j].fld 0,fs[j].fld 1,fs[j].fld 2,fs[j].fld 3,fs[j].fld 4,fs[j].fld 5],T.bool true]) _
 rw[vN hg];exact Yields.some _
theorem YP.guard {b:Bool} {x:Nat→R} {Q:List T→Prop} (hb:b=true) (h:YP x Q):YP (fun k=>bif b then x k else Option.none) Q:=YP.tt hb h
theorem YP.of {x:Nat→R} {Q:List T→Prop} {r:List T} (h:Yields x r) (q:Q r):YP x Q:=⟨r,h,q⟩
theorem YP.call {x y:Nat→R} {Q:List T→Prop} (h:YP x Q) (hy : ∀r,Yields x r→Yields y r):YP y Q:=by
 obtain ⟨r,h,q⟩:=h;exact ⟨r,hy r h,q⟩
theorem af (a:T) (l:List T):(T.st (a :: l)).fld 0=a:=rfl
theorem ag (a b:T) (l:List T):(T.st (a :: b :: l)).fld 1=b:=rfl
theorem aq (a b c:T) (l:List T):(T.st (a :: b :: c :: l)).fld 2=c:=rfl
theorem ar (a b c d:T) (l:List T):(T.st (a :: b :: c :: d :: l)).fld 3=d:=rfl
theorem au (a b c d e:T) (l:List T):(T.st (a :: b :: c :: d :: e :: l)).fld 4=e:=rfl
theorem aj (a b c d e f:T) (l:List T):(T.st (a :: b :: c :: d :: e :: f :: l)).fld 5=f:=rfl
theorem aw (a x:T) (l:List T):(a :: l).set 0 x=x :: l:=rfl
theorem az (a b x:T) (l:List T):(a :: b :: l).set 1 x=a :: x :: l:=rfl
theorem aA (a b c x:T) (l:List T):(a :: b :: c :: l).set 2 x=a :: b :: x :: l:=rfl
theorem aB (a b c d x:T) (l:List T):(a :: b :: c :: d :: l).set 3 x=a :: b :: c :: x :: l:=rfl
theorem aC (a b c d e x:T) (l:List T):(a :: b :: c :: d :: e :: l).set 4 x=a :: b :: c :: d :: x :: l:=rfl
theorem aD (a b c d e f x:T) (l:List T):(a :: b :: c :: d :: e :: f :: l).set 5 x=a :: b :: c :: d :: e :: x :: l:=rfl
theorem ak (l:List T):l.drop 0=l:=rfl
theorem ah (a:T) (l:List T):(a :: l).drop 1=l:=rfl
theorem am (a b:T) (l:List T):(a :: b :: l).drop 2=l:=rfl
theorem ap (a b c:T) (l:List T):(a :: b :: c :: l).drop 3=l:=rfl
theorem ti (n:Int):(T.int n).i=n:=rfl
theorem tb (n:Bool):(T.bool n).b=n:=rfl
theorem tS (n:ByteArray):(T.str n).s=n:=rfl
theorem te (n:List T):(T.sl n).es=n:=rfl
theorem tf (n:List T):(T.st n).fs=n:=rfl
theorem aL {a b:Bool} (h:a=true) (h2:b=true):(a&&b)=true:=by rw[h,h2];rfl
theorem bD:LIM=4294967296:=rfl
theorem BBv:BB=1048576:=rfl
def Rd (q:Nat) (r:T):Prop:=∃(bs:List T) (p:Int),r = .st [.sl bs,.int p]∧bs.length≤2000∧(∀x∈bs,∃v:Int,x = .int v∧0≤v∧v≤255)∧0≤p∧p+q≤1000000000
theorem Rd.less {q q':Nat} {r:T} (h:Rd q r) (hq:q'≤q):Rd q' r:=by
 obtain ⟨bs,p,h1,h2,h3,h4,h5⟩:=h
 exact ⟨bs,p,h1,h2,h3,h4,by omega⟩
theorem uC {bs:List T} (h : ∀x∈bs,∃v:Int,x = .int v∧0≤v∧v≤255) {i:Nat} (hi:i < bs.length) : ∃v:Int,(T.sl bs).nth i = .int v∧0≤v∧v≤255:=by
 rw[bh hi];exact h _ (List.getElem_mem hi)
theorem xd {x n:Int} (hx:0≤x) (hn:1≤n):0≤x.tmod n∧x.tmod n < n:=⟨Int.tmod_nonneg _ hx,Int.tmod_lt_of_pos _ (by omega)⟩
theorem wrap_xor {a b:Int} (ha:0≤a) (hb:0≤b) (ha':a≤4611686018427387903) (hb':b≤4611686018427387903):0≤IntKind.wrap .i64 ((BitVec.ofInt (IntKind.i64).bits a ^^^ BitVec.ofInt (IntKind.i64).bits b).toNat:Nat):=by
 obtain ⟨m,rfl⟩ : ∃m:Nat,a=(m:Int):=⟨a.toNat,by omega⟩
 obtain ⟨n,rfl⟩ : ∃m:Nat,b=(m:Int):=⟨b.toNat,by omega⟩
 have e:(BitVec.ofInt (IntKind.i64).bits (m:Int) ^^^ BitVec.ofInt (IntKind.i64).bits (n:Int)).toNat=m ^^^ n:=by
  rw[BitVec.toNat_xor,BitVec.toNat_ofInt,BitVec.toNat_ofInt]
  have h1:((m:Int) % (2 ^ (IntKind.i64).bits:Nat)).toNat=m:=by
   show ((m:Int) % 18446744073709551616).toNat=m
   omega
  have h2:((n:Int) % (2 ^ (IntKind.i64).bits:Nat)).toNat=n:=by
   show ((n:Int) % 18446744073709551616).toNat=n
   omega
  rw[h1,h2]
 rw[e]
 have h:=Nat.xor_lt_two_pow (x:=m) (y:=n) (n:=62) (by omega) (by omega)
 rw[bf (by omega) (by omega)]
 omega
def PickR (q:Nat) (n:Int) (o:List T):Prop:=∃(v:Int) (r':T),o = [.int v,r']∧Rd q r'∧0≤v∧(1≤n→v < n)∧(n < 1→v=0)
theorem bA {q:Nat} {r:T} {n:Int} (h:Rd (q+1) r):YP (fun k=>cl env k aG [r,.int n]) (PickR q n):=by
 obtain ⟨bs,p,rfl,hb,hv,hp,hq⟩:=h
 have hr:Rd q (.st [.sl bs,.int (p+1)]):=⟨bs,p+1,rfl,hb,hv,by omega,by omega⟩
 refine YP.call ?_ (fun r h=>uR _ _ h)
 unfold lD
 simp only[rt0,rt1,rt2,af,ag,aq,ar,au,aj,aw,az,aA,aB,aC,aD,ak,ah,am,ap,ti,tb,tS,te,tf,Int.toNat_natCast]
 have w1:IntKind.wrap .i64 (p+1)=p+1:=bf (by omega) (by omega)
 have w2:IntKind.wrap .i64 (p+1 - 1)=p:=by rw[bf (by omega) (by omega)];omega
 simp only[w1]
 simp only[w2]
 refine YP.ite (fun hc=>?_) (fun hc=>?_)
 ·have hc:=of_decide_eq_true hc
  exact YP.some ⟨0,_,rfl,hr,by omega,fun h=>by omega,fun _=>rfl⟩
 have hc:=of_decide_eq_false hc
 refine YP.ite (fun hc2=>?_) (fun hc2=>?_)
 ·exact YP.some ⟨0,_,rfl,hr,by omega,fun h=>by omega,fun _=>rfl⟩
 have hl:0 < bs.length:=by
  rcases bs with _ | ⟨b,bs⟩
  ·exact absurd hc2 (by decide)
  ·simp
 have hn0:(!(n==0))=true:=by
  rw[beq_eq_false_iff_ne.2 (by omega)];rfl
 have hl0:(!((bs.length:Int)==0))=true:=by
  rw[beq_eq_false_iff_ne.2 (by omega)];rfl
 have fin : ∀x:Int,0≤x→PickR q n [.int (x.tmod n),.st [.sl bs,.int (p+1)]]:=fun x hx=>by
  have:=xd (x:=x) (n:=n) hx (by omega)
  exact ⟨_,_,rfl,hr,this.1,fun _=>this.2,fun h=>by omega⟩
 refine YP.ite (fun hc3=>?_) (fun hc3=>?_)
 ·have hc3:=of_decide_eq_true hc3
  obtain ⟨v,e,v0,v1⟩:=uC hv (i:=p.toNat) (by omega)
  refine YP.guard (by ((repeat' (first | refine aL ?_ ?_ | refine decide_eq_true ?_)) <;> omega)) (YP.guard hn0 ?_)
  rw[e]
  simp only[rt0,rt1,rt2,af,ag,aq,ar,au,aj,aw,az,aA,aB,aC,aD,ak,ah,am,ap,ti,tb,tS,te,tf,Int.toNat_natCast]
  rw[bf (n:=v) (by omega) (by omega)]
  exact YP.some (fin _ v0)
 ·have hc3:=of_decide_eq_false hc3
  have m1:=xd (x:=p) (n:=(bs.length:Int)) hp (by omega)
  have w3:IntKind.wrap .i64 (p * 7)=p * 7:=bf (by omega) (by omega)
  have w4:IntKind.wrap .i64 (p * 7+3)=p * 7+3:=bf (by omega) (by omega)
  have m2:=xd (x:=p * 7+3) (n:=(bs.length:Int)) (by omega) (by omega)
  simp only[w3,w4]
  obtain ⟨u,e1,u0,u1⟩:=uC hv (i:=(p.tmod (bs.length:Int)).toNat) (by omega)
  obtain ⟨v,e2,v0,v1⟩:=uC hv (i:=((p * 7+3).tmod (bs.length:Int)).toNat) (by omega)
  have d0:0≤p.tdiv (bs.length:Int):=Int.tdiv_nonneg hp (by omega)
  have d1:p.tdiv (bs.length:Int)≤p:=Int.tdiv_le_self _ hp
  refine YP.guard hl0 (YP.guard (by ((repeat' (first | refine aL ?_ ?_ | refine decide_eq_true ?_)) <;> omega)) (YP.guard hl0 (YP.guard (by ((repeat' (first | refine aL ?_ ?_ | refine decide_eq_true ?_)) <;> omega)) (YP.guard hl0 (YP.guard (by decide) (YP.guard hn0 ?_))))))
  rw[e1,e2]
  simp only[rt0,rt1,rt2,af,ag,aq,ar,au,aj,aw,az,aA,aB,aC,aD,ak,ah,am,ap,ti,tb,tS,te,tf,Int.toNat_natCast]
  have a1:IntKind.wrap .i64 u=u:=bf (by omega) (by omega)
  have a2:IntKind.wrap .i64 v=v:=bf (by omega) (by omega)
  have a3:IntKind.wrap .i64 (u * 131)=u * 131:=bf (by omega) (by omega)
  have a4:IntKind.wrap .i64 (v * 1117)=v * 1117:=bf (by omega) (by omega)
  have a5:IntKind.wrap .i64 (p * 29)=p * 29:=bf (by omega) (by omega)
  have a6:IntKind.wrap .i64 (p.tdiv (bs.length:Int))=p.tdiv (bs.length:Int):=bf (by omega) (by omega)
  have a7:IntKind.wrap .i64 (p.tdiv (bs.length:Int) * 53)=p.tdiv (bs.length:Int) * 53:=bf (by omega) (by omega)
  have a8:IntKind.wrap .i64 (u * 131+v * 1117)=u * 131+v * 1117:=bf (by omega) (by omega)
  have a9:IntKind.wrap .i64 (u * 131+v * 1117+p * 29)=u * 131+v * 1117+p * 29:=bf (by omega) (by omega)
  have a10:IntKind.wrap .i64 (u * 131+v * 1117+p * 29+p.tdiv (bs.length:Int) * 53)=u * 131+v * 1117+p * 29+p.tdiv (bs.length:Int) * 53:=bf (by omega) (by omega)
  simp only[a1,a2,a3,a4,a5,a6,a7,a8,a9,a10]
  generalize hx:u * 131+v * 1117+p * 29+p.tdiv (bs.length:Int) * 53=x
  have hx0:0≤x:=by omega
  have hx1:x≤4611686018427387903:=by omega
  have q0:0≤x.tdiv 64:=Int.tdiv_nonneg hx0 (by omega)
  have q1:x.tdiv 64≤x:=Int.tdiv_le_self _ hx0
  have a11:IntKind.wrap .i64 (x.tdiv 64)=x.tdiv 64:=bf (by omega) (by omega)
  rw[a11]
  exact YP.some (fin _ (wrap_xor hx0 q0 hx1 (by omega)))
theorem vk {q:Nat} {r:T} {xs:List T} {P:T→Prop} (h:Rd (q+1) r) (hx : ∀x∈xs,P x) (hl:0 < xs.length):YP (fun k=>cl env k dH [r,.sl xs]) (fun o=>∃x r',o = [x,r']∧Rd q r'∧P x):=by
 refine YP.call ?_ (fun r h=>yz _ _ h)
 unfold oS
 simp only[rt0,rt1,rt2,af,ag,aq,ar,au,aj,aw,az,aA,aB,aC,aD,ak,ah,am,ap,ti,tb,tS,te,tf,Int.toNat_natCast]
 refine YP.obind (bA h) ?_
 rintro _ ⟨v,r',rfl,hr,h0,h1,_⟩
 simp only[rt0,rt1,rt2,af,ag,aq,ar,au,aj,aw,az,aA,aB,aC,aD,ak,ah,am,ap,ti,tb,tS,te,tf,Int.toNat_natCast]
 have h1:=h1 (by omega)
 refine YP.guard (by ((repeat' (first | refine aL ?_ ?_ | refine decide_eq_true ?_)) <;> omega)) (YP.some ⟨_,r',rfl,hr,?_⟩)
 rw[bh (by omega)]
 exact hx _ (List.getElem_mem _)
theorem ct_of {q:Nat} {r:T} {xs:List T} {P:T→Prop} (h:Rd (q+1) r) (hx : ∀x∈xs,P x) (hl:0 < xs.length):YP (fun k=>cl env k cB [r,.sl xs]) (fun o=>∃x r',o = [x,r']∧Rd q r'∧P x):=by
 refine YP.call ?_ (fun r h=>xr _ _ h)
 unfold nr
 simp only[rt0,rt1,rt2,af,ag,aq,ar,au,aj,aw,az,aA,aB,aC,aD,ak,ah,am,ap,ti,tb,tS,te,tf,Int.toNat_natCast]
 refine YP.obind (bA h) ?_
 rintro _ ⟨v,r',rfl,hr,h0,h1,_⟩
 simp only[rt0,rt1,rt2,af,ag,aq,ar,au,aj,aw,az,aA,aB,aC,aD,ak,ah,am,ap,ti,tb,tS,te,tf,Int.toNat_natCast]
 have h1:=h1 (by omega)
 refine YP.guard (by ((repeat' (first | refine aL ?_ ?_ | refine decide_eq_true ?_)) <;> omega)) (YP.some ⟨_,r',rfl,hr,?_⟩)
 rw[bh (by omega)]
 exact hx _ (List.getElem_mem _)
theorem ct_open {bs:List T} (hv : ∀x∈bs,∃v:Int,x = .int v∧0≤v∧v≤255):YP (fun k=>cl env k oF [.sl bs]) (fun o=>∃r',o = [r']∧Rd 1000000000 r'):=by
 refine YP.call ?_ (fun r h=>yu _ h)
 unfold oO
 simp only[rt0,rt1,rt2,af,ag,aq,ar,au,aj,aw,az,aA,aB,aC,aD,ak,ah,am,ap,ti,tb,tS,te,tf,Int.toNat_natCast]
 refine YP.ite (fun hc=>?_) (fun hc=>?_)
 ·have hc:=of_decide_eq_true hc
  refine YP.guard (by ((repeat' (first | refine aL ?_ ?_ | refine decide_eq_true ?_)) <;> omega)) (YP.some ⟨_,rfl,_,_,rfl,?_,fun x hx=>hv x (List.mem_of_mem_take hx),by omega,by omega⟩)
  rw[List.length_take];omega
 ·have hc:=of_decide_eq_false hc
  exact YP.some ⟨_,rfl,_,_,rfl,by omega,hv,by omega,by omega⟩
def digS (n:Nat):ByteArray:=⟨#[UInt8.ofNat (48+n)]⟩
theorem kind_fin : ∀a b:Fin 10,dn ((k_S++digS a.val)++digS b.val)=some (a.val,b.val):=by decide +kernel
theorem kind_mk {m k:Nat} (hm:m < 10) (hk:k < 10):dn ((k_S++digS m)++digS k)=some (m,k):=kind_fin ⟨m,hm⟩ ⟨k,hk⟩
theorem dig_fin : ∀n:Fin 10,(⟨([(T.int (IntKind.wrap .u8 (IntKind.wrap .i64 ((48:Int)+(n.val:Int)))))].map fun c=>UInt8.ofNat c.i.toNat).toArray⟩:ByteArray)=digS n.val:=by decide +kernel
theorem dec_1 {n:Nat} (hn:n < 10):Yields (fun k=>cl env k dE [.int (n:Int)]) [.str (digS n)]:=by
 refine A2 _ ?_
 unfold mw
 simp only[rt0,rt1,rt2,af,ag,aq,ar,au,aj,aw,az,aA,aB,aC,aD,ak,ah,am,ap,ti,tb,tS,te,tf,Int.toNat_natCast]
 refine Yields.ff (decide_eq_false (by omega)) (Yields.ff (decide_eq_false (by omega)) (Yields.tt (decide_eq_true (by omega)) ?_))
 rw[← dig_fin ⟨n,hn⟩]
 exact Yields.some _
def cW (ks:List T) (s:ByteArray):Bool:=dw s||nQ ks s
theorem zD {ks:List T} {m k:Nat} (hm:m < ks.length) (hk:k < ((T.sl ks).nth m).es.length) (hm':m < 10) (hk':k < 10):cW ks ((k_S++digS m)++digS k)=true:=by
 unfold cW nQ
 rw[kind_mk hm' hk']
 simp only[lS,decide_eq_true hm,decide_eq_true hk,Bool.and_self,Bool.or_true]
theorem yM:dw k_n=true:=by decide +kernel
theorem base_b:dw k_b=true:=by decide +kernel
theorem base_o:dw k_o=true:=by decide +kernel
theorem py {ks:List T} {s:ByteArray} (h:dw s=true):cW ks s=true:=by unfold cW;rw[h];rfl
theorem dK {ks:List T} {s:ByteArray} (h:cW ks s=true):1≤s.size∧s.size≤3:=by
 unfold cW at h
 cases hb:dw s with
 | true=>have:=(sG hb).1;omega
 | false=>
  rw[hb,Bool.false_or] at h
  unfold nQ at h
  cases hk:dn s with
  | none=>rw[hk] at h;cases h
  | some p=>obtain ⟨i,j⟩:=p;have:=(ma hk).1;omega
theorem Cf {ks:List T} {s:ByteArray} (h:cW ks s=true):kb s=false:=by
 obtain ⟨h0,h1,h2⟩:=wb h
 unfold kb
 rw[beq_eq_false_iff_ne.2 h1,beq_eq_false_iff_ne.2 h2];simp
theorem plain_of {ks:List T} {s:ByteArray} (h:cW ks s=true):ofB s=s:=by unfold ofB;rw[Cf h];rfl
theorem pre_ref {c:UInt8} {s:ByteArray} (hc:c.toNat=38∨c.toNat=33):kb ((⟨#[c]⟩:ByteArray)++s)=true:=by
 have h1:((⟨#[c]⟩:ByteArray)++s).size=1+s.size:=by rw[ByteArray.size_append];rfl
 have h2:bU ((⟨#[c]⟩:ByteArray)++s) 0=c.toNat:=by
  unfold bU
  rw[ByteArray.data_append,Array.getD_eq_getD_getElem?,Array.getElem?_append_left (by simp)]
  rfl
 unfold kb
 rw[h1,h2]
 rcases hc with h | h <;> rw[h,decide_eq_true (show 1+s.size > 0 by omega)] <;> rfl
theorem pre_of {c:UInt8} {s:ByteArray} (hc:c.toNat=38∨c.toNat=33):ofB ((⟨#[c]⟩:ByteArray)++s)=s:=by
 unfold ofB
 rw[pre_ref hc]
 show ((⟨#[c]⟩:ByteArray)++s).extract 1 ((⟨#[c]⟩:ByteArray)++s).size=s
 rw[ByteArray.size_append]
 have:=ByteArray.extract_append_size_add (a:=(⟨#[c]⟩:ByteArray)) (b:=s) (i:=0) (j:=s.size)
 simp at this
 exact this
def cK (ks:List T) (s:ByteArray):Bool:=cW ks (ofB s)
theorem ck {ks:List T} {s:ByteArray} (h:cW ks s=true):cK ks s=true:=by unfold cK;rw[plain_of h];exact h
theorem wn {ks:List T} {c:UInt8} {s:ByteArray} (hc:c.toNat=38∨c.toNat=33) (h:cW ks s=true):cK ks ((⟨#[c]⟩:ByteArray)++s)=true:=by unfold cK;rw[pre_of hc];exact h
theorem nX {ks:List T} {s:ByteArray} (h:cK ks s=true):1≤s.size∧s.size≤4:=by
 have:=dK (s:=ofB s) h
 unfold ofB at this
 cases hr:kb s with
 | false=>rw[hr] at this;simp only[cond_false] at this;omega
 | true=>rw[hr] at this;simp only[cond_true,ByteArray.size_extract] at this;omega
def Few (ks:List T):Prop:=ks.length≤10∧∀i,i < ks.length→((T.sl ks).nth i).es.length≤10
def TyR (ks:List T) (refs:Bool) (t:T):Prop:=∃s:ByteArray,t = .str s∧cK ks s=true∧(refs=false→cW ks s=true)
theorem rX {ks:List T} {refs:Bool} {q:Nat} {r:T} {s:ByteArray} (h:Rd (q+2) r) (hs:cW ks s=true) :
  YP (fun k=>bif refs then
   obind (cl env k aG [r,.int 4]) fun r7=>
   bif ((rt r7 0).i==(0:Int)) then
   obind (cl env k cB [(rt (r7.drop 1) 0),(T.sl [(T.str cX),(T.str cI)])]) fun r8=>
   bif (decide (((rt r8 0).s).size+s.size≤LIM)) then
   some [(T.str (((rt r8 0).s)++s)),(rt (r8.drop 1) 0)]
   else none
   else some [.str s,(rt (r7.drop 1) 0)]
   else some [.str s,r]) (fun o=>∃x r',o = [x,r']∧Rd q r'∧TyR ks refs x):=by
 refine YP.ite (fun href=>?_) (fun href=>?_)
 ·refine YP.obind (bA (q:=q+1) h) ?_
  rintro _ ⟨v,r',rfl,hr,h0,h1,_⟩
  simp only[rt0,rt1,rt2,af,ag,aq,ar,au,aj,aw,az,aA,aB,aC,aD,ak,ah,am,ap,ti,tb,tS,te,tf,Int.toNat_natCast]
  refine YP.ite (fun hc=>?_) (fun hc=>?_)
  ·refine YP.obind (ct_of (q:=q) (P:=fun x=>∃c:UInt8,x = .str ⟨#[c]⟩∧(c.toNat=38∨c.toNat=33)) hr ?_ (by simp)) ?_
   ·intro x hx
    rcases List.mem_cons.1 hx with rfl | hx
    ·exact ⟨38,rfl,Or.inl rfl⟩
    ·rw[List.mem_singleton.1 hx];exact ⟨33,rfl,Or.inr rfl⟩
   rintro _ ⟨_,r'',rfl,hr,c,rfl,hc⟩
   simp only[rt0,rt1,rt2,af,ag,aq,ar,au,aj,aw,az,aA,aB,aC,aD,ak,ah,am,ap,ti,tb,tS,te,tf,Int.toNat_natCast]
   have:=dK hs
   refine YP.guard (decide_eq_true ?_) (YP.some ⟨_,r'',rfl,hr,_,rfl,wn hc hs,?_⟩)
   ·show 1+s.size≤LIM
    rw[bD];omega
   ·intro h;rw[href] at h;cases h
  ·exact YP.some ⟨_,r',rfl,hr.less (by omega),_,rfl,ck hs,fun _=>hs⟩
 ·exact YP.some ⟨_,r,rfl,h.less (by omega),_,rfl,ck hs,fun _=>hs⟩
theorem Aw {ks:List T} {refs:Bool} {q:Nat} {r:T} (h:Rd (q+6) r) (hf:Few ks):YP (fun k=>cl env k hL [r,.sl ks,.bool refs]) (fun o=>∃x r',o = [x,r']∧Rd q r'∧TyR ks refs x):=by
 refine YP.call ?_ (fun r h=>xv _ _ _ h)
 unfold nw
 simp only[rt0,rt1,rt2,af,ag,aq,ar,au,aj,aw,az,aA,aB,aC,aD,ak,ah,am,ap,ti,tb,tS,te,tf,Int.toNat_natCast]
 refine YP.obind (ct_of (q:=q+5) (P:=fun x=>∃s:ByteArray,x = .str s∧dw s=true) h ?_ (by simp)) ?_
 ·intro x hx
  simp only[List.mem_cons,List.not_mem_nil,or_false] at hx
  rcases hx with rfl | rfl | rfl | rfl
  ·exact ⟨_,rfl,yM⟩
  ·exact ⟨_,rfl,base_b⟩
  ·exact ⟨_,rfl,base_o⟩
  ·exact ⟨_,rfl,yM⟩
 rintro _ ⟨_,r',rfl,hr,s,rfl,hs⟩
 have hs:=py (ks:=ks) hs
 simp only[rt0,rt1,rt2,af,ag,aq,ar,au,aj,aw,az,aA,aB,aC,aD,ak,ah,am,ap,ti,tb,tS,te,tf,Int.toNat_natCast]
 refine YP.obind (bA (q:=q+4) hr) ?_
 rintro _ ⟨v,r2,rfl,hr,h0,h1,_⟩
 simp only[rt0,rt1,rt2,af,ag,aq,ar,au,aj,aw,az,aA,aB,aC,aD,ak,ah,am,ap,ti,tb,tS,te,tf,Int.toNat_natCast]
 refine YP.ite (fun hc=>?_) (fun hc=>?_)
 ·refine YP.ite (fun hc=>?_) (fun hc=>?_)
  ·have hc:=of_decide_eq_true hc
   refine YP.obind (bA (q:=q+3) hr) ?_
   rintro _ ⟨m,r3,rfl,hr,h0,h1,_⟩
   simp only[rt0,rt1,rt2,af,ag,aq,ar,au,aj,aw,az,aA,aB,aC,aD,ak,ah,am,ap,ti,tb,tS,te,tf,Int.toNat_natCast]
   have h1:=h1 (by omega)
   obtain ⟨m,rfl⟩ : ∃m':Nat,m=(m':Int):=⟨m.toNat,by omega⟩
   have hm:m < ks.length:=by omega
   have hm9:m < 10:=by have:=hf.1;omega
   refine YP.guard (by ((repeat' (first | refine aL ?_ ?_ | refine decide_eq_true ?_)) <;> omega)) ?_
   simp only[rt0,rt1,rt2,af,ag,aq,ar,au,aj,aw,az,aA,aB,aC,aD,ak,ah,am,ap,ti,tb,tS,te,tf,Int.toNat_natCast]
   refine YP.ite (fun hc=>?_) (fun hc=>?_)
   ·have hc:=of_decide_eq_true hc
    refine YP.obind (YP.of (Q:=fun o=>o=_) (dec_1 hm9) rfl) ?_
    rintro _ rfl
    simp only[rt0,rt1,rt2,af,ag,aq,ar,au,aj,aw,az,aA,aB,aC,aD,ak,ah,am,ap,ti,tb,tS,te,tf,Int.toNat_natCast]
    refine YP.guard (decide_eq_true (by rw[bD];show 1+1≤_;omega)) (YP.guard (by ((repeat' (first | refine aL ?_ ?_ | refine decide_eq_true ?_)) <;> omega)) ?_)
    refine YP.obind (bA (q:=q+2) hr) ?_
    rintro _ ⟨k,r4,rfl,hr,h0,h1,_⟩
    simp only[rt0,rt1,rt2,af,ag,aq,ar,au,aj,aw,az,aA,aB,aC,aD,ak,ah,am,ap,ti,tb,tS,te,tf,Int.toNat_natCast]
    have h1:=h1 (by omega)
    obtain ⟨k,rfl⟩ : ∃k':Nat,k=(k':Int):=⟨k.toNat,by omega⟩
    have hk:k < ((T.sl ks).nth m).es.length:=by omega
    have hk9:k < 10:=by have:=hf.2 m hm;omega
    refine YP.obind (YP.of (Q:=fun o=>o=_) (dec_1 hk9) rfl) ?_
    rintro _ rfl
    simp only[rt0,rt1,rt2,af,ag,aq,ar,au,aj,aw,az,aA,aB,aC,aD,ak,ah,am,ap,ti,tb,tS,te,tf,Int.toNat_natCast]
    refine YP.guard (decide_eq_true (by rw[bD];show 2+1≤_;omega)) ?_
    exact rX hr (zD hm hk hm9 hk9)
   ·exact (rX hr hs).mono fun o ⟨x,r',e,h1,h2⟩=>⟨x,r',e,h1.less (by omega),h2⟩
  ·exact (rX hr hs).mono fun o ⟨x,r',e,h1,h2⟩=>⟨x,r',e,h1.less (by omega),h2⟩
 ·exact (rX hr hs).mono fun o ⟨x,r',e,h1,h2⟩=>⟨x,r',e,h1.less (by omega),h2⟩
theorem wo {ks:List T} (hf:Few ks) {refs:Bool} {q n:Nat} (hn:n≤1000) : ∀{i:Nat} {r:T} {xs:List T},Rd (q+6 * i) r→xs.length+i≤n→(∀x∈xs,TyR ks refs x)→
  YP (fun k=>gZ (hl env k dN) (.sl ks) (.bool refs) (.int (i:Int)) r (.sl xs)) (fun o=>∃ys r',o = [.sl ys,r']∧Rd q r'∧ys.length≤n∧∀x∈ys,TyR ks refs x)
 | 0,r,xs,h,hl,hx=>by
  refine YP.call ?_ (fun r h=>pn _ _ _ _ _ h)
  unfold gU
  simp only[rt0,rt1,rt2,af,ag,aq,ar,au,aj,aw,az,aA,aB,aC,aD,ak,ah,am,ap,ti,tb,tS,te,tf,Int.toNat_natCast]
  refine YP.ff (decide_eq_false (by omega)) ?_
  exact YP.some ⟨_,r,rfl,h.less (by omega),by omega,hx⟩
 | i+1,r,xs,h,hl,hx=>by
  refine YP.call ?_ (fun r h=>pn _ _ _ _ _ h)
  unfold gU
  simp only[rt0,rt1,rt2,af,ag,aq,ar,au,aj,aw,az,aA,aB,aC,aD,ak,ah,am,ap,ti,tb,tS,te,tf,Int.toNat_natCast]
  refine YP.tt (decide_eq_true (by omega)) ?_
  refine YP.obind (Aw (q:=q+6 * i) (h.less (by omega)) hf) ?_
  rintro _ ⟨x,r',rfl,hr,hx1⟩
  simp only[rt0,rt1,rt2,af,ag,aq,ar,au,aj,aw,az,aA,aB,aC,aD,ak,ah,am,ap,ti,tb,tS,te,tf,Int.toNat_natCast]
  refine YP.guard (decide_eq_true (by rw[bD];simp;omega)) ?_
  rw[show IntKind.wrap .i64 (((i+1:Nat):Int) - 1)=(i:Int) by rw[bf (by omega) (by omega)];omega]
  refine wo hf hn hr (by simp;omega) ?_
  intro y hy
  rcases List.mem_append.1 hy with hy | hy
  ·exact hx y hy
  ·rw[List.mem_singleton.1 hy];exact hx1
theorem jM {ks:List T} (hf:Few ks) {refs:Bool} {q n:Nat} {r:T} (hn:n≤1000) (h:Rd (q+6 * n+1) r):YP (fun k=>cl env k cP [r,.sl ks,.int (n:Int),.bool refs]) (fun o=>∃ys r',o = [.sl ys,r']∧Rd q r'∧ys.length≤n∧∀x∈ys,TyR ks refs x):=by
 refine YP.call ?_ (fun r h=>wD _ _ _ _ h)
 unfold mF
 simp only[rt0,rt1,rt2,af,ag,aq,ar,au,aj,aw,az,aA,aB,aC,aD,ak,ah,am,ap,ti,tb,tS,te,tf,Int.toNat_natCast]
 rw[show IntKind.wrap .i64 ((n:Int)+1)=(n:Int)+1 from bf (by omega) (by omega)]
 refine YP.obind (bA h) ?_
 rintro _ ⟨v,r',rfl,hr,h0,h1,_⟩
 simp only[rt0,rt1,rt2,af,ag,aq,ar,au,aj,aw,az,aA,aB,aC,aD,ak,ah,am,ap,ti,tb,tS,te,tf,Int.toNat_natCast]
 have h1:=h1 (by omega)
 obtain ⟨v,rfl⟩ : ∃k':Nat,v=(k':Int):=⟨v.toNat,by omega⟩
 exact wo hf hn (hr.less (by omega)) (by simp;omega) (fun x hx=>by cases hx)
def insR (t:T):Bool:=match t with
 | .st [.str s,.int a,.int b]=>decide (s.size≤10)&&(decide (0≤a)&&decide (a≤2000000)&&(decide (0≤b)&&decide (b≤2000000)))
 | _=>false
theorem tab_ins:pY.es.all insR=true:=by kernel_rfl
theorem tab_len:pY.es.length=37:=by kernel_rfl
def iz (t:T):Prop:=∃(s:ByteArray) (a b:Int),t = .st [.str s,.int a,.int b]∧s.size≤10∧0≤a∧a≤2000000∧0≤b∧b≤2000000
theorem xM {t:T} (h:insR t=true):iz t:=by
 unfold insR at h
 split at h
 ·simp only[Bool.and_eq_true,decide_eq_true_eq] at h
  exact ⟨_,_,_,rfl,h.1,h.2.1.1,h.2.1.2,h.2.2.1,h.2.2.2⟩
 ·cases h
theorem tab_at {i:Nat} (h:i < pY.es.length):iz (pY.nth i):=by
 rw[tab_sl,bh h]
 exact xM (List.all_eq_true.1 tab_ins _ (List.getElem_mem h))
theorem ct_ins {q:Nat} {r:T} (h:Rd (q+3) r):YP (fun k=>cl env k fp [r]) (fun o=>∃x r',o = [x,r']∧Rd q r'∧iz x):=by
 refine YP.call ?_ (fun r h=>yx _ h)
 unfold oR
 refine YP.obind (YP.of (Q:=fun o=>o=_) forms_s rfl) ?_
 rintro _ rfl
 simp only[rt0,rt1,rt2,af,ag,aq,ar,au,aj,aw,az,aA,aB,aC,aD,ak,ah,am,ap,ti,tb,tS,te,tf,Int.toNat_natCast]
 refine YP.obind (bA (q:=q+2) h) ?_
 rintro _ ⟨v,r',rfl,hr,h0,h1,_⟩
 simp only[rt0,rt1,rt2,af,ag,aq,ar,au,aj,aw,az,aA,aB,aC,aD,ak,ah,am,ap,ti,tb,tS,te,tf,Int.toNat_natCast]
 have h1:=h1 (by rw[tab_len];omega)
 refine YP.guard (by ((repeat' (first | refine aL ?_ ?_ | refine decide_eq_true ?_)) <;> omega)) ?_
 obtain ⟨s,a,b,e,h2,h3,h4,h5,h6⟩:=tab_at (i:=v.toNat) (by omega)
 simp only[e]
 simp only[rt0,rt1,rt2,af,ag,aq,ar,au,aj,aw,az,aA,aB,aC,aD,ak,ah,am,ap,ti,tb,tS,te,tf,Int.toNat_natCast]
 refine YP.ite (fun hc=>?_) (fun hc=>?_)
 ·have hc:=of_decide_eq_true hc
  refine YP.obind (bA (q:=q+1) hr) ?_
  rintro _ ⟨w,r2,rfl,hr,w0,w1,_⟩
  have hw:w≤2000000:=by
   have w2:1≤(bif decide (12 < a) then (12:Int) else a)→w < (bif decide (12 < a) then (12:Int) else a):=w1
   by_cases hd:12 < a
   ·rw[decide_eq_true hd] at w2;have:=w2 (by simp only[cond_true];omega);simp only[cond_true] at this;omega
   ·rw[decide_eq_false hd] at w2;have:=w2 (by simp only[cond_false];omega);simp only[cond_false] at this;omega
  simp only[rt0,rt1,rt2,af,ag,aq,ar,au,aj,aw,az,aA,aB,aC,aD,ak,ah,am,ap,ti,tb,tS,te,tf,Int.toNat_natCast]
  refine YP.ite (fun hc=>?_) (fun hc=>?_)
  ·have hc:=of_decide_eq_true hc
   refine YP.obind (bA (q:=q) hr) ?_
   rintro _ ⟨u,r3,rfl,hr,u0,u1,_⟩
   simp only[rt0,rt1,rt2,af,ag,aq,ar,au,aj,aw,az,aA,aB,aC,aD,ak,ah,am,ap,ti,tb,tS,te,tf,Int.toNat_natCast]
   have:=u1 (by omega)
   exact YP.some ⟨_,r3,rfl,hr,s,w,u,rfl,h2,w0,hw,u0,by omega⟩
  ·exact YP.some ⟨_,r2,rfl,hr.less (by omega),s,w,b,rfl,h2,w0,hw,h5,h6⟩
 ·refine YP.ite (fun hc=>?_) (fun hc=>?_)
  ·have hc:=of_decide_eq_true hc
   refine YP.obind (bA (q:=q+1) hr) ?_
   rintro _ ⟨u,r3,rfl,hr,u0,u1,_⟩
   simp only[rt0,rt1,rt2,af,ag,aq,ar,au,aj,aw,az,aA,aB,aC,aD,ak,ah,am,ap,ti,tb,tS,te,tf,Int.toNat_natCast]
   have:=u1 (by omega)
   exact YP.some ⟨_,r3,rfl,hr.less (by omega),s,a,u,rfl,h2,h3,h4,u0,by omega⟩
  ·exact YP.some ⟨_,r',rfl,hr.less (by omega),s,a,b,rfl,h2,h3,h4,h5,h6⟩
def oI (t:T):Prop:=∃s:ByteArray,t = .str s∧s.size≤9
def hM (n:Nat) (t:T):Prop:=∃(a:Int) (fs:List T),t = .st [.int a,.sl fs]∧-1≤a∧a≤16∧fs.length≤n∧∀x∈fs,oI x
theorem AR {ks:List T} {refs:Bool} {t:T} (h:TyR ks refs t):oI t:=by
 obtain ⟨s,rfl,h,_⟩:=h
 exact ⟨s,rfl,by have:=nX h;omega⟩
theorem ud {ks:List T} (hf:Few ks) {q:Nat} {z:T} : ∀{i:Nat},i≤3→(∀{r x:T},Rd (q+6 * i+4) r→hM (3 - i) x→
  YP (fun k=>jV (hl env k ci) (.sl ks) (.int (i:Int)) r z x) (fun o=>∃y r',o = [y,r']∧Rd q r'∧hM 4 y))∧(∀{r x:T},Rd (q+6 * i+4) r→hM (3 - i) x→
  YP (fun k=>gB (hl env k ci) (.sl ks) (.int (i:Int)) r z x) (fun o=>∃y r',o = [y,r']∧Rd q r'∧hM 4 y))
 | 0,hi=>by
  constructor
  all_goals
   rintro r x h ⟨a,fs,rfl,ha,ha',hl,hx⟩
   first | refine YP.call ?_ (fun r h=>ou _ _ _ _ _ h) | refine YP.call ?_ (fun r h=>ow _ _ _ _ _ h)
   first | unfold gn | unfold gp
   simp only[rt0,rt1,rt2,af,ag,aq,ar,au,aj,aw,az,aA,aB,aC,aD,ak,ah,am,ap,ti,tb,tS,te,tf,Int.toNat_natCast]
   refine YP.ff (decide_eq_false (by omega)) ?_
   refine YP.obind (bA (q:=q+3) (h.less (by omega))) ?_
   rintro _ ⟨v,r',rfl,hr,h0,h1,_⟩
   simp only[rt0,rt1,rt2,af,ag,aq,ar,au,aj,aw,az,aA,aB,aC,aD,ak,ah,am,ap,ti,tb,tS,te,tf,Int.toNat_natCast]
   have odd : ∀x∈[(T.str k_x),(T.str (⟨#[]⟩:ByteArray)),(T.str vS),(T.str sZ),(T.str k_S)],oI x:=by
    intro x hx
    simp only[List.mem_cons,List.not_mem_nil,or_false] at hx
    rcases hx with rfl | rfl | rfl | rfl | rfl <;> exact ⟨_,rfl,by decide⟩
   refine YP.ite (fun hc=>?_) (fun hc=>?_)
   ·refine YP.obind (vk (q:=q+2) (P:=fun x=>∃n:Int,x = .int n∧-1≤n∧n≤16) hr ?_ (by simp)) ?_
    ·intro x hx
     simp only[List.mem_cons,List.not_mem_nil,or_false] at hx
     rcases hx with rfl | rfl | rfl | rfl <;> exact ⟨_,rfl,by decide,by decide⟩
    rintro _ ⟨_,r2,rfl,hr,n,rfl,n0,n1⟩
    simp only[rt0,rt1,rt2,af,ag,aq,ar,au,aj,aw,az,aA,aB,aC,aD,ak,ah,am,ap,ti,tb,tS,te,tf,Int.toNat_natCast]
    refine YP.obind (bA (q:=q+1) hr) ?_
    rintro _ ⟨v,r3,rfl,hr,h0,h1,_⟩
    simp only[rt0,rt1,rt2,af,ag,aq,ar,au,aj,aw,az,aA,aB,aC,aD,ak,ah,am,ap,ti,tb,tS,te,tf,Int.toNat_natCast]
    refine YP.ite (fun hc=>?_) (fun hc=>?_)
    ·refine YP.obind (ct_of (q:=q) (P:=oI) hr odd (by simp)) ?_
     rintro _ ⟨y,r4,rfl,hr,hy⟩
     simp only[rt0,rt1,rt2,af,ag,aq,ar,au,aj,aw,az,aA,aB,aC,aD,ak,ah,am,ap,ti,tb,tS,te,tf,Int.toNat_natCast]
     refine YP.guard (decide_eq_true (by rw[bD];simp;omega)) (YP.some ⟨_,r4,rfl,hr,n,_,rfl,n0,n1,by simp;omega,?_⟩)
     intro z hz
     rcases List.mem_append.1 hz with hz | hz
     ·exact hx z hz
     ·rw[List.mem_singleton.1 hz];exact hy
    ·exact YP.some ⟨_,r3,rfl,hr.less (by omega),n,_,rfl,n0,n1,by omega,hx⟩
   ·refine YP.obind (bA (q:=q+1) (hr.less (by omega))) ?_
    rintro _ ⟨v,r3,rfl,hr,h0,h1,_⟩
    simp only[rt0,rt1,rt2,af,ag,aq,ar,au,aj,aw,az,aA,aB,aC,aD,ak,ah,am,ap,ti,tb,tS,te,tf,Int.toNat_natCast]
    refine YP.ite (fun hc=>?_) (fun hc=>?_)
    ·refine YP.obind (ct_of (q:=q) (P:=oI) hr odd (by simp)) ?_
     rintro _ ⟨y,r4,rfl,hr,hy⟩
     simp only[rt0,rt1,rt2,af,ag,aq,ar,au,aj,aw,az,aA,aB,aC,aD,ak,ah,am,ap,ti,tb,tS,te,tf,Int.toNat_natCast]
     refine YP.guard (decide_eq_true (by rw[bD];simp;omega)) (YP.some ⟨_,r4,rfl,hr,a,_,rfl,ha,ha',by simp;omega,?_⟩)
     intro z hz
     rcases List.mem_append.1 hz with hz | hz
     ·exact hx z hz
     ·rw[List.mem_singleton.1 hz];exact hy
    ·exact YP.some ⟨_,r3,rfl,hr.less (by omega),a,_,rfl,ha,ha',by omega,hx⟩
 | i+1,hi=>by
  have ih:=ud hf (q:=q) (z:=z) (i:=i) (by omega)
  constructor
  all_goals
   rintro r x h ⟨a,fs,rfl,ha,ha',hl,hx⟩
   first | refine YP.call ?_ (fun r h=>ou _ _ _ _ _ h) | refine YP.call ?_ (fun r h=>ow _ _ _ _ _ h)
   first | unfold gn | unfold gp
   simp only[rt0,rt1,rt2,af,ag,aq,ar,au,aj,aw,az,aA,aB,aC,aD,ak,ah,am,ap,ti,tb,tS,te,tf,Int.toNat_natCast]
   refine YP.tt (decide_eq_true (by omega)) ?_
   refine YP.obind (Aw (q:=q+6 * i+4) (h.less (by omega)) hf) ?_
   rintro _ ⟨y,r',rfl,hr,hy⟩
   simp only[rt0,rt1,rt2,af,ag,aq,ar,au,aj,aw,az,aA,aB,aC,aD,ak,ah,am,ap,ti,tb,tS,te,tf,Int.toNat_natCast]
   refine YP.guard (decide_eq_true (by rw[bD];simp;omega)) ?_
   rw[show IntKind.wrap .i64 (((i+1:Nat):Int) - 1)=(i:Int) by rw[bf (by omega) (by omega)];omega]
   refine ih.2 hr ⟨a,_,rfl,ha,ha',by simp;omega,?_⟩
   intro z hz
   rcases List.mem_append.1 hz with hz | hz
   ·exact hx z hz
   ·rw[List.mem_singleton.1 hz];exact AR hy
theorem xJ {ks:List T} (hf:Few ks) {q:Nat} {r:T} (h:Rd (q+24) r):YP (fun k=>cl env k ix [r,.sl ks]) (fun o=>∃y r',o = [y,r']∧Rd q r'∧hM 4 y):=by
 refine YP.call ?_ (fun r h=>uZ _ _ h)
 unfold lL
 refine YP.obind (vk (q:=q+23) (P:=fun x=>∃n:Int,x = .int n∧-1≤n∧n≤16) h ?_ (by simp)) ?_
 ·intro x hx
  simp only[List.mem_cons,List.not_mem_nil,or_false] at hx
  rcases hx with rfl | rfl | rfl | rfl | rfl | rfl | rfl | rfl | rfl | rfl <;> exact ⟨_,rfl,by decide,by decide⟩
 rintro _ ⟨_,r2,rfl,hr,n,rfl,n0,n1⟩
 simp only[rt0,rt1,rt2,af,ag,aq,ar,au,aj,aw,az,aA,aB,aC,aD,ak,ah,am,ap,ti,tb,tS,te,tf,Int.toNat_natCast]
 refine YP.obind (bA (q:=q+22) hr) ?_
 rintro _ ⟨v,r',rfl,hr,h0,h1,_⟩
 simp only[rt0,rt1,rt2,af,ag,aq,ar,au,aj,aw,az,aA,aB,aC,aD,ak,ah,am,ap,ti,tb,tS,te,tf,Int.toNat_natCast]
 have h1:=h1 (by omega)
 obtain ⟨v,rfl⟩ : ∃k':Nat,v=(k':Int):=⟨v.toNat,by omega⟩
 exact (ud hf (by omega)).1 (hr.less (by omega)) ⟨n,[],rfl,n0,n1,by simp,fun x hx=>by cases hx⟩
end Go.Proofs.Ytgmhmcnogmojaaa.Ra
