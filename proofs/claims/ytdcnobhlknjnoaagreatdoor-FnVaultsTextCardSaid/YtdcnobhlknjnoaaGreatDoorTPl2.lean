/- A verified evaluator for the program, part Pl2 of this claim. -/
import Derived.Test.YtdcnobhlknjnoaaGreatDoorTPl1
set_option linter.unusedSimpArgs false
set_option linter.unusedVariables false
namespace Go.Proofs.YtdcnobhlknjnoaaGreatDoor.Ra
open Go
theorem YP.guard {b:Bool} {x:Nat→R} {Q:List T→Prop} (hb:b=true) (h:YP x Q):YP (fun k=>bif b then x k else Option.none) Q:=YP.tt hb h
theorem YP.of {x:Nat→R} {Q:List T→Prop} {r:List T} (h:Yields x r) (q:Q r):YP x Q:=⟨r,h,q⟩
theorem YP.call {x y:Nat→R} {Q:List T→Prop} (h:YP x Q) (hy : ∀r,Yields x r→Yields y r):YP y Q:=by
 obtain ⟨r,h,q⟩:=h;exact ⟨r,hy r h,q⟩
theorem af (a:T) (l:List T):(T.st (a :: l)).fld 0=a:=rfl
theorem ag (a b:T) (l:List T):(T.st (a :: b :: l)).fld 1=b:=rfl
theorem aq (a b c:T) (l:List T):(T.st (a :: b :: c :: l)).fld 2=c:=rfl
theorem ar (a b c d:T) (l:List T):(T.st (a :: b :: c :: d :: l)).fld 3=d:=rfl
theorem au (a b c d e:T) (l:List T):(T.st (a :: b :: c :: d :: e :: l)).fld 4=e:=rfl
theorem aj (a b c d e f:T) (l:List T):(T.st (a :: b :: c :: d :: e :: f :: l)).fld 5=f:=rfl
theorem aw (a x:T) (l:List T):(a :: l).set 0 x=x :: l:=rfl
theorem az (a b x:T) (l:List T):(a :: b :: l).set 1 x=a :: x :: l:=rfl
theorem aA (a b c x:T) (l:List T):(a :: b :: c :: l).set 2 x=a :: b :: x :: l:=rfl
theorem aB (a b c d x:T) (l:List T):(a :: b :: c :: d :: l).set 3 x=a :: b :: c :: x :: l:=rfl
theorem aC (a b c d e x:T) (l:List T):(a :: b :: c :: d :: e :: l).set 4 x=a :: b :: c :: d :: x :: l:=rfl
theorem aD (a b c d e f x:T) (l:List T):(a :: b :: c :: d :: e :: f :: l).set 5 x=a :: b :: c :: d :: e :: x :: l:=rfl
theorem ak (l:List T):l.drop 0=l:=rfl
theorem ah (a:T) (l:List T):(a :: l).drop 1=l:=rfl
theorem am (a b:T) (l:List T):(a :: b :: l).drop 2=l:=rfl
theorem ap (a b c:T) (l:List T):(a :: b :: c :: l).drop 3=l:=rfl
theorem ti (n:Int):(T.int n).i=n:=rfl
theorem tb (n:Bool):(T.bool n).b=n:=rfl
theorem tS (n:ByteArray):(T.str n).s=n:=rfl
theorem te (n:List T):(T.sl n).es=n:=rfl
theorem tf (n:List T):(T.st n).fs=n:=rfl
theorem tnA:(∀(a:T) (l:List T),rt (a :: l) 0=a)∧(∀(a b:T) (l:List T),rt (a :: b :: l) 1=b)∧(∀(a b c:T) (l:List T),rt (a :: b :: c :: l) 2=c)∧(∀(a:T) (l:List T),(T.st (a :: l)).fld 0=a)∧(∀(a b:T) (l:List T),(T.st (a :: b :: l)).fld 1=b)∧(∀(a b c:T) (l:List T),(T.st (a :: b :: c :: l)).fld 2=c)∧(∀(a b c d:T) (l:List T),(T.st (a :: b :: c :: d :: l)).fld 3=d)∧(∀(a b c d e:T) (l:List T),(T.st (a :: b :: c :: d :: e :: l)).fld 4=e)∧(∀(a b c d e f:T) (l:List T),(T.st (a :: b :: c :: d :: e :: f :: l)).fld 5=f)∧(∀(a x:T) (l:List T),(a :: l).set 0 x=x :: l)∧(∀(a b x:T) (l:List T),(a :: b :: l).set 1 x=a :: x :: l)∧(∀(a b c x:T) (l:List T),(a :: b :: c :: l).set 2 x=a :: b :: x :: l)∧(∀(a b c d x:T) (l:List T),(a :: b :: c :: d :: l).set 3 x=a :: b :: c :: x :: l)∧(∀(a b c d e x:T) (l:List T),(a :: b :: c :: d :: e :: l).set 4 x=a :: b :: c :: d :: x :: l)∧(∀(a b c d e f x:T) (l:List T),(a :: b :: c :: d :: e :: f :: l).set 5 x=a :: b :: c :: d :: e :: x :: l)∧(∀(l:List T),l.drop 0=l)∧(∀(a:T) (l:List T),(a :: l).drop 1=l)∧(∀(a b:T) (l:List T),(a :: b :: l).drop 2=l)∧(∀(a b c:T) (l:List T),(a :: b :: c :: l).drop 3=l)∧(∀n,(T.int n).i=n)∧(∀n,(T.bool n).b=n)∧(∀n,(T.str n).s=n)∧(∀n,(T.sl n).es=n)∧(∀n,(T.st n).fs=n)∧(∀n:Nat,(n:Int).toNat=n):=⟨rt0,rt1,rt2,af,ag,aq,ar,au,aj,aw,az,aA,aB,aC,aD,ak,ah,am,ap,ti,tb,tS,te,tf,Int.toNat_natCast⟩
theorem bD:LIM=4294967296:=rfl
theorem BBv:BB=1048576:=rfl
def Rd (q:Nat) (r:T):Prop:=∃(bs:List T) (p:Int),r = .st [.sl bs,.int p]∧bs.length≤2000∧(∀x∈bs,∃v:Int,x = .int v∧0≤v∧v≤255)∧0≤p∧p+q≤1000000000
theorem Rd.less {q q':Nat} {r:T} (h:Rd q r) (hq:q'≤q):Rd q' r:=by
 obtain ⟨bs,p,h1,h2,h3,h4,h5⟩:=h;exact ⟨bs,p,h1,h2,h3,h4,by omega⟩
theorem uC {bs:List T} (h : ∀x∈bs,∃v:Int,x = .int v∧0≤v∧v≤255) {i:Nat} (hi:i < bs.length) : ∃v:Int,(T.sl bs).nth i = .int v∧0≤v∧v≤255:=by
 rw[bh hi];exact h _ (List.getElem_mem hi)
theorem xd {x n:Int} (hx:0≤x) (hn:1≤n):0≤x.tmod n∧x.tmod n < n:=⟨Int.tmod_nonneg _ hx,Int.tmod_lt_of_pos _ (by omega)⟩
theorem wrap_xor {a b:Int} (ha:0≤a) (hb:0≤b) (ha':a≤4611686018427387903) (hb':b≤4611686018427387903):0≤IntKind.wrap .i64 ((BitVec.ofInt (IntKind.i64).bits a ^^^ BitVec.ofInt (IntKind.i64).bits b).toNat:Nat):=by
 obtain ⟨m,rfl⟩ : ∃m:Nat,a=(m:Int):=⟨a.toNat,by omega⟩
 obtain ⟨n,rfl⟩ : ∃m:Nat,b=(m:Int):=⟨b.toNat,by omega⟩
 have e:(BitVec.ofInt (IntKind.i64).bits (m:Int) ^^^ BitVec.ofInt (IntKind.i64).bits (n:Int)).toNat=m ^^^ n:=by
  rw[BitVec.toNat_xor,BitVec.toNat_ofInt,BitVec.toNat_ofInt];have h1:((m:Int) % (2 ^ (IntKind.i64).bits:Nat)).toNat=m:=by
   show ((m:Int) % 18446744073709551616).toNat=m
   omega
  have h2:((n:Int) % (2 ^ (IntKind.i64).bits:Nat)).toNat=n:=by
   show ((n:Int) % 18446744073709551616).toNat=n
   omega
  rw[h1,h2]
 rw[e];have h:=Nat.xor_lt_two_pow (x:=m) (y:=n) (n:=62) (by omega) (by omega)
 rw[bf (by omega) (by omega)]
 omega
def PickR (q:Nat) (n:Int) (o:List T):Prop:=∃(v:Int) (r':T),o = [.int v,r']∧Rd q r'∧0≤v∧(1≤n→v < n)∧(n < 1→v=0)
theorem bA {q:Nat} {r:T} {n:Int} (h:Rd (q+1) r):YP (fun k=>cl env k aG [r,.int n]) (PickR q n):=by
 obtain ⟨bs,p,rfl,hb,hv,hp,hq⟩:=h;have hr:Rd q (.st [.sl bs,.int (p+1)]):=⟨bs,p+1,rfl,hb,hv,by omega,by omega⟩
 refine YP.call ?_ (fun r h=>uR _ _ h)
 unfold lD;simp only[tnA];have w1:IntKind.wrap .i64 (p+1)=p+1:=bf (by omega) (by omega)
 have w2:IntKind.wrap .i64 (p+1 - 1)=p:=by rw[bf (by omega) (by omega)];omega
 simp only[w1];simp only[w2];refine YP.ite (fun hc=>?_) (fun hc=>?_)
 ·have hc:=of_decide_eq_true hc;exact YP.some ⟨0,_,rfl,hr,by omega,fun h=>by omega,fun _=>rfl⟩
 have hc:=of_decide_eq_false hc;refine YP.ite (fun hc2=>?_) (fun hc2=>?_)
 ·exact YP.some ⟨0,_,rfl,hr,by omega,fun h=>by omega,fun _=>rfl⟩
 have hl:0 < bs.length:=by
  rcases bs with _ | ⟨b,bs⟩
  ·exact absurd hc2 (by decide)
  ·simp
 have hn0:(!(n==0))=true:=by
  rw[beq_eq_false_iff_ne.2 (by omega)];rfl
 have hl0:(!((bs.length:Int)==0))=true:=by
  rw[beq_eq_false_iff_ne.2 (by omega)];rfl
 have fin : ∀x:Int,0≤x→PickR q n [.int (x.tmod n),.st [.sl bs,.int (p+1)]]:=fun x hx=>by
  have:=xd (x:=x) (n:=n) hx (by omega)
  exact ⟨_,_,rfl,hr,this.1,fun _=>this.2,fun h=>by omega⟩
 refine YP.ite (fun hc3=>?_) (fun hc3=>?_)
 ·have hc3:=of_decide_eq_true hc3;obtain ⟨v,e,v0,v1⟩:=uC hv (i:=p.toNat) (by omega)
  refine YP.guard (by (simp <;> omega)) (YP.guard hn0 ?_)
  rw[e];simp only[tnA];rw[bf (n:=v) (by omega) (by omega)]
  exact YP.some (fin _ v0)
 ·have hc3:=of_decide_eq_false hc3;have m1:=xd (x:=p) (n:=(bs.length:Int)) hp (by omega)
  have w3:IntKind.wrap .i64 (p * 7)=p * 7:=bf (by omega) (by omega)
  have w4:IntKind.wrap .i64 (p * 7+3)=p * 7+3:=bf (by omega) (by omega)
  have m2:=xd (x:=p * 7+3) (n:=(bs.length:Int)) (by omega) (by omega)
  simp only[w3,w4];obtain ⟨u,e1,u0,u1⟩:=uC hv (i:=(p.tmod (bs.length:Int)).toNat) (by omega)
  obtain ⟨v,e2,v0,v1⟩:=uC hv (i:=((p * 7+3).tmod (bs.length:Int)).toNat) (by omega)
  have d0:0≤p.tdiv (bs.length:Int):=Int.tdiv_nonneg hp (by omega)
  have d1:p.tdiv (bs.length:Int)≤p:=Int.tdiv_le_self _ hp
  refine YP.guard hl0 (YP.guard (by (simp <;> omega)) (YP.guard hl0 (YP.guard (by (simp <;> omega)) (YP.guard hl0 (YP.guard (by decide) (YP.guard hn0 ?_))))))
  rw[e1,e2];simp only[tnA];have a1:IntKind.wrap .i64 u=u:=bf (by omega) (by omega)
  have a2:IntKind.wrap .i64 v=v:=bf (by omega) (by omega)
  have a3:IntKind.wrap .i64 (u * 131)=u * 131:=bf (by omega) (by omega)
  have a4:IntKind.wrap .i64 (v * 1117)=v * 1117:=bf (by omega) (by omega)
  have a5:IntKind.wrap .i64 (p * 29)=p * 29:=bf (by omega) (by omega)
  have a6:IntKind.wrap .i64 (p.tdiv (bs.length:Int))=p.tdiv (bs.length:Int):=bf (by omega) (by omega)
  have a7:IntKind.wrap .i64 (p.tdiv (bs.length:Int) * 53)=p.tdiv (bs.length:Int) * 53:=bf (by omega) (by omega)
  have a8:IntKind.wrap .i64 (u * 131+v * 1117)=u * 131+v * 1117:=bf (by omega) (by omega)
  have a9:IntKind.wrap .i64 (u * 131+v * 1117+p * 29)=u * 131+v * 1117+p * 29:=bf (by omega) (by omega)
  have a10:IntKind.wrap .i64 (u * 131+v * 1117+p * 29+p.tdiv (bs.length:Int) * 53)=u * 131+v * 1117+p * 29+p.tdiv (bs.length:Int) * 53:=bf (by omega) (by omega)
  simp only[a1,a2,a3,a4,a5,a6,a7,a8,a9,a10];generalize hx:u * 131+v * 1117+p * 29+p.tdiv (bs.length:Int) * 53=x
  have hx0:0≤x:=by omega
  have hx1:x≤4611686018427387903:=by omega
  have q0:0≤x.tdiv 64:=Int.tdiv_nonneg hx0 (by omega)
  have q1:x.tdiv 64≤x:=Int.tdiv_le_self _ hx0
  have a11:IntKind.wrap .i64 (x.tdiv 64)=x.tdiv 64:=bf (by omega) (by omega)
  rw[a11];exact YP.some (fin _ (wrap_xor hx0 q0 hx1 (by omega)))
theorem vk {q:Nat} {r:T} {xs:List T} {P:T→Prop} (h:Rd (q+1) r) (hx : ∀x∈xs,P x) (hl:0 < xs.length):YP (fun k=>cl env k dH [r,.sl xs]) (fun o=>∃x r',o = [x,r']∧Rd q r'∧P x):=by
 refine YP.call ?_ (fun r h=>yz _ _ h)
 unfold oS;simp only[tnA];refine YP.obind (bA h) ?_;rintro _ ⟨v,r',rfl,hr,h0,h1,_⟩;simp only[tnA];have h1:=h1 (by omega)
 refine YP.guard (by (simp <;> omega)) (YP.some ⟨_,r',rfl,hr,?_⟩)
 rw[bh (by omega)]
 exact hx _ (List.getElem_mem _)
theorem KF {q:Nat} {r:T} {xs:List T} {P:T→Prop} (h:Rd (q+1) r) (hx : ∀x∈xs,P x) (hl:0 < xs.length):YP (fun k=>cl env k cB [r,.sl xs]) (fun o=>∃x r',o = [x,r']∧Rd q r'∧P x):=by
 refine YP.call ?_ (fun r h=>xr _ _ h)
 unfold Pq;simp only[tnA];refine YP.obind (bA h) ?_;rintro _ ⟨v,r',rfl,hr,h0,h1,_⟩;simp only[tnA];have h1:=h1 (by omega)
 refine YP.guard (by (simp <;> omega)) (YP.some ⟨_,r',rfl,hr,?_⟩)
 rw[bh (by omega)]
 exact hx _ (List.getElem_mem _)
theorem TI {bs:List T} (hv : ∀x∈bs,∃v:Int,x = .int v∧0≤v∧v≤255):YP (fun k=>cl env k oF [.sl bs]) (fun o=>∃r',o = [r']∧Rd 1000000000 r'):=by
 refine YP.call ?_ (fun r h=>yu _ h)
 unfold oO;simp only[tnA];refine YP.ite (fun hc=>?_) (fun hc=>?_)
 ·have hc:=of_decide_eq_true hc;refine YP.guard (by (simp <;> omega)) (YP.some ⟨_,rfl,_,_,rfl,?_,fun x hx=>hv x (List.mem_of_mem_take hx),by omega,by omega⟩)
  rw[List.length_take];omega
 ·have hc:=of_decide_eq_false hc;exact YP.some ⟨_,rfl,_,_,rfl,by omega,hv,by omega,by omega⟩
def digS (n:Nat):ByteArray:=⟨#[UInt8.ofNat (48+n)]⟩
theorem kind_fin : ∀a b:Fin 10,O6 ((k_S++digS a.val)++digS b.val)=some (a.val,b.val):=by decide +kernel
theorem kind_mk {m k:Nat} (hm:m < 10) (hk:k < 10):O6 ((k_S++digS m)++digS k)=some (m,k):=kind_fin ⟨m,hm⟩ ⟨k,hk⟩
theorem dig_fin : ∀n:Fin 10,(⟨([(T.int (IntKind.wrap .u8 (IntKind.wrap .i64 ((48:Int)+(n.val:Int)))))].map fun c=>UInt8.ofNat c.i.toNat).toArray⟩:ByteArray)=digS n.val:=by decide +kernel
theorem KG {n:Nat} (hn:n < 10):Yields (fun k=>cl env k dE [.int (n:Int)]) [.str (digS n)]:=by
 refine A2 _ ?_;unfold mw;simp only[tnA];refine Yields.ff (decide_eq_false (by omega)) (Yields.ff (decide_eq_false (by omega)) (Yields.tt (decide_eq_true (by omega)) ?_))
 rw[← dig_fin ⟨n,hn⟩];exact Yields.some _
def cW (ks:List T) (s:ByteArray):Bool:=dw s||nQ ks s
theorem zD {ks:List T} {m k:Nat} (hm:m < ks.length) (hk:k < ((T.sl ks).nth m).es.length) (hm':m < 10) (hk':k < 10):cW ks ((k_S++digS m)++digS k)=true:=by
 unfold cW nQ;rw[kind_mk hm' hk'];simp only[lS,decide_eq_true hm,decide_eq_true hk,Bool.and_self,Bool.or_true]
theorem yM:dw k_n=true:=by decide +kernel
theorem base_b:dw k_b=true:=by decide +kernel
theorem base_o:dw k_o=true:=by decide +kernel
theorem py {ks:List T} {s:ByteArray} (h:dw s=true):cW ks s=true:=by unfold cW;rw[h];rfl
theorem dK {ks:List T} {s:ByteArray} (h:cW ks s=true):1≤s.size∧s.size≤3:=by
 unfold cW at h;cases hb:dw s with
 | true=>have:=(sG hb).1;omega
 | false=>
  rw[hb,Bool.false_or] at h;unfold nQ at h;cases hk:O6 s with
  | none=>rw[hk] at h;cases h
  | some p=>obtain ⟨i,j⟩:=p;have:=(ma hk).1;omega
theorem Cf {ks:List T} {s:ByteArray} (h:cW ks s=true):O8 s=false:=by
 obtain ⟨h0,h1,h2⟩:=wb h;unfold O8;rw[beq_eq_false_iff_ne.2 h1,beq_eq_false_iff_ne.2 h2];simp
theorem plain_of {ks:List T} {s:ByteArray} (h:cW ks s=true):ofB s=s:=by unfold ofB;rw[Cf h];rfl
theorem pre_ref {c:UInt8} {s:ByteArray} (hc:c.toNat=38∨c.toNat=33):O8 ((⟨#[c]⟩:ByteArray)++s)=true:=by
 have h1:((⟨#[c]⟩:ByteArray)++s).size=1+s.size:=by rw[ByteArray.size_append];rfl
 have h2:bU ((⟨#[c]⟩:ByteArray)++s) 0=c.toNat:=by
  unfold bU;rw[ByteArray.data_append,Array.getD_eq_getD_getElem?,Array.getElem?_append_left (by simp)]
  rfl
 unfold O8;rw[h1,h2];rcases hc with h | h <;> rw[h,decide_eq_true (show 1+s.size > 0 by omega)] <;> rfl
theorem pre_of {c:UInt8} {s:ByteArray} (hc:c.toNat=38∨c.toNat=33):ofB ((⟨#[c]⟩:ByteArray)++s)=s:=by
 unfold ofB;rw[pre_ref hc];show ((⟨#[c]⟩:ByteArray)++s).extract 1 ((⟨#[c]⟩:ByteArray)++s).size=s
 rw[ByteArray.size_append];have:=ByteArray.extract_append_size_add (a:=(⟨#[c]⟩:ByteArray)) (b:=s) (i:=0) (j:=s.size)
 simp at this
 exact this
def cK (ks:List T) (s:ByteArray):Bool:=cW ks (ofB s)
theorem ck {ks:List T} {s:ByteArray} (h:cW ks s=true):cK ks s=true:=by unfold cK;rw[plain_of h];exact h
theorem wn {ks:List T} {c:UInt8} {s:ByteArray} (hc:c.toNat=38∨c.toNat=33) (h:cW ks s=true):cK ks ((⟨#[c]⟩:ByteArray)++s)=true:=by unfold cK;rw[pre_of hc];exact h
theorem nX {ks:List T} {s:ByteArray} (h:cK ks s=true):1≤s.size∧s.size≤4:=by
 have:=dK (s:=ofB s) h
 unfold ofB at this;cases hr:O8 s with
 | false=>rw[hr] at this;simp only[cond_false] at this;omega
 | true=>rw[hr] at this;simp only[cond_true,ByteArray.size_extract] at this;omega
def Few (ks:List T):Prop:=ks.length≤10∧∀i,i < ks.length→((T.sl ks).nth i).es.length≤10
def TyR (ks:List T) (refs:Bool) (t:T):Prop:=∃s:ByteArray,t = .str s∧cK ks s=true∧(refs=false→cW ks s=true)
theorem rX {ks:List T} {refs:Bool} {q:Nat} {r:T} {s:ByteArray} (h:Rd (q+2) r) (hs:cW ks s=true) :
  YP (fun k=>bif refs then
   obind (cl env k aG [r,.int 4]) fun r7=>
   bif ((rt r7 0).i==(0:Int)) then
   obind (cl env k cB [(rt (r7.drop 1) 0),(T.sl [(T.str cX),(T.str cI)])]) fun r8=>
   bif (decide (((rt r8 0).s).size+s.size≤LIM)) then
   some [(T.str (((rt r8 0).s)++s)),(rt (r8.drop 1) 0)]
   else none
   else some [.str s,(rt (r7.drop 1) 0)]
   else some [.str s,r]) (fun o=>∃x r',o = [x,r']∧Rd q r'∧TyR ks refs x):=by
 refine YP.ite (fun href=>?_) (fun href=>?_)
 ·refine YP.obind (bA (q:=q+1) h) ?_;rintro _ ⟨v,r',rfl,hr,h0,h1,_⟩;simp only[tnA];refine YP.ite (fun hc=>?_) (fun hc=>?_)
  ·refine YP.obind (KF (q:=q) (P:=fun x=>∃c:UInt8,x = .str ⟨#[c]⟩∧(c.toNat=38∨c.toNat=33)) hr ?_ (by simp)) ?_
   ·intro x hx;rcases List.mem_cons.1 hx with rfl | hx
    ·exact ⟨38,rfl,Or.inl rfl⟩
    ·rw[List.mem_singleton.1 hx];exact ⟨33,rfl,Or.inr rfl⟩
   rintro _ ⟨_,r'',rfl,hr,c,rfl,hc⟩;simp only[tnA];have:=dK hs
   refine YP.guard (decide_eq_true ?_) (YP.some ⟨_,r'',rfl,hr,_,rfl,wn hc hs,?_⟩)
   ·show 1+s.size≤LIM
    rw[bD];omega
   ·intro h;rw[href] at h;cases h
  ·exact YP.some ⟨_,r',rfl,hr.less (by omega),_,rfl,ck hs,fun _=>hs⟩
 ·exact YP.some ⟨_,r,rfl,h.less (by omega),_,rfl,ck hs,fun _=>hs⟩
theorem Aw {ks:List T} {refs:Bool} {q:Nat} {r:T} (h:Rd (q+6) r) (hf:Few ks):YP (fun k=>cl env k OW [r,.sl ks,.bool refs]) (fun o=>∃x r',o = [x,r']∧Rd q r'∧TyR ks refs x):=by
 refine YP.call ?_ (fun r h=>xv _ _ _ h)
 unfold nw;simp only[tnA];refine YP.obind (KF (q:=q+5) (P:=fun x=>∃s:ByteArray,x = .str s∧dw s=true) h ?_ (by simp)) ?_
 ·intro x hx;simp only[List.mem_cons,List.not_mem_nil,or_false] at hx;rcases hx with rfl | rfl | rfl | rfl
  ·exact ⟨_,rfl,yM⟩
  ·exact ⟨_,rfl,base_b⟩
  ·exact ⟨_,rfl,base_o⟩
  ·exact ⟨_,rfl,yM⟩
 rintro _ ⟨_,r',rfl,hr,s,rfl,hs⟩;have hs:=py (ks:=ks) hs
 simp only[tnA];refine YP.obind (bA (q:=q+4) hr) ?_;rintro _ ⟨v,r2,rfl,hr,h0,h1,_⟩;simp only[tnA];refine YP.ite (fun hc=>?_) (fun hc=>?_)
 ·refine YP.ite (fun hc=>?_) (fun hc=>?_)
  ·have hc:=of_decide_eq_true hc;refine YP.obind (bA (q:=q+3) hr) ?_;rintro _ ⟨m,r3,rfl,hr,h0,h1,_⟩;simp only[tnA];have h1:=h1 (by omega)
   obtain ⟨m,rfl⟩ : ∃m':Nat,m=(m':Int):=⟨m.toNat,by omega⟩
   have hm:m < ks.length:=by omega
   have hm9:m < 10:=by have:=hf.1;omega
   refine YP.guard (by (simp <;> omega)) ?_
   simp only[tnA];refine YP.ite (fun hc=>?_) (fun hc=>?_)
   ·have hc:=of_decide_eq_true hc;refine YP.obind (YP.of (Q:=fun o=>o=_) (KG hm9) rfl) ?_
    rintro _ rfl;simp only[tnA];refine YP.guard (decide_eq_true (by rw[bD];show 1+1≤_;omega)) (YP.guard (by (simp <;> omega)) ?_)
    refine YP.obind (bA (q:=q+2) hr) ?_;rintro _ ⟨k,r4,rfl,hr,h0,h1,_⟩;simp only[tnA];have h1:=h1 (by omega)
    obtain ⟨k,rfl⟩ : ∃k':Nat,k=(k':Int):=⟨k.toNat,by omega⟩
    have hk:k < ((T.sl ks).nth m).es.length:=by omega
    have hk9:k < 10:=by have:=hf.2 m hm;omega
    refine YP.obind (YP.of (Q:=fun o=>o=_) (KG hk9) rfl) ?_
    rintro _ rfl;simp only[tnA];refine YP.guard (decide_eq_true (by rw[bD];show 2+1≤_;omega)) ?_
    exact rX hr (zD hm hk hm9 hk9)
   ·exact (rX hr hs).mono fun o ⟨x,r',e,h1,h2⟩=>⟨x,r',e,h1.less (by omega),h2⟩
  ·exact (rX hr hs).mono fun o ⟨x,r',e,h1,h2⟩=>⟨x,r',e,h1.less (by omega),h2⟩
 ·exact (rX hr hs).mono fun o ⟨x,r',e,h1,h2⟩=>⟨x,r',e,h1.less (by omega),h2⟩
theorem wo {ks:List T} (hf:Few ks) {refs:Bool} {q n:Nat} (hn:n≤1000) : ∀{i:Nat} {r:T} {xs:List T},Rd (q+6 * i) r→xs.length+i≤n→(∀x∈xs,TyR ks refs x)→
  YP (fun k=>gZ (hl env k dN) (.sl ks) (.bool refs) (.int (i:Int)) r (.sl xs)) (fun o=>∃ys r',o = [.sl ys,r']∧Rd q r'∧ys.length≤n∧∀x∈ys,TyR ks refs x)
 | 0,r,xs,h,hl,hx=>by
  refine YP.call ?_ (fun r h=>pn _ _ _ _ _ h)
  unfold gU;simp only[tnA];refine YP.ff (decide_eq_false (by omega)) ?_
  exact YP.some ⟨_,r,rfl,h.less (by omega),by omega,hx⟩
 | i+1,r,xs,h,hl,hx=>by
  refine YP.call ?_ (fun r h=>pn _ _ _ _ _ h)
  unfold gU;simp only[tnA];refine YP.tt (decide_eq_true (by omega)) ?_
  refine YP.obind (Aw (q:=q+6 * i) (h.less (by omega)) hf) ?_
  rintro _ ⟨x,r',rfl,hr,hx1⟩;simp only[tnA];refine YP.guard (decide_eq_true (by rw[bD];simp;omega)) ?_
  rw[show IntKind.wrap .i64 (((i+1:Nat):Int) - 1)=(i:Int) by rw[bf (by omega) (by omega)];omega]
  refine wo hf hn hr (by simp;omega) ?_
  intro y hy;rcases List.mem_append.1 hy with hy | hy
  ·exact hx y hy
  ·rw[List.mem_singleton.1 hy];exact hx1
theorem jM {ks:List T} (hf:Few ks) {refs:Bool} {q n:Nat} {r:T} (hn:n≤1000) (h:Rd (q+6 * n+1) r):YP (fun k=>cl env k cP [r,.sl ks,.int (n:Int),.bool refs]) (fun o=>∃ys r',o = [.sl ys,r']∧Rd q r'∧ys.length≤n∧∀x∈ys,TyR ks refs x):=by
 refine YP.call ?_ (fun r h=>wD _ _ _ _ h)
 unfold mF;simp only[tnA];rw[show IntKind.wrap .i64 ((n:Int)+1)=(n:Int)+1 from bf (by omega) (by omega)]
 refine YP.obind (bA h) ?_;rintro _ ⟨v,r',rfl,hr,h0,h1,_⟩;simp only[tnA];have h1:=h1 (by omega)
 obtain ⟨v,rfl⟩ : ∃k':Nat,v=(k':Int):=⟨v.toNat,by omega⟩
 exact wo hf hn (hr.less (by omega)) (by simp;omega) (fun x hx=>by cases hx)
def insR (t:T):Bool:=match t with
 | .st [.str s,.int a,.int b]=>decide (s.size≤10)&&(decide (0≤a)&&decide (a≤2000000)&&(decide (0≤b)&&decide (b≤2000000)))
 | _=>false
theorem QW:pY.es.all insR=true:=by kernel_rfl
theorem QX:pY.es.length=37:=by kernel_rfl
def iz (t:T):Prop:=∃(s:ByteArray) (a b:Int),t = .st [.str s,.int a,.int b]∧s.size≤10∧0≤a∧a≤2000000∧0≤b∧b≤2000000
theorem xM {t:T} (h:insR t=true):iz t:=by
 unfold insR at h;split at h
 ·simp only[Bool.and_eq_true,decide_eq_true_eq] at h;exact ⟨_,_,_,rfl,h.1,h.2.1.1,h.2.1.2,h.2.2.1,h.2.2.2⟩
 ·cases h
theorem tab_at {i:Nat} (h:i < pY.es.length):iz (pY.nth i):=by
 rw[tab_sl,bh h];exact xM (List.all_eq_true.1 QW _ (List.getElem_mem h))
theorem ct_ins {q:Nat} {r:T} (h:Rd (q+3) r):YP (fun k=>cl env k fp [r]) (fun o=>∃x r',o = [x,r']∧Rd q r'∧iz x):=by
 refine YP.call ?_ (fun r h=>yx _ h)
 unfold oR;refine YP.obind (YP.of (Q:=fun o=>o=_) QT rfl) ?_
 rintro _ rfl;simp only[tnA];refine YP.obind (bA (q:=q+2) h) ?_;rintro _ ⟨v,r',rfl,hr,h0,h1,_⟩;simp only[tnA];have h1:=h1 (by rw[QX];omega)
 refine YP.guard (by (simp <;> omega)) ?_
 obtain ⟨s,a,b,e,h2,h3,h4,h5,h6⟩:=tab_at (i:=v.toNat) (by omega)
 simp only[e];simp only[tnA];refine YP.ite (fun hc=>?_) (fun hc=>?_)
 ·have hc:=of_decide_eq_true hc;refine YP.obind (bA (q:=q+1) hr) ?_;rintro _ ⟨w,r2,rfl,hr,w0,w1,_⟩;have hw:w≤2000000:=by
   have w2:1≤(bif decide (12 < a) then (12:Int) else a)→w < (bif decide (12 < a) then (12:Int) else a):=w1
   by_cases hd:12 < a
   ·rw[decide_eq_true hd] at w2;have:=w2 (by simp only[cond_true];omega);simp only[cond_true] at this;omega
   ·rw[decide_eq_false hd] at w2;have:=w2 (by simp only[cond_false];omega);simp only[cond_false] at this;omega
  simp only[tnA];refine YP.ite (fun hc=>?_) (fun hc=>?_)
  ·have hc:=of_decide_eq_true hc;refine YP.obind (bA (q:=q) hr) ?_;rintro _ ⟨u,r3,rfl,hr,u0,u1,_⟩;simp only[tnA];have:=u1 (by omega)
   exact YP.some ⟨_,r3,rfl,hr,s,w,u,rfl,h2,w0,hw,u0,by omega⟩
  ·exact YP.some ⟨_,r2,rfl,hr.less (by omega),s,w,b,rfl,h2,w0,hw,h5,h6⟩
 ·refine YP.ite (fun hc=>?_) (fun hc=>?_)
  ·have hc:=of_decide_eq_true hc;refine YP.obind (bA (q:=q+1) hr) ?_;rintro _ ⟨u,r3,rfl,hr,u0,u1,_⟩;simp only[tnA];have:=u1 (by omega)
   exact YP.some ⟨_,r3,rfl,hr.less (by omega),s,a,u,rfl,h2,h3,h4,u0,by omega⟩
  ·exact YP.some ⟨_,r',rfl,hr.less (by omega),s,a,b,rfl,h2,h3,h4,h5,h6⟩
def oI (t:T):Prop:=∃s:ByteArray,t = .str s∧s.size≤9
def hM (n:Nat) (t:T):Prop:=∃(a:Int) (fs:List T),t = .st [.int a,.sl fs]∧-1≤a∧a≤16∧fs.length≤n∧∀x∈fs,oI x
theorem AR {ks:List T} {refs:Bool} {t:T} (h:TyR ks refs t):oI t:=by
 obtain ⟨s,rfl,h,_⟩:=h;exact ⟨s,rfl,by have:=nX h;omega⟩
theorem ud {ks:List T} (hf:Few ks) {q:Nat} {z:T} : ∀{i:Nat},i≤3→(∀{r x:T},Rd (q+6 * i+4) r→hM (3 - i) x→
  YP (fun k=>jV (hl env k ci) (.sl ks) (.int (i:Int)) r z x) (fun o=>∃y r',o = [y,r']∧Rd q r'∧hM 4 y))∧(∀{r x:T},Rd (q+6 * i+4) r→hM (3 - i) x→
  YP (fun k=>gB (hl env k ci) (.sl ks) (.int (i:Int)) r z x) (fun o=>∃y r',o = [y,r']∧Rd q r'∧hM 4 y))
 | 0,hi=>by
  constructor
  all_goals
   rintro r x h ⟨a,fs,rfl,ha,ha',hl,hx⟩
   first | refine YP.call ?_ (fun r h=>ou _ _ _ _ _ h) | refine YP.call ?_ (fun r h=>Ix _ _ _ _ _ h)
   first | unfold gn | unfold gp gn
   simp only[tnA];refine YP.ff (decide_eq_false (by omega)) ?_
   refine YP.obind (bA (q:=q+3) (h.less (by omega))) ?_
   rintro _ ⟨v,r',rfl,hr,h0,h1,_⟩;simp only[tnA];have odd : ∀x∈[(T.str k_x),(T.str (⟨#[]⟩:ByteArray)),(T.str vS),(T.str sZ),(T.str k_S)],oI x:=by
    intro x hx;simp only[List.mem_cons,List.not_mem_nil,or_false] at hx;rcases hx with rfl | rfl | rfl | rfl | rfl <;> exact ⟨_,rfl,by decide⟩
   refine YP.ite (fun hc=>?_) (fun hc=>?_)
   ·refine YP.obind (vk (q:=q+2) (P:=fun x=>∃n:Int,x = .int n∧-1≤n∧n≤16) hr ?_ (by simp)) ?_
    ·intro x hx;simp only[List.mem_cons,List.not_mem_nil,or_false] at hx;rcases hx with rfl | rfl | rfl | rfl <;> exact ⟨_,rfl,by decide,by decide⟩
    rintro _ ⟨_,r2,rfl,hr,n,rfl,n0,n1⟩;simp only[tnA];refine YP.obind (bA (q:=q+1) hr) ?_;rintro _ ⟨v,r3,rfl,hr,h0,h1,_⟩;simp only[tnA];refine YP.ite (fun hc=>?_) (fun hc=>?_)
    ·refine YP.obind (KF (q:=q) (P:=oI) hr odd (by simp)) ?_
     rintro _ ⟨y,r4,rfl,hr,hy⟩;simp only[tnA];refine YP.guard (decide_eq_true (by rw[bD];simp;omega)) (YP.some ⟨_,r4,rfl,hr,n,_,rfl,n0,n1,by simp;omega,?_⟩)
     intro z hz;rcases List.mem_append.1 hz with hz | hz
     ·exact hx z hz
     ·rw[List.mem_singleton.1 hz];exact hy
    ·exact YP.some ⟨_,r3,rfl,hr.less (by omega),n,_,rfl,n0,n1,by omega,hx⟩
   ·refine YP.obind (bA (q:=q+1) (hr.less (by omega))) ?_
    rintro _ ⟨v,r3,rfl,hr,h0,h1,_⟩;simp only[tnA];refine YP.ite (fun hc=>?_) (fun hc=>?_)
    ·refine YP.obind (KF (q:=q) (P:=oI) hr odd (by simp)) ?_
     rintro _ ⟨y,r4,rfl,hr,hy⟩;simp only[tnA];refine YP.guard (decide_eq_true (by rw[bD];simp;omega)) (YP.some ⟨_,r4,rfl,hr,a,_,rfl,ha,ha',by simp;omega,?_⟩)
     intro z hz;rcases List.mem_append.1 hz with hz | hz
     ·exact hx z hz
     ·rw[List.mem_singleton.1 hz];exact hy
    ·exact YP.some ⟨_,r3,rfl,hr.less (by omega),a,_,rfl,ha,ha',by omega,hx⟩
 | i+1,hi=>by
  have ih:=ud hf (q:=q) (z:=z) (i:=i) (by omega)
  constructor
  all_goals
   rintro r x h ⟨a,fs,rfl,ha,ha',hl,hx⟩
   first | refine YP.call ?_ (fun r h=>ou _ _ _ _ _ h) | refine YP.call ?_ (fun r h=>Ix _ _ _ _ _ h)
   first | unfold gn | unfold gp gn
   simp only[tnA];refine YP.tt (decide_eq_true (by omega)) ?_
   refine YP.obind (Aw (q:=q+6 * i+4) (h.less (by omega)) hf) ?_
   rintro _ ⟨y,r',rfl,hr,hy⟩;simp only[tnA];refine YP.guard (decide_eq_true (by rw[bD];simp;omega)) ?_
   rw[show IntKind.wrap .i64 (((i+1:Nat):Int) - 1)=(i:Int) by rw[bf (by omega) (by omega)];omega]
   refine ih.2 hr ⟨a,_,rfl,ha,ha',by simp;omega,?_⟩
   intro z hz;rcases List.mem_append.1 hz with hz | hz
   ·exact hx z hz
   ·rw[List.mem_singleton.1 hz];exact AR hy
theorem xJ {ks:List T} (hf:Few ks) {q:Nat} {r:T} (h:Rd (q+24) r):YP (fun k=>cl env k ix [r,.sl ks]) (fun o=>∃y r',o = [y,r']∧Rd q r'∧hM 4 y):=by
 refine YP.call ?_ (fun r h=>uZ _ _ h)
 unfold lL;refine YP.obind (vk (q:=q+23) (P:=fun x=>∃n:Int,x = .int n∧-1≤n∧n≤16) h ?_ (by simp)) ?_
 ·intro x hx;simp only[List.mem_cons,List.not_mem_nil,or_false] at hx;rcases hx with rfl | rfl | rfl | rfl | rfl | rfl | rfl | rfl | rfl | rfl <;> exact ⟨_,rfl,by decide,by decide⟩
 rintro _ ⟨_,r2,rfl,hr,n,rfl,n0,n1⟩;simp only[tnA];refine YP.obind (bA (q:=q+22) hr) ?_;rintro _ ⟨v,r',rfl,hr,h0,h1,_⟩;simp only[tnA];have h1:=h1 (by omega)
 obtain ⟨v,rfl⟩ : ∃k':Nat,v=(k':Int):=⟨v.toNat,by omega⟩
 exact (ud hf (by omega)).1 (hr.less (by omega)) ⟨n,[],rfl,n0,n1,by simp,fun x hx=>by cases hx⟩
def pP (ks:List T) (m k:Nat):Prop:=∃(a:Int) (fs:List T),((T.sl ks).nth m).nth k = .st [.int a,.sl fs]∧0≤a∧a≤15∧fs.length≤3∧∀x∈fs,∃s:ByteArray,x = .str s∧eV ks m k s=true
def ModV (ks:List T) (m:Nat):Prop:=((T.sl ks).nth m).es.length≤3∧∀k,k < ((T.sl ks).nth m).es.length→pP ks m k
def KOk (ks:List T):Prop:=ks.length≤3∧∀m,m < ks.length→ModV ks m
def vc (ks:List T):Prop:=ks.length≤1000∧∀m,m < ks.length→((T.sl ks).nth m).es.length≤1000∧∀k,k < ((T.sl ks).nth m).es.length→hM 4 (((T.sl ks).nth m).nth k)
theorem yX {ks:List T} {m k:Nat} (h1 : ∀i,i < m→i < ks.length→ModV ks i) (h2 : ∀j,j < k→pP ks m j):v8 ks m k:=by
 intro i j hij hi hj;rcases hij with h | ⟨rfl,h⟩
 ·obtain ⟨a,fs,e,h0,h3,_⟩:=(h1 i h hi).2 j hj;exact ⟨a,by rw[e];rfl,h0,h3⟩
 ·obtain ⟨a,fs,e,h0,h3,_⟩:=h2 j h;exact ⟨a,by rw[e];rfl,h0,h3⟩
theorem vi {a:Int} {p:Int} (ha:0≤a∧a≤15) (hp:p=1∨p=2∨p=4∨p=8):YP (fun k=>cl env k bH [.int a,.int p]) (fun o=>∃b:Bool,o = [.bool b]):=YP.of (JV a p ha hp) ⟨_,rfl⟩
theorem zM {ks:List T} {m k:Nat} (he:v8 ks m k) {a:Int} {fs:List T} (ha:0≤a∧a≤15) (hlen:fs.length≤1000) (hs : ∀x∈fs,oI x) : ∀{d i:Nat},i+d=fs.length→(∀j,j < i→∃s:ByteArray,(T.sl fs).nth j = .str s∧eV ks m k s=true)→
  YP (fun r=>bQ (hl env r bV) (.sl ks) (.int (m:Int)) (.int (k:Int)) (.int (i:Int)) (.st [.int a,.sl fs])) (fun o=>∃b:Bool,o = [.bool b]∧(b=true→∀x∈fs,∃s:ByteArray,x = .str s∧eV ks m k s=true))
 | 0,i,hd,hb=>by
  refine YP.call ?_ (fun r h=>pg _ _ _ _ _ h)
  unfold ft;simp only[tnA];refine YP.ff (decide_eq_false (by omega)) ?_
  refine YP.some ⟨true,rfl,fun _ x hx=>?_⟩
  obtain ⟨j,hj,rfl⟩:=List.getElem_of_mem hx;have:=hb j (by omega)
  rw[bh hj] at this;exact this
 | d+1,i,hd,hb=>by
  refine YP.call ?_ (fun r h=>pg _ _ _ _ _ h)
  unfold ft;have hi:i < fs.length:=by omega
  simp only[tnA];refine YP.tt (decide_eq_true (by omega)) (YP.guard (by (simp <;> omega)) ?_)
  obtain ⟨s,e,_⟩:=hs _ (List.getElem_mem hi);have e':(T.sl fs).nth i = .str s:=by rw[← e];exact bh hi
  simp only[e'];have no : ∀x,x = [T.bool false]→∃b:Bool,x = [.bool b]∧(b=true→∀x∈fs,∃s:ByteArray,x = .str s∧eV ks m k s=true):=fun x hx=>⟨false,hx,fun h=>by cases h⟩
  refine YP.obind (YP.of (Q:=fun o=>o=_) (Nq ks m k s) rfl) ?_
  rintro _ rfl;simp only[tnA];refine YP.ite (fun hc=>YP.some (no _ rfl)) (fun hc=>?_)
  have hf:eV ks m k s=true:=by
   cases h:eV ks m k s with
   | true=>rfl
   | false=>rw[h] at hc;cases hc
  have loop:=zM he ha hlen hs (d:=d) (i:=i+1) (by omega) (by
   intro j hj;by_cases hji:j=i
   ·subst hji;exact ⟨s,by rw[bh hi];exact e,hf⟩
   ·exact hb j (by omega))
  rw[show (((i+1:Nat):Int))=IntKind.wrap .i64 ((i:Int)+1) by rw[bf (by omega) (by omega)];rfl] at loop
  refine YP.obind (YP.of (Q:=fun o=>o=_) (Lw ks s (o7 hf)) rfl) ?_
  rintro _ rfl;obtain ⟨f,ef,f0,f1⟩:=Be he hf;simp only[ef];repeat' first
   | exact YP.some (no _ rfl)
   | exact loop
   | (refine YP.obind (vi (by first | exact ha | exact ⟨f0,f1⟩) (by simp)) ?_;rintro _ ⟨_,rfl⟩;simp only[tnA])
   | refine YP.ite (fun hc=>?_) (fun hc=>?_)
theorem A7 {ks:List T} {m k:Nat} (hf:vc ks) (hm:m < ks.length) (hk:k < ((T.sl ks).nth m).es.length) (he:v8 ks m k) :
  YP (fun r=>cl env r mh [.sl ks,.int (m:Int),.int (k:Int)]) (fun o=>∃b:Bool,o = [.bool b]∧(b=true→pP ks m k)):=by
 refine YP.call ?_ (fun r h=>wv _ _ _ h)
 unfold ju;simp only[tnA];obtain ⟨a,fs,e,h1,h2,h3,h4⟩:=(hf.2 m hm).2 k hk;simp only[e];refine YP.guard (by (simp <;> omega)) (YP.guard (by (simp <;> omega)) ?_)
 refine YP.obind (YP.of (Q:=fun o=>o=_) (Vo a 0 15) rfl) ?_
 rintro _ rfl;simp only[tnA];have no : ∀x,x = [T.bool false]→∃b:Bool,x = [.bool b]∧(b=true→pP ks m k):=fun x hx=>⟨false,hx,fun h=>by cases h⟩
 refine YP.ite (fun hc=>YP.some (no _ rfl)) (fun hc=>?_)
 have ha:0≤a∧a≤15:=by
  cases h:(decide (a≥0)&&decide (a≤15)) with
  | true=>simpa only[Bool.and_eq_true,decide_eq_true_eq] using h
  | false=>rw[h] at hc;cases hc
 refine YP.ite (fun hc=>YP.some (no _ rfl)) (fun hc=>?_)
 have hc:=of_decide_eq_false hc;refine (zM he ha (by omega) h4 (d:=fs.length) (i:=0) (by omega) (fun j hj=>by omega)).mono ?_
 rintro o ⟨b,rfl,hb⟩
 exact ⟨b,rfl,fun h=>⟨a,fs,e,ha.1,ha.2,by omega,hb h⟩⟩
def BadR (ks:List T) (o:List T):Prop:=∃p q:Int,o = [.int p,.int q]∧(p < 0→∀m,m < ks.length→ModV ks m)
theorem xE {ks:List T} (hf:vc ks) {m:Nat} (hm:m < ks.length) (h1 : ∀i,i < m→ModV ks i) (h2:((T.sl ks).nth m).es.length≤3)
  (next:ModV ks m→YP (fun r=>fw (hl env r bw) (.sl ks) (.int ((m+1:Nat):Int))) (BadR ks)) :
  ∀{e k:Nat},k+e=((T.sl ks).nth m).es.length→(∀j,j < k→pP ks m j)→YP (fun r=>gX (hl env r bw) (.sl ks) (.int (m:Int)) (.int (k:Int))) (BadR ks)
 | 0,k,he,hk=>by
  have:=hf.1
  refine YP.call ?_ (fun r h=>pf _ _ _ h)
  unfold gO;simp only[tnA];refine YP.guard (by (simp <;> omega)) (YP.ff (decide_eq_false (by omega)) ?_)
  rw[show IntKind.wrap .i64 ((m:Int)+1)=((m+1:Nat):Int) by rw[bf (by omega) (by omega)];rfl]
  exact next ⟨h2,fun j hj=>hk j (by omega)⟩
 | e+1,k,he,hk=>by
  refine YP.call ?_ (fun r h=>pf _ _ _ h)
  unfold gO;simp only[tnA];refine YP.guard (by (simp <;> omega)) (YP.tt (decide_eq_true (by omega)) ?_)
  refine YP.obind (A7 hf hm (by omega) (yX (fun i hi _=>h1 i hi) hk)) ?_
  rintro _ ⟨b,rfl,hb⟩;simp only[tnA];refine YP.ite (fun hc=>YP.some ⟨_,_,rfl,fun h=>by omega⟩) (fun hc=>?_)
  have hb:pP ks m k:=hb (by cases b with | true=>rfl | false=>cases hc)
  rw[show IntKind.wrap .i64 ((k:Int)+1)=((k+1:Nat):Int) by rw[bf (by omega) (by omega)];rfl]
  refine xE hf hm h1 h2 next (e:=e) (by omega) (fun j hj=>?_)
  by_cases hjk:j=k
  ·rw[hjk];exact hb
  ·exact hk j (by omega)
theorem xF {ks:List T} (hf:vc ks) : ∀{d m:Nat},m+d=ks.length→(∀i,i < m→ModV ks i)→YP (fun r=>fw (hl env r bw) (.sl ks) (.int (m:Int))) (BadR ks)
 | 0,m,hd,h1=>by
  refine YP.call ?_ (fun r h=>pc _ _ h)
  unfold gN;simp only[tnA];refine YP.ff (decide_eq_false (by omega)) (YP.some ⟨_,_,rfl,fun _ i hi=>h1 i (by omega)⟩)
 | d+1,m,hd,h1=>by
  refine YP.call ?_ (fun r h=>pc _ _ h)
  unfold gN;simp only[tnA];refine YP.tt (decide_eq_true (by omega)) (YP.guard (by (simp <;> omega)) ?_)
  refine YP.ite (fun hc=>YP.some ⟨_,_,rfl,fun h=>by omega⟩) (fun hc=>?_)
  have hc:=of_decide_eq_false hc;refine xE hf (by omega) h1 (by omega) (fun hmod=>?_) (e:=((T.sl ks).nth m).es.length) (k:=0) (by omega) (fun j hj=>by omega)
  refine xF hf (d:=d) (by omega) (fun i hi=>?_)
  by_cases him:i=m
  ·rw[him];exact hmod
  ·exact h1 i (by omega)
theorem B0 {ks:List T} (hf:vc ks):YP (fun r=>cl env r na [.sl ks]) (fun o=>∃b:Bool,o = [.bool b]∧(b=true→KOk ks)):=by
 refine YP.call ?_ (fun r h=>xk _ h)
 unfold ni;refine YP.obind (Q1:=fun o=>∃p q:Int,o = [.int p,.int q]∧(p < 0→KOk ks)) ?_ ?_
 ·refine YP.call ?_ (fun r h=>wu _ h)
  unfold mt;simp only[tnA];refine YP.ite (fun hc=>YP.some ⟨_,_,rfl,fun h=>by omega⟩) (fun hc=>?_)
  have hc:=of_decide_eq_false hc;refine (xF hf (d:=ks.length) (m:=0) (by omega) (fun i hi=>by omega)).mono ?_
  rintro o ⟨p,q,rfl,h⟩
  exact ⟨p,q,rfl,fun hp=>⟨by omega,h hp⟩⟩
 rintro _ ⟨p,q,rfl,h⟩;simp only[tnA];exact YP.some ⟨_,rfl,fun hp=>h (of_decide_eq_true hp)⟩
def po (o:List T):Prop:=∃b:Bool,o = [.bool b]
theorem cF {i:Nat} (h:i≤1000000):T.int (IntKind.wrap .i64 ((i:Int)+1))=T.int ((i+1:Nat):Int):=by rw[bf (by omega) (by omega)];rfl
theorem AG {xs:List T} {n:Int} (hlen:xs.length≤1000000) : ∀{d i:Nat},i+d=xs.length→YP (fun k=>lj (hl env k fQ) (.sl xs) (.int n) (.int (i:Int))) po
 | 0,i,hd=>by
  refine YP.call ?_ (fun r h=>sf _ _ _ h)
  unfold kY;simp only[tnA];exact YP.ff (decide_eq_false (by omega)) (YP.some ⟨_,rfl⟩)
 | d+1,i,hd=>by
  refine YP.call ?_ (fun r h=>sf _ _ _ h)
  unfold kY;simp only[tnA];refine YP.tt (decide_eq_true (by omega)) (YP.guard (by (simp <;> omega)) (YP.ite (fun hc=>YP.some ⟨_,rfl⟩) (fun hc=>?_)))
  rw[cF (by omega)]
  exact AG hlen (d:=d) (by omega)
theorem vj {xs:List T} {n:Int} (hlen:xs.length≤1000000):YP (fun k=>cl env k dY [.sl xs,.int n]) po:=by
 refine YP.call ?_ (fun r h=>Aj _ _ h)
 unfold qR;exact AG hlen (d:=xs.length) (i:=0) (by omega)
def Rk (is:List T):Prop:=∀x∈is,∃n:Nat,x = .int (n:Int)∧n≤3000000
def MkP (ks:List T) (x:T):Prop:=∃(s:ByteArray) (is:List T),x = .st [.str s,.sl is]∧Rk is∧is.length≤1000∧(s.size=0∨cK ks s=true)
def MkS (ks:List T) (x:T):Prop:=∃(s:ByteArray) (is:List T),x = .st [.str s,.sl is]∧Rk is∧is.length≤1000∧cK ks s=true
theorem MkS.p {ks:List T} {x:T} (h:MkS ks x):MkP ks x:=by obtain ⟨s,is,e,h1,h2,h3⟩:=h;exact ⟨s,is,e,h1,h2,Or.inr h3⟩
theorem bu:cz []:=by intro x hx;cases hx
theorem dc (n:Int):cz [.int n]:=fun x hx=>⟨n,List.mem_singleton.1 hx⟩
theorem R8:Rk []:=by intro x hx;cases hx
theorem Rn {n:Int} (h0:0≤n) (h1:n≤3000000):Rk [.int n]:=fun x hx=>⟨n.toNat,by rw[List.mem_singleton.1 hx,Int.toNat_of_nonneg h0],by omega⟩
theorem rO {ks:List T} : MkP ks (.st [.str ⟨#[]⟩,.sl []]):=⟨⟨#[]⟩,[],rfl,R8,by simp,Or.inl rfl⟩
theorem xO {ks xs:List T} {n:Int} {w:Bool} (hlen:xs.length≤1000000) (hx : ∀x∈xs,MkP ks x) : ∀{d i:Nat},i+d=xs.length→YP (fun k=>fj (hl env k eO) (.sl xs) (.int n) (.bool w) (.int (i:Int))) po
 | 0,i,hd=>by
  refine YP.call ?_ (fun r h=>qK _ _ _ _ h)
  unfold jv;simp only[tnA];exact YP.ff (decide_eq_false (by omega)) (YP.some ⟨_,rfl⟩)
 | d+1,i,hd=>by
  refine YP.call ?_ (fun r h=>qK _ _ _ _ h)
  unfold jv;have hi:i < xs.length:=by omega
  obtain ⟨s,is,e,h1,h2,h3⟩:=hx _ (List.getElem_mem hi);rw[← bh hi] at e;simp only[tnA];simp only[e];simp only[tnA];have loop:=xO (n:=n) (w:=w) hlen hx (d:=d) (i:=i+1) (by omega)
  rw[← cF (by omega)] at loop
  refine YP.tt (decide_eq_true (by omega)) (YP.guard (by (simp <;> omega)) ?_)
  refine YP.obind (YP.of (Q:=fun o=>o=_) (lk s) rfl) ?_
  rintro _ rfl;simp only[tnA];refine YP.ite (fun hr=>?_) (fun hr=>loop)
  refine YP.guard (by (simp <;> omega)) ?_
  refine YP.obind (vj (by omega)) ?_
  rintro _ ⟨b,rfl⟩;simp only[tnA];refine YP.ite (fun hb=>?_) (fun hb=>loop)
  refine YP.ite (fun hb=>YP.some ⟨_,rfl⟩) (fun hb=>?_)
  have:=rW hr
  refine YP.guard (by (simp <;> omega)) (YP.guard (by (simp <;> omega)) ?_)
  exact YP.ite (fun hb=>YP.some ⟨_,rfl⟩) (fun hb=>loop)
theorem rD {ks xs:List T} {n:Int} {w:Bool} (hlen:xs.length≤1000000) (hx : ∀x∈xs,MkP ks x):YP (fun k=>cl env k gb [.sl xs,.int n,.bool w]) po:=by
 refine YP.call ?_ (fun r h=>yt _ _ _ h)
 unfold oN;exact xO hlen hx (d:=xs.length) (i:=0) (by omega)
theorem ct_lent {ks xs ys:List T} {n:Int} (hlen:xs.length≤1000000) (hx : ∀x∈xs,MkP ks x) (hlen2:ys.length≤1000000) (hy : ∀x∈ys,MkP ks x):YP (fun k=>cl env k cr [.st [.sl xs,.sl ys],.int n]) po:=by
 refine YP.call ?_ (fun r h=>uO _ _ h)
 unfold lz;simp only[tnA];refine YP.obind (rD hlen hx) ?_;rintro _ ⟨b,rfl⟩;simp only[tnA];refine YP.ite (fun hb=>YP.some ⟨_,rfl⟩) (fun hb=>?_)
 refine YP.obind (rD hlen2 hy) ?_;rintro _ ⟨b,rfl⟩;exact YP.some ⟨_,rfl⟩
theorem B2 {ks xs ys:List T} {n:Int} (hlen:xs.length≤1000000) (hx : ∀x∈xs,MkP ks x) (hlen2:ys.length≤1000000) (hy : ∀x∈ys,MkP ks x):YP (fun k=>cl env k O1 [.st [.sl xs,.sl ys],.int n]) po:=by
 refine YP.call ?_ (fun r h=>su _ _ h)
 unfold jk;simp only[tnA];refine YP.obind (rD hlen hx) ?_;rintro _ ⟨b,rfl⟩;simp only[tnA];refine YP.ite (fun hb=>YP.some ⟨_,rfl⟩) (fun hb=>?_)
 refine YP.obind (rD hlen2 hy) ?_;rintro _ ⟨b,rfl⟩;exact YP.some ⟨_,rfl⟩
def NumsR (o:List T):Prop:=∃ys:List T,o = [.sl ys]∧Rk ys∧ys.length≤10
theorem NL {xs ys:List T} (hx:xs.length≤1000000) (hy:ys.length≤1000000) : ∀{d i:Nat} {zs:List T},i+d=10→Rk zs→zs.length≤i→YP (fun k=>eQ (hl env k er) (.sl xs) (.sl ys) (.int (i:Int)) (.sl zs)) NumsR
 | 0,i,zs,hd,hz,hn=>by
  refine YP.call ?_ (fun r h=>qn _ _ _ _ h)
  unfold iH;simp only[tnA];exact YP.ff (decide_eq_false (by omega)) (YP.some ⟨_,rfl,hz,by omega⟩)
 | d+1,i,zs,hd,hz,hn=>by
  refine YP.call ?_ (fun r h=>qn _ _ _ _ h)
  unfold iH;simp only[tnA];have l1:=NL hx hy (d:=d) (i:=i+1) (zs:=zs) (by omega) hz (by omega)
  have l2:=NL hx hy (d:=d) (i:=i+1) (zs:=zs ++ [.int (i:Int)]) (by omega) (fun x hx=>by
   rcases List.mem_append.1 hx with hx | hx
   ·exact hz x hx
   ·exact ⟨i,List.mem_singleton.1 hx,by omega⟩) (by simp;omega)
  rw[← cF (by omega)] at l1 l2
  refine YP.tt (decide_eq_true (by omega)) ?_
  refine YP.obind (vj hx) ?_;rintro _ ⟨b,rfl⟩;simp only[tnA];refine YP.ite (fun hb=>YP.guard (decide_eq_true (by rw[bD];simp;omega)) l2) (fun hb=>?_)
  refine YP.obind (vj hy) ?_;rintro _ ⟨b,rfl⟩;simp only[tnA];exact YP.ite (fun hb=>YP.guard (decide_eq_true (by rw[bD];simp;omega)) l2) (fun hb=>l1)
theorem ct_union {xs ys:List T} (hx:xs.length≤1000000) (hy:ys.length≤1000000):YP (fun k=>cl env k ne [.sl xs,.sl ys]) NumsR:=by
 refine YP.call ?_ (fun r h=>xt _ _ h)
 unfold nt;exact NL hx hy (d:=10) (i:=0) (by omega) (fun x hx=>by cases hx) (by simp)
theorem mcopy_s {x:T} {ks:List T} (h:MkP ks x):Yields (fun k=>cl env k oE [x]) [x]:=by
 obtain ⟨s,is,rfl,h1,h2,h3⟩:=h;refine yr _ ?_;unfold oM;simp only[tnA];exact Yields.tt (decide_eq_true (by rw[bD];simp;omega)) (Yields.some _)
theorem w5 {ks xs:List T} (hlen:xs.length≤1000000) (hx : ∀x∈xs,MkP ks x) : ∀{d i:Nat},i+d=xs.length→Yields (fun k=>iV (hl env k eo) (.sl xs) (.int (i:Int)) (.sl (xs.take i))) [.sl xs]
 | 0,i,hd=>by
  refine ql _ _ _ ?_;unfold iF;simp only[tnA];rw[List.take_of_length_le (by omega)]
  exact Yields.ff (decide_eq_false (by omega)) (Yields.some _)
 | d+1,i,hd=>by
  refine ql _ _ _ ?_;unfold iF;have hi:i < xs.length:=by omega
  have hm:=hx _ (List.getElem_mem hi);simp only[tnA];rw[bh hi];refine Yields.tt (decide_eq_true (by omega)) (Yields.tt (by (simp <;> omega)) (Yields.obind (mcopy_s hm) ?_))
  have e2:T.st [xs[i].fld 0,xs[i].fld 1]=xs[i]:=by obtain ⟨s,is,e,_⟩:=hm;rw[e];rfl
  simp only[tnA];rw[e2,cF (by omega),← List.take_succ_eq_append_getElem hi]
  exact Yields.tt (decide_eq_true (by rw[bD];simp;omega)) (w5 hlen hx (d:=d) (i:=i+1) (by omega))
theorem AJ {ks xs:List T} (hlen:xs.length≤1000000) (hx : ∀x∈xs,MkP ks x):Yields (fun k=>cl env k ki [.sl xs]) [.sl xs]:=by
 refine xp _ ?_;unfold nm;exact w5 hlen hx (d:=xs.length) (i:=0) (by omega)
theorem QV {ks xs ys:List T} (hlen:xs.length≤1000000) (hx : ∀x∈xs,MkP ks x) (hlen2:ys.length≤1000000) (hy : ∀x∈ys,MkP ks x):Yields (fun k=>cl env k nd [.st [.sl xs,.sl ys]]) [.st [.sl xs,.sl ys]]:=by
 refine xq _ ?_;unfold nq;simp only[tnA];refine Yields.obind (AJ hlen hx) (Yields.obind (AJ hlen2 hy) ?_);exact Yields.some _
structure Cx where
 sh:List T
 ks:List T
 m:Nat
 f:T
 np:Nat
def dL (ks xs:List T):Prop:=∀x∈xs,∃s:ByteArray,x = .str s∧cK ks s=true
def FnV (ks:List T) (g:T):Prop:=∃(n:Int) (ags rs ls tk cd:List T),g = .st [.int n,.sl ags,.sl rs,.sl ls,.sl tk,.sl cd]∧ags.length≤10∧rs.length≤10∧ls.length≤10∧tk.length≤10∧cd.length≤1000∧
 dL ks ags∧dL ks rs∧dL ks ls∧cz tk∧(∀x∈cd,iz x)
def oH (ks:List T) (x:T):Prop:=∃(rs fs fr:List T),x = .st [.sl rs,.sl fs,.sl fr]∧fs.length≤1000∧fr.length≤1000∧cz fr∧∀g∈fs,FnV ks g
structure co (c:Cx):Prop where
 k:KOk c.ks
 m:c.m < c.ks.length
 f:FnV c.ks c.f
 np : ∃(n:Int) (ags rs ls tk cd:List T),c.f = .st [.int n,.sl ags,.sl rs,.sl ls,.sl tk,.sl cd]∧c.np=ags.length+ls.length
 sh:c.sh.length≤1000∧∀x∈c.sh,oH c.ks x
def At (c:Cx) (q:Nat) (G:Prop) (a:T):Prop:=∃(st pl:List T) (code:Int),a = .st [.sl c.sh,.sl c.ks,.int (c.m:Int),c.f,.st [.sl st,.sl pl],.int code]∧(code=0→G)∧st.length+q≤1000000∧pl.length=c.np∧
 (∀x∈st,MkS c.ks x)∧(∀x∈pl,MkP c.ks x)
theorem At.mono {c:Cx} {q q':Nat} {G G':Prop} {a:T} (h:At c q G a) (hq:q'≤q) (hg:G→G'):At c q' G' a:=by
 obtain ⟨st,pl,code,e,h1,h2,h3⟩:=h;exact ⟨st,pl,code,e,fun h=>hg (h1 h),by omega,h3⟩
theorem At.zero {c:Cx} {q:Nat} {G:Prop} {a:T} (h:At c q G a) (hz:((a.fld 5).i==(0:Int))=true):G:=by
 obtain ⟨st,pl,code,rfl,h1,_⟩:=h;exact h1 (eq_of_beq hz)
theorem At.good {c:Cx} {q:Nat} {G:Prop} {a:T} (h:At c q G a) (hz:((a.fld 5).i != (0:Int))=false):G:=by
 obtain ⟨st,pl,code,rfl,h1,_⟩:=h;exact h1 (by simpa[ti,aj] using hz)
def AtR (c:Cx) (q:Nat) (G:Prop) (o:List T):Prop:=∃a':T,o = [a']∧At c q G a'
theorem ia {c:Cx} {q:Nat} {G:Prop} {a:T} {n:Int} (h:At c q G a) (hn:n≠0):YP (fun k=>cl env k cw [a,.int n]) (AtR c q False):=by
 obtain ⟨st,pl,code,rfl,h1,h2⟩:=h;refine YP.call ?_ (fun r h=>uU _ _ h)
 unfold lG;simp only[tnA];refine YP.ite (fun hc=>YP.some ⟨_,rfl,st,pl,n,rfl,hn,h2⟩) (fun hc=>YP.some ⟨_,rfl,st,pl,code,rfl,fun h=>?_,h2⟩)
 rw[h] at hc;cases hc
theorem bz {c:Cx} {q:Nat} {G:Prop} {a:T} {n:Int} {b:Bool} (h:At c q G a) (hn:n≠0):YP (fun k=>cl env k aM [a,.bool b,.int n]) (AtR c q (G∧b=true)):=by
 refine YP.call ?_ (fun r h=>qm _ _ _ h)
 unfold iG;simp only[tnA];refine YP.ite (fun hc=>?_) (fun hc=>?_)
 ·refine YP.obind (ia h hn) ?_;rintro _ ⟨a',rfl,ha⟩;exact YP.some ⟨a',rfl,ha.mono (Nat.le_refl _) False.elim⟩
 ·refine YP.some ⟨a,rfl,h.mono (Nat.le_refl _) fun g=>⟨g,?_⟩⟩
  cases b with
  | true=>rfl
  | false=>cases hc
theorem C4 {ks:List T} (h:KOk ks):v8 ks ks.length 0:=yX (fun i hi _=>h.2 i hi) (fun j hj=>by omega)
theorem sJ {ks:List T} {s:ByteArray} (hk:KOk ks) (h:cK ks s=true):YP (fun k=>cl env k eD [.sl ks,.str s]) (fun o=>∃f:Int,o = [.int f]∧0≤f∧f≤15):=by
 cases hr:O8 s with
 | false=>
  have hp:(dw s||nQ ks s)=true:=by
   unfold cK ofB at h;rw[hr] at h;exact h
  refine YP.of (Lw ks s hp) ?_;obtain ⟨f,e,h0,h1⟩ : ∃f:Int,tA ks s = .int f∧0≤f∧f≤15:=by
   unfold tA;cases hk2:O6 s with
   | none=>exact ⟨7,rfl,by omega,by omega⟩
   | some x=>
    obtain ⟨i,j⟩:=x;have hb:dw s=false:=by
     cases hb:dw s with
     | false=>rfl
     | true=>rw[sF hb] at hk2;cases hk2
    rw[hb,Bool.false_or] at hp;unfold nQ at hp;rw[hk2] at hp;obtain ⟨g1,g2⟩:=rk hp;exact C4 hk i j (Or.inl g1) g1 g2
  exact ⟨f,by rw[e],h0,h1⟩
 | true=>
  have:=rW hr
  refine YP.call ?_ (fun r h=>se _ _ h)
  unfold kX;simp only[tnA];refine YP.obind (YP.of (Q:=fun o=>o=_) (lk s) rfl) ?_
  rintro _ rfl;simp only[tnA];refine YP.tt hr (YP.guard (by (simp <;> omega)) ?_)
  refine YP.ite (fun hc=>YP.some ⟨3,rfl,by omega,by omega⟩) (fun hc=>?_)
  refine YP.obind (YP.of (Q:=fun o=>o=_) (lk s) rfl) ?_
  rintro _ rfl;simp only[tnA];exact YP.tt hr (YP.some ⟨2,rfl,by omega,by omega⟩)
theorem dx {c:Cx} {q:Nat} {G:Prop} {a:T} {s:ByteArray} {p:Int} (hc:co c) (h:At c q G a) (hs:cK c.ks s=true) (hp:p=1∨p=2∨p=4∨p=8):YP (fun k=>cl env k cu [a,.str s,.int p]) (fun o=>∃(b:Bool) (a':T),o = [.bool b,a']∧At c q G a'):=by
 refine YP.call ?_ (fun r h=>uS _ _ _ h)
 unfold lE;have h':=h;obtain ⟨st,pl,code,rfl,h1,h2⟩:=h;simp only[tnA];refine YP.obind (sJ hc.k hs) ?_;rintro _ ⟨f,rfl,f0,f1⟩;simp only[tnA];refine YP.obind (vi ⟨f0,f1⟩ hp) ?_;rintro _ ⟨b,rfl⟩;exact YP.some ⟨_,_,rfl,h'⟩
theorem cY {c:Cx} {q:Nat} {G:Prop} {a:T} {s:ByteArray} {is:List T} (h:At c (q+1) G a) (hs:G→cK c.ks s=true) (hi:Rk is) (hl:is.length≤1000):YP (fun k=>cl env k aK [a,.str s,.sl is]) (AtR c q G):=by
 obtain ⟨st,pl,code,rfl,h1,h2,h3,h4,h5⟩:=h;refine YP.call ?_ (fun r h=>uW _ _ _ h)
 unfold lI;simp only[tnA];refine YP.ite (fun hc=>?_) (fun hc=>YP.some ⟨_,rfl,st,pl,code,rfl,h1,by omega,h3,h4,h5⟩)
 have hG:=h1 (eq_of_beq hc);refine YP.guard (decide_eq_true (by rw[bD];simp;omega)) (YP.guard (decide_eq_true (by rw[bD];simp;omega)) (YP.some ⟨_,rfl,_,pl,code,rfl,h1,by simp;omega,h3,?_,h5⟩))
 intro x hx;rcases List.mem_append.1 hx with hx | hx
 ·exact h4 x hx
 ·rw[List.mem_singleton.1 hx];exact ⟨s,is,rfl,hi,hl,hs hG⟩
theorem str_eq {s t:ByteArray} (h:(s.toList==t.toList)=true):s=t:=by
 rw[beq_iff_eq,ByteArray.toList_eq,ByteArray.toList_eq] at h;exact WideShapes.bytes_inj h
theorem bnA:(!true)=false∧(!false)=true∧(∀b:Bool,(b&&true)=b)∧(∀b:Bool,(true&&b)=b)∧(∀b:Bool,(b&&false)=false)∧(∀b:Bool,(false&&b)=false)∧(∀b:Bool,(b||true)=true)∧(∀b:Bool,(true||b)=true)∧(∀b:Bool,(b||false)=b)∧(∀b:Bool,(false||b)=b)∧(∀b:Bool,(b==b)=true)∧(∀b:Bool,(b&&b)=b)∧(∀b:Bool,(b||b)=b)∧(true==false)=false∧(false==true)=false:=by decide
def Among (tys:List T) (s:ByteArray):Prop:=tys = []∨∃t:ByteArray,T.str t∈tys∧s=t
def PopR (c:Cx) (q:Nat) (G:Prop) (tys:List T) (o:List T):Prop:=∃(s:ByteArray) (is:List T) (a':T),o = [.st [.str s,.sl is],a']∧Rk is∧is.length≤1000∧(s.size=0∨cK c.ks s=true)∧At c q (G∧cK c.ks s=true∧Among tys s) a'
theorem zE {c:Cx} {q:Nat} {G:Prop} {tys:List T} {a':T} (h:At c q False a'):PopR c q G tys [.st [.str ⟨#[]⟩,.sl []],a']:=
 ⟨⟨#[]⟩,[],a',rfl,R8,by simp,Or.inl rfl,h.mono (Nat.le_refl _) False.elim⟩
theorem uG {c:Cx} {q:Nat} {G:Prop} {tys:List T} (hlen:tys.length≤1000) (hty : ∀x∈tys,∃s:ByteArray,x = .str s) {a:T} {st pl:List T} {code:Int} (ha:a = .st [.sl c.sh,.sl c.ks,.int (c.m:Int),c.f,.st [.sl st,.sl pl],.int code])
  (h1:code=0→G) (h2:st.length+q≤1000000) (h3:pl.length=c.np) (h4 : ∀x∈st,MkS c.ks x) (h5 : ∀x∈pl,MkP c.ks x) {s:ByteArray} {is:List T} (hn:0 < st.length) (hs:cK c.ks s=true) (hi:Rk is) (hil:is.length≤1000) :
  ∀{d i:Nat} {ok:Bool},i+d=tys.length→(ok=true→Among tys s)→
   YP (fun k=>gY (hl env k dM) (.sl tys) (.int (st.length:Int)) (.bool ok) (.int (i:Int)) a (.st [.str ⟨#[]⟩,.sl []]) (.st [.str s,.sl is])) (PopR c q G tys)
 | 0,i,ok,hd,hok=>by
  refine YP.call ?_ (fun r h=>ph _ _ _ _ _ _ _ h)
  unfold gP;have hat:At c q G a:=⟨st,pl,code,ha,h1,h2,h3,h4,h5⟩
  simp only[tnA];refine YP.ff (decide_eq_false (by omega)) ?_
  cases ok with
  | false=>
   simp only[bnA,cond_true,cond_false,beq_self_eq_true];refine YP.obind (ia hat (by decide)) ?_
   rintro _ ⟨a',rfl,ha'⟩;exact YP.some (zE ha')
  | true=>
   simp only[bnA,cond_true,cond_false,beq_self_eq_true];subst ha;simp only[tnA];have e:IntKind.wrap .i64 ((st.length:Int) - 1)=((st.length - 1:Nat):Int):=by rw[bf (by omega) (by omega)];omega
   simp only[e,Int.toNat_natCast];refine YP.guard (by (simp <;> omega)) (YP.some ⟨s,is,_,rfl,hi,hil,Or.inr hs,_,pl,code,rfl,fun h=>⟨h1 h,hs,hok rfl⟩,?_,h3,fun x hx=>h4 x (List.mem_of_mem_take hx),h5⟩)
   rw[List.length_take];omega
 | d+1,i,ok,hd,hok=>by
  refine YP.call ?_ (fun r h=>ph _ _ _ _ _ _ _ h)
  unfold gP;have hi':i < tys.length:=by omega
  obtain ⟨t,et⟩:=hty _ (List.getElem_mem hi');have et':(T.sl tys).nth i = .str t:=by rw[bh hi'];exact et
  simp only[tnA];simp only[et'];simp only[tnA];refine YP.tt (decide_eq_true (by omega)) ?_
  have gi:(decide (0≤(i:Int))&&decide (i < tys.length))=true:=by (simp <;> omega)
  rw[cF (by omega)]
  cases ok with
  | true=>
   simp only[bnA,cond_true,cond_false,beq_self_eq_true];exact uG hlen hty ha h1 h2 h3 h4 h5 hn hs hi hil (d:=d) (i:=i+1) (by omega) hok
  | false=>
   simp only[bnA,cond_true,cond_false,beq_self_eq_true];refine YP.guard (by first | exact gi | (simp <;> omega)) ?_
   refine uG hlen hty ha h1 h2 h3 h4 h5 hn hs hi hil (d:=d) (i:=i+1) (by omega) fun h=>Or.inr ⟨t,?_,str_eq h⟩
   rw[← et];exact List.getElem_mem hi'
theorem cH {c:Cx} {q:Nat} {G:Prop} {a:T} {tys:List T} (h:At c q G a) (hlen:tys.length≤1000) (hty : ∀x∈tys,∃s:ByteArray,x = .str s):YP (fun k=>cl env k aR [a,.sl tys]) (PopR c q G tys):=by
 refine YP.call ?_ (fun r h=>wx _ _ h)
 unfold mz;have h':=h;obtain ⟨st,pl,code,rfl,h1,h2,h3,h4,h5⟩:=h;simp only[tnA];refine YP.ite (fun hc=>?_) (fun hc=>?_)
 ·refine YP.some ⟨⟨#[]⟩,[],_,rfl,R8,by simp,Or.inl rfl,st,pl,code,rfl,fun h=>?_,h2,h3,h4,h5⟩
  rw[h] at hc;cases hc
 refine YP.ite (fun hc=>?_) (fun hc=>?_)
 ·refine YP.obind (ia h' (by decide)) ?_
  rintro _ ⟨a',rfl,ha'⟩;exact YP.some (zE ha')
 have hl:0 < st.length:=by
  rcases st with _ | ⟨x,st⟩
  ·cases hc
  ·simp
 have e:IntKind.wrap .i64 ((st.length:Int) - 1)=((st.length - 1:Nat):Int):=by rw[bf (by omega) (by omega)];omega
 simp only[e,Int.toNat_natCast];obtain ⟨s,is,em,hi,hil,hs⟩:=h4 _ (List.getElem_mem (show st.length - 1 < st.length by omega))
 rw[← bh] at em;simp only[em];simp only[tnA];refine YP.guard (by (simp <;> omega)) ?_
 refine uG hlen hty rfl h1 h2 h3 h4 h5 hl hs hi hil (d:=tys.length) (i:=0) (by omega) fun h=>Or.inl ?_
 have:((tys.length:Int)==0)=true:=h
 have:=eq_of_beq this
 exact List.eq_nil_of_length_eq_zero (by omega)
theorem um {c:Cx} {q:Nat} {G:Prop} {a:T} {n:Int} (h:At c q G a) (hn:0≤n):YP (fun k=>cl env k fq [a,.int n]) (fun o=>∃(b:Bool) (a':T),o = [.bool b,a']∧At c q (G∧b=true) a'∧(b=true→a'=a∧n.toNat < c.np∧∃(s:ByteArray) (is:List T),((a.fld 4).fld 1).nth n.toNat = .st [.str s,.sl is]∧Rk is∧is.length≤1000∧cK c.ks s=true)):=by
 refine YP.call ?_ (fun r h=>tW _ _ h)
 unfold kA;have h':=h;obtain ⟨st,pl,code,rfl,h1,h2,h3,h4,h5⟩:=h;simp only[tnA];refine YP.ite (fun hc=>?_) (fun hc=>?_)
 ·refine YP.obind (ia h' (by decide)) ?_
  rintro _ ⟨a',rfl,ha'⟩;exact YP.some ⟨false,a',rfl,ha'.mono (Nat.le_refl _) False.elim,fun h=>by cases h⟩
 have hc:=of_decide_eq_false hc;have hp:n.toNat < pl.length:=by omega
 refine YP.guard (by (simp <;> omega)) ?_
 obtain ⟨s,is,em,hi,hil,hs⟩:=h5 _ (List.getElem_mem hp);rw[← bh hp] at em;simp only[em];simp only[tnA];refine YP.ite (fun hc=>?_) (fun hc=>?_)
 ·refine YP.obind (ia h' (by decide)) ?_
  rintro _ ⟨a',rfl,ha'⟩;exact YP.some ⟨false,a',rfl,ha'.mono (Nat.le_refl _) False.elim,fun h=>by cases h⟩
 ·rw[nB] at hc;have hs:cK c.ks s=true:=by
   rcases hs with h | h
   ·rw[h] at hc;cases hc
   ·exact h
  exact YP.some ⟨true,_,rfl,h'.mono (Nat.le_refl _) (fun g=>⟨g,rfl⟩),fun _=>⟨rfl,by omega,s,is,rfl,hi,hil,hs⟩⟩
def OwnR (c:Cx) (q:Nat) (G:Prop) (k:Int) (o:List T):Prop:=∃(s:ByteArray) (a':T),o = [.str s,a']∧((s=⟨#[]⟩∧At c q False a')∨(cW c.ks s=true∧At c q G a'∧k.toNat < ((T.sl c.ks).nth c.m).es.length))
theorem mI {c:Cx} {q:Nat} {G:Prop} {a:T} {n:Int} (hc:co c) (h:At c q G a) (hn:0≤n):YP (fun k=>cl env k eZ [a,.int n]) (OwnR c q G n):=by
 refine YP.call ?_ (fun r h=>ww _ _ h)
 unfold my;have h':=h;obtain ⟨st,pl,code,rfl,h1,h2,h3,h4,h5⟩:=h;have hm:=hc.m;simp only[tnA];refine YP.guard (by (simp <;> omega)) ?_
 refine YP.ite (fun hc=>?_) (fun hd=>?_)
 ·refine YP.obind (ia h' (by decide)) ?_
  rintro _ ⟨a',rfl,ha'⟩;exact YP.some ⟨⟨#[]⟩,a',rfl,Or.inl ⟨rfl,ha'⟩⟩
 have hd:=of_decide_eq_false hd;have hk:=(hc.k.2 _ hm).1;have hk1:=hc.k.1;obtain ⟨k,rfl⟩ : ∃k':Nat,n=(k':Int):=⟨n.toNat,by omega⟩
 refine YP.obind (YP.of (Q:=fun o=>o=_) (KG (by omega)) rfl) ?_
 rintro _ rfl;simp only[tnA];refine YP.guard (decide_eq_true (by rw[bD];show 1+1≤_;omega)) ?_
 refine YP.obind (YP.of (Q:=fun o=>o=_) (KG (by omega)) rfl) ?_
 rintro _ rfl;simp only[tnA];refine YP.guard (decide_eq_true (by rw[bD];show 2+1≤_;omega)) ?_
 refine YP.some ⟨_,_,rfl,Or.inr ⟨zD hm (by omega) (by omega) (by omega),h',?_⟩⟩
 rw[Int.toNat_natCast];omega
theorem ty_n (ks:List T):cK ks k_n=true:=ck (py yM)
theorem ty_b (ks:List T):cK ks k_b=true:=ck (py base_b)
theorem ty_o (ks:List T):cK ks k_o=true:=ck (py base_o)
def gM (c:Cx) (q:Nat) (a:T) (o:List T):Prop:=∃(b:Bool) (a':T),o = [.bool b,a']∧At c q True a'∧(b=false→a'=a)
theorem ct_plain {c:Cx} {q:Nat} {a:T} (hc:co c) (h:At c (q+10) True a) {s:ByteArray} {x y:Int} : YP (fun k=>cl env k ky [a,.st [.str s,.int x,.int y]]) (gM c q a):=by
 refine YP.call ?_ (fun r h=>tX _ _ h)
 unfold kB;simp only[tnA];iterate 13
  refine YP.ite (fun _=>?_) (fun _=>?_)
  ·repeat' first | (exact YP.some ⟨_,_,rfl,At.mono (by assumption) (by omega) (fun _=>trivial),(by first | exact fun h=>Bool.noConfusion h | exact fun _=>rfl)⟩) | (refine YP.obind (cY (by assumption) (fun _=>by first | exact ty_n _ | exact ty_b _ | exact ty_o _) R8 (by simp)) ?_;rintro _ ⟨a',he,ha⟩;subst he;simp only[tnA]) | (refine YP.obind (cH (by assumption) (by simp) (by simp)) ?_;rintro _ ⟨s,is,a',he,hi,hil,hs,ha⟩;subst he;simp only[tnA])
 refine YP.ite (fun _=>?_) (fun _=>?_)
 ·refine YP.obind (cH h (by simp) (by simp)) ?_
  rintro _ ⟨t,is,a1,rfl,hi,hil,ht,ha⟩;simp only[tnA];refine YP.obind (cH ha (by simp) (by simp)) ?_
  rintro _ ⟨t2,is2,a2,rfl,hi2,hil2,ht2,ha2⟩;simp only[tnA];refine YP.obind (YP.of (Q:=fun o=>o=_) (lk t) rfl) ?_
  rintro _ rfl;simp only[tnA];refine YP.obind (bz ha2 (by decide)) ?_
  rintro _ ⟨a3,rfl,ha3⟩;simp only[tnA];refine YP.ite (fun hz=>?_) (fun hz=>?_)
  ·refine YP.obind (bz ha3 (by decide)) ?_
   rintro _ ⟨a4,rfl,ha4⟩;simp only[tnA]
   (refine YP.obind (cY (by assumption) (fun _=>by first | exact ty_n _ | exact ty_b _ | exact ty_o _) R8 (by simp)) ?_;rintro _ ⟨a',he,ha⟩;subst he;simp only[tnA])
   (exact YP.some ⟨_,_,rfl,At.mono (by assumption) (by omega) (fun _=>trivial),(by first | exact fun h=>Bool.noConfusion h | exact fun _=>rfl)⟩)
  ·have hg:=ha3.good hz;refine YP.obind (dx hc ha3 hg.1.1.2.1 (by simp)) ?_
   rintro _ ⟨b,a4,rfl,ha4⟩;simp only[tnA];refine YP.obind (bz ha4 (by decide)) ?_
   rintro _ ⟨a5,rfl,ha5⟩;simp only[tnA]
   (refine YP.obind (cY (by assumption) (fun _=>by first | exact ty_n _ | exact ty_b _ | exact ty_o _) R8 (by simp)) ?_;rintro _ ⟨a',he,ha⟩;subst he;simp only[tnA])
   (exact YP.some ⟨_,_,rfl,At.mono (by assumption) (by omega) (fun _=>trivial),(by first | exact fun h=>Bool.noConfusion h | exact fun _=>rfl)⟩)
 iterate 3
  refine YP.ite (fun _=>?_) (fun _=>?_)
  ·repeat' first | (exact YP.some ⟨_,_,rfl,At.mono (by assumption) (by omega) (fun _=>trivial),(by first | exact fun h=>Bool.noConfusion h | exact fun _=>rfl)⟩) | (refine YP.obind (cY (by assumption) (fun _=>by first | exact ty_n _ | exact ty_b _ | exact ty_o _) R8 (by simp)) ?_;rintro _ ⟨a',he,ha⟩;subst he;simp only[tnA]) | (refine YP.obind (cH (by assumption) (by simp) (by simp)) ?_;rintro _ ⟨s,is,a',he,hi,hil,hs,ha⟩;subst he;simp only[tnA])
 (exact YP.some ⟨_,_,rfl,At.mono (by assumption) (by omega) (fun _=>trivial),(by first | exact fun h=>Bool.noConfusion h | exact fun _=>rfl)⟩)
theorem eB {c:Cx} {q:Nat} {G:Prop} {a:T} {n:Int} (hc:co c) (h:At c q G a):YP (fun k=>cl env k cr [.st [(a.fld 4).fld 0,(a.fld 4).fld 1],.int n]) po:=by
 obtain ⟨st,pl,code,rfl,h1,h2,h3,h4,h5⟩:=h;simp only[tnA];obtain ⟨_,ags,rs,ls,tk,cd,e,e2⟩:=hc.np;obtain ⟨_,_,_,_,_,_,e',l1,_,l3,_⟩:=hc.f;rw[e] at e';cases e';exact ct_lent (by omega) (fun x hx=>(h4 x hx).p) (by omega) h5
theorem df {c:Cx} {q:Nat} {G:Prop} {a:T} {n:Int} (hc:co c) (h:At c q G a):YP (fun k=>cl env k O1 [.st [(a.fld 4).fld 0,(a.fld 4).fld 1],.int n]) po:=by
 obtain ⟨st,pl,code,rfl,h1,h2,h3,h4,h5⟩:=h;simp only[tnA];obtain ⟨_,ags,rs,ls,tk,cd,e,e2⟩:=hc.np;obtain ⟨_,_,_,_,_,_,e',l1,_,l3,_⟩:=hc.f;rw[e] at e';cases e';exact B2 (by omega) (fun x hx=>(h4 x hx).p) (by omega) h5
theorem At.np {c:Cx} {q:Nat} {G:Prop} {a:T} (h:At c q G a):((a.fld 4).fld 1).es.length=c.np:=by
 obtain ⟨st,pl,code,rfl,h1,h2,h3,h4,h5⟩:=h;exact h3
theorem At.pl {c:Cx} {q:Nat} {G:Prop} {a:T} (h:At c q G a) {n:Nat} (hn:n < c.np) : ∃(s:ByteArray) (is:List T),((a.fld 4).fld 1).nth n = .st [.str s,.sl is]∧Rk is∧is.length≤1000∧(s.size=0∨cK c.ks s=true):=by
 obtain ⟨st,pl,code,rfl,h1,h2,h3,h4,h5⟩:=h;obtain ⟨s,is,e,h⟩:=h5 _ (List.getElem_mem (show n < pl.length by omega))
 exact ⟨s,is,by rw[← e];exact bh (by omega),h⟩
theorem At.put {c:Cx} {q:Nat} {G:Prop} {a x:T} (h:At c q G a) {n:Nat} (hx:G→MkP c.ks x) (hx0:MkP c.ks x):At c q G (T.put a [.fld 4,.fld 1,.idx n] x):=by
 obtain ⟨st,pl,code,rfl,h1,h2,h3,h4,h5⟩:=h;refine ⟨st,pl.set n x,code,rfl,h1,h2,by rw[List.length_set];exact h3,h4,fun y hy=>?_⟩
 rcases List.mem_or_eq_of_mem_set hy with hy | rfl
 ·exact h5 y hy
 ·exact hx0
theorem fn_place {ks:List T} {n:Int} {n0:Int} {ags rs ls tk cd:List T} (h1:dL ks ags) (h2:dL ks ls) (hn:0≤n) (hl:n.toNat < ags.length+ls.length) (hs:ags.length≤10) (hs2:ls.length≤10):YP (fun k=>cl env k hJ [.st [.int n0,.sl ags,.sl rs,.sl ls,.sl tk,.sl cd],.int n]) (fun o=>∃s:ByteArray,o = [.str s]∧cK ks s=true):=by
 refine YP.call ?_ (fun r h=>Ms _ _ h)
 unfold hZ;simp only[tnA];refine YP.ite (fun hc=>?_) (fun hc=>?_)
 ·have hc:=of_decide_eq_true hc;obtain ⟨s,e,h⟩:=h1 _ (List.getElem_mem (show n.toNat < ags.length by omega))
  refine YP.guard (by (simp <;> omega)) (YP.some ⟨s,?_,h⟩)
  rw[bh (by omega),e]
 ·have hc:=of_decide_eq_false hc;have e:IntKind.wrap .i64 (n - (ags.length:Int))=n - ags.length:=bf (by omega) (by omega)
  simp only[e];obtain ⟨s,e,h⟩:=h2 _ (List.getElem_mem (show (n - (ags.length:Int)).toNat < ls.length by omega))
  refine YP.guard (by (simp <;> omega)) (YP.some ⟨s,?_,h⟩)
  rw[bh (by omega),e]
theorem ct_put {c:Cx} {q:Nat} {a:T} {n:Int} (hc:co c) (h:At c q True a) (hn:0≤n):YP (fun k=>cl env k mi [a,.int n]) (AtR c q True):=by
 refine YP.call ?_ (fun r h=>wy _ _ h)
 unfold mA;have hnp:=h.np;simp only[tnA];refine YP.ite (fun hz=>?_) (fun hz=>?_)
 ·refine YP.obind (ia h (by decide)) ?_
  rintro _ ⟨a',rfl,ha'⟩;exact YP.some ⟨a',rfl,ha'.mono (Nat.le_refl _) False.elim⟩
 have hz:=of_decide_eq_false hz;rw[hnp] at hz;obtain ⟨n0,ags,rs,ls,tk,cd,e,e2⟩:=hc.np;obtain ⟨_,_,_,_,_,_,e',l1,_,l3,_,_,t1,_,t3,_⟩:=hc.f;rw[e] at e';cases e';have hf:a.fld 3 = .st [.int n0,.sl ags,.sl rs,.sl ls,.sl tk,.sl cd]:=by
  obtain ⟨st,pl,code,rfl,_⟩:=h;exact e
 simp only[hf];refine YP.obind (fn_place t1 t3 hn (by omega) l1 l3) ?_
 rintro _ ⟨t,rfl,ht⟩;simp only[tnA];refine YP.obind (cH h (by simp) (by simp)) ?_
 rintro _ ⟨s,is,a',rfl,hi,hil,hs,ha⟩;simp only[tnA];refine YP.ite (fun hz=>?_) (fun hz=>?_)
 ·exact YP.some ⟨_,rfl,ha.mono (Nat.le_refl _) fun _=>trivial⟩
 have hg:=ha.good hz;have hnp':=ha.np;refine YP.guard (by (simp <;> omega)) ?_
 obtain ⟨u,js,eu,u1,u2,u3⟩:=ha.pl (show n.toNat < c.np by omega)
 simp only[eu];simp only[tnA];refine YP.ite (fun hu=>?_) (fun hu=>?_)
 ·rw[nB] at hu;have u3:cK c.ks u=true:=by
   rcases u3 with h | h
   ·rw[h] at hu;cases hu
   ·exact h
  refine YP.guard (by (simp <;> omega)) ?_
  refine YP.obind (dx hc ha u3 (by simp)) ?_
  rintro _ ⟨b,a4,rfl,ha4⟩;simp only[tnA];refine YP.obind (bz ha4 (by decide)) ?_
  rintro _ ⟨a5,rfl,ha5⟩;simp only[tnA];refine YP.obind (eB hc ha5) ?_;rintro _ ⟨b2,rfl⟩;simp only[tnA];refine YP.obind (bz ha5 (by decide)) ?_
  rintro _ ⟨a6,rfl,ha6⟩;simp only[tnA];have:=ha6.np
  refine YP.guard (by (simp <;> omega)) (YP.some ⟨_,rfl,(ha6.put (fun _=>⟨s,is,rfl,hi,hil,hs⟩) ⟨s,is,rfl,hi,hil,hs⟩).mono (Nat.le_refl _) fun _=>trivial⟩)
 ·refine YP.guard (by (simp <;> omega)) (YP.some ⟨_,rfl,(ha.put (fun _=>⟨s,is,rfl,hi,hil,hs⟩) ⟨s,is,rfl,hi,hil,hs⟩).mono (Nat.le_refl _) fun _=>trivial⟩)
theorem th {ks:List T} {s:ByteArray} (h:cK ks s=true) (hr:O8 s=false):cW ks s=true:=by
 unfold cK ofB at h;rw[hr] at h;exact h
theorem wm {ks:List T} {s:ByteArray} (h:cW ks s=true):cK ks (cX++s)=true:=wn (Or.inl rfl) h
theorem AQ {ks:List T} {s:ByteArray} (h:cW ks s=true):cK ks (cI++s)=true:=wn (Or.inr rfl) h
theorem not_b {b:Bool} (h:(!b)=true):b=false:=by cases b with | true=>cases h | false=>rfl
theorem ct_lend {c:Cx} {q:Nat} {a:T} {s:ByteArray} {x y:Int} (hc:co c) (h:At c (q+1) True a) (hx:0≤x) (hx2:x≤2000000):YP (fun k=>cl env k iw [a,.st [.str s,.int x,.int y]]) (AtR c q True):=by
 refine YP.call ?_ (fun r h=>uV _ _ h)
 unfold lH;simp only[tnA];refine YP.obind (um h hx) ?_;rintro _ ⟨b,a1,rfl,h1,hb⟩;simp only[tnA];refine YP.ite (fun hz=>?_) (fun hz=>?_)
 ·exact YP.some ⟨_,rfl,h1.mono (by omega) fun _=>trivial⟩
 have hb1:b=true:=by cases b with | true=>rfl | false=>cases hz
 obtain ⟨rfl,hn,t,is,et,hi,hil,ht⟩:=hb hb1;have hnp:=h1.np;refine YP.guard (by (simp <;> omega)) ?_
 simp only[et];simp only[tnA];have:=nX ht
 refine YP.obind (YP.of (Q:=fun o=>o=_) (lk t) rfl) ?_
 rintro _ rfl;simp only[tnA];refine YP.obind (bz h1 (by decide)) ?_
 rintro _ ⟨a3,rfl,h3⟩;simp only[tnA];refine YP.ite (fun hz=>?_) (fun hz=>?_)
 ·refine YP.obind (df hc h3) ?_;rintro _ ⟨b2,rfl⟩;simp only[tnA];refine YP.obind (bz h3 (by decide)) ?_
  rintro _ ⟨a4,rfl,h4⟩;simp only[tnA];refine YP.guard (decide_eq_true (by rw[bD];show 1+t.size≤_;omega)) ?_
  refine YP.obind (cY h4 (fun g=>wm (th ht (not_b g.1.2))) (Rn hx (by omega)) (by simp)) ?_
  rintro _ ⟨a5,rfl,h5⟩;exact YP.some ⟨_,rfl,h5.mono (Nat.le_refl _) fun _=>trivial⟩
 ·refine YP.obind (eB hc h3) ?_;rintro _ ⟨b2,rfl⟩;simp only[tnA];refine YP.obind (bz h3 (by decide)) ?_
  rintro _ ⟨a4,rfl,h4⟩;simp only[tnA];refine YP.guard (decide_eq_true (by rw[bD];show 1+t.size≤_;omega)) ?_
  refine YP.obind (cY h4 (fun g=>AQ (th ht (not_b g.1.2))) (Rn hx (by omega)) (by simp)) ?_
  rintro _ ⟨a5,rfl,h5⟩;exact YP.some ⟨_,rfl,h5.mono (Nat.le_refl _) fun _=>trivial⟩
theorem BE {c:Cx} {q:Nat} {a:T} (hc:co c) (h:At c (q+10) True a) {s:ByteArray} {x y:Int} (hx:0≤x) (hx2:x≤2000000):YP (fun k=>cl env k jF [a,.st [.str s,.int x,.int y]]) (gM c q a):=by
 refine YP.call ?_ (fun r h=>tq _ _ h)
 unfold jI;simp only[tnA];refine YP.ite (fun _=>?_) (fun _=>?_)
 ·refine YP.obind (um h hx) ?_;rintro _ ⟨b,a1,rfl,h1,hb⟩;simp only[tnA];refine YP.ite (fun hz=>?_) (fun hz=>?_)
  ·obtain ⟨rfl,hn,t,is,et,hi,hil,ht⟩:=hb hz;have hnp:=h1.np;refine YP.guard (by (simp <;> omega)) ?_
   simp only[et];simp only[tnA];refine YP.obind (dx hc h1 ht (by simp)) ?_
   rintro _ ⟨b1,a2,rfl,h2⟩;simp only[tnA];refine YP.obind (bz h2 (by decide)) ?_
   rintro _ ⟨a3,rfl,h3⟩;simp only[tnA];refine YP.obind (YP.of (Q:=fun o=>o=_) (lk t) rfl) ?_
   rintro _ rfl;simp only[tnA];cases hr:O8 t with
   | true=>
    simp only[bnA,cond_true,cond_false,beq_self_eq_true];refine YP.obind (YP.some (Q:=fun o=>o = []) rfl) ?_
    rintro _ rfl;refine YP.obind (bz h3 (by decide)) ?_
    rintro _ ⟨a4,rfl,h4⟩;simp only[tnA];refine YP.obind (cY h4 (fun _=>ht) hi hil) ?_
    rintro _ ⟨a5,rfl,ha5⟩;simp only[tnA]
    (exact YP.some ⟨_,_,rfl,At.mono (by assumption) (by omega) (fun _=>trivial),(by first | exact fun h=>Bool.noConfusion h | exact fun _=>rfl)⟩)
   | false=>
    simp only[bnA,cond_true,cond_false,beq_self_eq_true];refine YP.obind (df hc h3) ?_;rintro _ ⟨b3,rfl⟩;simp only[tnA];refine YP.obind (bz h3 (by decide)) ?_
    rintro _ ⟨a4,rfl,h4⟩;simp only[tnA];refine YP.obind (cY h4 (fun _=>ht) hi hil) ?_
    rintro _ ⟨a5,rfl,ha5⟩;simp only[tnA]
    (exact YP.some ⟨_,_,rfl,At.mono (by assumption) (by omega) (fun _=>trivial),(by first | exact fun h=>Bool.noConfusion h | exact fun _=>rfl)⟩)
  ·(exact YP.some ⟨_,_,rfl,At.mono (by assumption) (by omega) (fun _=>trivial),(by first | exact fun h=>Bool.noConfusion h | exact fun _=>rfl)⟩)
 refine YP.ite (fun _=>?_) (fun _=>?_)
 ·refine YP.obind (um h hx) ?_;rintro _ ⟨b,a1,rfl,h1,hb⟩;simp only[tnA];refine YP.ite (fun hz=>?_) (fun hz=>?_)
  ·obtain ⟨rfl,hn,t,is,et,hi,hil,ht⟩:=hb hz;have hnp:=h1.np;refine YP.guard (by (simp <;> omega)) ?_
   simp only[et];simp only[tnA];refine YP.obind (eB hc h1) ?_;rintro _ ⟨b3,rfl⟩;simp only[tnA];refine YP.obind (bz h1 (by decide)) ?_
   rintro _ ⟨a4,rfl,h4⟩;have hnp:=h4.np;simp only[tnA];refine YP.guard (by (simp <;> omega)) ?_
   refine YP.obind (cY (h4.put (n:=x.toNat) (fun _=>rO) rO) (fun _=>ht) hi hil) ?_
   rintro _ ⟨a5,rfl,ha5⟩;simp only[tnA]
   (exact YP.some ⟨_,_,rfl,At.mono (by assumption) (by omega) (fun _=>trivial),(by first | exact fun h=>Bool.noConfusion h | exact fun _=>rfl)⟩)
  ·(exact YP.some ⟨_,_,rfl,At.mono (by assumption) (by omega) (fun _=>trivial),(by first | exact fun h=>Bool.noConfusion h | exact fun _=>rfl)⟩)
 refine YP.ite (fun _=>?_) (fun _=>?_)
 ·refine YP.obind (ct_put hc h hx) ?_;rintro _ ⟨a5,rfl,ha5⟩;simp only[tnA]
  (exact YP.some ⟨_,_,rfl,At.mono (by assumption) (by omega) (fun _=>trivial),(by first | exact fun h=>Bool.noConfusion h | exact fun _=>rfl)⟩)
 refine YP.ite (fun _=>?_) (fun _=>?_)
 ·refine YP.obind (cH h (by simp) (by simp)) ?_
  rintro _ ⟨t,is,a1,rfl,hi,hil,ht,ha⟩;simp only[tnA];refine YP.ite (fun hz=>?_) (fun hz=>?_)
  ·refine YP.obind (bz ha (by decide)) ?_
   rintro _ ⟨a4,rfl,ha4⟩;simp only[tnA]
   (exact YP.some ⟨_,_,rfl,At.mono (by assumption) (by omega) (fun _=>trivial),(by first | exact fun h=>Bool.noConfusion h | exact fun _=>rfl)⟩)
  ·have hg:=ha.good hz;refine YP.obind (dx hc ha hg.2.1 (by simp)) ?_
   rintro _ ⟨b,a4,rfl,ha4⟩;simp only[tnA];refine YP.obind (bz ha4 (by decide)) ?_
   rintro _ ⟨a5,rfl,ha5⟩;simp only[tnA]
   (exact YP.some ⟨_,_,rfl,At.mono (by assumption) (by omega) (fun _=>trivial),(by first | exact fun h=>Bool.noConfusion h | exact fun _=>rfl)⟩)
 iterate 2
  refine YP.ite (fun _=>?_) (fun _=>?_)
  ·refine YP.obind (ct_lend hc h hx hx2) ?_;rintro _ ⟨a5,rfl,ha5⟩;simp only[tnA]
   (exact YP.some ⟨_,_,rfl,At.mono (by assumption) (by omega) (fun _=>trivial),(by first | exact fun h=>Bool.noConfusion h | exact fun _=>rfl)⟩)
 (exact YP.some ⟨_,_,rfl,At.mono (by assumption) (by omega) (fun _=>trivial),(by first | exact fun h=>Bool.noConfusion h | exact fun _=>rfl)⟩)
theorem At.f1 {c:Cx} {q:Nat} {G:Prop} {a:T} (h:At c q G a):a.fld 1 = .sl c.ks:=by obtain ⟨st,pl,code,rfl,_⟩:=h;rfl
theorem At.f2 {c:Cx} {q:Nat} {G:Prop} {a:T} (h:At c q G a):a.fld 2 = .int (c.m:Int):=by obtain ⟨st,pl,code,rfl,_⟩:=h;rfl
theorem At.f3 {c:Cx} {q:Nat} {G:Prop} {a:T} (h:At c q G a):a.fld 3=c.f:=by obtain ⟨st,pl,code,rfl,_⟩:=h;rfl
theorem At.f0 {c:Cx} {q:Nat} {G:Prop} {a:T} (h:At c q G a):a.fld 0 = .sl c.sh:=by obtain ⟨st,pl,code,rfl,_⟩:=h;rfl
theorem yZ:((⟨#[]⟩:ByteArray).toList==(⟨#[]⟩:ByteArray).toList)=true:=by rw[beq_self_eq_true]
theorem fU {ks:List T} {s:ByteArray} (h:cW ks s=true):(s.toList==(⟨#[]⟩:ByteArray).toList)=false:=by
 have:=dK h
 rw[nB,decide_eq_true (by omega)];rfl
theorem Cd {c:Cx} {q:Nat} {a0:T} {a x:T} {i:Int} (h:At c (q+1) False a):YP (fun k=>dS (hl env k bC) (.str ⟨#[]⟩) (.int i) a x) (gM c q a0):=by
 refine YP.call ?_ (fun r h=>io _ _ _ _ h)
 unfold dQ;simp only[tnA];simp only[yZ];simp only[bnA,cond_true,cond_false,beq_self_eq_true];refine YP.ff rfl ?_;refine YP.obind (cY h False.elim R8 (by simp)) ?_
 rintro _ ⟨a',rfl,ha⟩;simp only[tnA]
 (exact YP.some ⟨_,_,rfl,At.mono (by assumption) (by omega) (fun _=>trivial),(by first | exact fun h=>Bool.noConfusion h | exact fun _=>rfl)⟩)
theorem xU {c:Cx} {q:Nat} {a0:T} {t:ByteArray} {av:Int} {fs:List T} {n:Nat} {s:ByteArray} {y:Int} (hm:c.m < c.ks.length) (hn:n < ((T.sl c.ks).nth c.m).es.length) (ht:cW c.ks t=true) (e:((T.sl c.ks).nth c.m).nth n = .st [.int av,.sl fs]) (hl3:fs.length≤3)
  (hfs : ∀x∈fs,∃s:ByteArray,x = .str s) : ∀{d i:Nat} {G:Prop} {a:T},i+d=fs.length→At c (q+1) G a→
   YP (fun k=>dS (hl env k bC) (.str t) (.int (i:Int)) a (.st [.str s,.int (n:Int),.int y])) (gM c q a0)
 | 0,i,G,a,hd,h=>by
  refine YP.call ?_ (fun r h=>io _ _ _ _ h)
  unfold dQ;simp only[tnA];simp only[h.f1,h.f2];simp only[tnA];simp only[e];simp only[tnA];simp only[fU ht];simp only[bnA,cond_true,cond_false,beq_self_eq_true];refine YP.guard (by (simp <;> omega)) (YP.guard (by (simp <;> omega)) (YP.ff (decide_eq_false (by omega)) ?_))
  refine YP.obind (cY h (fun _=>ck ht) R8 (by simp)) ?_
  rintro _ ⟨a',rfl,ha⟩;simp only[tnA]
  (exact YP.some ⟨_,_,rfl,At.mono (by assumption) (by omega) (fun _=>trivial),(by first | exact fun h=>Bool.noConfusion h | exact fun _=>rfl)⟩)
 | d+1,i,G,a,hd,h=>by
  refine YP.call ?_ (fun r h=>io _ _ _ _ h)
  unfold dQ;simp only[tnA];simp only[h.f1,h.f2];simp only[tnA];simp only[e];simp only[tnA];simp only[fU ht];simp only[bnA,cond_true,cond_false,beq_self_eq_true];have e1:IntKind.wrap .i64 ((fs.length:Int) - 1)=((fs.length - 1:Nat):Int):=by rw[bf (by omega) (by omega)];omega
  have e2:IntKind.wrap .i64 (((fs.length - 1:Nat):Int) - (i:Int))=((fs.length - 1 - i:Nat):Int):=by rw[bf (by omega) (by omega)];omega
  simp only[e1,e2,Int.toNat_natCast];refine YP.guard (by (simp <;> omega)) (YP.guard (by (simp <;> omega)) (YP.tt (decide_eq_true (by omega)) (YP.guard (by (simp <;> omega)) (YP.guard (by (simp <;> omega)) (YP.guard (by (simp <;> omega)) ?_)))))
  obtain ⟨u,eu⟩:=hfs _ (List.getElem_mem (show fs.length - 1 - i < fs.length by omega))
  rw[bh (by omega),eu]
  refine YP.obind (cH h (by simp) (by simp)) ?_
  rintro _ ⟨u,is,a1,rfl,hi,hil,hu,ha⟩;simp only[tnA];rw[cF (by omega)]
  exact xU hm hn ht e hl3 hfs (d:=d) (i:=i+1) (by omega) ha
theorem Ah {c:Cx} {q:Nat} {a0:T} {a x:T} {i:Int} (h:At c q False a):YP (fun k=>dT (hl env k bC) (.str ⟨#[]⟩) (.int i) a x) (gM c q a0):=by
 refine YP.call ?_ (fun r h=>ip _ _ _ _ h)
 unfold dR;simp only[tnA];simp only[yZ];simp only[bnA,cond_true,cond_false,beq_self_eq_true];refine YP.ff rfl ?_
 (exact YP.some ⟨_,_,rfl,At.mono (by assumption) (by omega) (fun _=>trivial),(by first | exact fun h=>Bool.noConfusion h | exact fun _=>rfl)⟩)
theorem ug {c:Cx} {q:Nat} {a0:T} {t:ByteArray} {av:Int} {fs:List T} {n:Nat} {s:ByteArray} {y:Int} (hm:c.m < c.ks.length) (hn:n < ((T.sl c.ks).nth c.m).es.length) (ht:cW c.ks t=true) (e:((T.sl c.ks).nth c.m).nth n = .st [.int av,.sl fs]) (hl3:fs.length≤3)
  (hfs : ∀x∈fs,∃s:ByteArray,x = .str s∧cK c.ks s=true) : ∀{d i:Nat} {G:Prop} {a:T},i+d=fs.length→At c (q+d) G a→
   YP (fun k=>dT (hl env k bC) (.str t) (.int (i:Int)) a (.st [.str s,.int (n:Int),.int y])) (gM c q a0)
 | 0,i,G,a,hd,h=>by
  refine YP.call ?_ (fun r h=>ip _ _ _ _ h)
  unfold dR;simp only[tnA];simp only[h.f1,h.f2];simp only[tnA];simp only[e];simp only[tnA];simp only[fU ht];simp only[bnA,cond_true,cond_false,beq_self_eq_true];refine YP.guard (by (simp <;> omega)) (YP.guard (by (simp <;> omega)) (YP.ff (decide_eq_false (by omega)) ?_))
  (exact YP.some ⟨_,_,rfl,At.mono (by assumption) (by omega) (fun _=>trivial),(by first | exact fun h=>Bool.noConfusion h | exact fun _=>rfl)⟩)
 | d+1,i,G,a,hd,h=>by
  refine YP.call ?_ (fun r h=>ip _ _ _ _ h)
  unfold dR;simp only[tnA];simp only[h.f1,h.f2];simp only[tnA];simp only[e];simp only[tnA];simp only[fU ht];simp only[bnA,cond_true,cond_false,beq_self_eq_true];refine YP.guard (by (simp <;> omega)) (YP.guard (by (simp <;> omega)) (YP.tt (decide_eq_true (by omega)) (YP.guard (by (simp <;> omega)) (YP.guard (by (simp <;> omega)) (YP.guard (by (simp <;> omega)) ?_)))))
  obtain ⟨u,eu,hu⟩:=hfs _ (List.getElem_mem (show i < fs.length by omega))
  rw[bh (by omega),eu]
  refine YP.obind (cY (q:=q+d) h (fun _=>hu) R8 (by simp)) ?_
  rintro _ ⟨a1,rfl,ha⟩;simp only[tnA];rw[cF (by omega)]
  exact ug hm hn ht e hl3 hfs (d:=d) (i:=i+1) (by omega) ha
theorem AN {c:UInt8} {s:ByteArray} : ((⟨#[c]⟩:ByteArray)++s).extract 0 1=⟨#[c]⟩:=by
 have:=ByteArray.extract_append_eq_left (a:=(⟨#[c]⟩:ByteArray)) (b:=s) (i:=1) rfl
 exact this
theorem rV {ks:List T} {m k:Nat} (h:pP ks m k) : ∃(av:Int) (fs:List T),((T.sl ks).nth m).nth k = .st [.int av,.sl fs]∧fs.length≤3∧∀x∈fs,∃s:ByteArray,x = .str s∧cW ks s=true:=by
 obtain ⟨a,fs,e,_,_,h3,h4⟩:=h;exact ⟨a,fs,e,h3,fun x hx=>by obtain ⟨s,e,h⟩:=h4 x hx;exact ⟨s,e,o7 h⟩⟩
theorem xW {c:Cx} {q:Nat} {a0:T} {G:Prop} {a:T} {t:ByteArray} {is:List T} {b:Bool} (h:At c (q+2) (G∧cK c.ks t=true) a) (hi:Rk is) (hil:is.length≤1000):YP (fun k=>bif b then
   obind (cl env k aK [a,.str t,.sl is]) fun r12=>
   obind (cl env k cx [.str t]) fun r13=>
   obind (cl env k aK [(rt (r12.drop 0) 0),(rt r13 0),(T.sl [])]) fun r14=>
   some [(T.bool true),(rt (r14.drop 0) 0)]
   else
   obind (cl env k cx [.str t]) fun r15=>
   obind (cl env k aK [a,(rt r15 0),(T.sl [])]) fun r16=>
   some [(T.bool true),(rt (r16.drop 0) 0)]) (gM c q a0):=by
 have hp:G∧cK c.ks t=true→cK c.ks (ofB t)=true:=fun g=>ck g.2
 refine YP.ite (fun _=>?_) (fun _=>?_)
 ·refine YP.obind (cY h (fun g=>g.2) hi hil) ?_
  rintro _ ⟨a1,rfl,h1⟩;simp only[tnA];refine YP.obind (YP.of (Q:=fun o=>o=_) (of_s t) rfl) ?_
  rintro _ rfl;simp only[tnA];refine YP.obind (cY h1 hp R8 (by simp)) ?_
  rintro _ ⟨a2,rfl,h2⟩;simp only[tnA]
  (exact YP.some ⟨_,_,rfl,At.mono (by assumption) (by omega) (fun _=>trivial),(by first | exact fun h=>Bool.noConfusion h | exact fun _=>rfl)⟩)
 ·refine YP.obind (YP.of (Q:=fun o=>o=_) (of_s t) rfl) ?_
  rintro _ rfl;simp only[tnA];refine YP.obind (cY h hp R8 (by simp)) ?_
  rintro _ ⟨a2,rfl,h2⟩;simp only[tnA]
  (exact YP.some ⟨_,_,rfl,At.mono (by assumption) (by omega) (fun _=>trivial),(by first | exact fun h=>Bool.noConfusion h | exact fun _=>rfl)⟩)
theorem B1 {c:Cx} {q:Nat} {a:T} (hc:co c) (h:At c (q+10) True a) {s:ByteArray} {x y:Int} (hx:0≤x) (hy:0≤y):YP (fun k=>cl env k jj [a,.st [.str s,.int x,.int y]]) (gM c q a):=by
 refine YP.call ?_ (fun r h=>sw _ _ h)
 unfold jm;have hm:=hc.m;simp only[tnA];refine YP.ite (fun _=>?_) (fun _=>?_)
 ·refine YP.obind (mI hc h hx) ?_;rintro _ ⟨t,a1,rfl,⟨rfl,ha⟩ | ⟨ht,ha,hk⟩⟩
  ·simp only[tnA];exact Cd (ha.mono (by omega) id)
  ·obtain ⟨x,rfl⟩ : ∃k':Nat,x=(k':Int):=⟨x.toNat,by omega⟩
   rw[Int.toNat_natCast] at hk;obtain ⟨av,fs,e,h3,h4⟩:=rV ((hc.k.2 _ hm).2 x hk);simp only[tnA];exact xU hm hk ht e h3 (fun x hx=>by obtain ⟨s,e,_⟩:=h4 x hx;exact ⟨s,e⟩) (d:=fs.length) (i:=0) (by omega) (ha.mono (q':=q+1) (by omega) id)
 refine YP.ite (fun _=>?_) (fun _=>?_)
 ·refine YP.obind (mI hc h hx) ?_;rintro _ ⟨t,a1,rfl,⟨rfl,ha⟩ | ⟨ht,ha,hk⟩⟩
  ·simp only[tnA];refine YP.obind (cH ha (by simp) (by simp)) ?_
   rintro _ ⟨u,is,a2,rfl,hi,hil,hu,ha2⟩;simp only[tnA];exact Ah (ha2.mono (by omega) fun g=>g.1)
  ·obtain ⟨x,rfl⟩ : ∃k':Nat,x=(k':Int):=⟨x.toNat,by omega⟩
   rw[Int.toNat_natCast] at hk;obtain ⟨av,fs,e,h3,h4⟩:=rV ((hc.k.2 _ hm).2 x hk);simp only[tnA];refine YP.obind (cH ha (by simp) (by simp)) ?_
   rintro _ ⟨u,is,a2,rfl,hi,hil,hu,ha2⟩;simp only[tnA];exact ug hm hk ht e h3 (fun x hx=>by obtain ⟨s,e,h⟩:=h4 x hx;exact ⟨s,e,ck h⟩) (d:=fs.length) (i:=0) (by omega) (ha2.mono (by omega) id)
 refine YP.ite (fun _=>?_) (fun _=>?_)
 ·refine YP.obind (mI hc h hy) ?_;rintro _ ⟨t,a1,rfl,⟨rfl,ha⟩ | ⟨ht,ha,hk⟩⟩
  ·simp only[tnA];simp only[yZ];simp only[bnA,cond_true,cond_false,beq_self_eq_true];refine YP.tt rfl ?_;refine YP.obind (ia ha (by decide)) ?_
   rintro _ ⟨a',rfl,ha'⟩;simp only[tnA]
   (exact YP.some ⟨_,_,rfl,At.mono (by assumption) (by omega) (fun _=>trivial),(by first | exact fun h=>Bool.noConfusion h | exact fun _=>rfl)⟩)
  ·obtain ⟨y,rfl⟩ : ∃k':Nat,y=(k':Int):=⟨y.toNat,by omega⟩
   rw[Int.toNat_natCast] at hk;obtain ⟨av,fs,e,h3,h4⟩:=rV ((hc.k.2 _ hm).2 y hk);have hts:=dK ht;simp only[tnA];simp only[ha.f1,ha.f2];simp only[tnA];simp only[e];simp only[tnA];simp only[fU ht];simp only[bnA,cond_true,cond_false,beq_self_eq_true];refine YP.guard (by (simp <;> omega)) (YP.guard (by (simp <;> omega)) (YP.ite (fun hz=>?_) (fun hz=>?_)))
   ·refine YP.obind (ia ha (by decide)) ?_
    rintro _ ⟨a',rfl,ha'⟩;simp only[tnA]
    (exact YP.some ⟨_,_,rfl,At.mono (by assumption) (by omega) (fun _=>trivial),(by first | exact fun h=>Bool.noConfusion h | exact fun _=>rfl)⟩)
   have hz:=of_decide_eq_false hz;refine YP.guard (decide_eq_true (by rw[bD];show 1+t.size≤_;omega)) (YP.guard (decide_eq_true (by rw[bD];show 1+t.size≤_;omega)) ?_)
   refine YP.obind (cH ha (by simp) (by simp)) ?_
   rintro _ ⟨u,is,a2,rfl,hi,hil,hu,ha2⟩;simp only[tnA];refine YP.ite (fun hz=>?_) (fun hz=>?_)
   ·have hg:=ha2.zero hz;obtain ⟨v,ev,hv⟩:=h4 _ (List.getElem_mem (show x.toNat < fs.length by omega))
    have hvs:=dK hv;have hus:=nX hg.2.1;simp only[ha2.f1,ha2.f2];simp only[tnA];simp only[e];simp only[tnA];have ev':(T.sl fs).nth x.toNat = .str v:=by rw[bh (show x.toNat < fs.length by omega)];exact ev
    simp only[ev'];simp only[tnA];refine YP.guard (by (simp <;> omega)) (YP.guard (by (simp <;> omega)) (YP.guard (by (simp <;> omega)) (YP.guard (by (simp <;> omega)) ?_)))
    have hcut : ∃c0:UInt8,(c0.toNat=38∨c0.toNat=33)∧u.extract 0 1=⟨#[c0]⟩:=by
     rcases hg.2.2 with h0 | ⟨w,hw,rfl⟩
     ·cases h0
     ·simp only[List.mem_cons,List.not_mem_nil,or_false] at hw;rcases hw with hw | hw
      ·cases hw;exact ⟨38,Or.inl rfl,AN⟩
      ·cases hw;exact ⟨33,Or.inr rfl,AN⟩
    obtain ⟨c0,hc0,ec⟩:=hcut;simp only[ec];refine YP.guard (decide_eq_true (by rw[bD];show 1+v.size≤_;omega)) ?_
    refine YP.obind (cY ha2 (fun _=>wn hc0 hv) hi hil) ?_
    rintro _ ⟨a5,rfl,ha5⟩;simp only[tnA]
    (exact YP.some ⟨_,_,rfl,At.mono (by assumption) (by omega) (fun _=>trivial),(by first | exact fun h=>Bool.noConfusion h | exact fun _=>rfl)⟩)
   ·(exact YP.some ⟨_,_,rfl,At.mono (by assumption) (by omega) (fun _=>trivial),(by first | exact fun h=>Bool.noConfusion h | exact fun _=>rfl)⟩)
 iterate 2
  refine YP.ite (fun _=>?_) (fun _=>?_)
  ·refine YP.obind (cH h (by simp) (by simp)) ?_
   rintro _ ⟨u,is,a2,rfl,hi,hil,hu,ha2⟩;simp only[tnA];refine YP.obind (YP.of (Q:=fun o=>o=_) (lk u) rfl) ?_
   rintro _ rfl;simp only[tnA];refine YP.obind (bz ha2 (by decide)) ?_
   rintro _ ⟨a3,rfl,ha3⟩;simp only[tnA];refine YP.ite (fun hz=>?_) (fun hz=>?_)
   ·refine YP.obind (bz ha3 (by decide)) ?_
    rintro _ ⟨a4,rfl,ha4⟩;simp only[tnA];exact xW (G:=True) (ha4.mono (by omega) fun g=>⟨trivial,g.1.1.2.1⟩) hi hil
   ·have hg:=ha3.good hz;refine YP.obind (YP.of (Q:=fun o=>o=_) (of_s u) rfl) ?_
    rintro _ rfl;simp only[tnA];refine YP.obind (dx hc ha3 (ck hg.1.2.1) (by simp)) ?_
    rintro _ ⟨b,a4,rfl,ha4⟩;simp only[tnA];refine YP.obind (bz ha4 (by decide)) ?_
    rintro _ ⟨a5,rfl,ha5⟩;simp only[tnA];exact xW (G:=True) (ha5.mono (by omega) fun g=>⟨trivial,g.1.1.2.1⟩) hi hil
 refine YP.ite (fun _=>?_) (fun _=>?_)
 ·refine YP.obind (cH h (by simp) (by simp)) ?_
  rintro _ ⟨u,is,a2,rfl,hi,hil,hu,ha2⟩;have hus:u.size≤4:=by
   rcases hu with h | h
   ·omega
   ·exact (nX h).2
  simp only[tnA];refine YP.guard (decide_eq_true (by rw[bD];show 1+u.size≤_;omega)) ?_
  refine YP.obind (cH ha2 (by simp) (by simp)) ?_
  rintro _ ⟨u2,is2,a3,rfl,hi2,hil2,hu2,ha3⟩;simp only[tnA];refine YP.ite (fun hz=>?_) (fun hz=>?_)
  ·refine YP.obind (bz ha3 (by decide)) ?_
   rintro _ ⟨a4,rfl,ha4⟩;simp only[tnA]
   (exact YP.some ⟨_,_,rfl,At.mono (by assumption) (by omega) (fun _=>trivial),(by first | exact fun h=>Bool.noConfusion h | exact fun _=>rfl)⟩)
  ·have hg:=ha3.good hz;refine YP.obind (dx hc ha3 hg.1.2.1 (by simp)) ?_
   rintro _ ⟨b,a4,rfl,ha4⟩;simp only[tnA];refine YP.obind (bz ha4 (by decide)) ?_
   rintro _ ⟨a5,rfl,ha5⟩;simp only[tnA]
   (exact YP.some ⟨_,_,rfl,At.mono (by assumption) (by omega) (fun _=>trivial),(by first | exact fun h=>Bool.noConfusion h | exact fun _=>rfl)⟩)
 refine YP.ite (fun _=>?_) (fun _=>?_)
 ·refine YP.obind (cH h (by simp) (by simp)) ?_
  rintro _ ⟨u,is,a2,rfl,hi,hil,hu,ha2⟩;have hus:u.size≤4:=by
   rcases hu with h | h
   ·omega
   ·exact (nX h).2
  have hos:(ofB u).size≤4:=by
   unfold ofB;cases hr:O8 u with
   | true=>simp only[cond_true,ByteArray.size_extract];omega
   | false=>simp only[cond_false];omega
  simp only[tnA];refine YP.obind (YP.of (Q:=fun o=>o=_) (lk u) rfl) ?_
  rintro _ rfl;simp only[tnA];refine YP.ite (fun hr=>?_) (fun hr=>?_)
  ·have:=rW hr
   refine YP.guard (by (simp <;> omega)) ?_
   refine YP.obind (bz ha2 (by decide)) ?_
   rintro _ ⟨a3,rfl,ha3⟩;simp only[tnA];refine YP.obind (YP.of (Q:=fun o=>o=_) (of_s u) rfl) ?_
   rintro _ rfl;simp only[tnA];refine YP.guard (decide_eq_true (by rw[bD];show 1+(ofB u).size≤_;omega)) ?_
   refine YP.obind (cY ha3 (fun g=>wm g.1.2.1) hi hil) ?_
   rintro _ ⟨a5,rfl,ha5⟩;simp only[tnA]
   (exact YP.some ⟨_,_,rfl,At.mono (by assumption) (by omega) (fun _=>trivial),(by first | exact fun h=>Bool.noConfusion h | exact fun _=>rfl)⟩)
  ·refine YP.obind (bz ha2 (by decide)) ?_
   rintro _ ⟨a3,rfl,ha3⟩;simp only[tnA];refine YP.obind (YP.of (Q:=fun o=>o=_) (of_s u) rfl) ?_
   rintro _ rfl;simp only[tnA];refine YP.guard (decide_eq_true (by rw[bD];show 1+(ofB u).size≤_;omega)) ?_
   refine YP.obind (cY ha3 (fun g=>wm g.1.2.1) hi hil) ?_
   rintro _ ⟨a5,rfl,ha5⟩;simp only[tnA]
   (exact YP.some ⟨_,_,rfl,At.mono (by assumption) (by omega) (fun _=>trivial),(by first | exact fun h=>Bool.noConfusion h | exact fun _=>rfl)⟩)
 (exact YP.some ⟨_,_,rfl,At.mono (by assumption) (by omega) (fun _=>trivial),(by first | exact fun h=>Bool.noConfusion h | exact fun _=>rfl)⟩)
theorem ko {c:Cx} {q:Nat} {G:Prop} {a:T} {n:Int} (hc:co c) (h:At c q G a):YP (fun k=>cl env k dY [(a.fld 3).fld 4,.int n]) po:=by
 rw[h.f3];obtain ⟨_,_,_,_,tk,_,e,_,_,_,h4,_⟩:=hc.f;rw[e];exact vj (by omega)
theorem eE {c:Cx} {q:Nat} {G:Prop} {a:T} {s:ByteArray} {is:List T} (h:At c (q+10) G a) (hs:G→cK c.ks s=true) (hi:Rk is) (hl:is.length≤1000):YP (fun k=>cl env k aK [a,.str s,.sl is]) (AtR c (q+9) G):=cY h hs hi hl
theorem wrap6 {x:Int} (h:0≤x) (h2:x≤2000000):IntKind.wrap .i64 (6+x)=6+x:=bf (by omega) (by omega)
theorem va_keep {c:Cx} {q:Nat} {a:T} (hc:co c) (h:At c (q+10) True a) {s:ByteArray} {x y:Int} (hx:0≤x) (hx2:x≤2000000) (h1:(s.toList==aT.toList)=true):YP (fun k=>cl env k cm [a,.st [.str s,.int x,.int y]]) (gM c q a):=by
 refine YP.call ?_ (fun r h=>dt _ _ h)
 unfold cC;simp only[af,ag,tS,h1];simp only[tnA,bnA,cond_true,cond_false,beq_self_eq_true];refine YP.obind (mI hc h hx) ?_;rintro _ ⟨t,a1,rfl,⟨rfl,ha⟩ | ⟨ht,ha,hk⟩⟩
 ·simp only[tnA,bnA,cond_true,cond_false,beq_self_eq_true]
  (repeat' first | ((with_reducible refine YP.obind (bz (by assumption) (by omega)) ?_);rintro _ ⟨a',he,ha⟩;subst he;try simp only[tnA,bnA,cond_true,cond_false,beq_self_eq_true]) | ((with_reducible refine YP.obind (eB (by assumption) (by assumption)) ?_);rintro _ ⟨b,he⟩;subst he;try simp only[tnA,bnA,cond_true,cond_false,beq_self_eq_true]) | ((with_reducible refine YP.obind (df (by assumption) (by assumption)) ?_);rintro _ ⟨b,he⟩;subst he;try simp only[tnA,bnA,cond_true,cond_false,beq_self_eq_true]) | ((with_reducible refine YP.obind (ko (by assumption) (by assumption)) ?_);rintro _ ⟨b,he⟩;subst he;try simp only[tnA,bnA,cond_true,cond_false,beq_self_eq_true]) | ((with_reducible refine YP.obind (dx (by assumption) (by assumption) (ck (by assumption)) (by simp)) ?_);rintro _ ⟨b,a',he,ha⟩;subst he;try simp only[tnA,bnA,cond_true,cond_false,beq_self_eq_true]) | ((with_reducible refine YP.obind (cH (by assumption) (by simp) (by simp)) ?_);rintro _ ⟨s,is,a',he,hi,hil,hs,ha⟩;subst he;try simp only[tnA,bnA,cond_true,cond_false,beq_self_eq_true]) | ((with_reducible refine YP.obind (eE (by assumption) (fun _=>ty_b _) (by first | exact R8 | exact Rn (by omega) (by omega)) (by simp)) ?_);rintro _ ⟨a',he,ha⟩;subst he;try simp only[tnA,bnA,cond_true,cond_false,beq_self_eq_true]) | ((with_reducible refine YP.obind (YP.some (Q:=fun o=>o = []) rfl) ?_);intro _ he;subst he;try simp only[tnA,bnA,cond_true,cond_false,beq_self_eq_true]) | ((with_reducible refine YP.some ?_);exact ⟨_,_,rfl,At.mono (by assumption) (by omega) (fun _=>trivial),(by first | exact fun h=>Bool.noConfusion h | exact fun _=>rfl)⟩) | (refine YP.guard (by first | (simp <;> omega) | (refine decide_eq_true ?_;rw[bD];have h1:cX.size=1:=rfl;have h2:cI.size=1:=rfl;have h3:(⟨#[]⟩:ByteArray).size=0:=rfl;omega)) ?_))
 ·have hts:=dK ht;simp only[tnA,bnA,cond_true,cond_false,beq_self_eq_true];simp only[fU ht];simp only[tnA,bnA,cond_true,cond_false,beq_self_eq_true]
  (repeat' first | ((with_reducible refine YP.obind (bz (by assumption) (by omega)) ?_);rintro _ ⟨a',he,ha⟩;subst he;try simp only[tnA,bnA,cond_true,cond_false,beq_self_eq_true]) | ((with_reducible refine YP.obind (eB (by assumption) (by assumption)) ?_);rintro _ ⟨b,he⟩;subst he;try simp only[tnA,bnA,cond_true,cond_false,beq_self_eq_true]) | ((with_reducible refine YP.obind (df (by assumption) (by assumption)) ?_);rintro _ ⟨b,he⟩;subst he;try simp only[tnA,bnA,cond_true,cond_false,beq_self_eq_true]) | ((with_reducible refine YP.obind (ko (by assumption) (by assumption)) ?_);rintro _ ⟨b,he⟩;subst he;try simp only[tnA,bnA,cond_true,cond_false,beq_self_eq_true]) | ((with_reducible refine YP.obind (dx (by assumption) (by assumption) (ck (by assumption)) (by simp)) ?_);rintro _ ⟨b,a',he,ha⟩;subst he;try simp only[tnA,bnA,cond_true,cond_false,beq_self_eq_true]) | ((with_reducible refine YP.obind (cH (by assumption) (by simp) (by simp)) ?_);rintro _ ⟨s,is,a',he,hi,hil,hs,ha⟩;subst he;try simp only[tnA,bnA,cond_true,cond_false,beq_self_eq_true]) | ((with_reducible refine YP.obind (eE (by assumption) (fun _=>ty_b _) (by first | exact R8 | exact Rn (by omega) (by omega)) (by simp)) ?_);rintro _ ⟨a',he,ha⟩;subst he;try simp only[tnA,bnA,cond_true,cond_false,beq_self_eq_true]) | ((with_reducible refine YP.obind (YP.some (Q:=fun o=>o = []) rfl) ?_);intro _ he;subst he;try simp only[tnA,bnA,cond_true,cond_false,beq_self_eq_true]) | ((with_reducible refine YP.some ?_);exact ⟨_,_,rfl,At.mono (by assumption) (by omega) (fun _=>trivial),(by first | exact fun h=>Bool.noConfusion h | exact fun _=>rfl)⟩) | (refine YP.guard (by first | (simp <;> omega) | (refine decide_eq_true ?_;rw[bD];have h1:cX.size=1:=rfl;have h2:cI.size=1:=rfl;have h3:(⟨#[]⟩:ByteArray).size=0:=rfl;omega)) ?_))
theorem va_take1 {c:Cx} {q:Nat} {a:T} (hc:co c) (h:At c (q+10) True a) {s:ByteArray} {x y:Int} (hx:0≤x) (hx2:x≤2000000) (h1:(s.toList==aT.toList)=false) (h2:(s.toList==cJ.toList)=true) (h3:(s.toList==bv.toList)=true):YP (fun k=>cl env k cm [a,.st [.str s,.int x,.int y]]) (gM c q a):=by
 refine YP.call ?_ (fun r h=>dt _ _ h)
 unfold cC;simp only[af,ag,tS,h1,h2,h3];simp only[tnA,bnA,cond_true,cond_false,beq_self_eq_true];simp only[wrap6 hx hx2];refine YP.obind (mI hc h hx) ?_;rintro _ ⟨t,a1,rfl,⟨rfl,ha⟩ | ⟨ht,ha,hk⟩⟩
 ·simp only[tnA,bnA,cond_true,cond_false,beq_self_eq_true]
  (repeat' first | ((with_reducible refine YP.obind (bz (by assumption) (by omega)) ?_);rintro _ ⟨a',he,ha⟩;subst he;try simp only[tnA,bnA,cond_true,cond_false,beq_self_eq_true]) | ((with_reducible refine YP.obind (eB (by assumption) (by assumption)) ?_);rintro _ ⟨b,he⟩;subst he;try simp only[tnA,bnA,cond_true,cond_false,beq_self_eq_true]) | ((with_reducible refine YP.obind (df (by assumption) (by assumption)) ?_);rintro _ ⟨b,he⟩;subst he;try simp only[tnA,bnA,cond_true,cond_false,beq_self_eq_true]) | ((with_reducible refine YP.obind (ko (by assumption) (by assumption)) ?_);rintro _ ⟨b,he⟩;subst he;try simp only[tnA,bnA,cond_true,cond_false,beq_self_eq_true]) | ((with_reducible refine YP.obind (dx (by assumption) (by assumption) (ck (by assumption)) (by simp)) ?_);rintro _ ⟨b,a',he,ha⟩;subst he;try simp only[tnA,bnA,cond_true,cond_false,beq_self_eq_true]) | ((with_reducible refine YP.obind (cH (by assumption) (by simp) (by simp)) ?_);rintro _ ⟨s,is,a',he,hi,hil,hs,ha⟩;subst he;try simp only[tnA,bnA,cond_true,cond_false,beq_self_eq_true]) | ((with_reducible refine YP.obind (eE (by assumption) (by intro g;simp at g) (by first | exact R8 | exact Rn (by omega) (by omega)) (by simp)) ?_);rintro _ ⟨a',he,ha⟩;subst he;try simp only[tnA,bnA,cond_true,cond_false,beq_self_eq_true]) | ((with_reducible refine YP.obind (YP.some (Q:=fun o=>o = []) rfl) ?_);intro _ he;subst he;try simp only[tnA,bnA,cond_true,cond_false,beq_self_eq_true]) | ((with_reducible refine YP.some ?_);exact ⟨_,_,rfl,At.mono (by assumption) (by omega) (fun _=>trivial),(by first | exact fun h=>Bool.noConfusion h | exact fun _=>rfl)⟩) | (refine YP.guard (by first | (simp <;> omega) | (refine decide_eq_true ?_;rw[bD];have h1:cX.size=1:=rfl;have h2:cI.size=1:=rfl;have h3:(⟨#[]⟩:ByteArray).size=0:=rfl;omega)) ?_))
 ·have hts:=dK ht;simp only[tnA,bnA,cond_true,cond_false,beq_self_eq_true];simp only[fU ht];simp only[tnA,bnA,cond_true,cond_false,beq_self_eq_true]
  (repeat' first | ((with_reducible refine YP.obind (bz (by assumption) (by omega)) ?_);rintro _ ⟨a',he,ha⟩;subst he;try simp only[tnA,bnA,cond_true,cond_false,beq_self_eq_true]) | ((with_reducible refine YP.obind (eB (by assumption) (by assumption)) ?_);rintro _ ⟨b,he⟩;subst he;try simp only[tnA,bnA,cond_true,cond_false,beq_self_eq_true]) | ((with_reducible refine YP.obind (df (by assumption) (by assumption)) ?_);rintro _ ⟨b,he⟩;subst he;try simp only[tnA,bnA,cond_true,cond_false,beq_self_eq_true]) | ((with_reducible refine YP.obind (ko (by assumption) (by assumption)) ?_);rintro _ ⟨b,he⟩;subst he;try simp only[tnA,bnA,cond_true,cond_false,beq_self_eq_true]) | ((with_reducible refine YP.obind (dx (by assumption) (by assumption) (ck (by assumption)) (by simp)) ?_);rintro _ ⟨b,a',he,ha⟩;subst he;try simp only[tnA,bnA,cond_true,cond_false,beq_self_eq_true]) | ((with_reducible refine YP.obind (cH (by assumption) (by simp) (by simp)) ?_);rintro _ ⟨s,is,a',he,hi,hil,hs,ha⟩;subst he;try simp only[tnA,bnA,cond_true,cond_false,beq_self_eq_true]) | ((with_reducible refine YP.obind (eE (by assumption) (fun _=>ck (by assumption)) (by first | exact R8 | exact Rn (by omega) (by omega)) (by simp)) ?_);rintro _ ⟨a',he,ha⟩;subst he;try simp only[tnA,bnA,cond_true,cond_false,beq_self_eq_true]) | ((with_reducible refine YP.obind (YP.some (Q:=fun o=>o = []) rfl) ?_);intro _ he;subst he;try simp only[tnA,bnA,cond_true,cond_false,beq_self_eq_true]) | ((with_reducible refine YP.some ?_);exact ⟨_,_,rfl,At.mono (by assumption) (by omega) (fun _=>trivial),(by first | exact fun h=>Bool.noConfusion h | exact fun _=>rfl)⟩) | (refine YP.guard (by first | (simp <;> omega) | (refine decide_eq_true ?_;rw[bD];have h1:cX.size=1:=rfl;have h2:cI.size=1:=rfl;have h3:(⟨#[]⟩:ByteArray).size=0:=rfl;omega)) ?_))
theorem va_take2 {c:Cx} {q:Nat} {a:T} (hc:co c) (h:At c (q+10) True a) {s:ByteArray} {x y:Int} (hx:0≤x) (hx2:x≤2000000) (h1:(s.toList==aT.toList)=false) (h2:(s.toList==cJ.toList)=true) (h3:(s.toList==bv.toList)=false):YP (fun k=>cl env k cm [a,.st [.str s,.int x,.int y]]) (gM c q a):=by
 refine YP.call ?_ (fun r h=>dt _ _ h)
 unfold cC;simp only[af,ag,tS,h1,h2,h3];simp only[tnA,bnA,cond_true,cond_false,beq_self_eq_true];simp only[wrap6 hx hx2];refine YP.obind (mI hc h hx) ?_;rintro _ ⟨t,a1,rfl,⟨rfl,ha⟩ | ⟨ht,ha,hk⟩⟩
 ·simp only[tnA,bnA,cond_true,cond_false,beq_self_eq_true]
  (repeat' first | ((with_reducible refine YP.obind (bz (by assumption) (by omega)) ?_);rintro _ ⟨a',he,ha⟩;subst he;try simp only[tnA,bnA,cond_true,cond_false,beq_self_eq_true]) | ((with_reducible refine YP.obind (eB (by assumption) (by assumption)) ?_);rintro _ ⟨b,he⟩;subst he;try simp only[tnA,bnA,cond_true,cond_false,beq_self_eq_true]) | ((with_reducible refine YP.obind (df (by assumption) (by assumption)) ?_);rintro _ ⟨b,he⟩;subst he;try simp only[tnA,bnA,cond_true,cond_false,beq_self_eq_true]) | ((with_reducible refine YP.obind (ko (by assumption) (by assumption)) ?_);rintro _ ⟨b,he⟩;subst he;try simp only[tnA,bnA,cond_true,cond_false,beq_self_eq_true]) | ((with_reducible refine YP.obind (dx (by assumption) (by assumption) (ck (by assumption)) (by simp)) ?_);rintro _ ⟨b,a',he,ha⟩;subst he;try simp only[tnA,bnA,cond_true,cond_false,beq_self_eq_true]) | ((with_reducible refine YP.obind (cH (by assumption) (by simp) (by simp)) ?_);rintro _ ⟨s,is,a',he,hi,hil,hs,ha⟩;subst he;try simp only[tnA,bnA,cond_true,cond_false,beq_self_eq_true]) | ((with_reducible refine YP.obind (eE (by assumption) (by intro g;simp at g) (by first | exact R8 | exact Rn (by omega) (by omega)) (by simp)) ?_);rintro _ ⟨a',he,ha⟩;subst he;try simp only[tnA,bnA,cond_true,cond_false,beq_self_eq_true]) | ((with_reducible refine YP.obind (YP.some (Q:=fun o=>o = []) rfl) ?_);intro _ he;subst he;try simp only[tnA,bnA,cond_true,cond_false,beq_self_eq_true]) | ((with_reducible refine YP.some ?_);exact ⟨_,_,rfl,At.mono (by assumption) (by omega) (fun _=>trivial),(by first | exact fun h=>Bool.noConfusion h | exact fun _=>rfl)⟩) | (refine YP.guard (by first | (simp <;> omega) | (refine decide_eq_true ?_;rw[bD];have h1:cX.size=1:=rfl;have h2:cI.size=1:=rfl;have h3:(⟨#[]⟩:ByteArray).size=0:=rfl;omega)) ?_))
 ·have hts:=dK ht;simp only[tnA,bnA,cond_true,cond_false,beq_self_eq_true];simp only[fU ht];simp only[tnA,bnA,cond_true,cond_false,beq_self_eq_true]
  (repeat' first | ((with_reducible refine YP.obind (bz (by assumption) (by omega)) ?_);rintro _ ⟨a',he,ha⟩;subst he;try simp only[tnA,bnA,cond_true,cond_false,beq_self_eq_true]) | ((with_reducible refine YP.obind (eB (by assumption) (by assumption)) ?_);rintro _ ⟨b,he⟩;subst he;try simp only[tnA,bnA,cond_true,cond_false,beq_self_eq_true]) | ((with_reducible refine YP.obind (df (by assumption) (by assumption)) ?_);rintro _ ⟨b,he⟩;subst he;try simp only[tnA,bnA,cond_true,cond_false,beq_self_eq_true]) | ((with_reducible refine YP.obind (ko (by assumption) (by assumption)) ?_);rintro _ ⟨b,he⟩;subst he;try simp only[tnA,bnA,cond_true,cond_false,beq_self_eq_true]) | ((with_reducible refine YP.obind (dx (by assumption) (by assumption) (ck (by assumption)) (by simp)) ?_);rintro _ ⟨b,a',he,ha⟩;subst he;try simp only[tnA,bnA,cond_true,cond_false,beq_self_eq_true]) | ((with_reducible refine YP.obind (cH (by assumption) (by simp) (by simp)) ?_);rintro _ ⟨s,is,a',he,hi,hil,hs,ha⟩;subst he;try simp only[tnA,bnA,cond_true,cond_false,beq_self_eq_true]) | ((with_reducible refine YP.obind (eE (by assumption) (fun _=>ck (by assumption)) (by first | exact R8 | exact Rn (by omega) (by omega)) (by simp)) ?_);rintro _ ⟨a',he,ha⟩;subst he;try simp only[tnA,bnA,cond_true,cond_false,beq_self_eq_true]) | ((with_reducible refine YP.obind (YP.some (Q:=fun o=>o = []) rfl) ?_);intro _ he;subst he;try simp only[tnA,bnA,cond_true,cond_false,beq_self_eq_true]) | ((with_reducible refine YP.some ?_);exact ⟨_,_,rfl,At.mono (by assumption) (by omega) (fun _=>trivial),(by first | exact fun h=>Bool.noConfusion h | exact fun _=>rfl)⟩) | (refine YP.guard (by first | (simp <;> omega) | (refine decide_eq_true ?_;rw[bD];have h1:cX.size=1:=rfl;have h2:cI.size=1:=rfl;have h3:(⟨#[]⟩:ByteArray).size=0:=rfl;omega)) ?_))
theorem va_has {c:Cx} {q:Nat} {a:T} (hc:co c) (h:At c (q+10) True a) {s:ByteArray} {x y:Int} (hx:0≤x) (hx2:x≤2000000) (h1:(s.toList==aT.toList)=false) (h2:(s.toList==cJ.toList)=false) (h3:(s.toList==bv.toList)=true):YP (fun k=>cl env k cm [a,.st [.str s,.int x,.int y]]) (gM c q a):=by
 refine YP.call ?_ (fun r h=>dt _ _ h)
 unfold cC;simp only[af,ag,tS,h1,h2,h3];simp only[tnA,bnA,cond_true,cond_false,beq_self_eq_true];refine YP.obind (mI hc h hx) ?_;rintro _ ⟨t,a1,rfl,⟨rfl,ha⟩ | ⟨ht,ha,hk⟩⟩
 ·simp only[tnA,bnA,cond_true,cond_false,beq_self_eq_true]
  (repeat' first | ((with_reducible refine YP.obind (bz (by assumption) (by omega)) ?_);rintro _ ⟨a',he,ha⟩;subst he;try simp only[tnA,bnA,cond_true,cond_false,beq_self_eq_true]) | ((with_reducible refine YP.obind (eB (by assumption) (by assumption)) ?_);rintro _ ⟨b,he⟩;subst he;try simp only[tnA,bnA,cond_true,cond_false,beq_self_eq_true]) | ((with_reducible refine YP.obind (df (by assumption) (by assumption)) ?_);rintro _ ⟨b,he⟩;subst he;try simp only[tnA,bnA,cond_true,cond_false,beq_self_eq_true]) | ((with_reducible refine YP.obind (ko (by assumption) (by assumption)) ?_);rintro _ ⟨b,he⟩;subst he;try simp only[tnA,bnA,cond_true,cond_false,beq_self_eq_true]) | ((with_reducible refine YP.obind (dx (by assumption) (by assumption) (ck (by assumption)) (by simp)) ?_);rintro _ ⟨b,a',he,ha⟩;subst he;try simp only[tnA,bnA,cond_true,cond_false,beq_self_eq_true]) | ((with_reducible refine YP.obind (cH (by assumption) (by simp) (by simp)) ?_);rintro _ ⟨s,is,a',he,hi,hil,hs,ha⟩;subst he;try simp only[tnA,bnA,cond_true,cond_false,beq_self_eq_true]) | ((with_reducible refine YP.obind (eE (by assumption) (fun _=>ty_b _) (by first | exact R8 | exact Rn (by omega) (by omega)) (by simp)) ?_);rintro _ ⟨a',he,ha⟩;subst he;try simp only[tnA,bnA,cond_true,cond_false,beq_self_eq_true]) | ((with_reducible refine YP.obind (YP.some (Q:=fun o=>o = []) rfl) ?_);intro _ he;subst he;try simp only[tnA,bnA,cond_true,cond_false,beq_self_eq_true]) | ((with_reducible refine YP.some ?_);exact ⟨_,_,rfl,At.mono (by assumption) (by omega) (fun _=>trivial),(by first | exact fun h=>Bool.noConfusion h | exact fun _=>rfl)⟩) | (refine YP.guard (by first | (simp <;> omega) | (refine decide_eq_true ?_;rw[bD];have h1:cX.size=1:=rfl;have h2:cI.size=1:=rfl;have h3:(⟨#[]⟩:ByteArray).size=0:=rfl;omega)) ?_))
 ·have hts:=dK ht;simp only[tnA,bnA,cond_true,cond_false,beq_self_eq_true];simp only[fU ht];simp only[tnA,bnA,cond_true,cond_false,beq_self_eq_true]
  (repeat' first | ((with_reducible refine YP.obind (bz (by assumption) (by omega)) ?_);rintro _ ⟨a',he,ha⟩;subst he;try simp only[tnA,bnA,cond_true,cond_false,beq_self_eq_true]) | ((with_reducible refine YP.obind (eB (by assumption) (by assumption)) ?_);rintro _ ⟨b,he⟩;subst he;try simp only[tnA,bnA,cond_true,cond_false,beq_self_eq_true]) | ((with_reducible refine YP.obind (df (by assumption) (by assumption)) ?_);rintro _ ⟨b,he⟩;subst he;try simp only[tnA,bnA,cond_true,cond_false,beq_self_eq_true]) | ((with_reducible refine YP.obind (ko (by assumption) (by assumption)) ?_);rintro _ ⟨b,he⟩;subst he;try simp only[tnA,bnA,cond_true,cond_false,beq_self_eq_true]) | ((with_reducible refine YP.obind (dx (by assumption) (by assumption) (ck (by assumption)) (by simp)) ?_);rintro _ ⟨b,a',he,ha⟩;subst he;try simp only[tnA,bnA,cond_true,cond_false,beq_self_eq_true]) | ((with_reducible refine YP.obind (cH (by assumption) (by simp) (by simp)) ?_);rintro _ ⟨s,is,a',he,hi,hil,hs,ha⟩;subst he;try simp only[tnA,bnA,cond_true,cond_false,beq_self_eq_true]) | ((with_reducible refine YP.obind (eE (by assumption) (fun _=>ty_b _) (by first | exact R8 | exact Rn (by omega) (by omega)) (by simp)) ?_);rintro _ ⟨a',he,ha⟩;subst he;try simp only[tnA,bnA,cond_true,cond_false,beq_self_eq_true]) | ((with_reducible refine YP.obind (YP.some (Q:=fun o=>o = []) rfl) ?_);intro _ he;subst he;try simp only[tnA,bnA,cond_true,cond_false,beq_self_eq_true]) | ((with_reducible refine YP.some ?_);exact ⟨_,_,rfl,At.mono (by assumption) (by omega) (fun _=>trivial),(by first | exact fun h=>Bool.noConfusion h | exact fun _=>rfl)⟩) | (refine YP.guard (by first | (simp <;> omega) | (refine decide_eq_true ?_;rw[bD];have h1:cX.size=1:=rfl;have h2:cI.size=1:=rfl;have h3:(⟨#[]⟩:ByteArray).size=0:=rfl;omega)) ?_))
theorem va_see {c:Cx} {q:Nat} {a:T} (hc:co c) (h:At c (q+10) True a) {s:ByteArray} {x y:Int} (hx:0≤x) (hx2:x≤2000000) (h1:(s.toList==aT.toList)=false) (h2:(s.toList==cJ.toList)=false) (h3:(s.toList==bv.toList)=false) (h4:(s.toList==kt.toList)=true):YP (fun k=>cl env k cm [a,.st [.str s,.int x,.int y]]) (gM c q a):=by
 refine YP.call ?_ (fun r h=>dt _ _ h)
 unfold cC;simp only[af,ag,tS,h1,h2,h3,h4];simp only[tnA,bnA,cond_true,cond_false,beq_self_eq_true];simp only[wrap6 hx hx2];refine YP.obind (mI hc h hx) ?_;rintro _ ⟨t,a1,rfl,⟨rfl,ha⟩ | ⟨ht,ha,hk⟩⟩
 ·simp only[tnA,bnA,cond_true,cond_false,beq_self_eq_true]
  (repeat' first | ((with_reducible refine YP.obind (bz (by assumption) (by omega)) ?_);rintro _ ⟨a',he,ha⟩;subst he;try simp only[tnA,bnA,cond_true,cond_false,beq_self_eq_true]) | ((with_reducible refine YP.obind (eB (by assumption) (by assumption)) ?_);rintro _ ⟨b,he⟩;subst he;try simp only[tnA,bnA,cond_true,cond_false,beq_self_eq_true]) | ((with_reducible refine YP.obind (df (by assumption) (by assumption)) ?_);rintro _ ⟨b,he⟩;subst he;try simp only[tnA,bnA,cond_true,cond_false,beq_self_eq_true]) | ((with_reducible refine YP.obind (ko (by assumption) (by assumption)) ?_);rintro _ ⟨b,he⟩;subst he;try simp only[tnA,bnA,cond_true,cond_false,beq_self_eq_true]) | ((with_reducible refine YP.obind (dx (by assumption) (by assumption) (ck (by assumption)) (by simp)) ?_);rintro _ ⟨b,a',he,ha⟩;subst he;try simp only[tnA,bnA,cond_true,cond_false,beq_self_eq_true]) | ((with_reducible refine YP.obind (cH (by assumption) (by simp) (by simp)) ?_);rintro _ ⟨s,is,a',he,hi,hil,hs,ha⟩;subst he;try simp only[tnA,bnA,cond_true,cond_false,beq_self_eq_true]) | ((with_reducible refine YP.obind (eE (by assumption) (by intro g;simp at g) (by first | exact R8 | exact Rn (by omega) (by omega)) (by simp)) ?_);rintro _ ⟨a',he,ha⟩;subst he;try simp only[tnA,bnA,cond_true,cond_false,beq_self_eq_true]) | ((with_reducible refine YP.obind (YP.some (Q:=fun o=>o = []) rfl) ?_);intro _ he;subst he;try simp only[tnA,bnA,cond_true,cond_false,beq_self_eq_true]) | ((with_reducible refine YP.some ?_);exact ⟨_,_,rfl,At.mono (by assumption) (by omega) (fun _=>trivial),(by first | exact fun h=>Bool.noConfusion h | exact fun _=>rfl)⟩) | (refine YP.guard (by first | (simp <;> omega) | (refine decide_eq_true ?_;rw[bD];have h1:cX.size=1:=rfl;have h2:cI.size=1:=rfl;have h3:(⟨#[]⟩:ByteArray).size=0:=rfl;omega)) ?_))
 ·have hts:=dK ht;simp only[tnA,bnA,cond_true,cond_false,beq_self_eq_true];simp only[fU ht];simp only[tnA,bnA,cond_true,cond_false,beq_self_eq_true]
  (repeat' first | ((with_reducible refine YP.obind (bz (by assumption) (by omega)) ?_);rintro _ ⟨a',he,ha⟩;subst he;try simp only[tnA,bnA,cond_true,cond_false,beq_self_eq_true]) | ((with_reducible refine YP.obind (eB (by assumption) (by assumption)) ?_);rintro _ ⟨b,he⟩;subst he;try simp only[tnA,bnA,cond_true,cond_false,beq_self_eq_true]) | ((with_reducible refine YP.obind (df (by assumption) (by assumption)) ?_);rintro _ ⟨b,he⟩;subst he;try simp only[tnA,bnA,cond_true,cond_false,beq_self_eq_true]) | ((with_reducible refine YP.obind (ko (by assumption) (by assumption)) ?_);rintro _ ⟨b,he⟩;subst he;try simp only[tnA,bnA,cond_true,cond_false,beq_self_eq_true]) | ((with_reducible refine YP.obind (dx (by assumption) (by assumption) (ck (by assumption)) (by simp)) ?_);rintro _ ⟨b,a',he,ha⟩;subst he;try simp only[tnA,bnA,cond_true,cond_false,beq_self_eq_true]) | ((with_reducible refine YP.obind (cH (by assumption) (by simp) (by simp)) ?_);rintro _ ⟨s,is,a',he,hi,hil,hs,ha⟩;subst he;try simp only[tnA,bnA,cond_true,cond_false,beq_self_eq_true]) | ((with_reducible refine YP.obind (eE (by assumption) (fun _=>wm (by assumption)) (by first | exact R8 | exact Rn (by omega) (by omega)) (by simp)) ?_);rintro _ ⟨a',he,ha⟩;subst he;try simp only[tnA,bnA,cond_true,cond_false,beq_self_eq_true]) | ((with_reducible refine YP.obind (YP.some (Q:=fun o=>o = []) rfl) ?_);intro _ he;subst he;try simp only[tnA,bnA,cond_true,cond_false,beq_self_eq_true]) | ((with_reducible refine YP.some ?_);exact ⟨_,_,rfl,At.mono (by assumption) (by omega) (fun _=>trivial),(by first | exact fun h=>Bool.noConfusion h | exact fun _=>rfl)⟩) | (refine YP.guard (by first | (simp <;> omega) | (refine decide_eq_true ?_;rw[bD];have h1:cX.size=1:=rfl;have h2:cI.size=1:=rfl;have h3:(⟨#[]⟩:ByteArray).size=0:=rfl;omega)) ?_))
theorem va_seew {c:Cx} {q:Nat} {a:T} (hc:co c) (h:At c (q+10) True a) {s:ByteArray} {x y:Int} (hx:0≤x) (hx2:x≤2000000) (h1:(s.toList==aT.toList)=false) (h2:(s.toList==cJ.toList)=false) (h3:(s.toList==bv.toList)=false) (h4:(s.toList==kt.toList)=false) (h5:(s.toList==rm.toList)=true):YP (fun k=>cl env k cm [a,.st [.str s,.int x,.int y]]) (gM c q a):=by
 refine YP.call ?_ (fun r h=>dt _ _ h)
 unfold cC;simp only[af,ag,tS,h1,h2,h3,h4,h5];simp only[tnA,bnA,cond_true,cond_false,beq_self_eq_true];simp only[wrap6 hx hx2];refine YP.obind (mI hc h hx) ?_;rintro _ ⟨t,a1,rfl,⟨rfl,ha⟩ | ⟨ht,ha,hk⟩⟩
 ·simp only[tnA,bnA,cond_true,cond_false,beq_self_eq_true]
  (repeat' first | ((with_reducible refine YP.obind (bz (by assumption) (by omega)) ?_);rintro _ ⟨a',he,ha⟩;subst he;try simp only[tnA,bnA,cond_true,cond_false,beq_self_eq_true]) | ((with_reducible refine YP.obind (eB (by assumption) (by assumption)) ?_);rintro _ ⟨b,he⟩;subst he;try simp only[tnA,bnA,cond_true,cond_false,beq_self_eq_true]) | ((with_reducible refine YP.obind (df (by assumption) (by assumption)) ?_);rintro _ ⟨b,he⟩;subst he;try simp only[tnA,bnA,cond_true,cond_false,beq_self_eq_true]) | ((with_reducible refine YP.obind (ko (by assumption) (by assumption)) ?_);rintro _ ⟨b,he⟩;subst he;try simp only[tnA,bnA,cond_true,cond_false,beq_self_eq_true]) | ((with_reducible refine YP.obind (dx (by assumption) (by assumption) (ck (by assumption)) (by simp)) ?_);rintro _ ⟨b,a',he,ha⟩;subst he;try simp only[tnA,bnA,cond_true,cond_false,beq_self_eq_true]) | ((with_reducible refine YP.obind (cH (by assumption) (by simp) (by simp)) ?_);rintro _ ⟨s,is,a',he,hi,hil,hs,ha⟩;subst he;try simp only[tnA,bnA,cond_true,cond_false,beq_self_eq_true]) | ((with_reducible refine YP.obind (eE (by assumption) (by intro g;simp at g) (by first | exact R8 | exact Rn (by omega) (by omega)) (by simp)) ?_);rintro _ ⟨a',he,ha⟩;subst he;try simp only[tnA,bnA,cond_true,cond_false,beq_self_eq_true]) | ((with_reducible refine YP.obind (YP.some (Q:=fun o=>o = []) rfl) ?_);intro _ he;subst he;try simp only[tnA,bnA,cond_true,cond_false,beq_self_eq_true]) | ((with_reducible refine YP.some ?_);exact ⟨_,_,rfl,At.mono (by assumption) (by omega) (fun _=>trivial),(by first | exact fun h=>Bool.noConfusion h | exact fun _=>rfl)⟩) | (refine YP.guard (by first | (simp <;> omega) | (refine decide_eq_true ?_;rw[bD];have h1:cX.size=1:=rfl;have h2:cI.size=1:=rfl;have h3:(⟨#[]⟩:ByteArray).size=0:=rfl;omega)) ?_))
 ·have hts:=dK ht;simp only[tnA,bnA,cond_true,cond_false,beq_self_eq_true];simp only[fU ht];simp only[tnA,bnA,cond_true,cond_false,beq_self_eq_true]
  (repeat' first | ((with_reducible refine YP.obind (bz (by assumption) (by omega)) ?_);rintro _ ⟨a',he,ha⟩;subst he;try simp only[tnA,bnA,cond_true,cond_false,beq_self_eq_true]) | ((with_reducible refine YP.obind (eB (by assumption) (by assumption)) ?_);rintro _ ⟨b,he⟩;subst he;try simp only[tnA,bnA,cond_true,cond_false,beq_self_eq_true]) | ((with_reducible refine YP.obind (df (by assumption) (by assumption)) ?_);rintro _ ⟨b,he⟩;subst he;try simp only[tnA,bnA,cond_true,cond_false,beq_self_eq_true]) | ((with_reducible refine YP.obind (ko (by assumption) (by assumption)) ?_);rintro _ ⟨b,he⟩;subst he;try simp only[tnA,bnA,cond_true,cond_false,beq_self_eq_true]) | ((with_reducible refine YP.obind (dx (by assumption) (by assumption) (ck (by assumption)) (by simp)) ?_);rintro _ ⟨b,a',he,ha⟩;subst he;try simp only[tnA,bnA,cond_true,cond_false,beq_self_eq_true]) | ((with_reducible refine YP.obind (cH (by assumption) (by simp) (by simp)) ?_);rintro _ ⟨s,is,a',he,hi,hil,hs,ha⟩;subst he;try simp only[tnA,bnA,cond_true,cond_false,beq_self_eq_true]) | ((with_reducible refine YP.obind (eE (by assumption) (fun _=>AQ (by assumption)) (by first | exact R8 | exact Rn (by omega) (by omega)) (by simp)) ?_);rintro _ ⟨a',he,ha⟩;subst he;try simp only[tnA,bnA,cond_true,cond_false,beq_self_eq_true]) | ((with_reducible refine YP.obind (YP.some (Q:=fun o=>o = []) rfl) ?_);intro _ he;subst he;try simp only[tnA,bnA,cond_true,cond_false,beq_self_eq_true]) | ((with_reducible refine YP.some ?_);exact ⟨_,_,rfl,At.mono (by assumption) (by omega) (fun _=>trivial),(by first | exact fun h=>Bool.noConfusion h | exact fun _=>rfl)⟩) | (refine YP.guard (by first | (simp <;> omega) | (refine decide_eq_true ?_;rw[bD];have h1:cX.size=1:=rfl;have h2:cI.size=1:=rfl;have h3:(⟨#[]⟩:ByteArray).size=0:=rfl;omega)) ?_))
theorem va_none {c:Cx} {q:Nat} {a:T} (hc:co c) (h:At c (q+10) True a) {s:ByteArray} {x y:Int} (hx:0≤x) (hx2:x≤2000000) (h1:(s.toList==aT.toList)=false) (h2:(s.toList==cJ.toList)=false) (h3:(s.toList==bv.toList)=false) (h4:(s.toList==kt.toList)=false) (h5:(s.toList==rm.toList)=false):YP (fun k=>cl env k cm [a,.st [.str s,.int x,.int y]]) (gM c q a):=by
 refine YP.call ?_ (fun r h=>dt _ _ h)
 unfold cC;simp only[af,ag,tS,h1,h2,h3,h4,h5];simp only[tnA,bnA,cond_true,cond_false,beq_self_eq_true]
 (exact YP.some ⟨_,_,rfl,At.mono (by assumption) (by omega) (fun _=>trivial),(by first | exact fun h=>Bool.noConfusion h | exact fun _=>rfl)⟩)
theorem BF {c:Cx} {q:Nat} {a:T} (hc:co c) (h:At c (q+10) True a) {s:ByteArray} {x y:Int} (hx:0≤x) (hx2:x≤2000000):YP (fun k=>cl env k cm [a,.st [.str s,.int x,.int y]]) (gM c q a):=by
 cases h1:(s.toList==aT.toList) with
 | true=>exact va_keep hc h hx hx2 h1
 | false=>
 cases h2:(s.toList==cJ.toList) with
 | true=>
  cases h3:(s.toList==bv.toList) with
  | true=>exact va_take1 hc h hx hx2 h1 h2 h3
  | false=>exact va_take2 hc h hx hx2 h1 h2 h3
 | false=>
 cases h3:(s.toList==bv.toList) with
 | true=>exact va_has hc h hx hx2 h1 h2 h3
 | false=>
 cases h4:(s.toList==kt.toList) with
 | true=>exact va_see hc h hx hx2 h1 h2 h3 h4
 | false=>
 cases h5:(s.toList==rm.toList) with
 | true=>exact va_seew hc h hx hx2 h1 h2 h3 h4 h5
 | false=>exact va_none hc h hx hx2 h1 h2 h3 h4 h5
def HasR (sh:List T) (m f:Int) (o:List T):Prop:=∃b:Bool,o = [.bool b]∧(b=true→0≤m∧m.toNat < sh.length∧0≤f∧f.toNat < (((T.sl sh).nth m.toNat).fld 1).es.length)
theorem zv {ks sh:List T} (hs : ∀x∈sh,oH ks x) {i:Nat} (h:i < sh.length):oH ks ((T.sl sh).nth i):=by rw[bh h];exact hs _ (List.getElem_mem h)
theorem ct_has {ks sh:List T} (hsl:sh.length≤1000) (hs : ∀x∈sh,oH ks x) {m f:Int} : YP (fun k=>cl env k P9 [.sl sh,.int m,.int f]) (HasR sh m f):=by
 refine YP.call ?_ (fun r h=>qi _ _ _ h)
 unfold hY;simp only[tnA];have e1:IntKind.wrap .i64 ((sh.length:Int) - 1)=(sh.length:Int) - 1:=bf (by omega) (by omega)
 simp only[e1];refine YP.obind (YP.of (Q:=fun o=>o=_) (Vo m 0 _) rfl) ?_
 rintro _ rfl;simp only[tnA];refine YP.ite (fun hc=>?_) (fun hc=>?_)
 ·rw[Bool.and_eq_true,decide_eq_true_eq,decide_eq_true_eq] at hc;obtain ⟨rs,fs,fr,e,h1,h2,h3,h4⟩:=zv hs (show m.toNat < sh.length by omega)
  simp only[e];simp only[tnA];have e2:IntKind.wrap .i64 ((fs.length:Int) - 1)=(fs.length:Int) - 1:=bf (by omega) (by omega)
  simp only[e2];refine YP.guard (by (simp <;> omega)) ?_
  refine YP.obind (YP.of (Q:=fun o=>o=_) (Vo f 0 _) rfl) ?_
  rintro _ rfl;simp only[tnA];refine YP.some ⟨_,rfl,fun h=>?_⟩
  rw[Bool.and_eq_true,decide_eq_true_eq,decide_eq_true_eq] at h;rw[e];simp only[tnA];omega
 ·exact YP.some ⟨false,rfl,fun h=>by cases h⟩
theorem ct_seen {ks sh:List T} (hsl:sh.length≤1000) (hs : ∀x∈sh,oH ks x) {w m f:Int} : YP (fun k=>cl env k mf [.sl sh,.int w,.int m,.int f]) (HasR sh m f):=by
 refine YP.call ?_ (fun r h=>Qp _ _ _ _ h)
 unfold mr;simp only[tnA];refine YP.obind (ct_has hsl hs) ?_;rintro _ ⟨b,rfl,hb⟩;simp only[tnA];have no:HasR sh m f [.bool false]:=⟨false,rfl,fun h=>by cases h⟩
 refine YP.ite (fun hc=>YP.some no) (fun hc=>?_)
 have hb:=hb (by cases b with | true=>rfl | false=>cases hc)
 have e1:IntKind.wrap .i64 ((sh.length:Int) - 1)=(sh.length:Int) - 1:=bf (by omega) (by omega)
 simp only[e1];refine YP.obind (YP.of (Q:=fun o=>o=_) (Vo w 0 _) rfl) ?_
 rintro _ rfl;simp only[tnA];refine YP.ite (fun hc=>YP.some no) (fun hc=>?_)
 refine YP.ite (fun hc=>YP.some no) (fun hc=>?_)
 obtain ⟨rs,fs,fr,e,h1,h2,h3,h4⟩:=zv hs hb.2.1;have hb':=hb;rw[e] at hb;have hb2:f.toNat < fs.length:=hb.2.2.2
 simp only[e];simp only[tnA];refine YP.guard (by (simp <;> omega)) (YP.guard (by (simp <;> omega)) ?_)
 refine YP.ite (fun hc=>YP.some ⟨true,rfl,fun _=>hb'⟩) (fun hc=>?_)
 refine YP.ite (fun hc=>YP.some ⟨true,rfl,fun _=>hb'⟩) (fun hc=>?_)
 refine YP.ite (fun hc=>?_) (fun hc=>YP.some no)
 refine YP.guard (by (simp <;> omega)) ?_
 refine YP.obind (vj (by omega)) ?_
 rintro _ ⟨b2,rfl⟩;exact YP.some ⟨b2,rfl,fun _=>hb'⟩
theorem yQ {c:Cx} {q:Nat} {n0:Int} {ags rs ls tk cd xs:List T} (hr:dL c.ks rs) (hrl:rs.length≤10) (hx:Rk xs) (hxl:xs.length≤1000) : ∀{d i:Nat} {G:Prop} {a:T},i+d=rs.length→At c (q+d) G a→
  YP (fun k=>eW (hl env k bn) (.sl xs) (.int (i:Int)) a (.st [.int n0,.sl ags,.sl rs,.sl ls,.sl tk,.sl cd])) (AtR c q True)
 | 0,i,G,a,hd,h=>by
  refine YP.call ?_ (fun r h=>ot _ _ _ _ h)
  unfold gl;simp only[tnA];exact YP.ff (decide_eq_false (by omega)) (YP.some ⟨_,rfl,h.mono (by omega) fun _=>trivial⟩)
 | d+1,i,G,a,hd,h=>by
  refine YP.call ?_ (fun r h=>ot _ _ _ _ h)
  unfold gl;simp only[tnA];obtain ⟨s,e,hs⟩:=hr _ (List.getElem_mem (show i < rs.length by omega))
  have e':(T.sl rs).nth i = .str s:=by rw[bh (by omega)];exact e
  simp only[e'];rw[cF (by omega)]
  refine YP.tt (decide_eq_true (by omega)) (YP.guard (by (simp <;> omega)) ?_)
  refine YP.obind (YP.of (Q:=fun o=>o=_) (lk s) rfl) ?_
  rintro _ rfl;simp only[tnA];refine YP.ite (fun hc=>?_) (fun hc=>?_)
  ·refine YP.guard (by (simp <;> omega)) ?_
   refine YP.obind (cY (q:=q+d) h (fun _=>hs) hx hxl) ?_
   rintro _ ⟨a1,rfl,ha⟩;simp only[tnA];exact yQ hr hrl hx hxl (d:=d) (i:=i+1) (by omega) ha
  ·refine YP.guard (by (simp <;> omega)) ?_
   refine YP.obind (cY (q:=q+d) h (fun _=>hs) R8 (by simp)) ?_
   rintro _ ⟨a1,rfl,ha⟩;simp only[tnA];exact yQ hr hrl hx hxl (d:=d) (i:=i+1) (by omega) ha
theorem yP {c:Cx} {q:Nat} {n0:Int} {ags rs ls tk cd:List T} {b:Bool} (ha:dL c.ks ags) (hal:ags.length≤10) (hr:dL c.ks rs) (hrl:rs.length≤10) : ∀{i:Nat} {G:Prop} {a:T} {xs:List T},i≤ags.length→Rk xs→xs.length≤1000→At c (q+10) G a→
  YP (fun k=>gA (hl env k bn) (.bool b) (.sl xs) (.int ((i:Int) - 1)) a (.st [.int n0,.sl ags,.sl rs,.sl ls,.sl tk,.sl cd])) (AtR c q True)
 | 0,G,a,xs,hi,hx,hxl,h=>by
  refine YP.call ?_ (fun r h=>oq _ _ _ _ _ h)
  unfold gk;simp only[tnA];refine YP.ff (decide_eq_false (by omega)) ?_
  refine YP.obind (bz h (by decide)) ?_
  rintro _ ⟨a1,rfl,h1⟩;simp only[tnA];exact yQ hr hrl hx hxl (d:=rs.length) (i:=0) (by omega) (h1.mono (by omega) id)
 | i+1,G,a,xs,hi,hx,hxl,h=>by
  refine YP.call ?_ (fun r h=>oq _ _ _ _ _ h)
  unfold gk;have e0:((i+1:Nat):Int) - 1=(i:Int):=by omega
  have e1:IntKind.wrap .i64 ((i:Int) - 1)=(i:Int) - 1:=bf (by omega) (by omega)
  simp only[e0];simp only[tnA];simp only[e1];obtain ⟨s,e,hs⟩:=ha _ (List.getElem_mem (show i < ags.length by omega))
  have e':(T.sl ags).nth i = .str s:=by rw[bh (by omega)];exact e
  simp only[e'];refine YP.tt (decide_eq_true (by omega)) (YP.guard (by (simp <;> omega)) ?_)
  refine YP.obind (cH h (by simp) (by simp)) ?_
  rintro _ ⟨u,is,a1,rfl,hi1,hil,hu,h1⟩;simp only[tnA];refine YP.obind (ct_union (by omega) (by omega)) ?_
  rintro _ ⟨ys,rfl,hy,hyl⟩;simp only[tnA];exact yP ha hal hr hrl (i:=i) (by omega) hy (by omega) h1
theorem call_1 {c:Cx} {q:Nat} {n0 x y:Int} {s:ByteArray} {ags rs ls tk cd:List T} (hc:co c) (ha:dL c.ks ags) (hal:ags.length≤10) (hr:dL c.ks rs) (hrl:rs.length≤10) (htk:cz tk) (htl:tk.length≤10) : ∀{d i:Nat} {b:Bool} {G:Prop} {a:T},i+d=tk.length→At c (q+10) G a→
  YP (fun k=>gz (hl env k bn) (.bool b) (.int (i:Int)) a (.st [.str s,.int x,.int y]) (.st [.int n0,.sl ags,.sl rs,.sl ls,.sl tk,.sl cd])) (AtR c q True):=by
 intro d;induction d with
 | zero=>
  intro i b G a hd h;refine YP.call ?_ (fun r h=>om _ _ _ _ _ h)
  unfold gh;have ed:decide ((T.int (i:Int)).i < ((((T.st [.int n0,.sl ags,.sl rs,.sl ls,.sl tk,.sl cd]).fld 4).es).length:Int))=false:=decide_eq_false (by simp only[tnA];omega)
  simp only[ed];simp only[tnA,bnA,cond_true,cond_false,beq_self_eq_true];have e1:IntKind.wrap .i64 ((ags.length:Int) - 1)=(ags.length:Int) - 1:=bf (by omega) (by omega)
  rw[e1];exact yP ha hal hr hrl (Nat.le_refl _) R8 (by simp) h
 | succ d ih=>
  intro i b G a hd h;refine YP.call ?_ (fun r h=>om _ _ _ _ _ h)
  unfold gh;have ed:decide ((T.int (i:Int)).i < ((((T.st [.int n0,.sl ags,.sl rs,.sl ls,.sl tk,.sl cd]).fld 4).es).length:Int))=true:=decide_eq_true (by simp only[tnA];omega)
  simp only[ed];simp only[tnA,bnA,cond_true,cond_false,beq_self_eq_true];have e1:IntKind.wrap .i64 ((ags.length:Int) - 1)=(ags.length:Int) - 1:=bf (by omega) (by omega)
  rw[e1,cF (by omega)]
  refine YP.ite (fun hz=>?_) (fun hz=>?_)
  ·obtain ⟨tn0,et⟩:=htk _ (List.getElem_mem (show i < tk.length by omega))
   have et':(T.sl tk).nth i = .int tn0:=by rw[bh (by omega)];exact et
   simp only[et'];simp only[tnA];cases b with
   | true=>
    simp only[bnA,cond_true,cond_false,beq_self_eq_true];refine YP.obind (YP.some (Q:=fun o=>o = []) rfl) ?_
    rintro _ rfl;exact ih (by omega) h
   | false=>
    simp only[bnA,cond_true,cond_false,beq_self_eq_true];refine YP.guard (by (simp <;> omega)) ?_
    refine YP.obind (eB hc h) ?_;rintro _ ⟨b2,rfl⟩;simp only[tnA];exact ih (by omega) h
  ·exact yP ha hal hr hrl (Nat.le_refl _) R8 (by simp) h
theorem call_0 {c:Cx} {q:Nat} {n0 x y:Int} {s:ByteArray} {ags rs ls tk cd:List T} (hc:co c) (ha:dL c.ks ags) (hal:ags.length≤10) (hr:dL c.ks rs) (hrl:rs.length≤10) (htk:cz tk) (htl:tk.length≤10) : ∀{d i:Nat} {G:Prop} {a:T},i+d=tk.length→At c (q+10) G a→
  YP (fun k=>gy (hl env k bn) (.int (i:Int)) a (.st [.str s,.int x,.int y]) (.st [.int n0,.sl ags,.sl rs,.sl ls,.sl tk,.sl cd])) (AtR c q True):=by
 intro d;induction d with
 | zero=>
  intro i G a hd h;refine YP.call ?_ (fun r h=>oh _ _ _ _ h)
  unfold gg;have ed:decide ((T.int (i:Int)).i < ((((T.st [.int n0,.sl ags,.sl rs,.sl ls,.sl tk,.sl cd]).fld 4).es).length:Int))=false:=decide_eq_false (by simp only[tnA];omega)
  simp only[ed];simp only[tnA,bnA,cond_true,cond_false,beq_self_eq_true];exact call_1 hc ha hal hr hrl htk htl (d:=tk.length) (i:=0) (by omega) h
 | succ d ih=>
  intro i G a hd h;refine YP.call ?_ (fun r h=>oh _ _ _ _ h)
  unfold gg;have ed:decide ((T.int (i:Int)).i < ((((T.st [.int n0,.sl ags,.sl rs,.sl ls,.sl tk,.sl cd]).fld 4).es).length:Int))=true:=decide_eq_true (by simp only[tnA];omega)
  simp only[ed];simp only[tnA,bnA,cond_true,cond_false,beq_self_eq_true];rw[cF (by omega)]
  refine YP.ite (fun hz=>?_) (fun hz=>?_)
  ·obtain ⟨tn0,et⟩:=htk _ (List.getElem_mem (show i < tk.length by omega))
   have et':(T.sl tk).nth i = .int tn0:=by rw[bh (by omega)];exact et
   simp only[et'];refine YP.guard (by (simp <;> omega)) ?_
   refine YP.obind (ko hc h) ?_;rintro _ ⟨b2,rfl⟩;simp only[tnA];refine YP.obind (bz h (by decide)) ?_
   rintro _ ⟨a1,rfl,h1⟩;simp only[tnA];exact ih (by omega) h1
  ·exact call_1 hc ha hal hr hrl htk htl (d:=tk.length) (i:=0) (by omega) h
theorem ct_call {c:Cx} {q:Nat} {a:T} (hc:co c) (h:At c (q+10) True a) {s:ByteArray} {x y:Int} : YP (fun k=>cl env k lu [a,.st [.str s,.int x,.int y]]) (AtR c q True):=by
 refine YP.call ?_ (fun r h=>uT _ _ h)
 unfold lF;simp only[tnA];simp only[h.f0,h.f2];refine YP.obind (ct_seen hc.sh.1 hc.sh.2) ?_;rintro _ ⟨b,rfl,hb⟩;simp only[tnA];refine YP.ite (fun hz=>?_) (fun hz=>?_)
 ·refine YP.obind (ia h (by decide)) ?_
  rintro _ ⟨a1,rfl,h1⟩;exact YP.some ⟨_,rfl,h1.mono (by omega) fun _=>trivial⟩
 have hb:=hb (by cases b with | true=>rfl | false=>cases hz)
 obtain ⟨rs0,fs,fr,e,l1,l2,l3,l4⟩:=zv hc.sh.2 hb.2.1;rw[e] at hb;have hb2:y.toNat < fs.length:=hb.2.2.2
 obtain ⟨n0,ags,rs,ls,tk,cd,eg,g1,g2,g3,g4,g5,g6,g7,g8,g9,g10⟩:=l4 _ (List.getElem_mem hb2);have eg':(T.sl fs).nth y.toNat=_:=(bh hb2).trans eg
 simp only[e];simp only[tnA];simp only[eg'];refine YP.guard (by (simp <;> omega)) (YP.guard (by (simp <;> omega)) ?_)
 exact call_0 hc g6 g1 g7 g2 g9 g4 (d:=tk.length) (i:=0) (by omega) h
theorem wa {c:Cx} (hc:co c):c.np≤20:=by
 obtain ⟨n0,ags,rs,ls,tk,cd,e,e2⟩:=hc.np;obtain ⟨_,_,_,_,_,_,e',l1,_,l3,_⟩:=hc.f;rw[e] at e';cases e';omega
theorem ret_2 {c:Cx} {q:Nat} {b:Bool} (hc:co c) : ∀{d i:Nat} {G:Prop} {a:T},i+d=c.np→At c q G a→YP (fun k=>fA (hl env k bF) (.bool b) (.int (i:Int)) a) (AtR c q True):=by
 intro d;induction d with
 | zero=>
  intro i G a hd h;refine YP.call ?_ (fun r h=>pk _ _ _ h)
  unfold gS;have hnp:=h.np;simp only[tnA];refine YP.ff (decide_eq_false (by omega)) ?_
  refine YP.obind (bz h (by decide)) ?_
  rintro _ ⟨a1,rfl,h1⟩;exact YP.some ⟨_,rfl,h1.mono (Nat.le_refl _) fun _=>trivial⟩
 | succ d ih=>
  intro i G a hd h;refine YP.call ?_ (fun r h=>pk _ _ _ h)
  unfold gS;have hnp:=h.np;have hle:=wa hc;simp only[tnA];obtain ⟨s,is,e,_,_,hs⟩:=h.pl (show i < c.np by omega)
  simp only[e];simp only[tnA];rw[cF (by omega)]
  refine YP.tt (decide_eq_true (by omega)) ?_
  refine YP.ite (fun hz=>?_) (fun hz=>?_)
  ·refine YP.guard (by (simp <;> omega)) ?_
   refine YP.ite (fun hz=>?_) (fun hz=>?_)
   ·refine YP.obind (bz h (by decide)) ?_
    rintro _ ⟨a1,rfl,h1⟩;simp only[tnA];exact ih (by omega) h1
   ·rw[nB] at hz;have hs:cK c.ks s=true:=by
     rcases hs with h | h
     ·rw[h] at hz;cases hz
     ·exact h
    refine YP.guard (by (simp <;> omega)) ?_
    refine YP.obind (dx hc h hs (by simp)) ?_
    rintro _ ⟨b2,a1,rfl,h1⟩;simp only[tnA];refine YP.obind (bz h1 (by decide)) ?_
    rintro _ ⟨a2,rfl,h2⟩;simp only[tnA];exact ih (by omega) h2
  ·refine YP.obind (bz h (by decide)) ?_
   rintro _ ⟨a1,rfl,h1⟩;exact YP.some ⟨_,rfl,h1.mono (Nat.le_refl _) fun _=>trivial⟩
theorem ret_1 {c:Cx} {q:Nat} {x2 s:T} {is:List T} {a:T} (hil:is.length≤1000) (next : ∀b:Bool,YP (fun k=>fx (hl env k bF) (.bool b) (.int (IntKind.wrap .i64 (x2.i - (1:Int)))) a) (AtR c q True)) :
  ∀{d i:Nat} {b:Bool},i+d=is.length→YP (fun k=>fy (hl env k bF) (.bool b) x2 (.int (i:Int)) a (.st [s,.sl is])) (AtR c q True):=by
 intro d;induction d with
 | zero=>
  intro i b hd;refine YP.call ?_ (fun r h=>pj _ _ _ _ _ h)
  unfold gR;simp only[tnA];exact YP.ff (decide_eq_false (by omega)) (next b)
 | succ d ih=>
  intro i b hd;refine YP.call ?_ (fun r h=>pj _ _ _ _ _ h)
  unfold gR;simp only[tnA];rw[cF (by omega)]
  refine YP.tt (decide_eq_true (by omega)) ?_
  refine YP.ite (fun hz=>ih (by omega)) (fun hz=>YP.guard (by (simp <;> omega)) (ih (by omega)))
theorem ret_0 {c:Cx} {q:Nat} {n0:Int} {ags rs ls tk cd:List T} (hc:co c) (hf:c.f = .st [.int n0,.sl ags,.sl rs,.sl ls,.sl tk,.sl cd]) (hr:dL c.ks rs) (hrl:rs.length≤10) : ∀{i:Nat} {b:Bool} {G:Prop} {a:T},i≤rs.length→At c q G a→
  YP (fun k=>fx (hl env k bF) (.bool b) (.int ((i:Int) - 1)) a) (AtR c q True):=by
 intro i;induction i with
 | zero=>
  intro b G a hi h;refine YP.call ?_ (fun r h=>pi _ _ _ h)
  unfold gQ;simp only[tnA];refine YP.ff (decide_eq_false (by omega)) ?_
  exact ret_2 hc (d:=c.np) (i:=0) (by omega) h
 | succ i ih=>
  intro b G a hi h;refine YP.call ?_ (fun r h=>pi _ _ _ h)
  unfold gQ;have e0:((i+1:Nat):Int) - 1=(i:Int):=by omega
  have e1:IntKind.wrap .i64 ((i:Int) - 1)=(i:Int) - 1:=bf (by omega) (by omega)
  simp only[e0,h.f3,hf];simp only[tnA];obtain ⟨s,e,hs⟩:=hr _ (List.getElem_mem (show i < rs.length by omega))
  have e':(T.sl rs).nth i = .str s:=by rw[bh (by omega)];exact e
  simp only[e'];refine YP.tt (decide_eq_true (by omega)) (YP.guard (by (simp <;> omega)) ?_)
  refine YP.obind (cH h (by simp) (by simp)) ?_
  rintro _ ⟨u,is,a1,rfl,hi1,hil,hu,h1⟩;simp only[tnA];refine ret_1 hil (fun b=>?_) (d:=is.length) (i:=0) (by omega)
  simp only[tnA];rw[e1];exact ih (by omega) h1
theorem ct_ret {c:Cx} {q:Nat} {a:T} (hc:co c) (h:At c q True a):YP (fun k=>cl env k mj [a]) (AtR c q True):=by
 refine YP.call ?_ (fun r h=>wz _ h)
 unfold mB;obtain ⟨n0,ags,rs,ls,tk,cd,e,l1,l2,l3,l4,l5,t1,t2,t3,_⟩:=hc.f;refine YP.obind (bz h (by decide)) ?_
 rintro _ ⟨a1,rfl,h1⟩;simp only[tnA];simp only[h1.f3,e];simp only[tnA];have e1:IntKind.wrap .i64 ((rs.length:Int) - 1)=(rs.length:Int) - 1:=bf (by omega) (by omega)
 rw[e1];exact ret_0 hc e t2 l2 (Nat.le_refl _) h1
def Endd (c:Cx) (o:List T):Prop:=∃st pl code,o = [.st [.sl c.sh,.sl c.ks,.int (c.m:Int),c.f,.st [.sl st,.sl pl],.int code]]∧(code=0→st.length≤12)∧pl.length=c.np∧(∀x∈st,MkS c.ks x)∧(∀x∈pl,MkP c.ks x)
theorem endd {c:Cx} {q:Nat} {a:T} (h:At c q False a):Endd c [a]:=by
 obtain ⟨st,pl,code,rfl,h1,h2,h3,h4,h5⟩:=h;exact ⟨st,pl,code,rfl,fun hz=>(h1 hz).elim,h3,h4,h5⟩
theorem step_end {c:Cx} {q:Nat} {a:T} (h:At c q True a):YP (fun k=>obind (cl env k aM [a,(T.bool (decide (((((a.fld 4).fld 0).es).length:Int)≤(12:Int)))),(T.int (1:Int))]) fun r2=>some [(rt (r2.drop 0) 0)]) (Endd c):=by
 refine YP.obind (Q1:=Endd c) ?_ ?_
 ·refine YP.call ?_ (fun r h=>qm _ _ _ h)
  unfold iG;simp only[tnA];refine YP.ite (fun hc=>?_) (fun hc=>?_)
  ·refine YP.obind (ia h (by decide)) ?_
   rintro _ ⟨a1,rfl,h1⟩;exact YP.some (endd h1)
  ·obtain ⟨st,pl,code,rfl,h1,h2,h3,h4,h5⟩:=h;refine YP.some ⟨st,pl,code,rfl,fun _=>?_,h3,h4,h5⟩
   have hc:(!decide ((st.length:Int)≤12))=false:=hc
   rw[Bool.not_eq_false',decide_eq_true_eq] at hc;omega
 ·rintro _ ⟨st,pl,code,rfl,h1⟩;exact YP.some ⟨st,pl,code,rfl,h1⟩
theorem ct_step {c:Cx} {a:T} (hc:co c) (h:At c 999988 True a) {s:ByteArray} {x y:Int} (hx:0≤x) (hx2:x≤2000000) (hy:0≤y):YP (fun k=>cl env k lv [a,.st [.str s,.int x,.int y]]) (Endd c):=by
 refine YP.call ?_ (fun r h=>uX _ _ h)
 unfold lJ;refine YP.obind (ct_plain (q:=999978) hc h) ?_;rintro _ ⟨b,a1,rfl,h1,e1⟩;simp only[rt0,ah,tb];refine YP.ite (fun hb=>step_end h1) (fun hb=>?_)
 obtain rfl:=e1 hb;refine YP.obind (BE (q:=999978) hc h hx hx2) ?_;rintro _ ⟨b,a2,rfl,h2,e2⟩;simp only[rt0,ah,tb];refine YP.ite (fun hb=>step_end h2) (fun hb=>?_)
 obtain rfl:=e2 hb;refine YP.obind (B1 (q:=999978) hc h hx hy) ?_;rintro _ ⟨b,a3,rfl,h3,e3⟩;simp only[rt0,ah,tb];refine YP.ite (fun hb=>step_end h3) (fun hb=>?_)
 obtain rfl:=e3 hb;refine YP.obind (BF (q:=999978) hc h hx hx2) ?_;rintro _ ⟨b,a4,rfl,h4,e4⟩;simp only[rt0,ah,tb];refine YP.ite (fun hb=>step_end h4) (fun hb=>?_)
 obtain rfl:=e4 hb;refine YP.ite (fun hb=>?_) (fun hb=>?_)
 ·refine YP.obind (ct_call (q:=999978) hc h) ?_;rintro _ ⟨a5,rfl,h5⟩;exact step_end h5
 ·refine YP.obind (ct_ret hc h) ?_;rintro _ ⟨a5,rfl,h5⟩;obtain ⟨st,pl,code,rfl,h1,h2,h3,h4,h5⟩:=h5;exact YP.some ⟨st,pl,code,rfl,fun _=>by omega,h3,h4,h5⟩
def ShI (c:Cx) (s:T):Prop:=∃st pl:List T,s = .st [.sl st,.sl pl]∧st.length≤12∧pl.length=c.np∧(∀x∈st,MkS c.ks x)∧(∀x∈pl,MkP c.ks x)
theorem xI {c:Cx} {s i:T} (hc:co c) (hs:ShI c s) (hi:iz i):YP (fun k=>cl env k dG [.sl c.sh,.sl c.ks,.int (c.m:Int),c.f,s,i]) (fun o=>∃(t:T) (code:Int),o = [t,.int code]∧(code=0→ShI c t)):=by
 obtain ⟨st,pl,rfl,l1,l2,h1,h2⟩:=hs;obtain ⟨w,x,y,rfl,_,x0,x1,y0,y1⟩:=hi;have hle:=wa hc;refine YP.call ?_ (fun r h=>yv _ _ _ _ _ _ h)
 unfold oP;refine YP.obind (YP.of (Q:=fun o=>o=_) (QV (ks:=c.ks) (by omega) (fun x hx=>(h1 x hx).p) (by omega) h2) rfl) ?_
 rintro _ rfl;simp only[tnA];refine YP.obind (ct_step hc ⟨st,pl,0,rfl,fun _=>trivial,by omega,l2,h1,h2⟩ x0 x1 y0) ?_
 rintro _ ⟨st',pl',code,rfl,g1,g2,g3,g4⟩;simp only[tnA];refine YP.ite (fun hz=>?_) (fun hz=>?_)
 ·refine YP.some ⟨_,code,rfl,fun h=>?_⟩
  rw[h] at hz;cases hz
 ·have hz0:code=0:=by simpa using hz
  exact YP.some ⟨_,0,rfl,fun _=>⟨st',pl',rfl,g1 hz0,g2,g3,g4⟩⟩
theorem cA.call {E:Env} {f:Nat} {fi:Fi} {ts:List T} (hx:E.told f=Option.none) (hf:E.fn f=Option.some fi) {Z:(List Item→CS→R)→aF→R} (hz : ∀H C,bI fi E H C ts=Z H C)
  (h:cA (fun k=>Z (hl E k fi) (cl E k))):cA (fun k=>cl E k f ts):=by
 obtain ⟨m,hm⟩:=h;refine ⟨m+1,fun k hk=>?_⟩
 obtain ⟨k,rfl⟩ : ∃j,k=j+1:=⟨k - 1,by omega⟩
 show Uj E E.told (k+1) f ts=Option.none
 rw[mG,hx];simp only[hf];rw[show bI fi E (lg E E.told k fi) (Uj E E.told k) ts=_ from hz _ _]
 exact hm k (by omega)
theorem vm (a0 a1 a2 a3 a4 a5 a6:T) (h:cA (fun k=>ej (hl env k fR) (cl env k) a0 a1 a2 a3 a4 a5 a6)):cA (fun k=>cl env k cO [a0,a1,a2,a3,a4,a5,a6]):=cA.call (fi:=fR) (Z:=fun H C=>ej H C a0 a1 a2 a3 a4 a5 a6) rfl rfl (fun H C=>by kernel_rfl) h
def dX (xs:List T):Prop:=xs.length≤37∧∀x∈xs,iz x
abbrev doA (c:Cx) (s o i:T):List T:=[.sl c.sh,.sl c.ks,.int (c.m:Int),c.f,s,o,i]
structure DoNo (c:Cx) (s:T) (xs:List T) (i:T):Prop where
 ig:Yields (fun k=>cl env k cO (doA c s (.int (xs.length:Int)) i)) [s,.int (xs.length:Int),.bool false]
 go:Yields (fun k=>cl env k bk (doA c s (.sl xs) i)) [s,.sl xs,.bool false]
 le:Yields (fun k=>cl env k jr (doA c s (.sl xs) i)) [s,.int (xs.length:Int),.bool false,.sl xs]
structure DoYes (c:Cx) (s:T) (xs:List T) (i t:T):Prop where
 sh:ShI c t
 out:dX (xs ++ [i])
 ig:cA (fun k=>cl env k cO (doA c s (.int (xs.length:Int)) i))
 go:Yields (fun k=>cl env k bk (doA c s (.sl xs) i)) [t,.sl (xs ++ [i]),.bool true]
 le:Yields (fun k=>cl env k jr (doA c s (.sl xs) i)) [t,.int ((xs ++ [i]).length:Int),.bool true,.sl xs]
theorem iP {c:Cx} {s i:T} {xs:List T} (hc:co c) (hs:ShI c s) (hi:iz i) (hx:dX xs):DoNo c s xs i∨∃t,DoYes c s xs i t:=by
 obtain ⟨_,hy,t,code,rfl,ht⟩:=xI hc hs hi;have hlen:=hx.1;by_cases hz:code=0
 ·subst hz;by_cases hl:36 < xs.length
  ·left
   constructor
   ·refine qL _ _ _ _ _ _ _ ?_;unfold ej;refine Yields.obind hy ?_;simp only[tnA];exact Yields.ff rfl (Yields.tt (decide_eq_true (by omega)) (Yields.some _))
   ·refine qt _ _ _ _ _ _ _ ?_;unfold jJ;refine Yields.obind hy ?_;simp only[tnA];exact Yields.ff rfl (Yields.tt (decide_eq_true (by omega)) (Yields.some _))
   ·refine mY _ _ _ _ _ _ _ ?_;unfold gm;refine Yields.obind hy ?_;simp only[tnA];exact Yields.ff rfl (Yields.tt (decide_eq_true (by omega)) (Yields.some _))
  ·right
   have hsh:=ht rfl;refine ⟨t,hsh,?_,?_,?_,?_⟩
   ·refine ⟨by rw[List.length_append];simp;omega,fun x h=>?_⟩
    rcases List.mem_append.1 h with h | h
    ·exact hx.2 x h
    ·rw[List.mem_singleton.1 h];exact hi
   ·refine vm _ _ _ _ _ _ _ ?_;unfold ej;refine cA.obind hy ?_;simp only[tnA];exact cA.ff rfl (cA.ff (decide_eq_false (by omega)) cA.none)
   ·obtain ⟨st,pl,rfl,_⟩:=hsh;refine qt _ _ _ _ _ _ _ ?_;unfold jJ;refine Yields.obind hy ?_;simp only[tnA];refine Yields.ff rfl (Yields.ff (decide_eq_false (by omega)) (Yields.tt (decide_eq_true (by rw[bD];simp;omega)) (Yields.some _)))
   ·obtain ⟨st,pl,rfl,_⟩:=hsh;refine mY _ _ _ _ _ _ _ ?_;unfold gm;refine Yields.obind hy ?_;simp only[tnA];refine Yields.ff rfl (Yields.ff (decide_eq_false (by omega)) (Yields.tt (decide_eq_true (by rw[bD];simp;omega)) (Yields.some _)))
 ·left
  have hn:(code != 0)=true:=by simpa using hz
  constructor
  ·refine qL _ _ _ _ _ _ _ ?_;unfold ej;refine Yields.obind hy ?_;simp only[tnA];exact Yields.tt hn (Yields.some _)
  ·refine qt _ _ _ _ _ _ _ ?_;unfold jJ;refine Yields.obind hy ?_;simp only[tnA];exact Yields.tt hn (Yields.some _)
  ·refine mY _ _ _ _ _ _ _ ?_;unfold gm;refine Yields.obind hy ?_;simp only[tnA];exact Yields.tt hn (Yields.some _)
theorem Au {s:ByteArray} : YP (fun k=>cl env k cU [.str s]) (fun o=>∃(i j:Int) (b:Bool),o = [.int i,.int j,.bool b]∧0≤i∧0≤j∧j≤9∧(b=true→O6 s=some (i.toNat,j.toNat))):=by
 refine YP.of (zl s) ?_;cases hk:O6 s with
 | none=>exact ⟨0,0,false,rfl,by omega,by omega,by omega,fun h=>by cases h⟩
 | some p=>
  obtain ⟨i,j⟩:=p;have:=(ma hk)
  exact ⟨i,j,true,rfl,by omega,by omega,by omega,fun _=>by simp⟩
theorem fh {w:ByteArray} {k:Int} (hw:w.size≤10) (h0:0≤k) (h1:k≤2000000):iz (.st [.str w,.int k,.int 0]):=⟨w,k,0,rfl,hw,h0,h1,by omega,by omega⟩
theorem cA.or {x y:Nat→R} (h1:cA x) (h:cA y):cA fun k=>orE (x k) (y k):=by
 obtain ⟨m,hm⟩:=h;obtain ⟨n,hn⟩:=h1;exact ⟨max m n,fun k hk=>by show orE (x k) (y k)=_;rw[hn k (by omega)];exact hm k (by omega)⟩
def OffR (c:Cx) (q:Nat) (o:List T):Prop:=∃(t:T) (ys:List T) (b:Bool) (r':T),o = [t,.sl ys,.bool b,r']∧ShI c t∧dX ys∧Rd q r'
theorem wV {c:Cx} {q:Nat} {s i r:T} {xs:List T} (hc:co c) (hs:ShI c s) (hi:iz i) (hx:dX xs) (hr:Rd q r):YP (fun k=>obind (cl env k bk (doA c s (.sl xs) i)) fun r6=>some [(rt r6 0),(rt r6 1),(rt r6 2),r]) (OffR c q):=by
 rcases iP hc hs hi hx with h | ⟨t,h⟩
 ·refine YP.obind (YP.of (Q:=fun o=>o=_) h.go rfl) ?_
  rintro _ rfl;exact YP.some ⟨s,xs,false,r,rfl,hs,hx,hr⟩
 ·refine YP.obind (YP.of (Q:=fun o=>o=_) h.go rfl) ?_
  rintro _ rfl;exact YP.some ⟨t,_,true,r,rfl,h.sh,h.out,hr⟩
theorem ct_off {c:Cx} {q:Nat} {r:T} {st pl xs:List T} (hc:co c) (hs:ShI c (.st [.sl st,.sl pl])) (hn:0 < st.length) (hx:dX xs) (hr:Rd (q+1) r):YP (fun k=>cl env k kV [r,.sl c.sh,.sl c.ks,.int (c.m:Int),c.f,.st [.sl st,.sl pl],.sl xs]) (OffR c q):=by
 refine YP.call ?_ (fun r h=>yA _ _ _ _ _ _ _ h)
 unfold oT;have hst:st.length≤12∧∀x∈st,MkS c.ks x:=by
  obtain ⟨_,_,e,h1,_,h3,_⟩:=hs;cases e;exact ⟨h1,h3⟩
 have e1:IntKind.wrap .i64 ((st.length:Int) - 1)=((st.length - 1:Nat):Int):=by rw[bf (by omega) (by omega)];omega
 simp only[tnA];simp only[e1,Int.toNat_natCast];obtain ⟨t,is,et,_,_,_⟩:=hst.2 _ (List.getElem_mem (show st.length - 1 < st.length by omega))
 rw[← bh] at et;simp only[et];simp only[tnA];refine YP.guard (by (simp <;> omega)) ?_
 rcases iP hc hs (fh (w:=vT) (by decide) (Int.le_refl 0) (by omega)) hx with hd | ⟨t1,hd⟩
 ·refine YP.or1 ?_;refine YP.obind (YP.of (Q:=fun o=>o=_) hd.ig rfl) ?_
  rintro _ rfl;simp only[tnA];refine YP.ff rfl ?_;refine YP.obind Au ?_;rintro _ ⟨m,k,b,rfl,_,k0,k1,_⟩;simp only[tnA];refine YP.obind (bA hr) ?_;rintro _ ⟨v,r1,rfl,hr1,_⟩;simp only[tnA];have hu:iz (.st [.str lT,.int k,.int 0]):=fh (by decide) k0 (by omega)
  have hk:iz (.st [.str aT,.int k,.int 0]):=fh (by decide) k0 (by omega)
  refine YP.ite (fun hz=>?_) (fun hz=>wV hc hs hu hx hr1)
  rcases iP hc hs (fh (w:=k_me) (by decide) (Int.le_refl 0) (by omega)) hx with hm | ⟨t1,hm⟩
  ·refine YP.or1 ?_;refine YP.obind (YP.of (Q:=fun o=>o=_) hm.ig rfl) ?_
   rintro _ rfl;simp only[tnA];refine YP.ff rfl (YP.ff rfl ?_);exact wV hc hs hu hx hr1
  ·refine YP.or2 (cA.obind0 hm.ig) ?_;have hx1:=hm.out;rcases iP hc hm.sh hk hx1 with hp | ⟨t2,hp⟩
   ·refine YP.or2 ?_ ?_
    ·refine cA.obind hm.go ?_;simp only[tnA];refine cA.tt rfl (cA.or (cA.obind hp.ig ?_) (cA.or (cA.obind hp.go ?_) cA.none))
     ·simp only[tnA];exact cA.ff rfl cA.none
     ·simp only[tnA];exact cA.ff rfl cA.none
    ·refine YP.or1 ?_;refine YP.obind (YP.of (Q:=fun o=>o=_) hm.le rfl) ?_
     rintro _ rfl;simp only[tnA];refine YP.tt rfl (YP.or1 ?_);refine YP.obind (YP.of (Q:=fun o=>o=_) hp.ig rfl) ?_
     rintro _ rfl;simp only[tnA];refine YP.ff rfl ?_;exact wV hc hs hu hx hr1
   ·refine YP.or1 ?_;refine YP.obind (YP.of (Q:=fun o=>o=_) hm.go rfl) ?_
    rintro _ rfl;simp only[tnA];refine YP.tt rfl (YP.or2 (cA.obind0 hp.ig) (YP.or1 ?_));refine YP.obind (YP.of (Q:=fun o=>o=_) hp.go rfl) ?_
    rintro _ rfl;simp only[tnA];exact YP.tt rfl (YP.some ⟨t2,_,true,r1,rfl,hp.sh,hp.out,hr1⟩)
 ·refine YP.or2 (cA.obind0 hd.ig) (YP.or1 ?_);refine YP.obind (YP.of (Q:=fun o=>o=_) hd.go rfl) ?_
  rintro _ rfl;simp only[tnA];exact YP.tt rfl (YP.some ⟨t1,_,true,r,rfl,hd.sh,hd.out,hr.less (by omega)⟩)
def pq (c:Cx) (o:List T):Prop:=∃(t:T) (ys:List T) (b:Bool),o = [t,.sl ys,.bool b]∧ShI c t∧dX ys
theorem lW {c:Cx} {s i:T} {xs:List T} (hc:co c) (hs:ShI c s) (hi:iz i) (hx:dX xs):YP (fun k=>obind (cl env k bk (doA c s (.sl xs) i)) fun r6=>some [(rt r6 0),(rt r6 1),(rt r6 2)]) (pq c):=by
 rcases iP hc hs hi hx with h | ⟨t,h⟩
 ·refine YP.obind (YP.of (Q:=fun o=>o=_) h.go rfl) ?_
  rintro _ rfl;exact YP.some ⟨s,xs,false,rfl,hs,hx⟩
 ·refine YP.obind (YP.of (Q:=fun o=>o=_) h.go rfl) ?_
  rintro _ rfl;exact YP.some ⟨t,_,true,rfl,h.sh,h.out⟩
theorem ty_kind {ks:List T} {s:ByteArray} {i j:Nat} (h:cK ks s=true) (hk:O6 s=some (i,j)):i < ks.length∧j < ((T.sl ks).nth i).es.length:=by
 have h0:=ma hk;have hr:O8 s=false:=by
  unfold O8;rw[h0.2.1];simp
 have hp:=th h hr;have hb:dw s=false:=by
  cases hb:dw s with
  | false=>rfl
  | true=>rw[sF hb] at hk;cases hk
 unfold cW nQ at hp;rw[hb,hk,Bool.false_or] at hp;exact rk hp
theorem make_3 {c:Cx} {k:Nat} {z:T} {av:Int} {fs:List T} (hc:co c) (hk:k < ((T.sl c.ks).nth c.m).es.length) (e:((T.sl c.ks).nth c.m).nth k = .st [.int av,.sl fs]) (hl3:fs.length≤3)
  (ih : ∀x∈fs,∀(s:T) (xs:List T),ShI c s→dX xs→YP (fun r=>cl env r dv (doA c s (.sl xs) x)) (pq c)) :
  ∀{d i:Nat} {b:Bool} {s:T} {xs:List T},i+d=fs.length→ShI c s→dX xs→
   YP (fun r=>iX (hl env r bG) (.sl c.sh) (.sl c.ks) (.int (c.m:Int)) (.int (k:Int)) (.bool b) (.int (i:Int)) (.sl xs) c.f s z) (pq c):=by
 have hm:=hc.m;have hk1:=(hc.k.2 _ hm).1;have hp:iz (.st [.str q7,.int (k:Int),.int 0]):=fh (by decide) (by omega) (by omega)
 intro d;induction d with
 | zero=>
  intro i b s xs hd hs hx;refine YP.call ?_ (fun r h=>qv _ _ _ _ _ _ _ _ _ _ h)
  unfold iN lK;simp only[tnA];simp only[e];simp only[tnA];refine YP.guard (by (simp <;> omega)) (YP.guard (by (simp <;> omega)) (YP.ff (decide_eq_false (by omega)) ?_))
  refine YP.ite (fun hz=>YP.some ⟨s,xs,false,rfl,hs,hx⟩) (fun hz=>lW hc hs hp hx)
 | succ d ihd=>
  intro i b s xs hd hs hx;refine YP.call ?_ (fun r h=>qv _ _ _ _ _ _ _ _ _ _ h)
  unfold iN lK;simp only[tnA];simp only[e];simp only[tnA];rw[cF (by omega)]
  refine YP.guard (by (simp <;> omega)) (YP.guard (by (simp <;> omega)) (YP.tt (decide_eq_true (by omega)) ?_))
  refine YP.ite (fun hz=>?_) (fun hz=>?_)
  ·refine YP.guard (by (simp <;> omega)) (YP.guard (by (simp <;> omega)) (YP.guard (by (simp <;> omega)) ?_))
   rw[bh (show i < fs.length by omega)]
   refine YP.obind (ih _ (List.getElem_mem _) s xs hs hx) ?_;rintro _ ⟨t,ys,b2,rfl,ht,hy⟩;simp only[tnA];exact ihd (by omega) ht hy
  ·refine YP.ite (fun hz=>YP.some ⟨s,xs,false,rfl,hs,hx⟩) (fun hz=>lW hc hs hp hx)
theorem make_2 {c:Cx} {k:Nat} {z:T} {av:Int} {fs:List T} (hc:co c) (hk:k < ((T.sl c.ks).nth c.m).es.length) (e:((T.sl c.ks).nth c.m).nth k = .st [.int av,.sl fs]) (hl3:fs.length≤3)
  (ih : ∀x∈fs,∀(s:T) (xs:List T),ShI c s→dX xs→YP (fun r=>cl env r dv (doA c s (.sl xs) x)) (pq c)) {b:Bool} {s:T} {xs:List T} (hs:ShI c s) (hx:dX xs) :
   YP (fun r=>iW (hl env r bG) (.sl c.sh) (.sl c.ks) (.int (c.m:Int)) (.int (k:Int)) (.bool b) (.int ((0:Nat):Int)) (.sl xs) c.f s z) (pq c):=by
 have hm:=hc.m;have hk1:=(hc.k.2 _ hm).1;have hp:iz (.st [.str q7,.int (k:Int),.int 0]):=fh (by decide) (by omega) (by omega)
 refine YP.call ?_ (fun r h=>uY _ _ _ _ _ _ _ _ _ _ h)
 unfold lK;simp only[tnA];simp only[e];simp only[tnA];rw[cF (by omega)]
 refine YP.guard (by (simp <;> omega)) (YP.guard (by (simp <;> omega)) ?_)
 refine YP.ite (fun hz=>?_) (fun hz=>?_)
 ·have hz:=of_decide_eq_true hz;refine YP.ite (fun hz=>?_) (fun hz=>?_)
  ·refine YP.guard (by (simp <;> omega)) (YP.guard (by (simp <;> omega)) (YP.guard (by (simp <;> omega)) ?_))
   rw[bh (show 0 < fs.length by omega)]
   refine YP.obind (ih _ (List.getElem_mem _) s xs hs hx) ?_;rintro _ ⟨t,ys,b2,rfl,ht,hy⟩;simp only[tnA];exact make_3 hc hk e hl3 ih (d:=fs.length - 1) (i:=0+1) (by omega) ht hy
  ·refine YP.ite (fun hz=>YP.some ⟨s,xs,false,rfl,hs,hx⟩) (fun hz=>lW hc hs hp hx)
 ·refine YP.ite (fun hz=>YP.some ⟨s,xs,false,rfl,hs,hx⟩) (fun hz=>lW hc hs hp hx)
theorem make_0 {c:Cx} {z:T} {t:ByteArray} {st pl xs:List T} (hc:co c) (hs:ShI c (.st [.sl st,.sl pl])) (hx:dX xs)
  (hrec : ∀k,O6 t=some (c.m,k)→YP (fun r=>iW (hl env r bG) (.sl c.sh) (.sl c.ks) (.int (c.m:Int)) (.int (k:Int)) (.bool true) (.int ((0:Nat):Int)) (.sl xs) c.f (.st [.sl st,.sl pl]) z) (pq c)) :
  ∀{d i:Nat},i+d=pl.length→YP (fun r=>fT (hl env r bG) (.sl c.sh) (.sl c.ks) (.int (c.m:Int)) (.str t) (.int (i:Int)) (.sl xs) c.f (.st [.sl st,.sl pl]) z) (pq c):=by
 have hle:=wa hc;have hpl:pl.length=c.np∧∀x∈pl,MkP c.ks x:=by
  obtain ⟨_,_,e,_,h2,_,h4⟩:=hs;cases e;exact ⟨h2,h4⟩
 intro d;induction d with
 | zero=>
  intro i hd;refine YP.call ?_ (fun r h=>qu _ _ _ _ _ _ _ _ _ h)
  unfold iM;simp only[tnA];refine YP.ff (decide_eq_false (by omega)) ?_
  refine YP.ite (fun hz=>lW hc hs (fh (w:=bE) (by decide) (by omega) (by omega)) hx) (fun hz=>?_)
  refine YP.ite (fun hz=>lW hc hs (fh (w:=zk) (by decide) (by omega) (by omega)) hx) (fun hz=>?_)
  refine YP.ite (fun hz=>lW hc hs (fh (w:=k_me) (by decide) (by omega) (by omega)) hx) (fun hz=>?_)
  refine YP.obind Au ?_;rintro _ ⟨m,k,b,rfl,m0,k0,k1,hk⟩;simp only[tnA];refine YP.ite (fun hz=>YP.some ⟨_,xs,false,rfl,hs,hx⟩) (fun hz=>?_)
  refine YP.ite (fun hz=>YP.some ⟨_,xs,false,rfl,hs,hx⟩) (fun hm=>?_)
  have hb:b=true:=by cases b with | true=>rfl | false=>cases hz
  subst hb;have hm:m=(c.m:Int):=by simpa using hm
  subst hm;obtain ⟨k,rfl⟩ : ∃k':Nat,k=(k':Int):=⟨k.toNat,by omega⟩
  exact hrec k (by rw[hk rfl,Int.toNat_natCast,Int.toNat_natCast])
 | succ d ih=>
  intro i hd;refine YP.call ?_ (fun r h=>qu _ _ _ _ _ _ _ _ _ h)
  unfold iM;simp only[tnA];rw[cF (by omega)]
  refine YP.tt (decide_eq_true (by omega)) (YP.guard (by (simp <;> omega)) ?_)
  refine YP.ite (fun hz=>?_) (fun hz=>ih (by omega))
  rcases iP hc hs (fh (w:=od) (k:=(i:Int)) (by decide) (by omega) (by omega)) hx with h | ⟨t1,h⟩
  ·refine YP.or1 ?_;refine YP.obind (YP.of (Q:=fun o=>o=_) h.ig rfl) ?_
   rintro _ rfl;simp only[tnA];exact YP.ff rfl (ih (by omega))
  ·refine YP.or2 (cA.obind0 h.ig) (YP.or1 ?_);refine YP.obind (YP.of (Q:=fun o=>o=_) h.go rfl) ?_
   rintro _ rfl;simp only[tnA];exact YP.tt rfl (YP.some ⟨t1,_,true,rfl,h.sh,h.out⟩)
theorem make_n {c:Cx} (hc:co c) : ∀(n:Nat) {t:ByteArray} {s:T} {xs:List T},cK c.ks t=true→(∀k,O6 t=some (c.m,k)→k < n)→ShI c s→dX xs→YP (fun r=>cl env r dv (doA c s (.sl xs) (.str t))) (pq c):=by
 intro n;induction n with
 | zero=>
  intro t s xs ht hk hs hx;refine YP.call ?_ (fun r h=>rz _ _ _ _ _ _ _ h)
  unfold kp;obtain ⟨st,pl,rfl,_⟩:=id hs;exact make_0 hc hs hx (fun k h=>absurd (hk k h) (by omega)) (d:=pl.length) (i:=0) (by omega)
 | succ n ih=>
  intro t s xs ht hk hs hx;refine YP.call ?_ (fun r h=>rz _ _ _ _ _ _ _ h)
  unfold kp;obtain ⟨st,pl,rfl,_⟩:=id hs;refine make_0 hc hs hx (fun k h=>?_) (d:=pl.length) (i:=0) (by omega)
  have hr:=ty_kind ht h;obtain ⟨av,fs,e,_,_,h3,h4⟩:=(hc.k.2 _ hc.m).2 k hr.2;refine make_2 hc hr.2 e h3 (fun x hx s xs hs ho=>?_) hs hx
  obtain ⟨u,rfl,hu⟩:=h4 x hx;refine ih (ck (o7 hu)) (fun j hj=>?_) hs ho
  unfold eV at hu;rw[hj] at hu;simp only[Bool.and_eq_true,Bool.or_eq_true,decide_eq_true_eq] at hu;have:=hk k h
  omega
theorem Av {c:Cx} (hc:co c) {t:ByteArray} {s:T} {xs:List T} (ht:cK c.ks t=true) (hs:ShI c s) (hx:dX xs):YP (fun r=>cl env r dv (doA c s (.sl xs) (.str t))) (pq c):=
 make_n hc 10 ht (fun k h=>by have:=ma h;omega) hs hx
def Te (ks:List T) (n:Nat) (o:List T):Prop:=∃pl:List T,o = [.st [.sl [],.sl pl]]∧pl.length=n∧∀x∈pl,MkP ks x
theorem pN {ks pl:List T} {x:T} (h : ∀y∈pl,MkP ks y) (hx:MkP ks x) : ∀y∈pl ++ [x],MkP ks y:=by
 intro y hy;rcases List.mem_append.1 hy with hy | hy
 ·exact h y hy
 ·rw[List.mem_singleton.1 hy];exact hx
theorem AD {ks:List T} {n0:Int} {n:Nat} {ags rs ls tk cd:List T} {z:T} (hn:n≤1000) (hll:ls.length≤10) : ∀{d i:Nat} {pl:List T},i+d=ls.length→pl.length+d=n→(∀x∈pl,MkP ks x)→
  YP (fun k=>fS (hl env k bo) (.int (i:Int)) (.st [.int n0,.sl ags,.sl rs,.sl ls,.sl tk,.sl cd]) z (.st [.sl [],.sl pl])) (Te ks n):=by
 intro d;induction d with
 | zero=>
  intro i pl hd hp hm;refine YP.call ?_ (fun r h=>qk _ _ _ _ h)
  unfold iE lC;simp only[tnA];exact YP.ff (decide_eq_false (by omega)) (YP.some ⟨pl,rfl,by omega,hm⟩)
 | succ d ih=>
  intro i pl hd hp hm;refine YP.call ?_ (fun r h=>qk _ _ _ _ h)
  unfold iE lC;simp only[tnA];rw[cF (by omega)]
  refine YP.tt (decide_eq_true (by omega)) (YP.guard (decide_eq_true (by rw[bD];simp;omega)) ?_)
  exact ih (i:=i+1) (pl:=pl ++ [.st [.str ⟨#[]⟩,.sl []]]) (by omega) (by simp;omega) (pN hm rO)
theorem first_2 {ks:List T} {n0:Int} {n:Nat} {ags rs ls tk cd:List T} {z:T} (hn:n≤1000) (hll:ls.length≤10) {pl:List T} (hp:pl.length+ls.length=n) (hm : ∀x∈pl,MkP ks x) :
  YP (fun k=>lV (hl env k bo) (.int ((0:Nat):Int)) (.st [.int n0,.sl ags,.sl rs,.sl ls,.sl tk,.sl cd]) z (.st [.sl [],.sl pl])) (Te ks n):=by
 refine YP.call ?_ (fun r h=>uQ _ _ _ _ h)
 unfold lC;simp only[tnA];rw[cF (by omega)]
 refine YP.ite (fun hc=>?_) (fun hc=>?_)
 ·have hc:=of_decide_eq_true hc;refine YP.guard (decide_eq_true (by rw[bD];simp;omega)) ?_
  exact AD hn hll (d:=ls.length - 1) (i:=0+1) (pl:=pl ++ [.st [.str ⟨#[]⟩,.sl []]]) (by omega) (by simp;omega) (pN hm rO)
 ·have hc:=of_decide_eq_false hc;exact YP.some ⟨pl,rfl,by omega,hm⟩
theorem AC {ks:List T} {n0:Int} {n:Nat} {ags rs ls tk cd:List T} {z:T} (ha:dL ks ags) (hal:ags.length≤10) (hn:n≤1000) (hll:ls.length≤10) : ∀{d i:Nat} {pl:List T},i+d=ags.length→pl.length+d+ls.length=n→(∀x∈pl,MkP ks x)→
  YP (fun k=>eP (hl env k bo) (.int (i:Int)) (.st [.int n0,.sl ags,.sl rs,.sl ls,.sl tk,.sl cd]) z (.st [.sl [],.sl pl])) (Te ks n):=by
 intro d;induction d with
 | zero=>
  intro i pl hd hp hm;refine YP.call ?_ (fun r h=>qj _ _ _ _ h)
  unfold iD;simp only[tnA];refine YP.ff (decide_eq_false (by omega)) ?_
  exact AD hn hll (d:=ls.length) (i:=0) (by omega) (by omega) hm
 | succ d ih=>
  intro i pl hd hp hm;refine YP.call ?_ (fun r h=>qj _ _ _ _ h)
  unfold iD;simp only[tnA];obtain ⟨s,e,hs⟩:=ha _ (List.getElem_mem (show i < ags.length by omega))
  have e':(T.sl ags).nth i = .str s:=by rw[bh (by omega)];exact e
  simp only[e'];rw[cF (by omega)]
  refine YP.tt (decide_eq_true (by omega)) (YP.guard (by (simp <;> omega)) (YP.guard (by (simp <;> omega)) ?_))
  refine YP.obind (YP.of (Q:=fun o=>o=_) (lk s) rfl) ?_
  rintro _ rfl;simp only[tnA];refine YP.ite (fun hc=>YP.guard (decide_eq_true (by rw[bD];simp;omega)) ?_) (fun hc=>YP.guard (decide_eq_true (by rw[bD];simp;omega)) ?_)
  ·exact ih (i:=i+1) (by omega) (by simp;omega) (pN hm ⟨s,_,rfl,Rn (n:=9) (by omega) (by omega),by simp,Or.inr hs⟩)
  ·exact ih (i:=i+1) (by omega) (by simp;omega) (pN hm ⟨s,_,rfl,R8,by simp,Or.inr hs⟩)
theorem first_0 {ks:List T} {n0:Int} {n:Nat} {ags rs ls tk cd:List T} {z:T} (ha:dL ks ags) (hal:ags.length≤10) (hn:n≤1000) (hll:ls.length≤10) (hp:ags.length+ls.length=n) :
  YP (fun k=>lU (hl env k bo) (.int ((0:Nat):Int)) (.st [.int n0,.sl ags,.sl rs,.sl ls,.sl tk,.sl cd]) z (.st [.sl [],.sl []])) (Te ks n):=by
 refine YP.call ?_ (fun r h=>uP _ _ _ _ h)
 unfold lB;simp only[tnA];rw[cF (by omega)]
 refine YP.ite (fun hc=>?_) (fun hc=>?_)
 ·have hc:=of_decide_eq_true hc;obtain ⟨s,e,hs⟩:=ha _ (List.getElem_mem (show 0 < ags.length by omega))
  have e':(T.sl ags).nth 0 = .str s:=by rw[bh (by omega)];exact e
  simp only[e'];refine YP.guard (by (simp <;> omega)) (YP.guard (by (simp <;> omega)) ?_)
  refine YP.obind (YP.of (Q:=fun o=>o=_) (lk s) rfl) ?_
  rintro _ rfl;simp only[tnA];refine YP.ite (fun hc=>YP.guard (decide_eq_true (by rw[bD];simp)) ?_) (fun hc=>YP.guard (decide_eq_true (by rw[bD];simp)) ?_)
  ·exact AC ha hal hn hll (d:=ags.length - 1) (i:=0+1) (by omega) (by simp;omega) (pN (fun x hx=>by cases hx) ⟨s,_,rfl,Rn (n:=9) (by omega) (by omega),by simp,Or.inr hs⟩)
  ·exact AC ha hal hn hll (d:=ags.length - 1) (i:=0+1) (by omega) (by simp;omega) (pN (fun x hx=>by cases hx) ⟨s,_,rfl,R8,by simp,Or.inr hs⟩)
 ·have hc:=of_decide_eq_false hc;exact first_2 hn hll (pl:=[]) (by simp;omega) (fun x hx=>by cases hx)
theorem QN {c:Cx} (hc:co c):YP (fun k=>cl env k nc [c.f]) (fun o=>∃s,o = [s]∧ShI c s):=by
 refine YP.call ?_ (fun r h=>xn _ h)
 unfold nl;obtain ⟨n0,ags,rs,ls,tk,cd,e,e2⟩:=hc.np;obtain ⟨_,_,_,_,_,_,e',l1,_,l3,_,_,t1,_,t3,_⟩:=hc.f;rw[e] at e';cases e';rw[e];refine (first_0 (n:=c.np) t1 l1 (by omega) l3 e2.symm).mono ?_
 rintro _ ⟨pl,rfl,h1,h2⟩;exact ⟨_,rfl,[],pl,rfl,by simp,h1,(fun x hx=>absurd hx (List.not_mem_nil)),h2⟩
def CodeI (ys:List T):Prop:=1≤ys.length∧ys.length≤39∧∀x∈ys,iz x
def md (q:Nat) (o:List T):Prop:=∃(ys:List T) (r':T),o = [.sl ys,r']∧Rd q r'∧CodeI ys
theorem zV {xs:List T} (h:dX xs):CodeI (xs ++ [(T.st [(T.str bE),(T.int (9:Int)),(T.int (0:Int))]),(T.st [(T.str bm),(T.int (0:Int)),(T.int (0:Int))])]):=by
 have:=h.1
 refine ⟨by simp,by simp;omega,fun x hx=>?_⟩
 rcases List.mem_append.1 hx with hx | hx
 ·exact h.2 x hx
 ·simp only[List.mem_cons,List.not_mem_nil,or_false] at hx;rcases hx with rfl | rfl
  ·exact fh (by decide) (by omega) (by omega)
  ·exact fh (by decide) (by omega) (by omega)
theorem Lc {c:Cx} {q:Nat} {b:Bool} {s r:T} {xs:List T} (hc:co c) (hs:ShI c s) (hx:dX xs) (hr:Rd q r):YP (fun k=>bif b then
   obind (cl env k bk (doA c s (.sl xs) (T.st [(T.str o8),(T.int (0:Int)),(T.int (0:Int))]))) fun r2=>
   bif (!(rt r2 2).b) then
   bif (decide (((rt r2 1).es).length + [(T.st [(T.str bE),(T.int (9:Int)),(T.int (0:Int))]),(T.st [(T.str bm),(T.int (0:Int)),(T.int (0:Int))])].length≤LIM)) then
   some [(T.sl ((rt r2 1).es ++ [(T.st [(T.str bE),(T.int (9:Int)),(T.int (0:Int))]),(T.st [(T.str bm),(T.int (0:Int)),(T.int (0:Int))])])),r]
   else none
   else some [(rt r2 1),r]
   else
   bif (!b) then
   bif (decide (xs.length + [(T.st [(T.str bE),(T.int (9:Int)),(T.int (0:Int))]),(T.st [(T.str bm),(T.int (0:Int)),(T.int (0:Int))])].length≤LIM)) then
   some [(T.sl (xs ++ [(T.st [(T.str bE),(T.int (9:Int)),(T.int (0:Int))]),(T.st [(T.str bm),(T.int (0:Int)),(T.int (0:Int))])])),r]
   else none
   else some [.sl xs,r]) (md q):=by
 have:=hx.1
 cases b with
 | false=>
  simp only[bnA,cond_true,cond_false,beq_self_eq_true];exact YP.guard (decide_eq_true (by rw[bD];simp;omega)) (YP.some ⟨_,r,rfl,hr,zV hx⟩)
 | true=>
  simp only[bnA,cond_true,cond_false,beq_self_eq_true];rcases iP hc hs (fh (w:=o8) (k:=0) (by decide) (by omega) (by omega)) hx with h | ⟨t,h⟩
  ·refine YP.obind (YP.of (Q:=fun o=>o=_) h.go rfl) ?_
   rintro _ rfl;simp only[tnA];exact YP.tt rfl (YP.guard (decide_eq_true (by rw[bD];simp;omega)) (YP.some ⟨_,r,rfl,hr,zV hx⟩))
  ·refine YP.obind (YP.of (Q:=fun o=>o=_) h.go rfl) ?_
   rintro _ rfl;simp only[tnA];have ho:=h.out;refine YP.ff rfl (YP.some ⟨_,r,rfl,hr,by simp,by have:=ho.1;omega,ho.2⟩)
theorem end_5 {c:Cx} {q:Nat} {n0:Int} {ags rs ls tk cd:List T} {r:T} (hc:co c) (e:c.f = .st [.int n0,.sl ags,.sl rs,.sl ls,.sl tk,.sl cd]) (hrs:dL c.ks rs) (hrl:rs.length≤10) (hr:Rd q r) : ∀{d i:Nat} {b:Bool} {s:T} {xs:List T},i+d=rs.length→ShI c s→dX xs→
  YP (fun k=>dB (hl env k aV) (.sl c.sh) (.sl c.ks) (.int (c.m:Int)) (.bool b) (.int (i:Int)) r (.sl xs) c.f s) (md q):=by
 intro d;induction d with
 | zero=>
  intro i b s xs hd hs hx;refine YP.call ?_ (fun r h=>qP _ _ _ _ _ _ _ _ _ h)
  unfold jA mD;rw[e];simp only[tnA];refine YP.ff (decide_eq_false (by omega)) ?_
  have:=Lc (b:=b) hc hs hx hr
  rw[doA,e] at this;exact this
 | succ d ih=>
  intro i b s xs hd hs hx;refine YP.call ?_ (fun r h=>qP _ _ _ _ _ _ _ _ _ h)
  unfold jA mD;obtain ⟨u,eu,hu⟩:=hrs _ (List.getElem_mem (show i < rs.length by omega))
  have eu':(T.sl rs).nth i = .str u:=by rw[bh (by omega)];exact eu
  have ht:=Lc (b:=b) hc hs hx hr
  have hm:=Av hc hu hs hx;rw[doA,e] at ht hm;rw[e] at ih ⊢;simp only[tnA];simp only[eu'];rw[cF (by omega)]
  refine YP.tt (decide_eq_true (by omega)) ?_
  cases b with
  | true=>
   refine YP.tt rfl (YP.guard (by (simp <;> omega)) ?_)
   refine YP.obind hm ?_;rintro _ ⟨t,ys,b2,rfl,h1,h2⟩;simp only[tnA];exact ih (by omega) h1 h2
  | false=>
   refine YP.ff rfl ?_;exact ht
theorem end_3 {c:Cx} {q:Nat} {n0:Int} {ags rs ls tk cd:List T} {r:T} (hc:co c) (e:c.f = .st [.int n0,.sl ags,.sl rs,.sl ls,.sl tk,.sl cd]) (hrs:dL c.ks rs) (hrl:rs.length≤10) (hr:Rd q r) {b:Bool} {s:T} {xs:List T} (hs:ShI c s) (hx:dX xs) :
  YP (fun k=>fl (hl env k aV) (.sl c.sh) (.sl c.ks) (.int (c.m:Int)) (.bool b) (.int ((0:Nat):Int)) r (.sl xs) c.f s) (md q):=by
 refine YP.call ?_ (fun r h=>wB _ _ _ _ _ _ _ _ _ h)
 unfold mD;have ht:=Lc (b:=b) hc hs hx hr
 have h5:=fun {d i:Nat} {b:Bool} {s:T} {xs:List T}=>end_5 (d:=d) (i:=i) (b:=b) (s:=s) (xs:=xs) hc e hrs hrl hr
 rw[doA,e] at ht;rw[e] at h5 ⊢;simp only[tnA];rw[cF (by omega)]
 refine YP.ite (fun hz=>?_) (fun hz=>ht)
 have hz:=of_decide_eq_true hz;obtain ⟨u,eu,hu⟩:=hrs _ (List.getElem_mem (show 0 < rs.length by omega))
 have eu':(T.sl rs).nth 0 = .str u:=by rw[bh (by omega)];exact eu
 have hm:=Av hc hu hs hx;rw[doA,e] at hm;simp only[eu'];cases b with
 | true=>
  refine YP.tt rfl (YP.guard (by (simp <;> omega)) ?_)
  refine YP.obind hm ?_;rintro _ ⟨t,ys,b2,rfl,h1,h2⟩;simp only[tnA];exact h5 (d:=rs.length - 1) (i:=0+1) (by omega) h1 h2
 | false=>
  refine YP.ff rfl ?_;exact ht
theorem end_4 {c:Cx} {q:Nat} {r:T} {x5:T} {b:Bool} {st pl xs:List T} (hc:co c) (hs:ShI c (.st [.sl st,.sl pl])) (hx:dX xs)
  (n1 : ∀(b:Bool) (s:T) (xs:List T),ShI c s→dX xs→YP (fun k=>dA (hl env k aV) (.sl c.sh) (.sl c.ks) (.int (c.m:Int)) (.bool b) (.int (IntKind.wrap .i64 (x5.i+(1:Int)))) r (.sl xs) c.f s) (md q))
  (n5:YP (fun k=>dB (hl env k aV) (.sl c.sh) (.sl c.ks) (.int (c.m:Int)) (.bool b) (.int ((0:Nat):Int)) r (.sl xs) c.f (.st [.sl st,.sl pl])) (md q)) : ∀{d i:Nat} {at0:Int},i+d=pl.length→-1≤at0→at0≤1000→
  YP (fun k=>fm (hl env k aV) (.sl c.sh) (.sl c.ks) (.int (c.m:Int)) (.bool b) x5 (.int at0) (.int (i:Int)) r (.sl xs) c.f (.st [.sl st,.sl pl])) (md q):=by
 have hle:=wa hc;have hpl:pl.length=c.np∧∀x∈pl,MkP c.ks x:=by
  obtain ⟨_,_,e,_,h2,_,h4⟩:=hs;cases e;exact ⟨h2,h4⟩
 intro d;induction d with
 | zero=>
  intro i at0 hd ha ha2;refine YP.call ?_ (fun r h=>qO _ _ _ _ _ _ _ _ _ _ _ h)
  unfold jz;simp only[tnA];refine YP.ff (decide_eq_false (by omega)) ?_
  refine YP.ite (fun hz=>n5) (fun hz=>?_)
  have hz:=of_decide_eq_false hz;rcases iP hc hs (fh (w:=od) (k:=at0) (by decide) (by omega) (by omega)) hx with h | ⟨t,h⟩
  ·refine YP.obind (YP.of (Q:=fun o=>o=_) h.go rfl) ?_
   rintro _ rfl;exact n1 _ _ _ hs hx
  ·refine YP.obind (YP.of (Q:=fun o=>o=_) h.go rfl) ?_
   rintro _ rfl;exact n1 _ _ _ h.sh h.out
 | succ d ih=>
  intro i at0 hd ha ha2;refine YP.call ?_ (fun r h=>qO _ _ _ _ _ _ _ _ _ _ _ h)
  unfold jz;obtain ⟨s,is,em,_,_,hms⟩:=hpl.2 _ (List.getElem_mem (show i < pl.length by omega))
  have em':(T.sl pl).nth i = .st [.str s,.sl is]:=by rw[bh (by omega)];exact em
  simp only[tnA];simp only[em'];simp only[tnA];rw[cF (by omega)]
  refine YP.tt (decide_eq_true (by omega)) (YP.guard (by (simp <;> omega)) ?_)
  refine YP.ite (fun hz=>?_) (fun hz=>ih (by omega) ha ha2)
  rw[nB] at hz;have hms:cK c.ks s=true:=by
   rcases hms with h | h
   ·rw[h] at hz;cases hz
   ·exact h
  refine YP.guard (by (simp <;> omega)) ?_
  refine YP.obind (sJ hc.k hms) ?_;rintro _ ⟨f,rfl,f0,f1⟩;simp only[tnA];refine YP.obind (vi ⟨f0,f1⟩ (by simp)) ?_
  rintro _ ⟨b2,rfl⟩;simp only[tnA];refine YP.ite (fun hz=>ih (by omega) (by omega) (by omega)) (fun hz=>ih (by omega) ha ha2)
theorem end_2 {c:Cx} {q:Nat} {r:T} {x5:T} {b:Bool} {st pl xs:List T} (hc:co c) (hs:ShI c (.st [.sl st,.sl pl])) (hx:dX xs)
  (n1 : ∀(b:Bool) (s:T) (xs:List T),ShI c s→dX xs→YP (fun k=>dA (hl env k aV) (.sl c.sh) (.sl c.ks) (.int (c.m:Int)) (.bool b) (.int (IntKind.wrap .i64 (x5.i+(1:Int)))) r (.sl xs) c.f s) (md q))
  (n5:YP (fun k=>fl (hl env k aV) (.sl c.sh) (.sl c.ks) (.int (c.m:Int)) (.bool b) (.int ((0:Nat):Int)) r (.sl xs) c.f (.st [.sl st,.sl pl])) (md q)) : ∀{d i:Nat} {at0:Int},i+d=pl.length→-1≤at0→at0≤1000→
  YP (fun k=>fk (hl env k aV) (.sl c.sh) (.sl c.ks) (.int (c.m:Int)) (.bool b) x5 (.int at0) (.int (i:Int)) r (.sl xs) c.f (.st [.sl st,.sl pl])) (md q):=by
 have hle:=wa hc;have hpl:pl.length=c.np∧∀x∈pl,MkP c.ks x:=by
  obtain ⟨_,_,e,_,h2,_,h4⟩:=hs;cases e;exact ⟨h2,h4⟩
 intro d;induction d with
 | zero=>
  intro i at0 hd ha ha2;refine YP.call ?_ (fun r h=>qN _ _ _ _ _ _ _ _ _ _ _ h)
  unfold jy;simp only[tnA];refine YP.ff (decide_eq_false (by omega)) ?_
  refine YP.ite (fun hz=>n5) (fun hz=>?_)
  have hz:=of_decide_eq_false hz;rcases iP hc hs (fh (w:=od) (k:=at0) (by decide) (by omega) (by omega)) hx with h | ⟨t,h⟩
  ·refine YP.obind (YP.of (Q:=fun o=>o=_) h.go rfl) ?_
   rintro _ rfl;exact n1 _ _ _ hs hx
  ·refine YP.obind (YP.of (Q:=fun o=>o=_) h.go rfl) ?_
   rintro _ rfl;exact n1 _ _ _ h.sh h.out
 | succ d ih=>
  intro i at0 hd ha ha2;refine YP.call ?_ (fun r h=>qN _ _ _ _ _ _ _ _ _ _ _ h)
  unfold jy;obtain ⟨s,is,em,_,_,hms⟩:=hpl.2 _ (List.getElem_mem (show i < pl.length by omega))
  have em':(T.sl pl).nth i = .st [.str s,.sl is]:=by rw[bh (by omega)];exact em
  simp only[tnA];simp only[em'];simp only[tnA];rw[cF (by omega)]
  refine YP.tt (decide_eq_true (by omega)) (YP.guard (by (simp <;> omega)) ?_)
  refine YP.ite (fun hz=>?_) (fun hz=>ih (by omega) ha ha2)
  rw[nB] at hz;have hms:cK c.ks s=true:=by
   rcases hms with h | h
   ·rw[h] at hz;cases hz
   ·exact h
  refine YP.guard (by (simp <;> omega)) ?_
  refine YP.obind (sJ hc.k hms) ?_;rintro _ ⟨f,rfl,f0,f1⟩;simp only[tnA];refine YP.obind (vi ⟨f0,f1⟩ (by simp)) ?_
  rintro _ ⟨b2,rfl⟩;simp only[tnA];refine YP.ite (fun hz=>ih (by omega) (by omega) (by omega)) (fun hz=>ih (by omega) ha ha2)
theorem end_1 {c:Cx} {q:Nat} {n0:Int} {ags rs ls tk cd:List T} (hc:co c) (e:c.f = .st [.int n0,.sl ags,.sl rs,.sl ls,.sl tk,.sl cd]) (hrs:dL c.ks rs) (hrl:rs.length≤10) : ∀{m n:Nat} {b:Bool} {s r:T} {xs:List T},n+m=30→Rd (q+m) r→ShI c s→dX xs→
  YP (fun k=>dA (hl env k aV) (.sl c.sh) (.sl c.ks) (.int (c.m:Int)) (.bool b) (.int (n:Int)) r (.sl xs) c.f s) (md q):=by
 intro m;induction m with
 | zero=>
  intro n b s r xs hn hr hs hx;refine YP.call ?_ (fun r h=>qM _ _ _ _ _ _ _ _ _ h)
  unfold jx;simp only[tnA];refine YP.ite (fun hb=>YP.ff (decide_eq_false (by omega)) ?_) (fun hb=>?_)
  all_goals exact end_5 hc e hrs hrl hr (d:=rs.length) (i:=0) (by omega) hs hx
 | succ m ih=>
  intro n b s r xs hn hr hs hx;refine YP.call ?_ (fun r h=>qM _ _ _ _ _ _ _ _ _ h)
  unfold jx;obtain ⟨st,pl,rfl,l1,l2,_⟩:=id hs;simp only[tnA];refine YP.ite (fun hb=>?_) (fun hb=>end_5 hc e hrs hrl (hr.less (by omega)) (d:=rs.length) (i:=0) (by omega) hs hx)
  refine YP.tt (decide_eq_true (by omega)) ?_
  rw[cF (by omega)]
  refine YP.ite (fun hz=>?_) (fun hz=>?_)
  ·have hz:=of_decide_eq_true hz;refine YP.obind (ct_off hc hs (by omega) hx hr) ?_
   rintro _ ⟨t,ys,b2,r',rfl,h1,h2,h3⟩;simp only[tnA];exact ih (by omega) h3 h1 h2
  ·refine end_4 (x5:=.int _) hc hs hx (fun b s xs hs hx=>?_) (end_5 hc e hrs hrl (hr.less (by omega)) (d:=rs.length) (i:=0) (by omega) hs hx) (d:=pl.length) (i:=0) (by omega) (by omega) (by omega)
   simp only[tnA];rw[cF (by omega)]
   exact ih (by omega) (hr.less (by omega)) hs hx
theorem end_0 {c:Cx} {q:Nat} {n0:Int} {ags rs ls tk cd:List T} (hc:co c) (e:c.f = .st [.int n0,.sl ags,.sl rs,.sl ls,.sl tk,.sl cd]) (hrs:dL c.ks rs) (hrl:rs.length≤10) {b:Bool} {s r:T} {xs:List T} (hr:Rd (q+29+1) r) (hs:ShI c s) (hx:dX xs) :
  YP (fun k=>mS (hl env k aV) (.sl c.sh) (.sl c.ks) (.int (c.m:Int)) (.bool b) (.int ((0:Nat):Int)) r (.sl xs) c.f s) (md q):=by
 refine YP.call ?_ (fun r h=>wA _ _ _ _ _ _ _ _ _ h)
 unfold mC;obtain ⟨st,pl,rfl,l1,l2,_⟩:=id hs;simp only[tnA];refine YP.ite (fun hb=>?_) (fun hb=>end_3 hc e hrs hrl (hr.less (by omega)) hs hx)
 refine YP.tt (decide_eq_true (by omega)) ?_
 rw[cF (by omega)]
 refine YP.ite (fun hz=>?_) (fun hz=>?_)
 ·have hz:=of_decide_eq_true hz;refine YP.obind (ct_off hc hs (by omega) hx hr) ?_
  rintro _ ⟨t,ys,b2,r',rfl,h1,h2,h3⟩;simp only[tnA];exact end_1 hc e hrs hrl (m:=29) (n:=0+1) (by omega) h3 h1 h2
 ·refine end_2 (x5:=.int _) hc hs hx (fun b s xs hs hx=>?_) (end_3 hc e hrs hrl (hr.less (by omega)) hs hx) (d:=pl.length) (i:=0) (by omega) (by omega) (by omega)
  simp only[tnA];rw[cF (by omega)]
  exact end_1 hc e hrs hrl (m:=29) (n:=0+1) (by omega) (hr.less (by omega)) hs hx
theorem ct_end {c:Cx} {q:Nat} {s r:T} {xs:List T} (hc:co c) (hr:Rd (q+30) r) (hs:ShI c s) (hx:dX xs):YP (fun k=>cl env k du [r,.sl c.sh,.sl c.ks,.int (c.m:Int),c.f,s,.sl xs]) (md q):=by
 refine YP.call ?_ (fun r h=>yw _ _ _ _ _ _ _ h)
 unfold oQ;obtain ⟨n0,ags,rs,ls,tk,cd,e,l1,l2,l3,l4,l5,t1,t2,_⟩:=hc.f;exact end_0 hc e t2 l2 hr hs hx
theorem out_snoc {xs:List T} {i:T} (h:dX xs) (hl:xs.length≤36) (hi:iz i):dX (xs ++ [i]):=by
 refine ⟨by simp;omega,fun x hx=>?_⟩
 rcases List.mem_append.1 hx with hx | hx
 ·exact h.2 x hx
 ·rw[List.mem_singleton.1 hx];exact hi
theorem xT {xs:List T} {a b:Int} (h:dX xs) (hl:xs.length≤30) (ha:0≤a∧a≤2000000) (hb:0≤b∧b≤2000000):dX (xs ++ [(T.st [(T.str dz),(T.int a),(T.int (0:Int))]),(T.st [(T.str bE),(T.int b),(T.int (0:Int))]),(T.st [(T.str bm),(T.int (0:Int)),(T.int (0:Int))])]):=by
 refine ⟨by simp;omega,fun x hx=>?_⟩
 rcases List.mem_append.1 hx with hx | hx
 ·exact h.2 x hx
 ·simp only[List.mem_cons,List.not_mem_nil,or_false] at hx;rcases hx with rfl | rfl | rfl
  ·exact fh (by decide) ha.1 ha.2
  ·exact fh (by decide) hb.1 hb.2
  ·exact fh (by decide) (by omega) (by omega)
theorem mc {c:Cx} {st pl:List T} {n:Nat} (h:ShI c (.st [.sl st,.sl pl])):ShI c (.st [.sl (st.take n),.sl pl]):=by
 obtain ⟨_,_,e,h1,h2,h3,h4⟩:=h;cases e;exact ⟨_,pl,rfl,by rw[List.length_take];omega,h2,fun x hx=>h3 x (List.mem_of_mem_take hx),h4⟩
abbrev CodeP (c:Cx) (q m:Nat) (L:Nat→T→T→T→T→R):Prop:=∀{s r:T} {xs:List T},Rd (q+30+5 * m) r→ShI c s→dX xs→YP (fun k=>L k (.int (m:Int)) r s (.sl xs)) (md q)
theorem code_all {c:Cx} {q:Nat} (hc:co c) : ∀{m:Nat},m≤1000→CodeP c q m (fun k a r s o=>dO (hl env k bp) (.sl c.sh) (.int (c.m:Int)) (.sl c.ks) a r c.f s o)∧CodeP c q m (fun k a r s o=>aW (hl env k bp) (.sl c.sh) (.int (c.m:Int)) (.sl c.ks) a r c.f s o)∧CodeP c q m (fun k a r s o=>cG (hl env k bp) (.sl c.sh) (.int (c.m:Int)) (.sl c.ks) a r c.f s o)∧CodeP c q m (fun k a r s o=>bg (hl env k bp) (.sl c.sh) (.int (c.m:Int)) (.sl c.ks) a r c.f s o):=by
 intro m;induction m with
 | zero=>
  intro hm;refine ⟨?_,?_,?_,?_⟩;all_goals
   intro s r xs hr hs hx;obtain ⟨st,pl,rfl,hst⟩:=id hs;first | refine YP.call ?_ (fun r h=>qo _ _ _ _ _ _ _ _ h) | refine YP.call ?_ (fun r h=>qp _ _ _ _ _ _ _ _ h) | refine YP.call ?_ (fun r h=>qq _ _ _ _ _ _ _ _ h) | refine YP.call ?_ (fun r h=>qr _ _ _ _ _ _ _ _ h)
   first | unfold iI | unfold iJ | unfold iK | unfold iL
   simp only[tnA];refine YP.ff (decide_eq_false (by omega)) ?_
   refine YP.obind (ct_end hc (q:=q) (hr.less (by omega)) hs hx) ?_
   rintro _ ⟨ys,r',rfl,h1,h2⟩;exact YP.some ⟨ys,r',rfl,h1,h2⟩
 | succ m ih=>
  intro hm;have ih:=ih (by omega)
  refine ⟨?_,?_,?_,?_⟩;all_goals
   intro s r xs hr hs hx;obtain ⟨st,pl,rfl,hst⟩:=id hs;have hl1:=hst.1;first | refine YP.call ?_ (fun r h=>qo _ _ _ _ _ _ _ _ h) | refine YP.call ?_ (fun r h=>qp _ _ _ _ _ _ _ _ h) | refine YP.call ?_ (fun r h=>qq _ _ _ _ _ _ _ _ h) | refine YP.call ?_ (fun r h=>qr _ _ _ _ _ _ _ _ h)
   first | unfold iI | unfold iJ | unfold iK | unfold iL
   simp only[tnA];have em:IntKind.wrap .i64 (((m+1:Nat):Int) - 1)=(m:Int):=by rw[bf (by omega) (by omega)];omega
   simp only[em];refine YP.tt (decide_eq_true (by omega)) ?_
   refine YP.ite (fun hz=>?_) (fun hz=>?_)
   ·have hz:=of_decide_eq_true hz;refine YP.obind (ct_ins (q:=q+30+5 * m+2) (hr.less (by omega))) ?_
    rintro _ ⟨i,r1,rfl,hr1,hi⟩;have hr1':=hr1.less (q':=q+30+5 * m) (by omega)
    simp only[tnA];obtain ⟨w,x,y,rfl,_⟩:=id hi;simp only[tnA];iterate 4
     refine YP.ite (fun hw=>?_) (fun hw=>?_)
     ·first | exact ih.1 hr1' hs hx | exact ih.2.1 hr1' hs hx | exact ih.2.2.1 hr1' hs hx | exact ih.2.2.2 hr1' hs hx
    refine YP.obind (xI hc hs hi) ?_;rintro _ ⟨t,code,rfl,ht⟩;simp only[tnA];refine YP.ite (fun hz2=>?_) (fun hz2=>?_)
    ·have ht:=ht (eq_of_beq hz2);obtain ⟨st2,pl2,rfl,hst2⟩:=id ht;have hl2:=hst2.1;have ho:=out_snoc hx (by omega) hi
     simp only[tnA];refine YP.guard (decide_eq_true (by rw[bD];simp;omega)) ?_
     refine YP.ite (fun hn=>?_) (fun hn=>?_)
     ·have hn:=of_decide_eq_true hn;have e1:IntKind.wrap .i64 ((st2.length:Int) - 1)=((st2.length - 1:Nat):Int):=by rw[bf (by omega) (by omega)];omega
      simp only[e1,Int.toNat_natCast];refine YP.guard (by (simp <;> omega)) ?_
      refine YP.ite (fun hq=>?_) (fun hq=>?_)
      ·refine YP.obind (bA (q:=q+30+5 * m+1) hr1) ?_;rintro _ ⟨v,r2,rfl,hr2,_⟩;have hr2':=hr2.less (q':=q+30+5 * m) (by omega)
       simp only[tnA];refine YP.ite (fun hq=>?_) (fun hq=>?_)
       ·refine YP.ite (fun h17=>?_) (fun h17=>?_)
        ·have h17:=of_decide_eq_true h17;refine YP.obind (bA (q:=q+30+5 * m) hr2) ?_;rintro _ ⟨v,r3,rfl,hr3,v0,v1,_⟩;have v1:=v1 (by omega)
         have e3:IntKind.wrap .i64 (((xs ++ [T.st [T.str w,T.int x,T.int y]]).length:Int)+3)=((xs ++ [T.st [T.str w,T.int x,T.int y]]).length:Int)+3:=bf (by omega) (by omega)
         simp only[tnA];simp only[e3];refine YP.guard (decide_eq_true (by rw[bD];simp only[List.length_append,List.length_cons,List.length_nil] at h17 ⊢;omega)) (YP.guard (by (simp <;> omega)) ?_)
         have ho3:=xT ho (a:=((xs ++ [T.st [T.str w,T.int x,T.int y]]).length:Int)+3) (b:=v) (by omega) (by omega) (by omega)
         first | exact ih.1 hr3 (mc ht) ho3 | exact ih.2.1 hr3 (mc ht) ho3 | exact ih.2.2.1 hr3 (mc ht) ho3 | exact ih.2.2.2 hr3 (mc ht) ho3
        ·first | exact ih.1 hr2' ht ho | exact ih.2.1 hr2' ht ho | exact ih.2.2.1 hr2' ht ho | exact ih.2.2.2 hr2' ht ho
       ·first | exact ih.1 hr2' ht ho | exact ih.2.1 hr2' ht ho | exact ih.2.2.1 hr2' ht ho | exact ih.2.2.2 hr2' ht ho
      ·first | exact ih.1 hr1' ht ho | exact ih.2.1 hr1' ht ho | exact ih.2.2.1 hr1' ht ho | exact ih.2.2.2 hr1' ht ho
     ·first | exact ih.1 hr1' ht ho | exact ih.2.1 hr1' ht ho | exact ih.2.2.1 hr1' ht ho | exact ih.2.2.2 hr1' ht ho
    ·skip
     refine YP.ite (fun hn=>?_) (fun hn=>?_)
     ·have hn:=of_decide_eq_true hn;have e1:IntKind.wrap .i64 ((st.length:Int) - 1)=((st.length - 1:Nat):Int):=by rw[bf (by omega) (by omega)];omega
      simp only[e1,Int.toNat_natCast];refine YP.guard (by (simp <;> omega)) ?_
      refine YP.ite (fun hq=>?_) (fun hq=>?_)
      ·refine YP.obind (bA (q:=q+30+5 * m+1) hr1) ?_;rintro _ ⟨v,r2,rfl,hr2,_⟩;have hr2':=hr2.less (q':=q+30+5 * m) (by omega)
       simp only[tnA];refine YP.ite (fun hq=>?_) (fun hq=>?_)
       ·refine YP.ite (fun h17=>?_) (fun h17=>?_)
        ·have h17:=of_decide_eq_true h17;refine YP.obind (bA (q:=q+30+5 * m) hr2) ?_;rintro _ ⟨v,r3,rfl,hr3,v0,v1,_⟩;have v1:=v1 (by omega)
         have e3:IntKind.wrap .i64 (((xs).length:Int)+3)=((xs).length:Int)+3:=bf (by omega) (by omega)
         simp only[tnA];simp only[e3];refine YP.guard (decide_eq_true (by rw[bD];simp only[List.length_append,List.length_cons,List.length_nil] at h17 ⊢;omega)) (YP.guard (by (simp <;> omega)) ?_)
         have ho3:=xT hx (a:=((xs).length:Int)+3) (b:=v) (by omega) (by omega) (by omega)
         first | exact ih.1 hr3 (mc hs) ho3 | exact ih.2.1 hr3 (mc hs) ho3 | exact ih.2.2.1 hr3 (mc hs) ho3 | exact ih.2.2.2 hr3 (mc hs) ho3
        ·first | exact ih.1 hr2' hs hx | exact ih.2.1 hr2' hs hx | exact ih.2.2.1 hr2' hs hx | exact ih.2.2.2 hr2' hs hx
       ·first | exact ih.1 hr2' hs hx | exact ih.2.1 hr2' hs hx | exact ih.2.2.1 hr2' hs hx | exact ih.2.2.2 hr2' hs hx
      ·first | exact ih.1 hr1' hs hx | exact ih.2.1 hr1' hs hx | exact ih.2.2.1 hr1' hs hx | exact ih.2.2.2 hr1' hs hx
     ·first | exact ih.1 hr1' hs hx | exact ih.2.1 hr1' hs hx | exact ih.2.2.1 hr1' hs hx | exact ih.2.2.2 hr1' hs hx
   ·refine YP.obind (ct_end hc (q:=q) (hr.less (by omega)) hs hx) ?_
    rintro _ ⟨ys,r',rfl,h1,h2⟩;exact YP.some ⟨ys,r',rfl,h1,h2⟩
theorem ct_code {c:Cx} {q:Nat} {r:T} (hc:co c) (hk:YP (fun k=>cl env k d9 [.sl c.sh]) (fun o=>o = [.sl c.ks])) (hr:Rd (q+330) r):YP (fun k=>cl env k ng [r,.sl c.sh,.int (c.m:Int),c.f]) (md q):=by
 refine YP.call ?_ (fun r h=>xu _ _ _ _ h)
 unfold nu;refine YP.obind hk ?_;rintro _ rfl;refine YP.obind (QN hc) ?_;rintro _ ⟨s,rfl,hs⟩;refine YP.obind (bA (q:=q+329) hr) ?_;rintro _ ⟨v,r1,rfl,hr1,v0,v1,_⟩;have v1:=v1 (by omega)
 obtain ⟨v,rfl⟩ : ∃k':Nat,v=(k':Int):=⟨v.toNat,by omega⟩
 simp only[tnA];have e:IntKind.wrap .i64 ((6:Int)+(v:Int))=((6+v:Nat):Int):=by rw[bf (by omega) (by omega)];omega
 rw[e];obtain ⟨st,pl,rfl,_⟩:=id hs;exact (code_all hc (m:=6+v) (by omega)).1 (hr1.less (by omega)) hs ⟨by simp,fun x hx=>by cases hx⟩
def HeadR (ks:List T) (q:Nat) (o:List T):Prop:=∃g r':T,o = [g,r']∧Rd q r'∧FnV ks g
theorem mW {ks xs:List T} {refs:Bool} (h : ∀x∈xs,TyR ks refs x):dL ks xs:=fun x hx=>by
 obtain ⟨s,e,h,_⟩:=h x hx;exact ⟨s,e,h⟩
theorem head_fin {ks:List T} {n0:Int} {ags rs ls tk:List T} (l1:ags.length≤10) (l2:rs.length≤10) (l3:ls.length≤10) (l4:tk.length≤10) (t1:dL ks ags) (t2:dL ks rs) (t3:dL ks ls) (t4:cz tk) :
  FnV ks (.st [.int n0,.sl ags,.sl rs,.sl ls,.sl tk,.sl [(T.st [(T.str bE),(T.int (1:Int)),(T.int (0:Int))]),(T.st [(T.str bm),(T.int (0:Int)),(T.int (0:Int))])]]):=by
 refine ⟨n0,ags,rs,ls,tk,_,rfl,l1,l2,l3,l4,by simp,t1,t2,t3,t4,fun x hx=>?_⟩
 simp only[List.mem_cons,List.not_mem_nil,or_false] at hx;rcases hx with rfl | rfl
 ·exact fh (by decide) (by omega) (by omega)
 ·exact fh (by decide) (by omega) (by omega)
theorem sW {ks:List T} {q:Nat} {z:T} {n0:Int} {ags rs ls:List T} (l1:ags.length≤10) (l2:rs.length≤10) (l3:ls.length≤10) (t1:dL ks ags) (t2:dL ks rs) (t3:dL ks ls) {n:Nat} (hn:n≤10) : ∀{d:Nat},
  (∀{i:Nat} {r:T} {tk:List T},i+d=n→Rd (q+d) r→tk.length≤i→cz tk→YP (fun k=>dU (hl env k cj) (.int (n:Int)) (.int (i:Int)) r z (.st [.int n0,.sl ags,.sl rs,.sl ls,.sl tk,.sl []])) (HeadR ks q))∧
  (∀{i:Nat} {r:T} {tk:List T},i+d=n→Rd (q+d) r→tk.length≤i→cz tk→YP (fun k=>eX (hl env k cj) (.int (n:Int)) (.int (i:Int)) r z (.st [.int n0,.sl ags,.sl rs,.sl ls,.sl tk,.sl []])) (HeadR ks q)):=by
 intro d;induction d with
 | zero=>
  constructor
  all_goals
   intro i r tk hd hr htl ht;first | refine YP.call ?_ (fun r h=>Sr _ _ _ _ _ h) | refine YP.call ?_ (fun r h=>oz _ _ _ _ _ h)
   first | unfold gq | unfold gr
   simp only[tnA];exact YP.ff (decide_eq_false (by omega)) (YP.some ⟨_,r,rfl,hr,head_fin l1 l2 l3 (by omega) t1 t2 t3 ht⟩)
 | succ d ih=>
  constructor
  all_goals
   intro i r tk hd hr htl ht;first | refine YP.call ?_ (fun r h=>Sr _ _ _ _ _ h) | refine YP.call ?_ (fun r h=>oz _ _ _ _ _ h)
   first | unfold gq | unfold gr
   simp only[tnA];rw[cF (by omega)]
   refine YP.tt (decide_eq_true (by omega)) ?_
   refine YP.obind (bA (q:=q+d) hr) ?_;rintro _ ⟨v,r1,rfl,hr1,_⟩;simp only[tnA];have ht2:cz (tk ++ [.int (i:Int)]):=fun x hx=>by
    rcases List.mem_append.1 hx with hx | hx
    ·exact ht x hx
    ·exact ⟨_,List.mem_singleton.1 hx⟩
   refine YP.ite (fun hz=>YP.guard (decide_eq_true (by rw[bD];simp;omega)) ?_) (fun hz=>?_)
   ·exact ih.2 (by omega) hr1 (by simp;omega) ht2
   ·first | exact ih.1 (by omega) hr1 (by omega) ht | exact ih.2 (by omega) hr1 (by omega) ht
theorem xH {ks:List T} {q n:Nat} {r:T} (hf:Few ks) (hn:n≤10) (hr:Rd (q+100) r):YP (fun k=>cl env k iy [r,.sl ks,.int (n:Int)]) (HeadR ks q):=by
 refine YP.call ?_ (fun r h=>Lu _ _ _ h)
 unfold lM;refine YP.obind (vk (q:=q+99) (P:=fun x=>∃n:Int,x = .int n) hr ?_ (by simp)) ?_
 ·intro x hx;simp only[List.mem_cons,List.not_mem_nil,or_false] at hx;rcases hx with rfl | rfl | rfl | rfl | rfl <;> exact ⟨_,rfl⟩
 rintro _ ⟨_,r1,rfl,hr1,n0,rfl⟩;simp only[tnA];refine YP.ite (fun hz=>?_) (fun hz=>?_)
 ·refine YP.obind (jM hf (n:=2) (q:=q+80) (by omega) (hr1.less (by omega))) ?_
  rintro _ ⟨ags,r2,rfl,hr2,l1,t1⟩;simp only[tnA];refine YP.obind (jM hf (n:=3) (q:=q+60) (by omega) (hr2.less (by omega))) ?_
  rintro _ ⟨ls,r3,rfl,hr3,l3,t3⟩;simp only[tnA];refine YP.obind (bA (q:=q+59) hr3) ?_;rintro _ ⟨v,r4,rfl,hr4,_⟩;simp only[tnA];refine YP.obind (jM hf (n:=2) (q:=q+40) (by omega) (hr4.less (by omega))) ?_
  rintro _ ⟨rs,r5,rfl,hr5,l2,t2⟩;simp only[tnA];exact (sW (by omega) (by omega) (by omega) (mW t1) (mW t2) (mW t3) hn (d:=n)).1 (i:=0) (by omega) (hr5.less (by omega)) (by simp) bu
 ·refine YP.obind (bA (q:=q+98) (hr1.less (by omega))) ?_
  rintro _ ⟨v,r2,rfl,hr2,_⟩;simp only[tnA];refine YP.obind (jM hf (n:=2) (q:=q+80) (by omega) (hr2.less (by omega))) ?_
  rintro _ ⟨ags,r3,rfl,hr3,l1,t1⟩;simp only[tnA];refine YP.obind (jM hf (n:=3) (q:=q+60) (by omega) (hr3.less (by omega))) ?_
  rintro _ ⟨ls,r4,rfl,hr4,l3,t3⟩;simp only[tnA];refine YP.ite (fun hz=>?_) (fun hz=>?_)
  ·refine YP.obind (bA (q:=q+59) hr4) ?_;rintro _ ⟨v,r5,rfl,hr5,_⟩;simp only[tnA];refine YP.obind (jM hf (n:=2) (q:=q+40) (by omega) (hr5.less (by omega))) ?_
   rintro _ ⟨rs,r6,rfl,hr6,l2,t2⟩;simp only[tnA];exact (sW (by omega) (by omega) (by omega) (mW t1) (mW t2) (mW t3) hn (d:=n)).1 (i:=0) (by omega) (hr6.less (by omega)) (by simp) bu
  ·refine YP.obind (jM hf (n:=2) (q:=q+40) (by omega) (hr4.less (by omega))) ?_
   rintro _ ⟨rs,r6,rfl,hr6,l2,t2⟩;simp only[tnA];exact (sW (by omega) (by omega) (by omega) (mW t1) (mW t2) (mW t3) hn (d:=n)).1 (i:=0) (by omega) (hr6.less (by omega)) (by simp) bu
theorem nS {ks l:List T} {i:Nat} (h:i < ks.length):(T.sl (ks++l)).nth i=(T.sl ks).nth i:=by
 rw[bh (by simp;omega),bh h,List.getElem_append_left h]
theorem AF {ks l:List T} {i j:Nat} (h:lS ks i j=true):lS (ks++l) i j=true:=by
 obtain ⟨h1,h2⟩:=rk h;unfold lS;rw[nS h1,decide_eq_true (show i < (ks++l).length by simp;omega),decide_eq_true h2];rfl
theorem Ce {ks l:List T} {s:ByteArray} (h:cW ks s=true):cW (ks++l) s=true:=by
 unfold cW nQ at *
 cases hb:dw s with
 | true=>rfl
 | false=>
  rw[hb,Bool.false_or] at h;cases hk:O6 s with
  | none=>rw[hk] at h;cases h
  | some p=>
   obtain ⟨i,j⟩:=p;rw[hk] at h;simp only[Bool.false_or];exact AF h
theorem typ_app {ks l:List T} {s:ByteArray} (h:cK ks s=true):cK (ks++l) s=true:=Ce (s:=ofB s) h
theorem xe {ks l xs:List T} (h:dL ks xs):dL (ks++l) xs:=fun x hx=>by
 obtain ⟨s,e,h⟩:=h x hx;exact ⟨s,e,typ_app h⟩
theorem fn_app {ks l:List T} {g:T} (h:FnV ks g):FnV (ks++l) g:=by
 obtain ⟨n,ags,rs,ls,tk,cd,e,l1,l2,l3,l4,l5,t1,t2,t3,t4,t5⟩:=h;exact ⟨n,ags,rs,ls,tk,cd,e,l1,l2,l3,l4,l5,xe t1,xe t2,xe t3,t4,t5⟩
theorem mod_app {ks l:List T} {x:T} (h:oH ks x):oH (ks++l) x:=by
 obtain ⟨rs,fs,fr,e,h1,h2,h3,h4⟩:=h;exact ⟨rs,fs,fr,e,h1,h2,h3,fun g hg=>fn_app (h4 g hg)⟩
def FnC (g:T):Prop:=1≤((g.fld 5).es).length
def ShV (ms:List T):Prop:=ms.length≤3∧KOk (aY ms)∧(∀x∈ms,oH (aY ms) x)∧(∀x∈ms,kW BB x)∧∀x∈ms,∀g∈(x.fld 1).es,FnC g
theorem fn_is {ks:List T} {g:T} (h:FnV ks g):j5 BB g:=by
 obtain ⟨n,ags,rs,ls,tk,cd,rfl,l1,l2,l3,l4,l5,t1,t2,t3,t4,t5⟩:=h;have str : ∀{xs:List T},dL ks xs→∀x∈xs,tv x:=fun h x hx=>by
  obtain ⟨s,e,h⟩:=h x hx;exact ⟨s,e,by have:=nX h;rw[jZ];omega⟩
 refine .mk (by rw[BBv];omega) (by rw[BBv];omega) (by rw[BBv];omega) (by rw[BBv];omega) (by rw[BBv];omega) (str t1) (str t2) (str t3) t4 (fun x hx=>?_)
 obtain ⟨s,a,b,e,h1,_⟩:=t5 x hx;exact ⟨s,a,b,e,by rw[jZ];omega⟩
theorem ua (ms:List T) (x:T):aY (ms ++ [x])=aY ms ++ [x.fld 0]:=by simp[aY]
theorem zL {t:T} (h:hM 4 t):DG BB t:=by
 obtain ⟨a,fs,rfl,h1,h2,h3,h4⟩:=h;refine ⟨a,fs,rfl,by omega,by omega,by rw[BBv];omega,fun x hx=>?_⟩
 obtain ⟨s,e,h⟩:=h4 x hx;exact ⟨s,e,by rw[jZ];omega⟩
theorem sh_all {ms rs fs:List T} (h:ShV ms) (hl:ms.length≤2) (hk:KOk (aY ms ++ [.sl rs])) (hr : ∀x∈rs,hM 4 x) (hrl:rs.length≤3) (hf : ∀g∈fs,FnV (aY ms ++ [.sl rs]) g) (hfl:fs.length≤10) :
  (∀x∈ms ++ [.st [.sl rs,.sl fs,.sl []]],oH (aY ms ++ [.sl rs]) x)∧∀x∈ms ++ [.st [.sl rs,.sl fs,.sl []]],kW BB x:=by
 obtain ⟨h1,h2,h3,h4,h5⟩:=h;constructor
 ·intro x hx;rcases List.mem_append.1 hx with hx | hx
  ·exact mod_app (h3 x hx)
  ·rw[List.mem_singleton.1 hx];exact ⟨rs,fs,[],rfl,by omega,by simp,bu,hf⟩
 ·intro x hx;rcases List.mem_append.1 hx with hx | hx
  ·exact h4 x hx
  ·rw[List.mem_singleton.1 hx];exact .mk ⟨rs,rfl,by rw[BBv];omega,fun x hx=>zL (hr x hx)⟩ (by rw[BBv];omega) (fun g hg=>fn_is (hf g hg)) (by simp) bu
def ModR (ks' rs:List T) (q:Nat) (o:List T):Prop:=∃(fs:List T) (r':T),o = [.st [.sl rs,.sl fs,.sl []],r']∧Rd q r'∧fs.length≤10∧(∀g∈fs,FnV ks' g)∧∀g∈fs,FnC g
theorem code_put {ks:List T} {g:T} {ys:List T} (h:FnV ks g) (hy:CodeI ys):FnV ks (.st (g.fs.set 5 (.sl ys)))∧FnC (.st (g.fs.set 5 (.sl ys))):=by
 obtain ⟨n,ags,rs,ls,tk,cd,rfl,l1,l2,l3,l4,l5,t1,t2,t3,t4,t5⟩:=h;exact ⟨⟨n,ags,rs,ls,tk,ys,rfl,l1,l2,l3,l4,by have:=hy.2.1;omega,t1,t2,t3,t4,hy.2.2⟩,hy.1⟩
theorem mod_4 {q:Nat} {ms rs:List T} {z w:T} (hm:ShV ms) (hml:ms.length≤2) (hk:KOk (aY ms ++ [.sl rs])) (hr : ∀x∈rs,hM 4 x) (hrl:rs.length≤3) : ∀{d i:Nat} {r:T} {fs:List T},i+d=fs.length→Rd (q+330 * d) r→fs.length≤10→(∀g∈fs,FnV (aY ms ++ [.sl rs]) g)→(∀j,j < i→FnC ((T.sl fs).nth j))→
  YP (fun k=>gD (hl env k bi) (.sl ms) (.sl ms) (.int (i:Int)) r z (.st [.sl rs,.sl fs,.sl []]) w) (ModR (aY ms ++ [.sl rs]) rs q):=by
 intro d;induction d with
 | zero=>
  intro i r fs hd hrd hfl hf hc;refine YP.call ?_ (fun r h=>oC _ _ _ _ _ _ _ h)
  unfold gv;simp only[tnA];refine YP.ff (decide_eq_false (by omega)) (YP.some ⟨fs,r,rfl,hrd,hfl,hf,fun g hg=>?_⟩)
  obtain ⟨j,hj,rfl⟩:=List.getElem_of_mem hg;have:=hc j (by omega)
  rw[bh hj] at this;exact this
 | succ d ih=>
  intro i r fs hd hrd hfl hf hc;refine YP.call ?_ (fun r h=>oC _ _ _ _ _ _ _ h)
  unfold gv;have hi:i < fs.length:=by omega
  have hg:=hf _ (List.getElem_mem hi);have eg:(T.sl fs).nth i=fs[i]:=bh hi
  have e6:T.st [fs[i].fld 0,fs[i].fld 1,fs[i].fld 2,fs[i].fld 3,fs[i].fld 4,fs[i].fld 5]=fs[i]:=func6 (fn_is hg)
  simp only[tnA];simp only[eg,e6];refine YP.tt (decide_eq_true (by omega)) (YP.guard (by (simp <;> omega)) ?_)
  obtain ⟨a1,a2⟩:=sh_all hm hml hk hr hrl hf hfl;obtain ⟨n0,ags,rs0,ls,tk,cd,ec,_⟩:=id hg;let c:Cx:=⟨ms ++ [.st [.sl rs,.sl fs,.sl []]],aY ms ++ [.sl rs],ms.length,fs[i],ags.length+ls.length⟩
  have hc':co c:=⟨hk,by show ms.length < (aY ms ++ [T.sl rs]).length;rw[List.length_append,qW];simp,hg,⟨n0,ags,rs0,ls,tk,cd,ec,rfl⟩,by show (ms ++ [T.st [.sl rs,.sl fs,.sl []]]).length≤1000;rw[List.length_append];show ms.length+1≤1000;omega,a1⟩
  have hkk:YP (fun k=>cl env k d9 [.sl c.sh]) (fun o=>o = [.sl c.ks]):=by
   refine YP.of (tF (ms ++ [T.st [.sl rs,.sl fs,.sl []]]) (by rw[BBv,List.length_append];show ms.length+1≤_;omega) a2) ?_
   rw[ua];rfl
  refine YP.obind (ct_code (c:=c) (q:=q+330 * d) hc' hkk (hrd.less (by omega))) ?_
  rintro _ ⟨ys,r1,rfl,hr1,hy⟩;simp only[tnA];refine YP.guard (by (simp <;> omega)) ?_
  rw[cF (by omega)]
  obtain ⟨p1,p2⟩:=code_put hg hy;have ep:T.put (.st [.sl rs,.sl fs,.sl []]) [.fld 1,.idx i,.fld 5] (.sl ys) = .st [.sl rs,.sl (fs.set i (.st (fs[i].fs.set 5 (.sl ys)))),.sl []]:=by
   show T.st [.sl rs,.sl (fs.set i (.st (((T.sl fs).nth i).fs.set 5 (.sl ys)))),.sl []]=_
   rw[eg]
  simp only[ep];refine ih (by rw[List.length_set];omega) hr1 (by rw[List.length_set];omega) (fun g hg=>?_) (fun j hj=>?_)
  ·rcases List.mem_or_eq_of_mem_set hg with hg | rfl
   ·exact hf g hg
   ·exact p1
  ·have hjl:j < fs.length:=by omega
   rw[bh (by rw[List.length_set];exact hjl),List.getElem_set]
   split
   ·exact p2
   ·have:=hc j (by omega)
    rw[bh hjl] at this;exact this
theorem tG {ks:List T} (h:KOk ks):Few ks:=⟨by have:=h.1;omega,fun i hi=>by have:=(h.2 i hi).1;omega⟩
theorem zg {ks:List T} {g:T} (h:FnV ks g):T.st [g.fld 0,g.fld 1,g.fld 2,g.fld 3,g.fld 4,g.fld 5]=g:=by
 obtain ⟨n,ags,rs,ls,tk,cd,rfl,_⟩:=h;rfl
theorem mod_2 {q:Nat} {ms rs:List T} {z w:T} (hm:ShV ms) (hml:ms.length≤2) (hk:KOk (aY ms ++ [.sl rs])) (hr : ∀x∈rs,hM 4 x) (hrl:rs.length≤3) : ∀{d:Nat} {r:T} {fs:List T},Rd (q+3300+100 * d) r→fs.length+d≤10→(∀g∈fs,FnV (aY ms ++ [.sl rs]) g)→
  YP (fun k=>gC (hl env k bi) (.sl ms) (.sl (aY ms)) (.int (d:Int)) r z (.st [.sl rs,.sl fs,.sl []]) w) (ModR (aY ms ++ [.sl rs]) rs q):=by
 intro d;induction d with
 | zero=>
  intro r fs hrd hfl hf;refine YP.call ?_ (fun r h=>oB _ _ _ _ _ _ _ h)
  unfold gu;simp only[tnA];refine YP.ff (decide_eq_false (by omega)) ?_
  refine YP.guard (decide_eq_true (by rw[bD];simp;omega)) (YP.guard (decide_eq_true (by rw[bD];simp;omega)) ?_)
  exact mod_4 hm hml hk hr hrl (d:=fs.length) (i:=0) (by omega) (hrd.less (by omega)) (by omega) hf (fun j hj=>by omega)
 | succ d ih=>
  intro r fs hrd hfl hf;refine YP.call ?_ (fun r h=>oB _ _ _ _ _ _ _ h)
  unfold gu;simp only[tnA];refine YP.tt (decide_eq_true (by omega)) ?_
  refine YP.obind (xH (q:=q+3300+100 * d) (tG hk) (n:=rs.length) (by omega) (hrd.less (by omega))) ?_
  rintro _ ⟨g,r1,rfl,hr1,hg⟩;simp only[tnA];have em:IntKind.wrap .i64 (((d+1:Nat):Int) - 1)=(d:Int):=by rw[bf (by omega) (by omega)];omega
  simp only[em,zg hg];refine YP.guard (decide_eq_true (by rw[bD];simp;omega)) ?_
  refine ih hr1 (by simp;omega) (fun x hx=>?_)
  rcases List.mem_append.1 hx with hx | hx
  ·exact hf x hx
  ·rw[List.mem_singleton.1 hx];exact hg
theorem mod_1 {q:Nat} {ms rs:List T} {z w:T} (hm:ShV ms) (hml:ms.length≤2) (hk:KOk (aY ms ++ [.sl rs])) (hr : ∀x∈rs,hM 4 x) (hrl:rs.length≤3) {d:Nat} {r:T} (hrd:Rd (q+3300+100 * (d+1)) r) (hd:d≤5) :
  YP (fun k=>jW (hl env k bi) (.sl ms) (.sl (aY ms)) (.int ((d+1:Nat):Int)) r z (.st [.sl rs,.sl [],.sl []]) w) (ModR (aY ms ++ [.sl rs]) rs q):=by
 refine YP.call ?_ (fun r h=>tr _ _ _ _ _ _ _ h)
 unfold jK;simp only[tnA];refine YP.tt (decide_eq_true (by omega)) ?_
 refine YP.obind (xH (q:=q+3300+100 * d) (tG hk) (n:=rs.length) (by omega) (hrd.less (by omega))) ?_
 rintro _ ⟨g,r1,rfl,hr1,hg⟩;simp only[tnA];have em:IntKind.wrap .i64 (((d+1:Nat):Int) - 1)=(d:Int):=by rw[bf (by omega) (by omega)];omega
 simp only[em,zg hg];refine YP.guard (decide_eq_true (by rw[bD];simp)) ?_
 refine mod_2 hm hml hk hr hrl hr1 (by simp;omega) (fun x hx=>?_)
 rcases List.mem_append.1 hx with hx | hx
 ·cases hx
 ·rw[List.mem_singleton.1 hx];exact hg
theorem BL {ks l:List T} {m k:Nat} {s:ByteArray} (h:eV ks m k s=true):eV (ks++l) m k s=true:=by
 unfold eV at *
 cases hk:O6 s with
 | none=>rw[hk] at h;exact h
 | some p=>
  obtain ⟨i,j⟩:=p;rw[hk] at h;simp only[Bool.and_eq_true] at h ⊢;exact ⟨AF h.1,h.2⟩
theorem recv_app {ks l:List T} {m k:Nat} (hm:m < ks.length) (h:pP ks m k):pP (ks++l) m k:=by
 obtain ⟨a,fs,e,h1,h2,h3,h4⟩:=h;refine ⟨a,fs,by rw[nS hm];exact e,h1,h2,h3,fun x hx=>?_⟩
 obtain ⟨s,e,h⟩:=h4 x hx;exact ⟨s,e,BL h⟩
theorem kok_nil {ks:List T} (h:KOk ks) (hl:ks.length≤2):KOk (ks ++ [.sl []]):=by
 refine ⟨by simp;omega,fun m hm=>?_⟩
 by_cases e:m < ks.length
 ·have:=h.2 m e
  refine ⟨by rw[nS e];exact this.1,fun k hk=>?_⟩
  rw[nS e] at hk;exact recv_app e (this.2 k hk)
 ·have e:m=ks.length:=by simp at hm;omega
  subst e;have:(T.sl (ks ++ [T.sl []])).nth ks.length = .sl []:=by rw[bh (by simp)];simp
  refine ⟨by rw[this];simp[T.es],fun k hk=>?_⟩
  rw[this] at hk;exact absurd hk (by simp[T.es])
theorem recv_r {ks:List T} {m k:Nat} (h:pP ks m k):hM 4 (((T.sl ks).nth m).nth k):=by
 obtain ⟨a,fs,e,h1,h2,h3,h4⟩:=h;refine ⟨a,fs,e,by omega,by omega,by omega,fun x hx=>?_⟩
 obtain ⟨s,e,h⟩:=h4 x hx;exact ⟨s,e,by have:=dK (o7 h);omega⟩
theorem C0 {ks rs:List T} (h:KOk ks) (hr : ∀x∈rs,hM 4 x) (hrl:rs.length≤4):vc (ks ++ [.sl rs]):=by
 have:=h.1
 refine ⟨by simp;omega,fun m hm=>?_⟩
 by_cases e:m < ks.length
 ·have:=h.2 m e
  rw[nS e];exact ⟨by have:=this.1;omega,fun k hk=>recv_r (this.2 k hk)⟩
 ·have e:m=ks.length:=by simp at hm;omega
  subst e;have e:(T.sl (ks ++ [T.sl rs])).nth ks.length = .sl rs:=by rw[bh (by simp)];simp
  rw[e];refine ⟨by show rs.length≤_;omega,fun k hk=>?_⟩
  have hk:k < rs.length:=hk
  rw[bh hk];exact hr _ (List.getElem_mem _)
theorem C1 {ks:List T} {rs:List T} (h:KOk ks) (hrl:rs.length≤4):Few (ks ++ [.sl rs]):=by
 have:=h.1
 refine ⟨by simp;omega,fun m hm=>?_⟩
 by_cases e:m < ks.length
 ·have:=(h.2 m e).1
  rw[nS e];omega
 ·have e:m=ks.length:=by simp at hm;omega
  subst e;have e:(T.sl (ks ++ [T.sl rs])).nth ks.length = .sl rs:=by rw[bh (by simp)];simp
  rw[e];show rs.length≤_;omega
def ModS (ms:List T) (q:Nat) (o:List T):Prop:=∃rs,KOk (aY ms ++ [.sl rs])∧(∀x∈rs,hM 4 x)∧rs.length≤3∧ModR (aY ms ++ [.sl rs]) rs q o
theorem mod_0 {q:Nat} {ms:List T} {z:T} (hm:ShV ms) (hml:ms.length≤2) : ∀{d:Nat} {r:T} {rs:List T},Rd (q+3700+24 * d) r→rs.length+d≤3→KOk (aY ms ++ [.sl rs])→(∀x∈rs,hM 4 x)→
  YP (fun k=>eY (hl env k bi) (.sl ms) (.int (d:Int)) r z (.st [.sl rs,.sl [],.sl []]) (.sl (aY ms))) (ModS ms q):=by
 have hkl:=hm.2.1.1;intro d;induction d with
 | zero=>
  intro r rs hrd hrl hk hr;refine YP.call ?_ (fun r h=>oA _ _ _ _ _ _ h)
  unfold gt;simp only[tnA];refine YP.ff (decide_eq_false (by omega)) (YP.guard (decide_eq_true (by rw[bD];omega)) ?_)
  refine YP.obind (bA (q:=q+3699) (hrd.less (by omega))) ?_
  rintro _ ⟨v,r1,rfl,hr1,h0,h1,_⟩;simp only[tnA];have h1:=h1 (by omega)
  have ev:IntKind.wrap .i64 (1+v)=((v.toNat+1:Nat):Int):=by rw[bf (by omega) (by omega)];omega
  rw[ev];exact (mod_1 hm hml hk hr (by omega) (hr1.less (by omega)) (by omega)).mono fun o h=>⟨rs,hk,hr,by omega,h⟩
 | succ d ih=>
  intro r rs hrd hrl hk hr;refine YP.call ?_ (fun r h=>oA _ _ _ _ _ _ h)
  unfold gt;simp only[tnA];have g1 : ∀x:T,([]++aY ms).length+1≤LIM:=fun _=>by rw[bD];simp;omega
  refine YP.tt (decide_eq_true (by omega)) (YP.guard (decide_eq_true (by rw[bD];simp;omega)) (YP.guard (decide_eq_true (by rw[bD];simp;omega)) ?_))
  simp only[List.nil_append];refine YP.obind (xJ (q:=q+3700+24 * d) (C1 hm.2.1 (by omega)) (hrd.less (by omega))) ?_
  rintro _ ⟨y,r1,rfl,hr1,hy⟩;simp only[tnA];have ey:T.st [y.fld 0,y.fld 1]=y:=by obtain ⟨a,fs,rfl,_⟩:=hy;rfl
  have em:IntKind.wrap .i64 (((d+1:Nat):Int) - 1)=(d:Int):=by rw[bf (by omega) (by omega)];omega
  simp only[em,ey];refine YP.guard (decide_eq_true (by rw[bD];omega)) (YP.guard (decide_eq_true (by rw[bD];simp;omega)) (YP.guard (decide_eq_true (by rw[bD];simp;omega)) (YP.guard (decide_eq_true (by rw[bD];simp;omega)) ?_)))
  have hr' : ∀x∈rs ++ [y],hM 4 x:=fun x hx=>by
   rcases List.mem_append.1 hx with hx | hx
   ·exact hr x hx
   ·rw[List.mem_singleton.1 hx];exact hy
  refine YP.obind (B0 (C0 hm.2.1 hr' (by simp;omega))) ?_
  rintro _ ⟨b,rfl,hb⟩;simp only[tnA];refine YP.ite (fun hc=>?_) (fun hc=>?_)
  ·exact ih hr1 (by simp;omega) (hb hc) hr'
  ·exact ih hr1 (by omega) hk hr
theorem BD {q:Nat} {ms:List T} {r:T} (hm:ShV ms) (hml:ms.length≤2) (hrd:Rd (q+4000) r):YP (fun k=>cl env k lw [r,.sl ms]) (fun o=>∃x r',o = [x,r']∧Rd q r'∧ShV (ms ++ [x])∧∃rs fs,x = .st [.sl rs,.sl fs,.sl []]):=by
 refine YP.call ?_ (fun r h=>v6 _ _ h)
 unfold lN;refine YP.obind (YP.of (Q:=fun o=>o = [.sl (aY ms)]) (tF ms (by have:=hm.1;rw[BBv];omega) hm.2.2.2.1) rfl) ?_
 rintro _ rfl;refine YP.obind (bA (q:=q+3999) hrd) ?_;rintro _ ⟨v,r1,rfl,hr1,h0,h1,_⟩;simp only[tnA];have h1:=h1 (by omega)
 have ev:v=(v.toNat:Int):=by omega
 rw[ev];refine (mod_0 (q:=q) hm hml (d:=v.toNat) (rs:=[]) (hr1.less (by omega)) (by simp;omega) (kok_nil hm.2.1 (by rw[qW];omega)) (fun x hx=>by cases hx)).mono ?_
 rintro o ⟨rs,hk,hr,hrl,fs,r',rfl,hr',hfl,hf,hc⟩
 refine ⟨_,r',rfl,hr',?_,rs,fs,rfl⟩;obtain ⟨a1,a2⟩:=sh_all hm hml hk hr hrl hf hfl;have ek:aY (ms ++ [T.st [.sl rs,.sl fs,.sl []]])=aY ms ++ [.sl rs]:=by rw[ua];rfl
 refine ⟨by simp;omega,by rw[ek];exact hk,by rw[ek];exact a1,a2,fun x hx g hg=>?_⟩
 rcases List.mem_append.1 hx with hx | hx
 ·exact hm.2.2.2.2 x hx g hg
 ·rw[List.mem_singleton.1 hx] at hg;exact hc g hg
end Go.Proofs.YtdcnobhlknjnoaaGreatDoor.Ra
