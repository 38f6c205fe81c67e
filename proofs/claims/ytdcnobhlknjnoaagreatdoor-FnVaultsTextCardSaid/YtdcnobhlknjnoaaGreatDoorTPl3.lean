/- A verified evaluator for the program, part Pl3 of this claim. -/
import Derived.Test.YtdcnobhlknjnoaaGreatDoorTPl2
import Derived.Test.YtdcnobhlknjnoaaGreatDoorTRe
import Derived.Test.YtdcnobhlknjnoaaGreatDoorTRf
import Derived.Test.YtdcnobhlknjnoaaGreatDoorTPl1
import Derived.Lib.ItoaLen
set_option linter.unusedSimpArgs false
set_option linter.unusedVariables false
namespace Go.Proofs.YtdcnobhlknjnoaaGreatDoor.Ra
open Go
def strB (n:Nat) (t:T):Bool:=match t with | .str s=>decide (s.size≤n) | _=>false
def tyvB (ks:List T) (t:T):Bool:=match t with | .str s=>cK ks s | _=>false
def numB (t:T):Bool:=match t with | .int _=>true | _=>false
def recvB (ks:List T) (m k:Nat):Bool:=match ((T.sl ks).nth m).nth k with
 | .st [.int a,.sl fs]=>decide (0≤a)&&decide (a≤15)&&decide (fs.length≤3)&&fs.all fun x=>match x with | .str s=>eV ks m k s | _=>false
 | _=>false
def rec4B (t:T):Bool:=match t with
 | .st [.int a,.sl fs]=>decide (-1≤a)&&decide (a≤16)&&decide (fs.length≤4)&&fs.all (strB 9)
 | _=>false
def fnvB (ks:List T) (g:T):Bool:=match g with
 | .st [.int _,.sl ags,.sl rs,.sl ls,.sl tk,.sl cd]=>decide (ags.length≤10)&&decide (rs.length≤10)&&decide (ls.length≤10)&&decide (tk.length≤10)&&decide (cd.length≤1000)&&decide (1≤cd.length)&&ags.all (tyvB ks)&&rs.all (tyvB ks)&&ls.all (tyvB ks)&&tk.all numB&&cd.all insR
 | _=>false
def modB (ks:List T) (t:T):Bool:=match t with
 | .st [.sl rs,.sl fs,.sl fr]=>decide (rs.length≤3)&&decide (fs.length≤10)&&decide (fr.length≤10)&&fr.all numB&&rs.all rec4B&&fs.all (fnvB ks)
 | _=>false
def kokB (ks:List T):Bool:=decide (ks.length≤3)&&(List.range ks.length).all fun m=>decide (((T.sl ks).nth m).es.length≤3)&&(List.range ((T.sl ks).nth m).es.length).all fun k=>recvB ks m k
theorem recv_of {ks:List T} {m k:Nat} (h:recvB ks m k=true):pP ks m k:=by
 unfold recvB at h;split at h
 ·rename_i a fs e
  simp only[Bool.and_eq_true,decide_eq_true_eq,List.all_eq_true] at h;refine ⟨a,fs,e,h.1.1.1,h.1.1.2,h.1.2,fun x hx=>?_⟩
  have:=h.2 x hx
  split at this
  ·exact ⟨_,rfl,this⟩
  ·cases this
 ·cases h
theorem rec4_of {t:T} (h:rec4B t=true):hM 4 t:=by
 unfold rec4B at h;split at h
 ·rename_i a fs
  simp only[Bool.and_eq_true,decide_eq_true_eq,List.all_eq_true] at h;refine ⟨a,fs,rfl,h.1.1.1,h.1.1.2,h.1.2,fun x hx=>?_⟩
  have:=h.2 x hx
  unfold strB at this;split at this
  ·exact ⟨_,rfl,of_decide_eq_true this⟩
  ·cases this
 ·cases h
theorem xf {ks xs:List T} (h : ∀x∈xs,tyvB ks x=true):dL ks xs:=fun x hx=>by
 have:=h x hx
 unfold tyvB at this;split at this
 ·exact ⟨_,rfl,this⟩
 ·cases this
theorem uD {xs:List T} (h : ∀x∈xs,numB x=true):cz xs:=fun x hx=>by
 have:=h x hx
 unfold numB at this;split at this
 ·exact ⟨_,rfl⟩
 ·cases this
theorem za {ks:List T} {g:T} (h:fnvB ks g=true):FnV ks g∧FnC g:=by
 unfold fnvB at h;split at h
 ·rename_i n ags rs ls tk cd
  simp only[Bool.and_eq_true,decide_eq_true_eq,List.all_eq_true] at h;obtain ⟨⟨⟨⟨⟨⟨⟨⟨⟨⟨h1,h2⟩,h3⟩,h4⟩,h5⟩,h6⟩,h7⟩,h8⟩,h9⟩,h10⟩,h11⟩:=h;exact ⟨⟨n,ags,rs,ls,tk,cd,rfl,h1,h2,h3,h4,h5,xf h7,xf h8,xf h9,uD h10,fun x hx=>xM (h11 x hx)⟩,h6⟩
 ·cases h
theorem zw {ks:List T} {x:T} (h:modB ks x=true):oH ks x∧kW BB x∧∀g∈(x.fld 1).es,FnC g:=by
 unfold modB at h;split at h
 ·rename_i rs fs fr
  simp only[Bool.and_eq_true,decide_eq_true_eq,List.all_eq_true] at h;obtain ⟨⟨⟨⟨⟨h1,h2⟩,h3⟩,h4⟩,h5⟩,h6⟩:=h;refine ⟨⟨rs,fs,fr,rfl,by omega,by omega,uD h4,fun g hg=>(za (h6 g hg)).1⟩,.mk ⟨rs,rfl,by rw[BBv];omega,fun x hx=>zL (rec4_of (h5 x hx))⟩ (by rw[BBv];omega) (fun g hg=>fn_is (za (h6 g hg)).1) (by rw[BBv];omega) (uD h4),fun g hg=>(za (h6 g hg)).2⟩
 ·cases h
theorem kok_of {ks:List T} (h:kokB ks=true):KOk ks:=by
 unfold kokB at h;simp only[Bool.and_eq_true,decide_eq_true_eq,List.all_eq_true,List.mem_range] at h;exact ⟨h.1,fun m hm=>⟨(h.2 m hm).1,fun k hk=>recv_of ((h.2 m hm).2 k hk)⟩⟩
theorem sh_of {ms:List T} (h:(decide (ms.length≤3)&&kokB (aY ms)&&ms.all (modB (aY ms)))=true):ShV ms:=by
 simp only[Bool.and_eq_true,decide_eq_true_eq,List.all_eq_true] at h;exact ⟨h.1.1,kok_of h.1.2,fun x hx=>(zw (h.2 x hx)).1,fun x hx=>(zw (h.2 x hx)).2.1,fun x hx=>(zw (h.2 x hx)).2.2⟩
theorem yR:ShV [aS]:=sh_of (by kernel_rfl)
theorem zb:ShV [aS,aU]:=sh_of (by kernel_rfl)
theorem BC:kW BB aS:=yR.2.2.2.1 _ (by simp)
theorem BP:kW BB aU:=zb.2.2.2.1 _ (by simp)
theorem run_ok {f:Nat} {ts r:List T} (n:Nat) (h : ∀k,cl env (k+n) f ts=some r):YP (fun k=>cl env k f ts) (fun o=>o=r):=
 ⟨r,⟨n,fun k hk=>by obtain ⟨j,rfl⟩ : ∃j,k=j+n:=⟨k - n,by omega⟩;exact h j⟩,rfl⟩
theorem coins_ok:YP (fun k=>cl env k qy []) (fun o=>o = [.str CK]):=run_ok 40 (fun k=>by kernel_rfl)
theorem games_ok:YP (fun k=>cl env k ml []) (fun o=>o = [.str CL]):=run_ok 40 (fun k=>by kernel_rfl)
inductive vd:List T→T→T→Prop
 | nil (m:T):vd [] m m
 | cons {l m m' m2:T} {ls:List T} : (∀k,cl env (k+120) aI [m,l]=some [m',.bool true])→T.st [m'.fld 0,m'.fld 1,m'.fld 2]=m'→vd ls m' m2→vd (l :: ls) m m2
theorem Cg {s:ByteArray} {xs:List T} {m2 z:T} (hl:xs.length≤1000) (ht : ∀k,cl env (k+120) eA [m2]=some [.str s]) : ∀{todo ys:List T} {m:T},vd todo m m2→xs=ys++todo→T.st [m.fld 0,m.fld 1,m.fld 2]=m→
  Yields (fun k=>eK (Ra.hl env k cn) (cl env k) (.str s) (.bool true) (.int (ys.length:Int)) z m (.sl xs)) [m2,.bool true]:=by
 intro todo ys m hr;induction hr generalizing ys with
 | nil m=>
  intro hx hm;unfold eK;simp only[tnA];simp only[hm];refine Yields.ff (decide_eq_false (by rw[hx];simp)) (Yields.ff rfl ?_)
  refine Yields.obind (r1:=[.str s]) ⟨120,fun k hk=>by obtain ⟨j,rfl⟩ : ∃j,k=j+120:=⟨k - 120,by omega⟩;exact ht j⟩ ?_
  simp only[tnA];exact Yields.ff (by simp) (Yields.some _)
 | @cons l m m' m2 ls h1 h2 h3 ih=>
  intro hx hm;have hlt:ys.length < xs.length:=by rw[hx];simp
  have en:(T.sl xs).nth ys.length=l:=by rw[bh hlt];simp[hx]
  have ew:IntKind.wrap .i64 ((ys.length:Int)+1)=((ys ++ [l]).length:Int):=by rw[bf (by omega) (by omega)];simp
  unfold eK;simp only[tnA];simp only[hm,en,ew];refine Yields.tt (decide_eq_true (by omega)) (Yields.tt rfl (Yields.tt (by (simp <;> omega)) ?_))
  refine Yields.obind (r1:=[m',.bool true]) ⟨120,fun k hk=>by obtain ⟨j,rfl⟩ : ∃j,k=j+120:=⟨k - 120,by omega⟩;exact h1 j⟩ ?_
  simp only[tnA];simp only[h2];exact sr _ _ _ _ _ _ (ih ht (by rw[hx];simp) h2)
theorem zK {s:ByteArray} {xs:List T} {m2:T} (hs:s.size≤4000) (hl:xs.length≤1000) (h1 : ∀k,cl env (k+500) qZ [.str s]=some [.sl xs,.bool true]) (ht : ∀k,cl env (k+120) eA [m2]=some [.str s])
  (h:vd xs (.st [.sl [],.sl [],.sl []]) m2) (h3:T.st [m2.fld 0,m2.fld 1,m2.fld 2]=m2):YP (fun k=>cl env k eN [.str s]) (fun o=>o = [m2]):=by
 refine YP.of (r:=[m2]) ?_ rfl;refine xw _ ?_;unfold ny;refine Yields.obind (r1:=[m2,.bool true]) ?_ ?_
 ·refine tU _ ?_;unfold kz;simp only[tnA];refine Yields.ff (decide_eq_false (by omega)) ?_
  refine Yields.obind (r1:=[.sl xs,.bool true]) ⟨500,fun k hk=>by obtain ⟨j,rfl⟩ : ∃j,k=j+500:=⟨k - 500,by omega⟩;exact h1 j⟩ ?_
  simp only[tnA];exact sq _ _ _ _ _ _ (Cg hl ht (ys:=[]) h rfl rfl)
 ·simp only[tnA];simp only[h3];exact Yields.some _
theorem AX:YP (fun k=>cl env k eN [.str CK]) (fun o=>o = [aS]):=
 zK (by decide +kernel) (by decide +kernel) CT CY (.cons rc0 rfl (.cons rc1 rfl (.cons rc2 rfl (.cons rc3 rfl (.cons rc4 rfl (.cons rc5 rfl (.cons rc6 rfl (.cons rc7 rfl (.cons rc8 rfl (.cons rc9 rfl (.cons rc10 rfl (.cons rc11 rfl (.cons rc12 rfl (.cons rc13 rfl (.cons rc14 rfl (.cons rc15 rfl (.cons rc16 rfl (.cons rc17 rfl (.cons rc18 rfl (.cons rc19 rfl (.cons rc20 rfl (.cons rc21 rfl (.cons rc22 rfl (.cons rc23 rfl (.cons rc24 rfl (.cons rc25 rfl (.cons rc26 rfl (.cons rc27 rfl (.cons rc28 rfl (.cons rc29 rfl (.cons rc30 rfl (.cons rc31 rfl (.cons rc32 rfl (.cons rc33 rfl (.cons rc34 rfl (.cons rc35 rfl (.cons rc36 rfl (.cons rc37 rfl (.cons rc38 rfl (.cons rc39 rfl (.cons rc40 rfl (.cons rc41 rfl (.nil _))))))))))))))))))))))))))))))))))))))))))) rfl
theorem Bh:YP (fun k=>cl env k eN [.str CL]) (fun o=>o = [aU]):=
 zK (by decide +kernel) (by decide +kernel) CU CZ (.cons rg0 rfl (.cons rg1 rfl (.cons rg2 rfl (.cons rg3 rfl (.cons rg4 rfl (.cons rg5 rfl (.cons rg6 rfl (.cons rg7 rfl (.cons rg8 rfl (.cons rg9 rfl (.cons rg10 rfl (.cons rg11 rfl (.cons rg12 rfl (.cons rg13 rfl (.cons rg14 rfl (.cons rg15 rfl (.cons rg16 rfl (.cons rg17 rfl (.cons rg18 rfl (.cons rg19 rfl (.cons rg20 rfl (.cons rg21 rfl (.cons rg22 rfl (.cons rg23 rfl (.cons rg24 rfl (.cons rg25 rfl (.cons rg26 rfl (.cons rg27 rfl (.cons rg28 rfl (.cons rg29 rfl (.cons rg30 rfl (.cons rg31 rfl (.cons rg32 rfl (.cons rg33 rfl (.nil _))))))))))))))))))))))))))))))))))) rfl
def ve (q:Nat) (o:List T):Prop:=∃(ms:List T) (r':T),o = [.sl ms,r']∧Rd q r'∧ShV ms
theorem A9 {ks:List T} {x:T} (h:oH ks x) {l:List T} (hl:l.length≤1000) (hn:cz l):oH ks (.st (x.fs.set 2 (.sl l))):=by
 obtain ⟨rs,fs,fr,rfl,h1,h2,h3,h4⟩:=h;exact ⟨rs,fs,l,rfl,h1,hl,hn,h4⟩
theorem Ci {ms:List T} (h:ShV ms) (hl:0 < ms.length):ShV (ms.set 0 (.st (((T.sl ms).nth 0).fs.set 2 (.sl [.int 1])))):=by
 obtain ⟨h1,h2,h3,h4,h5⟩:=h;have e0:(T.sl ms).nth 0=ms[0]:=bh hl
 have hm:ms[0]∈ms:=List.getElem_mem hl
 rw[e0];have ek:aY (ms.set 0 (.st (ms[0].fs.set 2 (.sl [.int 1]))))=aY ms:=by
  obtain ⟨rs,fs,fr,e,_⟩:=h3 _ hm;rcases ms with _ | ⟨a,ms⟩
  ·cases hl
  ·have e:a=_:=e
   subst e;rfl
 have key : ∀{P:T→Prop},(∀x∈ms,P x)→P (.st (ms[0].fs.set 2 (.sl [.int 1])))→∀x∈ms.set 0 (.st (ms[0].fs.set 2 (.sl [.int 1]))),P x:=fun hp h0 x hx=>by
  rcases List.mem_or_eq_of_mem_set hx with hx | rfl
  ·exact hp x hx
  ·exact h0
 refine ⟨by rw[List.length_set];exact h1,by rw[ek];exact h2,by rw[ek];exact key h3 (A9 (h3 _ hm) (by simp) (dc 1)),key h4 ?_,key h5 ?_⟩
 ·have:=h4 _ hm
  generalize ms[0]=y at this ⊢
  cases this with
  | mk a b c d e=>exact .mk a b c (by rw[BBv];simp) (dc 1)
 ·have:=h5 _ hm
  obtain ⟨rs,fs,fr,e,_⟩:=h3 _ hm;generalize ms[0]=y at this e ⊢
  subst e;exact this
theorem mod3 {x:T} (h:kW BB x):T.st [x.fld 0,x.fld 1,x.fld 2]=x:=by cases h;rfl
theorem My {q:Nat} {ms:List T} {r:T} (h:ShV ms) (hrd:Rd (q+1) r):YP (fun k=>bif (decide ((ms.length:Int) > (1:Int))) then
 obind (cl env k aG [r, (T.int (3 : Int))]) fun r2 =>
 bif ((rt r2 0).i == (0 : Int)) then
 bif (decide (0 ≤ (0 : Int)) && decide (0 < ms.length)) then
 some [(T.put (T.sl ms) [.idx 0, .fld 2] (T.sl [(T.int (1 : Int))])), (rt (r2.drop 1) 0)]
 else
 none
 else
 some [(T.sl ms), (rt (r2.drop 1) 0)]
 else
 some [(T.sl ms), r]) (ve q) := by
 refine YP.ite (fun hc=>?_) (fun hc=>YP.some ⟨ms,r,rfl,hrd.less (by omega),h⟩)
 have hc:=of_decide_eq_true hc;refine YP.obind (bA hrd) ?_;rintro _ ⟨v,r1,rfl,hr1,_⟩;simp only[tnA];refine YP.ite (fun _=>?_) (fun _=>YP.some ⟨ms,r1,rfl,hr1,h⟩)
 have hl:0 < ms.length:=by omega
 exact YP.guard (by rw[decide_eq_true hl];rfl) (YP.some ⟨_,r1,rfl,hr1,Ci h hl⟩)
theorem shelf_0 {q:Nat} : ∀{d:Nat} {ms:List T} {r:T},ShV ms→Rd (q+1+4000 * d) r→YP (fun k=>da (hl env k dr) (.int (d:Int)) r (.sl ms)) (ve q):=by
 intro d;induction d with
 | zero=>
  intro ms r h hrd;refine YP.call ?_ (fun r h=>pm _ _ _ h)
  unfold RJ;simp only[tnA];exact YP.ff (decide_eq_false (by omega)) (My h hrd)
 | succ d ih=>
  intro ms r h hrd;refine YP.call ?_ (fun r h=>pm _ _ _ h)
  unfold RJ;simp only[tnA];refine YP.tt (decide_eq_true (by omega)) ?_
  refine YP.ite (fun hc=>?_) (fun hc=>My h (hrd.less (by omega)))
  have hc:=of_decide_eq_true hc;refine YP.obind (BD (q:=q+1+4000 * d) h (by omega) (hrd.less (by omega))) ?_
  rintro _ ⟨x,r1,rfl,hr1,hx,_⟩;simp only[tnA];have ex:T.st [x.fld 0,x.fld 1,x.fld 2]=x:=mod3 (hx.2.2.2.1 x (by simp))
  have em:IntKind.wrap .i64 (((d+1:Nat):Int) - 1)=(d:Int):=by obtain ⟨_,_,_,_,_,_,_⟩:=hrd;rw[bf (by omega) (by omega)];omega
  simp only[ex,em];refine YP.guard (decide_eq_true (by rw[bD];simp;omega)) ?_
  exact ih hx hr1
theorem ct_shelf {q:Nat} {r:T} (hrd:Rd (q+8003) r):YP (fun k=>cl env k mn [r]) (ve q):=by
 refine YP.call ?_ (fun r h=>wC _ h)
 unfold mE;refine YP.obind (bA (q:=q+8002) hrd) ?_;rintro _ ⟨v,r1,rfl,hr1,h0,h1,_⟩;simp only[tnA];have h1:=h1 (by omega)
 have fin : ∀{ms:List T},ShV ms→YP (fun k=>obind (cl env k aG [r1,(T.int (3:Int))]) fun r7=>da (hl env k dr) (rt r7 0) (rt (r7.drop 1) 0) (T.sl ms)) (ve q):=fun {ms} h=>by
  refine YP.obind (bA (q:=q+8001) (hr1.less (by omega))) ?_
  rintro _ ⟨w,r2,rfl,hr2,h2,h3,_⟩;simp only[tnA];have h3:=h3 (by omega)
  have ew:w=(w.toNat:Int):=by omega
  rw[ew];exact shelf_0 h (hr2.less (by omega))
 refine YP.ite (fun hc=>?_) (fun hc=>?_)
 ·refine YP.obind coins_ok ?_;rintro _ rfl;refine YP.obind AX ?_;rintro _ rfl;have e1 : ∀a b c:List T,T.st [(T.st [.sl a,.sl b,.sl c]).fld 0,(T.st [.sl a,.sl b,.sl c]).fld 1,(T.st [.sl a,.sl b,.sl c]).fld 2]=T.st [.sl a,.sl b,.sl c]:=fun _ _ _=>rfl
  have ec:T.st [aS.fld 0,aS.fld 1,aS.fld 2]=aS:=mod3 BC
  simp only[rt0,ec];refine YP.guard (decide_eq_true (by rw[bD];simp)) ?_
  refine YP.ite (fun hc=>?_) (fun hc=>fin yR)
  refine YP.obind games_ok ?_;rintro _ rfl;refine YP.obind Bh ?_;rintro _ rfl;have eg:T.st [aU.fld 0,aU.fld 1,aU.fld 2]=aU:=mod3 BP
  simp only[rt0,eg];refine YP.guard (decide_eq_true (by rw[bD];simp)) ?_
  exact fin zb
 ·have hc:=of_decide_eq_false hc;refine YP.ff (decide_eq_false (by omega)) ?_
  have h0:ShV []:=⟨by simp,⟨by simp[aY],fun m hm=>by simp[aY] at hm⟩,fun x hx=>absurd hx (by simp),fun x hx=>absurd hx (by simp),fun x hx=>absurd hx (by simp)⟩
  exact fin h0
theorem Yields.guard {b:Bool} {x:Nat→R} {r:List T} (hb:b=true) (h:Yields x r):Yields (fun k=>bif b then x k else Option.none) r:=Yields.tt hb h
structure Pn (c:Cx) (n:Nat) (sh kn dn:List T):Prop where
 sl:sh.length=n
 kl:kn.length=n
 dl:dn.length=n
 kb : ∀k,k < n→∃b:Bool,(T.sl kn).nth k = .bool b∧(b=true→ShI c ((T.sl sh).nth k))
 db : ∀x∈dn,∃b:Bool,x = .bool b
 k0:(T.sl kn).nth 0 = .bool true
theorem YP.yields {x:Nat→R} {r:List T} (h:YP x (fun o=>o=r)):Yields x r:=by
 obtain ⟨_,h,rfl⟩:=h;exact h
theorem YP.run {x:Nat→R} {K:Nat→List T→R} {r:List T} {Q:List T→Prop} (h:Yields x r) (h2:YP (fun k=>K k r) Q):YP (fun k=>Ra.obind (x k) (K k)) Q:=
 YP.obind (YP.of (Q:=fun o=>o=r) h rfl) (by rintro _ rfl;exact h2)
def JG (bs:List T):Prop:=∀x∈bs,∃v:Int,x = .int v∧0≤v∧v≤255
def MkG (x:T):Prop:=∃(s:ByteArray) (is:List T),x = .st [.str s,.sl is]∧is.length≤1000∧Rk is∧(s.size=0∨∃ks,cK ks s=true)
def MkW (x:T):Prop:=∃(s:ByteArray) (is:List T),x = .st [.str s,.sl is]∧is.length≤1000
theorem MkG.w {x:T} (h:MkG x):MkW x:=by obtain ⟨s,is,e,hl,_⟩:=h;exact ⟨s,is,e,hl⟩
theorem S2 {s u:ByteArray} (h:s.data.toList=u.data.toList):s=u:=by
 obtain ⟨a⟩:=s;obtain ⟨b⟩:=u;have:a=b:=Array.ext' h
 rw[this]
theorem S8 (s u:ByteArray):(s++u).data.toList=s.data.toList++u.data.toList:=by rw[ByteArray.data_append,Array.toList_append]
theorem Rx (s:ByteArray):s.size=s.data.toList.length:=by obtain ⟨⟨l⟩⟩:=s;rfl
theorem XE : ∀(a b:List T),T.wts (a++b)=T.wts a+T.wts b
 | [],b=>by simp[T.wts]
 | t :: l,b=>by have:=XE l b;simp only[List.cons_append,T.wts];omega
def Ss (n:Nat):ByteArray:=⟨(Lib.decDigits n).toArray⟩
theorem SM {n:Nat} (h:n≤9223372036854775807):(Ss n).size≤21:=by
 have:=Lib.itoa_length_le (n:Int) (by omega) (by omega)
 rw[Lib.itoa_nonneg] at this;rw[Rx];exact this
theorem Tw {d:Nat} (h:d < 10):(⟨([(T.int (IntKind.wrap .u8 (IntKind.wrap .i64 ((48:Int)+(d:Int)))))].map fun c=>UInt8.ofNat c.i.toNat).toArray⟩:ByteArray)=⟨#[UInt8.ofNat (48+d)]⟩:=by
 rw[bf (by omega) (by omega),wrap8 (by omega) (by omega)]
 show (⟨#[UInt8.ofNat ((48:Int)+(d:Int)).toNat]⟩:ByteArray)=_
 rw[show ((48:Int)+(d:Int)).toNat=48+d by omega]
theorem dec_s : ∀n:Nat,n≤1000000000→Yields (fun k=>cl env k dE [.int (n:Int)]) [.str (Ss n)]:=by
 intro n;induction n using Nat.strongRecOn with
 | _ n ih=>
  intro hn;refine A2 _ (Yields.ff (decide_eq_false (by show ¬(n:Int) < -9223372036854775807;omega)) (Yields.ff (decide_eq_false (by show ¬(n:Int) < 0;omega)) (Yields.ite (fun e=>?_) (fun e=>Yields.tt rfl ?_))))
  ·have e:(n:Int) < 10:=of_decide_eq_true e
   show Yields (fun _=>some [T.str (⟨([(T.int (IntKind.wrap .u8 (IntKind.wrap .i64 ((48:Int)+(n:Int)))))].map fun c=>UInt8.ofNat c.i.toNat).toArray⟩:ByteArray)]) _
   rw[Tw (by omega)]
   have:Ss n=⟨#[UInt8.ofNat (48+n)]⟩:=by unfold Ss;rw[Lib.decDigits_one (by omega)]
   rw[this];exact Yields.some _
  ·have e : ¬(n:Int) < 10:=of_decide_eq_false e
   have hd:(n:Int).tdiv 10=((n / 10:Nat):Int):=by rw[Int.tdiv_eq_ediv_of_nonneg (by omega)];rfl
   have hm:(n:Int).tmod 10=((n % 10:Nat):Int):=by rw[Int.tmod_eq_emod_of_nonneg (by omega)];rfl
   have hrec:=ih (n / 10) (by omega) (by omega)
   have hw:IntKind.wrap .i64 ((n:Int).tdiv 10)=((n / 10:Nat):Int):=by rw[hd,bf (by omega) (by omega)]
   have e1:(⟨([(T.int (IntKind.wrap .u8 (IntKind.wrap .i64 ((48:Int)+((n:Int).tmod (10:Int))))))].map fun c=>UInt8.ofNat c.i.toNat).toArray⟩:ByteArray)=⟨#[UInt8.ofNat (48+n % 10)]⟩:=by rw[hm];exact Tw (by omega)
   show Yields (fun k=>obind (cl env k dE [(T.int (IntKind.wrap .i64 ((n:Int).tdiv (10:Int))))]) fun r1=>
    bif (decide (((rt r1 0).s).size+(⟨([(T.int (IntKind.wrap .u8 (IntKind.wrap .i64 ((48:Int)+((n:Int).tmod (10:Int))))))].map fun c=>UInt8.ofNat c.i.toNat).toArray⟩:ByteArray).size≤LIM)) then
    some [(T.str (((rt r1 0).s)++(⟨([(T.int (IntKind.wrap .u8 (IntKind.wrap .i64 ((48:Int)+((n:Int).tmod (10:Int))))))].map fun c=>UInt8.ofNat c.i.toNat).toArray⟩:ByteArray)))] else none) _
   rw[hw,e1];refine Yields.obind hrec (Yields.tt (decide_eq_true ?_) ?_)
   ·have:=SM (n:=n / 10) (by omega)
    show (Ss (n / 10)).size+1≤LIM
    unfold LIM;omega
   ·have:Ss (n / 10)++⟨#[UInt8.ofNat (48+n % 10)]⟩=Ss n:=by
     apply S2
     rw[S8];show Lib.decDigits (n / 10) ++ [UInt8.ofNat (48+n % 10)]=Lib.decDigits n
     rw[Lib.decDigits.eq_def n,dif_neg (by omega)]
    show Yields (fun _=>some [T.str (Ss (n / 10)++⟨#[UInt8.ofNat (48+n % 10)]⟩)]) _
    rw[this];exact Yields.some _
theorem dec_i {n:Nat} (hn:n≤1000000000):Yields (fun k=>cl env k SL [.int (n:Int)]) [.str (Ss n)]:=by
 refine Yields.told (g:=itoaT) rfl ?_;show (bif decide (-9223372036854775808≤(n:Int))&&decide ((n:Int)≤9223372036854775807) then some [T.str ⟨(Lib.itoa (n:Int)).toArray⟩] else none)=_
 rw[decide_eq_true (by omega : -9223372036854775808≤(n:Int)),decide_eq_true (by omega:(n:Int)≤9223372036854775807),Lib.itoa_nonneg];rfl
def SF (us:List ByteArray):ByteArray:=⟨(Lib.join (us.map (·.data.toList)) [32]).toArray⟩
theorem TX (us:List ByteArray) (u:ByteArray):SF (us ++ [u])=if us = [] then u else SF us++⟨#[32]⟩++u:=by
 apply S2
 cases us with
 | nil=>rw[if_pos rfl];show Lib.join [u.data.toList] [32]=_;rw[Lib.join_one]
 | cons a l=>
  rw[if_neg (by simp),S8,S8]
  show Lib.join (a.data.toList :: (l ++ [u]).map (·.data.toList)) [32]=Lib.join (a.data.toList :: l.map (·.data.toList)) [32] ++ [32]++u.data.toList
  rw[Lib.join_cons,Lib.join_cons,List.map_append];simp[Lib.joinTail]
def SB:List ByteArray→Nat
 | []=>0
 | u :: l=>u.size+1+SB l
theorem T5 : ∀(a b:List ByteArray),SB (a++b)=SB a+SB b
 | [],b=>by simp[SB]
 | u :: l,b=>by have:=T5 l b;simp only[List.cons_append,SB];omega
theorem TW (us:List ByteArray):(SF us).size≤SB us:=by
 have key : ∀(n:Nat) (us:List ByteArray),us.length=n→(SF us).size≤SB us:=by
  intro n;induction n with
  | zero=>
   intro us h;have:us = []:=List.length_eq_zero_iff.1 h
   subst this;exact Nat.le_refl _
  | succ n ih=>
   intro us h;have hne:us≠[]:=by intro e;rw[e] at h;simp at h
   obtain ⟨l,u,rfl⟩ : ∃l u,us=l ++ [u]:=⟨us.dropLast,us.getLast hne,(List.dropLast_concat_getLast hne).symm⟩;have:=ih l (by simpa using h)
   rw[TX,T5];simp only[SB];split
   ·omega
   ·rw[ByteArray.size_append,ByteArray.size_append];have:(⟨#[32]⟩:ByteArray).size=1:=rfl
    omega
 exact key _ us rfl
theorem XC {us:List ByteArray} {i:Nat} : SB (us.take i)≤SB us:=by
 have:=T5 (us.take i) (us.drop i)
 rw[List.take_append_drop] at this;omega
theorem join_t {us:List ByteArray} (hl:us.length≤1000000000) (hs:SB us≤4294967296):Yields (fun k=>cl env k S6 [.sl (us.map .str),.str ⟨#[32]⟩]) [.str (SF us)]:=by
 refine Yields.told (g:=joinT) rfl ?_;have hm:(us.map T.str).map (fun x=>x.s.data.toList)=us.map (·.data.toList):=by rw[List.map_map];rfl
 show (bif decide ((us.map T.str).length≤1000000000)&&decide ((Lib.join ((us.map T.str).map fun x=>x.s.data.toList) [32]).length≤4294967296) then some [T.str ⟨(Lib.join ((us.map T.str).map fun x=>x.s.data.toList) [32]).toArray⟩] else none)=_
 rw[hm,List.length_map];have h1:(Lib.join (us.map (·.data.toList)) [32]).length≤4294967296:=by
  have:=TW us
  rw[Rx] at this;have h2:(SF us).data.toList.length=(Lib.join (us.map (·.data.toList)) [32]).length:=rfl
  omega
 rw[decide_eq_true hl,decide_eq_true h1];rfl
theorem at_fit {ks es:List T} {b:Nat} (hk : ∀x∈ks,yD b x) (hb:b≤maxLen) (he:v8 ks ks.length 0) {j:Nat} (h:AtOk ks es j) (hes : ∀x∈es,Eo b x) : ∃(o:Int) (v:T),es[j]?=some (.st [.int o,v])∧0≤o∧o≤3∧J1 v:=by
 obtain ⟨o,v,h1,h2,h3,h4,h5,_⟩:=h;refine ⟨o,v,h1,h2,h3,?_⟩;obtain ⟨o',v',hq,_,_,hv⟩:=hes _ (List.mem_of_getElem? h1);cases hq;obtain ⟨c,y1,_,_,y4⟩:=XH hk hb _ hv;refine y4 ?_;unfold J2 at h4;obtain ⟨s,n,ps,is,rfl,_⟩:=Kz hv;have hkin:nQ ks s=true:=h5
 have hsh:=hkin;unfold nQ at hsh;cases hkc:O6 s with
 | none=>rw[hkc] at hsh;cases hsh
 | some x=>
  obtain ⟨i',j'⟩:=x;have hks:=zl s;rw[hkc] at hks;cases c with
  | true=>rfl
  | false=>
   have:Yields (fun k=>cl env k EG [.sl ks,.st [.str s,.int n,.sl ps,.sl is]]) [.bool false]:=Hy _ _ (Yields.obind hks (Yields.tt rfl (Yields.obind y1 (Yields.ff rfl (Yields.some _)))))
   have:=Yields.uniq this h4
   cases this
theorem dd_ten {n:Nat} (h : ¬n < 10):Lib.decDigits n=Lib.decDigits (n / 10) ++ [UInt8.ofNat (48+n % 10)]:=by rw[Lib.decDigits.eq_def n,dif_neg h]
theorem Tg {d:Nat} (h:d < 10):(UInt8.ofNat (48+d)).toNat=48+d:=by
 rw[UInt8.toNat_ofNat'];omega
theorem dd_char : ∀n:Nat,∀c∈Lib.decDigits n,48≤c.toNat∧c.toNat≤57:=by
 intro n;induction n using Nat.strongRecOn with
 | _ n ih=>
  by_cases h:n < 10
  ·rw[Lib.decDigits_one h];intro c hc;rw[List.mem_singleton.1 hc,Tg h];omega
  ·rw[dd_ten h];intro c hc;rcases List.mem_append.1 hc with hc | hc
   ·exact ih (n / 10) (by omega) c hc
   ·rw[List.mem_singleton.1 hc,Tg (by omega)];omega
def spL (c:UInt8) (ws:List (List UInt8)):List UInt8:=(ws.map fun w=>c :: w).flatten
theorem Sh (c:UInt8) (w:List UInt8) (ws:List (List UInt8)):spL c (w :: ws)=c :: w++spL c ws:=rfl
def tyC (c:UInt8):Prop:=c.toNat=33∨c.toNat=38∨(48≤c.toNat∧c.toNat≤57)∨c.toNat=83∨c.toNat=98∨c.toNat=110∨c.toNat=111
theorem TY {s:ByteArray} {i j:Nat} (h:O6 s=some (i,j)) : ∀c∈s.data.toList,tyC c:=by
 unfold O6 at h;split at h
 ·next hh=>
  obtain ⟨h0,h1,h2,h3,h4,h5⟩:=hh;obtain ⟨⟨l⟩⟩:=s;have hl:l.length=3:=h0
  match l,hl with
  | [a,b,d],_=>
   have h1:a.toNat=83:=h1
   have h2:48≤b.toNat:=h2
   have h3:b.toNat≤57:=h3
   have h4:48≤d.toNat:=h4
   have h5:d.toNat≤57:=h5
   intro c hc;have hc:c∈[a,b,d]:=hc
   unfold tyC;simp only[List.mem_cons,List.not_mem_nil,or_false] at hc;rcases hc with rfl | rfl | rfl <;> omega
 ·cases h
theorem join_sp : ∀{us:List ByteArray},us≠[]→spL 32 (us.map (·.data.toList))=32 :: (SF us).data.toList
 | [],h=>absurd rfl h
 | u :: us,_=>by
  show _=(32:UInt8) :: Lib.join (u.data.toList :: us.map (·.data.toList)) [32]
  rw[Lib.join_cons,List.map_cons,Sh];rfl
def ValR (q N:Nat) (o:List T):Prop:=∃v r':T,o = [v,r']∧Rd q r'∧EB BB v∧v.wt+1≤N
theorem leaf_wt (s:ByteArray) (n:Int):(T.st [.str s,.int n,.sl [],.sl []]).wt=0:=by simp[T.wt,T.wts]
theorem Xy {s:ByteArray} {n:Int} {N:Nat} (h:1≤N):(T.st [.str s,.int n,.sl [],.sl []]).wt+1≤N:=by rw[leaf_wt];exact h
theorem leaf {s:ByteArray} (hs:s.size≤9) {n:Int} (h0 : -9223372036854775808≤n) (h1:n≤9223372036854775807):EB BB (.st [.str s,.int n,.sl [],.sl []]):=
 .mk (by rw[jZ];omega) h0 h1 (by simp) (by simp) (fun x h=>by cases h) (fun x h=>by cases h)
theorem val4 {v:T} (h:EB BB v):T.st [v.fld 0,v.fld 1,v.fld 2,v.fld 3]=v:=by cases h;rfl
theorem It {q N:Nat} {r:T} (hN:1≤N) (hr:Rd (q+1) r):YP (fun k=>obind (cl env k dH [r,(T.sl [(T.int (0:Int)),(T.int (1:Int)),(T.int (2:Int)),(T.int (3:Int)),(T.int (7:Int)),(T.int (10:Int)),(T.int (100:Int)),(T.int (999999:Int)),(T.int (1000000:Int))])]) fun r4=>some [(T.st [(T.str k_n),(rt r4 0),(T.sl []),(T.sl [])]),(rt (r4.drop 1) 0)]) (ValR q N):=by
 refine YP.obind (vk (q:=q) (P:=fun x=>∃n:Int,x = .int n∧0≤n∧n≤1000000) hr ?_ (by simp)) ?_
 ·intro x hx;simp only[List.mem_cons,List.not_mem_nil,or_false] at hx;rcases hx with rfl | rfl | rfl | rfl | rfl | rfl | rfl | rfl | rfl <;> exact ⟨_,rfl,by omega,by omega⟩
 ·rintro _ ⟨x,r2,rfl,hr2,n,rfl,n0,n1⟩;exact YP.some ⟨_,r2,rfl,hr2,leaf (by decide) (by omega) (by omega),Xy hN⟩
theorem M8 {ks:List T} (hk:KOk ks) {i j:Nat} (h:lS ks i j=true):i < ks.length∧j < ((T.sl ks).nth i).es.length∧i < 3∧j < 3:=by
 obtain ⟨h1,h2⟩:=rk h;have:=hk.1
 have:=(hk.2 i h1).1
 exact ⟨h1,h2,by omega,by omega⟩
theorem Nz {ks:List T} (hk:KOk ks) {N i j:Nat} (h1:i < ks.length) (h2:j < ((T.sl ks).nth i).es.length) {a:Int} {fs:List T} (e:((T.sl ks).nth i).nth j = .st [.int a,.sl fs]) (hlen:fs.length≤3) {s:ByteArray} (hs:s.size≤9)
  (ih : ∀{t:ByteArray} {q:Nat} {r:T},T.str t∈fs→Rd (q+N) r→YP (fun k=>cl env k EA [r,.sl ks,.str t]) (ValR q N)) (hN:1≤N) (hf : ∀x∈fs,∃t:ByteArray,x = .str t) {z:T} {q:Nat} :
  ∀{d t:Nat} {ps:List T} {r:T},t+d=fs.length→ps.length=t→(∀x∈ps,EB BB x)→T.wts ps+ps.length≤N * t→Rd (q+N * d) r→
   YP (fun k=>Fy (hl env k Ey) (cl env k) (.sl ks) (.int (i:Int)) (.int (j:Int)) (.int (t:Int)) r z (.st [.str s,.int 0,.sl ps,.sl []])) (ValR q (N * 4)):=by
 intro d;induction d with
 | zero=>
  intro t ps r hd hp hps hwt hr;unfold Fy IQ;simp only[tnA];simp only[e];simp only[tnA];refine YP.guard (by (simp <;> omega)) (YP.guard (by (simp <;> omega)) (YP.ff (decide_eq_false (by omega)) (YP.some ⟨_,r,rfl,hr.less (by omega),?_,?_⟩)))
  rotate_left
  ·have h1:(T.st [.str s,.int 0,.sl ps,.sl []]).wt=T.wts ps+ps.length:=by simp only[T.wt,T.wts,List.length_nil];omega
   have h2:N * t≤N * 3:=Nat.mul_le_mul_left _ (by omega)
   rw[h1];omega
  exact .mk (by rw[jZ];omega) (by omega) (by omega) (by rw[BBv];omega) (by simp) (fun x h=>by cases h) hps
 | succ d ihd=>
  intro t ps r hd hp hps hwt hr;have ht:t < fs.length:=by omega
  obtain ⟨u,eu⟩:=hf _ (List.getElem_mem ht);have en:(T.sl fs).nth t = .str u:=by rw[bh ht,eu]
  have ew:IntKind.wrap .i64 ((t:Int)+1)=((t+1:Nat):Int):=by rw[bf (by omega) (by omega)];rfl
  unfold Fy IQ;simp only[tnA];simp only[e];simp only[tnA];simp only[en,ew];refine YP.guard (by (simp <;> omega)) (YP.guard (by (simp <;> omega)) (YP.tt (decide_eq_true (by omega)) (YP.guard (by (simp <;> omega)) (YP.guard (by (simp <;> omega)) (YP.guard (by (simp <;> omega)) ?_)))))
  have hm:N * (d+1)=N * d+N:=Nat.mul_succ _ _
  refine YP.obind (ih (t:=u) (q:=q+N * d) (by rw[← eu];exact List.getElem_mem ht) (hr.less (by omega))) ?_
  rintro _ ⟨v,r1,rfl,hr1,hv,hvw⟩;simp only[tnA];simp only[val4 hv];refine YP.guard (decide_eq_true (by rw[bD];simp;omega)) ?_
  exact YP.call (ihd (t:=t+1) (ps:=ps ++ [v]) (by omega) (by simp;omega) (fun x hx=>by
   rcases List.mem_append.1 hx with hx | hx
   ·exact hps x hx
   ·rw[List.mem_singleton.1 hx];exact hv) (by
   have h1:=XE ps [v];have h2:T.wts [v]=v.wt:=by simp[T.wts]
   rw[h1,h2,List.length_append,Nat.mul_succ];show T.wts ps+v.wt+(ps.length+1)≤_
   omega) hr1) (fun r h=>L1 _ _ _ _ _ _ _ h)
theorem ct_value {ks:List T} (hk:KOk ks) : ∀(n:Nat) {s:ByteArray} {q:Nat} {r:T},(∀i j,O6 s=some (i,j)→lS ks i j=true→3 * i+j+1≤n)→s.size≤9→Rd (q+4 ^ n) r→YP (fun k=>cl env k EA [r,.sl ks,.str s]) (ValR q (4 ^ n)):=by
 intro n;induction n with
 | zero=>
  intro s q r hn hs hr;refine YP.call ?_ (fun r h=>Jz _ _ _ h)
  unfold GJ;simp only[tnA];refine YP.ite (fun _=>?_) (fun _=>YP.ite (fun _=>?_) (fun _=>?_))
  ·refine YP.obind (bA (q:=q) hr) ?_;rintro _ ⟨v,r1,rfl,hr1,h0,h1,_⟩;exact YP.some ⟨_,r1,rfl,hr1,leaf (by decide) (by omega) (by have:=h1 (by omega);omega),Xy (by first | omega | decide)⟩
  ·refine YP.obind (bA (q:=q) hr) ?_;rintro _ ⟨v,r1,rfl,hr1,h0,h1,_⟩;exact YP.some ⟨_,r1,rfl,hr1,leaf (by decide) (by omega) (by have:=h1 (by omega);omega),Xy (by first | omega | decide)⟩
  ·refine YP.obind (YP.of (Q:=fun o=>o=_) (zl s) rfl) ?_
   rintro _ rfl;cases hkc:O6 s with
   | none=>exact YP.tt rfl (It (by omega) hr)
   | some p=>
    obtain ⟨i,j⟩:=p;refine YP.ff rfl (YP.obind (YP.of (Q:=fun o=>o=_) (KH ks i j) rfl) ?_)
    rintro _ rfl;cases hh:lS ks i j with
    | false=>exact YP.tt rfl (It (by omega) hr)
    | true=>have:=hn i j hkc hh;omega
 | succ n ih=>
  intro s q r hn hs hr;have hp1:1≤4 ^ n:=Nat.one_le_pow _ _ (by decide)
  rw[show 4 ^ (n+1)=4 ^ n * 4 from Nat.pow_succ ..] at hr ⊢
  generalize 4 ^ n=N at hp1 hr ih
  refine YP.call ?_ (fun r h=>Jz _ _ _ h)
  unfold GJ;simp only[tnA];refine YP.ite (fun _=>?_) (fun _=>YP.ite (fun _=>?_) (fun _=>?_))
  ·refine YP.obind (bA (q:=q) (hr.less (by omega))) ?_
   rintro _ ⟨v,r1,rfl,hr1,h0,h1,_⟩;exact YP.some ⟨_,r1,rfl,hr1,leaf (by decide) (by omega) (by have:=h1 (by omega);omega),Xy (by first | omega | decide)⟩
  ·refine YP.obind (bA (q:=q) (hr.less (by omega))) ?_
   rintro _ ⟨v,r1,rfl,hr1,h0,h1,_⟩;exact YP.some ⟨_,r1,rfl,hr1,leaf (by decide) (by omega) (by have:=h1 (by omega);omega),Xy (by first | omega | decide)⟩
  ·refine YP.obind (YP.of (Q:=fun o=>o=_) (zl s) rfl) ?_
   rintro _ rfl;cases hkc:O6 s with
   | none=>exact YP.tt rfl (It (by omega) (hr.less (by omega)))
   | some p=>
    obtain ⟨i,j⟩:=p;refine YP.ff rfl (YP.obind (YP.of (Q:=fun o=>o=_) (KH ks i j) rfl) ?_)
    rintro _ rfl;cases hh:lS ks i j with
    | false=>exact YP.tt rfl (It (by omega) (hr.less (by omega)))
    | true=>
     refine YP.ff rfl ?_;have hrk:=hn i j hkc hh;obtain ⟨h1,h2,h3,h4⟩:=M8 hk hh;obtain ⟨a,fs,e,_,_,hl,hf⟩:=(hk.2 i h1).2 j h2;refine YP.call ?_ (fun r h=>L0 _ _ _ _ _ _ _ h)
     have hle:N * fs.length≤N * 4:=Nat.mul_le_mul_left _ (by omega)
     refine Nz hk (N:=N) h1 h2 e hl hs (fun {t q r} ht hr=>?_) hp1 (fun x hx=>?_) (d:=fs.length) (t:=0) (ps:=[]) (by omega) rfl (fun x h=>by cases h) (by simp[T.wts]) (hr.less (by omega))
     ·obtain ⟨t',et,hb⟩:=hf _ ht;cases et;refine ih (fun i' j' hk' hh'=>?_) (by have:=dK (o7 hb);omega) hr
      unfold eV at hb;rw[hk'] at hb;simp only[Bool.and_eq_true,Bool.or_eq_true,decide_eq_true_eq] at hb;have:=M8 hk hh'
      omega
     ·obtain ⟨t',et,_⟩:=hf _ hx;exact ⟨t',et⟩
theorem Np {ks:List T} (hk:KOk ks) {s:ByteArray} {q:Nat} {r:T} (hs:s.size≤9) (hr:Rd (q+262144) r):YP (fun k=>cl env k EA [r,.sl ks,.str s]) (ValR q 262144):=by
 have:=ct_value hk 9 (s:=s) (q:=q) (r:=r) (fun i j _ hh=>by have:=M8 hk hh;omega) hs (by rw[show 4 ^ 9=262144 from rfl];exact hr)
 rw[show 4 ^ 9=262144 from rfl] at this;exact this
def Xm (x:T):Prop:=Eo BB x∧x.wt≤262144
def KeptL (n:Nat) (o:List T):Prop:=∃ts:List T,o = [.sl ts]∧ts.length≤n∧∀x∈ts,Xm x
theorem KK {P:T→Prop} {l:List T} {x:T} (h : ∀y∈l,P y) (hx:P x) : ∀y∈l ++ [x],P y:=fun y hy=>by
 rcases List.mem_append.1 hy with hy | hy
 ·exact h y hy
 ·rw[List.mem_singleton.1 hy];exact hx
theorem put_loop {es:List T} {v:T} {ow:Int} (hl:es.length≤1000) (he : ∀x∈es,Xm x) (hv:EB BB v) (hvw:v.wt+1≤262144) (h0:0≤ow) (h1:ow≤100) : ∀{d i:Nat} {b:Bool} {acc:List T},i+d=es.length→acc.length≤i+(if b then 1 else 0)→(∀x∈acc,Xm x)→
  YP (fun k=>Ez (Ra.hl env k E6) (cl env k) (.int ow) (.bool b) (.int (i:Int)) (.sl es) v (.sl acc)) (KeptL (es.length+1)):=by
 have hx:Xm (.st [.int ow,v]):=⟨⟨ow,v,rfl,by omega,by omega,hv⟩,by simp only[T.wt,T.wts];omega⟩
 have hcp:YP (fun k=>cl env k E7 [v]) (fun o=>o = [v]):=YP.of (J8 v hv) rfl
 have e4:=val4 hv;intro d;induction d with
 | zero=>
  intro i b acc hd ha hac;have ha2:acc.length≤i+1:=by cases b <;> simp at ha <;> omega
  unfold Ez Ij;simp only[tnA];refine YP.ff (decide_eq_false (by omega)) ?_
  cases b with
  | true=>exact YP.ff rfl (YP.some ⟨acc,rfl,by omega,hac⟩)
  | false=>
   have ha3:acc.length≤i:=by simpa using ha
   refine YP.tt rfl (YP.obind hcp ?_);rintro _ rfl;simp only[tnA];simp only[e4];exact YP.guard (decide_eq_true (by rw[bD];simp;omega)) (YP.some ⟨_,rfl,by simp;omega,KK hac hx⟩)
 | succ d ih=>
  intro i b acc hd ha hac;have hi:i < es.length:=by omega
  have hei:=he _ (List.getElem_mem hi);have en:(T.sl es).nth i=es[i]:=bh hi
  have ew:IntKind.wrap .i64 ((i:Int)+1)=((i+1:Nat):Int):=by rw[bf (by omega) (by omega)];rfl
  have skip : ∀{b:Bool},acc.length≤i+(if b then 1 else 0)→YP (fun k=>bif (decide (acc.length + [es[i]].length≤LIM)) then E9 (Ra.hl env k E6) (.int ow) (.bool b) (.int ((i+1:Nat):Int)) (.sl es) v (.sl (acc ++ [es[i]])) else none) (KeptL (es.length+1)):=fun {b} ha=>by
   have ha':acc.length≤i+1:=by cases b <;> simp at ha <;> omega
   refine YP.guard (decide_eq_true (by rw[bD];simp;omega)) ?_
   refine YP.call (ih (i:=i+1) (b:=b) (acc:=acc ++ [es[i]]) (by omega) ?_ (KK hac hei)) (fun r h=>Gs _ _ _ _ _ _ h)
   rw[List.length_append];show acc.length+1≤_;omega
  unfold Ez Ij;simp only[tnA];simp only[en,ew];refine YP.tt (decide_eq_true (by omega)) ?_
  cases b with
  | true=>exact YP.ff rfl (YP.guard (by (simp <;> omega)) (skip ha))
  | false=>
   have ha:acc.length≤i:=by simpa using ha
   have ins:YP (fun k=>obind (cl env k E7 [v]) fun r1=>
     bif (decide (acc.length + [(T.st [T.int ow,(T.st [((rt r1 0).fld 0),((rt r1 0).fld 1),((rt r1 0).fld 2),((rt r1 0).fld 3)])])].length≤LIM)) then
     bif (decide ((acc ++ [(T.st [T.int ow,(T.st [((rt r1 0).fld 0),((rt r1 0).fld 1),((rt r1 0).fld 2),((rt r1 0).fld 3)])])]).length + [es[i]].length≤LIM)) then
     E9 (Ra.hl env k E6) (.int ow) (.bool true) (.int ((i+1:Nat):Int)) (.sl es) v (T.sl ((acc ++ [(T.st [T.int ow,(T.st [((rt r1 0).fld 0),((rt r1 0).fld 1),((rt r1 0).fld 2),((rt r1 0).fld 3)])])]) ++ [es[i]]))
     else none else none) (KeptL (es.length+1)):=by
    refine YP.obind hcp ?_;rintro _ rfl;simp only[tnA];simp only[e4];refine YP.guard (decide_eq_true (by rw[bD];simp;omega)) (YP.guard (decide_eq_true (by rw[bD];simp;omega)) ?_)
    exact YP.call (ih (i:=i+1) (b:=true) (by omega) (by simp;omega) (KK (KK hac hx) hei)) (fun r h=>Gs _ _ _ _ _ _ h)
   refine YP.tt rfl (YP.guard (by (simp <;> omega)) ?_)
   refine YP.ite (fun _=>ins) (fun _=>YP.ite (fun _=>YP.ite (fun _=>ins) (fun _=>skip (b:=false) (by simpa using ha))) (fun _=>skip (b:=false) (by simpa using ha)))
theorem ct_putD {es:List T} {v:T} {ow:Int} (hl:es.length≤1000) (he : ∀x∈es,Xm x) (hv:EB BB v) (hvw:v.wt+1≤262144) (h0:0≤ow) (h1:ow≤100):YP (fun k=>cl env k Gg [.sl es,.int ow,v]) (KeptL (es.length+1)):=
 YP.call (YP.call (put_loop hl he hv hvw h0 h1 (d:=es.length) (i:=0) (b:=false) (acc:=[]) (by omega) (by simp) (fun x h=>by cases h)) (fun r h=>JU _ _ _ _ _ _ h)) (fun r h=>KE _ _ _ h)
def VauR (q:Nat) (o:List T):Prop:=∃(es:List T) (r':T),o = [.sl es,r']∧Rd q r'∧es.length≤100∧∀x∈es,Xm x
section
variable {ks:List T} {Q:List T→Prop}
theorem vau_2 (hk:KOk ks) {c q m j:Nat} (hm:m < ks.length) (hj:j < ((T.sl ks).nth m).es.length) {s:ByteArray} (hs:cW ks s=true) (hc:c≤100)
  (next : ∀{es:List T} {r:T},es.length≤c→(∀x∈es,Xm x)→Rd q r→YP (fun k=>Fp (hl env k Ea) (.sl ks) (.int (m:Int)) (.int ((j+1:Nat):Int)) r (.sl es)) Q) :
  ∀{d o:Nat} {es:List T} {r:T},o+d=4→es.length+d≤c→(∀x∈es,Xm x)→Rd (q+262145 * d) r→YP (fun k=>EQ (hl env k Ea) (.sl ks) (.int (m:Int)) (.int (j:Int)) (.str s) (.int (o:Int)) r (.sl es)) Q:=by
 have hk1:=hk.1;have hk2:=(hk.2 m hm).1;intro d;induction d with
 | zero=>
  intro o es r hd hel he hr;refine YP.call ?_ (fun r h=>IA _ _ _ _ _ _ _ h)
  unfold FZ;simp only[tnA];refine YP.ff (decide_eq_false (by omega)) ?_
  rw[show IntKind.wrap .i64 ((j:Int)+1)=((j+1:Nat):Int) by rw[bf (by omega) (by omega)];rfl]
  exact next (by omega) he hr
 | succ d ih=>
  intro o es r hd hel he hr;refine YP.call ?_ (fun r h=>IA _ _ _ _ _ _ _ h)
  unfold FZ;simp only[tnA];rw[show IntKind.wrap .i64 ((o:Int)+1)=((o+1:Nat):Int) by rw[bf (by omega) (by omega)];rfl]
  refine YP.tt (decide_eq_true (by omega)) ?_
  refine YP.obind (sJ hk (ck hs)) ?_;rintro _ ⟨f,rfl,f0,f1⟩;refine YP.obind (vi (p:=8) ⟨f0,f1⟩ (by omega)) ?_
  rintro _ ⟨b,rfl⟩;simp only[tnA];refine YP.ite (fun _=>?_) (fun _=>ih (by omega) (by omega) he (hr.less (by omega)))
  refine YP.obind (bA (q:=q+262145 * d+262144) (hr.less (by omega))) ?_
  rintro _ ⟨v,r1,rfl,hr1,_⟩;simp only[tnA];refine YP.ite (fun _=>?_) (fun _=>ih (by omega) (by omega) he (hr1.less (by omega)))
  refine YP.guard (by (simp <;> omega)) (YP.guard (by (simp <;> omega)) ?_)
  refine YP.ite (fun _=>?_) (fun _=>ih (by omega) (by omega) he (hr1.less (by omega)))
  refine YP.obind (Np hk (q:=q+262145 * d) (by have:=dK hs;omega) hr1) ?_
  rintro _ ⟨v,r2,rfl,hr2,hv,hvw⟩;simp only[tnA];refine YP.obind (ct_putD (by omega) he hv hvw (by omega) (by omega)) ?_
  rintro _ ⟨ts,rfl,htl,hts⟩;simp only[tnA];exact ih (by omega) (by omega) hts hr2
theorem vau_1 (hk:KOk ks) {c q m:Nat} (hm:m < ks.length) (hc:c≤100)
  (next : ∀{es:List T} {r:T},es.length≤c→(∀x∈es,Xm x)→Rd q r→YP (fun k=>Fo (hl env k Ea) (.sl ks) (.int ((m+1:Nat):Int)) r (.sl es)) Q) :
  ∀{d j:Nat} {es:List T} {r:T},j+d=((T.sl ks).nth m).es.length→es.length+4 * d≤c→(∀x∈es,Xm x)→Rd (q+1048580 * d) r→YP (fun k=>Fp (hl env k Ea) (.sl ks) (.int (m:Int)) (.int (j:Int)) r (.sl es)) Q:=by
 have hk1:=hk.1;have hk2:=(hk.2 m hm).1;intro d;induction d with
 | zero=>
  intro j es r hd hel he hr;refine YP.call ?_ (fun r h=>Iz _ _ _ _ _ h)
  unfold FY;simp only[tnA];refine YP.guard (by (simp <;> omega)) (YP.ff (decide_eq_false (by omega)) ?_)
  rw[show IntKind.wrap .i64 ((m:Int)+1)=((m+1:Nat):Int) by rw[bf (by omega) (by omega)];rfl]
  exact next (by omega) he hr
 | succ d ih=>
  intro j es r hd hel he hr;refine YP.call ?_ (fun r h=>Iz _ _ _ _ _ h)
  unfold FY;simp only[tnA];refine YP.guard (by (simp <;> omega)) (YP.tt (decide_eq_true (by omega)) ?_)
  refine YP.obind (YP.of (Q:=fun o=>o=_) (KG (n:=m) (by omega)) rfl) ?_
  rintro _ rfl;simp only[tnA];refine YP.guard (decide_eq_true (by rw[bD];show k_S.size+1≤_;decide)) ?_
  refine YP.obind (YP.of (Q:=fun o=>o=_) (KG (n:=j) (by omega)) rfl) ?_
  rintro _ rfl;simp only[tnA];refine YP.guard (decide_eq_true ?_) ?_
  ·rw[bD,ByteArray.size_append];show k_S.size+1+1≤_;decide
  exact vau_2 hk (c:=c - 4 * d) (q:=q+1048580 * d) hm (by omega) (zD hm (by omega) (by omega) (by omega)) (by omega) (fun h1 h2 h3=>ih (by omega) (by omega) h2 h3) (d:=4) (o:=0) (by omega) (by omega) he (hr.less (by omega))
theorem ct_vauD (hk:KOk ks) {q:Nat} {r:T} (hr:Rd (q+9437220) r):YP (fun k=>cl env k EN [r,.sl ks]) (VauR q):=by
 have hk1:=hk.1;have key : ∀{d m:Nat} {es:List T} {r:T},m+d=ks.length→es.length+12 * d≤36→(∀x∈es,Xm x)→Rd (q+3145740 * d) r→YP (fun k=>Fo (hl env k Ea) (.sl ks) (.int (m:Int)) r (.sl es)) (VauR q):=by
  intro d;induction d with
  | zero=>
   intro m es r hd hel he hr;refine YP.call ?_ (fun r h=>Iy _ _ _ _ h)
   unfold FX;simp only[tnA];exact YP.ff (decide_eq_false (by omega)) (YP.some ⟨es,r,rfl,hr,by omega,he⟩)
  | succ d ih=>
   intro m es r hd hel he hr;have hk2:=(hk.2 m (by omega)).1
   refine YP.call ?_ (fun r h=>Iy _ _ _ _ h)
   unfold FX;simp only[tnA];refine YP.tt (decide_eq_true (by omega)) ?_
   exact vau_1 hk (c:=36 - 12 * d) (q:=q+3145740 * d) (by omega) (by omega) (fun h1 h2 h3=>ih (by omega) (by omega) h2 h3) (d:=((T.sl ks).nth m).es.length) (j:=0) (by omega) (by omega) he (hr.less (by omega))
 refine YP.call ?_ (fun r h=>Lv _ _ h)
 exact key (d:=ks.length) (m:=0) (es:=[]) (by omega) (by simp;omega) (fun x h=>by cases h) (hr.less (by omega))
end
theorem XG (n:Nat):(10:UInt8) ∉ (Ss n).data.toList:=fun h=>by
 have:=dd_char n _ h
 have h10:(10:UInt8).toNat=10:=rfl
 omega
theorem sp_nl : ∀{ws:List (List UInt8)},(∀w∈ws,(10:UInt8) ∉ w)→(10:UInt8) ∉ spL 32 ws
 | [],_,h=>by cases h
 | w :: ws,hw,h=>by
  rw[Sh,List.cons_append] at h;rcases List.mem_cons.1 h with h | h
  ·revert h;decide
  ·rcases List.mem_append.1 h with h | h
   ·exact hw w List.mem_cons_self h
   ·exact sp_nl (fun x hx=>hw x (List.mem_cons_of_mem _ hx)) h
theorem join_nl {us:List ByteArray} (h : ∀u∈us,(10:UInt8) ∉ u.data.toList):(10:UInt8) ∉ (SF us).data.toList:=by
 cases us with
 | nil=>exact fun h=>by cases h
 | cons u us=>
  have e:=join_sp (us:=u :: us) (by simp)
  intro hm;refine sp_nl (ws:=(u :: us).map (·.data.toList)) (fun w hw=>?_) (by rw[e];exact List.mem_cons_of_mem _ hm)
  obtain ⟨x,hx,rfl⟩:=List.mem_map.1 hw;exact h x hx
theorem X2 {n m:Nat} (h:n+m≤4294967296):decide (n+m≤LIM)=true:=decide_eq_true h
theorem XM : ∀v,J1 v→v.wt≤BB→∃s,Yields (fun k=>cl env k Xa [v]) [.str s]∧Yields (fun k=>cl env k X6 [v]) [.str s]∧s.size≤64 * v.wt+32∧(10:UInt8) ∉ s.data.toList:=by
 intro v h;induction h with
 | @num s n b1 h0 h1=>
  intro _;obtain ⟨m,rfl⟩ : ∃m:Nat,n=m:=⟨n.toNat,by omega⟩
  have:=SM (n:=m) (by omega)
  exact ⟨Ss m,Xd _ (Yields.tt b1 (Yields.obind (dec_s m (by omega)) (Yields.some _))),X7 _ (Yields.tt b1 (Yields.obind (dec_i (by omega)) (Yields.some _))),by omega,XG m⟩
 | @bit s n b1 b2 h0 h1=>
  intro _;have hn:n=0∨n=1:=by omega
  rcases hn with rfl | rfl
  ·exact ⟨⟨#[45]⟩,Xd _ (Yields.ff b1 (Yields.tt b2 (Yields.tt rfl (Yields.some _)))),X7 _ (Yields.ff b1 (Yields.tt b2 (Yields.tt rfl (Yields.some _)))),by show 1≤_;omega,by decide⟩
  ·exact ⟨⟨#[43]⟩,Xd _ (Yields.ff b1 (Yields.tt b2 (Yields.tt rfl (Yields.some _)))),X7 _ (Yields.ff b1 (Yields.tt b2 (Yields.tt rfl (Yields.some _)))),by show 1≤_;omega,by decide⟩
 | @own s n b1 b2 b3 h0 h1=>
  intro _;obtain ⟨m,rfl⟩ : ∃m:Nat,n=m:=⟨n.toNat,by omega⟩
  have:=SM (n:=m) (by omega)
  have h64:(⟨#[64]⟩:ByteArray).size=1:=rfl
  have hl:decide ((⟨#[64]⟩:ByteArray).size+(Ss m).size≤LIM)=true:=X2 (by omega)
  exact ⟨⟨#[64]⟩++Ss m,Xd _ (Yields.ff b1 (Yields.ff b2 (Yields.tt b3 (Yields.obind (dec_s m (by omega)) (Yields.tt hl (Yields.some _)))))),X7 _ (Yields.ff b1 (Yields.ff b2 (Yields.tt b3 (Yields.obind (dec_i (by omega)) (Yields.tt hl (Yields.some _)))))),
   by rw[ByteArray.size_append];omega,by rw[S8];exact fun h=>(List.mem_append.1 h).elim (by decide) (XG m)⟩
 | @made s n ps b1 b2 b3 hs hps ih=>
  intro hw;obtain ⟨_,_,hkc⟩:=hs;have hnl:=TY hkc;have hs:=(ma hkc).1;have hwt:(T.st [.str s,.int n,.sl ps,.sl []]).wt=T.wts ps+ps.length:=by simp only[T.wt,T.wts,List.length_nil];omega
  rw[hwt] at hw ⊢;have hB:BB=1048576:=rfl
  have texts : ∀(l:List T),(∀x∈l,x∈ps)→T.wts l≤BB→∃us:List ByteArray,us.length=l.length∧(∀(i:Nat) (x:T) (u:ByteArray),l[i]?=some x→us[i]?=some u→Yields (fun k=>cl env k Xa [x]) [.str u]∧Yields (fun k=>cl env k X6 [x]) [.str u])∧
    SB us≤64 * T.wts l+33 * l.length∧∀u∈us,(10:UInt8) ∉ u.data.toList:=by
   intro l;induction l with
   | nil=>intro _ _;exact ⟨[],rfl,fun i x u h=>by simp at h,by simp[SB,T.wts],fun u h=>by cases h⟩
   | cons a l ihl=>
    intro hl hwl;simp only[T.wts] at hwl;obtain ⟨us,e1,e2,e3,e4⟩:=ihl (fun x hx=>hl x (by simp[hx])) (by omega)
    obtain ⟨u,y1,y2,y3,y4⟩:=ih a (hl a (by simp)) (by omega)
    refine ⟨u :: us,by simp[e1],fun i x u' hx hu=>?_,by simp only[SB,T.wts,List.length_cons];omega,fun x hx=>(List.mem_cons.1 hx).elim (fun h=>h ▸ y4) (e4 x)⟩
    cases i with
    | zero=>simp at hx hu;subst hx;subst hu;exact ⟨y1,y2⟩
    | succ i=>exact e2 i x u' (by simpa using hx) (by simpa using hu)
  obtain ⟨us,hul,hus,hsum,husn⟩:=texts ps (fun x h=>h) (by omega)
  have hj:=TW us;have h40:(⟨#[40]⟩:ByteArray).size=1:=rfl
  have h41:(⟨#[41]⟩:ByteArray).size=1:=rfl
  have h32:(⟨#[32]⟩:ByteArray).size=1:=rfl
  have hpl:ps.length≤BB:=by omega
  refine ⟨((s++⟨#[40]⟩)++SF us)++⟨#[41]⟩,?_,?_,?_,?_⟩
  ·refine Xd _ (Yields.ff b1 (Yields.ff b2 (Yields.ff b3 (Yields.tt (X2 (by show s.size+1≤_;omega)) ?_))))
   have key : ∀(m i:Nat),i+m=ps.length→Yields (fun k=>X1 (hl env k WZ) (.str ((s++⟨#[40]⟩)++SF (us.take i))) (.int (i:Int)) (.st [.str s,.int n,.sl ps,.sl []])) [.str (((s++⟨#[40]⟩)++SF us)++⟨#[41]⟩)]:=by
    intro m;induction m with
    | zero=>
     intro i hi;have hsz:((s++⟨#[40]⟩)++SF (us.take i)).size≤100000000:=by rw[ByteArray.size_append,ByteArray.size_append];have:=TW (us.take i);have:=XC (us:=us) (i:=i);omega
     refine Xx _ _ _ (Yields.ff (FH (es:=ps) (by omega)) (Yields.tt (X2 (by show ((s++⟨#[40]⟩)++SF (us.take i)).size+1≤_;omega)) ?_))
     rw[List.take_of_length_le (by omega)];exact Yields.some _
    | succ m ihm=>
     intro i hi;have hlt:i < ps.length:=by omega
     have hlu:i < us.length:=by omega
     have hy:=(hus i ps[i] us[i] (List.getElem?_eq_getElem hlt) (List.getElem?_eq_getElem hlu)).1;have hn:(((T.st [.str s,.int n,.sl ps,.sl []]).fld 2).nth (T.int (i:Int)).i.toNat)=ps[i]:=vQ hlt
     rw[← hn] at hy;have hsz:((s++⟨#[40]⟩)++SF (us.take i)).size≤100000000:=by rw[ByteArray.size_append,ByteArray.size_append];have:=TW (us.take i);have:=XC (us:=us) (i:=i);omega
     have hus1:us[i].size≤100000000:=by
      have h1:SB (us.take i ++ [us[i]])≤SB us:=by rw[List.take_append_getElem hlu];exact XC
      rw[T5] at h1;simp only[SB] at h1;omega
     have hsn:=TX (us.take i) us[i];rw[List.take_append_getElem hlu] at hsn;have hnext:=ihm (i+1) (by omega)
     refine Xx _ _ _ (Yields.tt (F2 (es:=ps) hlt) (Yields.ite (fun e=>?_) (fun e=>?_)))
     ·have h0:0 < i:=by
       have:(i:Int) > 0:=of_decide_eq_true e
       omega
      rw[if_neg (by intro e;have:=congrArg List.length e;rw[List.length_take,List.length_nil] at this;omega)] at hsn
      refine Yields.tt (X2 (by show ((s++⟨#[40]⟩)++SF (us.take i)).size+1≤_;omega)) (Yields.tt (pw (es:=ps) hlt) (Yields.obind hy (Yields.tt (X2 ?_) ?_)))
      ·show (((s++⟨#[40]⟩)++SF (us.take i))++⟨#[32]⟩).size+us[i].size≤_
       rw[ByteArray.size_append];omega
      ·rw[AM hlt (DU hpl)];have e2:(((s++⟨#[40]⟩)++SF (us.take i))++⟨#[32]⟩)++us[i]=(s++⟨#[40]⟩)++SF (us.take (i+1)):=by
        rw[hsn];apply S2;simp only[S8,List.append_assoc]
       show Yields (fun k=>X1 (hl env k WZ) (.str ((((s++⟨#[40]⟩)++SF (us.take i))++⟨#[32]⟩)++us[i])) (.int ((i+1:Nat):Int)) _) _
       rw[e2];exact hnext
     ·have h0:i=0:=by
       have : ¬(i:Int) > 0:=of_decide_eq_false e
       omega
      rw[if_pos (by rw[h0];rfl)] at hsn
      refine Yields.tt (pw (es:=ps) hlt) (Yields.obind hy (Yields.tt (X2 ?_) ?_))
      ·show ((s++⟨#[40]⟩)++SF (us.take i)).size+us[i].size≤_
       omega
      ·rw[AM hlt (DU hpl)];have hem:SF (us.take i)=⟨#[]⟩:=by rw[h0];rfl
       have e2:((s++⟨#[40]⟩)++SF (us.take i))++us[i]=(s++⟨#[40]⟩)++SF (us.take (i+1)):=by
        rw[hsn,hem];apply S2;simp only[S8,List.append_assoc];rfl
       show Yields (fun k=>X1 (hl env k WZ) (.str (((s++⟨#[40]⟩)++SF (us.take i))++us[i])) (.int ((i+1:Nat):Int)) _) _
       rw[e2];exact hnext
   have h0:=key ps.length 0 (by omega)
   have e0:(s++⟨#[40]⟩)++SF (us.take 0)=s++⟨#[40]⟩:=by apply S2;simp only[S8,List.append_assoc];rfl
   rw[e0] at h0;exact h0
  ·refine X7 _ (Yields.ff b1 (Yields.ff b2 (Yields.ff b3 ?_)));have hmt : ∀i,(us.map T.str).take i=(us.take i).map T.str:=fun i=>(List.map_take ..).symm
   have key : ∀(m i:Nat),i+m=ps.length→Yields (fun k=>X4 (hl env k WX) (.sl ps) (.int (ps.length:Int)) (.int (i:Int)) (.st [.str s,.int n,.sl ps,.sl []]) (.sl ((us.map T.str).take i))) [.str (((s++⟨#[40]⟩)++SF us)++⟨#[41]⟩)]:=by
    intro m;induction m with
    | zero=>
     intro i hi;have hj2:=join_t (us:=us) (by omega) (by omega)
     refine Xr _ _ _ _ _ (Yields.ff (lt_f (by omega)) (Yields.tt (X2 (by show s.size+1≤_;omega)) ?_))
     rw[List.take_of_length_le (by simp;omega)]
     refine Yields.obind hj2 (Yields.tt (X2 ?_) (Yields.tt (X2 ?_) (Yields.some _)))
     ·show (s++⟨#[40]⟩).size+(SF us).size≤_
      rw[ByteArray.size_append];omega
     ·show ((s++⟨#[40]⟩)++SF us).size+1≤_
      rw[ByteArray.size_append,ByteArray.size_append];omega
    | succ m ihm=>
     intro i hi;have hlt:i < ps.length:=by omega
     have hlu:i < us.length:=by omega
     have hy:=(hus i ps[i] us[i] (List.getElem?_eq_getElem hlt) (List.getElem?_eq_getElem hlu)).2;have hn:((T.sl ps).nth (T.int (i:Int)).i.toNat)=ps[i]:=vQ hlt
     rw[← hn] at hy;refine Xr _ _ _ _ _ (Yields.tt (lt_t hlt) (Yields.tt (pw hlt) (Yields.obind hy (Yields.tt (decide_eq_true ?_) ?_))))
     ·show ((us.map T.str).take i).length+1≤LIM
      rw[List.length_take];unfold LIM;omega
     ·rw[AM hlt (DU hpl)];have hlm:i < (us.map T.str).length:=by simpa using hlu
      have e:(us.map T.str)[i] = .str us[i]:=List.getElem_map ..
      show Yields (fun k=>X4 (hl env k WX) (.sl ps) (.int (ps.length:Int)) (.int ((i+1:Nat):Int)) _ (.sl ((us.map T.str).take i ++ [.str us[i]]))) _
      rw[← e,List.take_append_getElem hlm];exact ihm (i+1) (by omega)
   exact key ps.length 0 (by omega)
  ·rw[ByteArray.size_append,ByteArray.size_append,ByteArray.size_append];omega
  ·rw[S8,S8,S8];intro h;rcases List.mem_append.1 h with h | h
   ·rcases List.mem_append.1 h with h | h
    ·rcases List.mem_append.1 h with h | h
     ·have:=hnl _ h
      unfold tyC at this;have h10:(10:UInt8).toNat=10:=rfl
      omega
     ·revert h;decide
    ·exact join_nl husn h
   ·revert h;decide
theorem XL {a d u B i w:Nat} (ha:a≤B * i) (hd:d≤21) (hu:u≤64 * w+32) (hw:w≤262144) (hB:B=16777300):a+1+d+1+u+1≤B * (i+1):=by rw[Nat.mul_succ];omega
theorem sz6 (a b c:ByteArray):(a++⟨#[64]⟩++b++⟨#[32]⟩++c++⟨#[10]⟩).size=a.size+1+b.size+1+c.size+1:=by
 rw[ByteArray.size_append,ByteArray.size_append,ByteArray.size_append,ByteArray.size_append,ByteArray.size_append];rfl
theorem low_size {a B i:Nat} (ha:a≤B * i) (hi:i≤100) (hB:B=16777300):a≤1677730000:=Nat.le_trans ha (by rw[hB];omega)
theorem XK (ks es:List T) (hk:HO BB (.sl ks)) (hl:FV BB (.sl es)) (hw : ∀x∈es,x.wt≤262144) (h100:es.length≤100) : ∃(s:ByteArray) (c:Bool),Yields (fun k=>cl env k Xi [.sl ks,.sl es]) [.str s]∧Yields (fun k=>cl env k Xh [.sl ks,.sl es]) [.str s]∧
  Yields (fun k=>cl env k Ek [.sl ks,.sl es]) [.bool c]∧(c=true→s.data.toList.count 10=es.length)∧(c=false→s=⟨#[]⟩)∧s.size≤4000000000:=by
 have hb:=DU (Nat.le_refl BB);obtain ⟨c,y1,y2,y3,_⟩:=Nm hb ks es hk hl;obtain ⟨_,hq,hl1,hl2⟩:=hl;cases hq;have hB:BB=1048576:=rfl
 by_cases h0:es.length=0
 ·have:es = []:=List.length_eq_zero_iff.1 h0
  subst this;refine ⟨⟨#[]⟩,c,Xk _ _ (X9 _ _ _ _ (Yields.ff rfl (Yields.some _))),Xj _ _ (Yields.obind y2 ?_),y2,fun _=>rfl,fun _=>rfl,by show 0≤_;omega⟩
  cases c with
  | false=>exact Yields.tt rfl (Yields.some _)
  | true=>exact Yields.ff rfl (Xg _ _ _ _ (Yields.ff rfl (Yields.some _)))
 cases c with
 | false=>exact ⟨⟨#[]⟩,false,Xk _ _ (X9 _ _ _ _ (Yields.tt (F2 (i:=0) (by omega)) (Yields.obind y1 (Yields.ff rfl (Yields.some _))))),Xj _ _ (Yields.obind y2 (Yields.tt rfl (Yields.some _))),y2,fun h=>Bool.noConfusion h,fun _=>rfl,by show 0≤_;omega⟩
 | true=>
  obtain ⟨hk2,he,_,_,hlo⟩:=y3 rfl;have h64:(⟨#[64]⟩:ByteArray).size=1:=rfl
  have h32:(⟨#[32]⟩:ByteArray).size=1:=rfl
  have h10:(⟨#[10]⟩:ByteArray).size=1:=rfl
  obtain ⟨B,hBv⟩ : ∃B:Nat,B=16777300:=⟨_,rfl⟩;have key : ∀(m i:Nat) (out:ByteArray),i+m=es.length→out.size≤B * i→∃s,Yields (fun k=>X8 (hl env k WY) (.sl ks) (.sl es) (.str out) (.int (i:Int))) [.str s]∧
    Yields (fun k=>X3 (hl env k yB) (.str out) (.sl es) (.int (es.length:Int)) (.int (i:Int))) [.str s]∧s.data.toList.count 10=out.data.toList.count 10+m∧s.size≤B * es.length:=by
   intro m;induction m with
   | zero=>intro i out hi ho;exact ⟨out,X9 _ _ _ _ (Yields.ff (FH (by omega)) (Yields.some _)),Xg _ _ _ _ (Yields.ff (lt_f (by omega)) (Yields.some _)),rfl,by rw[show es.length=i by omega];exact ho⟩
   | succ m ih=>
    intro i out hi hout;have hlt:i < es.length:=by omega
    have him:i+1+m=es.length:=by omega
    obtain ⟨o,v,hx,ho1,ho2,hf⟩:=at_fit hk2 hb he (hlo.2 i hlt) hl2;rw[List.getElem?_eq_getElem hlt] at hx;have hx:=Option.some.inj hx;have hn:((T.sl es).nth (T.int (i:Int)).i.toNat) = .st [.int o,v]:=by rw[vQ hlt,hx]
    have hwv:v.wt≤262144:=by
     have h1:=hw _ (List.getElem_mem hlt);have h2:(T.st [.int o,v]).wt=v.wt:=by simp[T.wts,T.wt]
     rw[hx,h2] at h1;exact h1
    obtain ⟨u,t1,t2,t3,t4⟩:=XM v hf (by omega)
    obtain ⟨q,rfl⟩ : ∃q:Nat,o=q:=⟨o.toNat,by omega⟩
    have d1:=dec_s q (by omega)
    have d2:=dec_i (n:=q) (by omega)
    have d3:=SM (n:=q) (by omega)
    have hassoc:out++(⟨#[64]⟩++Ss q++⟨#[32]⟩++u++⟨#[10]⟩)=out++⟨#[64]⟩++Ss q++⟨#[32]⟩++u++⟨#[10]⟩:=by apply S2;simp only[S8,List.append_assoc]
    have ho:=low_size hout (show i≤100 by omega) hBv
    have hnx:=AM hlt (DU hl1);have hsz:(out++⟨#[64]⟩++Ss q++⟨#[32]⟩++u++⟨#[10]⟩).size≤B * (i+1):=by rw[sz6];exact XL hout d3 t3 hwv hBv
    obtain ⟨s,z1,z2,z3,z4⟩:=ih (i+1) _ him hsz;clear hsz hout
    have c64:List.count (10:UInt8) (⟨#[64]⟩:ByteArray).data.toList=0:=by decide
    have c32:List.count (10:UInt8) (⟨#[32]⟩:ByteArray).data.toList=0:=by decide
    have c10:List.count (10:UInt8) (⟨#[10]⟩:ByteArray).data.toList=1:=by decide
    have hcnt:(out++⟨#[64]⟩++Ss q++⟨#[32]⟩++u++⟨#[10]⟩).data.toList.count 10=out.data.toList.count 10+1:=by
     rw[S8,S8,S8,S8,S8,List.count_append,List.count_append,List.count_append,List.count_append,List.count_append,List.count_eq_zero.2 (XG q),List.count_eq_zero.2 t4,c64,c32,c10]
    refine ⟨s,?_,?_,by rw[z3,hcnt,Nat.add_assoc,Nat.add_comm 1 m],z4⟩
    all_goals clear z3 hcnt
    ·refine X9 _ _ _ _ (Yields.tt (F2 hlt) (Yields.obind y1 (Yields.tt rfl (Yields.tt (X2 (by show out.size+1≤_;omega)) (Yields.tt (pw hlt) ?_)))))
     rw[hn,hnx];refine Yields.obind d1 (Yields.tt (X2 ?_) (Yields.tt (X2 ?_) (Yields.tt (pw hlt) (Yields.obind t1 (Yields.tt (X2 ?_) (Yields.tt (X2 ?_) z1))))))
     ·show (out++⟨#[64]⟩).size+(Ss q).size≤_
      rw[ByteArray.size_append];omega
     ·show (out++⟨#[64]⟩++Ss q).size+1≤_
      rw[ByteArray.size_append,ByteArray.size_append];omega
     ·show (out++⟨#[64]⟩++Ss q++⟨#[32]⟩).size+u.size≤_
      rw[ByteArray.size_append,ByteArray.size_append,ByteArray.size_append];omega
     ·show (out++⟨#[64]⟩++Ss q++⟨#[32]⟩++u).size+1≤_
      rw[ByteArray.size_append,ByteArray.size_append,ByteArray.size_append,ByteArray.size_append];omega
    ·refine Xg _ _ _ _ (Yields.tt (lt_t hlt) (Yields.tt (pw hlt) ?_));rw[hn,hnx];refine Yields.obind d2 (Yields.tt (X2 ?_) (Yields.tt (X2 ?_) (Yields.obind t2 (Yields.tt (X2 ?_) (Yields.tt (X2 ?_) (Yields.tt (X2 ?_) ?_))))))
     ·show 1+(Ss q).size≤_
      omega
     ·show (⟨#[64]⟩++Ss q:ByteArray).size+1≤_
      rw[ByteArray.size_append];omega
     ·show (⟨#[64]⟩++Ss q++⟨#[32]⟩:ByteArray).size+u.size≤_
      rw[ByteArray.size_append,ByteArray.size_append];omega
     ·show (⟨#[64]⟩++Ss q++⟨#[32]⟩++u:ByteArray).size+1≤_
      rw[ByteArray.size_append,ByteArray.size_append,ByteArray.size_append];omega
     ·show out.size+(⟨#[64]⟩++Ss q++⟨#[32]⟩++u++⟨#[10]⟩:ByteArray).size≤_
      rw[ByteArray.size_append,ByteArray.size_append,ByteArray.size_append,ByteArray.size_append];omega
     ·show Yields (fun k=>X3 (hl env k yB) (.str (out++(⟨#[64]⟩++Ss q++⟨#[32]⟩++u++⟨#[10]⟩))) (.sl es) (.int (es.length:Int)) (.int ((i+1:Nat):Int))) _
      rw[hassoc];exact z2
  obtain ⟨s,z1,z2,z3,z4⟩:=key es.length 0 ⟨#[]⟩ (by omega) (by simp[ByteArray.size])
  have h100':B * es.length≤B * 100:=Nat.mul_le_mul_left _ h100
  exact ⟨s,true,Xk _ _ z1,Xj _ _ (Yields.obind y2 (Yields.ff rfl z2)),y2,fun _=>by rw[z3];show 0+_=_;omega,fun h=>Bool.noConfusion h,by omega⟩
def DrV (o:List T):Prop:=∃ks es:List T,o = [.sl ks,.sl es]∧HO BB (.sl ks)∧FV BB (.sl es)∧(∀x∈es,x.wt≤262144)∧es.length≤100
theorem XJ {bs:List T} (hv:JG bs):YP (fun k=>cl env k Xb [.sl bs]) DrV:=by
 refine YP.call ?_ (fun r h=>Xz _ h)
 unfold Xc;refine YP.obind (TI hv) ?_;rintro _ ⟨r,rfl,hr⟩;refine YP.obind (ct_shelf (q:=600000000) (hr.less (by omega))) ?_
 rintro _ ⟨ms,r1,rfl,hr1,hs⟩;have hm3:=hs.1;have hik:HO BB (.sl (aY ms)):=⟨_,rfl,by rw[qW,BBv];omega,E4 hs.2.2.2.1⟩
 refine YP.run (tF ms (by rw[BBv];omega) hs.2.2.2.1) ?_
 refine YP.obind (ct_vauD hs.2.1 (q:=500000000) (hr1.less (by omega))) ?_
 rintro _ ⟨es,r2,rfl,hr2,h1,h2⟩;simp only[tnA];have fin : ∀es:List T,es.length≤100→(∀x∈es,Xm x)→DrV [.sl (aY ms),.sl es]:=fun es h1 h2=>⟨_,es,rfl,hik,⟨es,rfl,by rw[BBv];omega,fun x hx=>(h2 x hx).1⟩,fun x hx=>(h2 x hx).2,h1⟩
 refine YP.obind (bA (q:=0) (hr2.less (by omega))) ?_
 rintro _ ⟨w,r3,rfl,_⟩;simp only[tnA];refine YP.ite (fun _=>YP.ite (fun hc=>?_) (fun _=>YP.some (fin es h1 h2))) (fun _=>YP.some (fin es h1 h2))
 have hl:0 < es.length:=by have:=of_decide_eq_true hc;omega
 refine YP.guard (by rw[decide_eq_true hl];rfl) (YP.some (fin (es.set 0 (.st (((T.sl es).nth 0).fs.set 0 (.int 5)))) (by rw[List.length_set];exact h1) fun x hx=>?_))
 rcases List.mem_or_eq_of_mem_set hx with hx | rfl
 ·exact h2 x hx
 ·have e0:(T.sl es).nth 0=es[0]:=bh hl
  obtain ⟨⟨o,v,e,_,_,hv⟩,hw⟩:=h2 _ (List.getElem_mem hl);rw[e0,e];rw[e] at hw;refine ⟨⟨5,v,rfl,by omega,by omega,hv⟩,?_⟩
  have e1:(T.st [.int o,v]).wt=v.wt:=by simp[T.wt,T.wts]
  have e2:(T.st [.int 5,v]).wt=v.wt:=by simp[T.wt,T.wts]
  show (T.st [.int 5,v]).wt≤_
  rw[e2];rw[e1] at hw;exact hw
theorem XI {s:ByteArray} {ks es:List T} {c:Bool} (hc:Yields (fun k=>cl env k Ek [.sl ks,.sl es]) [.bool c]) (h1:c=true→s.data.toList.count 10=es.length) (h2:c=false→s.data.toList.count 10=0) (hs:s.size≤4000000000) : ∀{d i:Nat},i+d=s.size→Yields (fun k=>X0 (Ra.hl env k fb) (.sl ks) (.str s) (.int (((s.data.toList.take i).count 10:Nat):Int)) (.int (i:Int)) (.sl es)) [.bool true]
 | 0,i,hd=>by
  refine Xn _ _ _ _ _ ?_;unfold X5;simp only[tnA];rw[List.take_of_length_le (by rw[← Rx];omega)]
  refine Yields.ff (decide_eq_false (by omega)) (Yields.ite (fun _=>Yields.some _) (fun hne=>?_))
  cases c with
  | true=>rw[h1 rfl] at hne;simp at hne
  | false=>
   rw[h2 rfl];exact Yields.tt rfl (Yields.obind hc (Yields.some _))
 | d+1,i,hd=>by
  have hi:i < s.data.toList.length:=by rw[← Rx];omega
  have next:=XI hc h1 h2 hs (d:=d) (i:=i+1) (by omega)
  have hcl:(s.data.toList.take i).count 10≤i:=Nat.le_trans List.count_le_length (by rw[List.length_take];omega)
  rw[← List.take_append_getElem hi,List.count_append] at next;have hg:s.data.getD i 0=s.data.toList[i]:=by
   have:i < s.data.size:=by rw[← Array.length_toList];exact hi
   rw[Array.getD_eq_getD_getElem?,Array.getElem?_eq_getElem this,Option.getD_some,Array.getElem_toList]
  refine Xn _ _ _ _ _ ?_;unfold X5;simp only[tnA];rw[hg];have e1:IntKind.wrap .i64 ((i:Int)+1)=((i+1:Nat):Int):=by rw[bf (by omega) (by omega)];rfl
  have e2:IntKind.wrap .i64 ((((s.data.toList.take i).count 10:Nat):Int)+1)=(((s.data.toList.take i).count 10+1:Nat):Int):=by rw[bf (by omega) (by omega)];rfl
  simp only[e1,e2];refine Yields.tt (decide_eq_true (by omega)) (Yields.guard (by (simp <;> omega)) (Yields.ite (fun h=>?_) (fun h=>?_)))
  ·have h:s.data.toList[i]=10:=UInt8.toNat_inj.1 (by have:=eq_of_beq h;show _=10;omega)
   rw[h] at next;exact next
  ·have hne:s.data.toList[i]≠10:=fun e=>by rw[e] at h;cases h
   have:List.count (10:UInt8) [s.data.toList[i]]=0:=List.count_eq_zero.2 (fun hm=>hne (List.mem_singleton.1 hm).symm)
   rw[this] at next;exact next
theorem XF {bs:List T} (hv:JG bs):Yields (fun k=>cl env k Xe [.sl bs]) [.bool true]:=by
 refine YP.yields (YP.call ?_ (fun r h=>XB _ h))
 unfold Xf;refine YP.ite (fun _=>YP.some rfl) (fun _=>?_)
 refine YP.obind (XJ hv) ?_;rintro _ ⟨ks,es,rfl,hk,hl,hw,h100⟩;obtain ⟨s,c,s1,s2,s3,s4,s5,s6⟩:=XK ks es hk hl hw h100;simp only[tnA];refine YP.run s2 (YP.run s1 (YP.ff (by simp) ?_))
 exact YP.of (XI s3 s4 (fun h=>by rw[s5 h];rfl) s6 (d:=s.size) (i:=0) (by omega)) rfl
end Go.Proofs.YtdcnobhlknjnoaaGreatDoor.Ra
