/- A verified evaluator for the program, part Pl3 of this claim. -/
import Derived.Test.YtdcnobhlknjnoaaGreatDoorXPl2
import Derived.Test.YtdcnobhlknjnoaaGreatDoorXRe
import Derived.Test.YtdcnobhlknjnoaaGreatDoorXRf
import Derived.Test.YtdcnobhlknjnoaaGreatDoorXPl1
import Derived.Lib.ItoaLen
set_option linter.unusedSimpArgs false
set_option linter.unusedVariables false
namespace Go.Proofs.YtdcnobhlknjnoaaGreatDoor.Ra
open Go
def strB (n:Nat) (t:T):Bool:=match t with | .str s=>decide (s.size≤n) | _=>false
def tyvB (ks:List T) (t:T):Bool:=match t with | .str s=>cK ks s | _=>false
def numB (t:T):Bool:=match t with | .int _=>true | _=>false
def recvB (ks:List T) (m k:Nat):Bool:=match ((T.sl ks).nth m).nth k with
 | .st [.int a,.sl fs]=>decide (0≤a)&&decide (a≤15)&&decide (fs.length≤3)&&fs.all fun x=>match x with | .str s=>eV ks m k s | _=>false
 | _=>false
def rec4B (t:T):Bool:=match t with
 | .st [.int a,.sl fs]=>decide (-1≤a)&&decide (a≤16)&&decide (fs.length≤4)&&fs.all (strB 9)
 | _=>false
def fnvB (ks:List T) (g:T):Bool:=match g with
 | .st [.int _,.sl ags,.sl rs,.sl ls,.sl tk,.sl cd]=>decide (ags.length≤10)&&decide (rs.length≤10)&&decide (ls.length≤10)&&decide (tk.length≤10)&&decide (cd.length≤1000)&&decide (1≤cd.length)&&ags.all (tyvB ks)&&rs.all (tyvB ks)&&ls.all (tyvB ks)&&tk.all numB&&cd.all insR
 | _=>false
def modB (ks:List T) (t:T):Bool:=match t with
 | .st [.sl rs,.sl fs,.sl fr]=>decide (rs.length≤3)&&decide (fs.length≤10)&&decide (fr.length≤10)&&fr.all numB&&rs.all rec4B&&fs.all (fnvB ks)
 | _=>false
def kokB (ks:List T):Bool:=decide (ks.length≤3)&&(List.range ks.length).all fun m=>decide (((T.sl ks).nth m).es.length≤3)&&(List.range ((T.sl ks).nth m).es.length).all fun k=>recvB ks m k
theorem recv_of {ks:List T} {m k:Nat} (h:recvB ks m k=true):pP ks m k:=by
 unfold recvB at h;split at h
 ·rename_i a fs e
  simp only[Bool.and_eq_true,decide_eq_true_eq,List.all_eq_true] at h;refine ⟨a,fs,e,h.1.1.1,h.1.1.2,h.1.2,fun x hx=>?_⟩
  have:=h.2 x hx
  split at this
  ·exact ⟨_,rfl,this⟩
  ·cases this
 ·cases h
theorem rec4_of {t:T} (h:rec4B t=true):hM 4 t:=by
 unfold rec4B at h;split at h
 ·rename_i a fs
  simp only[Bool.and_eq_true,decide_eq_true_eq,List.all_eq_true] at h;refine ⟨a,fs,rfl,h.1.1.1,h.1.1.2,h.1.2,fun x hx=>?_⟩
  have:=h.2 x hx
  unfold strB at this;split at this
  ·exact ⟨_,rfl,of_decide_eq_true this⟩
  ·cases this
 ·cases h
theorem xf {ks xs:List T} (h : ∀x∈xs,tyvB ks x=true):dL ks xs:=fun x hx=>by
 have:=h x hx
 unfold tyvB at this;split at this
 ·exact ⟨_,rfl,this⟩
 ·cases this
theorem uD {xs:List T} (h : ∀x∈xs,numB x=true):cz xs:=fun x hx=>by
 have:=h x hx
 unfold numB at this;split at this
 ·exact ⟨_,rfl⟩
 ·cases this
theorem za {ks:List T} {g:T} (h:fnvB ks g=true):FnV ks g∧FnC g:=by
 unfold fnvB at h;split at h
 ·rename_i n ags rs ls tk cd
  simp only[Bool.and_eq_true,decide_eq_true_eq,List.all_eq_true] at h;obtain ⟨⟨⟨⟨⟨⟨⟨⟨⟨⟨h1,h2⟩,h3⟩,h4⟩,h5⟩,h6⟩,h7⟩,h8⟩,h9⟩,h10⟩,h11⟩:=h;exact ⟨⟨n,ags,rs,ls,tk,cd,rfl,h1,h2,h3,h4,h5,xf h7,xf h8,xf h9,uD h10,fun x hx=>xM (h11 x hx)⟩,h6⟩
 ·cases h
theorem zw {ks:List T} {x:T} (h:modB ks x=true):oH ks x∧kW BB x∧∀g∈(x.fld 1).es,FnC g:=by
 unfold modB at h;split at h
 ·rename_i rs fs fr
  simp only[Bool.and_eq_true,decide_eq_true_eq,List.all_eq_true] at h;obtain ⟨⟨⟨⟨⟨h1,h2⟩,h3⟩,h4⟩,h5⟩,h6⟩:=h;refine ⟨⟨rs,fs,fr,rfl,by omega,by omega,uD h4,fun g hg=>(za (h6 g hg)).1⟩,.mk ⟨rs,rfl,by rw[BBv];omega,fun x hx=>zL (rec4_of (h5 x hx))⟩ (by rw[BBv];omega) (fun g hg=>fn_is (za (h6 g hg)).1) (by rw[BBv];omega) (uD h4),fun g hg=>(za (h6 g hg)).2⟩
 ·cases h
theorem kok_of {ks:List T} (h:kokB ks=true):KOk ks:=by
 unfold kokB at h;simp only[Bool.and_eq_true,decide_eq_true_eq,List.all_eq_true,List.mem_range] at h;exact ⟨h.1,fun m hm=>⟨(h.2 m hm).1,fun k hk=>recv_of ((h.2 m hm).2 k hk)⟩⟩
theorem sh_of {ms:List T} (h:(decide (ms.length≤3)&&kokB (aY ms)&&ms.all (modB (aY ms)))=true):ShV ms:=by
 simp only[Bool.and_eq_true,decide_eq_true_eq,List.all_eq_true] at h;exact ⟨h.1.1,kok_of h.1.2,fun x hx=>(zw (h.2 x hx)).1,fun x hx=>(zw (h.2 x hx)).2.1,fun x hx=>(zw (h.2 x hx)).2.2⟩
theorem yR:ShV [aS]:=sh_of (by kernel_rfl)
theorem zb:ShV [aS,aU]:=sh_of (by kernel_rfl)
theorem BC:kW BB aS:=yR.2.2.2.1 _ (by simp)
theorem BP:kW BB aU:=zb.2.2.2.1 _ (by simp)
theorem run_ok {f:Nat} {ts r:List T} (n:Nat) (h : ∀k,cl env (k+n) f ts=some r):YP (fun k=>cl env k f ts) (fun o=>o=r):=
 ⟨r,⟨n,fun k hk=>by obtain ⟨j,rfl⟩ : ∃j,k=j+n:=⟨k - n,by omega⟩;exact h j⟩,rfl⟩
theorem coins_ok:YP (fun k=>cl env k qy []) (fun o=>o = [.str CK]):=run_ok 40 (fun k=>by kernel_rfl)
theorem games_ok:YP (fun k=>cl env k ml []) (fun o=>o = [.str CL]):=run_ok 40 (fun k=>by kernel_rfl)
inductive vd:List T→T→T→Prop
 | nil (m:T):vd [] m m
 | cons {l m m' m2:T} {ls:List T} : (∀k,cl env (k+120) aI [m,l]=some [m',.bool true])→T.st [m'.fld 0,m'.fld 1,m'.fld 2]=m'→vd ls m' m2→vd (l :: ls) m m2
theorem Cg {s:ByteArray} {xs:List T} {m2 z:T} (hl:xs.length≤1000) (ht : ∀k,cl env (k+120) eA [m2]=some [.str s]) : ∀{todo ys:List T} {m:T},vd todo m m2→xs=ys++todo→T.st [m.fld 0,m.fld 1,m.fld 2]=m→
  Yields (fun k=>eK (Ra.hl env k cn) (cl env k) (.str s) (.bool true) (.int (ys.length:Int)) z m (.sl xs)) [m2,.bool true]:=by
 intro todo ys m hr;induction hr generalizing ys with
 | nil m=>
  intro hx hm;unfold eK;simp only[tnA];simp only[hm];refine Yields.ff (decide_eq_false (by rw[hx];simp)) (Yields.ff rfl ?_)
  refine Yields.obind (r1:=[.str s]) ⟨120,fun k hk=>by obtain ⟨j,rfl⟩ : ∃j,k=j+120:=⟨k - 120,by omega⟩;exact ht j⟩ ?_
  simp only[tnA];exact Yields.ff (by simp) (Yields.some _)
 | @cons l m m' m2 ls h1 h2 h3 ih=>
  intro hx hm;have hlt:ys.length < xs.length:=by rw[hx];simp
  have en:(T.sl xs).nth ys.length=l:=by rw[bh hlt];simp[hx]
  have ew:IntKind.wrap .i64 ((ys.length:Int)+1)=((ys ++ [l]).length:Int):=by rw[bf (by omega) (by omega)];simp
  unfold eK;simp only[tnA];simp only[hm,en,ew];refine Yields.tt (decide_eq_true (by omega)) (Yields.tt rfl (Yields.tt (by (simp <;> omega)) ?_))
  refine Yields.obind (r1:=[m',.bool true]) ⟨120,fun k hk=>by obtain ⟨j,rfl⟩ : ∃j,k=j+120:=⟨k - 120,by omega⟩;exact h1 j⟩ ?_
  simp only[tnA];simp only[h2];exact sr _ _ _ _ _ _ (ih ht (by rw[hx];simp) h2)
theorem zK {s:ByteArray} {xs:List T} {m2:T} (hs:s.size≤4000) (hl:xs.length≤1000) (h1 : ∀k,cl env (k+500) qZ [.str s]=some [.sl xs,.bool true]) (ht : ∀k,cl env (k+120) eA [m2]=some [.str s])
  (h:vd xs (.st [.sl [],.sl [],.sl []]) m2) (h3:T.st [m2.fld 0,m2.fld 1,m2.fld 2]=m2):YP (fun k=>cl env k eN [.str s]) (fun o=>o = [m2]):=by
 refine YP.of (r:=[m2]) ?_ rfl;refine xw _ ?_;unfold ny;refine Yields.obind (r1:=[m2,.bool true]) ?_ ?_
 ·refine tU _ ?_;unfold kz;simp only[tnA];refine Yields.ff (decide_eq_false (by omega)) ?_
  refine Yields.obind (r1:=[.sl xs,.bool true]) ⟨500,fun k hk=>by obtain ⟨j,rfl⟩ : ∃j,k=j+500:=⟨k - 500,by omega⟩;exact h1 j⟩ ?_
  simp only[tnA];exact sq _ _ _ _ _ _ (Cg hl ht (ys:=[]) h rfl rfl)
 ·simp only[tnA];simp only[h3];exact Yields.some _
theorem AX:YP (fun k=>cl env k eN [.str CK]) (fun o=>o = [aS]):=
 zK (by decide +kernel) (by decide +kernel) CT CY (.cons rc0 rfl (.cons rc1 rfl (.cons rc2 rfl (.cons rc3 rfl (.cons rc4 rfl (.cons rc5 rfl (.cons rc6 rfl (.cons rc7 rfl (.cons rc8 rfl (.cons rc9 rfl (.cons rc10 rfl (.cons rc11 rfl (.cons rc12 rfl (.cons rc13 rfl (.cons rc14 rfl (.cons rc15 rfl (.cons rc16 rfl (.cons rc17 rfl (.cons rc18 rfl (.cons rc19 rfl (.cons rc20 rfl (.cons rc21 rfl (.cons rc22 rfl (.cons rc23 rfl (.cons rc24 rfl (.cons rc25 rfl (.cons rc26 rfl (.cons rc27 rfl (.cons rc28 rfl (.cons rc29 rfl (.cons rc30 rfl (.cons rc31 rfl (.cons rc32 rfl (.cons rc33 rfl (.cons rc34 rfl (.cons rc35 rfl (.cons rc36 rfl (.cons rc37 rfl (.cons rc38 rfl (.cons rc39 rfl (.cons rc40 rfl (.cons rc41 rfl (.nil _))))))))))))))))))))))))))))))))))))))))))) rfl
theorem Bh:YP (fun k=>cl env k eN [.str CL]) (fun o=>o = [aU]):=
 zK (by decide +kernel) (by decide +kernel) CU CZ (.cons rg0 rfl (.cons rg1 rfl (.cons rg2 rfl (.cons rg3 rfl (.cons rg4 rfl (.cons rg5 rfl (.cons rg6 rfl (.cons rg7 rfl (.cons rg8 rfl (.cons rg9 rfl (.cons rg10 rfl (.cons rg11 rfl (.cons rg12 rfl (.cons rg13 rfl (.cons rg14 rfl (.cons rg15 rfl (.cons rg16 rfl (.cons rg17 rfl (.cons rg18 rfl (.cons rg19 rfl (.cons rg20 rfl (.cons rg21 rfl (.cons rg22 rfl (.cons rg23 rfl (.cons rg24 rfl (.cons rg25 rfl (.cons rg26 rfl (.cons rg27 rfl (.cons rg28 rfl (.cons rg29 rfl (.cons rg30 rfl (.cons rg31 rfl (.cons rg32 rfl (.cons rg33 rfl (.nil _))))))))))))))))))))))))))))))))))) rfl
def ve (q:Nat) (o:List T):Prop:=∃(ms:List T) (r':T),o = [.sl ms,r']∧Rd q r'∧ShV ms
theorem A9 {ks:List T} {x:T} (h:oH ks x) {l:List T} (hl:l.length≤1000) (hn:cz l):oH ks (.st (x.fs.set 2 (.sl l))):=by
 obtain ⟨rs,fs,fr,rfl,h1,h2,h3,h4⟩:=h;exact ⟨rs,fs,l,rfl,h1,hl,hn,h4⟩
theorem Ci {ms:List T} (h:ShV ms) (hl:0 < ms.length):ShV (ms.set 0 (.st (((T.sl ms).nth 0).fs.set 2 (.sl [.int 1])))):=by
 obtain ⟨h1,h2,h3,h4,h5⟩:=h;have e0:(T.sl ms).nth 0=ms[0]:=bh hl
 have hm:ms[0]∈ms:=List.getElem_mem hl
 rw[e0];have ek:aY (ms.set 0 (.st (ms[0].fs.set 2 (.sl [.int 1]))))=aY ms:=by
  obtain ⟨rs,fs,fr,e,_⟩:=h3 _ hm;rcases ms with _ | ⟨a,ms⟩
  ·cases hl
  ·have e:a=_:=e
   subst e;rfl
 have key : ∀{P:T→Prop},(∀x∈ms,P x)→P (.st (ms[0].fs.set 2 (.sl [.int 1])))→∀x∈ms.set 0 (.st (ms[0].fs.set 2 (.sl [.int 1]))),P x:=fun hp h0 x hx=>by
  rcases List.mem_or_eq_of_mem_set hx with hx | rfl
  ·exact hp x hx
  ·exact h0
 refine ⟨by rw[List.length_set];exact h1,by rw[ek];exact h2,by rw[ek];exact key h3 (A9 (h3 _ hm) (by simp) (dc 1)),key h4 ?_,key h5 ?_⟩
 ·have:=h4 _ hm
  generalize ms[0]=y at this ⊢
  cases this with
  | mk a b c d e=>exact .mk a b c (by rw[BBv];simp) (dc 1)
 ·have:=h5 _ hm
  obtain ⟨rs,fs,fr,e,_⟩:=h3 _ hm;generalize ms[0]=y at this e ⊢
  subst e;exact this
theorem mod3 {x:T} (h:kW BB x):T.st [x.fld 0,x.fld 1,x.fld 2]=x:=by cases h;rfl
theorem My {q:Nat} {ms:List T} {r:T} (h:ShV ms) (hrd:Rd (q+1) r):YP (fun k=>bif (decide ((ms.length:Int) > (1:Int))) then
 obind (cl env k aG [r, (T.int (3 : Int))]) fun r2 =>
 bif ((rt r2 0).i == (0 : Int)) then
 bif (decide (0 ≤ (0 : Int)) && decide (0 < ms.length)) then
 some [(T.put (T.sl ms) [.idx 0, .fld 2] (T.sl [(T.int (1 : Int))])), (rt (r2.drop 1) 0)]
 else
 none
 else
 some [(T.sl ms), (rt (r2.drop 1) 0)]
 else
 some [(T.sl ms), r]) (ve q) := by
 refine YP.ite (fun hc=>?_) (fun hc=>YP.some ⟨ms,r,rfl,hrd.less (by omega),h⟩)
 have hc:=of_decide_eq_true hc;refine YP.obind (bA hrd) ?_;rintro _ ⟨v,r1,rfl,hr1,_⟩;simp only[tnA];refine YP.ite (fun _=>?_) (fun _=>YP.some ⟨ms,r1,rfl,hr1,h⟩)
 have hl:0 < ms.length:=by omega
 exact YP.guard (by rw[decide_eq_true hl];rfl) (YP.some ⟨_,r1,rfl,hr1,Ci h hl⟩)
theorem shelf_0 {q:Nat} : ∀{d:Nat} {ms:List T} {r:T},ShV ms→Rd (q+1+4000 * d) r→YP (fun k=>da (hl env k dr) (.int (d:Int)) r (.sl ms)) (ve q):=by
 intro d;induction d with
 | zero=>
  intro ms r h hrd;refine YP.call ?_ (fun r h=>pm _ _ _ h)
  unfold RJ;simp only[tnA];exact YP.ff (decide_eq_false (by omega)) (My h hrd)
 | succ d ih=>
  intro ms r h hrd;refine YP.call ?_ (fun r h=>pm _ _ _ h)
  unfold RJ;simp only[tnA];refine YP.tt (decide_eq_true (by omega)) ?_
  refine YP.ite (fun hc=>?_) (fun hc=>My h (hrd.less (by omega)))
  have hc:=of_decide_eq_true hc;refine YP.obind (BD (q:=q+1+4000 * d) h (by omega) (hrd.less (by omega))) ?_
  rintro _ ⟨x,r1,rfl,hr1,hx,_⟩;simp only[tnA];have ex:T.st [x.fld 0,x.fld 1,x.fld 2]=x:=mod3 (hx.2.2.2.1 x (by simp))
  have em:IntKind.wrap .i64 (((d+1:Nat):Int) - 1)=(d:Int):=by obtain ⟨_,_,_,_,_,_,_⟩:=hrd;rw[bf (by omega) (by omega)];omega
  simp only[ex,em];refine YP.guard (decide_eq_true (by rw[bD];simp;omega)) ?_
  exact ih hx hr1
theorem ct_shelf {q:Nat} {r:T} (hrd:Rd (q+8003) r):YP (fun k=>cl env k mn [r]) (ve q):=by
 refine YP.call ?_ (fun r h=>wC _ h)
 unfold mE;refine YP.obind (bA (q:=q+8002) hrd) ?_;rintro _ ⟨v,r1,rfl,hr1,h0,h1,_⟩;simp only[tnA];have h1:=h1 (by omega)
 have fin : ∀{ms:List T},ShV ms→YP (fun k=>obind (cl env k aG [r1,(T.int (3:Int))]) fun r7=>da (hl env k dr) (rt r7 0) (rt (r7.drop 1) 0) (T.sl ms)) (ve q):=fun {ms} h=>by
  refine YP.obind (bA (q:=q+8001) (hr1.less (by omega))) ?_
  rintro _ ⟨w,r2,rfl,hr2,h2,h3,_⟩;simp only[tnA];have h3:=h3 (by omega)
  have ew:w=(w.toNat:Int):=by omega
  rw[ew];exact shelf_0 h (hr2.less (by omega))
 refine YP.ite (fun hc=>?_) (fun hc=>?_)
 ·refine YP.obind coins_ok ?_;rintro _ rfl;refine YP.obind AX ?_;rintro _ rfl;have e1 : ∀a b c:List T,T.st [(T.st [.sl a,.sl b,.sl c]).fld 0,(T.st [.sl a,.sl b,.sl c]).fld 1,(T.st [.sl a,.sl b,.sl c]).fld 2]=T.st [.sl a,.sl b,.sl c]:=fun _ _ _=>rfl
  have ec:T.st [aS.fld 0,aS.fld 1,aS.fld 2]=aS:=mod3 BC
  simp only[rt0,ec];refine YP.guard (decide_eq_true (by rw[bD];simp)) ?_
  refine YP.ite (fun hc=>?_) (fun hc=>fin yR)
  refine YP.obind games_ok ?_;rintro _ rfl;refine YP.obind Bh ?_;rintro _ rfl;have eg:T.st [aU.fld 0,aU.fld 1,aU.fld 2]=aU:=mod3 BP
  simp only[rt0,eg];refine YP.guard (decide_eq_true (by rw[bD];simp)) ?_
  exact fin zb
 ·have hc:=of_decide_eq_false hc;refine YP.ff (decide_eq_false (by omega)) ?_
  have h0:ShV []:=⟨by simp,⟨by simp[aY],fun m hm=>by simp[aY] at hm⟩,fun x hx=>absurd hx (by simp),fun x hx=>absurd hx (by simp),fun x hx=>absurd hx (by simp)⟩
  exact fin h0
def FnG (g:T):Prop:=∃(n:Int) (ags rs ls tk cd:List T),g = .st [.int n,.sl ags,.sl rs,.sl ls,.sl tk,.sl cd]∧ags.length≤10∧rs.length≤10∧ls.length≤10∧tk.length≤10∧cd.length≤1000∧
 (∀x∈ags,oI x)∧(∀x∈rs,oI x)∧(∀x∈ls,oI x)∧cz tk∧∀x∈cd,iz x
def MdG (x:T):Prop:=∃rs fs fr:List T,x = .st [.sl rs,.sl fs,.sl fr]∧rs.length≤4∧(∀x∈rs,hM 4 x)∧fs.length≤1000∧fr.length≤1000∧cz fr∧∀g∈fs,FnG g
def Cy (ms:List T):Prop:=ms.length≤3∧∀x∈ms,MdG x
theorem fng_of {ks:List T} {g:T} (h:FnV ks g):FnG g:=by
 obtain ⟨n,ags,rs,ls,tk,cd,rfl,l1,l2,l3,l4,l5,t1,t2,t3,t4,t5⟩:=h;have str : ∀{xs:List T},dL ks xs→∀x∈xs,oI x:=fun h x hx=>by
  obtain ⟨s,e,h⟩:=h x hx;exact ⟨s,e,by have:=nX h;omega⟩
 exact ⟨n,ags,rs,ls,tk,cd,rfl,l1,l2,l3,l4,l5,str t1,str t2,str t3,t4,t5⟩
theorem AO {ms:List T} (h:ShV ms) {i:Nat} (hi:i < ms.length):(((T.sl ms).nth i).fld 0).es.length≤3∧∀x∈(((T.sl ms).nth i).fld 0).es,hM 4 x:=by
 have hi':i < (aY ms).length:=by rw[qW];exact hi
 have e:(T.sl (aY ms)).nth i=((T.sl ms).nth i).fld 0:=by rw[bh hi',bh hi,ub hi' hi]
 have:=h.2.1.2 i hi'
 rw[← e];refine ⟨this.1,fun x hx=>?_⟩
 obtain ⟨j,hj,rfl⟩:=List.getElem_of_mem hx;have h2:=recv_r (this.2 j hj);generalize (T.sl (aY ms)).nth i=y at hj h2 ⊢
 cases y with
 | sl es=>rw[bh (es:=es) hj] at h2;exact h2
 | int=>cases hj
 | bool=>cases hj
 | str=>cases hj
 | st=>cases hj
 | fn=>cases hj
theorem any_of {ms:List T} (h:ShV ms):Cy ms:=by
 refine ⟨h.1,fun x hx=>?_⟩
 obtain ⟨i,hi,rfl⟩:=List.getElem_of_mem hx;have h2:=AO h hi;rw[bh hi] at h2;obtain ⟨rs,fs,fr,e,h3,h4,h5,h6⟩:=h.2.2.1 _ hx;rw[e] at h2 ⊢;exact ⟨rs,fs,fr,rfl,by have:=h2.1;exact Nat.le_succ_of_le this,h2.2,h3,h4,h5,fun g hg=>fng_of (h6 g hg)⟩
theorem xb {x:T} (h:oI x):tv x:=by obtain ⟨s,rfl,h⟩:=h;exact ⟨s,rfl,by rw[jZ];omega⟩
theorem fng_is {g:T} (h:FnG g):j5 BB g:=by
 obtain ⟨n,ags,rs,ls,tk,cd,rfl,l1,l2,l3,l4,l5,t1,t2,t3,t4,t5⟩:=h;refine .mk (by rw[BBv];omega) (by rw[BBv];omega) (by rw[BBv];omega) (by rw[BBv];omega) (by rw[BBv];omega) (fun x hx=>xb (t1 x hx)) (fun x hx=>xb (t2 x hx)) (fun x hx=>xb (t3 x hx)) t4 (fun x hx=>?_)
 obtain ⟨s,a,b,e,h1,_⟩:=t5 x hx;exact ⟨s,a,b,e,by rw[jZ];omega⟩
theorem mdg_is {x:T} (h:MdG x):kW BB x:=by
 obtain ⟨rs,fs,fr,rfl,h1,h2,h3,h4,h5,h6⟩:=h;exact .mk ⟨rs,rfl,by rw[BBv];omega,fun x hx=>zL (h2 x hx)⟩ (by rw[BBv];omega) (fun g hg=>fng_is (h6 g hg)) (by rw[BBv];omega) h5
theorem CO {ms:List T} (h:Cy ms) {i:Nat} (hi:i < ms.length):MdG ((T.sl ms).nth i):=by rw[bh hi];exact h.2 _ (List.getElem_mem _)
theorem md_at {x:T} (h:MdG x) {j:Nat} (hj:j < (x.fld 1).es.length):FnG ((x.fld 1).nth j):=by
 obtain ⟨rs,fs,fr,rfl,h1,h2,h3,h4,h5,h6⟩:=h;have hj:j < fs.length:=hj
 show FnG ((T.sl fs).nth j)
 rw[bh hj];exact h6 _ (List.getElem_mem _)
theorem An {ms:List T} (h:Cy ms) {i:Nat} {y:T} (hy:MdG y):Cy (ms.set i y):=by
 refine ⟨by rw[List.length_set];exact h.1,fun x hx=>?_⟩
 rcases List.mem_or_eq_of_mem_set hx with hx | rfl
 ·exact h.2 x hx
 ·exact hy
theorem md_fn {x g:T} (h:MdG x) (hg:FnG g) (j:Nat):MdG (.st (x.fs.set 1 (.sl ((x.fld 1).es.set j g)))):=by
 obtain ⟨rs,fs,fr,rfl,h1,h2,h3,h4,h5,h6⟩:=h;refine ⟨rs,fs.set j g,fr,rfl,h1,h2,by rw[List.length_set];exact h3,h4,h5,fun x hx=>?_⟩
 rcases List.mem_or_eq_of_mem_set hx with hx | rfl
 ·exact h6 x hx
 ·exact hg
theorem md_rec {x y:T} (h:MdG x) (hx:(x.fld 0).es.length≤3) (hy:hM 4 y):MdG (.st (x.fs.set 0 (.sl ((x.fld 0).es ++ [y])))):=by
 obtain ⟨rs,fs,fr,rfl,h1,h2,h3,h4,h5,h6⟩:=h;have hx:rs.length≤3:=hx
 refine ⟨rs ++ [y],fs,fr,rfl,by simp;omega,fun x hx=>?_,h3,h4,h5,h6⟩
 rcases List.mem_append.1 hx with hx | hx
 ·exact h2 x hx
 ·rw[List.mem_singleton.1 hx];exact hy
theorem AA {g:T} (h:FnG g) {l:List T} (hl:l.length≤1000) (hc : ∀x∈l,iz x):FnG (.st (g.fs.set 5 (.sl l))):=by
 obtain ⟨n,ags,rs,ls,tk,cd,rfl,l1,l2,l3,l4,l5,t1,t2,t3,t4,t5⟩:=h;exact ⟨n,ags,rs,ls,tk,l,rfl,l1,l2,l3,l4,hl,t1,t2,t3,t4,hc⟩
theorem fg_rets {g:T} (h:FnG g) {l:List T} (hl:l.length≤10) (hc : ∀x∈l,oI x):FnG (.st (g.fs.set 2 (.sl l))):=by
 obtain ⟨n,ags,rs,ls,tk,cd,rfl,l1,l2,l3,l4,l5,t1,t2,t3,t4,t5⟩:=h;exact ⟨n,ags,l,ls,tk,cd,rfl,l1,hl,l3,l4,l5,t1,hc,t3,t4,t5⟩
theorem fg_takes {g:T} (h:FnG g):FnG (.st (g.fs.set 4 (.sl []))):=by
 obtain ⟨n,ags,rs,ls,tk,cd,rfl,l1,l2,l3,l4,l5,t1,t2,t3,t4,t5⟩:=h;exact ⟨n,ags,rs,ls,[],cd,rfl,l1,l2,l3,by simp,l5,t1,t2,t3,bu,t5⟩
theorem fg_cd {g:T} (h:FnG g):(g.fld 5).es.length≤1000∧(∀x∈(g.fld 5).es,iz x):=by
 obtain ⟨n,ags,rs,ls,tk,cd,rfl,l1,l2,l3,l4,l5,t1,t2,t3,t4,t5⟩:=h;exact ⟨l5,t5⟩
def AnyR (q:Nat) (o:List T):Prop:=∃(ms:List T) (r':T),o = [.sl ms,r']∧Rd q r'∧Cy ms
theorem ct_any {q:Nat} {r:T} (hrd:Rd (q+8100) r):YP (fun k=>cl env k oG [r]) (AnyR q):=by
 refine YP.call ?_ (fun r h=>yB _ h)
 unfold oU;refine YP.obind (ct_shelf (q:=q+97) hrd) ?_;rintro _ ⟨ms,r1,rfl,hr1,hs⟩;have ha:=any_of hs;have hm3:=hs.1;refine YP.obind (bA (q:=q+96) hr1) ?_;rintro _ ⟨v,r2,rfl,hr2,_⟩;simp only[tnA];refine YP.ite (fun _=>YP.some ⟨ms,r2,rfl,hr2.less (by omega),ha⟩) (fun _=>?_)
 refine YP.ite (fun _=>YP.some ⟨ms,r2,rfl,hr2.less (by omega),ha⟩) (fun hz=>?_)
 have hz:0 < ms.length:=by
  rcases ms with _ | ⟨a,ms⟩
  ·cases hz
  ·simp
 refine YP.obind (bA (q:=q+95) hr2) ?_;rintro _ ⟨m,r3,rfl,hr3,m0,m1,_⟩;simp only[tnA];have m1:=m1 (by omega)
 obtain ⟨i,rfl⟩ : ∃i:Nat,m=i:=⟨m.toNat,by omega⟩
 have hi:i < ms.length:=by omega
 have gi:(decide (0≤(i:Int))&&decide ((i:Int).toNat < ms.length))=true:=by (simp <;> omega)
 simp only[tnA];have hmd:=CO ha hi;have hrl:=(AO hs hi).1;have hc5:=hs.2.2.2.2 _ (List.getElem_mem hi);rw[← bh hi] at hc5;have hfl:(((T.sl ms).nth i).fld 1).es.length≤1000:=by
  obtain ⟨_,_,_,e,_,_,h,_⟩:=hmd;rw[e];exact h
 obtain ⟨x,hx⟩ : ∃x,(T.sl ms).nth i=x:=⟨_,rfl⟩;rw[hx] at hmd hc5 hrl hfl;simp only[hx];refine YP.guard (by (simp <;> omega)) ?_
 refine YP.ite (fun _=>YP.some ⟨ms,r3,rfl,hr3.less (by omega),ha⟩) (fun hz=>?_)
 have hz:0 < (x.fld 1).es.length:=by
  rcases h:(x.fld 1).es with _ | ⟨a,l⟩
  ·rw[h] at hz;cases hz
  ·simp
 refine YP.guard (by (simp <;> omega)) ?_
 refine YP.obind (bA (q:=q+94) hr3) ?_;rintro _ ⟨w,r4,rfl,hr4,w0,w1,_⟩;simp only[tnA];have w1:=w1 (by omega)
 obtain ⟨j,rfl⟩ : ∃i:Nat,w=i:=⟨w.toNat,by omega⟩
 have hj:j < (x.fld 1).es.length:=by omega
 simp only[tnA];refine YP.guard (by (simp <;> omega)) (YP.guard (by (simp <;> omega)) ?_)
 have hg:=md_at hmd hj;have hgc:1≤(((x.fld 1).nth j).fld 5).es.length:=by
  have e:(x.fld 1).nth j=(x.fld 1).es[j]:=by simp[T.nth,hj]
  rw[e];exact hc5 _ (List.getElem_mem hj)
 have hcd:=fg_cd hg;obtain ⟨g,hgx⟩ : ∃g,(x.fld 1).nth j=g:=⟨_,rfl⟩;rw[hgx] at hg hgc hcd;simp only[hgx];have put : ∀{g':T},FnG g'→Cy (ms.set i (.st (x.fs.set 1 (.sl ((x.fld 1).es.set j g'))))):=fun h=>An ha (md_fn hmd h j)
 have pe : ∀n v,T.put (T.sl ms) [.idx i,.fld 1,.idx j,.fld n] v = .sl (ms.set i (.st (x.fs.set 1 (.sl ((x.fld 1).es.set j (.st (g.fs.set n v))))))):=fun n v=>by
  simp only[T.put,hx,hgx,te]
 refine YP.obind (bA (q:=q+93) hr4) ?_;rintro _ ⟨v,r5,rfl,hr5,_⟩;simp only[tnA];refine YP.ite (fun _=>?_) (fun _=>YP.ite (fun _=>?_) (fun _=>YP.ite (fun _=>?_) (fun _=>YP.ite (fun _=>?_) (fun _=>?_))))
 ·refine YP.obind (bA (q:=q+92) hr5) ?_;rintro _ ⟨u,r6,rfl,hr6,u0,u1,_⟩;simp only[tnA];have u1:=u1 (by omega)
  refine YP.obind (ct_ins (q:=q+89) hr6) ?_;rintro _ ⟨y,r7,rfl,hr7,hy⟩;simp only[tnA];refine YP.guard (by (simp <;> omega)) (YP.some ⟨_,r7,rfl,hr7.less (by omega),?_⟩)
  show Cy (ms.set i (.st (((T.sl ms).nth i).fs.set 1 (.sl ((((T.sl ms).nth i).fld 1).es.set j (.st (((((T.sl ms).nth i).fld 1).nth j).fs.set 5 (.sl ((((((T.sl ms).nth i).fld 1).nth j).fld 5).es.set u.toNat y)))))))))
  rw[hx,hgx];refine put (AA hg (by rw[List.length_set];exact hcd.1) (fun z hz=>?_))
  rcases List.mem_or_eq_of_mem_set hz with hz | rfl
  ·exact hcd.2 z hz
  ·exact hy
 ·have hcl:=hcd.1;have e1:IntKind.wrap .i64 (((g.fld 5).es.length:Int) - 1)=((g.fld 5).es.length:Int) - 1:=bf (by omega) (by omega)
  simp only[e1];refine YP.guard (by (simp <;> omega)) (YP.guard (by simp) (YP.some ⟨_,r5,by rw[pe],hr5.less (by omega),put (AA hg ?_ fun z hz=>?_)⟩))
  ·rw[List.length_take];omega
  ·exact hcd.2 z (List.mem_of_mem_take hz)
 ·exact YP.some ⟨_,r5,by rw[pe],hr5.less (by omega),put (fg_takes hg)⟩
 ·refine YP.obind (YP.of (Q:=fun o=>o = [.sl (aY ms)]) (tF ms (by rw[BBv];omega) hs.2.2.2.1) rfl) ?_
  rintro _ rfl;refine YP.obind (jM (tG hs.2.1) (n:=2) (q:=q+80) (by omega) (hr5.less (by omega))) ?_
  rintro _ ⟨ys,r6,rfl,hr6,l1,t1⟩;simp only[tnA];exact YP.some ⟨_,r6,by rw[pe],hr6.less (by omega),put (fg_rets hg (by omega) fun x hx=>AR (t1 x hx))⟩
 ·refine YP.guard (by (simp <;> omega)) ?_
  refine YP.obind (YP.of (Q:=fun o=>o = [.sl (aY ms)]) (tF ms (by rw[BBv];omega) hs.2.2.2.1) rfl) ?_
  rintro _ rfl;refine YP.obind (xJ (q:=q+60) (tG hs.2.1) (hr5.less (by omega))) ?_
  rintro _ ⟨y,r6,rfl,hr6,hy⟩;simp only[tnA];have ey:T.st [y.fld 0,y.fld 1]=y:=by obtain ⟨a,fs,rfl,_⟩:=hy;rfl
  simp only[ey];refine YP.guard (decide_eq_true (by rw[bD];simp;omega)) (YP.guard (by (simp <;> omega)) (YP.guard (by simp) (YP.some ⟨_,r6,rfl,hr6.less (by omega),?_⟩)))
  show Cy (ms.set i (.st (((T.sl ms).nth i).fs.set 0 (.sl ((x.fld 0).es ++ [y])))))
  rw[hx];exact An ha (md_rec hmd hrl hy)
theorem DV {i n:Nat} (h:i < n) (hn:n≤1048576):IntKind.wrap .i64 ((i:Int)+1)=((i+1:Nat):Int):=by rw[bf (by omega) (by omega)];rfl
theorem Yields.guard {b:Bool} {x:Nat→R} {r:List T} (hb:b=true) (h:Yields x r):Yields (fun k=>bif b then x k else Option.none) r:=Yields.tt hb h
def At3R (q:Nat) (o:List T):Prop:=∃(ms:List T) (m f:Int) (r':T),o = [.sl ms,.int m,.int f,r']∧Rd q r'∧Cy ms∧-1≤m∧m≤3∧0≤f∧f≤1001
theorem ct_at {q:Nat} {r:T} (hrd:Rd (q+8110) r):YP (fun k=>cl env k pO [r]) (At3R q):=by
 refine YP.call ?_ (fun r h=>A3 _ h)
 unfold pT;refine YP.obind (ct_any (q:=q+10) (hrd.less (by omega))) ?_
 rintro _ ⟨ms,r1,rfl,hr1,ha⟩;simp only[tnA];have hm3:=ha.1;have num : ∀{r:T},Rd (q+2) r→YP (fun k=>obind (cl env k dH [r,(T.sl [(T.int (0:Int)),(T.int (-1:Int)),(T.int (3:Int))])]) fun r2=>some [T.sl ms,(rt r2 0),(T.int (0:Int)),(rt (r2.drop 1) 0)]) (At3R q):=fun {r} h=>by
  refine YP.obind (vk (q:=q) (P:=fun x=>∃n:Int,x = .int n∧-1≤n∧n≤3) (h.less (by omega)) ?_ (by simp)) ?_
  ·intro x hx;simp only[List.mem_cons,List.not_mem_nil,or_false] at hx;rcases hx with rfl | rfl | rfl <;> exact ⟨_,rfl,by omega,by omega⟩
  ·rintro _ ⟨x,r2,rfl,hr2,n,rfl,n0,n1⟩;exact YP.some ⟨ms,n,0,r2,rfl,hr2,ha,n0,n1,by omega,by omega⟩
 refine YP.ite (fun _=>num (hr1.less (by omega))) (fun hz=>?_)
 have hz:0 < ms.length:=by
  rcases ms with _ | ⟨a,ms⟩
  ·cases hz
  ·simp
 refine YP.obind (bA (q:=q+9) hr1) ?_;rintro _ ⟨v,r2,rfl,hr2,_⟩;simp only[tnA];refine YP.ite (fun _=>num (hr2.less (by omega))) (fun _=>?_)
 refine YP.obind (bA (q:=q+8) hr2) ?_;rintro _ ⟨m,r3,rfl,hr3,m0,m1,_⟩;simp only[tnA];have m1:=m1 (by omega)
 refine YP.guard (by (simp <;> omega)) ?_
 have hfl:(((T.sl ms).nth m.toNat).fld 1).es.length≤1000:=by
  obtain ⟨_,_,_,e,_,_,h,_⟩:=CO ha (show m.toNat < ms.length by omega)
  rw[e];exact h
 rw[show IntKind.wrap .i64 (((((T.sl ms).nth m.toNat).fld 1).es.length:Int)+1)=((((T.sl ms).nth m.toNat).fld 1).es.length:Int)+1 from bf (by omega) (by omega)]
 refine YP.obind (bA (q:=q+7) hr3) ?_;rintro _ ⟨f,r4,rfl,hr4,f0,f1,_⟩;simp only[tnA];have f1:=f1 (by omega)
 exact YP.some ⟨ms,m,f,r4,rfl,hr4.less (by omega),ha,by omega,by omega,f0,by omega⟩
theorem Qu {ks xs:List T} (hx : ∀x∈xs,oI x) (hlen:xs.length≤1000):YP (fun k=>cl env k O9 [.sl ks,.sl xs]) (fun o=>∃b:Bool,o = [.bool b]∧(b=true→dL ks xs)):=by
 refine YP.of (types_s ks xs (fun x h=>xb (hx x h)) (by rw[jZ];omega)) ⟨_,rfl,fun h x hxm=>?_⟩
 rw[Bool.and_true] at h;obtain ⟨i,hi,rfl⟩:=List.getElem_of_mem hxm;have:=Qz h i (by omega) (by omega)
 obtain ⟨s,e,_⟩:=hx _ hxm;rw[bh hi,e] at this;exact ⟨s,e,this⟩
theorem Qv {ks xs:List T} {n:Nat} (h:dL ((ks.take n).drop 0) xs):dL ks xs:=by
 have:=xe (l:=ks.drop n) h
 rw[List.drop_zero,List.take_append_drop] at this;exact this
theorem fits_s {n m:Int} (h0:0≤m) (h1:m≤2000000):YP (fun k=>cl env k P1 [.int n,.int m]) po:=by
 refine YP.call ?_ (fun r h=>QG _ _ h)
 unfold Pw;simp only[tnA];refine YP.ite (fun _=>YP.some ⟨_,rfl⟩) (fun _=>?_)
 refine YP.obind (YP.of (Q:=fun o=>∃b:Bool,o = [.bool b]) (in_s n 0 _) ⟨_,rfl⟩) ?_
 rintro _ ⟨b,rfl⟩;exact YP.some ⟨b,rfl⟩
def NeedR (o:List T):Prop:=∃(x:T) (b:Bool),o = [x,.bool b]∧iz x
theorem Qn {s:ByteArray} {z:T} {xs:List T} (hx : ∀x∈xs,iz x) (hlen:xs.length≤1000) : ∀{d i:Nat},i+d=xs.length→YP (fun k=>OK (hl env k vF) (.str s) (.int (i:Int)) z (.sl xs)) NeedR
 | 0,i,hd=>by
  refine YP.call ?_ (fun r h=>PO _ _ _ _ h)
  unfold OI;simp only[tnA];exact YP.ff (decide_eq_false (by omega)) (YP.some ⟨_,false,rfl,⟨#[]⟩,0,0,rfl,by decide,by omega,by omega,by omega,by omega⟩)
 | d+1,i,hd=>by
  have hi:i < xs.length:=by omega
  refine YP.call ?_ (fun r h=>PO _ _ _ _ h)
  unfold OI;simp only[tnA];simp only[show (T.sl xs).nth i=xs[i] from bh hi]
  rw[show IntKind.wrap .i64 ((i:Int)+1)=((i+1:Nat):Int) by rw[bf (by omega) (by omega)];rfl]
  refine YP.tt (decide_eq_true (by omega)) (YP.guard (by (simp <;> omega)) (YP.ite (fun _=>YP.guard (by (simp <;> omega)) (YP.some ⟨_,true,rfl,hx _ (List.getElem_mem hi)⟩)) (fun _=>?_)))
  exact Qn hx hlen (d:=d) (i:=i+1) (by omega)
theorem ct_needs {s:ByteArray} : YP (fun k=>cl env k Pm [.str s]) NeedR:=by
 refine YP.call ?_ (fun r h=>Qw _ h)
 unfold Pp;refine YP.obind (YP.of (Q:=fun o=>o=_) QT rfl) ?_
 rintro _ rfl;simp only[tnA];rw[tab_sl];exact Qn (fun x hx=>xM (List.all_eq_true.1 QW x hx)) (by rw[QX];omega) (d:=pY.es.length) (i:=0) (by omega)
theorem ct_insOk {s:ByteArray} {a b:Int} : YP (fun k=>cl env k PJ [.st [.str s,.int a,.int b]]) po:=by
 refine YP.call ?_ (fun r h=>QP _ h)
 unfold PL;simp only[tnA];refine YP.obind ct_needs ?_;rintro _ ⟨x,c,rfl,w,u,v,rfl,_,u0,u1,v0,v1⟩;simp only[tnA];refine YP.ite (fun _=>?_) (fun _=>YP.some ⟨_,rfl⟩)
 refine YP.obind (fits_s u0 u1) ?_;rintro _ ⟨b1,rfl⟩;simp only[tnA];refine YP.ite (fun _=>?_) (fun _=>YP.some ⟨_,rfl⟩)
 refine YP.obind (fits_s v0 v1) ?_;rintro _ ⟨b2,rfl⟩;exact YP.some ⟨_,rfl⟩
theorem QB {cd:List T} (hx : ∀x∈cd,iz x) (hlen:cd.length≤1000) {m:Int} : ∀{d i:Nat},i+d=cd.length→YP (fun k=>Oy (hl env k Om) (.int m) (.sl cd) (.int (i:Int))) po
 | 0,i,hd=>by
  refine YP.call ?_ (fun r h=>PT _ _ _ h)
  unfold OO;simp only[tnA];refine YP.ff (decide_eq_false (by omega)) ?_
  refine YP.obind (YP.of (Q:=fun o=>∃b:Bool,o = [.bool b]) (in_s _ 1 40) ⟨_,rfl⟩) ?_
  rintro _ ⟨b,rfl⟩;exact YP.some ⟨b,rfl⟩
 | d+1,i,hd=>by
  have hi:i < cd.length:=by omega
  obtain ⟨s,a,b,e,_⟩:=hx _ (List.getElem_mem hi);have en:(T.sl cd).nth i = .st [.str s,.int a,.int b]:=by rw[bh hi,e]
  refine YP.call ?_ (fun r h=>PT _ _ _ h)
  unfold OO;simp only[tnA];simp only[en];simp only[tnA];rw[show IntKind.wrap .i64 ((i:Int)+1)=((i+1:Nat):Int) by rw[bf (by omega) (by omega)];rfl]
  refine YP.tt (decide_eq_true (by omega)) (YP.guard (by (simp <;> omega)) ?_)
  refine YP.obind ct_insOk ?_;rintro _ ⟨b1,rfl⟩;simp only[tnA];have next:=QB hx hlen (m:=m) (d:=d) (i:=i+1) (by omega)
  exact YP.ite (fun _=>YP.some ⟨_,rfl⟩) (fun _=>YP.guard (by (simp <;> omega)) (YP.ite (fun _=>YP.guard (by (simp <;> omega)) (YP.ite (fun _=>YP.some ⟨_,rfl⟩) (fun _=>next))) (fun _=>next)))
theorem ct_codeB {cd:List T} (hx : ∀x∈cd,iz x) (hlen:cd.length≤1000) {m:Int} : YP (fun k=>cl env k P2 [.int m,.sl cd]) po:=
 YP.call (QB hx hlen (d:=cd.length) (i:=0) (by omega)) (fun r h=>QH _ _ h)
theorem ct_funcV {ks:List T} {m:Nat} (hm:m < ks.length) (hkl:ks.length≤1000) (hkm:((T.sl ks).nth m).es.length≤1000) {g:T} (hg:FnG g):YP (fun k=>cl env k Pt [.sl ks,.int (m:Int),g]) (fun o=>∃b:Bool,o = [.bool b]∧(b=true→FnV ks g)):=by
 obtain ⟨n,ags,rs,ls,tk,cd,rfl,l1,l2,l3,l4,l5,t1,t2,t3,t4,t5⟩:=hg;refine YP.call ?_ (fun r h=>QI _ _ _ h)
 unfold P4;simp only[tnA];have no : ∀{P:Prop},∃b:Bool,[T.bool false] = [T.bool b]∧(b=true→P):=fun {P}=>⟨false,rfl,fun h=>Bool.noConfusion h⟩
 have e1:IntKind.wrap .i64 ((ags.length:Int)+(ls.length:Int))=(ags.length:Int)+ls.length:=bf (by omega) (by omega)
 have e2:IntKind.wrap .i64 ((m:Int)+1)=((m+1:Nat):Int):=by rw[bf (by omega) (by omega)];rfl
 have e3:IntKind.wrap .i64 ((((T.sl ks).nth m).es.length:Int) - 1)=(((T.sl ks).nth m).es.length:Int) - 1:=bf (by omega) (by omega)
 simp only[e1,e2,e3];simp only[tnA];refine YP.obind (YP.of (Q:=fun o=>o=_) (in_s n 0 2) rfl) ?_
 rintro _ rfl;simp only[tnA];refine YP.ite (fun _=>YP.some no) (fun _=>YP.ite (fun _=>YP.some no) (fun _=>YP.ite (fun _=>YP.some no) (fun _=>YP.ite (fun _=>YP.some no) (fun _=>?_))))
 refine YP.guard (by (simp <;> omega)) ?_
 refine YP.obind (Qu t1 (by omega)) ?_
 rintro _ ⟨b1,rfl,h1⟩;simp only[tnA];refine YP.ite (fun c1=>?_) (fun _=>YP.some no)
 refine YP.obind (Qu t2 (by omega)) ?_
 rintro _ ⟨b2,rfl,h2⟩;simp only[tnA];refine YP.ite (fun c2=>?_) (fun _=>YP.some no)
 refine YP.obind (Qu t3 (by omega)) ?_
 rintro _ ⟨b3,rfl,h3⟩;simp only[tnA];refine YP.ite (fun c3=>?_) (fun _=>YP.some no)
 refine YP.guard (by (simp <;> omega)) ?_
 refine YP.obind (YP.of (Q:=fun o=>∃b:Bool,o = [.bool b]) (QU tk t4 (by rw[jZ];omega) 0 _) ⟨_,rfl⟩) ?_
 rintro _ ⟨b4,rfl⟩;simp only[tnA];refine YP.ite (fun _=>?_) (fun _=>YP.some no)
 refine YP.obind (ct_codeB t5 (by omega)) ?_
 rintro _ ⟨b5,rfl⟩;exact YP.some ⟨b5,rfl,fun _=>⟨n,ags,rs,ls,tk,cd,rfl,l1,l2,l3,l4,l5,Qv (h1 c1),Qv (h2 c2),Qv (h3 c3),t4,t5⟩⟩
def ShpR (ms:List T) (o:List T):Prop:=∃b:Bool,o = [.bool b]∧(b=true→KOk (aY ms)∧∀x∈ms,oH (aY ms) x)
theorem Qo {ms:List T} : ShpR ms [.bool false]:=⟨false,rfl,fun h=>Bool.noConfusion h⟩
theorem QQ {ms:List T} {i:Nat} (hi:i < ms.length):(T.sl (aY ms)).nth i=((T.sl ms).nth i).fld 0:=by
 have hi':i < (aY ms).length:=by rw[qW];exact hi
 rw[bh hi',bh hi,ub hi' hi]
theorem QM {ms:List T} (ha:Cy ms):vc (aY ms):=by
 have hm3:=ha.1;refine ⟨by rw[qW];omega,fun m hm=>?_⟩
 rw[qW] at hm;rw[QQ hm];obtain ⟨rs,fs,fr,e,h1,h2,_⟩:=CO ha hm;rw[e];refine ⟨by show rs.length≤1000;omega,fun k hk=>?_⟩
 have hk:k < rs.length:=hk
 show hM 4 ((T.sl rs).nth k)
 rw[bh hk];exact h2 _ (List.getElem_mem _)
theorem shp_1 {ms:List T} (ha:Cy ms) {i:Nat} (hi:i < ms.length) {rs fs fr:List T} (e:(T.sl ms).nth i = .st [.sl rs,.sl fs,.sl fr]) (hfl:fs.length≤1000) (hg : ∀g∈fs,FnG g)
  (next:(∀g∈fs,FnV (aY ms) g)→YP (fun k=>Of (hl env k NY) (.sl ms) (.int ((i+1:Nat):Int)) (.sl (aY ms))) (ShpR ms)) :
  ∀{d j:Nat},j+d=fs.length→(∀t (h:t < fs.length),t < j→FnV (aY ms) fs[t])→YP (fun k=>Ou (hl env k NY) (.sl ms) (.int (i:Int)) (.int (j:Int)) (.sl (aY ms))) (ShpR ms):=by
 have hm3:=ha.1;intro d;induction d with
 | zero=>
  intro j hd hj;refine YP.call ?_ (fun r h=>Pk _ _ _ _ h)
  unfold Ot;simp only[tnA];simp only[e];simp only[tnA];rw[show IntKind.wrap .i64 ((i:Int)+1)=((i+1:Nat):Int) by rw[bf (by omega) (by omega)];rfl]
  refine YP.guard (by (simp <;> omega)) (YP.ff (decide_eq_false (by omega)) (next fun g hgm=>?_))
  obtain ⟨t,ht,rfl⟩:=List.getElem_of_mem hgm;exact hj t ht (by omega)
 | succ d ih=>
  intro j hd hj;have hjl:j < fs.length:=by omega
  have hkn:=QM ha;have hik:i < (aY ms).length:=by rw[qW];exact hi
  have en:(T.sl fs).nth j=fs[j]:=bh hjl
  refine YP.call ?_ (fun r h=>Pk _ _ _ _ h)
  unfold Ot;simp only[tnA];simp only[e];simp only[tnA];simp only[en];rw[show IntKind.wrap .i64 ((j:Int)+1)=((j+1:Nat):Int) by rw[bf (by omega) (by omega)];rfl]
  refine YP.guard (by (simp <;> omega)) (YP.tt (decide_eq_true (by omega)) (YP.guard (by (simp <;> omega)) (YP.guard (by (simp <;> omega)) ?_)))
  refine YP.obind (ct_funcV hik hkn.1 (hkn.2 i hik).1 (hg _ (List.getElem_mem hjl))) ?_;rintro _ ⟨b,rfl,hb⟩;simp only[tnA];refine YP.ite (fun _=>YP.some Qo) (fun hc=>?_)
  have hb:FnV (aY ms) fs[j]:=hb (by cases b with | true=>rfl | false=>cases hc)
  refine ih (by omega) (fun t ht htj=>?_)
  by_cases e:t=j
  ·subst e;exact hb
  ·exact hj t ht (by omega)
theorem shp_0 {ms:List T} (ha:Cy ms) (hk:KOk (aY ms)) : ∀{d i:Nat},i+d=ms.length→(∀t (h:t < ms.length),t < i→oH (aY ms) ms[t])→YP (fun k=>Of (hl env k NY) (.sl ms) (.int (i:Int)) (.sl (aY ms))) (ShpR ms):=by
 have hm3:=ha.1;intro d;induction d with
 | zero=>
  intro i hd hi;refine YP.call ?_ (fun r h=>Pj _ _ _ h)
  unfold Oq;simp only[tnA];refine YP.ff (decide_eq_false (by omega)) (YP.some ⟨true,rfl,fun _=>⟨hk,fun x hx=>?_⟩⟩)
  obtain ⟨t,ht,rfl⟩:=List.getElem_of_mem hx;exact hi t ht (by omega)
 | succ d ih=>
  intro i hd hi;have hil:i < ms.length:=by omega
  obtain ⟨rs,fs,fr,e,h1,h2,h3,h4,h5,h6⟩:=CO ha hil;refine YP.call ?_ (fun r h=>Pj _ _ _ h)
  unfold Oq;simp only[tnA];simp only[e];simp only[tnA];refine YP.tt (decide_eq_true (by omega)) (YP.guard (by (simp <;> omega)) (YP.ite (fun _=>YP.some Qo) (fun _=>YP.guard (by (simp <;> omega)) ?_)))
  refine YP.obind (YP.of (Q:=fun o=>∃b:Bool,o = [.bool b]) (QU fr h5 (by rw[jZ];omega) _ _) ⟨_,rfl⟩) ?_
  rintro _ ⟨b,rfl⟩;simp only[tnA];refine YP.ite (fun _=>YP.some Qo) (fun _=>?_)
  refine shp_1 ha hil e h3 h6 (fun hall=>ih (by omega) (fun t ht hti=>?_)) (d:=fs.length) (j:=0) (by omega) (fun t _ h=>by omega)
  by_cases et:t=i
  ·subst et;have:ms[t] = .st [.sl rs,.sl fs,.sl fr]:=by rw[← e,bh ht]
   rw[this];exact ⟨rs,fs,fr,rfl,h3,h4,h5,hall⟩
  ·exact hi t ht (by omega)
theorem R4 {ms:List T} (ha:Cy ms):YP (fun k=>cl env k OZ [.sl ms]) (ShpR ms):=by
 have hm3:=ha.1;refine YP.call ?_ (fun r h=>Qb _ h)
 unfold P0;refine YP.obind (YP.of (Q:=fun o=>o=_) (tF ms (by rw[BBv];omega) (fun x hx=>mdg_is (ha.2 x hx))) rfl) ?_
 rintro _ rfl;refine YP.obind (B0 (QM ha)) ?_;rintro _ ⟨b,rfl,hb⟩;simp only[tnA];refine YP.ite (fun _=>YP.some Qo) (fun hc=>?_)
 exact shp_0 ha (hb (by cases b with | true=>rfl | false=>cases hc)) (d:=ms.length) (i:=0) (by omega) (fun t _ h=>by omega)
theorem wt {s t:ByteArray} {xs ys:List T} (hxy:xs.length=ys.length) (hlen:xs.length≤1000000) : ∀{d i:Nat},i+d=xs.length→YP (fun k=>OR (hl env k On) (.int (i:Int)) (.st [.str s,.sl xs]) (.st [.str t,.sl ys])) po
 | 0,i,hd=>by
  refine YP.call ?_ (fun r h=>PU _ _ _ h)
  unfold OP;simp only[tnA];exact YP.ff (decide_eq_false (by omega)) (YP.some ⟨_,rfl⟩)
 | d+1,i,hd=>by
  refine YP.call ?_ (fun r h=>PU _ _ _ h)
  unfold OP;simp only[tnA];refine YP.tt (decide_eq_true (by omega)) (YP.guard (by (simp <;> omega)) (YP.guard (by (simp <;> omega)) (YP.ite (fun _=>YP.some ⟨_,rfl⟩) (fun _=>?_))))
  rw[show IntKind.wrap .i64 ((i:Int)+1)=((i+1:Nat):Int) by rw[bf (by omega) (by omega)];rfl]
  exact wt hxy hlen (d:=d) (i:=i+1) (by omega)
theorem ct_mark {ks ks':List T} {x y:T} (hx:MkP ks x) (hy:MkP ks' y):YP (fun k=>cl env k Pu [x,y]) po:=by
 obtain ⟨s,is,rfl,_,h1,_⟩:=hx;obtain ⟨t,js,rfl,_,h2,_⟩:=hy;refine YP.call ?_ (fun r h=>QJ _ _ h)
 unfold Px;simp only[tnA];refine YP.ite (fun _=>YP.some ⟨_,rfl⟩) (fun _=>YP.ite (fun _=>YP.some ⟨_,rfl⟩) (fun hc=>?_))
 have hc:(is.length:Int)=js.length:=bne_eq_false_iff_eq.1 hc
 exact wt (xs:=is) (ys:=js) (by omega) (by omega) (d:=is.length) (i:=0) (by omega)
theorem R6 {ks ks' xs ys:List T} (hx : ∀x∈xs,MkP ks x) (hy : ∀x∈ys,MkP ks' x) (hxy:xs.length=ys.length) (hlen:xs.length≤1000000) : ∀{d i:Nat},i+d=xs.length→YP (fun k=>OS (hl env k Oo) (.sl xs) (.sl ys) (.int (i:Int))) po
 | 0,i,hd=>by
  refine YP.call ?_ (fun r h=>PV _ _ _ h)
  unfold OQ;simp only[tnA];exact YP.ff (decide_eq_false (by omega)) (YP.some ⟨_,rfl⟩)
 | d+1,i,hd=>by
  have hi:i < xs.length:=by omega
  have hi2:i < ys.length:=by omega
  refine YP.call ?_ (fun r h=>PV _ _ _ h)
  unfold OQ;simp only[tnA];refine YP.tt (decide_eq_true (by omega)) (YP.guard (by (simp <;> omega)) (YP.guard (by (simp <;> omega)) ?_))
  simp only[show (T.sl xs).nth i=xs[i] from bh hi,show (T.sl ys).nth i=ys[i] from bh hi2]
  refine YP.obind (ct_mark (hx _ (List.getElem_mem hi)) (hy _ (List.getElem_mem hi2))) ?_;rintro _ ⟨b,rfl⟩;simp only[tnA];refine YP.ite (fun _=>YP.some ⟨_,rfl⟩) (fun _=>?_)
  rw[show IntKind.wrap .i64 ((i:Int)+1)=((i+1:Nat):Int) by rw[bf (by omega) (by omega)];rfl]
  exact R6 hx hy hxy hlen (d:=d) (i:=i+1) (by omega)
theorem QO {ks ks' xs ys:List T} (hx : ∀x∈xs,MkP ks x) (hy : ∀x∈ys,MkP ks' x) (hlen:xs.length≤1000000):YP (fun k=>cl env k P3 [.sl xs,.sl ys]) po:=by
 refine YP.call ?_ (fun r h=>QK _ _ h)
 unfold Py;simp only[tnA];refine YP.ite (fun _=>YP.some ⟨_,rfl⟩) (fun hc=>?_)
 have hc:(xs.length:Int)=ys.length:=bne_eq_false_iff_eq.1 hc
 exact R6 (xs:=xs) (ys:=ys) hx hy (by omega) hlen (d:=xs.length) (i:=0) (by omega)
theorem Qh {c:Cx} (hc:co c):c.np≤20:=by
 obtain ⟨n,ags,rs,ls,tk,cd,e,e2⟩:=hc.np;obtain ⟨n',ags',rs',ls',tk',cd',e',l1,_,l3,_⟩:=hc.f;rw[e] at e';cases e';omega
theorem ct_sameS {c:Cx} (hc:co c) {a b:T} (ha:ShI c a) (hb:ShI c b):YP (fun k=>cl env k OH [a,b]) po:=by
 obtain ⟨st,pl,rfl,l1,l2,h1,h2⟩:=ha;obtain ⟨st',pl',rfl,l1',l2',h1',h2'⟩:=hb;have:=Qh hc
 refine YP.call ?_ (fun r h=>Qk _ _ h)
 unfold P5;simp only[tnA];refine YP.obind (QO (fun x hx=>(h1 x hx).p) (fun x hx=>(h1' x hx).p) (by omega)) ?_
 rintro _ ⟨b,rfl⟩;simp only[tnA];refine YP.ite (fun _=>?_) (fun _=>YP.some ⟨_,rfl⟩)
 refine YP.obind (QO h2 h2' (by omega)) ?_
 rintro _ ⟨b,rfl⟩;exact YP.some ⟨_,rfl⟩
structure Pn (c:Cx) (n:Nat) (sh kn dn:List T):Prop where
 sl:sh.length=n
 kl:kn.length=n
 dl:dn.length=n
 kb : ∀k,k < n→∃b:Bool,(T.sl kn).nth k = .bool b∧(b=true→ShI c ((T.sl sh).nth k))
 db : ∀x∈dn,∃b:Bool,x = .bool b
 k0:(T.sl kn).nth 0 = .bool true
theorem PI {xs:List T} {i j:Nat} {v:T} (hi:i < xs.length):(T.sl (xs.set i v)).nth j=if i=j then v else (T.sl xs).nth j:=by
 by_cases hj:j < xs.length
 ·rw[bh (by rw[List.length_set];exact hj),List.getElem_set]
  split
  ·rfl
  ·rw[bh hj]
 ·rw[if_neg (by omega)]
  simp[T.nth,T.es,hj]
theorem Pn.know {c:Cx} {n:Nat} {sh kn dn:List T} (h:Pn c n sh kn dn) {k:Nat} (hk:k < n) {s:T} (hs:ShI c s):Pn c n (sh.set k s) (kn.set k (.bool true)) dn:=by
 refine ⟨by rw[List.length_set];exact h.sl,by rw[List.length_set];exact h.kl,h.dl,fun j hj=>?_,h.db,?_⟩
 ·rw[PI (by rw[h.kl];exact hk),PI (by rw[h.sl];exact hk)]
  by_cases e:k=j
  ·rw[if_pos e,if_pos e];exact ⟨true,rfl,fun _=>hs⟩
  ·rw[if_neg e,if_neg e];exact h.kb j hj
 ·rw[PI (by rw[h.kl];exact hk)]
  split
  ·rfl
  ·exact h.k0
def RunR (c:Cx) (n:Nat) (dn:List T) (o:List T):Prop:=∃(code:Int) (sh kn:List T),o = [.int code,.st [.sl sh,.sl kn,.sl dn]]∧Pn c n sh kn dn
theorem go_loop {c:Cx} (hc:co c) {n:Nat} (hn:n≤1000) {dn xs:List T} {s:T} (hs:ShI c s) (hx : ∀x∈xs,∃v:Int,x = .int v∧0≤v) (hxl:xs.length≤1000) : ∀{d i:Nat} {sh kn:List T},i+d=xs.length→Pn c n sh kn dn→
  YP (fun k=>O5 (hl env k NX) (.sl xs) (.int (i:Int)) (.st [.sl sh,.sl kn,.sl dn]) s) (RunR c n dn):=by
 intro d;induction d with
 | zero=>
  intro i sh kn hd hr;refine YP.call ?_ (fun r h=>Pl _ _ _ _ h)
  unfold Oe;simp only[tnA];exact YP.ff (decide_eq_false (by omega)) (YP.some ⟨_,sh,kn,rfl,hr⟩)
 | succ d ih=>
  intro i sh kn hd hr;have hi:i < xs.length:=by omega
  obtain ⟨v,ev,v0⟩:=hx _ (List.getElem_mem hi);have en:(T.sl xs).nth i = .int v:=by rw[bh hi,ev]
  have ei:IntKind.wrap .i64 ((i:Int)+1)=((i+1:Nat):Int):=by rw[bf (by omega) (by omega)];rfl
  have hsl:=hr.sl;have hkl:=hr.kl;refine YP.call ?_ (fun r h=>Pl _ _ _ _ h)
  unfold Oe;simp only[tnA];simp only[en,ei];simp only[tnA];refine YP.tt (decide_eq_true (by omega)) (YP.guard (by (simp <;> omega)) (YP.ite (fun _=>YP.some ⟨_,sh,kn,rfl,hr⟩) (fun hc9=>?_)))
  have hc9:=of_decide_eq_false hc9;obtain ⟨j,rfl⟩ : ∃j:Nat,v=j:=⟨v.toNat,by omega⟩
  have hj:j < n:=by omega
  simp only[tnA];have e1:T.put (.st [.sl sh,.sl kn,.sl dn]) [.fld 1,.idx j] (.bool true) = .st [.sl sh,.sl (kn.set j (.bool true)),.sl dn]:=rfl
  have e2 : ∀w:T,T.put (.st [.sl sh,.sl (kn.set j (.bool true)),.sl dn]) [.fld 0,.idx j] w = .st [.sl (sh.set j w),.sl (kn.set j (.bool true)),.sl dn]:=fun w=>rfl
  simp only[e1,e2];simp only[tnA];obtain ⟨b,eb,hb⟩:=hr.kb j hj;simp only[eb];simp only[tnA];have hsh:YP (fun k=>cl env k nd [s]) (fun o=>o = [s]):=by
   have:=Qh hc
   obtain ⟨st,pl,rfl,l1,l2,h1,h2⟩:=id hs;exact YP.of (QV (ks:=c.ks) (by omega) (fun x hx=>(h1 x hx).p) (by omega) h2) rfl
  have es:T.st [s.fld 0,s.fld 1]=s:=by obtain ⟨st,pl,rfl,_⟩:=hs;rfl
  have fin:YP (fun k=>obind (cl env k nd [s]) fun r2=>bif (decide (0≤(j:Int))&&decide (j < sh.length)) then O5 (hl env k NX) (.sl xs) (.int ((i+1:Nat):Int)) (.st [.sl (sh.set j (T.st [((rt r2 0).fld 0),((rt r2 0).fld 1)])),.sl (kn.set j (.bool true)),.sl dn]) s else none) (RunR c n dn):=by
   refine YP.obind hsh ?_;rintro _ rfl;simp only[tnA];simp only[es];exact YP.guard (by (simp <;> omega)) (ih (by omega) (hr.know hj hs))
  refine YP.guard (by (simp <;> omega)) (YP.ite (fun hk=>?_) (fun _=>fin))
  refine YP.guard (by (simp <;> omega)) ?_
  refine YP.obind (ct_sameS hc (hb hk) hs) ?_;rintro _ ⟨b',rfl⟩;simp only[tnA];exact YP.ite (fun _=>YP.some ⟨_,sh,kn,rfl,hr⟩) (fun _=>fin)
theorem ct_goes {s:ByteArray} {a b:Int} (ha:0≤a) {i:Nat} (hi:i≤1000):YP (fun k=>cl env k Pv [.st [.str s,.int a,.int b],.int (i:Int)]) (fun o=>∃xs:List T,o = [.sl xs]∧xs.length≤1000∧∀x∈xs,∃v:Int,x = .int v∧0≤v):=by
 refine YP.call ?_ (fun r h=>QL _ _ h)
 unfold Pz;simp only[tnA];have ei:IntKind.wrap .i64 ((i:Int)+1)=(i:Int)+1:=bf (by omega) (by omega)
 simp only[ei];refine YP.ite (fun _=>YP.some ⟨_,rfl,by simp,fun x hx=>⟨a,List.mem_singleton.1 hx,ha⟩⟩) (fun _=>YP.ite (fun _=>YP.some ⟨_,rfl,by simp,fun x hx=>?_⟩) (fun _=>YP.ite (fun _=>YP.some ⟨_,rfl,by simp,fun x hx=>by cases hx⟩) (fun _=>YP.ite (fun _=>YP.some ⟨_,rfl,by simp,fun x hx=>by cases hx⟩) (fun _=>YP.some ⟨_,rfl,by simp,fun x hx=>⟨_,List.mem_singleton.1 hx,by omega⟩⟩))))
 simp only[List.mem_cons,List.not_mem_nil,or_false] at hx;rcases hx with rfl | rfl
 ·exact ⟨_,rfl,by omega⟩
 ·exact ⟨_,rfl,ha⟩
def LeastR (n:Nat) (run:T) (kn dn:List T) (o:List T):Prop:=o = [.int (-1),run]∨∃i:Nat,i < n∧o = [.int (i:Int),run]∧(T.sl kn).nth i = .bool true∧(T.sl dn).nth i = .bool false
theorem QY {c:Cx} {n:Nat} (hn:n≤1000) {sh kn dn:List T} (hr:Pn c n sh kn dn) : ∀{d i:Nat},i+d=n→YP (fun k=>Od (hl env k Ob) (.int (i:Int)) (.st [.sl sh,.sl kn,.sl dn])) (LeastR n (.st [.sl sh,.sl kn,.sl dn]) kn dn):=by
 have hkl:=hr.kl;have hdl:=hr.dl;intro d;induction d with
 | zero=>
  intro i hd;refine YP.call ?_ (fun r h=>Pg _ _ h)
  unfold Ol;simp only[tnA];exact YP.ff (decide_eq_false (by omega)) (YP.some (Or.inl rfl))
 | succ d ih=>
  intro i hd;have ei:IntKind.wrap .i64 ((i:Int)+1)=((i+1:Nat):Int):=by rw[bf (by omega) (by omega)];rfl
  obtain ⟨b,eb,_⟩:=hr.kb i (by omega)
  obtain ⟨b',eb'⟩:=hr.db _ (List.getElem_mem (show i < dn.length by omega))
  have ed:(T.sl dn).nth i = .bool b':=by rw[bh (by omega),eb']
  refine YP.call ?_ (fun r h=>Pg _ _ h)
  unfold Ol;simp only[tnA];simp only[eb,ed,ei];simp only[tnA];refine YP.tt (decide_eq_true (by omega)) (YP.guard (by (simp <;> omega)) (YP.ite (fun hb=>YP.guard (by (simp <;> omega)) (YP.ite (fun hb'=>?_) (fun _=>ih (by omega)))) (fun _=>ih (by omega))))
  refine YP.some (Or.inr ⟨i,by omega,rfl,by rw[eb];exact congrArg T.bool hb,?_⟩)
  rw[ed];cases b' with
  | false=>rfl
  | true=>cases hb'
def VerR (c:Cx) (n:Nat) (o:List T):Prop:=∃(a code:Int) (sh kn dn:List T),o = [.st [.sl sh,.sl kn,.sl dn],.int a,.int code]∧Pn c n sh kn dn
theorem ver_end {c:Cx} {n:Nat} {sh kn dn:List T} (hr:Pn c n sh kn dn) {x1 x2 x3 x5:T} : YP (fun k=>Oa (hl env k O0) (cl env k) x1 x2 x3 (.int (-1)) x5 (.st [.sl sh,.sl kn,.sl dn])) (VerR c n):=by
 unfold Oa;simp only[tnA];exact YP.ff rfl (YP.some ⟨_,_,sh,kn,dn,rfl,hr⟩)
theorem ver_loop {c:Cx} (hc:co c) {n:Nat} (hn:n≤1000) {cd:List T} (ef:c.f.fld 5 = .sl cd) (hcd:cd.length=n) (hi : ∀x∈cd,iz x) : ∀{d i:Nat} {sh kn dn:List T},dn.countP (fun t=>!t.b)≤d→i < n→Pn c n sh kn dn→(T.sl kn).nth i = .bool true→(T.sl dn).nth i = .bool false→
  YP (fun k=>Oa (hl env k O0) (cl env k) (.sl c.sh) (.sl c.ks) (.int (c.m:Int)) (.int (i:Int)) c.f (.st [.sl sh,.sl kn,.sl dn])) (VerR c n):=by
 intro d;induction d with
 | zero=>
  intro i sh kn dn hd hin hr hk hdn;have hil:i < dn.length:=by rw[hr.dl];exact hin
  rw[bh hil] at hdn;have:=List.countP_eq_zero.1 (Nat.le_zero.1 hd) _ (List.getElem_mem hil)
  rw[hdn] at this;exact absurd rfl this
 | succ d ih=>
  intro i sh kn dn hd hin hr hk hdn;have hil:i < dn.length:=by rw[hr.dl];exact hin
  have hsl:=hr.sl;have hkl:=hr.kl;have hdl:=hr.dl;have hdn':dn[i] = .bool false:=by rw[bh hil] at hdn;exact hdn
  have hcnt:(dn.set i (.bool true)).countP (fun t=>!t.b)≤d:=by
   rw[List.countP_set hil,hdn'];have:0 < dn.countP (fun t=>!t.b):=List.countP_pos_iff.2 ⟨_,List.getElem_mem hil,by rw[hdn'];rfl⟩
   show dn.countP (fun t=>!t.b) - 1+0≤d
   omega
  have hr':Pn c n sh kn (dn.set i (.bool true)):=⟨hr.sl,hr.kl,by rw[List.length_set];exact hr.dl,hr.kb,fun x hx=>by
   rcases List.mem_or_eq_of_mem_set hx with hx | rfl
   ·exact hr.db x hx
   ·exact ⟨true,rfl⟩,hr.k0⟩
  obtain ⟨b,eb,hb⟩:=hr.kb i hin;rw[hk] at eb;have hsi:ShI c ((T.sl sh).nth i):=hb (by cases eb;rfl)
  have hic:i < cd.length:=by omega
  have hins:=hi _ (List.getElem_mem hic);have enc:(T.sl cd).nth i=cd[i]:=bh hic
  unfold Oa;simp only[tnA];have e1:T.put (.st [.sl sh,.sl kn,.sl dn]) [.fld 2,.idx i] (.bool true) = .st [.sl sh,.sl kn,.sl (dn.set i (.bool true))]:=rfl
  simp only[e1,ef,enc];simp only[tnA];have cont : ∀{sh' kn':List T},Pn c n sh' kn' (dn.set i (.bool true))→YP (fun k=>obind (cl env k Ow [.st [.sl sh',.sl kn',.sl (dn.set i (.bool true))]]) fun r4=>OB (hl env k O0) (.sl c.sh) (.sl c.ks) (.int (c.m:Int)) (rt r4 0) c.f (rt (r4.drop 1) 0)) (VerR c n):=fun {sh' kn'} h=>by
   refine YP.obind (YP.call (QY hn h (d:=n) (i:=0) (by omega)) (fun r h=>Q9 _ h)) ?_
   rintro _ (rfl | ⟨j,hj,rfl,h1,h2⟩)
   ·exact YP.call (ver_end h) (fun r h=>PG _ _ _ _ _ _ h)
   ·exact YP.call (ih hcnt hj h h1 h2) (fun r h=>PG _ _ _ _ _ _ h)
  refine YP.tt (decide_eq_true (by omega)) (YP.guard (by (simp <;> omega)) (YP.guard (by (simp <;> omega)) (YP.guard (by (simp <;> omega)) ?_)))
  refine YP.obind (xI hc hsi hins) ?_;rintro _ ⟨t,code,rfl,hcode⟩;simp only[tnA];refine YP.ite (fun h0=>YP.guard (by (simp <;> omega)) ?_) (fun _=>YP.ite (fun _=>YP.some ⟨_,_,sh,kn,_,rfl,hr'⟩) (fun _=>cont hr'))
  have ht:=hcode (eq_of_beq h0);have et:T.st [t.fld 0,t.fld 1]=t:=by obtain ⟨st,pl,rfl,_⟩:=ht;rfl
  obtain ⟨w,x,y,ei,_,x0,_⟩:=hins;rw[ei];refine YP.obind (ct_goes x0 (i:=i) (by omega)) ?_
  rintro _ ⟨xs,rfl,hxl,hxs⟩;simp only[tnA];simp only[et];refine YP.obind (YP.call (go_loop hc hn ht hxs hxl (d:=xs.length) (i:=0) (by omega) hr') (fun r h=>Qc _ _ _ h)) ?_
  rintro _ ⟨code',sh',kn',rfl,hr2⟩;simp only[tnA];exact YP.ite (fun _=>YP.some ⟨_,_,sh',kn',_,rfl,hr2⟩) (fun _=>cont hr2)
theorem R5 {c:Cx} (hc:co c) {cd:List T} (ef:c.f.fld 5 = .sl cd) (h0:0 < cd.length) (hn:cd.length≤1000) (hi : ∀x∈cd,iz x):YP (fun k=>cl env k ON [.sl c.sh,.sl c.ks,.int (c.m:Int),c.f]) (VerR c cd.length):=by
 refine YP.call ?_ (fun r h=>Qq _ _ _ _ h)
 unfold Pb;simp only[tnA];simp only[ef];simp only[tnA];have g1:(decide (0≤(cd.length:Int))&&(decide ((cd.length:Int)≤(cd.length:Int))&&decide (cd.length≤LIM)))=true:=by rw[bD];(simp <;> omega)
 have g2:(decide (0≤(0:Int))&&decide (0 < (List.replicate cd.length (T.bool false)).length))=true:=by rw[List.length_replicate];(simp <;> omega)
 have g3:(decide (0≤(0:Int))&&decide (0 < (List.replicate cd.length (T.st [(T.sl []),(T.sl [])])).length))=true:=by rw[List.length_replicate];(simp <;> omega)
 refine YP.guard g1 (YP.guard g1 (YP.guard g1 (YP.guard g2 ?_)));refine YP.obind (QN hc) ?_;rintro _ ⟨s,rfl,hs⟩;simp only[tnA];refine YP.guard g3 ?_;have es:T.st [s.fld 0,s.fld 1]=s:=by obtain ⟨st,pl,rfl,_⟩:=hs;rfl
 simp only[es];have nr : ∀{v:T} {k:Nat},k < cd.length→(T.sl (List.replicate cd.length v)).nth k=v:=fun {v k} hk=>by rw[bh (by rw[List.length_replicate];exact hk),List.getElem_replicate]
 have hr0:Pn c cd.length ((List.replicate cd.length (T.st [(T.sl []),(T.sl [])])).set 0 s) ((List.replicate cd.length (T.bool false)).set 0 (.bool true)) (List.replicate cd.length (T.bool false)):=by
  refine ⟨by simp,by simp,by simp,fun k hk=>?_,fun x hx=>⟨false,(List.mem_replicate.1 hx).2⟩,?_⟩
  ·rw[PI (by simp;exact h0),PI (by simp;exact h0)]
   by_cases e:0=k
   ·rw[if_pos e,if_pos e];exact ⟨true,rfl,fun _=>hs⟩
   ·rw[if_neg e,nr hk];exact ⟨false,rfl,fun h=>Bool.noConfusion h⟩
  ·rw[PI (by simp;exact h0)];rfl
 refine YP.call (ver_loop hc hn ef rfl hi (d:=cd.length) (i:=0) (Nat.le_trans List.countP_le_length (by simp)) h0 hr0 hr0.k0 (nr h0)) (fun r h=>Qd _ _ _ _ _ _ h)
theorem YP.yields {x:Nat→R} {r:List T} (h:YP x (fun o=>o=r)):Yields x r:=by
 obtain ⟨_,h,rfl⟩:=h;exact h
theorem YP.run {x:Nat→R} {K:Nat→List T→R} {r:List T} {Q:List T→Prop} (h:Yields x r) (h2:YP (fun k=>K k r) Q):YP (fun k=>Ra.obind (x k) (K k)) Q:=
 YP.obind (YP.of (Q:=fun o=>o=r) h rfl) (by rintro _ rfl;exact h2)
def JG (bs:List T):Prop:=∀x∈bs,∃v:Int,x = .int v∧0≤v∧v≤255
def MkG (x:T):Prop:=∃(s:ByteArray) (is:List T),x = .st [.str s,.sl is]∧is.length≤1000∧Rk is∧(s.size=0∨∃ks,cK ks s=true)
def ShG (s:T):Prop:=∃st pl:List T,s = .st [.sl st,.sl pl]∧st.length≤1000∧pl.length≤1000∧(∀x∈st,MkG x)∧(∀x∈pl,MkG x)
theorem no_mk : ∀x∈([]:List T),MkG x:=fun x h=>by cases h
theorem shg_nil:ShG (.st [.sl [],.sl []]):=⟨[],[],rfl,by simp,by simp,no_mk,no_mk⟩
theorem shg_of {c:Cx} (hc:co c) {s:T} (h:ShI c s):ShG s:=by
 obtain ⟨st,pl,rfl,l1,l2,h1,h2⟩:=h;have:=Qh hc
 refine ⟨st,pl,rfl,by omega,by omega,fun x hx=>?_,fun x hx=>?_⟩
 ·obtain ⟨s,is,e,ho,hl,ht⟩:=h1 x hx;exact ⟨s,is,e,hl,ho,.inr ⟨_,ht⟩⟩
 ·obtain ⟨s,is,e,ho,hl,ht⟩:=h2 x hx;exact ⟨s,is,e,hl,ho,ht.imp id fun h=>⟨_,h⟩⟩
def ShpD (q:Nat) (o:List T):Prop:=∃s r':T,o = [s,r']∧Rd q r'∧ShG s
theorem at_loop {c:Cx} (hc:co c) {n:Nat} (hn:n≤1000) {sh kn dn:List T} (hr:Pn c n sh kn dn) {q:Nat} {z:T} : ∀{i:Nat} {r:T},i < n→Rd (q+1) r→YP (fun k=>Oi (hl env k Oc) (.int (i:Int)) r z (.st [.sl sh,.sl kn,.sl dn])) (ShpD q):=by
 have hsl:=hr.sl;have hkl:=hr.kl;have fin : ∀{i:Nat} {r:T},i < n→(T.sl kn).nth i = .bool true→Rd (q+1) r→∀(L:List T) (g1:Bool) (S:T),L=(((T.sl sh).nth i).fld 0).es→S = .st (((T.sl sh).nth i).fs.set 0 (.sl ((L.take L.length).drop 1)))→g1=(decide ((1:Int)≤(L.length:Int))&&(decide ((L.length:Int)≤(L.length:Int))&&decide ((L.length:Int)≤(L.length:Int))))→
   YP (fun k=>obind (cl env k aG [r,(T.int (10:Int))]) fun r1=>bif ((rt r1 0).i==(0:Int)) then bif (decide ((L.length:Int) > (0:Int))) then bif (decide (0≤(1:Int))&&g1) then some [(T.st [(S.fld 0),(S.fld 1)]),(rt (r1.drop 1) 0)] else none
    else some [(T.sl sh).nth i,(rt (r1.drop 1) 0)] else some [(T.sl sh).nth i,(rt (r1.drop 1) 0)]) (ShpD q):=by
  intro i r hi hk hrd L g1 S hL hS hg;obtain ⟨b,eb,hb⟩:=hr.kb i hi;rw[hk] at eb;have hs:=shg_of hc (hb (by cases eb;rfl))
  obtain ⟨st,pl,e,l1,l2,h1,h2⟩:=id hs;rw[e] at hL hS;have hL:L=st:=hL
  subst hL;refine YP.obind (bA hrd) ?_;rintro _ ⟨v,r1,rfl,hr1,_⟩;simp only[tnA];refine YP.ite (fun _=>YP.ite (fun hc1=>?_) (fun _=>YP.some ⟨_,r1,rfl,hr1,hs⟩)) (fun _=>YP.some ⟨_,r1,rfl,hr1,hs⟩)
  have hc1:=of_decide_eq_true hc1;refine YP.guard (by rw[hg];(simp <;> omega)) (YP.some ⟨_,r1,rfl,hr1,?_⟩)
  rw[hS];refine ⟨(L.take L.length).drop 1,pl,rfl,?_,l2,fun x hx=>h1 x (List.mem_of_mem_take (List.mem_of_mem_drop hx)),h2⟩
  rw[List.length_drop,List.length_take];omega
 intro i;induction i with
 | zero=>
  intro r hi hrd;refine YP.call ?_ (fun r h=>PH _ _ _ _ h)
  unfold OA;refine YP.ff (decide_eq_false (by show ¬((0:Nat):Int) > 0;omega)) (YP.guard (by show (decide (0≤((0:Nat):Int))&&decide (((0:Nat):Int).toNat < sh.length))=true;(simp <;> omega)) ?_)
  exact fin hi hr.k0 hrd _ _ _ rfl rfl rfl
 | succ i ih=>
  intro r hi hrd;obtain ⟨b,eb,hb⟩:=hr.kb (i+1) hi;refine YP.call ?_ (fun r h=>PH _ _ _ _ h)
  unfold OA;refine YP.tt (decide_eq_true (by show ((i+1:Nat):Int) > 0;omega)) (YP.guard (by show (decide (0≤((i+1:Nat):Int))&&decide (((i+1:Nat):Int).toNat < kn.length))=true;(simp <;> omega)) ?_)
  refine YP.ite (fun _=>?_) (fun hk=>YP.guard (by show (decide (0≤((i+1:Nat):Int))&&decide (((i+1:Nat):Int).toNat < sh.length))=true;(simp <;> omega)) ?_)
  ·show YP (fun k=>Oi (hl env k Oc) (.int (IntKind.wrap .i64 (((i+1:Nat):Int) - 1))) r z (.st [.sl sh,.sl kn,.sl dn])) (ShpD q)
   rw[show IntKind.wrap .i64 (((i+1:Nat):Int) - 1)=(i:Int) by rw[bf (by omega) (by omega)];omega]
   exact ih (by omega) hrd
  ·have hk:(!((T.sl kn).nth (i+1)).b)=false:=hk
   rw[eb] at hk;have hbt:b=true:=by cases b with | true=>rfl | false=>cases hk
   rw[hbt] at eb;exact fin hi eb hrd _ _ _ rfl rfl rfl
theorem QZ {q:Nat} {ms:List T} (ha:Cy ms) {r:T} (hrd:Rd (q+2) r) (m f:Int):YP (fun k=>cl env k Ox [r,.sl ms,.int m,.int f]) (ShpD q):=by
 have hm3:=ha.1;refine YP.call ?_ (fun r h=>Qr _ _ _ _ h)
 unfold Pc;refine YP.obind (R4 ha) ?_;rintro _ ⟨b,rfl,hb⟩;have none:YP (fun _=>some [(T.st [(T.sl []),(T.sl [])]),r]) (ShpD q):=YP.some ⟨_,r,rfl,hrd.less (by omega),shg_nil⟩
 refine YP.ite (fun _=>none) (fun hc=>?_)
 have hbt:b=true:=by cases b with | true=>rfl | false=>cases hc
 obtain ⟨hk,hms⟩:=hb hbt;refine YP.obind (ct_has (by omega) hms) ?_
 rintro _ ⟨b2,rfl,hb2⟩;refine YP.ite (fun _=>none) (fun hc2=>?_)
 obtain ⟨m0,hi,f0,hj⟩:=hb2 (by cases b2 with | true=>rfl | false=>cases hc2)
 obtain ⟨i,rfl⟩ : ∃i:Nat,m=i:=⟨m.toNat,by omega⟩
 obtain ⟨j,rfl⟩ : ∃j:Nat,f=j:=⟨f.toNat,by omega⟩
 rw[Int.toNat_natCast] at hi;rw[Int.toNat_natCast,Int.toNat_natCast] at hj;obtain ⟨g,hg⟩ : ∃g,(((T.sl ms).nth i).fld 1).nth j=g:=⟨_,rfl⟩;obtain ⟨rs,fs,fr,e,hfl,_,_,hfn⟩:=zv hms hi;have gi:(decide (0≤(i:Int))&&decide ((i:Int).toNat < ms.length))=true:=by (simp <;> omega)
 have gj:(decide (0≤(j:Int))&&decide ((j:Int).toNat < (((T.sl ms).nth i).fld 1).es.length))=true:=by (simp <;> omega)
 have hgf:FnV (aY ms) g:=by
  rw[e] at hg hj;have hj:j < fs.length:=hj
  have hg:(T.sl fs).nth j=g:=hg
  rw[bh hj] at hg;rw[← hg];exact hfn _ (List.getElem_mem hj)
 obtain ⟨n,ags,rts,ls,tk,cd,eg,l1,l2,l3,l4,l5,_,_,_,_,hcd⟩:=id hgf;let c:Cx:=⟨ms,aY ms,i,g,ags.length+ls.length⟩
 have hcx:co c:=⟨hk,by show i < (aY ms).length;rw[qW];exact hi,hgf,⟨n,ags,rts,ls,tk,cd,eg,rfl⟩,by show ms.length≤1000;omega,hms⟩
 refine YP.guard gi (YP.guard gj ?_);show YP (fun k=>bif (((((((T.sl ms).nth i).fld 1).nth j).fld 5).es.length:Int)==(0:Int)) then _ else _) _
 rw[hg];have ecd:g.fld 5 = .sl cd:=by rw[eg];rfl
 refine YP.ite (fun _=>none) (fun hz=>?_)
 have hz:0 < cd.length:=by
  rw[ecd] at hz;rcases cd with _ | ⟨a,l⟩
  ·cases hz
  ·simp
 refine YP.run (tF ms (by rw[BBv];omega) (fun x hx=>mdg_is (ha.2 x hx))) (YP.guard gi (YP.guard gj ?_))
 have hv:=R5 hcx ecd hz l5 hcd;show YP (fun k=>obind (cl env k ON [.sl ms,.sl (aY ms),.int (i:Int),(((T.sl ms).nth i).fld 1).nth j]) fun r4=>_) _
 rw[hg];refine YP.obind hv ?_;rintro _ ⟨a,code,sh,kn,dn,rfl,hr⟩;have hkl:=hr.kl;refine YP.obind (bA (q:=q+1) (n:=(kn.length:Int)) hrd) ?_;rintro _ ⟨w,r1,rfl,hr1,w0,w1,_⟩;have w1:=w1 (by omega)
 obtain ⟨t,rfl⟩ : ∃t:Nat,w=t:=⟨w.toNat,by omega⟩
 exact at_loop hcx l5 hr (by omega) hr1
theorem S2 {s u:ByteArray} (h:s.data.toList=u.data.toList):s=u:=by
 obtain ⟨a⟩:=s;obtain ⟨b⟩:=u;have:a=b:=Array.ext' h
 rw[this]
theorem S8 (s u:ByteArray):(s++u).data.toList=s.data.toList++u.data.toList:=by rw[ByteArray.data_append,Array.toList_append]
theorem Rx (s:ByteArray):s.size=s.data.toList.length:=by obtain ⟨⟨l⟩⟩:=s;rfl
def Ss (n:Nat):ByteArray:=⟨(Lib.decDigits n).toArray⟩
theorem SM {n:Nat} (h:n≤9223372036854775807):(Ss n).size≤21:=by
 have:=Lib.itoa_length_le (n:Int) (by omega) (by omega)
 rw[Lib.itoa_nonneg] at this;rw[Rx];exact this
theorem Tw {d:Nat} (h:d < 10):(⟨([(T.int (IntKind.wrap .u8 (IntKind.wrap .i64 ((48:Int)+(d:Int)))))].map fun c=>UInt8.ofNat c.i.toNat).toArray⟩:ByteArray)=⟨#[UInt8.ofNat (48+d)]⟩:=by
 rw[bf (by omega) (by omega),wrap8 (by omega) (by omega)]
 show (⟨#[UInt8.ofNat ((48:Int)+(d:Int)).toNat]⟩:ByteArray)=_
 rw[show ((48:Int)+(d:Int)).toNat=48+d by omega]
theorem dec_s : ∀n:Nat,n≤1000000000→Yields (fun k=>cl env k dE [.int (n:Int)]) [.str (Ss n)]:=by
 intro n;induction n using Nat.strongRecOn with
 | _ n ih=>
  intro hn;refine A2 _ (Yields.ff (decide_eq_false (by show ¬(n:Int) < -9223372036854775807;omega)) (Yields.ff (decide_eq_false (by show ¬(n:Int) < 0;omega)) (Yields.ite (fun e=>?_) (fun e=>Yields.tt rfl ?_))))
  ·have e:(n:Int) < 10:=of_decide_eq_true e
   show Yields (fun _=>some [T.str (⟨([(T.int (IntKind.wrap .u8 (IntKind.wrap .i64 ((48:Int)+(n:Int)))))].map fun c=>UInt8.ofNat c.i.toNat).toArray⟩:ByteArray)]) _
   rw[Tw (by omega)]
   have:Ss n=⟨#[UInt8.ofNat (48+n)]⟩:=by unfold Ss;rw[Lib.decDigits_one (by omega)]
   rw[this];exact Yields.some _
  ·have e : ¬(n:Int) < 10:=of_decide_eq_false e
   have hd:(n:Int).tdiv 10=((n / 10:Nat):Int):=by rw[Int.tdiv_eq_ediv_of_nonneg (by omega)];rfl
   have hm:(n:Int).tmod 10=((n % 10:Nat):Int):=by rw[Int.tmod_eq_emod_of_nonneg (by omega)];rfl
   have hrec:=ih (n / 10) (by omega) (by omega)
   have hw:IntKind.wrap .i64 ((n:Int).tdiv 10)=((n / 10:Nat):Int):=by rw[hd,bf (by omega) (by omega)]
   have e1:(⟨([(T.int (IntKind.wrap .u8 (IntKind.wrap .i64 ((48:Int)+((n:Int).tmod (10:Int))))))].map fun c=>UInt8.ofNat c.i.toNat).toArray⟩:ByteArray)=⟨#[UInt8.ofNat (48+n % 10)]⟩:=by rw[hm];exact Tw (by omega)
   show Yields (fun k=>obind (cl env k dE [(T.int (IntKind.wrap .i64 ((n:Int).tdiv (10:Int))))]) fun r1=>
    bif (decide (((rt r1 0).s).size+(⟨([(T.int (IntKind.wrap .u8 (IntKind.wrap .i64 ((48:Int)+((n:Int).tmod (10:Int))))))].map fun c=>UInt8.ofNat c.i.toNat).toArray⟩:ByteArray).size≤LIM)) then
    some [(T.str (((rt r1 0).s)++(⟨([(T.int (IntKind.wrap .u8 (IntKind.wrap .i64 ((48:Int)+((n:Int).tmod (10:Int))))))].map fun c=>UInt8.ofNat c.i.toNat).toArray⟩:ByteArray)))] else none) _
   rw[hw,e1];refine Yields.obind hrec (Yields.tt (decide_eq_true ?_) ?_)
   ·have:=SM (n:=n / 10) (by omega)
    show (Ss (n / 10)).size+1≤LIM
    unfold LIM;omega
   ·have:Ss (n / 10)++⟨#[UInt8.ofNat (48+n % 10)]⟩=Ss n:=by
     apply S2
     rw[S8];show Lib.decDigits (n / 10) ++ [UInt8.ofNat (48+n % 10)]=Lib.decDigits n
     rw[Lib.decDigits.eq_def n,dif_neg (by omega)]
    show Yields (fun _=>some [T.str (Ss (n / 10)++⟨#[UInt8.ofNat (48+n % 10)]⟩)]) _
    rw[this];exact Yields.some _
theorem dec_i {n:Nat} (hn:n≤1000000000):Yields (fun k=>cl env k SL [.int (n:Int)]) [.str (Ss n)]:=by
 refine Yields.told (g:=itoaT) rfl ?_;show (bif decide (-9223372036854775808≤(n:Int))&&decide ((n:Int)≤9223372036854775807) then some [T.str ⟨(Lib.itoa (n:Int)).toArray⟩] else none)=_
 rw[decide_eq_true (by omega : -9223372036854775808≤(n:Int)),decide_eq_true (by omega:(n:Int)≤9223372036854775807),Lib.itoa_nonneg];rfl
def SF (us:List ByteArray):ByteArray:=⟨(Lib.join (us.map (·.data.toList)) [32]).toArray⟩
theorem TX (us:List ByteArray) (u:ByteArray):SF (us ++ [u])=if us = [] then u else SF us++⟨#[32]⟩++u:=by
 apply S2
 cases us with
 | nil=>rw[if_pos rfl];show Lib.join [u.data.toList] [32]=_;rw[Lib.join_one]
 | cons a l=>
  rw[if_neg (by simp),S8,S8]
  show Lib.join (a.data.toList :: (l ++ [u]).map (·.data.toList)) [32]=Lib.join (a.data.toList :: l.map (·.data.toList)) [32] ++ [32]++u.data.toList
  rw[Lib.join_cons,Lib.join_cons,List.map_append];simp[Lib.joinTail]
def SB:List ByteArray→Nat
 | []=>0
 | u :: l=>u.size+1+SB l
theorem T5 : ∀(a b:List ByteArray),SB (a++b)=SB a+SB b
 | [],b=>by simp[SB]
 | u :: l,b=>by have:=T5 l b;simp only[List.cons_append,SB];omega
theorem TW (us:List ByteArray):(SF us).size≤SB us:=by
 have key : ∀(n:Nat) (us:List ByteArray),us.length=n→(SF us).size≤SB us:=by
  intro n;induction n with
  | zero=>
   intro us h;have:us = []:=List.length_eq_zero_iff.1 h
   subst this;exact Nat.le_refl _
  | succ n ih=>
   intro us h;have hne:us≠[]:=by intro e;rw[e] at h;simp at h
   obtain ⟨l,u,rfl⟩ : ∃l u,us=l ++ [u]:=⟨us.dropLast,us.getLast hne,(List.dropLast_concat_getLast hne).symm⟩;have:=ih l (by simpa using h)
   rw[TX,T5];simp only[SB];split
   ·omega
   ·rw[ByteArray.size_append,ByteArray.size_append];have:(⟨#[32]⟩:ByteArray).size=1:=rfl
    omega
 exact key _ us rfl
theorem join_t {us:List ByteArray} (hl:us.length≤1000000000) (hs:SB us≤4294967296):Yields (fun k=>cl env k S6 [.sl (us.map .str),.str ⟨#[32]⟩]) [.str (SF us)]:=by
 refine Yields.told (g:=joinT) rfl ?_;have hm:(us.map T.str).map (fun x=>x.s.data.toList)=us.map (·.data.toList):=by rw[List.map_map];rfl
 show (bif decide ((us.map T.str).length≤1000000000)&&decide ((Lib.join ((us.map T.str).map fun x=>x.s.data.toList) [32]).length≤4294967296) then some [T.str ⟨(Lib.join ((us.map T.str).map fun x=>x.s.data.toList) [32]).toArray⟩] else none)=_
 rw[hm,List.length_map];have h1:(Lib.join (us.map (·.data.toList)) [32]).length≤4294967296:=by
  have:=TW us
  rw[Rx] at this;have h2:(SF us).data.toList.length=(Lib.join (us.map (·.data.toList)) [32]).length:=rfl
  omega
 rw[decide_eq_true hl,decide_eq_true h1];rfl
theorem dd_ten {n:Nat} (h : ¬n < 10):Lib.decDigits n=Lib.decDigits (n / 10) ++ [UInt8.ofNat (48+n % 10)]:=by rw[Lib.decDigits.eq_def n,dif_neg h]
theorem Tg {d:Nat} (h:d < 10):(UInt8.ofNat (48+d)).toNat=48+d:=by
 rw[UInt8.toNat_ofNat'];omega
theorem dd_char : ∀n:Nat,∀c∈Lib.decDigits n,48≤c.toNat∧c.toNat≤57:=by
 intro n;induction n using Nat.strongRecOn with
 | _ n ih=>
  by_cases h:n < 10
  ·rw[Lib.decDigits_one h];intro c hc;rw[List.mem_singleton.1 hc,Tg h];omega
  ·rw[dd_ten h];intro c hc;rcases List.mem_append.1 hc with hc | hc
   ·exact ih (n / 10) (by omega) c hc
   ·rw[List.mem_singleton.1 hc,Tg (by omega)];omega
theorem dd_val : ∀n:Nat,(Lib.decDigits n).foldl (fun a c=>a * 10+(c.toNat - 48)) 0=n:=by
 intro n;induction n using Nat.strongRecOn with
 | _ n ih=>
  by_cases h:n < 10
  ·rw[Lib.decDigits_one h,List.foldl_cons,List.foldl_nil,Tg h];omega
  ·rw[dd_ten h,List.foldl_append,ih (n / 10) (by omega),List.foldl_cons,List.foldl_nil,Tg (by omega)];omega
theorem dd_inj {n m:Nat} (h:Lib.decDigits n=Lib.decDigits m):n=m:=by rw[← dd_val n,← dd_val m,h]
def spL (c:UInt8) (ws:List (List UInt8)):List UInt8:=(ws.map fun w=>c :: w).flatten
theorem TQ (c:UInt8):spL c [] = []:=rfl
theorem Sh (c:UInt8) (w:List UInt8) (ws:List (List UInt8)):spL c (w :: ws)=c :: w++spL c ws:=rfl
theorem T1 (c:UInt8) (a b:List (List UInt8)):spL c (a++b)=spL c a++spL c b:=by unfold spL;rw[List.map_append,List.flatten_append]
theorem SA {c:UInt8} {ws:List (List UInt8)} : spL c ws = []∨∃l,spL c ws=c :: l:=by
 cases ws with
 | nil=>exact .inl rfl
 | cons w ws=>exact .inr ⟨_,rfl⟩
theorem Tv {c:UInt8} : ∀{w u x y:List UInt8},c ∉ w→c ∉ u→(x = []∨∃l,x=c :: l)→(y = []∨∃l,y=c :: l)→w++x=u++y→w=u∧x=y
 | [],[],_,_,_,_,_,_,h=>⟨rfl,h⟩
 | [],b :: u,x,y,_,hu,hx,_,h=>by
  rcases hx with rfl | ⟨l,rfl⟩
  ·cases h
  ·rw[List.nil_append,List.cons_append] at h;injection h with h1 _
   exact absurd (by rw[h1];exact List.mem_cons_self) hu
 | a :: w,[],x,y,hw,_,_,hy,h=>by
  rcases hy with rfl | ⟨l,rfl⟩
  ·cases h
  ·rw[List.nil_append,List.cons_append] at h;injection h with h1 _
   exact absurd (by rw[← h1];exact List.mem_cons_self) hw
 | a :: w,b :: u,x,y,hw,hu,hx,hy,h=>by
  rw[List.cons_append,List.cons_append] at h;injection h with h1 h2
  obtain ⟨e1,e2⟩:=Tv (fun m=>hw (List.mem_cons_of_mem _ m)) (fun m=>hu (List.mem_cons_of_mem _ m)) hx hy h2
  exact ⟨by rw[h1,e1],e2⟩
theorem Tk {c:UInt8} : ∀{a b:List (List UInt8)},(∀w∈a,c ∉ w)→(∀w∈b,c ∉ w)→spL c a=spL c b→a=b
 | [],[],_,_,_=>rfl
 | [],_ :: _,_,_,h=>by cases h
 | _ :: _,[],_,_,h=>by cases h
 | w :: a,u :: b,ha,hb,h=>by
  rw[Sh,Sh,List.cons_append,List.cons_append] at h;injection h with _ h
  obtain ⟨e1,e2⟩:=Tv (ha w List.mem_cons_self) (hb u List.mem_cons_self) SA SA h;rw[e1,Tk (fun x hx=>ha x (List.mem_cons_of_mem _ hx)) (fun x hx=>hb x (List.mem_cons_of_mem _ hx)) e2]
def tyC (c:UInt8):Prop:=c.toNat=33∨c.toNat=38∨(48≤c.toNat∧c.toNat≤57)∨c.toNat=83∨c.toNat=98∨c.toNat=110∨c.toNat=111
theorem TV {s:ByteArray} (h:dw s=true) : ∀c∈s.data.toList,tyC c:=by
 unfold dw at h;have key : ∀n:UInt8,(s.toList==(⟨#[n]⟩:ByteArray).toList)=true→s.data.toList = [n]:=fun n h=>by
  have h:=eq_of_beq h;rw[ByteArray.toList_eq,ByteArray.toList_eq] at h;exact h
 rw[Bool.or_eq_true,Bool.or_eq_true] at h;intro c hc;rcases h with h | h | h <;> rw[key _ h] at hc <;> rw[List.mem_singleton.1 hc] <;> unfold tyC <;> decide
theorem TY {s:ByteArray} {i j:Nat} (h:O6 s=some (i,j)) : ∀c∈s.data.toList,tyC c:=by
 unfold O6 at h;split at h
 ·next hh=>
  obtain ⟨h0,h1,h2,h3,h4,h5⟩:=hh;obtain ⟨⟨l⟩⟩:=s;have hl:l.length=3:=h0
  match l,hl with
  | [a,b,d],_=>
   have h1:a.toNat=83:=h1
   have h2:48≤b.toNat:=h2
   have h3:b.toNat≤57:=h3
   have h4:48≤d.toNat:=h4
   have h5:d.toNat≤57:=h5
   intro c hc;have hc:c∈[a,b,d]:=hc
   unfold tyC;simp only[List.mem_cons,List.not_mem_nil,or_false] at hc;rcases hc with rfl | rfl | rfl <;> omega
 ·cases h
theorem T4 {ks:List T} {s:ByteArray} (h:cW ks s=true) : ∀c∈s.data.toList,tyC c:=by
 unfold cW at h;rw[Bool.or_eq_true] at h;rcases h with h | h
 ·exact TV h
 ·unfold nQ at h;cases hk:O6 s with
  | none=>rw[hk] at h;cases h
  | some x=>obtain ⟨i,j⟩:=x;exact TY hk
theorem To {ks:List T} {s:ByteArray} (h:cK ks s=true) : ∀c∈s.data.toList,tyC c:=by
 unfold cK ofB at h;cases hr:O8 s with
 | false=>rw[hr] at h;exact T4 h
 | true=>
  rw[hr] at h;have h:=T4 h;obtain ⟨⟨l⟩⟩:=s;unfold O8 at hr;rw[Bool.and_eq_true,Bool.or_eq_true] at hr;cases l with
  | nil=>cases hr.1
  | cons a l=>
   have h2:a.toNat=38∨a.toNat=33:=hr.2.imp eq_of_beq eq_of_beq
   intro c hc;rcases List.mem_cons.1 hc with rfl | hc
   ·unfold tyC;omega
   ·refine h c ?_;have e:(ByteArray.extract ⟨⟨a :: l⟩⟩ 1 (ByteArray.mk ⟨a :: l⟩).size).data.toList=l:=by simp[ByteArray.data_extract,ByteArray.size]
    show c∈(ByteArray.extract ⟨⟨a :: l⟩⟩ 1 (ByteArray.mk ⟨a :: l⟩).size).data.toList
    rw[e];exact hc
def Rj (s:ByteArray):List UInt8:=if s.size=0 then [45] else s.data.toList
def Ro (x:T):List UInt8:=Lib.decDigits x.i.toNat
def Rc (x:T):List UInt8:=Rj (x.fld 0).s++spL 46 ((x.fld 1).es.map Ro)
theorem Tn (x:T) : ∀c∈Ro x,48≤c.toNat∧c.toNat≤57:=dd_char _
theorem U3 {s:ByteArray} (h:s.size=0∨∃ks,cK ks s=true) : ∀c∈Rj s,c.toNat=45∨tyC c:=by
 unfold Rj;split
 ·intro c hc;rw[List.mem_singleton.1 hc];exact .inl rfl
 ·next hs=>
  rcases h with h | ⟨ks,h⟩
  ·exact absurd h hs
  ·exact fun c hc=>.inr (To h c hc)
theorem Ti {s:ByteArray} (h:s.size=0∨∃ks,cK ks s=true) {n:UInt8} (hn:n.toNat=32∨n.toNat=46∨n.toNat=124∨n.toNat=10):n ∉ Rj s:=fun hm=>by
 have:=U3 h _ hm
 unfold tyC at this;omega
theorem name_inj {s u:ByteArray} (hs:s.size=0∨∃ks,cK ks s=true) (hu:u.size=0∨∃ks,cK ks u=true) (h:Rj s=Rj u):s=u:=by
 have no : ∀{v:ByteArray},(∃ks,cK ks v=true)→v.data.toList≠[45]:=fun {v} ⟨ks,hv⟩ e=>by
  have:=To hv 45 (by rw[e];exact List.mem_cons_self)
  unfold tyC at this;have h45:(45:UInt8).toNat=45:=rfl
  omega
 have h0 : ∀{v:ByteArray},v.size=0→v=⟨#[]⟩:=fun {v} h=>S2 (by rw[Rx] at h;exact List.length_eq_zero_iff.1 h)
 unfold Rj at h;split at h <;> split at h
 ·next a b=>rw[h0 a,h0 b]
 ·next a b=>exact absurd h.symm (no (hu.resolve_left b))
 ·next a b=>exact absurd h (no (hs.resolve_left a))
 ·exact S2 h
theorem dots_no {xs:List T} {n:UInt8} (hn:n.toNat=32∨n.toNat=124∨n.toNat=10):n ∉ spL 46 (xs.map Ro):=by
 induction xs with
 | nil=>exact fun h=>by cases h
 | cons x xs ih=>
  rw[List.map_cons,Sh,List.cons_append];intro h;rcases List.mem_cons.1 h with rfl | h
  ·have:(46:UInt8).toNat=46:=rfl
   omega
  ·rcases List.mem_append.1 h with h | h
   ·have:=Tn x _ h;omega
   ·exact ih h
theorem mark_no {x:T} (h:MkG x) {n:UInt8} (hn:n.toNat=32∨n.toNat=124∨n.toNat=10):n ∉ Rc x:=by
 obtain ⟨s,is,rfl,_,_,hs⟩:=h;intro hm;rcases List.mem_append.1 hm with hm | hm
 ·exact Ti hs (by omega) hm
 ·exact dots_no hn hm
theorem nums_inj {xs ys:List T} (hx:Rk xs) (hy:Rk ys) (h:xs.map Ro=ys.map Ro):xs=ys:=by
 induction xs generalizing ys with
 | nil=>cases ys with
  | nil=>rfl
  | cons y ys=>cases h
 | cons x xs ih=>cases ys with
  | nil=>cases h
  | cons y ys=>
   injection h with h1 h2
   obtain ⟨n,rfl,_⟩:=hx x List.mem_cons_self;obtain ⟨m,rfl,_⟩:=hy y List.mem_cons_self;have:=dd_inj (show Lib.decDigits n=Lib.decDigits m from h1)
   rw[this,ih (fun z hz=>hx z (List.mem_cons_of_mem _ hz)) (fun z hz=>hy z (List.mem_cons_of_mem _ hz)) h2]
theorem mark_inj {x y:T} (hx:MkG x) (hy:MkG y) (h:Rc x=Rc y):x=y:=by
 obtain ⟨s,is,rfl,_,o1,hs⟩:=hx;obtain ⟨u,js,rfl,_,o2,hu⟩:=hy;obtain ⟨e1,e2⟩:=Tv (c:=46) (Ti hs (.inr (.inl rfl))) (Ti hu (.inr (.inl rfl))) SA SA (show Rj s++spL 46 (is.map Ro)=Rj u++spL 46 (js.map Ro) from h)
 have no : ∀(zs:List T),∀w∈zs.map Ro,(46:UInt8) ∉ w:=fun zs w hw hm=>by
  obtain ⟨z,_,rfl⟩:=List.mem_map.1 hw;have:=Tn z _ hm
  have h46:(46:UInt8).toNat=46:=rfl
  omega
 rw[name_inj hs hu e1,nums_inj o1 o2 (Tk (no is) (no js) e2)]
theorem Tm {xs ys:List T} (hx : ∀x∈xs,MkG x) (hy : ∀x∈ys,MkG x) (h:xs.map Rc=ys.map Rc):xs=ys:=by
 induction xs generalizing ys with
 | nil=>cases ys with
  | nil=>rfl
  | cons y ys=>cases h
 | cons x xs ih=>cases ys with
  | nil=>cases h
  | cons y ys=>
   injection h with h1 h2
   rw[mark_inj (hx x List.mem_cons_self) (hy y List.mem_cons_self) h1,ih (fun z hz=>hx z (List.mem_cons_of_mem _ hz)) (fun z hz=>hy z (List.mem_cons_of_mem _ hz)) h2]
def S5 (st pl:List T):List (List UInt8):=st.map Rc ++ [124] :: pl.map Rc
theorem bar_cut {a b c d:List (List UInt8)} (ha : ∀w∈a,(124:UInt8) ∉ w) (hc : ∀w∈c,(124:UInt8) ∉ w) (h:a ++ [124] :: b=c ++ [124] :: d):a=c∧b=d:=by
 induction a generalizing c with
 | nil=>cases c with
  | nil=>injection h with _ h;exact ⟨rfl,h⟩
  | cons w c=>injection h with h1 _;exact absurd (by rw[← h1];exact List.mem_cons_self) (hc w List.mem_cons_self)
 | cons v a ih=>cases c with
  | nil=>injection h with h1 _;exact absurd (by rw[h1];exact List.mem_cons_self) (ha v List.mem_cons_self)
  | cons w c=>
   injection h with h1 h2
   obtain ⟨e1,e2⟩:=ih (fun z hz=>ha z (List.mem_cons_of_mem _ hz)) (fun z hz=>hc z (List.mem_cons_of_mem _ hz)) h2
   exact ⟨by rw[h1,e1],e2⟩
theorem U6 {s p s' p':List T} (h1 : ∀x∈s,MkG x) (h2 : ∀x∈p,MkG x) (h3 : ∀x∈s',MkG x) (h4 : ∀x∈p',MkG x) (h:spL 32 (S5 s p)=spL 32 (S5 s' p')):s=s'∧p=p':=by
 have no : ∀{xs:List T} {n:UInt8},(∀x∈xs,MkG x)→(n.toNat=32∨n.toNat=124∨n.toNat=10)→∀w∈xs.map Rc,n ∉ w:=fun {xs n} hx hn w hw=>by
  obtain ⟨x,hm,rfl⟩:=List.mem_map.1 hw;exact mark_no (hx x hm) hn
 have all : ∀{a b:List T},(∀x∈a,MkG x)→(∀x∈b,MkG x)→∀w∈S5 a b,(32:UInt8) ∉ w:=fun {a b} ha hb w hw=>by
  rcases List.mem_append.1 hw with hw | hw
  ·exact no ha (.inl rfl) w hw
  ·rcases List.mem_cons.1 hw with rfl | hw
   ·decide
   ·exact no hb (.inl rfl) w hw
 obtain ⟨e1,e2⟩:=bar_cut (no h1 (.inr (.inl rfl))) (no h3 (.inr (.inl rfl))) (Tk (all h1 h2) (all h3 h4) h);exact ⟨Tm h1 h3 e1,Tm h2 h4 e2⟩
theorem join_sp : ∀{us:List ByteArray},us≠[]→spL 32 (us.map (·.data.toList))=32 :: (SF us).data.toList
 | [],h=>absurd rfl h
 | u :: us,_=>by
  show _=(32:UInt8) :: Lib.join (u.data.toList :: us.map (·.data.toList)) [32]
  rw[Lib.join_cons,List.map_cons,Sh];rfl
def bsL (l:List UInt8):ByteArray:=⟨l.toArray⟩
theorem S3 (l:List UInt8):(bsL l).size=l.length:=rfl
theorem bsL_of (s:ByteArray):bsL s.data.toList=s:=S2 rfl
theorem T2 {c:UInt8} {n:Nat} : ∀{ws:List (List UInt8)},(∀w∈ws,w.length≤n)→(spL c ws).length≤ws.length * (n+1)
 | [],_=>by simp[spL]
 | w :: ws,h=>by
  have h1:=h w List.mem_cons_self;have h2:=T2 (c:=c) (fun x hx=>h x (List.mem_cons_of_mem _ hx))
  rw[Sh,List.length_append,List.length_cons,List.length_cons,Nat.succ_mul];omega
theorem TE {xs:List T} (h:Rk xs) : ∀w∈xs.map Ro,w.length≤21:=fun w hw=>by
 obtain ⟨x,hx,rfl⟩:=List.mem_map.1 hw;obtain ⟨n,rfl,hn⟩:=h x hx;have:=SM (n:=n) (by omega)
 rw[Rx] at this;exact this
theorem T7 {s:ByteArray} (h:s.size=0∨∃ks,cK ks s=true):(Rj s).length≤4:=by
 unfold Rj;split
 ·simp
 ·next hs=>
  obtain ⟨ks,h⟩:=h.resolve_left hs;have:=(nX h).2
  rw[Rx] at this;exact this
theorem mark_len {x:T} (h:MkG x):(Rc x).length≤22004:=by
 obtain ⟨s,is,rfl,hl,ho,hs⟩:=h;have h1:=T7 hs;have h2:=T2 (c:=46) (TE ho)
 show (Rj s++spL 46 (is.map Ro)).length≤_
 rw[List.length_map] at h2;have h3:is.length * (21+1)≤1000 * 22:=Nat.mul_le_mul_right _ hl
 rw[List.length_append];omega
theorem S4 {xs:List T} (h : ∀x∈xs,MkG x) (hl:xs.length≤1000):(spL 32 (xs.map Rc)).length≤22005000:=by
 have h2:=T2 (c:=32) (n:=22004) (ws:=xs.map Rc) (fun w hw=>by obtain ⟨x,hx,rfl⟩:=List.mem_map.1 hw;exact mark_len (h x hx))
 rw[List.length_map] at h2;have h3:xs.length * (22004+1)≤1000 * 22005:=Nat.mul_le_mul_right _ hl
 omega
theorem SH {xs:List T} {i:Nat} (h:i < xs.length) {α:Type} (f:T→α):(xs.take (i+1)).map f=(xs.take i).map f ++ [f xs[i]]:=by
 rw[← List.take_append_getElem h,List.map_append];rfl
theorem SU {xs:List T} (h:Rk xs) (i:Nat):(spL 46 ((xs.take i).map Ro)).length≤(xs.length) * 22:=by
 have h2:=T2 (c:=46) (n:=21) (ws:=(xs.take i).map Ro) (TE (fun x hx=>h x (List.mem_of_mem_take hx)))
 rw[List.length_map,List.length_take] at h2;have:min i xs.length * (21+1)≤xs.length * 22:=Nat.mul_le_mul_right _ (Nat.min_le_right _ _)
 omega
theorem Tx {a:List UInt8} {xs:List T} {i n:Nat} (h:i < xs.length) (e:xs[i] = .int (n:Int)):bsL (a++spL 46 ((xs.take i).map Ro))++(Sx++Ss n)=bsL (a++spL 46 ((xs.take (i+1)).map Ro)):=by
 apply S2
 rw[SH h,T1,e,S8,S8];show (a++spL 46 ((xs.take i).map Ro))++([46]++Lib.decDigits n)=a++(spL 46 ((xs.take i).map Ro)++(46 :: Lib.decDigits n ++ []))
 rw[List.append_nil,List.append_assoc];rfl
theorem TN (s:ByteArray):(s.toList==(⟨#[]⟩:ByteArray).toList)=decide (s.size=0):=by
 rw[nB];by_cases h:s.size=0
 ·rw[decide_eq_false (by omega),decide_eq_true h];rfl
 ·rw[decide_eq_true (by omega),decide_eq_false h];rfl
theorem TL {a:List UInt8} {is:List T} (ho:Rk is) (hl:is.length≤1000) (ha:a.length≤4) : ∀{d i:Nat},i+d=is.length→Yields (fun k=>Rv (Ra.hl env k Rm) (.str (bsL (a++spL 46 ((is.take i).map Ro)))) (.sl is) (.int (is.length:Int)) (.int (i:Int))) [.str (bsL (a++spL 46 (is.map Ro)))]
 | 0,i,hd=>by
  refine So _ _ _ _ ?_;unfold RC;simp only[tnA];rw[List.take_of_length_le (by omega)]
  exact Yields.ff (decide_eq_false (by omega)) (Yields.some _)
 | d+1,i,hd=>by
  have hi:i < is.length:=by omega
  obtain ⟨n,en,hn⟩:=ho _ (List.getElem_mem hi);have ed:(T.sl is).nth i = .int (n:Int):=by rw[bh hi,en]
  have hs:=SU ho i;have hds:=SM (n:=n) (by omega)
  refine So _ _ _ _ ?_;unfold RC;simp only[tnA];simp only[ed,DV hi (show is.length≤1048576 by omega)]
  refine Yields.tt (decide_eq_true (by omega)) (Yields.guard (by (simp <;> omega)) (Yields.obind (dec_i (by omega)) ?_))
  simp only[tnA];refine Yields.guard (decide_eq_true (by rw[bD];show 1+_≤_;omega)) (Yields.guard (decide_eq_true ?_) ?_)
  ·rw[bD,ByteArray.size_append,S3,List.length_append];show _+(1+_)≤_;omega
  ·rw[Tx hi en];exact TL ho hl ha (d:=d) (i:=i+1) (by omega)
theorem TM {x:T} (h:MkG x):Yields (fun k=>cl env k RK [x]) [.str (bsL (Rc x))]:=by
 obtain ⟨s,is,rfl,hl,ho,hs⟩:=h;have hn:=T7 hs;have key:=TL (a:=Rj s) ho hl hn (d:=is.length) (i:=0) (by omega)
 rw[List.take_zero,List.map_nil,TQ,List.append_nil] at key;refine T9 _ ?_;unfold Sd;simp only[tnA];rw[TN];refine Yields.ite (fun e=>?_) (fun e=>?_)
 ·have e:=of_decide_eq_true e;have en:Rj s = [45]:=by unfold Rj;rw[if_pos e]
  rw[en] at key;show Yields _ [.str (bsL (Rj s++spL 46 (is.map Ro)))]
  rw[en];exact key
 ·have e:=of_decide_eq_false e;have en:Rj s=s.data.toList:=by unfold Rj;rw[if_neg e]
  rw[en,bsL_of] at key;show Yields _ [.str (bsL (Rj s++spL 46 (is.map Ro)))]
  rw[en];exact key
theorem TS {xs:List T} {i:Nat} {s:ByteArray} {is:List T} (hi:i < xs.length) (e:xs[i] = .st [.str s,.sl is]) (ho:Rk is) (hl:is.length≤1000) (hxl:xs.length≤1000) {a:List UInt8} (ha:a.length≤4) {out:ByteArray} (hout:out.size≤22005000) {r:List T}
  (next:Yields (fun k=>RG (Ra.hl env k Rg) (.sl xs) (.str ((out++SG)++bsL (a++spL 46 (is.map Ro)))) (.int ((i+1:Nat):Int))) r) :
  ∀{d j:Nat},j+d=is.length→Yields (fun k=>RH (Ra.hl env k Rg) (.sl xs) (.str out) (.int (i:Int)) (.str (bsL (a++spL 46 ((is.take j).map Ro)))) (.int (j:Int))) r
 | 0,j,hd=>by
  have en:(T.sl xs).nth i = .st [.str s,.sl is]:=by rw[bh hi,e]
  have hs:=SU ho j;refine SJ _ _ _ _ _ ?_;unfold RT;simp only[tnA];simp only[en,DV hi (show xs.length≤1048576 by omega)]
  simp only[tnA];rw[List.take_of_length_le (by omega)] at hs ⊢
  refine Yields.guard (by (simp <;> omega)) (Yields.ff (decide_eq_false (by omega)) (Yields.guard (decide_eq_true (by rw[bD];show _+1≤_;omega)) (Yields.guard (decide_eq_true ?_) next)))
  rw[bD,ByteArray.size_append,S3,List.length_append];show _+1+_≤_;omega
 | d+1,j,hd=>by
  have en:(T.sl xs).nth i = .st [.str s,.sl is]:=by rw[bh hi,e]
  have hj:j < is.length:=by omega
  obtain ⟨n,ei,hn⟩:=ho _ (List.getElem_mem hj);have ed:(T.sl is).nth j = .int (n:Int):=by rw[bh hj,ei]
  have hs:=SU ho j;have hds:=SM (n:=n) (by omega)
  refine SJ _ _ _ _ _ ?_;unfold RT;simp only[tnA];simp only[en,DV hj (show is.length≤1048576 by omega)]
  simp only[tnA];simp only[ed];refine Yields.guard (by (simp <;> omega)) (Yields.tt (decide_eq_true (by omega)) (Yields.guard (decide_eq_true ?_) (Yields.guard (by (simp <;> omega)) (Yields.guard (by (simp <;> omega)) (Yields.obind (dec_s n (by omega)) ?_)))))
  ·rw[bD,S3,List.length_append];show _+1≤_;omega
  simp only[tnA];refine Yields.guard (decide_eq_true ?_) ?_
  ·rw[bD,ByteArray.size_append,S3,List.length_append];show _+1+_≤_;omega
  ·rw[show (bsL (a++spL 46 ((is.take j).map Ro))++Sx)++Ss n=bsL (a++spL 46 ((is.take j).map Ro))++(Sx++Ss n) by apply S2;simp only[S8,List.append_assoc],Tx hj ei]
   exact TS hi e ho hl hxl ha hout next (d:=d) (j:=j+1) (by omega)
theorem TZ {xs:List T} (h : ∀x∈xs,MkG x) (hl:xs.length≤1000) (i:Nat):(spL 32 ((xs.take i).map Rc)).length≤22005000:=
 S4 (fun x hx=>h x (List.mem_of_mem_take hx)) (by rw[List.length_take];omega)
theorem TR {xs:List T} (h : ∀x∈xs,MkG x) (hl:xs.length≤1000) : ∀{d i:Nat},i+d=xs.length→Yields (fun k=>RG (Ra.hl env k Rg) (.sl xs) (.str (bsL (spL 32 ((xs.take i).map Rc)))) (.int (i:Int))) [.str (bsL (spL 32 (xs.map Rc)))]
 | 0,i,hd=>by
  refine SI _ _ _ ?_;unfold RS;simp only[tnA];rw[List.take_of_length_le (by omega)]
  exact Yields.ff (decide_eq_false (by omega)) (Yields.some _)
 | d+1,i,hd=>by
  have hi:i < xs.length:=by omega
  obtain ⟨s,is,e,hil,ho,hs⟩:=h _ (List.getElem_mem hi);have en:(T.sl xs).nth i = .st [.str s,.sl is]:=by rw[bh hi,e]
  have next:=TR h hl (d:=d) (i:=i+1) (by omega)
  have hm:Rc xs[i]=Rj s++spL 46 (is.map Ro):=by rw[e];rfl
  have hg:bsL (spL 32 ((xs.take (i+1)).map Rc))=(bsL (spL 32 ((xs.take i).map Rc))++SG)++bsL (Rj s++spL 46 (is.map Ro)):=by
   apply S2
   rw[SH hi,T1,hm,S8,S8];show spL 32 ((xs.take i).map Rc)++(32 :: (Rj s++spL 46 (is.map Ro)) ++ [])=(spL 32 ((xs.take i).map Rc) ++ [32])++(Rj s++spL 46 (is.map Ro))
   rw[List.append_nil,List.append_assoc];rfl
  rw[hg] at next;have key:=TS hi e ho hil hl (T7 hs) (out:=bsL (spL 32 ((xs.take i).map Rc))) (by rw[S3];exact TZ h hl i) next (d:=is.length) (j:=0) (by omega)
  rw[List.take_zero,List.map_nil,TQ,List.append_nil] at key;refine SI _ _ _ ?_;unfold RS;simp only[tnA];simp only[en];simp only[tnA];rw[TN];refine Yields.tt (decide_eq_true (by omega)) (Yields.guard (by (simp <;> omega)) (Yields.ite (fun e=>?_) (fun e=>?_)))
  ·have e:=of_decide_eq_true e;have en:Rj s = [45]:=by unfold Rj;rw[if_pos e]
   rw[en] at key;exact key
  ·have e:=of_decide_eq_false e;have en:Rj s=s.data.toList:=by unfold Rj;rw[if_neg e]
   rw[en,bsL_of] at key;exact key
theorem TT {xs:List T} (h : ∀x∈xs,MkG x) (hl:xs.length≤1000):Yields (fun k=>cl env k Sa [.sl xs]) [.str (bsL (spL 32 (xs.map Rc)))]:=
 Tr _ (TR h hl (d:=xs.length) (i:=0) (by omega))
def S9 (st pl:List T):List ByteArray:=(S5 st pl).map bsL
def Ry (st pl:List T):ByteArray:=SF (S9 st pl)
theorem Th (st pl:List T):(S9 st pl).map (·.data.toList)=S5 st pl:=by
 unfold S9;rw[List.map_map];exact List.map_id _
theorem Tl (st pl:List T):spL 32 (S5 st pl)=32 :: (Ry st pl).data.toList:=by
 have:=join_sp (us:=S9 st pl) (by unfold S9 S5;simp)
 rw[Th] at this;exact this
theorem SO (st pl:List T):spL 32 (st.map Rc)++([32,124]++spL 32 (pl.map Rc))=32 :: (Ry st pl).data.toList:=by
 rw[← Tl];unfold S5;rw[T1];rfl
theorem ext_one {a:ByteArray} {c:UInt8} {s:ByteArray} (h:a.data.toList=c :: s.data.toList):a.extract 1 a.size=s:=by
 apply S2
 rw[ByteArray.data_extract,Array.toList_extract,Rx,h];simp[List.take_of_length_le (show s.data.toList.length≤s.size by rw[Rx];omega)]
theorem TH {st pl:List T} (h1 : ∀x∈st,MkG x) (h2 : ∀x∈pl,MkG x) (l1:st.length≤1000) (l2:pl.length≤1000):Yields (fun k=>cl env k Sc [.st [.sl st,.sl pl]]) [.str (Ry st pl)]:=by
 have m1:=S4 h1 l1;have m2:=S4 h2 l2;refine Td _ ?_;unfold Sg;simp only[tnA];refine Yields.obind (TT h1 l1) ?_;simp only[tnA];refine Yields.guard (decide_eq_true (by rw[bD,S3];show _+2≤_;omega)) (Yields.obind (TT h2 l2) ?_)
 simp only[tnA];have hz:((bsL (spL 32 (st.map Rc))++T0)++bsL (spL 32 (pl.map Rc))).data.toList=32 :: (Ry st pl).data.toList:=by
  rw[← SO,S8,S8,List.append_assoc];rfl
 have hsz:1≤((bsL (spL 32 (st.map Rc))++T0)++bsL (spL 32 (pl.map Rc))).size:=by rw[Rx,hz];simp
 refine Yields.guard (decide_eq_true ?_) (Yields.guard (aL rfl (aL (decide_eq_true (by omega)) (by simp))) ?_)
 ·rw[bD,ByteArray.size_append,S3,S3];show _+2+_≤_;omega
 ·rw[ext_one hz];exact Yields.some _
theorem TK {pl A:List T} (h2 : ∀x∈pl,MkG x) (l2:pl.length≤1000) (hA:A.length≤1001) {r:List T} (next:Yields (fun k=>cl env k S6 [.sl (A++pl.map fun x=>.str (bsL (Rc x))),.str SG]) r) (hr:r.length=1) : ∀{d i:Nat},i+d=pl.length→
  Yields (fun k=>Rw (Ra.hl env k R9) (.sl pl) (.int (pl.length:Int)) (.int (i:Int)) (.sl (A++(pl.take i).map fun x=>.str (bsL (Rc x))))) r
 | 0,i,hd=>by
  refine Sq _ _ _ _ ?_;unfold RE;simp only[tnA];rw[List.take_of_length_le (by omega)]
  refine Yields.ff (decide_eq_false (by omega)) (Yields.obind next ?_)
  match r,hr with
  | [x],_=>exact Yields.some _
 | d+1,i,hd=>by
  have hi:i < pl.length:=by omega
  have en:(T.sl pl).nth i=pl[i]:=bh hi
  refine Sq _ _ _ _ ?_;unfold RE;simp only[tnA];simp only[en,DV hi (show pl.length≤1048576 by omega)]
  refine Yields.tt (decide_eq_true (by omega)) (Yields.guard (by (simp <;> omega)) (Yields.obind (TM (h2 _ (List.getElem_mem hi))) ?_))
  simp only[tnA];refine Yields.guard (decide_eq_true ?_) ?_
  ·rw[bD,List.length_append,List.length_map,List.length_take];simp;omega
  ·rw[List.append_assoc,← SH hi (fun x=>T.str (bsL (Rc x)))];exact TK h2 l2 hA next hr (d:=d) (i:=i+1) (by omega)
theorem TJ {st pl:List T} (h1 : ∀x∈st,MkG x) (l1:st.length≤1000) {r:List T} (next:Yields (fun k=>Rw (Ra.hl env k R9) (.sl pl) (.int (pl.length:Int)) (.int 0) (.sl ((st.map fun x=>.str (bsL (Rc x))) ++ [.str k_x7c]))) r) : ∀{d i:Nat},i+d=st.length→
  Yields (fun k=>RF (Ra.hl env k R9) (.sl st) (.int (st.length:Int)) (.int (i:Int)) (.st [.sl st,.sl pl]) (.sl ((st.take i).map fun x=>.str (bsL (Rc x))))) r
 | 0,i,hd=>by
  refine Sp _ _ _ _ _ ?_;unfold RD;simp only[tnA];rw[List.take_of_length_le (by omega)]
  exact Yields.ff (decide_eq_false (by omega)) (Yields.guard (decide_eq_true (by rw[bD,List.length_map];simp;omega)) next)
 | d+1,i,hd=>by
  have hi:i < st.length:=by omega
  have en:(T.sl st).nth i=st[i]:=bh hi
  refine Sp _ _ _ _ _ ?_;unfold RD;simp only[tnA];simp only[en,DV hi (show st.length≤1048576 by omega)]
  refine Yields.tt (decide_eq_true (by omega)) (Yields.guard (by (simp <;> omega)) (Yields.obind (TM (h1 _ (List.getElem_mem hi))) ?_))
  simp only[tnA];refine Yields.guard (decide_eq_true ?_) ?_
  ·rw[bD,List.length_map,List.length_take];simp;omega
  ·rw[← SH hi (fun x=>T.str (bsL (Rc x)))];exact TJ h1 l1 next (d:=d) (i:=i+1) (by omega)
theorem TU : ∀us:List ByteArray,SB us=(spL 32 (us.map (·.data.toList))).length
 | []=>rfl
 | u :: us=>by
  rw[List.map_cons,Sh,List.length_append,List.length_cons,← TU us,← Rx];rfl
theorem Sn {st pl:List T} (h1 : ∀x∈st,MkG x) (h2 : ∀x∈pl,MkG x) (l1:st.length≤1000) (l2:pl.length≤1000):Yields (fun k=>cl env k Rp [.st [.sl st,.sl pl]]) [.str (Ry st pl)]:=by
 have m1:=S4 h1 l1;have m2:=S4 h2 l2;have hw:(S9 st pl).map T.str=((st.map fun x=>T.str (bsL (Rc x))) ++ [.str k_x7c])++pl.map fun x=>.str (bsL (Rc x)):=by
  unfold S9 S5;rw[List.map_append,List.map_append,List.map_map,List.map_map,List.map_cons,List.map_cons,List.map_map,List.map_map,List.append_assoc];rfl
 have hj:Yields (fun k=>cl env k S6 [.sl ((S9 st pl).map .str),.str SG]) [.str (Ry st pl)]:=by
  refine join_t (us:=S9 st pl) ?_ ?_
  ·unfold S9 S5;simp;omega
  ·rw[TU,Th];unfold S5;rw[T1,Sh,List.length_append,List.length_append];show _+(2+_)≤_
   omega
 rw[hw] at hj;refine Tb _ ?_;unfold Sf;simp only[tnA];have k1:=TK h2 l2 (by simp;omega) hj rfl (d:=pl.length) (i:=0) (by omega)
 rw[List.take_zero,List.map_nil,List.append_nil] at k1;exact TJ h1 l1 k1 (d:=st.length) (i:=0) (by omega)
def ShR (o:List T):Prop:=∃s:T,o = [s]∧ShG s
theorem U2 {bs:List T} (hv:JG bs):YP (fun k=>cl env k RN [.sl bs]) ShR:=by
 refine YP.call ?_ (fun r h=>SQ _ h)
 unfold RP;refine YP.obind (TI hv) ?_;rintro _ ⟨r,rfl,hr⟩;refine YP.obind (ct_at (q:=10) (hr.less (by omega))) ?_
 rintro _ ⟨ms,m,f,r1,rfl,hr1,ha,_⟩;refine YP.obind (QZ (q:=1) ha (hr1.less (by omega)) m f) ?_
 rintro _ ⟨s,r2,rfl,hr2,hs⟩;exact YP.some ⟨s,rfl,hs⟩
theorem U5 (st pl:List T) : ∃p,(Ry st pl).data.toList=p++(Ry [] pl).data.toList:=by
 have h:=SO st pl;have h0:([32,124]:List UInt8)++spL 32 (pl.map Rc)=32 :: (Ry [] pl).data.toList:=SO [] pl
 rw[h0] at h;rcases SA (c:=32) (ws:=st.map Rc) with e | ⟨l,e⟩
 ·rw[e] at h;injection h with _ h;exact ⟨[],h.symm⟩
 ·rw[e] at h;injection h with _ h;exact ⟨l ++ [32],by rw[← h,List.append_assoc];rfl⟩
theorem ext_tail {a b:ByteArray} {p:List UInt8} (h:a.data.toList=p++b.data.toList):a.extract p.length a.size=b:=by
 apply S2
 rw[ByteArray.data_extract,Array.toList_extract,Rx,h];simp[List.take_of_length_le (show b.data.toList.length≤b.size by rw[Rx];omega)]
theorem U4 {st pl:List T} (h1 : ∀x∈st,MkG x) (h2 : ∀x∈pl,MkG x) (l1:st.length≤1000) (l2:pl.length≤1000):(Ry st pl).size≤50000000:=by
 have m1:=S4 h1 l1;have m2:=S4 h2 l2;have:=congrArg List.length (SO st pl)
 rw[List.length_append,List.length_append] at this;have h3:([32,124]:List UInt8).length=2:=rfl
 have h4:(32 :: (Ry st pl).data.toList).length=(Ry st pl).size+1:=by rw[Rx];rfl
 omega
theorem Tq {bs:List T} (hv:JG bs):Yields (fun k=>cl env k RV [.sl bs]) [.bool true]:=by
 refine YP.yields (YP.call ?_ (fun r h=>SX _ h))
 unfold S0;refine YP.ite (fun _=>YP.some rfl) (fun _=>?_)
 refine YP.obind (U2 hv) ?_;rintro _ ⟨_,rfl,st,pl,rfl,l1,l2,h1,h2⟩;have h0 : ∀x∈([]:List T),MkG x:=no_mk
 obtain ⟨p,hp⟩:=U5 st pl;have hz:=U4 h1 h2 l1 l2;have hlen:=congrArg List.length hp;rw[List.length_append,← Rx,← Rx] at hlen;simp only[tnA];refine YP.run (Sn h1 h2 l1 l2) (YP.run (TH h1 h2 l1 l2) ?_);simp only[tnA];refine YP.ff (by simp) (YP.run (Sn h0 h2 (by simp) l2) ?_)
 simp only[tnA];have hw:IntKind.wrap .i64 (((Ry st pl).size:Int) - ((Ry [] pl).size:Int))=(p.length:Int):=by rw[bf (by omega) (by omega)];omega
 simp only[hw];simp only[tnA];refine YP.tt (decide_eq_true (by omega)) (YP.guard (by (simp <;> omega)) ?_)
 rw[ext_tail hp];exact YP.some (by simp)
def R7 (x:Nat→R) (P:Prop):Prop:=∃b:Bool,Yields x [.bool b]∧(b=true↔P)
theorem R7.yes {x:Nat→R} {P:Prop} (h:Yields x [.bool true]) (p:P):R7 x P:=⟨true,h,fun _=>p,fun _=>rfl⟩
theorem R7.no {x:Nat→R} {P:Prop} (h:Yields x [.bool false]) (p : ¬P):R7 x P:=⟨false,h,fun h=>Bool.noConfusion h,fun h=>absurd h p⟩
theorem R7.as {x y:Nat→R} {P Q:Prop} (h:R7 x P) (hy : ∀r,Yields x r→Yields y r) (hq:P↔Q):R7 y Q:=by
 obtain ⟨b,h1,h2⟩:=h;exact ⟨b,hy _ h1,h2.trans hq⟩
theorem R7.tt {c:Bool} {x y:Nat→R} {P:Prop} (hc:c=true) (h:R7 x P):R7 (fun k=>bif c then x k else y k) P:=h.as (fun _ h=>Yields.tt hc h) Iff.rfl
theorem R7.ff {c:Bool} {x y:Nat→R} {P:Prop} (hc:c=false) (h:R7 y P):R7 (fun k=>bif c then x k else y k) P:=h.as (fun _ h=>Yields.ff hc h) Iff.rfl
theorem R7.run {x:Nat→R} {K:Nat→List T→R} {r:List T} {P:Prop} (h:Yields x r) (h2:R7 (fun k=>K k r) P):R7 (fun k=>Ra.obind (x k) (K k)) P:=h2.as (fun _ h2=>Yields.obind h h2) Iff.rfl
theorem SC {xs ys:List T} {i:Nat} (hx:i < xs.length) (hy:i < ys.length) (e:xs[i]=ys[i]):xs.drop (i+1)=ys.drop (i+1)↔xs.drop i=ys.drop i:=by
 rw[List.drop_eq_getElem_cons hx,List.drop_eq_getElem_cons hy,e];exact ⟨fun h=>by rw[h],fun h=>by injection h⟩
theorem SZ {xs ys:List T} {i:Nat} (hx:i < xs.length) (hy:i < ys.length) (e:xs[i]≠ys[i]) : ¬xs.drop i=ys.drop i:=by
 rw[List.drop_eq_getElem_cons hx,List.drop_eq_getElem_cons hy];exact fun h=>e (by injection h)
theorem SN {xs ys:List T} {i:Nat} (hx:i=xs.length) (hxy:xs.length=ys.length):xs.drop i=ys.drop i:=by
 rw[List.drop_eq_nil_of_le (by omega),List.drop_eq_nil_of_le (by omega)]
theorem eqI_0 {xs ys:List T} (ox:Rk xs) (oy:Rk ys) (hxy:xs.length=ys.length) (hl:xs.length≤1000) : ∀{d i:Nat},i+d=xs.length→R7 (fun k=>RA (Ra.hl env k Rl) (.sl xs) (.sl ys) (.int (xs.length:Int)) (.int (i:Int))) (xs.drop i=ys.drop i)
 | 0,i,hd=>by
  refine R7.as ?_ (fun r h=>Sk _ _ _ _ h) Iff.rfl
  unfold Rz;simp only[tnA];exact R7.ff (decide_eq_false (by omega)) (.yes (Yields.some _) (SN (by omega) hxy))
 | d+1,i,hd=>by
  have hi:i < xs.length:=by omega
  have hi2:i < ys.length:=by omega
  obtain ⟨n,e1,_⟩:=ox _ (List.getElem_mem hi);obtain ⟨m,e2,_⟩:=oy _ (List.getElem_mem hi2);have n1:(T.sl xs).nth i = .int (n:Int):=by rw[bh hi,e1]
  have n2:(T.sl ys).nth i = .int (m:Int):=by rw[bh hi2,e2]
  refine R7.as ?_ (fun r h=>Sk _ _ _ _ h) Iff.rfl
  unfold Rz;simp only[tnA];simp only[n1,n2,DV hi (show xs.length≤1048576 by omega)]
  simp only[tnA];refine R7.tt (decide_eq_true (by omega)) (R7.tt (by (simp <;> omega)) (R7.tt (by (simp <;> omega)) ?_))
  by_cases h:(n:Int)=m
  ·refine R7.ff (bne_eq_false_iff_eq.2 h) ((eqI_0 ox oy hxy hl (d:=d) (i:=i+1) (by omega)).as (fun _ h=>h) (SC hi hi2 (by rw[e1,e2,h])))
  ·refine R7.tt (bne_iff_ne.2 h) (.no (Yields.some _) (SZ hi hi2 (by rw[e1,e2];exact fun h'=>h (by injection h'))))
theorem eqS_0 {xs ys:List T} {s u:ByteArray} (ox:Rk xs) (oy:Rk ys) (hxy:xs.length=ys.length) (hl:xs.length≤1000) : ∀{d i:Nat},i+d=xs.length→R7 (fun k=>OR (Ra.hl env k On) (.int (i:Int)) (.st [.str s,.sl xs]) (.st [.str u,.sl ys])) (xs.drop i=ys.drop i)
 | 0,i,hd=>by
  refine R7.as ?_ (fun r h=>PU _ _ _ h) Iff.rfl
  unfold OP;simp only[tnA];exact R7.ff (decide_eq_false (by omega)) (.yes (Yields.some _) (SN (by omega) hxy))
 | d+1,i,hd=>by
  have hi:i < xs.length:=by omega
  have hi2:i < ys.length:=by omega
  obtain ⟨n,e1,_⟩:=ox _ (List.getElem_mem hi);obtain ⟨m,e2,_⟩:=oy _ (List.getElem_mem hi2);have n1:(T.sl xs).nth i = .int (n:Int):=by rw[bh hi,e1]
  have n2:(T.sl ys).nth i = .int (m:Int):=by rw[bh hi2,e2]
  refine R7.as ?_ (fun r h=>PU _ _ _ h) Iff.rfl
  unfold OP;simp only[tnA];simp only[n1,n2,DV hi (show xs.length≤1048576 by omega)]
  simp only[tnA];refine R7.tt (decide_eq_true (by omega)) (R7.tt (by (simp <;> omega)) (R7.tt (by (simp <;> omega)) ?_))
  by_cases h:(n:Int)=m
  ·refine R7.ff (bne_eq_false_iff_eq.2 h) ((eqS_0 ox oy hxy hl (d:=d) (i:=i+1) (by omega)).as (fun _ h=>h) (SC hi hi2 (by rw[e1,e2,h])))
  ·refine R7.tt (bne_iff_ne.2 h) (.no (Yields.some _) (SZ hi hi2 (by rw[e1,e2];exact fun h'=>h (by injection h'))))
theorem Sz {s u:ByteArray} : (s.toList==u.toList)=true↔s=u:=by
 rw[beq_iff_eq,ByteArray.toList_eq,ByteArray.toList_eq];exact ⟨S2,fun h=>by rw[h]⟩
theorem Tf {s u:ByteArray} {xs ys:List T} : T.st [.str s,.sl xs]=T.st [.str u,.sl ys]↔s=u∧xs=ys:=by
 constructor
 ·intro h;injection h with h;injection h with h1 h2;injection h1 with h1;injection h2 with h2 _;injection h2 with h2;exact ⟨h1,h2⟩
 ·rintro ⟨rfl,rfl⟩;rfl
theorem eqMark_s {x y:T} (hx:MkG x) (hy:MkG y):R7 (fun k=>cl env k Pu [x,y]) (x=y):=by
 obtain ⟨s,is,rfl,l1,o1,_⟩:=hx;obtain ⟨u,js,rfl,l2,o2,_⟩:=hy;refine R7.as ?_ (fun r h=>QJ _ _ h) Iff.rfl
 unfold Px;simp only[tnA];by_cases h:s=u
 ·refine R7.ff (by rw[Sz.2 h];rfl) ?_
  by_cases h2:(is.length:Int)=js.length
  ·refine R7.ff (bne_eq_false_iff_eq.2 h2) ((eqS_0 o1 o2 (by omega) l1 (d:=is.length) (i:=0) (by omega)).as (fun _ h=>h) ?_)
   rw[List.drop_zero,List.drop_zero,Tf];exact ⟨fun e=>⟨h,e⟩,fun e=>e.2⟩
  ·exact R7.tt (bne_iff_ne.2 h2) (.no (Yields.some _) fun e=>h2 (by rw[(Tf.1 e).2]))
 ·refine R7.tt ?_ (.no (Yields.some _) fun e=>h (Tf.1 e).1)
  cases hb:(s.toList==u.toList) with
  | true=>exact absurd (Sz.1 hb) h
  | false=>rfl
theorem eqMark_i {x y:T} (hx:MkG x) (hy:MkG y):R7 (fun k=>cl env k RB [x,y]) (x=y):=by
 obtain ⟨s,is,rfl,l1,o1,_⟩:=hx;obtain ⟨u,js,rfl,l2,o2,_⟩:=hy;refine R7.as ?_ (fun r h=>SV _ _ h) Iff.rfl
 unfold RY;simp only[tnA];by_cases h:s=u
 ·refine R7.tt (Sz.2 h) ?_;have he:R7 (fun k=>cl env k RX [.sl is,.sl js]) (is=js):=by
   refine R7.as ?_ (fun r h=>SY _ _ h) Iff.rfl
   unfold S1;simp only[tnA];by_cases h2:(is.length:Int)=js.length
   ·exact R7.ff (bne_eq_false_iff_eq.2 h2) ((eqI_0 o1 o2 (by omega) l1 (d:=is.length) (i:=0) (by omega)).as (fun _ h=>h) (by rw[List.drop_zero,List.drop_zero]))
   ·exact R7.tt (bne_iff_ne.2 h2) (.no (Yields.some _) fun e=>h2 (by rw[e]))
  obtain ⟨b,y1,y2⟩:=he;exact ⟨b,Yields.obind y1 (Yields.some _),y2.trans (by rw[Tf];exact ⟨fun e=>⟨h,e⟩,fun e=>e.2⟩)⟩
 ·refine R7.ff ?_ (.no (Yields.some _) fun e=>h (Tf.1 e).1)
  cases hb:(s.toList==u.toList) with
  | true=>exact absurd (Sz.1 hb) h
  | false=>rfl
theorem TP {xs ys:List T} (hx : ∀x∈xs,MkG x) (hy : ∀x∈ys,MkG x) (hxy:xs.length=ys.length) (hl:xs.length≤1000) : ∀{d i:Nat},i+d=xs.length→R7 (fun k=>OS (Ra.hl env k Oo) (.sl xs) (.sl ys) (.int (i:Int))) (xs.drop i=ys.drop i)
 | 0,i,hd=>by
  refine R7.as ?_ (fun r h=>PV _ _ _ h) Iff.rfl
  unfold OQ;simp only[tnA];exact R7.ff (decide_eq_false (by omega)) (.yes (Yields.some _) (SN (by omega) hxy))
 | d+1,i,hd=>by
  have hi:i < xs.length:=by omega
  have hi2:i < ys.length:=by omega
  have n1:(T.sl xs).nth i=xs[i]:=bh hi
  have n2:(T.sl ys).nth i=ys[i]:=bh hi2
  obtain ⟨b,y1,y2⟩:=eqMark_s (hx _ (List.getElem_mem hi)) (hy _ (List.getElem_mem hi2));refine R7.as ?_ (fun r h=>PV _ _ _ h) Iff.rfl
  unfold OQ;simp only[tnA];simp only[n1,n2,DV hi (show xs.length≤1048576 by omega)]
  refine R7.tt (decide_eq_true (by omega)) (R7.tt (by (simp <;> omega)) (R7.tt (by (simp <;> omega)) (R7.run y1 ?_)))
  simp only[tnA];cases b with
  | true=>exact R7.ff rfl ((TP hx hy hxy hl (d:=d) (i:=i+1) (by omega)).as (fun _ h=>h) (SC hi hi2 (y2.1 rfl)))
  | false=>exact R7.tt rfl (.no (Yields.some _) (SZ hi hi2 fun e=>Bool.noConfusion (y2.2 e)))
theorem TO {xs ys:List T} (hx : ∀x∈xs,MkG x) (hy : ∀x∈ys,MkG x) (hxy:xs.length=ys.length) (hl:xs.length≤1000) : ∀{d i:Nat},i+d=xs.length→R7 (fun k=>Ri (Ra.hl env k Rb) (.sl ys) (.fn RB []) (.sl xs) (.int (xs.length:Int)) (.int (i:Int))) (xs.drop i=ys.drop i)
 | 0,i,hd=>by
  refine R7.as ?_ (fun r h=>RI _ _ _ _ _ h) Iff.rfl
  unfold Rh;simp only[tnA];exact R7.ff (decide_eq_false (by omega)) (.yes (Yields.some _) (SN (by omega) hxy))
 | d+1,i,hd=>by
  have hi:i < xs.length:=by omega
  have hi2:i < ys.length:=by omega
  have n1:(T.sl xs).nth i=xs[i]:=bh hi
  have n2:(T.sl ys).nth i=ys[i]:=bh hi2
  obtain ⟨b,y1,y2⟩:=eqMark_i (hx _ (List.getElem_mem hi)) (hy _ (List.getElem_mem hi2));refine R7.as ?_ (fun r h=>RI _ _ _ _ _ h) Iff.rfl
  unfold Rh;simp only[tnA];simp only[n1,n2,DV hi (show xs.length≤1048576 by omega)]
  refine R7.tt (decide_eq_true (by omega)) (R7.tt (by (simp <;> omega)) (R7.tt (by (simp <;> omega)) (R7.run y1 ?_)))
  simp only[tnA];cases b with
  | true=>exact R7.ff rfl ((TO hx hy hxy hl (d:=d) (i:=i+1) (by omega)).as (fun _ h=>h) (SC hi hi2 (y2.1 rfl)))
  | false=>exact R7.tt rfl (.no (Yields.some _) (SZ hi hi2 fun e=>Bool.noConfusion (y2.2 e)))
theorem same_s {xs ys:List T} (hx : ∀x∈xs,MkG x) (hy : ∀x∈ys,MkG x) (hl:xs.length≤1000):R7 (fun k=>cl env k P3 [.sl xs,.sl ys]) (xs=ys):=by
 refine R7.as ?_ (fun r h=>QK _ _ h) Iff.rfl
 unfold Py;simp only[tnA];by_cases h2:(xs.length:Int)=ys.length
 ·exact R7.ff (bne_eq_false_iff_eq.2 h2) ((TP hx hy (by omega) hl (d:=xs.length) (i:=0) (by omega)).as (fun _ h=>h) (by rw[List.drop_zero,List.drop_zero]))
 ·exact R7.tt (bne_iff_ne.2 h2) (.no (Yields.some _) fun e=>h2 (by rw[e]))
theorem same_i {xs ys:List T} (hx : ∀x∈xs,MkG x) (hy : ∀x∈ys,MkG x) (hl:xs.length≤1000):R7 (fun k=>cl env k RL [.sl xs,.sl ys]) (xs=ys):=by
 have he:R7 (fun k=>cl env k Rr [.sl xs,.sl ys,.fn RB []]) (xs=ys):=by
  refine R7.as ?_ (fun r h=>Sm _ _ _ h) Iff.rfl
  unfold Rs;simp only[tnA];by_cases h2:(xs.length:Int)=ys.length
  ·exact R7.ff (bne_eq_false_iff_eq.2 h2) ((TO hx hy (by omega) hl (d:=xs.length) (i:=0) (by omega)).as (fun _ h=>h) (by rw[List.drop_zero,List.drop_zero]))
  ·exact R7.tt (bne_iff_ne.2 h2) (.no (Yields.some _) fun e=>h2 (by rw[e]))
 obtain ⟨b,y1,y2⟩:=he;exact ⟨b,Tc _ _ (Yields.obind y1 (Yields.some _)),y2⟩
theorem U0 {a p c q:List T} (h1 : ∀x∈a,MkG x) (h2 : ∀x∈p,MkG x) (h3 : ∀x∈c,MkG x) (h4 : ∀x∈q,MkG x) (l1:a.length≤1000) (l2:p.length≤1000) :
  R7 (fun k=>cl env k OH [.st [.sl a,.sl p],.st [.sl c,.sl q]]) (a=c∧p=q)∧R7 (fun k=>cl env k Sb [.st [.sl a,.sl p],.st [.sl c,.sl q]]) (a=c∧p=q):=by
 obtain ⟨b1,s1,e1⟩:=same_s h1 h3 l1;obtain ⟨b2,s2,e2⟩:=same_s h2 h4 l2;obtain ⟨b3,s3,e3⟩:=same_i h1 h3 l1;obtain ⟨b4,s4,e4⟩:=same_i h2 h4 l2;constructor
 ·refine R7.as ?_ (fun r h=>Qk _ _ h) Iff.rfl
  unfold P5;simp only[tnA];refine R7.run s1 ?_;cases b1 with
  | true=>exact R7.tt rfl ⟨b2,Yields.obind s2 (Yields.some _),e2.trans ⟨fun h=>⟨e1.1 rfl,h⟩,fun h=>h.2⟩⟩
  | false=>exact R7.ff rfl (.no (Yields.some _) fun h=>Bool.noConfusion (e1.2 h.1))
 ·refine R7.as ?_ (fun r h=>Ta _ _ h) Iff.rfl
  unfold Se;simp only[tnA];refine R7.run s3 ?_;cases b3 with
  | true=>exact R7.tt rfl ⟨b4,Yields.obind s4 (Yields.some _),e4.trans ⟨fun h=>⟨e3.1 rfl,h⟩,fun h=>h.2⟩⟩
  | false=>exact R7.ff rfl (.no (Yields.some _) fun h=>Bool.noConfusion (e3.2 h.1))
theorem TC {xs:List T} (hx : ∀x∈xs,MkG x) (hlen:xs.length≤1000) : ∀{d i:Nat},i+d=xs.length→Yields (fun k=>iV (Ra.hl env k eo) (.sl xs) (.int (i:Int)) (.sl (xs.take i))) [.sl xs]
 | 0,i,hd=>by
  refine ql _ _ _ ?_;unfold iF;simp only[tnA];rw[List.take_of_length_le (by omega)]
  exact Yields.ff (decide_eq_false (by omega)) (Yields.some _)
 | d+1,i,hd=>by
  have hi:i < xs.length:=by omega
  obtain ⟨s,is,e,hl,ho,hs⟩:=hx _ (List.getElem_mem hi);have en:(T.sl xs).nth i = .st [.str s,.sl is]:=by rw[bh hi,e]
  have hc:Yields (fun k=>cl env k oE [.st [.str s,.sl is]]) [.st [.str s,.sl is]]:=by
   refine yr _ ?_;unfold oM;simp only[tnA];exact Yields.tt (decide_eq_true (by rw[bD];simp;omega)) (Yields.some _)
  refine ql _ _ _ ?_;unfold iF;simp only[tnA];simp only[en,DV hi (show xs.length≤1048576 by omega)]
  refine Yields.tt (decide_eq_true (by omega)) (Yields.guard (by (simp <;> omega)) (Yields.obind hc ?_))
  simp only[tnA];have next:=TC hx hlen (d:=d) (i:=i+1) (by omega)
  rw[← List.take_append_getElem hi,e] at next;exact Yields.guard (decide_eq_true (by rw[bD,List.length_take];simp;omega)) next
theorem TD {xs:List T} (hx : ∀x∈xs,MkG x) (hlen:xs.length≤1000):Yields (fun k=>cl env k ki [.sl xs]) [.sl xs]:=
 xp _ (TC hx hlen (d:=xs.length) (i:=0) (by omega))
def ShR2 (o:List T):Prop:=∃s u:T,o = [s,u]∧ShG s∧ShG u
theorem U1 {bs:List T} (hv:JG bs):YP (fun k=>cl env k RM [.sl bs]) ShR2:=by
 refine YP.call ?_ (fun r h=>SP _ h)
 unfold RO;refine YP.obind (TI hv) ?_;rintro _ ⟨r,rfl,hr⟩;refine YP.obind (ct_at (q:=10) (hr.less (by omega))) ?_
 rintro _ ⟨ms,m,f,r1,rfl,hr1,ha,_⟩;refine YP.obind (QZ (q:=4) ha (hr1.less (by omega)) m f) ?_
 rintro _ ⟨s,r2,rfl,hr2,hs⟩;refine YP.obind (QZ (q:=1) ha (hr2.less (by omega)) m f) ?_
 rintro _ ⟨u,r3,rfl,hr3,hu⟩;refine YP.obind (bA (q:=0) hr3) ?_;rintro _ ⟨w,r4,rfl,_⟩;refine YP.ite (fun _=>?_) (fun _=>YP.some ⟨s,u,rfl,hs,hu⟩)
 obtain ⟨st,pl,rfl,l1,l2,h1,h2⟩:=id hs;refine YP.run (xq _ (Yields.obind (TD h1 l1) (Yields.obind (TD h2 l2) (Yields.some _)))) ?_;exact YP.some ⟨_,_,rfl,hs,st,pl,rfl,l1,l2,h1,h2⟩
theorem Tp {bs:List T} (hv:JG bs):Yields (fun k=>cl env k RU [.sl bs]) [.bool true]:=by
 refine YP.yields (YP.call ?_ (fun r h=>SW _ h))
 unfold RZ;refine YP.ite (fun _=>YP.some rfl) (fun _=>?_)
 refine YP.obind (U1 hv) ?_;rintro _ ⟨_,_,rfl,⟨a,p,rfl,l1,l2,h1,h2⟩,⟨c,q,rfl,l3,l4,h3,h4⟩⟩;obtain ⟨⟨b1,s1,e1⟩,⟨b2,s2,e2⟩⟩:=U0 h1 h2 h3 h4 l1 l2;have hb:b2=b1:=Bool.eq_iff_iff.2 (e2.trans e1.symm)
 subst hb;refine YP.run s2 (YP.run s1 (YP.ff (by simp) (YP.run (Sn h1 h2 l1 l2) (YP.run (Sn h3 h4 l3 l4) (YP.some ?_)))))
 have ht:((Ry a p).toList==(Ry c q).toList)=true↔(a=c∧p=q):=by
  rw[Sz];refine ⟨fun h=>U6 h1 h2 h3 h4 (by rw[Tl,Tl,h]),?_⟩
  rintro ⟨rfl,rfl⟩;rfl
 have:((Ry a p).toList==(Ry c q).toList)=b2:=Bool.eq_iff_iff.2 (ht.trans e1.symm)
 show [T.bool (b2==((Ry a p).toList==(Ry c q).toList))] = [.bool true]
 rw[this,beq_self_eq_true]
end Go.Proofs.YtdcnobhlknjnoaaGreatDoor.Ra
