/- A verified evaluator for the program, part Pl3 of this claim. -/
import Derived.Test.YtdmgnefllclaoaaGreatVPl2
import Derived.Test.YtdmgnefllclaoaaGreatVRe
import Derived.Test.YtdmgnefllclaoaaGreatVRf
import Derived.Test.YtdmgnefllclaoaaGreatVPl1
set_option linter.unusedSimpArgs false
set_option linter.unusedVariables false
namespace Go.Proofs.YtdmgnefllclaoaaGreat.Ra
open Go
def strB (n:Nat) (t:T):Bool:=match t with | .str s=>decide (s.size≤n) | _=>false
def tyvB (ks:List T) (t:T):Bool:=match t with | .str s=>cK ks s | _=>false
def numB (t:T):Bool:=match t with | .int _=>true | _=>false
def recvB (ks:List T) (m k:Nat):Bool:=match ((T.sl ks).nth m).nth k with
 | .st [.int a,.sl fs]=>decide (0≤a)&&decide (a≤15)&&decide (fs.length≤3)&&fs.all fun x=>match x with | .str s=>eV ks m k s | _=>false
 | _=>false
def rec4B (t:T):Bool:=match t with
 | .st [.int a,.sl fs]=>decide (-1≤a)&&decide (a≤16)&&decide (fs.length≤4)&&fs.all (strB 9)
 | _=>false
def fnvB (ks:List T) (g:T):Bool:=match g with
 | .st [.int _,.sl ags,.sl rs,.sl ls,.sl tk,.sl cd]=>decide (ags.length≤10)&&decide (rs.length≤10)&&decide (ls.length≤10)&&decide (tk.length≤10)&&decide (cd.length≤1000)&&decide (1≤cd.length)&&ags.all (tyvB ks)&&rs.all (tyvB ks)&&ls.all (tyvB ks)&&tk.all numB&&cd.all insR
 | _=>false
def modB (ks:List T) (t:T):Bool:=match t with
 | .st [.sl rs,.sl fs,.sl fr]=>decide (rs.length≤3)&&decide (fs.length≤10)&&decide (fr.length≤10)&&fr.all numB&&rs.all rec4B&&fs.all (fnvB ks)
 | _=>false
def kokB (ks:List T):Bool:=decide (ks.length≤3)&&(List.range ks.length).all fun m=>decide (((T.sl ks).nth m).es.length≤3)&&(List.range ((T.sl ks).nth m).es.length).all fun k=>recvB ks m k
theorem recv_of {ks:List T} {m k:Nat} (h:recvB ks m k=true):pP ks m k:=by
 unfold recvB at h;split at h
 ·rename_i a fs e
  simp only[Bool.and_eq_true,decide_eq_true_eq,List.all_eq_true] at h;refine ⟨a,fs,e,h.1.1.1,h.1.1.2,h.1.2,fun x hx=>?_⟩
  have:=h.2 x hx
  split at this
  ·exact ⟨_,rfl,this⟩
  ·cases this
 ·cases h
theorem rec4_of {t:T} (h:rec4B t=true):hM 4 t:=by
 unfold rec4B at h;split at h
 ·rename_i a fs
  simp only[Bool.and_eq_true,decide_eq_true_eq,List.all_eq_true] at h;refine ⟨a,fs,rfl,h.1.1.1,h.1.1.2,h.1.2,fun x hx=>?_⟩
  have:=h.2 x hx
  unfold strB at this;split at this
  ·exact ⟨_,rfl,of_decide_eq_true this⟩
  ·cases this
 ·cases h
theorem xf {ks xs:List T} (h : ∀x∈xs,tyvB ks x=true):dL ks xs:=fun x hx=>by
 have:=h x hx
 unfold tyvB at this;split at this
 ·exact ⟨_,rfl,this⟩
 ·cases this
theorem uD {xs:List T} (h : ∀x∈xs,numB x=true):cz xs:=fun x hx=>by
 have:=h x hx
 unfold numB at this;split at this
 ·exact ⟨_,rfl⟩
 ·cases this
theorem za {ks:List T} {g:T} (h:fnvB ks g=true):FnV ks g∧FnC g:=by
 unfold fnvB at h;split at h
 ·rename_i n ags rs ls tk cd
  simp only[Bool.and_eq_true,decide_eq_true_eq,List.all_eq_true] at h;obtain ⟨⟨⟨⟨⟨⟨⟨⟨⟨⟨h1,h2⟩,h3⟩,h4⟩,h5⟩,h6⟩,h7⟩,h8⟩,h9⟩,h10⟩,h11⟩:=h;exact ⟨⟨n,ags,rs,ls,tk,cd,rfl,h1,h2,h3,h4,h5,xf h7,xf h8,xf h9,uD h10,fun x hx=>xM (h11 x hx)⟩,h6⟩
 ·cases h
theorem zw {ks:List T} {x:T} (h:modB ks x=true):oH ks x∧kW BB x∧∀g∈(x.fld 1).es,FnC g:=by
 unfold modB at h;split at h
 ·rename_i rs fs fr
  simp only[Bool.and_eq_true,decide_eq_true_eq,List.all_eq_true] at h;obtain ⟨⟨⟨⟨⟨h1,h2⟩,h3⟩,h4⟩,h5⟩,h6⟩:=h;refine ⟨⟨rs,fs,fr,rfl,by omega,by omega,uD h4,fun g hg=>(za (h6 g hg)).1⟩,.mk ⟨rs,rfl,by rw[BBv];omega,fun x hx=>zL (rec4_of (h5 x hx))⟩ (by rw[BBv];omega) (fun g hg=>fn_is (za (h6 g hg)).1) (by rw[BBv];omega) (uD h4),fun g hg=>(za (h6 g hg)).2⟩
 ·cases h
theorem kok_of {ks:List T} (h:kokB ks=true):KOk ks:=by
 unfold kokB at h;simp only[Bool.and_eq_true,decide_eq_true_eq,List.all_eq_true,List.mem_range] at h;exact ⟨h.1,fun m hm=>⟨(h.2 m hm).1,fun k hk=>recv_of ((h.2 m hm).2 k hk)⟩⟩
theorem sh_of {ms:List T} (h:(decide (ms.length≤3)&&kokB (aY ms)&&ms.all (modB (aY ms)))=true):ShV ms:=by
 simp only[Bool.and_eq_true,decide_eq_true_eq,List.all_eq_true] at h;exact ⟨h.1.1,kok_of h.1.2,fun x hx=>(zw (h.2 x hx)).1,fun x hx=>(zw (h.2 x hx)).2.1,fun x hx=>(zw (h.2 x hx)).2.2⟩
theorem yR:ShV [aS]:=sh_of (by kernel_rfl)
theorem zb:ShV [aS,aU]:=sh_of (by kernel_rfl)
theorem BC:kW BB aS:=yR.2.2.2.1 _ (by simp)
theorem BP:kW BB aU:=zb.2.2.2.1 _ (by simp)
theorem run_ok {f:Nat} {ts r:List T} (n:Nat) (h : ∀k,cl env (k+n) f ts=some r):YP (fun k=>cl env k f ts) (fun o=>o=r):=
 ⟨r,⟨n,fun k hk=>by obtain ⟨j,rfl⟩ : ∃j,k=j+n:=⟨k - n,by omega⟩;exact h j⟩,rfl⟩
theorem coins_ok:YP (fun k=>cl env k qy []) (fun o=>o = [.str CK]):=run_ok 40 (fun k=>by kernel_rfl)
theorem games_ok:YP (fun k=>cl env k ml []) (fun o=>o = [.str CL]):=run_ok 40 (fun k=>by kernel_rfl)
inductive vd:List T→T→T→Prop
 | nil (m:T):vd [] m m
 | cons {l m m' m2:T} {ls:List T} : (∀k,cl env (k+120) aI [m,l]=some [m',.bool true])→T.st [m'.fld 0,m'.fld 1,m'.fld 2]=m'→vd ls m' m2→vd (l :: ls) m m2
theorem Cg {s:ByteArray} {xs:List T} {m2 z:T} (hl:xs.length≤1000) (ht : ∀k,cl env (k+120) eA [m2]=some [.str s]) : ∀{todo ys:List T} {m:T},vd todo m m2→xs=ys++todo→T.st [m.fld 0,m.fld 1,m.fld 2]=m→
  Yields (fun k=>eK (Ra.hl env k cn) (cl env k) (.str s) (.bool true) (.int (ys.length:Int)) z m (.sl xs)) [m2,.bool true]:=by
 intro todo ys m hr;induction hr generalizing ys with
 | nil m=>
  intro hx hm;unfold eK;simp only[tnA];simp only[hm];refine Yields.ff (decide_eq_false (by rw[hx];simp)) (Yields.ff rfl ?_)
  refine Yields.obind (r1:=[.str s]) ⟨120,fun k hk=>by obtain ⟨j,rfl⟩ : ∃j,k=j+120:=⟨k - 120,by omega⟩;exact ht j⟩ ?_
  simp only[tnA];exact Yields.ff (by simp) (Yields.some _)
 | @cons l m m' m2 ls h1 h2 h3 ih=>
  intro hx hm;have hlt:ys.length < xs.length:=by rw[hx];simp
  have en:(T.sl xs).nth ys.length=l:=by rw[bh hlt];simp[hx]
  have ew:IntKind.wrap .i64 ((ys.length:Int)+1)=((ys ++ [l]).length:Int):=by rw[bf (by omega) (by omega)];simp
  unfold eK;simp only[tnA];simp only[hm,en,ew];refine Yields.tt (decide_eq_true (by omega)) (Yields.tt rfl (Yields.tt (by (simp <;> omega)) ?_))
  refine Yields.obind (r1:=[m',.bool true]) ⟨120,fun k hk=>by obtain ⟨j,rfl⟩ : ∃j,k=j+120:=⟨k - 120,by omega⟩;exact h1 j⟩ ?_
  simp only[tnA];simp only[h2];exact sr _ _ _ _ _ _ (ih ht (by rw[hx];simp) h2)
theorem zK {s:ByteArray} {xs:List T} {m2:T} (hs:s.size≤4000) (hl:xs.length≤1000) (h1 : ∀k,cl env (k+500) qZ [.str s]=some [.sl xs,.bool true]) (ht : ∀k,cl env (k+120) eA [m2]=some [.str s])
  (h:vd xs (.st [.sl [],.sl [],.sl []]) m2) (h3:T.st [m2.fld 0,m2.fld 1,m2.fld 2]=m2):YP (fun k=>cl env k eN [.str s]) (fun o=>o = [m2]):=by
 refine YP.of (r:=[m2]) ?_ rfl;refine xw _ ?_;unfold ny;refine Yields.obind (r1:=[m2,.bool true]) ?_ ?_
 ·refine tU _ ?_;unfold kz;simp only[tnA];refine Yields.ff (decide_eq_false (by omega)) ?_
  refine Yields.obind (r1:=[.sl xs,.bool true]) ⟨500,fun k hk=>by obtain ⟨j,rfl⟩ : ∃j,k=j+500:=⟨k - 500,by omega⟩;exact h1 j⟩ ?_
  simp only[tnA];exact sq _ _ _ _ _ _ (Cg hl ht (ys:=[]) h rfl rfl)
 ·simp only[tnA];simp only[h3];exact Yields.some _
theorem AX:YP (fun k=>cl env k eN [.str CK]) (fun o=>o = [aS]):=
 zK (by decide +kernel) (by decide +kernel) CT CY (.cons rc0 rfl (.cons rc1 rfl (.cons rc2 rfl (.cons rc3 rfl (.cons rc4 rfl (.cons rc5 rfl (.cons rc6 rfl (.cons rc7 rfl (.cons rc8 rfl (.cons rc9 rfl (.cons rc10 rfl (.cons rc11 rfl (.cons rc12 rfl (.cons rc13 rfl (.cons rc14 rfl (.cons rc15 rfl (.cons rc16 rfl (.cons rc17 rfl (.cons rc18 rfl (.cons rc19 rfl (.cons rc20 rfl (.cons rc21 rfl (.cons rc22 rfl (.cons rc23 rfl (.cons rc24 rfl (.cons rc25 rfl (.cons rc26 rfl (.cons rc27 rfl (.cons rc28 rfl (.cons rc29 rfl (.cons rc30 rfl (.cons rc31 rfl (.cons rc32 rfl (.cons rc33 rfl (.cons rc34 rfl (.cons rc35 rfl (.cons rc36 rfl (.cons rc37 rfl (.cons rc38 rfl (.cons rc39 rfl (.cons rc40 rfl (.cons rc41 rfl (.nil _))))))))))))))))))))))))))))))))))))))))))) rfl
theorem Bh:YP (fun k=>cl env k eN [.str CL]) (fun o=>o = [aU]):=
 zK (by decide +kernel) (by decide +kernel) CU CZ (.cons rg0 rfl (.cons rg1 rfl (.cons rg2 rfl (.cons rg3 rfl (.cons rg4 rfl (.cons rg5 rfl (.cons rg6 rfl (.cons rg7 rfl (.cons rg8 rfl (.cons rg9 rfl (.cons rg10 rfl (.cons rg11 rfl (.cons rg12 rfl (.cons rg13 rfl (.cons rg14 rfl (.cons rg15 rfl (.cons rg16 rfl (.cons rg17 rfl (.cons rg18 rfl (.cons rg19 rfl (.cons rg20 rfl (.cons rg21 rfl (.cons rg22 rfl (.cons rg23 rfl (.cons rg24 rfl (.cons rg25 rfl (.cons rg26 rfl (.cons rg27 rfl (.cons rg28 rfl (.cons rg29 rfl (.cons rg30 rfl (.cons rg31 rfl (.cons rg32 rfl (.cons rg33 rfl (.nil _))))))))))))))))))))))))))))))))))) rfl
def ve (q:Nat) (o:List T):Prop:=∃(ms:List T) (r':T),o = [.sl ms,r']∧Rd q r'∧ShV ms
theorem A9 {ks:List T} {x:T} (h:oH ks x) {l:List T} (hl:l.length≤1000) (hn:cz l):oH ks (.st (x.fs.set 2 (.sl l))):=by
 obtain ⟨rs,fs,fr,rfl,h1,h2,h3,h4⟩:=h;exact ⟨rs,fs,l,rfl,h1,hl,hn,h4⟩
theorem Ci {ms:List T} (h:ShV ms) (hl:0 < ms.length):ShV (ms.set 0 (.st (((T.sl ms).nth 0).fs.set 2 (.sl [.int 1])))):=by
 obtain ⟨h1,h2,h3,h4,h5⟩:=h;have e0:(T.sl ms).nth 0=ms[0]:=bh hl
 have hm:ms[0]∈ms:=List.getElem_mem hl
 rw[e0];have ek:aY (ms.set 0 (.st (ms[0].fs.set 2 (.sl [.int 1]))))=aY ms:=by
  obtain ⟨rs,fs,fr,e,_⟩:=h3 _ hm;rcases ms with _ | ⟨a,ms⟩
  ·cases hl
  ·have e:a=_:=e
   subst e;rfl
 have key : ∀{P:T→Prop},(∀x∈ms,P x)→P (.st (ms[0].fs.set 2 (.sl [.int 1])))→∀x∈ms.set 0 (.st (ms[0].fs.set 2 (.sl [.int 1]))),P x:=fun hp h0 x hx=>by
  rcases List.mem_or_eq_of_mem_set hx with hx | rfl
  ·exact hp x hx
  ·exact h0
 refine ⟨by rw[List.length_set];exact h1,by rw[ek];exact h2,by rw[ek];exact key h3 (A9 (h3 _ hm) (by simp) (dc 1)),key h4 ?_,key h5 ?_⟩
 ·have:=h4 _ hm
  generalize ms[0]=y at this ⊢
  cases this with
  | mk a b c d e=>exact .mk a b c (by rw[BBv];simp) (dc 1)
 ·have:=h5 _ hm
  obtain ⟨rs,fs,fr,e,_⟩:=h3 _ hm;generalize ms[0]=y at this e ⊢
  subst e;exact this
theorem mod3 {x:T} (h:kW BB x):T.st [x.fld 0,x.fld 1,x.fld 2]=x:=by cases h;rfl
theorem My {q:Nat} {ms:List T} {r:T} (h:ShV ms) (hrd:Rd (q+1) r):YP (fun k=>bif (decide ((ms.length:Int) > (1:Int))) then
 obind (cl env k aG [r, (T.int (3 : Int))]) fun r2 =>
 bif ((rt r2 0).i == (0 : Int)) then
 bif (decide (0 ≤ (0 : Int)) && decide (0 < ms.length)) then
 some [(T.put (T.sl ms) [.idx 0, .fld 2] (T.sl [(T.int (1 : Int))])), (rt (r2.drop 1) 0)]
 else
 none
 else
 some [(T.sl ms), (rt (r2.drop 1) 0)]
 else
 some [(T.sl ms), r]) (ve q) := by
 refine YP.ite (fun hc=>?_) (fun hc=>YP.some ⟨ms,r,rfl,hrd.less (by omega),h⟩)
 have hc:=of_decide_eq_true hc;refine YP.obind (bA hrd) ?_;rintro _ ⟨v,r1,rfl,hr1,_⟩;simp only[tnA];refine YP.ite (fun _=>?_) (fun _=>YP.some ⟨ms,r1,rfl,hr1,h⟩)
 have hl:0 < ms.length:=by omega
 exact YP.guard (by rw[decide_eq_true hl];rfl) (YP.some ⟨_,r1,rfl,hr1,Ci h hl⟩)
theorem shelf_0 {q:Nat} : ∀{d:Nat} {ms:List T} {r:T},ShV ms→Rd (q+1+4000 * d) r→YP (fun k=>da (hl env k dr) (.int (d:Int)) r (.sl ms)) (ve q):=by
 intro d;induction d with
 | zero=>
  intro ms r h hrd;refine YP.call ?_ (fun r h=>pm _ _ _ h)
  unfold gT;simp only[tnA];exact YP.ff (decide_eq_false (by omega)) (My h hrd)
 | succ d ih=>
  intro ms r h hrd;refine YP.call ?_ (fun r h=>pm _ _ _ h)
  unfold gT;simp only[tnA];refine YP.tt (decide_eq_true (by omega)) ?_
  refine YP.ite (fun hc=>?_) (fun hc=>My h (hrd.less (by omega)))
  have hc:=of_decide_eq_true hc;refine YP.obind (BD (q:=q+1+4000 * d) h (by omega) (hrd.less (by omega))) ?_
  rintro _ ⟨x,r1,rfl,hr1,hx,_⟩;simp only[tnA];have ex:T.st [x.fld 0,x.fld 1,x.fld 2]=x:=mod3 (hx.2.2.2.1 x (by simp))
  have em:IntKind.wrap .i64 (((d+1:Nat):Int) - 1)=(d:Int):=by obtain ⟨_,_,_,_,_,_,_⟩:=hrd;rw[bf (by omega) (by omega)];omega
  simp only[ex,em];refine YP.guard (decide_eq_true (by rw[bD];simp;omega)) ?_
  exact ih hx hr1
theorem ct_shelf {q:Nat} {r:T} (hrd:Rd (q+8003) r):YP (fun k=>cl env k mn [r]) (ve q):=by
 refine YP.call ?_ (fun r h=>wC _ h)
 unfold mE;refine YP.obind (bA (q:=q+8002) hrd) ?_;rintro _ ⟨v,r1,rfl,hr1,h0,h1,_⟩;simp only[tnA];have h1:=h1 (by omega)
 have fin : ∀{ms:List T},ShV ms→YP (fun k=>obind (cl env k aG [r1,(T.int (3:Int))]) fun r7=>da (hl env k dr) (rt r7 0) (rt (r7.drop 1) 0) (T.sl ms)) (ve q):=fun {ms} h=>by
  refine YP.obind (bA (q:=q+8001) (hr1.less (by omega))) ?_
  rintro _ ⟨w,r2,rfl,hr2,h2,h3,_⟩;simp only[tnA];have h3:=h3 (by omega)
  have ew:w=(w.toNat:Int):=by omega
  rw[ew];exact shelf_0 h (hr2.less (by omega))
 refine YP.ite (fun hc=>?_) (fun hc=>?_)
 ·refine YP.obind coins_ok ?_;rintro _ rfl;refine YP.obind AX ?_;rintro _ rfl;have e1 : ∀a b c:List T,T.st [(T.st [.sl a,.sl b,.sl c]).fld 0,(T.st [.sl a,.sl b,.sl c]).fld 1,(T.st [.sl a,.sl b,.sl c]).fld 2]=T.st [.sl a,.sl b,.sl c]:=fun _ _ _=>rfl
  have ec:T.st [aS.fld 0,aS.fld 1,aS.fld 2]=aS:=mod3 BC
  simp only[rt0,ec];refine YP.guard (decide_eq_true (by rw[bD];simp)) ?_
  refine YP.ite (fun hc=>?_) (fun hc=>fin yR)
  refine YP.obind games_ok ?_;rintro _ rfl;refine YP.obind Bh ?_;rintro _ rfl;have eg:T.st [aU.fld 0,aU.fld 1,aU.fld 2]=aU:=mod3 BP
  simp only[rt0,eg];refine YP.guard (decide_eq_true (by rw[bD];simp)) ?_
  exact fin zb
 ·have hc:=of_decide_eq_false hc;refine YP.ff (decide_eq_false (by omega)) ?_
  have h0:ShV []:=⟨by simp,⟨by simp[aY],fun m hm=>by simp[aY] at hm⟩,fun x hx=>absurd hx (by simp),fun x hx=>absurd hx (by simp),fun x hx=>absurd hx (by simp)⟩
  exact fin h0
def H4 (x y:T):Bool:=Fv (x.fld 0).i (x.fld 1) (y.fld 0).i (y.fld 1)
def ElemOk (ks:List T) (x:T):Prop:=∃(o:Int) (v:T),x = .st [.int o,v]∧0≤o∧o≤3∧J2 ks v∧nQ ks (v.fld 0).s=true
theorem Im {ks es:List T} (h:EK ks es) {j:Nat} (hj:j < es.length):ElemOk ks es[j]:=by
 obtain ⟨o,v,e,h1,h2,h3,h4,_⟩:=h.2 j hj;rw[List.getElem?_eq_getElem hj] at e;exact ⟨o,v,Option.some.inj e,h1,h2,h3,h4⟩
theorem In {ks es:List T} (h:EK ks es) {j:Nat} (hj:j+1 < es.length):H4 es[j] es[j+1]=true:=by
 obtain ⟨o,v,e,_,_,_,_,h5⟩:=h.2 (j+1) hj;obtain ⟨p,u,e2,hb⟩:=h5 (by omega)
 have e2:es[j]?=some (.st [.int p,u]):=e2
 rw[List.getElem?_eq_getElem hj] at e;rw[List.getElem?_eq_getElem (by omega)] at e2
 rw[Option.some.inj e,Option.some.inj e2];exact hb
theorem Lx {x y z:T} (h1:H4 x y=true) (h2:H4 y z=true):H4 x z=true:=NB h1 h2
theorem befT_irr (x:T):H4 x x=false:=by
 unfold H4 Fv;rw[decide_eq_false (by omega : ¬(x.fld 0).i < (x.fld 0).i),JD,Bool.and_false];rfl
theorem NA {x y:T} (h:H4 x y=true):H4 y x=false:=by
 cases e:H4 y x with
 | false=>rfl
 | true=>have:=Lx h e;rw[befT_irr] at this;cases this
theorem LK {ks es:List T} (h:EK ks es) {i j:Nat} (hij:i < j) (hj:j < es.length):H4 es[i] es[j]=true:=by
 induction j with
 | zero=>omega
 | succ j ih=>
  by_cases e:i=j
  ·subst e;exact In h hj
  ·exact Lx (ih (by omega) (by omega)) (In h hj)
theorem Nv {ks es:List T} (h36:es.length≤36) (he : ∀j (h:j < es.length),ElemOk ks es[j]) (hb : ∀j (h:j+1 < es.length),H4 es[j] es[j+1]=true):EK ks es:=by
 refine ⟨h36,fun j hj=>?_⟩
 obtain ⟨o,v,e,h1,h2,h3,h4⟩:=he j hj;refine ⟨o,v,by rw[List.getElem?_eq_getElem hj,e],h1,h2,h3,h4,fun h0=>?_⟩
 obtain ⟨p,u,e',_⟩:=he (j - 1) (by omega)
 refine ⟨p,u,by rw[List.getElem?_eq_getElem (by omega),e'],?_⟩
 have:=hb (j - 1) (by omega)
 have e2:es[j - 1+1]'(by omega)=es[j]:=by congr 1;omega
 rw[e2,e,e'] at this;exact this
theorem KI {ow:Int} {s:ByteArray} {x:T} : EP ow s x=true↔(x.fld 0).i=ow∧((x.fld 1).fld 0).s.toList=s.toList:=by
 unfold EP;rw[Bool.and_eq_true,beq_iff_eq,beq_iff_eq]
theorem No {ow:Int} {s:ByteArray} {x y:T} (h1:EP ow s x=true) (h2:EP ow s y=true):H4 x y=false:=by
 rw[KI] at h1 h2;unfold H4 Fv;rw[h1.1,h2.1,h1.2,h2.2,decide_eq_false (by omega : ¬ow < ow),JD,Bool.and_false];rfl
theorem Kp {ks es:List T} (h:EK ks es) {ow:Int} {s:ByteArray} {i j:Nat} (hi:i < es.length) (hj:j < es.length) (h1:EP ow s es[i]=true) (h2:EP ow s es[j]=true):i=j:=by
 rcases Nat.lt_trichotomy i j with e | e | e
 ·have:=LK h e hj;rw[No h1 h2] at this;cases this
 ·exact e
 ·have:=LK h e hi;rw[No h2 h1] at this;cases this
def less (es:List T) (i:Nat):List T:=es.take i++es.drop (i+1)
theorem Il {es:List T} {i:Nat} (h:i < es.length):(less es i).length=es.length - 1:=by
 unfold less;simp;omega
theorem Gy {es:List T} {i j:Nat} (hi:i < es.length) (h:j < (less es i).length):(less es i)[j]=if h':j < i then es[j] else es[j+1]'(by have:=Il hi;omega):=by
 have h0:j < (es.take i++es.drop (i+1)).length:=h
 show (es.take i++es.drop (i+1))[j]'h0=_
 rw[List.getElem_append];split
 ·rename_i h1
  rw[List.length_take] at h1;rw[dif_pos (by omega),List.getElem_take]
 ·rename_i h1
  rw[List.length_take] at h1;rw[dif_neg (by omega),List.getElem_drop]
  congr 1
  rw[List.length_take];omega
theorem Nu {ks es:List T} (h:EK ks es) {i:Nat} (hi:i < es.length):EK ks (less es i):=by
 have hl:=Il hi;have h36:=h.1;refine Nv (by omega) (fun j hj=>?_) (fun j hj=>?_)
 ·rw[Gy hi];split
  ·exact Im h _
  ·exact Im h _
 ·rw[Gy hi,Gy hi];split <;> split
  ·exact In h _
  ·exact LK h (by omega) _
  ·omega
  ·exact In h _
theorem Nt {ks es:List T} (h:EK ks es) {i:Nat} (hi:i < es.length) {ow:Int} {s:ByteArray} (hh:EP ow s es[i]=true) : ∀x∈less es i,EP ow s x=false:=by
 intro x hx;obtain ⟨j,hj,rfl⟩:=List.getElem_of_mem hx;have hl:=Il hi;rw[Gy hi hj];cases e:EP ow s (if h':j < i then es[j] else es[j+1]'(by omega)) with
 | false=>rfl
 | true=>
  split at e
  ·have:=Kp h hi _ hh e;omega
  ·have:=Kp h hi _ hh e;omega
def more (es:List T) (p:Nat) (x:T):List T:=es.take p++x :: es.drop p
theorem Ja {es:List T} {p:Nat} {x:T} (h:p≤es.length):(more es p x).length=es.length+1:=by
 unfold more;simp;omega
theorem HL {es:List T} {p j:Nat} {x:T} (hp:p≤es.length) (h:j < (more es p x).length):(more es p x)[j]=if h':j < p then es[j] else if h2:j=p then x else es[j - 1]'(by have:=Ja (x:=x) hp;omega):=by
 have h0:j < (es.take p++x :: es.drop p).length:=h
 show (es.take p++x :: es.drop p)[j]'h0=_
 rw[List.getElem_append];split
 ·rename_i h1
  rw[List.length_take] at h1;rw[dif_pos (by omega),List.getElem_take]
 ·rename_i h1
  rw[List.length_take] at h1;rw[dif_neg (by omega),List.getElem_cons]
  split
  ·rename_i h2
   rw[List.length_take] at h2;rw[dif_pos (by omega)]
  ·rename_i h2
   rw[List.length_take] at h2;rw[dif_neg (by omega),List.getElem_drop]
   congr 1
   rw[List.length_take];omega
theorem JW {es:List T} {ow:Int} {v:T} {p:Nat} (hes : ∀x∈es,Eo BB x) (hp:Iq es ow v p):(∀j (h:j < es.length),j < p→H4 es[j] (.st [.int ow,v])=true)∧∀h:p < es.length,H4 es[p] (.st [.int ow,v])=false:=by
 constructor
 ·intro j h hj;obtain ⟨o,u,e,_⟩:=hes _ (List.getElem_mem h);rw[e];exact hp.2.1 j o u (by rw[List.getElem?_eq_getElem h,e]) hj
 ·intro h;obtain ⟨o,u,e,_⟩:=hes _ (List.getElem_mem h);rw[e];exact hp.2.2 o u (by rw[List.getElem?_eq_getElem h,e])
theorem more_ok {ks es:List T} (h:EK ks es) (hes : ∀x∈es,Eo BB x) {ow:Int} {v:T} {p:Nat} (hp:Iq es ow v p) (h36:es.length < 36) (h0:0≤ow) (h3:ow≤3) (hk:J2 ks v) (hkin:nQ ks (v.fld 0).s=true)
  (hno : ∀x∈es,EP ow (v.fld 0).s x=false):EK ks (more es p (.st [.int ow,v])):=by
 have hpl:=hp.1;have hl:=Ja (x:=T.st [.int ow,v]) hpl
 obtain ⟨b1,b2⟩:=JW hes hp;have b3 : ∀h:p < es.length,H4 (.st [.int ow,v]) es[p]=true:=fun h=>by
  have h1:=b2 h;obtain ⟨o,u,e,_⟩:=hes _ (List.getElem_mem h);have h2:=hno _ (List.getElem_mem h);rw[e] at h1 h2 ⊢;have:=bef_tri (u:=u) (v:=v) h2
  have h1:Fv o u ow v=false:=h1
  rw[this] at h1;show Fv ow v o u=true
  cases hb:Fv ow v o u with
  | true=>rfl
  | false=>rw[hb] at h1;cases h1
 refine Nv (by omega) (fun j hj=>?_) (fun j hj=>?_)
 ·rw[HL hpl];split
  ·exact Im h _
  ·split
   ·exact ⟨ow,v,rfl,h0,h3,hk,hkin⟩
   ·exact Im h _
 ·rw[HL hpl,HL hpl];by_cases c1:j+1 < p
  ·rw[dif_pos (by omega),dif_pos c1];exact In h _
  ·by_cases c2:j+1=p
   ·rw[dif_pos (by omega),dif_neg c1,dif_pos c2];exact b1 j _ (by omega)
   ·by_cases c3:j=p
    ·subst c3;rw[dif_neg (by omega),dif_pos rfl,dif_neg c1,dif_neg c2]
     exact b3 (by omega)
    ·rw[dif_neg (by omega),dif_neg c3,dif_neg c1,dif_neg c2]
     have:=In h (j:=j - 1) (by omega)
     have e2:es[j - 1+1]'(by omega)=es[j+1 - 1]'(by omega):=by congr 1;omega
     rw[e2] at this;exact this
theorem N8 {ks es:List T} (h:EK ks es) {i:Nat} (hi:i < es.length) {o:Int} {u v:T} (e:es[i] = .st [.int o,u]) (hs:(v.fld 0).s.toList=(u.fld 0).s.toList):Iq (less es i) o v i:=by
 have hl:=Il hi;have same1 : ∀{p:Int} {w:T},Fv p w o v=H4 (.st [.int p,w]) es[i]:=fun {p w}=>by
  rw[e];show Fv p w o v=Fv p w o u
  unfold Fv;rw[hs]
 refine ⟨by omega,fun j p w hj hji=>?_,fun p w hj=>?_⟩
 ·have hjl:j < (less es i).length:=by
   rcases Nat.lt_or_ge j (less es i).length with h | h
   ·exact h
   ·rw[List.getElem?_eq_none h] at hj;cases hj
  rw[List.getElem?_eq_getElem hjl,Gy hi,dif_pos hji] at hj;rw[same1,← Option.some.inj hj];exact LK h hji hi
 ·have hjl:i < (less es i).length:=by
   rcases Nat.lt_or_ge i (less es i).length with h | h
   ·exact h
   ·rw[List.getElem?_eq_none h] at hj;cases hj
  rw[List.getElem?_eq_getElem hjl,Gy hi,dif_neg (by omega)] at hj
  rw[same1,← Option.some.inj hj];exact NA (In h (by omega))
theorem Na {es:List T} (hes : ∀x∈es,Eo BB x) {ow:Int} {v:T} {p q:Nat} (h1:Iq es ow v p) (h2:Iq es ow v q):p=q:=by
 obtain ⟨a1,a2⟩:=JW hes h1;obtain ⟨b1,b2⟩:=JW hes h2;have:=h1.1;have:=h2.1
 rcases Nat.lt_trichotomy p q with e | e | e
 ·have:=b1 p (by omega) e;rw[a2 (by omega)] at this;cases this
 ·exact e
 ·have:=a1 q (by omega) e;rw[b2 (by omega)] at this;cases this
theorem Mw {es:List T} {i:Nat} (hi:i < es.length) (x:T):more (less es i) i x=es.set i x:=by
 have hl:=Il hi;refine List.ext_getElem (by rw[Ja (by omega),List.length_set];omega) fun j h1 h2=>?_
 rw[HL (by omega),List.getElem_set]
 by_cases c1:j < i
 ·rw[dif_pos c1,if_neg (by omega),Gy hi,dif_pos c1]
 ·by_cases c2:j=i
  ·rw[dif_neg c1,dif_pos c2,if_pos c2.symm]
  ·rw[dif_neg c1,dif_neg c2,if_neg (fun e=>c2 e.symm),Gy hi,dif_neg (by omega)]
   congr 1;omega
theorem NI {es:List T} {p:Nat} (hp:p≤es.length) (x:T):less (more es p x) p=es:=by
 have hl:=Ja (x:=x) hp
 have hl2:=Il (es:=more es p x) (i:=p) (by omega)
 refine List.ext_getElem (by omega) fun j h1 h2=>?_
 rw[Gy (by omega)]
 split
 ·rename_i c;rw[HL hp,dif_pos c]
 ·rename_i c;rw[HL hp,dif_neg (by omega),dif_neg (by omega)]
  congr 1
theorem more_at {es:List T} {p:Nat} (hp:p≤es.length) (x:T) : ∃h:p < (more es p x).length,(more es p x)[p]=x:=by
 have hl:=Ja (x:=x) hp
 exact ⟨by omega,by rw[HL hp,dif_neg (by omega),dif_pos rfl]⟩
theorem Fl (b:Nat):FV b (.sl []):=⟨[],rfl,by simp,fun x h=>by cases h⟩
def M2:T:=.st [.str ⟨#[]⟩,.int 0,.sl [],.sl []]
theorem K5 (b:Nat):EB b M2:=.mk (by rw[jZ];simp[ByteArray.size]) (by omega) (by omega) (by simp) (by simp) (fun x h=>by cases h) (fun x h=>by cases h)
def KYes (ks:List T):Prop:=Yields (fun k=>cl env k na [.sl ks]) [.bool true]
theorem GC (ks es:List T) (hk:HO BB (.sl ks)) (hl:FV BB (.sl es)) : ∃c,Yields (fun k=>cl env k Ep [.sl ks,.sl es]) [.bool c]∧Yields (fun k=>cl env k Ek [.sl ks,.sl es]) [.bool c]∧
  (c=true→(∀x∈ks,yD BB x)∧v8 ks ks.length 0∧Ir ks ks.length∧ks.length≤3∧EK ks es∧KYes ks)∧(KYes ks→EK ks es→c=true):=by
 obtain ⟨c,y1,y2,y3,y4⟩:=Nm (DU (Nat.le_refl _)) ks es hk hl;refine ⟨c,y1,y2,fun h=>?_,y4⟩
 obtain ⟨a1,a2,a3,a4,a5⟩:=y3 h;refine ⟨a1,a2,a3,a4,a5,?_⟩;obtain ⟨ks',he,hk1,hk2⟩:=hk;cases he;obtain ⟨c0,z1,_,_⟩:=IM hk2 (DU (Nat.le_refl _)) hk1;cases c0 with
 | true=>exact z1
 | false=>
  have:=Yields.uniq y1 (Ie _ _ (Yields.obind z1 (Yields.ff rfl (Yields.some _))))
  rw[h] at this;cases this
section
variable {es:List T} {i:Nat}
theorem MB (h:i < es.length) (hl:es.length≤BB):IntKind.wrap .i64 ((i:Int)+1)=((i+1:Nat):Int):=by unfold BB at hl;rw[bf (by omega) (by omega)];rfl
theorem Mv (h:i < es.length) (hl:es.length≤BB):([]++(es.take i).drop 0)++(es.take es.length).drop (IntKind.wrap .i64 ((i:Int)+1)).toNat=es.take i++es.drop (i+1):=by
 rw[MB h hl,Int.toNat_natCast,List.nil_append,List.drop_zero,List.take_length]
theorem c1_ok (h:i < es.length):(decide (0≤(0:Int))&&(decide ((0:Int)≤(i:Int))&&(decide ((i:Int)≤(es.length:Int))&&decide ((es.length:Int)≤(es.length:Int)))))=true:=by
 simp only[Bool.and_eq_true,decide_eq_true_eq];exact ⟨by omega,by omega,by omega,by omega⟩
theorem c2_ok (hl:es.length≤BB):decide (([]:List T).length+((es.take i).drop 0).length≤LIM)=true:=by
 apply decide_eq_true;unfold BB at hl;unfold LIM;simp;omega
theorem c3_ok (h:i < es.length) (hl:es.length≤BB):(decide (0≤(IntKind.wrap .i64 ((i:Int)+(1:Int))))&&(decide ((IntKind.wrap .i64 ((i:Int)+(1:Int)))≤(es.length:Int))&&(decide ((es.length:Int)≤(es.length:Int))&&decide ((es.length:Int)≤(es.length:Int)))))=true:=by
 rw[MB h hl];simp only[Bool.and_eq_true,decide_eq_true_eq];exact ⟨by omega,by omega,by omega,by omega⟩
theorem c4_ok (hl:es.length≤BB):decide ((([]:List T)++((es.take i).drop 0)).length+((es.take es.length).drop ((IntKind.wrap .i64 ((i:Int)+(1:Int))).toNat)).length≤LIM)=true:=by
 apply decide_eq_true;unfold BB at hl;unfold LIM;simp;omega
theorem less_s (h:i < es.length) (hl:es.length≤BB):Yields (fun k=>cl env k Hx [.sl es,.int (i:Int)]) [.sl (es.take i++es.drop (i+1))]:=by
 refine N7 _ _ (Yields.tt (c1_ok h) (Yields.tt (c2_ok hl) (Yields.tt (c3_ok h hl) (Yields.tt (c4_ok hl) ?_))));show Yields (fun _=>some [T.sl (([]++(es.take i).drop 0)++(es.take es.length).drop (IntKind.wrap .i64 ((i:Int)+1)).toNat)]) _
 rw[Mv h hl];exact Yields.some _
end
theorem Js (ks es:List T) (hk:HO BB (.sl ks)) (hl:FV BB (.sl es)) (ow:Int) (s:ByteArray) :
  ∃(ts:List T) (v:T) (c:Bool),Yields (fun k=>cl env k Hf [.sl ks,.sl es,.int ow,.str s]) [.sl ts,v,.bool c]∧Yields (fun k=>cl env k F8 [.sl ks,.sl es,.int ow,.str s]) [.sl ts,v,.bool c]∧
   FV BB (.sl ts)∧EB BB v∧(c=true→KYes ks∧EK ks es∧∃(i:Nat) (hi:i < es.length),EP ow s es[i]=true∧ts=less es i∧v=es[i].fld 1)∧
   (KYes ks→EK ks es→(∃(i:Nat) (hi:i < es.length),EP ow s es[i]=true)→c=true):=by
 obtain ⟨c,y1,y2,y3,y4⟩:=GC ks es hk hl;obtain ⟨es',he,hl1,hl2⟩:=hl;cases he;obtain ⟨r,z1,z2,z3⟩:=IX (DU (Nat.le_refl _)) es hl1 ow s;rcases z3 with ⟨rfl,hno⟩ | ⟨i,hi,rfl,hh,_⟩
 ·refine ⟨[],M2,false,?_,Hq _ _ _ _ (Yields.obind z2 (Yields.tt rfl (Yields.some _))),Fl _,K5 _,fun h=>Bool.noConfusion h,fun _ _ ⟨i,hi,h⟩=>?_⟩
  ·cases c with
   | false=>exact Gb _ _ _ _ (Yields.obind z1 (Yields.obind y1 (Yields.tt rfl (Yields.some _))))
   | true=>exact Gb _ _ _ _ (Yields.obind z1 (Yields.obind y1 (Yields.ff rfl (Yields.tt rfl (Yields.some _)))))
  ·rw[hno _ (List.getElem_mem hi)] at h;cases h
 ·have hn:decide ((T.int (i:Int)).i < (0:Int))=false:=decide_eq_false (by show ¬(i:Int) < 0;omega)
  cases c with
  | false=>exact ⟨[],M2,false,Gb _ _ _ _ (Yields.obind z1 (Yields.obind y1 (Yields.tt rfl (Yields.some _)))),Hq _ _ _ _ (Yields.obind z2 (Yields.ff hn (Yields.obind y2 (Yields.tt rfl (Yields.some _))))),Fl _,K5 _,fun h=>Bool.noConfusion h,fun a b _=>y4 a b⟩
  | true=>
   obtain ⟨_,_,_,_,a5,a6⟩:=y3 rfl;obtain ⟨o,v,hx,_,_,hv⟩:=hl2 _ (List.getElem_mem hi);have hn1:((T.sl es).nth (T.int (i:Int)).i.toNat).fld 1=v:=by rw[vQ hi,hx];rfl
   have k1:=J8 v hv;have k2:=Ly v hv;rw[← hn1] at k1 k2;have hmem : ∀x∈es.take i++es.drop (i+1),Eo BB x:=fun x hx=>hl2 x (by
    rcases List.mem_append.1 hx with hx | hx
    ·exact List.mem_of_mem_take hx
    ·exact List.mem_of_mem_drop hx)
   have hlen:(es.take i++es.drop (i+1)).length≤BB:=by simp;omega
   have kc:=Ma _ hlen hmem;have hll:=Mv hi hl1;refine ⟨es.take i++es.drop (i+1),v,true,Gb _ _ _ _ (Yields.obind z1 (Yields.obind y1 (Yields.ff rfl (Yields.ff hn (Yields.obind (Mb es hl1 hl2) (Yields.obind (less_s hi hl1) (Yields.tt (pw hi) (Yields.obind k1 ?_)))))))),
    Hq _ _ _ _ (Yields.obind z2 (Yields.ff hn (Yields.obind y2 (Yields.ff rfl (Yields.tt (c1_ok hi) (Yields.tt (c2_ok hl1) (Yields.tt (c3_ok hi hl1) (Yields.tt (c4_ok hl1) (Yields.obind (r1:=[.sl (es.take i++es.drop (i+1))]) ?_ (Yields.tt (pw hi) (Yields.obind k2 ?_))))))))))),⟨_,rfl,hlen,hmem⟩,hv,fun _=>⟨a6,a5,i,hi,hh,rfl,by rw[hx];rfl⟩,fun _ _ _=>rfl⟩
   ·show Yields (fun _=>some [T.sl (es.take i++es.drop (i+1)),T.st [(((T.sl es).nth (T.int (i:Int)).i.toNat).fld 1).fld 0,(((T.sl es).nth (T.int (i:Int)).i.toNat).fld 1).fld 1,(((T.sl es).nth (T.int (i:Int)).i.toNat).fld 1).fld 2,(((T.sl es).nth (T.int (i:Int)).i.toNat).fld 1).fld 3],T.bool true]) _
    rw[hn1,st4 hv];exact Yields.some _
   ·show Yields (fun k=>cl env k Ex [T.sl (([]++(es.take i).drop 0)++(es.take es.length).drop (IntKind.wrap .i64 ((i:Int)+1)).toNat)]) _
    rw[hll];exact kc
   ·show Yields (fun _=>some [T.sl (es.take i++es.drop (i+1)),T.st [(((T.sl es).nth (T.int (i:Int)).i.toNat).fld 1).fld 0,(((T.sl es).nth (T.int (i:Int)).i.toNat).fld 1).fld 1,(((T.sl es).nth (T.int (i:Int)).i.toNat).fld 1).fld 2,(((T.sl es).nth (T.int (i:Int)).i.toNat).fld 1).fld 3],T.bool true]) _
    rw[hn1,st4 hv];exact Yields.some _
theorem get_full (ks es:List T) (hk:HO BB (.sl ks)) (hl:FV BB (.sl es)) (ow:Int) (s:ByteArray) :
  ∃(v:T) (c:Bool),Yields (fun k=>cl env k HC [.sl ks,.sl es,.int ow,.str s]) [v,.bool c]∧Yields (fun k=>cl env k Hz [.sl ks,.sl es,.int ow,.str s]) [v,.bool c]∧EB BB v∧
   (c=true→KYes ks∧EK ks es∧∃(i:Nat) (hi:i < es.length),EP ow s es[i]=true∧v=es[i].fld 1)∧(KYes ks→EK ks es→(∃(i:Nat) (hi:i < es.length),EP ow s es[i]=true)→c=true):=by
 obtain ⟨c,y1,y2,y3,y4⟩:=GC ks es hk hl;obtain ⟨es',he,hl1,hl2⟩:=hl;cases he;obtain ⟨r,z1,z2,z3⟩:=IX (DU (Nat.le_refl _)) es hl1 ow s;rcases z3 with ⟨rfl,hno⟩ | ⟨i,hi,rfl,hh,_⟩
 ·refine ⟨M2,false,?_,HM _ _ _ _ (Yields.obind z2 (Yields.tt rfl (Yields.some _))),K5 _,fun h=>Bool.noConfusion h,fun _ _ ⟨i,hi,h⟩=>?_⟩
  ·cases c with
   | false=>exact GA _ _ _ _ (Yields.obind z1 (Yields.obind y1 (Yields.tt rfl (Yields.some _))))
   | true=>exact GA _ _ _ _ (Yields.obind z1 (Yields.obind y1 (Yields.ff rfl (Yields.tt rfl (Yields.some _)))))
  ·rw[hno _ (List.getElem_mem hi)] at h;cases h
 ·have hn:decide ((T.int (i:Int)).i < (0:Int))=false:=decide_eq_false (by show ¬(i:Int) < 0;omega)
  cases c with
  | false=>exact ⟨M2,false,GA _ _ _ _ (Yields.obind z1 (Yields.obind y1 (Yields.tt rfl (Yields.some _)))),HM _ _ _ _ (Yields.obind z2 (Yields.ff hn (Yields.obind y2 (Yields.tt rfl (Yields.some _))))),K5 _,fun h=>Bool.noConfusion h,fun a b _=>y4 a b⟩
  | true=>
   obtain ⟨_,_,_,_,a5,a6⟩:=y3 rfl;obtain ⟨o,v,hx,_,_,hv⟩:=hl2 _ (List.getElem_mem hi);have hn1:((T.sl es).nth (T.int (i:Int)).i.toNat).fld 1=v:=by rw[vQ hi,hx];rfl
   have c1:=J8 v hv;have c2:=Ly v hv;rw[← hn1] at c1 c2;refine ⟨v,true,GA _ _ _ _ (Yields.obind z1 (Yields.obind y1 (Yields.ff rfl (Yields.ff hn (Yields.tt (pw hi) (Yields.obind c1 ?_)))))),HM _ _ _ _ (Yields.obind z2 (Yields.ff hn (Yields.obind y2 (Yields.ff rfl (Yields.tt (pw hi) (Yields.obind c2 ?_)))))),hv,fun _=>⟨a6,a5,i,hi,hh,by rw[hx];rfl⟩,fun _ _ _=>rfl⟩
   ·show Yields (fun _=>some [T.st [(((T.sl es).nth (T.int (i:Int)).i.toNat).fld 1).fld 0,(((T.sl es).nth (T.int (i:Int)).i.toNat).fld 1).fld 1,(((T.sl es).nth (T.int (i:Int)).i.toNat).fld 1).fld 2,(((T.sl es).nth (T.int (i:Int)).i.toNat).fld 1).fld 3],T.bool true]) _
    rw[hn1,st4 hv];exact Yields.some _
   ·show Yields (fun _=>some [T.st [(((T.sl es).nth (T.int (i:Int)).i.toNat).fld 1).fld 0,(((T.sl es).nth (T.int (i:Int)).i.toNat).fld 1).fld 1,(((T.sl es).nth (T.int (i:Int)).i.toNat).fld 1).fld 2,(((T.sl es).nth (T.int (i:Int)).i.toNat).fld 1).fld 3],T.bool true]) _
    rw[hn1,st4 hv];exact Yields.some _
theorem Lh (ks es:List T) (v:T) (hk:HO BB (.sl ks)) (hl:FV BB (.sl es)) (hv:EB BB v) (ow:Int) (ho1 : -9223372036854775808≤ow) (ho2:ow≤9223372036854775807) :
  ∃(ts:List T) (c:Bool),Yields (fun k=>cl env k HD [.sl ks,.sl es,.int ow,v]) [.sl ts,.bool c]∧Yields (fun k=>cl env k FI [.sl ks,.sl es,.int ow,v]) [.sl ts,.bool c]∧FV BB (.sl ts)∧
   (c=true→KYes ks∧EK ks es∧0≤ow∧ow≤3∧J2 ks v∧nQ ks (v.fld 0).s=true∧es.length < 36∧(∀x∈es,EP ow (v.fld 0).s x=false)∧∃p,Iq es ow v p∧ts=more es p (.st [.int ow,v]))∧
   (KYes ks→EK ks es→0≤ow→ow≤3→J2 ks v→(∀x∈es,EP ow (v.fld 0).s x=false)→c=true):=by
 obtain ⟨c,y1,y2,y3,y4⟩:=GC ks es hk hl;obtain ⟨es',he,hl1,hl2⟩:=hl;cases he;cases c with
 | false=>exact ⟨[],false,Fj _ _ _ _ (Yields.obind y1 (Yields.tt rfl (Yields.some _))),Fh _ _ _ _ (Yields.obind y2 (Yields.tt rfl (Yields.some _))),Fl _,fun h=>Bool.noConfusion h,fun a b _ _ _ _=>y4 a b⟩
 | true=>
  obtain ⟨hk2,he,hs,h3,hlo,hky⟩:=y3 rfl;have hin:=in_s ow 0 3;by_cases hlow:ow < 0
  ·rw[decide_eq_false (by omega : ¬ow≥0),Bool.false_and] at hin
   exact ⟨[],false,Fj _ _ _ _ (Yields.obind y1 (Yields.ff rfl (Yields.obind hin (Yields.tt rfl (Yields.some _))))),Fh _ _ _ _ (Yields.obind y2 (Yields.ff rfl (Yields.tt (decide_eq_true hlow) (Yields.some _)))),Fl _,fun h=>Bool.noConfusion h,fun _ _ _ _ _ _=>by omega⟩
  by_cases hhigh:ow≥4
  ·rw[decide_eq_false (by omega : ¬ow≤3),Bool.and_false] at hin
   exact ⟨[],false,Fj _ _ _ _ (Yields.obind y1 (Yields.ff rfl (Yields.obind hin (Yields.tt rfl (Yields.some _))))),Fh _ _ _ _ (Yields.obind y2 (Yields.ff rfl (Yields.ff (decide_eq_false hlow) (Yields.tt (decide_eq_true hhigh) (Yields.some _))))),Fl _,fun h=>Bool.noConfusion h,fun _ _ _ _ _ _=>by omega⟩
  rw[decide_eq_true (by omega:ow≥0),decide_eq_true (by omega:ow≤3)] at hin
  obtain ⟨c,w1,w2,w3⟩:=Lg hk2 (DU (Nat.le_refl _)) he _ hv;cases c with
  | false=>exact ⟨[],false,Fj _ _ _ _ (Yields.obind y1 (Yields.ff rfl (Yields.obind hin (Yields.ff rfl (Yields.obind w1 (Yields.tt rfl (Yields.some _))))))),Fh _ _ _ _ (Yields.obind y2 (Yields.ff rfl (Yields.ff (decide_eq_false hlow) (Yields.ff (decide_eq_false hhigh) (Yields.obind w2 (Yields.tt rfl (Yields.some _))))))),Fl _,fun h=>Bool.noConfusion h,fun _ _ _ _ h _=>by have:=Yields.uniq w1 h;cases this⟩
  | true=>
   have hkin:=w3 rfl;obtain ⟨s,n,ps,is,hve,_⟩:=Kz hv;obtain ⟨r,z1,z2,z3⟩:=IX (DU (Nat.le_refl _)) es hl1 ow s;have hf0:v.fld 0 = .str s:=by rw[hve];rfl
   have hf0s:(v.fld 0).s=s:=by rw[hf0];rfl
   rw[← hf0] at z1 z2;rcases z3 with ⟨rfl,hno⟩ | ⟨i,hi,rfl,hh,_⟩
   ·have h36:((es.length:Int)==36)=false:=by
     rw[beq_eq_false_iff_ne];intro h;obtain ⟨x,hx,hh⟩:=full_hit hs h3 hlo (by omega) (by omega:0≤ow) (by omega) hkin
     rw[hf0s,hno x hx] at hh;cases hh
    obtain ⟨p,hp⟩:=ins_at es hl2 ow v;rw[← hf0s] at hno;refine ⟨_,true,Fj _ _ _ _ (Yields.obind y1 (Yields.ff rfl (Yields.obind hin (Yields.ff rfl (Yields.obind w1 (Yields.ff rfl (Yields.obind z1 (Yields.ff rfl (Yields.obind (Mb es hl1 hl2) (Yields.obind (put_s hl1 hl2 hv hno hp) (Yields.some _))))))))))),
     Fh _ _ _ _ (Yields.obind y2 (Yields.ff rfl (Yields.ff (decide_eq_false hlow) (Yields.ff (decide_eq_false hhigh) (Yields.obind w2 (Yields.ff rfl (Yields.obind z2 (Yields.ff rfl (Yields.ff h36 (Yields.obind (put_i hlo.1 hl2 ho1 ho2 hv hp) (Yields.some _))))))))))),N9 hlo.1 hl2 ho1 ho2 hv,fun _=>⟨hky,hlo,by omega,by omega,w1,hkin,by have:=hlo.1;have:=beq_eq_false_iff_ne.1 h36;omega,hno,p,hp,rfl⟩,fun _ _ _ _ _ _=>rfl⟩
   ·have hge:decide ((T.int (i:Int)).i≥(0:Int))=true:=decide_eq_true (by show (i:Int)≥0;omega)
    exact ⟨[],false,Fj _ _ _ _ (Yields.obind y1 (Yields.ff rfl (Yields.obind hin (Yields.ff rfl (Yields.obind w1 (Yields.ff rfl (Yields.obind z1 (Yields.tt hge (Yields.some _))))))))),
     Fh _ _ _ _ (Yields.obind y2 (Yields.ff rfl (Yields.ff (decide_eq_false hlow) (Yields.ff (decide_eq_false hhigh) (Yields.obind w2 (Yields.ff rfl (Yields.obind z2 (Yields.tt hge (Yields.some _))))))))),Fl _,fun h=>Bool.noConfusion h,fun _ _ _ _ _ h=>by have:=h _ (List.getElem_mem hi);rw[hf0s,hh] at this;cases this⟩
theorem put_at {es:List T} {i:Nat} (hi:i < es.length) {o:Int} {v0 x:T} (hx:es[i] = .st [.int o,v0]):T.put (.sl es) [.idx i,.fld 1] x = .sl (es.set i (.st [.int o,x])):=by
 simp[T.put,T.es,T.nth,hi,hx,T.fs]
theorem set_full (ks es:List T) (v:T) (hk:HO BB (.sl ks)) (hl:FV BB (.sl es)) (hv:EB BB v) (ow:Int) :
  ∃(ts:List T) (c:Bool),Yields (fun k=>cl env k HE [.sl ks,.sl es,.int ow,v]) [.sl ts,.bool c]∧Yields (fun k=>cl env k HA [.sl ks,.sl es,.int ow,v]) [.sl ts,.bool c]∧FV BB (.sl ts)∧
   (c=true→KYes ks∧EK ks es∧J2 ks v∧∃(i:Nat) (hi:i < es.length),EP ow (v.fld 0).s es[i]=true∧ts=es.set i (.st [es[i].fld 0,v])):=by
 obtain ⟨c,y1,y2,y3,y4⟩:=GC ks es hk hl;obtain ⟨es',he,hl1,hl2⟩:=hl;cases he;have hv':=hv;cases hv' with
 | @mk s n ps is h1 h2 h3 h4 h5 h6 h7=>
  obtain ⟨r,z1,z2,z3⟩:=IX (DU (Nat.le_refl _)) es hl1 ow s;rcases z3 with ⟨rfl,_⟩ | ⟨i,hi,rfl,hh,_⟩
  ·refine ⟨[],false,?_,Gz _ _ _ _ (Yields.obind z2 (Yields.tt rfl (Yields.some _))),Fl _,fun h=>Bool.noConfusion h⟩
   cases c with
   | false=>exact FP _ _ _ _ (Yields.obind z1 (Yields.obind y1 (Yields.tt rfl (Yields.some _))))
   | true=>exact FP _ _ _ _ (Yields.obind z1 (Yields.obind y1 (Yields.ff rfl (Yields.tt rfl (Yields.some _)))))
  ·have hn:decide ((T.int (i:Int)).i < (0:Int))=false:=decide_eq_false (by show ¬(i:Int) < 0;omega)
   cases c with
   | false=>exact ⟨[],false,FP _ _ _ _ (Yields.obind z1 (Yields.obind y1 (Yields.tt rfl (Yields.some _)))),Gz _ _ _ _ (Yields.obind z2 (Yields.ff hn (Yields.obind y2 (Yields.tt rfl (Yields.some _))))),Fl _,fun h=>Bool.noConfusion h⟩
   | true=>
    obtain ⟨hk2,he,_,_,a5,a6⟩:=y3 rfl;obtain ⟨c,w1,w2⟩:=NF hk2 (DU (Nat.le_refl _)) he _ hv;cases c with
    | false=>exact ⟨[],false,FP _ _ _ _ (Yields.obind z1 (Yields.obind y1 (Yields.ff rfl (Yields.ff hn (Yields.obind w1 (Yields.tt rfl (Yields.some _))))))),Gz _ _ _ _ (Yields.obind z2 (Yields.ff hn (Yields.obind y2 (Yields.ff rfl (Yields.obind w2 (Yields.tt rfl (Yields.some _))))))),Fl _,fun h=>Bool.noConfusion h⟩
    | true=>
     obtain ⟨o,v0,hx,ho1,ho2,hv0⟩:=hl2 _ (List.getElem_mem hi);have p1:=put_at (x:=.st [.str s,.int n,.sl ps,.sl is]) hi hx
     refine ⟨es.set i (.st [.int o,.st [.str s,.int n,.sl ps,.sl is]]),true,FP _ _ _ _ (Yields.obind z1 (Yields.obind y1 (Yields.ff rfl (Yields.ff hn (Yields.obind w1 (Yields.ff rfl (Yields.obind (Mb es hl1 hl2) (Yields.obind (J8 _ hv) (Yields.tt (pw hi) ?_))))))))),
      Gz _ _ _ _ (Yields.obind z2 (Yields.ff hn (Yields.obind y2 (Yields.ff rfl (Yields.obind w2 (Yields.ff rfl (Yields.obind (Ma es hl1 hl2) (Yields.obind (Ly _ hv) (Yields.tt (pw hi) ?_))))))))),⟨_,rfl,by simpa using hl1,fun x hx=>?_⟩,fun _=>⟨a6,a5,w1,i,hi,hh,by rw[hx];rfl⟩⟩
     ·show Yields (fun _=>some [T.put (.sl es) [.idx ((i:Int)).toNat,.fld 1] (.st [.str s,.int n,.sl ps,.sl is]),T.bool true]) _
      rw[Int.toNat_natCast,p1];exact Yields.some _
     ·show Yields (fun _=>some [T.put (.sl es) [.idx ((i:Int)).toNat,.fld 1] (.st [.str s,.int n,.sl ps,.sl is]),T.bool true]) _
      rw[Int.toNat_natCast,p1];exact Yields.some _
     ·rcases List.mem_or_eq_of_mem_set hx with hx | rfl
      ·exact hl2 x hx
      ·exact ⟨o,_,rfl,ho1,ho2,hv⟩
def ValR (q:Nat) (o:List T):Prop:=∃v r':T,o = [v,r']∧Rd q r'∧EB BB v
theorem leaf {s:ByteArray} (hs:s.size≤9) {n:Int} (h0 : -9223372036854775808≤n) (h1:n≤9223372036854775807):EB BB (.st [.str s,.int n,.sl [],.sl []]):=
 .mk (by rw[jZ];omega) h0 h1 (by simp) (by simp) (fun x h=>by cases h) (fun x h=>by cases h)
theorem val4 {v:T} (h:EB BB v):T.st [v.fld 0,v.fld 1,v.fld 2,v.fld 3]=v:=by cases h;rfl
theorem It {q:Nat} {r:T} (hr:Rd (q+1) r):YP (fun k=>obind (cl env k dH [r,(T.sl [(T.int (0:Int)),(T.int (1:Int)),(T.int (2:Int)),(T.int (3:Int)),(T.int (7:Int)),(T.int (10:Int)),(T.int (100:Int)),(T.int (999999:Int)),(T.int (1000000:Int))])]) fun r4=>some [(T.st [(T.str k_n),(rt r4 0),(T.sl []),(T.sl [])]),(rt (r4.drop 1) 0)]) (ValR q):=by
 refine YP.obind (vk (q:=q) (P:=fun x=>∃n:Int,x = .int n∧0≤n∧n≤1000000) hr ?_ (by simp)) ?_
 ·intro x hx;simp only[List.mem_cons,List.not_mem_nil,or_false] at hx;rcases hx with rfl | rfl | rfl | rfl | rfl | rfl | rfl | rfl | rfl <;> exact ⟨_,rfl,by omega,by omega⟩
 ·rintro _ ⟨x,r2,rfl,hr2,n,rfl,n0,n1⟩;exact YP.some ⟨_,r2,rfl,hr2,leaf (by decide) (by omega) (by omega)⟩
theorem M8 {ks:List T} (hk:KOk ks) {i j:Nat} (h:lS ks i j=true):i < ks.length∧j < ((T.sl ks).nth i).es.length∧i < 3∧j < 3:=by
 obtain ⟨h1,h2⟩:=rk h;have:=hk.1
 have:=(hk.2 i h1).1
 exact ⟨h1,h2,by omega,by omega⟩
theorem Nz {ks:List T} (hk:KOk ks) {N i j:Nat} (h1:i < ks.length) (h2:j < ((T.sl ks).nth i).es.length) {a:Int} {fs:List T} (e:((T.sl ks).nth i).nth j = .st [.int a,.sl fs]) (hlen:fs.length≤3) {s:ByteArray} (hs:s.size≤9)
  (ih : ∀{t:ByteArray} {q:Nat} {r:T},T.str t∈fs→Rd (q+N) r→YP (fun k=>cl env k EA [r,.sl ks,.str t]) (ValR q)) (hf : ∀x∈fs,∃t:ByteArray,x = .str t) {z:T} {q:Nat} :
  ∀{d t:Nat} {ps:List T} {r:T},t+d=fs.length→ps.length=t→(∀x∈ps,EB BB x)→Rd (q+N * d) r→
   YP (fun k=>Fy (hl env k Ey) (cl env k) (.sl ks) (.int (i:Int)) (.int (j:Int)) (.int (t:Int)) r z (.st [.str s,.int 0,.sl ps,.sl []])) (ValR q):=by
 intro d;induction d with
 | zero=>
  intro t ps r hd hp hps hr;unfold Fy IQ;simp only[tnA];simp only[e];simp only[tnA];refine YP.guard (by (simp <;> omega)) (YP.guard (by (simp <;> omega)) (YP.ff (decide_eq_false (by omega)) (YP.some ⟨_,r,rfl,hr.less (by omega),?_⟩)))
  exact .mk (by rw[jZ];omega) (by omega) (by omega) (by rw[BBv];omega) (by simp) (fun x h=>by cases h) hps
 | succ d ihd=>
  intro t ps r hd hp hps hr;have ht:t < fs.length:=by omega
  obtain ⟨u,eu⟩:=hf _ (List.getElem_mem ht);have en:(T.sl fs).nth t = .str u:=by rw[bh ht,eu]
  have ew:IntKind.wrap .i64 ((t:Int)+1)=((t+1:Nat):Int):=by rw[bf (by omega) (by omega)];rfl
  unfold Fy IQ;simp only[tnA];simp only[e];simp only[tnA];simp only[en,ew];refine YP.guard (by (simp <;> omega)) (YP.guard (by (simp <;> omega)) (YP.tt (decide_eq_true (by omega)) (YP.guard (by (simp <;> omega)) (YP.guard (by (simp <;> omega)) (YP.guard (by (simp <;> omega)) ?_)))))
  have hm:N * (d+1)=N * d+N:=Nat.mul_succ _ _
  refine YP.obind (ih (t:=u) (q:=q+N * d) (by rw[← eu];exact List.getElem_mem ht) (hr.less (by omega))) ?_
  rintro _ ⟨v,r1,rfl,hr1,hv⟩;simp only[tnA];simp only[val4 hv];refine YP.guard (decide_eq_true (by rw[bD];simp;omega)) ?_
  exact YP.call (ihd (t:=t+1) (ps:=ps ++ [v]) (by omega) (by simp;omega) (fun x hx=>by
   rcases List.mem_append.1 hx with hx | hx
   ·exact hps x hx
   ·rw[List.mem_singleton.1 hx];exact hv) hr1) (fun r h=>L1 _ _ _ _ _ _ _ h)
theorem ct_value {ks:List T} (hk:KOk ks) : ∀(n:Nat) {s:ByteArray} {q:Nat} {r:T},(∀i j,dn s=some (i,j)→lS ks i j=true→3 * i+j+1≤n)→s.size≤9→Rd (q+4 ^ n) r→YP (fun k=>cl env k EA [r,.sl ks,.str s]) (ValR q):=by
 intro n;induction n with
 | zero=>
  intro s q r hn hs hr;refine YP.call ?_ (fun r h=>Jz _ _ _ h)
  unfold GJ;simp only[tnA];refine YP.ite (fun _=>?_) (fun _=>YP.ite (fun _=>?_) (fun _=>?_))
  ·refine YP.obind (bA (q:=q) hr) ?_;rintro _ ⟨v,r1,rfl,hr1,h0,h1,_⟩;exact YP.some ⟨_,r1,rfl,hr1,leaf (by decide) (by omega) (by have:=h1 (by omega);omega)⟩
  ·refine YP.obind (bA (q:=q) hr) ?_;rintro _ ⟨v,r1,rfl,hr1,h0,h1,_⟩;exact YP.some ⟨_,r1,rfl,hr1,leaf (by decide) (by omega) (by have:=h1 (by omega);omega)⟩
  ·refine YP.obind (YP.of (Q:=fun o=>o=_) (zl s) rfl) ?_
   rintro _ rfl;cases hkc:dn s with
   | none=>exact YP.tt rfl (It hr)
   | some p=>
    obtain ⟨i,j⟩:=p;refine YP.ff rfl (YP.obind (YP.of (Q:=fun o=>o=_) (KH ks i j) rfl) ?_)
    rintro _ rfl;cases hh:lS ks i j with
    | false=>exact YP.tt rfl (It hr)
    | true=>have:=hn i j hkc hh;omega
 | succ n ih=>
  intro s q r hn hs hr;have hp1:1≤4 ^ n:=Nat.one_le_pow _ _ (by decide)
  rw[show 4 ^ (n+1)=4 ^ n * 4 from Nat.pow_succ ..] at hr
  generalize 4 ^ n=N at hp1 hr ih
  refine YP.call ?_ (fun r h=>Jz _ _ _ h)
  unfold GJ;simp only[tnA];refine YP.ite (fun _=>?_) (fun _=>YP.ite (fun _=>?_) (fun _=>?_))
  ·refine YP.obind (bA (q:=q) (hr.less (by omega))) ?_
   rintro _ ⟨v,r1,rfl,hr1,h0,h1,_⟩;exact YP.some ⟨_,r1,rfl,hr1,leaf (by decide) (by omega) (by have:=h1 (by omega);omega)⟩
  ·refine YP.obind (bA (q:=q) (hr.less (by omega))) ?_
   rintro _ ⟨v,r1,rfl,hr1,h0,h1,_⟩;exact YP.some ⟨_,r1,rfl,hr1,leaf (by decide) (by omega) (by have:=h1 (by omega);omega)⟩
  ·refine YP.obind (YP.of (Q:=fun o=>o=_) (zl s) rfl) ?_
   rintro _ rfl;cases hkc:dn s with
   | none=>exact YP.tt rfl (It (hr.less (by omega)))
   | some p=>
    obtain ⟨i,j⟩:=p;refine YP.ff rfl (YP.obind (YP.of (Q:=fun o=>o=_) (KH ks i j) rfl) ?_)
    rintro _ rfl;cases hh:lS ks i j with
    | false=>exact YP.tt rfl (It (hr.less (by omega)))
    | true=>
     refine YP.ff rfl ?_;have hrk:=hn i j hkc hh;obtain ⟨h1,h2,h3,h4⟩:=M8 hk hh;obtain ⟨a,fs,e,_,_,hl,hf⟩:=(hk.2 i h1).2 j h2;refine YP.call ?_ (fun r h=>L0 _ _ _ _ _ _ _ h)
     have hle:N * fs.length≤N * 4:=Nat.mul_le_mul_left _ (by omega)
     refine Nz hk (N:=N) h1 h2 e hl hs (fun {t q r} ht hr=>?_) (fun x hx=>?_) (d:=fs.length) (t:=0) (ps:=[]) (by omega) rfl (fun x h=>by cases h) (hr.less (by omega))
     ·obtain ⟨t',et,hb⟩:=hf _ ht;cases et;refine ih (fun i' j' hk' hh'=>?_) (by have:=dK (o7 hb);omega) hr
      unfold eV at hb;rw[hk'] at hb;simp only[Bool.and_eq_true,Bool.or_eq_true,decide_eq_true_eq] at hb;have:=M8 hk hh'
      omega
     ·obtain ⟨t',et,_⟩:=hf _ hx;exact ⟨t',et⟩
theorem Np {ks:List T} (hk:KOk ks) {s:ByteArray} {q:Nat} {r:T} (hs:s.size≤9) (hr:Rd (q+262144) r):YP (fun k=>cl env k EA [r,.sl ks,.str s]) (ValR q):=
 ct_value hk 9 (fun i j _ hh=>by have:=M8 hk hh;omega) hs (by rw[show 4 ^ 9=262144 from rfl];exact hr)
theorem ct_bad {q:Nat} {r v:T} (hv:EB BB v) (hr:Rd (q+3) r):YP (fun k=>cl env k GB [r,v]) (ValR q):=by
 have hv':=hv;cases hv' with
 | @mk s n ps is h1 h2 h3 h4 h5 h6 h7=>
  refine YP.call ?_ (fun r h=>N4 _ _ h)
  unfold IJ;refine YP.obind (bA (q:=q+2) hr) ?_;rintro _ ⟨v,r1,rfl,hr1,_⟩;simp only[tnA];refine YP.ite (fun _=>YP.some ⟨_,r1,rfl,hr1.less (by omega),hv⟩) (fun _=>?_)
  refine YP.obind (bA (q:=q+1) hr1) ?_;rintro _ ⟨v,r2,rfl,hr2,_⟩;simp only[tnA];refine YP.ite (fun _=>?_) (fun _=>YP.ite (fun _=>?_) (fun _=>YP.ite (fun _=>YP.ite (fun hc=>?_) (fun _=>?_)) (fun _=>?_)))
  ·refine YP.obind (vk (q:=q) (P:=fun x=>∃n:Int,x = .int n∧-1≤n∧n≤1000001) hr2 ?_ (by simp)) ?_
   ·intro x hx;simp only[List.mem_cons,List.not_mem_nil,or_false] at hx;rcases hx with rfl | rfl | rfl | rfl | rfl <;> exact ⟨_,rfl,by omega,by omega⟩
   ·rintro _ ⟨x,r3,rfl,hr3,m,rfl,m0,m1⟩;exact YP.some ⟨_,r3,rfl,hr3,.mk h1 (by omega) (by omega) h4 h5 h6 h7⟩
  ·refine YP.obind (KF (q:=q) (P:=fun x=>∃t:ByteArray,x = .str t∧t.size≤9) hr2 ?_ (by simp)) ?_
   ·intro x hx;simp only[List.mem_cons,List.not_mem_nil,or_false] at hx;rcases hx with rfl | rfl | rfl | rfl | rfl | rfl | rfl <;> exact ⟨_,rfl,by decide⟩
   ·rintro _ ⟨x,r3,rfl,hr3,t,rfl,ht⟩;exact YP.some ⟨_,r3,rfl,hr3,.mk (by rw[jZ];omega) h2 h3 h4 h5 h6 h7⟩
  ·have hc:=of_decide_eq_true hc;refine YP.guard (by (simp <;> omega)) (YP.some ⟨_,r2,rfl,hr2.less (by omega),?_⟩)
   refine .mk h1 h2 h3 ?_ h5 h6 (fun x hx=>h7 x (List.mem_of_mem_take (List.mem_of_mem_drop hx)))
   rw[List.length_drop,List.length_take];omega
  ·exact YP.some ⟨_,r2,rfl,hr2.less (by omega),.mk h1 h2 h3 h4 (by simp[BBv]) (fun x h=>⟨0,List.mem_singleton.1 h⟩) h7⟩
  ·exact YP.some ⟨_,r2,rfl,hr2.less (by omega),.mk h1 h2 h3 h4 (by simp[BBv]) (fun x h=>⟨0,List.mem_singleton.1 h⟩) h7⟩
def TxtR (q:Nat) (o:List T):Prop:=∃(s:ByteArray) (r':T),o = [.str s,r']∧Rd q r'∧s.size≤9
theorem NH {ks:List T} (hf:Few ks) {q:Nat} : ∀{d i:Nat} {r:T},i+d=4→Rd (q+6 * d) r→YP (fun k=>Gx (hl env k F5) (.sl ks) (.int (i:Int)) r) (TxtR q):=by
 intro d;induction d with
 | zero=>
  intro i r hd hr;refine YP.call ?_ (fun r h=>Jf _ _ _ h)
  unfold Gv;simp only[tnA];exact YP.ff (decide_eq_false (by omega)) (YP.some ⟨_,r,rfl,hr.less (by omega),by decide⟩)
 | succ d ih=>
  intro i r hd hr;refine YP.call ?_ (fun r h=>Jf _ _ _ h)
  unfold Gv;simp only[tnA];refine YP.tt (decide_eq_true (by omega)) ?_
  refine YP.obind (Aw (q:=q+6 * d) (hr.less (by omega)) hf) ?_
  rintro _ ⟨x,r1,rfl,hr1,hx⟩;obtain ⟨s,rfl,hs⟩:=AR hx;simp only[tnA];refine YP.ite (fun _=>YP.some ⟨s,r1,rfl,hr1.less (by omega),hs⟩) (fun _=>?_)
  rw[show IntKind.wrap .i64 ((i:Int)+1)=((i+1:Nat):Int) by rw[bf (by omega) (by omega)];rfl]
  exact ih (by omega) hr1
theorem L4 {ks:List T} (hf:Few ks) {q:Nat} {r:T} (hr:Rd (q+26) r):YP (fun k=>cl env k EW [r,.sl ks]) (TxtR q):=by
 refine YP.call ?_ (fun r h=>Mt _ _ h)
 unfold Ii;refine YP.obind (bA (q:=q+25) hr) ?_;rintro _ ⟨v,r1,rfl,hr1,_⟩;simp only[tnA];refine YP.ite (fun _=>?_) (fun _=>NH hf (d:=4) (i:=0) (by omega) (hr1.less (by omega)))
 refine YP.obind (KF (q:=q) (P:=fun x=>∃t:ByteArray,x = .str t∧t.size≤9) (hr1.less (by omega)) ?_ (by simp)) ?_
 ·intro x hx;simp only[List.mem_cons,List.not_mem_nil,or_false] at hx;rcases hx with rfl | rfl | rfl | rfl | rfl <;> exact ⟨_,rfl,by decide⟩
 ·rintro _ ⟨x,r3,rfl,hr3,t,rfl,ht⟩;exact YP.some ⟨t,r3,rfl,hr3,ht⟩
def KeptL (n:Nat) (o:List T):Prop:=∃ts:List T,o = [.sl ts]∧ts.length≤n∧∀x∈ts,Eo BB x
theorem KK {P:T→Prop} {l:List T} {x:T} (h : ∀y∈l,P y) (hx:P x) : ∀y∈l ++ [x],P y:=fun y hy=>by
 rcases List.mem_append.1 hy with hy | hy
 ·exact h y hy
 ·rw[List.mem_singleton.1 hy];exact hx
theorem put_loop {es:List T} {v:T} {ow:Int} (hl:es.length≤1000) (he : ∀x∈es,Eo BB x) (hv:EB BB v) (h0:0≤ow) (h1:ow≤100) : ∀{d i:Nat} {b:Bool} {acc:List T},i+d=es.length→acc.length≤i+(if b then 1 else 0)→(∀x∈acc,Eo BB x)→
  YP (fun k=>Ez (Ra.hl env k E6) (cl env k) (.sl es) (.int ow) (.bool b) (.int (i:Int)) v (.sl acc)) (KeptL (es.length+1)):=by
 have hx:Eo BB (.st [.int ow,v]):=⟨ow,v,rfl,by omega,by omega,hv⟩
 have hcp:YP (fun k=>cl env k E7 [v]) (fun o=>o = [v]):=YP.of (J8 v hv) rfl
 have e4:=val4 hv;intro d;induction d with
 | zero=>
  intro i b acc hd ha hac;have ha2:acc.length≤i+1:=by cases b <;> simp at ha <;> omega
  unfold Ez Ij;simp only[tnA];refine YP.ff (decide_eq_false (by omega)) ?_
  cases b with
  | true=>exact YP.ff rfl (YP.some ⟨acc,rfl,by omega,hac⟩)
  | false=>
   have ha3:acc.length≤i:=by simpa using ha
   refine YP.tt rfl (YP.obind hcp ?_);rintro _ rfl;simp only[tnA];simp only[e4];exact YP.guard (decide_eq_true (by rw[bD];simp;omega)) (YP.some ⟨_,rfl,by simp;omega,KK hac hx⟩)
 | succ d ih=>
  intro i b acc hd ha hac;have hi:i < es.length:=by omega
  have hei:=he _ (List.getElem_mem hi);have en:(T.sl es).nth i=es[i]:=bh hi
  have ew:IntKind.wrap .i64 ((i:Int)+1)=((i+1:Nat):Int):=by rw[bf (by omega) (by omega)];rfl
  have skip : ∀{b:Bool},acc.length≤i+(if b then 1 else 0)→YP (fun k=>bif (decide (acc.length + [es[i]].length≤LIM)) then E9 (Ra.hl env k E6) (.sl es) (.int ow) (.bool b) (.int ((i+1:Nat):Int)) v (.sl (acc ++ [es[i]])) else none) (KeptL (es.length+1)):=fun {b} ha=>by
   have ha':acc.length≤i+1:=by cases b <;> simp at ha <;> omega
   refine YP.guard (decide_eq_true (by rw[bD];simp;omega)) ?_
   refine YP.call (ih (i:=i+1) (b:=b) (acc:=acc ++ [es[i]]) (by omega) ?_ (KK hac hei)) (fun r h=>Gs _ _ _ _ _ _ h)
   rw[List.length_append];show acc.length+1≤_;omega
  unfold Ez Ij;simp only[tnA];simp only[en,ew];refine YP.tt (decide_eq_true (by omega)) ?_
  cases b with
  | true=>exact YP.ff rfl (YP.guard (by (simp <;> omega)) (skip ha))
  | false=>
   have ha:acc.length≤i:=by simpa using ha
   have ins:YP (fun k=>obind (cl env k E7 [v]) fun r1=>
     bif (decide (acc.length + [(T.st [T.int ow,(T.st [((rt r1 0).fld 0),((rt r1 0).fld 1),((rt r1 0).fld 2),((rt r1 0).fld 3)])])].length≤LIM)) then
     bif (decide ((acc ++ [(T.st [T.int ow,(T.st [((rt r1 0).fld 0),((rt r1 0).fld 1),((rt r1 0).fld 2),((rt r1 0).fld 3)])])]).length + [es[i]].length≤LIM)) then
     E9 (Ra.hl env k E6) (.sl es) (.int ow) (.bool true) (.int ((i+1:Nat):Int)) v (T.sl ((acc ++ [(T.st [T.int ow,(T.st [((rt r1 0).fld 0),((rt r1 0).fld 1),((rt r1 0).fld 2),((rt r1 0).fld 3)])])]) ++ [es[i]]))
     else none else none) (KeptL (es.length+1)):=by
    refine YP.obind hcp ?_;rintro _ rfl;simp only[tnA];simp only[e4];refine YP.guard (decide_eq_true (by rw[bD];simp;omega)) (YP.guard (decide_eq_true (by rw[bD];simp;omega)) ?_)
    exact YP.call (ih (i:=i+1) (b:=true) (by omega) (by simp;omega) (KK (KK hac hx) hei)) (fun r h=>Gs _ _ _ _ _ _ h)
   refine YP.tt rfl (YP.guard (by (simp <;> omega)) ?_)
   refine YP.ite (fun _=>ins) (fun _=>YP.ite (fun _=>YP.ite (fun _=>ins) (fun _=>skip (b:=false) (by simpa using ha))) (fun _=>skip (b:=false) (by simpa using ha)))
theorem ct_putD {es:List T} {v:T} {ow:Int} (hl:es.length≤1000) (he : ∀x∈es,Eo BB x) (hv:EB BB v) (h0:0≤ow) (h1:ow≤100):YP (fun k=>cl env k Gg [.sl es,.int ow,v]) (KeptL (es.length+1)):=
 YP.call (YP.call (put_loop hl he hv h0 h1 (d:=es.length) (i:=0) (b:=false) (acc:=[]) (by omega) (by simp) (fun x h=>by cases h)) (fun r h=>JU _ _ _ _ _ _ h)) (fun r h=>KE _ _ _ h)
def VauR (q:Nat) (o:List T):Prop:=∃(es:List T) (r':T),o = [.sl es,r']∧Rd q r'∧es.length≤100∧∀x∈es,Eo BB x
section
variable {ks:List T} {Q:List T→Prop}
theorem vau_2 (hk:KOk ks) {c q m j:Nat} (hm:m < ks.length) (hj:j < ((T.sl ks).nth m).es.length) {s:ByteArray} (hs:cW ks s=true) (hc:c≤100)
  (next : ∀{es:List T} {r:T},es.length≤c→(∀x∈es,Eo BB x)→Rd q r→YP (fun k=>Fp (hl env k Ea) (.sl ks) (.sl es) (.int (m:Int)) (.int ((j+1:Nat):Int)) r) Q) :
  ∀{d o:Nat} {es:List T} {r:T},o+d=4→es.length+d≤c→(∀x∈es,Eo BB x)→Rd (q+262145 * d) r→YP (fun k=>EQ (hl env k Ea) (.sl ks) (.sl es) (.int (m:Int)) (.int (j:Int)) (.str s) (.int (o:Int)) r) Q:=by
 have hk1:=hk.1;have hk2:=(hk.2 m hm).1;intro d;induction d with
 | zero=>
  intro o es r hd hel he hr;refine YP.call ?_ (fun r h=>IA _ _ _ _ _ _ _ h)
  unfold FZ;simp only[tnA];refine YP.ff (decide_eq_false (by omega)) ?_
  rw[show IntKind.wrap .i64 ((j:Int)+1)=((j+1:Nat):Int) by rw[bf (by omega) (by omega)];rfl]
  exact next (by omega) he hr
 | succ d ih=>
  intro o es r hd hel he hr;refine YP.call ?_ (fun r h=>IA _ _ _ _ _ _ _ h)
  unfold FZ;simp only[tnA];rw[show IntKind.wrap .i64 ((o:Int)+1)=((o+1:Nat):Int) by rw[bf (by omega) (by omega)];rfl]
  refine YP.tt (decide_eq_true (by omega)) ?_
  refine YP.obind (sJ hk (ck hs)) ?_;rintro _ ⟨f,rfl,f0,f1⟩;refine YP.obind (vi (p:=8) ⟨f0,f1⟩ (by omega)) ?_
  rintro _ ⟨b,rfl⟩;simp only[tnA];refine YP.ite (fun _=>?_) (fun _=>ih (by omega) (by omega) he (hr.less (by omega)))
  refine YP.obind (bA (q:=q+262145 * d+262144) (hr.less (by omega))) ?_
  rintro _ ⟨v,r1,rfl,hr1,_⟩;simp only[tnA];refine YP.ite (fun _=>?_) (fun _=>ih (by omega) (by omega) he (hr1.less (by omega)))
  refine YP.guard (by (simp <;> omega)) (YP.guard (by (simp <;> omega)) ?_)
  refine YP.ite (fun _=>?_) (fun _=>ih (by omega) (by omega) he (hr1.less (by omega)))
  refine YP.obind (Np hk (q:=q+262145 * d) (by have:=dK hs;omega) hr1) ?_
  rintro _ ⟨v,r2,rfl,hr2,hv⟩;simp only[tnA];refine YP.obind (ct_putD (by omega) he hv (by omega) (by omega)) ?_
  rintro _ ⟨ts,rfl,htl,hts⟩;simp only[tnA];exact ih (by omega) (by omega) hts hr2
theorem vau_1 (hk:KOk ks) {c q m:Nat} (hm:m < ks.length) (hc:c≤100)
  (next : ∀{es:List T} {r:T},es.length≤c→(∀x∈es,Eo BB x)→Rd q r→YP (fun k=>Fo (hl env k Ea) (.sl ks) (.sl es) (.int ((m+1:Nat):Int)) r) Q) :
  ∀{d j:Nat} {es:List T} {r:T},j+d=((T.sl ks).nth m).es.length→es.length+4 * d≤c→(∀x∈es,Eo BB x)→Rd (q+1048580 * d) r→YP (fun k=>Fp (hl env k Ea) (.sl ks) (.sl es) (.int (m:Int)) (.int (j:Int)) r) Q:=by
 have hk1:=hk.1;have hk2:=(hk.2 m hm).1;intro d;induction d with
 | zero=>
  intro j es r hd hel he hr;refine YP.call ?_ (fun r h=>Iz _ _ _ _ _ h)
  unfold FY;simp only[tnA];refine YP.guard (by (simp <;> omega)) (YP.ff (decide_eq_false (by omega)) ?_)
  rw[show IntKind.wrap .i64 ((m:Int)+1)=((m+1:Nat):Int) by rw[bf (by omega) (by omega)];rfl]
  exact next (by omega) he hr
 | succ d ih=>
  intro j es r hd hel he hr;refine YP.call ?_ (fun r h=>Iz _ _ _ _ _ h)
  unfold FY;simp only[tnA];refine YP.guard (by (simp <;> omega)) (YP.tt (decide_eq_true (by omega)) ?_)
  refine YP.obind (YP.of (Q:=fun o=>o=_) (KG (n:=m) (by omega)) rfl) ?_
  rintro _ rfl;simp only[tnA];refine YP.guard (decide_eq_true (by rw[bD];show k_S.size+1≤_;decide)) ?_
  refine YP.obind (YP.of (Q:=fun o=>o=_) (KG (n:=j) (by omega)) rfl) ?_
  rintro _ rfl;simp only[tnA];refine YP.guard (decide_eq_true ?_) ?_
  ·rw[bD,ByteArray.size_append];show k_S.size+1+1≤_;decide
  exact vau_2 hk (c:=c - 4 * d) (q:=q+1048580 * d) hm (by omega) (zD hm (by omega) (by omega) (by omega)) (by omega) (fun h1 h2 h3=>ih (by omega) (by omega) h2 h3) (d:=4) (o:=0) (by omega) (by omega) he (hr.less (by omega))
theorem ct_vauD (hk:KOk ks) {q:Nat} {r:T} (hr:Rd (q+9437220) r):YP (fun k=>cl env k EN [r,.sl ks]) (VauR q):=by
 have hk1:=hk.1;have key : ∀{d m:Nat} {es:List T} {r:T},m+d=ks.length→es.length+12 * d≤36→(∀x∈es,Eo BB x)→Rd (q+3145740 * d) r→YP (fun k=>Fo (hl env k Ea) (.sl ks) (.sl es) (.int (m:Int)) r) (VauR q):=by
  intro d;induction d with
  | zero=>
   intro m es r hd hel he hr;refine YP.call ?_ (fun r h=>Iy _ _ _ _ h)
   unfold FX;simp only[tnA];exact YP.ff (decide_eq_false (by omega)) (YP.some ⟨es,r,rfl,hr,by omega,he⟩)
  | succ d ih=>
   intro m es r hd hel he hr;have hk2:=(hk.2 m (by omega)).1
   refine YP.call ?_ (fun r h=>Iy _ _ _ _ h)
   unfold FX;simp only[tnA];refine YP.tt (decide_eq_true (by omega)) ?_
   exact vau_1 hk (c:=36 - 12 * d) (q:=q+3145740 * d) (by omega) (by omega) (fun h1 h2 h3=>ih (by omega) (by omega) h2 h3) (d:=((T.sl ks).nth m).es.length) (j:=0) (by omega) (by omega) he (hr.less (by omega))
 refine YP.call ?_ (fun r h=>Lv _ _ h)
 exact key (d:=ks.length) (m:=0) (es:=[]) (by omega) (by simp;omega) (fun x h=>by cases h) (hr.less (by omega))
end
theorem YP.yields {x:Nat→R} {r:List T} (h:YP x (fun o=>o=r)):Yields x r:=by
 obtain ⟨_,h,rfl⟩:=h;exact h
theorem YP.run {x:Nat→R} {K:Nat→List T→R} {r:List T} {Q:List T→Prop} (h:Yields x r) (h2:YP (fun k=>K k r) Q):YP (fun k=>Ra.obind (x k) (K k)) Q:=
 YP.obind (YP.of (Q:=fun o=>o=r) h rfl) (by rintro _ rfl;exact h2)
def JG (bs:List T):Prop:=∀x∈bs,∃v:Int,x = .int v∧0≤v∧v≤255
theorem DV {i n:Nat} (h:i < n) (hn:n≤1048576):IntKind.wrap .i64 ((i:Int)+1)=((i+1:Nat):Int):=by rw[bf (by omega) (by omega)];rfl
theorem Yields.guard {b:Bool} {x:Nat→R} {r:List T} (hb:b=true) (h:Yields x r):Yields (fun k=>bif b then x k else Option.none) r:=Yields.tt hb h
theorem or_l {a b:Bool} (h:a=true):(a||b)=true:=by rw[h];rfl
theorem DH (n:Int):(n != n)=false:=by simp
theorem Ar (s:ByteArray):(s.toList==s.toList)=true:=by simp
theorem ints_0 {xs:List T} (hlen:xs.length≤1048576) : ∀{d i:Nat},i+d=xs.length→Yields (fun k=>GM (hl env k Ff) (.sl xs) (.sl xs) (.int (i:Int))) [.bool true]
 | 0,i,hd=>by
  refine Jv _ _ _ ?_;unfold GH;simp only[tnA];exact Yields.ff (decide_eq_false (by omega)) (Yields.some _)
 | d+1,i,hd=>by
  refine Jv _ _ _ ?_;unfold GH;simp only[tnA];simp only[DH,DV (show i < xs.length by omega) hlen]
  exact Yields.tt (decide_eq_true (by omega)) (Yields.guard (by (simp <;> omega)) (Yields.guard (by (simp <;> omega)) (Yields.ff rfl (ints_0 hlen (d:=d) (i:=i+1) (by omega)))))
theorem ints_eq {xs:List T} (hlen:xs.length≤1048576):Yields (fun k=>cl env k IC [.sl xs,.sl xs]) [.bool true]:=by
 refine N1 _ _ ?_;unfold IG;simp only[tnA];simp only[DH];exact Yields.ff rfl (ints_0 hlen (d:=xs.length) (i:=0) (by omega))
theorem vals_0 {xs:List T} (hlen:xs.length≤1048576) (hx : ∀x∈xs,Yields (fun k=>cl env k EU [x,x]) [.bool true]) : ∀{d i:Nat},i+d=xs.length→Yields (fun k=>Ga (hl env k EZ) (.sl xs) (.sl xs) (.int (i:Int))) [.bool true]
 | 0,i,hd=>by
  refine IW _ _ _ ?_;unfold G7;simp only[tnA];exact Yields.ff (decide_eq_false (by omega)) (Yields.some _)
 | d+1,i,hd=>by
  refine IW _ _ _ ?_;unfold G7;have hi:i < xs.length:=by omega
  have en:(T.sl xs).nth i=xs[i]:=bh hi
  simp only[tnA];simp only[en,DV hi hlen];exact Yields.tt (decide_eq_true (by omega)) (Yields.guard (by (simp <;> omega)) (Yields.guard (by (simp <;> omega)) (Yields.obind (hx _ (List.getElem_mem hi)) (Yields.ff rfl (vals_0 hlen hx (d:=d) (i:=i+1) (by omega))))))
theorem Ky : ∀{v:T},EB BB v→Yields (fun k=>cl env k EU [v,v]) [.bool true]:=by
 intro v hv;induction hv with
 | @mk s n ps is h1 h2 h3 h4 h5 h6 h7 ih=>
  rw[BBv] at h4 h5;refine Mp _ _ ?_;unfold Ig;simp only[tnA];simp only[Ar,beq_self_eq_true];refine Yields.tt rfl (Yields.tt rfl (Yields.obind (ints_eq h5) (Yields.tt rfl (Yields.obind (r1:=[.bool true]) ?_ (Yields.some _)))));refine M1 _ _ ?_;unfold HY;simp only[tnA];simp only[DH];exact Yields.ff rfl (vals_0 h4 ih (d:=ps.length) (i:=0) (by omega))
theorem kept_0 {xs:List T} (hlen:xs.length≤1048576) (hx : ∀x∈xs,Eo BB x) : ∀{d i:Nat},i+d=xs.length→Yields (fun k=>GN (hl env k Fg) (.sl xs) (.sl xs) (.int (i:Int))) [.bool true]
 | 0,i,hd=>by
  refine Jw _ _ _ ?_;unfold GI;simp only[tnA];exact Yields.ff (decide_eq_false (by omega)) (Yields.some _)
 | d+1,i,hd=>by
  refine Jw _ _ _ ?_;unfold GI;have hi:i < xs.length:=by omega
  obtain ⟨o,v,e,_,_,hv⟩:=hx _ (List.getElem_mem hi);have e:(T.sl xs).nth i = .st [.int o,v]:=by rw[bh hi,e]
  simp only[tnA];simp only[e,DH,DV hi hlen];simp only[tnA];refine Yields.tt (decide_eq_true (by omega)) (Yields.guard (by (simp <;> omega)) (Yields.guard (by (simp <;> omega)) ?_))
  refine Yields.guard (or_l (aL rfl (by (simp <;> omega)))) (Yields.guard rfl (Yields.guard rfl (Yields.guard (or_l (aL rfl (by (simp <;> omega)))) (Yields.guard rfl (Yields.guard rfl (Yields.guard rfl ?_))))))
  refine Yields.obind (Ky hv) ?_;exact Yields.guard rfl (Yields.guard rfl (Yields.ff rfl (kept_0 hlen hx (d:=d) (i:=i+1) (by omega))))
theorem J0 {xs:List T} (h:FV BB (.sl xs)):Yields (fun k=>cl env k Fa [.sl xs,.sl xs]) [.bool true]:=by
 obtain ⟨xs',e,h1,h2⟩:=h;cases e;rw[BBv] at h1;refine N2 _ _ ?_;unfold IH;simp only[tnA];simp only[DH];exact Yields.ff rfl (kept_0 h1 h2 (d:=xs.length) (i:=0) (by omega))
theorem FL {ms:List T} (h:ShV ms):HO BB (.sl (aY ms)):=⟨_,rfl,by rw[qW,BBv];have:=h.1;omega,E4 h.2.2.2.1⟩
theorem Hc {es:List T} (h1:es.length≤100) (h2 : ∀x∈es,Eo BB x):FV BB (.sl es):=⟨es,rfl,by rw[BBv];omega,h2⟩
theorem Hu {bs:List T} (hv:JG bs) {Z:Nat→List T→List T→R} {Q:List T→Prop}
  (h : ∀{ms es:List T} {r:T},ShV ms→es.length≤100→(∀x∈es,Eo BB x)→Rd 500000000 r→YP (fun k=>Z k [.sl (aY ms)] [.sl es,r]) Q) :
  YP (fun k=>obind (cl env k oF [.sl bs]) fun r1=>obind (cl env k mn [(rt r1 0)]) fun r2=>obind (cl env k d9 [(rt r2 0)]) fun r3=>obind (cl env k EN [(rt (r2.drop 1) 0),(rt r3 0)]) fun r4=>Z k r3 r4) Q:=by
 refine YP.obind (ct_open hv) ?_;rintro _ ⟨r,rfl,hr⟩;refine YP.obind (ct_shelf (q:=600000000) (hr.less (by omega))) ?_
 rintro _ ⟨ms,r1,rfl,hr1,hs⟩;refine YP.run (tF ms (by rw[BBv];have:=hs.1;omega) hs.2.2.2.1) ?_
 refine YP.obind (ct_vauD hs.2.1 (q:=500000000) (hr1.less (by omega))) ?_
 rintro _ ⟨es,r2,rfl,hr2,h1,h2⟩;exact h hs h1 h2 hr2
def DrG (o:List T):Prop:=∃(ms es:List T) (ow:Int) (s:ByteArray),o = [.sl (aY ms),.sl es,.int ow,.str s]∧ShV ms∧es.length≤100∧(∀x∈es,Eo BB x)∧-1≤ow∧ow≤4∧s.size≤9
def DrP (o:List T):Prop:=∃(ms es:List T) (ow:Int) (v:T),o = [.sl (aY ms),.sl es,.int ow,v]∧ShV ms∧es.length≤100∧(∀x∈es,Eo BB x)∧-1≤ow∧ow≤4∧EB BB v
theorem Nr {ms es:List T} {r:T} (h1:ShV ms) (h2:es.length≤100) (h3 : ∀x∈es,Eo BB x) (hr:Rd 500000000 r):YP (fun k=>obind (cl env k aG [(rt ([T.sl es,r].drop 1) 0),(T.int (6:Int))]) fun r5=>
  obind (cl env k EW [(rt (r5.drop 1) 0),(rt [T.sl (aY ms)] 0)]) fun r6=>some [(rt [T.sl (aY ms)] 0),(rt [T.sl es,r] 0),(T.int (IntKind.wrap .i64 ((rt r5 0).i - (1:Int)))),(rt r6 0)]) DrG:=by
 simp only[tnA];refine YP.obind (bA (q:=100) (hr.less (by omega))) ?_
 rintro _ ⟨w,r1,rfl,hr1,w0,w1,_⟩;simp only[tnA];have w1:=w1 (by omega)
 refine YP.obind (L4 (tG h1.2.1) (q:=0) (hr1.less (by omega))) ?_
 rintro _ ⟨s,r2,rfl,_,hs⟩;rw[bf (by omega) (by omega)]
 exact YP.some ⟨ms,es,_,s,rfl,h1,h2,h3,by omega,by omega,hs⟩
theorem Ns {ms es:List T} {r:T} (h1:ShV ms) (h2:es.length≤100) (h3 : ∀x∈es,Eo BB x) (hr:Rd 500000000 r):YP (fun k=>obind (cl env k aG [(rt ([T.sl es,r].drop 1) 0),(T.int (6:Int))]) fun r5=>
  obind (cl env k EW [(rt (r5.drop 1) 0),(rt [T.sl (aY ms)] 0)]) fun r6=>obind (cl env k EA [(rt (r6.drop 1) 0),(rt [T.sl (aY ms)] 0),(rt r6 0)]) fun r7=>
  obind (cl env k GB [(rt (r7.drop 1) 0),(rt r7 0)]) fun r8=>some [(rt [T.sl (aY ms)] 0),(rt [T.sl es,r] 0),(T.int (IntKind.wrap .i64 ((rt r5 0).i - (1:Int)))),(rt r8 0)]) DrP:=by
 simp only[tnA];refine YP.obind (bA (q:=300000) (hr.less (by omega))) ?_
 rintro _ ⟨w,r1,rfl,hr1,w0,w1,_⟩;simp only[tnA];have w1:=w1 (by omega)
 refine YP.obind (L4 (tG h1.2.1) (q:=280000) (hr1.less (by omega))) ?_
 rintro _ ⟨s,r2,rfl,hr2,hs⟩;simp only[tnA];refine YP.obind (Np h1.2.1 (q:=3) hs (hr2.less (by omega))) ?_
 rintro _ ⟨v,r3,rfl,hr3,hv⟩;simp only[tnA];refine YP.obind (ct_bad (q:=0) hv hr3) ?_;rintro _ ⟨v',r4,rfl,_,hv'⟩;rw[bf (by omega) (by omega)]
 exact YP.some ⟨ms,es,_,v',rfl,h1,h2,h3,by omega,by omega,hv'⟩
theorem Lf {o:Int} {v:T} : EP o (v.fld 0).s (.st [.int o,v])=true:=KI.2 ⟨rfl,rfl⟩
theorem MJ {bs:List T} (hv:JG bs):Yields (fun k=>cl env k GQ [.sl bs]) [.bool true]:=by
 refine YP.yields (YP.call ?_ (fun r h=>KB _ h))
 unfold GZ;refine YP.ite (fun _=>YP.some rfl) (fun _=>?_)
 refine YP.obind (Q1:=DrG) (YP.call (Hu hv Nr) (fun r h=>K2 _ h)) ?_
 rintro _ ⟨ms,es,ow,s,rfl,h1,h2,h3,_,_,hs⟩;obtain ⟨v,c,g1,g2,g3,g4,g5⟩:=get_full _ _ (FL h1) (Hc h2 h3) ow s;obtain ⟨ts,v',c',t1,t2,t3,t4,t5,t6⟩:=Js _ _ (FL h1) (Hc h2 h3) ow s;have hcc:c'=c:=by
  cases c with
  | true=>
   obtain ⟨a1,a2,i,hi,hh,_⟩:=g4 rfl;exact t6 a1 a2 ⟨i,hi,hh⟩
  | false=>
   cases c' with
   | false=>rfl
   | true=>
    obtain ⟨a1,a2,i,hi,hh,_⟩:=t5 rfl;exact (g5 a1 a2 ⟨i,hi,hh⟩).symm
 subst hcc;refine YP.run g2 (YP.run g1 ?_);simp only[tnA];simp only[val4 g3];refine YP.run (Ky g3) (YP.ff rfl ?_);refine YP.ff (by simp) ?_
 refine YP.run t2 ?_;simp only[tnA];refine YP.tt (by simp) ?_
 refine YP.ite (fun _=>YP.some rfl) (fun hc=>?_)
 have hc:c'=true:=by cases c' with | true=>rfl | false=>cases hc
 obtain ⟨_,a2,i,hi,hh,rfl⟩:=g4 hc;obtain ⟨_,_,j,hj,hh',_,rfl⟩:=t5 hc;have:=Kp a2 hi hj hh hh'
 subst this;simp only[val4 g3];exact YP.run (Ky g3) (YP.some rfl)
theorem M9 {bs:List T} (hv:JG bs):Yields (fun k=>cl env k GD [.sl bs]) [.bool true]:=by
 refine YP.yields (YP.call ?_ (fun r h=>Kd _ h))
 unfold GE;refine YP.ite (fun _=>YP.some rfl) (fun _=>?_)
 refine YP.obind (Q1:=DrG) (YP.call (Hu hv Nr) (fun r h=>JS _ h)) ?_
 rintro _ ⟨ms,es,ow,s,rfl,h1,h2,h3,w0,w1,hs⟩;obtain ⟨ts,v,c,t1,t2,t3,t4,t5,t6⟩:=Js _ _ (FL h1) (Hc h2 h3) ow s;obtain ⟨us,d,p1,p2,p3,p4,p5⟩:=Lh _ _ v (FL h1) t3 t4 ow (by omega) (by omega)
 refine YP.run t2 (YP.run t1 ?_);simp only[tnA];refine YP.run (J0 t3) (YP.ff rfl ?_);simp only[val4 t4];refine YP.run (Ky t4) (YP.ff rfl (YP.ff (by simp) ?_))
 refine YP.run p2 ?_;simp only[tnA];refine YP.ite (fun _=>YP.some rfl) (fun hc=>?_)
 have hc:c=true:=by cases c with | true=>rfl | false=>cases hc
 obtain ⟨a1,a2,i,hi,hh,rfl,rfl⟩:=t5 hc;obtain ⟨o,u,e,o0,o3,hkeep,hkin⟩:=Im a2 hi;have ho:o=ow:=by rw[e] at hh;exact (KI.1 hh).1
 subst ho;have ev:es[i].fld 1=u:=by rw[e];rfl
 have hno:=Nt a2 hi (ow:=o) (s:=(u.fld 0).s) (by rw[e];exact Lf)
 rw[ev] at p4 p5;have hd:d=true:=p5 a1 (Nu a2 hi) o0 o3 hkeep hno
 obtain ⟨_,_,_,_,_,_,_,_,p,hp,rfl⟩:=p4 hd;have hmem : ∀x∈less es i,Eo BB x:=by obtain ⟨_,e,_,h⟩:=t3;cases e;exact h
 have hpi:=Na hmem hp (N8 a2 hi e rfl);subst hpi;refine YP.tt hd ?_;have hb:more (less es p) p (.st [.int o,u])=es:=by rw[Mw hi,← e,List.set_getElem_self]
 rw[hb];exact YP.run (J0 (Hc h2 h3)) (YP.some rfl)
theorem MK {bs:List T} (hv:JG bs):Yields (fun k=>cl env k GR [.sl bs]) [.bool true]:=by
 refine YP.yields (YP.call ?_ (fun r h=>KC _ h))
 unfold H0;refine YP.ite (fun _=>YP.some rfl) (fun _=>?_)
 refine YP.obind (Q1:=DrP) (YP.call (Hu hv Ns) (fun r h=>K3 _ h)) ?_
 rintro _ ⟨ms,es,ow,v,rfl,h1,h2,h3,w0,w1,hval⟩;obtain ⟨ts,c,p1,p2,p3,p4,p5⟩:=Lh _ _ v (FL h1) (Hc h2 h3) hval ow (by omega) (by omega)
 obtain ⟨us,u,d,t1,t2,t3,t4,t5,t6⟩:=Js _ ts (FL h1) p3 ow (v.fld 0).s;have e0:v.fld 0 = .str (v.fld 0).s:=by cases hval;rfl
 rw[← e0] at t2;refine YP.run p2 (YP.run p1 ?_);simp only[tnA];refine YP.run (J0 p3) (YP.ff rfl (YP.ff (by simp) ?_))
 refine YP.run t2 ?_;simp only[tnA];refine YP.ite (fun _=>YP.some rfl) (fun hc=>?_)
 have hc:c=true:=by cases c with | true=>rfl | false=>cases hc
 obtain ⟨a1,a2,o0,o3,hkeep,hkin,h36,hno,p,hp,rfl⟩:=p4 hc;have hok:=more_ok a2 h3 hp h36 o0 o3 hkeep hkin hno;obtain ⟨hpl,hpx⟩:=more_at hp.1 (.st [.int ow,v]);obtain ⟨c3,_,v2,_,v4⟩:=GC _ _ (FL h1) p3;refine YP.run v2 ?_;simp only[tnA];refine YP.tt (v4 a1 hok) ?_;have hd:d=true:=t6 a1 hok ⟨p,hpl,by rw[hpx];exact Lf⟩
 refine YP.tt hd ?_;obtain ⟨_,_,j,hj,hh,rfl,rfl⟩:=t5 hd;have hjp:=Kp hok hj hpl hh (by rw[hpx];exact Lf)
 subst hjp;have eu:(more es j (.st [.int ow,v]))[j].fld 1=v:=by rw[hpx];rfl
 rw[eu];simp only[val4 hval];refine YP.run (Ky hval) (YP.tt rfl ?_);rw[NI hp.1];exact YP.run (J0 (Hc h2 h3)) (YP.some rfl)
theorem ML {bs:List T} (hv:JG bs):Yields (fun k=>cl env k GS [.sl bs]) [.bool true]:=by
 refine YP.yields (YP.call ?_ (fun r h=>KD _ h))
 unfold H1;refine YP.ite (fun _=>YP.some rfl) (fun _=>?_)
 refine YP.obind (Q1:=DrP) (YP.call (Hu hv Ns) (fun r h=>K4 _ h)) ?_
 rintro _ ⟨ms,es,ow,v,rfl,h1,h2,h3,w0,w1,hval⟩;obtain ⟨ss,c,s1,s2,s3,s4⟩:=set_full _ _ v (FL h1) (Hc h2 h3) hval ow;obtain ⟨us,u,d,t1,t2,t3,t4,t5,t6⟩:=Js _ es (FL h1) (Hc h2 h3) ow (v.fld 0).s;obtain ⟨ts,f,p1,p2,p3,p4,p5⟩:=Lh _ _ v (FL h1) t3 hval ow (by omega) (by omega)
 have e0:v.fld 0 = .str (v.fld 0).s:=by cases hval;rfl
 rw[← e0] at t2;refine YP.run s2 (YP.run s1 ?_);simp only[tnA];refine YP.run (J0 s3) (YP.ff rfl (YP.ff (by simp) ?_))
 refine YP.run t2 ?_;simp only[tnA];refine YP.run p2 ?_;simp only[tnA];refine YP.ite (fun _=>YP.some rfl) (fun hc=>?_)
 have hc:c=true:=by cases c with | true=>rfl | false=>cases hc
 obtain ⟨a1,a2,hkeep,i,hi,hh,rfl⟩:=s4 hc;obtain ⟨o,w,e,o0,o3,_,_⟩:=Im a2 hi;have hkey:=KI.1 hh;rw[e] at hkey;have ho:o=ow:=hkey.1
 subst ho;have hd:d=true:=t6 a1 a2 ⟨i,hi,hh⟩
 refine YP.tt hd ?_;obtain ⟨_,_,j,hj,hh',rfl,_⟩:=t5 hd;have hji:=Kp a2 hj hi hh' hh;subst hji;have hf:f=true:=p5 a1 (Nu a2 hj) o0 o3 hkeep (Nt a2 hj hh)
 refine YP.tt hf ?_;obtain ⟨_,_,_,_,_,_,_,_,p,hp,rfl⟩:=p4 hf;have hmem : ∀x∈less es j,Eo BB x:=by obtain ⟨_,e,_,h⟩:=t3;cases e;exact h
 have hpi:=Na hmem hp (N8 a2 hj e hkey.2.symm);subst hpi;have hb:more (less es p) p (.st [.int o,v])=es.set p (.st [es[p].fld 0,v]):=by rw[Mw hj,e];rfl
 rw[hb];exact YP.run (J0 s3) (YP.some rfl)
theorem NE {ks:List T} (hk : ∀x∈ks,yD BB x) {v:T} (hv:EB BB v) (h:J2 ks v):Yields (fun k=>cl env k El [.sl ks,v]) [.bool true]:=by
 obtain ⟨c,y1,y2,_⟩:=Mu hk (DU (Nat.le_refl _)) v hv;cases c with
 | true=>exact y2
 | false=>
  obtain ⟨s,n,ps,is,rfl,_⟩:=Kz hv;have:Yields (fun k=>cl env k EG [.sl ks,.st [.str s,.int n,.sl ps,.sl is]]) [.bool false]:=by
   refine Hy _ _ (Yields.obind (zl s) ?_);cases hkc:dn s with
   | none=>exact Yields.ff rfl (Yields.some _)
   | some x=>exact Yields.tt rfl (Yields.obind y1 (Yields.ff rfl (Yields.some _)))
  have:=Yields.uniq h this
  cases this
theorem Nw (ks es:List T) (hk:HO BB (.sl ks)) (hlist:FV BB (.sl es)) (s:ByteArray) :
  ∃n:Int,Yields (fun k=>cl env k GT [.sl ks,.sl es,.str s]) [.int n]∧Yields (fun k=>cl env k GP [.sl ks,.sl es,.str s]) [.int n]∧
   (¬n < 0→Yields (fun k=>EY (hl env k Er) (.sl ks) (.sl es) (.str s) (.int n) (.int 0) (.int 0)) [.bool true]):=by
 obtain ⟨c,y1,y2,y3,_⟩:=GC ks es hk hlist;obtain ⟨es',he,hl1,hl2⟩:=hlist;cases he;have hbm:=DU (Nat.le_refl BB);cases c with
 | false=>exact ⟨-1,G4 _ _ _ (Yields.obind (zl s) (Yields.obind y1 (Yields.tt rfl (Yields.some _)))),G3 _ _ _ (Yields.obind y2 (Yields.tt rfl (Yields.some _))),fun h=>by omega⟩
 | true=>
  obtain ⟨hk2,_,_,hk3,hlo,hky⟩:=y3 rfl;obtain ⟨c0,z1,z2,_⟩:=IM hk2 hbm (by rw[BBv];omega)
  have hc0:c0=true:=by have:=Yields.uniq z1 hky;simp at this;exact this
  subst hc0;have loop:nQ ks s=true→∀(n q:Nat),q+n=es.length→∀z:Int,∃r:Int,Yields (fun k=>F7 (hl env k Ej) (.sl es) (.str s) (.int z) (.int (q:Int))) [.int r]∧
    Yields (fun k=>F6 (hl env k Ei) (.str s) (.int z) (.sl es) (.int (es.length:Int)) (.int (q:Int))) [.int r]∧
    ∀X:Int,Yields (fun k=>EY (hl env k Er) (.sl ks) (.sl es) (.str s) (.int X) (.int z) (.int (q:Int))) [.bool (r==X)]:=by
   intro hkin n;have hki:=Jq ks s;rw[hkin] at hki;induction n with
   | zero=>
    intro q hq z;refine ⟨z,Id _ _ _ _ (Yields.ff (FH (by omega)) (Yields.some _)),Ib _ _ _ _ _ (Yields.ff ?_ (Yields.some _)),fun X=>Hv _ _ _ _ _ _ (Yields.ff (FH (by omega)) (Yields.some _))⟩
    rw[vZ];exact decide_eq_false (by omega)
   | succ n ihn=>
    intro q hq z;have hlt:q < es.length:=by omega
    obtain ⟨o,v,hx,_,_,hv⟩:=hl2 _ (List.getElem_mem hlt);obtain ⟨w,c1,c2⟩:=Nx hbm s v hv;obtain ⟨r,z3,z4,z5⟩:=ihn (q+1) (by omega) (IntKind.wrap .i64 (z+w))
    have hn1:((T.sl es).nth (T.int (q:Int)).i.toNat).fld 1=v:=by rw[vQ hlt,hx];rfl
    have hnx:=AM hlt (Nat.le_trans hl1 hbm);have d2:decide ((T.int (q:Int)).i < (T.int (es.length:Int)).i)=true:=by rw[vZ];exact decide_eq_true hlt
    obtain ⟨o',v',e',_,_,hkeep,_⟩:=Im hlo hlt;have hv':v'=v:=by rw[hx] at e';injection e' with e';simp at e';exact e'.2.symm
    subst hv';have hvc:Yields (fun k=>cl env k He [.sl ks,v',.str s]) [.int w]:=
     KZ _ _ _ (Yields.obind (r1:=[.bool true]) (Mm _ _ (Yields.obind z2 (Yields.tt rfl (Yields.obind (NE hk2 hv hkeep) (Yields.some _))))) (Yields.ff rfl (Yields.obind hki (Yields.ff rfl (Yields.obind c2 (Yields.some _))))))
    rw[← hn1] at c1 c2 hvc;refine ⟨r,Id _ _ _ _ (Yields.tt (F2 hlt) (Yields.tt (pw hlt) (Yields.obind c1 ?_))),Ib _ _ _ _ _ (Yields.tt d2 (Yields.tt (pw hlt) (Yields.obind c2 ?_))),fun X=>Hv _ _ _ _ _ _ (Yields.tt (F2 hlt) (Yields.tt (pw hlt) (Yields.obind hvc ?_)))⟩
    ·rw[hnx];exact z3
    ·rw[hnx];exact z4
    ·rw[hnx];exact z5 X
  cases hkc:dn s with
  | none=>
   have hkn:nQ ks s=false:=by unfold nQ;rw[hkc]
   have hki:=Jq ks s;rw[hkn] at hki;refine ⟨-1,G4 _ _ _ (Yields.obind (zl s) (Yields.obind y1 (Yields.ff rfl ?_))),G3 _ _ _ (Yields.obind y2 (Yields.ff rfl (Yields.obind hki (Yields.tt rfl (Yields.some _))))),fun h=>by omega⟩
   rw[hkc];exact Yields.tt rfl (Yields.some _)
  | some x=>
   obtain ⟨i,j⟩:=x;have hnb:dw s=false:=by
    cases hb:dw s with
    | false=>rfl
    | true=>rw[sF hb] at hkc;cases hkc
   have hpl:=hplain_s ks s;have hki:=Jq ks s;rw[hnb,Bool.false_or] at hpl;cases hkn:nQ ks s with
   | false=>
    rw[hkn] at hpl hki;refine ⟨-1,G4 _ _ _ (Yields.obind (zl s) (Yields.obind y1 (Yields.ff rfl ?_))),G3 _ _ _ (Yields.obind y2 (Yields.ff rfl (Yields.obind hki (Yields.tt rfl (Yields.some _))))),fun h=>by omega⟩
    rw[hkc];exact Yields.ff rfl (Yields.obind hpl (Yields.tt rfl (Yields.some _)))
   | true=>
    rw[hkn] at hpl hki;obtain ⟨r,z3,z4,z5⟩:=loop hkn es.length 0 (by omega) 0
    refine ⟨r,G4 _ _ _ (Yields.obind (zl s) (Yields.obind y1 (Yields.ff rfl ?_))),G3 _ _ _ (Yields.obind y2 (Yields.ff rfl (Yields.obind hki (Yields.ff rfl z4)))),fun _=>?_⟩
    ·rw[hkc];exact Yields.ff rfl (Yields.obind hpl (Yields.ff rfl z3))
    ·have:=z5 r
     rw[beq_self_eq_true] at this;exact this
theorem LI {bs:List T} (hv:JG bs):Yields (fun k=>cl env k Gt [.sl bs]) [.bool true]:=by
 refine YP.yields (YP.call ?_ (fun r h=>K1 _ h))
 unfold Gu;refine YP.ite (fun _=>YP.some rfl) (fun _=>?_)
 refine YP.obind (Q1:=fun o=>∃(ms es:List T) (s:ByteArray),o = [.sl (aY ms),.sl es,.str s]∧ShV ms∧es.length≤100∧(∀x∈es,Eo BB x)) (YP.call (Hu hv (fun {ms es r} h1 h2 h3 hr=>?_)) (fun r h=>JE _ h)) ?_
 ·simp only[tnA];refine YP.obind (L4 (tG h1.2.1) (q:=0) (hr.less (by omega))) ?_
  rintro _ ⟨s,r2,rfl,_,hs⟩;exact YP.some ⟨ms,es,s,rfl,h1,h2,h3⟩
 rintro _ ⟨ms,es,s,rfl,h1,h2,h3⟩;obtain ⟨n,c1,c2,c3⟩:=Nw _ _ (FL h1) (Hc h2 h3) s;refine YP.run c2 (YP.run c1 ?_);simp only[tnA];simp only[DH];refine YP.ff rfl (YP.ite (fun _=>YP.some rfl) (fun hc=>?_))
 exact YP.of (c3 (of_decide_eq_false hc)) rfl
end Go.Proofs.YtdmgnefllclaoaaGreat.Ra
