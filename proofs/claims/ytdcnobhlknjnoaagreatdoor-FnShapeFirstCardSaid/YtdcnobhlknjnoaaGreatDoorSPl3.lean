/- A verified evaluator for the program, part Pl3 of this claim. -/
import Derived.Test.YtdcnobhlknjnoaaGreatDoorSPl2
import Derived.Test.YtdcnobhlknjnoaaGreatDoorSRe
import Derived.Test.YtdcnobhlknjnoaaGreatDoorSRf
import Derived.Test.YtdcnobhlknjnoaaGreatDoorSPl1
set_option linter.unusedSimpArgs false
set_option linter.unusedVariables false
namespace Go.Proofs.YtdcnobhlknjnoaaGreatDoor.Ra
open Go
def strB (n:Nat) (t:T):Bool:=match t with | .str s=>decide (s.size≤n) | _=>false
def tyvB (ks:List T) (t:T):Bool:=match t with | .str s=>cK ks s | _=>false
def numB (t:T):Bool:=match t with | .int _=>true | _=>false
def recvB (ks:List T) (m k:Nat):Bool:=match ((T.sl ks).nth m).nth k with
 | .st [.int a,.sl fs]=>decide (0≤a)&&decide (a≤15)&&decide (fs.length≤3)&&fs.all fun x=>match x with | .str s=>eV ks m k s | _=>false
 | _=>false
def rec4B (t:T):Bool:=match t with
 | .st [.int a,.sl fs]=>decide (-1≤a)&&decide (a≤16)&&decide (fs.length≤4)&&fs.all (strB 9)
 | _=>false
def fnvB (ks:List T) (g:T):Bool:=match g with
 | .st [.int _,.sl ags,.sl rs,.sl ls,.sl tk,.sl cd]=>decide (ags.length≤10)&&decide (rs.length≤10)&&decide (ls.length≤10)&&decide (tk.length≤10)&&decide (cd.length≤1000)&&decide (1≤cd.length)&&ags.all (tyvB ks)&&rs.all (tyvB ks)&&ls.all (tyvB ks)&&tk.all numB&&cd.all insR
 | _=>false
def modB (ks:List T) (t:T):Bool:=match t with
 | .st [.sl rs,.sl fs,.sl fr]=>decide (rs.length≤3)&&decide (fs.length≤10)&&decide (fr.length≤10)&&fr.all numB&&rs.all rec4B&&fs.all (fnvB ks)
 | _=>false
def kokB (ks:List T):Bool:=decide (ks.length≤3)&&(List.range ks.length).all fun m=>decide (((T.sl ks).nth m).es.length≤3)&&(List.range ((T.sl ks).nth m).es.length).all fun k=>recvB ks m k
theorem recv_of {ks:List T} {m k:Nat} (h:recvB ks m k=true):pP ks m k:=by
 unfold recvB at h;split at h
 ·rename_i a fs e
  simp only[Bool.and_eq_true,decide_eq_true_eq,List.all_eq_true] at h;refine ⟨a,fs,e,h.1.1.1,h.1.1.2,h.1.2,fun x hx=>?_⟩
  have:=h.2 x hx
  split at this
  ·exact ⟨_,rfl,this⟩
  ·cases this
 ·cases h
theorem rec4_of {t:T} (h:rec4B t=true):hM 4 t:=by
 unfold rec4B at h;split at h
 ·rename_i a fs
  simp only[Bool.and_eq_true,decide_eq_true_eq,List.all_eq_true] at h;refine ⟨a,fs,rfl,h.1.1.1,h.1.1.2,h.1.2,fun x hx=>?_⟩
  have:=h.2 x hx
  unfold strB at this;split at this
  ·exact ⟨_,rfl,of_decide_eq_true this⟩
  ·cases this
 ·cases h
theorem xf {ks xs:List T} (h : ∀x∈xs,tyvB ks x=true):dL ks xs:=fun x hx=>by
 have:=h x hx
 unfold tyvB at this;split at this
 ·exact ⟨_,rfl,this⟩
 ·cases this
theorem uD {xs:List T} (h : ∀x∈xs,numB x=true):cz xs:=fun x hx=>by
 have:=h x hx
 unfold numB at this;split at this
 ·exact ⟨_,rfl⟩
 ·cases this
theorem za {ks:List T} {g:T} (h:fnvB ks g=true):FnV ks g∧FnC g:=by
 unfold fnvB at h;split at h
 ·rename_i n ags rs ls tk cd
  simp only[Bool.and_eq_true,decide_eq_true_eq,List.all_eq_true] at h;obtain ⟨⟨⟨⟨⟨⟨⟨⟨⟨⟨h1,h2⟩,h3⟩,h4⟩,h5⟩,h6⟩,h7⟩,h8⟩,h9⟩,h10⟩,h11⟩:=h;exact ⟨⟨n,ags,rs,ls,tk,cd,rfl,h1,h2,h3,h4,h5,xf h7,xf h8,xf h9,uD h10,fun x hx=>xM (h11 x hx)⟩,h6⟩
 ·cases h
theorem zw {ks:List T} {x:T} (h:modB ks x=true):oH ks x∧kW BB x∧∀g∈(x.fld 1).es,FnC g:=by
 unfold modB at h;split at h
 ·rename_i rs fs fr
  simp only[Bool.and_eq_true,decide_eq_true_eq,List.all_eq_true] at h;obtain ⟨⟨⟨⟨⟨h1,h2⟩,h3⟩,h4⟩,h5⟩,h6⟩:=h;refine ⟨⟨rs,fs,fr,rfl,by omega,by omega,uD h4,fun g hg=>(za (h6 g hg)).1⟩,.mk ⟨rs,rfl,by rw[BBv];omega,fun x hx=>zL (rec4_of (h5 x hx))⟩ (by rw[BBv];omega) (fun g hg=>fn_is (za (h6 g hg)).1) (by rw[BBv];omega) (uD h4),fun g hg=>(za (h6 g hg)).2⟩
 ·cases h
theorem kok_of {ks:List T} (h:kokB ks=true):KOk ks:=by
 unfold kokB at h;simp only[Bool.and_eq_true,decide_eq_true_eq,List.all_eq_true,List.mem_range] at h;exact ⟨h.1,fun m hm=>⟨(h.2 m hm).1,fun k hk=>recv_of ((h.2 m hm).2 k hk)⟩⟩
theorem sh_of {ms:List T} (h:(decide (ms.length≤3)&&kokB (aY ms)&&ms.all (modB (aY ms)))=true):ShV ms:=by
 simp only[Bool.and_eq_true,decide_eq_true_eq,List.all_eq_true] at h;exact ⟨h.1.1,kok_of h.1.2,fun x hx=>(zw (h.2 x hx)).1,fun x hx=>(zw (h.2 x hx)).2.1,fun x hx=>(zw (h.2 x hx)).2.2⟩
theorem yR:ShV [aS]:=sh_of (by kernel_rfl)
theorem zb:ShV [aS,aU]:=sh_of (by kernel_rfl)
theorem BC:kW BB aS:=yR.2.2.2.1 _ (by simp)
theorem BP:kW BB aU:=zb.2.2.2.1 _ (by simp)
theorem run_ok {f:Nat} {ts r:List T} (n:Nat) (h : ∀k,cl env (k+n) f ts=some r):YP (fun k=>cl env k f ts) (fun o=>o=r):=
 ⟨r,⟨n,fun k hk=>by obtain ⟨j,rfl⟩ : ∃j,k=j+n:=⟨k - n,by omega⟩;exact h j⟩,rfl⟩
theorem coins_ok:YP (fun k=>cl env k qy []) (fun o=>o = [.str CK]):=run_ok 40 (fun k=>by kernel_rfl)
theorem games_ok:YP (fun k=>cl env k ml []) (fun o=>o = [.str CL]):=run_ok 40 (fun k=>by kernel_rfl)
inductive vd:List T→T→T→Prop
 | nil (m:T):vd [] m m
 | cons {l m m' m2:T} {ls:List T} : (∀k,cl env (k+120) aI [m,l]=some [m',.bool true])→T.st [m'.fld 0,m'.fld 1,m'.fld 2]=m'→vd ls m' m2→vd (l :: ls) m m2
theorem Cg {s:ByteArray} {xs:List T} {m2 z:T} (hl:xs.length≤1000) (ht : ∀k,cl env (k+120) eA [m2]=some [.str s]) : ∀{todo ys:List T} {m:T},vd todo m m2→xs=ys++todo→T.st [m.fld 0,m.fld 1,m.fld 2]=m→
  Yields (fun k=>eK (Ra.hl env k cn) (cl env k) (.str s) (.bool true) (.int (ys.length:Int)) z m (.sl xs)) [m2,.bool true]:=by
 intro todo ys m hr;induction hr generalizing ys with
 | nil m=>
  intro hx hm;unfold eK;simp only[tnA];simp only[hm];refine Yields.ff (decide_eq_false (by rw[hx];simp)) (Yields.ff rfl ?_)
  refine Yields.obind (r1:=[.str s]) ⟨120,fun k hk=>by obtain ⟨j,rfl⟩ : ∃j,k=j+120:=⟨k - 120,by omega⟩;exact ht j⟩ ?_
  simp only[tnA];exact Yields.ff (by simp) (Yields.some _)
 | @cons l m m' m2 ls h1 h2 h3 ih=>
  intro hx hm;have hlt:ys.length < xs.length:=by rw[hx];simp
  have en:(T.sl xs).nth ys.length=l:=by rw[bh hlt];simp[hx]
  have ew:IntKind.wrap .i64 ((ys.length:Int)+1)=((ys ++ [l]).length:Int):=by rw[bf (by omega) (by omega)];simp
  unfold eK;simp only[tnA];simp only[hm,en,ew];refine Yields.tt (decide_eq_true (by omega)) (Yields.tt rfl (Yields.tt (by (simp <;> omega)) ?_))
  refine Yields.obind (r1:=[m',.bool true]) ⟨120,fun k hk=>by obtain ⟨j,rfl⟩ : ∃j,k=j+120:=⟨k - 120,by omega⟩;exact h1 j⟩ ?_
  simp only[tnA];simp only[h2];exact sr _ _ _ _ _ _ (ih ht (by rw[hx];simp) h2)
theorem zK {s:ByteArray} {xs:List T} {m2:T} (hs:s.size≤4000) (hl:xs.length≤1000) (h1 : ∀k,cl env (k+500) qZ [.str s]=some [.sl xs,.bool true]) (ht : ∀k,cl env (k+120) eA [m2]=some [.str s])
  (h:vd xs (.st [.sl [],.sl [],.sl []]) m2) (h3:T.st [m2.fld 0,m2.fld 1,m2.fld 2]=m2):YP (fun k=>cl env k eN [.str s]) (fun o=>o = [m2]):=by
 refine YP.of (r:=[m2]) ?_ rfl;refine xw _ ?_;unfold ny;refine Yields.obind (r1:=[m2,.bool true]) ?_ ?_
 ·refine tU _ ?_;unfold kz;simp only[tnA];refine Yields.ff (decide_eq_false (by omega)) ?_
  refine Yields.obind (r1:=[.sl xs,.bool true]) ⟨500,fun k hk=>by obtain ⟨j,rfl⟩ : ∃j,k=j+500:=⟨k - 500,by omega⟩;exact h1 j⟩ ?_
  simp only[tnA];exact sq _ _ _ _ _ _ (Cg hl ht (ys:=[]) h rfl rfl)
 ·simp only[tnA];simp only[h3];exact Yields.some _
theorem AX:YP (fun k=>cl env k eN [.str CK]) (fun o=>o = [aS]):=
 zK (by decide +kernel) (by decide +kernel) CT CY (.cons rc0 rfl (.cons rc1 rfl (.cons rc2 rfl (.cons rc3 rfl (.cons rc4 rfl (.cons rc5 rfl (.cons rc6 rfl (.cons rc7 rfl (.cons rc8 rfl (.cons rc9 rfl (.cons rc10 rfl (.cons rc11 rfl (.cons rc12 rfl (.cons rc13 rfl (.cons rc14 rfl (.cons rc15 rfl (.cons rc16 rfl (.cons rc17 rfl (.cons rc18 rfl (.cons rc19 rfl (.cons rc20 rfl (.cons rc21 rfl (.cons rc22 rfl (.cons rc23 rfl (.cons rc24 rfl (.cons rc25 rfl (.cons rc26 rfl (.cons rc27 rfl (.cons rc28 rfl (.cons rc29 rfl (.cons rc30 rfl (.cons rc31 rfl (.cons rc32 rfl (.cons rc33 rfl (.cons rc34 rfl (.cons rc35 rfl (.cons rc36 rfl (.cons rc37 rfl (.cons rc38 rfl (.cons rc39 rfl (.cons rc40 rfl (.cons rc41 rfl (.nil _))))))))))))))))))))))))))))))))))))))))))) rfl
theorem Bh:YP (fun k=>cl env k eN [.str CL]) (fun o=>o = [aU]):=
 zK (by decide +kernel) (by decide +kernel) CU CZ (.cons rg0 rfl (.cons rg1 rfl (.cons rg2 rfl (.cons rg3 rfl (.cons rg4 rfl (.cons rg5 rfl (.cons rg6 rfl (.cons rg7 rfl (.cons rg8 rfl (.cons rg9 rfl (.cons rg10 rfl (.cons rg11 rfl (.cons rg12 rfl (.cons rg13 rfl (.cons rg14 rfl (.cons rg15 rfl (.cons rg16 rfl (.cons rg17 rfl (.cons rg18 rfl (.cons rg19 rfl (.cons rg20 rfl (.cons rg21 rfl (.cons rg22 rfl (.cons rg23 rfl (.cons rg24 rfl (.cons rg25 rfl (.cons rg26 rfl (.cons rg27 rfl (.cons rg28 rfl (.cons rg29 rfl (.cons rg30 rfl (.cons rg31 rfl (.cons rg32 rfl (.cons rg33 rfl (.nil _))))))))))))))))))))))))))))))))))) rfl
def ve (q:Nat) (o:List T):Prop:=∃(ms:List T) (r':T),o = [.sl ms,r']∧Rd q r'∧ShV ms
theorem A9 {ks:List T} {x:T} (h:oH ks x) {l:List T} (hl:l.length≤1000) (hn:cz l):oH ks (.st (x.fs.set 2 (.sl l))):=by
 obtain ⟨rs,fs,fr,rfl,h1,h2,h3,h4⟩:=h;exact ⟨rs,fs,l,rfl,h1,hl,hn,h4⟩
theorem Ci {ms:List T} (h:ShV ms) (hl:0 < ms.length):ShV (ms.set 0 (.st (((T.sl ms).nth 0).fs.set 2 (.sl [.int 1])))):=by
 obtain ⟨h1,h2,h3,h4,h5⟩:=h;have e0:(T.sl ms).nth 0=ms[0]:=bh hl
 have hm:ms[0]∈ms:=List.getElem_mem hl
 rw[e0];have ek:aY (ms.set 0 (.st (ms[0].fs.set 2 (.sl [.int 1]))))=aY ms:=by
  obtain ⟨rs,fs,fr,e,_⟩:=h3 _ hm;rcases ms with _ | ⟨a,ms⟩
  ·cases hl
  ·have e:a=_:=e
   subst e;rfl
 have key : ∀{P:T→Prop},(∀x∈ms,P x)→P (.st (ms[0].fs.set 2 (.sl [.int 1])))→∀x∈ms.set 0 (.st (ms[0].fs.set 2 (.sl [.int 1]))),P x:=fun hp h0 x hx=>by
  rcases List.mem_or_eq_of_mem_set hx with hx | rfl
  ·exact hp x hx
  ·exact h0
 refine ⟨by rw[List.length_set];exact h1,by rw[ek];exact h2,by rw[ek];exact key h3 (A9 (h3 _ hm) (by simp) (dc 1)),key h4 ?_,key h5 ?_⟩
 ·have:=h4 _ hm
  generalize ms[0]=y at this ⊢
  cases this with
  | mk a b c d e=>exact .mk a b c (by rw[BBv];simp) (dc 1)
 ·have:=h5 _ hm
  obtain ⟨rs,fs,fr,e,_⟩:=h3 _ hm;generalize ms[0]=y at this e ⊢
  subst e;exact this
theorem mod3 {x:T} (h:kW BB x):T.st [x.fld 0,x.fld 1,x.fld 2]=x:=by cases h;rfl
theorem My {q:Nat} {ms:List T} {r:T} (h:ShV ms) (hrd:Rd (q+1) r):YP (fun k=>bif (decide ((ms.length:Int) > (1:Int))) then
 obind (cl env k aG [r, (T.int (3 : Int))]) fun r2 =>
 bif ((rt r2 0).i == (0 : Int)) then
 bif (decide (0 ≤ (0 : Int)) && decide (0 < ms.length)) then
 some [(T.put (T.sl ms) [.idx 0, .fld 2] (T.sl [(T.int (1 : Int))])), (rt (r2.drop 1) 0)]
 else
 none
 else
 some [(T.sl ms), (rt (r2.drop 1) 0)]
 else
 some [(T.sl ms), r]) (ve q) := by
 refine YP.ite (fun hc=>?_) (fun hc=>YP.some ⟨ms,r,rfl,hrd.less (by omega),h⟩)
 have hc:=of_decide_eq_true hc;refine YP.obind (bA hrd) ?_;rintro _ ⟨v,r1,rfl,hr1,_⟩;simp only[tnA];refine YP.ite (fun _=>?_) (fun _=>YP.some ⟨ms,r1,rfl,hr1,h⟩)
 have hl:0 < ms.length:=by omega
 exact YP.guard (by rw[decide_eq_true hl];rfl) (YP.some ⟨_,r1,rfl,hr1,Ci h hl⟩)
theorem shelf_0 {q:Nat} : ∀{d:Nat} {ms:List T} {r:T},ShV ms→Rd (q+1+4000 * d) r→YP (fun k=>da (hl env k dr) (.int (d:Int)) r (.sl ms)) (ve q):=by
 intro d;induction d with
 | zero=>
  intro ms r h hrd;refine YP.call ?_ (fun r h=>pm _ _ _ h)
  unfold RJ;simp only[tnA];exact YP.ff (decide_eq_false (by omega)) (My h hrd)
 | succ d ih=>
  intro ms r h hrd;refine YP.call ?_ (fun r h=>pm _ _ _ h)
  unfold RJ;simp only[tnA];refine YP.tt (decide_eq_true (by omega)) ?_
  refine YP.ite (fun hc=>?_) (fun hc=>My h (hrd.less (by omega)))
  have hc:=of_decide_eq_true hc;refine YP.obind (BD (q:=q+1+4000 * d) h (by omega) (hrd.less (by omega))) ?_
  rintro _ ⟨x,r1,rfl,hr1,hx,_⟩;simp only[tnA];have ex:T.st [x.fld 0,x.fld 1,x.fld 2]=x:=mod3 (hx.2.2.2.1 x (by simp))
  have em:IntKind.wrap .i64 (((d+1:Nat):Int) - 1)=(d:Int):=by obtain ⟨_,_,_,_,_,_,_⟩:=hrd;rw[bf (by omega) (by omega)];omega
  simp only[ex,em];refine YP.guard (decide_eq_true (by rw[bD];simp;omega)) ?_
  exact ih hx hr1
theorem ct_shelf {q:Nat} {r:T} (hrd:Rd (q+8003) r):YP (fun k=>cl env k mn [r]) (ve q):=by
 refine YP.call ?_ (fun r h=>wC _ h)
 unfold mE;refine YP.obind (bA (q:=q+8002) hrd) ?_;rintro _ ⟨v,r1,rfl,hr1,h0,h1,_⟩;simp only[tnA];have h1:=h1 (by omega)
 have fin : ∀{ms:List T},ShV ms→YP (fun k=>obind (cl env k aG [r1,(T.int (3:Int))]) fun r7=>da (hl env k dr) (rt r7 0) (rt (r7.drop 1) 0) (T.sl ms)) (ve q):=fun {ms} h=>by
  refine YP.obind (bA (q:=q+8001) (hr1.less (by omega))) ?_
  rintro _ ⟨w,r2,rfl,hr2,h2,h3,_⟩;simp only[tnA];have h3:=h3 (by omega)
  have ew:w=(w.toNat:Int):=by omega
  rw[ew];exact shelf_0 h (hr2.less (by omega))
 refine YP.ite (fun hc=>?_) (fun hc=>?_)
 ·refine YP.obind coins_ok ?_;rintro _ rfl;refine YP.obind AX ?_;rintro _ rfl;have e1 : ∀a b c:List T,T.st [(T.st [.sl a,.sl b,.sl c]).fld 0,(T.st [.sl a,.sl b,.sl c]).fld 1,(T.st [.sl a,.sl b,.sl c]).fld 2]=T.st [.sl a,.sl b,.sl c]:=fun _ _ _=>rfl
  have ec:T.st [aS.fld 0,aS.fld 1,aS.fld 2]=aS:=mod3 BC
  simp only[rt0,ec];refine YP.guard (decide_eq_true (by rw[bD];simp)) ?_
  refine YP.ite (fun hc=>?_) (fun hc=>fin yR)
  refine YP.obind games_ok ?_;rintro _ rfl;refine YP.obind Bh ?_;rintro _ rfl;have eg:T.st [aU.fld 0,aU.fld 1,aU.fld 2]=aU:=mod3 BP
  simp only[rt0,eg];refine YP.guard (decide_eq_true (by rw[bD];simp)) ?_
  exact fin zb
 ·have hc:=of_decide_eq_false hc;refine YP.ff (decide_eq_false (by omega)) ?_
  have h0:ShV []:=⟨by simp,⟨by simp[aY],fun m hm=>by simp[aY] at hm⟩,fun x hx=>absurd hx (by simp),fun x hx=>absurd hx (by simp),fun x hx=>absurd hx (by simp)⟩
  exact fin h0
def FnG (g:T):Prop:=∃(n:Int) (ags rs ls tk cd:List T),g = .st [.int n,.sl ags,.sl rs,.sl ls,.sl tk,.sl cd]∧ags.length≤10∧rs.length≤10∧ls.length≤10∧tk.length≤10∧cd.length≤1000∧
 (∀x∈ags,oI x)∧(∀x∈rs,oI x)∧(∀x∈ls,oI x)∧cz tk∧∀x∈cd,iz x
def MdG (x:T):Prop:=∃rs fs fr:List T,x = .st [.sl rs,.sl fs,.sl fr]∧rs.length≤4∧(∀x∈rs,hM 4 x)∧fs.length≤1000∧fr.length≤1000∧cz fr∧∀g∈fs,FnG g
def Cy (ms:List T):Prop:=ms.length≤3∧∀x∈ms,MdG x
theorem fng_of {ks:List T} {g:T} (h:FnV ks g):FnG g:=by
 obtain ⟨n,ags,rs,ls,tk,cd,rfl,l1,l2,l3,l4,l5,t1,t2,t3,t4,t5⟩:=h;have str : ∀{xs:List T},dL ks xs→∀x∈xs,oI x:=fun h x hx=>by
  obtain ⟨s,e,h⟩:=h x hx;exact ⟨s,e,by have:=nX h;omega⟩
 exact ⟨n,ags,rs,ls,tk,cd,rfl,l1,l2,l3,l4,l5,str t1,str t2,str t3,t4,t5⟩
theorem AO {ms:List T} (h:ShV ms) {i:Nat} (hi:i < ms.length):(((T.sl ms).nth i).fld 0).es.length≤3∧∀x∈(((T.sl ms).nth i).fld 0).es,hM 4 x:=by
 have hi':i < (aY ms).length:=by rw[qW];exact hi
 have e:(T.sl (aY ms)).nth i=((T.sl ms).nth i).fld 0:=by rw[bh hi',bh hi,ub hi' hi]
 have:=h.2.1.2 i hi'
 rw[← e];refine ⟨this.1,fun x hx=>?_⟩
 obtain ⟨j,hj,rfl⟩:=List.getElem_of_mem hx;have h2:=recv_r (this.2 j hj);generalize (T.sl (aY ms)).nth i=y at hj h2 ⊢
 cases y with
 | sl es=>rw[bh (es:=es) hj] at h2;exact h2
 | int=>cases hj
 | bool=>cases hj
 | str=>cases hj
 | st=>cases hj
 | fn=>cases hj
theorem any_of {ms:List T} (h:ShV ms):Cy ms:=by
 refine ⟨h.1,fun x hx=>?_⟩
 obtain ⟨i,hi,rfl⟩:=List.getElem_of_mem hx;have h2:=AO h hi;rw[bh hi] at h2;obtain ⟨rs,fs,fr,e,h3,h4,h5,h6⟩:=h.2.2.1 _ hx;rw[e] at h2 ⊢;exact ⟨rs,fs,fr,rfl,by have:=h2.1;exact Nat.le_succ_of_le this,h2.2,h3,h4,h5,fun g hg=>fng_of (h6 g hg)⟩
theorem xb {x:T} (h:oI x):tv x:=by obtain ⟨s,rfl,h⟩:=h;exact ⟨s,rfl,by rw[jZ];omega⟩
theorem fng_is {g:T} (h:FnG g):j5 BB g:=by
 obtain ⟨n,ags,rs,ls,tk,cd,rfl,l1,l2,l3,l4,l5,t1,t2,t3,t4,t5⟩:=h;refine .mk (by rw[BBv];omega) (by rw[BBv];omega) (by rw[BBv];omega) (by rw[BBv];omega) (by rw[BBv];omega) (fun x hx=>xb (t1 x hx)) (fun x hx=>xb (t2 x hx)) (fun x hx=>xb (t3 x hx)) t4 (fun x hx=>?_)
 obtain ⟨s,a,b,e,h1,_⟩:=t5 x hx;exact ⟨s,a,b,e,by rw[jZ];omega⟩
theorem mdg_is {x:T} (h:MdG x):kW BB x:=by
 obtain ⟨rs,fs,fr,rfl,h1,h2,h3,h4,h5,h6⟩:=h;exact .mk ⟨rs,rfl,by rw[BBv];omega,fun x hx=>zL (h2 x hx)⟩ (by rw[BBv];omega) (fun g hg=>fng_is (h6 g hg)) (by rw[BBv];omega) h5
theorem CO {ms:List T} (h:Cy ms) {i:Nat} (hi:i < ms.length):MdG ((T.sl ms).nth i):=by rw[bh hi];exact h.2 _ (List.getElem_mem _)
theorem md_at {x:T} (h:MdG x) {j:Nat} (hj:j < (x.fld 1).es.length):FnG ((x.fld 1).nth j):=by
 obtain ⟨rs,fs,fr,rfl,h1,h2,h3,h4,h5,h6⟩:=h;have hj:j < fs.length:=hj
 show FnG ((T.sl fs).nth j)
 rw[bh hj];exact h6 _ (List.getElem_mem _)
theorem An {ms:List T} (h:Cy ms) {i:Nat} {y:T} (hy:MdG y):Cy (ms.set i y):=by
 refine ⟨by rw[List.length_set];exact h.1,fun x hx=>?_⟩
 rcases List.mem_or_eq_of_mem_set hx with hx | rfl
 ·exact h.2 x hx
 ·exact hy
theorem md_fn {x g:T} (h:MdG x) (hg:FnG g) (j:Nat):MdG (.st (x.fs.set 1 (.sl ((x.fld 1).es.set j g)))):=by
 obtain ⟨rs,fs,fr,rfl,h1,h2,h3,h4,h5,h6⟩:=h;refine ⟨rs,fs.set j g,fr,rfl,h1,h2,by rw[List.length_set];exact h3,h4,h5,fun x hx=>?_⟩
 rcases List.mem_or_eq_of_mem_set hx with hx | rfl
 ·exact h6 x hx
 ·exact hg
theorem md_rec {x y:T} (h:MdG x) (hx:(x.fld 0).es.length≤3) (hy:hM 4 y):MdG (.st (x.fs.set 0 (.sl ((x.fld 0).es ++ [y])))):=by
 obtain ⟨rs,fs,fr,rfl,h1,h2,h3,h4,h5,h6⟩:=h;have hx:rs.length≤3:=hx
 refine ⟨rs ++ [y],fs,fr,rfl,by simp;omega,fun x hx=>?_,h3,h4,h5,h6⟩
 rcases List.mem_append.1 hx with hx | hx
 ·exact h2 x hx
 ·rw[List.mem_singleton.1 hx];exact hy
theorem AA {g:T} (h:FnG g) {l:List T} (hl:l.length≤1000) (hc : ∀x∈l,iz x):FnG (.st (g.fs.set 5 (.sl l))):=by
 obtain ⟨n,ags,rs,ls,tk,cd,rfl,l1,l2,l3,l4,l5,t1,t2,t3,t4,t5⟩:=h;exact ⟨n,ags,rs,ls,tk,l,rfl,l1,l2,l3,l4,hl,t1,t2,t3,t4,hc⟩
theorem fg_rets {g:T} (h:FnG g) {l:List T} (hl:l.length≤10) (hc : ∀x∈l,oI x):FnG (.st (g.fs.set 2 (.sl l))):=by
 obtain ⟨n,ags,rs,ls,tk,cd,rfl,l1,l2,l3,l4,l5,t1,t2,t3,t4,t5⟩:=h;exact ⟨n,ags,l,ls,tk,cd,rfl,l1,hl,l3,l4,l5,t1,hc,t3,t4,t5⟩
theorem fg_takes {g:T} (h:FnG g):FnG (.st (g.fs.set 4 (.sl []))):=by
 obtain ⟨n,ags,rs,ls,tk,cd,rfl,l1,l2,l3,l4,l5,t1,t2,t3,t4,t5⟩:=h;exact ⟨n,ags,rs,ls,[],cd,rfl,l1,l2,l3,by simp,l5,t1,t2,t3,bu,t5⟩
theorem fg_cd {g:T} (h:FnG g):(g.fld 5).es.length≤1000∧(∀x∈(g.fld 5).es,iz x):=by
 obtain ⟨n,ags,rs,ls,tk,cd,rfl,l1,l2,l3,l4,l5,t1,t2,t3,t4,t5⟩:=h;exact ⟨l5,t5⟩
def AnyR (q:Nat) (o:List T):Prop:=∃(ms:List T) (r':T),o = [.sl ms,r']∧Rd q r'∧Cy ms
theorem ct_any {q:Nat} {r:T} (hrd:Rd (q+8100) r):YP (fun k=>cl env k oG [r]) (AnyR q):=by
 refine YP.call ?_ (fun r h=>Wz _ h)
 unfold oU;refine YP.obind (ct_shelf (q:=q+97) hrd) ?_;rintro _ ⟨ms,r1,rfl,hr1,hs⟩;have ha:=any_of hs;have hm3:=hs.1;refine YP.obind (bA (q:=q+96) hr1) ?_;rintro _ ⟨v,r2,rfl,hr2,_⟩;simp only[tnA];refine YP.ite (fun _=>YP.some ⟨ms,r2,rfl,hr2.less (by omega),ha⟩) (fun _=>?_)
 refine YP.ite (fun _=>YP.some ⟨ms,r2,rfl,hr2.less (by omega),ha⟩) (fun hz=>?_)
 have hz:0 < ms.length:=by
  rcases ms with _ | ⟨a,ms⟩
  ·cases hz
  ·simp
 refine YP.obind (bA (q:=q+95) hr2) ?_;rintro _ ⟨m,r3,rfl,hr3,m0,m1,_⟩;simp only[tnA];have m1:=m1 (by omega)
 obtain ⟨i,rfl⟩ : ∃i:Nat,m=i:=⟨m.toNat,by omega⟩
 have hi:i < ms.length:=by omega
 have gi:(decide (0≤(i:Int))&&decide ((i:Int).toNat < ms.length))=true:=by (simp <;> omega)
 simp only[tnA];have hmd:=CO ha hi;have hrl:=(AO hs hi).1;have hc5:=hs.2.2.2.2 _ (List.getElem_mem hi);rw[← bh hi] at hc5;have hfl:(((T.sl ms).nth i).fld 1).es.length≤1000:=by
  obtain ⟨_,_,_,e,_,_,h,_⟩:=hmd;rw[e];exact h
 obtain ⟨x,hx⟩ : ∃x,(T.sl ms).nth i=x:=⟨_,rfl⟩;rw[hx] at hmd hc5 hrl hfl;simp only[hx];refine YP.guard (by (simp <;> omega)) ?_
 refine YP.ite (fun _=>YP.some ⟨ms,r3,rfl,hr3.less (by omega),ha⟩) (fun hz=>?_)
 have hz:0 < (x.fld 1).es.length:=by
  rcases h:(x.fld 1).es with _ | ⟨a,l⟩
  ·rw[h] at hz;cases hz
  ·simp
 refine YP.guard (by (simp <;> omega)) ?_
 refine YP.obind (bA (q:=q+94) hr3) ?_;rintro _ ⟨w,r4,rfl,hr4,w0,w1,_⟩;simp only[tnA];have w1:=w1 (by omega)
 obtain ⟨j,rfl⟩ : ∃i:Nat,w=i:=⟨w.toNat,by omega⟩
 have hj:j < (x.fld 1).es.length:=by omega
 simp only[tnA];refine YP.guard (by (simp <;> omega)) (YP.guard (by (simp <;> omega)) ?_)
 have hg:=md_at hmd hj;have hgc:1≤(((x.fld 1).nth j).fld 5).es.length:=by
  have e:(x.fld 1).nth j=(x.fld 1).es[j]:=by simp[T.nth,hj]
  rw[e];exact hc5 _ (List.getElem_mem hj)
 have hcd:=fg_cd hg;obtain ⟨g,hgx⟩ : ∃g,(x.fld 1).nth j=g:=⟨_,rfl⟩;rw[hgx] at hg hgc hcd;simp only[hgx];have put : ∀{g':T},FnG g'→Cy (ms.set i (.st (x.fs.set 1 (.sl ((x.fld 1).es.set j g'))))):=fun h=>An ha (md_fn hmd h j)
 have pe : ∀n v,T.put (T.sl ms) [.idx i,.fld 1,.idx j,.fld n] v = .sl (ms.set i (.st (x.fs.set 1 (.sl ((x.fld 1).es.set j (.st (g.fs.set n v))))))):=fun n v=>by
  simp only[T.put,hx,hgx,te]
 refine YP.obind (bA (q:=q+93) hr4) ?_;rintro _ ⟨v,r5,rfl,hr5,_⟩;simp only[tnA];refine YP.ite (fun _=>?_) (fun _=>YP.ite (fun _=>?_) (fun _=>YP.ite (fun _=>?_) (fun _=>YP.ite (fun _=>?_) (fun _=>?_))))
 ·refine YP.obind (bA (q:=q+92) hr5) ?_;rintro _ ⟨u,r6,rfl,hr6,u0,u1,_⟩;simp only[tnA];have u1:=u1 (by omega)
  refine YP.obind (ct_ins (q:=q+89) hr6) ?_;rintro _ ⟨y,r7,rfl,hr7,hy⟩;simp only[tnA];refine YP.guard (by (simp <;> omega)) (YP.some ⟨_,r7,rfl,hr7.less (by omega),?_⟩)
  show Cy (ms.set i (.st (((T.sl ms).nth i).fs.set 1 (.sl ((((T.sl ms).nth i).fld 1).es.set j (.st (((((T.sl ms).nth i).fld 1).nth j).fs.set 5 (.sl ((((((T.sl ms).nth i).fld 1).nth j).fld 5).es.set u.toNat y)))))))))
  rw[hx,hgx];refine put (AA hg (by rw[List.length_set];exact hcd.1) (fun z hz=>?_))
  rcases List.mem_or_eq_of_mem_set hz with hz | rfl
  ·exact hcd.2 z hz
  ·exact hy
 ·have hcl:=hcd.1;have e1:IntKind.wrap .i64 (((g.fld 5).es.length:Int) - 1)=((g.fld 5).es.length:Int) - 1:=bf (by omega) (by omega)
  simp only[e1];refine YP.guard (by (simp <;> omega)) (YP.guard (by simp) (YP.some ⟨_,r5,by rw[pe],hr5.less (by omega),put (AA hg ?_ fun z hz=>?_)⟩))
  ·rw[List.length_take];omega
  ·exact hcd.2 z (List.mem_of_mem_take hz)
 ·exact YP.some ⟨_,r5,by rw[pe],hr5.less (by omega),put (fg_takes hg)⟩
 ·refine YP.obind (YP.of (Q:=fun o=>o = [.sl (aY ms)]) (tF ms (by rw[BBv];omega) hs.2.2.2.1) rfl) ?_
  rintro _ rfl;refine YP.obind (jM (tG hs.2.1) (n:=2) (q:=q+80) (by omega) (hr5.less (by omega))) ?_
  rintro _ ⟨ys,r6,rfl,hr6,l1,t1⟩;simp only[tnA];exact YP.some ⟨_,r6,by rw[pe],hr6.less (by omega),put (fg_rets hg (by omega) fun x hx=>AR (t1 x hx))⟩
 ·refine YP.guard (by (simp <;> omega)) ?_
  refine YP.obind (YP.of (Q:=fun o=>o = [.sl (aY ms)]) (tF ms (by rw[BBv];omega) hs.2.2.2.1) rfl) ?_
  rintro _ rfl;refine YP.obind (xJ (q:=q+60) (tG hs.2.1) (hr5.less (by omega))) ?_
  rintro _ ⟨y,r6,rfl,hr6,hy⟩;simp only[tnA];have ey:T.st [y.fld 0,y.fld 1]=y:=by obtain ⟨a,fs,rfl,_⟩:=hy;rfl
  simp only[ey];refine YP.guard (decide_eq_true (by rw[bD];simp;omega)) (YP.guard (by (simp <;> omega)) (YP.guard (by simp) (YP.some ⟨_,r6,rfl,hr6.less (by omega),?_⟩)))
  show Cy (ms.set i (.st (((T.sl ms).nth i).fs.set 0 (.sl ((x.fld 0).es ++ [y])))))
  rw[hx];exact An ha (md_rec hmd hrl hy)
theorem DV {i n:Nat} (h:i < n) (hn:n≤1048576):IntKind.wrap .i64 ((i:Int)+1)=((i+1:Nat):Int):=by rw[bf (by omega) (by omega)];rfl
theorem Yields.guard {b:Bool} {x:Nat→R} {r:List T} (hb:b=true) (h:Yields x r):Yields (fun k=>bif b then x k else Option.none) r:=Yields.tt hb h
theorem DH (n:Int):(n != n)=false:=by simp
theorem Ar (s:ByteArray):(s.toList==s.toList)=true:=by simp
theorem CV {xs:List T} {n:Int} (hl:xs.length≤1048576) : ∀{d i:Nat},i+d=xs.length→∃j:Int,Yields (fun k=>lj (Ra.hl env k fQ) (.sl xs) (.int n) (.int (i:Int))) [.bool (decide (j≥0))]∧
   Yields (fun k=>Cl (Ra.hl env k sk) (.sl xs) (.int n) (.int (xs.length:Int)) (.int (i:Int))) [.int j]
 | 0,i,hd=>by
  refine ⟨-1,sf _ _ _ ?_,Cn _ _ _ _ ?_⟩
  ·unfold kY;simp only[tnA];exact Yields.ff (decide_eq_false (by omega)) (Yields.some _)
  ·unfold Ck;simp only[tnA];exact Yields.ff (decide_eq_false (by omega)) (Yields.some _)
 | d+1,i,hd=>by
  have hi:i < xs.length:=by omega
  by_cases e:((T.sl xs).nth i).i=n
  ·refine ⟨i,sf _ _ _ ?_,Cn _ _ _ _ ?_⟩
   ·unfold kY;simp only[tnA];have hb : [T.bool (decide ((i:Int)≥0))] = [T.bool true]:=by rw[decide_eq_true (show (i:Int)≥0 by omega)]
    rw[hb];exact Yields.tt (decide_eq_true (by omega)) (Yields.guard (by (simp <;> omega)) (Yields.tt (by rw[e];simp) (Yields.some _)))
   ·unfold Ck;simp only[tnA];exact Yields.tt (decide_eq_true (by omega)) (Yields.guard (by (simp <;> omega)) (Yields.tt (by rw[e];simp) (Yields.some _)))
  ·obtain ⟨j,h1,h2⟩:=CV hl (d:=d) (i:=i+1) (n:=n) (by omega)
   refine ⟨j,sf _ _ _ ?_,Cn _ _ _ _ ?_⟩
   ·unfold kY;simp only[tnA];simp only[DV hi hl];exact Yields.tt (decide_eq_true (by omega)) (Yields.guard (by (simp <;> omega)) (Yields.ff (beq_eq_false_iff_ne.2 e) h1))
   ·unfold Ck;simp only[tnA];simp only[DV hi hl];exact Yields.tt (decide_eq_true (by omega)) (Yields.guard (by (simp <;> omega)) (Yields.ff (beq_eq_false_iff_ne.2 fun h=>e h.symm) h2))
theorem in_same {xs:List T} {n:Int} (hl:xs.length≤1048576) : ∃b:Bool,Yields (fun k=>cl env k dY [.sl xs,.int n]) [.bool b]∧Yields (fun k=>cl env k Cm [.sl xs,.int n]) [.bool b]:=by
 obtain ⟨j,h1,h2⟩:=CV (n:=n) hl (d:=xs.length) (i:=0) (by omega)
 exact ⟨_,Aj _ _ h1,CC _ _ (Yields.obind (CH _ _ h2) (Yields.some _))⟩
def At3R (q:Nat) (o:List T):Prop:=∃(ms:List T) (m f:Int) (r':T),o = [.sl ms,.int m,.int f,r']∧Rd q r'∧Cy ms∧-1≤m∧m≤3∧0≤f∧f≤1001
theorem ct_at {q:Nat} {r:T} (hrd:Rd (q+8110) r):YP (fun k=>cl env k pO [r]) (At3R q):=by
 refine YP.call ?_ (fun r h=>A3 _ h)
 unfold pT;refine YP.obind (ct_any (q:=q+10) (hrd.less (by omega))) ?_
 rintro _ ⟨ms,r1,rfl,hr1,ha⟩;simp only[tnA];have hm3:=ha.1;have num : ∀{r:T},Rd (q+2) r→YP (fun k=>obind (cl env k dH [r,(T.sl [(T.int (0:Int)),(T.int (-1:Int)),(T.int (3:Int))])]) fun r2=>some [T.sl ms,(rt r2 0),(T.int (0:Int)),(rt (r2.drop 1) 0)]) (At3R q):=fun {r} h=>by
  refine YP.obind (vk (q:=q) (P:=fun x=>∃n:Int,x = .int n∧-1≤n∧n≤3) (h.less (by omega)) ?_ (by simp)) ?_
  ·intro x hx;simp only[List.mem_cons,List.not_mem_nil,or_false] at hx;rcases hx with rfl | rfl | rfl <;> exact ⟨_,rfl,by omega,by omega⟩
  ·rintro _ ⟨x,r2,rfl,hr2,n,rfl,n0,n1⟩;exact YP.some ⟨ms,n,0,r2,rfl,hr2,ha,n0,n1,by omega,by omega⟩
 refine YP.ite (fun _=>num (hr1.less (by omega))) (fun hz=>?_)
 have hz:0 < ms.length:=by
  rcases ms with _ | ⟨a,ms⟩
  ·cases hz
  ·simp
 refine YP.obind (bA (q:=q+9) hr1) ?_;rintro _ ⟨v,r2,rfl,hr2,_⟩;simp only[tnA];refine YP.ite (fun _=>num (hr2.less (by omega))) (fun _=>?_)
 refine YP.obind (bA (q:=q+8) hr2) ?_;rintro _ ⟨m,r3,rfl,hr3,m0,m1,_⟩;simp only[tnA];have m1:=m1 (by omega)
 refine YP.guard (by (simp <;> omega)) ?_
 have hfl:(((T.sl ms).nth m.toNat).fld 1).es.length≤1000:=by
  obtain ⟨_,_,_,e,_,_,h,_⟩:=CO ha (show m.toNat < ms.length by omega)
  rw[e];exact h
 rw[show IntKind.wrap .i64 (((((T.sl ms).nth m.toNat).fld 1).es.length:Int)+1)=((((T.sl ms).nth m.toNat).fld 1).es.length:Int)+1 from bf (by omega) (by omega)]
 refine YP.obind (bA (q:=q+7) hr3) ?_;rintro _ ⟨f,r4,rfl,hr4,f0,f1,_⟩;simp only[tnA];have f1:=f1 (by omega)
 exact YP.some ⟨ms,m,f,r4,rfl,hr4.less (by omega),ha,by omega,by omega,f0,by omega⟩
structure Pn (c:Cx) (n:Nat) (sh kn dn:List T):Prop where
 sl:sh.length=n
 kl:kn.length=n
 dl:dn.length=n
 kb : ∀k,k < n→∃b:Bool,(T.sl kn).nth k = .bool b∧(b=true→ShI c ((T.sl sh).nth k))
 db : ∀x∈dn,∃b:Bool,x = .bool b
 k0:(T.sl kn).nth 0 = .bool true
theorem YP.yields {x:Nat→R} {r:List T} (h:YP x (fun o=>o=r)):Yields x r:=by
 obtain ⟨_,h,rfl⟩:=h;exact h
theorem YP.run {x:Nat→R} {K:Nat→List T→R} {r:List T} {Q:List T→Prop} (h:Yields x r) (h2:YP (fun k=>K k r) Q):YP (fun k=>Ra.obind (x k) (K k)) Q:=
 YP.obind (YP.of (Q:=fun o=>o=r) h rfl) (by rintro _ rfl;exact h2)
def JG (bs:List T):Prop:=∀x∈bs,∃v:Int,x = .int v∧0≤v∧v≤255
def MkG (x:T):Prop:=∃(s:ByteArray) (is:List T),x = .st [.str s,.sl is]∧is.length≤1000∧Rk is∧(s.size=0∨∃ks,cK ks s=true)
def MkW (x:T):Prop:=∃(s:ByteArray) (is:List T),x = .st [.str s,.sl is]∧is.length≤1000
theorem MkG.w {x:T} (h:MkG x):MkW x:=by obtain ⟨s,is,e,hl,_⟩:=h;exact ⟨s,is,e,hl⟩
theorem no_mw : ∀x∈([]:List T),MkW x:=fun x h=>by cases h
def PN (is:List T) (n:Int):Bool:=is.any fun x=>x.i==n
theorem Qe {xs:List T} {p:T→Bool} {i:Nat} (h:i < xs.length):(xs.drop i).any p=(p xs[i]||(xs.drop (i+1)).any p):=by
 rw[List.drop_eq_getElem_cons h,List.any_cons]
theorem in_0 {xs:List T} {n:Int} (hlen:xs.length≤1048576) : ∀{d i:Nat},i+d=xs.length→Yields (fun k=>lj (hl env k fQ) (.sl xs) (.int n) (.int (i:Int))) [.bool ((xs.drop i).any fun x=>x.i==n)]
 | 0,i,hd=>by
  refine sf _ _ _ ?_;unfold kY;simp only[tnA];rw[List.drop_eq_nil_of_le (by omega)]
  exact Yields.ff (decide_eq_false (by omega)) (Yields.some _)
 | d+1,i,hd=>by
  have hi:i < xs.length:=by omega
  refine sf _ _ _ ?_;unfold kY;simp only[tnA];simp only[DV hi hlen,show (T.sl xs).nth i=xs[i] from bh hi]
  rw[Qe hi];refine Yields.tt (decide_eq_true (by omega)) (Yields.guard (by (simp <;> omega)) (Yields.ite (fun h=>?_) (fun h=>?_)))
  ·rw[h];exact Yields.some _
  ·rw[h,Bool.false_or];exact in_0 hlen (d:=d) (i:=i+1) (by omega)
theorem in_x {xs:List T} {n:Int} (hlen:xs.length≤1048576):Yields (fun k=>cl env k dY [.sl xs,.int n]) [.bool (PN xs n)]∧Yields (fun k=>cl env k Cm [.sl xs,.int n]) [.bool (PN xs n)]:=by
 have h:=Aj _ _ (in_0 (n:=n) hlen (d:=xs.length) (i:=0) (by omega))
 have h:Yields (fun k=>cl env k dY [.sl xs,.int n]) [.bool (PN xs n)]:=h
 obtain ⟨b,h1,h2⟩:=in_same (n:=n) hlen;have e:=Yields.uniq h1 h;rw[e] at h2;exact ⟨h,h2⟩
theorem ext_bang {s:ByteArray} (h:s.size > 0):((s.extract 0 1).toList==cI.toList)=(bU s 0==33):=by
 obtain ⟨⟨l⟩⟩:=s;cases l with
 | nil=>cases h
 | cons a l=>
  rw[ByteArray.toList_eq,ByteArray.toList_eq];have e:(ByteArray.extract ⟨⟨a :: l⟩⟩ 0 1).data.toList = [a]:=by simp[ByteArray.data_extract]
  rw[e];show ([a] == [33])=(a.toNat==33)
  by_cases ha:a=33
  ·subst ha;rfl
  ·have:a.toNat≠33:=fun h=>ha (UInt8.toNat_inj.1 h)
   rw[beq_eq_false_iff_ne.2 this];simp[ha]
theorem sign_b (s:ByteArray) : ∃g:ByteArray,Yields (fun k=>cl env k IB [.str s]) [.str g,.str (ofB s)]∧(!(g.toList==(⟨#[]⟩:ByteArray).toList))=O8 s∧(O8 s=true→(g.toList==cI.toList)=(bU s 0==33)):=by
 obtain ⟨g,h1,h2⟩:=WF s;cases hr:O8 s with
 | false=>exact ⟨g,h1,by rw[h2,hr],fun h=>Bool.noConfusion h⟩
 | true=>
  have hs:=rW hr;refine ⟨s.extract 0 1,?_,?_,fun _=>ext_bang hs⟩
  ·have he:(!(s.toList==(⟨#[]⟩:ByteArray).toList))=true:=by rw[nB,decide_eq_true hs];rfl
   have hin:(decide (0≤(0:Int))&&decide (0 < s.size))=true:=by rw[Bool.and_eq_true];exact ⟨rfl,decide_eq_true hs⟩
   unfold ofB;rw[hr,cond_true];cases e1:(bU s 0==38) with
   | true=>exact N0 _ (Yields.tt he (Yields.tt hin (Yields.tt ((wI s 38).trans e1) (Yields.tt (Ql hs) (Yields.tt (Q5 hs) (Yields.some _))))))
   | false=>
    have e2:(bU s 0==33)=true:=by
     unfold O8 at hr;rw[e1,Bool.false_or,Bool.and_eq_true] at hr;exact hr.2
    exact N0 _ (Yields.tt he (Yields.tt hin (Yields.ff ((wI s 38).trans e1) (Yields.tt hin (Yields.tt ((wI s 33).trans e2) (Yields.tt (Ql hs) (Yields.tt (Q5 hs) (Yields.some _))))))))
  ·rw[nB,decide_eq_true (by rw[ByteArray.size_extract];omega)];rfl
def OJ (w:Bool) (n:Int) (x:T):Bool:=O8 (x.fld 0).s&&(PN (x.fld 1).es n&&(!w||(bU (x.fld 0).s 0==33)))
theorem QR {xs:List T} (hx : ∀x∈xs,MkW x) (hlen:xs.length≤1000) {n:Int} {w:Bool} {o:Nat} {z:T} {rest:Bool} (ho:o≤10)
  (next:Yields (fun k=>O3 (hl env k NW) (.int n) (.bool w) (.int 2) (.int ((o+1:Nat):Int)) z) [.bool rest]) :
  ∀{d i:Nat},i+d=xs.length→Yields (fun k=>O2 (hl env k NW) (.int n) (.bool w) (.int 2) (.int (o:Int)) (.sl xs) (.int (xs.length:Int)) (.int (i:Int)) z) [.bool ((xs.drop i).any (OJ w n)||rest)]
 | 0,i,hd=>by
  refine Pf _ _ _ _ _ _ _ _ ?_;unfold Ok;simp only[tnA];rw[List.drop_eq_nil_of_le (by omega)]
  rw[show IntKind.wrap .i64 ((o:Int)+1)=((o+1:Nat):Int) by rw[bf (by omega) (by omega)];rfl]
  exact Yields.ff (decide_eq_false (by omega)) next
 | d+1,i,hd=>by
  have hi:i < xs.length:=by omega
  obtain ⟨s,is,e,hil⟩:=hx _ (List.getElem_mem hi);have en:(T.sl xs).nth i = .st [.str s,.sl is]:=by rw[bh hi,e]
  have ih:=QR hx hlen ho next (d:=d) (i:=i+1) (by omega)
  have hh:OJ w n xs[i]=(O8 s&&(PN is n&&(!w||(bU s 0==33)))):=by rw[e];rfl
  obtain ⟨g,g1,g2,g3⟩:=sign_b s;have hin:=(in_x (xs:=is) (n:=n) (by omega)).2
  refine Pf _ _ _ _ _ _ _ _ ?_;unfold Ok;simp only[tnA];simp only[en,DV hi (show xs.length≤1048576 by omega)]
  simp only[tnA];rw[Qe hi,hh];refine Yields.tt (decide_eq_true (by omega)) (Yields.guard (by (simp <;> omega)) (Yields.obind g1 ?_))
  simp only[tnA];cases hr:O8 s with
  | false=>
   rw[hr] at g2;rw[Bool.false_and,Bool.false_or];exact Yields.ff g2 ih
  | true=>
   rw[hr] at g2;have g3:=g3 hr;rw[Bool.true_and];refine Yields.tt g2 ?_;have con : ∀{c:Bool},(PN is n&&c)=PN is n→Yields (fun k=>obind (cl env k Cm [.sl is,.int n]) fun r2=>bif (rt r2 0).b then some [(T.bool true)] else O2 (hl env k NW) (.int n) (.bool w) (.int 2) (.int (o:Int)) (.sl xs) (.int (xs.length:Int)) (.int ((i+1:Nat):Int)) z) [.bool (((PN is n&&c)||(xs.drop (i+1)).any (OJ w n))||rest)]:=fun {c} hc=>by
    rw[hc];refine Yields.obind hin ?_;cases PN is n with
    | true=>exact Yields.tt rfl (Yields.some _)
    | false=>rw[Bool.false_or];exact Yields.ff rfl ih
   refine Yields.ite (fun h=>?_) (fun h=>Yields.ite (fun hw=>?_) (fun hw=>?_))
   ·rw[g3] at h;exact con (by rw[h,Bool.or_true,Bool.and_true])
   ·exact con (by rw[hw,Bool.true_or,Bool.and_true])
   ·rw[g3] at h;rw[h,hw,Bool.or_self,Bool.and_false,Bool.false_or];exact ih
theorem Qs {st pl:List T} (h1 : ∀x∈st,MkW x) (h2 : ∀x∈pl,MkW x) (l1:st.length≤1000) (l2:pl.length≤1000) {n:Int} {w:Bool} : Yields (fun k=>cl env k Ov [.st [.sl st,.sl pl],.int n,.bool w]) [.bool (st.any (OJ w n)||pl.any (OJ w n))]:=by
 have step : ∀{o:Nat} {xs:List T} {rest:Bool},o < 2→(T.sl [.sl st,.sl pl]).nth o = .sl xs→(∀x∈xs,MkW x)→xs.length≤1000→Yields (fun k=>O3 (hl env k NW) (.int n) (.bool w) (.int 2) (.int ((o+1:Nat):Int)) (.sl [.sl st,.sl pl])) [.bool rest]→
   Yields (fun k=>O3 (hl env k NW) (.int n) (.bool w) (.int 2) (.int (o:Int)) (.sl [.sl st,.sl pl])) [.bool (xs.any (OJ w n)||rest)]:=fun {o xs rest} ho en hx hl next=>by
  refine Pe _ _ _ _ _ ?_;unfold Oj;simp only[tnA];simp only[en];simp only[tnA];refine Yields.tt (decide_eq_true (by omega)) (Yields.guard (by rw[Bool.and_eq_true];exact ⟨decide_eq_true (by omega),decide_eq_true (by show o < 2;omega)⟩) ?_)
  exact QR hx hl (by omega) next (d:=xs.length) (i:=0) (by omega)
 refine Q7 _ _ _ ?_;have fin:Yields (fun k=>O3 (hl env k NW) (.int n) (.bool w) (.int 2) (.int ((2:Nat):Int)) (.sl [.sl st,.sl pl])) [.bool false]:=by
  refine Pe _ _ _ _ _ ?_;unfold Oj;exact Yields.ff rfl (Yields.some _)
 have:=step (o:=0) (by omega) rfl h1 l1 (step (o:=1) (by omega) rfl h2 l2 fin)
 rw[Bool.or_false] at this;exact this
theorem WH (s:ByteArray):Yields (fun k=>cl env k Vf [.str s]) [.bool (O8 s)]:=by
 obtain ⟨g,h1,h2⟩:=WF s;refine WG _ (Yields.obind h1 ?_);show Yields (fun _=>some [T.bool (!(g.toList==(⟨#[]⟩:ByteArray).toList))]) _
 rw[h2];exact Yields.some _
theorem VZ {ms:List T} (ha:Cy ms) : ∀x∈ms,kW BB x:=fun x hx=>mdg_is (ha.2 x hx)
theorem WN {ms:List T} (ha:Cy ms) (hl:0 < ms.length) {l:List T} (hn:cz l) (hll:l.length≤1000):Cy (ms.set 0 (.st (((T.sl ms).nth 0).fs.set 2 (.sl l)))):=by
 obtain ⟨rs,fs,fr,e,h1,h2,h3,h4,h5,h6⟩:=CO ha hl;rw[e];refine ⟨by rw[List.length_set];exact ha.1,fun x hx=>?_⟩
 rcases List.mem_or_eq_of_mem_set hx with hx | rfl
 ·exact ha.2 x hx
 ·exact ⟨rs,fs,l,rfl,h1,h2,h3,hll,hn,h6⟩
def ShlR (o:List T):Prop:=∃ms,o = [.sl ms]∧Cy ms
theorem WP {bs:List T} (hv:JG bs):YP (fun k=>cl env k UD [.sl bs]) ShlR:=by
 refine YP.call ?_ (fun r h=>VQ _ h)
 unfold UF;refine YP.obind (TI hv) ?_;rintro _ ⟨r,rfl,hr⟩;refine YP.obind (ct_any (q:=10) (hr.less (by omega))) ?_
 rintro _ ⟨ms,r1,rfl,hr1,ha⟩;simp only[tnA];refine YP.obind (bA (q:=9) hr1) ?_;rintro _ ⟨v,r2,rfl,hr2,_⟩;simp only[tnA];have no:YP (fun _=>some [T.sl ms]) ShlR:=YP.some ⟨ms,rfl,ha⟩
 refine YP.ite (fun _=>YP.ite (fun hc=>?_) (fun _=>no)) (fun _=>no)
 have hl:0 < ms.length:=by have:=of_decide_eq_true hc;omega
 refine YP.obind (bA (q:=8) hr2) ?_;rintro _ ⟨a,r3,rfl,hr3,_⟩;simp only[tnA];refine YP.obind (bA (q:=7) hr3) ?_;rintro _ ⟨b,r4,rfl,hr4,_⟩;simp only[tnA];refine YP.guard (by rw[decide_eq_true hl];rfl) (YP.some ⟨_,rfl,WN ha hl (fun x hx=>?_) (by simp)⟩)
 simp only[List.mem_cons,List.not_mem_nil,or_false] at hx;rcases hx with rfl | rfl
 ·exact ⟨a,rfl⟩
 ·exact ⟨b,rfl⟩
theorem has_in {ms:List T} (ha:Cy ms) {i j:Nat} (hi:i < ms.length) (hj:j < (((T.sl ms).nth i).fld 1).es.length):Yields (fun k=>cl env k P9 [.sl ms,.int (i:Int),.int (j:Int)]) [.bool true]:=by
 have hm3:=ha.1;obtain ⟨rs,fs,fr,e,h1,h2,h3,_⟩:=CO ha hi;rw[e] at hj;have hj:j < fs.length:=hj
 have a1:=Vo (i:Int) 0 ((ms.length:Int) - 1);have a2:=Vo (j:Int) 0 ((fs.length:Int) - 1);rw[decide_eq_true (by omega:(i:Int)≥0),decide_eq_true (by omega:(i:Int)≤(ms.length:Int) - 1)] at a1
 rw[decide_eq_true (by omega:(j:Int)≥0),decide_eq_true (by omega:(j:Int)≤(fs.length:Int) - 1)] at a2
 have w1:IntKind.wrap .i64 ((ms.length:Int) - 1)=(ms.length:Int) - 1:=bf (by omega) (by omega)
 have w2:IntKind.wrap .i64 ((fs.length:Int) - 1)=(fs.length:Int) - 1:=bf (by omega) (by omega)
 refine qi _ _ _ ?_;unfold hY;simp only[tnA];simp only[e];simp only[tnA];simp only[w1,w2];exact Yields.obind a1 (Yields.tt rfl (Yields.tt (by (simp <;> omega)) (Yields.obind a2 (Yields.some _))))
theorem fun_in {ms:List T} (ha:Cy ms) {i j:Nat} (hi:i < ms.length) (hj:j < (((T.sl ms).nth i).fld 1).es.length) : ∃g,Yields (fun k=>cl env k it [.sl ms,.int (i:Int),.int (j:Int)]) [g,.bool true]:=by
 have hm3:=ha.1;rcases WA ms (by rw[BBv];omega) (VZ ha) i j with ⟨h1,_⟩ | ⟨_,_,g,_,_,_,_,_,_,_,h2⟩
 ·have:=Yields.uniq h1 (has_in ha hi hj)
  cases this
 ·exact ⟨g,h2⟩
theorem WE {ms:List T} (ha:Cy ms) (hk:Yields (fun k=>cl env k Gd [.sl (aY ms)]) [.bool true]) : ∀{d i:Nat},i+d=ms.length→Yields (fun k=>Um (Ra.hl env k ox) (.bool true) (.int (i:Int)) (.sl ms)) [.bool true]:=by
 have hm3:=ha.1;have hki:=WI ms (by rw[BBv];omega) (VZ ha)
 intro d;induction d with
 | zero=>
  intro i hd;refine UH _ _ _ ?_;unfold Ud;simp only[tnA];exact Yields.ff (decide_eq_false (by omega)) (Yields.ff rfl (Yields.obind hki (Yields.obind hk (Yields.some _))))
 | succ d ih=>
  intro i hd;have hi:i < ms.length:=by omega
  obtain ⟨rs,fs,fr,e,h1,h2,h3,_⟩:=CO ha hi;refine UH _ _ _ ?_;unfold Ud;simp only[tnA];refine Yields.tt (decide_eq_true (by omega)) (Yields.tt rfl ?_)
  have key : ∀(m j:Nat),j+m=fs.length→Yields (fun k=>Un (Ra.hl env k ox) (.bool true) (.int (i:Int)) (.int (j:Int)) (.sl ms)) [.bool true]:=by
   intro m;induction m with
   | zero=>
    intro j hj;refine Vd _ _ _ _ ?_;unfold Ui;simp only[tnA];simp only[e];simp only[tnA];simp only[DV hi (show ms.length≤1048576 by omega)]
    exact Yields.tt (by (simp <;> omega)) (Yields.ff (decide_eq_false (by omega)) (ih (by omega)))
   | succ m ihm=>
    intro j hj;have hjl:j < fs.length:=by omega
    obtain ⟨g,hg⟩:=fun_in ha hi (j:=j) (by rw[e];exact hjl)
    refine Vd _ _ _ _ ?_;unfold Ui;simp only[tnA];simp only[e];simp only[tnA];simp only[DV hjl (show fs.length≤1048576 by omega)]
    refine Yields.tt (by (simp <;> omega)) (Yields.tt (decide_eq_true (by omega)) (Yields.obind hg ?_))
    simp only[tnA];exact Yields.ff rfl (ihm (j+1) (by omega))
  exact key fs.length 0 (by omega)
theorem Wo {bs:List T} (hv:JG bs):Yields (fun k=>cl env k UP [.sl bs]) [.bool true]:=by
 refine YP.yields (YP.call ?_ (fun r h=>VY _ h))
 unfold US;refine YP.ite (fun _=>YP.some rfl) (fun _=>?_)
 refine YP.obind (WP hv) ?_;rintro _ ⟨ms,rfl,ha⟩;have hm3:=ha.1;obtain ⟨c,s1,s2,s3⟩:=Wh ms (by rw[BBv];omega) (VZ ha)
 refine YP.run s2 (YP.run s1 (YP.ff (by simp) ?_))
 simp only[tnA];cases c with
 | true=>exact YP.of (WE ha (s3 rfl).2 (d:=ms.length) (i:=0) (by omega)) rfl
 | false=>
  refine YP.of (UH _ _ _ ?_) rfl;unfold Ud;simp only[tnA];exact Yields.ite (fun _=>Yields.ff rfl (Yields.tt rfl (Yields.some _))) (fun _=>Yields.tt rfl (Yields.some _))
def mk0:T:=.st [.str ⟨#[]⟩,.sl []]
def mkA (x:T):T:=.st [.str x.s,.sl (if O8 x.s then [.int 9] else [])]
theorem mkA_t {s:ByteArray} (h:O8 s=true):mkA (.str s) = .st [.str s,.sl [.int 9]]:=by
 show T.st [.str s,.sl (if O8 s then [.int 9] else [])]=_
 rw[h];rfl
theorem mkA_f {s:ByteArray} (h:O8 s=false):mkA (.str s) = .st [.str s,.sl []]:=by
 show T.st [.str s,.sl (if O8 s then [.int 9] else [])]=_
 rw[h];rfl
def Vr (ags ls:List T):List T:=ags.map mkA++List.replicate ls.length mk0
theorem W6 (pl:List T) (d:Nat):pl++List.replicate (d+1) mk0=(pl ++ [mk0])++List.replicate d mk0:=by rw[List.append_assoc];rfl
theorem W5 {ags:List T} {i:Nat} (h:i < ags.length) (pl r:List T):pl++((ags.drop i).map mkA++r)=(pl ++ [mkA ags[i]])++((ags.drop (i+1)).map mkA++r):=by
 rw[List.drop_eq_getElem_cons h,List.map_cons,List.append_assoc];rfl
theorem WJ {ags:List T} {i:Nat} (h:i=ags.length) (pl r:List T):pl++((ags.drop i).map mkA++r)=pl++r:=by
 rw[List.drop_eq_nil_of_le (by omega)];rfl
section
variable {n0:Int} {ags rs ls tk cd:List T}
theorem fs_3 (z:T) (hll:ls.length≤10) : ∀{d i:Nat} {pl:List T},i+d=ls.length→pl.length+d≤100→
  Yields (fun k=>fS (hl env k bo) (.int (i:Int)) (.st [.int n0,.sl ags,.sl rs,.sl ls,.sl tk,.sl cd]) z (.st [.sl [],.sl pl])) [.st [.sl [],.sl (pl++List.replicate d mk0)]]
 | 0,i,pl,hd,hp=>by
  refine qk _ _ _ _ ?_;unfold iE lC;simp only[tnA];rw[List.replicate_zero,List.append_nil];exact Yields.ff (decide_eq_false (by omega)) (Yields.some _)
 | d+1,i,pl,hd,hp=>by
  refine qk _ _ _ _ ?_;unfold iE lC;simp only[tnA];rw[cF (by omega),W6]
  refine Yields.tt (decide_eq_true (by omega)) (Yields.guard (decide_eq_true (by rw[bD];simp;omega)) ?_)
  exact fs_3 z hll (d:=d) (i:=i+1) (pl:=pl ++ [mk0]) (by omega) (by simp;omega)
theorem fs_2 (z:T) (hll:ls.length≤10) {pl:List T} (hp:pl.length+ls.length≤100) :
  Yields (fun k=>lV (hl env k bo) (.int ((0:Nat):Int)) (.st [.int n0,.sl ags,.sl rs,.sl ls,.sl tk,.sl cd]) z (.st [.sl [],.sl pl])) [.st [.sl [],.sl (pl++List.replicate ls.length mk0)]]:=by
 refine uQ _ _ _ _ ?_;unfold lC;simp only[tnA];rw[cF (by omega)]
 refine Yields.ite (fun hc=>?_) (fun hc=>?_)
 ·have hc:=of_decide_eq_true hc;obtain ⟨d,hd⟩ : ∃d,ls.length=d+1:=⟨ls.length - 1,by omega⟩
  refine Yields.guard (decide_eq_true (by rw[bD];simp;omega)) ?_
  rw[hd,W6];exact fs_3 z hll (d:=d) (i:=0+1) (pl:=pl ++ [mk0]) (by omega) (by simp;omega)
 ·have hc:=of_decide_eq_false hc;rw[show ls.length=0 by omega,List.replicate_zero,List.append_nil];exact Yields.some _
theorem fs_1 (z:T) (ha : ∀x∈ags,oI x) (hal:ags.length≤10) (hll:ls.length≤10) : ∀{d i:Nat} {pl:List T},i+d=ags.length→pl.length+d+ls.length≤100→
  Yields (fun k=>eP (hl env k bo) (.int (i:Int)) (.st [.int n0,.sl ags,.sl rs,.sl ls,.sl tk,.sl cd]) z (.st [.sl [],.sl pl])) [.st [.sl [],.sl (pl++((ags.drop i).map mkA++List.replicate ls.length mk0))]]
 | 0,i,pl,hd,hp=>by
  refine qj _ _ _ _ ?_;unfold iD;simp only[tnA];rw[WJ (by omega)]
  exact Yields.ff (decide_eq_false (by omega)) (fs_3 z hll (d:=ls.length) (i:=0) (by omega) (by omega))
 | d+1,i,pl,hd,hp=>by
  have hi:i < ags.length:=by omega
  obtain ⟨s,e,_⟩:=ha _ (List.getElem_mem hi);have en:(T.sl ags).nth i = .str s:=by rw[bh hi,e]
  have next:=fs_1 z ha hal hll (d:=d) (i:=i+1) (pl:=pl ++ [mkA ags[i]]) (by omega) (by simp;omega)
  rw[← W5 hi,e] at next;refine qj _ _ _ _ ?_;unfold iD;simp only[tnA];simp only[en];rw[cF (by omega)]
  refine Yields.tt (decide_eq_true (by omega)) (Yields.guard (by (simp <;> omega)) (Yields.guard (by (simp <;> omega)) (Yields.obind (lk s) ?_)))
  simp only[tnA];refine Yields.ite (fun h=>?_) (fun h=>?_)
  ·rw[mkA_t h] at next;exact Yields.guard (decide_eq_true (by rw[bD];simp;omega)) next
  ·rw[mkA_f h] at next;exact Yields.guard (decide_eq_true (by rw[bD];simp;omega)) next
theorem first_s (ha : ∀x∈ags,oI x) (hal:ags.length≤10) (hll:ls.length≤10):Yields (fun k=>cl env k nc [.st [.int n0,.sl ags,.sl rs,.sl ls,.sl tk,.sl cd]]) [.st [.sl [],.sl (Vr ags ls)]]:=by
 refine xn _ ?_;unfold nl;refine uP _ _ _ _ ?_;unfold lB;simp only[tnA];refine Yields.ite (fun hc=>?_) (fun hc=>?_)
 ·have hc:=of_decide_eq_true hc;have hi:0 < ags.length:=by omega
  obtain ⟨s,e,_⟩:=ha _ (List.getElem_mem hi);have en:(T.sl ags).nth (0:Int).toNat = .str s:=by show (T.sl ags).nth 0=_;rw[bh hi,e]
  have next:=fs_1 (n0:=n0) (rs:=rs) (tk:=tk) (cd:=cd) (.st [.sl [],.sl []]) ha hal hll (d:=ags.length - 1) (i:=0+1) (pl:=[] ++ [mkA ags[0]]) (by omega) (by simp;omega)
  rw[← W5 hi,e] at next;simp only[en];refine Yields.guard (by (simp <;> omega)) (Yields.guard (by (simp <;> omega)) (Yields.obind (lk s) ?_))
  simp only[tnA];refine Yields.ite (fun h=>?_) (fun h=>?_)
  ·rw[mkA_t h] at next;exact Yields.guard (decide_eq_true (by rw[bD];simp)) next
  ·rw[mkA_f h] at next;exact Yields.guard (decide_eq_true (by rw[bD];simp)) next
 ·have hc:=of_decide_eq_false hc;have h0:ags = []:=List.length_eq_zero_iff.1 (by omega)
  subst h0;exact fs_2 (.st [.sl [],.sl []]) hll (pl:=[]) (by simp;omega)
end
theorem WT (l:List T):Yields (fun k=>cl env k Uw [.sl l]) [.sl l]:=by
 refine VG _ (Yields.tt ?_ ?_)
 ·simp only[Bool.and_eq_true,decide_eq_true_eq];exact ⟨by omega,by show (0:Int)≤(l.length:Int);omega,by omega,by omega⟩
 ·show Yields (fun _=>some [T.sl ((l.take l.length).drop 0)]) _
  rw[List.take_length,List.drop_zero];exact Yields.some _
theorem WD {xs:List T} (hx : ∀x∈xs,MkW x) (hlen:xs.length≤1000) : ∀{d i:Nat},i+d=xs.length→Yields (fun k=>Uy (Ra.hl env k Ue) (.sl xs) (.int (xs.length:Int)) (.int (i:Int)) (.sl (xs.take i))) [.sl xs]
 | 0,i,hd=>by
  refine Vs _ _ _ _ ?_;unfold Ux;simp only[tnA];rw[List.take_of_length_le (by omega)]
  refine Yields.ff (decide_eq_false (by omega)) (Yields.obind (WT xs) ?_)
  rw[List.take_length];exact Yields.some _
 | d+1,i,hd=>by
  have hi:i < xs.length:=by omega
  obtain ⟨s,is,e,hl⟩:=hx _ (List.getElem_mem hi);have en:(T.sl xs).nth i = .st [.str s,.sl is]:=by rw[bh hi,e]
  have next:=WD hx hlen (d:=d) (i:=i+1) (by omega)
  rw[← List.take_append_getElem hi,e] at next;refine Vs _ _ _ _ ?_;unfold Ux;simp only[tnA];simp only[en,DV hi (show xs.length≤1048576 by omega)]
  simp only[tnA];refine Yields.tt (decide_eq_true (by omega)) (Yields.guard (by (simp <;> omega)) (Yields.obind (nums_i is (by rw[BBv];omega)) ?_))
  simp only[tnA];exact Yields.guard (decide_eq_true (by rw[bD,List.length_take];simp;omega)) next
theorem Wg {xs:List T} (hx : ∀x∈xs,MkW x) (hlen:xs.length≤1000):Yields (fun k=>cl env k UI [.sl xs]) [.sl xs]:=
 Wc _ (WD hx hlen (d:=xs.length) (i:=0) (by omega))
theorem mkA_w (x:T):MkW (mkA x):=⟨_,_,rfl,by split <;> simp⟩
theorem mk0_w:MkW mk0:=⟨_,_,rfl,by simp⟩
theorem firstL_w {ags ls:List T} : ∀x∈Vr ags ls,MkW x:=fun x hx=>by
 rcases List.mem_append.1 hx with hx | hx
 ·obtain ⟨y,_,rfl⟩:=List.mem_map.1 hx;exact mkA_w y
 ·rw[List.eq_of_mem_replicate hx];exact mk0_w
theorem Wd {ags ls:List T} : (Vr ags ls).length=ags.length+ls.length:=by simp[Vr]
section
variable {n0:Int} {ags rs ls tk cd:List T} {P:List T}
theorem fi_3 (z:T) (hll:ls.length≤10) (hP : ∀x∈P,MkW x) (hPl:P.length≤100) : ∀{d i:Nat} {pl:List T},i+d=ls.length→pl++List.replicate d mk0=P→
  Yields (fun k=>Us (hl env k eb) (.int (ls.length:Int)) (.int (i:Int)) z (.st [.sl [],.sl pl])) [.st [.sl [],.sl P],.bool true]
 | 0,i,pl,hd,hp=>by
  rw[List.replicate_zero,List.append_nil] at hp;subst hp;refine Vk _ _ _ _ ?_;unfold Ur Ub;simp only[tnA];have c:Yields (fun k=>cl env k UJ [.st [.sl [],.sl pl]]) [.st [.sl [],.sl pl]]:=by
   refine VE _ (Yields.obind (Wg (xs:=[]) no_mw (by simp)) (Yields.obind (Wg hP (by omega)) (Yields.some _)))
  exact Yields.ff (decide_eq_false (by omega)) (Yields.obind c (Yields.some _))
 | d+1,i,pl,hd,hp=>by
  have hlen:=congrArg List.length hp;rw[List.length_append,List.length_replicate] at hlen;rw[W6] at hp;refine Vk _ _ _ _ ?_;unfold Ur Ub;simp only[tnA];rw[cF (by omega)]
  refine Yields.tt (decide_eq_true (by omega)) (Yields.guard (decide_eq_true (by rw[bD];simp;omega)) ?_)
  exact fi_3 z hll hP hPl (d:=d) (i:=i+1) (pl:=pl ++ [mk0]) (by omega) hp
theorem fi_2 (z:T) (hll:ls.length≤10) (hP : ∀x∈P,MkW x) (hPl:P.length≤100) {pl:List T} (hp:pl++List.replicate ls.length mk0=P) :
  Yields (fun k=>UU (hl env k eb) (.int (ls.length:Int)) (.int ((0:Nat):Int)) z (.st [.sl [],.sl pl])) [.st [.sl [],.sl P],.bool true]:=by
 have hlen:=congrArg List.length hp;rw[List.length_append,List.length_replicate] at hlen;refine VW _ _ _ _ ?_;unfold Ub;simp only[tnA];rw[cF (by omega)]
 refine Yields.ite (fun hc=>?_) (fun hc=>?_)
 ·have hc:=of_decide_eq_true hc;obtain ⟨d,hd⟩ : ∃d,ls.length=d+1:=⟨ls.length - 1,by omega⟩
  rw[hd,W6] at hp;refine Yields.guard (decide_eq_true (by rw[bD];simp;omega)) ?_
  exact fi_3 z hll hP hPl (d:=d) (i:=0+1) (pl:=pl ++ [mk0]) (by omega) hp
 ·have hc:=of_decide_eq_false hc;rw[show ls.length=0 by omega,List.replicate_zero,List.append_nil] at hp
  subst hp;have c:Yields (fun k=>cl env k UJ [.st [.sl [],.sl pl]]) [.st [.sl [],.sl pl]]:=by
   refine VE _ (Yields.obind (Wg (xs:=[]) no_mw (by simp)) (Yields.obind (Wg hP (by omega)) (Yields.some _)))
  exact Yields.obind c (Yields.some _)
theorem fi_1 (z:T) (ha : ∀x∈ags,oI x) (hal:ags.length≤10) (hll:ls.length≤10) (hP : ∀x∈P,MkW x) (hPl:P.length≤100) : ∀{d i:Nat} {pl:List T},i+d=ags.length→pl++((ags.drop i).map mkA++List.replicate ls.length mk0)=P→
  Yields (fun k=>Uc (hl env k eb) (.int (ags.length:Int)) (.int (i:Int)) z (.st [.int n0,.sl ags,.sl rs,.sl ls,.sl tk,.sl cd]) (.st [.sl [],.sl pl])) [.st [.sl [],.sl P],.bool true]
 | 0,i,pl,hd,hp=>by
  rw[WJ (by omega)] at hp
  refine Vj _ _ _ _ _ ?_;unfold Uq;simp only[tnA];exact Yields.ff (decide_eq_false (by omega)) (fi_3 z hll hP hPl (d:=ls.length) (i:=0) (by omega) hp)
 | d+1,i,pl,hd,hp=>by
  have hi:i < ags.length:=by omega
  obtain ⟨s,e,_⟩:=ha _ (List.getElem_mem hi);have en:(T.sl ags).nth i = .str s:=by rw[bh hi,e]
  have hlen:=congrArg List.length hp;rw[List.length_append] at hlen;rw[W5 hi] at hp;have next:=fi_1 z ha hal hll hP hPl (d:=d) (i:=i+1) (by omega) hp
  rw[e] at next;refine Vj _ _ _ _ _ ?_;unfold Uq;simp only[tnA];simp only[en];rw[cF (by omega)]
  refine Yields.tt (decide_eq_true (by omega)) (Yields.guard (by (simp <;> omega)) (Yields.obind (WH s) ?_))
  simp only[tnA];refine Yields.ite (fun h=>?_) (fun h=>?_)
  ·rw[mkA_t h] at next;exact Yields.guard (decide_eq_true (by rw[bD];simp;omega)) next
  ·rw[mkA_f h] at next;exact Yields.guard (decide_eq_true (by rw[bD];simp;omega)) next
theorem fi_0 (z:T) (ha : ∀x∈ags,oI x) (hal:ags.length≤10) (hll:ls.length≤10):Yields (fun k=>UT (hl env k eb) (.int (ags.length:Int)) (.int 0) z (.st [.int n0,.sl ags,.sl rs,.sl ls,.sl tk,.sl cd]) (.st [.sl [],.sl []])) [.st [.sl [],.sl (Vr ags ls)],.bool true]:=by
 have hP:=firstL_w (ags:=ags) (ls:=ls)
 have hPl:(Vr ags ls).length≤100:=by rw[Wd];omega
 refine VV _ _ _ _ _ ?_;unfold UQ;simp only[tnA];refine Yields.ite (fun hc=>?_) (fun hc=>?_)
 ·have hc:=of_decide_eq_true hc;have hi:0 < ags.length:=by omega
  obtain ⟨s,e,_⟩:=ha _ (List.getElem_mem hi);have en:(T.sl ags).nth (0:Int).toNat = .str s:=by show (T.sl ags).nth 0=_;rw[bh hi,e]
  have hp : []++((ags.drop 0).map mkA++List.replicate ls.length mk0)=Vr ags ls:=rfl
  rw[W5 hi] at hp;have next:=fi_1 (n0:=n0) (rs:=rs) (tk:=tk) (cd:=cd) z ha hal hll hP hPl (d:=ags.length - 1) (i:=0+1) (by omega) hp
  rw[e] at next;simp only[en];refine Yields.guard (by (simp <;> omega)) (Yields.obind (WH s) ?_)
  simp only[tnA];refine Yields.ite (fun h=>?_) (fun h=>?_)
  ·rw[mkA_t h] at next;exact Yields.guard (decide_eq_true (by rw[bD];simp)) next
  ·rw[mkA_f h] at next;exact Yields.guard (decide_eq_true (by rw[bD];simp)) next
 ·have hc:=of_decide_eq_false hc;have h0:ags = []:=List.length_eq_zero_iff.1 (by omega)
  subst h0;exact fi_2 z hll hP hPl (pl:=[]) rfl
end
theorem WK {xs:List T} (hlen:xs.length≤1048576) : ∀{d i:Nat},i+d=xs.length→Yields (fun k=>GM (hl env k Ff) (.sl xs) (.sl xs) (.int (i:Int))) [.bool true]
 | 0,i,hd=>by
  refine Jv _ _ _ ?_;unfold GH;simp only[tnA];exact Yields.ff (decide_eq_false (by omega)) (Yields.some _)
 | d+1,i,hd=>by
  refine Jv _ _ _ ?_;unfold GH;simp only[tnA];simp only[DH,DV (show i < xs.length by omega) hlen]
  exact Yields.tt (decide_eq_true (by omega)) (Yields.guard (by (simp <;> omega)) (Yields.guard (by (simp <;> omega)) (Yields.ff rfl (WK hlen (d:=d) (i:=i+1) (by omega)))))
theorem nums9 {xs:List T} (hlen:xs.length≤1048576):Yields (fun k=>cl env k IC [.sl xs,.sl xs]) [.bool true]:=by
 refine N1 _ _ ?_;unfold IG;simp only[tnA];simp only[DH];exact Yields.ff rfl (WK hlen (d:=xs.length) (i:=0) (by omega))
theorem Ww {xs:List T} (hx : ∀x∈xs,MkW x) (hlen:xs.length≤1000) : ∀{d i:Nat},i+d=xs.length→Yields (fun k=>UM (hl env k Uk) (.sl xs) (.sl xs) (.int (i:Int))) [.bool true]
 | 0,i,hd=>by
  refine VF _ _ _ ?_;unfold UL;simp only[tnA];exact Yields.ff (decide_eq_false (by omega)) (Yields.some _)
 | d+1,i,hd=>by
  have hi:i < xs.length:=by omega
  obtain ⟨s,is,e,hl⟩:=hx _ (List.getElem_mem hi);have en:(T.sl xs).nth i = .st [.str s,.sl is]:=by rw[bh hi,e]
  have g:(decide (0≤(i:Int))&&decide (i < xs.length))=true:=by (simp <;> omega)
  have next:=Ww hx hlen (d:=d) (i:=i+1) (by omega)
  refine VF _ _ _ ?_;unfold UL;simp only[tnA];simp only[en,DV hi (show xs.length≤1048576 by omega)]
  simp only[tnA];simp only[Ar,g,Bool.not_true,beq_self_eq_true,Bool.and_true,Bool.or_true,Bool.true_or,cond_true,cond_false,Bool.not_false];refine Yields.tt (decide_eq_true (by omega)) (Yields.obind (nums9 (by omega)) ?_)
  simp only[tnA];exact Yields.ff rfl next
theorem Wf {xs:List T} (hx : ∀x∈xs,MkW x) (hlen:xs.length≤1000):Yields (fun k=>cl env k V0 [.sl xs,.sl xs]) [.bool true]:=by
 refine Wt _ _ ?_;unfold Vn;simp only[tnA];simp only[DH];exact Yields.ff rfl (Ww hx hlen (d:=xs.length) (i:=0) (by omega))
theorem WR {pl:List T} (hx : ∀x∈pl,MkW x) (hlen:pl.length≤1000):Yields (fun k=>cl env k Vm [.st [.sl [],.sl pl],.st [.sl [],.sl pl]]) [.bool true]:=
 Wu _ _ (Yields.obind (Wf (xs:=[]) no_mw (by simp)) (Yields.tt rfl (Yields.obind (Wf hx hlen) (Yields.some _))))
theorem WO {bs:List T} (hv:JG bs):YP (fun k=>cl env k UC [.sl bs]) (fun o=>∃ms m f,o = [.sl ms,.int m,.int f]∧Cy ms):=by
 refine YP.call ?_ (fun r h=>VP _ h)
 unfold UE;refine YP.obind (TI hv) ?_;rintro _ ⟨r,rfl,hr⟩;refine YP.obind (ct_at (q:=1) (hr.less (by omega))) ?_
 rintro _ ⟨ms,m,f,r1,rfl,hr1,ha,_⟩;exact YP.some ⟨ms,m,f,rfl,ha⟩
theorem WQ {ms:List T} (ha:Cy ms) (m f:Int) : ∃(pl:List T) (b:Bool),(∀x∈pl,∃(s:ByteArray) (is:List T),x = .st [.str s,.sl is]∧(is = []∨is = [.int 9]))∧pl.length≤100∧
  Yields (fun k=>cl env k V3 [.sl ms,.int m,.int f]) [.st [.sl [],.sl pl],.bool b]∧Yields (fun k=>cl env k V2 [.sl ms,.int m,.int f]) [.st [.sl [],.sl pl],.bool b]:=by
 have hm3:=ha.1;obtain ⟨c,s1,s2,_⟩:=Wh ms (by rw[BBv];omega) (VZ ha)
 have none : ∀x∈([]:List T),∃(s:ByteArray) (is:List T),x = .st [.str s,.sl is]∧(is = []∨is = [.int 9]):=fun x h=>by cases h
 cases c with
 | false=>exact ⟨[],false,none,by simp,V8 _ _ _ (Yields.obind s1 (Yields.tt rfl (Yields.some _))),V6 _ _ _ (Yields.obind s2 (Yields.tt rfl (Yields.some _)))⟩
 | true=>
  rcases WA ms (by rw[BBv];omega) (VZ ha) m f with ⟨h1,h2⟩ | ⟨i,j,g,rfl,rfl,hi,hj,hg,hgf,h1,h2⟩
  ·exact ⟨[],false,none,by simp,V8 _ _ _ (Yields.obind s1 (Yields.ff rfl (Yields.obind h1 (Yields.tt rfl (Yields.some _))))),V6 _ _ _ (Yields.obind s2 (Yields.ff rfl (Yields.obind h2 (Yields.tt rfl (Yields.some _)))))⟩
  ·have hfn:FnG g:=by
    obtain ⟨rs,fs,fr,e,_,_,_,_,_,hfs⟩:=CO ha hi;rw[e] at hg hj;have hj:j < fs.length:=hj
    have hg:(T.sl fs).nth j=g:=hg
    rw[bh hj] at hg;rw[← hg];exact hfs _ (List.getElem_mem hj)
   obtain ⟨n,ags,rs,ls,tk,cd,rfl,l1,l2,l3,l4,l5,t1,_⟩:=hfn;refine ⟨Vr ags ls,true,fun x hx=>?_,by rw[Wd];omega,V8 _ _ _ ?_,V6 _ _ _ ?_⟩
   ·rcases List.mem_append.1 hx with hx | hx
    ·obtain ⟨y,_,rfl⟩:=List.mem_map.1 hx;exact ⟨_,_,rfl,by split;exact .inr rfl;exact .inl rfl⟩
    ·rw[List.eq_of_mem_replicate hx];exact ⟨_,_,rfl,.inl rfl⟩
   ·unfold V5;refine Yields.obind s1 (Yields.ff rfl (Yields.obind h1 (Yields.ff rfl ?_)));simp only[tnA];simp only[hg];exact Yields.guard (by (simp <;> omega)) (Yields.guard (by (simp <;> omega)) (Yields.obind (first_s t1 l1 l3) (Yields.some _)))
   ·unfold V4;refine Yields.obind s2 (Yields.ff rfl (Yields.obind h2 (Yields.ff rfl ?_)));simp only[tnA];exact fi_0 _ t1 l1 l3
theorem We {pl:List T} {b:Bool} (h : ∀x∈pl,∃(s:ByteArray) (is:List T),x = .st [.str s,.sl is]∧(is = []∨is = [.int 9])) (hl:pl.length≤100) : ∀{d i:Nat},i+d=9→Yields (fun k=>Ul (Ra.hl env k U9) (.bool b) (.int (i:Int)) (.st [.sl [],.sl pl])) [.bool true]
 | 0,i,hd=>by
  refine Vc _ _ _ ?_;unfold Uh;simp only[tnA];refine Yields.ff (decide_eq_false (by omega)) (Yields.ite (fun _=>Yields.some _) (fun _=>Yields.some _))
 | d+1,i,hd=>by
  have hw : ∀x∈pl,MkW x:=fun x hx=>by obtain ⟨s,is,e,hi⟩:=h x hx;exact ⟨s,is,e,by rcases hi with rfl | rfl <;> simp⟩
  have hno : ∀xs:List T,(∀x∈xs,∃(s:ByteArray) (is:List T),x = .st [.str s,.sl is]∧(is = []∨is = [.int 9]))→xs.any (OJ false (i:Int))=false:=fun xs hx=>by
   rw[List.any_eq_false];intro x hxm;obtain ⟨s,is,rfl,hi⟩:=hx x hxm;have:PN is (i:Int)=false:=by
    rcases hi with rfl | rfl
    ·rfl
    ·have h9:((9:Int)==(i:Int))=false:=by rw[beq_eq_false_iff_ne];omega
     show (((9:Int)==(i:Int))||false)=false
     rw[h9];rfl
   show ¬(O8 s&&(PN is (i:Int)&&(!false||(bU s 0==33))))=true
   rw[this];simp
  have hal:Yields (fun k=>cl env k OG [.st [.sl [],.sl pl],.int (i:Int)]) [.bool false]:=by
   have:=Qs (st:=[]) (pl:=pl) no_mw hw (by simp) (by omega) (n:=(i:Int)) (w:=false)
   rw[hno pl h] at this;exact Qj _ _ (Yields.obind this (Yields.some _))
  refine Vc _ _ _ ?_;unfold Uh;simp only[tnA];rw[cF (by omega)]
  refine Yields.tt (decide_eq_true (by omega)) ?_
  cases b with
  | false=>exact Yields.ff rfl (Yields.tt rfl (Yields.some _))
  | true=>exact Yields.tt rfl (Yields.obind hal (Yields.ff rfl (We h hl (d:=d) (i:=i+1) (by omega))))
theorem Wn {bs:List T} (hv:JG bs):Yields (fun k=>cl env k UO [.sl bs]) [.bool true]:=by
 refine YP.yields (YP.call ?_ (fun r h=>VX _ h))
 unfold UR;refine YP.ite (fun _=>YP.some rfl) (fun _=>?_)
 refine YP.obind (WO hv) ?_;rintro _ ⟨ms,m,f,rfl,ha⟩;obtain ⟨pl,b,h,hl,h1,h2⟩:=WQ ha m f;have hw : ∀x∈pl,MkW x:=fun x hx=>by obtain ⟨s,is,e,hi⟩:=h x hx;exact ⟨s,is,e,by rcases hi with rfl | rfl <;> simp⟩
 simp only[tnA];refine YP.run h2 ?_;simp only[tnA];refine YP.run h1 ?_;simp only[tnA];refine YP.run (WR hw (by omega)) (YP.ff rfl (YP.ff (by simp) ?_))
 exact YP.of (We h hl (d:=9) (i:=0) (by omega)) rfl
end Go.Proofs.YtdcnobhlknjnoaaGreatDoor.Ra
