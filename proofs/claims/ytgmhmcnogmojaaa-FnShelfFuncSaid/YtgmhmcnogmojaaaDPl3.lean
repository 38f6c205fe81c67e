/- A verified evaluator for the program, part Pl3 of this claim. -/
import Derived.Test.YtgmhmcnogmojaaaDPl2
import Derived.Test.YtgmhmcnogmojaaaDRe
import Derived.Test.YtgmhmcnogmojaaaDRf
set_option linter.unusedSimpArgs false
set_option linter.unusedVariables false
namespace Go.Proofs.Ytgmhmcnogmojaaa.Ra
open Go
def strB (n:Nat) (t:T):Bool:=match t with | .str s=>decide (s.size≤n) | _=>false
def tyvB (ks:List T) (t:T):Bool:=match t with | .str s=>cK ks s | _=>false
def numB (t:T):Bool:=match t with | .int _=>true | _=>false
def recvB (ks:List T) (m k:Nat):Bool:=match ((T.sl ks).nth m).nth k with
 | .st [.int a,.sl fs]=>decide (0≤a)&&decide (a≤15)&&decide (fs.length≤3)&&fs.all fun x=>match x with | .str s=>eV ks m k s | _=>false
 | _=>false
def rec4B (t:T):Bool:=match t with
 | .st [.int a,.sl fs]=>decide (-1≤a)&&decide (a≤16)&&decide (fs.length≤4)&&fs.all (strB 9)
 | _=>false
def fnvB (ks:List T) (g:T):Bool:=match g with
 | .st [.int _,.sl ags,.sl rs,.sl ls,.sl tk,.sl cd]=>decide (ags.length≤10)&&decide (rs.length≤10)&&decide (ls.length≤10)&&decide (tk.length≤10)&&decide (cd.length≤1000)&&decide (1≤cd.length)&&ags.all (tyvB ks)&&rs.all (tyvB ks)&&ls.all (tyvB ks)&&tk.all numB&&cd.all insR
 | _=>false
def modB (ks:List T) (t:T):Bool:=match t with
 | .st [.sl rs,.sl fs,.sl fr]=>decide (rs.length≤3)&&decide (fs.length≤10)&&decide (fr.length≤10)&&fr.all numB&&rs.all rec4B&&fs.all (fnvB ks)
 | _=>false
def kokB (ks:List T):Bool:=decide (ks.length≤3)&&(List.range ks.length).all fun m=>decide (((T.sl ks).nth m).es.length≤3)&&(List.range ((T.sl ks).nth m).es.length).all fun k=>recvB ks m k
theorem recv_of {ks:List T} {m k:Nat} (h:recvB ks m k=true):pP ks m k:=by
 unfold recvB at h;split at h
 ·rename_i a fs e
  simp only[Bool.and_eq_true,decide_eq_true_eq,List.all_eq_true] at h;refine ⟨a,fs,e,h.1.1.1,h.1.1.2,h.1.2,fun x hx=>?_⟩
  have:=h.2 x hx
  split at this
  ·exact ⟨_,rfl,this⟩
  ·cases this
 ·cases h
theorem rec4_of {t:T} (h:rec4B t=true):hM 4 t:=by
 unfold rec4B at h;split at h
 ·rename_i a fs
  simp only[Bool.and_eq_true,decide_eq_true_eq,List.all_eq_true] at h;refine ⟨a,fs,rfl,h.1.1.1,h.1.1.2,h.1.2,fun x hx=>?_⟩
  have:=h.2 x hx
  unfold strB at this;split at this
  ·exact ⟨_,rfl,of_decide_eq_true this⟩
  ·cases this
 ·cases h
theorem xf {ks xs:List T} (h : ∀x∈xs,tyvB ks x=true):dL ks xs:=fun x hx=>by
 have:=h x hx
 unfold tyvB at this;split at this
 ·exact ⟨_,rfl,this⟩
 ·cases this
theorem uD {xs:List T} (h : ∀x∈xs,numB x=true):cz xs:=fun x hx=>by
 have:=h x hx
 unfold numB at this;split at this
 ·exact ⟨_,rfl⟩
 ·cases this
theorem za {ks:List T} {g:T} (h:fnvB ks g=true):FnV ks g∧FnC g:=by
 unfold fnvB at h;split at h
 ·rename_i n ags rs ls tk cd
  simp only[Bool.and_eq_true,decide_eq_true_eq,List.all_eq_true] at h;obtain ⟨⟨⟨⟨⟨⟨⟨⟨⟨⟨h1,h2⟩,h3⟩,h4⟩,h5⟩,h6⟩,h7⟩,h8⟩,h9⟩,h10⟩,h11⟩:=h;exact ⟨⟨n,ags,rs,ls,tk,cd,rfl,h1,h2,h3,h4,h5,xf h7,xf h8,xf h9,uD h10,fun x hx=>xM (h11 x hx)⟩,h6⟩
 ·cases h
theorem zw {ks:List T} {x:T} (h:modB ks x=true):oH ks x∧kW BB x∧∀g∈(x.fld 1).es,FnC g:=by
 unfold modB at h;split at h
 ·rename_i rs fs fr
  simp only[Bool.and_eq_true,decide_eq_true_eq,List.all_eq_true] at h;obtain ⟨⟨⟨⟨⟨h1,h2⟩,h3⟩,h4⟩,h5⟩,h6⟩:=h;refine ⟨⟨rs,fs,fr,rfl,by omega,by omega,uD h4,fun g hg=>(za (h6 g hg)).1⟩,.mk ⟨rs,rfl,by rw[BBv];omega,fun x hx=>zL (rec4_of (h5 x hx))⟩ (by rw[BBv];omega) (fun g hg=>fn_is (za (h6 g hg)).1) (by rw[BBv];omega) (uD h4),fun g hg=>(za (h6 g hg)).2⟩
 ·cases h
theorem kok_of {ks:List T} (h:kokB ks=true):KOk ks:=by
 unfold kokB at h;simp only[Bool.and_eq_true,decide_eq_true_eq,List.all_eq_true,List.mem_range] at h;exact ⟨h.1,fun m hm=>⟨(h.2 m hm).1,fun k hk=>recv_of ((h.2 m hm).2 k hk)⟩⟩
theorem sh_of {ms:List T} (h:(decide (ms.length≤3)&&kokB (aY ms)&&ms.all (modB (aY ms)))=true):ShV ms:=by
 simp only[Bool.and_eq_true,decide_eq_true_eq,List.all_eq_true] at h;exact ⟨h.1.1,kok_of h.1.2,fun x hx=>(zw (h.2 x hx)).1,fun x hx=>(zw (h.2 x hx)).2.1,fun x hx=>(zw (h.2 x hx)).2.2⟩
theorem yR:ShV [aS]:=sh_of (by kernel_rfl)
theorem zb:ShV [aS,aU]:=sh_of (by kernel_rfl)
theorem BC:kW BB aS:=yR.2.2.2.1 _ (by simp)
theorem BP:kW BB aU:=zb.2.2.2.1 _ (by simp)
theorem run_ok {f:Nat} {ts r:List T} (n:Nat) (h : ∀k,cl env (k+n) f ts=some r):YP (fun k=>cl env k f ts) (fun o=>o=r):=
 ⟨r,⟨n,fun k hk=>by obtain ⟨j,rfl⟩ : ∃j,k=j+n:=⟨k - n,by omega⟩;exact h j⟩,rfl⟩
theorem coins_ok:YP (fun k=>cl env k qy []) (fun o=>o = [.str CK]):=run_ok 40 (fun k=>by kernel_rfl)
theorem games_ok:YP (fun k=>cl env k ml []) (fun o=>o = [.str CL]):=run_ok 40 (fun k=>by kernel_rfl)
inductive vd:List T→T→T→Prop
 | nil (m:T):vd [] m m
 | cons {l m m' m2:T} {ls:List T} : (∀k,cl env (k+120) aI [m,l]=some [m',.bool true])→T.st [m'.fld 0,m'.fld 1,m'.fld 2]=m'→vd ls m' m2→vd (l :: ls) m m2
theorem Cg {s:ByteArray} {xs:List T} {m2 z:T} (hl:xs.length≤1000) (ht : ∀k,cl env (k+120) eA [m2]=some [.str s]) : ∀{todo ys:List T} {m:T},vd todo m m2→xs=ys++todo→T.st [m.fld 0,m.fld 1,m.fld 2]=m→
  Yields (fun k=>eK (Ra.hl env k cn) (cl env k) (.str s) (.bool true) (.int (ys.length:Int)) z m (.sl xs)) [m2,.bool true]:=by
 intro todo ys m hr;induction hr generalizing ys with
 | nil m=>
  intro hx hm;unfold eK;simp only[tnA];simp only[hm];refine Yields.ff (decide_eq_false (by rw[hx];simp)) (Yields.ff rfl ?_)
  refine Yields.obind (r1:=[.str s]) ⟨120,fun k hk=>by obtain ⟨j,rfl⟩ : ∃j,k=j+120:=⟨k - 120,by omega⟩;exact ht j⟩ ?_
  simp only[tnA];exact Yields.ff (by simp) (Yields.some _)
 | @cons l m m' m2 ls h1 h2 h3 ih=>
  intro hx hm;have hlt:ys.length < xs.length:=by rw[hx];simp
  have en:(T.sl xs).nth ys.length=l:=by rw[bh hlt];simp[hx]
  have ew:IntKind.wrap .i64 ((ys.length:Int)+1)=((ys ++ [l]).length:Int):=by rw[bf (by omega) (by omega)];simp
  unfold eK;simp only[tnA];simp only[hm,en,ew];refine Yields.tt (decide_eq_true (by omega)) (Yields.tt rfl (Yields.tt (by (simp <;> omega)) ?_))
  refine Yields.obind (r1:=[m',.bool true]) ⟨120,fun k hk=>by obtain ⟨j,rfl⟩ : ∃j,k=j+120:=⟨k - 120,by omega⟩;exact h1 j⟩ ?_
  simp only[tnA];simp only[h2];exact sr _ _ _ _ _ _ (ih ht (by rw[hx];simp) h2)
theorem zK {s:ByteArray} {xs:List T} {m2:T} (hs:s.size≤4000) (hl:xs.length≤1000) (h1 : ∀k,cl env (k+500) qZ [.str s]=some [.sl xs,.bool true]) (ht : ∀k,cl env (k+120) eA [m2]=some [.str s])
  (h:vd xs (.st [.sl [],.sl [],.sl []]) m2) (h3:T.st [m2.fld 0,m2.fld 1,m2.fld 2]=m2):YP (fun k=>cl env k eN [.str s]) (fun o=>o = [m2]):=by
 refine YP.of (r:=[m2]) ?_ rfl;refine xw _ ?_;unfold ny;refine Yields.obind (r1:=[m2,.bool true]) ?_ ?_
 ·refine tU _ ?_;unfold kz;simp only[tnA];refine Yields.ff (decide_eq_false (by omega)) ?_
  refine Yields.obind (r1:=[.sl xs,.bool true]) ⟨500,fun k hk=>by obtain ⟨j,rfl⟩ : ∃j,k=j+500:=⟨k - 500,by omega⟩;exact h1 j⟩ ?_
  simp only[tnA];exact sq _ _ _ _ _ _ (Cg hl ht (ys:=[]) h rfl rfl)
 ·simp only[tnA];simp only[h3];exact Yields.some _
theorem AX:YP (fun k=>cl env k eN [.str CK]) (fun o=>o = [aS]):=
 zK (by decide +kernel) (by decide +kernel) CT CY (.cons rc0 rfl (.cons rc1 rfl (.cons rc2 rfl (.cons rc3 rfl (.cons rc4 rfl (.cons rc5 rfl (.cons rc6 rfl (.cons rc7 rfl (.cons rc8 rfl (.cons rc9 rfl (.cons rc10 rfl (.cons rc11 rfl (.cons rc12 rfl (.cons rc13 rfl (.cons rc14 rfl (.cons rc15 rfl (.cons rc16 rfl (.cons rc17 rfl (.cons rc18 rfl (.cons rc19 rfl (.cons rc20 rfl (.cons rc21 rfl (.cons rc22 rfl (.cons rc23 rfl (.cons rc24 rfl (.cons rc25 rfl (.cons rc26 rfl (.cons rc27 rfl (.cons rc28 rfl (.cons rc29 rfl (.cons rc30 rfl (.cons rc31 rfl (.cons rc32 rfl (.cons rc33 rfl (.cons rc34 rfl (.cons rc35 rfl (.cons rc36 rfl (.cons rc37 rfl (.cons rc38 rfl (.cons rc39 rfl (.cons rc40 rfl (.cons rc41 rfl (.nil _))))))))))))))))))))))))))))))))))))))))))) rfl
theorem Bh:YP (fun k=>cl env k eN [.str CL]) (fun o=>o = [aU]):=
 zK (by decide +kernel) (by decide +kernel) CU CZ (.cons rg0 rfl (.cons rg1 rfl (.cons rg2 rfl (.cons rg3 rfl (.cons rg4 rfl (.cons rg5 rfl (.cons rg6 rfl (.cons rg7 rfl (.cons rg8 rfl (.cons rg9 rfl (.cons rg10 rfl (.cons rg11 rfl (.cons rg12 rfl (.cons rg13 rfl (.cons rg14 rfl (.cons rg15 rfl (.cons rg16 rfl (.cons rg17 rfl (.cons rg18 rfl (.cons rg19 rfl (.cons rg20 rfl (.cons rg21 rfl (.cons rg22 rfl (.cons rg23 rfl (.cons rg24 rfl (.cons rg25 rfl (.cons rg26 rfl (.cons rg27 rfl (.cons rg28 rfl (.cons rg29 rfl (.cons rg30 rfl (.cons rg31 rfl (.cons rg32 rfl (.cons rg33 rfl (.nil _))))))))))))))))))))))))))))))))))) rfl
def ve (q:Nat) (o:List T):Prop:=∃(ms:List T) (r':T),o = [.sl ms,r']∧Rd q r'∧ShV ms
theorem A9 {ks:List T} {x:T} (h:oH ks x) {l:List T} (hl:l.length≤1000) (hn:cz l):oH ks (.st (x.fs.set 2 (.sl l))):=by
 obtain ⟨rs,fs,fr,rfl,h1,h2,h3,h4⟩:=h;exact ⟨rs,fs,l,rfl,h1,hl,hn,h4⟩
theorem Ci {ms:List T} (h:ShV ms) (hl:0 < ms.length):ShV (ms.set 0 (.st (((T.sl ms).nth 0).fs.set 2 (.sl [.int 1])))):=by
 obtain ⟨h1,h2,h3,h4,h5⟩:=h;have e0:(T.sl ms).nth 0=ms[0]:=bh hl
 have hm:ms[0]∈ms:=List.getElem_mem hl
 rw[e0];have ek:aY (ms.set 0 (.st (ms[0].fs.set 2 (.sl [.int 1]))))=aY ms:=by
  obtain ⟨rs,fs,fr,e,_⟩:=h3 _ hm;rcases ms with _ | ⟨a,ms⟩
  ·cases hl
  ·have e:a=_:=e
   subst e;rfl
 have key : ∀{P:T→Prop},(∀x∈ms,P x)→P (.st (ms[0].fs.set 2 (.sl [.int 1])))→∀x∈ms.set 0 (.st (ms[0].fs.set 2 (.sl [.int 1]))),P x:=fun hp h0 x hx=>by
  rcases List.mem_or_eq_of_mem_set hx with hx | rfl
  ·exact hp x hx
  ·exact h0
 refine ⟨by rw[List.length_set];exact h1,by rw[ek];exact h2,by rw[ek];exact key h3 (A9 (h3 _ hm) (by simp) (dc 1)),key h4 ?_,key h5 ?_⟩
 ·have:=h4 _ hm
  generalize ms[0]=y at this ⊢
  cases this with
  | mk a b c d e=>exact .mk a b c (by rw[BBv];simp) (dc 1)
 ·have:=h5 _ hm
  obtain ⟨rs,fs,fr,e,_⟩:=h3 _ hm;generalize ms[0]=y at this e ⊢
  subst e;exact this
theorem mod3 {x:T} (h:kW BB x):T.st [x.fld 0,x.fld 1,x.fld 2]=x:=by cases h;rfl
theorem My {q:Nat} {ms:List T} {r:T} (h:ShV ms) (hrd:Rd (q+1) r):YP (fun k=>bif (decide ((ms.length:Int) > (1:Int))) then
 obind (cl env k aG [r, (T.int (3 : Int))]) fun r2 =>
 bif ((rt r2 0).i == (0 : Int)) then
 bif (decide (0 ≤ (0 : Int)) && decide (0 < ms.length)) then
 some [(T.put (T.sl ms) [.idx 0, .fld 2] (T.sl [(T.int (1 : Int))])), (rt (r2.drop 1) 0)]
 else
 none
 else
 some [(T.sl ms), (rt (r2.drop 1) 0)]
 else
 some [(T.sl ms), r]) (ve q) := by
 refine YP.ite (fun hc=>?_) (fun hc=>YP.some ⟨ms,r,rfl,hrd.less (by omega),h⟩)
 have hc:=of_decide_eq_true hc;refine YP.obind (bA hrd) ?_;rintro _ ⟨v,r1,rfl,hr1,_⟩;simp only[tnA];refine YP.ite (fun _=>?_) (fun _=>YP.some ⟨ms,r1,rfl,hr1,h⟩)
 have hl:0 < ms.length:=by omega
 exact YP.guard (by rw[decide_eq_true hl];rfl) (YP.some ⟨_,r1,rfl,hr1,Ci h hl⟩)
theorem shelf_0 {q:Nat} : ∀{d:Nat} {ms:List T} {r:T},ShV ms→Rd (q+1+4000 * d) r→YP (fun k=>da (hl env k dr) (.int (d:Int)) r (.sl ms)) (ve q):=by
 intro d;induction d with
 | zero=>
  intro ms r h hrd;refine YP.call ?_ (fun r h=>pm _ _ _ h)
  unfold gT;simp only[tnA];exact YP.ff (decide_eq_false (by omega)) (My h hrd)
 | succ d ih=>
  intro ms r h hrd;refine YP.call ?_ (fun r h=>pm _ _ _ h)
  unfold gT;simp only[tnA];refine YP.tt (decide_eq_true (by omega)) ?_
  refine YP.ite (fun hc=>?_) (fun hc=>My h (hrd.less (by omega)))
  have hc:=of_decide_eq_true hc;refine YP.obind (BD (q:=q+1+4000 * d) h (by omega) (hrd.less (by omega))) ?_
  rintro _ ⟨x,r1,rfl,hr1,hx,_⟩;simp only[tnA];have ex:T.st [x.fld 0,x.fld 1,x.fld 2]=x:=mod3 (hx.2.2.2.1 x (by simp))
  have em:IntKind.wrap .i64 (((d+1:Nat):Int) - 1)=(d:Int):=by obtain ⟨_,_,_,_,_,_,_⟩:=hrd;rw[bf (by omega) (by omega)];omega
  simp only[ex,em];refine YP.guard (decide_eq_true (by rw[bD];simp;omega)) ?_
  exact ih hx hr1
theorem ct_shelf {q:Nat} {r:T} (hrd:Rd (q+8003) r):YP (fun k=>cl env k mn [r]) (ve q):=by
 refine YP.call ?_ (fun r h=>wC _ h)
 unfold mE;refine YP.obind (bA (q:=q+8002) hrd) ?_;rintro _ ⟨v,r1,rfl,hr1,h0,h1,_⟩;simp only[tnA];have h1:=h1 (by omega)
 have fin : ∀{ms:List T},ShV ms→YP (fun k=>obind (cl env k aG [r1,(T.int (3:Int))]) fun r7=>da (hl env k dr) (rt r7 0) (rt (r7.drop 1) 0) (T.sl ms)) (ve q):=fun {ms} h=>by
  refine YP.obind (bA (q:=q+8001) (hr1.less (by omega))) ?_
  rintro _ ⟨w,r2,rfl,hr2,h2,h3,_⟩;simp only[tnA];have h3:=h3 (by omega)
  have ew:w=(w.toNat:Int):=by omega
  rw[ew];exact shelf_0 h (hr2.less (by omega))
 refine YP.ite (fun hc=>?_) (fun hc=>?_)
 ·refine YP.obind coins_ok ?_;rintro _ rfl;refine YP.obind AX ?_;rintro _ rfl;have e1 : ∀a b c:List T,T.st [(T.st [.sl a,.sl b,.sl c]).fld 0,(T.st [.sl a,.sl b,.sl c]).fld 1,(T.st [.sl a,.sl b,.sl c]).fld 2]=T.st [.sl a,.sl b,.sl c]:=fun _ _ _=>rfl
  have ec:T.st [aS.fld 0,aS.fld 1,aS.fld 2]=aS:=mod3 BC
  simp only[rt0,ec];refine YP.guard (decide_eq_true (by rw[bD];simp)) ?_
  refine YP.ite (fun hc=>?_) (fun hc=>fin yR)
  refine YP.obind games_ok ?_;rintro _ rfl;refine YP.obind Bh ?_;rintro _ rfl;have eg:T.st [aU.fld 0,aU.fld 1,aU.fld 2]=aU:=mod3 BP
  simp only[rt0,eg];refine YP.guard (decide_eq_true (by rw[bD];simp)) ?_
  exact fin zb
 ·have hc:=of_decide_eq_false hc;refine YP.ff (decide_eq_false (by omega)) ?_
  have h0:ShV []:=⟨by simp,⟨by simp[aY],fun m hm=>by simp[aY] at hm⟩,fun x hx=>absurd hx (by simp),fun x hx=>absurd hx (by simp),fun x hx=>absurd hx (by simp)⟩
  exact fin h0
def FnG (g:T):Prop:=∃(n:Int) (ags rs ls tk cd:List T),g = .st [.int n,.sl ags,.sl rs,.sl ls,.sl tk,.sl cd]∧ags.length≤10∧rs.length≤10∧ls.length≤10∧tk.length≤10∧cd.length≤1000∧
 (∀x∈ags,oI x)∧(∀x∈rs,oI x)∧(∀x∈ls,oI x)∧cz tk∧∀x∈cd,iz x
def MdG (x:T):Prop:=∃rs fs fr:List T,x = .st [.sl rs,.sl fs,.sl fr]∧rs.length≤4∧(∀x∈rs,hM 4 x)∧fs.length≤1000∧fr.length≤1000∧cz fr∧∀g∈fs,FnG g
def Cy (ms:List T):Prop:=ms.length≤3∧∀x∈ms,MdG x
theorem fng_of {ks:List T} {g:T} (h:FnV ks g):FnG g:=by
 obtain ⟨n,ags,rs,ls,tk,cd,rfl,l1,l2,l3,l4,l5,t1,t2,t3,t4,t5⟩:=h;have str : ∀{xs:List T},dL ks xs→∀x∈xs,oI x:=fun h x hx=>by
  obtain ⟨s,e,h⟩:=h x hx;exact ⟨s,e,by have:=nX h;omega⟩
 exact ⟨n,ags,rs,ls,tk,cd,rfl,l1,l2,l3,l4,l5,str t1,str t2,str t3,t4,t5⟩
theorem AO {ms:List T} (h:ShV ms) {i:Nat} (hi:i < ms.length):(((T.sl ms).nth i).fld 0).es.length≤3∧∀x∈(((T.sl ms).nth i).fld 0).es,hM 4 x:=by
 have hi':i < (aY ms).length:=by rw[qW];exact hi
 have e:(T.sl (aY ms)).nth i=((T.sl ms).nth i).fld 0:=by rw[bh hi',bh hi,ub hi' hi]
 have:=h.2.1.2 i hi'
 rw[← e];refine ⟨this.1,fun x hx=>?_⟩
 obtain ⟨j,hj,rfl⟩:=List.getElem_of_mem hx;have h2:=recv_r (this.2 j hj);generalize (T.sl (aY ms)).nth i=y at hj h2 ⊢
 cases y with
 | sl es=>rw[bh (es:=es) hj] at h2;exact h2
 | int=>cases hj
 | bool=>cases hj
 | str=>cases hj
 | st=>cases hj
 | fn=>cases hj
theorem any_of {ms:List T} (h:ShV ms):Cy ms:=by
 refine ⟨h.1,fun x hx=>?_⟩
 obtain ⟨i,hi,rfl⟩:=List.getElem_of_mem hx;have h2:=AO h hi;rw[bh hi] at h2;obtain ⟨rs,fs,fr,e,h3,h4,h5,h6⟩:=h.2.2.1 _ hx;rw[e] at h2 ⊢;exact ⟨rs,fs,fr,rfl,by have:=h2.1;exact Nat.le_succ_of_le this,h2.2,h3,h4,h5,fun g hg=>fng_of (h6 g hg)⟩
theorem xb {x:T} (h:oI x):tv x:=by obtain ⟨s,rfl,h⟩:=h;exact ⟨s,rfl,by rw[jZ];omega⟩
theorem fng_is {g:T} (h:FnG g):j5 BB g:=by
 obtain ⟨n,ags,rs,ls,tk,cd,rfl,l1,l2,l3,l4,l5,t1,t2,t3,t4,t5⟩:=h;refine .mk (by rw[BBv];omega) (by rw[BBv];omega) (by rw[BBv];omega) (by rw[BBv];omega) (by rw[BBv];omega) (fun x hx=>xb (t1 x hx)) (fun x hx=>xb (t2 x hx)) (fun x hx=>xb (t3 x hx)) t4 (fun x hx=>?_)
 obtain ⟨s,a,b,e,h1,_⟩:=t5 x hx;exact ⟨s,a,b,e,by rw[jZ];omega⟩
theorem mdg_is {x:T} (h:MdG x):kW BB x:=by
 obtain ⟨rs,fs,fr,rfl,h1,h2,h3,h4,h5,h6⟩:=h;exact .mk ⟨rs,rfl,by rw[BBv];omega,fun x hx=>zL (h2 x hx)⟩ (by rw[BBv];omega) (fun g hg=>fng_is (h6 g hg)) (by rw[BBv];omega) h5
theorem CO {ms:List T} (h:Cy ms) {i:Nat} (hi:i < ms.length):MdG ((T.sl ms).nth i):=by rw[bh hi];exact h.2 _ (List.getElem_mem _)
theorem md_at {x:T} (h:MdG x) {j:Nat} (hj:j < (x.fld 1).es.length):FnG ((x.fld 1).nth j):=by
 obtain ⟨rs,fs,fr,rfl,h1,h2,h3,h4,h5,h6⟩:=h;have hj:j < fs.length:=hj
 show FnG ((T.sl fs).nth j)
 rw[bh hj];exact h6 _ (List.getElem_mem _)
theorem An {ms:List T} (h:Cy ms) {i:Nat} {y:T} (hy:MdG y):Cy (ms.set i y):=by
 refine ⟨by rw[List.length_set];exact h.1,fun x hx=>?_⟩
 rcases List.mem_or_eq_of_mem_set hx with hx | rfl
 ·exact h.2 x hx
 ·exact hy
theorem md_fn {x g:T} (h:MdG x) (hg:FnG g) (j:Nat):MdG (.st (x.fs.set 1 (.sl ((x.fld 1).es.set j g)))):=by
 obtain ⟨rs,fs,fr,rfl,h1,h2,h3,h4,h5,h6⟩:=h;refine ⟨rs,fs.set j g,fr,rfl,h1,h2,by rw[List.length_set];exact h3,h4,h5,fun x hx=>?_⟩
 rcases List.mem_or_eq_of_mem_set hx with hx | rfl
 ·exact h6 x hx
 ·exact hg
theorem md_rec {x y:T} (h:MdG x) (hx:(x.fld 0).es.length≤3) (hy:hM 4 y):MdG (.st (x.fs.set 0 (.sl ((x.fld 0).es ++ [y])))):=by
 obtain ⟨rs,fs,fr,rfl,h1,h2,h3,h4,h5,h6⟩:=h;have hx:rs.length≤3:=hx
 refine ⟨rs ++ [y],fs,fr,rfl,by simp;omega,fun x hx=>?_,h3,h4,h5,h6⟩
 rcases List.mem_append.1 hx with hx | hx
 ·exact h2 x hx
 ·rw[List.mem_singleton.1 hx];exact hy
theorem AA {g:T} (h:FnG g) {l:List T} (hl:l.length≤1000) (hc : ∀x∈l,iz x):FnG (.st (g.fs.set 5 (.sl l))):=by
 obtain ⟨n,ags,rs,ls,tk,cd,rfl,l1,l2,l3,l4,l5,t1,t2,t3,t4,t5⟩:=h;exact ⟨n,ags,rs,ls,tk,l,rfl,l1,l2,l3,l4,hl,t1,t2,t3,t4,hc⟩
theorem fg_rets {g:T} (h:FnG g) {l:List T} (hl:l.length≤10) (hc : ∀x∈l,oI x):FnG (.st (g.fs.set 2 (.sl l))):=by
 obtain ⟨n,ags,rs,ls,tk,cd,rfl,l1,l2,l3,l4,l5,t1,t2,t3,t4,t5⟩:=h;exact ⟨n,ags,l,ls,tk,cd,rfl,l1,hl,l3,l4,l5,t1,hc,t3,t4,t5⟩
theorem fg_takes {g:T} (h:FnG g):FnG (.st (g.fs.set 4 (.sl []))):=by
 obtain ⟨n,ags,rs,ls,tk,cd,rfl,l1,l2,l3,l4,l5,t1,t2,t3,t4,t5⟩:=h;exact ⟨n,ags,rs,ls,[],cd,rfl,l1,l2,l3,by simp,l5,t1,t2,t3,bu,t5⟩
theorem fg_cd {g:T} (h:FnG g):(g.fld 5).es.length≤1000∧(∀x∈(g.fld 5).es,iz x):=by
 obtain ⟨n,ags,rs,ls,tk,cd,rfl,l1,l2,l3,l4,l5,t1,t2,t3,t4,t5⟩:=h;exact ⟨l5,t5⟩
def AnyR (q:Nat) (o:List T):Prop:=∃(ms:List T) (r':T),o = [.sl ms,r']∧Rd q r'∧Cy ms
theorem ct_any {q:Nat} {r:T} (hrd:Rd (q+8100) r):YP (fun k=>cl env k oG [r]) (AnyR q):=by
 refine YP.call ?_ (fun r h=>yB _ h)
 unfold oU;refine YP.obind (ct_shelf (q:=q+97) hrd) ?_;rintro _ ⟨ms,r1,rfl,hr1,hs⟩;have ha:=any_of hs;have hm3:=hs.1;refine YP.obind (bA (q:=q+96) hr1) ?_;rintro _ ⟨v,r2,rfl,hr2,_⟩;simp only[tnA];refine YP.ite (fun _=>YP.some ⟨ms,r2,rfl,hr2.less (by omega),ha⟩) (fun _=>?_)
 refine YP.ite (fun _=>YP.some ⟨ms,r2,rfl,hr2.less (by omega),ha⟩) (fun hz=>?_)
 have hz:0 < ms.length:=by
  rcases ms with _ | ⟨a,ms⟩
  ·cases hz
  ·simp
 refine YP.obind (bA (q:=q+95) hr2) ?_;rintro _ ⟨m,r3,rfl,hr3,m0,m1,_⟩;simp only[tnA];have m1:=m1 (by omega)
 obtain ⟨i,rfl⟩ : ∃i:Nat,m=i:=⟨m.toNat,by omega⟩
 have hi:i < ms.length:=by omega
 have gi:(decide (0≤(i:Int))&&decide ((i:Int).toNat < ms.length))=true:=by (simp <;> omega)
 simp only[tnA];have hmd:=CO ha hi;have hrl:=(AO hs hi).1;have hc5:=hs.2.2.2.2 _ (List.getElem_mem hi);rw[← bh hi] at hc5;have hfl:(((T.sl ms).nth i).fld 1).es.length≤1000:=by
  obtain ⟨_,_,_,e,_,_,h,_⟩:=hmd;rw[e];exact h
 obtain ⟨x,hx⟩ : ∃x,(T.sl ms).nth i=x:=⟨_,rfl⟩;rw[hx] at hmd hc5 hrl hfl;simp only[hx];refine YP.guard (by (simp <;> omega)) ?_
 refine YP.ite (fun _=>YP.some ⟨ms,r3,rfl,hr3.less (by omega),ha⟩) (fun hz=>?_)
 have hz:0 < (x.fld 1).es.length:=by
  rcases h:(x.fld 1).es with _ | ⟨a,l⟩
  ·rw[h] at hz;cases hz
  ·simp
 refine YP.guard (by (simp <;> omega)) ?_
 refine YP.obind (bA (q:=q+94) hr3) ?_;rintro _ ⟨w,r4,rfl,hr4,w0,w1,_⟩;simp only[tnA];have w1:=w1 (by omega)
 obtain ⟨j,rfl⟩ : ∃i:Nat,w=i:=⟨w.toNat,by omega⟩
 have hj:j < (x.fld 1).es.length:=by omega
 simp only[tnA];refine YP.guard (by (simp <;> omega)) (YP.guard (by (simp <;> omega)) ?_)
 have hg:=md_at hmd hj;have hgc:1≤(((x.fld 1).nth j).fld 5).es.length:=by
  have e:(x.fld 1).nth j=(x.fld 1).es[j]:=by simp[T.nth,hj]
  rw[e];exact hc5 _ (List.getElem_mem hj)
 have hcd:=fg_cd hg;obtain ⟨g,hgx⟩ : ∃g,(x.fld 1).nth j=g:=⟨_,rfl⟩;rw[hgx] at hg hgc hcd;simp only[hgx];have put : ∀{g':T},FnG g'→Cy (ms.set i (.st (x.fs.set 1 (.sl ((x.fld 1).es.set j g'))))):=fun h=>An ha (md_fn hmd h j)
 have pe : ∀n v,T.put (T.sl ms) [.idx i,.fld 1,.idx j,.fld n] v = .sl (ms.set i (.st (x.fs.set 1 (.sl ((x.fld 1).es.set j (.st (g.fs.set n v))))))):=fun n v=>by
  simp only[T.put,hx,hgx,te]
 refine YP.obind (bA (q:=q+93) hr4) ?_;rintro _ ⟨v,r5,rfl,hr5,_⟩;simp only[tnA];refine YP.ite (fun _=>?_) (fun _=>YP.ite (fun _=>?_) (fun _=>YP.ite (fun _=>?_) (fun _=>YP.ite (fun _=>?_) (fun _=>?_))))
 ·refine YP.obind (bA (q:=q+92) hr5) ?_;rintro _ ⟨u,r6,rfl,hr6,u0,u1,_⟩;simp only[tnA];have u1:=u1 (by omega)
  refine YP.obind (ct_ins (q:=q+89) hr6) ?_;rintro _ ⟨y,r7,rfl,hr7,hy⟩;simp only[tnA];refine YP.guard (by (simp <;> omega)) (YP.some ⟨_,r7,rfl,hr7.less (by omega),?_⟩)
  show Cy (ms.set i (.st (((T.sl ms).nth i).fs.set 1 (.sl ((((T.sl ms).nth i).fld 1).es.set j (.st (((((T.sl ms).nth i).fld 1).nth j).fs.set 5 (.sl ((((((T.sl ms).nth i).fld 1).nth j).fld 5).es.set u.toNat y)))))))))
  rw[hx,hgx];refine put (AA hg (by rw[List.length_set];exact hcd.1) (fun z hz=>?_))
  rcases List.mem_or_eq_of_mem_set hz with hz | rfl
  ·exact hcd.2 z hz
  ·exact hy
 ·have hcl:=hcd.1;have e1:IntKind.wrap .i64 (((g.fld 5).es.length:Int) - 1)=((g.fld 5).es.length:Int) - 1:=bf (by omega) (by omega)
  simp only[e1];refine YP.guard (by (simp <;> omega)) (YP.guard (by simp) (YP.some ⟨_,r5,by rw[pe],hr5.less (by omega),put (AA hg ?_ fun z hz=>?_)⟩))
  ·rw[List.length_take];omega
  ·exact hcd.2 z (List.mem_of_mem_take hz)
 ·exact YP.some ⟨_,r5,by rw[pe],hr5.less (by omega),put (fg_takes hg)⟩
 ·refine YP.obind (YP.of (Q:=fun o=>o = [.sl (aY ms)]) (tF ms (by rw[BBv];omega) hs.2.2.2.1) rfl) ?_
  rintro _ rfl;refine YP.obind (jM (tG hs.2.1) (n:=2) (q:=q+80) (by omega) (hr5.less (by omega))) ?_
  rintro _ ⟨ys,r6,rfl,hr6,l1,t1⟩;simp only[tnA];exact YP.some ⟨_,r6,by rw[pe],hr6.less (by omega),put (fg_rets hg (by omega) fun x hx=>AR (t1 x hx))⟩
 ·refine YP.guard (by (simp <;> omega)) ?_
  refine YP.obind (YP.of (Q:=fun o=>o = [.sl (aY ms)]) (tF ms (by rw[BBv];omega) hs.2.2.2.1) rfl) ?_
  rintro _ rfl;refine YP.obind (xJ (q:=q+60) (tG hs.2.1) (hr5.less (by omega))) ?_
  rintro _ ⟨y,r6,rfl,hr6,hy⟩;simp only[tnA];have ey:T.st [y.fld 0,y.fld 1]=y:=by obtain ⟨a,fs,rfl,_⟩:=hy;rfl
  simp only[ey];refine YP.guard (decide_eq_true (by rw[bD];simp;omega)) (YP.guard (by (simp <;> omega)) (YP.guard (by simp) (YP.some ⟨_,r6,rfl,hr6.less (by omega),?_⟩)))
  show Cy (ms.set i (.st (((T.sl ms).nth i).fs.set 0 (.sl ((x.fld 0).es ++ [y])))))
  rw[hx];exact An ha (md_rec hmd hrl hy)
theorem DV {i n:Nat} (h:i < n) (hn:n≤1048576):IntKind.wrap .i64 ((i:Int)+1)=((i+1:Nat):Int):=by rw[bf (by omega) (by omega)];rfl
theorem Yields.guard {b:Bool} {x:Nat→R} {r:List T} (hb:b=true) (h:Yields x r):Yields (fun k=>bif b then x k else Option.none) r:=Yields.tt hb h
theorem or_l {a b:Bool} (h:a=true):(a||b)=true:=by rw[h];rfl
theorem DH (n:Int):(n != n)=false:=by simp
theorem Ar (s:ByteArray):(s.toList==s.toList)=true:=by simp
theorem E2 {xs:List T} (hl:xs.length≤1048576) : ∀{d i:Nat},i+d=xs.length→Yields (fun k=>Di (Ra.hl env k vC) (.sl xs) (.sl xs) (.int (i:Int))) [.bool true]
 | 0,i,hd=>by
  refine DE _ _ _ ?_;unfold Dg;simp only[tnA];exact Yields.ff (decide_eq_false (by omega)) (Yields.some _)
 | d+1,i,hd=>by
  refine DE _ _ _ ?_;unfold Dg;simp only[tnA];simp only[Ar,DV (show i < xs.length by omega) hl]
  exact Yields.tt (decide_eq_true (by omega)) (Yields.guard (by (simp <;> omega)) (Yields.guard (by (simp <;> omega)) (Yields.ff rfl (E2 hl (d:=d) (i:=i+1) (by omega)))))
theorem NR {xs:List T} (hl:xs.length≤1048576):Yields (fun k=>cl env k Dt [.sl xs,.sl xs]) [.bool true]:=by
 refine DZ _ _ ?_;unfold Dv;simp only[tnA];simp only[DH];exact Yields.ff rfl (E2 hl (d:=xs.length) (i:=0) (by omega))
def At3R (q:Nat) (o:List T):Prop:=∃(ms:List T) (m f:Int) (r':T),o = [.sl ms,.int m,.int f,r']∧Rd q r'∧Cy ms∧-1≤m∧m≤3∧0≤f∧f≤1001
theorem ct_at {q:Nat} {r:T} (hrd:Rd (q+8110) r):YP (fun k=>cl env k pO [r]) (At3R q):=by
 refine YP.call ?_ (fun r h=>A3 _ h)
 unfold pT;refine YP.obind (ct_any (q:=q+10) (hrd.less (by omega))) ?_
 rintro _ ⟨ms,r1,rfl,hr1,ha⟩;simp only[tnA];have hm3:=ha.1;have num : ∀{r:T},Rd (q+2) r→YP (fun k=>obind (cl env k dH [r,(T.sl [(T.int (0:Int)),(T.int (-1:Int)),(T.int (3:Int))])]) fun r2=>some [T.sl ms,(rt r2 0),(T.int (0:Int)),(rt (r2.drop 1) 0)]) (At3R q):=fun {r} h=>by
  refine YP.obind (vk (q:=q) (P:=fun x=>∃n:Int,x = .int n∧-1≤n∧n≤3) (h.less (by omega)) ?_ (by simp)) ?_
  ·intro x hx;simp only[List.mem_cons,List.not_mem_nil,or_false] at hx;rcases hx with rfl | rfl | rfl <;> exact ⟨_,rfl,by omega,by omega⟩
  ·rintro _ ⟨x,r2,rfl,hr2,n,rfl,n0,n1⟩;exact YP.some ⟨ms,n,0,r2,rfl,hr2,ha,n0,n1,by omega,by omega⟩
 refine YP.ite (fun _=>num (hr1.less (by omega))) (fun hz=>?_)
 have hz:0 < ms.length:=by
  rcases ms with _ | ⟨a,ms⟩
  ·cases hz
  ·simp
 refine YP.obind (bA (q:=q+9) hr1) ?_;rintro _ ⟨v,r2,rfl,hr2,_⟩;simp only[tnA];refine YP.ite (fun _=>num (hr2.less (by omega))) (fun _=>?_)
 refine YP.obind (bA (q:=q+8) hr2) ?_;rintro _ ⟨m,r3,rfl,hr3,m0,m1,_⟩;simp only[tnA];have m1:=m1 (by omega)
 refine YP.guard (by (simp <;> omega)) ?_
 have hfl:(((T.sl ms).nth m.toNat).fld 1).es.length≤1000:=by
  obtain ⟨_,_,_,e,_,_,h,_⟩:=CO ha (show m.toNat < ms.length by omega)
  rw[e];exact h
 rw[show IntKind.wrap .i64 (((((T.sl ms).nth m.toNat).fld 1).es.length:Int)+1)=((((T.sl ms).nth m.toNat).fld 1).es.length:Int)+1 from bf (by omega) (by omega)]
 refine YP.obind (bA (q:=q+7) hr3) ?_;rintro _ ⟨f,r4,rfl,hr4,f0,f1,_⟩;simp only[tnA];have f1:=f1 (by omega)
 exact YP.some ⟨ms,m,f,r4,rfl,hr4.less (by omega),ha,by omega,by omega,f0,by omega⟩
theorem copy_fn {g:T} (h:j5 BB g):Yields (fun k=>cl env k oD [g]) [g]:=by
 cases h with
 | mk h1 h2 h3 h4 h5=>
  rw[BBv] at h1 h2 h3 h4 h5;refine yq _ ?_;unfold oL;simp only[tnA];simp only[List.nil_append];refine Yields.guard (decide_eq_true ?_) (Yields.guard (decide_eq_true ?_) (Yields.guard (decide_eq_true ?_) (Yields.guard (decide_eq_true ?_) (Yields.guard (decide_eq_true ?_) (Yields.some _))))) <;> (rw[bD];simp;omega)
theorem fun_same {ms:List T} (ha:Cy ms) (m f:Int) : ∃(g:T) (b:Bool),j5 BB g∧Yields (fun k=>cl env k lr [.sl ms,.int m,.int f]) [g,.bool b]∧Yields (fun k=>cl env k it [.sl ms,.int m,.int f]) [g,.bool b]∧
  (b=true→∃i j:Nat,m=i∧f=j∧i < ms.length∧j < (((T.sl ms).nth i).fld 1).es.length∧(((T.sl ms).nth i).fld 1).nth j=g)∧Yields (fun k=>cl env k eb [.sl ms,.int m,.int f]) [.bool b]:=by
 have hm3:=ha.1;rcases has_same ms (by rw[BBv];omega) (fun x hx=>mdg_is (ha.2 x hx)) m f with ⟨h1,h2⟩ | ⟨i,j,g,rfl,rfl,hi,hj,hg,hf,h1,h2⟩
 ·refine ⟨zeroF,false,.mk (by simp) (by simp) (by simp) (by simp) (by simp) (by simp) (by simp) (by simp) bu (by simp),qh _ _ _ (Yields.obind h1 (Yields.tt rfl (Yields.some _))),h2,fun h=>Bool.noConfusion h,h1⟩
 ·refine ⟨g,true,hf,?_,h2,fun _=>⟨i,j,rfl,rfl,hi,hj,hg⟩,h1⟩
  refine qh _ _ _ ?_;unfold lA;refine Yields.obind h1 (Yields.ff rfl ?_);simp only[tnA];refine Yields.guard (by (simp <;> omega)) (Yields.guard (by (simp <;> omega)) ?_)
  simp only[hg];refine Yields.obind (copy_fn hf) ?_;simp only[tnA];simp only[func6 hf];exact Yields.some _
theorem YP.yields {x:Nat→R} {r:List T} (h:YP x (fun o=>o=r)):Yields x r:=by
 obtain ⟨_,h,rfl⟩:=h;exact h
theorem YP.run {x:Nat→R} {K:Nat→List T→R} {r:List T} {Q:List T→Prop} (h:Yields x r) (h2:YP (fun k=>K k r) Q):YP (fun k=>Ra.obind (x k) (K k)) Q:=
 YP.obind (YP.of (Q:=fun o=>o=r) h rfl) (by rintro _ rfl;exact h2)
def JG (bs:List T):Prop:=∀x∈bs,∃v:Int,x = .int v∧0≤v∧v≤255
theorem ints_0 {xs:List T} (hlen:xs.length≤1048576) : ∀{d i:Nat},i+d=xs.length→Yields (fun k=>GM (hl env k Ff) (.sl xs) (.sl xs) (.int (i:Int))) [.bool true]
 | 0,i,hd=>by
  refine Jv _ _ _ ?_;unfold GH;simp only[tnA];exact Yields.ff (decide_eq_false (by omega)) (Yields.some _)
 | d+1,i,hd=>by
  refine Jv _ _ _ ?_;unfold GH;simp only[tnA];simp only[DH,DV (show i < xs.length by omega) hlen]
  exact Yields.tt (decide_eq_true (by omega)) (Yields.guard (by (simp <;> omega)) (Yields.guard (by (simp <;> omega)) (Yields.ff rfl (ints_0 hlen (d:=d) (i:=i+1) (by omega)))))
theorem ints_eq {xs:List T} (hlen:xs.length≤1048576):Yields (fun k=>cl env k IC [.sl xs,.sl xs]) [.bool true]:=by
 refine N1 _ _ ?_;unfold IG;simp only[tnA];simp only[DH];exact Yields.ff rfl (ints_0 hlen (d:=xs.length) (i:=0) (by omega))
theorem code_0 {n:Int} {ags rs ls tk cd:List T} (hlen:cd.length≤1048576) : ∀{d i:Nat},i+d=cd.length→Yields (fun k=>up (hl env k be) (.int (i:Int)) (.st [.int n,.sl ags,.sl rs,.sl ls,.sl tk,.sl cd]) (.st [.int n,.sl ags,.sl rs,.sl ls,.sl tk,.sl cd])) [.bool true]
 | 0,i,hd=>by
  refine NO _ _ _ ?_;unfold t6;simp only[tnA];exact Yields.ff (decide_eq_false (by omega)) (Yields.some _)
 | d+1,i,hd=>by
  refine NO _ _ _ ?_;unfold t6;simp only[tnA];simp only[Ar,beq_self_eq_true,DV (show i < cd.length by omega) hlen]
  exact Yields.tt (decide_eq_true (by omega)) (Yields.guard (by (simp <;> omega)) (Yields.guard (by (simp <;> omega)) (Yields.ff rfl (code_0 hlen (d:=d) (i:=i+1) (by omega)))))
theorem NU {g:T} (h:j5 BB g):Yields (fun k=>cl env k y5 [g,g]) [.bool true]:=by
 cases h with
 | @mk n ags rs ls tk cd h1 h2 h3 h4 h5=>
  rw[BBv] at h1 h2 h3 h4 h5;refine NT _ _ ?_;unfold y7;simp only[tnA];simp only[DH];refine Yields.ff rfl (Yields.obind (NR h1) (Yields.ff rfl (Yields.obind (NR h2) (Yields.ff rfl (Yields.obind (NR h3) (Yields.ff rfl (Yields.obind (ints_eq h4) (Yields.ff rfl (Yields.ff rfl ?_)))))))));exact code_0 h5 (d:=cd.length) (i:=0) (by omega)
theorem NV {bs:List T} (hv:JG bs):YP (fun k=>cl env k nn [.sl bs]) (fun o=>∃ms m f,o = [.sl ms,.int m,.int f]∧Cy ms):=by
 refine YP.call ?_ (fun r h=>NP _ h)
 unfold o3;refine YP.obind (ct_open hv) ?_;rintro _ ⟨r,rfl,hr⟩;refine YP.obind (ct_at (q:=1) (hr.less (by omega))) ?_
 rintro _ ⟨ms,m,f,r1,rfl,hr1,ha,_⟩;exact YP.some ⟨ms,m,f,rfl,ha⟩
theorem NS {bs:List T} (hv:JG bs):Yields (fun k=>cl env k us [.sl bs]) [.bool true]:=by
 refine YP.yields (YP.call ?_ (fun r h=>NQ _ h))
 unfold v4;refine YP.ite (fun _=>YP.some rfl) (fun _=>?_)
 refine YP.obind (NV hv) ?_;rintro _ ⟨ms,m,f,rfl,ha⟩;simp only[tnA];obtain ⟨g,b,hf,h1,h2,h3,_⟩:=fun_same ha m f;refine YP.run h2 ?_;simp only[tnA];refine YP.run h1 ?_;simp only[tnA];simp only[func6 hf];refine YP.run (NU hf) (YP.ff rfl (YP.ff (by simp) ?_))
 cases b with
 | false=>
  refine YP.guard rfl (YP.guard rfl (YP.guard rfl (YP.guard rfl (YP.guard rfl (YP.guard rfl ?_)))));refine YP.obind (Q1:=fun _=>True) (YP.ff rfl (YP.some trivial)) (fun o _=>?_)
  exact YP.guard rfl (YP.some rfl)
 | true=>
  obtain ⟨i,j,rfl,rfl,hi,hj,hg⟩:=h3 rfl;simp only[tnA];simp only[hg,func6 hf];refine YP.guard (or_l (aL rfl (by (simp <;> omega)))) (YP.guard rfl (YP.guard rfl (YP.guard (or_l (aL rfl (by (simp <;> omega)))) (YP.guard rfl (YP.guard rfl ?_)))))
  refine YP.obind (Q1:=fun o=>o = [.bool true]) (YP.tt rfl (YP.of (NU hf) rfl)) ?_
  rintro _ rfl;exact YP.guard rfl (YP.some rfl)
end Go.Proofs.Ytgmhmcnogmojaaa.Ra
