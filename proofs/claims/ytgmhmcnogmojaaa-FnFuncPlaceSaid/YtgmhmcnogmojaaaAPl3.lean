/- A verified evaluator for the program, part Pl3 of this claim. -/
import Derived.Test.YtgmhmcnogmojaaaAPl2
import Derived.Test.YtgmhmcnogmojaaaARf
set_option linter.unusedSimpArgs false
set_option linter.unusedVariables false
namespace Go.Proofs.Ytgmhmcnogmojaaa.Ra
open Go
def ve (q:Nat) (o:List T):Prop:=∃(ms:List T) (r':T),o = [.sl ms,r']∧Rd q r'∧ShV ms
theorem A9 {ks:List T} {x:T} (h:oH ks x) {l:List T} (hl:l.length≤1000) (hn:cz l):oH ks (.st (x.fs.set 2 (.sl l))):=by
 obtain ⟨rs,fs,fr,rfl,h1,h2,h3,h4⟩:=h
 exact ⟨rs,fs,l,rfl,h1,hl,hn,h4⟩
theorem Ci {ms:List T} (h:ShV ms) (hl:0 < ms.length):ShV (ms.set 0 (.st (((T.sl ms).nth 0).fs.set 2 (.sl [.int 1])))):=by
 obtain ⟨h1,h2,h3,h4,h5⟩:=h
 have e0:(T.sl ms).nth 0=ms[0]:=bh hl
 have hm:ms[0]∈ms:=List.getElem_mem hl
 rw[e0]
 have ek:aY (ms.set 0 (.st (ms[0].fs.set 2 (.sl [.int 1]))))=aY ms:=by
  obtain ⟨rs,fs,fr,e,_⟩:=h3 _ hm
  rcases ms with _ | ⟨a,ms⟩
  ·cases hl
  ·have e:a=_:=e
   subst e;rfl
 have key : ∀{P:T→Prop},(∀x∈ms,P x)→P (.st (ms[0].fs.set 2 (.sl [.int 1])))→∀x∈ms.set 0 (.st (ms[0].fs.set 2 (.sl [.int 1]))),P x:=fun hp h0 x hx=>by
  rcases List.mem_or_eq_of_mem_set hx with hx | rfl
  ·exact hp x hx
  ·exact h0
 refine ⟨by rw[List.length_set];exact h1,by rw[ek];exact h2,by rw[ek];exact key h3 (A9 (h3 _ hm) (by simp) (dc 1)),key h4 ?_,key h5 ?_⟩
 ·have:=h4 _ hm
  generalize ms[0]=y at this ⊢
  cases this with
  | mk a b c d e=>exact .mk a b c (by rw[BBv];simp) (dc 1)
 ·have:=h5 _ hm
  obtain ⟨rs,fs,fr,e,_⟩:=h3 _ hm
  generalize ms[0]=y at this e ⊢
  subst e
  exact this
theorem mod3 {x:T} (h:kW BB x):T.st [x.fld 0,x.fld 1,x.fld 2]=x:=by cases h;rfl
theorem y5 {q:Nat} {ms:List T} {r:T} (h:ShV ms) (hrd:Rd (q+1) r):YP (fun k=>bif (decide ((ms.length:Int) > (1:Int))) then
 obind (cl env k aG [r, (T.int (3 : Int))]) fun r2 =>
 bif ((rt r2 0).i == (0 : Int)) then
 bif (decide (0 ≤ (0 : Int)) && decide (0 < ms.length)) then
 some [(T.put (T.sl ms) [.idx 0, .fld 2] (T.sl [(T.int (1 : Int))])), (rt (r2.drop 1) 0)]
 else
 none
 else
 some [(T.sl ms), (rt (r2.drop 1) 0)]
 else
 some [(T.sl ms), r]) (ve q) := by
 refine YP.ite (fun hc=>?_) (fun hc=>YP.some ⟨ms,r,rfl,hrd.less (by omega),h⟩)
 have hc:=of_decide_eq_true hc
 refine YP.obind (bA hrd) ?_
 rintro _ ⟨v,r1,rfl,hr1,_⟩
 simp only[rt0,rt1,rt2,af,ag,aq,ar,au,aj,aw,az,aA,aB,aC,aD,ak,ah,am,ap,ti,tb,tS,te,tf,Int.toNat_natCast]
 refine YP.ite (fun _=>?_) (fun _=>YP.some ⟨ms,r1,rfl,hr1,h⟩)
 have hl:0 < ms.length:=by omega
 exact YP.guard (by rw[decide_eq_true hl];rfl) (YP.some ⟨_,r1,rfl,hr1,Ci h hl⟩)
theorem shelf_0 {q:Nat} : ∀{d:Nat} {ms:List T} {r:T},ShV ms→Rd (q+1+4000 * d) r→YP (fun k=>da (hl env k dr) (.int (d:Int)) r (.sl ms)) (ve q):=by
 intro d
 induction d with
 | zero=>
  intro ms r h hrd
  refine YP.call ?_ (fun r h=>pm _ _ _ h)
  unfold gT
  simp only[rt0,rt1,rt2,af,ag,aq,ar,au,aj,aw,az,aA,aB,aC,aD,ak,ah,am,ap,ti,tb,tS,te,tf,Int.toNat_natCast]
  exact YP.ff (decide_eq_false (by omega)) (y5 h hrd)
 | succ d ih=>
  intro ms r h hrd
  refine YP.call ?_ (fun r h=>pm _ _ _ h)
  unfold gT
  simp only[rt0,rt1,rt2,af,ag,aq,ar,au,aj,aw,az,aA,aB,aC,aD,ak,ah,am,ap,ti,tb,tS,te,tf,Int.toNat_natCast]
  refine YP.tt (decide_eq_true (by omega)) ?_
  refine YP.ite (fun hc=>?_) (fun hc=>y5 h (hrd.less (by omega)))
  have hc:=of_decide_eq_true hc
  refine YP.obind (BD (q:=q+1+4000 * d) h (by omega) (hrd.less (by omega))) ?_
  rintro _ ⟨x,r1,rfl,hr1,hx,_⟩
  simp only[rt0,rt1,rt2,af,ag,aq,ar,au,aj,aw,az,aA,aB,aC,aD,ak,ah,am,ap,ti,tb,tS,te,tf,Int.toNat_natCast]
  have ex:T.st [x.fld 0,x.fld 1,x.fld 2]=x:=mod3 (hx.2.2.2.1 x (by simp))
  have em:IntKind.wrap .i64 (((d+1:Nat):Int) - 1)=(d:Int):=by obtain ⟨_,_,_,_,_,_,_⟩:=hrd;rw[bf (by omega) (by omega)];omega
  simp only[ex,em]
  refine YP.guard (decide_eq_true (by rw[bD];simp;omega)) ?_
  exact ih hx hr1
theorem ct_shelf {q:Nat} {r:T} (hrd:Rd (q+8003) r):YP (fun k=>cl env k mn [r]) (ve q):=by
 refine YP.call ?_ (fun r h=>wC _ h)
 unfold mE
 refine YP.obind (bA (q:=q+8002) hrd) ?_
 rintro _ ⟨v,r1,rfl,hr1,h0,h1,_⟩
 simp only[rt0,rt1,rt2,af,ag,aq,ar,au,aj,aw,az,aA,aB,aC,aD,ak,ah,am,ap,ti,tb,tS,te,tf,Int.toNat_natCast]
 have h1:=h1 (by omega)
 have fin : ∀{ms:List T},ShV ms→YP (fun k=>obind (cl env k aG [r1,(T.int (3:Int))]) fun r7=>da (hl env k dr) (rt r7 0) (rt (r7.drop 1) 0) (T.sl ms)) (ve q):=fun {ms} h=>by
  refine YP.obind (bA (q:=q+8001) (hr1.less (by omega))) ?_
  rintro _ ⟨w,r2,rfl,hr2,h2,h3,_⟩
  simp only[rt0,rt1,rt2,af,ag,aq,ar,au,aj,aw,az,aA,aB,aC,aD,ak,ah,am,ap,ti,tb,tS,te,tf,Int.toNat_natCast]
  have h3:=h3 (by omega)
  have ew:w=(w.toNat:Int):=by omega
  rw[ew]
  exact shelf_0 h (hr2.less (by omega))
 refine YP.ite (fun hc=>?_) (fun hc=>?_)
 ·refine YP.obind coins_ok ?_
  rintro _ rfl
  refine YP.obind AX ?_
  rintro _ rfl
  have e1 : ∀a b c:List T,T.st [(T.st [.sl a,.sl b,.sl c]).fld 0,(T.st [.sl a,.sl b,.sl c]).fld 1,(T.st [.sl a,.sl b,.sl c]).fld 2]=T.st [.sl a,.sl b,.sl c]:=fun _ _ _=>rfl
  have ec:T.st [aS.fld 0,aS.fld 1,aS.fld 2]=aS:=mod3 BC
  simp only[rt0,ec]
  refine YP.guard (decide_eq_true (by rw[bD];simp)) ?_
  refine YP.ite (fun hc=>?_) (fun hc=>fin yR)
  refine YP.obind games_ok ?_
  rintro _ rfl
  refine YP.obind Bh ?_
  rintro _ rfl
  have eg:T.st [aU.fld 0,aU.fld 1,aU.fld 2]=aU:=mod3 BP
  simp only[rt0,eg]
  refine YP.guard (decide_eq_true (by rw[bD];simp)) ?_
  exact fin zb
 ·have hc:=of_decide_eq_false hc
  refine YP.ff (decide_eq_false (by omega)) ?_
  have h0:ShV []:=⟨by simp,⟨by simp[aY],fun m hm=>by simp[aY] at hm⟩,fun x hx=>absurd hx (by simp),fun x hx=>absurd hx (by simp),fun x hx=>absurd hx (by simp)⟩
  exact fin h0
def FnG (g:T):Prop:=∃(n:Int) (ags rs ls tk cd:List T),g = .st [.int n,.sl ags,.sl rs,.sl ls,.sl tk,.sl cd]∧ags.length≤10∧rs.length≤10∧ls.length≤10∧tk.length≤10∧cd.length≤1000∧
 (∀x∈ags,oI x)∧(∀x∈rs,oI x)∧(∀x∈ls,oI x)∧cz tk∧∀x∈cd,iz x
def MdG (x:T):Prop:=∃rs fs fr:List T,x = .st [.sl rs,.sl fs,.sl fr]∧rs.length≤4∧(∀x∈rs,hM 4 x)∧fs.length≤1000∧fr.length≤1000∧cz fr∧∀g∈fs,FnG g
def AnyV (ms:List T):Prop:=ms.length≤3∧∀x∈ms,MdG x
theorem fng_of {ks:List T} {g:T} (h:FnV ks g):FnG g:=by
 obtain ⟨n,ags,rs,ls,tk,cd,rfl,l1,l2,l3,l4,l5,t1,t2,t3,t4,t5⟩:=h
 have str : ∀{xs:List T},dL ks xs→∀x∈xs,oI x:=fun h x hx=>by
  obtain ⟨s,e,h⟩:=h x hx
  exact ⟨s,e,by have:=nX h;omega⟩
 exact ⟨n,ags,rs,ls,tk,cd,rfl,l1,l2,l3,l4,l5,str t1,str t2,str t3,t4,t5⟩
theorem AO {ms:List T} (h:ShV ms) {i:Nat} (hi:i < ms.length):(((T.sl ms).nth i).fld 0).es.length≤3∧∀x∈(((T.sl ms).nth i).fld 0).es,hM 4 x:=by
 have hi':i < (aY ms).length:=by rw[qW];exact hi
 have e:(T.sl (aY ms)).nth i=((T.sl ms).nth i).fld 0:=by rw[bh hi',bh hi,ub hi' hi]
 have:=h.2.1.2 i hi'
 rw[← e]
 refine ⟨this.1,fun x hx=>?_⟩
 obtain ⟨j,hj,rfl⟩:=List.getElem_of_mem hx
 have h2:=recv_r (this.2 j hj)
 generalize (T.sl (aY ms)).nth i=y at hj h2 ⊢
 cases y with
 | sl es=>rw[bh (es:=es) hj] at h2;exact h2
 | int=>cases hj
 | bool=>cases hj
 | str=>cases hj
 | st=>cases hj
 | fn=>cases hj
theorem any_of {ms:List T} (h:ShV ms):AnyV ms:=by
 refine ⟨h.1,fun x hx=>?_⟩
 obtain ⟨i,hi,rfl⟩:=List.getElem_of_mem hx
 have h2:=AO h hi
 rw[bh hi] at h2
 obtain ⟨rs,fs,fr,e,h3,h4,h5,h6⟩:=h.2.2.1 _ hx
 rw[e] at h2 ⊢
 exact ⟨rs,fs,fr,rfl,by have:=h2.1;exact Nat.le_succ_of_le this,h2.2,h3,h4,h5,fun g hg=>fng_of (h6 g hg)⟩
theorem xb {x:T} (h:oI x):tv x:=by obtain ⟨s,rfl,h⟩:=h;exact ⟨s,rfl,by rw[jZ];omega⟩
theorem fng_is {g:T} (h:FnG g):j5 BB g:=by
 obtain ⟨n,ags,rs,ls,tk,cd,rfl,l1,l2,l3,l4,l5,t1,t2,t3,t4,t5⟩:=h
 refine .mk (by rw[BBv];omega) (by rw[BBv];omega) (by rw[BBv];omega) (by rw[BBv];omega) (by rw[BBv];omega) (fun x hx=>xb (t1 x hx)) (fun x hx=>xb (t2 x hx)) (fun x hx=>xb (t3 x hx)) t4 (fun x hx=>?_)
 obtain ⟨s,a,b,e,h1,_⟩:=t5 x hx
 exact ⟨s,a,b,e,by rw[jZ];omega⟩
theorem mdg_is {x:T} (h:MdG x):kW BB x:=by
 obtain ⟨rs,fs,fr,rfl,h1,h2,h3,h4,h5,h6⟩:=h
 exact .mk ⟨rs,rfl,by rw[BBv];omega,fun x hx=>zL (h2 x hx)⟩ (by rw[BBv];omega) (fun g hg=>fng_is (h6 g hg)) (by rw[BBv];omega) h5
theorem any_at {ms:List T} (h:AnyV ms) {i:Nat} (hi:i < ms.length):MdG ((T.sl ms).nth i):=by rw[bh hi];exact h.2 _ (List.getElem_mem _)
theorem md_at {x:T} (h:MdG x) {j:Nat} (hj:j < (x.fld 1).es.length):FnG ((x.fld 1).nth j):=by
 obtain ⟨rs,fs,fr,rfl,h1,h2,h3,h4,h5,h6⟩:=h
 have hj:j < fs.length:=hj
 show FnG ((T.sl fs).nth j)
 rw[bh hj];exact h6 _ (List.getElem_mem _)
theorem An {ms:List T} (h:AnyV ms) {i:Nat} {y:T} (hy:MdG y):AnyV (ms.set i y):=by
 refine ⟨by rw[List.length_set];exact h.1,fun x hx=>?_⟩
 rcases List.mem_or_eq_of_mem_set hx with hx | rfl
 ·exact h.2 x hx
 ·exact hy
theorem md_fn {x g:T} (h:MdG x) (hg:FnG g) (j:Nat):MdG (.st (x.fs.set 1 (.sl ((x.fld 1).es.set j g)))):=by
 obtain ⟨rs,fs,fr,rfl,h1,h2,h3,h4,h5,h6⟩:=h
 refine ⟨rs,fs.set j g,fr,rfl,h1,h2,by rw[List.length_set];exact h3,h4,h5,fun x hx=>?_⟩
 rcases List.mem_or_eq_of_mem_set hx with hx | rfl
 ·exact h6 x hx
 ·exact hg
theorem md_rec {x y:T} (h:MdG x) (hx:(x.fld 0).es.length≤3) (hy:hM 4 y):MdG (.st (x.fs.set 0 (.sl ((x.fld 0).es ++ [y])))):=by
 obtain ⟨rs,fs,fr,rfl,h1,h2,h3,h4,h5,h6⟩:=h
 have hx:rs.length≤3:=hx
 refine ⟨rs ++ [y],fs,fr,rfl,by simp;omega,fun x hx=>?_,h3,h4,h5,h6⟩
 rcases List.mem_append.1 hx with hx | hx
 ·exact h2 x hx
 ·rw[List.mem_singleton.1 hx];exact hy
theorem AA {g:T} (h:FnG g) {l:List T} (hl:l.length≤1000) (hc : ∀x∈l,iz x):FnG (.st (g.fs.set 5 (.sl l))):=by
 obtain ⟨n,ags,rs,ls,tk,cd,rfl,l1,l2,l3,l4,l5,t1,t2,t3,t4,t5⟩:=h
 exact ⟨n,ags,rs,ls,tk,l,rfl,l1,l2,l3,l4,hl,t1,t2,t3,t4,hc⟩
theorem fg_rets {g:T} (h:FnG g) {l:List T} (hl:l.length≤10) (hc : ∀x∈l,oI x):FnG (.st (g.fs.set 2 (.sl l))):=by
 obtain ⟨n,ags,rs,ls,tk,cd,rfl,l1,l2,l3,l4,l5,t1,t2,t3,t4,t5⟩:=h
 exact ⟨n,ags,l,ls,tk,cd,rfl,l1,hl,l3,l4,l5,t1,hc,t3,t4,t5⟩
theorem fg_takes {g:T} (h:FnG g):FnG (.st (g.fs.set 4 (.sl []))):=by
 obtain ⟨n,ags,rs,ls,tk,cd,rfl,l1,l2,l3,l4,l5,t1,t2,t3,t4,t5⟩:=h
 exact ⟨n,ags,rs,ls,[],cd,rfl,l1,l2,l3,by simp,l5,t1,t2,t3,bu,t5⟩
theorem fg_cd {g:T} (h:FnG g):(g.fld 5).es.length≤1000∧(∀x∈(g.fld 5).es,iz x):=by
 obtain ⟨n,ags,rs,ls,tk,cd,rfl,l1,l2,l3,l4,l5,t1,t2,t3,t4,t5⟩:=h
 exact ⟨l5,t5⟩
def AnyR (q:Nat) (o:List T):Prop:=∃(ms:List T) (r':T),o = [.sl ms,r']∧Rd q r'∧AnyV ms
theorem ct_any {q:Nat} {r:T} (hrd:Rd (q+8100) r):YP (fun k=>cl env k oG [r]) (AnyR q):=by
 refine YP.call ?_ (fun r h=>yB _ h)
 unfold oU
 refine YP.obind (ct_shelf (q:=q+97) hrd) ?_
 rintro _ ⟨ms,r1,rfl,hr1,hs⟩
 have ha:=any_of hs
 have hm3:=hs.1
 refine YP.obind (bA (q:=q+96) hr1) ?_
 rintro _ ⟨v,r2,rfl,hr2,_⟩
 simp only[rt0,rt1,rt2,af,ag,aq,ar,au,aj,aw,az,aA,aB,aC,aD,ak,ah,am,ap,ti,tb,tS,te,tf,Int.toNat_natCast]
 refine YP.ite (fun _=>YP.some ⟨ms,r2,rfl,hr2.less (by omega),ha⟩) (fun _=>?_)
 refine YP.ite (fun _=>YP.some ⟨ms,r2,rfl,hr2.less (by omega),ha⟩) (fun hz=>?_)
 have hz:0 < ms.length:=by
  rcases ms with _ | ⟨a,ms⟩
  ·cases hz
  ·simp
 refine YP.obind (bA (q:=q+95) hr2) ?_
 rintro _ ⟨m,r3,rfl,hr3,m0,m1,_⟩
 simp only[rt0,rt1,rt2,af,ag,aq,ar,au,aj,aw,az,aA,aB,aC,aD,ak,ah,am,ap,ti,tb,tS,te,tf,Int.toNat_natCast]
 have m1:=m1 (by omega)
 obtain ⟨i,rfl⟩ : ∃i:Nat,m=i:=⟨m.toNat,by omega⟩
 have hi:i < ms.length:=by omega
 have gi:(decide (0≤(i:Int))&&decide ((i:Int).toNat < ms.length))=true:=by ((repeat' (first | refine aL ?_ ?_ | refine decide_eq_true ?_)) <;> omega)
 simp only[rt0,rt1,rt2,af,ag,aq,ar,au,aj,aw,az,aA,aB,aC,aD,ak,ah,am,ap,ti,tb,tS,te,tf,Int.toNat_natCast]
 have hmd:=any_at ha hi
 have hrl:=(AO hs hi).1
 have hc5:=hs.2.2.2.2 _ (List.getElem_mem hi)
 rw[← bh hi] at hc5
 have hfl:(((T.sl ms).nth i).fld 1).es.length≤1000:=by
  obtain ⟨_,_,_,e,_,_,h,_⟩:=hmd
  rw[e];exact h
 obtain ⟨x,hx⟩ : ∃x,(T.sl ms).nth i=x:=⟨_,rfl⟩
 rw[hx] at hmd hc5 hrl hfl
 simp only[hx]
 refine YP.guard (by ((repeat' (first | refine aL ?_ ?_ | refine decide_eq_true ?_)) <;> omega)) ?_
 refine YP.ite (fun _=>YP.some ⟨ms,r3,rfl,hr3.less (by omega),ha⟩) (fun hz=>?_)
 have hz:0 < (x.fld 1).es.length:=by
  rcases h:(x.fld 1).es with _ | ⟨a,l⟩
  ·rw[h] at hz;cases hz
  ·simp
 refine YP.guard (by ((repeat' (first | refine aL ?_ ?_ | refine decide_eq_true ?_)) <;> omega)) ?_
 refine YP.obind (bA (q:=q+94) hr3) ?_
 rintro _ ⟨w,r4,rfl,hr4,w0,w1,_⟩
 simp only[rt0,rt1,rt2,af,ag,aq,ar,au,aj,aw,az,aA,aB,aC,aD,ak,ah,am,ap,ti,tb,tS,te,tf,Int.toNat_natCast]
 have w1:=w1 (by omega)
 obtain ⟨j,rfl⟩ : ∃i:Nat,w=i:=⟨w.toNat,by omega⟩
 have hj:j < (x.fld 1).es.length:=by omega
 simp only[rt0,rt1,rt2,af,ag,aq,ar,au,aj,aw,az,aA,aB,aC,aD,ak,ah,am,ap,ti,tb,tS,te,tf,Int.toNat_natCast]
 refine YP.guard (by ((repeat' (first | refine aL ?_ ?_ | refine decide_eq_true ?_)) <;> omega)) (YP.guard (by ((repeat' (first | refine aL ?_ ?_ | refine decide_eq_true ?_)) <;> omega)) ?_)
 have hg:=md_at hmd hj
 have hgc:1≤(((x.fld 1).nth j).fld 5).es.length:=by
  have e:(x.fld 1).nth j=(x.fld 1).es[j]:=by simp[T.nth,hj]
  rw[e]
  exact hc5 _ (List.getElem_mem hj)
 have hcd:=fg_cd hg
 obtain ⟨g,hgx⟩ : ∃g,(x.fld 1).nth j=g:=⟨_,rfl⟩
 rw[hgx] at hg hgc hcd
 simp only[hgx]
 have put : ∀{g':T},FnG g'→AnyV (ms.set i (.st (x.fs.set 1 (.sl ((x.fld 1).es.set j g'))))):=fun h=>An ha (md_fn hmd h j)
 have pe : ∀n v,T.put (T.sl ms) [.idx i,.fld 1,.idx j,.fld n] v = .sl (ms.set i (.st (x.fs.set 1 (.sl ((x.fld 1).es.set j (.st (g.fs.set n v))))))):=fun n v=>by
  simp only[T.put,hx,hgx,te]
 refine YP.obind (bA (q:=q+93) hr4) ?_
 rintro _ ⟨v,r5,rfl,hr5,_⟩
 simp only[rt0,rt1,rt2,af,ag,aq,ar,au,aj,aw,az,aA,aB,aC,aD,ak,ah,am,ap,ti,tb,tS,te,tf,Int.toNat_natCast]
 refine YP.ite (fun _=>?_) (fun _=>YP.ite (fun _=>?_) (fun _=>YP.ite (fun _=>?_) (fun _=>YP.ite (fun _=>?_) (fun _=>?_))))
 ·refine YP.obind (bA (q:=q+92) hr5) ?_
  rintro _ ⟨u,r6,rfl,hr6,u0,u1,_⟩
  simp only[rt0,rt1,rt2,af,ag,aq,ar,au,aj,aw,az,aA,aB,aC,aD,ak,ah,am,ap,ti,tb,tS,te,tf,Int.toNat_natCast]
  have u1:=u1 (by omega)
  refine YP.obind (ct_ins (q:=q+89) hr6) ?_
  rintro _ ⟨y,r7,rfl,hr7,hy⟩
  simp only[rt0,rt1,rt2,af,ag,aq,ar,au,aj,aw,az,aA,aB,aC,aD,ak,ah,am,ap,ti,tb,tS,te,tf,Int.toNat_natCast]
  refine YP.guard (by ((repeat' (first | refine aL ?_ ?_ | refine decide_eq_true ?_)) <;> omega)) (YP.some ⟨_,r7,rfl,hr7.less (by omega),?_⟩)
  show AnyV (ms.set i (.st (((T.sl ms).nth i).fs.set 1 (.sl ((((T.sl ms).nth i).fld 1).es.set j (.st (((((T.sl ms).nth i).fld 1).nth j).fs.set 5 (.sl ((((((T.sl ms).nth i).fld 1).nth j).fld 5).es.set u.toNat y)))))))))
  rw[hx,hgx]
  refine put (AA hg (by rw[List.length_set];exact hcd.1) (fun z hz=>?_))
  rcases List.mem_or_eq_of_mem_set hz with hz | rfl
  ·exact hcd.2 z hz
  ·exact hy
 ·have hcl:=hcd.1
  have e1:IntKind.wrap .i64 (((g.fld 5).es.length:Int) - 1)=((g.fld 5).es.length:Int) - 1:=bf (by omega) (by omega)
  simp only[e1]
  refine YP.guard (by ((repeat' (first | refine aL ?_ ?_ | refine decide_eq_true ?_)) <;> omega)) (YP.guard (by simp) (YP.some ⟨_,r5,by rw[pe],hr5.less (by omega),put (AA hg ?_ fun z hz=>?_)⟩))
  ·rw[List.length_take];omega
  ·exact hcd.2 z (List.mem_of_mem_take hz)
 ·exact YP.some ⟨_,r5,by rw[pe],hr5.less (by omega),put (fg_takes hg)⟩
 ·refine YP.obind (YP.of (Q:=fun o=>o = [.sl (aY ms)]) (tF ms (by rw[BBv];omega) hs.2.2.2.1) rfl) ?_
  rintro _ rfl
  refine YP.obind (jM (tG hs.2.1) (n:=2) (q:=q+80) (by omega) (hr5.less (by omega))) ?_
  rintro _ ⟨ys,r6,rfl,hr6,l1,t1⟩
  simp only[rt0,rt1,rt2,af,ag,aq,ar,au,aj,aw,az,aA,aB,aC,aD,ak,ah,am,ap,ti,tb,tS,te,tf,Int.toNat_natCast]
  exact YP.some ⟨_,r6,by rw[pe],hr6.less (by omega),put (fg_rets hg (by omega) fun x hx=>AR (t1 x hx))⟩
 ·refine YP.guard (by ((repeat' (first | refine aL ?_ ?_ | refine decide_eq_true ?_)) <;> omega)) ?_
  refine YP.obind (YP.of (Q:=fun o=>o = [.sl (aY ms)]) (tF ms (by rw[BBv];omega) hs.2.2.2.1) rfl) ?_
  rintro _ rfl
  refine YP.obind (xJ (q:=q+60) (tG hs.2.1) (hr5.less (by omega))) ?_
  rintro _ ⟨y,r6,rfl,hr6,hy⟩
  simp only[rt0,rt1,rt2,af,ag,aq,ar,au,aj,aw,az,aA,aB,aC,aD,ak,ah,am,ap,ti,tb,tS,te,tf,Int.toNat_natCast]
  have ey:T.st [y.fld 0,y.fld 1]=y:=by obtain ⟨a,fs,rfl,_⟩:=hy;rfl
  simp only[ey]
  refine YP.guard (decide_eq_true (by rw[bD];simp;omega)) (YP.guard (by ((repeat' (first | refine aL ?_ ?_ | refine decide_eq_true ?_)) <;> omega)) (YP.guard (by simp) (YP.some ⟨_,r6,rfl,hr6.less (by omega),?_⟩)))
  show AnyV (ms.set i (.st (((T.sl ms).nth i).fs.set 0 (.sl ((x.fld 0).es ++ [y])))))
  rw[hx]
  exact An ha (md_rec hmd hrl hy)
theorem Yields.guard {b:Bool} {x:Nat→R} {r:List T} (hb:b=true) (h:Yields x r):Yields (fun k=>bif b then x k else Option.none) r:=Yields.tt hb h
theorem Ar (s:ByteArray):(s.toList==s.toList)=true:=by simp
def At3R (q:Nat) (o:List T):Prop:=∃(ms:List T) (m f:Int) (r':T),o = [.sl ms,.int m,.int f,r']∧Rd q r'∧AnyV ms∧-1≤m∧m≤3∧0≤f∧f≤1001
theorem ct_at {q:Nat} {r:T} (hrd:Rd (q+8110) r):YP (fun k=>cl env k pO [r]) (At3R q):=by
 refine YP.call ?_ (fun r h=>A3 _ h)
 unfold pT
 refine YP.obind (ct_any (q:=q+10) (hrd.less (by omega))) ?_
 rintro _ ⟨ms,r1,rfl,hr1,ha⟩
 simp only[rt0,rt1,rt2,af,ag,aq,ar,au,aj,aw,az,aA,aB,aC,aD,ak,ah,am,ap,ti,tb,tS,te,tf,Int.toNat_natCast]
 have hm3:=ha.1
 have num : ∀{r:T},Rd (q+2) r→YP (fun k=>obind (cl env k dH [r,(T.sl [(T.int (0:Int)),(T.int (-1:Int)),(T.int (3:Int))])]) fun r2=>some [T.sl ms,(rt r2 0),(T.int (0:Int)),(rt (r2.drop 1) 0)]) (At3R q):=fun {r} h=>by
  refine YP.obind (vk (q:=q) (P:=fun x=>∃n:Int,x = .int n∧-1≤n∧n≤3) (h.less (by omega)) ?_ (by simp)) ?_
  ·intro x hx
   simp only[List.mem_cons,List.not_mem_nil,or_false] at hx
   rcases hx with rfl | rfl | rfl <;> exact ⟨_,rfl,by omega,by omega⟩
  ·rintro _ ⟨x,r2,rfl,hr2,n,rfl,n0,n1⟩
   exact YP.some ⟨ms,n,0,r2,rfl,hr2,ha,n0,n1,by omega,by omega⟩
 refine YP.ite (fun _=>num (hr1.less (by omega))) (fun hz=>?_)
 have hz:0 < ms.length:=by
  rcases ms with _ | ⟨a,ms⟩
  ·cases hz
  ·simp
 refine YP.obind (bA (q:=q+9) hr1) ?_
 rintro _ ⟨v,r2,rfl,hr2,_⟩
 simp only[rt0,rt1,rt2,af,ag,aq,ar,au,aj,aw,az,aA,aB,aC,aD,ak,ah,am,ap,ti,tb,tS,te,tf,Int.toNat_natCast]
 refine YP.ite (fun _=>num (hr2.less (by omega))) (fun _=>?_)
 refine YP.obind (bA (q:=q+8) hr2) ?_
 rintro _ ⟨m,r3,rfl,hr3,m0,m1,_⟩
 simp only[rt0,rt1,rt2,af,ag,aq,ar,au,aj,aw,az,aA,aB,aC,aD,ak,ah,am,ap,ti,tb,tS,te,tf,Int.toNat_natCast]
 have m1:=m1 (by omega)
 refine YP.guard (by ((repeat' (first | refine aL ?_ ?_ | refine decide_eq_true ?_)) <;> omega)) ?_
 have hfl:(((T.sl ms).nth m.toNat).fld 1).es.length≤1000:=by
  obtain ⟨_,_,_,e,_,_,h,_⟩:=any_at ha (show m.toNat < ms.length by omega)
  rw[e];exact h
 rw[show IntKind.wrap .i64 (((((T.sl ms).nth m.toNat).fld 1).es.length:Int)+1)=((((T.sl ms).nth m.toNat).fld 1).es.length:Int)+1 from bf (by omega) (by omega)]
 refine YP.obind (bA (q:=q+7) hr3) ?_
 rintro _ ⟨f,r4,rfl,hr4,f0,f1,_⟩
 simp only[rt0,rt1,rt2,af,ag,aq,ar,au,aj,aw,az,aA,aB,aC,aD,ak,ah,am,ap,ti,tb,tS,te,tf,Int.toNat_natCast]
 have f1:=f1 (by omega)
 exact YP.some ⟨ms,m,f,r4,rfl,hr4.less (by omega),ha,by omega,by omega,f0,by omega⟩
theorem copy_fn {g:T} (h:j5 BB g):Yields (fun k=>cl env k oD [g]) [g]:=by
 cases h with
 | mk h1 h2 h3 h4 h5=>
  rw[BBv] at h1 h2 h3 h4 h5
  refine yq _ ?_
  unfold oL
  simp only[rt0,rt1,rt2,af,ag,aq,ar,au,aj,aw,az,aA,aB,aC,aD,ak,ah,am,ap,ti,tb,tS,te,tf,Int.toNat_natCast]
  simp only[List.nil_append]
  refine Yields.guard (decide_eq_true ?_) (Yields.guard (decide_eq_true ?_) (Yields.guard (decide_eq_true ?_) (Yields.guard (decide_eq_true ?_) (Yields.guard (decide_eq_true ?_) (Yields.some _))))) <;> (rw[bD];simp;omega)
theorem BO {ms:List T} (ha:AnyV ms) (m f:Int) : ∃(g:T) (b:Bool),j5 BB g∧Yields (fun k=>cl env k lr [.sl ms,.int m,.int f]) [g,.bool b]∧Yields (fun k=>cl env k it [.sl ms,.int m,.int f]) [g,.bool b]∧
  (b=true→∃i j:Nat,m=i∧f=j∧i < ms.length∧j < (((T.sl ms).nth i).fld 1).es.length∧(((T.sl ms).nth i).fld 1).nth j=g)∧Yields (fun k=>cl env k eb [.sl ms,.int m,.int f]) [.bool b]:=by
 have hm3:=ha.1
 rcases has_same ms (by rw[BBv];omega) (fun x hx=>mdg_is (ha.2 x hx)) m f with ⟨h1,h2⟩ | ⟨i,j,g,rfl,rfl,hi,hj,hg,hf,h1,h2⟩
 ·refine ⟨zeroF,false,.mk (by simp) (by simp) (by simp) (by simp) (by simp) (by simp) (by simp) (by simp) bu (by simp),qh _ _ _ (Yields.obind h1 (Yields.tt rfl (Yields.some _))),h2,fun h=>Bool.noConfusion h,h1⟩
 ·refine ⟨g,true,hf,?_,h2,fun _=>⟨i,j,rfl,rfl,hi,hj,hg⟩,h1⟩
  refine qh _ _ _ ?_
  unfold lA
  refine Yields.obind h1 (Yields.ff rfl ?_)
  simp only[rt0,rt1,rt2,af,ag,aq,ar,au,aj,aw,az,aA,aB,aC,aD,ak,ah,am,ap,ti,tb,tS,te,tf,Int.toNat_natCast]
  refine Yields.guard (by ((repeat' (first | refine aL ?_ ?_ | refine decide_eq_true ?_)) <;> omega)) (Yields.guard (by ((repeat' (first | refine aL ?_ ?_ | refine decide_eq_true ?_)) <;> omega)) ?_)
  simp only[hg]
  refine Yields.obind (copy_fn hf) ?_
  simp only[rt0,rt1,rt2,af,ag,aq,ar,au,aj,aw,az,aA,aB,aC,aD,ak,ah,am,ap,ti,tb,tS,te,tf,Int.toNat_natCast]
  simp only[vN hf]
  exact Yields.some _
theorem YP.yields {x:Nat→R} {r:List T} (h:YP x (fun o=>o=r)):Yields x r:=by
 obtain ⟨_,h,rfl⟩:=h;exact h
def IsCode (bs:List T):Prop:=∀x∈bs,∃v:Int,x = .int v∧0≤v∧v≤255
theorem Bn {g:T} (h:j5 BB g) (n:Int) : ∃(s:ByteArray) (b:Bool),Yields (fun k=>cl env k lq [g,.int n]) [.str s,.bool b]∧Yields (fun k=>cl env k fK [g,.int n]) [.str s,.bool b]∧
  (b=false→n < 0∨n≥((g.fld 1).es.length:Int)+((g.fld 3).es.length:Int))∧(b=true→0≤n∧n < ((g.fld 1).es.length:Int)+((g.fld 3).es.length:Int)∧(T.sl ((g.fld 1).es++(g.fld 3).es)).nth n.toNat = .str s):=by
 cases h with
 | @mk nn ags rs ls tk cd h1 h2 h3 h4 h5 s1 s2 s3=>
  rw[BBv] at h1 h3
  have e0:IntKind.wrap .i64 ((ags.length:Int)+(ls.length:Int))=(ags.length:Int)+ls.length:=bf (by omega) (by omega)
  have e1:IntKind.wrap .i64 ((ags.length:Int)+(ls.length:Int) - 1)=(ags.length:Int)+ls.length - 1:=bf (by omega) (by omega)
  have si:=in_s n 0 ((ags.length:Int)+ls.length - 1)
  have sp : ∀{s:ByteArray},(decide (n≥0)&&decide (n≤(ags.length:Int)+ls.length - 1))=true→Yields (fun k=>cl env k hJ [.st [.int nn,.sl ags,.sl rs,.sl ls,.sl tk,.sl cd],.int n]) [.str s]→Yields (fun k=>cl env k fK [.st [.int nn,.sl ags,.sl rs,.sl ls,.sl tk,.sl cd],.int n]) [.str s,.bool true]:=fun hd h=>by
   rw[hd] at si
   refine qg _ _ ?_
   unfold iC
   simp only[rt0,rt1,rt2,af,ag,aq,ar,au,aj,aw,az,aA,aB,aC,aD,ak,ah,am,ap,ti,tb,tS,te,tf,Int.toNat_natCast]
   simp only[e0,e1]
   exact Yields.obind si (Yields.ff rfl (Yields.obind h (Yields.some _)))
  have sn:(decide (n≥0)&&decide (n≤(ags.length:Int)+ls.length - 1))=false→Yields (fun k=>cl env k fK [.st [.int nn,.sl ags,.sl rs,.sl ls,.sl tk,.sl cd],.int n]) [.str ⟨#[]⟩,.bool false]:=fun hd=>by
   rw[hd] at si
   refine qg _ _ ?_
   unfold iC
   simp only[rt0,rt1,rt2,af,ag,aq,ar,au,aj,aw,az,aA,aB,aC,aD,ak,ah,am,ap,ti,tb,tS,te,tf,Int.toNat_natCast]
   simp only[e0,e1]
   exact Yields.obind si (Yields.tt rfl (Yields.some _))
  by_cases c1:n < 0
  ·refine ⟨_,false,j4 _ _ (Yields.tt (decide_eq_true c1) (Yields.some _)),sn ?_,fun _=>Or.inl c1,fun h=>Bool.noConfusion h⟩
   rw[decide_eq_false (show ¬n≥0 by omega)];rfl
  by_cases c2:n≥(ags.length:Int)+ls.length
  ·refine ⟨_,false,j4 _ _ ?_,sn ?_,fun _=>Or.inr c2,fun h=>Bool.noConfusion h⟩
   ·unfold fN
    simp only[rt0,rt1,rt2,af,ag,aq,ar,au,aj,aw,az,aA,aB,aC,aD,ak,ah,am,ap,ti,tb,tS,te,tf,Int.toNat_natCast]
    simp only[e0]
    exact Yields.ff (decide_eq_false c1) (Yields.tt (decide_eq_true c2) (Yields.some _))
   ·rw[decide_eq_false (show ¬n≤(ags.length:Int)+ls.length - 1 by omega),Bool.and_false]
  have hin:(decide (n≥0)&&decide (n≤(ags.length:Int)+ls.length - 1))=true:=by ((repeat' (first | refine aL ?_ ?_ | refine decide_eq_true ?_)) <;> omega)
  by_cases c3:n < (ags.length:Int)
  ·have hlt:n.toNat < ags.length:=by omega
   obtain ⟨s,hs,_⟩:=s1 _ (List.getElem_mem hlt)
   have en:(T.sl ags).nth n.toNat = .str s:=by rw[bh hlt,hs]
   refine ⟨s,true,j4 _ _ ?_,sp hin (o3 _ _ ?_),fun h=>Bool.noConfusion h,fun _=>⟨by omega,by show n < (ags.length:Int)+ls.length;omega,?_⟩⟩
   ·unfold fN
    simp only[rt0,rt1,rt2,af,ag,aq,ar,au,aj,aw,az,aA,aB,aC,aD,ak,ah,am,ap,ti,tb,tS,te,tf,Int.toNat_natCast]
    simp only[e0,en]
    exact Yields.ff (decide_eq_false c1) (Yields.ff (decide_eq_false c2) (Yields.tt (decide_eq_true c3) (Yields.guard (by ((repeat' (first | refine aL ?_ ?_ | refine decide_eq_true ?_)) <;> omega)) (Yields.some _))))
   ·unfold hZ
    simp only[rt0,rt1,rt2,af,ag,aq,ar,au,aj,aw,az,aA,aB,aC,aD,ak,ah,am,ap,ti,tb,tS,te,tf,Int.toNat_natCast]
    simp only[en]
    exact Yields.tt (decide_eq_true c3) (Yields.guard (by ((repeat' (first | refine aL ?_ ?_ | refine decide_eq_true ?_)) <;> omega)) (Yields.some _))
   ·show (T.sl (ags++ls)).nth n.toNat=_
    rw[nS hlt];exact en
  ·have hlt:(n - ags.length).toNat < ls.length:=by omega
   obtain ⟨s,hs,_⟩:=s3 _ (List.getElem_mem hlt)
   have en:(T.sl ls).nth (n - ags.length).toNat = .str s:=by rw[bh hlt,hs]
   have e2:IntKind.wrap .i64 (n - (ags.length:Int))=n - ags.length:=bf (by omega) (by omega)
   refine ⟨s,true,j4 _ _ ?_,sp hin (o3 _ _ ?_),fun h=>Bool.noConfusion h,fun _=>⟨by omega,by show n < (ags.length:Int)+ls.length;omega,?_⟩⟩
   ·unfold fN
    simp only[rt0,rt1,rt2,af,ag,aq,ar,au,aj,aw,az,aA,aB,aC,aD,ak,ah,am,ap,ti,tb,tS,te,tf,Int.toNat_natCast]
    simp only[e0,e2,en]
    exact Yields.ff (decide_eq_false c1) (Yields.ff (decide_eq_false c2) (Yields.ff (decide_eq_false c3) (Yields.guard (by ((repeat' (first | refine aL ?_ ?_ | refine decide_eq_true ?_)) <;> omega)) (Yields.some _))))
   ·unfold hZ
    simp only[rt0,rt1,rt2,af,ag,aq,ar,au,aj,aw,az,aA,aB,aC,aD,ak,ah,am,ap,ti,tb,tS,te,tf,Int.toNat_natCast]
    simp only[e2,en]
    exact Yields.ff (decide_eq_false c3) (Yields.guard (by ((repeat' (first | refine aL ?_ ?_ | refine decide_eq_true ?_)) <;> omega)) (Yields.some _))
   ·show (T.sl (ags++ls)).nth n.toNat=_
    rw[bh (by rw[List.length_append];omega),List.getElem_append_right (by omega)]
    rw[← hs]
    congr 1;omega
theorem B4 {bs:List T} (hv:IsCode bs):YP (fun k=>cl env k iv [.sl bs]) (fun o=>∃g n,o = [g,.int n]∧j5 BB g):=by
 refine YP.call ?_ (fun r h=>sb _ h)
 unfold iB
 refine YP.obind (ct_open hv) ?_
 rintro _ ⟨r,rfl,hr⟩
 refine YP.obind (ct_at (q:=1) (hr.less (by omega))) ?_
 rintro _ ⟨ms,m,f,r1,rfl,hr1,ha,_⟩
 obtain ⟨g,b,hf,h1,_⟩:=BO ha m f
 refine YP.obind (YP.of (Q:=fun o=>o=_) h1 rfl) ?_
 rintro _ rfl
 refine YP.obind (bA (q:=0) hr1) ?_
 rintro _ ⟨w,r2,rfl,_⟩
 simp only[rt0,rt1,rt2,af,ag,aq,ar,au,aj,aw,az,aA,aB,aC,aD,ak,ah,am,ap,ti,tb,tS,te,tf,Int.toNat_natCast]
 simp only[vN hf]
 exact YP.some ⟨g,_,rfl,hf⟩
theorem yi {bs:List T} (hv:IsCode bs):Yields (fun k=>cl env k jE [.sl bs]) [.bool true]:=by
 refine YP.yields (YP.call ?_ (fun r h=>to _ h))
 unfold jH
 refine YP.ite (fun _=>YP.some rfl) (fun _=>?_)
 refine YP.obind (B4 hv) ?_
 rintro _ ⟨g,n,rfl,hg⟩
 simp only[rt0,rt1,rt2,af,ag,aq,ar,au,aj,aw,az,aA,aB,aC,aD,ak,ah,am,ap,ti,tb,tS,te,tf,Int.toNat_natCast]
 simp only[vN hg]
 obtain ⟨s,b,h1,h2,h3,h4⟩:=Bn hg n
 refine YP.obind (YP.of (Q:=fun o=>o=_) h1 rfl) ?_
 rintro _ rfl
 refine YP.obind (YP.of (Q:=fun o=>o=_) h2 rfl) ?_
 rintro _ rfl
 simp only[rt0,rt1,rt2,af,ag,aq,ar,au,aj,aw,az,aA,aB,aC,aD,ak,ah,am,ap,ti,tb,tS,te,tf,Int.toNat_natCast]
 simp only[Ar,List.nil_append]
 have hl1:(g.fld 1).es.length≤1048576:=by cases hg with | mk h=>exact h
 have hl3:(g.fld 3).es.length≤1048576:=by cases hg with | mk _ _ h=>exact h
 refine YP.ff rfl (YP.ff (by simp) ?_)
 refine YP.ite (fun hc=>?_) (fun hc=>?_)
 ·have hb:b=false:=by cases b with | false=>rfl | true=>cases hc
  refine YP.ite (fun _=>YP.some rfl) (fun hn=>YP.some ?_)
  have hn:=of_decide_eq_false hn
  have:=h3 hb
  refine congrArg (fun b=>[T.bool b]) (decide_eq_true ?_)
  show n≥IntKind.wrap .i64 (((g.fld 1).es.length:Int)+((g.fld 3).es.length:Int))
  rw[bf (by omega) (by omega)];omega
 ·have hb:b=true:=by cases b with | true=>rfl | false=>cases hc
  obtain ⟨k1,k2,k3⟩:=h4 hb
  refine YP.guard (decide_eq_true (by rw[bD];simp;omega)) (YP.guard (decide_eq_true (by rw[bD];omega)) (YP.guard (aL (decide_eq_true k1) (decide_eq_true (by rw[List.length_append];omega))) (YP.some ?_)))
  rw[k3]
  simp only[rt0,rt1,rt2,af,ag,aq,ar,au,aj,aw,az,aA,aB,aC,aD,ak,ah,am,ap,ti,tb,tS,te,tf,Int.toNat_natCast]
  rw[Ar]
end Go.Proofs.Ytgmhmcnogmojaaa.Ra
