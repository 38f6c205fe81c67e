/- A verified evaluator for the program, part Ra2 of this claim. -/
import Derived.Test.YtdcnobhlknjnoaaGreatDoorTRa1
import Derived.Deep.Upon
set_option linter.unusedSimpArgs false
set_option linter.unusedVariables false
namespace Go.Proofs.YtdcnobhlknjnoaaGreatDoor.Ra
open Go Go.RowKit
mutual
theorem le_refl : ∀(o:O),o.live=true→O.le o o=true
 | .fz,_=>rfl
 | .fo,_=>rfl
 | .dp,_=>rfl
 | .dead,h=>by simp[O.live] at h
 | .sl o,h=>by simp only[O.le,O.own,cond_true,O.elem];exact le_refl o (by simpa[O.live] using h)
 | .st os,h=>by simp only[O.le];exact zo os (by simpa[O.live] using h)
theorem zo : ∀(os:List O),O.lives os=true→O.les os os=true
 | [],_=>rfl
 | o :: os,h=>by
  simp only[O.lives,Bool.and_eq_true] at h;simp only[O.les,Bool.and_eq_true];exact ⟨le_refl o h.1,zo os h.2⟩
end
theorem AK {a b:O} (ha:a.live=true) (hb:b.live=true):O.le (O.meet a b) a=true∧O.le (O.meet a b) b=true:=by
 unfold O.meet;cases h1:O.le a b with
 | true=>exact ⟨le_refl a ha,h1⟩
 | false=>
  cases h2:O.le b a with
  | true=>exact ⟨h2,le_refl b hb⟩
  | false=>exact ⟨by simpa[O.le] using ha,by simpa[O.le] using hb⟩
theorem meets_le {os:List O} (h : ∀o∈os,o.live=true) : ∀o∈os,O.le (w7 os) o=true:=by
 intro o ho;unfold w7;cases ha:os.all (O.le (w8 os)) with
 | true=>exact List.all_eq_true.1 ha o ho
 | false=>simpa[O.le] using h o ho
mutual
theorem gG {E:Env} {look:Nat→Option Rt} : ∀{av:AV} {ty:Nat} {c:mo},take E look ty av=some c→c.o.live=true
 | .sref ty' r p,ty,c,h=>by
  simp only[take] at h;cases hlr:look r with
  | none=>simp[hlr] at h
  | some R=>
   simp only[hlr] at h;generalize hc:(Nat.beq ty' ty&&(((R.o.get p).own||(R.o.get p).isFo)&&(R.o.get p).live&&dq p))=bb at h
   cases bb with
   | false=>simp at h
   | true=>
    simp only[Bool.and_eq_true] at hc;simp only[cond_true,Option.some.injEq] at h;subst h;exact hc.2.1.2
 | .sub ty' r p lo hi,ty,c,h=>by
  simp only[take] at h;cases hlr:look r with
  | none=>simp[hlr] at h
  | some R=>
   simp only[hlr] at h;generalize hc:(Nat.beq ty' ty&&(((R.o.get p).own||(R.o.get p).isFo)&&(R.o.get p).live&&dq p))=bb at h
   cases bb with
   | false=>simp at h
   | true=>
    simp only[Bool.and_eq_true] at hc;simp only[cond_true,Option.some.injEq] at h;subst h;exact hc.2.1.2
 | .nil ty',ty,c,h=>by
  simp only[take] at h;cases hb:Nat.beq ty' ty <;> simp[hb] at h
  subst h;rfl
 | .val ty' t',ty,c,h=>by
  simp only[take] at h;cases hb:Nat.beq ty' ty <;> simp[hb] at h
  subst h;cases E.flat ty <;> rfl
 | .cst cv,ty,c,h=>by
  simp only[take] at h;split at h
  ·cases h;rfl
  ·cases h
 | .agg ty' l,ty,c,h=>by
  simp only[take] at h;split at h
  ·cases hb:Nat.beq ty' ty with
   | false=>simp[hb] at h
   | true=>
    simp only[hb,cond_true] at h;split at h
    ·rename_i ts os mv htl
     cases h;exact wl htl
    ·cases h
  ·cases h
 | .undef,ty,c,h=>by simp[take] at h
 | .fnc _,ty,c,h=>by simp[take] at h
 | .gd _ _,ty,c,h=>by simp[take] at h
 | .pref _ _ _,ty,c,h=>by simp[take] at h
 | .fptr _ _,ty,c,h=>by simp[take] at h
 | .ln _ _,ty,c,h=>by simp[take] at h
 | .pv _ _,ty,c,h=>by simp[take] at h
 | .tup _,ty,c,h=>by simp[take] at h
theorem wl {E:Env} {look:Nat→Option Rt} : ∀{l:List AV} {fs:List Nat} {ts:List T} {os:List O} {mv:List (Nat × List aH)},lm E look fs l=some (ts,os,mv)→O.lives os=true
 | [],fs,ts,os,mv,h=>by
  cases fs with
  | nil=>simp only[lm,Option.some.injEq,Prod.mk.injEq] at h;obtain ⟨rfl,rfl,rfl⟩:=h;rfl
  | cons f fs=>simp[lm] at h
 | a :: l,fs,ts,os,mv,h=>by
  cases fs with
  | nil=>simp[lm] at h
  | cons f fs=>
   simp only[lm] at h;split at h
   ·rename_i x ts' os' mv' h1 h2
    cases h;simp only[O.lives,Bool.and_eq_true];exact ⟨gG h1,wl h2⟩
   ·cases h
end
def l0 (pd:List aH):Nat→List AV→List Ent
 | _,[]=>[]
 | j,a :: l=>dk (pd ++ [.idx j]) a++l0 pd (j+1) l
section
variable {P:Program} {E:Env} {n:Nat} {st:St} {a:Act} {w:World} {g:Gh} {hold:Nat→aE} {look rt:Nat→Option Rt} {o:Oper} {b:Bool}
theorem zU (hE:bl E) (hl : ∀r R,look r=some R→rt r=some R) (hr : ∀r R,rt r=some R→dF E w g hold r R) {e:Nat} :
  ∀{l:List AV} {ts:List T} {os:List O} {mv:List (Nat × List aH)},takes E look e l=some (ts,os,mv)→∀{vs:List Value},l.length=vs.length→
  (∀(j:Nat) (a:AV) (v:Value),l[j]?=some a→vs[j]?=some v→aO E w g rt hold a v)→
  ts.length=l.length∧os.length=l.length∧(∀pd j0,srcs (l0 pd j0 l)=mv)∧(∀x∈mv,eH E w g rt look hold x)∧(∀o∈os,o.live=true)∧
  ∀(j:Nat) (t:T) (o:O) (v:Value),ts[j]?=some t→os[j]?=some o→vs[j]?=some v→∀(d:Nat) (pd:List aH) (j0:Nat) (g':Gh),(∀b,g b = .frz→g' b = .frz)→
   Tks (l0 pd j0 l) d g g'→Rep E w g' e t o d (pd ++ [.idx (j0+j)]) (.reg v.cells.toList 0)
 | [],ts,os,mv,h,vs,hlen,hv=>by
  simp only[takes,Option.some.injEq,Prod.mk.injEq] at h;obtain ⟨rfl,rfl,rfl⟩:=h;exact ⟨rfl,rfl,fun _ _=>rfl,fun x hx=>by simp at hx,fun o ho=>by simp at ho,fun j t o v hf=>by simp at hf⟩
 | a :: l,ts,os,mv,h,vs,hlen,hv=>by
  cases vs with
  | nil=>simp at hlen
  | cons v0 vs=>
   simp only[takes] at h;split at h
   ·rename_i x ts' os' mv' h1 h2
    cases h;obtain ⟨a1,a2,a3,a4⟩:=jh hE hl hr h1 (hv 0 a v0 rfl rfl);obtain ⟨i1,i2,i3,i4,i5,i6⟩:=zU hE hl hr h2 (vs:=vs) (by simpa using hlen) (fun j a v b1 b2=>hv (j+1) a v (by simpa using b1) (by simpa using b2))
    refine ⟨by simp[i1],by simp[i2],fun pd j0=>by rw[l0,srcs,List.map_append];exact congr (congrArg _ (a2 _)) (i3 pd (j0+1)),fun y hy=>?_,fun o ho=>?_,?_⟩
    ·rcases List.mem_append.1 hy with hy | hy
     ·exact a3 y hy
     ·exact i4 y hy
    ·rcases List.mem_cons.1 ho with rfl | ho
     ·exact gG h1
     ·exact i5 o ho
    ·intro j t' o' v ht ho hvj d pd j0 g' hfz htk;rw[l0] at htk;cases j with
     | zero=>
      simp at ht ho hvj;subst ht;subst ho;subst hvj;exact a4 d (pd ++ [.idx j0]) g' hfz htk.left
     | succ j=>
      have:=i6 j t' o' v (by simpa using ht) (by simpa using ho) (by simpa using hvj) d pd (j0+1) g' hfz htk.right
      rw[show j0+1+j=j0+(j+1) by omega] at this
      exact this
   ·cases h
theorem ST {a:O} {ty:Nat} {o:O} (h:O.le a o=true):leT E a ty o=true:=by unfold leT;rw[h];rfl
theorem meetT_le {a c:O} {e:Nat} (ha:a.live=true) (hc:c.live=true):leT E (bif leT E a e c then a else O.meet a c) e a=true∧leT E (bif leT E a e c then a else O.meet a c) e c=true:=by
 cases h:leT E a e c with
 | true=>exact ⟨ST (le_refl a ha),h⟩
 | false=>exact ⟨ST (AK ha hc).1,ST (AK ha hc).2⟩
theorem zO (hE:bl E) {ty e:Nat} (he:E.ty ty = .sl e) {w':World} {g₁:Gh} {d B x cap:Nat} {ts:List T} {o:O} (hB:g₁ B = .at d []) (hcap:ts.length≤cap)
  (hblk:ch w' B (x+cap * E.sz e)) (hrep : ∀(j:Nat) (t:T),ts[j]?=some t→∃o',leT E o e o'=true∧Rep E w' g₁ e t o' d [.idx j] (.mem B (x+j * E.sz e))) :
  Rep E w' (wk (.sl o) d g₁) ty (.sl ts) (.sl o) d [] (.reg [.slice (some ⟨B,x,none⟩) ts.length cap] 0):=by
 have hw:=xi (.sl o) d g₁;refine .own (a:=⟨B,x,none⟩) he rfl rfl rfl hcap ?_ hblk fun j t hj=>?_
 ·have:=hw.2 B [] (by simpa using hB)
  simpa[O.get,O.isFz] using this
 ·obtain ⟨o',h1,h2⟩:=hrep j t hj;exact h2.moveT hE h1 (hw.step (.idx j) fun q=>rfl)
theorem tH (x:Nat) : ∀(n:Nat),(List.replicate n x).sum=n * x
 | 0=>by simp
 | n+1=>by rw[List.replicate_succ,List.sum_cons,tH x n,Nat.succ_mul];omega
theorem jb {e:Nat} : ∀(n j:Nat),j≤n→off E (List.replicate n e) j=j * E.sz e:=by
 intro n j hj;unfold off;rw[List.take_replicate,Nat.min_eq_left hj,List.map_replicate,tH]
theorem vL {z:Value} (n:Nat):(dJ (List.replicate n z)).length=n * z.cells.size:=by
 induction n with
 | zero=>simp[dJ]
 | succ n ih=>simp only[dJ,List.replicate_succ,List.flatMap_cons,List.length_append] at *;rw[ih];simp[Nat.succ_mul];omega
theorem xP {z:Value} (hE:bl E) {e:Nat} (hz:bd E e z) (n:Nat):madeCells z.cells (n * E.sz e)=(dJ (List.replicate n z)).toArray:=by
 have hs:=hz.1;apply Array.ext
 ·rw[size_madeCells,List.size_toArray,vL,hs]
 ·intro m h1 h2;apply Option.some.inj
  rw[← Array.getElem?_eq_getElem,← Array.getElem?_eq_getElem];rw[size_madeCells] at h1;have hpos:0 < E.sz e:=by
   rcases Nat.eq_zero_or_pos (E.sz e) with h | h
   ·rw[h] at h1;omega
   ·exact h
  have hdiv:m / E.sz e < n:=by rw[Nat.div_lt_iff_lt_mul hpos];exact h1
  have hmod:m % E.sz e < E.sz e:=Nat.mod_lt _ hpos
  have hm:m=m / E.sz e * E.sz e+m % E.sz e:=by rw[Nat.mul_comm];exact (Nat.div_add_mod m (E.sz e)).symm
  rw[hm,zt hs.symm hdiv hmod];have hf:=nN (E:=E) (vs:=List.replicate n z) (fs:=List.replicate n e) (by simp) (fun j f v h1 h2=>by
   simp only[List.getElem?_replicate] at h1 h2;split at h1
   ·rename_i hj;rw[if_pos hj] at h2;cases h1;cases h2;exact hz
   ·cases h1) (j:=m / E.sz e) (f:=e) (v:=z) (by simp[hdiv]) (by simp[hdiv]) hmod
  rw[jb _ _ (by omega)] at hf
  rw[show (dJ (List.replicate n z)).toArray[m / E.sz e * E.sz e+m % E.sz e]?=(dJ (List.replicate n z))[m / E.sz e * E.sz e+m % E.sz e]? from List.getElem?_toArray ..,hf];simp
theorem yb (hP:ba P E) (h:Inv E n st a w g hold) (hl : ∀r R,look r=some R→st.rt r=some R) (hd : ∀x,o.dst=some x→x < n) {fi:Fi} {t d len:Nat} {ps:Array (Nat × Operand)} {e:Eff}
  (hop:o.op = .buildSlice t len ps) {ρ:Operand→AV} (hρ : ∀x,aO E w g st.rt hold (ρ x) (a.eval x))
  (hd9:d < 100000) (hnr:mem d fi.row=false) (he:kQ fi E look d t len (parts ρ ps).1 (parts ρ ps).2=some e):eG P E n st a w g hold o e:=by
 unfold kQ at he;split at he
 ·cases he
 rename_i et hs0
 have hs:E.ty t = .sl et:=by unfold isSl at hs0;split at hs0 <;> simp_all
 generalize hc:(decide (len * E.sz et≤1000000)&&(E.zok et&&(cg ((parts ρ ps).2.map (·.1))&&(parts ρ ps).2.all fun x=>decide (x.1 < len)&&kf E et x.2)))=c at he
 cases c with
 | false=>simp at he
 | true=>
  simp only[cond_true] at he;simp only[Bool.and_eq_true,decide_eq_true_eq] at hc;obtain ⟨c0,c1,c2,c3⟩:=hc;rw[hnr,cond_false] at he;split at he
  rotate_left
  ·cases he
  rename_i ts os mv htk
  cases hm:bP mv with
  | false=>simp[hm] at he
  | true=>
   simp only[hm,cond_true] at he;refine eG.mk (v:=.slice (some ⟨w.heap.size,0,none⟩) len len) (fun hb=>?_) (mb he)
   obtain ⟨hok,i,z,hi,hiz,hsh,hzc⟩:=hP.zero et c1;obtain ⟨hu,_⟩:=hP.sl t et hs;obtain ⟨i',hi',hsz,_⟩:=hP.info et hok;rw[hi] at hi';cases hi';have hpo:=uF hρ hb;let vps:List (Nat × Value):=ps.toList.map fun x=>(x.1,a.eval x.2)
   have hfst:vps.map (·.1)=(parts ρ ps).2.map (·.1):=by simp[vps,parts,Function.comp_def]
   have hpart : ∀x∈vps,∃f,(List.replicate len et)[x.1]?=some f∧bd E f x.2:=by
    intro x hx;obtain ⟨y,hy,rfl⟩:=List.mem_map.1 hx;have hy':(y.1,(bK (ρ y.2)).2)∈(parts ρ ps).2:=List.mem_map.2 ⟨y,hy,rfl⟩
    have:=List.all_eq_true.1 c3 _ hy'
    simp only[Bool.and_eq_true,decide_eq_true_eq] at this;have hq:=List.all_eq_true.1 hb y hy;exact ⟨et,by simp[this.1],qJ hP this.2 (fV (hρ y.2) hq) hok⟩
   have hzs : ∀(j f:Nat) (v:Value),(List.replicate len et)[j]?=some f→(List.replicate len z)[j]?=some v→bd E f v:=by
    intro j f v h1 h2;simp only[List.getElem?_replicate] at h1 h2;split at h1
    ·rename_i hj;rw[if_pos hj] at h2;cases h1;cases h2;exact hsh
    ·cases h1
   have hf:=wQ (E:=E) (fs:=List.replicate len et) (place:=fun i=>some (i * E.sz et,E.sz et)) (fun j f hf=>by
    simp only[List.getElem?_replicate] at hf;split at hf
    ·rename_i hj;cases hf;rw[jb _ _ (by omega)]
    ·cases hf) vps (List.replicate len z) (by simp) hzs hpart
   let vs:=vps.foldl (fun vs x=>vs.set x.1 x.2) (List.replicate len z)
   have hvl:vs.length=len:=by have:=hf.2.1;simpa[vs] using this
   let cells:Array Value:=(dJ vs).toArray
   have hrun:(Instr.buildSlice t len (ps.map fun (i,x)=>(i,a.eval x))).run P w = .ok (.slice (some ⟨w.heap.size,0,none⟩) len len) (w.alloc (.cells cells et)):=by
    have h24 : ¬(16777216 < len * E.sz et):=by omega
    have hfill:=hf.1;rw[← xP hP.wf hsh] at hfill;have hparts':(ps.map fun (i,x)=>(i,a.eval x)).toList=vps:=by simp[vps]
    by_cases hz0:len * E.sz et=0
    ·rw[hz0] at hfill;have hm0:madeCells z.cells 0 = #[]:=by simp[madeCells]
     rw[hm0] at hfill;simp only[vps] at hfill;simp[Instr.buildSlice,run_underlying hu,sizeOf,typeInfo,hi,hsz,h24,hz0,newRow]
     rw[show (Array.map (fun x=>(default:Value)) (Array.range 0)) = #[] by simp[Array.range_zero'],hfill]
     simp[cells,vs,vps]
    ·simp[Instr.buildSlice,run_underlying hu,sizeOf,typeInfo,hi,hsz,h24,hz0,newRow,zeroValue,hiz]
     simp[vps,madeCells] at hfill
     simp[hfill,cells,vs,vps]
   refine ⟨_,by simp only[execOp,hop];exact rY _ _ hrun,?_⟩
   have hvs : ∀(j:Nat) (av:AV) (v:Value),(((List.range len).map fun j=>(gI (parts ρ ps).2 j).getD (zav E 8 et)))[j]?=some av→vs[j]?=some v→aO E w g st.rt hold av v:=by
    intro j av v hav hv;have hjl:j < len:=by have:=(List.getElem?_eq_some_iff.1 hav).1;simp at this;omega
    rw[List.getElem?_map,List.getElem?_range hjl] at hav;simp only[Option.map_some,Option.some.injEq] at hav;rw[show vs[j]?=_ from oY vps (List.replicate len z) j (by rw[hfst];exact c2) (by simpa using hjl)] at hv
    have hpj:=hpo j;unfold gI at hav;cases h1:aJ (parts ρ ps).2 j with
    | some y=>
     rw[h1] at hav hpj;cases h2:aJ vps j with
     | some v'=>
      rw[h2] at hv;simp only[Option.getD_some] at hav;subst hav;simp only[Option.some.injEq] at hv;subst hv;rw[show aJ (ps.toList.map fun x=>(x.1,a.eval x.2)) j=some v' from h2] at hpj
      exact hpj
     | none=>rw[show aJ (ps.toList.map fun x=>(x.1,a.eval x.2)) j=none from h2] at hpj;exact hpj.elim
    | none=>
     rw[h1] at hav hpj;cases h2:aJ vps j with
     | some v'=>rw[show aJ (ps.toList.map fun x=>(x.1,a.eval x.2)) j=some v' from h2] at hpj;exact hpj.elim
     | none=>
      rw[h2] at hv;simp only[Option.getD_none] at hav;subst hav;simp[hjl] at hv;subst hv;exact A4 hP 8 hsh hzc
   obtain ⟨i1,i2,i3,i4,i5,i6⟩:=zU hP.wf hl h.rts htk (vs:=vs) (by simp[hvl]) hvs
   let L:List AV:=(List.range len).map fun j=>(gI (parts ρ ps).2 j).getD (zav E 8 et)
   have hen0:srcs (l0 [] 0 L)=mv:=i3 [] 0
   have hsrc' : ∀x∈srcs (l0 [] 0 L),eH E w g st.rt look hold x:=by rw[hen0];exact i4
   have hm':bP (srcs (l0 [] 0 L))=true:=by rw[hen0];exact hm
   have hgr:=Gr.alloc w cells et;have hlts:ts.length=len:=by simpa using i1
   have hcells : ∀j,j < len→∀v,vs[j]?=some v→∀k,k < E.sz et→cells[j * E.sz et+k]?=v.cells.toList[k]?:=by
    intro j hj v hv k hk;have:=nN (E:=E) (vs:=vs) (fs:=List.replicate len et) (by simp[hvl]) hf.2.2 (j:=j) (f:=et) (v:=v) (by simp[hj]) hv hk
    rw[jb _ _ (by omega)] at this
    rw[← this,List.getElem?_toArray]
   have hcsz:cells.size=len * E.sz et:=by
    have:=gJ (E:=E) (vs:=vs) (fs:=List.replicate len et) (by simp[hvl]) hf.2.2
    rw[List.map_replicate,tH] at this;simpa[cells,dJ] using this
   have hrow:=zO (E:=E) hP.wf (ty:=t) hs (w':=w.alloc (.cells cells et)) (g₁:=fg (l0 [] 0 L) d g w (.at d [])) (d:=d) (B:=w.heap.size) (x:=0) (cap:=len) (ts:=ts) (o:=w7 os)
    sQ (by omega) (hgr.blk (by rw[hcsz];omega)) (fun j t' hj=>by
     have hjl:j < len:=by have:=(List.getElem?_eq_some_iff.1 hj).1;omega
     obtain ⟨oj,hoj⟩ : ∃oj,os[j]?=some oj:=⟨os[j]'(by rw[i2];simpa using hjl),List.getElem?_eq_getElem _⟩
     obtain ⟨v,hv⟩ : ∃v,vs[j]?=some v:=⟨vs[j]'(by omega),List.getElem?_eq_getElem _⟩
     refine ⟨oj,ST (meets_le i5 oj (List.mem_of_getElem? hoj)),?_⟩;have:=i6 j t' oj v hj hoj hv d [] 0 (go (l0 [] 0 L) d g) (fun b hb=>ez hb) (jT hm')
     rw[Nat.zero_add] at this;refine this.fresh hP.wf h.bnd hgr fun k hk=>?_
     simp only[aE.add,rd,Nat.zero_add];rw[hgr.cell,hcells j hjl v hv k hk])
   rw[hlts] at hrow;refine pX (look:=look) (es:=l0 [] 0 L) hP.wf h hl hm' hsrc' (by rw[hen0];exact he) hd hd9 hgr (g₁:=wk (.sl (w7 os)) d (fg (l0 [] 0 L) d g w (.at d [])))
    (fun b hb hnd=>?_) (fun b hb=>ri (CB hb)) hrow (.inl ⟨rfl,rfl,_,_,_,et,rfl,hs⟩)
   rw[fW (by rw[oc hb];exact hnd),oc hb]
end
def shm (lo m:Nat):List aH→List aH
 | .idx k :: q=>.idx (m+(k - lo)) :: q
 | q=>q
section
variable {P:Program} {E:Env} {n:Nat} {st:St} {a:Act} {w:World} {g:Gh} {hold:Nat→aE} {look rt:Nat→Option Rt} {o:Oper} {b:Bool}
def SlC (E:Env) (w:World) (g:Gh) (e:Nat) (v:Value) (t:T) (o:O) (r:Nat) (f:Nat→List aH):Prop:=
 ∃A cap,v = .slice A t.es.length cap∧t = .sl t.es∧t.es.length≤cap∧
  (t.es = []∨∃aa:Addr,A=some aa∧aa.spot=none∧∀(i:Nat) (t':T),t.es[i]?=some t'→Rep E w g e t' o r (f i) (.mem aa.block (aa.off+i * E.sz e)))
theorem Rep.slC {ty e:Nat} {t:T} {o:O} {r:Nat} {p:List aH} {κ:aE} {v:Value} (ht:E.ty ty = .sl e) (h:Rep E w g ty t o r p κ) (hl:o.live=true) (hv:rd w κ=some v) :
  SlC E w g e v t o.elem r (fun i=>p ++ [.idx i]):=by
 cases h with
 | fz0 _ h=>rw[h] at hv;cases hv;exact ⟨_,_,rfl,rfl,by simp[T.es],.inl rfl⟩
 | fo0 _ h=>rw[h] at hv;cases hv;exact ⟨_,_,rfl,rfl,by simp[T.es],.inl rfl⟩
 | fz b1 b2 b3 b4 b5 b6=>rw[b2] at hv;cases hv;rw[ht] at b1;cases b1;exact ⟨_,_,rfl,rfl,b4,.inr ⟨_,rfl,b3,fun i t' h=>(b6 i t' h).frozen rfl (fun _ h=>h) _ _⟩⟩
 | fo b1 b2 b3 b4 b5 b5o b6=>rw[b2] at hv;cases hv;rw[ht] at b1;cases b1;exact ⟨_,_,rfl,rfl,b4,.inr ⟨_,rfl,b3,fun i t' h=>(b6 i t' h).old rfl (fun _ h=>h) _ _⟩⟩
 | own0 _ _ h=>rw[h] at hv;cases hv;exact ⟨_,_,rfl,rfl,by simp[T.es],.inl rfl⟩
 | own b1 b2 b3 b4 b5 b6 b7 b8=>
  rw[b3] at hv;cases hv;rw[ht] at b1;cases b1;exact ⟨_,_,rfl,rfl,b5,.inr ⟨_,rfl,b4,fun i t' h=>b8 i t' h⟩⟩
 | dead=>simp[O.live] at hl
 | _=>simp_all
theorem SlC.cut {e:Nat} {A:Option Addr} {len cap:Nat} {t:T} {o:O} {r:Nat} {f:Nat→List aH} (h:SlC E w g e (.slice A len cap) t o r f) {lo hi cap':Nat} {A':Option Addr}
  (a5:lo≤hi) (a6:hi≤len) (a7:hi - lo≤cap')
  (a9:(A=none∧A'=none)∨∃b x y,A=some ⟨b,x,none⟩∧A'=some ⟨b,y,none⟩∧y≤x+lo * E.sz e∧(cap'=0∨y=x+lo * E.sz e)) :
  SlC E w g e (.slice A' (hi - lo) cap') (t.cut lo hi) o r (fun i=>f (lo+i)):=by
 obtain ⟨A1,c1,h1,h2,h3,h4⟩:=h;simp only[Value.slice.injEq] at h1;obtain ⟨rfl,rfl,rfl⟩:=h1;have hlen:((t.cut lo hi)).es.length=hi - lo:=by simp[T.cut,T.es];simp[T.es] at a6;omega
 refine ⟨_,_,by rw[hlen],rfl,by rw[hlen];exact a7,?_⟩
 by_cases hz:hi=lo
 ·left;exact List.eq_nil_of_length_eq_zero (by rw[hlen,hz];omega)
 ·right
  rcases h4 with h4 | ⟨aa,rfl,s1,s2⟩
  ·rw[h4] at a6;simp at a6;omega
  ·rcases a9 with ⟨c1,_⟩ | ⟨bb,xx,yy,c1,c2,c3,c4⟩
   ·cases c1
   ·simp only[Option.some.injEq] at c1;subst c1;have hyy:yy=xx+lo * E.sz e:=by rcases c4 with c4 | c4 <;> omega
    refine ⟨_,c2,rfl,fun i t' hi'=>?_⟩
    obtain ⟨d1,_⟩:=pH (es:=t.es) hi';have:=s2 _ _ d1
    simp only at this ⊢
    rw[hyy,show xx+lo * E.sz e+i * E.sz e=xx+(lo+i) * E.sz e by rw[Nat.add_mul];omega]
    exact this
structure vf (E:Env) (w:World) (g:Gh) (rt look:Nat→Option Rt) (hold:Nat→aE) (e:Nat) (v:Value) (c:mo) (ens:Nat→List Ent):Prop where
 srcs : ∀m,srcs (ens m)=c.mv
 src : ∀x∈c.mv,eH E w g rt look hold x
 live:c.o.live=true
 at_ : ∃A cap,v = .slice A c.t.es.length cap∧c.t = .sl c.t.es∧c.t.es.length≤cap∧
  (c.t.es = []∨∃aa:Addr,A=some aa∧aa.spot=none∧∀(i:Nat) (t':T),c.t.es[i]?=some t'→
   (∃o r p,o.live=true∧Rep E w g e t' o r p (.mem aa.block (aa.off+i * E.sz e)))∧
   ∀(m d:Nat) (g':Gh),(∀b,g b = .frz→g' b = .frz)→Tks (ens m) d g g'→Rep E w g' e t' c.o d [.idx (m+i)] (.mem aa.block (aa.off+i * E.sz e)))
theorem SlC.flat (hE:bl E) {e:Nat} {v:Value} {t:T} {o:O} {r:Nat} {f:Nat→List aH} (h:SlC E w g e v t o r f) (ho:o.live=true) (hf:E.flat e=true) :
  vf E w g rt look hold e v ⟨t,.dp,[]⟩ (fun _=>[]):=by
 obtain ⟨A1,c1,h1,h2,h3,h4⟩:=h;refine ⟨fun _=>rfl,fun x hx=>by simp at hx,rfl,A1,c1,h1,h2,h3,h4.imp id fun ⟨aa,e1,e2,e3⟩=>⟨aa,e1,e2,fun i t' hi=>⟨⟨_,_,_,ho,e3 i t' hi⟩,fun m d g' _ _=>?_⟩⟩⟩
 exact (e3 i t' hi).flat hE ho hf fun _ _=>rfl
theorem SlC.fz {e:Nat} {v:Value} {t:T} {r:Nat} {f:Nat→List aH} (h:SlC E w g e v t .fz r f):vf E w g rt look hold e v ⟨t,.fz,[]⟩ (fun _=>[]):=by
 obtain ⟨A1,c1,h1,h2,h3,h4⟩:=h;refine ⟨fun _=>rfl,fun x hx=>by simp at hx,rfl,A1,c1,h1,h2,h3,h4.imp id fun ⟨aa,e1,e2,e3⟩=>⟨aa,e1,e2,fun i t' hi=>⟨⟨_,_,_,rfl,e3 i t' hi⟩,fun m d g' hf _=>?_⟩⟩⟩
 exact (e3 i t' hi).frozen rfl hf _ _
theorem SlC.mv {e:Nat} {v:Value} {t:T} {o:O} {r:Nat} {p:List aH} {lo:Nat} (h:SlC E w g e v t o r (fun i=>p ++ [.idx (lo+i)])) (ho:o.live=true)
  (hs:eH E w g rt look hold (r,p)):vf E w g rt look hold e v ⟨t,o,[(r,p)]⟩ (fun m=>[(r,p,shm lo m)]):=by
 obtain ⟨A1,c1,h1,h2,h3,h4⟩:=h;refine ⟨fun _=>rfl,fun x hx=>by simp at hx;subst hx;exact hs,ho,A1,c1,h1,h2,h3,h4.imp id fun ⟨aa,e1,e2,e3⟩=>⟨aa,e1,e2,fun i t' hi=>⟨⟨_,_,_,ho,e3 i t' hi⟩,fun m d g' hf ht=>?_⟩⟩⟩
 refine (e3 i t' hi).rekey hf fun b q hq=>?_
 have:=ht _ (List.mem_singleton.2 rfl) b (.idx (lo+i) :: q) (by simp only;rw[hq];simp)
 rw[this];simp[shm]
theorem y8 (hE:bl E) (hl : ∀r R,look r=some R→rt r=some R) (hr : ∀r R,rt r=some R→dF E w g hold r R) {ty e:Nat} (ht:E.ty ty = .sl e) {x:AV} {v:Value} {c:mo}
  (hs:dV E look ty e x=some c) (hx:aO E w g rt hold x v) : ∃ens,vf E w g rt look hold e v c ens:=by
 have plain : ∀{x:AV},(vt E ty x).map (fun t=>(⟨t,bif E.flat e then .dp else .fz,[]⟩:mo))=some c→aO E w g rt hold x v→∃ens,vf E w g rt look hold e v c ens:=by
  intro x hs hx;simp only[Option.map_eq_some_iff] at hs;obtain ⟨t,h1,rfl⟩:=hs;obtain ⟨h2,h3⟩:=iZ hE h1 hx;have hs:=h3.2;rw[ht] at hs;simp only at hs
  rw[hs] at h2;have h4:=h2.slC ht rfl rfl;cases hf:E.flat e with
  | true=>exact ⟨_,h4.flat hE rfl hf⟩
  | false=>exact ⟨_,SlC.fz h4⟩
 have own : ∀{o:O},o.live=true→o.elem.isFz=true→o.elem = .fz:=by intro o _ h;cases ho:o.elem <;> simp_all[O.isFz]
 cases x with
 | sref ty' r p=>
  simp only[dV] at hs;cases hlr:look r with
  | none=>simp[hlr] at hs
  | some R=>
   simp only[hlr] at hs;cases hc:Nat.beq ty ty'&&(R.o.get p).live with
   | false=>simp[hc] at hs
   | true=>
    simp only[hc,cond_true] at hs;simp only[Bool.and_eq_true] at hc;have:=Nat.eq_of_beq_eq_true hc.1;subst this;cases hx with
    | sref a1 a2 a3 a4=>
     have hR':=hl r R hlr;rw[hR'] at a1;cases a1;have hsl:=(eS (hr r R hR') a3).slC ht hc.2 a4;cases hf:E.flat e with
     | true=>simp[hf] at hs;subst hs;exact ⟨_,hsl.flat hE (eF hc.2) hf⟩
     | false=>
      simp only[hf,cond_false] at hs;cases hfz:(R.o.get p).elem.isFz with
      | true=>
       simp[hfz] at hs;subst hs;rw[own hc.2 hfz] at hsl;exact ⟨_,SlC.fz hsl⟩
      | false=>
       simp only[hfz,cond_false] at hs;cases hn:dq p&&(R.o.get p).own with
       | false=>simp[hn] at hs
       | true=>
        simp[hn] at hs;subst hs;simp only[Bool.and_eq_true] at hn;exact ⟨_,SlC.mv (lo:=0) (by simpa using hsl) (eF hc.2) ⟨⟨R,_,e,_,hlr,hR',ht,a3,by rw[hn.2];rfl,hc.2,hn.1⟩⟩⟩
 | sub ty' r p lo hi=>
  simp only[dV] at hs;cases hlr:look r with
  | none=>simp[hlr] at hs
  | some R=>
   simp only[hlr] at hs;cases hc:Nat.beq ty ty'&&(R.o.get p).live with
   | false=>simp[hc] at hs
   | true=>
    simp only[hc,cond_true] at hs;simp only[Bool.and_eq_true] at hc;have:=Nat.eq_of_beq_eq_true hc.1;subst this;cases hx with
    | sub a1 a2 a3 a4 a5 a6 a7 a8 a9=>
     have hR':=hl r R hlr;rw[hR'] at a1;cases a1;rw[ht] at a2;cases a2;have hsl:=((eS (hr r R hR') a3).slC ht hc.2 a4).cut a5 a6 a7 a9;cases hf:E.flat e with
     | true=>simp[hf] at hs;subst hs;exact ⟨_,hsl.flat hE (eF hc.2) hf⟩
     | false=>
      simp only[hf,cond_false] at hs;cases hfz:(R.o.get p).elem.isFz with
      | true=>
       simp[hfz] at hs;subst hs;rw[own hc.2 hfz] at hsl;exact ⟨_,SlC.fz hsl⟩
      | false=>
       simp only[hfz,cond_false] at hs;cases hn:dq p&&(R.o.get p).own with
       | false=>simp[hn] at hs
       | true=>
        simp[hn] at hs;subst hs;simp only[Bool.and_eq_true] at hn;exact ⟨_,SlC.mv (lo:=lo) hsl (eF hc.2) ⟨⟨R,_,e,_,hlr,hR',ht,a3,by rw[hn.2];rfl,hc.2,hn.1⟩⟩⟩
 | undef=>exact plain (by simpa only[dV] using hs) hx
 | val _ _=>exact plain (by simpa only[dV] using hs) hx
 | cst _=>exact plain (by simpa only[dV] using hs) hx
 | nil _=>exact plain (by simpa only[dV] using hs) hx
 | fnc _=>exact plain (by simpa only[dV] using hs) hx
 | gd _ _=>exact plain (by simpa only[dV] using hs) hx
 | pref _ _ _=>exact plain (by simpa only[dV] using hs) hx
 | fptr _ _=>exact plain (by simpa only[dV] using hs) hx
 | ln _ _=>exact plain (by simpa only[dV] using hs) hx
 | pv _ _=>exact plain (by simpa only[dV] using hs) hx
 | alt _ _ _ _=>exact plain (by simpa only[dV] using hs) hx
 | row _ _ _ _=>exact plain (by simpa only[dV] using hs) hx
 | agg _ _=>exact plain (by simpa only[dV] using hs) hx
 | tup _=>exact plain (by simpa only[dV] using hs) hx
theorem gL (b:Nat) : ∀(vs:List Value) (o:Nat) (w:World),(w.setCells b o vs).heap.size=w.heap.size∧(w.setCells b o vs).os=w.os∧(w.setCells b o vs).tape=w.tape∧(w.setCells b o vs).output=w.output
 | [],_,_=>⟨rfl,rfl,rfl,rfl⟩
 | v :: r,o,w=>by
  rw[World.setCells];obtain ⟨h1,h2,h3,h4⟩:=gL b r (o+1) (w.setCell ⟨b,o,none⟩ v);exact ⟨by rw[h1];simp[World.setCell],by rw[h2];rfl,by rw[h3];rfl,by rw[h4];rfl⟩
theorem fO (b m:Nat) : ∀(vs:List Value) (o:Nat) (w:World),ch w b m→ch (w.setCells b o vs) b m
 | [],_,_,h=>h
 | v :: r,o,w,h=>by
  rw[World.setCells];refine fO b m r (o+1) _ ?_;obtain ⟨c,e,h1,h2⟩:=h;refine ⟨c.setIfInBounds o v,e,?_,by simpa using h2⟩
  simp only[World.setCell];rw[Array.getElem?_modify,h1];simp
theorem uM {w:World} {b m:Nat} (h:ch w b m) (o:Nat):w.frozen? ⟨b,o,none⟩=false:=by
 obtain ⟨c,e,h1,_⟩:=h;simp[World.frozen?,h1]
theorem iO {w:World} {b m:Nat} (h:ch w b m) {o:Nat} (ho:o < m):(w.cell? ⟨b,o,none⟩).isSome=true:=by
 obtain ⟨c,e,h1,h2⟩:=h;have:o < c.size:=by omega
 simp[World.cell?,h1,this]
end
section
variable {P:Program} {E:Env} {n:Nat} {st:St} {a:Act} {w:World} {g:Gh} {hold:Nat→aE} {look rt:Nat→Option Rt} {o:Oper} {b:Bool}
theorem Rep.ones (hE:bl E) {ty:Nat} {t:T} {o:O} {r:Nat} {p:List aH} {κ:aE} (h:Rep E w g ty t o r p κ) :
  o.live=true→∀k,k < E.sz ty→∃v,rd w (κ.add k)=some v∧v.oneCell'=true:=by
 induction h with
 | int h1 h2=>
  intro _ k hk;rw[hE.one _ (by simp[h1])] at hk;obtain rfl:k=0:=by omega
  exact ⟨_,by rw[aE.add_zero];exact h2,rfl⟩
 | bool h1 h2=>
  intro _ k hk;rw[hE.one _ (by simp[h1])] at hk;obtain rfl:k=0:=by omega
  exact ⟨_,by rw[aE.add_zero];exact h2,rfl⟩
 | str h1 h2=>
  intro _ k hk;rw[hE.one _ (by simp[h1])] at hk;obtain rfl:k=0:=by omega
  exact ⟨_,by rw[aE.add_zero];exact h2,rfl⟩
 | fn vs cts h1 h3 h4 h5 h6=>
  intro _ k hk;rw[hE.one _ (by simp[h1])] at hk;obtain rfl:k=0:=by omega
  exact ⟨_,by rw[aE.add_zero];exact h6,rfl⟩
 | cp h1 h2=>
  intro _ k hk;rw[hE.one _ (by simp[h1])] at hk;obtain rfl:k=0:=by omega
  exact ⟨_,by rw[aE.add_zero];exact h2,rfl⟩
 | dead=>intro h;simp[O.live] at h
 | fz0 h1 h2=>
  intro _ k hk;rw[hE.one _ (by simp[h1])] at hk;obtain rfl:k=0:=by omega
  exact ⟨_,by rw[aE.add_zero];exact h2,rfl⟩
 | fo0 h1 h2=>
  intro _ k hk;rw[hE.one _ (by simp[h1])] at hk;obtain rfl:k=0:=by omega
  exact ⟨_,by rw[aE.add_zero];exact h2,rfl⟩
 | fz h1 h2=>
  intro _ k hk;rw[hE.one _ (by simp[h1])] at hk;obtain rfl:k=0:=by omega
  exact ⟨_,by rw[aE.add_zero];exact h2,rfl⟩
 | fo h1 h2=>
  intro _ k hk;rw[hE.one _ (by simp[h1])] at hk;obtain rfl:k=0:=by omega
  exact ⟨_,by rw[aE.add_zero];exact h2,rfl⟩
 | own0 h1 _ h2=>
  intro _ k hk;rw[hE.one _ (by simp[h1])] at hk;obtain rfl:k=0:=by omega
  exact ⟨_,by rw[aE.add_zero];exact h2,rfl⟩
 | own h1 _ h2=>
  intro _ k hk;rw[hE.one _ (by simp[h1])] at hk;obtain rfl:k=0:=by omega
  exact ⟨_,by rw[aE.add_zero];exact h2,rfl⟩
 | @st ty fs ts o r p κ h1 h2 h3 ih=>
  intro hl k hk;rw[hE.sum _ _ h1] at hk;obtain ⟨j,f,hj,a1,a2⟩:=rR hk;have hj':=(List.getElem?_eq_some_iff.1 hj).1;obtain ⟨v,hv,hv'⟩:=ih j f _ hj (jR (by omega)) (nR hl j) (k - off E fs j) (by omega)
  rw[aE.add_add,Nat.add_sub_cancel' a1] at hv;exact ⟨v,hv,hv'⟩
theorem Cc {ty e:Nat} {t:T} {o:O} {d:Nat} {v:Value} (h:Rep E w g ty t o d [] (.reg [v] 0)) (ht:E.ty ty = .sl e) (ho:o.own=true) :
  ∃base cap,v = .slice base t.es.length cap∧t.es.length≤cap∧t = .sl t.es∧
   ((
    base=none∧t.es = []∧cap=0)∨∃B off,base=some ⟨B,off,none⟩∧g B = .at d []∧ch w B (off+cap * E.sz e)∧
    ∀(i:Nat) (t':T),t.es[i]?=some t'→Rep E w g e t' o.elem d [.idx i] (.mem B (off+i * E.sz e))):=by
 cases h with
 | own0 b1 b2 b3=>simp[rd] at b3;exact ⟨none,0,by rw[b3];simp[T.es],by simp[T.es],rfl,.inl ⟨rfl,rfl,rfl⟩⟩
 | @own _ e2 _ aa cap _ _ _ _ b1 b2 b3 b4 b5 b6 b7 b8=>
  rw[ht] at b1;cases b1;simp[rd] at b3
  obtain ⟨B,off,sp⟩:=aa;simp only at b4;subst b4;refine ⟨some ⟨B,off,none⟩,cap,by rw[b3];simp[T.es],by simpa[T.es] using b5,rfl,.inr ⟨B,off,rfl,b6,b7,fun i t' hi=>by simpa using b8 i t' hi⟩⟩
 | fz0=>simp[O.own] at ho
 | fo0=>simp[O.own] at ho
 | fz=>simp[O.own] at ho
 | fo=>simp[O.own] at ho
 | dead=>simp[O.own] at ho
 | _=>simp_all
theorem pt (hE:bl E) {e:Nat} : ∀(es:List T) {B x:Nat},(∀(i:Nat) (t:T),es[i]?=some t→∃o r p,o.live=true∧Rep E w g e t o r p (.mem B (x+i * E.sz e)))→
  ∃cs:List Value,cs.length=es.length * E.sz e∧(∀j u,cs[j]?=some u→w.cell? ⟨B,x+j,none⟩=some u)∧∀u∈cs,u.oneCell'=true:=by
 intro es B x h;have hc : ∀j,j < es.length * E.sz e→∃u,w.cell? ⟨B,x+j,none⟩=some u∧u.oneCell'=true:=by
  intro j hj;have hpos:0 < E.sz e:=by
   rcases Nat.eq_zero_or_pos (E.sz e) with h | h
   ·rw[h] at hj;omega
   ·exact h
  have hdiv:j / E.sz e < es.length:=by rw[Nat.div_lt_iff_lt_mul hpos];exact hj
  have hmod:j % E.sz e < E.sz e:=Nat.mod_lt _ hpos
  have hm:j=j / E.sz e * E.sz e+j % E.sz e:=by rw[Nat.mul_comm];exact (Nat.div_add_mod j (E.sz e)).symm
  obtain ⟨o,r,p,ho,hr⟩:=h _ _ (List.getElem?_eq_getElem hdiv);obtain ⟨v,hv,hv'⟩:=hr.ones hE ho (j % E.sz e) hmod;refine ⟨v,?_,hv'⟩;rw[hm,← Nat.add_assoc];exact hv
 refine ⟨(List.range (es.length * E.sz e)).map fun j=>(w.cell? ⟨B,x+j,none⟩).getD undef,by simp,fun j u hj=>?_,fun u hu=>?_⟩
 ·rw[List.getElem?_map] at hj;have hjl:j < es.length * E.sz e:=by
   rcases Nat.lt_or_ge j (es.length * E.sz e) with h | h
   ·exact h
   ·rw[List.getElem?_eq_none (by simpa using h)] at hj;simp at hj
  rw[List.getElem?_range hjl] at hj;obtain ⟨v,hv,_⟩:=hc j hjl;simp[hv] at hj;rw[hv,hj]
 ·obtain ⟨j,hj,rfl⟩:=List.mem_map.1 hu;obtain ⟨v,hv,hv'⟩:=hc j (by simpa using hj)
  simp only[hv,Option.getD_some];exact hv'
theorem xy (b x k:Nat):(⟨b,x,none⟩:Addr).add k=⟨b,x+k,none⟩:=fM rfl k
theorem Bu (hP:ba P E) (h:Inv E n st a w g hold) (hl : ∀r R,look r=some R→st.rt r=some R) (hd : ∀x,o.dst=some x→x < n) {fi:Fi} {t d:Nat} {x y:Operand} {e:Eff}
  (hop:o.op = .call { callee:=.builtin .append,args:=#[x,y],argTypes:=#[t,t] }) {ax ay:AV} (hx:b=true→aO E w g st.rt hold ax (a.eval x)) (hy:b=true→aO E w g st.rt hold ay (a.eval y))
  (hd9:d < 100000) (hna:mem d fi.alt=false) (hnr:mem d fi.row=false) (he:ra fi E look d t b ax ay=some e):eG P E n st a w g hold o e:=by
 unfold ra at he;split at he
 ·cases he
 rename_i et hs0
 have hs:E.ty t = .sl et:=by unfold isSl at hs0;split at hs0 <;> simp_all
 rw[hna,cond_false,hnr,cond_false] at he;split at he
 rotate_left
 ·cases he
 rename_i A C hA hC
 cases hm0:(A.o.own&&(bP (A.mv++C.mv)&&E.zok et)) with
 | false=>simp[hm0] at he
 | true=>
  simp only[hm0,cond_true] at he;simp only[Bool.and_eq_true] at hm0;obtain ⟨hown,hm,hzok⟩:=hm0;have hsh0:=mb he;refine ⟨hsh0.2.1,hsh0.2.2,fun hp=>?_⟩
  rw[hsh0.1] at hp;simp only[Bool.and_eq_true,decide_eq_true_eq] at hp;obtain ⟨hb,hlim⟩:=hp;obtain ⟨hok,i,z,hi,hiz,hsh,hzc⟩:=hP.zero et hzok;obtain ⟨hu,_⟩:=hP.sl t et hs;obtain ⟨i',hi',hsz,hby⟩:=hP.info et hok;rw[hi] at hi';cases hi';obtain ⟨hshv,hen,hsrcA,hrepA⟩:=jh hP.wf hl h.rts hA (hx hb);obtain ⟨ens,hS⟩:=y8 hP.wf hl h.rts hs hC (hy hb);have hliveA:=gG hA;let n0:=A.t.es.length
  let es:=dk [] ax++ens n0
  have hses:srcs es=A.mv++C.mv:=by
   simp only[es,srcs,List.map_append];exact congr (congrArg _ (hen [])) (hS.srcs n0)
  have hm':bP (srcs es)=true:=by rw[hses];exact hm
  have hsrc' : ∀x∈srcs es,eH E w g st.rt look hold x:=by
   intro x hx;rw[hses] at hx;rcases List.mem_append.1 hx with hx | hx
   ·exact hsrcA x hx
   ·exact hS.src x hx
  have htk:Tks es d g (go es d g):=jT hm'
  have hRA:=hrepA d [] (go es d g) (fun b hb=>ez hb) htk.left
  obtain ⟨AB,capB,hvy,hCt,hcapB,hCel⟩:=hS.at_;let O:=bif leT E A.o.elem et C.o then A.o.elem else O.meet A.o.elem C.o
  have hmeet:=meetT_le (E:=E) (e:=et) (eF hliveA) hS.live
  have hnew : ∀(aa:Addr),AB=some aa→aa.spot=none→(∀(i:Nat) (t':T),C.t.es[i]?=some t'→Rep E w (go es d g) et t' C.o d [.idx (n0+i)] (.mem aa.block (aa.off+i * E.sz et)))→
    True:=fun _ _ _ _=>trivial
  have hC':C.t.es = []∨∃aa:Addr,AB=some aa∧aa.spot=none∧∀(i:Nat) (t':T),C.t.es[i]?=some t'→
    (∃o r p,o.live=true∧Rep E w g et t' o r p (.mem aa.block (aa.off+i * E.sz et)))∧Rep E w (go es d g) et t' C.o d [.idx (n0+i)] (.mem aa.block (aa.off+i * E.sz et)):=
   hCel.imp id fun ⟨aa,e1,e2,e3⟩=>⟨aa,e1,e2,fun i t' hi=>⟨(e3 i t' hi).1,(e3 i t' hi).2 n0 d _ (fun b hb=>ez hb) htk.right⟩⟩
  obtain ⟨news,hnl,hnc,hsrcs⟩ : ∃news:List Value,news.length=C.t.es.length * E.sz et∧
    (∀(i:Nat) (t':T),C.t.es[i]?=some t'→∀k,k < E.sz et→∃aa:Addr,AB=some aa∧w.cell? ⟨aa.block,aa.off+i * E.sz et+k,none⟩=news[i * E.sz et+k]?)∧
    Src P i.size t (a.eval y) C.t.es.length news w:=by
   rcases hC' with hnil | ⟨aa,e1,e2,e3⟩
   ·refine ⟨[],by simp[hnil],fun i t' hi=>by rw[hnil] at hi;simp at hi,?_⟩
    rw[hvy,hnil];cases AB with
    | none=>exact Src.ofNil w hu capB
    | some aa=>exact Src.ofSlice w hu aa 0 capB [] (by simp) (fun j u hj=>by simp at hj) (fun u hu=>by cases hu)
   ·obtain ⟨cs,c1,c2,c3⟩:=pt hP.wf C.t.es (fun i t' hi=>(e3 i t' hi).1)
    refine ⟨cs,c1,fun i t' hi k hk=>⟨aa,e1,?_⟩,?_⟩
    ·have hil:=(List.getElem?_eq_some_iff.1 hi).1;have:i * E.sz et+k < cs.length:=by
      rw[c1];have:(i+1) * E.sz et≤C.t.es.length * E.sz et:=Nat.mul_le_mul_right _ hil
      rw[Nat.succ_mul] at this;omega
     rw[List.getElem?_eq_getElem this,Nat.add_assoc];exact c2 _ _ (List.getElem?_eq_getElem this)
    ·rw[hvy,e1];refine Src.ofSlice w hu aa _ capB cs (by rw[c1,hsz]) (fun j u hj=>?_) c3
     rw[fM e2];exact c2 j u hj
  have hvx : ∃base cap,a.eval x = .slice base n0 cap∧n0≤cap∧A.t = .sl A.t.es∧
    ((
     base=none∧A.t.es = []∧cap=0)∨∃B off,base=some ⟨B,off,none⟩∧go es d g B = .at d []∧ch w B (off+cap * E.sz et)∧
     ∀(i:Nat) (t':T),A.t.es[i]?=some t'→Rep E w (go es d g) et t' A.o.elem d [.idx i] (.mem B (off+i * E.sz et))):=by
   have hc:=hshv.2;rw[hs] at hc;simp only at hc
   rw[hc] at hRA;exact Cc hRA hs hown
  obtain ⟨base,cap,hvx,hcap,hAt,hAel⟩:=hvx;have hlenT:(A.t.es++C.t.es).length=n0+C.t.es.length:=by simp[n0]
  have hbnd:=h.bnd;have fin : ∀{v:Value} {w':World},(Builtin.append_ #[t,t] o.type #[a.eval x,a.eval y]).run P w = .ok v w'→
    (e.pre=(b&&decide (A.t.es.length+C.t.es.length≤LIM))∧e.g=true∧e.req=none∧∃g' hold',Stp w g w' g'∧Sld hold hold'∧Inv E n (aX o.dst (e.ret []) st) (a.put o.dst v) w' g' hold')→
    Does P E n st a w g hold o (e.ret []):=by
   intro v w' hrun hres;obtain ⟨_,_,_,g',hold',k1,k2⟩:=hres;refine ⟨.value v,w',v,g',hold',?_,.inl rfl,k1,k2⟩;simp[execOp,hop,resolve,invoke,builtin,hrun]
  have helt : ∀(j:Nat) (t':T),(A.t.es++C.t.es)[j]?=some t'→(j < n0∧A.t.es[j]?=some t')∨(∃k,j=n0+k∧C.t.es[k]?=some t'):=by
   intro j t' hj;rcases Nat.lt_or_ge j n0 with h | h
   ·rw[List.getElem?_append_left h] at hj;exact .inl ⟨h,hj⟩
   ·rw[List.getElem?_append_right h] at hj;exact .inr ⟨j - n0,by omega,hj⟩
  have grow:cap < n0+C.t.es.length→Does P E n st a w g hold o (e.ret []):=by
   intro hgr;obtain ⟨olds,hol,hoc,hofirst⟩ : ∃olds:List Value,olds.length=n0 * E.sz et∧
     (∀(i:Nat) (t':T),A.t.es[i]?=some t'→∃B off,Rep E w (go es d g) et t' A.o.elem d [.idx i] (.mem B (off+i * E.sz et))∧∀k,k < E.sz et→w.cell? ⟨B,off+i * E.sz et+k,none⟩=olds[i * E.sz et+k]?)∧
     (Builtin.firstCells i.size n0 (.slice base n0 cap)).run P w.drew = .ok olds.toArray w.drew:=by
    rcases hAel with ⟨rfl,e2,_⟩ | ⟨B,off,rfl,e2,e3,e4⟩
    ·refine ⟨[],by simp[n0,e2],fun i t' hi=>by rw[e2] at hi;simp at hi,?_⟩
     simp[n0,e2,Builtin.firstCells]
    ·obtain ⟨cs,c1,c2,c3⟩:=pt hP.wf A.t.es (fun i t' hi=>⟨_,_,_,eF hliveA,e4 i t' hi⟩)
     refine ⟨cs,c1,fun i t' hi=>⟨B,off,e4 i t' hi,fun k hk=>?_⟩,?_⟩
     ·have hil:=(List.getElem?_eq_some_iff.1 hi).1;have:i * E.sz et+k < cs.length:=by
       rw[c1];have:(i+1) * E.sz et≤A.t.es.length * E.sz et:=Nat.mul_le_mul_right _ hil
       rw[Nat.succ_mul] at this;omega
      rw[List.getElem?_eq_getElem this,Nat.add_assoc];exact c2 _ _ (List.getElem?_eq_getElem this)
     ·refine run_firstCells_some w.drew i.size n0 _ n0 cap cs (by rw[c1,hsz]) (fun j u hj=>?_)
      rw[xy];simpa using c2 j u hj
   have hlim':n0+C.t.es.length≤4294967296:=hlim
   have hfit:Builtin.nextslicecap (n0+C.t.es.length) cap * i.bytes≤281474976710656:=by
    refine growslice_fits hgr ?_;have:(n0+C.t.es.length) * i.bytes≤4294967296 * 4096:=Nat.mul_le_mul hlim' hby
    omega
   have hrun:=run_append_grow_src (P:=P) w t t o.type et i z hu hi hiz base n0 cap olds hofirst (a.eval y) C.t.es.length news hsrcs hgr (by omega) hfit
   rw[← hvx] at hrun;refine fin hrun ?_;generalize hG:grownCap w (n0+C.t.es.length) cap et=G
   have hGge:n0+C.t.es.length≤G:=by rw[← hG];exact grownCap_ge _ _ _ _
   let cells:Array Value:=(olds++news).toArray++Builtin.zeroCells z.cells (G - (n0+C.t.es.length))
   have hgrw:=Gr.drew w cells et;have hcsz:cells.size=G * E.sz et:=by
    simp only[cells,Array.size_append,List.size_toArray,List.length_append,hol,hnl,size_zeroCells,hsh.1];rw[← Nat.add_mul,← Nat.add_mul];congr 1;omega
   have hcold : ∀m,m < n0 * E.sz et→cells[m]?=olds[m]?:=by
    intro m hm;simp only[cells];rw[Array.getElem?_append_left (by simp;omega)]
    simp only[List.getElem?_toArray];rw[List.getElem?_append_left (by omega)]
   have hcnew : ∀m,m < C.t.es.length * E.sz et→cells[n0 * E.sz et+m]?=news[m]?:=by
    intro m hm;simp only[cells];rw[Array.getElem?_append_left (by simp;omega)]
    simp only[List.getElem?_toArray];rw[List.getElem?_append_right (by omega),hol,Nat.add_sub_cancel_left]
   have hmul : ∀{i N k:Nat},i < N→k < E.sz et→i * E.sz et+k < N * E.sz et:=by
    intro i N k h1 h2;have:(i+1) * E.sz et≤N * E.sz et:=Nat.mul_le_mul_right _ h1
    rw[Nat.succ_mul] at this;omega
   have hrow:=zO (E:=E) hP.wf (ty:=t) hs (w':=w.drew.alloc (.cells cells et)) (g₁:=fg es d g w (.at d [])) (d:=d) (B:=w.heap.size) (x:=0) (cap:=G) (ts:=A.t.es++C.t.es) (o:=O)
    sQ (by rw[hlenT];exact hGge) (hgrw.blk (by rw[hcsz];omega)) (fun j t' hj=>by
     rcases helt j t' hj with ⟨hjl,hj⟩ | ⟨k,rfl,hj2⟩
     ·obtain ⟨B,off,hrB,hcB⟩:=hoc j t' hj;refine ⟨_,hmeet.1,hrB.fresh hP.wf hbnd hgrw fun k hk=>?_⟩
      simp only[aE.add,rd,Nat.zero_add];rw[hgrw.cell,hcold _ (hmul hjl hk),hcB k hk]
     ·rcases hC' with hnil | ⟨aa,e1,e2,e3⟩
      ·rw[hnil] at hj2;simp at hj2
      ·refine ⟨_,hmeet.2,(e3 k t' hj2).2.fresh hP.wf hbnd hgrw fun m hm=>?_⟩
       have hkl:=(List.getElem?_eq_some_iff.1 hj2).1;obtain ⟨aa',f1,f2⟩:=hnc k t' hj2 m hm;rw[e1] at f1;cases f1;simp only[aE.add,rd,Nat.zero_add];rw[hgrw.cell,Nat.add_mul,Nat.add_assoc,hcnew _ (hmul hkl hm),f2])
   rw[hlenT] at hrow;refine pX (look:=look) (es:=es) hP.wf h hl hm' hsrc' (by rw[hses];exact he) hd hd9 hgrw (g₁:=wk (.sl O) d (fg es d g w (.at d [])))
    (fun b hb hnd=>?_) (fun b hb=>ri (CB hb)) hrow (.inl ⟨rfl,rfl,_,_,_,et,rfl,hs⟩)
   rw[fW (by rw[oc hb];exact hnd),oc hb]
  rcases Nat.lt_or_ge cap (n0+C.t.es.length) with hlt | hge
  ·exact grow hlt
  rcases hAel with ⟨rfl,e2,e3⟩ | ⟨B,off,rfl,e2,e3,e4⟩
  ·
   have hn0:n0=0:=by simp[n0,e2]
   have hc0:C.t.es = []:=List.eq_nil_of_length_eq_zero (by omega)
   have hnews:news = []:=List.eq_nil_of_length_eq_zero (by rw[hnl,hc0];simp)
   rw[hc0,hnews] at hsrcs;have hrun:=run_append_nothing (P:=P) w t t o.type et i hu hi none n0 cap hcap (a.eval y) hsrcs
   rw[← hvx] at hrun;refine fin hrun ?_;rw[hvx,hn0,e3];refine vV (look:=look) (es:=es) hP.wf h hl hm' hsrc' (by rw[hses];exact he) hd hd9 (w':=w) (g₁:=go es d g) (κ:=.reg [.slice none 0 0] 0)
    (fun b _ hng _=>⟨aP.refl _ _,bX hng⟩) (fun b hb=>hbnd b (cE hb)) ⟨rfl,rfl,rfl,Nat.le_refl _⟩ (fun b _ hfr=>⟨rfl,?_⟩) ?_ (.inl ⟨rfl,rfl,_,_,_,et,rfl,hs⟩)
   ·rcases hfr with hf | hf
    ·rw[pL hf,hf]
    ·rw[ez hf,hf]
   ·simp only[e2,hc0,List.append_nil];exact .own0 hs rfl rfl
  ·
   have hBn:g B≠.free:=cE (es:=es) (d:=d) (by rw[e2];simp)
   have hszle:(n0+C.t.es.length) * E.sz et≤cap * E.sz et:=Nat.mul_le_mul_right _ hge
   have hin : ∀j,j < news.length→off+n0 * i.size+j < off+cap * E.sz et:=by
    intro j hj;rw[hnl] at hj;rw[hsz];rw[Nat.add_mul] at hszle;omega
   have hrun:=run_append_room_src (P:=P) w t t o.type et i hu hi B off n0 cap (a.eval y) C.t.es.length news hsrcs hge
    (fun j hj=>iO e3 (hin j hj)) (fun j hj=>uM e3 _)
   rw[← hvx] at hrun;refine fin hrun ?_;let w':=w.setCells B (off+n0 * i.size) news
   obtain ⟨z1,z2,z3,z4⟩:=gL B news (off+n0 * i.size) w;have hother : ∀b,b < w.heap.size→b≠B→w'.heap[b]?=w.heap[b]?:=fun b hb hne=>World.heap_setCells_other w B _ news hb hne
   have hsame : ∀b,g b≠.free→b≠B→aP w w' b:=fun b hb hne=>.of_heap (hother b (hbnd b hb) hne)
   have hmul : ∀{i N k:Nat},i < N→k < E.sz et→i * E.sz et+k < N * E.sz et:=by
    intro i N k h1 h2;have:(i+1) * E.sz et≤N * E.sz et:=Nat.mul_le_mul_right _ h1
    rw[Nat.succ_mul] at this;omega
   have hlean : ∀{j b:Nat},o4 (go es d g) d [.idx j] b→aP w w' b∧go es d g b=go es d g b:=by
    intro j b hb;refine ⟨hsame b (cE hb.nf) ?_,rfl⟩;rintro rfl
    rcases hb with hb | ⟨q,hb⟩ <;> rw[e2] at hb <;> simp at hb
   have hrow:=zO (E:=E) hP.wf (ty:=t) hs (w':=w') (g₁:=go es d g) (d:=d) (B:=B) (x:=off) (cap:=cap) (ts:=A.t.es++C.t.es) (o:=O)
    e2 (by rw[hlenT];exact hge) (fO B _ news _ w e3) (fun j t' hj=>by
     rcases helt j t' hj with ⟨hjl,hj⟩ | ⟨k,rfl,hj2⟩
     ·refine ⟨_,hmeet.1,(e4 j t' hj).reloc hP.wf (fun k hk=>?_) fun b hb=>hlean hb⟩
      simp only[aE.add,rd];refine World.cell?_setCells_out B news _ w _ fun _ _=>.inl ?_
      have:=hmul hjl hk
      rw[hsz];simp only;omega
     ·rcases hC' with hnil | ⟨aa,f1,f2,f3⟩
      ·rw[hnil] at hj2;simp at hj2
      ·refine ⟨_,hmeet.2,(f3 k t' hj2).2.reloc hP.wf (fun m hm=>?_) fun b hb=>hlean hb⟩
       have hkl:=(List.getElem?_eq_some_iff.1 hj2).1;obtain ⟨aa',g1,g2⟩:=hnc k t' hj2 m hm;rw[f1] at g1;cases g1;simp only[aE.add,rd];have hlt:k * E.sz et+m < news.length:=by rw[hnl];exact hmul hkl hm
       have:=World.cell?_setCells_in B news (off+n0 * i.size) w (fun j hj=>iO e3 (hin j hj)) (k * E.sz et+m) hlt
       rw[g2,List.getElem?_eq_getElem hlt,← this,hsz,Nat.add_mul];simp only[w',hsz];congr 2
       omega)
   rw[hlenT] at hrow;refine vV (look:=look) (es:=es) hP.wf h hl hm' hsrc' (by rw[hses];exact he) hd hd9 (w':=w') (g₁:=wk (.sl O) d (go es d g)) (κ:=.reg [.slice (some ⟨B,off,none⟩) (n0+C.t.es.length) cap] 0)
    (fun b hb hng hnd=>⟨hsame b hb ?_,?_⟩) (fun b hb=>?_) ⟨z2,z3,z4,by rw[z1];omega⟩ (fun b hbl hfr=>⟨?_,?_⟩) hrow (.inl ⟨rfl,rfl,_,_,_,et,rfl,hs⟩)
   ·rintro rfl
    rw[bX hng] at e2;exact hnd [] e2
   ·rw[fW (by rw[bX hng];exact hnd),bX hng]
   ·show b < w'.heap.size
    rw[z1];exact hbnd b (cE (CB hb))
   ·refine hother b hbl ?_;rintro rfl
    rcases hfr with hf | hf
    ·exact hBn hf
    ·rw[ez hf] at e2;cases e2
   ·rcases hfr with hf | hf
    ·rw[fW (by rw[pL hf];simp),pL hf,hf]
    ·rw[fW (by rw[ez hf];simp),ez hf,hf]
end
section
variable {P:Program} {E:Env} {n:Nat} {st:St} {a:Act} {w:World} {g:Gh} {hold:Nat→aE} {look rt:Nat→Option Rt} {o:Oper} {b:Bool}
theorem Sub.blk (hE:bl E) {r:Nat} {ty:Nat} {p:List aH} {κ:aE} {q:List aH} {ty':Nat} {κ':aE} (hs:Sub E w g r ty p κ q ty' κ') :
  ∀{t:T} {o:O},Rep E w g ty t o r p κ→o.way q=true→(bj q=true∧∃d,κ'=κ.add d∧d+E.sz ty'≤E.sz ty)∨∃b x,κ' = .mem b x∧ch w b (x+E.sz ty'):=by
 induction hs with
 | nil=>intro t o _ _;exact .inl ⟨rfl,0,(aE.add_zero _).symm,by omega⟩
 | @fld ty fs j f p κ q ty' κ' h1 h2 _ ih=>
  intro t o h hw;cases h with
  | st a1 a2 a3=>
   rw[h1] at a1;cases a1;have hj:j < fs.length:=(List.getElem?_eq_some_iff.1 h2).1
   rcases ih (a3 j f _ h2 (jR (by omega))) (by cases o <;> simp_all[O.way]) with ⟨ha,d,hd,hd'⟩ | hr
   ·refine .inl ⟨ha,off E fs j+d,by rw[hd,aE.add_add],?_⟩
    rw[hE.sum _ _ h1];have:=eL (E:=E) h2;omega
   ·exact .inr hr
  | dead=>simp[O.way] at hw
  | _=>simp_all
 | @idx ty e a len cap i p κ q ty' κ' h1 h2 h3 h4 h5 _ ih=>
  intro t o h hw;simp only[O.way,Bool.and_eq_true] at hw;cases h with
  | own a1 a2 a3 a4 a5 a6 a7 a8=>
   rw[h1] at a1;cases a1;rw[h2] at a3;cases a3;rcases ih (a8 i _ (rq h3)) hw.2 with ⟨ha,d,hd,hd'⟩ | hr
   ·refine .inr ⟨_,_,hd,a7.mono ?_⟩;have:(i+1) * E.sz e≤cap * E.sz e:=Nat.mul_le_mul_right _ (by omega)
    rw[Nat.succ_mul] at this;omega
   ·exact .inr hr
  | fz a1 a2 a3 a4 a5 a6=>simp[O.own] at hw
  | fo a1 a2 a3 a4 a5 a5o a6=>simp[O.own] at hw
  | fz0 a1 a2=>simp[O.own] at hw
  | fo0 a1 a2=>simp[O.own] at hw
  | own0 a1 a2 a3=>rw[h2] at a3;cases a3
  | dead=>simp[O.own] at hw
  | _=>simp_all
theorem Sub.retell {g':Gh} {r:Nat} {ty:Nat} {p:List aH} {κ:aE} {q:List aH} {ty':Nat} {κ':aE} (hs:Sub E w g r ty p κ q ty' κ') :
  (∀b q1 i q2,q=q1 ++ .idx i :: q2→g b = .at r (p++q1)→g' b=g b)→Sub E w g' r ty p κ q ty' κ':=by
 induction hs with
 | nil=>intro _;exact .nil
 | fld h1 h2 _ ih=>intro h;exact .fld h1 h2 (ih fun b q1 i q2 hq hb=>h b (_ :: q1) i q2 (by rw[hq];rfl) (by rw[hb];simp))
 | @idx ty e a len cap i p κ q ty' κ' h1 h2 h3 h4 h5 _ ih=>
  intro h;exact .idx h1 h2 h3 h4 (by rw[h a.block [] i q rfl (by simpa using h5),h5]) (ih fun b q1 i' q2 hq hb=>h b (.idx i :: q1) i' q2 (by rw[hq];rfl) (by rw[hb];simp))
theorem Sub.stay {w':World} {r:Nat} {ty:Nat} {p:List aH} {κ:aE} {q:List aH} {ty':Nat} {κ':aE} (hs:Sub E w g r ty p κ q ty' κ') :
  (∀κ A l c,rd w κ=some (.slice A l c)→rd w' κ=some (.slice A l c))→Sub E w' g r ty p κ q ty' κ':=by
 induction hs with
 | nil=>intro _;exact .nil
 | fld h1 h2 _ ih=>intro h;exact .fld h1 h2 (ih h)
 | idx h1 h2 h3 h4 h5 _ ih=>intro h;exact .idx h1 (h _ _ _ _ h2) h3 h4 h5 (ih h)
theorem rJ (g:Gh) (N:Nat) (h : ∀b,g b≠.free→b < N) (r:Nat) : ∃D,D≠r∧∀b q,g b≠.at D q:=by
 have : ∀N,∃D,D≠r∧∀D',D≤D'→∀b,b < N→∀q,g b≠.at D' q:=by
  intro N;induction N with
  | zero=>exact ⟨r+1,by omega,fun _ _ b hb=>by omega⟩
  | succ N ih=>
   obtain ⟨D,h1,h2⟩:=ih;refine ⟨D+r+1+(match g N with | .at k _=>k | _=>0),by omega,fun D' hD b hb q hbq=>?_⟩
   rcases Nat.lt_or_ge b N with hlt | hge
   ·exact h2 D' (by omega) b hlt q hbq
   ·obtain rfl:b=N:=by omega
    rw[hbq] at hD;simp only at hD;omega
 obtain ⟨D,h1,h2⟩:=this N;refine ⟨D,h1,fun b q hbq=>?_⟩
 exact h2 D (Nat.le_refl _) b (h b (by rw[hbq];simp)) q hbq
def pZ (D r:Nat) (p:List aH) (o₁:O) (g:Gh):Gh:=fun b=>match g b with
 | .at r' q=>if r'=D then (if (o₁.get q).isFz then .frz else .at r (p++q)) else .at r' q
 | x=>x
theorem xN (D r:Nat) (p:List aH) (o₁:O) (g:Gh):Goes g (pZ D r p o₁ g) D [] o₁ r p:=by
 refine ⟨fun b hb=>by simp[pZ,hb],fun b q hb=>?_⟩
 rw[List.nil_append] at hb;simp[pZ,hb]
theorem mR {D r:Nat} {p:List aH} {o₁:O} {g:Gh} {b:Nat} (h : ∀q,g b≠.at D q):pZ D r p o₁ g b=g b:=by
 unfold pZ;split
 ·rename_i r' q hb
  rw[if_neg,hb];rintro rfl;exact h q hb
 ·rfl
theorem qD {D r:Nat} {p:List aH} {o₁:O} {g:Gh} {b:Nat} (h:pZ D r p o₁ g b≠.free):g b≠.free:=by
 intro hf;exact h (by rw[mR (by rw[hf];simp),hf])
theorem sd (hP:ba P E) {t:Nat} (ht:bN E t=true) {B x m:Nat} {v:Value} (hblk:ch w B m) (hm:x+E.sz t≤m) (hs:v.cells.size=E.sz t) (h1 : ∀u∈v.cells.toList,u.oneCell'=true) :
  (Instr.storeAt t (.pointer (some ⟨B,x,none⟩)) v).run P w = .ok () (w.setCells B x v.cells.toList):=by
 obtain ⟨i,hi,_,hsz,_⟩:=kr (w:=w) hP ht;have hst:=run_storeCells_cells (P:=P) B x v.cells.toList 0 w (fun j hj=>iO hblk (by simp at hj;omega)) (fun j hj=>uM hblk _) h1
 simp only[Nat.add_zero] at hst;simp[Instr.storeAt,Instr.sureAddr,storeVar,hsz,hs,hst]
theorem uE (hE:bl E) {ty:Nat} {t:T} {o:O} {r:Nat} {p:List aH} {v:Value} {g:Gh} (h:Rep E w g ty t o r p (.reg v.cells.toList 0)) (ho:o.live=true) (hs:v.cells.size=E.sz ty) :
  ∀u∈v.cells.toList,u.oneCell'=true:=by
 intro u hu;obtain ⟨k,hk,rfl⟩:=List.mem_iff_getElem.1 hu;obtain ⟨v',h1,h2⟩:=h.ones hE ho k (by rw[← hs];simpa using hk)
 simp only[aE.add,Nat.zero_add,rd] at h1;rw[List.getElem?_eq_getElem hk] at h1;cases h1;exact h2
end
section
variable {P:Program} {E:Env} {n:Nat} {st:St} {a:Act} {w:World} {g:Gh} {hold:Nat→aE} {look rt:Nat→Option Rt} {o:Oper} {b:Bool}
theorem way_pre {q1 q2:List aH} : ∀{o:O} {i:Nat},o.way (q1 ++ .idx i :: q2)=true→(o.get q1).own=true:=by
 induction q1 with
 | nil=>intro o i h;simp only[List.nil_append,O.way,Bool.and_eq_true] at h;exact h.1
 | cons s q1 ih=>
  intro o i h;cases s with
  | idx k=>simp only[List.cons_append,O.way,Bool.and_eq_true] at h;exact ih h.2
  | fld j=>exact ih (o:=o.fld j) (i:=i) (by cases o <;> simp_all[O.way])
structure Wrt (E:Env) (w:World) (g:Gh) (hold:Nat→aE) (r:Nat) (R:Rt) (ty:Nat) (p:List aH) (B x:Nat):Prop where
 sub:Sub E w g r R.ty [] (hold r) p ty (.mem B x)
 blk : ∃m,ch w B m∧x+E.sz ty≤m
 own:g B = .hd r∨∃q1 i q2,g B = .at r q1∧p=q1 ++ .idx i :: q2
theorem zY (hE:bl E) {r:Nat} {R:Rt} (hR:dF E w g hold r R) {ty:Nat} {p:List aH} {B x:Nat} (hs:Sub E w g r R.ty [] (hold r) p ty (.mem B x)) {o':O}
  (hrep:Rep E w g R.ty R.t o' r [] (hold r)) (hw:o'.way p=true):Wrt E w g hold r R ty p B x:=by
 refine ⟨hs,?_,?_⟩
 ·rcases hs.blk hE hrep hw with ⟨_,d,hd,hd'⟩ | ⟨b,x',h1,h2⟩
  ·cases hb:R.box with
   | true=>
    obtain ⟨b,o,e1,e2,e3⟩:=hR.box hb;rw[e1] at hd;simp only[aE.add,aE.mem.injEq] at hd;obtain ⟨rfl,rfl⟩:=hd;exact ⟨_,e3,by omega⟩
   | false=>
    obtain ⟨vs,e1⟩:=hR.reg hb;rw[e1] at hd;simp[aE.add] at hd
  ·cases h1;exact ⟨_,h2,Nat.le_refl _⟩
 ·rcases hs.where hE with ⟨_,d,hd,_⟩ | ⟨b,o,q1,i,q2,h1,h2,h3⟩
  ·cases hb:R.box with
   | true=>
    obtain ⟨b,o,e1,e2,e3⟩:=hR.box hb;rw[e1] at hd;simp only[aE.add,aE.mem.injEq] at hd;obtain ⟨rfl,rfl⟩:=hd;exact .inl e2
   | false=>
    obtain ⟨vs,e1⟩:=hR.reg hb;rw[e1] at hd;simp[aE.add] at hd
  ·cases h1;exact .inr ⟨q1,i,q2,by simpa using h2,h3⟩
theorem uK {B x:Nat} {vs:List Value} {b:Nat} (hb:b < w.heap.size) (hne:b≠B):aP w (w.setCells B x vs) b:=.of_heap (World.heap_setCells_other w B x vs hb hne)
theorem Bs (hP:ba P E) (h:Inv E n st a w g hold) {r:Nat} {R:Rt} (hR:st.rt r=some R) {ty:Nat} {p:List aH} {B x:Nat} (hw:Wrt E w g hold r R ty p B x)
  (hway:R.o.way p=true) (hlive:(R.o.get p).live=true) (hflat:E.flat ty=true) {v:Value} {t:T} {o':O} (ho':o'.live=true) (hv:Rep E w g ty t o' 0 [] (.reg v.cells.toList 0)) (hsh:bd E ty v) {u:Value} :
  Stp w g (w.setCells B x v.cells.toList) g∧
   Inv E n (aX none ⟨.undef,[(r,some { R with t:=R.t.put p t })],[(r,4)]⟩ st) (a.put none u) (w.setCells B x v.cells.toList) g hold:=by
 have hE:=hP.wf;obtain ⟨m,hblk,hm⟩:=hw.blk;obtain ⟨z1,z2,z3,z4⟩:=gL B v.cells.toList x w;have ok:=h.rts r R hR;have hBn:g B≠.free:=by rcases hw.own with e | ⟨_,_,_,e,_⟩ <;> rw[e] <;> simp
 have hBf:g B≠.frz:=by rcases hw.own with e | ⟨_,_,_,e,_⟩ <;> rw[e] <;> simp
 have hin : ∀k,k < E.sz ty→(w.setCells B x v.cells.toList).cell? ⟨B,x+k,none⟩=v.cells.toList[k]?:=by
  intro k hk;have:=World.cell?_setCells_in B v.cells.toList x w (fun j hj=>iO hblk (by simp[hsh.1] at hj;omega)) k (by simpa[hsh.1] using hk)
  rw[this,List.getElem?_eq_getElem]
 have hout : ∀b k,¬(b=B∧x≤k∧k < x+E.sz ty)→(w.setCells B x v.cells.toList).cell? ⟨b,k,none⟩=w.cell? ⟨b,k,none⟩:=by
  intro b k hn;refine World.cell?_setCells_out B v.cells.toList x w _ fun h1 _=>?_
  simp only at h1;subst h1;simp only[Array.length_toList,hsh.1];rcases Nat.lt_or_ge k x with h2 | h2
  ·exact .inl h2
  ·exact .inr (by rcases Nat.lt_or_ge k (x+E.sz ty) with h3 | h3;exact absurd ⟨rfl,h2,h3⟩ hn;exact h3)
 have hsame : ∀b,g b≠.free→b≠B→aP w (w.setCells B x v.cells.toList) b:=fun b hb hne=>uK (h.bnd b hb) hne
 have hblk' : ∀b n,ch w b n→ch (w.setCells B x v.cells.toList) b n:=by
  intro b n hb;by_cases hbB:b=B
  ·subst hbB;exact fO b n _ _ w hb
  ·obtain ⟨c,e,h1,h2⟩:=hb;have hlt:=(Array.getElem?_eq_some_iff.1 h1).1;exact ⟨c,e,by rw[World.heap_setCells_other w B x _ hlt hbB,h1],h2⟩
 have hold1:=eS ok hw.sub;have hslice : ∀κ A l c,rd w κ=some (.slice A l c)→rd (w.setCells B x v.cells.toList) κ=some (.slice A l c):=by
  intro κ A l c hrd;cases κ with
  | reg vs k=>exact hrd
  | mem b k=>
   simp only[rd] at hrd ⊢;by_cases hr:b=B∧x≤k∧k < x+E.sz ty
   ·obtain ⟨rfl,h2,h3⟩:=hr;obtain ⟨v',h4,h5⟩:=hold1.plain hE hlive hflat (k - x) (by omega)
    simp only[aE.add,rd] at h4;rw[Nat.add_sub_cancel' h2,hrd] at h4;cases h4;rcases h5 with ⟨_,_,h5⟩ | ⟨_,h5⟩ | ⟨_,h5⟩ <;> cases h5
   ·rw[hout b k hr,hrd]
 have hfrz : ∀b,g b = .frz→aP w (w.setCells B x v.cells.toList) b∧g b = .frz:=fun b hb=>⟨hsame b (by rw[hb];simp) (by rintro rfl;exact hBf hb),hb⟩
 have hrt : ∀r',(aX none ⟨.undef,[(r,some { R with t:=R.t.put p t })],[(r,4)]⟩ st).rt r'=if r'=r then some { R with t:=R.t.put p t } else st.rt r':=by
  intro r';simp only[aX,aJ,bZ];by_cases hr:r=r'
  ·subst hr;simp
  ·simp[hr,Ne.symm hr]
 refine ⟨⟨z2,z3,z4,by rw[z1];exact Nat.le_refl _,fun b hb hf=>⟨World.heap_setCells_other w B x _ hb (by rintro rfl;rcases hf with hf | hf;exact hBn hf;exact hBf hf),rfl⟩⟩,?_⟩
 refine h.apply hE (fun x hx=>by cases hx) hfrz ?_ (fun r' R' hR'=>?_) (fun b hb=>by rw[z1];exact h.bnd b hb) (fun hx=>by simp at hx)
 ·intro r' R' hr';refine ⟨fun p' ty' e κ v' he hs hv' ⟨A,l,c,hsl⟩ _=>?_,fun p' ty' b' o' hs _=>?_,fun hd=>?_⟩
  ·subst hsl;by_cases hrr:r'=r
   ·subst hrr;rw[hR] at hr';cases hr';exact ⟨{ R with t:=R.t.put p t },κ,by rw[hrt];simp,hs.stay hslice,hslice _ _ _ _ hv'⟩
   ·exact ⟨R',κ,by rw[hrt,if_neg hrr];exact hr',hs.stay hslice,hslice _ _ _ _ hv'⟩
  ·by_cases hrr:r'=r
   ·subst hrr;rw[hR] at hr';cases hr';exact ⟨{ R with t:=R.t.put p t },by rw[hrt];simp,hs.stay hslice⟩
   ·exact ⟨R',by rw[hrt,if_neg hrr];exact hr',hs.stay hslice⟩
  ·have hrr:r'≠r:=by
    rintro rfl
    simp[dg,aJ,bZ] at hd
   have hk:jt w g hold (w.setCells B x v.cells.toList) g hold r':=by
    refine ⟨rfl,fun b hb=>⟨hsame b ?_ ?_,rfl⟩⟩
    ·rcases hb with hb | ⟨q,hb⟩ <;> rw[hb] <;> simp
    ·rintro rfl
     rcases hw.own with e | ⟨_,_,_,e,_⟩ <;> rcases hb with hb | ⟨q,hb⟩ <;> rw[hb] at e <;> cases e <;> exact hrr rfl
   exact ⟨by rw[hrt,if_neg hrr];exact hr',hk,fun k=>hk.rd (h.rts r' R' hr') k⟩
 ·rw[hrt] at hR';by_cases hrr:r'=r
  ·subst hrr;simp at hR';subst hR';refine ⟨?_,fun hb=>?_,fun hb=>ok.reg hb⟩
   ·have hput:=lx.self hw.sub R.o hway;refine Rep.update hE hw.sub rfl ok.rep hway hput (t₁:=t) ?_ ?_ ?_ ?_
    ·refine hv.flat hE ho' hflat fun k hk=>?_
     simp only[aE.add,rd,Nat.zero_add];exact hin k hk
    ·intro b _;exact ⟨rfl,fun n hn=>hout b n hn,fun n hn=>hblk' b n hn⟩
    ·intro k _ hne;cases hκ:hold r' with
     | reg vs k0=>rfl
     | mem b k0=>
      rw[hκ] at hne;simp only[aE.add,rd];refine hout b (k0+k) ?_;rintro ⟨rfl,h2,h3⟩
      exact hne (k0+k) rfl ⟨h2,h3⟩
    ·intro b k0 hκ;cases hb:R.box with
     | true=>
      obtain ⟨b',o',e1,e2,e3⟩:=ok.box hb;rw[hκ] at e1;cases e1;rw[e2];simp
     | false=>
      obtain ⟨vs,e1⟩:=ok.reg hb;rw[hκ] at e1;cases e1
   ·obtain ⟨b',o',e1,e2,e3⟩:=ok.box hb;exact ⟨b',o',e1,e2,hblk' _ _ e3⟩
  ·rw[if_neg hrr] at hR';refine (h.rts r' R' hR').keep hE ⟨rfl,fun b hb=>⟨hsame b ?_ ?_,rfl⟩⟩ hfrz
   ·rcases hb with hb | ⟨q,hb⟩ <;> rw[hb] <;> simp
   ·rintro rfl
    rcases hw.own with e | ⟨_,_,_,e,_⟩ <;> rcases hb with hb | ⟨q,hb⟩ <;> rw[hb] at e <;> cases e <;> exact hrr rfl
theorem vh (hE:bl E) {r:Nat} {R R':Rt} (ok:dF E w g hold r R) {ty:Nat} {p:List aH} {B x:Nat} (hsub:Sub E w g r R.ty [] (hold r) p ty (.mem B x))
  {w':World} {g':Gh} {rt':Nat→Option Rt} {ks:Ks} (hrt:rt' r=some R') (hty:R'.ty=R.ty)
  (hout : ∀b k,¬(b=B∧x≤k∧k < x+E.sz ty)→w'.cell? ⟨b,k,none⟩=w.cell? ⟨b,k,none⟩) (hks:aJ ks r=some (q8 R p)):eM E w g hold w' g' rt' hold ks r R:=by
 unfold q8 at hks;cases hbx:R.box with
 | false=>exact .val hbx hrt hty rfl (by simpa[hbx] using hks)
 | true=>
  obtain ⟨b0,o0,e1,e2,_⟩:=ok.box hbx;rw[hbx,cond_true] at hks;cases hn:dq p with
  | false=>
   rw[hn,cond_false] at hks;refine .lent hbx hrt hty rfl (fun m=>?_) hks
   rcases hsub.where hE with ⟨ha,_⟩ | ⟨b,o,q1,i,q2,h1,h2,_⟩
   ·unfold dq at hn;rw[ha] at hn;cases hn
   ·cases h1;rw[e1];refine hout b0 _ ?_;rintro ⟨rfl,_⟩
    rw[e2] at h2;cases h2
  | true=>
   rw[hn,cond_true] at hks;cases p with
   | nil=>exact .box hbx hrt hty rfl hks
   | cons s q=>
    cases s with
    | idx i=>simp[dq,bj] at hn
    | fld j=>
     cases hsub with
     | fld h1 h2 h3=>
      rename_i fs f
      obtain ⟨d,hd,hj,d1,d2⟩:=(Sub.fld (w:=w) (g:=g) (p:=[]) (κ:=hold r) h1 h2 h3).head_fld hE h1 (by simpa[dq,bj] using hn)
      rw[e1] at hd;simp only[aE.add,aE.mem.injEq] at hd;obtain ⟨rfl,rfl⟩:=hd;refine .part hbx hrt hty rfl h1 hj (fun m _ hm=>?_) hks
      rw[e1];refine hout B (o0+m) ?_;rintro ⟨_,k1,k2⟩
      exact hm ⟨by omega,by omega⟩
theorem wj (hP:ba P E) (h:Inv E n st a w g hold) (hl : ∀r R,look r=some R→st.rt r=some R) {r:Nat} {R R1:Rt} (hR:look r=some R) {ty:Nat} {p:List aH} {B x:Nat}
  (hsub:Sub E w g r R.ty [] (hold r) p ty (.mem B x)) {av:AV} {c:mo} {v:Value} (htk:take E look ty av=some c) (hav:aO E w g st.rt hold av v) (hm:bP c.mv=true)
  (hR1:(bif mem r (dy c.mv) then qF E c.mv r R else some R)=some R1) (hway:R1.o.way p=true) {o₁ o':O} (hle:leT E o₁ ty c.o=true) (hput:lx E R.ty R1.o p o₁ o') {u:Value} :
  (∃m,ch w B m∧x+E.sz ty≤m)∧bd E ty v∧(∀u∈v.cells.toList,u.oneCell'=true)∧∃g',Stp w g (w.setCells B x v.cells.toList) g'∧
   Inv E n (aX none ⟨.undef,(r,some { R1 with t:=R1.t.put p c.t,o:=o' }) :: bY E look c.mv,(r,q8 R p) :: bW look c.mv⟩ st) (a.put none u) (w.setCells B x v.cells.toList) g' hold:=by
 have hE:=hP.wf;have hRs:=hl r R hR;have ok:=h.rts r R hRs;obtain ⟨hsh,hen,hsrc,hrep⟩:=jh hE hl h.rts htk hav;let es:=dk [] av
 have hes:srcs es=c.mv:=hen []
 have hm':bP (srcs es)=true:=by rw[hes];exact hm
 have hsrc' : ∀x∈srcs es,eH E w g st.rt look hold x:=by rw[hes];exact hsrc
 have left:R1.ty=R.ty∧R1.t=R.t∧R1.box=R.box∧Rep E w g R.ty R.t R1.o r [] (hold r)∧∀p,(r,p)∈srcs es→R1.o.get p = .dead:=by
  by_cases hr:r∈dy c.mv
  ·have:=wT hE h hl hm' hsrc' hRs (by rw[hes];exact hr)
   rw[hR,Option.bind_some,hes] at this;rw[eR.2 hr,cond_true] at hR1;rw[hR1] at this;obtain ⟨i1,i2,i3,i4,i5,_,_⟩:=this;exact ⟨i1,i2,i3,i4,by rw[hes];exact i5⟩
  ·have:mem r (dy c.mv)=false:=by
    cases hb:mem r (dy c.mv) with
    | false=>rfl
    | true=>exact absurd (eR.1 hb) hr
   rw[this,cond_false] at hR1;cases hR1;exact ⟨rfl,rfl,rfl,ok.rep,fun p hp=>absurd (fH.2 ⟨p,by rw[← hes];exact hp⟩) hr⟩
 obtain ⟨l1,l2,l3,l4,l5⟩:=left;have hw:=zY hE ok hsub l4 hway;obtain ⟨m,hblk,hm2⟩:=hw.blk;obtain ⟨z1,z2,z3,z4⟩:=gL B v.cells.toList x w;have hng : ∀q1,(∃i q2,p=q1 ++ .idx i :: q2)→∀b,g b = .at r q1→¬cq es g b:=by
  rintro q1 ⟨i,q2,hp⟩ b hb ⟨e,he,q,hq⟩
  rw[hb] at hq;simp only[Own.at.injEq] at hq;have hd:=l5 e.2.1 (by rw[hq.1];exact List.mem_map.2 ⟨e,he,rfl⟩)
  have ho:=way_pre (q1:=q1) (q2:=q2) (i:=i) (by rw[← hp];exact hway)
  rw[hq.2,mQ,hd,jS] at ho;simp[O.own] at ho
 obtain ⟨D,hDr,hD⟩:=rJ g w.heap.size h.bnd r;let g₁:=go es D g
 have hone:=uE hE (hrep 0 [] (go es 0 g) (fun b hb=>ez hb) (jT hm')) (gG htk) hsh.1
 have hg₁D : ∀b,¬cq es g b→∀q,g₁ b≠.at D q:=fun b hb q=>by simp only[g₁];rw[bX hb];exact hD b q
 let g':=pZ D r p o₁ g₁
 have hg' : ∀b,¬cq es g b→g' b=g b:=fun b hb=>by simp only[g'];rw[mR (hg₁D b hb)];exact bX hb
 have hBng : ¬cq es g B:=by
  rcases hw.own with e | ⟨q1,i,q2,e,hp⟩
  ·rintro ⟨_,_,q,hq⟩;rw[e] at hq;cases hq
  ·exact hng q1 ⟨i,q2,hp⟩ B e
 have hBn:g B≠.free:=by rcases hw.own with e | ⟨_,_,_,e,_⟩ <;> rw[e] <;> simp
 have hBf:g B≠.frz:=by rcases hw.own with e | ⟨_,_,_,e,_⟩ <;> rw[e] <;> simp
 have hin : ∀k,k < E.sz ty→(w.setCells B x v.cells.toList).cell? ⟨B,x+k,none⟩=v.cells.toList[k]?:=by
  intro k hk;have:=World.cell?_setCells_in B v.cells.toList x w (fun j hj=>iO hblk (by simp[hsh.1] at hj;omega)) k (by simpa[hsh.1] using hk)
  rw[this,List.getElem?_eq_getElem]
 have hout : ∀b k,¬(b=B∧x≤k∧k < x+E.sz ty)→(w.setCells B x v.cells.toList).cell? ⟨b,k,none⟩=w.cell? ⟨b,k,none⟩:=by
  intro b k hn;refine World.cell?_setCells_out B v.cells.toList x w _ fun h1 _=>?_
  simp only at h1;subst h1;simp only[Array.length_toList,hsh.1];rcases Nat.lt_or_ge k x with h2 | h2
  ·exact .inl h2
  ·exact .inr (by rcases Nat.lt_or_ge k (x+E.sz ty) with h3 | h3;exact absurd ⟨rfl,h2,h3⟩ hn;exact h3)
 have hsame : ∀b,g b≠.free→b≠B→aP w (w.setCells B x v.cells.toList) b:=fun b hb hne=>uK (h.bnd b hb) hne
 have hblk' : ∀b n,ch w b n→ch (w.setCells B x v.cells.toList) b n:=by
  intro b n hb;by_cases hbB:b=B
  ·subst hbB;exact fO b n _ _ w hb
  ·obtain ⟨c,e,h1,h2⟩:=hb;have hlt:=(Array.getElem?_eq_some_iff.1 h1).1;exact ⟨c,e,by rw[World.heap_setCells_other w B x _ hlt hbB,h1],h2⟩
 have hg'B:g' B=g B:=hg' B hBng
 have hstp:Stp w g (w.setCells B x v.cells.toList) g':=by
  refine ⟨z2,z3,z4,by rw[z1];exact Nat.le_refl _,fun b hb hf=>⟨World.heap_setCells_other w B x _ hb ?_,?_⟩⟩
  ·rintro rfl;rcases hf with hf | hf;exact hBn hf;exact hBf hf
  ·refine hg' b ?_;rintro ⟨e,_,q,hq⟩;rcases hf with hf | hf <;> rw[hf] at hq <;> cases hq
 have hsub₁:Sub E w g₁ r R.ty [] (hold r) p ty (.mem B x):=hsub.retell fun b q1 i q2 hp hb=>bX (hng q1 ⟨i,q2,hp⟩ b (by simpa using hb))
 have l4':Rep E w g₁ R.ty R.t R1.o r [] (hold r):=by
  refine l4.relocO hE (fun _ _=>rfl) fun b hlo=>⟨aP.refl _ _,?_⟩
  rcases hlo with hf | ⟨q,hq,hnd⟩
  ·rw[hf];exact ez hf
  ·refine bX ?_;rintro ⟨e,he,q',hq'⟩
   rw[List.nil_append] at hq;rw[hq] at hq';simp only[Own.at.injEq] at hq';obtain ⟨rfl,rfl⟩:=hq';apply hnd
   rw[mQ,l5 e.2.1 (List.mem_map.2 ⟨e,he,rfl⟩),jS]
 have hnew:Rep E (w.setCells B x v.cells.toList) g' ty c.t o₁ r p (.mem B x):=by
  have h1:=hrep D [] g₁ (fun b hb=>ez hb) (jT hm')
  have h2:=h1.moveT hE hle (xN D r p o₁ g₁);refine h2.reloc hE (fun k hk=>?_) fun b hb=>⟨hsame b (cE (qD hb.nf)) ?_,rfl⟩
  ·simp only[aE.add,rd,Nat.zero_add];exact hin k hk
  ·rintro rfl
   have hx:pZ D r p o₁ g₁ b=g b:=hg'B
   rcases hb with hb | ⟨q,hb⟩
   ·exact hBf (by rw[← hx];exact hb)
   ·rw[hx] at hb;rcases hw.own with e | ⟨q1,i,q2,e,hp⟩
    ·rw[e] at hb;cases hb
    ·rw[e] at hb;simp only[Own.at.injEq] at hb;have:=congrArg List.length hp
     rw[hb.2] at this;simp at this
 refine ⟨hw.blk,hsh,hone,g',hstp,?_⟩;rw[← hes];refine kg (look:=look) (es:=es) hE h hl hm' hsrc' (fun x hx=>by cases hx) (fun b hb hgo hnh hna=>⟨hsame b hb ?_,hg' b hgo⟩) (fun _ _=>rfl) (fun R' hR'=>?_)
  (fun b hb=>?_) (.inr fun R0 hR0=>?_) (fun hx=>by simp at hx)
 ·rintro rfl
  rcases hw.own with e | ⟨q1,_,_,e,_⟩
  ·exact hnh e
  ·exact hna q1 e
 ·cases hR';have hhd : ∀b k,hold r = .mem b k→g b = .hd r:=by
   intro b k hκ;cases hb:R.box with
   | true=>
    obtain ⟨b',o',e1,e2,e3⟩:=ok.box hb;rw[hκ] at e1;cases e1;exact e2
   | false=>
    obtain ⟨vs,e1⟩:=ok.reg hb;rw[hκ] at e1;cases e1
  refine ⟨?_,fun hb=>?_,fun hb=>ok.reg (by rw[← l3];exact hb)⟩
  ·simp only[l1,l2];refine Rep.update hE hsub₁ rfl l4' hway hput (t₁:=c.t) (by simpa using hnew) ?_ ?_ ?_
   ·intro b hb;refine ⟨mR fun q=>?_,fun n hn=>hout b n hn,fun n hn=>hblk' b n hn⟩
    rcases hb with hb | ⟨q',hb,_⟩
    ·rw[hb];simp
    ·rw[hb];simp[Ne.symm hDr]
   ·intro k _ hne;cases hκ:hold r with
    | reg vs k0=>rfl
    | mem b k0=>
     rw[hκ] at hne;simp only[aE.add,rd];refine hout b (k0+k) ?_;rintro ⟨rfl,h2,h3⟩
     exact hne (k0+k) rfl ⟨h2,h3⟩
   ·intro b k0 hκ;have:g₁ b = .hd r:=go_hd (hhd b k0 hκ)
    rw[this];simp
  ·obtain ⟨b',o',e1,e2,e3⟩:=ok.box (by rw[← l3];exact hb)
   refine ⟨b',o',e1,?_,by simp only[l1];exact hblk' _ _ e3⟩
   rw[hg' b',e2];rintro ⟨e,_,q,hq⟩;rw[e2] at hq;cases hq
 ·show b < _
  rw[z1];exact h.bnd b (cE (qD hb))
 ·rw[hRs] at hR0;cases hR0;exact vh hE ok hsub (R':={ R1 with t:=R1.t.put p c.t,o:=o' }) dj l1 hout (by simp[aJ,bZ])
end
section
variable {P:Program} {E:Env} {n:Nat} {st:St} {a:Act} {w:World} {g:Gh} {hold:Nat→aE} {look rt:Nat→Option Rt} {o:Oper} {b:Bool}
theorem wW : ∀{p q:List aH},ka p q=true→p=q
 | [],[],_=>rfl
 | .fld i :: p,.fld j :: q,h=>by
  simp only[ka,Bool.and_eq_true] at h;rw[Nat.eq_of_beq_eq_true h.1,wW h.2]
 | .idx i :: p,.idx j :: q,h=>by
  simp only[ka,Bool.and_eq_true] at h;rw[Nat.eq_of_beq_eq_true h.1,wW h.2]
 | [],_ :: _,h=>by simp[ka] at h
 | .fld _ :: _,[],h=>by simp[ka] at h
 | .idx _ :: _,[],h=>by simp[ka] at h
 | .fld _ :: _,.idx _ :: _,h=>by simp[ka] at h
 | .idx _ :: _,.fld _ :: _,h=>by simp[ka] at h
theorem sh_zero : ∀(q:List aH),sh 0 q=q
 | []=>rfl
 | .fld _ :: _=>rfl
 | .idx k :: q=>by simp[sh]
theorem Bw (hE:bl E) (h:Inv E n st a w g hold) {r:Nat} {R:Rt} (hRs:st.rt r=some R) {t:Nat} {p:List aH} {ay:AV} {tn:T} {v:Value} (hb:sE t r p R ay=some (tn,p))
  (ho:(R.o.get p).own=true) (hy:aO E w g st.rt hold ay v):Rep E w g t tn (R.o.get p) r p (.reg v.cells.toList 0)∧bd E t v:=by
 cases ay with
 | alt ty' r' q t'=>
  simp only[sE] at hb;cases hc:(Nat.beq t ty'&&(Nat.beq r r'&&nV p q)) with
  | false=>simp[hc] at hb
  | true=>
   simp[hc] at hb
   obtain ⟨rfl,rfl⟩:=hb;simp only[Bool.and_eq_true] at hc;have:=Nat.eq_of_beq_eq_true hc.1;subst this;have:=Nat.eq_of_beq_eq_true hc.2.1;subst this;cases hy with
   | alt a1 a2 a3 a4 a5 a6=>rw[hRs] at a1;cases a1;exact ⟨a5,a2⟩
 | sub ty' r' q lo hi=>
  simp only[sE] at hb;cases hc:(Nat.beq t ty'&&(Nat.beq r r'&&(nV p q&&(!dq p&&Nat.beq lo 0)))) with
  | false=>simp[hc] at hb
  | true=>
   simp[hc] at hb
   obtain ⟨rfl,rfl⟩:=hb;simp only[Bool.and_eq_true] at hc;have:=Nat.eq_of_beq_eq_true hc.1;subst this;have:=Nat.eq_of_beq_eq_true hc.2.1;subst this;have:=Nat.eq_of_beq_eq_true hc.2.2.2.2;subst this;cases hy with
   | sub a1 a2 a3 a4 a5 a6 a7 a8 a9=>
    rw[hRs] at a1;cases a1;exact ⟨(eS (h.rts r R hRs) a3).cutTo hE a2 (by rw[ho];rfl) a4 a5 a6 a7 a8 a9 (fun b hb=>hb) (fun b q hq=>by rw[sh_zero];exact hq),bq hE (by simp[a2]) rfl⟩
 | _=>simp[sE] at hb
theorem Br (hP:ba P E) (h:Inv E n st a w g hold) {r:Nat} {R:Rt} (hRs:st.rt r=some R) {ty:Nat} {p:List aH} {B x:Nat} (hw:Wrt E w g hold r R ty p B x)
  (hway:R.o.way p=true) (ho:(R.o.get p).own=true) {v:Value} {t:T} (hv:Rep E w g ty t (R.o.get p) r p (.reg v.cells.toList 0)) (hsh:bd E ty v) {u:Value} :
  Stp w g (w.setCells B x v.cells.toList) g∧
   Inv E n (aX none ⟨.undef,[(r,some { R with t:=R.t.put p t })],[(r,q8 R p)]⟩ st) (a.put none u) (w.setCells B x v.cells.toList) g hold:=by
 have hE:=hP.wf;obtain ⟨m,hblk,hm⟩:=hw.blk;obtain ⟨z1,z2,z3,z4⟩:=gL B v.cells.toList x w;have ok:=h.rts r R hRs;have hBn:g B≠.free:=by rcases hw.own with e | ⟨_,_,_,e,_⟩ <;> rw[e] <;> simp
 have hBf:g B≠.frz:=by rcases hw.own with e | ⟨_,_,_,e,_⟩ <;> rw[e] <;> simp
 have hin : ∀k,k < E.sz ty→(w.setCells B x v.cells.toList).cell? ⟨B,x+k,none⟩=v.cells.toList[k]?:=by
  intro k hk;have:=World.cell?_setCells_in B v.cells.toList x w (fun j hj=>iO hblk (by simp[hsh.1] at hj;omega)) k (by simpa[hsh.1] using hk)
  rw[this,List.getElem?_eq_getElem]
 have hout : ∀b k,¬(b=B∧x≤k∧k < x+E.sz ty)→(w.setCells B x v.cells.toList).cell? ⟨b,k,none⟩=w.cell? ⟨b,k,none⟩:=by
  intro b k hn;refine World.cell?_setCells_out B v.cells.toList x w _ fun h1 _=>?_
  simp only at h1;subst h1;simp only[Array.length_toList,hsh.1];rcases Nat.lt_or_ge k x with h2 | h2
  ·exact .inl h2
  ·exact .inr (by rcases Nat.lt_or_ge k (x+E.sz ty) with h3 | h3;exact absurd ⟨rfl,h2,h3⟩ hn;exact h3)
 have hsame : ∀b,g b≠.free→b≠B→aP w (w.setCells B x v.cells.toList) b:=fun b hb hne=>uK (h.bnd b hb) hne
 have hblk' : ∀b n,ch w b n→ch (w.setCells B x v.cells.toList) b n:=by
  intro b n hb;by_cases hbB:b=B
  ·subst hbB;exact fO b n _ _ w hb
  ·obtain ⟨c,e,h1,h2⟩:=hb;have hlt:=(Array.getElem?_eq_some_iff.1 h1).1;exact ⟨c,e,by rw[World.heap_setCells_other w B x _ hlt hbB,h1],h2⟩
 have hnew:Rep E (w.setCells B x v.cells.toList) g ty t (R.o.get p) r p (.mem B x):=by
  refine hv.reloc hE (fun k hk=>?_) fun b hb=>⟨hsame b hb.nf ?_,rfl⟩
  ·simp only[aE.add,rd,Nat.zero_add];exact hin k hk
  ·rintro rfl
   rcases hb with hb | ⟨q,hb⟩
   ·exact hBf hb
   ·rcases hw.own with e | ⟨q1,i,q2,e,hp⟩
    ·rw[e] at hb;cases hb
    ·rw[e] at hb;simp only[Own.at.injEq] at hb;have:=congrArg List.length hp
     rw[hb.2] at this;simp at this
 refine ⟨⟨z2,z3,z4,by rw[z1];exact Nat.le_refl _,fun b hb hf=>⟨World.heap_setCells_other w B x _ hb (by rintro rfl;rcases hf with hf | hf;exact hBn hf;exact hBf hf),rfl⟩⟩,?_⟩
 refine kg (look:=st.rt) (es:=[]) hE h (fun _ _ h=>h) rfl (fun x hx=>by cases hx) (fun x hx=>by cases hx) (fun b hb _ hnh hna=>⟨hsame b hb ?_,rfl⟩) (fun _ _=>rfl) (fun R' hR'=>?_)
  (fun b hb=>by rw[z1];exact h.bnd b hb) (.inr fun R0 hR0=>?_) (fun hx=>by simp at hx)
 ·rintro rfl
  rcases hw.own with e | ⟨q1,_,_,e,_⟩
  ·exact hnh e
  ·exact hna q1 e
 ·cases hR';refine ⟨?_,fun hb=>?_,fun hb=>ok.reg hb⟩
  ·refine Rep.update hE hw.sub rfl ok.rep hway (lx.self hw.sub R.o hway) (t₁:=t) (by simpa using hnew) ?_ ?_ ?_
   ·intro b _;exact ⟨rfl,fun n hn=>hout b n hn,fun n hn=>hblk' b n hn⟩
   ·intro k _ hne;cases hκ:hold r with
    | reg vs k0=>rfl
    | mem b k0=>
     rw[hκ] at hne;simp only[aE.add,rd];refine hout b (k0+k) ?_;rintro ⟨rfl,h2,h3⟩
     exact hne (k0+k) rfl ⟨h2,h3⟩
   ·intro b k0 hκ;cases hb:R.box with
    | true=>
     obtain ⟨b',o',e1,e2,e3⟩:=ok.box hb;rw[hκ] at e1;cases e1;rw[e2];simp
    | false=>
     obtain ⟨vs,e1⟩:=ok.reg hb;rw[hκ] at e1;cases e1
  ·obtain ⟨b',o',e1,e2,e3⟩:=ok.box hb;exact ⟨b',o',e1,e2,hblk' _ _ e3⟩
 ·rw[hRs] at hR0;cases hR0;exact vh hE ok hw.sub (R':={ R with t:=R.t.put p t }) dj rfl hout (by simp[aJ,bZ])
theorem store_ok (hP:ba P E) (h:Inv E n st a w g hold) (hl : ∀r R,look r=some R→st.rt r=some R) (hdn:o.dst=none) {t:Nat} {x y:Operand} {e:Eff}
  (hop:o.op = .store t x y) {ax ay:AV} (hx:b=true→aO E w g st.rt hold ax (a.eval x)) (hy:b=true→aO E w g st.rt hold ay (a.eval y)) (hok:bN E t=true)
  (he:zR E look t b ax ay=some e):eG P E n st a w g hold o e:=by
 unfold zR at he;split at he
 rotate_left
 ·cases he
 rename_i ty r p
 split at he
 ·cases he
 rename_i R hR
 have hRs:=hl r R hR;split at he
 ·rename_i tn q hbk
  generalize hz:(Nat.beq t ty&&(R.o.way p&&((R.o.get p).own&&(R.o.get p).live)))=z at he
  cases z with
  | false=>simp at he
  | true=>
   simp only[cond_true,Option.some.injEq] at he;subst he;simp only[Bool.and_eq_true] at hz;obtain ⟨h1,h2,h3,h4⟩:=hz;have:=Nat.eq_of_beq_eq_true h1;subst this;refine ⟨rfl,rfl,fun hp=>?_⟩
   simp only[Bool.and_eq_true] at hp;have hx:=hx hp.1;generalize hev:a.eval x=vx at hx
   cases hx with
   | pref a1 a2=>
    rename_i B x0 R0
    rw[hRs] at a1;cases a1;have hpq:=wW hp.2;subst hpq;obtain ⟨hrep,hsh⟩:=Bw hP.wf h hRs hbk h3 (hy hp.1);have hw:=zY hP.wf (h.rts r R hRs) a2 (h.rts r R hRs).rep h2;obtain ⟨m,m1,m2⟩:=hw.blk;have hone:=uE hP.wf hrep h4 hsh.1;show Does P E n st a w g hold o _
    refine ⟨.skip,w.setCells B x0 (a.eval y).cells.toList,Go.undef,g,hold,?_,.inr ⟨rfl,rfl⟩,?_⟩
    ·have:=sd (P:=P) hP hok m1 m2 hsh.1 hone
     simp[execOp,hop,hev,this]
    ·obtain ⟨k1,k2⟩:=Br hP h hRs hw h2 h3 hrep hsh (u:=Go.undef);exact ⟨k1,fun _ _=>rfl,by rw[hdn];exact k2⟩
 split at he
 ·cases he
 rename_i c hc
 generalize hz:(Nat.beq t ty&&(bP c.mv&&R.o.way p))=z at he
 cases z with
 | false=>simp at he
 | true=>
  simp only[cond_true] at he;simp only[Bool.and_eq_true] at hz;obtain ⟨h1,h2,h3⟩:=hz;have:=Nat.eq_of_beq_eq_true h1;subst this;have ptr:b=true→∃B x0,a.eval x = .pointer (some ⟨B,x0,none⟩)∧Sub E w g r R.ty [] (hold r) p t (.mem B x0):=by
   intro hb;have hx:=hx hb;generalize hev:a.eval x=vx at hx
   cases hx with
   | pref a1 a2=>rw[hRs] at a1;cases a1;exact ⟨_,_,rfl,a2⟩
  have fin : ∀{B x0 m:Nat} {u:Upd},a.eval x = .pointer (some ⟨B,x0,none⟩)→ch w B m→x0+E.sz t≤m→bd E t (a.eval y)→(∀u∈(a.eval y).cells.toList,u.oneCell'=true)→
    (∃g',Stp w g (w.setCells B x0 (a.eval y).cells.toList) g'∧Inv E n (aX none u st) (a.put none Go.undef) (w.setCells B x0 (a.eval y).cells.toList) g' hold)→
    Does P E n st a w g hold o u:=by
   intro B x0 m u hev hblk hm hsh hone ⟨g',k1,k2⟩
   refine ⟨.skip,_,Go.undef,g',hold,?_,.inr ⟨rfl,rfl⟩,k1,fun _ _=>rfl,by rw[hdn];exact k2⟩
   have:=sd (P:=P) hP hok hblk hm hsh.1 hone
   simp[execOp,hop,hev,this]
  cases hfl:E.flat t with
  | true=>
   simp only[hfl,cond_true] at he;cases hlv:((R.o.get p).live&&c.mv.isEmpty) with
   | false=>simp[hlv] at he
   | true=>
    simp only[hlv,cond_true,Option.some.injEq] at he;subst he;simp only[Bool.and_eq_true] at hlv;refine ⟨rfl,rfl,fun hb=>?_⟩
    obtain ⟨B,x0,hev,hsub⟩:=ptr hb;obtain ⟨hsh,hen,hsrc,hrep⟩:=jh hP.wf hl h.rts hc (hy hb);have hmv:srcs (dk [] ay) = []:=by rw[hen];exact List.isEmpty_iff.1 hlv.2
    have hrep0:=hrep 0 [] g (fun b hb=>hb) (by
     have:dk [] ay = []:=by simpa[srcs] using hmv
     rw[this];intro e he;cases he)
    have hw:=zY hP.wf (h.rts r R hRs) hsub (h.rts r R hRs).rep h3;obtain ⟨m,hm1,hm2⟩:=hw.blk;refine fin hev hm1 hm2 hsh (uE hP.wf hrep0 (gG hc) hsh.1) ⟨g,?_⟩;exact Bs hP h hRs hw h3 hlv.1 hfl (gG hc) hrep0 hsh
  | false=>
   simp only[hfl,cond_false] at he;split at he
   ·cases he
   rename_i R1 hR1
   cases hw1:R1.o.way p with
   | false=>simp[hw1] at he
   | true=>
    simp only[hw1,cond_true] at he;have htys:R1.ty=R.ty:=by
     cases hm:mem r (dy c.mv) with
     | false=>rw[hm] at hR1;simp at hR1;rw[hR1]
     | true=>
      rw[hm,cond_true,uB] at hR1;have key : ∀(l:List (Nat × List aH)) (R0:Option Rt),(∀R,R0=some R→R.ty=R.ty)→∀R',l.foldl (kS E r) R0=some R'→∃R,R0=some R∧R'.ty=R.ty:=by
       intro l;induction l with
       | nil=>intro R0 _ R' h;exact ⟨R',h,rfl⟩
       | cons y l ih=>
        intro R0 _ R' h;obtain ⟨R2,i1,i2⟩:=ih _ (fun _ _=>rfl) R' h
        unfold kS at i1;cases hb:Nat.beq y.1 r with
        | false=>rw[hb] at i1;simp at i1;exact ⟨R2,i1,i2⟩
        | true=>
         rw[hb] at i1;simp only[cond_true] at i1;split at i1
         ·cases i1;exact ⟨_,rfl,i2⟩
         ·rename_i R3 _ _
          cases hbx:R3.box <;> rw[hbx] at i1 <;> simp at i1
          subst i1;exact ⟨_,rfl,i2⟩
         ·cases i1
      obtain ⟨R2,i1,i2⟩:=key _ _ (fun _ _=>rfl) R1 hR1
      cases i1;exact i2
    cases hn:dq p with
    | true=>
     simp only[hn,cond_true,Option.some.injEq] at he;subst he;refine ⟨rfl,rfl,fun hb=>?_⟩
     obtain ⟨B,x0,hev,hsub⟩:=ptr hb;have hput:=uh hsub (o:=R1.o) (x:=c.o) hn
     rw[← htys] at hput;obtain ⟨⟨m,m1,m2⟩,hsh,hone,g',k1,k2⟩:=wj hP h hl hR hsub hc (hy hb) h2 hR1 hw1 (ST (le_refl _ (gG hc))) (by rw[← htys];exact hput) (u:=Go.undef)
     exact fin hev m1 m2 hsh hone ⟨g',k1,k2⟩
    | false=>
     simp only[hn,cond_false] at he;cases hq:((R1.o.get p).live&&leT E (R1.o.get p) t c.o) with
     | false=>simp[hq] at he
     | true=>
      simp only[hq,cond_true,Option.some.injEq] at he;subst he;simp only[Bool.and_eq_true] at hq;refine ⟨rfl,rfl,fun hb=>?_⟩
      obtain ⟨B,x0,hev,hsub⟩:=ptr hb;obtain ⟨⟨m,m1,m2⟩,hsh,hone,g',k1,k2⟩:=wj hP h hl hR hsub hc (hy hb) h2 hR1 hw1 hq.2 (lx.self hsub R1.o hw1) (u:=Go.undef);exact fin hev m1 m2 hsh hone ⟨g',k1,k2⟩
theorem pr (hP:ba P E) (h:Inv E n st a w g hold) (hl : ∀r R,look r=some R→st.rt r=some R) (hd : ∀x,o.dst=some x→x < n) {fi:Fi} {d ty:Nat} {x:Operand} {e:Eff}
  (hop:o.op = .assign x) {av:AV} (hx:b=true→aO E w g st.rt hold av (a.eval x)) (hd9:d < 100000) (hsl:(isSl E ty).isSome=true)
  (hav : ∀v t' c,aO E w g st.rt hold av v→take E look ty av=some ⟨t',c,(dk [] av).map fun e=>(e.1,e.2.1)⟩→∃A k c,v = .slice A k c) (he:pG fi E look d ty b av=some e):eG P E n st a w g hold o e:=by
 have hrun:(execOp a.eval o).run P w = .ok (.value (a.eval x)) w:=by simp[execOp,hop]
 obtain ⟨et,hty⟩ : ∃et,E.ty ty = .sl et:=by
  unfold isSl at hsl;split at hsl
  ·rename_i et het;exact ⟨et,het⟩
  ·cases hsl
 unfold pG at he;split at he
 rotate_left
 ·cases he
 rename_i c hc
 cases hm:bP c.mv with
 | false=>simp[hm] at he
 | true=>
  simp only[hm,cond_true] at he;refine eG.mk (v:=a.eval x) (fun hb=>⟨w,hrun,?_⟩) (mb he)
  obtain ⟨hsh,hen,hsrc,hrep⟩:=jh hP.wf hl h.rts hc (hx hb);have hen0:=hen [];have hsrc' : ∀x∈srcs (dk [] av),eH E w g st.rt look hold x:=by rw[hen0];exact hsrc
  have hm':bP (srcs (dk [] av))=true:=by rw[hen0];exact hm
  have hsv : ∃A k cp,a.eval x = .slice A k cp:=hav (a.eval x) c.t c.o (hx hb) (by rw[hc];congr 1;cases c;simp only[mo.mk.injEq,true_and];exact hen0.symm)
  obtain ⟨A,k,cp,hval⟩:=hsv;have hr0:=hrep d [] (go (dk [] av) d g) (fun b hb=>ez hb) (jT hm')
  rw[hval] at hr0;refine vV (κ:=.reg [a.eval x] 0) hP.wf h hl hm' hsrc' (by rw[hen0];exact he) hd hd9 (g₁:=go (dk [] av) d g) (fun b _ hng _=>⟨aP.refl _ _,bX hng⟩) (fun b hb=>h.bnd b (cE hb))
   ⟨rfl,rfl,rfl,Nat.le_refl _⟩ (fun b _ hf=>⟨rfl,by rcases hf with hf | hf <;> rw[hf];exact pL hf;exact ez hf⟩) (by rw[hval];exact hr0) (.inl ⟨rfl,rfl,A,k,cp,et,hval,hty⟩)
theorem Bv (hP:ba P E) (h:Inv E n st a w g hold) (hl : ∀r R,look r=some R→st.rt r=some R) (hd : ∀x,o.dst=some x→x < n) {fi:Fi} {d ty:Nat} {x:Operand} {e:Eff}
  (hop:o.op = .assign x) {av:AV} (hx:b=true→aO E w g st.rt hold av (a.eval x)) (hd9:d < 100000) (he:wG fi E look d ty b av=some e):eG P E n st a w g hold o e:=by
 have plain : ∀{av':AV},(b=true→aO E w g st.rt hold av' (a.eval x))→one b av'=some e→eG P E n st a w g hold o e:=fun hx he=>(yK hop hx he).acts hP.wf h hd
 unfold wG at he;split at he
 ·rename_i ty' r
  cases hrd:(Nat.beq r d||mem d fi.pin) with
  | true=>simp only[hrd,cond_true] at he;exact plain hx he
  | false=>
   simp only[hrd,cond_false] at he;cases hsl:(isSl E ty).isSome with
   | false=>simp[hsl] at he
   | true=>
    simp only[hsl,cond_true] at he;exact pr hP h hl hd hop hx hd9 hsl (fun v t c hv _=>by cases hv;exact ⟨_,_,_,rfl⟩) he
 ·cases hsl:(isSl E ty).isSome with
  | false=>simp[hsl] at he
  | true=>
   simp only[hsl,cond_true] at he;exact pr hP h hl hd hop hx hd9 hsl (fun v t c hv _=>by cases hv;exact ⟨_,_,_,rfl⟩) he
 ·cases hsl:(isSl E ty).isSome with
  | false=>simp[hsl] at he
  | true=>
   simp only[hsl,cond_true] at he;exact pr hP h hl hd hop hx hd9 hsl (fun v t c hv _=>by cases hv;exact ⟨_,_,_,rfl⟩) he
 ·rename_i v
  split at he
  ·rename_i t ht
   cases hsl:(isSl E ty).isSome with
   | false=>
    simp only[hsl,cond_false] at he;exact plain (fun hb=>tB hP.wf ht (hx hb)) he
   | true=>
    simp only[hsl,cond_true] at he;refine pr hP h hl hd hop hx hd9 hsl (fun v' t' c hv _=>?_) he
    cases hv;obtain ⟨et,hty⟩ : ∃et,E.ty ty = .sl et:=by
     unfold isSl at hsl;split at hsl
     ·rename_i et het;exact ⟨et,het⟩
     ·cases hsl
    rw[hty] at ht;unfold jL at ht;split at ht <;> simp_all
  ·exact plain hx he
 ·exact plain hx he
end
theorem Rep.relocD {E:Env} {w:World} {g:Gh} (hE:bl E) {ty:Nat} {t:T} {o:O} {r:Nat} {p:List aH} {κ:aE} (h:Rep E w g ty t o r p κ)
  {w':World} {g':Gh} {r':Nat} {p':List aH} {κ':aE} : o.geFo=true→E.nofn ty=true→(∀b,b < E.old→aP w w' b∧g' b = .frz)→
  (∀k,k < E.sz ty→rd w' (κ'.add k)=rd w (κ.add k))→(∀b q,g b = .at r (p++q)→aP w w' b∧g' b = .at r' (p'++q))→Rep E w' g' ty t o r' p' κ':=by
 induction h generalizing κ' p' with
 | int h1 h2=>intro _ _ _ hc hb;exact .int h1 (by rw[← h2];simpa[aE.add_zero] using hc 0 (by rw[hE.one _ (by simp[h1])];omega))
 | bool h1 h2=>intro _ _ _ hc hb;exact .bool h1 (by rw[← h2];simpa[aE.add_zero] using hc 0 (by rw[hE.one _ (by simp[h1])];omega))
 | str h1 h2=>intro _ _ _ hc hb;exact .str h1 (by rw[← h2];simpa[aE.add_zero] using hc 0 (by rw[hE.one _ (by simp[h1])];omega))
 | fn vs cts h1=>intro _ hn;rw[hE.nofn_fn _ _ _ h1] at hn;cases hn
 | cp h1=>intro _ hn;rw[hE.nofn_cp _ _ h1] at hn;cases hn
 | dead=>intro hd;simp[O.geFo] at hd
 | fz0 h1 h2=>intro hd;simp[O.geFo] at hd
 | fz h1 h2 h3 h4 h5 h6 ih=>intro hd;simp[O.geFo] at hd
 | fo0 h1 h2=>intro _ _ _ hc hb;exact .fo0 h1 (by rw[← h2];simpa[aE.add_zero] using hc 0 (by rw[hE.one _ (by simp[h1])];omega))
 | fo h1 h2 h3 h4 h5 h5' h6 ih=>
  intro hd hn hold hc hb;refine .fo h1 (by rw[← h2];simpa[aE.add_zero] using hc 0 (by rw[hE.one _ (by simp[h1])];omega)) h3 h4 (hold _ h5').2 h5' fun i t hi=>?_
  exact ih i t hi hd (hE.nofn_sl _ _ h1 hn) hold (fun k _=>(hold _ h5').1.1 _) hb
 | own0 h1 h2 h3=>intro _ _ _ hc hb;exact .own0 h1 h2 (by rw[← h3];simpa[aE.add_zero] using hc 0 (by rw[hE.one _ (by simp[h1])];omega))
 | own h1 h2 h3 h4 h5 h6 h7 h8 ih=>
  intro hd hn hold hc hb;obtain ⟨l1,l2⟩:=hb _ [] (by rw[h6];simp)
  refine .own h1 h2 (by rw[← h3];simpa[aE.add_zero] using hc 0 (by rw[hE.one _ (by simp[h1])];omega)) h4 h5 (by simpa using l2) (l1.2 _ h7) fun i t hi=>?_
  exact ih i t hi (BS hd) (hE.nofn_sl _ _ h1 hn) hold (fun k _=>l1.1 _) fun b q hq=>by
   have:=hb b (.idx i :: q) (by rw[hq];simp)
   simpa using this
 | st h1 h2 h3 ih=>
  intro hd hn hold hc hb;refine .st h1 h2 fun j f t hf ht=>ih j f t hf ht (geFo_fld hd j) (hE.nofn_st _ _ h1 hn f (List.mem_of_getElem? hf)) hold (fun k hk=>?_) fun b q hq=>by
   have:=hb b (.fld j :: q) (by rw[hq];simp)
   simpa using this
  rw[aE.add_add,aE.add_add];exact hc _ (by rw[hE.sum _ _ h1];have:=eL (E:=E) hf;omega)
theorem Rep.deep {E:Env} {w:World} {g:Gh} (hE:bl E) {ty:Nat} {t:T} {o:O} {r:Nat} {p:List aH} {κ:aE} (h:Rep E w g ty t o r p κ) (hd:deep E ty o=true) (hl:o.live=true)
  {w':World} {g':Gh} {r':Nat} {p':List aH} {κ':aE} (hold : ∀b,b < E.old→aP w w' b∧g' b = .frz) (hc : ∀k,k < E.sz ty→rd w' (κ'.add k)=rd w (κ.add k))
  (hb : ∀b q,g b = .at r (p++q)→aP w w' b∧g' b = .at r' (p'++q)):Rep E w' g' ty t o r' p' κ':=by
 unfold Ra.deep at hd;simp only[Bool.or_eq_true,Bool.and_eq_true] at hd;rcases hd with hf | ⟨h1,h2⟩
 ·exact h.flat hE hl hf hc
 ·exact h.relocD hE h1 h2 hold hc hb
section
variable {E:Env} {w:World} {g:Gh} {rt look:Nat→Option Rt} {hold:Nat→aE}
theorem Rep.cutFz {ty e:Nat} {t:T} {r:Nat} {p:List aH} {κ:aE} (h:Rep E w g ty t .fz r p κ) (he:E.ty ty = .sl e)
  {A A':Option Addr} {len cap lo hi cap':Nat} (hv:rd w κ=some (.slice A len cap)) (h1:lo≤hi) (h2:hi≤len) (h3:hi - lo≤cap')
  (h5:(A=none∧A'=none)∨∃b x y,A=some ⟨b,x,none⟩∧A'=some ⟨b,y,none⟩∧y≤x+lo * E.sz e∧(cap'=0∨y=x+lo * E.sz e)) :
  Rep E w g ty (t.cut lo hi) .fz 0 [] (.reg [.slice A' (hi - lo) cap'] 0):=by
 cases h with
 | fz0 a1 a2=>
  rw[hv] at a2;cases a2;have:hi=0:=by omega
  subst this;simp only[T.cut,T.es,List.take_nil,List.drop_nil];exact .fz0 (A:=A') (cap:=cap') he (by simp[rd])
 | @fz _ e' es a cap₁ _ _ _ a1 a2 a3 a4 a5 a6=>
  rw[he] at a1;cases a1;rw[hv] at a2;cases a2;have hes:(T.sl es).cut lo hi = .sl ((es.take hi).drop lo):=rfl
  rw[hes];have hlen':((es.take hi).drop lo).length=hi - lo:=by simp;omega
  rcases h5 with ⟨hA,_⟩ | ⟨b,x,y,hA,rfl,hy,hy'⟩
  ·cases hA
  ·cases hA;refine .fz (a:=⟨b,y,none⟩) he (by rw[hlen'];rfl) rfl (by rw[hlen'];exact h3) a5 ?_
   intro i t hi';obtain ⟨b1,b2⟩:=pH hi';have hc0:cap'≠0:=by omega
   have hy'':y=x+lo * E.sz e:=by rcases hy' with h | h;exact absurd h hc0;exact h
   have:=(a6 (lo+i) t b1).frozen rfl (fun _ h=>h) 0 []
   rw[Nat.add_mul] at this;simpa[hy'',Nat.add_assoc] using this
 | own0 _ h=>simp[O.own] at h
 | own _ h=>simp[O.own] at h
 | _=>simp_all
theorem Rep.freeze {ty:Nat} {t:T} {o:O} {r:Nat} {p:List aH} {κ:aE} (h:Rep E w g ty t o r p κ) (ho:o.live=true) {g':Gh} (hf : ∀b,g b = .frz→g' b = .frz)
  (hr : ∀b q,g b = .at r q→g' b = .frz):Rep E w g' ty t .fz 0 [] κ:=
 h.move (o':=.fz) (by simpa[O.le] using ho) ⟨hf,fun b q hq=>by
  have:(O.fz.get q).isFz=true:=by
   have : ∀q,O.get .fz q = .fz:=by intro q;induction q with
    | nil=>rfl
    | cons s q ih=>cases s <;> exact ih
   rw[this];rfl
  rw[if_pos this];exact hr b _ hq⟩
mutual
theorem CA (hE:bl E) (hl : ∀r R,look r=some R→rt r=some R) (hr : ∀r R,rt r=some R→dF E w g hold r R) {g':Gh} (hf : ∀b,g b = .frz→g' b = .frz) :
  ∀{av:AV} {ty:Nat} {t:T} {v:Value},sn E look ty av=some t→aO E w g rt hold av v→(∀r∈av.refs,∀b q,g b = .at r q→g' b = .frz)→
  Rep E w g' ty t .fz 0 [] (.reg v.cells.toList 0)∧bd E ty v
 | .sref ty' r p,ty,t,v,h,hv,hg=>by
  simp only[sn] at h;cases hlr:look r with
  | none=>simp[hlr] at h
  | some R=>
   simp only[hlr] at h;cases hc:Nat.beq ty' ty&&(R.o.get p).live with
   | false=>simp[hc] at h
   | true=>
    simp[hc] at h;subst h;simp only[Bool.and_eq_true] at hc;have:=Nat.eq_of_beq_eq_true hc.1;subst this;cases hv with
    | sref h1 h2 h3 h4=>
     rw[hl _ _ hlr] at h1;cases h1;have hrep:=(eS (hr _ _ (hl _ _ hlr)) h3).freeze hc.2 hf (hg r (by simp[AV.refs]))
     refine ⟨hrep.place hE fun k hk=>?_,bq hE (by simp[h2]) rfl⟩
     rw[hE.one _ (by simp[h2])] at hk
     obtain rfl:k=0:=by omega
     rw[aE.add_zero,aE.add_zero,h4];rfl
 | .sub ty' r p lo hi,ty,t,v,h,hv,hg=>by
  simp only[sn] at h;cases hlr:look r with
  | none=>simp[hlr] at h
  | some R=>
   simp only[hlr] at h;cases hc:Nat.beq ty' ty&&(R.o.get p).live with
   | false=>simp[hc] at h
   | true=>
    simp[hc] at h;subst h;simp only[Bool.and_eq_true] at hc;have:=Nat.eq_of_beq_eq_true hc.1;subst this;cases hv with
    | sub h1 h2 h3 h4 h5 h6 h7 h8 h9=>
     rw[hl _ _ hlr] at h1;cases h1;have hrep:=(eS (hr _ _ (hl _ _ hlr)) h3).freeze hc.2 hf (hg r (by simp[AV.refs]))
     exact ⟨hrep.cutFz h2 h4 h5 h6 h7 h9,bq hE (by simp[h2]) rfl⟩
 | .val ty' t',ty,t,v,h,hv,_=>by
  obtain ⟨h1,h2⟩:=iZ hE (show sn E fB ty (.val ty' t')=some t by simpa[sn] using h) hv
  exact ⟨h1.frozen rfl hf _ _,h2⟩
 | .cst c,ty,t,v,h,hv,_=>by
  obtain ⟨h1,h2⟩:=iZ hE (show sn E fB ty (.cst c)=some t by simpa[sn] using h) hv
  exact ⟨h1.frozen rfl hf _ _,h2⟩
 | .nil ty',ty,t,v,h,hv,_=>by
  obtain ⟨h1,h2⟩:=iZ hE (show sn E fB ty (.nil ty')=some t by simpa[sn] using h) hv
  exact ⟨h1.frozen rfl hf _ _,h2⟩
 | .fnc f,ty,t,v,h,hv,_=>by
  obtain ⟨h1,h2⟩:=iZ hE (show sn E fB ty (.fnc f)=some t by simpa[sn] using h) hv
  exact ⟨h1.frozen rfl hf _ _,h2⟩
 | .agg ty' l,ty,t,v,h,hv,hg=>by
  simp only[sn] at h;split at h
  ·rename_i fs he
   cases hb:Nat.beq ty' ty with
   | false=>simp[hb] at h
   | true=>
    simp[hb] at h
    obtain ⟨ts,hts,rfl⟩:=h;have:=Nat.eq_of_beq_eq_true hb;subst this;cases hv with
    | agg h1 h2 h3 h4 h5=>
     rename_i vs
     rw[he] at h1;cases h1;have hl':=AP hE hl hr hf hts (by simpa[AV.refs] using hg)
     refine ⟨.st he hl'.1 fun j f t hf' ht=>?_,bd.agg hE he h3 h5⟩
     have hjl:j < fs.length:=(List.getElem?_eq_some_iff.1 hf').1
     obtain ⟨v,hv⟩ : ∃v,vs[j]?=some v:=⟨vs[j]'(by omega),List.getElem?_eq_getElem _⟩
     obtain ⟨a,ha⟩ : ∃a,l[j]?=some a:=⟨l[j]'(by omega),List.getElem?_eq_getElem _⟩
     have hr:=(hl'.2 j f t a v hf' ht ha (h4 j a v ha hv)).1;have hr':Rep E w g' f t .fz 0 ([] ++ [.fld j]) (.reg v.cells.toList 0):=hr.frozen rfl (fun _ h=>h) _ _
     refine hr'.place hE fun k hk=>?_
     have:=fG h3 h5 j f v hf' hv k hk
     simpa[aE.add,rd,Value.cells] using this
  ·cases h
 | .undef,ty,t,v,h,hv,_=>by simp[sn] at h
 | .gd b a,ty,t,v,h,hv,_=>by simp[sn] at h
 | .pref _ _ _,ty,t,v,h,hv,_=>by simp[sn] at h
 | .fptr _ _,ty,t,v,h,hv,_=>by simp[sn] at h
 | .ln _ _,ty,t,v,h,hv,_=>by simp[sn] at h
 | .pv ty' a,ty,t,v,h,hv,hg=>by
  simp only[sn] at h;split at h
  ·rename_i e he
   cases hb:Nat.beq e ty' with
   | false=>simp[hb] at h
   | true=>
    simp only[hb,cond_true] at h;have:=Nat.eq_of_beq_eq_true hb;subst this;cases hv with
    | pv h1 h2 h3 h4=>
     obtain ⟨r1,_⟩:=CA hE hl hr hf h h1 (by simpa[AV.refs] using hg)
     refine ⟨.cp he rfl rfl (hf _ h3) (r1.place hE fun k hk=>?_),bq hE (by simp[he]) rfl⟩
     simp only[aE.add,rd,Nat.zero_add];rw[h4 k hk];simp
  ·cases h
 | .alt ty' r p t',ty,t,v,h,hv,hg=>by
  simp only[sn] at h;split at h
  ·cases hb:Nat.beq ty' ty with
   | false=>simp[hb] at h
   | true=>
    simp[hb] at h;subst h;have:=Nat.eq_of_beq_eq_true hb;subst this;cases hv with
    | alt a1 a2 a3 a4 a5 a6=>exact ⟨a5.freeze a3 hf (hg r (by simp[AV.refs])),a2⟩
  ·cases h
 | .row ty' d t0 a,ty,t,v,h,hv,hg=>by
  simp only[sn] at h;split at h
  ·rename_i Rd e hd he
   cases hb:Nat.beq ty' ty with
   | false=>simp[hb] at h
   | true=>
    simp only[hb,cond_true,Option.map_eq_some_iff] at h;obtain ⟨x,hx,rfl⟩:=h;have:=Nat.eq_of_beq_eq_true hb;subst this;cases hv with
    | row a1 a2 a3 a4 a5 a6 a7 a8 a9=>
     rw[he] at a2;cases a2;obtain ⟨r1,_⟩:=CA hE hl hr hf hx a8 (fun r hr=>hg r (by simp[AV.refs,hr]))
     have hlen:(t0.es ++ [x]).length=t0.es.length+1:=by simp
     refine ⟨.fz he (by rw[hlen];rfl) rfl (by rw[hlen];exact a3) (hg d (by simp[AV.refs]) _ _ a4) fun i t' hi=>?_,bq hE (by simp[he]) rfl⟩
     rcases Nat.lt_or_ge i t0.es.length with hl' | hl'
     ·rw[List.getElem?_append_left hl'] at hi;exact (a6 i t' hi).frozen rfl hf _ _
     ·rw[List.getElem?_append_right hl'] at hi;have hi0:i=t0.es.length:=by
       have:=(List.getElem?_eq_some_iff.1 hi).1
       simp at this;omega
      subst hi0;simp at hi;subst hi;refine r1.place hE fun k hk=>?_
      simp only[aE.add,rd,Nat.zero_add];rw[a9 k hk];simp
  ·cases h
 | .tup _,ty,t,v,h,hv,_=>by simp[sn] at h
theorem AP (hE:bl E) (hl : ∀r R,look r=some R→rt r=some R) (hr : ∀r R,rt r=some R→dF E w g hold r R) {g':Gh} (hf : ∀b,g b = .frz→g' b = .frz) :
  ∀{l:List AV} {fs:List Nat} {ts:List T},snL E look fs l=some ts→(∀r∈AV.refsL l,∀b q,g b = .at r q→g' b = .frz)→ts.length=fs.length∧
  ∀(j f:Nat) (t:T) (a:AV) (v:Value),fs[j]?=some f→ts[j]?=some t→l[j]?=some a→aO E w g rt hold a v→Rep E w g' f t .fz 0 [] (.reg v.cells.toList 0)∧bd E f v
 | [],fs,ts,h,_=>by
  cases fs with
  | nil=>simp[snL] at h;subst h;exact ⟨rfl,fun j f t a v hf=>by simp at hf⟩
  | cons f fs=>simp[snL] at h
 | a :: l,fs,ts,h,hg=>by
  cases fs with
  | nil=>simp[snL] at h
  | cons f fs=>
   simp only[snL] at h;split at h
   ·rename_i t ts' h1 h2
    cases h;obtain ⟨i1,i2⟩:=AP hE hl hr hf h2 (fun r hr=>hg r (by simp[AV.refsL,hr]))
    refine ⟨by simp[i1],fun j f' t' a' v hf' ht ha hv=>?_⟩
    cases j with
    | zero=>simp at hf' ht ha;subst hf';subst ht;subst ha;exact CA hE hl hr hf h1 hv (fun r hr=>hg r (by simp[AV.refsL,hr]))
    | succ j=>exact i2 j f' t' a' v (by simpa using hf') (by simpa using ht) (by simpa using ha) hv
   ·cases h
end
end
theorem Rep.swap {E:Env} {w:World} {g:Gh} (hE:bl E) {r:Nat} {ty:Nat} {p:List aH} {κ:aE} {q:List aH} {ty₁:Nat} {κ₁:aE}
  (hs:Sub E w g r ty p κ q ty₁ κ₁) : ∀{t t₁:T} {o o₁ o':O} {w':World} {g':Gh},
  Rep E w g ty t o r p κ→o.way q=true→lx E ty o q o₁ o'→Rep E w' g' ty₁ t₁ o₁ r (p++q) κ₁→
  (∀b,(g b = .frz∨∃q',g b = .at r (p++q')∧¬q <+: q')→aP w w' b∧g' b=g b)→
  (∀k,k < E.sz ty→rd w' (κ.add k)=rd w (κ.add k))→Rep E w' g' ty (t.put q t₁) o' r p κ:=by
 induction hs with
 | nil=>
  intro t t₁ o o₁ o' w' g' h hw hp hn hb hi;cases hp;simpa[T.put] using hn
 | @fld ty fs j f p κ q ty' κ' h1 h2 hsub ih=>
  intro t t₁ o o₁ o' w' g' h hw hp hn hb hi;obtain ⟨fs',hp0,hp1,hp2⟩:=hp;rw[h1] at hp0;cases hp0;rw[jf h2] at hp2;have hj:j < fs.length:=(List.getElem?_eq_some_iff.1 h2).1
  cases h with
  | st a1 a2 a3=>
   rw[h1] at a1;cases a1;rename_i ts
   have hcell : ∀{k f':Nat},fs[k]?=some f'→∀m,m < E.sz f'→rd w' ((κ.add (off E fs k)).add m)=rd w ((κ.add (off E fs k)).add m):=by
    intro k f' hf m hm;rw[aE.add_add];exact hi _ (by rw[hE.sum _ _ h1];have:=eL (E:=E) hf;omega)
   refine .st h1 (by simp[T.fs,a2]) fun k f' t' hf' ht'=>?_
   by_cases hk:k=j
   ·subst hk;rw[h2] at hf';cases hf';simp only[T.fs] at ht';rw[List.getElem?_set_self (by omega)] at ht';cases ht'
    refine ih (a3 k _ _ h2 (jR (by omega))) (by cases o <;> simp_all[O.way]) hp2 (by simpa using hn) ?_ (hcell h2)
    intro b hb';exact hb b (hb'.imp id fun ⟨q',hq',hn'⟩=>⟨.fld k :: q',by rw[hq'];simp,rS hn'⟩)
   ·simp only[T.fs] at ht';rw[List.getElem?_set_ne (Ne.symm hk)] at ht';rw[hp1 k (List.getElem?_eq_some_iff.1 hf').1 hk];refine (a3 k f' t' hf' ht').frame hE (hcell hf') ?_;intro b hl;refine hb b (hl.imp id fun ⟨q',hl⟩=>⟨.fld k :: q',by rw[hl];simp,fun hpre=>?_⟩)
    have:=((List.cons_prefix_cons).1 hpre).1
    simp only[aH.fld.injEq] at this;exact hk this.symm
  | dead=>simp[O.way] at hw
  | _=>simp_all
 | @idx ty e a len cap i p κ q ty' κ' h1 h2 h3 h4 h5 hsub ih=>
  intro t t₁ o o₁ o' w' g' h hw hp hn hb hi;obtain ⟨e',hp0,hp1,hp2,hp3⟩:=hp;rw[h1] at hp0;cases hp0;simp only[O.way,Bool.and_eq_true] at hw;cases h with
  | own a1 a2 a3 a4 a5 a6 a7 a8=>
   rw[h1] at a1;cases a1;rw[h2] at a3;cases a3;rename_i es
   have hA:=hb a.block (.inr ⟨[],by simpa using h5,by simp⟩)
   refine .own (a:=a) (cap:=cap) h1 hp1 ?_ a4 (by simpa[T.es] using a5) (by rw[hA.2];exact h5) (hA.1.2 _ a7) fun k t' ht'=>?_
   ·have:=hi 0 (by rw[hE.one _ (by simp[h1])];omega)
    rw[aE.add_zero] at this;rw[this,h2];simp[T.es]
   ·rw[hp2];simp only[T.es] at ht';by_cases hk:k=i
    ·subst hk;rw[List.getElem?_set_self (by omega)] at ht';cases ht'
     refine ih (a8 k _ (rq h3)) hw.2 hp3 (by simpa using hn) ?_ fun m _=>hA.1.1 _
     intro b hb';exact hb b (hb'.imp id fun ⟨q',hq',hn'⟩=>⟨.idx k :: q',by rw[hq'];simp,rS hn'⟩)
    ·rw[List.getElem?_set_ne (Ne.symm hk)] at ht';refine (a8 k t' ht').frame hE (fun m _=>hA.1.1 _) ?_
     intro b hl;refine hb b (hl.imp id fun ⟨q',hl⟩=>⟨.idx k :: q',by rw[hl];simp,fun hpre=>?_⟩)
     have:=((List.cons_prefix_cons).1 hpre).1
     simp only[aH.idx.injEq] at this;exact hk this.symm
  | fz a1 a2 a3 a4 a5 a6=>rw[h2] at a2;cases a2;rw[h5] at a5;cases a5
  | fo a1 a2 a3 a4 a5 a6 a7=>rw[h2] at a2;cases a2;rw[h5] at a5;cases a5
  | fz0 a1 a2=>rw[h2] at a2;cases a2;omega
  | fo0 a1 a2=>rw[h2] at a2;cases a2;omega
  | own0 a1 a2 a3=>rw[h2] at a3;cases a3
  | dead=>simp[O.own] at hw
  | _=>simp_all
def VRes (vs:List Value) (v:Value):Prop:=match vs with
 | [x]=>v=x
 | _=>v = .tuple vs.toArray
def BoxOk (E:Env) (w:World) (g:Gh) (ty r:Nat) (t:T) (o:O) (v:Value):Prop:=
 ∃b x,v = .pointer (some ⟨b,x,none⟩)∧g b = .hd r∧ch w b (x+E.sz ty)∧Rep E w g ty t o r [] (.mem b x)
def MuOk (E:Env) (w:World) (g:Gh) (i ty:Nat) (m:Mode) (t:T) (v:Value):Prop:=
 match m with
 | .ro=>True
 | .mu o=>(∃e A k c,E.ty ty = .sl e∧v = .slice A k c)∧Rep E w g ty t o (aN i) [] (.reg [v] 0)
 | .bx o=>BoxOk E w g (fY E ty) (aN i) t o v
 | .mv _=>True
 | .ig=>True
def tu (E:Env) (w:World) (g:Gh) (i ty:Nat) (m:Mode) (t:T) (v:Value):Prop:=
 match m with
 | .ro=>Rep E w g ty t .fz 0 [] (.reg v.cells.toList 0)∧bd E ty v
 | .mv o=>Rep E w g ty t o (aN i) [] (.reg v.cells.toList 0)∧bd E ty v
 | .ig=>∃(n:Nat) (A:Option Addr) (c:Nat),n≤c∧t = .int n∧v = .slice A n c
 | m=>MuOk E w g i ty m t v
def kO (E:Env) (w:World) (g:Gh):Nat→List (Nat × Mode)→List T→List Value→Prop
 | _,[],[],[]=>True
 | i,(ty,m) :: ps,t :: ts,v :: vs=>tu E w g i ty m t v∧kO E w g (i+1) ps ts vs
 | _,_,_,_=>False
def cQ (E:Env) (w:World) (g:Gh):Nat→List (Nat × Mode)→List T→List Value→Prop
 | _,[],[],[]=>True
 | i,(_,.ro) :: ps,ts,_ :: vs=>cQ E w g (i+1) ps ts vs
 | i,(_,.mv _) :: ps,ts,_ :: vs=>cQ E w g (i+1) ps ts vs
 | i,(_,.ig) :: ps,ts,_ :: vs=>cQ E w g (i+1) ps ts vs
 | i,(ty,.mu o) :: ps,t :: ts,v :: vs=>MuOk E w g i ty (.mu o) t v∧cQ E w g (i+1) ps ts vs
 | i,(ty,.bx o) :: ps,t :: ts,v :: vs=>MuOk E w g i ty (.bx o) t v∧cQ E w g (i+1) ps ts vs
 | _,_,_,_=>False
def ResOk (E:Env) (w:World) (g:Gh) (j ty:Nat) (k:Ret) (t:T) (v:Value):Prop:=
 match k with
 | .vl o=>Rep E w g ty t o (eC j) [] (.reg v.cells.toList 0)∧bd E ty v
 | .bx o=>BoxOk E w g (fY E ty) (eC j) t o v
 | .ig=>∃(n:Nat) (A:Option Addr) (c:Nat),n≤c∧t = .int n∧v = .slice A n c
def j6 (E:Env) (w:World) (g:Gh):Nat→List (Nat × Ret)→List T→List Value→Prop
 | _,[],[],[]=>True
 | j,(ty,k) :: rs,t :: ts,v :: vs=>ResOk E w g j ty k t v∧j6 E w g (j+1) rs ts vs
 | _,_,_,_=>False
def Ts (E:Env) (fi:Fi) (w:World) (g:Gh) (vs:List Value) (res:List T) (e:Ending) (w':World):Prop:=
 ∃v g' rvs rts mts,res=rts++mts∧e = .returned v∧VRes rvs v∧Stp w g w' g'∧(∀b,g' b≠.free→b < w'.heap.size)∧
  j6 E w' g' 0 fi.rets rts rvs∧cQ E w' g' 0 fi.params mts vs
def nh (P:Program) (E:Env) (f:Nat) (fi:Fi) (C:List T→R):Prop:=
 ∀ts res,C ts=some res→∀(vs:List Value) (w:World) (g:Gh),(∀b,g b≠.free→b < w.heap.size)→Kn E w g→kO E w g 0 fi.params ts vs→
  Calls P (E.src f) vs.toArray w (Ts E fi w g vs res)
theorem cQ.regh {E:Env} {w:World} {g g':Gh} (hf : ∀b,g b = .frz→g' b = .frz) (ha : ∀b i q,i < 100000→g b = .at (aN i) q→g' b = .at (aN i) q)
  (hh : ∀b i,i < 100000→g b = .hd (aN i)→g' b = .hd (aN i)) : ∀{ps:List (Nat × Mode)} {i:Nat} {ts:List T} {vs:List Value},i+ps.length≤100000→cQ E w g i ps ts vs→cQ E w g' i ps ts vs:=by
 intro ps;induction ps with
 | nil=>intro i ts vs _ h;cases ts <;> cases vs <;> exact h
 | cons x ps ih=>
  intro i ts vs hn h;obtain ⟨ty,m⟩:=x;simp only[List.length_cons] at hn;cases vs with
  | nil=>cases m <;> cases ts <;> simp[cQ] at h
  | cons v vs=>
   cases m with
   | ro=>
    have h':cQ E w g (i+1) ps ts vs:=by cases ts <;> exact h
    have:=ih (i:=i+1) (by omega) h'
    cases ts <;> exact this
   | mv o=>
    have h':cQ E w g (i+1) ps ts vs:=by cases ts <;> exact h
    have:=ih (i:=i+1) (by omega) h'
    cases ts <;> exact this
   | ig=>
    have h':cQ E w g (i+1) ps ts vs:=by cases ts <;> exact h
    have:=ih (i:=i+1) (by omega) h'
    cases ts <;> exact this
   | mu o=>
    cases ts with
    | nil=>simp[cQ] at h
    | cons t ts=>
     simp only[cQ] at h ⊢;exact ⟨⟨h.1.1,h.1.2.rekey hf fun b q hb=>ha b i _ (by omega) hb⟩,ih (by omega) h.2⟩
   | bx o=>
    cases ts with
    | nil=>simp[cQ] at h
    | cons t ts=>
     simp only[cQ] at h ⊢;obtain ⟨⟨b,x,h1,h2,h3,h4⟩,h5⟩:=h;exact ⟨⟨b,x,h1,hh b i (by omega) h2,h3,h4.rekey hf fun b q hb=>ha b i _ (by omega) hb⟩,ih (by omega) h5⟩
open Classical in
theorem nh.weak {P:Program} {E:Env} {f:Nat} {fi:Fi} {C:List T→R} (h:nh P E f fi C) {ty:Nat} {o:O} (hr:fi.rets = [(ty,.vl o)]) (hl:o.live=true) (hn:fi.params.length < 1000) :
  nh P E f { fi with rets:=[(ty,.vl .fz)] } C:=by
 intro ts res hres vs w g hbnd hkn hargs;refine (h ts res hres vs w g hbnd hkn hargs).mono fun e w'=>?_
 rintro ⟨v,g',rvs,rts,mts,e1,e2,e3,hst,hb,hress,hmus⟩
 rw[hr] at hress;let g'':Gh:=fun b=>if ∃q,g' b = .at (eC 0) q then .frz else g' b
 have kn : ∀b,(¬∃q,g' b = .at (eC 0) q)→g'' b=g' b:=fun b hb=>if_neg hb
 have k1 : ∀b,g' b = .frz→g'' b = .frz:=fun b hb=>by rw[kn b (by rintro ⟨q,hq⟩;rw[hb] at hq;cases hq),hb]
 have k2 : ∀b q,g' b = .at (eC 0) q→g'' b = .frz:=fun b q hb=>if_pos ⟨q,hb⟩
 have k3 : ∀b i q,i < 100000→g' b = .at (aN i) q→g'' b = .at (aN i) q:=fun b i q hi hb=>by
  rw[kn b (by rintro ⟨q',hq⟩;rw[hb] at hq;simp only[Own.at.injEq] at hq;have:=hq.1;unfold aN eC at this;omega),hb]
 have k4 : ∀b i,i < 100000→g' b = .hd (aN i)→g'' b = .hd (aN i):=fun b i _ hb=>by
  rw[kn b (by rintro ⟨q',hq⟩;rw[hb] at hq;cases hq),hb]
 refine ⟨v,g'',rvs,rts,mts,e1,e2,e3,⟨hst.os,hst.tape,hst.output,hst.size,fun b hb hg=>?_⟩,fun b hb'=>hb b fun hf=>hb' ?_,?_,hmus.regh k1 k3 k4 (by show 0+fi.params.length≤100000;omega)⟩
 ·obtain ⟨q1,q2⟩:=hst.keep b hb hg;refine ⟨q1,?_⟩;rw[kn b (by rintro ⟨q',hq⟩;rw[q2] at hq;rcases hg with hg | hg <;> rw[hg] at hq <;> cases hq),q2]
 ·rw[kn b (by rintro ⟨q',hq⟩;rw[hf] at hq;cases hq),hf]
 ·match rts,rvs,hress with
  | [t],[v0],hress=>
   simp only[j6,ResOk,and_true] at hress ⊢;exact ⟨(hress.1.freeze hl k1 k2).frozen rfl (fun _ h=>h) _ _,hress.2⟩
  | [],[],hress=>exact hress.elim
  | [],_ :: _,hress=>exact hress.elim
  | [_],[],hress=>exact hress.elim
  | [_],_ :: _ :: _,hress=>exact hress.2.elim
  | _ :: _ :: _,[],hress=>exact hress.elim
  | _ :: _ :: _,[_],hress=>exact hress.2.elim
  | _ :: _ :: _,_ :: _ :: _,hress=>exact hress.2.elim
def O7 (P:Program) (E:Env) (C:aF):Prop:=∀f fi,E.fn f=some fi→nh P E f fi (C f)
def qw (P:Program) (E:Env) (n:Nat) (st:St) (a:Act) (w:World) (g:Gh) (hold:Nat→aE) (C:aF) (o:Oper) (e:Eff):Prop:=
 e.g=true∧∃f ts,e.req=some (f,ts)∧(e.pre=true→∀res,C f ts=some res→∃vs:List Value,(execOp a.eval o).run P w = .ok (.enter (E.src f) vs.toArray) w∧
  Calls P (E.src f) vs.toArray w fun en w'=>∃v g' hold',en = .returned v∧Stp w g w' g'∧Sld hold hold'∧Inv E n (aX o.dst (e.ret res) st) (a.put o.dst v) w' g' hold')
open Classical in
noncomputable def lent:Nat→List Arg→Nat→List aH→Option Own
 | _,[],_,_=>none
 | i,.ro :: l,r,q=>lent (i+1) l r q
 | i,.mu r' p o :: l,r,q=>if r'=r then (if p <+: q then some (if (o.get (q.drop p.length)).isFz then .frz else .at (aN i) (q.drop p.length)) else none) else lent (i+1) l r q
 | i,.bx r' o :: l,r,q=>if r'=r then some (if (o.get q).isFz then .frz else .at (aN i) q) else lent (i+1) l r q
 | i,.mv r' o :: l,r,q=>if r'=r then some (if (o.get q).isFz then .frz else .at (aN i) q) else lent (i+1) l r q
 | i,.ig :: l,r,q=>lent (i+1) l r q
def dh:Nat→List Arg→Nat→Option Nat
 | _,[],_=>none
 | i,.ro :: l,r=>dh (i+1) l r
 | i,.mu _ _ _ :: l,r=>dh (i+1) l r
 | i,.bx r' _ :: l,r=>if r'=r then some i else dh (i+1) l r
 | i,.mv _ _ :: l,r=>dh (i+1) l r
 | i,.ig :: l,r=>dh (i+1) l r
noncomputable def cS (args:List Arg) (bor:List Nat) (g:Gh):Gh:=fun b=>match g b with
 | .frz=>.frz
 | .at r q=>if r∈bor then .frz else (lent 0 args r q).getD .free
 | .hd r=>match dh 0 args r with | some i=>.hd (aN i) | none=>.free
 | .free=>.free
theorem bT {args:List Arg} {r:Nat} : r∈aZ args↔∃k:Nat,(∃p o,args[k]?=some (.mu r p o))∨(∃o,args[k]?=some (.bx r o))∨∃o,args[k]?=some (.mv r o):=by
 unfold aZ;rw[List.mem_filterMap];constructor
 ·rintro ⟨x,hx,h⟩
  obtain ⟨k,hk⟩:=List.getElem?_of_mem hx;cases x with
  | ro=>simp at h
  | mu r' p o=>simp at h;subst h;exact ⟨k,.inl ⟨p,o,hk⟩⟩
  | bx r' o=>simp at h;subst h;exact ⟨k,.inr (.inl ⟨o,hk⟩)⟩
  | mv r' o=>simp at h;subst h;exact ⟨k,.inr (.inr ⟨o,hk⟩)⟩
  | ig=>simp at h
 ·rintro ⟨k,⟨p,o,h⟩ | ⟨o,h⟩ | ⟨o,h⟩⟩
  ·exact ⟨_,List.mem_of_getElem? h,rfl⟩
  ·exact ⟨_,List.mem_of_getElem? h,rfl⟩
  ·exact ⟨_,List.mem_of_getElem? h,rfl⟩
theorem bL {x:Nat} {l:List Nat} (h:cg (x :: l)=true):x ∉ l∧cg l=true:=by
 simp only[cg,Bool.and_eq_true,Bool.not_eq_true'] at h;refine ⟨fun hx=>?_,h.2⟩
 rw[eR.2 hx] at h;simp at h
theorem cM (x:Arg) (l:List Arg):aZ (x :: l)=(match x with | .ro=>aZ l | .mu r _ _=>r :: aZ l | .bx r _=>r :: aZ l | .mv r _=>r :: aZ l | .ig=>aZ l):=by
 cases x <;> simp[aZ]
theorem C6 {args:List Arg} {r:Nat} (h:r ∉ aZ args) : ∀(i:Nat) (q:List aH),lent i args r q=none:=by
 induction args with
 | nil=>intro i q;rfl
 | cons x l ih=>
  intro i q;rw[cM] at h;cases x with
  | ro=>exact ih h _ _
  | mu r' p o=>simp only[List.mem_cons,not_or] at h;simp only[lent,if_neg (Ne.symm h.1)];exact ih h.2 _ _
  | bx r' o=>simp only[List.mem_cons,not_or] at h;simp only[lent,if_neg (Ne.symm h.1)];exact ih h.2 _ _
  | mv r' o=>simp only[List.mem_cons,not_or] at h;simp only[lent,if_neg (Ne.symm h.1)];exact ih h.2 _ _
  | ig=>exact ih h _ _
theorem vW {args:List Arg} {r:Nat} (h:r ∉ aZ args) : ∀(i:Nat),dh i args r=none:=by
 induction args with
 | nil=>intro i;rfl
 | cons x l ih=>
  intro i;rw[cM] at h;cases x with
  | ro=>exact ih h _
  | mu r' p o=>simp only[List.mem_cons,not_or] at h;exact ih h.2 _
  | bx r' o=>simp only[List.mem_cons,not_or] at h;simp only[dh,if_neg (Ne.symm h.1)];exact ih h.2 _
  | mv r' o=>simp only[List.mem_cons,not_or] at h;exact ih h.2 _
  | ig=>exact ih h _
theorem wU {args:List Arg} : ∀{k i r:Nat} {p:List aH} {o:O},cg (aZ args)=true→args[k]?=some (.mu r p o)→
  (∀q,lent i args r (p++q)=some (if (o.get q).isFz then .frz else .at (aN (i+k)) q))∧(∀q,¬p <+: q→lent i args r q=none)∧dh i args r=none:=by
 induction args with
 | nil=>intro k i r p o _ h;simp at h
 | cons x l ih=>
  intro k i r p o hd h;rw[cM] at hd;cases k with
  | zero=>
   simp at h;subst h;obtain ⟨h1,_⟩:=bL hd;refine ⟨fun q=>?_,fun q hq=>?_,vW h1 _⟩
   ·simp only[lent,if_true,if_pos (List.prefix_append p q),List.drop_left,Nat.add_zero]
   ·simp only[lent,if_true,if_neg hq]
  | succ k=>
   simp only[List.getElem?_cons_succ] at h;have hr:r∈aZ l:=bT.2 ⟨k,.inl ⟨p,o,h⟩⟩
   cases x with
   | ro=>
    obtain ⟨i1,i2,i3⟩:=ih (i:=i+1) hd h;exact ⟨fun q=>by simp only[lent];rw[i1,show i+1+k=i+(k+1) by omega],fun q hq=>i2 q hq,i3⟩
   | mu r' p' o'=>
    obtain ⟨h1,h2⟩:=bL hd;have hne:r'≠r:=fun h=>h1 (h ▸ hr)
    obtain ⟨i1,i2,i3⟩:=ih (i:=i+1) h2 h;exact ⟨fun q=>by simp only[lent,if_neg hne];rw[i1,show i+1+k=i+(k+1) by omega],fun q hq=>by simp only[lent,if_neg hne];exact i2 q hq,i3⟩
   | bx r' o'=>
    obtain ⟨h1,h2⟩:=bL hd;have hne:r'≠r:=fun h=>h1 (h ▸ hr)
    obtain ⟨i1,i2,i3⟩:=ih (i:=i+1) h2 h;exact ⟨fun q=>by simp only[lent,if_neg hne];rw[i1,show i+1+k=i+(k+1) by omega],fun q hq=>by simp only[lent,if_neg hne];exact i2 q hq,by simp only[dh,if_neg hne];exact i3⟩
   | mv r' o'=>
    obtain ⟨h1,h2⟩:=bL hd;have hne:r'≠r:=fun h=>h1 (h ▸ hr)
    obtain ⟨i1,i2,i3⟩:=ih (i:=i+1) h2 h;exact ⟨fun q=>by simp only[lent,if_neg hne];rw[i1,show i+1+k=i+(k+1) by omega],fun q hq=>by simp only[lent,if_neg hne];exact i2 q hq,i3⟩
   | ig=>
    obtain ⟨i1,i2,i3⟩:=ih (i:=i+1) hd h;exact ⟨fun q=>by simp only[lent];rw[i1,show i+1+k=i+(k+1) by omega],fun q hq=>i2 q hq,i3⟩
theorem AH {args:List Arg} : ∀{k i r:Nat} {o:O},cg (aZ args)=true→args[k]?=some (.bx r o)→
  (∀q,lent i args r q=some (if (o.get q).isFz then .frz else .at (aN (i+k)) q))∧dh i args r=some (i+k):=by
 induction args with
 | nil=>intro k i r o _ h;simp at h
 | cons x l ih=>
  intro k i r o hd h;rw[cM] at hd;cases k with
  | zero=>
   simp at h;subst h;exact ⟨fun q=>by simp only[lent,if_true,Nat.add_zero],by simp[dh]⟩
  | succ k=>
   simp only[List.getElem?_cons_succ] at h;have hr:r∈aZ l:=bT.2 ⟨k,.inr (.inl ⟨o,h⟩)⟩
   cases x with
   | ro=>
    obtain ⟨i1,i3⟩:=ih (i:=i+1) hd h;exact ⟨fun q=>by simp only[lent];rw[i1,show i+1+k=i+(k+1) by omega],by simp only[dh];rw[i3,show i+1+k=i+(k+1) by omega]⟩
   | mu r' p' o'=>
    obtain ⟨h1,h2⟩:=bL hd;have hne:r'≠r:=fun h=>h1 (h ▸ hr)
    obtain ⟨i1,i3⟩:=ih (i:=i+1) h2 h;exact ⟨fun q=>by simp only[lent,if_neg hne];rw[i1,show i+1+k=i+(k+1) by omega],by simp only[dh];rw[i3,show i+1+k=i+(k+1) by omega]⟩
   | bx r' o'=>
    obtain ⟨h1,h2⟩:=bL hd;have hne:r'≠r:=fun h=>h1 (h ▸ hr)
    obtain ⟨i1,i3⟩:=ih (i:=i+1) h2 h;exact ⟨fun q=>by simp only[lent,if_neg hne];rw[i1,show i+1+k=i+(k+1) by omega],by simp only[dh,if_neg hne];rw[i3,show i+1+k=i+(k+1) by omega]⟩
   | mv r' o'=>
    obtain ⟨h1,h2⟩:=bL hd;have hne:r'≠r:=fun h=>h1 (h ▸ hr)
    obtain ⟨i1,i3⟩:=ih (i:=i+1) h2 h;exact ⟨fun q=>by simp only[lent,if_neg hne];rw[i1,show i+1+k=i+(k+1) by omega],by simp only[dh];rw[i3,show i+1+k=i+(k+1) by omega]⟩
   | ig=>
    obtain ⟨i1,i3⟩:=ih (i:=i+1) hd h;exact ⟨fun q=>by simp only[lent];rw[i1,show i+1+k=i+(k+1) by omega],by simp only[dh];rw[i3,show i+1+k=i+(k+1) by omega]⟩
theorem AI {args:List Arg} : ∀{k i r:Nat} {o:O},cg (aZ args)=true→args[k]?=some (.mv r o)→
  (∀q,lent i args r q=some (if (o.get q).isFz then .frz else .at (aN (i+k)) q))∧jU args r=true:=by
 induction args with
 | nil=>intro k i r o _ h;simp at h
 | cons x l ih=>
  intro k i r o hd h;rw[cM] at hd;cases k with
  | zero=>
   simp at h;subst h;exact ⟨fun q=>by simp only[lent,if_true,Nat.add_zero],by simp[jU]⟩
  | succ k=>
   simp only[List.getElem?_cons_succ] at h;have hr:r∈aZ l:=bT.2 ⟨k,.inr (.inr ⟨o,h⟩)⟩
   cases x with
   | ro=>
    obtain ⟨i1,i3⟩:=ih (i:=i+1) hd h;exact ⟨fun q=>by simp only[lent];rw[i1,show i+1+k=i+(k+1) by omega],i3⟩
   | ig=>
    obtain ⟨i1,i3⟩:=ih (i:=i+1) hd h;exact ⟨fun q=>by simp only[lent];rw[i1,show i+1+k=i+(k+1) by omega],i3⟩
   | mu r' p' o'=>
    obtain ⟨h1,h2⟩:=bL hd;have hne:r'≠r:=fun h=>h1 (h ▸ hr)
    obtain ⟨i1,i3⟩:=ih (i:=i+1) h2 h;exact ⟨fun q=>by simp only[lent,if_neg hne];rw[i1,show i+1+k=i+(k+1) by omega],i3⟩
   | bx r' o'=>
    obtain ⟨h1,h2⟩:=bL hd;have hne:r'≠r:=fun h=>h1 (h ▸ hr)
    obtain ⟨i1,i3⟩:=ih (i:=i+1) h2 h;exact ⟨fun q=>by simp only[lent,if_neg hne];rw[i1,show i+1+k=i+(k+1) by omega],i3⟩
   | mv r' o'=>
    obtain ⟨h1,h2⟩:=bL hd;have hne:r'≠r:=fun h=>h1 (h ▸ hr)
    obtain ⟨i1,i3⟩:=ih (i:=i+1) h2 h;exact ⟨fun q=>by simp only[lent,if_neg hne];rw[i1,show i+1+k=i+(k+1) by omega],by simp[jU,i3]⟩
theorem zz {args:List Arg} : ∀{k r:Nat},cg (aZ args)=true→((∃p o,args[k]?=some (.mu r p o))∨∃o,args[k]?=some (.bx r o))→jU args r=false:=by
 induction args with
 | nil=>intro k r _ h;simp at h
 | cons x l ih=>
  intro k r hd h;rw[cM] at hd;have none_of : ∀{l:List Arg},r ∉ aZ l→jU l r=false:=by
   intro l;induction l with
   | nil=>intro _;rfl
   | cons y l ih'=>
    intro hn;rw[cM] at hn;cases y with
    | ro=>exact ih' hn
    | ig=>exact ih' hn
    | mu _ _ _=>simp only[List.mem_cons,not_or] at hn;exact ih' hn.2
    | bx _ _=>simp only[List.mem_cons,not_or] at hn;exact ih' hn.2
    | mv r' _=>simp only[List.mem_cons,not_or] at hn;simp only[jU,bZ,Ne.symm hn.1,decide_false,Bool.false_or];exact ih' hn.2
  cases k with
  | zero=>
   simp only[List.getElem?_cons_zero,Option.some.injEq] at h;rcases h with ⟨p,o,rfl⟩ | ⟨o,rfl⟩
   ·show jU l r=false;exact none_of (bL hd).1
   ·show jU l r=false;exact none_of (bL hd).1
  | succ k=>
   simp only[List.getElem?_cons_succ] at h;have hr:r∈aZ l:=bT.2 ⟨k,h.imp id fun h=>.inl h⟩
   cases x with
   | ro=>exact ih hd h
   | ig=>exact ih hd h
   | mu _ _ _=>exact ih (bL hd).2 h
   | bx _ _=>exact ih (bL hd).2 h
   | mv r' _=>
    obtain ⟨h1,h2⟩:=bL hd;have hne:r'≠r:=fun h=>h1 (h ▸ hr)
    simp only[jU,bZ,hne,decide_false,Bool.false_or];exact ih h2 h
section
variable {E:Env} {w:World} {g:Gh} {rt look:Nat→Option Rt} {hold:Nat→aE}
def v7 (E:Env) (look:Nat→Option Rt) (ps:List (Nat × Mode)) (as:List AV) (ts:List T) (args:List Arg):Prop:=
  ts.length=ps.length∧as.length=ps.length∧args.length=ps.length∧
  (∀(k r:Nat) (p:List aH) (o:O),args[k]?=some (.mu r p o)→∃ty R,ps[k]?=some (ty,.mu o)∧as[k]?=some (.sref ty r p)∧look r=some R∧ts[k]?=some (R.t.get p)∧
   (R.o.get p).own=true∧O.le o (R.o.get p)=true∧(dq p=true∨O.eq (R.o.get p) o=true)∧R.o.way p=true)∧
  (∀(k r:Nat) (o:O),args[k]?=some (.bx r o)→∃ty e R,ps[k]?=some (ty,.bx o)∧E.ty ty = .ptr e∧as[k]?=some (.pref e r [])∧look r=some R∧ts[k]?=some R.t∧R.box=true∧leT E o R.ty R.o=true)∧
  (∀(k r:Nat) (o:O),args[k]?=some (.mv r o)→∃ty t R,ps[k]?=some (ty,.mv o)∧as[k]?=some (.alt ty r [] t)∧look r=some R∧ts[k]?=some t∧R.ty=ty∧R.box=false∧leT E o ty R.o=true)∧
  (∀(k:Nat),args[k]?=some .ig→∃ty a n,ps[k]?=some (ty,.ig)∧as[k]?=some a∧ts[k]?=some (.int (n:Nat))∧lnE E look ty a=some n)∧
  (∀(k:Nat),args[k]?=some .ro→∃ty a t,ps[k]?=some (ty,.ro)∧as[k]?=some a∧ts[k]?=some t∧sn E look ty a=some t∧∀r∈a.refs,r∈NN args as)
theorem yI : ∀{ps:List (Nat × Mode)} {as:List AV} {ts:List T} {args:List Arg},kj E look ps as=some (ts,args)→v7 E look ps as ts args
 | [],as,ts,args,h=>by
  cases as with
  | nil=>
   simp only[kj,Option.some.injEq,Prod.mk.injEq] at h;obtain ⟨rfl,rfl⟩:=h;exact ⟨rfl,rfl,rfl,fun k r p o h=>by simp at h,fun k r o h=>by simp at h,fun k r o h=>by simp at h,fun k h=>by simp at h,fun k h=>by simp at h⟩
  | cons a as=>simp[kj] at h
 | (ty,m) :: ps,as,ts,args,h=>by
  cases as with
  | nil=>simp[kj] at h
  | cons a as=>
   simp only[kj] at h;split at h
   ·cases h
   rename_i ts' args' hrec
   obtain ⟨i1,i2,i3,i4,i5,i7,i8,i6⟩:=yI hrec;have shift : ∀{x:Arg} {t0:T},args=x :: args'→ts=t0 :: ts'→(∀r,r∈NN args' as→r∈NN (x :: args') (a :: as))→
     (∀(r:Nat) (p:List aH) (o:O),x = .mu r p o→∃R,m = .mu o∧a = .sref ty r p∧look r=some R∧t0=R.t.get p∧
      (R.o.get p).own=true∧O.le o (R.o.get p)=true∧(dq p=true∨O.eq (R.o.get p) o=true)∧R.o.way p=true)→
     (∀(r:Nat) (o:O),x = .bx r o→∃e R,m = .bx o∧E.ty ty = .ptr e∧a = .pref e r []∧look r=some R∧t0=R.t∧R.box=true∧leT E o R.ty R.o=true)→
     (∀(r:Nat) (o:O),x = .mv r o→∃R,m = .mv o∧a = .alt ty r [] t0∧look r=some R∧R.ty=ty∧R.box=false∧leT E o ty R.o=true)→
     (x = .ig→m = .ig∧∃n:Nat,t0 = .int n∧lnE E look ty a=some n)→
     (x = .ro→m = .ro∧sn E look ty a=some t0∧∀r∈a.refs,r∈NN (x :: args') (a :: as))→v7 E look ((ty,m) :: ps) (a :: as) ts args:=by
    intro x t0 hargs hts hro h1 h2 h4 h5 h3;subst hargs;subst hts;refine ⟨by simp[i1],by simp[i2],by simp[i3],fun k r p o hk=>?_,fun k r o hk=>?_,fun k r o hk=>?_,fun k hk=>?_,fun k hk=>?_⟩
    ·cases k with
     | zero=>
      simp at hk
      obtain ⟨R,e1,e2,e3⟩:=h1 r p o hk;exact ⟨ty,R,by simp[e1],by simp[e2],e3.1,by simp[e3.2.1],e3.2.2⟩
     | succ k=>simpa using i4 k r p o (by simpa using hk)
    ·cases k with
     | zero=>
      simp at hk
      obtain ⟨e,R,e1,e2,e3,e4,e5,e6⟩:=h2 r o hk;exact ⟨ty,e,R,by simp[e1],e2,by simp[e3],e4,by simp[e5],e6⟩
     | succ k=>simpa using i5 k r o (by simpa using hk)
    ·cases k with
     | zero=>
      simp at hk
      obtain ⟨R,e1,e2,e3,e4⟩:=h4 r o hk;exact ⟨ty,t0,R,by simp[e1],by simp[e2],e3,by simp,e4⟩
     | succ k=>simpa using i7 k r o (by simpa using hk)
    ·cases k with
     | zero=>simp at hk;obtain ⟨q1,n,q2,q3⟩:=h5 hk;exact ⟨ty,a,n,by simp[q1],by simp,by simp[q2],q3⟩
     | succ k=>simpa using i8 k (by simpa using hk)
    ·cases k with
     | zero=>
      simp at hk
      obtain ⟨e1,e2,e3⟩:=h3 hk;exact ⟨ty,a,t0,by simp[e1],by simp,by simp,e2,e3⟩
     | succ k=>
      obtain ⟨ty',a',t,e1,e2,e3,e4,e5⟩:=i6 k (by simpa using hk)
      exact ⟨ty',a',t,by simpa using e1,by simpa using e2,by simpa using e3,e4,fun r hr=>hro r (e5 r hr)⟩
   cases m with
   | ro=>
    simp only at h
    split at h
    ·rename_i t ht
     simp only[Option.some.injEq,Prod.mk.injEq] at h;obtain ⟨rfl,rfl⟩:=h;exact shift rfl rfl (fun r hr=>by simp[NN,hr]) (fun _ _ _ hx=>by cases hx) (fun _ _ hx=>by cases hx) (fun _ _ hx=>by cases hx) (fun hx=>by cases hx) (fun _=>⟨rfl,ht,fun r hr=>by simp[NN,hr]⟩)
    ·cases h
   | mu o=>
    simp only at h
    split at h
    ·rename_i ty' r p
     split at h
     ·rename_i R hR
      generalize hc:(Nat.beq ty ty'&&((R.o.get p).own&&(O.le o (R.o.get p)&&((dq p||O.eq (R.o.get p) o)&&R.o.way p))))=c at h
      cases c with
      | false=>simp at h
      | true=>
       simp only[cond_true,Option.some.injEq,Prod.mk.injEq] at h;obtain ⟨rfl,rfl⟩:=h;simp only[Bool.and_eq_true,Bool.or_eq_true] at hc;have:=Nat.eq_of_beq_eq_true hc.1;subst this;exact shift rfl rfl (fun r hr=>by simpa[NN] using hr) (fun r' p' o' hx=>by cases hx;exact ⟨R,rfl,rfl,hR,rfl,hc.2.1,hc.2.2.1,hc.2.2.2.1,hc.2.2.2.2⟩) (fun _ _ hx=>by cases hx) (fun _ _ hx=>by cases hx) (fun hx=>by cases hx) (fun hx=>by cases hx)
     ·cases h
    ·cases h
   | bx o=>
    simp only at h
    split at h
    ·rename_i ty' r
     split at h
     ·rename_i R hR
      generalize hc:((match E.ty ty with | .ptr e=>Nat.beq e ty'&&Nat.beq R.ty e | _=>false)&&R.box&&leT E o R.ty R.o)=c at h
      cases c with
      | false=>simp at h
      | true=>
       simp only[cond_true,Option.some.injEq,Prod.mk.injEq] at h;obtain ⟨rfl,rfl⟩:=h;simp only[Bool.and_eq_true] at hc;obtain ⟨⟨c1,c2⟩,c3⟩:=hc;have hp:E.ty ty = .ptr ty':=by
        split at c1
        ·rename_i e he;simp only[Bool.and_eq_true] at c1;rw[he];rw[Nat.eq_of_beq_eq_true c1.1]
        ·cases c1
       exact shift rfl rfl (fun r hr=>by simpa[NN] using hr) (fun _ _ _ hx=>by cases hx) (fun r' o' hx=>by cases hx;exact ⟨ty',R,rfl,hp,rfl,hR,rfl,c2,c3⟩) (fun _ _ hx=>by cases hx) (fun hx=>by cases hx) (fun hx=>by cases hx)
     ·cases h
    ·cases h
   | mv o=>
    simp only at h
    split at h
    ·rename_i ty' r t'
     split at h
     ·rename_i R hR
      generalize hc:(Nat.beq ty ty'&&(Nat.beq R.ty ty&&(!R.box&&leT E o ty R.o)))=c at h
      cases c with
      | false=>simp at h
      | true=>
       simp only[cond_true,Option.some.injEq,Prod.mk.injEq] at h;obtain ⟨rfl,rfl⟩:=h;simp only[Bool.and_eq_true,Bool.not_eq_true'] at hc;have:=Nat.eq_of_beq_eq_true hc.1;subst this;exact shift rfl rfl (fun r hr=>by simpa[NN] using hr) (fun _ _ _ hx=>by cases hx) (fun _ _ hx=>by cases hx)
        (fun r' o' hx=>by cases hx;exact ⟨R,rfl,rfl,hR,Nat.eq_of_beq_eq_true hc.2.1,hc.2.2.1,hc.2.2.2⟩) (fun hx=>by cases hx) (fun hx=>by cases hx)
     ·cases h
    ·cases h
   | ig=>
    simp only at h
    split at h
    ·rename_i n hn
     simp only[Option.some.injEq,Prod.mk.injEq] at h;obtain ⟨rfl,rfl⟩:=h;exact shift rfl rfl (fun r hr=>by simpa[NN] using hr) (fun _ _ _ hx=>by cases hx) (fun _ _ hx=>by cases hx) (fun _ _ hx=>by cases hx) (fun _=>⟨rfl,n,rfl,hn⟩) (fun hx=>by cases hx)
    ·cases h
end
section
variable {E:Env} {w:World} {g:Gh} {rt look:Nat→Option Rt} {hold:Nat→aE}
theorem iq {args:List Arg} {bor:List Nat} {b:Nat} (h:g b = .frz):cS args bor g b = .frz:=by simp[cS,h]
theorem sV {args:List Arg} {bor:List Nat} {b r:Nat} {q:List aH} (h:g b = .at r q) (hr:r∈bor):cS args bor g b = .frz:=by simp[cS,h,hr]
theorem rK {args:List Arg} {bor:List Nat} {b r:Nat} {q:List aH} (h:g b = .at r q) (hr:r ∉ bor):cS args bor g b=(lent 0 args r q).getD .free:=by simp[cS,h,hr]
theorem zd {args:List Arg} {bor:List Nat} {b r:Nat} (h:g b = .hd r):cS args bor g b=match dh 0 args r with | some i=>.hd (aN i) | none=>.free:=by unfold cS;simp only[h] <;> (cases dh 0 args r <;> rfl)
theorem gcall_nf {args:List Arg} {bor:List Nat} {b:Nat} (h:cS args bor g b≠.free):g b≠.free:=by intro hf;exact h (by simp[cS,hf])
theorem args_ok (hE:bl E) (hl : ∀r R,look r=some R→rt r=some R) (hr : ∀r R,rt r=some R→dF E w g hold r R) {ps:List (Nat × Mode)} {as:List AV} {ts:List T} {args:List Arg}
  (hA:v7 E look ps as ts args) (hd:cg (aZ args)=true) (hap : ∀r∈aZ args,r ∉ NN args as) {vs:List Value} (hlen:vs.length=as.length)
  (hv : ∀(k:Nat) (a:AV) (v:Value),as[k]?=some a→vs[k]?=some v→aO E w g rt hold a v) (hfin : ∀x∈ps,gW x=true)
  (hln : ∀(ty:Nat) (av:AV) (v:Value) (m:Nat),lnE E look ty av=some m→aO E w g rt hold av v→∃A cap,v = .slice A m cap∧m≤cap) :
  kO E w (cS args (NN args as) g) 0 ps ts vs:=by
 obtain ⟨l1,l2,l3,hmu,hbx,hmv,hig,hro⟩:=hA;have one : ∀(k ty:Nat) (m:Mode) (t:T) (v:Value),ps[k]?=some (ty,m)→ts[k]?=some t→vs[k]?=some v→tu E w (cS args (NN args as) g) k ty m t v:=by
  intro k ty m t v hp ht hvk;have hkl:=(List.getElem?_eq_some_iff.1 hp).1;obtain ⟨x,hx⟩ : ∃x,args[k]?=some x:=⟨args[k]'(by omega),List.getElem?_eq_getElem _⟩
  cases x with
  | ro=>
   obtain ⟨ty',a,t',e1,e2,e3,e4,e5⟩:=hro k hx;rw[hp] at e1;cases e1;rw[ht] at e3;cases e3;exact CA hE hl hr (fun b hb=>iq hb) e4 (hv k a v e2 hvk) fun r hr b q hb=>sV hb (e5 r hr)
  | mu r p o=>
   obtain ⟨ty',R,e1,e2,e3,e4,e5,e6,e7,e8⟩:=hmu k r p o hx;rw[hp] at e1;cases e1;rw[ht] at e4;cases e4;have hnb:=hap r (bT.2 ⟨k,.inl ⟨p,o,hx⟩⟩);have hav:=hv k _ v e2 hvk;cases hav with
   | @sref _ e _ _ A n c R' κ a1 a2 a3 a4=>
    rw[hl r R e3] at a1;cases a1;refine ⟨⟨e,A,n,c,a2,rfl⟩,?_⟩;have hrep:=eS (hr r R (hl r R e3)) a3;obtain ⟨f1,f2,f3⟩:=wU (i:=0) hd hx;have:=hrep.move (o':=o) (r':=aN k) (p':=[]) e6 (g':=cS args (NN args as) g) ⟨fun b hb=>iq hb,fun b q hb=>by
     rw[rK hb hnb,f1 q];simp⟩
    refine this.place hE fun k' hk'=>?_
    rw[hE.one _ (by simp[a2])] at hk'
    obtain rfl:k'=0:=by omega
    rw[aE.add_zero,aE.add_zero,a4];rfl
  | bx r o=>
   obtain ⟨ty',e,R,e1,e2,e3,e4,e5,e6,e7⟩:=hbx k r o hx;rw[hp] at e1;cases e1;rw[ht] at e5;cases e5;have hnb:=hap r (bT.2 ⟨k,.inr (.inl ⟨o,hx⟩)⟩);have hav:=hv k _ v e3 hvk;have ok:=hr r R (hl r R e4);obtain ⟨b,x0,b1,b2,b3⟩:=ok.box e6;obtain ⟨f1,f2⟩:=AH (i:=0) hd hx;cases hav with
   | @pref _ _ _ B x1 R' a1 a2=>
    rw[hl r R e4] at a1;cases a1;have hbt:fY E ty=e:=by simp[fY,e2]
    have key : ∀{κ},Sub E w g r R.ty [] (hold r) [] e κ→R.ty=e∧hold r=κ:=by intro κ h;cases h;exact ⟨rfl,rfl⟩
    obtain ⟨c1,c2⟩:=key a2;rw[b1] at c2;cases c2;refine ⟨_,_,rfl,by rw[zd b2,f2];simp,by rw[hbt,← c1];exact b3,?_⟩
    have hrep:=ok.rep;rw[c1,b1] at hrep;rw[hbt];rw[c1] at e7;exact hrep.moveT hE (o':=o) (r':=aN k) (p':=[]) e7 ⟨fun b hb=>iq hb,fun b q hb=>by
     rw[List.nil_append] at hb;rw[rK hb hnb,f1 q];simp⟩
  | mv r o=>
   obtain ⟨ty',t',R,e1,e2,e3,e4,e5,e6,e7⟩:=hmv k r o hx;rw[hp] at e1;cases e1;rw[ht] at e4;cases e4;have hnb:=hap r (bT.2 ⟨k,.inr (.inr ⟨o,hx⟩)⟩);have hav:=hv k _ v e2 hvk;cases hav with
   | alt a1 a2 a3 a4 a5 a6=>
    rw[hl r R e3] at a1;cases a1;obtain ⟨f1,f2⟩:=AI (i:=0) hd hx;refine ⟨a5.moveT hE (o':=o) (r':=aN k) (p':=[]) e7 ⟨fun b hb=>iq hb,fun b q hb=>?_⟩,a2⟩
    rw[List.nil_append] at hb;rw[rK hb hnb,f1 q];simp
  | ig=>
   obtain ⟨ty',a,n,e1,e2,e3,e4⟩:=hig k hx;rw[hp] at e1;cases e1;rw[ht] at e3;cases e3;obtain ⟨A,c,q1,q2⟩:=hln _ a v n e4 (hv k a v e2 hvk);exact ⟨n,A,c,q2,rfl,q1⟩
 have gen : ∀(ps':List (Nat × Mode)) (ts':List T) (vs':List Value) (i:Nat),ts'.length=ps'.length→vs'.length=ps'.length→
   (∀(k ty:Nat) (m:Mode) (t:T) (v:Value),ps'[k]?=some (ty,m)→ts'[k]?=some t→vs'[k]?=some v→tu E w (cS args (NN args as) g) (i+k) ty m t v)→
   kO E w (cS args (NN args as) g) i ps' ts' vs':=by
  intro ps';induction ps' with
  | nil=>intro ts' vs' i h1 h2 _;cases ts' with
   | nil=>cases vs' with
    | nil=>trivial
    | cons=>simp at h2
   | cons=>simp at h1
  | cons x ps' ih=>
   intro ts' vs' i h1 h2 h3;cases ts' with
   | nil=>simp at h1
   | cons t ts'=>
    cases vs' with
    | nil=>simp at h2
    | cons v vs'=>
     obtain ⟨ty,m⟩:=x;refine ⟨by simpa using h3 0 ty m t v rfl rfl rfl,ih ts' vs' (i+1) (by simpa using h1) (by simpa using h2) fun k ty m t v a b c=>?_⟩
     have:=h3 (k+1) ty m t v (by simpa using a) (by simpa using b) (by simpa using c)
     rwa [show i+(k+1)=i+1+k by omega] at this
 exact gen ps ts vs 0 l1 (by omega) (fun k ty m t v a b c=>by simpa using one k ty m t v a b c)
end
def jB (args:List Arg) (d:Nat):Own→Own
 | .at R q=>if 200000≤R then .at (bc d (R - 200000)) q else if 100000≤R then (match args[R - 100000]? with
   | some (.mu r p _)=>.at r (p++q)
   | some (.bx r _)=>.at r q
   | _=>.free) else .free
 | .hd R=>if 200000≤R then .hd (bc d (R - 200000)) else if 100000≤R then (match args[R - 100000]? with
   | some (.bx r _)=>.hd r
   | _=>.free) else .free
 | x=>x
open Classical in
noncomputable def kN (args:List Arg) (bor:List Nat) (d:Nat) (w:World) (g g':Gh):Gh:=fun b=>
 if b < w.heap.size∧cS args bor g b = .free then g b
 else if b < w.heap.size∧cS args bor g b = .frz then (if ∃r q,g b = .at r q∧r∈bor then g b else .frz)
 else jB args d (g' b)
section
variable {E:Env} {w w':World} {g g':Gh} {args:List Arg} {bor:List Nat} {d:Nat}
theorem BW {b:Nat} (hb:b < w.heap.size) (h:cS args bor g b = .free):kN args bor d w g g' b=g b:=by unfold kN;rw[if_pos ⟨hb,h⟩]
theorem ze {b:Nat} (hb:b < w.heap.size) (h:g b = .frz):kN args bor d w g g' b = .frz:=by
 have h1:=iq (args:=args) (bor:=bor) h
 unfold kN;rw[if_neg (by rw[h1];simp),if_pos ⟨hb,h1⟩,if_neg (by rintro ⟨r,q,hq,_⟩;rw[h] at hq;cases hq)]
theorem gret_bor {b r:Nat} {q:List aH} (hb:b < w.heap.size) (h:g b = .at r q) (hr:r∈bor):kN args bor d w g g' b=g b:=by
 have h1:=sV (args:=args) h hr
 unfold kN;rw[if_neg (by rw[h1];simp),if_pos ⟨hb,h1⟩,if_pos ⟨r,q,h,hr⟩]
theorem zf (hst:Stp w (cS args bor g) w' g') {b:Nat} (hn:g' b≠.free) (hf:g' b≠.frz):kN args bor d w g g' b=jB args d (g' b):=by
 unfold kN;rw[if_neg,if_neg]
 ·rintro ⟨h1,h2⟩
  have:=(hst.keep b h1 (.inr h2)).2
  rw[h2] at this;exact hf this
 ·rintro ⟨h1,h2⟩
  have:=(hst.keep b h1 (.inl h2)).2
  rw[h2] at this;exact hn this
theorem BX (hst:Stp w (cS args bor g) w' g') (hbor:bor = []) {b:Nat} (hf:g' b = .frz):kN args bor d w g g' b = .frz:=by
 subst hbor;unfold kN;by_cases h1:b < w.heap.size∧cS args [] g b = .free
 ·have:=(hst.keep b h1.1 (.inl h1.2)).2
  rw[h1.2,hf] at this;cases this
 ·rw[if_neg h1];by_cases h2:b < w.heap.size∧cS args [] g b = .frz
  ·rw[if_pos h2,if_neg (by rintro ⟨_,_,_,h⟩;cases h)]
  ·rw[if_neg h2,hf];rfl
theorem gret_nf {b:Nat} (hbnd : ∀b,g b≠.free→b < w.heap.size) (hbnd' : ∀b,g' b≠.free→b < w'.heap.size) (hst:Stp w (cS args bor g) w' g') (h:kN args bor d w g g' b≠.free):b < w'.heap.size:=by
 have hs:=hst.size;unfold kN at h;by_cases h1:b < w.heap.size∧cS args bor g b = .free
 ·omega
 ·rw[if_neg h1] at h;by_cases h2:b < w.heap.size∧cS args bor g b = .frz
  ·omega
  ·rw[if_neg h2] at h;refine hbnd' b fun hf=>h ?_
   rw[hf];rfl
theorem uk (hE:bl E) (hkn:Kn E w g) (hbnd : ∀b,g b≠.free→b < w.heap.size) (hst:Stp w (cS args bor g) w' g') {ty R R':Nat} {t:T} {o:O} {p':List aH} {κ:aE} (h:Rep E w' g' ty t o R [] κ) (hl:o.live=true)
  (hdeep:deep E ty o=true∨bor = []) (hmap : ∀q,jB args d (.at R q) = .at R' (p'++q)):Rep E w' (kN args bor d w g g') ty t o R' p' κ:=by
 have hat : ∀b q,g' b = .at R ([]++q)→kN args bor d w g g' b = .at R' (p'++q):=by
  intro b q hb;rw[List.nil_append] at hb;rw[zf hst (by rw[hb];simp) (by rw[hb];simp),hb,hmap]
 rcases hdeep with hd | hd
 ·exact h.deep hE hd hl (fun b hb=>⟨aP.refl _ _,ze (hbnd b (by rw[hkn.2 b hb];simp)) (hkn.2 b hb)⟩) (fun _ _=>rfl) fun b q hb=>⟨aP.refl _ _,hat b q hb⟩
 ·exact h.rekey (fun b hb=>BX hst hd hb) hat
theorem yL (hE:bl E) (hkn:Kn E w g) (hbnd : ∀b,g b≠.free→b < w.heap.size) (hst:Stp w (cS args bor g) w' g') {ty R R':Nat} {t:T} {o:O} {v:Value} (h:BoxOk E w' g' ty R t o v) (hl:o.live=true)
  (hdeep:deep E ty o=true∨bor = []) (hmap : ∀q,jB args d (.at R q) = .at R' q) (hhd:jB args d (.hd R) = .hd R'):BoxOk E w' (kN args bor d w g g') ty R' t o v:=by
 obtain ⟨b,x,h1,h2,h3,h4⟩:=h;exact ⟨b,x,h1,by rw[zf hst (by rw[h2];simp) (by rw[h2];simp),h2,hhd],h3,uk hE hkn hbnd hst h4 hl hdeep (fun q=>by rw[hmap];simp)⟩
end
mutual
theorem sL : ∀(a b:O),O.eq a b=true→a=b
 | .fz,.fz,_=>rfl
 | .fo,.fo,_=>rfl
 | .dp,.dp,_=>rfl
 | .dead,.dead,_=>rfl
 | .sl a,.sl b,h=>by rw[sL a b (by simpa[O.eq] using h)]
 | .st as,.st bs,h=>by rw[u5 as bs (by simpa[O.eq] using h)]
 | .fo,.fz,h | .fo,.dp,h | .fo,.dead,h | .fo,.sl _,h | .fo,.st _,h | .fz,.fo,h | .dp,.fo,h | .dead,.fo,h | .sl _,.fo,h | .st _,.fo,h
 | .fz,.dp,h | .fz,.dead,h | .fz,.sl _,h | .fz,.st _,h | .dp,.fz,h | .dp,.dead,h | .dp,.sl _,h | .dp,.st _,h
 | .dead,.fz,h | .dead,.dp,h | .dead,.sl _,h | .dead,.st _,h | .sl _,.fz,h | .sl _,.dp,h | .sl _,.dead,h | .sl _,.st _,h
 | .st _,.fz,h | .st _,.dp,h | .st _,.dead,h | .st _,.sl _,h=>by simp[O.eq] at h
theorem u5 : ∀(a b:List O),O.eqs a b=true→a=b
 | [],[],_=>rfl
 | a :: as,b :: bs,h=>by
  simp only[O.eqs,Bool.and_eq_true] at h;rw[sL a b h.1,u5 as bs h.2]
 | [],_ :: _,h=>by simp[O.eqs] at h
 | _ :: _,[],h=>by simp[O.eqs] at h
end
def Al:List (Nat × Mode)→List Arg→Prop
 | [],[]=>True
 | (_,.ro) :: ps,.ro :: as=>Al ps as
 | (_,.mu o) :: ps,.mu _ _ o' :: as=>o=o'∧Al ps as
 | (_,.bx o) :: ps,.bx _ o' :: as=>o=o'∧Al ps as
 | (_,.mv o) :: ps,.mv _ o' :: as=>o=o'∧Al ps as
 | (_,.ig) :: ps,.ig :: as=>Al ps as
 | _,_=>False
section
variable {E:Env} {w:World} {g:Gh} {rt look:Nat→Option Rt} {hold:Nat→aE}
theorem al_of : ∀{ps:List (Nat × Mode)} {args:List Arg},ps.length=args.length→
  (∀(k r:Nat) (p:List aH) (o:O),args[k]?=some (.mu r p o)→∃ty,ps[k]?=some (ty,.mu o))→(∀(k r:Nat) (o:O),args[k]?=some (.bx r o)→∃ty,ps[k]?=some (ty,.bx o))→
  (∀(k r:Nat) (o:O),args[k]?=some (.mv r o)→∃ty,ps[k]?=some (ty,.mv o))→(∀(k:Nat),args[k]?=some .ig→∃ty,ps[k]?=some (ty,.ig))→
  (∀(k:Nat),args[k]?=some .ro→∃ty,ps[k]?=some (ty,.ro))→Al ps args
 | [],args,h,_,_,_,_,_=>by cases args with
  | nil=>trivial
  | cons=>simp at h
 | (ty,m) :: ps,args,h,h1,h2,h4,h5,h3=>by
  cases args with
  | nil=>simp at h
  | cons x args=>
   have ih:=al_of (ps:=ps) (args:=args) (by simpa using h) (fun k r p o hk=>by simpa using h1 (k+1) r p o (by simpa using hk)) (fun k r o hk=>by simpa using h2 (k+1) r o (by simpa using hk))
    (fun k r o hk=>by simpa using h4 (k+1) r o (by simpa using hk)) (fun k hk=>by simpa using h5 (k+1) (by simpa using hk)) (fun k hk=>by simpa using h3 (k+1) (by simpa using hk))
   cases x with
   | ro=>obtain ⟨ty',e⟩:=h3 0 rfl;simp at e;obtain ⟨_,rfl⟩:=e;exact ih
   | mu r p o=>obtain ⟨ty',e⟩:=h1 0 r p o rfl;simp at e;obtain ⟨_,rfl⟩:=e;exact ⟨rfl,ih⟩
   | bx r o=>obtain ⟨ty',e⟩:=h2 0 r o rfl;simp at e;obtain ⟨_,rfl⟩:=e;exact ⟨rfl,ih⟩
   | mv r o=>obtain ⟨ty',e⟩:=h4 0 r o rfl;simp at e;obtain ⟨_,rfl⟩:=e;exact ⟨rfl,ih⟩
   | ig=>obtain ⟨ty',e⟩:=h5 0 rfl;simp at e;obtain ⟨_,rfl⟩:=e;exact ih
def muNew (E:Env) (p:List aH) (o:O) (t:T) (R:Rt):Rt:={ R with t:=R.t.put p t,o:=bif dq p then O.set E R.ty R.o p o else R.o }
def vg (o:O) (t:T) (R:Rt):Rt:={ R with t:=t,o:=o }
theorem nz {w':World} {g':Gh} : ∀{ps:List (Nat × Mode)} {args:List Arg} {vs:List Value} {mts:List T} {i:Nat},Al ps args→cQ E w' g' i ps mts vs→cg (aZ args)=true→
  (∀(k r:Nat) (p:List aH) (o:O),args[k]?=some (.mu r p o)→∃ty t' v,ps[k]?=some (ty,.mu o)∧vs[k]?=some v∧MuOk E w' g' (i+k) ty (.mu o) t' v∧
   aJ (cL E look args mts) r=some ((look r).map (muNew E p o t')))∧
  (∀(k r:Nat) (o:O),args[k]?=some (.bx r o)→∃ty t' v,ps[k]?=some (ty,.bx o)∧vs[k]?=some v∧MuOk E w' g' (i+k) ty (.bx o) t' v∧
   aJ (cL E look args mts) r=some ((look r).map (vg o t')))∧
  (∀(k r:Nat) (o:O),args[k]?=some (.mv r o)→aJ (cL E look args mts) r=some none)∧
  (∀r,r ∉ aZ args→aJ (cL E look args mts) r=none)
 | [],args,vs,mts,i,hal,hm,hd=>by
  cases args with
  | nil=>exact ⟨fun k r p o h=>by simp at h,fun k r o h=>by simp at h,fun k r o h=>by simp at h,fun r _=>by cases mts <;> rfl⟩
  | cons x args=>cases x <;> simp[Al] at hal
 | (ty,m) :: ps,args,vs,mts,i,hal,hm,hd=>by
  cases args with
  | nil=>cases m <;> simp[Al] at hal
  | cons x args=>
   cases vs with
   | nil=>cases m <;> cases mts <;> simp[cQ] at hm
   | cons v vs=>
    rw[cM] at hd;cases m with
    | ro=>
     cases x with
     | ro=>
      simp only[Al] at hal;simp only[cQ] at hm;obtain ⟨i1,i2,i4,i3⟩:=nz hal hm hd;refine ⟨fun k r p o hk=>?_,fun k r o hk=>?_,fun k r o hk=>?_,fun r hr=>?_⟩
      ·cases k with
       | zero=>simp at hk
       | succ k=>
        obtain ⟨ty',t',v',a1,a2,a3,a4⟩:=i1 k r p o (by simpa using hk)
        exact ⟨ty',t',v',by simpa using a1,by simpa using a2,by rw[show i+(k+1)=i+1+k by omega];exact a3,by simpa[cL] using a4⟩
      ·cases k with
       | zero=>simp at hk
       | succ k=>
        obtain ⟨ty',t',v',a1,a2,a3,a4⟩:=i2 k r o (by simpa using hk)
        exact ⟨ty',t',v',by simpa using a1,by simpa using a2,by rw[show i+(k+1)=i+1+k by omega];exact a3,by simpa[cL] using a4⟩
      ·cases k with
       | zero=>simp at hk
       | succ k=>simpa[cL] using i4 k r o (by simpa using hk)
      ·rw[cM] at hr;simpa[cL] using i3 r hr
     | _=>simp[Al] at hal
    | ig=>
     cases x with
     | ig=>
      simp only[Al] at hal;simp only[cQ] at hm;obtain ⟨i1,i2,i4,i3⟩:=nz hal hm hd;refine ⟨fun k r p o hk=>?_,fun k r o hk=>?_,fun k r o hk=>?_,fun r hr=>?_⟩
      ·cases k with
       | zero=>simp at hk
       | succ k=>
        obtain ⟨ty',t',v',a1,a2,a3,a4⟩:=i1 k r p o (by simpa using hk)
        exact ⟨ty',t',v',by simpa using a1,by simpa using a2,by rw[show i+(k+1)=i+1+k by omega];exact a3,by simpa[cL] using a4⟩
      ·cases k with
       | zero=>simp at hk
       | succ k=>
        obtain ⟨ty',t',v',a1,a2,a3,a4⟩:=i2 k r o (by simpa using hk)
        exact ⟨ty',t',v',by simpa using a1,by simpa using a2,by rw[show i+(k+1)=i+1+k by omega];exact a3,by simpa[cL] using a4⟩
      ·cases k with
       | zero=>simp at hk
       | succ k=>simpa[cL] using i4 k r o (by simpa using hk)
      ·rw[cM] at hr;simpa[cL] using i3 r hr
     | _=>simp[Al] at hal
    | mv o0=>
     cases x with
     | mv r0 o1=>
      simp only[Al] at hal;obtain ⟨rfl,hal⟩:=hal;simp only[cQ] at hm;obtain ⟨hd1,hd2⟩:=bL hd;obtain ⟨i1,i2,i4,i3⟩:=nz hal hm hd2;have hcons : ∀r,r≠r0→aJ (cL E look (.mv r0 o0 :: args) mts) r=aJ (cL E look args mts) r:=by
       intro r hr;simp only[cL,aJ,bZ,Ne.symm hr,decide_false,cond_false]
      refine ⟨fun k r p o hk=>?_,fun k r o hk=>?_,fun k r o hk=>?_,fun r hr=>?_⟩
      ·cases k with
       | zero=>simp at hk
       | succ k=>
        simp only[List.getElem?_cons_succ] at hk;obtain ⟨ty',t',v',a1,a2,a3,a4⟩:=i1 k r p o hk;refine ⟨ty',t',v',by simpa using a1,by simpa using a2,by rw[show i+(k+1)=i+1+k by omega];exact a3,?_⟩
        rw[hcons r (fun e=>hd1 (e ▸ bT.2 ⟨k,.inl ⟨p,o,hk⟩⟩)),a4]
      ·cases k with
       | zero=>simp at hk
       | succ k=>
        simp only[List.getElem?_cons_succ] at hk;obtain ⟨ty',t',v',a1,a2,a3,a4⟩:=i2 k r o hk;refine ⟨ty',t',v',by simpa using a1,by simpa using a2,by rw[show i+(k+1)=i+1+k by omega];exact a3,?_⟩
        rw[hcons r (fun e=>hd1 (e ▸ bT.2 ⟨k,.inr (.inl ⟨o,hk⟩)⟩)),a4]
      ·cases k with
       | zero=>
        simp at hk;obtain ⟨rfl,rfl⟩:=hk;simp only[cL,aJ,bZ,decide_true,cond_true]
       | succ k=>
        simp only[List.getElem?_cons_succ] at hk;rw[hcons r (fun e=>hd1 (e ▸ bT.2 ⟨k,.inr (.inr ⟨o,hk⟩)⟩))]
        exact i4 k r o hk
      ·rw[cM] at hr;simp only[List.mem_cons,not_or] at hr;rw[hcons r hr.1];exact i3 r hr.2
     | _=>simp[Al] at hal
    | mu o0=>
     cases x with
     | mu r0 p0 o1=>
      simp only[Al] at hal;obtain ⟨rfl,hal⟩:=hal;cases mts with
      | nil=>simp[cQ] at hm
      | cons t mts=>
       simp only[cQ] at hm;obtain ⟨hd1,hd2⟩:=bL hd;obtain ⟨i1,i2,i4,i3⟩:=nz hal hm.2 hd2;have hcons : ∀r,r≠r0→aJ (cL E look (.mu r0 p0 o0 :: args) (t :: mts)) r=aJ (cL E look args mts) r:=by
        intro r hr;simp only[cL,aJ,bZ,Ne.symm hr,decide_false,cond_false,List.tail_cons]
       refine ⟨fun k r p o hk=>?_,fun k r o hk=>?_,fun k r o hk=>?_,fun r hr=>?_⟩
       ·cases k with
        | zero=>
         simp at hk;obtain ⟨rfl,rfl,rfl⟩:=hk;exact ⟨ty,t,v,rfl,rfl,hm.1,by simp only[cL,aJ,bZ,decide_true,cond_true];rfl⟩
        | succ k=>
         simp only[List.getElem?_cons_succ] at hk;obtain ⟨ty',t',v',a1,a2,a3,a4⟩:=i1 k r p o hk;refine ⟨ty',t',v',by simpa using a1,by simpa using a2,by rw[show i+(k+1)=i+1+k by omega];exact a3,?_⟩
         rw[hcons r (fun e=>hd1 (e ▸ bT.2 ⟨k,.inl ⟨p,o,hk⟩⟩)),a4]
       ·cases k with
        | zero=>simp at hk
        | succ k=>
         simp only[List.getElem?_cons_succ] at hk;obtain ⟨ty',t',v',a1,a2,a3,a4⟩:=i2 k r o hk;refine ⟨ty',t',v',by simpa using a1,by simpa using a2,by rw[show i+(k+1)=i+1+k by omega];exact a3,?_⟩
         rw[hcons r (fun e=>hd1 (e ▸ bT.2 ⟨k,.inr (.inl ⟨o,hk⟩)⟩)),a4]
       ·cases k with
        | zero=>simp at hk
        | succ k=>
         simp only[List.getElem?_cons_succ] at hk;rw[hcons r (fun e=>hd1 (e ▸ bT.2 ⟨k,.inr (.inr ⟨o,hk⟩)⟩))]
         exact i4 k r o hk
       ·rw[cM] at hr;simp only[List.mem_cons,not_or] at hr;rw[hcons r hr.1];exact i3 r hr.2
     | _=>simp[Al] at hal
    | bx o0=>
     cases x with
     | bx r0 o1=>
      simp only[Al] at hal;obtain ⟨rfl,hal⟩:=hal;cases mts with
      | nil=>simp[cQ] at hm
      | cons t mts=>
       simp only[cQ] at hm;obtain ⟨hd1,hd2⟩:=bL hd;obtain ⟨i1,i2,i4,i3⟩:=nz hal hm.2 hd2;have hcons : ∀r,r≠r0→aJ (cL E look (.bx r0 o0 :: args) (t :: mts)) r=aJ (cL E look args mts) r:=by
        intro r hr;simp only[cL,aJ,bZ,Ne.symm hr,decide_false,cond_false,List.tail_cons]
       refine ⟨fun k r p o hk=>?_,fun k r o hk=>?_,fun k r o hk=>?_,fun r hr=>?_⟩
       ·cases k with
        | zero=>simp at hk
        | succ k=>
         simp only[List.getElem?_cons_succ] at hk;obtain ⟨ty',t',v',a1,a2,a3,a4⟩:=i1 k r p o hk;refine ⟨ty',t',v',by simpa using a1,by simpa using a2,by rw[show i+(k+1)=i+1+k by omega];exact a3,?_⟩
         rw[hcons r (fun e=>hd1 (e ▸ bT.2 ⟨k,.inl ⟨p,o,hk⟩⟩)),a4]
       ·cases k with
        | zero=>
         simp at hk;obtain ⟨rfl,rfl⟩:=hk;exact ⟨ty,t,v,rfl,rfl,hm.1,by simp only[cL,aJ,bZ,decide_true,cond_true];rfl⟩
        | succ k=>
         simp only[List.getElem?_cons_succ] at hk;obtain ⟨ty',t',v',a1,a2,a3,a4⟩:=i2 k r o hk;refine ⟨ty',t',v',by simpa using a1,by simpa using a2,by rw[show i+(k+1)=i+1+k by omega];exact a3,?_⟩
         rw[hcons r (fun e=>hd1 (e ▸ bT.2 ⟨k,.inr (.inl ⟨o,hk⟩)⟩)),a4]
       ·cases k with
        | zero=>simp at hk
        | succ k=>
         simp only[List.getElem?_cons_succ] at hk;rw[hcons r (fun e=>hd1 (e ▸ bT.2 ⟨k,.inr (.inr ⟨o,hk⟩)⟩))]
         exact i4 k r o hk
       ·rw[cM] at hr;simp only[List.mem_cons,not_or] at hr;rw[hcons r hr.1];exact i3 r hr.2
     | _=>simp[Al] at hal
theorem Ad {d j k:Nat} (h:bc d j=bc d k):j=k:=by unfold bc at h;omega
theorem uJ {d:Nat} {w':World} {g':Gh} : ∀{rs:List (Nat × Ret)} {ts rest:List T} {vs:List Value} {j:Nat},j6 E w' g' j rs ts vs→
  ts.length=rs.length∧vs.length=rs.length∧
  (∀(k ty:Nat) (kd:Ret),rs[k]?=some (ty,kd)→∃t v,ts[k]?=some t∧vs[k]?=some v∧ResOk E w' g' (j+k) ty kd t v∧
   aJ (ll E d j rs (ts++rest)) (bc d (j+k))=some (pA E d (j+k) ty t kd).2∧aJ (ga d j rs) (bc d (j+k))=some 0∧
   (jc E d j rs (ts++rest))[k]?=some (pz E d (j+k) ty t kd))∧
  (∀r,(∀k,k < rs.length→r≠bc d (j+k))→aJ (ll E d j rs (ts++rest)) r=none)∧(jc E d j rs (ts++rest)).length=rs.length∧
  (∀k,k < rs.length→bc d (j+k)∈(ga d j rs).map (·.1))
 | [],ts,rest,vs,j,h=>by
  cases ts with
  | nil=>
   cases vs with
   | nil=>exact ⟨rfl,rfl,fun k ty kd h=>by simp at h,fun r _=>by simp[ll,aJ],by simp[jc],fun k hk=>by simp at hk⟩
   | cons=>simp[j6] at h
  | cons=>simp[j6] at h
 | (ty,kd) :: rs,ts,rest,vs,j,h=>by
  cases ts with
  | nil=>simp[j6] at h
  | cons t ts=>
   cases vs with
   | nil=>simp[j6] at h
   | cons v vs=>
    simp only[j6] at h;obtain ⟨i1,i2,i3,i4,i5,i6⟩:=uJ (d:=d) (rest:=rest) h.2;have hk0 : ∀{t},(pA E d j ty t kd).1=bc d j:=by intro t;cases kd <;> rfl
    have hcons : ∀r,r≠bc d j→aJ (ll E d j ((ty,kd) :: rs) (t :: ts++rest)) r=aJ (ll E d (j+1) rs (ts++rest)) r:=by
     intro r hr;simp only[ll,List.cons_append,List.headD_cons,List.tail_cons];rw[show pA E d j ty t kd=(bc d j,(pA E d j ty t kd).2) from Prod.ext hk0 rfl]
     simp only[aJ,bZ,Ne.symm hr,decide_false,cond_false]
    refine ⟨by simp[i1],by simp[i2],fun k ty' kd' hk=>?_,fun r hr=>?_,by simp[jc,i5],fun k hk=>?_⟩
    ·cases k with
     | zero=>
      simp at hk;obtain ⟨rfl,rfl⟩:=hk;refine ⟨t,v,rfl,rfl,h.1,?_,by simp[ga,aJ,bZ],by simp[jc]⟩
      simp only[ll,List.cons_append,List.headD_cons,List.tail_cons,Nat.add_zero];rw[show pA E d j ty t kd=(bc d j,(pA E d j ty t kd).2) from Prod.ext hk0 rfl]
      simp only[aJ,bZ,decide_true,cond_true]
     | succ k=>
      obtain ⟨t',v',a1,a2,a3,a4,a5,a6⟩:=i3 k ty' kd' (by simpa using hk)
      have he:j+1+k=j+(k+1):=by omega
      rw[he] at a3 a4 a5 a6;have hne:bc d (j+(k+1))≠bc d j:=fun e=>by have:=Ad e;omega
      refine ⟨t',v',by simpa using a1,by simpa using a2,a3,by rw[hcons _ hne];exact a4,?_,by simpa[jc] using a6⟩
      simp only[ga,aJ,bZ,Ne.symm hne,decide_false,cond_false];exact a5
    ·rw[hcons r (by simpa using hr 0 (by simp))]
     exact i4 r fun k hk=>by have:=hr (k+1) (by simpa using hk);rwa [show j+(k+1)=j+1+k by omega] at this
    ·cases k with
     | zero=>simp[ga]
     | succ k=>
      have:=i6 k (by simpa using hk)
      rw[show j+(k+1)=j+1+k by omega]
      simp only[ga,List.map_cons,List.mem_cons];exact .inr this
theorem eU {α:Type} (r:Nat) : ∀(l m:List (Nat × α)),aJ (l++m) r=(match aJ l r with | some x=>some x | none=>aJ m r)
 | [],m=>rfl
 | (k,v) :: l,m=>by
  simp only[List.cons_append,aJ];cases Nat.beq k r with
  | true=>rfl
  | false=>simp only[cond_false];exact eU r l m
end
def wX (k:Ret) (v:Value):aE:=match k with
 | .vl _=>.reg v.cells.toList 0
 | .bx _=>match v with
  | .pointer (some a)=>.mem a.block a.off
  | _=>.reg [] 0
 | .ig=>.reg [] 0
def vP (hold:Nat→aE) (d:Nat) (rs:List (Nat × Ret)) (rvs:List Value):Nat→aE:=fun r=>
 if r % 1000=d then (match rs[r / 1000]?,rvs[r / 1000]? with
  | some (_,k),some v=>wX k v
  | _,_=>hold r) else hold r
theorem BY {hold:Nat→aE} {d k ty:Nat} {rs:List (Nat × Ret)} {rvs:List Value} {kd:Ret} {v:Value} (hd:d < 1000) (h1:rs[k]?=some (ty,kd)) (h2:rvs[k]?=some v) :
  vP hold d rs rvs (bc d k)=wX kd v:=by
 have e1:bc d k % 1000=d:=by unfold bc;omega
 have e2:bc d k / 1000=k:=by unfold bc;omega
 simp only[vP,e1,e2,if_true,h1,h2]
theorem gK {hold:Nat→aE} {d r:Nat} {rs:List (Nat × Ret)} {rvs:List Value} (h : ∀k,k < rs.length→r≠bc d k):vP hold d rs rvs r=hold r:=by
 unfold vP;by_cases hr:r % 1000=d
 ·rw[if_pos hr];rcases Nat.lt_or_ge (r / 1000) rs.length with hlt | hge
  ·exact absurd (show r=bc d (r / 1000) by unfold bc;omega) (h _ hlt)
  ·rw[List.getElem?_eq_none hge]
 ·rw[if_neg hr]
theorem Bj {args:List Arg} {r:Nat} (h:ij args r=true) : ∀(i:Nat),(dh i args r).isSome=true:=by
 induction args with
 | nil=>simp[ij] at h
 | cons x l ih=>
  intro i;cases x with
  | ro=>exact ih (by simpa[ij] using h) _
  | mu r' p o=>exact ih (by simpa[ij] using h) _
  | mv r' o=>exact ih (by simpa[ij] using h) _
  | ig=>exact ih (by simpa[ij] using h) _
  | bx r' o=>
   simp only[ij,Bool.or_eq_true] at h;simp only[dh];by_cases hr:r'=r
   ·rw[if_pos hr];rfl
   ·rw[if_neg hr];rcases h with h | h
    ·exact absurd (Nat.eq_of_beq_eq_true h) hr
    ·exact ih h _
theorem Bl {args:List Arg} {r:Nat} : ∀{i:Nat},(dh i args r).isSome=true→ij args r=true:=by
 induction args with
 | nil=>intro i h;simp[dh] at h
 | cons x l ih=>
  intro i h;cases x with
  | ro=>simp only[dh] at h;exact ih h
  | mu r' p o=>simp only[dh] at h;exact ih h
  | mv r' o=>simp only[dh] at h;exact ih h
  | ig=>simp only[dh] at h;exact ih h
  | bx r' o=>
   simp only[ij,Bool.or_eq_true];by_cases hr:r'=r
   ·subst hr;left;simp
   ·simp only[dh,if_neg hr] at h;exact .inr (ih h)
theorem CE {l m:List Nat} (h:dP l m=true) : ∀r∈l,r ∉ m:=by
 intro r hr hm;have:=List.all_eq_true.1 h r hr
 rw[eR.2 hm] at this;simp at this
section
variable {P:Program} {E:Env} {n:Nat} {st:St} {a:Act} {w:World} {g:Gh} {hold:Nat→aE} {look:Nat→Option Rt}
set_option maxHeartbeats 800000 in
theorem after_ok (hP:ba P E) (h:Inv E n st a w g hold) (hl : ∀r R,look r=some R→st.rt r=some R) {dst:Option Nat} (hdst : ∀x,dst=some x→x < n) {ps:List (Nat × Mode)} {rs:List (Nat × Ret)}
  {as:List AV} {ts:List T} {args:List Arg} (hA:v7 E look ps as ts args) {d:Nat} (hd9:d < 1000) (hrl:rs.length < 90) (hpl:ps.length < 1000)
  (c1:cg (aZ args)=true) (c2:dP (aZ args) ((ga d 0 rs).map (·.1))=true) (c3:dP (aZ args) (NN args as)=true)
  (c4:((rs.all (o6 E)&&ps.all (o5 E))||(NN args as).isEmpty)=true) (c5:rs.all (pu E)=true) (c6:ps.all gW=true)
  {vs:List Value} (hlen:vs.length=as.length) (hv : ∀(k:Nat) (av:AV) (v:Value),as[k]?=some av→vs[k]?=some v→aO E w g st.rt hold av v)
  {w':World} {g':Gh} (hst:Stp w (cS args (NN args as) g) w' g') (hbnd' : ∀b,g' b≠.free→b < w'.heap.size) {v:Value} {rvs:List Value} {rts mts:List T}
  (hres:j6 E w' g' 0 rs rts rvs) (hmus:cQ E w' g' 0 ps mts vs) (hvr:VRes rvs v) :
  ∃g'' hold',Stp w g w' g''∧Sld hold hold'∧Inv E n (aX dst ⟨match rs with
     | [(ty,k)]=>pz E d 0 ty ((rts++mts).headD (.int 0)) k
     | _=>.tup (jc E d 0 rs (rts++mts)),
         cL E look args ((rts ++ mts).drop rs.length) ++ ll E d 0 rs (rts ++ mts), rb look args ++ ga d 0 rs⟩ st) (a.put dst v) w' g'' hold' := by
 have hE:=hP.wf;let bor:=NN args as
 let G:=kN args bor d w g g'
 let hold':=vP hold d rs rvs
 obtain ⟨l1,l2,l3,hmu,hbx,hmv,hig,hro⟩:=hA;have hap2:=CE c2;have hap3:=CE c3;obtain ⟨r1,r2,r3,r4,r5,r6⟩:=uJ (E:=E) (d:=d) (rest:=mts) hres;simp only[Nat.zero_add] at r3 r4 r6;have hdrop:(rts++mts).drop rs.length=mts:=by rw[← r1];simp
 rw[hdrop];have hal:Al ps args:=al_of l3.symm (fun k r p o hk=>by obtain ⟨ty,_,e,_⟩:=hmu k r p o hk;exact ⟨ty,e⟩) (fun k r o hk=>by obtain ⟨ty,_,_,e,_⟩:=hbx k r o hk;exact ⟨ty,e⟩)
  (fun k r o hk=>by obtain ⟨ty,_,_,e,_⟩:=hmv k r o hk;exact ⟨ty,e⟩) (fun k hk=>by obtain ⟨ty,_,_,e,_⟩:=hig k hk;exact ⟨ty,e⟩)
  (fun k hk=>by obtain ⟨ty,_,_,e,_⟩:=hro k hk;exact ⟨ty,e⟩)
 obtain ⟨b1,b2,b4,b3⟩:=nz (E:=E) (look:=look) hal hmus c1;simp only[Nat.zero_add] at b1 b2;have hdR : ∀ty kd,(ty,kd)∈rs→o6 E (ty,kd)=true∨bor = []:=by
  intro ty kd hm;simp only[Bool.or_eq_true,Bool.and_eq_true] at c4;rcases c4 with c | c
  ·exact .inl (List.all_eq_true.1 c.1 _ hm)
  ·exact .inr (List.isEmpty_iff.1 c)
 have hdM : ∀ty m,(ty,m)∈ps→o5 E (ty,m)=true∨bor = []:=by
  intro ty m hm;simp only[Bool.or_eq_true,Bool.and_eq_true] at c4;rcases c4 with c | c
  ·exact .inl (List.all_eq_true.1 c.2 _ hm)
  ·exact .inr (List.isEmpty_iff.1 c)
 have hfrz : ∀b,g b = .frz→aP w w' b∧G b = .frz:=by
  intro b hb;have hlt:=h.bnd b (by rw[hb];simp)
  exact ⟨.of_heap (hst.keep b hlt (.inr (iq hb))).1,ze hlt hb⟩
 have hunl : ∀b,b < w.heap.size→cS args bor g b = .free→w'.heap[b]?=w.heap[b]?∧G b=g b:=fun b hlt hf=>⟨(hst.keep b hlt (.inl hf)).1,BW hlt hf⟩
 have hbor : ∀b r q,g b = .at r q→r∈bor→aP w w' b∧G b=g b:=by
  intro b r q hb hr;have hlt:=h.bnd b (by rw[hb];simp)
  exact ⟨.of_heap (hst.keep b hlt (.inr (sV hb hr))).1,gret_bor hlt hb hr⟩
 have hatf : ∀b r q,g b = .at r q→lent 0 args r q=none→aP w w' b∧G b=g b:=by
  intro b r q hb hr;have hlt:=h.bnd b (by rw[hb];simp)
  by_cases hrb:r∈bor
  ·exact hbor b r q hb hrb
  ·obtain ⟨k1,k2⟩:=hunl b hlt (by rw[rK hb hrb,hr];rfl)
   exact ⟨.of_heap k1,k2⟩
 have hhdf : ∀b r,g b = .hd r→dh 0 args r=none→aP w w' b∧G b=g b:=by
  intro b r hb hr;obtain ⟨k1,k2⟩:=hunl b (h.bnd b (by rw[hb];simp)) (by rw[zd hb,hr])
  exact ⟨.of_heap k1,k2⟩
 have hstp:Stp w g w' G:=by
  refine ⟨hst.os,hst.tape,hst.output,hst.size,fun b hb hf=>?_⟩
  rcases hf with hf | hf
  ·have:cS args bor g b = .free:=by simp[cS,hf]
   obtain ⟨k1,k2⟩:=hunl b hb this;exact ⟨k1,k2⟩
  ·exact ⟨(hst.keep b hb (.inr (iq hf))).1,by rw[hf];exact (hfrz b hf).2⟩
 have hsld:Sld hold hold':=fun r hr=>gK fun k hk e=>by unfold bc at e;omega
 have e2r : ∀k,200000≤eC k∧eC k - 200000=k:=fun k=>by unfold eC;omega
 have e1r : ∀k,k < 1000→¬200000≤aN k∧100000≤aN k∧aN k - 100000=k:=fun k hk=>by unfold aN;omega
 have bR : ∀k q,jB args d (.at (eC k) q) = .at (bc d k) q:=by intro k q;simp only[jB];rw[if_pos (e2r k).1,(e2r k).2]
 have bRh : ∀k,jB args d (.hd (eC k)) = .hd (bc d k):=by intro k;simp only[jB];rw[if_pos (e2r k).1,(e2r k).2]
 have bM : ∀(k r:Nat) (p:List aH) (o:O),args[k]?=some (Arg.mu r p o)→∀q,jB args d (.at (aN k) q) = .at r (p++q):=by
  intro k r p o hk q;have hkl:=(List.getElem?_eq_some_iff.1 hk).1;obtain ⟨x1,x2,x3⟩:=e1r k (by omega)
  simp only[jB];rw[if_neg x1,if_pos x2,x3,hk]
 have bB : ∀(k r:Nat) (o:O),args[k]?=some (Arg.bx r o)→(∀q,jB args d (.at (aN k) q) = .at r q)∧jB args d (.hd (aN k)) = .hd r:=by
  intro k r o hk;have hkl:=(List.getElem?_eq_some_iff.1 hk).1;obtain ⟨x1,x2,x3⟩:=e1r k (by omega)
  refine ⟨fun q=>?_,?_⟩ <;> (simp only[jB];rw[if_neg x1,if_pos x2,x3,hk])
 let rt':Nat→Option Rt:=fun r=>match aJ (cL E look args mts++ll E d 0 rs (rts++mts)) r with | some x=>x | none=>st.rt r
 have rt_ret : ∀k ty kd t,rs[k]?=some (ty,kd)→aJ (ll E d 0 rs (rts++mts)) (bc d k)=some (pA E d k ty t kd).2→rt' (bc d k)=(pA E d k ty t kd).2:=by
  intro k ty kd t hk hw;have hkl:=(List.getElem?_eq_some_iff.1 hk).1;have hnm:bc d k ∉ aZ args:=fun hm=>hap2 _ hm (r6 k hkl)
  simp only[rt'];rw[eU,b3 _ hnm];simp only;rw[hw]
 have rt_old : ∀r,r ∉ aZ args→(∀k,k < rs.length→r≠bc d k)→rt' r=st.rt r:=by
  intro r h1 h2;simp only[rt'];rw[eU,b3 r h1];simp only;rw[r4 r h2]
 have rt_mu : ∀r x,aJ (cL E look args mts) r=some x→rt' r=x:=by
  intro r x hx;simp only[rt'];rw[eU,hx]
 have ret_or : ∀r,(∃k,k < rs.length∧r=bc d k)∨∀k,k < rs.length→r≠bc d k:=by
  intro r;by_cases hex : ∃k,k < rs.length∧r=bc d k
  ·exact .inl hex
  ·exact .inr fun k hk e=>hex ⟨k,hk,e⟩
 have hkeep : ∀r,r ∉ aZ args→(∀k,k < rs.length→r≠bc d k)→jt w g hold w' G hold' r:=by
  intro r h1 h2;refine ⟨gK h2,fun b hb=>?_⟩
  rcases hb with hb | ⟨q,hb⟩
  ·exact hhdf b r hb (vW h1 0)
  ·exact hatf b r q hb (C6 h1 0 q)
 have mu_root : ∀r,r∈aZ args→(∀k,k < rs.length→r≠bc d k):=fun r hr k hk e=>hap2 r hr (by rw[e];exact r6 k hk)
 have hmuR : ∀(k r:Nat) (p:List aH) (o:O),args[k]?=some (Arg.mu r p o)→∃R R',look r=some R∧rt' r=some R'∧R'.ty=R.ty∧R'.box=R.box∧dF E w' G hold' r R'∧∀m,rd w' ((hold r).add m)=rd w ((hold r).add m):=by
  intro k r p o hk;obtain ⟨ty,R,e1,e2,e3,e4,e5,e6,e7,e8⟩:=hmu k r p o hk;obtain ⟨ty',t',v',f1,f2,f3,f4⟩:=b1 k r p o hk;rw[e1] at f1;cases f1;rw[e3,Option.map_some] at f4;have hmr:r∈aZ args:=bT.2 ⟨k,.inl ⟨p,o,hk⟩⟩
  have ok:=h.rts r R (hl r R e3);have hhold:hold' r=hold r:=gK (mu_root r hmr)
  obtain ⟨g1,g2,g3⟩:=wU (i:=0) c1 hk;have hhd : ∀b,g b = .hd r→aP w w' b∧G b=g b:=fun b hb=>hhdf b r hb g3
  obtain ⟨⟨e,A,kk,cc,s1,s2⟩,hrep⟩:=f3;have hrd : ∀m,rd w' ((hold r).add m)=rd w ((hold r).add m):=by
   intro m;cases hb:R.box with
   | true=>obtain ⟨b,x,q1,q2,_⟩:=ok.box hb;rw[q1];exact (hhd b q2).1.1 _
   | false=>obtain ⟨xs,q1⟩:=ok.reg hb;rw[q1];rfl
  refine ⟨R,muNew E p o t' R,e3,rt_mu r _ f4,rfl,rfl,⟨?_,fun hb=>?_,fun hb=>?_⟩,hrd⟩
  ·rw[hhold];have hav:=hv k _ v' e2 f2;cases hav with
   | @sref _ e' _ _ A' n' c' R0 κ a1 a2 a3 a4=>
    rw[hl r R e3] at a1;cases a1;have hm':o.live=true∧o.own=true:=by
     have:=List.all_eq_true.1 c6 _ (List.mem_of_getElem? e1)
     simpa[gW,Bool.and_eq_true] using this
    have hnew:=uk (d:=d) hE h.kn h.bnd hst hrep hm'.1 ((hdM ty (.mu o) (List.mem_of_getElem? e1)).imp (fun x=>by simpa[o5] using x) id) (bM k r p o hk)
    have hκ : ∀m,m < E.sz ty→rd w' (κ.add m)=rd w (κ.add m):=by
     intro m hm;rcases a3.where hE with ⟨_,dd,hdd,_⟩ | ⟨b,x,q1,i,q2,hm1,hg1,hq1⟩
     ·rw[hdd,aE.add_add];exact hrd _
     ·rw[hm1];refine (hatf b r q1 (by simpa using hg1) (g2 q1 ?_)).1.1 _
      rintro ⟨z,hz⟩
      have:=congrArg List.length hq1
      rw[← hz] at this;simp at this
    have hnewκ:Rep E w' G ty t' o r p κ:=hnew.place hE fun m hm=>by
     have hm0:m=0:=by rw[hE.one _ (by simp[a2])] at hm;omega
     rw[hκ m hm];subst hm0;rw[aE.add_zero,aE.add_zero,a4];rfl
    have hput:lx E R.ty R.o p o (bif dq p then O.set E R.ty R.o p o else R.o):=by
     cases hn:dq p with
     | true=>exact uh a3 hn
     | false=>
      rcases e7 with e7 | e7
      ·rw[hn] at e7;cases e7
      ·have:=sL _ _ e7
       rw[cond_false,← this];exact lx.self a3 R.o e8
    refine Rep.swap hE a3 ok.rep e8 hput (by simpa using hnewκ) (fun b hb=>?_) fun m _=>hrd m
    rcases hb with hb | ⟨q',hb,hnp⟩
    ·obtain ⟨k1,k2⟩:=hfrz b hb;exact ⟨k1,by rw[k2,hb]⟩
    ·exact hatf b r q' (by simpa using hb) (g2 q' hnp)
  ·obtain ⟨b,x,q1,q2,q3⟩:=ok.box hb;obtain ⟨k1,k2⟩:=hhd b q2;exact ⟨b,x,by rw[hhold,q1],by rw[k2,q2],k1.2 _ q3⟩
  ·obtain ⟨xs,q1⟩:=ok.reg hb;exact ⟨xs,by rw[hhold,q1]⟩
 have hbxR : ∀(k r:Nat) (o:O),args[k]?=some (Arg.bx r o)→∃R R',look r=some R∧rt' r=some R'∧R'.ty=R.ty∧R'.box=R.box∧R.box=true∧dF E w' G hold' r R':=by
  intro k r o hk;obtain ⟨ty,e,R,e1,e2,e3,e4,e5,e6,e7⟩:=hbx k r o hk;obtain ⟨ty',t',v',f1,f2,f3,f4⟩:=b2 k r o hk;rw[e1] at f1;cases f1;rw[e4,Option.map_some] at f4;have hmr:r∈aZ args:=bT.2 ⟨k,.inr (.inl ⟨o,hk⟩)⟩
  have ok:=h.rts r R (hl r R e4);have hhold:hold' r=hold r:=gK (mu_root r hmr)
  have hm':o.live=true:=by
   have:=List.all_eq_true.1 c6 _ (List.mem_of_getElem? e1)
   simpa[gW] using this
  have hbt:fY E ty=e:=by simp[fY,e2]
  have hav:=hv k _ v' e3 f2;obtain ⟨m1,m2⟩:=bB k r o hk;have hnew:=yL (d:=d) (R':=r) hE h.kn h.bnd hst f3 hm' ((hdM ty (.bx o) (List.mem_of_getElem? e1)).imp (fun x=>by simpa[o5] using x) id) m1 m2
  have hkey : ∀{κ},Sub E w g r R.ty [] (hold r) [] e κ→R.ty=e∧hold r=κ:=by intro κ h;cases h;exact ⟨rfl,rfl⟩
  cases hav with
  | @pref _ _ _ B x1 R0 a1 a2=>
   rw[hl r R e4] at a1;cases a1;obtain ⟨q1,q2⟩:=hkey a2;obtain ⟨bb,xx,n1,n2,n3,n4⟩:=hnew;cases n1;refine ⟨R,vg o t' R,e4,rt_mu r _ f4,rfl,rfl,e6,?_,fun _=>⟨B,x1,by rw[hhold,q2],n2,by simp only[vg,q1,← hbt];exact n3⟩,fun hb=>by simp[vg,e6] at hb⟩
   rw[hhold,q2];simp only[vg,q1,← hbt];exact n4
 have hks_mu : ∀r R,r∈aZ args→look r=some R→aJ (rb look args++ga d 0 rs) r=some (if jU args r then 0 else if R.box then (if ij args r then 2 else 3) else 1):=by
  intro r R hr hR;rw[eU];simp only[rb];rw[jG,if_pos hr];simp only[hR];cases jU args r <;> cases R.box <;> cases ij args r <;> rfl
 have hks_ret : ∀k,k < rs.length→aJ (rb look args++ga d 0 rs) (bc d k)=some 0:=by
  intro k hk;rcases hrs:rs[k] with ⟨ty,kd⟩
  have hnm:bc d k ∉ aZ args:=fun hm=>hap2 _ hm (r6 k hk)
  obtain ⟨_,_,_,_,_,_,q,_⟩:=r3 k ty kd (by rw[List.getElem?_eq_getElem hk,hrs])
  rw[eU];simp only[rb];rw[jG,if_neg hnm];exact q
 have hresR : ∀k ty kd,rs[k]?=some (ty,kd)→∃t v',rvs[k]?=some v'∧(jc E d 0 rs (rts++mts))[k]?=some (pz E d k ty t kd)∧
   (∀R',rt' (bc d k)=some R'→dF E w' G hold' (bc d k) R')∧aO E w' G rt' hold' (pz E d k ty t kd) v':=by
  intro k ty kd hk;obtain ⟨t,v',x1,x2,x3,x4,x5,x6⟩:=r3 k ty kd hk;have hfine:=List.all_eq_true.1 c5 _ (List.mem_of_getElem? hk);have hrt:=rt_ret k ty kd t hk x4;have hho:hold' (bc d k)=wX kd v':=BY hd9 hk x2
  refine ⟨t,v',x2,x6,?_⟩;cases kd with
  | vl o=>
   simp only[pu,Bool.and_eq_true] at hfine;obtain ⟨y1,y2⟩:=x3;have hrep:=uk (d:=d) (R':=bc d k) (p':=[]) hE h.kn h.bnd hst y1 hfine.1 ((hdR ty (.vl o) (List.mem_of_getElem? hk)).imp (fun x=>by simpa[o6] using x) id) (fun q=>by rw[bR];simp)
   have hrt2:rt' (bc d k)=bif E.flat ty||o.isFz then none else some ⟨ty,t,o,false⟩:=by rw[hrt];rfl
   have hok : ∀R',rt' (bc d k)=some R'→dF E w' G hold' (bc d k) R':=by
    intro R' hR';rw[hrt2] at hR';cases hz:(E.flat ty||o.isFz) with
    | true=>rw[hz] at hR';cases hR'
    | false=>
     rw[hz] at hR';cases hR';exact ⟨by rw[hho];exact hrep,fun hb=>(by cases hb),fun _=>⟨_,hho⟩⟩
   refine ⟨hok,?_⟩;simp only[pz];cases hz:(E.flat ty||o.isFz) with
   | true=>
    have hz':(E.flat ty||(o.isFz||o.isFo))=true:=by
     rcases Bool.or_eq_true _ _ ▸ hz with hz | hz <;> simp[hz]
    rw[qf];simp only[hz',cond_true];simp only[Bool.or_eq_true] at hz;refine .val ?_ y2;rcases hz with hz | hz
    ·exact hrep.flat hE hfine.1 hz fun _ _=>rfl
    ·have:o = .fz:=by cases o <;> simp_all[O.isFz]
     exact hrep.frozen this (fun _ h=>h) _ _
   | false=>
    have hR:rt' (bc d k)=some ⟨ty,t,o,false⟩:=by rw[hrt2,hz];rfl
    exact tJ hP hR 9 hrep hfine.1 (by rw[hho];exact .nil) ⟨y2,fun m hm=>by simp[aE.add,rd]⟩ hfine.2
  | bx o=>
   simp only[pu] at hfine;have hb:=yL (d:=d) (R':=bc d k) hE h.kn h.bnd hst x3 hfine ((hdR ty (.bx o) (List.mem_of_getElem? hk)).imp (fun x=>by simpa[o6] using x) id) (fun q=>bR k q) (bRh k)
   obtain ⟨B,x,n1,n2,n3,n4⟩:=hb;subst n1;have hR:rt' (bc d k)=some ⟨fY E ty,t,o,true⟩:=by rw[hrt];rfl
   refine ⟨fun R' hR'=>?_,?_⟩
   ·rw[hR] at hR';cases hR';exact ⟨by rw[hho];exact n4,fun _=>⟨B,x,hho,n2,n3⟩,fun hb=>by cases hb⟩
   ·exact .pref hR (by rw[hho];exact .nil)
  | ig=>
   have hR:rt' (bc d k)=none:=by rw[hrt];rfl
   obtain ⟨n,A,c,n1,rfl,rfl⟩:=x3;exact ⟨fun R' hR'=>(by rw[hR] at hR';cases hR'),aO.ln (n:=n) n1⟩
 refine ⟨G,hold',hstp,hsld,h.apply hE hdst hfrz (hU.of hE h.rts fun r R hR=>?_) (fun r R' hR'=>?_) (fun b hb=>gret_nf h.bnd hbnd' hst hb) fun _=>?_⟩
 ·rcases ret_or r with ⟨k,hk,rfl⟩ | hnr
  ·exact .dead (hks_ret k hk)
  ·by_cases hm:r∈aZ args
   ·obtain ⟨k,⟨p,o,hk⟩ | ⟨o,hk⟩ | ⟨o,hk⟩⟩:=bT.1 hm
    ·obtain ⟨R0,R',q1,q2,q3,q4,q5,q6⟩:=hmuR k r p o hk;rw[hl r R0 q1] at hR;cases hR;have hks:=hks_mu r R hm q1;rw[zz c1 (.inl ⟨p,o,hk⟩)] at hks;have hbx0:ij args r=false:=by
      cases hbb:ij args r with
      | false=>rfl
      | true=>exact absurd (Bj hbb 0) (by rw[(wU (i:=0) c1 hk).2.2];simp)
     cases hb:R.box with
     | true=>exact .lent hb q2 q3 (gK hnr) q6 (by rw[hks,hb,hbx0];rfl)
     | false=>exact .val hb q2 q3 (gK hnr) (by rw[hks,hb];rfl)
    ·obtain ⟨R0,R',q1,q2,q3,q4,q5,q6⟩:=hbxR k r o hk;rw[hl r R0 q1] at hR;cases hR;have hks:=hks_mu r R hm q1;rw[zz c1 (.inr ⟨o,hk⟩)] at hks;have hbx1:ij args r=true:=Bl (i:=0) (by rw[(AH (i:=0) c1 hk).2];simp)
     exact .box q5 q2 q3 (gK hnr) (by rw[hks,q5,hbx1];rfl)
    ·obtain ⟨ty,t,R0,_,_,q1,_⟩:=hmv k r o hk;have hks:=hks_mu r R0 hm q1;rw[(AI (i:=0) c1 hk).2] at hks;exact .dead hks
   ·exact .keep (by show rt' r=some R;rw[rt_old r hm hnr];exact hR) (hkeep r hm hnr)
 ·have hR':rt' r=some R':=hR'
  rcases ret_or r with ⟨k,hk,rfl⟩ | hnr
  ·rcases hrs:rs[k] with ⟨ty,kd⟩
   obtain ⟨t,v',_,_,q,_⟩:=hresR k ty kd (by rw[List.getElem?_eq_getElem hk,hrs])
   exact q R' hR'
  ·by_cases hm:r∈aZ args
   ·obtain ⟨k,⟨p,o,hk⟩ | ⟨o,hk⟩ | ⟨o,hk⟩⟩:=bT.1 hm
    ·obtain ⟨R0,R1,q1,q2,q3,q4,q5,_⟩:=hmuR k r p o hk;rw[hR'] at q2;cases q2;exact q5
    ·obtain ⟨R0,R1,q1,q2,q3,q4,q5,q6⟩:=hbxR k r o hk;rw[hR'] at q2;cases q2;exact q6
    ·rw[rt_mu r none (b4 k r o hk)] at hR';cases hR'
   ·rw[rt_old r hm hnr] at hR';exact (h.rts r R' hR').keep hE (hkeep r hm hnr) hfrz
 ·show aO E w' G rt' hold' _ v
  have tupc:rs.length≠1→aO E w' G rt' hold' (.tup (jc E d 0 rs (rts++mts))) v:=by
   intro hne;have hvv:v = .tuple rvs.toArray:=by
    unfold VRes at hvr;split at hvr
    ·rename_i x;exfalso;apply hne;rw[← r2];rfl
    ·exact hvr
   rw[hvv];refine .tup (by rw[r5,r2]) fun j av v' hj hj'=>?_
   have hjl:=(List.getElem?_eq_some_iff.1 hj').1;have hjr:j < rs.length:=by omega
   rcases hrs:rs[j] with ⟨ty,kd⟩
   obtain ⟨t,v2,q1,q2,_,q3⟩:=hresR j ty kd (by rw[List.getElem?_eq_getElem hjr,hrs])
   rw[hj] at q2;cases q2;rw[hj'] at q1;cases q1;exact q3
  split
  ·rename_i ty kd
   obtain ⟨t,v2,q1,q2,_,q3⟩:=hresR 0 ty kd rfl;have hv2:v=v2:=by
    cases rvs with
    | nil=>simp at r2
    | cons x l=>cases l with
     | nil=>simp at q1;rw[← q1];exact hvr
     | cons=>simp at r2
   have hh:(rts++mts).headD (.int 0)=t∨pz E d 0 ty ((rts++mts).headD (.int 0)) kd=pz E d 0 ty t kd:=by
    right
    simp only[jc,List.getElem?_cons_zero,Option.some.injEq] at q2;exact q2
   rw[hv2];rcases hh with hh | hh <;> rw[hh] <;> exact q3
  ·rename_i hne
   refine tupc fun hlen=>?_
   match hrs:rs,hlen with
   | [(ty,k)],_=>exact hne ty k rfl
end
section
variable {P:Program} {a:Act} {w w':World} {ops:Array Oper} {Q:Exit→Act→World→Prop} {K:Act→World→Prop}
theorem cN {i:Nat} {o:Oper} {v:Value} (hi:ops[i]?=some o) (hg:o.guard=none) (hr:(execOp a.eval o).run P w = .ok (.value v) w') (h:K (a.put o.dst v) w') :
  wpOp P ops Q i K a w:=by
 unfold wpOp;rw[hi];have hw:Region.wanted o (yielded ops a.tmps)=true:=by simp[Region.wanted,hg]
 simp only[hw,if_true];left
 unfold Oper.wp;rw[hr];exact h
theorem NK {i:Nat} {o:Oper} {f:Nat} {vs:Array Value} (hi:ops[i]?=some o) (hg:o.guard=none) (hr:(execOp a.eval o).run P w = .ok (.enter f vs) w)
  (h:Calls P f vs w fun e w'=>∃v,e = .returned v∧K (a.put o.dst v) w'):wpOp P ops Q i K a w:=by
 unfold wpOp;rw[hi];have hw:Region.wanted o (yielded ops a.tmps)=true:=by simp[Region.wanted,hg]
 simp only[hw,if_true];left
 unfold Oper.wp;rw[hr,Oper.upon_enter];refine h.mono fun e w'=>?_
 rintro ⟨v,rfl,h⟩
 exact h
theorem cZ {d:Nat} {v:Value} {n:Nat} (hs:a.tmps.size=n) (hd:d < n):(a.put (some d) v).eval (.tmp d)=v:=by
 simp[Act.put,Act.eval,Array.getD_eq_getD_getElem?,hs,hd]
theorem dI {d t:Nat} {v:Value} (h:t≠d):(a.put (some d) v).eval (.tmp t)=a.eval (.tmp t):=by
 simp only[Act.put,Act.eval,Array.getD_eq_getD_getElem?];rw[Array.getElem?_setIfInBounds_ne (Ne.symm h)]
theorem dW {d:Nat} {v:Value} {n:Nat} (hs:a.tmps.size=n):(a.put (some d) v).tmps.size=n:=by simp[Act.put,hs]
structure fL (o:Oper) (d:Nat) (x:Op):Prop where
 dst:o.dst=some d
 guard:o.guard=none
 op:o.op=x
def lp (fn:Func) (ty:Nat) (c:Code):Prop:=
 fn.results = #[.tmp 2]∧fn.ntmps=9∧∃(i0 i1:Nat) (a0 b0 b1 b2 b3 b4 b5 b6:Oper) (z:Value),
  c = .seq (.region i0 #[a0] false) (.seq (.region i1 #[b0,b1,b2,b3,b4,b5,b6] false) .ret)∧
  fL a0 2 (.assign (.const z))∧fL b0 3 (.move (.tmp 0))∧fL b1 4 (.move (.tmp 0))∧fL b2 5 (.call { callee:=.builtin .len,args:=#[.tmp 4],argTypes:=#[ty] })∧
  fL b3 6 (.move (.tmp 0))∧fL b4 7 (.call { callee:=.builtin .len,args:=#[.tmp 6],argTypes:=#[ty] })∧
  fL b5 8 (.slice ty (.tmp 3) none (some (.tmp 5)) (some (.tmp 7)))∧fL b6 2 (.assign (.tmp 8))
def pE (E:Env) (fn:Func) (ty j1 s1 f1 j2 s2 f2:Nat) (c:Code):Prop:=
 fn.results = #[.tmp 4]∧fn.ntmps=14∧(∃fs e1 e2,E.ty ty = .st fs∧fs[j1]?=some s1∧fs[j2]?=some s2∧E.ty s1 = .sl e1∧E.ty s2 = .sl e2)∧
 ∃(i0 i1 i2 i3:Nat) (a0 a1 b0 b1 b2 b3 b4 c0 c1 c2 c3 c4 d0 d1:Oper) (z:Value) (t1 t2:Array TypeId),
  c = .seq (.region i0 #[a0,a1] false) (.seq (.region i1 #[b0,b1,b2,b3,b4] false) (.seq (.region i2 #[c0,c1,c2,c3,c4] false) (.seq (.region i3 #[d0,d1] false) .ret)))∧
  fL a0 2 (.box ty (.tmp 0))∧fL a1 4 (.assign (.const z))∧
  fL b0 5 (.fieldAddr ty (.tmp 2) j1)∧fL b1 6 (.load s1 (.tmp 5))∧fL b2 7 (.move (.tmp 1))∧
  fL b3 8 (.call { callee:=.value (.func f1),args:=#[.tmp 6,.tmp 7],argTypes:=t1 })∧fL b4 1 (.assign (.tmp 8))∧
  fL c0 9 (.fieldAddr ty (.tmp 2) j2)∧fL c1 10 (.load s2 (.tmp 9))∧fL c2 11 (.move (.tmp 1))∧
  fL c3 12 (.call { callee:=.value (.func f2),args:=#[.tmp 10,.tmp 11],argTypes:=t2 })∧fL c4 1 (.assign (.tmp 12))∧
  fL d0 13 (.move (.tmp 1))∧fL d1 4 (.assign (.tmp 13))
theorem AW {E:Env} (hP:ba P E) {f ty e:Nat} {fn:Func} {c:Code} (hf:P.funcs[f]?=some fn) (hb:fn.body=some c) (hc:lp fn ty c) (hty:E.ty ty = .sl e)
  {A:Option Addr} {n cap:Nat} (hcap:n≤cap):Calls P f #[.slice A n cap] w fun en w'=>en = .returned (.slice A n n)∧w'=w:=by
 obtain ⟨hres,hnt,i0,i1,a0,b0,b1,b2,b3,b4,b5,b6,z,rfl,h0,g0,g1,g2,g3,g4,g5,g6⟩:=hc;refine calls_of_wp hf hb (wp_seq (wp_region ?_));rw[hnt];have hu:=(hP.sl ty e hty).1;obtain ⟨_,_,_,hsz,_⟩:=kr (w:=w) hP (hP.sl ty e hty).2;generalize ha:({ tmps:=#[Value.slice A n cap]++Array.replicate (9 - #[Value.slice A n cap].size) undef,defers:=[] } : Act)=a
 have s0:a.tmps.size=9:=by rw[← ha];simp
 have e0:a.eval (.tmp 0) = .slice A n cap:=by rw[← ha];rfl
 have d0:a.defers = []:=by rw[← ha]
 clear ha
 simp only[show List.range (#[a0]:Array Oper).size = [0] from rfl,wpOps_cons]
 refine cN (o:=a0) (w':=w) (v:=z) rfl h0.guard (by simp[execOp,h0.op,Act.eval]) ?_
 rw[h0.dst];have s1:=dW (d:=2) (v:=z) s0
 have e1:(a.put (some 2) z).eval (.tmp 0)=_:=(dI (by decide)).trans e0
 have d1:(a.put (some 2) z).defers = []:=d0
 generalize a.put (some 2) z=a1 at *
 show Exit.then _ _ _ _ _
 simp only[Exit.then];refine wp_seq (wp_region ?_);simp only[show List.range (#[b0,b1,b2,b3,b4,b5,b6]:Array Oper).size = [0,1,2,3,4,5,6] from rfl,wpOps_cons]
 refine cN (o:=b0) (w':=w) (v:=.slice A n cap) rfl g0.guard (by simp[execOp,g0.op,e1]) ?_
 rw[g0.dst];have s2:=dW (d:=3) (v:=.slice A n cap) s1
 have e2:(a1.put (some 3) (.slice A n cap)).eval (.tmp 0)=_:=(dI (by decide)).trans e1
 have f2:(a1.put (some 3) (.slice A n cap)).eval (.tmp 3)=_:=cZ s1 (by decide)
 have d2:(a1.put (some 3) (.slice A n cap)).defers = []:=d1
 generalize a1.put (some 3) (.slice A n cap)=a2 at *
 rw[wpOps_cons];refine cN (o:=b1) (w':=w) (v:=.slice A n cap) rfl g1.guard (by simp[execOp,g1.op,e2]) ?_
 rw[g1.dst];have s3:=dW (d:=4) (v:=.slice A n cap) s2
 have e3:(a2.put (some 4) (.slice A n cap)).eval (.tmp 0)=_:=(dI (by decide)).trans e2
 have f3:(a2.put (some 4) (.slice A n cap)).eval (.tmp 3)=_:=(dI (by decide)).trans f2
 have k3:(a2.put (some 4) (.slice A n cap)).eval (.tmp 4)=_:=cZ s2 (by decide)
 have d3:(a2.put (some 4) (.slice A n cap)).defers = []:=d2
 generalize a2.put (some 4) (.slice A n cap)=a3 at *
 rw[wpOps_cons];refine cN (o:=b2) (w':=w) (v:=.int .i64 n) rfl g2.guard (by simp[execOp,g2.op,k3,resolve,invoke,builtin,Builtin.len_,underlying,hu,goInt]) ?_
 rw[g2.dst];have s4:=dW (d:=5) (v:=.int .i64 n) s3
 have e4:(a3.put (some 5) (.int .i64 n)).eval (.tmp 0)=_:=(dI (by decide)).trans e3
 have f4:(a3.put (some 5) (.int .i64 n)).eval (.tmp 3)=_:=(dI (by decide)).trans f3
 have k4:(a3.put (some 5) (.int .i64 n)).eval (.tmp 5)=_:=cZ s3 (by decide)
 have d4:(a3.put (some 5) (.int .i64 n)).defers = []:=d3
 generalize a3.put (some 5) (.int .i64 n)=a4 at *
 rw[wpOps_cons];refine cN (o:=b3) (w':=w) (v:=.slice A n cap) rfl g3.guard (by simp[execOp,g3.op,e4]) ?_
 rw[g3.dst];have s5:=dW (d:=6) (v:=.slice A n cap) s4
 have f5:(a4.put (some 6) (.slice A n cap)).eval (.tmp 3)=_:=(dI (by decide)).trans f4
 have k5:(a4.put (some 6) (.slice A n cap)).eval (.tmp 5)=_:=(dI (by decide)).trans k4
 have m5:(a4.put (some 6) (.slice A n cap)).eval (.tmp 6)=_:=cZ s4 (by decide)
 have d5:(a4.put (some 6) (.slice A n cap)).defers = []:=d4
 generalize a4.put (some 6) (.slice A n cap)=a5 at *
 rw[wpOps_cons];refine cN (o:=b4) (w':=w) (v:=.int .i64 n) rfl g4.guard (by simp[execOp,g4.op,m5,resolve,invoke,builtin,Builtin.len_,underlying,hu,goInt]) ?_
 rw[g4.dst];have s6:=dW (d:=7) (v:=.int .i64 n) s5
 have f6:(a5.put (some 7) (.int .i64 n)).eval (.tmp 3)=_:=(dI (by decide)).trans f5
 have k6:(a5.put (some 7) (.int .i64 n)).eval (.tmp 5)=_:=(dI (by decide)).trans k5
 have m6:(a5.put (some 7) (.int .i64 n)).eval (.tmp 7)=_:=cZ s5 (by decide)
 have d6:(a5.put (some 7) (.int .i64 n)).defers = []:=d5
 generalize a5.put (some 7) (.int .i64 n)=a6 at *
 rw[wpOps_cons];refine cN (o:=b5) (w':=w) (v:=.slice A n n) rfl g5.guard ?_ ?_
 ·have hbd:=pB (P:=P) (w:=w) (s:=true) (len:=n) (cap:=cap) (lo:=none) (hi:=some (.int .i64 n)) (mx:=some (.int .i64 n)) (l:=0) (h:=n) (m:=n) rfl ⟨_,rfl⟩ ⟨_,rfl⟩ (by omega) (by omega) (by omega) (by omega) (.inr (by simp))
  have hA:(A.map fun x=>x.add 0)=A:=by cases A <;> simp[Addr.add]
  simp[execOp,g5.op,f6,k6,m6,Instr.sliceAt,Instr.slice,underlying,hu,hbd,hsz,hA]
 rw[g5.dst];have k7:(a6.put (some 8) (.slice A n n)).eval (.tmp 8)=_:=cZ s6 (by decide)
 have s7:=dW (d:=8) (v:=.slice A n n) s6
 have d7:(a6.put (some 8) (.slice A n n)).defers = []:=d6
 generalize a6.put (some 8) (.slice A n n)=a7 at *
 rw[wpOps_cons];refine cN (o:=b6) (w':=w) (v:=.slice A n n) rfl g6.guard (by simp[execOp,g6.op,k7]) ?_
 rw[g6.dst];have k8:(a7.put (some 2) (.slice A n n)).eval (.tmp 2)=_:=cZ s7 (by decide)
 have d8:(a7.put (some 2) (.slice A n n)).defers = []:=d7
 generalize a7.put (some 2) (.slice A n n)=a8 at *
 show Exit.then _ _ _ _ _
 simp only[Exit.then];refine wp_ret ?_;refine ⟨d8,.slice A n n,?_,rfl,rfl⟩;have k9:a8.tmps[2]?.getD undef = .slice A n n:=by rw[← Array.getD_eq_getD_getElem?];exact k8
 simp[results,hres,k9]
end
def de (P : Program) (E : Env) : Prop := ∀ f fi, E.fn f = some fi → ∃ fn, P.funcs[E.src f]? = some fn ∧ fn.body = some fi.body ∧ fn.name ≠ "runtime.NumGoroutine" ∧ fn.ntmps = fi.ntmps ∧ fn.results.toList = fi.results ∧
 (fi.clip=true→∃ty m,fi.params = [(ty,m)]∧lp fn ty fi.body)∧
 (∀f1 j1 f2 j2,fi.inl = [(f1,j1),(f2,j2)]→E.src f=f∧E.src f1=f1∧E.src f2=f2∧∃ty s1 s2 ps,fi.params=(ty,.ro) :: ps∧pE E fn ty j1 s1 f1 j2 s2 f2 fi.body)
section
variable {P:Program} {E:Env} {n:Nat} {st:St} {a:Act} {w:World} {g:Gh} {hold:Nat→aE} {look:Nat→Option Rt} {o:Oper} {b:Bool}
theorem wJ (hP:ba P E) (hF:de P E) (h:Inv E n st a w g hold) (hl : ∀r R,look r=some R→st.rt r=some R) (hd : ∀x,o.dst=some x→x < n) {f d:Nat} {fi0 fi:Fi} (hf:E.fn f=some fi0)
  {C:aF} (hC:nh P E f fi (C f)) {xs:Array Operand} {tys:Array TypeId} (hop:o.op = .call { callee:=.value (.func (E.src f)),args:=xs,argTypes:=tys }) {as:List AV} {e:Eff} (hlen:as.length=xs.size)
  (hv:b=true→∀(k:Nat) (av:AV) (x:Operand),as[k]?=some av→xs[k]?=some x→aO E w g st.rt hold av (a.eval x))
  (he:kZ E look d b f fi.rets fi.params as=some e):qw P E n st a w g hold C o e:=by
 unfold kZ at he;split at he
 ·cases he
 rename_i ts args hargs
 have hA:=yI hargs;generalize hz:(cg (aZ args)&&dP (aZ args) ((ga d 0 fi.rets).map (·.1))&&dP (aZ args) (NN args as)&&((fi.rets.all (o6 E)&&fi.params.all (o5 E))||(NN args as).isEmpty)&&(fi.rets.all (pu E)&&(fi.params.all gW&&(decide (d < 1000)&&(decide (fi.rets.length < 90)&&decide (fi.params.length < 1000))))))=z at he
 cases z with
 | false=>simp at he
 | true=>
  simp only[cond_true,Option.some.injEq] at he;subst he;rw[Bool.and_eq_true,Bool.and_eq_true,Bool.and_eq_true,Bool.and_eq_true,Bool.and_eq_true,Bool.and_eq_true,Bool.and_eq_true,Bool.and_eq_true,decide_eq_true_eq,decide_eq_true_eq,decide_eq_true_eq] at hz;obtain ⟨⟨⟨⟨c1,c2⟩,c3⟩,c4⟩,c5,c6,c7,c8,c9⟩:=hz;refine ⟨rfl,f,ts,rfl,fun hb res hres=>?_⟩
  have hv:=hv hb;obtain ⟨fn,hfn,hbody,hname,_,_⟩:=hF f fi0 hf;let vs:List Value:=xs.toList.map a.eval
  have hvs : ∀(k:Nat) (av:AV) (v:Value),as[k]?=some av→vs[k]?=some v→aO E w g st.rt hold av v:=by
   intro k av v h1 h2;simp only[vs,List.getElem?_map,Option.map_eq_some_iff] at h2;obtain ⟨x,hx,rfl⟩:=h2;exact hv k av x h1 (by simpa using hx)
  have hvl:vs.length=as.length:=by simp[vs,hlen]
  refine ⟨vs,?_,?_⟩
  ·simp[execOp,hop,resolve,Act.eval,Deferred.ofValue,invoke,callFunc,hfn,hname,hbody,vs]
   apply Array.ext';simp
  ·have hargsOk:=args_ok hP.wf hl h.rts hA c1 (CE c3) hvl hvs (fun x hx=>List.all_eq_true.1 c6 x hx) (fun ty av v m hm ha=>(zp hP.wf h hl hm ha).2)
   refine (hC ts res hres vs w (cS args (NN args as) g) (fun b hb=>h.bnd b (gcall_nf hb)) (h.kn.step fun b hb=>⟨aP.refl _ _,iq hb⟩) hargsOk).mono fun en w'=>?_
   rintro ⟨v,g',rvs,rts,mts,rfl,rfl,hvr,hst,hbnd',hress,hmus⟩
   obtain ⟨g'',hold',k1,k2,k3⟩:=after_ok hP h hl hd hA c7 c8 c9 c1 c2 c3 c4 c5 c6 hvl hvs hst hbnd' hress hmus hvr;exact ⟨v,g'',hold',rfl,k1,k2,k3⟩
theorem clip_ok (hP:ba P E) (hF:de P E) (h:Inv E n st a w g hold) (hl : ∀r R,look r=some R→st.rt r=some R) (hd : ∀x,o.dst=some x→x < n) {f:Nat} {fi:Fi} (hf:E.fn f=some fi)
  {C:aF} (hcl:fi.clip=true) {xs:Array Operand} {tys:Array TypeId} (hop:o.op = .call { callee:=.value (.func (E.src f)),args:=xs,argTypes:=tys }) {as:List AV} {e:Eff} (hlen:as.length=xs.size)
  (hv:b=true→∀(k:Nat) (av:AV) (x:Operand),as[k]?=some av→xs[k]?=some x→aO E w g st.rt hold av (a.eval x))
  (he:clipE E look b f fi.params as=some e):qw P E n st a w g hold C o e:=by
 obtain ⟨fn,hfn,hbody,hname,_,_,hcb,_⟩:=hF f fi hf;obtain ⟨ty,m,hps,hcb⟩:=hcb hcl;rw[hps] at he;unfold clipE at he;split at he
 rotate_left
 ·cases he
 rename_i ty' m' av heq
 cases heq;split at he
 rotate_left
 ·cases he
 rename_i et t hsl hsn
 split at he
 rotate_left
 ·cases he
 rename_i av' hav'
 simp only[Option.some.injEq] at he;subst he;have hty:E.ty ty = .sl et:=by unfold isSl at hsl;split at hsl <;> simp_all
 refine ⟨rfl,_,_,rfl,fun hb res hres=>?_⟩
 have hx1:xs.size=1:=by rw[← hlen];rfl
 obtain ⟨x,hx⟩ : ∃x,xs = #[x]:=Array.size_eq_one_iff.1 hx1;subst hx;have hav:=hv hb 0 av x rfl rfl;have fin : ∀{A:Option Addr} {k cap:Nat},a.eval x = .slice A k cap→k≤cap→aO E w g st.rt hold av' (.slice A k k)→
   ∃vs:List Value,(execOp a.eval o).run P w = .ok (.enter (E.src f) vs.toArray) w∧Calls P (E.src f) vs.toArray w fun en w'=>∃v g' hold',en = .returned v∧Stp w g w' g'∧Sld hold hold'∧
    Inv E n (aX o.dst ⟨av',[],[]⟩ st) (a.put o.dst v) w' g' hold':=by
  intro A k cap hev hcap hnew;refine ⟨[a.eval x],?_,?_⟩
  ·simp[execOp,hop,resolve,Act.eval,Deferred.ofValue,invoke,callFunc,hfn,hname,hbody]
  ·rw[hev];refine (AW hP hfn hbody hcb hty hcap).mono fun en w'=>?_
   rintro ⟨rfl,rfl⟩
   exact ⟨_,g,hold,rfl,Stp.refl _ _,fun _ _=>rfl,h.apply hP.wf hd (fun b hb=>⟨aP.refl _ _,hb⟩) (hU.of hP.wf h.rts fun r R hR=>.self hR) h.rts h.bnd fun _=>hnew⟩
 have bymap:(∀ty' r p lo hi,av≠.sub ty' r p lo hi)→∃A cap,a.eval x = .slice A t.es.length cap∧t.es.length≤cap:=by
  intro hns;refine jX hP.wf h hl hty (x:=av) ?_ hav;cases av with
  | sub ty' r p lo hi=>exact absurd rfl (hns ty' r p lo hi)
  | alt=>simp[mH] at hav'
  | row=>simp[mH] at hav'
  | ln=>simp[mH] at hav'
  | _=>simp only[lenE,hty];rw[hsn];rfl
 cases av with
 | val ty1 t1=>
  simp only[mH,Option.some.injEq] at hav';subst hav';simp only[sn] at hsn;cases hbq:Nat.beq ty1 ty with
  | false=>simp[hbq] at hsn
  | true=>
   simp only[hbq,cond_true,Option.some.injEq] at hsn;subst hsn;have:=Nat.eq_of_beq_eq_true hbq;subst this;obtain ⟨A,cap,hev,hcap⟩:=bymap (fun _ _ _ _ _ h=>by cases h)
   refine fin hev hcap ?_;rw[hev] at hav;cases hav with
   | val a1 a2=>
    refine .val ?_ (bq hP.wf (by simp[hty]) rfl)
    cases a1 with
    | fz b1 b2 b3 b4 b5 b6=>
     simp[rd,Value.cells] at b2
     obtain ⟨rfl,_,_⟩:=b2;exact .fz b1 (by simp[rd,Value.cells,T.es]) b3 (Nat.le_refl _) b5 b6
    | fz0 b1 b2=>exact .fz0 b1 (by simp[rd,Value.cells,T.es];exact ⟨rfl,rfl⟩)
    | own0 b1 b2=>simp[O.own] at b2
    | own b1 b2=>simp[O.own] at b2
    | _=>simp_all
 | nil ty1=>
  simp only[mH,Option.some.injEq] at hav';subst hav';generalize hev:a.eval x=vx at hav
  cases hav with
  | nil he=>exact fin hev (Nat.le_refl _) (.nil he)
 | sref ty1 r p=>
  simp only[mH] at hav';split at hav'
  ·rename_i R hR
   cases ho:(R.o.get p).own with
   | false=>simp[ho] at hav'
   | true=>
    simp only[ho,cond_true,Option.some.injEq] at hav';subst hav';obtain ⟨A,cap,hev,hcap⟩:=bymap (fun _ _ _ _ _ h=>by cases h)
    refine fin hev hcap ?_;rw[hev] at hav;have hR':=hl r R hR;cases hav with
    | sref a1 a2 a3 a4=>
     refine .sub a1 a2 a3 a4 (Nat.zero_le _) (Nat.le_refl _) (Nat.le_refl _) (by omega) ?_
     have hrep:=im (h.rts r R hR') (by rw[hR'] at a1;cases a1;exact a3)
     generalize R.t.get p=tt at hrep
     generalize R.o.get p=oo at hrep ho
     cases hrep with
     | own b1 b2 b3 b4 b5 b6 b7 b8=>
      rename_i es aa cc
      rw[a4] at b3;simp only[Option.some.injEq,Value.slice.injEq] at b3;obtain ⟨rfl,_,_⟩:=b3;obtain ⟨bb,oo',ss⟩:=aa;cases b4;exact .inr ⟨bb,oo',oo',rfl,rfl,by omega,.inr (by omega)⟩
     | own0 b1 b2 b3=>rw[a4] at b3;simp only[Option.some.injEq,Value.slice.injEq] at b3;exact .inl ⟨b3.1,b3.1⟩
     | fz=>simp[O.own] at ho
     | fz0=>simp[O.own] at ho
     | fo=>simp[O.own] at ho
     | fo0=>simp[O.own] at ho
     | dead=>simp[O.own] at ho
     | _=>simp_all
  ·cases hav'
 | sub ty1 r p lo hi=>
  simp only[mH,Option.some.injEq] at hav';subst hav';generalize hev:a.eval x=vx at hav
  cases hav with
  | sub a1 a2 a3 a4 a5 a6 a7 a8 a9=>
   refine fin hev a7 (.sub a1 a2 a3 a4 a5 a6 (Nat.le_refl _) (by omega) ?_)
   rcases a9 with c | ⟨bb,xx,yy,c1,c2,c3,c4⟩
   ·exact .inl c
   ·refine .inr ⟨bb,xx,yy,c1,c2,c3,?_⟩;rcases c4 with c4 | c4
    ·exact .inl (by omega)
    ·exact .inr c4
 | _=>simp[mH] at hav'
theorem yJ : ∀{ps:List Nat} {as:List AV} {ts:List T} {args:List Arg},kj E look (ps.map fun p=>(p,Mode.ro)) as=some (ts,args)→
  ts.length=ps.length∧as.length=ps.length∧args=List.replicate ps.length .ro∧∀(k p:Nat) (t:T) (av:AV),ps[k]?=some p→ts[k]?=some t→as[k]?=some av→sn E look p av=some t
 | [],as,ts,args,h=>by
  cases as with
  | nil=>
   simp only[List.map_nil,kj,Option.some.injEq,Prod.mk.injEq] at h;obtain ⟨rfl,rfl⟩:=h;exact ⟨rfl,rfl,rfl,fun k p t av h=>by simp at h⟩
  | cons a as=>simp[kj] at h
 | p :: ps,as,ts,args,h=>by
  cases as with
  | nil=>simp[kj] at h
  | cons a as=>
   simp only[List.map_cons,kj] at h;split at h
   ·cases h
   rename_i ts' args' hrec
   split at h
   ·rename_i t ht
    simp only[Option.some.injEq,Prod.mk.injEq] at h;obtain ⟨rfl,rfl⟩:=h;obtain ⟨i1,i2,i3,i4⟩:=yJ hrec;refine ⟨by simp[i1],by simp[i2],by rw[i3];rfl,fun k p' t' av h1 h2 h3=>?_⟩
    cases k with
    | zero=>simp at h1 h2 h3;subst h1;subst h2;subst h3;exact ht
    | succ k=>exact i4 k p' t' av (by simpa using h1) (by simpa using h2) (by simpa using h3)
   ·cases h
theorem fn_val (hE:bl E) {rt:Nat→Option Rt} {ty:Nat} {t:T} {v:Value} {ps rs:List Nat} (ht:E.ty ty = .fn ps rs) (h:aO E w g rt hold (.val ty t) v) :
  ∃(cts:List Nat) (cvs:List Value),v = .func (.func t.fid) #[] cvs.toArray∧pW E t.fid cts ps rs=true∧t.caps.length=cts.length∧cvs.length=cts.length∧
   ∀(i ct:Nat) (c:T) (cv:Value),cts[i]?=some ct→t.caps[i]?=some c→cvs[i]?=some cv→Rep E w g ct c .fz 0 [] (.reg cv.cells.toList 0)∧bd E ct cv:=by
 cases h with
 | val h1 h2=>
  have hs:=h2.2;rw[ht] at hs;simp only at hs
  rw[hs] at h1;cases h1 with
  | fn vs cts e1 e2 e3 e4 e5 e6 e7=>
   rw[ht] at e1;cases e1;simp[rd] at e5
   exact ⟨cts,vs,e5,e2,e3,e4,fun i ct c cv a1 a2 a3=>⟨e6 i ct c cv a1 a2 a3,e7 i ct cv a1 a3⟩⟩
  | _=>simp_all
theorem callV_ok (hP:ba P E) (hF:de P E) (h:Inv E n st a w g hold) (hl : ∀r R,look r=some R→st.rt r=some R) (hd : ∀x,o.dst=some x→x < n) {d fty:Nat} {x:Operand} {t:T}
  {C:aF} (hC:O7 P E C) {xs:Array Operand} {tys:Array TypeId} (hop:o.op = .call { callee:=.value x,args:=xs,argTypes:=tys }) {as:List AV} {e:Eff} (hlen:as.length=xs.size)
  (hx:b=true→aO E w g st.rt hold (.val fty t) (a.eval x))
  (hv:b=true→∀(k:Nat) (av:AV) (x:Operand),as[k]?=some av→xs[k]?=some x→aO E w g st.rt hold av (a.eval x))
  (he:callV E look d b fty (.val fty t) as=some e):qw P E n st a w g hold C o e:=by
 unfold callV at he;split at he
 rotate_left
 ·cases he
 rename_i ty' t' ps rs heq hty
 cases heq;cases hfl:(Nat.beq fty fty&&rs.all E.flat) with
 | false=>rw[hfl] at he;simp at he
 | true=>
  simp only[hfl,cond_true] at he;simp only[Bool.and_eq_true] at hfl;split at he
  ·cases he
  rename_i ts args hargs
  cases hd9:decide (d < 1000) with
  | false=>simp[hd9] at he
  | true=>
   simp only[hd9,cond_true,Option.some.injEq] at he;subst he;obtain ⟨l1,l2,l3,hro⟩:=yJ hargs;refine ⟨rfl,_,_,rfl,fun hb res hres=>?_⟩
   have hv:=hv hb;obtain ⟨cts,cvs,e1,e2,e3,e4,e5⟩:=fn_val hP.wf hty (hx hb);unfold pW at e2;split at e2
   ·cases e2
   rename_i fi hfi
   simp only[Bool.and_eq_true,decide_eq_true_eq] at e2;obtain ⟨⟨q1,q2⟩,qs,q3,q4⟩:=e2;have hsrc:=Nat.eq_of_beq_eq_true qs;obtain ⟨fn,hfn,hbody,hname,_,_⟩:=hF _ fi hfi;let vs1:List Value:=xs.toList.map a.eval
   let vs:List Value:=vs1++cvs
   let gc:Gh:=fun b=>match g b with | .free=>.free | _=>.frz
   have gc_free : ∀b,gc b = .free∨gc b = .frz:=by intro b;simp only[gc];split <;> simp
   have gc_frz : ∀b,g b≠.free→gc b = .frz:=by intro b hb;cases hg:g b <;> simp_all[gc]
   have gc_nf : ∀b,gc b≠.free→g b≠.free:=by intro b hb hf;exact hb (by simp only[gc,hf])
   have hvl1:vs1.length=ps.length:=by simp[vs1,← hlen,l2]
   have hpar : ∀(k ty:Nat) (m:Mode) (t':T) (v:Value),fi.params[k]?=some (ty,m)→(ts++t.caps)[k]?=some t'→vs[k]?=some v→tu E w gc (0+k) ty m t' v:=by
    intro k ty m t' v h1 h2 h3;have hm:m = .ro:=by
     have:=List.all_eq_true.1 q1 _ (List.mem_of_getElem? h1)
     cases m <;> simp_all
    subst hm;have hty':(ps++cts)[k]?=some ty:=by rw[← q2,List.getElem?_map,h1];rfl
    rcases Nat.lt_or_ge k ps.length with hk | hk
    ·rw[List.getElem?_append_left hk] at hty';rw[List.getElem?_append_left (by omega)] at h2
     simp only[vs] at h3;rw[List.getElem?_append_left (by omega)] at h3
     obtain ⟨av,hav⟩ : ∃av,as[k]?=some av:=⟨as[k]'(by omega),List.getElem?_eq_getElem _⟩
     simp only[vs1,List.getElem?_map,Option.map_eq_some_iff] at h3;obtain ⟨xo,hxo,rfl⟩:=h3;exact CA hP.wf hl h.rts (fun b hb=>gc_frz b (by rw[hb];simp)) (hro k ty t' av hty' h2 hav) (hv k av xo hav (by simpa using hxo)) (fun r _ b q hq=>gc_frz b (by rw[hq];simp))
    ·rw[List.getElem?_append_right hk] at hty';rw[List.getElem?_append_right (by omega),l1] at h2
     simp only[vs] at h3;rw[List.getElem?_append_right (by omega),hvl1] at h3
     obtain ⟨z1,z2⟩:=e5 _ _ _ _ hty' h2 h3;exact ⟨z1.frozen rfl (fun b hb=>gc_frz b (by rw[hb];simp)) _ _,z2⟩
   have hplen:fi.params.length=ps.length+cts.length:=by have:=congrArg List.length q2;simpa using this
   have gen : ∀(ps':List (Nat × Mode)) (ts':List T) (vs':List Value) (i:Nat),ts'.length=ps'.length→vs'.length=ps'.length→
     (∀(k ty:Nat) (m:Mode) (t:T) (v:Value),ps'[k]?=some (ty,m)→ts'[k]?=some t→vs'[k]?=some v→tu E w gc (i+k) ty m t v)→kO E w gc i ps' ts' vs':=by
    intro ps';induction ps' with
    | nil=>intro ts' vs' i h1 h2 _;cases ts' with
     | nil=>cases vs' with
      | nil=>trivial
      | cons=>simp at h2
     | cons=>simp at h1
    | cons x ps' ih=>
     intro ts' vs' i h1 h2 h3;cases ts' with
     | nil=>simp at h1
     | cons t ts'=>
      cases vs' with
      | nil=>simp at h2
      | cons v vs'=>
       obtain ⟨ty,m⟩:=x;refine ⟨by simpa using h3 0 ty m t v rfl rfl rfl,ih ts' vs' (i+1) (by simpa using h1) (by simpa using h2) fun k ty m t v a b c=>?_⟩
       have:=h3 (k+1) ty m t v (by simpa using a) (by simpa using b) (by simpa using c)
       rwa [show i+(k+1)=i+1+k by omega] at this
   have hargsOk:=gen fi.params (ts++t.caps) vs 0 (by rw[hplen];simp[l1,e3]) (by rw[hplen];simp only[vs,List.length_append];omega) hpar
   refine ⟨vs,?_,?_⟩
   ·rw[hsrc] at hfn ⊢;simp[execOp,hop,resolve,e1,Deferred.ofValue,invoke,callFunc,hfn,hname,hbody,vs,vs1]
   refine (hC _ fi hfi _ res hres vs w gc (fun b hb=>h.bnd b (gc_nf b hb)) (h.kn.step fun b hb=>⟨aP.refl _ _,gc_frz b (by rw[hb];simp)⟩) hargsOk).mono fun en w'=>?_
   rintro ⟨v,g',rvs,rts,mts,rfl,rfl,hvr,hst,hbnd',hress,_⟩
   have hheap : ∀b,b < w.heap.size→w'.heap[b]?=w.heap[b]?:=fun b hb=>(hst.keep b hb (gc_free b)).1
   have hsame : ∀b,b < w.heap.size→aP w w' b:=fun b hb=>.of_heap (hheap b hb)
   have hstp:Stp w g w' g:=⟨hst.os,hst.tape,hst.output,hst.size,fun b hb _=>⟨hheap b hb,rfl⟩⟩
   have hfrz : ∀b,g b = .frz→aP w w' b∧g b = .frz:=fun b hb=>⟨hsame b (h.bnd b (by rw[hb];simp)),hb⟩
   have hkeep : ∀r,jt w g hold w' g hold r:=fun r=>⟨rfl,fun b hb=>⟨hsame b (h.bnd b (by rcases hb with hb | ⟨q,hb⟩ <;> rw[hb] <;> simp)),rfl⟩⟩
   refine ⟨v,g,hold,rfl,hstp,fun _ _=>rfl,h.apply hP.wf hd hfrz (hU.of hP.wf h.rts fun r R hR=>.keep hR (hkeep r)) (fun r R hR=>(h.rts r R hR).keep hP.wf (hkeep r) hfrz)
    (fun b hb=>Nat.lt_of_lt_of_le (h.bnd b hb) hst.size) fun _=>?_⟩
   show aO E w' g st.rt hold _ v
   split
   ·rename_i ty
    obtain ⟨r1,r2,r3,_⟩:=uJ (E:=E) (d:=d) (rest:=mts) hress;have hrl:fi.rets.length=1:=by have:=congrArg List.length q3;simpa using this
    rcases hrs:fi.rets[0] with ⟨ty0,kd⟩
    have hr0:fi.rets[0]?=some (ty0,kd):=by rw[List.getElem?_eq_getElem (by omega),hrs]
    obtain ⟨t0,v0,x1,x2,x3,_⟩:=r3 0 ty0 kd hr0;have hty0:ty0=ty:=by
     have:(fi.rets.map (·.1))[0]?=some ty0:=by rw[List.getElem?_map,hr0];rfl
     rw[q3] at this;simpa using this.symm
    subst hty0;have hkd:=List.all_eq_true.1 q4 _ (List.mem_of_getElem? hr0);cases kd with
    | bx _=>simp at hkd
    | ig=>simp at hkd
    | vl o=>
     simp only at hkd
     have hv0:v=v0:=by
      cases rvs with
      | nil=>simp at x2
      | cons y l=>cases l with
       | nil=>simp at x2;rw[← x2];exact hvr
       | cons=>simp at r2;omega
     have ht0:(rts++mts).headD (.int 0)=t0:=by
      cases rts with
      | nil=>simp at x1
      | cons y l=>simp at x1;simp[x1]
     show aO E w' g st.rt hold (.val ty0 ((rts++mts).headD (.int 0))) v
     rw[ht0,hv0];have hfl0:E.flat ty0=true:=by have:=hfl.2;simpa using this
     exact .val (x3.1.flat hP.wf hkd hfl0 fun _ _=>rfl) x3.2
   ·exact .undef
end
theorem C8 {k1 k2:Ks} (h:kR k1 k2=true) {r k:Nat} (h1:aJ k1 r=some k):aJ k2 r=none∨aJ k2 r=some k:=by
 have:=List.all_eq_true.1 h _ (xD k1 r k h1)
 simp only at this
 cases h2:aJ k2 r with
 | none=>exact .inl rfl
 | some k'=>
  rw[h2] at this;have:=Nat.eq_of_beq_eq_true this
  subst this;exact .inr rfl
theorem sC {k1 k2:Ks} (h:kR k1 k2=true) (r:Nat) :
  (aJ (k1++k2) r=aJ k1 r∧(aJ k2 r=none∨aJ k2 r=aJ k1 r))∨(aJ k1 r=none∧aJ (k1++k2) r=aJ k2 r):=by
 rw[eU];cases h1:aJ k1 r with
 | none=>right;exact ⟨rfl,rfl⟩
 | some k=>left;exact ⟨rfl,C8 h h1⟩
theorem xL {k1 k2:Ks} (h:kR k1 k2=true) (r:Nat) (p:List aH):cb (k1++k2) r p=(cb k1 r p||cb k2 r p):=by
 rcases sC h r with ⟨e1,e2 | e2⟩ | ⟨e1,e2⟩
 ·rw[show cb (k1++k2) r p=cb k1 r p by unfold cb;rw[e1],show cb k2 r p=false by unfold cb;rw[e2]];simp
 ·rw[show cb (k1++k2) r p=cb k1 r p by unfold cb;rw[e1],show cb k2 r p=cb k1 r p by unfold cb;rw[e2]];simp
 ·rw[show cb (k1++k2) r p=cb k2 r p by unfold cb;rw[e2],show cb k1 r p=false by unfold cb;rw[e1]];simp
theorem BG {k1 k2:Ks} (h:kR k1 k2=true) (r:Nat) (p:List aH):cD (k1++k2) r p=(cD k1 r p||cD k2 r p):=by
 rcases sC h r with ⟨e1,e2 | e2⟩ | ⟨e1,e2⟩
 ·rw[show cD (k1++k2) r p=cD k1 r p by unfold cD;rw[e1],show cD k2 r p=false by unfold cD;rw[e2]];simp
 ·rw[show cD (k1++k2) r p=cD k1 r p by unfold cD;rw[e1],show cD k2 r p=cD k1 r p by unfold cD;rw[e2]];simp
 ·rw[show cD (k1++k2) r p=cD k2 r p by unfold cD;rw[e2],show cD k1 r p=false by unfold cD;rw[e1]];simp
theorem xK {k1 k2:Ks} (h:kR k1 k2=true) (r:Nat):dg (k1++k2) r=(dg k1 r||dg k2 r):=by
 unfold dg;rcases sC h r with ⟨e1,e2 | e2⟩ | ⟨e1,e2⟩
 ·rw[e1,e2];simp
 ·rw[e1,e2];simp
 ·rw[e1,e2];simp
mutual
theorem rc {k1 k2:Ks} (h:kR k1 k2=true) : ∀(a:AV),(a.cut k1).cut k2=a.cut (k1++k2)
 | .undef=>rfl
 | .val _ _=>rfl
 | .cst _=>rfl
 | .nil _=>rfl
 | .fnc _=>rfl
 | .fptr _ _=>rfl
 | .ln _ _=>rfl
 | .gd b a=>by simp only[AV.cut];rw[rc h a]
 | .pv ty a=>by simp only[AV.cut];rw[rc h a]
 | .sref ty r p=>by
  simp only[AV.cut,xL h];cases h1:cb k1 r p <;> simp[AV.cut]
 | .sub ty r p lo hi=>by
  simp only[AV.cut,xL h];cases h1:cb k1 r p <;> simp[AV.cut]
 | .pref ty r p=>by
  simp only[AV.cut,BG h];cases h1:cD k1 r p <;> simp[AV.cut]
 | .alt ty r p t=>by
  simp only[AV.cut,xK h];cases h1:dg k1 r <;> simp[AV.cut]
 | .row ty d t a=>by
  simp only[AV.cut,xK h];cases h1:dg k1 d <;> simp[AV.cut,rc h a]
 | .agg ty l=>by simp only[AV.cut];rw[un h l]
 | .tup l=>by simp only[AV.cut];rw[un h l]
theorem un {k1 k2:Ks} (h:kR k1 k2=true) : ∀(l:List AV),AV.cutL k2 (AV.cutL k1 l)=AV.cutL (k1++k2) l
 | []=>rfl
 | a :: l=>by simp only[AV.cutL];rw[rc h a,un h l]
end
theorem callE_ks {E:Env} {look:Nat→Option Rt} {d:Nat} {b:Bool} {f:Nat} {rs:List (Nat × Ret)} {ps:List (Nat × Mode)} {as:List AV} {e:Eff} (h:kZ E look d b f rs ps as=some e) (res:List T):(e.ret res).ks=(e.ret []).ks:=by
 unfold kZ at h;split at h
 ·cases h
 rename_i ts args _
 generalize (cg (aZ args)&&dP (aZ args) ((ga d 0 rs).map (·.1))&&dP (aZ args) (NN args as)&&((rs.all (o6 E)&&ps.all (o5 E))||(NN args as).isEmpty)&&(rs.all (pu E)&&(ps.all gW&&(decide (d < 1000)&&(decide (rs.length < 90)&&decide (ps.length < 1000))))))=z at h
 cases z with
 | false=>simp at h
 | true=>simp only[cond_true,Option.some.injEq] at h;subst h;rfl
section
variable {P:Program} {E:Env} {n:Nat} {st:St} {a:Act} {w:World} {g:Gh} {hold:Nat→aE} {look:Nat→Option Rt} {o:Oper} {b:Bool}
theorem callM_ok (hP:ba P E) (hF:de P E) (h:Inv E n st a w g hold) (hl : ∀r R,look r=some R→st.rt r=some R) (hd : ∀x,o.dst=some x→x < n) {f d:Nat} {fi0 fi:Fi} (hf:E.fn f=some fi0)
  {C:aF} (hC:nh P E f fi (C f)) {xs:Array Operand} {tys:Array TypeId} (hop:o.op = .call { callee:=.value (.func (E.src f)),args:=xs,argTypes:=tys }) {as:List AV} {e:Eff} (hlen:as.length=xs.size)
  (hv:b=true→∀(k:Nat) (av:AV) (x:Operand),as[k]?=some av→xs[k]?=some x→aO E w g st.rt hold av (a.eval x))
  (he:callM E look d b f fi.rets fi.params as=some e):qw P E n st a w g hold C o e:=by
 unfold callM at he;split at he
 ·exact wJ hP hF h hl hd hf hC hop hlen hv he
 rename_i k ty hmv
 split at he
 ·cases he
 rename_i av hav
 split at he
 ·cases he
 rename_i c hc
 simp only at he
 split at he
 ·cases he
 rename_i e0 he0
 generalize hz:(bP c.mv&&((look cV).isNone&&kR ((cV,0) :: bW look c.mv) (e0.ret []).ks))=z at he
 cases z with
 | false=>simp at he
 | true=>
  simp only[cond_true,Option.some.injEq] at he;simp only[Bool.and_eq_true] at hz;obtain ⟨hm,_,hks⟩:=hz;have hkl:k < as.length:=(List.getElem?_eq_some_iff.1 hav).1
  obtain ⟨x,hx⟩ : ∃x,xs[k]?=some x:=⟨xs[k]'(by omega),Array.getElem?_eq_getElem _⟩
  cases hb:b with
  | false=>
   have hsh : ∃f' ts,e0.g=true∧e0.pre=false∧e0.req=some (f',ts):=by
    subst hb;unfold kZ at he0;split at he0
    ·cases he0
    rename_i ts args _
    generalize (cg (aZ args)&&dP (aZ args) ((ga d 0 fi.rets).map (·.1))&&dP (aZ args) (NN args ((as.map (AV.cut ((cV,0) :: bW look c.mv))).set k (.alt ty cV [] c.t)))&&((fi.rets.all (o6 E)&&fi.params.all (o5 E))||(NN args ((as.map (AV.cut ((cV,0) :: bW look c.mv))).set k (.alt ty cV [] c.t))).isEmpty)&&(fi.rets.all (pu E)&&(fi.params.all gW&&(decide (d < 1000)&&(decide (fi.rets.length < 90)&&decide (fi.params.length < 1000))))))=z at he0
    cases z with
    | false=>simp at he0
    | true=>simp only[cond_true,Option.some.injEq] at he0;subst he0;exact ⟨f,ts,rfl,rfl,rfl⟩
   obtain ⟨f',ts,e1,e2,e3⟩:=hsh;subst he;exact ⟨e1,f',ts,e3,fun hp=>by rw[show ({ pre:=e0.pre,g:=e0.g,req:=e0.req,ret:=_ } : Eff).pre=e0.pre from rfl,e2] at hp;cases hp⟩
  | true=>
   have hv:=hv hb;obtain ⟨hsh,hen,hsrc,hrep⟩:=jh hP.wf hl h.rts hc (hv k av x hav hx);let es:=dk [] av
   have hes:srcs es=c.mv:=hen []
   have hm':bP (srcs es)=true:=by rw[hes];exact hm
   have hsrc' : ∀x∈srcs es,eH E w g st.rt look hold x:=by rw[hes];exact hsrc
   let g1:=go es cV g
   let hold1:Nat→aE:=fun r=>if r=cV then .reg (a.eval x).cells.toList 0 else hold r
   let R1:Rt:=⟨ty,c.t,c.o,false⟩
   let wr:Wr:=(cV,some R1) :: bY E look c.mv
   let ks:Ks:=(cV,0) :: bW look c.mv
   let st1:St:=aX none ⟨.undef,wr,ks⟩ st
   have hrep1:Rep E w g1 ty c.t c.o cV [] (.reg (a.eval x).cells.toList 0):=hrep cV [] g1 (fun b hb=>ez hb) (jT hm')
   have hu : ∀b,g b≠.free→¬cq es g b→g b≠.hd cV→(∀q,g b≠.at cV q)→aP w w b∧g1 b=g b:=fun b _ hng _ _=>⟨aP.refl _ _,bX hng⟩
   have hh : ∀r,r≠cV→hold1 r=hold r:=fun r hr=>by simp[hold1,hr]
   have hroot:dF E w g1 hold1 cV R1:=⟨by simpa[hold1] using hrep1,fun hb=>(by cases hb),fun _=>⟨(a.eval x).cells.toList,by simp[hold1]⟩⟩
   have hrt1:st1.rt=iY E look st cV (some R1) (srcs es):=by rw[hes];rfl
   have hinv:Inv E n st1 a w g1 hold1:=by
    have:=kg (look:=look) (es:=es) (av:=.undef) (v:=Go.undef) (dst:=none) (Rd:=some R1) (kd:=0) hP.wf h hl hm' hsrc' (fun x hx=>by cases hx) hu hh (fun R hR=>by cases hR;exact hroot)
     (fun b hb=>h.bnd b (cE hb)) (.inl rfl) (fun hx=>by simp at hx)
    rw[hes] at this;simpa[Act.put] using this
   have hcarr:=mV (look:=look) (es:=es) (Rd:=some R1) (kd:=0) hP.wf h hl hm' hsrc' hu hh (.inl rfl)
   have hsurv:hU E w g st.rt hold w g1 st1.rt hold1 ks:=by
    rw[hrt1];have:=hU.of hP.wf h.rts hcarr
    rw[hes] at this ⊢;exact this
   have hfrz : ∀b,g b = .frz→aP w w b∧g1 b = .frz:=fun b hb=>⟨aP.refl _ _,ez hb⟩
   have hl1 : ∀r R,(match aJ wr r with | some x=>x | none=>look r)=some R→st1.rt r=some R:=by
    intro r R hR;show (match aJ wr r with | some x=>x | none=>st.rt r)=some R
    cases hw:aJ wr r with
    | some x=>rw[hw] at hR;exact hR
    | none=>rw[hw] at hR;exact hl r R hR
   have hstR:st1.rt cV=some R1:=by rw[hrt1];exact dj
   have hv1:true=true→∀(k':Nat) (av':AV) (x':Operand),((as.map (AV.cut ks)).set k (.alt ty cV [] c.t))[k']?=some av'→xs[k']?=some x'→aO E w g1 st1.rt hold1 av' (a.eval x'):=by
    intro _ k' av' x' h1 h2;by_cases hkk:k'=k
    ·subst hkk;rw[List.getElem?_set_self (by simpa using hkl)] at h1;cases h1
     rw[hx] at h2;cases h2;refine .alt hstR hsh (gG hc) .nil hrep1 fun b o0 n0 c0 o' n' c' e1 e2=>?_
     simp only[hold1,if_true,e2,rd,Value.cells] at e1;simp at e1
     omega
    ·rw[List.getElem?_set_ne (Ne.symm hkk),List.getElem?_map,Option.map_eq_some_iff] at h1;obtain ⟨a0,h1,rfl⟩:=h1;exact (hv k' a0 x' h1 h2).cut hP.wf hfrz hsurv
   subst hb;have hcall:=wJ (b:=true) (fi:=fi) hP hF hinv hl1 hd hf hC hop (by simpa using hlen) hv1 he0
   obtain ⟨e1,f',ts,e2,e3⟩:=hcall;subst he;refine ⟨e1,f',ts,e2,fun hp res hres=>?_⟩
   obtain ⟨vs,v1,v2⟩:=e3 hp res hres;refine ⟨vs,v1,v2.mono fun en w'=>?_⟩
   rintro ⟨v,g',hold',rfl,s1,s2,s3⟩
   refine ⟨v,g',hold',rfl,Stp.trans ⟨rfl,rfl,rfl,Nat.le_refl _,fun b _ hf=>⟨rfl,?_⟩⟩ s1,fun r hr=>(s2 r hr).trans (hh r (by unfold cV;omega)),?_⟩
   ·show go es cV g b=g b
    rcases hf with hf | hf
    ·rw[pL hf,hf]
    ·rw[ez hf,hf]
   ·have hst:aX o.dst (e0.ret res) st1=aX o.dst ⟨(e0.ret res).av,(e0.ret res).wr++wr,ks++(e0.ret res).ks⟩ st:=by
     have hks':kR ks (e0.ret res).ks=true:=by rw[callE_ks he0];exact hks
     have htm : ∀t,st1.tm t=(st.tm t).cut ks:=fun t=>rfl
     have hrt : ∀r,st1.rt r=match aJ wr r with | some x=>x | none=>st.rt r:=fun r=>rfl
     unfold aX;congr 1
     ·funext t
      have key:(bif (e0.ret res).ks.isEmpty then st1.tm t else (st1.tm t).cut (e0.ret res).ks)=(bif (ks++(e0.ret res).ks).isEmpty then st.tm t else (st.tm t).cut (ks++(e0.ret res).ks)):=by
       rw[htm,← rc hks'];cases hq:(e0.ret res).ks.isEmpty with
       | true=>rw[List.isEmpty_iff.1 hq,jd];rfl
       | false=>rfl
      show (bif _ then _ else _)=(bif _ then _ else _)
      rw[key]
     ·funext r
      rw[eU,hrt];cases aJ (e0.ret res).wr r with
      | some x=>rfl
      | none=>rfl
    exact hst ▸ s3
end
section
variable {P:Program} {E:Env} {n:Nat} {st:St} {a:Act} {w:World} {g:Gh} {hold:Nat→aE} {look:Nat→Option Rt} {o:Oper} {b:Bool}
theorem wS {o:O} (h:o.isFz=true):o = .fz:=by cases o <;> simp[O.isFz] at h;rfl
theorem get_fz (q:List aH):O.get .fz q = .fz:=by
 induction q with
 | nil=>rfl
 | cons s q ih=>cases s <;> exact ih
theorem BN (hP:ba P E) (h:Inv E n st a w g hold) (hl : ∀r R,look r=some R→st.rt r=some R) (hd : ∀x,o.dst=some x→x < n) {fi:Fi} {d t:Nat} {x:Operand} {e:Eff} (hop:o.op = .load t x) {av:AV}
  (hv:b=true→aO E w g st.rt hold av (a.eval x)) (ht:bN E t=true) (he:wR fi E look d t b av=some e):eG P E n st a w g hold o e:=by
 unfold wR at he;split at he
 rotate_left
 ·cases he
 rename_i ty r p _
 split at he
 rotate_left
 ·cases he
 rename_i R hR
 have hRs:=hl r R hR;generalize hz:(Nat.beq ty t&&((R.o.get p).live&&(!((R.o.get p).isFz||E.flat t)&&(leT E (O.set E R.ty R.o p .fz) R.ty R.o&&((O.set E R.ty R.o p .fz).get p).isFz))))=z at he
 cases z with
 | false=>simp at he
 | true=>
  simp only[cond_true,Option.some.injEq] at he;subst he;simp only[Bool.and_eq_true] at hz;obtain ⟨h1,h2,_,h4,h5⟩:=hz;have:=Nat.eq_of_beq_eq_true h1;subst this;refine ⟨rfl,rfl,fun hb=>?_⟩
  generalize hO:O.set E R.ty R.o p .fz=o2 at *
  have hv:=hv hb;generalize hev:a.eval x=vx at hv
  cases hv with
  | pref a1 a2=>
   rename_i B x0 R'
   rw[hRs] at a1;cases a1;have ok:=h.rts r R hRs;have hrep:=im ok a2;obtain ⟨v,e1,e2⟩:=fI (P:=P) hP ht (a:=⟨B,x0,none⟩) rfl (fun k hk=>by simpa[rd,aE.add] using hrep.cells hP.wf h2 k hk)
   have hgo:Goes g (wk o2 r g) r [] o2 r []:=xi o2 r g
   have hfz : ∀b,g b = .frz→aP w w b∧wk o2 r g b = .frz:=fun b hb=>⟨aP.refl _ _,by rw[fW (by rw[hb];simp),hb]⟩
   have hkeep : ∀r',r'≠r→jt w g hold w (wk o2 r g) hold r':=fun r' hr=>⟨rfl,fun b hb=>⟨aP.refl _ _,fW fun q=>by
    rcases hb with hb | ⟨q',hb⟩ <;> rw[hb] <;> simp[hr]⟩⟩
   let R1:Rt:={ R with o:=o2 }
   let u:Upd:=⟨.val ty (R.t.get p),[(r,some R1)],[(r,bif R.box then 3 else 1)]⟩
   have hrt : ∀r',(aX o.dst u st).rt r'=if r'=r then some R1 else st.rt r':=by
    intro r';simp only[aX,u,aJ,bZ];by_cases hr:r=r'
    ·subst hr;simp
    ·simp[hr,Ne.symm hr]
   have hroot:dF E w (wk o2 r g) hold r R1:=by
    refine ⟨ok.rep.moveT hP.wf h4 hgo,fun hb=>?_,fun hb=>ok.reg hb⟩
    obtain ⟨b0,o0,q1,q2,q3⟩:=ok.box hb;exact ⟨b0,o0,q1,by rw[fW (by rw[q2];simp),q2],q3⟩
   refine ⟨.value v,w,v,wk o2 r g,hold,by simp[execOp,hop,hev,Instr.loadAt,Instr.sureAddr,e1],.inl rfl,⟨rfl,rfl,rfl,Nat.le_refl _,fun b _ hf=>⟨rfl,fW fun q=>by rcases hf with hf | hf <;> rw[hf] <;> simp⟩⟩,fun _ _=>rfl,?_⟩
   refine h.apply hP.wf hd hfz (hU.of hP.wf h.rts fun r' R' hR'=>?_) (fun r' R' hR'=>?_) (fun b hb=>h.bnd b (CB hb)) fun _=>?_
   ·by_cases hr:r'=r
    ·subst hr;rw[hRs] at hR';cases hR';have hrt':(aX o.dst u st).rt r'=some R1:=by rw[hrt,if_pos rfl]
     by_cases hb:R.box=true
     ·exact .lent hb hrt' rfl rfl (fun _=>rfl) (by simp[aJ,bZ,hb])
     ·have hb':R.box=false:=by simpa using hb
      exact .val hb' hrt' rfl rfl (by simp[aJ,bZ,hb'])
    ·exact .keep (by rw[hrt,if_neg hr];exact hR') (hkeep r' hr)
   ·rw[hrt] at hR';by_cases hr:r'=r
    ·subst hr;rw[if_pos rfl] at hR';cases hR';exact hroot
    ·rw[if_neg hr] at hR';exact (h.rts r' R' hR').keep hP.wf (hkeep r' hr) hfz
   ·have hp2:=wS h5;have hm:Rep E w (wk o2 r g) ty (R.t.get p) .fz r p (.mem B x0):=hrep.move (o':=.fz) (by simpa[O.le] using h2) ⟨fun b hb=>(hfz b hb).2,fun b q hq=>by
     have:=hgo.2 b (p++q) (by simpa using hq)
     rw[mQ,hp2,get_fz] at this;rw[get_fz,this];simp[O.isFz]⟩
    exact .val ((hm.frozen rfl (fun _ h=>h) 0 []).place hP.wf e2.reg) e2.1
theorem wH (hP:ba P E) (h:Inv E n st a w g hold) {t len et:Nat} {ps:Array (Nat × Operand)} {ρ:Operand→AV} (hρ : ∀x,aO E w g st.rt hold (ρ x) (a.eval x)) (hs:E.ty t = .sl et)
  (hb:(parts ρ ps).1=true) (c0:len * E.sz et≤1000000) (c1:E.zok et=true) (c2:cg ((parts ρ ps).2.map (·.1))=true) (c3:((parts ρ ps).2.all fun x=>decide (x.1 < len)&&kf E et x.2)=true) :
  ∃(vs:List Value) (cells:Array Value),(Instr.buildSlice t len (ps.map fun (i,x)=>(i,a.eval x))).run P w = .ok (.slice (some ⟨w.heap.size,0,none⟩) len len) (w.alloc (.cells cells et))∧vs.length=len∧
   (∀(j:Nat) (av:AV) (v:Value),(((List.range len).map fun j=>(gI (parts ρ ps).2 j).getD (zav E 8 et)))[j]?=some av→vs[j]?=some v→aO E w g st.rt hold av v)∧
   (∀(j:Nat) (v:Value),vs[j]?=some v→bd E et v)∧(∀j,j < len→∀v,vs[j]?=some v→∀k,k < E.sz et→cells[j * E.sz et+k]?=v.cells.toList[k]?)∧cells.size=len * E.sz et:=by
 obtain ⟨hok,i,z,hi,hiz,hsh,hzc⟩:=hP.zero et c1;obtain ⟨hu,_⟩:=hP.sl t et hs;obtain ⟨i',hi',hsz,_⟩:=hP.info et hok;rw[hi] at hi';cases hi';have hpo:=uF hρ hb;let vps:List (Nat × Value):=ps.toList.map fun x=>(x.1,a.eval x.2)
 have hfst:vps.map (·.1)=(parts ρ ps).2.map (·.1):=by simp[vps,parts,Function.comp_def]
 have hpart : ∀x∈vps,∃f,(List.replicate len et)[x.1]?=some f∧bd E f x.2:=by
  intro x hx;obtain ⟨y,hy,rfl⟩:=List.mem_map.1 hx;have hy':(y.1,(bK (ρ y.2)).2)∈(parts ρ ps).2:=List.mem_map.2 ⟨y,hy,rfl⟩
  have:=List.all_eq_true.1 c3 _ hy'
  simp only[Bool.and_eq_true,decide_eq_true_eq] at this;have hq:=List.all_eq_true.1 hb y hy;exact ⟨et,by simp[this.1],qJ hP this.2 (fV (hρ y.2) hq) hok⟩
 have hzs : ∀(j f:Nat) (v:Value),(List.replicate len et)[j]?=some f→(List.replicate len z)[j]?=some v→bd E f v:=by
  intro j f v h1 h2;simp only[List.getElem?_replicate] at h1 h2;split at h1
  ·rename_i hj;rw[if_pos hj] at h2;cases h1;cases h2;exact hsh
  ·cases h1
 have hf:=wQ (E:=E) (fs:=List.replicate len et) (place:=fun i=>some (i * E.sz et,E.sz et)) (fun j f hf=>by
  simp only[List.getElem?_replicate] at hf;split at hf
  ·rename_i hj;cases hf;rw[jb _ _ (by omega)]
  ·cases hf) vps (List.replicate len z) (by simp) hzs hpart
 let vs:=vps.foldl (fun vs x=>vs.set x.1 x.2) (List.replicate len z)
 have hvl:vs.length=len:=by have:=hf.2.1;simpa[vs] using this
 let cells:Array Value:=(dJ vs).toArray
 have hrun:(Instr.buildSlice t len (ps.map fun (i,x)=>(i,a.eval x))).run P w = .ok (.slice (some ⟨w.heap.size,0,none⟩) len len) (w.alloc (.cells cells et)):=by
  have h24 : ¬(16777216 < len * E.sz et):=by omega
  have hfill:=hf.1;rw[← xP hP.wf hsh] at hfill;have hparts':(ps.map fun (i,x)=>(i,a.eval x)).toList=vps:=by simp[vps]
  by_cases hz0:len * E.sz et=0
  ·rw[hz0] at hfill;have hm0:madeCells z.cells 0 = #[]:=by simp[madeCells]
   rw[hm0] at hfill;simp only[vps] at hfill;simp[Instr.buildSlice,run_underlying hu,sizeOf,typeInfo,hi,hsz,h24,hz0,newRow]
   rw[show (Array.map (fun x=>(default:Value)) (Array.range 0)) = #[] by simp[Array.range_zero'],hfill]
   simp[cells,vs,vps]
  ·simp[Instr.buildSlice,run_underlying hu,sizeOf,typeInfo,hi,hsz,h24,hz0,newRow,zeroValue,hiz]
   simp[vps,madeCells] at hfill
   simp[hfill,cells,vs,vps]
 have hvs : ∀(j:Nat) (av:AV) (v:Value),(((List.range len).map fun j=>(gI (parts ρ ps).2 j).getD (zav E 8 et)))[j]?=some av→vs[j]?=some v→aO E w g st.rt hold av v:=by
  intro j av v hav hv;have hjl:j < len:=by have:=(List.getElem?_eq_some_iff.1 hav).1;simp at this;omega
  rw[List.getElem?_map,List.getElem?_range hjl] at hav;simp only[Option.map_some,Option.some.injEq] at hav;rw[show vs[j]?=_ from oY vps (List.replicate len z) j (by rw[hfst];exact c2) (by simpa using hjl)] at hv
  have hpj:=hpo j;unfold gI at hav;cases h1:aJ (parts ρ ps).2 j with
  | some y=>
   rw[h1] at hav hpj;cases h2:aJ vps j with
   | some v'=>
    rw[h2] at hv;simp only[Option.getD_some] at hav;subst hav;simp only[Option.some.injEq] at hv;subst hv;rw[show aJ (ps.toList.map fun x=>(x.1,a.eval x.2)) j=some v' from h2] at hpj
    exact hpj
   | none=>rw[show aJ (ps.toList.map fun x=>(x.1,a.eval x.2)) j=none from h2] at hpj;exact hpj.elim
  | none=>
   rw[h1] at hav hpj;cases h2:aJ vps j with
   | some v'=>rw[show aJ (ps.toList.map fun x=>(x.1,a.eval x.2)) j=some v' from h2] at hpj;exact hpj.elim
   | none=>
    rw[h2] at hv;simp only[Option.getD_none] at hav;subst hav;simp[hjl] at hv;subst hv;exact A4 hP 8 hsh hzc
 have hcells : ∀j,j < len→∀v,vs[j]?=some v→∀k,k < E.sz et→cells[j * E.sz et+k]?=v.cells.toList[k]?:=by
  intro j hj v hv k hk;have:=nN (E:=E) (vs:=vs) (fs:=List.replicate len et) (by simp[hvl]) hf.2.2 (j:=j) (f:=et) (v:=v) (by simp[hj]) hv hk
  rw[jb _ _ (by omega)] at this
  rw[← this,List.getElem?_toArray]
 have hcsz:cells.size=len * E.sz et:=by
  have:=gJ (E:=E) (vs:=vs) (fs:=List.replicate len et) (by simp[hvl]) hf.2.2
  rw[List.map_replicate,tH] at this;simpa[cells,dJ] using this
 refine ⟨vs,cells,hrun,hvl,hvs,fun j v hv=>?_,hcells,hcsz⟩
 have hj:j < len:=by have:=(List.getElem?_eq_some_iff.1 hv).1;omega
 exact hf.2.2 j et v (by simp[hj]) hv
theorem A5 (hP:ba P E) (h:Inv E n st a w g hold) (hd : ∀x,o.dst=some x→x < n) {fi:Fi} {t d len:Nat} {ps:Array (Nat × Operand)} {e:Eff}
  (hop:o.op = .buildSlice t len ps) {ρ:Operand→AV} (hρ : ∀x,aO E w g st.rt hold (ρ x) (a.eval x))
  (hd9:d < 100000) (hr:mem d fi.row=true) (he:kQ fi E look d t len (parts ρ ps).1 (parts ρ ps).2=some e):eG P E n st a w g hold o e:=by
 unfold kQ at he;split at he
 ·cases he
 rename_i et hs0
 have hs:E.ty t = .sl et:=by unfold isSl at hs0;split at hs0 <;> simp_all
 generalize hc:(decide (len * E.sz et≤1000000)&&(E.zok et&&(cg ((parts ρ ps).2.map (·.1))&&(parts ρ ps).2.all fun x=>decide (x.1 < len)&&kf E et x.2)))=c at he
 cases c with
 | false=>simp at he
 | true=>
  simp only[cond_true] at he;simp only[Bool.and_eq_true,decide_eq_true_eq] at hc;obtain ⟨c0,c1,c2,c3⟩:=hc;rw[hr,cond_true] at he;split at he
  rotate_left
  ·cases he
  rename_i av hps
  cases hl1:decide (len=1) with
  | false=>rw[hl1] at he;cases he
  | true=>
   rw[hl1,cond_true,Option.some.injEq] at he;subst he;have hlen:=of_decide_eq_true hl1;subst hlen;refine ⟨rfl,rfl,fun hb=>?_⟩
   obtain ⟨vs,cells,hrun,hvl,hvs,hshs,hcells,hcsz⟩:=wH (a:=a) hP h hρ hs hb c0 c1 c2 c3;obtain ⟨v0,hv0⟩ : ∃v0,vs[0]?=some v0:=⟨vs[0]'(by omega),List.getElem?_eq_getElem _⟩
   have hav:aO E w g st.rt hold av v0:=hvs 0 av v0 (by rw[hps];simp[gI,aJ]) hv0
   have hgr:=Gr.alloc w cells et;let g1:Gh:=fun b=>if b=w.heap.size then .at d [] else g b
   let v:Value:=.slice (some ⟨w.heap.size,0,none⟩) 1 1
   let w':=w.alloc (.cells cells et)
   let hold':Nat→aE:=fun r=>if r=d then .reg [v] 0 else hold r
   let R1:Rt:=⟨t,.sl [],.dead,false⟩
   have old : ∀b,g b≠.free→aP w w' b∧g1 b=g b:=fun b hb=>by
    have:=h.bnd b hb
    exact ⟨hgr.same this,if_neg (by omega)⟩
   have hu : ∀b,g b≠.free→¬cq [] g b→g b≠.hd d→(∀q,g b≠.at d q)→aP w w' b∧g1 b=g b:=fun b hb _ _ _=>old b hb
   have hh : ∀r,r≠d→hold' r=hold r:=fun r hr=>by simp[hold',hr]
   have hfz : ∀b,g b = .frz→aP w w' b∧g1 b = .frz:=fun b hb=>by
    obtain ⟨k1,k2⟩:=old b (by rw[hb];simp)
    exact ⟨k1,by rw[k2,hb]⟩
   have hroot:dF E w' g1 hold' d R1:=⟨.dead,fun hb=>(by cases hb),fun _=>⟨[v],by simp[hold']⟩⟩
   have hcarr:=mV (look:=st.rt) (es:=[]) (Rd:=some R1) (kd:=0) (w':=w') (g':=g1) (hold':=hold') (d:=d) hP.wf h (fun _ _ h=>h) qH (fun x hx=>by cases hx) hu hh (.inl rfl)
   have hsurv:=hU.of hP.wf h.rts hcarr;have hsz:1 * E.sz et≤cells.size:=by omega
   refine ⟨.value v,w',v,g1,hold',by simp only[execOp,hop];exact rY _ _ hrun,.inl rfl,⟨hgr.os,hgr.tape,hgr.output,by rw[hgr.size];omega,fun b hb _=>⟨hgr.old hb,if_neg (by omega)⟩⟩,fun r hr=>hh r (by omega),?_⟩
   refine kg (look:=st.rt) (es:=[]) (Rd:=some R1) (kd:=0) (hold':=hold') hP.wf h (fun _ _ h=>h) qH (fun x hx=>by cases hx) hd hu hh (fun R hR=>by cases hR;exact hroot) (fun b hb=>?_) (.inl rfl) fun _=>?_
   ·rw[hgr.size];by_cases hbb:b=w.heap.size
    ·omega
    ·have:=h.bnd b (by simpa[g1,hbb] using hb);omega
   ·refine .row (R:=R1) dj hs (by simp[T.es]) (by simp[g1]) (by simpa using hgr.blk hsz) (fun i t' hi=>by simp[T.es] at hi) (hshs 0 v0 hv0) (hav.cut hP.wf hfz hsurv) fun k hk=>?_
    have:=hcells 0 (by omega) v0 hv0 k hk
    rw[show (0+(T.sl []).es.length * E.sz et+k)=k by simp[T.es],hgr.cell]
    simpa using this
end
section
variable {P:Program} {E:Env} {n:Nat} {st:St} {a:Act} {w:World} {g:Gh} {hold:Nat→aE} {look:Nat→Option Rt} {o:Oper} {b:Bool}
def Lies (E:Env) (w:World) (g:Gh) (e:Nat) (t:T) (κ:aE):Prop:=∃o r p,o.live=true∧Rep E w g e t o r p κ
inductive Appd (E:Env) (w:World) (et:Nat) (base:Option Addr) (n0 cap:Nat) (AB:Option Addr) (m:Nat):Value→World→Prop
 | grown {cells:Array Value} {G:Nat} : n0+m≤G→cells.size=G * E.sz et→
   (∀i,i < n0→∀B off,base=some ⟨B,off,none⟩→∀k,k < E.sz et→cells[i * E.sz et+k]?=w.cell? ⟨B,off+i * E.sz et+k,none⟩)→
   (∀i,i < m→∀aa:Addr,AB=some aa→∀k,k < E.sz et→cells[(n0+i) * E.sz et+k]?=w.cell? ⟨aa.block,aa.off+i * E.sz et+k,none⟩)→
   Appd E w et base n0 cap AB m (.slice (some ⟨w.heap.size,0,none⟩) (n0+m) G) (w.drew.alloc (.cells cells et))
 | nothing:m=0→base=none→n0=0→cap=0→Appd E w et base n0 cap AB m (.slice none 0 0) w
 | room {B off:Nat} {vals:List Value} : base=some ⟨B,off,none⟩→n0+m≤cap→vals.length=m * E.sz et→
   (∀i,i < m→∀aa:Addr,AB=some aa→∀k,k < E.sz et→vals[i * E.sz et+k]?=w.cell? ⟨aa.block,aa.off+i * E.sz et+k,none⟩)→
   Appd E w et base n0 cap AB m (.slice (some ⟨B,off,none⟩) (n0+m) cap) (w.setCells B (off+n0 * E.sz et) vals)
theorem qQ (hP:ba P E) {t et:Nat} (hs:E.ty t = .sl et) (hzok:E.zok et=true) {x y:Operand} (hop:o.op = .call { callee:=.builtin .append,args:=#[x,y],argTypes:=#[t,t] })
  {base:Option Addr} {n0 cap:Nat} (hvx:a.eval x = .slice base n0 cap) (hcap:n0≤cap) {olds:List T} (hol:olds.length=n0)
  (hbase:(base=none∧n0=0∧cap=0)∨∃B off,base=some ⟨B,off,none⟩∧ch w B (off+cap * E.sz et)∧∀(i:Nat) (t':T),olds[i]?=some t'→Lies E w g et t' (.mem B (off+i * E.sz et)))
  {g2:Gh} {AB:Option Addr} {m capB:Nat} (hvy:a.eval y = .slice AB m capB) {news:List T} (hnl:news.length=m)
  (hy:news = []∨∃aa:Addr,AB=some aa∧aa.spot=none∧∀(i:Nat) (t':T),news[i]?=some t'→Lies E w g2 et t' (.mem aa.block (aa.off+i * E.sz et)))
  (hlim:n0+m≤LIM) : ∃v w',(execOp a.eval o).run P w = .ok (.value v) w'∧Appd E w et base n0 cap AB m v w':=by
 obtain ⟨hok,i,z,hi,hiz,hsh,hzc⟩:=hP.zero et hzok;obtain ⟨hu,_⟩:=hP.sl t et hs;obtain ⟨i',hi',hsz,hby⟩:=hP.info et hok;rw[hi] at hi';cases hi';have hmul : ∀{i N k:Nat},i < N→k < E.sz et→i * E.sz et+k < N * E.sz et:=by
  intro i N k h1 h2;have:(i+1) * E.sz et≤N * E.sz et:=Nat.mul_le_mul_right _ h1
  rw[Nat.succ_mul] at this;omega
 obtain ⟨nv,hnvl,hnc,hsrcs⟩ : ∃nv:List Value,nv.length=m * E.sz et∧
   (∀i,i < m→∀aa:Addr,AB=some aa→∀k,k < E.sz et→nv[i * E.sz et+k]?=w.cell? ⟨aa.block,aa.off+i * E.sz et+k,none⟩)∧
   Src P i.size t (a.eval y) m nv w:=by
  rcases hy with hnil | ⟨aa,e1,e2,e3⟩
  ·have hm0:m=0:=by rw[← hnl,hnil];rfl
   subst hm0;refine ⟨[],by simp,fun i hi=>by omega,?_⟩
   rw[hvy];cases AB with
   | none=>exact Src.ofNil w hu capB
   | some aa=>exact Src.ofSlice w hu aa 0 capB [] (by simp) (fun j u hj=>by simp at hj) (fun u hu=>by cases hu)
  ·obtain ⟨cs,c1,c2,c3⟩:=pt hP.wf news (fun i t' hi=>e3 i t' hi)
   rw[hnl] at c1;refine ⟨cs,c1,fun i hi aa' haa k hk=>?_,?_⟩
   ·rw[e1] at haa;cases haa;have:i * E.sz et+k < cs.length:=by rw[c1];exact hmul hi hk
    rw[List.getElem?_eq_getElem this,Nat.add_assoc];exact (c2 _ _ (List.getElem?_eq_getElem this)).symm
   ·rw[hvy,e1];refine Src.ofSlice w hu aa _ capB cs (by rw[c1,hsz]) (fun j u hj=>?_) c3
    rw[fM e2];exact c2 j u hj
 have fin : ∀{v:Value} {w':World},(Builtin.append_ #[t,t] o.type #[a.eval x,a.eval y]).run P w = .ok v w'→(execOp a.eval o).run P w = .ok (.value v) w':=by
  intro v w' hrun;simp[execOp,hop,resolve,invoke,builtin,hrun]
 have grow:cap < n0+m→∃v w',(execOp a.eval o).run P w = .ok (.value v) w'∧Appd E w et base n0 cap AB m v w':=by
  intro hgr;obtain ⟨ov,hovl,hoc,hofirst⟩ : ∃ov:List Value,ov.length=n0 * E.sz et∧
    (∀i,i < n0→∀B off,base=some ⟨B,off,none⟩→∀k,k < E.sz et→ov[i * E.sz et+k]?=w.cell? ⟨B,off+i * E.sz et+k,none⟩)∧
    (Builtin.firstCells i.size n0 (.slice base n0 cap)).run P w.drew = .ok ov.toArray w.drew:=by
   rcases hbase with ⟨rfl,e2,_⟩ | ⟨B,off,rfl,e3,e4⟩
   ·subst e2;exact ⟨[],by simp,fun i hi=>by omega,by simp[Builtin.firstCells]⟩
   ·obtain ⟨cs,c1,c2,c3⟩:=pt hP.wf olds (fun i t' hi=>e4 i t' hi)
    rw[hol] at c1;refine ⟨cs,c1,fun i hi B' off' hB k hk=>?_,?_⟩
    ·cases hB;have:i * E.sz et+k < cs.length:=by rw[c1];exact hmul hi hk
     rw[List.getElem?_eq_getElem this,Nat.add_assoc];exact (c2 _ _ (List.getElem?_eq_getElem this)).symm
    ·refine run_firstCells_some w.drew i.size n0 _ n0 cap cs (by rw[c1,hsz]) (fun j u hj=>?_)
     rw[xy];simpa using c2 j u hj
  have hlim':n0+m≤4294967296:=hlim
  have hfit:Builtin.nextslicecap (n0+m) cap * i.bytes≤281474976710656:=by
   refine growslice_fits hgr ?_;have:(n0+m) * i.bytes≤4294967296 * 4096:=Nat.mul_le_mul hlim' hby
   omega
  have hrun:=run_append_grow_src (P:=P) w t t o.type et i z hu hi hiz base n0 cap ov hofirst (a.eval y) m nv hsrcs hgr (by omega) hfit
  rw[← hvx] at hrun;refine ⟨_,_,fin hrun,?_⟩;generalize hG:grownCap w (n0+m) cap et=G
  have hGge:n0+m≤G:=by rw[← hG];exact grownCap_ge _ _ _ _
  refine .grown hGge ?_ (fun i hi B off hB k hk=>?_) (fun i hi aa haa k hk=>?_)
  ·simp only[Array.size_append,List.size_toArray,List.length_append,hovl,hnvl,size_zeroCells,hsh.1];rw[← Nat.add_mul,← Nat.add_mul];congr 1;omega
  ·have h1:=hmul hi hk;rw[Array.getElem?_append_left (by simp;omega)]
   simp only[List.getElem?_toArray];rw[List.getElem?_append_left (by omega)]
   exact hoc i hi B off hB k hk
  ·have h1:=hmul hi hk;rw[Nat.add_mul,Nat.add_assoc,Array.getElem?_append_left (by simp;omega)]
   simp only[List.getElem?_toArray];rw[List.getElem?_append_right (by omega),hovl,Nat.add_sub_cancel_left]
   exact hnc i hi aa haa k hk
 rcases Nat.lt_or_ge cap (n0+m) with hlt | hge
 ·exact grow hlt
 rcases hbase with ⟨rfl,e2,e3⟩ | ⟨B,off,rfl,e3,e4⟩
 ·subst e2;subst e3;have hm0:m=0:=by omega
  subst hm0;have hnil:nv = []:=List.eq_nil_of_length_eq_zero (by rw[hnvl];simp)
  rw[hnil] at hsrcs;have hrun:=run_append_nothing (P:=P) w t t o.type et i hu hi none 0 0 (Nat.le_refl _) (a.eval y) hsrcs
  rw[← hvx] at hrun;exact ⟨_,_,fin hrun,by rw[hvx];exact .nothing rfl rfl rfl rfl⟩
 ·have hszle:(n0+m) * E.sz et≤cap * E.sz et:=Nat.mul_le_mul_right _ hge
  have hin : ∀j,j < nv.length→off+n0 * i.size+j < off+cap * E.sz et:=by
   intro j hj;rw[hnvl] at hj;rw[hsz];rw[Nat.add_mul] at hszle;omega
  have hrun:=run_append_room_src (P:=P) w t t o.type et i hu hi B off n0 cap (a.eval y) m nv hsrcs hge
   (fun j hj=>iO e3 (hin j hj)) (fun j hj=>uM e3 _)
  rw[← hvx] at hrun;refine ⟨_,_,fin hrun,?_⟩;rw[hsz];exact .room rfl hge hnvl hnc
end
section
variable {P:Program} {E:Env} {n:Nat} {st:St} {a:Act} {w w':World} {g G:Gh} {hold:Nat→aE} {look:Nat→Option Rt} {o:Oper} {b:Bool}
theorem set_nth {es:List T} {i:Nat} (h:i < es.length):es.set i ((T.sl es).nth i)=es:=by
 apply List.ext_getElem?
 intro j;by_cases hj:j=i
 ·subst hj;rw[List.getElem?_set_self h];simp[T.nth,T.es,h]
 ·rw[List.getElem?_set_ne (Ne.symm hj)]
theorem set_fld {fs:List T} {i:Nat} (h:i < fs.length):fs.set i ((T.st fs).fld i)=fs:=by
 apply List.ext_getElem?
 intro j;by_cases hj:j=i
 ·subst hj;rw[List.getElem?_set_self h];simp[T.fld,T.fs,h]
 ·rw[List.getElem?_set_ne (Ne.symm hj)]
theorem put_get {r:Nat} {ty:Nat} {p:List aH} {κ:aE} {q:List aH} {ty':Nat} {κ':aE} (hs:Sub E w g r ty p κ q ty' κ') :
  ∀{t:T} {o:O},Rep E w g ty t o r p κ→o.way q=true→t.put q (t.get q)=t:=by
 induction hs with
 | nil=>intro t o _ _;rfl
 | @fld ty fs j f p κ q ty' κ' h1 h2 _ ih=>
  intro t o h hw;cases h with
  | st a1 a2 a3=>
   rename_i ts
   rw[h1] at a1;cases a1;have hj:j < ts.length:=by rw[a2];exact (List.getElem?_eq_some_iff.1 h2).1
   have:=ih (a3 j f _ h2 (jR hj)) (by cases o <;> simp_all[O.way])
   simp only[T.put,T.get,T.fs];rw[this,set_fld hj]
  | dead=>simp[O.way] at hw
  | _=>simp_all
 | @idx ty e a len cap i p κ q ty' κ' h1 h2 h3 h4 h5 _ ih=>
  intro t o h hw;simp only[O.way,Bool.and_eq_true] at hw;cases h with
  | own a1 a2 a3 a4 a5 a6 a7 a8=>
   rename_i es
   rw[h1] at a1;cases a1;rw[h2] at a3;cases a3;have:=ih (a8 i _ (rq h3)) hw.2
   simp only[T.put,T.get,T.es];rw[this,set_nth h3]
  | fz a1 a2 a3 a4 a5 a6=>rw[h2] at a2;cases a2;rw[h5] at a5;cases a5
  | fo a1 a2 a3 a4 a5 a6 a7=>rw[h2] at a2;cases a2;rw[h5] at a5;cases a5
  | fz0 a1 a2=>rw[h2] at a2;cases a2;omega
  | fo0 a1 a2=>rw[h2] at a2;cases a2;omega
  | own0 a1 a2 a3=>rw[h2] at a3;cases a3
  | dead=>simp[O.own] at hw
  | _=>simp_all
theorem Sub.snoc {r:Nat} {ty:Nat} {p:List aH} {κ:aE} {q:List aH} {ty':Nat} {κ':aE} (hs:Sub E w g r ty p κ q ty' κ') :
  ∀{q2:List aH} {ty2:Nat} {κ2:aE},Sub E w g r ty' (p++q) κ' q2 ty2 κ2→Sub E w g r ty p κ (q++q2) ty2 κ2:=by
 induction hs with
 | nil=>intro q2 ty2 κ2 h;simpa using h
 | fld h1 h2 _ ih=>intro q2 ty2 κ2 h;exact .fld h1 h2 (ih (by simpa using h))
 | idx h1 h2 h3 h4 h5 _ ih=>intro q2 ty2 κ2 h;exact .idx h1 h2 h3 h4 h5 (ih (by simpa using h))
theorem Sub.det {r:Nat} {ty:Nat} {p:List aH} {κ:aE} {q:List aH} {ty':Nat} {κ':aE} (hs:Sub E w g r ty p κ q ty' κ') :
  ∀{ty2:Nat} {κ2:aE},Sub E w g r ty p κ q ty2 κ2→ty2=ty'∧κ2=κ':=by
 induction hs with
 | nil=>intro ty2 κ2 h;cases h;exact ⟨rfl,rfl⟩
 | fld h1 h2 _ ih=>
  intro ty2 κ2 h;cases h with
  | fld c1 c2 c3=>rw[h1] at c1;cases c1;rw[h2] at c2;cases c2;exact ih c3
 | idx h1 h2 h3 h4 h5 _ ih=>
  intro ty2 κ2 h;cases h with
  | idx c1 c2 c3 c4 c5 c6=>rw[h1] at c1;cases c1;rw[h2] at c2;cases c2;exact ih c6
structure yC (E:Env) (w:World) (g:Gh) (hold:Nat→aE) (w':World) (G:Gh) (r rty t et:Nat) (p:List aH) (B x:Nat):Prop where
 blk : ∀b,(∃q,g b = .at r q)→(∀o,¬(b=B∧x≤o)→w'.cell? ⟨b,o,none⟩=w.cell? ⟨b,o,none⟩)∧G b=g b∧∀k,ch w b k→ch w' b k
 tag : ∀q,g B = .at r q→q=p
 hdr : ∀κ,Sub E w g r rty [] (hold r) p t κ→∀o0 n0 c0,rd w κ=some (.slice (some ⟨B,o0,none⟩) n0 c0)→o0+n0 * E.sz et≤x
theorem Sub.grow (hE:bl E) {r rty t et:Nat} {pp:List aH} {B x:Nat} (hB:yC E w g hold w' G r rty t et pp B x) (ht:E.ty t = .sl et)
  {κp:aE} (hκp:Sub E w g r rty [] (hold r) pp t κp) {ty:Nat} {p:List aH} {κ:aE} {q:List aH} {ty':Nat} {κ':aE} (hs:Sub E w g r ty p κ q ty' κ') :
  Sub E w g r rty [] (hold r) p ty κ→(∀k,k < E.sz ty→rd w' (κ.add k)=rd w (κ.add k))→
  Sub E w' G r ty p κ q ty' κ'∧∀k,k < E.sz ty'→rd w' (κ'.add k)=rd w (κ'.add k):=by
 induction hs with
 | nil=>intro _ hc;exact ⟨.nil,hc⟩
 | @fld ty fs j f p κ q ty' κ' h1 h2 _ ih=>
  intro hp hc;obtain ⟨i1,i2⟩:=ih (hp.snoc (.fld h1 h2 (by simpa using .nil))) (fun k hk=>by rw[aE.add_add];exact hc _ (by rw[hE.sum _ _ h1];have:=eL (E:=E) h2;omega))
  exact ⟨.fld h1 h2 i1,i2⟩
 | @idx ty e a len cap i p κ q ty' κ' h1 h2 h3 h4 h5 _ ih=>
  intro hp hc;obtain ⟨b1,b2,_⟩:=hB.blk a.block ⟨p,h5⟩;have hsame : ∀k,k < E.sz e→rd w' ((aE.mem a.block (a.off+i * E.sz e)).add k)=rd w ((aE.mem a.block (a.off+i * E.sz e)).add k):=by
   intro k hk;simp only[aE.add,rd];refine b1 _ ?_;rintro ⟨hb,hx⟩
   have hpp:=hB.tag p (by rw[← hb];exact h5)
   subst hpp;obtain ⟨e1,e2⟩:=hκp.det hp;subst e1;rw[h1] at ht;cases ht;obtain ⟨ab,ao,as⟩:=a;simp only at h4 hb hx;subst h4;subst hb;have:=hB.hdr κ hp ao len cap h2
   have h6:(i+1) * E.sz et≤len * E.sz et:=Nat.mul_le_mul_right _ h3
   rw[Nat.succ_mul] at h6;omega
  obtain ⟨i1,i2⟩:=ih (hp.snoc (.idx h1 h2 h3 h4 h5 (by simpa using .nil))) hsame
  exact ⟨.idx h1 (by rw[← h2];simpa[aE.add_zero] using hc 0 (by rw[hE.one _ (by simp[h1])];omega)) h3 h4 (by rw[b2,h5]) i1,i2⟩
theorem qd {ty e:Nat} {t:T} {o:O} {r:Nat} {p:List aH} {v:Value} {κ:aE} (h:Rep E w g ty t o r p κ) (hv:rd w κ=some v) (ht:E.ty ty = .sl e) (ho:o.own=true) :
  ∃base cap,v = .slice base t.es.length cap∧t.es.length≤cap∧t = .sl t.es∧
   ((
    base=none∧t.es = []∧cap=0)∨∃B off,base=some ⟨B,off,none⟩∧g B = .at r p∧ch w B (off+cap * E.sz e)∧
    ∀(i:Nat) (t':T),t.es[i]?=some t'→Rep E w g e t' o.elem r (p ++ [.idx i]) (.mem B (off+i * E.sz e))):=by
 cases h with
 | own0 b1 b2 b3=>rw[b3] at hv;cases hv;exact ⟨none,0,by simp[T.es],by simp[T.es],rfl,.inl ⟨rfl,rfl,rfl⟩⟩
 | @own _ e2 _ aa cap _ _ _ _ b1 b2 b3 b4 b5 b6 b7 b8=>
  rw[ht] at b1;cases b1;rw[b3] at hv;cases hv;obtain ⟨B,off,sp⟩:=aa;simp only at b4;subst b4;exact ⟨some ⟨B,off,none⟩,cap,by simp[T.es],by simpa[T.es] using b5,rfl,.inr ⟨B,off,rfl,b6,b7,fun i t' hi=>b8 i t' hi⟩⟩
 | fz0=>simp[O.own] at ho
 | fo0=>simp[O.own] at ho
 | fo=>simp[O.own] at ho
 | fz=>simp[O.own] at ho
 | dead=>simp[O.own] at ho
 | _=>simp_all
theorem dF.behind (hE:bl E) {r:Nat} {R:Rt} (ok:dF E w g hold r R) {t et:Nat} {p:List aH} {B x:Nat} (hB:yC E w g hold w' G r R.ty t et p B x) (ht:E.ty t = .sl et)
  {κ:aE} (hsub:Sub E w g r R.ty [] (hold r) p t κ) (ho:(R.o.get p).own=true) (hlive:(R.o.get p).live=true) (hway:R.o.way p=true)
  (hfz : ∀b,g b = .frz→aP w w' b∧G b = .frz) (hhd : ∀b,g b = .hd r→aP w w' b∧G b=g b) (hne : ∀b,b≠B→(∃q,g b = .at r q)→aP w w' b):dF E w' G hold r R:=by
 have hrd : ∀k,rd w' ((hold r).add k)=rd w ((hold r).add k):=by
  intro k;cases hb:R.box with
  | true=>obtain ⟨b,o,h1,h2,_⟩:=ok.box hb;rw[h1];exact (hhd b h2).1.1 _
  | false=>obtain ⟨vs,h1⟩:=ok.reg hb;rw[h1];rfl
 obtain ⟨_,hκ⟩:=hsub.grow hE hB ht hsub .nil (fun k _=>hrd k)
 have hκ0:rd w' κ=rd w κ:=by
  have:=hκ 0 (by rw[hE.one _ (by simp[ht])];omega)
  rwa [aE.add_zero] at this
 have hdeep : ∀{i b:Nat},o4 g r (p ++ [.idx i]) b→aP w w' b∧G b=g b:=by
  intro i b hb;rcases hb with hb | ⟨q,hb⟩
  ·obtain ⟨c1,c2⟩:=hfz b hb;exact ⟨c1,by rw[c2,hb]⟩
  ·refine ⟨hne b ?_ ⟨_,hb⟩,(hB.blk b ⟨_,hb⟩).2.1⟩;rintro rfl
   have:=congrArg List.length (hB.tag _ hb)
   simp at this
 have hrep:=eS ok hsub;have hnew:Rep E w' G t (R.t.get p) (R.o.get p) r p κ:=by
  obtain ⟨v,hv,_⟩:=hrep.cells hE hlive 0 (by rw[hE.one _ (by simp[ht])];omega)
  rw[aE.add_zero] at hv;obtain ⟨base,cap,hvv,hcap,hT,hb⟩:=qd hrep hv ht ho;rw[hT];rcases hb with ⟨rfl,e2,rfl⟩ | ⟨b,off,rfl,e2,e3,e4⟩
  ·rw[e2];exact .own0 ht ho (by rw[hκ0,hv,hvv,e2];rfl)
  ·obtain ⟨c1,c2,c3⟩:=hB.blk b ⟨p,e2⟩;refine .own ht ho (by rw[hκ0,hv,hvv]) rfl hcap (by rw[c2,e2]) (c3 _ e3) fun i t' hi=>?_
   refine (e4 i t' hi).reloc hE (fun k hk=>?_) fun b hb=>hdeep hb
   simp only[aE.add,rd];refine c1 _ ?_;rintro ⟨rfl,hx⟩
   have:=hB.hdr κ hsub off _ _ (by rw[hv,hvv])
   have hil:=(List.getElem?_eq_some_iff.1 hi).1;have h6:(i+1) * E.sz et≤(R.t.get p).es.length * E.sz et:=Nat.mul_le_mul_right _ hil
   rw[Nat.succ_mul] at h6;omega
 refine ⟨?_,fun hb=>?_,fun hb=>ok.reg hb⟩
 ·have:=Rep.swap hE hsub ok.rep hway (lx.self hsub R.o hway) (t₁:=R.t.get p) (by simpa using hnew) (fun b hb=>?_) (fun k _=>hrd k)
  ·rwa [put_get hsub ok.rep hway] at this
  ·rcases hb with hb | ⟨q,hb,hn⟩
   ·obtain ⟨c1,c2⟩:=hfz b hb;exact ⟨c1,by rw[c2,hb]⟩
   ·rw[List.nil_append] at hb;refine ⟨hne b ?_ ⟨q,hb⟩,(hB.blk b ⟨q,hb⟩).2.1⟩;rintro rfl
    rw[hB.tag q hb] at hn;exact hn (List.prefix_refl _)
 ·obtain ⟨b,o,h1,h2,h3⟩:=ok.box hb;obtain ⟨c1,c2⟩:=hhd b h2;exact ⟨b,o,h1,by rw[c2,h2],c1.2 _ h3⟩
end
section
variable {P:Program} {E:Env} {n:Nat} {st:St} {a:Act} {w w':World} {g:Gh} {hold:Nat→aE} {look:Nat→Option Rt} {o:Oper} {b:Bool}
theorem tY {st:St} {r:Nat} {R:Rt} (hR:st.rt r=some R) {E:Env} {look:Nat→Option Rt} {mv:List (Nat × List aH)} (hm:r ∉ dy mv) {d:Option Nat} {av:AV} {ks:Ks} :
  aX d ⟨av,(r,some R) :: bY E look mv,ks⟩ st=aX d ⟨av,bY E look mv,ks⟩ st:=by
 unfold aX;simp only[St.mk.injEq,true_and];funext x
 simp only[aJ,bZ];by_cases hx:r=x
 ·subst hx;simp only[decide_true,cond_true,km,if_neg hm,hR]
 ·simp only[hx,decide_false,cond_false]
theorem yF (hP:ba P E) (h:Inv E n st a w g hold) (hl : ∀r R,look r=some R→st.rt r=some R) {r:Nat} {R:Rt} (hR:look r=some R) {t et:Nat} {p:List aH} {κ:aE} (ht:E.ty t = .sl et)
  (hsub:Sub E w g r R.ty [] (hold r) p t κ) (ho:(R.o.get p).own=true) (hlive:(R.o.get p).live=true) (hway:R.o.way p=true)
  {es:List Ent} (hm:bP (srcs es)=true) (hs : ∀x∈srcs es,eH E w g st.rt look hold x) (hne : ∀x∈srcs es,x.1≠r)
  {g':Gh} (p1 : ∀b,¬cq es g b→g' b=g b) (p3 : ∀b,g' b≠.free→g b≠.free)
  {base:Option Addr} {n0 cap:Nat} {AB:Option Addr} {m:Nat} {v:Value} (hap:Appd E w et base n0 cap AB m v w')
  {olds news:List T} (hol:olds.length=n0) (hnl:news.length=m) (hcap:n0≤cap)
  (hbase:(base=none∧n0=0∧cap=0)∨∃B off,base=some ⟨B,off,none⟩∧g' B = .at r p∧ch w B (off+cap * E.sz et)∧
   ∀(i:Nat) (t':T),olds[i]?=some t'→Rep E w g' et t' (R.o.get p).elem r (p ++ [.idx i]) (.mem B (off+i * E.sz et)))
  (hy:news = []∨∃aa:Addr,AB=some aa∧∀(i:Nat) (t':T),news[i]?=some t'→Rep E w g' et t' (R.o.get p).elem r (p ++ [.idx (n0+i)]) (.mem aa.block (aa.off+i * E.sz et)))
  (hhd : ∀B o0 n1 c0 off,rd w κ=some (.slice (some ⟨B,o0,none⟩) n1 c0)→base=some ⟨B,off,none⟩→o0=off∧n1≤n0)
  {dst:Option Nat} (hdst : ∀x,dst=some x→x < n) :
  ∃G,Stp w g w' G∧Inv E n (aX dst ⟨.alt t r p (.sl (olds++news)),(r,some R) :: bY E look (srcs es),(r,4) :: bW look (srcs es)⟩ st) (a.put dst v) w' G hold:=by
 have hE:=hP.wf;have hRs:=hl r R hR;have ok:=h.rts r R hRs;have ngr : ∀b q,g b = .at r q→¬cq es g b:=by
  rintro b q hb ⟨e,he,q',hq⟩
  rw[hb] at hq;simp only[Own.at.injEq] at hq;exact hne (e.1,e.2.1) (List.mem_map.2 ⟨e,he,rfl⟩) hq.1.symm
 have ngh : ∀b r',g b = .hd r'→¬cq es g b:=by rintro b r' hb ⟨e,_,q,hq⟩;rw[hb] at hq;cases hq
 have ngf : ∀b,g b = .free∨g b = .frz→¬cq es g b:=by rintro b hb ⟨e,_,q,hq⟩;rcases hb with hb | hb <;> rw[hb] at hq <;> cases hq
 have hlen:(olds++news).length=n0+m:=by simp[hol,hnl]
 have hmul : ∀{i N k:Nat},i < N→k < E.sz et→i * E.sz et+k < N * E.sz et:=by
  intro i N k h1 h2;have:(i+1) * E.sz et≤N * E.sz et:=Nat.mul_le_mul_right _ h1
  rw[Nat.succ_mul] at this;omega
 have helt : ∀(j:Nat) (t':T),(olds++news)[j]?=some t'→(j < n0∧olds[j]?=some t')∨(∃k,j=n0+k∧k < m∧news[k]?=some t'):=by
  intro j t' hj;rcases Nat.lt_or_ge j n0 with h | h
  ·rw[List.getElem?_append_left (by omega)] at hj;exact .inl ⟨h,hj⟩
  ·rw[List.getElem?_append_right (by omega)] at hj
   have:=(List.getElem?_eq_some_iff.1 hj).1
   exact .inr ⟨j - n0,by omega,by omega,by rw[← hol];exact hj⟩
 have fin : ∀(G:Gh),(∀b,g b≠.free→¬cq es g b→g b≠.hd r→(∀q,g b≠.at r q)→aP w w' b∧G b=g b)→dF E w' G hold r R→
   eM E w g hold w' G (iY E look st r (some R) (srcs es)) hold ((r,4) :: bW look (srcs es)) r R→(∀b,G b≠.free→b < w'.heap.size)→
   (w'.os=w.os∧w'.tape=w.tape∧w'.output=w.output∧w.heap.size≤w'.heap.size)→(∀b,b < w.heap.size→(g b = .free∨g b = .frz)→w'.heap[b]?=w.heap[b]?∧G b=g b)→
   aO E w' G (iY E look st r (some R) (srcs es)) hold (.alt t r p (.sl (olds++news))) v→
   ∃G,Stp w g w' G∧Inv E n (aX dst ⟨.alt t r p (.sl (olds++news)),(r,some R) :: bY E look (srcs es),(r,4) :: bW look (srcs es)⟩ st) (a.put dst v) w' G hold:=by
  intro G f1 f2 f3 f4 f5 f6 f7;refine ⟨G,⟨f5.1,f5.2.1,f5.2.2.1,f5.2.2.2,f6⟩,?_⟩;exact kg (look:=look) (es:=es) hE h hl hm hs hdst f1 (fun _ _=>rfl) (fun R' hR'=>by cases hR';exact f2) f4 (.inr fun R0 hR0=>by rw[hRs] at hR0;cases hR0;exact f3) fun _=>f7
 have hfz' : ∀b,g b = .frz→g' b = .frz:=fun b hb=>by rw[p1 b (ngf b (.inr hb)),hb]
 cases hap with
 | @grown cells Gc hG hcs hco hcn=>
  have hgr:=Gr.drew w cells et;let G:Gh:=fun b=>if b=w.heap.size then .at r p else g' b
  have old : ∀b,b < w.heap.size→G b=g' b:=fun b hb=>if_neg (by omega)
  have oldg : ∀b,g b≠.free→¬cq es g b→aP w (w.drew.alloc (.cells cells et)) b∧G b=g b:=fun b hb hn=>by
   have:=h.bnd b hb
   exact ⟨hgr.same this,by rw[old b this,p1 b hn]⟩
  have hfz : ∀b,g b = .frz→aP w (w.drew.alloc (.cells cells et)) b∧G b = .frz:=fun b hb=>by
   obtain ⟨k1,k2⟩:=oldg b (by rw[hb];simp) (ngf b (.inr hb))
   exact ⟨k1,by rw[k2,hb]⟩
  have hk:jt w g hold (w.drew.alloc (.cells cells et)) G hold r:=⟨rfl,fun b hb=>by
   rcases hb with hb | ⟨q,hb⟩
   ·exact oldg b (by rw[hb];simp) (ngh b r hb)
   ·exact oldg b (by rw[hb];simp) (ngr b q hb)⟩
  have fresh : ∀{ty:Nat} {t':T} {o:O} {q:List aH} {κ κ':aE},Rep E w g' ty t' o r q κ→(∀k,k < E.sz ty→rd (w.drew.alloc (.cells cells et)) (κ'.add k)=rd w (κ.add k))→
    Rep E (w.drew.alloc (.cells cells et)) G ty t' o r q κ':=fun hr hc=>hr.reloc hE hc fun b hb=>by
   have:=h.bnd b (p3 b hb.nf)
   exact ⟨hgr.same this,old b this⟩
  refine fin G (fun b h1 h2 _ _=>oldg b h1 h2) (ok.keep hE hk hfz) (.keep dj hk) (fun b hb=>?_) ⟨hgr.os,hgr.tape,hgr.output,by rw[hgr.size];omega⟩
   (fun b hb hf=>⟨hgr.old hb,by rw[old b hb,p1 b (ngf b hf)]⟩) ?_
  ·rw[hgr.size];by_cases hbb:b=w.heap.size
   ·omega
   ·have:g' b≠.free:=by simpa[G,hbb] using hb
    have:=h.bnd b (p3 b this);omega
  ·have hs1:=(hsub.frame hE (fun k _=>hk.rd ok k) fun b ⟨q,hq⟩=>hk.2 b (.inr ⟨q,by simpa using hq⟩)).1
   refine .alt (R:=R) dj (bq hE (by simp[ht]) rfl) hlive hs1 ?_ ?_
   ·refine .own (a:=⟨w.heap.size,0,none⟩) (cap:=Gc) ht ho (by rw[hlen];rfl) rfl (by rw[hlen];exact hG) (by simp[G]) (by simpa using hgr.blk (by rw[hcs];omega)) fun j t' hj=>?_
    rcases helt j t' hj with ⟨hjl,hj⟩ | ⟨k,rfl,hkm,hj⟩
    ·rcases hbase with ⟨_,e2,_⟩ | ⟨B,off,e1,_,_,e4⟩
     ·omega
     ·refine fresh (e4 j t' hj) fun k hk=>?_
      simp only[aE.add,rd,Nat.zero_add];rw[hgr.cell,hco j hjl B off e1 k hk]
    ·rcases hy with hnil | ⟨aa,e1,e2⟩
     ·rw[hnil] at hj;simp at hj
     ·refine fresh (e2 k t' hj) fun i hi=>?_
      simp only[aE.add,rd,Nat.zero_add];rw[hgr.cell,hcn k hkm aa e1 i hi]
   ·intro b o0 n1 c0 o1 n2 c2 e1 e2;exfalso
    cases e2;have hb:g w.heap.size≠.free:=by
     have hrep:=eS ok hsub;have hκ:rd w κ=some (.slice (some ⟨w.heap.size,o0,none⟩) n1 c0):=by
      have:=(hsub.frame hE (fun k _=>hk.rd ok k) fun b ⟨q,hq⟩=>hk.2 b (.inr ⟨q,by simpa using hq⟩)).2 0 (by rw[hE.one _ (by simp[ht])];omega)
      rw[aE.add_zero] at this;rw[← this];exact e1
     obtain ⟨base',cap',hvv,_,_,hb⟩:=qd hrep hκ ht ho;simp only[Value.slice.injEq] at hvv;rcases hb with ⟨rfl,_,_⟩ | ⟨B',off',rfl,q2,_,_⟩
     ·cases hvv.1
     ·have:=hvv.1
      simp only[Option.some.injEq,Addr.mk.injEq] at this;rw[this.1,q2];simp
    have:=h.bnd _ hb
    omega
 | nothing h1 h2 h3 h4=>
  have hk:jt w g hold w g' hold r:=⟨rfl,fun b hb=>⟨aP.refl _ _,by
   rcases hb with hb | ⟨q,hb⟩
   ·exact p1 b (ngh b r hb)
   ·exact p1 b (ngr b q hb)⟩⟩
  have hfz : ∀b,g b = .frz→aP w w b∧g' b = .frz:=fun b hb=>⟨aP.refl _ _,hfz' b hb⟩
  refine fin g' (fun b _ h2 _ _=>⟨aP.refl _ _,p1 b h2⟩) (ok.keep hE hk hfz) (.keep dj hk) (fun b hb=>h.bnd b (p3 b hb)) ⟨rfl,rfl,rfl,Nat.le_refl _⟩ (fun b _ hf=>⟨rfl,p1 b (ngf b hf)⟩) ?_
  have hs1:=(hsub.frame hE (fun k _=>hk.rd ok k) fun b ⟨q,hq⟩=>hk.2 b (.inr ⟨q,by simpa using hq⟩)).1
  have e1:olds = []:=List.eq_nil_of_length_eq_zero (by omega)
  have e2:news = []:=List.eq_nil_of_length_eq_zero (by omega)
  refine .alt (R:=R) dj (bq hE (by simp[ht]) rfl) hlive hs1 (by rw[e1,e2];exact .own0 ht ho rfl) fun b o0 n1 c0 o1 n2 c2 _ hc=>by cases hc
 | @room B off vals hb hge hvl hvc=>
  subst hb;rcases hbase with ⟨e1,_⟩ | ⟨B',off',e1,hBt,hBb,hel⟩
  ·cases e1
  simp only[Option.some.injEq,Addr.mk.injEq,and_true] at e1;obtain ⟨rfl,rfl⟩:=e1;let w2:=w.setCells B (off+n0 * E.sz et) vals
  obtain ⟨z1,z2,z3,z4⟩:=gL B vals (off+n0 * E.sz et) w;have hBn:g B≠.free:=p3 B (by rw[hBt];simp)
  have hBf:g B≠.frz:=fun hf=>by rw[hfz' B hf] at hBt;cases hBt
  have hBh : ∀r',g B≠.hd r':=fun r' hf=>by rw[p1 B (ngh B r' hf),hf] at hBt;cases hBt
  have hBg : ∀q,g B = .at r q→q=p:=fun q hq=>by rw[p1 B (ngr B q hq),hq] at hBt;simpa using hBt
  have hBo : ¬cq es g B→g B = .at r p:=fun hn=>by rw[← p1 B hn];exact hBt
  have hother : ∀b,b < w.heap.size→b≠B→w2.heap[b]?=w.heap[b]?:=fun b hb hne=>World.heap_setCells_other w B _ vals hb hne
  have hsame : ∀b,g b≠.free→b≠B→aP w w2 b:=fun b hb hne=>.of_heap (hother b (h.bnd b hb) hne)
  have hcell : ∀b o,¬(b=B∧off+n0 * E.sz et≤o)→w2.cell? ⟨b,o,none⟩=w.cell? ⟨b,o,none⟩:=by
   intro b o hn;refine World.cell?_setCells_out B vals _ w _ fun h1 _=>?_
   simp only at h1;subst h1;exact .inl (by simp only;omega)
  have hblk : ∀b k,ch w b k→ch w2 b k:=by
   intro b k hb;by_cases hbB:b=B
   ·subst hbB;exact fO b k _ _ w hb
   ·obtain ⟨c,e,h1,h2⟩:=hb;have hlt:=(Array.getElem?_eq_some_iff.1 h1).1;exact ⟨c,e,by rw[hother b hlt hbB,h1],h2⟩
  have hfz : ∀b,g b = .frz→aP w w2 b∧g' b = .frz:=fun b hb=>⟨hsame b (by rw[hb];simp) (by rintro rfl;exact hBf hb),hfz' b hb⟩
  have hhdr : ∀b,g b = .hd r→aP w w2 b∧g' b=g b:=fun b hb=>⟨hsame b (by rw[hb];simp) (by rintro rfl;exact hBh r hb),p1 b (ngh b r hb)⟩
  have hBeh:yC E w g hold w2 g' r R.ty t et p B (off+n0 * E.sz et):=by
   refine ⟨fun b ⟨q,hq⟩=>⟨fun o hn=>hcell b o hn,p1 b (ngr b q hq),hblk b⟩,hBg,fun κ2 hs2 o0 n1 c0 hv=>?_⟩
   obtain ⟨_,e2⟩:=hsub.det hs2;subst e2;obtain ⟨e3,e4⟩:=hhd B o0 n1 c0 off hv rfl;subst e3;have:n1 * E.sz et≤n0 * E.sz et:=Nat.mul_le_mul_right _ e4
   omega
  have hroot:=ok.behind hE hBeh ht hsub ho hlive hway hfz hhdr fun b hne ⟨q,hq⟩=>hsame b (by rw[hq];simp) hne
  have hrd : ∀k,rd w2 ((hold r).add k)=rd w ((hold r).add k):=by
   intro k;cases hb:R.box with
   | true=>obtain ⟨b,o,h1,h2,_⟩:=ok.box hb;rw[h1];exact (hhdr b h2).1.1 _
   | false=>obtain ⟨vs,h1⟩:=ok.reg hb;rw[h1];rfl
  have hgrow : ∀{q:List aH} {ty':Nat} {κ':aE},Sub E w g r R.ty [] (hold r) q ty' κ'→Sub E w2 g' r R.ty [] (hold r) q ty' κ'∧∀k,k < E.sz ty'→rd w2 (κ'.add k)=rd w (κ'.add k):=
   fun hs2=>Sub.grow hE hBeh ht hsub hs2 .nil (fun k _=>hrd k)
  refine fin g' (fun b h1 h2 _ h4=>⟨hsame b h1 ?_,p1 b h2⟩) hroot (.grown dj rfl (fun q ty' κ' hs2=>?_) (by simp[aJ,bZ])) (fun b hb=>by rw[z1];exact h.bnd b (p3 b hb)) ⟨z2,z3,z4,by rw[z1];exact Nat.le_refl _⟩
   (fun b hb hf=>⟨hother b hb ?_,p1 b (ngf b hf)⟩) ?_
  ·rintro rfl;exact h4 p (hBo h2)
  ·obtain ⟨s1,s2⟩:=hgrow hs2;refine ⟨s1,fun ⟨e,he⟩=>?_⟩
   have:=s2 0 (by rw[hE.one _ (by simp[he])];omega)
   rwa [aE.add_zero] at this
  ·rintro rfl;rcases hf with hf | hf;exact hBn hf;exact hBf hf
  ·obtain ⟨hs1,hs2⟩:=hgrow hsub;have hκ0:rd w2 κ=rd w κ:=by
    have:=hs2 0 (by rw[hE.one _ (by simp[ht])];omega)
    rwa [aE.add_zero] at this
   have hdeep : ∀{j b:Nat},o4 g' r (p ++ [.idx j]) b→aP w w2 b∧g' b=g' b:=by
    intro j b hb;refine ⟨hsame b (p3 b hb.nf) ?_,rfl⟩;rintro rfl
    rcases hb with hb | ⟨q,hb⟩
    ·rw[hBt] at hb;cases hb
    ·rw[hBt] at hb;simp only[Own.at.injEq] at hb;have:=congrArg List.length hb.2
     simp at this
   refine .alt (R:=R) dj (bq hE (by simp[ht]) rfl) hlive hs1 ?_ ?_
   ·refine .own (a:=⟨B,off,none⟩) (cap:=cap) ht ho (by rw[hlen];rfl) rfl (by rw[hlen];exact hge) hBt (hblk _ _ hBb) fun j t' hj=>?_
    rcases helt j t' hj with ⟨hjl,hj⟩ | ⟨k,rfl,hkm,hj⟩
    ·refine (hel j t' hj).reloc hE (fun k hk=>?_) fun b hb=>hdeep hb
     simp only[aE.add,rd];refine hcell _ _ ?_;have:=hmul hjl hk
     rintro ⟨_,hx⟩;omega
    ·rcases hy with hnil | ⟨aa,e1,e2⟩
     ·rw[hnil] at hj;simp at hj
     ·refine (e2 k t' hj).reloc hE (fun i hi=>?_) fun b hb=>hdeep hb
      simp only[aE.add,rd];have hlt:k * E.sz et+i < vals.length:=by rw[hvl];exact hmul hkm hi
      have hszle:(n0+m) * E.sz et≤cap * E.sz et:=Nat.mul_le_mul_right _ hge
      have:=World.cell?_setCells_in B vals (off+n0 * E.sz et) w (fun j hj=>iO hBb (by rw[hvl] at hj;rw[Nat.add_mul] at hszle;omega)) (k * E.sz et+i) hlt
      rw[← hvc k hkm aa e1 i hi,List.getElem?_eq_getElem hlt,← this,Nat.add_mul];congr 2
      omega
   ·intro b o0 n1 c0 o1 n2 c2 e1 e2;simp only[Value.slice.injEq,Option.some.injEq,Addr.mk.injEq,and_true] at e2;obtain ⟨⟨rfl,rfl⟩,rfl,rfl⟩:=e2;rw[hκ0] at e1;obtain ⟨e3,e4⟩:=hhd B o0 n1 c0 off e1 rfl;exact ⟨e3.symm,by omega⟩
end
section
variable {P:Program} {E:Env} {n:Nat} {st:St} {a:Act} {w:World} {g:Gh} {hold:Nat→aE} {look:Nat→Option Rt} {o:Oper} {b:Bool}
theorem MA {t et:Nat} {v:Value} (ht:E.ty t = .sl et) (hs:bd E t v):v.cells.toList = [v]:=by
 have h:=hs.2;rw[ht] at h;simp only at h;rw[h]
theorem wF (hP:ba P E) (h:Inv E n st a w g hold) {r:Nat} {R:Rt} (hRs:st.rt r=some R) {t et:Nat} (ht:E.ty t = .sl et) {p:List aH} {t0:T} {ax:AV} {vx:Value}
  (hax:(ax = .sref t r p∧t0=R.t.get p)∨ax = .alt t r p t0) (hx:aO E w g st.rt hold ax vx) :
  ∃κ,Sub E w g r R.ty [] (hold r) p t κ∧Rep E w g t t0 (R.o.get p) r p (.reg [vx] 0)∧HdRel w κ vx:=by
 rcases hax with ⟨rfl,rfl⟩ | rfl
 ·cases hx with
  | @sref _ e _ _ A k c R' κ a1 a2 a3 a4=>
   rw[hRs] at a1;cases a1;refine ⟨κ,a3,(eS (h.rts r R hRs) a3).place hP.wf fun m hm=>?_,fun b o0 n0 c0 o1 n1 c1 e1 e2=>?_⟩
   ·rw[hP.wf.one _ (by simp[a2])] at hm
    obtain rfl:m=0:=by omega
    rw[aE.add_zero,aE.add_zero,a4];rfl
   ·rw[a4,e2] at e1;cases e1;exact ⟨rfl,Nat.le_refl _⟩
 ·cases hx with
  | alt a1 a2 a3 a4 a5 a6=>
   rw[hRs] at a1;cases a1;rw[MA ht a2] at a5;exact ⟨_,a4,a5,a6⟩
theorem yG (hP:ba P E) (h:Inv E n st a w g hold) (hl : ∀r R,look r=some R→st.rt r=some R) (hd : ∀x,o.dst=some x→x < n) {t et:Nat} {x y:Operand} {e:Eff} (hs:E.ty t = .sl et)
  (hop:o.op = .call { callee:=.builtin .append,args:=#[x,y],argTypes:=#[t,t] }) {ax ay:AV} (hx:b=true→aO E w g st.rt hold ax (a.eval x)) (hy:b=true→aO E w g st.rt hold ay (a.eval y))
  (he:CF E look t et b ax ay=some e):eG P E n st a w g hold o e:=by
 obtain ⟨r,p,t0,R,c,hR,hc,hax,hcond,rfl⟩ : ∃r p t0 R c,look r=some R∧dV E look t et ay=some c∧((ax = .sref t r p∧t0=R.t.get p)∨ax = .alt t r p t0)∧
   ((R.o.get p).own&&((R.o.get p).live&&(R.o.way p&&(leT E (R.o.get p).elem et c.o&&(E.zok et&&(bP c.mv&&c.mv.all fun m=>!Nat.beq m.1 r))))))=true∧
   e=⟨b&&decide (t0.es.length+c.t.es.length≤LIM),true,none,fun _=>⟨.alt t r p (.sl (t0.es++c.t.es)),bY E look c.mv,(r,4) :: bW look c.mv⟩⟩:=by
  unfold CF at he;simp only at he
  split at he
  ·rename_i ty' r p
   split at he
   ·rename_i R hR
    cases hq:Nat.beq t ty' with
    | false=>simp[hq] at he
    | true=>
     have:=Nat.eq_of_beq_eq_true hq;subst this;simp only[hq,cond_true,hR] at he;split at he
     ·rename_i R' c hR' hc
      cases hR';generalize hz:((R.o.get p).own&&((R.o.get p).live&&(R.o.way p&&(leT E (R.o.get p).elem et c.o&&(E.zok et&&(bP c.mv&&c.mv.all fun m=>!Nat.beq m.1 r))))))=z at he
      cases z with
      | false=>simp at he
      | true=>
       simp only[cond_true,Option.some.injEq] at he;exact ⟨r,p,R.t.get p,R,c,hR,hc,.inl ⟨rfl,rfl⟩,hz,he.symm⟩
     ·cases he
   ·cases he
  ·rename_i ty' r p t0
   cases hq:Nat.beq t ty' with
   | false=>simp[hq] at he
   | true=>
    have:=Nat.eq_of_beq_eq_true hq;subst this;simp only[hq,cond_true] at he;split at he
    ·rename_i R c hR hc
     generalize hz:((R.o.get p).own&&((R.o.get p).live&&(R.o.way p&&(leT E (R.o.get p).elem et c.o&&(E.zok et&&(bP c.mv&&c.mv.all fun m=>!Nat.beq m.1 r))))))=z at he
     cases z with
     | false=>simp at he
     | true=>
      simp only[cond_true,Option.some.injEq] at he;exact ⟨r,p,t0,R,c,hR,hc,.inr rfl,hz,he.symm⟩
    ·cases he
  ·cases he
 simp only[Bool.and_eq_true] at hcond;obtain ⟨ho,hlive,hway,hle,hzok,hm,hall⟩:=hcond;refine ⟨rfl,rfl,fun hp=>?_⟩
 simp only[Bool.and_eq_true,decide_eq_true_eq] at hp;obtain ⟨hb,hlim⟩:=hp;have hRs:=hl r R hR;obtain ⟨κ,hsub,hrep,hrel⟩:=wF hP h hRs hs hax (hx hb);obtain ⟨base,cap,hvx,hcap,hT,hbase⟩:=qd hrep (by rfl) hs ho
 obtain ⟨ens,hS⟩:=y8 hP.wf hl h.rts hs hc (hy hb);obtain ⟨AB,capB,hvy,_,_,hCel⟩:=hS.at_;obtain ⟨D,hDr,hD⟩:=rJ g w.heap.size h.bnd r;let es:=ens t0.es.length
 have hes:srcs es=c.mv:=hS.srcs _
 have hm':bP (srcs es)=true:=by rw[hes];exact hm
 have hs' : ∀x∈srcs es,eH E w g st.rt look hold x:=by rw[hes];exact hS.src
 have hne : ∀x∈srcs es,x.1≠r:=by
  intro x hx;rw[hes] at hx;have:=List.all_eq_true.1 hall x hx
  rw[bZ] at this;simpa using this
 let g1:=go es D g
 let g':=pZ D r p (R.o.get p) g1
 have hD1 : ∀b,¬cq es g b→∀q,g1 b≠.at D q:=fun b hb q=>by simp only[g1];rw[bX hb];exact hD b q
 have p1 : ∀b,¬cq es g b→g' b=g b:=fun b hb=>by simp only[g'];rw[mR (hD1 b hb)];exact bX hb
 have p3 : ∀b,g' b≠.free→g b≠.free:=fun b hb=>cE (qD hb)
 have ngr : ∀b q,g b = .at r q→¬cq es g b:=by
  rintro b q hb ⟨e,he,q',hq⟩
  rw[hb] at hq;simp only[Own.at.injEq] at hq;exact hne (e.1,e.2.1) (List.mem_map.2 ⟨e,he,rfl⟩) hq.1.symm
 have ngz : ∀b,g b = .frz→¬cq es g b:=by rintro b hb ⟨e,_,q,hq⟩;rw[hb] at hq;cases hq
 obtain ⟨v,w',hrun,hap⟩:=qQ (g:=g) (a:=a) (o:=o) hP hs hzok hop hvx hcap (olds:=t0.es) rfl (hbase.imp (fun ⟨e1,e2,e3⟩=>⟨e1,by rw[e2];rfl,e3⟩) fun ⟨B,off,e1,_,e3,e4⟩=>
   ⟨B,off,e1,e3,fun i t' hi=>⟨_,_,_,eF hlive,e4 i t' hi⟩⟩) hvy (news:=c.t.es) rfl
  (hCel.imp id fun ⟨aa,e1,e2,e3⟩=>⟨aa,e1,e2,fun i t' hi=>(e3 i t' hi).1⟩) hlim
 obtain ⟨G,k1,k2⟩:=yF hP h hl hR hs hsub ho hlive hway hm' hs' hne p1 p3 hap (olds:=t0.es) (news:=c.t.es) rfl rfl hcap
  (hbase.imp (fun ⟨e1,e2,e3⟩=>⟨e1,by rw[e2];rfl,e3⟩) fun ⟨B,off,e1,e2,e3,e4⟩=>⟨B,off,e1,by rw[p1 B (ngr B p e2),e2],e3,fun i t' hi=>(e4 i t' hi).reloc hP.wf (fun _ _=>rfl) fun b hb=>⟨aP.refl _ _,by
   rcases hb with hb | ⟨q,hb⟩
   ·exact p1 b (ngz b hb)
   ·exact p1 b (ngr b _ hb)⟩⟩)
  (hCel.imp id fun ⟨aa,e1,e2,e3⟩=>⟨aa,e1,fun i t' hi=>by
   have h1:=(e3 i t' hi).2 t0.es.length D g1 (fun b hb=>ez hb) (jT hm')
   exact h1.moveT hP.wf hle (by simpa using (xN D r p (R.o.get p) g1).step (.idx (t0.es.length+i)) (o₁:=(R.o.get p).elem) fun q=>rfl)⟩)
  (fun B o0 n1 c0 off e1 e2=>by rw[hvx,e2] at hrel;exact (hrel B o0 n1 c0 off _ _ e1 rfl).imp Eq.symm id) hd
 refine ⟨.value v,w',v,G,hold,hrun,.inl rfl,k1,fun _ _=>rfl,?_⟩
 rw[hes,tY hRs (fun hm=>by obtain ⟨q,hq⟩:=fH.1 hm;exact hne (r,q) (by rw[hes];exact hq) rfl)] at k2
 exact k2
end
section
variable {P:Program} {E:Env} {n:Nat} {st:St} {a:Act} {w:World} {g:Gh} {hold:Nat→aE} {look:Nat→Option Rt} {o:Oper} {b:Bool}
theorem BH {t:T} (h:vq t=true):t = .sl []:=by
 unfold vq at h;split at h
 ·rfl
 ·cases h
theorem AZ (hP:ba P E) (h:Inv E n st a w g hold) (hl : ∀r R,look r=some R→st.rt r=some R) (hd : ∀x,o.dst=some x→x < n) {t et:Nat} {x y:Operand} {e:Eff} (hs:E.ty t = .sl et)
  (hop:o.op = .call { callee:=.builtin .append,args:=#[x,y],argTypes:=#[t,t] }) {ax ay:AV} (hx:b=true→aO E w g st.rt hold ax (a.eval x)) (hy:b=true→aO E w g st.rt hold ay (a.eval y))
  (he:wK E look t et b ax ay=some e):eG P E n st a w g hold o e:=by
 unfold wK at he;split at he
 rotate_left
 ·cases he
 rename_i ty1 r1 ty2 r p
 split at he
 rotate_left
 ·cases he
 rename_i R1 R hR1 hR
 generalize hz:(!p.isEmpty&&(Nat.beq t ty1&&(Nat.beq t ty2&&(Nat.beq R1.ty t&&(!R1.box&&(R1.o.own&&(R1.o.live&&(vq R1.t&&(!Nat.beq r1 r&&((R.o.get p).own&&((R.o.get p).live&&(R.o.way p&&E.zok et))))))))))))=z at he
 cases z with
 | false=>simp at he
 | true=>
  simp only[cond_true,Option.some.injEq] at he;subst he;simp only[Bool.and_eq_true,Bool.not_eq_true'] at hz;obtain ⟨_,c1,c2,c3,c4,c5,c6,c7,c8,ho,hlive,hway,hzok⟩:=hz;have:=Nat.eq_of_beq_eq_true c1;subst this;have:=Nat.eq_of_beq_eq_true c2;subst this;have hr1:r1≠r:=by rw[bZ] at c8;simpa using c8
  have hT1:=BH c7;refine ⟨rfl,rfl,fun hp=>?_⟩
  simp only[Bool.and_eq_true,decide_eq_true_eq] at hp;obtain ⟨hb,hlim⟩:=hp;have hRs:=hl r R hR;have hRs1:=hl r1 R1 hR1;obtain ⟨κ1,hsub1,hrep1,_⟩:=wF hP h hRs1 hs (.inl ⟨rfl,rfl⟩) (hx hb);obtain ⟨κ,hsub,hrep,hrel⟩:=wF hP h hRs hs (.inl ⟨rfl,rfl⟩) (hy hb);obtain ⟨base,cap,hvx,hcap,_,hbase⟩:=qd hrep1 (by rfl) hs (by simpa[O.get] using c5)
  obtain ⟨AB,capB,hvy,hcapB,_,hCel⟩:=qd hrep (by rfl) hs ho
  have hes0:(R1.t.get []).es = []:=by rw[show R1.t.get []=R1.t from rfl,hT1];rfl
  rw[hes0] at hvx hcap;obtain ⟨D,hDr,hD⟩:=rJ g w.heap.size h.bnd r;let es:List Ent:=dk [] (.sref t r1 [])
  have hm':bP (srcs es)=true:=by simp[es,dk,srcs,bP]
  have hs' : ∀x∈srcs es,eH E w g st.rt look hold x:=by
   intro x hx;simp only[es,dk,srcs,List.map_cons,List.map_nil,List.mem_singleton] at hx;subst hx;exact ⟨⟨R1,t,et,κ1,hR1,hRs1,hs,hsub1,by simp[O.get,c5],by simpa[O.get] using c6,rfl⟩⟩
  have hne : ∀x∈srcs es,x.1≠r:=by
   intro x hx;simp only[es,dk,srcs,List.map_cons,List.map_nil,List.mem_singleton] at hx;subst hx;exact hr1
  let g1:=go es D g
  let g':=pZ D r p (R.o.get p) g1
  have hD1 : ∀b,¬cq es g b→∀q,g1 b≠.at D q:=fun b hb q=>by simp only[g1];rw[bX hb];exact hD b q
  have p1 : ∀b,¬cq es g b→g' b=g b:=fun b hb=>by simp only[g'];rw[mR (hD1 b hb)];exact bX hb
  have p3 : ∀b,g' b≠.free→g b≠.free:=fun b hb=>cE (qD hb)
  have ngr : ∀b q,g b = .at r q→¬cq es g b:=by
   rintro b q hb ⟨e,he,q',hq⟩
   rw[hb] at hq;simp only[Own.at.injEq] at hq;exact hne (e.1,e.2.1) (List.mem_map.2 ⟨e,he,rfl⟩) hq.1.symm
  have ngz : ∀b,g b = .frz→¬cq es g b:=by rintro b hb ⟨e,_,q,hq⟩;rw[hb] at hq;cases hq
  have hfzO:(R.o.get p).isFz=false:=by
   cases hq:(R.o.get p).isFz with
   | false=>rfl
   | true=>rw[wS hq] at ho;simp[O.own] at ho
  have tag1 : ∀B,g B = .at r1 []→g' B = .at r p:=by
   intro B hB;have h1:g1 B = .at D []:=by
    have:=jT (d:=D) (g:=g) hm' (r1,[],fun q=>[]++q) (by simp[es,dk]) B [] (by simpa using hB)
    simpa using this
   simp only[g',pZ,h1,if_true,O.get,hfzO];simp
  obtain ⟨v,w',hrun,hap⟩:=qQ (g:=g) (g2:=g) (a:=a) (o:=o) hP hs hzok hop (n0:=0) (by simpa using hvx) (Nat.zero_le _) (olds:=[]) rfl
   (hbase.imp (fun ⟨e1,_,e3⟩=>⟨e1,rfl,e3⟩) fun ⟨B,off,e1,_,e3,_⟩=>⟨B,off,e1,e3,fun i t' hi=>by simp at hi⟩) hvy (news:=(R.t.get p).es) rfl
   (hCel.imp (fun ⟨_,e2,_⟩=>e2) fun ⟨B,off,e1,e2,e3,e4⟩=>⟨⟨B,off,none⟩,e1,rfl,fun i t' hi=>⟨_,_,_,eF hlive,e4 i t' hi⟩⟩) (by rw[Nat.zero_add];exact hlim)
  obtain ⟨G,k1,k2⟩:=yF hP h hl hR hs hsub ho hlive hway hm' hs' hne p1 p3 hap (olds:=[]) (news:=(R.t.get p).es) rfl rfl (Nat.zero_le _)
   (hbase.imp (fun ⟨e1,_,e3⟩=>⟨e1,rfl,e3⟩) fun ⟨B,off,e1,e2,e3,_⟩=>⟨B,off,e1,tag1 B e2,e3,fun i t' hi=>by simp at hi⟩)
   (hCel.imp (fun ⟨_,e2,_⟩=>e2) fun ⟨B,off,e1,e2,e3,e4⟩=>⟨⟨B,off,none⟩,e1,fun i t' hi=>by
    rw[Nat.zero_add];exact (e4 i t' hi).reloc hP.wf (fun _ _=>rfl) fun b hb=>⟨aP.refl _ _,by
     rcases hb with hb | ⟨q,hb⟩
     ·exact p1 b (ngz b hb)
     ·exact p1 b (ngr b _ hb)⟩⟩)
   (fun B o0 n1 c0 off e1 e2=>by
    exfalso
    obtain ⟨base',cap',hvv,_,_,hbb⟩:=qd (eS (h.rts r R hRs) hsub) e1 hs ho;have hBr:g B = .at r p:=by
     rcases hbb with ⟨rfl,_,_⟩ | ⟨B',off',rfl,q2,_,_⟩
     ·cases hvv
     ·simp only[Value.slice.injEq,Option.some.injEq,Addr.mk.injEq] at hvv;rw[hvv.1.1];exact q2
    rcases hbase with ⟨q1,_,_⟩ | ⟨B',off',q1,q2,_,_⟩
    ·rw[q1] at e2;cases e2
    ·rw[q1] at e2;cases e2;rw[q2] at hBr;simp only[Own.at.injEq] at hBr;exact hr1 hBr.1) hd
  exact ⟨.value v,w',v,G,hold,hrun,.inl rfl,k1,fun _ _=>rfl,by rwa [tY hRs (fun hm=>by obtain ⟨q,hq⟩:=fH.1 hm;simp[es,dk,srcs] at hq;exact hr1 hq.1.symm)] at k2⟩
end
section
variable {P:Program} {E:Env} {n:Nat} {st:St} {a:Act} {w:World} {g:Gh} {hold:Nat→aE} {look:Nat→Option Rt} {o:Oper} {b:Bool}
theorem yH (hP:ba P E) (h:Inv E n st a w g hold) (hl : ∀r R,look r=some R→st.rt r=some R) (hd : ∀x,o.dst=some x→x < n) {t et d:Nat} {x y:Operand} {e:Eff} (hs:E.ty t = .sl et)
  (hop:o.op = .call { callee:=.builtin .append,args:=#[x,y],argTypes:=#[t,t] }) {ax ay:AV} (hx:b=true→aO E w g st.rt hold ax (a.eval x)) (hy:b=true→aO E w g st.rt hold ay (a.eval y))
  (hd9:d < 100000) (he:sA E look d t et b ax ay=some e):eG P E n st a w g hold o e:=by
 have hE:=hP.wf;unfold sA at he;split at he
 rotate_left
 ·cases he
 rename_i ty' r' a0 c hc
 generalize hz:(Nat.beq t ty'&&(c.o.own&&((E.flat et||c.o.elem.isFz)&&(bP c.mv&&(E.zok et&&(!Nat.beq r' d&&((sn E look et a0).isSome&&c.mv.all fun m=>!Nat.beq m.1 r')))))))=z at he
 cases z with
 | false=>simp at he
 | true=>
  simp only[cond_true,Option.some.injEq] at he;subst he;simp only[Bool.and_eq_true] at hz;obtain ⟨c1,hown,hel,hm,hzok,hrd,hsn,hall⟩:=hz;have:=Nat.eq_of_beq_eq_true c1;subst this;refine ⟨rfl,rfl,fun hp=>?_⟩
  simp only[Bool.and_eq_true,decide_eq_true_eq] at hp;obtain ⟨hb,hlim⟩:=hp;obtain ⟨ta,hta⟩:=Option.isSome_iff_exists.1 hsn;have hr'd:r'≠d:=by simpa[bZ] using hrd
  obtain ⟨hshv,hen,hsrcA,hrepA⟩:=jh hE hl h.rts hc (hx hb);have hlive:=gG hc;let es:=dk [] ax
  have hes:srcs es=c.mv:=hen []
  have hm':bP (srcs es)=true:=by rw[hes];exact hm
  have hs' : ∀x∈srcs es,eH E w g st.rt look hold x:=by rw[hes];exact hsrcA
  let g1:=go es d g
  have htk:Tks es d g g1:=jT hm'
  have hRA:=hrepA d [] g1 (fun b hb=>ez hb) htk
  rw[MA hs hshv] at hRA;obtain ⟨base,cap,hvx,hcap,hT,hbase⟩:=qd hRA (by rfl) hs hown
  have ngr' : ∀b q,g b = .at r' q→¬cq es g b:=by
   rintro b q hb ⟨e,he,q',hq⟩
   rw[hb] at hq;simp only[Own.at.injEq] at hq;have:=List.all_eq_true.1 hall (e.1,e.2.1) (by rw[← hes];exact List.mem_map.2 ⟨e,he,rfl⟩)
   rw[bZ] at this;simp[hq.1] at this
  have ngf : ∀b,g b = .free∨g b = .frz→¬cq es g b:=by rintro b hb ⟨e,_,q,hq⟩;rcases hb with hb | hb <;> rw[hb] at hq <;> cases hq
  have hy:=hy hb;generalize hvy:a.eval y=vy at hy
  cases hy with
  | @row _ e2 _ _ _ va by_ oy cy R' a1 a2 a3 a4 a5 a6 a7 a8 a9=>
   rw[hs] at a2;cases a2;let g2:Gh:=fun b=>match g b with | .free=>.free | _=>.frz
   have g2f : ∀b,g b≠.free→g2 b = .frz:=fun b hb=>by
    cases hq:g b with
    | free=>exact absurd hq hb
    | frz=>simp only[g2,hq]
    | «at» r q=>simp only[g2,hq]
    | hd r=>simp only[g2,hq]
   have hela:=(CA hE hl h.rts (g':=g2) (fun b hb=>g2f b (by rw[hb];simp)) hta a8 (fun r _ b q hb=>g2f b (by rw[hb];simp))).1
   have hz0:(T.sl []).es.length=0:=rfl
   have hlies:Lies E w g2 et ta (.mem by_ (oy+0 * E.sz et)):=⟨.fz,0,[],rfl,hela.place hE fun k hk=>by
    simp only[aE.add,rd,Nat.zero_add];have:=a9 k hk
    rw[hz0] at this;rw[this];simp⟩
   obtain ⟨v,w',hrun,hap⟩:=qQ (g:=g1) (g2:=g2) (a:=a) (o:=o) hP hs hzok hop hvx hcap (olds:=c.t.es) rfl
    (hbase.imp (fun ⟨e1,e2,e3⟩=>⟨e1,by rw[e2];rfl,e3⟩) fun ⟨B,off,e1,_,e3,e4⟩=>⟨B,off,e1,e3,fun i t' hi=>⟨_,_,_,eF hlive,e4 i t' hi⟩⟩) (m:=1) (by rw[hvy];rfl) (news:=[ta]) rfl
    (.inr ⟨⟨by_,oy,none⟩,rfl,rfl,fun i t' hi=>by
     cases i with
     | zero=>simp at hi;subst hi;exact hlies
     | succ i=>simp at hi⟩) hlim
   let hold':Nat→aE:=fun r=>if r=d then .reg [v] 0 else hold r
   let R1:Rt:=⟨t,c.t,.dead,false⟩
   have hh : ∀r,r≠d→hold' r=hold r:=fun r hr=>by simp[hold',hr]
   have elem_fz : ∀{t':T} {q:List aH} {κ κ':aE} {G:Gh},Rep E w g1 et t' c.o.elem d q κ→(∀b,g1 b = .frz→aP w w' b∧G b = .frz)→(∀k,k < E.sz et→rd w' (κ'.add k)=rd w (κ.add k))→Rep E w' G et t' .fz 0 [] κ':=by
    intro t' q κ κ' G hr hfz hk;cases hfl:E.flat et with
    | true=>exact hr.flat hE (eF hlive) hfl hk
    | false=>
     have hof:c.o.elem = .fz:=wS (by simpa[hfl] using hel)
     rw[hof] at hr;let g3:Gh:=fun b=>match g1 b with | .frz=>.frz | _=>.free
     have g3z : ∀b,g3 b = .frz→g1 b = .frz:=fun b hb=>by cases hq:g1 b <;> simp[g3,hq] at hb ⊢
     have g3a : ∀b r q,g3 b≠.at r q:=fun b r q hb=>by cases hq:g1 b <;> simp[g3,hq] at hb
     have hr3:Rep E w g3 et t' .fz d q κ:=hr.frozen rfl (fun b hb=>by simp only[g3,hb]) _ _
     have:Rep E w' G et t' .fz d q κ':=by
      have h5:Rep E w' g3 et t' .fz d q κ':=hr3.reloc hE hk fun b hb=>by
       rcases hb with hb | ⟨q',hb⟩
       ·exact ⟨(hfz b (g3z b hb)).1,rfl⟩
       ·exact absurd hb (g3a b _ _)
      exact h5.frozen rfl (fun b hb=>(hfz b (g3z b hb)).2) _ _
     exact this.frozen rfl (fun _ h=>h) _ _
   have fin : ∀(G:Gh) (B x0 Gc:Nat),v = .slice (some ⟨B,x0,none⟩) (c.t.es.length+1) Gc→c.t.es.length+1≤Gc→G B = .at d []→ch w' B (x0+Gc * E.sz et)→
     (∀b,g b≠.free→¬cq es g b→(∀q,g b≠.at d q)→aP w w' b∧G b=g b)→(∀b,G b≠.free→b < w'.heap.size)→
     (w'.os=w.os∧w'.tape=w.tape∧w'.output=w.output∧w.heap.size≤w'.heap.size)→(∀b,b < w.heap.size→(g b = .free∨g b = .frz)→w'.heap[b]?=w.heap[b]?∧G b=g b)→
     (∀(i:Nat) (t':T),c.t.es[i]?=some t'→Rep E w' G et t' .fz 0 [] (.mem B (x0+i * E.sz et)))→
     (∀k,k < E.sz et→w'.cell? ⟨B,x0+c.t.es.length * E.sz et+k,none⟩=va.cells[k]?)→
     Does P E n st a w g hold o ⟨.row t d c.t (a0.cut ((d,0) :: bW look c.mv)),(d,some R1) :: bY E look c.mv,(d,0) :: bW look c.mv⟩:=by
    intro G B x0 Gc f1 f2 f3 f4 f5 f6 f7 f8 f9 f10;have hu : ∀b,g b≠.free→¬cq es g b→g b≠.hd d→(∀q,g b≠.at d q)→aP w w' b∧G b=g b:=fun b h1 h2 _ h4=>f5 b h1 h2 h4
    have hfz : ∀b,g b = .frz→aP w w' b∧G b = .frz:=fun b hb=>by
     obtain ⟨k1,k2⟩:=f5 b (by rw[hb];simp) (ngf b (.inr hb)) (by rw[hb];simp)
     exact ⟨k1,by rw[k2,hb]⟩
    have hroot:dF E w' G hold' d R1:=⟨.dead,fun hb=>(by cases hb),fun _=>⟨[v],by simp[hold']⟩⟩
    have hcarr:=mV (look:=look) (es:=es) (Rd:=some R1) (kd:=0) (w':=w') (g':=G) (hold':=hold') (d:=d) hE h hl hm' hs' hu hh (.inl rfl)
    have hsurv:=hU.of hE h.rts hcarr;have hinv:=kg (look:=look) (es:=es) (Rd:=some R1) (kd:=0) (w':=w') (g':=G) (hold':=hold') (d:=d) (dst:=o.dst) (av:=.row t d c.t (a0.cut ((d,0) :: bW look c.mv))) (v:=v) (a:=a)
     hE h hl hm' hs' hd hu hh (fun R hR=>by cases hR;exact hroot) f6 (.inl rfl) (fun _=>by
      rw[f1];refine .row (R:=R1) dj hs f2 f3 f4 f9 a7 ?_ f10;have:=a8.cut hE hfz hsurv
      rw[hes] at this ⊢;exact this)
    rw[hes] at hinv;exact ⟨.value v,w',v,G,hold',hrun,.inl rfl,⟨f7.1,f7.2.1,f7.2.2.1,f7.2.2.2,f8⟩,fun r hr=>hh r (by omega),hinv⟩
   have hmul : ∀{i N k:Nat},i < N→k < E.sz et→i * E.sz et+k < N * E.sz et:=by
    intro i N k h1 h2;have:(i+1) * E.sz et≤N * E.sz et:=Nat.mul_le_mul_right _ h1
    rw[Nat.succ_mul] at this;omega
   have hya : ∀k,k < E.sz et→w.cell? ⟨by_,oy+0 * E.sz et+k,none⟩=va.cells[k]?:=fun k hk=>by have:=a9 k hk;rw[hz0] at this;exact this
   cases hap with
   | @grown cells Gc hG hcs hco hcn=>
    have hgr:=Gr.drew w cells et;let G:Gh:=fun b=>if b=w.heap.size then .at d [] else g1 b
    have old : ∀b,b < w.heap.size→G b=g1 b:=fun b hb=>if_neg (by omega)
    refine fin G w.heap.size 0 Gc rfl hG (by simp[G]) (by simpa using hgr.blk (by rw[hcs];omega)) (fun b h1 h2 _=>?_) (fun b hb=>?_) ⟨hgr.os,hgr.tape,hgr.output,by rw[hgr.size];omega⟩
     (fun b hb hf=>⟨hgr.old hb,by rw[old b hb];exact bX (ngf b hf)⟩) (fun i t' hi=>?_) fun k hk=>?_
    ·have:=h.bnd b h1
     exact ⟨hgr.same this,by rw[old b this];exact bX h2⟩
    ·rw[hgr.size];by_cases hbb:b=w.heap.size
     ·omega
     ·have:g1 b≠.free:=by simpa[G,hbb] using hb
      have:=h.bnd b (cE this);omega
    ·rcases hbase with ⟨_,e2,_⟩ | ⟨B,off,e1,_,_,e4⟩
     ·rw[e2] at hi;simp at hi
     ·refine elem_fz (e4 i t' hi) (fun b hb=>?_) fun k hk=>?_
      ·have:=h.bnd b (cE (es:=es) (d:=d) (by show g1 b≠.free;rw[hb];simp))
       exact ⟨hgr.same this,by rw[old b this,hb]⟩
      ·simp only[aE.add,rd,Nat.zero_add];rw[hgr.cell,hco i (List.getElem?_eq_some_iff.1 hi).1 B off e1 k hk]
    ·rw[Nat.zero_add,hgr.cell];have:=hcn 0 (by omega) _ rfl k hk
     rw[Nat.add_zero] at this;rw[this];exact hya k hk
   | nothing h1=>omega
   | @room B off vals hbs hge hvl hvc=>
    subst hbs;rcases hbase with ⟨e1,_⟩ | ⟨B',off',e1,hBt,hBb,he4⟩
    ·cases e1
    simp only[Option.some.injEq,Addr.mk.injEq,and_true] at e1;obtain ⟨rfl,rfl⟩:=e1;let w2:=w.setCells B (off+c.t.es.length * E.sz et) vals
    obtain ⟨z1,z2,z3,z4⟩:=gL B vals (off+c.t.es.length * E.sz et) w;have hBn:g B≠.free:=cE (es:=es) (d:=d) (by show g1 B≠.free;rw[hBt];simp)
    have hBf:g B≠.frz:=fun hf=>by have:g1 B = .frz:=ez hf;rw[this] at hBt;cases hBt
    have hother : ∀b,b < w.heap.size→b≠B→w2.heap[b]?=w.heap[b]?:=fun b hb hne=>World.heap_setCells_other w B _ vals hb hne
    have hsame : ∀b,g b≠.free→b≠B→aP w w2 b:=fun b hb hne=>.of_heap (hother b (h.bnd b hb) hne)
    refine fin g1 B off cap rfl hge hBt (fO B _ vals _ w hBb) (fun b h1 h2 h3=>⟨hsame b h1 ?_,bX h2⟩) (fun b hb=>by rw[z1];exact h.bnd b (cE hb)) ⟨z2,z3,z4,by rw[z1];exact Nat.le_refl _⟩
     (fun b hb hf=>⟨hother b hb ?_,bX (ngf b hf)⟩) (fun i t' hi=>?_) fun k hk=>?_
    ·rintro rfl
     have:g1 b=g b:=bX h2
     rw[hBt] at this;exact h3 [] this.symm
    ·rintro rfl;rcases hf with hf | hf;exact hBn hf;exact hBf hf
    ·refine elem_fz (he4 i t' hi) (fun b hb=>⟨hsame b (cE (es:=es) (d:=d) (by show g1 b≠.free;rw[hb];simp)) ?_,hb⟩) fun k hk=>?_
     ·rintro rfl;rw[hBt] at hb;cases hb
     ·simp only[aE.add,rd];refine World.cell?_setCells_out B vals _ w _ fun _ _=>.inl ?_
      have:=hmul (List.getElem?_eq_some_iff.1 hi).1 hk
      simp only;omega
    ·have hlt:k < vals.length:=by rw[hvl];simpa using hk
     have hszle:(c.t.es.length+1) * E.sz et≤cap * E.sz et:=Nat.mul_le_mul_right _ hge
     have:=World.cell?_setCells_in B vals (off+c.t.es.length * E.sz et) w (fun j hj=>iO hBb (by rw[hvl] at hj;rw[Nat.add_mul] at hszle;omega)) k hlt
     rw[this,← List.getElem?_eq_getElem hlt,← hya k hk];have h7:=hvc 0 (by omega) _ rfl k hk
     simpa using h7
end
end Go.Proofs.YtdcnobhlknjnoaaGreatDoor.Ra
