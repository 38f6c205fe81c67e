/- A verified evaluator for the program, part Ra3 of this claim. -/
import Derived.Test.YtdcnobhlknjnoaaGreatDoorTRa2
import Derived.KernelRfl
import Derived.Carry
import Derived.ChangeArms
import Derived.OpenShut
set_option linter.unusedSimpArgs false
set_option linter.unusedVariables false
namespace Go.Proofs.YtdcnobhlknjnoaaGreatDoor.Ra
open Go Go.RowKit
theorem By {E:Env} {op:BinOp} {rty xty:Nat} {b:Bool} {x y:AV} {e:Eff} (h:sH E op rty xty b x y=some e) : ∃p av,one p av=some e:=by
 unfold sH at h;split at h
 ·split at h
  ·split at h
   ·cases hb:cT E rty <;> rw[hb] at h <;> simp only[cond_true,cond_false] at h
    ·cases h
    ·exact ⟨_,_,h⟩
   ·rename_i k _ _ _ _ _ _ _ _
    cases hb:Nat.beq rty xty <;> rw[hb] at h <;> simp only[cond_true,cond_false] at h
    ·cases h
    ·exact ⟨_,_,h⟩
   ·cases h
  ·split at h
   ·cases hb:cT E rty <;> rw[hb] at h <;> simp only[cond_true,cond_false] at h
    ·cases h
    ·exact ⟨_,_,h⟩
   ·cases hb:Nat.beq rty xty <;> rw[hb] at h <;> simp only[cond_true,cond_false] at h
    ·cases h
    ·exact ⟨_,_,h⟩
   ·cases h
  ·cases hb:cT E rty <;> rw[hb] at h <;> simp only[cond_true,cond_false] at h
   ·cases h
   ·split at h
    ·exact ⟨_,_,h⟩
    ·exact ⟨_,_,h⟩
    ·cases h
  ·rename_i fs _
   cases hb:cT E rty&&fs.all (CG E) <;> rw[hb] at h <;> simp only[cond_true,cond_false] at h
   ·cases h
   ·split at h
    ·exact ⟨_,_,h⟩
    ·exact ⟨_,_,h⟩
    ·cases h
  ·cases h
 ·cases h
section
variable {P:Program} {E:Env} {n:Nat} {st:St} {a:Act} {w:World} {g:Gh} {hold:Nat→aE} {look:Nat→Option Rt} {o:Oper}
theorem yY (hP:ba P E) (hF:de P E) (h:Inv E n st a w g hold) (hl : ∀r R,look r=some R→st.rt r=some R) (hd : ∀x,o.dst=some x→x < n) (hn:n≤1000) {fi:Fi}
  {ρ:Operand→AV} (hρ : ∀x,aO E w g st.rt hold (ρ x) (a.eval x)) {C:aF} (hC:O7 P E C) {e:Eff} (he:tC fi E look ρ o=some e) :
  eG P E n st a w g hold o e∨qw P E n st a w g hold C o e:=by
 have hd9:o.dst.getD 999 < 100000:=by
  cases hdd:o.dst with
  | none=>simp
  | some x=>exact Nat.lt_of_lt_of_le (hd x hdd) (by omega)
 have hs : ∀x,(bK (ρ x)).1=true→aO E w g st.rt hold (bK (ρ x)).2 (a.eval x):=fun x hx=>fV (hρ x) hx
 have hs2 : ∀x y,((bK (ρ x)).1&&(bK (ρ y)).1)=true→aO E w g st.rt hold (bK (ρ x)).2 (a.eval x):=fun x y hx=>hs x (by simp only[Bool.and_eq_true] at hx;exact hx.1)
 have hs3 : ∀x y,((bK (ρ x)).1&&(bK (ρ y)).1)=true→aO E w g st.rt hold (bK (ρ y)).2 (a.eval y):=fun x y hx=>hs y (by simp only[Bool.and_eq_true] at hx;exact hx.2)
 have Y : ∀{e:Eff},fC P E st a w g hold o e→eG P E n st a w g hold o e∨qw P E n st a w g hold C o e:=fun hy=>.inl (hy.acts hP.wf h hd)
 unfold tC at he;simp only at he
 split at he
 ·rename_i x hop;exact Y (move_ok hP.wf hop (hs x) he)
 ·rename_i x hop;exact .inl (Bv hP h hl hd hop (hs x) hd9 he)
 ·rename_i c x y hop;exact Y (pick_ok hP hop (hs c) (hs x) (hs y) he)
 ·rename_i t hop
  cases hz:E.zok t with
  | false=>rw[hz] at he;cases he
  | true=>rw[hz,cond_true] at he;exact .inl (alloc_ok hP h hd hop hz hd9 he)
 ·rename_i t x hop
  cases hz:bN E t with
  | false=>rw[hz] at he;cases he
  | true=>
   rw[hz,cond_true] at he;cases hpin:mem (o.dst.getD 999) fi.pin with
   | true=>rw[hpin,cond_true] at he;exact .inl (pin_ok hP h hd hop hz (hs x) he)
   | false=>rw[hpin,cond_false] at he;exact .inl (box_ok hP h hl hd hop (hs x) hd9 he)
 ·rename_i t ps hop;exact Y (build_ok hP hop hρ he)
 ·rename_i t k ps hop
  cases hr:mem (o.dst.getD 999) fi.row with
  | true=>exact .inl (A5 hP h hd hop hρ hd9 hr he)
  | false=>exact .inl (yb hP h hl hd hop hρ hd9 hr he)
 ·rename_i t x hop
  cases hz:bN E t with
  | false=>rw[hz] at he;cases he
  | true=>
   rw[hz,cond_true] at he;cases hln:mem (o.dst.getD 999) fi.lens with
   | true=>
    rw[hln,cond_true] at he;exact Y (Bk hP h hop hl (hs x) hz he)
   | false=>
   rw[hln,cond_false] at he;split at he
   ·rename_i e' he'
    cases he;exact .inl (BN hP h hl hd hop (hs x) hz he')
   ·exact Y (load_ok hP h hop hl (hs x) hz he)
 ·rename_i t x y hop
  cases hz:(bN E t&&o.dst.isNone) with
  | false=>rw[hz] at he;cases he
  | true=>
   rw[hz,cond_true] at he;simp only[Bool.and_eq_true,Option.isNone_iff_eq_none] at hz;exact .inl (store_ok hP h hl hz.2 hop (hs2 x y) (hs3 x y) hz.1 he)
 ·rename_i x hop;exact Y (nil_ok hop (hs x) he)
 ·rename_i op t x y m hop
  obtain ⟨p,av,hone⟩:=By he;refine Y (.mk hone fun hp=>?_)
  have hep:e.pre=true:=by simp only[one,Option.some.injEq] at hone;subst hone;exact hp
  obtain ⟨av',v,_,h2,h3,h4⟩:=Bx hP x y he hep (hs2 x y) (hs3 x y);have:av'=av:=by simp only[one,Option.some.injEq] at hone;subst hone;simp only[Upd.mk.injEq] at h2;exact h2.1.symm
  subst this;exact ⟨v,by simp only[execOp,hop];exact xY _ _ h3,h4⟩
 ·rename_i op t x hop;exact Y (un_ok hP hop (hs x) he)
 ·rename_i s t x hop;exact Y (conv_ok hP h hl hop (hs x) he)
 ·rename_i f fs cs hop;exact Y (func_ok hP hop hρ he)
 ·rename_i t l c hop;exact .inl (zu hP h hd hop (hs2 l c) (hs3 l c) hd9 he)
 ·rename_i t x lo hi mx hop;exact Y (slice_ok hP h hl hρ hop (hs x) he)
 ·rename_i t x j hop;exact Y (Tz hP h hop (hs x) he)
 ·rename_i t x j hop;exact Y (field_ok hP hop (hs x) he)
 ·rename_i t x i hop
  split at he
  ·rename_i et bb j hsl hbn
   have hty:E.ty t = .sl et:=by unfold isSl at hsl;split at hsl <;> simp_all
   cases hbb:((bK (ρ x)).1&&((bK (ρ i)).1&&bb)) with
   | false=>
    rw[hbb] at he;exact Y (sX (b:=false) (k:=.i64) hP h hop hl (fun hb=>by cases hb) hty (fun hb=>by cases hb) he)
   | true=>
    rw[hbb] at he;simp only[Bool.and_eq_true] at hbb;obtain ⟨k,hk⟩:=sI hP.wf hbn hbb.2.2 (hs i hbb.2.1);exact Y (sX hP h hop hl (fun _=>hs x hbb.1) hty (fun _=>hk) he)
  ·cases he
 ·rename_i t x i hop;exact Y (index_ok hP hop (hs2 x i) (hs3 x i) he)
 ·rename_i x j hop;exact Y (Bd hop (hs x) he)
 ·rename_i c hop
  obtain ⟨callee,xs,tys⟩:=c;simp only at he
  have lst : ∀{x:Operand},xs.toList = [x]→xs = #[x]:=fun h=>by apply Array.ext';simpa using h
  have lst2 : ∀{x y:Operand},xs.toList = [x,y]→xs = #[x,y]:=fun h=>by apply Array.ext';simpa using h
  have all:(xs.toList.all fun x=>(bK (ρ x)).1)=true→∀(k:Nat) (av:AV) (x:Operand),(xs.toList.map fun x=>(bK (ρ x)).2)[k]?=some av→xs[k]?=some x→aO E w g st.rt hold av (a.eval x):=by
   intro hall k av x h1 h2;have h2':xs.toList[k]?=some x:=by simpa using h2
   rw[List.getElem?_map,h2'] at h1;simp only[Option.map_some,Option.some.injEq] at h1;subst h1;exact hs x (List.all_eq_true.1 hall x (List.mem_of_getElem? h2'))
  split at he
  ·split at he
   ·rename_i x t hx ht
    have e1:=lst hx;have e2:tys = #[t]:=by apply Array.ext';simpa using ht
    subst e1;subst e2;exact Y (len_ok hP h hl hop (hs x) he)
   ·cases he
  ·split at he
   ·rename_i x y t u hx ht
    have e1:=lst2 hx;have e2:tys = #[t,u]:=by apply Array.ext';simpa using ht
    subst e1;subst e2;cases hb:Nat.beq t u with
    | false=>rw[hb] at he;cases he
    | true=>
     rw[hb,cond_true] at he;have:=Nat.eq_of_beq_eq_true hb;subst this;cases hal:mem (o.dst.getD 999) fi.alt with
     | true=>
      unfold ra at he;split at he
      ·cases he
      rename_i et hs0
      have hsl:E.ty t = .sl et:=by unfold isSl at hs0;split at hs0 <;> simp_all
      rw[hal,cond_true] at he;split at he
      ·rename_i e' he'
       cases he;exact .inl (AZ hP h hl hd hsl hop (hs2 x y) (hs3 x y) he')
      ·exact .inl (yG hP h hl hd hsl hop (hs2 x y) (hs3 x y) he)
     | false=>
      cases hro:mem (o.dst.getD 999) fi.row with
      | true=>
       unfold ra at he;split at he
       ·cases he
       rename_i et hs0
       have hsl:E.ty t = .sl et:=by unfold isSl at hs0;split at hs0 <;> simp_all
       rw[hal,cond_false,hro,cond_true] at he;exact .inl (yH hP h hl hd hsl hop (hs2 x y) (hs3 x y) hd9 he)
      | false=>exact .inl (Bu hP h hl hd hop (hs2 x y) (hs3 x y) hd9 hal hro he)
   ·cases he
  ·split at he
   ·rename_i x y hx
    have e1:=lst2 hx;subst e1;exact Y (mx_ok (mx:=true) hP hop (hs2 x y) (hs3 x y) he)
   ·cases he
  ·split at he
   ·rename_i x y hx
    have e1:=lst2 hx;subst e1;exact Y (mx_ok (mx:=false) hP hop (hs2 x y) (hs3 x y) he)
   ·cases he
  ·rename_i f
   split at he
   ·rename_i g' hg
    generalize hfv:(aJ fi.var (o.dst.getD 999)).getD f=fv at hg he
    cases hsr:Nat.beq (E.src fv) f with
    | false=>rw[hsr] at he;cases he
    | true=>
    rw[hsr,cond_true] at he;have:=Nat.eq_of_beq_eq_true hsr;subst this;cases hcl:g'.clip with
    | true=>rw[hcl,cond_true] at he;exact .inr (clip_ok hP hF h hl hd hg hcl hop (by simp) all he)
    | false=>
     rw[hcl,cond_false] at he;have hw:nh P E fv { g' with rets:=weakR fi (o.dst.getD 999) g'.params.length g'.rets } (C fv):=by
      unfold weakR;split
      ·rename_i ty oo _ hrs
       cases hb:oo.live&&decide (g'.params.length < 1000) with
       | false=>rw[cond_false];exact hC fv g' hg
       | true=>
        rw[cond_true];simp only[Bool.and_eq_true,decide_eq_true_eq] at hb;exact (hC fv g' hg).weak hrs hb.1 hb.2
      ·exact hC fv g' hg
     exact .inr (callM_ok (fi:={ g' with rets:=weakR fi (o.dst.getD 999) g'.params.length g'.rets }) hP hF h hl hd hg hw hop (by simp) all he)
   ·cases he
  ·rename_i x _
   split at he
   ·rename_i ty t hst
    refine .inr (callV_ok hP hF h hl hd hC hop (by simp) (fun hb=>?_) (fun hb=>all (by simp only[Bool.and_eq_true] at hb;exact hb.2)) he)
    simp only[Bool.and_eq_true] at hb;rw[← hst];exact hs x hb.1
   ·cases he
  ·cases he
 ·cases he
end
theorem AY {α:Type} (l:List α):condL true l=l:=by cases l <;> rfl
theorem A6 {α:Type} (l:List α):condL false l = []:=by cases l <;> rfl
section
variable {P:Program} {E:Env} {n:Nat} {st:St} {a:Act} {w:World} {g:Gh} {hold:Nat→aE} {look:Nat→Option Rt} {o:Oper}
theorem Inv.regd {w':World} {g':Gh} {hold':Nat→aE} {dst:Option Nat} {u:Upd} {v:Value} (hd : ∀x,dst=some x→x < n) (hsz:a.tmps.size=n) (h:Inv E n (aX dst u st) (a.put dst v) w' g' hold') :
  Inv E n (aX dst ⟨.gd true u.av,u.wr,u.ks⟩ st) (a.put dst v) w' g' hold':=by
 refine ⟨h.size,h.defers,fun t=>?_,h.rts,h.bnd,h.kn⟩
 have:=h.tms t
 cases dst with
 | none=>exact this
 | some d=>
  simp only[aX] at this ⊢;cases hb:Nat.beq t d with
  | false=>rw[hb] at this;exact this
  | true=>rw[hb] at this;exact .gd (fun _=>this) (fun hf=>by cases hf)
theorem Inv.skip {dst:Option Nat} {av:AV} (hE:bl E) (hd : ∀x,dst=some x→x < n) (h:Inv E n st a w g hold):Inv E n (aX dst ⟨.gd false av,[],[]⟩ st) (a.put dst Go.undef) w g hold:=
 h.apply hE hd (fun b hb=>⟨aP.refl _ _,hb⟩) (hU.of hE h.rts fun r R hR=>.self hR) h.rts h.bnd fun _=>.gd (fun hf=>by cases hf) (fun _=>rfl)
theorem gf {α:Type} : ∀{l:List (Nat × α)} {r:Nat},r ∉ l.map (·.1)→aJ l r=none
 | [],_,_=>rfl
 | (k,v) :: l,r,h=>by
  simp only[List.map_cons,List.mem_cons,not_or] at h;simp only[aJ,bZ,Ne.symm h.1,decide_false,cond_false];exact gf h.2
theorem rA {α:Type} : ∀{l:List (Nat × α)} {r:Nat},r∈l.map (·.1)→∃x,(r,x)∈l∧aJ l r=some x
 | [],_,h=>by cases h
 | (k,v) :: l,r,h=>by
  simp only[aJ,bZ];by_cases hk:k=r
  ·subst hk;exact ⟨v,by simp,by simp⟩
  ·simp only[List.map_cons,List.mem_cons] at h;obtain ⟨x,h1,h2⟩:=rA (h.resolve_left (Ne.symm hk));exact ⟨x,by simp[h1],by simp only[hk,decide_false,cond_false];exact h2⟩
theorem Inv.skipQ {dst:Option Nat} {av:AV} {u:Upd} (hE:bl E) (hd : ∀x,dst=some x→x < n) (h:Inv E n st a w g hold) (hq:wh u=true):Inv E n (aX dst ⟨.gd false av,u.wr,u.ks⟩ st) (a.put dst Go.undef) w g hold:=by
 unfold wh at hq;simp only[Bool.and_eq_true,List.all_eq_true] at hq;obtain ⟨q1,q2⟩:=hq;have hin : ∀r,r∈u.wr.map (·.1)→aJ u.wr r=some none∧r∈u.ks.map (·.1):=by
  intro r hr;obtain ⟨x,h1,h2⟩:=rA hr;have:=q1 _ h1
  rw[Option.isNone_iff_eq_none,eR] at this;simp only at this
  exact ⟨by rw[h2,this.1],this.2⟩
 have hks : ∀r,r∈u.ks.map (·.1)→aJ u.ks r=some 0:=by
  intro r hr;obtain ⟨x,h1,h2⟩:=rA hr;have:=Nat.eq_of_beq_eq_true (q2 _ h1)
  simp only at this
  rw[h2,this]
 have hrt : ∀r R,(aX dst ⟨.gd false av,u.wr,u.ks⟩ st).rt r=some R→st.rt r=some R∧r ∉ u.wr.map (·.1):=by
  intro r R hr;simp only[aX] at hr;by_cases hm:r∈u.wr.map (·.1)
  ·rw[(hin r hm).1] at hr;cases hr
  ·rw[gf hm] at hr;exact ⟨hr,hm⟩
 refine h.apply hE hd (fun b hb=>⟨aP.refl _ _,hb⟩) (hU.of hE h.rts fun r R hR=>?_) (fun r R hr=>h.rts r R (hrt r R hr).1) h.bnd fun _=>.gd (fun hf=>by cases hf) (fun _=>rfl)
 by_cases hm:r∈u.ks.map (·.1)
 ·exact .dead (hks r hm)
 ·have hw:r ∉ u.wr.map (·.1):=fun hr=>hm (hin r hr).2
  have:(aX dst ⟨.gd false av,u.wr,u.ks⟩ st).rt r=some R:=by simp only[aX,gf hw];exact hR
  exact .self this
def ea (E:Env) (n:Nat) (w:World) (g:Gh) (hold:Nat→aE) (st:St) (a':Act) (w':World):Prop:=
 ∃g' hold',Stp w g w' g'∧Sld hold hold'∧Inv E n st a' w' g' hold'
theorem wp_of {C:aF} {e:Eff} {res:List T} {K:Act→World→Prop} {Q:Exit→Act→World→Prop} (hacts:eG P E n st a w g hold o e∨qw P E n st a w g hold C o e) (hp:e.pre=true)
  (hres:match e.req with | none=>res = [] | some (f,ts)=>C f ts=some res) (hK : ∀a' w',ea E n w g hold (aX o.dst (e.ret res) st) a' w'→(∃v,a'=a.put o.dst v)→K a' w'):o.wp P a w K Q:=by
 unfold Oper.wp;rcases hacts with ⟨_,h2,h3⟩ | ⟨_,f,ts,h2,h3⟩
 ·rw[h2] at hres;simp only at hres;subst hres;obtain ⟨nx,w',v,g',hold',hrun,hnx,k1,k2,k3⟩:=h3 hp;rw[hrun];rcases hnx with rfl | ⟨rfl,rfl⟩
  ·exact hK _ _ ⟨g',hold',k1,k2,k3⟩ ⟨_,rfl⟩
  ·exact hK _ _ ⟨g',hold',k1,k2,k3⟩ ⟨_,rfl⟩
 ·rw[h2] at hres;simp only at hres
  obtain ⟨vs,hrun,hc⟩:=h3 hp res hres;rw[hrun,Oper.upon_enter];refine hc.mono fun en w'=>?_
  rintro ⟨v,g',hold',rfl,k1,k2,k3⟩
  exact hK _ _ ⟨g',hold',k1,k2,k3⟩ ⟨_,rfl⟩
theorem acts_g {C:aF} {e:Eff} (h:eG P E n st a w g hold o e∨qw P E n st a w g hold C o e):e.g=true:=by
 rcases h with h | h
 ·exact h.1
 ·exact h.1
theorem xj (hP:ba P E) (hF:de P E) (h:Inv E n st a w g hold) {fi:Fi} (hnt:fi.ntmps=n) (hn:n≤1000) {C:aF} (hC:O7 P E C) {ops:Array Oper} {i:Nat} (hi:ops[i]?=some o)
  {look:Nat→Option Rt} {ρ:Operand→AV} (hl : ∀r R,look r=some R→st.rt r=some R) (hρ : ∀x,aO E w g st.rt hold (ρ x) (a.eval x)) {e:Eff} (he:effG fi E ops.toList look ρ o=some e) (hp:e.pre=true) {res:List T}
  (hres:match e.req with | none=>res = [] | some (f,ts)=>(bif e.g then C f ts else some [])=some res) {K:Act→World→Prop} {Q:Exit→Act→World→Prop}
  (hK : ∀a' w',ea E n w g hold (aX o.dst (e.ret res) st) a' w'→K a' w'):wpOp P ops Q i K a w:=by
 unfold effG at he;split at he
 ·cases he
 rename_i e0 he0
 have key:(∀x,o.dst=some x→x < fi.ntmps)∧nO E ops.toList ρ o e0=some e:=by
  cases hod:o.dst with
  | none=>
   simp only[hod,cond_true] at he;exact ⟨fun x hx=>(by cases hx),he⟩
  | some d=>
   simp only[hod] at he;cases hdd:decide (d < fi.ntmps) with
   | false=>rw[hdd] at he;cases he
   | true=>
    rw[hdd,cond_true] at he;exact ⟨fun x hx=>by cases hx;exact of_decide_eq_true hdd,he⟩
 obtain ⟨hd0,he⟩:=key;have hd : ∀x,o.dst=some x→x < n:=by intro x hx;rw[← hnt];exact hd0 x hx
 have hacts:=yY hP hF h hl hd hn hρ hC he0;unfold wpOp;rw[hi];simp only
 unfold nO at he;cases hg:o.guard with
 | none=>
  rw[hg] at he;simp only[Option.some.injEq] at he;subst he;have hw:Region.wanted o (yielded ops a.tmps)=true:=by simp[Region.wanted,hg]
  rw[if_pos hw];refine .inl (wp_of hacts hp ?_ fun a' w' ha _=>hK a' w' ha)
  rw[acts_g hacts] at hres;exact hres
 | some jw=>
  obtain ⟨j,want⟩:=jw;rw[hg] at he;simp only at he
  split at he
  ·cases he
  rename_i t ht
  have hav:=hρ (.tmp t);generalize hst:bK (ρ (.tmp t))=sv at he
  split at he
  rotate_left
  ·cases he
  rename_i b ty v
  cases hbt:cT E ty with
  | false=>rw[hbt] at he;cases he
  | true=>
   rw[hbt,cond_true] at he;simp only[Option.some.injEq] at he;have ht':(ops[j]?).bind (·.dst)=some t:=by simpa using ht
   have hwant:Region.wanted o (yielded ops a.tmps)=(b&&(v.b==want)):=by
    simp only[Region.wanted,hg,yielded,ht',Option.bind_some];have hev:a.eval (.tmp t)=a.tmps.getD t Go.undef:=rfl
    cases hb:b with
    | true=>
     have h1:=fV hav (by rw[hst,hb])
     rw[hst] at h1;have hval:=ji hP.wf (fF hbt) (show vt E ty (.val ty v)=some v by simp[vt,sn]) h1
     rw[hev] at hval;have hsome:a.tmps[t]?=some (.bool v.b):=by
      rw[Array.getD_eq_getD_getElem?] at hval;cases hx:a.tmps[t]? with
      | none=>rw[hx] at hval;simp[Go.undef] at hval
      | some y=>rw[hx] at hval;simpa using hval
     rw[hsome];cases v.b <;> cases want <;> rfl
    | false=>
     have hund:a.eval (.tmp t)=Go.undef:=by
      cases hnv:ρ (.tmp t) with
      | gd b' a'=>
       rw[hnv] at hst hav;simp only[bK,Prod.mk.injEq] at hst;cases hav with
       | gd _ h2=>exact h2 (by rw[hst.1,hb])
      | _=>rw[hnv] at hst;simp only[bK,Prod.mk.injEq] at hst;rw[hb] at hst;simp at hst
     rw[hev,Array.getD_eq_getD_getElem?] at hund;cases hx:a.tmps[t]? with
     | none=>rfl
     | some y=>rw[hx] at hund;simp only[Option.getD_some] at hund;rw[hund];rfl
   subst he;rw[hwant];cases hgg:(b&&(v.b==want)) with
   | true=>
    rw[hgg] at hp hres;simp only[Bool.not_true,Bool.or_false,cond_true] at hp hres;rw[if_pos rfl];refine .inl (wp_of hacts hp hres fun a' w' ha hav'=>hK a' w' ?_)
    obtain ⟨vv,rfl⟩:=hav';obtain ⟨g',hold',k1,k2,k3⟩:=ha;refine ⟨g',hold',k1,k2,?_⟩;have:=k3.regd hd h.size
    cases hq:wh (e0.ret res) with
    | true=>simpa only[hgg,hq,cond_true] using this
    | false=>simpa only[hgg,hq,cond_false,AY] using this
   | false=>
    rw[if_neg (by simp)]
    refine hK _ _ ⟨g,hold,Stp.refl _ _,fun _ _=>rfl,?_⟩
    cases hq:wh (e0.ret res) with
    | true=>
     have:=h.skipQ (av:=(e0.ret res).av) hP.wf hd hq
     simpa only[hgg,hq,cond_true] using this
    | false=>
     have:=h.skip (av:=(e0.ret res).av) hP.wf hd
     simpa only[hgg,hq,cond_false,A6] using this
end
theorem Sld.trans {a b c:Nat→aE} (h:Sld a b) (h':Sld b c):Sld a c:=fun r hr=>(h' r hr).trans (h r hr)
section
variable {P:Program} {E:Env}
theorem zq (hP:ba P E) {w:World} {s e:Nat} (hs:E.ty s = .sl e) (hok:bN E s=true) {b o:Nat} {h:Value} (hc:w.cell? ⟨b,o,none⟩=some h) (hn:h.cells = #[h]) :
  (loadVar s ⟨b,o,none⟩).run P w = .ok h w:=by
 obtain ⟨v,h1,h2,h3⟩:=fI (P:=P) (E:=E) (w:=w) hP hok (a:=⟨b,o,none⟩) rfl (fun k hk=>by
  rw[hP.wf.one s (by simp[hs])] at hk
  obtain rfl:k=0:=by omega
  exact ⟨h,hc,hn⟩)
 have hv:=h2.2;rw[hs] at hv;simp only at hv
 have:=h3 0 (by rw[hP.wf.one s (by simp[hs])];omega)
 rw[hv] at this;simp only[aE.add,rd,Nat.add_zero,hc] at this;have:v=h:=by simpa using this
 rw[this] at h1;exact h1
theorem BZ (hP:ba P E) (hF:de P E) {f ty j1 s1 f1 j2 s2 f2:Nat} {fn:Func} {c:Code} (hf:P.funcs[f]?=some fn) (hb:fn.body=some c) (hc:pE E fn ty j1 s1 f1 j2 s2 f2 c)
  {fi1 fi2:Fi} (hf1:E.fn f1=some fi1) (hf2:E.fn f2=some fi2) (hsr1:E.src f1=f1) (hsr2:E.src f2=f2) {fs:List Nat} (hst:E.ty ty = .st fs) {w:World} {v h1 h2 kv:Value}
  (e1:v.cells[off E fs j1]?=some h1) (n1:h1.cells = #[h1]) (n2:h2.cells = #[h2]) {R:Ending→World→Prop}
  (hcall:Calls P f1 #[h1,kv] (w.alloc (.cells v.cells ty)) fun en w2=>∃k1,en = .returned k1∧w2.cell? ⟨w.heap.size,off E fs j2,none⟩=some h2∧
   Calls P f2 #[h2,k1] w2 fun en w3=>∃k2,en = .returned k2∧R (.returned k2) w3):Calls P f #[v,kv] w R:=by
 obtain ⟨hres,hnt,⟨fs',x1,x2,hst',hj1,hj2,hs1,hs2⟩,i0,i1,i2,i3,o0,o1,b0,b1,b2,b3,b4,c0,c1,c2,c3,c4,d0,d1,z,t1,t2,rfl,p0,p1,q0,q1,q2,q3,q4,r0,r1,r2,r3,r4,u0,u1⟩:=hc;rw[hst] at hst';cases hst';obtain ⟨fn1,hfn1,hbody1,hname1,_⟩:=hF f1 fi1 hf1;obtain ⟨fn2,hfn2,hbody2,hname2,_⟩:=hF f2 fi2 hf2;rw[hsr1] at hfn1;rw[hsr2] at hfn2;obtain ⟨_,_,_,g1,_,hu1,hfd1,y1,y2,y3,y4⟩:=oe hP hst (j:=j1) (List.getElem?_eq_some_iff.1 hj1).1;obtain ⟨_,_,_,g2,_,hu2,hfd2,z1,z2,z3,z4⟩:=oe hP hst (j:=j2) (List.getElem?_eq_some_iff.1 hj2).1;rw[jf hj1] at g1;subst g1;rw[jf hj2] at g2;subst g2;have fa : ∀{a:Act} {w:World} {o:Oper} {d j fld:Nat} {B:Nat} {fds:Array Field} {fd:Field},fL o d (.fieldAddr ty (.tmp 2) j)→a.eval (.tmp 2) = .pointer (some ⟨B,0,none⟩)→
   P.underlying ty=some (.struct fds)→fds[j]?=some fd→fd.type=fld→fd.offset=off E fs j→E.sz fld≠0→bN E fld=true→
   (execOp a.eval o).run P w = .ok (.value (.pointer (some ⟨B,off E fs j,none⟩))) w:=by
  intro a w o d j fld B fds fd ho hev hu hfd k1 k2 k3 k4;obtain ⟨i,hi,_,hsz,_⟩:=kr (w:=w) hP k4;simp[execOp,ho.op,hev,Instr.fieldAt,underlying,hu,hfd,Instr.sureAddr,fieldPlace,k1,hsz,k3,k2,fM (a:=⟨B,0,none⟩) rfl]
 refine calls_of_wp hf hb (wp_seq (wp_region ?_));rw[hnt];generalize ha:({ tmps:=#[v,kv]++Array.replicate (14 - #[v,kv].size) undef,defers:=[] } : Act)=a
 have s0:a.tmps.size=14:=by rw[← ha];simp
 have e0:a.eval (.tmp 0)=v:=by rw[← ha];rfl
 have k0:a.eval (.tmp 1)=kv:=by rw[← ha];rfl
 have dd:a.defers = []:=by rw[← ha]
 clear ha
 generalize hB:w.heap.size=B at *
 simp only[show List.range (#[o0,o1]:Array Oper).size = [0,1] from rfl,wpOps_cons]
 refine cN (o:=o0) (w':=w.alloc (.cells v.cells ty)) (v:=.pointer (some ⟨B,0,none⟩)) rfl p0.guard (by simp[execOp,p0.op,e0,Instr.box,newVar,newRow,hB]) ?_
 rw[p0.dst];have s1':=dW (d:=2) (v:=.pointer (some ⟨B,0,none⟩)) s0
 have k1:(a.put (some 2) (.pointer (some ⟨B,0,none⟩))).eval (.tmp 1)=_:=(dI (by decide)).trans k0
 have m1:(a.put (some 2) (.pointer (some ⟨B,0,none⟩))).eval (.tmp 2)=_:=cZ s0 (by decide)
 have dd1:(a.put (some 2) (.pointer (some ⟨B,0,none⟩))).defers = []:=dd
 generalize a.put (some 2) (.pointer (some ⟨B,0,none⟩))=a1 at *
 have hw1:(w.alloc (.cells v.cells ty)).cell? ⟨B,off E fs j1,none⟩=some h1:=by rw[← hB,(Gr.alloc w v.cells ty).cell,e1]
 generalize w.alloc (.cells v.cells ty)=w1 at *
 rw[wpOps_cons];refine cN (o:=o1) (w':=w1) (v:=z) rfl p1.guard (by simp[execOp,p1.op,Act.eval]) ?_
 rw[p1.dst];have s2':=dW (d:=4) (v:=z) s1'
 have k2:(a1.put (some 4) z).eval (.tmp 1)=_:=(dI (by decide)).trans k1
 have m2:(a1.put (some 4) z).eval (.tmp 2)=_:=(dI (by decide)).trans m1
 have dd2:(a1.put (some 4) z).defers = []:=dd1
 generalize a1.put (some 4) z=a2 at *
 show Exit.then _ _ _ _ _
 simp only[Exit.then];refine wp_seq (wp_region ?_);simp only[show List.range (#[b0,b1,b2,b3,b4]:Array Oper).size = [0,1,2,3,4] from rfl,wpOps_cons]
 refine cN (o:=b0) (w':=w1) (v:=.pointer (some ⟨B,off E fs j1,none⟩)) rfl q0.guard (fa q0 m2 hu1 hfd1 y1 y2 y3 y4) ?_;rw[q0.dst];have s3':=dW (d:=5) (v:=.pointer (some ⟨B,off E fs j1,none⟩)) s2'
 have k3:(a2.put (some 5) (.pointer (some ⟨B,off E fs j1,none⟩))).eval (.tmp 1)=_:=(dI (by decide)).trans k2
 have m3:(a2.put (some 5) (.pointer (some ⟨B,off E fs j1,none⟩))).eval (.tmp 2)=_:=(dI (by decide)).trans m2
 have l3:(a2.put (some 5) (.pointer (some ⟨B,off E fs j1,none⟩))).eval (.tmp 5)=_:=cZ s2' (by decide)
 have dd3:(a2.put (some 5) (.pointer (some ⟨B,off E fs j1,none⟩))).defers = []:=dd2
 generalize a2.put (some 5) (.pointer (some ⟨B,off E fs j1,none⟩))=a3 at *
 rw[wpOps_cons];refine cN (o:=b1) (w':=w1) (v:=h1) rfl q1.guard (by simp[execOp,q1.op,l3,Instr.loadAt,Instr.sureAddr,zq hP hs1 y4 hw1 n1]) ?_
 rw[q1.dst];have s4':=dW (d:=6) (v:=h1) s3'
 have k4:(a3.put (some 6) h1).eval (.tmp 1)=_:=(dI (by decide)).trans k3
 have m4:(a3.put (some 6) h1).eval (.tmp 2)=_:=(dI (by decide)).trans m3
 have l4:(a3.put (some 6) h1).eval (.tmp 6)=_:=cZ s3' (by decide)
 have dd4:(a3.put (some 6) h1).defers = []:=dd3
 generalize a3.put (some 6) h1=a4 at *
 rw[wpOps_cons];refine cN (o:=b2) (w':=w1) (v:=kv) rfl q2.guard (by simp[execOp,q2.op,k4]) ?_
 rw[q2.dst];have s5':=dW (d:=7) (v:=kv) s4'
 have m5:(a4.put (some 7) kv).eval (.tmp 2)=_:=(dI (by decide)).trans m4
 have l5:(a4.put (some 7) kv).eval (.tmp 6)=_:=(dI (by decide)).trans l4
 have v5:(a4.put (some 7) kv).eval (.tmp 7)=_:=cZ s4' (by decide)
 have dd5:(a4.put (some 7) kv).defers = []:=dd4
 generalize a4.put (some 7) kv=a5 at *
 rw[wpOps_cons];refine NK (o:=b3) (f:=f1) (vs:=#[h1,kv]) rfl q3.guard (by simp[execOp,q3.op,resolve,Act.eval,Deferred.ofValue,invoke,callFunc,hfn1,hname1,hbody1];exact ⟨by rw[← Array.getD_eq_getD_getElem?];exact l5,by rw[← Array.getD_eq_getD_getElem?];exact v5⟩) ?_
 refine hcall.mono fun en w2=>?_
 rintro ⟨k1v,rfl,hw2,hcall2⟩
 refine ⟨k1v,rfl,?_⟩;rw[q3.dst];have s6':=dW (d:=8) (v:=k1v) s5'
 have m6:(a5.put (some 8) k1v).eval (.tmp 2)=_:=(dI (by decide)).trans m5
 have l6:(a5.put (some 8) k1v).eval (.tmp 8)=_:=cZ s5' (by decide)
 have dd6:(a5.put (some 8) k1v).defers = []:=dd5
 generalize a5.put (some 8) k1v=a6 at *
 rw[wpOps_cons];refine cN (o:=b4) (w':=w2) (v:=k1v) rfl q4.guard (by simp[execOp,q4.op,l6]) ?_
 rw[q4.dst];have s7':=dW (d:=1) (v:=k1v) s6'
 have m7:(a6.put (some 1) k1v).eval (.tmp 2)=_:=(dI (by decide)).trans m6
 have k7:(a6.put (some 1) k1v).eval (.tmp 1)=_:=cZ s6' (by decide)
 have dd7:(a6.put (some 1) k1v).defers = []:=dd6
 generalize a6.put (some 1) k1v=a7 at *
 show Exit.then _ _ _ _ _
 simp only[Exit.then];refine wp_seq (wp_region ?_);simp only[show List.range (#[c0,c1,c2,c3,c4]:Array Oper).size = [0,1,2,3,4] from rfl,wpOps_cons]
 refine cN (o:=c0) (w':=w2) (v:=.pointer (some ⟨B,off E fs j2,none⟩)) rfl r0.guard (fa r0 m7 hu2 hfd2 z1 z2 z3 z4) ?_;rw[r0.dst];have s8':=dW (d:=9) (v:=.pointer (some ⟨B,off E fs j2,none⟩)) s7'
 have k8:(a7.put (some 9) (.pointer (some ⟨B,off E fs j2,none⟩))).eval (.tmp 1)=_:=(dI (by decide)).trans k7
 have l8:(a7.put (some 9) (.pointer (some ⟨B,off E fs j2,none⟩))).eval (.tmp 9)=_:=cZ s7' (by decide)
 have dd8:(a7.put (some 9) (.pointer (some ⟨B,off E fs j2,none⟩))).defers = []:=dd7
 generalize a7.put (some 9) (.pointer (some ⟨B,off E fs j2,none⟩))=a8 at *
 rw[wpOps_cons];refine cN (o:=c1) (w':=w2) (v:=h2) rfl r1.guard (by simp[execOp,r1.op,l8,Instr.loadAt,Instr.sureAddr,zq hP hs2 z4 hw2 n2]) ?_
 rw[r1.dst];have s9':=dW (d:=10) (v:=h2) s8'
 have k9:(a8.put (some 10) h2).eval (.tmp 1)=_:=(dI (by decide)).trans k8
 have l9:(a8.put (some 10) h2).eval (.tmp 10)=_:=cZ s8' (by decide)
 have dd9:(a8.put (some 10) h2).defers = []:=dd8
 generalize a8.put (some 10) h2=a9 at *
 rw[wpOps_cons];refine cN (o:=c2) (w':=w2) (v:=k1v) rfl r2.guard (by simp[execOp,r2.op,k9]) ?_
 rw[r2.dst];have sa':=dW (d:=11) (v:=k1v) s9'
 have la:(a9.put (some 11) k1v).eval (.tmp 10)=_:=(dI (by decide)).trans l9
 have va:(a9.put (some 11) k1v).eval (.tmp 11)=_:=cZ s9' (by decide)
 have dda:(a9.put (some 11) k1v).defers = []:=dd9
 generalize a9.put (some 11) k1v=aa at *
 rw[wpOps_cons];refine NK (o:=c3) (f:=f2) (vs:=#[h2,k1v]) rfl r3.guard (by simp[execOp,r3.op,resolve,Act.eval,Deferred.ofValue,invoke,callFunc,hfn2,hname2,hbody2];exact ⟨by rw[← Array.getD_eq_getD_getElem?];exact la,by rw[← Array.getD_eq_getD_getElem?];exact va⟩) ?_
 refine hcall2.mono fun en w3=>?_
 rintro ⟨k2v,rfl,hR⟩
 refine ⟨k2v,rfl,?_⟩;rw[r3.dst];have sb':=dW (d:=12) (v:=k2v) sa'
 have lb:(aa.put (some 12) k2v).eval (.tmp 12)=_:=cZ sa' (by decide)
 have ddb:(aa.put (some 12) k2v).defers = []:=dda
 generalize aa.put (some 12) k2v=ab at *
 rw[wpOps_cons];refine cN (o:=c4) (w':=w3) (v:=k2v) rfl r4.guard (by simp[execOp,r4.op,lb]) ?_
 rw[r4.dst];have sc':=dW (d:=1) (v:=k2v) sb'
 have lc:(ab.put (some 1) k2v).eval (.tmp 1)=_:=cZ sb' (by decide)
 have ddc:(ab.put (some 1) k2v).defers = []:=ddb
 generalize ab.put (some 1) k2v=ac at *
 show Exit.then _ _ _ _ _
 simp only[Exit.then];refine wp_seq (wp_region ?_);simp only[show List.range (#[d0,d1]:Array Oper).size = [0,1] from rfl,wpOps_cons]
 refine cN (o:=d0) (w':=w3) (v:=k2v) rfl u0.guard (by simp[execOp,u0.op,lc]) ?_
 rw[u0.dst];have sd':=dW (d:=13) (v:=k2v) sc'
 have ld:(ac.put (some 13) k2v).eval (.tmp 13)=_:=cZ sc' (by decide)
 have ddd:(ac.put (some 13) k2v).defers = []:=ddc
 generalize ac.put (some 13) k2v=ad at *
 rw[wpOps_cons];refine cN (o:=d1) (w':=w3) (v:=k2v) rfl u1.guard (by simp[execOp,u1.op,ld]) ?_
 rw[u1.dst];have le:(ad.put (some 4) k2v).eval (.tmp 4)=_:=cZ sd' (by decide)
 have dde:(ad.put (some 4) k2v).defers = []:=ddd
 generalize ad.put (some 4) k2v=ae at *
 show Exit.then _ _ _ _ _
 simp only[Exit.then];refine wp_ret ⟨dde,k2v,?_,hR⟩;have lf:ae.tmps[4]?.getD undef=k2v:=by rw[← Array.getD_eq_getD_getElem?];exact le
 simp[results,hres,lf]
theorem z8 (hP:ba P E) {w:World} {g:Gh} {rt:Nat→Option Rt} {hold:Nat→aE} {ty:Nat} {fs:List Nat} (hst:E.ty ty = .st fs) {s e j:Nat} (hj:fs[j]?=some s) (hs:E.ty s = .sl e)
  {x:AV} {v hd:Value} (hx:aO E w g rt hold x v) (hc:v.cells[off E fs j]?=some hd):aO E w g rt hold (fldOf ty x j) hd:=by
 unfold fldOf;split
 rotate_left
 ·exact .undef
 rename_i ty' l
 cases hb:Nat.beq ty' ty with
 | false=>exact .undef
 | true=>
  have:=Nat.eq_of_beq_eq_true hb;subst this;rw[cond_true];cases hx with
  | agg h1 h2 h3 h4 h5=>
   rename_i fs' vs
   rw[hst] at h1;cases h1;have hjl:=(List.getElem?_eq_some_iff.1 hj).1;obtain ⟨y,hy⟩ : ∃y,vs[j]?=some y:=⟨_,List.getElem?_eq_getElem (by omega)⟩
   have hsh:=h5 j s y hj hy;have hcy:=hsh.2;rw[hs] at hcy;simp only at hcy
   have hk:=fG h3 h5 j s y hj hy 0 (by rw[hP.wf.one s (by simp[hs])];omega)
   rw[hcy] at hk;rw[Nat.add_zero] at hk;have hc':(vs.flatMap fun v=>v.cells.toList)[off E fs j]?=some hd:=by simpa[Value.cells] using hc
   rw[hc'] at hk;have:hd=y:=by simpa using hk
   subst this;have hl:l[j]?=some (l.getD j .undef):=by simp[List.getD_eq_getElem?_getD,h2,hjl]
   exact h4 j _ _ hl hy
theorem xG (hP:ba P E) (hF:de P E) {n:Nat} {st:St} {a:Act} {w:World} {g:Gh} {hold:Nat→aE} (h:Inv E n st a w g hold) {C:aF} (hC:O7 P E C) {d f:Nat} (hd:d < n)
  {as:List AV} {vs:List Value} (hvl:as.length=vs.length) (hv : ∀(k:Nat) (av:AV) (v:Value),as[k]?=some av→vs[k]?=some v→aO E w g st.rt hold av v) {K:St→R} {r:List T}
  (hsr:E.src f=f) (he:ob E C d f as st K=some r):(∃fi,E.fn f=some fi)∧∃st',K st'=some r∧Calls P f vs.toArray w fun en w'=>∃v g' hold',en = .returned v∧Stp w g w' g'∧Sld hold hold'∧Inv E n st' (a.put (some d) v) w' g' hold':=by
 unfold ob at he;split at he
 ·cases he
 rename_i fi hfi
 refine ⟨⟨fi,hfi⟩,?_⟩;split at he
 ·cases he
 rename_i e hee
 split at he
 ·cases he
 rename_i f' ts hreq
 split at he
 rotate_left
 ·cases he
 rename_i res hres
 refine ⟨_,he,?_⟩;let o : Oper := { dst := some d, op := .call { callee := .value (.func (E.src f)), args := (vs.map Operand.const).toArray, argTypes := #[] }, type := 0, pos := "", after := #[], guard := none }
 have hact:=wJ hP hF h (fun _ _ h=>h) (o:=o) (fun x hx=>by cases hx;exact hd) hfi (hC f fi hfi) (xs:=(vs.map Operand.const).toArray) rfl (by simp[hvl]) (fun _ k av x h1 h2=>by
  simp only[List.getElem?_toArray,List.getElem?_map,Option.map_eq_some_iff] at h2;obtain ⟨v,hvk,rfl⟩:=h2;exact hv k av v h1 hvk) hee
 obtain ⟨_,f2,ts2,hreq2,hrun⟩:=hact;rw[hreq] at hreq2;cases hreq2;have hpre:e.pre=true:=by
  unfold kZ at hee;split at hee
  ·cases hee
  ·rename_i ts args hargs
   generalize hz:(cg (aZ args)&&dP (aZ args) ((ga d 0 fi.rets).map (·.1))&&dP (aZ args) (NN args as)&&((fi.rets.all (o6 E)&&fi.params.all (o5 E))||(NN args as).isEmpty)&&(fi.rets.all (pu E)&&(fi.params.all gW&&(decide (d < 1000)&&(decide (fi.rets.length < 90)&&decide (fi.params.length < 1000))))))=z at hee
   cases z with
   | false=>simp at hee
   | true=>simp only[cond_true,Option.some.injEq] at hee;subst hee;rfl
 have hf':f'=f:=by
  unfold kZ at hee;split at hee
  ·cases hee
  ·rename_i ts args hargs
   generalize hz:(cg (aZ args)&&dP (aZ args) ((ga d 0 fi.rets).map (·.1))&&dP (aZ args) (NN args as)&&((fi.rets.all (o6 E)&&fi.params.all (o5 E))||(NN args as).isEmpty)&&(fi.rets.all (pu E)&&(fi.params.all gW&&(decide (d < 1000)&&(decide (fi.rets.length < 90)&&decide (fi.params.length < 1000))))))=z at hee
   cases z with
   | false=>simp at hee
   | true=>simp only[cond_true,Option.some.injEq] at hee;subst hee;simp only[Option.some.injEq,Prod.mk.injEq] at hreq;exact hreq.1.symm
 subst hf';obtain ⟨vs',hr1,hcalls⟩:=hrun hpre res hres;obtain ⟨fn,hfn,hbody,hname,_⟩:=hF f' fi hfi;have hr2:(execOp a.eval o).run P w = .ok (.enter (E.src f') vs.toArray) w:=by
  have hm:(vs.map Operand.const).map a.eval=vs:=by rw[List.map_map];exact (List.map_congr_left fun _ _=>rfl).trans (List.map_id _)
  have hm':(vs.map Operand.const).toArray.map a.eval=vs.toArray:=by apply Array.ext';simpa using hm
  simp[execOp,o,resolve,show a.eval (.func (E.src f')) = .func (.func (E.src f')) #[] #[] from rfl,Deferred.ofValue,invoke,callFunc,hfn,hname,hbody]
  rw[List.map_map] at hm;exact hm
 rw[hr1] at hr2;simp only[Result.ok.injEq,Next.enter.injEq] at hr2;rw[← hr2.1.2];rw[hsr] at hcalls;exact hcalls
theorem put_put (a:Act) (d:Nat) (v v':Value):(a.put (some d) v).put (some d) v'=a.put (some d) v':=by
 simp[Act.put]
theorem B6 (hP:ba P E) (hF:de P E) {n:Nat} {st:St} {a:Act} {w:World} {g:Gh} {hold:Nat→aE} (h:Inv E n st a w g hold) {fi:Fi} (hnt:fi.ntmps=n) {C:aF} (hC:O7 P E C)
  {ops:Array Oper} {i:Nat} {o:Oper} (hi:ops[i]?=some o) {ty:Nat} {l:List (Nat × Nat)} {x k:Operand} (hinl:vR E o=some (ty,l,x,k)) {K:St→R} {r:List T}
  (he:pI fi E C o ty l x k st K=some r) {Kn:Act→World→Prop} {Q:Exit→Act→World→Prop} (hK : ∀st' a' w',K st'=some r→ea E n w g hold st' a' w'→Kn a' w'):wpOp P ops Q i Kn a w:=by
 unfold pI at he;split at he
 rotate_left
 ·cases he
 rename_i d t f1 j1 f2 j2 hdst hguard
 cases hz:(decide (d < fi.ntmps)&&(!Nat.beq t d&&aggOf ty (st.tm t))) with
 | false=>rw[hz] at he;cases he
 | true=>
 rw[hz,cond_true] at he;simp only[Bool.and_eq_true,decide_eq_true_eq,Bool.not_eq_true'] at hz;obtain ⟨hd,htd,hagg⟩:=hz;rw[hnt] at hd;have htd':t≠d:=by intro e;subst e;simp at htd
 unfold vR at hinl;split at hinl
 rotate_left
 ·cases hinl
 rename_i c hop
 split at hinl
 rotate_left
 ·cases hinl
 rename_i f x' k' hcal hargs
 split at hinl
 rotate_left
 ·cases hinl
 rename_i gfi hg
 have hin:gfi.inl = [(f1,j1),(f2,j2)]∧(∃m ps,gfi.params=(ty,m) :: ps)∧x' = .tmp t∧k'=k:=by
  generalize hl:gfi.inl=L at hinl
  generalize hp:gfi.params=PS at hinl
  cases L with
  | nil=>simp at hinl
  | cons y L=>
   cases PS with
   | nil=>simp at hinl
   | cons z PS=>
    obtain ⟨ty',m⟩:=z;simp only[Option.some.injEq,Prod.mk.injEq] at hinl;obtain ⟨rfl,e2,e3,e4⟩:=hinl;exact ⟨e2,⟨_,_,rfl⟩,e3,e4⟩
 obtain ⟨hinl1,⟨m,ps,hps⟩,rfl,rfl⟩:=hin;obtain ⟨fn,hfn,hbody,hname,_,_,_,hib⟩:=hF f gfi hg;obtain ⟨hsf,hsr1,hsr2,ty',s1,s2,ps',hps',hib⟩:=hib f1 j1 f2 j2 hinl1;rw[hsf] at hfn;rw[hps] at hps';cases hps';have hib':=hib;obtain ⟨_,_,⟨fs,x1,x2,hst,hj1,hj2,hs1,hs2⟩,_⟩:=hib';have hav:=h.tms t;obtain ⟨v,hv⟩ : ∃v,a.tmps.getD t undef=v:=⟨_,rfl⟩;rw[hv] at hav;have hhd : ∀{j s e:Nat},fs[j]?=some s→E.ty s = .sl e→∃y,v.cells[off E fs j]?=some y∧y.cells = #[y]:=by
  intro j s e hj hs;unfold aggOf at hagg;split at hagg
  rotate_left
  ·cases hagg
  rename_i ty' l' htm
  rw[htm] at hav;have:=Nat.eq_of_beq_eq_true hagg;subst this;cases hav with
  | agg q1 q2 q3 q4 q5=>
   rename_i fs' vs
   rw[hst] at q1;cases q1;have hjl:=(List.getElem?_eq_some_iff.1 hj).1;obtain ⟨y,hy⟩ : ∃y,vs[j]?=some y:=⟨_,List.getElem?_eq_getElem (by omega)⟩
   have hsh:=q5 j s y hj hy;have hcy:=hsh.2;rw[hs] at hcy;simp only at hcy
   have hk:=fG q3 q5 j s y hj hy 0 (by rw[hP.wf.one s (by simp[hs])];omega)
   rw[hcy] at hk;exact ⟨y,by simpa[Value.cells] using hk,hcy⟩
 obtain ⟨h1,c1,n1⟩:=hhd hj1 hs1;obtain ⟨h2,c2,n2⟩:=hhd hj2 hs2;have hgr:=Gr.alloc w v.cells ty;have hgB:g w.heap.size = .free:=by
  cases hgB:g w.heap.size with
  | free=>rfl
  | _=>exact absurd (h.bnd w.heap.size (by rw[hgB];simp)) (by omega)
 obtain ⟨k1,k2,k3⟩:=h.grow hP.wf hgr .free (.inl rfl);have hgg:(fun b=>if b=w.heap.size then Own.free else g b)=g:=by
  funext b;by_cases hb:b=w.heap.size
  ·rw[if_pos hb,hb,hgB]
  ·rw[if_neg hb]
 rw[hgg] at k1 k3;have k2' : ∀b,g b = .frz→aP w (w.alloc (.cells v.cells ty)) b∧g b = .frz:=fun b hb=>⟨(k2 b hb).1,hb⟩
 have hav1 : ∀{av:AV} {y:Value},aO E w g st.rt hold av y→aO E (w.alloc (.cells v.cells ty)) g st.rt hold av y:=by
  intro av y hy;have:=hy.cut (ks:=[]) hP.wf k2' (hU.of (rt':=st.rt) (ks:=[]) hP.wf h.rts fun r R hR=>.keep hR (k3 r))
  rwa [jd] at this
 have hI:Inv E n st a (w.alloc (.cells v.cells ty)) g hold:=
  ⟨h.size,h.defers,fun t=>hav1 (h.tms t),fun r R hr=>(h.rts r R hr).keep hP.wf (k3 r) k2',fun b hb=>by rw[hgr.size];have:=h.bnd b hb;omega,h.kn.step k2'⟩
 have hfo:=z8 hP hst hj1 hs1 (hav1 hav) c1;have hko:=hav1 (h.opd k');obtain ⟨⟨fi1,hf1⟩,st1,hK1,hcalls1⟩:=xG hP hF hI hC hd (vs:=[h1,a.eval k']) rfl (fun kk av y q1 q2=>by
  match kk with
  | 0=>simp at q1 q2;subst q1;subst q2;exact hfo
  | 1=>simp at q1 q2;subst q1;subst q2;exact hko
  | kk+2=>simp at q1) hsr1 he
 have hf2 : ∃fi2,E.fn f2=some fi2:=by
  unfold ob at hK1;split at hK1
  ·cases hK1
  ·rename_i fi2 hf2;exact ⟨fi2,hf2⟩
 obtain ⟨fi2,hf2⟩:=hf2;have hargs':c.args = #[.tmp t,k']:=by apply Array.ext';simpa using hargs
 refine NK (f:=f) (vs:=#[v,a.eval k']) hi hguard ?_ ?_
 ·obtain ⟨callee,args,argTypes⟩:=c;simp only at hcal hargs'
  subst hcal;subst hargs';have hvt:a.tmps[t]?.getD undef=v:=by rw[← Array.getD_eq_getD_getElem?];exact hv
  simp[execOp,hop,resolve,Act.eval,Deferred.ofValue,invoke,callFunc,hfn,hname,hbody,hvt]
 refine BZ hP hF hfn hbody hib hf1 hf2 hsr1 hsr2 hst c1 n1 n2 (hcalls1.mono fun en w2=>?_)
 rintro ⟨v1,g',hold',rfl,m1,m2,m3⟩
 refine ⟨v1,rfl,?_,?_⟩
 ·have hkp:=(m1.keep w.heap.size (by rw[hgr.size];omega) (.inl hgB)).1
  have:w2.cell? ⟨w.heap.size,off E fs j2,none⟩=(w.alloc (.cells v.cells ty)).cell? ⟨w.heap.size,off E fs j2,none⟩:=by simp only[World.cell?,hkp]
  rw[this,hgr.cell,c2]
 have t1:aO E w2 g' st1.rt hold' (st1.tm t) v:=by
  have:=m3.tms t
  have hne:(a.put (some d) v1).tmps.getD t undef=a.tmps.getD t undef:=dI (a:=a) (v:=v1) htd'
  rw[hne,hv] at this;exact this
 have t2:aO E w2 g' st1.rt hold' (st1.tm d) v1:=by
  have:=m3.tms d
  have hse:(a.put (some d) v1).tmps.getD d undef=v1:=cZ (a:=a) (v:=v1) h.size hd
  rw[hse] at this;exact this
 have hfo2:=z8 hP hst hj2 hs2 t1 c2;obtain ⟨_,st2,hK2,hcalls2⟩:=xG hP hF m3 hC hd (vs:=[h2,v1]) rfl (fun kk av y q1 q2=>by
  match kk with
  | 0=>simp at q1 q2;subst q1;subst q2;exact hfo2
  | 1=>simp at q1 q2;subst q1;subst q2;exact t2
  | kk+2=>simp at q1) hsr2 hK1
 refine hcalls2.mono fun en w3=>?_
 rintro ⟨v2,g'',hold'',rfl,p1,p2,p3⟩
 rw[put_put] at p3;refine ⟨v2,rfl,v2,rfl,?_⟩;rw[hdst];exact hK st2 _ w3 hK2 ⟨g'',hold'',(k1.trans m1).trans p1,fun r hr=>(p2 r hr).trans (m2 r hr),p3⟩
end
section
variable {P:Program} {E:Env} {n:Nat}
theorem rF (hP:ba P E) (hF:de P E) {st:St} {a:Act} {w:World} {g:Gh} {hold:Nat→aE} (h:Inv E n st a w g hold) {fi:Fi} (hnt:fi.ntmps=n) (hn:n≤1000) {C:aF} (hC:O7 P E C)
  {ops:Array Oper} {i:Nat} {o:Oper} (hi:ops[i]?=some o) {K:St→R} {r:List T} (he:je fi E C ops.toList o st K=some r) {Kn:Act→World→Prop} {Q:Exit→Act→World→Prop}
  (hK : ∀st' a' w',K st'=some r→ea E n w g hold st' a' w'→Kn a' w'):wpOp P ops Q i Kn a w:=by
 unfold je at he;split at he
 ·cases he
 rename_i e hee
 cases hp:e.pre with
 | false=>rw[hp] at he;cases he
 | true=>
  rw[hp,cond_true] at he;split at he
  ·rename_i hreq
   exact xj hP hF h hnt hn hC hi (fun _ _ h=>h) h.opd hee hp (res:=[]) (by rw[hreq]) fun a' w' ha=>hK _ a' w' he ha
  ·rename_i f ts hreq
   split at he
   ·rename_i res hres
    exact xj hP hF h hnt hn hC hi (fun _ _ h=>h) h.opd hee hp (res:=res) (by rw[hreq];exact hres) fun a' w' ha=>hK _ a' w' he ha
   ·cases he
theorem zA {x y:R} {r:List T} (h:orE x y=some r):x=some r∨y=some r:=by
 unfold orE at h;cases x with
 | some x=>exact .inl h
 | none=>exact .inr h
theorem sN (hP:ba P E) (hF:de P E) {st:St} {a:Act} {w:World} {g:Gh} {hold:Nat→aE} (h:Inv E n st a w g hold) {fi:Fi} (hnt:fi.ntmps=n) (hn:n≤1000) {C:aF} (hC:O7 P E C)
  {ops:Array Oper} {i:Nat} {o:Oper} (hi:ops[i]?=some o) {K:St→R} {r:List T} {d:Nat} {Kn:Act→World→Prop} {Q:Exit→Act→World→Prop}
  (hK : ∀st' a' w',K st'=some r→ea E n w g hold st' a' w'→Kn a' w') : ∀(l:List Nat),jN fi E C ops.toList o st K d l=some r→wpOp P ops Q i Kn a w
 | [],he=>by cases he
 | f :: l,he=>by
  rcases zA he with he | he
  ·exact rF hP hF h (fi:=xh fi d f) hnt hn hC hi he hK
  ·exact sN hP hF h hnt hn hC hi hK l he
theorem B7 (hP:ba P E) (hF:de P E) {st:St} {a:Act} {w:World} {g:Gh} {hold:Nat→aE} (h:Inv E n st a w g hold) {fi:Fi} (hnt:fi.ntmps=n) (hn:n≤1000) {C:aF} (hC:O7 P E C)
  {ops:Array Oper} {i:Nat} {o:Oper} (hi:ops[i]?=some o) {K:St→R} {r:List T} (he:kq fi E C ops.toList o st K=some r) {Kn:Act→World→Prop} {Q:Exit→Act→World→Prop}
  (hK : ∀st' a' w',K st'=some r→ea E n w g hold st' a' w'→Kn a' w'):wpOp P ops Q i Kn a w:=by
 unfold kq at he;split at he
 ·exact rF hP hF h hnt hn hC hi he hK
 ·split at he
  ·exact rF hP hF h hnt hn hC hi he hK
  ·exact sN hP hF h hnt hn hC hi hK _ he
theorem rG (hP:ba P E) (hF:de P E) {st:St} {a:Act} {w:World} {g:Gh} {hold:Nat→aE} (h:Inv E n st a w g hold) {fi:Fi} (hnt:fi.ntmps=n) (hn:n≤1000) {C:aF} (hC:O7 P E C)
  {ops:List Oper} {o:Oper} (hg:o.guard=none) {K:St→R} {r:List T} (he:je fi E C ops o st K=some r) {Kn:Act→World→Prop} {Q:Exit→Act→World→Prop}
  (hK : ∀st' a' w',K st'=some r→ea E n w g hold st' a' w'→Kn a' w'):o.wp P a w Kn Q:=by
 unfold je at he;split at he
 ·cases he
 rename_i e hee
 unfold effG at hee;split at hee
 ·cases hee
 rename_i e0 he0
 have key:(∀x,o.dst=some x→x < fi.ntmps)∧nO E ops (opd st) o e0=some e:=by
  cases hod:o.dst with
  | none=>
   simp only[hod,cond_true] at hee;exact ⟨fun x hx=>(by cases hx),hee⟩
  | some d=>
   simp only[hod] at hee;cases hdd:decide (d < fi.ntmps) with
   | false=>rw[hdd] at hee;cases hee
   | true=>
    rw[hdd,cond_true] at hee;exact ⟨fun x hx=>by cases hx;exact of_decide_eq_true hdd,hee⟩
 obtain ⟨hd0,hee⟩:=key;have hd : ∀x,o.dst=some x→x < n:=by intro x hx;rw[← hnt];exact hd0 x hx
 have hacts:=yY hP hF h (fun _ _ h=>h) hd hn h.opd hC he0
 unfold nO at hee;rw[hg] at hee;simp only[Option.some.injEq] at hee;subst hee;cases hp:e0.pre with
 | false=>rw[hp] at he;cases he
 | true=>
  rw[hp,cond_true] at he;split at he
  ·rename_i hreq
   exact wp_of hacts hp (res:=[]) (by rw[hreq]) fun a' w' ha _=>hK _ a' w' he ha
  ·rename_i f ts hreq
   split at he
   ·rename_i res hres
    rw[acts_g hacts,cond_true] at hres;exact wp_of hacts hp (res:=res) (by rw[hreq];exact hres) fun a' w' ha _=>hK _ a' w' he ha
   ·cases he
theorem sO (hP:ba P E) (hF:de P E) {st:St} {a:Act} {w:World} {g:Gh} {hold:Nat→aE} (h:Inv E n st a w g hold) {fi:Fi} (hnt:fi.ntmps=n) (hn:n≤1000) {C:aF} (hC:O7 P E C)
  {ops:List Oper} {o:Oper} (hg:o.guard=none) {K:St→R} {r:List T} {d:Nat} {Kn:Act→World→Prop} {Q:Exit→Act→World→Prop}
  (hK : ∀st' a' w',K st'=some r→ea E n w g hold st' a' w'→Kn a' w') : ∀(l:List Nat),jN fi E C ops o st K d l=some r→o.wp P a w Kn Q
 | [],he=>by cases he
 | f :: l,he=>by
  rcases zA he with he | he
  ·exact rG hP hF h (fi:=xh fi d f) hnt hn hC hg he hK
  ·exact sO hP hF h hnt hn hC hg hK l he
theorem B8 (hP:ba P E) (hF:de P E) {st:St} {a:Act} {w:World} {g:Gh} {hold:Nat→aE} (h:Inv E n st a w g hold) {fi:Fi} (hnt:fi.ntmps=n) (hn:n≤1000) {C:aF} (hC:O7 P E C)
  {ops:List Oper} {o:Oper} (hg:o.guard=none) {K:St→R} {r:List T} (he:kq fi E C ops o st K=some r) {Kn:Act→World→Prop} {Q:Exit→Act→World→Prop}
  (hK : ∀st' a' w',K st'=some r→ea E n w g hold st' a' w'→Kn a' w'):o.wp P a w Kn Q:=by
 unfold kq at he;split at he
 ·exact rG hP hF h hnt hn hC hg he hK
 ·split at he
  ·exact rG hP hF h hnt hn hC hg he hK
  ·exact sO hP hF h hnt hn hC hg hK _ he
theorem zP (hP:ba P E) {st:St} {a:Act} {w:World} {g:Gh} {hold:Nat→aE} (h:Inv E n st a w g hold) {t ty:Nat} {v:T} (hbt:cT E ty=true) (hav:aO E w g st.rt hold (.val ty v) (a.tmps.getD t undef)) :
  Inv E n (setB st t ty v.b) a w g hold:=by
 refine ⟨h.size,h.defers,fun k=>?_,h.rts,h.bnd,h.kn⟩
 show aO E w g st.rt hold (bif Nat.beq k t then .val ty (.bool v.b) else st.tm k) _
 rw[bZ];by_cases hk:k=t
 ·subst hk;simp only[decide_true,cond_true];have hval:=ji hP.wf (fF hbt) (show vt E ty (.val ty v)=some v by simp[vt,sn]) hav
  rw[hval];exact nY hP.wf (fF hbt)
 ·simp only[hk,decide_false,cond_false];exact h.tms k
theorem Bb (hP:ba P E) (hF:de P E) {st:St} {a:Act} {w:World} {g:Gh} {hold:Nat→aE} (h:Inv E n st a w g hold) {fi:Fi} (hnt:fi.ntmps=n) (hn:n≤1000) {C:aF} (hC:O7 P E C)
  {ops:Array Oper} {i:Nat} {o:Oper} (hi:ops[i]?=some o) {t:Nat} {want:Bool} (hspl:splOf fi ops.toList o=some (t,want)) {K:St→R} {r:List T} (he:pK fi E C ops.toList o st K t want=some r) {Kn:Act→World→Prop} {Q:Exit→Act→World→Prop}
  (hK : ∀st' a' w',K st'=some r→ea E n w g hold st' a' w'→Kn a' w'):wpOp P ops Q i Kn a w:=by
 unfold splOf at hspl;split at hspl
 ·cases hspl
 rename_i j want' hg
 split at hspl
 ·cases hspl
 rename_i t' ht
 cases hms:mem t' fi.spl with
 | false=>rw[hms] at hspl;cases hspl
 | true=>
 rw[hms,cond_true] at hspl;simp only[Option.some.injEq,Prod.mk.injEq] at hspl;obtain ⟨rfl,rfl⟩:=hspl;unfold pK at he;have hav:=h.tms t';generalize hst:bK (st.tm t')=sv at he
 split at he
 rotate_left
 ·cases he
 rename_i b ty v
 generalize hz:(cT E ty&&(match o.dst with | none=>true | some d=>decide (d < fi.ntmps) && !Nat.beq d t'))=z at he
 cases z with
 | false=>cases he
 | true=>
  rw[cond_true] at he;simp only[Bool.and_eq_true] at hz;obtain ⟨hbt,hdz⟩:=hz;have hd : ∀x,o.dst=some x→x < n:=by
   intro x hx;rw[hx] at hdz;simp only[Bool.and_eq_true,decide_eq_true_eq] at hdz;rw[← hnt];exact hdz.1
  have ht':(ops[j]?).bind (·.dst)=some t':=by simpa using ht
  have hev:a.eval (.tmp t')=a.tmps.getD t' Go.undef:=rfl
  unfold wpOp;rw[hi];simp only
  cases hb:b with
  | true=>
   rw[hb,cond_true] at he;have h1:=fV hav (by rw[hst,hb])
   rw[hst] at h1;have hval:=ji hP.wf (fF hbt) (show vt E ty (.val ty v)=some v by simp[vt,sn]) h1
   have hsome:a.tmps[t']?=some (.bool v.b):=by
    rw[Array.getD_eq_getD_getElem?] at hval;cases hx:a.tmps[t']? with
    | none=>rw[hx] at hval;simp[Go.undef] at hval
    | some y=>rw[hx] at hval;simpa using hval
   have hwant:Region.wanted o (yielded ops a.tmps)=(v.b==want'):=by
    simp only[Region.wanted,hg,yielded,ht',Option.bind_some];rw[hsome];cases v.b <;> cases want' <;> rfl
   have hinv:=zP hP h (t:=t') hbt h1
   have he':nD fi E C ops.toList o (setB st t' ty v.b) K want' v.b=some r:=by
    cases hvb:v.b with
    | true=>rw[hvb,cond_true] at he;exact he
    | false=>rw[hvb,cond_false] at he;exact he
   rw[hwant];unfold nD at he';cases hw:(v.b==want') with
   | true=>
    rw[hw,cond_true] at he';rw[if_pos rfl];exact .inl (B8 (o:={ o with guard:=none }) hP hF hinv hnt hn hC rfl he' hK)
   | false=>
    rw[hw,cond_false] at he';rw[if_neg (by simp)]
    exact hK _ _ _ he' ⟨g,hold,Stp.refl _ _,fun _ _=>rfl,hinv.skip hP.wf hd⟩
  | false=>
   rw[hb,cond_false] at he;have hund:a.eval (.tmp t')=Go.undef:=by
    cases hnv:st.tm t' with
    | gd b' a'=>
     rw[hnv] at hst hav;simp only[bK,Prod.mk.injEq] at hst;cases hav with
     | gd _ h2=>exact h2 (by rw[hst.1,hb])
    | _=>rw[hnv] at hst;simp only[bK,Prod.mk.injEq] at hst;rw[hb] at hst;simp at hst
   have hwant:Region.wanted o (yielded ops a.tmps)=false:=by
    simp only[Region.wanted,hg,yielded,ht',Option.bind_some];rw[hev,Array.getD_eq_getD_getElem?] at hund;cases hx:a.tmps[t']? with
    | none=>rfl
    | some y=>rw[hx] at hund;simp only[Option.getD_some] at hund;rw[hund];rfl
   rw[hwant,if_neg (by simp)]
   exact hK _ _ _ he ⟨g,hold,Stp.refl _ _,fun _ _=>rfl,h.skip hP.wf hd⟩
theorem BK (hP:ba P E) (hF:de P E) {st:St} {a:Act} {w:World} {g:Gh} {hold:Nat→aE} (h:Inv E n st a w g hold) {fi:Fi} (hnt:fi.ntmps=n) (hn:n≤1000) {C:aF} (hC:O7 P E C)
  {ops:Array Oper} {i:Nat} {o:Oper} (hi:ops[i]?=some o) {K:St→R} {r:List T} (he:rg fi E C ops.toList o st K=some r) {Kn:Act→World→Prop} {Q:Exit→Act→World→Prop}
  (hK : ∀st' a' w',K st'=some r→ea E n w g hold st' a' w'→Kn a' w'):wpOp P ops Q i Kn a w:=by
 unfold rg at he;split at he
 ·rename_i ty l x k hinl
  exact B6 hP hF h hnt hC hi hinl he hK
 split at he
 ·rename_i t want hspl
  exact Bb hP hF h hnt hn hC hi hspl he hK
 ·exact B7 hP hF h hnt hn hC hi he hK
theorem vA (hP:ba P E) (hF:de P E) {fi:Fi} (hnt:fi.ntmps=n) (hn:n≤1000) {C:aF} (hC:O7 P E C) {ops:Array Oper} {K:St→R} {r:List T} {Q:Exit→Act→World→Prop} :
  ∀(l:List Oper) (i:Nat),(∀j,l[j]?=ops[i+j]?)→∀{st:St} {a:Act} {w:World} {g:Gh} {hold:Nat→aE},Inv E n st a w g hold→pJ fi E C ops.toList l st K=some r→
  (∀st' a' w',K st'=some r→ea E n w g hold st' a' w'→Q .normal a' w')→wpOps P ops Q (List.range' i l.length) a w
 | [],i,_,st,a,w,g,hold,h,he,hQ=>by
  simp only[List.length_nil,List.range'_zero,wpOps];exact hQ st a w he ⟨g,hold,Stp.refl _ _,fun _ _=>rfl,h⟩
 | o :: l,i,hl,st,a,w,g,hold,h,he,hQ=>by
  rw[List.length_cons,List.range'_succ,wpOps_cons];have hi:ops[i]?=some o:=by have:=hl 0;simpa using this.symm
  refine BK hP hF h hnt hn hC hi he fun st' a' w' he' ⟨g',hold',k1,k2,k3⟩=>?_
  refine vA hP hF hnt hn hC l (i+1) (fun j=>by have:=hl (j+1);rw[show i+1+j=i+(j+1) by omega];simpa using this) k3 he' ?_
  rintro st2 a2 w2 hk ⟨g2,hold2,m1,m2,m3⟩
  exact hQ st2 a2 w2 hk ⟨g2,hold2,k1.trans m1,k2.trans m2,m3⟩
end
def dm (w:World) (b:Nat):Prop:=∃c e m,w.heap[b]?=some (.cells c e m)
theorem dm.same {w w':World} {b:Nat} (h:dm w b) (hs:w'.heap[b]?=w.heap[b]?):dm w' b:=by
 obtain ⟨c,e,m,h⟩:=h;exact ⟨c,e,m,by rw[hs,h]⟩
section
variable {P:Program}
theorem Ae {a:Addr} {v:Value} {w:World} (hb:dm w a.block):dm (w.setCell a v) a.block:=by
 obtain ⟨c,e,m,hb⟩:=hb;refine ⟨if a.spot.isSome=true then c else c.setIfInBounds a.off v,e,m,by simp[World.setCell,Array.getElem?_modify,hb]⟩
theorem Cj {a:Addr} {v:Value} {w w':World} (hb:dm w a.block) (h:(store a v).run P w = .ok () w'):(∀b,b≠a.block→w'.heap[b]?=w.heap[b]?)∧dm w' a.block:=by
 have fin:w'=w.setCell a v→(∀b,b≠a.block→w'.heap[b]?=w.heap[b]?)∧dm w' a.block:=by
  rintro rfl
  exact ⟨fun b hne=>Below.heap_setCell w a v b hne,Ae hb⟩
 have far : w.farStore P a v false = .error (w.noCell a "store: no such cell") := by
  obtain ⟨c,e,m,hb⟩:=hb;unfold World.farStore;rw[hb]
 unfold store at h;have hm:((Mode.plain:Go.Mode) == .atomic)=false:=rfl
 cases v <;> simp only[Sem.run] at h <;> first
  | (cases h;done)
  | (
   split at h
   ·split at h
    ·cases h
    ·cases h;exact fin rfl
   ·rw[hm,far] at h;cases h)
theorem uf {B:Nat} : ∀(vs:List Value) {x i:Nat} {w w':World},dm w B→(storeCells ⟨B,x,none⟩ vs i).run P w = .ok () w'→(∀b,b≠B→w'.heap[b]?=w.heap[b]?)∧dm w' B
 | [],x,i,w,w',hb,h=>by simp[storeCells] at h;subst h;exact ⟨fun _ _=>rfl,hb⟩
 | v :: vs,x,i,w,w',hb,h=>by
  have hadd:((⟨B,x,none⟩:Addr).add i).block=B:=by unfold Addr.add;split <;> rfl
  simp only[storeCells,Sem.run_bind] at h;cases h1:(store ((⟨B,x,none⟩:Addr).add i) v).run P w with
  | halt y w1=>rw[h1] at h;cases h
  | ok u w1=>
   rw[h1] at h;obtain ⟨a1,a2⟩:=Cj (by rw[hadd];exact hb) h1
   rw[hadd] at a1 a2;obtain ⟨b1,b2⟩:=uf vs a2 h;exact ⟨fun b hne=>(b1 b hne).trans (a1 b hne),b2⟩
def ge {α:Type} (P:Program) (s:Sem α):Prop:=(∃n,∀w,s.run P w = .ok n w)∨(∃x,∀w,s.run P w = .halt x w)
theorem ge.bind {α β:Type} {s:Sem α} {f:α→Sem β} (h:ge P s) (hf : ∀a,ge P (f a)):ge P (s >>= f):=by
 rcases h with ⟨n,hn⟩ | ⟨x,hx⟩
 ·rcases hf n with ⟨m,hm⟩ | ⟨x,hx⟩
  ·exact .inl ⟨m,fun w=>by rw[Sem.run_bind,hn];exact hm w⟩
  ·exact .inr ⟨x,fun w=>by rw[Sem.run_bind,hn];exact hx w⟩
 ·exact .inr ⟨x,fun w=>by rw[Sem.run_bind,hx];rfl⟩
theorem ge.pure {α:Type} (a:α):ge P (Pure.pure a:Sem α):=.inl ⟨a,fun _=>rfl⟩
theorem ge.halt {α:Type} (h:Halt):ge P (.halt h:Sem α):=.inr ⟨h,fun _=>rfl⟩
theorem ge.program:ge P Go.program:=.inl ⟨P,fun _=>rfl⟩
theorem Bq (t:Nat):ge P (typeInfo t):=by
 unfold typeInfo;refine ge.program.bind fun p=>?_
 cases p.info? t with
 | none=>exact .halt _
 | some i=>exact .pure i
theorem Ag (t:Nat):ge P (underlying t):=by
 unfold underlying;refine ge.program.bind fun p=>?_
 cases p.underlying t with
 | none=>exact .halt _
 | some i=>exact .pure i
theorem rZ (t:Nat):ge P (sizeOf t):=(Bq t).bind fun _=>.pure _
theorem y9 (t:Nat):ge P (isAgg t):=by
 unfold isAgg;refine (Ag t).bind fun d=>?_
 split <;> exact .pure _
theorem store_at {t B x:Nat} {v:Value} {w w':World} (hb:dm w B) (h:(Instr.storeAt t (.pointer (some ⟨B,x,none⟩)) v).run P w = .ok () w'):(∀b,b≠B→w'.heap[b]?=w.heap[b]?)∧dm w' B:=by
 have h:(storeVar t ⟨B,x,none⟩ v).run P w = .ok () w':=h
 unfold storeVar at h;rw[Sem.run_bind] at h;rcases rZ (P:=P) t with ⟨n,hn⟩ | ⟨y,hy⟩
 ·rw[hn] at h;change (if v.cells.size ≠ n then (do stuck "storeVar: the value has not the size of the variable"; storeCells ⟨B, x, none⟩ v.cells.toList) else storeCells ⟨B, x, none⟩ v.cells.toList : Sem Unit).run P w = .ok () w' at h
  split at h
  ·cases h
  ·exact uf _ hb h
 ·rw[hy] at h;cases h
theorem zr {a:Addr} {v:Value} {w w' w1:World} (hb:dm w a.block) (hs:w1.heap[a.block]?=w.heap[a.block]?) (h:(load a).run P w = .ok v w'):w'=w∧(load a).run P w1 = .ok v w1:=by
 have hc:w1.cell? a=w.cell? a:=by unfold World.cell?;rw[hs]
 have far : w.farLoad P a false = .error (w.noCell a "load: no such cell") := by
  obtain ⟨c,e,m,hb⟩:=hb;unfold World.farLoad;rw[hb]
 unfold load at h ⊢;have hm:((Mode.plain:Go.Mode) == .atomic)=false:=rfl
 simp only[Sem.run] at h ⊢;rw[hc];split at h
 ·cases h;exact ⟨rfl,rfl⟩
 ·rw[hm,far] at h;cases h
theorem vX {b x:Nat} : ∀(n i:Nat) {acc r:Array Value} {w w' w1:World},dm w b→w1.heap[b]?=w.heap[b]?→(loadCellsFrom ⟨b,x,none⟩ i n acc).run P w = .ok r w'→
  w'=w∧(loadCellsFrom ⟨b,x,none⟩ i n acc).run P w1 = .ok r w1
 | 0,i,acc,r,w,w',w1,hb,hs,h=>by cases h;exact ⟨rfl,rfl⟩
 | n+1,i,acc,r,w,w',w1,hb,hs,h=>by
  have hadd:((⟨b,x,none⟩:Addr).add i).block=b:=by unfold Addr.add;split <;> rfl
  simp only[loadCellsFrom,Sem.run_bind] at h ⊢;cases h1:(load ((⟨b,x,none⟩:Addr).add i)).run P w with
  | halt y w2=>rw[h1] at h;cases h
  | ok v w2=>
   rw[h1] at h;obtain ⟨rfl,a2⟩:=zr (w1:=w1) (by rw[hadd];exact hb) (by rw[hadd];exact hs) h1
   rw[a2];exact vX n (i+1) hb hs h
theorem load_at {t b x:Nat} {v:Value} {w w' w1:World} (hb:dm w b) (hs:w1.heap[b]?=w.heap[b]?) (h0:(Instr.loadAt t (.pointer (some ⟨b,x,none⟩))).run P w = .ok v w') :
  w'=w∧(Instr.loadAt t (.pointer (some ⟨b,x,none⟩))).run P w1 = .ok v w1:=by
 have h:(loadVar t ⟨b,x,none⟩).run P w = .ok v w':=h0
 clear h0
 show w'=w∧(loadVar t ⟨b,x,none⟩).run P w1 = .ok v w1
 unfold loadVar at h ⊢;rw[Sem.run_bind] at h ⊢;rcases y9 (P:=P) t with ⟨g,hg⟩ | ⟨y,hy⟩
 ·rw[hg] at h ⊢;cases g with
  | false=>exact zr (a:=⟨b,x,none⟩) hb hs h
  | true=>
   simp only[Result.andThen,if_true,Sem.run_bind] at h ⊢;rcases rZ (P:=P) t with ⟨n,hn⟩ | ⟨y,hy⟩
   ·rw[hn] at h ⊢;simp only[loadCells] at h ⊢;cases h1:(loadCellsFrom ⟨b,x,none⟩ 0 n #[]).run P w with
    | halt y w2=>rw[h1] at h;cases h
    | ok r w2=>
     rw[h1] at h;obtain ⟨rfl,a2⟩:=vX (w1:=w1) n 0 hb hs h1;rw[a2];cases h;exact ⟨rfl,rfl⟩
   ·rw[hy] at h;cases h
 ·rw[hy] at h;cases h
theorem rn {a:Addr} {v:Value} {w w':World} (h:(load a).run P w = .ok v w'):w'=w:=by
 unfold load at h;simp only[Sem.run] at h;split at h
 ·cases h;rfl
 ·split at h
  ·cases h;rfl
  ·cases h
theorem q9 {a:Addr} : ∀(n i:Nat) {acc r:Array Value} {w w':World},(loadCellsFrom a i n acc).run P w = .ok r w'→w'=w
 | 0,i,acc,r,w,w',h=>by cases h;rfl
 | n+1,i,acc,r,w,w',h=>by
  simp only[loadCellsFrom,Sem.run_bind] at h;cases h1:(load (a.add i)).run P w with
  | halt y w2=>rw[h1] at h;cases h
  | ok v w2=>
   rw[h1] at h;have h2:=q9 n (i+1) h;rw[h2];exact rn h1
theorem vY {t:Nat} {x v:Value} {w w':World} (h0:(Instr.loadAt t x).run P w = .ok v w'):w'=w:=by
 unfold Instr.loadAt at h0;rw[Sem.run_bind] at h0;unfold Instr.sureAddr at h0;split at h0
 ·rename_i a
  have h:(loadVar t a).run P w = .ok v w':=h0
  clear h0
  unfold loadVar at h;rw[Sem.run_bind] at h;rcases y9 (P:=P) t with ⟨g,hg⟩ | ⟨y,hy⟩
  ·rw[hg] at h;cases g with
   | false=>exact rn (a:=a) h
   | true=>
    simp only[Result.andThen,if_true,Sem.run_bind] at h;rcases rZ (P:=P) t with ⟨n,hn⟩ | ⟨y,hy⟩
    ·rw[hn] at h;simp only[loadCells] at h;cases h1:(loadCellsFrom a 0 n #[]).run P w with
     | halt y w2=>rw[h1] at h;cases h
     | ok r w2=>
      rw[h1] at h;have:=q9 n 0 h1
      cases h;exact this
    ·rw[hy] at h;cases h
  ·rw[hy] at h;cases h
 ·cases h0
end
mutual
theorem nA (ks ks':Ks) : ∀(a:AV),(a.cut ks).cut ks'=(a.cut ks').cut ks
 | .gd b a=>by simp[AV.cut,nA ks ks' a]
 | .pv ty a=>by simp[AV.cut,nA ks ks' a]
 | .sref ty r p=>by simp only[AV.cut];cases h:cb ks r p <;> cases h':cb ks' r p <;> simp[AV.cut,h,h']
 | .sub ty r p lo hi=>by simp only[AV.cut];cases h:cb ks r p <;> cases h':cb ks' r p <;> simp[AV.cut,h,h']
 | .pref ty r p=>by simp only[AV.cut];cases h:cD ks r p <;> cases h':cD ks' r p <;> simp[AV.cut,h,h']
 | .alt ty r p t=>by simp only[AV.cut];cases h:dg ks r <;> cases h':dg ks' r <;> simp[AV.cut,h,h']
 | .row ty d t a=>by simp only[AV.cut];cases h:dg ks d <;> cases h':dg ks' d <;> simp[AV.cut,h,h',nA ks ks' a]
 | .agg ty l=>by simp[AV.cut,sK ks ks' l]
 | .tup l=>by simp[AV.cut,sK ks ks' l]
 | .undef=>rfl
 | .val _ _=>rfl
 | .cst _=>rfl
 | .nil _=>rfl
 | .fnc _=>rfl
 | .fptr _ _=>rfl
 | .ln _ _=>rfl
theorem sK (ks ks':Ks) : ∀(l:List AV),AV.cutL ks' (AV.cutL ks l)=AV.cutL ks (AV.cutL ks' l)
 | []=>rfl
 | a :: l=>by simp[AV.cutL,nA ks ks' a,sK ks ks' l]
end
mutual
theorem rL {ks:Ks} {x k:Nat} {r:Nat} (h:x ∉ ks.flatMap li) (ha:aJ ks r=some k):x ∉ li (r,k):=fun hx=>by
 have:(r,k)∈ks:=by
  clear h hx
  induction ks with
  | nil=>cases ha
  | cons y ks ih=>
   obtain ⟨a,b⟩:=y;simp only[aJ,bZ] at ha;by_cases hr:a=r
   ·subst hr;simp at ha;subst ha;simp
   ·simp only[hr,decide_false,cond_false] at ha;exact List.mem_cons_of_mem _ (ih ha)
 exact h (List.mem_flatMap.2 ⟨_,this,hx⟩)
theorem qE (r k:Nat):(k=4∧li (r,k) = [r+500000])∨((k=2∨k=3∨10≤k)∧li (r,k) = [r,r+500000])∨(li (r,k) = [r,r+500000,r+600000]):=by
 unfold li;split
 ·rename_i h;cases h;exact .inl ⟨rfl,rfl⟩
 ·rename_i h;cases h;exact .inr (.inl ⟨.inl rfl,rfl⟩)
 ·rename_i h;cases h;exact .inr (.inl ⟨.inr (.inl rfl),rfl⟩)
 ·rename_i a b h1 h2 h3 h4
  cases h4;cases hb:Nat.ble 10 k with
  | true=>exact .inr (.inl ⟨.inr (.inr (Nat.le_of_ble_eq_true hb)),rfl⟩)
  | false=>exact .inr (.inr rfl)
theorem vo {ks:Ks} {r:Nat} {p:List aH} (h:r ∉ ks.flatMap li):cb ks r p=false:=by
 unfold cb;cases ha:aJ ks r with
 | none=>rfl
 | some k=>
  have:=rL h ha
  rcases qE r k with ⟨rfl,_⟩ | ⟨_,e⟩ | e
  ·rfl
  ·rw[e] at this;simp at this
  ·rw[e] at this;simp at this
theorem vn {ks:Ks} {r:Nat} (h:r+500000 ∉ ks.flatMap li):dg ks r=false:=by
 unfold dg;cases ha:aJ ks r with
 | none=>rfl
 | some k=>
  have:=rL h ha
  rcases qE r k with ⟨_,e⟩ | ⟨_,e⟩ | e
  ·rw[e] at this;simp at this
  ·rw[e] at this;simp at this
  ·rw[e] at this;simp at this
theorem B3 {ks:Ks} {r:Nat} {p:List aH} (h : ∀x∈(bif bj p then [r+600000] else [r]),x ∉ ks.flatMap li):cD ks r p=false:=by
 unfold cD;cases ha:aJ ks r with
 | none=>rfl
 | some k=>
  cases hp:bj p with
  | true=>
   rw[hp] at h;have:=rL (h (r+600000) (by simp)) ha
   rcases qE r k with ⟨rfl,e⟩ | ⟨q,e⟩ | e
   ·rfl
   ·rcases q with rfl | rfl | q
    ·rfl
    ·rfl
    ·have h10:Nat.ble 10 k=true:=Nat.ble_eq_true_of_le q
     split <;> simp_all
   ·rw[e] at this;simp at this
  | false=>
   rw[hp] at h;have:=rL (h r (by simp)) ha
   rcases qE r k with ⟨rfl,_⟩ | ⟨_,e⟩ | e
   ·rfl
   ·rw[e] at this;simp at this
   ·rw[e] at this;simp at this
theorem m8 {ks:Ks} : ∀(a:AV),(∀r∈a.keys,r ∉ ks.flatMap li)→a.cut ks=a
 | .gd b a,h=>by simp[AV.cut,m8 a (by simpa[AV.keys] using h)]
 | .pv ty a,h=>by simp[AV.cut,m8 a (by simpa[AV.keys] using h)]
 | .sref ty r p,h=>by simp[AV.cut,vo (h r (by simp[AV.keys]))]
 | .sub ty r p lo hi,h=>by simp[AV.cut,vo (h r (by simp[AV.keys]))]
 | .pref ty r p,h=>by simp[AV.cut,B3 (p:=p) (by simpa only[AV.keys] using h)]
 | .alt ty r p t,h=>by simp[AV.cut,vn (h (r+500000) (by simp[AV.keys]))]
 | .row ty d t a,h=>by simp[AV.cut,vn (h (d+500000) (by simp[AV.keys])),m8 a (fun r hr=>h r (by simp[AV.keys,hr]))]
 | .agg ty l,h=>by simp[AV.cut,rE l (by simpa[AV.keys] using h)]
 | .tup l,h=>by simp[AV.cut,rE l (by simpa[AV.keys] using h)]
 | .undef,_=>rfl
 | .val _ _,_=>rfl
 | .cst _,_=>rfl
 | .nil _,_=>rfl
 | .fnc _,_=>rfl
 | .fptr _ _,_=>rfl
 | .ln _ _,_=>rfl
theorem rE {ks:Ks} : ∀(l:List AV),(∀r∈AV.keysL l,r ∉ ks.flatMap li)→AV.cutL ks l=l
 | [],_=>rfl
 | a :: l,h=>by
  rw[AV.cutL,m8 a (fun r hr=>h r (by simp[AV.keysL,hr])),rE l (fun r hr=>h r (by simp[AV.keysL,hr]))]
end
inductive Wk (b:AV):AV→Prop
 | undef:Wk b .undef
 | refl:Wk b b
 | cut (ks:Ks) {a:AV} : Wk b a→Wk b (a.cut ks)
theorem Wk.trans {a b c:AV} (h:Wk b a) (h':Wk c b):Wk c a:=by
 induction h with
 | undef=>exact .undef
 | refl=>exact h'
 | cut ks _ ih=>exact .cut ks ih
theorem Wk.mono {a b:AV} (h:Wk b a) (ks:Ks):Wk (b.cut ks) (a.cut ks):=by
 induction h with
 | undef=>exact .undef
 | refl=>exact .refl
 | cut ks' _ ih=>rw[nA];exact .cut ks' ih
section
variable {P:Program} {E:Env} {n:Nat}
theorem aO.wk (hE:bl E) {w:World} {g:Gh} {rt:Nat→Option Rt} {hold:Nat→aE} {a b:AV} {v:Value} (h:Wk b a) (hv:aO E w g rt hold b v):aO E w g rt hold a v:=by
 induction h with
 | undef=>exact .undef
 | refl=>exact hv
 | cut ks _ ih=>
  refine ih.cut hE (fun b hb=>⟨aP.refl _ _,hb⟩) fun r R hR=>⟨fun p ty e κ v _ hs hrd _ _=>⟨R,κ,hR,hs,hrd⟩,fun p ty b o hs _=>⟨R,hR,hs⟩,fun _=>⟨hR,⟨rfl,fun b _=>⟨aP.refl _ _,rfl⟩⟩,fun _=>rfl⟩⟩
def Fx (fi:Fi) (E:Env) (C:aF) (ops:Array Oper) (fst:List Nat) (rws:List RW) (i:Nat) (st st':St):Prop:=
 ∃(o:Oper) (ρ:Operand→AV) (look:Nat→Option Rt) (e:Eff) (res:List T),ops[i]?=some o∧
  (∀x,Wk (opd st x) (ρ x)∧∀r∈(ρ x).keys,r∈(rws.getD i ([],[])).1)∧(∀t,ρ (.tmp t)≠.undef→t∈o.looksAt ops)∧
  (∀r R,look r=some R→st.rt r=some R∧r∈(rws.getD i ([],[])).1)∧effG fi E ops.toList look ρ o=some e∧e.pre=true∧
  (match e.req with | none=>res = [] | some (f,ts)=>(bif e.g then C f ts else some [])=some res)∧fits (rws.getD i ([],[])) (e.ret res)=true∧st'=aX o.dst (e.ret res) st∧ldOk ops fst (rws.getD i ([],[])) i o st=true
theorem fE {d:Option Nat} {u:Upd} {st:St} (t:Nat):(aX d u st).tm t=if d=some t then u.av else (st.tm t).cut u.ks:=by
 simp only[aX];have hk:(bif u.ks.isEmpty then st.tm t else (st.tm t).cut u.ks)=(st.tm t).cut u.ks:=by
  cases hk:u.ks.isEmpty with
  | true=>rw[List.isEmpty_iff.1 hk,jd];rfl
  | false=>rfl
 rw[hk];cases d with
 | none=>simp
 | some d=>
  simp only[bZ,Option.some.injEq];by_cases h:t=d
  ·subst h;simp
  ·simp[h,Ne.symm h]
theorem kw {l m:List Nat} : mU l m=true↔∀r∈l,r∈m:=by
 simp[mU,List.all_eq_true,eR]
theorem AT {l m:List Nat} : dP l m=true↔∀r∈l,r ∉ m:=by
 unfold dP;rw[List.all_eq_true];refine forall_congr' fun r=>forall_congr' fun _=>?_
 rw[Bool.not_eq_true',← Bool.not_eq_true,eR]
theorem yS {ks:Ks} {ty r:Nat} {p:List aH} : ∀{a:AV},a.cut ks = .pref ty r p→a = .pref ty r p
 | .pref ty' r' p',h=>by
  simp only[AV.cut] at h;cases hd:cD ks r' p' with
  | true=>rw[hd] at h;cases h
  | false=>rw[hd] at h;exact h
 | .sref ty' r' p',h=>by simp only[AV.cut] at h;cases hd:cb ks r' p' <;> rw[hd] at h <;> cases h
 | .sub ty' r' p' lo hi,h=>by simp only[AV.cut] at h;cases hd:cb ks r' p' <;> rw[hd] at h <;> cases h
 | .alt ty' r' p' t,h=>by simp only[AV.cut] at h;cases hd:dg ks r' <;> rw[hd] at h <;> cases h
 | .row ty' d t a,h=>by simp only[AV.cut] at h;cases hd:dg ks d <;> rw[hd] at h <;> cases h
 | .gd _ _,h=>by cases h
 | .pv _ _,h=>by cases h
 | .agg _ _,h=>by cases h
 | .tup _,h=>by cases h
 | .undef,h=>by cases h
 | .val _ _,h=>by cases h
 | .cst _,h=>by cases h
 | .nil _,h=>by cases h
 | .fnc _,h=>by cases h
 | .fptr _ _,h=>by cases h
 | .ln _ _,h=>by cases h
theorem ya {ks:Ks} (a:AV):(bK (a.cut ks)).2=(bK a).2.cut ks:=by
 cases a with
 | gd b x=>rfl
 | sref ty r p=>simp only[bK,AV.cut];cases cb ks r p <;> rfl
 | sub ty r p lo hi=>simp only[bK,AV.cut];cases cb ks r p <;> rfl
 | pref ty r p=>simp only[bK,AV.cut];cases cD ks r p <;> rfl
 | alt ty r p t=>simp only[bK,AV.cut];cases dg ks r <;> rfl
 | row ty d t x=>simp only[bK,AV.cut];cases dg ks d <;> rfl
 | _=>rfl
theorem rT {rw:RW} {st:St} {a b:AV} (h:tg rw st a b=true) : ∃ty r p ty' r' p',a = .pref ty r p∧b = .pref ty' r' p'∧r≠r'∧(bj p=true∧bj p'=true)∧bxd st r=true∧bxd st r'=true∧r∈rw.1∧r'∈rw.1∧
  (∀x∈a.keys,x∈rw.1)∧(∀x∈b.keys,x∈rw.1):=by
 unfold tg at h;split at h
 ·rename_i ty r p ty' r' p'
  simp only[Bool.and_eq_true,Bool.not_eq_true',eR,kw] at h;obtain ⟨h1,hp,hp',h2,h3,h4,h5,h6,h7⟩:=h;exact ⟨ty,r,p,ty',r',p',rfl,rfl,by rw[bZ] at h1;simpa using h1,⟨hp,hp'⟩,h2,h3,h4,h5,h6,h7⟩
 ·cases h
theorem xV {rw:RW} {st:St} {ty r:Nat} {p:List aH} {ty' r':Nat} {p':List aH} (h1:r≠r') (hp:bj p=true∧bj p'=true) (h2:bxd st r=true) (h3:bxd st r'=true) (h4:r∈rw.1) (h5:r'∈rw.1)
  (h6 : ∀x∈(AV.pref ty r p).keys,x∈rw.1) (h7 : ∀x∈(AV.pref ty' r' p').keys,x∈rw.1):tg rw st (.pref ty r p) (.pref ty' r' p')=true:=by
 unfold tg;simp only[Bool.and_eq_true,Bool.not_eq_true',eR,kw,bZ];exact ⟨by simpa using h1,hp.1,hp.2,h2,h3,h4,h5,h6,h7⟩
theorem rB {d:Option Nat} {u:Upd} {st:St} {r:Nat} (h:r ∉ u.wr.map (·.1)):bxd (aX d u st) r=bxd st r:=by
 unfold bxd;simp only[aX];rw[gf h]
theorem C5 {ops:Array Oper} {fst:List Nat} {rw:RW} {i:Nat} {o:Oper} {d:Option Nat} {u:Upd} {st:St} (hw : ∀r∈u.wr.map (·.1),r ∉ rw.1) (hd : ∀x,d=some x→x ∉ o.looksAt ops)
  (hdo : ∀x,d=some x→∃o'∈ops.toList,o'.dst=some x) (h:ldOk ops fst rw i o (aX d u st)=true):ldOk ops fst rw i o st=true:=by
 unfold ldOk at h ⊢;cases hm:mem i fst with
 | false=>rfl
 | true=>
  rw[hm,cond_true] at h;rw[cond_true];split at h
  ·rename_i t x hop
   rw[List.all_eq_true] at h ⊢;intro j hj;have:=h j hj
   cases hu:o9 (di [] ops.toList) i j with
   | false=>rfl
   | true=>
    rw[hu] at this;simp only[Bool.not_true,Bool.false_or] at this ⊢;split at this
    ·rename_i oj hoj
     split at this
     ·rename_i t' q y hop'
      simp only[Bool.and_eq_true] at this ⊢;obtain ⟨n1,n2⟩:=this;refine ⟨n1,?_⟩;obtain ⟨ty,r,p,ty',r',p',e1,e2,e3,ep,e4,e5,e6,e7,e8,e9⟩:=rT n2;have hx:(bK (opd st x)).2 = .pref ty r p:=by
       cases x with
       | tmp tx=>
        simp only[opd] at e1 ⊢;rw[fE,if_neg (fun hdd=>hd tx hdd (by simp[Oper.looksAt,hop,Op.operands])),ya] at e1
        exact yS e1
       | const v=>cases e1
       | func f=>cases e1
       | global g=>cases e1
      have hq:st.tm q = .pref ty' r' p':=by
       rw[fE,if_neg (fun hdd=>by
        obtain ⟨o',ho',ho''⟩:=hdo q hdd;have:=List.all_eq_true.1 n1 o' ho'
        rw[ho''] at this;simp[bZ] at this)] at e2
       exact yS e2
      rw[hx,hq];rw[e1] at e8;rw[e2] at e9;rw[rB (fun hr=>hw r hr e6)] at e4
      rw[rB (fun hr=>hw r' hr e7)] at e5
      exact xV e3 ep e4 e5 e6 e7 e8 e9
     ·simp_all
    ·simp_all
  ·simp_all
theorem ldOk_fwd {ops:Array Oper} {fst:List Nat} {rw:RW} {i:Nat} {o:Oper} {d:Option Nat} {u:Upd} {st:St} (hw : ∀r∈u.wr.map (·.1),r ∉ rw.1) (hk : ∀a:AV,(∀x∈a.keys,x∈rw.1)→a.cut u.ks=a) (hd : ∀x,d=some x→x ∉ o.looksAt ops)
  (hdo : ∀x,d=some x→∃o'∈ops.toList,o'.dst=some x) (h:ldOk ops fst rw i o st=true):ldOk ops fst rw i o (aX d u st)=true:=by
 unfold ldOk at h ⊢;cases hm:mem i fst with
 | false=>rfl
 | true=>
  rw[hm,cond_true] at h;rw[cond_true];split at h
  ·rename_i t x hop
   rw[List.all_eq_true] at h ⊢;intro j hj;have:=h j hj
   cases hu:o9 (di [] ops.toList) i j with
   | false=>rfl
   | true=>
    rw[hu] at this;simp only[Bool.not_true,Bool.false_or] at this ⊢;split at this
    ·rename_i oj hoj
     split at this
     ·rename_i t' q y hop'
      simp only[Bool.and_eq_true] at this ⊢;obtain ⟨n1,n2⟩:=this;refine ⟨n1,?_⟩;obtain ⟨ty,r,p,ty',r',p',e1,e2,e3,ep,e4,e5,e6,e7,e8,e9⟩:=rT n2;have hx:(bK (opd (aX d u st) x)).2 = .pref ty r p:=by
       cases x with
       | tmp tx=>
        simp only[opd] at e1 e8 ⊢;rw[fE,if_neg (fun hdd=>hd tx hdd (by simp[Oper.looksAt,hop,Op.operands])),ya]
        rw[hk _ e8];exact e1
       | const v=>cases e1
       | func f=>cases e1
       | global g=>cases e1
      have hq:(aX d u st).tm q = .pref ty' r' p':=by
       rw[fE,if_neg (fun hdd=>by
        obtain ⟨o',ho',ho''⟩:=hdo q hdd;have:=List.all_eq_true.1 n1 o' ho'
        rw[ho''] at this;simp[bZ] at this)]
       rw[hk _ e9];exact e2
      rw[hx,hq];rw[e1] at e8;rw[e2] at e9;rw[← rB (d:=d) (u:=u) (fun hr=>hw r hr e6)] at e4
      rw[← rB (d:=d) (u:=u) (fun hr=>hw r' hr e7)] at e5
      exact xV e3 ep e4 e5 e6 e7 e8 e9
     ·simp_all
    ·simp_all
  ·simp_all
theorem Fx.swap {fi:Fi} {C:aF} {ops:Array Oper} {fst:List Nat} {rws:List RW} {l i:Nat} {st st1 st2:St} (h1:Fx fi E C ops fst rws l st st1) (h2:Fx fi E C ops fst rws i st1 st2)
  (hf : ∀ol oi,ops[l]?=some ol→ops[i]?=some oi→tE ops rws l i ol oi=true) : ∃st1',Fx fi E C ops fst rws i st st1'∧Fx fi E C ops fst rws l st1' st2:=by
 obtain ⟨ol,ρl,lookl,el,resl,a1,a2,a3,a4,a5,a6,a7,a8,rfl,a9⟩:=h1;obtain ⟨oi,ρi,looki,ei,resi,b1,b2,b3,b4,b5,b6,b7,b8,rfl,b9⟩:=h2;have hf:=hf ol oi a1 b1;unfold tE at hf;simp only[Bool.and_eq_true,AT] at hf;obtain ⟨f1,f2,f3,f4⟩:=hf;obtain ⟨g1,g2,g3⟩:=Oper.apart_spec f1;generalize hul:el.ret resl=ul at *
 generalize hui:ei.ret resi=ui at *
 unfold fits at a8 b8;simp only[Bool.and_eq_true,kw,List.mem_append] at a8 b8;obtain ⟨p1,p2,p3⟩:=a8;obtain ⟨q1,q2,q3⟩:=b8;have hcl : ∀a:AV,(∀r∈a.keys,r∈(rws.getD l ([],[])).1∨r∈(rws.getD l ([],[])).2)→a.cut ui.ks=a:=by
  intro a ha;refine m8 a fun r hr hk=>?_
  rcases ha r hr with h | h
  ·exact f3 r (q2 r hk) h
  ·exact f4 r h (q2 r hk)
 have hci : ∀a:AV,(∀r∈a.keys,r∈(rws.getD i ([],[])).1∨r∈(rws.getD i ([],[])).2)→a.cut ul.ks=a:=by
  intro a ha;refine m8 a fun r hr hk=>?_
  rcases ha r hr with h | h
  ·exact f2 r (p2 r hk) h
  ·exact f4 r (p2 r hk) h
 refine ⟨aX oi.dst ui st,⟨oi,ρi,looki,ei,resi,b1,fun x=>⟨?_,(b2 x).2⟩,b3,fun r R hr=>?_,b5,b6,b7,?_,by rw[hui],?_⟩,ol,ρl,lookl,el,resl,a1,fun x=>⟨?_,(a2 x).2⟩,a3,fun r R hr=>?_,a5,a6,a7,?_,?_,?_⟩
 ·cases x with
  | tmp t=>
   have:=(b2 (.tmp t)).1
   by_cases hu:ρi (.tmp t) = .undef
   ·rw[hu];exact .undef
   ·have ht:=b3 t hu;simp only[opd] at this ⊢;rw[fE,if_neg (fun hd=>g1 t hd ht)] at this
    exact this.trans (.cut _ .refl)
  | const v=>exact (b2 (.const v)).1
  | func f=>exact (b2 (.func f)).1
  | global g=>exact (b2 (.global g)).1
 ·obtain ⟨h1,h2⟩:=b4 r R hr;refine ⟨?_,h2⟩;simp only[aX] at h1;rw[gf (fun hk=>f2 r (p1 r hk) h2)] at h1
  exact h1
 ·rw[hui];unfold fits;simp only[Bool.and_eq_true,kw,List.mem_append];exact ⟨q1,q2,q3⟩
 ·exact C5 (fun r hr=>f2 r (p1 r hr)) g1 (fun x hx=>⟨ol,Array.mem_toList_iff.2 (Array.mem_of_getElem? a1),hx⟩) b9
 ·cases x with
  | tmp t=>
   have:=(a2 (.tmp t)).1
   by_cases hu:ρl (.tmp t) = .undef
   ·rw[hu];exact .undef
   ·have ht:=a3 t hu;simp only[opd] at this ⊢;rw[fE,if_neg (fun hd=>g3 t hd ht)]
    rw[← hcl (ρl (.tmp t)) (fun r hr=>.inl ((a2 (.tmp t)).2 r hr))]
    exact this.mono _
  | const v=>exact (a2 (.const v)).1
  | func f=>exact (a2 (.func f)).1
  | global g=>exact (a2 (.global g)).1
 ·obtain ⟨h1,h2⟩:=a4 r R hr;refine ⟨?_,h2⟩;simp only[aX];rw[gf (fun hk=>f3 r (q1 r hk) h2)]
  exact h1
 ·rw[hul];unfold fits;simp only[Bool.and_eq_true,kw,List.mem_append];exact ⟨p1,p2,p3⟩
 ·rw[hul];have ext : ∀{x y:St},(∀t,x.tm t=y.tm t)→(∀r,x.rt r=y.rt r)→x=y:=by
   intro x y h1 h2;cases x;cases y;simp only[St.mk.injEq];exact ⟨funext h1,funext h2⟩
  refine ext (fun t=>?_) fun r=>?_
  ·rw[fE,fE,fE,fE];by_cases h1:oi.dst=some t
   ·rw[if_pos h1,if_neg (fun hd=>g2 t hd h1),if_pos h1,hci _ q3]
   ·rw[if_neg h1,if_neg h1];by_cases h2:ol.dst=some t
    ·rw[if_pos h2,if_pos h2,hcl _ p3]
    ·rw[if_neg h2,if_neg h2,nA]
  ·simp only[aX];by_cases h1:r∈ui.wr.map (·.1)
   ·rw[gf (l:=ul.wr) (fun hk=>f4 r (p1 r hk) (q1 r h1))]
   ·rw[gf h1]
 ·exact ldOk_fwd (fun r hr=>f3 r (q1 r hr)) (fun a ha=>hcl a fun r hr=>.inl (ha r hr)) g3 (fun x hx=>⟨oi,Array.mem_toList_iff.2 (Array.mem_of_getElem? b1),hx⟩) a9
inductive FxL (fi:Fi) (E:Env) (C:aF) (ops:Array Oper) (fst:List Nat) (rws:List RW):List Nat→St→St→Prop
 | nil {st} : FxL fi E C ops fst rws [] st st
 | cons {i l st st1 st2} : Fx fi E C ops fst rws i st st1→FxL fi E C ops fst rws l st1 st2→FxL fi E C ops fst rws (i :: l) st st2
theorem FxL.front {fi:Fi} {C:aF} {ops:Array Oper} {fst:List Nat} {rws:List RW} {i:Nat} {l2:List Nat} : ∀{l1:List Nat} {st st':St},FxL fi E C ops fst rws (l1++i :: l2) st st'→
  (∀l∈l1,∀ol oi,ops[l]?=some ol→ops[i]?=some oi→tE ops rws l i ol oi=true)→∃st1,Fx fi E C ops fst rws i st st1∧FxL fi E C ops fst rws (l1++l2) st1 st'
 | [],st,st',h,_=>by
  cases h with
  | cons h1 h2=>exact ⟨_,h1,h2⟩
 | l :: l1,st,st',h,hf=>by
  cases h with
  | cons h1 h2=>
   obtain ⟨sta,k1,k2⟩:=FxL.front h2 fun l hl=>hf l (by simp[hl])
   obtain ⟨stb,m1,m2⟩:=h1.swap k1 (hf l (by simp))
   exact ⟨stb,m1,.cons m2 k2⟩
theorem fx_ok (hP:ba P E) (hF:de P E) {fi:Fi} (hnt:fi.ntmps=n) (hn:n≤1000) {C:aF} (hC:O7 P E C) {ops:Array Oper} {fst:List Nat} {rws:List RW} {i:Nat} {st st':St} (hx:Fx fi E C ops fst rws i st st')
  {a:Act} {w:World} {g:Gh} {hold:Nat→aE} (h:Inv E n st a w g hold) {Kn:Act→World→Prop} {Q:Exit→Act→World→Prop} (hK : ∀a' w',ea E n w g hold st' a' w'→Kn a' w'):wpOp P ops Q i Kn a w:=by
 obtain ⟨o,ρ,look,e,res,a1,a2,a3,a4,a5,a6,a7,a8,rfl,_⟩:=hx;exact xj hP hF h hnt hn hC a1 (fun r R hr=>(a4 r R hr).1) (fun x=>(h.opd x).wk hP.wf (a2 x).1) a5 a6 a7 hK
theorem vM (f:Nat→Nat) : ∀(ks:List Nat) (s l:Nat),(ks.foldl (fun s k=>s ||| (2 ^ k ||| f k)) s).testBit l=true→s.testBit l=true∨∃k∈ks,l=k∨(f k).testBit l=true
 | [],s,l,h=>.inl h
 | k :: ks,s,l,h=>by
  rw[List.foldl_cons] at h;rcases vM f ks _ l h with h | ⟨k',h1,h2⟩
  ·rw[Nat.testBit_or,Nat.testBit_or,Bool.or_eq_true,Bool.or_eq_true,Nat.testBit_two_pow] at h;rcases h with h | h | h
   ·exact .inl h
   ·exact .inr ⟨k,by simp,.inl (by simpa[eq_comm] using h)⟩
   ·exact .inr ⟨k,by simp,.inr h⟩
  ·exact .inr ⟨k',by simp[h1],h2⟩
theorem xQ : ∀(l:List Oper) (acc:List Nat),acc <+: di acc l
 | [],acc=>List.prefix_rfl
 | o :: l,acc=>(List.prefix_append acc _).trans (xQ l _)
theorem w6 : ∀(l:List Oper) (acc:List Nat) (j:Nat) (o:Oper),l[j]?=some o→∀b,((di acc l).getD (acc.length+j) 0).testBit b=true→
  ∃k∈eI o,b=k∨((di acc l).getD k 0).testBit b=true
 | [],acc,j,o,h,b,hb=>by simp at h
 | o' :: l,acc,j,o,h,b,hb=>by
  cases j with
  | zero=>
   simp only[List.getElem?_cons_zero,Option.some.injEq] at h;subst h;simp only[di] at hb ⊢;have hp:=xQ l (acc ++ [(eI o').foldl (fun s k=>s ||| (2 ^ k ||| acc.getD k 0)) 0])
   obtain ⟨tl,htl⟩:=hp;rw[← htl] at hb ⊢;have hget:(acc ++ [(eI o').foldl (fun s k=>s ||| (2 ^ k ||| acc.getD k 0)) 0]++tl).getD (acc.length+0) 0=(eI o').foldl (fun s k=>s ||| (2 ^ k ||| acc.getD k 0)) 0:=by
    simp[List.getD_eq_getElem?_getD]
   rw[hget] at hb;rcases vM _ _ _ _ hb with h0 | ⟨k,h1,h2⟩
   ·simp at h0
   ·refine ⟨k,h1,h2.imp id fun h=>?_⟩
    by_cases hk:k < acc.length
    ·simpa[List.getD_eq_getElem?_getD,List.getElem?_append_left,hk] using h
    ·simp[List.getD_eq_getElem?_getD,List.getElem?_eq_none (Nat.le_of_not_lt hk)] at h
  | succ j=>
   simp only[di] at hb ⊢;have:=w6 l (acc ++ [(eI o').foldl (fun s k=>s ||| (2 ^ k ||| acc.getD k 0)) 0]) j o (by simpa using h) b
    (by rw[List.length_append,List.length_singleton,show acc.length+1+j=acc.length+(j+1) by omega];exact hb)
   exact this
def Shut (ops:Array Oper) (listed:Array Bool):Prop:=∀k o,ops[k]?=some o→listed.getD k false=true→∀e∈eI o,listed.getD e false=true
theorem pC {ops:Array Oper} {listed:Array Bool} (hs:Shut ops listed) (hlt : ∀(i:Nat) (o:Oper),ops[i]?=some o→∀k∈eI o,k < i) :
  ∀(i:Nat) (o:Oper),ops[i]?=some o→(∀k∈eI o,listed.getD k false=true)→∀b,((di [] ops.toList).getD i 0).testBit b=true→listed.getD b false=true:=by
 intro i;induction i using Nat.strongRecOn with
 | ind i ih=>
  intro o ho hk b hb;obtain ⟨k,h1,h2⟩:=w6 ops.toList [] i o (by simpa using ho) b (by simpa using hb)
  rcases h2 with rfl | h2
  ·exact hk _ h1
  ·have hki:=hlt i o ho k h1;have hi:i < ops.size:=(Array.getElem?_eq_some_iff.1 ho).1
   have hok:ops[k]?=some (ops[k]'(by omega)):=Array.getElem?_eq_getElem _
   exact ih k hki _ hok (hs k _ hok (hk k h1)) b h2
theorem gE {ops:Array Oper} {listed:Array Bool} {i:Nat} : i∈Region.ready .any ops listed↔i < ops.size∧listed.getD i true=false∧∃o,ops[i]?=some o∧∀k∈eI o,listed.getD k false=true:=by
 unfold Region.ready eI;rw[List.mem_filter,List.mem_range,Bool.and_eq_true,Bool.not_eq_true'];refine and_congr_right fun hi=>and_congr_right fun _=>?_
 rw[Array.getElem?_eq_getElem hi];simp only[Option.map_some,Option.getD_some,Option.some.injEq,exists_eq_left'];rw[Array.all_eq_true_iff_forall_mem];simp only[List.mem_map,List.mem_filter,Array.mem_toList_iff];constructor
 ·rintro h k ⟨e,⟨h1,h2⟩,rfl⟩
  have:=h e h1
  simpa[h2] using this
 ·intro h e he;cases hb:Region.binds .any e with
  | false=>simp
  | true=>simpa[hb] using h e.on ⟨e,⟨he,hb⟩,rfl⟩
def fD (ops:Array Oper) (listed:Array Bool):List Nat:=(List.range ops.size).filter fun i=>!listed.getD i true
theorem z7 {l:List Nat} (hn:l.Nodup) {l1 l2:List Nat} {i:Nat} (h:l=l1++i :: l2):l.filter (fun j=>decide (j≠i))=l1++l2:=by
 subst h;rw[List.nodup_append] at hn;obtain ⟨h1,h2,h3⟩:=hn;rw[List.nodup_cons] at h2;rw[List.filter_append,List.filter_cons];simp only[ne_eq,not_true_eq_false,decide_false,Bool.false_eq_true,if_false];rw[List.filter_eq_self.2,List.filter_eq_self.2]
 ·intro x hx;simp only[decide_eq_true_eq];rintro rfl;exact h2.1 hx
 ·intro x hx;simp only[decide_eq_true_eq];rintro rfl;exact h3 x hx x (by simp) rfl
theorem qT {ops:Array Oper} {ms fst:List Nat} {i:Nat} : ∀(n l:Nat),(fP ops ms fst i n).testBit l=true→l < n∧l∈fst∧∃o,ops[l]?=some o∧∀k∈eI o,(ms.getD i 0).testBit k=true∨(fP ops ms fst i l).testBit k=true
 | 0,l,h=>by simp[fP] at h
 | n+1,l,h=>by
  have old:(fP ops ms fst i n).testBit l=true→l < n+1∧l∈fst∧∃o,ops[l]?=some o∧∀k∈eI o,(ms.getD i 0).testBit k=true∨(fP ops ms fst i l).testBit k=true:=by
   intro h;obtain ⟨h1,h2⟩:=qT n l h;exact ⟨by omega,h2⟩
  simp only[fP] at h;generalize hz:(mem n fst&&(match ops[n]? with | some o=>(eI o).all fun k=>(ms.getD i 0).testBit k||(fP ops ms fst i n).testBit k | none=>false))=z at h
  cases z with
  | false=>exact old (by simpa using h)
  | true=>
   simp only[cond_true,Nat.testBit_or,Bool.or_eq_true,Nat.testBit_two_pow,decide_eq_true_eq] at h;rcases h with h | rfl
   ·exact old h
   ·rw[Bool.and_eq_true] at hz;obtain ⟨z1,z2⟩:=hz;refine ⟨by omega,eR.1 z1,?_⟩
    split at z2
    ·rename_i o ho
     refine ⟨o,ho,fun k hk=>?_⟩
     have:=List.all_eq_true.1 z2 k hk
     simpa using this
    ·cases z2
theorem u4 {ops:Array Oper} {fst:List Nat} {listed:Array Bool} (hsz:listed.size=ops.size) {i:Nat} (hm : ∀b,((di [] ops.toList).getD i 0).testBit b=true→listed.getD b false=true) {n:Nat} :
  ∀(l:Nat),(fP ops (di [] ops.toList) fst i n).testBit l=true→listed.getD l true=false→∃l',l'≤l∧l'∈fst∧listed.getD l' true=false∧l'∈Region.ready .any ops listed:=by
 have key : ∀(l n:Nat),(fP ops (di [] ops.toList) fst i n).testBit l=true→listed.getD l true=false→∃l',l'≤l∧l'∈fst∧listed.getD l' true=false∧l'∈Region.ready .any ops listed:=by
  intro l;induction l using Nat.strongRecOn with
  | ind l ih=>
   intro n h hu;obtain ⟨_,h2,o,h3,h4⟩:=qT n l h;have hl:l < ops.size:=(Array.getElem?_eq_some_iff.1 h3).1
   by_cases hall : ∀k∈eI o,listed.getD k false=true
   ·exact ⟨l,Nat.le_refl _,h2,hu,gE.2 ⟨hl,hu,o,h3,hall⟩⟩
   ·have : ∃k∈eI o,listed.getD k false≠true:=by
     by_cases hx : ∃k∈eI o,listed.getD k false≠true
     ·exact hx
     ·exact absurd (fun k hk=>by
       by_cases hkk:listed.getD k false=true
       ·exact hkk
       ·exact absurd ⟨k,hk,hkk⟩ hx) hall
    obtain ⟨k,hk,hkk⟩:=this;rcases h4 k hk with h5 | h5
    ·exact absurd (hm k h5) hkk
    ·have hkl:=(qT l k h5).1;have hku:listed.getD k true=false:=by
      have hks:k < listed.size:=by omega
      rw[Array.getD_eq_getD_getElem?,Array.getElem?_eq_getElem hks] at hkk ⊢;simpa using hkk
     obtain ⟨l',a1,a2⟩:=ih k hkl l h5 hku;exact ⟨l',by omega,a2⟩
 exact fun l h hu=>key l n h hu
theorem uL {ops:Array Oper} {listed:Array Bool} (hsz:listed.size=ops.size) (hs:Shut ops listed) {i:Nat} (hi:i∈Region.ready .any ops listed):Shut ops (listed.setIfInBounds i true):=by
 obtain ⟨h1,h2,o,h3,h4⟩:=gE.1 hi;have hgd : ∀j d,(listed.setIfInBounds i true).getD j d=if j=i then true else listed.getD j d:=by
  intro j d;simp only[Array.getD_eq_getD_getElem?,Array.getElem?_setIfInBounds];by_cases hji:i=j
  ·subst hji;simp[hsz,h1]
  ·simp[hji,Ne.symm hji]
 intro k o' hk hl e he;rw[hgd] at hl ⊢;split
 ·rfl
 ·split at hl
  ·rename_i hki;subst hki;rw[h3] at hk;cases hk;exact h4 e he
  ·exact hs k o' hk hl e he
def YW (P:Program) (ops:Array Oper) (o:Oper) (v:Value) (a:Act) (w:World):Prop:=
 (Region.wanted o (yielded ops a.tmps)=true∧(execOp a.eval o).run P w = .ok (.value v) w)∨(Region.wanted o (yielded ops a.tmps)=false∧v=Go.undef)
theorem YW.wpOp {ops:Array Oper} {Q:Exit→Act→World→Prop} {i:Nat} {o:Oper} {v:Value} {a:Act} {w:World} (hi:ops[i]?=some o) (hy:YW P ops o v a w)
  {K:Act→World→Prop} (h:K (a.put o.dst v) w):wpOp P ops Q i K a w:=by
 unfold Go.wpOp;simp only[hi];rcases hy with ⟨hw,hv⟩ | ⟨hw,rfl⟩
 ·simp only[hw,if_true,Oper.wp,hv,Oper.upon];exact .inl h
 ·simp only[hw,Bool.false_eq_true,if_false];exact h
theorem tj {ops:Array Oper} {Q:Exit→Act→World→Prop} {i:Nat} {oi:Oper} {v:Value} (hi:ops[i]?=some oi) (hlt : ∀(i:Nat) (o:Oper),ops[i]?=some o→∀k∈eI o,k < i)
  {S:Act→World→Prop} (hy : ∀a w,S a w→YW P ops oi v a w)
  (keep : ∀(j:Nat) (oj:Oper),ops[j]?=some oj→o9 (di [] ops.toList) i j=true→∀(K:Act→World→Prop) (a:Act) (w:World),S a w→wpOp P ops Q j K (a.put oi.dst v) w→
   wpOp P ops Q j (fun a' w'=>S a' w'∧K (a'.put oi.dst v) w') a w) :
  ∀(fuel:Nat) (listed:Array Bool) (a:Act) (w:World),listed.size=ops.size→Shut ops listed→i∈Region.ready .any ops listed→S a w→
   wpAny P .any ops Q fuel (listed.setIfInBounds i true) (a.put oi.dst v) w→wpAny P .any ops Q (fuel+1) listed a w:=by
 intro fuel;induction fuel with
 | zero=>
  intro listed a w _ _ hr hS H;refine ⟨fun h=>(by rw[h] at hr;cases hr),fun j hj=>?_⟩
  by_cases hji:j=i
  ·subst hji;exact (hy a w hS).wpOp hi H
  ·have:=ready_mono hj hji
   rw[H.1] at this;cases this
 | succ fuel ih=>
  intro listed a w hsz hs hr hS H;refine ⟨fun h=>(by rw[h] at hr;cases hr),fun j hj=>?_⟩
  by_cases hji:j=i
  ·subst hji;exact (hy a w hS).wpOp hi H
  ·have h1:=H.2 j (ready_mono hj hji);obtain ⟨j1,j2,oj,hoj,j3⟩:=gE.1 hj;obtain ⟨i1,i2,oi',hoi',i3⟩:=gE.1 hr;rw[hi] at hoi';cases hoi';have no : ∀x y,listed.getD x true=false→listed.getD x false=true→y=true:=by
    intro x y e1 e2;rw[Array.getD_eq_getD_getElem?] at e1 e2;cases hx:listed[x]? with
    | none=>rw[hx] at e1;cases e1
    | some z=>rw[hx] at e1 e2;simp at e1 e2;rw[e1] at e2;cases e2
   have hun:o9 (di [] ops.toList) i j=true:=by
    unfold o9;simp only[Bool.and_eq_true,Bool.not_eq_true',bZ];refine ⟨by simpa using hji,?_,?_⟩
    ·cases hb:((di [] ops.toList).getD i 0).testBit j with
     | false=>rfl
     | true=>exact (no j false j2 (pC hs hlt i oi hi i3 j hb)).symm ▸ rfl
    ·cases hb:((di [] ops.toList).getD j 0).testBit i with
     | false=>rfl
     | true=>exact (no i false i2 (pC hs hlt j oj hoj j3 i hb)).symm ▸ rfl
   have h2:=keep j oj hoj hun _ a w hS h1;refine wpOp_mono (fun a' w' h3=>ih (listed.setIfInBounds j true) a' w' (by simpa using hsz) (uL hsz hs hj) (ready_mono hr (Ne.symm hji)) h3.1 ?_) h2
   rw[Array.setIfInBounds_comm _ _ hji];exact h3.2
theorem Sub.flds' {w:World} {g:Gh} {r:Nat} {ty:Nat} {p:List aH} {κ:aE} {q:List aH} {ty':Nat} {κ':aE} (hs:Sub E w g r ty p κ q ty' κ'):bj q=true→∃d,κ'=κ.add d:=by
 induction hs with
 | nil=>intro _;exact ⟨0,(aE.add_zero _).symm⟩
 | fld _ _ _ ih=>
  intro h;obtain ⟨d,hd⟩:=ih (by simpa[bj] using h)
  exact ⟨_,by rw[hd,aE.add_add]⟩
 | idx=>intro h;simp[bj] at h
theorem yh (hP:ba P E) {t j:Nat} {fs:List Nat} (hs:E.ty t = .st fs) (hj:j < fs.length) (v:Value):ge P (Instr.fieldAt t v j):=by
 obtain ⟨fds,fd,f,_,_,hu,hfd,c1,c2,c3,c5⟩:=oe hP hs hj;by_cases hv : ∃a,v = .pointer (some a)
 ·obtain ⟨a,rfl⟩:=hv;refine .inl ⟨.pointer (some (a.add fd.offset)),fun w=>?_⟩
  obtain ⟨i,hi,_,hsz,_⟩:=kr (w:=w) hP c5;simp[Instr.fieldAt,underlying,hu,hfd,Instr.sureAddr,fieldPlace,c1,hsz,c3]
 ·refine .inr ⟨.stuck "an address expected (no nilCheck in front?)", fun w => ?_⟩
  have : (Instr.sureAddr v).run P w = .halt (.stuck "an address expected (no nilCheck in front?)") w := by
   unfold Instr.sureAddr;split
   ·exact absurd ⟨_,rfl⟩ hv
   ·rfl
  simp[Instr.fieldAt,underlying,hu,hfd,this]
theorem wP {t j:Nat} {b:Bool} {x:AV} {e:Eff} (h:mP E t j b x=some e) : ∃fs,E.ty t = .st fs∧j < fs.length:=by
 unfold mP at h;split at h
 ·rename_i fs hs
  refine ⟨fs,hs,?_⟩;split at h
  ·rename_i ty r p
   cases hc:Nat.beq ty t&&decide (j < fs.length) with
   | false=>rw[hc] at h;cases h
   | true=>simp only[Bool.and_eq_true,decide_eq_true_eq] at hc;exact hc.2
  ·rename_i ty v
   cases hc:Nat.beq ty t&&decide (j < fs.length) with
   | false=>rw[hc] at h;cases h
   | true=>simp only[Bool.and_eq_true,decide_eq_true_eq] at hc;exact hc.2
  ·cases h
 ·cases h
theorem As {st:St} {a:Act} {w:World} {g:Gh} {hold:Nat→aE} (hI:Inv E n st a w g hold) {ty r:Nat} {p:List aH} {v:Value} (hv:aO E w g st.rt hold (.pref ty r p) v) (hb:bxd st r=true) (hp:bj p=true) :
  ∃b x,v = .pointer (some ⟨b,x,none⟩)∧g b = .hd r∧dm w b:=by
 cases hv with
 | @pref _ _ _ b o R h1 h2=>
  unfold bxd at hb;rw[h1] at hb;obtain ⟨b0,o0,e1,e2,e3⟩:=(hI.rts r R h1).box hb;obtain ⟨d,hd⟩:=h2.flds' hp;rw[e1] at hd;simp only[aE.add,aE.mem.injEq] at hd;obtain ⟨c,e,e4,_⟩:=e3;exact ⟨b,o,rfl,by rw[hd.1];exact e2,c,e,_,by rw[hd.1];exact e4⟩
theorem Bm (hP:ba P E) (hF:de P E) {fi:Fi} (hnt:fi.ntmps=n) (hn:n≤1000) {C:aF} (hC:O7 P E C) {ops:Array Oper} {fst:List Nat} {rws:List RW} {i:Nat} {oi:Oper} {st st1:St}
  (hi:ops[i]?=some oi) (hfst:i∈fst) (hfk:vK ops (di [] ops.toList) i=true) (hx:Fx fi E C ops fst rws i st st1) {a:Act} {w:World} {g:Gh} {hold:Nat→aE} (hI:Inv E n st a w g hold)
  {Q:Exit→Act→World→Prop} (hQ : ∀c a w,¬Q (.panic c) a w) (hlt : ∀(i:Nat) (o:Oper),ops[i]?=some o→∀k∈eI o,k < i) {fuel:Nat} {listed:Array Bool} (hsz:listed.size=ops.size) (hs:Shut ops listed) (hr:i∈Region.ready .any ops listed)
  (hnext : ∀v,ea E n w g hold st1 (a.put oi.dst v) w→wpAny P .any ops Q fuel (listed.setIfInBounds i true) (a.put oi.dst v) w):wpAny P .any ops Q (fuel+1) listed a w:=by
 have hw:=fx_ok hP hF hnt hn hC hx hI (Kn:=fun a' w'=>ea E n w g hold st1 a' w') (Q:=fun _ _ _=>False) fun _ _ h=>h
 unfold vK at hfk;rw[hi] at hfk;simp only[Bool.and_eq_true] at hfk;obtain ⟨hlk,hall⟩:=hfk;have hkeep : ∀(j:Nat) (oj:Oper),ops[j]?=some oj→o9 (di [] ops.toList) i j=true→vU ops oi oj=true:=by
  intro j oj hoj hun;have:=List.all_eq_true.1 hall j (List.mem_range.2 (Array.getElem?_eq_some_iff.1 hoj).1)
  rw[hun,hoj] at this;simpa using this
 unfold Go.wpOp at hw;simp only[hi] at hw;unfold lightK at hlk;split at hlk
 ·
  rename_i t x j hop
  have hyv : ∃v,Go.Yields P ops oi v a∧ea E n w g hold st1 (a.put oi.dst v) w:=by
   split at hw
   ·rename_i hwant
    rcases hw with hw | ⟨_,_,_,hf⟩
    rotate_left
    ·exact hf.elim
    obtain ⟨o,ρ,look,e,res,a1,a2,a3,a4,a5,_⟩:=hx;rw[hi] at a1;cases a1;obtain ⟨fs,hfs,hj⟩ : ∃fs,E.ty t = .st fs∧j < fs.length:=by
     unfold effG at a5;split at a5
     ·cases a5
     ·rename_i e0 he0
      unfold tC at he0;simp only[hop] at he0;exact wP he0
    unfold Oper.wp at hw;rcases yh hP hfs hj (a.eval x) with ⟨v,hv⟩ | ⟨y,hy⟩
    ·have hrun : ∀w,(execOp a.eval oi).run P w = .ok (.value v) w:=fun w=>by simp[execOp,hop,hv]
     rw[hrun] at hw;exact ⟨v,.inl ⟨hwant,hrun⟩,hw⟩
    ·have hrun:(execOp a.eval oi).run P w = .halt y w:=by simp[execOp,hop,hy]
     rw[hrun] at hw;cases y <;> exact hw.elim
   ·rename_i hwant
    exact ⟨_,.inr ⟨by simpa using hwant,rfl⟩,hw⟩
  obtain ⟨v,hy,haft⟩:=hyv;refine tj hi hlt (S:=fun a _=>Go.Yields P ops oi v a) (fun a w h=>?_) (fun j oj hoj hun K a w hS h=>?_) fuel listed a w hsz hs hr hy (hnext v haft)
  ·rcases h with ⟨h1,h2⟩ | h
   ·exact .inl ⟨h1,h2 w⟩
   ·exact .inr h
  ·have hk:=hkeep j oj hoj hun;unfold vU at hk;rw[hop,Bool.and_eq_true] at hk;refine wpOp_put hoj hk.1 (fun cs b=>by rw[hop];intro h;cases h) (fun cs b hsel=>?_) (fun c a w h=>absurd h (hQ _ _ _)) hS h
   have:=hk.2
   simp[hsel] at this
 ·
  rename_i t px hop
  have hselF : ∀cs b,oi.op≠.select cs b:=fun cs b=>by rw[hop];intro h;cases h
  let T:Act→World→Prop:=fun a w=>Region.wanted oi (yielded ops a.tmps)=true→∀(j:Nat) (oj:Oper) (t':TypeId) (q:Nat) (y:Operand),ops[j]?=some oj→o9 (di [] ops.toList) i j=true→oj.op = .store t' (.tmp q) y→
   ∃b x b' x',a.eval (.tmp px) = .pointer (some ⟨b,x,none⟩)∧a.eval (.tmp q) = .pointer (some ⟨b',x',none⟩)∧b'≠b∧dm w b∧dm w b'
  have hyv : ∃v,YW P ops oi v a w∧ea E n w g hold st1 (a.put oi.dst v) w:=by
   split at hw
   ·rename_i hwant
    rcases hw with hw | ⟨_,_,_,hf⟩
    rotate_left
    ·exact hf.elim
    unfold Oper.wp at hw;cases hrun:(Instr.loadAt t (a.eval (.tmp px))).run P w with
    | ok v w'=>
     have hww:=vY hrun;subst hww;have hrun':(execOp a.eval oi).run P w' = .ok (.value v) w':=by simp[execOp,hop,hrun]
     rw[hrun'] at hw;exact ⟨v,.inl ⟨hwant,hrun'⟩,hw⟩
    | halt y w'=>
     have hrun':(execOp a.eval oi).run P w = .halt y w':=by simp[execOp,hop,hrun]
     rw[hrun'] at hw;cases y <;> exact hw.elim
   ·rename_i hwant
    exact ⟨_,.inr ⟨by simpa using hwant,rfl⟩,hw⟩
  obtain ⟨v,hy,haft⟩:=hyv;have hT:T a w:=by
   intro hwant j oj t' q y hoj hun hopj;obtain ⟨o,ρ,look,e,res,a1,a2,a3,a4,a5,a6,a7,a8,a9,hld⟩:=hx;rw[hi] at a1;cases a1;unfold ldOk at hld;rw[eR.2 hfst,cond_true] at hld;simp only[hop] at hld;have:=List.all_eq_true.1 hld j (List.mem_range.2 (Array.getElem?_eq_some_iff.1 hoj).1)
   rw[hun,hoj] at this;simp only[Bool.not_true,Bool.false_or,hopj,Bool.and_eq_true] at this;obtain ⟨ty,r,p,ty',r',p',e1,e2,e3,ep,e4,e5,_⟩:=rT this.2;have v1:=hI.opd (.tmp px);have v2:=hI.tms q;have hst1:(bK (opd st (.tmp px))).1=true:=by
    cases hb:(bK (opd st (.tmp px))).1 with
    | true=>rfl
    | false=>
     exfalso
     have hund:a.eval (.tmp px)=Go.undef:=by
      revert v1 hb
      cases opd st (.tmp px) with
      | gd b x=>intro v1 hb;cases v1 with | gd _ h2=>exact h2 hb
      | _=>intro v1 hb;cases hb
     rcases hy with ⟨_,y2⟩ | ⟨y1,_⟩
     ·simp[execOp,hop,hund,Instr.loadAt,Instr.sureAddr,Go.undef] at y2
     ·rw[hwant] at y1;cases y1
   have v1:=fV v1 hst1;rw[e1] at v1;rw[e2] at v2;obtain ⟨b,x,q1,q2,q3⟩:=As hI v1 e4 ep.1;obtain ⟨b',x',q4,q5,q6⟩:=As hI v2 e5 ep.2;refine ⟨b,x,b',x',q1,q4,?_,q3,q6⟩;rintro rfl
   rw[q2] at q5;cases q5;exact e3 rfl
  have hpx:Tmp:=px
  refine tj hi hlt (S:=fun a w=>YW P ops oi v a w∧T a w) (fun a w h=>h.1) (fun j oj hoj hun K a w hS h=>?_) fuel listed a w hsz hs hr ⟨hy,hT⟩ (hnext v haft)
  have hk:=hkeep j oj hoj hun;unfold vU at hk;rw[hop,Bool.and_eq_true] at hk;simp only at hk
  obtain ⟨hap,hk2⟩:=hk;obtain ⟨h1,h2,h3⟩:=Oper.apart_spec hap;have nodst : ∀(j':Nat) (oj':Oper) (t':TypeId) (q:Nat) (y:Operand),ops[j']?=some oj'→o9 (di [] ops.toList) i j'=true→oj'.op = .store t' (.tmp q) y→∀u,(a.put oj.dst u).eval (.tmp q)=a.eval (.tmp q):=by
   intro j' oj' t' q y hoj' hun' hop' u;have hk':=hkeep j' oj' hoj' hun';unfold vU at hk';rw[hop,Bool.and_eq_true,hop'] at hk';refine Act.eval_put fun d hd hq=>?_
   cases hq;have:=List.all_eq_true.1 hk'.2 oj (Array.mem_toList_iff.2 (Array.mem_of_getElem? hoj))
   rw[hd] at this;simp[bZ] at this
  have evpx : ∀u,(a.put oj.dst u).eval (.tmp px)=a.eval (.tmp px):=fun u=>Act.eval_put fun d hd hq=>by
   cases hq;exact h3 px hd (by simp[Oper.looksAt,hop,Op.operands])
  have wpx : ∀u,Region.wanted oi (yielded ops (a.put oj.dst u).tmps)=Region.wanted oi (yielded ops a.tmps):=fun u=>wanted_put oi a oj.dst u h3
  have keepS : ∀u w'',(w''=w∨∃t' q y b',oj.op = .store t' (.tmp q) y∧(∃x',a.eval (.tmp q) = .pointer (some ⟨b',x',none⟩))∧(∀b,b≠b'→w''.heap[b]?=w.heap[b]?)∧(dm w b'→dm w'' b'))→YW P ops oi v (a.put oj.dst u) w''∧T (a.put oj.dst u) w'':=by
   intro u w'' hww;refine ⟨?_,fun hwant j' oj' t' q y hoj' hun' hop'=>?_⟩
   ·unfold YW;rw[wpx,execOp_put oi hselF a oj.dst u h3];rcases hS.1 with ⟨y1,y2⟩ | y1
    ·refine .inl ⟨y1,?_⟩;rcases hww with rfl | ⟨t',q,y,b',hopj,⟨x',hx'⟩,hoth,_⟩
     ·exact y2
     ·obtain ⟨b,x,b2,x2,c1,c2,c3,c4,c5⟩:=hS.2 y1 j oj t' q y hoj hun hopj;rw[hx'] at c2;cases c2;have y3:(do let v ← Instr.loadAt t (a.eval (.tmp px));Pure.pure (Next.value v):Sem Next).run P w = .ok (.value v) w:=by simpa[execOp,hop] using y2
      rw[Sem.run_bind,c1] at y3;cases hrun:(Instr.loadAt t (.pointer (some ⟨b,x,none⟩))).run P w with
      | halt y w'=>rw[hrun] at y3;cases y3
      | ok v' w'=>
       rw[hrun] at y3;obtain ⟨rfl,l2⟩:=load_at (w1:=w'') c4 (hoth b (Ne.symm c3)) hrun;simp only[Result.andThen,Sem.run_pure] at y3;cases y3;simp[execOp,hop,c1,l2]
    ·exact .inr y1
   ·rw[wpx] at hwant;obtain ⟨b,x,b2,x2,c1,c2,c3,c4,c5⟩:=hS.2 hwant j' oj' t' q y hoj' hun' hop';rw[evpx,nodst j' oj' t' q y hoj' hun' hop'];refine ⟨b,x,b2,x2,c1,c2,c3,?_,?_⟩
    ·rcases hww with rfl | ⟨t'',q',y',b',hopj,⟨x',hx'⟩,hoth,hcb⟩
     ·exact c4
     ·by_cases hbb:b=b'
      ·subst hbb;exact hcb c4
      ·exact c4.same (hoth b hbb)
    ·rcases hww with rfl | ⟨t'',q',y',b',hopj,⟨x',hx'⟩,hoth,hcb⟩
     ·exact c5
     ·by_cases hbb:b2=b'
      ·subst hbb;exact hcb c5
      ·exact c5.same (hoth b2 hbb)
  unfold Go.wpOp at h ⊢;simp only[hoj] at h ⊢;rw[wanted_put oj a oi.dst v h1] at h;split
  rotate_left
  ·rename_i hwj
   rw[if_neg hwj] at h;exact ⟨keepS _ _ (.inl rfl),by rw[← Act.put_comm a v Go.undef h2];exact h⟩
  rename_i hwj
  rw[if_pos hwj] at h;split at hk2
  ·rename_i t' x' hopj
   have hselJ : ∀cs b,oj.op≠.select cs b:=fun cs b=>by rw[hopj];intro h;cases h
   rcases h with h | ⟨hasks,hlets⟩
   rotate_left
   ·exact .inr ⟨by unfold Oper.asks at *;rw[execOp_put oj hselJ a oi.dst v h1] at hasks;exact hasks,hlets⟩
   refine .inl ?_;unfold Oper.wp at *
   rw[execOp_put oj hselJ a oi.dst v h1] at h;cases hrun:(Instr.loadAt t' (a.eval x')).run P w with
   | ok u w'=>
    have hww:=vY hrun;subst hww;have hrun':(execOp a.eval oj).run P w' = .ok (.value u) w':=by simp[execOp,hopj,hrun]
    rw[hrun'] at h ⊢;exact ⟨keepS _ _ (.inl rfl),by rw[← Act.put_comm a v u h2];exact h⟩
   | halt y w'=>
    have hrun':(execOp a.eval oj).run P w = .halt y w':=by simp[execOp,hopj,hrun]
    rw[hrun'] at h ⊢;cases y <;> first
     | exact h.elim
     | exact absurd h (hQ _ _ _)
  ·rename_i t' q y hopj
   have hselJ : ∀cs b,oj.op≠.select cs b:=fun cs b=>by rw[hopj];intro h;cases h
   rcases h with h | ⟨hasks,hlets⟩
   rotate_left
   ·exact .inr ⟨by unfold Oper.asks at *;rw[execOp_put oj hselJ a oi.dst v h1] at hasks;exact hasks,hlets⟩
   refine .inl ?_;unfold Oper.wp at *
   rw[execOp_put oj hselJ a oi.dst v h1] at h;have hrun0:(execOp a.eval oj).run P w=(do Instr.storeAt t' (a.eval (.tmp q)) (a.eval y);Pure.pure Next.skip:Sem Next).run P w:=by simp[execOp,hopj]
   rw[hrun0,Sem.run_bind] at h ⊢;cases hrun:(Instr.storeAt t' (a.eval (.tmp q)) (a.eval y)).run P w with
   | ok u w'=>
    rw[hrun] at h;simp only[Result.andThen,Sem.run_pure,Oper.upon] at h ⊢;refine ⟨?_,by rw[← Act.put_comm a v Go.undef h2];exact h⟩
    rcases hS.1 with ⟨y1,y2⟩ | ⟨y1,y2⟩
    ·obtain ⟨b,x,b2,x2,c1,c2,c3,c4,c5⟩:=hS.2 y1 j oj t' q y hoj hun hopj;rw[c2] at hrun;obtain ⟨s1,s2⟩:=store_at c5 hrun;exact keepS _ _ (.inr ⟨t',q,y,b2,hopj,⟨x2,c2⟩,s1,fun _=>s2⟩)
    ·refine ⟨.inr ⟨by rw[wpx];exact y1,y2⟩,fun hwant=>?_⟩
     rw[wpx,y1] at hwant;cases hwant
   | halt y' w'=>
    rw[hrun] at h;simp only[Result.andThen] at h ⊢;cases y' <;> first
     | exact h.elim
     | exact absurd h (hQ _ _ _)
  ·cases hk2
 ·cases hlk
theorem least_ex {p:Nat→Prop} (h : ∃i,p i) : ∃i,p i∧∀j,j < i→¬p j:=by
 obtain ⟨i,hi⟩:=h;induction i using Nat.strongRecOn with
 | ind i ih=>
  by_cases hx : ∃j,j < i∧p j
  ·obtain ⟨j,h1,h2⟩:=hx;exact ih j h1 h2
  ·exact ⟨i,hi,fun j hj hp=>hx ⟨j,hj,hp⟩⟩
theorem any_ok (hP:ba P E) (hF:de P E) {fi:Fi} (hnt:fi.ntmps=n) (hn:n≤1000) {C:aF} (hC:O7 P E C) {ops:Array Oper} {fst:List Nat} {rws:List RW} (hdo:re ops fst rws=true) {Q:Exit→Act→World→Prop} (hQ : ∀c a w,¬Q (.panic c) a w) {st':St} :
  ∀(fuel:Nat) (listed:Array Bool) {st:St} {a:Act} {w:World} {g:Gh} {hold:Nat→aE},listed.size=ops.size→Shut ops listed→(fD ops listed).length≤fuel→FxL fi E C ops fst rws (fD ops listed) st st'→
   Inv E n st a w g hold→(∀a' w',ea E n w g hold st' a' w'→Q .normal a' w')→wpAny P .any ops Q fuel listed a w:=by
 have hdo' : ∀(i:Nat) (oi:Oper),ops[i]?=some oi→(∀k∈eI oi,k < i)∧∀l,l < i→((di [] ops.toList).getD i 0).testBit l=true∨(fP ops (di [] ops.toList) fst i i).testBit l=true∨∀ol,ops[l]?=some ol→tE ops rws l i ol oi=true:=by
  intro i oi ho;have hi:i < ops.size:=(Array.getElem?_eq_some_iff.1 ho).1
  unfold re at hdo;rw[Bool.and_eq_true] at hdo;have:=List.all_eq_true.1 hdo.2 i (List.mem_range.2 hi)
  rw[ho] at this;simp only[Bool.and_eq_true,List.all_eq_true,decide_eq_true_eq,Bool.or_eq_true,List.mem_range] at this;refine ⟨this.1,fun l hl=>?_⟩
  rcases this.2 l hl with (h | h) | h
  ·exact .inl h
  ·exact .inr (.inl h)
  ·refine .inr (.inr fun ol hol=>?_)
   rw[hol] at h;exact h
 have hfst' : ∀i∈fst,vK ops (di [] ops.toList) i=true:=by
  unfold re at hdo;rw[Bool.and_eq_true] at hdo;exact List.all_eq_true.1 hdo.1
 have nil_of : ∀(listed:Array Bool),listed.size=ops.size→Region.ready .any ops listed = []→fD ops listed = []:=by
  intro listed hsz hr;cases hrem:fD ops listed with
  | nil=>rfl
  | cons i l=>
   exfalso
   have hmin : ∀j,j < ops.size→listed.getD j true=false→i≤j:=by
    intro j hj hjl;have hjm:j∈fD ops listed:=by unfold fD;rw[List.mem_filter];exact ⟨List.mem_range.2 hj,by rw[hjl];rfl⟩
    have hsort:(fD ops listed).Pairwise (· < ·):=List.pairwise_lt_range.filter _
    rw[hrem] at hjm hsort;rcases List.mem_cons.1 hjm with rfl | hjm
    ·exact Nat.le_refl _
    ·exact Nat.le_of_lt ((List.pairwise_cons.1 hsort).1 j hjm)
   have him:i∈fD ops listed:=by rw[hrem];simp
   unfold fD at him;rw[List.mem_filter,List.mem_range,Bool.not_eq_true'] at him;have:i∈Region.ready .any ops listed:=by
    rw[gE];refine ⟨him.1,him.2,_,Array.getElem?_eq_getElem him.1,fun k hk=>?_⟩
    have hki:=(hdo' i _ (Array.getElem?_eq_getElem him.1)).1 k hk;have hks:k < listed.size:=by rw[hsz];omega
    cases hv:listed.getD k false with
    | true=>rfl
    | false=>
     have:listed.getD k true=false:=by
      rw[Array.getD_eq_getD_getElem?,Array.getElem?_eq_getElem hks] at hv ⊢;simpa using hv
     have:=hmin k (by omega) this
     omega
   rw[hr] at this;cases this
 intro fuel;induction fuel with
 | zero=>
  intro listed st a w g hold hsz hs hlen hx hI hQ;have hrem:fD ops listed = []:=List.length_eq_zero_iff.1 (by omega)
  rw[hrem] at hx;cases hx;refine ⟨?_,hQ a w ⟨g,hold,Stp.refl _ _,fun _ _=>rfl,hI⟩⟩
  cases hr:Region.ready .any ops listed with
  | nil=>rfl
  | cons i l=>
   have:i∈Region.ready .any ops listed:=by rw[hr];simp
   obtain ⟨h1,h2,_⟩:=gE.1 this;have:i∈fD ops listed:=by unfold fD;rw[List.mem_filter];exact ⟨List.mem_range.2 h1,by rw[h2];rfl⟩
   rw[hrem] at this;cases this
 | succ fuel ih=>
  intro listed st a w g hold hsz hs hlen hx hI hQn;have stepd : ∀i,i∈Region.ready .any ops listed→(∀l,l < i→listed.getD l true=false→(fP ops (di [] ops.toList) fst i i).testBit l=true→False)→
    ∃st1,Fx fi E C ops fst rws i st st1∧FxL fi E C ops fst rws (fD ops (listed.setIfInBounds i true)) st1 st'∧(fD ops (listed.setIfInBounds i true)).length≤fuel:=by
   intro i hi hea;obtain ⟨h1,h2,o,h3,h4⟩:=gE.1 hi;have him:i∈fD ops listed:=by unfold fD;rw[List.mem_filter];exact ⟨List.mem_range.2 h1,by rw[h2];rfl⟩
   obtain ⟨l1,l2,hsplit⟩:=List.append_of_mem him;have hnod:(fD ops listed).Nodup:=List.nodup_range.filter _
   have hsort:(fD ops listed).Pairwise (· < ·):=List.pairwise_lt_range.filter _
   have hfree : ∀l∈l1,∀ol oi,ops[l]?=some ol→ops[i]?=some oi→tE ops rws l i ol oi=true:=by
    intro l hl ol oi hol hoi;have hli:l < i:=by
     rw[hsplit,List.pairwise_append] at hsort;exact hsort.2.2 l hl i (by simp)
    have hlm:l∈fD ops listed:=by rw[hsplit];simp[hl]
    unfold fD at hlm;rw[List.mem_filter,List.mem_range,Bool.not_eq_true'] at hlm;rcases (hdo' i oi hoi).2 l hli with hb | hb | hb
    ·exfalso
     rw[h3] at hoi;cases hoi;have:=pC hs (fun i o ho=>(hdo' i o ho).1) i o h3 h4 l hb
     rw[Array.getD_eq_getD_getElem?,Array.getElem?_eq_getElem (by omega)] at this hlm
     simp_all
    ·exact (hea l hli hlm.2 hb).elim
    ·exact hb ol hol
   rw[hsplit] at hx;obtain ⟨st1,x1,x2⟩:=hx.front hfree;have hgd : ∀j d,(listed.setIfInBounds i true).getD j d=if j=i then true else listed.getD j d:=by
    intro j d;simp only[Array.getD_eq_getD_getElem?,Array.getElem?_setIfInBounds];by_cases hji:i=j
    ·subst hji;simp[hsz,h1]
    ·simp[hji,Ne.symm hji]
   have hrem':fD ops (listed.setIfInBounds i true)=l1++l2:=by
    rw[← z7 hnod hsplit];unfold fD;rw[List.filter_filter];congr 1
    funext j
    rw[hgd];by_cases hji:j=i
    ·simp[hji]
    ·simp[hji]
   refine ⟨st1,x1,by rw[hrem'];exact x2,?_⟩
   rw[hrem'];rw[hsplit] at hlen;simp only[List.length_append,List.length_cons] at hlen ⊢;omega
  have hmask : ∀i,i∈Region.ready .any ops listed→∀b,((di [] ops.toList).getD i 0).testBit b=true→listed.getD b false=true:=by
   intro i hi;obtain ⟨h1,h2,o,h3,h4⟩:=gE.1 hi;exact pC hs (fun i o ho=>(hdo' i o ho).1) i o h3 h4
  by_cases h0 : ∃i,i∈fst∧i∈Region.ready .any ops listed
  ·obtain ⟨i,⟨hif,hir⟩,hmin⟩:=least_ex h0;obtain ⟨st1,x1,x2,x3⟩:=stepd i hir fun l hli hu he=>by
    obtain ⟨l',m1,m2,_,m4⟩:=u4 hsz (hmask i hir) l he hu;exact hmin l' (by omega) ⟨m2,m4⟩
   obtain ⟨h1,h2,o,h3,h4⟩:=gE.1 hir;refine Bm hP hF hnt hn hC h3 hif (hfst' i hif) x1 hI hQ (fun i o ho=>(hdo' i o ho).1) hsz hs hir fun v haft=>?_
   obtain ⟨g',hold',k1,k2,k3⟩:=haft;refine ih _ (by simpa using hsz) (uL hsz hs hir) x3 x2 k3 ?_
   rintro a2 w2 ⟨g2,hold2,m1,m2,m3⟩
   exact hQn a2 w2 ⟨g2,hold2,k1.trans m1,k2.trans m2,m3⟩
  ·refine ⟨fun hr=>?_,fun i hi=>?_⟩
   ·rw[nil_of listed hsz hr] at hx;cases hx;exact hQn a w ⟨g,hold,Stp.refl _ _,fun _ _=>rfl,hI⟩
   ·obtain ⟨st1,x1,x2,x3⟩:=stepd i hi fun l hli hu he=>by
     obtain ⟨l',m1,m2,_,m4⟩:=u4 hsz (hmask i hi) l he hu;exact h0 ⟨l',m2,m4⟩
    refine fx_ok hP hF hnt hn hC x1 hI fun a' w' ha=>?_
    obtain ⟨g',hold',k1,k2,k3⟩:=ha;refine ih _ (by simpa using hsz) (uL hsz hs hi) x3 x2 k3 ?_
    rintro a2 w2 ⟨g2,hold2,m1,m2,m3⟩
    exact hQn a2 w2 ⟨g2,hold2,k1.trans m1,k2.trans m2,m3⟩
theorem u7 {fi:Fi} {C:aF} {ops:Array Oper} {fst:List Nat} {rws:List RW} {K:St→R} {r:List T} : ∀(l:List Oper) (i:Nat),(∀j,l[j]?=ops[i+j]?)→∀{st:St},iQ fi E C ops fst rws i l st K=some r→
  ∃st',FxL fi E C ops fst rws (List.range' i l.length) st st'∧K st'=some r
 | [],i,_,st,h=>⟨st,.nil,h⟩
 | o :: l,i,hl,st,h=>by
  have hi:ops[i]?=some o:=by have:=hl 0;simpa using this.symm
  simp only[iQ,rh] at h;cases hld:ldOk ops fst (rws.getD i ([],[])) i o st with
  | false=>rw[hld] at h;cases h
  | true=>
  rw[hld] at h;simp only[Bool.not_true,cond_false] at h;split at h
  ·cases h
  rename_i e hee
  cases hp:e.pre with
  | false=>rw[hp] at h;cases h
  | true=>
   rw[hp,cond_true] at h;have fin : ∀res,(match e.req with | none=>res = [] | some (f,ts)=>(bif e.g then C f ts else some [])=some res)→
     (bif fits (rws.getD i ([],[])) (e.ret res) then iQ fi E C ops fst rws (i+1) l (aX o.dst (e.ret res) st) K else none)=some r→
     ∃st',FxL fi E C ops fst rws (List.range' i (o :: l).length) st st'∧K st'=some r:=by
    intro res hres hk;cases hft:fits (rws.getD i ([],[])) (e.ret res) with
    | false=>rw[hft] at hk;cases hk
    | true=>
     rw[hft,cond_true] at hk;obtain ⟨st',k1,k2⟩:=u7 l (i+1) (fun j=>by have:=hl (j+1);rw[show i+1+j=i+(j+1) by omega];simpa using this) hk
     refine ⟨st',?_,k2⟩;rw[List.length_cons,List.range'_succ];refine .cons ⟨o,_,_,e,res,hi,fun x=>?_,fun t ht=>?_,fun r R hr=>?_,hee,hp,hres,hft,rfl,hld⟩ k1
     ·cases x with
      | tmp t=>
       simp only[rp,opd];cases hc:mem t (o.looksAt ops) with
       | false=>exact ⟨.undef,fun r hr=>by simp[AV.keys] at hr⟩
       | true=>
        simp only[cond_true,AV.only];generalize (((st.tm t).refs.filter fun r=>!(mem r (rws.getD i ([],[])).1||mem (r+600000) (rws.getD i ([],[])).1)).map fun r=>(r,0))=kk
        cases hk:mU ((st.tm t).cut kk).keys (rws.getD i ([],[])).1 with
        | false=>exact ⟨.undef,fun r hr=>by simp[AV.keys] at hr⟩
        | true=>exact ⟨.cut _ .refl,kw.1 hk⟩
      | const v=>exact ⟨.refl,fun r hr=>by simp[rp,AV.keys] at hr⟩
      | func f=>exact ⟨.refl,fun r hr=>by simp[rp,AV.keys] at hr⟩
      | global g=>exact ⟨.refl,fun r hr=>by simp[rp,AV.keys] at hr⟩
     ·simp only[rp] at ht;cases hc:mem t (o.looksAt ops) with
      | false=>rw[hc] at ht;exact absurd rfl ht
      | true=>exact eR.1 hc
     ·unfold AL at hr;cases hm:mem r (rws.getD i ([],[])).1 with
      | false=>rw[hm] at hr;cases hr
      | true=>rw[hm] at hr;exact ⟨hr,eR.1 hm⟩
   split at h
   ·rename_i hreq
    exact fin [] (by rw[hreq]) h
   ·rename_i f ts hreq
    split at h
    ·rename_i res hres
     exact fin res (by rw[hreq];exact hres) h
    ·cases h
theorem draw_ok (hP:ba P E) (hF:de P E) {fi:Fi} (hnt:fi.ntmps=n) (hn:n≤1000) {C:aF} (hC:O7 P E C) (hmix:P.follows .mixedOrders=true) {id:Nat} {ops:Array Oper} {fst:List Nat} {rws:List RW}
  (hdo:re ops fst rws=true) {st:St} {a:Act} {w:World} {g:Gh} {hold:Nat→aE} (h:Inv E n st a w g hold) {K:St→R} {r:List T} (he:iQ fi E C ops fst rws 0 ops.toList st K=some r)
  {Q:Exit→Act→World→Prop} (hQp : ∀c a w,¬Q (.panic c) a w) (hQ : ∀st' a' w',K st'=some r→ea E n w g hold st' a' w'→Q .normal a' w'):(Code.region id ops true).wp P Q a w:=by
 obtain ⟨st',h1,h2⟩:=u7 ops.toList 0 (fun j=>by simp) he
 refine wp_region_any hmix ?_;have hI:Inv E n st a { w with drawn:=w.drawn+1 } g hold:=by
  refine ⟨h.size,h.defers,fun t=>?_,fun r R hr=>?_,h.bnd,h.kn.step fun b hb=>⟨⟨fun _=>rfl,fun _ h=>h⟩,hb⟩⟩
  ·have:=(h.tms t).cut (ks:=[]) (w:=w) (w':={ w with drawn:=w.drawn+1 }) (g':=g) (rt':=st.rt) (hold':=hold) hP.wf (fun b hb=>⟨⟨fun _=>rfl,fun _ h=>h⟩,hb⟩)
    (hU.of (w:=w) (g:=g) hP.wf h.rts fun r R hR=>.keep hR ⟨rfl,fun b _=>⟨⟨fun _=>rfl,fun _ h=>h⟩,rfl⟩⟩)
   rwa [jd] at this
  ·exact (h.rts r R hr).keep hP.wf ⟨rfl,fun b _=>⟨⟨fun _=>rfl,fun _ h=>h⟩,rfl⟩⟩ fun b hb=>⟨⟨fun _=>rfl,fun _ h=>h⟩,hb⟩
 have hrem:fD ops (Array.replicate ops.size false)=List.range ops.size:=by
  unfold fD;rw[List.filter_eq_self];intro i hi;rw[List.mem_range] at hi;simp[Array.getD_eq_getD_getElem?,hi]
 refine any_ok hP hF hnt hn hC hdo hQp ops.size _ (by simp) (fun k o hk hl=>?_) (by rw[hrem];simp) (by rw[hrem,List.range_eq_range'];simpa using h1) hI fun a' w' ha=>hQ st' a' w' h2 ?_
 ·rw[Array.getD_eq_getD_getElem?] at hl;by_cases hkk:k < ops.size <;> simp[hkk] at hl
 ·obtain ⟨g',hold',k1,k2,k3⟩:=ha;exact ⟨g',hold',(Stp.drew w g).trans k1,k2,k3⟩
end
section
variable {E:Env} {n:Nat} {w:World} {g:Gh} {hold:Nat→aE}
theorem aO.less {rt rt':Nat→Option Rt} {a:AV} {v:Value} (h:aO E w g rt hold a v):(∀r∈a.refs,rt' r=rt r)→aO E w g rt' hold a v:=by
 induction h with
 | undef=>intro _;exact .undef
 | val h1 h2=>intro _;exact .val h1 h2
 | cst=>intro _;exact .cst
 | nil h=>intro _;exact .nil h
 | fnc=>intro _;exact .fnc
 | gd _ h2 ih=>intro hr;exact .gd (fun hb=>ih hb (by simpa[AV.refs] using hr)) h2
 | sref h1 h2 h3 h4=>intro hr;exact .sref (by rw[hr _ (by simp[AV.refs])];exact h1) h2 h3 h4
 | sub h1 h2 h3 h4 h5 h6 h7 h8 h9=>intro hr;exact .sub (by rw[hr _ (by simp[AV.refs])];exact h1) h2 h3 h4 h5 h6 h7 h8 h9
 | pref h1 h2=>intro hr;exact .pref (by rw[hr _ (by simp[AV.refs])];exact h1) h2
 | fptr h1 h2 h3=>intro _;exact .fptr h1 h2 h3
 | ln h1=>intro _;exact .ln h1
 | pv _ h2 h3 h4 ih=>intro hr;exact .pv (ih (by simpa[AV.refs] using hr)) h2 h3 h4
 | alt h1 h2 h3 h4 h5 h6=>intro hr;exact .alt (by rw[hr _ (by simp[AV.refs])];exact h1) h2 h3 h4 h5 h6
 | row h1 h2 h3 h4 h5 h6 h7 _ h9 ih=>intro hr;exact .row (by rw[hr _ (by simp[AV.refs])];exact h1) h2 h3 h4 h5 h6 h7 (ih fun r hra=>hr r (by simp[AV.refs,hra])) h9
 | agg h1 h2 h3 h4 h5 ih=>
  intro hr;have mem : ∀{l:List AV} {j:Nat} {a:AV},l[j]?=some a→∀r∈a.refs,r∈AV.refsL l:=by
   intro l;induction l with
   | nil=>intro j a h;simp at h
   | cons x l ihl=>intro j a h r hr;cases j with
    | zero=>simp at h;subst h;simp[AV.refsL,hr]
    | succ j=>simp only[AV.refsL,List.mem_append];exact .inr (ihl (by simpa using h) r hr)
  exact .agg h1 h2 h3 (fun j a v ha hv=>ih j a v ha hv fun r hra=>hr r (by simp only[AV.refs];exact mem ha r hra)) h5
 | tup h1 h2 ih=>
  intro hr;have mem : ∀{l:List AV} {j:Nat} {a:AV},l[j]?=some a→∀r∈a.refs,r∈AV.refsL l:=by
   intro l;induction l with
   | nil=>intro j a h;simp at h
   | cons x l ihl=>intro j a h r hr;cases j with
    | zero=>simp at h;subst h;simp[AV.refsL,hr]
    | succ j=>simp only[AV.refsL,List.mem_append];exact .inr (ihl (by simpa using h) r hr)
  exact .tup h1 (fun j a v ha hv=>ih j a v ha hv fun r hra=>hr r (by simp only[AV.refs];exact mem ha r hra))
theorem mp (f:Nat→Option Rt) : ∀(l:List Nat) (r:Nat),aJ (l.filterMap fun r=>(f r).map fun R=>(r,R)) r=if r∈l then f r else none
 | [],r=>by simp[aJ]
 | k :: l,r=>by
  simp only[List.filterMap_cons];cases hk:f k with
  | none=>
   simp only[Option.map_none];rw[mp f l r];by_cases h:r=k
   ·subst h;simp[hk]
   ·simp[h]
  | some R=>
   simp only[Option.map_some,aJ,bZ];rw[mp f l r];by_cases h:k=r
   ·subst h;simp[hk]
   ·simp[h,Ne.symm h]
theorem Inv.canon {st:St} {a:Act} (h:Inv E n st a w g hold) (ks:List Nat):Inv E n (jY (canon ks st)) a w g hold:=by
 have hrt : ∀r,(jY (Ra.canon ks st)).rt r=if r∈(ks.flatMap fun t=>(st.tm t).refs).eraseDups then st.rt r else none:=by
  intro r;simp only[jY,Ra.canon];exact mp st.rt _ r
 have htm : ∀t,(jY (Ra.canon ks st)).tm t=if t∈ks then st.tm t else .undef:=by
  intro t;simp only[jY,Ra.canon];rw[jG st.tm ks t];split <;> rfl
 refine ⟨h.size,h.defers,fun t=>?_,fun r R hr=>?_,h.bnd,h.kn⟩
 ·rw[htm];by_cases ht:t∈ks
  ·rw[if_pos ht];refine (h.tms t).less fun r hr=>?_
   rw[hrt,if_pos (by rw[List.mem_eraseDups];exact List.mem_flatMap.2 ⟨t,ht,hr⟩)]
  ·rw[if_neg ht];exact .undef
 ·rw[hrt] at hr;split at hr
  ·exact h.rts r R hr
  ·cases hr
end
section
variable {P:Program} {E:Env} {n:Nat}
def Goal (P:Program) (E:Env) (n:Nat) (fi:Fi) (r:List T) (todo:List Item) (a:Act) (w:World) (g:Gh) (hold:Nat→aE):Prop:=
 ∀(b:Frame) (cs:List Frame),∃a' w' todo' st',Steps P (lone (b.at a todo) cs w) (lone { b.at a' todo' with mode:=.returning } cs w')∧pV fi E st'=some r∧ea E n w g hold st' a' w'
def HOk (P:Program) (E:Env) (n:Nat) (fi:Fi) (H:List Item→CS→R):Prop:=
 ∀body k cs r,H (.inLoop body :: k) cs=some r→∀a w g hold,Inv E n (jY cs) a w g hold→Goal P E n fi r (.code body :: .inLoop body :: k) a w g hold
theorem Goal.step {fi:Fi} {r:List T} {todo todo':List Item} {a:Act} {w:World} {g:Gh} {hold:Nat→aE} (h:Goal P E n fi r todo' a w g hold)
  (hs : ∀(b:Frame) (cs:List Frame),step P (lone (b.at a todo) cs w) = .next (lone (b.at a todo') cs w)):Goal P E n fi r todo a w g hold:=by
 intro b cs;obtain ⟨a',w',t',st',s,h1,h2⟩:=h b cs;exact ⟨a',w',t',st',.head (hs b cs) s,h1,h2⟩
theorem ex_ok (hP:ba P E) (hF:de P E) {fi:Fi} (hnt:fi.ntmps=n) (hn:n≤1000) {C:aF} (hC:O7 P E C) {H:List Item→CS→R} (hH:HOk P E n fi H) (hmix:P.follows .mixedOrders=true) :
  ∀(m:Nat) (todo:List Item) (st:St) (r:List T),ex fi E H C m todo st=some r→∀{a:Act} {w:World} {g:Gh} {hold:Nat→aE},Inv E n st a w g hold→Goal P E n fi r todo a w g hold:=by
 intro m;induction m with
 | zero=>intro todo st r h;simp[ex] at h
 | succ m ih=>
  intro todo st r h a w g hold hI;unfold ex at h;split at h
  ·intro b cs;exact ⟨a,w,_,st,.one step_end,h,g,hold,Stp.refl _ _,fun _ _=>rfl,hI⟩
  ·intro b cs;exact ⟨a,w,_,st,.one step_ret,h,g,hold,Stp.refl _ _,fun _ _=>rfl,hI⟩
  ·exact (ih _ _ _ h hI).step fun b cs=>step_skip
  ·exact (ih _ _ _ h hI).step fun b cs=>step_label
  ·exact (ih _ _ _ h hI).step fun b cs=>step_inBlock
  ·exact (ih _ _ _ h hI).step fun b cs=>step_lone_go (by simp[stepG,stepG.exec,Frame.at])
  ·exact (ih _ _ _ h hI).step fun b cs=>step_lone_go (by simp[stepG,stepG.exec,Frame.at])
  ·exact (ih _ _ _ h hI).step fun b cs=>step_seq
  ·rename_i c x y k
   have hav:=hI.opd c;generalize hst:bK (opd st c)=sv at h
   have go : ∀{t:Bool} {bb:Bool},a.eval c = .bool t→(bif t then ex fi E H C m (.code x :: k) st else ex fi E H C m (.code y :: k) st)=some r→Goal P E n fi r (.code (.cond c x y) :: k) a w g hold:=by
    intro t bb hv hr;cases t with
    | true=>exact (ih _ _ _ (by simpa using hr) hI).step fun b cs=>step_cond hv
    | false=>exact (ih _ _ _ (by simpa using hr) hI).step fun b cs=>step_cond hv
   split at h
   ·rename_i bb ty v
    cases hbt:cT E ty with
    | false=>rw[hbt] at h;cases h
    | true=>
     rw[hbt,cond_true] at h;cases bb with
     | false=>cases h
     | true=>
      have h1:=fV hav (by rw[hst])
      rw[hst] at h1;have hval:=ji hP.wf (fF hbt) (show vt E ty (.val ty v)=some v by simp[vt,sn]) h1
      have hI':Inv E n (setC st c ty v.b) a w g hold:=by
       cases c with
       | tmp t=>exact zP hP hI hbt h1
       | _=>exact hI
      cases hvb:v.b with
      | true=>rw[hvb] at h hval hI';exact (ih _ _ _ h hI').step fun b cs=>step_cond hval
      | false=>rw[hvb] at h hval hI';exact (ih _ _ _ h hI').step fun b cs=>step_cond hval
   ·rename_i bb v
    cases bb with
    | false=>cases h
    | true=>
     have h1:=fV hav (by rw[hst])
     rw[hst] at h1;have hval:a.eval c = .bool v:=by
      generalize a.eval c=vx at h1
      cases h1;rfl
     exact go (bb:=true) hval h
   ·cases h
  ·exact (ih _ _ _ h hI).step fun b cs=>step_block
  ·exact (hH _ _ _ _ h a w g hold (hI.canon _)).step fun b cs=>step_loop
  ·exact (hH _ _ _ _ h a w g hold (hI.canon _)).step fun b cs=>step_inLoop
  ·split at h
   ·rename_i hk;exact (ih _ _ _ h hI).step fun b cs=>step_exit hk
   ·cases h
  ·split at h
   ·rename_i hk;exact (ih _ _ _ h hI).step fun b cs=>step_goto hk
   ·cases h
  ·rename_i id ops draw k
   have fin:(Code.region id ops draw).wp P (fun e a' w'=>e = .normal∧∃st',ex fi E H C m k st'=some r∧ea E n w g hold st' a' w') a w→Goal P E n fi r (.code (.region id ops draw) :: k) a w g hold:=by
    intro hwp b cs;obtain ⟨e,a',w',⟨rfl,st',h1,g',hold',k1,k2,k3⟩,harr⟩:=hwp b k cs;obtain ⟨a2,w2,t2,st2,s2,f2,g2,hold2,m1,m2,m3⟩:=ih _ _ _ h1 k3 b cs;exact ⟨a2,w2,t2,st2,Steps.trans harr s2,f2,g2,hold2,k1.trans m1,k2.trans m2,m3⟩
   cases draw with
   | true=>
    simp only[cond_true] at h;generalize hdo:re ops ((aJ fi.first id).getD []) ((aJ fi.decl id).getD [])=z at h
    cases z with
    | false=>cases h
    | true=>exact fin (draw_ok (Q:=fun e a' w'=>e = .normal∧∃st',ex fi E H C m k st'=some r∧ea E n w g hold st' a' w') hP hF hnt hn hC hmix hdo hI h (fun c a w hq=>by cases hq.1) (fun st' a' w' hk ha=>⟨rfl,st',hk,ha⟩))
   | false=>
    simp only[cond_false] at h;refine fin (wp_region ?_);have:=vA (Q:=fun e a' w'=>e = .normal∧∃st',ex fi E H C m k st'=some r∧ea E n w g hold st' a' w') hP hF hnt hn hC ops.toList 0 (fun j=>by simp) hI h (fun st' a' w' hk ha=>⟨rfl,st',hk,ha⟩)
    rw[List.range_eq_range'];simpa using this
  ·cases h
end
structure iA where
 r:Nat
 p:List aH
 f:List aH→Own
 h:Own
def mT (es:List iA):List (Nat × List aH):=es.map fun e=>(e.r,e.p)
def XAt (es:List iA) (o x:Own):Prop:=∃e∈es,(∃q,o = .at e.r (e.p++q)∧x=e.f q)∨(e.p = []∧o = .hd e.r∧x=e.h)
open Classical in
noncomputable def goX (es:List iA) (g:Gh):Gh:=fun b=>if h : ∃x:Own,XAt es (g b) x then h.choose else g b
theorem rQ : ∀{es:List iA},bP (mT es)=true→∀{e e':iA},e∈es→e'∈es→e=e'∨e.r≠e'.r∨split e.p e'.p=true
 | [],_,_,_,h,_=>by cases h
 | x :: es,hm,e,e',h,h'=>by
  obtain ⟨m1,m2⟩:=qG (r:=x.r) (p:=x.p) (l:=mT es) hm;rcases List.mem_cons.1 h with k | k
  ·rcases List.mem_cons.1 h' with k' | k'
   ·exact .inl (k.trans k'.symm)
   ·rw[k];exact .inr (m1 (e'.r,e'.p) (List.mem_map.2 ⟨e',k',rfl⟩))
  ·rcases List.mem_cons.1 h' with k' | k'
   ·rw[k'];rcases m1 (e.r,e.p) (List.mem_map.2 ⟨e,k,rfl⟩) with h1 | h1
    ·exact .inr (.inl (Ne.symm h1))
    ·exact .inr (.inr (pD h1))
   ·exact rQ m2 k k'
theorem goX_at {es:List iA} {g:Gh} (hm:bP (mT es)=true) {e:iA} (he:e∈es) {b:Nat} {q:List aH} (hb:g b = .at e.r (e.p++q)):goX es g b=e.f q:=by
 have h : ∃x:Own,XAt es (g b) x:=⟨_,e,he,.inl ⟨q,hb,rfl⟩⟩
 unfold goX;rw[dif_pos h];obtain ⟨e',h1,⟨q',h2,h3⟩ | ⟨_,h2,_⟩⟩:=h.choose_spec
 ·rw[h3];rw[hb] at h2;simp only[Own.at.injEq] at h2;obtain ⟨e1,e2⟩:=h2;rcases rQ hm h1 he with h' | h' | h'
  ·subst h';rw[List.append_cancel_left e2]
  ·exact absurd e1.symm h'
  ·have p1:e'.p <+: (e.p++q):=by rw[e2];exact List.prefix_append _ _
   exact absurd (List.prefix_append e.p q) (oZ h' p1)
 ·rw[hb] at h2;cases h2
theorem goX_hd {es:List iA} {g:Gh} (hm:bP (mT es)=true) {e:iA} (he:e∈es) (hp:e.p = []) {b:Nat} (hb:g b = .hd e.r):goX es g b=e.h:=by
 have h : ∃x:Own,XAt es (g b) x:=⟨_,e,he,.inr ⟨hp,hb,rfl⟩⟩
 unfold goX;rw[dif_pos h];obtain ⟨e',h1,⟨q',h2,h3⟩ | ⟨hp',h2,h3⟩⟩:=h.choose_spec
 ·rw[hb] at h2;cases h2
 ·rw[h3];rw[hb] at h2;simp only[Own.hd.injEq] at h2;rcases rQ hm h1 he with h' | h' | h'
  ·rw[h']
  ·exact absurd h2.symm h'
  ·rw[hp,hp'] at h';simp[split] at h'
theorem qB {es:List iA} {g:Gh} {b:Nat} (h : ∀e∈es,(∀q,g b≠.at e.r (e.p++q))∧(e.p = []→g b≠.hd e.r)):goX es g b=g b:=by
 unfold goX;rw[dif_neg];rintro ⟨_,e,he,⟨q,hq,_⟩ | ⟨hp,hq,_⟩⟩
 ·exact (h e he).1 q hq
 ·exact (h e he).2 hp hq
theorem AE {es:List iA} {g:Gh} {b:Nat} (h:g b = .frz):goX es g b = .frz:=by
 rw[qB,h];intro e _;rw[h];exact ⟨fun _=>by simp,fun _=>by simp⟩
theorem goX_free {es:List iA} {g:Gh} {b:Nat} (h:g b = .free):goX es g b = .free:=by
 rw[qB,h];intro e _;rw[h];exact ⟨fun _=>by simp,fun _=>by simp⟩
def TksX (X:List iA) (g g':Gh):Prop:=∀x∈X,(∀b q,g b = .at x.r (x.p++q)→g' b=x.f q)∧(x.p = []→∀b,g b = .hd x.r→g' b=x.h)
def tw (X:List iA):Prop:=∀x∈X,(∀q,x.f q = .frz∨∃j q',x.f q = .at (eC j) q')∧∃r,x.h = .hd r
def tgt (j:Nat) (o:O) (q:List aH):Own:=if (o.get q).isFz then .frz else .at (eC j) q
theorem TksX.left {a b:List iA} {g g':Gh} (h:TksX (a++b) g g'):TksX a g g':=fun e he=>h e (List.mem_append_left _ he)
theorem TksX.right {a b:List iA} {g g':Gh} (h:TksX (a++b) g g'):TksX b g g':=fun e he=>h e (List.mem_append_right _ he)
theorem tw.append {a b:List iA} (h:tw a) (h':tw b):tw (a++b):=fun x hx=>(List.mem_append.1 hx).elim (h x) (h' x)
theorem Af (a b:List iA):mT (a++b)=mT a++mT b:=List.map_append
theorem uc : ∀{a b:List (Nat × List aH)},bP (a++b)=true→bP a=true∧bP b=true
 | [],b,h=>⟨rfl,h⟩
 | (r,p) :: a,b,h=>by
  simp only[List.cons_append,bP,Bool.and_eq_true] at h;obtain ⟨h1,h2⟩:=uc h.2;refine ⟨?_,h2⟩;simp only[bP,Bool.and_eq_true];refine ⟨?_,h1⟩;have:=h.1
  rw[List.all_append,Bool.and_eq_true] at this;exact this.1
structure SrcE (E:Env) (w:World) (g:Gh) (rt:Nat→Option Rt) (hold:Nat→aE) (x:Nat × List aH):Prop where
 ok : ∃R ty κ,rt x.1=some R∧Sub E w g x.1 R.ty [] (hold x.1) x.2 ty κ∧bj x.2=true∧R.o.get x.2≠.dead
theorem eH.e {E:Env} {w:World} {g:Gh} {rt look:Nat→Option Rt} {hold:Nat→aE} {x:Nat × List aH} (h:eH E w g rt look hold x):SrcE E w g rt hold x:=by
 obtain ⟨R,ty,e,κ,_,h2,_,h4,h5,_,h7⟩:=h.ok;exact ⟨R,ty,κ,h2,h4,h7,fun hd=>by rw[hd] at h5;simp[O.own,O.isFo] at h5⟩
section
variable {P:Program} {E:Env} {n:Nat} {st:St} {a:Act} {w:World} {g:Gh} {hold:Nat→aE}
open Classical in
theorem Ch (hE:bl E) (hI:Inv E n st a w g hold) {ty j:Nat} {k:Ret} {av:AV} {c:mo} {v:Value} (h:qe E st ty k av=some c) (hm:bP c.mv=true)
  (hv:aO E w g st.rt hold av v) : ∃X,mT X=c.mv∧tw X∧(∀x∈c.mv,SrcE E w g st.rt hold x)∧
   ∀g',(∀b,g b = .frz→g' b = .frz)→TksX X g g'→ResOk E w g' j ty k c.t v:=by
 cases k with
 | vl o=>
  simp only[qe] at h;split at h
  rotate_left
  ·cases h
  rename_i c' hc'
  cases hle:leT E o ty c'.o with
  | false=>simp[hle] at h
  | true=>
   simp only[hle,cond_true,Option.some.injEq] at h;subst h;obtain ⟨t1,t2,t3,t4⟩:=jh hE (fun _ _ h=>h) hI.rts hc' hv
   have hms:bP (srcs (dk [] av))=true:=by rw[t2];exact hm
   refine ⟨(dk [] av).map fun e=>⟨e.1,e.2.1,fun q=>tgt j o (e.2.2 q),.hd e.1⟩,?_,?_,fun x hx=>(t3 x hx).e,?_⟩
   ·rw[← t2 []];simp[mT,srcs]
   ·intro x hx;obtain ⟨e,_,rfl⟩:=List.mem_map.1 hx;refine ⟨fun q=>?_,_,rfl⟩
    simp only[tgt];split
    ·exact .inl rfl
    ·exact .inr ⟨_,_,rfl⟩
   ·intro g' hf ht;refine ⟨?_,t1⟩;let g1:Gh:=fun b=>if cq (dk [] av) g b then go (dk [] av) 0 g b else if g b = .frz then .frz else .free
    have hfz1 : ∀b,g b = .frz→g1 b = .frz:=by
     intro b hb;have : ¬cq (dk [] av) g b:=by rintro ⟨e,_,q,hq⟩;rw[hb] at hq;cases hq
     simp[g1,this,hb]
    have htk:Tks (dk [] av) 0 g g1:=by
     intro e he b q hb;have:cq (dk [] av) g b:=⟨e,he,q,hb⟩
     simp only[g1,this,if_true];exact jT hms e he b q hb
    refine (t4 0 [] g1 hfz1 htk).moveT hE hle ⟨fun b hb=>?_,fun b q hb=>?_⟩
    ·by_cases hgo:cq (dk [] av) g b
     ·obtain ⟨e,he,q,hq⟩:=hgo;rw[htk e he b q hq] at hb;cases hb
     ·by_cases hz:g b = .frz
      ·exact hf b hz
      ·simp[g1,hgo,hz] at hb
    ·by_cases hgo:cq (dk [] av) g b
     ·obtain ⟨e,he,q',hq⟩:=hgo;rw[htk e he b q' hq] at hb;simp only[Own.at.injEq,true_and,List.nil_append] at hb;have:=(ht _ (List.mem_map.2 ⟨e,he,rfl⟩)).1 b q' hq
      rw[this,← hb];rfl
     ·by_cases hz:g b = .frz
      ·simp[g1,hgo,hz] at hb
      ·simp[g1,hgo,hz] at hb
 | ig=>
  simp only[qe] at h;split at h
  ·rename_i m hm'
   simp only[Option.some.injEq] at h;subst h;obtain ⟨_,A,cap,q1,q2⟩:=zp hE hI (fun _ _ h=>h) hm' hv
   exact ⟨[],rfl,fun x hx=>(by cases hx),fun x hx=>(by cases hx),fun g' _ _=>⟨m,A,cap,q2,rfl,q1⟩⟩
  ·cases h
 | bx o=>
  simp only[qe] at h;split at h
  rotate_left
  ·cases h
  rename_i ty' r
  split at h
  rotate_left
  ·cases h
  rename_i R hR
  generalize hz:(R.box&&(Nat.beq (fY E ty) ty'&&(leT E o R.ty R.o&&(Nat.beq R.ty ty' && !R.o.isDead))))=z at h
  cases z with
  | false=>simp at h
  | true=>
   simp only[cond_true,Option.some.injEq] at h;subst h;simp only[Bool.and_eq_true,Bool.not_eq_true'] at hz;obtain ⟨z1,z2,z3,z4,z5⟩:=hz;have z2:=Nat.eq_of_beq_eq_true z2;have z4:=Nat.eq_of_beq_eq_true z4;have hrt:=hI.rts r R hR;refine ⟨[⟨r,[],tgt j o,.hd (eC j)⟩],rfl,?_,?_,?_⟩
   ·intro x hx;simp only[List.mem_singleton] at hx;subst hx;refine ⟨fun q=>?_,_,rfl⟩
    simp only[tgt];split
    ·exact .inl rfl
    ·exact .inr ⟨_,_,rfl⟩
   ·intro x hx;simp only[List.mem_singleton] at hx;subst hx;exact ⟨R,R.ty,hold r,hR,.nil,rfl,fun hd=>by simp only[O.get] at hd;rw[hd] at z5;simp[O.isDead] at z5⟩
   ·intro g' hf ht;obtain ⟨ht1,ht2⟩:=ht _ (List.mem_singleton.2 rfl);cases hv with
    | @pref _ _ _ b x R' p1 p2=>
     rw[hR] at p1;cases p1;obtain ⟨b',x',e1,e2,e3⟩:=hrt.box z1;have hh:hold r = .mem b x:=by
      generalize hold r=κ at p2
      generalize hq:([]:List aH)=q at p2
      cases p2 with
      | nil=>rfl
      | fld=>cases hq
      | idx=>cases hq
     rw[hh] at e1;cases e1;refine ⟨b,x,rfl,ht2 rfl b e2,by rw[z2,← z4];exact e3,?_⟩
     rw[z2,← z4];have:=hrt.rep
     rw[hh] at this;exact this.moveT hE z3 ⟨hf,fun b q hb=>by
      have:=ht1 b q (by simpa using hb)
      rw[this];rfl⟩
theorem xX (hE:bl E) (hI:Inv E n st a w g hold) : ∀{rets:List (Nat × Ret)} {rs:List ResultVar} {j:Nat} {vs:List Value} {ts:List T} {mv:List (Nat × List aH)},
  ke E st rets rs=some (ts,mv)→bP mv=true→vs.length=rs.length→(∀(k:Nat) (rv:ResultVar) (v:Value),rs[k]?=some rv→vs[k]?=some v→aO E w g st.rt hold (lX E st rv) v)→
  ∃X,mT X=mv∧tw X∧(∀x∈mv,SrcE E w g st.rt hold x)∧∀g',(∀b,g b = .frz→g' b = .frz)→TksX X g g'→j6 E w g' j rets ts vs
 | [],rs,j,vs,ts,mv,h,hm,hl,hv=>by
  cases rs with
  | nil=>
   simp only[ke,Option.some.injEq,Prod.mk.injEq] at h;obtain ⟨rfl,rfl⟩:=h;cases vs with
   | nil=>exact ⟨[],rfl,(fun x hx=>by simp at hx),(fun x hx=>by simp at hx),fun _ _ _=>trivial⟩
   | cons=>simp at hl
  | cons=>simp[ke] at h
 | (ty,k) :: rets,rs,j,vs,ts,mv,h,hm,hl,hv=>by
  cases rs with
  | nil=>simp[ke] at h
  | cons rv rs=>
   cases vs with
   | nil=>simp at hl
   | cons v vs=>
    simp only[ke] at h;cases hig:igOk k rv with
    | false=>rw[hig] at h;cases h
    | true=>
    rw[hig,cond_true] at h;split at h
    rotate_left
    ·cases h
    rename_i c ts' mv' h1 h2
    cases h;obtain ⟨m1,m2⟩:=uc hm;obtain ⟨X,x1,x2,x3,x4⟩:=Ch (j:=j) hE hI h1 m1 (hv 0 rv v rfl rfl);obtain ⟨Y,y1,y2,y3,y4⟩:=xX hE hI (j:=j+1) (vs:=vs) h2 m2 (by simpa using hl) (fun k rv v a b=>hv (k+1) rv v (by simpa using a) (by simpa using b))
    exact ⟨X++Y,by rw[Af,x1,y1],x2.append y2,fun x hx=>(List.mem_append.1 hx).elim (x3 x) (y3 x),fun g' hf ht=>⟨x4 g' hf ht.left,y4 g' hf ht.right⟩⟩
end
def rr (tmps:Array Value):ResultVar→Sem Value
 | .tmp t=>pure (tmps.getD t undef)
 | .cell a t=>do loadVar t (← asAddr (tmps.getD a undef))
section
variable {P:Program} {E:Env} {n:Nat} {st:St} {a:Act} {w:World} {g:Gh} {hold:Nat→aE}
theorem Ac (hP:ba P E) (h:Inv E n st a w g hold) {rv:ResultVar} (hu:lX E st rv≠.undef∨∃t,rv = .tmp t) :
  ∃v,(rr a.tmps rv).run P w = .ok v w∧aO E w g st.rt hold (lX E st rv) v:=by
 cases rv with
 | tmp t=>exact ⟨_,rfl,h.tms t⟩
 | cell x ty=>
  have hav:=h.tms x;have hu:lX E st (.cell x ty)≠.undef:=by
   rcases hu with hu | ⟨t,ht⟩
   ·exact hu
   ·cases ht
  simp only[lX] at hu ⊢;split at hu
  ·rename_i ty' r p hx
   split at hu
   rotate_left
   ·exact absurd rfl hu
   rename_i R hR
   generalize hc:(bN E ty&&(Nat.beq ty ty'&&(R.o.get p).live))=z at hu
   cases z with
   | false=>exact absurd rfl hu
   | true=>
    simp only[Bool.and_eq_true] at hc;obtain ⟨c1,c2,c3⟩:=hc;have:=Nat.eq_of_beq_eq_true c2;subst this;rw[hx] at hav;generalize hev:a.tmps.getD x undef=vx at hav
    cases hav with
    | pref a1 a2=>
     rename_i b' o' R'
     rw[hR] at a1;cases a1;have hrep:=im (h.rts r R hR) a2;obtain ⟨v,h1,h2⟩:=fI (P:=P) hP c1 (a:=⟨b',o',none⟩) rfl (fun k hk=>by simpa[rd,aE.add] using hrep.cells hP.wf c3 k hk)
     refine ⟨v,by simp[rr,hev,asAddr,h1],?_⟩
     exact tJ hP hR 9 hrep c3 a2 h2 c1
  ·rename_i ty' t hx
   cases hc:bN E ty&&Nat.beq ty ty' with
   | false=>simp[hc] at hu
   | true=>
    simp only[Bool.and_eq_true] at hc;obtain ⟨c1,c2⟩:=hc;have:=Nat.eq_of_beq_eq_true c2;subst this;rw[hx] at hav;generalize hev:a.tmps.getD x undef=vx at hav
    cases hav with
    | fptr a1 a2 a3=>
     rename_i a'
     obtain ⟨v',h1,h2⟩:=fI (P:=P) hP c1 a1 (fun k hk=>by simpa[rd,aE.add] using a3.cells hP.wf rfl k hk)
     refine ⟨v',by simp[rr,hev,asAddr,h1],?_⟩
     exact .val (a3.place hP.wf h2.reg) h2.1
  ·exact absurd rfl hu
theorem zN {ty:Nat} {k:Ret} (hk:k≠.ig):qe E st ty k .undef=none:=by
 cases k with
 | ig=>exact absurd rfl hk
 | _=>simp[qe,take]
theorem ue (hP:ba P E) (h:Inv E n st a w g hold) : ∀{rets:List (Nat × Ret)} {rs:List ResultVar} {ts:List T} {mv:List (Nat × List aH)},ke E st rets rs=some (ts,mv)→
  ∃vs:List Value,vs.length=rs.length∧(rs.mapM (rr a.tmps)).run P w = .ok vs w∧
   ∀(k:Nat) (rv:ResultVar) (v:Value),rs[k]?=some rv→vs[k]?=some v→aO E w g st.rt hold (lX E st rv) v
 | [],rs,ts,mv,hr=>by
  cases rs with
  | nil=>exact ⟨[],rfl,rfl,fun k rv v hk=>by simp at hk⟩
  | cons=>simp[ke] at hr
 | (ty,k) :: rets,rs,ts,mv,hr=>by
  cases rs with
  | nil=>simp[ke] at hr
  | cons rv rs=>
   simp only[ke] at hr;cases hig:igOk k rv with
   | false=>rw[hig] at hr;cases hr
   | true=>
   rw[hig,cond_true] at hr;split at hr
   rotate_left
   ·cases hr
   rename_i c ts' mv' h1 h2
   obtain ⟨v,e1,e2⟩:=Ac hP h (rv:=rv) (by
    by_cases hk:k = .ig
    ·subst hk;cases rv with
     | tmp t=>exact .inr ⟨t,rfl⟩
     | cell _ _=>simp[igOk] at hig
    ·exact .inl (by intro hu;rw[hu,zN hk] at h1;cases h1))
   obtain ⟨vs,f1,f2,f3⟩:=ue hP h h2;refine ⟨v :: vs,by simp[f1],by simp[List.mapM_cons,e1,f2],fun k rv' v' a b=>?_⟩
   cases k with
   | zero=>simp at a b;subst a;subst b;exact e2
   | succ k=>exact f3 k rv' v' (by simpa using a) (by simpa using b)
theorem Bo {fn:Func} {vs:List Value} {tmps:Array Value} (h:(fn.results.toList.mapM (rr tmps)).run P w = .ok vs w) :
  ∃v,(results fn tmps).run P w = .ok v w∧VRes vs v:=by
 have hf:results fn tmps=(do let vs ← fn.results.mapM (rr tmps);pure (if h:vs.size=1 then vs[0] else .tuple vs)):=by
  unfold results;congr 2
 refine ⟨if h:vs.toArray.size=1 then vs.toArray[0] else .tuple vs.toArray,?_,?_⟩
 ·rw[hf,Array.mapM_eq_mapM_toList];simp[h]
 ·unfold VRes;split
  ·rfl
  ·rename_i hne
   cases vs with
   | nil=>rfl
   | cons x l=>cases l with
    | nil=>exact absurd rfl (hne x)
    | cons y l=>simp
theorem leT_dead {o:O} {ty:Nat} (hl:o.live=true) (h:leT E o ty .dead=true):False:=by
 unfold leT at h;cases o with
 | fz=>simp[O.le,leX,O.live] at h
 | fo=>simp[O.le,leX,O.isFo,O.live] at h
 | dp=>simp[O.le,leX,O.geDp,O.live] at h
 | dead=>simp[O.live] at hl
 | sl a=>
  simp only[O.le,O.own,cond_false,Bool.false_or,leX] at h;split at h <;> simp[O.own] at h
 | st as=>
  simp only[O.le,Bool.false_or,leX] at h;split at h <;> simp[O.isDead] at h
def EntOk (E:Env) (hold:Nat→aE) (i ty:Nat) (m:Mode) (v:Value):Prop:=
 match m with
 | .ro=>True
 | .mu _=>(∃e A k c,E.ty ty = .sl e∧v = .slice A k c)∧hold (aN i) = .reg [v] 0
 | .bx _=>∃b x,v = .pointer (some ⟨b,x,none⟩)∧hold (aN i) = .mem b x
 | .mv _=>True
 | .ig=>True
def oa (E:Env) (hold:Nat→aE):Nat→List (Nat × Mode)→List Value→Prop
 | _,[],[]=>True
 | i,(ty,m) :: ps,v :: vs=>EntOk E hold i ty m v∧oa E hold (i+1) ps vs
 | _,_,_=>False
def parO (ps:List (Nat × Mode)) (r:Nat):Option O:=
 if r < 100000 then none else match ps[r - 100000]? with
  | some (_,.mu o)=>some o
  | some (_,.bx o)=>some o
  | _=>none
def endG (ps:List (Nat × Mode)) (g:Gh):Gh:=fun b=>match g b with
 | .at r q=>match parO ps r with
  | some o=>if (o.get q).isFz then .frz else .at r q
  | none=>.at r q
 | x=>x
theorem nC {ps:List (Nat × Mode)} {g:Gh} {b:Nat} (h : ∀r q,g b≠.at r q):endG ps g b=g b:=by
 unfold endG;split
 ·rename_i r q hr;exact absurd hr (h r q)
 ·rfl
theorem Ay {ps:List (Nat × Mode)} {g:Gh} {b r:Nat} {q:List aH} (h:g b = .at r q):endG ps g b=match parO ps r with
  | some o=>if (o.get q).isFz then .frz else .at r q
  | none=>.at r q:=by unfold endG;rw[h]
theorem parO_res {ps:List (Nat × Mode)} (hp:ps.length < 1000) (j:Nat):parO ps (eC j)=none:=by
 unfold parO eC;rw[if_neg (by omega),List.getElem?_eq_none (by omega)]
theorem zB {ps:List (Nat × Mode)} {i ty:Nat} {o:O} (h:ps[i]?=some (ty,.mu o)∨ps[i]?=some (ty,.bx o)):parO ps (aN i)=some o:=by
 unfold parO aN;rw[if_neg (by omega),show 100000+i - 100000=i by omega]
 rcases h with h | h <;> rw[h]
def rtE (E:Env) (st:St) (mv:List (Nat × List aH)):Nat→Option Rt:=fun r=>match aJ (bY E st.rt mv) r with | some x=>x | none=>st.rt r
theorem zm (hI:Inv E n st a w g hold) {mv:List (Nat × List aH)} (hm:bP mv=true) (hs : ∀x∈mv,SrcE E w g st.rt hold x) {r:Nat} {R1:Rt} (h:rtE E st mv r=some R1) :
  ∃R,st.rt r=some R∧R1.ty=R.ty∧R1.t=R.t∧R1.box=R.box∧Rep E w g R.ty R.t R1.o r [] (hold r)∧∀p,(r,p)∈mv→R1.o.get p = .dead:=by
 unfold rtE at h;rw[km] at h;by_cases hr:r∈dy mv
 ·rw[if_pos hr] at h;simp only at h
  cases hR:st.rt r with
  | none=>rw[hR] at h;cases h
  | some R=>
   rw[hR,Option.bind_some,uB] at h;have:=rP (E:=E) (w:=w) (g:=g) (hold:=hold) (r:=r) (ty₀:=R.ty) hm (fun p hp=>by
    obtain ⟨R',ty,κ,e1,e2,e3,_⟩:=(hs _ hp).ok;simp only at e1 e2 e3
    rw[hR] at e1;cases e1;exact ⟨e3,ty,κ,e2⟩) (R:=R) rfl (hI.rts r R hR).rep (fun p hp=>by
    obtain ⟨R',ty,κ,e1,e2,e3,e4⟩:=(hs _ hp).ok;simp only at e1 e4
    rw[hR] at e1;cases e1;exact e4)
   rw[h] at this;obtain ⟨i1,i2,i3,i4,i5,_⟩:=this;exact ⟨R,rfl,i1,i2,i3,by rw[← i2];exact i4,i5⟩
 ·rw[if_neg hr] at h;simp only at h
  exact ⟨R1,h,rfl,rfl,rfl,(hI.rts r R1 h).rep,fun p hp=>absurd (fH.2 ⟨p,hp⟩) hr⟩
theorem pM (hE:bl E) (hI:Inv E n st a w g hold) {X:List iA} (hm:bP (mT X)=true) (hs : ∀x∈mT X,SrcE E w g st.rt hold x) {ps0:List (Nat × Mode)}
  (hfine : ∀x∈ps0,gW x=true) : ∀{ps:List (Nat × Mode)} {i:Nat} {vs:List Value} {ms:List T},(∀k,ps[k]?=ps0[i+k]?)→oa E hold i ps vs→ku E (rtE E st (mT X)) i ps=some ms→
   cQ E w (endG ps0 (goX X g)) i ps ms vs
 | [],i,vs,ms,hk,he,hr=>by
  cases vs with
  | nil=>
   simp only[ku,Option.some.injEq] at hr;subst hr;exact trivial
  | cons=>exact he.elim
 | (ty,m) :: ps,i,vs,ms,hk,he,hr=>by
  cases vs with
  | nil=>exact he.elim
  | cons v vs=>
  have hk0:ps0[i]?=some (ty,m):=by have:=hk 0;simpa using this.symm
  have hks : ∀k,ps[k]?=ps0[i+1+k]?:=fun k=>by have:=hk (k+1);simpa[Nat.add_assoc,Nat.add_comm 1 k] using this
  obtain ⟨he1,he2⟩:=he;have key : ∀{o:O} {R1:Rt},rtE E st (mT X) (aN i)=some R1→leT E o R1.ty R1.o=true→parO ps0 (aN i)=some o→
    Rep E w (endG ps0 (goX X g)) R1.ty R1.t o (aN i) [] (hold (aN i)):=by
   intro o R1 hR1 hle ho;obtain ⟨R,r1,r2,r3,r4,r5,r6⟩:=zm hI hm hs hR1;have hx:Rep E w (goX X g) R.ty R.t R1.o (aN i) [] (hold (aN i)):=by
    refine r5.relocO hE (fun _ _=>rfl) fun b hlo=>⟨aP.refl _ _,?_⟩
    rcases hlo with hf | ⟨q,hq,hnd⟩
    ·rw[AE hf,hf]
    ·rw[List.nil_append] at hq;refine qB fun e he=>⟨fun q' hq'=>?_,fun _ h=>?_⟩
     ·rw[hq] at hq';simp only[Own.at.injEq] at hq';obtain ⟨e1,rfl⟩:=hq';apply hnd
      rw[mQ,r6 e.p (by rw[e1];exact List.mem_map.2 ⟨e,he,rfl⟩),jS]
     ·rw[hq] at h;cases h
   rw[r2,r3];refine hx.moveT hE (by rw[← r2];exact hle) ⟨fun b hb=>?_,fun b q hb=>?_⟩
   ·rw[nC (by rw[hb];simp),hb]
   ·rw[List.nil_append] at hb;rw[Ay hb,ho];simp
  cases m with
  | ro=>
   simp only[ku] at hr;unfold cQ;exact pM hE hI hm hs hfine hks he2 hr
  | mv o=>
   simp only[ku] at hr;unfold cQ;exact pM hE hI hm hs hfine hks he2 hr
  | ig=>
   simp only[ku] at hr;unfold cQ;exact pM hE hI hm hs hfine hks he2 hr
  | mu o=>
   simp only[ku] at hr;split at hr
   rotate_left
   ·cases hr
   rename_i R1 ts' hR1 hrec
   generalize hz:(Nat.beq R1.ty ty&&(!R1.box&&leT E o R1.ty R1.o))=z at hr
   cases z with
   | false=>simp at hr
   | true=>
    simp only[cond_true,Option.some.injEq] at hr;subst hr;simp only[Bool.and_eq_true] at hz;have:=Nat.eq_of_beq_eq_true hz.1;subst this;have hrep:=key hR1 hz.2.2 (zB (.inl hk0));rw[he1.2] at hrep;exact ⟨⟨he1.1,hrep⟩,pM hE hI hm hs hfine hks he2 hrec⟩
  | bx o=>
   simp only[ku] at hr;split at hr
   rotate_left
   ·cases hr
   rename_i R1 ts' hR1 hrec
   generalize hz:(Nat.beq R1.ty (fY E ty)&&(R1.box&&leT E o R1.ty R1.o))=z at hr
   cases z with
   | false=>simp at hr
   | true=>
    simp only[cond_true,Option.some.injEq] at hr;subst hr;simp only[Bool.and_eq_true] at hz;obtain ⟨z1,z2,z3⟩:=hz;have z1:=Nat.eq_of_beq_eq_true z1;have hrep:=key hR1 z3 (zB (.inr hk0));obtain ⟨b,x,ev,eh⟩:=he1;obtain ⟨R,r1,r2,r3,r4,r5,r6⟩:=zm hI hm hs hR1;obtain ⟨b',x',e1,e2,e3⟩:=(hI.rts _ R r1).box (by rw[← r4];exact z2)
    rw[eh] at e1;cases e1;refine ⟨⟨b,x,ev,?_,by rw[← z1,r2];exact e3,by rw[← z1,← eh];exact hrep⟩,pM hE hI hm hs hfine hks he2 hrec⟩
    have hg:goX X g b = .hd (aN i):=by
     rw[qB,e2];intro e he;refine ⟨fun q=>by rw[e2];simp,fun hp hq=>?_⟩
     rw[e2] at hq;simp only[Own.hd.injEq] at hq;have hd:=r6 [] (by rw[hq,← hp];exact List.mem_map.2 ⟨e,he,rfl⟩)
     simp only[O.get] at hd;have hfn:=hfine _ (List.mem_of_getElem? hk0);simp only[gW] at hfn;rw[hd] at z3;exact leT_dead hfn z3
    rw[nC (by rw[hg];simp),hg]
theorem fin_ok (hP:ba P E) (hI:Inv E n st a w g hold) {fi:Fi} {fn:Func} (hres:fn.results.toList=fi.results) (hpl:fi.params.length < 1000) (hfine : ∀x∈fi.params,gW x=true) {vs:List Value}
  (he:oa E hold 0 fi.params vs) {res:List T} (h:pV fi E st=some res) :
  ∃v g' rvs rts mts,res=rts++mts∧(results fn a.tmps).run P w = .ok v w∧VRes rvs v∧Stp w g w g'∧(∀b,g' b≠.free→b < w.heap.size)∧
   j6 E w g' 0 fi.rets rts rvs∧cQ E w g' 0 fi.params mts vs:=by
 unfold pV at h;split at h
 ·cases h
 rename_i ts mv hret
 cases hm:bP mv with
 | false=>simp[hm] at h
 | true=>
  simp only[hm,cond_true] at h;split at h
  rotate_left
  ·cases h
  rename_i ms hmu
  cases h;obtain ⟨rvs,v1,v2,v3⟩:=ue hP hI hret;obtain ⟨v,w1,w2⟩:=Bo (fn:=fn) (by rw[hres];exact v2)
  obtain ⟨X,rfl,x2,x3,x4⟩:=xX (j:=0) hP.wf hI hret hm v1 v3;have hfz : ∀b,g b = .frz→endG fi.params (goX X g) b = .frz:=by
   intro b hb;have:=AE (es:=X) hb
   rw[nC (by rw[this];simp),this]
  have hfr : ∀b,g b = .free→endG fi.params (goX X g) b = .free:=by
   intro b hb;have:=goX_free (es:=X) hb
   rw[nC (by rw[this];simp),this]
  refine ⟨v,endG fi.params (goX X g),rvs,ts,ms,rfl,w1,w2,⟨rfl,rfl,rfl,Nat.le_refl _,fun b _ hb=>⟨rfl,?_⟩⟩,fun b hb=>hI.bnd b fun h=>hb (hfr b h),?_,?_⟩
  ·rcases hb with hb | hb
   ·rw[hfr b hb,hb]
   ·rw[hfz b hb,hb]
  ·refine x4 _ hfz fun x hx=>⟨fun b q hb=>?_,fun hp b hb=>?_⟩
   ·have hg:=goX_at hm hx hb;rcases (x2 x hx).1 q with hq | ⟨j,q',hq⟩
    ·rw[nC (by rw[hg,hq];simp),hg]
    ·rw[Ay (hg.trans hq),parO_res hpl,hq]
   ·have hg:=goX_hd hm hx hp hb;obtain ⟨r,hr⟩:=(x2 x hx).2;rw[nC (by rw[hg,hr];simp),hg]
  ·exact pM hP.wf hI hm x3 hfine (fun k=>by simp) he hmu
end
section
variable {P:Program} {E:Env}
def lh (ps:List (Nat × Mode)) (vs:List Value):Nat→aE:=fun r=>
 if r < 100000 then .reg [] 0 else match ps[r - 100000]?,vs[r - 100000]? with
  | some (_,.mu _),some v=>.reg [v] 0
  | some (_,.mv _),some v=>.reg v.cells.toList 0
  | some (_,.bx _),some (.pointer (some ⟨b,x,none⟩))=>.mem b x
  | _,_=>.reg [] 0
theorem ir {ps:List (Nat × Mode)} {vs:List Value} (i:Nat):lh ps vs (aN i)=match ps[i]?,vs[i]? with
  | some (_,.mu _),some v=>.reg [v] 0
  | some (_,.mv _),some v=>.reg v.cells.toList 0
  | some (_,.bx _),some (.pointer (some ⟨b,x,none⟩))=>.mem b x
  | _,_=>.reg [] 0:=by
 unfold lh aN;rw[if_neg (by omega),show 100000+i - 100000=i by omega]
def rtOf (E:Env) (ty:Nat) (t:T):Mode→Option Rt
 | .ro=>none
 | .mu o=>some ⟨ty,t,o,false⟩
 | .bx o=>some ⟨fY E ty,t,o,true⟩
 | .mv o=>some ⟨ty,t,o,false⟩
 | .ig=>none
theorem zi : ∀(ps:List (Nat × Mode)) (ts:List T) (i t:Nat),ts.length=ps.length→aJ (eT E i ps ts).1 t =
  if i≤t then (match ps[t - i]?,ts[t - i]? with | some (ty,m),some x=>some (initAV E t ty x m) | _,_=>none) else none
 | [],ts,i,t,h=>by
  cases ts with
  | nil=>simp[eT,aJ]
  | cons=>simp at h
 | (ty,m) :: ps,ts,i,t,h=>by
  cases ts with
  | nil=>simp at h
  | cons x ts=>
   have ih:=zi ps ts (i+1) t (by simpa using h)
   simp only[eT,aJ,bZ];by_cases hi:i=t
   ·subst hi;simp
   ·simp only[hi,decide_false,cond_false];rw[ih];by_cases hle:i≤t
    ·rw[if_pos (by omega),if_pos hle]
     rw[show t - i=(t - (i+1))+1 by omega]
     simp
    ·rw[if_neg (by omega),if_neg hle]
theorem ux : ∀(ps:List (Nat × Mode)) (ts:List T) (i r:Nat),ts.length=ps.length→aJ (eT E i ps ts).2 r =
  if aN i≤r then (match ps[r - aN i]?,ts[r - aN i]? with | some (ty,m),some x=>rtOf E ty x m | _,_=>none) else none
 | [],ts,i,r,h=>by
  cases ts with
  | nil=>simp[eT,aJ]
  | cons=>simp at h
 | (ty,m) :: ps,ts,i,r,h=>by
  cases ts with
  | nil=>simp at h
  | cons x ts=>
   have ih:=ux ps ts (i+1) r (by simpa using h)
   have hp1:aN (i+1)=aN i+1:=by unfold aN;omega
   rw[hp1] at ih;have tail:r≠aN i→aJ (eT E (i+1) ps ts).2 r=if aN i≤r then (match ((ty,m) :: ps)[r - aN i]?,(x :: ts)[r - aN i]? with | some (ty,m),some x=>rtOf E ty x m | _,_=>none) else none:=by
    intro hne;rw[ih];by_cases hle:aN i≤r
    ·rw[if_pos (by omega),if_pos hle]
     rw[show r - aN i=(r - (aN i+1))+1 by omega]
     simp
    ·rw[if_neg (by omega),if_neg hle]
   have self : ∀y,r=aN i→rtOf E ty x m=y→(if aN i≤r then (match ((ty,m) :: ps)[r - aN i]?,(x :: ts)[r - aN i]? with | some (ty,m),some x=>rtOf E ty x m | _,_=>none) else none)=y:=by
    intro y hr hy;subst hr;simpa using hy
   cases m with
   | ro=>
    simp only[eT];by_cases hi:r=aN i
    ·rw[self none hi rfl,ih,if_neg (by omega)]
    ·exact tail hi
   | mu o=>
    simp only[eT,aJ,bZ];by_cases hi:r=aN i
    ·rw[self _ hi rfl];simp[hi,rtOf]
    ·simp only[Ne.symm hi,decide_false,cond_false];exact tail hi
   | bx o=>
    simp only[eT,aJ,bZ];by_cases hi:r=aN i
    ·rw[self _ hi rfl];simp[hi,rtOf]
    ·simp only[Ne.symm hi,decide_false,cond_false];exact tail hi
   | mv o=>
    simp only[eT,aJ,bZ];by_cases hi:r=aN i
    ·rw[self _ hi rfl];simp[hi,rtOf]
    ·simp only[Ne.symm hi,decide_false,cond_false];exact tail hi
   | ig=>
    simp only[eT];by_cases hi:r=aN i
    ·rw[self none hi rfl,ih,if_neg (by omega)]
    ·exact tail hi
theorem xz {w:World} {g:Gh} : ∀{ps:List (Nat × Mode)} {ts:List T} {vs:List Value} {i:Nat},kO E w g i ps ts vs→ts.length=ps.length∧vs.length=ps.length∧
  ∀(k ty:Nat) (m:Mode) (t:T) (v:Value),ps[k]?=some (ty,m)→ts[k]?=some t→vs[k]?=some v→tu E w g (i+k) ty m t v
 | [],ts,vs,i,h=>by
  cases ts with
  | nil=>cases vs with
   | nil=>exact ⟨rfl,rfl,fun k ty m t v hk=>by simp at hk⟩
   | cons=>exact h.elim
  | cons=>exact h.elim
 | (ty,m) :: ps,ts,vs,i,h=>by
  cases ts with
  | nil=>exact h.elim
  | cons t ts=>cases vs with
   | nil=>exact h.elim
   | cons v vs=>
    obtain ⟨h1,h2⟩:=h;obtain ⟨i1,i2,i3⟩:=xz h2;refine ⟨by simp[i1],by simp[i2],fun k ty' m' t' v' a b c=>?_⟩
    cases k with
    | zero=>simp at a b c;obtain ⟨rfl,rfl⟩:=a;subst b;subst c;exact h1
    | succ k=>
     have:=i3 k ty' m' t' v' (by simpa using a) (by simpa using b) (by simpa using c)
     rwa [show i+1+k=i+(k+1) by omega] at this
theorem vr {w:World} {g:Gh} {hold:Nat→aE} : ∀{ps:List (Nat × Mode)} {ts:List T} {vs:List Value} {i:Nat},kO E w g i ps ts vs→
  (∀(k ty:Nat) (o:O) (v:Value),ps[k]?=some (ty,.mu o)→vs[k]?=some v→hold (aN (i+k)) = .reg [v] 0)→
  (∀(k ty:Nat) (o:O) (b x:Nat),ps[k]?=some (ty,.bx o)→vs[k]?=some (.pointer (some ⟨b,x,none⟩))→hold (aN (i+k)) = .mem b x)→oa E hold i ps vs
 | [],ts,vs,i,h,_,_=>by
  cases ts with
  | nil=>cases vs with
   | nil=>exact trivial
   | cons=>exact h.elim
  | cons=>exact h.elim
 | (ty,m) :: ps,ts,vs,i,h,h1,h2=>by
  cases ts with
  | nil=>exact h.elim
  | cons t ts=>cases vs with
   | nil=>exact h.elim
   | cons v vs=>
    obtain ⟨a1,a2⟩:=h;refine ⟨?_,vr a2 (fun k ty o v b c=>?_) (fun k ty o b x c d=>?_)⟩
    ·cases m with
     | ro=>exact trivial
     | mv o=>exact trivial
     | ig=>exact trivial
     | mu o=>
      have:=h1 0 ty o v rfl rfl
      exact ⟨a1.1,by simpa using this⟩
     | bx o=>
      obtain ⟨b,x,rfl,_⟩:=a1;have:=h2 0 ty o b x rfl rfl
      exact ⟨b,x,rfl,by simpa using this⟩
    ·have:=h1 (k+1) ty o v (by simpa using b) (by simpa using c)
     rwa [show i+1+k=i+(k+1) by omega]
    ·have:=h2 (k+1) ty o b x (by simpa using c) (by simpa using d)
     rwa [show i+1+k=i+(k+1) by omega]
theorem par_inv {w:World} {g:Gh} {ps:List (Nat × Mode)} {ts:List T} {vs:List Value} {n:Nat} (hbnd : ∀b,g b≠.free→b < w.heap.size) (hkn:Kn E w g) (h:kO E w g 0 ps ts vs) (hn:ps.length≤n) (hP:ba P E) (hfine : ∀x∈ps,gW x=true) :
  Inv E n (jY (eT E 0 ps ts)) { tmps:=vs.toArray++Array.replicate (n - vs.toArray.size) undef,defers:=[] } w g (lh ps vs):=by
 obtain ⟨l1,l2,hat⟩:=xz h;refine ⟨by simp;omega,rfl,fun t=>?_,fun r R hr=>?_,hbnd,hkn⟩
 ·show aO E w g _ _ ((aJ (eT E 0 ps ts).1 t).getD .undef) _
  rw[zi ps ts 0 t l1,if_pos (Nat.zero_le _),Nat.sub_zero];by_cases ht:t < ps.length
  ·obtain ⟨⟨ty,m⟩,hp⟩ : ∃x,ps[t]?=some x:=⟨_,List.getElem?_eq_getElem ht⟩;obtain ⟨x,hx⟩ : ∃x,ts[t]?=some x:=⟨_,List.getElem?_eq_getElem (by omega)⟩
   obtain ⟨v,hv⟩ : ∃x,vs[t]?=some x:=⟨_,List.getElem?_eq_getElem (by omega)⟩
   have ha:=hat t ty m x v hp hx hv;rw[Nat.zero_add] at ha;have hval:(vs.toArray++Array.replicate (n - vs.toArray.size) undef).getD t undef=v:=by
    rw[Array.getD_eq_getD_getElem?,Array.getElem?_append_left (by simp;omega)]
    simp[hv]
   rw[hval,hp,hx];simp only[Option.getD_some];have hrt:(jY (eT E 0 ps ts)).rt (aN t)=rtOf E ty x m:=by
    show aJ (eT E 0 ps ts).2 (aN t)=_
    rw[ux ps ts 0 _ l1,if_pos (by unfold aN;omega),show aN t - aN 0=t by unfold aN;omega,hp,hx]
   cases m with
   | ro=>exact .val ha.1 ha.2
   | ig=>
    obtain ⟨m,A,c,q1,rfl,rfl⟩:=ha;exact aO.ln (n:=m) q1
   | mv o=>
    show aO E w g _ _ (bif bN E ty then (bif o.isFo then (match E.ty ty with | .sl _=>.sref ty (aN t) [] | _=>.undef) else qf E 9 ty x o (aN t) []) else .undef) _
    cases hok:bN E ty with
    | false=>exact .undef
    | true=>
     have hlv:o.live=true:=by
      have:=hfine _ (List.mem_of_getElem? hp)
      simpa[gW] using this
     have hh:lh ps vs (aN t) = .reg v.cells.toList 0:=by rw[ir,hp,hv]
     cases hfo:o.isFo with
     | false=>exact tJ hP hrt 9 ha.1 hlv (by rw[hh];exact .nil) ⟨ha.2,fun m hm=>by simp[aE.add,rd]⟩ hok
     | true=>
      simp only[cond_true];split
      ·rename_i e he
       obtain ⟨A,m,c,hc⟩:=ha.1.slice_cell he (by intro hd;rw[hd] at hlv;simp[O.live] at hlv)
       have hsh:=ha.2.2;rw[he] at hsh;simp only at hsh
       rw[hsh] at hc;have hvv:v = .slice A m c:=by simpa[rd] using hc
       subst hvv;exact .sref hrt he (κ:=.reg [.slice A m c] 0) (by rw[hh];exact .nil) rfl
      ·exact .undef
   | mu o=>
    obtain ⟨⟨e,A,k,c,he,rfl⟩,hrep⟩:=ha;have hh:lh ps vs (aN t) = .reg [.slice A k c] 0:=by rw[ir,hp,hv]
    exact .sref hrt he .nil (by rw[hh];rfl)
   | bx o=>
    obtain ⟨b,y,rfl,h1,h2,h3⟩:=ha;have hh:lh ps vs (aN t) = .mem b y:=by rw[ir,hp,hv]
    refine .pref hrt ?_;rw[hh];exact .nil
  ·rw[List.getElem?_eq_none (by omega)]
   exact .undef
 ·have hr':aJ (eT E 0 ps ts).2 r=some R:=hr
  rw[ux ps ts 0 r l1] at hr';split at hr'
  rotate_left
  ·cases hr'
  rename_i hle
  split at hr'
  rotate_left
  ·cases hr'
  rename_i ty m x hp hx
  have hpr:r=aN (r - aN 0):=by unfold aN at *;omega
  generalize hk:r - aN 0=k at *
  have hkl:k < ps.length:=(List.getElem?_eq_some_iff.1 hp).1
  obtain ⟨v,hv⟩ : ∃x,vs[k]?=some x:=⟨_,List.getElem?_eq_getElem (by omega)⟩
  have ha:=hat k ty m x v hp hx hv;rw[Nat.zero_add] at ha;subst hpr;cases m with
  | ro=>cases hr'
  | ig=>cases hr'
  | mv o=>
   cases hr';have hh:lh ps vs (aN k) = .reg v.cells.toList 0:=by rw[ir,hp,hv]
   exact ⟨by rw[hh];exact ha.1,(fun h=>by cases h),fun _=>⟨_,hh⟩⟩
  | mu o=>
   cases hr';have hh:lh ps vs (aN k) = .reg [v] 0:=by rw[ir,hp,hv]
   exact ⟨by rw[hh];exact ha.2,(fun h=>by cases h),fun _=>⟨_,hh⟩⟩
  | bx o=>
   cases hr';obtain ⟨b,y,rfl,h1,h2,h3⟩:=ha;have hh:lh ps vs (aN k) = .mem b y:=by rw[ir,hp,hv]
   exact ⟨by rw[hh];exact h3,(fun _=>⟨b,y,hh,h1,h2⟩),(fun h=>by cases h)⟩
def FiOk (fi:Fi):Bool:=decide (fi.ntmps≤1000)&&(decide (fi.params.length≤fi.ntmps)&&(decide (fi.params.length < 1000)&&fi.params.all gW))
theorem fn_ok (hP:ba P E) (hF:de P E) {f:Nat} {fi:Fi} (hf:E.fn f=some fi) (hfi:FiOk fi=true) {C:List T→R} {st0:List T→List Item→St→R}
  (hC : ∀ts,C ts=bif Nat.beq ts.length fi.params.length then st0 ts [.code fi.body] (jY (eT E 0 fi.params ts)) else none)
  (hst : ∀ts todo st r,st0 ts todo st=some r→∀{a:Act} {w:World} {g:Gh} {hold:Nat→aE},Inv E fi.ntmps st a w g hold→Goal P E fi.ntmps fi r todo a w g hold) :
  nh P E f fi C:=by
 intro ts res hres vs w g hbnd hkn hargs;unfold FiOk at hfi;simp only[Bool.and_eq_true,decide_eq_true_eq,List.all_eq_true] at hfi;obtain ⟨f1,f2,f3,f4⟩:=hfi;rw[hC] at hres;cases hlen:Nat.beq ts.length fi.params.length with
 | false=>rw[hlen] at hres;cases hres
 | true=>
  rw[hlen,cond_true] at hres;obtain ⟨fn,hfn,hbody,_,hnt,hresults,_⟩:=hF f fi hf;have hI:=par_inv (n:=fi.ntmps) hbnd hkn hargs f2 hP f4
  have hents:oa E (lh fi.params vs) 0 fi.params vs:=vr hargs
   (fun k ty o v a b=>by rw[Nat.zero_add,ir,a,b])
   (fun k ty o b x c d=>by rw[Nat.zero_add,ir,c,d])
  intro cs;let b:Frame:={ (default:Frame) with fn:=E.src f,kind:=.normal }
  have henter:Frame.enter P (E.src f) vs.toArray .normal =
    b.at { tmps:=vs.toArray++Array.replicate (fi.ntmps - vs.toArray.size) undef,defers:=[] } [.code fi.body]:=by
   simp[Frame.enter,Frame.at,hfn,hbody,hnt,b]
  obtain ⟨a',w',todo',st',hsteps,hfin,g',hold',k1,k2,k3⟩:=hst ts _ _ _ hres hI b cs;have hents':oa E hold' 0 fi.params vs:=by
   have mono : ∀{ps:List (Nat × Mode)} {vs':List Value} {i:Nat},oa E (lh fi.params vs) i ps vs'→oa E hold' i ps vs':=by
    intro ps;induction ps with
    | nil=>intro vs' i h;cases vs' <;> exact h
    | cons x ps ih=>
     intro vs' i h;obtain ⟨ty,m⟩:=x;cases vs' with
     | nil=>exact h.elim
     | cons v vs'=>
      refine ⟨?_,ih h.2⟩;have hh:hold' (aN i)=lh fi.params vs (aN i):=k2 _ (by unfold aN;omega)
      have h1:=h.1;cases m with
      | ro=>exact trivial
      | mv o=>exact trivial
      | ig=>exact trivial
      | mu o=>exact ⟨h1.1,by rw[hh];exact h1.2⟩
      | bx o=>obtain ⟨b,x,e1,e2⟩:=h1;exact ⟨b,x,e1,by rw[hh];exact e2⟩
   exact mono hents
  obtain ⟨v,g'',rvs,rts,mts,e1,e2,e3,e4,e5,e6,e7⟩:=fin_ok hP k3 hresults f3 f4 hents' hfin;rw[← henter] at hsteps;exact ⟨.returned v,w',_,⟨v,g'',rvs,rts,mts,e1,rfl,e3,k1.trans e4,e5,e6,e7⟩,hsteps,rfl,rfl,k3.defers,rfl,fn,hfn,e2⟩
end
section
variable {P:Program} {E:Env}
def vb (E:Env):Prop:=∀f fi,E.fn f=some fi→FiOk fi=true
theorem both_ok (hP:ba P E) (hF:de P E) (hT:vb E) (hmix:P.follows .mixedOrders=true) {X:Nat→Option (List T→R)} (hX : ∀f k,X f=some k→∀fi,E.fn f=some fi→nh P E f fi k) :
  ∀(m:Nat),O7 P E (Uj E X m)∧∀f fi,E.fn f=some fi→HOk P E fi.ntmps fi (lg E X m fi):=by
 intro m;induction m with
 | zero=>
  refine ⟨fun f fi _ ts res h=>?_,fun f fi _ body k cs r h=>?_⟩
  ·simp[Uj,pU] at h
  ·simp[lg,pU] at h
 | succ m ih=>
  obtain ⟨ihC,ihH⟩:=ih;have hex : ∀f fi,E.fn f=some fi→∀(k:Nat) (todo:List Item) (st:St) (r:List T),ex fi E (lg E X m fi) (Uj E X m) k todo st=some r→∀{a:Act} {w:World} {g:Gh} {hold:Nat→aE},
    Inv E fi.ntmps st a w g hold→Goal P E fi.ntmps fi r todo a w g hold:=by
   intro f fi hf k todo st r h a w g hold hI;have hfi:=hT f fi hf;unfold FiOk at hfi;simp only[Bool.and_eq_true,decide_eq_true_eq] at hfi;exact ex_ok hP hF rfl hfi.1 ihC (ihH f fi hf) hmix k todo st r h hI
  refine ⟨fun f fi hf=>?_,fun f fi hf body k cs r h a w g hold hI=>?_⟩
  ·cases hx:X f with
   | some k=>
    have:=hX f k hx fi hf
    intro ts res h;rw[mG,hx] at h;exact this ts res h
   | none=>
    refine fn_ok hP hF hf (hT f fi hf) (C:=Uj E X (m+1) f) (st0:=fun _ todo st=>ex fi E (lg E X m fi) (Uj E X m) BIG todo st) (fun ts=>?_) fun ts todo st r h a w g hold hI=>hex f fi hf _ _ _ _ h hI
    rw[mG,hx,hf];rfl
  ·rw[vO] at h;unfold iU at h;exact hex f fi hf _ _ _ _ h hI
theorem call_fn (hP:ba P E) (hF:de P E) (hT:vb E) (hmix:P.follows .mixedOrders=true) {X:Nat→Option (List T→R)} (hX : ∀f k,X f=some k→∀fi,E.fn f=some fi→nh P E f fi k)
  {m f:Nat} {fi:Fi} (hf:E.fn f=some fi):nh P E f fi (Uj E X m f):=(both_ok hP hF hT hmix hX m).1 f fi hf
end
inductive BT (α:Type) where | leaf (x:α) | node (m:Nat) (l r:BT α)
def BT.at {α:Type} : BT α→Nat→α
 | .leaf x,_=>x
 | .node m l r,n=>bif Nat.ble m n then r.at n else l.at n
structure cR where
 ty:Ty
 sz:Nat
 flat:Bool
 nofn:Bool
 zok:Bool
 zero:T
 zc:List Value
def il:cR:=⟨.bad,0,false,false,false,.int 0,[]⟩
def tyAt (N:Nat) (b:BT cR) (t:Nat):cR:=bif Nat.ble N t then il else b.at t
def rN (N:Nat) (b:BT cR) (bt:Nat) (fs:List (Nat × Fi)) (tab:List (Nat × List Value)) (told:Nat→Option (List T→R)):Env:=
 ⟨fun t=>(tyAt N b t).ty,fun t=>(tyAt N b t).sz,fun t=>(tyAt N b t).flat,fun t=>(tyAt N b t).nofn,fun t=>(tyAt N b t).zero,fun t=>(tyAt N b t).zc,fun t=>(tyAt N b t).zok,bt,aJ fs,fun f=>f % 5000,tab,told,0⟩
def m9:Code→List Item→List (List Item)
 | .loop b,k=>(.inLoop b :: k) :: m9 b (.inLoop b :: k)
 | .seq a b,k=>m9 a (.code b :: k)++m9 b k
 | .cond _ x y,k=>m9 x k++m9 y k
 | .block id b,k=>m9 b (.inBlock id :: k)
 | .scope b,k=>m9 b (.inScope b :: k)
 | _,_=>[]
def bS (c:Code) (i:Nat):List Item:=(m9 c []).getD i []
def obind (x:R) (k:List T→R):R:=match x with | some r=>k r | none=>none
theorem bs:(∀(r:List T) (k:List T→R),obind (some r) k=k r)∧(∀(α:Type) (a b:α),(bif true then a else b)=a)∧(∀(α:Type) (a b:α),(bif false then a else b)=b)∧
  (∀b,(T.bool b).b=b)∧((true==true)=true)∧((true==false)=false)∧((false==true)=false)∧((false==false)=true)∧((!true)=false)∧((!false)=true)∧
  (∀b,(true&&b)=b)∧(∀b,(false&&b)=false)∧(∀b,(true||b)=true)∧(∀b,(false||b)=b)∧(∀b,(b||true)=true)∧(∀b,(b||false)=b):=
 ⟨fun _ _=>rfl,fun _ _ _=>rfl,fun _ _ _=>rfl,fun _=>rfl,rfl,rfl,rfl,rfl,rfl,rfl,fun b=>rfl,fun b=>rfl,fun b=>rfl,fun b=>rfl,fun b=>by cases b <;> rfl,fun b=>by cases b <;> rfl⟩
theorem br {x:R} {k k':List T→R} (h : ∀r,k r=k' r):obind x k=obind x k':=by rw[show k=k' from funext h]
def rt:List T→Nat→T
 | r,0=>r.headD (.int 0)
 | r,n+1=>rt r.tail n
theorem rf {s:ByteArray} (h:s.data.toList.isEmpty=true):s=⟨#[]⟩:=by
 obtain ⟨d⟩:=s;have:d = #[]:=by
  have:=List.isEmpty_iff.1 h
  exact Array.toList_eq_nil_iff.1 this
 rw[this]
mutual
def zEq:T→T→Bool
 | .int a,.int b=>decide (a=b)
 | .bool a,.bool b=>a==b
 | .str a,.str b=>a.data.toList.isEmpty&&b.data.toList.isEmpty
 | .sl l,.sl m=>l.isEmpty&&m.isEmpty
 | .st l,.st m=>zEqs l m
 | _,_=>false
def zEqs:List T→List T→Bool
 | [],[]=>true
 | a :: l,b :: m=>zEq a b&&zEqs l m
 | _,_=>false
end
mutual
theorem zEq_ok : ∀(a b:T),zEq a b=true→a=b
 | .int a,b,h=>by cases b <;> simp_all[zEq]
 | .bool a,b,h=>by cases b <;> simp_all[zEq]
 | .str a,b,h=>by
  cases b <;> simp only[zEq,Bool.and_eq_true,Bool.false_eq_true] at h
  rw[rf h.1,rf h.2]
 | .sl l,b,h=>by
  cases b <;> simp only[zEq,Bool.and_eq_true,Bool.false_eq_true] at h
  rw[List.isEmpty_iff.1 h.1,List.isEmpty_iff.1 h.2]
 | .st l,b,h=>by
  cases b <;> simp only[zEq,Bool.false_eq_true] at h
  rw[AS _ _ h]
 | .fn _ _,b,h=>by cases b <;> simp[zEq] at h
theorem AS : ∀(l m:List T),zEqs l m=true→l=m
 | [],m,h=>by cases m <;> simp_all[zEqs]
 | a :: l,m,h=>by
  cases m with
  | nil=>simp[zEqs] at h
  | cons b m=>
   simp only[zEqs,Bool.and_eq_true] at h;rw[zEq_ok a b h.1,AS l m h.2]
end
def vEq:Value→Value→Bool
 | .int k n,.int k' n'=>decide (k=k')&&decide (n=n')
 | .bool a,.bool b=>a==b
 | .string a,.string b=>a.data.toList.isEmpty&&b.data.toList.isEmpty
 | .slice none 0 0,.slice none 0 0=>true
 | _,_=>false
theorem vEq_ok {a b:Value} (h:vEq a b=true):a=b:=by
 unfold vEq at h;split at h <;> try (first | cases h;done | simp_all;done)
 rename_i a b
 simp only[Bool.and_eq_true] at h;rw[rf h.1,rf h.2]
def vsEq:List Value→List Value→Bool
 | [],[]=>true
 | a :: l,b :: m=>vEq a b&&vsEq l m
 | _,_=>false
theorem xg : ∀{l m:List Value},vsEq l m=true→l=m
 | [],[],_=>rfl
 | a :: l,b :: m,h=>by
  simp only[vsEq,Bool.and_eq_true] at h;rw[vEq_ok h.1,xg h.2]
 | [],_ :: _,h=>by cases h
 | _ :: _,[],h=>by cases h
def tyB (P:Program) (E:Env) (t:Nat):Bool:=
 match E.ty t,P.underlying t with
 | .int k,some (.int k')=>decide (k=k')
 | .bool,some .bool=>true
 | .str,some .string=>true
 | .sl e,some (.slice e')=>Nat.beq e' e&&bN E e
 | .st fs,some (.struct fds)=>Nat.beq fds.size fs.length&&(!P.stoodInHeld t&&(!P.eqGuardType P.depth t&&(List.range fs.length).all fun j=>match fs[j]?,fds[j]? with
   | some f, some fd => Nat.beq fd.type f && (Nat.beq fd.offset (off E fs j) && (!Nat.beq (E.sz f) 0 && (decide (fd.name ≠ "_") && bN E f)))
   | _,_=>false))
 | .fn ps rs,some (.func ps' rs' _)=>decide (ps'.toList=ps)&&decide (rs'.toList=rs)
 | .ptr e,some (.pointer e')=>Nat.beq e' e&&bN E e
 | .bad,_=>true
 | .cp _,_=>true
 | _,_=>false
def szB (E:Env) (t:Nat):Bool:=
 match E.ty t with
 | .st fs=>Nat.beq (E.sz t) (fs.map E.sz).sum&&((!E.flat t||fs.all E.flat)&&(!E.nofn t||fs.all E.nofn))
 | .bad=>true
 | .sl e=>Nat.beq (E.sz t) 1&&(!E.flat t&&(!E.nofn t||E.nofn e))
 | .fn _ _=>Nat.beq (E.sz t) 1&&(!E.flat t && !E.nofn t)
 | .cp _=>Nat.beq (E.sz t) 1&&(!E.flat t && !E.nofn t)
 | _=>Nat.beq (E.sz t) 1
def infoB (P:Program) (E:Env) (t:Nat):Bool:=
 !bN E t||(match P.info? t with | some i=>Nat.beq i.size (E.sz t)&&decide (i.bytes≤4096) | none=>false)
def shB (E:Env) (t:Nat) (v:Value):Bool:=
 Nat.beq v.cells.size (E.sz t)&&(match E.ty t with | .st _=>(match v with | .agg _=>true | _=>false) | _=>(match v with | .agg _=>false | .tuple _=>false | _=>true))
def wE (E:Env) (t:Nat):Bool:=
 match E.ty t,E.zero t,E.zc t with
 | .int k,.int 0,[.int k' 0]=>decide (k=k')
 | .bool,.bool false,[.bool false]=>true
 | .str,.str s,[.string s']=>s.data.toList.isEmpty&&s'.data.toList.isEmpty
 | .sl _,.sl [],[.slice none 0 0]=>true
 | .st fs,.st ts,_=>fs.all E.zok
 | _,_,_=>false
def zeroB (P:Program) (E:Env) (t:Nat):Bool:=
 !E.zok t||(bN E t&&((match P.info? t with
  | some i=>(match i.zero with | some z=>shB E t z&&vsEq z.cells.toList (E.zc t) | none=>false)
  | none=>false)&&(wE E t&&(match E.ty t with
  | .st fs=>vsEq (E.zc t) (fs.flatMap E.zc)&&zEq (E.zero t) (.st (fs.map E.zero))
  | _=>true))))
def rowB (P:Program) (E:Env) (t:Nat):Bool:=tyB P E t&&(szB E t&&(infoB P E t&&zeroB P E t))
theorem AU {v:Value} (h:(match v with | .agg _=>false | .tuple _=>false | _=>true)=true):v.cells = #[v]:=by
 cases v <;> first | rfl | cases h
theorem zc_get {E:Env} : ∀{fs:List Nat},(∀f∈fs,(E.zc f).length=E.sz f)→∀(j f:Nat),fs[j]?=some f→∀k,k < E.sz f→(fs.flatMap E.zc)[off E fs j+k]?=(E.zc f)[k]?
 | [],_,j,f,h,_,_=>by simp at h
 | f0 :: fs,hw,j,f,h,k,hk=>by
  rw[List.flatMap_cons];cases j with
  | zero=>
   simp at h;subst h;rw[List.getElem?_append_left (by rw[hw f0 (by simp)];simp[off];exact hk)]
   simp[off]
  | succ j=>
   simp only[List.getElem?_cons_succ] at h;have ih:=zc_get (fun f hf=>hw f (by simp[hf])) j f h k hk
   rw[List.getElem?_append_right (by rw[hw f0 (by simp)];simp[off];omega),← ih]
   congr 1
   rw[hw f0 (by simp)]
   simp[off];omega
section
variable {P:Program} {E:Env} {N:Nat}
theorem prOk_of (hN : ∀t,N≤t→E.ty t = .bad∧E.zok t=false) (h:(List.range N).all (rowB P E)=true):ba P E:=by
 have row : ∀t,t < N→tyB P E t=true∧szB E t=true∧infoB P E t=true∧zeroB P E t=true:=by
  intro t ht;have:=List.all_eq_true.1 h t (List.mem_range.2 ht)
  unfold rowB at this;simp only[Bool.and_eq_true] at this;exact this
 have lt : ∀{t},E.ty t≠.bad→t < N:=fun {t} hb=>Nat.lt_of_not_le fun hn=>hb (hN t hn).1
 have ltz : ∀{t},E.zok t=true→t < N:=fun {t} hz=>Nat.lt_of_not_le fun hn=>by rw[(hN t hn).2] at hz;cases hz
 have hzr : ∀t,E.zok t=true→bN E t=true∧(∃i z,P.info? t=some i∧i.zero=some z∧bd E t z∧z.cells.toList=E.zc t)∧wE E t=true∧(∀fs,E.ty t = .st fs→E.zc t=fs.flatMap E.zc∧E.zero t = .st (fs.map E.zero)):=by
  intro t hz;have:=(row t (ltz hz)).2.2.2
  unfold zeroB at this;rw[hz] at this;simp only[Bool.not_true,Bool.false_or,Bool.and_eq_true] at this;obtain ⟨a1,a2,a3,a4⟩:=this;refine ⟨a1,?_,a3,fun fs hfs=>by rw[hfs] at a4;simp only[Bool.and_eq_true] at a4;exact ⟨xg a4.1,zEq_ok _ _ a4.2⟩⟩
  split at a2
  rotate_left
  ·cases a2
  rename_i i hi
  split at a2
  rotate_left
  ·cases a2
  rename_i z hz'
  rw[Bool.and_eq_true] at a2;refine ⟨i,z,hi,hz',?_,xg a2.2⟩;have hs:=a2.1;unfold shB at hs;rw[Bool.and_eq_true] at hs;refine ⟨Nat.eq_of_beq_eq_true hs.1,?_⟩;have:=hs.2
  split
  ·rename_i fs hfs
   rw[hfs] at this;simp only at this
   split at this
   ·exact ⟨_,rfl⟩
   ·cases this
  ·rename_i hne
   split at this
   ·rename_i fs hfs;exact absurd hfs (hne fs)
   ·exact AU this
 have wf:bl E:=by
  refine ⟨?_,?_,?_,?_,?_,?_,?_,?_,?_,?_⟩
  ·intro t ht;by_cases hb:E.ty t = .bad
   ·rw[hb] at ht;exact ht.elim
   ·have:=(row t (lt hb)).2.1
    unfold szB at this;split at this
    ·rename_i fs hfs;rw[hfs] at ht;exact ht.elim
    ·rename_i hfs;rw[hfs] at ht;exact ht.elim
    ·simp only[Bool.and_eq_true] at this;exact Nat.eq_of_beq_eq_true this.1
    ·simp only[Bool.and_eq_true] at this;exact Nat.eq_of_beq_eq_true this.1
    ·simp only[Bool.and_eq_true] at this;exact Nat.eq_of_beq_eq_true this.1
    ·exact Nat.eq_of_beq_eq_true this
  ·intro t fs ht;have:=(row t (lt (by rw[ht];simp))).2.1
   unfold szB at this;rw[ht] at this;simp only[Bool.and_eq_true] at this;exact Nat.eq_of_beq_eq_true this.1
  ·intro t fs ht hf;have:=(row t (lt (by rw[ht];simp))).2.1
   unfold szB at this;rw[ht] at this;simp only[Bool.and_eq_true,hf,Bool.not_true,Bool.false_or,List.all_eq_true] at this;exact this.2.1
  ·intro t e ht;have:=(row t (lt (by rw[ht];simp))).2.1
   unfold szB at this;rw[ht] at this;simp only[Bool.and_eq_true,Bool.not_eq_true'] at this;exact this.2.1
  ·intro t a b ht;have:=(row t (lt (by rw[ht];simp))).2.1
   unfold szB at this;rw[ht] at this;simp only[Bool.and_eq_true,Bool.not_eq_true'] at this;exact this.2.1
  ·intro t e ht;have:=(row t (lt (by rw[ht];simp))).2.1
   unfold szB at this;rw[ht] at this;simp only[Bool.and_eq_true,Bool.not_eq_true'] at this;exact this.2.1
  ·intro t fs ht hf;have:=(row t (lt (by rw[ht];simp))).2.1
   unfold szB at this;rw[ht] at this;simp only[Bool.and_eq_true,hf,Bool.not_true,Bool.false_or,List.all_eq_true] at this;exact this.2.2
  ·intro t e ht hf;have:=(row t (lt (by rw[ht];simp))).2.1
   unfold szB at this;rw[ht] at this;simp only[Bool.and_eq_true,hf,Bool.not_true,Bool.false_or] at this;exact this.2.2
  ·intro t a b ht;have:=(row t (lt (by rw[ht];simp))).2.1
   unfold szB at this;rw[ht] at this;simp only[Bool.and_eq_true,Bool.not_eq_true'] at this;exact this.2.2
  ·intro t e ht;have:=(row t (lt (by rw[ht];simp))).2.1
   unfold szB at this;rw[ht] at this;simp only[Bool.and_eq_true,Bool.not_eq_true'] at this;exact this.2.2
 refine { wf:=wf,int:=?_,bool:=?_,str:=?_,sl:=?_,st:=?_,fn:=?_,ptr:=?_,info:=?_,zero:=?_,zc_st:=?_,zc_sl:=?_,zrep:=?_ }
 ·intro t k ht;have:=(row t (lt (by rw[ht];simp))).1
  unfold tyB at this;rw[ht] at this;split at this <;> simp_all
 ·intro t ht;have:=(row t (lt (by rw[ht];simp))).1
  unfold tyB at this;rw[ht] at this;split at this <;> simp_all
 ·intro t ht;have:=(row t (lt (by rw[ht];simp))).1
  unfold tyB at this;rw[ht] at this;split at this <;> simp_all
 ·intro t e ht;have:=(row t (lt (by rw[ht];simp))).1
  unfold tyB at this;rw[ht] at this;split at this <;> try (first | cases this;done | simp_all;done)
 ·intro t fs ht;have:=(row t (lt (by rw[ht];simp))).1
  unfold tyB at this;rw[ht] at this;split at this <;> try (first | cases this;done | simp_all;done)
  rename_i fs' fds h1 h2
  cases h1;simp only[Bool.and_eq_true,Bool.not_eq_true',List.all_eq_true,List.mem_range] at this;obtain ⟨b1,b2,b3,b4⟩:=this;refine ⟨fds,h2,Nat.eq_of_beq_eq_true b1,b2,b3,fun j f fd hf hfd=>?_⟩
  have:=b4 j (List.getElem?_eq_some_iff.1 hf).1
  rw[hf,hfd] at this;simp only[Bool.and_eq_true,Bool.not_eq_true',decide_eq_true_eq] at this;obtain ⟨c1,c2,c3,c4,c5⟩:=this;refine ⟨Nat.eq_of_beq_eq_true c1,Nat.eq_of_beq_eq_true c2,fun h0=>?_,c4,c5⟩
  rw[h0] at c3;simp at c3
 ·intro t ps rs ht;have:=(row t (lt (by rw[ht];simp))).1
  unfold tyB at this;rw[ht] at this;split at this <;> try (first | cases this;done | simp_all;done)
  rename_i a b c d e h1 h2
  cases h1;simp only[Bool.and_eq_true,decide_eq_true_eq] at this;exact ⟨e,by rw[h2,← this.1,← this.2]⟩
 ·intro t e ht;have:=(row t (lt (by rw[ht];simp))).1
  unfold tyB at this;rw[ht] at this;split at this <;> try (first | cases this;done | simp_all;done)
 ·intro t hok;have hb:E.ty t≠.bad:=by intro hb;simp[bN,hb] at hok
  have:=(row t (lt hb)).2.2.1
  unfold infoB at this;rw[hok] at this;simp only[Bool.not_true,Bool.false_or] at this;split at this
  ·rename_i i hi
   simp only[Bool.and_eq_true,decide_eq_true_eq] at this;exact ⟨i,hi,Nat.eq_of_beq_eq_true this.1,this.2⟩
  ·cases this
 ·intro t hz;obtain ⟨a1,a2,_⟩:=hzr t hz;exact ⟨a1,a2⟩
 ·intro t fs hz ht;obtain ⟨_,_,a3,a4⟩:=hzr t hz;refine ⟨(a4 fs ht).1,(a4 fs ht).2,?_⟩;unfold wE at a3;rw[ht] at a3;split at a3 <;> simp_all
 ·intro t e hz ht;obtain ⟨_,_,a3,_⟩:=hzr t hz;unfold wE at a3;rw[ht] at a3;split at a3 <;> simp_all
 ·have key : ∀(m:Nat) (t:Nat),SizeOf.sizeOf (E.zero t)≤m→E.zok t=true→∀w g r p,Rep E w g t (E.zero t) .dp r p (.reg (E.zc t) 0):=by
   intro m;induction m with
   | zero=>
    intro t hm;exfalso
    cases hz:E.zero t <;> rw[hz] at hm <;> simp at hm
   | succ m ih=>
    intro t hm hz w g r p;obtain ⟨_,_,a3,a4⟩:=hzr t hz;have a3':=a3;unfold wE at a3;split at a3 <;> try (cases a3;done)
    ·rename_i k k' h1 h2 h3
     rw[h2,h3];have:=of_decide_eq_true a3;subst this;exact .int h1 rfl
    ·rename_i h1 h2 h3;rw[h2,h3];exact .bool h1 rfl
    ·rename_i s s' h1 h2 h3
     rw[h2,h3];simp only[Bool.and_eq_true] at a3;rw[rf a3.1,rf a3.2];exact .str h1 rfl
    ·rename_i e h1 h2 h3;rw[h2,h3];exact .own0 h1 rfl rfl
    ·rename_i fs ts h1 h2
     have hzs:=(a4 fs h1).2;have hall : ∀f∈fs,E.zok f=true:=by simpa[List.all_eq_true] using a3
     have hwf : ∀f∈fs,(E.zc f).length=E.sz f:=by
      intro f hf;obtain ⟨_,⟨i,z,_,_,hsh,hzc⟩,_,_⟩:=hzr f (hall f hf);rw[← hzc,Array.length_toList];exact hsh.1
     rw[hzs];refine .st h1 (by simp) fun j f x hf hx=>?_
     have hfm:=List.mem_of_getElem? hf;simp only[List.getElem?_map,hf,Option.map_some,Option.some.injEq] at hx;subst hx;have hsz:SizeOf.sizeOf (E.zero f)≤m:=by
      rw[hzs] at hm;have hin:E.zero f∈fs.map E.zero:=List.mem_map.2 ⟨f,hfm,rfl⟩
      have:=List.sizeOf_lt_of_mem hin
      simp at hm
      omega
     refine (ih f hsz (hall f hfm) w g r (p ++ [.fld j])).place wf fun k hk=>?_
     have:=zc_get hwf j f hf k hk
     rw[(a4 fs h1).1];simpa[aE.add,rd] using this
  exact fun t hz w g r p=>key _ t (Nat.le_refl _) hz w g r p
theorem uj {α:Type} : ∀{l:List (Nat × α)} {n:Nat} {x:α},aJ l n=some x→(n,x)∈l
 | [],_,_,h=>by cases h
 | (k,v) :: l,n,x,h=>by
  simp only[aJ,bZ] at h;by_cases hk:k=n
  ·subst hk;simp at h;subst h;simp
  ·simp only[hk,decide_false,cond_false] at h;exact List.mem_cons_of_mem _ (uj h)
def FnsL (P:Program) (E:Env):List (Nat × Fi)→Prop
 | []=>True
 | (f, fi) :: l => (∃ fn, P.funcs[E.src f]? = some fn ∧ fn.body = some fi.body ∧ fn.name ≠ "runtime.NumGoroutine" ∧ fn.ntmps = fi.ntmps ∧ fn.results.toList = fi.results ∧ (fi.clip = true → ∃ ty m, fi.params = [(ty, m)] ∧ lp fn ty fi.body) ∧
   (∀f1 j1 f2 j2,fi.inl = [(f1,j1),(f2,j2)]→E.src f=f∧E.src f1=f1∧E.src f2=f2∧∃ty s1 s2 ps,fi.params=(ty,.ro) :: ps∧pE E fn ty j1 s1 f1 j2 s2 f2 fi.body))∧FnsL P E l
theorem TA : ∀ {l : List (Nat × Fi)}, FnsL P E l → ∀ f fi, (f, fi) ∈ l → ∃ fn, P.funcs[E.src f]? = some fn ∧ fn.body = some fi.body ∧ fn.name ≠ "runtime.NumGoroutine" ∧ fn.ntmps = fi.ntmps ∧ fn.results.toList = fi.results ∧ (fi.clip = true → ∃ ty m, fi.params = [(ty, m)] ∧ lp fn ty fi.body) ∧
   (∀f1 j1 f2 j2,fi.inl = [(f1,j1),(f2,j2)]→E.src f=f∧E.src f1=f1∧E.src f2=f2∧∃ty s1 s2 ps,fi.params=(ty,.ro) :: ps∧pE E fn ty j1 s1 f1 j2 s2 f2 fi.body)
 | [],_,f,fi,h=>by cases h
 | (f',fi') :: l,hl,f,fi,h=>by
  rcases List.mem_cons.1 h with h | h
  ·cases h;exact hl.1
  ·exact TA hl.2 f fi h
theorem fe {f : Nat} {fi : Fi} (h : ∃ fn, P.funcs[E.src f]? = some fn ∧ fn.body = some fi.body ∧ fn.name ≠ "runtime.NumGoroutine" ∧ fn.ntmps = fi.ntmps ∧ fn.results.toList = fi.results) (hc : fi.clip = false) (hi : fi.inl = []) :
  ∃ fn, P.funcs[E.src f]? = some fn ∧ fn.body = some fi.body ∧ fn.name ≠ "runtime.NumGoroutine" ∧ fn.ntmps = fi.ntmps ∧ fn.results.toList = fi.results ∧ (fi.clip = true → ∃ ty m, fi.params = [(ty, m)] ∧ lp fn ty fi.body) ∧
   (∀f1 j1 f2 j2,fi.inl = [(f1,j1),(f2,j2)]→E.src f=f∧E.src f1=f1∧E.src f2=f2∧∃ty s1 s2 ps,fi.params=(ty,.ro) :: ps∧pE E fn ty j1 s1 f1 j2 s2 f2 fi.body):=by
 obtain ⟨fn,h1,h2,h3,h4,h5⟩:=h;exact ⟨fn,h1,h2,h3,h4,h5,(fun h=>by rw[hc] at h;cases h),(fun f1 j1 f2 j2 h=>by rw[hi] at h;cases h)⟩
theorem fnsOk_of {b:BT cR} {bt:Nat} {fs:List (Nat × Fi)} {tab:List (Nat × List Value)} {told:Nat→Option (List T→R)} (h:FnsL P (rN N b bt fs tab told) fs):de P (rN N b bt fs tab told):=fun f fi hf=>TA h f fi (uj hf)
theorem fisOk_of {b:BT cR} {bt:Nat} {fs:List (Nat × Fi)} {tab:List (Nat × List Value)} {told:Nat→Option (List T→R)} (h:(fs.all fun x=>FiOk x.2)=true):vb (rN N b bt fs tab told):=fun f fi hf=>List.all_eq_true.1 h _ (uj hf)
theorem bad_of {b:BT cR} {bt:Nat} {fs:List (Nat × Fi)} {tab:List (Nat × List Value)} {told:Nat→Option (List T→R)} : ∀t,N≤t→(rN N b bt fs tab told).ty t = .bad∧(rN N b bt fs tab told).zok t=false:=by
 intro t ht;have:Nat.ble N t=true:=Nat.ble_eq_true_of_le ht
 simp[rN,tyAt,this,il]
end
def Yields (x:Nat→R) (r:List T):Prop:=∃m,∀k,m≤k→x k=some r
theorem Yields.some (r:List T):Yields (fun _=>some r) r:=⟨0,fun _ _=>rfl⟩
theorem Yields.obind {x:Nat→R} {K:Nat→List T→R} {r1 r:List T} (h1:Yields x r1) (h2:Yields (fun k=>K k r1) r):Yields (fun k=>obind (x k) (K k)) r:=by
 obtain ⟨m,hm⟩:=h1;obtain ⟨n,hn⟩:=h2;refine ⟨max m n,fun k hk=>?_⟩
 show Ra.obind (x k) (K k)=Option.some r
 rw[hm k (by omega)]
 exact hn k (by omega)
theorem Yields.tt {b:Bool} {x y:Nat→R} {r:List T} (hb:b=true) (h:Yields x r):Yields (fun k=>bif b then x k else y k) r:=by
 subst hb;exact h
theorem Yields.ff {b:Bool} {x y:Nat→R} {r:List T} (hb:b=false) (h:Yields y r):Yields (fun k=>bif b then x k else y k) r:=by
 subst hb;exact h
theorem Yields.ite {b:Bool} {x y:Nat→R} {r:List T} (ht:b=true→Yields x r) (hf:b=false→Yields y r):Yields (fun k=>bif b then x k else y k) r:=by
 cases b with
 | true=>exact ht rfl
 | false=>exact hf rfl
def YP (x:Nat→R) (Q:List T→Prop):Prop:=∃r,Yields x r∧Q r
theorem YP.some {Q:List T→Prop} {r:List T} (h:Q r):YP (fun _=>Option.some r) Q:=⟨r,Yields.some r,h⟩
theorem YP.obind {x:Nat→R} {K:Nat→List T→R} {Q1 Q:List T→Prop} (h1:YP x Q1) (h2 : ∀r,Q1 r→YP (fun k=>K k r) Q):YP (fun k=>Ra.obind (x k) (K k)) Q:=by
 obtain ⟨r1,y1,q1⟩:=h1;obtain ⟨r,y,q⟩:=h2 r1 q1;exact ⟨r,Yields.obind y1 y,q⟩
theorem YP.ite {b:Bool} {x y:Nat→R} {Q:List T→Prop} (ht:b=true→YP x Q) (hf:b=false→YP y Q):YP (fun k=>bif b then x k else y k) Q:=by
 cases b with
 | true=>exact ht rfl
 | false=>exact hf rfl
theorem YP.tt {b:Bool} {x y:Nat→R} {Q:List T→Prop} (hb:b=true) (h:YP x Q):YP (fun k=>bif b then x k else y k) Q:=by
 subst hb;exact h
theorem YP.ff {b:Bool} {x y:Nat→R} {Q:List T→Prop} (hb:b=false) (h:YP y Q):YP (fun k=>bif b then x k else y k) Q:=by
 subst hb;exact h
theorem YP.mono {x:Nat→R} {Q Q':List T→Prop} (h:YP x Q) (hq : ∀r,Q r→Q' r):YP x Q':=by
 obtain ⟨r,y,q⟩:=h;exact ⟨r,y,hq r q⟩
def cA (x:Nat→R):Prop:=∃m,∀k,m≤k→x k=Option.none
theorem cA.none:cA fun _=>Option.none:=⟨0,fun _ _=>rfl⟩
theorem cA.obind {x:Nat→R} {K:Nat→List T→R} {r:List T} (h1:Yields x r) (h2:cA fun k=>K k r):cA fun k=>Ra.obind (x k) (K k):=by
 obtain ⟨m,hm⟩:=h1;obtain ⟨n,hn⟩:=h2;refine ⟨max m n,fun k hk=>?_⟩
 show Ra.obind (x k) (K k)=Option.none
 rw[hm k (by omega)]
 exact hn k (by omega)
theorem cA.obind0 {x:Nat→R} {K:Nat→List T→R} (h1:cA x):cA fun k=>Ra.obind (x k) (K k):=by
 obtain ⟨m,hm⟩:=h1;refine ⟨m,fun k hk=>?_⟩
 show Ra.obind (x k) (K k)=Option.none
 rw[hm k hk];rfl
theorem cA.tt {b:Bool} {x y:Nat→R} (hb:b=true) (h:cA x):cA fun k=>bif b then x k else y k:=by subst hb;exact h
theorem cA.ff {b:Bool} {x y:Nat→R} (hb:b=false) (h:cA y):cA fun k=>bif b then x k else y k:=by subst hb;exact h
theorem YP.or1 {x y:Nat→R} {Q:List T→Prop} (h:YP x Q):YP (fun k=>orE (x k) (y k)) Q:=by
 obtain ⟨r,⟨m,hm⟩,q⟩:=h;exact ⟨r,⟨m,fun k hk=>by show orE (x k) (y k)=_;rw[hm k hk];rfl⟩,q⟩
theorem YP.or2 {x y:Nat→R} {Q:List T→Prop} (h1:cA x) (h:YP y Q):YP (fun k=>orE (x k) (y k)) Q:=by
 obtain ⟨r,⟨m,hm⟩,q⟩:=h;obtain ⟨n,hn⟩:=h1;exact ⟨r,⟨max m n,fun k hk=>by show orE (x k) (y k)=_;rw[hn k (by omega)];exact hm k (by omega)⟩,q⟩
def cl (E:Env) (k:Nat):aF:=Uj E E.told k
def hl (E:Env) (k:Nat) (fi:Fi):List Item→CS→R:=lg E E.told k fi
theorem Yields.told {E:Env} {f:Nat} {g:List T→R} {ts r:List T} (hg:E.told f=Option.some g) (h:g ts=Option.some r):Yields (fun k=>cl E k f ts) r:=by
 refine ⟨1,fun k hk=>?_⟩
 obtain ⟨k,rfl⟩ : ∃j,k=j+1:=⟨k - 1,by omega⟩
 show Uj E E.told (k+1) f ts=Option.some r
 rw[mG,hg];exact h
theorem Yields.call {E:Env} {f:Nat} {fi:Fi} {ts:List T} {r:List T} (hx:E.told f=Option.none) (hf:E.fn f=Option.some fi) {Z:(List Item→CS→R)→aF→R} (hz : ∀H C,bI fi E H C ts=Z H C)
  (h:Yields (fun k=>Z (hl E k fi) (cl E k)) r):Yields (fun k=>cl E k f ts) r:=by
 obtain ⟨m,hm⟩:=h;refine ⟨m+1,fun k hk=>?_⟩
 obtain ⟨k,rfl⟩ : ∃j,k=j+1:=⟨k - 1,by omega⟩
 show Uj E E.told (k+1) f ts=Option.some r
 rw[mG,hx];simp only[hf];rw[show bI fi E (lg E E.told k fi) (Uj E E.told k) ts=_ from hz _ _]
 exact hm k (by omega)
theorem Yields.head {E:Env} {fi:Fi} {todo:List Item} {cs:CS} {r:List T} {Z:(List Item→CS→R)→aF→R} (hz : ∀H C,iU fi E H C todo cs=Z H C)
  (h:Yields (fun k=>Z (hl E k fi) (cl E k)) r):Yields (fun k=>hl E k fi todo cs) r:=by
 obtain ⟨m,hm⟩:=h;refine ⟨m+1,fun k hk=>?_⟩
 obtain ⟨k,rfl⟩ : ∃j,k=j+1:=⟨k - 1,by omega⟩
 show lg E E.told (k+1) fi todo cs=Option.some r
 rw[vO];rw[show iU fi E (lg E E.told k fi) (Uj E E.told k) todo cs=_ from hz _ _]
 exact hm k (by omega)
theorem Yields.hd {E:Env} {fi:Fi} {todo:List Item} {cs:CS} {r:List T} (Z:(List Item→CS→R)→aF→R) (h:Yields (fun k=>Z (hl E k fi) (cl E k)) r) (hz:(fun H C=>iU fi E H C todo cs)=Z):Yields (fun k=>hl E k fi todo cs) r:=
 Yields.head (fun H C=>congrFun (congrFun hz H) C) h
theorem Yields.ca {E:Env} {f:Nat} {fi:Fi} {ts:List T} {r:List T} (Z:(List Item→CS→R)→aF→R) (h:Yields (fun k=>Z (hl E k fi) (cl E k)) r) (hz:(fun H C=>bI fi E H C ts)=Z)
  (hx:E.told f=Option.none:=by rfl) (hf:E.fn f=Option.some fi:=by rfl):Yields (fun k=>cl E k f ts) r:=Yields.call hx hf (fun H C=>congrFun (congrFun hz H) C) h
inductive ee (E:Env):Nat→T→Prop
 | int {ty k n} : E.ty ty = .int k→(Lit.int k n).wf=true→ee E ty (.int n)
 | bool {ty b} : E.ty ty = .bool→ee E ty (.bool b)
 | str {ty s} : E.ty ty = .str→s.size≤maxLen→ee E ty (.str s)
 | sl {ty e es} : E.ty ty = .sl e→es.length≤maxLen→(∀t∈es,ee E e t)→ee E ty (.sl es)
 | st {ty fs ts} : E.ty ty = .st fs→ts.length=fs.length→(∀(j f:Nat) (t:T),fs[j]?=some f→ts[j]?=some t→ee E f t)→ee E ty (.st ts)
theorem ee.int_inv {E:Env} {ty:Nat} {k:IntKind} {t:T} (h:ee E ty t) (hk:E.ty ty = .int k) : ∃n,t = .int n∧k.min≤n∧n≤k.max:=by
 cases h with
 | int h1 h2=>
  rw[h1] at hk;cases hk;exact ⟨_,rfl,by simpa[Lit.wf] using h2⟩
 | bool h1=>rw[h1] at hk;cases hk
 | str h1=>rw[h1] at hk;cases hk
 | sl h1=>rw[h1] at hk;cases hk
 | st h1=>rw[h1] at hk;cases hk
theorem ee.sl_inv {E:Env} {ty e:Nat} {t:T} (h:ee E ty t) (hk:E.ty ty = .sl e) : ∃es,t = .sl es∧es.length≤maxLen∧∀t∈es,ee E e t:=by
 cases h with
 | int h1 h2=>rw[h1] at hk;cases hk
 | bool h1=>rw[h1] at hk;cases hk
 | str h1=>rw[h1] at hk;cases hk
 | sl h1 h2 h3=>rw[h1] at hk;cases hk;exact ⟨_,rfl,h2,h3⟩
 | st h1=>rw[h1] at hk;cases hk
theorem bf {n:Int} (h1 : -9223372036854775808≤n) (h2:n≤9223372036854775807):IntKind.wrap .i64 n=n:=by
 simp only[IntKind.wrap,IntKind.bits,IntKind.signed];by_cases h:n < 0
 ·have e:n % 18446744073709551616=n+18446744073709551616:=by omega
  simp[e];omega
 ·have e:n % 18446744073709551616=n:=by omega
  simp[e];omega
theorem bh {es:List T} {i:Nat} (h:i < es.length):(T.sl es).nth i=es[i]:=by simp[T.nth,T.es,h]
theorem rt0 (a:T) (l:List T):rt (a :: l) 0=a:=rfl
theorem rt1 (a b:T) (l:List T):rt (a :: b :: l) 1=b:=rfl
theorem rt2 (a b c:T) (l:List T):rt (a :: b :: c :: l) 2=c:=rfl
open Go.ChangeShapes
def Ji (E:Env) (dts:List Nat):Bool:=dts.all fun t=>bN E t&&(match E.ty t with
 | .int _=>true
 | .bool=>true
 | .str=>true
 | .sl e=>mem e dts && !Nat.beq (E.sz e) 0
 | .st fs=>fs.all fun f=>mem f dts
 | _=>false)
section
variable {P:Program} {E:Env} {H:Type} {enc:TypeId × Value→H}
theorem Bt (a:Addr) (m n:Nat):(a.add m).add n=a.add (m+n):=by
 unfold Addr.add;by_cases hm:m=0
 ·subst hm;simp
 ·by_cases hn:n=0
  ·subst hn;simp
  ·simp[hm,hn,Nat.add_assoc]
theorem rC (hP:ba P E) {t:Nat} (h:bN E t=true):P.cellsOf t=E.sz t:=by
 obtain ⟨i,hi,hs,_⟩:=hP.info t h;simp[Program.cellsOf,hi,hs]
theorem read_rep (hP:ba P E) {dts:List Nat} (hD:Ji E dts=true) {W:World} {g:Gh} (hg : ∀b,b < W.heap.size→g b = .frz) :
  ∀(n:Nat) (t:Nat) (cs:List Value) (x:DataW H × List MemPlace),t∈dts→DataW.trod enc P W 0 (fun _=>true) true n t cs=some x→
   ∃y,(∀r p,Rep E W g t y .fz r p (.reg cs 0))∧ee E t y∧cs.length=E.sz t:=by
 have row : ∀t∈dts,bN E t=true∧(match E.ty t with
   | .int _=>true
   | .bool=>true
   | .str=>true
   | .sl e=>mem e dts && !Nat.beq (E.sz e) 0
   | .st fs=>fs.all fun f=>mem f dts
   | _=>false)=true:=by
  intro t ht;have:=List.all_eq_true.1 hD t ht
  rw[Bool.and_eq_true] at this;exact this
 intro n;induction n with
 | zero=>intro t cs x _ h;simp[DataW.trod] at h
 | succ n ih=>
  intro t cs x ht h;obtain ⟨hok,hr⟩:=row t ht;cases he:E.ty t with
  | int k=>
   obtain ⟨m,rfl,_,hw⟩:=DataW.trod_int (hP.int t k he) h;exact ⟨.int m,fun r p=>.int he rfl,.int he hw,by rw[hP.wf.one t (by rw[he];trivial)];rfl⟩
  | bool=>
   obtain ⟨b,rfl,_⟩:=DataW.trod_bool (hP.bool t he) h;exact ⟨.bool b,fun r p=>.bool he rfl,.bool he,by rw[hP.wf.one t (by rw[he];trivial)];rfl⟩
  | str=>
   obtain ⟨s,rfl,_,hs⟩:=DataW.trod_string (hP.str t he) h;exact ⟨.str s,fun r p=>.str he rfl,.str he hs,by rw[hP.wf.one t (by rw[he];trivial)];rfl⟩
  | sl e=>
   rw[he] at hr;simp only[Bool.and_eq_true,Bool.not_eq_true'] at hr;have hed:=eR.1 hr.1;have hsz:0 < E.sz e:=by
    have:=hr.2
    rw[bZ,decide_eq_false_iff_not] at this;omega
   have hce:=rC hP (row e hed).1;have hone:=hP.wf.one t (by rw[he];trivial)
   rcases DataW.trod_slice (hP.sl t e he).1 h with ⟨rfl,_⟩ | ⟨a,len,cap,elems,rest,m,hm,rfl,_,hb,hl,hc,hlen,hel,_⟩
   ·exact ⟨.sl [],fun r p=>.fz0 he rfl,.sl he (Nat.zero_le _) (fun t ht=>by cases ht),by rw[hone];rfl⟩
   ·cases hm;have hsb:0 < len→a.spot=none∧a.block < W.heap.size:=by
     intro h0;have h1:=hel 0 h0;rw[List.getElem?_eq_getElem (by omega)] at h1
     obtain ⟨cs',h2,h3⟩:=Option.bind_eq_some_iff.1 h1;rw[Nat.zero_mul,show a.add 0=a from by simp[Addr.add]] at h2
     have hblk:a.block < W.heap.size:=World.cells?_block h2 (by rw[hce];exact hsz)
     obtain ⟨_,hl',hcell⟩:=World.cells?_some h2;rw[hce] at hl' hcell;have h0':=hcell 0 hsz;rw[show a.add 0=a from by simp[Addr.add]] at h0'
     refine ⟨?_,hblk⟩;cases hs:a.spot with
     | none=>rfl
     | some z=>
      exfalso
      obtain ⟨c0,hc0⟩ : ∃c0,cs'[0]?=some c0:=⟨_,List.getElem?_eq_getElem (by omega)⟩
      rw[hc0] at h0';unfold World.cell? at h0'
      split at h0'
      ·simp[hs] at h0'
      ·cases h0'
    have elem : ∀i,i < len→∃y,(∀r p,Rep E W g e y .fz r p (.mem a.block (a.off+i * E.sz e)))∧ee E e y:=by
     intro i hi;have hspot:=(hsb (by omega)).1
     have h1:=hel i hi;rw[List.getElem?_eq_getElem (by omega)] at h1
     obtain ⟨cs',h2,h3⟩:=Option.bind_eq_some_iff.1 h1;obtain ⟨_,hl',hcell⟩:=World.cells?_some h2;obtain ⟨y,hy1,hy2,hy3⟩:=ih e cs' _ hed h3;rw[hce] at hl' hcell;refine ⟨y,fun r p=>(hy1 r p).place hP.wf fun k hk=>?_,hy2⟩
     have:=hcell k hk
     obtain ⟨ab,ao,as⟩:=a;simp only at hspot;subst hspot;rw[show ((⟨ab,ao,none⟩:Addr).add (i * E.sz e)).add k=(⟨ab,ao,none⟩:Addr).add (i * E.sz e+k) from Bt _ _ _] at this
     simp only[rd,aE.add,Nat.zero_add];rw[← this];congr 1
     unfold Addr.add;split
     ·rename_i hz;simp only[Addr.mk.injEq,and_true,true_and];omega
     ·simp only[Addr.mk.injEq,and_true,true_and];omega
    have pick : ∃ys:List T,ys.length=len∧∀i y,ys[i]?=some y→(∀r p,Rep E W g e y .fz r p (.mem a.block (a.off+i * E.sz e)))∧ee E e y:=by
     have : ∀m,m≤len→∃ys:List T,ys.length=m∧∀i y,ys[i]?=some y→(∀r p,Rep E W g e y .fz r p (.mem a.block (a.off+i * E.sz e)))∧ee E e y:=by
      intro m;induction m with
      | zero=>intro _;exact ⟨[],rfl,fun i y h=>by simp at h⟩
      | succ m ihm=>
       intro hm;obtain ⟨ys,h1,h2⟩:=ihm (by omega)
       obtain ⟨y,e1,e2⟩:=elem m (by omega)
       refine ⟨ys ++ [y],by simp[h1],fun i z hz=>?_⟩
       by_cases hi:i < m
       ·rw[List.getElem?_append_left (by omega)] at hz;exact h2 i z hz
       ·rw[List.getElem?_append_right (by omega)] at hz
        have:i=m:=by
         have:=(List.getElem?_eq_some_iff.1 hz).1
         simp at this;omega
        subst this;simp[h1] at hz;subst hz;exact ⟨e1,e2⟩
     exact this len (Nat.le_refl _)
    obtain ⟨ys,hyl,hys⟩:=pick;refine ⟨.sl ys,fun r p=>?_,.sl he (by omega) (fun y hy=>?_),by rw[hone];rfl⟩
    ·by_cases hz:len=0
     ·subst hz;obtain rfl:ys = []:=List.length_eq_zero_iff.1 hyl;exact .fz0 he rfl
     ·obtain ⟨hsp,hbk⟩:=hsb (by omega)
      exact .fz (a:=a) he (by rw[hyl];rfl) hsp (by omega) (hg _ hbk) fun i y hy=>(hys i y hy).1 r p
    ·obtain ⟨i,hi⟩:=List.mem_iff_getElem?.1 hy;exact (hys i y hi).2
  | st fs=>
   rw[he] at hr;simp only[List.all_eq_true] at hr;obtain ⟨fds,hu,hfs,_,_,hfd⟩:=hP.st t fs he;obtain ⟨xs,m,hm,_,hcl,hxl,hx⟩:=DataW.trod_struct hu h;cases hm;rw[rC hP hok] at hcl;have part : ∀j f,fs[j]?=some f→∃y,(∀r p,Rep E W g f y .fz r p (.reg cs (off E fs j)))∧ee E f y:=by
    intro j f hj;have hjl:=(List.getElem?_eq_some_iff.1 hj).1;have hfdj:fds[j]?=some (fds[j]'(by omega)):=Array.getElem?_eq_getElem _
    obtain ⟨c1,c2,_,_,_⟩:=hfd j f _ hj hfdj;have hfm:=eR.1 (hr f (List.mem_of_getElem? hj));have h1:=hx j _ hfdj;rw[List.getElem?_eq_getElem (by omega)] at h1
    rw[c1,c2,rC hP (row f hfm).1] at h1;obtain ⟨y,hy1,hy2,hy3⟩:=ih f _ _ hfm h1;refine ⟨y,fun r p=>(hy1 r p).place hP.wf fun k hk=>?_,hy2⟩
    simp only[rd,aE.add,Nat.zero_add];rw[List.getElem?_take_of_lt hk,List.getElem?_drop]
   have pick : ∃ys:List T,ys.length=fs.length∧∀(j f:Nat) (y:T),fs[j]?=some f→ys[j]?=some y→(∀r p,Rep E W g f y .fz r p (.reg cs (off E fs j)))∧ee E f y:=by
    have : ∀m,m≤fs.length→∃ys:List T,ys.length=m∧∀(j f:Nat) (y:T),fs[j]?=some f→ys[j]?=some y→(∀r p,Rep E W g f y .fz r p (.reg cs (off E fs j)))∧ee E f y:=by
     intro m;induction m with
     | zero=>intro _;exact ⟨[],rfl,fun i f y _ h=>by simp at h⟩
     | succ m ihm=>
      intro hm;obtain ⟨ys,h1,h2⟩:=ihm (by omega)
      obtain ⟨y,e1,e2⟩:=part m (fs[m]'(by omega)) (List.getElem?_eq_getElem _)
      refine ⟨ys ++ [y],by simp[h1],fun i f z hf hz=>?_⟩
      by_cases hi:i < m
      ·rw[List.getElem?_append_left (by omega)] at hz;exact h2 i f z hf hz
      ·rw[List.getElem?_append_right (by omega)] at hz
       have:i=m:=by
        have:=(List.getElem?_eq_some_iff.1 hz).1
        simp at this;omega
       subst this;simp[h1] at hz;subst hz;rw[List.getElem?_eq_getElem (by omega)] at hf
       cases hf;exact ⟨e1,e2⟩
    exact this _ (Nat.le_refl _)
   obtain ⟨ys,hyl,hys⟩:=pick;refine ⟨.st ys,fun r p=>.st he hyl fun j f y hf hy=>?_,.st he hyl fun j f y hf hy=>(hys j f y hf hy).2,hcl⟩
   have:=(hys j f y hf hy).1 r (p ++ [.fld j])
   simpa[aE.add,O.fld] using this
  | ptr e=>rw[he] at hr;cases hr
  | cp e=>rw[he] at hr;cases hr
  | fn a b=>rw[he] at hr;cases hr
  | bad=>rw[he] at hr;cases hr
theorem yj (hP:ba P E) {W:World} {b0:Nat} {t:Nat} {v:Value} (hok:bN E t=true) (hd:match E.ty t with | .ptr _=>False | .fn _ _=>False | _=>True) (h:Value.okWide P W .any b0 t v) (hl:v.cells.toList.length=E.sz t):bd E t v:=by
 refine ⟨by rw[← hl,Array.length_toList],?_⟩
 cases he:E.ty t with
 | int k=>
  simp only[Value.okWide,hP.int t k he,Cell.okWide,Cell.ok] at h;cases v <;> first | rfl | cases h
 | bool=>
  simp only[Value.okWide,hP.bool t he,Cell.okWide,Cell.ok] at h;cases v <;> first | rfl | cases h
 | str=>
  simp only[Value.okWide,hP.str t he,Cell.okWide,Cell.ok] at h;cases v <;> first | rfl | cases h
 | sl e=>
  simp only[Value.okWide,(hP.sl t e he).1,Cell.okWide,Cell.ok] at h;cases v <;> first | rfl | cases h
 | st fs=>
  obtain ⟨fds,hu,_⟩:=hP.st t fs he;simp only[Value.okWide,hu] at h;obtain ⟨cs,rfl,_⟩:=h;exact ⟨cs,rfl⟩
 | ptr e=>rw[he] at hd;exact hd.elim
 | fn a b=>rw[he] at hd;exact hd.elim
 | bad=>simp[bN,he] at hok
 | cp=>simp[bN,he] at hok
def yE (E:Env):List Nat→List T→Prop
 | [],[]=>True
 | ty :: tys,t :: ts=>ee E ty t∧yE E tys ts
 | _,_=>False
theorem xB (hP:ba P E) {dts:List Nat} (hD:Ji E dts=true) {W:World} {g:Gh} (hg : ∀b,b < W.heap.size→g b = .frz) {b0:Nat} :
  ∀(tys:List Nat) (i:Nat) (vs:List Value) (ds:List (DataW H)) (ps:List MemPlace),(∀t∈tys,t∈dts)→(∀(j:Nat) t v,tys[j]?=some t→vs[j]?=some v→Value.okWide P W .any b0 t v)→
   DataW.TrodAll enc P W 0 (fun _=>true) true tys vs ds ps→∃ts,yE E tys ts∧kO E W g i (tys.map fun t=>(t,Mode.ro)) ts vs
 | [],i,vs,ds,ps,_,_,h=>by
  obtain ⟨rfl,_,_⟩:=trodAll_nil h;exact ⟨[],trivial,trivial⟩
 | t :: tys,i,vs,ds,ps,hd,hv,h=>by
  obtain ⟨v,vs1,d,ds1,a,b,rfl,rfl,rfl,⟨fuel,h1⟩,h2⟩:=trodAll_cons h;have htd:=hd t (by simp)
  obtain ⟨y,hy1,hy2,hy3⟩:=read_rep hP hD hg fuel t _ _ htd h1;obtain ⟨ts,k1,k2⟩:=xB hP hD hg tys (i+1) vs1 ds1 b (fun t ht=>hd t (by simp[ht])) (fun j t v a b=>hv (j+1) t v (by simpa using a) (by simpa using b)) h2
  have hrow:=List.all_eq_true.1 hD t htd;rw[Bool.and_eq_true] at hrow;refine ⟨y :: ts,⟨hy2,k1⟩,⟨⟨hy1 0 [],yj hP hrow.1 ?_ (hv 0 t v rfl rfl) hy3⟩,k2⟩⟩;cases he:E.ty t <;> first | trivial | (rw[he] at hrow;simp at hrow)
theorem xA (hlay:laidOutB P=true) {W W':World} (hb:Below W.heap.size W W') : ∀(tys:List Nat) (vs:List Value) (ds:List (DataW H)) (ps:List MemPlace),(∀t∈tys,P.readableRec t=true∧t < P.types.size)→
   DataW.TrodAll enc P W 0 (fun _=>true) true tys vs ds ps→DataW.TrodAll enc P W' 0 (fun b=>decide (b < W.heap.size)) true tys vs ds ps
 | [],vs,ds,ps,_,h=>by
  obtain ⟨rfl,rfl,rfl⟩:=trodAll_nil h;exact trodAll_mk0
 | t :: tys,vs,ds,ps,ht,h=>by
  have hlt:=h.lt;obtain ⟨v,vs1,d,ds1,a,b,rfl,rfl,rfl,h1,h2⟩:=trodAll_cons h;exact ⟨a,b,Below.trod hlay (ht t (by simp)).1 (ht t (by simp)).2 h1 hb fun x hx=>hlt x (List.mem_append_left _ hx),xA hlay hb tys vs1 ds1 b (fun t h=>ht t (by simp[h])) h2,rfl⟩
end
def Env.at (E:Env) (n:Nat):Env:={ E with old:=n }
theorem effOp_at (fi:Fi) (E:Env) (n:Nat):tC fi (E.at n)=tC fi E:=by kernel_rfl
theorem Bi (E:Env) (n:Nat):nO (E.at n)=nO E:=by kernel_rfl
theorem Ax (fi:Fi) (E:Env) (n:Nat):effG fi (E.at n)=effG fi E:=by
 funext ops look ρ o
 unfold effG;rw[effOp_at,Bi]
theorem callE_at (E:Env) (n:Nat):kZ (E.at n)=kZ E:=by kernel_rfl
theorem Bz (E:Env) (n:Nat):ob (E.at n)=ob E:=by
 funext C d f as st K
 unfold ob;rw[callE_at];rfl
theorem inlOf_at (E:Env) (n:Nat):vR (E.at n)=vR E:=rfl
theorem B5 (fi:Fi) (E:Env) (n:Nat):pI fi (E.at n)=pI fi E:=by
 funext C o ty l x k st K
 unfold pI;rw[Bz]
theorem vu (fi:Fi) (E:Env) (n:Nat):je fi (E.at n)=je fi E:=by
 funext C ops o st K
 unfold je;rw[Ax]
theorem sM (fi:Fi) (E:Env) (n:Nat) (C:aF) (ops:List Oper) (o:Oper) (st:St) (K:St→R) (d:Nat) : ∀l,jN fi (E.at n) C ops o st K d l=jN fi E C ops o st K d l
 | []=>rfl
 | f :: l=>by
  unfold jN;rw[vu,sM fi E n C ops o st K d l]
theorem vw (fi:Fi) (E:Env) (n:Nat):kq fi (E.at n)=kq fi E:=by
 funext C ops o st K
 unfold kq;rw[vu];split
 ·rfl
 ·split
  ·rfl
  ·rw[sM]
theorem Mz (E:Env) (n:Nat):wi (E.at n)=wi E:=by kernel_rfl
theorem Bc (fi:Fi) (E:Env) (n:Nat):nD fi (E.at n)=nD fi E:=by
 funext C ops o st K want x
 unfold nD;rw[vw,Mz]
theorem Ba (fi:Fi) (E:Env) (n:Nat):pK fi (E.at n)=pK fi E:=by
 funext C ops o st K t want
 unfold pK;rw[Bc,Mz];rfl
theorem BJ (fi:Fi) (E:Env) (n:Nat):rg fi (E.at n)=rg fi E:=by
 funext C ops o st K
 unfold rg;rw[inlOf_at,B5,Ba,vw]
theorem vz (fi:Fi) (E:Env) (n:Nat) (C:aF) (ops:List Oper) : ∀l st K,pJ fi (E.at n) C ops l st K=pJ fi E C ops l st K
 | [],st,K=>rfl
 | o :: l,st,K=>by
  unfold pJ;rw[BJ];congr 1
  funext st
  exact vz fi E n C ops l st K
theorem B9 (fi:Fi) (E:Env) (n:Nat):rh fi (E.at n)=rh fi E:=by
 funext C ops fst rw i o st K
 unfold rh;rw[Ax]
theorem u6 (fi:Fi) (E:Env) (n:Nat) (C:aF) (ops:Array Oper) (fst:List Nat) (rws:List RW) : ∀l i st K,iQ fi (E.at n) C ops fst rws i l st K=iQ fi E C ops fst rws i l st K
 | [],i,st,K=>rfl
 | o :: l,i,st,K=>by
  unfold iQ;rw[B9];congr 1
  funext st
  exact u6 fi E n C ops fst rws l (i+1) st K
theorem BM (fi:Fi) (E:Env) (n:Nat):pV fi (E.at n)=pV fi E:=by kernel_rfl
theorem ex_at (fi:Fi) (E:Env) (n:Nat) (H:List Item→CS→R) (C:aF) : ∀m todo st,ex fi (E.at n) H C m todo st=ex fi E H C m todo st:=by
 intro m;induction m with
 | zero=>intro todo st;rfl
 | succ m ih=>
  intro todo st;unfold ex;simp only[BM,ih,vz,u6];rfl
theorem initL_at (E:Env) (n:Nat):eT (E.at n)=eT E:=by kernel_rfl
theorem BI (fi:Fi) (E:Env) (n:Nat):bI fi (E.at n)=bI fi E:=by
 funext H C ts
 unfold bI;rw[ex_at,initL_at]
theorem headE_at (fi:Fi) (E:Env) (n:Nat):iU fi (E.at n)=iU fi E:=by
 funext H C todo cs
 unfold iU;split
 ·rw[ex_at]
 ·rfl
theorem Aq (E:Env) (n:Nat) (X:Nat→Option (List T→R)) : ∀k,pU (E.at n) X k=pU E X k
 | 0=>rfl
 | k+1=>by
  unfold pU;rw[Aq E n X k];simp only[headE_at,BI];rfl
theorem callN_at (E:Env) (n:Nat) (X:Nat→Option (List T→R)) (k:Nat):Uj (E.at n) X k=Uj E X k:=by
 unfold Uj;rw[Aq]
theorem Rep.rise {E:Env} {n:Nat} (hn:E.old≤n) {w:World} {g:Gh} {ty:Nat} {t:T} {o:O} {r:Nat} {p:List aH} {κ:aE} (h:Rep E w g ty t o r p κ) :
  Rep (E.at n) w g ty t o r p κ:=by
 induction h with
 | int h1 h2=>exact .int h1 h2
 | bool h1 h2=>exact .bool h1 h2
 | str h1 h2=>exact .str h1 h2
 | fn vs cts h1 h3 h4 h5 h6 h7 h8 ih=>exact .fn vs cts h1 h3 h4 h5 h6 ih h8
 | cp h1 h2 h3 h4 h5 ih=>exact .cp h1 h2 h3 h4 ih
 | dead=>exact .dead
 | fz0 h1 h2=>exact .fz0 h1 h2
 | fz h1 h2 h3 h4 h5 h6 ih=>exact .fz h1 h2 h3 h4 h5 ih
 | fo0 h1 h2=>exact .fo0 h1 h2
 | fo h1 h2 h3 h4 h5 h5o h6 ih=>exact .fo h1 h2 h3 h4 h5 (Nat.lt_of_lt_of_le h5o hn) ih
 | own0 h1 h2 h3=>exact .own0 h1 h2 h3
 | own h1 h2 h3 h4 h5 h6 h7 h8 ih=>exact .own h1 h2 h3 h4 h5 h6 h7 ih
 | st h1 h2 h3 ih=>exact .st h1 h2 ih
theorem bl.at {E:Env} (h:bl E) (n:Nat):bl (E.at n):=
 ⟨h.one,h.sum,h.flat_st,h.flat_sl,h.flat_fn,h.flat_cp,h.nofn_st,h.nofn_sl,h.nofn_fn,h.nofn_cp⟩
theorem ba.at {P:Program} {E:Env} (h:ba P E) {n:Nat} (hn:E.old≤n):ba P (E.at n):=
 ⟨h.wf.at n,h.int,h.bool,h.str,h.sl,h.st,h.fn,h.ptr,h.info,h.zero,h.zc_st,h.zc_sl,fun t hz w g r p=>(h.zrep t hz w g r p).rise hn⟩
section
variable {P:Program} {E:Env} {H:Type} {enc:TypeId × Value→H}
theorem Rep.toOld {w:World} {g:Gh} {ty e:Nat} {k:IntKind} {t:T} {r:Nat} {p:List aH} {κ:aE} (h:Rep E w g ty t .fz r p κ) (h1:E.ty ty = .sl e) (h2:E.ty e = .int k)
  (hg : ∀b,g b = .frz→b < E.old) (r':Nat) (p':List aH):Rep E w g ty t .fo r' p' κ:=by
 cases h with
 | fz0 a1 a2=>exact .fo0 a1 a2
 | fz a1 a2 a3 a4 a5 a6=>
  rw[h1] at a1;cases a1;refine .fo h1 a2 a3 a4 a5 (hg _ a5) fun i t hi=>?_
  have:=a6 i t hi
  cases this with
  | int b1 b2=>exact .int b1 b2
  | bool b1=>rw[h2] at b1;cases b1
  | str b1=>rw[h2] at b1;cases b1
  | fn _ _ b1=>rw[h2] at b1;cases b1
  | cp b1=>rw[h2] at b1;cases b1
  | fz0 b1=>rw[h2] at b1;cases b1
  | fz b1=>rw[h2] at b1;cases b1
  | own0 b1=>rw[h2] at b1;cases b1
  | own b1=>rw[h2] at b1;cases b1
  | st b1=>rw[h2] at b1;cases b1
 | own0 _ b=>simp[O.own] at b
 | own _ b=>simp[O.own] at b
 | int b1=>rw[h1] at b1;cases b1
 | bool b1=>rw[h1] at b1;cases b1
 | str b1=>rw[h1] at b1;cases b1
 | fn _ _ b1=>rw[h1] at b1;cases b1
 | cp b1=>rw[h1] at b1;cases b1
 | st b1=>rw[h1] at b1;cases b1
theorem J9 (hP:ba P E) (hF:de P E) (hT:vb E) (hold:E.old=0) (hX : ∀n f k,E.told f=some k→∀fi,E.fn f=some fi→nh P (E.at n) f fi k) (hmix:P.follows .mixedOrders=true) {dts:List Nat} (hD:Ji E dts=true) {f bt ty e:Nat} {ik:IntKind} {fi:Fi} (hf:E.fn f=some fi)
  (hps:fi.params = [(ty,.mv .fo)]) (hrs:fi.rets = [(bt,.vl .dp)]) (hbt:E.ty bt = .bool) (hsr:E.src f=f) (hdt:ty∈dts) (hty:E.ty ty = .sl e) (het:E.ty e = .int ik)
  (law : ∀t,ee E ty t→Yields (fun k=>cl E k f [t]) [.bool true])
  {W:World} {b0:Nat} {args:Array Value} {ds:List (DataW H)} {ps:List MemPlace} {pars:Array TypeId} (hkn : ∀b cs,(b,cs)∈E.tab→b < W.heap.size∧∀o,W.cell? ⟨b,o,none⟩=cs[o]?) (hpar:pars = #[ty]) (hv0 : ∀(j:Nat) t v,pars[j]?=some t→args[j]?=some v→Value.okWide P W .any b0 t v)
  (hA:DataW.TrodAll enc P W 0 (fun _=>true) true [ty] args.toList ds ps):Calls P f args W fun e W'=>e = .returned (.bool true)∧Below W.heap.size W W':=by
 have hv : ∀(j:Nat) t v,[ty][j]?=some t→args[j]?=some v→Value.okWide P W .any b0 t v:=fun j t v hj hv=>hv0 j t v (by rw[hpar];simpa using hj) hv
 let g0:Gh:=fun b=>if b < W.heap.size then .frz else .free
 have hg : ∀b,b < W.heap.size→g0 b = .frz:=fun b hb=>by simp[g0,hb]
 have hg' : ∀b,g0 b = .frz→b < W.heap.size:=fun b hb=>by
  by_cases h:b < W.heap.size
  ·exact h
  ·simp[g0,h] at hb
 have hP':ba P (E.at W.heap.size):=hP.at (by omega)
 obtain ⟨ts,h1,h2⟩:=xB hP' (dts:=dts) hD hg [ty] 0 args.toList ds ps (by simpa using hdt) (fun j t v a b=>hv j t v a (by simpa using b)) hA
 match ts,h1 with
 | [t],⟨h1,_⟩=>
  have ht:ee E ty t:=by
   obtain ⟨es,rfl,hl,hes⟩:=h1.sl_inv hty;refine .sl hty hl fun x hx=>?_
   have:=hes x hx
   obtain ⟨n,rfl,l1,l2⟩:=this.int_inv het;exact .int het (by simp[Lit.wf,l1,l2])
  obtain ⟨m,hm⟩:=law t ht;have hk:cl E m f [t]=some [T.bool true]:=hm m (Nat.le_refl _)
  rw[show cl E m f [t]=Uj (E.at W.heap.size) E.told m f [t] by rw[callN_at];rfl] at hk
  have hfn:=call_fn hP' (E:=E.at W.heap.size) (fun f fi h=>hF f fi h) hT hmix (X:=E.told) (fun f k h fi h'=>hX _ f k h fi h') (m:=m) (f:=f) hf
  match hargs:args.toList,h2 with
  | [v],⟨⟨r1,r2⟩,_⟩=>
  have h2':kO (E.at W.heap.size) W g0 0 fi.params [t] [v]:=by
   rw[hps];exact ⟨⟨r1.toOld hty het hg' _ _,r2⟩,trivial⟩
  have:=hfn [t] _ hk [v] W g0 (fun b hb=>by
   by_cases h:b < W.heap.size
   ·exact h
   ·exact absurd (by simp[g0,h]) hb) ⟨fun b cs hb=>⟨hg b (hkn b cs hb).1,(hkn b cs hb).2⟩,fun b hb=>hg b hb⟩ h2'
  rw[← hargs,Array.toArray_toList,show (E.at W.heap.size).src f=f from hsr] at this
  refine this.mono fun e W'=>?_
  rintro ⟨v,g',rvs,rts,mts,hres,rfl,hvr,hst,_,hress,hmus⟩
  refine ⟨?_,hst.os,hst.tape,hst.output,hst.size,fun b hb=>(hst.keep b hb (.inr (hg b hb))).1⟩
  rw[hrs] at hress;cases rts with
  | nil=>cases rvs <;> exact hress.elim
  | cons t rts=>
   cases rvs with
   | nil=>exact hress.elim
   | cons x rvs=>
    obtain ⟨⟨r1,r2⟩,r3⟩:=hress;cases rvs with
    | cons=>cases rts <;> exact r3.elim
    | nil=>
     simp only[List.cons_append,List.cons.injEq] at hres;obtain ⟨rfl,_⟩:=hres;have hx:=r2.2;rw[show (E.at W.heap.size).ty bt = .bool from hbt] at hx
     simp only at hx
     rw[hx] at r1;have hvx:v=x:=hvr
     cases r1 with
     | bool _ h=>simp[rd] at h;rw[hvx,h]
     | cp h=>rw[show (E.at W.heap.size).ty bt = .bool from hbt] at h;cases h
end
end Go.Proofs.YtdcnobhlknjnoaaGreatDoor.Ra
