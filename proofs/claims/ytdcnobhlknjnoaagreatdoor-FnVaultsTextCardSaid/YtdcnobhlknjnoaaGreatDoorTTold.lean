/- A verified evaluator for the program, part Told of this claim. -/
import Derived.Test.YtdcnobhlknjnoaaGreatDoorTRa3
import Derived.Shelf.LaysM
import Derived.Shelf.Strings.OnBuilder
import Derived.Shelf.Strconv.Itoa4
set_option linter.unusedSimpArgs false
set_option linter.unusedVariables false
namespace Go.Proofs.YtdcnobhlknjnoaaGreatDoor.Ra
open Go Go.RowKit Go.Shelf
section
variable {P:Program} {E:Env} {w:World} {g:Gh}
theorem Rep.str_val {ty:Nat} {t:T} {o:O} {r:Nat} {p:List aH} {κ:aE} (h:Rep E w g ty t o r p κ) (hty:E.ty ty = .str) (hl:o.live=true) : ∃s,t = .str s∧rd w κ=some (.string s):=by
 cases h with
 | str h1 h2=>exact ⟨_,rfl,h2⟩
 | int h1=>rw[hty] at h1;cases h1
 | bool h1=>rw[hty] at h1;cases h1
 | fn _ _ h1=>rw[hty] at h1;cases h1
 | cp h1=>rw[hty] at h1;cases h1
 | dead=>simp[O.live] at hl
 | fz0 h1=>rw[hty] at h1;cases h1
 | fo0 h1=>rw[hty] at h1;cases h1
 | fo h1=>rw[hty] at h1;cases h1
 | fz h1=>rw[hty] at h1;cases h1
 | own0 h1=>rw[hty] at h1;cases h1
 | own h1=>rw[hty] at h1;cases h1
 | st h1=>rw[hty] at h1;cases h1
theorem Rep.int_val {ty:Nat} {k:IntKind} {t:T} {o:O} {r:Nat} {p:List aH} {κ:aE} (h:Rep E w g ty t o r p κ) (hty:E.ty ty = .int k) (hl:o.live=true) : ∃n,t = .int n∧rd w κ=some (.int k n):=by
 cases h with
 | int h1 h2=>rw[hty] at h1;cases h1;exact ⟨_,rfl,h2⟩
 | str h1=>rw[hty] at h1;cases h1
 | bool h1=>rw[hty] at h1;cases h1
 | fn _ _ h1=>rw[hty] at h1;cases h1
 | cp h1=>rw[hty] at h1;cases h1
 | dead=>simp[O.live] at hl
 | fz0 h1=>rw[hty] at h1;cases h1
 | fo0 h1=>rw[hty] at h1;cases h1
 | fo h1=>rw[hty] at h1;cases h1
 | fz h1=>rw[hty] at h1;cases h1
 | own0 h1=>rw[hty] at h1;cases h1
 | own h1=>rw[hty] at h1;cases h1
 | st h1=>rw[hty] at h1;cases h1
theorem T8 {ty:Nat} {v:Value} (hs:bd E ty v) (h:match E.ty ty with | .st _=>False | _=>True):v.cells = #[v]:=by
 have:=hs.2
 revert this h
 cases E.ty ty <;> simp
theorem TF {fi:Fi} {ty:Nat} (hr:fi.rets = [(ty,.vl .dp)]) (hty:E.ty ty = .str) (hsz:E.sz ty=1) {vs:List Value} (hm : ∀w' g',cQ E w' g' 0 fi.params [] vs) (hbnd : ∀b,g b≠.free→b < w.heap.size)
  {s:ByteArray} {e:Ending} {w':World} (he:e = .returned (.string s)) (hb:Below w.heap.size w w'):Ts E fi w g vs [.str s] e w':=by
 subst he;refine ⟨_,g,[_],[_],[],rfl,rfl,rfl,⟨hb.os,hb.tape,hb.output,hb.size,fun b hlt _=>⟨hb.block b hlt,rfl⟩⟩,fun b h=>Nat.lt_of_lt_of_le (hbnd b h) hb.size,?_,hm _ _⟩
 rw[hr];refine ⟨⟨.str hty (by simp[rd,Value.cells]),?_,?_⟩,trivial⟩
 ·rw[hsz];rfl
 ·rw[hty];rfl
def Ru:List Value:=Lib.pow10Tab.map fun z=>Value.int .u64 z
theorem Kn.tab {g0:Nat} {name:String} {k:IntKind} {zs:List Int} (h:Kn E w g) (ht:(g0,zs.map fun z=>Value.int k z)∈E.tab) (hg:P.globalNamed name=some g0) (hz:0 < zs.length):Lib.TabIs P w name k zs:=by
 obtain ⟨_,hc⟩:=h.1 _ _ ht;unfold Lib.TabIs World.var?
 rw[hg];simp only[Option.bind_some];have h0:=hc 0;have hs : ∃v,(zs.map fun z=>Value.int k z)[0]?=some v:=⟨_,List.getElem?_eq_getElem (by simpa using hz)⟩
 obtain ⟨v,hv⟩:=hs;rw[hv] at h0;have : ∃cs ty x,w.heap[g0]?=some (.cells cs ty x):=by
  unfold World.cell? at h0
  split at h0
  ·rename_i cs ty x he;exact ⟨cs,ty,x,he⟩
  ·cases h0
 obtain ⟨cs,ty,x,hh⟩:=this;rw[hh];simp only[Option.some.injEq];apply Array.ext'
 apply List.ext_getElem?
 intro o;have:=hc o
 unfold World.cell? at this
 rw[hh] at this;simpa using this
def itoaT (ts:List T):R:=match ts with
 | [.int n]=>bif decide (-9223372036854775808≤n)&&decide (n≤9223372036854775807) then some [.str ⟨(Lib.itoa n).toArray⟩] else none
 | _=>none
theorem itoa_ok {ρ:Ren} (L:LaysM.n171 P ρ) (hE:bl E) (hsr:E.src (ρ.f 171)=ρ.f 171) {fi:Fi} {ti ts:Nat} (hp:fi.params = [(ti,.ro)]) (hr:fi.rets = [(ts,.vl .dp)]) (h3:E.ty ti = .int .i64) (h9:E.ty ts = .str)
  {g0 : Nat} (hg : P.globalNamed "internal/strconv.uint64pow10" = some g0) (htab : (g0, Ru) ∈ E.tab) : nh P E (ρ.f 171) fi itoaT := by
 intro ts' res hres vs w g hbnd hkn hargs;rw[hsr];rw[hp] at hargs;match ts',vs,hargs with
 | [],[],h=>exact h.elim
 | [],_ :: _,h=>exact h.elim
 | _ :: _,[],h=>exact h.elim
 | [_],_ :: _ :: _,h=>exact h.2.elim
 | _ :: _ :: _,[_],h=>exact h.2.elim
 | _ :: _ :: _,_ :: _ :: _,h=>exact h.2.elim
 | [t],[v],⟨⟨hrep,hsh⟩,_⟩=>
  obtain ⟨n,rfl,hv⟩:=hrep.int_val h3 rfl;rw[T8 hsh (by rw[h3];trivial)] at hv
  simp[rd] at hv
  subst hv;have hres:(bif decide (-9223372036854775808≤n)&&decide (n≤9223372036854775807) then some [T.str ⟨(Lib.itoa n).toArray⟩] else none)=some res:=hres
  cases hc:(decide (-9223372036854775808≤n)&&decide (n≤9223372036854775807)) with
  | false=>rw[hc] at hres;cases hres
  | true=>
   rw[hc] at hres;cases hres;rw[Bool.and_eq_true,decide_eq_true_eq,decide_eq_true_eq] at hc;refine (Any.strconv_Itoa L n hc.1 hc.2 w (hkn.tab htab hg (by simp[Lib.pow10Tab]))).mono fun e w'=>?_
   rintro ⟨he,k,os,rfl⟩
   refine TF hr h9 (hE.one _ (by simp[h9])) (fun w' g'=>by rw[hp];trivial) hbnd he ⟨rfl,rfl,rfl,?_,fun b hb=>?_⟩
   ·simp[Go.Sort.grow,World.drewN]
   ·simp only[Go.Sort.grow,World.drewN];rw[Array.getElem?_append_left hb]
def joinT (ts:List T):R:=match ts with
 | [.sl es,.str sep]=>bif decide (es.length≤1000000000)&&decide ((Lib.join (es.map fun x=>x.s.data.toList) sep.data.toList).length≤4294967296) then some [.str ⟨(Lib.join (es.map fun x=>x.s.data.toList) sep.data.toList).toArray⟩] else none
 | _=>none
theorem join_ok {ρ:Ren} (L:Lays.n156 P ρ) (X:Builder.Extra P ρ) (hE:bl E) (hsr:E.src (ρ.f 156)=ρ.f 156) {fi:Fi} {tl ts:Nat} (hp:fi.params = [(tl,.ro),(ts,.ro)]) (hr:fi.rets = [(ts,.vl .dp)]) (hl:E.ty tl = .sl ts) (h9:E.ty ts = .str):nh P E (ρ.f 156) fi joinT:=by
 intro ts' res hres vs w g hbnd hkn hargs;rw[hsr];rw[hp] at hargs;have h1:E.sz ts=1:=hE.one _ (by simp[h9])
 match ts',vs,hargs with
 | [],[],h=>exact h.elim
 | [],_ :: _,h=>exact h.elim
 | _ :: _,[],h=>exact h.elim
 | [_],_ :: _ :: _,h=>exact h.2.elim
 | [_],[_],h=>exact h.2.elim
 | _ :: _ :: _,[_],h=>exact h.2.elim
 | [_,_],_ :: _ :: _ :: _,h=>exact h.2.2.elim
 | _ :: _ :: _ :: _,[_,_],h=>exact h.2.2.elim
 | _ :: _ :: _ :: _,_ :: _ :: _ :: _,h=>exact h.2.2.elim
 | [t,u],[v,x],⟨⟨hrep,hsh⟩,⟨hrep2,hsh2⟩,_⟩=>
  obtain ⟨sep,rfl,hx⟩:=hrep2.str_val h9 rfl;rw[T8 hsh2 (by rw[h9];trivial)] at hx
  simp[rd] at hx
  subst hx;rw[T8 hsh (by rw[hl];trivial)] at hrep
  have fin : ∀(es:List T),t = .sl es→∀(xs:List ByteArray),es=xs.map .str→Calls P (ρ.f 156) [v,.string sep].toArray w (fun e w'=>e = .returned (.string ⟨(Lib.join (xs.map (·.data.toList)) sep.data.toList).toArray⟩)∧Below w.heap.size w w')→
    Calls P (ρ.f 156) [v,.string sep].toArray w (Ts E fi w g [v,.string sep] res):=by
   intro es he xs hx hcall;subst he;subst hx;have hm:(xs.map T.str).map (fun x=>x.s.data.toList)=xs.map (·.data.toList):=by rw[List.map_map];rfl
   have hres:(bif decide ((xs.map T.str).length≤1000000000)&&decide ((Lib.join ((xs.map T.str).map fun x=>x.s.data.toList) sep.data.toList).length≤4294967296) then some [T.str ⟨(Lib.join ((xs.map T.str).map fun x=>x.s.data.toList) sep.data.toList).toArray⟩] else none)=some res:=hres
   rw[hm] at hres;cases hc:(decide ((xs.map T.str).length≤1000000000)&&decide ((Lib.join (xs.map (·.data.toList)) sep.data.toList).length≤4294967296)) with
   | false=>rw[hc] at hres;cases hres
   | true=>
    rw[hc] at hres;cases hres;refine hcall.mono fun e w'=>?_
    rintro ⟨he,hb⟩
    exact TF hr h9 h1 (fun w' g'=>by rw[hp];trivial) hbnd he hb
  cases hrep with
  | fz0 a1 a2=>
   simp[rd] at a2
   subst a2;refine fin [] rfl [] rfl ?_;refine (Any.strings_Join_none L X _ _ sep w).mono fun e w'=>?_
   rintro ⟨rfl,rfl⟩
   exact ⟨rfl,Below.refl _ _⟩
  | @fz _ e es a cap _ _ _ a1 a2 a3 a4 a5 a6=>
   simp[rd] at a2
   subst a2;rw[hl] at a1;cases a1;obtain ⟨B,off,sp⟩:=a;cases a3;have hxs : ∃xs:List ByteArray,es=xs.map T.str:=by
    refine ⟨es.map T.s,?_⟩;rw[List.map_map];refine (List.map_id es).symm.trans (List.map_congr_left fun y hy=>?_)
    obtain ⟨i,hi⟩:=List.mem_iff_getElem?.1 hy;obtain ⟨s,hs,_⟩:=(a6 i y hi).str_val h9 rfl;subst hs;rfl
   obtain ⟨xs,rfl⟩:=hxs;have hlen:(xs.map T.str).length=xs.length:=List.length_map ..
   have hres':(decide ((xs.map T.str).length≤1000000000)&&decide ((Lib.join ((xs.map T.str).map fun x=>x.s.data.toList) sep.data.toList).length≤4294967296))=true:=by
    have hres:(bif decide ((xs.map T.str).length≤1000000000)&&decide ((Lib.join ((xs.map T.str).map fun x=>x.s.data.toList) sep.data.toList).length≤4294967296) then some [T.str ⟨(Lib.join ((xs.map T.str).map fun x=>x.s.data.toList) sep.data.toList).toArray⟩] else none)=some res:=hres
    cases hc:(decide ((xs.map T.str).length≤1000000000)&&decide ((Lib.join ((xs.map T.str).map fun x=>x.s.data.toList) sep.data.toList).length≤4294967296)) with
    | true=>rfl
    | false=>rw[hc] at hres;cases hres
   rw[Bool.and_eq_true,decide_eq_true_eq,decide_eq_true_eq,List.map_map] at hres';rw[hlen] at a4 hres';refine fin _ rfl xs rfl ?_;rw[hlen];refine Any.strings_Join L X B off cap xs sep w (fun j y hy=>?_) (hbnd B (by rw[show g B = .frz from a5];simp)) (by omega) a4 ?_
   ·have h2:=a6 j (.str y) (by simp[hy])
    obtain ⟨s,hs,h3⟩:=h2.str_val h9 rfl;cases hs;rw[h1,Nat.mul_one] at h3;exact h3
   ·have h3:=hres'.2;have:(xs.map ((fun x=>x.s.data.toList) ∘ T.str))=xs.map (·.data.toList):=rfl
    rw[this] at h3;omega
  | cp a1=>rw[hl] at a1;cases a1
  | own0 a1 a2=>cases a2
  | own a1 a2=>cases a2
  | int a1=>rw[hl] at a1;cases a1
  | bool a1=>rw[hl] at a1;cases a1
  | str a1=>rw[hl] at a1;cases a1
  | fn _ _ a1=>rw[hl] at a1;cases a1
  | st a1=>rw[hl] at a1;cases a1
end
end Go.Proofs.YtdcnobhlknjnoaaGreatDoor.Ra
