/- A verified evaluator for the program, part Told of this claim. -/
import Derived.Test.YtdcnobhlknjnoaaGreatDoorSRa3
import Derived.Shelf.Strings.Fields
set_option linter.unusedSimpArgs false
set_option linter.unusedVariables false
namespace Go.Proofs.YtdcnobhlknjnoaaGreatDoor.Ra
open Go Go.RowKit Go.Shelf
section
variable {P:Program} {E:Env} {w:World} {g:Gh}
theorem Rep.str_val {ty:Nat} {t:T} {o:O} {r:Nat} {p:List aH} {v:Value} (h:Rep E w g ty t o r p (.reg v.cells.toList 0)) (hs:bd E ty v) (hty:E.ty ty = .str) (hl:o.live=true) : ∃s,t = .str s∧v = .string s:=by
 have hc:v.cells = #[v]:=by have:=hs.2;rw[hty] at this;exact this
 rw[hc] at h;cases h with
 | str h1 h2=>simp[rd] at h2;exact ⟨_,rfl,h2⟩
 | int h1=>rw[hty] at h1;cases h1
 | bool h1=>rw[hty] at h1;cases h1
 | fn _ _ h1=>rw[hty] at h1;cases h1
 | cp h1=>rw[hty] at h1;cases h1
 | dead=>simp[O.live] at hl
 | fz0 h1=>rw[hty] at h1;cases h1
 | fo0 h1=>rw[hty] at h1;cases h1
 | fo h1=>rw[hty] at h1;cases h1
 | fz h1=>rw[hty] at h1;cases h1
 | own0 h1=>rw[hty] at h1;cases h1
 | own h1=>rw[hty] at h1;cases h1
 | st h1=>rw[hty] at h1;cases h1
def UG:List Value:=(List.range 256).map fun c=>Value.int .u8 (if Lib.isSp (UInt8.ofNat c) then 1 else 0)
def Wm (ts:List T):R:=match ts with
 | [.str s]=>bif decide (s.size < 1000000)&&s.data.toList.all (fun b=>decide (b.toNat < 128)) then some [.sl ((Lib.fields s.data.toList).map fun l=>T.str ⟨l.toArray⟩)] else none
 | _=>none
theorem WU {ρ:Ren} (L:Lays.n157 P ρ) (hi9:(P.info? (ρ.t 9)).map (fun i=>(i.zero,i.size,i.bytes))=some (some (.string ByteArray.empty),1,16)) (hE:bl E) (hsr:E.src (ρ.f 157)=ρ.f 157) {fi:Fi} (hp:fi.params = [(ρ.t 9,.ro)])
  (hr:fi.rets = [(ρ.t 31,.vl .dp)]) (h31:E.ty (ρ.t 31) = .sl (ρ.t 9)) (h9:E.ty (ρ.t 9) = .str) (htab:(ρ.g 0,UG)∈E.tab):nh P E (ρ.f 157) fi Wm:=by
 intro ts res hres vs w g hbnd hkn hargs;rw[hsr];rw[hp] at hargs;match ts,vs,hargs with
 | [],[],h=>exact h.elim
 | [],_ :: _,h=>exact h.elim
 | _ :: _,[],h=>exact h.elim
 | [_],_ :: _ :: _,h=>exact h.2.elim
 | _ :: _ :: _,[_],h=>exact h.2.elim
 | _ :: _ :: _,_ :: _ :: _,h=>exact h.2.elim
 | [t],[v],⟨⟨hrep,hsh⟩,_⟩=>
  obtain ⟨s,rfl,rfl⟩:=hrep.str_val hsh h9 rfl;have hres:(bif decide (s.size < 1000000)&&s.data.toList.all (fun b=>decide (b.toNat < 128)) then some [.sl ((Lib.fields s.data.toList).map fun l=>T.str ⟨l.toArray⟩)] else none)=some res:=hres
  cases hc:(decide (s.size < 1000000)&&s.data.toList.all (fun b=>decide (b.toNat < 128))) with
  | false=>rw[hc] at hres;cases hres
  | true=>
   rw[hc] at hres;cases hres;rw[Bool.and_eq_true,decide_eq_true_eq,List.all_eq_true] at hc;refine (Any.strings_Fields_core L hi9 s w (by omega) (fun j b hb=>of_decide_eq_true (hc.2 b (List.mem_of_getElem? hb))) fun c hc=>?_).mono fun e w'=>?_
   ·rw[(hkn.1 _ _ htab).2 c];simp[UG,hc]
   ·rintro ⟨rfl,rfl⟩
    have hgr:=Gr.alloc w ((Lib.fields s.data.toList).map fun l=>Value.string ⟨l.toArray⟩).toArray (ρ.t 9)
    let g':Gh:=fun b=>if b=w.heap.size then .at (eC 0) [] else g b
    have hg' : ∀b,b < w.heap.size→g' b=g b:=fun b hb=>if_neg (by omega)
    refine ⟨_,g',[_],[_],[],rfl,rfl,rfl,⟨hgr.os,hgr.tape,hgr.output,by rw[hgr.size];omega,fun b hb _=>⟨hgr.old hb,hg' b hb⟩⟩,fun b hb=>?_,?_,?_⟩
    ·rw[hgr.size];by_cases hbs:b=w.heap.size
     ·omega
     ·have:g' b=g b:=if_neg hbs
      rw[this] at hb;have:=hbnd b hb;omega
    ·rw[hr];refine ⟨⟨?_,?_⟩,trivial⟩
     ·refine .own (a:=⟨w.heap.size,0,none⟩) (cap:=(Lib.fields s.data.toList).length) h31 rfl (by simp[rd,Value.cells]) rfl (by simp) (if_pos rfl) ?_ fun i t hi=>?_
      ·exact hgr.blk (by simp[hE.one _ (by simp[h9]:match E.ty (ρ.t 9) with | .st _=>False | .bad=>False | _=>True)])
      ·simp only[List.getElem?_map,Option.map_eq_some_iff] at hi;obtain ⟨l,hl,rfl⟩:=hi;refine .str h9 ?_;simp only[rd,Nat.zero_add];rw[hgr.cell,hE.one _ (by simp[h9]:match E.ty (ρ.t 9) with | .st _=>False | .bad=>False | _=>True)]
       simp[hl]
     ·refine ⟨?_,?_⟩
      ·rw[hE.one _ (by simp[h31])];rfl
      ·rw[h31];rfl
    ·rw[hp];trivial
end
end Go.Proofs.YtdcnobhlknjnoaaGreatDoor.Ra
