/- A verified evaluator for the program, part Eq0 of this claim. -/
import Derived.Test.YtgmhmcnogmojaaaBTab
set_option linter.unusedSimpArgs false
set_option linter.unusedVariables false
set_option linter.unusedSimpArgs false
set_option linter.unusedVariables false
namespace Go.Proofs.Ytgmhmcnogmojaaa.Ra
open Go
abbrev rm:ByteArray:=⟨#[115,101,101,119]⟩
abbrev kt:ByteArray:=⟨#[115,101,101]⟩
abbrev bv:ByteArray:=⟨#[104,97,115]⟩
abbrev cJ:ByteArray:=⟨#[116,97,107,101]⟩
abbrev k_freeze:ByteArray:=⟨#[102,114,101,101,122,101]⟩
abbrev k_write:ByteArray:=⟨#[119,114,105,116,101]⟩
abbrev t7:ByteArray:=⟨#[112,101,101,107]⟩
abbrev k_read:ByteArray:=⟨#[114,101,97,100]⟩
abbrev k_field:ByteArray:=⟨#[102,105,101,108,100]⟩
abbrev k_lendw:ByteArray:=⟨#[108,101,110,100,119]⟩
abbrev k_lend:ByteArray:=⟨#[108,101,110,100]⟩
abbrev k_put:ByteArray:=⟨#[112,117,116]⟩
abbrev k_copy:ByteArray:=⟨#[99,111,112,121]⟩
abbrev k_same:ByteArray:=⟨#[115,97,109,101]⟩
abbrev k_not:ByteArray:=⟨#[110,111,116]⟩
abbrev k_or:ByteArray:=⟨#[111,114]⟩
abbrev k_and:ByteArray:=⟨#[97,110,100]⟩
abbrev k_less:ByteArray:=⟨#[108,101,115,115]⟩
abbrev k_mod:ByteArray:=⟨#[109,111,100]⟩
abbrev k_div:ByteArray:=⟨#[100,105,118]⟩
abbrev k_mul:ByteArray:=⟨#[109,117,108]⟩
abbrev k_sub:ByteArray:=⟨#[115,117,98]⟩
abbrev k_add:ByteArray:=⟨#[97,100,100]⟩
abbrev k_false:ByteArray:=⟨#[102,97,108,115,101]⟩
abbrev q7:ByteArray:=⟨#[112,97,99,107]⟩
abbrev zk:ByteArray:=⟨#[116,114,117,101]⟩
abbrev lT:ByteArray:=⟨#[117,110,112,97,99,107]⟩
abbrev aT:ByteArray:=⟨#[107,101,101,112]⟩
abbrev k_me:ByteArray:=⟨#[109,101]⟩
abbrev vT:ByteArray:=⟨#[100,114,111,112]⟩
abbrev k_call:ByteArray:=⟨#[99,97,108,108]⟩
abbrev od:ByteArray:=⟨#[109,111,118,101]⟩
abbrev o8:ByteArray:=⟨#[114,101,116]⟩
abbrev dz:ByteArray:=⟨#[122,101,114,111]⟩
abbrev t6:ByteArray:=⟨#[106,117,109,112]⟩
abbrev bm:ByteArray:=⟨#[102,97,105,108]⟩
abbrev bE:ByteArray:=⟨#[110,117,109]⟩
abbrev cI:ByteArray:=⟨#[33]⟩
abbrev cX:ByteArray:=⟨#[38]⟩
abbrev k_o:ByteArray:=⟨#[111]⟩
abbrev k_b:ByteArray:=⟨#[98]⟩
abbrev k_n:ByteArray:=⟨#[110]⟩
abbrev k_S:ByteArray:=⟨#[83]⟩
abbrev sZ:ByteArray:=⟨#[38,110]⟩
abbrev vS:ByteArray:=⟨#[83,48,57]⟩
abbrev k_x:ByteArray:=⟨#[120]⟩
abbrev Cs:Nat:=4
abbrev Co:Nat:=10
abbrev Cq:Nat:=11
abbrev mf:Nat:=12
abbrev it:Nat:=13
abbrev d9:Nat:=16
abbrev lr:Nat:=20
abbrev oF:Nat:=22
abbrev pO:Nat:=23
abbrev aG:Nat:=24
abbrev dZ:Nat:=25
abbrev hJ:Nat:=26
abbrev Cm:Nat:=27
abbrev eb:Nat:=28
abbrev dY:Nat:=29
abbrev jq:Nat:=30
abbrev oG:Nat:=31
abbrev oD:Nat:=35
abbrev dH:Nat:=37
abbrev Cv:Nat:=38
abbrev gH:Nat:=39
abbrev fJ:Nat:=40
abbrev me:Nat:=41
abbrev mn:Nat:=42
abbrev fp:Nat:=43
abbrev cP:Nat:=44
abbrev ix:Nat:=45
abbrev iu:Nat:=47
abbrev kx:Nat:=48
abbrev eN:Nat:=49
abbrev qy:Nat:=50
abbrev ml:Nat:=51
abbrev lw:Nat:=52
abbrev nb:Nat:=53
abbrev hL:Nat:=54
abbrev cB:Nat:=55
abbrev p9:Nat:=56
abbrev na:Nat:=57
abbrev iy:Nat:=58
abbrev ng:Nat:=59
abbrev dE:Nat:=60
abbrev qZ:Nat:=61
abbrev aI:Nat:=62
abbrev eA:Nat:=63
abbrev qx:Nat:=64
abbrev nc:Nat:=65
abbrev dG:Nat:=66
abbrev du:Nat:=67
abbrev mh:Nat:=77
abbrev bO:Nat:=78
abbrev nd:Nat:=79
abbrev lv:Nat:=80
abbrev kV:Nat:=81
abbrev bH:Nat:=82
abbrev eD:Nat:=83
abbrev bk:Nat:=84
abbrev dv:Nat:=85
abbrev cU:Nat:=87
abbrev cx:Nat:=88
abbrev kU:Nat:=89
abbrev kh:Nat:=94
abbrev ki:Nat:=95
abbrev ky:Nat:=96
abbrev jF:Nat:=97
abbrev jj:Nat:=98
abbrev cm:Nat:=99
abbrev aM:Nat:=100
abbrev lu:Nat:=101
abbrev mj:Nat:=102
abbrev mg:Nat:=104
abbrev oE:Nat:=105
abbrev aK:Nat:=106
abbrev aR:Nat:=107
abbrev cu:Nat:=108
abbrev fq:Nat:=109
abbrev db:Nat:=110
abbrev cr:Nat:=111
abbrev mi:Nat:=112
abbrev iw:Nat:=113
abbrev eZ:Nat:=114
abbrev cw:Nat:=115
abbrev ne:Nat:=116
abbrev gb:Nat:=117
abbrev cO:Nat:=5084
abbrev jr:Nat:=10084
noncomputable abbrev Ct (H:List Item→CS→R) (C:aF) (a0:T):R:=
 bif (decide ((a0.es.length:Int) > (1048576:Int))) then
 some [(T.bool true)]
 else
 obind (C Co [a0]) fun r1=>
 obind (C Cq [(rt r1 0),(rt r1 1),(rt r1 2),(rt r1 3)]) fun r2=>
 obind (C mf [(rt r1 0),(rt r1 1),(rt r1 2),(rt r1 3)]) fun r3=>
 bif (!((rt r2 0).b==(rt r3 0).b)) then
 some [(T.bool false)]
 else
 obind (C it [(rt r1 0),(rt r1 2),(rt r1 3)]) fun r4=>
 bif ((rt r1 1).i==(rt r1 2).i) then
 bif (rt r4 1).b then
 some [(rt r2 0)]
 else
 bif (!(rt r2 0).b) then
 some [(T.bool true)]
 else
 bif (rt r4 1).b then
 some [(T.bool (decide ((rt r1 2).i < (rt r1 1).i)))]
 else
 some [(T.bool false)]
 else
 bif (!(rt r2 0).b) then
 some [(T.bool true)]
 else
 bif (rt r4 1).b then
 some [(T.bool (decide ((rt r1 2).i < (rt r1 1).i)))]
 else
 some [(T.bool false)]
theorem CI (a0:T) {r:List T} (h:Yields (fun k=>Ct (hl env k sS) (cl env k) a0) r):Yields (fun k=>cl env k Cs [a0]) r:=Yields.call (fi:=sS) (Z:=fun H C=>Ct H C a0) rfl rfl (fun H C=>by kernel_rfl) h
noncomputable abbrev Cp (H:List Item→CS→R) (C:aF) (a0:T):R:=
 obind (C oF [a0]) fun r1=>
 obind (C pO [(rt r1 0)]) fun r2=>
 obind (C aG [(rt (r2.drop 3) 0),(T.int (4:Int))]) fun r3=>
 some [(rt r2 0),(rt r3 0),(rt r2 1),(rt r2 2)]
theorem CD (a0:T) {r:List T} (h:Yields (fun k=>Cp (hl env k rI) (cl env k) a0) r):Yields (fun k=>cl env k Co [a0]) r:=Yields.call (fi:=rI) (Z:=fun H C=>Cp H C a0) rfl rfl (fun H C=>by kernel_rfl) h
noncomputable abbrev Cr (H:List Item→CS→R) (C:aF) (a0 a1 a2 a3:T):R:=
 obind (C it [a0,a2,a3]) fun r1=>
 bif (!(rt r1 1).b) then
 some [(T.bool false)]
 else
 bif (decide (a1.i < (0:Int))) then
 some [(T.bool false)]
 else
 bif (decide (a1.i≥(a0.es.length:Int))) then
 some [(T.bool false)]
 else
 bif (decide (a2.i > a1.i)) then
 some [(T.bool false)]
 else
 bif (a2.i==a1.i) then
 some [(T.bool true)]
 else
 bif (((rt r1 0).fld 0).i==(2:Int)) then
 some [(T.bool true)]
 else
 bif (((rt r1 0).fld 0).i==(1:Int)) then
 bif (decide (0≤a2.i)&&decide (a2.i.toNat < a0.es.length)) then
 obind (C Cm [((a0.nth a2.i.toNat).fld 2),a1]) fun r2=>
 some [(rt r2 0)]
 else
 none
 else
 some [(T.bool false)]
theorem CN (a0 a1 a2 a3:T) {r:List T} (h:Yields (fun k=>Cr (hl env k ur) (cl env k) a0 a1 a2 a3) r):Yields (fun k=>cl env k Cq [a0,a1,a2,a3]) r:=Yields.call (fi:=ur) (Z:=fun H C=>Cr H C a0 a1 a2 a3) rfl rfl (fun H C=>by kernel_rfl) h
noncomputable abbrev mr (H:List Item→CS→R) (C:aF) (a0 a1 a2 a3:T):R:=
 obind (C eb [a0,a2,a3]) fun r1=>
 bif (!(rt r1 0).b) then
 some [(T.bool false)]
 else
 obind (C dZ [a1,(T.int (0:Int)),(T.int (IntKind.wrap .i64 ((a0.es.length:Int) - (1:Int))))]) fun r2=>
 bif (!(rt r2 0).b) then
 some [(T.bool false)]
 else
 bif (decide (a2.i > a1.i)) then
 some [(T.bool false)]
 else
 bif (decide (0≤a2.i)&&decide (a2.i.toNat < a0.es.length)) then
 bif (decide (0≤a3.i)&&decide (a3.i.toNat < (((a0.nth a2.i.toNat).fld 1).es).length)) then
 bif (a2.i==a1.i) then
 some [(T.bool true)]
 else
 bif (((((a0.nth a2.i.toNat).fld 1).nth a3.i.toNat).fld 0).i==(2:Int)) then
 some [(T.bool true)]
 else
 bif (((((a0.nth a2.i.toNat).fld 1).nth a3.i.toNat).fld 0).i==(1:Int)) then
 bif (decide (0≤a2.i)&&decide (a2.i.toNat < a0.es.length)) then
 obind (C dY [((a0.nth a2.i.toNat).fld 2),a1]) fun r3=>
 some [(rt r3 0)]
 else
 none
 else
 some [(T.bool false)]
 else
 none
 else
 none
theorem wt (a0 a1 a2 a3:T) {r:List T} (h:Yields (fun k=>mr (hl env k lO) (cl env k) a0 a1 a2 a3) r):Yields (fun k=>cl env k mf [a0,a1,a2,a3]) r:=Yields.call (fi:=lO) (Z:=fun H C=>mr H C a0 a1 a2 a3) rfl rfl (fun H C=>by kernel_rfl) h
noncomputable abbrev ly (H:List Item→CS→R) (C:aF) (a0 a1 a2:T):R:=
 bif (decide (a1.i < (0:Int))) then
 some [(T.st [(T.int (0:Int)),(T.sl []),(T.sl []),(T.sl []),(T.sl []),(T.sl [])]),(T.bool false)]
 else
 bif (decide (a1.i≥(a0.es.length:Int))) then
 some [(T.st [(T.int (0:Int)),(T.sl []),(T.sl []),(T.sl []),(T.sl []),(T.sl [])]),(T.bool false)]
 else
 bif (decide (a2.i < (0:Int))) then
 some [(T.st [(T.int (0:Int)),(T.sl []),(T.sl []),(T.sl []),(T.sl []),(T.sl [])]),(T.bool false)]
 else
 bif (decide (0≤a1.i)&&decide (a1.i.toNat < a0.es.length)) then
 bif (decide (a2.i≥((((a0.nth a1.i.toNat).fld 1).es).length:Int))) then
 some [(T.st [(T.int (0:Int)),(T.sl []),(T.sl []),(T.sl []),(T.sl []),(T.sl [])]),(T.bool false)]
 else
 bif (decide (0≤a2.i)&&decide (a2.i.toNat < (((a0.nth a1.i.toNat).fld 1).es).length)) then
 obind (C jq [(((a0.nth a1.i.toNat).fld 1).nth a2.i.toNat)]) fun r1=>
 some [(T.st [((rt r1 0).fld 0),((rt r1 0).fld 1),((rt r1 0).fld 2),((rt r1 0).fld 3),((rt r1 0).fld 4),((rt r1 0).fld 5)]),(T.bool true)]
 else
 none
 else
 none
theorem uo (H:List Item→CS→R) (C:aF) (a0 a1 a2:T):bI fu env H C [a0,a1,a2] =
 bif (((decide (a1.i < (0:Int)))==false)||(!((decide (a1.i < (0:Int)))==false))) then
 bif (((((decide (a1.i < (0:Int)))==false)&&((decide (a1.i < (0:Int)))==false))&&true)||(!((decide (a1.i < (0:Int)))==false))) then
 bif (bif (decide (a1.i < (0:Int))) then true else ((decide (a1.i < (0:Int)))==false)) then
 bif (((((bif (decide (a1.i < (0:Int))) then (T.bool true) else (T.bool (decide (a1.i≥(a0.es.length:Int))))).b==false)&&true)&&true)||(!((bif (decide (a1.i < (0:Int))) then (T.bool true) else (T.bool (decide (a1.i≥(a0.es.length:Int))))).b==false))) then
 bif (bif (bif (decide (a1.i < (0:Int))) then (T.bool true) else (T.bool (decide (a1.i≥(a0.es.length:Int))))).b then true else ((bif (decide (a1.i < (0:Int))) then (T.bool true) else (T.bool (decide (a1.i≥(a0.es.length:Int))))).b==false)) then
 bif (((((bif (bif (decide (a1.i < (0:Int))) then (T.bool true) else (T.bool (decide (a1.i≥(a0.es.length:Int))))).b then (T.bool true) else (T.bool (decide (a2.i < (0:Int))))).b==false)&&(((bif (bif (decide (a1.i < (0:Int))) then (T.bool true) else (T.bool (decide (a1.i≥(a0.es.length:Int))))).b then (T.bool true) else (T.bool (decide (a2.i < (0:Int))))).b==false)&&true))&&(decide (0≤a1.i)&&decide (a1.i.toNat < a0.es.length)))||(!((bif (bif (decide (a1.i < (0:Int))) then (T.bool true) else (T.bool (decide (a1.i≥(a0.es.length:Int))))).b then (T.bool true) else (T.bool (decide (a2.i < (0:Int))))).b==false))) then
 bif (((bif (bif (decide (a1.i < (0:Int))) then (T.bool true) else (T.bool (decide (a1.i≥(a0.es.length:Int))))).b then (T.bool true) else (T.bool (decide (a2.i < (0:Int))))).b==false)||(!((bif (bif (decide (a1.i < (0:Int))) then (T.bool true) else (T.bool (decide (a1.i≥(a0.es.length:Int))))).b then (T.bool true) else (T.bool (decide (a2.i < (0:Int))))).b==false))) then
 bif (((bif (bif (decide (a1.i < (0:Int))) then (T.bool true) else (T.bool (decide (a1.i≥(a0.es.length:Int))))).b then (T.bool true) else (T.bool (decide (a2.i < (0:Int))))).b==false)||(!((bif (bif (decide (a1.i < (0:Int))) then (T.bool true) else (T.bool (decide (a1.i≥(a0.es.length:Int))))).b then (T.bool true) else (T.bool (decide (a2.i < (0:Int))))).b==false))) then
 bif (((bif (bif (decide (a1.i < (0:Int))) then (T.bool true) else (T.bool (decide (a1.i≥(a0.es.length:Int))))).b then (T.bool true) else (T.bool (decide (a2.i < (0:Int))))).b==false)||(!((bif (bif (decide (a1.i < (0:Int))) then (T.bool true) else (T.bool (decide (a1.i≥(a0.es.length:Int))))).b then (T.bool true) else (T.bool (decide (a2.i < (0:Int))))).b==false))) then
 bif (((((bif (bif (decide (a1.i < (0:Int))) then (T.bool true) else (T.bool (decide (a1.i≥(a0.es.length:Int))))).b then (T.bool true) else (T.bool (decide (a2.i < (0:Int))))).b==false)&&((bif (bif (decide (a1.i < (0:Int))) then (T.bool true) else (T.bool (decide (a1.i≥(a0.es.length:Int))))).b then (T.bool true) else (T.bool (decide (a2.i < (0:Int))))).b==false))&&true)||(!((bif (bif (decide (a1.i < (0:Int))) then (T.bool true) else (T.bool (decide (a1.i≥(a0.es.length:Int))))).b then (T.bool true) else (T.bool (decide (a2.i < (0:Int))))).b==false))) then
 bif (bif (bif (bif (decide (a1.i < (0:Int))) then (T.bool true) else (T.bool (decide (a1.i≥(a0.es.length:Int))))).b then (T.bool true) else (T.bool (decide (a2.i < (0:Int))))).b then true else ((bif (bif (decide (a1.i < (0:Int))) then (T.bool true) else (T.bool (decide (a1.i≥(a0.es.length:Int))))).b then (T.bool true) else (T.bool (decide (a2.i < (0:Int))))).b==false)) then
 bif (bif (bif (bif (decide (a1.i < (0:Int))) then (T.bool true) else (T.bool (decide (a1.i≥(a0.es.length:Int))))).b then (T.bool true) else (T.bool (decide (a2.i < (0:Int))))).b then (T.bool true) else (T.bool (decide (a2.i≥((((a0.nth a1.i.toNat).fld 1).es).length:Int))))).b then
 some [(T.st [(T.int (0:Int)),(T.sl []),(T.sl []),(T.sl []),(T.sl []),(T.sl [])]),(T.bool false)]
 else
 bif (decide (0≤a1.i)&&decide (a1.i.toNat < a0.es.length)) then
 bif (decide (0≤a2.i)&&decide (a2.i.toNat < (((a0.nth a1.i.toNat).fld 1).es).length)) then
 obind (C jq [(((a0.nth a1.i.toNat).fld 1).nth a2.i.toNat)]) fun r1=>
 some [(T.st [((rt r1 0).fld 0),((rt r1 0).fld 1),((rt r1 0).fld 2),((rt r1 0).fld 3),((rt r1 0).fld 4),((rt r1 0).fld 5)]),(T.bool true)]
 else
 none
 else
 none
 else
 none
 else
 none
 else
 none
 else
 none
 else
 none
 else
 none
 else
 none
 else
 none
 else
 none
 else
 none
 else
 none:=by kernel_rfl
theorem uH (H:List Item→CS→R) (C:aF) (a0 a1 a2:T):bI fu env H C [a0,a1,a2]=ly H C a0 a1 a2:=by
 refine (uo H C a0 a1 a2).trans ?_
 unfold ly
 all_goals try simp only[bs]
 all_goals cases hc:((decide (a1.i < (0:Int)))) with
 | true=>
  try simp only[bs]
  all_goals kernel_rfl
 | false=>
  try simp only[bs]
  all_goals cases hc:((decide (a1.i≥(a0.es.length:Int)))) with
  | true=>
   try simp only[bs]
   all_goals kernel_rfl
  | false=>
   try simp only[bs]
   all_goals cases hc:((decide (a2.i < (0:Int)))) with
   | true=>
    try simp only[bs]
    all_goals kernel_rfl
   | false=>
    try simp only[bs]
    all_goals cases hc:((decide (0≤a1.i)&&decide (a1.i.toNat < a0.es.length))) with
    | true=>
     try simp only[bs]
     all_goals cases hc:((decide (a2.i≥((((a0.nth a1.i.toNat).fld 1).es).length:Int)))) with
     | true=>
      try simp only[bs]
      all_goals kernel_rfl
     | false=>
      try simp only[bs]
      all_goals cases hc:((decide (0≤a2.i)&&decide (a2.i.toNat < (((a0.nth a1.i.toNat).fld 1).es).length))) with
      | true=>
       try simp only[bs]
       all_goals refine br fun r1=>?_
       all_goals try simp only[bs]
       all_goals kernel_rfl
      | false=>
       try simp only[bs]
       all_goals kernel_rfl
    | false=>
     try simp only[bs]
     all_goals kernel_rfl
theorem fX (a0 a1 a2:T) {r:List T} (h:Yields (fun k=>ly (hl env k fu) (cl env k) a0 a1 a2) r):Yields (fun k=>cl env k it [a0,a1,a2]) r:=Yields.call (fi:=fu) rfl rfl (fun H C=>uH H C a0 a1 a2) h
noncomputable def dC (H:List Item→CS→R) (x1:T) (x2:T) (x3:T):R:=H (bS be.body 0) ([(0,.val 33 x1),(3,.sref 40 3 []),(4,.val 3 x2)],[(3,⟨40,x3,(.sl .dp),false⟩)])
noncomputable def dD (H:List Item→CS→R) (x1:T) (x2:T) (x3:T) (x4:T) (x5:T):R:=H (bS be.body 1) ([(0,.val 33 x1),(3,.sref 40 3 []),(4,.val 3 x2),(5,.sref 44 5 []),(6,.val 3 x3)],[(3,⟨40,x4,(.sl .dp),false⟩),(5,⟨44,x5,(.sl .dp),false⟩)])
noncomputable abbrev pb (H:List Item→CS→R) (C:aF) (a0:T):R:=
 dC H a0 (T.int (0:Int)) (T.sl [])
theorem tQ (H:List Item→CS→R) (C:aF) (a0:T):bI be env H C [a0]=pb H C a0:=by kernel_rfl
theorem tV (a0:T) {r:List T} (h:Yields (fun k=>pb (hl env k be) (cl env k) a0) r):Yields (fun k=>cl env k d9 [a0]) r:=Yields.call (fi:=be) rfl rfl (fun H C=>tQ H C a0) h
noncomputable abbrev n6 (H:List Item→CS→R) (C:aF) (x1:T) (x2:T) (x3:T):R:=
 bif (decide (x2.i < (x1.es.length:Int))) then
 dD H x1 x2 (T.int (0:Int)) x3 (T.sl [])
 else
 some [x3]
theorem sm (H:List Item→CS→R) (C:aF) (x1:T) (x2:T) (x3:T):iU be env H C (bS be.body 0) ([(0,.val 33 x1),(3,.sref 40 3 []),(4,.val 3 x2)],[(3,⟨40,x3,(.sl .dp),false⟩)])=n6 H C x1 x2 x3:=by kernel_rfl
theorem n8 (x1:T) (x2:T) (x3:T) {r:List T} (h:Yields (fun k=>n6 (hl env k be) (cl env k) x1 x2 x3) r):Yields (fun k=>dC (hl env k be) x1 x2 x3) r:=Yields.head (fun H C=>sm H C x1 x2 x3) h
noncomputable abbrev jl (H:List Item→CS→R) (C:aF) (x1:T) (x2:T) (x3:T) (x4:T) (x5:T):R:=
 bif (decide (0≤x2.i)&&decide (x2.i.toNat < x1.es.length)) then
 bif (decide (x3.i < ((((x1.nth x2.i.toNat).fld 0).es).length:Int))) then
 bif (decide (0≤x3.i)&&decide (x3.i.toNat < (((x1.nth x2.i.toNat).fld 0).es).length)) then
 bif (decide (([]:List T).length+(((((x1.nth x2.i.toNat).fld 0).nth x3.i.toNat).fld 1).es).length≤LIM)) then
 bif (decide (x5.es.length + [(T.st [((((x1.nth x2.i.toNat).fld 0).nth x3.i.toNat).fld 0),(T.sl (([]:List T)++((((x1.nth x2.i.toNat).fld 0).nth x3.i.toNat).fld 1).es))])].length≤LIM)) then
 dD H x1 x2 (T.int (IntKind.wrap .i64 (x3.i+(1:Int)))) x4 (T.sl (x5.es ++ [(T.st [((((x1.nth x2.i.toNat).fld 0).nth x3.i.toNat).fld 0),(T.sl (([]:List T)++((((x1.nth x2.i.toNat).fld 0).nth x3.i.toNat).fld 1).es))])]))
 else
 none
 else
 none
 else
 none
 else
 bif (decide (x4.es.length + [x5].length≤LIM)) then
 dC H x1 (T.int (IntKind.wrap .i64 (x2.i+(1:Int)))) (T.sl (x4.es ++ [x5]))
 else
 none
 else
 none
theorem sg (H:List Item→CS→R) (C:aF) (x1:T) (x2:T) (x3:T) (x4:T) (x5:T):iU be env H C (bS be.body 1) ([(0,.val 33 x1),(3,.sref 40 3 []),(4,.val 3 x2),(5,.sref 44 5 []),(6,.val 3 x3)],[(3,⟨40,x4,(.sl .dp),false⟩),(5,⟨44,x5,(.sl .dp),false⟩)]) =
 bif (decide (0≤x2.i)&&decide (x2.i.toNat < x1.es.length)) then
 bif (decide (x3.i < ((((x1.nth x2.i.toNat).fld 0).es).length:Int))) then
 bif (decide (0≤x2.i)&&decide (x2.i.toNat < x1.es.length)) then
 bif (decide (0≤x3.i)&&decide (x3.i.toNat < (((x1.nth x2.i.toNat).fld 0).es).length)) then
 bif (decide (([]:List T).length+(((((x1.nth x2.i.toNat).fld 0).nth x3.i.toNat).fld 1).es).length≤LIM)) then
 bif (decide (x5.es.length + [(T.st [((((x1.nth x2.i.toNat).fld 0).nth x3.i.toNat).fld 0),(T.sl (([]:List T)++((((x1.nth x2.i.toNat).fld 0).nth x3.i.toNat).fld 1).es))])].length≤LIM)) then
 dD H x1 x2 (T.int (IntKind.wrap .i64 (x3.i+(1:Int)))) x4 (T.sl (x5.es ++ [(T.st [((((x1.nth x2.i.toNat).fld 0).nth x3.i.toNat).fld 0),(T.sl (([]:List T)++((((x1.nth x2.i.toNat).fld 0).nth x3.i.toNat).fld 1).es))])]))
 else
 none
 else
 none
 else
 none
 else
 none
 else
 bif (decide (x4.es.length + [x5].length≤LIM)) then
 dC H x1 (T.int (IntKind.wrap .i64 (x2.i+(1:Int)))) (T.sl (x4.es ++ [x5]))
 else
 none
 else
 none:=by kernel_rfl
theorem so (H:List Item→CS→R) (C:aF) (x1:T) (x2:T) (x3:T) (x4:T) (x5:T):iU be env H C (bS be.body 1) ([(0,.val 33 x1),(3,.sref 40 3 []),(4,.val 3 x2),(5,.sref 44 5 []),(6,.val 3 x3)],[(3,⟨40,x4,(.sl .dp),false⟩),(5,⟨44,x5,(.sl .dp),false⟩)])=jl H C x1 x2 x3 x4 x5:=by
 refine (sg H C x1 x2 x3 x4 x5).trans ?_
 unfold jl
 all_goals try simp only[bs]
 all_goals cases hc:((decide (0≤x2.i)&&decide (x2.i.toNat < x1.es.length))) with
 | true=>
  try simp only[bs]
  all_goals cases hc:((decide (x3.i < ((((x1.nth x2.i.toNat).fld 0).es).length:Int)))) with
  | true=>
   try simp only[bs]
   all_goals cases hc:((decide (0≤x3.i)&&decide (x3.i.toNat < (((x1.nth x2.i.toNat).fld 0).es).length))) with
   | true=>
    try simp only[bs]
    all_goals cases hc:((decide (([]:List T).length+(((((x1.nth x2.i.toNat).fld 0).nth x3.i.toNat).fld 1).es).length≤LIM))) with
    | true=>
     try simp only[bs]
     all_goals cases hc:((decide (x5.es.length + [(T.st [((((x1.nth x2.i.toNat).fld 0).nth x3.i.toNat).fld 0),(T.sl (([]:List T)++((((x1.nth x2.i.toNat).fld 0).nth x3.i.toNat).fld 1).es))])].length≤LIM))) with
     | true=>
      try simp only[bs]
      all_goals kernel_rfl
     | false=>
      try simp only[bs]
      all_goals kernel_rfl
    | false=>
     try simp only[bs]
     all_goals kernel_rfl
   | false=>
    try simp only[bs]
    all_goals kernel_rfl
  | false=>
   try simp only[bs]
   all_goals cases hc:((decide (x4.es.length + [x5].length≤LIM))) with
   | true=>
    try simp only[bs]
    all_goals kernel_rfl
   | false=>
    try simp only[bs]
    all_goals kernel_rfl
 | false=>
  try simp only[bs]
  all_goals kernel_rfl
theorem n9 (x1:T) (x2:T) (x3:T) (x4:T) (x5:T) {r:List T} (h:Yields (fun k=>jl (hl env k be) (cl env k) x1 x2 x3 x4 x5) r):Yields (fun k=>dD (hl env k be) x1 x2 x3 x4 x5) r:=Yields.head (fun H C=>so H C x1 x2 x3 x4 x5) h
noncomputable abbrev lA (H:List Item→CS→R) (C:aF) (a0 a1 a2:T):R:=
 obind (C eb [a0,a1,a2]) fun r1=>
 bif (!(rt r1 0).b) then
 some [(T.st [(T.int (0:Int)),(T.sl []),(T.sl []),(T.sl []),(T.sl []),(T.sl [])]),(T.bool false)]
 else
 bif (decide (0≤a1.i)&&decide (a1.i.toNat < a0.es.length)) then
 bif (decide (0≤a2.i)&&decide (a2.i.toNat < (((a0.nth a1.i.toNat).fld 1).es).length)) then
 obind (C oD [(((a0.nth a1.i.toNat).fld 1).nth a2.i.toNat)]) fun r2=>
 some [(T.st [((rt r2 0).fld 0),((rt r2 0).fld 1),((rt r2 0).fld 2),((rt r2 0).fld 3),((rt r2 0).fld 4),((rt r2 0).fld 5)]),(T.bool true)]
 else
 none
 else
 none
theorem qh (a0 a1 a2:T) {r:List T} (h:Yields (fun k=>lA (hl env k kF) (cl env k) a0 a1 a2) r):Yields (fun k=>cl env k lr [a0,a1,a2]) r:=Yields.call (fi:=kF) (Z:=fun H C=>lA H C a0 a1 a2) rfl rfl (fun H C=>by kernel_rfl) h
noncomputable abbrev oO (H:List Item→CS→R) (C:aF) (a0:T):R:=
 bif (decide ((a0.es.length:Int) > (2000:Int))) then
 bif ((decide (0≤(0:Int))&&(decide ((0:Int)≤(2000:Int))&&(decide ((2000:Int)≤(a0.es.length:Int))&&decide ((a0.es.length:Int)≤(a0.es.length:Int)))))&&(decide (0 < a0.es.length))) then
 some [(T.st [(T.sl ((a0.es.take 2000).drop 0)),(T.int (0:Int))])]
 else
 none
 else
 some [(T.st [a0,(T.int (0:Int))])]
theorem yu (a0:T) {r:List T} (h:Yields (fun k=>oO (hl env k nH) (cl env k) a0) r):Yields (fun k=>cl env k oF [a0]) r:=Yields.call (fi:=nH) (Z:=fun H C=>oO H C a0) rfl rfl (fun H C=>by kernel_rfl) h
noncomputable abbrev pT (H:List Item→CS→R) (C:aF) (a0:T):R:=
 obind (C oG [a0]) fun r1=>
 bif ((((rt r1 0).es).length:Int)==(0:Int)) then
 obind (C dH [(rt (r1.drop 1) 0),(T.sl [(T.int (0:Int)),(T.int (-1:Int)),(T.int (3:Int))])]) fun r2=>
 some [(rt r1 0),(rt r2 0),(T.int (0:Int)),(rt (r2.drop 1) 0)]
 else
 obind (C aG [(rt (r1.drop 1) 0),(T.int (20:Int))]) fun r3=>
 bif ((rt r3 0).i==(0:Int)) then
 obind (C dH [(rt (r3.drop 1) 0),(T.sl [(T.int (0:Int)),(T.int (-1:Int)),(T.int (3:Int))])]) fun r4=>
 some [(rt r1 0),(rt r4 0),(T.int (0:Int)),(rt (r4.drop 1) 0)]
 else
 obind (C aG [(rt (r3.drop 1) 0),(T.int (((rt r1 0).es).length:Int))]) fun r5=>
 bif (decide (0≤(rt r5 0).i)&&decide (((rt r5 0).i).toNat < ((rt r1 0).es).length)) then
 obind (C aG [(rt (r5.drop 1) 0),(T.int (IntKind.wrap .i64 ((((((rt r1 0).nth (((rt r5 0).i).toNat)).fld 1).es).length:Int)+(1:Int))))]) fun r6=>
 some [(rt r1 0),(rt r5 0),(rt r6 0),(rt (r6.drop 1) 0)]
 else
 none
theorem A3 (a0:T) {r:List T} (h:Yields (fun k=>pT (hl env k oX) (cl env k) a0) r):Yields (fun k=>cl env k pO [a0]) r:=Yields.call (fi:=oX) (Z:=fun H C=>pT H C a0) rfl rfl (fun H C=>by kernel_rfl) h
noncomputable abbrev lD (H:List Item→CS→R) (C:aF) (a0 a1:T):R:=
 bif (decide (a1.i < (1:Int))) then
 some [(T.int (0:Int)),(T.st (a0.fs.set 1 (T.int (IntKind.wrap .i64 ((a0.fld 1).i+(1:Int))))))]
 else
 bif (((((T.st (a0.fs.set 1 (T.int (IntKind.wrap .i64 ((a0.fld 1).i+(1:Int)))))).fld 0).es).length:Int)==(0:Int)) then
 some [(T.int (0:Int)),(T.st (a0.fs.set 1 (T.int (IntKind.wrap .i64 ((a0.fld 1).i+(1:Int))))))]
 else
 bif (decide ((IntKind.wrap .i64 (((T.st (a0.fs.set 1 (T.int (IntKind.wrap .i64 ((a0.fld 1).i+(1:Int)))))).fld 1).i - (1:Int))) < ((((T.st (a0.fs.set 1 (T.int (IntKind.wrap .i64 ((a0.fld 1).i+(1:Int)))))).fld 0).es).length:Int))) then
 bif (decide (0≤(IntKind.wrap .i64 (((T.st (a0.fs.set 1 (T.int (IntKind.wrap .i64 ((a0.fld 1).i+(1:Int)))))).fld 1).i - (1:Int))))&&decide ((IntKind.wrap .i64 (((T.st (a0.fs.set 1 (T.int (IntKind.wrap .i64 ((a0.fld 1).i+(1:Int)))))).fld 1).i - (1:Int))).toNat < (((T.st (a0.fs.set 1 (T.int (IntKind.wrap .i64 ((a0.fld 1).i+(1:Int)))))).fld 0).es).length)) then
 bif (!(a1.i==0)) then
 some [(T.int (((IntKind.wrap .i64 ((((T.st (a0.fs.set 1 (T.int (IntKind.wrap .i64 ((a0.fld 1).i+(1:Int)))))).fld 0).nth ((IntKind.wrap .i64 (((T.st (a0.fs.set 1 (T.int (IntKind.wrap .i64 ((a0.fld 1).i+(1:Int)))))).fld 1).i - (1:Int))).toNat)).i)):Int).tmod a1.i)),(T.st (a0.fs.set 1 (T.int (IntKind.wrap .i64 ((a0.fld 1).i+(1:Int))))))]
 else
 none
 else
 none
 else
 bif (!(((((T.st (a0.fs.set 1 (T.int (IntKind.wrap .i64 ((a0.fld 1).i+(1:Int)))))).fld 0).es).length:Int)==0)) then
 bif (decide (0≤(((IntKind.wrap .i64 (((T.st (a0.fs.set 1 (T.int (IntKind.wrap .i64 ((a0.fld 1).i+(1:Int)))))).fld 1).i - (1:Int))):Int).tmod ((((T.st (a0.fs.set 1 (T.int (IntKind.wrap .i64 ((a0.fld 1).i+(1:Int)))))).fld 0).es).length:Int)))&&decide ((((IntKind.wrap .i64 (((T.st (a0.fs.set 1 (T.int (IntKind.wrap .i64 ((a0.fld 1).i+(1:Int)))))).fld 1).i - (1:Int))):Int).tmod ((((T.st (a0.fs.set 1 (T.int (IntKind.wrap .i64 ((a0.fld 1).i+(1:Int)))))).fld 0).es).length:Int)).toNat < (((T.st (a0.fs.set 1 (T.int (IntKind.wrap .i64 ((a0.fld 1).i+(1:Int)))))).fld 0).es).length)) then
 bif (!(((((T.st (a0.fs.set 1 (T.int (IntKind.wrap .i64 ((a0.fld 1).i+(1:Int)))))).fld 0).es).length:Int)==0)) then
 bif (decide (0≤(((IntKind.wrap .i64 ((IntKind.wrap .i64 ((IntKind.wrap .i64 (((T.st (a0.fs.set 1 (T.int (IntKind.wrap .i64 ((a0.fld 1).i+(1:Int)))))).fld 1).i - (1:Int))) * (7:Int)))+(3:Int))):Int).tmod ((((T.st (a0.fs.set 1 (T.int (IntKind.wrap .i64 ((a0.fld 1).i+(1:Int)))))).fld 0).es).length:Int)))&&decide ((((IntKind.wrap .i64 ((IntKind.wrap .i64 ((IntKind.wrap .i64 (((T.st (a0.fs.set 1 (T.int (IntKind.wrap .i64 ((a0.fld 1).i+(1:Int)))))).fld 1).i - (1:Int))) * (7:Int)))+(3:Int))):Int).tmod ((((T.st (a0.fs.set 1 (T.int (IntKind.wrap .i64 ((a0.fld 1).i+(1:Int)))))).fld 0).es).length:Int)).toNat < (((T.st (a0.fs.set 1 (T.int (IntKind.wrap .i64 ((a0.fld 1).i+(1:Int)))))).fld 0).es).length)) then
 bif (!(((((T.st (a0.fs.set 1 (T.int (IntKind.wrap .i64 ((a0.fld 1).i+(1:Int)))))).fld 0).es).length:Int)==0)) then
 bif (!((64:Int)==0)) then
 bif (!(a1.i==0)) then
 some [(T.int (((IntKind.wrap .i64 ((BitVec.ofInt (IntKind.i64).bits (IntKind.wrap .i64 ((IntKind.wrap .i64 ((IntKind.wrap .i64 ((IntKind.wrap .i64 ((IntKind.wrap .i64 ((((T.st (a0.fs.set 1 (T.int (IntKind.wrap .i64 ((a0.fld 1).i+(1:Int)))))).fld 0).nth ((((IntKind.wrap .i64 (((T.st (a0.fs.set 1 (T.int (IntKind.wrap .i64 ((a0.fld 1).i+(1:Int)))))).fld 1).i - (1:Int))):Int).tmod ((((T.st (a0.fs.set 1 (T.int (IntKind.wrap .i64 ((a0.fld 1).i+(1:Int)))))).fld 0).es).length:Int)).toNat)).i)) * (131:Int)))+(IntKind.wrap .i64 ((IntKind.wrap .i64 ((((T.st (a0.fs.set 1 (T.int (IntKind.wrap .i64 ((a0.fld 1).i+(1:Int)))))).fld 0).nth ((((IntKind.wrap .i64 ((IntKind.wrap .i64 ((IntKind.wrap .i64 (((T.st (a0.fs.set 1 (T.int (IntKind.wrap .i64 ((a0.fld 1).i+(1:Int)))))).fld 1).i - (1:Int))) * (7:Int)))+(3:Int))):Int).tmod ((((T.st (a0.fs.set 1 (T.int (IntKind.wrap .i64 ((a0.fld 1).i+(1:Int)))))).fld 0).es).length:Int)).toNat)).i)) * (1117:Int)))))+(IntKind.wrap .i64 ((IntKind.wrap .i64 (((T.st (a0.fs.set 1 (T.int (IntKind.wrap .i64 ((a0.fld 1).i+(1:Int)))))).fld 1).i - (1:Int))) * (29:Int)))))+(IntKind.wrap .i64 ((IntKind.wrap .i64 (((IntKind.wrap .i64 (((T.st (a0.fs.set 1 (T.int (IntKind.wrap .i64 ((a0.fld 1).i+(1:Int)))))).fld 1).i - (1:Int)))).tdiv ((((T.st (a0.fs.set 1 (T.int (IntKind.wrap .i64 ((a0.fld 1).i+(1:Int)))))).fld 0).es).length:Int))) * (53:Int))))) ^^^ BitVec.ofInt (IntKind.i64).bits (IntKind.wrap .i64 (((IntKind.wrap .i64 ((IntKind.wrap .i64 ((IntKind.wrap .i64 ((IntKind.wrap .i64 ((IntKind.wrap .i64 ((((T.st (a0.fs.set 1 (T.int (IntKind.wrap .i64 ((a0.fld 1).i+(1:Int)))))).fld 0).nth ((((IntKind.wrap .i64 (((T.st (a0.fs.set 1 (T.int (IntKind.wrap .i64 ((a0.fld 1).i+(1:Int)))))).fld 1).i - (1:Int))):Int).tmod ((((T.st (a0.fs.set 1 (T.int (IntKind.wrap .i64 ((a0.fld 1).i+(1:Int)))))).fld 0).es).length:Int)).toNat)).i)) * (131:Int)))+(IntKind.wrap .i64 ((IntKind.wrap .i64 ((((T.st (a0.fs.set 1 (T.int (IntKind.wrap .i64 ((a0.fld 1).i+(1:Int)))))).fld 0).nth ((((IntKind.wrap .i64 ((IntKind.wrap .i64 ((IntKind.wrap .i64 (((T.st (a0.fs.set 1 (T.int (IntKind.wrap .i64 ((a0.fld 1).i+(1:Int)))))).fld 1).i - (1:Int))) * (7:Int)))+(3:Int))):Int).tmod ((((T.st (a0.fs.set 1 (T.int (IntKind.wrap .i64 ((a0.fld 1).i+(1:Int)))))).fld 0).es).length:Int)).toNat)).i)) * (1117:Int)))))+(IntKind.wrap .i64 ((IntKind.wrap .i64 (((T.st (a0.fs.set 1 (T.int (IntKind.wrap .i64 ((a0.fld 1).i+(1:Int)))))).fld 1).i - (1:Int))) * (29:Int)))))+(IntKind.wrap .i64 ((IntKind.wrap .i64 (((IntKind.wrap .i64 (((T.st (a0.fs.set 1 (T.int (IntKind.wrap .i64 ((a0.fld 1).i+(1:Int)))))).fld 1).i - (1:Int)))).tdiv ((((T.st (a0.fs.set 1 (T.int (IntKind.wrap .i64 ((a0.fld 1).i+(1:Int)))))).fld 0).es).length:Int))) * (53:Int)))))).tdiv (64:Int)))).toNat:Nat)):Int).tmod a1.i)),(T.st (a0.fs.set 1 (T.int (IntKind.wrap .i64 ((a0.fld 1).i+(1:Int))))))]
 else
 none
 else
 none
 else
 none
 else
 none
 else
 none
 else
 none
 else
 none
theorem uR (a0 a1:T) {r:List T} (h:Yields (fun k=>lD (hl env k kG) (cl env k) a0 a1) r):Yields (fun k=>cl env k aG [a0,a1]) r:=Yields.call (fi:=kG) (Z:=fun H C=>lD H C a0 a1) rfl rfl (fun H C=>by kernel_rfl) h
noncomputable abbrev qS (H:List Item→CS→R) (C:aF) (a0 a1 a2:T):R:=
 bif (decide (a0.i≥a1.i)) then
 some [(T.bool (decide (a0.i≤a2.i)))]
 else
 some [(T.bool false)]
theorem A8 (H:List Item→CS→R) (C:aF) (a0 a1 a2:T):bI jO env H C [a0,a1,a2] =
 bif (((((decide (a0.i≥a1.i))==true)&&((decide (a0.i≥a1.i))==true))&&true)||(!((decide (a0.i≥a1.i))==true))) then
 bif (bif (decide (a0.i≥a1.i)) then ((decide (a0.i≥a1.i))==true) else true) then
 some [(bif (decide (a0.i≥a1.i)) then (T.bool (decide (a0.i≤a2.i))) else (T.bool false))]
 else
 none
 else
 none:=by kernel_rfl
theorem Ab (H:List Item→CS→R) (C:aF) (a0 a1 a2:T):bI jO env H C [a0,a1,a2]=qS H C a0 a1 a2:=by
 refine (A8 H C a0 a1 a2).trans ?_
 unfold qS
 all_goals try simp only[bs]
 all_goals cases hc:((decide (a0.i≥a1.i))) with
 | true=>
  try simp only[bs]
  all_goals kernel_rfl
 | false=>
  try simp only[bs]
  all_goals kernel_rfl
theorem Ak (a0 a1 a2:T) {r:List T} (h:Yields (fun k=>qS (hl env k jO) (cl env k) a0 a1 a2) r):Yields (fun k=>cl env k dZ [a0,a1,a2]) r:=Yields.call (fi:=jO) rfl rfl (fun H C=>Ab H C a0 a1 a2) h
noncomputable abbrev hZ (H:List Item→CS→R) (C:aF) (a0 a1:T):R:=
 bif (decide (a1.i < (((a0.fld 1).es).length:Int))) then
 bif (decide (0≤a1.i)&&decide (a1.i.toNat < ((a0.fld 1).es).length)) then
 some [((a0.fld 1).nth a1.i.toNat)]
 else
 none
 else
 bif (decide (0≤(IntKind.wrap .i64 (a1.i - (((a0.fld 1).es).length:Int))))&&decide ((IntKind.wrap .i64 (a1.i - (((a0.fld 1).es).length:Int))).toNat < ((a0.fld 3).es).length)) then
 some [((a0.fld 3).nth ((IntKind.wrap .i64 (a1.i - (((a0.fld 1).es).length:Int))).toNat))]
 else
 none
theorem o3 (a0 a1:T) {r:List T} (h:Yields (fun k=>hZ (hl env k mK) (cl env k) a0 a1) r):Yields (fun k=>cl env k hJ [a0,a1]) r:=Yields.call (fi:=mK) (Z:=fun H C=>hZ H C a0 a1) rfl rfl (fun H C=>by kernel_rfl) h
noncomputable abbrev Cu (H:List Item→CS→R) (C:aF) (a0 a1:T):R:=
 obind (C Cv [a0,a1]) fun r1=>
 some [(T.bool (decide ((rt r1 0).i≥(0:Int))))]
theorem CC (a0 a1:T) {r:List T} (h:Yields (fun k=>Cu (hl env k qU) (cl env k) a0 a1) r):Yields (fun k=>cl env k Cm [a0,a1]) r:=Yields.call (fi:=qU) (Z:=fun H C=>Cu H C a0 a1) rfl rfl (fun H C=>by kernel_rfl) h
noncomputable abbrev hY (H:List Item→CS→R) (C:aF) (a0 a1 a2:T):R:=
 obind (C dZ [a1,(T.int (0:Int)),(T.int (IntKind.wrap .i64 ((a0.es.length:Int) - (1:Int))))]) fun r1=>
 bif (rt r1 0).b then
 bif (decide (0≤a1.i)&&decide (a1.i.toNat < a0.es.length)) then
 obind (C dZ [a2,(T.int (0:Int)),(T.int (IntKind.wrap .i64 (((((a0.nth a1.i.toNat).fld 1).es).length:Int) - (1:Int))))]) fun r2=>
 some [(rt r2 0)]
 else
 none
 else
 some [(T.bool false)]
theorem yV (H:List Item→CS→R) (C:aF) (a0 a1 a2:T):bI j9 env H C [a0,a1,a2] =
 obind (C dZ [a1,(T.int (0:Int)),(T.int (IntKind.wrap .i64 ((a0.es.length:Int) - (1:Int))))]) fun r1=>
 bif (((((rt r1 0).b==true)&&(((rt r1 0).b==true)&&true))&&(decide (0≤a1.i)&&decide (a1.i.toNat < a0.es.length)))||(!((rt r1 0).b==true))) then
 bif (((rt r1 0).b==true)||(!((rt r1 0).b==true))) then
 bif (((rt r1 0).b==true)||(!((rt r1 0).b==true))) then
 bif (((rt r1 0).b==true)||(!((rt r1 0).b==true))) then
 bif (((((rt r1 0).b==true)&&true)&&true)||(!((rt r1 0).b==true))) then
 bif ((((rt r1 0).b==true)&&(((rt r1 0).b==true)&&true))||(!((rt r1 0).b==true))) then
 obind ((bif ((rt r1 0).b==true) then C dZ [a2,(T.int (0:Int)),(T.int (IntKind.wrap .i64 (((((a0.nth a1.i.toNat).fld 1).es).length:Int) - (1:Int))))] else some [])) fun r2=>
 bif (bif (rt r1 0).b then ((rt r1 0).b==true) else true) then
 some [(bif (rt r1 0).b then (rt r2 0) else (T.bool false))]
 else
 none
 else
 none
 else
 none
 else
 none
 else
 none
 else
 none
 else
 none:=by kernel_rfl
theorem zI (H:List Item→CS→R) (C:aF) (a0 a1 a2:T):bI j9 env H C [a0,a1,a2]=hY H C a0 a1 a2:=by
 refine (yV H C a0 a1 a2).trans ?_
 unfold hY
 all_goals try simp only[bs]
 all_goals refine br fun r1=>?_
 all_goals try simp only[bs]
 all_goals cases hc:((rt r1 0).b) with
 | true=>
  try simp only[bs]
  all_goals cases hc:((decide (0≤a1.i)&&decide (a1.i.toNat < a0.es.length))) with
  | true=>
   try simp only[bs]
   all_goals refine br fun r2=>?_
   all_goals try simp only[bs]
   all_goals kernel_rfl
  | false=>
   try simp only[bs]
   all_goals kernel_rfl
 | false=>
  try simp only[bs]
  all_goals kernel_rfl
theorem qi (a0 a1 a2:T) {r:List T} (h:Yields (fun k=>hY (hl env k j9) (cl env k) a0 a1 a2) r):Yields (fun k=>cl env k eb [a0,a1,a2]) r:=Yields.call (fi:=j9) rfl rfl (fun H C=>zI H C a0 a1 a2) h
noncomputable def lj (H:List Item→CS→R) (x1:T) (x2:T) (x3:T):R:=H (bS fQ.body 0) ([(0,.val 24 x1),(1,.val 3 x2),(5,.val 3 x3)],[])
noncomputable abbrev qR (H:List Item→CS→R) (C:aF) (a0 a1:T):R:=
 lj H a0 a1 (T.int (0:Int))
theorem Aj (a0 a1:T) {r:List T} (h:Yields (fun k=>qR (hl env k fQ) (cl env k) a0 a1) r):Yields (fun k=>cl env k dY [a0,a1]) r:=Yields.call (fi:=fQ) (Z:=fun H C=>qR H C a0 a1) rfl rfl (fun H C=>by kernel_rfl) h
noncomputable abbrev kY (H:List Item→CS→R) (C:aF) (x1:T) (x2:T) (x3:T):R:=
 bif (decide (x3.i < (x1.es.length:Int))) then
 bif (decide (0≤x3.i)&&decide (x3.i.toNat < x1.es.length)) then
 bif ((x1.nth x3.i.toNat).i==x2.i) then
 some [(T.bool true)]
 else
 lj H x1 x2 (T.int (IntKind.wrap .i64 (x3.i+(1:Int))))
 else
 none
 else
 some [(T.bool false)]
theorem sf (x1:T) (x2:T) (x3:T) {r:List T} (h:Yields (fun k=>kY (hl env k fQ) (cl env k) x1 x2 x3) r):Yields (fun k=>lj (hl env k fQ) x1 x2 x3) r:=Yields.head (Z:=fun H C=>kY H C x1 x2 x3) (fun H C=>by kernel_rfl) h
noncomputable abbrev qz (H:List Item→CS→R) (C:aF) (a0:T):R:=
 bif (decide (([]:List T).length+((a0.fld 5).es).length≤LIM)) then
 obind (C gH [(T.sl (([]:List T)++(a0.fld 5).es))]) fun r1=>
 obind (C fJ [(a0.fld 1)]) fun r2=>
 obind (C fJ [(a0.fld 2)]) fun r3=>
 obind (C fJ [(a0.fld 3)]) fun r4=>
 obind (C me [(a0.fld 4)]) fun r5=>
 some [(T.st [(a0.fld 0),(rt r2 0),(rt r3 0),(rt r4 0),(rt r5 0),(T.sl (((([]:List T)++(a0.fld 5).es).take ((([]:List T)++(a0.fld 5).es).length)).drop 0))])]
 else
 none
theorem wc (H:List Item→CS→R) (C:aF) (a0:T):bI iR env H C [a0]=qz H C a0:=by kernel_rfl
theorem wq (a0:T) {r:List T} (h:Yields (fun k=>qz (hl env k iR) (cl env k) a0) r):Yields (fun k=>cl env k jq [a0]) r:=Yields.call (fi:=iR) rfl rfl (fun H C=>wc H C a0) h
noncomputable abbrev oU (H:List Item→CS→R) (C:aF) (a0:T):R:=
 obind (C mn [a0]) fun r1=>
 obind (C aG [(rt (r1.drop 1) 0),(T.int (4:Int))]) fun r2=>
 bif (decide ((rt r2 0).i > (0:Int))) then
 some [(rt r1 0),(rt (r2.drop 1) 0)]
 else
 bif ((((rt r1 0).es).length:Int)==(0:Int)) then
 some [(rt r1 0),(rt (r2.drop 1) 0)]
 else
 obind (C aG [(rt (r2.drop 1) 0),(T.int (((rt r1 0).es).length:Int))]) fun r3=>
 bif (decide (0≤(rt r3 0).i)&&decide (((rt r3 0).i).toNat < ((rt r1 0).es).length)) then
 bif ((((((rt r1 0).nth (((rt r3 0).i).toNat)).fld 1).es).length:Int)==(0:Int)) then
 some [(rt r1 0),(rt (r3.drop 1) 0)]
 else
 bif (decide (0≤(rt r3 0).i)&&decide (((rt r3 0).i).toNat < ((rt r1 0).es).length)) then
 obind (C aG [(rt (r3.drop 1) 0),(T.int (((((rt r1 0).nth (((rt r3 0).i).toNat)).fld 1).es).length:Int))]) fun r4=>
 bif (decide (0≤(rt r3 0).i)&&decide (((rt r3 0).i).toNat < ((rt r1 0).es).length)) then
 bif (decide (0≤(rt r4 0).i)&&decide (((rt r4 0).i).toNat < ((((rt r1 0).nth (((rt r3 0).i).toNat)).fld 1).es).length)) then
 obind (C aG [(rt (r4.drop 1) 0),(T.int (8:Int))]) fun r5=>
 bif (decide ((rt r5 0).i < (4:Int))) then
 obind (C aG [(rt (r5.drop 1) 0),(T.int (((((((rt r1 0).nth (((rt r3 0).i).toNat)).fld 1).nth (((rt r4 0).i).toNat)).fld 5).es).length:Int))]) fun r6=>
 obind (C fp [(rt (r6.drop 1) 0)]) fun r7=>
 bif (decide (0≤(rt r6 0).i)&&decide (((rt r6 0).i).toNat < ((((((rt r1 0).nth (((rt r3 0).i).toNat)).fld 1).nth (((rt r4 0).i).toNat)).fld 5).es).length)) then
 some [(T.put (rt r1 0) [.idx (((rt r3 0).i).toNat),.fld 1,.idx (((rt r4 0).i).toNat),.fld 5,.idx (((rt r6 0).i).toNat)] (rt r7 0)),(rt (r7.drop 1) 0)]
 else
 none
 else
 bif ((rt r5 0).i==(4:Int)) then
 bif (decide (0≤(0:Int))&&(decide ((0:Int)≤(IntKind.wrap .i64 ((((((((rt r1 0).nth (((rt r3 0).i).toNat)).fld 1).nth (((rt r4 0).i).toNat)).fld 5).es).length:Int) - (1:Int))))&&(decide ((IntKind.wrap .i64 ((((((((rt r1 0).nth (((rt r3 0).i).toNat)).fld 1).nth (((rt r4 0).i).toNat)).fld 5).es).length:Int) - (1:Int)))≤(((((((rt r1 0).nth (((rt r3 0).i).toNat)).fld 1).nth (((rt r4 0).i).toNat)).fld 5).es).length:Int))&&decide ((((((((rt r1 0).nth (((rt r3 0).i).toNat)).fld 1).nth (((rt r4 0).i).toNat)).fld 5).es).length:Int)≤(((((((rt r1 0).nth (((rt r3 0).i).toNat)).fld 1).nth (((rt r4 0).i).toNat)).fld 5).es).length:Int))))) then
 bif ((Nat.beq (((rt r3 0).i).toNat) (((rt r3 0).i).toNat))&&((Nat.beq (((rt r4 0).i).toNat) (((rt r4 0).i).toNat))&&true)) then
 some [(T.put (rt r1 0) [.idx (((rt r3 0).i).toNat),.fld 1,.idx (((rt r4 0).i).toNat),.fld 5] (T.sl ((((((((rt r1 0).nth (((rt r3 0).i).toNat)).fld 1).nth (((rt r4 0).i).toNat)).fld 5).es).take ((IntKind.wrap .i64 ((((((((rt r1 0).nth (((rt r3 0).i).toNat)).fld 1).nth (((rt r4 0).i).toNat)).fld 5).es).length:Int) - (1:Int))).toNat)).drop 0))),(rt (r5.drop 1) 0)]
 else
 none
 else
 none
 else
 bif ((rt r5 0).i==(5:Int)) then
 some [(T.put (rt r1 0) [.idx (((rt r3 0).i).toNat),.fld 1,.idx (((rt r4 0).i).toNat),.fld 4] (T.sl [])),(rt (r5.drop 1) 0)]
 else
 bif ((rt r5 0).i==(6:Int)) then
 obind (C d9 [(rt r1 0)]) fun r8=>
 obind (C cP [(rt (r5.drop 1) 0),(rt r8 0),(T.int (2:Int)),(T.bool true)]) fun r9=>
 some [(T.put (rt r1 0) [.idx (((rt r3 0).i).toNat),.fld 1,.idx (((rt r4 0).i).toNat),.fld 2] (rt r9 0)),(rt (r9.drop 1) 0)]
 else
 bif (decide (0≤(rt r3 0).i)&&decide (((rt r3 0).i).toNat < ((rt r1 0).es).length)) then
 obind (C d9 [(rt r1 0)]) fun r10=>
 obind (C ix [(rt (r5.drop 1) 0),(rt r10 0)]) fun r11=>
 bif (decide (((((rt r1 0).nth (((rt r3 0).i).toNat)).fld 0).es).length + [(T.st [((rt r11 0).fld 0),((rt r11 0).fld 1)])].length≤LIM)) then
 bif (decide (0≤(rt r3 0).i)&&decide (((rt r3 0).i).toNat < ((rt r1 0).es).length)) then
 bif ((Nat.beq (((rt r3 0).i).toNat) (((rt r3 0).i).toNat))&&true) then
 some [(T.put (rt r1 0) [.idx (((rt r3 0).i).toNat),.fld 0] (T.sl ((((rt r1 0).nth (((rt r3 0).i).toNat)).fld 0).es ++ [(T.st [((rt r11 0).fld 0),((rt r11 0).fld 1)])]))),(rt (r11.drop 1) 0)]
 else
 none
 else
 none
 else
 none
 else
 none
 else
 none
 else
 none
 else
 none
 else
 none
theorem yB (a0:T) {r:List T} (h:Yields (fun k=>oU (hl env k nM) (cl env k) a0) r):Yields (fun k=>cl env k oG [a0]) r:=Yields.call (fi:=nM) (Z:=fun H C=>oU H C a0) rfl rfl (fun H C=>by kernel_rfl) h
noncomputable abbrev oL (H:List Item→CS→R) (C:aF) (a0:T):R:=
 bif (decide (([]:List T).length+((a0.fld 1).es).length≤LIM)) then
 bif (decide (([]:List T).length+((a0.fld 2).es).length≤LIM)) then
 bif (decide (([]:List T).length+((a0.fld 3).es).length≤LIM)) then
 bif (decide (([]:List T).length+((a0.fld 4).es).length≤LIM)) then
 bif (decide (([]:List T).length+((a0.fld 5).es).length≤LIM)) then
 some [(T.st [(a0.fld 0),(T.sl (([]:List T)++(a0.fld 1).es)),(T.sl (([]:List T)++(a0.fld 2).es)),(T.sl (([]:List T)++(a0.fld 3).es)),(T.sl (([]:List T)++(a0.fld 4).es)),(T.sl (([]:List T)++(a0.fld 5).es))])]
 else
 none
 else
 none
 else
 none
 else
 none
 else
 none
theorem yq (a0:T) {r:List T} (h:Yields (fun k=>oL (hl env k nF) (cl env k) a0) r):Yields (fun k=>cl env k oD [a0]) r:=Yields.call (fi:=nF) (Z:=fun H C=>oL H C a0) rfl rfl (fun H C=>by kernel_rfl) h
noncomputable abbrev oS (H:List Item→CS→R) (C:aF) (a0 a1:T):R:=
 obind (C aG [a0,(T.int (a1.es.length:Int))]) fun r1=>
 bif (decide (0≤(rt r1 0).i)&&decide (((rt r1 0).i).toNat < a1.es.length)) then
 some [(a1.nth (((rt r1 0).i).toNat)),(rt (r1.drop 1) 0)]
 else
 none
theorem yz (a0 a1:T) {r:List T} (h:Yields (fun k=>oS (hl env k nK) (cl env k) a0 a1) r):Yields (fun k=>cl env k dH [a0,a1]) r:=Yields.call (fi:=nK) (Z:=fun H C=>oS H C a0 a1) rfl rfl (fun H C=>by kernel_rfl) h
noncomputable def Cl (H:List Item→CS→R) (x1:T) (x2:T) (x3:T) (x4:T):R:=H (bS sk.body 0) ([(0,.val 24 x1),(1,.val 3 x2),(7,.val 3 x3),(8,.val 3 x4)],[])
noncomputable abbrev Cw (H:List Item→CS→R) (C:aF) (a0 a1:T):R:=
 Cl H a0 a1 (T.int (a0.es.length:Int)) (T.int (0:Int))
theorem CH (a0 a1:T) {r:List T} (h:Yields (fun k=>Cw (hl env k sk) (cl env k) a0 a1) r):Yields (fun k=>cl env k Cv [a0,a1]) r:=Yields.call (fi:=sk) (Z:=fun H C=>Cw H C a0 a1) rfl rfl (fun H C=>by kernel_rfl) h
noncomputable abbrev Ck (H:List Item→CS→R) (C:aF) (x1:T) (x2:T) (x3:T) (x4:T):R:=
 bif (decide (x4.i < x3.i)) then
 bif (decide (0≤x4.i)&&decide (x4.i.toNat < x1.es.length)) then
 bif (x2.i==(x1.nth x4.i.toNat).i) then
 some [x4]
 else
 Cl H x1 x2 x3 (T.int (IntKind.wrap .i64 (x4.i+(1:Int))))
 else
 none
 else
 some [(T.int (-1:Int))]
theorem Cn (x1:T) (x2:T) (x3:T) (x4:T) {r:List T} (h:Yields (fun k=>Ck (hl env k sk) (cl env k) x1 x2 x3 x4) r):Yields (fun k=>Cl (hl env k sk) x1 x2 x3 x4) r:=Yields.head (Z:=fun H C=>Ck H C x1 x2 x3 x4) (fun H C=>by kernel_rfl) h
noncomputable abbrev kP (H:List Item→CS→R) (C:aF) (a0:T):R:=
 bif (decide (0≤(0:Int))&&(decide ((0:Int)≤(a0.es.length:Int))&&(decide ((a0.es.length:Int)≤(a0.es.length:Int))&&decide ((a0.es.length:Int)≤(a0.es.length:Int))))) then
 some [(T.sl ((a0.es.take a0.es.length).drop 0))]
 else
 none
theorem qX (H:List Item→CS→R) (C:aF) (a0:T):bI eJ env H C [a0]=kP H C a0:=by kernel_rfl
theorem qY (a0:T) {r:List T} (h:Yields (fun k=>kP (hl env k eJ) (cl env k) a0) r):Yields (fun k=>cl env k gH [a0]) r:=Yields.call (fi:=eJ) rfl rfl (fun H C=>qX H C a0) h
noncomputable abbrev pQ (H:List Item→CS→R) (C:aF) (a0:T):R:=
 bif (decide (([]:List T).length+a0.es.length≤LIM)) then
 obind (C iu [(T.sl (([]:List T)++a0.es))]) fun r1=>
 some [(T.sl (((([]:List T)++a0.es).take ((([]:List T)++a0.es).length)).drop 0))]
 else
 none
theorem uI (H:List Item→CS→R) (C:aF) (a0:T):bI gV env H C [a0]=pQ H C a0:=by kernel_rfl
theorem uN (a0:T) {r:List T} (h:Yields (fun k=>pQ (hl env k gV) (cl env k) a0) r):Yields (fun k=>cl env k fJ [a0]) r:=Yields.call (fi:=gV) rfl rfl (fun H C=>uI H C a0) h
noncomputable abbrev qA (H:List Item→CS→R) (C:aF) (a0:T):R:=
 bif (decide (([]:List T).length+a0.es.length≤LIM)) then
 obind (C kx [(T.sl (([]:List T)++a0.es))]) fun r1=>
 some [(T.sl (((([]:List T)++a0.es).take ((([]:List T)++a0.es).length)).drop 0))]
 else
 none
theorem wd (H:List Item→CS→R) (C:aF) (a0:T):bI iS env H C [a0]=qA H C a0:=by kernel_rfl
theorem ws (a0:T) {r:List T} (h:Yields (fun k=>qA (hl env k iS) (cl env k) a0) r):Yields (fun k=>cl env k me [a0]) r:=Yields.call (fi:=iS) rfl rfl (fun H C=>wd H C a0) h
noncomputable def da (H:List Item→CS→R) (x1:T) (x2:T) (x3:T):R:=H (bS dr.body 0) ([(0,.pref 70 100000 []),(3,.sref 33 3 []),(5,.val 3 x1)],[(100000,⟨70,x2,(.st [.fo,.dp]),true⟩),(3,⟨33,x3,(.sl (.st [(.sl (.st [.dp,.fz])),(.sl (.st [.dp,.fz,.fz,.fz,.fz,.dp])),.fz])),false⟩)])
noncomputable abbrev mE (H:List Item→CS→R) (C:aF) (a0:T):R:=
 obind (C aG [a0,(T.int (5:Int))]) fun r1=>
 bif (decide ((rt r1 0).i > (0:Int))) then
 obind (C qy []) fun r2=>
 obind (C eN [(rt r2 0)]) fun r3=>
 bif (decide (([]:List T).length + [(T.st [((rt r3 0).fld 0),((rt r3 0).fld 1),((rt r3 0).fld 2)])].length≤LIM)) then
 bif (decide ((rt r1 0).i > (3:Int))) then
 obind (C ml []) fun r4=>
 obind (C eN [(rt r4 0)]) fun r5=>
 bif (decide ((([]:List T) ++ [(T.st [((rt r3 0).fld 0),((rt r3 0).fld 1),((rt r3 0).fld 2)])]).length + [(T.st [((rt r5 0).fld 0),((rt r5 0).fld 1),((rt r5 0).fld 2)])].length≤LIM)) then
 obind (C aG [(rt (r1.drop 1) 0),(T.int (3:Int))]) fun r6=>
 da H (rt r6 0) (rt (r6.drop 1) 0) (T.sl ((([]:List T) ++ [(T.st [((rt r3 0).fld 0),((rt r3 0).fld 1),((rt r3 0).fld 2)])]) ++ [(T.st [((rt r5 0).fld 0),((rt r5 0).fld 1),((rt r5 0).fld 2)])]))
 else
 none
 else
 obind (C aG [(rt (r1.drop 1) 0),(T.int (3:Int))]) fun r7=>
 da H (rt r7 0) (rt (r7.drop 1) 0) (T.sl (([]:List T) ++ [(T.st [((rt r3 0).fld 0),((rt r3 0).fld 1),((rt r3 0).fld 2)])]))
 else
 none
 else
 bif (decide ((rt r1 0).i > (3:Int))) then
 obind (C ml []) fun r8=>
 obind (C eN [(rt r8 0)]) fun r9=>
 bif (decide (([]:List T).length + [(T.st [((rt r9 0).fld 0),((rt r9 0).fld 1),((rt r9 0).fld 2)])].length≤LIM)) then
 obind (C aG [(rt (r1.drop 1) 0),(T.int (3:Int))]) fun r10=>
 da H (rt r10 0) (rt (r10.drop 1) 0) (T.sl (([]:List T) ++ [(T.st [((rt r9 0).fld 0),((rt r9 0).fld 1),((rt r9 0).fld 2)])]))
 else
 none
 else
 obind (C aG [(rt (r1.drop 1) 0),(T.int (3:Int))]) fun r11=>
 da H (rt r11 0) (rt (r11.drop 1) 0) (T.sl [])
theorem wC (a0:T) {r:List T} (h:Yields (fun k=>mE (hl env k dr) (cl env k) a0) r):Yields (fun k=>cl env k mn [a0]) r:=Yields.call (fi:=dr) (Z:=fun H C=>mE H C a0) rfl rfl (fun H C=>by kernel_rfl) h
noncomputable abbrev gT (H:List Item→CS→R) (C:aF) (x1:T) (x2:T) (x3:T):R:=
 bif (decide (x1.i > (0:Int))) then
 bif (decide ((x3.es.length:Int) < (3:Int))) then
 obind (C lw [x2,x3]) fun r1=>
 bif (decide (x3.es.length + [(T.st [((rt r1 0).fld 0),((rt r1 0).fld 1),((rt r1 0).fld 2)])].length≤LIM)) then
 da H (T.int (IntKind.wrap .i64 (x1.i - (1:Int)))) (rt (r1.drop 1) 0) (T.sl (x3.es ++ [(T.st [((rt r1 0).fld 0),((rt r1 0).fld 1),((rt r1 0).fld 2)])]))
 else
 none
 else
 bif (decide ((x3.es.length:Int) > (1:Int))) then
 obind (C aG [x2,(T.int (3:Int))]) fun r2=>
 bif ((rt r2 0).i==(0:Int)) then
 bif (decide (0≤(0:Int))&&decide (0 < x3.es.length)) then
 some [(T.put x3 [.idx 0,.fld 2] (T.sl [(T.int (1:Int))])),(rt (r2.drop 1) 0)]
 else
 none
 else
 some [x3,(rt (r2.drop 1) 0)]
 else
 some [x3,x2]
 else
 bif (decide ((x3.es.length:Int) > (1:Int))) then
 obind (C aG [x2,(T.int (3:Int))]) fun r3=>
 bif ((rt r3 0).i==(0:Int)) then
 bif (decide (0≤(0:Int))&&decide (0 < x3.es.length)) then
 some [(T.put x3 [.idx 0,.fld 2] (T.sl [(T.int (1:Int))])),(rt (r3.drop 1) 0)]
 else
 none
 else
 some [x3,(rt (r3.drop 1) 0)]
 else
 some [x3,x2]
theorem pm (x1:T) (x2:T) (x3:T) {r:List T} (h:Yields (fun k=>gT (hl env k dr) (cl env k) x1 x2 x3) r):Yields (fun k=>da (hl env k dr) x1 x2 x3) r:=Yields.head (Z:=fun H C=>gT H C x1 x2 x3) (fun H C=>by kernel_rfl) h
noncomputable abbrev oR (H:List Item→CS→R) (C:aF) (a0:T):R:=
 obind (C nb []) fun r1=>
 obind (C aG [a0,(T.int (((rt r1 0).es).length:Int))]) fun r2=>
 bif (decide (0≤(rt r2 0).i)&&decide (((rt r2 0).i).toNat < ((rt r1 0).es).length)) then
 bif (decide ((((rt r1 0).nth (((rt r2 0).i).toNat)).fld 1).i > (0:Int))) then
 obind (C aG [(rt (r2.drop 1) 0),(T.int (bif decide ((12:Int) < (((rt r1 0).nth (((rt r2 0).i).toNat)).fld 1).i) then (12:Int) else (((rt r1 0).nth (((rt r2 0).i).toNat)).fld 1).i))]) fun r3=>
 bif (decide (((T.st (((rt r1 0).nth (((rt r2 0).i).toNat)).fs.set 1 (rt r3 0))).fld 2).i > (0:Int))) then
 obind (C aG [(rt (r3.drop 1) 0),((T.st (((rt r1 0).nth (((rt r2 0).i).toNat)).fs.set 1 (rt r3 0))).fld 2)]) fun r4=>
 some [(T.st ((T.st (((rt r1 0).nth (((rt r2 0).i).toNat)).fs.set 1 (rt r3 0))).fs.set 2 (rt r4 0))),(rt (r4.drop 1) 0)]
 else
 some [(T.st (((rt r1 0).nth (((rt r2 0).i).toNat)).fs.set 1 (rt r3 0))),(rt (r3.drop 1) 0)]
 else
 bif (decide ((((rt r1 0).nth (((rt r2 0).i).toNat)).fld 2).i > (0:Int))) then
 obind (C aG [(rt (r2.drop 1) 0),(((rt r1 0).nth (((rt r2 0).i).toNat)).fld 2)]) fun r5=>
 some [(T.st (((rt r1 0).nth (((rt r2 0).i).toNat)).fs.set 2 (rt r5 0))),(rt (r5.drop 1) 0)]
 else
 some [((rt r1 0).nth (((rt r2 0).i).toNat)),(rt (r2.drop 1) 0)]
 else
 none
theorem yx (a0:T) {r:List T} (h:Yields (fun k=>oR (hl env k nJ) (cl env k) a0) r):Yields (fun k=>cl env k fp [a0]) r:=Yields.call (fi:=nJ) (Z:=fun H C=>oR H C a0) rfl rfl (fun H C=>by kernel_rfl) h
noncomputable def gZ (H:List Item→CS→R) (x1:T) (x2:T) (x3:T) (x4:T) (x5:T):R:=H (bS dN.body 0) ([(0,.pref 70 100000 []),(1,.val 40 x1),(3,.val 4 x2),(9,.sref 23 9 []),(10,.val 3 x3)],[(100000,⟨70,x4,(.st [.fo,.dp]),true⟩),(9,⟨23,x5,(.sl .dp),false⟩)])
noncomputable abbrev mF (H:List Item→CS→R) (C:aF) (a0 a1 a2 a3:T):R:=
 obind (C aG [a0,(T.int (IntKind.wrap .i64 (a2.i+(1:Int))))]) fun r1=>
 gZ H a1 a3 (rt r1 0) (rt (r1.drop 1) 0) (T.sl [])
theorem wD (a0 a1 a2 a3:T) {r:List T} (h:Yields (fun k=>mF (hl env k dN) (cl env k) a0 a1 a2 a3) r):Yields (fun k=>cl env k cP [a0,a1,a2,a3]) r:=Yields.call (fi:=dN) (Z:=fun H C=>mF H C a0 a1 a2 a3) rfl rfl (fun H C=>by kernel_rfl) h
noncomputable abbrev gU (H:List Item→CS→R) (C:aF) (x1:T) (x2:T) (x3:T) (x4:T) (x5:T):R:=
 bif (decide (x3.i > (0:Int))) then
 obind (C hL [x4,x1,x2]) fun r1=>
 bif (decide (x5.es.length + [(rt r1 0)].length≤LIM)) then
 gZ H x1 x2 (T.int (IntKind.wrap .i64 (x3.i - (1:Int)))) (rt (r1.drop 1) 0) (T.sl (x5.es ++ [(rt r1 0)]))
 else
 none
 else
 some [x5,x4]
theorem pn (x1:T) (x2:T) (x3:T) (x4:T) (x5:T) {r:List T} (h:Yields (fun k=>gU (hl env k dN) (cl env k) x1 x2 x3 x4 x5) r):Yields (fun k=>gZ (hl env k dN) x1 x2 x3 x4 x5) r:=Yields.head (Z:=fun H C=>gU H C x1 x2 x3 x4 x5) (fun H C=>by kernel_rfl) h
noncomputable def jV (H:List Item→CS→R) (x1:T) (x2:T) (x3:T) (x4:T) (x5:T):R:=H (bS ci.body 0) ([(0,.pref 70 100000 []),(1,.val 40 x1),(4,.pref 64 4 []),(5,.pref 64 5 []),(6,.val 3 x2)],[(100000,⟨70,x3,(.st [.fo,.dp]),true⟩),(4,⟨64,x4,.dp,true⟩),(5,⟨64,x5,(.st [.dp,.dp]),true⟩)])
noncomputable def gB (H:List Item→CS→R) (x1:T) (x2:T) (x3:T) (x4:T) (x5:T):R:=H (bS ci.body 0) ([(0,.pref 70 100000 []),(1,.val 40 x1),(4,.pref 64 4 []),(5,.pref 64 5 []),(6,.val 3 x2)],[(100000,⟨70,x3,(.st [.fo,.dp]),true⟩),(4,⟨64,x4,.dp,true⟩),(5,⟨64,x5,(.st [.dp,(.sl .dp)]),true⟩)])
noncomputable abbrev lL (H:List Item→CS→R) (C:aF) (a0 a1:T):R:=
 obind (C dH [a0,(T.sl [(T.int (0:Int)),(T.int (4:Int)),(T.int (8:Int)),(T.int (12:Int)),(T.int (12:Int)),(T.int (7:Int)),(T.int (15:Int)),(T.int (3:Int)),(T.int (6:Int)),(T.int (2:Int))])]) fun r1=>
 obind (C aG [(rt (r1.drop 1) 0),(T.int (4:Int))]) fun r2=>
 jV H a1 (rt r2 0) (rt (r2.drop 1) 0) (T.st [(T.int (0:Int)),(T.sl [])]) (T.st [(rt r1 0),(T.sl [])])
theorem uZ (a0 a1:T) {r:List T} (h:Yields (fun k=>lL (hl env k ci) (cl env k) a0 a1) r):Yields (fun k=>cl env k ix [a0,a1]) r:=Yields.call (fi:=ci) (Z:=fun H C=>lL H C a0 a1) rfl rfl (fun H C=>by kernel_rfl) h
noncomputable abbrev gn (H:List Item→CS→R) (C:aF) (x1:T) (x2:T) (x3:T) (x4:T) (x5:T):R:=
 bif (decide (x2.i > (0:Int))) then
 obind (C hL [x3,x1,(T.bool false)]) fun r1=>
 bif (decide (((x5.fld 1).es).length + [(rt r1 0)].length≤LIM)) then
 gB H x1 (T.int (IntKind.wrap .i64 (x2.i - (1:Int)))) (rt (r1.drop 1) 0) x4 (T.st (x5.fs.set 1 (T.sl ((x5.fld 1).es ++ [(rt r1 0)]))))
 else
 none
 else
 obind (C aG [x3,(T.int (12:Int))]) fun r2=>
 bif ((rt r2 0).i==(0:Int)) then
 obind (C dH [(rt (r2.drop 1) 0),(T.sl [(T.int (-1:Int)),(T.int (16:Int)),(T.int (1:Int)),(T.int (5:Int))])]) fun r3=>
 obind (C aG [(rt (r3.drop 1) 0),(T.int (15:Int))]) fun r4=>
 bif ((rt r4 0).i==(0:Int)) then
 obind (C cB [(rt (r4.drop 1) 0),(T.sl [(T.str k_x),(T.str (⟨#[]⟩:ByteArray)),(T.str vS),(T.str sZ),(T.str k_S)])]) fun r5=>
 bif (decide ((((T.st (x5.fs.set 0 (rt r3 0))).fld 1).es).length + [(rt r5 0)].length≤LIM)) then
 some [(T.st [((T.st ((T.st (x5.fs.set 0 (rt r3 0))).fs.set 1 (T.sl (((T.st (x5.fs.set 0 (rt r3 0))).fld 1).es ++ [(rt r5 0)])))).fld 0),((T.st ((T.st (x5.fs.set 0 (rt r3 0))).fs.set 1 (T.sl (((T.st (x5.fs.set 0 (rt r3 0))).fld 1).es ++ [(rt r5 0)])))).fld 1)]),(rt (r5.drop 1) 0)]
 else
 none
 else
 some [(T.st [((T.st (x5.fs.set 0 (rt r3 0))).fld 0),((T.st (x5.fs.set 0 (rt r3 0))).fld 1)]),(rt (r4.drop 1) 0)]
 else
 obind (C aG [(rt (r2.drop 1) 0),(T.int (15:Int))]) fun r6=>
 bif ((rt r6 0).i==(0:Int)) then
 obind (C cB [(rt (r6.drop 1) 0),(T.sl [(T.str k_x),(T.str (⟨#[]⟩:ByteArray)),(T.str vS),(T.str sZ),(T.str k_S)])]) fun r7=>
 bif (decide (((x5.fld 1).es).length + [(rt r7 0)].length≤LIM)) then
 some [(T.st [((T.st (x5.fs.set 1 (T.sl ((x5.fld 1).es ++ [(rt r7 0)])))).fld 0),((T.st (x5.fs.set 1 (T.sl ((x5.fld 1).es ++ [(rt r7 0)])))).fld 1)]),(rt (r7.drop 1) 0)]
 else
 none
 else
 some [(T.st [(x5.fld 0),(x5.fld 1)]),(rt (r6.drop 1) 0)]
theorem ou (x1:T) (x2:T) (x3:T) (x4:T) (x5:T) {r:List T} (h:Yields (fun k=>gn (hl env k ci) (cl env k) x1 x2 x3 x4 x5) r):Yields (fun k=>jV (hl env k ci) x1 x2 x3 x4 x5) r:=Yields.head (Z:=fun H C=>gn H C x1 x2 x3 x4 x5) (fun H C=>by kernel_rfl) h
noncomputable abbrev gp (H:List Item→CS→R) (C:aF) (x1:T) (x2:T) (x3:T) (x4:T) (x5:T):R:=
 bif (decide (x2.i > (0:Int))) then
 obind (C hL [x3,x1,(T.bool false)]) fun r1=>
 bif (decide (((x5.fld 1).es).length + [(rt r1 0)].length≤LIM)) then
 gB H x1 (T.int (IntKind.wrap .i64 (x2.i - (1:Int)))) (rt (r1.drop 1) 0) x4 (T.st (x5.fs.set 1 (T.sl ((x5.fld 1).es ++ [(rt r1 0)]))))
 else
 none
 else
 obind (C aG [x3,(T.int (12:Int))]) fun r2=>
 bif ((rt r2 0).i==(0:Int)) then
 obind (C dH [(rt (r2.drop 1) 0),(T.sl [(T.int (-1:Int)),(T.int (16:Int)),(T.int (1:Int)),(T.int (5:Int))])]) fun r3=>
 obind (C aG [(rt (r3.drop 1) 0),(T.int (15:Int))]) fun r4=>
 bif ((rt r4 0).i==(0:Int)) then
 obind (C cB [(rt (r4.drop 1) 0),(T.sl [(T.str k_x),(T.str (⟨#[]⟩:ByteArray)),(T.str vS),(T.str sZ),(T.str k_S)])]) fun r5=>
 bif (decide ((((T.st (x5.fs.set 0 (rt r3 0))).fld 1).es).length + [(rt r5 0)].length≤LIM)) then
 some [(T.st [((T.st ((T.st (x5.fs.set 0 (rt r3 0))).fs.set 1 (T.sl (((T.st (x5.fs.set 0 (rt r3 0))).fld 1).es ++ [(rt r5 0)])))).fld 0),((T.st ((T.st (x5.fs.set 0 (rt r3 0))).fs.set 1 (T.sl (((T.st (x5.fs.set 0 (rt r3 0))).fld 1).es ++ [(rt r5 0)])))).fld 1)]),(rt (r5.drop 1) 0)]
 else
 none
 else
 some [(T.st [((T.st (x5.fs.set 0 (rt r3 0))).fld 0),((T.st (x5.fs.set 0 (rt r3 0))).fld 1)]),(rt (r4.drop 1) 0)]
 else
 obind (C aG [(rt (r2.drop 1) 0),(T.int (15:Int))]) fun r6=>
 bif ((rt r6 0).i==(0:Int)) then
 obind (C cB [(rt (r6.drop 1) 0),(T.sl [(T.str k_x),(T.str (⟨#[]⟩:ByteArray)),(T.str vS),(T.str sZ),(T.str k_S)])]) fun r7=>
 bif (decide (((x5.fld 1).es).length + [(rt r7 0)].length≤LIM)) then
 some [(T.st [((T.st (x5.fs.set 1 (T.sl ((x5.fld 1).es ++ [(rt r7 0)])))).fld 0),((T.st (x5.fs.set 1 (T.sl ((x5.fld 1).es ++ [(rt r7 0)])))).fld 1)]),(rt (r7.drop 1) 0)]
 else
 none
 else
 some [(T.st [(x5.fld 0),(x5.fld 1)]),(rt (r6.drop 1) 0)]
theorem ow (x1:T) (x2:T) (x3:T) (x4:T) (x5:T) {r:List T} (h:Yields (fun k=>gp (hl env k ci) (cl env k) x1 x2 x3 x4 x5) r):Yields (fun k=>gB (hl env k ci) x1 x2 x3 x4 x5) r:=Yields.head (Z:=fun H C=>gp H C x1 x2 x3 x4 x5) (fun H C=>by kernel_rfl) h
noncomputable abbrev mq (H:List Item→CS→R) (C:aF) (a0:T):R:=
 bif (decide (0≤(0:Int))&&(decide ((0:Int)≤(a0.es.length:Int))&&(decide ((a0.es.length:Int)≤(a0.es.length:Int))&&decide ((a0.es.length:Int)≤(a0.es.length:Int))))) then
 some [(T.sl ((a0.es.take a0.es.length).drop 0))]
 else
 none
theorem rU (H:List Item→CS→R) (C:aF) (a0:T):bI fc env H C [a0]=mq H C a0:=by kernel_rfl
theorem sa (a0:T) {r:List T} (h:Yields (fun k=>mq (hl env k fc) (cl env k) a0) r):Yields (fun k=>cl env k iu [a0]) r:=Yields.call (fi:=fc) rfl rfl (fun H C=>rU H C a0) h
noncomputable abbrev pa (H:List Item→CS→R) (C:aF) (a0:T):R:=
 bif (decide (0≤(0:Int))&&(decide ((0:Int)≤(a0.es.length:Int))&&(decide ((a0.es.length:Int)≤(a0.es.length:Int))&&decide ((a0.es.length:Int)≤(a0.es.length:Int))))) then
 some [(T.sl ((a0.es.take a0.es.length).drop 0))]
 else
 none
theorem tN (H:List Item→CS→R) (C:aF) (a0:T):bI gw env H C [a0]=pa H C a0:=by kernel_rfl
theorem tT (a0:T) {r:List T} (h:Yields (fun k=>pa (hl env k gw) (cl env k) a0) r):Yields (fun k=>cl env k kx [a0]) r:=Yields.call (fi:=gw) rfl rfl (fun H C=>tN H C a0) h
noncomputable abbrev ny (H:List Item→CS→R) (C:aF) (a0:T):R:=
 obind (C p9 [a0]) fun r1=>
 some [(T.st [((rt r1 0).fld 0),((rt r1 0).fld 1),((rt r1 0).fld 2)])]
theorem xw (a0:T) {r:List T} (h:Yields (fun k=>ny (hl env k mO) (cl env k) a0) r):Yields (fun k=>cl env k eN [a0]) r:=Yields.call (fi:=mO) (Z:=fun H C=>ny H C a0) rfl rfl (fun H C=>by kernel_rfl) h
noncomputable def eY (H:List Item→CS→R) (x1:T) (x2:T) (x3:T) (x4:T) (x5:T) (x6:T):R:=H (bS bi.body 0) ([(0,.pref 70 100000 []),(1,.val 33 x1),(4,.pref 47 4 []),(5,.pref 47 5 []),(6,.sref 40 6 []),(7,.val 3 x2)],[(100000,⟨70,x3,(.st [.fo,.dp]),true⟩),(4,⟨47,x4,.dp,true⟩),(5,⟨47,x5,(.st [.dp,.dp,.dp]),true⟩),(6,⟨40,x6,(.sl .fz),false⟩)])
noncomputable def jW (H:List Item→CS→R) (x1:T) (x2:T) (x3:T) (x4:T) (x5:T) (x6:T) (x7:T):R:=H (bS bi.body 1) ([(0,.pref 70 100000 []),(1,.val 33 x1),(4,.pref 47 4 []),(5,.pref 47 5 []),(6,.row 40 51 x2 (.sref 44 5 [.fld 0])),(10,.val 3 x3)],[(100000,⟨70,x4,(.st [.fo,.dp]),true⟩),(4,⟨47,x5,.dp,true⟩),(5,⟨47,x6,(.st [.dp,.dp,.dp]),true⟩),(51,⟨40,x7,.dead,false⟩)])
noncomputable def gC (H:List Item→CS→R) (x1:T) (x2:T) (x3:T) (x4:T) (x5:T) (x6:T) (x7:T):R:=H (bS bi.body 1) ([(0,.pref 70 100000 []),(1,.val 33 x1),(4,.pref 47 4 []),(5,.pref 47 5 []),(6,.row 40 51 x2 (.sref 44 5 [.fld 0])),(10,.val 3 x3)],[(100000,⟨70,x4,(.st [.fo,.dp]),true⟩),(4,⟨47,x5,.dp,true⟩),(5,⟨47,x6,(.st [.dp,(.sl .dp),.dp]),true⟩),(51,⟨40,x7,.dead,false⟩)])
noncomputable def t8 (H:List Item→CS→R) (x1:T) (x2:T) (x3:T) (x4:T) (x5:T) (x6:T) (x7:T):R:=H (bS bi.body 2) ([(0,.pref 70 100000 []),(1,.val 33 x1),(4,.pref 47 4 []),(5,.pref 47 5 []),(11,.row 33 75 x2 (.agg 47 [.sref 44 5 [.fld 0],.sref 45 5 [.fld 1],.sref 24 5 [.fld 2]])),(12,.val 3 x3)],[(100000,⟨70,x4,(.st [.fo,.dp]),true⟩),(4,⟨47,x5,.dp,true⟩),(5,⟨47,x6,(.st [.dp,.dp,.dp]),true⟩),(75,⟨33,x7,.dead,false⟩)])
noncomputable def gD (H:List Item→CS→R) (x1:T) (x2:T) (x3:T) (x4:T) (x5:T) (x6:T) (x7:T):R:=H (bS bi.body 2) ([(0,.pref 70 100000 []),(1,.val 33 x1),(4,.pref 47 4 []),(5,.pref 47 5 []),(11,.row 33 75 x2 (.agg 47 [.sref 44 5 [.fld 0],.sref 45 5 [.fld 1],.sref 24 5 [.fld 2]])),(12,.val 3 x3)],[(100000,⟨70,x4,(.st [.fo,.dp]),true⟩),(4,⟨47,x5,.dp,true⟩),(5,⟨47,x6,(.st [.dp,(.sl .dp),.dp]),true⟩),(75,⟨33,x7,.dead,false⟩)])
noncomputable abbrev lN (H:List Item→CS→R) (C:aF) (a0 a1:T):R:=
 obind (C d9 [a1]) fun r1=>
 obind (C aG [a0,(T.int (4:Int))]) fun r2=>
 eY H a1 (rt r2 0) (rt (r2.drop 1) 0) (T.st [(T.sl []),(T.sl []),(T.sl [])]) (T.st [(T.sl []),(T.sl []),(T.sl [])]) (rt r1 0)
theorem v6 (a0 a1:T) {r:List T} (h:Yields (fun k=>lN (hl env k bi) (cl env k) a0 a1) r):Yields (fun k=>cl env k lw [a0,a1]) r:=Yields.call (fi:=bi) (Z:=fun H C=>lN H C a0 a1) rfl rfl (fun H C=>by kernel_rfl) h
noncomputable abbrev gt (H:List Item→CS→R) (C:aF) (x1:T) (x2:T) (x3:T) (x4:T) (x5:T) (x6:T):R:=
 bif (decide (x2.i > (0:Int))) then
 bif (decide (([]:List T).length+x6.es.length≤LIM)) then
 bif (decide ((([]:List T)++x6.es).length+1≤LIM)) then
 obind (C ix [x3,(T.sl ((([]:List T)++x6.es) ++ [(x5.fld 0)]))]) fun r1=>
 bif (decide (((x5.fld 0).es).length≤LIM)) then
 bif (decide (((x5.fld 0).es).length + [(T.st [((rt r1 0).fld 0),((rt r1 0).fld 1)])].length≤LIM)) then
 bif (decide (([]:List T).length+x6.es.length≤LIM)) then
 bif (decide ((([]:List T)++x6.es).length+1≤LIM)) then
 obind (C na [(T.sl ((([]:List T)++x6.es) ++ [(T.sl ((x5.fld 0).es ++ [(T.st [((rt r1 0).fld 0),((rt r1 0).fld 1)])]))]))]) fun r2=>
 bif (rt r2 0).b then
 eY H x1 (T.int (IntKind.wrap .i64 (x2.i - (1:Int)))) (rt (r1.drop 1) 0) x4 (T.st (x5.fs.set 0 (T.sl ((x5.fld 0).es ++ [(T.st [((rt r1 0).fld 0),((rt r1 0).fld 1)])])))) x6
 else
 eY H x1 (T.int (IntKind.wrap .i64 (x2.i - (1:Int)))) (rt (r1.drop 1) 0) x4 x5 x6
 else
 none
 else
 none
 else
 none
 else
 none
 else
 none
 else
 none
 else
 bif (decide (x6.es.length+1≤LIM)) then
 obind (C aG [x3,(T.int (3:Int))]) fun r3=>
 jW H x1 x6 (T.int (IntKind.wrap .i64 ((1:Int)+(rt r3 0).i))) (rt (r3.drop 1) 0) x4 x5 x6
 else
 none
theorem oA (x1:T) (x2:T) (x3:T) (x4:T) (x5:T) (x6:T) {r:List T} (h:Yields (fun k=>gt (hl env k bi) (cl env k) x1 x2 x3 x4 x5 x6) r):Yields (fun k=>eY (hl env k bi) x1 x2 x3 x4 x5 x6) r:=Yields.head (Z:=fun H C=>gt H C x1 x2 x3 x4 x5 x6) (fun H C=>by kernel_rfl) h
noncomputable abbrev jK (H:List Item→CS→R) (C:aF) (x1:T) (x2:T) (x3:T) (x4:T) (x5:T) (x6:T) (x7:T):R:=
 bif (decide (x3.i > (0:Int))) then
 obind (C iy [x4,(T.sl (x2.es ++ [(x6.fld 0)])),(T.int (((x6.fld 0).es).length:Int))]) fun r1=>
 bif (decide (((x6.fld 1).es).length + [(T.st [((rt r1 0).fld 0),((rt r1 0).fld 1),((rt r1 0).fld 2),((rt r1 0).fld 3),((rt r1 0).fld 4),((rt r1 0).fld 5)])].length≤LIM)) then
 gC H x1 x2 (T.int (IntKind.wrap .i64 (x3.i - (1:Int)))) (rt (r1.drop 1) 0) x5 (T.st (x6.fs.set 1 (T.sl ((x6.fld 1).es ++ [(T.st [((rt r1 0).fld 0),((rt r1 0).fld 1),((rt r1 0).fld 2),((rt r1 0).fld 3),((rt r1 0).fld 4),((rt r1 0).fld 5)])])))) x7
 else
 none
 else
 bif (decide (([]:List T).length+x1.es.length≤LIM)) then
 bif (decide ((([]:List T)++x1.es).length+1≤LIM)) then
 t8 H x1 (T.sl (([]:List T)++x1.es)) (T.int (0:Int)) x4 x5 x6 (T.sl (([]:List T)++x1.es))
 else
 none
 else
 none
theorem tr (x1:T) (x2:T) (x3:T) (x4:T) (x5:T) (x6:T) (x7:T) {r:List T} (h:Yields (fun k=>jK (hl env k bi) (cl env k) x1 x2 x3 x4 x5 x6 x7) r):Yields (fun k=>jW (hl env k bi) x1 x2 x3 x4 x5 x6 x7) r:=Yields.head (Z:=fun H C=>jK H C x1 x2 x3 x4 x5 x6 x7) (fun H C=>by kernel_rfl) h
noncomputable abbrev gu (H:List Item→CS→R) (C:aF) (x1:T) (x2:T) (x3:T) (x4:T) (x5:T) (x6:T) (x7:T):R:=
 bif (decide (x3.i > (0:Int))) then
 obind (C iy [x4,(T.sl (x2.es ++ [(x6.fld 0)])),(T.int (((x6.fld 0).es).length:Int))]) fun r1=>
 bif (decide (((x6.fld 1).es).length + [(T.st [((rt r1 0).fld 0),((rt r1 0).fld 1),((rt r1 0).fld 2),((rt r1 0).fld 3),((rt r1 0).fld 4),((rt r1 0).fld 5)])].length≤LIM)) then
 gC H x1 x2 (T.int (IntKind.wrap .i64 (x3.i - (1:Int)))) (rt (r1.drop 1) 0) x5 (T.st (x6.fs.set 1 (T.sl ((x6.fld 1).es ++ [(T.st [((rt r1 0).fld 0),((rt r1 0).fld 1),((rt r1 0).fld 2),((rt r1 0).fld 3),((rt r1 0).fld 4),((rt r1 0).fld 5)])])))) x7
 else
 none
 else
 bif (decide (([]:List T).length+x1.es.length≤LIM)) then
 bif (decide ((([]:List T)++x1.es).length+1≤LIM)) then
 gD H x1 (T.sl (([]:List T)++x1.es)) (T.int (0:Int)) x4 x5 x6 (T.sl (([]:List T)++x1.es))
 else
 none
 else
 none
theorem oB (x1:T) (x2:T) (x3:T) (x4:T) (x5:T) (x6:T) (x7:T) {r:List T} (h:Yields (fun k=>gu (hl env k bi) (cl env k) x1 x2 x3 x4 x5 x6 x7) r):Yields (fun k=>gC (hl env k bi) x1 x2 x3 x4 x5 x6 x7) r:=Yields.head (Z:=fun H C=>gu H C x1 x2 x3 x4 x5 x6 x7) (fun H C=>by kernel_rfl) h
noncomputable abbrev gv (H:List Item→CS→R) (C:aF) (x1:T) (x2:T) (x3:T) (x4:T) (x5:T) (x6:T) (x7:T):R:=
 bif (decide (x3.i < (((x6.fld 1).es).length:Int))) then
 bif (decide (0≤x3.i)&&decide (x3.i.toNat < ((x6.fld 1).es).length)) then
 obind (C ng [x4,(T.sl (x2.es ++ [(T.st [(x6.fld 0),(x6.fld 1),(x6.fld 2)])])),(T.int (x1.es.length:Int)),(T.st [(((x6.fld 1).nth x3.i.toNat).fld 0),(((x6.fld 1).nth x3.i.toNat).fld 1),(((x6.fld 1).nth x3.i.toNat).fld 2),(((x6.fld 1).nth x3.i.toNat).fld 3),(((x6.fld 1).nth x3.i.toNat).fld 4),(((x6.fld 1).nth x3.i.toNat).fld 5)])]) fun r1=>
 bif (decide (0≤x3.i)&&decide (x3.i.toNat < ((x6.fld 1).es).length)) then
 gD H x1 x2 (T.int (IntKind.wrap .i64 (x3.i+(1:Int)))) (rt (r1.drop 1) 0) x5 (T.put x6 [.fld 1,.idx x3.i.toNat,.fld 5] (rt r1 0)) x7
 else
 none
 else
 none
 else
 some [(T.st [(x6.fld 0),(x6.fld 1),(x6.fld 2)]),x4]
theorem oC (x1:T) (x2:T) (x3:T) (x4:T) (x5:T) (x6:T) (x7:T) {r:List T} (h:Yields (fun k=>gv (hl env k bi) (cl env k) x1 x2 x3 x4 x5 x6 x7) r):Yields (fun k=>gD (hl env k bi) x1 x2 x3 x4 x5 x6 x7) r:=Yields.head (Z:=fun H C=>gv H C x1 x2 x3 x4 x5 x6 x7) (fun H C=>by kernel_rfl) h
noncomputable abbrev nk (H:List Item→CS→R) (C:aF)  : R:=
 some [(T.sl [(T.st [(T.str (⟨#[110,117,109]⟩:ByteArray)),(T.int (1000001:Int)),(T.int (0:Int))]),(T.st [(T.str (⟨#[116,114,117,101]⟩:ByteArray)),(T.int (0:Int)),(T.int (0:Int))]),(T.st [(T.str (⟨#[102,97,108,115,101]⟩:ByteArray)),(T.int (0:Int)),(T.int (0:Int))]),(T.st [(T.str (⟨#[109,101]⟩:ByteArray)),(T.int (0:Int)),(T.int (0:Int))]),(T.st [(T.str (⟨#[97,100,100]⟩:ByteArray)),(T.int (0:Int)),(T.int (0:Int))]),(T.st [(T.str (⟨#[115,117,98]⟩:ByteArray)),(T.int (0:Int)),(T.int (0:Int))]),(T.st [(T.str (⟨#[109,117,108]⟩:ByteArray)),(T.int (0:Int)),(T.int (0:Int))]),(T.st [(T.str (⟨#[100,105,118]⟩:ByteArray)),(T.int (0:Int)),(T.int (0:Int))]),(T.st [(T.str (⟨#[109,111,100]⟩:ByteArray)),(T.int (0:Int)),(T.int (0:Int))]),(T.st [(T.str (⟨#[108,101,115,115]⟩:ByteArray)),(T.int (0:Int)),(T.int (0:Int))]),(T.st [(T.str (⟨#[115,97,109,101]⟩:ByteArray)),(T.int (0:Int)),(T.int (0:Int))]),(T.st [(T.str (⟨#[97,110,100]⟩:ByteArray)),(T.int (0:Int)),(T.int (0:Int))]),(T.st [(T.str (⟨#[111,114]⟩:ByteArray)),(T.int (0:Int)),(T.int (0:Int))]),(T.st [(T.str (⟨#[110,111,116]⟩:ByteArray)),(T.int (0:Int)),(T.int (0:Int))]),(T.st [(T.str (⟨#[99,111,112,121]⟩:ByteArray)),(T.int (6:Int)),(T.int (0:Int))]),(T.st [(T.str (⟨#[109,111,118,101]⟩:ByteArray)),(T.int (6:Int)),(T.int (0:Int))]),(T.st [(T.str (⟨#[112,117,116]⟩:ByteArray)),(T.int (6:Int)),(T.int (0:Int))]),(T.st [(T.str (⟨#[100,114,111,112]⟩:ByteArray)),(T.int (0:Int)),(T.int (0:Int))]),(T.st [(T.str (⟨#[112,97,99,107]⟩:ByteArray)),(T.int (3:Int)),(T.int (0:Int))]),(T.st [(T.str (⟨#[117,110,112,97,99,107]⟩:ByteArray)),(T.int (3:Int)),(T.int (0:Int))]),(T.st [(T.str (⟨#[108,101,110,100]⟩:ByteArray)),(T.int (6:Int)),(T.int (0:Int))]),(T.st [(T.str (⟨#[108,101,110,100,119]⟩:ByteArray)),(T.int (6:Int)),(T.int (0:Int))]),(T.st [(T.str (⟨#[102,105,101,108,100]⟩:ByteArray)),(T.int (3:Int)),(T.int (3:Int))]),(T.st [(T.str (⟨#[114,101,97,100]⟩:ByteArray)),(T.int (0:Int)),(T.int (0:Int))]),(T.st [(T.str (⟨#[112,101,101,107]⟩:ByteArray)),(T.int (0:Int)),(T.int (0:Int))]),(T.st [(T.str (⟨#[119,114,105,116,101]⟩:ByteArray)),(T.int (0:Int)),(T.int (0:Int))]),(T.st [(T.str (⟨#[102,114,101,101,122,101]⟩:ByteArray)),(T.int (0:Int)),(T.int (0:Int))]),(T.st [(T.str (⟨#[107,101,101,112]⟩:ByteArray)),(T.int (3:Int)),(T.int (0:Int))]),(T.st [(T.str (⟨#[116,97,107,101]⟩:ByteArray)),(T.int (3:Int)),(T.int (0:Int))]),(T.st [(T.str (⟨#[104,97,115]⟩:ByteArray)),(T.int (3:Int)),(T.int (0:Int))]),(T.st [(T.str (⟨#[115,101,101]⟩:ByteArray)),(T.int (3:Int)),(T.int (0:Int))]),(T.st [(T.str (⟨#[115,101,101,119]⟩:ByteArray)),(T.int (3:Int)),(T.int (0:Int))]),(T.st [(T.str (⟨#[106,117,109,112]⟩:ByteArray)),(T.int (40:Int)),(T.int (0:Int))]),(T.st [(T.str (⟨#[122,101,114,111]⟩:ByteArray)),(T.int (40:Int)),(T.int (0:Int))]),(T.st [(T.str (⟨#[99,97,108,108]⟩:ByteArray)),(T.int (3:Int)),(T.int (4:Int))]),(T.st [(T.str (⟨#[114,101,116]⟩:ByteArray)),(T.int (0:Int)),(T.int (0:Int))]),(T.st [(T.str (⟨#[102,97,105,108]⟩:ByteArray)),(T.int (0:Int)),(T.int (0:Int))])])]
theorem xa (H:List Item→CS→R) (C:aF)  : bI jD env H C []=nk H C :=by kernel_rfl
theorem xm  {r:List T} (h:Yields (fun k=>nk (hl env k jD) (cl env k) ) r):Yields (fun k=>cl env k nb []) r:=Yields.call (fi:=jD) rfl rfl (fun H C=>xa H C ) h
noncomputable abbrev nw (H:List Item→CS→R) (C:aF) (a0 a1 a2:T):R:=
 obind (C cB [a0,(T.sl [(T.str k_n),(T.str k_b),(T.str k_o),(T.str k_n)])]) fun r1=>
 obind (C aG [(rt (r1.drop 1) 0),(T.int (2:Int))]) fun r2=>
 bif ((rt r2 0).i==(0:Int)) then
 bif (decide ((a1.es.length:Int) > (0:Int))) then
 obind (C aG [(rt (r2.drop 1) 0),(T.int (a1.es.length:Int))]) fun r3=>
 bif (decide (0≤(rt r3 0).i)&&decide (((rt r3 0).i).toNat < a1.es.length)) then
 bif (decide ((((a1.nth (((rt r3 0).i).toNat)).es).length:Int) > (0:Int))) then
 obind (C dE [(rt r3 0)]) fun r4=>
 bif (decide (k_S.size+((rt r4 0).s).size≤LIM)) then
 bif (decide (0≤(rt r3 0).i)&&decide (((rt r3 0).i).toNat < a1.es.length)) then
 obind (C aG [(rt (r3.drop 1) 0),(T.int (((a1.nth (((rt r3 0).i).toNat)).es).length:Int))]) fun r5=>
 obind (C dE [(rt r5 0)]) fun r6=>
 bif (decide ((k_S++((rt r4 0).s)).size+((rt r6 0).s).size≤LIM)) then
 bif a2.b then
 obind (C aG [(rt (r5.drop 1) 0),(T.int (4:Int))]) fun r7=>
 bif ((rt r7 0).i==(0:Int)) then
 obind (C cB [(rt (r7.drop 1) 0),(T.sl [(T.str cX),(T.str cI)])]) fun r8=>
 bif (decide (((rt r8 0).s).size+((k_S++((rt r4 0).s))++((rt r6 0).s)).size≤LIM)) then
 some [(T.str (((rt r8 0).s)++((k_S++((rt r4 0).s))++((rt r6 0).s)))),(rt (r8.drop 1) 0)]
 else
 none
 else
 some [(T.str ((k_S++((rt r4 0).s))++((rt r6 0).s))),(rt (r7.drop 1) 0)]
 else
 some [(T.str ((k_S++((rt r4 0).s))++((rt r6 0).s))),(rt (r5.drop 1) 0)]
 else
 none
 else
 none
 else
 none
 else
 bif a2.b then
 obind (C aG [(rt (r3.drop 1) 0),(T.int (4:Int))]) fun r9=>
 bif ((rt r9 0).i==(0:Int)) then
 obind (C cB [(rt (r9.drop 1) 0),(T.sl [(T.str cX),(T.str cI)])]) fun r10=>
 bif (decide (((rt r10 0).s).size+((rt r1 0).s).size≤LIM)) then
 some [(T.str (((rt r10 0).s)++((rt r1 0).s))),(rt (r10.drop 1) 0)]
 else
 none
 else
 some [(rt r1 0),(rt (r9.drop 1) 0)]
 else
 some [(rt r1 0),(rt (r3.drop 1) 0)]
 else
 none
 else
 bif a2.b then
 obind (C aG [(rt (r2.drop 1) 0),(T.int (4:Int))]) fun r11=>
 bif ((rt r11 0).i==(0:Int)) then
 obind (C cB [(rt (r11.drop 1) 0),(T.sl [(T.str cX),(T.str cI)])]) fun r12=>
 bif (decide (((rt r12 0).s).size+((rt r1 0).s).size≤LIM)) then
 some [(T.str (((rt r12 0).s)++((rt r1 0).s))),(rt (r12.drop 1) 0)]
 else
 none
 else
 some [(rt r1 0),(rt (r11.drop 1) 0)]
 else
 some [(rt r1 0),(rt (r2.drop 1) 0)]
 else
 bif a2.b then
 obind (C aG [(rt (r2.drop 1) 0),(T.int (4:Int))]) fun r13=>
 bif ((rt r13 0).i==(0:Int)) then
 obind (C cB [(rt (r13.drop 1) 0),(T.sl [(T.str cX),(T.str cI)])]) fun r14=>
 bif (decide (((rt r14 0).s).size+((rt r1 0).s).size≤LIM)) then
 some [(T.str (((rt r14 0).s)++((rt r1 0).s))),(rt (r14.drop 1) 0)]
 else
 none
 else
 some [(rt r1 0),(rt (r13.drop 1) 0)]
 else
 some [(rt r1 0),(rt (r2.drop 1) 0)]
theorem xv (a0 a1 a2:T) {r:List T} (h:Yields (fun k=>nw (hl env k mN) (cl env k) a0 a1 a2) r):Yields (fun k=>cl env k hL [a0,a1,a2]) r:=Yields.call (fi:=mN) (Z:=fun H C=>nw H C a0 a1 a2) rfl rfl (fun H C=>by kernel_rfl) h
noncomputable abbrev nr (H:List Item→CS→R) (C:aF) (a0 a1:T):R:=
 obind (C aG [a0,(T.int (a1.es.length:Int))]) fun r1=>
 bif (decide (0≤(rt r1 0).i)&&decide (((rt r1 0).i).toNat < a1.es.length)) then
 some [(a1.nth (((rt r1 0).i).toNat)),(rt (r1.drop 1) 0)]
 else
 none
theorem xr (a0 a1:T) {r:List T} (h:Yields (fun k=>nr (hl env k mM) (cl env k) a0 a1) r):Yields (fun k=>cl env k cB [a0,a1]) r:=Yields.call (fi:=mM) (Z:=fun H C=>nr H C a0 a1) rfl rfl (fun H C=>by kernel_rfl) h
noncomputable def n7 (H:List Item→CS→R) (x1:T) (x2:T) (x3:T) (x4:T) (x5:T) (x6:T):R:=H (bS cn.body 0) ([(0,.val 9 x1),(2,.pref 47 2 []),(4,.pref 47 4 []),(5,.sref 23 5 []),(6,.val 4 x2),(7,.val 3 x3)],[(2,⟨47,x4,.dp,true⟩),(4,⟨47,x5,(.st [.dp,.dp,.dp]),true⟩),(5,⟨23,x6,.dp,false⟩)])
noncomputable def jp (H:List Item→CS→R) (x1:T) (x2:T) (x3:T) (x4:T) (x5:T) (x6:T):R:=H (bS cn.body 0) ([(0,.val 9 x1),(2,.pref 47 2 []),(4,.pref 47 4 []),(5,.sref 23 5 []),(6,.val 4 x2),(7,.val 3 x3)],[(2,⟨47,x4,.dp,true⟩),(4,⟨47,x5,(.st [(.sl (.st [.dp,.fz])),(.sl (.st [.dp,.fz,.fz,.fz,.fz,.dp])),.fz]),true⟩),(5,⟨23,x6,.dp,false⟩)])
noncomputable abbrev kz (H:List Item→CS→R) (C:aF) (a0:T):R:=
 bif (decide ((a0.s.size:Int) > (4000:Int))) then
 some [(T.st [(T.sl []),(T.sl []),(T.sl [])]),(T.bool false)]
 else
 obind (C qZ [a0]) fun r1=>
 n7 H a0 (rt r1 1) (T.int (0:Int)) (T.st [(T.sl []),(T.sl []),(T.sl [])]) (T.st [(T.sl []),(T.sl []),(T.sl [])]) (rt r1 0)
theorem tU (a0:T) {r:List T} (h:Yields (fun k=>kz (hl env k cn) (cl env k) a0) r):Yields (fun k=>cl env k p9 [a0]) r:=Yields.call (fi:=cn) (Z:=fun H C=>kz H C a0) rfl rfl (fun H C=>by kernel_rfl) h
noncomputable abbrev eK (H:List Item→CS→R) (C:aF) (x1:T) (x2:T) (x3:T) (x4:T) (x5:T) (x6:T):R:=
 bif (decide (x3.i < (x6.es.length:Int))) then
 bif x2.b then
 bif (decide (0≤x3.i)&&decide (x3.i.toNat < x6.es.length)) then
 obind (C aI [(T.st [(x5.fld 0),(x5.fld 1),(x5.fld 2)]),(x6.nth x3.i.toNat)]) fun r1=>
 jp H x1 (rt r1 1) (T.int (IntKind.wrap .i64 (x3.i+(1:Int)))) x4 (T.st [((rt r1 0).fld 0),((rt r1 0).fld 1),((rt r1 0).fld 2)]) x6
 else
 none
 else
 bif (!x2.b) then
 some [(T.st [(T.sl []),(T.sl []),(T.sl [])]),(T.bool false)]
 else
 obind (C eA [(T.st [(x5.fld 0),(x5.fld 1),(x5.fld 2)])]) fun r2=>
 bif (!(((rt r2 0).s).toList==x1.s.toList)) then
 some [(T.st [(T.sl []),(T.sl []),(T.sl [])]),(T.bool false)]
 else
 some [(T.st [(x5.fld 0),(x5.fld 1),(x5.fld 2)]),(T.bool true)]
 else
 bif (!x2.b) then
 some [(T.st [(T.sl []),(T.sl []),(T.sl [])]),(T.bool false)]
 else
 obind (C eA [(T.st [(x5.fld 0),(x5.fld 1),(x5.fld 2)])]) fun r3=>
 bif (!(((rt r3 0).s).toList==x1.s.toList)) then
 some [(T.st [(T.sl []),(T.sl []),(T.sl [])]),(T.bool false)]
 else
 some [(T.st [(x5.fld 0),(x5.fld 1),(x5.fld 2)]),(T.bool true)]
theorem sq (x1:T) (x2:T) (x3:T) (x4:T) (x5:T) (x6:T) {r:List T} (h:Yields (fun k=>eK (hl env k cn) (cl env k) x1 x2 x3 x4 x5 x6) r):Yields (fun k=>n7 (hl env k cn) x1 x2 x3 x4 x5 x6) r:=Yields.head (Z:=fun H C=>eK H C x1 x2 x3 x4 x5 x6) (fun H C=>by kernel_rfl) h
noncomputable abbrev mZ (H:List Item→CS→R) (C:aF) (x1:T) (x2:T) (x3:T) (x4:T) (x5:T) (x6:T):R:=
 bif (decide (x3.i < (x6.es.length:Int))) then
 bif x2.b then
 bif (decide (0≤x3.i)&&decide (x3.i.toNat < x6.es.length)) then
 obind (C aI [(T.st [(x5.fld 0),(x5.fld 1),(x5.fld 2)]),(x6.nth x3.i.toNat)]) fun r1=>
 jp H x1 (rt r1 1) (T.int (IntKind.wrap .i64 (x3.i+(1:Int)))) x4 (T.st [((rt r1 0).fld 0),((rt r1 0).fld 1),((rt r1 0).fld 2)]) x6
 else
 none
 else
 bif (!x2.b) then
 some [(T.st [(T.sl []),(T.sl []),(T.sl [])]),(T.bool false)]
 else
 obind (C eA [(T.st [(x5.fld 0),(x5.fld 1),(x5.fld 2)])]) fun r2=>
 bif (!(((rt r2 0).s).toList==x1.s.toList)) then
 some [(T.st [(T.sl []),(T.sl []),(T.sl [])]),(T.bool false)]
 else
 some [(T.st [(x5.fld 0),(x5.fld 1),(x5.fld 2)]),(T.bool true)]
 else
 bif (!x2.b) then
 some [(T.st [(T.sl []),(T.sl []),(T.sl [])]),(T.bool false)]
 else
 obind (C eA [(T.st [(x5.fld 0),(x5.fld 1),(x5.fld 2)])]) fun r3=>
 bif (!(((rt r3 0).s).toList==x1.s.toList)) then
 some [(T.st [(T.sl []),(T.sl []),(T.sl [])]),(T.bool false)]
 else
 some [(T.st [(x5.fld 0),(x5.fld 1),(x5.fld 2)]),(T.bool true)]
theorem sr (x1:T) (x2:T) (x3:T) (x4:T) (x5:T) (x6:T) {r:List T} (h:Yields (fun k=>mZ (hl env k cn) (cl env k) x1 x2 x3 x4 x5 x6) r):Yields (fun k=>jp (hl env k cn) x1 x2 x3 x4 x5 x6) r:=Yields.head (Z:=fun H C=>mZ H C x1 x2 x3 x4 x5 x6) (fun H C=>by kernel_rfl) h
noncomputable abbrev ni (H:List Item→CS→R) (C:aF) (a0:T):R:=
 obind (C qx [a0]) fun r1=>
 some [(T.bool (decide ((rt r1 0).i < (0:Int))))]
theorem wY (H:List Item→CS→R) (C:aF) (a0:T):bI jC env H C [a0]=ni H C a0:=by kernel_rfl
theorem xk (a0:T) {r:List T} (h:Yields (fun k=>ni (hl env k jC) (cl env k) a0) r):Yields (fun k=>cl env k na [a0]) r:=Yields.call (fi:=jC) rfl rfl (fun H C=>wY H C a0) h
noncomputable def dU (H:List Item→CS→R) (x1:T) (x2:T) (x3:T) (x4:T) (x5:T):R:=H (bS cj.body 0) ([(0,.pref 70 100000 []),(2,.val 3 x1),(6,.pref 27 6 []),(7,.pref 27 7 []),(9,.val 3 x2)],[(100000,⟨70,x3,(.st [.fo,.dp]),true⟩),(6,⟨27,x4,.dp,true⟩),(7,⟨27,x5,(.st [.dp,.dp,.dp,.dp,.dp,.dp]),true⟩)])
noncomputable def eX (H:List Item→CS→R) (x1:T) (x2:T) (x3:T) (x4:T) (x5:T):R:=H (bS cj.body 0) ([(0,.pref 70 100000 []),(2,.val 3 x1),(6,.pref 27 6 []),(7,.pref 27 7 []),(9,.val 3 x2)],[(100000,⟨70,x3,(.st [.fo,.dp]),true⟩),(6,⟨27,x4,.dp,true⟩),(7,⟨27,x5,(.st [.dp,.dp,.dp,.dp,(.sl .dp),.dp]),true⟩)])
noncomputable abbrev lM (H:List Item→CS→R) (C:aF) (a0 a1 a2:T):R:=
 obind (C dH [a0,(T.sl [(T.int (2:Int)),(T.int (2:Int)),(T.int (2:Int)),(T.int (0:Int)),(T.int (1:Int))])]) fun r1=>
 bif (decide ((rt r1 0).i < (2:Int))) then
 obind (C cP [(rt (r1.drop 1) 0),a1,(T.int (2:Int)),(T.bool true)]) fun r2=>
 obind (C cP [(rt (r2.drop 1) 0),a1,(T.int (3:Int)),(T.bool true)]) fun r3=>
 obind (C aG [(rt (r3.drop 1) 0),(T.int (3:Int))]) fun r4=>
 obind (C cP [(rt (r4.drop 1) 0),a1,(T.int (2:Int)),(T.bool ((rt r4 0).i==(0:Int)))]) fun r5=>
 dU H a2 (T.int (0:Int)) (rt (r5.drop 1) 0) (T.st [(T.int (0:Int)),(T.sl []),(T.sl []),(T.sl []),(T.sl []),(T.sl [])]) (T.st [(rt r1 0),(rt r2 0),(rt r5 0),(rt r3 0),(T.sl []),(T.sl [])])
 else
 obind (C aG [(rt (r1.drop 1) 0),(T.int (4:Int))]) fun r6=>
 obind (C cP [(rt (r6.drop 1) 0),a1,(T.int (2:Int)),(T.bool ((rt r6 0).i==(0:Int)))]) fun r7=>
 obind (C cP [(rt (r7.drop 1) 0),a1,(T.int (3:Int)),(T.bool true)]) fun r8=>
 bif ((rt r6 0).i==(0:Int)) then
 obind (C aG [(rt (r8.drop 1) 0),(T.int (3:Int))]) fun r9=>
 obind (C cP [(rt (r9.drop 1) 0),a1,(T.int (2:Int)),(T.bool ((rt r9 0).i==(0:Int)))]) fun r10=>
 dU H a2 (T.int (0:Int)) (rt (r10.drop 1) 0) (T.st [(T.int (0:Int)),(T.sl []),(T.sl []),(T.sl []),(T.sl []),(T.sl [])]) (T.st [(rt r1 0),(rt r7 0),(rt r10 0),(rt r8 0),(T.sl []),(T.sl [])])
 else
 obind (C cP [(rt (r8.drop 1) 0),a1,(T.int (2:Int)),(T.bool false)]) fun r11=>
 dU H a2 (T.int (0:Int)) (rt (r11.drop 1) 0) (T.st [(T.int (0:Int)),(T.sl []),(T.sl []),(T.sl []),(T.sl []),(T.sl [])]) (T.st [(rt r1 0),(rt r7 0),(rt r11 0),(rt r8 0),(T.sl []),(T.sl [])])
theorem v4 (a0 a1 a2:T) {r:List T} (h:Yields (fun k=>lM (hl env k cj) (cl env k) a0 a1 a2) r):Yields (fun k=>cl env k iy [a0,a1,a2]) r:=Yields.call (fi:=cj) (Z:=fun H C=>lM H C a0 a1 a2) rfl rfl (fun H C=>by kernel_rfl) h
noncomputable abbrev gq (H:List Item→CS→R) (C:aF) (x1:T) (x2:T) (x3:T) (x4:T) (x5:T):R:=
 bif (decide (x2.i < x1.i)) then
 obind (C aG [x3,(T.int (3:Int))]) fun r1=>
 bif (decide ((rt r1 0).i > (0:Int))) then
 bif (decide (((x5.fld 4).es).length + [x2].length≤LIM)) then
 eX H x1 (T.int (IntKind.wrap .i64 (x2.i+(1:Int)))) (rt (r1.drop 1) 0) x4 (T.st (x5.fs.set 4 (T.sl ((x5.fld 4).es ++ [x2]))))
 else
 none
 else
 dU H x1 (T.int (IntKind.wrap .i64 (x2.i+(1:Int)))) (rt (r1.drop 1) 0) x4 x5
 else
 some [(T.st [((T.st (x5.fs.set 5 (T.sl [(T.st [(T.str bE),(T.int (1:Int)),(T.int (0:Int))]),(T.st [(T.str bm),(T.int (0:Int)),(T.int (0:Int))])]))).fld 0),((T.st (x5.fs.set 5 (T.sl [(T.st [(T.str bE),(T.int (1:Int)),(T.int (0:Int))]),(T.st [(T.str bm),(T.int (0:Int)),(T.int (0:Int))])]))).fld 1),((T.st (x5.fs.set 5 (T.sl [(T.st [(T.str bE),(T.int (1:Int)),(T.int (0:Int))]),(T.st [(T.str bm),(T.int (0:Int)),(T.int (0:Int))])]))).fld 2),((T.st (x5.fs.set 5 (T.sl [(T.st [(T.str bE),(T.int (1:Int)),(T.int (0:Int))]),(T.st [(T.str bm),(T.int (0:Int)),(T.int (0:Int))])]))).fld 3),((T.st (x5.fs.set 5 (T.sl [(T.st [(T.str bE),(T.int (1:Int)),(T.int (0:Int))]),(T.st [(T.str bm),(T.int (0:Int)),(T.int (0:Int))])]))).fld 4),((T.st (x5.fs.set 5 (T.sl [(T.st [(T.str bE),(T.int (1:Int)),(T.int (0:Int))]),(T.st [(T.str bm),(T.int (0:Int)),(T.int (0:Int))])]))).fld 5)]),x3]
theorem ox (x1:T) (x2:T) (x3:T) (x4:T) (x5:T) {r:List T} (h:Yields (fun k=>gq (hl env k cj) (cl env k) x1 x2 x3 x4 x5) r):Yields (fun k=>dU (hl env k cj) x1 x2 x3 x4 x5) r:=Yields.head (Z:=fun H C=>gq H C x1 x2 x3 x4 x5) (fun H C=>by kernel_rfl) h
noncomputable abbrev gr (H:List Item→CS→R) (C:aF) (x1:T) (x2:T) (x3:T) (x4:T) (x5:T):R:=
 bif (decide (x2.i < x1.i)) then
 obind (C aG [x3,(T.int (3:Int))]) fun r1=>
 bif (decide ((rt r1 0).i > (0:Int))) then
 bif (decide (((x5.fld 4).es).length + [x2].length≤LIM)) then
 eX H x1 (T.int (IntKind.wrap .i64 (x2.i+(1:Int)))) (rt (r1.drop 1) 0) x4 (T.st (x5.fs.set 4 (T.sl ((x5.fld 4).es ++ [x2]))))
 else
 none
 else
 eX H x1 (T.int (IntKind.wrap .i64 (x2.i+(1:Int)))) (rt (r1.drop 1) 0) x4 x5
 else
 some [(T.st [((T.st (x5.fs.set 5 (T.sl [(T.st [(T.str bE),(T.int (1:Int)),(T.int (0:Int))]),(T.st [(T.str bm),(T.int (0:Int)),(T.int (0:Int))])]))).fld 0),((T.st (x5.fs.set 5 (T.sl [(T.st [(T.str bE),(T.int (1:Int)),(T.int (0:Int))]),(T.st [(T.str bm),(T.int (0:Int)),(T.int (0:Int))])]))).fld 1),((T.st (x5.fs.set 5 (T.sl [(T.st [(T.str bE),(T.int (1:Int)),(T.int (0:Int))]),(T.st [(T.str bm),(T.int (0:Int)),(T.int (0:Int))])]))).fld 2),((T.st (x5.fs.set 5 (T.sl [(T.st [(T.str bE),(T.int (1:Int)),(T.int (0:Int))]),(T.st [(T.str bm),(T.int (0:Int)),(T.int (0:Int))])]))).fld 3),((T.st (x5.fs.set 5 (T.sl [(T.st [(T.str bE),(T.int (1:Int)),(T.int (0:Int))]),(T.st [(T.str bm),(T.int (0:Int)),(T.int (0:Int))])]))).fld 4),((T.st (x5.fs.set 5 (T.sl [(T.st [(T.str bE),(T.int (1:Int)),(T.int (0:Int))]),(T.st [(T.str bm),(T.int (0:Int)),(T.int (0:Int))])]))).fld 5)]),x3]
theorem oz (x1:T) (x2:T) (x3:T) (x4:T) (x5:T) {r:List T} (h:Yields (fun k=>gr (hl env k cj) (cl env k) x1 x2 x3 x4 x5) r):Yields (fun k=>eX (hl env k cj) x1 x2 x3 x4 x5) r:=Yields.head (Z:=fun H C=>gr H C x1 x2 x3 x4 x5) (fun H C=>by kernel_rfl) h
noncomputable def dO (H:List Item→CS→R) (x1:T) (x2:T) (x3:T) (x4:T) (x5:T) (x6:T) (x7:T) (x8:T):R:=H (bS bp.body 0) ([(0,.pref 70 100000 []),(1,.val 33 x1),(2,.val 3 x2),(7,.pref 27 7 []),(9,.val 40 x3),(10,.pref 100 10 []),(11,.sref 25 11 []),(12,.val 3 x4)],[(100000,⟨70,x5,(.st [.fo,.dp]),true⟩),(7,⟨27,x6,.fz,true⟩),(10,⟨100,x7,(.st [.dp,.dp]),true⟩),(11,⟨25,x8,(.sl .dp),false⟩)])
noncomputable def aW (H:List Item→CS→R) (x1:T) (x2:T) (x3:T) (x4:T) (x5:T) (x6:T) (x7:T) (x8:T):R:=H (bS bp.body 0) ([(0,.pref 70 100000 []),(1,.val 33 x1),(2,.val 3 x2),(7,.pref 27 7 []),(9,.val 40 x3),(10,.pref 100 10 []),(11,.sref 25 11 []),(12,.val 3 x4)],[(100000,⟨70,x5,(.st [.fo,.dp]),true⟩),(7,⟨27,x6,.fz,true⟩),(10,⟨100,x7,(.st [(.sl (.st [.dp,.fz])),(.sl (.st [.dp,.fz]))]),true⟩),(11,⟨25,x8,(.sl .dp),false⟩)])
noncomputable def cG (H:List Item→CS→R) (x1:T) (x2:T) (x3:T) (x4:T) (x5:T) (x6:T) (x7:T) (x8:T):R:=H (bS bp.body 0) ([(0,.pref 70 100000 []),(1,.val 33 x1),(2,.val 3 x2),(7,.pref 27 7 []),(9,.val 40 x3),(10,.pref 100 10 []),(11,.sref 25 11 []),(12,.val 3 x4)],[(100000,⟨70,x5,(.st [.fo,.dp]),true⟩),(7,⟨27,x6,.fz,true⟩),(10,⟨100,x7,(.st [.fz,.fz]),true⟩),(11,⟨25,x8,(.sl .dp),false⟩)])
noncomputable def bg (H:List Item→CS→R) (x1:T) (x2:T) (x3:T) (x4:T) (x5:T) (x6:T) (x7:T) (x8:T):R:=H (bS bp.body 0) ([(0,.pref 70 100000 []),(1,.val 33 x1),(2,.val 3 x2),(7,.pref 27 7 []),(9,.val 40 x3),(10,.pref 100 10 []),(11,.sref 25 11 []),(12,.val 3 x4)],[(100000,⟨70,x5,(.st [.fo,.dp]),true⟩),(7,⟨27,x6,.fz,true⟩),(10,⟨100,x7,.fz,true⟩),(11,⟨25,x8,(.sl .dp),false⟩)])
noncomputable abbrev nu (H:List Item→CS→R) (C:aF) (a0 a1 a2 a3:T):R:=
 obind (C d9 [a1]) fun r1=>
 obind (C nc [a3]) fun r2=>
 obind (C aG [a0,(T.int (50:Int))]) fun r3=>
 dO H a1 a2 (rt r1 0) (T.int (IntKind.wrap .i64 ((6:Int)+(rt r3 0).i))) (rt (r3.drop 1) 0) a3 (T.st [((rt r2 0).fld 0),((rt r2 0).fld 1)]) (T.sl [])
theorem xu (a0 a1 a2 a3:T) {r:List T} (h:Yields (fun k=>nu (hl env k bp) (cl env k) a0 a1 a2 a3) r):Yields (fun k=>cl env k ng [a0,a1,a2,a3]) r:=Yields.call (fi:=bp) (Z:=fun H C=>nu H C a0 a1 a2 a3) rfl rfl (fun H C=>by kernel_rfl) h
noncomputable abbrev iI (H:List Item→CS→R) (C:aF) (x1:T) (x2:T) (x3:T) (x4:T) (x5:T) (x6:T) (x7:T) (x8:T):R:=
 bif (decide (x4.i > (0:Int))) then
 bif (decide ((x8.es.length:Int) < (20:Int))) then
 obind (C fp [x5]) fun r1=>
 bif ((((rt r1 0).fld 0).s).toList==t6.toList) then
 dO H x1 x2 x3 (T.int (IntKind.wrap .i64 (x4.i - (1:Int)))) (rt (r1.drop 1) 0) x6 x7 x8
 else
 bif ((((rt r1 0).fld 0).s).toList==dz.toList) then
 dO H x1 x2 x3 (T.int (IntKind.wrap .i64 (x4.i - (1:Int)))) (rt (r1.drop 1) 0) x6 x7 x8
 else
 bif ((((rt r1 0).fld 0).s).toList==o8.toList) then
 dO H x1 x2 x3 (T.int (IntKind.wrap .i64 (x4.i - (1:Int)))) (rt (r1.drop 1) 0) x6 x7 x8
 else
 bif ((((rt r1 0).fld 0).s).toList==bm.toList) then
 dO H x1 x2 x3 (T.int (IntKind.wrap .i64 (x4.i - (1:Int)))) (rt (r1.drop 1) 0) x6 x7 x8
 else
 obind (C dG [x1,x3,x2,x6,x7,(rt r1 0)]) fun r2=>
 bif ((rt r2 1).i==(0:Int)) then
 bif (decide (x8.es.length + [(rt r1 0)].length≤LIM)) then
 bif (decide (((((rt r2 0).fld 0).es).length:Int) > (0:Int))) then
 bif (decide (0≤(IntKind.wrap .i64 (((((rt r2 0).fld 0).es).length:Int) - (1:Int))))&&decide ((IntKind.wrap .i64 (((((rt r2 0).fld 0).es).length:Int) - (1:Int))).toNat < (((rt r2 0).fld 0).es).length)) then
 bif ((((((rt r2 0).fld 0).nth ((IntKind.wrap .i64 (((((rt r2 0).fld 0).es).length:Int) - (1:Int))).toNat)).fld 0).s).toList==k_b.toList) then
 obind (C aG [(rt (r1.drop 1) 0),(T.int (4:Int))]) fun r3=>
 bif ((rt r3 0).i==(0:Int)) then
 bif (decide (((x8.es ++ [(rt r1 0)]).length:Int) < (17:Int))) then
 obind (C aG [(rt (r3.drop 1) 0),(T.int (5:Int))]) fun r4=>
 bif (decide ((x8.es ++ [(rt r1 0)]).length + [(T.st [(T.str dz),(T.int (IntKind.wrap .i64 (((x8.es ++ [(rt r1 0)]).length:Int)+(3:Int)))),(T.int (0:Int))]),(T.st [(T.str bE),(rt r4 0),(T.int (0:Int))]),(T.st [(T.str bm),(T.int (0:Int)),(T.int (0:Int))])].length≤LIM)) then
 bif (decide (0≤(0:Int))&&(decide ((0:Int)≤(IntKind.wrap .i64 (((((rt r2 0).fld 0).es).length:Int) - (1:Int))))&&(decide ((IntKind.wrap .i64 (((((rt r2 0).fld 0).es).length:Int) - (1:Int)))≤((((rt r2 0).fld 0).es).length:Int))&&decide (((((rt r2 0).fld 0).es).length:Int)≤((((rt r2 0).fld 0).es).length:Int))))) then
 aW H x1 x2 x3 (T.int (IntKind.wrap .i64 (x4.i - (1:Int)))) (rt (r4.drop 1) 0) x6 (T.st [(T.sl (((((rt r2 0).fld 0).es).take ((IntKind.wrap .i64 (((((rt r2 0).fld 0).es).length:Int) - (1:Int))).toNat)).drop 0)),((rt r2 0).fld 1)]) (T.sl ((x8.es ++ [(rt r1 0)]) ++ [(T.st [(T.str dz),(T.int (IntKind.wrap .i64 (((x8.es ++ [(rt r1 0)]).length:Int)+(3:Int)))),(T.int (0:Int))]),(T.st [(T.str bE),(rt r4 0),(T.int (0:Int))]),(T.st [(T.str bm),(T.int (0:Int)),(T.int (0:Int))])]))
 else
 none
 else
 none
 else
 aW H x1 x2 x3 (T.int (IntKind.wrap .i64 (x4.i - (1:Int)))) (rt (r3.drop 1) 0) x6 (T.st [((rt r2 0).fld 0),((rt r2 0).fld 1)]) (T.sl (x8.es ++ [(rt r1 0)]))
 else
 aW H x1 x2 x3 (T.int (IntKind.wrap .i64 (x4.i - (1:Int)))) (rt (r3.drop 1) 0) x6 (T.st [((rt r2 0).fld 0),((rt r2 0).fld 1)]) (T.sl (x8.es ++ [(rt r1 0)]))
 else
 aW H x1 x2 x3 (T.int (IntKind.wrap .i64 (x4.i - (1:Int)))) (rt (r1.drop 1) 0) x6 (T.st [((rt r2 0).fld 0),((rt r2 0).fld 1)]) (T.sl (x8.es ++ [(rt r1 0)]))
 else
 none
 else
 aW H x1 x2 x3 (T.int (IntKind.wrap .i64 (x4.i - (1:Int)))) (rt (r1.drop 1) 0) x6 (T.st [((rt r2 0).fld 0),((rt r2 0).fld 1)]) (T.sl (x8.es ++ [(rt r1 0)]))
 else
 none
 else
 bif (decide ((((x7.fld 0).es).length:Int) > (0:Int))) then
 bif (decide (0≤(IntKind.wrap .i64 ((((x7.fld 0).es).length:Int) - (1:Int))))&&decide ((IntKind.wrap .i64 ((((x7.fld 0).es).length:Int) - (1:Int))).toNat < ((x7.fld 0).es).length)) then
 bif (((((x7.fld 0).nth ((IntKind.wrap .i64 ((((x7.fld 0).es).length:Int) - (1:Int))).toNat)).fld 0).s).toList==k_b.toList) then
 obind (C aG [(rt (r1.drop 1) 0),(T.int (4:Int))]) fun r5=>
 bif ((rt r5 0).i==(0:Int)) then
 bif (decide ((x8.es.length:Int) < (17:Int))) then
 obind (C aG [(rt (r5.drop 1) 0),(T.int (5:Int))]) fun r6=>
 bif (decide (x8.es.length + [(T.st [(T.str dz),(T.int (IntKind.wrap .i64 ((x8.es.length:Int)+(3:Int)))),(T.int (0:Int))]),(T.st [(T.str bE),(rt r6 0),(T.int (0:Int))]),(T.st [(T.str bm),(T.int (0:Int)),(T.int (0:Int))])].length≤LIM)) then
 bif (decide (0≤(0:Int))&&(decide ((0:Int)≤(IntKind.wrap .i64 ((((x7.fld 0).es).length:Int) - (1:Int))))&&(decide ((IntKind.wrap .i64 ((((x7.fld 0).es).length:Int) - (1:Int)))≤(((x7.fld 0).es).length:Int))&&decide ((((x7.fld 0).es).length:Int)≤(((x7.fld 0).es).length:Int))))) then
 cG H x1 x2 x3 (T.int (IntKind.wrap .i64 (x4.i - (1:Int)))) (rt (r6.drop 1) 0) x6 (T.st (x7.fs.set 0 (T.sl ((((x7.fld 0).es).take ((IntKind.wrap .i64 ((((x7.fld 0).es).length:Int) - (1:Int))).toNat)).drop 0)))) (T.sl (x8.es ++ [(T.st [(T.str dz),(T.int (IntKind.wrap .i64 ((x8.es.length:Int)+(3:Int)))),(T.int (0:Int))]),(T.st [(T.str bE),(rt r6 0),(T.int (0:Int))]),(T.st [(T.str bm),(T.int (0:Int)),(T.int (0:Int))])]))
 else
 none
 else
 none
 else
 bg H x1 x2 x3 (T.int (IntKind.wrap .i64 (x4.i - (1:Int)))) (rt (r5.drop 1) 0) x6 x7 x8
 else
 bg H x1 x2 x3 (T.int (IntKind.wrap .i64 (x4.i - (1:Int)))) (rt (r5.drop 1) 0) x6 x7 x8
 else
 bg H x1 x2 x3 (T.int (IntKind.wrap .i64 (x4.i - (1:Int)))) (rt (r1.drop 1) 0) x6 x7 x8
 else
 none
 else
 bg H x1 x2 x3 (T.int (IntKind.wrap .i64 (x4.i - (1:Int)))) (rt (r1.drop 1) 0) x6 x7 x8
 else
 obind (C du [x5,x1,x3,x2,x6,(T.st [(x7.fld 0),(x7.fld 1)]),x8]) fun r7=>
 some [(rt r7 0),(rt (r7.drop 1) 0)]
 else
 obind (C du [x5,x1,x3,x2,x6,(T.st [(x7.fld 0),(x7.fld 1)]),x8]) fun r8=>
 some [(rt r8 0),(rt (r8.drop 1) 0)]
theorem qo (x1:T) (x2:T) (x3:T) (x4:T) (x5:T) (x6:T) (x7:T) (x8:T) {r:List T} (h:Yields (fun k=>iI (hl env k bp) (cl env k) x1 x2 x3 x4 x5 x6 x7 x8) r):Yields (fun k=>dO (hl env k bp) x1 x2 x3 x4 x5 x6 x7 x8) r:=Yields.head (Z:=fun H C=>iI H C x1 x2 x3 x4 x5 x6 x7 x8) (fun H C=>by kernel_rfl) h
noncomputable abbrev iJ (H:List Item→CS→R) (C:aF) (x1:T) (x2:T) (x3:T) (x4:T) (x5:T) (x6:T) (x7:T) (x8:T):R:=
 bif (decide (x4.i > (0:Int))) then
 bif (decide ((x8.es.length:Int) < (20:Int))) then
 obind (C fp [x5]) fun r1=>
 bif ((((rt r1 0).fld 0).s).toList==t6.toList) then
 aW H x1 x2 x3 (T.int (IntKind.wrap .i64 (x4.i - (1:Int)))) (rt (r1.drop 1) 0) x6 x7 x8
 else
 bif ((((rt r1 0).fld 0).s).toList==dz.toList) then
 aW H x1 x2 x3 (T.int (IntKind.wrap .i64 (x4.i - (1:Int)))) (rt (r1.drop 1) 0) x6 x7 x8
 else
 bif ((((rt r1 0).fld 0).s).toList==o8.toList) then
 aW H x1 x2 x3 (T.int (IntKind.wrap .i64 (x4.i - (1:Int)))) (rt (r1.drop 1) 0) x6 x7 x8
 else
 bif ((((rt r1 0).fld 0).s).toList==bm.toList) then
 aW H x1 x2 x3 (T.int (IntKind.wrap .i64 (x4.i - (1:Int)))) (rt (r1.drop 1) 0) x6 x7 x8
 else
 obind (C dG [x1,x3,x2,x6,x7,(rt r1 0)]) fun r2=>
 bif ((rt r2 1).i==(0:Int)) then
 bif (decide (x8.es.length + [(rt r1 0)].length≤LIM)) then
 bif (decide (((((rt r2 0).fld 0).es).length:Int) > (0:Int))) then
 bif (decide (0≤(IntKind.wrap .i64 (((((rt r2 0).fld 0).es).length:Int) - (1:Int))))&&decide ((IntKind.wrap .i64 (((((rt r2 0).fld 0).es).length:Int) - (1:Int))).toNat < (((rt r2 0).fld 0).es).length)) then
 bif ((((((rt r2 0).fld 0).nth ((IntKind.wrap .i64 (((((rt r2 0).fld 0).es).length:Int) - (1:Int))).toNat)).fld 0).s).toList==k_b.toList) then
 obind (C aG [(rt (r1.drop 1) 0),(T.int (4:Int))]) fun r3=>
 bif ((rt r3 0).i==(0:Int)) then
 bif (decide (((x8.es ++ [(rt r1 0)]).length:Int) < (17:Int))) then
 obind (C aG [(rt (r3.drop 1) 0),(T.int (5:Int))]) fun r4=>
 bif (decide ((x8.es ++ [(rt r1 0)]).length + [(T.st [(T.str dz),(T.int (IntKind.wrap .i64 (((x8.es ++ [(rt r1 0)]).length:Int)+(3:Int)))),(T.int (0:Int))]),(T.st [(T.str bE),(rt r4 0),(T.int (0:Int))]),(T.st [(T.str bm),(T.int (0:Int)),(T.int (0:Int))])].length≤LIM)) then
 bif (decide (0≤(0:Int))&&(decide ((0:Int)≤(IntKind.wrap .i64 (((((rt r2 0).fld 0).es).length:Int) - (1:Int))))&&(decide ((IntKind.wrap .i64 (((((rt r2 0).fld 0).es).length:Int) - (1:Int)))≤((((rt r2 0).fld 0).es).length:Int))&&decide (((((rt r2 0).fld 0).es).length:Int)≤((((rt r2 0).fld 0).es).length:Int))))) then
 aW H x1 x2 x3 (T.int (IntKind.wrap .i64 (x4.i - (1:Int)))) (rt (r4.drop 1) 0) x6 (T.st [(T.sl (((((rt r2 0).fld 0).es).take ((IntKind.wrap .i64 (((((rt r2 0).fld 0).es).length:Int) - (1:Int))).toNat)).drop 0)),((rt r2 0).fld 1)]) (T.sl ((x8.es ++ [(rt r1 0)]) ++ [(T.st [(T.str dz),(T.int (IntKind.wrap .i64 (((x8.es ++ [(rt r1 0)]).length:Int)+(3:Int)))),(T.int (0:Int))]),(T.st [(T.str bE),(rt r4 0),(T.int (0:Int))]),(T.st [(T.str bm),(T.int (0:Int)),(T.int (0:Int))])]))
 else
 none
 else
 none
 else
 aW H x1 x2 x3 (T.int (IntKind.wrap .i64 (x4.i - (1:Int)))) (rt (r3.drop 1) 0) x6 (T.st [((rt r2 0).fld 0),((rt r2 0).fld 1)]) (T.sl (x8.es ++ [(rt r1 0)]))
 else
 aW H x1 x2 x3 (T.int (IntKind.wrap .i64 (x4.i - (1:Int)))) (rt (r3.drop 1) 0) x6 (T.st [((rt r2 0).fld 0),((rt r2 0).fld 1)]) (T.sl (x8.es ++ [(rt r1 0)]))
 else
 aW H x1 x2 x3 (T.int (IntKind.wrap .i64 (x4.i - (1:Int)))) (rt (r1.drop 1) 0) x6 (T.st [((rt r2 0).fld 0),((rt r2 0).fld 1)]) (T.sl (x8.es ++ [(rt r1 0)]))
 else
 none
 else
 aW H x1 x2 x3 (T.int (IntKind.wrap .i64 (x4.i - (1:Int)))) (rt (r1.drop 1) 0) x6 (T.st [((rt r2 0).fld 0),((rt r2 0).fld 1)]) (T.sl (x8.es ++ [(rt r1 0)]))
 else
 none
 else
 bif (decide ((((x7.fld 0).es).length:Int) > (0:Int))) then
 bif (decide (0≤(IntKind.wrap .i64 ((((x7.fld 0).es).length:Int) - (1:Int))))&&decide ((IntKind.wrap .i64 ((((x7.fld 0).es).length:Int) - (1:Int))).toNat < ((x7.fld 0).es).length)) then
 bif (((((x7.fld 0).nth ((IntKind.wrap .i64 ((((x7.fld 0).es).length:Int) - (1:Int))).toNat)).fld 0).s).toList==k_b.toList) then
 obind (C aG [(rt (r1.drop 1) 0),(T.int (4:Int))]) fun r5=>
 bif ((rt r5 0).i==(0:Int)) then
 bif (decide ((x8.es.length:Int) < (17:Int))) then
 obind (C aG [(rt (r5.drop 1) 0),(T.int (5:Int))]) fun r6=>
 bif (decide (x8.es.length + [(T.st [(T.str dz),(T.int (IntKind.wrap .i64 ((x8.es.length:Int)+(3:Int)))),(T.int (0:Int))]),(T.st [(T.str bE),(rt r6 0),(T.int (0:Int))]),(T.st [(T.str bm),(T.int (0:Int)),(T.int (0:Int))])].length≤LIM)) then
 bif (decide (0≤(0:Int))&&(decide ((0:Int)≤(IntKind.wrap .i64 ((((x7.fld 0).es).length:Int) - (1:Int))))&&(decide ((IntKind.wrap .i64 ((((x7.fld 0).es).length:Int) - (1:Int)))≤(((x7.fld 0).es).length:Int))&&decide ((((x7.fld 0).es).length:Int)≤(((x7.fld 0).es).length:Int))))) then
 cG H x1 x2 x3 (T.int (IntKind.wrap .i64 (x4.i - (1:Int)))) (rt (r6.drop 1) 0) x6 (T.st (x7.fs.set 0 (T.sl ((((x7.fld 0).es).take ((IntKind.wrap .i64 ((((x7.fld 0).es).length:Int) - (1:Int))).toNat)).drop 0)))) (T.sl (x8.es ++ [(T.st [(T.str dz),(T.int (IntKind.wrap .i64 ((x8.es.length:Int)+(3:Int)))),(T.int (0:Int))]),(T.st [(T.str bE),(rt r6 0),(T.int (0:Int))]),(T.st [(T.str bm),(T.int (0:Int)),(T.int (0:Int))])]))
 else
 none
 else
 none
 else
 bg H x1 x2 x3 (T.int (IntKind.wrap .i64 (x4.i - (1:Int)))) (rt (r5.drop 1) 0) x6 x7 x8
 else
 bg H x1 x2 x3 (T.int (IntKind.wrap .i64 (x4.i - (1:Int)))) (rt (r5.drop 1) 0) x6 x7 x8
 else
 bg H x1 x2 x3 (T.int (IntKind.wrap .i64 (x4.i - (1:Int)))) (rt (r1.drop 1) 0) x6 x7 x8
 else
 none
 else
 bg H x1 x2 x3 (T.int (IntKind.wrap .i64 (x4.i - (1:Int)))) (rt (r1.drop 1) 0) x6 x7 x8
 else
 obind (C du [x5,x1,x3,x2,x6,(T.st [(x7.fld 0),(x7.fld 1)]),x8]) fun r7=>
 some [(rt r7 0),(rt (r7.drop 1) 0)]
 else
 obind (C du [x5,x1,x3,x2,x6,(T.st [(x7.fld 0),(x7.fld 1)]),x8]) fun r8=>
 some [(rt r8 0),(rt (r8.drop 1) 0)]
theorem qp (x1:T) (x2:T) (x3:T) (x4:T) (x5:T) (x6:T) (x7:T) (x8:T) {r:List T} (h:Yields (fun k=>iJ (hl env k bp) (cl env k) x1 x2 x3 x4 x5 x6 x7 x8) r):Yields (fun k=>aW (hl env k bp) x1 x2 x3 x4 x5 x6 x7 x8) r:=Yields.head (Z:=fun H C=>iJ H C x1 x2 x3 x4 x5 x6 x7 x8) (fun H C=>by kernel_rfl) h
noncomputable abbrev iK (H:List Item→CS→R) (C:aF) (x1:T) (x2:T) (x3:T) (x4:T) (x5:T) (x6:T) (x7:T) (x8:T):R:=
 bif (decide (x4.i > (0:Int))) then
 bif (decide ((x8.es.length:Int) < (20:Int))) then
 obind (C fp [x5]) fun r1=>
 bif ((((rt r1 0).fld 0).s).toList==t6.toList) then
 cG H x1 x2 x3 (T.int (IntKind.wrap .i64 (x4.i - (1:Int)))) (rt (r1.drop 1) 0) x6 x7 x8
 else
 bif ((((rt r1 0).fld 0).s).toList==dz.toList) then
 cG H x1 x2 x3 (T.int (IntKind.wrap .i64 (x4.i - (1:Int)))) (rt (r1.drop 1) 0) x6 x7 x8
 else
 bif ((((rt r1 0).fld 0).s).toList==o8.toList) then
 cG H x1 x2 x3 (T.int (IntKind.wrap .i64 (x4.i - (1:Int)))) (rt (r1.drop 1) 0) x6 x7 x8
 else
 bif ((((rt r1 0).fld 0).s).toList==bm.toList) then
 cG H x1 x2 x3 (T.int (IntKind.wrap .i64 (x4.i - (1:Int)))) (rt (r1.drop 1) 0) x6 x7 x8
 else
 obind (C dG [x1,x3,x2,x6,x7,(rt r1 0)]) fun r2=>
 bif ((rt r2 1).i==(0:Int)) then
 bif (decide (x8.es.length + [(rt r1 0)].length≤LIM)) then
 bif (decide (((((rt r2 0).fld 0).es).length:Int) > (0:Int))) then
 bif (decide (0≤(IntKind.wrap .i64 (((((rt r2 0).fld 0).es).length:Int) - (1:Int))))&&decide ((IntKind.wrap .i64 (((((rt r2 0).fld 0).es).length:Int) - (1:Int))).toNat < (((rt r2 0).fld 0).es).length)) then
 bif ((((((rt r2 0).fld 0).nth ((IntKind.wrap .i64 (((((rt r2 0).fld 0).es).length:Int) - (1:Int))).toNat)).fld 0).s).toList==k_b.toList) then
 obind (C aG [(rt (r1.drop 1) 0),(T.int (4:Int))]) fun r3=>
 bif ((rt r3 0).i==(0:Int)) then
 bif (decide (((x8.es ++ [(rt r1 0)]).length:Int) < (17:Int))) then
 obind (C aG [(rt (r3.drop 1) 0),(T.int (5:Int))]) fun r4=>
 bif (decide ((x8.es ++ [(rt r1 0)]).length + [(T.st [(T.str dz),(T.int (IntKind.wrap .i64 (((x8.es ++ [(rt r1 0)]).length:Int)+(3:Int)))),(T.int (0:Int))]),(T.st [(T.str bE),(rt r4 0),(T.int (0:Int))]),(T.st [(T.str bm),(T.int (0:Int)),(T.int (0:Int))])].length≤LIM)) then
 bif (decide (0≤(0:Int))&&(decide ((0:Int)≤(IntKind.wrap .i64 (((((rt r2 0).fld 0).es).length:Int) - (1:Int))))&&(decide ((IntKind.wrap .i64 (((((rt r2 0).fld 0).es).length:Int) - (1:Int)))≤((((rt r2 0).fld 0).es).length:Int))&&decide (((((rt r2 0).fld 0).es).length:Int)≤((((rt r2 0).fld 0).es).length:Int))))) then
 aW H x1 x2 x3 (T.int (IntKind.wrap .i64 (x4.i - (1:Int)))) (rt (r4.drop 1) 0) x6 (T.st [(T.sl (((((rt r2 0).fld 0).es).take ((IntKind.wrap .i64 (((((rt r2 0).fld 0).es).length:Int) - (1:Int))).toNat)).drop 0)),((rt r2 0).fld 1)]) (T.sl ((x8.es ++ [(rt r1 0)]) ++ [(T.st [(T.str dz),(T.int (IntKind.wrap .i64 (((x8.es ++ [(rt r1 0)]).length:Int)+(3:Int)))),(T.int (0:Int))]),(T.st [(T.str bE),(rt r4 0),(T.int (0:Int))]),(T.st [(T.str bm),(T.int (0:Int)),(T.int (0:Int))])]))
 else
 none
 else
 none
 else
 aW H x1 x2 x3 (T.int (IntKind.wrap .i64 (x4.i - (1:Int)))) (rt (r3.drop 1) 0) x6 (T.st [((rt r2 0).fld 0),((rt r2 0).fld 1)]) (T.sl (x8.es ++ [(rt r1 0)]))
 else
 aW H x1 x2 x3 (T.int (IntKind.wrap .i64 (x4.i - (1:Int)))) (rt (r3.drop 1) 0) x6 (T.st [((rt r2 0).fld 0),((rt r2 0).fld 1)]) (T.sl (x8.es ++ [(rt r1 0)]))
 else
 aW H x1 x2 x3 (T.int (IntKind.wrap .i64 (x4.i - (1:Int)))) (rt (r1.drop 1) 0) x6 (T.st [((rt r2 0).fld 0),((rt r2 0).fld 1)]) (T.sl (x8.es ++ [(rt r1 0)]))
 else
 none
 else
 aW H x1 x2 x3 (T.int (IntKind.wrap .i64 (x4.i - (1:Int)))) (rt (r1.drop 1) 0) x6 (T.st [((rt r2 0).fld 0),((rt r2 0).fld 1)]) (T.sl (x8.es ++ [(rt r1 0)]))
 else
 none
 else
 bif (decide ((((x7.fld 0).es).length:Int) > (0:Int))) then
 bif (decide (0≤(IntKind.wrap .i64 ((((x7.fld 0).es).length:Int) - (1:Int))))&&decide ((IntKind.wrap .i64 ((((x7.fld 0).es).length:Int) - (1:Int))).toNat < ((x7.fld 0).es).length)) then
 bif (((((x7.fld 0).nth ((IntKind.wrap .i64 ((((x7.fld 0).es).length:Int) - (1:Int))).toNat)).fld 0).s).toList==k_b.toList) then
 obind (C aG [(rt (r1.drop 1) 0),(T.int (4:Int))]) fun r5=>
 bif ((rt r5 0).i==(0:Int)) then
 bif (decide ((x8.es.length:Int) < (17:Int))) then
 obind (C aG [(rt (r5.drop 1) 0),(T.int (5:Int))]) fun r6=>
 bif (decide (x8.es.length + [(T.st [(T.str dz),(T.int (IntKind.wrap .i64 ((x8.es.length:Int)+(3:Int)))),(T.int (0:Int))]),(T.st [(T.str bE),(rt r6 0),(T.int (0:Int))]),(T.st [(T.str bm),(T.int (0:Int)),(T.int (0:Int))])].length≤LIM)) then
 bif (decide (0≤(0:Int))&&(decide ((0:Int)≤(IntKind.wrap .i64 ((((x7.fld 0).es).length:Int) - (1:Int))))&&(decide ((IntKind.wrap .i64 ((((x7.fld 0).es).length:Int) - (1:Int)))≤(((x7.fld 0).es).length:Int))&&decide ((((x7.fld 0).es).length:Int)≤(((x7.fld 0).es).length:Int))))) then
 cG H x1 x2 x3 (T.int (IntKind.wrap .i64 (x4.i - (1:Int)))) (rt (r6.drop 1) 0) x6 (T.st (x7.fs.set 0 (T.sl ((((x7.fld 0).es).take ((IntKind.wrap .i64 ((((x7.fld 0).es).length:Int) - (1:Int))).toNat)).drop 0)))) (T.sl (x8.es ++ [(T.st [(T.str dz),(T.int (IntKind.wrap .i64 ((x8.es.length:Int)+(3:Int)))),(T.int (0:Int))]),(T.st [(T.str bE),(rt r6 0),(T.int (0:Int))]),(T.st [(T.str bm),(T.int (0:Int)),(T.int (0:Int))])]))
 else
 none
 else
 none
 else
 bg H x1 x2 x3 (T.int (IntKind.wrap .i64 (x4.i - (1:Int)))) (rt (r5.drop 1) 0) x6 x7 x8
 else
 bg H x1 x2 x3 (T.int (IntKind.wrap .i64 (x4.i - (1:Int)))) (rt (r5.drop 1) 0) x6 x7 x8
 else
 bg H x1 x2 x3 (T.int (IntKind.wrap .i64 (x4.i - (1:Int)))) (rt (r1.drop 1) 0) x6 x7 x8
 else
 none
 else
 bg H x1 x2 x3 (T.int (IntKind.wrap .i64 (x4.i - (1:Int)))) (rt (r1.drop 1) 0) x6 x7 x8
 else
 obind (C du [x5,x1,x3,x2,x6,(T.st [(x7.fld 0),(x7.fld 1)]),x8]) fun r7=>
 some [(rt r7 0),(rt (r7.drop 1) 0)]
 else
 obind (C du [x5,x1,x3,x2,x6,(T.st [(x7.fld 0),(x7.fld 1)]),x8]) fun r8=>
 some [(rt r8 0),(rt (r8.drop 1) 0)]
theorem qq (x1:T) (x2:T) (x3:T) (x4:T) (x5:T) (x6:T) (x7:T) (x8:T) {r:List T} (h:Yields (fun k=>iK (hl env k bp) (cl env k) x1 x2 x3 x4 x5 x6 x7 x8) r):Yields (fun k=>cG (hl env k bp) x1 x2 x3 x4 x5 x6 x7 x8) r:=Yields.head (Z:=fun H C=>iK H C x1 x2 x3 x4 x5 x6 x7 x8) (fun H C=>by kernel_rfl) h
noncomputable abbrev iL (H:List Item→CS→R) (C:aF) (x1:T) (x2:T) (x3:T) (x4:T) (x5:T) (x6:T) (x7:T) (x8:T):R:=
 bif (decide (x4.i > (0:Int))) then
 bif (decide ((x8.es.length:Int) < (20:Int))) then
 obind (C fp [x5]) fun r1=>
 bif ((((rt r1 0).fld 0).s).toList==t6.toList) then
 bg H x1 x2 x3 (T.int (IntKind.wrap .i64 (x4.i - (1:Int)))) (rt (r1.drop 1) 0) x6 x7 x8
 else
 bif ((((rt r1 0).fld 0).s).toList==dz.toList) then
 bg H x1 x2 x3 (T.int (IntKind.wrap .i64 (x4.i - (1:Int)))) (rt (r1.drop 1) 0) x6 x7 x8
 else
 bif ((((rt r1 0).fld 0).s).toList==o8.toList) then
 bg H x1 x2 x3 (T.int (IntKind.wrap .i64 (x4.i - (1:Int)))) (rt (r1.drop 1) 0) x6 x7 x8
 else
 bif ((((rt r1 0).fld 0).s).toList==bm.toList) then
 bg H x1 x2 x3 (T.int (IntKind.wrap .i64 (x4.i - (1:Int)))) (rt (r1.drop 1) 0) x6 x7 x8
 else
 obind (C dG [x1,x3,x2,x6,x7,(rt r1 0)]) fun r2=>
 bif ((rt r2 1).i==(0:Int)) then
 bif (decide (x8.es.length + [(rt r1 0)].length≤LIM)) then
 bif (decide (((((rt r2 0).fld 0).es).length:Int) > (0:Int))) then
 bif (decide (0≤(IntKind.wrap .i64 (((((rt r2 0).fld 0).es).length:Int) - (1:Int))))&&decide ((IntKind.wrap .i64 (((((rt r2 0).fld 0).es).length:Int) - (1:Int))).toNat < (((rt r2 0).fld 0).es).length)) then
 bif ((((((rt r2 0).fld 0).nth ((IntKind.wrap .i64 (((((rt r2 0).fld 0).es).length:Int) - (1:Int))).toNat)).fld 0).s).toList==k_b.toList) then
 obind (C aG [(rt (r1.drop 1) 0),(T.int (4:Int))]) fun r3=>
 bif ((rt r3 0).i==(0:Int)) then
 bif (decide (((x8.es ++ [(rt r1 0)]).length:Int) < (17:Int))) then
 obind (C aG [(rt (r3.drop 1) 0),(T.int (5:Int))]) fun r4=>
 bif (decide ((x8.es ++ [(rt r1 0)]).length + [(T.st [(T.str dz),(T.int (IntKind.wrap .i64 (((x8.es ++ [(rt r1 0)]).length:Int)+(3:Int)))),(T.int (0:Int))]),(T.st [(T.str bE),(rt r4 0),(T.int (0:Int))]),(T.st [(T.str bm),(T.int (0:Int)),(T.int (0:Int))])].length≤LIM)) then
 bif (decide (0≤(0:Int))&&(decide ((0:Int)≤(IntKind.wrap .i64 (((((rt r2 0).fld 0).es).length:Int) - (1:Int))))&&(decide ((IntKind.wrap .i64 (((((rt r2 0).fld 0).es).length:Int) - (1:Int)))≤((((rt r2 0).fld 0).es).length:Int))&&decide (((((rt r2 0).fld 0).es).length:Int)≤((((rt r2 0).fld 0).es).length:Int))))) then
 aW H x1 x2 x3 (T.int (IntKind.wrap .i64 (x4.i - (1:Int)))) (rt (r4.drop 1) 0) x6 (T.st [(T.sl (((((rt r2 0).fld 0).es).take ((IntKind.wrap .i64 (((((rt r2 0).fld 0).es).length:Int) - (1:Int))).toNat)).drop 0)),((rt r2 0).fld 1)]) (T.sl ((x8.es ++ [(rt r1 0)]) ++ [(T.st [(T.str dz),(T.int (IntKind.wrap .i64 (((x8.es ++ [(rt r1 0)]).length:Int)+(3:Int)))),(T.int (0:Int))]),(T.st [(T.str bE),(rt r4 0),(T.int (0:Int))]),(T.st [(T.str bm),(T.int (0:Int)),(T.int (0:Int))])]))
 else
 none
 else
 none
 else
 aW H x1 x2 x3 (T.int (IntKind.wrap .i64 (x4.i - (1:Int)))) (rt (r3.drop 1) 0) x6 (T.st [((rt r2 0).fld 0),((rt r2 0).fld 1)]) (T.sl (x8.es ++ [(rt r1 0)]))
 else
 aW H x1 x2 x3 (T.int (IntKind.wrap .i64 (x4.i - (1:Int)))) (rt (r3.drop 1) 0) x6 (T.st [((rt r2 0).fld 0),((rt r2 0).fld 1)]) (T.sl (x8.es ++ [(rt r1 0)]))
 else
 aW H x1 x2 x3 (T.int (IntKind.wrap .i64 (x4.i - (1:Int)))) (rt (r1.drop 1) 0) x6 (T.st [((rt r2 0).fld 0),((rt r2 0).fld 1)]) (T.sl (x8.es ++ [(rt r1 0)]))
 else
 none
 else
 aW H x1 x2 x3 (T.int (IntKind.wrap .i64 (x4.i - (1:Int)))) (rt (r1.drop 1) 0) x6 (T.st [((rt r2 0).fld 0),((rt r2 0).fld 1)]) (T.sl (x8.es ++ [(rt r1 0)]))
 else
 none
 else
 bif (decide ((((x7.fld 0).es).length:Int) > (0:Int))) then
 bif (decide (0≤(IntKind.wrap .i64 ((((x7.fld 0).es).length:Int) - (1:Int))))&&decide ((IntKind.wrap .i64 ((((x7.fld 0).es).length:Int) - (1:Int))).toNat < ((x7.fld 0).es).length)) then
 bif (((((x7.fld 0).nth ((IntKind.wrap .i64 ((((x7.fld 0).es).length:Int) - (1:Int))).toNat)).fld 0).s).toList==k_b.toList) then
 obind (C aG [(rt (r1.drop 1) 0),(T.int (4:Int))]) fun r5=>
 bif ((rt r5 0).i==(0:Int)) then
 bif (decide ((x8.es.length:Int) < (17:Int))) then
 obind (C aG [(rt (r5.drop 1) 0),(T.int (5:Int))]) fun r6=>
 bif (decide (x8.es.length + [(T.st [(T.str dz),(T.int (IntKind.wrap .i64 ((x8.es.length:Int)+(3:Int)))),(T.int (0:Int))]),(T.st [(T.str bE),(rt r6 0),(T.int (0:Int))]),(T.st [(T.str bm),(T.int (0:Int)),(T.int (0:Int))])].length≤LIM)) then
 bif (decide (0≤(0:Int))&&(decide ((0:Int)≤(IntKind.wrap .i64 ((((x7.fld 0).es).length:Int) - (1:Int))))&&(decide ((IntKind.wrap .i64 ((((x7.fld 0).es).length:Int) - (1:Int)))≤(((x7.fld 0).es).length:Int))&&decide ((((x7.fld 0).es).length:Int)≤(((x7.fld 0).es).length:Int))))) then
 cG H x1 x2 x3 (T.int (IntKind.wrap .i64 (x4.i - (1:Int)))) (rt (r6.drop 1) 0) x6 (T.st (x7.fs.set 0 (T.sl ((((x7.fld 0).es).take ((IntKind.wrap .i64 ((((x7.fld 0).es).length:Int) - (1:Int))).toNat)).drop 0)))) (T.sl (x8.es ++ [(T.st [(T.str dz),(T.int (IntKind.wrap .i64 ((x8.es.length:Int)+(3:Int)))),(T.int (0:Int))]),(T.st [(T.str bE),(rt r6 0),(T.int (0:Int))]),(T.st [(T.str bm),(T.int (0:Int)),(T.int (0:Int))])]))
 else
 none
 else
 none
 else
 bg H x1 x2 x3 (T.int (IntKind.wrap .i64 (x4.i - (1:Int)))) (rt (r5.drop 1) 0) x6 x7 x8
 else
 bg H x1 x2 x3 (T.int (IntKind.wrap .i64 (x4.i - (1:Int)))) (rt (r5.drop 1) 0) x6 x7 x8
 else
 bg H x1 x2 x3 (T.int (IntKind.wrap .i64 (x4.i - (1:Int)))) (rt (r1.drop 1) 0) x6 x7 x8
 else
 none
 else
 bg H x1 x2 x3 (T.int (IntKind.wrap .i64 (x4.i - (1:Int)))) (rt (r1.drop 1) 0) x6 x7 x8
 else
 obind (C du [x5,x1,x3,x2,x6,x7,x8]) fun r7=>
 some [(rt r7 0),(rt (r7.drop 1) 0)]
 else
 obind (C du [x5,x1,x3,x2,x6,x7,x8]) fun r8=>
 some [(rt r8 0),(rt (r8.drop 1) 0)]
theorem qr (x1:T) (x2:T) (x3:T) (x4:T) (x5:T) (x6:T) (x7:T) (x8:T) {r:List T} (h:Yields (fun k=>iL (hl env k bp) (cl env k) x1 x2 x3 x4 x5 x6 x7 x8) r):Yields (fun k=>bg (hl env k bp) x1 x2 x3 x4 x5 x6 x7 x8) r:=Yields.head (Z:=fun H C=>iL H C x1 x2 x3 x4 x5 x6 x7 x8) (fun H C=>by kernel_rfl) h
noncomputable abbrev mw (H:List Item→CS→R) (C:aF) (a0:T):R:=
 bif (decide (a0.i < (-9223372036854775807:Int))) then
 some [(T.str (⟨#[45,57,50,50,51,51,55,50,48,51,54,56,53,52,55,55,53,56,48,56]⟩:ByteArray))]
 else
 bif (decide (a0.i < (0:Int))) then
 obind (C dE [(T.int (IntKind.wrap .i64 (0 - a0.i)))]) fun r1=>
 bif (decide ((⟨#[45]⟩:ByteArray).size+((rt r1 0).s).size≤LIM)) then
 some [(T.str ((⟨#[45]⟩:ByteArray)++((rt r1 0).s)))]
 else
 none
 else
 bif (decide (a0.i < (10:Int))) then
 some [(T.str (⟨([(T.int (IntKind.wrap .u8 (IntKind.wrap .i64 ((48:Int)+a0.i))))].map fun c=>UInt8.ofNat c.i.toNat).toArray⟩:ByteArray))]
 else
 bif (!((10:Int)==0)) then
 obind (C dE [(T.int (IntKind.wrap .i64 ((a0.i).tdiv (10:Int))))]) fun r1=>
 bif (decide (((rt r1 0).s).size+(⟨([(T.int (IntKind.wrap .u8 (IntKind.wrap .i64 ((48:Int)+((a0.i:Int).tmod (10:Int))))))].map fun c=>UInt8.ofNat c.i.toNat).toArray⟩:ByteArray).size≤LIM)) then
 some [(T.str (((rt r1 0).s)++(⟨([(T.int (IntKind.wrap .u8 (IntKind.wrap .i64 ((48:Int)+((a0.i:Int).tmod (10:Int))))))].map fun c=>UInt8.ofNat c.i.toNat).toArray⟩:ByteArray)))]
 else
 none
 else
 none
theorem yW (H:List Item→CS→R) (C:aF) (a0:T):bI ja env H C [a0] =
 bif (decide (a0.i < (-9223372036854775807:Int))) then
 some [(T.str (⟨#[45,57,50,50,51,51,55,50,48,51,54,56,53,52,55,55,53,56,48,56]⟩:ByteArray))]
 else
 bif (decide (a0.i < (0:Int))) then
 obind (C dE [(T.int (IntKind.wrap .i64 (0 - a0.i)))]) fun r1=>
 bif (decide ((⟨#[45]⟩:ByteArray).size+((rt r1 0).s).size≤LIM)) then
 some [(T.str ((⟨#[45]⟩:ByteArray)++((rt r1 0).s)))]
 else
 none
 else
 bif (decide (a0.i < (10:Int))) then
 some [(T.str (⟨([(T.int (IntKind.wrap .u8 (IntKind.wrap .i64 ((48:Int)+a0.i))))].map fun c=>UInt8.ofNat c.i.toNat).toArray⟩:ByteArray))]
 else
 bif (!((10:Int)==0)) then
 obind (C dE [(T.int (IntKind.wrap .i64 ((a0.i).tdiv (10:Int))))]) fun r2=>
 bif (!((10:Int)==0)) then
 bif (decide (((rt r2 0).s).size+(⟨([(T.int (IntKind.wrap .u8 (IntKind.wrap .i64 ((48:Int)+((a0.i:Int).tmod (10:Int))))))].map fun c=>UInt8.ofNat c.i.toNat).toArray⟩:ByteArray).size≤LIM)) then
 some [(T.str (((rt r2 0).s)++(⟨([(T.int (IntKind.wrap .u8 (IntKind.wrap .i64 ((48:Int)+((a0.i:Int).tmod (10:Int))))))].map fun c=>UInt8.ofNat c.i.toNat).toArray⟩:ByteArray)))]
 else
 none
 else
 none
 else
 none:=by kernel_rfl
theorem zJ (H:List Item→CS→R) (C:aF) (a0:T):bI ja env H C [a0]=mw H C a0:=by
 refine (yW H C a0).trans ?_
 unfold mw
 all_goals try simp only[bs]
 all_goals cases hc:((decide (a0.i < (-9223372036854775807:Int)))) with
 | true=>
  try simp only[bs]
  all_goals kernel_rfl
 | false=>
  try simp only[bs]
  all_goals cases hc:((decide (a0.i < (0:Int)))) with
  | true=>
   try simp only[bs]
   all_goals refine br fun r1=>?_
   all_goals try simp only[bs]
   all_goals cases hc:((decide ((⟨#[45]⟩:ByteArray).size+((rt r1 0).s).size≤LIM))) with
   | true=>
    try simp only[bs]
    all_goals kernel_rfl
   | false=>
    try simp only[bs]
    all_goals kernel_rfl
  | false=>
   try simp only[bs]
   all_goals cases hc:((decide (a0.i < (10:Int)))) with
   | true=>
    try simp only[bs]
    all_goals kernel_rfl
   | false=>
    try simp only[bs]
    all_goals cases hc:((!((10:Int)==0))) with
    | true=>
     try simp only[bs]
     all_goals refine br fun r1=>?_
     all_goals try simp only[bs]
     all_goals cases hc:((decide (((rt r1 0).s).size+(⟨([(T.int (IntKind.wrap .u8 (IntKind.wrap .i64 ((48:Int)+((a0.i:Int).tmod (10:Int))))))].map fun c=>UInt8.ofNat c.i.toNat).toArray⟩:ByteArray).size≤LIM))) with
     | true=>
      try simp only[bs]
      all_goals kernel_rfl
     | false=>
      try simp only[bs]
      all_goals kernel_rfl
    | false=>
     try simp only[bs]
     all_goals kernel_rfl
theorem A2 (a0:T) {r:List T} (h:Yields (fun k=>mw (hl env k ja) (cl env k) a0) r):Yields (fun k=>cl env k dE [a0]) r:=Yields.call (fi:=ja) rfl rfl (fun H C=>zJ H C a0) h
noncomputable def fw (H:List Item→CS→R) (x1:T) (x2:T):R:=H (bS bw.body 0) ([(0,.val 40 x1),(4,.val 3 x2)],[])
noncomputable def gX (H:List Item→CS→R) (x1:T) (x2:T) (x3:T):R:=H (bS bw.body 1) ([(0,.val 40 x1),(4,.val 3 x2),(5,.val 3 x3)],[])
noncomputable abbrev mt (H:List Item→CS→R) (C:aF) (a0:T):R:=
 bif (decide ((a0.es.length:Int) > (3:Int))) then
 some [(T.int (3:Int)),(T.int (0:Int))]
 else
 fw H a0 (T.int (0:Int))
theorem we (H:List Item→CS→R) (C:aF) (a0:T):bI bw env H C [a0]=mt H C a0:=by kernel_rfl
theorem wu (a0:T) {r:List T} (h:Yields (fun k=>mt (hl env k bw) (cl env k) a0) r):Yields (fun k=>cl env k qx [a0]) r:=Yields.call (fi:=bw) rfl rfl (fun H C=>we H C a0) h
noncomputable abbrev gN (H:List Item→CS→R) (C:aF) (x1:T) (x2:T):R:=
 bif (decide (x2.i < (x1.es.length:Int))) then
 bif (decide (0≤x2.i)&&decide (x2.i.toNat < x1.es.length)) then
 bif (decide ((((x1.nth x2.i.toNat).es).length:Int) > (3:Int))) then
 some [x2,(T.int (3:Int))]
 else
 gX H x1 x2 (T.int (0:Int))
 else
 none
 else
 some [(T.int (-1:Int)),(T.int (-1:Int))]
theorem tO (H:List Item→CS→R) (C:aF) (x1:T) (x2:T):iU bw env H C (bS bw.body 0) ([(0,.val 40 x1),(4,.val 3 x2)],[])=gN H C x1 x2:=by kernel_rfl
theorem pc (x1:T) (x2:T) {r:List T} (h:Yields (fun k=>gN (hl env k bw) (cl env k) x1 x2) r):Yields (fun k=>fw (hl env k bw) x1 x2) r:=Yields.head (fun H C=>tO H C x1 x2) h
noncomputable abbrev gO (H:List Item→CS→R) (C:aF) (x1:T) (x2:T) (x3:T):R:=
 bif (decide (0≤x2.i)&&decide (x2.i.toNat < x1.es.length)) then
 bif (decide (x3.i < (((x1.nth x2.i.toNat).es).length:Int))) then
 obind (C mh [x1,x2,x3]) fun r1=>
 bif (!(rt r1 0).b) then
 some [x2,x3]
 else
 gX H x1 x2 (T.int (IntKind.wrap .i64 (x3.i+(1:Int))))
 else
 fw H x1 (T.int (IntKind.wrap .i64 (x2.i+(1:Int))))
 else
 none
theorem tP (H:List Item→CS→R) (C:aF) (x1:T) (x2:T) (x3:T):iU bw env H C (bS bw.body 1) ([(0,.val 40 x1),(4,.val 3 x2),(5,.val 3 x3)],[])=gO H C x1 x2 x3:=by kernel_rfl
theorem pf (x1:T) (x2:T) (x3:T) {r:List T} (h:Yields (fun k=>gO (hl env k bw) (cl env k) x1 x2 x3) r):Yields (fun k=>gX (hl env k bw) x1 x2 x3) r:=Yields.head (fun H C=>tP H C x1 x2 x3) h
noncomputable def lU (H:List Item→CS→R) (x1:T) (x2:T) (x3:T) (x4:T):R:=H (bS bo.body 0) ([(1,.pref 27 1 []),(2,.pref 100 2 []),(3,.pref 100 3 []),(4,.val 3 x1)],[(1,⟨27,x2,.fz,true⟩),(2,⟨100,x3,.dp,true⟩),(3,⟨100,x4,(.st [.dp,.dp]),true⟩)])
noncomputable def eP (H:List Item→CS→R) (x1:T) (x2:T) (x3:T) (x4:T):R:=H (bS bo.body 0) ([(1,.pref 27 1 []),(2,.pref 100 2 []),(3,.pref 100 3 []),(4,.val 3 x1)],[(1,⟨27,x2,.fz,true⟩),(2,⟨100,x3,.dp,true⟩),(3,⟨100,x4,(.st [.dp,(.sl .dp)]),true⟩)])
noncomputable def lV (H:List Item→CS→R) (x1:T) (x2:T) (x3:T) (x4:T):R:=H (bS bo.body 1) ([(1,.pref 27 1 []),(2,.pref 100 2 []),(3,.pref 100 3 []),(6,.val 3 x1)],[(1,⟨27,x2,.fz,true⟩),(2,⟨100,x3,.dp,true⟩),(3,⟨100,x4,(.st [.dp,.dp]),true⟩)])
noncomputable def fS (H:List Item→CS→R) (x1:T) (x2:T) (x3:T) (x4:T):R:=H (bS bo.body 1) ([(1,.pref 27 1 []),(2,.pref 100 2 []),(3,.pref 100 3 []),(6,.val 3 x1)],[(1,⟨27,x2,.fz,true⟩),(2,⟨100,x3,.dp,true⟩),(3,⟨100,x4,(.st [.dp,(.sl .dp)]),true⟩)])
noncomputable abbrev nl (H:List Item→CS→R) (C:aF) (a0:T):R:=
 lU H (T.int (0:Int)) a0 (T.st [(T.sl []),(T.sl [])]) (T.st [(T.sl []),(T.sl [])])
theorem xn (a0:T) {r:List T} (h:Yields (fun k=>nl (hl env k bo) (cl env k) a0) r):Yields (fun k=>cl env k nc [a0]) r:=Yields.call (fi:=bo) (Z:=fun H C=>nl H C a0) rfl rfl (fun H C=>by kernel_rfl) h
noncomputable abbrev lB (H:List Item→CS→R) (C:aF) (x1:T) (x2:T) (x3:T) (x4:T):R:=
 bif (decide (x1.i < (((x2.fld 1).es).length:Int))) then
 bif (decide (0≤x1.i)&&decide (x1.i.toNat < ((x2.fld 1).es).length)) then
 bif (decide (0≤x1.i)&&decide (x1.i.toNat < ((x2.fld 1).es).length)) then
 obind (C bO [((x2.fld 1).nth x1.i.toNat)]) fun r1=>
 bif (rt r1 0).b then
 bif (decide (((x4.fld 1).es).length + [(T.st [((x2.fld 1).nth x1.i.toNat),(T.sl [(T.int (9:Int))])])].length≤LIM)) then
 eP H (T.int (IntKind.wrap .i64 (x1.i+(1:Int)))) x2 x3 (T.st (x4.fs.set 1 (T.sl ((x4.fld 1).es ++ [(T.st [((x2.fld 1).nth x1.i.toNat),(T.sl [(T.int (9:Int))])])]))))
 else
 none
 else
 bif (decide (((x4.fld 1).es).length + [(T.st [((x2.fld 1).nth x1.i.toNat),(T.sl [])])].length≤LIM)) then
 eP H (T.int (IntKind.wrap .i64 (x1.i+(1:Int)))) x2 x3 (T.st (x4.fs.set 1 (T.sl ((x4.fld 1).es ++ [(T.st [((x2.fld 1).nth x1.i.toNat),(T.sl [])])]))))
 else
 none
 else
 none
 else
 none
 else
 lV H (T.int (0:Int)) x2 x3 x4
theorem uP (x1:T) (x2:T) (x3:T) (x4:T) {r:List T} (h:Yields (fun k=>lB (hl env k bo) (cl env k) x1 x2 x3 x4) r):Yields (fun k=>lU (hl env k bo) x1 x2 x3 x4) r:=Yields.head (Z:=fun H C=>lB H C x1 x2 x3 x4) (fun H C=>by kernel_rfl) h
noncomputable abbrev iD (H:List Item→CS→R) (C:aF) (x1:T) (x2:T) (x3:T) (x4:T):R:=
 bif (decide (x1.i < (((x2.fld 1).es).length:Int))) then
 bif (decide (0≤x1.i)&&decide (x1.i.toNat < ((x2.fld 1).es).length)) then
 bif (decide (0≤x1.i)&&decide (x1.i.toNat < ((x2.fld 1).es).length)) then
 obind (C bO [((x2.fld 1).nth x1.i.toNat)]) fun r1=>
 bif (rt r1 0).b then
 bif (decide (((x4.fld 1).es).length + [(T.st [((x2.fld 1).nth x1.i.toNat),(T.sl [(T.int (9:Int))])])].length≤LIM)) then
 eP H (T.int (IntKind.wrap .i64 (x1.i+(1:Int)))) x2 x3 (T.st (x4.fs.set 1 (T.sl ((x4.fld 1).es ++ [(T.st [((x2.fld 1).nth x1.i.toNat),(T.sl [(T.int (9:Int))])])]))))
 else
 none
 else
 bif (decide (((x4.fld 1).es).length + [(T.st [((x2.fld 1).nth x1.i.toNat),(T.sl [])])].length≤LIM)) then
 eP H (T.int (IntKind.wrap .i64 (x1.i+(1:Int)))) x2 x3 (T.st (x4.fs.set 1 (T.sl ((x4.fld 1).es ++ [(T.st [((x2.fld 1).nth x1.i.toNat),(T.sl [])])]))))
 else
 none
 else
 none
 else
 none
 else
 fS H (T.int (0:Int)) x2 x3 x4
theorem qj (x1:T) (x2:T) (x3:T) (x4:T) {r:List T} (h:Yields (fun k=>iD (hl env k bo) (cl env k) x1 x2 x3 x4) r):Yields (fun k=>eP (hl env k bo) x1 x2 x3 x4) r:=Yields.head (Z:=fun H C=>iD H C x1 x2 x3 x4) (fun H C=>by kernel_rfl) h
noncomputable abbrev lC (H:List Item→CS→R) (C:aF) (x1:T) (x2:T) (x3:T) (x4:T):R:=
 bif (decide (x1.i < (((x2.fld 3).es).length:Int))) then
 bif (decide (((x4.fld 1).es).length + [(T.st [(T.str (⟨#[]⟩:ByteArray)),(T.sl [])])].length≤LIM)) then
 fS H (T.int (IntKind.wrap .i64 (x1.i+(1:Int)))) x2 x3 (T.st (x4.fs.set 1 (T.sl ((x4.fld 1).es ++ [(T.st [(T.str (⟨#[]⟩:ByteArray)),(T.sl [])])]))))
 else
 none
 else
 some [(T.st [(x4.fld 0),(x4.fld 1)])]
theorem uQ (x1:T) (x2:T) (x3:T) (x4:T) {r:List T} (h:Yields (fun k=>lC (hl env k bo) (cl env k) x1 x2 x3 x4) r):Yields (fun k=>lV (hl env k bo) x1 x2 x3 x4) r:=Yields.head (Z:=fun H C=>lC H C x1 x2 x3 x4) (fun H C=>by kernel_rfl) h
noncomputable abbrev iE (H:List Item→CS→R) (C:aF) (x1:T) (x2:T) (x3:T) (x4:T):R:=
 bif (decide (x1.i < (((x2.fld 3).es).length:Int))) then
 bif (decide (((x4.fld 1).es).length + [(T.st [(T.str (⟨#[]⟩:ByteArray)),(T.sl [])])].length≤LIM)) then
 fS H (T.int (IntKind.wrap .i64 (x1.i+(1:Int)))) x2 x3 (T.st (x4.fs.set 1 (T.sl ((x4.fld 1).es ++ [(T.st [(T.str (⟨#[]⟩:ByteArray)),(T.sl [])])]))))
 else
 none
 else
 some [(T.st [(x4.fld 0),(x4.fld 1)])]
theorem qk (x1:T) (x2:T) (x3:T) (x4:T) {r:List T} (h:Yields (fun k=>iE (hl env k bo) (cl env k) x1 x2 x3 x4) r):Yields (fun k=>fS (hl env k bo) x1 x2 x3 x4) r:=Yields.head (Z:=fun H C=>iE H C x1 x2 x3 x4) (fun H C=>by kernel_rfl) h
noncomputable abbrev oP (H:List Item→CS→R) (C:aF) (a0 a1 a2 a3 a4 a5:T):R:=
 obind (C nd [a4]) fun r1=>
 obind (C lv [(T.st [a0,a1,a2,a3,(T.st [((rt r1 0).fld 0),((rt r1 0).fld 1)]),(T.int (0:Int))]),a5]) fun r2=>
 bif (((rt (r2.drop 0) 0).fld 5).i != (0:Int)) then
 some [(T.st [(T.sl []),(T.sl [])]),((rt (r2.drop 0) 0).fld 5)]
 else
 some [(T.st [(((rt (r2.drop 0) 0).fld 4).fld 0),(((rt (r2.drop 0) 0).fld 4).fld 1)]),(T.int (0:Int))]
theorem yv (a0 a1 a2 a3 a4 a5:T) {r:List T} (h:Yields (fun k=>oP (hl env k nI) (cl env k) a0 a1 a2 a3 a4 a5) r):Yields (fun k=>cl env k dG [a0,a1,a2,a3,a4,a5]) r:=Yields.call (fi:=nI) (Z:=fun H C=>oP H C a0 a1 a2 a3 a4 a5) rfl rfl (fun H C=>by kernel_rfl) h
noncomputable def mS (H:List Item→CS→R) (x1:T) (x2:T) (x3:T) (x4:T) (x5:T) (x6:T) (x7:T) (x8:T) (x9:T):R:=H (bS aV.body 0) ([(0,.pref 70 100000 []),(1,.val 33 x1),(2,.val 40 x2),(3,.val 3 x3),(6,.sref 25 100006 []),(11,.pref 27 11 []),(12,.pref 100 12 []),(15,.val 4 x4),(16,.val 3 x5)],[(100000,⟨70,x6,(.st [.fo,.dp]),true⟩),(100006,⟨25,x7,.dp,false⟩),(11,⟨27,x8,.fz,true⟩),(12,⟨100,x9,.fz,true⟩)])
noncomputable def dA (H:List Item→CS→R) (x1:T) (x2:T) (x3:T) (x4:T) (x5:T) (x6:T) (x7:T) (x8:T) (x9:T):R:=H (bS aV.body 0) ([(0,.pref 70 100000 []),(1,.val 33 x1),(2,.val 40 x2),(3,.val 3 x3),(6,.sref 25 6 []),(11,.pref 27 11 []),(12,.pref 100 12 []),(15,.val 4 x4),(16,.val 3 x5)],[(100000,⟨70,x6,(.st [.fo,.dp]),true⟩),(6,⟨25,x7,.dp,false⟩),(11,⟨27,x8,.fz,true⟩),(12,⟨100,x9,.fz,true⟩)])
noncomputable def fk (H:List Item→CS→R) (x1:T) (x2:T) (x3:T) (x4:T) (x5:T) (x6:T) (x7:T) (x8:T) (x9:T) (x10:T) (x11:T):R:=H (bS aV.body 1) ([(0,.pref 70 100000 []),(1,.val 33 x1),(2,.val 40 x2),(3,.val 3 x3),(6,.sref 25 100006 []),(11,.pref 27 11 []),(12,.pref 100 12 []),(15,.val 4 x4),(16,.val 3 x5),(17,.val 3 x6),(18,.val 3 x7)],[(100000,⟨70,x8,(.st [.fo,.dp]),true⟩),(100006,⟨25,x9,.dp,false⟩),(11,⟨27,x10,.fz,true⟩),(12,⟨100,x11,.fz,true⟩)])
noncomputable def fl (H:List Item→CS→R) (x1:T) (x2:T) (x3:T) (x4:T) (x5:T) (x6:T) (x7:T) (x8:T) (x9:T):R:=H (bS aV.body 2) ([(0,.pref 70 100000 []),(1,.val 33 x1),(2,.val 40 x2),(3,.val 3 x3),(6,.sref 25 100006 []),(11,.pref 27 11 []),(12,.pref 100 12 []),(15,.val 4 x4),(19,.val 3 x5)],[(100000,⟨70,x6,(.st [.fo,.dp]),true⟩),(100006,⟨25,x7,.dp,false⟩),(11,⟨27,x8,.fz,true⟩),(12,⟨100,x9,.fz,true⟩)])
noncomputable def fm (H:List Item→CS→R) (x1:T) (x2:T) (x3:T) (x4:T) (x5:T) (x6:T) (x7:T) (x8:T) (x9:T) (x10:T) (x11:T):R:=H (bS aV.body 1) ([(0,.pref 70 100000 []),(1,.val 33 x1),(2,.val 40 x2),(3,.val 3 x3),(6,.sref 25 6 []),(11,.pref 27 11 []),(12,.pref 100 12 []),(15,.val 4 x4),(16,.val 3 x5),(17,.val 3 x6),(18,.val 3 x7)],[(100000,⟨70,x8,(.st [.fo,.dp]),true⟩),(6,⟨25,x9,.dp,false⟩),(11,⟨27,x10,.fz,true⟩),(12,⟨100,x11,.fz,true⟩)])
noncomputable def dB (H:List Item→CS→R) (x1:T) (x2:T) (x3:T) (x4:T) (x5:T) (x6:T) (x7:T) (x8:T) (x9:T):R:=H (bS aV.body 2) ([(0,.pref 70 100000 []),(1,.val 33 x1),(2,.val 40 x2),(3,.val 3 x3),(6,.sref 25 6 []),(11,.pref 27 11 []),(12,.pref 100 12 []),(15,.val 4 x4),(19,.val 3 x5)],[(100000,⟨70,x6,(.st [.fo,.dp]),true⟩),(6,⟨25,x7,.dp,false⟩),(11,⟨27,x8,.fz,true⟩),(12,⟨100,x9,.fz,true⟩)])
noncomputable abbrev oQ (H:List Item→CS→R) (C:aF) (a0 a1 a2 a3 a4 a5 a6:T):R:=
 mS H a1 a2 a3 (T.bool true) (T.int (0:Int)) a0 a6 a4 a5
theorem yw (a0 a1 a2 a3 a4 a5 a6:T) {r:List T} (h:Yields (fun k=>oQ (hl env k aV) (cl env k) a0 a1 a2 a3 a4 a5 a6) r):Yields (fun k=>cl env k du [a0,a1,a2,a3,a4,a5,a6]) r:=Yields.call (fi:=aV) (Z:=fun H C=>oQ H C a0 a1 a2 a3 a4 a5 a6) rfl rfl (fun H C=>by kernel_rfl) h
noncomputable abbrev mC (H:List Item→CS→R) (C:aF) (x1:T) (x2:T) (x3:T) (x4:T) (x5:T) (x6:T) (x7:T) (x8:T) (x9:T):R:=
 bif x4.b then
 bif (decide (x5.i < (30:Int))) then
 bif (decide ((((x9.fld 0).es).length:Int) > (0:Int))) then
 obind (C kV [x6,x1,x2,x3,x8,x9,x7]) fun r1=>
 dA H x1 x2 x3 (rt r1 2) (T.int (IntKind.wrap .i64 (x5.i+(1:Int)))) (rt (r1.drop 3) 0) (rt r1 1) x8 (rt r1 0)
 else
 fk H x1 x2 x3 x4 x5 (T.int (-1:Int)) (T.int (0:Int)) x6 x7 x8 x9
 else
 fl H x1 x2 x3 x4 (T.int (0:Int)) x6 x7 x8 x9
 else
 fl H x1 x2 x3 x4 (T.int (0:Int)) x6 x7 x8 x9
theorem wA (x1:T) (x2:T) (x3:T) (x4:T) (x5:T) (x6:T) (x7:T) (x8:T) (x9:T) {r:List T} (h:Yields (fun k=>mC (hl env k aV) (cl env k) x1 x2 x3 x4 x5 x6 x7 x8 x9) r):Yields (fun k=>mS (hl env k aV) x1 x2 x3 x4 x5 x6 x7 x8 x9) r:=Yields.head (Z:=fun H C=>mC H C x1 x2 x3 x4 x5 x6 x7 x8 x9) (fun H C=>by kernel_rfl) h
noncomputable abbrev jx (H:List Item→CS→R) (C:aF) (x1:T) (x2:T) (x3:T) (x4:T) (x5:T) (x6:T) (x7:T) (x8:T) (x9:T):R:=
 bif x4.b then
 bif (decide (x5.i < (30:Int))) then
 bif (decide ((((x9.fld 0).es).length:Int) > (0:Int))) then
 obind (C kV [x6,x1,x2,x3,x8,x9,x7]) fun r1=>
 dA H x1 x2 x3 (rt r1 2) (T.int (IntKind.wrap .i64 (x5.i+(1:Int)))) (rt (r1.drop 3) 0) (rt r1 1) x8 (rt r1 0)
 else
 fm H x1 x2 x3 x4 x5 (T.int (-1:Int)) (T.int (0:Int)) x6 x7 x8 x9
 else
 dB H x1 x2 x3 x4 (T.int (0:Int)) x6 x7 x8 x9
 else
 dB H x1 x2 x3 x4 (T.int (0:Int)) x6 x7 x8 x9
theorem qM (x1:T) (x2:T) (x3:T) (x4:T) (x5:T) (x6:T) (x7:T) (x8:T) (x9:T) {r:List T} (h:Yields (fun k=>jx (hl env k aV) (cl env k) x1 x2 x3 x4 x5 x6 x7 x8 x9) r):Yields (fun k=>dA (hl env k aV) x1 x2 x3 x4 x5 x6 x7 x8 x9) r:=Yields.head (Z:=fun H C=>jx H C x1 x2 x3 x4 x5 x6 x7 x8 x9) (fun H C=>by kernel_rfl) h
noncomputable abbrev jy (H:List Item→CS→R) (C:aF) (x1:T) (x2:T) (x3:T) (x4:T) (x5:T) (x6:T) (x7:T) (x8:T) (x9:T) (x10:T) (x11:T):R:=
 bif (decide (x7.i < (((x11.fld 1).es).length:Int))) then
 bif (decide (0≤x7.i)&&decide (x7.i.toNat < ((x11.fld 1).es).length)) then
 bif (!(((((x11.fld 1).nth x7.i.toNat).fld 0).s).toList==(⟨#[]⟩:ByteArray).toList)) then
 bif (decide (0≤x7.i)&&decide (x7.i.toNat < ((x11.fld 1).es).length)) then
 obind (C eD [x2,(((x11.fld 1).nth x7.i.toNat).fld 0)]) fun r1=>
 obind (C bH [(rt r1 0),(T.int (2:Int))]) fun r2=>
 bif (!(rt r2 0).b) then
 fk H x1 x2 x3 x4 x5 x7 (T.int (IntKind.wrap .i64 (x7.i+(1:Int)))) x8 x9 x10 x11
 else
 fk H x1 x2 x3 x4 x5 x6 (T.int (IntKind.wrap .i64 (x7.i+(1:Int)))) x8 x9 x10 x11
 else
 none
 else
 fk H x1 x2 x3 x4 x5 x6 (T.int (IntKind.wrap .i64 (x7.i+(1:Int)))) x8 x9 x10 x11
 else
 none
 else
 bif (decide (x6.i < (0:Int))) then
 fl H x1 x2 x3 x4 (T.int (0:Int)) x8 x9 x10 x11
 else
 obind (C bk [x1,x2,x3,x10,x11,x9,(T.st [(T.str od),x6,(T.int (0:Int))])]) fun r3=>
 dA H x1 x2 x3 (rt r3 2) (T.int (IntKind.wrap .i64 (x5.i+(1:Int)))) x8 (rt r3 1) x10 (rt r3 0)
theorem qN (x1:T) (x2:T) (x3:T) (x4:T) (x5:T) (x6:T) (x7:T) (x8:T) (x9:T) (x10:T) (x11:T) {r:List T} (h:Yields (fun k=>jy (hl env k aV) (cl env k) x1 x2 x3 x4 x5 x6 x7 x8 x9 x10 x11) r):Yields (fun k=>fk (hl env k aV) x1 x2 x3 x4 x5 x6 x7 x8 x9 x10 x11) r:=Yields.head (Z:=fun H C=>jy H C x1 x2 x3 x4 x5 x6 x7 x8 x9 x10 x11) (fun H C=>by kernel_rfl) h
noncomputable abbrev mD (H:List Item→CS→R) (C:aF) (x1:T) (x2:T) (x3:T) (x4:T) (x5:T) (x6:T) (x7:T) (x8:T) (x9:T):R:=
 bif (decide (x5.i < (((x8.fld 2).es).length:Int))) then
 bif x4.b then
 bif (decide (0≤x5.i)&&decide (x5.i.toNat < ((x8.fld 2).es).length)) then
 obind (C dv [x1,x2,x3,x8,x9,x7,((x8.fld 2).nth x5.i.toNat)]) fun r1=>
 dB H x1 x2 x3 (rt r1 2) (T.int (IntKind.wrap .i64 (x5.i+(1:Int)))) x6 (rt r1 1) x8 (rt r1 0)
 else
 none
 else
 bif x4.b then
 obind (C bk [x1,x2,x3,x8,x9,x7,(T.st [(T.str o8),(T.int (0:Int)),(T.int (0:Int))])]) fun r2=>
 bif (!(rt r2 2).b) then
 bif (decide (((rt r2 1).es).length + [(T.st [(T.str bE),(T.int (9:Int)),(T.int (0:Int))]),(T.st [(T.str bm),(T.int (0:Int)),(T.int (0:Int))])].length≤LIM)) then
 some [(T.sl ((rt r2 1).es ++ [(T.st [(T.str bE),(T.int (9:Int)),(T.int (0:Int))]),(T.st [(T.str bm),(T.int (0:Int)),(T.int (0:Int))])])),x6]
 else
 none
 else
 some [(rt r2 1),x6]
 else
 bif (!x4.b) then
 bif (decide (x7.es.length + [(T.st [(T.str bE),(T.int (9:Int)),(T.int (0:Int))]),(T.st [(T.str bm),(T.int (0:Int)),(T.int (0:Int))])].length≤LIM)) then
 some [(T.sl (x7.es ++ [(T.st [(T.str bE),(T.int (9:Int)),(T.int (0:Int))]),(T.st [(T.str bm),(T.int (0:Int)),(T.int (0:Int))])])),x6]
 else
 none
 else
 some [x7,x6]
 else
 bif x4.b then
 obind (C bk [x1,x2,x3,x8,x9,x7,(T.st [(T.str o8),(T.int (0:Int)),(T.int (0:Int))])]) fun r3=>
 bif (!(rt r3 2).b) then
 bif (decide (((rt r3 1).es).length + [(T.st [(T.str bE),(T.int (9:Int)),(T.int (0:Int))]),(T.st [(T.str bm),(T.int (0:Int)),(T.int (0:Int))])].length≤LIM)) then
 some [(T.sl ((rt r3 1).es ++ [(T.st [(T.str bE),(T.int (9:Int)),(T.int (0:Int))]),(T.st [(T.str bm),(T.int (0:Int)),(T.int (0:Int))])])),x6]
 else
 none
 else
 some [(rt r3 1),x6]
 else
 bif (!x4.b) then
 bif (decide (x7.es.length + [(T.st [(T.str bE),(T.int (9:Int)),(T.int (0:Int))]),(T.st [(T.str bm),(T.int (0:Int)),(T.int (0:Int))])].length≤LIM)) then
 some [(T.sl (x7.es ++ [(T.st [(T.str bE),(T.int (9:Int)),(T.int (0:Int))]),(T.st [(T.str bm),(T.int (0:Int)),(T.int (0:Int))])])),x6]
 else
 none
 else
 some [x7,x6]
theorem wB (x1:T) (x2:T) (x3:T) (x4:T) (x5:T) (x6:T) (x7:T) (x8:T) (x9:T) {r:List T} (h:Yields (fun k=>mD (hl env k aV) (cl env k) x1 x2 x3 x4 x5 x6 x7 x8 x9) r):Yields (fun k=>fl (hl env k aV) x1 x2 x3 x4 x5 x6 x7 x8 x9) r:=Yields.head (Z:=fun H C=>mD H C x1 x2 x3 x4 x5 x6 x7 x8 x9) (fun H C=>by kernel_rfl) h
noncomputable abbrev jz (H:List Item→CS→R) (C:aF) (x1:T) (x2:T) (x3:T) (x4:T) (x5:T) (x6:T) (x7:T) (x8:T) (x9:T) (x10:T) (x11:T):R:=
 bif (decide (x7.i < (((x11.fld 1).es).length:Int))) then
 bif (decide (0≤x7.i)&&decide (x7.i.toNat < ((x11.fld 1).es).length)) then
 bif (!(((((x11.fld 1).nth x7.i.toNat).fld 0).s).toList==(⟨#[]⟩:ByteArray).toList)) then
 bif (decide (0≤x7.i)&&decide (x7.i.toNat < ((x11.fld 1).es).length)) then
 obind (C eD [x2,(((x11.fld 1).nth x7.i.toNat).fld 0)]) fun r1=>
 obind (C bH [(rt r1 0),(T.int (2:Int))]) fun r2=>
 bif (!(rt r2 0).b) then
 fm H x1 x2 x3 x4 x5 x7 (T.int (IntKind.wrap .i64 (x7.i+(1:Int)))) x8 x9 x10 x11
 else
 fm H x1 x2 x3 x4 x5 x6 (T.int (IntKind.wrap .i64 (x7.i+(1:Int)))) x8 x9 x10 x11
 else
 none
 else
 fm H x1 x2 x3 x4 x5 x6 (T.int (IntKind.wrap .i64 (x7.i+(1:Int)))) x8 x9 x10 x11
 else
 none
 else
 bif (decide (x6.i < (0:Int))) then
 dB H x1 x2 x3 x4 (T.int (0:Int)) x8 x9 x10 x11
 else
 obind (C bk [x1,x2,x3,x10,x11,x9,(T.st [(T.str od),x6,(T.int (0:Int))])]) fun r3=>
 dA H x1 x2 x3 (rt r3 2) (T.int (IntKind.wrap .i64 (x5.i+(1:Int)))) x8 (rt r3 1) x10 (rt r3 0)
theorem qO (x1:T) (x2:T) (x3:T) (x4:T) (x5:T) (x6:T) (x7:T) (x8:T) (x9:T) (x10:T) (x11:T) {r:List T} (h:Yields (fun k=>jz (hl env k aV) (cl env k) x1 x2 x3 x4 x5 x6 x7 x8 x9 x10 x11) r):Yields (fun k=>fm (hl env k aV) x1 x2 x3 x4 x5 x6 x7 x8 x9 x10 x11) r:=Yields.head (Z:=fun H C=>jz H C x1 x2 x3 x4 x5 x6 x7 x8 x9 x10 x11) (fun H C=>by kernel_rfl) h
noncomputable abbrev jA (H:List Item→CS→R) (C:aF) (x1:T) (x2:T) (x3:T) (x4:T) (x5:T) (x6:T) (x7:T) (x8:T) (x9:T):R:=
 bif (decide (x5.i < (((x8.fld 2).es).length:Int))) then
 bif x4.b then
 bif (decide (0≤x5.i)&&decide (x5.i.toNat < ((x8.fld 2).es).length)) then
 obind (C dv [x1,x2,x3,x8,x9,x7,((x8.fld 2).nth x5.i.toNat)]) fun r1=>
 dB H x1 x2 x3 (rt r1 2) (T.int (IntKind.wrap .i64 (x5.i+(1:Int)))) x6 (rt r1 1) x8 (rt r1 0)
 else
 none
 else
 bif x4.b then
 obind (C bk [x1,x2,x3,x8,x9,x7,(T.st [(T.str o8),(T.int (0:Int)),(T.int (0:Int))])]) fun r2=>
 bif (!(rt r2 2).b) then
 bif (decide (((rt r2 1).es).length + [(T.st [(T.str bE),(T.int (9:Int)),(T.int (0:Int))]),(T.st [(T.str bm),(T.int (0:Int)),(T.int (0:Int))])].length≤LIM)) then
 some [(T.sl ((rt r2 1).es ++ [(T.st [(T.str bE),(T.int (9:Int)),(T.int (0:Int))]),(T.st [(T.str bm),(T.int (0:Int)),(T.int (0:Int))])])),x6]
 else
 none
 else
 some [(rt r2 1),x6]
 else
 bif (!x4.b) then
 bif (decide (x7.es.length + [(T.st [(T.str bE),(T.int (9:Int)),(T.int (0:Int))]),(T.st [(T.str bm),(T.int (0:Int)),(T.int (0:Int))])].length≤LIM)) then
 some [(T.sl (x7.es ++ [(T.st [(T.str bE),(T.int (9:Int)),(T.int (0:Int))]),(T.st [(T.str bm),(T.int (0:Int)),(T.int (0:Int))])])),x6]
 else
 none
 else
 some [x7,x6]
 else
 bif x4.b then
 obind (C bk [x1,x2,x3,x8,x9,x7,(T.st [(T.str o8),(T.int (0:Int)),(T.int (0:Int))])]) fun r3=>
 bif (!(rt r3 2).b) then
 bif (decide (((rt r3 1).es).length + [(T.st [(T.str bE),(T.int (9:Int)),(T.int (0:Int))]),(T.st [(T.str bm),(T.int (0:Int)),(T.int (0:Int))])].length≤LIM)) then
 some [(T.sl ((rt r3 1).es ++ [(T.st [(T.str bE),(T.int (9:Int)),(T.int (0:Int))]),(T.st [(T.str bm),(T.int (0:Int)),(T.int (0:Int))])])),x6]
 else
 none
 else
 some [(rt r3 1),x6]
 else
 bif (!x4.b) then
 bif (decide (x7.es.length + [(T.st [(T.str bE),(T.int (9:Int)),(T.int (0:Int))]),(T.st [(T.str bm),(T.int (0:Int)),(T.int (0:Int))])].length≤LIM)) then
 some [(T.sl (x7.es ++ [(T.st [(T.str bE),(T.int (9:Int)),(T.int (0:Int))]),(T.st [(T.str bm),(T.int (0:Int)),(T.int (0:Int))])])),x6]
 else
 none
 else
 some [x7,x6]
theorem qP (x1:T) (x2:T) (x3:T) (x4:T) (x5:T) (x6:T) (x7:T) (x8:T) (x9:T) {r:List T} (h:Yields (fun k=>jA (hl env k aV) (cl env k) x1 x2 x3 x4 x5 x6 x7 x8 x9) r):Yields (fun k=>dB (hl env k aV) x1 x2 x3 x4 x5 x6 x7 x8 x9) r:=Yields.head (Z:=fun H C=>jA H C x1 x2 x3 x4 x5 x6 x7 x8 x9) (fun H C=>by kernel_rfl) h
noncomputable def bQ (H:List Item→CS→R) (x1:T) (x2:T) (x3:T) (x4:T) (x5:T):R:=H (bS bV.body 0) ([(0,.val 40 x1),(1,.val 3 x2),(2,.val 3 x3),(7,.pref 64 7 []),(8,.val 3 x4)],[(7,⟨64,x5,.fz,true⟩)])
noncomputable abbrev ju (H:List Item→CS→R) (C:aF) (a0 a1 a2:T):R:=
 bif (decide (0≤a1.i)&&decide (a1.i.toNat < a0.es.length)) then
 bif (decide (0≤a2.i)&&decide (a2.i.toNat < ((a0.nth a1.i.toNat).es).length)) then
 obind (C dZ [(((a0.nth a1.i.toNat).nth a2.i.toNat).fld 0),(T.int (0:Int)),(T.int (15:Int))]) fun r1=>
 bif (!(rt r1 0).b) then
 some [(T.bool false)]
 else
 bif (decide ((((((a0.nth a1.i.toNat).nth a2.i.toNat).fld 1).es).length:Int) > (3:Int))) then
 some [(T.bool false)]
 else
 bQ H a0 a1 a2 (T.int (0:Int)) ((a0.nth a1.i.toNat).nth a2.i.toNat)
 else
 none
 else
 none
theorem vp (H:List Item→CS→R) (C:aF) (a0 a1 a2:T):bI bV env H C [a0,a1,a2] =
 bif (decide (0≤a1.i)&&decide (a1.i.toNat < a0.es.length)) then
 bif (decide (0≤a2.i)&&decide (a2.i.toNat < ((a0.nth a1.i.toNat).es).length)) then
 obind (C dZ [(((a0.nth a1.i.toNat).nth a2.i.toNat).fld 0),(T.int (0:Int)),(T.int (15:Int))]) fun r1=>
 bif (((!(rt r1 0).b)==false)||(!((!(rt r1 0).b)==false))) then
 bif (((!(rt r1 0).b)==false)||(!((!(rt r1 0).b)==false))) then
 bif (((((!(rt r1 0).b)==false)&&true)&&true)||(!((!(rt r1 0).b)==false))) then
 bif (bif (!(rt r1 0).b) then true else ((!(rt r1 0).b)==false)) then
 bif (bif (!(rt r1 0).b) then (T.bool true) else (T.bool (decide ((((((a0.nth a1.i.toNat).nth a2.i.toNat).fld 1).es).length:Int) > (3:Int))))).b then
 some [(T.bool false)]
 else
 bQ H a0 a1 a2 (T.int (0:Int)) ((a0.nth a1.i.toNat).nth a2.i.toNat)
 else
 none
 else
 none
 else
 none
 else
 none
 else
 none
 else
 none:=by kernel_rfl
theorem wg (H:List Item→CS→R) (C:aF) (a0 a1 a2:T):bI bV env H C [a0,a1,a2]=ju H C a0 a1 a2:=by
 refine (vp H C a0 a1 a2).trans ?_
 unfold ju
 all_goals try simp only[bs]
 all_goals cases hc:((decide (0≤a1.i)&&decide (a1.i.toNat < a0.es.length))) with
 | true=>
  try simp only[bs]
  all_goals cases hc:((decide (0≤a2.i)&&decide (a2.i.toNat < ((a0.nth a1.i.toNat).es).length))) with
  | true=>
   try simp only[bs]
   all_goals refine br fun r1=>?_
   all_goals try simp only[bs]
   all_goals cases hc:((!(rt r1 0).b)) with
   | true=>
    try simp only[bs]
    all_goals kernel_rfl
   | false=>
    try simp only[bs]
    all_goals cases hc:((decide ((((((a0.nth a1.i.toNat).nth a2.i.toNat).fld 1).es).length:Int) > (3:Int)))) with
    | true=>
     try simp only[bs]
     all_goals kernel_rfl
    | false=>
     try simp only[bs]
     all_goals kernel_rfl
  | false=>
   try simp only[bs]
   all_goals kernel_rfl
 | false=>
  try simp only[bs]
  all_goals kernel_rfl
theorem wv (a0 a1 a2:T) {r:List T} (h:Yields (fun k=>ju (hl env k bV) (cl env k) a0 a1 a2) r):Yields (fun k=>cl env k mh [a0,a1,a2]) r:=Yields.call (fi:=bV) rfl rfl (fun H C=>wg H C a0 a1 a2) h
noncomputable abbrev ft (H:List Item→CS→R) (C:aF) (x1:T) (x2:T) (x3:T) (x4:T) (x5:T):R:=
 bif (decide (x4.i < (((x5.fld 1).es).length:Int))) then
 bif (decide (0≤x4.i)&&decide (x4.i.toNat < ((x5.fld 1).es).length)) then
 obind (C kh [x1,x2,x3,((x5.fld 1).nth x4.i.toNat)]) fun r1=>
 bif (!(rt r1 0).b) then
 some [(T.bool false)]
 else
 obind (C eD [x1,((x5.fld 1).nth x4.i.toNat)]) fun r2=>
 obind (C bH [(x5.fld 0),(T.int (1:Int))]) fun r3=>
 bif (rt r3 0).b then
 obind (C bH [(rt r2 0),(T.int (1:Int))]) fun r4=>
 bif (!(rt r4 0).b) then
 some [(T.bool false)]
 else
 obind (C bH [(x5.fld 0),(T.int (2:Int))]) fun r5=>
 bif (rt r5 0).b then
 obind (C bH [(rt r2 0),(T.int (2:Int))]) fun r6=>
 bif (!(rt r6 0).b) then
 some [(T.bool false)]
 else
 bif (decide ((x5.fld 0).i≥(4:Int))) then
 obind (C bH [(rt r2 0),(T.int (4:Int))]) fun r7=>
 bif (!(rt r7 0).b) then
 some [(T.bool false)]
 else
 bQ H x1 x2 x3 (T.int (IntKind.wrap .i64 (x4.i+(1:Int)))) x5
 else
 bQ H x1 x2 x3 (T.int (IntKind.wrap .i64 (x4.i+(1:Int)))) x5
 else
 bif (decide ((x5.fld 0).i≥(4:Int))) then
 obind (C bH [(rt r2 0),(T.int (4:Int))]) fun r6=>
 bif (!(rt r6 0).b) then
 some [(T.bool false)]
 else
 bQ H x1 x2 x3 (T.int (IntKind.wrap .i64 (x4.i+(1:Int)))) x5
 else
 bQ H x1 x2 x3 (T.int (IntKind.wrap .i64 (x4.i+(1:Int)))) x5
 else
 obind (C bH [(x5.fld 0),(T.int (2:Int))]) fun r4=>
 bif (rt r4 0).b then
 obind (C bH [(rt r2 0),(T.int (2:Int))]) fun r5=>
 bif (!(rt r5 0).b) then
 some [(T.bool false)]
 else
 bif (decide ((x5.fld 0).i≥(4:Int))) then
 obind (C bH [(rt r2 0),(T.int (4:Int))]) fun r6=>
 bif (!(rt r6 0).b) then
 some [(T.bool false)]
 else
 bQ H x1 x2 x3 (T.int (IntKind.wrap .i64 (x4.i+(1:Int)))) x5
 else
 bQ H x1 x2 x3 (T.int (IntKind.wrap .i64 (x4.i+(1:Int)))) x5
 else
 bif (decide ((x5.fld 0).i≥(4:Int))) then
 obind (C bH [(rt r2 0),(T.int (4:Int))]) fun r5=>
 bif (!(rt r5 0).b) then
 some [(T.bool false)]
 else
 bQ H x1 x2 x3 (T.int (IntKind.wrap .i64 (x4.i+(1:Int)))) x5
 else
 bQ H x1 x2 x3 (T.int (IntKind.wrap .i64 (x4.i+(1:Int)))) x5
 else
 none
 else
 some [(T.bool true)]
theorem tK (H:List Item→CS→R) (C:aF) (x1:T) (x2:T) (x3:T) (x4:T) (x5:T):iU bV env H C (bS bV.body 0) ([(0,.val 40 x1),(1,.val 3 x2),(2,.val 3 x3),(7,.pref 64 7 []),(8,.val 3 x4)],[(7,⟨64,x5,.fz,true⟩)]) =
 bif (decide (x4.i < (((x5.fld 1).es).length:Int))) then
 bif (decide (0≤x4.i)&&decide (x4.i.toNat < ((x5.fld 1).es).length)) then
 obind (C kh [x1,x2,x3,((x5.fld 1).nth x4.i.toNat)]) fun r1=>
 bif (!(rt r1 0).b) then
 some [(T.bool false)]
 else
 bif (decide (0≤x4.i)&&decide (x4.i.toNat < ((x5.fld 1).es).length)) then
 obind (C eD [x1,((x5.fld 1).nth x4.i.toNat)]) fun r2=>
 obind (C bH [(x5.fld 0),(T.int (1:Int))]) fun r3=>
 bif ((((rt r3 0).b==true)&&true)||(!((rt r3 0).b==true))) then
 obind ((bif ((rt r3 0).b==true) then C bH [(rt r2 0),(T.int (1:Int))] else some [])) fun r4=>
 bif (((rt r3 0).b==true)||(!((rt r3 0).b==true))) then
 bif (bif (rt r3 0).b then ((rt r3 0).b==true) else true) then
 bif (((bif (rt r3 0).b then (T.bool (!(rt r4 0).b)) else (T.bool false)).b==false)||(!((bif (rt r3 0).b then (T.bool (!(rt r4 0).b)) else (T.bool false)).b==false))) then
 bif ((((bif (rt r3 0).b then (T.bool (!(rt r4 0).b)) else (T.bool false)).b==false)&&true)||(!((bif (rt r3 0).b then (T.bool (!(rt r4 0).b)) else (T.bool false)).b==false))) then
 obind ((bif ((bif (rt r3 0).b then (T.bool (!(rt r4 0).b)) else (T.bool false)).b==false) then C bH [(x5.fld 0),(T.int (2:Int))] else some [])) fun r5=>
 bif (((bif (rt r3 0).b then (T.bool (!(rt r4 0).b)) else (T.bool false)).b==false)||(!((bif (rt r3 0).b then (T.bool (!(rt r4 0).b)) else (T.bool false)).b==false))) then
 bif (((((bif (rt r3 0).b then (T.bool (!(rt r4 0).b)) else (T.bool false)).b==false)&&((rt r5 0).b==true))&&true)||(!(((bif (rt r3 0).b then (T.bool (!(rt r4 0).b)) else (T.bool false)).b==false)&&((rt r5 0).b==true)))) then
 obind ((bif (((bif (rt r3 0).b then (T.bool (!(rt r4 0).b)) else (T.bool false)).b==false)&&((rt r5 0).b==true)) then C bH [(rt r2 0),(T.int (2:Int))] else some [])) fun r6=>
 bif ((((bif (rt r3 0).b then (T.bool (!(rt r4 0).b)) else (T.bool false)).b==false)&&((rt r5 0).b==true))||(!(((bif (rt r3 0).b then (T.bool (!(rt r4 0).b)) else (T.bool false)).b==false)&&((rt r5 0).b==true)))) then
 bif ((((bif (rt r3 0).b then (T.bool (!(rt r4 0).b)) else (T.bool false)).b==false)&&(bif (rt r5 0).b then (((bif (rt r3 0).b then (T.bool (!(rt r4 0).b)) else (T.bool false)).b==false)&&((rt r5 0).b==true)) else true))||(!((bif (rt r3 0).b then (T.bool (!(rt r4 0).b)) else (T.bool false)).b==false))) then
 bif (bif (bif (rt r3 0).b then (T.bool (!(rt r4 0).b)) else (T.bool false)).b then true else ((bif (rt r3 0).b then (T.bool (!(rt r4 0).b)) else (T.bool false)).b==false)) then
 bif (bif (bif (rt r3 0).b then (T.bool (!(rt r4 0).b)) else (T.bool false)).b then (T.bool true) else (bif (rt r5 0).b then (T.bool (!(rt r6 0).b)) else (T.bool false))).b then
 some [(T.bool false)]
 else
 bif ((((decide ((x5.fld 0).i≥(4:Int)))==true)&&true)||(!((decide ((x5.fld 0).i≥(4:Int)))==true))) then
 obind ((bif ((decide ((x5.fld 0).i≥(4:Int)))==true) then C bH [(rt r2 0),(T.int (4:Int))] else some [])) fun r7=>
 bif (((decide ((x5.fld 0).i≥(4:Int)))==true)||(!((decide ((x5.fld 0).i≥(4:Int)))==true))) then
 bif (bif (decide ((x5.fld 0).i≥(4:Int))) then ((decide ((x5.fld 0).i≥(4:Int)))==true) else true) then
 bif (bif (decide ((x5.fld 0).i≥(4:Int))) then (T.bool (!(rt r7 0).b)) else (T.bool false)).b then
 some [(T.bool false)]
 else
 bQ H x1 x2 x3 (T.int (IntKind.wrap .i64 (x4.i+(1:Int)))) x5
 else
 none
 else
 none
 else
 none
 else
 none
 else
 none
 else
 none
 else
 none
 else
 none
 else
 none
 else
 none
 else
 none
 else
 none
 else
 none
 else
 none
 else
 none
 else
 some [(T.bool true)]:=by kernel_rfl
theorem tR (H:List Item→CS→R) (C:aF) (x1:T) (x2:T) (x3:T) (x4:T) (x5:T):iU bV env H C (bS bV.body 0) ([(0,.val 40 x1),(1,.val 3 x2),(2,.val 3 x3),(7,.pref 64 7 []),(8,.val 3 x4)],[(7,⟨64,x5,.fz,true⟩)])=ft H C x1 x2 x3 x4 x5:=by
 refine (tK H C x1 x2 x3 x4 x5).trans ?_
 unfold ft
 all_goals try simp only[bs]
 all_goals cases hc:((decide (x4.i < (((x5.fld 1).es).length:Int)))) with
 | true=>
  try simp only[bs]
  all_goals cases hc:((decide (0≤x4.i)&&decide (x4.i.toNat < ((x5.fld 1).es).length))) with
  | true=>
   try simp only[bs]
   all_goals refine br fun r1=>?_
   all_goals try simp only[bs]
   all_goals cases hc:((!(rt r1 0).b)) with
   | true=>
    try simp only[bs]
    all_goals kernel_rfl
   | false=>
    try simp only[bs]
    all_goals refine br fun r2=>?_
    all_goals try simp only[bs]
    all_goals refine br fun r3=>?_
    all_goals try simp only[bs]
    all_goals cases hc:((rt r3 0).b) with
    | true=>
     try simp only[bs]
     all_goals refine br fun r4=>?_
     all_goals try simp only[bs]
     all_goals cases hc:((!(rt r4 0).b)) with
     | true=>
      try simp only[bs]
      all_goals cases hc:((T.int (0:Int)).b) with
      | true=>
       try simp only[bs]
       all_goals kernel_rfl
      | false=>
       try simp only[bs]
       all_goals kernel_rfl
     | false=>
      try simp only[bs]
      all_goals refine br fun r5=>?_
      all_goals try simp only[bs]
      all_goals cases hc:((rt r5 0).b) with
      | true=>
       try simp only[bs]
       all_goals refine br fun r6=>?_
       all_goals try simp only[bs]
       all_goals cases hc:((!(rt r6 0).b)) with
       | true=>
        try simp only[bs]
        all_goals kernel_rfl
       | false=>
        try simp only[bs]
        all_goals cases hc:((decide ((x5.fld 0).i≥(4:Int)))) with
        | true=>
         try simp only[bs]
         all_goals refine br fun r7=>?_
         all_goals try simp only[bs]
         all_goals cases hc:((!(rt r7 0).b)) with
         | true=>
          try simp only[bs]
          all_goals kernel_rfl
         | false=>
          try simp only[bs]
          all_goals kernel_rfl
        | false=>
         try simp only[bs]
         all_goals kernel_rfl
      | false=>
       try simp only[bs]
       all_goals cases hc:((decide ((x5.fld 0).i≥(4:Int)))) with
       | true=>
        try simp only[bs]
        all_goals refine br fun r6=>?_
        all_goals try simp only[bs]
        all_goals cases hc:((!(rt r6 0).b)) with
        | true=>
         try simp only[bs]
         all_goals kernel_rfl
        | false=>
         try simp only[bs]
         all_goals kernel_rfl
       | false=>
        try simp only[bs]
        all_goals kernel_rfl
    | false=>
     try simp only[bs]
     all_goals refine br fun r4=>?_
     all_goals try simp only[bs]
     all_goals cases hc:((rt r4 0).b) with
     | true=>
      try simp only[bs]
      all_goals refine br fun r5=>?_
      all_goals try simp only[bs]
      all_goals cases hc:((!(rt r5 0).b)) with
      | true=>
       try simp only[bs]
       all_goals kernel_rfl
      | false=>
       try simp only[bs]
       all_goals cases hc:((decide ((x5.fld 0).i≥(4:Int)))) with
       | true=>
        try simp only[bs]
        all_goals refine br fun r6=>?_
        all_goals try simp only[bs]
        all_goals cases hc:((!(rt r6 0).b)) with
        | true=>
         try simp only[bs]
         all_goals kernel_rfl
        | false=>
         try simp only[bs]
         all_goals kernel_rfl
       | false=>
        try simp only[bs]
        all_goals kernel_rfl
     | false=>
      try simp only[bs]
      all_goals cases hc:((decide ((x5.fld 0).i≥(4:Int)))) with
      | true=>
       try simp only[bs]
       all_goals refine br fun r5=>?_
       all_goals try simp only[bs]
       all_goals cases hc:((!(rt r5 0).b)) with
       | true=>
        try simp only[bs]
        all_goals kernel_rfl
       | false=>
        try simp only[bs]
        all_goals kernel_rfl
      | false=>
       try simp only[bs]
       all_goals kernel_rfl
  | false=>
   try simp only[bs]
   all_goals kernel_rfl
 | false=>
  try simp only[bs]
  all_goals kernel_rfl
theorem pg (x1:T) (x2:T) (x3:T) (x4:T) (x5:T) {r:List T} (h:Yields (fun k=>ft (hl env k bV) (cl env k) x1 x2 x3 x4 x5) r):Yields (fun k=>bQ (hl env k bV) x1 x2 x3 x4 x5) r:=Yields.head (fun H C=>tR H C x1 x2 x3 x4 x5) h
noncomputable abbrev pS (H:List Item→CS→R) (C:aF) (a0:T):R:=
 bif (decide ((a0.s.size:Int) > (0:Int))) then
 bif (decide (0≤(0:Int))&&decide (0 < a0.s.size)) then
 bif ((a0.s.data.getD 0 0).toNat==(38:Int)) then
 some [(T.bool true)]
 else
 some [(T.bool ((a0.s.data.getD 0 0).toNat==(33:Int)))]
 else
 none
 else
 some [(T.bool false)]
theorem yU (H:List Item→CS→R) (C:aF) (a0:T):bI j8 env H C [a0] =
 bif (((((decide ((a0.s.size:Int) > (0:Int)))==true)&&true)&&(decide (0≤(0:Int))&&decide (0 < a0.s.size)))||(!((decide ((a0.s.size:Int) > (0:Int)))==true))) then
 bif (((((decide ((a0.s.size:Int) > (0:Int)))==true)&&true)&&true)||(!((decide ((a0.s.size:Int) > (0:Int)))==true))) then
 bif (((decide ((a0.s.size:Int) > (0:Int)))==true)||(!((decide ((a0.s.size:Int) > (0:Int)))==true))) then
 bif ((((((decide ((a0.s.size:Int) > (0:Int)))==true)&&(((a0.s.data.getD 0 0).toNat==(38:Int))==false))&&true)&&(decide (0≤(0:Int))&&decide (0 < a0.s.size)))||(!(((decide ((a0.s.size:Int) > (0:Int)))==true)&&(((a0.s.data.getD 0 0).toNat==(38:Int))==false)))) then
 bif ((((((decide ((a0.s.size:Int) > (0:Int)))==true)&&(((a0.s.data.getD 0 0).toNat==(38:Int))==false))&&true)&&true)||(!(((decide ((a0.s.size:Int) > (0:Int)))==true)&&(((a0.s.data.getD 0 0).toNat==(38:Int))==false)))) then
 bif ((((decide ((a0.s.size:Int) > (0:Int)))==true)&&(bif ((a0.s.data.getD 0 0).toNat==(38:Int)) then true else (((decide ((a0.s.size:Int) > (0:Int)))==true)&&(((a0.s.data.getD 0 0).toNat==(38:Int))==false))))||(!((decide ((a0.s.size:Int) > (0:Int)))==true))) then
 bif (bif (decide ((a0.s.size:Int) > (0:Int))) then ((decide ((a0.s.size:Int) > (0:Int)))==true) else true) then
 some [(bif (decide ((a0.s.size:Int) > (0:Int))) then (bif ((a0.s.data.getD 0 0).toNat==(38:Int)) then (T.bool true) else (T.bool ((a0.s.data.getD 0 0).toNat==(33:Int)))) else (T.bool false))]
 else
 none
 else
 none
 else
 none
 else
 none
 else
 none
 else
 none
 else
 none:=by kernel_rfl
theorem zH (H:List Item→CS→R) (C:aF) (a0:T):bI j8 env H C [a0]=pS H C a0:=by
 refine (yU H C a0).trans ?_
 unfold pS
 all_goals try simp only[bs]
 all_goals cases hc:((decide ((a0.s.size:Int) > (0:Int)))) with
 | true=>
  try simp only[bs]
  all_goals cases hc:((decide (0≤(0:Int))&&decide (0 < a0.s.size))) with
  | true=>
   try simp only[bs]
   all_goals cases hc:(((a0.s.data.getD 0 0).toNat==(38:Int))) with
   | true=>
    try simp only[bs]
    all_goals kernel_rfl
   | false=>
    try simp only[bs]
    all_goals kernel_rfl
  | false=>
   try simp only[bs]
   all_goals kernel_rfl
 | false=>
  try simp only[bs]
  all_goals cases hc:(((a0.s.data.getD 0 0).toNat==(38:Int))) with
  | true=>
   try simp only[bs]
   all_goals kernel_rfl
  | false=>
   try simp only[bs]
   all_goals kernel_rfl
theorem tp (a0:T) {r:List T} (h:Yields (fun k=>pS (hl env k j8) (cl env k) a0) r):Yields (fun k=>cl env k bO [a0]) r:=Yields.call (fi:=j8) rfl rfl (fun H C=>zH H C a0) h
noncomputable abbrev nq (H:List Item→CS→R) (C:aF) (a0:T):R:=
 obind (C ki [(a0.fld 0)]) fun r1=>
 obind (C ki [(a0.fld 1)]) fun r2=>
 some [(T.st [(rt r1 0),(rt r2 0)])]
theorem xq (a0:T) {r:List T} (h:Yields (fun k=>nq (hl env k mL) (cl env k) a0) r):Yields (fun k=>cl env k nd [a0]) r:=Yields.call (fi:=mL) (Z:=fun H C=>nq H C a0) rfl rfl (fun H C=>by kernel_rfl) h
noncomputable abbrev lJ (H:List Item→CS→R) (C:aF) (a0 a1:T):R:=
 obind (C ky [a0,a1]) fun r1=>
 bif (rt r1 0).b then
 obind (C aM [(rt (r1.drop 1) 0),(T.bool (decide ((((((rt (r1.drop 1) 0).fld 4).fld 0).es).length:Int)≤(12:Int)))),(T.int (1:Int))]) fun r2=>
 some [(rt (r2.drop 0) 0)]
 else
 obind (C jF [(rt (r1.drop 1) 0),a1]) fun r3=>
 bif (rt r3 0).b then
 obind (C aM [(rt (r3.drop 1) 0),(T.bool (decide ((((((rt (r3.drop 1) 0).fld 4).fld 0).es).length:Int)≤(12:Int)))),(T.int (1:Int))]) fun r4=>
 some [(rt (r4.drop 0) 0)]
 else
 obind (C jj [(rt (r3.drop 1) 0),a1]) fun r5=>
 bif (rt r5 0).b then
 obind (C aM [(rt (r5.drop 1) 0),(T.bool (decide ((((((rt (r5.drop 1) 0).fld 4).fld 0).es).length:Int)≤(12:Int)))),(T.int (1:Int))]) fun r6=>
 some [(rt (r6.drop 0) 0)]
 else
 obind (C cm [(rt (r5.drop 1) 0),a1]) fun r7=>
 bif (rt r7 0).b then
 obind (C aM [(rt (r7.drop 1) 0),(T.bool (decide ((((((rt (r7.drop 1) 0).fld 4).fld 0).es).length:Int)≤(12:Int)))),(T.int (1:Int))]) fun r8=>
 some [(rt (r8.drop 0) 0)]
 else
 bif (((a1.fld 0).s).toList==k_call.toList) then
 obind (C lu [(rt (r7.drop 1) 0),a1]) fun r9=>
 obind (C aM [(rt (r9.drop 0) 0),(T.bool (decide ((((((rt (r9.drop 0) 0).fld 4).fld 0).es).length:Int)≤(12:Int)))),(T.int (1:Int))]) fun r10=>
 some [(rt (r10.drop 0) 0)]
 else
 obind (C mj [(rt (r7.drop 1) 0)]) fun r11=>
 some [(rt (r11.drop 0) 0)]
theorem uX (a0 a1:T) {r:List T} (h:Yields (fun k=>lJ (hl env k kM) (cl env k) a0 a1) r):Yields (fun k=>cl env k lv [a0,a1]) r:=Yields.call (fi:=kM) (Z:=fun H C=>lJ H C a0 a1) rfl rfl (fun H C=>by kernel_rfl) h
noncomputable abbrev oT (H:List Item→CS→R) (C:aF) (a0 a1 a2 a3 a4 a5 a6:T):R:=
 bif (decide (0≤(IntKind.wrap .i64 ((((a5.fld 0).es).length:Int) - (1:Int))))&&decide ((IntKind.wrap .i64 ((((a5.fld 0).es).length:Int) - (1:Int))).toNat < ((a5.fld 0).es).length)) then
 orE (obind (C cO [a1,a2,a3,a4,a5,(T.int (a6.es.length:Int)),(T.st [(T.str vT),(T.int (0:Int)),(T.int (0:Int))])]) fun r1=>
 bif (rt r1 2).b then
 none
 else
 obind (C cU [(((a5.fld 0).nth ((IntKind.wrap .i64 ((((a5.fld 0).es).length:Int) - (1:Int))).toNat)).fld 0)]) fun r2=>
 obind (C aG [a0,(T.int (2:Int))]) fun r3=>
 bif ((rt r3 0).i==(0:Int)) then
 orE (obind (C cO [a1,a2,a3,a4,a5,(T.int (a6.es.length:Int)),(T.st [(T.str k_me),(T.int (0:Int)),(T.int (0:Int))])]) fun r4=>
 bif (rt r4 2).b then
 orE (obind (C cO [a1,a2,a3,a4,(rt r4 0),(T.int ((rt r4 1).i.toNat:Int)),(T.st [(T.str aT),(rt r2 1),(T.int (0:Int))])]) fun r5=>
 bif (rt r5 2).b then
 none
 else
 obind (C bk [a1,a2,a3,a4,a5,a6,(T.st [(T.str lT),(rt r2 1),(T.int (0:Int))])]) fun r6=>
 some [(rt r6 0),(rt r6 1),(rt r6 2),(rt (r3.drop 1) 0)])
 (orE (none)
 (none))
 else
 bif (rt r4 2).b then
 none
 else
 obind (C bk [a1,a2,a3,a4,a5,a6,(T.st [(T.str lT),(rt r2 1),(T.int (0:Int))])]) fun r7=>
 some [(rt r7 0),(rt r7 1),(rt r7 2),(rt (r3.drop 1) 0)])
 (orE (obind (C bk [a1,a2,a3,a4,a5,a6,(T.st [(T.str k_me),(T.int (0:Int)),(T.int (0:Int))])]) fun r8=>
 bif (rt r8 2).b then
 orE (obind (C cO [a1,a2,a3,a4,(rt r8 0),(T.int (((rt r8 1).es).length:Int)),(T.st [(T.str aT),(rt r2 1),(T.int (0:Int))])]) fun r9=>
 bif (rt r9 2).b then
 none
 else
 none)
 (orE (obind (C bk [a1,a2,a3,a4,(rt r8 0),(rt r8 1),(T.st [(T.str aT),(rt r2 1),(T.int (0:Int))])]) fun r10=>
 bif (rt r10 2).b then
 some [(rt r10 0),(rt r10 1),(T.bool true),(rt (r3.drop 1) 0)]
 else
 none)
 (none))
 else
 bif (rt r8 2).b then
 some [(rt r8 0),(rt r8 1),(T.bool true),(rt (r3.drop 1) 0)]
 else
 none)
 (orE (obind (C jr [a1,a2,a3,a4,a5,a6,(T.st [(T.str k_me),(T.int (0:Int)),(T.int (0:Int))])]) fun r11=>
 bif (rt r11 2).b then
 orE (obind (C cO [a1,a2,a3,a4,(rt r11 0),(T.int ((rt r11 1).i.toNat:Int)),(T.st [(T.str aT),(rt r2 1),(T.int (0:Int))])]) fun r12=>
 bif (rt r12 2).b then
 none
 else
 obind (C bk [a1,a2,a3,a4,a5,(rt (r11.drop 3) 0),(T.st [(T.str lT),(rt r2 1),(T.int (0:Int))])]) fun r13=>
 some [(rt r13 0),(rt r13 1),(rt r13 2),(rt (r3.drop 1) 0)])
 (orE (none)
 (none))
 else
 bif (rt r11 2).b then
 none
 else
 obind (C bk [a1,a2,a3,a4,a5,(rt (r11.drop 3) 0),(T.st [(T.str lT),(rt r2 1),(T.int (0:Int))])]) fun r14=>
 some [(rt r14 0),(rt r14 1),(rt r14 2),(rt (r3.drop 1) 0)])
 (none)))
 else
 obind (C bk [a1,a2,a3,a4,a5,a6,(T.st [(T.str lT),(rt r2 1),(T.int (0:Int))])]) fun r15=>
 some [(rt r15 0),(rt r15 1),(rt r15 2),(rt (r3.drop 1) 0)])
 (orE (obind (C bk [a1,a2,a3,a4,a5,a6,(T.st [(T.str vT),(T.int (0:Int)),(T.int (0:Int))])]) fun r16=>
 bif (rt r16 2).b then
 some [(rt r16 0),(rt r16 1),(T.bool true),a0]
 else
 obind (C cU [(((a5.fld 0).nth ((IntKind.wrap .i64 ((((a5.fld 0).es).length:Int) - (1:Int))).toNat)).fld 0)]) fun r17=>
 obind (C aG [a0,(T.int (2:Int))]) fun r18=>
 bif ((rt r18 0).i==(0:Int)) then
 none
 else
 none)
 (none))
 else
 none
theorem yA (a0 a1 a2 a3 a4 a5 a6:T) {r:List T} (h:Yields (fun k=>oT (hl env k nL) (cl env k) a0 a1 a2 a3 a4 a5 a6) r):Yields (fun k=>cl env k kV [a0,a1,a2,a3,a4,a5,a6]) r:=Yields.call (fi:=nL) (Z:=fun H C=>oT H C a0 a1 a2 a3 a4 a5 a6) rfl rfl (fun H C=>by kernel_rfl) h
noncomputable abbrev sD (H:List Item→CS→R) (C:aF) (a0 a1:T):R:=
 bif (!(a1.i==0)) then
 bif (!((2:Int)==0)) then
 some [(T.bool ((((IntKind.wrap .i64 ((a0.i).tdiv a1.i)):Int).tmod (2:Int))==(1:Int)))]
 else
 none
 else
 none
theorem zF (H:List Item→CS→R) (C:aF) (a0 a1:T):bI l7 env H C [a0,a1]=sD H C a0 a1:=by kernel_rfl
theorem zZ (a0 a1:T) {r:List T} (h:Yields (fun k=>sD (hl env k l7) (cl env k) a0 a1) r):Yields (fun k=>cl env k bH [a0,a1]) r:=Yields.call (fi:=l7) rfl rfl (fun H C=>zF H C a0 a1) h
noncomputable abbrev kX (H:List Item→CS→R) (C:aF) (a0 a1:T):R:=
 obind (C bO [a1]) fun r1=>
 bif (rt r1 0).b then
 bif (decide (0≤(0:Int))&&decide (0 < a1.s.size)) then
 bif ((a1.s.data.getD 0 0).toNat==(38:Int)) then
 some [(T.int (3:Int))]
 else
 obind (C bO [a1]) fun r2=>
 bif (rt r2 0).b then
 some [(T.int (2:Int))]
 else
 obind (C cU [a1]) fun r3=>
 bif (rt r3 2).b then
 bif (decide (0≤(rt r3 0).i)&&decide (((rt r3 0).i).toNat < a0.es.length)) then
 bif (decide (0≤(rt r3 1).i)&&decide (((rt r3 1).i).toNat < ((a0.nth (((rt r3 0).i).toNat)).es).length)) then
 some [(((a0.nth (((rt r3 0).i).toNat)).nth (((rt r3 1).i).toNat)).fld 0)]
 else
 none
 else
 none
 else
 some [(T.int (7:Int))]
 else
 none
 else
 obind (C bO [a1]) fun r2=>
 bif (rt r2 0).b then
 some [(T.int (2:Int))]
 else
 obind (C cU [a1]) fun r3=>
 bif (rt r3 2).b then
 bif (decide (0≤(rt r3 0).i)&&decide (((rt r3 0).i).toNat < a0.es.length)) then
 bif (decide (0≤(rt r3 1).i)&&decide (((rt r3 1).i).toNat < ((a0.nth (((rt r3 0).i).toNat)).es).length)) then
 some [(((a0.nth (((rt r3 0).i).toNat)).nth (((rt r3 1).i).toNat)).fld 0)]
 else
 none
 else
 none
 else
 some [(T.int (7:Int))]
theorem yc (H:List Item→CS→R) (C:aF) (a0 a1:T):bI ic env H C [a0,a1] =
 obind (C bO [a1]) fun r1=>
 bif (((((rt r1 0).b==true)&&true)&&(decide (0≤(0:Int))&&decide (0 < a1.s.size)))||(!((rt r1 0).b==true))) then
 bif (((((rt r1 0).b==true)&&true)&&true)||(!((rt r1 0).b==true))) then
 bif (bif (rt r1 0).b then ((rt r1 0).b==true) else true) then
 bif (bif (rt r1 0).b then (T.bool ((a1.s.data.getD 0 0).toNat==(38:Int))) else (T.bool false)).b then
 some [(T.int (3:Int))]
 else
 obind (C bO [a1]) fun r2=>
 bif (rt r2 0).b then
 some [(T.int (2:Int))]
 else
 obind (C cU [a1]) fun r3=>
 bif (rt r3 2).b then
 bif (decide (0≤(rt r3 0).i)&&decide (((rt r3 0).i).toNat < a0.es.length)) then
 bif (decide (0≤(rt r3 1).i)&&decide (((rt r3 1).i).toNat < ((a0.nth (((rt r3 0).i).toNat)).es).length)) then
 some [(((a0.nth (((rt r3 0).i).toNat)).nth (((rt r3 1).i).toNat)).fld 0)]
 else
 none
 else
 none
 else
 some [(T.int (7:Int))]
 else
 none
 else
 none
 else
 none:=by kernel_rfl
theorem yk (H:List Item→CS→R) (C:aF) (a0 a1:T):bI ic env H C [a0,a1]=kX H C a0 a1:=by
 refine (yc H C a0 a1).trans ?_
 unfold kX
 all_goals try simp only[bs]
 all_goals refine br fun r1=>?_
 all_goals try simp only[bs]
 all_goals cases hc:((rt r1 0).b) with
 | true=>
  try simp only[bs]
  all_goals cases hc:((decide (0≤(0:Int))&&decide (0 < a1.s.size))) with
  | true=>
   try simp only[bs]
   all_goals cases hc:(((a1.s.data.getD 0 0).toNat==(38:Int))) with
   | true=>
    try simp only[bs]
    all_goals kernel_rfl
   | false=>
    try simp only[bs]
    all_goals refine br fun r2=>?_
    all_goals try simp only[bs]
    all_goals cases hc:((rt r2 0).b) with
    | true=>
     try simp only[bs]
     all_goals kernel_rfl
    | false=>
     try simp only[bs]
     all_goals refine br fun r3=>?_
     all_goals try simp only[bs]
     all_goals cases hc:((rt r3 2).b) with
     | true=>
      try simp only[bs]
      all_goals cases hc:((decide (0≤(rt r3 0).i)&&decide (((rt r3 0).i).toNat < a0.es.length))) with
      | true=>
       try simp only[bs]
       all_goals cases hc:((decide (0≤(rt r3 1).i)&&decide (((rt r3 1).i).toNat < ((a0.nth (((rt r3 0).i).toNat)).es).length))) with
       | true=>
        try simp only[bs]
        all_goals kernel_rfl
       | false=>
        try simp only[bs]
        all_goals kernel_rfl
      | false=>
       try simp only[bs]
       all_goals kernel_rfl
     | false=>
      try simp only[bs]
      all_goals kernel_rfl
  | false=>
   try simp only[bs]
   all_goals kernel_rfl
 | false=>
  try simp only[bs]
  all_goals refine br fun r2=>?_
  all_goals try simp only[bs]
  all_goals cases hc:((rt r2 0).b) with
  | true=>
   try simp only[bs]
   all_goals kernel_rfl
  | false=>
   try simp only[bs]
   all_goals refine br fun r3=>?_
   all_goals try simp only[bs]
   all_goals cases hc:((rt r3 2).b) with
   | true=>
    try simp only[bs]
    all_goals cases hc:((decide (0≤(rt r3 0).i)&&decide (((rt r3 0).i).toNat < a0.es.length))) with
    | true=>
     try simp only[bs]
     all_goals cases hc:((decide (0≤(rt r3 1).i)&&decide (((rt r3 1).i).toNat < ((a0.nth (((rt r3 0).i).toNat)).es).length))) with
     | true=>
      try simp only[bs]
      all_goals kernel_rfl
     | false=>
      try simp only[bs]
      all_goals kernel_rfl
    | false=>
     try simp only[bs]
     all_goals kernel_rfl
   | false=>
    try simp only[bs]
    all_goals kernel_rfl
theorem se (a0 a1:T) {r:List T} (h:Yields (fun k=>kX (hl env k ic) (cl env k) a0 a1) r):Yields (fun k=>cl env k eD [a0,a1]) r:=Yields.call (fi:=ic) rfl rfl (fun H C=>yk H C a0 a1) h
noncomputable abbrev jJ (H:List Item→CS→R) (C:aF) (a0 a1 a2 a3 a4 a5 a6:T):R:=
 obind (C dG [a0,a1,a2,a3,a4,a6]) fun r1=>
 bif ((rt r1 1).i != (0:Int)) then
 some [a4,a5,(T.bool false)]
 else
 bif (decide ((a5.es.length:Int) > (36:Int))) then
 some [a4,a5,(T.bool false)]
 else
 bif (decide (a5.es.length + [a6].length≤LIM)) then
 some [(T.st [((rt r1 0).fld 0),((rt r1 0).fld 1)]),(T.sl (a5.es ++ [a6])),(T.bool true)]
 else
 none
theorem qt (a0 a1 a2 a3 a4 a5 a6:T) {r:List T} (h:Yields (fun k=>jJ (hl env k oW) (cl env k) a0 a1 a2 a3 a4 a5 a6) r):Yields (fun k=>cl env k bk [a0,a1,a2,a3,a4,a5,a6]) r:=Yields.call (fi:=oW) (Z:=fun H C=>jJ H C a0 a1 a2 a3 a4 a5 a6) rfl rfl (fun H C=>by kernel_rfl) h
noncomputable def fT (H:List Item→CS→R) (x1:T) (x2:T) (x3:T) (x4:T) (x5:T) (x6:T) (x7:T) (x8:T) (x9:T):R:=H (bS bG.body 0) ([(0,.val 33 x1),(1,.val 40 x2),(2,.val 3 x3),(5,.sref 25 100005 []),(6,.val 9 x4),(10,.pref 27 10 []),(11,.pref 100 11 []),(14,.pref 100 14 []),(17,.val 3 x5)],[(100005,⟨25,x6,.dp,false⟩),(10,⟨27,x7,.fz,true⟩),(11,⟨100,x8,.fz,true⟩),(14,⟨100,x9,.dp,true⟩)])
noncomputable def uz (H:List Item→CS→R) (x1:T) (x2:T) (x3:T) (x4:T) (x5:T) (x6:T) (x7:T) (x8:T):R:=H (bS bG.body 0) ([(0,.val 33 x1),(1,.val 40 x2),(2,.val 3 x3),(5,.undef),(6,.val 9 x4),(10,.pref 27 10 []),(11,.pref 100 11 []),(14,.pref 100 14 []),(17,.val 3 x5)],[(10,⟨27,x6,.fz,true⟩),(11,⟨100,x7,.fz,true⟩),(14,⟨100,x8,.dp,true⟩)])
noncomputable def iW (H:List Item→CS→R) (x1:T) (x2:T) (x3:T) (x4:T) (x5:T) (x6:T) (x7:T) (x8:T) (x9:T) (x10:T):R:=H (bS bG.body 1) ([(0,.val 33 x1),(1,.val 40 x2),(2,.val 3 x3),(5,.sref 25 100005 []),(10,.pref 27 10 []),(11,.pref 100 11 []),(14,.pref 100 14 []),(22,.val 3 x4),(23,.val 4 x5),(24,.val 3 x6)],[(100005,⟨25,x7,.dp,false⟩),(10,⟨27,x8,.fz,true⟩),(11,⟨100,x9,.fz,true⟩),(14,⟨100,x10,.dp,true⟩)])
noncomputable def iX (H:List Item→CS→R) (x1:T) (x2:T) (x3:T) (x4:T) (x5:T) (x6:T) (x7:T) (x8:T) (x9:T) (x10:T):R:=H (bS bG.body 1) ([(0,.val 33 x1),(1,.val 40 x2),(2,.val 3 x3),(5,.sref 25 1144 []),(10,.pref 27 10 []),(11,.pref 100 11 []),(14,.pref 100 14 []),(22,.val 3 x4),(23,.val 4 x5),(24,.val 3 x6)],[(1144,⟨25,x7,.dp,false⟩),(10,⟨27,x8,.fz,true⟩),(11,⟨100,x9,.fz,true⟩),(14,⟨100,x10,.dp,true⟩)])
noncomputable abbrev kp (H:List Item→CS→R) (C:aF) (a0 a1 a2 a3 a4 a5 a6:T):R:=
 fT H a0 a1 a2 a6 (T.int (0:Int)) a5 a3 a4 (T.st [(T.sl []),(T.sl [])])
theorem rz (a0 a1 a2 a3 a4 a5 a6:T) {r:List T} (h:Yields (fun k=>kp (hl env k bG) (cl env k) a0 a1 a2 a3 a4 a5 a6) r):Yields (fun k=>cl env k dv [a0,a1,a2,a3,a4,a5,a6]) r:=Yields.call (fi:=bG) (Z:=fun H C=>kp H C a0 a1 a2 a3 a4 a5 a6) rfl rfl (fun H C=>by kernel_rfl) h
noncomputable abbrev iM (H:List Item→CS→R) (C:aF) (x1:T) (x2:T) (x3:T) (x4:T) (x5:T) (x6:T) (x7:T) (x8:T) (x9:T):R:=
 bif (decide (x5.i < (((x8.fld 1).es).length:Int))) then
 bif (decide (0≤x5.i)&&decide (x5.i.toNat < ((x8.fld 1).es).length)) then
 bif (((((x8.fld 1).nth x5.i.toNat).fld 0).s).toList==x4.s.toList) then
 orE (obind (C cO [x1,x2,x3,x7,x8,(T.int (x6.es.length:Int)),(T.st [(T.str od),x5,(T.int (0:Int))])]) fun r1=>
 bif (rt r1 2).b then
 none
 else
 fT H x1 x2 x3 x4 (T.int (IntKind.wrap .i64 (x5.i+(1:Int)))) x6 x7 x8 x9)
 (orE (obind (C bk [x1,x2,x3,x7,x8,x6,(T.st [(T.str od),x5,(T.int (0:Int))])]) fun r2=>
 bif (rt r2 2).b then
 some [(rt r2 0),(rt r2 1),(T.bool true)]
 else
 uz H x1 x2 x3 x4 (T.int (IntKind.wrap .i64 (x5.i+(1:Int)))) x7 x8 x9)
 (none))
 else
 fT H x1 x2 x3 x4 (T.int (IntKind.wrap .i64 (x5.i+(1:Int)))) x6 x7 x8 x9
 else
 none
 else
 bif (x4.s.toList==k_n.toList) then
 obind (C bk [x1,x2,x3,x7,x8,x6,(T.st [(T.str bE),(T.int (3:Int)),(T.int (0:Int))])]) fun r3=>
 some [(rt r3 0),(rt r3 1),(rt r3 2)]
 else
 bif (x4.s.toList==k_b.toList) then
 obind (C bk [x1,x2,x3,x7,x8,x6,(T.st [(T.str zk),(T.int (0:Int)),(T.int (0:Int))])]) fun r4=>
 some [(rt r4 0),(rt r4 1),(rt r4 2)]
 else
 bif (x4.s.toList==k_o.toList) then
 obind (C bk [x1,x2,x3,x7,x8,x6,(T.st [(T.str k_me),(T.int (0:Int)),(T.int (0:Int))])]) fun r5=>
 some [(rt r5 0),(rt r5 1),(rt r5 2)]
 else
 obind (C cU [x4]) fun r6=>
 bif (!(rt r6 2).b) then
 some [x8,x6,(T.bool false)]
 else
 bif ((rt r6 0).i != x3.i) then
 some [x8,x6,(T.bool false)]
 else
 iW H x1 x2 x3 (rt r6 1) (rt r6 2) (T.int (0:Int)) x6 x7 x8 x9
theorem qu (x1:T) (x2:T) (x3:T) (x4:T) (x5:T) (x6:T) (x7:T) (x8:T) (x9:T) {r:List T} (h:Yields (fun k=>iM (hl env k bG) (cl env k) x1 x2 x3 x4 x5 x6 x7 x8 x9) r):Yields (fun k=>fT (hl env k bG) x1 x2 x3 x4 x5 x6 x7 x8 x9) r:=Yields.head (Z:=fun H C=>iM H C x1 x2 x3 x4 x5 x6 x7 x8 x9) (fun H C=>by kernel_rfl) h
noncomputable abbrev lK (H:List Item→CS→R) (C:aF) (x1:T) (x2:T) (x3:T) (x4:T) (x5:T) (x6:T) (x7:T) (x8:T) (x9:T) (x10:T):R:=
 bif (decide (0≤x3.i)&&decide (x3.i.toNat < x2.es.length)) then
 bif (decide (0≤x4.i)&&decide (x4.i.toNat < ((x2.nth x3.i.toNat).es).length)) then
 bif (decide (x6.i < (((((x2.nth x3.i.toNat).nth x4.i.toNat).fld 1).es).length:Int))) then
 bif x5.b then
 bif (decide (0≤x3.i)&&decide (x3.i.toNat < x2.es.length)) then
 bif (decide (0≤x4.i)&&decide (x4.i.toNat < ((x2.nth x3.i.toNat).es).length)) then
 bif (decide (0≤x6.i)&&decide (x6.i.toNat < ((((x2.nth x3.i.toNat).nth x4.i.toNat).fld 1).es).length)) then
 obind (C dv [x1,x2,x3,x8,x9,x7,((((x2.nth x3.i.toNat).nth x4.i.toNat).fld 1).nth x6.i.toNat)]) fun r1=>
 iX H x1 x2 x3 x4 (rt r1 2) (T.int (IntKind.wrap .i64 (x6.i+(1:Int)))) (rt r1 1) x8 (rt r1 0) x10
 else
 none
 else
 none
 else
 none
 else
 bif (!x5.b) then
 some [x9,x7,(T.bool false)]
 else
 obind (C bk [x1,x2,x3,x8,x9,x7,(T.st [(T.str q7),x4,(T.int (0:Int))])]) fun r2=>
 some [(rt r2 0),(rt r2 1),(rt r2 2)]
 else
 bif (!x5.b) then
 some [x9,x7,(T.bool false)]
 else
 obind (C bk [x1,x2,x3,x8,x9,x7,(T.st [(T.str q7),x4,(T.int (0:Int))])]) fun r3=>
 some [(rt r3 0),(rt r3 1),(rt r3 2)]
 else
 none
 else
 none
theorem uY (x1:T) (x2:T) (x3:T) (x4:T) (x5:T) (x6:T) (x7:T) (x8:T) (x9:T) (x10:T) {r:List T} (h:Yields (fun k=>lK (hl env k bG) (cl env k) x1 x2 x3 x4 x5 x6 x7 x8 x9 x10) r):Yields (fun k=>iW (hl env k bG) x1 x2 x3 x4 x5 x6 x7 x8 x9 x10) r:=Yields.head (Z:=fun H C=>lK H C x1 x2 x3 x4 x5 x6 x7 x8 x9 x10) (fun H C=>by kernel_rfl) h
noncomputable abbrev iN (H:List Item→CS→R) (C:aF) (x1:T) (x2:T) (x3:T) (x4:T) (x5:T) (x6:T) (x7:T) (x8:T) (x9:T) (x10:T):R:=
 bif (decide (0≤x3.i)&&decide (x3.i.toNat < x2.es.length)) then
 bif (decide (0≤x4.i)&&decide (x4.i.toNat < ((x2.nth x3.i.toNat).es).length)) then
 bif (decide (x6.i < (((((x2.nth x3.i.toNat).nth x4.i.toNat).fld 1).es).length:Int))) then
 bif x5.b then
 bif (decide (0≤x3.i)&&decide (x3.i.toNat < x2.es.length)) then
 bif (decide (0≤x4.i)&&decide (x4.i.toNat < ((x2.nth x3.i.toNat).es).length)) then
 bif (decide (0≤x6.i)&&decide (x6.i.toNat < ((((x2.nth x3.i.toNat).nth x4.i.toNat).fld 1).es).length)) then
 obind (C dv [x1,x2,x3,x8,x9,x7,((((x2.nth x3.i.toNat).nth x4.i.toNat).fld 1).nth x6.i.toNat)]) fun r1=>
 iX H x1 x2 x3 x4 (rt r1 2) (T.int (IntKind.wrap .i64 (x6.i+(1:Int)))) (rt r1 1) x8 (rt r1 0) x10
 else
 none
 else
 none
 else
 none
 else
 bif (!x5.b) then
 some [x9,x7,(T.bool false)]
 else
 obind (C bk [x1,x2,x3,x8,x9,x7,(T.st [(T.str q7),x4,(T.int (0:Int))])]) fun r2=>
 some [(rt r2 0),(rt r2 1),(rt r2 2)]
 else
 bif (!x5.b) then
 some [x9,x7,(T.bool false)]
 else
 obind (C bk [x1,x2,x3,x8,x9,x7,(T.st [(T.str q7),x4,(T.int (0:Int))])]) fun r3=>
 some [(rt r3 0),(rt r3 1),(rt r3 2)]
 else
 none
 else
 none
theorem qv (x1:T) (x2:T) (x3:T) (x4:T) (x5:T) (x6:T) (x7:T) (x8:T) (x9:T) (x10:T) {r:List T} (h:Yields (fun k=>iN (hl env k bG) (cl env k) x1 x2 x3 x4 x5 x6 x7 x8 x9 x10) r):Yields (fun k=>iX (hl env k bG) x1 x2 x3 x4 x5 x6 x7 x8 x9 x10) r:=Yields.head (Z:=fun H C=>iN H C x1 x2 x3 x4 x5 x6 x7 x8 x9 x10) (fun H C=>by kernel_rfl) h
noncomputable abbrev oK (H:List Item→CS→R) (C:aF) (a0:T):R:=
 bif ((a0.s.size:Int) != (3:Int)) then
 some [(T.int (0:Int)),(T.int (0:Int)),(T.bool false)]
 else
 bif (decide (0≤(0:Int))&&decide (0 < a0.s.size)) then
 bif ((a0.s.data.getD 0 0).toNat != (83:Int)) then
 some [(T.int (0:Int)),(T.int (0:Int)),(T.bool false)]
 else
 bif (decide (0≤(1:Int))&&decide (1 < a0.s.size)) then
 bif (decide ((a0.s.data.getD 1 0).toNat < (48:Int))) then
 some [(T.int (0:Int)),(T.int (0:Int)),(T.bool false)]
 else
 bif (decide ((a0.s.data.getD 1 0).toNat > (57:Int))) then
 some [(T.int (0:Int)),(T.int (0:Int)),(T.bool false)]
 else
 bif (decide (0≤(2:Int))&&decide (2 < a0.s.size)) then
 bif (decide ((a0.s.data.getD 2 0).toNat < (48:Int))) then
 some [(T.int (0:Int)),(T.int (0:Int)),(T.bool false)]
 else
 bif (decide ((a0.s.data.getD 2 0).toNat > (57:Int))) then
 some [(T.int (0:Int)),(T.int (0:Int)),(T.bool false)]
 else
 some [(T.int (IntKind.wrap .i64 (IntKind.wrap .u8 ((a0.s.data.getD 1 0).toNat - (48:Int))))),(T.int (IntKind.wrap .i64 (IntKind.wrap .u8 ((a0.s.data.getD 2 0).toNat - (48:Int))))),(T.bool true)]
 else
 none
 else
 none
 else
 none
theorem ye (H:List Item→CS→R) (C:aF) (a0:T):bI ii env H C [a0] =
 bif ((((((a0.s.size:Int) != (3:Int))==false)&&true)&&(decide (0≤(0:Int))&&decide (0 < a0.s.size)))||(!(((a0.s.size:Int) != (3:Int))==false))) then
 bif ((((((a0.s.size:Int) != (3:Int))==false)&&true)&&true)||(!(((a0.s.size:Int) != (3:Int))==false))) then
 bif (bif ((a0.s.size:Int) != (3:Int)) then true else (((a0.s.size:Int) != (3:Int))==false)) then
 bif (((((bif ((a0.s.size:Int) != (3:Int)) then (T.bool true) else (T.bool ((a0.s.data.getD 0 0).toNat != (83:Int)))).b==false)&&true)&&(decide (0≤(1:Int))&&decide (1 < a0.s.size)))||(!((bif ((a0.s.size:Int) != (3:Int)) then (T.bool true) else (T.bool ((a0.s.data.getD 0 0).toNat != (83:Int)))).b==false))) then
 bif (((((bif ((a0.s.size:Int) != (3:Int)) then (T.bool true) else (T.bool ((a0.s.data.getD 0 0).toNat != (83:Int)))).b==false)&&true)&&true)||(!((bif ((a0.s.size:Int) != (3:Int)) then (T.bool true) else (T.bool ((a0.s.data.getD 0 0).toNat != (83:Int)))).b==false))) then
 bif (bif (bif ((a0.s.size:Int) != (3:Int)) then (T.bool true) else (T.bool ((a0.s.data.getD 0 0).toNat != (83:Int)))).b then true else ((bif ((a0.s.size:Int) != (3:Int)) then (T.bool true) else (T.bool ((a0.s.data.getD 0 0).toNat != (83:Int)))).b==false)) then
 bif (((((bif (bif ((a0.s.size:Int) != (3:Int)) then (T.bool true) else (T.bool ((a0.s.data.getD 0 0).toNat != (83:Int)))).b then (T.bool true) else (T.bool (decide ((a0.s.data.getD 1 0).toNat < (48:Int))))).b==false)&&true)&&(decide (0≤(1:Int))&&decide (1 < a0.s.size)))||(!((bif (bif ((a0.s.size:Int) != (3:Int)) then (T.bool true) else (T.bool ((a0.s.data.getD 0 0).toNat != (83:Int)))).b then (T.bool true) else (T.bool (decide ((a0.s.data.getD 1 0).toNat < (48:Int))))).b==false))) then
 bif (((((bif (bif ((a0.s.size:Int) != (3:Int)) then (T.bool true) else (T.bool ((a0.s.data.getD 0 0).toNat != (83:Int)))).b then (T.bool true) else (T.bool (decide ((a0.s.data.getD 1 0).toNat < (48:Int))))).b==false)&&true)&&true)||(!((bif (bif ((a0.s.size:Int) != (3:Int)) then (T.bool true) else (T.bool ((a0.s.data.getD 0 0).toNat != (83:Int)))).b then (T.bool true) else (T.bool (decide ((a0.s.data.getD 1 0).toNat < (48:Int))))).b==false))) then
 bif (bif (bif (bif ((a0.s.size:Int) != (3:Int)) then (T.bool true) else (T.bool ((a0.s.data.getD 0 0).toNat != (83:Int)))).b then (T.bool true) else (T.bool (decide ((a0.s.data.getD 1 0).toNat < (48:Int))))).b then true else ((bif (bif ((a0.s.size:Int) != (3:Int)) then (T.bool true) else (T.bool ((a0.s.data.getD 0 0).toNat != (83:Int)))).b then (T.bool true) else (T.bool (decide ((a0.s.data.getD 1 0).toNat < (48:Int))))).b==false)) then
 bif (((((bif (bif (bif ((a0.s.size:Int) != (3:Int)) then (T.bool true) else (T.bool ((a0.s.data.getD 0 0).toNat != (83:Int)))).b then (T.bool true) else (T.bool (decide ((a0.s.data.getD 1 0).toNat < (48:Int))))).b then (T.bool true) else (T.bool (decide ((a0.s.data.getD 1 0).toNat > (57:Int))))).b==false)&&true)&&(decide (0≤(2:Int))&&decide (2 < a0.s.size)))||(!((bif (bif (bif ((a0.s.size:Int) != (3:Int)) then (T.bool true) else (T.bool ((a0.s.data.getD 0 0).toNat != (83:Int)))).b then (T.bool true) else (T.bool (decide ((a0.s.data.getD 1 0).toNat < (48:Int))))).b then (T.bool true) else (T.bool (decide ((a0.s.data.getD 1 0).toNat > (57:Int))))).b==false))) then
 bif (((((bif (bif (bif ((a0.s.size:Int) != (3:Int)) then (T.bool true) else (T.bool ((a0.s.data.getD 0 0).toNat != (83:Int)))).b then (T.bool true) else (T.bool (decide ((a0.s.data.getD 1 0).toNat < (48:Int))))).b then (T.bool true) else (T.bool (decide ((a0.s.data.getD 1 0).toNat > (57:Int))))).b==false)&&true)&&true)||(!((bif (bif (bif ((a0.s.size:Int) != (3:Int)) then (T.bool true) else (T.bool ((a0.s.data.getD 0 0).toNat != (83:Int)))).b then (T.bool true) else (T.bool (decide ((a0.s.data.getD 1 0).toNat < (48:Int))))).b then (T.bool true) else (T.bool (decide ((a0.s.data.getD 1 0).toNat > (57:Int))))).b==false))) then
 bif (bif (bif (bif (bif ((a0.s.size:Int) != (3:Int)) then (T.bool true) else (T.bool ((a0.s.data.getD 0 0).toNat != (83:Int)))).b then (T.bool true) else (T.bool (decide ((a0.s.data.getD 1 0).toNat < (48:Int))))).b then (T.bool true) else (T.bool (decide ((a0.s.data.getD 1 0).toNat > (57:Int))))).b then true else ((bif (bif (bif ((a0.s.size:Int) != (3:Int)) then (T.bool true) else (T.bool ((a0.s.data.getD 0 0).toNat != (83:Int)))).b then (T.bool true) else (T.bool (decide ((a0.s.data.getD 1 0).toNat < (48:Int))))).b then (T.bool true) else (T.bool (decide ((a0.s.data.getD 1 0).toNat > (57:Int))))).b==false)) then
 bif (((((bif (bif (bif (bif ((a0.s.size:Int) != (3:Int)) then (T.bool true) else (T.bool ((a0.s.data.getD 0 0).toNat != (83:Int)))).b then (T.bool true) else (T.bool (decide ((a0.s.data.getD 1 0).toNat < (48:Int))))).b then (T.bool true) else (T.bool (decide ((a0.s.data.getD 1 0).toNat > (57:Int))))).b then (T.bool true) else (T.bool (decide ((a0.s.data.getD 2 0).toNat < (48:Int))))).b==false)&&true)&&(decide (0≤(2:Int))&&decide (2 < a0.s.size)))||(!((bif (bif (bif (bif ((a0.s.size:Int) != (3:Int)) then (T.bool true) else (T.bool ((a0.s.data.getD 0 0).toNat != (83:Int)))).b then (T.bool true) else (T.bool (decide ((a0.s.data.getD 1 0).toNat < (48:Int))))).b then (T.bool true) else (T.bool (decide ((a0.s.data.getD 1 0).toNat > (57:Int))))).b then (T.bool true) else (T.bool (decide ((a0.s.data.getD 2 0).toNat < (48:Int))))).b==false))) then
 bif (((((bif (bif (bif (bif ((a0.s.size:Int) != (3:Int)) then (T.bool true) else (T.bool ((a0.s.data.getD 0 0).toNat != (83:Int)))).b then (T.bool true) else (T.bool (decide ((a0.s.data.getD 1 0).toNat < (48:Int))))).b then (T.bool true) else (T.bool (decide ((a0.s.data.getD 1 0).toNat > (57:Int))))).b then (T.bool true) else (T.bool (decide ((a0.s.data.getD 2 0).toNat < (48:Int))))).b==false)&&true)&&true)||(!((bif (bif (bif (bif ((a0.s.size:Int) != (3:Int)) then (T.bool true) else (T.bool ((a0.s.data.getD 0 0).toNat != (83:Int)))).b then (T.bool true) else (T.bool (decide ((a0.s.data.getD 1 0).toNat < (48:Int))))).b then (T.bool true) else (T.bool (decide ((a0.s.data.getD 1 0).toNat > (57:Int))))).b then (T.bool true) else (T.bool (decide ((a0.s.data.getD 2 0).toNat < (48:Int))))).b==false))) then
 bif (bif (bif (bif (bif (bif ((a0.s.size:Int) != (3:Int)) then (T.bool true) else (T.bool ((a0.s.data.getD 0 0).toNat != (83:Int)))).b then (T.bool true) else (T.bool (decide ((a0.s.data.getD 1 0).toNat < (48:Int))))).b then (T.bool true) else (T.bool (decide ((a0.s.data.getD 1 0).toNat > (57:Int))))).b then (T.bool true) else (T.bool (decide ((a0.s.data.getD 2 0).toNat < (48:Int))))).b then true else ((bif (bif (bif (bif ((a0.s.size:Int) != (3:Int)) then (T.bool true) else (T.bool ((a0.s.data.getD 0 0).toNat != (83:Int)))).b then (T.bool true) else (T.bool (decide ((a0.s.data.getD 1 0).toNat < (48:Int))))).b then (T.bool true) else (T.bool (decide ((a0.s.data.getD 1 0).toNat > (57:Int))))).b then (T.bool true) else (T.bool (decide ((a0.s.data.getD 2 0).toNat < (48:Int))))).b==false)) then
 bif (bif (bif (bif (bif (bif ((a0.s.size:Int) != (3:Int)) then (T.bool true) else (T.bool ((a0.s.data.getD 0 0).toNat != (83:Int)))).b then (T.bool true) else (T.bool (decide ((a0.s.data.getD 1 0).toNat < (48:Int))))).b then (T.bool true) else (T.bool (decide ((a0.s.data.getD 1 0).toNat > (57:Int))))).b then (T.bool true) else (T.bool (decide ((a0.s.data.getD 2 0).toNat < (48:Int))))).b then (T.bool true) else (T.bool (decide ((a0.s.data.getD 2 0).toNat > (57:Int))))).b then
 some [(T.int (0:Int)),(T.int (0:Int)),(T.bool false)]
 else
 bif (decide (0≤(1:Int))&&decide (1 < a0.s.size)) then
 bif (decide (0≤(2:Int))&&decide (2 < a0.s.size)) then
 some [(T.int (IntKind.wrap .i64 (IntKind.wrap .u8 ((a0.s.data.getD 1 0).toNat - (48:Int))))),(T.int (IntKind.wrap .i64 (IntKind.wrap .u8 ((a0.s.data.getD 2 0).toNat - (48:Int))))),(T.bool true)]
 else
 none
 else
 none
 else
 none
 else
 none
 else
 none
 else
 none
 else
 none
 else
 none
 else
 none
 else
 none
 else
 none
 else
 none
 else
 none
 else
 none
 else
 none
 else
 none
 else
 none:=by kernel_rfl
theorem ym (H:List Item→CS→R) (C:aF) (a0:T):bI ii env H C [a0]=oK H C a0:=by
 refine (ye H C a0).trans ?_
 unfold oK
 all_goals try simp only[bs]
 all_goals cases hc:(((a0.s.size:Int) != (3:Int))) with
 | true=>
  try simp only[bs]
  all_goals kernel_rfl
 | false=>
  try simp only[bs]
  all_goals cases hc:((decide (0≤(0:Int))&&decide (0 < a0.s.size))) with
  | true=>
   try simp only[bs]
   all_goals cases hc:(((a0.s.data.getD 0 0).toNat != (83:Int))) with
   | true=>
    try simp only[bs]
    all_goals kernel_rfl
   | false=>
    try simp only[bs]
    all_goals cases hc:((decide (0≤(1:Int))&&decide (1 < a0.s.size))) with
    | true=>
     try simp only[bs]
     all_goals cases hc:((decide ((a0.s.data.getD 1 0).toNat < (48:Int)))) with
     | true=>
      try simp only[bs]
      all_goals kernel_rfl
     | false=>
      try simp only[bs]
      all_goals cases hc:((decide ((a0.s.data.getD 1 0).toNat > (57:Int)))) with
      | true=>
       try simp only[bs]
       all_goals kernel_rfl
      | false=>
       try simp only[bs]
       all_goals cases hc:((decide (0≤(2:Int))&&decide (2 < a0.s.size))) with
       | true=>
        try simp only[bs]
        all_goals cases hc:((decide ((a0.s.data.getD 2 0).toNat < (48:Int)))) with
        | true=>
         try simp only[bs]
         all_goals kernel_rfl
        | false=>
         try simp only[bs]
         all_goals cases hc:((decide ((a0.s.data.getD 2 0).toNat > (57:Int)))) with
         | true=>
          try simp only[bs]
          all_goals kernel_rfl
         | false=>
          try simp only[bs]
          all_goals kernel_rfl
       | false=>
        try simp only[bs]
        all_goals kernel_rfl
    | false=>
     try simp only[bs]
     all_goals kernel_rfl
  | false=>
   try simp only[bs]
   all_goals kernel_rfl
theorem yp (a0:T) {r:List T} (h:Yields (fun k=>oK (hl env k ii) (cl env k) a0) r):Yields (fun k=>cl env k cU [a0]) r:=Yields.call (fi:=ii) rfl rfl (fun H C=>ym H C a0) h
noncomputable abbrev tZ (H:List Item→CS→R) (C:aF) (a0:T):R:=
 obind (C bO [a0]) fun r1=>
 bif (rt r1 0).b then
 bif (decide (0≤(1:Int))&&(decide ((1:Int)≤(a0.s.size:Int))&&(decide ((a0.s.size:Int)≤(a0.s.size:Int))&&decide ((a0.s.size:Int)≤(a0.s.size:Int))))) then
 some [(T.str (a0.s.extract 1 a0.s.size))]
 else
 none
 else
 some [a0]
theorem Aa (H:List Item→CS→R) (C:aF) (a0:T):bI mJ env H C [a0]=tZ H C a0:=by kernel_rfl
theorem Ai (a0:T) {r:List T} (h:Yields (fun k=>tZ (hl env k mJ) (cl env k) a0) r):Yields (fun k=>cl env k cx [a0]) r:=Yields.call (fi:=mJ) rfl rfl (fun H C=>Aa H C a0) h
noncomputable abbrev oJ (H:List Item→CS→R) (C:aF) (a0:T):R:=
 bif (a0.s.toList==(⟨#[110]⟩:ByteArray).toList) then
 some [(T.bool true)]
 else
 bif (a0.s.toList==(⟨#[98]⟩:ByteArray).toList) then
 some [(T.bool true)]
 else
 some [(T.bool (a0.s.toList==(⟨#[111]⟩:ByteArray).toList))]
theorem yd (H:List Item→CS→R) (C:aF) (a0:T):bI ie env H C [a0] =
 bif (((((a0.s.toList==(⟨#[110]⟩:ByteArray).toList)==false)&&true)&&true)||(!((a0.s.toList==(⟨#[110]⟩:ByteArray).toList)==false))) then
 bif (bif (a0.s.toList==(⟨#[110]⟩:ByteArray).toList) then true else ((a0.s.toList==(⟨#[110]⟩:ByteArray).toList)==false)) then
 bif (((((bif (a0.s.toList==(⟨#[110]⟩:ByteArray).toList) then (T.bool true) else (T.bool (a0.s.toList==(⟨#[98]⟩:ByteArray).toList))).b==false)&&true)&&true)||(!((bif (a0.s.toList==(⟨#[110]⟩:ByteArray).toList) then (T.bool true) else (T.bool (a0.s.toList==(⟨#[98]⟩:ByteArray).toList))).b==false))) then
 bif (bif (bif (a0.s.toList==(⟨#[110]⟩:ByteArray).toList) then (T.bool true) else (T.bool (a0.s.toList==(⟨#[98]⟩:ByteArray).toList))).b then true else ((bif (a0.s.toList==(⟨#[110]⟩:ByteArray).toList) then (T.bool true) else (T.bool (a0.s.toList==(⟨#[98]⟩:ByteArray).toList))).b==false)) then
 some [(bif (bif (a0.s.toList==(⟨#[110]⟩:ByteArray).toList) then (T.bool true) else (T.bool (a0.s.toList==(⟨#[98]⟩:ByteArray).toList))).b then (T.bool true) else (T.bool (a0.s.toList==(⟨#[111]⟩:ByteArray).toList)))]
 else
 none
 else
 none
 else
 none
 else
 none:=by kernel_rfl
theorem yl (H:List Item→CS→R) (C:aF) (a0:T):bI ie env H C [a0]=oJ H C a0:=by
 refine (yd H C a0).trans ?_
 unfold oJ
 all_goals try simp only[bs]
 all_goals cases hc:((a0.s.toList==(⟨#[110]⟩:ByteArray).toList)) with
 | true=>
  try simp only[bs]
  all_goals kernel_rfl
 | false=>
  try simp only[bs]
  all_goals cases hc:((a0.s.toList==(⟨#[98]⟩:ByteArray).toList)) with
  | true=>
   try simp only[bs]
   all_goals kernel_rfl
  | false=>
   try simp only[bs]
   all_goals kernel_rfl
theorem yo (a0:T) {r:List T} (h:Yields (fun k=>oJ (hl env k ie) (cl env k) a0) r):Yields (fun k=>cl env k kU [a0]) r:=Yields.call (fi:=ie) rfl rfl (fun H C=>yl H C a0) h
noncomputable abbrev nj (H:List Item→CS→R) (C:aF) (a0 a1 a2 a3:T):R:=
 obind (C cU [a3]) fun r1=>
 bif (!(rt r1 2).b) then
 obind (C kU [a3]) fun r2=>
 some [(rt r2 0)]
 else
 obind (C mg [a0,(rt r1 0),(rt r1 1)]) fun r2=>
 bif (rt r2 0).b then
 bif (decide ((rt r1 0).i < a1.i)) then
 some [(T.bool true)]
 else
 bif ((rt r1 0).i==a1.i) then
 some [(T.bool (decide ((rt r1 1).i < a2.i)))]
 else
 some [(T.bool false)]
 else
 some [(T.bool false)]
theorem wM (H:List Item→CS→R) (C:aF) (a0 a1 a2 a3:T):bI gx env H C [a0,a1,a2,a3] =
 obind (C cU [a3]) fun r1=>
 bif (!(rt r1 2).b) then
 obind (C kU [a3]) fun r2=>
 some [(rt r2 0)]
 else
 obind (C mg [a0,(rt r1 0),(rt r1 1)]) fun r3=>
 bif (((((rt r3 0).b==true)&&((rt r3 0).b==true))&&true)||(!((rt r3 0).b==true))) then
 bif (((rt r3 0).b==true)||(!((rt r3 0).b==true))) then
 bif ((((((rt r3 0).b==true)&&((decide ((rt r1 0).i < a1.i))==false))&&(((rt r3 0).b==true)&&((decide ((rt r1 0).i < a1.i))==false)))&&true)||(!(((rt r3 0).b==true)&&((decide ((rt r1 0).i < a1.i))==false)))) then
 bif ((((rt r3 0).b==true)&&((decide ((rt r1 0).i < a1.i))==false))||(!(((rt r3 0).b==true)&&((decide ((rt r1 0).i < a1.i))==false)))) then
 bif (((((((rt r3 0).b==true)&&((decide ((rt r1 0).i < a1.i))==false))&&(((rt r1 0).i==a1.i)==true))&&((((rt r3 0).b==true)&&((decide ((rt r1 0).i < a1.i))==false))&&(((rt r1 0).i==a1.i)==true)))&&true)||(!((((rt r3 0).b==true)&&((decide ((rt r1 0).i < a1.i))==false))&&(((rt r1 0).i==a1.i)==true)))) then
 bif (((((rt r3 0).b==true)&&((decide ((rt r1 0).i < a1.i))==false))&&(bif ((rt r1 0).i==a1.i) then ((((rt r3 0).b==true)&&((decide ((rt r1 0).i < a1.i))==false))&&(((rt r1 0).i==a1.i)==true)) else true))||(!(((rt r3 0).b==true)&&((decide ((rt r1 0).i < a1.i))==false)))) then
 bif ((((rt r3 0).b==true)&&(bif (decide ((rt r1 0).i < a1.i)) then true else (((rt r3 0).b==true)&&((decide ((rt r1 0).i < a1.i))==false))))||(!((rt r3 0).b==true))) then
 bif (bif (rt r3 0).b then ((rt r3 0).b==true) else true) then
 some [(bif (rt r3 0).b then (bif (decide ((rt r1 0).i < a1.i)) then (T.bool true) else (bif ((rt r1 0).i==a1.i) then (T.bool (decide ((rt r1 1).i < a2.i))) else (T.bool false))) else (T.bool false))]
 else
 none
 else
 none
 else
 none
 else
 none
 else
 none
 else
 none
 else
 none
 else
 none:=by kernel_rfl
theorem wZ (H:List Item→CS→R) (C:aF) (a0 a1 a2 a3:T):bI gx env H C [a0,a1,a2,a3]=nj H C a0 a1 a2 a3:=by
 refine (wM H C a0 a1 a2 a3).trans ?_
 unfold nj
 all_goals try simp only[bs]
 all_goals refine br fun r1=>?_
 all_goals try simp only[bs]
 all_goals cases hc:((!(rt r1 2).b)) with
 | true=>
  try simp only[bs]
  all_goals refine br fun r2=>?_
  all_goals try simp only[bs]
  all_goals kernel_rfl
 | false=>
  try simp only[bs]
  all_goals refine br fun r2=>?_
  all_goals try simp only[bs]
  all_goals cases hc:((rt r2 0).b) with
  | true=>
   try simp only[bs]
   all_goals cases hc:((decide ((rt r1 0).i < a1.i))) with
   | true=>
    try simp only[bs]
    all_goals cases hc:(((rt r1 0).i==a1.i)) with
    | true=>
     try simp only[bs]
     all_goals kernel_rfl
    | false=>
     try simp only[bs]
     all_goals kernel_rfl
   | false=>
    try simp only[bs]
    all_goals cases hc:(((rt r1 0).i==a1.i)) with
    | true=>
     try simp only[bs]
     all_goals kernel_rfl
    | false=>
     try simp only[bs]
     all_goals kernel_rfl
  | false=>
   try simp only[bs]
   all_goals cases hc:((decide ((rt r1 0).i < a1.i))) with
   | true=>
    try simp only[bs]
    all_goals cases hc:(((rt r1 0).i==a1.i)) with
    | true=>
     try simp only[bs]
     all_goals kernel_rfl
    | false=>
     try simp only[bs]
     all_goals kernel_rfl
   | false=>
    try simp only[bs]
    all_goals cases hc:(((rt r1 0).i==a1.i)) with
    | true=>
     try simp only[bs]
     all_goals kernel_rfl
    | false=>
     try simp only[bs]
     all_goals kernel_rfl
theorem xl (a0 a1 a2 a3:T) {r:List T} (h:Yields (fun k=>nj (hl env k gx) (cl env k) a0 a1 a2 a3) r):Yields (fun k=>cl env k kh [a0,a1,a2,a3]) r:=Yields.call (fi:=gx) rfl rfl (fun H C=>wZ H C a0 a1 a2 a3) h
noncomputable def iV (H:List Item→CS→R) (x1:T) (x2:T) (x3:T):R:=H (bS eo.body 0) ([(0,.val 98 x1),(3,.sref 98 3 []),(4,.val 3 x2)],[(3,⟨98,x3,(.sl .dp),false⟩)])
noncomputable abbrev nm (H:List Item→CS→R) (C:aF) (a0:T):R:=
 iV H a0 (T.int (0:Int)) (T.sl [])
theorem xp (a0:T) {r:List T} (h:Yields (fun k=>nm (hl env k eo) (cl env k) a0) r):Yields (fun k=>cl env k ki [a0]) r:=Yields.call (fi:=eo) (Z:=fun H C=>nm H C a0) rfl rfl (fun H C=>by kernel_rfl) h
noncomputable abbrev iF (H:List Item→CS→R) (C:aF) (x1:T) (x2:T) (x3:T):R:=
 bif (decide (x2.i < (x1.es.length:Int))) then
 bif (decide (0≤x2.i)&&decide (x2.i.toNat < x1.es.length)) then
 obind (C oE [(x1.nth x2.i.toNat)]) fun r1=>
 bif (decide (x3.es.length + [(T.st [((rt r1 0).fld 0),((rt r1 0).fld 1)])].length≤LIM)) then
 iV H x1 (T.int (IntKind.wrap .i64 (x2.i+(1:Int)))) (T.sl (x3.es ++ [(T.st [((rt r1 0).fld 0),((rt r1 0).fld 1)])]))
 else
 none
 else
 none
 else
 some [x3]
theorem ql (x1:T) (x2:T) (x3:T) {r:List T} (h:Yields (fun k=>iF (hl env k eo) (cl env k) x1 x2 x3) r):Yields (fun k=>iV (hl env k eo) x1 x2 x3) r:=Yields.head (Z:=fun H C=>iF H C x1 x2 x3) (fun H C=>by kernel_rfl) h
noncomputable abbrev kB (H:List Item→CS→R) (C:aF) (a0 a1:T):R:=
 bif (((a1.fld 0).s).toList==bE.toList) then
 obind (C aK [a0,(T.str k_n),(T.sl [])]) fun r1=>
 some [(T.bool true),(rt (r1.drop 0) 0)]
 else
 bif (((a1.fld 0).s).toList==zk.toList) then
 obind (C aK [a0,(T.str k_b),(T.sl [])]) fun r2=>
 some [(T.bool true),(rt (r2.drop 0) 0)]
 else
 bif (((a1.fld 0).s).toList==k_false.toList) then
 obind (C aK [a0,(T.str k_b),(T.sl [])]) fun r3=>
 some [(T.bool true),(rt (r3.drop 0) 0)]
 else
 bif (((a1.fld 0).s).toList==k_me.toList) then
 obind (C aK [a0,(T.str k_o),(T.sl [])]) fun r4=>
 some [(T.bool true),(rt (r4.drop 0) 0)]
 else
 bif (((a1.fld 0).s).toList==k_add.toList) then
 obind (C aR [a0,(T.sl [(T.str k_n)])]) fun r5=>
 obind (C aR [(rt (r5.drop 1) 0),(T.sl [(T.str k_n)])]) fun r6=>
 obind (C aK [(rt (r6.drop 1) 0),(T.str k_n),(T.sl [])]) fun r7=>
 some [(T.bool true),(rt (r7.drop 0) 0)]
 else
 bif (((a1.fld 0).s).toList==k_sub.toList) then
 obind (C aR [a0,(T.sl [(T.str k_n)])]) fun r8=>
 obind (C aR [(rt (r8.drop 1) 0),(T.sl [(T.str k_n)])]) fun r9=>
 obind (C aK [(rt (r9.drop 1) 0),(T.str k_n),(T.sl [])]) fun r10=>
 some [(T.bool true),(rt (r10.drop 0) 0)]
 else
 bif (((a1.fld 0).s).toList==k_mul.toList) then
 obind (C aR [a0,(T.sl [(T.str k_n)])]) fun r11=>
 obind (C aR [(rt (r11.drop 1) 0),(T.sl [(T.str k_n)])]) fun r12=>
 obind (C aK [(rt (r12.drop 1) 0),(T.str k_n),(T.sl [])]) fun r13=>
 some [(T.bool true),(rt (r13.drop 0) 0)]
 else
 bif (((a1.fld 0).s).toList==k_div.toList) then
 obind (C aR [a0,(T.sl [(T.str k_n)])]) fun r14=>
 obind (C aR [(rt (r14.drop 1) 0),(T.sl [(T.str k_n)])]) fun r15=>
 obind (C aK [(rt (r15.drop 1) 0),(T.str k_n),(T.sl [])]) fun r16=>
 some [(T.bool true),(rt (r16.drop 0) 0)]
 else
 bif (((a1.fld 0).s).toList==k_mod.toList) then
 obind (C aR [a0,(T.sl [(T.str k_n)])]) fun r17=>
 obind (C aR [(rt (r17.drop 1) 0),(T.sl [(T.str k_n)])]) fun r18=>
 obind (C aK [(rt (r18.drop 1) 0),(T.str k_n),(T.sl [])]) fun r19=>
 some [(T.bool true),(rt (r19.drop 0) 0)]
 else
 bif (((a1.fld 0).s).toList==k_less.toList) then
 obind (C aR [a0,(T.sl [(T.str k_n)])]) fun r20=>
 obind (C aR [(rt (r20.drop 1) 0),(T.sl [(T.str k_n)])]) fun r21=>
 obind (C aK [(rt (r21.drop 1) 0),(T.str k_b),(T.sl [])]) fun r22=>
 some [(T.bool true),(rt (r22.drop 0) 0)]
 else
 bif (((a1.fld 0).s).toList==k_and.toList) then
 obind (C aR [a0,(T.sl [(T.str k_b)])]) fun r23=>
 obind (C aR [(rt (r23.drop 1) 0),(T.sl [(T.str k_b)])]) fun r24=>
 obind (C aK [(rt (r24.drop 1) 0),(T.str k_b),(T.sl [])]) fun r25=>
 some [(T.bool true),(rt (r25.drop 0) 0)]
 else
 bif (((a1.fld 0).s).toList==k_or.toList) then
 obind (C aR [a0,(T.sl [(T.str k_b)])]) fun r26=>
 obind (C aR [(rt (r26.drop 1) 0),(T.sl [(T.str k_b)])]) fun r27=>
 obind (C aK [(rt (r27.drop 1) 0),(T.str k_b),(T.sl [])]) fun r28=>
 some [(T.bool true),(rt (r28.drop 0) 0)]
 else
 bif (((a1.fld 0).s).toList==k_not.toList) then
 obind (C aR [a0,(T.sl [(T.str k_b)])]) fun r29=>
 obind (C aK [(rt (r29.drop 1) 0),(T.str k_b),(T.sl [])]) fun r30=>
 some [(T.bool true),(rt (r30.drop 0) 0)]
 else
 bif (((a1.fld 0).s).toList==k_same.toList) then
 obind (C aR [a0,(T.sl [])]) fun r31=>
 obind (C aR [(rt (r31.drop 1) 0),(T.sl [((rt r31 0).fld 0)])]) fun r32=>
 obind (C bO [((rt r31 0).fld 0)]) fun r33=>
 obind (C aM [(rt (r32.drop 1) 0),(T.bool (!(rt r33 0).b)),(T.int (1:Int))]) fun r34=>
 bif (((rt (r34.drop 0) 0).fld 5).i != (0:Int)) then
 obind (C aM [(rt (r34.drop 0) 0),(T.bool true),(T.int (3:Int))]) fun r35=>
 obind (C aK [(rt (r35.drop 0) 0),(T.str k_b),(T.sl [])]) fun r36=>
 some [(T.bool true),(rt (r36.drop 0) 0)]
 else
 obind (C cu [(rt (r34.drop 0) 0),((rt r31 0).fld 0),(T.int (2:Int))]) fun r37=>
 obind (C aM [(rt (r37.drop 1) 0),(rt r37 0),(T.int (3:Int))]) fun r38=>
 obind (C aK [(rt (r38.drop 0) 0),(T.str k_b),(T.sl [])]) fun r39=>
 some [(T.bool true),(rt (r39.drop 0) 0)]
 else
 bif (((a1.fld 0).s).toList==t6.toList) then
 some [(T.bool true),a0]
 else
 bif (((a1.fld 0).s).toList==dz.toList) then
 obind (C aR [a0,(T.sl [(T.str k_b)])]) fun r40=>
 some [(T.bool true),(rt (r40.drop 1) 0)]
 else
 bif (((a1.fld 0).s).toList==bm.toList) then
 obind (C aR [a0,(T.sl [(T.str k_n)])]) fun r41=>
 some [(T.bool true),(rt (r41.drop 1) 0)]
 else
 some [(T.bool false),a0]
theorem tX (a0 a1:T) {r:List T} (h:Yields (fun k=>kB (hl env k jQ) (cl env k) a0 a1) r):Yields (fun k=>cl env k ky [a0,a1]) r:=Yields.call (fi:=jQ) (Z:=fun H C=>kB H C a0 a1) rfl rfl (fun H C=>by kernel_rfl) h
noncomputable abbrev jI (H:List Item→CS→R) (C:aF) (a0 a1:T):R:=
 bif (((a1.fld 0).s).toList==k_copy.toList) then
 obind (C fq [a0,(a1.fld 1)]) fun r1=>
 bif (rt r1 0).b then
 bif (decide (0≤(a1.fld 1).i)&&decide (((a1.fld 1).i).toNat < ((((rt (r1.drop 1) 0).fld 4).fld 1).es).length)) then
 obind (C cu [(rt (r1.drop 1) 0),(((((rt (r1.drop 1) 0).fld 4).fld 1).nth (((a1.fld 1).i).toNat)).fld 0),(T.int (1:Int))]) fun r2=>
 obind (C aM [(rt (r2.drop 1) 0),(rt r2 0),(T.int (3:Int))]) fun r3=>
 obind (C bO [(((((rt (r1.drop 1) 0).fld 4).fld 1).nth (((a1.fld 1).i).toNat)).fld 0)]) fun r4=>
 bif (((rt r4 0).b==false)||(!((rt r4 0).b==false))) then
 bif (((rt r4 0).b==false)||(!((rt r4 0).b==false))) then
 bif (((rt r4 0).b==false)||(!((rt r4 0).b==false))) then
 bif (((rt r4 0).b==false)||(!((rt r4 0).b==false))) then
 bif ((((rt r4 0).b==false)&&(((rt r4 0).b==false)&&true))||(!((rt r4 0).b==false))) then
 obind ((bif ((rt r4 0).b==false) then C db [(T.st [(((rt (r3.drop 0) 0).fld 4).fld 0),(((rt (r3.drop 0) 0).fld 4).fld 1)]),(a1.fld 1)] else some [])) fun r5=>
 bif (((rt r4 0).b==false)||(!((rt r4 0).b==false))) then
 bif (bif (rt r4 0).b then true else ((rt r4 0).b==false)) then
 obind (C aM [(rt (r3.drop 0) 0),(bif (rt r4 0).b then (T.bool true) else (T.bool (!(rt r5 0).b))),(T.int (4:Int))]) fun r6=>
 obind (C aK [(rt (r6.drop 0) 0),(((((rt (r1.drop 1) 0).fld 4).fld 1).nth (((a1.fld 1).i).toNat)).fld 0),(((((rt (r1.drop 1) 0).fld 4).fld 1).nth (((a1.fld 1).i).toNat)).fld 1)]) fun r7=>
 some [(T.bool true),(rt (r7.drop 0) 0)]
 else
 none
 else
 none
 else
 none
 else
 none
 else
 none
 else
 none
 else
 none
 else
 none
 else
 some [(T.bool true),(rt (r1.drop 1) 0)]
 else
 bif (((a1.fld 0).s).toList==od.toList) then
 obind (C fq [a0,(a1.fld 1)]) fun r8=>
 bif (rt r8 0).b then
 bif (decide (0≤(a1.fld 1).i)&&decide (((a1.fld 1).i).toNat < ((((rt (r8.drop 1) 0).fld 4).fld 1).es).length)) then
 obind (C cr [(T.st [(((rt (r8.drop 1) 0).fld 4).fld 0),(((rt (r8.drop 1) 0).fld 4).fld 1)]),(a1.fld 1)]) fun r9=>
 obind (C aM [(rt (r8.drop 1) 0),(T.bool (!(rt r9 0).b)),(T.int (4:Int))]) fun r10=>
 bif (decide (0≤(a1.fld 1).i)&&decide (((a1.fld 1).i).toNat < ((((rt (r10.drop 0) 0).fld 4).fld 1).es).length)) then
 obind (C aK [(T.put (rt (r10.drop 0) 0) [.fld 4,.fld 1,.idx (((a1.fld 1).i).toNat)] (T.st [(T.str (⟨#[]⟩:ByteArray)),(T.sl [])])),(((((rt (r8.drop 1) 0).fld 4).fld 1).nth (((a1.fld 1).i).toNat)).fld 0),(((((rt (r8.drop 1) 0).fld 4).fld 1).nth (((a1.fld 1).i).toNat)).fld 1)]) fun r11=>
 some [(T.bool true),(rt (r11.drop 0) 0)]
 else
 none
 else
 none
 else
 some [(T.bool true),(rt (r8.drop 1) 0)]
 else
 bif (((a1.fld 0).s).toList==k_put.toList) then
 obind (C mi [a0,(a1.fld 1)]) fun r12=>
 some [(T.bool true),(rt (r12.drop 0) 0)]
 else
 bif (((a1.fld 0).s).toList==vT.toList) then
 obind (C aR [a0,(T.sl [])]) fun r13=>
 bif (((rt (r13.drop 1) 0).fld 5).i != (0:Int)) then
 obind (C aM [(rt (r13.drop 1) 0),(T.bool true),(T.int (3:Int))]) fun r14=>
 some [(T.bool true),(rt (r14.drop 0) 0)]
 else
 obind (C cu [(rt (r13.drop 1) 0),((rt r13 0).fld 0),(T.int (2:Int))]) fun r15=>
 obind (C aM [(rt (r15.drop 1) 0),(rt r15 0),(T.int (3:Int))]) fun r16=>
 some [(T.bool true),(rt (r16.drop 0) 0)]
 else
 bif (((a1.fld 0).s).toList==k_lend.toList) then
 obind (C iw [a0,a1]) fun r17=>
 some [(T.bool true),(rt (r17.drop 0) 0)]
 else
 bif (((a1.fld 0).s).toList==k_lendw.toList) then
 obind (C iw [a0,a1]) fun r18=>
 some [(T.bool true),(rt (r18.drop 0) 0)]
 else
 some [(T.bool false),a0]
theorem tq (a0 a1:T) {r:List T} (h:Yields (fun k=>jI (hl env k jn) (cl env k) a0 a1) r):Yields (fun k=>cl env k jF [a0,a1]) r:=Yields.call (fi:=jn) (Z:=fun H C=>jI H C a0 a1) rfl rfl (fun H C=>by kernel_rfl) h
noncomputable def dS (H:List Item→CS→R) (x1:T) (x2:T) (x3:T) (x4:T):R:=H (bS bC.body 0) ([(0,.pref 122 100000 []),(3,.pref 68 3 []),(5,.val 9 x1),(6,.val 3 x2)],[(100000,⟨122,x3,(.st [.fz,.fz,.dp,.fz,(.st [(.sl (.st [.dp,.fz])),(.sl (.st [.dp,.fz]))]),.dp]),true⟩),(3,⟨68,x4,.dp,true⟩)])
noncomputable def dT (H:List Item→CS→R) (x1:T) (x2:T) (x3:T) (x4:T):R:=H (bS bC.body 1) ([(0,.pref 122 100000 []),(3,.pref 68 3 []),(8,.val 9 x1),(9,.val 3 x2)],[(100000,⟨122,x3,(.st [.fz,.fz,.dp,.fz,(.st [(.sl (.st [.dp,.fz])),(.sl (.st [.dp,.fz]))]),.dp]),true⟩),(3,⟨68,x4,.dp,true⟩)])
end Go.Proofs.Ytgmhmcnogmojaaa.Ra
