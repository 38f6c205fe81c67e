/- A verified evaluator for the program, part Eq0 of this claim. -/
import Derived.Test.YtdmgnefllclaoaaGreatVTab
set_option linter.unusedSimpArgs false
set_option linter.unusedVariables false
set_option linter.unusedSimpArgs false
set_option linter.unusedVariables false
namespace Go.Proofs.YtdmgnefllclaoaaGreat.Ra
open Go
abbrev rm:ByteArray:=⟨#[115,101,101,119]⟩
abbrev kt:ByteArray:=⟨#[115,101,101]⟩
abbrev bv:ByteArray:=⟨#[104,97,115]⟩
abbrev cJ:ByteArray:=⟨#[116,97,107,101]⟩
abbrev aT:ByteArray:=⟨#[107,101,101,112]⟩
abbrev k_freeze:ByteArray:=⟨#[102,114,101,101,122,101]⟩
abbrev k_write:ByteArray:=⟨#[119,114,105,116,101]⟩
abbrev t7:ByteArray:=⟨#[112,101,101,107]⟩
abbrev k_read:ByteArray:=⟨#[114,101,97,100]⟩
abbrev k_field:ByteArray:=⟨#[102,105,101,108,100]⟩
abbrev lT:ByteArray:=⟨#[117,110,112,97,99,107]⟩
abbrev q7:ByteArray:=⟨#[112,97,99,107]⟩
abbrev k_lendw:ByteArray:=⟨#[108,101,110,100,119]⟩
abbrev k_lend:ByteArray:=⟨#[108,101,110,100]⟩
abbrev vT:ByteArray:=⟨#[100,114,111,112]⟩
abbrev k_put:ByteArray:=⟨#[112,117,116]⟩
abbrev k_copy:ByteArray:=⟨#[99,111,112,121]⟩
abbrev k_same:ByteArray:=⟨#[115,97,109,101]⟩
abbrev k_not:ByteArray:=⟨#[110,111,116]⟩
abbrev k_or:ByteArray:=⟨#[111,114]⟩
abbrev k_and:ByteArray:=⟨#[97,110,100]⟩
abbrev k_less:ByteArray:=⟨#[108,101,115,115]⟩
abbrev k_mod:ByteArray:=⟨#[109,111,100]⟩
abbrev k_div:ByteArray:=⟨#[100,105,118]⟩
abbrev k_mul:ByteArray:=⟨#[109,117,108]⟩
abbrev k_sub:ByteArray:=⟨#[115,117,98]⟩
abbrev k_add:ByteArray:=⟨#[97,100,100]⟩
abbrev k_me:ByteArray:=⟨#[109,101]⟩
abbrev k_false:ByteArray:=⟨#[102,97,108,115,101]⟩
abbrev zk:ByteArray:=⟨#[116,114,117,101]⟩
abbrev od:ByteArray:=⟨#[109,111,118,101]⟩
abbrev k_call:ByteArray:=⟨#[99,97,108,108]⟩
abbrev o8:ByteArray:=⟨#[114,101,116]⟩
abbrev dz:ByteArray:=⟨#[122,101,114,111]⟩
abbrev Ko:ByteArray:=⟨#[106,117,109,112]⟩
abbrev bm:ByteArray:=⟨#[102,97,105,108]⟩
abbrev bE:ByteArray:=⟨#[110,117,109]⟩
abbrev k_x:ByteArray:=⟨#[120]⟩
abbrev cI:ByteArray:=⟨#[33]⟩
abbrev cX:ByteArray:=⟨#[38]⟩
abbrev sZ:ByteArray:=⟨#[38,110]⟩
abbrev k_S11:ByteArray:=⟨#[83,49,49]⟩
abbrev k_o:ByteArray:=⟨#[111]⟩
abbrev k_b:ByteArray:=⟨#[98]⟩
abbrev k_S00:ByteArray:=⟨#[83,48,48]⟩
abbrev Nj:ByteArray:=⟨#[38,83,48,48]⟩
abbrev vS:ByteArray:=⟨#[83,48,57]⟩
abbrev k_n:ByteArray:=⟨#[110]⟩
abbrev k_S:ByteArray:=⟨#[83]⟩
abbrev HT:Type:=List Item→CS→R
variable {r:List T}
abbrev Gt:Nat:=5
abbrev GQ:Nat:=6
abbrev GD:Nat:=7
abbrev GR:Nat:=8
abbrev GS:Nat:=9
abbrev cr:Nat:=12
abbrev db:Nat:=15
abbrev Hr:Nat:=16
abbrev GP:Nat:=17
abbrev GT:Nat:=18
abbrev He:Nat:=19
abbrev HR:Nat:=20
abbrev Hz:Nat:=21
abbrev HC:Nat:=22
abbrev EU:Nat:=23
abbrev F8:Nat:=24
abbrev HN:Nat:=25
abbrev Hf:Nat:=26
abbrev Fa:Nat:=27
abbrev FI:Nat:=28
abbrev HS:Nat:=29
abbrev HD:Nat:=30
abbrev Ek:Nat:=31
abbrev NM:Nat:=32
abbrev HA:Nat:=33
abbrev HE:Nat:=34
abbrev oF:Nat:=35
abbrev aG:Nat:=38
abbrev gb:Nat:=40
abbrev d9:Nat:=41
abbrev mn:Nat:=42
abbrev EN:Nat:=43
abbrev EW:Nat:=44
abbrev ER:Nat:=45
abbrev Ge:Nat:=46
abbrev cU:Nat:=47
abbrev Ep:Nat:=48
abbrev H7:Nat:=49
abbrev H8:Nat:=50
abbrev JF:Nat:=51
abbrev EI:Nat:=52
abbrev Eh:Nat:=53
abbrev ES:Nat:=54
abbrev E7:Nat:=55
abbrev IC:Nat:=56
abbrev Jj:Nat:=57
abbrev Ex:Nat:=58
abbrev Hx:Nat:=59
abbrev Fb:Nat:=60
abbrev EJ:Nat:=61
abbrev GG:Nat:=62
abbrev GB:Nat:=63
abbrev EA:Nat:=64
abbrev dZ:Nat:=65
abbrev EG:Nat:=66
abbrev Gg:Nat:=67
abbrev Gd:Nat:=68
abbrev F0:Nat:=69
abbrev dH:Nat:=71
abbrev eb:Nat:=73
abbrev IB:Nat:=75
abbrev bO:Nat:=77
abbrev dY:Nat:=78
abbrev eN:Nat:=79
abbrev qy:Nat:=80
abbrev ml:Nat:=81
abbrev lw:Nat:=82
abbrev dE:Nat:=83
abbrev bH:Nat:=84
abbrev eD:Nat:=85
abbrev cB:Nat:=86
abbrev hL:Nat:=87
abbrev Fu:Nat:=88
abbrev na:Nat:=89
abbrev JB:Nat:=90
abbrev kU:Nat:=91
abbrev mg:Nat:=92
abbrev El:Nat:=93
abbrev Gf:Nat:=94
abbrev HB:Nat:=95
abbrev me:Nat:=96
abbrev Eu:Nat:=97
abbrev Fd:Nat:=98
abbrev F3:Nat:=99
abbrev Fk:Nat:=100
abbrev HQ:Nat:=101
abbrev fp:Nat:=102
abbrev cP:Nat:=103
abbrev ix:Nat:=104
abbrev nc:Nat:=107
abbrev dG:Nat:=109
abbrev p9:Nat:=113
abbrev iy:Nat:=114
abbrev ng:Nat:=115
abbrev qx:Nat:=116
abbrev ET:Nat:=117
abbrev kx:Nat:=118
abbrev EV:Nat:=119
abbrev GF:Nat:=120
abbrev nb:Nat:=121
abbrev nd:Nat:=124
abbrev lv:Nat:=125
abbrev qZ:Nat:=127
abbrev aI:Nat:=128
abbrev eA:Nat:=129
abbrev du:Nat:=130
abbrev mh:Nat:=131
abbrev Ft:Nat:=132
abbrev cx:Nat:=133
abbrev ki:Nat:=135
abbrev ky:Nat:=136
abbrev jF:Nat:=137
abbrev jj:Nat:=138
abbrev cm:Nat:=139
abbrev aM:Nat:=140
abbrev lu:Nat:=141
abbrev mj:Nat:=142
abbrev kV:Nat:=153
abbrev bk:Nat:=154
abbrev dv:Nat:=155
abbrev kh:Nat:=156
abbrev oE:Nat:=159
abbrev aK:Nat:=160
abbrev aR:Nat:=161
abbrev cu:Nat:=162
abbrev fq:Nat:=163
abbrev mi:Nat:=164
abbrev iw:Nat:=165
abbrev eZ:Nat:=166
abbrev cw:Nat:=167
abbrev mf:Nat:=168
abbrev ne:Nat:=169
abbrev hJ:Nat:=174
abbrev cO:Nat:=5154
abbrev jr:Nat:=10154
noncomputable def EY (H:HT) (x1 x2 x3 x4 x5 x6:T):R:=H (bS Er.body 0) ([(3,.val 30 x1),(4,.val 31 x2),(5,.val 9 x3),(6,.val 3 x4),(8,.val 3 x5),(9,.val 3 x6)],[])
noncomputable abbrev Gu (H:HT) (C:aF) (a0:T):R:=
 bif (decide ((a0.es.length:Int) > (1048576:Int))) then
 some [(T.bool true)]
 else
 obind (C Hr [a0]) fun r1=>
 obind (C GP [(rt r1 0),(rt r1 1),(rt r1 2)]) fun r2=>
 obind (C GT [(rt r1 0),(rt r1 1),(rt r1 2)]) fun r3=>
 bif ((rt r2 0).i != (rt r3 0).i) then
 some [(T.bool false)]
 else
 bif (decide ((rt r2 0).i < (0:Int))) then
 some [(T.bool true)]
 else
 EY H (rt r1 0) (rt r1 1) (rt r1 2) (rt r2 0) (T.int (0:Int)) (T.int (0:Int))
theorem K1 (a0:T) (h:Yields (fun k=>Gu (hl env k Er) (cl env k) a0) r):Yields (fun k=>cl env k Gt [a0]) r:=Yields.ca (Gu · · a0) h (by kernel_rfl)
noncomputable abbrev Hs (H:HT) (C:aF) (x1 x2 x3 x4 x5 x6:T):R:=
 bif (decide (x6.i < (x2.es.length:Int))) then
 bif (decide (0≤x6.i)&&decide (x6.i.toNat < x2.es.length)) then
 obind (C He [x1,((x2.nth x6.i.toNat).fld 1),x3]) fun r1=>
 EY H x1 x2 x3 x4 (T.int (IntKind.wrap .i64 (x5.i+(rt r1 0).i))) (T.int (IntKind.wrap .i64 (x6.i+(1:Int))))
 else
 none
 else
 some [(T.bool (x5.i==x4.i))]
theorem Hv (x1 x2 x3 x4 x5 x6:T) (h:Yields (fun k=>Hs (hl env k Er) (cl env k) x1 x2 x3 x4 x5 x6) r):Yields (fun k=>EY (hl env k Er) x1 x2 x3 x4 x5 x6) r:=Yields.hd (Hs · · x1 x2 x3 x4 x5 x6) h (by kernel_rfl)
noncomputable abbrev GZ (H:HT) (C:aF) (a0:T):R:=
 bif (decide ((a0.es.length:Int) > (1048576:Int))) then
 some [(T.bool true)]
 else
 obind (C HR [a0]) fun r1=>
 obind (C Hz [(rt r1 0),(rt r1 1),(rt r1 2),(rt r1 3)]) fun r2=>
 (fun s0=>
 obind (C HC [(rt r1 0),(rt r1 1),(rt r1 2),(rt r1 3)]) fun r3=>
 obind (C EU [s0,(T.st [((rt r3 0).fld 0),((rt r3 0).fld 1),((rt r3 0).fld 2),((rt r3 0).fld 3)])]) fun r4=>
 bif (!(rt r4 0).b) then
 some [(T.bool false)]
 else
 bif (!((rt r2 1).b==(rt r3 1).b)) then
 some [(T.bool false)]
 else
 obind (C F8 [(rt r1 0),(rt r1 1),(rt r1 2),(rt r1 3)]) fun r5=>
 bif ((rt r5 2).b==(rt r2 1).b) then
 bif (!(rt r5 2).b) then
 some [(T.bool true)]
 else
 obind (C EU [(T.st [((rt r5 1).fld 0),((rt r5 1).fld 1),((rt r5 1).fld 2),((rt r5 1).fld 3)]),s0]) fun r6=>
 some [(rt r6 0)]
 else
 some [(T.bool false)]) (T.st [((rt r2 0).fld 0),((rt r2 0).fld 1),((rt r2 0).fld 2),((rt r2 0).fld 3)])
theorem KB (a0:T) (h:Yields (fun k=>GZ (hl env k FQ) (cl env k) a0) r):Yields (fun k=>cl env k GQ [a0]) r:=Yields.ca (GZ · · a0) h (by kernel_rfl)
noncomputable abbrev GE (H:HT) (C:aF) (a0:T):R:=
 bif (decide ((a0.es.length:Int) > (1048576:Int))) then
 some [(T.bool true)]
 else
 obind (C HN [a0]) fun r1=>
 obind (C F8 [(rt r1 0),(rt r1 1),(rt r1 2),(rt r1 3)]) fun r2=>
 (fun s0=>
 obind (C Hf [(rt r1 0),(rt r1 1),(rt r1 2),(rt r1 3)]) fun r3=>
 obind (C Fa [(rt r2 0),(rt r3 0)]) fun r4=>
 bif (!(rt r4 0).b) then
 some [(T.bool false)]
 else
 obind (C EU [s0,(T.st [((rt r3 1).fld 0),((rt r3 1).fld 1),((rt r3 1).fld 2),((rt r3 1).fld 3)])]) fun r5=>
 bif (!(rt r5 0).b) then
 some [(T.bool false)]
 else
 bif (!((rt r2 2).b==(rt r3 2).b)) then
 some [(T.bool false)]
 else
 obind (C FI [(rt r1 0),(rt r2 0),(rt r1 2),s0]) fun r6=>
 bif (!(rt r2 2).b) then
 some [(T.bool true)]
 else
 bif (rt r6 1).b then
 obind (C Fa [(rt r6 0),(rt r1 1)]) fun r7=>
 some [(rt r7 0)]
 else
 some [(T.bool false)]) (T.st [((rt r2 1).fld 0),((rt r2 1).fld 1),((rt r2 1).fld 2),((rt r2 1).fld 3)])
theorem Kd (a0:T) (h:Yields (fun k=>GE (hl env k FG) (cl env k) a0) r):Yields (fun k=>cl env k GD [a0]) r:=Yields.ca (GE · · a0) h (by kernel_rfl)
noncomputable abbrev H0 (H:HT) (C:aF) (a0:T):R:=
 (fun s0=>
 bif (decide ((a0.es.length:Int) > (1048576:Int))) then
 some [(T.bool true)]
 else
 obind (C HS [a0]) fun r1=>
 obind (C FI [(rt r1 0),(rt r1 1),(rt r1 2),(rt r1 3)]) fun r2=>
 obind (C HD [(rt r1 0),(rt r1 1),(rt r1 2),(rt r1 3)]) fun r3=>
 obind (C Fa [(rt r2 0),(rt r3 0)]) fun r4=>
 bif (!(rt r4 0).b) then
 some [s0]
 else
 bif (!((rt r2 1).b==(rt r3 1).b)) then
 some [s0]
 else
 obind (C F8 [(rt r1 0),(rt r2 0),(rt r1 2),((rt r1 3).fld 0)]) fun r5=>
 bif (!(rt r2 1).b) then
 some [(T.bool true)]
 else
 obind (C Ek [(rt r1 0),(rt r2 0)]) fun r6=>
 bif (rt r6 0).b then
 bif (rt r5 2).b then
 obind (C EU [(T.st [((rt r5 1).fld 0),((rt r5 1).fld 1),((rt r5 1).fld 2),((rt r5 1).fld 3)]),(rt r1 3)]) fun r7=>
 bif (rt r7 0).b then
 obind (C Fa [(rt r5 0),(rt r1 1)]) fun r8=>
 some [(rt r8 0)]
 else
 some [s0]
 else
 some [s0]
 else
 some [s0]) (T.bool false)
theorem KC (a0:T) (h:Yields (fun k=>H0 (hl env k FR) (cl env k) a0) r):Yields (fun k=>cl env k GR [a0]) r:=Yields.ca (H0 · · a0) h (by kernel_rfl)
noncomputable abbrev H1 (H:HT) (C:aF) (a0:T):R:=
 bif (decide ((a0.es.length:Int) > (1048576:Int))) then
 some [(T.bool true)]
 else
 obind (C NM [a0]) fun r1=>
 obind (C HA [(rt r1 0),(rt r1 1),(rt r1 2),(rt r1 3)]) fun r2=>
 obind (C HE [(rt r1 0),(rt r1 1),(rt r1 2),(rt r1 3)]) fun r3=>
 obind (C Fa [(rt r2 0),(rt r3 0)]) fun r4=>
 bif (!(rt r4 0).b) then
 some [(T.bool false)]
 else
 bif (!((rt r2 1).b==(rt r3 1).b)) then
 some [(T.bool false)]
 else
 obind (C F8 [(rt r1 0),(rt r1 1),(rt r1 2),((rt r1 3).fld 0)]) fun r5=>
 obind (C FI [(rt r1 0),(rt r5 0),(rt r1 2),(rt r1 3)]) fun r6=>
 bif (!(rt r2 1).b) then
 some [(T.bool true)]
 else
 bif (rt r5 2).b then
 bif (rt r6 1).b then
 obind (C Fa [(rt r6 0),(rt r2 0)]) fun r7=>
 some [(rt r7 0)]
 else
 some [(T.bool false)]
 else
 some [(T.bool false)]
theorem KD (a0:T) (h:Yields (fun k=>H1 (hl env k FS) (cl env k) a0) r):Yields (fun k=>cl env k GS [a0]) r:=Yields.ca (H1 · · a0) h (by kernel_rfl)
noncomputable abbrev lz (H:HT) (C:aF) (a0 a1:T):R:=
 obind (C gb [(a0.fld 0),a1,(T.bool false)]) fun r1=>
 bif (rt r1 0).b then
 some [(T.bool true)]
 else
 obind (C gb [(a0.fld 1),a1,(T.bool false)]) fun r2=>
 some [(rt r2 0)]
theorem uO (a0 a1:T) (h:Yields (fun k=>lz (hl env k kE) (cl env k) a0 a1) r):Yields (fun k=>cl env k cr [a0,a1]) r:=Yields.ca (lz · · a0 a1) h (by kernel_rfl)
noncomputable abbrev jk (H:HT) (C:aF) (a0 a1:T):R:=
 obind (C gb [(a0.fld 0),a1,(T.bool true)]) fun r1=>
 bif (rt r1 0).b then
 some [(T.bool true)]
 else
 obind (C gb [(a0.fld 1),a1,(T.bool true)]) fun r2=>
 some [(rt r2 0)]
theorem su (a0 a1:T) (h:Yields (fun k=>jk (hl env k iT) (cl env k) a0 a1) r):Yields (fun k=>cl env k db [a0,a1]) r:=Yields.ca (jk · · a0 a1) h (by kernel_rfl)
noncomputable abbrev Ht (H:HT) (C:aF) (a0:T):R:=
 obind (C oF [a0]) fun r1=>
 obind (C mn [(rt r1 0)]) fun r2=>
 obind (C d9 [(rt r2 0)]) fun r3=>
 obind (C EN [(rt (r2.drop 1) 0),(rt r3 0)]) fun r4=>
 obind (C EW [(rt (r4.drop 1) 0),(rt r3 0)]) fun r5=>
 some [(rt r3 0),(rt r4 0),(rt r5 0)]
theorem JE (a0:T) (h:Yields (fun k=>Ht (hl env k FU) (cl env k) a0) r):Yields (fun k=>cl env k Hr [a0]) r:=Yields.ca (Ht · · a0) h (by kernel_rfl)
noncomputable def F6 (H:HT) (x1 x2 x3 x4 x5:T):R:=H (bS Ei.body 0) ([(2,.val 9 x1),(7,.val 3 x2),(20,.val 31 x3),(21,.val 3 x4),(22,.val 3 x5)],[])
noncomputable abbrev GU (H:HT) (C:aF) (a0 a1 a2:T):R:=
 obind (C Ek [a0,a1]) fun r1=>
 bif (!(rt r1 0).b) then
 some [(T.int (-1:Int))]
 else
 obind (C ER [a0,a2]) fun r2=>
 bif (!(rt r2 0).b) then
 some [(T.int (-1:Int))]
 else
 F6 H a2 (T.int (0:Int)) a1 (T.int (a1.es.length:Int)) (T.int (0:Int))
theorem G3 (a0 a1 a2:T) (h:Yields (fun k=>GU (hl env k Ei) (cl env k) a0 a1 a2) r):Yields (fun k=>cl env k GP [a0,a1,a2]) r:=Yields.ca (GU · · a0 a1 a2) h (by kernel_rfl)
noncomputable abbrev HU (H:HT) (C:aF) (x1 x2 x3 x4 x5:T):R:=
 bif (decide (x5.i < x4.i)) then
 bif (decide (0≤x5.i)&&decide (x5.i.toNat < x3.es.length)) then
 obind (C Ge [((x3.nth x5.i.toNat).fld 1),x1]) fun r1=>
 F6 H x1 (T.int (IntKind.wrap .i64 (x2.i+(rt r1 0).i))) x3 x4 (T.int (IntKind.wrap .i64 (x5.i+(1:Int))))
 else
 none
 else
 some [x2]
theorem Ib (x1 x2 x3 x4 x5:T) (h:Yields (fun k=>HU (hl env k Ei) (cl env k) x1 x2 x3 x4 x5) r):Yields (fun k=>F6 (hl env k Ei) x1 x2 x3 x4 x5) r:=Yields.hd (HU · · x1 x2 x3 x4 x5) h (by kernel_rfl)
noncomputable def F7 (H:HT) (x1 x2 x3 x4:T):R:=H (bS Ej.body 0) ([(1,.val 31 x1),(2,.val 9 x2),(10,.val 3 x3),(11,.val 3 x4)],[])
noncomputable abbrev H3 (H:HT) (C:aF) (a0 a1 a2:T):R:=
 obind (C cU [a2]) fun r1=>
 obind (C Ep [a0,a1]) fun r2=>
 bif (!(rt r2 0).b) then
 some [(T.int (-1:Int))]
 else
 bif (!(rt r1 2).b) then
 some [(T.int (-1:Int))]
 else
 obind (C H7 [a0,a2]) fun r3=>
 bif (!(rt r3 0).b) then
 some [(T.int (-1:Int))]
 else
 F7 H a1 a2 (T.int (0:Int)) (T.int (0:Int))
theorem G4 (a0 a1 a2:T) (h:Yields (fun k=>H3 (hl env k Ej) (cl env k) a0 a1 a2) r):Yields (fun k=>cl env k GT [a0,a1,a2]) r:=Yields.ca (H3 · · a0 a1 a2) h (by kernel_rfl)
noncomputable abbrev I2 (H:HT) (C:aF) (x1 x2 x3 x4:T):R:=
 bif (decide (x4.i < (x1.es.length:Int))) then
 bif (decide (0≤x4.i)&&decide (x4.i.toNat < x1.es.length)) then
 obind (C H8 [((x1.nth x4.i.toNat).fld 1),x2]) fun r1=>
 F7 H x1 x2 (T.int (IntKind.wrap .i64 (x3.i+(rt r1 0).i))) (T.int (IntKind.wrap .i64 (x4.i+(1:Int))))
 else
 none
 else
 some [x3]
theorem Id (x1 x2 x3 x4:T) (h:Yields (fun k=>I2 (hl env k Ej) (cl env k) x1 x2 x3 x4) r):Yields (fun k=>F7 (hl env k Ej) x1 x2 x3 x4) r:=Yields.hd (I2 · · x1 x2 x3 x4) h (by kernel_rfl)
noncomputable abbrev IP (H:HT) (C:aF) (a0 a1 a2:T):R:=
 obind (C JF [a0,a1]) fun r1=>
 bif (!(rt r1 0).b) then
 some [(T.int (-1:Int))]
 else
 obind (C ER [a0,a2]) fun r2=>
 bif (!(rt r2 0).b) then
 some [(T.int (-1:Int))]
 else
 obind (C Ge [a1,a2]) fun r3=>
 some [(rt r3 0)]
theorem KZ (a0 a1 a2:T) (h:Yields (fun k=>IP (hl env k H5) (cl env k) a0 a1 a2) r):Yields (fun k=>cl env k He [a0,a1,a2]) r:=Yields.ca (IP · · a0 a1 a2) h (by kernel_rfl)
noncomputable abbrev HZ (H:HT) (C:aF) (a0:T):R:=
 obind (C oF [a0]) fun r1=>
 obind (C mn [(rt r1 0)]) fun r2=>
 obind (C d9 [(rt r2 0)]) fun r3=>
 obind (C EN [(rt (r2.drop 1) 0),(rt r3 0)]) fun r4=>
 obind (C aG [(rt (r4.drop 1) 0),(T.int (6:Int))]) fun r5=>
 obind (C EW [(rt (r5.drop 1) 0),(rt r3 0)]) fun r6=>
 some [(rt r3 0),(rt r4 0),(T.int (IntKind.wrap .i64 ((rt r5 0).i - (1:Int)))),(rt r6 0)]
theorem K2 (a0:T) (h:Yields (fun k=>HZ (hl env k Gm) (cl env k) a0) r):Yields (fun k=>cl env k HR [a0]) r:=Yields.ca (HZ · · a0) h (by kernel_rfl)
noncomputable abbrev HF (H:HT) (C:aF) (a0 a1 a2 a3:T):R:=
 (fun s0=>
 obind (C EI [a1,a2,a3]) fun r1=>
 bif (decide ((rt r1 0).i < (0:Int))) then
 some [s0,(T.bool false)]
 else
 obind (C Ek [a0,a1]) fun r2=>
 bif (!(rt r2 0).b) then
 some [s0,(T.bool false)]
 else
 bif (decide (0≤(rt r1 0).i)&&decide (((rt r1 0).i).toNat < a1.es.length)) then
 obind (C Eh [((a1.nth (((rt r1 0).i).toNat)).fld 1)]) fun r3=>
 some [(T.st [((rt r3 0).fld 0),((rt r3 0).fld 1),((rt r3 0).fld 2),((rt r3 0).fld 3)]),(T.bool true)]
 else
 none) (T.st [(T.str (⟨#[]⟩:ByteArray)),(T.int (0:Int)),(T.sl []),(T.sl [])])
theorem HM (a0 a1 a2 a3:T) (h:Yields (fun k=>HF (hl env k Fz) (cl env k) a0 a1 a2 a3) r):Yields (fun k=>cl env k Hz [a0,a1,a2,a3]) r:=Yields.ca (HF · · a0 a1 a2 a3) h (by kernel_rfl)
noncomputable abbrev HI (H:HT) (C:aF) (a0 a1 a2 a3:T):R:=
 (fun s0=>
 obind (C ES [a1,a2,a3]) fun r1=>
 obind (C Ep [a0,a1]) fun r2=>
 bif (!(rt r2 0).b) then
 some [s0,(T.bool false)]
 else
 bif (decide ((rt r1 0).i < (0:Int))) then
 some [s0,(T.bool false)]
 else
 bif (decide (0≤(rt r1 0).i)&&decide (((rt r1 0).i).toNat < a1.es.length)) then
 obind (C E7 [((a1.nth (((rt r1 0).i).toNat)).fld 1)]) fun r3=>
 some [(T.st [((rt r3 0).fld 0),((rt r3 0).fld 1),((rt r3 0).fld 2),((rt r3 0).fld 3)]),(T.bool true)]
 else
 none) (T.st [(T.str (⟨#[]⟩:ByteArray)),(T.int (0:Int)),(T.sl []),(T.sl [])])
theorem GA (a0 a1 a2 a3:T) (h:Yields (fun k=>HI (hl env k FC) (cl env k) a0 a1 a2 a3) r):Yields (fun k=>cl env k HC [a0,a1,a2,a3]) r:=Yields.ca (HI · · a0 a1 a2 a3) h (by kernel_rfl)
noncomputable abbrev Ig (H:HT) (C:aF) (a0 a1:T):R:=
 bif (((a0.fld 0).s).toList==((a1.fld 0).s).toList) then
 bif ((a0.fld 1).i==(a1.fld 1).i) then
 obind (C IC [(a0.fld 3),(a1.fld 3)]) fun r1=>
 bif (rt r1 0).b then
 obind (C Jj [(a0.fld 2),(a1.fld 2)]) fun r2=>
 some [(rt r2 0)]
 else
 some [(T.bool false)]
 else
 some [(T.bool false)]
 else
 some [(T.bool false)]
theorem Mp (a0 a1:T) (h:Yields (fun k=>Ig (hl env k I8) (cl env k) a0 a1) r):Yields (fun k=>cl env k EU [a0,a1]) r:=Yields.ca (Ig · · a0 a1) h (by kernel_rfl)
noncomputable abbrev Hh (H:HT) (C:aF) (a0 a1 a2 a3:T):R:=
 (fun s0=>
 (fun s1=>
 obind (C EI [a1,a2,a3]) fun r1=>
 (fun s2=>
 (fun s3=>
 bif (decide ((rt r1 0).i < (0:Int))) then
 some [(T.sl []),s1,(T.bool false)]
 else
 obind (C Ek [a0,a1]) fun r2=>
 bif (!(rt r2 0).b) then
 some [(T.sl []),s1,(T.bool false)]
 else
 bif (decide (0≤(0:Int))&&(decide ((0:Int)≤(rt r1 0).i)&&(decide ((rt r1 0).i≤s0)&&decide (s0≤s0)))) then
 bif (decide (([]:List T).length+s3.length≤LIM)) then
 bif (decide (0≤s2)&&(decide (s2≤s0)&&(decide (s0≤s0)&&decide (s0≤s0)))) then
 bif (decide ((([]:List T)++s3).length+((a1.es.take a1.es.length).drop (s2.toNat)).length≤LIM)) then
 obind (C Ex [(T.sl ((([]:List T)++s3)++((a1.es.take a1.es.length).drop (s2.toNat))))]) fun r3=>
 bif (decide (0≤(rt r1 0).i)&&decide (((rt r1 0).i).toNat < a1.es.length)) then
 obind (C Eh [((a1.nth (((rt r1 0).i).toNat)).fld 1)]) fun r4=>
 some [(rt r3 0),(T.st [((rt r4 0).fld 0),((rt r4 0).fld 1),((rt r4 0).fld 2),((rt r4 0).fld 3)]),(T.bool true)]
 else
 none
 else
 none
 else
 none
 else
 none
 else
 none) ((a1.es.take (((rt r1 0).i).toNat)).drop 0)) (IntKind.wrap .i64 ((rt r1 0).i+(1:Int)))) (T.st [(T.str (⟨#[]⟩:ByteArray)),(T.int (0:Int)),(T.sl []),(T.sl [])])) (a1.es.length:Int)
theorem Hq (a0 a1 a2 a3:T) (h:Yields (fun k=>Hh (hl env k Fm) (cl env k) a0 a1 a2 a3) r):Yields (fun k=>cl env k F8 [a0,a1,a2,a3]) r:=Yields.ca (Hh · · a0 a1 a2 a3) h (by kernel_rfl)
noncomputable abbrev HP (H:HT) (C:aF) (a0:T):R:=
 obind (C oF [a0]) fun r1=>
 obind (C mn [(rt r1 0)]) fun r2=>
 obind (C d9 [(rt r2 0)]) fun r3=>
 obind (C EN [(rt (r2.drop 1) 0),(rt r3 0)]) fun r4=>
 obind (C aG [(rt (r4.drop 1) 0),(T.int (6:Int))]) fun r5=>
 obind (C EW [(rt (r5.drop 1) 0),(rt r3 0)]) fun r6=>
 some [(rt r3 0),(rt r4 0),(T.int (IntKind.wrap .i64 ((rt r5 0).i - (1:Int)))),(rt r6 0)]
theorem JS (a0:T) (h:Yields (fun k=>HP (hl env k G6) (cl env k) a0) r):Yields (fun k=>cl env k HN [a0]) r:=Yields.ca (HP · · a0) h (by kernel_rfl)
noncomputable abbrev Hl (H:HT) (C:aF) (a0 a1 a2 a3:T):R:=
 (fun s0=>
 obind (C ES [a1,a2,a3]) fun r1=>
 obind (C Ep [a0,a1]) fun r2=>
 bif (!(rt r2 0).b) then
 some [(T.sl []),s0,(T.bool false)]
 else
 bif (decide ((rt r1 0).i < (0:Int))) then
 some [(T.sl []),s0,(T.bool false)]
 else
 obind (C Fb [a1]) fun r3=>
 obind (C Hx [(rt r3 0),(rt r1 0)]) fun r4=>
 bif (decide (0≤(rt r1 0).i)&&decide (((rt r1 0).i).toNat < a1.es.length)) then
 obind (C E7 [((a1.nth (((rt r1 0).i).toNat)).fld 1)]) fun r5=>
 some [(rt r4 0),(T.st [((rt r5 0).fld 0),((rt r5 0).fld 1),((rt r5 0).fld 2),((rt r5 0).fld 3)]),(T.bool true)]
 else
 none) (T.st [(T.str (⟨#[]⟩:ByteArray)),(T.int (0:Int)),(T.sl []),(T.sl [])])
theorem Gb (a0 a1 a2 a3:T) (h:Yields (fun k=>Hl (hl env k Fn) (cl env k) a0 a1 a2 a3) r):Yields (fun k=>cl env k Hf [a0,a1,a2,a3]) r:=Yields.ca (Hl · · a0 a1 a2 a3) h (by kernel_rfl)
noncomputable def GN (H:HT) (x1 x2 x3:T):R:=H (bS Fg.body 0) ([(0,.val 31 x1),(1,.val 31 x2),(5,.val 3 x3)],[])
noncomputable abbrev IH (H:HT) (C:aF) (a0 a1:T):R:=
 bif ((a0.es.length:Int) != (a1.es.length:Int)) then
 some [(T.bool false)]
 else
 GN H a0 a1 (T.int (0:Int))
theorem N2 (a0 a1:T) (h:Yields (fun k=>IH (hl env k Fg) (cl env k) a0 a1) r):Yields (fun k=>cl env k Fa [a0,a1]) r:=Yields.ca (IH · · a0 a1) h (by kernel_rfl)
noncomputable abbrev GI (H:HT) (C:aF) (x1 x2 x3:T):R:=
 (fun s0=>
 (fun s1=>
 (fun s2=>
 (fun s3=>
 (fun s4=>
 bif (decide (x3.i < (x1.es.length:Int))) then
 bif s2 then
 bif s3 then
 bif (((s0&&(s0&&true))&&s2)||(!s0)) then
 bif s4 then
 bif s4 then
 bif (((s0&&(s0&&true))&&s3)||(!s0)) then
 bif s4 then
 bif s4 then
 bif ((s0&&(s0&&true))||(!s0)) then
 obind ((bif s0 then C EU [((x1.nth x3.i.toNat).fld 1),((x2.nth x3.i.toNat).fld 1)] else some [])) fun r1=>
 bif s4 then
 bif (bif s1 then true else s0) then
 bif (bif s1 then (T.bool true) else (T.bool (!(rt r1 0).b))).b then
 some [(T.bool false)]
 else
 GN H x1 x2 (T.int (IntKind.wrap .i64 (x3.i+(1:Int))))
 else
 none
 else
 none
 else
 none
 else
 none
 else
 none
 else
 none
 else
 none
 else
 none
 else
 none
 else
 none
 else
 none
 else
 some [(T.bool true)]) (s0||(!s0))) (decide (0≤x3.i)&&decide (x3.i.toNat < x2.es.length))) (decide (0≤x3.i)&&decide (x3.i.toNat < x1.es.length))) (((x1.nth x3.i.toNat).fld 0).i != ((x2.nth x3.i.toNat).fld 0).i)) ((((x1.nth x3.i.toNat).fld 0).i != ((x2.nth x3.i.toNat).fld 0).i)==false)
theorem Jw (x1 x2 x3:T) (h:Yields (fun k=>GI (hl env k Fg) (cl env k) x1 x2 x3) r):Yields (fun k=>GN (hl env k Fg) x1 x2 x3) r:=Yields.hd (GI · · x1 x2 x3) h (by kernel_rfl)
noncomputable abbrev HG (H:HT) (C:aF) (a0 a1 a2 a3:T):R:=
 (fun s0=>
 obind (C Ek [a0,a1]) fun r1=>
 bif (!(rt r1 0).b) then
 some [(T.sl []),s0]
 else
 bif (decide (a2.i < (0:Int))) then
 some [(T.sl []),s0]
 else
 bif (decide (a2.i≥(4:Int))) then
 some [(T.sl []),s0]
 else
 obind (C EJ [a0,a3]) fun r2=>
 bif (!(rt r2 0).b) then
 some [(T.sl []),s0]
 else
 obind (C EI [a1,a2,(a3.fld 0)]) fun r3=>
 bif (decide ((rt r3 0).i≥(0:Int))) then
 some [(T.sl []),s0]
 else
 bif ((a1.es.length:Int)==(36:Int)) then
 some [(T.sl []),s0]
 else
 obind (C GG [a1,(T.st [a2,a3])]) fun r4=>
 some [(rt r4 0),(T.bool true)]) (T.bool false)
theorem Fh (a0 a1 a2 a3:T) (h:Yields (fun k=>HG (hl env k FA) (cl env k) a0 a1 a2 a3) r):Yields (fun k=>cl env k FI [a0,a1,a2,a3]) r:=Yields.ca (HG · · a0 a1 a2 a3) h (by kernel_rfl)
noncomputable abbrev I0 (H:HT) (C:aF) (a0:T):R:=
 obind (C oF [a0]) fun r1=>
 obind (C mn [(rt r1 0)]) fun r2=>
 obind (C d9 [(rt r2 0)]) fun r3=>
 obind (C EN [(rt (r2.drop 1) 0),(rt r3 0)]) fun r4=>
 obind (C aG [(rt (r4.drop 1) 0),(T.int (6:Int))]) fun r5=>
 obind (C EW [(rt (r5.drop 1) 0),(rt r3 0)]) fun r6=>
 obind (C EA [(rt (r6.drop 1) 0),(rt r3 0),(rt r6 0)]) fun r7=>
 obind (C GB [(rt (r7.drop 1) 0),(rt r7 0)]) fun r8=>
 some [(rt r3 0),(rt r4 0),(T.int (IntKind.wrap .i64 ((rt r5 0).i - (1:Int)))),(rt r8 0)]
theorem K3 (a0:T) (h:Yields (fun k=>I0 (hl env k Gn) (cl env k) a0) r):Yields (fun k=>cl env k HS [a0]) r:=Yields.ca (I0 · · a0) h (by kernel_rfl)
noncomputable abbrev HJ (H:HT) (C:aF) (a0 a1 a2 a3:T):R:=
 obind (C Ep [a0,a1]) fun r1=>
 bif (!(rt r1 0).b) then
 some [(T.sl []),(T.bool false)]
 else
 obind (C dZ [a2,(T.int (0:Int)),(T.int (3:Int))]) fun r2=>
 bif (!(rt r2 0).b) then
 some [(T.sl []),(T.bool false)]
 else
 obind (C EG [a0,a3]) fun r3=>
 bif (!(rt r3 0).b) then
 some [(T.sl []),(T.bool false)]
 else
 obind (C ES [a1,a2,(a3.fld 0)]) fun r4=>
 bif (decide ((rt r4 0).i≥(0:Int))) then
 some [(T.sl []),(T.bool false)]
 else
 obind (C Fb [a1]) fun r5=>
 obind (C Gg [(rt r5 0),a2,a3]) fun r6=>
 some [(rt r6 0),(T.bool true)]
theorem Fj (a0 a1 a2 a3:T) (h:Yields (fun k=>HJ (hl env k FD) (cl env k) a0 a1 a2 a3) r):Yields (fun k=>cl env k HD [a0,a1,a2,a3]) r:=Yields.ca (HJ · · a0 a1 a2 a3) h (by kernel_rfl)
noncomputable def EX (H:HT) (x1 x2 x3 x4 x5:T):R:=H (bS Em.body 0) ([(0,.val 30 x1),(1,.val 31 x2),(15,.val 31 x3),(16,.val 3 x4),(17,.val 3 x5)],[])
noncomputable abbrev HV (H:HT) (C:aF) (a0 a1:T):R:=
 obind (C Gd [a0]) fun r1=>
 bif (!(rt r1 0).b) then
 some [(T.bool false)]
 else
 bif (decide ((a1.es.length:Int) > (36:Int))) then
 some [(T.bool false)]
 else
 EX H a0 a1 a1 (T.int (a1.es.length:Int)) (T.int (0:Int))
theorem Lz (H:HT) (C:aF) (a0 a1:T):bI Em env H C [a0,a1] =
 obind (C Gd [a0]) fun r1=>
 (fun s0=>
 bif (s0||(!s0)) then
 bif (((s0&&true)&&true)||(!s0)) then
 bif (bif (!(rt r1 0).b) then true else s0) then
 bif (bif (!(rt r1 0).b) then (T.bool true) else (T.bool (decide ((a1.es.length:Int) > (36:Int))))).b then
 some [(T.bool false)]
 else
 EX H a0 a1 a1 (T.int (a1.es.length:Int)) (T.int (0:Int))
 else
 none
 else
 none
 else
 none) ((!(rt r1 0).b)==false):=by kernel_rfl
theorem LM (H:HT) (C:aF) (a0 a1:T):bI Em env H C [a0,a1]=HV H C a0 a1:=by
 refine (Lz H C a0 a1).trans ?_
 unfold HV
 all_goals try dsimp only
 all_goals try simp only[bs]
 all_goals refine br fun r1=>?_
 all_goals try simp only[bs]
 all_goals cases hc:((!(rt r1 0).b)) with
 | true=>
  try simp only[bs]
  all_goals kernel_rfl
 | false=>
  try simp only[bs]
  all_goals cases hc:((decide ((a1.es.length:Int) > (36:Int)))) with
  | true=>
   try simp only[bs]
   all_goals kernel_rfl
  | false=>
   try simp only[bs]
   all_goals kernel_rfl
theorem Ju (a0 a1:T) (h:Yields (fun k=>HV (hl env k Em) (cl env k) a0 a1) r):Yields (fun k=>cl env k Ek [a0,a1]) r:=Yields.call (fi:=Em) rfl rfl (fun H C=>LM H C a0 a1) h
noncomputable abbrev Hg (H:HT) (C:aF) (x1 x2 x3 x4 x5:T):R:=
 (fun s0=>
 (fun s1=>
 (fun s2=>
 bif (decide (x5.i < x4.i)) then
 bif (decide (0≤x5.i)&&decide (x5.i.toNat < x3.es.length)) then
 bif (decide ((s1.fld 0).i < (0:Int))) then
 some [(T.bool false)]
 else
 bif (decide ((s1.fld 0).i≥(4:Int))) then
 some [(T.bool false)]
 else
 obind (C EJ [x1,(s1.fld 1)]) fun r1=>
 bif (!(rt r1 0).b) then
 some [(T.bool false)]
 else
 bif (decide (x5.i > (0:Int))) then
 bif (decide (0≤s0)&&decide (s0.toNat < x2.es.length)) then
 obind (C F0 [(x2.nth (s0.toNat)),s1]) fun r2=>
 bif (!(rt r2 0).b) then
 some [(T.bool false)]
 else
 EX H x1 x2 x3 x4 s2
 else
 none
 else
 EX H x1 x2 x3 x4 s2
 else
 none
 else
 some [(T.bool true)]) (T.int (IntKind.wrap .i64 (x5.i+(1:Int))))) (x3.nth x5.i.toNat)) (IntKind.wrap .i64 (x5.i - (1:Int)))
theorem KL (H:HT) (C:aF) (x1 x2 x3 x4 x5:T):iU Em env H C (bS Em.body 0) ([(0,.val 30 x1),(1,.val 31 x2),(15,.val 31 x3),(16,.val 3 x4),(17,.val 3 x5)],[]) =
 (fun s0=>
 (fun s1=>
 (fun s2=>
 (fun s3=>
 (fun s4=>
 (fun s5=>
 bif (decide (x5.i < x4.i)) then
 bif (decide (0≤x5.i)&&decide (x5.i.toNat < x3.es.length)) then
 bif (s5||(!s5)) then
 bif (((s5&&true)&&true)||(!s5)) then
 bif (bif s2 then true else s5) then
 bif (s3||(!s3)) then
 bif ((s3&&(s3&&true))||(!s3)) then
 obind ((bif s3 then C EJ [x1,((x3.nth x5.i.toNat).fld 1)] else some [])) fun r1=>
 bif (s3||(!s3)) then
 bif (bif s0.b then true else s3) then
 bif (bif s0.b then (T.bool true) else (T.bool (!(rt r1 0).b))).b then
 some [(T.bool false)]
 else
 bif (((s1&&true)&&true)||(!s1)) then
 bif (((s1&&(s1&&true))&&(decide (0≤s4)&&decide (s4.toNat < x2.es.length)))||(!s1)) then
 bif (s1||(!s1)) then
 bif ((s1&&(s1&&true))||(!s1)) then
 obind ((bif s1 then C F0 [(x2.nth (s4.toNat)),(x3.nth x5.i.toNat)] else some [])) fun r2=>
 bif (s1||(!s1)) then
 bif (bif (decide (x5.i > (0:Int))) then s1 else true) then
 bif (bif (decide (x5.i > (0:Int))) then (T.bool (!(rt r2 0).b)) else (T.bool false)).b then
 some [(T.bool false)]
 else
 EX H x1 x2 x3 x4 (T.int (IntKind.wrap .i64 (x5.i+(1:Int))))
 else
 none
 else
 none
 else
 none
 else
 none
 else
 none
 else
 none
 else
 none
 else
 none
 else
 none
 else
 none
 else
 none
 else
 none
 else
 none
 else
 none
 else
 some [(T.bool true)]) (s2==false)) (IntKind.wrap .i64 (x5.i - (1:Int)))) (s0.b==false)) (decide (((x3.nth x5.i.toNat).fld 0).i < (0:Int)))) ((decide (x5.i > (0:Int)))==true)) (bif (decide (((x3.nth x5.i.toNat).fld 0).i < (0:Int))) then (T.bool true) else (T.bool (decide (((x3.nth x5.i.toNat).fld 0).i≥(4:Int))))):=by kernel_rfl
theorem KT (H:HT) (C:aF) (x1 x2 x3 x4 x5:T):iU Em env H C (bS Em.body 0) ([(0,.val 30 x1),(1,.val 31 x2),(15,.val 31 x3),(16,.val 3 x4),(17,.val 3 x5)],[])=Hg H C x1 x2 x3 x4 x5:=by
 refine (KL H C x1 x2 x3 x4 x5).trans ?_
 unfold Hg
 all_goals try dsimp only
 all_goals try simp only[bs]
 all_goals cases hc:((decide (x5.i < x4.i))) with
 | true=>
  try simp only[bs]
  all_goals cases hc:((decide (0≤x5.i)&&decide (x5.i.toNat < x3.es.length))) with
  | true=>
   try simp only[bs]
   all_goals cases hc:((decide (((x3.nth x5.i.toNat).fld 0).i < (0:Int)))) with
   | true=>
    try simp only[bs]
    all_goals kernel_rfl
   | false=>
    try simp only[bs]
    all_goals cases hc:((decide (((x3.nth x5.i.toNat).fld 0).i≥(4:Int)))) with
    | true=>
     try simp only[bs]
     all_goals kernel_rfl
    | false=>
     try simp only[bs]
     all_goals refine br fun r1=>?_
     all_goals try simp only[bs]
     all_goals cases hc:((!(rt r1 0).b)) with
     | true=>
      try simp only[bs]
      all_goals kernel_rfl
     | false=>
      try simp only[bs]
      all_goals cases hc:((decide (x5.i > (0:Int)))) with
      | true=>
       try simp only[bs]
       all_goals cases hc:((decide (0≤(IntKind.wrap .i64 (x5.i - (1:Int))))&&decide ((IntKind.wrap .i64 (x5.i - (1:Int))).toNat < x2.es.length))) with
       | true=>
        try simp only[bs]
        all_goals refine br fun r2=>?_
        all_goals try simp only[bs]
        all_goals cases hc:((!(rt r2 0).b)) with
        | true=>
         try simp only[bs]
         all_goals kernel_rfl
        | false=>
         try simp only[bs]
         all_goals kernel_rfl
       | false=>
        try simp only[bs]
        all_goals kernel_rfl
      | false=>
       try simp only[bs]
       all_goals kernel_rfl
  | false=>
   try simp only[bs]
   all_goals kernel_rfl
 | false=>
  try simp only[bs]
  all_goals kernel_rfl
theorem IS (x1 x2 x3 x4 x5:T) (h:Yields (fun k=>Hg (hl env k Em) (cl env k) x1 x2 x3 x4 x5) r):Yields (fun k=>EX (hl env k Em) x1 x2 x3 x4 x5) r:=Yields.head (fun H C=>KT H C x1 x2 x3 x4 x5) h
noncomputable abbrev I1 (H:HT) (C:aF) (a0:T):R:=
 obind (C oF [a0]) fun r1=>
 obind (C mn [(rt r1 0)]) fun r2=>
 obind (C d9 [(rt r2 0)]) fun r3=>
 obind (C EN [(rt (r2.drop 1) 0),(rt r3 0)]) fun r4=>
 obind (C aG [(rt (r4.drop 1) 0),(T.int (6:Int))]) fun r5=>
 obind (C EW [(rt (r5.drop 1) 0),(rt r3 0)]) fun r6=>
 obind (C EA [(rt (r6.drop 1) 0),(rt r3 0),(rt r6 0)]) fun r7=>
 obind (C GB [(rt (r7.drop 1) 0),(rt r7 0)]) fun r8=>
 some [(rt r3 0),(rt r4 0),(T.int (IntKind.wrap .i64 ((rt r5 0).i - (1:Int)))),(rt r8 0)]
theorem K4 (a0:T) (h:Yields (fun k=>I1 (hl env k Gp) (cl env k) a0) r):Yields (fun k=>cl env k NM [a0]) r:=Yields.ca (I1 · · a0) h (by kernel_rfl)
noncomputable abbrev HH (H:HT) (C:aF) (a0 a1 a2 a3:T):R:=
 obind (C EI [a1,a2,(a3.fld 0)]) fun r1=>
 bif (decide ((rt r1 0).i < (0:Int))) then
 some [(T.sl []),(T.bool false)]
 else
 obind (C Ek [a0,a1]) fun r2=>
 bif (!(rt r2 0).b) then
 some [(T.sl []),(T.bool false)]
 else
 obind (C EJ [a0,a3]) fun r3=>
 bif (!(rt r3 0).b) then
 some [(T.sl []),(T.bool false)]
 else
 obind (C Ex [a1]) fun r4=>
 obind (C Eh [a3]) fun r5=>
 bif (decide (0≤(rt r1 0).i)&&decide (((rt r1 0).i).toNat < ((rt r4 0).es).length)) then
 some [(T.put (rt r4 0) [.idx (((rt r1 0).i).toNat),.fld 1] (T.st [((rt r5 0).fld 0),((rt r5 0).fld 1),((rt r5 0).fld 2),((rt r5 0).fld 3)])),(T.bool true)]
 else
 none
theorem Gz (a0 a1 a2 a3:T) (h:Yields (fun k=>HH (hl env k FB) (cl env k) a0 a1 a2 a3) r):Yields (fun k=>cl env k HA [a0,a1,a2,a3]) r:=Yields.ca (HH · · a0 a1 a2 a3) h (by kernel_rfl)
noncomputable abbrev HK (H:HT) (C:aF) (a0 a1 a2 a3:T):R:=
 obind (C ES [a1,a2,(a3.fld 0)]) fun r1=>
 obind (C Ep [a0,a1]) fun r2=>
 bif (!(rt r2 0).b) then
 some [(T.sl []),(T.bool false)]
 else
 bif (decide ((rt r1 0).i < (0:Int))) then
 some [(T.sl []),(T.bool false)]
 else
 obind (C EG [a0,a3]) fun r3=>
 bif (!(rt r3 0).b) then
 some [(T.sl []),(T.bool false)]
 else
 obind (C Fb [a1]) fun r4=>
 obind (C E7 [a3]) fun r5=>
 bif (decide (0≤(rt r1 0).i)&&decide (((rt r1 0).i).toNat < ((rt r4 0).es).length)) then
 some [(T.put (rt r4 0) [.idx (((rt r1 0).i).toNat),.fld 1] (T.st [((rt r5 0).fld 0),((rt r5 0).fld 1),((rt r5 0).fld 2),((rt r5 0).fld 3)])),(T.bool true)]
 else
 none
theorem FP (a0 a1 a2 a3:T) (h:Yields (fun k=>HK (hl env k FE) (cl env k) a0 a1 a2 a3) r):Yields (fun k=>cl env k HE [a0,a1,a2,a3]) r:=Yields.ca (HK · · a0 a1 a2 a3) h (by kernel_rfl)
noncomputable abbrev oO (H:HT) (C:aF) (a0:T):R:=
 (fun s0=>
 bif (decide (s0 > (2000:Int))) then
 bif ((decide (0≤(0:Int))&&(decide ((0:Int)≤(2000:Int))&&(decide ((2000:Int)≤s0)&&decide (s0≤s0))))&&(decide (0 < a0.es.length))) then
 some [(T.st [(T.sl ((a0.es.take 2000).drop 0)),(T.int (0:Int))])]
 else
 none
 else
 some [(T.st [a0,(T.int (0:Int))])]) (a0.es.length:Int)
theorem yu (a0:T) (h:Yields (fun k=>oO (hl env k nH) (cl env k) a0) r):Yields (fun k=>cl env k oF [a0]) r:=Yields.ca (oO · · a0) h (by kernel_rfl)
noncomputable abbrev lD (H:HT) (C:aF) (a0 a1:T):R:=
 (fun s0=>
 (fun s1=>
 (fun s2=>
 (fun s3=>
 (fun s4=>
 bif (decide (a1.i < (1:Int))) then
 some [(T.int (0:Int)),s0]
 else
 bif (s3==(0:Int)) then
 some [(T.int (0:Int)),s0]
 else
 bif (decide (s2 < s3)) then
 bif (decide (0≤s2)&&decide (s2.toNat < ((s0.fld 0).es).length)) then
 bif (!(a1.i==0)) then
 some [(T.int (((IntKind.wrap .i64 (((s0.fld 0).nth (s2.toNat)).i)):Int).tmod a1.i)),s0]
 else
 none
 else
 none
 else
 bif (!(s3==0)) then
 bif (decide (0≤((s2:Int).tmod s3))&&decide (((s2:Int).tmod s3).toNat < ((s0.fld 0).es).length)) then
 bif (!(s3==0)) then
 bif (decide (0≤s4)&&decide (s4.toNat < ((s0.fld 0).es).length)) then
 bif (!(s3==0)) then
 bif (!((64:Int)==0)) then
 bif (!(a1.i==0)) then
 some [(T.int (((IntKind.wrap .i64 ((BitVec.ofInt (IntKind.i64).bits s1 ^^^ BitVec.ofInt (IntKind.i64).bits (IntKind.wrap .i64 ((s1).tdiv (64:Int)))).toNat:Nat)):Int).tmod a1.i)),s0]
 else
 none
 else
 none
 else
 none
 else
 none
 else
 none
 else
 none
 else
 none) (((IntKind.wrap .i64 ((IntKind.wrap .i64 (s2 * (7:Int)))+(3:Int))):Int).tmod s3)) (((s0.fld 0).es).length:Int)) (IntKind.wrap .i64 ((s0.fld 1).i - (1:Int)))) (IntKind.wrap .i64 ((IntKind.wrap .i64 ((IntKind.wrap .i64 ((IntKind.wrap .i64 ((IntKind.wrap .i64 (((s0.fld 0).nth ((((IntKind.wrap .i64 ((s0.fld 1).i - (1:Int))):Int).tmod (((s0.fld 0).es).length:Int)).toNat)).i)) * (131:Int)))+(IntKind.wrap .i64 ((IntKind.wrap .i64 (((s0.fld 0).nth ((((IntKind.wrap .i64 ((IntKind.wrap .i64 ((IntKind.wrap .i64 ((s0.fld 1).i - (1:Int))) * (7:Int)))+(3:Int))):Int).tmod (((s0.fld 0).es).length:Int)).toNat)).i)) * (1117:Int)))))+(IntKind.wrap .i64 ((IntKind.wrap .i64 ((s0.fld 1).i - (1:Int))) * (29:Int)))))+(IntKind.wrap .i64 ((IntKind.wrap .i64 (((IntKind.wrap .i64 ((s0.fld 1).i - (1:Int)))).tdiv (((s0.fld 0).es).length:Int))) * (53:Int)))))) (T.st (a0.fs.set 1 (T.int (IntKind.wrap .i64 ((a0.fld 1).i+(1:Int))))))
theorem uR (a0 a1:T) (h:Yields (fun k=>lD (hl env k kG) (cl env k) a0 a1) r):Yields (fun k=>cl env k aG [a0,a1]) r:=Yields.ca (lD · · a0 a1) h (by kernel_rfl)
noncomputable def fj (H:HT) (x1 x2 x3 x4:T):R:=H (bS eO.body 0) ([(0,.val 23 x1),(1,.val 3 x2),(2,.val 4 x3),(7,.val 3 x4)],[])
noncomputable abbrev oN (H:HT) (C:aF) (a0 a1 a2:T):R:=
 fj H a0 a1 a2 (T.int (0:Int))
theorem yt (a0 a1 a2:T) (h:Yields (fun k=>oN (hl env k eO) (cl env k) a0 a1 a2) r):Yields (fun k=>cl env k gb [a0,a1,a2]) r:=Yields.ca (oN · · a0 a1 a2) h (by kernel_rfl)
noncomputable abbrev jv (H:HT) (C:aF) (x1 x2 x3 x4:T):R:=
 (fun s0=>
 (fun s1=>
 (fun s2=>
 bif (decide (x4.i < (x1.es.length:Int))) then
 bif s0 then
 obind (C bO [(s2.fld 0)]) fun r1=>
 bif (rt r1 0).b then
 bif s0 then
 obind (C dY [(s2.fld 1),x2]) fun r2=>
 bif (rt r2 0).b then
 bif (!x3.b) then
 some [(T.bool true)]
 else
 bif s0 then
 bif (decide (0≤(0:Int))&&decide (0 < ((s2.fld 0).s).size)) then
 bif ((((s2.fld 0).s).data.getD 0 0).toNat==(33:Int)) then
 some [(T.bool true)]
 else
 fj H x1 x2 x3 s1
 else
 none
 else
 none
 else
 fj H x1 x2 x3 s1
 else
 none
 else
 fj H x1 x2 x3 s1
 else
 none
 else
 some [(T.bool false)]) (x1.nth x4.i.toNat)) (T.int (IntKind.wrap .i64 (x4.i+(1:Int))))) (decide (0≤x4.i)&&decide (x4.i.toNat < x1.es.length))
theorem qK (x1 x2 x3 x4:T) (h:Yields (fun k=>jv (hl env k eO) (cl env k) x1 x2 x3 x4) r):Yields (fun k=>fj (hl env k eO) x1 x2 x3 x4) r:=Yields.hd (jv · · x1 x2 x3 x4) h (by kernel_rfl)
noncomputable def dC (H:HT) (x1 x2 x3:T):R:=H (bS E5.body 0) ([(0,.val 57 x1),(3,.sref 30 3 []),(4,.val 3 x2)],[(3,⟨30,x3,(.sl .dp),false⟩)])
noncomputable def dD (H:HT) (x1 x2 x3 x4 x5:T):R:=H (bS E5.body 1) ([(0,.val 57 x1),(3,.sref 30 3 []),(4,.val 3 x2),(5,.sref 89 5 []),(6,.val 3 x3)],[(3,⟨30,x4,(.sl .dp),false⟩),(5,⟨89,x5,(.sl .dp),false⟩)])
noncomputable abbrev pb (H:HT) (C:aF) (a0:T):R:=
 dC H a0 (T.int (0:Int)) (T.sl [])
theorem tQ (H:HT) (C:aF) (a0:T):bI E5 env H C [a0]=pb H C a0:=by kernel_rfl
theorem tV (a0:T) (h:Yields (fun k=>pb (hl env k E5) (cl env k) a0) r):Yields (fun k=>cl env k d9 [a0]) r:=Yields.call (fi:=E5) rfl rfl (fun H C=>tQ H C a0) h
noncomputable abbrev n6 (H:HT) (C:aF) (x1 x2 x3:T):R:=
 bif (decide (x2.i < (x1.es.length:Int))) then
 dD H x1 x2 (T.int (0:Int)) x3 (T.sl [])
 else
 some [x3]
theorem sm (H:HT) (C:aF) (x1 x2 x3:T):iU E5 env H C (bS E5.body 0) ([(0,.val 57 x1),(3,.sref 30 3 []),(4,.val 3 x2)],[(3,⟨30,x3,(.sl .dp),false⟩)])=n6 H C x1 x2 x3:=by kernel_rfl
theorem n8 (x1 x2 x3:T) (h:Yields (fun k=>n6 (hl env k E5) (cl env k) x1 x2 x3) r):Yields (fun k=>dC (hl env k E5) x1 x2 x3) r:=Yields.head (fun H C=>sm H C x1 x2 x3) h
noncomputable abbrev jl (H:HT) (C:aF) (x1 x2 x3 x4 x5:T):R:=
 (fun s0=>
 (fun s1=>
 bif (decide (0≤x2.i)&&decide (x2.i.toNat < x1.es.length)) then
 bif (decide (x3.i < ((((x1.nth x2.i.toNat).fld 0).es).length:Int))) then
 bif (decide (0≤x3.i)&&decide (x3.i.toNat < (((x1.nth x2.i.toNat).fld 0).es).length)) then
 bif (decide (([]:List T).length+((s0.fld 1).es).length≤LIM)) then
 bif (decide (x5.es.length + [s1].length≤LIM)) then
 dD H x1 x2 (T.int (IntKind.wrap .i64 (x3.i+(1:Int)))) x4 (T.sl (x5.es ++ [s1]))
 else
 none
 else
 none
 else
 none
 else
 bif (decide (x4.es.length + [x5].length≤LIM)) then
 dC H x1 (T.int (IntKind.wrap .i64 (x2.i+(1:Int)))) (T.sl (x4.es ++ [x5]))
 else
 none
 else
 none) (T.st [(s0.fld 0),(T.sl (([]:List T)++(s0.fld 1).es))])) (((x1.nth x2.i.toNat).fld 0).nth x3.i.toNat)
theorem sg (H:HT) (C:aF) (x1 x2 x3 x4 x5:T):iU E5 env H C (bS E5.body 1) ([(0,.val 57 x1),(3,.sref 30 3 []),(4,.val 3 x2),(5,.sref 89 5 []),(6,.val 3 x3)],[(3,⟨30,x4,(.sl .dp),false⟩),(5,⟨89,x5,(.sl .dp),false⟩)]) =
 (fun s0=>
 (fun s1=>
 (fun s2=>
 bif s2 then
 bif (decide (x3.i < ((((x1.nth x2.i.toNat).fld 0).es).length:Int))) then
 bif s2 then
 bif (decide (0≤x3.i)&&decide (x3.i.toNat < (((x1.nth x2.i.toNat).fld 0).es).length)) then
 bif (decide (([]:List T).length+((s0.fld 1).es).length≤LIM)) then
 bif (decide (x5.es.length + [s1].length≤LIM)) then
 dD H x1 x2 (T.int (IntKind.wrap .i64 (x3.i+(1:Int)))) x4 (T.sl (x5.es ++ [s1]))
 else
 none
 else
 none
 else
 none
 else
 none
 else
 bif (decide (x4.es.length + [x5].length≤LIM)) then
 dC H x1 (T.int (IntKind.wrap .i64 (x2.i+(1:Int)))) (T.sl (x4.es ++ [x5]))
 else
 none
 else
 none) (decide (0≤x2.i)&&decide (x2.i.toNat < x1.es.length))) (T.st [(s0.fld 0),(T.sl (([]:List T)++(s0.fld 1).es))])) (((x1.nth x2.i.toNat).fld 0).nth x3.i.toNat):=by kernel_rfl
theorem so (H:HT) (C:aF) (x1 x2 x3 x4 x5:T):iU E5 env H C (bS E5.body 1) ([(0,.val 57 x1),(3,.sref 30 3 []),(4,.val 3 x2),(5,.sref 89 5 []),(6,.val 3 x3)],[(3,⟨30,x4,(.sl .dp),false⟩),(5,⟨89,x5,(.sl .dp),false⟩)])=jl H C x1 x2 x3 x4 x5:=by
 refine (sg H C x1 x2 x3 x4 x5).trans ?_
 unfold jl
 all_goals try dsimp only
 all_goals try simp only[bs]
 all_goals cases hc:((decide (0≤x2.i)&&decide (x2.i.toNat < x1.es.length))) with
 | true=>
  try simp only[bs]
  all_goals cases hc:((decide (x3.i < ((((x1.nth x2.i.toNat).fld 0).es).length:Int)))) with
  | true=>
   try simp only[bs]
   all_goals cases hc:((decide (0≤x3.i)&&decide (x3.i.toNat < (((x1.nth x2.i.toNat).fld 0).es).length))) with
   | true=>
    try simp only[bs]
    all_goals cases hc:((decide (([]:List T).length+(((((x1.nth x2.i.toNat).fld 0).nth x3.i.toNat).fld 1).es).length≤LIM))) with
    | true=>
     try simp only[bs]
     all_goals cases hc:((decide (x5.es.length + [(T.st [((((x1.nth x2.i.toNat).fld 0).nth x3.i.toNat).fld 0),(T.sl (([]:List T)++((((x1.nth x2.i.toNat).fld 0).nth x3.i.toNat).fld 1).es))])].length≤LIM))) with
     | true=>
      try simp only[bs]
      all_goals kernel_rfl
     | false=>
      try simp only[bs]
      all_goals kernel_rfl
    | false=>
     try simp only[bs]
     all_goals kernel_rfl
   | false=>
    try simp only[bs]
    all_goals kernel_rfl
  | false=>
   try simp only[bs]
   all_goals cases hc:((decide (x4.es.length + [x5].length≤LIM))) with
   | true=>
    try simp only[bs]
    all_goals kernel_rfl
   | false=>
    try simp only[bs]
    all_goals kernel_rfl
 | false=>
  try simp only[bs]
  all_goals kernel_rfl
theorem n9 (x1 x2 x3 x4 x5:T) (h:Yields (fun k=>jl (hl env k E5) (cl env k) x1 x2 x3 x4 x5) r):Yields (fun k=>dD (hl env k E5) x1 x2 x3 x4 x5) r:=Yields.head (fun H C=>so H C x1 x2 x3 x4 x5) h
noncomputable def da (H:HT) (x1 x2 x3:T):R:=H (bS dr.body 0) ([(0,.pref 87 100000 []),(3,.sref 57 3 []),(5,.val 3 x1)],[(100000,⟨87,x2,(.st [.fo,.dp]),true⟩),(3,⟨57,x3,(.sl (.st [(.sl (.st [.dp,.fz])),(.sl (.st [.dp,.fz,.fz,.fz,.fz,.dp])),.fz])),false⟩)])
noncomputable abbrev mE (H:HT) (C:aF) (a0:T):R:=
 (fun s0=>
 (fun s1=>
 obind (C aG [a0,(T.int (5:Int))]) fun r1=>
 (fun s2=>
 bif (decide ((rt r1 0).i > (0:Int))) then
 obind (C qy []) fun r2=>
 obind (C eN [(rt r2 0)]) fun r3=>
 (fun s3=>
 bif (decide (s0.length + [s3].length≤LIM)) then
 bif (decide ((rt r1 0).i > (3:Int))) then
 obind (C ml []) fun r4=>
 obind (C eN [(rt r4 0)]) fun r5=>
 (fun s4=>
 bif (decide ((s0 ++ [s3]).length + [s4].length≤LIM)) then
 obind (C aG [s2,s1]) fun r6=>
 da H (rt r6 0) (rt (r6.drop 1) 0) (T.sl ((s0 ++ [s3]) ++ [s4]))
 else
 none) (T.st [((rt r5 0).fld 0),((rt r5 0).fld 1),((rt r5 0).fld 2)])
 else
 obind (C aG [s2,s1]) fun r7=>
 da H (rt r7 0) (rt (r7.drop 1) 0) (T.sl (s0 ++ [s3]))
 else
 none) (T.st [((rt r3 0).fld 0),((rt r3 0).fld 1),((rt r3 0).fld 2)])
 else
 bif (decide ((rt r1 0).i > (3:Int))) then
 obind (C ml []) fun r8=>
 obind (C eN [(rt r8 0)]) fun r9=>
 (fun s5=>
 bif (decide (s0.length + [s5].length≤LIM)) then
 obind (C aG [s2,s1]) fun r10=>
 da H (rt r10 0) (rt (r10.drop 1) 0) (T.sl (s0 ++ [s5]))
 else
 none) (T.st [((rt r9 0).fld 0),((rt r9 0).fld 1),((rt r9 0).fld 2)])
 else
 obind (C aG [s2,s1]) fun r11=>
 da H (rt r11 0) (rt (r11.drop 1) 0) (T.sl [])) (rt (r1.drop 1) 0)) (T.int (3:Int))) ([]:List T)
theorem wC (a0:T) (h:Yields (fun k=>mE (hl env k dr) (cl env k) a0) r):Yields (fun k=>cl env k mn [a0]) r:=Yields.ca (mE · · a0) h (by kernel_rfl)
noncomputable abbrev gT (H:HT) (C:aF) (x1 x2 x3:T):R:=
 (fun s0=>
 (fun s1=>
 bif (decide (x1.i > (0:Int))) then
 bif (decide ((x3.es.length:Int) < (3:Int))) then
 obind (C lw [x2,x3]) fun r1=>
 (fun s2=>
 bif (decide (x3.es.length + [s2].length≤LIM)) then
 da H (T.int (IntKind.wrap .i64 (x1.i - (1:Int)))) (rt (r1.drop 1) 0) (T.sl (x3.es ++ [s2]))
 else
 none) (T.st [((rt r1 0).fld 0),((rt r1 0).fld 1),((rt r1 0).fld 2)])
 else
 bif s1 then
 obind (C aG [x2,(T.int (3:Int))]) fun r2=>
 bif ((rt r2 0).i==(0:Int)) then
 bif (decide (0≤(0:Int))&&decide (0 < x3.es.length)) then
 some [s0,(rt (r2.drop 1) 0)]
 else
 none
 else
 some [x3,(rt (r2.drop 1) 0)]
 else
 some [x3,x2]
 else
 bif s1 then
 obind (C aG [x2,(T.int (3:Int))]) fun r3=>
 bif ((rt r3 0).i==(0:Int)) then
 bif (decide (0≤(0:Int))&&decide (0 < x3.es.length)) then
 some [s0,(rt (r3.drop 1) 0)]
 else
 none
 else
 some [x3,(rt (r3.drop 1) 0)]
 else
 some [x3,x2]) (decide ((x3.es.length:Int) > (1:Int)))) (T.put x3 [.idx 0,.fld 2] (T.sl [(T.int (1:Int))]))
theorem pm (x1 x2 x3:T) (h:Yields (fun k=>gT (hl env k dr) (cl env k) x1 x2 x3) r):Yields (fun k=>da (hl env k dr) x1 x2 x3) r:=Yields.hd (gT · · x1 x2 x3) h (by kernel_rfl)
noncomputable def Fo (H:HT) (x1 x2 x3 x4:T):R:=H (bS Ea.body 0) ([(0,.pref 87 100000 []),(1,.val 30 x1),(5,.val 31 x2),(6,.val 3 x3)],[(100000,⟨87,x4,(.st [.fo,.dp]),true⟩)])
noncomputable def Fp (H:HT) (x1 x2 x3 x4 x5:T):R:=H (bS Ea.body 1) ([(0,.pref 87 100000 []),(1,.val 30 x1),(5,.val 31 x2),(6,.val 3 x3),(7,.val 3 x4)],[(100000,⟨87,x5,(.st [.fo,.dp]),true⟩)])
noncomputable def EQ (H:HT) (x1 x2 x3 x4 x5 x6 x7:T):R:=H (bS Ea.body 2) ([(0,.pref 87 100000 []),(1,.val 30 x1),(5,.val 31 x2),(6,.val 3 x3),(7,.val 3 x4),(8,.val 9 x5),(9,.val 3 x6)],[(100000,⟨87,x7,(.st [.fo,.dp]),true⟩)])
noncomputable abbrev J7 (H:HT) (C:aF) (a0 a1:T):R:=
 Fo H a1 (T.sl []) (T.int (0:Int)) a0
theorem Lv (a0 a1:T) (h:Yields (fun k=>J7 (hl env k Ea) (cl env k) a0 a1) r):Yields (fun k=>cl env k EN [a0,a1]) r:=Yields.ca (J7 · · a0 a1) h (by kernel_rfl)
noncomputable abbrev FX (H:HT) (C:aF) (x1 x2 x3 x4:T):R:=
 bif (decide (x3.i < (x1.es.length:Int))) then
 Fp H x1 x2 x3 (T.int (0:Int)) x4
 else
 some [x2,x4]
theorem Iy (x1 x2 x3 x4:T) (h:Yields (fun k=>FX (hl env k Ea) (cl env k) x1 x2 x3 x4) r):Yields (fun k=>Fo (hl env k Ea) x1 x2 x3 x4) r:=Yields.hd (FX · · x1 x2 x3 x4) h (by kernel_rfl)
noncomputable abbrev FY (H:HT) (C:aF) (x1 x2 x3 x4 x5:T):R:=
 bif (decide (0≤x3.i)&&decide (x3.i.toNat < x1.es.length)) then
 bif (decide (x4.i < (((x1.nth x3.i.toNat).es).length:Int))) then
 obind (C dE [x3]) fun r1=>
 bif (decide (k_S.size+((rt r1 0).s).size≤LIM)) then
 obind (C dE [x4]) fun r2=>
 bif (decide ((k_S++((rt r1 0).s)).size+((rt r2 0).s).size≤LIM)) then
 EQ H x1 x2 x3 x4 (T.str ((k_S++((rt r1 0).s))++((rt r2 0).s))) (T.int (0:Int)) x5
 else
 none
 else
 none
 else
 Fo H x1 x2 (T.int (IntKind.wrap .i64 (x3.i+(1:Int)))) x5
 else
 none
theorem Iz (x1 x2 x3 x4 x5:T) (h:Yields (fun k=>FY (hl env k Ea) (cl env k) x1 x2 x3 x4 x5) r):Yields (fun k=>Fp (hl env k Ea) x1 x2 x3 x4 x5) r:=Yields.hd (FY · · x1 x2 x3 x4 x5) h (by kernel_rfl)
noncomputable abbrev FZ (H:HT) (C:aF) (x1 x2 x3 x4 x5 x6 x7:T):R:=
 (fun s0=>
 bif (decide (x6.i < (4:Int))) then
 obind (C eD [x1,x5]) fun r1=>
 obind (C bH [(rt r1 0),(T.int (8:Int))]) fun r2=>
 bif (rt r2 0).b then
 obind (C aG [x7,(T.int (2:Int))]) fun r3=>
 bif ((rt r3 0).i==(0:Int)) then
 bif (decide (0≤x3.i)&&decide (x3.i.toNat < x1.es.length)) then
 bif (decide (0≤x4.i)&&decide (x4.i.toNat < ((x1.nth x3.i.toNat).es).length)) then
 bif (decide ((((x1.nth x3.i.toNat).nth x4.i.toNat).fld 0).i≤(15:Int))) then
 obind (C EA [(rt (r3.drop 1) 0),x1,x5]) fun r4=>
 obind (C Gg [x2,x6,(rt r4 0)]) fun r5=>
 EQ H x1 (rt r5 0) x3 x4 x5 s0 (rt (r4.drop 1) 0)
 else
 EQ H x1 x2 x3 x4 x5 s0 (rt (r3.drop 1) 0)
 else
 none
 else
 none
 else
 EQ H x1 x2 x3 x4 x5 s0 (rt (r3.drop 1) 0)
 else
 EQ H x1 x2 x3 x4 x5 s0 x7
 else
 Fp H x1 x2 x3 (T.int (IntKind.wrap .i64 (x4.i+(1:Int)))) x7) (T.int (IntKind.wrap .i64 (x6.i+(1:Int))))
theorem IA (x1 x2 x3 x4 x5 x6 x7:T) (h:Yields (fun k=>FZ (hl env k Ea) (cl env k) x1 x2 x3 x4 x5 x6 x7) r):Yields (fun k=>EQ (hl env k Ea) x1 x2 x3 x4 x5 x6 x7) r:=Yields.hd (FZ · · x1 x2 x3 x4 x5 x6 x7) h (by kernel_rfl)
noncomputable def Gx (H:HT) (x1 x2 x3:T):R:=H (bS F5.body 0) ([(0,.pref 87 100000 []),(1,.val 30 x1),(5,.val 3 x2)],[(100000,⟨87,x3,(.st [.fo,.dp]),true⟩)])
noncomputable abbrev Ii (H:HT) (C:aF) (a0 a1:T):R:=
 obind (C aG [a0,(T.int (12:Int))]) fun r1=>
 bif ((rt r1 0).i==(0:Int)) then
 obind (C cB [(rt (r1.drop 1) 0),(T.sl [(T.str k_n),(T.str vS),(T.str (⟨#[]⟩:ByteArray)),(T.str Nj),(T.str k_S)])]) fun r2=>
 some [(rt r2 0),(rt (r2.drop 1) 0)]
 else
 Gx H a1 (T.int (0:Int)) (rt (r1.drop 1) 0)
theorem Mt (a0 a1:T) (h:Yields (fun k=>Ii (hl env k F5) (cl env k) a0 a1) r):Yields (fun k=>cl env k EW [a0,a1]) r:=Yields.ca (Ii · · a0 a1) h (by kernel_rfl)
noncomputable abbrev Gv (H:HT) (C:aF) (x1 x2 x3:T):R:=
 bif (decide (x2.i < (4:Int))) then
 obind (C hL [x3,x1,(T.bool false)]) fun r1=>
 bif ((((rt r1 0).s).size:Int)==(3:Int)) then
 some [(rt r1 0),(rt (r1.drop 1) 0)]
 else
 Gx H x1 (T.int (IntKind.wrap .i64 (x2.i+(1:Int)))) (rt (r1.drop 1) 0)
 else
 some [(T.str k_S00),x3]
theorem Jf (x1 x2 x3:T) (h:Yields (fun k=>Gv (hl env k F5) (cl env k) x1 x2 x3) r):Yields (fun k=>Gx (hl env k F5) x1 x2 x3) r:=Yields.hd (Gv · · x1 x2 x3) h (by kernel_rfl)
noncomputable abbrev IE (H:HT) (C:aF) (a0 a1:T):R:=
 obind (C Fu [a1]) fun r1=>
 bif (rt r1 2).b then
 bif (decide ((rt r1 0).i < (a0.es.length:Int))) then
 bif (decide (0≤(rt r1 0).i)&&decide (((rt r1 0).i).toNat < a0.es.length)) then
 some [(T.bool (decide ((rt r1 1).i < (((a0.nth (((rt r1 0).i).toNat)).es).length:Int))))]
 else
 none
 else
 some [(T.bool false)]
 else
 some [(T.bool false)]
theorem MZ (a0 a1:T) (h:Yields (fun k=>IE (hl env k Gk) (cl env k) a0 a1) r):Yields (fun k=>cl env k ER [a0,a1]) r:=Yields.ca (IE · · a0 a1) h (by kernel_rfl)
noncomputable def FM (H:HT) (x1 x2 x3 x4 x5:T):R:=H (bS EC.body 0) ([(1,.val 9 x1),(5,.val 3 x2),(13,.val 36 x3),(14,.val 3 x4),(15,.val 3 x5)],[])
noncomputable abbrev JJ (H:HT) (C:aF) (a0 a1:T):R:=
 bif (((a0.fld 0).s).toList==a1.s.toList) then
 FM H a1 (T.int (1:Int)) (a0.fld 2) (T.int (((a0.fld 2).es).length:Int)) (T.int (0:Int))
 else
 FM H a1 (T.int (0:Int)) (a0.fld 2) (T.int (((a0.fld 2).es).length:Int)) (T.int (0:Int))
theorem JR (a0 a1:T) (h:Yields (fun k=>JJ (hl env k EC) (cl env k) a0 a1) r):Yields (fun k=>cl env k Ge [a0,a1]) r:=Yields.ca (JJ · · a0 a1) h (by kernel_rfl)
noncomputable abbrev J4 (H:HT) (C:aF) (x1 x2 x3 x4 x5:T):R:=
 bif (decide (x5.i < x4.i)) then
 bif (decide (0≤x5.i)&&decide (x5.i.toNat < x3.es.length)) then
 obind (C Ge [(x3.nth x5.i.toNat),x1]) fun r1=>
 FM H x1 (T.int (IntKind.wrap .i64 (x2.i+(rt r1 0).i))) x3 x4 (T.int (IntKind.wrap .i64 (x5.i+(1:Int))))
 else
 none
 else
 some [x2]
theorem Jc (x1 x2 x3 x4 x5:T) (h:Yields (fun k=>J4 (hl env k EC) (cl env k) x1 x2 x3 x4 x5) r):Yields (fun k=>FM (hl env k EC) x1 x2 x3 x4 x5) r:=Yields.hd (J4 · · x1 x2 x3 x4 x5) h (by kernel_rfl)
noncomputable abbrev oK (H:HT) (C:aF) (a0:T):R:=
 (fun s0=>
 (fun s1=>
 bif ((a0.s.size:Int) != (3:Int)) then
 some [s0,s0,s1]
 else
 bif (decide (0≤(0:Int))&&decide (0 < a0.s.size)) then
 bif ((a0.s.data.getD 0 0).toNat != (83:Int)) then
 some [s0,s0,s1]
 else
 bif (decide (0≤(1:Int))&&decide (1 < a0.s.size)) then
 bif (decide ((a0.s.data.getD 1 0).toNat < (48:Int))) then
 some [s0,s0,s1]
 else
 bif (decide (0≤(1:Int))&&decide (1 < a0.s.size)) then
 bif (decide ((a0.s.data.getD 1 0).toNat > (57:Int))) then
 some [s0,s0,s1]
 else
 bif (decide (0≤(2:Int))&&decide (2 < a0.s.size)) then
 bif (decide ((a0.s.data.getD 2 0).toNat < (48:Int))) then
 some [s0,s0,s1]
 else
 bif (decide (0≤(2:Int))&&decide (2 < a0.s.size)) then
 bif (decide ((a0.s.data.getD 2 0).toNat > (57:Int))) then
 some [s0,s0,s1]
 else
 bif (decide (0≤(1:Int))&&decide (1 < a0.s.size)) then
 bif (decide (0≤(2:Int))&&decide (2 < a0.s.size)) then
 some [(T.int (IntKind.wrap .i64 (IntKind.wrap .u8 ((a0.s.data.getD 1 0).toNat - (48:Int))))),(T.int (IntKind.wrap .i64 (IntKind.wrap .u8 ((a0.s.data.getD 2 0).toNat - (48:Int))))),(T.bool true)]
 else
 none
 else
 none
 else
 none
 else
 none
 else
 none
 else
 none
 else
 none) (T.bool false)) (T.int (0:Int))
theorem yp (a0:T) (h:Yields (fun k=>oK (hl env k ii) (cl env k) a0) r):Yields (fun k=>cl env k cU [a0]) r:=Yields.ca (oK · · a0) h (by kernel_rfl)
noncomputable abbrev I3 (H:HT) (C:aF) (a0 a1:T):R:=
 obind (C na [a0]) fun r1=>
 bif (rt r1 0).b then
 obind (C JB [a0,a1]) fun r2=>
 some [(rt r2 0)]
 else
 some [(T.bool false)]
theorem Ie (a0 a1:T) (h:Yields (fun k=>I3 (hl env k FK) (cl env k) a0 a1) r):Yields (fun k=>cl env k Ep [a0,a1]) r:=Yields.ca (I3 · · a0 a1) h (by kernel_rfl)
noncomputable abbrev Ih (H:HT) (C:aF) (a0 a1:T):R:=
 obind (C cU [a1]) fun r1=>
 obind (C kU [a1]) fun r2=>
 bif (rt r2 0).b then
 some [(T.bool true)]
 else
 bif (rt r1 2).b then
 obind (C mg [a0,(rt r1 0),(rt r1 1)]) fun r3=>
 some [(rt r3 0)]
 else
 some [(T.bool false)]
theorem Mq (a0 a1:T) (h:Yields (fun k=>Ih (hl env k G1) (cl env k) a0 a1) r):Yields (fun k=>cl env k H7 [a0,a1]) r:=Yields.ca (Ih · · a0 a1) h (by kernel_rfl)
noncomputable def FN (H:HT) (x1 x2 x3 x4:T):R:=H (bS ED.body 0) ([(1,.val 9 x1),(2,.pref 39 2 []),(5,.val 3 x2),(6,.val 3 x3)],[(2,⟨39,x4,.fz,true⟩)])
noncomputable abbrev JL (H:HT) (C:aF) (a0 a1:T):R:=
 bif (((a0.fld 0).s).toList==a1.s.toList) then
 FN H a1 (T.int (1:Int)) (T.int (0:Int)) a0
 else
 FN H a1 (T.int (0:Int)) (T.int (0:Int)) a0
theorem JT (a0 a1:T) (h:Yields (fun k=>JL (hl env k ED) (cl env k) a0 a1) r):Yields (fun k=>cl env k H8 [a0,a1]) r:=Yields.ca (JL · · a0 a1) h (by kernel_rfl)
noncomputable abbrev J6 (H:HT) (C:aF) (x1 x2 x3 x4:T):R:=
 bif (decide (x3.i < (((x4.fld 2).es).length:Int))) then
 bif (decide (0≤x3.i)&&decide (x3.i.toNat < ((x4.fld 2).es).length)) then
 obind (C H8 [((x4.fld 2).nth x3.i.toNat),x1]) fun r1=>
 FN H x1 (T.int (IntKind.wrap .i64 (x2.i+(rt r1 0).i))) (T.int (IntKind.wrap .i64 (x3.i+(1:Int)))) x4
 else
 none
 else
 some [x2]
theorem Je (x1 x2 x3 x4:T) (h:Yields (fun k=>J6 (hl env k ED) (cl env k) x1 x2 x3 x4) r):Yields (fun k=>FN (hl env k ED) x1 x2 x3 x4) r:=Yields.hd (J6 · · x1 x2 x3 x4) h (by kernel_rfl)
noncomputable abbrev JI (H:HT) (C:aF) (a0 a1:T):R:=
 obind (C Gd [a0]) fun r1=>
 bif (rt r1 0).b then
 obind (C El [a0,a1]) fun r2=>
 some [(rt r2 0)]
 else
 some [(T.bool false)]
theorem Mm (a0 a1:T) (h:Yields (fun k=>JI (hl env k I7) (cl env k) a0 a1) r):Yields (fun k=>cl env k JF [a0,a1]) r:=Yields.ca (JI · · a0 a1) h (by kernel_rfl)
noncomputable abbrev JK (H:HT) (C:aF) (a0 a1 a2:T):R:=
 obind (C Gf [a0,(T.fn 95 [a1,a2])]) fun r1=>
 some [(rt r1 0)]
theorem Mo (a0 a1 a2:T) (h:Yields (fun k=>JK (hl env k GL) (cl env k) a0 a1 a2) r):Yields (fun k=>cl env k EI [a0,a1,a2]) r:=Yields.ca (JK · · a0 a1 a2) h (by kernel_rfl)
noncomputable def H6 (H:HT) (x1 x2 x3 x4 x5:T):R:=H (bS pe.body 0) ([(2,.pref 39 2 []),(3,.pref 39 3 []),(15,.val 36 x1),(16,.val 3 x2),(17,.val 3 x3)],[(2,⟨39,x4,.dp,true⟩),(3,⟨39,x5,(.st [.dp,.dp,.dp,.dp]),true⟩)])
noncomputable def EE (H:HT) (x1 x2 x3 x4 x5:T):R:=H (bS pe.body 0) ([(2,.pref 39 2 []),(3,.pref 39 3 []),(15,.val 36 x1),(16,.val 3 x2),(17,.val 3 x3)],[(2,⟨39,x4,.dp,true⟩),(3,⟨39,x5,(.st [.dp,.dp,(.sl .dp),.dp]),true⟩)])
noncomputable abbrev J3 (H:HT) (C:aF) (a0:T):R:=
 obind (C me [(a0.fld 3)]) fun r1=>
 H6 H (a0.fld 2) (T.int (((a0.fld 2).es).length:Int)) (T.int (0:Int)) (T.st [(T.str (⟨#[]⟩:ByteArray)),(T.int (0:Int)),(T.sl []),(T.sl [])]) (T.st [(a0.fld 0),(a0.fld 1),(T.sl []),(rt r1 0)])
theorem Ls (a0:T) (h:Yields (fun k=>J3 (hl env k pe) (cl env k) a0) r):Yields (fun k=>cl env k Eh [a0]) r:=Yields.ca (J3 · · a0) h (by kernel_rfl)
noncomputable abbrev GV (H:HT) (C:aF) (x1 x2 x3 x4 x5:T):R:=
 (fun s0=>
 bif (decide (x3.i < x2.i)) then
 bif (decide (0≤x3.i)&&decide (x3.i.toNat < x1.es.length)) then
 obind (C Eh [(x1.nth x3.i.toNat)]) fun r1=>
 (fun s1=>
 bif (decide (((x5.fld 2).es).length + [s1].length≤LIM)) then
 EE H x1 x2 (T.int (IntKind.wrap .i64 (x3.i+(1:Int)))) x4 (T.st (x5.fs.set 2 (T.sl ((x5.fld 2).es ++ [s1]))))
 else
 none) (T.st [((rt r1 0).fld 0),((rt r1 0).fld 1),((rt r1 0).fld 2),((rt r1 0).fld 3)])
 else
 none
 else
 obind (C Eu [(x5.fld 2)]) fun r2=>
 some [(T.st [(s0.fld 0),(s0.fld 1),(s0.fld 2),(s0.fld 3)])]) (T.st (x5.fs.set 2 (T.sl ((((x5.fld 2).es).take (((x5.fld 2).es).length)).drop 0))))
theorem Iu (x1 x2 x3 x4 x5:T) (h:Yields (fun k=>GV (hl env k pe) (cl env k) x1 x2 x3 x4 x5) r):Yields (fun k=>H6 (hl env k pe) x1 x2 x3 x4 x5) r:=Yields.hd (GV · · x1 x2 x3 x4 x5) h (by kernel_rfl)
noncomputable abbrev GW (H:HT) (C:aF) (x1 x2 x3 x4 x5:T):R:=GV H C x1 x2 x3 x4 x5
theorem Iv (x1 x2 x3 x4 x5:T) (h:Yields (fun k=>GW (hl env k pe) (cl env k) x1 x2 x3 x4 x5) r):Yields (fun k=>EE (hl env k pe) x1 x2 x3 x4 x5) r:=Yields.hd (GW · · x1 x2 x3 x4 x5) h (by kernel_rfl)
noncomputable def Fs (H:HT) (x1 x2 x3 x4:T):R:=H (bS Ew.body 0) ([(0,.val 31 x1),(1,.val 3 x2),(2,.val 9 x3),(7,.val 3 x4)],[])
noncomputable abbrev K9 (H:HT) (C:aF) (a0 a1 a2:T):R:=
 Fs H a0 a1 a2 (T.int (0:Int))
theorem MT (H:HT) (C:aF) (a0 a1 a2:T):bI Ew env H C [a0,a1,a2]=K9 H C a0 a1 a2:=by kernel_rfl
theorem N6 (a0 a1 a2:T) (h:Yields (fun k=>K9 (hl env k Ew) (cl env k) a0 a1 a2) r):Yields (fun k=>cl env k ES [a0,a1,a2]) r:=Yields.call (fi:=Ew) rfl rfl (fun H C=>MT H C a0 a1 a2) h
noncomputable abbrev I5 (H:HT) (C:aF) (x1 x2 x3 x4:T):R:=
 (fun s0=>
 bif (decide (x4.i < (x1.es.length:Int))) then
 bif (decide (0≤x4.i)&&decide (x4.i.toNat < x1.es.length)) then
 bif (((x1.nth x4.i.toNat).fld 0).i==x2.i) then
 bif (((((x1.nth x4.i.toNat).fld 1).fld 0).s).toList==x3.s.toList) then
 some [x4]
 else
 Fs H x1 x2 x3 s0
 else
 Fs H x1 x2 x3 s0
 else
 none
 else
 some [(T.int (-1:Int))]) (T.int (IntKind.wrap .i64 (x4.i+(1:Int))))
theorem LE (H:HT) (C:aF) (x1 x2 x3 x4:T):iU Ew env H C (bS Ew.body 0) ([(0,.val 31 x1),(1,.val 3 x2),(2,.val 9 x3),(7,.val 3 x4)],[]) =
 (fun s0=>
 (fun s1=>
 (fun s2=>
 bif (decide (x4.i < (x1.es.length:Int))) then
 bif s1 then
 bif (((s0&&(s0&&true))&&s1)||(!s0)) then
 bif (s0||(!s0)) then
 bif (s0||(!s0)) then
 bif (s0||(!s0)) then
 bif (((s0&&s0)&&true)||(!s0)) then
 bif (bif s2 then s0 else true) then
 bif (bif s2 then (T.bool (((((x1.nth x4.i.toNat).fld 1).fld 0).s).toList==x3.s.toList)) else (T.bool false)).b then
 some [x4]
 else
 Fs H x1 x2 x3 (T.int (IntKind.wrap .i64 (x4.i+(1:Int))))
 else
 none
 else
 none
 else
 none
 else
 none
 else
 none
 else
 none
 else
 none
 else
 some [(T.int (-1:Int))]) (((x1.nth x4.i.toNat).fld 0).i==x2.i)) (decide (0≤x4.i)&&decide (x4.i.toNat < x1.es.length))) ((((x1.nth x4.i.toNat).fld 0).i==x2.i)==true):=by kernel_rfl
theorem LW (H:HT) (C:aF) (x1 x2 x3 x4:T):iU Ew env H C (bS Ew.body 0) ([(0,.val 31 x1),(1,.val 3 x2),(2,.val 9 x3),(7,.val 3 x4)],[])=I5 H C x1 x2 x3 x4:=by
 refine (LE H C x1 x2 x3 x4).trans ?_
 unfold I5
 all_goals try dsimp only
 all_goals try simp only[bs]
 all_goals cases hc:((decide (x4.i < (x1.es.length:Int)))) with
 | true=>
  try simp only[bs]
  all_goals cases hc:((decide (0≤x4.i)&&decide (x4.i.toNat < x1.es.length))) with
  | true=>
   try simp only[bs]
   all_goals cases hc:((((x1.nth x4.i.toNat).fld 0).i==x2.i)) with
   | true=>
    try simp only[bs]
    all_goals cases hc:((((((x1.nth x4.i.toNat).fld 1).fld 0).s).toList==x3.s.toList)) with
    | true=>
     try simp only[bs]
     all_goals kernel_rfl
    | false=>
     try simp only[bs]
     all_goals kernel_rfl
   | false=>
    try simp only[bs]
    all_goals kernel_rfl
  | false=>
   try simp only[bs]
   all_goals kernel_rfl
 | false=>
  try simp only[bs]
  all_goals kernel_rfl
theorem GO (x1 x2 x3 x4:T) (h:Yields (fun k=>I5 (hl env k Ew) (cl env k) x1 x2 x3 x4) r):Yields (fun k=>Fs (hl env k Ew) x1 x2 x3 x4) r:=Yields.head (fun H C=>LW H C x1 x2 x3 x4) h
noncomputable def I9 (H:HT) (x1 x2 x3 x4:T):R:=H (bS Eg.body 0) ([(1,.pref 39 1 []),(2,.pref 39 2 []),(3,.pref 39 3 []),(4,.val 3 x1)],[(1,⟨39,x2,.fz,true⟩),(2,⟨39,x3,.dp,true⟩),(3,⟨39,x4,(.st [.dp,.dp,.dp,(.sl .dp)]),true⟩)])
noncomputable def Fq (H:HT) (x1 x2 x3 x4:T):R:=H (bS Eg.body 0) ([(1,.pref 39 1 []),(2,.pref 39 2 []),(3,.pref 39 3 []),(4,.val 3 x1)],[(1,⟨39,x2,.fz,true⟩),(2,⟨39,x3,.dp,true⟩),(3,⟨39,x4,(.st [.dp,.dp,(.sl .dp),(.sl .dp)]),true⟩)])
noncomputable abbrev K7 (H:HT) (C:aF) (a0:T):R:=
 bif (decide (([]:List T).length+((a0.fld 3).es).length≤LIM)) then
 I9 H (T.int (0:Int)) a0 (T.st [(T.str (⟨#[]⟩:ByteArray)),(T.int (0:Int)),(T.sl []),(T.sl [])]) (T.st [(a0.fld 0),(a0.fld 1),(T.sl []),(T.sl (([]:List T)++(a0.fld 3).es))])
 else
 none
theorem N3 (a0:T) (h:Yields (fun k=>K7 (hl env k Eg) (cl env k) a0) r):Yields (fun k=>cl env k E7 [a0]) r:=Yields.ca (K7 · · a0) h (by kernel_rfl)
noncomputable abbrev Jo (H:HT) (C:aF) (x1 x2 x3 x4:T):R:=
 bif (decide (x1.i < (((x2.fld 2).es).length:Int))) then
 bif (decide (0≤x1.i)&&decide (x1.i.toNat < ((x2.fld 2).es).length)) then
 obind (C E7 [((x2.fld 2).nth x1.i.toNat)]) fun r1=>
 (fun s0=>
 bif (decide (((x4.fld 2).es).length + [s0].length≤LIM)) then
 Fq H (T.int (IntKind.wrap .i64 (x1.i+(1:Int)))) x2 x3 (T.st (x4.fs.set 2 (T.sl ((x4.fld 2).es ++ [s0]))))
 else
 none) (T.st [((rt r1 0).fld 0),((rt r1 0).fld 1),((rt r1 0).fld 2),((rt r1 0).fld 3)])
 else
 none
 else
 some [(T.st [(x4.fld 0),(x4.fld 1),(x4.fld 2),(x4.fld 3)])]
theorem Jx (x1 x2 x3 x4:T) (h:Yields (fun k=>Jo (hl env k Eg) (cl env k) x1 x2 x3 x4) r):Yields (fun k=>I9 (hl env k Eg) x1 x2 x3 x4) r:=Yields.hd (Jo · · x1 x2 x3 x4) h (by kernel_rfl)
noncomputable abbrev Jp (H:HT) (C:aF) (x1 x2 x3 x4:T):R:=Jo H C x1 x2 x3 x4
theorem Jy (x1 x2 x3 x4:T) (h:Yields (fun k=>Jp (hl env k Eg) (cl env k) x1 x2 x3 x4) r):Yields (fun k=>Fq (hl env k Eg) x1 x2 x3 x4) r:=Yields.hd (Jp · · x1 x2 x3 x4) h (by kernel_rfl)
noncomputable def GM (H:HT) (x1 x2 x3:T):R:=H (bS Ff.body 0) ([(0,.val 37 x1),(1,.val 37 x2),(5,.val 3 x3)],[])
noncomputable abbrev IG (H:HT) (C:aF) (a0 a1:T):R:=
 bif ((a0.es.length:Int) != (a1.es.length:Int)) then
 some [(T.bool false)]
 else
 GM H a0 a1 (T.int (0:Int))
theorem N1 (a0 a1:T) (h:Yields (fun k=>IG (hl env k Ff) (cl env k) a0 a1) r):Yields (fun k=>cl env k IC [a0,a1]) r:=Yields.ca (IG · · a0 a1) h (by kernel_rfl)
noncomputable abbrev GH (H:HT) (C:aF) (x1 x2 x3:T):R:=
 bif (decide (x3.i < (x1.es.length:Int))) then
 bif (decide (0≤x3.i)&&decide (x3.i.toNat < x1.es.length)) then
 bif (decide (0≤x3.i)&&decide (x3.i.toNat < x2.es.length)) then
 bif ((x1.nth x3.i.toNat).i != (x2.nth x3.i.toNat).i) then
 some [(T.bool false)]
 else
 GM H x1 x2 (T.int (IntKind.wrap .i64 (x3.i+(1:Int))))
 else
 none
 else
 none
 else
 some [(T.bool true)]
theorem Jv (x1 x2 x3:T) (h:Yields (fun k=>GH (hl env k Ff) (cl env k) x1 x2 x3) r):Yields (fun k=>GM (hl env k Ff) x1 x2 x3) r:=Yields.hd (GH · · x1 x2 x3) h (by kernel_rfl)
noncomputable def Ga (H:HT) (x1 x2 x3:T):R:=H (bS EZ.body 0) ([(0,.val 36 x1),(1,.val 36 x2),(5,.val 3 x3)],[])
noncomputable abbrev HY (H:HT) (C:aF) (a0 a1:T):R:=
 bif ((a0.es.length:Int) != (a1.es.length:Int)) then
 some [(T.bool false)]
 else
 Ga H a0 a1 (T.int (0:Int))
theorem M1 (a0 a1:T) (h:Yields (fun k=>HY (hl env k EZ) (cl env k) a0 a1) r):Yields (fun k=>cl env k Jj [a0,a1]) r:=Yields.ca (HY · · a0 a1) h (by kernel_rfl)
noncomputable abbrev G7 (H:HT) (C:aF) (x1 x2 x3:T):R:=
 bif (decide (x3.i < (x1.es.length:Int))) then
 bif (decide (0≤x3.i)&&decide (x3.i.toNat < x1.es.length)) then
 bif (decide (0≤x3.i)&&decide (x3.i.toNat < x2.es.length)) then
 obind (C EU [(x1.nth x3.i.toNat),(x2.nth x3.i.toNat)]) fun r1=>
 bif (!(rt r1 0).b) then
 some [(T.bool false)]
 else
 Ga H x1 x2 (T.int (IntKind.wrap .i64 (x3.i+(1:Int))))
 else
 none
 else
 none
 else
 some [(T.bool true)]
theorem IW (x1 x2 x3:T) (h:Yields (fun k=>G7 (hl env k EZ) (cl env k) x1 x2 x3) r):Yields (fun k=>Ga (hl env k EZ) x1 x2 x3) r:=Yields.hd (G7 · · x1 x2 x3) h (by kernel_rfl)
noncomputable def F9 (H:HT) (x1 x2 x3 x4:T):R:=H (bS En.body 0) ([(3,.sref 31 3 []),(7,.val 31 x1),(8,.val 3 x2),(9,.val 3 x3)],[(3,⟨31,x4,(.sl .dp),false⟩)])
noncomputable abbrev Jl (H:HT) (C:aF) (a0:T):R:=
 F9 H a0 (T.int (a0.es.length:Int)) (T.int (0:Int)) (T.sl [])
theorem LX (a0:T) (h:Yields (fun k=>Jl (hl env k En) (cl env k) a0) r):Yields (fun k=>cl env k Ex [a0]) r:=Yields.ca (Jl · · a0) h (by kernel_rfl)
noncomputable abbrev Hi (H:HT) (C:aF) (x1 x2 x3 x4:T):R:=
 bif (decide (x3.i < x2.i)) then
 bif (decide (0≤x3.i)&&decide (x3.i.toNat < x1.es.length)) then
 obind (C Eh [((x1.nth x3.i.toNat).fld 1)]) fun r1=>
 (fun s0=>
 bif (decide (x4.es.length + [s0].length≤LIM)) then
 F9 H x1 x2 (T.int (IntKind.wrap .i64 (x3.i+(1:Int)))) (T.sl (x4.es ++ [s0]))
 else
 none) (T.st [((x1.nth x3.i.toNat).fld 0),(T.st [((rt r1 0).fld 0),((rt r1 0).fld 1),((rt r1 0).fld 2),((rt r1 0).fld 3)])])
 else
 none
 else
 obind (C Fd [x4]) fun r2=>
 some [(T.sl ((x4.es.take x4.es.length).drop 0))]
theorem IT (x1 x2 x3 x4:T) (h:Yields (fun k=>Hi (hl env k En) (cl env k) x1 x2 x3 x4) r):Yields (fun k=>F9 (hl env k En) x1 x2 x3 x4) r:=Yields.hd (Hi · · x1 x2 x3 x4) h (by kernel_rfl)
noncomputable abbrev Ka (H:HT) (C:aF) (a0 a1:T):R:=
 (fun s0=>
 (fun s1=>
 (fun s2=>
 (fun s3=>
 bif (decide (0≤(0:Int))&&(decide ((0:Int)≤a1.i)&&(decide (a1.i≤s0)&&decide (s0≤s0)))) then
 bif (decide (([]:List T).length+s2.length≤LIM)) then
 bif (decide (0≤s1)&&(decide (s1≤s0)&&(decide (s0≤s0)&&decide (s0≤s0)))) then
 bif (decide ((([]:List T)++s2).length+s3.length≤LIM)) then
 some [(T.sl ((([]:List T)++s2)++s3))]
 else
 none
 else
 none
 else
 none
 else
 none) ((a0.es.take a0.es.length).drop (s1.toNat))) ((a0.es.take a1.i.toNat).drop 0)) (IntKind.wrap .i64 (a1.i+(1:Int)))) (a0.es.length:Int)
theorem N7 (a0 a1:T) (h:Yields (fun k=>Ka (hl env k Hb) (cl env k) a0 a1) r):Yields (fun k=>cl env k Hx [a0,a1]) r:=Yields.ca (Ka · · a0 a1) h (by kernel_rfl)
noncomputable def Fr (H:HT) (x1 x2 x3:T):R:=H (bS Et.body 0) ([(0,.val 31 x1),(3,.sref 31 3 []),(4,.val 3 x2)],[(3,⟨31,x3,(.sl .dp),false⟩)])
noncomputable abbrev K8 (H:HT) (C:aF) (a0:T):R:=
 Fr H a0 (T.int (0:Int)) (T.sl [])
theorem MS (H:HT) (C:aF) (a0:T):bI Et env H C [a0]=K8 H C a0:=by kernel_rfl
theorem N5 (a0:T) (h:Yields (fun k=>K8 (hl env k Et) (cl env k) a0) r):Yields (fun k=>cl env k Fb [a0]) r:=Yields.call (fi:=Et) rfl rfl (fun H C=>MS H C a0) h
noncomputable abbrev I4 (H:HT) (C:aF) (x1 x2 x3:T):R:=
 bif (decide (x2.i < (x1.es.length:Int))) then
 bif (decide (0≤x2.i)&&decide (x2.i.toNat < x1.es.length)) then
 obind (C E7 [((x1.nth x2.i.toNat).fld 1)]) fun r1=>
 (fun s0=>
 bif (decide (x3.es.length + [s0].length≤LIM)) then
 Fr H x1 (T.int (IntKind.wrap .i64 (x2.i+(1:Int)))) (T.sl (x3.es ++ [s0]))
 else
 none) (T.st [((x1.nth x2.i.toNat).fld 0),(T.st [((rt r1 0).fld 0),((rt r1 0).fld 1),((rt r1 0).fld 2),((rt r1 0).fld 3)])])
 else
 none
 else
 some [x3]
theorem LD (H:HT) (C:aF) (x1 x2 x3:T):iU Et env H C (bS Et.body 0) ([(0,.val 31 x1),(3,.sref 31 3 []),(4,.val 3 x2)],[(3,⟨31,x3,(.sl .dp),false⟩)]) =
 (fun s0=>
 bif (decide (x2.i < (x1.es.length:Int))) then
 bif s0 then
 bif s0 then
 obind (C E7 [((x1.nth x2.i.toNat).fld 1)]) fun r1=>
 (fun s1=>
 bif (decide (x3.es.length + [s1].length≤LIM)) then
 Fr H x1 (T.int (IntKind.wrap .i64 (x2.i+(1:Int)))) (T.sl (x3.es ++ [s1]))
 else
 none) (T.st [((x1.nth x2.i.toNat).fld 0),(T.st [((rt r1 0).fld 0),((rt r1 0).fld 1),((rt r1 0).fld 2),((rt r1 0).fld 3)])])
 else
 none
 else
 none
 else
 some [x3]) (decide (0≤x2.i)&&decide (x2.i.toNat < x1.es.length)):=by kernel_rfl
theorem LV (H:HT) (C:aF) (x1 x2 x3:T):iU Et env H C (bS Et.body 0) ([(0,.val 31 x1),(3,.sref 31 3 []),(4,.val 3 x2)],[(3,⟨31,x3,(.sl .dp),false⟩)])=I4 H C x1 x2 x3:=by
 refine (LD H C x1 x2 x3).trans ?_
 unfold I4
 all_goals try dsimp only
 all_goals try simp only[bs]
 all_goals cases hc:((decide (x2.i < (x1.es.length:Int)))) with
 | true=>
  try simp only[bs]
  all_goals cases hc:((decide (0≤x2.i)&&decide (x2.i.toNat < x1.es.length))) with
  | true=>
   try simp only[bs]
   all_goals refine br fun r1=>?_
   all_goals try simp only[bs]
   all_goals cases hc:((decide (x3.es.length + [(T.st [((x1.nth x2.i.toNat).fld 0),(T.st [((rt r1 0).fld 0),((rt r1 0).fld 1),((rt r1 0).fld 2),((rt r1 0).fld 3)])])].length≤LIM))) with
   | true=>
    try simp only[bs]
    all_goals kernel_rfl
   | false=>
    try simp only[bs]
    all_goals kernel_rfl
  | false=>
   try simp only[bs]
   all_goals kernel_rfl
 | false=>
  try simp only[bs]
  all_goals kernel_rfl
theorem JA (x1 x2 x3:T) (h:Yields (fun k=>I4 (hl env k Et) (cl env k) x1 x2 x3) r):Yields (fun k=>Fr (hl env k Et) x1 x2 x3) r:=Yields.head (fun H C=>LV H C x1 x2 x3) h
noncomputable abbrev HW (H:HT) (C:aF) (a0 a1:T):R:=
 obind (C ER [a0,(a1.fld 0)]) fun r1=>
 bif (rt r1 0).b then
 obind (C F3 [a0,(a1.fld 0)]) fun r2=>
 bif ((IntKind.wrap .i64 ((BitVec.ofInt (IntKind.i64).bits (((rt r2 0).fld 0).i) &&& BitVec.ofInt (IntKind.i64).bits (8:Int)).toNat:Nat)) != (0:Int)) then
 obind (C El [a0,a1]) fun r3=>
 some [(rt r3 0)]
 else
 some [(T.bool false)]
 else
 some [(T.bool false)]
theorem Ic (a0 a1:T) (h:Yields (fun k=>HW (hl env k FJ) (cl env k) a0 a1) r):Yields (fun k=>cl env k EJ [a0,a1]) r:=Yields.ca (HW · · a0 a1) h (by kernel_rfl)
noncomputable def FF (H:HT) (x1 x2 x3:T):R:=H (bS Es.body 0) ([(0,.val 31 x1),(3,.pref 41 3 []),(5,.val 3 x2)],[(3,⟨41,x3,.fz,true⟩)])
noncomputable abbrev Jn (H:HT) (C:aF) (a0 a1:T):R:=
 FF H a0 (T.int (0:Int)) a1
theorem LR (H:HT) (C:aF) (a0 a1:T):bI Es env H C [a0,a1]=Jn H C a0 a1:=by kernel_rfl
theorem M0 (a0 a1:T) (h:Yields (fun k=>Jn (hl env k Es) (cl env k) a0 a1) r):Yields (fun k=>cl env k GG [a0,a1]) r:=Yields.call (fi:=Es) rfl rfl (fun H C=>LR H C a0 a1) h
noncomputable abbrev Hk (H:HT) (C:aF) (x1 x2 x3:T):R:=
 (fun s0=>
 (fun s1=>
 (fun s2=>
 (fun s3=>
 (fun s4=>
 (fun s5=>
 (fun s6=>
 (fun s7=>
 bif (decide (x2.i < s0)) then
 bif (decide (0≤x2.i)&&decide (x2.i.toNat < x1.es.length)) then
 obind (C F0 [(x1.nth x2.i.toNat),x3]) fun r1=>
 bif (rt r1 0).b then
 FF H x1 (T.int (IntKind.wrap .i64 (x2.i+(1:Int)))) x3
 else
 bif (decide (0≤(0:Int))&&s5) then
 bif s4 then
 bif s7 then
 bif s3 then
 bif s6 then
 obind (C Ex [(T.sl ((s1 ++ [x3])++s2))]) fun r2=>
 some [(rt r2 0)]
 else
 none
 else
 none
 else
 none
 else
 none
 else
 none
 else
 none
 else
 bif (decide (0≤(0:Int))&&s5) then
 bif s4 then
 bif s7 then
 bif s3 then
 bif s6 then
 obind (C Ex [(T.sl ((s1 ++ [x3])++s2))]) fun r1=>
 some [(rt r1 0)]
 else
 none
 else
 none
 else
 none
 else
 none
 else
 none) (decide (s1.length + [x3].length≤LIM))) (decide ((s1 ++ [x3]).length+s2.length≤LIM))) (decide ((0:Int)≤x2.i)&&(decide (x2.i≤s0)&&decide (s0≤s0)))) (decide (([]:List T).length+((x1.es.take x2.i.toNat).drop 0).length≤LIM))) (decide (0≤x2.i)&&(decide (x2.i≤s0)&&(decide (s0≤s0)&&decide (s0≤s0))))) ((x1.es.take x1.es.length).drop x2.i.toNat)) (([]:List T)++((x1.es.take x2.i.toNat).drop 0))) (x1.es.length:Int)
theorem KP (H:HT) (C:aF) (x1 x2 x3:T):iU Es env H C (bS Es.body 0) ([(0,.val 31 x1),(3,.pref 41 3 []),(5,.val 3 x2)],[(3,⟨41,x3,.fz,true⟩)]) =
 (fun s0=>
 (fun s1=>
 (fun s2=>
 (fun s3=>
 bif (((s0&&(s0&&true))&&(decide (0≤x2.i)&&decide (x2.i.toNat < x1.es.length)))||(!s0)) then
 bif (s0||(!s0)) then
 bif ((s0&&(s0&&true))||(!s0)) then
 obind ((bif s0 then C F0 [(x1.nth x2.i.toNat),x3] else some [])) fun r1=>
 bif (bif (decide (x2.i < s1)) then s0 else true) then
 bif (bif (decide (x2.i < s1)) then (rt r1 0) else (T.bool false)).b then
 FF H x1 (T.int (IntKind.wrap .i64 (x2.i+(1:Int)))) x3
 else
 bif (decide (0≤(0:Int))&&(decide ((0:Int)≤x2.i)&&(decide (x2.i≤s1)&&decide (s1≤s1)))) then
 bif (decide (([]:List T).length+((x1.es.take x2.i.toNat).drop 0).length≤LIM)) then
 bif (decide (s2.length + [x3].length≤LIM)) then
 bif (decide (0≤x2.i)&&(decide (x2.i≤s1)&&(decide (s1≤s1)&&decide (s1≤s1)))) then
 bif (decide ((s2 ++ [x3]).length+s3.length≤LIM)) then
 obind (C Ex [(T.sl ((s2 ++ [x3])++s3))]) fun r2=>
 some [(rt r2 0)]
 else
 none
 else
 none
 else
 none
 else
 none
 else
 none
 else
 none
 else
 none
 else
 none
 else
 none) ((x1.es.take x1.es.length).drop x2.i.toNat)) (([]:List T)++((x1.es.take x2.i.toNat).drop 0))) (x1.es.length:Int)) ((decide (x2.i < (x1.es.length:Int)))==true):=by kernel_rfl
theorem KX (H:HT) (C:aF) (x1 x2 x3:T):iU Es env H C (bS Es.body 0) ([(0,.val 31 x1),(3,.pref 41 3 []),(5,.val 3 x2)],[(3,⟨41,x3,.fz,true⟩)])=Hk H C x1 x2 x3:=by
 refine (KP H C x1 x2 x3).trans ?_
 unfold Hk
 all_goals try dsimp only
 all_goals try simp only[bs]
 all_goals cases hc:((decide (x2.i < (x1.es.length:Int)))) with
 | true=>
  try simp only[bs]
  all_goals cases hc:((decide (0≤x2.i)&&decide (x2.i.toNat < x1.es.length))) with
  | true=>
   try simp only[bs]
   all_goals refine br fun r1=>?_
   all_goals try simp only[bs]
   all_goals cases hc:((rt r1 0).b) with
   | true=>
    try simp only[bs]
    all_goals kernel_rfl
   | false=>
    try simp only[bs]
    all_goals cases hc:((decide (0≤(0:Int))&&(decide ((0:Int)≤x2.i)&&(decide (x2.i≤(x1.es.length:Int))&&decide ((x1.es.length:Int)≤(x1.es.length:Int)))))) with
    | true=>
     try simp only[bs]
     all_goals cases hc:((decide (([]:List T).length+((x1.es.take x2.i.toNat).drop 0).length≤LIM))) with
     | true=>
      try simp only[bs]
      all_goals cases hc:((decide ((([]:List T)++((x1.es.take x2.i.toNat).drop 0)).length + [x3].length≤LIM))) with
      | true=>
       try simp only[bs]
       all_goals cases hc:((decide (0≤x2.i)&&(decide (x2.i≤(x1.es.length:Int))&&(decide ((x1.es.length:Int)≤(x1.es.length:Int))&&decide ((x1.es.length:Int)≤(x1.es.length:Int)))))) with
       | true=>
        try simp only[bs]
        all_goals cases hc:((decide (((([]:List T)++((x1.es.take x2.i.toNat).drop 0)) ++ [x3]).length+((x1.es.take x1.es.length).drop x2.i.toNat).length≤LIM))) with
        | true=>
         try simp only[bs]
         all_goals refine br fun r2=>?_
         all_goals try simp only[bs]
         all_goals kernel_rfl
        | false=>
         try simp only[bs]
         all_goals kernel_rfl
       | false=>
        try simp only[bs]
        all_goals kernel_rfl
      | false=>
       try simp only[bs]
       all_goals kernel_rfl
     | false=>
      try simp only[bs]
      all_goals kernel_rfl
    | false=>
     try simp only[bs]
     all_goals kernel_rfl
  | false=>
   try simp only[bs]
   all_goals kernel_rfl
 | false=>
  try simp only[bs]
  all_goals cases hc:((decide (0≤(0:Int))&&(decide ((0:Int)≤x2.i)&&(decide (x2.i≤(x1.es.length:Int))&&decide ((x1.es.length:Int)≤(x1.es.length:Int)))))) with
  | true=>
   try simp only[bs]
   all_goals cases hc:((decide (([]:List T).length+((x1.es.take x2.i.toNat).drop 0).length≤LIM))) with
   | true=>
    try simp only[bs]
    all_goals cases hc:((decide ((([]:List T)++((x1.es.take x2.i.toNat).drop 0)).length + [x3].length≤LIM))) with
    | true=>
     try simp only[bs]
     all_goals cases hc:((decide (0≤x2.i)&&(decide (x2.i≤(x1.es.length:Int))&&(decide ((x1.es.length:Int)≤(x1.es.length:Int))&&decide ((x1.es.length:Int)≤(x1.es.length:Int)))))) with
     | true=>
      try simp only[bs]
      all_goals cases hc:((decide (((([]:List T)++((x1.es.take x2.i.toNat).drop 0)) ++ [x3]).length+((x1.es.take x1.es.length).drop x2.i.toNat).length≤LIM))) with
      | true=>
       try simp only[bs]
       all_goals refine br fun r1=>?_
       all_goals try simp only[bs]
       all_goals kernel_rfl
      | false=>
       try simp only[bs]
       all_goals kernel_rfl
     | false=>
      try simp only[bs]
      all_goals kernel_rfl
    | false=>
     try simp only[bs]
     all_goals kernel_rfl
   | false=>
    try simp only[bs]
    all_goals kernel_rfl
  | false=>
   try simp only[bs]
   all_goals kernel_rfl
theorem IV (x1 x2 x3:T) (h:Yields (fun k=>Hk (hl env k Es) (cl env k) x1 x2 x3) r):Yields (fun k=>FF (hl env k Es) x1 x2 x3) r:=Yields.head (fun H C=>KX H C x1 x2 x3) h
noncomputable abbrev IJ (H:HT) (C:aF) (a0 a1:T):R:=
 (fun s0=>
 (fun s1=>
 (fun s2=>
 (fun s3=>
 obind (C aG [a0,(T.int (9:Int))]) fun r1=>
 bif (decide ((rt r1 0).i > (0:Int))) then
 some [a1,(rt (r1.drop 1) 0)]
 else
 obind (C aG [(rt (r1.drop 1) 0),(T.int (4:Int))]) fun r2=>
 (fun s4=>
 bif ((rt r2 0).i==(0:Int)) then
 obind (C dH [s4,(T.sl [(T.int (-1:Int)),(T.int (2:Int)),(T.int (4:Int)),(T.int (1000001:Int)),(T.int (5:Int))])]) fun r3=>
 some [(T.st (a1.fs.set 1 (rt r3 0))),(rt (r3.drop 1) 0)]
 else
 bif ((rt r2 0).i==(1:Int)) then
 obind (C cB [s4,(T.sl [(T.str k_n),(T.str k_b),(T.str k_o),(T.str k_S00),(T.str k_S11),(T.str sZ),(T.str (⟨#[]⟩:ByteArray))])]) fun r4=>
 some [(T.st (a1.fs.set 0 (rt r4 0))),(rt (r4.drop 1) 0)]
 else
 bif ((rt r2 0).i==(2:Int)) then
 bif (decide (s2 > (0:Int))) then
 bif (decide (0≤(1:Int))&&(decide ((1:Int)≤s2)&&(decide (s2≤s2)&&decide (s2≤s2)))) then
 some [(T.st [(s1.fld 0),(s1.fld 1),(s1.fld 2),(s1.fld 3)]),s4]
 else
 none
 else
 some [s3,s4]
 else
 some [s3,s4]) (rt (r2.drop 1) 0)) (T.st [(s0.fld 0),(s0.fld 1),(s0.fld 2),(s0.fld 3)])) (((a1.fld 2).es).length:Int)) (T.st (a1.fs.set 2 (T.sl ((((a1.fld 2).es).take (((a1.fld 2).es).length)).drop 1))))) (T.st (a1.fs.set 3 (T.sl [(T.int (0:Int))])))
theorem N4 (a0 a1:T) (h:Yields (fun k=>IJ (hl env k Ik) (cl env k) a0 a1) r):Yields (fun k=>cl env k GB [a0,a1]) r:=Yields.ca (IJ · · a0 a1) h (by kernel_rfl)
noncomputable def IR (H:HT) (x1 x2 x3 x4 x5 x6 x7:T):R:=H (bS Ey.body 0) ([(0,.pref 87 100000 []),(1,.val 30 x1),(6,.pref 39 6 []),(7,.val 3 x2),(8,.val 3 x3),(10,.pref 39 10 []),(11,.val 3 x4)],[(100000,⟨87,x5,(.st [.fo,.dp]),true⟩),(6,⟨39,x6,.dp,true⟩),(10,⟨39,x7,(.st [.dp,.dp,.dp,.dp]),true⟩)])
noncomputable def Hn (H:HT) (x1 x2 x3 x4 x5 x6 x7:T):R:=H (bS Ey.body 0) ([(0,.pref 87 100000 []),(1,.val 30 x1),(6,.pref 39 6 []),(7,.val 3 x2),(8,.val 3 x3),(10,.pref 39 10 []),(11,.val 3 x4)],[(100000,⟨87,x5,(.st [.fo,.dp]),true⟩),(6,⟨39,x6,.dp,true⟩),(10,⟨39,x7,(.st [.dp,.dp,(.sl .dp),.dp]),true⟩)])
noncomputable abbrev GJ (H:HT) (C:aF) (a0 a1 a2:T):R:=
 (fun s0=>
 bif (a2.s.toList==k_b.toList) then
 obind (C aG [a0,(T.int (2:Int))]) fun r1=>
 some [(T.st [(T.str k_b),(rt r1 0),(T.sl []),(T.sl [])]),(rt (r1.drop 1) 0)]
 else
 bif (a2.s.toList==k_o.toList) then
 obind (C aG [a0,(T.int (4:Int))]) fun r2=>
 some [(T.st [(T.str k_o),(rt r2 0),(T.sl []),(T.sl [])]),(rt (r2.drop 1) 0)]
 else
 obind (C cU [a2]) fun r3=>
 bif (!(rt r3 2).b) then
 obind (C dH [a0,s0]) fun r4=>
 some [(T.st [(T.str k_n),(rt r4 0),(T.sl []),(T.sl [])]),(rt (r4.drop 1) 0)]
 else
 obind (C mg [a1,(rt r3 0),(rt r3 1)]) fun r5=>
 bif (!(rt r5 0).b) then
 obind (C dH [a0,s0]) fun r6=>
 some [(T.st [(T.str k_n),(rt r6 0),(T.sl []),(T.sl [])]),(rt (r6.drop 1) 0)]
 else
 IR H a1 (rt r3 0) (rt r3 1) (T.int (0:Int)) a0 (T.st [(T.str (⟨#[]⟩:ByteArray)),(T.int (0:Int)),(T.sl []),(T.sl [])]) (T.st [a2,(T.int (0:Int)),(T.sl []),(T.sl [])])) (T.sl [(T.int (0:Int)),(T.int (1:Int)),(T.int (2:Int)),(T.int (3:Int)),(T.int (7:Int)),(T.int (10:Int)),(T.int (100:Int)),(T.int (999999:Int)),(T.int (1000000:Int))])
theorem Jz (a0 a1 a2:T) (h:Yields (fun k=>GJ (hl env k Ey) (cl env k) a0 a1 a2) r):Yields (fun k=>cl env k EA [a0,a1,a2]) r:=Yields.ca (GJ · · a0 a1 a2) h (by kernel_rfl)
noncomputable abbrev IQ (H:HT) (C:aF) (x1 x2 x3 x4 x5 x6 x7:T):R:=
 (fun s0=>
 (fun s1=>
 (fun s2=>
 bif s2 then
 bif s1 then
 bif (decide (x4.i < ((s0.es).length:Int))) then
 bif s2 then
 bif s1 then
 bif (decide (0≤x4.i)&&decide (x4.i.toNat < (s0.es).length)) then
 obind (C EA [x5,x1,(s0.nth x4.i.toNat)]) fun r1=>
 (fun s3=>
 bif (decide (((x7.fld 2).es).length + [s3].length≤LIM)) then
 Hn H x1 x2 x3 (T.int (IntKind.wrap .i64 (x4.i+(1:Int)))) (rt (r1.drop 1) 0) x6 (T.st (x7.fs.set 2 (T.sl ((x7.fld 2).es ++ [s3]))))
 else
 none) (T.st [((rt r1 0).fld 0),((rt r1 0).fld 1),((rt r1 0).fld 2),((rt r1 0).fld 3)])
 else
 none
 else
 none
 else
 none
 else
 some [(T.st [(x7.fld 0),(x7.fld 1),(x7.fld 2),(x7.fld 3)]),x5]
 else
 none
 else
 none) (decide (0≤x2.i)&&decide (x2.i.toNat < x1.es.length))) (decide (0≤x3.i)&&decide (x3.i.toNat < ((x1.nth x2.i.toNat).es).length))) (((x1.nth x2.i.toNat).nth x3.i.toNat).fld 1)
theorem L0 (x1 x2 x3 x4 x5 x6 x7:T) (h:Yields (fun k=>IQ (hl env k Ey) (cl env k) x1 x2 x3 x4 x5 x6 x7) r):Yields (fun k=>IR (hl env k Ey) x1 x2 x3 x4 x5 x6 x7) r:=Yields.hd (IQ · · x1 x2 x3 x4 x5 x6 x7) h (by kernel_rfl)
noncomputable abbrev Fy (H:HT) (C:aF) (x1 x2 x3 x4 x5 x6 x7:T):R:=IQ H C x1 x2 x3 x4 x5 x6 x7
theorem L1 (x1 x2 x3 x4 x5 x6 x7:T) (h:Yields (fun k=>Fy (hl env k Ey) (cl env k) x1 x2 x3 x4 x5 x6 x7) r):Yields (fun k=>Hn (hl env k Ey) x1 x2 x3 x4 x5 x6 x7) r:=Yields.hd (Fy · · x1 x2 x3 x4 x5 x6 x7) h (by kernel_rfl)
noncomputable abbrev qS (H:HT) (C:aF) (a0 a1 a2:T):R:=
 bif (decide (a0.i≥a1.i)) then
 some [(T.bool (decide (a0.i≤a2.i)))]
 else
 some [(T.bool false)]
theorem Ak (a0 a1 a2:T) (h:Yields (fun k=>qS (hl env k jO) (cl env k) a0 a1 a2) r):Yields (fun k=>cl env k dZ [a0,a1,a2]) r:=Yields.ca (qS · · a0 a1 a2) h (by kernel_rfl)
noncomputable abbrev IK (H:HT) (C:aF) (a0 a1:T):R:=
 obind (C cU [(a1.fld 0)]) fun r1=>
 bif (rt r1 2).b then
 obind (C Fk [a0,a1]) fun r2=>
 bif (rt r2 0).b then
 obind (C eD [a0,(a1.fld 0)]) fun r3=>
 obind (C bH [(rt r3 0),(T.int (8:Int))]) fun r4=>
 some [(rt r4 0)]
 else
 some [(T.bool false)]
 else
 some [(T.bool false)]
theorem Hy (a0 a1:T) (h:Yields (fun k=>IK (hl env k Gq) (cl env k) a0 a1) r):Yields (fun k=>cl env k EG [a0,a1]) r:=Yields.ca (IK · · a0 a1) h (by kernel_rfl)
noncomputable def JN (H:HT) (x1 x2 x3 x4 x5 x6:T):R:=H (bS E6.body 0) ([(0,.val 31 x1),(1,.val 3 x2),(5,.pref 39 5 []),(7,.sref 31 7 []),(8,.val 4 x3),(9,.val 3 x4)],[(5,⟨39,x5,.fz,true⟩),(7,⟨31,x6,(.sl .dp),false⟩)])
noncomputable def E9 (H:HT) (x1 x2 x3 x4 x5 x6:T):R:=H (bS E6.body 0) ([(0,.val 31 x1),(1,.val 3 x2),(5,.pref 39 5 []),(7,.sref 31 7 []),(8,.val 4 x3),(9,.val 3 x4)],[(5,⟨39,x5,.fz,true⟩),(7,⟨31,x6,(.sl .fz),false⟩)])
noncomputable abbrev Kf (H:HT) (C:aF) (a0 a1 a2:T):R:=
 JN H a0 a1 (T.bool false) (T.int (0:Int)) a2 (T.sl [])
theorem Nf (H:HT) (C:aF) (a0 a1 a2:T):bI E6 env H C [a0,a1,a2]=Kf H C a0 a1 a2:=by kernel_rfl
theorem KE (a0 a1 a2:T) (h:Yields (fun k=>Kf (hl env k E6) (cl env k) a0 a1 a2) r):Yields (fun k=>cl env k Gg [a0,a1,a2]) r:=Yields.call (fi:=E6) rfl rfl (fun H C=>Nf H C a0 a1 a2) h
noncomputable abbrev Ij (H:HT) (C:aF) (x1 x2 x3 x4 x5 x6:T):R:=
 (fun s0=>
 (fun s1=>
 (fun s2=>
 (fun s3=>
 (fun s4=>
 bif (decide (x4.i < (x1.es.length:Int))) then
 bif (!x3.b) then
 bif s3 then
 bif (decide ((s0.fld 0).i > x2.i)) then
 obind (C E7 [x5]) fun r1=>
 (fun s5=>
 bif (decide (x6.es.length + [s5].length≤LIM)) then
 bif (decide ((x6.es ++ [s5]).length + [s0].length≤LIM)) then
 E9 H x1 x2 (T.bool true) s1 x5 (T.sl ((x6.es ++ [s5]) ++ [s0]))
 else
 none
 else
 none) (T.st [x2,(T.st [((rt r1 0).fld 0),((rt r1 0).fld 1),((rt r1 0).fld 2),((rt r1 0).fld 3)])])
 else
 bif ((s0.fld 0).i==x2.i) then
 bif (!(Op.bytesLess (((s0.fld 1).fld 0).s).toList ((x5.fld 0).s).toList||(((s0.fld 1).fld 0).s).toList==((x5.fld 0).s).toList)) then
 obind (C E7 [x5]) fun r1=>
 (fun s6=>
 bif (decide (x6.es.length + [s6].length≤LIM)) then
 bif (decide ((x6.es ++ [s6]).length + [s0].length≤LIM)) then
 E9 H x1 x2 (T.bool true) s1 x5 (T.sl ((x6.es ++ [s6]) ++ [s0]))
 else
 none
 else
 none) (T.st [x2,(T.st [((rt r1 0).fld 0),((rt r1 0).fld 1),((rt r1 0).fld 2),((rt r1 0).fld 3)])])
 else
 bif s2 then
 E9 H x1 x2 x3 s1 x5 s4
 else
 none
 else
 bif s2 then
 E9 H x1 x2 x3 s1 x5 s4
 else
 none
 else
 none
 else
 bif s3 then
 bif s2 then
 E9 H x1 x2 x3 s1 x5 s4
 else
 none
 else
 none
 else
 bif (!x3.b) then
 obind (C E7 [x5]) fun r1=>
 (fun s7=>
 bif (decide (x6.es.length + [s7].length≤LIM)) then
 some [(T.sl (x6.es ++ [s7]))]
 else
 none) (T.st [x2,(T.st [((rt r1 0).fld 0),((rt r1 0).fld 1),((rt r1 0).fld 2),((rt r1 0).fld 3)])])
 else
 some [x6]) (T.sl (x6.es ++ [s0]))) (decide (0≤x4.i)&&decide (x4.i.toNat < x1.es.length))) (decide (x6.es.length + [s0].length≤LIM))) (T.int (IntKind.wrap .i64 (x4.i+(1:Int))))) (x1.nth x4.i.toNat)
theorem M6 (H:HT) (C:aF) (x1 x2 x3 x4 x5 x6:T):iU E6 env H C (bS E6.body 0) ([(0,.val 31 x1),(1,.val 3 x2),(5,.pref 39 5 []),(7,.sref 31 7 []),(8,.val 4 x3),(9,.val 3 x4)],[(5,⟨39,x5,.fz,true⟩),(7,⟨31,x6,(.sl .dp),false⟩)]) =
 (fun s0=>
 (fun s1=>
 (fun s2=>
 (fun s3=>
 (fun s4=>
 (fun s5=>
 bif (decide (x4.i < (x1.es.length:Int))) then
 bif (((s3&&(s3&&true))&&s2)||(!s3)) then
 bif (s3||(!s3)) then
 bif (s3||(!s3)) then
 bif (((s3&&s3)&&true)||(!s3)) then
 bif (s3||(!s3)) then
 bif (((s0&&(s0&&true))&&s2)||(!s0)) then
 bif (s0||(!s0)) then
 bif (s0||(!s0)) then
 bif (((s0&&s0)&&true)||(!s0)) then
 bif (s0||(!s0)) then
 bif (((s1&&(s1&&true))&&s2)||(!s1)) then
 bif (s1||(!s1)) then
 bif (s1||(!s1)) then
 bif (s1||(!s1)) then
 bif (s1||(!s1)) then
 bif (((s1&&s1)&&true)||(!s1)) then
 bif ((s0&&(bif ((s4.fld 0).i==x2.i) then s1 else true))||(!s0)) then
 bif ((s3&&(bif (decide ((s4.fld 0).i > x2.i)) then true else s0))||(!s3)) then
 bif (bif (!x3.b) then s3 else true) then
 bif (bif (!x3.b) then (bif (decide ((s4.fld 0).i > x2.i)) then (T.bool true) else (bif ((s4.fld 0).i==x2.i) then (T.bool (!(Op.bytesLess (((s4.fld 1).fld 0).s).toList ((x5.fld 0).s).toList||(((s4.fld 1).fld 0).s).toList==((x5.fld 0).s).toList))) else (T.bool false))) else (T.bool false)).b then
 obind (C E7 [x5]) fun r1=>
 (fun s6=>
 bif (decide (x6.es.length + [s6].length≤LIM)) then
 bif s2 then
 bif (decide ((x6.es ++ [s6]).length + [s4].length≤LIM)) then
 E9 H x1 x2 (T.bool true) s5 x5 (T.sl ((x6.es ++ [s6]) ++ [s4]))
 else
 none
 else
 none
 else
 none) (T.st [x2,(T.st [((rt r1 0).fld 0),((rt r1 0).fld 1),((rt r1 0).fld 2),((rt r1 0).fld 3)])])
 else
 bif s2 then
 bif (decide (x6.es.length + [s4].length≤LIM)) then
 E9 H x1 x2 x3 s5 x5 (T.sl (x6.es ++ [s4]))
 else
 none
 else
 none
 else
 none
 else
 none
 else
 none
 else
 none
 else
 none
 else
 none
 else
 none
 else
 none
 else
 none
 else
 none
 else
 none
 else
 none
 else
 none
 else
 none
 else
 none
 else
 none
 else
 none
 else
 none
 else
 none
 else
 bif (!x3.b) then
 obind (C E7 [x5]) fun r2=>
 (fun s7=>
 bif (decide (x6.es.length + [s7].length≤LIM)) then
 some [(T.sl (x6.es ++ [s7]))]
 else
 none) (T.st [x2,(T.st [((rt r2 0).fld 0),((rt r2 0).fld 1),((rt r2 0).fld 2),((rt r2 0).fld 3)])])
 else
 some [x6]) (T.int (IntKind.wrap .i64 (x4.i+(1:Int))))) (x1.nth x4.i.toNat)) ((!x3.b)==true)) (decide (0≤x4.i)&&decide (x4.i.toNat < x1.es.length))) (s0&&((((x1.nth x4.i.toNat).fld 0).i==x2.i)==true))) (((!x3.b)==true)&&((decide (((x1.nth x4.i.toNat).fld 0).i > x2.i))==false)):=by kernel_rfl
theorem Mj (H:HT) (C:aF) (x1 x2 x3 x4 x5 x6:T):iU E6 env H C (bS E6.body 0) ([(0,.val 31 x1),(1,.val 3 x2),(5,.pref 39 5 []),(7,.sref 31 7 []),(8,.val 4 x3),(9,.val 3 x4)],[(5,⟨39,x5,.fz,true⟩),(7,⟨31,x6,(.sl .dp),false⟩)])=Ij H C x1 x2 x3 x4 x5 x6:=by
 refine (M6 H C x1 x2 x3 x4 x5 x6).trans ?_
 unfold Ij
 all_goals try dsimp only
 all_goals try simp only[bs]
 all_goals cases hc:((decide (x4.i < (x1.es.length:Int)))) with
 | true=>
  try simp only[bs]
  all_goals cases hc:((!x3.b)) with
  | true=>
   try simp only[bs]
   all_goals cases hc:((decide (0≤x4.i)&&decide (x4.i.toNat < x1.es.length))) with
   | true=>
    try simp only[bs]
    all_goals cases hc:((decide (((x1.nth x4.i.toNat).fld 0).i > x2.i))) with
    | true=>
     try simp only[bs]
     all_goals cases hc:((((x1.nth x4.i.toNat).fld 0).i==x2.i)) with
     | true=>
      try simp only[bs]
      all_goals refine br fun r1=>?_
      all_goals try simp only[bs]
      all_goals cases hc:((decide (x6.es.length + [(T.st [x2,(T.st [((rt r1 0).fld 0),((rt r1 0).fld 1),((rt r1 0).fld 2),((rt r1 0).fld 3)])])].length≤LIM))) with
      | true=>
       try simp only[bs]
       all_goals cases hc:((decide ((x6.es ++ [(T.st [x2,(T.st [((rt r1 0).fld 0),((rt r1 0).fld 1),((rt r1 0).fld 2),((rt r1 0).fld 3)])])]).length + [(x1.nth x4.i.toNat)].length≤LIM))) with
       | true=>
        try simp only[bs]
        all_goals kernel_rfl
       | false=>
        try simp only[bs]
        all_goals kernel_rfl
      | false=>
       try simp only[bs]
       all_goals kernel_rfl
     | false=>
      try simp only[bs]
      all_goals refine br fun r1=>?_
      all_goals try simp only[bs]
      all_goals cases hc:((decide (x6.es.length + [(T.st [x2,(T.st [((rt r1 0).fld 0),((rt r1 0).fld 1),((rt r1 0).fld 2),((rt r1 0).fld 3)])])].length≤LIM))) with
      | true=>
       try simp only[bs]
       all_goals cases hc:((decide ((x6.es ++ [(T.st [x2,(T.st [((rt r1 0).fld 0),((rt r1 0).fld 1),((rt r1 0).fld 2),((rt r1 0).fld 3)])])]).length + [(x1.nth x4.i.toNat)].length≤LIM))) with
       | true=>
        try simp only[bs]
        all_goals kernel_rfl
       | false=>
        try simp only[bs]
        all_goals kernel_rfl
      | false=>
       try simp only[bs]
       all_goals kernel_rfl
    | false=>
     try simp only[bs]
     all_goals cases hc:((((x1.nth x4.i.toNat).fld 0).i==x2.i)) with
     | true=>
      try simp only[bs]
      all_goals cases hc:((!(Op.bytesLess ((((x1.nth x4.i.toNat).fld 1).fld 0).s).toList ((x5.fld 0).s).toList||((((x1.nth x4.i.toNat).fld 1).fld 0).s).toList==((x5.fld 0).s).toList))) with
      | true=>
       try simp only[bs]
       all_goals refine br fun r1=>?_
       all_goals try simp only[bs]
       all_goals cases hc:((decide (x6.es.length + [(T.st [x2,(T.st [((rt r1 0).fld 0),((rt r1 0).fld 1),((rt r1 0).fld 2),((rt r1 0).fld 3)])])].length≤LIM))) with
       | true=>
        try simp only[bs]
        all_goals cases hc:((decide ((x6.es ++ [(T.st [x2,(T.st [((rt r1 0).fld 0),((rt r1 0).fld 1),((rt r1 0).fld 2),((rt r1 0).fld 3)])])]).length + [(x1.nth x4.i.toNat)].length≤LIM))) with
        | true=>
         try simp only[bs]
         all_goals kernel_rfl
        | false=>
         try simp only[bs]
         all_goals kernel_rfl
       | false=>
        try simp only[bs]
        all_goals kernel_rfl
      | false=>
       try simp only[bs]
       all_goals cases hc:((decide (x6.es.length + [(x1.nth x4.i.toNat)].length≤LIM))) with
       | true=>
        try simp only[bs]
        all_goals kernel_rfl
       | false=>
        try simp only[bs]
        all_goals kernel_rfl
     | false=>
      try simp only[bs]
      all_goals cases hc:((decide (x6.es.length + [(x1.nth x4.i.toNat)].length≤LIM))) with
      | true=>
       try simp only[bs]
       all_goals kernel_rfl
      | false=>
       try simp only[bs]
       all_goals kernel_rfl
   | false=>
    try simp only[bs]
    all_goals kernel_rfl
  | false=>
   try simp only[bs]
   all_goals cases hc:((decide (((x1.nth x4.i.toNat).fld 0).i > x2.i))) with
   | true=>
    try simp only[bs]
    all_goals cases hc:((((x1.nth x4.i.toNat).fld 0).i==x2.i)) with
    | true=>
     try simp only[bs]
     all_goals cases hc:((decide (0≤x4.i)&&decide (x4.i.toNat < x1.es.length))) with
     | true=>
      try simp only[bs]
      all_goals cases hc:((decide (x6.es.length + [(x1.nth x4.i.toNat)].length≤LIM))) with
      | true=>
       try simp only[bs]
       all_goals kernel_rfl
      | false=>
       try simp only[bs]
       all_goals kernel_rfl
     | false=>
      try simp only[bs]
      all_goals kernel_rfl
    | false=>
     try simp only[bs]
     all_goals cases hc:((decide (0≤x4.i)&&decide (x4.i.toNat < x1.es.length))) with
     | true=>
      try simp only[bs]
      all_goals cases hc:((decide (x6.es.length + [(x1.nth x4.i.toNat)].length≤LIM))) with
      | true=>
       try simp only[bs]
       all_goals kernel_rfl
      | false=>
       try simp only[bs]
       all_goals kernel_rfl
     | false=>
      try simp only[bs]
      all_goals kernel_rfl
   | false=>
    try simp only[bs]
    all_goals cases hc:((((x1.nth x4.i.toNat).fld 0).i==x2.i)) with
    | true=>
     try simp only[bs]
     all_goals cases hc:((decide (0≤x4.i)&&decide (x4.i.toNat < x1.es.length))) with
     | true=>
      try simp only[bs]
      all_goals cases hc:((decide (x6.es.length + [(x1.nth x4.i.toNat)].length≤LIM))) with
      | true=>
       try simp only[bs]
       all_goals kernel_rfl
      | false=>
       try simp only[bs]
       all_goals kernel_rfl
     | false=>
      try simp only[bs]
      all_goals kernel_rfl
    | false=>
     try simp only[bs]
     all_goals cases hc:((decide (0≤x4.i)&&decide (x4.i.toNat < x1.es.length))) with
     | true=>
      try simp only[bs]
      all_goals cases hc:((decide (x6.es.length + [(x1.nth x4.i.toNat)].length≤LIM))) with
      | true=>
       try simp only[bs]
       all_goals kernel_rfl
      | false=>
       try simp only[bs]
       all_goals kernel_rfl
     | false=>
      try simp only[bs]
      all_goals kernel_rfl
 | false=>
  try simp only[bs]
  all_goals cases hc:((!x3.b)) with
  | true=>
   try simp only[bs]
   all_goals refine br fun r1=>?_
   all_goals try simp only[bs]
   all_goals cases hc:((decide (x6.es.length + [(T.st [x2,(T.st [((rt r1 0).fld 0),((rt r1 0).fld 1),((rt r1 0).fld 2),((rt r1 0).fld 3)])])].length≤LIM))) with
   | true=>
    try simp only[bs]
    all_goals kernel_rfl
   | false=>
    try simp only[bs]
    all_goals kernel_rfl
  | false=>
   try simp only[bs]
   all_goals kernel_rfl
theorem JU (x1 x2 x3 x4 x5 x6:T) (h:Yields (fun k=>Ij (hl env k E6) (cl env k) x1 x2 x3 x4 x5 x6) r):Yields (fun k=>JN (hl env k E6) x1 x2 x3 x4 x5 x6) r:=Yields.head (fun H C=>Mj H C x1 x2 x3 x4 x5 x6) h
noncomputable abbrev Ez (H:HT) (C:aF) (x1 x2 x3 x4 x5 x6:T):R:=Ij H C x1 x2 x3 x4 x5 x6
theorem Mk (H:HT) (C:aF) (x1 x2 x3 x4 x5 x6:T):iU E6 env H C (bS E6.body 0) ([(0,.val 31 x1),(1,.val 3 x2),(5,.pref 39 5 []),(7,.sref 31 7 []),(8,.val 4 x3),(9,.val 3 x4)],[(5,⟨39,x5,.fz,true⟩),(7,⟨31,x6,(.sl .fz),false⟩)])=Ez H C x1 x2 x3 x4 x5 x6:=(show iU E6 env H C (bS E6.body 0) ([(0,.val 31 x1),(1,.val 3 x2),(5,.pref 39 5 []),(7,.sref 31 7 []),(8,.val 4 x3),(9,.val 3 x4)],[(5,⟨39,x5,.fz,true⟩),(7,⟨31,x6,(.sl .fz),false⟩)])=iU E6 env H C (bS E6.body 0) ([(0,.val 31 x1),(1,.val 3 x2),(5,.pref 39 5 []),(7,.sref 31 7 []),(8,.val 4 x3),(9,.val 3 x4)],[(5,⟨39,x5,.fz,true⟩),(7,⟨31,x6,(.sl .dp),false⟩)]) from by kernel_rfl).trans (Mj H C x1 x2 x3 x4 x5 x6)
theorem Gs (x1 x2 x3 x4 x5 x6:T) (h:Yields (fun k=>Ez (hl env k E6) (cl env k) x1 x2 x3 x4 x5 x6) r):Yields (fun k=>E9 (hl env k E6) x1 x2 x3 x4 x5 x6) r:=Yields.head (fun H C=>Mk H C x1 x2 x3 x4 x5 x6) h
noncomputable abbrev JH (H:HT) (C:aF) (a0:T):R:=
 obind (C HQ [a0]) fun r1=>
 some [(T.bool ((rt r1 0).i==(-1:Int)))]
theorem JQ (a0:T) (h:Yields (fun k=>JH (hl env k GK) (cl env k) a0) r):Yields (fun k=>cl env k Gd [a0]) r:=Yields.ca (JH · · a0) h (by kernel_rfl)
noncomputable abbrev GY (H:HT) (C:aF) (a0 a1:T):R:=
 bif (decide ((a0.fld 0).i < (a1.fld 0).i)) then
 some [(T.bool true)]
 else
 bif ((a0.fld 0).i==(a1.fld 0).i) then
 some [(T.bool (Op.bytesLess (((a0.fld 1).fld 0).s).toList (((a1.fld 1).fld 0).s).toList))]
 else
 some [(T.bool false)]
theorem KA (a0 a1:T) (h:Yields (fun k=>GY (hl env k Fe) (cl env k) a0 a1) r):Yields (fun k=>cl env k F0 [a0,a1]) r:=Yields.ca (GY · · a0 a1) h (by kernel_rfl)
noncomputable abbrev oS (H:HT) (C:aF) (a0 a1:T):R:=
 obind (C aG [a0,(T.int (a1.es.length:Int))]) fun r1=>
 bif (decide (0≤(rt r1 0).i)&&decide (((rt r1 0).i).toNat < a1.es.length)) then
 some [(a1.nth (((rt r1 0).i).toNat)),(rt (r1.drop 1) 0)]
 else
 none
theorem yz (a0 a1:T) (h:Yields (fun k=>oS (hl env k nK) (cl env k) a0 a1) r):Yields (fun k=>cl env k dH [a0,a1]) r:=Yields.ca (oS · · a0 a1) h (by kernel_rfl)
noncomputable abbrev hY (H:HT) (C:aF) (a0 a1 a2:T):R:=
 obind (C dZ [a1,(T.int (0:Int)),(T.int (IntKind.wrap .i64 ((a0.es.length:Int) - (1:Int))))]) fun r1=>
 bif (rt r1 0).b then
 bif (decide (0≤a1.i)&&decide (a1.i.toNat < a0.es.length)) then
 obind (C dZ [a2,(T.int (0:Int)),(T.int (IntKind.wrap .i64 (((((a0.nth a1.i.toNat).fld 1).es).length:Int) - (1:Int))))]) fun r2=>
 some [(rt r2 0)]
 else
 none
 else
 some [(T.bool false)]
theorem qi (a0 a1 a2:T) (h:Yields (fun k=>hY (hl env k j9) (cl env k) a0 a1 a2) r):Yields (fun k=>cl env k eb [a0,a1,a2]) r:=Yields.ca (hY · · a0 a1 a2) h (by kernel_rfl)
noncomputable abbrev IF (H:HT) (C:aF) (a0:T):R:=
 (fun s0=>
 (fun s1=>
 (fun s2=>
 (fun s3=>
 bif (!(a0.s.toList==s3.toList)) then
 bif (decide (0≤(0:Int))&&decide (0 < a0.s.size)) then
 bif ((a0.s.data.getD 0 0).toNat==(38:Int)) then
 bif (decide (0≤(0:Int))&&s1) then
 bif (decide (0≤(1:Int))&&s2) then
 some [(T.str (a0.s.extract 0 1)),(T.str (a0.s.extract 1 a0.s.size))]
 else
 none
 else
 none
 else
 bif (decide (0≤(0:Int))&&decide (0 < a0.s.size)) then
 bif ((a0.s.data.getD 0 0).toNat==(33:Int)) then
 bif (decide (0≤(0:Int))&&s1) then
 bif (decide (0≤(1:Int))&&s2) then
 some [(T.str (a0.s.extract 0 1)),(T.str (a0.s.extract 1 a0.s.size))]
 else
 none
 else
 none
 else
 some [(T.str s3),a0]
 else
 none
 else
 none
 else
 some [(T.str s3),a0]) (⟨#[]⟩:ByteArray)) (decide ((1:Int)≤s0)&&(decide (s0≤s0)&&decide (s0≤s0)))) (decide ((0:Int)≤(1:Int))&&(decide ((1:Int)≤s0)&&decide (s0≤s0)))) (a0.s.size:Int)
theorem N0 (a0:T) (h:Yields (fun k=>IF (hl env k Gl) (cl env k) a0) r):Yields (fun k=>cl env k IB [a0]) r:=Yields.ca (IF · · a0) h (by kernel_rfl)
noncomputable abbrev pS (H:HT) (C:aF) (a0:T):R:=
 bif (decide ((a0.s.size:Int) > (0:Int))) then
 bif (decide (0≤(0:Int))&&decide (0 < a0.s.size)) then
 bif ((a0.s.data.getD 0 0).toNat==(38:Int)) then
 some [(T.bool true)]
 else
 bif (decide (0≤(0:Int))&&decide (0 < a0.s.size)) then
 some [(T.bool ((a0.s.data.getD 0 0).toNat==(33:Int)))]
 else
 none
 else
 none
 else
 some [(T.bool false)]
theorem tp (a0:T) (h:Yields (fun k=>pS (hl env k j8) (cl env k) a0) r):Yields (fun k=>cl env k bO [a0]) r:=Yields.ca (pS · · a0) h (by kernel_rfl)
noncomputable def lj (H:HT) (x1 x2 x3:T):R:=H (bS fQ.body 0) ([(0,.val 37 x1),(1,.val 3 x2),(5,.val 3 x3)],[])
noncomputable abbrev qR (H:HT) (C:aF) (a0 a1:T):R:=
 lj H a0 a1 (T.int (0:Int))
theorem Aj (a0 a1:T) (h:Yields (fun k=>qR (hl env k fQ) (cl env k) a0 a1) r):Yields (fun k=>cl env k dY [a0,a1]) r:=Yields.ca (qR · · a0 a1) h (by kernel_rfl)
noncomputable abbrev kY (H:HT) (C:aF) (x1 x2 x3:T):R:=
 bif (decide (x3.i < (x1.es.length:Int))) then
 bif (decide (0≤x3.i)&&decide (x3.i.toNat < x1.es.length)) then
 bif ((x1.nth x3.i.toNat).i==x2.i) then
 some [(T.bool true)]
 else
 lj H x1 x2 (T.int (IntKind.wrap .i64 (x3.i+(1:Int))))
 else
 none
 else
 some [(T.bool false)]
theorem sf (x1 x2 x3:T) (h:Yields (fun k=>kY (hl env k fQ) (cl env k) x1 x2 x3) r):Yields (fun k=>lj (hl env k fQ) x1 x2 x3) r:=Yields.hd (kY · · x1 x2 x3) h (by kernel_rfl)
noncomputable abbrev ny (H:HT) (C:aF) (a0:T):R:=
 obind (C p9 [a0]) fun r1=>
 some [(T.st [((rt r1 0).fld 0),((rt r1 0).fld 1),((rt r1 0).fld 2)])]
theorem xw (a0:T) (h:Yields (fun k=>ny (hl env k mO) (cl env k) a0) r):Yields (fun k=>cl env k eN [a0]) r:=Yields.ca (ny · · a0) h (by kernel_rfl)
noncomputable def eY (H:HT) (x1 x2 x3 x4 x5 x6:T):R:=H (bS bi.body 0) ([(0,.pref 87 100000 []),(1,.val 57 x1),(4,.pref 92 4 []),(5,.pref 92 5 []),(6,.sref 30 6 []),(7,.val 3 x2)],[(100000,⟨87,x3,(.st [.fo,.dp]),true⟩),(4,⟨92,x4,.dp,true⟩),(5,⟨92,x5,(.st [.dp,.dp,.dp]),true⟩),(6,⟨30,x6,(.sl .fz),false⟩)])
noncomputable def jW (H:HT) (x1 x2 x3 x4 x5 x6 x7:T):R:=H (bS bi.body 1) ([(0,.pref 87 100000 []),(1,.val 57 x1),(4,.pref 92 4 []),(5,.pref 92 5 []),(6,.row 30 51 x2 (.sref 89 5 [.fld 0])),(10,.val 3 x3)],[(100000,⟨87,x4,(.st [.fo,.dp]),true⟩),(4,⟨92,x5,.dp,true⟩),(5,⟨92,x6,(.st [.dp,.dp,.dp]),true⟩),(51,⟨30,x7,.dead,false⟩)])
noncomputable def gC (H:HT) (x1 x2 x3 x4 x5 x6 x7:T):R:=H (bS bi.body 1) ([(0,.pref 87 100000 []),(1,.val 57 x1),(4,.pref 92 4 []),(5,.pref 92 5 []),(6,.row 30 51 x2 (.sref 89 5 [.fld 0])),(10,.val 3 x3)],[(100000,⟨87,x4,(.st [.fo,.dp]),true⟩),(4,⟨92,x5,.dp,true⟩),(5,⟨92,x6,(.st [.dp,(.sl .dp),.dp]),true⟩),(51,⟨30,x7,.dead,false⟩)])
noncomputable def t8 (H:HT) (x1 x2 x3 x4 x5 x6 x7:T):R:=H (bS bi.body 2) ([(0,.pref 87 100000 []),(1,.val 57 x1),(4,.pref 92 4 []),(5,.pref 92 5 []),(11,.row 57 75 x2 (.agg 92 [.sref 89 5 [.fld 0],.sref 90 5 [.fld 1],.sref 37 5 [.fld 2]])),(12,.val 3 x3)],[(100000,⟨87,x4,(.st [.fo,.dp]),true⟩),(4,⟨92,x5,.dp,true⟩),(5,⟨92,x6,(.st [.dp,.dp,.dp]),true⟩),(75,⟨57,x7,.dead,false⟩)])
noncomputable def gD (H:HT) (x1 x2 x3 x4 x5 x6 x7:T):R:=H (bS bi.body 2) ([(0,.pref 87 100000 []),(1,.val 57 x1),(4,.pref 92 4 []),(5,.pref 92 5 []),(11,.row 57 75 x2 (.agg 92 [.sref 89 5 [.fld 0],.sref 90 5 [.fld 1],.sref 37 5 [.fld 2]])),(12,.val 3 x3)],[(100000,⟨87,x4,(.st [.fo,.dp]),true⟩),(4,⟨92,x5,.dp,true⟩),(5,⟨92,x6,(.st [.dp,(.sl .dp),.dp]),true⟩),(75,⟨57,x7,.dead,false⟩)])
noncomputable abbrev lN (H:HT) (C:aF) (a0 a1:T):R:=
 (fun s0=>
 obind (C d9 [a1]) fun r1=>
 obind (C aG [a0,(T.int (4:Int))]) fun r2=>
 eY H a1 (rt r2 0) (rt (r2.drop 1) 0) s0 s0 (rt r1 0)) (T.st [(T.sl []),(T.sl []),(T.sl [])])
theorem v6 (a0 a1:T) (h:Yields (fun k=>lN (hl env k bi) (cl env k) a0 a1) r):Yields (fun k=>cl env k lw [a0,a1]) r:=Yields.ca (lN · · a0 a1) h (by kernel_rfl)
noncomputable abbrev gt (H:HT) (C:aF) (x1 x2 x3 x4 x5 x6:T):R:=
 (fun s0=>
 (fun s1=>
 (fun s2=>
 bif (decide (x2.i > (0:Int))) then
 bif s1 then
 bif (decide (s0.length+1≤LIM)) then
 obind (C ix [x3,(T.sl (s0 ++ [(x5.fld 0)]))]) fun r1=>
 (fun s3=>
 bif (decide (((x5.fld 0).es).length≤LIM)) then
 bif (decide (((x5.fld 0).es).length + [s3].length≤LIM)) then
 bif s1 then
 bif (decide (s0.length+1≤LIM)) then
 obind (C na [(T.sl (s0 ++ [(T.sl ((x5.fld 0).es ++ [s3]))]))]) fun r2=>
 bif (rt r2 0).b then
 eY H x1 s2 (rt (r1.drop 1) 0) x4 (T.st (x5.fs.set 0 (T.sl ((x5.fld 0).es ++ [s3])))) x6
 else
 eY H x1 s2 (rt (r1.drop 1) 0) x4 x5 x6
 else
 none
 else
 none
 else
 none
 else
 none) (T.st [((rt r1 0).fld 0),((rt r1 0).fld 1)])
 else
 none
 else
 none
 else
 bif (decide (x6.es.length+1≤LIM)) then
 obind (C aG [x3,(T.int (3:Int))]) fun r3=>
 jW H x1 x6 (T.int (IntKind.wrap .i64 ((1:Int)+(rt r3 0).i))) (rt (r3.drop 1) 0) x4 x5 x6
 else
 none) (T.int (IntKind.wrap .i64 (x2.i - (1:Int))))) (decide (([]:List T).length+x6.es.length≤LIM))) (([]:List T)++x6.es)
theorem oA (x1 x2 x3 x4 x5 x6:T) (h:Yields (fun k=>gt (hl env k bi) (cl env k) x1 x2 x3 x4 x5 x6) r):Yields (fun k=>eY (hl env k bi) x1 x2 x3 x4 x5 x6) r:=Yields.hd (gt · · x1 x2 x3 x4 x5 x6) h (by kernel_rfl)
noncomputable abbrev jK (H:HT) (C:aF) (x1 x2 x3 x4 x5 x6 x7:T):R:=
 (fun s0=>
 bif (decide (x3.i > (0:Int))) then
 obind (C iy [x4,(T.sl (x2.es ++ [(x6.fld 0)])),(T.int (((x6.fld 0).es).length:Int))]) fun r1=>
 (fun s1=>
 bif (decide (((x6.fld 1).es).length + [s1].length≤LIM)) then
 gC H x1 x2 (T.int (IntKind.wrap .i64 (x3.i - (1:Int)))) (rt (r1.drop 1) 0) x5 (T.st (x6.fs.set 1 (T.sl ((x6.fld 1).es ++ [s1])))) x7
 else
 none) (T.st [((rt r1 0).fld 0),((rt r1 0).fld 1),((rt r1 0).fld 2),((rt r1 0).fld 3),((rt r1 0).fld 4),((rt r1 0).fld 5)])
 else
 bif (decide (([]:List T).length+x1.es.length≤LIM)) then
 bif (decide (s0.length+1≤LIM)) then
 t8 H x1 (T.sl s0) (T.int (0:Int)) x4 x5 x6 (T.sl s0)
 else
 none
 else
 none) (([]:List T)++x1.es)
theorem tr (x1 x2 x3 x4 x5 x6 x7:T) (h:Yields (fun k=>jK (hl env k bi) (cl env k) x1 x2 x3 x4 x5 x6 x7) r):Yields (fun k=>jW (hl env k bi) x1 x2 x3 x4 x5 x6 x7) r:=Yields.hd (jK · · x1 x2 x3 x4 x5 x6 x7) h (by kernel_rfl)
noncomputable abbrev gu (H:HT) (C:aF) (x1 x2 x3 x4 x5 x6 x7:T):R:=
 (fun s0=>
 bif (decide (x3.i > (0:Int))) then
 obind (C iy [x4,(T.sl (x2.es ++ [(x6.fld 0)])),(T.int (((x6.fld 0).es).length:Int))]) fun r1=>
 (fun s1=>
 bif (decide (((x6.fld 1).es).length + [s1].length≤LIM)) then
 gC H x1 x2 (T.int (IntKind.wrap .i64 (x3.i - (1:Int)))) (rt (r1.drop 1) 0) x5 (T.st (x6.fs.set 1 (T.sl ((x6.fld 1).es ++ [s1])))) x7
 else
 none) (T.st [((rt r1 0).fld 0),((rt r1 0).fld 1),((rt r1 0).fld 2),((rt r1 0).fld 3),((rt r1 0).fld 4),((rt r1 0).fld 5)])
 else
 bif (decide (([]:List T).length+x1.es.length≤LIM)) then
 bif (decide (s0.length+1≤LIM)) then
 gD H x1 (T.sl s0) (T.int (0:Int)) x4 x5 x6 (T.sl s0)
 else
 none
 else
 none) (([]:List T)++x1.es)
theorem oB (x1 x2 x3 x4 x5 x6 x7:T) (h:Yields (fun k=>gu (hl env k bi) (cl env k) x1 x2 x3 x4 x5 x6 x7) r):Yields (fun k=>gC (hl env k bi) x1 x2 x3 x4 x5 x6 x7) r:=Yields.hd (gu · · x1 x2 x3 x4 x5 x6 x7) h (by kernel_rfl)
noncomputable abbrev gv (H:HT) (C:aF) (x1 x2 x3 x4 x5 x6 x7:T):R:=
 (fun s0=>
 (fun s1=>
 (fun s2=>
 bif (decide (x3.i < (((x6.fld 1).es).length:Int))) then
 bif s1 then
 obind (C ng [x4,(T.sl (x2.es ++ [s2])),(T.int (x1.es.length:Int)),(T.st [(s0.fld 0),(s0.fld 1),(s0.fld 2),(s0.fld 3),(s0.fld 4),(s0.fld 5)])]) fun r1=>
 bif s1 then
 gD H x1 x2 (T.int (IntKind.wrap .i64 (x3.i+(1:Int)))) (rt (r1.drop 1) 0) x5 (T.put x6 [.fld 1,.idx x3.i.toNat,.fld 5] (rt r1 0)) x7
 else
 none
 else
 none
 else
 some [s2,x4]) (T.st [(x6.fld 0),(x6.fld 1),(x6.fld 2)])) (decide (0≤x3.i)&&decide (x3.i.toNat < ((x6.fld 1).es).length))) ((x6.fld 1).nth x3.i.toNat)
theorem oC (x1 x2 x3 x4 x5 x6 x7:T) (h:Yields (fun k=>gv (hl env k bi) (cl env k) x1 x2 x3 x4 x5 x6 x7) r):Yields (fun k=>gD (hl env k bi) x1 x2 x3 x4 x5 x6 x7) r:=Yields.hd (gv · · x1 x2 x3 x4 x5 x6 x7) h (by kernel_rfl)
noncomputable abbrev mw (H:HT) (C:aF) (a0:T):R:=
 (fun s0=>
 bif (decide (a0.i < (-9223372036854775807:Int))) then
 some [(T.str (⟨#[45,57,50,50,51,51,55,50,48,51,54,56,53,52,55,55,53,56,48,56]⟩:ByteArray))]
 else
 bif (decide (a0.i < (0:Int))) then
 obind (C dE [(T.int (IntKind.wrap .i64 (0 - a0.i)))]) fun r1=>
 bif (decide ((⟨#[45]⟩:ByteArray).size+((rt r1 0).s).size≤LIM)) then
 some [(T.str ((⟨#[45]⟩:ByteArray)++((rt r1 0).s)))]
 else
 none
 else
 bif (decide (a0.i < (10:Int))) then
 some [(T.str (⟨([(T.int (IntKind.wrap .u8 (IntKind.wrap .i64 ((48:Int)+a0.i))))].map fun c=>UInt8.ofNat c.i.toNat).toArray⟩:ByteArray))]
 else
 bif (!((10:Int)==0)) then
 obind (C dE [(T.int (IntKind.wrap .i64 ((a0.i).tdiv (10:Int))))]) fun r1=>
 bif (decide (((rt r1 0).s).size+(⟨([s0].map fun c=>UInt8.ofNat c.i.toNat).toArray⟩:ByteArray).size≤LIM)) then
 some [(T.str (((rt r1 0).s)++(⟨([s0].map fun c=>UInt8.ofNat c.i.toNat).toArray⟩:ByteArray)))]
 else
 none
 else
 none) (T.int (IntKind.wrap .u8 (IntKind.wrap .i64 ((48:Int)+((a0.i:Int).tmod (10:Int))))))
theorem yW (H:HT) (C:aF) (a0:T):bI ja env H C [a0] =
 (fun s0=>
 bif (decide (a0.i < (-9223372036854775807:Int))) then
 some [(T.str (⟨#[45,57,50,50,51,51,55,50,48,51,54,56,53,52,55,55,53,56,48,56]⟩:ByteArray))]
 else
 bif (decide (a0.i < (0:Int))) then
 obind (C dE [(T.int (IntKind.wrap .i64 (0 - a0.i)))]) fun r1=>
 bif (decide ((⟨#[45]⟩:ByteArray).size+((rt r1 0).s).size≤LIM)) then
 some [(T.str ((⟨#[45]⟩:ByteArray)++((rt r1 0).s)))]
 else
 none
 else
 bif (decide (a0.i < (10:Int))) then
 some [(T.str (⟨([(T.int (IntKind.wrap .u8 (IntKind.wrap .i64 ((48:Int)+a0.i))))].map fun c=>UInt8.ofNat c.i.toNat).toArray⟩:ByteArray))]
 else
 bif (!((10:Int)==0)) then
 obind (C dE [(T.int (IntKind.wrap .i64 ((a0.i).tdiv (10:Int))))]) fun r2=>
 bif (!((10:Int)==0)) then
 bif (decide (((rt r2 0).s).size+(⟨([s0].map fun c=>UInt8.ofNat c.i.toNat).toArray⟩:ByteArray).size≤LIM)) then
 some [(T.str (((rt r2 0).s)++(⟨([s0].map fun c=>UInt8.ofNat c.i.toNat).toArray⟩:ByteArray)))]
 else
 none
 else
 none
 else
 none) (T.int (IntKind.wrap .u8 (IntKind.wrap .i64 ((48:Int)+((a0.i:Int).tmod (10:Int)))))):=by kernel_rfl
theorem zJ (H:HT) (C:aF) (a0:T):bI ja env H C [a0]=mw H C a0:=by
 refine (yW H C a0).trans ?_
 unfold mw
 all_goals try dsimp only
 all_goals try simp only[bs]
 all_goals cases hc:((decide (a0.i < (-9223372036854775807:Int)))) with
 | true=>
  try simp only[bs]
  all_goals kernel_rfl
 | false=>
  try simp only[bs]
  all_goals cases hc:((decide (a0.i < (0:Int)))) with
  | true=>
   try simp only[bs]
   all_goals refine br fun r1=>?_
   all_goals try simp only[bs]
   all_goals cases hc:((decide ((⟨#[45]⟩:ByteArray).size+((rt r1 0).s).size≤LIM))) with
   | true=>
    try simp only[bs]
    all_goals kernel_rfl
   | false=>
    try simp only[bs]
    all_goals kernel_rfl
  | false=>
   try simp only[bs]
   all_goals cases hc:((decide (a0.i < (10:Int)))) with
   | true=>
    try simp only[bs]
    all_goals kernel_rfl
   | false=>
    try simp only[bs]
    all_goals cases hc:((!((10:Int)==0))) with
    | true=>
     try simp only[bs]
     all_goals refine br fun r1=>?_
     all_goals try simp only[bs]
     all_goals cases hc:((decide (((rt r1 0).s).size+(⟨([(T.int (IntKind.wrap .u8 (IntKind.wrap .i64 ((48:Int)+((a0.i:Int).tmod (10:Int))))))].map fun c=>UInt8.ofNat c.i.toNat).toArray⟩:ByteArray).size≤LIM))) with
     | true=>
      try simp only[bs]
      all_goals kernel_rfl
     | false=>
      try simp only[bs]
      all_goals kernel_rfl
    | false=>
     try simp only[bs]
     all_goals kernel_rfl
theorem A2 (a0:T) (h:Yields (fun k=>mw (hl env k ja) (cl env k) a0) r):Yields (fun k=>cl env k dE [a0]) r:=Yields.call (fi:=ja) rfl rfl (fun H C=>zJ H C a0) h
noncomputable abbrev sD (H:HT) (C:aF) (a0 a1:T):R:=
 bif (!(a1.i==0)) then
 bif (!((2:Int)==0)) then
 some [(T.bool ((((IntKind.wrap .i64 ((a0.i).tdiv a1.i)):Int).tmod (2:Int))==(1:Int)))]
 else
 none
 else
 none
theorem zZ (a0 a1:T) (h:Yields (fun k=>sD (hl env k l7) (cl env k) a0 a1) r):Yields (fun k=>cl env k bH [a0,a1]) r:=Yields.ca (sD · · a0 a1) h (by kernel_rfl)
noncomputable abbrev kX (H:HT) (C:aF) (a0 a1:T):R:=
 obind (C bO [a1]) fun r1=>
 bif (rt r1 0).b then
 bif (decide (0≤(0:Int))&&decide (0 < a1.s.size)) then
 bif ((a1.s.data.getD 0 0).toNat==(38:Int)) then
 some [(T.int (3:Int))]
 else
 obind (C bO [a1]) fun r2=>
 bif (rt r2 0).b then
 some [(T.int (2:Int))]
 else
 obind (C cU [a1]) fun r3=>
 bif (rt r3 2).b then
 bif (decide (0≤(rt r3 0).i)&&decide (((rt r3 0).i).toNat < a0.es.length)) then
 bif (decide (0≤(rt r3 1).i)&&decide (((rt r3 1).i).toNat < ((a0.nth (((rt r3 0).i).toNat)).es).length)) then
 some [(((a0.nth (((rt r3 0).i).toNat)).nth (((rt r3 1).i).toNat)).fld 0)]
 else
 none
 else
 none
 else
 some [(T.int (7:Int))]
 else
 none
 else
 obind (C bO [a1]) fun r2=>
 bif (rt r2 0).b then
 some [(T.int (2:Int))]
 else
 obind (C cU [a1]) fun r3=>
 bif (rt r3 2).b then
 bif (decide (0≤(rt r3 0).i)&&decide (((rt r3 0).i).toNat < a0.es.length)) then
 bif (decide (0≤(rt r3 1).i)&&decide (((rt r3 1).i).toNat < ((a0.nth (((rt r3 0).i).toNat)).es).length)) then
 some [(((a0.nth (((rt r3 0).i).toNat)).nth (((rt r3 1).i).toNat)).fld 0)]
 else
 none
 else
 none
 else
 some [(T.int (7:Int))]
theorem yc (H:HT) (C:aF) (a0 a1:T):bI ic env H C [a0,a1] =
 obind (C bO [a1]) fun r1=>
 (fun s0=>
 bif (((s0&&true)&&(decide (0≤(0:Int))&&decide (0 < a1.s.size)))||(!s0)) then
 bif (((s0&&true)&&true)||(!s0)) then
 bif (bif (rt r1 0).b then s0 else true) then
 bif (bif (rt r1 0).b then (T.bool ((a1.s.data.getD 0 0).toNat==(38:Int))) else (T.bool false)).b then
 some [(T.int (3:Int))]
 else
 obind (C bO [a1]) fun r2=>
 bif (rt r2 0).b then
 some [(T.int (2:Int))]
 else
 obind (C cU [a1]) fun r3=>
 bif (rt r3 2).b then
 bif (decide (0≤(rt r3 0).i)&&decide (((rt r3 0).i).toNat < a0.es.length)) then
 bif (decide (0≤(rt r3 1).i)&&decide (((rt r3 1).i).toNat < ((a0.nth (((rt r3 0).i).toNat)).es).length)) then
 some [(((a0.nth (((rt r3 0).i).toNat)).nth (((rt r3 1).i).toNat)).fld 0)]
 else
 none
 else
 none
 else
 some [(T.int (7:Int))]
 else
 none
 else
 none
 else
 none) ((rt r1 0).b==true):=by kernel_rfl
theorem yk (H:HT) (C:aF) (a0 a1:T):bI ic env H C [a0,a1]=kX H C a0 a1:=by
 refine (yc H C a0 a1).trans ?_
 unfold kX
 all_goals try dsimp only
 all_goals try simp only[bs]
 all_goals refine br fun r1=>?_
 all_goals try simp only[bs]
 all_goals cases hc:((rt r1 0).b) with
 | true=>
  try simp only[bs]
  all_goals cases hc:((decide (0≤(0:Int))&&decide (0 < a1.s.size))) with
  | true=>
   try simp only[bs]
   all_goals cases hc:(((a1.s.data.getD 0 0).toNat==(38:Int))) with
   | true=>
    try simp only[bs]
    all_goals kernel_rfl
   | false=>
    try simp only[bs]
    all_goals refine br fun r2=>?_
    all_goals try simp only[bs]
    all_goals cases hc:((rt r2 0).b) with
    | true=>
     try simp only[bs]
     all_goals kernel_rfl
    | false=>
     try simp only[bs]
     all_goals refine br fun r3=>?_
     all_goals try simp only[bs]
     all_goals cases hc:((rt r3 2).b) with
     | true=>
      try simp only[bs]
      all_goals cases hc:((decide (0≤(rt r3 0).i)&&decide (((rt r3 0).i).toNat < a0.es.length))) with
      | true=>
       try simp only[bs]
       all_goals cases hc:((decide (0≤(rt r3 1).i)&&decide (((rt r3 1).i).toNat < ((a0.nth (((rt r3 0).i).toNat)).es).length))) with
       | true=>
        try simp only[bs]
        all_goals kernel_rfl
       | false=>
        try simp only[bs]
        all_goals kernel_rfl
      | false=>
       try simp only[bs]
       all_goals kernel_rfl
     | false=>
      try simp only[bs]
      all_goals kernel_rfl
  | false=>
   try simp only[bs]
   all_goals kernel_rfl
 | false=>
  try simp only[bs]
  all_goals refine br fun r2=>?_
  all_goals try simp only[bs]
  all_goals cases hc:((rt r2 0).b) with
  | true=>
   try simp only[bs]
   all_goals kernel_rfl
  | false=>
   try simp only[bs]
   all_goals refine br fun r3=>?_
   all_goals try simp only[bs]
   all_goals cases hc:((rt r3 2).b) with
   | true=>
    try simp only[bs]
    all_goals cases hc:((decide (0≤(rt r3 0).i)&&decide (((rt r3 0).i).toNat < a0.es.length))) with
    | true=>
     try simp only[bs]
     all_goals cases hc:((decide (0≤(rt r3 1).i)&&decide (((rt r3 1).i).toNat < ((a0.nth (((rt r3 0).i).toNat)).es).length))) with
     | true=>
      try simp only[bs]
      all_goals kernel_rfl
     | false=>
      try simp only[bs]
      all_goals kernel_rfl
    | false=>
     try simp only[bs]
     all_goals kernel_rfl
   | false=>
    try simp only[bs]
    all_goals kernel_rfl
theorem se (a0 a1:T) (h:Yields (fun k=>kX (hl env k ic) (cl env k) a0 a1) r):Yields (fun k=>cl env k eD [a0,a1]) r:=Yields.call (fi:=ic) rfl rfl (fun H C=>yk H C a0 a1) h
noncomputable abbrev nr (H:HT) (C:aF) (a0 a1:T):R:=
 obind (C aG [a0,(T.int (a1.es.length:Int))]) fun r1=>
 bif (decide (0≤(rt r1 0).i)&&decide (((rt r1 0).i).toNat < a1.es.length)) then
 some [(a1.nth (((rt r1 0).i).toNat)),(rt (r1.drop 1) 0)]
 else
 none
theorem xr (a0 a1:T) (h:Yields (fun k=>nr (hl env k mM) (cl env k) a0 a1) r):Yields (fun k=>cl env k cB [a0,a1]) r:=Yields.ca (nr · · a0 a1) h (by kernel_rfl)
noncomputable abbrev nw (H:HT) (C:aF) (a0 a1 a2:T):R:=
 (fun s0=>
 (fun s1=>
 obind (C cB [a0,(T.sl [(T.str k_n),(T.str k_b),(T.str k_o),(T.str k_n)])]) fun r1=>
 (fun s2=>
 obind (C aG [(rt (r1.drop 1) 0),(T.int (2:Int))]) fun r2=>
 (fun s3=>
 bif ((rt r2 0).i==(0:Int)) then
 bif (decide ((a1.es.length:Int) > (0:Int))) then
 obind (C aG [s3,(T.int (a1.es.length:Int))]) fun r3=>
 (fun s4=>
 (fun s5=>
 bif s4 then
 bif (decide (s5 > (0:Int))) then
 obind (C dE [(rt r3 0)]) fun r4=>
 (fun s6=>
 bif (decide (k_S.size+((rt r4 0).s).size≤LIM)) then
 bif s4 then
 obind (C aG [(rt (r3.drop 1) 0),(T.int s5)]) fun r5=>
 obind (C dE [(rt r5 0)]) fun r6=>
 (fun s7=>
 bif (decide (s6.size+((rt r6 0).s).size≤LIM)) then
 bif a2.b then
 obind (C aG [(rt (r5.drop 1) 0),s1]) fun r7=>
 bif ((rt r7 0).i==(0:Int)) then
 obind (C cB [(rt (r7.drop 1) 0),s0]) fun r8=>
 bif (decide (((rt r8 0).s).size+s7.size≤LIM)) then
 some [(T.str (((rt r8 0).s)++s7)),(rt (r8.drop 1) 0)]
 else
 none
 else
 some [(T.str s7),(rt (r7.drop 1) 0)]
 else
 some [(T.str s7),(rt (r5.drop 1) 0)]
 else
 none) (s6++((rt r6 0).s))
 else
 none
 else
 none) (k_S++((rt r4 0).s))
 else
 bif a2.b then
 obind (C aG [(rt (r3.drop 1) 0),s1]) fun r9=>
 bif ((rt r9 0).i==(0:Int)) then
 obind (C cB [(rt (r9.drop 1) 0),s0]) fun r10=>
 bif (decide (((rt r10 0).s).size+s2.size≤LIM)) then
 some [(T.str (((rt r10 0).s)++s2)),(rt (r10.drop 1) 0)]
 else
 none
 else
 some [(rt r1 0),(rt (r9.drop 1) 0)]
 else
 some [(rt r1 0),(rt (r3.drop 1) 0)]
 else
 none) (((a1.nth (((rt r3 0).i).toNat)).es).length:Int)) (decide (0≤(rt r3 0).i)&&decide (((rt r3 0).i).toNat < a1.es.length))
 else
 bif a2.b then
 obind (C aG [s3,s1]) fun r11=>
 bif ((rt r11 0).i==(0:Int)) then
 obind (C cB [(rt (r11.drop 1) 0),s0]) fun r12=>
 bif (decide (((rt r12 0).s).size+s2.size≤LIM)) then
 some [(T.str (((rt r12 0).s)++s2)),(rt (r12.drop 1) 0)]
 else
 none
 else
 some [(rt r1 0),(rt (r11.drop 1) 0)]
 else
 some [(rt r1 0),s3]
 else
 bif a2.b then
 obind (C aG [s3,s1]) fun r13=>
 bif ((rt r13 0).i==(0:Int)) then
 obind (C cB [(rt (r13.drop 1) 0),s0]) fun r14=>
 bif (decide (((rt r14 0).s).size+s2.size≤LIM)) then
 some [(T.str (((rt r14 0).s)++s2)),(rt (r14.drop 1) 0)]
 else
 none
 else
 some [(rt r1 0),(rt (r13.drop 1) 0)]
 else
 some [(rt r1 0),s3]) (rt (r2.drop 1) 0)) ((rt r1 0).s)) (T.int (4:Int))) (T.sl [(T.str cX),(T.str cI)])
theorem xv (a0 a1 a2:T) (h:Yields (fun k=>nw (hl env k mN) (cl env k) a0 a1 a2) r):Yields (fun k=>cl env k hL [a0,a1,a2]) r:=Yields.ca (nw · · a0 a1 a2) h (by kernel_rfl)
noncomputable abbrev ID (H:HT) (C:aF) (a0:T):R:=
 (fun s0=>
 (fun s1=>
 bif ((a0.s.size:Int) != (3:Int)) then
 some [s0,s0,s1]
 else
 bif (decide (0≤(0:Int))&&decide (0 < a0.s.size)) then
 bif ((a0.s.data.getD 0 0).toNat != (83:Int)) then
 some [s0,s0,s1]
 else
 bif (decide (0≤(1:Int))&&decide (1 < a0.s.size)) then
 bif (decide ((a0.s.data.getD 1 0).toNat < (48:Int))) then
 some [s0,s0,s1]
 else
 bif (decide (0≤(1:Int))&&decide (1 < a0.s.size)) then
 bif (decide ((a0.s.data.getD 1 0).toNat > (57:Int))) then
 some [s0,s0,s1]
 else
 bif (decide (0≤(2:Int))&&decide (2 < a0.s.size)) then
 bif (decide ((a0.s.data.getD 2 0).toNat < (48:Int))) then
 some [s0,s0,s1]
 else
 bif (decide (0≤(2:Int))&&decide (2 < a0.s.size)) then
 bif (decide ((a0.s.data.getD 2 0).toNat > (57:Int))) then
 some [s0,s0,s1]
 else
 bif (decide (0≤(1:Int))&&decide (1 < a0.s.size)) then
 bif (decide (0≤(2:Int))&&decide (2 < a0.s.size)) then
 some [(T.int (IntKind.wrap .i64 (IntKind.wrap .u8 ((a0.s.data.getD 1 0).toNat - (48:Int))))),(T.int (IntKind.wrap .i64 (IntKind.wrap .u8 ((a0.s.data.getD 2 0).toNat - (48:Int))))),(T.bool true)]
 else
 none
 else
 none
 else
 none
 else
 none
 else
 none
 else
 none
 else
 none) (T.bool false)) (T.int (0:Int))
theorem MY (a0:T) (h:Yields (fun k=>ID (hl env k Gj) (cl env k) a0) r):Yields (fun k=>cl env k Fu [a0]) r:=Yields.ca (ID · · a0) h (by kernel_rfl)
noncomputable abbrev ni (H:HT) (C:aF) (a0:T):R:=
 obind (C qx [a0]) fun r1=>
 some [(T.bool (decide ((rt r1 0).i < (0:Int))))]
theorem xk (a0:T) (h:Yields (fun k=>ni (hl env k jC) (cl env k) a0) r):Yields (fun k=>cl env k na [a0]) r:=Yields.ca (ni · · a0) h (by kernel_rfl)
noncomputable def Fw (H:HT) (x1 x2 x3:T):R:=H (bS EH.body 0) ([(0,.val 30 x1),(1,.val 31 x2),(5,.val 3 x3)],[])
noncomputable abbrev L2 (H:HT) (C:aF) (a0 a1:T):R:=
 Fw H a0 a1 (T.int (0:Int))
theorem Nl (H:HT) (C:aF) (a0 a1:T):bI EH env H C [a0,a1]=L2 H C a0 a1:=by kernel_rfl
theorem Nn (a0 a1:T) (h:Yields (fun k=>L2 (hl env k EH) (cl env k) a0 a1) r):Yields (fun k=>cl env k JB [a0,a1]) r:=Yields.call (fi:=EH) rfl rfl (fun H C=>Nl H C a0 a1) h
noncomputable abbrev IL (H:HT) (C:aF) (x1 x2 x3:T):R:=
 (fun s0=>
 (fun s1=>
 (fun s2=>
 bif (decide (x3.i < (x2.es.length:Int))) then
 bif (decide (0≤x3.i)&&decide (x3.i.toNat < x2.es.length)) then
 obind (C dZ [(s2.fld 0),(T.int (0:Int)),(T.int (3:Int))]) fun r1=>
 bif (!(rt r1 0).b) then
 some [(T.bool false)]
 else
 obind (C EG [x1,(s2.fld 1)]) fun r2=>
 bif (!(rt r2 0).b) then
 some [(T.bool false)]
 else
 bif (decide (x3.i > (0:Int))) then
 bif (decide (0≤s0)&&decide (s0.toNat < x2.es.length)) then
 bif (decide (((x2.nth (s0.toNat)).fld 0).i > (s2.fld 0).i)) then
 some [(T.bool false)]
 else
 bif (((x2.nth (s0.toNat)).fld 0).i==(s2.fld 0).i) then
 bif (!(Op.bytesLess ((((x2.nth (s0.toNat)).fld 1).fld 0).s).toList (((s2.fld 1).fld 0).s).toList)) then
 some [(T.bool false)]
 else
 Fw H x1 x2 s1
 else
 Fw H x1 x2 s1
 else
 none
 else
 Fw H x1 x2 s1
 else
 none
 else
 some [(T.bool (decide ((x2.es.length:Int)≤(36:Int))))]) (x2.nth x3.i.toNat)) (T.int (IntKind.wrap .i64 (x3.i+(1:Int))))) (IntKind.wrap .i64 (x3.i - (1:Int)))
theorem MH (H:HT) (C:aF) (x1 x2 x3:T):iU EH env H C (bS EH.body 0) ([(0,.val 30 x1),(1,.val 31 x2),(5,.val 3 x3)],[]) =
 (fun s0=>
 (fun s1=>
 (fun s2=>
 (fun s3=>
 (fun s4=>
 (fun s5=>
 (fun s6=>
 (fun s7=>
 (fun s8=>
 (fun s9=>
 (fun s10=>
 bif (decide (x3.i < (x2.es.length:Int))) then
 bif s4 then
 obind (C dZ [(s6.fld 0),(T.int (0:Int)),(T.int (3:Int))]) fun r1=>
 (fun s11=>
 bif (((s11&&(s11&&true))&&s4)||(!s11)) then
 bif (s11||(!s11)) then
 bif (s11||(!s11)) then
 bif ((s11&&(s11&&true))||(!s11)) then
 obind ((bif s11 then C EG [x1,(s6.fld 1)] else some [])) fun r2=>
 bif (s11||(!s11)) then
 bif (bif (!(rt r1 0).b) then true else s11) then
 bif (bif (!(rt r1 0).b) then (T.bool true) else (T.bool (!(rt r2 0).b))).b then
 some [(T.bool false)]
 else
 bif (((s2&&true)&&true)||(!s2)) then
 bif (((s2&&(s2&&true))&&s5)||(!s2)) then
 bif s9 then
 bif s9 then
 bif (((s2&&(s2&&true))&&s4)||(!s2)) then
 bif s9 then
 bif s9 then
 bif (((s2&&s2)&&true)||(!s2)) then
 bif s9 then
 bif (((s0&&true)&&true)||(!s0)) then
 bif (((s0&&(s0&&true))&&s5)||(!s0)) then
 bif s10 then
 bif s10 then
 bif (((s0&&(s0&&true))&&s4)||(!s0)) then
 bif s10 then
 bif s10 then
 bif (((s0&&s0)&&true)||(!s0)) then
 bif s10 then
 bif (((s1&&true)&&true)||(!s1)) then
 bif (((s1&&(s1&&true))&&s5)||(!s1)) then
 bif s8 then
 bif s8 then
 bif s8 then
 bif (((s1&&(s1&&true))&&s4)||(!s1)) then
 bif s8 then
 bif s8 then
 bif s8 then
 bif (((s1&&s1)&&true)||(!s1)) then
 bif ((s0&&(bif (s7.i==(s6.fld 0).i) then s1 else true))||(!s0)) then
 bif ((s2&&(bif (decide (s7.i > (s6.fld 0).i)) then true else s0))||(!s2)) then
 bif (bif (decide (x3.i > (0:Int))) then s2 else true) then
 bif (bif (decide (x3.i > (0:Int))) then (bif (decide (s7.i > (s6.fld 0).i)) then (T.bool true) else (bif (s7.i==(s6.fld 0).i) then (T.bool (!(Op.bytesLess ((((x2.nth (s3.toNat)).fld 1).fld 0).s).toList (((s6.fld 1).fld 0).s).toList))) else (T.bool false))) else (T.bool false)).b then
 some [(T.bool false)]
 else
 Fw H x1 x2 (T.int (IntKind.wrap .i64 (x3.i+(1:Int))))
 else
 none
 else
 none
 else
 none
 else
 none
 else
 none
 else
 none
 else
 none
 else
 none
 else
 none
 else
 none
 else
 none
 else
 none
 else
 none
 else
 none
 else
 none
 else
 none
 else
 none
 else
 none
 else
 none
 else
 none
 else
 none
 else
 none
 else
 none
 else
 none
 else
 none
 else
 none
 else
 none
 else
 none
 else
 none
 else
 none
 else
 none
 else
 none
 else
 none
 else
 none
 else
 none
 else
 none
 else
 none) ((!(rt r1 0).b)==false)
 else
 none
 else
 some [(T.bool (decide ((x2.es.length:Int)≤(36:Int))))]) (s0||(!s0))) (s2||(!s2))) (s1||(!s1))) ((x2.nth (s3.toNat)).fld 0)) (x2.nth x3.i.toNat)) (decide (0≤s3)&&decide (s3.toNat < x2.es.length))) (decide (0≤x3.i)&&decide (x3.i.toNat < x2.es.length))) (IntKind.wrap .i64 (x3.i - (1:Int)))) ((decide (x3.i > (0:Int)))==true)) (s0&&((((x2.nth ((IntKind.wrap .i64 (x3.i - (1:Int))).toNat)).fld 0).i==((x2.nth x3.i.toNat).fld 0).i)==true))) (((decide (x3.i > (0:Int)))==true)&&((decide (((x2.nth ((IntKind.wrap .i64 (x3.i - (1:Int))).toNat)).fld 0).i > ((x2.nth x3.i.toNat).fld 0).i))==false)):=by kernel_rfl
theorem MW (H:HT) (C:aF) (x1 x2 x3:T):iU EH env H C (bS EH.body 0) ([(0,.val 30 x1),(1,.val 31 x2),(5,.val 3 x3)],[])=IL H C x1 x2 x3:=by
 refine (MH H C x1 x2 x3).trans ?_
 unfold IL
 all_goals try dsimp only
 all_goals try simp only[bs]
 all_goals cases hc:((decide (x3.i < (x2.es.length:Int)))) with
 | true=>
  try simp only[bs]
  all_goals cases hc:((decide (0≤x3.i)&&decide (x3.i.toNat < x2.es.length))) with
  | true=>
   try simp only[bs]
   all_goals refine br fun r1=>?_
   all_goals try simp only[bs]
   all_goals cases hc:((!(rt r1 0).b)) with
   | true=>
    try simp only[bs]
    all_goals kernel_rfl
   | false=>
    try simp only[bs]
    all_goals refine br fun r2=>?_
    all_goals try simp only[bs]
    all_goals cases hc:((!(rt r2 0).b)) with
    | true=>
     try simp only[bs]
     all_goals kernel_rfl
    | false=>
     try simp only[bs]
     all_goals cases hc:((decide (x3.i > (0:Int)))) with
     | true=>
      try simp only[bs]
      all_goals cases hc:((decide (0≤(IntKind.wrap .i64 (x3.i - (1:Int))))&&decide ((IntKind.wrap .i64 (x3.i - (1:Int))).toNat < x2.es.length))) with
      | true=>
       try simp only[bs]
       all_goals cases hc:((decide (((x2.nth ((IntKind.wrap .i64 (x3.i - (1:Int))).toNat)).fld 0).i > ((x2.nth x3.i.toNat).fld 0).i))) with
       | true=>
        try simp only[bs]
        all_goals cases hc:((((x2.nth ((IntKind.wrap .i64 (x3.i - (1:Int))).toNat)).fld 0).i==((x2.nth x3.i.toNat).fld 0).i)) with
        | true=>
         try simp only[bs]
         all_goals kernel_rfl
        | false=>
         try simp only[bs]
         all_goals kernel_rfl
       | false=>
        try simp only[bs]
        all_goals cases hc:((((x2.nth ((IntKind.wrap .i64 (x3.i - (1:Int))).toNat)).fld 0).i==((x2.nth x3.i.toNat).fld 0).i)) with
        | true=>
         try simp only[bs]
         all_goals cases hc:((!(Op.bytesLess ((((x2.nth ((IntKind.wrap .i64 (x3.i - (1:Int))).toNat)).fld 1).fld 0).s).toList ((((x2.nth x3.i.toNat).fld 1).fld 0).s).toList))) with
         | true=>
          try simp only[bs]
          all_goals kernel_rfl
         | false=>
          try simp only[bs]
          all_goals kernel_rfl
        | false=>
         try simp only[bs]
         all_goals kernel_rfl
      | false=>
       try simp only[bs]
       all_goals kernel_rfl
     | false=>
      try simp only[bs]
      all_goals cases hc:((decide (((x2.nth ((IntKind.wrap .i64 (x3.i - (1:Int))).toNat)).fld 0).i > ((x2.nth x3.i.toNat).fld 0).i))) with
      | true=>
       try simp only[bs]
       all_goals cases hc:((((x2.nth ((IntKind.wrap .i64 (x3.i - (1:Int))).toNat)).fld 0).i==((x2.nth x3.i.toNat).fld 0).i)) with
       | true=>
        try simp only[bs]
        all_goals kernel_rfl
       | false=>
        try simp only[bs]
        all_goals kernel_rfl
      | false=>
       try simp only[bs]
       all_goals cases hc:((((x2.nth ((IntKind.wrap .i64 (x3.i - (1:Int))).toNat)).fld 0).i==((x2.nth x3.i.toNat).fld 0).i)) with
       | true=>
        try simp only[bs]
        all_goals kernel_rfl
       | false=>
        try simp only[bs]
        all_goals kernel_rfl
  | false=>
   try simp only[bs]
   all_goals kernel_rfl
 | false=>
  try simp only[bs]
  all_goals kernel_rfl
theorem Kc (x1 x2 x3:T) (h:Yields (fun k=>IL (hl env k EH) (cl env k) x1 x2 x3) r):Yields (fun k=>Fw (hl env k EH) x1 x2 x3) r:=Yields.head (fun H C=>MW H C x1 x2 x3) h
noncomputable abbrev oJ (H:HT) (C:aF) (a0:T):R:=
 bif (a0.s.toList==(⟨#[110]⟩:ByteArray).toList) then
 some [(T.bool true)]
 else
 bif (a0.s.toList==(⟨#[98]⟩:ByteArray).toList) then
 some [(T.bool true)]
 else
 some [(T.bool (a0.s.toList==(⟨#[111]⟩:ByteArray).toList))]
theorem yd (H:HT) (C:aF) (a0:T):bI ie env H C [a0] =
 (fun s0=>
 (fun s1=>
 bif ((((s1==false)&&true)&&true)||(!(s1==false))) then
 bif (bif s1 then true else (s1==false)) then
 bif ((((s0.b==false)&&true)&&true)||(!(s0.b==false))) then
 bif (bif s0.b then true else (s0.b==false)) then
 some [(bif s0.b then (T.bool true) else (T.bool (a0.s.toList==(⟨#[111]⟩:ByteArray).toList)))]
 else
 none
 else
 none
 else
 none
 else
 none) (a0.s.toList==(⟨#[110]⟩:ByteArray).toList)) (bif (a0.s.toList==(⟨#[110]⟩:ByteArray).toList) then (T.bool true) else (T.bool (a0.s.toList==(⟨#[98]⟩:ByteArray).toList))):=by kernel_rfl
theorem yl (H:HT) (C:aF) (a0:T):bI ie env H C [a0]=oJ H C a0:=by
 refine (yd H C a0).trans ?_
 unfold oJ
 all_goals try dsimp only
 all_goals try simp only[bs]
 all_goals cases hc:((a0.s.toList==(⟨#[110]⟩:ByteArray).toList)) with
 | true=>
  try simp only[bs]
  all_goals kernel_rfl
 | false=>
  try simp only[bs]
  all_goals cases hc:((a0.s.toList==(⟨#[98]⟩:ByteArray).toList)) with
  | true=>
   try simp only[bs]
   all_goals kernel_rfl
  | false=>
   try simp only[bs]
   all_goals kernel_rfl
theorem yo (a0:T) (h:Yields (fun k=>oJ (hl env k ie) (cl env k) a0) r):Yields (fun k=>cl env k kU [a0]) r:=Yields.call (fi:=ie) rfl rfl (fun H C=>yl H C a0) h
noncomputable abbrev pR (H:HT) (C:aF) (a0 a1 a2:T):R:=
 bif (decide (a1.i < (a0.es.length:Int))) then
 bif (decide (0≤a1.i)&&decide (a1.i.toNat < a0.es.length)) then
 some [(T.bool (decide (a2.i < (((a0.nth a1.i.toNat).es).length:Int))))]
 else
 none
 else
 some [(T.bool false)]
theorem A0 (a0 a1 a2:T) (h:Yields (fun k=>pR (hl env k j7) (cl env k) a0 a1 a2) r):Yields (fun k=>cl env k mg [a0,a1,a2]) r:=Yields.ca (pR · · a0 a1 a2) h (by kernel_rfl)
noncomputable def EF (H:HT) (x1 x2 x3 x4 x5:T):R:=H (bS Ee.body 0) ([(0,.val 30 x1),(5,.val 95 x2),(86,.val 36 x3),(87,.val 3 x4),(88,.val 3 x5)],[])
noncomputable abbrev EO (H:HT) (C:aF) (a0 a1:T):R:=
 (fun s0=>
 (fun s1=>
 (fun s2=>
 bif (decide ((((a1.fld 3).es).length:Int) > (0:Int))) then
 some [s1]
 else
 obind (C ET [a0,(a1.fld 0)]) fun r1=>
 bif (!(rt r1 0).b) then
 some [s1]
 else
 bif (((a1.fld 0).s).toList==(⟨#[110]⟩:ByteArray).toList) then
 bif (decide (s2.i≥(0:Int))) then
 bif (decide (s2.i≤(1000000:Int))) then
 some [s0]
 else
 some [s1]
 else
 some [s1]
 else
 bif (((a1.fld 0).s).toList==(⟨#[98]⟩:ByteArray).toList) then
 bif (s2.i==(0:Int)) then
 some [s0]
 else
 bif (s2.i==(1:Int)) then
 some [s0]
 else
 some [s1]
 else
 bif (((a1.fld 0).s).toList==(⟨#[111]⟩:ByteArray).toList) then
 bif (decide (s2.i≥(0:Int))) then
 bif (decide (s2.i < (4:Int))) then
 some [s0]
 else
 some [s1]
 else
 some [s1]
 else
 obind (C F3 [a0,(a1.fld 0)]) fun r2=>
 bif (s2.i != (0:Int)) then
 some [s1]
 else
 bif ((((a1.fld 2).es).length:Int) != ((((rt r2 0).fld 1).es).length:Int)) then
 some [s1]
 else
 EF H a0 ((rt r2 0).fld 1) (a1.fld 2) (T.int (((a1.fld 2).es).length:Int)) (T.int (0:Int))) (a1.fld 1)) (T.bool false)) (T.bool ((((a1.fld 2).es).length:Int)==(0:Int)))
theorem L8 (H:HT) (C:aF) (a0 a1:T):bI Ee env H C [a0,a1] =
 (fun s0=>
 (fun s1=>
 (fun s2=>
 (fun s3=>
 (fun s4=>
 (fun s5=>
 (fun s6=>
 (fun s7=>
 (fun s8=>
 (fun s9=>
 (fun s10=>
 (fun s11=>
 (fun s12=>
 (fun s13=>
 bif (s9||(!s9)) then
 bif ((s9&&(s9&&true))||(!s9)) then
 obind ((bif s9 then C ET [a0,(a1.fld 0)] else some [])) fun r1=>
 bif (s9||(!s9)) then
 bif (bif s4 then true else s9) then
 bif (bif s4 then (T.bool true) else (T.bool (!(rt r1 0).b))).b then
 some [s13]
 else
 bif (((a1.fld 0).s).toList==(⟨#[110]⟩:ByteArray).toList) then
 bif (s8||(!s8)) then
 bif (((s8&&true)&&true)||(!s8)) then
 bif (bif s0 then s8 else true) then
 bif (s10||(!s10)) then
 bif (s10||(!s10)) then
 bif (((s10&&true)&&true)||(!s10)) then
 bif (bif s2.b then s10 else true) then
 some [(bif s2.b then (T.bool (s7==(0:Int))) else s13)]
 else
 none
 else
 none
 else
 none
 else
 none
 else
 none
 else
 none
 else
 none
 else
 bif (((a1.fld 0).s).toList==(⟨#[98]⟩:ByteArray).toList) then
 bif (s6||(!s6)) then
 bif (((s6&&true)&&true)||(!s6)) then
 bif (bif ((a1.fld 1).i==(0:Int)) then true else s6) then
 bif (s11||(!s11)) then
 bif (s11||(!s11)) then
 bif (((s11&&true)&&true)||(!s11)) then
 bif (bif s1.b then s11 else true) then
 some [(bif s1.b then (T.bool (s7==(0:Int))) else s13)]
 else
 none
 else
 none
 else
 none
 else
 none
 else
 none
 else
 none
 else
 none
 else
 bif (((a1.fld 0).s).toList==(⟨#[111]⟩:ByteArray).toList) then
 bif (s8||(!s8)) then
 bif (((s8&&true)&&true)||(!s8)) then
 bif (bif s0 then s8 else true) then
 bif (s12||(!s12)) then
 bif (s12||(!s12)) then
 bif (((s12&&true)&&true)||(!s12)) then
 bif (bif s3.b then s12 else true) then
 some [(bif s3.b then (T.bool (s7==(0:Int))) else s13)]
 else
 none
 else
 none
 else
 none
 else
 none
 else
 none
 else
 none
 else
 none
 else
 obind (C F3 [a0,(a1.fld 0)]) fun r2=>
 bif (s5||(!s5)) then
 bif (s5||(!s5)) then
 bif (s5||(!s5)) then
 bif (((s5&&s5)&&true)||(!s5)) then
 bif (bif ((a1.fld 1).i != (0:Int)) then true else s5) then
 bif (bif ((a1.fld 1).i != (0:Int)) then (T.bool true) else (T.bool (s7 != ((((rt r2 0).fld 1).es).length:Int)))).b then
 some [s13]
 else
 EF H a0 ((rt r2 0).fld 1) (a1.fld 2) (T.int s7) (T.int (0:Int))
 else
 none
 else
 none
 else
 none
 else
 none
 else
 none
 else
 none
 else
 none
 else
 none
 else
 none) (T.bool false)) (s3.b==true)) (s1.b==true)) (s2.b==true)) (s4==false)) (s0==true)) (((a1.fld 2).es).length:Int)) (((a1.fld 1).i==(0:Int))==false)) (((a1.fld 1).i != (0:Int))==false)) (decide ((((a1.fld 3).es).length:Int) > (0:Int)))) (bif s0 then (T.bool (decide ((a1.fld 1).i < (4:Int)))) else (T.bool false))) (bif s0 then (T.bool (decide ((a1.fld 1).i≤(1000000:Int)))) else (T.bool false))) (bif ((a1.fld 1).i==(0:Int)) then (T.bool true) else (T.bool ((a1.fld 1).i==(1:Int))))) (decide ((a1.fld 1).i≥(0:Int))):=by kernel_rfl
theorem Ln (H:HT) (C:aF) (a0 a1:T):bI Ee env H C [a0,a1]=EO H C a0 a1:=by
 refine (L8 H C a0 a1).trans ?_
 unfold EO
 all_goals try dsimp only
 all_goals try simp only[bs]
 all_goals cases hc:((decide ((((a1.fld 3).es).length:Int) > (0:Int)))) with
 | true=>
  try simp only[bs]
  all_goals kernel_rfl
 | false=>
  try simp only[bs]
  all_goals refine br fun r1=>?_
  all_goals try simp only[bs]
  all_goals cases hc:((!(rt r1 0).b)) with
  | true=>
   try simp only[bs]
   all_goals kernel_rfl
  | false=>
   try simp only[bs]
   all_goals cases hc:((((a1.fld 0).s).toList==(⟨#[110]⟩:ByteArray).toList)) with
   | true=>
    try simp only[bs]
    all_goals cases hc:((decide ((a1.fld 1).i≥(0:Int)))) with
    | true=>
     try simp only[bs]
     all_goals cases hc:((decide ((a1.fld 1).i≤(1000000:Int)))) with
     | true=>
      try simp only[bs]
      all_goals kernel_rfl
     | false=>
      try simp only[bs]
      all_goals kernel_rfl
    | false=>
     try simp only[bs]
     all_goals kernel_rfl
   | false=>
    try simp only[bs]
    all_goals cases hc:((((a1.fld 0).s).toList==(⟨#[98]⟩:ByteArray).toList)) with
    | true=>
     try simp only[bs]
     all_goals cases hc:(((a1.fld 1).i==(0:Int))) with
     | true=>
      try simp only[bs]
      all_goals kernel_rfl
     | false=>
      try simp only[bs]
      all_goals cases hc:(((a1.fld 1).i==(1:Int))) with
      | true=>
       try simp only[bs]
       all_goals kernel_rfl
      | false=>
       try simp only[bs]
       all_goals kernel_rfl
    | false=>
     try simp only[bs]
     all_goals cases hc:((((a1.fld 0).s).toList==(⟨#[111]⟩:ByteArray).toList)) with
     | true=>
      try simp only[bs]
      all_goals cases hc:((decide ((a1.fld 1).i≥(0:Int)))) with
      | true=>
       try simp only[bs]
       all_goals cases hc:((decide ((a1.fld 1).i < (4:Int)))) with
       | true=>
        try simp only[bs]
        all_goals kernel_rfl
       | false=>
        try simp only[bs]
        all_goals kernel_rfl
      | false=>
       try simp only[bs]
       all_goals kernel_rfl
     | false=>
      try simp only[bs]
      all_goals refine br fun r2=>?_
      all_goals try simp only[bs]
      all_goals cases hc:(((a1.fld 1).i != (0:Int))) with
      | true=>
       try simp only[bs]
       all_goals kernel_rfl
      | false=>
       try simp only[bs]
       all_goals cases hc:(((((a1.fld 2).es).length:Int) != ((((rt r2 0).fld 1).es).length:Int))) with
       | true=>
        try simp only[bs]
        all_goals kernel_rfl
       | false=>
        try simp only[bs]
        all_goals kernel_rfl
theorem FO (a0 a1:T) (h:Yields (fun k=>EO (hl env k Ee) (cl env k) a0 a1) r):Yields (fun k=>cl env k El [a0,a1]) r:=Yields.call (fi:=Ee) rfl rfl (fun H C=>Ln H C a0 a1) h
noncomputable abbrev GX (H:HT) (C:aF) (x1 x2 x3 x4 x5:T):R:=
 bif (decide (x5.i < x4.i)) then
 bif (decide (0≤x5.i)&&decide (x5.i.toNat < x3.es.length)) then
 bif (decide (0≤x5.i)&&decide (x5.i.toNat < x2.es.length)) then
 bif (!((((x3.nth x5.i.toNat).fld 0).s).toList==((x2.nth x5.i.toNat).s).toList)) then
 some [(T.bool false)]
 else
 obind (C El [x1,(x3.nth x5.i.toNat)]) fun r1=>
 bif (!(rt r1 0).b) then
 some [(T.bool false)]
 else
 EF H x1 x2 x3 x4 (T.int (IntKind.wrap .i64 (x5.i+(1:Int))))
 else
 none
 else
 none
 else
 some [(T.bool true)]
theorem Kj (H:HT) (C:aF) (x1 x2 x3 x4 x5:T):iU Ee env H C (bS Ee.body 0) ([(0,.val 30 x1),(5,.val 95 x2),(86,.val 36 x3),(87,.val 3 x4),(88,.val 3 x5)],[]) =
 (fun s0=>
 (fun s1=>
 bif (decide (x5.i < x4.i)) then
 bif (decide (0≤x5.i)&&decide (x5.i.toNat < x3.es.length)) then
 bif (decide (0≤x5.i)&&decide (x5.i.toNat < x2.es.length)) then
 bif ((s1&&(s1&&true))||(!s1)) then
 obind ((bif s1 then C El [x1,(x3.nth x5.i.toNat)] else some [])) fun r1=>
 bif (s1||(!s1)) then
 bif (bif s0 then true else s1) then
 bif (bif s0 then (T.bool true) else (T.bool (!(rt r1 0).b))).b then
 some [(T.bool false)]
 else
 EF H x1 x2 x3 x4 (T.int (IntKind.wrap .i64 (x5.i+(1:Int))))
 else
 none
 else
 none
 else
 none
 else
 none
 else
 none
 else
 some [(T.bool true)]) (s0==false)) (!((((x3.nth x5.i.toNat).fld 0).s).toList==((x2.nth x5.i.toNat).s).toList)):=by kernel_rfl
theorem Ku (H:HT) (C:aF) (x1 x2 x3 x4 x5:T):iU Ee env H C (bS Ee.body 0) ([(0,.val 30 x1),(5,.val 95 x2),(86,.val 36 x3),(87,.val 3 x4),(88,.val 3 x5)],[])=GX H C x1 x2 x3 x4 x5:=by
 refine (Kj H C x1 x2 x3 x4 x5).trans ?_
 unfold GX
 all_goals try dsimp only
 all_goals try simp only[bs]
 all_goals cases hc:((decide (x5.i < x4.i))) with
 | true=>
  try simp only[bs]
  all_goals cases hc:((decide (0≤x5.i)&&decide (x5.i.toNat < x3.es.length))) with
  | true=>
   try simp only[bs]
   all_goals cases hc:((decide (0≤x5.i)&&decide (x5.i.toNat < x2.es.length))) with
   | true=>
    try simp only[bs]
    all_goals cases hc:((!((((x3.nth x5.i.toNat).fld 0).s).toList==((x2.nth x5.i.toNat).s).toList))) with
    | true=>
     try simp only[bs]
     all_goals kernel_rfl
    | false=>
     try simp only[bs]
     all_goals refine br fun r1=>?_
     all_goals try simp only[bs]
     all_goals cases hc:((!(rt r1 0).b)) with
     | true=>
      try simp only[bs]
      all_goals kernel_rfl
     | false=>
      try simp only[bs]
      all_goals kernel_rfl
   | false=>
    try simp only[bs]
    all_goals kernel_rfl
  | false=>
   try simp only[bs]
   all_goals kernel_rfl
 | false=>
  try simp only[bs]
  all_goals kernel_rfl
theorem Iw (x1 x2 x3 x4 x5:T) (h:Yields (fun k=>GX (hl env k Ee) (cl env k) x1 x2 x3 x4 x5) r):Yields (fun k=>EF (hl env k Ee) x1 x2 x3 x4 x5) r:=Yields.head (fun H C=>Ku H C x1 x2 x3 x4 x5) h
noncomputable def EL (H:HT) (x1 x2 x3 x4:T):R:=H (bS E8.body 0) ([(0,.val 31 x1),(1,.val 125 x2),(7,.val 3 x3),(8,.val 3 x4)],[])
noncomputable abbrev Gi (H:HT) (C:aF) (a0 a1:T):R:=
 EL H a0 a1 (T.int (a0.es.length:Int)) (T.int (0:Int))
theorem Ip (a0 a1:T) (h:Yields (fun k=>Gi (hl env k E8) (cl env k) a0 a1) r):Yields (fun k=>cl env k Gf [a0,a1]) r:=Yields.ca (Gi · · a0 a1) h (by kernel_rfl)
noncomputable abbrev FW (H:HT) (C:aF) (x1 x2 x3 x4:T):R:=
 bif (decide (x4.i < x3.i)) then
 bif (decide (0≤x4.i)&&decide (x4.i.toNat < x1.es.length)) then
 obind (C x2.fid ([(x1.nth x4.i.toNat)]++x2.caps)) fun r1=>
 bif (rt r1 0).b then
 some [x4]
 else
 EL H x1 x2 x3 (T.int (IntKind.wrap .i64 (x4.i+(1:Int))))
 else
 none
 else
 some [(T.int (-1:Int))]
theorem EM (x1 x2 x3 x4:T) (h:Yields (fun k=>FW (hl env k E8) (cl env k) x1 x2 x3 x4) r):Yields (fun k=>EL (hl env k E8) x1 x2 x3 x4) r:=Yields.hd (FW · · x1 x2 x3 x4) h (by kernel_rfl)
noncomputable abbrev J5 (H:HT) (C:aF) (a0 a1 a2:T):R:=
 bif ((a0.fld 0).i==a1.i) then
 some [(T.bool ((((a0.fld 1).fld 0).s).toList==a2.s.toList))]
 else
 some [(T.bool false)]
theorem Lt (a0 a1 a2:T) (h:Yields (fun k=>J5 (hl env k Hm) (cl env k) a0 a1 a2) r):Yields (fun k=>cl env k HB [a0,a1,a2]) r:=Yields.ca (J5 · · a0 a1 a2) h (by kernel_rfl)
noncomputable abbrev qA (H:HT) (C:aF) (a0:T):R:=
 (fun s0=>
 bif (decide (([]:List T).length+a0.es.length≤LIM)) then
 obind (C kx [(T.sl s0)]) fun r1=>
 some [(T.sl ((s0.take (s0.length)).drop 0))]
 else
 none) (([]:List T)++a0.es)
theorem ws (a0:T) (h:Yields (fun k=>qA (hl env k iS) (cl env k) a0) r):Yields (fun k=>cl env k me [a0]) r:=Yields.ca (qA · · a0) h (by kernel_rfl)
noncomputable abbrev H2 (H:HT) (C:aF) (a0:T):R:=
 (fun s0=>
 bif (decide (0≤(0:Int))&&(decide ((0:Int)≤s0)&&(decide (s0≤s0)&&decide (s0≤s0)))) then
 some [(T.sl ((a0.es.take a0.es.length).drop 0))]
 else
 none) (a0.es.length:Int)
theorem Jd (a0:T) (h:Yields (fun k=>H2 (hl env k F1) (cl env k) a0) r):Yields (fun k=>cl env k Eu [a0]) r:=Yields.ca (H2 · · a0) h (by kernel_rfl)
noncomputable abbrev Hd (H:HT) (C:aF) (a0:T):R:=
 (fun s0=>
 bif (decide (0≤(0:Int))&&(decide ((0:Int)≤s0)&&(decide (s0≤s0)&&decide (s0≤s0)))) then
 some [(T.sl ((a0.es.take a0.es.length).drop 0))]
 else
 none) (a0.es.length:Int)
theorem Jh (a0:T) (h:Yields (fun k=>Hd (hl env k F4) (cl env k) a0) r):Yields (fun k=>cl env k Fd [a0]) r:=Yields.ca (Hd · · a0) h (by kernel_rfl)
noncomputable abbrev Jm (H:HT) (C:aF) (a0 a1:T):R:=
 obind (C Fu [a1]) fun r1=>
 bif (decide (0≤(rt r1 0).i)&&decide (((rt r1 0).i).toNat < a0.es.length)) then
 bif (decide (0≤(rt r1 1).i)&&decide (((rt r1 1).i).toNat < ((a0.nth (((rt r1 0).i).toNat)).es).length)) then
 some [((a0.nth (((rt r1 0).i).toNat)).nth (((rt r1 1).i).toNat))]
 else
 none
 else
 none
theorem LY (a0 a1:T) (h:Yields (fun k=>Jm (hl env k Gw) (cl env k) a0 a1) r):Yields (fun k=>cl env k F3 [a0,a1]) r:=Yields.ca (Jm · · a0 a1) h (by kernel_rfl)
noncomputable def Fc (H:HT) (x1 x2 x3 x4 x5:T):R:=H (bS Ev.body 0) ([(0,.val 30 x1),(3,.pref 39 3 []),(5,.val 3 x2),(6,.val 3 x3),(8,.val 3 x4)],[(3,⟨39,x5,.fz,true⟩)])
noncomputable abbrev JC (H:HT) (C:aF) (a0 a1:T):R:=
 (fun s0=>
 (fun s1=>
 bif (((a1.fld 0).s).toList==(⟨#[110]⟩:ByteArray).toList) then
 obind (C EV [a1]) fun r1=>
 bif (rt r1 0).b then
 obind (C dZ [(a1.fld 1),s1,(T.int (1000000:Int))]) fun r2=>
 some [(rt r2 0)]
 else
 some [s0]
 else
 bif (((a1.fld 0).s).toList==(⟨#[98]⟩:ByteArray).toList) then
 obind (C EV [a1]) fun r1=>
 bif (rt r1 0).b then
 obind (C dZ [(a1.fld 1),s1,(T.int (1:Int))]) fun r2=>
 some [(rt r2 0)]
 else
 some [s0]
 else
 bif (((a1.fld 0).s).toList==(⟨#[111]⟩:ByteArray).toList) then
 obind (C EV [a1]) fun r1=>
 bif (rt r1 0).b then
 obind (C dZ [(a1.fld 1),s1,(T.int (3:Int))]) fun r2=>
 some [(rt r2 0)]
 else
 some [s0]
 else
 obind (C cU [(a1.fld 0)]) fun r1=>
 bif (!(rt r1 2).b) then
 some [s0]
 else
 obind (C mg [a0,(rt r1 0),(rt r1 1)]) fun r2=>
 bif (!(rt r2 0).b) then
 some [s0]
 else
 bif ((a1.fld 1).i != (0:Int)) then
 some [s0]
 else
 bif (decide ((((a1.fld 3).es).length:Int) > (0:Int))) then
 some [s0]
 else
 bif (decide (0≤(rt r1 0).i)&&decide (((rt r1 0).i).toNat < a0.es.length)) then
 bif (decide (0≤(rt r1 1).i)&&decide (((rt r1 1).i).toNat < ((a0.nth (((rt r1 0).i).toNat)).es).length)) then
 bif ((((a1.fld 2).es).length:Int) != (((((a0.nth (((rt r1 0).i).toNat)).nth (((rt r1 1).i).toNat)).fld 1).es).length:Int)) then
 some [s0]
 else
 Fc H a0 (rt r1 0) (rt r1 1) s1 a1
 else
 none
 else
 none) (T.int (0:Int))) (T.bool false)
theorem Nh (H:HT) (C:aF) (a0 a1:T):bI Ev env H C [a0,a1] =
 (fun s0=>
 (fun s1=>
 (fun s2=>
 (fun s3=>
 bif (((a1.fld 0).s).toList==(⟨#[110]⟩:ByteArray).toList) then
 obind (C EV [a1]) fun r1=>
 (fun s4=>
 bif (s4||(!s4)) then
 bif ((s4&&true)||(!s4)) then
 obind ((bif s4 then C dZ [(a1.fld 1),s3,(T.int (1000000:Int))] else some [])) fun r2=>
 bif (bif (rt r1 0).b then s4 else true) then
 some [(bif (rt r1 0).b then (rt r2 0) else (T.bool false))]
 else
 none
 else
 none
 else
 none) ((rt r1 0).b==true)
 else
 bif (((a1.fld 0).s).toList==(⟨#[98]⟩:ByteArray).toList) then
 obind (C EV [a1]) fun r3=>
 (fun s5=>
 bif (s5||(!s5)) then
 bif ((s5&&true)||(!s5)) then
 obind ((bif s5 then C dZ [(a1.fld 1),s3,(T.int (1:Int))] else some [])) fun r4=>
 bif (bif (rt r3 0).b then s5 else true) then
 some [(bif (rt r3 0).b then (rt r4 0) else (T.bool false))]
 else
 none
 else
 none
 else
 none) ((rt r3 0).b==true)
 else
 bif (((a1.fld 0).s).toList==(⟨#[111]⟩:ByteArray).toList) then
 obind (C EV [a1]) fun r5=>
 (fun s6=>
 bif (s6||(!s6)) then
 bif ((s6&&true)||(!s6)) then
 obind ((bif s6 then C dZ [(a1.fld 1),s3,(T.int (3:Int))] else some [])) fun r6=>
 bif (bif (rt r5 0).b then s6 else true) then
 some [(bif (rt r5 0).b then (rt r6 0) else (T.bool false))]
 else
 none
 else
 none
 else
 none) ((rt r5 0).b==true)
 else
 obind (C cU [(a1.fld 0)]) fun r7=>
 (fun s7=>
 bif (((s7==false)&&((s7==false)&&((s7==false)&&true)))||(!(s7==false))) then
 obind ((bif (s7==false) then C mg [a0,(rt r7 0),(rt r7 1)] else some [])) fun r8=>
 (fun s8=>
 (fun s9=>
 bif ((s7==false)||(!(s7==false))) then
 bif (bif s7 then true else (s7==false)) then
 bif ((s9.b==false)||(!(s9.b==false))) then
 bif ((((s9.b==false)&&true)&&true)||(!(s9.b==false))) then
 bif (bif s9.b then true else (s9.b==false)) then
 bif (((bif s9.b then s2 else s1).b==false)||(!((bif s9.b then s2 else s1).b==false))) then
 bif (((bif s9.b then s2 else s1).b==false)||(!((bif s9.b then s2 else s1).b==false))) then
 bif (((((bif s9.b then s2 else s1).b==false)&&true)&&true)||(!((bif s9.b then s2 else s1).b==false))) then
 bif (bif (bif s9.b then s2 else s1).b then true else ((bif s9.b then s2 else s1).b==false)) then
 bif (s8||(!s8)) then
 bif (s8||(!s8)) then
 bif (((s8&&(s8&&true))&&(decide (0≤(rt r7 0).i)&&decide (((rt r7 0).i).toNat < a0.es.length)))||(!s8)) then
 bif (s8||(!s8)) then
 bif (((s8&&(s8&&true))&&(decide (0≤(rt r7 1).i)&&decide (((rt r7 1).i).toNat < ((a0.nth (((rt r7 0).i).toNat)).es).length)))||(!s8)) then
 bif (s8||(!s8)) then
 bif (s8||(!s8)) then
 bif (s8||(!s8)) then
 bif (((s8&&s8)&&true)||(!s8)) then
 bif (bif (bif (bif s9.b then s2 else s1).b then s2 else s0).b then true else s8) then
 bif (bif (bif (bif s9.b then s2 else s1).b then s2 else s0).b then s2 else (T.bool ((((a1.fld 2).es).length:Int) != (((((a0.nth (((rt r7 0).i).toNat)).nth (((rt r7 1).i).toNat)).fld 1).es).length:Int)))).b then
 some [(T.bool false)]
 else
 Fc H a0 (rt r7 0) (rt r7 1) s3 a1
 else
 none
 else
 none
 else
 none
 else
 none
 else
 none
 else
 none
 else
 none
 else
 none
 else
 none
 else
 none
 else
 none
 else
 none
 else
 none
 else
 none
 else
 none
 else
 none
 else
 none
 else
 none
 else
 none) (bif s7 then s2 else (T.bool (!(rt r8 0).b)))) ((bif (bif (bif s7 then s2 else (T.bool (!(rt r8 0).b))).b then s2 else s1).b then s2 else s0).b==false)
 else
 none) (!(rt r7 2).b)) (T.int (0:Int))) (T.bool true)) (T.bool ((a1.fld 1).i != (0:Int)))) (T.bool (decide ((((a1.fld 3).es).length:Int) > (0:Int)))):=by kernel_rfl
theorem Nk (H:HT) (C:aF) (a0 a1:T):bI Ev env H C [a0,a1]=JC H C a0 a1:=by
 refine (Nh H C a0 a1).trans ?_
 unfold JC
 all_goals try dsimp only
 all_goals try simp only[bs]
 all_goals cases hc:((((a1.fld 0).s).toList==(⟨#[110]⟩:ByteArray).toList)) with
 | true=>
  try simp only[bs]
  all_goals refine br fun r1=>?_
  all_goals try simp only[bs]
  all_goals cases hc:((rt r1 0).b) with
  | true=>
   try simp only[bs]
   all_goals refine br fun r2=>?_
   all_goals try simp only[bs]
   all_goals kernel_rfl
  | false=>
   try simp only[bs]
   all_goals kernel_rfl
 | false=>
  try simp only[bs]
  all_goals cases hc:((((a1.fld 0).s).toList==(⟨#[98]⟩:ByteArray).toList)) with
  | true=>
   try simp only[bs]
   all_goals refine br fun r1=>?_
   all_goals try simp only[bs]
   all_goals cases hc:((rt r1 0).b) with
   | true=>
    try simp only[bs]
    all_goals refine br fun r2=>?_
    all_goals try simp only[bs]
    all_goals kernel_rfl
   | false=>
    try simp only[bs]
    all_goals kernel_rfl
  | false=>
   try simp only[bs]
   all_goals cases hc:((((a1.fld 0).s).toList==(⟨#[111]⟩:ByteArray).toList)) with
   | true=>
    try simp only[bs]
    all_goals refine br fun r1=>?_
    all_goals try simp only[bs]
    all_goals cases hc:((rt r1 0).b) with
    | true=>
     try simp only[bs]
     all_goals refine br fun r2=>?_
     all_goals try simp only[bs]
     all_goals kernel_rfl
    | false=>
     try simp only[bs]
     all_goals kernel_rfl
   | false=>
    try simp only[bs]
    all_goals refine br fun r1=>?_
    all_goals try simp only[bs]
    all_goals cases hc:((!(rt r1 2).b)) with
    | true=>
     try simp only[bs]
     all_goals kernel_rfl
    | false=>
     try simp only[bs]
     all_goals refine br fun r2=>?_
     all_goals try simp only[bs]
     all_goals cases hc:((!(rt r2 0).b)) with
     | true=>
      try simp only[bs]
      all_goals kernel_rfl
     | false=>
      try simp only[bs]
      all_goals cases hc:(((a1.fld 1).i != (0:Int))) with
      | true=>
       try simp only[bs]
       all_goals kernel_rfl
      | false=>
       try simp only[bs]
       all_goals cases hc:((decide ((((a1.fld 3).es).length:Int) > (0:Int)))) with
       | true=>
        try simp only[bs]
        all_goals kernel_rfl
       | false=>
        try simp only[bs]
        all_goals cases hc:((decide (0≤(rt r1 0).i)&&decide (((rt r1 0).i).toNat < a0.es.length))) with
        | true=>
         try simp only[bs]
         all_goals cases hc:((decide (0≤(rt r1 1).i)&&decide (((rt r1 1).i).toNat < ((a0.nth (((rt r1 0).i).toNat)).es).length))) with
         | true=>
          try simp only[bs]
          all_goals cases hc:(((((a1.fld 2).es).length:Int) != (((((a0.nth (((rt r1 0).i).toNat)).nth (((rt r1 1).i).toNat)).fld 1).es).length:Int))) with
          | true=>
           try simp only[bs]
           all_goals kernel_rfl
          | false=>
           try simp only[bs]
           all_goals kernel_rfl
         | false=>
          try simp only[bs]
          all_goals kernel_rfl
        | false=>
         try simp only[bs]
         all_goals kernel_rfl
theorem Hw (a0 a1:T) (h:Yields (fun k=>JC (hl env k Ev) (cl env k) a0 a1) r):Yields (fun k=>cl env k Fk [a0,a1]) r:=Yields.call (fi:=Ev) rfl rfl (fun H C=>Nk H C a0 a1) h
noncomputable abbrev II (H:HT) (C:aF) (x1 x2 x3 x4 x5:T):R:=
 (fun s0=>
 bif (decide (x4.i < (((x5.fld 2).es).length:Int))) then
 bif (decide (0≤x4.i)&&decide (x4.i.toNat < ((x5.fld 2).es).length)) then
 bif (decide (0≤x2.i)&&decide (x2.i.toNat < x1.es.length)) then
 bif (decide (0≤x3.i)&&decide (x3.i.toNat < ((x1.nth x2.i.toNat).es).length)) then
 bif (decide (0≤x4.i)&&decide (x4.i.toNat < (s0.es).length)) then
 bif (!(((((x5.fld 2).nth x4.i.toNat).fld 0).s).toList==((s0.nth x4.i.toNat).s).toList)) then
 some [(T.bool false)]
 else
 obind (C Fk [x1,((x5.fld 2).nth x4.i.toNat)]) fun r1=>
 bif (!(rt r1 0).b) then
 some [(T.bool false)]
 else
 Fc H x1 x2 x3 (T.int (IntKind.wrap .i64 (x4.i+(1:Int)))) x5
 else
 none
 else
 none
 else
 none
 else
 none
 else
 some [(T.bool true)]) (((x1.nth x2.i.toNat).nth x3.i.toNat).fld 1)
theorem MF (H:HT) (C:aF) (x1 x2 x3 x4 x5:T):iU Ev env H C (bS Ev.body 0) ([(0,.val 30 x1),(3,.pref 39 3 []),(5,.val 3 x2),(6,.val 3 x3),(8,.val 3 x4)],[(3,⟨39,x5,.fz,true⟩)]) =
 (fun s0=>
 (fun s1=>
 (fun s2=>
 bif (decide (x4.i < (((x5.fld 2).es).length:Int))) then
 bif s2 then
 bif (decide (0≤x2.i)&&decide (x2.i.toNat < x1.es.length)) then
 bif (decide (0≤x3.i)&&decide (x3.i.toNat < ((x1.nth x2.i.toNat).es).length)) then
 bif (decide (0≤x4.i)&&decide (x4.i.toNat < ((((x1.nth x2.i.toNat).nth x3.i.toNat).fld 1).es).length)) then
 bif (s1||(!s1)) then
 bif (((s1&&(s1&&true))&&s2)||(!s1)) then
 bif (s1||(!s1)) then
 bif ((s1&&(s1&&true))||(!s1)) then
 obind ((bif s1 then C Fk [x1,((x5.fld 2).nth x4.i.toNat)] else some [])) fun r1=>
 bif (s1||(!s1)) then
 bif (bif s0 then true else s1) then
 bif (bif s0 then (T.bool true) else (T.bool (!(rt r1 0).b))).b then
 some [(T.bool false)]
 else
 Fc H x1 x2 x3 (T.int (IntKind.wrap .i64 (x4.i+(1:Int)))) x5
 else
 none
 else
 none
 else
 none
 else
 none
 else
 none
 else
 none
 else
 none
 else
 none
 else
 none
 else
 none
 else
 some [(T.bool true)]) (decide (0≤x4.i)&&decide (x4.i.toNat < ((x5.fld 2).es).length))) (s0==false)) (!(((((x5.fld 2).nth x4.i.toNat).fld 0).s).toList==(((((x1.nth x2.i.toNat).nth x3.i.toNat).fld 1).nth x4.i.toNat).s).toList)):=by kernel_rfl
theorem MR (H:HT) (C:aF) (x1 x2 x3 x4 x5:T):iU Ev env H C (bS Ev.body 0) ([(0,.val 30 x1),(3,.pref 39 3 []),(5,.val 3 x2),(6,.val 3 x3),(8,.val 3 x4)],[(3,⟨39,x5,.fz,true⟩)])=II H C x1 x2 x3 x4 x5:=by
 refine (MF H C x1 x2 x3 x4 x5).trans ?_
 unfold II
 all_goals try dsimp only
 all_goals try simp only[bs]
 all_goals cases hc:((decide (x4.i < (((x5.fld 2).es).length:Int)))) with
 | true=>
  try simp only[bs]
  all_goals cases hc:((decide (0≤x4.i)&&decide (x4.i.toNat < ((x5.fld 2).es).length))) with
  | true=>
   try simp only[bs]
   all_goals cases hc:((decide (0≤x2.i)&&decide (x2.i.toNat < x1.es.length))) with
   | true=>
    try simp only[bs]
    all_goals cases hc:((decide (0≤x3.i)&&decide (x3.i.toNat < ((x1.nth x2.i.toNat).es).length))) with
    | true=>
     try simp only[bs]
     all_goals cases hc:((decide (0≤x4.i)&&decide (x4.i.toNat < ((((x1.nth x2.i.toNat).nth x3.i.toNat).fld 1).es).length))) with
     | true=>
      try simp only[bs]
      all_goals cases hc:((!(((((x5.fld 2).nth x4.i.toNat).fld 0).s).toList==(((((x1.nth x2.i.toNat).nth x3.i.toNat).fld 1).nth x4.i.toNat).s).toList))) with
      | true=>
       try simp only[bs]
       all_goals kernel_rfl
      | false=>
       try simp only[bs]
       all_goals refine br fun r1=>?_
       all_goals try simp only[bs]
       all_goals cases hc:((!(rt r1 0).b)) with
       | true=>
        try simp only[bs]
        all_goals kernel_rfl
       | false=>
        try simp only[bs]
        all_goals kernel_rfl
     | false=>
      try simp only[bs]
      all_goals kernel_rfl
    | false=>
     try simp only[bs]
     all_goals kernel_rfl
   | false=>
    try simp only[bs]
    all_goals kernel_rfl
  | false=>
   try simp only[bs]
   all_goals kernel_rfl
 | false=>
  try simp only[bs]
  all_goals kernel_rfl
theorem Kb (x1 x2 x3 x4 x5:T) (h:Yields (fun k=>II (hl env k Ev) (cl env k) x1 x2 x3 x4 x5) r):Yields (fun k=>Fc (hl env k Ev) x1 x2 x3 x4 x5) r:=Yields.head (fun H C=>MR H C x1 x2 x3 x4 x5) h
noncomputable def G8 (H:HT) (x1 x2 x3 x4:T):R:=H (bS Ed.body 0) ([(0,.val 30 x1),(10,.val 30 x2),(11,.val 3 x3),(12,.val 3 x4)],[])
noncomputable def G9 (H:HT) (x1 x2 x3 x4 x5 x6 x7:T):R:=H (bS Ed.body 1) ([(0,.val 30 x1),(4,.val 3 x2),(10,.val 30 x3),(11,.val 3 x4),(12,.val 3 x5),(22,.val 3 x6),(23,.val 3 x7)],[])
noncomputable abbrev Jk (H:HT) (C:aF) (a0:T):R:=
 bif (decide ((a0.es.length:Int) > (3:Int))) then
 some [(T.int (3:Int)),(T.int (0:Int))]
 else
 G8 H a0 a0 (T.int (a0.es.length:Int)) (T.int (0:Int))
theorem Jt (a0:T) (h:Yields (fun k=>Jk (hl env k Ed) (cl env k) a0) r):Yields (fun k=>cl env k HQ [a0]) r:=Yields.ca (Jk · · a0) h (by kernel_rfl)
noncomputable abbrev IN (H:HT) (C:aF) (x1 x2 x3 x4:T):R:=
 (fun s0=>
 bif (decide (x4.i < x3.i)) then
 bif (decide (0≤x4.i)&&decide (x4.i.toNat < x2.es.length)) then
 bif (decide (s0 > (3:Int))) then
 some [x4,(T.int (3:Int))]
 else
 G9 H x1 x4 x2 x3 x4 (T.int s0) (T.int (0:Int))
 else
 none
 else
 some [(T.int (-1:Int)),(T.int (-1:Int))]) (((x2.nth x4.i.toNat).es).length:Int)
theorem Ho (x1 x2 x3 x4:T) (h:Yields (fun k=>IN (hl env k Ed) (cl env k) x1 x2 x3 x4) r):Yields (fun k=>G8 (hl env k Ed) x1 x2 x3 x4) r:=Yields.hd (IN · · x1 x2 x3 x4) h (by kernel_rfl)
noncomputable abbrev IO (H:HT) (C:aF) (x1 x2 x3 x4 x5 x6 x7:T):R:=
 bif (decide (x7.i < x6.i)) then
 obind (C GF [x1,x2,x7]) fun r1=>
 bif (!(rt r1 0).b) then
 some [x2,x7]
 else
 G9 H x1 x2 x3 x4 x5 x6 (T.int (IntKind.wrap .i64 (x7.i+(1:Int))))
 else
 G8 H x1 x3 x4 (T.int (IntKind.wrap .i64 (x5.i+(1:Int))))
theorem Hp (x1 x2 x3 x4 x5 x6 x7:T) (h:Yields (fun k=>IO (hl env k Ed) (cl env k) x1 x2 x3 x4 x5 x6 x7) r):Yields (fun k=>G9 (hl env k Ed) x1 x2 x3 x4 x5 x6 x7) r:=Yields.hd (IO · · x1 x2 x3 x4 x5 x6 x7) h (by kernel_rfl)
noncomputable abbrev oR (H:HT) (C:aF) (a0:T):R:=
 obind (C nb []) fun r1=>
 obind (C aG [a0,(T.int (((rt r1 0).es).length:Int))]) fun r2=>
 (fun s0=>
 bif (decide (0≤(rt r2 0).i)&&decide (((rt r2 0).i).toNat < ((rt r1 0).es).length)) then
 bif (decide ((s0.fld 1).i > (0:Int))) then
 obind (C aG [(rt (r2.drop 1) 0),(T.int (bif decide ((12:Int) < (s0.fld 1).i) then (12:Int) else (s0.fld 1).i))]) fun r3=>
 (fun s1=>
 bif (decide ((s1.fld 2).i > (0:Int))) then
 obind (C aG [(rt (r3.drop 1) 0),(s1.fld 2)]) fun r4=>
 some [(T.st (s1.fs.set 2 (rt r4 0))),(rt (r4.drop 1) 0)]
 else
 some [s1,(rt (r3.drop 1) 0)]) (T.st (s0.fs.set 1 (rt r3 0)))
 else
 bif (decide ((s0.fld 2).i > (0:Int))) then
 obind (C aG [(rt (r2.drop 1) 0),(s0.fld 2)]) fun r5=>
 some [(T.st (s0.fs.set 2 (rt r5 0))),(rt (r5.drop 1) 0)]
 else
 some [s0,(rt (r2.drop 1) 0)]
 else
 none) ((rt r1 0).nth (((rt r2 0).i).toNat))
theorem yx (a0:T) (h:Yields (fun k=>oR (hl env k nJ) (cl env k) a0) r):Yields (fun k=>cl env k fp [a0]) r:=Yields.ca (oR · · a0) h (by kernel_rfl)
noncomputable def gZ (H:HT) (x1 x2 x3 x4 x5:T):R:=H (bS dN.body 0) ([(0,.pref 87 100000 []),(1,.val 30 x1),(3,.val 4 x2),(9,.sref 95 9 []),(10,.val 3 x3)],[(100000,⟨87,x4,(.st [.fo,.dp]),true⟩),(9,⟨95,x5,(.sl .dp),false⟩)])
noncomputable abbrev mF (H:HT) (C:aF) (a0 a1 a2 a3:T):R:=
 obind (C aG [a0,(T.int (IntKind.wrap .i64 (a2.i+(1:Int))))]) fun r1=>
 gZ H a1 a3 (rt r1 0) (rt (r1.drop 1) 0) (T.sl [])
theorem wD (a0 a1 a2 a3:T) (h:Yields (fun k=>mF (hl env k dN) (cl env k) a0 a1 a2 a3) r):Yields (fun k=>cl env k cP [a0,a1,a2,a3]) r:=Yields.ca (mF · · a0 a1 a2 a3) h (by kernel_rfl)
noncomputable abbrev gU (H:HT) (C:aF) (x1 x2 x3 x4 x5:T):R:=
 bif (decide (x3.i > (0:Int))) then
 obind (C hL [x4,x1,x2]) fun r1=>
 bif (decide (x5.es.length + [(rt r1 0)].length≤LIM)) then
 gZ H x1 x2 (T.int (IntKind.wrap .i64 (x3.i - (1:Int)))) (rt (r1.drop 1) 0) (T.sl (x5.es ++ [(rt r1 0)]))
 else
 none
 else
 some [x5,x4]
theorem pn (x1 x2 x3 x4 x5:T) (h:Yields (fun k=>gU (hl env k dN) (cl env k) x1 x2 x3 x4 x5) r):Yields (fun k=>gZ (hl env k dN) x1 x2 x3 x4 x5) r:=Yields.hd (gU · · x1 x2 x3 x4 x5) h (by kernel_rfl)
noncomputable def jV (H:HT) (x1 x2 x3 x4 x5:T):R:=H (bS ci.body 0) ([(0,.pref 87 100000 []),(1,.val 30 x1),(4,.pref 114 4 []),(5,.pref 114 5 []),(6,.val 3 x2)],[(100000,⟨87,x3,(.st [.fo,.dp]),true⟩),(4,⟨114,x4,.dp,true⟩),(5,⟨114,x5,(.st [.dp,.dp]),true⟩)])
noncomputable def gB (H:HT) (x1 x2 x3 x4 x5:T):R:=H (bS ci.body 0) ([(0,.pref 87 100000 []),(1,.val 30 x1),(4,.pref 114 4 []),(5,.pref 114 5 []),(6,.val 3 x2)],[(100000,⟨87,x3,(.st [.fo,.dp]),true⟩),(4,⟨114,x4,.dp,true⟩),(5,⟨114,x5,(.st [.dp,(.sl .dp)]),true⟩)])
noncomputable abbrev lL (H:HT) (C:aF) (a0 a1:T):R:=
 obind (C dH [a0,(T.sl [(T.int (0:Int)),(T.int (4:Int)),(T.int (8:Int)),(T.int (12:Int)),(T.int (12:Int)),(T.int (7:Int)),(T.int (15:Int)),(T.int (3:Int)),(T.int (6:Int)),(T.int (2:Int))])]) fun r1=>
 obind (C aG [(rt (r1.drop 1) 0),(T.int (4:Int))]) fun r2=>
 jV H a1 (rt r2 0) (rt (r2.drop 1) 0) (T.st [(T.int (0:Int)),(T.sl [])]) (T.st [(rt r1 0),(T.sl [])])
theorem uZ (a0 a1:T) (h:Yields (fun k=>lL (hl env k ci) (cl env k) a0 a1) r):Yields (fun k=>cl env k ix [a0,a1]) r:=Yields.ca (lL · · a0 a1) h (by kernel_rfl)
noncomputable abbrev gn (H:HT) (C:aF) (x1 x2 x3 x4 x5:T):R:=
 (fun s0=>
 (fun s1=>
 bif (decide (x2.i > (0:Int))) then
 obind (C hL [x3,x1,(T.bool false)]) fun r1=>
 bif (decide ((s1.es).length + [(rt r1 0)].length≤LIM)) then
 gB H x1 (T.int (IntKind.wrap .i64 (x2.i - (1:Int)))) (rt (r1.drop 1) 0) x4 (T.st (x5.fs.set 1 (T.sl (s1.es ++ [(rt r1 0)]))))
 else
 none
 else
 obind (C aG [x3,(T.int (12:Int))]) fun r2=>
 bif ((rt r2 0).i==(0:Int)) then
 obind (C dH [(rt (r2.drop 1) 0),(T.sl [(T.int (-1:Int)),(T.int (16:Int)),(T.int (1:Int)),(T.int (5:Int))])]) fun r3=>
 (fun s2=>
 obind (C aG [(rt (r3.drop 1) 0),(T.int (15:Int))]) fun r4=>
 bif ((rt r4 0).i==(0:Int)) then
 obind (C cB [(rt (r4.drop 1) 0),s0]) fun r5=>
 (fun s3=>
 bif (decide (((s2.fld 1).es).length + [(rt r5 0)].length≤LIM)) then
 some [(T.st [(s3.fld 0),(s3.fld 1)]),(rt (r5.drop 1) 0)]
 else
 none) (T.st (s2.fs.set 1 (T.sl ((s2.fld 1).es ++ [(rt r5 0)]))))
 else
 some [(T.st [(s2.fld 0),(s2.fld 1)]),(rt (r4.drop 1) 0)]) (T.st (x5.fs.set 0 (rt r3 0)))
 else
 obind (C aG [(rt (r2.drop 1) 0),(T.int (15:Int))]) fun r6=>
 bif ((rt r6 0).i==(0:Int)) then
 obind (C cB [(rt (r6.drop 1) 0),s0]) fun r7=>
 (fun s4=>
 bif (decide ((s1.es).length + [(rt r7 0)].length≤LIM)) then
 some [(T.st [(s4.fld 0),(s4.fld 1)]),(rt (r7.drop 1) 0)]
 else
 none) (T.st (x5.fs.set 1 (T.sl (s1.es ++ [(rt r7 0)]))))
 else
 some [(T.st [(x5.fld 0),s1]),(rt (r6.drop 1) 0)]) (x5.fld 1)) (T.sl [(T.str k_x),(T.str (⟨#[]⟩:ByteArray)),(T.str vS),(T.str sZ),(T.str k_S)])
theorem ou (x1 x2 x3 x4 x5:T) (h:Yields (fun k=>gn (hl env k ci) (cl env k) x1 x2 x3 x4 x5) r):Yields (fun k=>jV (hl env k ci) x1 x2 x3 x4 x5) r:=Yields.hd (gn · · x1 x2 x3 x4 x5) h (by kernel_rfl)
noncomputable abbrev gp (H:HT) (C:aF) (x1 x2 x3 x4 x5:T):R:=gn H C x1 x2 x3 x4 x5
theorem Ix (x1 x2 x3 x4 x5:T) (h:Yields (fun k=>gp (hl env k ci) (cl env k) x1 x2 x3 x4 x5) r):Yields (fun k=>gB (hl env k ci) x1 x2 x3 x4 x5) r:=Yields.hd (gp · · x1 x2 x3 x4 x5) h (by kernel_rfl)
noncomputable def lU (H:HT) (x1 x2 x3 x4:T):R:=H (bS bo.body 0) ([(1,.pref 98 1 []),(2,.pref 25 2 []),(3,.pref 25 3 []),(4,.val 3 x1)],[(1,⟨98,x2,.fz,true⟩),(2,⟨25,x3,.dp,true⟩),(3,⟨25,x4,(.st [.dp,.dp]),true⟩)])
noncomputable def eP (H:HT) (x1 x2 x3 x4:T):R:=H (bS bo.body 0) ([(1,.pref 98 1 []),(2,.pref 25 2 []),(3,.pref 25 3 []),(4,.val 3 x1)],[(1,⟨98,x2,.fz,true⟩),(2,⟨25,x3,.dp,true⟩),(3,⟨25,x4,(.st [.dp,(.sl .dp)]),true⟩)])
noncomputable def lV (H:HT) (x1 x2 x3 x4:T):R:=H (bS bo.body 1) ([(1,.pref 98 1 []),(2,.pref 25 2 []),(3,.pref 25 3 []),(6,.val 3 x1)],[(1,⟨98,x2,.fz,true⟩),(2,⟨25,x3,.dp,true⟩),(3,⟨25,x4,(.st [.dp,.dp]),true⟩)])
noncomputable def fS (H:HT) (x1 x2 x3 x4:T):R:=H (bS bo.body 1) ([(1,.pref 98 1 []),(2,.pref 25 2 []),(3,.pref 25 3 []),(6,.val 3 x1)],[(1,⟨98,x2,.fz,true⟩),(2,⟨25,x3,.dp,true⟩),(3,⟨25,x4,(.st [.dp,(.sl .dp)]),true⟩)])
noncomputable abbrev nl (H:HT) (C:aF) (a0:T):R:=
 lU H (T.int (0:Int)) a0 (T.st [(T.sl []),(T.sl [])]) (T.st [(T.sl []),(T.sl [])])
theorem xn (a0:T) (h:Yields (fun k=>nl (hl env k bo) (cl env k) a0) r):Yields (fun k=>cl env k nc [a0]) r:=Yields.ca (nl · · a0) h (by kernel_rfl)
noncomputable abbrev lB (H:HT) (C:aF) (x1 x2 x3 x4:T):R:=
 (fun s0=>
 (fun s1=>
 (fun s2=>
 (fun s3=>
 bif (decide (x1.i < (((x2.fld 1).es).length:Int))) then
 bif s1 then
 bif s1 then
 obind (C bO [s0]) fun r1=>
 bif (rt r1 0).b then
 bif (decide (((x4.fld 1).es).length + [s3].length≤LIM)) then
 eP H s2 x2 x3 (T.st (x4.fs.set 1 (T.sl ((x4.fld 1).es ++ [s3]))))
 else
 none
 else
 bif (decide (((x4.fld 1).es).length + [(T.st [s0,(T.sl [])])].length≤LIM)) then
 eP H s2 x2 x3 (T.st (x4.fs.set 1 (T.sl ((x4.fld 1).es ++ [(T.st [s0,(T.sl [])])]))))
 else
 none
 else
 none
 else
 none
 else
 lV H (T.int (0:Int)) x2 x3 x4) (T.st [s0,(T.sl [(T.int (9:Int))])])) (T.int (IntKind.wrap .i64 (x1.i+(1:Int))))) (decide (0≤x1.i)&&decide (x1.i.toNat < ((x2.fld 1).es).length))) ((x2.fld 1).nth x1.i.toNat)
theorem uP (x1 x2 x3 x4:T) (h:Yields (fun k=>lB (hl env k bo) (cl env k) x1 x2 x3 x4) r):Yields (fun k=>lU (hl env k bo) x1 x2 x3 x4) r:=Yields.hd (lB · · x1 x2 x3 x4) h (by kernel_rfl)
noncomputable abbrev iD (H:HT) (C:aF) (x1 x2 x3 x4:T):R:=
 (fun s0=>
 (fun s1=>
 (fun s2=>
 (fun s3=>
 bif (decide (x1.i < (((x2.fld 1).es).length:Int))) then
 bif s1 then
 bif s1 then
 obind (C bO [s0]) fun r1=>
 bif (rt r1 0).b then
 bif (decide (((x4.fld 1).es).length + [s3].length≤LIM)) then
 eP H s2 x2 x3 (T.st (x4.fs.set 1 (T.sl ((x4.fld 1).es ++ [s3]))))
 else
 none
 else
 bif (decide (((x4.fld 1).es).length + [(T.st [s0,(T.sl [])])].length≤LIM)) then
 eP H s2 x2 x3 (T.st (x4.fs.set 1 (T.sl ((x4.fld 1).es ++ [(T.st [s0,(T.sl [])])]))))
 else
 none
 else
 none
 else
 none
 else
 fS H (T.int (0:Int)) x2 x3 x4) (T.st [s0,(T.sl [(T.int (9:Int))])])) (T.int (IntKind.wrap .i64 (x1.i+(1:Int))))) (decide (0≤x1.i)&&decide (x1.i.toNat < ((x2.fld 1).es).length))) ((x2.fld 1).nth x1.i.toNat)
theorem qj (x1 x2 x3 x4:T) (h:Yields (fun k=>iD (hl env k bo) (cl env k) x1 x2 x3 x4) r):Yields (fun k=>eP (hl env k bo) x1 x2 x3 x4) r:=Yields.hd (iD · · x1 x2 x3 x4) h (by kernel_rfl)
noncomputable abbrev lC (H:HT) (C:aF) (x1 x2 x3 x4:T):R:=
 (fun s0=>
 bif (decide (x1.i < (((x2.fld 3).es).length:Int))) then
 bif (decide (((x4.fld 1).es).length + [s0].length≤LIM)) then
 fS H (T.int (IntKind.wrap .i64 (x1.i+(1:Int)))) x2 x3 (T.st (x4.fs.set 1 (T.sl ((x4.fld 1).es ++ [s0]))))
 else
 none
 else
 some [(T.st [(x4.fld 0),(x4.fld 1)])]) (T.st [(T.str (⟨#[]⟩:ByteArray)),(T.sl [])])
theorem uQ (x1 x2 x3 x4:T) (h:Yields (fun k=>lC (hl env k bo) (cl env k) x1 x2 x3 x4) r):Yields (fun k=>lV (hl env k bo) x1 x2 x3 x4) r:=Yields.hd (lC · · x1 x2 x3 x4) h (by kernel_rfl)
noncomputable abbrev iE (H:HT) (C:aF) (x1 x2 x3 x4:T):R:=lC H C x1 x2 x3 x4
theorem qk (x1 x2 x3 x4:T) (h:Yields (fun k=>iE (hl env k bo) (cl env k) x1 x2 x3 x4) r):Yields (fun k=>fS (hl env k bo) x1 x2 x3 x4) r:=Yields.hd (iE · · x1 x2 x3 x4) h (by kernel_rfl)
noncomputable abbrev oP (H:HT) (C:aF) (a0 a1 a2 a3 a4 a5:T):R:=
 obind (C nd [a4]) fun r1=>
 obind (C lv [(T.st [a0,a1,a2,a3,(T.st [((rt r1 0).fld 0),((rt r1 0).fld 1)]),(T.int (0:Int))]),a5]) fun r2=>
 (fun s0=>
 bif ((s0.fld 5).i != (0:Int)) then
 some [(T.st [(T.sl []),(T.sl [])]),(s0.fld 5)]
 else
 some [(T.st [((s0.fld 4).fld 0),((s0.fld 4).fld 1)]),(T.int (0:Int))]) (rt (r2.drop 0) 0)
theorem yv (a0 a1 a2 a3 a4 a5:T) (h:Yields (fun k=>oP (hl env k nI) (cl env k) a0 a1 a2 a3 a4 a5) r):Yields (fun k=>cl env k dG [a0,a1,a2,a3,a4,a5]) r:=Yields.ca (oP · · a0 a1 a2 a3 a4 a5) h (by kernel_rfl)
noncomputable def n7 (H:HT) (x1 x2 x3 x4 x5 x6:T):R:=H (bS cn.body 0) ([(0,.val 9 x1),(2,.pref 92 2 []),(4,.pref 92 4 []),(5,.sref 95 5 []),(6,.val 4 x2),(7,.val 3 x3)],[(2,⟨92,x4,.dp,true⟩),(4,⟨92,x5,(.st [.dp,.dp,.dp]),true⟩),(5,⟨95,x6,.dp,false⟩)])
noncomputable def jp (H:HT) (x1 x2 x3 x4 x5 x6:T):R:=H (bS cn.body 0) ([(0,.val 9 x1),(2,.pref 92 2 []),(4,.pref 92 4 []),(5,.sref 95 5 []),(6,.val 4 x2),(7,.val 3 x3)],[(2,⟨92,x4,.dp,true⟩),(4,⟨92,x5,(.st [(.sl (.st [.dp,.fz])),(.sl (.st [.dp,.fz,.fz,.fz,.fz,.dp])),.fz]),true⟩),(5,⟨95,x6,.dp,false⟩)])
noncomputable abbrev kz (H:HT) (C:aF) (a0:T):R:=
 (fun s0=>
 bif (decide ((a0.s.size:Int) > (4000:Int))) then
 some [s0,(T.bool false)]
 else
 obind (C qZ [a0]) fun r1=>
 n7 H a0 (rt r1 1) (T.int (0:Int)) s0 s0 (rt r1 0)) (T.st [(T.sl []),(T.sl []),(T.sl [])])
theorem tU (a0:T) (h:Yields (fun k=>kz (hl env k cn) (cl env k) a0) r):Yields (fun k=>cl env k p9 [a0]) r:=Yields.ca (kz · · a0) h (by kernel_rfl)
noncomputable abbrev eK (H:HT) (C:aF) (x1 x2 x3 x4 x5 x6:T):R:=
 (fun s0=>
 (fun s1=>
 bif (decide (x3.i < (x6.es.length:Int))) then
 bif x2.b then
 bif (decide (0≤x3.i)&&decide (x3.i.toNat < x6.es.length)) then
 obind (C aI [s0,(x6.nth x3.i.toNat)]) fun r1=>
 jp H x1 (rt r1 1) (T.int (IntKind.wrap .i64 (x3.i+(1:Int)))) x4 (T.st [((rt r1 0).fld 0),((rt r1 0).fld 1),((rt r1 0).fld 2)]) x6
 else
 none
 else
 bif (!x2.b) then
 some [s1,(T.bool false)]
 else
 obind (C eA [s0]) fun r2=>
 bif (!(((rt r2 0).s).toList==x1.s.toList)) then
 some [s1,(T.bool false)]
 else
 some [s0,(T.bool true)]
 else
 bif (!x2.b) then
 some [s1,(T.bool false)]
 else
 obind (C eA [s0]) fun r3=>
 bif (!(((rt r3 0).s).toList==x1.s.toList)) then
 some [s1,(T.bool false)]
 else
 some [s0,(T.bool true)]) (T.st [(T.sl []),(T.sl []),(T.sl [])])) (T.st [(x5.fld 0),(x5.fld 1),(x5.fld 2)])
theorem sq (x1 x2 x3 x4 x5 x6:T) (h:Yields (fun k=>eK (hl env k cn) (cl env k) x1 x2 x3 x4 x5 x6) r):Yields (fun k=>n7 (hl env k cn) x1 x2 x3 x4 x5 x6) r:=Yields.hd (eK · · x1 x2 x3 x4 x5 x6) h (by kernel_rfl)
noncomputable abbrev mZ (H:HT) (C:aF) (x1 x2 x3 x4 x5 x6:T):R:=eK H C x1 x2 x3 x4 x5 x6
theorem sr (x1 x2 x3 x4 x5 x6:T) (h:Yields (fun k=>mZ (hl env k cn) (cl env k) x1 x2 x3 x4 x5 x6) r):Yields (fun k=>jp (hl env k cn) x1 x2 x3 x4 x5 x6) r:=Yields.hd (mZ · · x1 x2 x3 x4 x5 x6) h (by kernel_rfl)
noncomputable def dU (H:HT) (x1 x2 x3 x4 x5:T):R:=H (bS cj.body 0) ([(0,.pref 87 100000 []),(2,.val 3 x1),(6,.pref 98 6 []),(7,.pref 98 7 []),(9,.val 3 x2)],[(100000,⟨87,x3,(.st [.fo,.dp]),true⟩),(6,⟨98,x4,.dp,true⟩),(7,⟨98,x5,(.st [.dp,.dp,.dp,.dp,.dp,.dp]),true⟩)])
noncomputable def eX (H:HT) (x1 x2 x3 x4 x5:T):R:=H (bS cj.body 0) ([(0,.pref 87 100000 []),(2,.val 3 x1),(6,.pref 98 6 []),(7,.pref 98 7 []),(9,.val 3 x2)],[(100000,⟨87,x3,(.st [.fo,.dp]),true⟩),(6,⟨98,x4,.dp,true⟩),(7,⟨98,x5,(.st [.dp,.dp,.dp,.dp,(.sl .dp),.dp]),true⟩)])
noncomputable abbrev lM (H:HT) (C:aF) (a0 a1 a2:T):R:=
 (fun s0=>
 (fun s1=>
 (fun s2=>
 (fun s3=>
 obind (C dH [a0,(T.sl [s1,s1,s1,s2,(T.int (1:Int))])]) fun r1=>
 bif (decide ((rt r1 0).i < (2:Int))) then
 obind (C cP [(rt (r1.drop 1) 0),a1,s1,(T.bool true)]) fun r2=>
 obind (C cP [(rt (r2.drop 1) 0),a1,s3,(T.bool true)]) fun r3=>
 obind (C aG [(rt (r3.drop 1) 0),s3]) fun r4=>
 obind (C cP [(rt (r4.drop 1) 0),a1,s1,(T.bool ((rt r4 0).i==(0:Int)))]) fun r5=>
 dU H a2 s2 (rt (r5.drop 1) 0) s0 (T.st [(rt r1 0),(rt r2 0),(rt r5 0),(rt r3 0),(T.sl []),(T.sl [])])
 else
 obind (C aG [(rt (r1.drop 1) 0),(T.int (4:Int))]) fun r6=>
 obind (C cP [(rt (r6.drop 1) 0),a1,s1,(T.bool ((rt r6 0).i==(0:Int)))]) fun r7=>
 obind (C cP [(rt (r7.drop 1) 0),a1,s3,(T.bool true)]) fun r8=>
 bif ((rt r6 0).i==(0:Int)) then
 obind (C aG [(rt (r8.drop 1) 0),s3]) fun r9=>
 obind (C cP [(rt (r9.drop 1) 0),a1,s1,(T.bool ((rt r9 0).i==(0:Int)))]) fun r10=>
 dU H a2 s2 (rt (r10.drop 1) 0) s0 (T.st [(rt r1 0),(rt r7 0),(rt r10 0),(rt r8 0),(T.sl []),(T.sl [])])
 else
 obind (C cP [(rt (r8.drop 1) 0),a1,s1,(T.bool false)]) fun r11=>
 dU H a2 s2 (rt (r11.drop 1) 0) s0 (T.st [(rt r1 0),(rt r7 0),(rt r11 0),(rt r8 0),(T.sl []),(T.sl [])])) (T.int (3:Int))) (T.int (0:Int))) (T.int (2:Int))) (T.st [(T.int (0:Int)),(T.sl []),(T.sl []),(T.sl []),(T.sl []),(T.sl [])])
theorem Lu (a0 a1 a2:T) (h:Yields (fun k=>lM (hl env k cj) (cl env k) a0 a1 a2) r):Yields (fun k=>cl env k iy [a0,a1,a2]) r:=Yields.ca (lM · · a0 a1 a2) h (by kernel_rfl)
noncomputable abbrev gq (H:HT) (C:aF) (x1 x2 x3 x4 x5:T):R:=
 (fun s0=>
 (fun s1=>
 bif (decide (x2.i < x1.i)) then
 obind (C aG [x3,(T.int (3:Int))]) fun r1=>
 bif (decide ((rt r1 0).i > (0:Int))) then
 bif (decide (((x5.fld 4).es).length + [x2].length≤LIM)) then
 eX H x1 s1 (rt (r1.drop 1) 0) x4 (T.st (x5.fs.set 4 (T.sl ((x5.fld 4).es ++ [x2]))))
 else
 none
 else
 dU H x1 s1 (rt (r1.drop 1) 0) x4 x5
 else
 some [(T.st [(s0.fld 0),(s0.fld 1),(s0.fld 2),(s0.fld 3),(s0.fld 4),(s0.fld 5)]),x3]) (T.int (IntKind.wrap .i64 (x2.i+(1:Int))))) (T.st (x5.fs.set 5 (T.sl [(T.st [(T.str bE),(T.int (1:Int)),(T.int (0:Int))]),(T.st [(T.str bm),(T.int (0:Int)),(T.int (0:Int))])])))
theorem ox (x1 x2 x3 x4 x5:T) (h:Yields (fun k=>gq (hl env k cj) (cl env k) x1 x2 x3 x4 x5) r):Yields (fun k=>dU (hl env k cj) x1 x2 x3 x4 x5) r:=Yields.hd (gq · · x1 x2 x3 x4 x5) h (by kernel_rfl)
noncomputable abbrev gr (H:HT) (C:aF) (x1 x2 x3 x4 x5:T):R:=
 (fun s0=>
 (fun s1=>
 bif (decide (x2.i < x1.i)) then
 obind (C aG [x3,(T.int (3:Int))]) fun r1=>
 bif (decide ((rt r1 0).i > (0:Int))) then
 bif (decide (((x5.fld 4).es).length + [x2].length≤LIM)) then
 eX H x1 s1 (rt (r1.drop 1) 0) x4 (T.st (x5.fs.set 4 (T.sl ((x5.fld 4).es ++ [x2]))))
 else
 none
 else
 eX H x1 s1 (rt (r1.drop 1) 0) x4 x5
 else
 some [(T.st [(s0.fld 0),(s0.fld 1),(s0.fld 2),(s0.fld 3),(s0.fld 4),(s0.fld 5)]),x3]) (T.int (IntKind.wrap .i64 (x2.i+(1:Int))))) (T.st (x5.fs.set 5 (T.sl [(T.st [(T.str bE),(T.int (1:Int)),(T.int (0:Int))]),(T.st [(T.str bm),(T.int (0:Int)),(T.int (0:Int))])])))
theorem oz (x1 x2 x3 x4 x5:T) (h:Yields (fun k=>gr (hl env k cj) (cl env k) x1 x2 x3 x4 x5) r):Yields (fun k=>eX (hl env k cj) x1 x2 x3 x4 x5) r:=Yields.hd (gr · · x1 x2 x3 x4 x5) h (by kernel_rfl)
noncomputable def dO (H:HT) (x1 x2 x3 x4 x5 x6 x7 x8:T):R:=H (bS bp.body 0) ([(0,.pref 87 100000 []),(1,.val 57 x1),(2,.val 3 x2),(7,.pref 98 7 []),(9,.val 30 x3),(10,.pref 25 10 []),(11,.sref 96 11 []),(12,.val 3 x4)],[(100000,⟨87,x5,(.st [.fo,.dp]),true⟩),(7,⟨98,x6,.fz,true⟩),(10,⟨25,x7,(.st [.dp,.dp]),true⟩),(11,⟨96,x8,(.sl .dp),false⟩)])
noncomputable def aW (H:HT) (x1 x2 x3 x4 x5 x6 x7 x8:T):R:=H (bS bp.body 0) ([(0,.pref 87 100000 []),(1,.val 57 x1),(2,.val 3 x2),(7,.pref 98 7 []),(9,.val 30 x3),(10,.pref 25 10 []),(11,.sref 96 11 []),(12,.val 3 x4)],[(100000,⟨87,x5,(.st [.fo,.dp]),true⟩),(7,⟨98,x6,.fz,true⟩),(10,⟨25,x7,(.st [(.sl (.st [.dp,.fz])),(.sl (.st [.dp,.fz]))]),true⟩),(11,⟨96,x8,(.sl .dp),false⟩)])
noncomputable def cG (H:HT) (x1 x2 x3 x4 x5 x6 x7 x8:T):R:=H (bS bp.body 0) ([(0,.pref 87 100000 []),(1,.val 57 x1),(2,.val 3 x2),(7,.pref 98 7 []),(9,.val 30 x3),(10,.pref 25 10 []),(11,.sref 96 11 []),(12,.val 3 x4)],[(100000,⟨87,x5,(.st [.fo,.dp]),true⟩),(7,⟨98,x6,.fz,true⟩),(10,⟨25,x7,(.st [.fz,.fz]),true⟩),(11,⟨96,x8,(.sl .dp),false⟩)])
noncomputable def bg (H:HT) (x1 x2 x3 x4 x5 x6 x7 x8:T):R:=H (bS bp.body 0) ([(0,.pref 87 100000 []),(1,.val 57 x1),(2,.val 3 x2),(7,.pref 98 7 []),(9,.val 30 x3),(10,.pref 25 10 []),(11,.sref 96 11 []),(12,.val 3 x4)],[(100000,⟨87,x5,(.st [.fo,.dp]),true⟩),(7,⟨98,x6,.fz,true⟩),(10,⟨25,x7,.fz,true⟩),(11,⟨96,x8,(.sl .dp),false⟩)])
noncomputable abbrev nu (H:HT) (C:aF) (a0 a1 a2 a3:T):R:=
 obind (C d9 [a1]) fun r1=>
 obind (C nc [a3]) fun r2=>
 obind (C aG [a0,(T.int (50:Int))]) fun r3=>
 dO H a1 a2 (rt r1 0) (T.int (IntKind.wrap .i64 ((6:Int)+(rt r3 0).i))) (rt (r3.drop 1) 0) a3 (T.st [((rt r2 0).fld 0),((rt r2 0).fld 1)]) (T.sl [])
theorem xu (a0 a1 a2 a3:T) (h:Yields (fun k=>nu (hl env k bp) (cl env k) a0 a1 a2 a3) r):Yields (fun k=>cl env k ng [a0,a1,a2,a3]) r:=Yields.ca (nu · · a0 a1 a2 a3) h (by kernel_rfl)
noncomputable abbrev iI (H:HT) (C:aF) (x1 x2 x3 x4 x5 x6 x7 x8:T):R:=
 (fun s0=>
 (fun s1=>
 (fun s2=>
 (fun s3=>
 (fun s4=>
 (fun s5=>
 bif (decide (x4.i > (0:Int))) then
 bif (decide ((x8.es.length:Int) < (20:Int))) then
 obind (C fp [x5]) fun r1=>
 (fun s6=>
 (fun s7=>
 (fun s8=>
 bif (s8.toList==Ko.toList) then
 dO H x1 x2 x3 s0 s7 x6 x7 x8
 else
 bif (s8.toList==dz.toList) then
 dO H x1 x2 x3 s0 s7 x6 x7 x8
 else
 bif (s8.toList==o8.toList) then
 dO H x1 x2 x3 s0 s7 x6 x7 x8
 else
 bif (s8.toList==bm.toList) then
 dO H x1 x2 x3 s0 s7 x6 x7 x8
 else
 obind (C dG [x1,x3,x2,x6,x7,(rt r1 0)]) fun r2=>
 (fun s9=>
 (fun s10=>
 (fun s11=>
 bif ((rt r2 1).i==(0:Int)) then
 bif (decide (x8.es.length + [(rt r1 0)].length≤LIM)) then
 bif (decide (((s10.es).length:Int) > (0:Int))) then
 bif (decide (0≤s9)&&decide (s9.toNat < (s10.es).length)) then
 bif ((((s10.nth (s9.toNat)).fld 0).s).toList==k_b.toList) then
 obind (C aG [s7,(T.int (4:Int))]) fun r3=>
 bif ((rt r3 0).i==(0:Int)) then
 bif (decide ((s6.length:Int) < (17:Int))) then
 obind (C aG [(rt (r3.drop 1) 0),(T.int (5:Int))]) fun r4=>
 bif (decide (s6.length + [(T.st [(T.str dz),(T.int (IntKind.wrap .i64 ((s6.length:Int)+(3:Int)))),s2]),(T.st [(T.str bE),(rt r4 0),s2]),s4].length≤LIM)) then
 bif (decide (0≤(0:Int))&&(decide ((0:Int)≤s9)&&(decide (s9≤((s10.es).length:Int))&&decide (((s10.es).length:Int)≤((s10.es).length:Int))))) then
 aW H x1 x2 x3 s0 (rt (r4.drop 1) 0) x6 (T.st [(T.sl (((s10.es).take (s9.toNat)).drop 0)),((rt r2 0).fld 1)]) (T.sl (s6 ++ [(T.st [(T.str dz),(T.int (IntKind.wrap .i64 ((s6.length:Int)+(3:Int)))),s2]),(T.st [(T.str bE),(rt r4 0),s2]),s4]))
 else
 none
 else
 none
 else
 aW H x1 x2 x3 s0 (rt (r3.drop 1) 0) x6 s11 (T.sl s6)
 else
 aW H x1 x2 x3 s0 (rt (r3.drop 1) 0) x6 s11 (T.sl s6)
 else
 aW H x1 x2 x3 s0 s7 x6 s11 (T.sl s6)
 else
 none
 else
 aW H x1 x2 x3 s0 s7 x6 s11 (T.sl s6)
 else
 none
 else
 bif (decide (s5 > (0:Int))) then
 bif (decide (0≤s1)&&decide (s1.toNat < ((x7.fld 0).es).length)) then
 bif (((((x7.fld 0).nth (s1.toNat)).fld 0).s).toList==k_b.toList) then
 obind (C aG [s7,(T.int (4:Int))]) fun r5=>
 bif ((rt r5 0).i==(0:Int)) then
 bif (decide ((x8.es.length:Int) < (17:Int))) then
 obind (C aG [(rt (r5.drop 1) 0),(T.int (5:Int))]) fun r6=>
 bif (decide (x8.es.length + [s3,(T.st [(T.str bE),(rt r6 0),s2]),s4].length≤LIM)) then
 bif (decide (0≤(0:Int))&&(decide ((0:Int)≤s1)&&(decide (s1≤s5)&&decide (s5≤s5)))) then
 cG H x1 x2 x3 s0 (rt (r6.drop 1) 0) x6 (T.st (x7.fs.set 0 (T.sl ((((x7.fld 0).es).take (s1.toNat)).drop 0)))) (T.sl (x8.es ++ [s3,(T.st [(T.str bE),(rt r6 0),s2]),s4]))
 else
 none
 else
 none
 else
 bg H x1 x2 x3 s0 (rt (r5.drop 1) 0) x6 x7 x8
 else
 bg H x1 x2 x3 s0 (rt (r5.drop 1) 0) x6 x7 x8
 else
 bg H x1 x2 x3 s0 s7 x6 x7 x8
 else
 none
 else
 bg H x1 x2 x3 s0 s7 x6 x7 x8) (T.st [s10,((rt r2 0).fld 1)])) ((rt r2 0).fld 0)) (IntKind.wrap .i64 (((((rt r2 0).fld 0).es).length:Int) - (1:Int)))) (((rt r1 0).fld 0).s)) (rt (r1.drop 1) 0)) (x8.es ++ [(rt r1 0)])
 else
 obind (C du [x5,x1,x3,x2,x6,(T.st [(x7.fld 0),(x7.fld 1)]),x8]) fun r7=>
 some [(rt r7 0),(rt (r7.drop 1) 0)]
 else
 obind (C du [x5,x1,x3,x2,x6,(T.st [(x7.fld 0),(x7.fld 1)]),x8]) fun r8=>
 some [(rt r8 0),(rt (r8.drop 1) 0)]) (((x7.fld 0).es).length:Int)) (T.st [(T.str bm),s2,s2])) (T.st [(T.str dz),(T.int (IntKind.wrap .i64 ((x8.es.length:Int)+(3:Int)))),s2])) (T.int (0:Int))) (IntKind.wrap .i64 ((((x7.fld 0).es).length:Int) - (1:Int)))) (T.int (IntKind.wrap .i64 (x4.i - (1:Int))))
theorem qo (x1 x2 x3 x4 x5 x6 x7 x8:T) (h:Yields (fun k=>iI (hl env k bp) (cl env k) x1 x2 x3 x4 x5 x6 x7 x8) r):Yields (fun k=>dO (hl env k bp) x1 x2 x3 x4 x5 x6 x7 x8) r:=Yields.hd (iI · · x1 x2 x3 x4 x5 x6 x7 x8) h (by kernel_rfl)
noncomputable abbrev iJ (H:HT) (C:aF) (x1 x2 x3 x4 x5 x6 x7 x8:T):R:=
 (fun s0=>
 (fun s1=>
 (fun s2=>
 (fun s3=>
 (fun s4=>
 (fun s5=>
 bif (decide (x4.i > (0:Int))) then
 bif (decide ((x8.es.length:Int) < (20:Int))) then
 obind (C fp [x5]) fun r1=>
 (fun s6=>
 (fun s7=>
 (fun s8=>
 bif (s8.toList==Ko.toList) then
 aW H x1 x2 x3 s0 s7 x6 x7 x8
 else
 bif (s8.toList==dz.toList) then
 aW H x1 x2 x3 s0 s7 x6 x7 x8
 else
 bif (s8.toList==o8.toList) then
 aW H x1 x2 x3 s0 s7 x6 x7 x8
 else
 bif (s8.toList==bm.toList) then
 aW H x1 x2 x3 s0 s7 x6 x7 x8
 else
 obind (C dG [x1,x3,x2,x6,x7,(rt r1 0)]) fun r2=>
 (fun s9=>
 (fun s10=>
 (fun s11=>
 bif ((rt r2 1).i==(0:Int)) then
 bif (decide (x8.es.length + [(rt r1 0)].length≤LIM)) then
 bif (decide (((s10.es).length:Int) > (0:Int))) then
 bif (decide (0≤s9)&&decide (s9.toNat < (s10.es).length)) then
 bif ((((s10.nth (s9.toNat)).fld 0).s).toList==k_b.toList) then
 obind (C aG [s7,(T.int (4:Int))]) fun r3=>
 bif ((rt r3 0).i==(0:Int)) then
 bif (decide ((s6.length:Int) < (17:Int))) then
 obind (C aG [(rt (r3.drop 1) 0),(T.int (5:Int))]) fun r4=>
 bif (decide (s6.length + [(T.st [(T.str dz),(T.int (IntKind.wrap .i64 ((s6.length:Int)+(3:Int)))),s2]),(T.st [(T.str bE),(rt r4 0),s2]),s4].length≤LIM)) then
 bif (decide (0≤(0:Int))&&(decide ((0:Int)≤s9)&&(decide (s9≤((s10.es).length:Int))&&decide (((s10.es).length:Int)≤((s10.es).length:Int))))) then
 aW H x1 x2 x3 s0 (rt (r4.drop 1) 0) x6 (T.st [(T.sl (((s10.es).take (s9.toNat)).drop 0)),((rt r2 0).fld 1)]) (T.sl (s6 ++ [(T.st [(T.str dz),(T.int (IntKind.wrap .i64 ((s6.length:Int)+(3:Int)))),s2]),(T.st [(T.str bE),(rt r4 0),s2]),s4]))
 else
 none
 else
 none
 else
 aW H x1 x2 x3 s0 (rt (r3.drop 1) 0) x6 s11 (T.sl s6)
 else
 aW H x1 x2 x3 s0 (rt (r3.drop 1) 0) x6 s11 (T.sl s6)
 else
 aW H x1 x2 x3 s0 s7 x6 s11 (T.sl s6)
 else
 none
 else
 aW H x1 x2 x3 s0 s7 x6 s11 (T.sl s6)
 else
 none
 else
 bif (decide (s5 > (0:Int))) then
 bif (decide (0≤s1)&&decide (s1.toNat < ((x7.fld 0).es).length)) then
 bif (((((x7.fld 0).nth (s1.toNat)).fld 0).s).toList==k_b.toList) then
 obind (C aG [s7,(T.int (4:Int))]) fun r5=>
 bif ((rt r5 0).i==(0:Int)) then
 bif (decide ((x8.es.length:Int) < (17:Int))) then
 obind (C aG [(rt (r5.drop 1) 0),(T.int (5:Int))]) fun r6=>
 bif (decide (x8.es.length + [s3,(T.st [(T.str bE),(rt r6 0),s2]),s4].length≤LIM)) then
 bif (decide (0≤(0:Int))&&(decide ((0:Int)≤s1)&&(decide (s1≤s5)&&decide (s5≤s5)))) then
 cG H x1 x2 x3 s0 (rt (r6.drop 1) 0) x6 (T.st (x7.fs.set 0 (T.sl ((((x7.fld 0).es).take (s1.toNat)).drop 0)))) (T.sl (x8.es ++ [s3,(T.st [(T.str bE),(rt r6 0),s2]),s4]))
 else
 none
 else
 none
 else
 bg H x1 x2 x3 s0 (rt (r5.drop 1) 0) x6 x7 x8
 else
 bg H x1 x2 x3 s0 (rt (r5.drop 1) 0) x6 x7 x8
 else
 bg H x1 x2 x3 s0 s7 x6 x7 x8
 else
 none
 else
 bg H x1 x2 x3 s0 s7 x6 x7 x8) (T.st [s10,((rt r2 0).fld 1)])) ((rt r2 0).fld 0)) (IntKind.wrap .i64 (((((rt r2 0).fld 0).es).length:Int) - (1:Int)))) (((rt r1 0).fld 0).s)) (rt (r1.drop 1) 0)) (x8.es ++ [(rt r1 0)])
 else
 obind (C du [x5,x1,x3,x2,x6,(T.st [(x7.fld 0),(x7.fld 1)]),x8]) fun r7=>
 some [(rt r7 0),(rt (r7.drop 1) 0)]
 else
 obind (C du [x5,x1,x3,x2,x6,(T.st [(x7.fld 0),(x7.fld 1)]),x8]) fun r8=>
 some [(rt r8 0),(rt (r8.drop 1) 0)]) (((x7.fld 0).es).length:Int)) (T.st [(T.str bm),s2,s2])) (T.st [(T.str dz),(T.int (IntKind.wrap .i64 ((x8.es.length:Int)+(3:Int)))),s2])) (T.int (0:Int))) (IntKind.wrap .i64 ((((x7.fld 0).es).length:Int) - (1:Int)))) (T.int (IntKind.wrap .i64 (x4.i - (1:Int))))
theorem qp (x1 x2 x3 x4 x5 x6 x7 x8:T) (h:Yields (fun k=>iJ (hl env k bp) (cl env k) x1 x2 x3 x4 x5 x6 x7 x8) r):Yields (fun k=>aW (hl env k bp) x1 x2 x3 x4 x5 x6 x7 x8) r:=Yields.hd (iJ · · x1 x2 x3 x4 x5 x6 x7 x8) h (by kernel_rfl)
noncomputable abbrev iK (H:HT) (C:aF) (x1 x2 x3 x4 x5 x6 x7 x8:T):R:=
 (fun s0=>
 (fun s1=>
 (fun s2=>
 (fun s3=>
 (fun s4=>
 (fun s5=>
 bif (decide (x4.i > (0:Int))) then
 bif (decide ((x8.es.length:Int) < (20:Int))) then
 obind (C fp [x5]) fun r1=>
 (fun s6=>
 (fun s7=>
 (fun s8=>
 bif (s8.toList==Ko.toList) then
 cG H x1 x2 x3 s0 s7 x6 x7 x8
 else
 bif (s8.toList==dz.toList) then
 cG H x1 x2 x3 s0 s7 x6 x7 x8
 else
 bif (s8.toList==o8.toList) then
 cG H x1 x2 x3 s0 s7 x6 x7 x8
 else
 bif (s8.toList==bm.toList) then
 cG H x1 x2 x3 s0 s7 x6 x7 x8
 else
 obind (C dG [x1,x3,x2,x6,x7,(rt r1 0)]) fun r2=>
 (fun s9=>
 (fun s10=>
 (fun s11=>
 bif ((rt r2 1).i==(0:Int)) then
 bif (decide (x8.es.length + [(rt r1 0)].length≤LIM)) then
 bif (decide (((s10.es).length:Int) > (0:Int))) then
 bif (decide (0≤s9)&&decide (s9.toNat < (s10.es).length)) then
 bif ((((s10.nth (s9.toNat)).fld 0).s).toList==k_b.toList) then
 obind (C aG [s7,(T.int (4:Int))]) fun r3=>
 bif ((rt r3 0).i==(0:Int)) then
 bif (decide ((s6.length:Int) < (17:Int))) then
 obind (C aG [(rt (r3.drop 1) 0),(T.int (5:Int))]) fun r4=>
 bif (decide (s6.length + [(T.st [(T.str dz),(T.int (IntKind.wrap .i64 ((s6.length:Int)+(3:Int)))),s2]),(T.st [(T.str bE),(rt r4 0),s2]),s4].length≤LIM)) then
 bif (decide (0≤(0:Int))&&(decide ((0:Int)≤s9)&&(decide (s9≤((s10.es).length:Int))&&decide (((s10.es).length:Int)≤((s10.es).length:Int))))) then
 aW H x1 x2 x3 s0 (rt (r4.drop 1) 0) x6 (T.st [(T.sl (((s10.es).take (s9.toNat)).drop 0)),((rt r2 0).fld 1)]) (T.sl (s6 ++ [(T.st [(T.str dz),(T.int (IntKind.wrap .i64 ((s6.length:Int)+(3:Int)))),s2]),(T.st [(T.str bE),(rt r4 0),s2]),s4]))
 else
 none
 else
 none
 else
 aW H x1 x2 x3 s0 (rt (r3.drop 1) 0) x6 s11 (T.sl s6)
 else
 aW H x1 x2 x3 s0 (rt (r3.drop 1) 0) x6 s11 (T.sl s6)
 else
 aW H x1 x2 x3 s0 s7 x6 s11 (T.sl s6)
 else
 none
 else
 aW H x1 x2 x3 s0 s7 x6 s11 (T.sl s6)
 else
 none
 else
 bif (decide (s5 > (0:Int))) then
 bif (decide (0≤s1)&&decide (s1.toNat < ((x7.fld 0).es).length)) then
 bif (((((x7.fld 0).nth (s1.toNat)).fld 0).s).toList==k_b.toList) then
 obind (C aG [s7,(T.int (4:Int))]) fun r5=>
 bif ((rt r5 0).i==(0:Int)) then
 bif (decide ((x8.es.length:Int) < (17:Int))) then
 obind (C aG [(rt (r5.drop 1) 0),(T.int (5:Int))]) fun r6=>
 bif (decide (x8.es.length + [s3,(T.st [(T.str bE),(rt r6 0),s2]),s4].length≤LIM)) then
 bif (decide (0≤(0:Int))&&(decide ((0:Int)≤s1)&&(decide (s1≤s5)&&decide (s5≤s5)))) then
 cG H x1 x2 x3 s0 (rt (r6.drop 1) 0) x6 (T.st (x7.fs.set 0 (T.sl ((((x7.fld 0).es).take (s1.toNat)).drop 0)))) (T.sl (x8.es ++ [s3,(T.st [(T.str bE),(rt r6 0),s2]),s4]))
 else
 none
 else
 none
 else
 bg H x1 x2 x3 s0 (rt (r5.drop 1) 0) x6 x7 x8
 else
 bg H x1 x2 x3 s0 (rt (r5.drop 1) 0) x6 x7 x8
 else
 bg H x1 x2 x3 s0 s7 x6 x7 x8
 else
 none
 else
 bg H x1 x2 x3 s0 s7 x6 x7 x8) (T.st [s10,((rt r2 0).fld 1)])) ((rt r2 0).fld 0)) (IntKind.wrap .i64 (((((rt r2 0).fld 0).es).length:Int) - (1:Int)))) (((rt r1 0).fld 0).s)) (rt (r1.drop 1) 0)) (x8.es ++ [(rt r1 0)])
 else
 obind (C du [x5,x1,x3,x2,x6,(T.st [(x7.fld 0),(x7.fld 1)]),x8]) fun r7=>
 some [(rt r7 0),(rt (r7.drop 1) 0)]
 else
 obind (C du [x5,x1,x3,x2,x6,(T.st [(x7.fld 0),(x7.fld 1)]),x8]) fun r8=>
 some [(rt r8 0),(rt (r8.drop 1) 0)]) (((x7.fld 0).es).length:Int)) (T.st [(T.str bm),s2,s2])) (T.st [(T.str dz),(T.int (IntKind.wrap .i64 ((x8.es.length:Int)+(3:Int)))),s2])) (T.int (0:Int))) (IntKind.wrap .i64 ((((x7.fld 0).es).length:Int) - (1:Int)))) (T.int (IntKind.wrap .i64 (x4.i - (1:Int))))
theorem qq (x1 x2 x3 x4 x5 x6 x7 x8:T) (h:Yields (fun k=>iK (hl env k bp) (cl env k) x1 x2 x3 x4 x5 x6 x7 x8) r):Yields (fun k=>cG (hl env k bp) x1 x2 x3 x4 x5 x6 x7 x8) r:=Yields.hd (iK · · x1 x2 x3 x4 x5 x6 x7 x8) h (by kernel_rfl)
noncomputable abbrev iL (H:HT) (C:aF) (x1 x2 x3 x4 x5 x6 x7 x8:T):R:=
 (fun s0=>
 (fun s1=>
 (fun s2=>
 (fun s3=>
 (fun s4=>
 (fun s5=>
 bif (decide (x4.i > (0:Int))) then
 bif (decide ((x8.es.length:Int) < (20:Int))) then
 obind (C fp [x5]) fun r1=>
 (fun s6=>
 (fun s7=>
 (fun s8=>
 bif (s8.toList==Ko.toList) then
 bg H x1 x2 x3 s0 s7 x6 x7 x8
 else
 bif (s8.toList==dz.toList) then
 bg H x1 x2 x3 s0 s7 x6 x7 x8
 else
 bif (s8.toList==o8.toList) then
 bg H x1 x2 x3 s0 s7 x6 x7 x8
 else
 bif (s8.toList==bm.toList) then
 bg H x1 x2 x3 s0 s7 x6 x7 x8
 else
 obind (C dG [x1,x3,x2,x6,x7,(rt r1 0)]) fun r2=>
 (fun s9=>
 (fun s10=>
 (fun s11=>
 bif ((rt r2 1).i==(0:Int)) then
 bif (decide (x8.es.length + [(rt r1 0)].length≤LIM)) then
 bif (decide (((s10.es).length:Int) > (0:Int))) then
 bif (decide (0≤s9)&&decide (s9.toNat < (s10.es).length)) then
 bif ((((s10.nth (s9.toNat)).fld 0).s).toList==k_b.toList) then
 obind (C aG [s7,(T.int (4:Int))]) fun r3=>
 bif ((rt r3 0).i==(0:Int)) then
 bif (decide ((s6.length:Int) < (17:Int))) then
 obind (C aG [(rt (r3.drop 1) 0),(T.int (5:Int))]) fun r4=>
 bif (decide (s6.length + [(T.st [(T.str dz),(T.int (IntKind.wrap .i64 ((s6.length:Int)+(3:Int)))),s2]),(T.st [(T.str bE),(rt r4 0),s2]),s4].length≤LIM)) then
 bif (decide (0≤(0:Int))&&(decide ((0:Int)≤s9)&&(decide (s9≤((s10.es).length:Int))&&decide (((s10.es).length:Int)≤((s10.es).length:Int))))) then
 aW H x1 x2 x3 s0 (rt (r4.drop 1) 0) x6 (T.st [(T.sl (((s10.es).take (s9.toNat)).drop 0)),((rt r2 0).fld 1)]) (T.sl (s6 ++ [(T.st [(T.str dz),(T.int (IntKind.wrap .i64 ((s6.length:Int)+(3:Int)))),s2]),(T.st [(T.str bE),(rt r4 0),s2]),s4]))
 else
 none
 else
 none
 else
 aW H x1 x2 x3 s0 (rt (r3.drop 1) 0) x6 s11 (T.sl s6)
 else
 aW H x1 x2 x3 s0 (rt (r3.drop 1) 0) x6 s11 (T.sl s6)
 else
 aW H x1 x2 x3 s0 s7 x6 s11 (T.sl s6)
 else
 none
 else
 aW H x1 x2 x3 s0 s7 x6 s11 (T.sl s6)
 else
 none
 else
 bif (decide (s5 > (0:Int))) then
 bif (decide (0≤s1)&&decide (s1.toNat < ((x7.fld 0).es).length)) then
 bif (((((x7.fld 0).nth (s1.toNat)).fld 0).s).toList==k_b.toList) then
 obind (C aG [s7,(T.int (4:Int))]) fun r5=>
 bif ((rt r5 0).i==(0:Int)) then
 bif (decide ((x8.es.length:Int) < (17:Int))) then
 obind (C aG [(rt (r5.drop 1) 0),(T.int (5:Int))]) fun r6=>
 bif (decide (x8.es.length + [s3,(T.st [(T.str bE),(rt r6 0),s2]),s4].length≤LIM)) then
 bif (decide (0≤(0:Int))&&(decide ((0:Int)≤s1)&&(decide (s1≤s5)&&decide (s5≤s5)))) then
 cG H x1 x2 x3 s0 (rt (r6.drop 1) 0) x6 (T.st (x7.fs.set 0 (T.sl ((((x7.fld 0).es).take (s1.toNat)).drop 0)))) (T.sl (x8.es ++ [s3,(T.st [(T.str bE),(rt r6 0),s2]),s4]))
 else
 none
 else
 none
 else
 bg H x1 x2 x3 s0 (rt (r5.drop 1) 0) x6 x7 x8
 else
 bg H x1 x2 x3 s0 (rt (r5.drop 1) 0) x6 x7 x8
 else
 bg H x1 x2 x3 s0 s7 x6 x7 x8
 else
 none
 else
 bg H x1 x2 x3 s0 s7 x6 x7 x8) (T.st [s10,((rt r2 0).fld 1)])) ((rt r2 0).fld 0)) (IntKind.wrap .i64 (((((rt r2 0).fld 0).es).length:Int) - (1:Int)))) (((rt r1 0).fld 0).s)) (rt (r1.drop 1) 0)) (x8.es ++ [(rt r1 0)])
 else
 obind (C du [x5,x1,x3,x2,x6,x7,x8]) fun r7=>
 some [(rt r7 0),(rt (r7.drop 1) 0)]
 else
 obind (C du [x5,x1,x3,x2,x6,x7,x8]) fun r8=>
 some [(rt r8 0),(rt (r8.drop 1) 0)]) (((x7.fld 0).es).length:Int)) (T.st [(T.str bm),s2,s2])) (T.st [(T.str dz),(T.int (IntKind.wrap .i64 ((x8.es.length:Int)+(3:Int)))),s2])) (T.int (0:Int))) (IntKind.wrap .i64 ((((x7.fld 0).es).length:Int) - (1:Int)))) (T.int (IntKind.wrap .i64 (x4.i - (1:Int))))
theorem qr (x1 x2 x3 x4 x5 x6 x7 x8:T) (h:Yields (fun k=>iL (hl env k bp) (cl env k) x1 x2 x3 x4 x5 x6 x7 x8) r):Yields (fun k=>bg (hl env k bp) x1 x2 x3 x4 x5 x6 x7 x8) r:=Yields.hd (iL · · x1 x2 x3 x4 x5 x6 x7 x8) h (by kernel_rfl)
noncomputable def fw (H:HT) (x1 x2:T):R:=H (bS bw.body 0) ([(0,.val 30 x1),(4,.val 3 x2)],[])
noncomputable def gX (H:HT) (x1 x2 x3:T):R:=H (bS bw.body 1) ([(0,.val 30 x1),(4,.val 3 x2),(5,.val 3 x3)],[])
noncomputable abbrev mt (H:HT) (C:aF) (a0:T):R:=
 bif (decide ((a0.es.length:Int) > (3:Int))) then
 some [(T.int (3:Int)),(T.int (0:Int))]
 else
 fw H a0 (T.int (0:Int))
theorem wu (a0:T) (h:Yields (fun k=>mt (hl env k bw) (cl env k) a0) r):Yields (fun k=>cl env k qx [a0]) r:=Yields.ca (mt · · a0) h (by kernel_rfl)
noncomputable abbrev gN (H:HT) (C:aF) (x1 x2:T):R:=
 bif (decide (x2.i < (x1.es.length:Int))) then
 bif (decide (0≤x2.i)&&decide (x2.i.toNat < x1.es.length)) then
 bif (decide ((((x1.nth x2.i.toNat).es).length:Int) > (3:Int))) then
 some [x2,(T.int (3:Int))]
 else
 gX H x1 x2 (T.int (0:Int))
 else
 none
 else
 some [(T.int (-1:Int)),(T.int (-1:Int))]
theorem pc (x1 x2:T) (h:Yields (fun k=>gN (hl env k bw) (cl env k) x1 x2) r):Yields (fun k=>fw (hl env k bw) x1 x2) r:=Yields.hd (gN · · x1 x2) h (by kernel_rfl)
noncomputable abbrev gO (H:HT) (C:aF) (x1 x2 x3:T):R:=
 bif (decide (0≤x2.i)&&decide (x2.i.toNat < x1.es.length)) then
 bif (decide (x3.i < (((x1.nth x2.i.toNat).es).length:Int))) then
 obind (C mh [x1,x2,x3]) fun r1=>
 bif (!(rt r1 0).b) then
 some [x2,x3]
 else
 gX H x1 x2 (T.int (IntKind.wrap .i64 (x3.i+(1:Int))))
 else
 fw H x1 (T.int (IntKind.wrap .i64 (x2.i+(1:Int))))
 else
 none
theorem pf (x1 x2 x3:T) (h:Yields (fun k=>gO (hl env k bw) (cl env k) x1 x2 x3) r):Yields (fun k=>gX (hl env k bw) x1 x2 x3) r:=Yields.hd (gO · · x1 x2 x3) h (by kernel_rfl)
noncomputable abbrev If (H:HT) (C:aF) (a0 a1:T):R:=
 bif (a1.s.toList==(⟨#[110]⟩:ByteArray).toList) then
 some [(T.bool true)]
 else
 bif (a1.s.toList==(⟨#[98]⟩:ByteArray).toList) then
 some [(T.bool true)]
 else
 bif (a1.s.toList==(⟨#[111]⟩:ByteArray).toList) then
 some [(T.bool true)]
 else
 obind (C ER [a0,a1]) fun r1=>
 some [(rt r1 0)]
theorem M3 (H:HT) (C:aF) (a0 a1:T):bI G0 env H C [a0,a1] =
 (fun s0=>
 (fun s1=>
 (fun s2=>
 (fun s3=>
 bif ((((s2==false)&&true)&&true)||(!(s2==false))) then
 bif (bif s2 then true else (s2==false)) then
 bif ((((s1.b==false)&&true)&&true)||(!(s1.b==false))) then
 bif (bif s1.b then true else (s1.b==false)) then
 bif ((s3&&(s3&&true))||(!s3)) then
 obind ((bif s3 then C ER [a0,a1] else some [])) fun r1=>
 bif (bif s0.b then true else s3) then
 some [(bif s0.b then (T.bool true) else (rt r1 0))]
 else
 none
 else
 none
 else
 none
 else
 none
 else
 none
 else
 none) (s0.b==false)) (a1.s.toList==(⟨#[110]⟩:ByteArray).toList)) (bif (a1.s.toList==(⟨#[110]⟩:ByteArray).toList) then (T.bool true) else (T.bool (a1.s.toList==(⟨#[98]⟩:ByteArray).toList)))) (bif (bif (a1.s.toList==(⟨#[110]⟩:ByteArray).toList) then (T.bool true) else (T.bool (a1.s.toList==(⟨#[98]⟩:ByteArray).toList))).b then (T.bool true) else (T.bool (a1.s.toList==(⟨#[111]⟩:ByteArray).toList))):=by kernel_rfl
theorem Me (H:HT) (C:aF) (a0 a1:T):bI G0 env H C [a0,a1]=If H C a0 a1:=by
 refine (M3 H C a0 a1).trans ?_
 unfold If
 all_goals try dsimp only
 all_goals try simp only[bs]
 all_goals cases hc:((a1.s.toList==(⟨#[110]⟩:ByteArray).toList)) with
 | true=>
  try simp only[bs]
  all_goals kernel_rfl
 | false=>
  try simp only[bs]
  all_goals cases hc:((a1.s.toList==(⟨#[98]⟩:ByteArray).toList)) with
  | true=>
   try simp only[bs]
   all_goals kernel_rfl
  | false=>
   try simp only[bs]
   all_goals cases hc:((a1.s.toList==(⟨#[111]⟩:ByteArray).toList)) with
   | true=>
    try simp only[bs]
    all_goals kernel_rfl
   | false=>
    try simp only[bs]
    all_goals refine br fun r1=>?_
    all_goals try simp only[bs]
    all_goals kernel_rfl
theorem Mn (a0 a1:T) (h:Yields (fun k=>If (hl env k G0) (cl env k) a0 a1) r):Yields (fun k=>cl env k ET [a0,a1]) r:=Yields.call (fi:=G0) rfl rfl (fun H C=>Me H C a0 a1) h
noncomputable abbrev pa (H:HT) (C:aF) (a0:T):R:=
 (fun s0=>
 bif (decide (0≤(0:Int))&&(decide ((0:Int)≤s0)&&(decide (s0≤s0)&&decide (s0≤s0)))) then
 some [(T.sl ((a0.es.take a0.es.length).drop 0))]
 else
 none) (a0.es.length:Int)
theorem tT (a0:T) (h:Yields (fun k=>pa (hl env k gw) (cl env k) a0) r):Yields (fun k=>cl env k kx [a0]) r:=Yields.ca (pa · · a0) h (by kernel_rfl)
noncomputable abbrev H9 (H:HT) (C:aF) (a0:T):R:=
 bif ((((a0.fld 2).es).length:Int)==(0:Int)) then
 some [(T.bool ((((a0.fld 3).es).length:Int)==(0:Int)))]
 else
 some [(T.bool false)]
theorem Mr (a0:T) (h:Yields (fun k=>H9 (hl env k G2) (cl env k) a0) r):Yields (fun k=>cl env k EV [a0]) r:=Yields.ca (H9 · · a0) h (by kernel_rfl)
noncomputable def Ef (H:HT) (x1 x2 x3 x4 x5 x6 x7:T):R:=H (bS Eb.body 0) ([(0,.val 30 x1),(1,.val 3 x2),(2,.val 3 x3),(7,.pref 114 7 []),(36,.val 95 x4),(37,.val 3 x5),(38,.val 3 x6)],[(7,⟨114,x7,.fz,true⟩)])
noncomputable abbrev HX (H:HT) (C:aF) (a0 a1 a2:T):R:=
 (fun s0=>
 bif (decide (0≤a1.i)&&decide (a1.i.toNat < a0.es.length)) then
 bif (decide (0≤a2.i)&&decide (a2.i.toNat < ((a0.nth a1.i.toNat).es).length)) then
 bif (decide ((s0.fld 0).i < (0:Int))) then
 some [(T.bool false)]
 else
 bif (decide ((s0.fld 0).i > (15:Int))) then
 some [(T.bool false)]
 else
 bif (decide ((((s0.fld 1).es).length:Int) > (3:Int))) then
 some [(T.bool false)]
 else
 Ef H a0 a1 a2 (s0.fld 1) (T.int (((s0.fld 1).es).length:Int)) (T.int (0:Int)) s0
 else
 none
 else
 none) ((a0.nth a1.i.toNat).nth a2.i.toNat)
theorem LZ (a0 a1 a2:T) (h:Yields (fun k=>HX (hl env k Eb) (cl env k) a0 a1 a2) r):Yields (fun k=>cl env k GF [a0,a1,a2]) r:=Yields.ca (HX · · a0 a1 a2) h (by kernel_rfl)
noncomputable abbrev Hj (H:HT) (C:aF) (x1 x2 x3 x4 x5 x6 x7:T):R:=
 (fun s0=>
 (fun s1=>
 (fun s2=>
 (fun s3=>
 (fun s4=>
 (fun s5=>
 bif (decide (x6.i < x5.i)) then
 bif (decide (0≤x6.i)&&decide (x6.i.toNat < x4.es.length)) then
 obind (C Fu [s5]) fun r1=>
 bif (rt r1 2).b then
 bif (decide ((rt r1 0).i > x2.i)) then
 some [s4]
 else
 bif ((rt r1 0).i==x2.i) then
 bif (decide ((rt r1 1).i≥x3.i)) then
 some [s4]
 else
 obind (C ET [x1,s5]) fun r2=>
 bif (!(rt r2 0).b) then
 some [s4]
 else
 obind (C Ft [x1,s5]) fun r3=>
 bif ((IntKind.wrap .i64 ((BitVec.ofInt s3.bits s1 &&& ~~~ BitVec.ofInt s3.bits ((rt r3 0).i)).toNat:Nat)) != (0:Int)) then
 some [s4]
 else
 bif s0 then
 bif ((IntKind.wrap .i64 ((BitVec.ofInt s3.bits ((rt r3 0).i) &&& BitVec.ofInt s3.bits (4:Int)).toNat:Nat))==(0:Int)) then
 some [s4]
 else
 Ef H x1 x2 x3 x4 x5 s2 x7
 else
 Ef H x1 x2 x3 x4 x5 s2 x7
 else
 obind (C ET [x1,s5]) fun r4=>
 bif (!(rt r4 0).b) then
 some [s4]
 else
 obind (C Ft [x1,s5]) fun r5=>
 bif ((IntKind.wrap .i64 ((BitVec.ofInt s3.bits s1 &&& ~~~ BitVec.ofInt s3.bits ((rt r5 0).i)).toNat:Nat)) != (0:Int)) then
 some [s4]
 else
 bif s0 then
 bif ((IntKind.wrap .i64 ((BitVec.ofInt s3.bits ((rt r5 0).i) &&& BitVec.ofInt s3.bits (4:Int)).toNat:Nat))==(0:Int)) then
 some [s4]
 else
 Ef H x1 x2 x3 x4 x5 s2 x7
 else
 Ef H x1 x2 x3 x4 x5 s2 x7
 else
 obind (C ET [x1,s5]) fun r6=>
 bif (!(rt r6 0).b) then
 some [s4]
 else
 obind (C Ft [x1,s5]) fun r7=>
 bif ((IntKind.wrap .i64 ((BitVec.ofInt s3.bits s1 &&& ~~~ BitVec.ofInt s3.bits ((rt r7 0).i)).toNat:Nat)) != (0:Int)) then
 some [s4]
 else
 bif s0 then
 bif ((IntKind.wrap .i64 ((BitVec.ofInt s3.bits ((rt r7 0).i) &&& BitVec.ofInt s3.bits (4:Int)).toNat:Nat))==(0:Int)) then
 some [s4]
 else
 Ef H x1 x2 x3 x4 x5 s2 x7
 else
 Ef H x1 x2 x3 x4 x5 s2 x7
 else
 none
 else
 some [(T.bool true)]) (x4.nth x6.i.toNat)) (T.bool false)) (IntKind.i64)) (T.int (IntKind.wrap .i64 (x6.i+(1:Int))))) (IntKind.wrap .i64 ((BitVec.ofInt (IntKind.i64).bits ((x7.fld 0).i) &&& BitVec.ofInt (IntKind.i64).bits (7:Int)).toNat:Nat))) ((IntKind.wrap .i64 ((BitVec.ofInt (IntKind.i64).bits ((x7.fld 0).i) &&& BitVec.ofInt (IntKind.i64).bits (8:Int)).toNat:Nat)) != (0:Int))
theorem IU (x1 x2 x3 x4 x5 x6 x7:T) (h:Yields (fun k=>Hj (hl env k Eb) (cl env k) x1 x2 x3 x4 x5 x6 x7) r):Yields (fun k=>Ef (hl env k Eb) x1 x2 x3 x4 x5 x6 x7) r:=Yields.hd (Hj · · x1 x2 x3 x4 x5 x6 x7) h (by kernel_rfl)
noncomputable abbrev nk (H:HT) (C:aF)  : R:=
 (fun s0=>
 (fun s1=>
 (fun s2=>
 some [(T.sl [(T.st [(T.str (⟨#[110,117,109]⟩:ByteArray)),(T.int (1000001:Int)),s0]),(T.st [(T.str (⟨#[116,114,117,101]⟩:ByteArray)),s0,s0]),(T.st [(T.str (⟨#[102,97,108,115,101]⟩:ByteArray)),s0,s0]),(T.st [(T.str (⟨#[109,101]⟩:ByteArray)),s0,s0]),(T.st [(T.str (⟨#[97,100,100]⟩:ByteArray)),s0,s0]),(T.st [(T.str (⟨#[115,117,98]⟩:ByteArray)),s0,s0]),(T.st [(T.str (⟨#[109,117,108]⟩:ByteArray)),s0,s0]),(T.st [(T.str (⟨#[100,105,118]⟩:ByteArray)),s0,s0]),(T.st [(T.str (⟨#[109,111,100]⟩:ByteArray)),s0,s0]),(T.st [(T.str (⟨#[108,101,115,115]⟩:ByteArray)),s0,s0]),(T.st [(T.str (⟨#[115,97,109,101]⟩:ByteArray)),s0,s0]),(T.st [(T.str (⟨#[97,110,100]⟩:ByteArray)),s0,s0]),(T.st [(T.str (⟨#[111,114]⟩:ByteArray)),s0,s0]),(T.st [(T.str (⟨#[110,111,116]⟩:ByteArray)),s0,s0]),(T.st [(T.str (⟨#[99,111,112,121]⟩:ByteArray)),s2,s0]),(T.st [(T.str (⟨#[109,111,118,101]⟩:ByteArray)),s2,s0]),(T.st [(T.str (⟨#[112,117,116]⟩:ByteArray)),s2,s0]),(T.st [(T.str (⟨#[100,114,111,112]⟩:ByteArray)),s0,s0]),(T.st [(T.str (⟨#[112,97,99,107]⟩:ByteArray)),s1,s0]),(T.st [(T.str (⟨#[117,110,112,97,99,107]⟩:ByteArray)),s1,s0]),(T.st [(T.str (⟨#[108,101,110,100]⟩:ByteArray)),s2,s0]),(T.st [(T.str (⟨#[108,101,110,100,119]⟩:ByteArray)),s2,s0]),(T.st [(T.str (⟨#[102,105,101,108,100]⟩:ByteArray)),s1,s1]),(T.st [(T.str (⟨#[114,101,97,100]⟩:ByteArray)),s0,s0]),(T.st [(T.str (⟨#[112,101,101,107]⟩:ByteArray)),s0,s0]),(T.st [(T.str (⟨#[119,114,105,116,101]⟩:ByteArray)),s0,s0]),(T.st [(T.str (⟨#[102,114,101,101,122,101]⟩:ByteArray)),s0,s0]),(T.st [(T.str (⟨#[107,101,101,112]⟩:ByteArray)),s1,s0]),(T.st [(T.str (⟨#[116,97,107,101]⟩:ByteArray)),s1,s0]),(T.st [(T.str (⟨#[104,97,115]⟩:ByteArray)),s1,s0]),(T.st [(T.str (⟨#[115,101,101]⟩:ByteArray)),s1,s0]),(T.st [(T.str (⟨#[115,101,101,119]⟩:ByteArray)),s1,s0]),(T.st [(T.str (⟨#[106,117,109,112]⟩:ByteArray)),(T.int (40:Int)),s0]),(T.st [(T.str (⟨#[122,101,114,111]⟩:ByteArray)),(T.int (40:Int)),s0]),(T.st [(T.str (⟨#[99,97,108,108]⟩:ByteArray)),s1,(T.int (4:Int))]),(T.st [(T.str (⟨#[114,101,116]⟩:ByteArray)),s0,s0]),(T.st [(T.str (⟨#[102,97,105,108]⟩:ByteArray)),s0,s0])])]) (T.int (6:Int))) (T.int (3:Int))) (T.int (0:Int))
theorem xa (H:HT) (C:aF)  : bI jD env H C []=nk H C :=by kernel_rfl
theorem xm  (h:Yields (fun k=>nk (hl env k jD) (cl env k) ) r):Yields (fun k=>cl env k nb []) r:=Yields.call (fi:=jD) rfl rfl (fun H C=>xa H C ) h
noncomputable abbrev nq (H:HT) (C:aF) (a0:T):R:=
 obind (C ki [(a0.fld 0)]) fun r1=>
 obind (C ki [(a0.fld 1)]) fun r2=>
 some [(T.st [(rt r1 0),(rt r2 0)])]
theorem xq (a0:T) (h:Yields (fun k=>nq (hl env k mL) (cl env k) a0) r):Yields (fun k=>cl env k nd [a0]) r:=Yields.ca (nq · · a0) h (by kernel_rfl)
noncomputable abbrev lJ (H:HT) (C:aF) (a0 a1:T):R:=
 (fun s0=>
 obind (C ky [a0,a1]) fun r1=>
 bif (rt r1 0).b then
 obind (C aM [(rt (r1.drop 1) 0),(T.bool (decide ((((((rt (r1.drop 1) 0).fld 4).fld 0).es).length:Int)≤(12:Int)))),s0]) fun r2=>
 some [(rt (r2.drop 0) 0)]
 else
 obind (C jF [(rt (r1.drop 1) 0),a1]) fun r3=>
 bif (rt r3 0).b then
 obind (C aM [(rt (r3.drop 1) 0),(T.bool (decide ((((((rt (r3.drop 1) 0).fld 4).fld 0).es).length:Int)≤(12:Int)))),s0]) fun r4=>
 some [(rt (r4.drop 0) 0)]
 else
 obind (C jj [(rt (r3.drop 1) 0),a1]) fun r5=>
 bif (rt r5 0).b then
 obind (C aM [(rt (r5.drop 1) 0),(T.bool (decide ((((((rt (r5.drop 1) 0).fld 4).fld 0).es).length:Int)≤(12:Int)))),s0]) fun r6=>
 some [(rt (r6.drop 0) 0)]
 else
 obind (C cm [(rt (r5.drop 1) 0),a1]) fun r7=>
 (fun s1=>
 bif (rt r7 0).b then
 obind (C aM [s1,(T.bool (decide (((((s1.fld 4).fld 0).es).length:Int)≤(12:Int)))),s0]) fun r8=>
 some [(rt (r8.drop 0) 0)]
 else
 bif (((a1.fld 0).s).toList==k_call.toList) then
 obind (C lu [s1,a1]) fun r9=>
 obind (C aM [(rt (r9.drop 0) 0),(T.bool (decide ((((((rt (r9.drop 0) 0).fld 4).fld 0).es).length:Int)≤(12:Int)))),s0]) fun r10=>
 some [(rt (r10.drop 0) 0)]
 else
 obind (C mj [s1]) fun r11=>
 some [(rt (r11.drop 0) 0)]) (rt (r7.drop 1) 0)) (T.int (1:Int))
theorem uX (a0 a1:T) (h:Yields (fun k=>lJ (hl env k kM) (cl env k) a0 a1) r):Yields (fun k=>cl env k lv [a0,a1]) r:=Yields.ca (lJ · · a0 a1) h (by kernel_rfl)
noncomputable def mS (H:HT) (x1 x2 x3 x4 x5 x6 x7 x8 x9:T):R:=H (bS aV.body 0) ([(0,.pref 87 100000 []),(1,.val 57 x1),(2,.val 30 x2),(3,.val 3 x3),(6,.sref 96 100006 []),(11,.pref 98 11 []),(12,.pref 25 12 []),(15,.val 4 x4),(16,.val 3 x5)],[(100000,⟨87,x6,(.st [.fo,.dp]),true⟩),(100006,⟨96,x7,.dp,false⟩),(11,⟨98,x8,.fz,true⟩),(12,⟨25,x9,.fz,true⟩)])
noncomputable def dA (H:HT) (x1 x2 x3 x4 x5 x6 x7 x8 x9:T):R:=H (bS aV.body 0) ([(0,.pref 87 100000 []),(1,.val 57 x1),(2,.val 30 x2),(3,.val 3 x3),(6,.sref 96 6 []),(11,.pref 98 11 []),(12,.pref 25 12 []),(15,.val 4 x4),(16,.val 3 x5)],[(100000,⟨87,x6,(.st [.fo,.dp]),true⟩),(6,⟨96,x7,.dp,false⟩),(11,⟨98,x8,.fz,true⟩),(12,⟨25,x9,.fz,true⟩)])
noncomputable def fk (H:HT) (x1 x2 x3 x4 x5 x6 x7 x8 x9 x10 x11:T):R:=H (bS aV.body 1) ([(0,.pref 87 100000 []),(1,.val 57 x1),(2,.val 30 x2),(3,.val 3 x3),(6,.sref 96 100006 []),(11,.pref 98 11 []),(12,.pref 25 12 []),(15,.val 4 x4),(16,.val 3 x5),(17,.val 3 x6),(18,.val 3 x7)],[(100000,⟨87,x8,(.st [.fo,.dp]),true⟩),(100006,⟨96,x9,.dp,false⟩),(11,⟨98,x10,.fz,true⟩),(12,⟨25,x11,.fz,true⟩)])
noncomputable def fl (H:HT) (x1 x2 x3 x4 x5 x6 x7 x8 x9:T):R:=H (bS aV.body 2) ([(0,.pref 87 100000 []),(1,.val 57 x1),(2,.val 30 x2),(3,.val 3 x3),(6,.sref 96 100006 []),(11,.pref 98 11 []),(12,.pref 25 12 []),(15,.val 4 x4),(19,.val 3 x5)],[(100000,⟨87,x6,(.st [.fo,.dp]),true⟩),(100006,⟨96,x7,.dp,false⟩),(11,⟨98,x8,.fz,true⟩),(12,⟨25,x9,.fz,true⟩)])
noncomputable def fm (H:HT) (x1 x2 x3 x4 x5 x6 x7 x8 x9 x10 x11:T):R:=H (bS aV.body 1) ([(0,.pref 87 100000 []),(1,.val 57 x1),(2,.val 30 x2),(3,.val 3 x3),(6,.sref 96 6 []),(11,.pref 98 11 []),(12,.pref 25 12 []),(15,.val 4 x4),(16,.val 3 x5),(17,.val 3 x6),(18,.val 3 x7)],[(100000,⟨87,x8,(.st [.fo,.dp]),true⟩),(6,⟨96,x9,.dp,false⟩),(11,⟨98,x10,.fz,true⟩),(12,⟨25,x11,.fz,true⟩)])
noncomputable def dB (H:HT) (x1 x2 x3 x4 x5 x6 x7 x8 x9:T):R:=H (bS aV.body 2) ([(0,.pref 87 100000 []),(1,.val 57 x1),(2,.val 30 x2),(3,.val 3 x3),(6,.sref 96 6 []),(11,.pref 98 11 []),(12,.pref 25 12 []),(15,.val 4 x4),(19,.val 3 x5)],[(100000,⟨87,x6,(.st [.fo,.dp]),true⟩),(6,⟨96,x7,.dp,false⟩),(11,⟨98,x8,.fz,true⟩),(12,⟨25,x9,.fz,true⟩)])
noncomputable abbrev oQ (H:HT) (C:aF) (a0 a1 a2 a3 a4 a5 a6:T):R:=
 mS H a1 a2 a3 (T.bool true) (T.int (0:Int)) a0 a6 a4 a5
theorem yw (a0 a1 a2 a3 a4 a5 a6:T) (h:Yields (fun k=>oQ (hl env k aV) (cl env k) a0 a1 a2 a3 a4 a5 a6) r):Yields (fun k=>cl env k du [a0,a1,a2,a3,a4,a5,a6]) r:=Yields.ca (oQ · · a0 a1 a2 a3 a4 a5 a6) h (by kernel_rfl)
noncomputable abbrev mC (H:HT) (C:aF) (x1 x2 x3 x4 x5 x6 x7 x8 x9:T):R:=
 bif x4.b then
 bif (decide (x5.i < (30:Int))) then
 bif (decide ((((x9.fld 0).es).length:Int) > (0:Int))) then
 obind (C kV [x6,x1,x2,x3,x8,x9,x7]) fun r1=>
 dA H x1 x2 x3 (rt r1 2) (T.int (IntKind.wrap .i64 (x5.i+(1:Int)))) (rt (r1.drop 3) 0) (rt r1 1) x8 (rt r1 0)
 else
 fk H x1 x2 x3 x4 x5 (T.int (-1:Int)) (T.int (0:Int)) x6 x7 x8 x9
 else
 fl H x1 x2 x3 x4 (T.int (0:Int)) x6 x7 x8 x9
 else
 fl H x1 x2 x3 x4 (T.int (0:Int)) x6 x7 x8 x9
theorem wA (x1 x2 x3 x4 x5 x6 x7 x8 x9:T) (h:Yields (fun k=>mC (hl env k aV) (cl env k) x1 x2 x3 x4 x5 x6 x7 x8 x9) r):Yields (fun k=>mS (hl env k aV) x1 x2 x3 x4 x5 x6 x7 x8 x9) r:=Yields.hd (mC · · x1 x2 x3 x4 x5 x6 x7 x8 x9) h (by kernel_rfl)
noncomputable abbrev jx (H:HT) (C:aF) (x1 x2 x3 x4 x5 x6 x7 x8 x9:T):R:=
 bif x4.b then
 bif (decide (x5.i < (30:Int))) then
 bif (decide ((((x9.fld 0).es).length:Int) > (0:Int))) then
 obind (C kV [x6,x1,x2,x3,x8,x9,x7]) fun r1=>
 dA H x1 x2 x3 (rt r1 2) (T.int (IntKind.wrap .i64 (x5.i+(1:Int)))) (rt (r1.drop 3) 0) (rt r1 1) x8 (rt r1 0)
 else
 fm H x1 x2 x3 x4 x5 (T.int (-1:Int)) (T.int (0:Int)) x6 x7 x8 x9
 else
 dB H x1 x2 x3 x4 (T.int (0:Int)) x6 x7 x8 x9
 else
 dB H x1 x2 x3 x4 (T.int (0:Int)) x6 x7 x8 x9
theorem qM (x1 x2 x3 x4 x5 x6 x7 x8 x9:T) (h:Yields (fun k=>jx (hl env k aV) (cl env k) x1 x2 x3 x4 x5 x6 x7 x8 x9) r):Yields (fun k=>dA (hl env k aV) x1 x2 x3 x4 x5 x6 x7 x8 x9) r:=Yields.hd (jx · · x1 x2 x3 x4 x5 x6 x7 x8 x9) h (by kernel_rfl)
noncomputable abbrev jy (H:HT) (C:aF) (x1 x2 x3 x4 x5 x6 x7 x8 x9 x10 x11:T):R:=
 (fun s0=>
 (fun s1=>
 bif (decide (x7.i < (((x11.fld 1).es).length:Int))) then
 bif s1 then
 bif (!(((((x11.fld 1).nth x7.i.toNat).fld 0).s).toList==(⟨#[]⟩:ByteArray).toList)) then
 bif s1 then
 obind (C eD [x2,(((x11.fld 1).nth x7.i.toNat).fld 0)]) fun r1=>
 obind (C bH [(rt r1 0),(T.int (2:Int))]) fun r2=>
 bif (!(rt r2 0).b) then
 fk H x1 x2 x3 x4 x5 x7 s0 x8 x9 x10 x11
 else
 fk H x1 x2 x3 x4 x5 x6 s0 x8 x9 x10 x11
 else
 none
 else
 fk H x1 x2 x3 x4 x5 x6 s0 x8 x9 x10 x11
 else
 none
 else
 bif (decide (x6.i < (0:Int))) then
 fl H x1 x2 x3 x4 (T.int (0:Int)) x8 x9 x10 x11
 else
 obind (C bk [x1,x2,x3,x10,x11,x9,(T.st [(T.str od),x6,(T.int (0:Int))])]) fun r3=>
 dA H x1 x2 x3 (rt r3 2) (T.int (IntKind.wrap .i64 (x5.i+(1:Int)))) x8 (rt r3 1) x10 (rt r3 0)) (decide (0≤x7.i)&&decide (x7.i.toNat < ((x11.fld 1).es).length))) (T.int (IntKind.wrap .i64 (x7.i+(1:Int))))
theorem qN (x1 x2 x3 x4 x5 x6 x7 x8 x9 x10 x11:T) (h:Yields (fun k=>jy (hl env k aV) (cl env k) x1 x2 x3 x4 x5 x6 x7 x8 x9 x10 x11) r):Yields (fun k=>fk (hl env k aV) x1 x2 x3 x4 x5 x6 x7 x8 x9 x10 x11) r:=Yields.hd (jy · · x1 x2 x3 x4 x5 x6 x7 x8 x9 x10 x11) h (by kernel_rfl)
noncomputable abbrev mD (H:HT) (C:aF) (x1 x2 x3 x4 x5 x6 x7 x8 x9:T):R:=
 (fun s0=>
 (fun s1=>
 (fun s2=>
 (fun s3=>
 bif (decide (x5.i < (((x8.fld 2).es).length:Int))) then
 bif x4.b then
 bif (decide (0≤x5.i)&&decide (x5.i.toNat < ((x8.fld 2).es).length)) then
 obind (C dv [x1,x2,x3,x8,x9,x7,((x8.fld 2).nth x5.i.toNat)]) fun r1=>
 dB H x1 x2 x3 (rt r1 2) (T.int (IntKind.wrap .i64 (x5.i+(1:Int)))) x6 (rt r1 1) x8 (rt r1 0)
 else
 none
 else
 bif x4.b then
 obind (C bk [x1,x2,x3,x8,x9,x7,s2]) fun r2=>
 bif (!(rt r2 2).b) then
 bif (decide (((rt r2 1).es).length + [s1,s0].length≤LIM)) then
 some [(T.sl ((rt r2 1).es ++ [s1,s0])),x6]
 else
 none
 else
 some [(rt r2 1),x6]
 else
 bif (!x4.b) then
 bif s3 then
 some [(T.sl (x7.es ++ [s1,s0])),x6]
 else
 none
 else
 some [x7,x6]
 else
 bif x4.b then
 obind (C bk [x1,x2,x3,x8,x9,x7,s2]) fun r3=>
 bif (!(rt r3 2).b) then
 bif (decide (((rt r3 1).es).length + [s1,s0].length≤LIM)) then
 some [(T.sl ((rt r3 1).es ++ [s1,s0])),x6]
 else
 none
 else
 some [(rt r3 1),x6]
 else
 bif (!x4.b) then
 bif s3 then
 some [(T.sl (x7.es ++ [s1,s0])),x6]
 else
 none
 else
 some [x7,x6]) (decide (x7.es.length + [s1,s0].length≤LIM))) (T.st [(T.str o8),(T.int (0:Int)),(T.int (0:Int))])) (T.st [(T.str bE),(T.int (9:Int)),(T.int (0:Int))])) (T.st [(T.str bm),(T.int (0:Int)),(T.int (0:Int))])
theorem wB (x1 x2 x3 x4 x5 x6 x7 x8 x9:T) (h:Yields (fun k=>mD (hl env k aV) (cl env k) x1 x2 x3 x4 x5 x6 x7 x8 x9) r):Yields (fun k=>fl (hl env k aV) x1 x2 x3 x4 x5 x6 x7 x8 x9) r:=Yields.hd (mD · · x1 x2 x3 x4 x5 x6 x7 x8 x9) h (by kernel_rfl)
noncomputable abbrev jz (H:HT) (C:aF) (x1 x2 x3 x4 x5 x6 x7 x8 x9 x10 x11:T):R:=
 (fun s0=>
 (fun s1=>
 bif (decide (x7.i < (((x11.fld 1).es).length:Int))) then
 bif s1 then
 bif (!(((((x11.fld 1).nth x7.i.toNat).fld 0).s).toList==(⟨#[]⟩:ByteArray).toList)) then
 bif s1 then
 obind (C eD [x2,(((x11.fld 1).nth x7.i.toNat).fld 0)]) fun r1=>
 obind (C bH [(rt r1 0),(T.int (2:Int))]) fun r2=>
 bif (!(rt r2 0).b) then
 fm H x1 x2 x3 x4 x5 x7 s0 x8 x9 x10 x11
 else
 fm H x1 x2 x3 x4 x5 x6 s0 x8 x9 x10 x11
 else
 none
 else
 fm H x1 x2 x3 x4 x5 x6 s0 x8 x9 x10 x11
 else
 none
 else
 bif (decide (x6.i < (0:Int))) then
 dB H x1 x2 x3 x4 (T.int (0:Int)) x8 x9 x10 x11
 else
 obind (C bk [x1,x2,x3,x10,x11,x9,(T.st [(T.str od),x6,(T.int (0:Int))])]) fun r3=>
 dA H x1 x2 x3 (rt r3 2) (T.int (IntKind.wrap .i64 (x5.i+(1:Int)))) x8 (rt r3 1) x10 (rt r3 0)) (decide (0≤x7.i)&&decide (x7.i.toNat < ((x11.fld 1).es).length))) (T.int (IntKind.wrap .i64 (x7.i+(1:Int))))
theorem qO (x1 x2 x3 x4 x5 x6 x7 x8 x9 x10 x11:T) (h:Yields (fun k=>jz (hl env k aV) (cl env k) x1 x2 x3 x4 x5 x6 x7 x8 x9 x10 x11) r):Yields (fun k=>fm (hl env k aV) x1 x2 x3 x4 x5 x6 x7 x8 x9 x10 x11) r:=Yields.hd (jz · · x1 x2 x3 x4 x5 x6 x7 x8 x9 x10 x11) h (by kernel_rfl)
noncomputable abbrev jA (H:HT) (C:aF) (x1 x2 x3 x4 x5 x6 x7 x8 x9:T):R:=mD H C x1 x2 x3 x4 x5 x6 x7 x8 x9
theorem qP (x1 x2 x3 x4 x5 x6 x7 x8 x9:T) (h:Yields (fun k=>jA (hl env k aV) (cl env k) x1 x2 x3 x4 x5 x6 x7 x8 x9) r):Yields (fun k=>dB (hl env k aV) x1 x2 x3 x4 x5 x6 x7 x8 x9) r:=Yields.hd (jA · · x1 x2 x3 x4 x5 x6 x7 x8 x9) h (by kernel_rfl)
noncomputable def bQ (H:HT) (x1 x2 x3 x4 x5:T):R:=H (bS bV.body 0) ([(0,.val 30 x1),(1,.val 3 x2),(2,.val 3 x3),(7,.pref 114 7 []),(8,.val 3 x4)],[(7,⟨114,x5,.fz,true⟩)])
noncomputable abbrev ju (H:HT) (C:aF) (a0 a1 a2:T):R:=
 (fun s0=>
 bif (decide (0≤a1.i)&&decide (a1.i.toNat < a0.es.length)) then
 bif (decide (0≤a2.i)&&decide (a2.i.toNat < ((a0.nth a1.i.toNat).es).length)) then
 obind (C dZ [(s0.fld 0),(T.int (0:Int)),(T.int (15:Int))]) fun r1=>
 bif (!(rt r1 0).b) then
 some [(T.bool false)]
 else
 bif (decide ((((s0.fld 1).es).length:Int) > (3:Int))) then
 some [(T.bool false)]
 else
 bQ H a0 a1 a2 (T.int (0:Int)) s0
 else
 none
 else
 none) ((a0.nth a1.i.toNat).nth a2.i.toNat)
theorem vp (H:HT) (C:aF) (a0 a1 a2:T):bI bV env H C [a0,a1,a2] =
 (fun s0=>
 bif (decide (0≤a1.i)&&decide (a1.i.toNat < a0.es.length)) then
 bif (decide (0≤a2.i)&&decide (a2.i.toNat < ((a0.nth a1.i.toNat).es).length)) then
 obind (C dZ [(s0.fld 0),(T.int (0:Int)),(T.int (15:Int))]) fun r1=>
 (fun s1=>
 bif (s1||(!s1)) then
 bif (s1||(!s1)) then
 bif (((s1&&true)&&true)||(!s1)) then
 bif (bif (!(rt r1 0).b) then true else s1) then
 bif (bif (!(rt r1 0).b) then (T.bool true) else (T.bool (decide ((((s0.fld 1).es).length:Int) > (3:Int))))).b then
 some [(T.bool false)]
 else
 bQ H a0 a1 a2 (T.int (0:Int)) s0
 else
 none
 else
 none
 else
 none
 else
 none) ((!(rt r1 0).b)==false)
 else
 none
 else
 none) ((a0.nth a1.i.toNat).nth a2.i.toNat):=by kernel_rfl
theorem wg (H:HT) (C:aF) (a0 a1 a2:T):bI bV env H C [a0,a1,a2]=ju H C a0 a1 a2:=by
 refine (vp H C a0 a1 a2).trans ?_
 unfold ju
 all_goals try dsimp only
 all_goals try simp only[bs]
 all_goals cases hc:((decide (0≤a1.i)&&decide (a1.i.toNat < a0.es.length))) with
 | true=>
  try simp only[bs]
  all_goals cases hc:((decide (0≤a2.i)&&decide (a2.i.toNat < ((a0.nth a1.i.toNat).es).length))) with
  | true=>
   try simp only[bs]
   all_goals refine br fun r1=>?_
   all_goals try simp only[bs]
   all_goals cases hc:((!(rt r1 0).b)) with
   | true=>
    try simp only[bs]
    all_goals kernel_rfl
   | false=>
    try simp only[bs]
    all_goals cases hc:((decide ((((((a0.nth a1.i.toNat).nth a2.i.toNat).fld 1).es).length:Int) > (3:Int)))) with
    | true=>
     try simp only[bs]
     all_goals kernel_rfl
    | false=>
     try simp only[bs]
     all_goals kernel_rfl
  | false=>
   try simp only[bs]
   all_goals kernel_rfl
 | false=>
  try simp only[bs]
  all_goals kernel_rfl
theorem wv (a0 a1 a2:T) (h:Yields (fun k=>ju (hl env k bV) (cl env k) a0 a1 a2) r):Yields (fun k=>cl env k mh [a0,a1,a2]) r:=Yields.call (fi:=bV) rfl rfl (fun H C=>wg H C a0 a1 a2) h
end Go.Proofs.YtdmgnefllclaoaaGreat.Ra
