/- A verified evaluator for the program, part Eq0 of this claim. -/
import Derived.Test.YtdcnobhlknjnoaaGreatDoorTTab
set_option linter.unusedSimpArgs false
set_option linter.unusedVariables false
set_option linter.unusedSimpArgs false
set_option linter.unusedVariables false
namespace Go.Proofs.YtdcnobhlknjnoaaGreatDoor.Ra
open Go
abbrev rm:ByteArray:=⟨#[115,101,101,119]⟩
abbrev kt:ByteArray:=⟨#[115,101,101]⟩
abbrev bv:ByteArray:=⟨#[104,97,115]⟩
abbrev cJ:ByteArray:=⟨#[116,97,107,101]⟩
abbrev aT:ByteArray:=⟨#[107,101,101,112]⟩
abbrev k_freeze:ByteArray:=⟨#[102,114,101,101,122,101]⟩
abbrev k_write:ByteArray:=⟨#[119,114,105,116,101]⟩
abbrev t7:ByteArray:=⟨#[112,101,101,107]⟩
abbrev k_read:ByteArray:=⟨#[114,101,97,100]⟩
abbrev k_field:ByteArray:=⟨#[102,105,101,108,100]⟩
abbrev lT:ByteArray:=⟨#[117,110,112,97,99,107]⟩
abbrev q7:ByteArray:=⟨#[112,97,99,107]⟩
abbrev k_lendw:ByteArray:=⟨#[108,101,110,100,119]⟩
abbrev k_lend:ByteArray:=⟨#[108,101,110,100]⟩
abbrev vT:ByteArray:=⟨#[100,114,111,112]⟩
abbrev k_put:ByteArray:=⟨#[112,117,116]⟩
abbrev k_copy:ByteArray:=⟨#[99,111,112,121]⟩
abbrev k_same:ByteArray:=⟨#[115,97,109,101]⟩
abbrev k_not:ByteArray:=⟨#[110,111,116]⟩
abbrev k_or:ByteArray:=⟨#[111,114]⟩
abbrev k_and:ByteArray:=⟨#[97,110,100]⟩
abbrev k_less:ByteArray:=⟨#[108,101,115,115]⟩
abbrev k_mod:ByteArray:=⟨#[109,111,100]⟩
abbrev k_div:ByteArray:=⟨#[100,105,118]⟩
abbrev k_mul:ByteArray:=⟨#[109,117,108]⟩
abbrev k_sub:ByteArray:=⟨#[115,117,98]⟩
abbrev k_add:ByteArray:=⟨#[97,100,100]⟩
abbrev k_me:ByteArray:=⟨#[109,101]⟩
abbrev k_false:ByteArray:=⟨#[102,97,108,115,101]⟩
abbrev zk:ByteArray:=⟨#[116,114,117,101]⟩
abbrev od:ByteArray:=⟨#[109,111,118,101]⟩
abbrev k_call:ByteArray:=⟨#[99,97,108,108]⟩
abbrev o8:ByteArray:=⟨#[114,101,116]⟩
abbrev dz:ByteArray:=⟨#[122,101,114,111]⟩
abbrev Ko:ByteArray:=⟨#[106,117,109,112]⟩
abbrev bm:ByteArray:=⟨#[102,97,105,108]⟩
abbrev bE:ByteArray:=⟨#[110,117,109]⟩
abbrev cI:ByteArray:=⟨#[33]⟩
abbrev cX:ByteArray:=⟨#[38]⟩
abbrev sZ:ByteArray:=⟨#[38,110]⟩
abbrev vS:ByteArray:=⟨#[83,48,57]⟩
abbrev k_x:ByteArray:=⟨#[120]⟩
abbrev k_x29:ByteArray:=⟨#[41]⟩
abbrev k_x28:ByteArray:=⟨#[40]⟩
abbrev k_o:ByteArray:=⟨#[111]⟩
abbrev k_x2b:ByteArray:=⟨#[43]⟩
abbrev k_x2d:ByteArray:=⟨#[45]⟩
abbrev k_b:ByteArray:=⟨#[98]⟩
abbrev k_n:ByteArray:=⟨#[110]⟩
abbrev k_S:ByteArray:=⟨#[83]⟩
abbrev XD:ByteArray:=⟨#[10]⟩
abbrev SG:ByteArray:=⟨#[32]⟩
abbrev Xu:ByteArray:=⟨#[64]⟩
abbrev HT:Type:=List Item→CS→R
variable {r:List T}
abbrev Xe:Nat:=6
abbrev Gd:Nat:=12
abbrev Xb:Nat:=20
abbrev Xh:Nat:=21
abbrev Xi:Nat:=22
abbrev Ek:Nat:=23
abbrev oF:Nat:=29
abbrev aG:Nat:=31
abbrev d9:Nat:=34
abbrev na:Nat:=35
abbrev HQ:Nat:=39
abbrev S6:Nat:=45
abbrev nd:Nat:=47
abbrev mn:Nat:=50
abbrev EN:Nat:=51
abbrev SL:Nat:=52
abbrev X6:Nat:=53
abbrev Ep:Nat:=54
abbrev dE:Nat:=55
abbrev Xa:Nat:=56
abbrev EJ:Nat:=57
abbrev F0:Nat:=58
abbrev P9:Nat:=61
abbrev nc:Nat:=62
abbrev fp:Nat:=65
abbrev cP:Nat:=66
abbrev ix:Nat:=67
abbrev qx:Nat:=70
abbrev dZ:Nat:=71
abbrev GF:Nat:=77
abbrev dH:Nat:=79
abbrev ki:Nat:=84
abbrev eN:Nat:=89
abbrev qy:Nat:=90
abbrev ml:Nat:=91
abbrev lw:Nat:=92
abbrev bH:Nat:=93
abbrev eD:Nat:=94
abbrev Gg:Nat:=95
abbrev EA:Nat:=96
abbrev JB:Nat:=98
abbrev ER:Nat:=99
abbrev F3:Nat:=100
abbrev El:Nat:=101
abbrev IB:Nat:=102
abbrev bO:Nat:=104
abbrev nb:Nat:=107
abbrev OW:Nat:=108
abbrev cB:Nat:=109
abbrev ET:Nat:=110
abbrev mh:Nat:=113
abbrev cx:Nat:=115
abbrev Fu:Nat:=119
abbrev Ft:Nat:=120
abbrev dG:Nat:=122
abbrev oE:Nat:=127
abbrev p9:Nat:=128
abbrev iy:Nat:=129
abbrev ng:Nat:=130
abbrev cU:Nat:=131
abbrev E7:Nat:=132
abbrev mg:Nat:=133
abbrev EG:Nat:=135
abbrev kh:Nat:=139
abbrev kU:Nat:=140
abbrev lv:Nat:=143
abbrev qZ:Nat:=146
abbrev aI:Nat:=147
abbrev eA:Nat:=148
abbrev du:Nat:=149
abbrev Fk:Nat:=154
abbrev ky:Nat:=156
abbrev jF:Nat:=157
abbrev jj:Nat:=158
abbrev cm:Nat:=159
abbrev aM:Nat:=160
abbrev lu:Nat:=161
abbrev mj:Nat:=162
abbrev kV:Nat:=172
abbrev bk:Nat:=173
abbrev dv:Nat:=174
abbrev EV:Nat:=180
abbrev aK:Nat:=183
abbrev aR:Nat:=184
abbrev cu:Nat:=185
abbrev fq:Nat:=186
abbrev O1:Nat:=187
abbrev cr:Nat:=188
abbrev mi:Nat:=189
abbrev iw:Nat:=190
abbrev eZ:Nat:=191
abbrev cw:Nat:=192
abbrev dY:Nat:=193
abbrev mf:Nat:=194
abbrev ne:Nat:=195
abbrev gb:Nat:=202
abbrev hJ:Nat:=203
abbrev cO:Nat:=5173
abbrev jr:Nat:=10173
noncomputable def X0 (H:HT) (x1 x2 x3 x4 x5:T):R:=H (bS fb.body 0) ([(3,.val 38 x1),(4,.sref 49 4 []),(5,.val 9 x2),(7,.val 3 x3),(8,.val 3 x4)],[(4,⟨49,x5,(.sl .fz),false⟩)])
noncomputable abbrev Xf (H:HT) (C:aF) (a0:T):R:=
 bif (decide ((a0.es.length:Int) > (1048576:Int))) then
 some [(T.bool true)]
 else
 obind (C Xb [a0]) fun r1=>
 obind (C Xh [(rt r1 0),(rt r1 1)]) fun r2=>
 obind (C Xi [(rt r1 0),(rt r1 1)]) fun r3=>
 bif (!(((rt r2 0).s).toList==((rt r3 0).s).toList)) then
 some [(T.bool false)]
 else
 X0 H (rt r1 0) (rt r2 0) (T.int (0:Int)) (T.int (0:Int)) (rt r1 1)
theorem XB (a0:T) (h:Yields (fun k=>Xf (hl env k fb) (cl env k) a0) r):Yields (fun k=>cl env k Xe [a0]) r:=Yields.ca (Xf · · a0) h (by kernel_rfl)
noncomputable abbrev X5 (H:HT) (C:aF) (x1 x2 x3 x4 x5:T):R:=
 (fun s0=>
 bif (decide (x4.i < (x2.s.size:Int))) then
 bif (decide (0≤x4.i)&&decide (x4.i.toNat < x2.s.size)) then
 bif ((x2.s.data.getD x4.i.toNat 0).toNat==(10:Int)) then
 X0 H x1 x2 (T.int (IntKind.wrap .i64 (x3.i+(1:Int)))) s0 x5
 else
 X0 H x1 x2 x3 s0 x5
 else
 none
 else
 bif (x3.i==(x5.es.length:Int)) then
 some [(T.bool true)]
 else
 bif (x3.i==(0:Int)) then
 obind (C Ek [x1,x5]) fun r1=>
 some [(T.bool (!(rt r1 0).b))]
 else
 some [(T.bool false)]) (T.int (IntKind.wrap .i64 (x4.i+(1:Int))))
theorem Xn (x1 x2 x3 x4 x5:T) (h:Yields (fun k=>X5 (hl env k fb) (cl env k) x1 x2 x3 x4 x5) r):Yields (fun k=>X0 (hl env k fb) x1 x2 x3 x4 x5) r:=Yields.hd (X5 · · x1 x2 x3 x4 x5) h (by kernel_rfl)
noncomputable abbrev JH (H:HT) (C:aF) (a0:T):R:=
 obind (C HQ [a0]) fun r1=>
 some [(T.bool ((rt r1 0).i==(-1:Int)))]
theorem JQ (a0:T) (h:Yields (fun k=>JH (hl env k GK) (cl env k) a0) r):Yields (fun k=>cl env k Gd [a0]) r:=Yields.ca (JH · · a0) h (by kernel_rfl)
noncomputable abbrev Xc (H:HT) (C:aF) (a0:T):R:=
 obind (C oF [a0]) fun r1=>
 obind (C mn [(rt r1 0)]) fun r2=>
 obind (C d9 [(rt r2 0)]) fun r3=>
 obind (C EN [(rt (r2.drop 1) 0),(rt r3 0)]) fun r4=>
 obind (C aG [(rt (r4.drop 1) 0),(T.int (10:Int))]) fun r5=>
 bif ((rt r5 0).i==(0:Int)) then
 bif (decide ((((rt r4 0).es).length:Int) > (0:Int))) then
 bif (decide (0≤(0:Int))&&decide (0 < ((rt r4 0).es).length)) then
 some [(rt r3 0),(T.put (rt r4 0) [.idx 0,.fld 0] (T.int (5:Int)))]
 else
 none
 else
 some [(rt r3 0),(rt r4 0)]
 else
 some [(rt r3 0),(rt r4 0)]
theorem Xz (a0:T) (h:Yields (fun k=>Xc (hl env k Xl) (cl env k) a0) r):Yields (fun k=>cl env k Xb [a0]) r:=Yields.ca (Xc · · a0) h (by kernel_rfl)
noncomputable def X3 (H:HT) (x1 x2 x3 x4:T):R:=H (bS yB.body 0) ([(5,.val 9 x1),(12,.val 49 x2),(13,.val 3 x3),(14,.val 3 x4)],[])
noncomputable abbrev Xs (H:HT) (C:aF) (a0 a1:T):R:=
 obind (C Ek [a0,a1]) fun r1=>
 bif (!(rt r1 0).b) then
 some [(T.str (⟨#[]⟩:ByteArray))]
 else
 X3 H (T.str (⟨#[]⟩:ByteArray)) a1 (T.int (a1.es.length:Int)) (T.int (0:Int))
theorem Xj (a0 a1:T) (h:Yields (fun k=>Xs (hl env k yB) (cl env k) a0 a1) r):Yields (fun k=>cl env k Xh [a0,a1]) r:=Yields.ca (Xs · · a0 a1) h (by kernel_rfl)
noncomputable abbrev Xo (H:HT) (C:aF) (x1 x2 x3 x4:T):R:=
 bif (decide (x4.i < x3.i)) then
 bif (decide (0≤x4.i)&&decide (x4.i.toNat < x2.es.length)) then
 obind (C SL [((x2.nth x4.i.toNat).fld 0)]) fun r1=>
 (fun s0=>
 bif (decide (Xu.size+((rt r1 0).s).size≤LIM)) then
 bif (decide ((Xu++((rt r1 0).s)).size+SG.size≤LIM)) then
 obind (C X6 [((x2.nth x4.i.toNat).fld 1)]) fun r2=>
 (fun s1=>
 bif (decide (s0.size+((rt r2 0).s).size≤LIM)) then
 bif (decide (s1.size+XD.size≤LIM)) then
 bif (decide (x1.s.size+(s1++XD).size≤LIM)) then
 X3 H (T.str (x1.s++(s1++XD))) x2 x3 (T.int (IntKind.wrap .i64 (x4.i+(1:Int))))
 else
 none
 else
 none
 else
 none) (s0++((rt r2 0).s))
 else
 none
 else
 none) ((Xu++((rt r1 0).s))++SG)
 else
 none
 else
 some [x1]
theorem Xg (x1 x2 x3 x4:T) (h:Yields (fun k=>Xo (hl env k yB) (cl env k) x1 x2 x3 x4) r):Yields (fun k=>X3 (hl env k yB) x1 x2 x3 x4) r:=Yields.hd (Xo · · x1 x2 x3 x4) h (by kernel_rfl)
noncomputable def X8 (H:HT) (x1 x2 x3 x4:T):R:=H (bS WY.body 0) ([(0,.val 38 x1),(1,.val 49 x2),(5,.val 9 x3),(6,.val 3 x4)],[])
noncomputable abbrev Xt (H:HT) (C:aF) (a0 a1:T):R:=
 X8 H a0 a1 (T.str (⟨#[]⟩:ByteArray)) (T.int (0:Int))
theorem Xk (a0 a1:T) (h:Yields (fun k=>Xt (hl env k WY) (cl env k) a0 a1) r):Yields (fun k=>cl env k Xi [a0,a1]) r:=Yields.ca (Xt · · a0 a1) h (by kernel_rfl)
noncomputable abbrev Xp (H:HT) (C:aF) (x1 x2 x3 x4:T):R:=
 (fun s0=>
 (fun s1=>
 bif (decide (x4.i < (x2.es.length:Int))) then
 obind (C Ep [x1,x2]) fun r1=>
 bif (rt r1 0).b then
 bif (decide (x3.s.size+Xu.size≤LIM)) then
 bif s0 then
 obind (C dE [((x2.nth x4.i.toNat).fld 0)]) fun r2=>
 (fun s2=>
 bif (decide (s1.size+((rt r2 0).s).size≤LIM)) then
 bif (decide ((s1++((rt r2 0).s)).size+SG.size≤LIM)) then
 bif s0 then
 obind (C Xa [((x2.nth x4.i.toNat).fld 1)]) fun r3=>
 bif (decide (s2.size+((rt r3 0).s).size≤LIM)) then
 bif (decide ((s2++((rt r3 0).s)).size+XD.size≤LIM)) then
 X8 H x1 x2 (T.str ((s2++((rt r3 0).s))++XD)) (T.int (IntKind.wrap .i64 (x4.i+(1:Int))))
 else
 none
 else
 none
 else
 none
 else
 none
 else
 none) ((s1++((rt r2 0).s))++SG)
 else
 none
 else
 none
 else
 some [x3]
 else
 some [x3]) (x3.s++Xu)) (decide (0≤x4.i)&&decide (x4.i.toNat < x2.es.length))
theorem X9 (x1 x2 x3 x4:T) (h:Yields (fun k=>Xp (hl env k WY) (cl env k) x1 x2 x3 x4) r):Yields (fun k=>X8 (hl env k WY) x1 x2 x3 x4) r:=Yields.hd (Xp · · x1 x2 x3 x4) h (by kernel_rfl)
noncomputable def EX (H:HT) (x1 x2 x3 x4 x5:T):R:=H (bS Em.body 0) ([(0,.val 38 x1),(1,.val 49 x2),(15,.val 49 x3),(16,.val 3 x4),(17,.val 3 x5)],[])
noncomputable abbrev HV (H:HT) (C:aF) (a0 a1:T):R:=
 obind (C Gd [a0]) fun r1=>
 bif (!(rt r1 0).b) then
 some [(T.bool false)]
 else
 bif (decide ((a1.es.length:Int) > (36:Int))) then
 some [(T.bool false)]
 else
 EX H a0 a1 a1 (T.int (a1.es.length:Int)) (T.int (0:Int))
theorem Lz (H:HT) (C:aF) (a0 a1:T):bI Em env H C [a0,a1] =
 obind (C Gd [a0]) fun r1=>
 (fun s0=>
 bif (s0||(!s0)) then
 bif (((s0&&true)&&true)||(!s0)) then
 bif (bif (!(rt r1 0).b) then true else s0) then
 bif (bif (!(rt r1 0).b) then (T.bool true) else (T.bool (decide ((a1.es.length:Int) > (36:Int))))).b then
 some [(T.bool false)]
 else
 EX H a0 a1 a1 (T.int (a1.es.length:Int)) (T.int (0:Int))
 else
 none
 else
 none
 else
 none) ((!(rt r1 0).b)==false):=by kernel_rfl
theorem LM (H:HT) (C:aF) (a0 a1:T):bI Em env H C [a0,a1]=HV H C a0 a1:=by
 refine (Lz H C a0 a1).trans ?_
 unfold HV
 all_goals try dsimp only
 all_goals try simp only[bs]
 all_goals refine br fun r1=>?_
 all_goals try simp only[bs]
 all_goals cases hc:((!(rt r1 0).b)) with
 | true=>
  try simp only[bs]
  all_goals kernel_rfl
 | false=>
  try simp only[bs]
  all_goals cases hc:((decide ((a1.es.length:Int) > (36:Int)))) with
  | true=>
   try simp only[bs]
   all_goals kernel_rfl
  | false=>
   try simp only[bs]
   all_goals kernel_rfl
theorem Ju (a0 a1:T) (h:Yields (fun k=>HV (hl env k Em) (cl env k) a0 a1) r):Yields (fun k=>cl env k Ek [a0,a1]) r:=Yields.call (fi:=Em) rfl rfl (fun H C=>LM H C a0 a1) h
noncomputable abbrev Hg (H:HT) (C:aF) (x1 x2 x3 x4 x5:T):R:=
 (fun s0=>
 (fun s1=>
 (fun s2=>
 bif (decide (x5.i < x4.i)) then
 bif (decide (0≤x5.i)&&decide (x5.i.toNat < x3.es.length)) then
 bif (decide ((s1.fld 0).i < (0:Int))) then
 some [(T.bool false)]
 else
 bif (decide ((s1.fld 0).i≥(4:Int))) then
 some [(T.bool false)]
 else
 obind (C EJ [x1,(s1.fld 1)]) fun r1=>
 bif (!(rt r1 0).b) then
 some [(T.bool false)]
 else
 bif (decide (x5.i > (0:Int))) then
 bif (decide (0≤s0)&&decide (s0.toNat < x2.es.length)) then
 obind (C F0 [(x2.nth (s0.toNat)),s1]) fun r2=>
 bif (!(rt r2 0).b) then
 some [(T.bool false)]
 else
 EX H x1 x2 x3 x4 s2
 else
 none
 else
 EX H x1 x2 x3 x4 s2
 else
 none
 else
 some [(T.bool true)]) (T.int (IntKind.wrap .i64 (x5.i+(1:Int))))) (x3.nth x5.i.toNat)) (IntKind.wrap .i64 (x5.i - (1:Int)))
theorem KL (H:HT) (C:aF) (x1 x2 x3 x4 x5:T):iU Em env H C (bS Em.body 0) ([(0,.val 38 x1),(1,.val 49 x2),(15,.val 49 x3),(16,.val 3 x4),(17,.val 3 x5)],[]) =
 (fun s0=>
 (fun s1=>
 (fun s2=>
 (fun s3=>
 (fun s4=>
 (fun s5=>
 bif (decide (x5.i < x4.i)) then
 bif (decide (0≤x5.i)&&decide (x5.i.toNat < x3.es.length)) then
 bif (s5||(!s5)) then
 bif (((s5&&true)&&true)||(!s5)) then
 bif (bif s2 then true else s5) then
 bif (s3||(!s3)) then
 bif ((s3&&(s3&&true))||(!s3)) then
 obind ((bif s3 then C EJ [x1,((x3.nth x5.i.toNat).fld 1)] else some [])) fun r1=>
 bif (s3||(!s3)) then
 bif (bif s0.b then true else s3) then
 bif (bif s0.b then (T.bool true) else (T.bool (!(rt r1 0).b))).b then
 some [(T.bool false)]
 else
 bif (((s1&&true)&&true)||(!s1)) then
 bif (((s1&&(s1&&true))&&(decide (0≤s4)&&decide (s4.toNat < x2.es.length)))||(!s1)) then
 bif (s1||(!s1)) then
 bif ((s1&&(s1&&true))||(!s1)) then
 obind ((bif s1 then C F0 [(x2.nth (s4.toNat)),(x3.nth x5.i.toNat)] else some [])) fun r2=>
 bif (s1||(!s1)) then
 bif (bif (decide (x5.i > (0:Int))) then s1 else true) then
 bif (bif (decide (x5.i > (0:Int))) then (T.bool (!(rt r2 0).b)) else (T.bool false)).b then
 some [(T.bool false)]
 else
 EX H x1 x2 x3 x4 (T.int (IntKind.wrap .i64 (x5.i+(1:Int))))
 else
 none
 else
 none
 else
 none
 else
 none
 else
 none
 else
 none
 else
 none
 else
 none
 else
 none
 else
 none
 else
 none
 else
 none
 else
 none
 else
 none
 else
 some [(T.bool true)]) (s2==false)) (IntKind.wrap .i64 (x5.i - (1:Int)))) (s0.b==false)) (decide (((x3.nth x5.i.toNat).fld 0).i < (0:Int)))) ((decide (x5.i > (0:Int)))==true)) (bif (decide (((x3.nth x5.i.toNat).fld 0).i < (0:Int))) then (T.bool true) else (T.bool (decide (((x3.nth x5.i.toNat).fld 0).i≥(4:Int))))):=by kernel_rfl
theorem KT (H:HT) (C:aF) (x1 x2 x3 x4 x5:T):iU Em env H C (bS Em.body 0) ([(0,.val 38 x1),(1,.val 49 x2),(15,.val 49 x3),(16,.val 3 x4),(17,.val 3 x5)],[])=Hg H C x1 x2 x3 x4 x5:=by
 refine (KL H C x1 x2 x3 x4 x5).trans ?_
 unfold Hg
 all_goals try dsimp only
 all_goals try simp only[bs]
 all_goals cases hc:((decide (x5.i < x4.i))) with
 | true=>
  try simp only[bs]
  all_goals cases hc:((decide (0≤x5.i)&&decide (x5.i.toNat < x3.es.length))) with
  | true=>
   try simp only[bs]
   all_goals cases hc:((decide (((x3.nth x5.i.toNat).fld 0).i < (0:Int)))) with
   | true=>
    try simp only[bs]
    all_goals kernel_rfl
   | false=>
    try simp only[bs]
    all_goals cases hc:((decide (((x3.nth x5.i.toNat).fld 0).i≥(4:Int)))) with
    | true=>
     try simp only[bs]
     all_goals kernel_rfl
    | false=>
     try simp only[bs]
     all_goals refine br fun r1=>?_
     all_goals try simp only[bs]
     all_goals cases hc:((!(rt r1 0).b)) with
     | true=>
      try simp only[bs]
      all_goals kernel_rfl
     | false=>
      try simp only[bs]
      all_goals cases hc:((decide (x5.i > (0:Int)))) with
      | true=>
       try simp only[bs]
       all_goals cases hc:((decide (0≤(IntKind.wrap .i64 (x5.i - (1:Int))))&&decide ((IntKind.wrap .i64 (x5.i - (1:Int))).toNat < x2.es.length))) with
       | true=>
        try simp only[bs]
        all_goals refine br fun r2=>?_
        all_goals try simp only[bs]
        all_goals cases hc:((!(rt r2 0).b)) with
        | true=>
         try simp only[bs]
         all_goals kernel_rfl
        | false=>
         try simp only[bs]
         all_goals kernel_rfl
       | false=>
        try simp only[bs]
        all_goals kernel_rfl
      | false=>
       try simp only[bs]
       all_goals kernel_rfl
  | false=>
   try simp only[bs]
   all_goals kernel_rfl
 | false=>
  try simp only[bs]
  all_goals kernel_rfl
theorem IS (x1 x2 x3 x4 x5:T) (h:Yields (fun k=>Hg (hl env k Em) (cl env k) x1 x2 x3 x4 x5) r):Yields (fun k=>EX (hl env k Em) x1 x2 x3 x4 x5) r:=Yields.head (fun H C=>KT H C x1 x2 x3 x4 x5) h
noncomputable abbrev oO (H:HT) (C:aF) (a0:T):R:=
 (fun s0=>
 bif (decide (s0 > (2000:Int))) then
 bif ((decide (0≤(0:Int))&&(decide ((0:Int)≤(2000:Int))&&(decide ((2000:Int)≤s0)&&decide (s0≤s0))))&&(decide (0 < a0.es.length))) then
 some [(T.st [(T.sl ((a0.es.take 2000).drop 0)),(T.int (0:Int))])]
 else
 none
 else
 some [(T.st [a0,(T.int (0:Int))])]) (a0.es.length:Int)
theorem yu (a0:T) (h:Yields (fun k=>oO (hl env k nH) (cl env k) a0) r):Yields (fun k=>cl env k oF [a0]) r:=Yields.ca (oO · · a0) h (by kernel_rfl)
noncomputable abbrev lD (H:HT) (C:aF) (a0 a1:T):R:=
 (fun s0=>
 (fun s1=>
 (fun s2=>
 (fun s3=>
 (fun s4=>
 bif (decide (a1.i < (1:Int))) then
 some [(T.int (0:Int)),s0]
 else
 bif (s3==(0:Int)) then
 some [(T.int (0:Int)),s0]
 else
 bif (decide (s2 < s3)) then
 bif (decide (0≤s2)&&decide (s2.toNat < ((s0.fld 0).es).length)) then
 bif (!(a1.i==0)) then
 some [(T.int (((IntKind.wrap .i64 (((s0.fld 0).nth (s2.toNat)).i)):Int).tmod a1.i)),s0]
 else
 none
 else
 none
 else
 bif (!(s3==0)) then
 bif (decide (0≤((s2:Int).tmod s3))&&decide (((s2:Int).tmod s3).toNat < ((s0.fld 0).es).length)) then
 bif (!(s3==0)) then
 bif (decide (0≤s4)&&decide (s4.toNat < ((s0.fld 0).es).length)) then
 bif (!(s3==0)) then
 bif (!((64:Int)==0)) then
 bif (!(a1.i==0)) then
 some [(T.int (((IntKind.wrap .i64 ((BitVec.ofInt (IntKind.i64).bits s1 ^^^ BitVec.ofInt (IntKind.i64).bits (IntKind.wrap .i64 ((s1).tdiv (64:Int)))).toNat:Nat)):Int).tmod a1.i)),s0]
 else
 none
 else
 none
 else
 none
 else
 none
 else
 none
 else
 none
 else
 none) (((IntKind.wrap .i64 ((IntKind.wrap .i64 (s2 * (7:Int)))+(3:Int))):Int).tmod s3)) (((s0.fld 0).es).length:Int)) (IntKind.wrap .i64 ((s0.fld 1).i - (1:Int)))) (IntKind.wrap .i64 ((IntKind.wrap .i64 ((IntKind.wrap .i64 ((IntKind.wrap .i64 ((IntKind.wrap .i64 (((s0.fld 0).nth ((((IntKind.wrap .i64 ((s0.fld 1).i - (1:Int))):Int).tmod (((s0.fld 0).es).length:Int)).toNat)).i)) * (131:Int)))+(IntKind.wrap .i64 ((IntKind.wrap .i64 (((s0.fld 0).nth ((((IntKind.wrap .i64 ((IntKind.wrap .i64 ((IntKind.wrap .i64 ((s0.fld 1).i - (1:Int))) * (7:Int)))+(3:Int))):Int).tmod (((s0.fld 0).es).length:Int)).toNat)).i)) * (1117:Int)))))+(IntKind.wrap .i64 ((IntKind.wrap .i64 ((s0.fld 1).i - (1:Int))) * (29:Int)))))+(IntKind.wrap .i64 ((IntKind.wrap .i64 (((IntKind.wrap .i64 ((s0.fld 1).i - (1:Int)))).tdiv (((s0.fld 0).es).length:Int))) * (53:Int)))))) (T.st (a0.fs.set 1 (T.int (IntKind.wrap .i64 ((a0.fld 1).i+(1:Int))))))
theorem uR (a0 a1:T) (h:Yields (fun k=>lD (hl env k kG) (cl env k) a0 a1) r):Yields (fun k=>cl env k aG [a0,a1]) r:=Yields.ca (lD · · a0 a1) h (by kernel_rfl)
noncomputable def dC (H:HT) (x1 x2 x3:T):R:=H (bS E5.body 0) ([(0,.val 23 x1),(3,.sref 38 3 []),(4,.val 3 x2)],[(3,⟨38,x3,(.sl .dp),false⟩)])
noncomputable def dD (H:HT) (x1 x2 x3 x4 x5:T):R:=H (bS E5.body 1) ([(0,.val 23 x1),(3,.sref 38 3 []),(4,.val 3 x2),(5,.sref 26 5 []),(6,.val 3 x3)],[(3,⟨38,x4,(.sl .dp),false⟩),(5,⟨26,x5,(.sl .dp),false⟩)])
noncomputable abbrev pb (H:HT) (C:aF) (a0:T):R:=
 dC H a0 (T.int (0:Int)) (T.sl [])
theorem tQ (H:HT) (C:aF) (a0:T):bI E5 env H C [a0]=pb H C a0:=by kernel_rfl
theorem tV (a0:T) (h:Yields (fun k=>pb (hl env k E5) (cl env k) a0) r):Yields (fun k=>cl env k d9 [a0]) r:=Yields.call (fi:=E5) rfl rfl (fun H C=>tQ H C a0) h
noncomputable abbrev n6 (H:HT) (C:aF) (x1 x2 x3:T):R:=
 bif (decide (x2.i < (x1.es.length:Int))) then
 dD H x1 x2 (T.int (0:Int)) x3 (T.sl [])
 else
 some [x3]
theorem sm (H:HT) (C:aF) (x1 x2 x3:T):iU E5 env H C (bS E5.body 0) ([(0,.val 23 x1),(3,.sref 38 3 []),(4,.val 3 x2)],[(3,⟨38,x3,(.sl .dp),false⟩)])=n6 H C x1 x2 x3:=by kernel_rfl
theorem n8 (x1 x2 x3:T) (h:Yields (fun k=>n6 (hl env k E5) (cl env k) x1 x2 x3) r):Yields (fun k=>dC (hl env k E5) x1 x2 x3) r:=Yields.head (fun H C=>sm H C x1 x2 x3) h
noncomputable abbrev jl (H:HT) (C:aF) (x1 x2 x3 x4 x5:T):R:=
 (fun s0=>
 (fun s1=>
 bif (decide (0≤x2.i)&&decide (x2.i.toNat < x1.es.length)) then
 bif (decide (x3.i < ((((x1.nth x2.i.toNat).fld 0).es).length:Int))) then
 bif (decide (0≤x3.i)&&decide (x3.i.toNat < (((x1.nth x2.i.toNat).fld 0).es).length)) then
 bif (decide (([]:List T).length+((s0.fld 1).es).length≤LIM)) then
 bif (decide (x5.es.length + [s1].length≤LIM)) then
 dD H x1 x2 (T.int (IntKind.wrap .i64 (x3.i+(1:Int)))) x4 (T.sl (x5.es ++ [s1]))
 else
 none
 else
 none
 else
 none
 else
 bif (decide (x4.es.length + [x5].length≤LIM)) then
 dC H x1 (T.int (IntKind.wrap .i64 (x2.i+(1:Int)))) (T.sl (x4.es ++ [x5]))
 else
 none
 else
 none) (T.st [(s0.fld 0),(T.sl (([]:List T)++(s0.fld 1).es))])) (((x1.nth x2.i.toNat).fld 0).nth x3.i.toNat)
theorem sg (H:HT) (C:aF) (x1 x2 x3 x4 x5:T):iU E5 env H C (bS E5.body 1) ([(0,.val 23 x1),(3,.sref 38 3 []),(4,.val 3 x2),(5,.sref 26 5 []),(6,.val 3 x3)],[(3,⟨38,x4,(.sl .dp),false⟩),(5,⟨26,x5,(.sl .dp),false⟩)]) =
 (fun s0=>
 (fun s1=>
 (fun s2=>
 bif s2 then
 bif (decide (x3.i < ((((x1.nth x2.i.toNat).fld 0).es).length:Int))) then
 bif s2 then
 bif (decide (0≤x3.i)&&decide (x3.i.toNat < (((x1.nth x2.i.toNat).fld 0).es).length)) then
 bif (decide (([]:List T).length+((s0.fld 1).es).length≤LIM)) then
 bif (decide (x5.es.length + [s1].length≤LIM)) then
 dD H x1 x2 (T.int (IntKind.wrap .i64 (x3.i+(1:Int)))) x4 (T.sl (x5.es ++ [s1]))
 else
 none
 else
 none
 else
 none
 else
 none
 else
 bif (decide (x4.es.length + [x5].length≤LIM)) then
 dC H x1 (T.int (IntKind.wrap .i64 (x2.i+(1:Int)))) (T.sl (x4.es ++ [x5]))
 else
 none
 else
 none) (decide (0≤x2.i)&&decide (x2.i.toNat < x1.es.length))) (T.st [(s0.fld 0),(T.sl (([]:List T)++(s0.fld 1).es))])) (((x1.nth x2.i.toNat).fld 0).nth x3.i.toNat):=by kernel_rfl
theorem so (H:HT) (C:aF) (x1 x2 x3 x4 x5:T):iU E5 env H C (bS E5.body 1) ([(0,.val 23 x1),(3,.sref 38 3 []),(4,.val 3 x2),(5,.sref 26 5 []),(6,.val 3 x3)],[(3,⟨38,x4,(.sl .dp),false⟩),(5,⟨26,x5,(.sl .dp),false⟩)])=jl H C x1 x2 x3 x4 x5:=by
 refine (sg H C x1 x2 x3 x4 x5).trans ?_
 unfold jl
 all_goals try dsimp only
 all_goals try simp only[bs]
 all_goals cases hc:((decide (0≤x2.i)&&decide (x2.i.toNat < x1.es.length))) with
 | true=>
  try simp only[bs]
  all_goals cases hc:((decide (x3.i < ((((x1.nth x2.i.toNat).fld 0).es).length:Int)))) with
  | true=>
   try simp only[bs]
   all_goals cases hc:((decide (0≤x3.i)&&decide (x3.i.toNat < (((x1.nth x2.i.toNat).fld 0).es).length))) with
   | true=>
    try simp only[bs]
    all_goals cases hc:((decide (([]:List T).length+(((((x1.nth x2.i.toNat).fld 0).nth x3.i.toNat).fld 1).es).length≤LIM))) with
    | true=>
     try simp only[bs]
     all_goals cases hc:((decide (x5.es.length + [(T.st [((((x1.nth x2.i.toNat).fld 0).nth x3.i.toNat).fld 0),(T.sl (([]:List T)++((((x1.nth x2.i.toNat).fld 0).nth x3.i.toNat).fld 1).es))])].length≤LIM))) with
     | true=>
      try simp only[bs]
      all_goals kernel_rfl
     | false=>
      try simp only[bs]
      all_goals kernel_rfl
    | false=>
     try simp only[bs]
     all_goals kernel_rfl
   | false=>
    try simp only[bs]
    all_goals kernel_rfl
  | false=>
   try simp only[bs]
   all_goals cases hc:((decide (x4.es.length + [x5].length≤LIM))) with
   | true=>
    try simp only[bs]
    all_goals kernel_rfl
   | false=>
    try simp only[bs]
    all_goals kernel_rfl
 | false=>
  try simp only[bs]
  all_goals kernel_rfl
theorem n9 (x1 x2 x3 x4 x5:T) (h:Yields (fun k=>jl (hl env k E5) (cl env k) x1 x2 x3 x4 x5) r):Yields (fun k=>dD (hl env k E5) x1 x2 x3 x4 x5) r:=Yields.head (fun H C=>so H C x1 x2 x3 x4 x5) h
noncomputable abbrev ni (H:HT) (C:aF) (a0:T):R:=
 obind (C qx [a0]) fun r1=>
 some [(T.bool (decide ((rt r1 0).i < (0:Int))))]
theorem xk (a0:T) (h:Yields (fun k=>ni (hl env k jC) (cl env k) a0) r):Yields (fun k=>cl env k na [a0]) r:=Yields.ca (ni · · a0) h (by kernel_rfl)
noncomputable def G8 (H:HT) (x1 x2 x3 x4:T):R:=H (bS Ed.body 0) ([(0,.val 38 x1),(10,.val 38 x2),(11,.val 3 x3),(12,.val 3 x4)],[])
noncomputable def G9 (H:HT) (x1 x2 x3 x4 x5 x6 x7:T):R:=H (bS Ed.body 1) ([(0,.val 38 x1),(4,.val 3 x2),(10,.val 38 x3),(11,.val 3 x4),(12,.val 3 x5),(22,.val 3 x6),(23,.val 3 x7)],[])
noncomputable abbrev Jk (H:HT) (C:aF) (a0:T):R:=
 bif (decide ((a0.es.length:Int) > (3:Int))) then
 some [(T.int (3:Int)),(T.int (0:Int))]
 else
 G8 H a0 a0 (T.int (a0.es.length:Int)) (T.int (0:Int))
theorem Jt (a0:T) (h:Yields (fun k=>Jk (hl env k Ed) (cl env k) a0) r):Yields (fun k=>cl env k HQ [a0]) r:=Yields.ca (Jk · · a0) h (by kernel_rfl)
noncomputable abbrev IN (H:HT) (C:aF) (x1 x2 x3 x4:T):R:=
 (fun s0=>
 bif (decide (x4.i < x3.i)) then
 bif (decide (0≤x4.i)&&decide (x4.i.toNat < x2.es.length)) then
 bif (decide (s0 > (3:Int))) then
 some [x4,(T.int (3:Int))]
 else
 G9 H x1 x4 x2 x3 x4 (T.int s0) (T.int (0:Int))
 else
 none
 else
 some [(T.int (-1:Int)),(T.int (-1:Int))]) (((x2.nth x4.i.toNat).es).length:Int)
theorem Ho (x1 x2 x3 x4:T) (h:Yields (fun k=>IN (hl env k Ed) (cl env k) x1 x2 x3 x4) r):Yields (fun k=>G8 (hl env k Ed) x1 x2 x3 x4) r:=Yields.hd (IN · · x1 x2 x3 x4) h (by kernel_rfl)
noncomputable abbrev IO (H:HT) (C:aF) (x1 x2 x3 x4 x5 x6 x7:T):R:=
 bif (decide (x7.i < x6.i)) then
 obind (C GF [x1,x2,x7]) fun r1=>
 bif (!(rt r1 0).b) then
 some [x2,x7]
 else
 G9 H x1 x2 x3 x4 x5 x6 (T.int (IntKind.wrap .i64 (x7.i+(1:Int))))
 else
 G8 H x1 x3 x4 (T.int (IntKind.wrap .i64 (x5.i+(1:Int))))
theorem Hp (x1 x2 x3 x4 x5 x6 x7:T) (h:Yields (fun k=>IO (hl env k Ed) (cl env k) x1 x2 x3 x4 x5 x6 x7) r):Yields (fun k=>G9 (hl env k Ed) x1 x2 x3 x4 x5 x6 x7) r:=Yields.hd (IO · · x1 x2 x3 x4 x5 x6 x7) h (by kernel_rfl)
noncomputable abbrev nq (H:HT) (C:aF) (a0:T):R:=
 obind (C ki [(a0.fld 0)]) fun r1=>
 obind (C ki [(a0.fld 1)]) fun r2=>
 some [(T.st [(rt r1 0),(rt r2 0)])]
theorem xq (a0:T) (h:Yields (fun k=>nq (hl env k mL) (cl env k) a0) r):Yields (fun k=>cl env k nd [a0]) r:=Yields.ca (nq · · a0) h (by kernel_rfl)
noncomputable def da (H:HT) (x1 x2 x3:T):R:=H (bS dr.body 0) ([(0,.pref 94 100000 []),(3,.sref 23 3 []),(5,.val 3 x1)],[(100000,⟨94,x2,(.st [.fo,.dp]),true⟩),(3,⟨23,x3,(.sl (.st [(.sl (.st [.dp,.fz])),(.sl (.st [.dp,.fz,.fz,.fz,.fz,.dp])),.fz])),false⟩)])
noncomputable abbrev mE (H:HT) (C:aF) (a0:T):R:=
 (fun s0=>
 (fun s1=>
 obind (C aG [a0,(T.int (5:Int))]) fun r1=>
 (fun s2=>
 bif (decide ((rt r1 0).i > (0:Int))) then
 obind (C qy []) fun r2=>
 obind (C eN [(rt r2 0)]) fun r3=>
 (fun s3=>
 bif (decide (s0.length + [s3].length≤LIM)) then
 bif (decide ((rt r1 0).i > (3:Int))) then
 obind (C ml []) fun r4=>
 obind (C eN [(rt r4 0)]) fun r5=>
 (fun s4=>
 bif (decide ((s0 ++ [s3]).length + [s4].length≤LIM)) then
 obind (C aG [s2,s1]) fun r6=>
 da H (rt r6 0) (rt (r6.drop 1) 0) (T.sl ((s0 ++ [s3]) ++ [s4]))
 else
 none) (T.st [((rt r5 0).fld 0),((rt r5 0).fld 1),((rt r5 0).fld 2)])
 else
 obind (C aG [s2,s1]) fun r7=>
 da H (rt r7 0) (rt (r7.drop 1) 0) (T.sl (s0 ++ [s3]))
 else
 none) (T.st [((rt r3 0).fld 0),((rt r3 0).fld 1),((rt r3 0).fld 2)])
 else
 bif (decide ((rt r1 0).i > (3:Int))) then
 obind (C ml []) fun r8=>
 obind (C eN [(rt r8 0)]) fun r9=>
 (fun s5=>
 bif (decide (s0.length + [s5].length≤LIM)) then
 obind (C aG [s2,s1]) fun r10=>
 da H (rt r10 0) (rt (r10.drop 1) 0) (T.sl (s0 ++ [s5]))
 else
 none) (T.st [((rt r9 0).fld 0),((rt r9 0).fld 1),((rt r9 0).fld 2)])
 else
 obind (C aG [s2,s1]) fun r11=>
 da H (rt r11 0) (rt (r11.drop 1) 0) (T.sl [])) (rt (r1.drop 1) 0)) (T.int (3:Int))) ([]:List T)
theorem wC (a0:T) (h:Yields (fun k=>mE (hl env k dr) (cl env k) a0) r):Yields (fun k=>cl env k mn [a0]) r:=Yields.ca (mE · · a0) h (by kernel_rfl)
noncomputable abbrev RJ (H:HT) (C:aF) (x1 x2 x3:T):R:=
 (fun s0=>
 (fun s1=>
 bif (decide (x1.i > (0:Int))) then
 bif (decide ((x3.es.length:Int) < (3:Int))) then
 obind (C lw [x2,x3]) fun r1=>
 (fun s2=>
 bif (decide (x3.es.length + [s2].length≤LIM)) then
 da H (T.int (IntKind.wrap .i64 (x1.i - (1:Int)))) (rt (r1.drop 1) 0) (T.sl (x3.es ++ [s2]))
 else
 none) (T.st [((rt r1 0).fld 0),((rt r1 0).fld 1),((rt r1 0).fld 2)])
 else
 bif s1 then
 obind (C aG [x2,(T.int (3:Int))]) fun r2=>
 bif ((rt r2 0).i==(0:Int)) then
 bif (decide (0≤(0:Int))&&decide (0 < x3.es.length)) then
 some [s0,(rt (r2.drop 1) 0)]
 else
 none
 else
 some [x3,(rt (r2.drop 1) 0)]
 else
 some [x3,x2]
 else
 bif s1 then
 obind (C aG [x2,(T.int (3:Int))]) fun r3=>
 bif ((rt r3 0).i==(0:Int)) then
 bif (decide (0≤(0:Int))&&decide (0 < x3.es.length)) then
 some [s0,(rt (r3.drop 1) 0)]
 else
 none
 else
 some [x3,(rt (r3.drop 1) 0)]
 else
 some [x3,x2]) (decide ((x3.es.length:Int) > (1:Int)))) (T.put x3 [.idx 0,.fld 2] (T.sl [(T.int (1:Int))]))
theorem pm (x1 x2 x3:T) (h:Yields (fun k=>RJ (hl env k dr) (cl env k) x1 x2 x3) r):Yields (fun k=>da (hl env k dr) x1 x2 x3) r:=Yields.hd (RJ · · x1 x2 x3) h (by kernel_rfl)
noncomputable def Fo (H:HT) (x1 x2 x3 x4:T):R:=H (bS Ea.body 0) ([(0,.pref 94 100000 []),(1,.val 38 x1),(5,.sref 49 5 []),(6,.val 3 x2)],[(100000,⟨94,x3,(.st [.fo,.dp]),true⟩),(5,⟨49,x4,(.sl .fz),false⟩)])
noncomputable def Fp (H:HT) (x1 x2 x3 x4 x5:T):R:=H (bS Ea.body 1) ([(0,.pref 94 100000 []),(1,.val 38 x1),(5,.sref 49 5 []),(6,.val 3 x2),(7,.val 3 x3)],[(100000,⟨94,x4,(.st [.fo,.dp]),true⟩),(5,⟨49,x5,(.sl .fz),false⟩)])
noncomputable def EQ (H:HT) (x1 x2 x3 x4 x5 x6 x7:T):R:=H (bS Ea.body 2) ([(0,.pref 94 100000 []),(1,.val 38 x1),(5,.sref 49 5 []),(6,.val 3 x2),(7,.val 3 x3),(8,.val 9 x4),(9,.val 3 x5)],[(100000,⟨94,x6,(.st [.fo,.dp]),true⟩),(5,⟨49,x7,(.sl .fz),false⟩)])
noncomputable abbrev J7 (H:HT) (C:aF) (a0 a1:T):R:=
 Fo H a1 (T.int (0:Int)) a0 (T.sl [])
theorem Lv (a0 a1:T) (h:Yields (fun k=>J7 (hl env k Ea) (cl env k) a0 a1) r):Yields (fun k=>cl env k EN [a0,a1]) r:=Yields.ca (J7 · · a0 a1) h (by kernel_rfl)
noncomputable abbrev FX (H:HT) (C:aF) (x1 x2 x3 x4:T):R:=
 bif (decide (x2.i < (x1.es.length:Int))) then
 Fp H x1 x2 (T.int (0:Int)) x3 x4
 else
 some [x4,x3]
theorem Iy (x1 x2 x3 x4:T) (h:Yields (fun k=>FX (hl env k Ea) (cl env k) x1 x2 x3 x4) r):Yields (fun k=>Fo (hl env k Ea) x1 x2 x3 x4) r:=Yields.hd (FX · · x1 x2 x3 x4) h (by kernel_rfl)
noncomputable abbrev FY (H:HT) (C:aF) (x1 x2 x3 x4 x5:T):R:=
 bif (decide (0≤x2.i)&&decide (x2.i.toNat < x1.es.length)) then
 bif (decide (x3.i < (((x1.nth x2.i.toNat).es).length:Int))) then
 obind (C dE [x2]) fun r1=>
 bif (decide (k_S.size+((rt r1 0).s).size≤LIM)) then
 obind (C dE [x3]) fun r2=>
 bif (decide ((k_S++((rt r1 0).s)).size+((rt r2 0).s).size≤LIM)) then
 EQ H x1 x2 x3 (T.str ((k_S++((rt r1 0).s))++((rt r2 0).s))) (T.int (0:Int)) x4 x5
 else
 none
 else
 none
 else
 Fo H x1 (T.int (IntKind.wrap .i64 (x2.i+(1:Int)))) x4 x5
 else
 none
theorem Iz (x1 x2 x3 x4 x5:T) (h:Yields (fun k=>FY (hl env k Ea) (cl env k) x1 x2 x3 x4 x5) r):Yields (fun k=>Fp (hl env k Ea) x1 x2 x3 x4 x5) r:=Yields.hd (FY · · x1 x2 x3 x4 x5) h (by kernel_rfl)
noncomputable abbrev FZ (H:HT) (C:aF) (x1 x2 x3 x4 x5 x6 x7:T):R:=
 (fun s0=>
 bif (decide (x5.i < (4:Int))) then
 obind (C eD [x1,x4]) fun r1=>
 obind (C bH [(rt r1 0),(T.int (8:Int))]) fun r2=>
 bif (rt r2 0).b then
 obind (C aG [x6,(T.int (2:Int))]) fun r3=>
 bif ((rt r3 0).i==(0:Int)) then
 bif (decide (0≤x2.i)&&decide (x2.i.toNat < x1.es.length)) then
 bif (decide (0≤x3.i)&&decide (x3.i.toNat < ((x1.nth x2.i.toNat).es).length)) then
 bif (decide ((((x1.nth x2.i.toNat).nth x3.i.toNat).fld 0).i≤(15:Int))) then
 obind (C EA [(rt (r3.drop 1) 0),x1,x4]) fun r4=>
 obind (C Gg [x7,x5,(rt r4 0)]) fun r5=>
 EQ H x1 x2 x3 x4 s0 (rt (r4.drop 1) 0) (rt r5 0)
 else
 EQ H x1 x2 x3 x4 s0 (rt (r3.drop 1) 0) x7
 else
 none
 else
 none
 else
 EQ H x1 x2 x3 x4 s0 (rt (r3.drop 1) 0) x7
 else
 EQ H x1 x2 x3 x4 s0 x6 x7
 else
 Fp H x1 x2 (T.int (IntKind.wrap .i64 (x3.i+(1:Int)))) x6 x7) (T.int (IntKind.wrap .i64 (x5.i+(1:Int))))
theorem IA (x1 x2 x3 x4 x5 x6 x7:T) (h:Yields (fun k=>FZ (hl env k Ea) (cl env k) x1 x2 x3 x4 x5 x6 x7) r):Yields (fun k=>EQ (hl env k Ea) x1 x2 x3 x4 x5 x6 x7) r:=Yields.hd (FZ · · x1 x2 x3 x4 x5 x6 x7) h (by kernel_rfl)
noncomputable def X4 (H:HT) (x1 x2 x3 x4 x5:T):R:=H (bS WX.body 0) ([(1,.pref 82 1 []),(3,.sref 31 3 []),(28,.val 80 x1),(29,.val 3 x2),(30,.val 3 x3)],[(1,⟨82,x4,.fz,true⟩),(3,⟨31,x5,(.sl .dp),false⟩)])
noncomputable abbrev Xv (H:HT) (C:aF) (a0:T):R:=
 bif (((a0.fld 0).s).toList==k_n.toList) then
 obind (C SL [(a0.fld 1)]) fun r1=>
 some [(rt r1 0)]
 else
 bif (((a0.fld 0).s).toList==k_b.toList) then
 bif (decide (0≤(a0.fld 1).i)&&decide (((a0.fld 1).i).toNat < [(T.str k_x2d),(T.str k_x2b)].length)) then
 some [((T.sl [(T.str k_x2d),(T.str k_x2b)]).nth (((a0.fld 1).i).toNat))]
 else
 none
 else
 bif (((a0.fld 0).s).toList==k_o.toList) then
 obind (C SL [(a0.fld 1)]) fun r2=>
 bif (decide (Xu.size+((rt r2 0).s).size≤LIM)) then
 some [(T.str (Xu++((rt r2 0).s)))]
 else
 none
 else
 X4 H (a0.fld 2) (T.int (((a0.fld 2).es).length:Int)) (T.int (0:Int)) a0 (T.sl [])
theorem X7 (a0:T) (h:Yields (fun k=>Xv (hl env k WX) (cl env k) a0) r):Yields (fun k=>cl env k X6 [a0]) r:=Yields.ca (Xv · · a0) h (by kernel_rfl)
noncomputable abbrev Xq (H:HT) (C:aF) (x1 x2 x3 x4 x5:T):R:=
 (fun s0=>
 bif (decide (x3.i < x2.i)) then
 bif (decide (0≤x3.i)&&decide (x3.i.toNat < x1.es.length)) then
 obind (C X6 [(x1.nth x3.i.toNat)]) fun r1=>
 bif (decide (x5.es.length + [(rt r1 0)].length≤LIM)) then
 X4 H x1 x2 (T.int (IntKind.wrap .i64 (x3.i+(1:Int)))) x4 (T.sl (x5.es ++ [(rt r1 0)]))
 else
 none
 else
 none
 else
 bif (decide (((x4.fld 0).s).size+k_x28.size≤LIM)) then
 obind (C S6 [x5,(T.str SG)]) fun r2=>
 bif (decide (s0.size+((rt r2 0).s).size≤LIM)) then
 bif (decide ((s0++((rt r2 0).s)).size+k_x29.size≤LIM)) then
 some [(T.str ((s0++((rt r2 0).s))++k_x29))]
 else
 none
 else
 none
 else
 none) (((x4.fld 0).s)++k_x28)
theorem Xr (x1 x2 x3 x4 x5:T) (h:Yields (fun k=>Xq (hl env k WX) (cl env k) x1 x2 x3 x4 x5) r):Yields (fun k=>X4 (hl env k WX) x1 x2 x3 x4 x5) r:=Yields.hd (Xq · · x1 x2 x3 x4 x5) h (by kernel_rfl)
noncomputable abbrev I3 (H:HT) (C:aF) (a0 a1:T):R:=
 obind (C na [a0]) fun r1=>
 bif (rt r1 0).b then
 obind (C JB [a0,a1]) fun r2=>
 some [(rt r2 0)]
 else
 some [(T.bool false)]
theorem Ie (a0 a1:T) (h:Yields (fun k=>I3 (hl env k FK) (cl env k) a0 a1) r):Yields (fun k=>cl env k Ep [a0,a1]) r:=Yields.ca (I3 · · a0 a1) h (by kernel_rfl)
noncomputable abbrev mw (H:HT) (C:aF) (a0:T):R:=
 (fun s0=>
 bif (decide (a0.i < (-9223372036854775807:Int))) then
 some [(T.str (⟨#[45,57,50,50,51,51,55,50,48,51,54,56,53,52,55,55,53,56,48,56]⟩:ByteArray))]
 else
 bif (decide (a0.i < (0:Int))) then
 obind (C dE [(T.int (IntKind.wrap .i64 (0 - a0.i)))]) fun r1=>
 bif (decide ((⟨#[45]⟩:ByteArray).size+((rt r1 0).s).size≤LIM)) then
 some [(T.str ((⟨#[45]⟩:ByteArray)++((rt r1 0).s)))]
 else
 none
 else
 bif (decide (a0.i < (10:Int))) then
 some [(T.str (⟨([(T.int (IntKind.wrap .u8 (IntKind.wrap .i64 ((48:Int)+a0.i))))].map fun c=>UInt8.ofNat c.i.toNat).toArray⟩:ByteArray))]
 else
 bif (!((10:Int)==0)) then
 obind (C dE [(T.int (IntKind.wrap .i64 ((a0.i).tdiv (10:Int))))]) fun r1=>
 bif (decide (((rt r1 0).s).size+(⟨([s0].map fun c=>UInt8.ofNat c.i.toNat).toArray⟩:ByteArray).size≤LIM)) then
 some [(T.str (((rt r1 0).s)++(⟨([s0].map fun c=>UInt8.ofNat c.i.toNat).toArray⟩:ByteArray)))]
 else
 none
 else
 none) (T.int (IntKind.wrap .u8 (IntKind.wrap .i64 ((48:Int)+((a0.i:Int).tmod (10:Int))))))
theorem yW (H:HT) (C:aF) (a0:T):bI ja env H C [a0] =
 (fun s0=>
 bif (decide (a0.i < (-9223372036854775807:Int))) then
 some [(T.str (⟨#[45,57,50,50,51,51,55,50,48,51,54,56,53,52,55,55,53,56,48,56]⟩:ByteArray))]
 else
 bif (decide (a0.i < (0:Int))) then
 obind (C dE [(T.int (IntKind.wrap .i64 (0 - a0.i)))]) fun r1=>
 bif (decide ((⟨#[45]⟩:ByteArray).size+((rt r1 0).s).size≤LIM)) then
 some [(T.str ((⟨#[45]⟩:ByteArray)++((rt r1 0).s)))]
 else
 none
 else
 bif (decide (a0.i < (10:Int))) then
 some [(T.str (⟨([(T.int (IntKind.wrap .u8 (IntKind.wrap .i64 ((48:Int)+a0.i))))].map fun c=>UInt8.ofNat c.i.toNat).toArray⟩:ByteArray))]
 else
 bif (!((10:Int)==0)) then
 obind (C dE [(T.int (IntKind.wrap .i64 ((a0.i).tdiv (10:Int))))]) fun r2=>
 bif (!((10:Int)==0)) then
 bif (decide (((rt r2 0).s).size+(⟨([s0].map fun c=>UInt8.ofNat c.i.toNat).toArray⟩:ByteArray).size≤LIM)) then
 some [(T.str (((rt r2 0).s)++(⟨([s0].map fun c=>UInt8.ofNat c.i.toNat).toArray⟩:ByteArray)))]
 else
 none
 else
 none
 else
 none) (T.int (IntKind.wrap .u8 (IntKind.wrap .i64 ((48:Int)+((a0.i:Int).tmod (10:Int)))))):=by kernel_rfl
theorem zJ (H:HT) (C:aF) (a0:T):bI ja env H C [a0]=mw H C a0:=by
 refine (yW H C a0).trans ?_
 unfold mw
 all_goals try dsimp only
 all_goals try simp only[bs]
 all_goals cases hc:((decide (a0.i < (-9223372036854775807:Int)))) with
 | true=>
  try simp only[bs]
  all_goals kernel_rfl
 | false=>
  try simp only[bs]
  all_goals cases hc:((decide (a0.i < (0:Int)))) with
  | true=>
   try simp only[bs]
   all_goals refine br fun r1=>?_
   all_goals try simp only[bs]
   all_goals cases hc:((decide ((⟨#[45]⟩:ByteArray).size+((rt r1 0).s).size≤LIM))) with
   | true=>
    try simp only[bs]
    all_goals kernel_rfl
   | false=>
    try simp only[bs]
    all_goals kernel_rfl
  | false=>
   try simp only[bs]
   all_goals cases hc:((decide (a0.i < (10:Int)))) with
   | true=>
    try simp only[bs]
    all_goals kernel_rfl
   | false=>
    try simp only[bs]
    all_goals cases hc:((!((10:Int)==0))) with
    | true=>
     try simp only[bs]
     all_goals refine br fun r1=>?_
     all_goals try simp only[bs]
     all_goals cases hc:((decide (((rt r1 0).s).size+(⟨([(T.int (IntKind.wrap .u8 (IntKind.wrap .i64 ((48:Int)+((a0.i:Int).tmod (10:Int))))))].map fun c=>UInt8.ofNat c.i.toNat).toArray⟩:ByteArray).size≤LIM))) with
     | true=>
      try simp only[bs]
      all_goals kernel_rfl
     | false=>
      try simp only[bs]
      all_goals kernel_rfl
    | false=>
     try simp only[bs]
     all_goals kernel_rfl
theorem A2 (a0:T) (h:Yields (fun k=>mw (hl env k ja) (cl env k) a0) r):Yields (fun k=>cl env k dE [a0]) r:=Yields.call (fi:=ja) rfl rfl (fun H C=>zJ H C a0) h
noncomputable def X1 (H:HT) (x1 x2 x3:T):R:=H (bS WZ.body 0) ([(1,.pref 82 1 []),(3,.val 9 x1),(4,.val 3 x2)],[(1,⟨82,x3,.fz,true⟩)])
noncomputable abbrev XA (H:HT) (C:aF) (a0:T):R:=
 (fun s0=>
 bif (s0.toList==k_n.toList) then
 obind (C dE [(a0.fld 1)]) fun r1=>
 some [(rt r1 0)]
 else
 bif (s0.toList==k_b.toList) then
 bif (decide (0≤(a0.fld 1).i)&&decide (((a0.fld 1).i).toNat < [(T.str k_x2d),(T.str k_x2b)].length)) then
 some [((T.sl [(T.str k_x2d),(T.str k_x2b)]).nth (((a0.fld 1).i).toNat))]
 else
 none
 else
 bif (s0.toList==k_o.toList) then
 obind (C dE [(a0.fld 1)]) fun r2=>
 bif (decide (Xu.size+((rt r2 0).s).size≤LIM)) then
 some [(T.str (Xu++((rt r2 0).s)))]
 else
 none
 else
 bif (decide (s0.size+k_x28.size≤LIM)) then
 X1 H (T.str (s0++k_x28)) (T.int (0:Int)) a0
 else
 none) ((a0.fld 0).s)
theorem Xd (a0:T) (h:Yields (fun k=>XA (hl env k WZ) (cl env k) a0) r):Yields (fun k=>cl env k Xa [a0]) r:=Yields.ca (XA · · a0) h (by kernel_rfl)
noncomputable abbrev Xw (H:HT) (C:aF) (x1 x2 x3:T):R:=
 (fun s0=>
 (fun s1=>
 bif (decide (x2.i < (((x3.fld 2).es).length:Int))) then
 bif (decide (x2.i > (0:Int))) then
 bif (decide (x1.s.size+SG.size≤LIM)) then
 bif s0 then
 obind (C Xa [((x3.fld 2).nth x2.i.toNat)]) fun r1=>
 bif (decide ((x1.s++SG).size+((rt r1 0).s).size≤LIM)) then
 X1 H (T.str ((x1.s++SG)++((rt r1 0).s))) s1 x3
 else
 none
 else
 none
 else
 none
 else
 bif s0 then
 obind (C Xa [((x3.fld 2).nth x2.i.toNat)]) fun r2=>
 bif (decide (x1.s.size+((rt r2 0).s).size≤LIM)) then
 X1 H (T.str (x1.s++((rt r2 0).s))) s1 x3
 else
 none
 else
 none
 else
 bif (decide (x1.s.size+k_x29.size≤LIM)) then
 some [(T.str (x1.s++k_x29))]
 else
 none) (T.int (IntKind.wrap .i64 (x2.i+(1:Int))))) (decide (0≤x2.i)&&decide (x2.i.toNat < ((x3.fld 2).es).length))
theorem Xx (x1 x2 x3:T) (h:Yields (fun k=>Xw (hl env k WZ) (cl env k) x1 x2 x3) r):Yields (fun k=>X1 (hl env k WZ) x1 x2 x3) r:=Yields.hd (Xw · · x1 x2 x3) h (by kernel_rfl)
noncomputable abbrev HW (H:HT) (C:aF) (a0 a1:T):R:=
 obind (C ER [a0,(a1.fld 0)]) fun r1=>
 bif (rt r1 0).b then
 obind (C F3 [a0,(a1.fld 0)]) fun r2=>
 bif ((IntKind.wrap .i64 ((BitVec.ofInt (IntKind.i64).bits (((rt r2 0).fld 0).i) &&& BitVec.ofInt (IntKind.i64).bits (8:Int)).toNat:Nat)) != (0:Int)) then
 obind (C El [a0,a1]) fun r3=>
 some [(rt r3 0)]
 else
 some [(T.bool false)]
 else
 some [(T.bool false)]
theorem Ic (a0 a1:T) (h:Yields (fun k=>HW (hl env k FJ) (cl env k) a0 a1) r):Yields (fun k=>cl env k EJ [a0,a1]) r:=Yields.ca (HW · · a0 a1) h (by kernel_rfl)
noncomputable abbrev GY (H:HT) (C:aF) (a0 a1:T):R:=
 bif (decide ((a0.fld 0).i < (a1.fld 0).i)) then
 some [(T.bool true)]
 else
 bif ((a0.fld 0).i==(a1.fld 0).i) then
 some [(T.bool (Op.bytesLess (((a0.fld 1).fld 0).s).toList (((a1.fld 1).fld 0).s).toList))]
 else
 some [(T.bool false)]
theorem KA (a0 a1:T) (h:Yields (fun k=>GY (hl env k Fe) (cl env k) a0 a1) r):Yields (fun k=>cl env k F0 [a0,a1]) r:=Yields.ca (GY · · a0 a1) h (by kernel_rfl)
noncomputable abbrev hY (H:HT) (C:aF) (a0 a1 a2:T):R:=
 obind (C dZ [a1,(T.int (0:Int)),(T.int (IntKind.wrap .i64 ((a0.es.length:Int) - (1:Int))))]) fun r1=>
 bif (rt r1 0).b then
 bif (decide (0≤a1.i)&&decide (a1.i.toNat < a0.es.length)) then
 obind (C dZ [a2,(T.int (0:Int)),(T.int (IntKind.wrap .i64 (((((a0.nth a1.i.toNat).fld 1).es).length:Int) - (1:Int))))]) fun r2=>
 some [(rt r2 0)]
 else
 none
 else
 some [(T.bool false)]
theorem qi (a0 a1 a2:T) (h:Yields (fun k=>hY (hl env k j9) (cl env k) a0 a1 a2) r):Yields (fun k=>cl env k P9 [a0,a1,a2]) r:=Yields.ca (hY · · a0 a1 a2) h (by kernel_rfl)
noncomputable def lU (H:HT) (x1 x2 x3 x4:T):R:=H (bS bo.body 0) ([(1,.pref 34 1 []),(2,.pref 43 2 []),(3,.pref 43 3 []),(4,.val 3 x1)],[(1,⟨34,x2,.fz,true⟩),(2,⟨43,x3,.dp,true⟩),(3,⟨43,x4,(.st [.dp,.dp]),true⟩)])
noncomputable def eP (H:HT) (x1 x2 x3 x4:T):R:=H (bS bo.body 0) ([(1,.pref 34 1 []),(2,.pref 43 2 []),(3,.pref 43 3 []),(4,.val 3 x1)],[(1,⟨34,x2,.fz,true⟩),(2,⟨43,x3,.dp,true⟩),(3,⟨43,x4,(.st [.dp,(.sl .dp)]),true⟩)])
noncomputable def lV (H:HT) (x1 x2 x3 x4:T):R:=H (bS bo.body 1) ([(1,.pref 34 1 []),(2,.pref 43 2 []),(3,.pref 43 3 []),(6,.val 3 x1)],[(1,⟨34,x2,.fz,true⟩),(2,⟨43,x3,.dp,true⟩),(3,⟨43,x4,(.st [.dp,.dp]),true⟩)])
noncomputable def fS (H:HT) (x1 x2 x3 x4:T):R:=H (bS bo.body 1) ([(1,.pref 34 1 []),(2,.pref 43 2 []),(3,.pref 43 3 []),(6,.val 3 x1)],[(1,⟨34,x2,.fz,true⟩),(2,⟨43,x3,.dp,true⟩),(3,⟨43,x4,(.st [.dp,(.sl .dp)]),true⟩)])
noncomputable abbrev nl (H:HT) (C:aF) (a0:T):R:=
 lU H (T.int (0:Int)) a0 (T.st [(T.sl []),(T.sl [])]) (T.st [(T.sl []),(T.sl [])])
theorem xn (a0:T) (h:Yields (fun k=>nl (hl env k bo) (cl env k) a0) r):Yields (fun k=>cl env k nc [a0]) r:=Yields.ca (nl · · a0) h (by kernel_rfl)
noncomputable abbrev lB (H:HT) (C:aF) (x1 x2 x3 x4:T):R:=
 (fun s0=>
 (fun s1=>
 (fun s2=>
 (fun s3=>
 bif (decide (x1.i < (((x2.fld 1).es).length:Int))) then
 bif s1 then
 bif s1 then
 obind (C bO [s0]) fun r1=>
 bif (rt r1 0).b then
 bif (decide (((x4.fld 1).es).length + [s3].length≤LIM)) then
 eP H s2 x2 x3 (T.st (x4.fs.set 1 (T.sl ((x4.fld 1).es ++ [s3]))))
 else
 none
 else
 bif (decide (((x4.fld 1).es).length + [(T.st [s0,(T.sl [])])].length≤LIM)) then
 eP H s2 x2 x3 (T.st (x4.fs.set 1 (T.sl ((x4.fld 1).es ++ [(T.st [s0,(T.sl [])])]))))
 else
 none
 else
 none
 else
 none
 else
 lV H (T.int (0:Int)) x2 x3 x4) (T.st [s0,(T.sl [(T.int (9:Int))])])) (T.int (IntKind.wrap .i64 (x1.i+(1:Int))))) (decide (0≤x1.i)&&decide (x1.i.toNat < ((x2.fld 1).es).length))) ((x2.fld 1).nth x1.i.toNat)
theorem uP (x1 x2 x3 x4:T) (h:Yields (fun k=>lB (hl env k bo) (cl env k) x1 x2 x3 x4) r):Yields (fun k=>lU (hl env k bo) x1 x2 x3 x4) r:=Yields.hd (lB · · x1 x2 x3 x4) h (by kernel_rfl)
noncomputable abbrev iD (H:HT) (C:aF) (x1 x2 x3 x4:T):R:=
 (fun s0=>
 (fun s1=>
 (fun s2=>
 (fun s3=>
 bif (decide (x1.i < (((x2.fld 1).es).length:Int))) then
 bif s1 then
 bif s1 then
 obind (C bO [s0]) fun r1=>
 bif (rt r1 0).b then
 bif (decide (((x4.fld 1).es).length + [s3].length≤LIM)) then
 eP H s2 x2 x3 (T.st (x4.fs.set 1 (T.sl ((x4.fld 1).es ++ [s3]))))
 else
 none
 else
 bif (decide (((x4.fld 1).es).length + [(T.st [s0,(T.sl [])])].length≤LIM)) then
 eP H s2 x2 x3 (T.st (x4.fs.set 1 (T.sl ((x4.fld 1).es ++ [(T.st [s0,(T.sl [])])]))))
 else
 none
 else
 none
 else
 none
 else
 fS H (T.int (0:Int)) x2 x3 x4) (T.st [s0,(T.sl [(T.int (9:Int))])])) (T.int (IntKind.wrap .i64 (x1.i+(1:Int))))) (decide (0≤x1.i)&&decide (x1.i.toNat < ((x2.fld 1).es).length))) ((x2.fld 1).nth x1.i.toNat)
theorem qj (x1 x2 x3 x4:T) (h:Yields (fun k=>iD (hl env k bo) (cl env k) x1 x2 x3 x4) r):Yields (fun k=>eP (hl env k bo) x1 x2 x3 x4) r:=Yields.hd (iD · · x1 x2 x3 x4) h (by kernel_rfl)
noncomputable abbrev lC (H:HT) (C:aF) (x1 x2 x3 x4:T):R:=
 (fun s0=>
 bif (decide (x1.i < (((x2.fld 3).es).length:Int))) then
 bif (decide (((x4.fld 1).es).length + [s0].length≤LIM)) then
 fS H (T.int (IntKind.wrap .i64 (x1.i+(1:Int)))) x2 x3 (T.st (x4.fs.set 1 (T.sl ((x4.fld 1).es ++ [s0]))))
 else
 none
 else
 some [(T.st [(x4.fld 0),(x4.fld 1)])]) (T.st [(T.str (⟨#[]⟩:ByteArray)),(T.sl [])])
theorem uQ (x1 x2 x3 x4:T) (h:Yields (fun k=>lC (hl env k bo) (cl env k) x1 x2 x3 x4) r):Yields (fun k=>lV (hl env k bo) x1 x2 x3 x4) r:=Yields.hd (lC · · x1 x2 x3 x4) h (by kernel_rfl)
noncomputable abbrev iE (H:HT) (C:aF) (x1 x2 x3 x4:T):R:=lC H C x1 x2 x3 x4
theorem qk (x1 x2 x3 x4:T) (h:Yields (fun k=>iE (hl env k bo) (cl env k) x1 x2 x3 x4) r):Yields (fun k=>fS (hl env k bo) x1 x2 x3 x4) r:=Yields.hd (iE · · x1 x2 x3 x4) h (by kernel_rfl)
noncomputable abbrev oR (H:HT) (C:aF) (a0:T):R:=
 obind (C nb []) fun r1=>
 obind (C aG [a0,(T.int (((rt r1 0).es).length:Int))]) fun r2=>
 (fun s0=>
 bif (decide (0≤(rt r2 0).i)&&decide (((rt r2 0).i).toNat < ((rt r1 0).es).length)) then
 bif (decide ((s0.fld 1).i > (0:Int))) then
 obind (C aG [(rt (r2.drop 1) 0),(T.int (bif decide ((12:Int) < (s0.fld 1).i) then (12:Int) else (s0.fld 1).i))]) fun r3=>
 (fun s1=>
 bif (decide ((s1.fld 2).i > (0:Int))) then
 obind (C aG [(rt (r3.drop 1) 0),(s1.fld 2)]) fun r4=>
 some [(T.st (s1.fs.set 2 (rt r4 0))),(rt (r4.drop 1) 0)]
 else
 some [s1,(rt (r3.drop 1) 0)]) (T.st (s0.fs.set 1 (rt r3 0)))
 else
 bif (decide ((s0.fld 2).i > (0:Int))) then
 obind (C aG [(rt (r2.drop 1) 0),(s0.fld 2)]) fun r5=>
 some [(T.st (s0.fs.set 2 (rt r5 0))),(rt (r5.drop 1) 0)]
 else
 some [s0,(rt (r2.drop 1) 0)]
 else
 none) ((rt r1 0).nth (((rt r2 0).i).toNat))
theorem yx (a0:T) (h:Yields (fun k=>oR (hl env k nJ) (cl env k) a0) r):Yields (fun k=>cl env k fp [a0]) r:=Yields.ca (oR · · a0) h (by kernel_rfl)
noncomputable def gZ (H:HT) (x1 x2 x3 x4 x5:T):R:=H (bS dN.body 0) ([(0,.pref 94 100000 []),(1,.val 38 x1),(3,.val 4 x2),(9,.sref 31 9 []),(10,.val 3 x3)],[(100000,⟨94,x4,(.st [.fo,.dp]),true⟩),(9,⟨31,x5,(.sl .dp),false⟩)])
noncomputable abbrev mF (H:HT) (C:aF) (a0 a1 a2 a3:T):R:=
 obind (C aG [a0,(T.int (IntKind.wrap .i64 (a2.i+(1:Int))))]) fun r1=>
 gZ H a1 a3 (rt r1 0) (rt (r1.drop 1) 0) (T.sl [])
theorem wD (a0 a1 a2 a3:T) (h:Yields (fun k=>mF (hl env k dN) (cl env k) a0 a1 a2 a3) r):Yields (fun k=>cl env k cP [a0,a1,a2,a3]) r:=Yields.ca (mF · · a0 a1 a2 a3) h (by kernel_rfl)
noncomputable abbrev gU (H:HT) (C:aF) (x1 x2 x3 x4 x5:T):R:=
 bif (decide (x3.i > (0:Int))) then
 obind (C OW [x4,x1,x2]) fun r1=>
 bif (decide (x5.es.length + [(rt r1 0)].length≤LIM)) then
 gZ H x1 x2 (T.int (IntKind.wrap .i64 (x3.i - (1:Int)))) (rt (r1.drop 1) 0) (T.sl (x5.es ++ [(rt r1 0)]))
 else
 none
 else
 some [x5,x4]
theorem pn (x1 x2 x3 x4 x5:T) (h:Yields (fun k=>gU (hl env k dN) (cl env k) x1 x2 x3 x4 x5) r):Yields (fun k=>gZ (hl env k dN) x1 x2 x3 x4 x5) r:=Yields.hd (gU · · x1 x2 x3 x4 x5) h (by kernel_rfl)
noncomputable def jV (H:HT) (x1 x2 x3 x4 x5:T):R:=H (bS ci.body 0) ([(0,.pref 94 100000 []),(1,.val 38 x1),(4,.pref 101 4 []),(5,.pref 101 5 []),(6,.val 3 x2)],[(100000,⟨94,x3,(.st [.fo,.dp]),true⟩),(4,⟨101,x4,.dp,true⟩),(5,⟨101,x5,(.st [.dp,.dp]),true⟩)])
noncomputable def gB (H:HT) (x1 x2 x3 x4 x5:T):R:=H (bS ci.body 0) ([(0,.pref 94 100000 []),(1,.val 38 x1),(4,.pref 101 4 []),(5,.pref 101 5 []),(6,.val 3 x2)],[(100000,⟨94,x3,(.st [.fo,.dp]),true⟩),(4,⟨101,x4,.dp,true⟩),(5,⟨101,x5,(.st [.dp,(.sl .dp)]),true⟩)])
noncomputable abbrev lL (H:HT) (C:aF) (a0 a1:T):R:=
 obind (C dH [a0,(T.sl [(T.int (0:Int)),(T.int (4:Int)),(T.int (8:Int)),(T.int (12:Int)),(T.int (12:Int)),(T.int (7:Int)),(T.int (15:Int)),(T.int (3:Int)),(T.int (6:Int)),(T.int (2:Int))])]) fun r1=>
 obind (C aG [(rt (r1.drop 1) 0),(T.int (4:Int))]) fun r2=>
 jV H a1 (rt r2 0) (rt (r2.drop 1) 0) (T.st [(T.int (0:Int)),(T.sl [])]) (T.st [(rt r1 0),(T.sl [])])
theorem uZ (a0 a1:T) (h:Yields (fun k=>lL (hl env k ci) (cl env k) a0 a1) r):Yields (fun k=>cl env k ix [a0,a1]) r:=Yields.ca (lL · · a0 a1) h (by kernel_rfl)
noncomputable abbrev gn (H:HT) (C:aF) (x1 x2 x3 x4 x5:T):R:=
 (fun s0=>
 (fun s1=>
 bif (decide (x2.i > (0:Int))) then
 obind (C OW [x3,x1,(T.bool false)]) fun r1=>
 bif (decide ((s1.es).length + [(rt r1 0)].length≤LIM)) then
 gB H x1 (T.int (IntKind.wrap .i64 (x2.i - (1:Int)))) (rt (r1.drop 1) 0) x4 (T.st (x5.fs.set 1 (T.sl (s1.es ++ [(rt r1 0)]))))
 else
 none
 else
 obind (C aG [x3,(T.int (12:Int))]) fun r2=>
 bif ((rt r2 0).i==(0:Int)) then
 obind (C dH [(rt (r2.drop 1) 0),(T.sl [(T.int (-1:Int)),(T.int (16:Int)),(T.int (1:Int)),(T.int (5:Int))])]) fun r3=>
 (fun s2=>
 obind (C aG [(rt (r3.drop 1) 0),(T.int (15:Int))]) fun r4=>
 bif ((rt r4 0).i==(0:Int)) then
 obind (C cB [(rt (r4.drop 1) 0),s0]) fun r5=>
 (fun s3=>
 bif (decide (((s2.fld 1).es).length + [(rt r5 0)].length≤LIM)) then
 some [(T.st [(s3.fld 0),(s3.fld 1)]),(rt (r5.drop 1) 0)]
 else
 none) (T.st (s2.fs.set 1 (T.sl ((s2.fld 1).es ++ [(rt r5 0)]))))
 else
 some [(T.st [(s2.fld 0),(s2.fld 1)]),(rt (r4.drop 1) 0)]) (T.st (x5.fs.set 0 (rt r3 0)))
 else
 obind (C aG [(rt (r2.drop 1) 0),(T.int (15:Int))]) fun r6=>
 bif ((rt r6 0).i==(0:Int)) then
 obind (C cB [(rt (r6.drop 1) 0),s0]) fun r7=>
 (fun s4=>
 bif (decide ((s1.es).length + [(rt r7 0)].length≤LIM)) then
 some [(T.st [(s4.fld 0),(s4.fld 1)]),(rt (r7.drop 1) 0)]
 else
 none) (T.st (x5.fs.set 1 (T.sl (s1.es ++ [(rt r7 0)]))))
 else
 some [(T.st [(x5.fld 0),s1]),(rt (r6.drop 1) 0)]) (x5.fld 1)) (T.sl [(T.str k_x),(T.str (⟨#[]⟩:ByteArray)),(T.str vS),(T.str sZ),(T.str k_S)])
theorem ou (x1 x2 x3 x4 x5:T) (h:Yields (fun k=>gn (hl env k ci) (cl env k) x1 x2 x3 x4 x5) r):Yields (fun k=>jV (hl env k ci) x1 x2 x3 x4 x5) r:=Yields.hd (gn · · x1 x2 x3 x4 x5) h (by kernel_rfl)
noncomputable abbrev gp (H:HT) (C:aF) (x1 x2 x3 x4 x5:T):R:=gn H C x1 x2 x3 x4 x5
theorem Ix (x1 x2 x3 x4 x5:T) (h:Yields (fun k=>gp (hl env k ci) (cl env k) x1 x2 x3 x4 x5) r):Yields (fun k=>gB (hl env k ci) x1 x2 x3 x4 x5) r:=Yields.hd (gp · · x1 x2 x3 x4 x5) h (by kernel_rfl)
noncomputable def fw (H:HT) (x1 x2:T):R:=H (bS bw.body 0) ([(0,.val 38 x1),(4,.val 3 x2)],[])
noncomputable def gX (H:HT) (x1 x2 x3:T):R:=H (bS bw.body 1) ([(0,.val 38 x1),(4,.val 3 x2),(5,.val 3 x3)],[])
noncomputable abbrev mt (H:HT) (C:aF) (a0:T):R:=
 bif (decide ((a0.es.length:Int) > (3:Int))) then
 some [(T.int (3:Int)),(T.int (0:Int))]
 else
 fw H a0 (T.int (0:Int))
theorem wu (a0:T) (h:Yields (fun k=>mt (hl env k bw) (cl env k) a0) r):Yields (fun k=>cl env k qx [a0]) r:=Yields.ca (mt · · a0) h (by kernel_rfl)
noncomputable abbrev gN (H:HT) (C:aF) (x1 x2:T):R:=
 bif (decide (x2.i < (x1.es.length:Int))) then
 bif (decide (0≤x2.i)&&decide (x2.i.toNat < x1.es.length)) then
 bif (decide ((((x1.nth x2.i.toNat).es).length:Int) > (3:Int))) then
 some [x2,(T.int (3:Int))]
 else
 gX H x1 x2 (T.int (0:Int))
 else
 none
 else
 some [(T.int (-1:Int)),(T.int (-1:Int))]
theorem pc (x1 x2:T) (h:Yields (fun k=>gN (hl env k bw) (cl env k) x1 x2) r):Yields (fun k=>fw (hl env k bw) x1 x2) r:=Yields.hd (gN · · x1 x2) h (by kernel_rfl)
noncomputable abbrev gO (H:HT) (C:aF) (x1 x2 x3:T):R:=
 bif (decide (0≤x2.i)&&decide (x2.i.toNat < x1.es.length)) then
 bif (decide (x3.i < (((x1.nth x2.i.toNat).es).length:Int))) then
 obind (C mh [x1,x2,x3]) fun r1=>
 bif (!(rt r1 0).b) then
 some [x2,x3]
 else
 gX H x1 x2 (T.int (IntKind.wrap .i64 (x3.i+(1:Int))))
 else
 fw H x1 (T.int (IntKind.wrap .i64 (x2.i+(1:Int))))
 else
 none
theorem pf (x1 x2 x3:T) (h:Yields (fun k=>gO (hl env k bw) (cl env k) x1 x2 x3) r):Yields (fun k=>gX (hl env k bw) x1 x2 x3) r:=Yields.hd (gO · · x1 x2 x3) h (by kernel_rfl)
noncomputable abbrev qS (H:HT) (C:aF) (a0 a1 a2:T):R:=
 bif (decide (a0.i≥a1.i)) then
 some [(T.bool (decide (a0.i≤a2.i)))]
 else
 some [(T.bool false)]
theorem Ak (a0 a1 a2:T) (h:Yields (fun k=>qS (hl env k jO) (cl env k) a0 a1 a2) r):Yields (fun k=>cl env k dZ [a0,a1,a2]) r:=Yields.ca (qS · · a0 a1 a2) h (by kernel_rfl)
noncomputable def Ef (H:HT) (x1 x2 x3 x4 x5 x6 x7:T):R:=H (bS Eb.body 0) ([(0,.val 38 x1),(1,.val 3 x2),(2,.val 3 x3),(7,.pref 101 7 []),(36,.val 31 x4),(37,.val 3 x5),(38,.val 3 x6)],[(7,⟨101,x7,.fz,true⟩)])
noncomputable abbrev HX (H:HT) (C:aF) (a0 a1 a2:T):R:=
 (fun s0=>
 bif (decide (0≤a1.i)&&decide (a1.i.toNat < a0.es.length)) then
 bif (decide (0≤a2.i)&&decide (a2.i.toNat < ((a0.nth a1.i.toNat).es).length)) then
 bif (decide ((s0.fld 0).i < (0:Int))) then
 some [(T.bool false)]
 else
 bif (decide ((s0.fld 0).i > (15:Int))) then
 some [(T.bool false)]
 else
 bif (decide ((((s0.fld 1).es).length:Int) > (3:Int))) then
 some [(T.bool false)]
 else
 Ef H a0 a1 a2 (s0.fld 1) (T.int (((s0.fld 1).es).length:Int)) (T.int (0:Int)) s0
 else
 none
 else
 none) ((a0.nth a1.i.toNat).nth a2.i.toNat)
theorem LZ (a0 a1 a2:T) (h:Yields (fun k=>HX (hl env k Eb) (cl env k) a0 a1 a2) r):Yields (fun k=>cl env k GF [a0,a1,a2]) r:=Yields.ca (HX · · a0 a1 a2) h (by kernel_rfl)
noncomputable abbrev Hj (H:HT) (C:aF) (x1 x2 x3 x4 x5 x6 x7:T):R:=
 (fun s0=>
 (fun s1=>
 (fun s2=>
 (fun s3=>
 (fun s4=>
 (fun s5=>
 bif (decide (x6.i < x5.i)) then
 bif (decide (0≤x6.i)&&decide (x6.i.toNat < x4.es.length)) then
 obind (C Fu [s5]) fun r1=>
 bif (rt r1 2).b then
 bif (decide ((rt r1 0).i > x2.i)) then
 some [s4]
 else
 bif ((rt r1 0).i==x2.i) then
 bif (decide ((rt r1 1).i≥x3.i)) then
 some [s4]
 else
 obind (C ET [x1,s5]) fun r2=>
 bif (!(rt r2 0).b) then
 some [s4]
 else
 obind (C Ft [x1,s5]) fun r3=>
 bif ((IntKind.wrap .i64 ((BitVec.ofInt s3.bits s1 &&& ~~~ BitVec.ofInt s3.bits ((rt r3 0).i)).toNat:Nat)) != (0:Int)) then
 some [s4]
 else
 bif s0 then
 bif ((IntKind.wrap .i64 ((BitVec.ofInt s3.bits ((rt r3 0).i) &&& BitVec.ofInt s3.bits (4:Int)).toNat:Nat))==(0:Int)) then
 some [s4]
 else
 Ef H x1 x2 x3 x4 x5 s2 x7
 else
 Ef H x1 x2 x3 x4 x5 s2 x7
 else
 obind (C ET [x1,s5]) fun r4=>
 bif (!(rt r4 0).b) then
 some [s4]
 else
 obind (C Ft [x1,s5]) fun r5=>
 bif ((IntKind.wrap .i64 ((BitVec.ofInt s3.bits s1 &&& ~~~ BitVec.ofInt s3.bits ((rt r5 0).i)).toNat:Nat)) != (0:Int)) then
 some [s4]
 else
 bif s0 then
 bif ((IntKind.wrap .i64 ((BitVec.ofInt s3.bits ((rt r5 0).i) &&& BitVec.ofInt s3.bits (4:Int)).toNat:Nat))==(0:Int)) then
 some [s4]
 else
 Ef H x1 x2 x3 x4 x5 s2 x7
 else
 Ef H x1 x2 x3 x4 x5 s2 x7
 else
 obind (C ET [x1,s5]) fun r6=>
 bif (!(rt r6 0).b) then
 some [s4]
 else
 obind (C Ft [x1,s5]) fun r7=>
 bif ((IntKind.wrap .i64 ((BitVec.ofInt s3.bits s1 &&& ~~~ BitVec.ofInt s3.bits ((rt r7 0).i)).toNat:Nat)) != (0:Int)) then
 some [s4]
 else
 bif s0 then
 bif ((IntKind.wrap .i64 ((BitVec.ofInt s3.bits ((rt r7 0).i) &&& BitVec.ofInt s3.bits (4:Int)).toNat:Nat))==(0:Int)) then
 some [s4]
 else
 Ef H x1 x2 x3 x4 x5 s2 x7
 else
 Ef H x1 x2 x3 x4 x5 s2 x7
 else
 none
 else
 some [(T.bool true)]) (x4.nth x6.i.toNat)) (T.bool false)) (IntKind.i64)) (T.int (IntKind.wrap .i64 (x6.i+(1:Int))))) (IntKind.wrap .i64 ((BitVec.ofInt (IntKind.i64).bits ((x7.fld 0).i) &&& BitVec.ofInt (IntKind.i64).bits (7:Int)).toNat:Nat))) ((IntKind.wrap .i64 ((BitVec.ofInt (IntKind.i64).bits ((x7.fld 0).i) &&& BitVec.ofInt (IntKind.i64).bits (8:Int)).toNat:Nat)) != (0:Int))
theorem IU (x1 x2 x3 x4 x5 x6 x7:T) (h:Yields (fun k=>Hj (hl env k Eb) (cl env k) x1 x2 x3 x4 x5 x6 x7) r):Yields (fun k=>Ef (hl env k Eb) x1 x2 x3 x4 x5 x6 x7) r:=Yields.hd (Hj · · x1 x2 x3 x4 x5 x6 x7) h (by kernel_rfl)
noncomputable abbrev oS (H:HT) (C:aF) (a0 a1:T):R:=
 obind (C aG [a0,(T.int (a1.es.length:Int))]) fun r1=>
 bif (decide (0≤(rt r1 0).i)&&decide (((rt r1 0).i).toNat < a1.es.length)) then
 some [(a1.nth (((rt r1 0).i).toNat)),(rt (r1.drop 1) 0)]
 else
 none
theorem yz (a0 a1:T) (h:Yields (fun k=>oS (hl env k nK) (cl env k) a0 a1) r):Yields (fun k=>cl env k dH [a0,a1]) r:=Yields.ca (oS · · a0 a1) h (by kernel_rfl)
noncomputable def iV (H:HT) (x1 x2 x3:T):R:=H (bS eo.body 0) ([(0,.val 41 x1),(3,.sref 41 3 []),(4,.val 3 x2)],[(3,⟨41,x3,(.sl .dp),false⟩)])
noncomputable abbrev nm (H:HT) (C:aF) (a0:T):R:=
 iV H a0 (T.int (0:Int)) (T.sl [])
theorem xp (a0:T) (h:Yields (fun k=>nm (hl env k eo) (cl env k) a0) r):Yields (fun k=>cl env k ki [a0]) r:=Yields.ca (nm · · a0) h (by kernel_rfl)
noncomputable abbrev iF (H:HT) (C:aF) (x1 x2 x3:T):R:=
 bif (decide (x2.i < (x1.es.length:Int))) then
 bif (decide (0≤x2.i)&&decide (x2.i.toNat < x1.es.length)) then
 obind (C oE [(x1.nth x2.i.toNat)]) fun r1=>
 (fun s0=>
 bif (decide (x3.es.length + [s0].length≤LIM)) then
 iV H x1 (T.int (IntKind.wrap .i64 (x2.i+(1:Int)))) (T.sl (x3.es ++ [s0]))
 else
 none) (T.st [((rt r1 0).fld 0),((rt r1 0).fld 1)])
 else
 none
 else
 some [x3]
theorem ql (x1 x2 x3:T) (h:Yields (fun k=>iF (hl env k eo) (cl env k) x1 x2 x3) r):Yields (fun k=>iV (hl env k eo) x1 x2 x3) r:=Yields.hd (iF · · x1 x2 x3) h (by kernel_rfl)
noncomputable abbrev ny (H:HT) (C:aF) (a0:T):R:=
 obind (C p9 [a0]) fun r1=>
 some [(T.st [((rt r1 0).fld 0),((rt r1 0).fld 1),((rt r1 0).fld 2)])]
theorem xw (a0:T) (h:Yields (fun k=>ny (hl env k mO) (cl env k) a0) r):Yields (fun k=>cl env k eN [a0]) r:=Yields.ca (ny · · a0) h (by kernel_rfl)
noncomputable def eY (H:HT) (x1 x2 x3 x4 x5 x6:T):R:=H (bS bi.body 0) ([(0,.pref 94 100000 []),(1,.val 23 x1),(4,.pref 30 4 []),(5,.pref 30 5 []),(6,.sref 38 6 []),(7,.val 3 x2)],[(100000,⟨94,x3,(.st [.fo,.dp]),true⟩),(4,⟨30,x4,.dp,true⟩),(5,⟨30,x5,(.st [.dp,.dp,.dp]),true⟩),(6,⟨38,x6,(.sl .fz),false⟩)])
noncomputable def jW (H:HT) (x1 x2 x3 x4 x5 x6 x7:T):R:=H (bS bi.body 1) ([(0,.pref 94 100000 []),(1,.val 23 x1),(4,.pref 30 4 []),(5,.pref 30 5 []),(6,.row 38 51 x2 (.sref 26 5 [.fld 0])),(10,.val 3 x3)],[(100000,⟨94,x4,(.st [.fo,.dp]),true⟩),(4,⟨30,x5,.dp,true⟩),(5,⟨30,x6,(.st [.dp,.dp,.dp]),true⟩),(51,⟨38,x7,.dead,false⟩)])
noncomputable def gC (H:HT) (x1 x2 x3 x4 x5 x6 x7:T):R:=H (bS bi.body 1) ([(0,.pref 94 100000 []),(1,.val 23 x1),(4,.pref 30 4 []),(5,.pref 30 5 []),(6,.row 38 51 x2 (.sref 26 5 [.fld 0])),(10,.val 3 x3)],[(100000,⟨94,x4,(.st [.fo,.dp]),true⟩),(4,⟨30,x5,.dp,true⟩),(5,⟨30,x6,(.st [.dp,(.sl .dp),.dp]),true⟩),(51,⟨38,x7,.dead,false⟩)])
noncomputable def t8 (H:HT) (x1 x2 x3 x4 x5 x6 x7:T):R:=H (bS bi.body 2) ([(0,.pref 94 100000 []),(1,.val 23 x1),(4,.pref 30 4 []),(5,.pref 30 5 []),(11,.row 23 75 x2 (.agg 30 [.sref 26 5 [.fld 0],.sref 27 5 [.fld 1],.sref 28 5 [.fld 2]])),(12,.val 3 x3)],[(100000,⟨94,x4,(.st [.fo,.dp]),true⟩),(4,⟨30,x5,.dp,true⟩),(5,⟨30,x6,(.st [.dp,.dp,.dp]),true⟩),(75,⟨23,x7,.dead,false⟩)])
noncomputable def gD (H:HT) (x1 x2 x3 x4 x5 x6 x7:T):R:=H (bS bi.body 2) ([(0,.pref 94 100000 []),(1,.val 23 x1),(4,.pref 30 4 []),(5,.pref 30 5 []),(11,.row 23 75 x2 (.agg 30 [.sref 26 5 [.fld 0],.sref 27 5 [.fld 1],.sref 28 5 [.fld 2]])),(12,.val 3 x3)],[(100000,⟨94,x4,(.st [.fo,.dp]),true⟩),(4,⟨30,x5,.dp,true⟩),(5,⟨30,x6,(.st [.dp,(.sl .dp),.dp]),true⟩),(75,⟨23,x7,.dead,false⟩)])
noncomputable abbrev lN (H:HT) (C:aF) (a0 a1:T):R:=
 (fun s0=>
 obind (C d9 [a1]) fun r1=>
 obind (C aG [a0,(T.int (4:Int))]) fun r2=>
 eY H a1 (rt r2 0) (rt (r2.drop 1) 0) s0 s0 (rt r1 0)) (T.st [(T.sl []),(T.sl []),(T.sl [])])
theorem v6 (a0 a1:T) (h:Yields (fun k=>lN (hl env k bi) (cl env k) a0 a1) r):Yields (fun k=>cl env k lw [a0,a1]) r:=Yields.ca (lN · · a0 a1) h (by kernel_rfl)
noncomputable abbrev gt (H:HT) (C:aF) (x1 x2 x3 x4 x5 x6:T):R:=
 (fun s0=>
 (fun s1=>
 (fun s2=>
 bif (decide (x2.i > (0:Int))) then
 bif s1 then
 bif (decide (s0.length+1≤LIM)) then
 obind (C ix [x3,(T.sl (s0 ++ [(x5.fld 0)]))]) fun r1=>
 (fun s3=>
 bif (decide (((x5.fld 0).es).length≤LIM)) then
 bif (decide (((x5.fld 0).es).length + [s3].length≤LIM)) then
 bif s1 then
 bif (decide (s0.length+1≤LIM)) then
 obind (C na [(T.sl (s0 ++ [(T.sl ((x5.fld 0).es ++ [s3]))]))]) fun r2=>
 bif (rt r2 0).b then
 eY H x1 s2 (rt (r1.drop 1) 0) x4 (T.st (x5.fs.set 0 (T.sl ((x5.fld 0).es ++ [s3])))) x6
 else
 eY H x1 s2 (rt (r1.drop 1) 0) x4 x5 x6
 else
 none
 else
 none
 else
 none
 else
 none) (T.st [((rt r1 0).fld 0),((rt r1 0).fld 1)])
 else
 none
 else
 none
 else
 bif (decide (x6.es.length+1≤LIM)) then
 obind (C aG [x3,(T.int (3:Int))]) fun r3=>
 jW H x1 x6 (T.int (IntKind.wrap .i64 ((1:Int)+(rt r3 0).i))) (rt (r3.drop 1) 0) x4 x5 x6
 else
 none) (T.int (IntKind.wrap .i64 (x2.i - (1:Int))))) (decide (([]:List T).length+x6.es.length≤LIM))) (([]:List T)++x6.es)
theorem oA (x1 x2 x3 x4 x5 x6:T) (h:Yields (fun k=>gt (hl env k bi) (cl env k) x1 x2 x3 x4 x5 x6) r):Yields (fun k=>eY (hl env k bi) x1 x2 x3 x4 x5 x6) r:=Yields.hd (gt · · x1 x2 x3 x4 x5 x6) h (by kernel_rfl)
noncomputable abbrev jK (H:HT) (C:aF) (x1 x2 x3 x4 x5 x6 x7:T):R:=
 (fun s0=>
 bif (decide (x3.i > (0:Int))) then
 obind (C iy [x4,(T.sl (x2.es ++ [(x6.fld 0)])),(T.int (((x6.fld 0).es).length:Int))]) fun r1=>
 (fun s1=>
 bif (decide (((x6.fld 1).es).length + [s1].length≤LIM)) then
 gC H x1 x2 (T.int (IntKind.wrap .i64 (x3.i - (1:Int)))) (rt (r1.drop 1) 0) x5 (T.st (x6.fs.set 1 (T.sl ((x6.fld 1).es ++ [s1])))) x7
 else
 none) (T.st [((rt r1 0).fld 0),((rt r1 0).fld 1),((rt r1 0).fld 2),((rt r1 0).fld 3),((rt r1 0).fld 4),((rt r1 0).fld 5)])
 else
 bif (decide (([]:List T).length+x1.es.length≤LIM)) then
 bif (decide (s0.length+1≤LIM)) then
 t8 H x1 (T.sl s0) (T.int (0:Int)) x4 x5 x6 (T.sl s0)
 else
 none
 else
 none) (([]:List T)++x1.es)
theorem tr (x1 x2 x3 x4 x5 x6 x7:T) (h:Yields (fun k=>jK (hl env k bi) (cl env k) x1 x2 x3 x4 x5 x6 x7) r):Yields (fun k=>jW (hl env k bi) x1 x2 x3 x4 x5 x6 x7) r:=Yields.hd (jK · · x1 x2 x3 x4 x5 x6 x7) h (by kernel_rfl)
noncomputable abbrev gu (H:HT) (C:aF) (x1 x2 x3 x4 x5 x6 x7:T):R:=
 (fun s0=>
 bif (decide (x3.i > (0:Int))) then
 obind (C iy [x4,(T.sl (x2.es ++ [(x6.fld 0)])),(T.int (((x6.fld 0).es).length:Int))]) fun r1=>
 (fun s1=>
 bif (decide (((x6.fld 1).es).length + [s1].length≤LIM)) then
 gC H x1 x2 (T.int (IntKind.wrap .i64 (x3.i - (1:Int)))) (rt (r1.drop 1) 0) x5 (T.st (x6.fs.set 1 (T.sl ((x6.fld 1).es ++ [s1])))) x7
 else
 none) (T.st [((rt r1 0).fld 0),((rt r1 0).fld 1),((rt r1 0).fld 2),((rt r1 0).fld 3),((rt r1 0).fld 4),((rt r1 0).fld 5)])
 else
 bif (decide (([]:List T).length+x1.es.length≤LIM)) then
 bif (decide (s0.length+1≤LIM)) then
 gD H x1 (T.sl s0) (T.int (0:Int)) x4 x5 x6 (T.sl s0)
 else
 none
 else
 none) (([]:List T)++x1.es)
theorem oB (x1 x2 x3 x4 x5 x6 x7:T) (h:Yields (fun k=>gu (hl env k bi) (cl env k) x1 x2 x3 x4 x5 x6 x7) r):Yields (fun k=>gC (hl env k bi) x1 x2 x3 x4 x5 x6 x7) r:=Yields.hd (gu · · x1 x2 x3 x4 x5 x6 x7) h (by kernel_rfl)
noncomputable abbrev gv (H:HT) (C:aF) (x1 x2 x3 x4 x5 x6 x7:T):R:=
 (fun s0=>
 (fun s1=>
 (fun s2=>
 bif (decide (x3.i < (((x6.fld 1).es).length:Int))) then
 bif s1 then
 obind (C ng [x4,(T.sl (x2.es ++ [s2])),(T.int (x1.es.length:Int)),(T.st [(s0.fld 0),(s0.fld 1),(s0.fld 2),(s0.fld 3),(s0.fld 4),(s0.fld 5)])]) fun r1=>
 bif s1 then
 gD H x1 x2 (T.int (IntKind.wrap .i64 (x3.i+(1:Int)))) (rt (r1.drop 1) 0) x5 (T.put x6 [.fld 1,.idx x3.i.toNat,.fld 5] (rt r1 0)) x7
 else
 none
 else
 none
 else
 some [s2,x4]) (T.st [(x6.fld 0),(x6.fld 1),(x6.fld 2)])) (decide (0≤x3.i)&&decide (x3.i.toNat < ((x6.fld 1).es).length))) ((x6.fld 1).nth x3.i.toNat)
theorem oC (x1 x2 x3 x4 x5 x6 x7:T) (h:Yields (fun k=>gv (hl env k bi) (cl env k) x1 x2 x3 x4 x5 x6 x7) r):Yields (fun k=>gD (hl env k bi) x1 x2 x3 x4 x5 x6 x7) r:=Yields.hd (gv · · x1 x2 x3 x4 x5 x6 x7) h (by kernel_rfl)
noncomputable abbrev sD (H:HT) (C:aF) (a0 a1:T):R:=
 bif (!(a1.i==0)) then
 bif (!((2:Int)==0)) then
 some [(T.bool ((((IntKind.wrap .i64 ((a0.i).tdiv a1.i)):Int).tmod (2:Int))==(1:Int)))]
 else
 none
 else
 none
theorem zZ (a0 a1:T) (h:Yields (fun k=>sD (hl env k l7) (cl env k) a0 a1) r):Yields (fun k=>cl env k bH [a0,a1]) r:=Yields.ca (sD · · a0 a1) h (by kernel_rfl)
noncomputable abbrev kX (H:HT) (C:aF) (a0 a1:T):R:=
 obind (C bO [a1]) fun r1=>
 bif (rt r1 0).b then
 bif (decide (0≤(0:Int))&&decide (0 < a1.s.size)) then
 bif ((a1.s.data.getD 0 0).toNat==(38:Int)) then
 some [(T.int (3:Int))]
 else
 obind (C bO [a1]) fun r2=>
 bif (rt r2 0).b then
 some [(T.int (2:Int))]
 else
 obind (C cU [a1]) fun r3=>
 bif (rt r3 2).b then
 bif (decide (0≤(rt r3 0).i)&&decide (((rt r3 0).i).toNat < a0.es.length)) then
 bif (decide (0≤(rt r3 1).i)&&decide (((rt r3 1).i).toNat < ((a0.nth (((rt r3 0).i).toNat)).es).length)) then
 some [(((a0.nth (((rt r3 0).i).toNat)).nth (((rt r3 1).i).toNat)).fld 0)]
 else
 none
 else
 none
 else
 some [(T.int (7:Int))]
 else
 none
 else
 obind (C bO [a1]) fun r2=>
 bif (rt r2 0).b then
 some [(T.int (2:Int))]
 else
 obind (C cU [a1]) fun r3=>
 bif (rt r3 2).b then
 bif (decide (0≤(rt r3 0).i)&&decide (((rt r3 0).i).toNat < a0.es.length)) then
 bif (decide (0≤(rt r3 1).i)&&decide (((rt r3 1).i).toNat < ((a0.nth (((rt r3 0).i).toNat)).es).length)) then
 some [(((a0.nth (((rt r3 0).i).toNat)).nth (((rt r3 1).i).toNat)).fld 0)]
 else
 none
 else
 none
 else
 some [(T.int (7:Int))]
theorem yc (H:HT) (C:aF) (a0 a1:T):bI ic env H C [a0,a1] =
 obind (C bO [a1]) fun r1=>
 (fun s0=>
 bif (((s0&&true)&&(decide (0≤(0:Int))&&decide (0 < a1.s.size)))||(!s0)) then
 bif (((s0&&true)&&true)||(!s0)) then
 bif (bif (rt r1 0).b then s0 else true) then
 bif (bif (rt r1 0).b then (T.bool ((a1.s.data.getD 0 0).toNat==(38:Int))) else (T.bool false)).b then
 some [(T.int (3:Int))]
 else
 obind (C bO [a1]) fun r2=>
 bif (rt r2 0).b then
 some [(T.int (2:Int))]
 else
 obind (C cU [a1]) fun r3=>
 bif (rt r3 2).b then
 bif (decide (0≤(rt r3 0).i)&&decide (((rt r3 0).i).toNat < a0.es.length)) then
 bif (decide (0≤(rt r3 1).i)&&decide (((rt r3 1).i).toNat < ((a0.nth (((rt r3 0).i).toNat)).es).length)) then
 some [(((a0.nth (((rt r3 0).i).toNat)).nth (((rt r3 1).i).toNat)).fld 0)]
 else
 none
 else
 none
 else
 some [(T.int (7:Int))]
 else
 none
 else
 none
 else
 none) ((rt r1 0).b==true):=by kernel_rfl
theorem yk (H:HT) (C:aF) (a0 a1:T):bI ic env H C [a0,a1]=kX H C a0 a1:=by
 refine (yc H C a0 a1).trans ?_
 unfold kX
 all_goals try dsimp only
 all_goals try simp only[bs]
 all_goals refine br fun r1=>?_
 all_goals try simp only[bs]
 all_goals cases hc:((rt r1 0).b) with
 | true=>
  try simp only[bs]
  all_goals cases hc:((decide (0≤(0:Int))&&decide (0 < a1.s.size))) with
  | true=>
   try simp only[bs]
   all_goals cases hc:(((a1.s.data.getD 0 0).toNat==(38:Int))) with
   | true=>
    try simp only[bs]
    all_goals kernel_rfl
   | false=>
    try simp only[bs]
    all_goals refine br fun r2=>?_
    all_goals try simp only[bs]
    all_goals cases hc:((rt r2 0).b) with
    | true=>
     try simp only[bs]
     all_goals kernel_rfl
    | false=>
     try simp only[bs]
     all_goals refine br fun r3=>?_
     all_goals try simp only[bs]
     all_goals cases hc:((rt r3 2).b) with
     | true=>
      try simp only[bs]
      all_goals cases hc:((decide (0≤(rt r3 0).i)&&decide (((rt r3 0).i).toNat < a0.es.length))) with
      | true=>
       try simp only[bs]
       all_goals cases hc:((decide (0≤(rt r3 1).i)&&decide (((rt r3 1).i).toNat < ((a0.nth (((rt r3 0).i).toNat)).es).length))) with
       | true=>
        try simp only[bs]
        all_goals kernel_rfl
       | false=>
        try simp only[bs]
        all_goals kernel_rfl
      | false=>
       try simp only[bs]
       all_goals kernel_rfl
     | false=>
      try simp only[bs]
      all_goals kernel_rfl
  | false=>
   try simp only[bs]
   all_goals kernel_rfl
 | false=>
  try simp only[bs]
  all_goals refine br fun r2=>?_
  all_goals try simp only[bs]
  all_goals cases hc:((rt r2 0).b) with
  | true=>
   try simp only[bs]
   all_goals kernel_rfl
  | false=>
   try simp only[bs]
   all_goals refine br fun r3=>?_
   all_goals try simp only[bs]
   all_goals cases hc:((rt r3 2).b) with
   | true=>
    try simp only[bs]
    all_goals cases hc:((decide (0≤(rt r3 0).i)&&decide (((rt r3 0).i).toNat < a0.es.length))) with
    | true=>
     try simp only[bs]
     all_goals cases hc:((decide (0≤(rt r3 1).i)&&decide (((rt r3 1).i).toNat < ((a0.nth (((rt r3 0).i).toNat)).es).length))) with
     | true=>
      try simp only[bs]
      all_goals kernel_rfl
     | false=>
      try simp only[bs]
      all_goals kernel_rfl
    | false=>
     try simp only[bs]
     all_goals kernel_rfl
   | false=>
    try simp only[bs]
    all_goals kernel_rfl
theorem se (a0 a1:T) (h:Yields (fun k=>kX (hl env k ic) (cl env k) a0 a1) r):Yields (fun k=>cl env k eD [a0,a1]) r:=Yields.call (fi:=ic) rfl rfl (fun H C=>yk H C a0 a1) h
noncomputable def JN (H:HT) (x1 x2 x3 x4 x5 x6:T):R:=H (bS E6.body 0) ([(0,.sref 49 100000 []),(1,.val 3 x1),(5,.pref 82 5 []),(7,.sref 49 7 []),(8,.val 4 x2),(9,.val 3 x3)],[(100000,⟨49,x4,(.sl .fz),false⟩),(5,⟨82,x5,.fz,true⟩),(7,⟨49,x6,(.sl .dp),false⟩)])
noncomputable def E9 (H:HT) (x1 x2 x3 x4 x5 x6:T):R:=H (bS E6.body 0) ([(0,.sref 49 100000 []),(1,.val 3 x1),(5,.pref 82 5 []),(7,.sref 49 7 []),(8,.val 4 x2),(9,.val 3 x3)],[(100000,⟨49,x4,(.sl .fz),false⟩),(5,⟨82,x5,.fz,true⟩),(7,⟨49,x6,(.sl .fz),false⟩)])
noncomputable abbrev Kf (H:HT) (C:aF) (a0 a1 a2:T):R:=
 JN H a1 (T.bool false) (T.int (0:Int)) a0 a2 (T.sl [])
theorem Nf (H:HT) (C:aF) (a0 a1 a2:T):bI E6 env H C [a0,a1,a2]=Kf H C a0 a1 a2:=by kernel_rfl
theorem KE (a0 a1 a2:T) (h:Yields (fun k=>Kf (hl env k E6) (cl env k) a0 a1 a2) r):Yields (fun k=>cl env k Gg [a0,a1,a2]) r:=Yields.call (fi:=E6) rfl rfl (fun H C=>Nf H C a0 a1 a2) h
noncomputable abbrev Ij (H:HT) (C:aF) (x1 x2 x3 x4 x5 x6:T):R:=
 (fun s0=>
 (fun s1=>
 (fun s2=>
 (fun s3=>
 (fun s4=>
 bif (decide (x3.i < (x4.es.length:Int))) then
 bif (!x2.b) then
 bif s3 then
 bif (decide ((s0.fld 0).i > x1.i)) then
 obind (C E7 [x5]) fun r1=>
 (fun s5=>
 bif (decide (x6.es.length + [s5].length≤LIM)) then
 bif (decide ((x6.es ++ [s5]).length + [s0].length≤LIM)) then
 E9 H x1 (T.bool true) s1 x4 x5 (T.sl ((x6.es ++ [s5]) ++ [s0]))
 else
 none
 else
 none) (T.st [x1,(T.st [((rt r1 0).fld 0),((rt r1 0).fld 1),((rt r1 0).fld 2),((rt r1 0).fld 3)])])
 else
 bif ((s0.fld 0).i==x1.i) then
 bif (!(Op.bytesLess (((s0.fld 1).fld 0).s).toList ((x5.fld 0).s).toList||(((s0.fld 1).fld 0).s).toList==((x5.fld 0).s).toList)) then
 obind (C E7 [x5]) fun r1=>
 (fun s6=>
 bif (decide (x6.es.length + [s6].length≤LIM)) then
 bif (decide ((x6.es ++ [s6]).length + [s0].length≤LIM)) then
 E9 H x1 (T.bool true) s1 x4 x5 (T.sl ((x6.es ++ [s6]) ++ [s0]))
 else
 none
 else
 none) (T.st [x1,(T.st [((rt r1 0).fld 0),((rt r1 0).fld 1),((rt r1 0).fld 2),((rt r1 0).fld 3)])])
 else
 bif s2 then
 E9 H x1 x2 s1 x4 x5 s4
 else
 none
 else
 bif s2 then
 E9 H x1 x2 s1 x4 x5 s4
 else
 none
 else
 none
 else
 bif s3 then
 bif s2 then
 E9 H x1 x2 s1 x4 x5 s4
 else
 none
 else
 none
 else
 bif (!x2.b) then
 obind (C E7 [x5]) fun r1=>
 (fun s7=>
 bif (decide (x6.es.length + [s7].length≤LIM)) then
 some [(T.sl (x6.es ++ [s7]))]
 else
 none) (T.st [x1,(T.st [((rt r1 0).fld 0),((rt r1 0).fld 1),((rt r1 0).fld 2),((rt r1 0).fld 3)])])
 else
 some [x6]) (T.sl (x6.es ++ [s0]))) (decide (0≤x3.i)&&decide (x3.i.toNat < x4.es.length))) (decide (x6.es.length + [s0].length≤LIM))) (T.int (IntKind.wrap .i64 (x3.i+(1:Int))))) (x4.nth x3.i.toNat)
theorem M6 (H:HT) (C:aF) (x1 x2 x3 x4 x5 x6:T):iU E6 env H C (bS E6.body 0) ([(0,.sref 49 100000 []),(1,.val 3 x1),(5,.pref 82 5 []),(7,.sref 49 7 []),(8,.val 4 x2),(9,.val 3 x3)],[(100000,⟨49,x4,(.sl .fz),false⟩),(5,⟨82,x5,.fz,true⟩),(7,⟨49,x6,(.sl .dp),false⟩)]) =
 (fun s0=>
 (fun s1=>
 (fun s2=>
 (fun s3=>
 (fun s4=>
 (fun s5=>
 bif (decide (x3.i < (x4.es.length:Int))) then
 bif (((s3&&(s3&&true))&&s2)||(!s3)) then
 bif (s3||(!s3)) then
 bif (s3||(!s3)) then
 bif (((s3&&s3)&&true)||(!s3)) then
 bif (s3||(!s3)) then
 bif (((s0&&(s0&&true))&&s2)||(!s0)) then
 bif (s0||(!s0)) then
 bif (s0||(!s0)) then
 bif (((s0&&s0)&&true)||(!s0)) then
 bif (s0||(!s0)) then
 bif (((s1&&(s1&&true))&&s2)||(!s1)) then
 bif (s1||(!s1)) then
 bif (s1||(!s1)) then
 bif (s1||(!s1)) then
 bif (s1||(!s1)) then
 bif (((s1&&s1)&&true)||(!s1)) then
 bif ((s0&&(bif ((s4.fld 0).i==x1.i) then s1 else true))||(!s0)) then
 bif ((s3&&(bif (decide ((s4.fld 0).i > x1.i)) then true else s0))||(!s3)) then
 bif (bif (!x2.b) then s3 else true) then
 bif (bif (!x2.b) then (bif (decide ((s4.fld 0).i > x1.i)) then (T.bool true) else (bif ((s4.fld 0).i==x1.i) then (T.bool (!(Op.bytesLess (((s4.fld 1).fld 0).s).toList ((x5.fld 0).s).toList||(((s4.fld 1).fld 0).s).toList==((x5.fld 0).s).toList))) else (T.bool false))) else (T.bool false)).b then
 obind (C E7 [x5]) fun r1=>
 (fun s6=>
 bif (decide (x6.es.length + [s6].length≤LIM)) then
 bif s2 then
 bif (decide ((x6.es ++ [s6]).length + [s4].length≤LIM)) then
 E9 H x1 (T.bool true) s5 x4 x5 (T.sl ((x6.es ++ [s6]) ++ [s4]))
 else
 none
 else
 none
 else
 none) (T.st [x1,(T.st [((rt r1 0).fld 0),((rt r1 0).fld 1),((rt r1 0).fld 2),((rt r1 0).fld 3)])])
 else
 bif s2 then
 bif (decide (x6.es.length + [s4].length≤LIM)) then
 E9 H x1 x2 s5 x4 x5 (T.sl (x6.es ++ [s4]))
 else
 none
 else
 none
 else
 none
 else
 none
 else
 none
 else
 none
 else
 none
 else
 none
 else
 none
 else
 none
 else
 none
 else
 none
 else
 none
 else
 none
 else
 none
 else
 none
 else
 none
 else
 none
 else
 none
 else
 none
 else
 none
 else
 bif (!x2.b) then
 obind (C E7 [x5]) fun r2=>
 (fun s7=>
 bif (decide (x6.es.length + [s7].length≤LIM)) then
 some [(T.sl (x6.es ++ [s7]))]
 else
 none) (T.st [x1,(T.st [((rt r2 0).fld 0),((rt r2 0).fld 1),((rt r2 0).fld 2),((rt r2 0).fld 3)])])
 else
 some [x6]) (T.int (IntKind.wrap .i64 (x3.i+(1:Int))))) (x4.nth x3.i.toNat)) ((!x2.b)==true)) (decide (0≤x3.i)&&decide (x3.i.toNat < x4.es.length))) (s0&&((((x4.nth x3.i.toNat).fld 0).i==x1.i)==true))) (((!x2.b)==true)&&((decide (((x4.nth x3.i.toNat).fld 0).i > x1.i))==false)):=by kernel_rfl
theorem Mj (H:HT) (C:aF) (x1 x2 x3 x4 x5 x6:T):iU E6 env H C (bS E6.body 0) ([(0,.sref 49 100000 []),(1,.val 3 x1),(5,.pref 82 5 []),(7,.sref 49 7 []),(8,.val 4 x2),(9,.val 3 x3)],[(100000,⟨49,x4,(.sl .fz),false⟩),(5,⟨82,x5,.fz,true⟩),(7,⟨49,x6,(.sl .dp),false⟩)])=Ij H C x1 x2 x3 x4 x5 x6:=by
 refine (M6 H C x1 x2 x3 x4 x5 x6).trans ?_
 unfold Ij
 all_goals try dsimp only
 all_goals try simp only[bs]
 all_goals cases hc:((decide (x3.i < (x4.es.length:Int)))) with
 | true=>
  try simp only[bs]
  all_goals cases hc:((!x2.b)) with
  | true=>
   try simp only[bs]
   all_goals cases hc:((decide (0≤x3.i)&&decide (x3.i.toNat < x4.es.length))) with
   | true=>
    try simp only[bs]
    all_goals cases hc:((decide (((x4.nth x3.i.toNat).fld 0).i > x1.i))) with
    | true=>
     try simp only[bs]
     all_goals cases hc:((((x4.nth x3.i.toNat).fld 0).i==x1.i)) with
     | true=>
      try simp only[bs]
      all_goals refine br fun r1=>?_
      all_goals try simp only[bs]
      all_goals cases hc:((decide (x6.es.length + [(T.st [x1,(T.st [((rt r1 0).fld 0),((rt r1 0).fld 1),((rt r1 0).fld 2),((rt r1 0).fld 3)])])].length≤LIM))) with
      | true=>
       try simp only[bs]
       all_goals cases hc:((decide ((x6.es ++ [(T.st [x1,(T.st [((rt r1 0).fld 0),((rt r1 0).fld 1),((rt r1 0).fld 2),((rt r1 0).fld 3)])])]).length + [(x4.nth x3.i.toNat)].length≤LIM))) with
       | true=>
        try simp only[bs]
        all_goals kernel_rfl
       | false=>
        try simp only[bs]
        all_goals kernel_rfl
      | false=>
       try simp only[bs]
       all_goals kernel_rfl
     | false=>
      try simp only[bs]
      all_goals refine br fun r1=>?_
      all_goals try simp only[bs]
      all_goals cases hc:((decide (x6.es.length + [(T.st [x1,(T.st [((rt r1 0).fld 0),((rt r1 0).fld 1),((rt r1 0).fld 2),((rt r1 0).fld 3)])])].length≤LIM))) with
      | true=>
       try simp only[bs]
       all_goals cases hc:((decide ((x6.es ++ [(T.st [x1,(T.st [((rt r1 0).fld 0),((rt r1 0).fld 1),((rt r1 0).fld 2),((rt r1 0).fld 3)])])]).length + [(x4.nth x3.i.toNat)].length≤LIM))) with
       | true=>
        try simp only[bs]
        all_goals kernel_rfl
       | false=>
        try simp only[bs]
        all_goals kernel_rfl
      | false=>
       try simp only[bs]
       all_goals kernel_rfl
    | false=>
     try simp only[bs]
     all_goals cases hc:((((x4.nth x3.i.toNat).fld 0).i==x1.i)) with
     | true=>
      try simp only[bs]
      all_goals cases hc:((!(Op.bytesLess ((((x4.nth x3.i.toNat).fld 1).fld 0).s).toList ((x5.fld 0).s).toList||((((x4.nth x3.i.toNat).fld 1).fld 0).s).toList==((x5.fld 0).s).toList))) with
      | true=>
       try simp only[bs]
       all_goals refine br fun r1=>?_
       all_goals try simp only[bs]
       all_goals cases hc:((decide (x6.es.length + [(T.st [x1,(T.st [((rt r1 0).fld 0),((rt r1 0).fld 1),((rt r1 0).fld 2),((rt r1 0).fld 3)])])].length≤LIM))) with
       | true=>
        try simp only[bs]
        all_goals cases hc:((decide ((x6.es ++ [(T.st [x1,(T.st [((rt r1 0).fld 0),((rt r1 0).fld 1),((rt r1 0).fld 2),((rt r1 0).fld 3)])])]).length + [(x4.nth x3.i.toNat)].length≤LIM))) with
        | true=>
         try simp only[bs]
         all_goals kernel_rfl
        | false=>
         try simp only[bs]
         all_goals kernel_rfl
       | false=>
        try simp only[bs]
        all_goals kernel_rfl
      | false=>
       try simp only[bs]
       all_goals cases hc:((decide (x6.es.length + [(x4.nth x3.i.toNat)].length≤LIM))) with
       | true=>
        try simp only[bs]
        all_goals kernel_rfl
       | false=>
        try simp only[bs]
        all_goals kernel_rfl
     | false=>
      try simp only[bs]
      all_goals cases hc:((decide (x6.es.length + [(x4.nth x3.i.toNat)].length≤LIM))) with
      | true=>
       try simp only[bs]
       all_goals kernel_rfl
      | false=>
       try simp only[bs]
       all_goals kernel_rfl
   | false=>
    try simp only[bs]
    all_goals kernel_rfl
  | false=>
   try simp only[bs]
   all_goals cases hc:((decide (((x4.nth x3.i.toNat).fld 0).i > x1.i))) with
   | true=>
    try simp only[bs]
    all_goals cases hc:((((x4.nth x3.i.toNat).fld 0).i==x1.i)) with
    | true=>
     try simp only[bs]
     all_goals cases hc:((decide (0≤x3.i)&&decide (x3.i.toNat < x4.es.length))) with
     | true=>
      try simp only[bs]
      all_goals cases hc:((decide (x6.es.length + [(x4.nth x3.i.toNat)].length≤LIM))) with
      | true=>
       try simp only[bs]
       all_goals kernel_rfl
      | false=>
       try simp only[bs]
       all_goals kernel_rfl
     | false=>
      try simp only[bs]
      all_goals kernel_rfl
    | false=>
     try simp only[bs]
     all_goals cases hc:((decide (0≤x3.i)&&decide (x3.i.toNat < x4.es.length))) with
     | true=>
      try simp only[bs]
      all_goals cases hc:((decide (x6.es.length + [(x4.nth x3.i.toNat)].length≤LIM))) with
      | true=>
       try simp only[bs]
       all_goals kernel_rfl
      | false=>
       try simp only[bs]
       all_goals kernel_rfl
     | false=>
      try simp only[bs]
      all_goals kernel_rfl
   | false=>
    try simp only[bs]
    all_goals cases hc:((((x4.nth x3.i.toNat).fld 0).i==x1.i)) with
    | true=>
     try simp only[bs]
     all_goals cases hc:((decide (0≤x3.i)&&decide (x3.i.toNat < x4.es.length))) with
     | true=>
      try simp only[bs]
      all_goals cases hc:((decide (x6.es.length + [(x4.nth x3.i.toNat)].length≤LIM))) with
      | true=>
       try simp only[bs]
       all_goals kernel_rfl
      | false=>
       try simp only[bs]
       all_goals kernel_rfl
     | false=>
      try simp only[bs]
      all_goals kernel_rfl
    | false=>
     try simp only[bs]
     all_goals cases hc:((decide (0≤x3.i)&&decide (x3.i.toNat < x4.es.length))) with
     | true=>
      try simp only[bs]
      all_goals cases hc:((decide (x6.es.length + [(x4.nth x3.i.toNat)].length≤LIM))) with
      | true=>
       try simp only[bs]
       all_goals kernel_rfl
      | false=>
       try simp only[bs]
       all_goals kernel_rfl
     | false=>
      try simp only[bs]
      all_goals kernel_rfl
 | false=>
  try simp only[bs]
  all_goals cases hc:((!x2.b)) with
  | true=>
   try simp only[bs]
   all_goals refine br fun r1=>?_
   all_goals try simp only[bs]
   all_goals cases hc:((decide (x6.es.length + [(T.st [x1,(T.st [((rt r1 0).fld 0),((rt r1 0).fld 1),((rt r1 0).fld 2),((rt r1 0).fld 3)])])].length≤LIM))) with
   | true=>
    try simp only[bs]
    all_goals kernel_rfl
   | false=>
    try simp only[bs]
    all_goals kernel_rfl
  | false=>
   try simp only[bs]
   all_goals kernel_rfl
theorem JU (x1 x2 x3 x4 x5 x6:T) (h:Yields (fun k=>Ij (hl env k E6) (cl env k) x1 x2 x3 x4 x5 x6) r):Yields (fun k=>JN (hl env k E6) x1 x2 x3 x4 x5 x6) r:=Yields.head (fun H C=>Mj H C x1 x2 x3 x4 x5 x6) h
noncomputable abbrev Ez (H:HT) (C:aF) (x1 x2 x3 x4 x5 x6:T):R:=Ij H C x1 x2 x3 x4 x5 x6
theorem Mk (H:HT) (C:aF) (x1 x2 x3 x4 x5 x6:T):iU E6 env H C (bS E6.body 0) ([(0,.sref 49 100000 []),(1,.val 3 x1),(5,.pref 82 5 []),(7,.sref 49 7 []),(8,.val 4 x2),(9,.val 3 x3)],[(100000,⟨49,x4,(.sl .fz),false⟩),(5,⟨82,x5,.fz,true⟩),(7,⟨49,x6,(.sl .fz),false⟩)])=Ez H C x1 x2 x3 x4 x5 x6:=(show iU E6 env H C (bS E6.body 0) ([(0,.sref 49 100000 []),(1,.val 3 x1),(5,.pref 82 5 []),(7,.sref 49 7 []),(8,.val 4 x2),(9,.val 3 x3)],[(100000,⟨49,x4,(.sl .fz),false⟩),(5,⟨82,x5,.fz,true⟩),(7,⟨49,x6,(.sl .fz),false⟩)])=iU E6 env H C (bS E6.body 0) ([(0,.sref 49 100000 []),(1,.val 3 x1),(5,.pref 82 5 []),(7,.sref 49 7 []),(8,.val 4 x2),(9,.val 3 x3)],[(100000,⟨49,x4,(.sl .fz),false⟩),(5,⟨82,x5,.fz,true⟩),(7,⟨49,x6,(.sl .dp),false⟩)]) from by kernel_rfl).trans (Mj H C x1 x2 x3 x4 x5 x6)
theorem Gs (x1 x2 x3 x4 x5 x6:T) (h:Yields (fun k=>Ez (hl env k E6) (cl env k) x1 x2 x3 x4 x5 x6) r):Yields (fun k=>E9 (hl env k E6) x1 x2 x3 x4 x5 x6) r:=Yields.head (fun H C=>Mk H C x1 x2 x3 x4 x5 x6) h
noncomputable def IR (H:HT) (x1 x2 x3 x4 x5 x6 x7:T):R:=H (bS Ey.body 0) ([(0,.pref 94 100000 []),(1,.val 38 x1),(6,.pref 82 6 []),(7,.val 3 x2),(8,.val 3 x3),(10,.pref 82 10 []),(11,.val 3 x4)],[(100000,⟨94,x5,(.st [.fo,.dp]),true⟩),(6,⟨82,x6,.dp,true⟩),(10,⟨82,x7,(.st [.dp,.dp,.dp,.dp]),true⟩)])
noncomputable def Hn (H:HT) (x1 x2 x3 x4 x5 x6 x7:T):R:=H (bS Ey.body 0) ([(0,.pref 94 100000 []),(1,.val 38 x1),(6,.pref 82 6 []),(7,.val 3 x2),(8,.val 3 x3),(10,.pref 82 10 []),(11,.val 3 x4)],[(100000,⟨94,x5,(.st [.fo,.dp]),true⟩),(6,⟨82,x6,.dp,true⟩),(10,⟨82,x7,(.st [.dp,.dp,(.sl .dp),.dp]),true⟩)])
noncomputable abbrev GJ (H:HT) (C:aF) (a0 a1 a2:T):R:=
 (fun s0=>
 bif (a2.s.toList==k_b.toList) then
 obind (C aG [a0,(T.int (2:Int))]) fun r1=>
 some [(T.st [(T.str k_b),(rt r1 0),(T.sl []),(T.sl [])]),(rt (r1.drop 1) 0)]
 else
 bif (a2.s.toList==k_o.toList) then
 obind (C aG [a0,(T.int (4:Int))]) fun r2=>
 some [(T.st [(T.str k_o),(rt r2 0),(T.sl []),(T.sl [])]),(rt (r2.drop 1) 0)]
 else
 obind (C cU [a2]) fun r3=>
 bif (!(rt r3 2).b) then
 obind (C dH [a0,s0]) fun r4=>
 some [(T.st [(T.str k_n),(rt r4 0),(T.sl []),(T.sl [])]),(rt (r4.drop 1) 0)]
 else
 obind (C mg [a1,(rt r3 0),(rt r3 1)]) fun r5=>
 bif (!(rt r5 0).b) then
 obind (C dH [a0,s0]) fun r6=>
 some [(T.st [(T.str k_n),(rt r6 0),(T.sl []),(T.sl [])]),(rt (r6.drop 1) 0)]
 else
 IR H a1 (rt r3 0) (rt r3 1) (T.int (0:Int)) a0 (T.st [(T.str (⟨#[]⟩:ByteArray)),(T.int (0:Int)),(T.sl []),(T.sl [])]) (T.st [a2,(T.int (0:Int)),(T.sl []),(T.sl [])])) (T.sl [(T.int (0:Int)),(T.int (1:Int)),(T.int (2:Int)),(T.int (3:Int)),(T.int (7:Int)),(T.int (10:Int)),(T.int (100:Int)),(T.int (999999:Int)),(T.int (1000000:Int))])
theorem Jz (a0 a1 a2:T) (h:Yields (fun k=>GJ (hl env k Ey) (cl env k) a0 a1 a2) r):Yields (fun k=>cl env k EA [a0,a1,a2]) r:=Yields.ca (GJ · · a0 a1 a2) h (by kernel_rfl)
noncomputable abbrev IQ (H:HT) (C:aF) (x1 x2 x3 x4 x5 x6 x7:T):R:=
 (fun s0=>
 (fun s1=>
 (fun s2=>
 bif s2 then
 bif s1 then
 bif (decide (x4.i < ((s0.es).length:Int))) then
 bif s2 then
 bif s1 then
 bif (decide (0≤x4.i)&&decide (x4.i.toNat < (s0.es).length)) then
 obind (C EA [x5,x1,(s0.nth x4.i.toNat)]) fun r1=>
 (fun s3=>
 bif (decide (((x7.fld 2).es).length + [s3].length≤LIM)) then
 Hn H x1 x2 x3 (T.int (IntKind.wrap .i64 (x4.i+(1:Int)))) (rt (r1.drop 1) 0) x6 (T.st (x7.fs.set 2 (T.sl ((x7.fld 2).es ++ [s3]))))
 else
 none) (T.st [((rt r1 0).fld 0),((rt r1 0).fld 1),((rt r1 0).fld 2),((rt r1 0).fld 3)])
 else
 none
 else
 none
 else
 none
 else
 some [(T.st [(x7.fld 0),(x7.fld 1),(x7.fld 2),(x7.fld 3)]),x5]
 else
 none
 else
 none) (decide (0≤x2.i)&&decide (x2.i.toNat < x1.es.length))) (decide (0≤x3.i)&&decide (x3.i.toNat < ((x1.nth x2.i.toNat).es).length))) (((x1.nth x2.i.toNat).nth x3.i.toNat).fld 1)
theorem L0 (x1 x2 x3 x4 x5 x6 x7:T) (h:Yields (fun k=>IQ (hl env k Ey) (cl env k) x1 x2 x3 x4 x5 x6 x7) r):Yields (fun k=>IR (hl env k Ey) x1 x2 x3 x4 x5 x6 x7) r:=Yields.hd (IQ · · x1 x2 x3 x4 x5 x6 x7) h (by kernel_rfl)
noncomputable abbrev Fy (H:HT) (C:aF) (x1 x2 x3 x4 x5 x6 x7:T):R:=IQ H C x1 x2 x3 x4 x5 x6 x7
theorem L1 (x1 x2 x3 x4 x5 x6 x7:T) (h:Yields (fun k=>Fy (hl env k Ey) (cl env k) x1 x2 x3 x4 x5 x6 x7) r):Yields (fun k=>Hn (hl env k Ey) x1 x2 x3 x4 x5 x6 x7) r:=Yields.hd (Fy · · x1 x2 x3 x4 x5 x6 x7) h (by kernel_rfl)
noncomputable def Fw (H:HT) (x1 x2 x3:T):R:=H (bS EH.body 0) ([(0,.val 38 x1),(1,.val 49 x2),(5,.val 3 x3)],[])
noncomputable abbrev L2 (H:HT) (C:aF) (a0 a1:T):R:=
 Fw H a0 a1 (T.int (0:Int))
theorem Nl (H:HT) (C:aF) (a0 a1:T):bI EH env H C [a0,a1]=L2 H C a0 a1:=by kernel_rfl
theorem Nn (a0 a1:T) (h:Yields (fun k=>L2 (hl env k EH) (cl env k) a0 a1) r):Yields (fun k=>cl env k JB [a0,a1]) r:=Yields.call (fi:=EH) rfl rfl (fun H C=>Nl H C a0 a1) h
noncomputable abbrev IL (H:HT) (C:aF) (x1 x2 x3:T):R:=
 (fun s0=>
 (fun s1=>
 (fun s2=>
 bif (decide (x3.i < (x2.es.length:Int))) then
 bif (decide (0≤x3.i)&&decide (x3.i.toNat < x2.es.length)) then
 obind (C dZ [(s2.fld 0),(T.int (0:Int)),(T.int (3:Int))]) fun r1=>
 bif (!(rt r1 0).b) then
 some [(T.bool false)]
 else
 obind (C EG [x1,(s2.fld 1)]) fun r2=>
 bif (!(rt r2 0).b) then
 some [(T.bool false)]
 else
 bif (decide (x3.i > (0:Int))) then
 bif (decide (0≤s0)&&decide (s0.toNat < x2.es.length)) then
 bif (decide (((x2.nth (s0.toNat)).fld 0).i > (s2.fld 0).i)) then
 some [(T.bool false)]
 else
 bif (((x2.nth (s0.toNat)).fld 0).i==(s2.fld 0).i) then
 bif (!(Op.bytesLess ((((x2.nth (s0.toNat)).fld 1).fld 0).s).toList (((s2.fld 1).fld 0).s).toList)) then
 some [(T.bool false)]
 else
 Fw H x1 x2 s1
 else
 Fw H x1 x2 s1
 else
 none
 else
 Fw H x1 x2 s1
 else
 none
 else
 some [(T.bool (decide ((x2.es.length:Int)≤(36:Int))))]) (x2.nth x3.i.toNat)) (T.int (IntKind.wrap .i64 (x3.i+(1:Int))))) (IntKind.wrap .i64 (x3.i - (1:Int)))
theorem MH (H:HT) (C:aF) (x1 x2 x3:T):iU EH env H C (bS EH.body 0) ([(0,.val 38 x1),(1,.val 49 x2),(5,.val 3 x3)],[]) =
 (fun s0=>
 (fun s1=>
 (fun s2=>
 (fun s3=>
 (fun s4=>
 (fun s5=>
 (fun s6=>
 (fun s7=>
 (fun s8=>
 (fun s9=>
 (fun s10=>
 bif (decide (x3.i < (x2.es.length:Int))) then
 bif s4 then
 obind (C dZ [(s6.fld 0),(T.int (0:Int)),(T.int (3:Int))]) fun r1=>
 (fun s11=>
 bif (((s11&&(s11&&true))&&s4)||(!s11)) then
 bif (s11||(!s11)) then
 bif (s11||(!s11)) then
 bif ((s11&&(s11&&true))||(!s11)) then
 obind ((bif s11 then C EG [x1,(s6.fld 1)] else some [])) fun r2=>
 bif (s11||(!s11)) then
 bif (bif (!(rt r1 0).b) then true else s11) then
 bif (bif (!(rt r1 0).b) then (T.bool true) else (T.bool (!(rt r2 0).b))).b then
 some [(T.bool false)]
 else
 bif (((s2&&true)&&true)||(!s2)) then
 bif (((s2&&(s2&&true))&&s5)||(!s2)) then
 bif s9 then
 bif s9 then
 bif (((s2&&(s2&&true))&&s4)||(!s2)) then
 bif s9 then
 bif s9 then
 bif (((s2&&s2)&&true)||(!s2)) then
 bif s9 then
 bif (((s0&&true)&&true)||(!s0)) then
 bif (((s0&&(s0&&true))&&s5)||(!s0)) then
 bif s10 then
 bif s10 then
 bif (((s0&&(s0&&true))&&s4)||(!s0)) then
 bif s10 then
 bif s10 then
 bif (((s0&&s0)&&true)||(!s0)) then
 bif s10 then
 bif (((s1&&true)&&true)||(!s1)) then
 bif (((s1&&(s1&&true))&&s5)||(!s1)) then
 bif s8 then
 bif s8 then
 bif s8 then
 bif (((s1&&(s1&&true))&&s4)||(!s1)) then
 bif s8 then
 bif s8 then
 bif s8 then
 bif (((s1&&s1)&&true)||(!s1)) then
 bif ((s0&&(bif (s7.i==(s6.fld 0).i) then s1 else true))||(!s0)) then
 bif ((s2&&(bif (decide (s7.i > (s6.fld 0).i)) then true else s0))||(!s2)) then
 bif (bif (decide (x3.i > (0:Int))) then s2 else true) then
 bif (bif (decide (x3.i > (0:Int))) then (bif (decide (s7.i > (s6.fld 0).i)) then (T.bool true) else (bif (s7.i==(s6.fld 0).i) then (T.bool (!(Op.bytesLess ((((x2.nth (s3.toNat)).fld 1).fld 0).s).toList (((s6.fld 1).fld 0).s).toList))) else (T.bool false))) else (T.bool false)).b then
 some [(T.bool false)]
 else
 Fw H x1 x2 (T.int (IntKind.wrap .i64 (x3.i+(1:Int))))
 else
 none
 else
 none
 else
 none
 else
 none
 else
 none
 else
 none
 else
 none
 else
 none
 else
 none
 else
 none
 else
 none
 else
 none
 else
 none
 else
 none
 else
 none
 else
 none
 else
 none
 else
 none
 else
 none
 else
 none
 else
 none
 else
 none
 else
 none
 else
 none
 else
 none
 else
 none
 else
 none
 else
 none
 else
 none
 else
 none
 else
 none
 else
 none
 else
 none
 else
 none
 else
 none
 else
 none
 else
 none) ((!(rt r1 0).b)==false)
 else
 none
 else
 some [(T.bool (decide ((x2.es.length:Int)≤(36:Int))))]) (s0||(!s0))) (s2||(!s2))) (s1||(!s1))) ((x2.nth (s3.toNat)).fld 0)) (x2.nth x3.i.toNat)) (decide (0≤s3)&&decide (s3.toNat < x2.es.length))) (decide (0≤x3.i)&&decide (x3.i.toNat < x2.es.length))) (IntKind.wrap .i64 (x3.i - (1:Int)))) ((decide (x3.i > (0:Int)))==true)) (s0&&((((x2.nth ((IntKind.wrap .i64 (x3.i - (1:Int))).toNat)).fld 0).i==((x2.nth x3.i.toNat).fld 0).i)==true))) (((decide (x3.i > (0:Int)))==true)&&((decide (((x2.nth ((IntKind.wrap .i64 (x3.i - (1:Int))).toNat)).fld 0).i > ((x2.nth x3.i.toNat).fld 0).i))==false)):=by kernel_rfl
theorem MW (H:HT) (C:aF) (x1 x2 x3:T):iU EH env H C (bS EH.body 0) ([(0,.val 38 x1),(1,.val 49 x2),(5,.val 3 x3)],[])=IL H C x1 x2 x3:=by
 refine (MH H C x1 x2 x3).trans ?_
 unfold IL
 all_goals try dsimp only
 all_goals try simp only[bs]
 all_goals cases hc:((decide (x3.i < (x2.es.length:Int)))) with
 | true=>
  try simp only[bs]
  all_goals cases hc:((decide (0≤x3.i)&&decide (x3.i.toNat < x2.es.length))) with
  | true=>
   try simp only[bs]
   all_goals refine br fun r1=>?_
   all_goals try simp only[bs]
   all_goals cases hc:((!(rt r1 0).b)) with
   | true=>
    try simp only[bs]
    all_goals kernel_rfl
   | false=>
    try simp only[bs]
    all_goals refine br fun r2=>?_
    all_goals try simp only[bs]
    all_goals cases hc:((!(rt r2 0).b)) with
    | true=>
     try simp only[bs]
     all_goals kernel_rfl
    | false=>
     try simp only[bs]
     all_goals cases hc:((decide (x3.i > (0:Int)))) with
     | true=>
      try simp only[bs]
      all_goals cases hc:((decide (0≤(IntKind.wrap .i64 (x3.i - (1:Int))))&&decide ((IntKind.wrap .i64 (x3.i - (1:Int))).toNat < x2.es.length))) with
      | true=>
       try simp only[bs]
       all_goals cases hc:((decide (((x2.nth ((IntKind.wrap .i64 (x3.i - (1:Int))).toNat)).fld 0).i > ((x2.nth x3.i.toNat).fld 0).i))) with
       | true=>
        try simp only[bs]
        all_goals cases hc:((((x2.nth ((IntKind.wrap .i64 (x3.i - (1:Int))).toNat)).fld 0).i==((x2.nth x3.i.toNat).fld 0).i)) with
        | true=>
         try simp only[bs]
         all_goals kernel_rfl
        | false=>
         try simp only[bs]
         all_goals kernel_rfl
       | false=>
        try simp only[bs]
        all_goals cases hc:((((x2.nth ((IntKind.wrap .i64 (x3.i - (1:Int))).toNat)).fld 0).i==((x2.nth x3.i.toNat).fld 0).i)) with
        | true=>
         try simp only[bs]
         all_goals cases hc:((!(Op.bytesLess ((((x2.nth ((IntKind.wrap .i64 (x3.i - (1:Int))).toNat)).fld 1).fld 0).s).toList ((((x2.nth x3.i.toNat).fld 1).fld 0).s).toList))) with
         | true=>
          try simp only[bs]
          all_goals kernel_rfl
         | false=>
          try simp only[bs]
          all_goals kernel_rfl
        | false=>
         try simp only[bs]
         all_goals kernel_rfl
      | false=>
       try simp only[bs]
       all_goals kernel_rfl
     | false=>
      try simp only[bs]
      all_goals cases hc:((decide (((x2.nth ((IntKind.wrap .i64 (x3.i - (1:Int))).toNat)).fld 0).i > ((x2.nth x3.i.toNat).fld 0).i))) with
      | true=>
       try simp only[bs]
       all_goals cases hc:((((x2.nth ((IntKind.wrap .i64 (x3.i - (1:Int))).toNat)).fld 0).i==((x2.nth x3.i.toNat).fld 0).i)) with
       | true=>
        try simp only[bs]
        all_goals kernel_rfl
       | false=>
        try simp only[bs]
        all_goals kernel_rfl
      | false=>
       try simp only[bs]
       all_goals cases hc:((((x2.nth ((IntKind.wrap .i64 (x3.i - (1:Int))).toNat)).fld 0).i==((x2.nth x3.i.toNat).fld 0).i)) with
       | true=>
        try simp only[bs]
        all_goals kernel_rfl
       | false=>
        try simp only[bs]
        all_goals kernel_rfl
  | false=>
   try simp only[bs]
   all_goals kernel_rfl
 | false=>
  try simp only[bs]
  all_goals kernel_rfl
theorem Kc (x1 x2 x3:T) (h:Yields (fun k=>IL (hl env k EH) (cl env k) x1 x2 x3) r):Yields (fun k=>Fw (hl env k EH) x1 x2 x3) r:=Yields.head (fun H C=>MW H C x1 x2 x3) h
noncomputable abbrev IE (H:HT) (C:aF) (a0 a1:T):R:=
 obind (C Fu [a1]) fun r1=>
 bif (rt r1 2).b then
 bif (decide ((rt r1 0).i < (a0.es.length:Int))) then
 bif (decide (0≤(rt r1 0).i)&&decide (((rt r1 0).i).toNat < a0.es.length)) then
 some [(T.bool (decide ((rt r1 1).i < (((a0.nth (((rt r1 0).i).toNat)).es).length:Int))))]
 else
 none
 else
 some [(T.bool false)]
 else
 some [(T.bool false)]
theorem MZ (a0 a1:T) (h:Yields (fun k=>IE (hl env k Gk) (cl env k) a0 a1) r):Yields (fun k=>cl env k ER [a0,a1]) r:=Yields.ca (IE · · a0 a1) h (by kernel_rfl)
noncomputable abbrev Jm (H:HT) (C:aF) (a0 a1:T):R:=
 obind (C Fu [a1]) fun r1=>
 bif (decide (0≤(rt r1 0).i)&&decide (((rt r1 0).i).toNat < a0.es.length)) then
 bif (decide (0≤(rt r1 1).i)&&decide (((rt r1 1).i).toNat < ((a0.nth (((rt r1 0).i).toNat)).es).length)) then
 some [((a0.nth (((rt r1 0).i).toNat)).nth (((rt r1 1).i).toNat))]
 else
 none
 else
 none
theorem LY (a0 a1:T) (h:Yields (fun k=>Jm (hl env k Gw) (cl env k) a0 a1) r):Yields (fun k=>cl env k F3 [a0,a1]) r:=Yields.ca (Jm · · a0 a1) h (by kernel_rfl)
noncomputable def EF (H:HT) (x1 x2 x3 x4 x5:T):R:=H (bS Ee.body 0) ([(0,.val 38 x1),(5,.val 31 x2),(86,.val 80 x3),(87,.val 3 x4),(88,.val 3 x5)],[])
noncomputable abbrev EO (H:HT) (C:aF) (a0 a1:T):R:=
 (fun s0=>
 (fun s1=>
 (fun s2=>
 bif (decide ((((a1.fld 3).es).length:Int) > (0:Int))) then
 some [s1]
 else
 obind (C ET [a0,(a1.fld 0)]) fun r1=>
 bif (!(rt r1 0).b) then
 some [s1]
 else
 bif (((a1.fld 0).s).toList==(⟨#[110]⟩:ByteArray).toList) then
 bif (decide (s2.i≥(0:Int))) then
 bif (decide (s2.i≤(1000000:Int))) then
 some [s0]
 else
 some [s1]
 else
 some [s1]
 else
 bif (((a1.fld 0).s).toList==(⟨#[98]⟩:ByteArray).toList) then
 bif (s2.i==(0:Int)) then
 some [s0]
 else
 bif (s2.i==(1:Int)) then
 some [s0]
 else
 some [s1]
 else
 bif (((a1.fld 0).s).toList==(⟨#[111]⟩:ByteArray).toList) then
 bif (decide (s2.i≥(0:Int))) then
 bif (decide (s2.i < (4:Int))) then
 some [s0]
 else
 some [s1]
 else
 some [s1]
 else
 obind (C F3 [a0,(a1.fld 0)]) fun r2=>
 bif (s2.i != (0:Int)) then
 some [s1]
 else
 bif ((((a1.fld 2).es).length:Int) != ((((rt r2 0).fld 1).es).length:Int)) then
 some [s1]
 else
 EF H a0 ((rt r2 0).fld 1) (a1.fld 2) (T.int (((a1.fld 2).es).length:Int)) (T.int (0:Int))) (a1.fld 1)) (T.bool false)) (T.bool ((((a1.fld 2).es).length:Int)==(0:Int)))
theorem L8 (H:HT) (C:aF) (a0 a1:T):bI Ee env H C [a0,a1] =
 (fun s0=>
 (fun s1=>
 (fun s2=>
 (fun s3=>
 (fun s4=>
 (fun s5=>
 (fun s6=>
 (fun s7=>
 (fun s8=>
 (fun s9=>
 (fun s10=>
 (fun s11=>
 (fun s12=>
 (fun s13=>
 bif (s9||(!s9)) then
 bif ((s9&&(s9&&true))||(!s9)) then
 obind ((bif s9 then C ET [a0,(a1.fld 0)] else some [])) fun r1=>
 bif (s9||(!s9)) then
 bif (bif s4 then true else s9) then
 bif (bif s4 then (T.bool true) else (T.bool (!(rt r1 0).b))).b then
 some [s13]
 else
 bif (((a1.fld 0).s).toList==(⟨#[110]⟩:ByteArray).toList) then
 bif (s8||(!s8)) then
 bif (((s8&&true)&&true)||(!s8)) then
 bif (bif s0 then s8 else true) then
 bif (s10||(!s10)) then
 bif (s10||(!s10)) then
 bif (((s10&&true)&&true)||(!s10)) then
 bif (bif s2.b then s10 else true) then
 some [(bif s2.b then (T.bool (s7==(0:Int))) else s13)]
 else
 none
 else
 none
 else
 none
 else
 none
 else
 none
 else
 none
 else
 none
 else
 bif (((a1.fld 0).s).toList==(⟨#[98]⟩:ByteArray).toList) then
 bif (s6||(!s6)) then
 bif (((s6&&true)&&true)||(!s6)) then
 bif (bif ((a1.fld 1).i==(0:Int)) then true else s6) then
 bif (s11||(!s11)) then
 bif (s11||(!s11)) then
 bif (((s11&&true)&&true)||(!s11)) then
 bif (bif s1.b then s11 else true) then
 some [(bif s1.b then (T.bool (s7==(0:Int))) else s13)]
 else
 none
 else
 none
 else
 none
 else
 none
 else
 none
 else
 none
 else
 none
 else
 bif (((a1.fld 0).s).toList==(⟨#[111]⟩:ByteArray).toList) then
 bif (s8||(!s8)) then
 bif (((s8&&true)&&true)||(!s8)) then
 bif (bif s0 then s8 else true) then
 bif (s12||(!s12)) then
 bif (s12||(!s12)) then
 bif (((s12&&true)&&true)||(!s12)) then
 bif (bif s3.b then s12 else true) then
 some [(bif s3.b then (T.bool (s7==(0:Int))) else s13)]
 else
 none
 else
 none
 else
 none
 else
 none
 else
 none
 else
 none
 else
 none
 else
 obind (C F3 [a0,(a1.fld 0)]) fun r2=>
 bif (s5||(!s5)) then
 bif (s5||(!s5)) then
 bif (s5||(!s5)) then
 bif (((s5&&s5)&&true)||(!s5)) then
 bif (bif ((a1.fld 1).i != (0:Int)) then true else s5) then
 bif (bif ((a1.fld 1).i != (0:Int)) then (T.bool true) else (T.bool (s7 != ((((rt r2 0).fld 1).es).length:Int)))).b then
 some [s13]
 else
 EF H a0 ((rt r2 0).fld 1) (a1.fld 2) (T.int s7) (T.int (0:Int))
 else
 none
 else
 none
 else
 none
 else
 none
 else
 none
 else
 none
 else
 none
 else
 none
 else
 none) (T.bool false)) (s3.b==true)) (s1.b==true)) (s2.b==true)) (s4==false)) (s0==true)) (((a1.fld 2).es).length:Int)) (((a1.fld 1).i==(0:Int))==false)) (((a1.fld 1).i != (0:Int))==false)) (decide ((((a1.fld 3).es).length:Int) > (0:Int)))) (bif s0 then (T.bool (decide ((a1.fld 1).i < (4:Int)))) else (T.bool false))) (bif s0 then (T.bool (decide ((a1.fld 1).i≤(1000000:Int)))) else (T.bool false))) (bif ((a1.fld 1).i==(0:Int)) then (T.bool true) else (T.bool ((a1.fld 1).i==(1:Int))))) (decide ((a1.fld 1).i≥(0:Int))):=by kernel_rfl
theorem Ln (H:HT) (C:aF) (a0 a1:T):bI Ee env H C [a0,a1]=EO H C a0 a1:=by
 refine (L8 H C a0 a1).trans ?_
 unfold EO
 all_goals try dsimp only
 all_goals try simp only[bs]
 all_goals cases hc:((decide ((((a1.fld 3).es).length:Int) > (0:Int)))) with
 | true=>
  try simp only[bs]
  all_goals kernel_rfl
 | false=>
  try simp only[bs]
  all_goals refine br fun r1=>?_
  all_goals try simp only[bs]
  all_goals cases hc:((!(rt r1 0).b)) with
  | true=>
   try simp only[bs]
   all_goals kernel_rfl
  | false=>
   try simp only[bs]
   all_goals cases hc:((((a1.fld 0).s).toList==(⟨#[110]⟩:ByteArray).toList)) with
   | true=>
    try simp only[bs]
    all_goals cases hc:((decide ((a1.fld 1).i≥(0:Int)))) with
    | true=>
     try simp only[bs]
     all_goals cases hc:((decide ((a1.fld 1).i≤(1000000:Int)))) with
     | true=>
      try simp only[bs]
      all_goals kernel_rfl
     | false=>
      try simp only[bs]
      all_goals kernel_rfl
    | false=>
     try simp only[bs]
     all_goals kernel_rfl
   | false=>
    try simp only[bs]
    all_goals cases hc:((((a1.fld 0).s).toList==(⟨#[98]⟩:ByteArray).toList)) with
    | true=>
     try simp only[bs]
     all_goals cases hc:(((a1.fld 1).i==(0:Int))) with
     | true=>
      try simp only[bs]
      all_goals kernel_rfl
     | false=>
      try simp only[bs]
      all_goals cases hc:(((a1.fld 1).i==(1:Int))) with
      | true=>
       try simp only[bs]
       all_goals kernel_rfl
      | false=>
       try simp only[bs]
       all_goals kernel_rfl
    | false=>
     try simp only[bs]
     all_goals cases hc:((((a1.fld 0).s).toList==(⟨#[111]⟩:ByteArray).toList)) with
     | true=>
      try simp only[bs]
      all_goals cases hc:((decide ((a1.fld 1).i≥(0:Int)))) with
      | true=>
       try simp only[bs]
       all_goals cases hc:((decide ((a1.fld 1).i < (4:Int)))) with
       | true=>
        try simp only[bs]
        all_goals kernel_rfl
       | false=>
        try simp only[bs]
        all_goals kernel_rfl
      | false=>
       try simp only[bs]
       all_goals kernel_rfl
     | false=>
      try simp only[bs]
      all_goals refine br fun r2=>?_
      all_goals try simp only[bs]
      all_goals cases hc:(((a1.fld 1).i != (0:Int))) with
      | true=>
       try simp only[bs]
       all_goals kernel_rfl
      | false=>
       try simp only[bs]
       all_goals cases hc:(((((a1.fld 2).es).length:Int) != ((((rt r2 0).fld 1).es).length:Int))) with
       | true=>
        try simp only[bs]
        all_goals kernel_rfl
       | false=>
        try simp only[bs]
        all_goals kernel_rfl
theorem FO (a0 a1:T) (h:Yields (fun k=>EO (hl env k Ee) (cl env k) a0 a1) r):Yields (fun k=>cl env k El [a0,a1]) r:=Yields.call (fi:=Ee) rfl rfl (fun H C=>Ln H C a0 a1) h
noncomputable abbrev GX (H:HT) (C:aF) (x1 x2 x3 x4 x5:T):R:=
 bif (decide (x5.i < x4.i)) then
 bif (decide (0≤x5.i)&&decide (x5.i.toNat < x3.es.length)) then
 bif (decide (0≤x5.i)&&decide (x5.i.toNat < x2.es.length)) then
 bif (!((((x3.nth x5.i.toNat).fld 0).s).toList==((x2.nth x5.i.toNat).s).toList)) then
 some [(T.bool false)]
 else
 obind (C El [x1,(x3.nth x5.i.toNat)]) fun r1=>
 bif (!(rt r1 0).b) then
 some [(T.bool false)]
 else
 EF H x1 x2 x3 x4 (T.int (IntKind.wrap .i64 (x5.i+(1:Int))))
 else
 none
 else
 none
 else
 some [(T.bool true)]
theorem Kj (H:HT) (C:aF) (x1 x2 x3 x4 x5:T):iU Ee env H C (bS Ee.body 0) ([(0,.val 38 x1),(5,.val 31 x2),(86,.val 80 x3),(87,.val 3 x4),(88,.val 3 x5)],[]) =
 (fun s0=>
 (fun s1=>
 bif (decide (x5.i < x4.i)) then
 bif (decide (0≤x5.i)&&decide (x5.i.toNat < x3.es.length)) then
 bif (decide (0≤x5.i)&&decide (x5.i.toNat < x2.es.length)) then
 bif ((s1&&(s1&&true))||(!s1)) then
 obind ((bif s1 then C El [x1,(x3.nth x5.i.toNat)] else some [])) fun r1=>
 bif (s1||(!s1)) then
 bif (bif s0 then true else s1) then
 bif (bif s0 then (T.bool true) else (T.bool (!(rt r1 0).b))).b then
 some [(T.bool false)]
 else
 EF H x1 x2 x3 x4 (T.int (IntKind.wrap .i64 (x5.i+(1:Int))))
 else
 none
 else
 none
 else
 none
 else
 none
 else
 none
 else
 some [(T.bool true)]) (s0==false)) (!((((x3.nth x5.i.toNat).fld 0).s).toList==((x2.nth x5.i.toNat).s).toList)):=by kernel_rfl
theorem Ku (H:HT) (C:aF) (x1 x2 x3 x4 x5:T):iU Ee env H C (bS Ee.body 0) ([(0,.val 38 x1),(5,.val 31 x2),(86,.val 80 x3),(87,.val 3 x4),(88,.val 3 x5)],[])=GX H C x1 x2 x3 x4 x5:=by
 refine (Kj H C x1 x2 x3 x4 x5).trans ?_
 unfold GX
 all_goals try dsimp only
 all_goals try simp only[bs]
 all_goals cases hc:((decide (x5.i < x4.i))) with
 | true=>
  try simp only[bs]
  all_goals cases hc:((decide (0≤x5.i)&&decide (x5.i.toNat < x3.es.length))) with
  | true=>
   try simp only[bs]
   all_goals cases hc:((decide (0≤x5.i)&&decide (x5.i.toNat < x2.es.length))) with
   | true=>
    try simp only[bs]
    all_goals cases hc:((!((((x3.nth x5.i.toNat).fld 0).s).toList==((x2.nth x5.i.toNat).s).toList))) with
    | true=>
     try simp only[bs]
     all_goals kernel_rfl
    | false=>
     try simp only[bs]
     all_goals refine br fun r1=>?_
     all_goals try simp only[bs]
     all_goals cases hc:((!(rt r1 0).b)) with
     | true=>
      try simp only[bs]
      all_goals kernel_rfl
     | false=>
      try simp only[bs]
      all_goals kernel_rfl
   | false=>
    try simp only[bs]
    all_goals kernel_rfl
  | false=>
   try simp only[bs]
   all_goals kernel_rfl
 | false=>
  try simp only[bs]
  all_goals kernel_rfl
theorem Iw (x1 x2 x3 x4 x5:T) (h:Yields (fun k=>GX (hl env k Ee) (cl env k) x1 x2 x3 x4 x5) r):Yields (fun k=>EF (hl env k Ee) x1 x2 x3 x4 x5) r:=Yields.head (fun H C=>Ku H C x1 x2 x3 x4 x5) h
noncomputable abbrev IF (H:HT) (C:aF) (a0:T):R:=
 (fun s0=>
 (fun s1=>
 (fun s2=>
 (fun s3=>
 bif (!(a0.s.toList==s3.toList)) then
 bif (decide (0≤(0:Int))&&decide (0 < a0.s.size)) then
 bif ((a0.s.data.getD 0 0).toNat==(38:Int)) then
 bif (decide (0≤(0:Int))&&s1) then
 bif (decide (0≤(1:Int))&&s2) then
 some [(T.str (a0.s.extract 0 1)),(T.str (a0.s.extract 1 a0.s.size))]
 else
 none
 else
 none
 else
 bif (decide (0≤(0:Int))&&decide (0 < a0.s.size)) then
 bif ((a0.s.data.getD 0 0).toNat==(33:Int)) then
 bif (decide (0≤(0:Int))&&s1) then
 bif (decide (0≤(1:Int))&&s2) then
 some [(T.str (a0.s.extract 0 1)),(T.str (a0.s.extract 1 a0.s.size))]
 else
 none
 else
 none
 else
 some [(T.str s3),a0]
 else
 none
 else
 none
 else
 some [(T.str s3),a0]) (⟨#[]⟩:ByteArray)) (decide ((1:Int)≤s0)&&(decide (s0≤s0)&&decide (s0≤s0)))) (decide ((0:Int)≤(1:Int))&&(decide ((1:Int)≤s0)&&decide (s0≤s0)))) (a0.s.size:Int)
theorem N0 (a0:T) (h:Yields (fun k=>IF (hl env k Gl) (cl env k) a0) r):Yields (fun k=>cl env k IB [a0]) r:=Yields.ca (IF · · a0) h (by kernel_rfl)
noncomputable abbrev pS (H:HT) (C:aF) (a0:T):R:=
 bif (decide ((a0.s.size:Int) > (0:Int))) then
 bif (decide (0≤(0:Int))&&decide (0 < a0.s.size)) then
 bif ((a0.s.data.getD 0 0).toNat==(38:Int)) then
 some [(T.bool true)]
 else
 bif (decide (0≤(0:Int))&&decide (0 < a0.s.size)) then
 some [(T.bool ((a0.s.data.getD 0 0).toNat==(33:Int)))]
 else
 none
 else
 none
 else
 some [(T.bool false)]
theorem tp (a0:T) (h:Yields (fun k=>pS (hl env k j8) (cl env k) a0) r):Yields (fun k=>cl env k bO [a0]) r:=Yields.ca (pS · · a0) h (by kernel_rfl)
noncomputable abbrev nk (H:HT) (C:aF)  : R:=
 (fun s0=>
 (fun s1=>
 (fun s2=>
 some [(T.sl [(T.st [(T.str (⟨#[110,117,109]⟩:ByteArray)),(T.int (1000001:Int)),s0]),(T.st [(T.str (⟨#[116,114,117,101]⟩:ByteArray)),s0,s0]),(T.st [(T.str (⟨#[102,97,108,115,101]⟩:ByteArray)),s0,s0]),(T.st [(T.str (⟨#[109,101]⟩:ByteArray)),s0,s0]),(T.st [(T.str (⟨#[97,100,100]⟩:ByteArray)),s0,s0]),(T.st [(T.str (⟨#[115,117,98]⟩:ByteArray)),s0,s0]),(T.st [(T.str (⟨#[109,117,108]⟩:ByteArray)),s0,s0]),(T.st [(T.str (⟨#[100,105,118]⟩:ByteArray)),s0,s0]),(T.st [(T.str (⟨#[109,111,100]⟩:ByteArray)),s0,s0]),(T.st [(T.str (⟨#[108,101,115,115]⟩:ByteArray)),s0,s0]),(T.st [(T.str (⟨#[115,97,109,101]⟩:ByteArray)),s0,s0]),(T.st [(T.str (⟨#[97,110,100]⟩:ByteArray)),s0,s0]),(T.st [(T.str (⟨#[111,114]⟩:ByteArray)),s0,s0]),(T.st [(T.str (⟨#[110,111,116]⟩:ByteArray)),s0,s0]),(T.st [(T.str (⟨#[99,111,112,121]⟩:ByteArray)),s2,s0]),(T.st [(T.str (⟨#[109,111,118,101]⟩:ByteArray)),s2,s0]),(T.st [(T.str (⟨#[112,117,116]⟩:ByteArray)),s2,s0]),(T.st [(T.str (⟨#[100,114,111,112]⟩:ByteArray)),s0,s0]),(T.st [(T.str (⟨#[112,97,99,107]⟩:ByteArray)),s1,s0]),(T.st [(T.str (⟨#[117,110,112,97,99,107]⟩:ByteArray)),s1,s0]),(T.st [(T.str (⟨#[108,101,110,100]⟩:ByteArray)),s2,s0]),(T.st [(T.str (⟨#[108,101,110,100,119]⟩:ByteArray)),s2,s0]),(T.st [(T.str (⟨#[102,105,101,108,100]⟩:ByteArray)),s1,s1]),(T.st [(T.str (⟨#[114,101,97,100]⟩:ByteArray)),s0,s0]),(T.st [(T.str (⟨#[112,101,101,107]⟩:ByteArray)),s0,s0]),(T.st [(T.str (⟨#[119,114,105,116,101]⟩:ByteArray)),s0,s0]),(T.st [(T.str (⟨#[102,114,101,101,122,101]⟩:ByteArray)),s0,s0]),(T.st [(T.str (⟨#[107,101,101,112]⟩:ByteArray)),s1,s0]),(T.st [(T.str (⟨#[116,97,107,101]⟩:ByteArray)),s1,s0]),(T.st [(T.str (⟨#[104,97,115]⟩:ByteArray)),s1,s0]),(T.st [(T.str (⟨#[115,101,101]⟩:ByteArray)),s1,s0]),(T.st [(T.str (⟨#[115,101,101,119]⟩:ByteArray)),s1,s0]),(T.st [(T.str (⟨#[106,117,109,112]⟩:ByteArray)),(T.int (40:Int)),s0]),(T.st [(T.str (⟨#[122,101,114,111]⟩:ByteArray)),(T.int (40:Int)),s0]),(T.st [(T.str (⟨#[99,97,108,108]⟩:ByteArray)),s1,(T.int (4:Int))]),(T.st [(T.str (⟨#[114,101,116]⟩:ByteArray)),s0,s0]),(T.st [(T.str (⟨#[102,97,105,108]⟩:ByteArray)),s0,s0])])]) (T.int (6:Int))) (T.int (3:Int))) (T.int (0:Int))
theorem xa (H:HT) (C:aF)  : bI jD env H C []=nk H C :=by kernel_rfl
theorem xm  (h:Yields (fun k=>nk (hl env k jD) (cl env k) ) r):Yields (fun k=>cl env k nb []) r:=Yields.call (fi:=jD) rfl rfl (fun H C=>xa H C ) h
noncomputable abbrev nw (H:HT) (C:aF) (a0 a1 a2:T):R:=
 (fun s0=>
 (fun s1=>
 obind (C cB [a0,(T.sl [(T.str k_n),(T.str k_b),(T.str k_o),(T.str k_n)])]) fun r1=>
 (fun s2=>
 obind (C aG [(rt (r1.drop 1) 0),(T.int (2:Int))]) fun r2=>
 (fun s3=>
 bif ((rt r2 0).i==(0:Int)) then
 bif (decide ((a1.es.length:Int) > (0:Int))) then
 obind (C aG [s3,(T.int (a1.es.length:Int))]) fun r3=>
 (fun s4=>
 (fun s5=>
 bif s4 then
 bif (decide (s5 > (0:Int))) then
 obind (C dE [(rt r3 0)]) fun r4=>
 (fun s6=>
 bif (decide (k_S.size+((rt r4 0).s).size≤LIM)) then
 bif s4 then
 obind (C aG [(rt (r3.drop 1) 0),(T.int s5)]) fun r5=>
 obind (C dE [(rt r5 0)]) fun r6=>
 (fun s7=>
 bif (decide (s6.size+((rt r6 0).s).size≤LIM)) then
 bif a2.b then
 obind (C aG [(rt (r5.drop 1) 0),s1]) fun r7=>
 bif ((rt r7 0).i==(0:Int)) then
 obind (C cB [(rt (r7.drop 1) 0),s0]) fun r8=>
 bif (decide (((rt r8 0).s).size+s7.size≤LIM)) then
 some [(T.str (((rt r8 0).s)++s7)),(rt (r8.drop 1) 0)]
 else
 none
 else
 some [(T.str s7),(rt (r7.drop 1) 0)]
 else
 some [(T.str s7),(rt (r5.drop 1) 0)]
 else
 none) (s6++((rt r6 0).s))
 else
 none
 else
 none) (k_S++((rt r4 0).s))
 else
 bif a2.b then
 obind (C aG [(rt (r3.drop 1) 0),s1]) fun r9=>
 bif ((rt r9 0).i==(0:Int)) then
 obind (C cB [(rt (r9.drop 1) 0),s0]) fun r10=>
 bif (decide (((rt r10 0).s).size+s2.size≤LIM)) then
 some [(T.str (((rt r10 0).s)++s2)),(rt (r10.drop 1) 0)]
 else
 none
 else
 some [(rt r1 0),(rt (r9.drop 1) 0)]
 else
 some [(rt r1 0),(rt (r3.drop 1) 0)]
 else
 none) (((a1.nth (((rt r3 0).i).toNat)).es).length:Int)) (decide (0≤(rt r3 0).i)&&decide (((rt r3 0).i).toNat < a1.es.length))
 else
 bif a2.b then
 obind (C aG [s3,s1]) fun r11=>
 bif ((rt r11 0).i==(0:Int)) then
 obind (C cB [(rt (r11.drop 1) 0),s0]) fun r12=>
 bif (decide (((rt r12 0).s).size+s2.size≤LIM)) then
 some [(T.str (((rt r12 0).s)++s2)),(rt (r12.drop 1) 0)]
 else
 none
 else
 some [(rt r1 0),(rt (r11.drop 1) 0)]
 else
 some [(rt r1 0),s3]
 else
 bif a2.b then
 obind (C aG [s3,s1]) fun r13=>
 bif ((rt r13 0).i==(0:Int)) then
 obind (C cB [(rt (r13.drop 1) 0),s0]) fun r14=>
 bif (decide (((rt r14 0).s).size+s2.size≤LIM)) then
 some [(T.str (((rt r14 0).s)++s2)),(rt (r14.drop 1) 0)]
 else
 none
 else
 some [(rt r1 0),(rt (r13.drop 1) 0)]
 else
 some [(rt r1 0),s3]) (rt (r2.drop 1) 0)) ((rt r1 0).s)) (T.int (4:Int))) (T.sl [(T.str cX),(T.str cI)])
theorem xv (a0 a1 a2:T) (h:Yields (fun k=>nw (hl env k mN) (cl env k) a0 a1 a2) r):Yields (fun k=>cl env k OW [a0,a1,a2]) r:=Yields.ca (nw · · a0 a1 a2) h (by kernel_rfl)
noncomputable abbrev Pq (H:HT) (C:aF) (a0 a1:T):R:=
 obind (C aG [a0,(T.int (a1.es.length:Int))]) fun r1=>
 bif (decide (0≤(rt r1 0).i)&&decide (((rt r1 0).i).toNat < a1.es.length)) then
 some [(a1.nth (((rt r1 0).i).toNat)),(rt (r1.drop 1) 0)]
 else
 none
theorem xr (a0 a1:T) (h:Yields (fun k=>Pq (hl env k mM) (cl env k) a0 a1) r):Yields (fun k=>cl env k cB [a0,a1]) r:=Yields.ca (Pq · · a0 a1) h (by kernel_rfl)
noncomputable abbrev If (H:HT) (C:aF) (a0 a1:T):R:=
 bif (a1.s.toList==(⟨#[110]⟩:ByteArray).toList) then
 some [(T.bool true)]
 else
 bif (a1.s.toList==(⟨#[98]⟩:ByteArray).toList) then
 some [(T.bool true)]
 else
 bif (a1.s.toList==(⟨#[111]⟩:ByteArray).toList) then
 some [(T.bool true)]
 else
 obind (C ER [a0,a1]) fun r1=>
 some [(rt r1 0)]
theorem M3 (H:HT) (C:aF) (a0 a1:T):bI G0 env H C [a0,a1] =
 (fun s0=>
 (fun s1=>
 (fun s2=>
 (fun s3=>
 bif ((((s2==false)&&true)&&true)||(!(s2==false))) then
 bif (bif s2 then true else (s2==false)) then
 bif ((((s1.b==false)&&true)&&true)||(!(s1.b==false))) then
 bif (bif s1.b then true else (s1.b==false)) then
 bif ((s3&&(s3&&true))||(!s3)) then
 obind ((bif s3 then C ER [a0,a1] else some [])) fun r1=>
 bif (bif s0.b then true else s3) then
 some [(bif s0.b then (T.bool true) else (rt r1 0))]
 else
 none
 else
 none
 else
 none
 else
 none
 else
 none
 else
 none) (s0.b==false)) (a1.s.toList==(⟨#[110]⟩:ByteArray).toList)) (bif (a1.s.toList==(⟨#[110]⟩:ByteArray).toList) then (T.bool true) else (T.bool (a1.s.toList==(⟨#[98]⟩:ByteArray).toList)))) (bif (bif (a1.s.toList==(⟨#[110]⟩:ByteArray).toList) then (T.bool true) else (T.bool (a1.s.toList==(⟨#[98]⟩:ByteArray).toList))).b then (T.bool true) else (T.bool (a1.s.toList==(⟨#[111]⟩:ByteArray).toList))):=by kernel_rfl
theorem Me (H:HT) (C:aF) (a0 a1:T):bI G0 env H C [a0,a1]=If H C a0 a1:=by
 refine (M3 H C a0 a1).trans ?_
 unfold If
 all_goals try dsimp only
 all_goals try simp only[bs]
 all_goals cases hc:((a1.s.toList==(⟨#[110]⟩:ByteArray).toList)) with
 | true=>
  try simp only[bs]
  all_goals kernel_rfl
 | false=>
  try simp only[bs]
  all_goals cases hc:((a1.s.toList==(⟨#[98]⟩:ByteArray).toList)) with
  | true=>
   try simp only[bs]
   all_goals kernel_rfl
  | false=>
   try simp only[bs]
   all_goals cases hc:((a1.s.toList==(⟨#[111]⟩:ByteArray).toList)) with
   | true=>
    try simp only[bs]
    all_goals kernel_rfl
   | false=>
    try simp only[bs]
    all_goals refine br fun r1=>?_
    all_goals try simp only[bs]
    all_goals kernel_rfl
theorem Mn (a0 a1:T) (h:Yields (fun k=>If (hl env k G0) (cl env k) a0 a1) r):Yields (fun k=>cl env k ET [a0,a1]) r:=Yields.call (fi:=G0) rfl rfl (fun H C=>Me H C a0 a1) h
noncomputable def bQ (H:HT) (x1 x2 x3 x4 x5:T):R:=H (bS bV.body 0) ([(0,.val 38 x1),(1,.val 3 x2),(2,.val 3 x3),(7,.pref 101 7 []),(8,.val 3 x4)],[(7,⟨101,x5,.fz,true⟩)])
noncomputable abbrev ju (H:HT) (C:aF) (a0 a1 a2:T):R:=
 (fun s0=>
 bif (decide (0≤a1.i)&&decide (a1.i.toNat < a0.es.length)) then
 bif (decide (0≤a2.i)&&decide (a2.i.toNat < ((a0.nth a1.i.toNat).es).length)) then
 obind (C dZ [(s0.fld 0),(T.int (0:Int)),(T.int (15:Int))]) fun r1=>
 bif (!(rt r1 0).b) then
 some [(T.bool false)]
 else
 bif (decide ((((s0.fld 1).es).length:Int) > (3:Int))) then
 some [(T.bool false)]
 else
 bQ H a0 a1 a2 (T.int (0:Int)) s0
 else
 none
 else
 none) ((a0.nth a1.i.toNat).nth a2.i.toNat)
theorem vp (H:HT) (C:aF) (a0 a1 a2:T):bI bV env H C [a0,a1,a2] =
 (fun s0=>
 bif (decide (0≤a1.i)&&decide (a1.i.toNat < a0.es.length)) then
 bif (decide (0≤a2.i)&&decide (a2.i.toNat < ((a0.nth a1.i.toNat).es).length)) then
 obind (C dZ [(s0.fld 0),(T.int (0:Int)),(T.int (15:Int))]) fun r1=>
 (fun s1=>
 bif (s1||(!s1)) then
 bif (s1||(!s1)) then
 bif (((s1&&true)&&true)||(!s1)) then
 bif (bif (!(rt r1 0).b) then true else s1) then
 bif (bif (!(rt r1 0).b) then (T.bool true) else (T.bool (decide ((((s0.fld 1).es).length:Int) > (3:Int))))).b then
 some [(T.bool false)]
 else
 bQ H a0 a1 a2 (T.int (0:Int)) s0
 else
 none
 else
 none
 else
 none
 else
 none) ((!(rt r1 0).b)==false)
 else
 none
 else
 none) ((a0.nth a1.i.toNat).nth a2.i.toNat):=by kernel_rfl
theorem wg (H:HT) (C:aF) (a0 a1 a2:T):bI bV env H C [a0,a1,a2]=ju H C a0 a1 a2:=by
 refine (vp H C a0 a1 a2).trans ?_
 unfold ju
 all_goals try dsimp only
 all_goals try simp only[bs]
 all_goals cases hc:((decide (0≤a1.i)&&decide (a1.i.toNat < a0.es.length))) with
 | true=>
  try simp only[bs]
  all_goals cases hc:((decide (0≤a2.i)&&decide (a2.i.toNat < ((a0.nth a1.i.toNat).es).length))) with
  | true=>
   try simp only[bs]
   all_goals refine br fun r1=>?_
   all_goals try simp only[bs]
   all_goals cases hc:((!(rt r1 0).b)) with
   | true=>
    try simp only[bs]
    all_goals kernel_rfl
   | false=>
    try simp only[bs]
    all_goals cases hc:((decide ((((((a0.nth a1.i.toNat).nth a2.i.toNat).fld 1).es).length:Int) > (3:Int)))) with
    | true=>
     try simp only[bs]
     all_goals kernel_rfl
    | false=>
     try simp only[bs]
     all_goals kernel_rfl
  | false=>
   try simp only[bs]
   all_goals kernel_rfl
 | false=>
  try simp only[bs]
  all_goals kernel_rfl
theorem wv (a0 a1 a2:T) (h:Yields (fun k=>ju (hl env k bV) (cl env k) a0 a1 a2) r):Yields (fun k=>cl env k mh [a0,a1,a2]) r:=Yields.call (fi:=bV) rfl rfl (fun H C=>wg H C a0 a1 a2) h
noncomputable abbrev ft (H:HT) (C:aF) (x1 x2 x3 x4 x5:T):R:=
 (fun s0=>
 (fun s1=>
 (fun s2=>
 (fun s3=>
 (fun s4=>
 bif (decide (x4.i < (((x5.fld 1).es).length:Int))) then
 bif (decide (0≤x4.i)&&decide (x4.i.toNat < ((x5.fld 1).es).length)) then
 obind (C kh [x1,x2,x3,((x5.fld 1).nth x4.i.toNat)]) fun r1=>
 bif (!(rt r1 0).b) then
 some [s2]
 else
 obind (C eD [x1,((x5.fld 1).nth x4.i.toNat)]) fun r2=>
 obind (C bH [(x5.fld 0),(T.int (1:Int))]) fun r3=>
 bif (rt r3 0).b then
 obind (C bH [(rt r2 0),(T.int (1:Int))]) fun r4=>
 bif (!(rt r4 0).b) then
 some [s2]
 else
 obind (C bH [(x5.fld 0),s3]) fun r5=>
 bif (rt r5 0).b then
 obind (C bH [(rt r2 0),s3]) fun r6=>
 bif (!(rt r6 0).b) then
 some [s2]
 else
 bif s1 then
 obind (C bH [(rt r2 0),s4]) fun r7=>
 bif (!(rt r7 0).b) then
 some [s2]
 else
 bQ H x1 x2 x3 s0 x5
 else
 bQ H x1 x2 x3 s0 x5
 else
 bif s1 then
 obind (C bH [(rt r2 0),s4]) fun r6=>
 bif (!(rt r6 0).b) then
 some [s2]
 else
 bQ H x1 x2 x3 s0 x5
 else
 bQ H x1 x2 x3 s0 x5
 else
 obind (C bH [(x5.fld 0),s3]) fun r4=>
 bif (rt r4 0).b then
 obind (C bH [(rt r2 0),s3]) fun r5=>
 bif (!(rt r5 0).b) then
 some [s2]
 else
 bif s1 then
 obind (C bH [(rt r2 0),s4]) fun r6=>
 bif (!(rt r6 0).b) then
 some [s2]
 else
 bQ H x1 x2 x3 s0 x5
 else
 bQ H x1 x2 x3 s0 x5
 else
 bif s1 then
 obind (C bH [(rt r2 0),s4]) fun r5=>
 bif (!(rt r5 0).b) then
 some [s2]
 else
 bQ H x1 x2 x3 s0 x5
 else
 bQ H x1 x2 x3 s0 x5
 else
 none
 else
 some [(T.bool true)]) (T.int (4:Int))) (T.int (2:Int))) (T.bool false)) (decide ((x5.fld 0).i≥(4:Int)))) (T.int (IntKind.wrap .i64 (x4.i+(1:Int))))
theorem tK (H:HT) (C:aF) (x1 x2 x3 x4 x5:T):iU bV env H C (bS bV.body 0) ([(0,.val 38 x1),(1,.val 3 x2),(2,.val 3 x3),(7,.pref 101 7 []),(8,.val 3 x4)],[(7,⟨101,x5,.fz,true⟩)]) =
 (fun s0=>
 (fun s1=>
 (fun s2=>
 (fun s3=>
 bif (decide (x4.i < (((x5.fld 1).es).length:Int))) then
 bif s2 then
 obind (C kh [x1,x2,x3,((x5.fld 1).nth x4.i.toNat)]) fun r1=>
 bif (!(rt r1 0).b) then
 some [s0]
 else
 bif s2 then
 obind (C eD [x1,((x5.fld 1).nth x4.i.toNat)]) fun r2=>
 obind (C bH [(x5.fld 0),(T.int (1:Int))]) fun r3=>
 (fun s4=>
 bif ((s4&&true)||(!s4)) then
 obind ((bif s4 then C bH [(rt r2 0),(T.int (1:Int))] else some [])) fun r4=>
 (fun s5=>
 (fun s6=>
 bif (s4||(!s4)) then
 bif (bif (rt r3 0).b then s4 else true) then
 bif (s5||(!s5)) then
 bif ((s5&&true)||(!s5)) then
 obind ((bif s5 then C bH [(x5.fld 0),(T.int (2:Int))] else some [])) fun r5=>
 (fun s7=>
 bif (s5||(!s5)) then
 bif ((s7&&true)||(!s7)) then
 obind ((bif s7 then C bH [(rt r2 0),(T.int (2:Int))] else some [])) fun r6=>
 bif (s7||(!s7)) then
 bif ((s5&&(bif (rt r5 0).b then s7 else true))||(!s5)) then
 bif (bif s6.b then true else s5) then
 bif (bif s6.b then (T.bool true) else (bif (rt r5 0).b then (T.bool (!(rt r6 0).b)) else s0)).b then
 some [s0]
 else
 bif ((s3&&true)||(!s3)) then
 obind ((bif s3 then C bH [(rt r2 0),(T.int (4:Int))] else some [])) fun r7=>
 bif (s3||(!s3)) then
 bif (bif s1 then s3 else true) then
 bif (bif s1 then (T.bool (!(rt r7 0).b)) else s0).b then
 some [s0]
 else
 bQ H x1 x2 x3 (T.int (IntKind.wrap .i64 (x4.i+(1:Int)))) x5
 else
 none
 else
 none
 else
 none
 else
 none
 else
 none
 else
 none
 else
 none
 else
 none) (s5&&((rt r5 0).b==true))
 else
 none
 else
 none
 else
 none
 else
 none) (bif (rt r3 0).b then (T.bool (!(rt r4 0).b)) else s0)) ((bif (rt r3 0).b then (T.bool (!(rt r4 0).b)) else s0).b==false)
 else
 none) ((rt r3 0).b==true)
 else
 none
 else
 none
 else
 some [(T.bool true)]) (s1==true)) (decide (0≤x4.i)&&decide (x4.i.toNat < ((x5.fld 1).es).length))) (decide ((x5.fld 0).i≥(4:Int)))) (T.bool false):=by kernel_rfl
theorem tR (H:HT) (C:aF) (x1 x2 x3 x4 x5:T):iU bV env H C (bS bV.body 0) ([(0,.val 38 x1),(1,.val 3 x2),(2,.val 3 x3),(7,.pref 101 7 []),(8,.val 3 x4)],[(7,⟨101,x5,.fz,true⟩)])=ft H C x1 x2 x3 x4 x5:=by
 refine (tK H C x1 x2 x3 x4 x5).trans ?_
 unfold ft
 all_goals try dsimp only
 all_goals try simp only[bs]
 all_goals cases hc:((decide (x4.i < (((x5.fld 1).es).length:Int)))) with
 | true=>
  try simp only[bs]
  all_goals cases hc:((decide (0≤x4.i)&&decide (x4.i.toNat < ((x5.fld 1).es).length))) with
  | true=>
   try simp only[bs]
   all_goals refine br fun r1=>?_
   all_goals try simp only[bs]
   all_goals cases hc:((!(rt r1 0).b)) with
   | true=>
    try simp only[bs]
    all_goals kernel_rfl
   | false=>
    try simp only[bs]
    all_goals refine br fun r2=>?_
    all_goals try simp only[bs]
    all_goals refine br fun r3=>?_
    all_goals try simp only[bs]
    all_goals cases hc:((rt r3 0).b) with
    | true=>
     try simp only[bs]
     all_goals refine br fun r4=>?_
     all_goals try simp only[bs]
     all_goals cases hc:((!(rt r4 0).b)) with
     | true=>
      try simp only[bs]
      all_goals cases hc:((T.int (0:Int)).b) with
      | true=>
       try simp only[bs]
       all_goals kernel_rfl
      | false=>
       try simp only[bs]
       all_goals kernel_rfl
     | false=>
      try simp only[bs]
      all_goals refine br fun r5=>?_
      all_goals try simp only[bs]
      all_goals cases hc:((rt r5 0).b) with
      | true=>
       try simp only[bs]
       all_goals refine br fun r6=>?_
       all_goals try simp only[bs]
       all_goals cases hc:((!(rt r6 0).b)) with
       | true=>
        try simp only[bs]
        all_goals kernel_rfl
       | false=>
        try simp only[bs]
        all_goals cases hc:((decide ((x5.fld 0).i≥(4:Int)))) with
        | true=>
         try simp only[bs]
         all_goals refine br fun r7=>?_
         all_goals try simp only[bs]
         all_goals cases hc:((!(rt r7 0).b)) with
         | true=>
          try simp only[bs]
          all_goals kernel_rfl
         | false=>
          try simp only[bs]
          all_goals kernel_rfl
        | false=>
         try simp only[bs]
         all_goals kernel_rfl
      | false=>
       try simp only[bs]
       all_goals cases hc:((decide ((x5.fld 0).i≥(4:Int)))) with
       | true=>
        try simp only[bs]
        all_goals refine br fun r6=>?_
        all_goals try simp only[bs]
        all_goals cases hc:((!(rt r6 0).b)) with
        | true=>
         try simp only[bs]
         all_goals kernel_rfl
        | false=>
         try simp only[bs]
         all_goals kernel_rfl
       | false=>
        try simp only[bs]
        all_goals kernel_rfl
    | false=>
     try simp only[bs]
     all_goals refine br fun r4=>?_
     all_goals try simp only[bs]
     all_goals cases hc:((rt r4 0).b) with
     | true=>
      try simp only[bs]
      all_goals refine br fun r5=>?_
      all_goals try simp only[bs]
      all_goals cases hc:((!(rt r5 0).b)) with
      | true=>
       try simp only[bs]
       all_goals kernel_rfl
      | false=>
       try simp only[bs]
       all_goals cases hc:((decide ((x5.fld 0).i≥(4:Int)))) with
       | true=>
        try simp only[bs]
        all_goals refine br fun r6=>?_
        all_goals try simp only[bs]
        all_goals cases hc:((!(rt r6 0).b)) with
        | true=>
         try simp only[bs]
         all_goals kernel_rfl
        | false=>
         try simp only[bs]
         all_goals kernel_rfl
       | false=>
        try simp only[bs]
        all_goals kernel_rfl
     | false=>
      try simp only[bs]
      all_goals cases hc:((decide ((x5.fld 0).i≥(4:Int)))) with
      | true=>
       try simp only[bs]
       all_goals refine br fun r5=>?_
       all_goals try simp only[bs]
       all_goals cases hc:((!(rt r5 0).b)) with
       | true=>
        try simp only[bs]
        all_goals kernel_rfl
       | false=>
        try simp only[bs]
        all_goals kernel_rfl
      | false=>
       try simp only[bs]
       all_goals kernel_rfl
  | false=>
   try simp only[bs]
   all_goals kernel_rfl
 | false=>
  try simp only[bs]
  all_goals kernel_rfl
theorem pg (x1 x2 x3 x4 x5:T) (h:Yields (fun k=>ft (hl env k bV) (cl env k) x1 x2 x3 x4 x5) r):Yields (fun k=>bQ (hl env k bV) x1 x2 x3 x4 x5) r:=Yields.head (fun H C=>tR H C x1 x2 x3 x4 x5) h
noncomputable abbrev tZ (H:HT) (C:aF) (a0:T):R:=
 (fun s0=>
 obind (C bO [a0]) fun r1=>
 bif (rt r1 0).b then
 bif (decide (0≤(1:Int))&&(decide ((1:Int)≤s0)&&(decide (s0≤s0)&&decide (s0≤s0)))) then
 some [(T.str (a0.s.extract 1 a0.s.size))]
 else
 none
 else
 some [a0]) (a0.s.size:Int)
theorem Ai (a0:T) (h:Yields (fun k=>tZ (hl env k mJ) (cl env k) a0) r):Yields (fun k=>cl env k cx [a0]) r:=Yields.ca (tZ · · a0) h (by kernel_rfl)
noncomputable abbrev ID (H:HT) (C:aF) (a0:T):R:=
 (fun s0=>
 (fun s1=>
 bif ((a0.s.size:Int) != (3:Int)) then
 some [s0,s0,s1]
 else
 bif (decide (0≤(0:Int))&&decide (0 < a0.s.size)) then
 bif ((a0.s.data.getD 0 0).toNat != (83:Int)) then
 some [s0,s0,s1]
 else
 bif (decide (0≤(1:Int))&&decide (1 < a0.s.size)) then
 bif (decide ((a0.s.data.getD 1 0).toNat < (48:Int))) then
 some [s0,s0,s1]
 else
 bif (decide (0≤(1:Int))&&decide (1 < a0.s.size)) then
 bif (decide ((a0.s.data.getD 1 0).toNat > (57:Int))) then
 some [s0,s0,s1]
 else
 bif (decide (0≤(2:Int))&&decide (2 < a0.s.size)) then
 bif (decide ((a0.s.data.getD 2 0).toNat < (48:Int))) then
 some [s0,s0,s1]
 else
 bif (decide (0≤(2:Int))&&decide (2 < a0.s.size)) then
 bif (decide ((a0.s.data.getD 2 0).toNat > (57:Int))) then
 some [s0,s0,s1]
 else
 bif (decide (0≤(1:Int))&&decide (1 < a0.s.size)) then
 bif (decide (0≤(2:Int))&&decide (2 < a0.s.size)) then
 some [(T.int (IntKind.wrap .i64 (IntKind.wrap .u8 ((a0.s.data.getD 1 0).toNat - (48:Int))))),(T.int (IntKind.wrap .i64 (IntKind.wrap .u8 ((a0.s.data.getD 2 0).toNat - (48:Int))))),(T.bool true)]
 else
 none
 else
 none
 else
 none
 else
 none
 else
 none
 else
 none
 else
 none) (T.bool false)) (T.int (0:Int))
theorem MY (a0:T) (h:Yields (fun k=>ID (hl env k Gj) (cl env k) a0) r):Yields (fun k=>cl env k Fu [a0]) r:=Yields.ca (ID · · a0) h (by kernel_rfl)
noncomputable abbrev K6 (H:HT) (C:aF) (a0 a1:T):R:=
 obind (C IB [a1]) fun r1=>
 bif (((rt r1 0).s).toList==(⟨#[38]⟩:ByteArray).toList) then
 some [(T.int (3:Int))]
 else
 bif (((rt r1 0).s).toList==(⟨#[33]⟩:ByteArray).toList) then
 some [(T.int (2:Int))]
 else
 obind (C ER [a0,(rt r1 1)]) fun r2=>
 bif (rt r2 0).b then
 obind (C F3 [a0,(rt r1 1)]) fun r3=>
 some [((rt r3 0).fld 0)]
 else
 some [(T.int (7:Int))]
theorem MM (H:HT) (C:aF) (a0 a1:T):bI Ha env H C [a0,a1]=K6 H C a0 a1:=by kernel_rfl
theorem MX (a0 a1:T) (h:Yields (fun k=>K6 (hl env k Ha) (cl env k) a0 a1) r):Yields (fun k=>cl env k Ft [a0,a1]) r:=Yields.call (fi:=Ha) rfl rfl (fun H C=>MM H C a0 a1) h
noncomputable abbrev oP (H:HT) (C:aF) (a0 a1 a2 a3 a4 a5:T):R:=
 obind (C nd [a4]) fun r1=>
 obind (C lv [(T.st [a0,a1,a2,a3,(T.st [((rt r1 0).fld 0),((rt r1 0).fld 1)]),(T.int (0:Int))]),a5]) fun r2=>
 (fun s0=>
 bif ((s0.fld 5).i != (0:Int)) then
 some [(T.st [(T.sl []),(T.sl [])]),(s0.fld 5)]
 else
 some [(T.st [((s0.fld 4).fld 0),((s0.fld 4).fld 1)]),(T.int (0:Int))]) (rt (r2.drop 0) 0)
theorem yv (a0 a1 a2 a3 a4 a5:T) (h:Yields (fun k=>oP (hl env k nI) (cl env k) a0 a1 a2 a3 a4 a5) r):Yields (fun k=>cl env k dG [a0,a1,a2,a3,a4,a5]) r:=Yields.ca (oP · · a0 a1 a2 a3 a4 a5) h (by kernel_rfl)
noncomputable abbrev oM (H:HT) (C:aF) (a0:T):R:=
 bif (decide (([]:List T).length+((a0.fld 1).es).length≤LIM)) then
 some [(T.st [(a0.fld 0),(T.sl (([]:List T)++(a0.fld 1).es))])]
 else
 none
theorem yr (a0:T) (h:Yields (fun k=>oM (hl env k nG) (cl env k) a0) r):Yields (fun k=>cl env k oE [a0]) r:=Yields.ca (oM · · a0) h (by kernel_rfl)
noncomputable def n7 (H:HT) (x1 x2 x3 x4 x5 x6:T):R:=H (bS cn.body 0) ([(0,.val 9 x1),(2,.pref 30 2 []),(4,.pref 30 4 []),(5,.sref 31 5 []),(6,.val 4 x2),(7,.val 3 x3)],[(2,⟨30,x4,.dp,true⟩),(4,⟨30,x5,(.st [.dp,.dp,.dp]),true⟩),(5,⟨31,x6,.dp,false⟩)])
noncomputable def jp (H:HT) (x1 x2 x3 x4 x5 x6:T):R:=H (bS cn.body 0) ([(0,.val 9 x1),(2,.pref 30 2 []),(4,.pref 30 4 []),(5,.sref 31 5 []),(6,.val 4 x2),(7,.val 3 x3)],[(2,⟨30,x4,.dp,true⟩),(4,⟨30,x5,(.st [(.sl (.st [.dp,.fz])),(.sl (.st [.dp,.fz,.fz,.fz,.fz,.dp])),.fz]),true⟩),(5,⟨31,x6,.dp,false⟩)])
noncomputable abbrev kz (H:HT) (C:aF) (a0:T):R:=
 (fun s0=>
 bif (decide ((a0.s.size:Int) > (4000:Int))) then
 some [s0,(T.bool false)]
 else
 obind (C qZ [a0]) fun r1=>
 n7 H a0 (rt r1 1) (T.int (0:Int)) s0 s0 (rt r1 0)) (T.st [(T.sl []),(T.sl []),(T.sl [])])
theorem tU (a0:T) (h:Yields (fun k=>kz (hl env k cn) (cl env k) a0) r):Yields (fun k=>cl env k p9 [a0]) r:=Yields.ca (kz · · a0) h (by kernel_rfl)
noncomputable abbrev eK (H:HT) (C:aF) (x1 x2 x3 x4 x5 x6:T):R:=
 (fun s0=>
 (fun s1=>
 bif (decide (x3.i < (x6.es.length:Int))) then
 bif x2.b then
 bif (decide (0≤x3.i)&&decide (x3.i.toNat < x6.es.length)) then
 obind (C aI [s0,(x6.nth x3.i.toNat)]) fun r1=>
 jp H x1 (rt r1 1) (T.int (IntKind.wrap .i64 (x3.i+(1:Int)))) x4 (T.st [((rt r1 0).fld 0),((rt r1 0).fld 1),((rt r1 0).fld 2)]) x6
 else
 none
 else
 bif (!x2.b) then
 some [s1,(T.bool false)]
 else
 obind (C eA [s0]) fun r2=>
 bif (!(((rt r2 0).s).toList==x1.s.toList)) then
 some [s1,(T.bool false)]
 else
 some [s0,(T.bool true)]
 else
 bif (!x2.b) then
 some [s1,(T.bool false)]
 else
 obind (C eA [s0]) fun r3=>
 bif (!(((rt r3 0).s).toList==x1.s.toList)) then
 some [s1,(T.bool false)]
 else
 some [s0,(T.bool true)]) (T.st [(T.sl []),(T.sl []),(T.sl [])])) (T.st [(x5.fld 0),(x5.fld 1),(x5.fld 2)])
theorem sq (x1 x2 x3 x4 x5 x6:T) (h:Yields (fun k=>eK (hl env k cn) (cl env k) x1 x2 x3 x4 x5 x6) r):Yields (fun k=>n7 (hl env k cn) x1 x2 x3 x4 x5 x6) r:=Yields.hd (eK · · x1 x2 x3 x4 x5 x6) h (by kernel_rfl)
noncomputable abbrev mZ (H:HT) (C:aF) (x1 x2 x3 x4 x5 x6:T):R:=eK H C x1 x2 x3 x4 x5 x6
theorem sr (x1 x2 x3 x4 x5 x6:T) (h:Yields (fun k=>mZ (hl env k cn) (cl env k) x1 x2 x3 x4 x5 x6) r):Yields (fun k=>jp (hl env k cn) x1 x2 x3 x4 x5 x6) r:=Yields.hd (mZ · · x1 x2 x3 x4 x5 x6) h (by kernel_rfl)
noncomputable def dU (H:HT) (x1 x2 x3 x4 x5:T):R:=H (bS cj.body 0) ([(0,.pref 94 100000 []),(2,.val 3 x1),(6,.pref 34 6 []),(7,.pref 34 7 []),(9,.val 3 x2)],[(100000,⟨94,x3,(.st [.fo,.dp]),true⟩),(6,⟨34,x4,.dp,true⟩),(7,⟨34,x5,(.st [.dp,.dp,.dp,.dp,.dp,.dp]),true⟩)])
noncomputable def eX (H:HT) (x1 x2 x3 x4 x5:T):R:=H (bS cj.body 0) ([(0,.pref 94 100000 []),(2,.val 3 x1),(6,.pref 34 6 []),(7,.pref 34 7 []),(9,.val 3 x2)],[(100000,⟨94,x3,(.st [.fo,.dp]),true⟩),(6,⟨34,x4,.dp,true⟩),(7,⟨34,x5,(.st [.dp,.dp,.dp,.dp,(.sl .dp),.dp]),true⟩)])
noncomputable abbrev lM (H:HT) (C:aF) (a0 a1 a2:T):R:=
 (fun s0=>
 (fun s1=>
 (fun s2=>
 (fun s3=>
 obind (C dH [a0,(T.sl [s1,s1,s1,s2,(T.int (1:Int))])]) fun r1=>
 bif (decide ((rt r1 0).i < (2:Int))) then
 obind (C cP [(rt (r1.drop 1) 0),a1,s1,(T.bool true)]) fun r2=>
 obind (C cP [(rt (r2.drop 1) 0),a1,s3,(T.bool true)]) fun r3=>
 obind (C aG [(rt (r3.drop 1) 0),s3]) fun r4=>
 obind (C cP [(rt (r4.drop 1) 0),a1,s1,(T.bool ((rt r4 0).i==(0:Int)))]) fun r5=>
 dU H a2 s2 (rt (r5.drop 1) 0) s0 (T.st [(rt r1 0),(rt r2 0),(rt r5 0),(rt r3 0),(T.sl []),(T.sl [])])
 else
 obind (C aG [(rt (r1.drop 1) 0),(T.int (4:Int))]) fun r6=>
 obind (C cP [(rt (r6.drop 1) 0),a1,s1,(T.bool ((rt r6 0).i==(0:Int)))]) fun r7=>
 obind (C cP [(rt (r7.drop 1) 0),a1,s3,(T.bool true)]) fun r8=>
 bif ((rt r6 0).i==(0:Int)) then
 obind (C aG [(rt (r8.drop 1) 0),s3]) fun r9=>
 obind (C cP [(rt (r9.drop 1) 0),a1,s1,(T.bool ((rt r9 0).i==(0:Int)))]) fun r10=>
 dU H a2 s2 (rt (r10.drop 1) 0) s0 (T.st [(rt r1 0),(rt r7 0),(rt r10 0),(rt r8 0),(T.sl []),(T.sl [])])
 else
 obind (C cP [(rt (r8.drop 1) 0),a1,s1,(T.bool false)]) fun r11=>
 dU H a2 s2 (rt (r11.drop 1) 0) s0 (T.st [(rt r1 0),(rt r7 0),(rt r11 0),(rt r8 0),(T.sl []),(T.sl [])])) (T.int (3:Int))) (T.int (0:Int))) (T.int (2:Int))) (T.st [(T.int (0:Int)),(T.sl []),(T.sl []),(T.sl []),(T.sl []),(T.sl [])])
theorem Lu (a0 a1 a2:T) (h:Yields (fun k=>lM (hl env k cj) (cl env k) a0 a1 a2) r):Yields (fun k=>cl env k iy [a0,a1,a2]) r:=Yields.ca (lM · · a0 a1 a2) h (by kernel_rfl)
noncomputable abbrev gq (H:HT) (C:aF) (x1 x2 x3 x4 x5:T):R:=
 (fun s0=>
 (fun s1=>
 bif (decide (x2.i < x1.i)) then
 obind (C aG [x3,(T.int (3:Int))]) fun r1=>
 bif (decide ((rt r1 0).i > (0:Int))) then
 bif (decide (((x5.fld 4).es).length + [x2].length≤LIM)) then
 eX H x1 s1 (rt (r1.drop 1) 0) x4 (T.st (x5.fs.set 4 (T.sl ((x5.fld 4).es ++ [x2]))))
 else
 none
 else
 dU H x1 s1 (rt (r1.drop 1) 0) x4 x5
 else
 some [(T.st [(s0.fld 0),(s0.fld 1),(s0.fld 2),(s0.fld 3),(s0.fld 4),(s0.fld 5)]),x3]) (T.int (IntKind.wrap .i64 (x2.i+(1:Int))))) (T.st (x5.fs.set 5 (T.sl [(T.st [(T.str bE),(T.int (1:Int)),(T.int (0:Int))]),(T.st [(T.str bm),(T.int (0:Int)),(T.int (0:Int))])])))
theorem Sr (x1 x2 x3 x4 x5:T) (h:Yields (fun k=>gq (hl env k cj) (cl env k) x1 x2 x3 x4 x5) r):Yields (fun k=>dU (hl env k cj) x1 x2 x3 x4 x5) r:=Yields.hd (gq · · x1 x2 x3 x4 x5) h (by kernel_rfl)
noncomputable abbrev gr (H:HT) (C:aF) (x1 x2 x3 x4 x5:T):R:=
 (fun s0=>
 (fun s1=>
 bif (decide (x2.i < x1.i)) then
 obind (C aG [x3,(T.int (3:Int))]) fun r1=>
 bif (decide ((rt r1 0).i > (0:Int))) then
 bif (decide (((x5.fld 4).es).length + [x2].length≤LIM)) then
 eX H x1 s1 (rt (r1.drop 1) 0) x4 (T.st (x5.fs.set 4 (T.sl ((x5.fld 4).es ++ [x2]))))
 else
 none
 else
 eX H x1 s1 (rt (r1.drop 1) 0) x4 x5
 else
 some [(T.st [(s0.fld 0),(s0.fld 1),(s0.fld 2),(s0.fld 3),(s0.fld 4),(s0.fld 5)]),x3]) (T.int (IntKind.wrap .i64 (x2.i+(1:Int))))) (T.st (x5.fs.set 5 (T.sl [(T.st [(T.str bE),(T.int (1:Int)),(T.int (0:Int))]),(T.st [(T.str bm),(T.int (0:Int)),(T.int (0:Int))])])))
theorem oz (x1 x2 x3 x4 x5:T) (h:Yields (fun k=>gr (hl env k cj) (cl env k) x1 x2 x3 x4 x5) r):Yields (fun k=>eX (hl env k cj) x1 x2 x3 x4 x5) r:=Yields.hd (gr · · x1 x2 x3 x4 x5) h (by kernel_rfl)
noncomputable def dO (H:HT) (x1 x2 x3 x4 x5 x6 x7 x8:T):R:=H (bS bp.body 0) ([(0,.pref 94 100000 []),(1,.val 23 x1),(2,.val 3 x2),(7,.pref 34 7 []),(9,.val 38 x3),(10,.pref 43 10 []),(11,.sref 32 11 []),(12,.val 3 x4)],[(100000,⟨94,x5,(.st [.fo,.dp]),true⟩),(7,⟨34,x6,.fz,true⟩),(10,⟨43,x7,(.st [.dp,.dp]),true⟩),(11,⟨32,x8,(.sl .dp),false⟩)])
noncomputable def aW (H:HT) (x1 x2 x3 x4 x5 x6 x7 x8:T):R:=H (bS bp.body 0) ([(0,.pref 94 100000 []),(1,.val 23 x1),(2,.val 3 x2),(7,.pref 34 7 []),(9,.val 38 x3),(10,.pref 43 10 []),(11,.sref 32 11 []),(12,.val 3 x4)],[(100000,⟨94,x5,(.st [.fo,.dp]),true⟩),(7,⟨34,x6,.fz,true⟩),(10,⟨43,x7,(.st [(.sl (.st [.dp,.fz])),(.sl (.st [.dp,.fz]))]),true⟩),(11,⟨32,x8,(.sl .dp),false⟩)])
noncomputable def cG (H:HT) (x1 x2 x3 x4 x5 x6 x7 x8:T):R:=H (bS bp.body 0) ([(0,.pref 94 100000 []),(1,.val 23 x1),(2,.val 3 x2),(7,.pref 34 7 []),(9,.val 38 x3),(10,.pref 43 10 []),(11,.sref 32 11 []),(12,.val 3 x4)],[(100000,⟨94,x5,(.st [.fo,.dp]),true⟩),(7,⟨34,x6,.fz,true⟩),(10,⟨43,x7,(.st [.fz,.fz]),true⟩),(11,⟨32,x8,(.sl .dp),false⟩)])
noncomputable def bg (H:HT) (x1 x2 x3 x4 x5 x6 x7 x8:T):R:=H (bS bp.body 0) ([(0,.pref 94 100000 []),(1,.val 23 x1),(2,.val 3 x2),(7,.pref 34 7 []),(9,.val 38 x3),(10,.pref 43 10 []),(11,.sref 32 11 []),(12,.val 3 x4)],[(100000,⟨94,x5,(.st [.fo,.dp]),true⟩),(7,⟨34,x6,.fz,true⟩),(10,⟨43,x7,.fz,true⟩),(11,⟨32,x8,(.sl .dp),false⟩)])
noncomputable abbrev nu (H:HT) (C:aF) (a0 a1 a2 a3:T):R:=
 obind (C d9 [a1]) fun r1=>
 obind (C nc [a3]) fun r2=>
 obind (C aG [a0,(T.int (50:Int))]) fun r3=>
 dO H a1 a2 (rt r1 0) (T.int (IntKind.wrap .i64 ((6:Int)+(rt r3 0).i))) (rt (r3.drop 1) 0) a3 (T.st [((rt r2 0).fld 0),((rt r2 0).fld 1)]) (T.sl [])
theorem xu (a0 a1 a2 a3:T) (h:Yields (fun k=>nu (hl env k bp) (cl env k) a0 a1 a2 a3) r):Yields (fun k=>cl env k ng [a0,a1,a2,a3]) r:=Yields.ca (nu · · a0 a1 a2 a3) h (by kernel_rfl)
noncomputable abbrev iI (H:HT) (C:aF) (x1 x2 x3 x4 x5 x6 x7 x8:T):R:=
 (fun s0=>
 (fun s1=>
 (fun s2=>
 (fun s3=>
 (fun s4=>
 (fun s5=>
 bif (decide (x4.i > (0:Int))) then
 bif (decide ((x8.es.length:Int) < (20:Int))) then
 obind (C fp [x5]) fun r1=>
 (fun s6=>
 (fun s7=>
 (fun s8=>
 bif (s8.toList==Ko.toList) then
 dO H x1 x2 x3 s0 s7 x6 x7 x8
 else
 bif (s8.toList==dz.toList) then
 dO H x1 x2 x3 s0 s7 x6 x7 x8
 else
 bif (s8.toList==o8.toList) then
 dO H x1 x2 x3 s0 s7 x6 x7 x8
 else
 bif (s8.toList==bm.toList) then
 dO H x1 x2 x3 s0 s7 x6 x7 x8
 else
 obind (C dG [x1,x3,x2,x6,x7,(rt r1 0)]) fun r2=>
 (fun s9=>
 (fun s10=>
 (fun s11=>
 bif ((rt r2 1).i==(0:Int)) then
 bif (decide (x8.es.length + [(rt r1 0)].length≤LIM)) then
 bif (decide (((s10.es).length:Int) > (0:Int))) then
 bif (decide (0≤s9)&&decide (s9.toNat < (s10.es).length)) then
 bif ((((s10.nth (s9.toNat)).fld 0).s).toList==k_b.toList) then
 obind (C aG [s7,(T.int (4:Int))]) fun r3=>
 bif ((rt r3 0).i==(0:Int)) then
 bif (decide ((s6.length:Int) < (17:Int))) then
 obind (C aG [(rt (r3.drop 1) 0),(T.int (5:Int))]) fun r4=>
 bif (decide (s6.length + [(T.st [(T.str dz),(T.int (IntKind.wrap .i64 ((s6.length:Int)+(3:Int)))),s2]),(T.st [(T.str bE),(rt r4 0),s2]),s4].length≤LIM)) then
 bif (decide (0≤(0:Int))&&(decide ((0:Int)≤s9)&&(decide (s9≤((s10.es).length:Int))&&decide (((s10.es).length:Int)≤((s10.es).length:Int))))) then
 aW H x1 x2 x3 s0 (rt (r4.drop 1) 0) x6 (T.st [(T.sl (((s10.es).take (s9.toNat)).drop 0)),((rt r2 0).fld 1)]) (T.sl (s6 ++ [(T.st [(T.str dz),(T.int (IntKind.wrap .i64 ((s6.length:Int)+(3:Int)))),s2]),(T.st [(T.str bE),(rt r4 0),s2]),s4]))
 else
 none
 else
 none
 else
 aW H x1 x2 x3 s0 (rt (r3.drop 1) 0) x6 s11 (T.sl s6)
 else
 aW H x1 x2 x3 s0 (rt (r3.drop 1) 0) x6 s11 (T.sl s6)
 else
 aW H x1 x2 x3 s0 s7 x6 s11 (T.sl s6)
 else
 none
 else
 aW H x1 x2 x3 s0 s7 x6 s11 (T.sl s6)
 else
 none
 else
 bif (decide (s5 > (0:Int))) then
 bif (decide (0≤s1)&&decide (s1.toNat < ((x7.fld 0).es).length)) then
 bif (((((x7.fld 0).nth (s1.toNat)).fld 0).s).toList==k_b.toList) then
 obind (C aG [s7,(T.int (4:Int))]) fun r5=>
 bif ((rt r5 0).i==(0:Int)) then
 bif (decide ((x8.es.length:Int) < (17:Int))) then
 obind (C aG [(rt (r5.drop 1) 0),(T.int (5:Int))]) fun r6=>
 bif (decide (x8.es.length + [s3,(T.st [(T.str bE),(rt r6 0),s2]),s4].length≤LIM)) then
 bif (decide (0≤(0:Int))&&(decide ((0:Int)≤s1)&&(decide (s1≤s5)&&decide (s5≤s5)))) then
 cG H x1 x2 x3 s0 (rt (r6.drop 1) 0) x6 (T.st (x7.fs.set 0 (T.sl ((((x7.fld 0).es).take (s1.toNat)).drop 0)))) (T.sl (x8.es ++ [s3,(T.st [(T.str bE),(rt r6 0),s2]),s4]))
 else
 none
 else
 none
 else
 bg H x1 x2 x3 s0 (rt (r5.drop 1) 0) x6 x7 x8
 else
 bg H x1 x2 x3 s0 (rt (r5.drop 1) 0) x6 x7 x8
 else
 bg H x1 x2 x3 s0 s7 x6 x7 x8
 else
 none
 else
 bg H x1 x2 x3 s0 s7 x6 x7 x8) (T.st [s10,((rt r2 0).fld 1)])) ((rt r2 0).fld 0)) (IntKind.wrap .i64 (((((rt r2 0).fld 0).es).length:Int) - (1:Int)))) (((rt r1 0).fld 0).s)) (rt (r1.drop 1) 0)) (x8.es ++ [(rt r1 0)])
 else
 obind (C du [x5,x1,x3,x2,x6,(T.st [(x7.fld 0),(x7.fld 1)]),x8]) fun r7=>
 some [(rt r7 0),(rt (r7.drop 1) 0)]
 else
 obind (C du [x5,x1,x3,x2,x6,(T.st [(x7.fld 0),(x7.fld 1)]),x8]) fun r8=>
 some [(rt r8 0),(rt (r8.drop 1) 0)]) (((x7.fld 0).es).length:Int)) (T.st [(T.str bm),s2,s2])) (T.st [(T.str dz),(T.int (IntKind.wrap .i64 ((x8.es.length:Int)+(3:Int)))),s2])) (T.int (0:Int))) (IntKind.wrap .i64 ((((x7.fld 0).es).length:Int) - (1:Int)))) (T.int (IntKind.wrap .i64 (x4.i - (1:Int))))
theorem qo (x1 x2 x3 x4 x5 x6 x7 x8:T) (h:Yields (fun k=>iI (hl env k bp) (cl env k) x1 x2 x3 x4 x5 x6 x7 x8) r):Yields (fun k=>dO (hl env k bp) x1 x2 x3 x4 x5 x6 x7 x8) r:=Yields.hd (iI · · x1 x2 x3 x4 x5 x6 x7 x8) h (by kernel_rfl)
noncomputable abbrev iJ (H:HT) (C:aF) (x1 x2 x3 x4 x5 x6 x7 x8:T):R:=
 (fun s0=>
 (fun s1=>
 (fun s2=>
 (fun s3=>
 (fun s4=>
 (fun s5=>
 bif (decide (x4.i > (0:Int))) then
 bif (decide ((x8.es.length:Int) < (20:Int))) then
 obind (C fp [x5]) fun r1=>
 (fun s6=>
 (fun s7=>
 (fun s8=>
 bif (s8.toList==Ko.toList) then
 aW H x1 x2 x3 s0 s7 x6 x7 x8
 else
 bif (s8.toList==dz.toList) then
 aW H x1 x2 x3 s0 s7 x6 x7 x8
 else
 bif (s8.toList==o8.toList) then
 aW H x1 x2 x3 s0 s7 x6 x7 x8
 else
 bif (s8.toList==bm.toList) then
 aW H x1 x2 x3 s0 s7 x6 x7 x8
 else
 obind (C dG [x1,x3,x2,x6,x7,(rt r1 0)]) fun r2=>
 (fun s9=>
 (fun s10=>
 (fun s11=>
 bif ((rt r2 1).i==(0:Int)) then
 bif (decide (x8.es.length + [(rt r1 0)].length≤LIM)) then
 bif (decide (((s10.es).length:Int) > (0:Int))) then
 bif (decide (0≤s9)&&decide (s9.toNat < (s10.es).length)) then
 bif ((((s10.nth (s9.toNat)).fld 0).s).toList==k_b.toList) then
 obind (C aG [s7,(T.int (4:Int))]) fun r3=>
 bif ((rt r3 0).i==(0:Int)) then
 bif (decide ((s6.length:Int) < (17:Int))) then
 obind (C aG [(rt (r3.drop 1) 0),(T.int (5:Int))]) fun r4=>
 bif (decide (s6.length + [(T.st [(T.str dz),(T.int (IntKind.wrap .i64 ((s6.length:Int)+(3:Int)))),s2]),(T.st [(T.str bE),(rt r4 0),s2]),s4].length≤LIM)) then
 bif (decide (0≤(0:Int))&&(decide ((0:Int)≤s9)&&(decide (s9≤((s10.es).length:Int))&&decide (((s10.es).length:Int)≤((s10.es).length:Int))))) then
 aW H x1 x2 x3 s0 (rt (r4.drop 1) 0) x6 (T.st [(T.sl (((s10.es).take (s9.toNat)).drop 0)),((rt r2 0).fld 1)]) (T.sl (s6 ++ [(T.st [(T.str dz),(T.int (IntKind.wrap .i64 ((s6.length:Int)+(3:Int)))),s2]),(T.st [(T.str bE),(rt r4 0),s2]),s4]))
 else
 none
 else
 none
 else
 aW H x1 x2 x3 s0 (rt (r3.drop 1) 0) x6 s11 (T.sl s6)
 else
 aW H x1 x2 x3 s0 (rt (r3.drop 1) 0) x6 s11 (T.sl s6)
 else
 aW H x1 x2 x3 s0 s7 x6 s11 (T.sl s6)
 else
 none
 else
 aW H x1 x2 x3 s0 s7 x6 s11 (T.sl s6)
 else
 none
 else
 bif (decide (s5 > (0:Int))) then
 bif (decide (0≤s1)&&decide (s1.toNat < ((x7.fld 0).es).length)) then
 bif (((((x7.fld 0).nth (s1.toNat)).fld 0).s).toList==k_b.toList) then
 obind (C aG [s7,(T.int (4:Int))]) fun r5=>
 bif ((rt r5 0).i==(0:Int)) then
 bif (decide ((x8.es.length:Int) < (17:Int))) then
 obind (C aG [(rt (r5.drop 1) 0),(T.int (5:Int))]) fun r6=>
 bif (decide (x8.es.length + [s3,(T.st [(T.str bE),(rt r6 0),s2]),s4].length≤LIM)) then
 bif (decide (0≤(0:Int))&&(decide ((0:Int)≤s1)&&(decide (s1≤s5)&&decide (s5≤s5)))) then
 cG H x1 x2 x3 s0 (rt (r6.drop 1) 0) x6 (T.st (x7.fs.set 0 (T.sl ((((x7.fld 0).es).take (s1.toNat)).drop 0)))) (T.sl (x8.es ++ [s3,(T.st [(T.str bE),(rt r6 0),s2]),s4]))
 else
 none
 else
 none
 else
 bg H x1 x2 x3 s0 (rt (r5.drop 1) 0) x6 x7 x8
 else
 bg H x1 x2 x3 s0 (rt (r5.drop 1) 0) x6 x7 x8
 else
 bg H x1 x2 x3 s0 s7 x6 x7 x8
 else
 none
 else
 bg H x1 x2 x3 s0 s7 x6 x7 x8) (T.st [s10,((rt r2 0).fld 1)])) ((rt r2 0).fld 0)) (IntKind.wrap .i64 (((((rt r2 0).fld 0).es).length:Int) - (1:Int)))) (((rt r1 0).fld 0).s)) (rt (r1.drop 1) 0)) (x8.es ++ [(rt r1 0)])
 else
 obind (C du [x5,x1,x3,x2,x6,(T.st [(x7.fld 0),(x7.fld 1)]),x8]) fun r7=>
 some [(rt r7 0),(rt (r7.drop 1) 0)]
 else
 obind (C du [x5,x1,x3,x2,x6,(T.st [(x7.fld 0),(x7.fld 1)]),x8]) fun r8=>
 some [(rt r8 0),(rt (r8.drop 1) 0)]) (((x7.fld 0).es).length:Int)) (T.st [(T.str bm),s2,s2])) (T.st [(T.str dz),(T.int (IntKind.wrap .i64 ((x8.es.length:Int)+(3:Int)))),s2])) (T.int (0:Int))) (IntKind.wrap .i64 ((((x7.fld 0).es).length:Int) - (1:Int)))) (T.int (IntKind.wrap .i64 (x4.i - (1:Int))))
theorem qp (x1 x2 x3 x4 x5 x6 x7 x8:T) (h:Yields (fun k=>iJ (hl env k bp) (cl env k) x1 x2 x3 x4 x5 x6 x7 x8) r):Yields (fun k=>aW (hl env k bp) x1 x2 x3 x4 x5 x6 x7 x8) r:=Yields.hd (iJ · · x1 x2 x3 x4 x5 x6 x7 x8) h (by kernel_rfl)
noncomputable abbrev iK (H:HT) (C:aF) (x1 x2 x3 x4 x5 x6 x7 x8:T):R:=
 (fun s0=>
 (fun s1=>
 (fun s2=>
 (fun s3=>
 (fun s4=>
 (fun s5=>
 bif (decide (x4.i > (0:Int))) then
 bif (decide ((x8.es.length:Int) < (20:Int))) then
 obind (C fp [x5]) fun r1=>
 (fun s6=>
 (fun s7=>
 (fun s8=>
 bif (s8.toList==Ko.toList) then
 cG H x1 x2 x3 s0 s7 x6 x7 x8
 else
 bif (s8.toList==dz.toList) then
 cG H x1 x2 x3 s0 s7 x6 x7 x8
 else
 bif (s8.toList==o8.toList) then
 cG H x1 x2 x3 s0 s7 x6 x7 x8
 else
 bif (s8.toList==bm.toList) then
 cG H x1 x2 x3 s0 s7 x6 x7 x8
 else
 obind (C dG [x1,x3,x2,x6,x7,(rt r1 0)]) fun r2=>
 (fun s9=>
 (fun s10=>
 (fun s11=>
 bif ((rt r2 1).i==(0:Int)) then
 bif (decide (x8.es.length + [(rt r1 0)].length≤LIM)) then
 bif (decide (((s10.es).length:Int) > (0:Int))) then
 bif (decide (0≤s9)&&decide (s9.toNat < (s10.es).length)) then
 bif ((((s10.nth (s9.toNat)).fld 0).s).toList==k_b.toList) then
 obind (C aG [s7,(T.int (4:Int))]) fun r3=>
 bif ((rt r3 0).i==(0:Int)) then
 bif (decide ((s6.length:Int) < (17:Int))) then
 obind (C aG [(rt (r3.drop 1) 0),(T.int (5:Int))]) fun r4=>
 bif (decide (s6.length + [(T.st [(T.str dz),(T.int (IntKind.wrap .i64 ((s6.length:Int)+(3:Int)))),s2]),(T.st [(T.str bE),(rt r4 0),s2]),s4].length≤LIM)) then
 bif (decide (0≤(0:Int))&&(decide ((0:Int)≤s9)&&(decide (s9≤((s10.es).length:Int))&&decide (((s10.es).length:Int)≤((s10.es).length:Int))))) then
 aW H x1 x2 x3 s0 (rt (r4.drop 1) 0) x6 (T.st [(T.sl (((s10.es).take (s9.toNat)).drop 0)),((rt r2 0).fld 1)]) (T.sl (s6 ++ [(T.st [(T.str dz),(T.int (IntKind.wrap .i64 ((s6.length:Int)+(3:Int)))),s2]),(T.st [(T.str bE),(rt r4 0),s2]),s4]))
 else
 none
 else
 none
 else
 aW H x1 x2 x3 s0 (rt (r3.drop 1) 0) x6 s11 (T.sl s6)
 else
 aW H x1 x2 x3 s0 (rt (r3.drop 1) 0) x6 s11 (T.sl s6)
 else
 aW H x1 x2 x3 s0 s7 x6 s11 (T.sl s6)
 else
 none
 else
 aW H x1 x2 x3 s0 s7 x6 s11 (T.sl s6)
 else
 none
 else
 bif (decide (s5 > (0:Int))) then
 bif (decide (0≤s1)&&decide (s1.toNat < ((x7.fld 0).es).length)) then
 bif (((((x7.fld 0).nth (s1.toNat)).fld 0).s).toList==k_b.toList) then
 obind (C aG [s7,(T.int (4:Int))]) fun r5=>
 bif ((rt r5 0).i==(0:Int)) then
 bif (decide ((x8.es.length:Int) < (17:Int))) then
 obind (C aG [(rt (r5.drop 1) 0),(T.int (5:Int))]) fun r6=>
 bif (decide (x8.es.length + [s3,(T.st [(T.str bE),(rt r6 0),s2]),s4].length≤LIM)) then
 bif (decide (0≤(0:Int))&&(decide ((0:Int)≤s1)&&(decide (s1≤s5)&&decide (s5≤s5)))) then
 cG H x1 x2 x3 s0 (rt (r6.drop 1) 0) x6 (T.st (x7.fs.set 0 (T.sl ((((x7.fld 0).es).take (s1.toNat)).drop 0)))) (T.sl (x8.es ++ [s3,(T.st [(T.str bE),(rt r6 0),s2]),s4]))
 else
 none
 else
 none
 else
 bg H x1 x2 x3 s0 (rt (r5.drop 1) 0) x6 x7 x8
 else
 bg H x1 x2 x3 s0 (rt (r5.drop 1) 0) x6 x7 x8
 else
 bg H x1 x2 x3 s0 s7 x6 x7 x8
 else
 none
 else
 bg H x1 x2 x3 s0 s7 x6 x7 x8) (T.st [s10,((rt r2 0).fld 1)])) ((rt r2 0).fld 0)) (IntKind.wrap .i64 (((((rt r2 0).fld 0).es).length:Int) - (1:Int)))) (((rt r1 0).fld 0).s)) (rt (r1.drop 1) 0)) (x8.es ++ [(rt r1 0)])
 else
 obind (C du [x5,x1,x3,x2,x6,(T.st [(x7.fld 0),(x7.fld 1)]),x8]) fun r7=>
 some [(rt r7 0),(rt (r7.drop 1) 0)]
 else
 obind (C du [x5,x1,x3,x2,x6,(T.st [(x7.fld 0),(x7.fld 1)]),x8]) fun r8=>
 some [(rt r8 0),(rt (r8.drop 1) 0)]) (((x7.fld 0).es).length:Int)) (T.st [(T.str bm),s2,s2])) (T.st [(T.str dz),(T.int (IntKind.wrap .i64 ((x8.es.length:Int)+(3:Int)))),s2])) (T.int (0:Int))) (IntKind.wrap .i64 ((((x7.fld 0).es).length:Int) - (1:Int)))) (T.int (IntKind.wrap .i64 (x4.i - (1:Int))))
theorem qq (x1 x2 x3 x4 x5 x6 x7 x8:T) (h:Yields (fun k=>iK (hl env k bp) (cl env k) x1 x2 x3 x4 x5 x6 x7 x8) r):Yields (fun k=>cG (hl env k bp) x1 x2 x3 x4 x5 x6 x7 x8) r:=Yields.hd (iK · · x1 x2 x3 x4 x5 x6 x7 x8) h (by kernel_rfl)
noncomputable abbrev iL (H:HT) (C:aF) (x1 x2 x3 x4 x5 x6 x7 x8:T):R:=
 (fun s0=>
 (fun s1=>
 (fun s2=>
 (fun s3=>
 (fun s4=>
 (fun s5=>
 bif (decide (x4.i > (0:Int))) then
 bif (decide ((x8.es.length:Int) < (20:Int))) then
 obind (C fp [x5]) fun r1=>
 (fun s6=>
 (fun s7=>
 (fun s8=>
 bif (s8.toList==Ko.toList) then
 bg H x1 x2 x3 s0 s7 x6 x7 x8
 else
 bif (s8.toList==dz.toList) then
 bg H x1 x2 x3 s0 s7 x6 x7 x8
 else
 bif (s8.toList==o8.toList) then
 bg H x1 x2 x3 s0 s7 x6 x7 x8
 else
 bif (s8.toList==bm.toList) then
 bg H x1 x2 x3 s0 s7 x6 x7 x8
 else
 obind (C dG [x1,x3,x2,x6,x7,(rt r1 0)]) fun r2=>
 (fun s9=>
 (fun s10=>
 (fun s11=>
 bif ((rt r2 1).i==(0:Int)) then
 bif (decide (x8.es.length + [(rt r1 0)].length≤LIM)) then
 bif (decide (((s10.es).length:Int) > (0:Int))) then
 bif (decide (0≤s9)&&decide (s9.toNat < (s10.es).length)) then
 bif ((((s10.nth (s9.toNat)).fld 0).s).toList==k_b.toList) then
 obind (C aG [s7,(T.int (4:Int))]) fun r3=>
 bif ((rt r3 0).i==(0:Int)) then
 bif (decide ((s6.length:Int) < (17:Int))) then
 obind (C aG [(rt (r3.drop 1) 0),(T.int (5:Int))]) fun r4=>
 bif (decide (s6.length + [(T.st [(T.str dz),(T.int (IntKind.wrap .i64 ((s6.length:Int)+(3:Int)))),s2]),(T.st [(T.str bE),(rt r4 0),s2]),s4].length≤LIM)) then
 bif (decide (0≤(0:Int))&&(decide ((0:Int)≤s9)&&(decide (s9≤((s10.es).length:Int))&&decide (((s10.es).length:Int)≤((s10.es).length:Int))))) then
 aW H x1 x2 x3 s0 (rt (r4.drop 1) 0) x6 (T.st [(T.sl (((s10.es).take (s9.toNat)).drop 0)),((rt r2 0).fld 1)]) (T.sl (s6 ++ [(T.st [(T.str dz),(T.int (IntKind.wrap .i64 ((s6.length:Int)+(3:Int)))),s2]),(T.st [(T.str bE),(rt r4 0),s2]),s4]))
 else
 none
 else
 none
 else
 aW H x1 x2 x3 s0 (rt (r3.drop 1) 0) x6 s11 (T.sl s6)
 else
 aW H x1 x2 x3 s0 (rt (r3.drop 1) 0) x6 s11 (T.sl s6)
 else
 aW H x1 x2 x3 s0 s7 x6 s11 (T.sl s6)
 else
 none
 else
 aW H x1 x2 x3 s0 s7 x6 s11 (T.sl s6)
 else
 none
 else
 bif (decide (s5 > (0:Int))) then
 bif (decide (0≤s1)&&decide (s1.toNat < ((x7.fld 0).es).length)) then
 bif (((((x7.fld 0).nth (s1.toNat)).fld 0).s).toList==k_b.toList) then
 obind (C aG [s7,(T.int (4:Int))]) fun r5=>
 bif ((rt r5 0).i==(0:Int)) then
 bif (decide ((x8.es.length:Int) < (17:Int))) then
 obind (C aG [(rt (r5.drop 1) 0),(T.int (5:Int))]) fun r6=>
 bif (decide (x8.es.length + [s3,(T.st [(T.str bE),(rt r6 0),s2]),s4].length≤LIM)) then
 bif (decide (0≤(0:Int))&&(decide ((0:Int)≤s1)&&(decide (s1≤s5)&&decide (s5≤s5)))) then
 cG H x1 x2 x3 s0 (rt (r6.drop 1) 0) x6 (T.st (x7.fs.set 0 (T.sl ((((x7.fld 0).es).take (s1.toNat)).drop 0)))) (T.sl (x8.es ++ [s3,(T.st [(T.str bE),(rt r6 0),s2]),s4]))
 else
 none
 else
 none
 else
 bg H x1 x2 x3 s0 (rt (r5.drop 1) 0) x6 x7 x8
 else
 bg H x1 x2 x3 s0 (rt (r5.drop 1) 0) x6 x7 x8
 else
 bg H x1 x2 x3 s0 s7 x6 x7 x8
 else
 none
 else
 bg H x1 x2 x3 s0 s7 x6 x7 x8) (T.st [s10,((rt r2 0).fld 1)])) ((rt r2 0).fld 0)) (IntKind.wrap .i64 (((((rt r2 0).fld 0).es).length:Int) - (1:Int)))) (((rt r1 0).fld 0).s)) (rt (r1.drop 1) 0)) (x8.es ++ [(rt r1 0)])
 else
 obind (C du [x5,x1,x3,x2,x6,x7,x8]) fun r7=>
 some [(rt r7 0),(rt (r7.drop 1) 0)]
 else
 obind (C du [x5,x1,x3,x2,x6,x7,x8]) fun r8=>
 some [(rt r8 0),(rt (r8.drop 1) 0)]) (((x7.fld 0).es).length:Int)) (T.st [(T.str bm),s2,s2])) (T.st [(T.str dz),(T.int (IntKind.wrap .i64 ((x8.es.length:Int)+(3:Int)))),s2])) (T.int (0:Int))) (IntKind.wrap .i64 ((((x7.fld 0).es).length:Int) - (1:Int)))) (T.int (IntKind.wrap .i64 (x4.i - (1:Int))))
theorem qr (x1 x2 x3 x4 x5 x6 x7 x8:T) (h:Yields (fun k=>iL (hl env k bp) (cl env k) x1 x2 x3 x4 x5 x6 x7 x8) r):Yields (fun k=>bg (hl env k bp) x1 x2 x3 x4 x5 x6 x7 x8) r:=Yields.hd (iL · · x1 x2 x3 x4 x5 x6 x7 x8) h (by kernel_rfl)
noncomputable abbrev oK (H:HT) (C:aF) (a0:T):R:=
 (fun s0=>
 (fun s1=>
 bif ((a0.s.size:Int) != (3:Int)) then
 some [s0,s0,s1]
 else
 bif (decide (0≤(0:Int))&&decide (0 < a0.s.size)) then
 bif ((a0.s.data.getD 0 0).toNat != (83:Int)) then
 some [s0,s0,s1]
 else
 bif (decide (0≤(1:Int))&&decide (1 < a0.s.size)) then
 bif (decide ((a0.s.data.getD 1 0).toNat < (48:Int))) then
 some [s0,s0,s1]
 else
 bif (decide (0≤(1:Int))&&decide (1 < a0.s.size)) then
 bif (decide ((a0.s.data.getD 1 0).toNat > (57:Int))) then
 some [s0,s0,s1]
 else
 bif (decide (0≤(2:Int))&&decide (2 < a0.s.size)) then
 bif (decide ((a0.s.data.getD 2 0).toNat < (48:Int))) then
 some [s0,s0,s1]
 else
 bif (decide (0≤(2:Int))&&decide (2 < a0.s.size)) then
 bif (decide ((a0.s.data.getD 2 0).toNat > (57:Int))) then
 some [s0,s0,s1]
 else
 bif (decide (0≤(1:Int))&&decide (1 < a0.s.size)) then
 bif (decide (0≤(2:Int))&&decide (2 < a0.s.size)) then
 some [(T.int (IntKind.wrap .i64 (IntKind.wrap .u8 ((a0.s.data.getD 1 0).toNat - (48:Int))))),(T.int (IntKind.wrap .i64 (IntKind.wrap .u8 ((a0.s.data.getD 2 0).toNat - (48:Int))))),(T.bool true)]
 else
 none
 else
 none
 else
 none
 else
 none
 else
 none
 else
 none
 else
 none) (T.bool false)) (T.int (0:Int))
theorem yp (a0:T) (h:Yields (fun k=>oK (hl env k ii) (cl env k) a0) r):Yields (fun k=>cl env k cU [a0]) r:=Yields.ca (oK · · a0) h (by kernel_rfl)
noncomputable def I9 (H:HT) (x1 x2 x3 x4:T):R:=H (bS Eg.body 0) ([(1,.pref 82 1 []),(2,.pref 82 2 []),(3,.pref 82 3 []),(4,.val 3 x1)],[(1,⟨82,x2,.fz,true⟩),(2,⟨82,x3,.dp,true⟩),(3,⟨82,x4,(.st [.dp,.dp,.dp,(.sl .dp)]),true⟩)])
noncomputable def Fq (H:HT) (x1 x2 x3 x4:T):R:=H (bS Eg.body 0) ([(1,.pref 82 1 []),(2,.pref 82 2 []),(3,.pref 82 3 []),(4,.val 3 x1)],[(1,⟨82,x2,.fz,true⟩),(2,⟨82,x3,.dp,true⟩),(3,⟨82,x4,(.st [.dp,.dp,(.sl .dp),(.sl .dp)]),true⟩)])
noncomputable abbrev K7 (H:HT) (C:aF) (a0:T):R:=
 bif (decide (([]:List T).length+((a0.fld 3).es).length≤LIM)) then
 I9 H (T.int (0:Int)) a0 (T.st [(T.str (⟨#[]⟩:ByteArray)),(T.int (0:Int)),(T.sl []),(T.sl [])]) (T.st [(a0.fld 0),(a0.fld 1),(T.sl []),(T.sl (([]:List T)++(a0.fld 3).es))])
 else
 none
theorem N3 (a0:T) (h:Yields (fun k=>K7 (hl env k Eg) (cl env k) a0) r):Yields (fun k=>cl env k E7 [a0]) r:=Yields.ca (K7 · · a0) h (by kernel_rfl)
noncomputable abbrev Jo (H:HT) (C:aF) (x1 x2 x3 x4:T):R:=
 bif (decide (x1.i < (((x2.fld 2).es).length:Int))) then
 bif (decide (0≤x1.i)&&decide (x1.i.toNat < ((x2.fld 2).es).length)) then
 obind (C E7 [((x2.fld 2).nth x1.i.toNat)]) fun r1=>
 (fun s0=>
 bif (decide (((x4.fld 2).es).length + [s0].length≤LIM)) then
 Fq H (T.int (IntKind.wrap .i64 (x1.i+(1:Int)))) x2 x3 (T.st (x4.fs.set 2 (T.sl ((x4.fld 2).es ++ [s0]))))
 else
 none) (T.st [((rt r1 0).fld 0),((rt r1 0).fld 1),((rt r1 0).fld 2),((rt r1 0).fld 3)])
 else
 none
 else
 some [(T.st [(x4.fld 0),(x4.fld 1),(x4.fld 2),(x4.fld 3)])]
theorem Jx (x1 x2 x3 x4:T) (h:Yields (fun k=>Jo (hl env k Eg) (cl env k) x1 x2 x3 x4) r):Yields (fun k=>I9 (hl env k Eg) x1 x2 x3 x4) r:=Yields.hd (Jo · · x1 x2 x3 x4) h (by kernel_rfl)
noncomputable abbrev Jp (H:HT) (C:aF) (x1 x2 x3 x4:T):R:=Jo H C x1 x2 x3 x4
theorem Jy (x1 x2 x3 x4:T) (h:Yields (fun k=>Jp (hl env k Eg) (cl env k) x1 x2 x3 x4) r):Yields (fun k=>Fq (hl env k Eg) x1 x2 x3 x4) r:=Yields.hd (Jp · · x1 x2 x3 x4) h (by kernel_rfl)
noncomputable abbrev pR (H:HT) (C:aF) (a0 a1 a2:T):R:=
 bif (decide (a1.i < (a0.es.length:Int))) then
 bif (decide (0≤a1.i)&&decide (a1.i.toNat < a0.es.length)) then
 some [(T.bool (decide (a2.i < (((a0.nth a1.i.toNat).es).length:Int))))]
 else
 none
 else
 some [(T.bool false)]
theorem A0 (a0 a1 a2:T) (h:Yields (fun k=>pR (hl env k j7) (cl env k) a0 a1 a2) r):Yields (fun k=>cl env k mg [a0,a1,a2]) r:=Yields.ca (pR · · a0 a1 a2) h (by kernel_rfl)
noncomputable abbrev IK (H:HT) (C:aF) (a0 a1:T):R:=
 obind (C cU [(a1.fld 0)]) fun r1=>
 bif (rt r1 2).b then
 obind (C Fk [a0,a1]) fun r2=>
 bif (rt r2 0).b then
 obind (C eD [a0,(a1.fld 0)]) fun r3=>
 obind (C bH [(rt r3 0),(T.int (8:Int))]) fun r4=>
 some [(rt r4 0)]
 else
 some [(T.bool false)]
 else
 some [(T.bool false)]
theorem Hy (a0 a1:T) (h:Yields (fun k=>IK (hl env k Gq) (cl env k) a0 a1) r):Yields (fun k=>cl env k EG [a0,a1]) r:=Yields.ca (IK · · a0 a1) h (by kernel_rfl)
noncomputable abbrev nj (H:HT) (C:aF) (a0 a1 a2 a3:T):R:=
 obind (C cU [a3]) fun r1=>
 bif (!(rt r1 2).b) then
 obind (C kU [a3]) fun r2=>
 some [(rt r2 0)]
 else
 obind (C mg [a0,(rt r1 0),(rt r1 1)]) fun r3=>
 bif (rt r3 0).b then
 bif (decide ((rt r1 0).i < a1.i)) then
 some [(T.bool true)]
 else
 bif ((rt r1 0).i==a1.i) then
 some [(T.bool (decide ((rt r1 1).i < a2.i)))]
 else
 some [(T.bool false)]
 else
 some [(T.bool false)]
theorem xl (a0 a1 a2 a3:T) (h:Yields (fun k=>nj (hl env k gx) (cl env k) a0 a1 a2 a3) r):Yields (fun k=>cl env k kh [a0,a1,a2,a3]) r:=Yields.ca (nj · · a0 a1 a2 a3) h (by kernel_rfl)
noncomputable abbrev oJ (H:HT) (C:aF) (a0:T):R:=
 bif (a0.s.toList==(⟨#[110]⟩:ByteArray).toList) then
 some [(T.bool true)]
 else
 bif (a0.s.toList==(⟨#[98]⟩:ByteArray).toList) then
 some [(T.bool true)]
 else
 some [(T.bool (a0.s.toList==(⟨#[111]⟩:ByteArray).toList))]
theorem yd (H:HT) (C:aF) (a0:T):bI ie env H C [a0] =
 (fun s0=>
 (fun s1=>
 bif ((((s1==false)&&true)&&true)||(!(s1==false))) then
 bif (bif s1 then true else (s1==false)) then
 bif ((((s0.b==false)&&true)&&true)||(!(s0.b==false))) then
 bif (bif s0.b then true else (s0.b==false)) then
 some [(bif s0.b then (T.bool true) else (T.bool (a0.s.toList==(⟨#[111]⟩:ByteArray).toList)))]
 else
 none
 else
 none
 else
 none
 else
 none) (a0.s.toList==(⟨#[110]⟩:ByteArray).toList)) (bif (a0.s.toList==(⟨#[110]⟩:ByteArray).toList) then (T.bool true) else (T.bool (a0.s.toList==(⟨#[98]⟩:ByteArray).toList))):=by kernel_rfl
theorem yl (H:HT) (C:aF) (a0:T):bI ie env H C [a0]=oJ H C a0:=by
 refine (yd H C a0).trans ?_
 unfold oJ
 all_goals try dsimp only
 all_goals try simp only[bs]
 all_goals cases hc:((a0.s.toList==(⟨#[110]⟩:ByteArray).toList)) with
 | true=>
  try simp only[bs]
  all_goals kernel_rfl
 | false=>
  try simp only[bs]
  all_goals cases hc:((a0.s.toList==(⟨#[98]⟩:ByteArray).toList)) with
  | true=>
   try simp only[bs]
   all_goals kernel_rfl
  | false=>
   try simp only[bs]
   all_goals kernel_rfl
theorem yo (a0:T) (h:Yields (fun k=>oJ (hl env k ie) (cl env k) a0) r):Yields (fun k=>cl env k kU [a0]) r:=Yields.call (fi:=ie) rfl rfl (fun H C=>yl H C a0) h
noncomputable abbrev lJ (H:HT) (C:aF) (a0 a1:T):R:=
 (fun s0=>
 obind (C ky [a0,a1]) fun r1=>
 bif (rt r1 0).b then
 obind (C aM [(rt (r1.drop 1) 0),(T.bool (decide ((((((rt (r1.drop 1) 0).fld 4).fld 0).es).length:Int)≤(12:Int)))),s0]) fun r2=>
 some [(rt (r2.drop 0) 0)]
 else
 obind (C jF [(rt (r1.drop 1) 0),a1]) fun r3=>
 bif (rt r3 0).b then
 obind (C aM [(rt (r3.drop 1) 0),(T.bool (decide ((((((rt (r3.drop 1) 0).fld 4).fld 0).es).length:Int)≤(12:Int)))),s0]) fun r4=>
 some [(rt (r4.drop 0) 0)]
 else
 obind (C jj [(rt (r3.drop 1) 0),a1]) fun r5=>
 bif (rt r5 0).b then
 obind (C aM [(rt (r5.drop 1) 0),(T.bool (decide ((((((rt (r5.drop 1) 0).fld 4).fld 0).es).length:Int)≤(12:Int)))),s0]) fun r6=>
 some [(rt (r6.drop 0) 0)]
 else
 obind (C cm [(rt (r5.drop 1) 0),a1]) fun r7=>
 (fun s1=>
 bif (rt r7 0).b then
 obind (C aM [s1,(T.bool (decide (((((s1.fld 4).fld 0).es).length:Int)≤(12:Int)))),s0]) fun r8=>
 some [(rt (r8.drop 0) 0)]
 else
 bif (((a1.fld 0).s).toList==k_call.toList) then
 obind (C lu [s1,a1]) fun r9=>
 obind (C aM [(rt (r9.drop 0) 0),(T.bool (decide ((((((rt (r9.drop 0) 0).fld 4).fld 0).es).length:Int)≤(12:Int)))),s0]) fun r10=>
 some [(rt (r10.drop 0) 0)]
 else
 obind (C mj [s1]) fun r11=>
 some [(rt (r11.drop 0) 0)]) (rt (r7.drop 1) 0)) (T.int (1:Int))
theorem uX (a0 a1:T) (h:Yields (fun k=>lJ (hl env k kM) (cl env k) a0 a1) r):Yields (fun k=>cl env k lv [a0,a1]) r:=Yields.ca (lJ · · a0 a1) h (by kernel_rfl)
noncomputable def mS (H:HT) (x1 x2 x3 x4 x5 x6 x7 x8 x9:T):R:=H (bS aV.body 0) ([(0,.pref 94 100000 []),(1,.val 23 x1),(2,.val 38 x2),(3,.val 3 x3),(6,.sref 32 100006 []),(11,.pref 34 11 []),(12,.pref 43 12 []),(15,.val 4 x4),(16,.val 3 x5)],[(100000,⟨94,x6,(.st [.fo,.dp]),true⟩),(100006,⟨32,x7,.dp,false⟩),(11,⟨34,x8,.fz,true⟩),(12,⟨43,x9,.fz,true⟩)])
noncomputable def dA (H:HT) (x1 x2 x3 x4 x5 x6 x7 x8 x9:T):R:=H (bS aV.body 0) ([(0,.pref 94 100000 []),(1,.val 23 x1),(2,.val 38 x2),(3,.val 3 x3),(6,.sref 32 6 []),(11,.pref 34 11 []),(12,.pref 43 12 []),(15,.val 4 x4),(16,.val 3 x5)],[(100000,⟨94,x6,(.st [.fo,.dp]),true⟩),(6,⟨32,x7,.dp,false⟩),(11,⟨34,x8,.fz,true⟩),(12,⟨43,x9,.fz,true⟩)])
noncomputable def fk (H:HT) (x1 x2 x3 x4 x5 x6 x7 x8 x9 x10 x11:T):R:=H (bS aV.body 1) ([(0,.pref 94 100000 []),(1,.val 23 x1),(2,.val 38 x2),(3,.val 3 x3),(6,.sref 32 100006 []),(11,.pref 34 11 []),(12,.pref 43 12 []),(15,.val 4 x4),(16,.val 3 x5),(17,.val 3 x6),(18,.val 3 x7)],[(100000,⟨94,x8,(.st [.fo,.dp]),true⟩),(100006,⟨32,x9,.dp,false⟩),(11,⟨34,x10,.fz,true⟩),(12,⟨43,x11,.fz,true⟩)])
noncomputable def fl (H:HT) (x1 x2 x3 x4 x5 x6 x7 x8 x9:T):R:=H (bS aV.body 2) ([(0,.pref 94 100000 []),(1,.val 23 x1),(2,.val 38 x2),(3,.val 3 x3),(6,.sref 32 100006 []),(11,.pref 34 11 []),(12,.pref 43 12 []),(15,.val 4 x4),(19,.val 3 x5)],[(100000,⟨94,x6,(.st [.fo,.dp]),true⟩),(100006,⟨32,x7,.dp,false⟩),(11,⟨34,x8,.fz,true⟩),(12,⟨43,x9,.fz,true⟩)])
noncomputable def fm (H:HT) (x1 x2 x3 x4 x5 x6 x7 x8 x9 x10 x11:T):R:=H (bS aV.body 1) ([(0,.pref 94 100000 []),(1,.val 23 x1),(2,.val 38 x2),(3,.val 3 x3),(6,.sref 32 6 []),(11,.pref 34 11 []),(12,.pref 43 12 []),(15,.val 4 x4),(16,.val 3 x5),(17,.val 3 x6),(18,.val 3 x7)],[(100000,⟨94,x8,(.st [.fo,.dp]),true⟩),(6,⟨32,x9,.dp,false⟩),(11,⟨34,x10,.fz,true⟩),(12,⟨43,x11,.fz,true⟩)])
noncomputable def dB (H:HT) (x1 x2 x3 x4 x5 x6 x7 x8 x9:T):R:=H (bS aV.body 2) ([(0,.pref 94 100000 []),(1,.val 23 x1),(2,.val 38 x2),(3,.val 3 x3),(6,.sref 32 6 []),(11,.pref 34 11 []),(12,.pref 43 12 []),(15,.val 4 x4),(19,.val 3 x5)],[(100000,⟨94,x6,(.st [.fo,.dp]),true⟩),(6,⟨32,x7,.dp,false⟩),(11,⟨34,x8,.fz,true⟩),(12,⟨43,x9,.fz,true⟩)])
noncomputable abbrev oQ (H:HT) (C:aF) (a0 a1 a2 a3 a4 a5 a6:T):R:=
 mS H a1 a2 a3 (T.bool true) (T.int (0:Int)) a0 a6 a4 a5
theorem yw (a0 a1 a2 a3 a4 a5 a6:T) (h:Yields (fun k=>oQ (hl env k aV) (cl env k) a0 a1 a2 a3 a4 a5 a6) r):Yields (fun k=>cl env k du [a0,a1,a2,a3,a4,a5,a6]) r:=Yields.ca (oQ · · a0 a1 a2 a3 a4 a5 a6) h (by kernel_rfl)
noncomputable abbrev mC (H:HT) (C:aF) (x1 x2 x3 x4 x5 x6 x7 x8 x9:T):R:=
 bif x4.b then
 bif (decide (x5.i < (30:Int))) then
 bif (decide ((((x9.fld 0).es).length:Int) > (0:Int))) then
 obind (C kV [x6,x1,x2,x3,x8,x9,x7]) fun r1=>
 dA H x1 x2 x3 (rt r1 2) (T.int (IntKind.wrap .i64 (x5.i+(1:Int)))) (rt (r1.drop 3) 0) (rt r1 1) x8 (rt r1 0)
 else
 fk H x1 x2 x3 x4 x5 (T.int (-1:Int)) (T.int (0:Int)) x6 x7 x8 x9
 else
 fl H x1 x2 x3 x4 (T.int (0:Int)) x6 x7 x8 x9
 else
 fl H x1 x2 x3 x4 (T.int (0:Int)) x6 x7 x8 x9
theorem wA (x1 x2 x3 x4 x5 x6 x7 x8 x9:T) (h:Yields (fun k=>mC (hl env k aV) (cl env k) x1 x2 x3 x4 x5 x6 x7 x8 x9) r):Yields (fun k=>mS (hl env k aV) x1 x2 x3 x4 x5 x6 x7 x8 x9) r:=Yields.hd (mC · · x1 x2 x3 x4 x5 x6 x7 x8 x9) h (by kernel_rfl)
noncomputable abbrev jx (H:HT) (C:aF) (x1 x2 x3 x4 x5 x6 x7 x8 x9:T):R:=
 bif x4.b then
 bif (decide (x5.i < (30:Int))) then
 bif (decide ((((x9.fld 0).es).length:Int) > (0:Int))) then
 obind (C kV [x6,x1,x2,x3,x8,x9,x7]) fun r1=>
 dA H x1 x2 x3 (rt r1 2) (T.int (IntKind.wrap .i64 (x5.i+(1:Int)))) (rt (r1.drop 3) 0) (rt r1 1) x8 (rt r1 0)
 else
 fm H x1 x2 x3 x4 x5 (T.int (-1:Int)) (T.int (0:Int)) x6 x7 x8 x9
 else
 dB H x1 x2 x3 x4 (T.int (0:Int)) x6 x7 x8 x9
 else
 dB H x1 x2 x3 x4 (T.int (0:Int)) x6 x7 x8 x9
theorem qM (x1 x2 x3 x4 x5 x6 x7 x8 x9:T) (h:Yields (fun k=>jx (hl env k aV) (cl env k) x1 x2 x3 x4 x5 x6 x7 x8 x9) r):Yields (fun k=>dA (hl env k aV) x1 x2 x3 x4 x5 x6 x7 x8 x9) r:=Yields.hd (jx · · x1 x2 x3 x4 x5 x6 x7 x8 x9) h (by kernel_rfl)
noncomputable abbrev jy (H:HT) (C:aF) (x1 x2 x3 x4 x5 x6 x7 x8 x9 x10 x11:T):R:=
 (fun s0=>
 (fun s1=>
 bif (decide (x7.i < (((x11.fld 1).es).length:Int))) then
 bif s1 then
 bif (!(((((x11.fld 1).nth x7.i.toNat).fld 0).s).toList==(⟨#[]⟩:ByteArray).toList)) then
 bif s1 then
 obind (C eD [x2,(((x11.fld 1).nth x7.i.toNat).fld 0)]) fun r1=>
 obind (C bH [(rt r1 0),(T.int (2:Int))]) fun r2=>
 bif (!(rt r2 0).b) then
 fk H x1 x2 x3 x4 x5 x7 s0 x8 x9 x10 x11
 else
 fk H x1 x2 x3 x4 x5 x6 s0 x8 x9 x10 x11
 else
 none
 else
 fk H x1 x2 x3 x4 x5 x6 s0 x8 x9 x10 x11
 else
 none
 else
 bif (decide (x6.i < (0:Int))) then
 fl H x1 x2 x3 x4 (T.int (0:Int)) x8 x9 x10 x11
 else
 obind (C bk [x1,x2,x3,x10,x11,x9,(T.st [(T.str od),x6,(T.int (0:Int))])]) fun r3=>
 dA H x1 x2 x3 (rt r3 2) (T.int (IntKind.wrap .i64 (x5.i+(1:Int)))) x8 (rt r3 1) x10 (rt r3 0)) (decide (0≤x7.i)&&decide (x7.i.toNat < ((x11.fld 1).es).length))) (T.int (IntKind.wrap .i64 (x7.i+(1:Int))))
theorem qN (x1 x2 x3 x4 x5 x6 x7 x8 x9 x10 x11:T) (h:Yields (fun k=>jy (hl env k aV) (cl env k) x1 x2 x3 x4 x5 x6 x7 x8 x9 x10 x11) r):Yields (fun k=>fk (hl env k aV) x1 x2 x3 x4 x5 x6 x7 x8 x9 x10 x11) r:=Yields.hd (jy · · x1 x2 x3 x4 x5 x6 x7 x8 x9 x10 x11) h (by kernel_rfl)
noncomputable abbrev mD (H:HT) (C:aF) (x1 x2 x3 x4 x5 x6 x7 x8 x9:T):R:=
 (fun s0=>
 (fun s1=>
 (fun s2=>
 (fun s3=>
 bif (decide (x5.i < (((x8.fld 2).es).length:Int))) then
 bif x4.b then
 bif (decide (0≤x5.i)&&decide (x5.i.toNat < ((x8.fld 2).es).length)) then
 obind (C dv [x1,x2,x3,x8,x9,x7,((x8.fld 2).nth x5.i.toNat)]) fun r1=>
 dB H x1 x2 x3 (rt r1 2) (T.int (IntKind.wrap .i64 (x5.i+(1:Int)))) x6 (rt r1 1) x8 (rt r1 0)
 else
 none
 else
 bif x4.b then
 obind (C bk [x1,x2,x3,x8,x9,x7,s2]) fun r2=>
 bif (!(rt r2 2).b) then
 bif (decide (((rt r2 1).es).length + [s1,s0].length≤LIM)) then
 some [(T.sl ((rt r2 1).es ++ [s1,s0])),x6]
 else
 none
 else
 some [(rt r2 1),x6]
 else
 bif (!x4.b) then
 bif s3 then
 some [(T.sl (x7.es ++ [s1,s0])),x6]
 else
 none
 else
 some [x7,x6]
 else
 bif x4.b then
 obind (C bk [x1,x2,x3,x8,x9,x7,s2]) fun r3=>
 bif (!(rt r3 2).b) then
 bif (decide (((rt r3 1).es).length + [s1,s0].length≤LIM)) then
 some [(T.sl ((rt r3 1).es ++ [s1,s0])),x6]
 else
 none
 else
 some [(rt r3 1),x6]
 else
 bif (!x4.b) then
 bif s3 then
 some [(T.sl (x7.es ++ [s1,s0])),x6]
 else
 none
 else
 some [x7,x6]) (decide (x7.es.length + [s1,s0].length≤LIM))) (T.st [(T.str o8),(T.int (0:Int)),(T.int (0:Int))])) (T.st [(T.str bE),(T.int (9:Int)),(T.int (0:Int))])) (T.st [(T.str bm),(T.int (0:Int)),(T.int (0:Int))])
theorem wB (x1 x2 x3 x4 x5 x6 x7 x8 x9:T) (h:Yields (fun k=>mD (hl env k aV) (cl env k) x1 x2 x3 x4 x5 x6 x7 x8 x9) r):Yields (fun k=>fl (hl env k aV) x1 x2 x3 x4 x5 x6 x7 x8 x9) r:=Yields.hd (mD · · x1 x2 x3 x4 x5 x6 x7 x8 x9) h (by kernel_rfl)
noncomputable abbrev jz (H:HT) (C:aF) (x1 x2 x3 x4 x5 x6 x7 x8 x9 x10 x11:T):R:=
 (fun s0=>
 (fun s1=>
 bif (decide (x7.i < (((x11.fld 1).es).length:Int))) then
 bif s1 then
 bif (!(((((x11.fld 1).nth x7.i.toNat).fld 0).s).toList==(⟨#[]⟩:ByteArray).toList)) then
 bif s1 then
 obind (C eD [x2,(((x11.fld 1).nth x7.i.toNat).fld 0)]) fun r1=>
 obind (C bH [(rt r1 0),(T.int (2:Int))]) fun r2=>
 bif (!(rt r2 0).b) then
 fm H x1 x2 x3 x4 x5 x7 s0 x8 x9 x10 x11
 else
 fm H x1 x2 x3 x4 x5 x6 s0 x8 x9 x10 x11
 else
 none
 else
 fm H x1 x2 x3 x4 x5 x6 s0 x8 x9 x10 x11
 else
 none
 else
 bif (decide (x6.i < (0:Int))) then
 dB H x1 x2 x3 x4 (T.int (0:Int)) x8 x9 x10 x11
 else
 obind (C bk [x1,x2,x3,x10,x11,x9,(T.st [(T.str od),x6,(T.int (0:Int))])]) fun r3=>
 dA H x1 x2 x3 (rt r3 2) (T.int (IntKind.wrap .i64 (x5.i+(1:Int)))) x8 (rt r3 1) x10 (rt r3 0)) (decide (0≤x7.i)&&decide (x7.i.toNat < ((x11.fld 1).es).length))) (T.int (IntKind.wrap .i64 (x7.i+(1:Int))))
theorem qO (x1 x2 x3 x4 x5 x6 x7 x8 x9 x10 x11:T) (h:Yields (fun k=>jz (hl env k aV) (cl env k) x1 x2 x3 x4 x5 x6 x7 x8 x9 x10 x11) r):Yields (fun k=>fm (hl env k aV) x1 x2 x3 x4 x5 x6 x7 x8 x9 x10 x11) r:=Yields.hd (jz · · x1 x2 x3 x4 x5 x6 x7 x8 x9 x10 x11) h (by kernel_rfl)
noncomputable abbrev jA (H:HT) (C:aF) (x1 x2 x3 x4 x5 x6 x7 x8 x9:T):R:=mD H C x1 x2 x3 x4 x5 x6 x7 x8 x9
theorem qP (x1 x2 x3 x4 x5 x6 x7 x8 x9:T) (h:Yields (fun k=>jA (hl env k aV) (cl env k) x1 x2 x3 x4 x5 x6 x7 x8 x9) r):Yields (fun k=>dB (hl env k aV) x1 x2 x3 x4 x5 x6 x7 x8 x9) r:=Yields.hd (jA · · x1 x2 x3 x4 x5 x6 x7 x8 x9) h (by kernel_rfl)
noncomputable def Fc (H:HT) (x1 x2 x3 x4 x5:T):R:=H (bS Ev.body 0) ([(0,.val 38 x1),(3,.pref 82 3 []),(5,.val 3 x2),(6,.val 3 x3),(8,.val 3 x4)],[(3,⟨82,x5,.fz,true⟩)])
noncomputable abbrev JC (H:HT) (C:aF) (a0 a1:T):R:=
 (fun s0=>
 (fun s1=>
 bif (((a1.fld 0).s).toList==(⟨#[110]⟩:ByteArray).toList) then
 obind (C EV [a1]) fun r1=>
 bif (rt r1 0).b then
 obind (C dZ [(a1.fld 1),s1,(T.int (1000000:Int))]) fun r2=>
 some [(rt r2 0)]
 else
 some [s0]
 else
 bif (((a1.fld 0).s).toList==(⟨#[98]⟩:ByteArray).toList) then
 obind (C EV [a1]) fun r1=>
 bif (rt r1 0).b then
 obind (C dZ [(a1.fld 1),s1,(T.int (1:Int))]) fun r2=>
 some [(rt r2 0)]
 else
 some [s0]
 else
 bif (((a1.fld 0).s).toList==(⟨#[111]⟩:ByteArray).toList) then
 obind (C EV [a1]) fun r1=>
 bif (rt r1 0).b then
 obind (C dZ [(a1.fld 1),s1,(T.int (3:Int))]) fun r2=>
 some [(rt r2 0)]
 else
 some [s0]
 else
 obind (C cU [(a1.fld 0)]) fun r1=>
 bif (!(rt r1 2).b) then
 some [s0]
 else
 obind (C mg [a0,(rt r1 0),(rt r1 1)]) fun r2=>
 bif (!(rt r2 0).b) then
 some [s0]
 else
 bif ((a1.fld 1).i != (0:Int)) then
 some [s0]
 else
 bif (decide ((((a1.fld 3).es).length:Int) > (0:Int))) then
 some [s0]
 else
 bif (decide (0≤(rt r1 0).i)&&decide (((rt r1 0).i).toNat < a0.es.length)) then
 bif (decide (0≤(rt r1 1).i)&&decide (((rt r1 1).i).toNat < ((a0.nth (((rt r1 0).i).toNat)).es).length)) then
 bif ((((a1.fld 2).es).length:Int) != (((((a0.nth (((rt r1 0).i).toNat)).nth (((rt r1 1).i).toNat)).fld 1).es).length:Int)) then
 some [s0]
 else
 Fc H a0 (rt r1 0) (rt r1 1) s1 a1
 else
 none
 else
 none) (T.int (0:Int))) (T.bool false)
theorem Nh (H:HT) (C:aF) (a0 a1:T):bI Ev env H C [a0,a1] =
 (fun s0=>
 (fun s1=>
 (fun s2=>
 (fun s3=>
 bif (((a1.fld 0).s).toList==(⟨#[110]⟩:ByteArray).toList) then
 obind (C EV [a1]) fun r1=>
 (fun s4=>
 bif (s4||(!s4)) then
 bif ((s4&&true)||(!s4)) then
 obind ((bif s4 then C dZ [(a1.fld 1),s3,(T.int (1000000:Int))] else some [])) fun r2=>
 bif (bif (rt r1 0).b then s4 else true) then
 some [(bif (rt r1 0).b then (rt r2 0) else (T.bool false))]
 else
 none
 else
 none
 else
 none) ((rt r1 0).b==true)
 else
 bif (((a1.fld 0).s).toList==(⟨#[98]⟩:ByteArray).toList) then
 obind (C EV [a1]) fun r3=>
 (fun s5=>
 bif (s5||(!s5)) then
 bif ((s5&&true)||(!s5)) then
 obind ((bif s5 then C dZ [(a1.fld 1),s3,(T.int (1:Int))] else some [])) fun r4=>
 bif (bif (rt r3 0).b then s5 else true) then
 some [(bif (rt r3 0).b then (rt r4 0) else (T.bool false))]
 else
 none
 else
 none
 else
 none) ((rt r3 0).b==true)
 else
 bif (((a1.fld 0).s).toList==(⟨#[111]⟩:ByteArray).toList) then
 obind (C EV [a1]) fun r5=>
 (fun s6=>
 bif (s6||(!s6)) then
 bif ((s6&&true)||(!s6)) then
 obind ((bif s6 then C dZ [(a1.fld 1),s3,(T.int (3:Int))] else some [])) fun r6=>
 bif (bif (rt r5 0).b then s6 else true) then
 some [(bif (rt r5 0).b then (rt r6 0) else (T.bool false))]
 else
 none
 else
 none
 else
 none) ((rt r5 0).b==true)
 else
 obind (C cU [(a1.fld 0)]) fun r7=>
 (fun s7=>
 bif (((s7==false)&&((s7==false)&&((s7==false)&&true)))||(!(s7==false))) then
 obind ((bif (s7==false) then C mg [a0,(rt r7 0),(rt r7 1)] else some [])) fun r8=>
 (fun s8=>
 (fun s9=>
 bif ((s7==false)||(!(s7==false))) then
 bif (bif s7 then true else (s7==false)) then
 bif ((s9.b==false)||(!(s9.b==false))) then
 bif ((((s9.b==false)&&true)&&true)||(!(s9.b==false))) then
 bif (bif s9.b then true else (s9.b==false)) then
 bif (((bif s9.b then s2 else s1).b==false)||(!((bif s9.b then s2 else s1).b==false))) then
 bif (((bif s9.b then s2 else s1).b==false)||(!((bif s9.b then s2 else s1).b==false))) then
 bif (((((bif s9.b then s2 else s1).b==false)&&true)&&true)||(!((bif s9.b then s2 else s1).b==false))) then
 bif (bif (bif s9.b then s2 else s1).b then true else ((bif s9.b then s2 else s1).b==false)) then
 bif (s8||(!s8)) then
 bif (s8||(!s8)) then
 bif (((s8&&(s8&&true))&&(decide (0≤(rt r7 0).i)&&decide (((rt r7 0).i).toNat < a0.es.length)))||(!s8)) then
 bif (s8||(!s8)) then
 bif (((s8&&(s8&&true))&&(decide (0≤(rt r7 1).i)&&decide (((rt r7 1).i).toNat < ((a0.nth (((rt r7 0).i).toNat)).es).length)))||(!s8)) then
 bif (s8||(!s8)) then
 bif (s8||(!s8)) then
 bif (s8||(!s8)) then
 bif (((s8&&s8)&&true)||(!s8)) then
 bif (bif (bif (bif s9.b then s2 else s1).b then s2 else s0).b then true else s8) then
 bif (bif (bif (bif s9.b then s2 else s1).b then s2 else s0).b then s2 else (T.bool ((((a1.fld 2).es).length:Int) != (((((a0.nth (((rt r7 0).i).toNat)).nth (((rt r7 1).i).toNat)).fld 1).es).length:Int)))).b then
 some [(T.bool false)]
 else
 Fc H a0 (rt r7 0) (rt r7 1) s3 a1
 else
 none
 else
 none
 else
 none
 else
 none
 else
 none
 else
 none
 else
 none
 else
 none
 else
 none
 else
 none
 else
 none
 else
 none
 else
 none
 else
 none
 else
 none
 else
 none
 else
 none
 else
 none
 else
 none) (bif s7 then s2 else (T.bool (!(rt r8 0).b)))) ((bif (bif (bif s7 then s2 else (T.bool (!(rt r8 0).b))).b then s2 else s1).b then s2 else s0).b==false)
 else
 none) (!(rt r7 2).b)) (T.int (0:Int))) (T.bool true)) (T.bool ((a1.fld 1).i != (0:Int)))) (T.bool (decide ((((a1.fld 3).es).length:Int) > (0:Int)))):=by kernel_rfl
theorem Nk (H:HT) (C:aF) (a0 a1:T):bI Ev env H C [a0,a1]=JC H C a0 a1:=by
 refine (Nh H C a0 a1).trans ?_
 unfold JC
 all_goals try dsimp only
 all_goals try simp only[bs]
 all_goals cases hc:((((a1.fld 0).s).toList==(⟨#[110]⟩:ByteArray).toList)) with
 | true=>
  try simp only[bs]
  all_goals refine br fun r1=>?_
  all_goals try simp only[bs]
  all_goals cases hc:((rt r1 0).b) with
  | true=>
   try simp only[bs]
   all_goals refine br fun r2=>?_
   all_goals try simp only[bs]
   all_goals kernel_rfl
  | false=>
   try simp only[bs]
   all_goals kernel_rfl
 | false=>
  try simp only[bs]
  all_goals cases hc:((((a1.fld 0).s).toList==(⟨#[98]⟩:ByteArray).toList)) with
  | true=>
   try simp only[bs]
   all_goals refine br fun r1=>?_
   all_goals try simp only[bs]
   all_goals cases hc:((rt r1 0).b) with
   | true=>
    try simp only[bs]
    all_goals refine br fun r2=>?_
    all_goals try simp only[bs]
    all_goals kernel_rfl
   | false=>
    try simp only[bs]
    all_goals kernel_rfl
  | false=>
   try simp only[bs]
   all_goals cases hc:((((a1.fld 0).s).toList==(⟨#[111]⟩:ByteArray).toList)) with
   | true=>
    try simp only[bs]
    all_goals refine br fun r1=>?_
    all_goals try simp only[bs]
    all_goals cases hc:((rt r1 0).b) with
    | true=>
     try simp only[bs]
     all_goals refine br fun r2=>?_
     all_goals try simp only[bs]
     all_goals kernel_rfl
    | false=>
     try simp only[bs]
     all_goals kernel_rfl
   | false=>
    try simp only[bs]
    all_goals refine br fun r1=>?_
    all_goals try simp only[bs]
    all_goals cases hc:((!(rt r1 2).b)) with
    | true=>
     try simp only[bs]
     all_goals kernel_rfl
    | false=>
     try simp only[bs]
     all_goals refine br fun r2=>?_
     all_goals try simp only[bs]
     all_goals cases hc:((!(rt r2 0).b)) with
     | true=>
      try simp only[bs]
      all_goals kernel_rfl
     | false=>
      try simp only[bs]
      all_goals cases hc:(((a1.fld 1).i != (0:Int))) with
      | true=>
       try simp only[bs]
       all_goals kernel_rfl
      | false=>
       try simp only[bs]
       all_goals cases hc:((decide ((((a1.fld 3).es).length:Int) > (0:Int)))) with
       | true=>
        try simp only[bs]
        all_goals kernel_rfl
       | false=>
        try simp only[bs]
        all_goals cases hc:((decide (0≤(rt r1 0).i)&&decide (((rt r1 0).i).toNat < a0.es.length))) with
        | true=>
         try simp only[bs]
         all_goals cases hc:((decide (0≤(rt r1 1).i)&&decide (((rt r1 1).i).toNat < ((a0.nth (((rt r1 0).i).toNat)).es).length))) with
         | true=>
          try simp only[bs]
          all_goals cases hc:(((((a1.fld 2).es).length:Int) != (((((a0.nth (((rt r1 0).i).toNat)).nth (((rt r1 1).i).toNat)).fld 1).es).length:Int))) with
          | true=>
           try simp only[bs]
           all_goals kernel_rfl
          | false=>
           try simp only[bs]
           all_goals kernel_rfl
         | false=>
          try simp only[bs]
          all_goals kernel_rfl
        | false=>
         try simp only[bs]
         all_goals kernel_rfl
theorem Hw (a0 a1:T) (h:Yields (fun k=>JC (hl env k Ev) (cl env k) a0 a1) r):Yields (fun k=>cl env k Fk [a0,a1]) r:=Yields.call (fi:=Ev) rfl rfl (fun H C=>Nk H C a0 a1) h
noncomputable abbrev II (H:HT) (C:aF) (x1 x2 x3 x4 x5:T):R:=
 (fun s0=>
 bif (decide (x4.i < (((x5.fld 2).es).length:Int))) then
 bif (decide (0≤x4.i)&&decide (x4.i.toNat < ((x5.fld 2).es).length)) then
 bif (decide (0≤x2.i)&&decide (x2.i.toNat < x1.es.length)) then
 bif (decide (0≤x3.i)&&decide (x3.i.toNat < ((x1.nth x2.i.toNat).es).length)) then
 bif (decide (0≤x4.i)&&decide (x4.i.toNat < (s0.es).length)) then
 bif (!(((((x5.fld 2).nth x4.i.toNat).fld 0).s).toList==((s0.nth x4.i.toNat).s).toList)) then
 some [(T.bool false)]
 else
 obind (C Fk [x1,((x5.fld 2).nth x4.i.toNat)]) fun r1=>
 bif (!(rt r1 0).b) then
 some [(T.bool false)]
 else
 Fc H x1 x2 x3 (T.int (IntKind.wrap .i64 (x4.i+(1:Int)))) x5
 else
 none
 else
 none
 else
 none
 else
 none
 else
 some [(T.bool true)]) (((x1.nth x2.i.toNat).nth x3.i.toNat).fld 1)
theorem MF (H:HT) (C:aF) (x1 x2 x3 x4 x5:T):iU Ev env H C (bS Ev.body 0) ([(0,.val 38 x1),(3,.pref 82 3 []),(5,.val 3 x2),(6,.val 3 x3),(8,.val 3 x4)],[(3,⟨82,x5,.fz,true⟩)]) =
 (fun s0=>
 (fun s1=>
 (fun s2=>
 bif (decide (x4.i < (((x5.fld 2).es).length:Int))) then
 bif s2 then
 bif (decide (0≤x2.i)&&decide (x2.i.toNat < x1.es.length)) then
 bif (decide (0≤x3.i)&&decide (x3.i.toNat < ((x1.nth x2.i.toNat).es).length)) then
 bif (decide (0≤x4.i)&&decide (x4.i.toNat < ((((x1.nth x2.i.toNat).nth x3.i.toNat).fld 1).es).length)) then
 bif (s1||(!s1)) then
 bif (((s1&&(s1&&true))&&s2)||(!s1)) then
 bif (s1||(!s1)) then
 bif ((s1&&(s1&&true))||(!s1)) then
 obind ((bif s1 then C Fk [x1,((x5.fld 2).nth x4.i.toNat)] else some [])) fun r1=>
 bif (s1||(!s1)) then
 bif (bif s0 then true else s1) then
 bif (bif s0 then (T.bool true) else (T.bool (!(rt r1 0).b))).b then
 some [(T.bool false)]
 else
 Fc H x1 x2 x3 (T.int (IntKind.wrap .i64 (x4.i+(1:Int)))) x5
 else
 none
 else
 none
 else
 none
 else
 none
 else
 none
 else
 none
 else
 none
 else
 none
 else
 none
 else
 none
 else
 some [(T.bool true)]) (decide (0≤x4.i)&&decide (x4.i.toNat < ((x5.fld 2).es).length))) (s0==false)) (!(((((x5.fld 2).nth x4.i.toNat).fld 0).s).toList==(((((x1.nth x2.i.toNat).nth x3.i.toNat).fld 1).nth x4.i.toNat).s).toList)):=by kernel_rfl
theorem MR (H:HT) (C:aF) (x1 x2 x3 x4 x5:T):iU Ev env H C (bS Ev.body 0) ([(0,.val 38 x1),(3,.pref 82 3 []),(5,.val 3 x2),(6,.val 3 x3),(8,.val 3 x4)],[(3,⟨82,x5,.fz,true⟩)])=II H C x1 x2 x3 x4 x5:=by
 refine (MF H C x1 x2 x3 x4 x5).trans ?_
 unfold II
 all_goals try dsimp only
 all_goals try simp only[bs]
 all_goals cases hc:((decide (x4.i < (((x5.fld 2).es).length:Int)))) with
 | true=>
  try simp only[bs]
  all_goals cases hc:((decide (0≤x4.i)&&decide (x4.i.toNat < ((x5.fld 2).es).length))) with
  | true=>
   try simp only[bs]
   all_goals cases hc:((decide (0≤x2.i)&&decide (x2.i.toNat < x1.es.length))) with
   | true=>
    try simp only[bs]
    all_goals cases hc:((decide (0≤x3.i)&&decide (x3.i.toNat < ((x1.nth x2.i.toNat).es).length))) with
    | true=>
     try simp only[bs]
     all_goals cases hc:((decide (0≤x4.i)&&decide (x4.i.toNat < ((((x1.nth x2.i.toNat).nth x3.i.toNat).fld 1).es).length))) with
     | true=>
      try simp only[bs]
      all_goals cases hc:((!(((((x5.fld 2).nth x4.i.toNat).fld 0).s).toList==(((((x1.nth x2.i.toNat).nth x3.i.toNat).fld 1).nth x4.i.toNat).s).toList))) with
      | true=>
       try simp only[bs]
       all_goals kernel_rfl
      | false=>
       try simp only[bs]
       all_goals refine br fun r1=>?_
       all_goals try simp only[bs]
       all_goals cases hc:((!(rt r1 0).b)) with
       | true=>
        try simp only[bs]
        all_goals kernel_rfl
       | false=>
        try simp only[bs]
        all_goals kernel_rfl
     | false=>
      try simp only[bs]
      all_goals kernel_rfl
    | false=>
     try simp only[bs]
     all_goals kernel_rfl
   | false=>
    try simp only[bs]
    all_goals kernel_rfl
  | false=>
   try simp only[bs]
   all_goals kernel_rfl
 | false=>
  try simp only[bs]
  all_goals kernel_rfl
theorem Kb (x1 x2 x3 x4 x5:T) (h:Yields (fun k=>II (hl env k Ev) (cl env k) x1 x2 x3 x4 x5) r):Yields (fun k=>Fc (hl env k Ev) x1 x2 x3 x4 x5) r:=Yields.head (fun H C=>MR H C x1 x2 x3 x4 x5) h
noncomputable abbrev kB (H:HT) (C:aF) (a0 a1:T):R:=
 (fun s0=>
 (fun s1=>
 (fun s2=>
 (fun s3=>
 (fun s4=>
 (fun s5=>
 bif (s2.toList==bE.toList) then
 obind (C aK [a0,s4,(T.sl [])]) fun r1=>
 some [s1,(rt (r1.drop 0) 0)]
 else
 bif (s2.toList==zk.toList) then
 obind (C aK [a0,s3,(T.sl [])]) fun r2=>
 some [s1,(rt (r2.drop 0) 0)]
 else
 bif (s2.toList==k_false.toList) then
 obind (C aK [a0,s3,(T.sl [])]) fun r3=>
 some [s1,(rt (r3.drop 0) 0)]
 else
 bif (s2.toList==k_me.toList) then
 obind (C aK [a0,(T.str k_o),(T.sl [])]) fun r4=>
 some [s1,(rt (r4.drop 0) 0)]
 else
 bif (s2.toList==k_add.toList) then
 obind (C aR [a0,s0]) fun r5=>
 obind (C aR [(rt (r5.drop 1) 0),s0]) fun r6=>
 obind (C aK [(rt (r6.drop 1) 0),s4,(T.sl [])]) fun r7=>
 some [s1,(rt (r7.drop 0) 0)]
 else
 bif (s2.toList==k_sub.toList) then
 obind (C aR [a0,s0]) fun r8=>
 obind (C aR [(rt (r8.drop 1) 0),s0]) fun r9=>
 obind (C aK [(rt (r9.drop 1) 0),s4,(T.sl [])]) fun r10=>
 some [s1,(rt (r10.drop 0) 0)]
 else
 bif (s2.toList==k_mul.toList) then
 obind (C aR [a0,s0]) fun r11=>
 obind (C aR [(rt (r11.drop 1) 0),s0]) fun r12=>
 obind (C aK [(rt (r12.drop 1) 0),s4,(T.sl [])]) fun r13=>
 some [s1,(rt (r13.drop 0) 0)]
 else
 bif (s2.toList==k_div.toList) then
 obind (C aR [a0,s0]) fun r14=>
 obind (C aR [(rt (r14.drop 1) 0),s0]) fun r15=>
 obind (C aK [(rt (r15.drop 1) 0),s4,(T.sl [])]) fun r16=>
 some [s1,(rt (r16.drop 0) 0)]
 else
 bif (s2.toList==k_mod.toList) then
 obind (C aR [a0,s0]) fun r17=>
 obind (C aR [(rt (r17.drop 1) 0),s0]) fun r18=>
 obind (C aK [(rt (r18.drop 1) 0),s4,(T.sl [])]) fun r19=>
 some [s1,(rt (r19.drop 0) 0)]
 else
 bif (s2.toList==k_less.toList) then
 obind (C aR [a0,s0]) fun r20=>
 obind (C aR [(rt (r20.drop 1) 0),s0]) fun r21=>
 obind (C aK [(rt (r21.drop 1) 0),s3,(T.sl [])]) fun r22=>
 some [s1,(rt (r22.drop 0) 0)]
 else
 bif (s2.toList==k_and.toList) then
 obind (C aR [a0,s5]) fun r23=>
 obind (C aR [(rt (r23.drop 1) 0),s5]) fun r24=>
 obind (C aK [(rt (r24.drop 1) 0),s3,(T.sl [])]) fun r25=>
 some [s1,(rt (r25.drop 0) 0)]
 else
 bif (s2.toList==k_or.toList) then
 obind (C aR [a0,s5]) fun r26=>
 obind (C aR [(rt (r26.drop 1) 0),s5]) fun r27=>
 obind (C aK [(rt (r27.drop 1) 0),s3,(T.sl [])]) fun r28=>
 some [s1,(rt (r28.drop 0) 0)]
 else
 bif (s2.toList==k_not.toList) then
 obind (C aR [a0,s5]) fun r29=>
 obind (C aK [(rt (r29.drop 1) 0),s3,(T.sl [])]) fun r30=>
 some [s1,(rt (r30.drop 0) 0)]
 else
 bif (s2.toList==k_same.toList) then
 obind (C aR [a0,(T.sl [])]) fun r31=>
 obind (C aR [(rt (r31.drop 1) 0),(T.sl [((rt r31 0).fld 0)])]) fun r32=>
 obind (C bO [((rt r31 0).fld 0)]) fun r33=>
 obind (C aM [(rt (r32.drop 1) 0),(T.bool (!(rt r33 0).b)),(T.int (1:Int))]) fun r34=>
 bif (((rt (r34.drop 0) 0).fld 5).i != (0:Int)) then
 obind (C aM [(rt (r34.drop 0) 0),s1,(T.int (3:Int))]) fun r35=>
 obind (C aK [(rt (r35.drop 0) 0),s3,(T.sl [])]) fun r36=>
 some [s1,(rt (r36.drop 0) 0)]
 else
 obind (C cu [(rt (r34.drop 0) 0),((rt r31 0).fld 0),(T.int (2:Int))]) fun r37=>
 obind (C aM [(rt (r37.drop 1) 0),(rt r37 0),(T.int (3:Int))]) fun r38=>
 obind (C aK [(rt (r38.drop 0) 0),s3,(T.sl [])]) fun r39=>
 some [s1,(rt (r39.drop 0) 0)]
 else
 bif (s2.toList==Ko.toList) then
 some [s1,a0]
 else
 bif (s2.toList==dz.toList) then
 obind (C aR [a0,s5]) fun r40=>
 some [s1,(rt (r40.drop 1) 0)]
 else
 bif (s2.toList==bm.toList) then
 obind (C aR [a0,s0]) fun r41=>
 some [s1,(rt (r41.drop 1) 0)]
 else
 some [(T.bool false),a0]) (T.sl [s3])) (T.str k_n)) (T.str k_b)) ((a1.fld 0).s)) (T.bool true)) (T.sl [(T.str k_n)])
theorem tX (a0 a1:T) (h:Yields (fun k=>kB (hl env k jQ) (cl env k) a0 a1) r):Yields (fun k=>cl env k ky [a0,a1]) r:=Yields.ca (kB · · a0 a1) h (by kernel_rfl)
noncomputable abbrev jI (H:HT) (C:aF) (a0 a1:T):R:=
 (fun s0=>
 (fun s1=>
 (fun s2=>
 (fun s3=>
 bif (s3.toList==k_copy.toList) then
 obind (C fq [a0,s0]) fun r1=>
 (fun s4=>
 bif (rt r1 0).b then
 bif (decide (0≤s0.i)&&decide ((s0.i).toNat < (s4.es).length)) then
 obind (C cu [(rt (r1.drop 1) 0),((s4.nth s2).fld 0),(T.int (1:Int))]) fun r2=>
 obind (C aM [(rt (r2.drop 1) 0),(rt r2 0),(T.int (3:Int))]) fun r3=>
 obind (C bO [((s4.nth s2).fld 0)]) fun r4=>
 (fun s5=>
 bif (s5||(!s5)) then
 bif (s5||(!s5)) then
 bif (s5||(!s5)) then
 bif (s5||(!s5)) then
 bif ((s5&&(s5&&true))||(!s5)) then
 obind ((bif s5 then C O1 [(T.st [(((rt (r3.drop 0) 0).fld 4).fld 0),(((rt (r3.drop 0) 0).fld 4).fld 1)]),s0] else some [])) fun r5=>
 bif (s5||(!s5)) then
 bif (bif (rt r4 0).b then true else s5) then
 obind (C aM [(rt (r3.drop 0) 0),(bif (rt r4 0).b then s1 else (T.bool (!(rt r5 0).b))),(T.int (4:Int))]) fun r6=>
 obind (C aK [(rt (r6.drop 0) 0),((s4.nth s2).fld 0),((s4.nth s2).fld 1)]) fun r7=>
 some [s1,(rt (r7.drop 0) 0)]
 else
 none
 else
 none
 else
 none
 else
 none
 else
 none
 else
 none
 else
 none) ((rt r4 0).b==false)
 else
 none
 else
 some [s1,(rt (r1.drop 1) 0)]) (((rt (r1.drop 1) 0).fld 4).fld 1)
 else
 bif (s3.toList==od.toList) then
 obind (C fq [a0,s0]) fun r8=>
 (fun s6=>
 bif (rt r8 0).b then
 bif (decide (0≤s0.i)&&decide ((s0.i).toNat < (((s6.fld 4).fld 1).es).length)) then
 obind (C cr [(T.st [((s6.fld 4).fld 0),((s6.fld 4).fld 1)]),s0]) fun r9=>
 obind (C aM [s6,(T.bool (!(rt r9 0).b)),(T.int (4:Int))]) fun r10=>
 bif (decide (0≤s0.i)&&decide ((s0.i).toNat < ((((rt (r10.drop 0) 0).fld 4).fld 1).es).length)) then
 obind (C aK [(T.put (rt (r10.drop 0) 0) [.fld 4,.fld 1,.idx s2] (T.st [(T.str (⟨#[]⟩:ByteArray)),(T.sl [])])),((((s6.fld 4).fld 1).nth s2).fld 0),((((s6.fld 4).fld 1).nth s2).fld 1)]) fun r11=>
 some [s1,(rt (r11.drop 0) 0)]
 else
 none
 else
 none
 else
 some [s1,s6]) (rt (r8.drop 1) 0)
 else
 bif (s3.toList==k_put.toList) then
 obind (C mi [a0,s0]) fun r12=>
 some [s1,(rt (r12.drop 0) 0)]
 else
 bif (s3.toList==vT.toList) then
 obind (C aR [a0,(T.sl [])]) fun r13=>
 bif (((rt (r13.drop 1) 0).fld 5).i != (0:Int)) then
 obind (C aM [(rt (r13.drop 1) 0),s1,(T.int (3:Int))]) fun r14=>
 some [s1,(rt (r14.drop 0) 0)]
 else
 obind (C cu [(rt (r13.drop 1) 0),((rt r13 0).fld 0),(T.int (2:Int))]) fun r15=>
 obind (C aM [(rt (r15.drop 1) 0),(rt r15 0),(T.int (3:Int))]) fun r16=>
 some [s1,(rt (r16.drop 0) 0)]
 else
 bif (s3.toList==k_lend.toList) then
 obind (C iw [a0,a1]) fun r17=>
 some [s1,(rt (r17.drop 0) 0)]
 else
 bif (s3.toList==k_lendw.toList) then
 obind (C iw [a0,a1]) fun r18=>
 some [s1,(rt (r18.drop 0) 0)]
 else
 some [(T.bool false),a0]) ((a1.fld 0).s)) ((s0.i).toNat)) (T.bool true)) (a1.fld 1)
theorem tq (a0 a1:T) (h:Yields (fun k=>jI (hl env k jn) (cl env k) a0 a1) r):Yields (fun k=>cl env k jF [a0,a1]) r:=Yields.ca (jI · · a0 a1) h (by kernel_rfl)
noncomputable def dS (H:HT) (x1 x2 x3 x4:T):R:=H (bS bC.body 0) ([(0,.pref 174 100000 []),(3,.pref 97 3 []),(5,.val 9 x1),(6,.val 3 x2)],[(100000,⟨174,x3,(.st [.fz,.fz,.dp,.fz,(.st [(.sl (.st [.dp,.fz])),(.sl (.st [.dp,.fz]))]),.dp]),true⟩),(3,⟨97,x4,.dp,true⟩)])
noncomputable def dT (H:HT) (x1 x2 x3 x4:T):R:=H (bS bC.body 1) ([(0,.pref 174 100000 []),(3,.pref 97 3 []),(8,.val 9 x1),(9,.val 3 x2)],[(100000,⟨174,x3,(.st [.fz,.fz,.dp,.fz,(.st [(.sl (.st [.dp,.fz])),(.sl (.st [.dp,.fz]))]),.dp]),true⟩),(3,⟨97,x4,.dp,true⟩)])
noncomputable abbrev jm (H:HT) (C:aF) (a0 a1:T):R:=
 (fun s0=>
 (fun s1=>
 (fun s2=>
 (fun s3=>
 (fun s4=>
 (fun s5=>
 (fun s6=>
 (fun s7=>
 bif (s6.toList==q7.toList) then
 obind (C eZ [a0,s7]) fun r1=>
 dS H (rt r1 0) (T.int (0:Int)) (rt (r1.drop 1) 0) a1
 else
 bif (s6.toList==lT.toList) then
 obind (C eZ [a0,s7]) fun r2=>
 obind (C aR [(rt (r2.drop 1) 0),(T.sl [(rt r2 0)])]) fun r3=>
 dT H (rt r2 0) (T.int (0:Int)) (rt (r3.drop 1) 0) a1
 else
 bif (s6.toList==k_field.toList) then
 obind (C eZ [a0,s5]) fun r4=>
 (fun s8=>
 (fun s9=>
 (fun s10=>
 bif (s8||(!s8)) then
 bif (s8||(!s8)) then
 bif (s8||(!s8)) then
 bif (s8||(!s8)) then
 bif (s8||(!s8)) then
 bif (s8||(!s8)) then
 bif (s8||(!s8)) then
 bif (((s8&&(s8&&true))&&(decide (0≤(s9.fld 2).i)&&decide (((s9.fld 2).i).toNat < ((s9.fld 1).es).length)))||(!s8)) then
 bif (s8||(!s8)) then
 bif (s8||(!s8)) then
 bif (((s8&&(s8&&true))&&(decide (0≤s5.i)&&decide ((s5.i).toNat < (((s9.fld 1).nth (((s9.fld 2).i).toNat)).es).length)))||(!s8)) then
 bif (s8||(!s8)) then
 bif (s8||(!s8)) then
 bif (s8||(!s8)) then
 bif (((s8&&s8)&&true)||(!s8)) then
 bif (bif (s10.toList==s0.toList) then true else s8) then
 bif (bif (s10.toList==s0.toList) then s1 else (T.bool (decide (s7.i≥((((((s9.fld 1).nth (((s9.fld 2).i).toNat)).nth ((s5.i).toNat)).fld 1).es).length:Int))))).b then
 obind (C cw [s9,(T.int (5:Int))]) fun r5=>
 some [s1,(rt (r5.drop 0) 0)]
 else
 bif (decide (cX.size+s10.size≤LIM)) then
 bif (decide (cI.size+s10.size≤LIM)) then
 obind (C aR [s9,(T.sl [(T.str (cX++s10)),(T.str (cI++s10))])]) fun r6=>
 (fun s11=>
 (fun s12=>
 bif ((s11.fld 5).i==(0:Int)) then
 bif (decide (0≤(0:Int))&&(decide ((0:Int)≤(1:Int))&&(decide ((1:Int)≤(s12.size:Int))&&decide ((s12.size:Int)≤(s12.size:Int))))) then
 bif (decide (0≤(s11.fld 2).i)&&decide (((s11.fld 2).i).toNat < ((s11.fld 1).es).length)) then
 bif (decide (0≤s5.i)&&decide ((s5.i).toNat < (((s11.fld 1).nth (((s11.fld 2).i).toNat)).es).length)) then
 bif (decide (0≤s7.i)&&decide ((s7.i).toNat < (((((s11.fld 1).nth (((s11.fld 2).i).toNat)).nth ((s5.i).toNat)).fld 1).es).length)) then
 bif (decide ((s12.extract 0 1).size+((((((s11.fld 1).nth (((s11.fld 2).i).toNat)).nth ((s5.i).toNat)).fld 1).nth ((s7.i).toNat)).s).size≤LIM)) then
 obind (C aK [s11,(T.str ((s12.extract 0 1)++((((((s11.fld 1).nth (((s11.fld 2).i).toNat)).nth ((s5.i).toNat)).fld 1).nth ((s7.i).toNat)).s))),((rt r6 0).fld 1)]) fun r7=>
 some [s1,(rt (r7.drop 0) 0)]
 else
 none
 else
 none
 else
 none
 else
 none
 else
 none
 else
 some [s1,s11]) (((rt r6 0).fld 0).s)) (rt (r6.drop 1) 0)
 else
 none
 else
 none
 else
 none
 else
 none
 else
 none
 else
 none
 else
 none
 else
 none
 else
 none
 else
 none
 else
 none
 else
 none
 else
 none
 else
 none
 else
 none
 else
 none
 else
 none
 else
 none) ((rt r4 0).s)) (rt (r4.drop 1) 0)) ((((rt r4 0).s).toList==s0.toList)==false)
 else
 bif (s6.toList==k_read.toList) then
 obind (C aR [a0,(T.sl [])]) fun r8=>
 (fun s13=>
 obind (C bO [s13]) fun r9=>
 obind (C aM [(rt (r8.drop 1) 0),(rt r9 0),s3]) fun r10=>
 bif (((rt (r10.drop 0) 0).fld 5).i != (0:Int)) then
 obind (C aM [(rt (r10.drop 0) 0),s1,s4]) fun r11=>
 bif s2 then
 obind (C aK [(rt (r11.drop 0) 0),s13,((rt r8 0).fld 1)]) fun r12=>
 obind (C cx [s13]) fun r13=>
 obind (C aK [(rt (r12.drop 0) 0),(rt r13 0),(T.sl [])]) fun r14=>
 some [s1,(rt (r14.drop 0) 0)]
 else
 obind (C cx [s13]) fun r15=>
 obind (C aK [(rt (r11.drop 0) 0),(rt r15 0),(T.sl [])]) fun r16=>
 some [s1,(rt (r16.drop 0) 0)]
 else
 obind (C cx [s13]) fun r17=>
 obind (C cu [(rt (r10.drop 0) 0),(rt r17 0),s3]) fun r18=>
 obind (C aM [(rt (r18.drop 1) 0),(rt r18 0),s4]) fun r19=>
 bif s2 then
 obind (C aK [(rt (r19.drop 0) 0),s13,((rt r8 0).fld 1)]) fun r20=>
 obind (C cx [s13]) fun r21=>
 obind (C aK [(rt (r20.drop 0) 0),(rt r21 0),(T.sl [])]) fun r22=>
 some [s1,(rt (r22.drop 0) 0)]
 else
 obind (C cx [s13]) fun r23=>
 obind (C aK [(rt (r19.drop 0) 0),(rt r23 0),(T.sl [])]) fun r24=>
 some [s1,(rt (r24.drop 0) 0)]) ((rt r8 0).fld 0)
 else
 bif s2 then
 obind (C aR [a0,(T.sl [])]) fun r25=>
 (fun s14=>
 obind (C bO [s14]) fun r26=>
 obind (C aM [(rt (r25.drop 1) 0),(rt r26 0),s3]) fun r27=>
 bif (((rt (r27.drop 0) 0).fld 5).i != (0:Int)) then
 obind (C aM [(rt (r27.drop 0) 0),s1,s4]) fun r28=>
 bif s2 then
 obind (C aK [(rt (r28.drop 0) 0),s14,((rt r25 0).fld 1)]) fun r29=>
 obind (C cx [s14]) fun r30=>
 obind (C aK [(rt (r29.drop 0) 0),(rt r30 0),(T.sl [])]) fun r31=>
 some [s1,(rt (r31.drop 0) 0)]
 else
 obind (C cx [s14]) fun r32=>
 obind (C aK [(rt (r28.drop 0) 0),(rt r32 0),(T.sl [])]) fun r33=>
 some [s1,(rt (r33.drop 0) 0)]
 else
 obind (C cx [s14]) fun r34=>
 obind (C cu [(rt (r27.drop 0) 0),(rt r34 0),s3]) fun r35=>
 obind (C aM [(rt (r35.drop 1) 0),(rt r35 0),s4]) fun r36=>
 bif s2 then
 obind (C aK [(rt (r36.drop 0) 0),s14,((rt r25 0).fld 1)]) fun r37=>
 obind (C cx [s14]) fun r38=>
 obind (C aK [(rt (r37.drop 0) 0),(rt r38 0),(T.sl [])]) fun r39=>
 some [s1,(rt (r39.drop 0) 0)]
 else
 obind (C cx [s14]) fun r40=>
 obind (C aK [(rt (r36.drop 0) 0),(rt r40 0),(T.sl [])]) fun r41=>
 some [s1,(rt (r41.drop 0) 0)]) ((rt r25 0).fld 0)
 else
 bif (s6.toList==k_write.toList) then
 obind (C aR [a0,(T.sl [])]) fun r42=>
 bif (decide (cI.size+(((rt r42 0).fld 0).s).size≤LIM)) then
 obind (C aR [(rt (r42.drop 1) 0),(T.sl [(T.str (cI++(((rt r42 0).fld 0).s)))])]) fun r43=>
 bif (((rt (r43.drop 1) 0).fld 5).i != (0:Int)) then
 obind (C aM [(rt (r43.drop 1) 0),s1,s4]) fun r44=>
 some [s1,(rt (r44.drop 0) 0)]
 else
 obind (C cu [(rt (r43.drop 1) 0),((rt r42 0).fld 0),(T.int (2:Int))]) fun r45=>
 obind (C aM [(rt (r45.drop 1) 0),(rt r45 0),s4]) fun r46=>
 some [s1,(rt (r46.drop 0) 0)]
 else
 none
 else
 bif (s6.toList==k_freeze.toList) then
 obind (C aR [a0,(T.sl [])]) fun r47=>
 (fun s15=>
 obind (C bO [s15]) fun r48=>
 bif (rt r48 0).b then
 bif (decide (0≤(0:Int))&&decide (0 < (s15.s).size)) then
 obind (C aM [(rt (r47.drop 1) 0),(T.bool (((s15.s).data.getD 0 0).toNat==(33:Int))),s3]) fun r49=>
 obind (C cx [s15]) fun r50=>
 bif (decide (cX.size+((rt r50 0).s).size≤LIM)) then
 obind (C aK [(rt (r49.drop 0) 0),(T.str (cX++((rt r50 0).s))),((rt r47 0).fld 1)]) fun r51=>
 some [s1,(rt (r51.drop 0) 0)]
 else
 none
 else
 none
 else
 obind (C aM [(rt (r47.drop 1) 0),(T.bool false),s3]) fun r52=>
 obind (C cx [s15]) fun r53=>
 bif (decide (cX.size+((rt r53 0).s).size≤LIM)) then
 obind (C aK [(rt (r52.drop 0) 0),(T.str (cX++((rt r53 0).s))),((rt r47 0).fld 1)]) fun r54=>
 some [s1,(rt (r54.drop 0) 0)]
 else
 none) ((rt r47 0).fld 0)
 else
 some [(T.bool false),a0]) (a1.fld 1)) ((a1.fld 0).s)) (a1.fld 2)) (T.int (3:Int))) (T.int (1:Int))) (((a1.fld 0).s).toList==t7.toList)) (T.bool true)) (⟨#[]⟩:ByteArray)
theorem sw (a0 a1:T) (h:Yields (fun k=>jm (hl env k bC) (cl env k) a0 a1) r):Yields (fun k=>cl env k jj [a0,a1]) r:=Yields.ca (jm · · a0 a1) h (by kernel_rfl)
noncomputable abbrev dQ (H:HT) (C:aF) (x1 x2 x3 x4:T):R:=
 (fun s0=>
 (fun s1=>
 (fun s2=>
 (fun s3=>
 (fun s4=>
 (fun s5=>
 (fun s6=>
 bif s4 then
 bif s4 then
 bif s4 then
 bif s4 then
 bif s4 then
 bif s4 then
 bif (((s0&&(s0&&true))&&s5)||(!s0)) then
 bif s4 then
 bif s4 then
 bif (((s0&&(s0&&true))&&s3)||(!s0)) then
 bif s4 then
 bif s4 then
 bif s4 then
 bif (((s0&&s0)&&true)||(!s0)) then
 bif (bif s6 then s0 else true) then
 bif (bif s6 then (T.bool (decide (x2.i < ((s1.es).length:Int)))) else (T.bool false)).b then
 bif s5 then
 bif s3 then
 bif (decide (0≤s2)&&decide (s2.toNat < (s1.es).length)) then
 obind (C aR [x3,(T.sl [(s1.nth (s2.toNat))])]) fun r1=>
 dS H x1 (T.int (IntKind.wrap .i64 (x2.i+(1:Int)))) (rt (r1.drop 1) 0) x4
 else
 none
 else
 none
 else
 none
 else
 obind (C aK [x3,x1,(T.sl [])]) fun r2=>
 some [(T.bool true),(rt (r2.drop 0) 0)]
 else
 none
 else
 none
 else
 none
 else
 none
 else
 none
 else
 none
 else
 none
 else
 none
 else
 none
 else
 none
 else
 none
 else
 none
 else
 none
 else
 none
 else
 none) (!(x1.s.toList==(⟨#[]⟩:ByteArray).toList))) (decide (0≤(x3.fld 2).i)&&decide (((x3.fld 2).i).toNat < ((x3.fld 1).es).length))) (s0||(!s0))) (decide (0≤(x4.fld 1).i)&&decide (((x4.fld 1).i).toNat < (((x3.fld 1).nth (((x3.fld 2).i).toNat)).es).length))) (IntKind.wrap .i64 ((IntKind.wrap .i64 (((s1.es).length:Int) - (1:Int))) - x2.i))) ((((x3.fld 1).nth (((x3.fld 2).i).toNat)).nth (((x4.fld 1).i).toNat)).fld 1)) ((!(x1.s.toList==(⟨#[]⟩:ByteArray).toList))==true)
theorem io (x1 x2 x3 x4:T) (h:Yields (fun k=>dQ (hl env k bC) (cl env k) x1 x2 x3 x4) r):Yields (fun k=>dS (hl env k bC) x1 x2 x3 x4) r:=Yields.hd (dQ · · x1 x2 x3 x4) h (by kernel_rfl)
noncomputable abbrev dR (H:HT) (C:aF) (x1 x2 x3 x4:T):R:=
 (fun s0=>
 (fun s1=>
 (fun s2=>
 (fun s3=>
 (fun s4=>
 (fun s5=>
 (fun s6=>
 bif s2 then
 bif s2 then
 bif s2 then
 bif s2 then
 bif s2 then
 bif s2 then
 bif (((s0&&(s0&&true))&&s3)||(!s0)) then
 bif s2 then
 bif s2 then
 bif (((s0&&(s0&&true))&&s4)||(!s0)) then
 bif s2 then
 bif s2 then
 bif s2 then
 bif (((s0&&s0)&&true)||(!s0)) then
 bif (bif s6 then s0 else true) then
 bif (bif s6 then (T.bool (decide (x2.i < ((s5.es).length:Int)))) else (T.bool false)).b then
 bif s3 then
 bif s4 then
 bif (decide (0≤x2.i)&&decide (x2.i.toNat < (s5.es).length)) then
 obind (C aK [x3,(s5.nth x2.i.toNat),(T.sl [])]) fun r1=>
 dT H x1 (T.int (IntKind.wrap .i64 (x2.i+(1:Int)))) (rt (r1.drop 0) 0) x4
 else
 none
 else
 none
 else
 none
 else
 some [(T.bool true),x3]
 else
 none
 else
 none
 else
 none
 else
 none
 else
 none
 else
 none
 else
 none
 else
 none
 else
 none
 else
 none
 else
 none
 else
 none
 else
 none
 else
 none
 else
 none) (!(x1.s.toList==(⟨#[]⟩:ByteArray).toList))) ((s1.nth (((x4.fld 1).i).toNat)).fld 1)) (decide (0≤(x4.fld 1).i)&&decide (((x4.fld 1).i).toNat < (s1.es).length))) (decide (0≤(x3.fld 2).i)&&decide (((x3.fld 2).i).toNat < ((x3.fld 1).es).length))) (s0||(!s0))) ((x3.fld 1).nth (((x3.fld 2).i).toNat))) ((!(x1.s.toList==(⟨#[]⟩:ByteArray).toList))==true)
theorem ip (x1 x2 x3 x4:T) (h:Yields (fun k=>dR (hl env k bC) (cl env k) x1 x2 x3 x4) r):Yields (fun k=>dT (hl env k bC) x1 x2 x3 x4) r:=Yields.hd (dR · · x1 x2 x3 x4) h (by kernel_rfl)
noncomputable abbrev cC (H:HT) (C:aF) (a0 a1:T):R:=
 (fun s0=>
 (fun s1=>
 (fun s2=>
 (fun s3=>
 (fun s4=>
 (fun s5=>
 (fun s6=>
 (fun s7=>
 (fun s8=>
 (fun s9=>
 (fun s10=>
 (fun s11=>
 (fun s12=>
 (fun s13=>
 bif (s13||(!s13)) then
 bif (((s13&&true)&&true)||(!s13)) then
 bif (bif (!s2) then s13 else true) then
 bif ((s5.b==true)||(!(s5.b==true))) then
 bif ((((s5.b==true)&&true)&&true)||(!(s5.b==true))) then
 bif (bif s5.b then (s5.b==true) else true) then
 bif ((s1.b==true)||(!(s1.b==true))) then
 bif ((((s1.b==true)&&true)&&true)||(!(s1.b==true))) then
 bif (bif s1.b then (s1.b==true) else true) then
 bif ((s3.b==true)||(!(s3.b==true))) then
 bif ((((s3.b==true)&&true)&&true)||(!(s3.b==true))) then
 bif (bif s3.b then (s3.b==true) else true) then
 bif (bif s3.b then (T.bool (!s12)) else (T.bool false)).b then
 some [(T.bool false),a0]
 else
 obind (C eZ [a0,(a1.fld 1)]) fun r1=>
 (fun s14=>
 bif (s14.toList==(⟨#[]⟩:ByteArray).toList) then
 obind (C aM [(rt (r1.drop 1) 0),s7,(T.int (5:Int))]) fun r2=>
 bif (s8||(!s8)) then
 bif (((s8&&true)&&true)||(!s8)) then
 bif (bif s2 then true else s8) then
 bif s9 then
 bif s9 then
 bif s9 then
 bif s9 then
 bif s9 then
 bif ((s6&&(s6&&true))||(!s6)) then
 obind ((bif s6 then C dY [(((rt (r2.drop 0) 0).fld 3).fld 4),(a1.fld 1)] else some [])) fun r3=>
 bif (bif s0.b then true else s6) then
 obind (C aM [(rt (r2.drop 0) 0),(bif s0.b then s7 else (rt r3 0)),(T.int (5:Int))]) fun r4=>
 obind (C aR [(rt (r4.drop 0) 0),(T.sl [(T.str k_o)])]) fun r5=>
 (fun s15=>
 bif s2 then
 obind (C aR [s15,(T.sl [(rt r1 0)])]) fun r6=>
 some [s7,(rt (r6.drop 1) 0)]
 else
 bif (s10.toList==cJ.toList) then
 obind (C cr [(T.st [((s15.fld 4).fld 0),((s15.fld 4).fld 1)]),s4]) fun r7=>
 obind (C aM [s15,(T.bool (!(rt r7 0).b)),s11]) fun r8=>
 obind (C aK [(rt (r8.drop 0) 0),(rt r1 0),(T.sl [])]) fun r9=>
 some [s7,(rt (r9.drop 0) 0)]
 else
 bif (s10.toList==bv.toList) then
 obind (C aK [s15,(T.str k_b),(T.sl [])]) fun r10=>
 some [s7,(rt (r10.drop 0) 0)]
 else
 bif (s10.toList==kt.toList) then
 obind (C O1 [(T.st [((s15.fld 4).fld 0),((s15.fld 4).fld 1)]),s4]) fun r11=>
 obind (C aM [s15,(T.bool (!(rt r11 0).b)),s11]) fun r12=>
 bif (decide (cX.size+s14.size≤LIM)) then
 obind (C aK [(rt (r12.drop 0) 0),(T.str (cX++s14)),(T.sl [s4])]) fun r13=>
 some [s7,(rt (r13.drop 0) 0)]
 else
 none
 else
 bif s12 then
 obind (C cr [(T.st [((s15.fld 4).fld 0),((s15.fld 4).fld 1)]),s4]) fun r14=>
 obind (C aM [s15,(T.bool (!(rt r14 0).b)),s11]) fun r15=>
 bif (decide (cI.size+s14.size≤LIM)) then
 obind (C aK [(rt (r15.drop 0) 0),(T.str (cI++s14)),(T.sl [s4])]) fun r16=>
 some [s7,(rt (r16.drop 0) 0)]
 else
 none
 else
 some [s7,s15]) (rt (r5.drop 1) 0)
 else
 none
 else
 none
 else
 none
 else
 none
 else
 none
 else
 none
 else
 none
 else
 none
 else
 none
 else
 none
 else
 obind (C cu [(rt (r1.drop 1) 0),(rt r1 0),(T.int (8:Int))]) fun r17=>
 obind (C aM [(rt (r17.drop 1) 0),(rt r17 0),(T.int (5:Int))]) fun r18=>
 bif (s8||(!s8)) then
 bif (((s8&&true)&&true)||(!s8)) then
 bif (bif s2 then true else s8) then
 bif s9 then
 bif s9 then
 bif s9 then
 bif s9 then
 bif s9 then
 bif ((s6&&(s6&&true))||(!s6)) then
 obind ((bif s6 then C dY [(((rt (r18.drop 0) 0).fld 3).fld 4),(a1.fld 1)] else some [])) fun r19=>
 bif (bif s0.b then true else s6) then
 obind (C aM [(rt (r18.drop 0) 0),(bif s0.b then s7 else (rt r19 0)),(T.int (5:Int))]) fun r20=>
 obind (C aR [(rt (r20.drop 0) 0),(T.sl [(T.str k_o)])]) fun r21=>
 (fun s16=>
 bif s2 then
 obind (C aR [s16,(T.sl [(rt r1 0)])]) fun r22=>
 some [s7,(rt (r22.drop 1) 0)]
 else
 bif (s10.toList==cJ.toList) then
 obind (C cr [(T.st [((s16.fld 4).fld 0),((s16.fld 4).fld 1)]),s4]) fun r23=>
 obind (C aM [s16,(T.bool (!(rt r23 0).b)),s11]) fun r24=>
 obind (C aK [(rt (r24.drop 0) 0),(rt r1 0),(T.sl [])]) fun r25=>
 some [s7,(rt (r25.drop 0) 0)]
 else
 bif (s10.toList==bv.toList) then
 obind (C aK [s16,(T.str k_b),(T.sl [])]) fun r26=>
 some [s7,(rt (r26.drop 0) 0)]
 else
 bif (s10.toList==kt.toList) then
 obind (C O1 [(T.st [((s16.fld 4).fld 0),((s16.fld 4).fld 1)]),s4]) fun r27=>
 obind (C aM [s16,(T.bool (!(rt r27 0).b)),s11]) fun r28=>
 bif (decide (cX.size+s14.size≤LIM)) then
 obind (C aK [(rt (r28.drop 0) 0),(T.str (cX++s14)),(T.sl [s4])]) fun r29=>
 some [s7,(rt (r29.drop 0) 0)]
 else
 none
 else
 bif s12 then
 obind (C cr [(T.st [((s16.fld 4).fld 0),((s16.fld 4).fld 1)]),s4]) fun r30=>
 obind (C aM [s16,(T.bool (!(rt r30 0).b)),s11]) fun r31=>
 bif (decide (cI.size+s14.size≤LIM)) then
 obind (C aK [(rt (r31.drop 0) 0),(T.str (cI++s14)),(T.sl [s4])]) fun r32=>
 some [s7,(rt (r32.drop 0) 0)]
 else
 none
 else
 some [s7,s16]) (rt (r21.drop 1) 0)
 else
 none
 else
 none
 else
 none
 else
 none
 else
 none
 else
 none
 else
 none
 else
 none
 else
 none
 else
 none) ((rt r1 0).s)
 else
 none
 else
 none
 else
 none
 else
 none
 else
 none
 else
 none
 else
 none
 else
 none
 else
 none
 else
 none
 else
 none
 else
 none) ((!s2)==true)) (s10.toList==rm.toList)) (T.int (4:Int))) ((a1.fld 0).s)) (s6||(!s6))) (s2==false)) (T.bool true)) (s0.b==false)) (bif (!s2) then (T.bool (!(((a1.fld 0).s).toList==cJ.toList))) else (T.bool false))) (T.int (IntKind.wrap .i64 ((6:Int)+(a1.fld 1).i)))) (bif s1.b then (T.bool (!(((a1.fld 0).s).toList==kt.toList))) else (T.bool false))) (((a1.fld 0).s).toList==aT.toList)) (bif (bif (!(((a1.fld 0).s).toList==aT.toList)) then (T.bool (!(((a1.fld 0).s).toList==cJ.toList))) else (T.bool false)).b then (T.bool (!(((a1.fld 0).s).toList==bv.toList))) else (T.bool false))) (bif (((a1.fld 0).s).toList==aT.toList) then (T.bool true) else (T.bool (((a1.fld 0).s).toList==bv.toList)))
theorem dt (a0 a1:T) (h:Yields (fun k=>cC (hl env k jo) (cl env k) a0 a1) r):Yields (fun k=>cl env k cm [a0,a1]) r:=Yields.ca (cC · · a0 a1) h (by kernel_rfl)
noncomputable abbrev iG (H:HT) (C:aF) (a0 a1 a2:T):R:=
 bif (!a1.b) then
 obind (C cw [a0,a2]) fun r1=>
 some [(rt (r1.drop 0) 0)]
 else
 some [a0]
theorem qm (a0 a1 a2:T) (h:Yields (fun k=>iG (hl env k kK) (cl env k) a0 a1 a2) r):Yields (fun k=>cl env k aM [a0,a1,a2]) r:=Yields.ca (iG · · a0 a1 a2) h (by kernel_rfl)
noncomputable def gy (H:HT) (x1 x2 x3 x4:T):R:=H (bS bn.body 0) ([(0,.pref 174 100000 []),(3,.pref 97 3 []),(4,.pref 34 4 []),(5,.val 3 x1)],[(100000,⟨174,x2,(.st [.fz,.fz,.dp,.fz,(.st [(.sl (.st [.dp,.fz])),(.sl (.st [.dp,.fz]))]),.dp]),true⟩),(3,⟨97,x3,.dp,true⟩),(4,⟨34,x4,.fz,true⟩)])
noncomputable def gz (H:HT) (x1 x2 x3 x4 x5:T):R:=H (bS bn.body 1) ([(0,.pref 174 100000 []),(3,.pref 97 3 []),(4,.pref 34 4 []),(6,.val 4 x1),(7,.val 3 x2)],[(100000,⟨174,x3,(.st [.fz,.fz,.dp,.fz,(.st [(.sl (.st [.dp,.fz])),(.sl (.st [.dp,.fz]))]),.dp]),true⟩),(3,⟨97,x4,.dp,true⟩),(4,⟨34,x5,.fz,true⟩)])
noncomputable def gA (H:HT) (x1 x2 x3 x4 x5:T):R:=H (bS bn.body 2) ([(0,.pref 174 100000 []),(4,.pref 34 4 []),(6,.val 4 x1),(8,.val 28 x2),(9,.val 3 x3)],[(100000,⟨174,x4,(.st [.fz,.fz,.dp,.fz,(.st [(.sl (.st [.dp,.fz])),(.sl (.st [.dp,.fz]))]),.dp]),true⟩),(4,⟨34,x5,.fz,true⟩)])
noncomputable def eW (H:HT) (x1 x2 x3 x4:T):R:=H (bS bn.body 3) ([(0,.pref 174 100000 []),(4,.pref 34 4 []),(8,.val 28 x1),(10,.val 3 x2)],[(100000,⟨174,x3,(.st [.fz,.fz,.dp,.fz,(.st [(.sl (.st [.dp,.fz])),(.sl (.st [.dp,.fz]))]),.dp]),true⟩),(4,⟨34,x4,.fz,true⟩)])
noncomputable abbrev lF (H:HT) (C:aF) (a0 a1:T):R:=
 (fun s0=>
 obind (C mf [(a0.fld 0),(a0.fld 2),(a1.fld 1),(a1.fld 2)]) fun r1=>
 bif (!(rt r1 0).b) then
 obind (C cw [a0,(T.int (6:Int))]) fun r2=>
 some [(rt (r2.drop 0) 0)]
 else
 bif (decide (0≤(a1.fld 1).i)&&decide (((a1.fld 1).i).toNat < ((a0.fld 0).es).length)) then
 bif (decide (0≤(a1.fld 2).i)&&decide (((a1.fld 2).i).toNat < (s0.es).length)) then
 gy H (T.int (0:Int)) a0 a1 (s0.nth (((a1.fld 2).i).toNat))
 else
 none
 else
 none) (((a0.fld 0).nth (((a1.fld 1).i).toNat)).fld 1)
theorem uT (a0 a1:T) (h:Yields (fun k=>lF (hl env k bn) (cl env k) a0 a1) r):Yields (fun k=>cl env k lu [a0,a1]) r:=Yields.ca (lF · · a0 a1) h (by kernel_rfl)
noncomputable abbrev gg (H:HT) (C:aF) (x1 x2 x3 x4:T):R:=
 (fun s0=>
 (fun s1=>
 bif (s0||(!s0)) then
 bif (s0||(!s0)) then
 bif (s0||(!s0)) then
 bif (s0||(!s0)) then
 bif (((s0&&s0)&&true)||(!s0)) then
 bif (bif s1 then s0 else true) then
 bif (bif s1 then (T.bool ((x3.fld 1).i==(x2.fld 2).i)) else (T.bool false)).b then
 bif (decide (0≤x1.i)&&decide (x1.i.toNat < ((x4.fld 4).es).length)) then
 obind (C dY [((x2.fld 3).fld 4),((x4.fld 4).nth x1.i.toNat)]) fun r1=>
 obind (C aM [x2,(rt r1 0),(T.int (6:Int))]) fun r2=>
 gy H (T.int (IntKind.wrap .i64 (x1.i+(1:Int)))) (rt (r2.drop 0) 0) x3 x4
 else
 none
 else
 gz H (T.bool false) (T.int (0:Int)) x2 x3 x4
 else
 none
 else
 none
 else
 none
 else
 none
 else
 none
 else
 none) (decide (x1.i < (((x4.fld 4).es).length:Int)))) ((decide (x1.i < (((x4.fld 4).es).length:Int)))==true)
theorem oh (x1 x2 x3 x4:T) (h:Yields (fun k=>gg (hl env k bn) (cl env k) x1 x2 x3 x4) r):Yields (fun k=>gy (hl env k bn) x1 x2 x3 x4) r:=Yields.hd (gg · · x1 x2 x3 x4) h (by kernel_rfl)
noncomputable abbrev gh (H:HT) (C:aF) (x1 x2 x3 x4 x5:T):R:=
 (fun s0=>
 (fun s1=>
 (fun s2=>
 (fun s3=>
 bif (s0||(!s0)) then
 bif (s0||(!s0)) then
 bif (s0||(!s0)) then
 bif (s0||(!s0)) then
 bif (((s0&&s0)&&true)||(!s0)) then
 bif (bif s2 then s0 else true) then
 bif (bif s2 then (T.bool ((x4.fld 1).i==(x3.fld 2).i)) else (T.bool false)).b then
 bif s3 then
 bif s3 then
 bif s3 then
 bif s3 then
 bif (((s1&&(s1&&true))&&(decide (0≤x2.i)&&decide (x2.i.toNat < ((x5.fld 4).es).length)))||(!s1)) then
 bif s3 then
 bif ((s1&&true)||(!s1)) then
 bif ((s1&&(s1&&true))||(!s1)) then
 obind ((bif s1 then C cr [(T.st [((x3.fld 4).fld 0),((x3.fld 4).fld 1)]),(T.int (IntKind.wrap .i64 ((6:Int)+((x5.fld 4).nth x2.i.toNat).i)))] else some [])) fun r1=>
 bif (bif x1.b then true else s1) then
 gz H (bif x1.b then (T.bool true) else (rt r1 0)) (T.int (IntKind.wrap .i64 (x2.i+(1:Int)))) x3 x4 x5
 else
 none
 else
 none
 else
 none
 else
 none
 else
 none
 else
 none
 else
 none
 else
 none
 else
 none
 else
 gA H x1 (T.sl []) (T.int (IntKind.wrap .i64 ((((x5.fld 1).es).length:Int) - (1:Int)))) x3 x5
 else
 none
 else
 none
 else
 none
 else
 none
 else
 none
 else
 none) (s1||(!s1))) (decide (x2.i < (((x5.fld 4).es).length:Int)))) (x1.b==false)) ((decide (x2.i < (((x5.fld 4).es).length:Int)))==true)
theorem om (x1 x2 x3 x4 x5:T) (h:Yields (fun k=>gh (hl env k bn) (cl env k) x1 x2 x3 x4 x5) r):Yields (fun k=>gz (hl env k bn) x1 x2 x3 x4 x5) r:=Yields.hd (gh · · x1 x2 x3 x4 x5) h (by kernel_rfl)
noncomputable abbrev gk (H:HT) (C:aF) (x1 x2 x3 x4 x5:T):R:=
 bif (decide (x3.i≥(0:Int))) then
 bif (decide (0≤x3.i)&&decide (x3.i.toNat < ((x5.fld 1).es).length)) then
 obind (C aR [x4,(T.sl [((x5.fld 1).nth x3.i.toNat)])]) fun r1=>
 obind (C ne [x2,((rt r1 0).fld 1)]) fun r2=>
 gA H x1 (rt r2 0) (T.int (IntKind.wrap .i64 (x3.i - (1:Int)))) (rt (r1.drop 1) 0) x5
 else
 none
 else
 obind (C aM [x4,(T.bool (!x1.b)),(T.int (4:Int))]) fun r3=>
 eW H x2 (T.int (0:Int)) (rt (r3.drop 0) 0) x5
theorem oq (x1 x2 x3 x4 x5:T) (h:Yields (fun k=>gk (hl env k bn) (cl env k) x1 x2 x3 x4 x5) r):Yields (fun k=>gA (hl env k bn) x1 x2 x3 x4 x5) r:=Yields.hd (gk · · x1 x2 x3 x4 x5) h (by kernel_rfl)
noncomputable abbrev gl (H:HT) (C:aF) (x1 x2 x3 x4:T):R:=
 (fun s0=>
 (fun s1=>
 (fun s2=>
 bif (decide (x2.i < (((x4.fld 2).es).length:Int))) then
 bif s0 then
 obind (C bO [s1]) fun r1=>
 bif (rt r1 0).b then
 bif s0 then
 obind (C aK [x3,s1,x1]) fun r2=>
 eW H x1 s2 (rt (r2.drop 0) 0) x4
 else
 none
 else
 bif s0 then
 obind (C aK [x3,s1,(T.sl [])]) fun r3=>
 eW H x1 s2 (rt (r3.drop 0) 0) x4
 else
 none
 else
 none
 else
 some [x3]) (T.int (IntKind.wrap .i64 (x2.i+(1:Int))))) ((x4.fld 2).nth x2.i.toNat)) (decide (0≤x2.i)&&decide (x2.i.toNat < ((x4.fld 2).es).length))
theorem ot (x1 x2 x3 x4:T) (h:Yields (fun k=>gl (hl env k bn) (cl env k) x1 x2 x3 x4) r):Yields (fun k=>eW (hl env k bn) x1 x2 x3 x4) r:=Yields.hd (gl · · x1 x2 x3 x4) h (by kernel_rfl)
noncomputable def fx (H:HT) (x1 x2 x3:T):R:=H (bS bF.body 0) ([(0,.pref 174 100000 []),(2,.val 4 x1),(3,.val 3 x2)],[(100000,⟨174,x3,(.st [.fz,.fz,.dp,.fz,(.st [(.sl (.st [.dp,.fz])),(.sl (.st [.dp,.fz]))]),.dp]),true⟩)])
noncomputable def fy (H:HT) (x1 x2 x3 x4 x5:T):R:=H (bS bF.body 1) ([(0,.pref 174 100000 []),(2,.val 4 x1),(3,.val 3 x2),(4,.pref 73 4 []),(5,.val 3 x3)],[(100000,⟨174,x4,(.st [.fz,.fz,.dp,.fz,(.st [(.sl (.st [.dp,.fz])),(.sl (.st [.dp,.fz]))]),.dp]),true⟩),(4,⟨73,x5,(.st [.dp,.fz]),true⟩)])
noncomputable def fA (H:HT) (x1 x2 x3:T):R:=H (bS bF.body 2) ([(0,.pref 174 100000 []),(2,.val 4 x1),(6,.val 3 x2)],[(100000,⟨174,x3,(.st [.fz,.fz,.dp,.fz,(.st [(.sl (.st [.dp,.fz])),(.sl (.st [.dp,.fz]))]),.dp]),true⟩)])
noncomputable abbrev mB (H:HT) (C:aF) (a0:T):R:=
 obind (C aM [a0,(T.bool (((((a0.fld 4).fld 0).es).length:Int)==((((a0.fld 3).fld 2).es).length:Int))),(T.int (1:Int))]) fun r1=>
 fx H (T.bool false) (T.int (IntKind.wrap .i64 ((((((rt (r1.drop 0) 0).fld 3).fld 2).es).length:Int) - (1:Int)))) (rt (r1.drop 0) 0)
theorem wz (a0:T) (h:Yields (fun k=>mB (hl env k bF) (cl env k) a0) r):Yields (fun k=>cl env k mj [a0]) r:=Yields.ca (mB · · a0) h (by kernel_rfl)
noncomputable abbrev gQ (H:HT) (C:aF) (x1 x2 x3:T):R:=
 bif (decide (x2.i≥(0:Int))) then
 bif (decide (0≤x2.i)&&decide (x2.i.toNat < (((x3.fld 3).fld 2).es).length)) then
 obind (C aR [x3,(T.sl [(((x3.fld 3).fld 2).nth x2.i.toNat)])]) fun r1=>
 fy H x1 x2 (T.int (0:Int)) (rt (r1.drop 1) 0) (T.st [((rt r1 0).fld 0),((rt r1 0).fld 1)])
 else
 none
 else
 fA H x1 (T.int (0:Int)) x3
theorem pi (x1 x2 x3:T) (h:Yields (fun k=>gQ (hl env k bF) (cl env k) x1 x2 x3) r):Yields (fun k=>fx (hl env k bF) x1 x2 x3) r:=Yields.hd (gQ · · x1 x2 x3) h (by kernel_rfl)
noncomputable abbrev gR (H:HT) (C:aF) (x1 x2 x3 x4 x5:T):R:=
 (fun s0=>
 bif (decide (x3.i < (((x5.fld 1).es).length:Int))) then
 bif x1.b then
 fy H (T.bool true) x2 s0 x4 x5
 else
 bif (decide (0≤x3.i)&&decide (x3.i.toNat < ((x5.fld 1).es).length)) then
 fy H (T.bool (((x5.fld 1).nth x3.i.toNat).i != (9:Int))) x2 s0 x4 x5
 else
 none
 else
 fx H x1 (T.int (IntKind.wrap .i64 (x2.i - (1:Int)))) x4) (T.int (IntKind.wrap .i64 (x3.i+(1:Int))))
theorem pj (x1 x2 x3 x4 x5:T) (h:Yields (fun k=>gR (hl env k bF) (cl env k) x1 x2 x3 x4 x5) r):Yields (fun k=>fy (hl env k bF) x1 x2 x3 x4 x5) r:=Yields.hd (gR · · x1 x2 x3 x4 x5) h (by kernel_rfl)
noncomputable abbrev gS (H:HT) (C:aF) (x1 x2 x3:T):R:=
 (fun s0=>
 (fun s1=>
 (fun s2=>
 bif (decide (x2.i < ((((x3.fld 4).fld 1).es).length:Int))) then
 bif ((x3.fld 5).i==(0:Int)) then
 bif s0 then
 bif ((s2.s).toList==(⟨#[]⟩:ByteArray).toList) then
 obind (C aM [x3,(T.bool true),(T.int (3:Int))]) fun r1=>
 fA H x1 s1 (rt (r1.drop 0) 0)
 else
 bif s0 then
 obind (C cu [x3,s2,(T.int (2:Int))]) fun r2=>
 obind (C aM [(rt (r2.drop 1) 0),(rt r2 0),(T.int (3:Int))]) fun r3=>
 fA H x1 s1 (rt (r3.drop 0) 0)
 else
 none
 else
 none
 else
 obind (C aM [x3,(T.bool (!x1.b)),(T.int (7:Int))]) fun r4=>
 some [(rt (r4.drop 0) 0)]
 else
 obind (C aM [x3,(T.bool (!x1.b)),(T.int (7:Int))]) fun r5=>
 some [(rt (r5.drop 0) 0)]) ((((x3.fld 4).fld 1).nth x2.i.toNat).fld 0)) (T.int (IntKind.wrap .i64 (x2.i+(1:Int))))) (decide (0≤x2.i)&&decide (x2.i.toNat < (((x3.fld 4).fld 1).es).length))
theorem pk (x1 x2 x3:T) (h:Yields (fun k=>gS (hl env k bF) (cl env k) x1 x2 x3) r):Yields (fun k=>fA (hl env k bF) x1 x2 x3) r:=Yields.hd (gS · · x1 x2 x3) h (by kernel_rfl)
noncomputable abbrev oT (H:HT) (C:aF) (a0 a1 a2 a3 a4 a5 a6:T):R:=
 (fun s0=>
 (fun s1=>
 (fun s2=>
 (fun s3=>
 bif (decide (0≤s1)&&decide (s1.toNat < ((a5.fld 0).es).length)) then
 orE (obind (C cO [a1,a2,a3,a4,a5,(T.int (a6.es.length:Int)),(T.st [(T.str vT),s0,s0])]) fun r1=>
 bif (rt r1 2).b then
 none
 else
 obind (C cU [(((a5.fld 0).nth (s1.toNat)).fld 0)]) fun r2=>
 obind (C aG [a0,(T.int (2:Int))]) fun r3=>
 bif ((rt r3 0).i==(0:Int)) then
 orE (obind (C cO [a1,a2,a3,a4,a5,(T.int (a6.es.length:Int)),s3]) fun r4=>
 bif (rt r4 2).b then
 orE (obind (C cO [a1,a2,a3,a4,(rt r4 0),(T.int ((rt r4 1).i.toNat:Int)),(T.st [(T.str aT),(rt r2 1),s0])]) fun r5=>
 bif (rt r5 2).b then
 none
 else
 obind (C bk [a1,a2,a3,a4,a5,a6,(T.st [s2,(rt r2 1),s0])]) fun r6=>
 some [(rt r6 0),(rt r6 1),(rt r6 2),(rt (r3.drop 1) 0)])
 (orE (none)
 (none))
 else
 bif (rt r4 2).b then
 none
 else
 obind (C bk [a1,a2,a3,a4,a5,a6,(T.st [s2,(rt r2 1),s0])]) fun r7=>
 some [(rt r7 0),(rt r7 1),(rt r7 2),(rt (r3.drop 1) 0)])
 (orE (obind (C bk [a1,a2,a3,a4,a5,a6,s3]) fun r8=>
 bif (rt r8 2).b then
 orE (obind (C cO [a1,a2,a3,a4,(rt r8 0),(T.int (((rt r8 1).es).length:Int)),(T.st [(T.str aT),(rt r2 1),s0])]) fun r9=>
 bif (rt r9 2).b then
 none
 else
 none)
 (orE (obind (C bk [a1,a2,a3,a4,(rt r8 0),(rt r8 1),(T.st [(T.str aT),(rt r2 1),s0])]) fun r10=>
 bif (rt r10 2).b then
 some [(rt r10 0),(rt r10 1),(T.bool true),(rt (r3.drop 1) 0)]
 else
 none)
 (none))
 else
 bif (rt r8 2).b then
 some [(rt r8 0),(rt r8 1),(T.bool true),(rt (r3.drop 1) 0)]
 else
 none)
 (orE (obind (C jr [a1,a2,a3,a4,a5,a6,s3]) fun r11=>
 bif (rt r11 2).b then
 orE (obind (C cO [a1,a2,a3,a4,(rt r11 0),(T.int ((rt r11 1).i.toNat:Int)),(T.st [(T.str aT),(rt r2 1),s0])]) fun r12=>
 bif (rt r12 2).b then
 none
 else
 obind (C bk [a1,a2,a3,a4,a5,(rt (r11.drop 3) 0),(T.st [s2,(rt r2 1),s0])]) fun r13=>
 some [(rt r13 0),(rt r13 1),(rt r13 2),(rt (r3.drop 1) 0)])
 (orE (none)
 (none))
 else
 bif (rt r11 2).b then
 none
 else
 obind (C bk [a1,a2,a3,a4,a5,(rt (r11.drop 3) 0),(T.st [s2,(rt r2 1),s0])]) fun r14=>
 some [(rt r14 0),(rt r14 1),(rt r14 2),(rt (r3.drop 1) 0)])
 (none)))
 else
 obind (C bk [a1,a2,a3,a4,a5,a6,(T.st [s2,(rt r2 1),s0])]) fun r15=>
 some [(rt r15 0),(rt r15 1),(rt r15 2),(rt (r3.drop 1) 0)])
 (orE (obind (C bk [a1,a2,a3,a4,a5,a6,(T.st [(T.str vT),s0,s0])]) fun r16=>
 bif (rt r16 2).b then
 some [(rt r16 0),(rt r16 1),(T.bool true),a0]
 else
 obind (C cU [(((a5.fld 0).nth (s1.toNat)).fld 0)]) fun r17=>
 obind (C aG [a0,(T.int (2:Int))]) fun r18=>
 bif ((rt r18 0).i==(0:Int)) then
 none
 else
 none)
 (none))
 else
 none) (T.st [(T.str k_me),s0,s0])) (T.str lT)) (IntKind.wrap .i64 ((((a5.fld 0).es).length:Int) - (1:Int)))) (T.int (0:Int))
theorem yA (a0 a1 a2 a3 a4 a5 a6:T) (h:Yields (fun k=>oT (hl env k nL) (cl env k) a0 a1 a2 a3 a4 a5 a6) r):Yields (fun k=>cl env k kV [a0,a1,a2,a3,a4,a5,a6]) r:=Yields.ca (oT · · a0 a1 a2 a3 a4 a5 a6) h (by kernel_rfl)
end Go.Proofs.YtdcnobhlknjnoaaGreatDoor.Ra
