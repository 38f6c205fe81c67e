/- A verified evaluator for the program, part Eq of this claim. -/
import Derived.Test.YtdcnobhlknjnoaaGreatDoorTEq0
set_option linter.unusedSimpArgs false
set_option linter.unusedVariables false
set_option linter.unusedSimpArgs false
set_option linter.unusedVariables false
namespace Go.Proofs.YtdcnobhlknjnoaaGreatDoor.Ra
open Go
variable {r:List T}
noncomputable abbrev jJ (H:HT) (C:aF) (a0 a1 a2 a3 a4 a5 a6:T):R:=
 obind (C dG [a0,a1,a2,a3,a4,a6]) fun r1=>
 bif ((rt r1 1).i != (0:Int)) then
 some [a4,a5,(T.bool false)]
 else
 bif (decide ((a5.es.length:Int) > (36:Int))) then
 some [a4,a5,(T.bool false)]
 else
 bif (decide (a5.es.length + [a6].length≤LIM)) then
 some [(T.st [((rt r1 0).fld 0),((rt r1 0).fld 1)]),(T.sl (a5.es ++ [a6])),(T.bool true)]
 else
 none
theorem qt (a0 a1 a2 a3 a4 a5 a6:T) (h:Yields (fun k=>jJ (hl env k oW) (cl env k) a0 a1 a2 a3 a4 a5 a6) r):Yields (fun k=>cl env k bk [a0,a1,a2,a3,a4,a5,a6]) r:=Yields.ca (jJ · · a0 a1 a2 a3 a4 a5 a6) h (by kernel_rfl)
noncomputable def fT (H:HT) (x1 x2 x3 x4 x5 x6 x7 x8 x9:T):R:=H (bS bG.body 0) ([(0,.val 23 x1),(1,.val 38 x2),(2,.val 3 x3),(5,.sref 32 100005 []),(6,.val 9 x4),(10,.pref 34 10 []),(11,.pref 43 11 []),(14,.pref 43 14 []),(17,.val 3 x5)],[(100005,⟨32,x6,.dp,false⟩),(10,⟨34,x7,.fz,true⟩),(11,⟨43,x8,.fz,true⟩),(14,⟨43,x9,.dp,true⟩)])
noncomputable def uz (H:HT) (x1 x2 x3 x4 x5 x6 x7 x8:T):R:=H (bS bG.body 0) ([(0,.val 23 x1),(1,.val 38 x2),(2,.val 3 x3),(5,.undef),(6,.val 9 x4),(10,.pref 34 10 []),(11,.pref 43 11 []),(14,.pref 43 14 []),(17,.val 3 x5)],[(10,⟨34,x6,.fz,true⟩),(11,⟨43,x7,.fz,true⟩),(14,⟨43,x8,.dp,true⟩)])
noncomputable def iW (H:HT) (x1 x2 x3 x4 x5 x6 x7 x8 x9 x10:T):R:=H (bS bG.body 1) ([(0,.val 23 x1),(1,.val 38 x2),(2,.val 3 x3),(5,.sref 32 100005 []),(10,.pref 34 10 []),(11,.pref 43 11 []),(14,.pref 43 14 []),(22,.val 3 x4),(23,.val 4 x5),(24,.val 3 x6)],[(100005,⟨32,x7,.dp,false⟩),(10,⟨34,x8,.fz,true⟩),(11,⟨43,x9,.fz,true⟩),(14,⟨43,x10,.dp,true⟩)])
noncomputable def iX (H:HT) (x1 x2 x3 x4 x5 x6 x7 x8 x9 x10:T):R:=H (bS bG.body 1) ([(0,.val 23 x1),(1,.val 38 x2),(2,.val 3 x3),(5,.sref 32 1144 []),(10,.pref 34 10 []),(11,.pref 43 11 []),(14,.pref 43 14 []),(22,.val 3 x4),(23,.val 4 x5),(24,.val 3 x6)],[(1144,⟨32,x7,.dp,false⟩),(10,⟨34,x8,.fz,true⟩),(11,⟨43,x9,.fz,true⟩),(14,⟨43,x10,.dp,true⟩)])
noncomputable abbrev kp (H:HT) (C:aF) (a0 a1 a2 a3 a4 a5 a6:T):R:=
 fT H a0 a1 a2 a6 (T.int (0:Int)) a5 a3 a4 (T.st [(T.sl []),(T.sl [])])
theorem rz (a0 a1 a2 a3 a4 a5 a6:T) (h:Yields (fun k=>kp (hl env k bG) (cl env k) a0 a1 a2 a3 a4 a5 a6) r):Yields (fun k=>cl env k dv [a0,a1,a2,a3,a4,a5,a6]) r:=Yields.ca (kp · · a0 a1 a2 a3 a4 a5 a6) h (by kernel_rfl)
noncomputable abbrev iM (H:HT) (C:aF) (x1 x2 x3 x4 x5 x6 x7 x8 x9:T):R:=
 (fun s0=>
 (fun s1=>
 bif (decide (x5.i < (((x8.fld 1).es).length:Int))) then
 bif (decide (0≤x5.i)&&decide (x5.i.toNat < ((x8.fld 1).es).length)) then
 bif (((((x8.fld 1).nth x5.i.toNat).fld 0).s).toList==x4.s.toList) then
 orE (obind (C cO [x1,x2,x3,x7,x8,(T.int (x6.es.length:Int)),(T.st [(T.str od),x5,s0])]) fun r1=>
 bif (rt r1 2).b then
 none
 else
 fT H x1 x2 x3 x4 s1 x6 x7 x8 x9)
 (orE (obind (C bk [x1,x2,x3,x7,x8,x6,(T.st [(T.str od),x5,s0])]) fun r2=>
 bif (rt r2 2).b then
 some [(rt r2 0),(rt r2 1),(T.bool true)]
 else
 uz H x1 x2 x3 x4 s1 x7 x8 x9)
 (none))
 else
 fT H x1 x2 x3 x4 s1 x6 x7 x8 x9
 else
 none
 else
 bif (x4.s.toList==k_n.toList) then
 obind (C bk [x1,x2,x3,x7,x8,x6,(T.st [(T.str bE),(T.int (3:Int)),s0])]) fun r3=>
 some [(rt r3 0),(rt r3 1),(rt r3 2)]
 else
 bif (x4.s.toList==k_b.toList) then
 obind (C bk [x1,x2,x3,x7,x8,x6,(T.st [(T.str zk),s0,s0])]) fun r4=>
 some [(rt r4 0),(rt r4 1),(rt r4 2)]
 else
 bif (x4.s.toList==k_o.toList) then
 obind (C bk [x1,x2,x3,x7,x8,x6,(T.st [(T.str k_me),s0,s0])]) fun r5=>
 some [(rt r5 0),(rt r5 1),(rt r5 2)]
 else
 obind (C cU [x4]) fun r6=>
 bif (!(rt r6 2).b) then
 some [x8,x6,(T.bool false)]
 else
 bif ((rt r6 0).i != x3.i) then
 some [x8,x6,(T.bool false)]
 else
 iW H x1 x2 x3 (rt r6 1) (rt r6 2) s0 x6 x7 x8 x9) (T.int (IntKind.wrap .i64 (x5.i+(1:Int))))) (T.int (0:Int))
theorem qu (x1 x2 x3 x4 x5 x6 x7 x8 x9:T) (h:Yields (fun k=>iM (hl env k bG) (cl env k) x1 x2 x3 x4 x5 x6 x7 x8 x9) r):Yields (fun k=>fT (hl env k bG) x1 x2 x3 x4 x5 x6 x7 x8 x9) r:=Yields.hd (iM · · x1 x2 x3 x4 x5 x6 x7 x8 x9) h (by kernel_rfl)
noncomputable abbrev lK (H:HT) (C:aF) (x1 x2 x3 x4 x5 x6 x7 x8 x9 x10:T):R:=
 (fun s0=>
 (fun s1=>
 (fun s2=>
 (fun s3=>
 bif s2 then
 bif s1 then
 bif (decide (x6.i < ((s0.es).length:Int))) then
 bif x5.b then
 bif s2 then
 bif s1 then
 bif (decide (0≤x6.i)&&decide (x6.i.toNat < (s0.es).length)) then
 obind (C dv [x1,x2,x3,x8,x9,x7,(s0.nth x6.i.toNat)]) fun r1=>
 iX H x1 x2 x3 x4 (rt r1 2) (T.int (IntKind.wrap .i64 (x6.i+(1:Int)))) (rt r1 1) x8 (rt r1 0) x10
 else
 none
 else
 none
 else
 none
 else
 bif (!x5.b) then
 some [x9,x7,(T.bool false)]
 else
 obind (C bk [x1,x2,x3,x8,x9,x7,s3]) fun r2=>
 some [(rt r2 0),(rt r2 1),(rt r2 2)]
 else
 bif (!x5.b) then
 some [x9,x7,(T.bool false)]
 else
 obind (C bk [x1,x2,x3,x8,x9,x7,s3]) fun r3=>
 some [(rt r3 0),(rt r3 1),(rt r3 2)]
 else
 none
 else
 none) (T.st [(T.str q7),x4,(T.int (0:Int))])) (decide (0≤x3.i)&&decide (x3.i.toNat < x2.es.length))) (decide (0≤x4.i)&&decide (x4.i.toNat < ((x2.nth x3.i.toNat).es).length))) (((x2.nth x3.i.toNat).nth x4.i.toNat).fld 1)
theorem uY (x1 x2 x3 x4 x5 x6 x7 x8 x9 x10:T) (h:Yields (fun k=>lK (hl env k bG) (cl env k) x1 x2 x3 x4 x5 x6 x7 x8 x9 x10) r):Yields (fun k=>iW (hl env k bG) x1 x2 x3 x4 x5 x6 x7 x8 x9 x10) r:=Yields.hd (lK · · x1 x2 x3 x4 x5 x6 x7 x8 x9 x10) h (by kernel_rfl)
noncomputable abbrev iN (H:HT) (C:aF) (x1 x2 x3 x4 x5 x6 x7 x8 x9 x10:T):R:=lK H C x1 x2 x3 x4 x5 x6 x7 x8 x9 x10
theorem qv (x1 x2 x3 x4 x5 x6 x7 x8 x9 x10:T) (h:Yields (fun k=>iN (hl env k bG) (cl env k) x1 x2 x3 x4 x5 x6 x7 x8 x9 x10) r):Yields (fun k=>iX (hl env k bG) x1 x2 x3 x4 x5 x6 x7 x8 x9 x10) r:=Yields.hd (iN · · x1 x2 x3 x4 x5 x6 x7 x8 x9 x10) h (by kernel_rfl)
noncomputable abbrev H9 (H:HT) (C:aF) (a0:T):R:=
 bif ((((a0.fld 2).es).length:Int)==(0:Int)) then
 some [(T.bool ((((a0.fld 3).es).length:Int)==(0:Int)))]
 else
 some [(T.bool false)]
theorem Mr (a0:T) (h:Yields (fun k=>H9 (hl env k G2) (cl env k) a0) r):Yields (fun k=>cl env k EV [a0]) r:=Yields.ca (H9 · · a0) h (by kernel_rfl)
noncomputable abbrev lI (H:HT) (C:aF) (a0 a1 a2:T):R:=
 (fun s0=>
 bif ((a0.fld 5).i==(0:Int)) then
 bif (decide (([]:List T).length+a2.es.length≤LIM)) then
 bif (decide ((((a0.fld 4).fld 0).es).length + [s0].length≤LIM)) then
 some [(T.st (a0.fs.set 4 (T.st ((a0.fld 4).fs.set 0 (T.sl (((a0.fld 4).fld 0).es ++ [s0]))))))]
 else
 none
 else
 none
 else
 some [a0]) (T.st [a1,(T.sl (([]:List T)++a2.es))])
theorem uW (a0 a1 a2:T) (h:Yields (fun k=>lI (hl env k kL) (cl env k) a0 a1 a2) r):Yields (fun k=>cl env k aK [a0,a1,a2]) r:=Yields.ca (lI · · a0 a1 a2) h (by kernel_rfl)
noncomputable def gY (H:HT) (x1 x2 x3 x4 x5 x6 x7:T):R:=H (bS dM.body 0) ([(0,.pref 174 100000 []),(1,.val 31 x1),(4,.pref 73 4 []),(5,.val 3 x2),(6,.pref 73 6 []),(7,.val 4 x3),(8,.val 3 x4)],[(100000,⟨174,x5,(.st [.fz,.fz,.dp,.fz,(.st [(.sl (.st [.dp,.fz])),(.sl (.st [.dp,.fz]))]),.dp]),true⟩),(4,⟨73,x6,.dp,true⟩),(6,⟨73,x7,(.st [.dp,.fz]),true⟩)])
noncomputable abbrev mz (H:HT) (C:aF) (a0 a1:T):R:=
 (fun s0=>
 (fun s1=>
 (fun s2=>
 bif ((a0.fld 5).i != (0:Int)) then
 some [s1,a0]
 else
 bif (((s2.es).length:Int)==(0:Int)) then
 obind (C cw [a0,(T.int (1:Int))]) fun r1=>
 some [s1,(rt (r1.drop 0) 0)]
 else
 bif (decide (0≤s0)&&decide (s0.toNat < (s2.es).length)) then
 gY H a1 (T.int ((s2.es).length:Int)) (T.bool ((a1.es.length:Int)==(0:Int))) (T.int (0:Int)) a0 s1 (T.st [((s2.nth (s0.toNat)).fld 0),((s2.nth (s0.toNat)).fld 1)])
 else
 none) ((a0.fld 4).fld 0)) (T.st [(T.str (⟨#[]⟩:ByteArray)),(T.sl [])])) (IntKind.wrap .i64 (((((a0.fld 4).fld 0).es).length:Int) - (1:Int)))
theorem wx (a0 a1:T) (h:Yields (fun k=>mz (hl env k dM) (cl env k) a0 a1) r):Yields (fun k=>cl env k aR [a0,a1]) r:=Yields.ca (mz · · a0 a1) h (by kernel_rfl)
noncomputable abbrev gP (H:HT) (C:aF) (x1 x2 x3 x4 x5 x6 x7:T):R:=
 (fun s0=>
 (fun s1=>
 (fun s2=>
 bif (decide (x4.i < (x1.es.length:Int))) then
 bif (s0||(!s0)) then
 bif (((s0&&(s0&&true))&&(decide (0≤x4.i)&&decide (x4.i.toNat < x1.es.length)))||(!s0)) then
 bif (s0||(!s0)) then
 bif (((s0&&s0)&&true)||(!s0)) then
 bif (bif x3.b then true else s0) then
 gY H x1 x2 (bif x3.b then (T.bool true) else (T.bool (((x7.fld 0).s).toList==((x1.nth x4.i.toNat).s).toList))) (T.int (IntKind.wrap .i64 (x4.i+(1:Int)))) x5 x6 x7
 else
 none
 else
 none
 else
 none
 else
 none
 else
 none
 else
 bif (!x3.b) then
 obind (C cw [x5,(T.int (1:Int))]) fun r1=>
 some [(T.st [(T.str (⟨#[]⟩:ByteArray)),(T.sl [])]),(rt (r1.drop 0) 0)]
 else
 bif (decide (0≤(0:Int))&&(decide ((0:Int)≤s1)&&(decide (s1≤s2)&&decide (s2≤s2)))) then
 some [(T.st [(x7.fld 0),(x7.fld 1)]),(T.st (x5.fs.set 4 (T.st ((x5.fld 4).fs.set 0 (T.sl (((((x5.fld 4).fld 0).es).take (s1.toNat)).drop 0))))))]
 else
 none) ((((x5.fld 4).fld 0).es).length:Int)) (IntKind.wrap .i64 (x2.i - (1:Int)))) (x3.b==false)
theorem ph (x1 x2 x3 x4 x5 x6 x7:T) (h:Yields (fun k=>gP (hl env k dM) (cl env k) x1 x2 x3 x4 x5 x6 x7) r):Yields (fun k=>gY (hl env k dM) x1 x2 x3 x4 x5 x6 x7) r:=Yields.hd (gP · · x1 x2 x3 x4 x5 x6 x7) h (by kernel_rfl)
noncomputable abbrev lE (H:HT) (C:aF) (a0 a1 a2:T):R:=
 obind (C eD [(a0.fld 1),a1]) fun r1=>
 obind (C bH [(rt r1 0),a2]) fun r2=>
 some [(rt r2 0),a0]
theorem uS (a0 a1 a2:T) (h:Yields (fun k=>lE (hl env k kH) (cl env k) a0 a1 a2) r):Yields (fun k=>cl env k cu [a0,a1,a2]) r:=Yields.ca (lE · · a0 a1 a2) h (by kernel_rfl)
noncomputable abbrev kA (H:HT) (C:aF) (a0 a1:T):R:=
 bif (decide (a1.i≥((((a0.fld 4).fld 1).es).length:Int))) then
 obind (C cw [a0,(T.int (2:Int))]) fun r1=>
 some [(T.bool false),(rt (r1.drop 0) 0)]
 else
 bif (decide (0≤a1.i)&&decide (a1.i.toNat < (((a0.fld 4).fld 1).es).length)) then
 bif ((((((a0.fld 4).fld 1).nth a1.i.toNat).fld 0).s).toList==(⟨#[]⟩:ByteArray).toList) then
 obind (C cw [a0,(T.int (2:Int))]) fun r2=>
 some [(T.bool false),(rt (r2.drop 0) 0)]
 else
 some [(T.bool true),a0]
 else
 none
theorem tW (a0 a1:T) (h:Yields (fun k=>kA (hl env k jP) (cl env k) a0 a1) r):Yields (fun k=>cl env k fq [a0,a1]) r:=Yields.ca (kA · · a0 a1) h (by kernel_rfl)
noncomputable abbrev jk (H:HT) (C:aF) (a0 a1:T):R:=
 obind (C gb [(a0.fld 0),a1,(T.bool true)]) fun r1=>
 bif (rt r1 0).b then
 some [(T.bool true)]
 else
 obind (C gb [(a0.fld 1),a1,(T.bool true)]) fun r2=>
 some [(rt r2 0)]
theorem su (a0 a1:T) (h:Yields (fun k=>jk (hl env k iT) (cl env k) a0 a1) r):Yields (fun k=>cl env k O1 [a0,a1]) r:=Yields.ca (jk · · a0 a1) h (by kernel_rfl)
noncomputable abbrev lz (H:HT) (C:aF) (a0 a1:T):R:=
 obind (C gb [(a0.fld 0),a1,(T.bool false)]) fun r1=>
 bif (rt r1 0).b then
 some [(T.bool true)]
 else
 obind (C gb [(a0.fld 1),a1,(T.bool false)]) fun r2=>
 some [(rt r2 0)]
theorem uO (a0 a1:T) (h:Yields (fun k=>lz (hl env k kE) (cl env k) a0 a1) r):Yields (fun k=>cl env k cr [a0,a1]) r:=Yields.ca (lz · · a0 a1) h (by kernel_rfl)
noncomputable abbrev mA (H:HT) (C:aF) (a0 a1:T):R:=
 bif (decide (a1.i≥((((a0.fld 4).fld 1).es).length:Int))) then
 obind (C cw [a0,(T.int (2:Int))]) fun r1=>
 some [(rt (r1.drop 0) 0)]
 else
 obind (C hJ [(a0.fld 3),a1]) fun r2=>
 obind (C aR [a0,(T.sl [(rt r2 0)])]) fun r3=>
 (fun s0=>
 (fun s1=>
 (fun s2=>
 bif ((s1.fld 5).i != (0:Int)) then
 some [s1]
 else
 bif s0 then
 bif (!((((((s1.fld 4).fld 1).nth a1.i.toNat).fld 0).s).toList==(⟨#[]⟩:ByteArray).toList)) then
 bif s0 then
 obind (C cu [s1,((((s1.fld 4).fld 1).nth a1.i.toNat).fld 0),(T.int (2:Int))]) fun r4=>
 obind (C aM [(rt (r4.drop 1) 0),(rt r4 0),(T.int (3:Int))]) fun r5=>
 obind (C cr [(T.st [(((rt (r5.drop 0) 0).fld 4).fld 0),(((rt (r5.drop 0) 0).fld 4).fld 1)]),a1]) fun r6=>
 obind (C aM [(rt (r5.drop 0) 0),(T.bool (!(rt r6 0).b)),(T.int (4:Int))]) fun r7=>
 bif (decide (0≤a1.i)&&decide (a1.i.toNat < ((((rt (r7.drop 0) 0).fld 4).fld 1).es).length)) then
 some [(T.put (rt (r7.drop 0) 0) [.fld 4,.fld 1,.idx a1.i.toNat] s2)]
 else
 none
 else
 none
 else
 bif s0 then
 some [(T.put s1 [.fld 4,.fld 1,.idx a1.i.toNat] s2)]
 else
 none
 else
 none) (T.st [((rt r3 0).fld 0),((rt r3 0).fld 1)])) (rt (r3.drop 1) 0)) (decide (0≤a1.i)&&decide (a1.i.toNat < ((((rt (r3.drop 1) 0).fld 4).fld 1).es).length))
theorem wy (a0 a1:T) (h:Yields (fun k=>mA (hl env k lQ) (cl env k) a0 a1) r):Yields (fun k=>cl env k mi [a0,a1]) r:=Yields.ca (mA · · a0 a1) h (by kernel_rfl)
noncomputable abbrev lH (H:HT) (C:aF) (a0 a1:T):R:=
 (fun s0=>
 (fun s1=>
 obind (C fq [a0,s0]) fun r1=>
 (fun s2=>
 bif (!(rt r1 0).b) then
 some [(rt (r1.drop 1) 0)]
 else
 bif (decide (0≤s0.i)&&decide ((s0.i).toNat < ((((rt (r1.drop 1) 0).fld 4).fld 1).es).length)) then
 obind (C bO [s2]) fun r2=>
 obind (C aM [(rt (r1.drop 1) 0),(T.bool (!(rt r2 0).b)),(T.int (2:Int))]) fun r3=>
 (fun s3=>
 bif (((a1.fld 0).s).toList==k_lend.toList) then
 obind (C O1 [(T.st [((s3.fld 4).fld 0),((s3.fld 4).fld 1)]),s0]) fun r4=>
 obind (C aM [s3,(T.bool (!(rt r4 0).b)),(T.int (4:Int))]) fun r5=>
 bif (decide (cX.size+(s2.s).size≤LIM)) then
 obind (C aK [(rt (r5.drop 0) 0),(T.str (cX++(s2.s))),(T.sl [s0])]) fun r6=>
 some [(rt (r6.drop 0) 0)]
 else
 none
 else
 obind (C cr [(T.st [((s3.fld 4).fld 0),((s3.fld 4).fld 1)]),s0]) fun r7=>
 obind (C aM [s3,(T.bool (!(rt r7 0).b)),(T.int (4:Int))]) fun r8=>
 bif (decide (cI.size+(s2.s).size≤LIM)) then
 obind (C aK [(rt (r8.drop 0) 0),(T.str (cI++(s2.s))),(T.sl [s0])]) fun r9=>
 some [(rt (r9.drop 0) 0)]
 else
 none) (rt (r3.drop 0) 0)
 else
 none) (((((rt (r1.drop 1) 0).fld 4).fld 1).nth s1).fld 0)) ((s0.i).toNat)) (a1.fld 1)
theorem uV (a0 a1:T) (h:Yields (fun k=>lH (hl env k kJ) (cl env k) a0 a1) r):Yields (fun k=>cl env k iw [a0,a1]) r:=Yields.ca (lH · · a0 a1) h (by kernel_rfl)
noncomputable abbrev my (H:HT) (C:aF) (a0 a1:T):R:=
 bif (decide (0≤(a0.fld 2).i)&&decide (((a0.fld 2).i).toNat < ((a0.fld 1).es).length)) then
 bif (decide (a1.i≥((((a0.fld 1).nth (((a0.fld 2).i).toNat)).es).length:Int))) then
 obind (C cw [a0,(T.int (5:Int))]) fun r1=>
 some [(T.str (⟨#[]⟩:ByteArray)),(rt (r1.drop 0) 0)]
 else
 obind (C dE [(a0.fld 2)]) fun r2=>
 bif (decide (k_S.size+((rt r2 0).s).size≤LIM)) then
 obind (C dE [a1]) fun r3=>
 bif (decide ((k_S++((rt r2 0).s)).size+((rt r3 0).s).size≤LIM)) then
 some [(T.str ((k_S++((rt r2 0).s))++((rt r3 0).s))),a0]
 else
 none
 else
 none
 else
 none
theorem ww (a0 a1:T) (h:Yields (fun k=>my (hl env k lP) (cl env k) a0 a1) r):Yields (fun k=>cl env k eZ [a0,a1]) r:=Yields.ca (my · · a0 a1) h (by kernel_rfl)
noncomputable abbrev lG (H:HT) (C:aF) (a0 a1:T):R:=
 bif ((a0.fld 5).i==(0:Int)) then
 some [(T.st (a0.fs.set 5 a1))]
 else
 some [a0]
theorem uU (a0 a1:T) (h:Yields (fun k=>lG (hl env k kI) (cl env k) a0 a1) r):Yields (fun k=>cl env k cw [a0,a1]) r:=Yields.ca (lG · · a0 a1) h (by kernel_rfl)
noncomputable def lj (H:HT) (x1 x2 x3:T):R:=H (bS fQ.body 0) ([(0,.val 28 x1),(1,.val 3 x2),(5,.val 3 x3)],[])
noncomputable abbrev qR (H:HT) (C:aF) (a0 a1:T):R:=
 lj H a0 a1 (T.int (0:Int))
theorem Aj (a0 a1:T) (h:Yields (fun k=>qR (hl env k fQ) (cl env k) a0 a1) r):Yields (fun k=>cl env k dY [a0,a1]) r:=Yields.ca (qR · · a0 a1) h (by kernel_rfl)
noncomputable abbrev kY (H:HT) (C:aF) (x1 x2 x3:T):R:=
 bif (decide (x3.i < (x1.es.length:Int))) then
 bif (decide (0≤x3.i)&&decide (x3.i.toNat < x1.es.length)) then
 bif ((x1.nth x3.i.toNat).i==x2.i) then
 some [(T.bool true)]
 else
 lj H x1 x2 (T.int (IntKind.wrap .i64 (x3.i+(1:Int))))
 else
 none
 else
 some [(T.bool false)]
theorem sf (x1 x2 x3:T) (h:Yields (fun k=>kY (hl env k fQ) (cl env k) x1 x2 x3) r):Yields (fun k=>lj (hl env k fQ) x1 x2 x3) r:=Yields.hd (kY · · x1 x2 x3) h (by kernel_rfl)
noncomputable abbrev mr (H:HT) (C:aF) (a0 a1 a2 a3:T):R:=
 (fun s0=>
 (fun s1=>
 obind (C P9 [a0,a2,a3]) fun r1=>
 bif (!(rt r1 0).b) then
 some [(T.bool false)]
 else
 obind (C dZ [a1,(T.int (0:Int)),(T.int (IntKind.wrap .i64 ((a0.es.length:Int) - (1:Int))))]) fun r2=>
 bif (!(rt r2 0).b) then
 some [(T.bool false)]
 else
 bif (decide (a2.i > a1.i)) then
 some [(T.bool false)]
 else
 bif s0 then
 bif (decide (0≤a3.i)&&decide (a3.i.toNat < ((s1.fld 1).es).length)) then
 bif (a2.i==a1.i) then
 some [(T.bool true)]
 else
 bif ((((s1.fld 1).nth a3.i.toNat).fld 0).i==(2:Int)) then
 some [(T.bool true)]
 else
 bif ((((s1.fld 1).nth a3.i.toNat).fld 0).i==(1:Int)) then
 bif s0 then
 obind (C dY [(s1.fld 2),a1]) fun r3=>
 some [(rt r3 0)]
 else
 none
 else
 some [(T.bool false)]
 else
 none
 else
 none) (a0.nth a2.i.toNat)) (decide (0≤a2.i)&&decide (a2.i.toNat < a0.es.length))
theorem Qp (a0 a1 a2 a3:T) (h:Yields (fun k=>mr (hl env k lO) (cl env k) a0 a1 a2 a3) r):Yields (fun k=>cl env k mf [a0,a1,a2,a3]) r:=Yields.ca (mr · · a0 a1 a2 a3) h (by kernel_rfl)
noncomputable def eQ (H:HT) (x1 x2 x3 x4:T):R:=H (bS er.body 0) ([(0,.val 28 x1),(1,.val 28 x2),(5,.sref 28 5 []),(6,.val 3 x3)],[(5,⟨28,x4,(.sl .dp),false⟩)])
noncomputable abbrev nt (H:HT) (C:aF) (a0 a1:T):R:=
 eQ H a0 a1 (T.int (0:Int)) (T.sl [])
theorem xt (a0 a1:T) (h:Yields (fun k=>nt (hl env k er) (cl env k) a0 a1) r):Yields (fun k=>cl env k ne [a0,a1]) r:=Yields.ca (nt · · a0 a1) h (by kernel_rfl)
noncomputable abbrev iH (H:HT) (C:aF) (x1 x2 x3 x4:T):R:=
 (fun s0=>
 (fun s1=>
 bif (decide (x3.i≤(9:Int))) then
 obind (C dY [x1,x3]) fun r1=>
 bif (rt r1 0).b then
 bif s1 then
 eQ H x1 x2 s0 (T.sl (x4.es ++ [x3]))
 else
 none
 else
 obind (C dY [x2,x3]) fun r2=>
 bif (rt r2 0).b then
 bif s1 then
 eQ H x1 x2 s0 (T.sl (x4.es ++ [x3]))
 else
 none
 else
 eQ H x1 x2 s0 x4
 else
 some [x4]) (decide (x4.es.length + [x3].length≤LIM))) (T.int (IntKind.wrap .i64 (x3.i+(1:Int))))
theorem qn (x1 x2 x3 x4:T) (h:Yields (fun k=>iH (hl env k er) (cl env k) x1 x2 x3 x4) r):Yields (fun k=>eQ (hl env k er) x1 x2 x3 x4) r:=Yields.hd (iH · · x1 x2 x3 x4) h (by kernel_rfl)
noncomputable def fj (H:HT) (x1 x2 x3 x4:T):R:=H (bS eO.body 0) ([(0,.val 41 x1),(1,.val 3 x2),(2,.val 4 x3),(7,.val 3 x4)],[])
noncomputable abbrev oN (H:HT) (C:aF) (a0 a1 a2:T):R:=
 fj H a0 a1 a2 (T.int (0:Int))
theorem yt (a0 a1 a2:T) (h:Yields (fun k=>oN (hl env k eO) (cl env k) a0 a1 a2) r):Yields (fun k=>cl env k gb [a0,a1,a2]) r:=Yields.ca (oN · · a0 a1 a2) h (by kernel_rfl)
noncomputable abbrev jv (H:HT) (C:aF) (x1 x2 x3 x4:T):R:=
 (fun s0=>
 (fun s1=>
 (fun s2=>
 bif (decide (x4.i < (x1.es.length:Int))) then
 bif s0 then
 obind (C bO [(s2.fld 0)]) fun r1=>
 bif (rt r1 0).b then
 bif s0 then
 obind (C dY [(s2.fld 1),x2]) fun r2=>
 bif (rt r2 0).b then
 bif (!x3.b) then
 some [(T.bool true)]
 else
 bif s0 then
 bif (decide (0≤(0:Int))&&decide (0 < ((s2.fld 0).s).size)) then
 bif ((((s2.fld 0).s).data.getD 0 0).toNat==(33:Int)) then
 some [(T.bool true)]
 else
 fj H x1 x2 x3 s1
 else
 none
 else
 none
 else
 fj H x1 x2 x3 s1
 else
 none
 else
 fj H x1 x2 x3 s1
 else
 none
 else
 some [(T.bool false)]) (x1.nth x4.i.toNat)) (T.int (IntKind.wrap .i64 (x4.i+(1:Int))))) (decide (0≤x4.i)&&decide (x4.i.toNat < x1.es.length))
theorem qK (x1 x2 x3 x4:T) (h:Yields (fun k=>jv (hl env k eO) (cl env k) x1 x2 x3 x4) r):Yields (fun k=>fj (hl env k eO) x1 x2 x3 x4) r:=Yields.hd (jv · · x1 x2 x3 x4) h (by kernel_rfl)
noncomputable abbrev hZ (H:HT) (C:aF) (a0 a1:T):R:=
 (fun s0=>
 bif (decide (a1.i < (((a0.fld 1).es).length:Int))) then
 bif (decide (0≤a1.i)&&decide (a1.i.toNat < ((a0.fld 1).es).length)) then
 some [((a0.fld 1).nth a1.i.toNat)]
 else
 none
 else
 bif (decide (0≤s0)&&decide (s0.toNat < ((a0.fld 3).es).length)) then
 some [((a0.fld 3).nth (s0.toNat))]
 else
 none) (IntKind.wrap .i64 (a1.i - (((a0.fld 1).es).length:Int)))
theorem Ms (a0 a1:T) (h:Yields (fun k=>hZ (hl env k mK) (cl env k) a0 a1) r):Yields (fun k=>cl env k hJ [a0,a1]) r:=Yields.ca (hZ · · a0 a1) h (by kernel_rfl)
noncomputable abbrev ej (H:HT) (C:aF) (a0 a1 a2 a3 a4 a5 a6:T):R:=
 obind (C dG [a0,a1,a2,a3,a4,a6]) fun r1=>
 bif ((rt r1 1).i != (0:Int)) then
 some [a4,(T.int (a5.i.toNat:Int)),(T.bool false)]
 else
 bif (decide ((a5.i.toNat:Int) > (36:Int))) then
 some [a4,(T.int (a5.i.toNat:Int)),(T.bool false)]
 else
 none
theorem qL (a0 a1 a2 a3 a4 a5 a6:T) (h:Yields (fun k=>ej (hl env k fR) (cl env k) a0 a1 a2 a3 a4 a5 a6) r):Yields (fun k=>cl env k cO [a0,a1,a2,a3,a4,a5,a6]) r:=Yields.ca (ej · · a0 a1 a2 a3 a4 a5 a6) h (by kernel_rfl)
noncomputable abbrev gm (H:HT) (C:aF) (a0 a1 a2 a3 a4 a5 a6:T):R:=
 obind (C dG [a0,a1,a2,a3,a4,a6]) fun r1=>
 bif ((rt r1 1).i != (0:Int)) then
 some [a4,(T.int (a5.es.length:Int)),(T.bool false),a5]
 else
 bif (decide ((a5.es.length:Int) > (36:Int))) then
 some [a4,(T.int (a5.es.length:Int)),(T.bool false),a5]
 else
 bif (decide (a5.es.length + [a6].length≤LIM)) then
 some [(T.st [((rt r1 0).fld 0),((rt r1 0).fld 1)]),(T.int ((a5.es ++ [a6]).length:Int)),(T.bool true),a5]
 else
 none
theorem mY (a0 a1 a2 a3 a4 a5 a6:T) (h:Yields (fun k=>gm (hl env k lR) (cl env k) a0 a1 a2 a3 a4 a5 a6) r):Yields (fun k=>cl env k jr [a0,a1,a2,a3,a4,a5,a6]) r:=Yields.ca (gm · · a0 a1 a2 a3 a4 a5 a6) h (by kernel_rfl)
end Go.Proofs.YtdcnobhlknjnoaaGreatDoor.Ra
