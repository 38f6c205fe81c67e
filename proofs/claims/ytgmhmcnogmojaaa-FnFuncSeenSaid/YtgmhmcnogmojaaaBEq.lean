/- A verified evaluator for the program, part Eq of this claim. -/
import Derived.Test.YtgmhmcnogmojaaaBEq0
set_option linter.unusedSimpArgs false
set_option linter.unusedVariables false
set_option linter.unusedSimpArgs false
set_option linter.unusedVariables false
namespace Go.Proofs.Ytgmhmcnogmojaaa.Ra
open Go
noncomputable abbrev jm (H:List Item→CS→R) (C:aF) (a0 a1:T):R:=
 bif (((a1.fld 0).s).toList==q7.toList) then
 obind (C eZ [a0,(a1.fld 1)]) fun r1=>
 dS H (rt r1 0) (T.int (0:Int)) (rt (r1.drop 1) 0) a1
 else
 bif (((a1.fld 0).s).toList==lT.toList) then
 obind (C eZ [a0,(a1.fld 1)]) fun r2=>
 obind (C aR [(rt (r2.drop 1) 0),(T.sl [(rt r2 0)])]) fun r3=>
 dT H (rt r2 0) (T.int (0:Int)) (rt (r3.drop 1) 0) a1
 else
 bif (((a1.fld 0).s).toList==k_field.toList) then
 obind (C eZ [a0,(a1.fld 2)]) fun r4=>
 bif (((((rt r4 0).s).toList==(⟨#[]⟩:ByteArray).toList)==false)||(!((((rt r4 0).s).toList==(⟨#[]⟩:ByteArray).toList)==false))) then
 bif (((((rt r4 0).s).toList==(⟨#[]⟩:ByteArray).toList)==false)||(!((((rt r4 0).s).toList==(⟨#[]⟩:ByteArray).toList)==false))) then
 bif (((((rt r4 0).s).toList==(⟨#[]⟩:ByteArray).toList)==false)||(!((((rt r4 0).s).toList==(⟨#[]⟩:ByteArray).toList)==false))) then
 bif (((((rt r4 0).s).toList==(⟨#[]⟩:ByteArray).toList)==false)||(!((((rt r4 0).s).toList==(⟨#[]⟩:ByteArray).toList)==false))) then
 bif (((((rt r4 0).s).toList==(⟨#[]⟩:ByteArray).toList)==false)||(!((((rt r4 0).s).toList==(⟨#[]⟩:ByteArray).toList)==false))) then
 bif (((((rt r4 0).s).toList==(⟨#[]⟩:ByteArray).toList)==false)||(!((((rt r4 0).s).toList==(⟨#[]⟩:ByteArray).toList)==false))) then
 bif (((((rt r4 0).s).toList==(⟨#[]⟩:ByteArray).toList)==false)||(!((((rt r4 0).s).toList==(⟨#[]⟩:ByteArray).toList)==false))) then
 bif (((((((rt r4 0).s).toList==(⟨#[]⟩:ByteArray).toList)==false)&&(((((rt r4 0).s).toList==(⟨#[]⟩:ByteArray).toList)==false)&&true))&&(decide (0≤((rt (r4.drop 1) 0).fld 2).i)&&decide ((((rt (r4.drop 1) 0).fld 2).i).toNat < (((rt (r4.drop 1) 0).fld 1).es).length)))||(!((((rt r4 0).s).toList==(⟨#[]⟩:ByteArray).toList)==false))) then
 bif (((((rt r4 0).s).toList==(⟨#[]⟩:ByteArray).toList)==false)||(!((((rt r4 0).s).toList==(⟨#[]⟩:ByteArray).toList)==false))) then
 bif (((((rt r4 0).s).toList==(⟨#[]⟩:ByteArray).toList)==false)||(!((((rt r4 0).s).toList==(⟨#[]⟩:ByteArray).toList)==false))) then
 bif (((((((rt r4 0).s).toList==(⟨#[]⟩:ByteArray).toList)==false)&&(((((rt r4 0).s).toList==(⟨#[]⟩:ByteArray).toList)==false)&&true))&&(decide (0≤(a1.fld 2).i)&&decide (((a1.fld 2).i).toNat < ((((rt (r4.drop 1) 0).fld 1).nth ((((rt (r4.drop 1) 0).fld 2).i).toNat)).es).length)))||(!((((rt r4 0).s).toList==(⟨#[]⟩:ByteArray).toList)==false))) then
 bif (((((rt r4 0).s).toList==(⟨#[]⟩:ByteArray).toList)==false)||(!((((rt r4 0).s).toList==(⟨#[]⟩:ByteArray).toList)==false))) then
 bif (((((rt r4 0).s).toList==(⟨#[]⟩:ByteArray).toList)==false)||(!((((rt r4 0).s).toList==(⟨#[]⟩:ByteArray).toList)==false))) then
 bif (((((rt r4 0).s).toList==(⟨#[]⟩:ByteArray).toList)==false)||(!((((rt r4 0).s).toList==(⟨#[]⟩:ByteArray).toList)==false))) then
 bif (((((((rt r4 0).s).toList==(⟨#[]⟩:ByteArray).toList)==false)&&((((rt r4 0).s).toList==(⟨#[]⟩:ByteArray).toList)==false))&&true)||(!((((rt r4 0).s).toList==(⟨#[]⟩:ByteArray).toList)==false))) then
 bif (bif (((rt r4 0).s).toList==(⟨#[]⟩:ByteArray).toList) then true else ((((rt r4 0).s).toList==(⟨#[]⟩:ByteArray).toList)==false)) then
 bif (bif (((rt r4 0).s).toList==(⟨#[]⟩:ByteArray).toList) then (T.bool true) else (T.bool (decide ((a1.fld 1).i≥(((((((rt (r4.drop 1) 0).fld 1).nth ((((rt (r4.drop 1) 0).fld 2).i).toNat)).nth (((a1.fld 2).i).toNat)).fld 1).es).length:Int))))).b then
 obind (C cw [(rt (r4.drop 1) 0),(T.int (5:Int))]) fun r5=>
 some [(T.bool true),(rt (r5.drop 0) 0)]
 else
 bif (decide (cX.size+((rt r4 0).s).size≤LIM)) then
 bif (decide (cI.size+((rt r4 0).s).size≤LIM)) then
 obind (C aR [(rt (r4.drop 1) 0),(T.sl [(T.str (cX++((rt r4 0).s))),(T.str (cI++((rt r4 0).s)))])]) fun r6=>
 bif (((rt (r6.drop 1) 0).fld 5).i==(0:Int)) then
 bif (decide (0≤(0:Int))&&(decide ((0:Int)≤(1:Int))&&(decide ((1:Int)≤((((rt r6 0).fld 0).s).size:Int))&&decide (((((rt r6 0).fld 0).s).size:Int)≤((((rt r6 0).fld 0).s).size:Int))))) then
 bif (decide (0≤((rt (r6.drop 1) 0).fld 2).i)&&decide ((((rt (r6.drop 1) 0).fld 2).i).toNat < (((rt (r6.drop 1) 0).fld 1).es).length)) then
 bif (decide (0≤(a1.fld 2).i)&&decide (((a1.fld 2).i).toNat < ((((rt (r6.drop 1) 0).fld 1).nth ((((rt (r6.drop 1) 0).fld 2).i).toNat)).es).length)) then
 bif (decide (0≤(a1.fld 1).i)&&decide (((a1.fld 1).i).toNat < ((((((rt (r6.drop 1) 0).fld 1).nth ((((rt (r6.drop 1) 0).fld 2).i).toNat)).nth (((a1.fld 2).i).toNat)).fld 1).es).length)) then
 bif (decide (((((rt r6 0).fld 0).s).extract 0 1).size+(((((((rt (r6.drop 1) 0).fld 1).nth ((((rt (r6.drop 1) 0).fld 2).i).toNat)).nth (((a1.fld 2).i).toNat)).fld 1).nth (((a1.fld 1).i).toNat)).s).size≤LIM)) then
 obind (C aK [(rt (r6.drop 1) 0),(T.str (((((rt r6 0).fld 0).s).extract 0 1)++(((((((rt (r6.drop 1) 0).fld 1).nth ((((rt (r6.drop 1) 0).fld 2).i).toNat)).nth (((a1.fld 2).i).toNat)).fld 1).nth (((a1.fld 1).i).toNat)).s))),((rt r6 0).fld 1)]) fun r7=>
 some [(T.bool true),(rt (r7.drop 0) 0)]
 else
 none
 else
 none
 else
 none
 else
 none
 else
 none
 else
 some [(T.bool true),(rt (r6.drop 1) 0)]
 else
 none
 else
 none
 else
 none
 else
 none
 else
 none
 else
 none
 else
 none
 else
 none
 else
 none
 else
 none
 else
 none
 else
 none
 else
 none
 else
 none
 else
 none
 else
 none
 else
 none
 else
 none
 else
 bif (((a1.fld 0).s).toList==k_read.toList) then
 obind (C aR [a0,(T.sl [])]) fun r8=>
 obind (C bO [((rt r8 0).fld 0)]) fun r9=>
 obind (C aM [(rt (r8.drop 1) 0),(rt r9 0),(T.int (1:Int))]) fun r10=>
 bif (((rt (r10.drop 0) 0).fld 5).i != (0:Int)) then
 obind (C aM [(rt (r10.drop 0) 0),(T.bool true),(T.int (3:Int))]) fun r11=>
 bif (((a1.fld 0).s).toList==t7.toList) then
 obind (C aK [(rt (r11.drop 0) 0),((rt r8 0).fld 0),((rt r8 0).fld 1)]) fun r12=>
 obind (C cx [((rt r8 0).fld 0)]) fun r13=>
 obind (C aK [(rt (r12.drop 0) 0),(rt r13 0),(T.sl [])]) fun r14=>
 some [(T.bool true),(rt (r14.drop 0) 0)]
 else
 obind (C cx [((rt r8 0).fld 0)]) fun r15=>
 obind (C aK [(rt (r11.drop 0) 0),(rt r15 0),(T.sl [])]) fun r16=>
 some [(T.bool true),(rt (r16.drop 0) 0)]
 else
 obind (C cx [((rt r8 0).fld 0)]) fun r17=>
 obind (C cu [(rt (r10.drop 0) 0),(rt r17 0),(T.int (1:Int))]) fun r18=>
 obind (C aM [(rt (r18.drop 1) 0),(rt r18 0),(T.int (3:Int))]) fun r19=>
 bif (((a1.fld 0).s).toList==t7.toList) then
 obind (C aK [(rt (r19.drop 0) 0),((rt r8 0).fld 0),((rt r8 0).fld 1)]) fun r20=>
 obind (C cx [((rt r8 0).fld 0)]) fun r21=>
 obind (C aK [(rt (r20.drop 0) 0),(rt r21 0),(T.sl [])]) fun r22=>
 some [(T.bool true),(rt (r22.drop 0) 0)]
 else
 obind (C cx [((rt r8 0).fld 0)]) fun r23=>
 obind (C aK [(rt (r19.drop 0) 0),(rt r23 0),(T.sl [])]) fun r24=>
 some [(T.bool true),(rt (r24.drop 0) 0)]
 else
 bif (((a1.fld 0).s).toList==t7.toList) then
 obind (C aR [a0,(T.sl [])]) fun r25=>
 obind (C bO [((rt r25 0).fld 0)]) fun r26=>
 obind (C aM [(rt (r25.drop 1) 0),(rt r26 0),(T.int (1:Int))]) fun r27=>
 bif (((rt (r27.drop 0) 0).fld 5).i != (0:Int)) then
 obind (C aM [(rt (r27.drop 0) 0),(T.bool true),(T.int (3:Int))]) fun r28=>
 bif (((a1.fld 0).s).toList==t7.toList) then
 obind (C aK [(rt (r28.drop 0) 0),((rt r25 0).fld 0),((rt r25 0).fld 1)]) fun r29=>
 obind (C cx [((rt r25 0).fld 0)]) fun r30=>
 obind (C aK [(rt (r29.drop 0) 0),(rt r30 0),(T.sl [])]) fun r31=>
 some [(T.bool true),(rt (r31.drop 0) 0)]
 else
 obind (C cx [((rt r25 0).fld 0)]) fun r32=>
 obind (C aK [(rt (r28.drop 0) 0),(rt r32 0),(T.sl [])]) fun r33=>
 some [(T.bool true),(rt (r33.drop 0) 0)]
 else
 obind (C cx [((rt r25 0).fld 0)]) fun r34=>
 obind (C cu [(rt (r27.drop 0) 0),(rt r34 0),(T.int (1:Int))]) fun r35=>
 obind (C aM [(rt (r35.drop 1) 0),(rt r35 0),(T.int (3:Int))]) fun r36=>
 bif (((a1.fld 0).s).toList==t7.toList) then
 obind (C aK [(rt (r36.drop 0) 0),((rt r25 0).fld 0),((rt r25 0).fld 1)]) fun r37=>
 obind (C cx [((rt r25 0).fld 0)]) fun r38=>
 obind (C aK [(rt (r37.drop 0) 0),(rt r38 0),(T.sl [])]) fun r39=>
 some [(T.bool true),(rt (r39.drop 0) 0)]
 else
 obind (C cx [((rt r25 0).fld 0)]) fun r40=>
 obind (C aK [(rt (r36.drop 0) 0),(rt r40 0),(T.sl [])]) fun r41=>
 some [(T.bool true),(rt (r41.drop 0) 0)]
 else
 bif (((a1.fld 0).s).toList==k_write.toList) then
 obind (C aR [a0,(T.sl [])]) fun r42=>
 bif (decide (cI.size+(((rt r42 0).fld 0).s).size≤LIM)) then
 obind (C aR [(rt (r42.drop 1) 0),(T.sl [(T.str (cI++(((rt r42 0).fld 0).s)))])]) fun r43=>
 bif (((rt (r43.drop 1) 0).fld 5).i != (0:Int)) then
 obind (C aM [(rt (r43.drop 1) 0),(T.bool true),(T.int (3:Int))]) fun r44=>
 some [(T.bool true),(rt (r44.drop 0) 0)]
 else
 obind (C cu [(rt (r43.drop 1) 0),((rt r42 0).fld 0),(T.int (2:Int))]) fun r45=>
 obind (C aM [(rt (r45.drop 1) 0),(rt r45 0),(T.int (3:Int))]) fun r46=>
 some [(T.bool true),(rt (r46.drop 0) 0)]
 else
 none
 else
 bif (((a1.fld 0).s).toList==k_freeze.toList) then
 obind (C aR [a0,(T.sl [])]) fun r47=>
 obind (C bO [((rt r47 0).fld 0)]) fun r48=>
 bif (rt r48 0).b then
 bif (decide (0≤(0:Int))&&decide (0 < (((rt r47 0).fld 0).s).size)) then
 obind (C aM [(rt (r47.drop 1) 0),(T.bool (((((rt r47 0).fld 0).s).data.getD 0 0).toNat==(33:Int))),(T.int (1:Int))]) fun r49=>
 obind (C cx [((rt r47 0).fld 0)]) fun r50=>
 bif (decide (cX.size+((rt r50 0).s).size≤LIM)) then
 obind (C aK [(rt (r49.drop 0) 0),(T.str (cX++((rt r50 0).s))),((rt r47 0).fld 1)]) fun r51=>
 some [(T.bool true),(rt (r51.drop 0) 0)]
 else
 none
 else
 none
 else
 obind (C aM [(rt (r47.drop 1) 0),(T.bool false),(T.int (1:Int))]) fun r52=>
 obind (C cx [((rt r47 0).fld 0)]) fun r53=>
 bif (decide (cX.size+((rt r53 0).s).size≤LIM)) then
 obind (C aK [(rt (r52.drop 0) 0),(T.str (cX++((rt r53 0).s))),((rt r47 0).fld 1)]) fun r54=>
 some [(T.bool true),(rt (r54.drop 0) 0)]
 else
 none
 else
 some [(T.bool false),a0]
theorem sw (a0 a1:T) {r:List T} (h:Yields (fun k=>jm (hl env k bC) (cl env k) a0 a1) r):Yields (fun k=>cl env k jj [a0,a1]) r:=Yields.call (fi:=bC) (Z:=fun H C=>jm H C a0 a1) rfl rfl (fun H C=>by kernel_rfl) h
noncomputable abbrev dQ (H:List Item→CS→R) (C:aF) (x1:T) (x2:T) (x3:T) (x4:T):R:=
 bif (((!(x1.s.toList==(⟨#[]⟩:ByteArray).toList))==true)||(!((!(x1.s.toList==(⟨#[]⟩:ByteArray).toList))==true))) then
 bif (((!(x1.s.toList==(⟨#[]⟩:ByteArray).toList))==true)||(!((!(x1.s.toList==(⟨#[]⟩:ByteArray).toList))==true))) then
 bif (((!(x1.s.toList==(⟨#[]⟩:ByteArray).toList))==true)||(!((!(x1.s.toList==(⟨#[]⟩:ByteArray).toList))==true))) then
 bif (((!(x1.s.toList==(⟨#[]⟩:ByteArray).toList))==true)||(!((!(x1.s.toList==(⟨#[]⟩:ByteArray).toList))==true))) then
 bif (((!(x1.s.toList==(⟨#[]⟩:ByteArray).toList))==true)||(!((!(x1.s.toList==(⟨#[]⟩:ByteArray).toList))==true))) then
 bif (((!(x1.s.toList==(⟨#[]⟩:ByteArray).toList))==true)||(!((!(x1.s.toList==(⟨#[]⟩:ByteArray).toList))==true))) then
 bif (((((!(x1.s.toList==(⟨#[]⟩:ByteArray).toList))==true)&&(((!(x1.s.toList==(⟨#[]⟩:ByteArray).toList))==true)&&true))&&(decide (0≤(x3.fld 2).i)&&decide (((x3.fld 2).i).toNat < ((x3.fld 1).es).length)))||(!((!(x1.s.toList==(⟨#[]⟩:ByteArray).toList))==true))) then
 bif (((!(x1.s.toList==(⟨#[]⟩:ByteArray).toList))==true)||(!((!(x1.s.toList==(⟨#[]⟩:ByteArray).toList))==true))) then
 bif (((!(x1.s.toList==(⟨#[]⟩:ByteArray).toList))==true)||(!((!(x1.s.toList==(⟨#[]⟩:ByteArray).toList))==true))) then
 bif (((((!(x1.s.toList==(⟨#[]⟩:ByteArray).toList))==true)&&(((!(x1.s.toList==(⟨#[]⟩:ByteArray).toList))==true)&&true))&&(decide (0≤(x4.fld 1).i)&&decide (((x4.fld 1).i).toNat < (((x3.fld 1).nth (((x3.fld 2).i).toNat)).es).length)))||(!((!(x1.s.toList==(⟨#[]⟩:ByteArray).toList))==true))) then
 bif (((!(x1.s.toList==(⟨#[]⟩:ByteArray).toList))==true)||(!((!(x1.s.toList==(⟨#[]⟩:ByteArray).toList))==true))) then
 bif (((!(x1.s.toList==(⟨#[]⟩:ByteArray).toList))==true)||(!((!(x1.s.toList==(⟨#[]⟩:ByteArray).toList))==true))) then
 bif (((!(x1.s.toList==(⟨#[]⟩:ByteArray).toList))==true)||(!((!(x1.s.toList==(⟨#[]⟩:ByteArray).toList))==true))) then
 bif (((((!(x1.s.toList==(⟨#[]⟩:ByteArray).toList))==true)&&((!(x1.s.toList==(⟨#[]⟩:ByteArray).toList))==true))&&true)||(!((!(x1.s.toList==(⟨#[]⟩:ByteArray).toList))==true))) then
 bif (bif (!(x1.s.toList==(⟨#[]⟩:ByteArray).toList)) then ((!(x1.s.toList==(⟨#[]⟩:ByteArray).toList))==true) else true) then
 bif (bif (!(x1.s.toList==(⟨#[]⟩:ByteArray).toList)) then (T.bool (decide (x2.i < ((((((x3.fld 1).nth (((x3.fld 2).i).toNat)).nth (((x4.fld 1).i).toNat)).fld 1).es).length:Int)))) else (T.bool false)).b then
 bif (decide (0≤(x3.fld 2).i)&&decide (((x3.fld 2).i).toNat < ((x3.fld 1).es).length)) then
 bif (decide (0≤(x4.fld 1).i)&&decide (((x4.fld 1).i).toNat < (((x3.fld 1).nth (((x3.fld 2).i).toNat)).es).length)) then
 bif (decide (0≤(IntKind.wrap .i64 ((IntKind.wrap .i64 (((((((x3.fld 1).nth (((x3.fld 2).i).toNat)).nth (((x4.fld 1).i).toNat)).fld 1).es).length:Int) - (1:Int))) - x2.i)))&&decide ((IntKind.wrap .i64 ((IntKind.wrap .i64 (((((((x3.fld 1).nth (((x3.fld 2).i).toNat)).nth (((x4.fld 1).i).toNat)).fld 1).es).length:Int) - (1:Int))) - x2.i)).toNat < (((((x3.fld 1).nth (((x3.fld 2).i).toNat)).nth (((x4.fld 1).i).toNat)).fld 1).es).length)) then
 obind (C aR [x3,(T.sl [(((((x3.fld 1).nth (((x3.fld 2).i).toNat)).nth (((x4.fld 1).i).toNat)).fld 1).nth ((IntKind.wrap .i64 ((IntKind.wrap .i64 (((((((x3.fld 1).nth (((x3.fld 2).i).toNat)).nth (((x4.fld 1).i).toNat)).fld 1).es).length:Int) - (1:Int))) - x2.i)).toNat))])]) fun r1=>
 dS H x1 (T.int (IntKind.wrap .i64 (x2.i+(1:Int)))) (rt (r1.drop 1) 0) x4
 else
 none
 else
 none
 else
 none
 else
 obind (C aK [x3,x1,(T.sl [])]) fun r2=>
 some [(T.bool true),(rt (r2.drop 0) 0)]
 else
 none
 else
 none
 else
 none
 else
 none
 else
 none
 else
 none
 else
 none
 else
 none
 else
 none
 else
 none
 else
 none
 else
 none
 else
 none
 else
 none
 else
 none
theorem io (x1:T) (x2:T) (x3:T) (x4:T) {r:List T} (h:Yields (fun k=>dQ (hl env k bC) (cl env k) x1 x2 x3 x4) r):Yields (fun k=>dS (hl env k bC) x1 x2 x3 x4) r:=Yields.head (Z:=fun H C=>dQ H C x1 x2 x3 x4) (fun H C=>by kernel_rfl) h
noncomputable abbrev dR (H:List Item→CS→R) (C:aF) (x1:T) (x2:T) (x3:T) (x4:T):R:=
 bif (((!(x1.s.toList==(⟨#[]⟩:ByteArray).toList))==true)||(!((!(x1.s.toList==(⟨#[]⟩:ByteArray).toList))==true))) then
 bif (((!(x1.s.toList==(⟨#[]⟩:ByteArray).toList))==true)||(!((!(x1.s.toList==(⟨#[]⟩:ByteArray).toList))==true))) then
 bif (((!(x1.s.toList==(⟨#[]⟩:ByteArray).toList))==true)||(!((!(x1.s.toList==(⟨#[]⟩:ByteArray).toList))==true))) then
 bif (((!(x1.s.toList==(⟨#[]⟩:ByteArray).toList))==true)||(!((!(x1.s.toList==(⟨#[]⟩:ByteArray).toList))==true))) then
 bif (((!(x1.s.toList==(⟨#[]⟩:ByteArray).toList))==true)||(!((!(x1.s.toList==(⟨#[]⟩:ByteArray).toList))==true))) then
 bif (((!(x1.s.toList==(⟨#[]⟩:ByteArray).toList))==true)||(!((!(x1.s.toList==(⟨#[]⟩:ByteArray).toList))==true))) then
 bif (((((!(x1.s.toList==(⟨#[]⟩:ByteArray).toList))==true)&&(((!(x1.s.toList==(⟨#[]⟩:ByteArray).toList))==true)&&true))&&(decide (0≤(x3.fld 2).i)&&decide (((x3.fld 2).i).toNat < ((x3.fld 1).es).length)))||(!((!(x1.s.toList==(⟨#[]⟩:ByteArray).toList))==true))) then
 bif (((!(x1.s.toList==(⟨#[]⟩:ByteArray).toList))==true)||(!((!(x1.s.toList==(⟨#[]⟩:ByteArray).toList))==true))) then
 bif (((!(x1.s.toList==(⟨#[]⟩:ByteArray).toList))==true)||(!((!(x1.s.toList==(⟨#[]⟩:ByteArray).toList))==true))) then
 bif (((((!(x1.s.toList==(⟨#[]⟩:ByteArray).toList))==true)&&(((!(x1.s.toList==(⟨#[]⟩:ByteArray).toList))==true)&&true))&&(decide (0≤(x4.fld 1).i)&&decide (((x4.fld 1).i).toNat < (((x3.fld 1).nth (((x3.fld 2).i).toNat)).es).length)))||(!((!(x1.s.toList==(⟨#[]⟩:ByteArray).toList))==true))) then
 bif (((!(x1.s.toList==(⟨#[]⟩:ByteArray).toList))==true)||(!((!(x1.s.toList==(⟨#[]⟩:ByteArray).toList))==true))) then
 bif (((!(x1.s.toList==(⟨#[]⟩:ByteArray).toList))==true)||(!((!(x1.s.toList==(⟨#[]⟩:ByteArray).toList))==true))) then
 bif (((!(x1.s.toList==(⟨#[]⟩:ByteArray).toList))==true)||(!((!(x1.s.toList==(⟨#[]⟩:ByteArray).toList))==true))) then
 bif (((((!(x1.s.toList==(⟨#[]⟩:ByteArray).toList))==true)&&((!(x1.s.toList==(⟨#[]⟩:ByteArray).toList))==true))&&true)||(!((!(x1.s.toList==(⟨#[]⟩:ByteArray).toList))==true))) then
 bif (bif (!(x1.s.toList==(⟨#[]⟩:ByteArray).toList)) then ((!(x1.s.toList==(⟨#[]⟩:ByteArray).toList))==true) else true) then
 bif (bif (!(x1.s.toList==(⟨#[]⟩:ByteArray).toList)) then (T.bool (decide (x2.i < ((((((x3.fld 1).nth (((x3.fld 2).i).toNat)).nth (((x4.fld 1).i).toNat)).fld 1).es).length:Int)))) else (T.bool false)).b then
 bif (decide (0≤(x3.fld 2).i)&&decide (((x3.fld 2).i).toNat < ((x3.fld 1).es).length)) then
 bif (decide (0≤(x4.fld 1).i)&&decide (((x4.fld 1).i).toNat < (((x3.fld 1).nth (((x3.fld 2).i).toNat)).es).length)) then
 bif (decide (0≤x2.i)&&decide (x2.i.toNat < (((((x3.fld 1).nth (((x3.fld 2).i).toNat)).nth (((x4.fld 1).i).toNat)).fld 1).es).length)) then
 obind (C aK [x3,(((((x3.fld 1).nth (((x3.fld 2).i).toNat)).nth (((x4.fld 1).i).toNat)).fld 1).nth x2.i.toNat),(T.sl [])]) fun r1=>
 dT H x1 (T.int (IntKind.wrap .i64 (x2.i+(1:Int)))) (rt (r1.drop 0) 0) x4
 else
 none
 else
 none
 else
 none
 else
 some [(T.bool true),x3]
 else
 none
 else
 none
 else
 none
 else
 none
 else
 none
 else
 none
 else
 none
 else
 none
 else
 none
 else
 none
 else
 none
 else
 none
 else
 none
 else
 none
 else
 none
theorem ip (x1:T) (x2:T) (x3:T) (x4:T) {r:List T} (h:Yields (fun k=>dR (hl env k bC) (cl env k) x1 x2 x3 x4) r):Yields (fun k=>dT (hl env k bC) x1 x2 x3 x4) r:=Yields.head (Z:=fun H C=>dR H C x1 x2 x3 x4) (fun H C=>by kernel_rfl) h
noncomputable abbrev cC (H:List Item→CS→R) (C:aF) (a0 a1:T):R:=
 bif (((!(((a1.fld 0).s).toList==aT.toList))==true)||(!((!(((a1.fld 0).s).toList==aT.toList))==true))) then
 bif (((((!(((a1.fld 0).s).toList==aT.toList))==true)&&true)&&true)||(!((!(((a1.fld 0).s).toList==aT.toList))==true))) then
 bif (bif (!(((a1.fld 0).s).toList==aT.toList)) then ((!(((a1.fld 0).s).toList==aT.toList))==true) else true) then
 bif (((bif (!(((a1.fld 0).s).toList==aT.toList)) then (T.bool (!(((a1.fld 0).s).toList==cJ.toList))) else (T.bool false)).b==true)||(!((bif (!(((a1.fld 0).s).toList==aT.toList)) then (T.bool (!(((a1.fld 0).s).toList==cJ.toList))) else (T.bool false)).b==true))) then
 bif (((((bif (!(((a1.fld 0).s).toList==aT.toList)) then (T.bool (!(((a1.fld 0).s).toList==cJ.toList))) else (T.bool false)).b==true)&&true)&&true)||(!((bif (!(((a1.fld 0).s).toList==aT.toList)) then (T.bool (!(((a1.fld 0).s).toList==cJ.toList))) else (T.bool false)).b==true))) then
 bif (bif (bif (!(((a1.fld 0).s).toList==aT.toList)) then (T.bool (!(((a1.fld 0).s).toList==cJ.toList))) else (T.bool false)).b then ((bif (!(((a1.fld 0).s).toList==aT.toList)) then (T.bool (!(((a1.fld 0).s).toList==cJ.toList))) else (T.bool false)).b==true) else true) then
 bif (((bif (bif (!(((a1.fld 0).s).toList==aT.toList)) then (T.bool (!(((a1.fld 0).s).toList==cJ.toList))) else (T.bool false)).b then (T.bool (!(((a1.fld 0).s).toList==bv.toList))) else (T.bool false)).b==true)||(!((bif (bif (!(((a1.fld 0).s).toList==aT.toList)) then (T.bool (!(((a1.fld 0).s).toList==cJ.toList))) else (T.bool false)).b then (T.bool (!(((a1.fld 0).s).toList==bv.toList))) else (T.bool false)).b==true))) then
 bif (((((bif (bif (!(((a1.fld 0).s).toList==aT.toList)) then (T.bool (!(((a1.fld 0).s).toList==cJ.toList))) else (T.bool false)).b then (T.bool (!(((a1.fld 0).s).toList==bv.toList))) else (T.bool false)).b==true)&&true)&&true)||(!((bif (bif (!(((a1.fld 0).s).toList==aT.toList)) then (T.bool (!(((a1.fld 0).s).toList==cJ.toList))) else (T.bool false)).b then (T.bool (!(((a1.fld 0).s).toList==bv.toList))) else (T.bool false)).b==true))) then
 bif (bif (bif (bif (!(((a1.fld 0).s).toList==aT.toList)) then (T.bool (!(((a1.fld 0).s).toList==cJ.toList))) else (T.bool false)).b then (T.bool (!(((a1.fld 0).s).toList==bv.toList))) else (T.bool false)).b then ((bif (bif (!(((a1.fld 0).s).toList==aT.toList)) then (T.bool (!(((a1.fld 0).s).toList==cJ.toList))) else (T.bool false)).b then (T.bool (!(((a1.fld 0).s).toList==bv.toList))) else (T.bool false)).b==true) else true) then
 bif (((bif (bif (bif (!(((a1.fld 0).s).toList==aT.toList)) then (T.bool (!(((a1.fld 0).s).toList==cJ.toList))) else (T.bool false)).b then (T.bool (!(((a1.fld 0).s).toList==bv.toList))) else (T.bool false)).b then (T.bool (!(((a1.fld 0).s).toList==kt.toList))) else (T.bool false)).b==true)||(!((bif (bif (bif (!(((a1.fld 0).s).toList==aT.toList)) then (T.bool (!(((a1.fld 0).s).toList==cJ.toList))) else (T.bool false)).b then (T.bool (!(((a1.fld 0).s).toList==bv.toList))) else (T.bool false)).b then (T.bool (!(((a1.fld 0).s).toList==kt.toList))) else (T.bool false)).b==true))) then
 bif (((((bif (bif (bif (!(((a1.fld 0).s).toList==aT.toList)) then (T.bool (!(((a1.fld 0).s).toList==cJ.toList))) else (T.bool false)).b then (T.bool (!(((a1.fld 0).s).toList==bv.toList))) else (T.bool false)).b then (T.bool (!(((a1.fld 0).s).toList==kt.toList))) else (T.bool false)).b==true)&&true)&&true)||(!((bif (bif (bif (!(((a1.fld 0).s).toList==aT.toList)) then (T.bool (!(((a1.fld 0).s).toList==cJ.toList))) else (T.bool false)).b then (T.bool (!(((a1.fld 0).s).toList==bv.toList))) else (T.bool false)).b then (T.bool (!(((a1.fld 0).s).toList==kt.toList))) else (T.bool false)).b==true))) then
 bif (bif (bif (bif (bif (!(((a1.fld 0).s).toList==aT.toList)) then (T.bool (!(((a1.fld 0).s).toList==cJ.toList))) else (T.bool false)).b then (T.bool (!(((a1.fld 0).s).toList==bv.toList))) else (T.bool false)).b then (T.bool (!(((a1.fld 0).s).toList==kt.toList))) else (T.bool false)).b then ((bif (bif (bif (!(((a1.fld 0).s).toList==aT.toList)) then (T.bool (!(((a1.fld 0).s).toList==cJ.toList))) else (T.bool false)).b then (T.bool (!(((a1.fld 0).s).toList==bv.toList))) else (T.bool false)).b then (T.bool (!(((a1.fld 0).s).toList==kt.toList))) else (T.bool false)).b==true) else true) then
 bif (bif (bif (bif (bif (!(((a1.fld 0).s).toList==aT.toList)) then (T.bool (!(((a1.fld 0).s).toList==cJ.toList))) else (T.bool false)).b then (T.bool (!(((a1.fld 0).s).toList==bv.toList))) else (T.bool false)).b then (T.bool (!(((a1.fld 0).s).toList==kt.toList))) else (T.bool false)).b then (T.bool (!(((a1.fld 0).s).toList==rm.toList))) else (T.bool false)).b then
 some [(T.bool false),a0]
 else
 obind (C eZ [a0,(a1.fld 1)]) fun r1=>
 bif (((rt r1 0).s).toList==(⟨#[]⟩:ByteArray).toList) then
 obind (C aM [(rt (r1.drop 1) 0),(T.bool true),(T.int (5:Int))]) fun r2=>
 bif (((((a1.fld 0).s).toList==aT.toList)==false)||(!((((a1.fld 0).s).toList==aT.toList)==false))) then
 bif (((((((a1.fld 0).s).toList==aT.toList)==false)&&true)&&true)||(!((((a1.fld 0).s).toList==aT.toList)==false))) then
 bif (bif (((a1.fld 0).s).toList==aT.toList) then true else ((((a1.fld 0).s).toList==aT.toList)==false)) then
 bif (((bif (((a1.fld 0).s).toList==aT.toList) then (T.bool true) else (T.bool (((a1.fld 0).s).toList==bv.toList))).b==false)||(!((bif (((a1.fld 0).s).toList==aT.toList) then (T.bool true) else (T.bool (((a1.fld 0).s).toList==bv.toList))).b==false))) then
 bif (((bif (((a1.fld 0).s).toList==aT.toList) then (T.bool true) else (T.bool (((a1.fld 0).s).toList==bv.toList))).b==false)||(!((bif (((a1.fld 0).s).toList==aT.toList) then (T.bool true) else (T.bool (((a1.fld 0).s).toList==bv.toList))).b==false))) then
 bif (((bif (((a1.fld 0).s).toList==aT.toList) then (T.bool true) else (T.bool (((a1.fld 0).s).toList==bv.toList))).b==false)||(!((bif (((a1.fld 0).s).toList==aT.toList) then (T.bool true) else (T.bool (((a1.fld 0).s).toList==bv.toList))).b==false))) then
 bif (((bif (((a1.fld 0).s).toList==aT.toList) then (T.bool true) else (T.bool (((a1.fld 0).s).toList==bv.toList))).b==false)||(!((bif (((a1.fld 0).s).toList==aT.toList) then (T.bool true) else (T.bool (((a1.fld 0).s).toList==bv.toList))).b==false))) then
 bif (((bif (((a1.fld 0).s).toList==aT.toList) then (T.bool true) else (T.bool (((a1.fld 0).s).toList==bv.toList))).b==false)||(!((bif (((a1.fld 0).s).toList==aT.toList) then (T.bool true) else (T.bool (((a1.fld 0).s).toList==bv.toList))).b==false))) then
 bif ((((bif (((a1.fld 0).s).toList==aT.toList) then (T.bool true) else (T.bool (((a1.fld 0).s).toList==bv.toList))).b==false)&&(((bif (((a1.fld 0).s).toList==aT.toList) then (T.bool true) else (T.bool (((a1.fld 0).s).toList==bv.toList))).b==false)&&true))||(!((bif (((a1.fld 0).s).toList==aT.toList) then (T.bool true) else (T.bool (((a1.fld 0).s).toList==bv.toList))).b==false))) then
 obind ((bif ((bif (((a1.fld 0).s).toList==aT.toList) then (T.bool true) else (T.bool (((a1.fld 0).s).toList==bv.toList))).b==false) then C dY [(((rt (r2.drop 0) 0).fld 3).fld 4),(a1.fld 1)] else some [])) fun r3=>
 bif (bif (bif (((a1.fld 0).s).toList==aT.toList) then (T.bool true) else (T.bool (((a1.fld 0).s).toList==bv.toList))).b then true else ((bif (((a1.fld 0).s).toList==aT.toList) then (T.bool true) else (T.bool (((a1.fld 0).s).toList==bv.toList))).b==false)) then
 obind (C aM [(rt (r2.drop 0) 0),(bif (bif (((a1.fld 0).s).toList==aT.toList) then (T.bool true) else (T.bool (((a1.fld 0).s).toList==bv.toList))).b then (T.bool true) else (rt r3 0)),(T.int (5:Int))]) fun r4=>
 obind (C aR [(rt (r4.drop 0) 0),(T.sl [(T.str k_o)])]) fun r5=>
 bif (((a1.fld 0).s).toList==aT.toList) then
 obind (C aR [(rt (r5.drop 1) 0),(T.sl [(rt r1 0)])]) fun r6=>
 some [(T.bool true),(rt (r6.drop 1) 0)]
 else
 bif (((a1.fld 0).s).toList==cJ.toList) then
 obind (C cr [(T.st [(((rt (r5.drop 1) 0).fld 4).fld 0),(((rt (r5.drop 1) 0).fld 4).fld 1)]),(T.int (IntKind.wrap .i64 ((6:Int)+(a1.fld 1).i)))]) fun r7=>
 obind (C aM [(rt (r5.drop 1) 0),(T.bool (!(rt r7 0).b)),(T.int (4:Int))]) fun r8=>
 obind (C aK [(rt (r8.drop 0) 0),(rt r1 0),(T.sl [])]) fun r9=>
 some [(T.bool true),(rt (r9.drop 0) 0)]
 else
 bif (((a1.fld 0).s).toList==bv.toList) then
 obind (C aK [(rt (r5.drop 1) 0),(T.str k_b),(T.sl [])]) fun r10=>
 some [(T.bool true),(rt (r10.drop 0) 0)]
 else
 bif (((a1.fld 0).s).toList==kt.toList) then
 obind (C db [(T.st [(((rt (r5.drop 1) 0).fld 4).fld 0),(((rt (r5.drop 1) 0).fld 4).fld 1)]),(T.int (IntKind.wrap .i64 ((6:Int)+(a1.fld 1).i)))]) fun r11=>
 obind (C aM [(rt (r5.drop 1) 0),(T.bool (!(rt r11 0).b)),(T.int (4:Int))]) fun r12=>
 bif (decide (cX.size+((rt r1 0).s).size≤LIM)) then
 obind (C aK [(rt (r12.drop 0) 0),(T.str (cX++((rt r1 0).s))),(T.sl [(T.int (IntKind.wrap .i64 ((6:Int)+(a1.fld 1).i)))])]) fun r13=>
 some [(T.bool true),(rt (r13.drop 0) 0)]
 else
 none
 else
 bif (((a1.fld 0).s).toList==rm.toList) then
 obind (C cr [(T.st [(((rt (r5.drop 1) 0).fld 4).fld 0),(((rt (r5.drop 1) 0).fld 4).fld 1)]),(T.int (IntKind.wrap .i64 ((6:Int)+(a1.fld 1).i)))]) fun r14=>
 obind (C aM [(rt (r5.drop 1) 0),(T.bool (!(rt r14 0).b)),(T.int (4:Int))]) fun r15=>
 bif (decide (cI.size+((rt r1 0).s).size≤LIM)) then
 obind (C aK [(rt (r15.drop 0) 0),(T.str (cI++((rt r1 0).s))),(T.sl [(T.int (IntKind.wrap .i64 ((6:Int)+(a1.fld 1).i)))])]) fun r16=>
 some [(T.bool true),(rt (r16.drop 0) 0)]
 else
 none
 else
 some [(T.bool true),(rt (r5.drop 1) 0)]
 else
 none
 else
 none
 else
 none
 else
 none
 else
 none
 else
 none
 else
 none
 else
 none
 else
 none
 else
 none
 else
 obind (C cu [(rt (r1.drop 1) 0),(rt r1 0),(T.int (8:Int))]) fun r17=>
 obind (C aM [(rt (r17.drop 1) 0),(rt r17 0),(T.int (5:Int))]) fun r18=>
 bif (((((a1.fld 0).s).toList==aT.toList)==false)||(!((((a1.fld 0).s).toList==aT.toList)==false))) then
 bif (((((((a1.fld 0).s).toList==aT.toList)==false)&&true)&&true)||(!((((a1.fld 0).s).toList==aT.toList)==false))) then
 bif (bif (((a1.fld 0).s).toList==aT.toList) then true else ((((a1.fld 0).s).toList==aT.toList)==false)) then
 bif (((bif (((a1.fld 0).s).toList==aT.toList) then (T.bool true) else (T.bool (((a1.fld 0).s).toList==bv.toList))).b==false)||(!((bif (((a1.fld 0).s).toList==aT.toList) then (T.bool true) else (T.bool (((a1.fld 0).s).toList==bv.toList))).b==false))) then
 bif (((bif (((a1.fld 0).s).toList==aT.toList) then (T.bool true) else (T.bool (((a1.fld 0).s).toList==bv.toList))).b==false)||(!((bif (((a1.fld 0).s).toList==aT.toList) then (T.bool true) else (T.bool (((a1.fld 0).s).toList==bv.toList))).b==false))) then
 bif (((bif (((a1.fld 0).s).toList==aT.toList) then (T.bool true) else (T.bool (((a1.fld 0).s).toList==bv.toList))).b==false)||(!((bif (((a1.fld 0).s).toList==aT.toList) then (T.bool true) else (T.bool (((a1.fld 0).s).toList==bv.toList))).b==false))) then
 bif (((bif (((a1.fld 0).s).toList==aT.toList) then (T.bool true) else (T.bool (((a1.fld 0).s).toList==bv.toList))).b==false)||(!((bif (((a1.fld 0).s).toList==aT.toList) then (T.bool true) else (T.bool (((a1.fld 0).s).toList==bv.toList))).b==false))) then
 bif (((bif (((a1.fld 0).s).toList==aT.toList) then (T.bool true) else (T.bool (((a1.fld 0).s).toList==bv.toList))).b==false)||(!((bif (((a1.fld 0).s).toList==aT.toList) then (T.bool true) else (T.bool (((a1.fld 0).s).toList==bv.toList))).b==false))) then
 bif ((((bif (((a1.fld 0).s).toList==aT.toList) then (T.bool true) else (T.bool (((a1.fld 0).s).toList==bv.toList))).b==false)&&(((bif (((a1.fld 0).s).toList==aT.toList) then (T.bool true) else (T.bool (((a1.fld 0).s).toList==bv.toList))).b==false)&&true))||(!((bif (((a1.fld 0).s).toList==aT.toList) then (T.bool true) else (T.bool (((a1.fld 0).s).toList==bv.toList))).b==false))) then
 obind ((bif ((bif (((a1.fld 0).s).toList==aT.toList) then (T.bool true) else (T.bool (((a1.fld 0).s).toList==bv.toList))).b==false) then C dY [(((rt (r18.drop 0) 0).fld 3).fld 4),(a1.fld 1)] else some [])) fun r19=>
 bif (bif (bif (((a1.fld 0).s).toList==aT.toList) then (T.bool true) else (T.bool (((a1.fld 0).s).toList==bv.toList))).b then true else ((bif (((a1.fld 0).s).toList==aT.toList) then (T.bool true) else (T.bool (((a1.fld 0).s).toList==bv.toList))).b==false)) then
 obind (C aM [(rt (r18.drop 0) 0),(bif (bif (((a1.fld 0).s).toList==aT.toList) then (T.bool true) else (T.bool (((a1.fld 0).s).toList==bv.toList))).b then (T.bool true) else (rt r19 0)),(T.int (5:Int))]) fun r20=>
 obind (C aR [(rt (r20.drop 0) 0),(T.sl [(T.str k_o)])]) fun r21=>
 bif (((a1.fld 0).s).toList==aT.toList) then
 obind (C aR [(rt (r21.drop 1) 0),(T.sl [(rt r1 0)])]) fun r22=>
 some [(T.bool true),(rt (r22.drop 1) 0)]
 else
 bif (((a1.fld 0).s).toList==cJ.toList) then
 obind (C cr [(T.st [(((rt (r21.drop 1) 0).fld 4).fld 0),(((rt (r21.drop 1) 0).fld 4).fld 1)]),(T.int (IntKind.wrap .i64 ((6:Int)+(a1.fld 1).i)))]) fun r23=>
 obind (C aM [(rt (r21.drop 1) 0),(T.bool (!(rt r23 0).b)),(T.int (4:Int))]) fun r24=>
 obind (C aK [(rt (r24.drop 0) 0),(rt r1 0),(T.sl [])]) fun r25=>
 some [(T.bool true),(rt (r25.drop 0) 0)]
 else
 bif (((a1.fld 0).s).toList==bv.toList) then
 obind (C aK [(rt (r21.drop 1) 0),(T.str k_b),(T.sl [])]) fun r26=>
 some [(T.bool true),(rt (r26.drop 0) 0)]
 else
 bif (((a1.fld 0).s).toList==kt.toList) then
 obind (C db [(T.st [(((rt (r21.drop 1) 0).fld 4).fld 0),(((rt (r21.drop 1) 0).fld 4).fld 1)]),(T.int (IntKind.wrap .i64 ((6:Int)+(a1.fld 1).i)))]) fun r27=>
 obind (C aM [(rt (r21.drop 1) 0),(T.bool (!(rt r27 0).b)),(T.int (4:Int))]) fun r28=>
 bif (decide (cX.size+((rt r1 0).s).size≤LIM)) then
 obind (C aK [(rt (r28.drop 0) 0),(T.str (cX++((rt r1 0).s))),(T.sl [(T.int (IntKind.wrap .i64 ((6:Int)+(a1.fld 1).i)))])]) fun r29=>
 some [(T.bool true),(rt (r29.drop 0) 0)]
 else
 none
 else
 bif (((a1.fld 0).s).toList==rm.toList) then
 obind (C cr [(T.st [(((rt (r21.drop 1) 0).fld 4).fld 0),(((rt (r21.drop 1) 0).fld 4).fld 1)]),(T.int (IntKind.wrap .i64 ((6:Int)+(a1.fld 1).i)))]) fun r30=>
 obind (C aM [(rt (r21.drop 1) 0),(T.bool (!(rt r30 0).b)),(T.int (4:Int))]) fun r31=>
 bif (decide (cI.size+((rt r1 0).s).size≤LIM)) then
 obind (C aK [(rt (r31.drop 0) 0),(T.str (cI++((rt r1 0).s))),(T.sl [(T.int (IntKind.wrap .i64 ((6:Int)+(a1.fld 1).i)))])]) fun r32=>
 some [(T.bool true),(rt (r32.drop 0) 0)]
 else
 none
 else
 some [(T.bool true),(rt (r21.drop 1) 0)]
 else
 none
 else
 none
 else
 none
 else
 none
 else
 none
 else
 none
 else
 none
 else
 none
 else
 none
 else
 none
 else
 none
 else
 none
 else
 none
 else
 none
 else
 none
 else
 none
 else
 none
 else
 none
 else
 none
 else
 none
 else
 none
 else
 none
theorem dt (a0 a1:T) {r:List T} (h:Yields (fun k=>cC (hl env k jo) (cl env k) a0 a1) r):Yields (fun k=>cl env k cm [a0,a1]) r:=Yields.call (fi:=jo) (Z:=fun H C=>cC H C a0 a1) rfl rfl (fun H C=>by kernel_rfl) h
noncomputable abbrev iG (H:List Item→CS→R) (C:aF) (a0 a1 a2:T):R:=
 bif (!a1.b) then
 obind (C cw [a0,a2]) fun r1=>
 some [(rt (r1.drop 0) 0)]
 else
 some [a0]
theorem qm (a0 a1 a2:T) {r:List T} (h:Yields (fun k=>iG (hl env k kK) (cl env k) a0 a1 a2) r):Yields (fun k=>cl env k aM [a0,a1,a2]) r:=Yields.call (fi:=kK) (Z:=fun H C=>iG H C a0 a1 a2) rfl rfl (fun H C=>by kernel_rfl) h
noncomputable def gy (H:List Item→CS→R) (x1:T) (x2:T) (x3:T) (x4:T):R:=H (bS bn.body 0) ([(0,.pref 122 100000 []),(3,.pref 68 3 []),(4,.pref 27 4 []),(5,.val 3 x1)],[(100000,⟨122,x2,(.st [.fz,.fz,.dp,.fz,(.st [(.sl (.st [.dp,.fz])),(.sl (.st [.dp,.fz]))]),.dp]),true⟩),(3,⟨68,x3,.dp,true⟩),(4,⟨27,x4,.fz,true⟩)])
noncomputable def gz (H:List Item→CS→R) (x1:T) (x2:T) (x3:T) (x4:T) (x5:T):R:=H (bS bn.body 1) ([(0,.pref 122 100000 []),(3,.pref 68 3 []),(4,.pref 27 4 []),(6,.val 4 x1),(7,.val 3 x2)],[(100000,⟨122,x3,(.st [.fz,.fz,.dp,.fz,(.st [(.sl (.st [.dp,.fz])),(.sl (.st [.dp,.fz]))]),.dp]),true⟩),(3,⟨68,x4,.dp,true⟩),(4,⟨27,x5,.fz,true⟩)])
noncomputable def gA (H:List Item→CS→R) (x1:T) (x2:T) (x3:T) (x4:T) (x5:T):R:=H (bS bn.body 2) ([(0,.pref 122 100000 []),(4,.pref 27 4 []),(6,.val 4 x1),(8,.val 24 x2),(9,.val 3 x3)],[(100000,⟨122,x4,(.st [.fz,.fz,.dp,.fz,(.st [(.sl (.st [.dp,.fz])),(.sl (.st [.dp,.fz]))]),.dp]),true⟩),(4,⟨27,x5,.fz,true⟩)])
noncomputable def eW (H:List Item→CS→R) (x1:T) (x2:T) (x3:T) (x4:T):R:=H (bS bn.body 3) ([(0,.pref 122 100000 []),(4,.pref 27 4 []),(8,.val 24 x1),(10,.val 3 x2)],[(100000,⟨122,x3,(.st [.fz,.fz,.dp,.fz,(.st [(.sl (.st [.dp,.fz])),(.sl (.st [.dp,.fz]))]),.dp]),true⟩),(4,⟨27,x4,.fz,true⟩)])
noncomputable abbrev lF (H:List Item→CS→R) (C:aF) (a0 a1:T):R:=
 obind (C mf [(a0.fld 0),(a0.fld 2),(a1.fld 1),(a1.fld 2)]) fun r1=>
 bif (!(rt r1 0).b) then
 obind (C cw [a0,(T.int (6:Int))]) fun r2=>
 some [(rt (r2.drop 0) 0)]
 else
 bif (decide (0≤(a1.fld 1).i)&&decide (((a1.fld 1).i).toNat < ((a0.fld 0).es).length)) then
 bif (decide (0≤(a1.fld 2).i)&&decide (((a1.fld 2).i).toNat < ((((a0.fld 0).nth (((a1.fld 1).i).toNat)).fld 1).es).length)) then
 gy H (T.int (0:Int)) a0 a1 ((((a0.fld 0).nth (((a1.fld 1).i).toNat)).fld 1).nth (((a1.fld 2).i).toNat))
 else
 none
 else
 none
theorem uT (a0 a1:T) {r:List T} (h:Yields (fun k=>lF (hl env k bn) (cl env k) a0 a1) r):Yields (fun k=>cl env k lu [a0,a1]) r:=Yields.call (fi:=bn) (Z:=fun H C=>lF H C a0 a1) rfl rfl (fun H C=>by kernel_rfl) h
noncomputable abbrev gg (H:List Item→CS→R) (C:aF) (x1:T) (x2:T) (x3:T) (x4:T):R:=
 bif (((decide (x1.i < (((x4.fld 4).es).length:Int)))==true)||(!((decide (x1.i < (((x4.fld 4).es).length:Int)))==true))) then
 bif (((decide (x1.i < (((x4.fld 4).es).length:Int)))==true)||(!((decide (x1.i < (((x4.fld 4).es).length:Int)))==true))) then
 bif (((decide (x1.i < (((x4.fld 4).es).length:Int)))==true)||(!((decide (x1.i < (((x4.fld 4).es).length:Int)))==true))) then
 bif (((decide (x1.i < (((x4.fld 4).es).length:Int)))==true)||(!((decide (x1.i < (((x4.fld 4).es).length:Int)))==true))) then
 bif (((((decide (x1.i < (((x4.fld 4).es).length:Int)))==true)&&((decide (x1.i < (((x4.fld 4).es).length:Int)))==true))&&true)||(!((decide (x1.i < (((x4.fld 4).es).length:Int)))==true))) then
 bif (bif (decide (x1.i < (((x4.fld 4).es).length:Int))) then ((decide (x1.i < (((x4.fld 4).es).length:Int)))==true) else true) then
 bif (bif (decide (x1.i < (((x4.fld 4).es).length:Int))) then (T.bool ((x3.fld 1).i==(x2.fld 2).i)) else (T.bool false)).b then
 bif (decide (0≤x1.i)&&decide (x1.i.toNat < ((x4.fld 4).es).length)) then
 obind (C dY [((x2.fld 3).fld 4),((x4.fld 4).nth x1.i.toNat)]) fun r1=>
 obind (C aM [x2,(rt r1 0),(T.int (6:Int))]) fun r2=>
 gy H (T.int (IntKind.wrap .i64 (x1.i+(1:Int)))) (rt (r2.drop 0) 0) x3 x4
 else
 none
 else
 gz H (T.bool false) (T.int (0:Int)) x2 x3 x4
 else
 none
 else
 none
 else
 none
 else
 none
 else
 none
 else
 none
theorem oh (x1:T) (x2:T) (x3:T) (x4:T) {r:List T} (h:Yields (fun k=>gg (hl env k bn) (cl env k) x1 x2 x3 x4) r):Yields (fun k=>gy (hl env k bn) x1 x2 x3 x4) r:=Yields.head (Z:=fun H C=>gg H C x1 x2 x3 x4) (fun H C=>by kernel_rfl) h
noncomputable abbrev gh (H:List Item→CS→R) (C:aF) (x1:T) (x2:T) (x3:T) (x4:T) (x5:T):R:=
 bif (((decide (x2.i < (((x5.fld 4).es).length:Int)))==true)||(!((decide (x2.i < (((x5.fld 4).es).length:Int)))==true))) then
 bif (((decide (x2.i < (((x5.fld 4).es).length:Int)))==true)||(!((decide (x2.i < (((x5.fld 4).es).length:Int)))==true))) then
 bif (((decide (x2.i < (((x5.fld 4).es).length:Int)))==true)||(!((decide (x2.i < (((x5.fld 4).es).length:Int)))==true))) then
 bif (((decide (x2.i < (((x5.fld 4).es).length:Int)))==true)||(!((decide (x2.i < (((x5.fld 4).es).length:Int)))==true))) then
 bif (((((decide (x2.i < (((x5.fld 4).es).length:Int)))==true)&&((decide (x2.i < (((x5.fld 4).es).length:Int)))==true))&&true)||(!((decide (x2.i < (((x5.fld 4).es).length:Int)))==true))) then
 bif (bif (decide (x2.i < (((x5.fld 4).es).length:Int))) then ((decide (x2.i < (((x5.fld 4).es).length:Int)))==true) else true) then
 bif (bif (decide (x2.i < (((x5.fld 4).es).length:Int))) then (T.bool ((x4.fld 1).i==(x3.fld 2).i)) else (T.bool false)).b then
 bif ((x1.b==false)||(!(x1.b==false))) then
 bif ((x1.b==false)||(!(x1.b==false))) then
 bif ((x1.b==false)||(!(x1.b==false))) then
 bif ((x1.b==false)||(!(x1.b==false))) then
 bif ((((x1.b==false)&&((x1.b==false)&&true))&&(decide (0≤x2.i)&&decide (x2.i.toNat < ((x5.fld 4).es).length)))||(!(x1.b==false))) then
 bif ((x1.b==false)||(!(x1.b==false))) then
 bif (((x1.b==false)&&true)||(!(x1.b==false))) then
 bif (((x1.b==false)&&((x1.b==false)&&true))||(!(x1.b==false))) then
 obind ((bif (x1.b==false) then C cr [(T.st [((x3.fld 4).fld 0),((x3.fld 4).fld 1)]),(T.int (IntKind.wrap .i64 ((6:Int)+((x5.fld 4).nth x2.i.toNat).i)))] else some [])) fun r1=>
 bif (bif x1.b then true else (x1.b==false)) then
 gz H (bif x1.b then (T.bool true) else (rt r1 0)) (T.int (IntKind.wrap .i64 (x2.i+(1:Int)))) x3 x4 x5
 else
 none
 else
 none
 else
 none
 else
 none
 else
 none
 else
 none
 else
 none
 else
 none
 else
 none
 else
 gA H x1 (T.sl []) (T.int (IntKind.wrap .i64 ((((x5.fld 1).es).length:Int) - (1:Int)))) x3 x5
 else
 none
 else
 none
 else
 none
 else
 none
 else
 none
 else
 none
theorem om (x1:T) (x2:T) (x3:T) (x4:T) (x5:T) {r:List T} (h:Yields (fun k=>gh (hl env k bn) (cl env k) x1 x2 x3 x4 x5) r):Yields (fun k=>gz (hl env k bn) x1 x2 x3 x4 x5) r:=Yields.head (Z:=fun H C=>gh H C x1 x2 x3 x4 x5) (fun H C=>by kernel_rfl) h
noncomputable abbrev gk (H:List Item→CS→R) (C:aF) (x1:T) (x2:T) (x3:T) (x4:T) (x5:T):R:=
 bif (decide (x3.i≥(0:Int))) then
 bif (decide (0≤x3.i)&&decide (x3.i.toNat < ((x5.fld 1).es).length)) then
 obind (C aR [x4,(T.sl [((x5.fld 1).nth x3.i.toNat)])]) fun r1=>
 obind (C ne [x2,((rt r1 0).fld 1)]) fun r2=>
 gA H x1 (rt r2 0) (T.int (IntKind.wrap .i64 (x3.i - (1:Int)))) (rt (r1.drop 1) 0) x5
 else
 none
 else
 obind (C aM [x4,(T.bool (!x1.b)),(T.int (4:Int))]) fun r3=>
 eW H x2 (T.int (0:Int)) (rt (r3.drop 0) 0) x5
theorem oq (x1:T) (x2:T) (x3:T) (x4:T) (x5:T) {r:List T} (h:Yields (fun k=>gk (hl env k bn) (cl env k) x1 x2 x3 x4 x5) r):Yields (fun k=>gA (hl env k bn) x1 x2 x3 x4 x5) r:=Yields.head (Z:=fun H C=>gk H C x1 x2 x3 x4 x5) (fun H C=>by kernel_rfl) h
noncomputable abbrev gl (H:List Item→CS→R) (C:aF) (x1:T) (x2:T) (x3:T) (x4:T):R:=
 bif (decide (x2.i < (((x4.fld 2).es).length:Int))) then
 bif (decide (0≤x2.i)&&decide (x2.i.toNat < ((x4.fld 2).es).length)) then
 obind (C bO [((x4.fld 2).nth x2.i.toNat)]) fun r1=>
 bif (rt r1 0).b then
 bif (decide (0≤x2.i)&&decide (x2.i.toNat < ((x4.fld 2).es).length)) then
 obind (C aK [x3,((x4.fld 2).nth x2.i.toNat),x1]) fun r2=>
 eW H x1 (T.int (IntKind.wrap .i64 (x2.i+(1:Int)))) (rt (r2.drop 0) 0) x4
 else
 none
 else
 bif (decide (0≤x2.i)&&decide (x2.i.toNat < ((x4.fld 2).es).length)) then
 obind (C aK [x3,((x4.fld 2).nth x2.i.toNat),(T.sl [])]) fun r3=>
 eW H x1 (T.int (IntKind.wrap .i64 (x2.i+(1:Int)))) (rt (r3.drop 0) 0) x4
 else
 none
 else
 none
 else
 some [x3]
theorem ot (x1:T) (x2:T) (x3:T) (x4:T) {r:List T} (h:Yields (fun k=>gl (hl env k bn) (cl env k) x1 x2 x3 x4) r):Yields (fun k=>eW (hl env k bn) x1 x2 x3 x4) r:=Yields.head (Z:=fun H C=>gl H C x1 x2 x3 x4) (fun H C=>by kernel_rfl) h
noncomputable def fx (H:List Item→CS→R) (x1:T) (x2:T) (x3:T):R:=H (bS bF.body 0) ([(0,.pref 122 100000 []),(2,.val 4 x1),(3,.val 3 x2)],[(100000,⟨122,x3,(.st [.fz,.fz,.dp,.fz,(.st [(.sl (.st [.dp,.fz])),(.sl (.st [.dp,.fz]))]),.dp]),true⟩)])
noncomputable def fy (H:List Item→CS→R) (x1:T) (x2:T) (x3:T) (x4:T) (x5:T):R:=H (bS bF.body 1) ([(0,.pref 122 100000 []),(2,.val 4 x1),(3,.val 3 x2),(4,.pref 105 4 []),(5,.val 3 x3)],[(100000,⟨122,x4,(.st [.fz,.fz,.dp,.fz,(.st [(.sl (.st [.dp,.fz])),(.sl (.st [.dp,.fz]))]),.dp]),true⟩),(4,⟨105,x5,(.st [.dp,.fz]),true⟩)])
noncomputable def fA (H:List Item→CS→R) (x1:T) (x2:T) (x3:T):R:=H (bS bF.body 2) ([(0,.pref 122 100000 []),(2,.val 4 x1),(6,.val 3 x2)],[(100000,⟨122,x3,(.st [.fz,.fz,.dp,.fz,(.st [(.sl (.st [.dp,.fz])),(.sl (.st [.dp,.fz]))]),.dp]),true⟩)])
noncomputable abbrev mB (H:List Item→CS→R) (C:aF) (a0:T):R:=
 obind (C aM [a0,(T.bool (((((a0.fld 4).fld 0).es).length:Int)==((((a0.fld 3).fld 2).es).length:Int))),(T.int (1:Int))]) fun r1=>
 fx H (T.bool false) (T.int (IntKind.wrap .i64 ((((((rt (r1.drop 0) 0).fld 3).fld 2).es).length:Int) - (1:Int)))) (rt (r1.drop 0) 0)
theorem wz (a0:T) {r:List T} (h:Yields (fun k=>mB (hl env k bF) (cl env k) a0) r):Yields (fun k=>cl env k mj [a0]) r:=Yields.call (fi:=bF) (Z:=fun H C=>mB H C a0) rfl rfl (fun H C=>by kernel_rfl) h
noncomputable abbrev gQ (H:List Item→CS→R) (C:aF) (x1:T) (x2:T) (x3:T):R:=
 bif (decide (x2.i≥(0:Int))) then
 bif (decide (0≤x2.i)&&decide (x2.i.toNat < (((x3.fld 3).fld 2).es).length)) then
 obind (C aR [x3,(T.sl [(((x3.fld 3).fld 2).nth x2.i.toNat)])]) fun r1=>
 fy H x1 x2 (T.int (0:Int)) (rt (r1.drop 1) 0) (T.st [((rt r1 0).fld 0),((rt r1 0).fld 1)])
 else
 none
 else
 fA H x1 (T.int (0:Int)) x3
theorem pi (x1:T) (x2:T) (x3:T) {r:List T} (h:Yields (fun k=>gQ (hl env k bF) (cl env k) x1 x2 x3) r):Yields (fun k=>fx (hl env k bF) x1 x2 x3) r:=Yields.head (Z:=fun H C=>gQ H C x1 x2 x3) (fun H C=>by kernel_rfl) h
noncomputable abbrev gR (H:List Item→CS→R) (C:aF) (x1:T) (x2:T) (x3:T) (x4:T) (x5:T):R:=
 bif (decide (x3.i < (((x5.fld 1).es).length:Int))) then
 bif x1.b then
 fy H (T.bool true) x2 (T.int (IntKind.wrap .i64 (x3.i+(1:Int)))) x4 x5
 else
 bif (decide (0≤x3.i)&&decide (x3.i.toNat < ((x5.fld 1).es).length)) then
 fy H (T.bool (((x5.fld 1).nth x3.i.toNat).i != (9:Int))) x2 (T.int (IntKind.wrap .i64 (x3.i+(1:Int)))) x4 x5
 else
 none
 else
 fx H x1 (T.int (IntKind.wrap .i64 (x2.i - (1:Int)))) x4
theorem pj (x1:T) (x2:T) (x3:T) (x4:T) (x5:T) {r:List T} (h:Yields (fun k=>gR (hl env k bF) (cl env k) x1 x2 x3 x4 x5) r):Yields (fun k=>fy (hl env k bF) x1 x2 x3 x4 x5) r:=Yields.head (Z:=fun H C=>gR H C x1 x2 x3 x4 x5) (fun H C=>by kernel_rfl) h
noncomputable abbrev gS (H:List Item→CS→R) (C:aF) (x1:T) (x2:T) (x3:T):R:=
 bif (decide (x2.i < ((((x3.fld 4).fld 1).es).length:Int))) then
 bif ((x3.fld 5).i==(0:Int)) then
 bif (decide (0≤x2.i)&&decide (x2.i.toNat < (((x3.fld 4).fld 1).es).length)) then
 bif ((((((x3.fld 4).fld 1).nth x2.i.toNat).fld 0).s).toList==(⟨#[]⟩:ByteArray).toList) then
 obind (C aM [x3,(T.bool true),(T.int (3:Int))]) fun r1=>
 fA H x1 (T.int (IntKind.wrap .i64 (x2.i+(1:Int)))) (rt (r1.drop 0) 0)
 else
 bif (decide (0≤x2.i)&&decide (x2.i.toNat < (((x3.fld 4).fld 1).es).length)) then
 obind (C cu [x3,((((x3.fld 4).fld 1).nth x2.i.toNat).fld 0),(T.int (2:Int))]) fun r2=>
 obind (C aM [(rt (r2.drop 1) 0),(rt r2 0),(T.int (3:Int))]) fun r3=>
 fA H x1 (T.int (IntKind.wrap .i64 (x2.i+(1:Int)))) (rt (r3.drop 0) 0)
 else
 none
 else
 none
 else
 obind (C aM [x3,(T.bool (!x1.b)),(T.int (7:Int))]) fun r4=>
 some [(rt (r4.drop 0) 0)]
 else
 obind (C aM [x3,(T.bool (!x1.b)),(T.int (7:Int))]) fun r5=>
 some [(rt (r5.drop 0) 0)]
theorem pk (x1:T) (x2:T) (x3:T) {r:List T} (h:Yields (fun k=>gS (hl env k bF) (cl env k) x1 x2 x3) r):Yields (fun k=>fA (hl env k bF) x1 x2 x3) r:=Yields.head (Z:=fun H C=>gS H C x1 x2 x3) (fun H C=>by kernel_rfl) h
noncomputable abbrev pR (H:List Item→CS→R) (C:aF) (a0 a1 a2:T):R:=
 bif (decide (a1.i < (a0.es.length:Int))) then
 bif (decide (0≤a1.i)&&decide (a1.i.toNat < a0.es.length)) then
 some [(T.bool (decide (a2.i < (((a0.nth a1.i.toNat).es).length:Int))))]
 else
 none
 else
 some [(T.bool false)]
theorem yT (H:List Item→CS→R) (C:aF) (a0 a1 a2:T):bI j7 env H C [a0,a1,a2] =
 bif (((((decide (a1.i < (a0.es.length:Int)))==true)&&(((decide (a1.i < (a0.es.length:Int)))==true)&&true))&&(decide (0≤a1.i)&&decide (a1.i.toNat < a0.es.length)))||(!((decide (a1.i < (a0.es.length:Int)))==true))) then
 bif (((decide (a1.i < (a0.es.length:Int)))==true)||(!((decide (a1.i < (a0.es.length:Int)))==true))) then
 bif (((decide (a1.i < (a0.es.length:Int)))==true)||(!((decide (a1.i < (a0.es.length:Int)))==true))) then
 bif (((((decide (a1.i < (a0.es.length:Int)))==true)&&((decide (a1.i < (a0.es.length:Int)))==true))&&true)||(!((decide (a1.i < (a0.es.length:Int)))==true))) then
 bif (bif (decide (a1.i < (a0.es.length:Int))) then ((decide (a1.i < (a0.es.length:Int)))==true) else true) then
 some [(bif (decide (a1.i < (a0.es.length:Int))) then (T.bool (decide (a2.i < (((a0.nth a1.i.toNat).es).length:Int)))) else (T.bool false))]
 else
 none
 else
 none
 else
 none
 else
 none
 else
 none:=by kernel_rfl
theorem zG (H:List Item→CS→R) (C:aF) (a0 a1 a2:T):bI j7 env H C [a0,a1,a2]=pR H C a0 a1 a2:=by
 refine (yT H C a0 a1 a2).trans ?_
 unfold pR
 all_goals try simp only[bs]
 all_goals cases hc:((decide (a1.i < (a0.es.length:Int)))) with
 | true=>
  try simp only[bs]
  all_goals cases hc:((decide (0≤a1.i)&&decide (a1.i.toNat < a0.es.length))) with
  | true=>
   try simp only[bs]
   all_goals kernel_rfl
  | false=>
   try simp only[bs]
   all_goals kernel_rfl
 | false=>
  try simp only[bs]
  all_goals kernel_rfl
theorem A0 (a0 a1 a2:T) {r:List T} (h:Yields (fun k=>pR (hl env k j7) (cl env k) a0 a1 a2) r):Yields (fun k=>cl env k mg [a0,a1,a2]) r:=Yields.call (fi:=j7) rfl rfl (fun H C=>zG H C a0 a1 a2) h
noncomputable abbrev oM (H:List Item→CS→R) (C:aF) (a0:T):R:=
 bif (decide (([]:List T).length+((a0.fld 1).es).length≤LIM)) then
 some [(T.st [(a0.fld 0),(T.sl (([]:List T)++(a0.fld 1).es))])]
 else
 none
theorem yr (a0:T) {r:List T} (h:Yields (fun k=>oM (hl env k nG) (cl env k) a0) r):Yields (fun k=>cl env k oE [a0]) r:=Yields.call (fi:=nG) (Z:=fun H C=>oM H C a0) rfl rfl (fun H C=>by kernel_rfl) h
noncomputable abbrev lI (H:List Item→CS→R) (C:aF) (a0 a1 a2:T):R:=
 bif ((a0.fld 5).i==(0:Int)) then
 bif (decide (([]:List T).length+a2.es.length≤LIM)) then
 bif (decide ((((a0.fld 4).fld 0).es).length + [(T.st [a1,(T.sl (([]:List T)++a2.es))])].length≤LIM)) then
 some [(T.st (a0.fs.set 4 (T.st ((a0.fld 4).fs.set 0 (T.sl (((a0.fld 4).fld 0).es ++ [(T.st [a1,(T.sl (([]:List T)++a2.es))])]))))))]
 else
 none
 else
 none
 else
 some [a0]
theorem uW (a0 a1 a2:T) {r:List T} (h:Yields (fun k=>lI (hl env k kL) (cl env k) a0 a1 a2) r):Yields (fun k=>cl env k aK [a0,a1,a2]) r:=Yields.call (fi:=kL) (Z:=fun H C=>lI H C a0 a1 a2) rfl rfl (fun H C=>by kernel_rfl) h
noncomputable def gY (H:List Item→CS→R) (x1:T) (x2:T) (x3:T) (x4:T) (x5:T) (x6:T) (x7:T):R:=H (bS dM.body 0) ([(0,.pref 122 100000 []),(1,.val 23 x1),(4,.pref 105 4 []),(5,.val 3 x2),(6,.pref 105 6 []),(7,.val 4 x3),(8,.val 3 x4)],[(100000,⟨122,x5,(.st [.fz,.fz,.dp,.fz,(.st [(.sl (.st [.dp,.fz])),(.sl (.st [.dp,.fz]))]),.dp]),true⟩),(4,⟨105,x6,.dp,true⟩),(6,⟨105,x7,(.st [.dp,.fz]),true⟩)])
noncomputable abbrev mz (H:List Item→CS→R) (C:aF) (a0 a1:T):R:=
 bif ((a0.fld 5).i != (0:Int)) then
 some [(T.st [(T.str (⟨#[]⟩:ByteArray)),(T.sl [])]),a0]
 else
 bif (((((a0.fld 4).fld 0).es).length:Int)==(0:Int)) then
 obind (C cw [a0,(T.int (1:Int))]) fun r1=>
 some [(T.st [(T.str (⟨#[]⟩:ByteArray)),(T.sl [])]),(rt (r1.drop 0) 0)]
 else
 bif (decide (0≤(IntKind.wrap .i64 (((((a0.fld 4).fld 0).es).length:Int) - (1:Int))))&&decide ((IntKind.wrap .i64 (((((a0.fld 4).fld 0).es).length:Int) - (1:Int))).toNat < (((a0.fld 4).fld 0).es).length)) then
 gY H a1 (T.int ((((a0.fld 4).fld 0).es).length:Int)) (T.bool ((a1.es.length:Int)==(0:Int))) (T.int (0:Int)) a0 (T.st [(T.str (⟨#[]⟩:ByteArray)),(T.sl [])]) (T.st [((((a0.fld 4).fld 0).nth ((IntKind.wrap .i64 (((((a0.fld 4).fld 0).es).length:Int) - (1:Int))).toNat)).fld 0),((((a0.fld 4).fld 0).nth ((IntKind.wrap .i64 (((((a0.fld 4).fld 0).es).length:Int) - (1:Int))).toNat)).fld 1)])
 else
 none
theorem wx (a0 a1:T) {r:List T} (h:Yields (fun k=>mz (hl env k dM) (cl env k) a0 a1) r):Yields (fun k=>cl env k aR [a0,a1]) r:=Yields.call (fi:=dM) (Z:=fun H C=>mz H C a0 a1) rfl rfl (fun H C=>by kernel_rfl) h
noncomputable abbrev gP (H:List Item→CS→R) (C:aF) (x1:T) (x2:T) (x3:T) (x4:T) (x5:T) (x6:T) (x7:T):R:=
 bif (decide (x4.i < (x1.es.length:Int))) then
 bif ((x3.b==false)||(!(x3.b==false))) then
 bif ((((x3.b==false)&&((x3.b==false)&&true))&&(decide (0≤x4.i)&&decide (x4.i.toNat < x1.es.length)))||(!(x3.b==false))) then
 bif ((x3.b==false)||(!(x3.b==false))) then
 bif ((((x3.b==false)&&(x3.b==false))&&true)||(!(x3.b==false))) then
 bif (bif x3.b then true else (x3.b==false)) then
 gY H x1 x2 (bif x3.b then (T.bool true) else (T.bool (((x7.fld 0).s).toList==((x1.nth x4.i.toNat).s).toList))) (T.int (IntKind.wrap .i64 (x4.i+(1:Int)))) x5 x6 x7
 else
 none
 else
 none
 else
 none
 else
 none
 else
 none
 else
 bif (!x3.b) then
 obind (C cw [x5,(T.int (1:Int))]) fun r1=>
 some [(T.st [(T.str (⟨#[]⟩:ByteArray)),(T.sl [])]),(rt (r1.drop 0) 0)]
 else
 bif (decide (0≤(0:Int))&&(decide ((0:Int)≤(IntKind.wrap .i64 (x2.i - (1:Int))))&&(decide ((IntKind.wrap .i64 (x2.i - (1:Int)))≤((((x5.fld 4).fld 0).es).length:Int))&&decide (((((x5.fld 4).fld 0).es).length:Int)≤((((x5.fld 4).fld 0).es).length:Int))))) then
 some [(T.st [(x7.fld 0),(x7.fld 1)]),(T.st (x5.fs.set 4 (T.st ((x5.fld 4).fs.set 0 (T.sl (((((x5.fld 4).fld 0).es).take ((IntKind.wrap .i64 (x2.i - (1:Int))).toNat)).drop 0))))))]
 else
 none
theorem ph (x1:T) (x2:T) (x3:T) (x4:T) (x5:T) (x6:T) (x7:T) {r:List T} (h:Yields (fun k=>gP (hl env k dM) (cl env k) x1 x2 x3 x4 x5 x6 x7) r):Yields (fun k=>gY (hl env k dM) x1 x2 x3 x4 x5 x6 x7) r:=Yields.head (Z:=fun H C=>gP H C x1 x2 x3 x4 x5 x6 x7) (fun H C=>by kernel_rfl) h
noncomputable abbrev lE (H:List Item→CS→R) (C:aF) (a0 a1 a2:T):R:=
 obind (C eD [(a0.fld 1),a1]) fun r1=>
 obind (C bH [(rt r1 0),a2]) fun r2=>
 some [(rt r2 0),a0]
theorem uS (a0 a1 a2:T) {r:List T} (h:Yields (fun k=>lE (hl env k kH) (cl env k) a0 a1 a2) r):Yields (fun k=>cl env k cu [a0,a1,a2]) r:=Yields.call (fi:=kH) (Z:=fun H C=>lE H C a0 a1 a2) rfl rfl (fun H C=>by kernel_rfl) h
noncomputable abbrev kA (H:List Item→CS→R) (C:aF) (a0 a1:T):R:=
 bif (decide (a1.i≥((((a0.fld 4).fld 1).es).length:Int))) then
 obind (C cw [a0,(T.int (2:Int))]) fun r1=>
 some [(T.bool false),(rt (r1.drop 0) 0)]
 else
 bif (decide (0≤a1.i)&&decide (a1.i.toNat < (((a0.fld 4).fld 1).es).length)) then
 bif ((((((a0.fld 4).fld 1).nth a1.i.toNat).fld 0).s).toList==(⟨#[]⟩:ByteArray).toList) then
 obind (C cw [a0,(T.int (2:Int))]) fun r2=>
 some [(T.bool false),(rt (r2.drop 0) 0)]
 else
 some [(T.bool true),a0]
 else
 none
theorem tW (a0 a1:T) {r:List T} (h:Yields (fun k=>kA (hl env k jP) (cl env k) a0 a1) r):Yields (fun k=>cl env k fq [a0,a1]) r:=Yields.call (fi:=jP) (Z:=fun H C=>kA H C a0 a1) rfl rfl (fun H C=>by kernel_rfl) h
noncomputable abbrev jk (H:List Item→CS→R) (C:aF) (a0 a1:T):R:=
 obind (C gb [(a0.fld 0),a1,(T.bool true)]) fun r1=>
 bif (rt r1 0).b then
 some [(T.bool true)]
 else
 obind (C gb [(a0.fld 1),a1,(T.bool true)]) fun r2=>
 some [(rt r2 0)]
theorem su (a0 a1:T) {r:List T} (h:Yields (fun k=>jk (hl env k iT) (cl env k) a0 a1) r):Yields (fun k=>cl env k db [a0,a1]) r:=Yields.call (fi:=iT) (Z:=fun H C=>jk H C a0 a1) rfl rfl (fun H C=>by kernel_rfl) h
noncomputable abbrev lz (H:List Item→CS→R) (C:aF) (a0 a1:T):R:=
 obind (C gb [(a0.fld 0),a1,(T.bool false)]) fun r1=>
 bif (rt r1 0).b then
 some [(T.bool true)]
 else
 obind (C gb [(a0.fld 1),a1,(T.bool false)]) fun r2=>
 some [(rt r2 0)]
theorem uO (a0 a1:T) {r:List T} (h:Yields (fun k=>lz (hl env k kE) (cl env k) a0 a1) r):Yields (fun k=>cl env k cr [a0,a1]) r:=Yields.call (fi:=kE) (Z:=fun H C=>lz H C a0 a1) rfl rfl (fun H C=>by kernel_rfl) h
noncomputable abbrev mA (H:List Item→CS→R) (C:aF) (a0 a1:T):R:=
 bif (decide (a1.i≥((((a0.fld 4).fld 1).es).length:Int))) then
 obind (C cw [a0,(T.int (2:Int))]) fun r1=>
 some [(rt (r1.drop 0) 0)]
 else
 obind (C hJ [(a0.fld 3),a1]) fun r2=>
 obind (C aR [a0,(T.sl [(rt r2 0)])]) fun r3=>
 bif (((rt (r3.drop 1) 0).fld 5).i != (0:Int)) then
 some [(rt (r3.drop 1) 0)]
 else
 bif (decide (0≤a1.i)&&decide (a1.i.toNat < ((((rt (r3.drop 1) 0).fld 4).fld 1).es).length)) then
 bif (!(((((((rt (r3.drop 1) 0).fld 4).fld 1).nth a1.i.toNat).fld 0).s).toList==(⟨#[]⟩:ByteArray).toList)) then
 bif (decide (0≤a1.i)&&decide (a1.i.toNat < ((((rt (r3.drop 1) 0).fld 4).fld 1).es).length)) then
 obind (C cu [(rt (r3.drop 1) 0),(((((rt (r3.drop 1) 0).fld 4).fld 1).nth a1.i.toNat).fld 0),(T.int (2:Int))]) fun r4=>
 obind (C aM [(rt (r4.drop 1) 0),(rt r4 0),(T.int (3:Int))]) fun r5=>
 obind (C cr [(T.st [(((rt (r5.drop 0) 0).fld 4).fld 0),(((rt (r5.drop 0) 0).fld 4).fld 1)]),a1]) fun r6=>
 obind (C aM [(rt (r5.drop 0) 0),(T.bool (!(rt r6 0).b)),(T.int (4:Int))]) fun r7=>
 bif (decide (0≤a1.i)&&decide (a1.i.toNat < ((((rt (r7.drop 0) 0).fld 4).fld 1).es).length)) then
 some [(T.put (rt (r7.drop 0) 0) [.fld 4,.fld 1,.idx a1.i.toNat] (T.st [((rt r3 0).fld 0),((rt r3 0).fld 1)]))]
 else
 none
 else
 none
 else
 bif (decide (0≤a1.i)&&decide (a1.i.toNat < ((((rt (r3.drop 1) 0).fld 4).fld 1).es).length)) then
 some [(T.put (rt (r3.drop 1) 0) [.fld 4,.fld 1,.idx a1.i.toNat] (T.st [((rt r3 0).fld 0),((rt r3 0).fld 1)]))]
 else
 none
 else
 none
theorem wy (a0 a1:T) {r:List T} (h:Yields (fun k=>mA (hl env k lQ) (cl env k) a0 a1) r):Yields (fun k=>cl env k mi [a0,a1]) r:=Yields.call (fi:=lQ) (Z:=fun H C=>mA H C a0 a1) rfl rfl (fun H C=>by kernel_rfl) h
noncomputable abbrev lH (H:List Item→CS→R) (C:aF) (a0 a1:T):R:=
 obind (C fq [a0,(a1.fld 1)]) fun r1=>
 bif (!(rt r1 0).b) then
 some [(rt (r1.drop 1) 0)]
 else
 bif (decide (0≤(a1.fld 1).i)&&decide (((a1.fld 1).i).toNat < ((((rt (r1.drop 1) 0).fld 4).fld 1).es).length)) then
 obind (C bO [(((((rt (r1.drop 1) 0).fld 4).fld 1).nth (((a1.fld 1).i).toNat)).fld 0)]) fun r2=>
 obind (C aM [(rt (r1.drop 1) 0),(T.bool (!(rt r2 0).b)),(T.int (2:Int))]) fun r3=>
 bif (((a1.fld 0).s).toList==k_lend.toList) then
 obind (C db [(T.st [(((rt (r3.drop 0) 0).fld 4).fld 0),(((rt (r3.drop 0) 0).fld 4).fld 1)]),(a1.fld 1)]) fun r4=>
 obind (C aM [(rt (r3.drop 0) 0),(T.bool (!(rt r4 0).b)),(T.int (4:Int))]) fun r5=>
 bif (decide (cX.size+((((((rt (r1.drop 1) 0).fld 4).fld 1).nth (((a1.fld 1).i).toNat)).fld 0).s).size≤LIM)) then
 obind (C aK [(rt (r5.drop 0) 0),(T.str (cX++((((((rt (r1.drop 1) 0).fld 4).fld 1).nth (((a1.fld 1).i).toNat)).fld 0).s))),(T.sl [(a1.fld 1)])]) fun r6=>
 some [(rt (r6.drop 0) 0)]
 else
 none
 else
 obind (C cr [(T.st [(((rt (r3.drop 0) 0).fld 4).fld 0),(((rt (r3.drop 0) 0).fld 4).fld 1)]),(a1.fld 1)]) fun r7=>
 obind (C aM [(rt (r3.drop 0) 0),(T.bool (!(rt r7 0).b)),(T.int (4:Int))]) fun r8=>
 bif (decide (cI.size+((((((rt (r1.drop 1) 0).fld 4).fld 1).nth (((a1.fld 1).i).toNat)).fld 0).s).size≤LIM)) then
 obind (C aK [(rt (r8.drop 0) 0),(T.str (cI++((((((rt (r1.drop 1) 0).fld 4).fld 1).nth (((a1.fld 1).i).toNat)).fld 0).s))),(T.sl [(a1.fld 1)])]) fun r9=>
 some [(rt (r9.drop 0) 0)]
 else
 none
 else
 none
theorem uV (a0 a1:T) {r:List T} (h:Yields (fun k=>lH (hl env k kJ) (cl env k) a0 a1) r):Yields (fun k=>cl env k iw [a0,a1]) r:=Yields.call (fi:=kJ) (Z:=fun H C=>lH H C a0 a1) rfl rfl (fun H C=>by kernel_rfl) h
noncomputable abbrev my (H:List Item→CS→R) (C:aF) (a0 a1:T):R:=
 bif (decide (0≤(a0.fld 2).i)&&decide (((a0.fld 2).i).toNat < ((a0.fld 1).es).length)) then
 bif (decide (a1.i≥((((a0.fld 1).nth (((a0.fld 2).i).toNat)).es).length:Int))) then
 obind (C cw [a0,(T.int (5:Int))]) fun r1=>
 some [(T.str (⟨#[]⟩:ByteArray)),(rt (r1.drop 0) 0)]
 else
 obind (C dE [(a0.fld 2)]) fun r2=>
 bif (decide (k_S.size+((rt r2 0).s).size≤LIM)) then
 obind (C dE [a1]) fun r3=>
 bif (decide ((k_S++((rt r2 0).s)).size+((rt r3 0).s).size≤LIM)) then
 some [(T.str ((k_S++((rt r2 0).s))++((rt r3 0).s))),a0]
 else
 none
 else
 none
 else
 none
theorem ww (a0 a1:T) {r:List T} (h:Yields (fun k=>my (hl env k lP) (cl env k) a0 a1) r):Yields (fun k=>cl env k eZ [a0,a1]) r:=Yields.call (fi:=lP) (Z:=fun H C=>my H C a0 a1) rfl rfl (fun H C=>by kernel_rfl) h
noncomputable abbrev lG (H:List Item→CS→R) (C:aF) (a0 a1:T):R:=
 bif ((a0.fld 5).i==(0:Int)) then
 some [(T.st (a0.fs.set 5 a1))]
 else
 some [a0]
theorem uU (a0 a1:T) {r:List T} (h:Yields (fun k=>lG (hl env k kI) (cl env k) a0 a1) r):Yields (fun k=>cl env k cw [a0,a1]) r:=Yields.call (fi:=kI) (Z:=fun H C=>lG H C a0 a1) rfl rfl (fun H C=>by kernel_rfl) h
noncomputable def eQ (H:List Item→CS→R) (x1:T) (x2:T) (x3:T) (x4:T):R:=H (bS er.body 0) ([(0,.val 24 x1),(1,.val 24 x2),(5,.sref 24 5 []),(6,.val 3 x3)],[(5,⟨24,x4,(.sl .dp),false⟩)])
noncomputable abbrev nt (H:List Item→CS→R) (C:aF) (a0 a1:T):R:=
 eQ H a0 a1 (T.int (0:Int)) (T.sl [])
theorem xt (a0 a1:T) {r:List T} (h:Yields (fun k=>nt (hl env k er) (cl env k) a0 a1) r):Yields (fun k=>cl env k ne [a0,a1]) r:=Yields.call (fi:=er) (Z:=fun H C=>nt H C a0 a1) rfl rfl (fun H C=>by kernel_rfl) h
noncomputable abbrev iH (H:List Item→CS→R) (C:aF) (x1:T) (x2:T) (x3:T) (x4:T):R:=
 bif (decide (x3.i≤(9:Int))) then
 obind (C dY [x1,x3]) fun r1=>
 bif (rt r1 0).b then
 bif (decide (x4.es.length + [x3].length≤LIM)) then
 eQ H x1 x2 (T.int (IntKind.wrap .i64 (x3.i+(1:Int)))) (T.sl (x4.es ++ [x3]))
 else
 none
 else
 obind (C dY [x2,x3]) fun r2=>
 bif (rt r2 0).b then
 bif (decide (x4.es.length + [x3].length≤LIM)) then
 eQ H x1 x2 (T.int (IntKind.wrap .i64 (x3.i+(1:Int)))) (T.sl (x4.es ++ [x3]))
 else
 none
 else
 eQ H x1 x2 (T.int (IntKind.wrap .i64 (x3.i+(1:Int)))) x4
 else
 some [x4]
theorem qn (x1:T) (x2:T) (x3:T) (x4:T) {r:List T} (h:Yields (fun k=>iH (hl env k er) (cl env k) x1 x2 x3 x4) r):Yields (fun k=>eQ (hl env k er) x1 x2 x3 x4) r:=Yields.head (Z:=fun H C=>iH H C x1 x2 x3 x4) (fun H C=>by kernel_rfl) h
noncomputable def fj (H:List Item→CS→R) (x1:T) (x2:T) (x3:T) (x4:T):R:=H (bS eO.body 0) ([(0,.val 98 x1),(1,.val 3 x2),(2,.val 4 x3),(7,.val 3 x4)],[])
noncomputable abbrev oN (H:List Item→CS→R) (C:aF) (a0 a1 a2:T):R:=
 fj H a0 a1 a2 (T.int (0:Int))
theorem yt (a0 a1 a2:T) {r:List T} (h:Yields (fun k=>oN (hl env k eO) (cl env k) a0 a1 a2) r):Yields (fun k=>cl env k gb [a0,a1,a2]) r:=Yields.call (fi:=eO) (Z:=fun H C=>oN H C a0 a1 a2) rfl rfl (fun H C=>by kernel_rfl) h
noncomputable abbrev jv (H:List Item→CS→R) (C:aF) (x1:T) (x2:T) (x3:T) (x4:T):R:=
 bif (decide (x4.i < (x1.es.length:Int))) then
 bif (decide (0≤x4.i)&&decide (x4.i.toNat < x1.es.length)) then
 obind (C bO [((x1.nth x4.i.toNat).fld 0)]) fun r1=>
 bif (rt r1 0).b then
 bif (decide (0≤x4.i)&&decide (x4.i.toNat < x1.es.length)) then
 obind (C dY [((x1.nth x4.i.toNat).fld 1),x2]) fun r2=>
 bif (rt r2 0).b then
 bif (!x3.b) then
 some [(T.bool true)]
 else
 bif (decide (0≤x4.i)&&decide (x4.i.toNat < x1.es.length)) then
 bif (decide (0≤(0:Int))&&decide (0 < (((x1.nth x4.i.toNat).fld 0).s).size)) then
 bif (((((x1.nth x4.i.toNat).fld 0).s).data.getD 0 0).toNat==(33:Int)) then
 some [(T.bool true)]
 else
 fj H x1 x2 x3 (T.int (IntKind.wrap .i64 (x4.i+(1:Int))))
 else
 none
 else
 none
 else
 fj H x1 x2 x3 (T.int (IntKind.wrap .i64 (x4.i+(1:Int))))
 else
 none
 else
 fj H x1 x2 x3 (T.int (IntKind.wrap .i64 (x4.i+(1:Int))))
 else
 none
 else
 some [(T.bool false)]
theorem qK (x1:T) (x2:T) (x3:T) (x4:T) {r:List T} (h:Yields (fun k=>jv (hl env k eO) (cl env k) x1 x2 x3 x4) r):Yields (fun k=>fj (hl env k eO) x1 x2 x3 x4) r:=Yields.head (Z:=fun H C=>jv H C x1 x2 x3 x4) (fun H C=>by kernel_rfl) h
noncomputable abbrev ej (H:List Item→CS→R) (C:aF) (a0 a1 a2 a3 a4 a5 a6:T):R:=
 obind (C dG [a0,a1,a2,a3,a4,a6]) fun r1=>
 bif ((rt r1 1).i != (0:Int)) then
 some [a4,(T.int (a5.i.toNat:Int)),(T.bool false)]
 else
 bif (decide ((a5.i.toNat:Int) > (36:Int))) then
 some [a4,(T.int (a5.i.toNat:Int)),(T.bool false)]
 else
 none
theorem qL (a0 a1 a2 a3 a4 a5 a6:T) {r:List T} (h:Yields (fun k=>ej (hl env k fR) (cl env k) a0 a1 a2 a3 a4 a5 a6) r):Yields (fun k=>cl env k cO [a0,a1,a2,a3,a4,a5,a6]) r:=Yields.call (fi:=fR) (Z:=fun H C=>ej H C a0 a1 a2 a3 a4 a5 a6) rfl rfl (fun H C=>by kernel_rfl) h
noncomputable abbrev gm (H:List Item→CS→R) (C:aF) (a0 a1 a2 a3 a4 a5 a6:T):R:=
 obind (C dG [a0,a1,a2,a3,a4,a6]) fun r1=>
 bif ((rt r1 1).i != (0:Int)) then
 some [a4,(T.int (a5.es.length:Int)),(T.bool false),a5]
 else
 bif (decide ((a5.es.length:Int) > (36:Int))) then
 some [a4,(T.int (a5.es.length:Int)),(T.bool false),a5]
 else
 bif (decide (a5.es.length + [a6].length≤LIM)) then
 some [(T.st [((rt r1 0).fld 0),((rt r1 0).fld 1)]),(T.int ((a5.es ++ [a6]).length:Int)),(T.bool true),a5]
 else
 none
theorem mY (a0 a1 a2 a3 a4 a5 a6:T) {r:List T} (h:Yields (fun k=>gm (hl env k lR) (cl env k) a0 a1 a2 a3 a4 a5 a6) r):Yields (fun k=>cl env k jr [a0,a1,a2,a3,a4,a5,a6]) r:=Yields.call (fi:=lR) (Z:=fun H C=>gm H C a0 a1 a2 a3 a4 a5 a6) rfl rfl (fun H C=>by kernel_rfl) h
end Go.Proofs.Ytgmhmcnogmojaaa.Ra
