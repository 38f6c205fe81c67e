/- A verified evaluator for the program, part Eq of this claim. -/
import Derived.Test.YtdmgnefllclaoaaGreatVEq0
set_option linter.unusedSimpArgs false
set_option linter.unusedVariables false
set_option linter.unusedSimpArgs false
set_option linter.unusedVariables false
namespace Go.Proofs.YtdmgnefllclaoaaGreat.Ra
open Go
variable {r:List T}
noncomputable abbrev ft (H:HT) (C:aF) (x1 x2 x3 x4 x5:T):R:=
 (fun s0=>
 (fun s1=>
 (fun s2=>
 (fun s3=>
 (fun s4=>
 bif (decide (x4.i < (((x5.fld 1).es).length:Int))) then
 bif (decide (0≤x4.i)&&decide (x4.i.toNat < ((x5.fld 1).es).length)) then
 obind (C kh [x1,x2,x3,((x5.fld 1).nth x4.i.toNat)]) fun r1=>
 bif (!(rt r1 0).b) then
 some [s2]
 else
 obind (C eD [x1,((x5.fld 1).nth x4.i.toNat)]) fun r2=>
 obind (C bH [(x5.fld 0),(T.int (1:Int))]) fun r3=>
 bif (rt r3 0).b then
 obind (C bH [(rt r2 0),(T.int (1:Int))]) fun r4=>
 bif (!(rt r4 0).b) then
 some [s2]
 else
 obind (C bH [(x5.fld 0),s3]) fun r5=>
 bif (rt r5 0).b then
 obind (C bH [(rt r2 0),s3]) fun r6=>
 bif (!(rt r6 0).b) then
 some [s2]
 else
 bif s1 then
 obind (C bH [(rt r2 0),s4]) fun r7=>
 bif (!(rt r7 0).b) then
 some [s2]
 else
 bQ H x1 x2 x3 s0 x5
 else
 bQ H x1 x2 x3 s0 x5
 else
 bif s1 then
 obind (C bH [(rt r2 0),s4]) fun r6=>
 bif (!(rt r6 0).b) then
 some [s2]
 else
 bQ H x1 x2 x3 s0 x5
 else
 bQ H x1 x2 x3 s0 x5
 else
 obind (C bH [(x5.fld 0),s3]) fun r4=>
 bif (rt r4 0).b then
 obind (C bH [(rt r2 0),s3]) fun r5=>
 bif (!(rt r5 0).b) then
 some [s2]
 else
 bif s1 then
 obind (C bH [(rt r2 0),s4]) fun r6=>
 bif (!(rt r6 0).b) then
 some [s2]
 else
 bQ H x1 x2 x3 s0 x5
 else
 bQ H x1 x2 x3 s0 x5
 else
 bif s1 then
 obind (C bH [(rt r2 0),s4]) fun r5=>
 bif (!(rt r5 0).b) then
 some [s2]
 else
 bQ H x1 x2 x3 s0 x5
 else
 bQ H x1 x2 x3 s0 x5
 else
 none
 else
 some [(T.bool true)]) (T.int (4:Int))) (T.int (2:Int))) (T.bool false)) (decide ((x5.fld 0).i≥(4:Int)))) (T.int (IntKind.wrap .i64 (x4.i+(1:Int))))
theorem tK (H:HT) (C:aF) (x1 x2 x3 x4 x5:T):iU bV env H C (bS bV.body 0) ([(0,.val 30 x1),(1,.val 3 x2),(2,.val 3 x3),(7,.pref 114 7 []),(8,.val 3 x4)],[(7,⟨114,x5,.fz,true⟩)]) =
 (fun s0=>
 (fun s1=>
 (fun s2=>
 (fun s3=>
 bif (decide (x4.i < (((x5.fld 1).es).length:Int))) then
 bif s2 then
 obind (C kh [x1,x2,x3,((x5.fld 1).nth x4.i.toNat)]) fun r1=>
 bif (!(rt r1 0).b) then
 some [s0]
 else
 bif s2 then
 obind (C eD [x1,((x5.fld 1).nth x4.i.toNat)]) fun r2=>
 obind (C bH [(x5.fld 0),(T.int (1:Int))]) fun r3=>
 (fun s4=>
 bif ((s4&&true)||(!s4)) then
 obind ((bif s4 then C bH [(rt r2 0),(T.int (1:Int))] else some [])) fun r4=>
 (fun s5=>
 (fun s6=>
 bif (s4||(!s4)) then
 bif (bif (rt r3 0).b then s4 else true) then
 bif (s5||(!s5)) then
 bif ((s5&&true)||(!s5)) then
 obind ((bif s5 then C bH [(x5.fld 0),(T.int (2:Int))] else some [])) fun r5=>
 (fun s7=>
 bif (s5||(!s5)) then
 bif ((s7&&true)||(!s7)) then
 obind ((bif s7 then C bH [(rt r2 0),(T.int (2:Int))] else some [])) fun r6=>
 bif (s7||(!s7)) then
 bif ((s5&&(bif (rt r5 0).b then s7 else true))||(!s5)) then
 bif (bif s6.b then true else s5) then
 bif (bif s6.b then (T.bool true) else (bif (rt r5 0).b then (T.bool (!(rt r6 0).b)) else s0)).b then
 some [s0]
 else
 bif ((s3&&true)||(!s3)) then
 obind ((bif s3 then C bH [(rt r2 0),(T.int (4:Int))] else some [])) fun r7=>
 bif (s3||(!s3)) then
 bif (bif s1 then s3 else true) then
 bif (bif s1 then (T.bool (!(rt r7 0).b)) else s0).b then
 some [s0]
 else
 bQ H x1 x2 x3 (T.int (IntKind.wrap .i64 (x4.i+(1:Int)))) x5
 else
 none
 else
 none
 else
 none
 else
 none
 else
 none
 else
 none
 else
 none
 else
 none) (s5&&((rt r5 0).b==true))
 else
 none
 else
 none
 else
 none
 else
 none) (bif (rt r3 0).b then (T.bool (!(rt r4 0).b)) else s0)) ((bif (rt r3 0).b then (T.bool (!(rt r4 0).b)) else s0).b==false)
 else
 none) ((rt r3 0).b==true)
 else
 none
 else
 none
 else
 some [(T.bool true)]) (s1==true)) (decide (0≤x4.i)&&decide (x4.i.toNat < ((x5.fld 1).es).length))) (decide ((x5.fld 0).i≥(4:Int)))) (T.bool false):=by kernel_rfl
theorem tR (H:HT) (C:aF) (x1 x2 x3 x4 x5:T):iU bV env H C (bS bV.body 0) ([(0,.val 30 x1),(1,.val 3 x2),(2,.val 3 x3),(7,.pref 114 7 []),(8,.val 3 x4)],[(7,⟨114,x5,.fz,true⟩)])=ft H C x1 x2 x3 x4 x5:=by
 refine (tK H C x1 x2 x3 x4 x5).trans ?_
 unfold ft
 all_goals try dsimp only
 all_goals try simp only[bs]
 all_goals cases hc:((decide (x4.i < (((x5.fld 1).es).length:Int)))) with
 | true=>
  try simp only[bs]
  all_goals cases hc:((decide (0≤x4.i)&&decide (x4.i.toNat < ((x5.fld 1).es).length))) with
  | true=>
   try simp only[bs]
   all_goals refine br fun r1=>?_
   all_goals try simp only[bs]
   all_goals cases hc:((!(rt r1 0).b)) with
   | true=>
    try simp only[bs]
    all_goals kernel_rfl
   | false=>
    try simp only[bs]
    all_goals refine br fun r2=>?_
    all_goals try simp only[bs]
    all_goals refine br fun r3=>?_
    all_goals try simp only[bs]
    all_goals cases hc:((rt r3 0).b) with
    | true=>
     try simp only[bs]
     all_goals refine br fun r4=>?_
     all_goals try simp only[bs]
     all_goals cases hc:((!(rt r4 0).b)) with
     | true=>
      try simp only[bs]
      all_goals cases hc:((T.int (0:Int)).b) with
      | true=>
       try simp only[bs]
       all_goals kernel_rfl
      | false=>
       try simp only[bs]
       all_goals kernel_rfl
     | false=>
      try simp only[bs]
      all_goals refine br fun r5=>?_
      all_goals try simp only[bs]
      all_goals cases hc:((rt r5 0).b) with
      | true=>
       try simp only[bs]
       all_goals refine br fun r6=>?_
       all_goals try simp only[bs]
       all_goals cases hc:((!(rt r6 0).b)) with
       | true=>
        try simp only[bs]
        all_goals kernel_rfl
       | false=>
        try simp only[bs]
        all_goals cases hc:((decide ((x5.fld 0).i≥(4:Int)))) with
        | true=>
         try simp only[bs]
         all_goals refine br fun r7=>?_
         all_goals try simp only[bs]
         all_goals cases hc:((!(rt r7 0).b)) with
         | true=>
          try simp only[bs]
          all_goals kernel_rfl
         | false=>
          try simp only[bs]
          all_goals kernel_rfl
        | false=>
         try simp only[bs]
         all_goals kernel_rfl
      | false=>
       try simp only[bs]
       all_goals cases hc:((decide ((x5.fld 0).i≥(4:Int)))) with
       | true=>
        try simp only[bs]
        all_goals refine br fun r6=>?_
        all_goals try simp only[bs]
        all_goals cases hc:((!(rt r6 0).b)) with
        | true=>
         try simp only[bs]
         all_goals kernel_rfl
        | false=>
         try simp only[bs]
         all_goals kernel_rfl
       | false=>
        try simp only[bs]
        all_goals kernel_rfl
    | false=>
     try simp only[bs]
     all_goals refine br fun r4=>?_
     all_goals try simp only[bs]
     all_goals cases hc:((rt r4 0).b) with
     | true=>
      try simp only[bs]
      all_goals refine br fun r5=>?_
      all_goals try simp only[bs]
      all_goals cases hc:((!(rt r5 0).b)) with
      | true=>
       try simp only[bs]
       all_goals kernel_rfl
      | false=>
       try simp only[bs]
       all_goals cases hc:((decide ((x5.fld 0).i≥(4:Int)))) with
       | true=>
        try simp only[bs]
        all_goals refine br fun r6=>?_
        all_goals try simp only[bs]
        all_goals cases hc:((!(rt r6 0).b)) with
        | true=>
         try simp only[bs]
         all_goals kernel_rfl
        | false=>
         try simp only[bs]
         all_goals kernel_rfl
       | false=>
        try simp only[bs]
        all_goals kernel_rfl
     | false=>
      try simp only[bs]
      all_goals cases hc:((decide ((x5.fld 0).i≥(4:Int)))) with
      | true=>
       try simp only[bs]
       all_goals refine br fun r5=>?_
       all_goals try simp only[bs]
       all_goals cases hc:((!(rt r5 0).b)) with
       | true=>
        try simp only[bs]
        all_goals kernel_rfl
       | false=>
        try simp only[bs]
        all_goals kernel_rfl
      | false=>
       try simp only[bs]
       all_goals kernel_rfl
  | false=>
   try simp only[bs]
   all_goals kernel_rfl
 | false=>
  try simp only[bs]
  all_goals kernel_rfl
theorem pg (x1 x2 x3 x4 x5:T) (h:Yields (fun k=>ft (hl env k bV) (cl env k) x1 x2 x3 x4 x5) r):Yields (fun k=>bQ (hl env k bV) x1 x2 x3 x4 x5) r:=Yields.head (fun H C=>tR H C x1 x2 x3 x4 x5) h
noncomputable abbrev K6 (H:HT) (C:aF) (a0 a1:T):R:=
 obind (C IB [a1]) fun r1=>
 bif (((rt r1 0).s).toList==(⟨#[38]⟩:ByteArray).toList) then
 some [(T.int (3:Int))]
 else
 bif (((rt r1 0).s).toList==(⟨#[33]⟩:ByteArray).toList) then
 some [(T.int (2:Int))]
 else
 obind (C ER [a0,(rt r1 1)]) fun r2=>
 bif (rt r2 0).b then
 obind (C F3 [a0,(rt r1 1)]) fun r3=>
 some [((rt r3 0).fld 0)]
 else
 some [(T.int (7:Int))]
theorem MM (H:HT) (C:aF) (a0 a1:T):bI Ha env H C [a0,a1]=K6 H C a0 a1:=by kernel_rfl
theorem MX (a0 a1:T) (h:Yields (fun k=>K6 (hl env k Ha) (cl env k) a0 a1) r):Yields (fun k=>cl env k Ft [a0,a1]) r:=Yields.call (fi:=Ha) rfl rfl (fun H C=>MM H C a0 a1) h
noncomputable abbrev tZ (H:HT) (C:aF) (a0:T):R:=
 (fun s0=>
 obind (C bO [a0]) fun r1=>
 bif (rt r1 0).b then
 bif (decide (0≤(1:Int))&&(decide ((1:Int)≤s0)&&(decide (s0≤s0)&&decide (s0≤s0)))) then
 some [(T.str (a0.s.extract 1 a0.s.size))]
 else
 none
 else
 some [a0]) (a0.s.size:Int)
theorem Ai (a0:T) (h:Yields (fun k=>tZ (hl env k mJ) (cl env k) a0) r):Yields (fun k=>cl env k cx [a0]) r:=Yields.ca (tZ · · a0) h (by kernel_rfl)
noncomputable def iV (H:HT) (x1 x2 x3:T):R:=H (bS eo.body 0) ([(0,.val 23 x1),(3,.sref 23 3 []),(4,.val 3 x2)],[(3,⟨23,x3,(.sl .dp),false⟩)])
noncomputable abbrev nm (H:HT) (C:aF) (a0:T):R:=
 iV H a0 (T.int (0:Int)) (T.sl [])
theorem xp (a0:T) (h:Yields (fun k=>nm (hl env k eo) (cl env k) a0) r):Yields (fun k=>cl env k ki [a0]) r:=Yields.ca (nm · · a0) h (by kernel_rfl)
noncomputable abbrev iF (H:HT) (C:aF) (x1 x2 x3:T):R:=
 bif (decide (x2.i < (x1.es.length:Int))) then
 bif (decide (0≤x2.i)&&decide (x2.i.toNat < x1.es.length)) then
 obind (C oE [(x1.nth x2.i.toNat)]) fun r1=>
 (fun s0=>
 bif (decide (x3.es.length + [s0].length≤LIM)) then
 iV H x1 (T.int (IntKind.wrap .i64 (x2.i+(1:Int)))) (T.sl (x3.es ++ [s0]))
 else
 none) (T.st [((rt r1 0).fld 0),((rt r1 0).fld 1)])
 else
 none
 else
 some [x3]
theorem ql (x1 x2 x3:T) (h:Yields (fun k=>iF (hl env k eo) (cl env k) x1 x2 x3) r):Yields (fun k=>iV (hl env k eo) x1 x2 x3) r:=Yields.hd (iF · · x1 x2 x3) h (by kernel_rfl)
noncomputable abbrev kB (H:HT) (C:aF) (a0 a1:T):R:=
 (fun s0=>
 (fun s1=>
 (fun s2=>
 (fun s3=>
 (fun s4=>
 (fun s5=>
 bif (s2.toList==bE.toList) then
 obind (C aK [a0,s4,(T.sl [])]) fun r1=>
 some [s1,(rt (r1.drop 0) 0)]
 else
 bif (s2.toList==zk.toList) then
 obind (C aK [a0,s3,(T.sl [])]) fun r2=>
 some [s1,(rt (r2.drop 0) 0)]
 else
 bif (s2.toList==k_false.toList) then
 obind (C aK [a0,s3,(T.sl [])]) fun r3=>
 some [s1,(rt (r3.drop 0) 0)]
 else
 bif (s2.toList==k_me.toList) then
 obind (C aK [a0,(T.str k_o),(T.sl [])]) fun r4=>
 some [s1,(rt (r4.drop 0) 0)]
 else
 bif (s2.toList==k_add.toList) then
 obind (C aR [a0,s0]) fun r5=>
 obind (C aR [(rt (r5.drop 1) 0),s0]) fun r6=>
 obind (C aK [(rt (r6.drop 1) 0),s4,(T.sl [])]) fun r7=>
 some [s1,(rt (r7.drop 0) 0)]
 else
 bif (s2.toList==k_sub.toList) then
 obind (C aR [a0,s0]) fun r8=>
 obind (C aR [(rt (r8.drop 1) 0),s0]) fun r9=>
 obind (C aK [(rt (r9.drop 1) 0),s4,(T.sl [])]) fun r10=>
 some [s1,(rt (r10.drop 0) 0)]
 else
 bif (s2.toList==k_mul.toList) then
 obind (C aR [a0,s0]) fun r11=>
 obind (C aR [(rt (r11.drop 1) 0),s0]) fun r12=>
 obind (C aK [(rt (r12.drop 1) 0),s4,(T.sl [])]) fun r13=>
 some [s1,(rt (r13.drop 0) 0)]
 else
 bif (s2.toList==k_div.toList) then
 obind (C aR [a0,s0]) fun r14=>
 obind (C aR [(rt (r14.drop 1) 0),s0]) fun r15=>
 obind (C aK [(rt (r15.drop 1) 0),s4,(T.sl [])]) fun r16=>
 some [s1,(rt (r16.drop 0) 0)]
 else
 bif (s2.toList==k_mod.toList) then
 obind (C aR [a0,s0]) fun r17=>
 obind (C aR [(rt (r17.drop 1) 0),s0]) fun r18=>
 obind (C aK [(rt (r18.drop 1) 0),s4,(T.sl [])]) fun r19=>
 some [s1,(rt (r19.drop 0) 0)]
 else
 bif (s2.toList==k_less.toList) then
 obind (C aR [a0,s0]) fun r20=>
 obind (C aR [(rt (r20.drop 1) 0),s0]) fun r21=>
 obind (C aK [(rt (r21.drop 1) 0),s3,(T.sl [])]) fun r22=>
 some [s1,(rt (r22.drop 0) 0)]
 else
 bif (s2.toList==k_and.toList) then
 obind (C aR [a0,s5]) fun r23=>
 obind (C aR [(rt (r23.drop 1) 0),s5]) fun r24=>
 obind (C aK [(rt (r24.drop 1) 0),s3,(T.sl [])]) fun r25=>
 some [s1,(rt (r25.drop 0) 0)]
 else
 bif (s2.toList==k_or.toList) then
 obind (C aR [a0,s5]) fun r26=>
 obind (C aR [(rt (r26.drop 1) 0),s5]) fun r27=>
 obind (C aK [(rt (r27.drop 1) 0),s3,(T.sl [])]) fun r28=>
 some [s1,(rt (r28.drop 0) 0)]
 else
 bif (s2.toList==k_not.toList) then
 obind (C aR [a0,s5]) fun r29=>
 obind (C aK [(rt (r29.drop 1) 0),s3,(T.sl [])]) fun r30=>
 some [s1,(rt (r30.drop 0) 0)]
 else
 bif (s2.toList==k_same.toList) then
 obind (C aR [a0,(T.sl [])]) fun r31=>
 obind (C aR [(rt (r31.drop 1) 0),(T.sl [((rt r31 0).fld 0)])]) fun r32=>
 obind (C bO [((rt r31 0).fld 0)]) fun r33=>
 obind (C aM [(rt (r32.drop 1) 0),(T.bool (!(rt r33 0).b)),(T.int (1:Int))]) fun r34=>
 bif (((rt (r34.drop 0) 0).fld 5).i != (0:Int)) then
 obind (C aM [(rt (r34.drop 0) 0),s1,(T.int (3:Int))]) fun r35=>
 obind (C aK [(rt (r35.drop 0) 0),s3,(T.sl [])]) fun r36=>
 some [s1,(rt (r36.drop 0) 0)]
 else
 obind (C cu [(rt (r34.drop 0) 0),((rt r31 0).fld 0),(T.int (2:Int))]) fun r37=>
 obind (C aM [(rt (r37.drop 1) 0),(rt r37 0),(T.int (3:Int))]) fun r38=>
 obind (C aK [(rt (r38.drop 0) 0),s3,(T.sl [])]) fun r39=>
 some [s1,(rt (r39.drop 0) 0)]
 else
 bif (s2.toList==Ko.toList) then
 some [s1,a0]
 else
 bif (s2.toList==dz.toList) then
 obind (C aR [a0,s5]) fun r40=>
 some [s1,(rt (r40.drop 1) 0)]
 else
 bif (s2.toList==bm.toList) then
 obind (C aR [a0,s0]) fun r41=>
 some [s1,(rt (r41.drop 1) 0)]
 else
 some [(T.bool false),a0]) (T.sl [s3])) (T.str k_n)) (T.str k_b)) ((a1.fld 0).s)) (T.bool true)) (T.sl [(T.str k_n)])
theorem tX (a0 a1:T) (h:Yields (fun k=>kB (hl env k jQ) (cl env k) a0 a1) r):Yields (fun k=>cl env k ky [a0,a1]) r:=Yields.ca (kB · · a0 a1) h (by kernel_rfl)
noncomputable abbrev jI (H:HT) (C:aF) (a0 a1:T):R:=
 (fun s0=>
 (fun s1=>
 (fun s2=>
 (fun s3=>
 bif (s3.toList==k_copy.toList) then
 obind (C fq [a0,s0]) fun r1=>
 (fun s4=>
 bif (rt r1 0).b then
 bif (decide (0≤s0.i)&&decide ((s0.i).toNat < (s4.es).length)) then
 obind (C cu [(rt (r1.drop 1) 0),((s4.nth s2).fld 0),(T.int (1:Int))]) fun r2=>
 obind (C aM [(rt (r2.drop 1) 0),(rt r2 0),(T.int (3:Int))]) fun r3=>
 obind (C bO [((s4.nth s2).fld 0)]) fun r4=>
 (fun s5=>
 bif (s5||(!s5)) then
 bif (s5||(!s5)) then
 bif (s5||(!s5)) then
 bif (s5||(!s5)) then
 bif ((s5&&(s5&&true))||(!s5)) then
 obind ((bif s5 then C db [(T.st [(((rt (r3.drop 0) 0).fld 4).fld 0),(((rt (r3.drop 0) 0).fld 4).fld 1)]),s0] else some [])) fun r5=>
 bif (s5||(!s5)) then
 bif (bif (rt r4 0).b then true else s5) then
 obind (C aM [(rt (r3.drop 0) 0),(bif (rt r4 0).b then s1 else (T.bool (!(rt r5 0).b))),(T.int (4:Int))]) fun r6=>
 obind (C aK [(rt (r6.drop 0) 0),((s4.nth s2).fld 0),((s4.nth s2).fld 1)]) fun r7=>
 some [s1,(rt (r7.drop 0) 0)]
 else
 none
 else
 none
 else
 none
 else
 none
 else
 none
 else
 none
 else
 none) ((rt r4 0).b==false)
 else
 none
 else
 some [s1,(rt (r1.drop 1) 0)]) (((rt (r1.drop 1) 0).fld 4).fld 1)
 else
 bif (s3.toList==od.toList) then
 obind (C fq [a0,s0]) fun r8=>
 (fun s6=>
 bif (rt r8 0).b then
 bif (decide (0≤s0.i)&&decide ((s0.i).toNat < (((s6.fld 4).fld 1).es).length)) then
 obind (C cr [(T.st [((s6.fld 4).fld 0),((s6.fld 4).fld 1)]),s0]) fun r9=>
 obind (C aM [s6,(T.bool (!(rt r9 0).b)),(T.int (4:Int))]) fun r10=>
 bif (decide (0≤s0.i)&&decide ((s0.i).toNat < ((((rt (r10.drop 0) 0).fld 4).fld 1).es).length)) then
 obind (C aK [(T.put (rt (r10.drop 0) 0) [.fld 4,.fld 1,.idx s2] (T.st [(T.str (⟨#[]⟩:ByteArray)),(T.sl [])])),((((s6.fld 4).fld 1).nth s2).fld 0),((((s6.fld 4).fld 1).nth s2).fld 1)]) fun r11=>
 some [s1,(rt (r11.drop 0) 0)]
 else
 none
 else
 none
 else
 some [s1,s6]) (rt (r8.drop 1) 0)
 else
 bif (s3.toList==k_put.toList) then
 obind (C mi [a0,s0]) fun r12=>
 some [s1,(rt (r12.drop 0) 0)]
 else
 bif (s3.toList==vT.toList) then
 obind (C aR [a0,(T.sl [])]) fun r13=>
 bif (((rt (r13.drop 1) 0).fld 5).i != (0:Int)) then
 obind (C aM [(rt (r13.drop 1) 0),s1,(T.int (3:Int))]) fun r14=>
 some [s1,(rt (r14.drop 0) 0)]
 else
 obind (C cu [(rt (r13.drop 1) 0),((rt r13 0).fld 0),(T.int (2:Int))]) fun r15=>
 obind (C aM [(rt (r15.drop 1) 0),(rt r15 0),(T.int (3:Int))]) fun r16=>
 some [s1,(rt (r16.drop 0) 0)]
 else
 bif (s3.toList==k_lend.toList) then
 obind (C iw [a0,a1]) fun r17=>
 some [s1,(rt (r17.drop 0) 0)]
 else
 bif (s3.toList==k_lendw.toList) then
 obind (C iw [a0,a1]) fun r18=>
 some [s1,(rt (r18.drop 0) 0)]
 else
 some [(T.bool false),a0]) ((a1.fld 0).s)) ((s0.i).toNat)) (T.bool true)) (a1.fld 1)
theorem tq (a0 a1:T) (h:Yields (fun k=>jI (hl env k jn) (cl env k) a0 a1) r):Yields (fun k=>cl env k jF [a0,a1]) r:=Yields.ca (jI · · a0 a1) h (by kernel_rfl)
noncomputable def dS (H:HT) (x1 x2 x3 x4:T):R:=H (bS bC.body 0) ([(0,.pref 156 100000 []),(3,.pref 133 3 []),(5,.val 9 x1),(6,.val 3 x2)],[(100000,⟨156,x3,(.st [.fz,.fz,.dp,.fz,(.st [(.sl (.st [.dp,.fz])),(.sl (.st [.dp,.fz]))]),.dp]),true⟩),(3,⟨133,x4,.dp,true⟩)])
noncomputable def dT (H:HT) (x1 x2 x3 x4:T):R:=H (bS bC.body 1) ([(0,.pref 156 100000 []),(3,.pref 133 3 []),(8,.val 9 x1),(9,.val 3 x2)],[(100000,⟨156,x3,(.st [.fz,.fz,.dp,.fz,(.st [(.sl (.st [.dp,.fz])),(.sl (.st [.dp,.fz]))]),.dp]),true⟩),(3,⟨133,x4,.dp,true⟩)])
noncomputable abbrev jm (H:HT) (C:aF) (a0 a1:T):R:=
 (fun s0=>
 (fun s1=>
 (fun s2=>
 (fun s3=>
 (fun s4=>
 (fun s5=>
 (fun s6=>
 (fun s7=>
 bif (s6.toList==q7.toList) then
 obind (C eZ [a0,s7]) fun r1=>
 dS H (rt r1 0) (T.int (0:Int)) (rt (r1.drop 1) 0) a1
 else
 bif (s6.toList==lT.toList) then
 obind (C eZ [a0,s7]) fun r2=>
 obind (C aR [(rt (r2.drop 1) 0),(T.sl [(rt r2 0)])]) fun r3=>
 dT H (rt r2 0) (T.int (0:Int)) (rt (r3.drop 1) 0) a1
 else
 bif (s6.toList==k_field.toList) then
 obind (C eZ [a0,s5]) fun r4=>
 (fun s8=>
 (fun s9=>
 (fun s10=>
 bif (s8||(!s8)) then
 bif (s8||(!s8)) then
 bif (s8||(!s8)) then
 bif (s8||(!s8)) then
 bif (s8||(!s8)) then
 bif (s8||(!s8)) then
 bif (s8||(!s8)) then
 bif (((s8&&(s8&&true))&&(decide (0≤(s9.fld 2).i)&&decide (((s9.fld 2).i).toNat < ((s9.fld 1).es).length)))||(!s8)) then
 bif (s8||(!s8)) then
 bif (s8||(!s8)) then
 bif (((s8&&(s8&&true))&&(decide (0≤s5.i)&&decide ((s5.i).toNat < (((s9.fld 1).nth (((s9.fld 2).i).toNat)).es).length)))||(!s8)) then
 bif (s8||(!s8)) then
 bif (s8||(!s8)) then
 bif (s8||(!s8)) then
 bif (((s8&&s8)&&true)||(!s8)) then
 bif (bif (s10.toList==s0.toList) then true else s8) then
 bif (bif (s10.toList==s0.toList) then s1 else (T.bool (decide (s7.i≥((((((s9.fld 1).nth (((s9.fld 2).i).toNat)).nth ((s5.i).toNat)).fld 1).es).length:Int))))).b then
 obind (C cw [s9,(T.int (5:Int))]) fun r5=>
 some [s1,(rt (r5.drop 0) 0)]
 else
 bif (decide (cX.size+s10.size≤LIM)) then
 bif (decide (cI.size+s10.size≤LIM)) then
 obind (C aR [s9,(T.sl [(T.str (cX++s10)),(T.str (cI++s10))])]) fun r6=>
 (fun s11=>
 (fun s12=>
 bif ((s11.fld 5).i==(0:Int)) then
 bif (decide (0≤(0:Int))&&(decide ((0:Int)≤(1:Int))&&(decide ((1:Int)≤(s12.size:Int))&&decide ((s12.size:Int)≤(s12.size:Int))))) then
 bif (decide (0≤(s11.fld 2).i)&&decide (((s11.fld 2).i).toNat < ((s11.fld 1).es).length)) then
 bif (decide (0≤s5.i)&&decide ((s5.i).toNat < (((s11.fld 1).nth (((s11.fld 2).i).toNat)).es).length)) then
 bif (decide (0≤s7.i)&&decide ((s7.i).toNat < (((((s11.fld 1).nth (((s11.fld 2).i).toNat)).nth ((s5.i).toNat)).fld 1).es).length)) then
 bif (decide ((s12.extract 0 1).size+((((((s11.fld 1).nth (((s11.fld 2).i).toNat)).nth ((s5.i).toNat)).fld 1).nth ((s7.i).toNat)).s).size≤LIM)) then
 obind (C aK [s11,(T.str ((s12.extract 0 1)++((((((s11.fld 1).nth (((s11.fld 2).i).toNat)).nth ((s5.i).toNat)).fld 1).nth ((s7.i).toNat)).s))),((rt r6 0).fld 1)]) fun r7=>
 some [s1,(rt (r7.drop 0) 0)]
 else
 none
 else
 none
 else
 none
 else
 none
 else
 none
 else
 some [s1,s11]) (((rt r6 0).fld 0).s)) (rt (r6.drop 1) 0)
 else
 none
 else
 none
 else
 none
 else
 none
 else
 none
 else
 none
 else
 none
 else
 none
 else
 none
 else
 none
 else
 none
 else
 none
 else
 none
 else
 none
 else
 none
 else
 none
 else
 none
 else
 none) ((rt r4 0).s)) (rt (r4.drop 1) 0)) ((((rt r4 0).s).toList==s0.toList)==false)
 else
 bif (s6.toList==k_read.toList) then
 obind (C aR [a0,(T.sl [])]) fun r8=>
 (fun s13=>
 obind (C bO [s13]) fun r9=>
 obind (C aM [(rt (r8.drop 1) 0),(rt r9 0),s3]) fun r10=>
 bif (((rt (r10.drop 0) 0).fld 5).i != (0:Int)) then
 obind (C aM [(rt (r10.drop 0) 0),s1,s4]) fun r11=>
 bif s2 then
 obind (C aK [(rt (r11.drop 0) 0),s13,((rt r8 0).fld 1)]) fun r12=>
 obind (C cx [s13]) fun r13=>
 obind (C aK [(rt (r12.drop 0) 0),(rt r13 0),(T.sl [])]) fun r14=>
 some [s1,(rt (r14.drop 0) 0)]
 else
 obind (C cx [s13]) fun r15=>
 obind (C aK [(rt (r11.drop 0) 0),(rt r15 0),(T.sl [])]) fun r16=>
 some [s1,(rt (r16.drop 0) 0)]
 else
 obind (C cx [s13]) fun r17=>
 obind (C cu [(rt (r10.drop 0) 0),(rt r17 0),s3]) fun r18=>
 obind (C aM [(rt (r18.drop 1) 0),(rt r18 0),s4]) fun r19=>
 bif s2 then
 obind (C aK [(rt (r19.drop 0) 0),s13,((rt r8 0).fld 1)]) fun r20=>
 obind (C cx [s13]) fun r21=>
 obind (C aK [(rt (r20.drop 0) 0),(rt r21 0),(T.sl [])]) fun r22=>
 some [s1,(rt (r22.drop 0) 0)]
 else
 obind (C cx [s13]) fun r23=>
 obind (C aK [(rt (r19.drop 0) 0),(rt r23 0),(T.sl [])]) fun r24=>
 some [s1,(rt (r24.drop 0) 0)]) ((rt r8 0).fld 0)
 else
 bif s2 then
 obind (C aR [a0,(T.sl [])]) fun r25=>
 (fun s14=>
 obind (C bO [s14]) fun r26=>
 obind (C aM [(rt (r25.drop 1) 0),(rt r26 0),s3]) fun r27=>
 bif (((rt (r27.drop 0) 0).fld 5).i != (0:Int)) then
 obind (C aM [(rt (r27.drop 0) 0),s1,s4]) fun r28=>
 bif s2 then
 obind (C aK [(rt (r28.drop 0) 0),s14,((rt r25 0).fld 1)]) fun r29=>
 obind (C cx [s14]) fun r30=>
 obind (C aK [(rt (r29.drop 0) 0),(rt r30 0),(T.sl [])]) fun r31=>
 some [s1,(rt (r31.drop 0) 0)]
 else
 obind (C cx [s14]) fun r32=>
 obind (C aK [(rt (r28.drop 0) 0),(rt r32 0),(T.sl [])]) fun r33=>
 some [s1,(rt (r33.drop 0) 0)]
 else
 obind (C cx [s14]) fun r34=>
 obind (C cu [(rt (r27.drop 0) 0),(rt r34 0),s3]) fun r35=>
 obind (C aM [(rt (r35.drop 1) 0),(rt r35 0),s4]) fun r36=>
 bif s2 then
 obind (C aK [(rt (r36.drop 0) 0),s14,((rt r25 0).fld 1)]) fun r37=>
 obind (C cx [s14]) fun r38=>
 obind (C aK [(rt (r37.drop 0) 0),(rt r38 0),(T.sl [])]) fun r39=>
 some [s1,(rt (r39.drop 0) 0)]
 else
 obind (C cx [s14]) fun r40=>
 obind (C aK [(rt (r36.drop 0) 0),(rt r40 0),(T.sl [])]) fun r41=>
 some [s1,(rt (r41.drop 0) 0)]) ((rt r25 0).fld 0)
 else
 bif (s6.toList==k_write.toList) then
 obind (C aR [a0,(T.sl [])]) fun r42=>
 bif (decide (cI.size+(((rt r42 0).fld 0).s).size≤LIM)) then
 obind (C aR [(rt (r42.drop 1) 0),(T.sl [(T.str (cI++(((rt r42 0).fld 0).s)))])]) fun r43=>
 bif (((rt (r43.drop 1) 0).fld 5).i != (0:Int)) then
 obind (C aM [(rt (r43.drop 1) 0),s1,s4]) fun r44=>
 some [s1,(rt (r44.drop 0) 0)]
 else
 obind (C cu [(rt (r43.drop 1) 0),((rt r42 0).fld 0),(T.int (2:Int))]) fun r45=>
 obind (C aM [(rt (r45.drop 1) 0),(rt r45 0),s4]) fun r46=>
 some [s1,(rt (r46.drop 0) 0)]
 else
 none
 else
 bif (s6.toList==k_freeze.toList) then
 obind (C aR [a0,(T.sl [])]) fun r47=>
 (fun s15=>
 obind (C bO [s15]) fun r48=>
 bif (rt r48 0).b then
 bif (decide (0≤(0:Int))&&decide (0 < (s15.s).size)) then
 obind (C aM [(rt (r47.drop 1) 0),(T.bool (((s15.s).data.getD 0 0).toNat==(33:Int))),s3]) fun r49=>
 obind (C cx [s15]) fun r50=>
 bif (decide (cX.size+((rt r50 0).s).size≤LIM)) then
 obind (C aK [(rt (r49.drop 0) 0),(T.str (cX++((rt r50 0).s))),((rt r47 0).fld 1)]) fun r51=>
 some [s1,(rt (r51.drop 0) 0)]
 else
 none
 else
 none
 else
 obind (C aM [(rt (r47.drop 1) 0),(T.bool false),s3]) fun r52=>
 obind (C cx [s15]) fun r53=>
 bif (decide (cX.size+((rt r53 0).s).size≤LIM)) then
 obind (C aK [(rt (r52.drop 0) 0),(T.str (cX++((rt r53 0).s))),((rt r47 0).fld 1)]) fun r54=>
 some [s1,(rt (r54.drop 0) 0)]
 else
 none) ((rt r47 0).fld 0)
 else
 some [(T.bool false),a0]) (a1.fld 1)) ((a1.fld 0).s)) (a1.fld 2)) (T.int (3:Int))) (T.int (1:Int))) (((a1.fld 0).s).toList==t7.toList)) (T.bool true)) (⟨#[]⟩:ByteArray)
theorem sw (a0 a1:T) (h:Yields (fun k=>jm (hl env k bC) (cl env k) a0 a1) r):Yields (fun k=>cl env k jj [a0,a1]) r:=Yields.ca (jm · · a0 a1) h (by kernel_rfl)
noncomputable abbrev dQ (H:HT) (C:aF) (x1 x2 x3 x4:T):R:=
 (fun s0=>
 (fun s1=>
 (fun s2=>
 (fun s3=>
 (fun s4=>
 (fun s5=>
 (fun s6=>
 bif s4 then
 bif s4 then
 bif s4 then
 bif s4 then
 bif s4 then
 bif s4 then
 bif (((s0&&(s0&&true))&&s5)||(!s0)) then
 bif s4 then
 bif s4 then
 bif (((s0&&(s0&&true))&&s3)||(!s0)) then
 bif s4 then
 bif s4 then
 bif s4 then
 bif (((s0&&s0)&&true)||(!s0)) then
 bif (bif s6 then s0 else true) then
 bif (bif s6 then (T.bool (decide (x2.i < ((s1.es).length:Int)))) else (T.bool false)).b then
 bif s5 then
 bif s3 then
 bif (decide (0≤s2)&&decide (s2.toNat < (s1.es).length)) then
 obind (C aR [x3,(T.sl [(s1.nth (s2.toNat))])]) fun r1=>
 dS H x1 (T.int (IntKind.wrap .i64 (x2.i+(1:Int)))) (rt (r1.drop 1) 0) x4
 else
 none
 else
 none
 else
 none
 else
 obind (C aK [x3,x1,(T.sl [])]) fun r2=>
 some [(T.bool true),(rt (r2.drop 0) 0)]
 else
 none
 else
 none
 else
 none
 else
 none
 else
 none
 else
 none
 else
 none
 else
 none
 else
 none
 else
 none
 else
 none
 else
 none
 else
 none
 else
 none
 else
 none) (!(x1.s.toList==(⟨#[]⟩:ByteArray).toList))) (decide (0≤(x3.fld 2).i)&&decide (((x3.fld 2).i).toNat < ((x3.fld 1).es).length))) (s0||(!s0))) (decide (0≤(x4.fld 1).i)&&decide (((x4.fld 1).i).toNat < (((x3.fld 1).nth (((x3.fld 2).i).toNat)).es).length))) (IntKind.wrap .i64 ((IntKind.wrap .i64 (((s1.es).length:Int) - (1:Int))) - x2.i))) ((((x3.fld 1).nth (((x3.fld 2).i).toNat)).nth (((x4.fld 1).i).toNat)).fld 1)) ((!(x1.s.toList==(⟨#[]⟩:ByteArray).toList))==true)
theorem io (x1 x2 x3 x4:T) (h:Yields (fun k=>dQ (hl env k bC) (cl env k) x1 x2 x3 x4) r):Yields (fun k=>dS (hl env k bC) x1 x2 x3 x4) r:=Yields.hd (dQ · · x1 x2 x3 x4) h (by kernel_rfl)
noncomputable abbrev dR (H:HT) (C:aF) (x1 x2 x3 x4:T):R:=
 (fun s0=>
 (fun s1=>
 (fun s2=>
 (fun s3=>
 (fun s4=>
 (fun s5=>
 (fun s6=>
 bif s2 then
 bif s2 then
 bif s2 then
 bif s2 then
 bif s2 then
 bif s2 then
 bif (((s0&&(s0&&true))&&s3)||(!s0)) then
 bif s2 then
 bif s2 then
 bif (((s0&&(s0&&true))&&s4)||(!s0)) then
 bif s2 then
 bif s2 then
 bif s2 then
 bif (((s0&&s0)&&true)||(!s0)) then
 bif (bif s6 then s0 else true) then
 bif (bif s6 then (T.bool (decide (x2.i < ((s5.es).length:Int)))) else (T.bool false)).b then
 bif s3 then
 bif s4 then
 bif (decide (0≤x2.i)&&decide (x2.i.toNat < (s5.es).length)) then
 obind (C aK [x3,(s5.nth x2.i.toNat),(T.sl [])]) fun r1=>
 dT H x1 (T.int (IntKind.wrap .i64 (x2.i+(1:Int)))) (rt (r1.drop 0) 0) x4
 else
 none
 else
 none
 else
 none
 else
 some [(T.bool true),x3]
 else
 none
 else
 none
 else
 none
 else
 none
 else
 none
 else
 none
 else
 none
 else
 none
 else
 none
 else
 none
 else
 none
 else
 none
 else
 none
 else
 none
 else
 none) (!(x1.s.toList==(⟨#[]⟩:ByteArray).toList))) ((s1.nth (((x4.fld 1).i).toNat)).fld 1)) (decide (0≤(x4.fld 1).i)&&decide (((x4.fld 1).i).toNat < (s1.es).length))) (decide (0≤(x3.fld 2).i)&&decide (((x3.fld 2).i).toNat < ((x3.fld 1).es).length))) (s0||(!s0))) ((x3.fld 1).nth (((x3.fld 2).i).toNat))) ((!(x1.s.toList==(⟨#[]⟩:ByteArray).toList))==true)
theorem ip (x1 x2 x3 x4:T) (h:Yields (fun k=>dR (hl env k bC) (cl env k) x1 x2 x3 x4) r):Yields (fun k=>dT (hl env k bC) x1 x2 x3 x4) r:=Yields.hd (dR · · x1 x2 x3 x4) h (by kernel_rfl)
noncomputable abbrev cC (H:HT) (C:aF) (a0 a1:T):R:=
 (fun s0=>
 (fun s1=>
 (fun s2=>
 (fun s3=>
 (fun s4=>
 (fun s5=>
 (fun s6=>
 (fun s7=>
 (fun s8=>
 (fun s9=>
 (fun s10=>
 (fun s11=>
 (fun s12=>
 (fun s13=>
 bif (s13||(!s13)) then
 bif (((s13&&true)&&true)||(!s13)) then
 bif (bif (!s2) then s13 else true) then
 bif ((s5.b==true)||(!(s5.b==true))) then
 bif ((((s5.b==true)&&true)&&true)||(!(s5.b==true))) then
 bif (bif s5.b then (s5.b==true) else true) then
 bif ((s1.b==true)||(!(s1.b==true))) then
 bif ((((s1.b==true)&&true)&&true)||(!(s1.b==true))) then
 bif (bif s1.b then (s1.b==true) else true) then
 bif ((s3.b==true)||(!(s3.b==true))) then
 bif ((((s3.b==true)&&true)&&true)||(!(s3.b==true))) then
 bif (bif s3.b then (s3.b==true) else true) then
 bif (bif s3.b then (T.bool (!s12)) else (T.bool false)).b then
 some [(T.bool false),a0]
 else
 obind (C eZ [a0,(a1.fld 1)]) fun r1=>
 (fun s14=>
 bif (s14.toList==(⟨#[]⟩:ByteArray).toList) then
 obind (C aM [(rt (r1.drop 1) 0),s7,(T.int (5:Int))]) fun r2=>
 bif (s8||(!s8)) then
 bif (((s8&&true)&&true)||(!s8)) then
 bif (bif s2 then true else s8) then
 bif s9 then
 bif s9 then
 bif s9 then
 bif s9 then
 bif s9 then
 bif ((s6&&(s6&&true))||(!s6)) then
 obind ((bif s6 then C dY [(((rt (r2.drop 0) 0).fld 3).fld 4),(a1.fld 1)] else some [])) fun r3=>
 bif (bif s0.b then true else s6) then
 obind (C aM [(rt (r2.drop 0) 0),(bif s0.b then s7 else (rt r3 0)),(T.int (5:Int))]) fun r4=>
 obind (C aR [(rt (r4.drop 0) 0),(T.sl [(T.str k_o)])]) fun r5=>
 (fun s15=>
 bif s2 then
 obind (C aR [s15,(T.sl [(rt r1 0)])]) fun r6=>
 some [s7,(rt (r6.drop 1) 0)]
 else
 bif (s10.toList==cJ.toList) then
 obind (C cr [(T.st [((s15.fld 4).fld 0),((s15.fld 4).fld 1)]),s4]) fun r7=>
 obind (C aM [s15,(T.bool (!(rt r7 0).b)),s11]) fun r8=>
 obind (C aK [(rt (r8.drop 0) 0),(rt r1 0),(T.sl [])]) fun r9=>
 some [s7,(rt (r9.drop 0) 0)]
 else
 bif (s10.toList==bv.toList) then
 obind (C aK [s15,(T.str k_b),(T.sl [])]) fun r10=>
 some [s7,(rt (r10.drop 0) 0)]
 else
 bif (s10.toList==kt.toList) then
 obind (C db [(T.st [((s15.fld 4).fld 0),((s15.fld 4).fld 1)]),s4]) fun r11=>
 obind (C aM [s15,(T.bool (!(rt r11 0).b)),s11]) fun r12=>
 bif (decide (cX.size+s14.size≤LIM)) then
 obind (C aK [(rt (r12.drop 0) 0),(T.str (cX++s14)),(T.sl [s4])]) fun r13=>
 some [s7,(rt (r13.drop 0) 0)]
 else
 none
 else
 bif s12 then
 obind (C cr [(T.st [((s15.fld 4).fld 0),((s15.fld 4).fld 1)]),s4]) fun r14=>
 obind (C aM [s15,(T.bool (!(rt r14 0).b)),s11]) fun r15=>
 bif (decide (cI.size+s14.size≤LIM)) then
 obind (C aK [(rt (r15.drop 0) 0),(T.str (cI++s14)),(T.sl [s4])]) fun r16=>
 some [s7,(rt (r16.drop 0) 0)]
 else
 none
 else
 some [s7,s15]) (rt (r5.drop 1) 0)
 else
 none
 else
 none
 else
 none
 else
 none
 else
 none
 else
 none
 else
 none
 else
 none
 else
 none
 else
 none
 else
 obind (C cu [(rt (r1.drop 1) 0),(rt r1 0),(T.int (8:Int))]) fun r17=>
 obind (C aM [(rt (r17.drop 1) 0),(rt r17 0),(T.int (5:Int))]) fun r18=>
 bif (s8||(!s8)) then
 bif (((s8&&true)&&true)||(!s8)) then
 bif (bif s2 then true else s8) then
 bif s9 then
 bif s9 then
 bif s9 then
 bif s9 then
 bif s9 then
 bif ((s6&&(s6&&true))||(!s6)) then
 obind ((bif s6 then C dY [(((rt (r18.drop 0) 0).fld 3).fld 4),(a1.fld 1)] else some [])) fun r19=>
 bif (bif s0.b then true else s6) then
 obind (C aM [(rt (r18.drop 0) 0),(bif s0.b then s7 else (rt r19 0)),(T.int (5:Int))]) fun r20=>
 obind (C aR [(rt (r20.drop 0) 0),(T.sl [(T.str k_o)])]) fun r21=>
 (fun s16=>
 bif s2 then
 obind (C aR [s16,(T.sl [(rt r1 0)])]) fun r22=>
 some [s7,(rt (r22.drop 1) 0)]
 else
 bif (s10.toList==cJ.toList) then
 obind (C cr [(T.st [((s16.fld 4).fld 0),((s16.fld 4).fld 1)]),s4]) fun r23=>
 obind (C aM [s16,(T.bool (!(rt r23 0).b)),s11]) fun r24=>
 obind (C aK [(rt (r24.drop 0) 0),(rt r1 0),(T.sl [])]) fun r25=>
 some [s7,(rt (r25.drop 0) 0)]
 else
 bif (s10.toList==bv.toList) then
 obind (C aK [s16,(T.str k_b),(T.sl [])]) fun r26=>
 some [s7,(rt (r26.drop 0) 0)]
 else
 bif (s10.toList==kt.toList) then
 obind (C db [(T.st [((s16.fld 4).fld 0),((s16.fld 4).fld 1)]),s4]) fun r27=>
 obind (C aM [s16,(T.bool (!(rt r27 0).b)),s11]) fun r28=>
 bif (decide (cX.size+s14.size≤LIM)) then
 obind (C aK [(rt (r28.drop 0) 0),(T.str (cX++s14)),(T.sl [s4])]) fun r29=>
 some [s7,(rt (r29.drop 0) 0)]
 else
 none
 else
 bif s12 then
 obind (C cr [(T.st [((s16.fld 4).fld 0),((s16.fld 4).fld 1)]),s4]) fun r30=>
 obind (C aM [s16,(T.bool (!(rt r30 0).b)),s11]) fun r31=>
 bif (decide (cI.size+s14.size≤LIM)) then
 obind (C aK [(rt (r31.drop 0) 0),(T.str (cI++s14)),(T.sl [s4])]) fun r32=>
 some [s7,(rt (r32.drop 0) 0)]
 else
 none
 else
 some [s7,s16]) (rt (r21.drop 1) 0)
 else
 none
 else
 none
 else
 none
 else
 none
 else
 none
 else
 none
 else
 none
 else
 none
 else
 none
 else
 none) ((rt r1 0).s)
 else
 none
 else
 none
 else
 none
 else
 none
 else
 none
 else
 none
 else
 none
 else
 none
 else
 none
 else
 none
 else
 none
 else
 none) ((!s2)==true)) (s10.toList==rm.toList)) (T.int (4:Int))) ((a1.fld 0).s)) (s6||(!s6))) (s2==false)) (T.bool true)) (s0.b==false)) (bif (!s2) then (T.bool (!(((a1.fld 0).s).toList==cJ.toList))) else (T.bool false))) (T.int (IntKind.wrap .i64 ((6:Int)+(a1.fld 1).i)))) (bif s1.b then (T.bool (!(((a1.fld 0).s).toList==kt.toList))) else (T.bool false))) (((a1.fld 0).s).toList==aT.toList)) (bif (bif (!(((a1.fld 0).s).toList==aT.toList)) then (T.bool (!(((a1.fld 0).s).toList==cJ.toList))) else (T.bool false)).b then (T.bool (!(((a1.fld 0).s).toList==bv.toList))) else (T.bool false))) (bif (((a1.fld 0).s).toList==aT.toList) then (T.bool true) else (T.bool (((a1.fld 0).s).toList==bv.toList)))
theorem dt (a0 a1:T) (h:Yields (fun k=>cC (hl env k jo) (cl env k) a0 a1) r):Yields (fun k=>cl env k cm [a0,a1]) r:=Yields.ca (cC · · a0 a1) h (by kernel_rfl)
noncomputable abbrev iG (H:HT) (C:aF) (a0 a1 a2:T):R:=
 bif (!a1.b) then
 obind (C cw [a0,a2]) fun r1=>
 some [(rt (r1.drop 0) 0)]
 else
 some [a0]
theorem qm (a0 a1 a2:T) (h:Yields (fun k=>iG (hl env k kK) (cl env k) a0 a1 a2) r):Yields (fun k=>cl env k aM [a0,a1,a2]) r:=Yields.ca (iG · · a0 a1 a2) h (by kernel_rfl)
noncomputable def gy (H:HT) (x1 x2 x3 x4:T):R:=H (bS bn.body 0) ([(0,.pref 156 100000 []),(3,.pref 133 3 []),(4,.pref 98 4 []),(5,.val 3 x1)],[(100000,⟨156,x2,(.st [.fz,.fz,.dp,.fz,(.st [(.sl (.st [.dp,.fz])),(.sl (.st [.dp,.fz]))]),.dp]),true⟩),(3,⟨133,x3,.dp,true⟩),(4,⟨98,x4,.fz,true⟩)])
noncomputable def gz (H:HT) (x1 x2 x3 x4 x5:T):R:=H (bS bn.body 1) ([(0,.pref 156 100000 []),(3,.pref 133 3 []),(4,.pref 98 4 []),(6,.val 4 x1),(7,.val 3 x2)],[(100000,⟨156,x3,(.st [.fz,.fz,.dp,.fz,(.st [(.sl (.st [.dp,.fz])),(.sl (.st [.dp,.fz]))]),.dp]),true⟩),(3,⟨133,x4,.dp,true⟩),(4,⟨98,x5,.fz,true⟩)])
noncomputable def gA (H:HT) (x1 x2 x3 x4 x5:T):R:=H (bS bn.body 2) ([(0,.pref 156 100000 []),(4,.pref 98 4 []),(6,.val 4 x1),(8,.val 37 x2),(9,.val 3 x3)],[(100000,⟨156,x4,(.st [.fz,.fz,.dp,.fz,(.st [(.sl (.st [.dp,.fz])),(.sl (.st [.dp,.fz]))]),.dp]),true⟩),(4,⟨98,x5,.fz,true⟩)])
noncomputable def eW (H:HT) (x1 x2 x3 x4:T):R:=H (bS bn.body 3) ([(0,.pref 156 100000 []),(4,.pref 98 4 []),(8,.val 37 x1),(10,.val 3 x2)],[(100000,⟨156,x3,(.st [.fz,.fz,.dp,.fz,(.st [(.sl (.st [.dp,.fz])),(.sl (.st [.dp,.fz]))]),.dp]),true⟩),(4,⟨98,x4,.fz,true⟩)])
noncomputable abbrev lF (H:HT) (C:aF) (a0 a1:T):R:=
 (fun s0=>
 obind (C mf [(a0.fld 0),(a0.fld 2),(a1.fld 1),(a1.fld 2)]) fun r1=>
 bif (!(rt r1 0).b) then
 obind (C cw [a0,(T.int (6:Int))]) fun r2=>
 some [(rt (r2.drop 0) 0)]
 else
 bif (decide (0≤(a1.fld 1).i)&&decide (((a1.fld 1).i).toNat < ((a0.fld 0).es).length)) then
 bif (decide (0≤(a1.fld 2).i)&&decide (((a1.fld 2).i).toNat < (s0.es).length)) then
 gy H (T.int (0:Int)) a0 a1 (s0.nth (((a1.fld 2).i).toNat))
 else
 none
 else
 none) (((a0.fld 0).nth (((a1.fld 1).i).toNat)).fld 1)
theorem uT (a0 a1:T) (h:Yields (fun k=>lF (hl env k bn) (cl env k) a0 a1) r):Yields (fun k=>cl env k lu [a0,a1]) r:=Yields.ca (lF · · a0 a1) h (by kernel_rfl)
noncomputable abbrev gg (H:HT) (C:aF) (x1 x2 x3 x4:T):R:=
 (fun s0=>
 (fun s1=>
 bif (s0||(!s0)) then
 bif (s0||(!s0)) then
 bif (s0||(!s0)) then
 bif (s0||(!s0)) then
 bif (((s0&&s0)&&true)||(!s0)) then
 bif (bif s1 then s0 else true) then
 bif (bif s1 then (T.bool ((x3.fld 1).i==(x2.fld 2).i)) else (T.bool false)).b then
 bif (decide (0≤x1.i)&&decide (x1.i.toNat < ((x4.fld 4).es).length)) then
 obind (C dY [((x2.fld 3).fld 4),((x4.fld 4).nth x1.i.toNat)]) fun r1=>
 obind (C aM [x2,(rt r1 0),(T.int (6:Int))]) fun r2=>
 gy H (T.int (IntKind.wrap .i64 (x1.i+(1:Int)))) (rt (r2.drop 0) 0) x3 x4
 else
 none
 else
 gz H (T.bool false) (T.int (0:Int)) x2 x3 x4
 else
 none
 else
 none
 else
 none
 else
 none
 else
 none
 else
 none) (decide (x1.i < (((x4.fld 4).es).length:Int)))) ((decide (x1.i < (((x4.fld 4).es).length:Int)))==true)
theorem oh (x1 x2 x3 x4:T) (h:Yields (fun k=>gg (hl env k bn) (cl env k) x1 x2 x3 x4) r):Yields (fun k=>gy (hl env k bn) x1 x2 x3 x4) r:=Yields.hd (gg · · x1 x2 x3 x4) h (by kernel_rfl)
noncomputable abbrev gh (H:HT) (C:aF) (x1 x2 x3 x4 x5:T):R:=
 (fun s0=>
 (fun s1=>
 (fun s2=>
 (fun s3=>
 bif (s0||(!s0)) then
 bif (s0||(!s0)) then
 bif (s0||(!s0)) then
 bif (s0||(!s0)) then
 bif (((s0&&s0)&&true)||(!s0)) then
 bif (bif s2 then s0 else true) then
 bif (bif s2 then (T.bool ((x4.fld 1).i==(x3.fld 2).i)) else (T.bool false)).b then
 bif s3 then
 bif s3 then
 bif s3 then
 bif s3 then
 bif (((s1&&(s1&&true))&&(decide (0≤x2.i)&&decide (x2.i.toNat < ((x5.fld 4).es).length)))||(!s1)) then
 bif s3 then
 bif ((s1&&true)||(!s1)) then
 bif ((s1&&(s1&&true))||(!s1)) then
 obind ((bif s1 then C cr [(T.st [((x3.fld 4).fld 0),((x3.fld 4).fld 1)]),(T.int (IntKind.wrap .i64 ((6:Int)+((x5.fld 4).nth x2.i.toNat).i)))] else some [])) fun r1=>
 bif (bif x1.b then true else s1) then
 gz H (bif x1.b then (T.bool true) else (rt r1 0)) (T.int (IntKind.wrap .i64 (x2.i+(1:Int)))) x3 x4 x5
 else
 none
 else
 none
 else
 none
 else
 none
 else
 none
 else
 none
 else
 none
 else
 none
 else
 none
 else
 gA H x1 (T.sl []) (T.int (IntKind.wrap .i64 ((((x5.fld 1).es).length:Int) - (1:Int)))) x3 x5
 else
 none
 else
 none
 else
 none
 else
 none
 else
 none
 else
 none) (s1||(!s1))) (decide (x2.i < (((x5.fld 4).es).length:Int)))) (x1.b==false)) ((decide (x2.i < (((x5.fld 4).es).length:Int)))==true)
theorem om (x1 x2 x3 x4 x5:T) (h:Yields (fun k=>gh (hl env k bn) (cl env k) x1 x2 x3 x4 x5) r):Yields (fun k=>gz (hl env k bn) x1 x2 x3 x4 x5) r:=Yields.hd (gh · · x1 x2 x3 x4 x5) h (by kernel_rfl)
noncomputable abbrev gk (H:HT) (C:aF) (x1 x2 x3 x4 x5:T):R:=
 bif (decide (x3.i≥(0:Int))) then
 bif (decide (0≤x3.i)&&decide (x3.i.toNat < ((x5.fld 1).es).length)) then
 obind (C aR [x4,(T.sl [((x5.fld 1).nth x3.i.toNat)])]) fun r1=>
 obind (C ne [x2,((rt r1 0).fld 1)]) fun r2=>
 gA H x1 (rt r2 0) (T.int (IntKind.wrap .i64 (x3.i - (1:Int)))) (rt (r1.drop 1) 0) x5
 else
 none
 else
 obind (C aM [x4,(T.bool (!x1.b)),(T.int (4:Int))]) fun r3=>
 eW H x2 (T.int (0:Int)) (rt (r3.drop 0) 0) x5
theorem oq (x1 x2 x3 x4 x5:T) (h:Yields (fun k=>gk (hl env k bn) (cl env k) x1 x2 x3 x4 x5) r):Yields (fun k=>gA (hl env k bn) x1 x2 x3 x4 x5) r:=Yields.hd (gk · · x1 x2 x3 x4 x5) h (by kernel_rfl)
noncomputable abbrev gl (H:HT) (C:aF) (x1 x2 x3 x4:T):R:=
 (fun s0=>
 (fun s1=>
 (fun s2=>
 bif (decide (x2.i < (((x4.fld 2).es).length:Int))) then
 bif s0 then
 obind (C bO [s1]) fun r1=>
 bif (rt r1 0).b then
 bif s0 then
 obind (C aK [x3,s1,x1]) fun r2=>
 eW H x1 s2 (rt (r2.drop 0) 0) x4
 else
 none
 else
 bif s0 then
 obind (C aK [x3,s1,(T.sl [])]) fun r3=>
 eW H x1 s2 (rt (r3.drop 0) 0) x4
 else
 none
 else
 none
 else
 some [x3]) (T.int (IntKind.wrap .i64 (x2.i+(1:Int))))) ((x4.fld 2).nth x2.i.toNat)) (decide (0≤x2.i)&&decide (x2.i.toNat < ((x4.fld 2).es).length))
theorem ot (x1 x2 x3 x4:T) (h:Yields (fun k=>gl (hl env k bn) (cl env k) x1 x2 x3 x4) r):Yields (fun k=>eW (hl env k bn) x1 x2 x3 x4) r:=Yields.hd (gl · · x1 x2 x3 x4) h (by kernel_rfl)
noncomputable def fx (H:HT) (x1 x2 x3:T):R:=H (bS bF.body 0) ([(0,.pref 156 100000 []),(2,.val 4 x1),(3,.val 3 x2)],[(100000,⟨156,x3,(.st [.fz,.fz,.dp,.fz,(.st [(.sl (.st [.dp,.fz])),(.sl (.st [.dp,.fz]))]),.dp]),true⟩)])
noncomputable def fy (H:HT) (x1 x2 x3 x4 x5:T):R:=H (bS bF.body 1) ([(0,.pref 156 100000 []),(2,.val 4 x1),(3,.val 3 x2),(4,.pref 108 4 []),(5,.val 3 x3)],[(100000,⟨156,x4,(.st [.fz,.fz,.dp,.fz,(.st [(.sl (.st [.dp,.fz])),(.sl (.st [.dp,.fz]))]),.dp]),true⟩),(4,⟨108,x5,(.st [.dp,.fz]),true⟩)])
noncomputable def fA (H:HT) (x1 x2 x3:T):R:=H (bS bF.body 2) ([(0,.pref 156 100000 []),(2,.val 4 x1),(6,.val 3 x2)],[(100000,⟨156,x3,(.st [.fz,.fz,.dp,.fz,(.st [(.sl (.st [.dp,.fz])),(.sl (.st [.dp,.fz]))]),.dp]),true⟩)])
noncomputable abbrev mB (H:HT) (C:aF) (a0:T):R:=
 obind (C aM [a0,(T.bool (((((a0.fld 4).fld 0).es).length:Int)==((((a0.fld 3).fld 2).es).length:Int))),(T.int (1:Int))]) fun r1=>
 fx H (T.bool false) (T.int (IntKind.wrap .i64 ((((((rt (r1.drop 0) 0).fld 3).fld 2).es).length:Int) - (1:Int)))) (rt (r1.drop 0) 0)
theorem wz (a0:T) (h:Yields (fun k=>mB (hl env k bF) (cl env k) a0) r):Yields (fun k=>cl env k mj [a0]) r:=Yields.ca (mB · · a0) h (by kernel_rfl)
noncomputable abbrev gQ (H:HT) (C:aF) (x1 x2 x3:T):R:=
 bif (decide (x2.i≥(0:Int))) then
 bif (decide (0≤x2.i)&&decide (x2.i.toNat < (((x3.fld 3).fld 2).es).length)) then
 obind (C aR [x3,(T.sl [(((x3.fld 3).fld 2).nth x2.i.toNat)])]) fun r1=>
 fy H x1 x2 (T.int (0:Int)) (rt (r1.drop 1) 0) (T.st [((rt r1 0).fld 0),((rt r1 0).fld 1)])
 else
 none
 else
 fA H x1 (T.int (0:Int)) x3
theorem pi (x1 x2 x3:T) (h:Yields (fun k=>gQ (hl env k bF) (cl env k) x1 x2 x3) r):Yields (fun k=>fx (hl env k bF) x1 x2 x3) r:=Yields.hd (gQ · · x1 x2 x3) h (by kernel_rfl)
noncomputable abbrev gR (H:HT) (C:aF) (x1 x2 x3 x4 x5:T):R:=
 (fun s0=>
 bif (decide (x3.i < (((x5.fld 1).es).length:Int))) then
 bif x1.b then
 fy H (T.bool true) x2 s0 x4 x5
 else
 bif (decide (0≤x3.i)&&decide (x3.i.toNat < ((x5.fld 1).es).length)) then
 fy H (T.bool (((x5.fld 1).nth x3.i.toNat).i != (9:Int))) x2 s0 x4 x5
 else
 none
 else
 fx H x1 (T.int (IntKind.wrap .i64 (x2.i - (1:Int)))) x4) (T.int (IntKind.wrap .i64 (x3.i+(1:Int))))
theorem pj (x1 x2 x3 x4 x5:T) (h:Yields (fun k=>gR (hl env k bF) (cl env k) x1 x2 x3 x4 x5) r):Yields (fun k=>fy (hl env k bF) x1 x2 x3 x4 x5) r:=Yields.hd (gR · · x1 x2 x3 x4 x5) h (by kernel_rfl)
noncomputable abbrev gS (H:HT) (C:aF) (x1 x2 x3:T):R:=
 (fun s0=>
 (fun s1=>
 (fun s2=>
 bif (decide (x2.i < ((((x3.fld 4).fld 1).es).length:Int))) then
 bif ((x3.fld 5).i==(0:Int)) then
 bif s0 then
 bif ((s2.s).toList==(⟨#[]⟩:ByteArray).toList) then
 obind (C aM [x3,(T.bool true),(T.int (3:Int))]) fun r1=>
 fA H x1 s1 (rt (r1.drop 0) 0)
 else
 bif s0 then
 obind (C cu [x3,s2,(T.int (2:Int))]) fun r2=>
 obind (C aM [(rt (r2.drop 1) 0),(rt r2 0),(T.int (3:Int))]) fun r3=>
 fA H x1 s1 (rt (r3.drop 0) 0)
 else
 none
 else
 none
 else
 obind (C aM [x3,(T.bool (!x1.b)),(T.int (7:Int))]) fun r4=>
 some [(rt (r4.drop 0) 0)]
 else
 obind (C aM [x3,(T.bool (!x1.b)),(T.int (7:Int))]) fun r5=>
 some [(rt (r5.drop 0) 0)]) ((((x3.fld 4).fld 1).nth x2.i.toNat).fld 0)) (T.int (IntKind.wrap .i64 (x2.i+(1:Int))))) (decide (0≤x2.i)&&decide (x2.i.toNat < (((x3.fld 4).fld 1).es).length))
theorem pk (x1 x2 x3:T) (h:Yields (fun k=>gS (hl env k bF) (cl env k) x1 x2 x3) r):Yields (fun k=>fA (hl env k bF) x1 x2 x3) r:=Yields.hd (gS · · x1 x2 x3) h (by kernel_rfl)
noncomputable abbrev oT (H:HT) (C:aF) (a0 a1 a2 a3 a4 a5 a6:T):R:=
 (fun s0=>
 (fun s1=>
 (fun s2=>
 (fun s3=>
 bif (decide (0≤s1)&&decide (s1.toNat < ((a5.fld 0).es).length)) then
 orE (obind (C cO [a1,a2,a3,a4,a5,(T.int (a6.es.length:Int)),(T.st [(T.str vT),s0,s0])]) fun r1=>
 bif (rt r1 2).b then
 none
 else
 obind (C cU [(((a5.fld 0).nth (s1.toNat)).fld 0)]) fun r2=>
 obind (C aG [a0,(T.int (2:Int))]) fun r3=>
 bif ((rt r3 0).i==(0:Int)) then
 orE (obind (C cO [a1,a2,a3,a4,a5,(T.int (a6.es.length:Int)),s3]) fun r4=>
 bif (rt r4 2).b then
 orE (obind (C cO [a1,a2,a3,a4,(rt r4 0),(T.int ((rt r4 1).i.toNat:Int)),(T.st [(T.str aT),(rt r2 1),s0])]) fun r5=>
 bif (rt r5 2).b then
 none
 else
 obind (C bk [a1,a2,a3,a4,a5,a6,(T.st [s2,(rt r2 1),s0])]) fun r6=>
 some [(rt r6 0),(rt r6 1),(rt r6 2),(rt (r3.drop 1) 0)])
 (orE (none)
 (none))
 else
 bif (rt r4 2).b then
 none
 else
 obind (C bk [a1,a2,a3,a4,a5,a6,(T.st [s2,(rt r2 1),s0])]) fun r7=>
 some [(rt r7 0),(rt r7 1),(rt r7 2),(rt (r3.drop 1) 0)])
 (orE (obind (C bk [a1,a2,a3,a4,a5,a6,s3]) fun r8=>
 bif (rt r8 2).b then
 orE (obind (C cO [a1,a2,a3,a4,(rt r8 0),(T.int (((rt r8 1).es).length:Int)),(T.st [(T.str aT),(rt r2 1),s0])]) fun r9=>
 bif (rt r9 2).b then
 none
 else
 none)
 (orE (obind (C bk [a1,a2,a3,a4,(rt r8 0),(rt r8 1),(T.st [(T.str aT),(rt r2 1),s0])]) fun r10=>
 bif (rt r10 2).b then
 some [(rt r10 0),(rt r10 1),(T.bool true),(rt (r3.drop 1) 0)]
 else
 none)
 (none))
 else
 bif (rt r8 2).b then
 some [(rt r8 0),(rt r8 1),(T.bool true),(rt (r3.drop 1) 0)]
 else
 none)
 (orE (obind (C jr [a1,a2,a3,a4,a5,a6,s3]) fun r11=>
 bif (rt r11 2).b then
 orE (obind (C cO [a1,a2,a3,a4,(rt r11 0),(T.int ((rt r11 1).i.toNat:Int)),(T.st [(T.str aT),(rt r2 1),s0])]) fun r12=>
 bif (rt r12 2).b then
 none
 else
 obind (C bk [a1,a2,a3,a4,a5,(rt (r11.drop 3) 0),(T.st [s2,(rt r2 1),s0])]) fun r13=>
 some [(rt r13 0),(rt r13 1),(rt r13 2),(rt (r3.drop 1) 0)])
 (orE (none)
 (none))
 else
 bif (rt r11 2).b then
 none
 else
 obind (C bk [a1,a2,a3,a4,a5,(rt (r11.drop 3) 0),(T.st [s2,(rt r2 1),s0])]) fun r14=>
 some [(rt r14 0),(rt r14 1),(rt r14 2),(rt (r3.drop 1) 0)])
 (none)))
 else
 obind (C bk [a1,a2,a3,a4,a5,a6,(T.st [s2,(rt r2 1),s0])]) fun r15=>
 some [(rt r15 0),(rt r15 1),(rt r15 2),(rt (r3.drop 1) 0)])
 (orE (obind (C bk [a1,a2,a3,a4,a5,a6,(T.st [(T.str vT),s0,s0])]) fun r16=>
 bif (rt r16 2).b then
 some [(rt r16 0),(rt r16 1),(T.bool true),a0]
 else
 obind (C cU [(((a5.fld 0).nth (s1.toNat)).fld 0)]) fun r17=>
 obind (C aG [a0,(T.int (2:Int))]) fun r18=>
 bif ((rt r18 0).i==(0:Int)) then
 none
 else
 none)
 (none))
 else
 none) (T.st [(T.str k_me),s0,s0])) (T.str lT)) (IntKind.wrap .i64 ((((a5.fld 0).es).length:Int) - (1:Int)))) (T.int (0:Int))
theorem yA (a0 a1 a2 a3 a4 a5 a6:T) (h:Yields (fun k=>oT (hl env k nL) (cl env k) a0 a1 a2 a3 a4 a5 a6) r):Yields (fun k=>cl env k kV [a0,a1,a2,a3,a4,a5,a6]) r:=Yields.ca (oT · · a0 a1 a2 a3 a4 a5 a6) h (by kernel_rfl)
noncomputable abbrev jJ (H:HT) (C:aF) (a0 a1 a2 a3 a4 a5 a6:T):R:=
 obind (C dG [a0,a1,a2,a3,a4,a6]) fun r1=>
 bif ((rt r1 1).i != (0:Int)) then
 some [a4,a5,(T.bool false)]
 else
 bif (decide ((a5.es.length:Int) > (36:Int))) then
 some [a4,a5,(T.bool false)]
 else
 bif (decide (a5.es.length + [a6].length≤LIM)) then
 some [(T.st [((rt r1 0).fld 0),((rt r1 0).fld 1)]),(T.sl (a5.es ++ [a6])),(T.bool true)]
 else
 none
theorem qt (a0 a1 a2 a3 a4 a5 a6:T) (h:Yields (fun k=>jJ (hl env k oW) (cl env k) a0 a1 a2 a3 a4 a5 a6) r):Yields (fun k=>cl env k bk [a0,a1,a2,a3,a4,a5,a6]) r:=Yields.ca (jJ · · a0 a1 a2 a3 a4 a5 a6) h (by kernel_rfl)
noncomputable def fT (H:HT) (x1 x2 x3 x4 x5 x6 x7 x8 x9:T):R:=H (bS bG.body 0) ([(0,.val 57 x1),(1,.val 30 x2),(2,.val 3 x3),(5,.sref 96 100005 []),(6,.val 9 x4),(10,.pref 98 10 []),(11,.pref 25 11 []),(14,.pref 25 14 []),(17,.val 3 x5)],[(100005,⟨96,x6,.dp,false⟩),(10,⟨98,x7,.fz,true⟩),(11,⟨25,x8,.fz,true⟩),(14,⟨25,x9,.dp,true⟩)])
noncomputable def uz (H:HT) (x1 x2 x3 x4 x5 x6 x7 x8:T):R:=H (bS bG.body 0) ([(0,.val 57 x1),(1,.val 30 x2),(2,.val 3 x3),(5,.undef),(6,.val 9 x4),(10,.pref 98 10 []),(11,.pref 25 11 []),(14,.pref 25 14 []),(17,.val 3 x5)],[(10,⟨98,x6,.fz,true⟩),(11,⟨25,x7,.fz,true⟩),(14,⟨25,x8,.dp,true⟩)])
noncomputable def iW (H:HT) (x1 x2 x3 x4 x5 x6 x7 x8 x9 x10:T):R:=H (bS bG.body 1) ([(0,.val 57 x1),(1,.val 30 x2),(2,.val 3 x3),(5,.sref 96 100005 []),(10,.pref 98 10 []),(11,.pref 25 11 []),(14,.pref 25 14 []),(22,.val 3 x4),(23,.val 4 x5),(24,.val 3 x6)],[(100005,⟨96,x7,.dp,false⟩),(10,⟨98,x8,.fz,true⟩),(11,⟨25,x9,.fz,true⟩),(14,⟨25,x10,.dp,true⟩)])
noncomputable def iX (H:HT) (x1 x2 x3 x4 x5 x6 x7 x8 x9 x10:T):R:=H (bS bG.body 1) ([(0,.val 57 x1),(1,.val 30 x2),(2,.val 3 x3),(5,.sref 96 1144 []),(10,.pref 98 10 []),(11,.pref 25 11 []),(14,.pref 25 14 []),(22,.val 3 x4),(23,.val 4 x5),(24,.val 3 x6)],[(1144,⟨96,x7,.dp,false⟩),(10,⟨98,x8,.fz,true⟩),(11,⟨25,x9,.fz,true⟩),(14,⟨25,x10,.dp,true⟩)])
noncomputable abbrev kp (H:HT) (C:aF) (a0 a1 a2 a3 a4 a5 a6:T):R:=
 fT H a0 a1 a2 a6 (T.int (0:Int)) a5 a3 a4 (T.st [(T.sl []),(T.sl [])])
theorem rz (a0 a1 a2 a3 a4 a5 a6:T) (h:Yields (fun k=>kp (hl env k bG) (cl env k) a0 a1 a2 a3 a4 a5 a6) r):Yields (fun k=>cl env k dv [a0,a1,a2,a3,a4,a5,a6]) r:=Yields.ca (kp · · a0 a1 a2 a3 a4 a5 a6) h (by kernel_rfl)
noncomputable abbrev iM (H:HT) (C:aF) (x1 x2 x3 x4 x5 x6 x7 x8 x9:T):R:=
 (fun s0=>
 (fun s1=>
 bif (decide (x5.i < (((x8.fld 1).es).length:Int))) then
 bif (decide (0≤x5.i)&&decide (x5.i.toNat < ((x8.fld 1).es).length)) then
 bif (((((x8.fld 1).nth x5.i.toNat).fld 0).s).toList==x4.s.toList) then
 orE (obind (C cO [x1,x2,x3,x7,x8,(T.int (x6.es.length:Int)),(T.st [(T.str od),x5,s0])]) fun r1=>
 bif (rt r1 2).b then
 none
 else
 fT H x1 x2 x3 x4 s1 x6 x7 x8 x9)
 (orE (obind (C bk [x1,x2,x3,x7,x8,x6,(T.st [(T.str od),x5,s0])]) fun r2=>
 bif (rt r2 2).b then
 some [(rt r2 0),(rt r2 1),(T.bool true)]
 else
 uz H x1 x2 x3 x4 s1 x7 x8 x9)
 (none))
 else
 fT H x1 x2 x3 x4 s1 x6 x7 x8 x9
 else
 none
 else
 bif (x4.s.toList==k_n.toList) then
 obind (C bk [x1,x2,x3,x7,x8,x6,(T.st [(T.str bE),(T.int (3:Int)),s0])]) fun r3=>
 some [(rt r3 0),(rt r3 1),(rt r3 2)]
 else
 bif (x4.s.toList==k_b.toList) then
 obind (C bk [x1,x2,x3,x7,x8,x6,(T.st [(T.str zk),s0,s0])]) fun r4=>
 some [(rt r4 0),(rt r4 1),(rt r4 2)]
 else
 bif (x4.s.toList==k_o.toList) then
 obind (C bk [x1,x2,x3,x7,x8,x6,(T.st [(T.str k_me),s0,s0])]) fun r5=>
 some [(rt r5 0),(rt r5 1),(rt r5 2)]
 else
 obind (C cU [x4]) fun r6=>
 bif (!(rt r6 2).b) then
 some [x8,x6,(T.bool false)]
 else
 bif ((rt r6 0).i != x3.i) then
 some [x8,x6,(T.bool false)]
 else
 iW H x1 x2 x3 (rt r6 1) (rt r6 2) s0 x6 x7 x8 x9) (T.int (IntKind.wrap .i64 (x5.i+(1:Int))))) (T.int (0:Int))
theorem qu (x1 x2 x3 x4 x5 x6 x7 x8 x9:T) (h:Yields (fun k=>iM (hl env k bG) (cl env k) x1 x2 x3 x4 x5 x6 x7 x8 x9) r):Yields (fun k=>fT (hl env k bG) x1 x2 x3 x4 x5 x6 x7 x8 x9) r:=Yields.hd (iM · · x1 x2 x3 x4 x5 x6 x7 x8 x9) h (by kernel_rfl)
noncomputable abbrev lK (H:HT) (C:aF) (x1 x2 x3 x4 x5 x6 x7 x8 x9 x10:T):R:=
 (fun s0=>
 (fun s1=>
 (fun s2=>
 (fun s3=>
 bif s2 then
 bif s1 then
 bif (decide (x6.i < ((s0.es).length:Int))) then
 bif x5.b then
 bif s2 then
 bif s1 then
 bif (decide (0≤x6.i)&&decide (x6.i.toNat < (s0.es).length)) then
 obind (C dv [x1,x2,x3,x8,x9,x7,(s0.nth x6.i.toNat)]) fun r1=>
 iX H x1 x2 x3 x4 (rt r1 2) (T.int (IntKind.wrap .i64 (x6.i+(1:Int)))) (rt r1 1) x8 (rt r1 0) x10
 else
 none
 else
 none
 else
 none
 else
 bif (!x5.b) then
 some [x9,x7,(T.bool false)]
 else
 obind (C bk [x1,x2,x3,x8,x9,x7,s3]) fun r2=>
 some [(rt r2 0),(rt r2 1),(rt r2 2)]
 else
 bif (!x5.b) then
 some [x9,x7,(T.bool false)]
 else
 obind (C bk [x1,x2,x3,x8,x9,x7,s3]) fun r3=>
 some [(rt r3 0),(rt r3 1),(rt r3 2)]
 else
 none
 else
 none) (T.st [(T.str q7),x4,(T.int (0:Int))])) (decide (0≤x3.i)&&decide (x3.i.toNat < x2.es.length))) (decide (0≤x4.i)&&decide (x4.i.toNat < ((x2.nth x3.i.toNat).es).length))) (((x2.nth x3.i.toNat).nth x4.i.toNat).fld 1)
theorem uY (x1 x2 x3 x4 x5 x6 x7 x8 x9 x10:T) (h:Yields (fun k=>lK (hl env k bG) (cl env k) x1 x2 x3 x4 x5 x6 x7 x8 x9 x10) r):Yields (fun k=>iW (hl env k bG) x1 x2 x3 x4 x5 x6 x7 x8 x9 x10) r:=Yields.hd (lK · · x1 x2 x3 x4 x5 x6 x7 x8 x9 x10) h (by kernel_rfl)
noncomputable abbrev iN (H:HT) (C:aF) (x1 x2 x3 x4 x5 x6 x7 x8 x9 x10:T):R:=lK H C x1 x2 x3 x4 x5 x6 x7 x8 x9 x10
theorem qv (x1 x2 x3 x4 x5 x6 x7 x8 x9 x10:T) (h:Yields (fun k=>iN (hl env k bG) (cl env k) x1 x2 x3 x4 x5 x6 x7 x8 x9 x10) r):Yields (fun k=>iX (hl env k bG) x1 x2 x3 x4 x5 x6 x7 x8 x9 x10) r:=Yields.hd (iN · · x1 x2 x3 x4 x5 x6 x7 x8 x9 x10) h (by kernel_rfl)
noncomputable abbrev nj (H:HT) (C:aF) (a0 a1 a2 a3:T):R:=
 obind (C cU [a3]) fun r1=>
 bif (!(rt r1 2).b) then
 obind (C kU [a3]) fun r2=>
 some [(rt r2 0)]
 else
 obind (C mg [a0,(rt r1 0),(rt r1 1)]) fun r3=>
 bif (rt r3 0).b then
 bif (decide ((rt r1 0).i < a1.i)) then
 some [(T.bool true)]
 else
 bif ((rt r1 0).i==a1.i) then
 some [(T.bool (decide ((rt r1 1).i < a2.i)))]
 else
 some [(T.bool false)]
 else
 some [(T.bool false)]
theorem xl (a0 a1 a2 a3:T) (h:Yields (fun k=>nj (hl env k gx) (cl env k) a0 a1 a2 a3) r):Yields (fun k=>cl env k kh [a0,a1,a2,a3]) r:=Yields.ca (nj · · a0 a1 a2 a3) h (by kernel_rfl)
noncomputable abbrev oM (H:HT) (C:aF) (a0:T):R:=
 bif (decide (([]:List T).length+((a0.fld 1).es).length≤LIM)) then
 some [(T.st [(a0.fld 0),(T.sl (([]:List T)++(a0.fld 1).es))])]
 else
 none
theorem yr (a0:T) (h:Yields (fun k=>oM (hl env k nG) (cl env k) a0) r):Yields (fun k=>cl env k oE [a0]) r:=Yields.ca (oM · · a0) h (by kernel_rfl)
noncomputable abbrev lI (H:HT) (C:aF) (a0 a1 a2:T):R:=
 (fun s0=>
 bif ((a0.fld 5).i==(0:Int)) then
 bif (decide (([]:List T).length+a2.es.length≤LIM)) then
 bif (decide ((((a0.fld 4).fld 0).es).length + [s0].length≤LIM)) then
 some [(T.st (a0.fs.set 4 (T.st ((a0.fld 4).fs.set 0 (T.sl (((a0.fld 4).fld 0).es ++ [s0]))))))]
 else
 none
 else
 none
 else
 some [a0]) (T.st [a1,(T.sl (([]:List T)++a2.es))])
theorem uW (a0 a1 a2:T) (h:Yields (fun k=>lI (hl env k kL) (cl env k) a0 a1 a2) r):Yields (fun k=>cl env k aK [a0,a1,a2]) r:=Yields.ca (lI · · a0 a1 a2) h (by kernel_rfl)
noncomputable def gY (H:HT) (x1 x2 x3 x4 x5 x6 x7:T):R:=H (bS dM.body 0) ([(0,.pref 156 100000 []),(1,.val 95 x1),(4,.pref 108 4 []),(5,.val 3 x2),(6,.pref 108 6 []),(7,.val 4 x3),(8,.val 3 x4)],[(100000,⟨156,x5,(.st [.fz,.fz,.dp,.fz,(.st [(.sl (.st [.dp,.fz])),(.sl (.st [.dp,.fz]))]),.dp]),true⟩),(4,⟨108,x6,.dp,true⟩),(6,⟨108,x7,(.st [.dp,.fz]),true⟩)])
noncomputable abbrev mz (H:HT) (C:aF) (a0 a1:T):R:=
 (fun s0=>
 (fun s1=>
 (fun s2=>
 bif ((a0.fld 5).i != (0:Int)) then
 some [s1,a0]
 else
 bif (((s2.es).length:Int)==(0:Int)) then
 obind (C cw [a0,(T.int (1:Int))]) fun r1=>
 some [s1,(rt (r1.drop 0) 0)]
 else
 bif (decide (0≤s0)&&decide (s0.toNat < (s2.es).length)) then
 gY H a1 (T.int ((s2.es).length:Int)) (T.bool ((a1.es.length:Int)==(0:Int))) (T.int (0:Int)) a0 s1 (T.st [((s2.nth (s0.toNat)).fld 0),((s2.nth (s0.toNat)).fld 1)])
 else
 none) ((a0.fld 4).fld 0)) (T.st [(T.str (⟨#[]⟩:ByteArray)),(T.sl [])])) (IntKind.wrap .i64 (((((a0.fld 4).fld 0).es).length:Int) - (1:Int)))
theorem wx (a0 a1:T) (h:Yields (fun k=>mz (hl env k dM) (cl env k) a0 a1) r):Yields (fun k=>cl env k aR [a0,a1]) r:=Yields.ca (mz · · a0 a1) h (by kernel_rfl)
noncomputable abbrev gP (H:HT) (C:aF) (x1 x2 x3 x4 x5 x6 x7:T):R:=
 (fun s0=>
 (fun s1=>
 (fun s2=>
 bif (decide (x4.i < (x1.es.length:Int))) then
 bif (s0||(!s0)) then
 bif (((s0&&(s0&&true))&&(decide (0≤x4.i)&&decide (x4.i.toNat < x1.es.length)))||(!s0)) then
 bif (s0||(!s0)) then
 bif (((s0&&s0)&&true)||(!s0)) then
 bif (bif x3.b then true else s0) then
 gY H x1 x2 (bif x3.b then (T.bool true) else (T.bool (((x7.fld 0).s).toList==((x1.nth x4.i.toNat).s).toList))) (T.int (IntKind.wrap .i64 (x4.i+(1:Int)))) x5 x6 x7
 else
 none
 else
 none
 else
 none
 else
 none
 else
 none
 else
 bif (!x3.b) then
 obind (C cw [x5,(T.int (1:Int))]) fun r1=>
 some [(T.st [(T.str (⟨#[]⟩:ByteArray)),(T.sl [])]),(rt (r1.drop 0) 0)]
 else
 bif (decide (0≤(0:Int))&&(decide ((0:Int)≤s1)&&(decide (s1≤s2)&&decide (s2≤s2)))) then
 some [(T.st [(x7.fld 0),(x7.fld 1)]),(T.st (x5.fs.set 4 (T.st ((x5.fld 4).fs.set 0 (T.sl (((((x5.fld 4).fld 0).es).take (s1.toNat)).drop 0))))))]
 else
 none) ((((x5.fld 4).fld 0).es).length:Int)) (IntKind.wrap .i64 (x2.i - (1:Int)))) (x3.b==false)
theorem ph (x1 x2 x3 x4 x5 x6 x7:T) (h:Yields (fun k=>gP (hl env k dM) (cl env k) x1 x2 x3 x4 x5 x6 x7) r):Yields (fun k=>gY (hl env k dM) x1 x2 x3 x4 x5 x6 x7) r:=Yields.hd (gP · · x1 x2 x3 x4 x5 x6 x7) h (by kernel_rfl)
noncomputable abbrev lE (H:HT) (C:aF) (a0 a1 a2:T):R:=
 obind (C eD [(a0.fld 1),a1]) fun r1=>
 obind (C bH [(rt r1 0),a2]) fun r2=>
 some [(rt r2 0),a0]
theorem uS (a0 a1 a2:T) (h:Yields (fun k=>lE (hl env k kH) (cl env k) a0 a1 a2) r):Yields (fun k=>cl env k cu [a0,a1,a2]) r:=Yields.ca (lE · · a0 a1 a2) h (by kernel_rfl)
noncomputable abbrev kA (H:HT) (C:aF) (a0 a1:T):R:=
 bif (decide (a1.i≥((((a0.fld 4).fld 1).es).length:Int))) then
 obind (C cw [a0,(T.int (2:Int))]) fun r1=>
 some [(T.bool false),(rt (r1.drop 0) 0)]
 else
 bif (decide (0≤a1.i)&&decide (a1.i.toNat < (((a0.fld 4).fld 1).es).length)) then
 bif ((((((a0.fld 4).fld 1).nth a1.i.toNat).fld 0).s).toList==(⟨#[]⟩:ByteArray).toList) then
 obind (C cw [a0,(T.int (2:Int))]) fun r2=>
 some [(T.bool false),(rt (r2.drop 0) 0)]
 else
 some [(T.bool true),a0]
 else
 none
theorem tW (a0 a1:T) (h:Yields (fun k=>kA (hl env k jP) (cl env k) a0 a1) r):Yields (fun k=>cl env k fq [a0,a1]) r:=Yields.ca (kA · · a0 a1) h (by kernel_rfl)
noncomputable abbrev mA (H:HT) (C:aF) (a0 a1:T):R:=
 bif (decide (a1.i≥((((a0.fld 4).fld 1).es).length:Int))) then
 obind (C cw [a0,(T.int (2:Int))]) fun r1=>
 some [(rt (r1.drop 0) 0)]
 else
 obind (C hJ [(a0.fld 3),a1]) fun r2=>
 obind (C aR [a0,(T.sl [(rt r2 0)])]) fun r3=>
 (fun s0=>
 (fun s1=>
 (fun s2=>
 bif ((s1.fld 5).i != (0:Int)) then
 some [s1]
 else
 bif s0 then
 bif (!((((((s1.fld 4).fld 1).nth a1.i.toNat).fld 0).s).toList==(⟨#[]⟩:ByteArray).toList)) then
 bif s0 then
 obind (C cu [s1,((((s1.fld 4).fld 1).nth a1.i.toNat).fld 0),(T.int (2:Int))]) fun r4=>
 obind (C aM [(rt (r4.drop 1) 0),(rt r4 0),(T.int (3:Int))]) fun r5=>
 obind (C cr [(T.st [(((rt (r5.drop 0) 0).fld 4).fld 0),(((rt (r5.drop 0) 0).fld 4).fld 1)]),a1]) fun r6=>
 obind (C aM [(rt (r5.drop 0) 0),(T.bool (!(rt r6 0).b)),(T.int (4:Int))]) fun r7=>
 bif (decide (0≤a1.i)&&decide (a1.i.toNat < ((((rt (r7.drop 0) 0).fld 4).fld 1).es).length)) then
 some [(T.put (rt (r7.drop 0) 0) [.fld 4,.fld 1,.idx a1.i.toNat] s2)]
 else
 none
 else
 none
 else
 bif s0 then
 some [(T.put s1 [.fld 4,.fld 1,.idx a1.i.toNat] s2)]
 else
 none
 else
 none) (T.st [((rt r3 0).fld 0),((rt r3 0).fld 1)])) (rt (r3.drop 1) 0)) (decide (0≤a1.i)&&decide (a1.i.toNat < ((((rt (r3.drop 1) 0).fld 4).fld 1).es).length))
theorem wy (a0 a1:T) (h:Yields (fun k=>mA (hl env k lQ) (cl env k) a0 a1) r):Yields (fun k=>cl env k mi [a0,a1]) r:=Yields.ca (mA · · a0 a1) h (by kernel_rfl)
noncomputable abbrev lH (H:HT) (C:aF) (a0 a1:T):R:=
 (fun s0=>
 (fun s1=>
 obind (C fq [a0,s0]) fun r1=>
 (fun s2=>
 bif (!(rt r1 0).b) then
 some [(rt (r1.drop 1) 0)]
 else
 bif (decide (0≤s0.i)&&decide ((s0.i).toNat < ((((rt (r1.drop 1) 0).fld 4).fld 1).es).length)) then
 obind (C bO [s2]) fun r2=>
 obind (C aM [(rt (r1.drop 1) 0),(T.bool (!(rt r2 0).b)),(T.int (2:Int))]) fun r3=>
 (fun s3=>
 bif (((a1.fld 0).s).toList==k_lend.toList) then
 obind (C db [(T.st [((s3.fld 4).fld 0),((s3.fld 4).fld 1)]),s0]) fun r4=>
 obind (C aM [s3,(T.bool (!(rt r4 0).b)),(T.int (4:Int))]) fun r5=>
 bif (decide (cX.size+(s2.s).size≤LIM)) then
 obind (C aK [(rt (r5.drop 0) 0),(T.str (cX++(s2.s))),(T.sl [s0])]) fun r6=>
 some [(rt (r6.drop 0) 0)]
 else
 none
 else
 obind (C cr [(T.st [((s3.fld 4).fld 0),((s3.fld 4).fld 1)]),s0]) fun r7=>
 obind (C aM [s3,(T.bool (!(rt r7 0).b)),(T.int (4:Int))]) fun r8=>
 bif (decide (cI.size+(s2.s).size≤LIM)) then
 obind (C aK [(rt (r8.drop 0) 0),(T.str (cI++(s2.s))),(T.sl [s0])]) fun r9=>
 some [(rt (r9.drop 0) 0)]
 else
 none) (rt (r3.drop 0) 0)
 else
 none) (((((rt (r1.drop 1) 0).fld 4).fld 1).nth s1).fld 0)) ((s0.i).toNat)) (a1.fld 1)
theorem uV (a0 a1:T) (h:Yields (fun k=>lH (hl env k kJ) (cl env k) a0 a1) r):Yields (fun k=>cl env k iw [a0,a1]) r:=Yields.ca (lH · · a0 a1) h (by kernel_rfl)
noncomputable abbrev my (H:HT) (C:aF) (a0 a1:T):R:=
 bif (decide (0≤(a0.fld 2).i)&&decide (((a0.fld 2).i).toNat < ((a0.fld 1).es).length)) then
 bif (decide (a1.i≥((((a0.fld 1).nth (((a0.fld 2).i).toNat)).es).length:Int))) then
 obind (C cw [a0,(T.int (5:Int))]) fun r1=>
 some [(T.str (⟨#[]⟩:ByteArray)),(rt (r1.drop 0) 0)]
 else
 obind (C dE [(a0.fld 2)]) fun r2=>
 bif (decide (k_S.size+((rt r2 0).s).size≤LIM)) then
 obind (C dE [a1]) fun r3=>
 bif (decide ((k_S++((rt r2 0).s)).size+((rt r3 0).s).size≤LIM)) then
 some [(T.str ((k_S++((rt r2 0).s))++((rt r3 0).s))),a0]
 else
 none
 else
 none
 else
 none
theorem ww (a0 a1:T) (h:Yields (fun k=>my (hl env k lP) (cl env k) a0 a1) r):Yields (fun k=>cl env k eZ [a0,a1]) r:=Yields.ca (my · · a0 a1) h (by kernel_rfl)
noncomputable abbrev lG (H:HT) (C:aF) (a0 a1:T):R:=
 bif ((a0.fld 5).i==(0:Int)) then
 some [(T.st (a0.fs.set 5 a1))]
 else
 some [a0]
theorem uU (a0 a1:T) (h:Yields (fun k=>lG (hl env k kI) (cl env k) a0 a1) r):Yields (fun k=>cl env k cw [a0,a1]) r:=Yields.ca (lG · · a0 a1) h (by kernel_rfl)
noncomputable abbrev mr (H:HT) (C:aF) (a0 a1 a2 a3:T):R:=
 (fun s0=>
 (fun s1=>
 obind (C eb [a0,a2,a3]) fun r1=>
 bif (!(rt r1 0).b) then
 some [(T.bool false)]
 else
 obind (C dZ [a1,(T.int (0:Int)),(T.int (IntKind.wrap .i64 ((a0.es.length:Int) - (1:Int))))]) fun r2=>
 bif (!(rt r2 0).b) then
 some [(T.bool false)]
 else
 bif (decide (a2.i > a1.i)) then
 some [(T.bool false)]
 else
 bif s0 then
 bif (decide (0≤a3.i)&&decide (a3.i.toNat < ((s1.fld 1).es).length)) then
 bif (a2.i==a1.i) then
 some [(T.bool true)]
 else
 bif ((((s1.fld 1).nth a3.i.toNat).fld 0).i==(2:Int)) then
 some [(T.bool true)]
 else
 bif ((((s1.fld 1).nth a3.i.toNat).fld 0).i==(1:Int)) then
 bif s0 then
 obind (C dY [(s1.fld 2),a1]) fun r3=>
 some [(rt r3 0)]
 else
 none
 else
 some [(T.bool false)]
 else
 none
 else
 none) (a0.nth a2.i.toNat)) (decide (0≤a2.i)&&decide (a2.i.toNat < a0.es.length))
theorem wt (a0 a1 a2 a3:T) (h:Yields (fun k=>mr (hl env k lO) (cl env k) a0 a1 a2 a3) r):Yields (fun k=>cl env k mf [a0,a1,a2,a3]) r:=Yields.ca (mr · · a0 a1 a2 a3) h (by kernel_rfl)
noncomputable def eQ (H:HT) (x1 x2 x3 x4:T):R:=H (bS er.body 0) ([(0,.val 37 x1),(1,.val 37 x2),(5,.sref 37 5 []),(6,.val 3 x3)],[(5,⟨37,x4,(.sl .dp),false⟩)])
noncomputable abbrev nt (H:HT) (C:aF) (a0 a1:T):R:=
 eQ H a0 a1 (T.int (0:Int)) (T.sl [])
theorem xt (a0 a1:T) (h:Yields (fun k=>nt (hl env k er) (cl env k) a0 a1) r):Yields (fun k=>cl env k ne [a0,a1]) r:=Yields.ca (nt · · a0 a1) h (by kernel_rfl)
noncomputable abbrev iH (H:HT) (C:aF) (x1 x2 x3 x4:T):R:=
 (fun s0=>
 (fun s1=>
 bif (decide (x3.i≤(9:Int))) then
 obind (C dY [x1,x3]) fun r1=>
 bif (rt r1 0).b then
 bif s1 then
 eQ H x1 x2 s0 (T.sl (x4.es ++ [x3]))
 else
 none
 else
 obind (C dY [x2,x3]) fun r2=>
 bif (rt r2 0).b then
 bif s1 then
 eQ H x1 x2 s0 (T.sl (x4.es ++ [x3]))
 else
 none
 else
 eQ H x1 x2 s0 x4
 else
 some [x4]) (decide (x4.es.length + [x3].length≤LIM))) (T.int (IntKind.wrap .i64 (x3.i+(1:Int))))
theorem qn (x1 x2 x3 x4:T) (h:Yields (fun k=>iH (hl env k er) (cl env k) x1 x2 x3 x4) r):Yields (fun k=>eQ (hl env k er) x1 x2 x3 x4) r:=Yields.hd (iH · · x1 x2 x3 x4) h (by kernel_rfl)
noncomputable abbrev hZ (H:HT) (C:aF) (a0 a1:T):R:=
 (fun s0=>
 bif (decide (a1.i < (((a0.fld 1).es).length:Int))) then
 bif (decide (0≤a1.i)&&decide (a1.i.toNat < ((a0.fld 1).es).length)) then
 some [((a0.fld 1).nth a1.i.toNat)]
 else
 none
 else
 bif (decide (0≤s0)&&decide (s0.toNat < ((a0.fld 3).es).length)) then
 some [((a0.fld 3).nth (s0.toNat))]
 else
 none) (IntKind.wrap .i64 (a1.i - (((a0.fld 1).es).length:Int)))
theorem Ms (a0 a1:T) (h:Yields (fun k=>hZ (hl env k mK) (cl env k) a0 a1) r):Yields (fun k=>cl env k hJ [a0,a1]) r:=Yields.ca (hZ · · a0 a1) h (by kernel_rfl)
noncomputable abbrev ej (H:HT) (C:aF) (a0 a1 a2 a3 a4 a5 a6:T):R:=
 obind (C dG [a0,a1,a2,a3,a4,a6]) fun r1=>
 bif ((rt r1 1).i != (0:Int)) then
 some [a4,(T.int (a5.i.toNat:Int)),(T.bool false)]
 else
 bif (decide ((a5.i.toNat:Int) > (36:Int))) then
 some [a4,(T.int (a5.i.toNat:Int)),(T.bool false)]
 else
 none
theorem qL (a0 a1 a2 a3 a4 a5 a6:T) (h:Yields (fun k=>ej (hl env k fR) (cl env k) a0 a1 a2 a3 a4 a5 a6) r):Yields (fun k=>cl env k cO [a0,a1,a2,a3,a4,a5,a6]) r:=Yields.ca (ej · · a0 a1 a2 a3 a4 a5 a6) h (by kernel_rfl)
noncomputable abbrev gm (H:HT) (C:aF) (a0 a1 a2 a3 a4 a5 a6:T):R:=
 obind (C dG [a0,a1,a2,a3,a4,a6]) fun r1=>
 bif ((rt r1 1).i != (0:Int)) then
 some [a4,(T.int (a5.es.length:Int)),(T.bool false),a5]
 else
 bif (decide ((a5.es.length:Int) > (36:Int))) then
 some [a4,(T.int (a5.es.length:Int)),(T.bool false),a5]
 else
 bif (decide (a5.es.length + [a6].length≤LIM)) then
 some [(T.st [((rt r1 0).fld 0),((rt r1 0).fld 1)]),(T.int ((a5.es ++ [a6]).length:Int)),(T.bool true),a5]
 else
 none
theorem mY (a0 a1 a2 a3 a4 a5 a6:T) (h:Yields (fun k=>gm (hl env k lR) (cl env k) a0 a1 a2 a3 a4 a5 a6) r):Yields (fun k=>cl env k jr [a0,a1,a2,a3,a4,a5,a6]) r:=Yields.ca (gm · · a0 a1 a2 a3 a4 a5 a6) h (by kernel_rfl)
end Go.Proofs.YtdmgnefllclaoaaGreat.Ra
