/- Each function as a readable term. Written by gen.py. -/
import Derived.Test.YtmhjjanaackknaaPTab
set_option linter.unusedSimpArgs false
set_option linter.unusedVariables false
namespace Go.Proofs.Ytmhjjanaackknaa.Ra
open Go
abbrev F_laws_FnExactVaultsPut : Nat := 7
abbrev F_laws_szRecordSS : Nat := 8
abbrev F_laws_szKeptS : Nat := 9
abbrev F_laws_toRecordSS : Nat := 11
abbrev F_laws_toKeptS : Nat := 12
abbrev F_laws_eqRecordSS : Nat := 14
abbrev F_laws_eqKeptS : Nat := 15
abbrev F_laws_eqValue : Nat := 18
abbrev F_laws_markRecordSS : Nat := 19
abbrev F_laws_markKeptS : Nat := 20
abbrev F_laws_szValue : Nat := 23
abbrev F_laws_toValue : Nat := 25
abbrev F_laws_heldKeptS : Nat := 27
abbrev F_spec_VaultsPut : Nat := 30
abbrev F_impl_VaultsPut : Nat := 31
abbrev F_laws_szRecordS : Nat := 32
abbrev F_laws_szKept : Nat := 33
abbrev F_spec_l1Kind : Nat := 34
abbrev F_spec_VaultsOk : Nat := 35
abbrev F_laws_toRecordS : Nat := 38
abbrev F_laws_toKept : Nat := 39
abbrev F_impl_VaultsOk : Nat := 40
abbrev F_impl_kindIn : Nat := 41
abbrev F_laws_eqRecordS : Nat := 43
abbrev F_laws_eqKept : Nat := 44
abbrev F_spec_l9Find : Nat := 45
abbrev F_spec_l2Copy : Nat := 46
abbrev F_impl_vaultAt : Nat := 47
abbrev F_impl_copyValue : Nat := 48
abbrev F_laws_eqValueS : Nat := 49
abbrev F_laws_eqIntS : Nat := 50
abbrev F_laws_markRecordS : Nat := 51
abbrev F_laws_markText : Nat := 52
abbrev F_laws_markValueS : Nat := 53
abbrev F_laws_markIntS : Nat := 54
abbrev F_laws_heldValueS : Nat := 55
abbrev F_laws_heldIntS : Nat := 56
abbrev F_laws_szValueS : Nat := 57
abbrev F_laws_szIntS : Nat := 58
abbrev F_spec_l9Kind : Nat := 59
abbrev F_spec_l9Copy : Nat := 60
abbrev F_laws_toValueS : Nat := 61
abbrev F_laws_toIntS : Nat := 62
abbrev F_impl_keepable : Nat := 63
abbrev F_impl_copyKept : Nat := 64
abbrev F_spec_l6In : Nat := 66
abbrev F_spec_l9Put : Nat := 67
abbrev F_impl_withKept : Nat := 68
abbrev F_laws_szRecord : Nat := 69
abbrev F_spec_KindsOk : Nat := 70
abbrev F_spec_l9Ok : Nat := 71
abbrev F_spec_l1Base : Nat := 72
abbrev F_spec_l1Has : Nat := 73
abbrev F_laws_toRecord : Nat := 74
abbrev F_impl_KindsOk : Nat := 75
abbrev F_impl_vaultBefore : Nat := 76
abbrev F_impl_kindAt : Nat := 77
abbrev F_laws_eqRecord : Nat := 78
abbrev F_slices_IndexFunc_impl_Kept : Nat := 79
abbrev F_impl_vaultAt_1 : Nat := 80
abbrev F_impl_copyInts : Nat := 81
abbrev F_slices_Clip_impl_Value : Nat := 82
abbrev F_laws_markStringS : Nat := 83
abbrev F_spec_l2Ok : Nat := 84
abbrev F_spec_l1Can : Nat := 85
abbrev F_spec_l1Able : Nat := 86
abbrev F_impl_recordOf : Nat := 87
abbrev F_impl_valueFits : Nat := 88
abbrev F_slices_Clip_impl_Kept : Nat := 89
abbrev F_laws_szStringS : Nat := 90
abbrev F_spec_KindsBad : Nat := 91
abbrev F_laws_toStringS : Nat := 92
abbrev F_impl_KindsBad : Nat := 93
abbrev F_laws_eqStringS : Nat := 94
abbrev F_slices_Clip_int : Nat := 95
abbrev F_spec_l2Plain : Nat := 96
abbrev F_spec_l1Ref : Nat := 97
abbrev F_impl_plainOk : Nat := 98
abbrev F_spec_l1Record : Nat := 99
abbrev F_impl_recordOk : Nat := 100
abbrev F_spec_l1Field : Nat := 101
abbrev F_impl_ableOf : Nat := 102
abbrev F_impl_signOf : Nat := 103
/- loop.example/heirlooms/laws.FnExactVaultsPut -/
noncomputable abbrev b_laws_FnExactVaultsPut (H : List Item → CS → R) (C : CallsE) (a0 a1 a2 a3 : T) : R :=
 obind (C F_laws_szRecordSS [a0, (T.int (1048576 : Int))]) fun r1 =>
 bif (decide ((rt r1 0).i < (0 : Int))) then
 some [(T.bool true)]
 else
 obind (C F_laws_szKeptS [a1, (rt r1 0)]) fun r2 =>
 bif (decide ((rt r2 0).i < (0 : Int))) then
 some [(T.bool true)]
 else
 obind (C F_laws_szValue [a3, (rt r2 0)]) fun r3 =>
 bif (decide ((rt r3 0).i < (0 : Int))) then
 some [(T.bool true)]
 else
 obind (C F_laws_toRecordSS [a0]) fun r4 =>
 obind (C F_laws_toKeptS [a1]) fun r5 =>
 obind (C F_laws_toValue [a3]) fun r6 =>
 obind (C F_spec_VaultsPut [(rt r4 0), (rt r5 0), a2, (rt r6 0)]) fun r7 =>
 obind (C F_laws_toRecordSS [a0]) fun r8 =>
 obind (C F_laws_toKeptS [a1]) fun r9 =>
 obind (C F_laws_toValue [a3]) fun r10 =>
 obind (C F_impl_VaultsPut [(rt r8 0), (rt r9 0), a2, (T.st [((rt r10 0).fld 0), ((rt r10 0).fld 1), ((rt r10 0).fld 2), ((rt r10 0).fld 3)])]) fun r11 =>
 obind (C F_laws_eqKeptS [(rt r11 0), (rt r7 0)]) fun r12 =>
 bif (!(rt r12 0).b) then
 some [(T.bool false)]
 else
 bif (!((rt r11 1).b == (rt r7 1).b)) then
 some [(T.bool false)]
 else
 obind (C F_laws_toRecordSS [a0]) fun r13 =>
 obind (C F_laws_eqRecordSS [(rt r8 0), (rt r13 0)]) fun r14 =>
 bif (!(rt r14 0).b) then
 some [(T.bool false)]
 else
 obind (C F_laws_toKeptS [a1]) fun r15 =>
 obind (C F_laws_eqKeptS [(rt r9 0), (rt r15 0)]) fun r16 =>
 bif (!(rt r16 0).b) then
 some [(T.bool false)]
 else
 obind (C F_laws_toValue [a3]) fun r17 =>
 obind (C F_laws_eqValue [(T.st [((rt r10 0).fld 0), ((rt r10 0).fld 1), ((rt r10 0).fld 2), ((rt r10 0).fld 3)]), (T.st [((rt r17 0).fld 0), ((rt r17 0).fld 1), ((rt r17 0).fld 2), ((rt r17 0).fld 3)])]) fun r18 =>
 bif (!(rt r18 0).b) then
 some [(T.bool false)]
 else
 obind (C F_laws_markRecordSS [(rt r8 0), (T.int (1 : Int))]) fun r19 =>
 obind (C F_laws_markKeptS [(rt r9 0), (rt r19 0)]) fun r20 =>
 obind (C F_laws_markValueS [((rt r10 0).fld 2), (rt r20 0)]) fun r21 =>
 obind (C F_laws_markIntS [((rt r10 0).fld 3), (rt r21 0)]) fun r22 =>
 bif (decide ((rt r22 0).i < (0 : Int))) then
 some [(T.bool false)]
 else
 obind (C F_laws_eqKeptS [(rt r11 0), (rt r7 0)]) fun r23 =>
 bif (!(rt r23 0).b) then
 some [(T.bool false)]
 else
 obind (C F_laws_markKeptS [(rt r11 0), (T.int (1 : Int))]) fun r24 =>
 obind (C F_laws_heldKeptS [(rt (r24.drop 1) 0), (T.int (1 : Int))]) fun r25 =>
 bif (decide ((rt r25 0).i < (0 : Int))) then
 some [(T.bool false)]
 else
 bif ((rt r25 0).i != (rt r24 0).i) then
 some [(T.bool false)]
 else
 obind (C F_laws_toRecordSS [a0]) fun r26 =>
 obind (C F_laws_toKeptS [a1]) fun r27 =>
 obind (C F_laws_toValue [a3]) fun r28 =>
 obind (C F_impl_VaultsPut [(rt r26 0), (rt r27 0), a2, (T.st [((rt r28 0).fld 0), ((rt r28 0).fld 1), ((rt r28 0).fld 2), ((rt r28 0).fld 3)])]) fun r29 =>
 obind (C F_laws_eqKeptS [(rt r29 0), (rt r7 0)]) fun r30 =>
 bif (!(rt r30 0).b) then
 some [(T.bool false)]
 else
 bif (!((rt r29 1).b == (rt r7 1).b)) then
 some [(T.bool false)]
 else
 obind (C F_laws_heldKeptS [(rt (r24.drop 1) 0), (T.int (1 : Int))]) fun r31 =>
 bif (decide ((rt r31 0).i < (0 : Int))) then
 some [(T.bool false)]
 else
 bif ((rt r31 0).i != (rt r24 0).i) then
 some [(T.bool false)]
 else
 some [(T.bool true)]
theorem e_laws_FnExactVaultsPut (H : List Item → CS → R) (C : CallsE) (a0 a1 a2 a3 : T) : enterE fi_laws_FnExactVaultsPut env H C [a0, a1, a2, a3] =
 obind (C F_laws_szRecordSS [a0, (T.int (1048576 : Int))]) fun r1 =>
 bif (decide ((rt r1 0).i < (0 : Int))) then
 some [(T.bool true)]
 else
 obind (C F_laws_szKeptS [a1, (rt r1 0)]) fun r2 =>
 bif (decide ((rt r2 0).i < (0 : Int))) then
 some [(T.bool true)]
 else
 obind (C F_laws_szValue [a3, (rt r2 0)]) fun r3 =>
 bif (decide ((rt r3 0).i < (0 : Int))) then
 some [(T.bool true)]
 else
 obind (C F_laws_toRecordSS [a0]) fun r4 =>
 obind (C F_laws_toKeptS [a1]) fun r5 =>
 obind (C F_laws_toValue [a3]) fun r6 =>
 obind (C F_spec_VaultsPut [(rt r4 0), (rt r5 0), a2, (rt r6 0)]) fun r7 =>
 obind (C F_laws_toRecordSS [a0]) fun r8 =>
 obind (C F_laws_toKeptS [a1]) fun r9 =>
 obind (C F_laws_toValue [a3]) fun r10 =>
 obind (C F_impl_VaultsPut [(rt r8 0), (rt r9 0), a2, (T.st [((rt r10 0).fld 0), ((rt r10 0).fld 1), ((rt r10 0).fld 2), ((rt r10 0).fld 3)])]) fun r11 =>
 obind (C F_laws_eqKeptS [(rt r11 0), (rt r7 0)]) fun r12 =>
 bif ((!((!(rt r12 0).b) == false)) || true) then
 bif ((!((!(rt r12 0).b) == false)) || true) then
 bif ((!((!(rt r12 0).b) == false)) || (((!(rt r12 0).b) == false) && ((!(rt r12 0).b) == false))) then
 bif (bif (!(rt r12 0).b) then true else ((!(rt r12 0).b) == false)) then
 bif (bif (!(rt r12 0).b) then (T.bool true) else (T.bool (!((rt r11 1).b == (rt r7 1).b)))).b then
 some [(T.bool false)]
 else
 obind (C F_laws_toRecordSS [a0]) fun r13 =>
 obind (C F_laws_eqRecordSS [(rt r8 0), (rt r13 0)]) fun r14 =>
 bif (!(rt r14 0).b) then
 some [(T.bool false)]
 else
 obind (C F_laws_toKeptS [a1]) fun r15 =>
 obind (C F_laws_eqKeptS [(rt r9 0), (rt r15 0)]) fun r16 =>
 bif (!(rt r16 0).b) then
 some [(T.bool false)]
 else
 obind (C F_laws_toValue [a3]) fun r17 =>
 obind (C F_laws_eqValue [(T.st [((rt r10 0).fld 0), ((rt r10 0).fld 1), ((rt r10 0).fld 2), ((rt r10 0).fld 3)]), (T.st [((rt r17 0).fld 0), ((rt r17 0).fld 1), ((rt r17 0).fld 2), ((rt r17 0).fld 3)])]) fun r18 =>
 bif (!(rt r18 0).b) then
 some [(T.bool false)]
 else
 obind (C F_laws_markRecordSS [(rt r8 0), (T.int (1 : Int))]) fun r19 =>
 obind (C F_laws_markKeptS [(rt r9 0), (rt r19 0)]) fun r20 =>
 obind (C F_laws_markValueS [((rt r10 0).fld 2), (rt r20 0)]) fun r21 =>
 obind (C F_laws_markIntS [((rt r10 0).fld 3), (rt r21 0)]) fun r22 =>
 bif ((!((decide ((rt r22 0).i < (0 : Int))) == false)) || true) then
 bif ((!((decide ((rt r22 0).i < (0 : Int))) == false)) || true) then
 bif ((!((decide ((rt r22 0).i < (0 : Int))) == false)) || (((decide ((rt r22 0).i < (0 : Int))) == false) && (((decide ((rt r22 0).i < (0 : Int))) == false) && true))) then
 obind ((bif ((decide ((rt r22 0).i < (0 : Int))) == false) then C F_laws_eqKeptS [(rt r11 0), (rt r7 0)] else some [])) fun r23 =>
 bif ((!((decide ((rt r22 0).i < (0 : Int))) == false)) || ((decide ((rt r22 0).i < (0 : Int))) == false)) then
 bif (bif (decide ((rt r22 0).i < (0 : Int))) then true else ((decide ((rt r22 0).i < (0 : Int))) == false)) then
 bif ((!((bif (decide ((rt r22 0).i < (0 : Int))) then (T.bool true) else (T.bool (!(rt r23 0).b))).b == false)) || true) then
 bif ((!((bif (decide ((rt r22 0).i < (0 : Int))) then (T.bool true) else (T.bool (!(rt r23 0).b))).b == false)) || true) then
 bif ((!((bif (decide ((rt r22 0).i < (0 : Int))) then (T.bool true) else (T.bool (!(rt r23 0).b))).b == false)) || (((bif (decide ((rt r22 0).i < (0 : Int))) then (T.bool true) else (T.bool (!(rt r23 0).b))).b == false) && ((bif (decide ((rt r22 0).i < (0 : Int))) then (T.bool true) else (T.bool (!(rt r23 0).b))).b == false))) then
 bif (bif (bif (decide ((rt r22 0).i < (0 : Int))) then (T.bool true) else (T.bool (!(rt r23 0).b))).b then true else ((bif (decide ((rt r22 0).i < (0 : Int))) then (T.bool true) else (T.bool (!(rt r23 0).b))).b == false)) then
 bif (bif (bif (decide ((rt r22 0).i < (0 : Int))) then (T.bool true) else (T.bool (!(rt r23 0).b))).b then (T.bool true) else (T.bool (!((rt r11 1).b == (rt r7 1).b)))).b then
 some [(T.bool false)]
 else
 obind (C F_laws_markKeptS [(rt r11 0), (T.int (1 : Int))]) fun r24 =>
 obind (C F_laws_heldKeptS [(rt (r24.drop 1) 0), (T.int (1 : Int))]) fun r25 =>
 bif (decide ((rt r25 0).i < (0 : Int))) then
 some [(T.bool false)]
 else
 bif ((rt r25 0).i != (rt r24 0).i) then
 some [(T.bool false)]
 else
 obind (C F_laws_toRecordSS [a0]) fun r26 =>
 obind (C F_laws_toKeptS [a1]) fun r27 =>
 obind (C F_laws_toValue [a3]) fun r28 =>
 obind (C F_impl_VaultsPut [(rt r26 0), (rt r27 0), a2, (T.st [((rt r28 0).fld 0), ((rt r28 0).fld 1), ((rt r28 0).fld 2), ((rt r28 0).fld 3)])]) fun r29 =>
 obind (C F_laws_eqKeptS [(rt r29 0), (rt r7 0)]) fun r30 =>
 bif ((!((!(rt r30 0).b) == false)) || true) then
 bif ((!((!(rt r30 0).b) == false)) || true) then
 bif ((!((!(rt r30 0).b) == false)) || (((!(rt r30 0).b) == false) && ((!(rt r30 0).b) == false))) then
 bif (bif (!(rt r30 0).b) then true else ((!(rt r30 0).b) == false)) then
 bif (bif (!(rt r30 0).b) then (T.bool true) else (T.bool (!((rt r29 1).b == (rt r7 1).b)))).b then
 some [(T.bool false)]
 else
 obind (C F_laws_heldKeptS [(rt (r24.drop 1) 0), (T.int (1 : Int))]) fun r31 =>
 bif (decide ((rt r31 0).i < (0 : Int))) then
 some [(T.bool false)]
 else
 bif ((rt r31 0).i != (rt r24 0).i) then
 some [(T.bool false)]
 else
 some [(T.bool true)]
 else
 none
 else
 none
 else
 none
 else
 none
 else
 none
 else
 none
 else
 none
 else
 none
 else
 none
 else
 none
 else
 none
 else
 none
 else
 none
 else
 none
 else
 none
 else
 none
 else
 none := by kernel_rfl
theorem q_laws_FnExactVaultsPut (H : List Item → CS → R) (C : CallsE) (a0 a1 a2 a3 : T) : enterE fi_laws_FnExactVaultsPut env H C [a0, a1, a2, a3] = b_laws_FnExactVaultsPut H C a0 a1 a2 a3 := by
 refine (e_laws_FnExactVaultsPut H C a0 a1 a2 a3).trans ?_
 unfold b_laws_FnExactVaultsPut
 all_goals refine obind_congr fun r1 => ?_
 all_goals try simp only [bs]
 all_goals cases hc : ((decide ((rt r1 0).i < (0 : Int)))) with
 | true =>
  try simp only [bs]
  all_goals kernel_rfl
 | false =>
  try simp only [bs]
  all_goals refine obind_congr fun r2 => ?_
  all_goals try simp only [bs]
  all_goals cases hc : ((decide ((rt r2 0).i < (0 : Int)))) with
  | true =>
   try simp only [bs]
   all_goals kernel_rfl
  | false =>
   try simp only [bs]
   all_goals refine obind_congr fun r3 => ?_
   all_goals try simp only [bs]
   all_goals cases hc : ((decide ((rt r3 0).i < (0 : Int)))) with
   | true =>
    try simp only [bs]
    all_goals kernel_rfl
   | false =>
    try simp only [bs]
    all_goals refine obind_congr fun r4 => ?_
    all_goals try simp only [bs]
    all_goals refine obind_congr fun r5 => ?_
    all_goals try simp only [bs]
    all_goals refine obind_congr fun r6 => ?_
    all_goals try simp only [bs]
    all_goals refine obind_congr fun r7 => ?_
    all_goals try simp only [bs]
    all_goals refine obind_congr fun r8 => ?_
    all_goals try simp only [bs]
    all_goals refine obind_congr fun r9 => ?_
    all_goals try simp only [bs]
    all_goals refine obind_congr fun r10 => ?_
    all_goals try simp only [bs]
    all_goals refine obind_congr fun r11 => ?_
    all_goals try simp only [bs]
    all_goals refine obind_congr fun r12 => ?_
    all_goals try simp only [bs]
    all_goals cases hc : ((!(rt r12 0).b)) with
    | true =>
     try simp only [bs]
     all_goals kernel_rfl
    | false =>
     try simp only [bs]
     all_goals cases hc : ((!((rt r11 1).b == (rt r7 1).b))) with
     | true =>
      try simp only [bs]
      all_goals kernel_rfl
     | false =>
      try simp only [bs]
      all_goals refine obind_congr fun r13 => ?_
      all_goals try simp only [bs]
      all_goals refine obind_congr fun r14 => ?_
      all_goals try simp only [bs]
      all_goals cases hc : ((!(rt r14 0).b)) with
      | true =>
       try simp only [bs]
       all_goals kernel_rfl
      | false =>
       try simp only [bs]
       all_goals refine obind_congr fun r15 => ?_
       all_goals try simp only [bs]
       all_goals refine obind_congr fun r16 => ?_
       all_goals try simp only [bs]
       all_goals cases hc : ((!(rt r16 0).b)) with
       | true =>
        try simp only [bs]
        all_goals kernel_rfl
       | false =>
        try simp only [bs]
        all_goals refine obind_congr fun r17 => ?_
        all_goals try simp only [bs]
        all_goals refine obind_congr fun r18 => ?_
        all_goals try simp only [bs]
        all_goals cases hc : ((!(rt r18 0).b)) with
        | true =>
         try simp only [bs]
         all_goals kernel_rfl
        | false =>
         try simp only [bs]
         all_goals refine obind_congr fun r19 => ?_
         all_goals try simp only [bs]
         all_goals refine obind_congr fun r20 => ?_
         all_goals try simp only [bs]
         all_goals refine obind_congr fun r21 => ?_
         all_goals try simp only [bs]
         all_goals refine obind_congr fun r22 => ?_
         all_goals try simp only [bs]
         all_goals cases hc : ((decide ((rt r22 0).i < (0 : Int)))) with
         | true =>
          try simp only [bs]
          all_goals kernel_rfl
         | false =>
          try simp only [bs]
          all_goals refine obind_congr fun r23 => ?_
          all_goals try simp only [bs]
          all_goals cases hc : ((!(rt r23 0).b)) with
          | true =>
           try simp only [bs]
           all_goals kernel_rfl
          | false =>
           try simp only [bs]
           all_goals refine obind_congr fun r24 => ?_
           all_goals try simp only [bs]
           all_goals refine obind_congr fun r25 => ?_
           all_goals try simp only [bs]
           all_goals cases hc : ((decide ((rt r25 0).i < (0 : Int)))) with
           | true =>
            try simp only [bs]
            all_goals kernel_rfl
           | false =>
            try simp only [bs]
            all_goals cases hc : (((rt r25 0).i != (rt r24 0).i)) with
            | true =>
             try simp only [bs]
             all_goals kernel_rfl
            | false =>
             try simp only [bs]
             all_goals refine obind_congr fun r26 => ?_
             all_goals try simp only [bs]
             all_goals refine obind_congr fun r27 => ?_
             all_goals try simp only [bs]
             all_goals refine obind_congr fun r28 => ?_
             all_goals try simp only [bs]
             all_goals refine obind_congr fun r29 => ?_
             all_goals try simp only [bs]
             all_goals refine obind_congr fun r30 => ?_
             all_goals try simp only [bs]
             all_goals cases hc : ((!(rt r30 0).b)) with
             | true =>
              try simp only [bs]
              all_goals kernel_rfl
             | false =>
              try simp only [bs]
              all_goals cases hc : ((!((rt r29 1).b == (rt r7 1).b))) with
              | true =>
               try simp only [bs]
               all_goals kernel_rfl
              | false =>
               try simp only [bs]
               all_goals refine obind_congr fun r31 => ?_
               all_goals try simp only [bs]
               all_goals cases hc : ((decide ((rt r31 0).i < (0 : Int)))) with
               | true =>
                try simp only [bs]
                all_goals kernel_rfl
               | false =>
                try simp only [bs]
                all_goals cases hc : (((rt r31 0).i != (rt r24 0).i)) with
                | true =>
                 try simp only [bs]
                 all_goals kernel_rfl
                | false =>
                 try simp only [bs]
                 all_goals kernel_rfl
theorem y_laws_FnExactVaultsPut (a0 a1 a2 a3 : T) {r : List T} (h : Yields (fun k => b_laws_FnExactVaultsPut (hl env k fi_laws_FnExactVaultsPut) (cl env k) a0 a1 a2 a3) r) : Yields (fun k => cl env k F_laws_FnExactVaultsPut [a0, a1, a2, a3]) r := Yields.call (fi := fi_laws_FnExactVaultsPut) rfl (fun H C => q_laws_FnExactVaultsPut H C a0 a1 a2 a3) h
noncomputable def l_laws_szRecordSS_0 (H : List Item → CS → R) (x1 : T) (x2 : T) (x3 : T) : R := H (hdAt fi_laws_szRecordSS.body 0) ([(0, .val 22 x1), (1, .val 3 x2), (5, .val 3 x3)], [])
/- loop.example/heirlooms/laws.szRecordSS -/
noncomputable abbrev b_laws_szRecordSS (H : List Item → CS → R) (C : CallsE) (a0 a1 : T) : R :=
 bif (decide ((IntKind.wrap .i64 (a1.i - (a0.es.length : Int))) < (0 : Int))) then
 some [(T.int (-1 : Int))]
 else
 l_laws_szRecordSS_0 H a0 (T.int (IntKind.wrap .i64 (a1.i - (a0.es.length : Int)))) (T.int (0 : Int))
theorem q_laws_szRecordSS (H : List Item → CS → R) (C : CallsE) (a0 a1 : T) : enterE fi_laws_szRecordSS env H C [a0, a1] = b_laws_szRecordSS H C a0 a1 := by kernel_rfl
theorem y_laws_szRecordSS (a0 a1 : T) {r : List T} (h : Yields (fun k => b_laws_szRecordSS (hl env k fi_laws_szRecordSS) (cl env k) a0 a1) r) : Yields (fun k => cl env k F_laws_szRecordSS [a0, a1]) r := Yields.call (fi := fi_laws_szRecordSS) rfl (fun H C => q_laws_szRecordSS H C a0 a1) h
noncomputable abbrev b_laws_szRecordSS_0 (H : List Item → CS → R) (C : CallsE) (x1 : T) (x2 : T) (x3 : T) : R :=
 bif (decide (x3.i < (x1.es.length : Int))) then
 bif (decide (0 ≤ x3.i) && decide (x3.i.toNat < x1.es.length)) then
 obind (C F_laws_szRecordS [(x1.nth x3.i.toNat), x2]) fun r1 =>
 bif (decide ((rt r1 0).i < (0 : Int))) then
 some [(T.int (-1 : Int))]
 else
 l_laws_szRecordSS_0 H x1 (rt r1 0) (T.int (IntKind.wrap .i64 (x3.i + (1 : Int))))
 else
 none
 else
 some [x2]
theorem q_laws_szRecordSS_0 (H : List Item → CS → R) (C : CallsE) (x1 : T) (x2 : T) (x3 : T) : headE fi_laws_szRecordSS env H C (hdAt fi_laws_szRecordSS.body 0) ([(0, .val 22 x1), (1, .val 3 x2), (5, .val 3 x3)], []) = b_laws_szRecordSS_0 H C x1 x2 x3 := by kernel_rfl
theorem y_laws_szRecordSS_0 (x1 : T) (x2 : T) (x3 : T) {r : List T} (h : Yields (fun k => b_laws_szRecordSS_0 (hl env k fi_laws_szRecordSS) (cl env k) x1 x2 x3) r) : Yields (fun k => l_laws_szRecordSS_0 (hl env k fi_laws_szRecordSS) x1 x2 x3) r := Yields.head (fun H C => q_laws_szRecordSS_0 H C x1 x2 x3) h
noncomputable def l_laws_szKeptS_0 (H : List Item → CS → R) (x1 : T) (x2 : T) (x3 : T) : R := H (hdAt fi_laws_szKeptS.body 0) ([(0, .val 23 x1), (1, .val 3 x2), (5, .val 3 x3)], [])
/- loop.example/heirlooms/laws.szKeptS -/
noncomputable abbrev b_laws_szKeptS (H : List Item → CS → R) (C : CallsE) (a0 a1 : T) : R :=
 bif (decide ((IntKind.wrap .i64 (a1.i - (a0.es.length : Int))) < (0 : Int))) then
 some [(T.int (-1 : Int))]
 else
 l_laws_szKeptS_0 H a0 (T.int (IntKind.wrap .i64 (a1.i - (a0.es.length : Int)))) (T.int (0 : Int))
theorem q_laws_szKeptS (H : List Item → CS → R) (C : CallsE) (a0 a1 : T) : enterE fi_laws_szKeptS env H C [a0, a1] = b_laws_szKeptS H C a0 a1 := by kernel_rfl
theorem y_laws_szKeptS (a0 a1 : T) {r : List T} (h : Yields (fun k => b_laws_szKeptS (hl env k fi_laws_szKeptS) (cl env k) a0 a1) r) : Yields (fun k => cl env k F_laws_szKeptS [a0, a1]) r := Yields.call (fi := fi_laws_szKeptS) rfl (fun H C => q_laws_szKeptS H C a0 a1) h
noncomputable abbrev b_laws_szKeptS_0 (H : List Item → CS → R) (C : CallsE) (x1 : T) (x2 : T) (x3 : T) : R :=
 bif (decide (x3.i < (x1.es.length : Int))) then
 bif (decide (0 ≤ x3.i) && decide (x3.i.toNat < x1.es.length)) then
 obind (C F_laws_szKept [(x1.nth x3.i.toNat), x2]) fun r1 =>
 bif (decide ((rt r1 0).i < (0 : Int))) then
 some [(T.int (-1 : Int))]
 else
 l_laws_szKeptS_0 H x1 (rt r1 0) (T.int (IntKind.wrap .i64 (x3.i + (1 : Int))))
 else
 none
 else
 some [x2]
theorem q_laws_szKeptS_0 (H : List Item → CS → R) (C : CallsE) (x1 : T) (x2 : T) (x3 : T) : headE fi_laws_szKeptS env H C (hdAt fi_laws_szKeptS.body 0) ([(0, .val 23 x1), (1, .val 3 x2), (5, .val 3 x3)], []) = b_laws_szKeptS_0 H C x1 x2 x3 := by kernel_rfl
theorem y_laws_szKeptS_0 (x1 : T) (x2 : T) (x3 : T) {r : List T} (h : Yields (fun k => b_laws_szKeptS_0 (hl env k fi_laws_szKeptS) (cl env k) x1 x2 x3) r) : Yields (fun k => l_laws_szKeptS_0 (hl env k fi_laws_szKeptS) x1 x2 x3) r := Yields.head (fun H C => q_laws_szKeptS_0 H C x1 x2 x3) h
noncomputable def l_laws_toRecordSS_0 (H : List Item → CS → R) (x1 : T) (x2 : T) (x3 : T) : R := H (hdAt fi_laws_toRecordSS.body 0) ([(0, .val 22 x1), (3, .sref 27 3 []), (4, .val 3 x2)], [(3, ⟨27, x3, .dp, false⟩)])
/- loop.example/heirlooms/laws.toRecordSS -/
noncomputable abbrev b_laws_toRecordSS (H : List Item → CS → R) (C : CallsE) (a0 : T) : R :=
 bif (decide (0 ≤ (a0.es.length : Int)) && (decide ((a0.es.length : Int) ≤ (a0.es.length : Int)) && decide (a0.es.length ≤ LIM))) then
 l_laws_toRecordSS_0 H a0 (T.int (0 : Int)) (T.sl (List.replicate a0.es.length (T.sl [])))
 else
 none
theorem q_laws_toRecordSS (H : List Item → CS → R) (C : CallsE) (a0 : T) : enterE fi_laws_toRecordSS env H C [a0] = b_laws_toRecordSS H C a0 := by kernel_rfl
theorem y_laws_toRecordSS (a0 : T) {r : List T} (h : Yields (fun k => b_laws_toRecordSS (hl env k fi_laws_toRecordSS) (cl env k) a0) r) : Yields (fun k => cl env k F_laws_toRecordSS [a0]) r := Yields.call (fi := fi_laws_toRecordSS) rfl (fun H C => q_laws_toRecordSS H C a0) h
noncomputable abbrev b_laws_toRecordSS_0 (H : List Item → CS → R) (C : CallsE) (x1 : T) (x2 : T) (x3 : T) : R :=
 bif (decide (x2.i < (x1.es.length : Int))) then
 bif (decide (0 ≤ x2.i) && decide (x2.i.toNat < x1.es.length)) then
 obind (C F_laws_toRecordS [(x1.nth x2.i.toNat)]) fun r1 =>
 bif (decide (0 ≤ x2.i) && decide (x2.i.toNat < x3.es.length)) then
 l_laws_toRecordSS_0 H x1 (T.int (IntKind.wrap .i64 (x2.i + (1 : Int)))) (T.sl (x3.es.set x2.i.toNat (rt r1 0)))
 else
 none
 else
 none
 else
 some [x3]
theorem q_laws_toRecordSS_0 (H : List Item → CS → R) (C : CallsE) (x1 : T) (x2 : T) (x3 : T) : headE fi_laws_toRecordSS env H C (hdAt fi_laws_toRecordSS.body 0) ([(0, .val 22 x1), (3, .sref 27 3 []), (4, .val 3 x2)], [(3, ⟨27, x3, .dp, false⟩)]) = b_laws_toRecordSS_0 H C x1 x2 x3 := by kernel_rfl
theorem y_laws_toRecordSS_0 (x1 : T) (x2 : T) (x3 : T) {r : List T} (h : Yields (fun k => b_laws_toRecordSS_0 (hl env k fi_laws_toRecordSS) (cl env k) x1 x2 x3) r) : Yields (fun k => l_laws_toRecordSS_0 (hl env k fi_laws_toRecordSS) x1 x2 x3) r := Yields.head (fun H C => q_laws_toRecordSS_0 H C x1 x2 x3) h
noncomputable def l_laws_toKeptS_0 (H : List Item → CS → R) (x1 : T) (x2 : T) (x3 : T) : R := H (hdAt fi_laws_toKeptS.body 0) ([(0, .val 23 x1), (3, .sref 29 3 []), (4, .val 3 x2)], [(3, ⟨29, x3, .dp, false⟩)])
/- loop.example/heirlooms/laws.toKeptS -/
noncomputable abbrev b_laws_toKeptS (H : List Item → CS → R) (C : CallsE) (a0 : T) : R :=
 bif (decide (0 ≤ (a0.es.length : Int)) && (decide ((a0.es.length : Int) ≤ (a0.es.length : Int)) && decide (a0.es.length ≤ LIM))) then
 l_laws_toKeptS_0 H a0 (T.int (0 : Int)) (T.sl (List.replicate a0.es.length (T.st [(T.int (0 : Int)), (T.st [(T.str (⟨#[]⟩ : ByteArray)), (T.int (0 : Int)), (T.sl []), (T.sl [])])])))
 else
 none
theorem q_laws_toKeptS (H : List Item → CS → R) (C : CallsE) (a0 : T) : enterE fi_laws_toKeptS env H C [a0] = b_laws_toKeptS H C a0 := by kernel_rfl
theorem y_laws_toKeptS (a0 : T) {r : List T} (h : Yields (fun k => b_laws_toKeptS (hl env k fi_laws_toKeptS) (cl env k) a0) r) : Yields (fun k => cl env k F_laws_toKeptS [a0]) r := Yields.call (fi := fi_laws_toKeptS) rfl (fun H C => q_laws_toKeptS H C a0) h
noncomputable abbrev b_laws_toKeptS_0 (H : List Item → CS → R) (C : CallsE) (x1 : T) (x2 : T) (x3 : T) : R :=
 bif (decide (x2.i < (x1.es.length : Int))) then
 bif (decide (0 ≤ x2.i) && decide (x2.i.toNat < x1.es.length)) then
 obind (C F_laws_toKept [(x1.nth x2.i.toNat)]) fun r1 =>
 bif (decide (0 ≤ x2.i) && decide (x2.i.toNat < x3.es.length)) then
 l_laws_toKeptS_0 H x1 (T.int (IntKind.wrap .i64 (x2.i + (1 : Int)))) (T.sl (x3.es.set x2.i.toNat (T.st [((rt r1 0).fld 0), (T.st [(((rt r1 0).fld 1).fld 0), (((rt r1 0).fld 1).fld 1), (((rt r1 0).fld 1).fld 2), (((rt r1 0).fld 1).fld 3)])])))
 else
 none
 else
 none
 else
 some [x3]
theorem q_laws_toKeptS_0 (H : List Item → CS → R) (C : CallsE) (x1 : T) (x2 : T) (x3 : T) : headE fi_laws_toKeptS env H C (hdAt fi_laws_toKeptS.body 0) ([(0, .val 23 x1), (3, .sref 29 3 []), (4, .val 3 x2)], [(3, ⟨29, x3, .dp, false⟩)]) = b_laws_toKeptS_0 H C x1 x2 x3 := by kernel_rfl
theorem y_laws_toKeptS_0 (x1 : T) (x2 : T) (x3 : T) {r : List T} (h : Yields (fun k => b_laws_toKeptS_0 (hl env k fi_laws_toKeptS) (cl env k) x1 x2 x3) r) : Yields (fun k => l_laws_toKeptS_0 (hl env k fi_laws_toKeptS) x1 x2 x3) r := Yields.head (fun H C => q_laws_toKeptS_0 H C x1 x2 x3) h
noncomputable def l_laws_eqRecordSS_0 (H : List Item → CS → R) (x1 : T) (x2 : T) (x3 : T) : R := H (hdAt fi_laws_eqRecordSS.body 0) ([(0, .val 27 x1), (1, .val 27 x2), (5, .val 3 x3)], [])
/- loop.example/heirlooms/laws.eqRecordSS -/
noncomputable abbrev b_laws_eqRecordSS (H : List Item → CS → R) (C : CallsE) (a0 a1 : T) : R :=
 bif ((a0.es.length : Int) != (a1.es.length : Int)) then
 some [(T.bool false)]
 else
 l_laws_eqRecordSS_0 H a0 a1 (T.int (0 : Int))
theorem q_laws_eqRecordSS (H : List Item → CS → R) (C : CallsE) (a0 a1 : T) : enterE fi_laws_eqRecordSS env H C [a0, a1] = b_laws_eqRecordSS H C a0 a1 := by kernel_rfl
theorem y_laws_eqRecordSS (a0 a1 : T) {r : List T} (h : Yields (fun k => b_laws_eqRecordSS (hl env k fi_laws_eqRecordSS) (cl env k) a0 a1) r) : Yields (fun k => cl env k F_laws_eqRecordSS [a0, a1]) r := Yields.call (fi := fi_laws_eqRecordSS) rfl (fun H C => q_laws_eqRecordSS H C a0 a1) h
noncomputable abbrev b_laws_eqRecordSS_0 (H : List Item → CS → R) (C : CallsE) (x1 : T) (x2 : T) (x3 : T) : R :=
 bif (decide (x3.i < (x1.es.length : Int))) then
 bif (decide (0 ≤ x3.i) && decide (x3.i.toNat < x1.es.length)) then
 bif (decide (0 ≤ x3.i) && decide (x3.i.toNat < x2.es.length)) then
 obind (C F_laws_eqRecordS [(x1.nth x3.i.toNat), (x2.nth x3.i.toNat)]) fun r1 =>
 bif (!(rt r1 0).b) then
 some [(T.bool false)]
 else
 l_laws_eqRecordSS_0 H x1 x2 (T.int (IntKind.wrap .i64 (x3.i + (1 : Int))))
 else
 none
 else
 none
 else
 some [(T.bool true)]
theorem q_laws_eqRecordSS_0 (H : List Item → CS → R) (C : CallsE) (x1 : T) (x2 : T) (x3 : T) : headE fi_laws_eqRecordSS env H C (hdAt fi_laws_eqRecordSS.body 0) ([(0, .val 27 x1), (1, .val 27 x2), (5, .val 3 x3)], []) = b_laws_eqRecordSS_0 H C x1 x2 x3 := by kernel_rfl
theorem y_laws_eqRecordSS_0 (x1 : T) (x2 : T) (x3 : T) {r : List T} (h : Yields (fun k => b_laws_eqRecordSS_0 (hl env k fi_laws_eqRecordSS) (cl env k) x1 x2 x3) r) : Yields (fun k => l_laws_eqRecordSS_0 (hl env k fi_laws_eqRecordSS) x1 x2 x3) r := Yields.head (fun H C => q_laws_eqRecordSS_0 H C x1 x2 x3) h
noncomputable def l_laws_eqKeptS_0 (H : List Item → CS → R) (x1 : T) (x2 : T) (x3 : T) : R := H (hdAt fi_laws_eqKeptS.body 0) ([(0, .val 29 x1), (1, .val 29 x2), (5, .val 3 x3)], [])
/- loop.example/heirlooms/laws.eqKeptS -/
noncomputable abbrev b_laws_eqKeptS (H : List Item → CS → R) (C : CallsE) (a0 a1 : T) : R :=
 bif ((a0.es.length : Int) != (a1.es.length : Int)) then
 some [(T.bool false)]
 else
 l_laws_eqKeptS_0 H a0 a1 (T.int (0 : Int))
theorem q_laws_eqKeptS (H : List Item → CS → R) (C : CallsE) (a0 a1 : T) : enterE fi_laws_eqKeptS env H C [a0, a1] = b_laws_eqKeptS H C a0 a1 := by kernel_rfl
theorem y_laws_eqKeptS (a0 a1 : T) {r : List T} (h : Yields (fun k => b_laws_eqKeptS (hl env k fi_laws_eqKeptS) (cl env k) a0 a1) r) : Yields (fun k => cl env k F_laws_eqKeptS [a0, a1]) r := Yields.call (fi := fi_laws_eqKeptS) rfl (fun H C => q_laws_eqKeptS H C a0 a1) h
noncomputable abbrev b_laws_eqKeptS_0 (H : List Item → CS → R) (C : CallsE) (x1 : T) (x2 : T) (x3 : T) : R :=
 bif (decide (x3.i < (x1.es.length : Int))) then
 bif (decide (0 ≤ x3.i) && decide (x3.i.toNat < x1.es.length)) then
 bif (decide (0 ≤ x3.i) && decide (x3.i.toNat < x2.es.length)) then
 obind (C F_laws_eqKept [(x1.nth x3.i.toNat), (x2.nth x3.i.toNat)]) fun r1 =>
 bif (!(rt r1 0).b) then
 some [(T.bool false)]
 else
 l_laws_eqKeptS_0 H x1 x2 (T.int (IntKind.wrap .i64 (x3.i + (1 : Int))))
 else
 none
 else
 none
 else
 some [(T.bool true)]
theorem q_laws_eqKeptS_0 (H : List Item → CS → R) (C : CallsE) (x1 : T) (x2 : T) (x3 : T) : headE fi_laws_eqKeptS env H C (hdAt fi_laws_eqKeptS.body 0) ([(0, .val 29 x1), (1, .val 29 x2), (5, .val 3 x3)], []) = b_laws_eqKeptS_0 H C x1 x2 x3 := by kernel_rfl
theorem y_laws_eqKeptS_0 (x1 : T) (x2 : T) (x3 : T) {r : List T} (h : Yields (fun k => b_laws_eqKeptS_0 (hl env k fi_laws_eqKeptS) (cl env k) x1 x2 x3) r) : Yields (fun k => l_laws_eqKeptS_0 (hl env k fi_laws_eqKeptS) x1 x2 x3) r := Yields.head (fun H C => q_laws_eqKeptS_0 H C x1 x2 x3) h
/- loop.example/heirlooms/laws.eqValue -/
noncomputable abbrev b_laws_eqValue (H : List Item → CS → R) (C : CallsE) (a0 a1 : T) : R :=
 bif (!(((a0.fld 0).s).toList == ((a1.fld 0).s).toList)) then
 some [(T.bool false)]
 else
 bif ((a0.fld 1).i != (a1.fld 1).i) then
 some [(T.bool false)]
 else
 obind (C F_laws_eqValueS [(a0.fld 2), (a1.fld 2)]) fun r1 =>
 bif (!(rt r1 0).b) then
 some [(T.bool false)]
 else
 obind (C F_laws_eqIntS [(a0.fld 3), (a1.fld 3)]) fun r2 =>
 bif (!(rt r2 0).b) then
 some [(T.bool false)]
 else
 some [(T.bool true)]
theorem q_laws_eqValue (H : List Item → CS → R) (C : CallsE) (a0 a1 : T) : enterE fi_laws_eqValue env H C [a0, a1] = b_laws_eqValue H C a0 a1 := by kernel_rfl
theorem y_laws_eqValue (a0 a1 : T) {r : List T} (h : Yields (fun k => b_laws_eqValue (hl env k fi_laws_eqValue) (cl env k) a0 a1) r) : Yields (fun k => cl env k F_laws_eqValue [a0, a1]) r := Yields.call (fi := fi_laws_eqValue) rfl (fun H C => q_laws_eqValue H C a0 a1) h
noncomputable def l_laws_markRecordSS_0 (H : List Item → CS → R) (x1 : T) (x2 : T) (x3 : T) : R := H (hdAt fi_laws_markRecordSS.body 0) ([(0, .sref 27 100000 []), (1, .val 3 x1), (5, .val 3 x2)], [(100000, ⟨27, x3, .dp, false⟩)])
/- loop.example/heirlooms/laws.markRecordSS -/
noncomputable abbrev b_laws_markRecordSS (H : List Item → CS → R) (C : CallsE) (a0 a1 : T) : R :=
 l_laws_markRecordSS_0 H a1 (T.int (0 : Int)) a0
theorem q_laws_markRecordSS (H : List Item → CS → R) (C : CallsE) (a0 a1 : T) : enterE fi_laws_markRecordSS env H C [a0, a1] = b_laws_markRecordSS H C a0 a1 := by kernel_rfl
theorem y_laws_markRecordSS (a0 a1 : T) {r : List T} (h : Yields (fun k => b_laws_markRecordSS (hl env k fi_laws_markRecordSS) (cl env k) a0 a1) r) : Yields (fun k => cl env k F_laws_markRecordSS [a0, a1]) r := Yields.call (fi := fi_laws_markRecordSS) rfl (fun H C => q_laws_markRecordSS H C a0 a1) h
noncomputable abbrev b_laws_markRecordSS_0 (H : List Item → CS → R) (C : CallsE) (x1 : T) (x2 : T) (x3 : T) : R :=
 bif (decide (x2.i < (x3.es.length : Int))) then
 bif (decide (0 ≤ x2.i) && decide (x2.i.toNat < x3.es.length)) then
 obind (C F_laws_markRecordS [(x3.nth x2.i.toNat), x1]) fun r1 =>
 l_laws_markRecordSS_0 H (rt r1 0) (T.int (IntKind.wrap .i64 (x2.i + (1 : Int)))) (T.sl (x3.es.set x2.i.toNat (rt (r1.drop 1) 0)))
 else
 none
 else
 some [x1, x3]
theorem q_laws_markRecordSS_0 (H : List Item → CS → R) (C : CallsE) (x1 : T) (x2 : T) (x3 : T) : headE fi_laws_markRecordSS env H C (hdAt fi_laws_markRecordSS.body 0) ([(0, .sref 27 100000 []), (1, .val 3 x1), (5, .val 3 x2)], [(100000, ⟨27, x3, .dp, false⟩)]) = b_laws_markRecordSS_0 H C x1 x2 x3 := by kernel_rfl
theorem y_laws_markRecordSS_0 (x1 : T) (x2 : T) (x3 : T) {r : List T} (h : Yields (fun k => b_laws_markRecordSS_0 (hl env k fi_laws_markRecordSS) (cl env k) x1 x2 x3) r) : Yields (fun k => l_laws_markRecordSS_0 (hl env k fi_laws_markRecordSS) x1 x2 x3) r := Yields.head (fun H C => q_laws_markRecordSS_0 H C x1 x2 x3) h
noncomputable def l_laws_markKeptS_0 (H : List Item → CS → R) (x1 : T) (x2 : T) (x3 : T) : R := H (hdAt fi_laws_markKeptS.body 0) ([(0, .sref 29 100000 []), (1, .val 3 x1), (5, .val 3 x2)], [(100000, ⟨29, x3, .dp, false⟩)])
/- loop.example/heirlooms/laws.markKeptS -/
noncomputable abbrev b_laws_markKeptS (H : List Item → CS → R) (C : CallsE) (a0 a1 : T) : R :=
 l_laws_markKeptS_0 H a1 (T.int (0 : Int)) a0
theorem q_laws_markKeptS (H : List Item → CS → R) (C : CallsE) (a0 a1 : T) : enterE fi_laws_markKeptS env H C [a0, a1] = b_laws_markKeptS H C a0 a1 := by kernel_rfl
theorem y_laws_markKeptS (a0 a1 : T) {r : List T} (h : Yields (fun k => b_laws_markKeptS (hl env k fi_laws_markKeptS) (cl env k) a0 a1) r) : Yields (fun k => cl env k F_laws_markKeptS [a0, a1]) r := Yields.call (fi := fi_laws_markKeptS) rfl (fun H C => q_laws_markKeptS H C a0 a1) h
noncomputable abbrev b_laws_markKeptS_0 (H : List Item → CS → R) (C : CallsE) (x1 : T) (x2 : T) (x3 : T) : R :=
 bif (decide (x2.i < (x3.es.length : Int))) then
 bif (decide (0 ≤ x2.i) && decide (x2.i.toNat < x3.es.length)) then
 obind (C F_laws_markText [(T.int (IntKind.wrap .i64 (x1.i + (1 : Int))))]) fun r1 =>
 bif (decide (0 ≤ x2.i) && decide (x2.i.toNat < ((T.put x3 [.idx x2.i.toNat, .fld 0] x1).es).length)) then
 bif (decide (0 ≤ x2.i) && decide (x2.i.toNat < ((T.put (T.put x3 [.idx x2.i.toNat, .fld 0] x1) [.idx x2.i.toNat, .fld 1, .fld 0] (rt r1 0)).es).length)) then
 bif (decide (0 ≤ x2.i) && decide (x2.i.toNat < ((T.put (T.put (T.put x3 [.idx x2.i.toNat, .fld 0] x1) [.idx x2.i.toNat, .fld 1, .fld 0] (rt r1 0)) [.idx x2.i.toNat, .fld 1, .fld 1] (T.int (IntKind.wrap .i64 ((IntKind.wrap .i64 (x1.i + (1 : Int))) + (1 : Int))))).es).length)) then
 obind (C F_laws_markValueS [((((T.put (T.put (T.put x3 [.idx x2.i.toNat, .fld 0] x1) [.idx x2.i.toNat, .fld 1, .fld 0] (rt r1 0)) [.idx x2.i.toNat, .fld 1, .fld 1] (T.int (IntKind.wrap .i64 ((IntKind.wrap .i64 (x1.i + (1 : Int))) + (1 : Int))))).nth x2.i.toNat).fld 1).fld 2), (T.int (IntKind.wrap .i64 ((IntKind.wrap .i64 ((IntKind.wrap .i64 (x1.i + (1 : Int))) + (1 : Int))) + (1 : Int))))]) fun r2 =>
 bif (decide (0 ≤ x2.i) && decide (x2.i.toNat < ((T.put (T.put (T.put (T.put x3 [.idx x2.i.toNat, .fld 0] x1) [.idx x2.i.toNat, .fld 1, .fld 0] (rt r1 0)) [.idx x2.i.toNat, .fld 1, .fld 1] (T.int (IntKind.wrap .i64 ((IntKind.wrap .i64 (x1.i + (1 : Int))) + (1 : Int))))) [.idx x2.i.toNat, .fld 1, .fld 2] (rt (r2.drop 1) 0)).es).length)) then
 obind (C F_laws_markIntS [((((T.put (T.put (T.put (T.put x3 [.idx x2.i.toNat, .fld 0] x1) [.idx x2.i.toNat, .fld 1, .fld 0] (rt r1 0)) [.idx x2.i.toNat, .fld 1, .fld 1] (T.int (IntKind.wrap .i64 ((IntKind.wrap .i64 (x1.i + (1 : Int))) + (1 : Int))))) [.idx x2.i.toNat, .fld 1, .fld 2] (rt (r2.drop 1) 0)).nth x2.i.toNat).fld 1).fld 3), (rt r2 0)]) fun r3 =>
 l_laws_markKeptS_0 H (rt r3 0) (T.int (IntKind.wrap .i64 (x2.i + (1 : Int)))) (T.put (T.put (T.put (T.put (T.put x3 [.idx x2.i.toNat, .fld 0] x1) [.idx x2.i.toNat, .fld 1, .fld 0] (rt r1 0)) [.idx x2.i.toNat, .fld 1, .fld 1] (T.int (IntKind.wrap .i64 ((IntKind.wrap .i64 (x1.i + (1 : Int))) + (1 : Int))))) [.idx x2.i.toNat, .fld 1, .fld 2] (rt (r2.drop 1) 0)) [.idx x2.i.toNat, .fld 1, .fld 3] (rt (r3.drop 1) 0))
 else
 none
 else
 none
 else
 none
 else
 none
 else
 none
 else
 some [x1, x3]
theorem q_laws_markKeptS_0 (H : List Item → CS → R) (C : CallsE) (x1 : T) (x2 : T) (x3 : T) : headE fi_laws_markKeptS env H C (hdAt fi_laws_markKeptS.body 0) ([(0, .sref 29 100000 []), (1, .val 3 x1), (5, .val 3 x2)], [(100000, ⟨29, x3, .dp, false⟩)]) = b_laws_markKeptS_0 H C x1 x2 x3 := by kernel_rfl
theorem y_laws_markKeptS_0 (x1 : T) (x2 : T) (x3 : T) {r : List T} (h : Yields (fun k => b_laws_markKeptS_0 (hl env k fi_laws_markKeptS) (cl env k) x1 x2 x3) r) : Yields (fun k => l_laws_markKeptS_0 (hl env k fi_laws_markKeptS) x1 x2 x3) r := Yields.head (fun H C => q_laws_markKeptS_0 H C x1 x2 x3) h
/- loop.example/heirlooms/laws.szValue -/
noncomputable abbrev b_laws_szValue (H : List Item → CS → R) (C : CallsE) (a0 a1 : T) : R :=
 bif (decide ((IntKind.wrap .i64 (a1.i - (((a0.fld 0).s).size : Int))) < (0 : Int))) then
 some [(T.int (-1 : Int))]
 else
 obind (C F_laws_szValueS [(a0.fld 2), (T.int (IntKind.wrap .i64 (a1.i - (((a0.fld 0).s).size : Int))))]) fun r1 =>
 bif (decide ((rt r1 0).i < (0 : Int))) then
 some [(T.int (-1 : Int))]
 else
 obind (C F_laws_szIntS [(a0.fld 3), (rt r1 0)]) fun r2 =>
 bif (decide ((rt r2 0).i < (0 : Int))) then
 some [(T.int (-1 : Int))]
 else
 some [(rt r2 0)]
theorem q_laws_szValue (H : List Item → CS → R) (C : CallsE) (a0 a1 : T) : enterE fi_laws_szValue env H C [a0, a1] = b_laws_szValue H C a0 a1 := by kernel_rfl
theorem y_laws_szValue (a0 a1 : T) {r : List T} (h : Yields (fun k => b_laws_szValue (hl env k fi_laws_szValue) (cl env k) a0 a1) r) : Yields (fun k => cl env k F_laws_szValue [a0, a1]) r := Yields.call (fi := fi_laws_szValue) rfl (fun H C => q_laws_szValue H C a0 a1) h
/- loop.example/heirlooms/laws.toValue -/
noncomputable abbrev b_laws_toValue (H : List Item → CS → R) (C : CallsE) (a0 : T) : R :=
 obind (C F_laws_toValueS [(a0.fld 2)]) fun r1 =>
 obind (C F_laws_toIntS [(a0.fld 3)]) fun r2 =>
 some [(T.st [(a0.fld 0), (a0.fld 1), (rt r1 0), (rt r2 0)])]
theorem q_laws_toValue (H : List Item → CS → R) (C : CallsE) (a0 : T) : enterE fi_laws_toValue env H C [a0] = b_laws_toValue H C a0 := by kernel_rfl
theorem y_laws_toValue (a0 : T) {r : List T} (h : Yields (fun k => b_laws_toValue (hl env k fi_laws_toValue) (cl env k) a0) r) : Yields (fun k => cl env k F_laws_toValue [a0]) r := Yields.call (fi := fi_laws_toValue) rfl (fun H C => q_laws_toValue H C a0) h
noncomputable def l_laws_heldKeptS_0 (H : List Item → CS → R) (x1 : T) (x2 : T) (x3 : T) : R := H (hdAt fi_laws_heldKeptS.body 0) ([(0, .val 29 x1), (1, .val 3 x2), (5, .val 3 x3)], [])
/- loop.example/heirlooms/laws.heldKeptS -/
noncomputable abbrev b_laws_heldKeptS (H : List Item → CS → R) (C : CallsE) (a0 a1 : T) : R :=
 l_laws_heldKeptS_0 H a0 a1 (T.int (0 : Int))
theorem q_laws_heldKeptS (H : List Item → CS → R) (C : CallsE) (a0 a1 : T) : enterE fi_laws_heldKeptS env H C [a0, a1] = b_laws_heldKeptS H C a0 a1 := by kernel_rfl
theorem y_laws_heldKeptS (a0 a1 : T) {r : List T} (h : Yields (fun k => b_laws_heldKeptS (hl env k fi_laws_heldKeptS) (cl env k) a0 a1) r) : Yields (fun k => cl env k F_laws_heldKeptS [a0, a1]) r := Yields.call (fi := fi_laws_heldKeptS) rfl (fun H C => q_laws_heldKeptS H C a0 a1) h
noncomputable abbrev b_laws_heldKeptS_0 (H : List Item → CS → R) (C : CallsE) (x1 : T) (x2 : T) (x3 : T) : R :=
 bif (decide (x3.i < (x1.es.length : Int))) then
 bif (decide (0 ≤ x3.i) && decide (x3.i.toNat < x1.es.length)) then
 bif (((x1.nth x3.i.toNat).fld 0).i != x2.i) then
 some [(T.int (-1 : Int))]
 else
 obind (C F_laws_markText [(T.int (IntKind.wrap .i64 (x2.i + (1 : Int))))]) fun r1 =>
 bif (!(((((x1.nth x3.i.toNat).fld 1).fld 0).s).toList == ((rt r1 0).s).toList)) then
 some [(T.int (-1 : Int))]
 else
 bif ((((x1.nth x3.i.toNat).fld 1).fld 1).i != (IntKind.wrap .i64 ((IntKind.wrap .i64 (x2.i + (1 : Int))) + (1 : Int)))) then
 some [(T.int (-1 : Int))]
 else
 obind (C F_laws_heldValueS [(((x1.nth x3.i.toNat).fld 1).fld 2), (T.int (IntKind.wrap .i64 ((IntKind.wrap .i64 ((IntKind.wrap .i64 (x2.i + (1 : Int))) + (1 : Int))) + (1 : Int))))]) fun r2 =>
 bif (decide ((rt r2 0).i < (0 : Int))) then
 some [(T.int (-1 : Int))]
 else
 obind (C F_laws_heldIntS [(((x1.nth x3.i.toNat).fld 1).fld 3), (rt r2 0)]) fun r3 =>
 bif (decide ((rt r3 0).i < (0 : Int))) then
 some [(T.int (-1 : Int))]
 else
 l_laws_heldKeptS_0 H x1 (rt r3 0) (T.int (IntKind.wrap .i64 (x3.i + (1 : Int))))
 else
 none
 else
 some [x2]
theorem e_laws_heldKeptS_0 (H : List Item → CS → R) (C : CallsE) (x1 : T) (x2 : T) (x3 : T) : headE fi_laws_heldKeptS env H C (hdAt fi_laws_heldKeptS.body 0) ([(0, .val 29 x1), (1, .val 3 x2), (5, .val 3 x3)], []) =
 bif (decide (x3.i < (x1.es.length : Int))) then
 bif (decide (0 ≤ x3.i) && decide (x3.i.toNat < x1.es.length)) then
 bif (((x1.nth x3.i.toNat).fld 0).i != x2.i) then
 some [(T.int (-1 : Int))]
 else
 bif (decide (0 ≤ x3.i) && decide (x3.i.toNat < x1.es.length)) then
 obind (C F_laws_markText [(T.int (IntKind.wrap .i64 (x2.i + (1 : Int))))]) fun r1 =>
 bif (!(((((x1.nth x3.i.toNat).fld 1).fld 0).s).toList == ((rt r1 0).s).toList)) then
 some [(T.int (-1 : Int))]
 else
 bif (decide (0 ≤ x3.i) && decide (x3.i.toNat < x1.es.length)) then
 bif ((((x1.nth x3.i.toNat).fld 1).fld 1).i != (IntKind.wrap .i64 ((IntKind.wrap .i64 (x2.i + (1 : Int))) + (1 : Int)))) then
 some [(T.int (-1 : Int))]
 else
 bif (decide (0 ≤ x3.i) && decide (x3.i.toNat < x1.es.length)) then
 obind (C F_laws_heldValueS [(((x1.nth x3.i.toNat).fld 1).fld 2), (T.int (IntKind.wrap .i64 ((IntKind.wrap .i64 ((IntKind.wrap .i64 (x2.i + (1 : Int))) + (1 : Int))) + (1 : Int))))]) fun r2 =>
 bif (decide ((rt r2 0).i < (0 : Int))) then
 some [(T.int (-1 : Int))]
 else
 bif (decide (0 ≤ x3.i) && decide (x3.i.toNat < x1.es.length)) then
 obind (C F_laws_heldIntS [(((x1.nth x3.i.toNat).fld 1).fld 3), (rt r2 0)]) fun r3 =>
 bif (decide ((rt r3 0).i < (0 : Int))) then
 some [(T.int (-1 : Int))]
 else
 l_laws_heldKeptS_0 H x1 (rt r3 0) (T.int (IntKind.wrap .i64 (x3.i + (1 : Int))))
 else
 none
 else
 none
 else
 none
 else
 none
 else
 none
 else
 some [x2] := by kernel_rfl
theorem q_laws_heldKeptS_0 (H : List Item → CS → R) (C : CallsE) (x1 : T) (x2 : T) (x3 : T) : headE fi_laws_heldKeptS env H C (hdAt fi_laws_heldKeptS.body 0) ([(0, .val 29 x1), (1, .val 3 x2), (5, .val 3 x3)], []) = b_laws_heldKeptS_0 H C x1 x2 x3 := by
 refine (e_laws_heldKeptS_0 H C x1 x2 x3).trans ?_
 unfold b_laws_heldKeptS_0
 all_goals cases hc : ((decide (x3.i < (x1.es.length : Int)))) with
 | true =>
  try simp only [bs]
  all_goals cases hc : ((decide (0 ≤ x3.i) && decide (x3.i.toNat < x1.es.length))) with
  | true =>
   try simp only [bs]
   all_goals cases hc : ((((x1.nth x3.i.toNat).fld 0).i != x2.i)) with
   | true =>
    try simp only [bs]
    all_goals kernel_rfl
   | false =>
    try simp only [bs]
    all_goals refine obind_congr fun r1 => ?_
    all_goals try simp only [bs]
    all_goals cases hc : ((!(((((x1.nth x3.i.toNat).fld 1).fld 0).s).toList == ((rt r1 0).s).toList))) with
    | true =>
     try simp only [bs]
     all_goals kernel_rfl
    | false =>
     try simp only [bs]
     all_goals cases hc : (((((x1.nth x3.i.toNat).fld 1).fld 1).i != (IntKind.wrap .i64 ((IntKind.wrap .i64 (x2.i + (1 : Int))) + (1 : Int))))) with
     | true =>
      try simp only [bs]
      all_goals kernel_rfl
     | false =>
      try simp only [bs]
      all_goals refine obind_congr fun r2 => ?_
      all_goals try simp only [bs]
      all_goals cases hc : ((decide ((rt r2 0).i < (0 : Int)))) with
      | true =>
       try simp only [bs]
       all_goals kernel_rfl
      | false =>
       try simp only [bs]
       all_goals refine obind_congr fun r3 => ?_
       all_goals try simp only [bs]
       all_goals cases hc : ((decide ((rt r3 0).i < (0 : Int)))) with
       | true =>
        try simp only [bs]
        all_goals kernel_rfl
       | false =>
        try simp only [bs]
        all_goals kernel_rfl
  | false =>
   try simp only [bs]
   all_goals kernel_rfl
 | false =>
  try simp only [bs]
  all_goals kernel_rfl
theorem y_laws_heldKeptS_0 (x1 : T) (x2 : T) (x3 : T) {r : List T} (h : Yields (fun k => b_laws_heldKeptS_0 (hl env k fi_laws_heldKeptS) (cl env k) x1 x2 x3) r) : Yields (fun k => l_laws_heldKeptS_0 (hl env k fi_laws_heldKeptS) x1 x2 x3) r := Yields.head (fun H C => q_laws_heldKeptS_0 H C x1 x2 x3) h
/- loop.example/heirlooms/spec.VaultsPut -/
noncomputable abbrev b_spec_VaultsPut (H : List Item → CS → R) (C : CallsE) (a0 a1 a2 a3 : T) : R :=
 obind (C F_spec_VaultsOk [a0, a1]) fun r1 =>
 bif (!(rt r1 0).b) then
 some [(T.sl []), (T.bool false)]
 else
 obind (C F_spec_l6In [a2, (T.int (0 : Int)), (T.int (3 : Int))]) fun r2 =>
 bif (!(rt r2 0).b) then
 some [(T.sl []), (T.bool false)]
 else
 obind (C F_spec_l9Kind [a0, a3]) fun r3 =>
 bif (!(rt r3 0).b) then
 some [(T.sl []), (T.bool false)]
 else
 obind (C F_spec_l9Find [a1, a2, (a3.fld 0)]) fun r4 =>
 bif (decide ((rt r4 0).i ≥ (0 : Int))) then
 some [(T.sl []), (T.bool false)]
 else
 obind (C F_spec_l9Copy [a1]) fun r5 =>
 obind (C F_spec_l9Put [(rt r5 0), a2, a3]) fun r6 =>
 some [(rt r6 0), (T.bool true)]
theorem e_spec_VaultsPut (H : List Item → CS → R) (C : CallsE) (a0 a1 a2 a3 : T) : enterE fi_spec_VaultsPut env H C [a0, a1, a2, a3] =
 obind (C F_spec_VaultsOk [a0, a1]) fun r1 =>
 bif ((!((!(rt r1 0).b) == false)) || true) then
 bif ((!((!(rt r1 0).b) == false)) || (((!(rt r1 0).b) == false) && true)) then
 obind ((bif ((!(rt r1 0).b) == false) then C F_spec_l6In [a2, (T.int (0 : Int)), (T.int (3 : Int))] else some [])) fun r2 =>
 bif ((!((!(rt r1 0).b) == false)) || ((!(rt r1 0).b) == false)) then
 bif (bif (!(rt r1 0).b) then true else ((!(rt r1 0).b) == false)) then
 bif ((!((bif (!(rt r1 0).b) then (T.bool true) else (T.bool (!(rt r2 0).b))).b == false)) || true) then
 bif ((!((bif (!(rt r1 0).b) then (T.bool true) else (T.bool (!(rt r2 0).b))).b == false)) || true) then
 bif ((!((bif (!(rt r1 0).b) then (T.bool true) else (T.bool (!(rt r2 0).b))).b == false)) || (((bif (!(rt r1 0).b) then (T.bool true) else (T.bool (!(rt r2 0).b))).b == false) && (((bif (!(rt r1 0).b) then (T.bool true) else (T.bool (!(rt r2 0).b))).b == false) && true))) then
 obind ((bif ((bif (!(rt r1 0).b) then (T.bool true) else (T.bool (!(rt r2 0).b))).b == false) then C F_spec_l9Kind [a0, a3] else some [])) fun r3 =>
 bif ((!((bif (!(rt r1 0).b) then (T.bool true) else (T.bool (!(rt r2 0).b))).b == false)) || ((bif (!(rt r1 0).b) then (T.bool true) else (T.bool (!(rt r2 0).b))).b == false)) then
 bif (bif (bif (!(rt r1 0).b) then (T.bool true) else (T.bool (!(rt r2 0).b))).b then true else ((bif (!(rt r1 0).b) then (T.bool true) else (T.bool (!(rt r2 0).b))).b == false)) then
 bif ((!((bif (bif (!(rt r1 0).b) then (T.bool true) else (T.bool (!(rt r2 0).b))).b then (T.bool true) else (T.bool (!(rt r3 0).b))).b == false)) || true) then
 bif ((!((bif (bif (!(rt r1 0).b) then (T.bool true) else (T.bool (!(rt r2 0).b))).b then (T.bool true) else (T.bool (!(rt r3 0).b))).b == false)) || true) then
 bif ((!((bif (bif (!(rt r1 0).b) then (T.bool true) else (T.bool (!(rt r2 0).b))).b then (T.bool true) else (T.bool (!(rt r3 0).b))).b == false)) || true) then
 bif ((!((bif (bif (!(rt r1 0).b) then (T.bool true) else (T.bool (!(rt r2 0).b))).b then (T.bool true) else (T.bool (!(rt r3 0).b))).b == false)) || ((bif (bif (!(rt r1 0).b) then (T.bool true) else (T.bool (!(rt r2 0).b))).b then (T.bool true) else (T.bool (!(rt r3 0).b))).b == false)) then
 bif ((!((bif (bif (!(rt r1 0).b) then (T.bool true) else (T.bool (!(rt r2 0).b))).b then (T.bool true) else (T.bool (!(rt r3 0).b))).b == false)) || (((bif (bif (!(rt r1 0).b) then (T.bool true) else (T.bool (!(rt r2 0).b))).b then (T.bool true) else (T.bool (!(rt r3 0).b))).b == false) && (((bif (bif (!(rt r1 0).b) then (T.bool true) else (T.bool (!(rt r2 0).b))).b then (T.bool true) else (T.bool (!(rt r3 0).b))).b == false) && (((bif (bif (!(rt r1 0).b) then (T.bool true) else (T.bool (!(rt r2 0).b))).b then (T.bool true) else (T.bool (!(rt r3 0).b))).b == false) && true)))) then
 obind ((bif ((bif (bif (!(rt r1 0).b) then (T.bool true) else (T.bool (!(rt r2 0).b))).b then (T.bool true) else (T.bool (!(rt r3 0).b))).b == false) then C F_spec_l9Find [a1, a2, (a3.fld 0)] else some [])) fun r4 =>
 bif ((!((bif (bif (!(rt r1 0).b) then (T.bool true) else (T.bool (!(rt r2 0).b))).b then (T.bool true) else (T.bool (!(rt r3 0).b))).b == false)) || ((((bif (bif (!(rt r1 0).b) then (T.bool true) else (T.bool (!(rt r2 0).b))).b then (T.bool true) else (T.bool (!(rt r3 0).b))).b == false) && true) && true)) then
 bif (bif (bif (bif (!(rt r1 0).b) then (T.bool true) else (T.bool (!(rt r2 0).b))).b then (T.bool true) else (T.bool (!(rt r3 0).b))).b then true else ((bif (bif (!(rt r1 0).b) then (T.bool true) else (T.bool (!(rt r2 0).b))).b then (T.bool true) else (T.bool (!(rt r3 0).b))).b == false)) then
 bif (bif (bif (bif (!(rt r1 0).b) then (T.bool true) else (T.bool (!(rt r2 0).b))).b then (T.bool true) else (T.bool (!(rt r3 0).b))).b then (T.bool true) else (T.bool (decide ((rt r4 0).i ≥ (0 : Int))))).b then
 some [(T.sl []), (T.bool false)]
 else
 obind (C F_spec_l9Copy [a1]) fun r5 =>
 obind (C F_spec_l9Put [(rt r5 0), a2, a3]) fun r6 =>
 some [(rt r6 0), (T.bool true)]
 else
 none
 else
 none
 else
 none
 else
 none
 else
 none
 else
 none
 else
 none
 else
 none
 else
 none
 else
 none
 else
 none
 else
 none
 else
 none
 else
 none
 else
 none
 else
 none := by kernel_rfl
theorem q_spec_VaultsPut (H : List Item → CS → R) (C : CallsE) (a0 a1 a2 a3 : T) : enterE fi_spec_VaultsPut env H C [a0, a1, a2, a3] = b_spec_VaultsPut H C a0 a1 a2 a3 := by
 refine (e_spec_VaultsPut H C a0 a1 a2 a3).trans ?_
 unfold b_spec_VaultsPut
 all_goals refine obind_congr fun r1 => ?_
 all_goals try simp only [bs]
 all_goals cases hc : ((!(rt r1 0).b)) with
 | true =>
  try simp only [bs]
  all_goals kernel_rfl
 | false =>
  try simp only [bs]
  all_goals refine obind_congr fun r2 => ?_
  all_goals try simp only [bs]
  all_goals cases hc : ((!(rt r2 0).b)) with
  | true =>
   try simp only [bs]
   all_goals kernel_rfl
  | false =>
   try simp only [bs]
   all_goals refine obind_congr fun r3 => ?_
   all_goals try simp only [bs]
   all_goals cases hc : ((!(rt r3 0).b)) with
   | true =>
    try simp only [bs]
    all_goals kernel_rfl
   | false =>
    try simp only [bs]
    all_goals refine obind_congr fun r4 => ?_
    all_goals try simp only [bs]
    all_goals cases hc : ((decide ((rt r4 0).i ≥ (0 : Int)))) with
    | true =>
     try simp only [bs]
     all_goals kernel_rfl
    | false =>
     try simp only [bs]
     all_goals refine obind_congr fun r5 => ?_
     all_goals try simp only [bs]
     all_goals refine obind_congr fun r6 => ?_
     all_goals try simp only [bs]
     all_goals kernel_rfl
theorem y_spec_VaultsPut (a0 a1 a2 a3 : T) {r : List T} (h : Yields (fun k => b_spec_VaultsPut (hl env k fi_spec_VaultsPut) (cl env k) a0 a1 a2 a3) r) : Yields (fun k => cl env k F_spec_VaultsPut [a0, a1, a2, a3]) r := Yields.call (fi := fi_spec_VaultsPut) rfl (fun H C => q_spec_VaultsPut H C a0 a1 a2 a3) h
/- loop.example/heirlooms/impl.VaultsPut -/
noncomputable abbrev b_impl_VaultsPut (H : List Item → CS → R) (C : CallsE) (a0 a1 a2 a3 : T) : R :=
 obind (C F_impl_VaultsOk [a0, a1]) fun r1 =>
 bif (!(rt r1 0).b) then
 some [(T.sl []), (T.bool false)]
 else
 bif (decide (a2.i < (0 : Int))) then
 some [(T.sl []), (T.bool false)]
 else
 bif (decide (a2.i ≥ (4 : Int))) then
 some [(T.sl []), (T.bool false)]
 else
 obind (C F_impl_keepable [a0, a3]) fun r2 =>
 bif (!(rt r2 0).b) then
 some [(T.sl []), (T.bool false)]
 else
 obind (C F_impl_vaultAt [a1, a2, (a3.fld 0)]) fun r3 =>
 bif (decide ((rt r3 0).i ≥ (0 : Int))) then
 some [(T.sl []), (T.bool false)]
 else
 bif ((a1.es.length : Int) == (36 : Int)) then
 some [(T.sl []), (T.bool false)]
 else
 obind (C F_impl_withKept [a1, (T.st [a2, a3])]) fun r4 =>
 some [(rt r4 0), (T.bool true)]
theorem e_impl_VaultsPut (H : List Item → CS → R) (C : CallsE) (a0 a1 a2 a3 : T) : enterE fi_impl_VaultsPut env H C [a0, a1, a2, a3] =
 obind (C F_impl_VaultsOk [a0, a1]) fun r1 =>
 bif ((!((!(rt r1 0).b) == false)) || true) then
 bif ((!((!(rt r1 0).b) == false)) || ((((!(rt r1 0).b) == false) && true) && true)) then
 bif (bif (!(rt r1 0).b) then true else ((!(rt r1 0).b) == false)) then
 bif ((!((bif (!(rt r1 0).b) then (T.bool true) else (T.bool (decide (a2.i < (0 : Int))))).b == false)) || true) then
 bif ((!((bif (!(rt r1 0).b) then (T.bool true) else (T.bool (decide (a2.i < (0 : Int))))).b == false)) || ((((bif (!(rt r1 0).b) then (T.bool true) else (T.bool (decide (a2.i < (0 : Int))))).b == false) && true) && true)) then
 bif (bif (bif (!(rt r1 0).b) then (T.bool true) else (T.bool (decide (a2.i < (0 : Int))))).b then true else ((bif (!(rt r1 0).b) then (T.bool true) else (T.bool (decide (a2.i < (0 : Int))))).b == false)) then
 bif ((!((bif (bif (!(rt r1 0).b) then (T.bool true) else (T.bool (decide (a2.i < (0 : Int))))).b then (T.bool true) else (T.bool (decide (a2.i ≥ (4 : Int))))).b == false)) || true) then
 bif ((!((bif (bif (!(rt r1 0).b) then (T.bool true) else (T.bool (decide (a2.i < (0 : Int))))).b then (T.bool true) else (T.bool (decide (a2.i ≥ (4 : Int))))).b == false)) || true) then
 bif ((!((bif (bif (!(rt r1 0).b) then (T.bool true) else (T.bool (decide (a2.i < (0 : Int))))).b then (T.bool true) else (T.bool (decide (a2.i ≥ (4 : Int))))).b == false)) || (((bif (bif (!(rt r1 0).b) then (T.bool true) else (T.bool (decide (a2.i < (0 : Int))))).b then (T.bool true) else (T.bool (decide (a2.i ≥ (4 : Int))))).b == false) && (((bif (bif (!(rt r1 0).b) then (T.bool true) else (T.bool (decide (a2.i < (0 : Int))))).b then (T.bool true) else (T.bool (decide (a2.i ≥ (4 : Int))))).b == false) && true))) then
 obind ((bif ((bif (bif (!(rt r1 0).b) then (T.bool true) else (T.bool (decide (a2.i < (0 : Int))))).b then (T.bool true) else (T.bool (decide (a2.i ≥ (4 : Int))))).b == false) then C F_impl_keepable [a0, a3] else some [])) fun r2 =>
 bif ((!((bif (bif (!(rt r1 0).b) then (T.bool true) else (T.bool (decide (a2.i < (0 : Int))))).b then (T.bool true) else (T.bool (decide (a2.i ≥ (4 : Int))))).b == false)) || ((bif (bif (!(rt r1 0).b) then (T.bool true) else (T.bool (decide (a2.i < (0 : Int))))).b then (T.bool true) else (T.bool (decide (a2.i ≥ (4 : Int))))).b == false)) then
 bif (bif (bif (bif (!(rt r1 0).b) then (T.bool true) else (T.bool (decide (a2.i < (0 : Int))))).b then (T.bool true) else (T.bool (decide (a2.i ≥ (4 : Int))))).b then true else ((bif (bif (!(rt r1 0).b) then (T.bool true) else (T.bool (decide (a2.i < (0 : Int))))).b then (T.bool true) else (T.bool (decide (a2.i ≥ (4 : Int))))).b == false)) then
 bif ((!((bif (bif (bif (!(rt r1 0).b) then (T.bool true) else (T.bool (decide (a2.i < (0 : Int))))).b then (T.bool true) else (T.bool (decide (a2.i ≥ (4 : Int))))).b then (T.bool true) else (T.bool (!(rt r2 0).b))).b == false)) || true) then
 bif ((!((bif (bif (bif (!(rt r1 0).b) then (T.bool true) else (T.bool (decide (a2.i < (0 : Int))))).b then (T.bool true) else (T.bool (decide (a2.i ≥ (4 : Int))))).b then (T.bool true) else (T.bool (!(rt r2 0).b))).b == false)) || true) then
 bif ((!((bif (bif (bif (!(rt r1 0).b) then (T.bool true) else (T.bool (decide (a2.i < (0 : Int))))).b then (T.bool true) else (T.bool (decide (a2.i ≥ (4 : Int))))).b then (T.bool true) else (T.bool (!(rt r2 0).b))).b == false)) || true) then
 bif ((!((bif (bif (bif (!(rt r1 0).b) then (T.bool true) else (T.bool (decide (a2.i < (0 : Int))))).b then (T.bool true) else (T.bool (decide (a2.i ≥ (4 : Int))))).b then (T.bool true) else (T.bool (!(rt r2 0).b))).b == false)) || ((bif (bif (bif (!(rt r1 0).b) then (T.bool true) else (T.bool (decide (a2.i < (0 : Int))))).b then (T.bool true) else (T.bool (decide (a2.i ≥ (4 : Int))))).b then (T.bool true) else (T.bool (!(rt r2 0).b))).b == false)) then
 bif ((!((bif (bif (bif (!(rt r1 0).b) then (T.bool true) else (T.bool (decide (a2.i < (0 : Int))))).b then (T.bool true) else (T.bool (decide (a2.i ≥ (4 : Int))))).b then (T.bool true) else (T.bool (!(rt r2 0).b))).b == false)) || (((bif (bif (bif (!(rt r1 0).b) then (T.bool true) else (T.bool (decide (a2.i < (0 : Int))))).b then (T.bool true) else (T.bool (decide (a2.i ≥ (4 : Int))))).b then (T.bool true) else (T.bool (!(rt r2 0).b))).b == false) && (((bif (bif (bif (!(rt r1 0).b) then (T.bool true) else (T.bool (decide (a2.i < (0 : Int))))).b then (T.bool true) else (T.bool (decide (a2.i ≥ (4 : Int))))).b then (T.bool true) else (T.bool (!(rt r2 0).b))).b == false) && (((bif (bif (bif (!(rt r1 0).b) then (T.bool true) else (T.bool (decide (a2.i < (0 : Int))))).b then (T.bool true) else (T.bool (decide (a2.i ≥ (4 : Int))))).b then (T.bool true) else (T.bool (!(rt r2 0).b))).b == false) && true)))) then
 obind ((bif ((bif (bif (bif (!(rt r1 0).b) then (T.bool true) else (T.bool (decide (a2.i < (0 : Int))))).b then (T.bool true) else (T.bool (decide (a2.i ≥ (4 : Int))))).b then (T.bool true) else (T.bool (!(rt r2 0).b))).b == false) then C F_impl_vaultAt [a1, a2, (a3.fld 0)] else some [])) fun r3 =>
 bif ((!((bif (bif (bif (!(rt r1 0).b) then (T.bool true) else (T.bool (decide (a2.i < (0 : Int))))).b then (T.bool true) else (T.bool (decide (a2.i ≥ (4 : Int))))).b then (T.bool true) else (T.bool (!(rt r2 0).b))).b == false)) || ((((bif (bif (bif (!(rt r1 0).b) then (T.bool true) else (T.bool (decide (a2.i < (0 : Int))))).b then (T.bool true) else (T.bool (decide (a2.i ≥ (4 : Int))))).b then (T.bool true) else (T.bool (!(rt r2 0).b))).b == false) && true) && true)) then
 bif (bif (bif (bif (bif (!(rt r1 0).b) then (T.bool true) else (T.bool (decide (a2.i < (0 : Int))))).b then (T.bool true) else (T.bool (decide (a2.i ≥ (4 : Int))))).b then (T.bool true) else (T.bool (!(rt r2 0).b))).b then true else ((bif (bif (bif (!(rt r1 0).b) then (T.bool true) else (T.bool (decide (a2.i < (0 : Int))))).b then (T.bool true) else (T.bool (decide (a2.i ≥ (4 : Int))))).b then (T.bool true) else (T.bool (!(rt r2 0).b))).b == false)) then
 bif ((!((bif (bif (bif (bif (!(rt r1 0).b) then (T.bool true) else (T.bool (decide (a2.i < (0 : Int))))).b then (T.bool true) else (T.bool (decide (a2.i ≥ (4 : Int))))).b then (T.bool true) else (T.bool (!(rt r2 0).b))).b then (T.bool true) else (T.bool (decide ((rt r3 0).i ≥ (0 : Int))))).b == false)) || true) then
 bif ((!((bif (bif (bif (bif (!(rt r1 0).b) then (T.bool true) else (T.bool (decide (a2.i < (0 : Int))))).b then (T.bool true) else (T.bool (decide (a2.i ≥ (4 : Int))))).b then (T.bool true) else (T.bool (!(rt r2 0).b))).b then (T.bool true) else (T.bool (decide ((rt r3 0).i ≥ (0 : Int))))).b == false)) || ((bif (bif (bif (bif (!(rt r1 0).b) then (T.bool true) else (T.bool (decide (a2.i < (0 : Int))))).b then (T.bool true) else (T.bool (decide (a2.i ≥ (4 : Int))))).b then (T.bool true) else (T.bool (!(rt r2 0).b))).b then (T.bool true) else (T.bool (decide ((rt r3 0).i ≥ (0 : Int))))).b == false)) then
 bif ((!((bif (bif (bif (bif (!(rt r1 0).b) then (T.bool true) else (T.bool (decide (a2.i < (0 : Int))))).b then (T.bool true) else (T.bool (decide (a2.i ≥ (4 : Int))))).b then (T.bool true) else (T.bool (!(rt r2 0).b))).b then (T.bool true) else (T.bool (decide ((rt r3 0).i ≥ (0 : Int))))).b == false)) || ((((bif (bif (bif (bif (!(rt r1 0).b) then (T.bool true) else (T.bool (decide (a2.i < (0 : Int))))).b then (T.bool true) else (T.bool (decide (a2.i ≥ (4 : Int))))).b then (T.bool true) else (T.bool (!(rt r2 0).b))).b then (T.bool true) else (T.bool (decide ((rt r3 0).i ≥ (0 : Int))))).b == false) && true) && true)) then
 bif (bif (bif (bif (bif (bif (!(rt r1 0).b) then (T.bool true) else (T.bool (decide (a2.i < (0 : Int))))).b then (T.bool true) else (T.bool (decide (a2.i ≥ (4 : Int))))).b then (T.bool true) else (T.bool (!(rt r2 0).b))).b then (T.bool true) else (T.bool (decide ((rt r3 0).i ≥ (0 : Int))))).b then true else ((bif (bif (bif (bif (!(rt r1 0).b) then (T.bool true) else (T.bool (decide (a2.i < (0 : Int))))).b then (T.bool true) else (T.bool (decide (a2.i ≥ (4 : Int))))).b then (T.bool true) else (T.bool (!(rt r2 0).b))).b then (T.bool true) else (T.bool (decide ((rt r3 0).i ≥ (0 : Int))))).b == false)) then
 bif (bif (bif (bif (bif (bif (!(rt r1 0).b) then (T.bool true) else (T.bool (decide (a2.i < (0 : Int))))).b then (T.bool true) else (T.bool (decide (a2.i ≥ (4 : Int))))).b then (T.bool true) else (T.bool (!(rt r2 0).b))).b then (T.bool true) else (T.bool (decide ((rt r3 0).i ≥ (0 : Int))))).b then (T.bool true) else (T.bool ((a1.es.length : Int) == (36 : Int)))).b then
 some [(T.sl []), (T.bool false)]
 else
 obind (C F_impl_withKept [a1, (T.st [a2, a3])]) fun r4 =>
 some [(rt r4 0), (T.bool true)]
 else
 none
 else
 none
 else
 none
 else
 none
 else
 none
 else
 none
 else
 none
 else
 none
 else
 none
 else
 none
 else
 none
 else
 none
 else
 none
 else
 none
 else
 none
 else
 none
 else
 none
 else
 none
 else
 none
 else
 none
 else
 none
 else
 none := by kernel_rfl
theorem q_impl_VaultsPut (H : List Item → CS → R) (C : CallsE) (a0 a1 a2 a3 : T) : enterE fi_impl_VaultsPut env H C [a0, a1, a2, a3] = b_impl_VaultsPut H C a0 a1 a2 a3 := by
 refine (e_impl_VaultsPut H C a0 a1 a2 a3).trans ?_
 unfold b_impl_VaultsPut
 all_goals refine obind_congr fun r1 => ?_
 all_goals try simp only [bs]
 all_goals cases hc : ((!(rt r1 0).b)) with
 | true =>
  try simp only [bs]
  all_goals kernel_rfl
 | false =>
  try simp only [bs]
  all_goals cases hc : ((decide (a2.i < (0 : Int)))) with
  | true =>
   try simp only [bs]
   all_goals kernel_rfl
  | false =>
   try simp only [bs]
   all_goals cases hc : ((decide (a2.i ≥ (4 : Int)))) with
   | true =>
    try simp only [bs]
    all_goals kernel_rfl
   | false =>
    try simp only [bs]
    all_goals refine obind_congr fun r2 => ?_
    all_goals try simp only [bs]
    all_goals cases hc : ((!(rt r2 0).b)) with
    | true =>
     try simp only [bs]
     all_goals kernel_rfl
    | false =>
     try simp only [bs]
     all_goals refine obind_congr fun r3 => ?_
     all_goals try simp only [bs]
     all_goals cases hc : ((decide ((rt r3 0).i ≥ (0 : Int)))) with
     | true =>
      try simp only [bs]
      all_goals kernel_rfl
     | false =>
      try simp only [bs]
      all_goals cases hc : (((a1.es.length : Int) == (36 : Int))) with
      | true =>
       try simp only [bs]
       all_goals kernel_rfl
      | false =>
       try simp only [bs]
       all_goals refine obind_congr fun r4 => ?_
       all_goals try simp only [bs]
       all_goals kernel_rfl
theorem y_impl_VaultsPut (a0 a1 a2 a3 : T) {r : List T} (h : Yields (fun k => b_impl_VaultsPut (hl env k fi_impl_VaultsPut) (cl env k) a0 a1 a2 a3) r) : Yields (fun k => cl env k F_impl_VaultsPut [a0, a1, a2, a3]) r := Yields.call (fi := fi_impl_VaultsPut) rfl (fun H C => q_impl_VaultsPut H C a0 a1 a2 a3) h
noncomputable def l_laws_szRecordS_0 (H : List Item → CS → R) (x1 : T) (x2 : T) (x3 : T) : R := H (hdAt fi_laws_szRecordS.body 0) ([(0, .val 56 x1), (1, .val 3 x2), (5, .val 3 x3)], [])
/- loop.example/heirlooms/laws.szRecordS -/
noncomputable abbrev b_laws_szRecordS (H : List Item → CS → R) (C : CallsE) (a0 a1 : T) : R :=
 bif (decide ((IntKind.wrap .i64 (a1.i - (a0.es.length : Int))) < (0 : Int))) then
 some [(T.int (-1 : Int))]
 else
 l_laws_szRecordS_0 H a0 (T.int (IntKind.wrap .i64 (a1.i - (a0.es.length : Int)))) (T.int (0 : Int))
theorem q_laws_szRecordS (H : List Item → CS → R) (C : CallsE) (a0 a1 : T) : enterE fi_laws_szRecordS env H C [a0, a1] = b_laws_szRecordS H C a0 a1 := by kernel_rfl
theorem y_laws_szRecordS (a0 a1 : T) {r : List T} (h : Yields (fun k => b_laws_szRecordS (hl env k fi_laws_szRecordS) (cl env k) a0 a1) r) : Yields (fun k => cl env k F_laws_szRecordS [a0, a1]) r := Yields.call (fi := fi_laws_szRecordS) rfl (fun H C => q_laws_szRecordS H C a0 a1) h
noncomputable abbrev b_laws_szRecordS_0 (H : List Item → CS → R) (C : CallsE) (x1 : T) (x2 : T) (x3 : T) : R :=
 bif (decide (x3.i < (x1.es.length : Int))) then
 bif (decide (0 ≤ x3.i) && decide (x3.i.toNat < x1.es.length)) then
 obind (C F_laws_szRecord [(x1.nth x3.i.toNat), x2]) fun r1 =>
 bif (decide ((rt r1 0).i < (0 : Int))) then
 some [(T.int (-1 : Int))]
 else
 l_laws_szRecordS_0 H x1 (rt r1 0) (T.int (IntKind.wrap .i64 (x3.i + (1 : Int))))
 else
 none
 else
 some [x2]
theorem q_laws_szRecordS_0 (H : List Item → CS → R) (C : CallsE) (x1 : T) (x2 : T) (x3 : T) : headE fi_laws_szRecordS env H C (hdAt fi_laws_szRecordS.body 0) ([(0, .val 56 x1), (1, .val 3 x2), (5, .val 3 x3)], []) = b_laws_szRecordS_0 H C x1 x2 x3 := by kernel_rfl
theorem y_laws_szRecordS_0 (x1 : T) (x2 : T) (x3 : T) {r : List T} (h : Yields (fun k => b_laws_szRecordS_0 (hl env k fi_laws_szRecordS) (cl env k) x1 x2 x3) r) : Yields (fun k => l_laws_szRecordS_0 (hl env k fi_laws_szRecordS) x1 x2 x3) r := Yields.head (fun H C => q_laws_szRecordS_0 H C x1 x2 x3) h
/- loop.example/heirlooms/laws.szKept -/
noncomputable abbrev b_laws_szKept (H : List Item → CS → R) (C : CallsE) (a0 a1 : T) : R :=
 obind (C F_laws_szValue [(a0.fld 1), a1]) fun r1 =>
 bif (decide ((rt r1 0).i < (0 : Int))) then
 some [(T.int (-1 : Int))]
 else
 some [(rt r1 0)]
theorem q_laws_szKept (H : List Item → CS → R) (C : CallsE) (a0 a1 : T) : enterE fi_laws_szKept env H C [a0, a1] = b_laws_szKept H C a0 a1 := by kernel_rfl
theorem y_laws_szKept (a0 a1 : T) {r : List T} (h : Yields (fun k => b_laws_szKept (hl env k fi_laws_szKept) (cl env k) a0 a1) r) : Yields (fun k => cl env k F_laws_szKept [a0, a1]) r := Yields.call (fi := fi_laws_szKept) rfl (fun H C => q_laws_szKept H C a0 a1) h
/- loop.example/heirlooms/spec.l1Kind -/
noncomputable abbrev b_spec_l1Kind (H : List Item → CS → R) (C : CallsE) (a0 : T) : R :=
 bif ((a0.s.size : Int) != (3 : Int)) then
 some [(T.int (0 : Int)), (T.int (0 : Int)), (T.bool false)]
 else
 bif (decide (0 ≤ (0 : Int)) && decide (0 < a0.s.size)) then
 bif ((a0.s.data.getD 0 0).toNat != (83 : Int)) then
 some [(T.int (0 : Int)), (T.int (0 : Int)), (T.bool false)]
 else
 bif (decide (0 ≤ (1 : Int)) && decide (1 < a0.s.size)) then
 bif (decide ((a0.s.data.getD 1 0).toNat < (48 : Int))) then
 some [(T.int (0 : Int)), (T.int (0 : Int)), (T.bool false)]
 else
 bif (decide ((a0.s.data.getD 1 0).toNat > (57 : Int))) then
 some [(T.int (0 : Int)), (T.int (0 : Int)), (T.bool false)]
 else
 bif (decide (0 ≤ (2 : Int)) && decide (2 < a0.s.size)) then
 bif (decide ((a0.s.data.getD 2 0).toNat < (48 : Int))) then
 some [(T.int (0 : Int)), (T.int (0 : Int)), (T.bool false)]
 else
 bif (decide ((a0.s.data.getD 2 0).toNat > (57 : Int))) then
 some [(T.int (0 : Int)), (T.int (0 : Int)), (T.bool false)]
 else
 some [(T.int (IntKind.wrap .i64 (IntKind.wrap .u8 ((a0.s.data.getD 1 0).toNat - (48 : Int))))), (T.int (IntKind.wrap .i64 (IntKind.wrap .u8 ((a0.s.data.getD 2 0).toNat - (48 : Int))))), (T.bool true)]
 else
 none
 else
 none
 else
 none
theorem e_spec_l1Kind (H : List Item → CS → R) (C : CallsE) (a0 : T) : enterE fi_spec_l1Kind env H C [a0] =
 bif ((!(((a0.s.size : Int) != (3 : Int)) == false)) || true) then
 bif ((!(((a0.s.size : Int) != (3 : Int)) == false)) || (((((a0.s.size : Int) != (3 : Int)) == false) && true) && (decide (0 ≤ (0 : Int)) && decide (0 < a0.s.size)))) then
 bif ((!(((a0.s.size : Int) != (3 : Int)) == false)) || (((((a0.s.size : Int) != (3 : Int)) == false) && true) && true)) then
 bif (bif ((a0.s.size : Int) != (3 : Int)) then true else (((a0.s.size : Int) != (3 : Int)) == false)) then
 bif ((!((bif ((a0.s.size : Int) != (3 : Int)) then (T.bool true) else (T.bool ((a0.s.data.getD 0 0).toNat != (83 : Int)))).b == false)) || true) then
 bif ((!((bif ((a0.s.size : Int) != (3 : Int)) then (T.bool true) else (T.bool ((a0.s.data.getD 0 0).toNat != (83 : Int)))).b == false)) || ((((bif ((a0.s.size : Int) != (3 : Int)) then (T.bool true) else (T.bool ((a0.s.data.getD 0 0).toNat != (83 : Int)))).b == false) && true) && (decide (0 ≤ (1 : Int)) && decide (1 < a0.s.size)))) then
 bif ((!((bif ((a0.s.size : Int) != (3 : Int)) then (T.bool true) else (T.bool ((a0.s.data.getD 0 0).toNat != (83 : Int)))).b == false)) || ((((bif ((a0.s.size : Int) != (3 : Int)) then (T.bool true) else (T.bool ((a0.s.data.getD 0 0).toNat != (83 : Int)))).b == false) && true) && true)) then
 bif (bif (bif ((a0.s.size : Int) != (3 : Int)) then (T.bool true) else (T.bool ((a0.s.data.getD 0 0).toNat != (83 : Int)))).b then true else ((bif ((a0.s.size : Int) != (3 : Int)) then (T.bool true) else (T.bool ((a0.s.data.getD 0 0).toNat != (83 : Int)))).b == false)) then
 bif ((!((bif (bif ((a0.s.size : Int) != (3 : Int)) then (T.bool true) else (T.bool ((a0.s.data.getD 0 0).toNat != (83 : Int)))).b then (T.bool true) else (T.bool (decide ((a0.s.data.getD 1 0).toNat < (48 : Int))))).b == false)) || true) then
 bif ((!((bif (bif ((a0.s.size : Int) != (3 : Int)) then (T.bool true) else (T.bool ((a0.s.data.getD 0 0).toNat != (83 : Int)))).b then (T.bool true) else (T.bool (decide ((a0.s.data.getD 1 0).toNat < (48 : Int))))).b == false)) || ((((bif (bif ((a0.s.size : Int) != (3 : Int)) then (T.bool true) else (T.bool ((a0.s.data.getD 0 0).toNat != (83 : Int)))).b then (T.bool true) else (T.bool (decide ((a0.s.data.getD 1 0).toNat < (48 : Int))))).b == false) && true) && (decide (0 ≤ (1 : Int)) && decide (1 < a0.s.size)))) then
 bif ((!((bif (bif ((a0.s.size : Int) != (3 : Int)) then (T.bool true) else (T.bool ((a0.s.data.getD 0 0).toNat != (83 : Int)))).b then (T.bool true) else (T.bool (decide ((a0.s.data.getD 1 0).toNat < (48 : Int))))).b == false)) || ((((bif (bif ((a0.s.size : Int) != (3 : Int)) then (T.bool true) else (T.bool ((a0.s.data.getD 0 0).toNat != (83 : Int)))).b then (T.bool true) else (T.bool (decide ((a0.s.data.getD 1 0).toNat < (48 : Int))))).b == false) && true) && true)) then
 bif (bif (bif (bif ((a0.s.size : Int) != (3 : Int)) then (T.bool true) else (T.bool ((a0.s.data.getD 0 0).toNat != (83 : Int)))).b then (T.bool true) else (T.bool (decide ((a0.s.data.getD 1 0).toNat < (48 : Int))))).b then true else ((bif (bif ((a0.s.size : Int) != (3 : Int)) then (T.bool true) else (T.bool ((a0.s.data.getD 0 0).toNat != (83 : Int)))).b then (T.bool true) else (T.bool (decide ((a0.s.data.getD 1 0).toNat < (48 : Int))))).b == false)) then
 bif ((!((bif (bif (bif ((a0.s.size : Int) != (3 : Int)) then (T.bool true) else (T.bool ((a0.s.data.getD 0 0).toNat != (83 : Int)))).b then (T.bool true) else (T.bool (decide ((a0.s.data.getD 1 0).toNat < (48 : Int))))).b then (T.bool true) else (T.bool (decide ((a0.s.data.getD 1 0).toNat > (57 : Int))))).b == false)) || true) then
 bif ((!((bif (bif (bif ((a0.s.size : Int) != (3 : Int)) then (T.bool true) else (T.bool ((a0.s.data.getD 0 0).toNat != (83 : Int)))).b then (T.bool true) else (T.bool (decide ((a0.s.data.getD 1 0).toNat < (48 : Int))))).b then (T.bool true) else (T.bool (decide ((a0.s.data.getD 1 0).toNat > (57 : Int))))).b == false)) || ((((bif (bif (bif ((a0.s.size : Int) != (3 : Int)) then (T.bool true) else (T.bool ((a0.s.data.getD 0 0).toNat != (83 : Int)))).b then (T.bool true) else (T.bool (decide ((a0.s.data.getD 1 0).toNat < (48 : Int))))).b then (T.bool true) else (T.bool (decide ((a0.s.data.getD 1 0).toNat > (57 : Int))))).b == false) && true) && (decide (0 ≤ (2 : Int)) && decide (2 < a0.s.size)))) then
 bif ((!((bif (bif (bif ((a0.s.size : Int) != (3 : Int)) then (T.bool true) else (T.bool ((a0.s.data.getD 0 0).toNat != (83 : Int)))).b then (T.bool true) else (T.bool (decide ((a0.s.data.getD 1 0).toNat < (48 : Int))))).b then (T.bool true) else (T.bool (decide ((a0.s.data.getD 1 0).toNat > (57 : Int))))).b == false)) || ((((bif (bif (bif ((a0.s.size : Int) != (3 : Int)) then (T.bool true) else (T.bool ((a0.s.data.getD 0 0).toNat != (83 : Int)))).b then (T.bool true) else (T.bool (decide ((a0.s.data.getD 1 0).toNat < (48 : Int))))).b then (T.bool true) else (T.bool (decide ((a0.s.data.getD 1 0).toNat > (57 : Int))))).b == false) && true) && true)) then
 bif (bif (bif (bif (bif ((a0.s.size : Int) != (3 : Int)) then (T.bool true) else (T.bool ((a0.s.data.getD 0 0).toNat != (83 : Int)))).b then (T.bool true) else (T.bool (decide ((a0.s.data.getD 1 0).toNat < (48 : Int))))).b then (T.bool true) else (T.bool (decide ((a0.s.data.getD 1 0).toNat > (57 : Int))))).b then true else ((bif (bif (bif ((a0.s.size : Int) != (3 : Int)) then (T.bool true) else (T.bool ((a0.s.data.getD 0 0).toNat != (83 : Int)))).b then (T.bool true) else (T.bool (decide ((a0.s.data.getD 1 0).toNat < (48 : Int))))).b then (T.bool true) else (T.bool (decide ((a0.s.data.getD 1 0).toNat > (57 : Int))))).b == false)) then
 bif ((!((bif (bif (bif (bif ((a0.s.size : Int) != (3 : Int)) then (T.bool true) else (T.bool ((a0.s.data.getD 0 0).toNat != (83 : Int)))).b then (T.bool true) else (T.bool (decide ((a0.s.data.getD 1 0).toNat < (48 : Int))))).b then (T.bool true) else (T.bool (decide ((a0.s.data.getD 1 0).toNat > (57 : Int))))).b then (T.bool true) else (T.bool (decide ((a0.s.data.getD 2 0).toNat < (48 : Int))))).b == false)) || true) then
 bif ((!((bif (bif (bif (bif ((a0.s.size : Int) != (3 : Int)) then (T.bool true) else (T.bool ((a0.s.data.getD 0 0).toNat != (83 : Int)))).b then (T.bool true) else (T.bool (decide ((a0.s.data.getD 1 0).toNat < (48 : Int))))).b then (T.bool true) else (T.bool (decide ((a0.s.data.getD 1 0).toNat > (57 : Int))))).b then (T.bool true) else (T.bool (decide ((a0.s.data.getD 2 0).toNat < (48 : Int))))).b == false)) || ((((bif (bif (bif (bif ((a0.s.size : Int) != (3 : Int)) then (T.bool true) else (T.bool ((a0.s.data.getD 0 0).toNat != (83 : Int)))).b then (T.bool true) else (T.bool (decide ((a0.s.data.getD 1 0).toNat < (48 : Int))))).b then (T.bool true) else (T.bool (decide ((a0.s.data.getD 1 0).toNat > (57 : Int))))).b then (T.bool true) else (T.bool (decide ((a0.s.data.getD 2 0).toNat < (48 : Int))))).b == false) && true) && (decide (0 ≤ (2 : Int)) && decide (2 < a0.s.size)))) then
 bif ((!((bif (bif (bif (bif ((a0.s.size : Int) != (3 : Int)) then (T.bool true) else (T.bool ((a0.s.data.getD 0 0).toNat != (83 : Int)))).b then (T.bool true) else (T.bool (decide ((a0.s.data.getD 1 0).toNat < (48 : Int))))).b then (T.bool true) else (T.bool (decide ((a0.s.data.getD 1 0).toNat > (57 : Int))))).b then (T.bool true) else (T.bool (decide ((a0.s.data.getD 2 0).toNat < (48 : Int))))).b == false)) || ((((bif (bif (bif (bif ((a0.s.size : Int) != (3 : Int)) then (T.bool true) else (T.bool ((a0.s.data.getD 0 0).toNat != (83 : Int)))).b then (T.bool true) else (T.bool (decide ((a0.s.data.getD 1 0).toNat < (48 : Int))))).b then (T.bool true) else (T.bool (decide ((a0.s.data.getD 1 0).toNat > (57 : Int))))).b then (T.bool true) else (T.bool (decide ((a0.s.data.getD 2 0).toNat < (48 : Int))))).b == false) && true) && true)) then
 bif (bif (bif (bif (bif (bif ((a0.s.size : Int) != (3 : Int)) then (T.bool true) else (T.bool ((a0.s.data.getD 0 0).toNat != (83 : Int)))).b then (T.bool true) else (T.bool (decide ((a0.s.data.getD 1 0).toNat < (48 : Int))))).b then (T.bool true) else (T.bool (decide ((a0.s.data.getD 1 0).toNat > (57 : Int))))).b then (T.bool true) else (T.bool (decide ((a0.s.data.getD 2 0).toNat < (48 : Int))))).b then true else ((bif (bif (bif (bif ((a0.s.size : Int) != (3 : Int)) then (T.bool true) else (T.bool ((a0.s.data.getD 0 0).toNat != (83 : Int)))).b then (T.bool true) else (T.bool (decide ((a0.s.data.getD 1 0).toNat < (48 : Int))))).b then (T.bool true) else (T.bool (decide ((a0.s.data.getD 1 0).toNat > (57 : Int))))).b then (T.bool true) else (T.bool (decide ((a0.s.data.getD 2 0).toNat < (48 : Int))))).b == false)) then
 bif (bif (bif (bif (bif (bif ((a0.s.size : Int) != (3 : Int)) then (T.bool true) else (T.bool ((a0.s.data.getD 0 0).toNat != (83 : Int)))).b then (T.bool true) else (T.bool (decide ((a0.s.data.getD 1 0).toNat < (48 : Int))))).b then (T.bool true) else (T.bool (decide ((a0.s.data.getD 1 0).toNat > (57 : Int))))).b then (T.bool true) else (T.bool (decide ((a0.s.data.getD 2 0).toNat < (48 : Int))))).b then (T.bool true) else (T.bool (decide ((a0.s.data.getD 2 0).toNat > (57 : Int))))).b then
 some [(T.int (0 : Int)), (T.int (0 : Int)), (T.bool false)]
 else
 bif (decide (0 ≤ (1 : Int)) && decide (1 < a0.s.size)) then
 bif (decide (0 ≤ (2 : Int)) && decide (2 < a0.s.size)) then
 some [(T.int (IntKind.wrap .i64 (IntKind.wrap .u8 ((a0.s.data.getD 1 0).toNat - (48 : Int))))), (T.int (IntKind.wrap .i64 (IntKind.wrap .u8 ((a0.s.data.getD 2 0).toNat - (48 : Int))))), (T.bool true)]
 else
 none
 else
 none
 else
 none
 else
 none
 else
 none
 else
 none
 else
 none
 else
 none
 else
 none
 else
 none
 else
 none
 else
 none
 else
 none
 else
 none
 else
 none
 else
 none
 else
 none
 else
 none
 else
 none
 else
 none
 else
 none
 else
 none := by kernel_rfl
theorem q_spec_l1Kind (H : List Item → CS → R) (C : CallsE) (a0 : T) : enterE fi_spec_l1Kind env H C [a0] = b_spec_l1Kind H C a0 := by
 refine (e_spec_l1Kind H C a0).trans ?_
 unfold b_spec_l1Kind
 all_goals cases hc : (((a0.s.size : Int) != (3 : Int))) with
 | true =>
  try simp only [bs]
  all_goals kernel_rfl
 | false =>
  try simp only [bs]
  all_goals cases hc : ((decide (0 ≤ (0 : Int)) && decide (0 < a0.s.size))) with
  | true =>
   try simp only [bs]
   all_goals cases hc : (((a0.s.data.getD 0 0).toNat != (83 : Int))) with
   | true =>
    try simp only [bs]
    all_goals kernel_rfl
   | false =>
    try simp only [bs]
    all_goals cases hc : ((decide (0 ≤ (1 : Int)) && decide (1 < a0.s.size))) with
    | true =>
     try simp only [bs]
     all_goals cases hc : ((decide ((a0.s.data.getD 1 0).toNat < (48 : Int)))) with
     | true =>
      try simp only [bs]
      all_goals kernel_rfl
     | false =>
      try simp only [bs]
      all_goals cases hc : ((decide ((a0.s.data.getD 1 0).toNat > (57 : Int)))) with
      | true =>
       try simp only [bs]
       all_goals kernel_rfl
      | false =>
       try simp only [bs]
       all_goals cases hc : ((decide (0 ≤ (2 : Int)) && decide (2 < a0.s.size))) with
       | true =>
        try simp only [bs]
        all_goals cases hc : ((decide ((a0.s.data.getD 2 0).toNat < (48 : Int)))) with
        | true =>
         try simp only [bs]
         all_goals kernel_rfl
        | false =>
         try simp only [bs]
         all_goals cases hc : ((decide ((a0.s.data.getD 2 0).toNat > (57 : Int)))) with
         | true =>
          try simp only [bs]
          all_goals kernel_rfl
         | false =>
          try simp only [bs]
          all_goals kernel_rfl
       | false =>
        try simp only [bs]
        all_goals kernel_rfl
    | false =>
     try simp only [bs]
     all_goals kernel_rfl
  | false =>
   try simp only [bs]
   all_goals kernel_rfl
theorem y_spec_l1Kind (a0 : T) {r : List T} (h : Yields (fun k => b_spec_l1Kind (hl env k fi_spec_l1Kind) (cl env k) a0) r) : Yields (fun k => cl env k F_spec_l1Kind [a0]) r := Yields.call (fi := fi_spec_l1Kind) rfl (fun H C => q_spec_l1Kind H C a0) h
/- loop.example/heirlooms/spec.VaultsOk -/
noncomputable abbrev b_spec_VaultsOk (H : List Item → CS → R) (C : CallsE) (a0 a1 : T) : R :=
 obind (C F_spec_KindsOk [a0]) fun r1 =>
 bif (rt r1 0).b then
 obind (C F_spec_l9Ok [a0, a1]) fun r2 =>
 some [(rt r2 0)]
 else
 some [(T.bool false)]
theorem e_spec_VaultsOk (H : List Item → CS → R) (C : CallsE) (a0 a1 : T) : enterE fi_spec_VaultsOk env H C [a0, a1] =
 obind (C F_spec_KindsOk [a0]) fun r1 =>
 bif ((!((rt r1 0).b == true)) || true) then
 bif ((!((rt r1 0).b == true)) || true) then
 bif ((!((rt r1 0).b == true)) || (((rt r1 0).b == true) && (((rt r1 0).b == true) && true))) then
 obind ((bif ((rt r1 0).b == true) then C F_spec_l9Ok [a0, a1] else some [])) fun r2 =>
 bif (bif (rt r1 0).b then ((rt r1 0).b == true) else true) then
 some [(bif (rt r1 0).b then (rt r2 0) else (T.bool false))]
 else
 none
 else
 none
 else
 none
 else
 none := by kernel_rfl
theorem q_spec_VaultsOk (H : List Item → CS → R) (C : CallsE) (a0 a1 : T) : enterE fi_spec_VaultsOk env H C [a0, a1] = b_spec_VaultsOk H C a0 a1 := by
 refine (e_spec_VaultsOk H C a0 a1).trans ?_
 unfold b_spec_VaultsOk
 all_goals refine obind_congr fun r1 => ?_
 all_goals try simp only [bs]
 all_goals cases hc : ((rt r1 0).b) with
 | true =>
  try simp only [bs]
  all_goals refine obind_congr fun r2 => ?_
  all_goals try simp only [bs]
  all_goals kernel_rfl
 | false =>
  try simp only [bs]
  all_goals kernel_rfl
theorem y_spec_VaultsOk (a0 a1 : T) {r : List T} (h : Yields (fun k => b_spec_VaultsOk (hl env k fi_spec_VaultsOk) (cl env k) a0 a1) r) : Yields (fun k => cl env k F_spec_VaultsOk [a0, a1]) r := Yields.call (fi := fi_spec_VaultsOk) rfl (fun H C => q_spec_VaultsOk H C a0 a1) h
noncomputable def l_laws_toRecordS_0 (H : List Item → CS → R) (x1 : T) (x2 : T) (x3 : T) : R := H (hdAt fi_laws_toRecordS.body 0) ([(0, .val 56 x1), (3, .sref 67 3 []), (4, .val 3 x2)], [(3, ⟨67, x3, .dp, false⟩)])
/- loop.example/heirlooms/laws.toRecordS -/
noncomputable abbrev b_laws_toRecordS (H : List Item → CS → R) (C : CallsE) (a0 : T) : R :=
 bif (decide (0 ≤ (a0.es.length : Int)) && (decide ((a0.es.length : Int) ≤ (a0.es.length : Int)) && decide (a0.es.length ≤ LIM))) then
 l_laws_toRecordS_0 H a0 (T.int (0 : Int)) (T.sl (List.replicate a0.es.length (T.st [(T.int (0 : Int)), (T.sl [])])))
 else
 none
theorem q_laws_toRecordS (H : List Item → CS → R) (C : CallsE) (a0 : T) : enterE fi_laws_toRecordS env H C [a0] = b_laws_toRecordS H C a0 := by kernel_rfl
theorem y_laws_toRecordS (a0 : T) {r : List T} (h : Yields (fun k => b_laws_toRecordS (hl env k fi_laws_toRecordS) (cl env k) a0) r) : Yields (fun k => cl env k F_laws_toRecordS [a0]) r := Yields.call (fi := fi_laws_toRecordS) rfl (fun H C => q_laws_toRecordS H C a0) h
noncomputable abbrev b_laws_toRecordS_0 (H : List Item → CS → R) (C : CallsE) (x1 : T) (x2 : T) (x3 : T) : R :=
 bif (decide (x2.i < (x1.es.length : Int))) then
 bif (decide (0 ≤ x2.i) && decide (x2.i.toNat < x1.es.length)) then
 obind (C F_laws_toRecord [(x1.nth x2.i.toNat)]) fun r1 =>
 bif (decide (0 ≤ x2.i) && decide (x2.i.toNat < x3.es.length)) then
 l_laws_toRecordS_0 H x1 (T.int (IntKind.wrap .i64 (x2.i + (1 : Int)))) (T.sl (x3.es.set x2.i.toNat (T.st [((rt r1 0).fld 0), ((rt r1 0).fld 1)])))
 else
 none
 else
 none
 else
 some [x3]
theorem q_laws_toRecordS_0 (H : List Item → CS → R) (C : CallsE) (x1 : T) (x2 : T) (x3 : T) : headE fi_laws_toRecordS env H C (hdAt fi_laws_toRecordS.body 0) ([(0, .val 56 x1), (3, .sref 67 3 []), (4, .val 3 x2)], [(3, ⟨67, x3, .dp, false⟩)]) = b_laws_toRecordS_0 H C x1 x2 x3 := by kernel_rfl
theorem y_laws_toRecordS_0 (x1 : T) (x2 : T) (x3 : T) {r : List T} (h : Yields (fun k => b_laws_toRecordS_0 (hl env k fi_laws_toRecordS) (cl env k) x1 x2 x3) r) : Yields (fun k => l_laws_toRecordS_0 (hl env k fi_laws_toRecordS) x1 x2 x3) r := Yields.head (fun H C => q_laws_toRecordS_0 H C x1 x2 x3) h
/- loop.example/heirlooms/laws.toKept -/
noncomputable abbrev b_laws_toKept (H : List Item → CS → R) (C : CallsE) (a0 : T) : R :=
 obind (C F_laws_toValue [(a0.fld 1)]) fun r1 =>
 some [(T.st [(a0.fld 0), (T.st [((rt r1 0).fld 0), ((rt r1 0).fld 1), ((rt r1 0).fld 2), ((rt r1 0).fld 3)])])]
theorem q_laws_toKept (H : List Item → CS → R) (C : CallsE) (a0 : T) : enterE fi_laws_toKept env H C [a0] = b_laws_toKept H C a0 := by kernel_rfl
theorem y_laws_toKept (a0 : T) {r : List T} (h : Yields (fun k => b_laws_toKept (hl env k fi_laws_toKept) (cl env k) a0) r) : Yields (fun k => cl env k F_laws_toKept [a0]) r := Yields.call (fi := fi_laws_toKept) rfl (fun H C => q_laws_toKept H C a0) h
noncomputable def l_impl_VaultsOk_0 (H : List Item → CS → R) (x1 : T) (x2 : T) (x3 : T) (x4 : T) (x5 : T) : R := H (hdAt fi_impl_VaultsOk.body 0) ([(0, .val 27 x1), (1, .val 29 x2), (15, .val 29 x3), (16, .val 3 x4), (17, .val 3 x5)], [])
/- loop.example/heirlooms/impl.VaultsOk -/
noncomputable abbrev b_impl_VaultsOk (H : List Item → CS → R) (C : CallsE) (a0 a1 : T) : R :=
 obind (C F_impl_KindsOk [a0]) fun r1 =>
 bif (!(rt r1 0).b) then
 some [(T.bool false)]
 else
 bif (decide ((a1.es.length : Int) > (36 : Int))) then
 some [(T.bool false)]
 else
 l_impl_VaultsOk_0 H a0 a1 a1 (T.int (a1.es.length : Int)) (T.int (0 : Int))
theorem e_impl_VaultsOk (H : List Item → CS → R) (C : CallsE) (a0 a1 : T) : enterE fi_impl_VaultsOk env H C [a0, a1] =
 obind (C F_impl_KindsOk [a0]) fun r1 =>
 bif ((!((!(rt r1 0).b) == false)) || true) then
 bif ((!((!(rt r1 0).b) == false)) || ((!(rt r1 0).b) == false)) then
 bif ((!((!(rt r1 0).b) == false)) || ((((!(rt r1 0).b) == false) && true) && true)) then
 bif (bif (!(rt r1 0).b) then true else ((!(rt r1 0).b) == false)) then
 bif (bif (!(rt r1 0).b) then (T.bool true) else (T.bool (decide ((a1.es.length : Int) > (36 : Int))))).b then
 some [(T.bool false)]
 else
 l_impl_VaultsOk_0 H a0 a1 a1 (T.int (a1.es.length : Int)) (T.int (0 : Int))
 else
 none
 else
 none
 else
 none
 else
 none := by kernel_rfl
theorem q_impl_VaultsOk (H : List Item → CS → R) (C : CallsE) (a0 a1 : T) : enterE fi_impl_VaultsOk env H C [a0, a1] = b_impl_VaultsOk H C a0 a1 := by
 refine (e_impl_VaultsOk H C a0 a1).trans ?_
 unfold b_impl_VaultsOk
 all_goals refine obind_congr fun r1 => ?_
 all_goals try simp only [bs]
 all_goals cases hc : ((!(rt r1 0).b)) with
 | true =>
  try simp only [bs]
  all_goals kernel_rfl
 | false =>
  try simp only [bs]
  all_goals cases hc : ((decide ((a1.es.length : Int) > (36 : Int)))) with
  | true =>
   try simp only [bs]
   all_goals kernel_rfl
  | false =>
   try simp only [bs]
   all_goals kernel_rfl
theorem y_impl_VaultsOk (a0 a1 : T) {r : List T} (h : Yields (fun k => b_impl_VaultsOk (hl env k fi_impl_VaultsOk) (cl env k) a0 a1) r) : Yields (fun k => cl env k F_impl_VaultsOk [a0, a1]) r := Yields.call (fi := fi_impl_VaultsOk) rfl (fun H C => q_impl_VaultsOk H C a0 a1) h
noncomputable abbrev b_impl_VaultsOk_0 (H : List Item → CS → R) (C : CallsE) (x1 : T) (x2 : T) (x3 : T) (x4 : T) (x5 : T) : R :=
 bif (decide (x5.i < x4.i)) then
 bif (decide (0 ≤ x5.i) && decide (x5.i.toNat < x3.es.length)) then
 bif (decide (((x3.nth x5.i.toNat).fld 0).i < (0 : Int))) then
 some [(T.bool false)]
 else
 bif (decide (((x3.nth x5.i.toNat).fld 0).i ≥ (4 : Int))) then
 some [(T.bool false)]
 else
 obind (C F_impl_keepable [x1, ((x3.nth x5.i.toNat).fld 1)]) fun r1 =>
 bif (!(rt r1 0).b) then
 some [(T.bool false)]
 else
 bif (decide (x5.i > (0 : Int))) then
 bif (decide (0 ≤ (IntKind.wrap .i64 (x5.i - (1 : Int)))) && decide ((IntKind.wrap .i64 (x5.i - (1 : Int))).toNat < x2.es.length)) then
 obind (C F_impl_vaultBefore [(x2.nth ((IntKind.wrap .i64 (x5.i - (1 : Int))).toNat)), (x3.nth x5.i.toNat)]) fun r2 =>
 bif (!(rt r2 0).b) then
 some [(T.bool false)]
 else
 l_impl_VaultsOk_0 H x1 x2 x3 x4 (T.int (IntKind.wrap .i64 (x5.i + (1 : Int))))
 else
 none
 else
 l_impl_VaultsOk_0 H x1 x2 x3 x4 (T.int (IntKind.wrap .i64 (x5.i + (1 : Int))))
 else
 none
 else
 some [(T.bool true)]
theorem e_impl_VaultsOk_0 (H : List Item → CS → R) (C : CallsE) (x1 : T) (x2 : T) (x3 : T) (x4 : T) (x5 : T) : headE fi_impl_VaultsOk env H C (hdAt fi_impl_VaultsOk.body 0) ([(0, .val 27 x1), (1, .val 29 x2), (15, .val 29 x3), (16, .val 3 x4), (17, .val 3 x5)], []) =
 bif (decide (x5.i < x4.i)) then
 bif (decide (0 ≤ x5.i) && decide (x5.i.toNat < x3.es.length)) then
 bif ((!((decide (((x3.nth x5.i.toNat).fld 0).i < (0 : Int))) == false)) || true) then
 bif ((!((decide (((x3.nth x5.i.toNat).fld 0).i < (0 : Int))) == false)) || ((decide (((x3.nth x5.i.toNat).fld 0).i < (0 : Int))) == false)) then
 bif ((!((decide (((x3.nth x5.i.toNat).fld 0).i < (0 : Int))) == false)) || ((((decide (((x3.nth x5.i.toNat).fld 0).i < (0 : Int))) == false) && true) && true)) then
 bif (bif (decide (((x3.nth x5.i.toNat).fld 0).i < (0 : Int))) then true else ((decide (((x3.nth x5.i.toNat).fld 0).i < (0 : Int))) == false)) then
 bif ((!((bif (decide (((x3.nth x5.i.toNat).fld 0).i < (0 : Int))) then (T.bool true) else (T.bool (decide (((x3.nth x5.i.toNat).fld 0).i ≥ (4 : Int))))).b == false)) || true) then
 bif ((!((bif (decide (((x3.nth x5.i.toNat).fld 0).i < (0 : Int))) then (T.bool true) else (T.bool (decide (((x3.nth x5.i.toNat).fld 0).i ≥ (4 : Int))))).b == false)) || true) then
 bif ((!((bif (decide (((x3.nth x5.i.toNat).fld 0).i < (0 : Int))) then (T.bool true) else (T.bool (decide (((x3.nth x5.i.toNat).fld 0).i ≥ (4 : Int))))).b == false)) || ((bif (decide (((x3.nth x5.i.toNat).fld 0).i < (0 : Int))) then (T.bool true) else (T.bool (decide (((x3.nth x5.i.toNat).fld 0).i ≥ (4 : Int))))).b == false)) then
 bif ((!((bif (decide (((x3.nth x5.i.toNat).fld 0).i < (0 : Int))) then (T.bool true) else (T.bool (decide (((x3.nth x5.i.toNat).fld 0).i ≥ (4 : Int))))).b == false)) || (((bif (decide (((x3.nth x5.i.toNat).fld 0).i < (0 : Int))) then (T.bool true) else (T.bool (decide (((x3.nth x5.i.toNat).fld 0).i ≥ (4 : Int))))).b == false) && (((bif (decide (((x3.nth x5.i.toNat).fld 0).i < (0 : Int))) then (T.bool true) else (T.bool (decide (((x3.nth x5.i.toNat).fld 0).i ≥ (4 : Int))))).b == false) && true))) then
 obind ((bif ((bif (decide (((x3.nth x5.i.toNat).fld 0).i < (0 : Int))) then (T.bool true) else (T.bool (decide (((x3.nth x5.i.toNat).fld 0).i ≥ (4 : Int))))).b == false) then C F_impl_keepable [x1, ((x3.nth x5.i.toNat).fld 1)] else some [])) fun r1 =>
 bif ((!((bif (decide (((x3.nth x5.i.toNat).fld 0).i < (0 : Int))) then (T.bool true) else (T.bool (decide (((x3.nth x5.i.toNat).fld 0).i ≥ (4 : Int))))).b == false)) || ((bif (decide (((x3.nth x5.i.toNat).fld 0).i < (0 : Int))) then (T.bool true) else (T.bool (decide (((x3.nth x5.i.toNat).fld 0).i ≥ (4 : Int))))).b == false)) then
 bif (bif (bif (decide (((x3.nth x5.i.toNat).fld 0).i < (0 : Int))) then (T.bool true) else (T.bool (decide (((x3.nth x5.i.toNat).fld 0).i ≥ (4 : Int))))).b then true else ((bif (decide (((x3.nth x5.i.toNat).fld 0).i < (0 : Int))) then (T.bool true) else (T.bool (decide (((x3.nth x5.i.toNat).fld 0).i ≥ (4 : Int))))).b == false)) then
 bif (bif (bif (decide (((x3.nth x5.i.toNat).fld 0).i < (0 : Int))) then (T.bool true) else (T.bool (decide (((x3.nth x5.i.toNat).fld 0).i ≥ (4 : Int))))).b then (T.bool true) else (T.bool (!(rt r1 0).b))).b then
 some [(T.bool false)]
 else
 bif ((!((decide (x5.i > (0 : Int))) == true)) || true) then
 bif ((!((decide (x5.i > (0 : Int))) == true)) || true) then
 bif ((!((decide (x5.i > (0 : Int))) == true)) || ((((decide (x5.i > (0 : Int))) == true) && true) && true)) then
 bif ((!((decide (x5.i > (0 : Int))) == true)) || ((((decide (x5.i > (0 : Int))) == true) && (((decide (x5.i > (0 : Int))) == true) && true)) && (decide (0 ≤ (IntKind.wrap .i64 (x5.i - (1 : Int)))) && decide ((IntKind.wrap .i64 (x5.i - (1 : Int))).toNat < x2.es.length)))) then
 bif ((!((decide (x5.i > (0 : Int))) == true)) || ((decide (x5.i > (0 : Int))) == true)) then
 bif ((!((decide (x5.i > (0 : Int))) == true)) || true) then
 bif ((!((decide (x5.i > (0 : Int))) == true)) || (((decide (x5.i > (0 : Int))) == true) && (((decide (x5.i > (0 : Int))) == true) && true))) then
 obind ((bif ((decide (x5.i > (0 : Int))) == true) then C F_impl_vaultBefore [(x2.nth ((IntKind.wrap .i64 (x5.i - (1 : Int))).toNat)), (x3.nth x5.i.toNat)] else some [])) fun r2 =>
 bif ((!((decide (x5.i > (0 : Int))) == true)) || ((decide (x5.i > (0 : Int))) == true)) then
 bif (bif (decide (x5.i > (0 : Int))) then ((decide (x5.i > (0 : Int))) == true) else true) then
 bif (bif (decide (x5.i > (0 : Int))) then (T.bool (!(rt r2 0).b)) else (T.bool false)).b then
 some [(T.bool false)]
 else
 l_impl_VaultsOk_0 H x1 x2 x3 x4 (T.int (IntKind.wrap .i64 (x5.i + (1 : Int))))
 else
 none
 else
 none
 else
 none
 else
 none
 else
 none
 else
 none
 else
 none
 else
 none
 else
 none
 else
 none
 else
 none
 else
 none
 else
 none
 else
 none
 else
 none
 else
 none
 else
 none
 else
 none
 else
 none
 else
 none
 else
 some [(T.bool true)] := by kernel_rfl
theorem q_impl_VaultsOk_0 (H : List Item → CS → R) (C : CallsE) (x1 : T) (x2 : T) (x3 : T) (x4 : T) (x5 : T) : headE fi_impl_VaultsOk env H C (hdAt fi_impl_VaultsOk.body 0) ([(0, .val 27 x1), (1, .val 29 x2), (15, .val 29 x3), (16, .val 3 x4), (17, .val 3 x5)], []) = b_impl_VaultsOk_0 H C x1 x2 x3 x4 x5 := by
 refine (e_impl_VaultsOk_0 H C x1 x2 x3 x4 x5).trans ?_
 unfold b_impl_VaultsOk_0
 all_goals cases hc : ((decide (x5.i < x4.i))) with
 | true =>
  try simp only [bs]
  all_goals cases hc : ((decide (0 ≤ x5.i) && decide (x5.i.toNat < x3.es.length))) with
  | true =>
   try simp only [bs]
   all_goals cases hc : ((decide (((x3.nth x5.i.toNat).fld 0).i < (0 : Int)))) with
   | true =>
    try simp only [bs]
    all_goals kernel_rfl
   | false =>
    try simp only [bs]
    all_goals cases hc : ((decide (((x3.nth x5.i.toNat).fld 0).i ≥ (4 : Int)))) with
    | true =>
     try simp only [bs]
     all_goals kernel_rfl
    | false =>
     try simp only [bs]
     all_goals refine obind_congr fun r1 => ?_
     all_goals try simp only [bs]
     all_goals cases hc : ((!(rt r1 0).b)) with
     | true =>
      try simp only [bs]
      all_goals kernel_rfl
     | false =>
      try simp only [bs]
      all_goals cases hc : ((decide (x5.i > (0 : Int)))) with
      | true =>
       try simp only [bs]
       all_goals cases hc : ((decide (0 ≤ (IntKind.wrap .i64 (x5.i - (1 : Int)))) && decide ((IntKind.wrap .i64 (x5.i - (1 : Int))).toNat < x2.es.length))) with
       | true =>
        try simp only [bs]
        all_goals refine obind_congr fun r2 => ?_
        all_goals try simp only [bs]
        all_goals cases hc : ((!(rt r2 0).b)) with
        | true =>
         try simp only [bs]
         all_goals kernel_rfl
        | false =>
         try simp only [bs]
         all_goals kernel_rfl
       | false =>
        try simp only [bs]
        all_goals kernel_rfl
      | false =>
       try simp only [bs]
       all_goals kernel_rfl
  | false =>
   try simp only [bs]
   all_goals kernel_rfl
 | false =>
  try simp only [bs]
  all_goals kernel_rfl
theorem y_impl_VaultsOk_0 (x1 : T) (x2 : T) (x3 : T) (x4 : T) (x5 : T) {r : List T} (h : Yields (fun k => b_impl_VaultsOk_0 (hl env k fi_impl_VaultsOk) (cl env k) x1 x2 x3 x4 x5) r) : Yields (fun k => l_impl_VaultsOk_0 (hl env k fi_impl_VaultsOk) x1 x2 x3 x4 x5) r := Yields.head (fun H C => q_impl_VaultsOk_0 H C x1 x2 x3 x4 x5) h
/- loop.example/heirlooms/impl.kindIn -/
noncomputable abbrev b_impl_kindIn (H : List Item → CS → R) (C : CallsE) (a0 a1 : T) : R :=
 obind (C F_impl_kindAt [a1]) fun r1 =>
 bif (rt r1 2).b then
 bif (decide ((rt r1 0).i < (a0.es.length : Int))) then
 bif (decide (0 ≤ (rt r1 0).i) && decide (((rt r1 0).i).toNat < a0.es.length)) then
 some [(T.bool (decide ((rt r1 1).i < (((a0.nth (((rt r1 0).i).toNat)).es).length : Int))))]
 else
 none
 else
 some [(T.bool false)]
 else
 some [(T.bool false)]
theorem e_impl_kindIn (H : List Item → CS → R) (C : CallsE) (a0 a1 : T) : enterE fi_impl_kindIn env H C [a0, a1] =
 obind (C F_impl_kindAt [a1]) fun r1 =>
 bif ((!((rt r1 2).b == true)) || true) then
 bif ((!((rt r1 2).b == true)) || true) then
 bif ((!((rt r1 2).b == true)) || ((rt r1 2).b == true)) then
 bif ((!((rt r1 2).b == true)) || ((((rt r1 2).b == true) && ((rt r1 2).b == true)) && true)) then
 bif (bif (rt r1 2).b then ((rt r1 2).b == true) else true) then
 bif ((!((bif (rt r1 2).b then (T.bool (decide ((rt r1 0).i < (a0.es.length : Int)))) else (T.bool false)).b == true)) || true) then
 bif ((!((bif (rt r1 2).b then (T.bool (decide ((rt r1 0).i < (a0.es.length : Int)))) else (T.bool false)).b == true)) || true) then
 bif ((!((bif (rt r1 2).b then (T.bool (decide ((rt r1 0).i < (a0.es.length : Int)))) else (T.bool false)).b == true)) || true) then
 bif ((!((bif (rt r1 2).b then (T.bool (decide ((rt r1 0).i < (a0.es.length : Int)))) else (T.bool false)).b == true)) || ((((bif (rt r1 2).b then (T.bool (decide ((rt r1 0).i < (a0.es.length : Int)))) else (T.bool false)).b == true) && (((bif (rt r1 2).b then (T.bool (decide ((rt r1 0).i < (a0.es.length : Int)))) else (T.bool false)).b == true) && true)) && (decide (0 ≤ (rt r1 0).i) && decide (((rt r1 0).i).toNat < a0.es.length)))) then
 bif ((!((bif (rt r1 2).b then (T.bool (decide ((rt r1 0).i < (a0.es.length : Int)))) else (T.bool false)).b == true)) || ((bif (rt r1 2).b then (T.bool (decide ((rt r1 0).i < (a0.es.length : Int)))) else (T.bool false)).b == true)) then
 bif ((!((bif (rt r1 2).b then (T.bool (decide ((rt r1 0).i < (a0.es.length : Int)))) else (T.bool false)).b == true)) || ((bif (rt r1 2).b then (T.bool (decide ((rt r1 0).i < (a0.es.length : Int)))) else (T.bool false)).b == true)) then
 bif ((!((bif (rt r1 2).b then (T.bool (decide ((rt r1 0).i < (a0.es.length : Int)))) else (T.bool false)).b == true)) || ((((bif (rt r1 2).b then (T.bool (decide ((rt r1 0).i < (a0.es.length : Int)))) else (T.bool false)).b == true) && ((bif (rt r1 2).b then (T.bool (decide ((rt r1 0).i < (a0.es.length : Int)))) else (T.bool false)).b == true)) && true)) then
 bif (bif (bif (rt r1 2).b then (T.bool (decide ((rt r1 0).i < (a0.es.length : Int)))) else (T.bool false)).b then ((bif (rt r1 2).b then (T.bool (decide ((rt r1 0).i < (a0.es.length : Int)))) else (T.bool false)).b == true) else true) then
 some [(bif (bif (rt r1 2).b then (T.bool (decide ((rt r1 0).i < (a0.es.length : Int)))) else (T.bool false)).b then (T.bool (decide ((rt r1 1).i < (((a0.nth (((rt r1 0).i).toNat)).es).length : Int)))) else (T.bool false))]
 else
 none
 else
 none
 else
 none
 else
 none
 else
 none
 else
 none
 else
 none
 else
 none
 else
 none
 else
 none
 else
 none
 else
 none
 else
 none := by kernel_rfl
theorem q_impl_kindIn (H : List Item → CS → R) (C : CallsE) (a0 a1 : T) : enterE fi_impl_kindIn env H C [a0, a1] = b_impl_kindIn H C a0 a1 := by
 refine (e_impl_kindIn H C a0 a1).trans ?_
 unfold b_impl_kindIn
 all_goals refine obind_congr fun r1 => ?_
 all_goals try simp only [bs]
 all_goals cases hc : ((rt r1 2).b) with
 | true =>
  try simp only [bs]
  all_goals cases hc : ((decide ((rt r1 0).i < (a0.es.length : Int)))) with
  | true =>
   try simp only [bs]
   all_goals cases hc : ((decide (0 ≤ (rt r1 0).i) && decide (((rt r1 0).i).toNat < a0.es.length))) with
   | true =>
    try simp only [bs]
    all_goals kernel_rfl
   | false =>
    try simp only [bs]
    all_goals kernel_rfl
  | false =>
   try simp only [bs]
   all_goals kernel_rfl
 | false =>
  try simp only [bs]
  all_goals kernel_rfl
theorem y_impl_kindIn (a0 a1 : T) {r : List T} (h : Yields (fun k => b_impl_kindIn (hl env k fi_impl_kindIn) (cl env k) a0 a1) r) : Yields (fun k => cl env k F_impl_kindIn [a0, a1]) r := Yields.call (fi := fi_impl_kindIn) rfl (fun H C => q_impl_kindIn H C a0 a1) h
noncomputable def l_laws_eqRecordS_0 (H : List Item → CS → R) (x1 : T) (x2 : T) (x3 : T) : R := H (hdAt fi_laws_eqRecordS.body 0) ([(0, .val 67 x1), (1, .val 67 x2), (5, .val 3 x3)], [])
/- loop.example/heirlooms/laws.eqRecordS -/
noncomputable abbrev b_laws_eqRecordS (H : List Item → CS → R) (C : CallsE) (a0 a1 : T) : R :=
 bif ((a0.es.length : Int) != (a1.es.length : Int)) then
 some [(T.bool false)]
 else
 l_laws_eqRecordS_0 H a0 a1 (T.int (0 : Int))
theorem q_laws_eqRecordS (H : List Item → CS → R) (C : CallsE) (a0 a1 : T) : enterE fi_laws_eqRecordS env H C [a0, a1] = b_laws_eqRecordS H C a0 a1 := by kernel_rfl
theorem y_laws_eqRecordS (a0 a1 : T) {r : List T} (h : Yields (fun k => b_laws_eqRecordS (hl env k fi_laws_eqRecordS) (cl env k) a0 a1) r) : Yields (fun k => cl env k F_laws_eqRecordS [a0, a1]) r := Yields.call (fi := fi_laws_eqRecordS) rfl (fun H C => q_laws_eqRecordS H C a0 a1) h
noncomputable abbrev b_laws_eqRecordS_0 (H : List Item → CS → R) (C : CallsE) (x1 : T) (x2 : T) (x3 : T) : R :=
 bif (decide (x3.i < (x1.es.length : Int))) then
 bif (decide (0 ≤ x3.i) && decide (x3.i.toNat < x1.es.length)) then
 bif (decide (0 ≤ x3.i) && decide (x3.i.toNat < x2.es.length)) then
 obind (C F_laws_eqRecord [(x1.nth x3.i.toNat), (x2.nth x3.i.toNat)]) fun r1 =>
 bif (!(rt r1 0).b) then
 some [(T.bool false)]
 else
 l_laws_eqRecordS_0 H x1 x2 (T.int (IntKind.wrap .i64 (x3.i + (1 : Int))))
 else
 none
 else
 none
 else
 some [(T.bool true)]
theorem q_laws_eqRecordS_0 (H : List Item → CS → R) (C : CallsE) (x1 : T) (x2 : T) (x3 : T) : headE fi_laws_eqRecordS env H C (hdAt fi_laws_eqRecordS.body 0) ([(0, .val 67 x1), (1, .val 67 x2), (5, .val 3 x3)], []) = b_laws_eqRecordS_0 H C x1 x2 x3 := by kernel_rfl
theorem y_laws_eqRecordS_0 (x1 : T) (x2 : T) (x3 : T) {r : List T} (h : Yields (fun k => b_laws_eqRecordS_0 (hl env k fi_laws_eqRecordS) (cl env k) x1 x2 x3) r) : Yields (fun k => l_laws_eqRecordS_0 (hl env k fi_laws_eqRecordS) x1 x2 x3) r := Yields.head (fun H C => q_laws_eqRecordS_0 H C x1 x2 x3) h
/- loop.example/heirlooms/laws.eqKept -/
noncomputable abbrev b_laws_eqKept (H : List Item → CS → R) (C : CallsE) (a0 a1 : T) : R :=
 bif ((a0.fld 0).i != (a1.fld 0).i) then
 some [(T.bool false)]
 else
 obind (C F_laws_eqValue [(a0.fld 1), (a1.fld 1)]) fun r1 =>
 bif (!(rt r1 0).b) then
 some [(T.bool false)]
 else
 some [(T.bool true)]
theorem q_laws_eqKept (H : List Item → CS → R) (C : CallsE) (a0 a1 : T) : enterE fi_laws_eqKept env H C [a0, a1] = b_laws_eqKept H C a0 a1 := by kernel_rfl
theorem y_laws_eqKept (a0 a1 : T) {r : List T} (h : Yields (fun k => b_laws_eqKept (hl env k fi_laws_eqKept) (cl env k) a0 a1) r) : Yields (fun k => cl env k F_laws_eqKept [a0, a1]) r := Yields.call (fi := fi_laws_eqKept) rfl (fun H C => q_laws_eqKept H C a0 a1) h
noncomputable def l_spec_l9Find_0 (H : List Item → CS → R) (x1 : T) (x2 : T) (x3 : T) (x4 : T) : R := H (hdAt fi_spec_l9Find.body 0) ([(0, .val 29 x1), (1, .val 3 x2), (2, .val 9 x3), (7, .val 3 x4)], [])
/- loop.example/heirlooms/spec.l9Find -/
noncomputable abbrev b_spec_l9Find (H : List Item → CS → R) (C : CallsE) (a0 a1 a2 : T) : R :=
 l_spec_l9Find_0 H a0 a1 a2 (T.int (0 : Int))
theorem q_spec_l9Find (H : List Item → CS → R) (C : CallsE) (a0 a1 a2 : T) : enterE fi_spec_l9Find env H C [a0, a1, a2] = b_spec_l9Find H C a0 a1 a2 := by kernel_rfl
theorem y_spec_l9Find (a0 a1 a2 : T) {r : List T} (h : Yields (fun k => b_spec_l9Find (hl env k fi_spec_l9Find) (cl env k) a0 a1 a2) r) : Yields (fun k => cl env k F_spec_l9Find [a0, a1, a2]) r := Yields.call (fi := fi_spec_l9Find) rfl (fun H C => q_spec_l9Find H C a0 a1 a2) h
noncomputable abbrev b_spec_l9Find_0 (H : List Item → CS → R) (C : CallsE) (x1 : T) (x2 : T) (x3 : T) (x4 : T) : R :=
 bif (decide (x4.i < (x1.es.length : Int))) then
 bif (decide (0 ≤ x4.i) && decide (x4.i.toNat < x1.es.length)) then
 bif (((x1.nth x4.i.toNat).fld 0).i == x2.i) then
 bif (((((x1.nth x4.i.toNat).fld 1).fld 0).s).toList == x3.s.toList) then
 some [x4]
 else
 l_spec_l9Find_0 H x1 x2 x3 (T.int (IntKind.wrap .i64 (x4.i + (1 : Int))))
 else
 l_spec_l9Find_0 H x1 x2 x3 (T.int (IntKind.wrap .i64 (x4.i + (1 : Int))))
 else
 none
 else
 some [(T.int (-1 : Int))]
theorem e_spec_l9Find_0 (H : List Item → CS → R) (C : CallsE) (x1 : T) (x2 : T) (x3 : T) (x4 : T) : headE fi_spec_l9Find env H C (hdAt fi_spec_l9Find.body 0) ([(0, .val 29 x1), (1, .val 3 x2), (2, .val 9 x3), (7, .val 3 x4)], []) =
 bif (decide (x4.i < (x1.es.length : Int))) then
 bif (decide (0 ≤ x4.i) && decide (x4.i.toNat < x1.es.length)) then
 bif ((!((((x1.nth x4.i.toNat).fld 0).i == x2.i) == true)) || true) then
 bif ((!((((x1.nth x4.i.toNat).fld 0).i == x2.i) == true)) || true) then
 bif ((!((((x1.nth x4.i.toNat).fld 0).i == x2.i) == true)) || ((((((x1.nth x4.i.toNat).fld 0).i == x2.i) == true) && (((((x1.nth x4.i.toNat).fld 0).i == x2.i) == true) && true)) && (decide (0 ≤ x4.i) && decide (x4.i.toNat < x1.es.length)))) then
 bif ((!((((x1.nth x4.i.toNat).fld 0).i == x2.i) == true)) || ((((x1.nth x4.i.toNat).fld 0).i == x2.i) == true)) then
 bif ((!((((x1.nth x4.i.toNat).fld 0).i == x2.i) == true)) || ((((x1.nth x4.i.toNat).fld 0).i == x2.i) == true)) then
 bif ((!((((x1.nth x4.i.toNat).fld 0).i == x2.i) == true)) || ((((x1.nth x4.i.toNat).fld 0).i == x2.i) == true)) then
 bif ((!((((x1.nth x4.i.toNat).fld 0).i == x2.i) == true)) || true) then
 bif ((!((((x1.nth x4.i.toNat).fld 0).i == x2.i) == true)) || ((((((x1.nth x4.i.toNat).fld 0).i == x2.i) == true) && ((((x1.nth x4.i.toNat).fld 0).i == x2.i) == true)) && true)) then
 bif (bif (((x1.nth x4.i.toNat).fld 0).i == x2.i) then ((((x1.nth x4.i.toNat).fld 0).i == x2.i) == true) else true) then
 bif (bif (((x1.nth x4.i.toNat).fld 0).i == x2.i) then (T.bool (((((x1.nth x4.i.toNat).fld 1).fld 0).s).toList == x3.s.toList)) else (T.bool false)).b then
 some [x4]
 else
 l_spec_l9Find_0 H x1 x2 x3 (T.int (IntKind.wrap .i64 (x4.i + (1 : Int))))
 else
 none
 else
 none
 else
 none
 else
 none
 else
 none
 else
 none
 else
 none
 else
 none
 else
 none
 else
 none
 else
 some [(T.int (-1 : Int))] := by kernel_rfl
theorem q_spec_l9Find_0 (H : List Item → CS → R) (C : CallsE) (x1 : T) (x2 : T) (x3 : T) (x4 : T) : headE fi_spec_l9Find env H C (hdAt fi_spec_l9Find.body 0) ([(0, .val 29 x1), (1, .val 3 x2), (2, .val 9 x3), (7, .val 3 x4)], []) = b_spec_l9Find_0 H C x1 x2 x3 x4 := by
 refine (e_spec_l9Find_0 H C x1 x2 x3 x4).trans ?_
 unfold b_spec_l9Find_0
 all_goals cases hc : ((decide (x4.i < (x1.es.length : Int)))) with
 | true =>
  try simp only [bs]
  all_goals cases hc : ((decide (0 ≤ x4.i) && decide (x4.i.toNat < x1.es.length))) with
  | true =>
   try simp only [bs]
   all_goals cases hc : ((((x1.nth x4.i.toNat).fld 0).i == x2.i)) with
   | true =>
    try simp only [bs]
    all_goals cases hc : ((((((x1.nth x4.i.toNat).fld 1).fld 0).s).toList == x3.s.toList)) with
    | true =>
     try simp only [bs]
     all_goals kernel_rfl
    | false =>
     try simp only [bs]
     all_goals kernel_rfl
   | false =>
    try simp only [bs]
    all_goals kernel_rfl
  | false =>
   try simp only [bs]
   all_goals kernel_rfl
 | false =>
  try simp only [bs]
  all_goals kernel_rfl
theorem y_spec_l9Find_0 (x1 : T) (x2 : T) (x3 : T) (x4 : T) {r : List T} (h : Yields (fun k => b_spec_l9Find_0 (hl env k fi_spec_l9Find) (cl env k) x1 x2 x3 x4) r) : Yields (fun k => l_spec_l9Find_0 (hl env k fi_spec_l9Find) x1 x2 x3 x4) r := Yields.head (fun H C => q_spec_l9Find_0 H C x1 x2 x3 x4) h
noncomputable def l_spec_l2Copy_0 (H : List Item → CS → R) (x1 : T) (x2 : T) (x3 : T) (x4 : T) : R := H (hdAt fi_spec_l2Copy.body 0) ([(1, .pref 37 1 []), (2, .pref 37 2 []), (3, .pref 37 3 []), (4, .val 3 x1)], [(1, ⟨37, x2, .fz, true⟩), (2, ⟨37, x3, .dp, true⟩), (3, ⟨37, x4, (.st [.dp, .dp, .dp, (.sl .dp)]), true⟩)])
noncomputable def l_spec_l2Copy_1 (H : List Item → CS → R) (x1 : T) (x2 : T) (x3 : T) (x4 : T) : R := H (hdAt fi_spec_l2Copy.body 0) ([(1, .pref 37 1 []), (2, .pref 37 2 []), (3, .pref 37 3 []), (4, .val 3 x1)], [(1, ⟨37, x2, .fz, true⟩), (2, ⟨37, x3, .dp, true⟩), (3, ⟨37, x4, (.st [.dp, .dp, (.sl .dp), (.sl .dp)]), true⟩)])
/- loop.example/heirlooms/spec.l2Copy -/
noncomputable abbrev b_spec_l2Copy (H : List Item → CS → R) (C : CallsE) (a0 : T) : R :=
 bif (decide (([] : List T).length + ((a0.fld 3).es).length ≤ LIM)) then
 l_spec_l2Copy_0 H (T.int (0 : Int)) a0 (T.st [(T.str (⟨#[]⟩ : ByteArray)), (T.int (0 : Int)), (T.sl []), (T.sl [])]) (T.st [(a0.fld 0), (a0.fld 1), (T.sl []), (T.sl (([] : List T) ++ (a0.fld 3).es))])
 else
 none
theorem q_spec_l2Copy (H : List Item → CS → R) (C : CallsE) (a0 : T) : enterE fi_spec_l2Copy env H C [a0] = b_spec_l2Copy H C a0 := by kernel_rfl
theorem y_spec_l2Copy (a0 : T) {r : List T} (h : Yields (fun k => b_spec_l2Copy (hl env k fi_spec_l2Copy) (cl env k) a0) r) : Yields (fun k => cl env k F_spec_l2Copy [a0]) r := Yields.call (fi := fi_spec_l2Copy) rfl (fun H C => q_spec_l2Copy H C a0) h
noncomputable abbrev b_spec_l2Copy_0 (H : List Item → CS → R) (C : CallsE) (x1 : T) (x2 : T) (x3 : T) (x4 : T) : R :=
 bif (decide (x1.i < (((x2.fld 2).es).length : Int))) then
 bif (decide (0 ≤ x1.i) && decide (x1.i.toNat < ((x2.fld 2).es).length)) then
 obind (C F_spec_l2Copy [((x2.fld 2).nth x1.i.toNat)]) fun r1 =>
 bif (decide (((x4.fld 2).es).length + [(T.st [((rt r1 0).fld 0), ((rt r1 0).fld 1), ((rt r1 0).fld 2), ((rt r1 0).fld 3)])].length ≤ LIM)) then
 l_spec_l2Copy_1 H (T.int (IntKind.wrap .i64 (x1.i + (1 : Int)))) x2 x3 (T.st (x4.fs.set 2 (T.sl ((x4.fld 2).es ++ [(T.st [((rt r1 0).fld 0), ((rt r1 0).fld 1), ((rt r1 0).fld 2), ((rt r1 0).fld 3)])]))))
 else
 none
 else
 none
 else
 some [(T.st [(x4.fld 0), (x4.fld 1), (x4.fld 2), (x4.fld 3)])]
theorem q_spec_l2Copy_0 (H : List Item → CS → R) (C : CallsE) (x1 : T) (x2 : T) (x3 : T) (x4 : T) : headE fi_spec_l2Copy env H C (hdAt fi_spec_l2Copy.body 0) ([(1, .pref 37 1 []), (2, .pref 37 2 []), (3, .pref 37 3 []), (4, .val 3 x1)], [(1, ⟨37, x2, .fz, true⟩), (2, ⟨37, x3, .dp, true⟩), (3, ⟨37, x4, (.st [.dp, .dp, .dp, (.sl .dp)]), true⟩)]) = b_spec_l2Copy_0 H C x1 x2 x3 x4 := by kernel_rfl
theorem y_spec_l2Copy_0 (x1 : T) (x2 : T) (x3 : T) (x4 : T) {r : List T} (h : Yields (fun k => b_spec_l2Copy_0 (hl env k fi_spec_l2Copy) (cl env k) x1 x2 x3 x4) r) : Yields (fun k => l_spec_l2Copy_0 (hl env k fi_spec_l2Copy) x1 x2 x3 x4) r := Yields.head (fun H C => q_spec_l2Copy_0 H C x1 x2 x3 x4) h
noncomputable abbrev b_spec_l2Copy_1 (H : List Item → CS → R) (C : CallsE) (x1 : T) (x2 : T) (x3 : T) (x4 : T) : R :=
 bif (decide (x1.i < (((x2.fld 2).es).length : Int))) then
 bif (decide (0 ≤ x1.i) && decide (x1.i.toNat < ((x2.fld 2).es).length)) then
 obind (C F_spec_l2Copy [((x2.fld 2).nth x1.i.toNat)]) fun r1 =>
 bif (decide (((x4.fld 2).es).length + [(T.st [((rt r1 0).fld 0), ((rt r1 0).fld 1), ((rt r1 0).fld 2), ((rt r1 0).fld 3)])].length ≤ LIM)) then
 l_spec_l2Copy_1 H (T.int (IntKind.wrap .i64 (x1.i + (1 : Int)))) x2 x3 (T.st (x4.fs.set 2 (T.sl ((x4.fld 2).es ++ [(T.st [((rt r1 0).fld 0), ((rt r1 0).fld 1), ((rt r1 0).fld 2), ((rt r1 0).fld 3)])]))))
 else
 none
 else
 none
 else
 some [(T.st [(x4.fld 0), (x4.fld 1), (x4.fld 2), (x4.fld 3)])]
theorem q_spec_l2Copy_1 (H : List Item → CS → R) (C : CallsE) (x1 : T) (x2 : T) (x3 : T) (x4 : T) : headE fi_spec_l2Copy env H C (hdAt fi_spec_l2Copy.body 0) ([(1, .pref 37 1 []), (2, .pref 37 2 []), (3, .pref 37 3 []), (4, .val 3 x1)], [(1, ⟨37, x2, .fz, true⟩), (2, ⟨37, x3, .dp, true⟩), (3, ⟨37, x4, (.st [.dp, .dp, (.sl .dp), (.sl .dp)]), true⟩)]) = b_spec_l2Copy_1 H C x1 x2 x3 x4 := by kernel_rfl
theorem y_spec_l2Copy_1 (x1 : T) (x2 : T) (x3 : T) (x4 : T) {r : List T} (h : Yields (fun k => b_spec_l2Copy_1 (hl env k fi_spec_l2Copy) (cl env k) x1 x2 x3 x4) r) : Yields (fun k => l_spec_l2Copy_1 (hl env k fi_spec_l2Copy) x1 x2 x3 x4) r := Yields.head (fun H C => q_spec_l2Copy_1 H C x1 x2 x3 x4) h
/- loop.example/heirlooms/impl.vaultAt -/
noncomputable abbrev b_impl_vaultAt (H : List Item → CS → R) (C : CallsE) (a0 a1 a2 : T) : R :=
 obind (C F_slices_IndexFunc_impl_Kept [a0, (T.fn 80 [a1, a2])]) fun r1 =>
 some [(rt r1 0)]
theorem q_impl_vaultAt (H : List Item → CS → R) (C : CallsE) (a0 a1 a2 : T) : enterE fi_impl_vaultAt env H C [a0, a1, a2] = b_impl_vaultAt H C a0 a1 a2 := by kernel_rfl
theorem y_impl_vaultAt (a0 a1 a2 : T) {r : List T} (h : Yields (fun k => b_impl_vaultAt (hl env k fi_impl_vaultAt) (cl env k) a0 a1 a2) r) : Yields (fun k => cl env k F_impl_vaultAt [a0, a1, a2]) r := Yields.call (fi := fi_impl_vaultAt) rfl (fun H C => q_impl_vaultAt H C a0 a1 a2) h
noncomputable def l_impl_copyValue_0 (H : List Item → CS → R) (x1 : T) (x2 : T) (x3 : T) (x4 : T) (x5 : T) : R := H (hdAt fi_impl_copyValue.body 0) ([(2, .pref 37 2 []), (3, .pref 37 3 []), (15, .val 34 x1), (16, .val 3 x2), (17, .val 3 x3)], [(2, ⟨37, x4, .dp, true⟩), (3, ⟨37, x5, (.st [.dp, .dp, .dp, .dp]), true⟩)])
noncomputable def l_impl_copyValue_1 (H : List Item → CS → R) (x1 : T) (x2 : T) (x3 : T) (x4 : T) (x5 : T) : R := H (hdAt fi_impl_copyValue.body 0) ([(2, .pref 37 2 []), (3, .pref 37 3 []), (15, .val 34 x1), (16, .val 3 x2), (17, .val 3 x3)], [(2, ⟨37, x4, .dp, true⟩), (3, ⟨37, x5, (.st [.dp, .dp, (.sl .dp), .dp]), true⟩)])
/- loop.example/heirlooms/impl.copyValue -/
noncomputable abbrev b_impl_copyValue (H : List Item → CS → R) (C : CallsE) (a0 : T) : R :=
 obind (C F_impl_copyInts [(a0.fld 3)]) fun r1 =>
 l_impl_copyValue_0 H (a0.fld 2) (T.int (((a0.fld 2).es).length : Int)) (T.int (0 : Int)) (T.st [(T.str (⟨#[]⟩ : ByteArray)), (T.int (0 : Int)), (T.sl []), (T.sl [])]) (T.st [(a0.fld 0), (a0.fld 1), (T.sl []), (rt r1 0)])
theorem q_impl_copyValue (H : List Item → CS → R) (C : CallsE) (a0 : T) : enterE fi_impl_copyValue env H C [a0] = b_impl_copyValue H C a0 := by kernel_rfl
theorem y_impl_copyValue (a0 : T) {r : List T} (h : Yields (fun k => b_impl_copyValue (hl env k fi_impl_copyValue) (cl env k) a0) r) : Yields (fun k => cl env k F_impl_copyValue [a0]) r := Yields.call (fi := fi_impl_copyValue) rfl (fun H C => q_impl_copyValue H C a0) h
noncomputable abbrev b_impl_copyValue_0 (H : List Item → CS → R) (C : CallsE) (x1 : T) (x2 : T) (x3 : T) (x4 : T) (x5 : T) : R :=
 bif (decide (x3.i < x2.i)) then
 bif (decide (0 ≤ x3.i) && decide (x3.i.toNat < x1.es.length)) then
 obind (C F_impl_copyValue [(x1.nth x3.i.toNat)]) fun r1 =>
 bif (decide (((x5.fld 2).es).length + [(T.st [((rt r1 0).fld 0), ((rt r1 0).fld 1), ((rt r1 0).fld 2), ((rt r1 0).fld 3)])].length ≤ LIM)) then
 l_impl_copyValue_1 H x1 x2 (T.int (IntKind.wrap .i64 (x3.i + (1 : Int)))) x4 (T.st (x5.fs.set 2 (T.sl ((x5.fld 2).es ++ [(T.st [((rt r1 0).fld 0), ((rt r1 0).fld 1), ((rt r1 0).fld 2), ((rt r1 0).fld 3)])]))))
 else
 none
 else
 none
 else
 obind (C F_slices_Clip_impl_Value [(x5.fld 2)]) fun r1 =>
 some [(T.st [((T.st (x5.fs.set 2 (T.sl ((((x5.fld 2).es).take (((x5.fld 2).es).length)).drop 0)))).fld 0), ((T.st (x5.fs.set 2 (T.sl ((((x5.fld 2).es).take (((x5.fld 2).es).length)).drop 0)))).fld 1), ((T.st (x5.fs.set 2 (T.sl ((((x5.fld 2).es).take (((x5.fld 2).es).length)).drop 0)))).fld 2), ((T.st (x5.fs.set 2 (T.sl ((((x5.fld 2).es).take (((x5.fld 2).es).length)).drop 0)))).fld 3)])]
theorem e_impl_copyValue_0 (H : List Item → CS → R) (C : CallsE) (x1 : T) (x2 : T) (x3 : T) (x4 : T) (x5 : T) : headE fi_impl_copyValue env H C (hdAt fi_impl_copyValue.body 0) ([(2, .pref 37 2 []), (3, .pref 37 3 []), (15, .val 34 x1), (16, .val 3 x2), (17, .val 3 x3)], [(2, ⟨37, x4, .dp, true⟩), (3, ⟨37, x5, (.st [.dp, .dp, .dp, .dp]), true⟩)]) =
 bif (decide (x3.i < x2.i)) then
 bif (decide (0 ≤ x3.i) && decide (x3.i.toNat < x1.es.length)) then
 obind (C F_impl_copyValue [(x1.nth x3.i.toNat)]) fun r1 =>
 bif (decide (((x5.fld 2).es).length + [(T.st [((rt r1 0).fld 0), ((rt r1 0).fld 1), ((rt r1 0).fld 2), ((rt r1 0).fld 3)])].length ≤ LIM)) then
 l_impl_copyValue_1 H x1 x2 (T.int (IntKind.wrap .i64 (x3.i + (1 : Int)))) x4 (T.st (x5.fs.set 2 (T.sl ((x5.fld 2).es ++ [(T.st [((rt r1 0).fld 0), ((rt r1 0).fld 1), ((rt r1 0).fld 2), ((rt r1 0).fld 3)])]))))
 else
 none
 else
 none
 else
 obind (C F_slices_Clip_impl_Value [(x5.fld 2)]) fun r2 =>
 some [(T.st [((T.st (x5.fs.set 2 (T.sl ((((x5.fld 2).es).take (((x5.fld 2).es).length)).drop 0)))).fld 0), ((T.st (x5.fs.set 2 (T.sl ((((x5.fld 2).es).take (((x5.fld 2).es).length)).drop 0)))).fld 1), ((T.st (x5.fs.set 2 (T.sl ((((x5.fld 2).es).take (((x5.fld 2).es).length)).drop 0)))).fld 2), ((T.st (x5.fs.set 2 (T.sl ((((x5.fld 2).es).take (((x5.fld 2).es).length)).drop 0)))).fld 3)])] := by kernel_rfl
theorem q_impl_copyValue_0 (H : List Item → CS → R) (C : CallsE) (x1 : T) (x2 : T) (x3 : T) (x4 : T) (x5 : T) : headE fi_impl_copyValue env H C (hdAt fi_impl_copyValue.body 0) ([(2, .pref 37 2 []), (3, .pref 37 3 []), (15, .val 34 x1), (16, .val 3 x2), (17, .val 3 x3)], [(2, ⟨37, x4, .dp, true⟩), (3, ⟨37, x5, (.st [.dp, .dp, .dp, .dp]), true⟩)]) = b_impl_copyValue_0 H C x1 x2 x3 x4 x5 := by
 refine (e_impl_copyValue_0 H C x1 x2 x3 x4 x5).trans ?_
 unfold b_impl_copyValue_0
 all_goals cases hc : ((decide (x3.i < x2.i))) with
 | true =>
  try simp only [bs]
  all_goals cases hc : ((decide (0 ≤ x3.i) && decide (x3.i.toNat < x1.es.length))) with
  | true =>
   try simp only [bs]
   all_goals refine obind_congr fun r1 => ?_
   all_goals try simp only [bs]
   all_goals cases hc : ((decide (((x5.fld 2).es).length + [(T.st [((rt r1 0).fld 0), ((rt r1 0).fld 1), ((rt r1 0).fld 2), ((rt r1 0).fld 3)])].length ≤ LIM))) with
   | true =>
    try simp only [bs]
    all_goals kernel_rfl
   | false =>
    try simp only [bs]
    all_goals kernel_rfl
  | false =>
   try simp only [bs]
   all_goals kernel_rfl
 | false =>
  try simp only [bs]
  all_goals refine obind_congr fun r1 => ?_
  all_goals try simp only [bs]
  all_goals kernel_rfl
theorem y_impl_copyValue_0 (x1 : T) (x2 : T) (x3 : T) (x4 : T) (x5 : T) {r : List T} (h : Yields (fun k => b_impl_copyValue_0 (hl env k fi_impl_copyValue) (cl env k) x1 x2 x3 x4 x5) r) : Yields (fun k => l_impl_copyValue_0 (hl env k fi_impl_copyValue) x1 x2 x3 x4 x5) r := Yields.head (fun H C => q_impl_copyValue_0 H C x1 x2 x3 x4 x5) h
noncomputable abbrev b_impl_copyValue_1 (H : List Item → CS → R) (C : CallsE) (x1 : T) (x2 : T) (x3 : T) (x4 : T) (x5 : T) : R :=
 bif (decide (x3.i < x2.i)) then
 bif (decide (0 ≤ x3.i) && decide (x3.i.toNat < x1.es.length)) then
 obind (C F_impl_copyValue [(x1.nth x3.i.toNat)]) fun r1 =>
 bif (decide (((x5.fld 2).es).length + [(T.st [((rt r1 0).fld 0), ((rt r1 0).fld 1), ((rt r1 0).fld 2), ((rt r1 0).fld 3)])].length ≤ LIM)) then
 l_impl_copyValue_1 H x1 x2 (T.int (IntKind.wrap .i64 (x3.i + (1 : Int)))) x4 (T.st (x5.fs.set 2 (T.sl ((x5.fld 2).es ++ [(T.st [((rt r1 0).fld 0), ((rt r1 0).fld 1), ((rt r1 0).fld 2), ((rt r1 0).fld 3)])]))))
 else
 none
 else
 none
 else
 obind (C F_slices_Clip_impl_Value [(x5.fld 2)]) fun r1 =>
 some [(T.st [((T.st (x5.fs.set 2 (T.sl ((((x5.fld 2).es).take (((x5.fld 2).es).length)).drop 0)))).fld 0), ((T.st (x5.fs.set 2 (T.sl ((((x5.fld 2).es).take (((x5.fld 2).es).length)).drop 0)))).fld 1), ((T.st (x5.fs.set 2 (T.sl ((((x5.fld 2).es).take (((x5.fld 2).es).length)).drop 0)))).fld 2), ((T.st (x5.fs.set 2 (T.sl ((((x5.fld 2).es).take (((x5.fld 2).es).length)).drop 0)))).fld 3)])]
theorem e_impl_copyValue_1 (H : List Item → CS → R) (C : CallsE) (x1 : T) (x2 : T) (x3 : T) (x4 : T) (x5 : T) : headE fi_impl_copyValue env H C (hdAt fi_impl_copyValue.body 0) ([(2, .pref 37 2 []), (3, .pref 37 3 []), (15, .val 34 x1), (16, .val 3 x2), (17, .val 3 x3)], [(2, ⟨37, x4, .dp, true⟩), (3, ⟨37, x5, (.st [.dp, .dp, (.sl .dp), .dp]), true⟩)]) =
 bif (decide (x3.i < x2.i)) then
 bif (decide (0 ≤ x3.i) && decide (x3.i.toNat < x1.es.length)) then
 obind (C F_impl_copyValue [(x1.nth x3.i.toNat)]) fun r1 =>
 bif (decide (((x5.fld 2).es).length + [(T.st [((rt r1 0).fld 0), ((rt r1 0).fld 1), ((rt r1 0).fld 2), ((rt r1 0).fld 3)])].length ≤ LIM)) then
 l_impl_copyValue_1 H x1 x2 (T.int (IntKind.wrap .i64 (x3.i + (1 : Int)))) x4 (T.st (x5.fs.set 2 (T.sl ((x5.fld 2).es ++ [(T.st [((rt r1 0).fld 0), ((rt r1 0).fld 1), ((rt r1 0).fld 2), ((rt r1 0).fld 3)])]))))
 else
 none
 else
 none
 else
 obind (C F_slices_Clip_impl_Value [(x5.fld 2)]) fun r2 =>
 some [(T.st [((T.st (x5.fs.set 2 (T.sl ((((x5.fld 2).es).take (((x5.fld 2).es).length)).drop 0)))).fld 0), ((T.st (x5.fs.set 2 (T.sl ((((x5.fld 2).es).take (((x5.fld 2).es).length)).drop 0)))).fld 1), ((T.st (x5.fs.set 2 (T.sl ((((x5.fld 2).es).take (((x5.fld 2).es).length)).drop 0)))).fld 2), ((T.st (x5.fs.set 2 (T.sl ((((x5.fld 2).es).take (((x5.fld 2).es).length)).drop 0)))).fld 3)])] := by kernel_rfl
theorem q_impl_copyValue_1 (H : List Item → CS → R) (C : CallsE) (x1 : T) (x2 : T) (x3 : T) (x4 : T) (x5 : T) : headE fi_impl_copyValue env H C (hdAt fi_impl_copyValue.body 0) ([(2, .pref 37 2 []), (3, .pref 37 3 []), (15, .val 34 x1), (16, .val 3 x2), (17, .val 3 x3)], [(2, ⟨37, x4, .dp, true⟩), (3, ⟨37, x5, (.st [.dp, .dp, (.sl .dp), .dp]), true⟩)]) = b_impl_copyValue_1 H C x1 x2 x3 x4 x5 := by
 refine (e_impl_copyValue_1 H C x1 x2 x3 x4 x5).trans ?_
 unfold b_impl_copyValue_1
 all_goals cases hc : ((decide (x3.i < x2.i))) with
 | true =>
  try simp only [bs]
  all_goals cases hc : ((decide (0 ≤ x3.i) && decide (x3.i.toNat < x1.es.length))) with
  | true =>
   try simp only [bs]
   all_goals refine obind_congr fun r1 => ?_
   all_goals try simp only [bs]
   all_goals cases hc : ((decide (((x5.fld 2).es).length + [(T.st [((rt r1 0).fld 0), ((rt r1 0).fld 1), ((rt r1 0).fld 2), ((rt r1 0).fld 3)])].length ≤ LIM))) with
   | true =>
    try simp only [bs]
    all_goals kernel_rfl
   | false =>
    try simp only [bs]
    all_goals kernel_rfl
  | false =>
   try simp only [bs]
   all_goals kernel_rfl
 | false =>
  try simp only [bs]
  all_goals refine obind_congr fun r1 => ?_
  all_goals try simp only [bs]
  all_goals kernel_rfl
theorem y_impl_copyValue_1 (x1 : T) (x2 : T) (x3 : T) (x4 : T) (x5 : T) {r : List T} (h : Yields (fun k => b_impl_copyValue_1 (hl env k fi_impl_copyValue) (cl env k) x1 x2 x3 x4 x5) r) : Yields (fun k => l_impl_copyValue_1 (hl env k fi_impl_copyValue) x1 x2 x3 x4 x5) r := Yields.head (fun H C => q_impl_copyValue_1 H C x1 x2 x3 x4 x5) h
noncomputable def l_laws_eqValueS_0 (H : List Item → CS → R) (x1 : T) (x2 : T) (x3 : T) : R := H (hdAt fi_laws_eqValueS.body 0) ([(0, .val 34 x1), (1, .val 34 x2), (5, .val 3 x3)], [])
/- loop.example/heirlooms/laws.eqValueS -/
noncomputable abbrev b_laws_eqValueS (H : List Item → CS → R) (C : CallsE) (a0 a1 : T) : R :=
 bif ((a0.es.length : Int) != (a1.es.length : Int)) then
 some [(T.bool false)]
 else
 l_laws_eqValueS_0 H a0 a1 (T.int (0 : Int))
theorem q_laws_eqValueS (H : List Item → CS → R) (C : CallsE) (a0 a1 : T) : enterE fi_laws_eqValueS env H C [a0, a1] = b_laws_eqValueS H C a0 a1 := by kernel_rfl
theorem y_laws_eqValueS (a0 a1 : T) {r : List T} (h : Yields (fun k => b_laws_eqValueS (hl env k fi_laws_eqValueS) (cl env k) a0 a1) r) : Yields (fun k => cl env k F_laws_eqValueS [a0, a1]) r := Yields.call (fi := fi_laws_eqValueS) rfl (fun H C => q_laws_eqValueS H C a0 a1) h
noncomputable abbrev b_laws_eqValueS_0 (H : List Item → CS → R) (C : CallsE) (x1 : T) (x2 : T) (x3 : T) : R :=
 bif (decide (x3.i < (x1.es.length : Int))) then
 bif (decide (0 ≤ x3.i) && decide (x3.i.toNat < x1.es.length)) then
 bif (decide (0 ≤ x3.i) && decide (x3.i.toNat < x2.es.length)) then
 obind (C F_laws_eqValue [(x1.nth x3.i.toNat), (x2.nth x3.i.toNat)]) fun r1 =>
 bif (!(rt r1 0).b) then
 some [(T.bool false)]
 else
 l_laws_eqValueS_0 H x1 x2 (T.int (IntKind.wrap .i64 (x3.i + (1 : Int))))
 else
 none
 else
 none
 else
 some [(T.bool true)]
theorem q_laws_eqValueS_0 (H : List Item → CS → R) (C : CallsE) (x1 : T) (x2 : T) (x3 : T) : headE fi_laws_eqValueS env H C (hdAt fi_laws_eqValueS.body 0) ([(0, .val 34 x1), (1, .val 34 x2), (5, .val 3 x3)], []) = b_laws_eqValueS_0 H C x1 x2 x3 := by kernel_rfl
theorem y_laws_eqValueS_0 (x1 : T) (x2 : T) (x3 : T) {r : List T} (h : Yields (fun k => b_laws_eqValueS_0 (hl env k fi_laws_eqValueS) (cl env k) x1 x2 x3) r) : Yields (fun k => l_laws_eqValueS_0 (hl env k fi_laws_eqValueS) x1 x2 x3) r := Yields.head (fun H C => q_laws_eqValueS_0 H C x1 x2 x3) h
noncomputable def l_laws_eqIntS_0 (H : List Item → CS → R) (x1 : T) (x2 : T) (x3 : T) : R := H (hdAt fi_laws_eqIntS.body 0) ([(0, .val 35 x1), (1, .val 35 x2), (5, .val 3 x3)], [])
/- loop.example/heirlooms/laws.eqIntS -/
noncomputable abbrev b_laws_eqIntS (H : List Item → CS → R) (C : CallsE) (a0 a1 : T) : R :=
 bif ((a0.es.length : Int) != (a1.es.length : Int)) then
 some [(T.bool false)]
 else
 l_laws_eqIntS_0 H a0 a1 (T.int (0 : Int))
theorem q_laws_eqIntS (H : List Item → CS → R) (C : CallsE) (a0 a1 : T) : enterE fi_laws_eqIntS env H C [a0, a1] = b_laws_eqIntS H C a0 a1 := by kernel_rfl
theorem y_laws_eqIntS (a0 a1 : T) {r : List T} (h : Yields (fun k => b_laws_eqIntS (hl env k fi_laws_eqIntS) (cl env k) a0 a1) r) : Yields (fun k => cl env k F_laws_eqIntS [a0, a1]) r := Yields.call (fi := fi_laws_eqIntS) rfl (fun H C => q_laws_eqIntS H C a0 a1) h
noncomputable abbrev b_laws_eqIntS_0 (H : List Item → CS → R) (C : CallsE) (x1 : T) (x2 : T) (x3 : T) : R :=
 bif (decide (x3.i < (x1.es.length : Int))) then
 bif (decide (0 ≤ x3.i) && decide (x3.i.toNat < x1.es.length)) then
 bif (decide (0 ≤ x3.i) && decide (x3.i.toNat < x2.es.length)) then
 bif ((x1.nth x3.i.toNat).i != (x2.nth x3.i.toNat).i) then
 some [(T.bool false)]
 else
 l_laws_eqIntS_0 H x1 x2 (T.int (IntKind.wrap .i64 (x3.i + (1 : Int))))
 else
 none
 else
 none
 else
 some [(T.bool true)]
theorem q_laws_eqIntS_0 (H : List Item → CS → R) (C : CallsE) (x1 : T) (x2 : T) (x3 : T) : headE fi_laws_eqIntS env H C (hdAt fi_laws_eqIntS.body 0) ([(0, .val 35 x1), (1, .val 35 x2), (5, .val 3 x3)], []) = b_laws_eqIntS_0 H C x1 x2 x3 := by kernel_rfl
theorem y_laws_eqIntS_0 (x1 : T) (x2 : T) (x3 : T) {r : List T} (h : Yields (fun k => b_laws_eqIntS_0 (hl env k fi_laws_eqIntS) (cl env k) x1 x2 x3) r) : Yields (fun k => l_laws_eqIntS_0 (hl env k fi_laws_eqIntS) x1 x2 x3) r := Yields.head (fun H C => q_laws_eqIntS_0 H C x1 x2 x3) h
noncomputable def l_laws_markRecordS_0 (H : List Item → CS → R) (x1 : T) (x2 : T) (x3 : T) : R := H (hdAt fi_laws_markRecordS.body 0) ([(0, .sref 67 100000 []), (1, .val 3 x1), (5, .val 3 x2)], [(100000, ⟨67, x3, .dp, false⟩)])
/- loop.example/heirlooms/laws.markRecordS -/
noncomputable abbrev b_laws_markRecordS (H : List Item → CS → R) (C : CallsE) (a0 a1 : T) : R :=
 l_laws_markRecordS_0 H a1 (T.int (0 : Int)) a0
theorem q_laws_markRecordS (H : List Item → CS → R) (C : CallsE) (a0 a1 : T) : enterE fi_laws_markRecordS env H C [a0, a1] = b_laws_markRecordS H C a0 a1 := by kernel_rfl
theorem y_laws_markRecordS (a0 a1 : T) {r : List T} (h : Yields (fun k => b_laws_markRecordS (hl env k fi_laws_markRecordS) (cl env k) a0 a1) r) : Yields (fun k => cl env k F_laws_markRecordS [a0, a1]) r := Yields.call (fi := fi_laws_markRecordS) rfl (fun H C => q_laws_markRecordS H C a0 a1) h
noncomputable abbrev b_laws_markRecordS_0 (H : List Item → CS → R) (C : CallsE) (x1 : T) (x2 : T) (x3 : T) : R :=
 bif (decide (x2.i < (x3.es.length : Int))) then
 bif (decide (0 ≤ x2.i) && decide (x2.i.toNat < x3.es.length)) then
 bif (decide (0 ≤ x2.i) && decide (x2.i.toNat < ((T.put x3 [.idx x2.i.toNat, .fld 0] x1).es).length)) then
 obind (C F_laws_markStringS [(((T.put x3 [.idx x2.i.toNat, .fld 0] x1).nth x2.i.toNat).fld 1), (T.int (IntKind.wrap .i64 (x1.i + (1 : Int))))]) fun r1 =>
 l_laws_markRecordS_0 H (rt r1 0) (T.int (IntKind.wrap .i64 (x2.i + (1 : Int)))) (T.put (T.put x3 [.idx x2.i.toNat, .fld 0] x1) [.idx x2.i.toNat, .fld 1] (rt (r1.drop 1) 0))
 else
 none
 else
 none
 else
 some [x1, x3]
theorem q_laws_markRecordS_0 (H : List Item → CS → R) (C : CallsE) (x1 : T) (x2 : T) (x3 : T) : headE fi_laws_markRecordS env H C (hdAt fi_laws_markRecordS.body 0) ([(0, .sref 67 100000 []), (1, .val 3 x1), (5, .val 3 x2)], [(100000, ⟨67, x3, .dp, false⟩)]) = b_laws_markRecordS_0 H C x1 x2 x3 := by kernel_rfl
theorem y_laws_markRecordS_0 (x1 : T) (x2 : T) (x3 : T) {r : List T} (h : Yields (fun k => b_laws_markRecordS_0 (hl env k fi_laws_markRecordS) (cl env k) x1 x2 x3) r) : Yields (fun k => l_laws_markRecordS_0 (hl env k fi_laws_markRecordS) x1 x2 x3) r := Yields.head (fun H C => q_laws_markRecordS_0 H C x1 x2 x3) h
noncomputable def l_laws_markText_0 (H : List Item → CS → R) (x1 : T) (x2 : T) : R := H (hdAt fi_laws_markText.body 0) ([(0, .val 3 x1), (3, .val 9 x2)], [])
/- loop.example/heirlooms/laws.markText -/
noncomputable abbrev b_laws_markText (H : List Item → CS → R) (C : CallsE) (a0 : T) : R :=
 bif (decide (a0.i ≤ (0 : Int))) then
 some [(T.str (⟨#[109, 48]⟩ : ByteArray))]
 else
 l_laws_markText_0 H a0 (T.str (⟨#[]⟩ : ByteArray))
theorem q_laws_markText (H : List Item → CS → R) (C : CallsE) (a0 : T) : enterE fi_laws_markText env H C [a0] = b_laws_markText H C a0 := by kernel_rfl
theorem y_laws_markText (a0 : T) {r : List T} (h : Yields (fun k => b_laws_markText (hl env k fi_laws_markText) (cl env k) a0) r) : Yields (fun k => cl env k F_laws_markText [a0]) r := Yields.call (fi := fi_laws_markText) rfl (fun H C => q_laws_markText H C a0) h
noncomputable abbrev b_laws_markText_0 (H : List Item → CS → R) (C : CallsE) (x1 : T) (x2 : T) : R :=
 bif (decide (x1.i > (0 : Int))) then
 bif (!((10 : Int) == 0)) then
 bif (decide ((⟨([(T.int (IntKind.wrap .u8 (IntKind.wrap .i64 ((48 : Int) + ((x1.i : Int).tmod (10 : Int))))))].map fun c => UInt8.ofNat c.i.toNat).toArray⟩ : ByteArray).size + x2.s.size ≤ LIM)) then
 l_laws_markText_0 H (T.int (IntKind.wrap .i64 ((x1.i).tdiv (10 : Int)))) (T.str ((⟨([(T.int (IntKind.wrap .u8 (IntKind.wrap .i64 ((48 : Int) + ((x1.i : Int).tmod (10 : Int))))))].map fun c => UInt8.ofNat c.i.toNat).toArray⟩ : ByteArray) ++ x2.s))
 else
 none
 else
 none
 else
 bif (decide ((⟨#[109]⟩ : ByteArray).size + x2.s.size ≤ LIM)) then
 some [(T.str ((⟨#[109]⟩ : ByteArray) ++ x2.s))]
 else
 none
theorem e_laws_markText_0 (H : List Item → CS → R) (C : CallsE) (x1 : T) (x2 : T) : headE fi_laws_markText env H C (hdAt fi_laws_markText.body 0) ([(0, .val 3 x1), (3, .val 9 x2)], []) =
 bif (decide (x1.i > (0 : Int))) then
 bif (!((10 : Int) == 0)) then
 bif (decide ((⟨([(T.int (IntKind.wrap .u8 (IntKind.wrap .i64 ((48 : Int) + ((x1.i : Int).tmod (10 : Int))))))].map fun c => UInt8.ofNat c.i.toNat).toArray⟩ : ByteArray).size + x2.s.size ≤ LIM)) then
 bif (!((10 : Int) == 0)) then
 l_laws_markText_0 H (T.int (IntKind.wrap .i64 ((x1.i).tdiv (10 : Int)))) (T.str ((⟨([(T.int (IntKind.wrap .u8 (IntKind.wrap .i64 ((48 : Int) + ((x1.i : Int).tmod (10 : Int))))))].map fun c => UInt8.ofNat c.i.toNat).toArray⟩ : ByteArray) ++ x2.s))
 else
 none
 else
 none
 else
 none
 else
 bif (decide ((⟨#[109]⟩ : ByteArray).size + x2.s.size ≤ LIM)) then
 some [(T.str ((⟨#[109]⟩ : ByteArray) ++ x2.s))]
 else
 none := by kernel_rfl
theorem q_laws_markText_0 (H : List Item → CS → R) (C : CallsE) (x1 : T) (x2 : T) : headE fi_laws_markText env H C (hdAt fi_laws_markText.body 0) ([(0, .val 3 x1), (3, .val 9 x2)], []) = b_laws_markText_0 H C x1 x2 := by
 refine (e_laws_markText_0 H C x1 x2).trans ?_
 unfold b_laws_markText_0
 all_goals cases hc : ((decide (x1.i > (0 : Int)))) with
 | true =>
  try simp only [bs]
  all_goals cases hc : ((!((10 : Int) == 0))) with
  | true =>
   try simp only [bs]
   all_goals cases hc : ((decide ((⟨([(T.int (IntKind.wrap .u8 (IntKind.wrap .i64 ((48 : Int) + ((x1.i : Int).tmod (10 : Int))))))].map fun c => UInt8.ofNat c.i.toNat).toArray⟩ : ByteArray).size + x2.s.size ≤ LIM))) with
   | true =>
    try simp only [bs]
    all_goals kernel_rfl
   | false =>
    try simp only [bs]
    all_goals kernel_rfl
  | false =>
   try simp only [bs]
   all_goals kernel_rfl
 | false =>
  try simp only [bs]
  all_goals cases hc : ((decide ((⟨#[109]⟩ : ByteArray).size + x2.s.size ≤ LIM))) with
  | true =>
   try simp only [bs]
   all_goals kernel_rfl
  | false =>
   try simp only [bs]
   all_goals kernel_rfl
theorem y_laws_markText_0 (x1 : T) (x2 : T) {r : List T} (h : Yields (fun k => b_laws_markText_0 (hl env k fi_laws_markText) (cl env k) x1 x2) r) : Yields (fun k => l_laws_markText_0 (hl env k fi_laws_markText) x1 x2) r := Yields.head (fun H C => q_laws_markText_0 H C x1 x2) h
noncomputable def l_laws_markValueS_0 (H : List Item → CS → R) (x1 : T) (x2 : T) (x3 : T) : R := H (hdAt fi_laws_markValueS.body 0) ([(0, .sref 34 100000 []), (1, .val 3 x1), (5, .val 3 x2)], [(100000, ⟨34, x3, .dp, false⟩)])
/- loop.example/heirlooms/laws.markValueS -/
noncomputable abbrev b_laws_markValueS (H : List Item → CS → R) (C : CallsE) (a0 a1 : T) : R :=
 l_laws_markValueS_0 H a1 (T.int (0 : Int)) a0
theorem q_laws_markValueS (H : List Item → CS → R) (C : CallsE) (a0 a1 : T) : enterE fi_laws_markValueS env H C [a0, a1] = b_laws_markValueS H C a0 a1 := by kernel_rfl
theorem y_laws_markValueS (a0 a1 : T) {r : List T} (h : Yields (fun k => b_laws_markValueS (hl env k fi_laws_markValueS) (cl env k) a0 a1) r) : Yields (fun k => cl env k F_laws_markValueS [a0, a1]) r := Yields.call (fi := fi_laws_markValueS) rfl (fun H C => q_laws_markValueS H C a0 a1) h
noncomputable abbrev b_laws_markValueS_0 (H : List Item → CS → R) (C : CallsE) (x1 : T) (x2 : T) (x3 : T) : R :=
 bif (decide (x2.i < (x3.es.length : Int))) then
 obind (C F_laws_markText [x1]) fun r1 =>
 bif (decide (0 ≤ x2.i) && decide (x2.i.toNat < x3.es.length)) then
 bif (decide (0 ≤ x2.i) && decide (x2.i.toNat < ((T.put x3 [.idx x2.i.toNat, .fld 0] (rt r1 0)).es).length)) then
 bif (decide (0 ≤ x2.i) && decide (x2.i.toNat < ((T.put (T.put x3 [.idx x2.i.toNat, .fld 0] (rt r1 0)) [.idx x2.i.toNat, .fld 1] (T.int (IntKind.wrap .i64 (x1.i + (1 : Int))))).es).length)) then
 obind (C F_laws_markValueS [(((T.put (T.put x3 [.idx x2.i.toNat, .fld 0] (rt r1 0)) [.idx x2.i.toNat, .fld 1] (T.int (IntKind.wrap .i64 (x1.i + (1 : Int))))).nth x2.i.toNat).fld 2), (T.int (IntKind.wrap .i64 ((IntKind.wrap .i64 (x1.i + (1 : Int))) + (1 : Int))))]) fun r2 =>
 bif (decide (0 ≤ x2.i) && decide (x2.i.toNat < ((T.put (T.put (T.put x3 [.idx x2.i.toNat, .fld 0] (rt r1 0)) [.idx x2.i.toNat, .fld 1] (T.int (IntKind.wrap .i64 (x1.i + (1 : Int))))) [.idx x2.i.toNat, .fld 2] (rt (r2.drop 1) 0)).es).length)) then
 obind (C F_laws_markIntS [(((T.put (T.put (T.put x3 [.idx x2.i.toNat, .fld 0] (rt r1 0)) [.idx x2.i.toNat, .fld 1] (T.int (IntKind.wrap .i64 (x1.i + (1 : Int))))) [.idx x2.i.toNat, .fld 2] (rt (r2.drop 1) 0)).nth x2.i.toNat).fld 3), (rt r2 0)]) fun r3 =>
 l_laws_markValueS_0 H (rt r3 0) (T.int (IntKind.wrap .i64 (x2.i + (1 : Int)))) (T.put (T.put (T.put (T.put x3 [.idx x2.i.toNat, .fld 0] (rt r1 0)) [.idx x2.i.toNat, .fld 1] (T.int (IntKind.wrap .i64 (x1.i + (1 : Int))))) [.idx x2.i.toNat, .fld 2] (rt (r2.drop 1) 0)) [.idx x2.i.toNat, .fld 3] (rt (r3.drop 1) 0))
 else
 none
 else
 none
 else
 none
 else
 none
 else
 some [x1, x3]
theorem q_laws_markValueS_0 (H : List Item → CS → R) (C : CallsE) (x1 : T) (x2 : T) (x3 : T) : headE fi_laws_markValueS env H C (hdAt fi_laws_markValueS.body 0) ([(0, .sref 34 100000 []), (1, .val 3 x1), (5, .val 3 x2)], [(100000, ⟨34, x3, .dp, false⟩)]) = b_laws_markValueS_0 H C x1 x2 x3 := by kernel_rfl
theorem y_laws_markValueS_0 (x1 : T) (x2 : T) (x3 : T) {r : List T} (h : Yields (fun k => b_laws_markValueS_0 (hl env k fi_laws_markValueS) (cl env k) x1 x2 x3) r) : Yields (fun k => l_laws_markValueS_0 (hl env k fi_laws_markValueS) x1 x2 x3) r := Yields.head (fun H C => q_laws_markValueS_0 H C x1 x2 x3) h
noncomputable def l_laws_markIntS_0 (H : List Item → CS → R) (x1 : T) (x2 : T) (x3 : T) : R := H (hdAt fi_laws_markIntS.body 0) ([(0, .sref 35 100000 []), (1, .val 3 x1), (5, .val 3 x2)], [(100000, ⟨35, x3, .dp, false⟩)])
/- loop.example/heirlooms/laws.markIntS -/
noncomputable abbrev b_laws_markIntS (H : List Item → CS → R) (C : CallsE) (a0 a1 : T) : R :=
 l_laws_markIntS_0 H a1 (T.int (0 : Int)) a0
theorem q_laws_markIntS (H : List Item → CS → R) (C : CallsE) (a0 a1 : T) : enterE fi_laws_markIntS env H C [a0, a1] = b_laws_markIntS H C a0 a1 := by kernel_rfl
theorem y_laws_markIntS (a0 a1 : T) {r : List T} (h : Yields (fun k => b_laws_markIntS (hl env k fi_laws_markIntS) (cl env k) a0 a1) r) : Yields (fun k => cl env k F_laws_markIntS [a0, a1]) r := Yields.call (fi := fi_laws_markIntS) rfl (fun H C => q_laws_markIntS H C a0 a1) h
noncomputable abbrev b_laws_markIntS_0 (H : List Item → CS → R) (C : CallsE) (x1 : T) (x2 : T) (x3 : T) : R :=
 bif (decide (x2.i < (x3.es.length : Int))) then
 bif (decide (0 ≤ x2.i) && decide (x2.i.toNat < x3.es.length)) then
 l_laws_markIntS_0 H (T.int (IntKind.wrap .i64 (x1.i + (1 : Int)))) (T.int (IntKind.wrap .i64 (x2.i + (1 : Int)))) (T.sl (x3.es.set x2.i.toNat x1))
 else
 none
 else
 some [x1, x3]
theorem q_laws_markIntS_0 (H : List Item → CS → R) (C : CallsE) (x1 : T) (x2 : T) (x3 : T) : headE fi_laws_markIntS env H C (hdAt fi_laws_markIntS.body 0) ([(0, .sref 35 100000 []), (1, .val 3 x1), (5, .val 3 x2)], [(100000, ⟨35, x3, .dp, false⟩)]) = b_laws_markIntS_0 H C x1 x2 x3 := by kernel_rfl
theorem y_laws_markIntS_0 (x1 : T) (x2 : T) (x3 : T) {r : List T} (h : Yields (fun k => b_laws_markIntS_0 (hl env k fi_laws_markIntS) (cl env k) x1 x2 x3) r) : Yields (fun k => l_laws_markIntS_0 (hl env k fi_laws_markIntS) x1 x2 x3) r := Yields.head (fun H C => q_laws_markIntS_0 H C x1 x2 x3) h
noncomputable def l_laws_heldValueS_0 (H : List Item → CS → R) (x1 : T) (x2 : T) (x3 : T) : R := H (hdAt fi_laws_heldValueS.body 0) ([(0, .val 34 x1), (1, .val 3 x2), (5, .val 3 x3)], [])
/- loop.example/heirlooms/laws.heldValueS -/
noncomputable abbrev b_laws_heldValueS (H : List Item → CS → R) (C : CallsE) (a0 a1 : T) : R :=
 l_laws_heldValueS_0 H a0 a1 (T.int (0 : Int))
theorem q_laws_heldValueS (H : List Item → CS → R) (C : CallsE) (a0 a1 : T) : enterE fi_laws_heldValueS env H C [a0, a1] = b_laws_heldValueS H C a0 a1 := by kernel_rfl
theorem y_laws_heldValueS (a0 a1 : T) {r : List T} (h : Yields (fun k => b_laws_heldValueS (hl env k fi_laws_heldValueS) (cl env k) a0 a1) r) : Yields (fun k => cl env k F_laws_heldValueS [a0, a1]) r := Yields.call (fi := fi_laws_heldValueS) rfl (fun H C => q_laws_heldValueS H C a0 a1) h
noncomputable abbrev b_laws_heldValueS_0 (H : List Item → CS → R) (C : CallsE) (x1 : T) (x2 : T) (x3 : T) : R :=
 bif (decide (x3.i < (x1.es.length : Int))) then
 bif (decide (0 ≤ x3.i) && decide (x3.i.toNat < x1.es.length)) then
 obind (C F_laws_markText [x2]) fun r1 =>
 bif (!((((x1.nth x3.i.toNat).fld 0).s).toList == ((rt r1 0).s).toList)) then
 some [(T.int (-1 : Int))]
 else
 bif (((x1.nth x3.i.toNat).fld 1).i != (IntKind.wrap .i64 (x2.i + (1 : Int)))) then
 some [(T.int (-1 : Int))]
 else
 obind (C F_laws_heldValueS [((x1.nth x3.i.toNat).fld 2), (T.int (IntKind.wrap .i64 ((IntKind.wrap .i64 (x2.i + (1 : Int))) + (1 : Int))))]) fun r2 =>
 bif (decide ((rt r2 0).i < (0 : Int))) then
 some [(T.int (-1 : Int))]
 else
 obind (C F_laws_heldIntS [((x1.nth x3.i.toNat).fld 3), (rt r2 0)]) fun r3 =>
 bif (decide ((rt r3 0).i < (0 : Int))) then
 some [(T.int (-1 : Int))]
 else
 l_laws_heldValueS_0 H x1 (rt r3 0) (T.int (IntKind.wrap .i64 (x3.i + (1 : Int))))
 else
 none
 else
 some [x2]
theorem e_laws_heldValueS_0 (H : List Item → CS → R) (C : CallsE) (x1 : T) (x2 : T) (x3 : T) : headE fi_laws_heldValueS env H C (hdAt fi_laws_heldValueS.body 0) ([(0, .val 34 x1), (1, .val 3 x2), (5, .val 3 x3)], []) =
 bif (decide (x3.i < (x1.es.length : Int))) then
 bif (decide (0 ≤ x3.i) && decide (x3.i.toNat < x1.es.length)) then
 obind (C F_laws_markText [x2]) fun r1 =>
 bif (!((((x1.nth x3.i.toNat).fld 0).s).toList == ((rt r1 0).s).toList)) then
 some [(T.int (-1 : Int))]
 else
 bif (decide (0 ≤ x3.i) && decide (x3.i.toNat < x1.es.length)) then
 bif (((x1.nth x3.i.toNat).fld 1).i != (IntKind.wrap .i64 (x2.i + (1 : Int)))) then
 some [(T.int (-1 : Int))]
 else
 bif (decide (0 ≤ x3.i) && decide (x3.i.toNat < x1.es.length)) then
 obind (C F_laws_heldValueS [((x1.nth x3.i.toNat).fld 2), (T.int (IntKind.wrap .i64 ((IntKind.wrap .i64 (x2.i + (1 : Int))) + (1 : Int))))]) fun r2 =>
 bif (decide ((rt r2 0).i < (0 : Int))) then
 some [(T.int (-1 : Int))]
 else
 bif (decide (0 ≤ x3.i) && decide (x3.i.toNat < x1.es.length)) then
 obind (C F_laws_heldIntS [((x1.nth x3.i.toNat).fld 3), (rt r2 0)]) fun r3 =>
 bif (decide ((rt r3 0).i < (0 : Int))) then
 some [(T.int (-1 : Int))]
 else
 l_laws_heldValueS_0 H x1 (rt r3 0) (T.int (IntKind.wrap .i64 (x3.i + (1 : Int))))
 else
 none
 else
 none
 else
 none
 else
 none
 else
 some [x2] := by kernel_rfl
theorem q_laws_heldValueS_0 (H : List Item → CS → R) (C : CallsE) (x1 : T) (x2 : T) (x3 : T) : headE fi_laws_heldValueS env H C (hdAt fi_laws_heldValueS.body 0) ([(0, .val 34 x1), (1, .val 3 x2), (5, .val 3 x3)], []) = b_laws_heldValueS_0 H C x1 x2 x3 := by
 refine (e_laws_heldValueS_0 H C x1 x2 x3).trans ?_
 unfold b_laws_heldValueS_0
 all_goals cases hc : ((decide (x3.i < (x1.es.length : Int)))) with
 | true =>
  try simp only [bs]
  all_goals cases hc : ((decide (0 ≤ x3.i) && decide (x3.i.toNat < x1.es.length))) with
  | true =>
   try simp only [bs]
   all_goals refine obind_congr fun r1 => ?_
   all_goals try simp only [bs]
   all_goals cases hc : ((!((((x1.nth x3.i.toNat).fld 0).s).toList == ((rt r1 0).s).toList))) with
   | true =>
    try simp only [bs]
    all_goals kernel_rfl
   | false =>
    try simp only [bs]
    all_goals cases hc : ((((x1.nth x3.i.toNat).fld 1).i != (IntKind.wrap .i64 (x2.i + (1 : Int))))) with
    | true =>
     try simp only [bs]
     all_goals kernel_rfl
    | false =>
     try simp only [bs]
     all_goals refine obind_congr fun r2 => ?_
     all_goals try simp only [bs]
     all_goals cases hc : ((decide ((rt r2 0).i < (0 : Int)))) with
     | true =>
      try simp only [bs]
      all_goals kernel_rfl
     | false =>
      try simp only [bs]
      all_goals refine obind_congr fun r3 => ?_
      all_goals try simp only [bs]
      all_goals cases hc : ((decide ((rt r3 0).i < (0 : Int)))) with
      | true =>
       try simp only [bs]
       all_goals kernel_rfl
      | false =>
       try simp only [bs]
       all_goals kernel_rfl
  | false =>
   try simp only [bs]
   all_goals kernel_rfl
 | false =>
  try simp only [bs]
  all_goals kernel_rfl
theorem y_laws_heldValueS_0 (x1 : T) (x2 : T) (x3 : T) {r : List T} (h : Yields (fun k => b_laws_heldValueS_0 (hl env k fi_laws_heldValueS) (cl env k) x1 x2 x3) r) : Yields (fun k => l_laws_heldValueS_0 (hl env k fi_laws_heldValueS) x1 x2 x3) r := Yields.head (fun H C => q_laws_heldValueS_0 H C x1 x2 x3) h
noncomputable def l_laws_heldIntS_0 (H : List Item → CS → R) (x1 : T) (x2 : T) (x3 : T) : R := H (hdAt fi_laws_heldIntS.body 0) ([(0, .val 35 x1), (1, .val 3 x2), (5, .val 3 x3)], [])
/- loop.example/heirlooms/laws.heldIntS -/
noncomputable abbrev b_laws_heldIntS (H : List Item → CS → R) (C : CallsE) (a0 a1 : T) : R :=
 l_laws_heldIntS_0 H a0 a1 (T.int (0 : Int))
theorem q_laws_heldIntS (H : List Item → CS → R) (C : CallsE) (a0 a1 : T) : enterE fi_laws_heldIntS env H C [a0, a1] = b_laws_heldIntS H C a0 a1 := by kernel_rfl
theorem y_laws_heldIntS (a0 a1 : T) {r : List T} (h : Yields (fun k => b_laws_heldIntS (hl env k fi_laws_heldIntS) (cl env k) a0 a1) r) : Yields (fun k => cl env k F_laws_heldIntS [a0, a1]) r := Yields.call (fi := fi_laws_heldIntS) rfl (fun H C => q_laws_heldIntS H C a0 a1) h
noncomputable abbrev b_laws_heldIntS_0 (H : List Item → CS → R) (C : CallsE) (x1 : T) (x2 : T) (x3 : T) : R :=
 bif (decide (x3.i < (x1.es.length : Int))) then
 bif (decide (0 ≤ x3.i) && decide (x3.i.toNat < x1.es.length)) then
 bif ((x1.nth x3.i.toNat).i != x2.i) then
 some [(T.int (-1 : Int))]
 else
 l_laws_heldIntS_0 H x1 (T.int (IntKind.wrap .i64 (x2.i + (1 : Int)))) (T.int (IntKind.wrap .i64 (x3.i + (1 : Int))))
 else
 none
 else
 some [x2]
theorem q_laws_heldIntS_0 (H : List Item → CS → R) (C : CallsE) (x1 : T) (x2 : T) (x3 : T) : headE fi_laws_heldIntS env H C (hdAt fi_laws_heldIntS.body 0) ([(0, .val 35 x1), (1, .val 3 x2), (5, .val 3 x3)], []) = b_laws_heldIntS_0 H C x1 x2 x3 := by kernel_rfl
theorem y_laws_heldIntS_0 (x1 : T) (x2 : T) (x3 : T) {r : List T} (h : Yields (fun k => b_laws_heldIntS_0 (hl env k fi_laws_heldIntS) (cl env k) x1 x2 x3) r) : Yields (fun k => l_laws_heldIntS_0 (hl env k fi_laws_heldIntS) x1 x2 x3) r := Yields.head (fun H C => q_laws_heldIntS_0 H C x1 x2 x3) h
noncomputable def l_laws_szValueS_0 (H : List Item → CS → R) (x1 : T) (x2 : T) (x3 : T) : R := H (hdAt fi_laws_szValueS.body 0) ([(0, .val 45 x1), (1, .val 3 x2), (5, .val 3 x3)], [])
/- loop.example/heirlooms/laws.szValueS -/
noncomputable abbrev b_laws_szValueS (H : List Item → CS → R) (C : CallsE) (a0 a1 : T) : R :=
 bif (decide ((IntKind.wrap .i64 (a1.i - (a0.es.length : Int))) < (0 : Int))) then
 some [(T.int (-1 : Int))]
 else
 l_laws_szValueS_0 H a0 (T.int (IntKind.wrap .i64 (a1.i - (a0.es.length : Int)))) (T.int (0 : Int))
theorem q_laws_szValueS (H : List Item → CS → R) (C : CallsE) (a0 a1 : T) : enterE fi_laws_szValueS env H C [a0, a1] = b_laws_szValueS H C a0 a1 := by kernel_rfl
theorem y_laws_szValueS (a0 a1 : T) {r : List T} (h : Yields (fun k => b_laws_szValueS (hl env k fi_laws_szValueS) (cl env k) a0 a1) r) : Yields (fun k => cl env k F_laws_szValueS [a0, a1]) r := Yields.call (fi := fi_laws_szValueS) rfl (fun H C => q_laws_szValueS H C a0 a1) h
noncomputable abbrev b_laws_szValueS_0 (H : List Item → CS → R) (C : CallsE) (x1 : T) (x2 : T) (x3 : T) : R :=
 bif (decide (x3.i < (x1.es.length : Int))) then
 bif (decide (0 ≤ x3.i) && decide (x3.i.toNat < x1.es.length)) then
 obind (C F_laws_szValue [(x1.nth x3.i.toNat), x2]) fun r1 =>
 bif (decide ((rt r1 0).i < (0 : Int))) then
 some [(T.int (-1 : Int))]
 else
 l_laws_szValueS_0 H x1 (rt r1 0) (T.int (IntKind.wrap .i64 (x3.i + (1 : Int))))
 else
 none
 else
 some [x2]
theorem q_laws_szValueS_0 (H : List Item → CS → R) (C : CallsE) (x1 : T) (x2 : T) (x3 : T) : headE fi_laws_szValueS env H C (hdAt fi_laws_szValueS.body 0) ([(0, .val 45 x1), (1, .val 3 x2), (5, .val 3 x3)], []) = b_laws_szValueS_0 H C x1 x2 x3 := by kernel_rfl
theorem y_laws_szValueS_0 (x1 : T) (x2 : T) (x3 : T) {r : List T} (h : Yields (fun k => b_laws_szValueS_0 (hl env k fi_laws_szValueS) (cl env k) x1 x2 x3) r) : Yields (fun k => l_laws_szValueS_0 (hl env k fi_laws_szValueS) x1 x2 x3) r := Yields.head (fun H C => q_laws_szValueS_0 H C x1 x2 x3) h
/- loop.example/heirlooms/laws.szIntS -/
noncomputable abbrev b_laws_szIntS (H : List Item → CS → R) (C : CallsE) (a0 a1 : T) : R :=
 bif (decide ((IntKind.wrap .i64 (a1.i - (a0.es.length : Int))) < (0 : Int))) then
 some [(T.int (-1 : Int))]
 else
 some [(T.int (IntKind.wrap .i64 (a1.i - (a0.es.length : Int))))]
theorem q_laws_szIntS (H : List Item → CS → R) (C : CallsE) (a0 a1 : T) : enterE fi_laws_szIntS env H C [a0, a1] = b_laws_szIntS H C a0 a1 := by kernel_rfl
theorem y_laws_szIntS (a0 a1 : T) {r : List T} (h : Yields (fun k => b_laws_szIntS (hl env k fi_laws_szIntS) (cl env k) a0 a1) r) : Yields (fun k => cl env k F_laws_szIntS [a0, a1]) r := Yields.call (fi := fi_laws_szIntS) rfl (fun H C => q_laws_szIntS H C a0 a1) h
/- loop.example/heirlooms/spec.l9Kind -/
noncomputable abbrev b_spec_l9Kind (H : List Item → CS → R) (C : CallsE) (a0 a1 : T) : R :=
 obind (C F_spec_l1Kind [(a1.fld 0)]) fun r1 =>
 bif (rt r1 2).b then
 obind (C F_spec_l2Ok [a0, a1]) fun r2 =>
 bif (rt r2 0).b then
 obind (C F_spec_l1Able [a0, (a1.fld 0)]) fun r3 =>
 obind (C F_spec_l1Can [(rt r3 0), (T.int (8 : Int))]) fun r4 =>
 some [(rt r4 0)]
 else
 some [(T.bool false)]
 else
 some [(T.bool false)]
theorem e_spec_l9Kind (H : List Item → CS → R) (C : CallsE) (a0 a1 : T) : enterE fi_spec_l9Kind env H C [a0, a1] =
 obind (C F_spec_l1Kind [(a1.fld 0)]) fun r1 =>
 bif ((!((rt r1 2).b == true)) || true) then
 bif ((!((rt r1 2).b == true)) || true) then
 bif ((!((rt r1 2).b == true)) || (((rt r1 2).b == true) && (((rt r1 2).b == true) && true))) then
 obind ((bif ((rt r1 2).b == true) then C F_spec_l2Ok [a0, a1] else some [])) fun r2 =>
 bif (bif (rt r1 2).b then ((rt r1 2).b == true) else true) then
 bif ((!((bif (rt r1 2).b then (rt r2 0) else (T.bool false)).b == true)) || true) then
 bif ((!((bif (rt r1 2).b then (rt r2 0) else (T.bool false)).b == true)) || true) then
 bif ((!((bif (rt r1 2).b then (rt r2 0) else (T.bool false)).b == true)) || ((bif (rt r1 2).b then (rt r2 0) else (T.bool false)).b == true)) then
 bif ((!((bif (rt r1 2).b then (rt r2 0) else (T.bool false)).b == true)) || (((bif (rt r1 2).b then (rt r2 0) else (T.bool false)).b == true) && (((bif (rt r1 2).b then (rt r2 0) else (T.bool false)).b == true) && true))) then
 obind ((bif ((bif (rt r1 2).b then (rt r2 0) else (T.bool false)).b == true) then C F_spec_l1Able [a0, (a1.fld 0)] else some [])) fun r3 =>
 bif ((!((bif (rt r1 2).b then (rt r2 0) else (T.bool false)).b == true)) || (((bif (rt r1 2).b then (rt r2 0) else (T.bool false)).b == true) && true)) then
 obind ((bif ((bif (rt r1 2).b then (rt r2 0) else (T.bool false)).b == true) then C F_spec_l1Can [(rt r3 0), (T.int (8 : Int))] else some [])) fun r4 =>
 bif (bif (bif (rt r1 2).b then (rt r2 0) else (T.bool false)).b then ((bif (rt r1 2).b then (rt r2 0) else (T.bool false)).b == true) else true) then
 some [(bif (bif (rt r1 2).b then (rt r2 0) else (T.bool false)).b then (rt r4 0) else (T.bool false))]
 else
 none
 else
 none
 else
 none
 else
 none
 else
 none
 else
 none
 else
 none
 else
 none
 else
 none
 else
 none := by kernel_rfl
theorem q_spec_l9Kind (H : List Item → CS → R) (C : CallsE) (a0 a1 : T) : enterE fi_spec_l9Kind env H C [a0, a1] = b_spec_l9Kind H C a0 a1 := by
 refine (e_spec_l9Kind H C a0 a1).trans ?_
 unfold b_spec_l9Kind
 all_goals refine obind_congr fun r1 => ?_
 all_goals try simp only [bs]
 all_goals cases hc : ((rt r1 2).b) with
 | true =>
  try simp only [bs]
  all_goals refine obind_congr fun r2 => ?_
  all_goals try simp only [bs]
  all_goals cases hc : ((rt r2 0).b) with
  | true =>
   try simp only [bs]
   all_goals refine obind_congr fun r3 => ?_
   all_goals try simp only [bs]
   all_goals refine obind_congr fun r4 => ?_
   all_goals try simp only [bs]
   all_goals kernel_rfl
  | false =>
   try simp only [bs]
   all_goals kernel_rfl
 | false =>
  try simp only [bs]
  all_goals kernel_rfl
theorem y_spec_l9Kind (a0 a1 : T) {r : List T} (h : Yields (fun k => b_spec_l9Kind (hl env k fi_spec_l9Kind) (cl env k) a0 a1) r) : Yields (fun k => cl env k F_spec_l9Kind [a0, a1]) r := Yields.call (fi := fi_spec_l9Kind) rfl (fun H C => q_spec_l9Kind H C a0 a1) h
noncomputable def l_spec_l9Copy_0 (H : List Item → CS → R) (x1 : T) (x2 : T) (x3 : T) : R := H (hdAt fi_spec_l9Copy.body 0) ([(0, .val 29 x1), (3, .sref 29 3 []), (4, .val 3 x2)], [(3, ⟨29, x3, (.sl .dp), false⟩)])
/- loop.example/heirlooms/spec.l9Copy -/
noncomputable abbrev b_spec_l9Copy (H : List Item → CS → R) (C : CallsE) (a0 : T) : R :=
 l_spec_l9Copy_0 H a0 (T.int (0 : Int)) (T.sl [])
theorem q_spec_l9Copy (H : List Item → CS → R) (C : CallsE) (a0 : T) : enterE fi_spec_l9Copy env H C [a0] = b_spec_l9Copy H C a0 := by kernel_rfl
theorem y_spec_l9Copy (a0 : T) {r : List T} (h : Yields (fun k => b_spec_l9Copy (hl env k fi_spec_l9Copy) (cl env k) a0) r) : Yields (fun k => cl env k F_spec_l9Copy [a0]) r := Yields.call (fi := fi_spec_l9Copy) rfl (fun H C => q_spec_l9Copy H C a0) h
noncomputable abbrev b_spec_l9Copy_0 (H : List Item → CS → R) (C : CallsE) (x1 : T) (x2 : T) (x3 : T) : R :=
 bif (decide (x2.i < (x1.es.length : Int))) then
 bif (decide (0 ≤ x2.i) && decide (x2.i.toNat < x1.es.length)) then
 obind (C F_spec_l2Copy [((x1.nth x2.i.toNat).fld 1)]) fun r1 =>
 bif (decide (x3.es.length + [(T.st [((x1.nth x2.i.toNat).fld 0), (T.st [((rt r1 0).fld 0), ((rt r1 0).fld 1), ((rt r1 0).fld 2), ((rt r1 0).fld 3)])])].length ≤ LIM)) then
 l_spec_l9Copy_0 H x1 (T.int (IntKind.wrap .i64 (x2.i + (1 : Int)))) (T.sl (x3.es ++ [(T.st [((x1.nth x2.i.toNat).fld 0), (T.st [((rt r1 0).fld 0), ((rt r1 0).fld 1), ((rt r1 0).fld 2), ((rt r1 0).fld 3)])])]))
 else
 none
 else
 none
 else
 some [x3]
theorem e_spec_l9Copy_0 (H : List Item → CS → R) (C : CallsE) (x1 : T) (x2 : T) (x3 : T) : headE fi_spec_l9Copy env H C (hdAt fi_spec_l9Copy.body 0) ([(0, .val 29 x1), (3, .sref 29 3 []), (4, .val 3 x2)], [(3, ⟨29, x3, (.sl .dp), false⟩)]) =
 bif (decide (x2.i < (x1.es.length : Int))) then
 bif (decide (0 ≤ x2.i) && decide (x2.i.toNat < x1.es.length)) then
 bif (decide (0 ≤ x2.i) && decide (x2.i.toNat < x1.es.length)) then
 obind (C F_spec_l2Copy [((x1.nth x2.i.toNat).fld 1)]) fun r1 =>
 bif (decide (x3.es.length + [(T.st [((x1.nth x2.i.toNat).fld 0), (T.st [((rt r1 0).fld 0), ((rt r1 0).fld 1), ((rt r1 0).fld 2), ((rt r1 0).fld 3)])])].length ≤ LIM)) then
 l_spec_l9Copy_0 H x1 (T.int (IntKind.wrap .i64 (x2.i + (1 : Int)))) (T.sl (x3.es ++ [(T.st [((x1.nth x2.i.toNat).fld 0), (T.st [((rt r1 0).fld 0), ((rt r1 0).fld 1), ((rt r1 0).fld 2), ((rt r1 0).fld 3)])])]))
 else
 none
 else
 none
 else
 none
 else
 some [x3] := by kernel_rfl
theorem q_spec_l9Copy_0 (H : List Item → CS → R) (C : CallsE) (x1 : T) (x2 : T) (x3 : T) : headE fi_spec_l9Copy env H C (hdAt fi_spec_l9Copy.body 0) ([(0, .val 29 x1), (3, .sref 29 3 []), (4, .val 3 x2)], [(3, ⟨29, x3, (.sl .dp), false⟩)]) = b_spec_l9Copy_0 H C x1 x2 x3 := by
 refine (e_spec_l9Copy_0 H C x1 x2 x3).trans ?_
 unfold b_spec_l9Copy_0
 all_goals cases hc : ((decide (x2.i < (x1.es.length : Int)))) with
 | true =>
  try simp only [bs]
  all_goals cases hc : ((decide (0 ≤ x2.i) && decide (x2.i.toNat < x1.es.length))) with
  | true =>
   try simp only [bs]
   all_goals refine obind_congr fun r1 => ?_
   all_goals try simp only [bs]
   all_goals cases hc : ((decide (x3.es.length + [(T.st [((x1.nth x2.i.toNat).fld 0), (T.st [((rt r1 0).fld 0), ((rt r1 0).fld 1), ((rt r1 0).fld 2), ((rt r1 0).fld 3)])])].length ≤ LIM))) with
   | true =>
    try simp only [bs]
    all_goals kernel_rfl
   | false =>
    try simp only [bs]
    all_goals kernel_rfl
  | false =>
   try simp only [bs]
   all_goals kernel_rfl
 | false =>
  try simp only [bs]
  all_goals kernel_rfl
theorem y_spec_l9Copy_0 (x1 : T) (x2 : T) (x3 : T) {r : List T} (h : Yields (fun k => b_spec_l9Copy_0 (hl env k fi_spec_l9Copy) (cl env k) x1 x2 x3) r) : Yields (fun k => l_spec_l9Copy_0 (hl env k fi_spec_l9Copy) x1 x2 x3) r := Yields.head (fun H C => q_spec_l9Copy_0 H C x1 x2 x3) h
noncomputable def l_laws_toValueS_0 (H : List Item → CS → R) (x1 : T) (x2 : T) (x3 : T) : R := H (hdAt fi_laws_toValueS.body 0) ([(0, .val 45 x1), (3, .sref 34 3 []), (4, .val 3 x2)], [(3, ⟨34, x3, .dp, false⟩)])
/- loop.example/heirlooms/laws.toValueS -/
noncomputable abbrev b_laws_toValueS (H : List Item → CS → R) (C : CallsE) (a0 : T) : R :=
 bif (decide (0 ≤ (a0.es.length : Int)) && (decide ((a0.es.length : Int) ≤ (a0.es.length : Int)) && decide (a0.es.length ≤ LIM))) then
 l_laws_toValueS_0 H a0 (T.int (0 : Int)) (T.sl (List.replicate a0.es.length (T.st [(T.str (⟨#[]⟩ : ByteArray)), (T.int (0 : Int)), (T.sl []), (T.sl [])])))
 else
 none
theorem q_laws_toValueS (H : List Item → CS → R) (C : CallsE) (a0 : T) : enterE fi_laws_toValueS env H C [a0] = b_laws_toValueS H C a0 := by kernel_rfl
theorem y_laws_toValueS (a0 : T) {r : List T} (h : Yields (fun k => b_laws_toValueS (hl env k fi_laws_toValueS) (cl env k) a0) r) : Yields (fun k => cl env k F_laws_toValueS [a0]) r := Yields.call (fi := fi_laws_toValueS) rfl (fun H C => q_laws_toValueS H C a0) h
noncomputable abbrev b_laws_toValueS_0 (H : List Item → CS → R) (C : CallsE) (x1 : T) (x2 : T) (x3 : T) : R :=
 bif (decide (x2.i < (x1.es.length : Int))) then
 bif (decide (0 ≤ x2.i) && decide (x2.i.toNat < x1.es.length)) then
 obind (C F_laws_toValue [(x1.nth x2.i.toNat)]) fun r1 =>
 bif (decide (0 ≤ x2.i) && decide (x2.i.toNat < x3.es.length)) then
 l_laws_toValueS_0 H x1 (T.int (IntKind.wrap .i64 (x2.i + (1 : Int)))) (T.sl (x3.es.set x2.i.toNat (T.st [((rt r1 0).fld 0), ((rt r1 0).fld 1), ((rt r1 0).fld 2), ((rt r1 0).fld 3)])))
 else
 none
 else
 none
 else
 some [x3]
theorem q_laws_toValueS_0 (H : List Item → CS → R) (C : CallsE) (x1 : T) (x2 : T) (x3 : T) : headE fi_laws_toValueS env H C (hdAt fi_laws_toValueS.body 0) ([(0, .val 45 x1), (3, .sref 34 3 []), (4, .val 3 x2)], [(3, ⟨34, x3, .dp, false⟩)]) = b_laws_toValueS_0 H C x1 x2 x3 := by kernel_rfl
theorem y_laws_toValueS_0 (x1 : T) (x2 : T) (x3 : T) {r : List T} (h : Yields (fun k => b_laws_toValueS_0 (hl env k fi_laws_toValueS) (cl env k) x1 x2 x3) r) : Yields (fun k => l_laws_toValueS_0 (hl env k fi_laws_toValueS) x1 x2 x3) r := Yields.head (fun H C => q_laws_toValueS_0 H C x1 x2 x3) h
noncomputable def l_laws_toIntS_0 (H : List Item → CS → R) (x1 : T) (x2 : T) (x3 : T) : R := H (hdAt fi_laws_toIntS.body 0) ([(0, .val 35 x1), (3, .sref 35 3 []), (4, .val 3 x2)], [(3, ⟨35, x3, .dp, false⟩)])
/- loop.example/heirlooms/laws.toIntS -/
noncomputable abbrev b_laws_toIntS (H : List Item → CS → R) (C : CallsE) (a0 : T) : R :=
 bif (decide (0 ≤ (a0.es.length : Int)) && (decide ((a0.es.length : Int) ≤ (a0.es.length : Int)) && decide (a0.es.length ≤ LIM))) then
 l_laws_toIntS_0 H a0 (T.int (0 : Int)) (T.sl (List.replicate a0.es.length (T.int (0 : Int))))
 else
 none
theorem q_laws_toIntS (H : List Item → CS → R) (C : CallsE) (a0 : T) : enterE fi_laws_toIntS env H C [a0] = b_laws_toIntS H C a0 := by kernel_rfl
theorem y_laws_toIntS (a0 : T) {r : List T} (h : Yields (fun k => b_laws_toIntS (hl env k fi_laws_toIntS) (cl env k) a0) r) : Yields (fun k => cl env k F_laws_toIntS [a0]) r := Yields.call (fi := fi_laws_toIntS) rfl (fun H C => q_laws_toIntS H C a0) h
noncomputable abbrev b_laws_toIntS_0 (H : List Item → CS → R) (C : CallsE) (x1 : T) (x2 : T) (x3 : T) : R :=
 bif (decide (x2.i < (x1.es.length : Int))) then
 bif (decide (0 ≤ x2.i) && decide (x2.i.toNat < x1.es.length)) then
 bif (decide (0 ≤ x2.i) && decide (x2.i.toNat < x3.es.length)) then
 l_laws_toIntS_0 H x1 (T.int (IntKind.wrap .i64 (x2.i + (1 : Int)))) (T.sl (x3.es.set x2.i.toNat (x1.nth x2.i.toNat)))
 else
 none
 else
 none
 else
 some [x3]
theorem q_laws_toIntS_0 (H : List Item → CS → R) (C : CallsE) (x1 : T) (x2 : T) (x3 : T) : headE fi_laws_toIntS env H C (hdAt fi_laws_toIntS.body 0) ([(0, .val 35 x1), (3, .sref 35 3 []), (4, .val 3 x2)], [(3, ⟨35, x3, .dp, false⟩)]) = b_laws_toIntS_0 H C x1 x2 x3 := by kernel_rfl
theorem y_laws_toIntS_0 (x1 : T) (x2 : T) (x3 : T) {r : List T} (h : Yields (fun k => b_laws_toIntS_0 (hl env k fi_laws_toIntS) (cl env k) x1 x2 x3) r) : Yields (fun k => l_laws_toIntS_0 (hl env k fi_laws_toIntS) x1 x2 x3) r := Yields.head (fun H C => q_laws_toIntS_0 H C x1 x2 x3) h
/- loop.example/heirlooms/impl.keepable -/
noncomputable abbrev b_impl_keepable (H : List Item → CS → R) (C : CallsE) (a0 a1 : T) : R :=
 obind (C F_impl_kindIn [a0, (a1.fld 0)]) fun r1 =>
 bif (rt r1 0).b then
 obind (C F_impl_recordOf [a0, (a1.fld 0)]) fun r2 =>
 bif ((IntKind.wrap .i64 ((BitVec.ofInt (IntKind.i64).bits (((rt r2 0).fld 0).i) &&& BitVec.ofInt (IntKind.i64).bits (8 : Int)).toNat : Nat)) != (0 : Int)) then
 obind (C F_impl_valueFits [a0, a1]) fun r3 =>
 some [(rt r3 0)]
 else
 some [(T.bool false)]
 else
 some [(T.bool false)]
theorem e_impl_keepable (H : List Item → CS → R) (C : CallsE) (a0 a1 : T) : enterE fi_impl_keepable env H C [a0, a1] =
 obind (C F_impl_kindIn [a0, (a1.fld 0)]) fun r1 =>
 bif ((!((rt r1 0).b == true)) || true) then
 bif ((!((rt r1 0).b == true)) || true) then
 bif ((!((rt r1 0).b == true)) || ((rt r1 0).b == true)) then
 bif ((!((rt r1 0).b == true)) || (((rt r1 0).b == true) && (((rt r1 0).b == true) && true))) then
 obind ((bif ((rt r1 0).b == true) then C F_impl_recordOf [a0, (a1.fld 0)] else some [])) fun r2 =>
 bif ((!((rt r1 0).b == true)) || ((rt r1 0).b == true)) then
 bif ((!((rt r1 0).b == true)) || ((((rt r1 0).b == true) && true) && true)) then
 bif ((!((rt r1 0).b == true)) || ((((rt r1 0).b == true) && true) && true)) then
 bif (bif (rt r1 0).b then ((rt r1 0).b == true) else true) then
 bif ((!((bif (rt r1 0).b then (T.bool ((IntKind.wrap .i64 ((BitVec.ofInt (IntKind.i64).bits (((rt r2 0).fld 0).i) &&& BitVec.ofInt (IntKind.i64).bits (8 : Int)).toNat : Nat)) != (0 : Int))) else (T.bool false)).b == true)) || true) then
 bif ((!((bif (rt r1 0).b then (T.bool ((IntKind.wrap .i64 ((BitVec.ofInt (IntKind.i64).bits (((rt r2 0).fld 0).i) &&& BitVec.ofInt (IntKind.i64).bits (8 : Int)).toNat : Nat)) != (0 : Int))) else (T.bool false)).b == true)) || true) then
 bif ((!((bif (rt r1 0).b then (T.bool ((IntKind.wrap .i64 ((BitVec.ofInt (IntKind.i64).bits (((rt r2 0).fld 0).i) &&& BitVec.ofInt (IntKind.i64).bits (8 : Int)).toNat : Nat)) != (0 : Int))) else (T.bool false)).b == true)) || (((bif (rt r1 0).b then (T.bool ((IntKind.wrap .i64 ((BitVec.ofInt (IntKind.i64).bits (((rt r2 0).fld 0).i) &&& BitVec.ofInt (IntKind.i64).bits (8 : Int)).toNat : Nat)) != (0 : Int))) else (T.bool false)).b == true) && (((bif (rt r1 0).b then (T.bool ((IntKind.wrap .i64 ((BitVec.ofInt (IntKind.i64).bits (((rt r2 0).fld 0).i) &&& BitVec.ofInt (IntKind.i64).bits (8 : Int)).toNat : Nat)) != (0 : Int))) else (T.bool false)).b == true) && true))) then
 obind ((bif ((bif (rt r1 0).b then (T.bool ((IntKind.wrap .i64 ((BitVec.ofInt (IntKind.i64).bits (((rt r2 0).fld 0).i) &&& BitVec.ofInt (IntKind.i64).bits (8 : Int)).toNat : Nat)) != (0 : Int))) else (T.bool false)).b == true) then C F_impl_valueFits [a0, a1] else some [])) fun r3 =>
 bif (bif (bif (rt r1 0).b then (T.bool ((IntKind.wrap .i64 ((BitVec.ofInt (IntKind.i64).bits (((rt r2 0).fld 0).i) &&& BitVec.ofInt (IntKind.i64).bits (8 : Int)).toNat : Nat)) != (0 : Int))) else (T.bool false)).b then ((bif (rt r1 0).b then (T.bool ((IntKind.wrap .i64 ((BitVec.ofInt (IntKind.i64).bits (((rt r2 0).fld 0).i) &&& BitVec.ofInt (IntKind.i64).bits (8 : Int)).toNat : Nat)) != (0 : Int))) else (T.bool false)).b == true) else true) then
 some [(bif (bif (rt r1 0).b then (T.bool ((IntKind.wrap .i64 ((BitVec.ofInt (IntKind.i64).bits (((rt r2 0).fld 0).i) &&& BitVec.ofInt (IntKind.i64).bits (8 : Int)).toNat : Nat)) != (0 : Int))) else (T.bool false)).b then (rt r3 0) else (T.bool false))]
 else
 none
 else
 none
 else
 none
 else
 none
 else
 none
 else
 none
 else
 none
 else
 none
 else
 none
 else
 none
 else
 none
 else
 none := by kernel_rfl
theorem q_impl_keepable (H : List Item → CS → R) (C : CallsE) (a0 a1 : T) : enterE fi_impl_keepable env H C [a0, a1] = b_impl_keepable H C a0 a1 := by
 refine (e_impl_keepable H C a0 a1).trans ?_
 unfold b_impl_keepable
 all_goals refine obind_congr fun r1 => ?_
 all_goals try simp only [bs]
 all_goals cases hc : ((rt r1 0).b) with
 | true =>
  try simp only [bs]
  all_goals refine obind_congr fun r2 => ?_
  all_goals try simp only [bs]
  all_goals cases hc : (((IntKind.wrap .i64 ((BitVec.ofInt (IntKind.i64).bits (((rt r2 0).fld 0).i) &&& BitVec.ofInt (IntKind.i64).bits (8 : Int)).toNat : Nat)) != (0 : Int))) with
  | true =>
   try simp only [bs]
   all_goals refine obind_congr fun r3 => ?_
   all_goals try simp only [bs]
   all_goals kernel_rfl
  | false =>
   try simp only [bs]
   all_goals kernel_rfl
 | false =>
  try simp only [bs]
  all_goals kernel_rfl
theorem y_impl_keepable (a0 a1 : T) {r : List T} (h : Yields (fun k => b_impl_keepable (hl env k fi_impl_keepable) (cl env k) a0 a1) r) : Yields (fun k => cl env k F_impl_keepable [a0, a1]) r := Yields.call (fi := fi_impl_keepable) rfl (fun H C => q_impl_keepable H C a0 a1) h
noncomputable def l_impl_copyKept_0 (H : List Item → CS → R) (x1 : T) (x2 : T) (x3 : T) (x4 : T) : R := H (hdAt fi_impl_copyKept.body 0) ([(3, .sref 29 3 []), (7, .val 29 x1), (8, .val 3 x2), (9, .val 3 x3)], [(3, ⟨29, x4, (.sl .dp), false⟩)])
/- loop.example/heirlooms/impl.copyKept -/
noncomputable abbrev b_impl_copyKept (H : List Item → CS → R) (C : CallsE) (a0 : T) : R :=
 l_impl_copyKept_0 H a0 (T.int (a0.es.length : Int)) (T.int (0 : Int)) (T.sl [])
theorem q_impl_copyKept (H : List Item → CS → R) (C : CallsE) (a0 : T) : enterE fi_impl_copyKept env H C [a0] = b_impl_copyKept H C a0 := by kernel_rfl
theorem y_impl_copyKept (a0 : T) {r : List T} (h : Yields (fun k => b_impl_copyKept (hl env k fi_impl_copyKept) (cl env k) a0) r) : Yields (fun k => cl env k F_impl_copyKept [a0]) r := Yields.call (fi := fi_impl_copyKept) rfl (fun H C => q_impl_copyKept H C a0) h
noncomputable abbrev b_impl_copyKept_0 (H : List Item → CS → R) (C : CallsE) (x1 : T) (x2 : T) (x3 : T) (x4 : T) : R :=
 bif (decide (x3.i < x2.i)) then
 bif (decide (0 ≤ x3.i) && decide (x3.i.toNat < x1.es.length)) then
 obind (C F_impl_copyValue [((x1.nth x3.i.toNat).fld 1)]) fun r1 =>
 bif (decide (x4.es.length + [(T.st [((x1.nth x3.i.toNat).fld 0), (T.st [((rt r1 0).fld 0), ((rt r1 0).fld 1), ((rt r1 0).fld 2), ((rt r1 0).fld 3)])])].length ≤ LIM)) then
 l_impl_copyKept_0 H x1 x2 (T.int (IntKind.wrap .i64 (x3.i + (1 : Int)))) (T.sl (x4.es ++ [(T.st [((x1.nth x3.i.toNat).fld 0), (T.st [((rt r1 0).fld 0), ((rt r1 0).fld 1), ((rt r1 0).fld 2), ((rt r1 0).fld 3)])])]))
 else
 none
 else
 none
 else
 obind (C F_slices_Clip_impl_Kept [x4]) fun r1 =>
 some [(T.sl ((x4.es.take x4.es.length).drop 0))]
theorem e_impl_copyKept_0 (H : List Item → CS → R) (C : CallsE) (x1 : T) (x2 : T) (x3 : T) (x4 : T) : headE fi_impl_copyKept env H C (hdAt fi_impl_copyKept.body 0) ([(3, .sref 29 3 []), (7, .val 29 x1), (8, .val 3 x2), (9, .val 3 x3)], [(3, ⟨29, x4, (.sl .dp), false⟩)]) =
 bif (decide (x3.i < x2.i)) then
 bif (decide (0 ≤ x3.i) && decide (x3.i.toNat < x1.es.length)) then
 obind (C F_impl_copyValue [((x1.nth x3.i.toNat).fld 1)]) fun r1 =>
 bif (decide (x4.es.length + [(T.st [((x1.nth x3.i.toNat).fld 0), (T.st [((rt r1 0).fld 0), ((rt r1 0).fld 1), ((rt r1 0).fld 2), ((rt r1 0).fld 3)])])].length ≤ LIM)) then
 l_impl_copyKept_0 H x1 x2 (T.int (IntKind.wrap .i64 (x3.i + (1 : Int)))) (T.sl (x4.es ++ [(T.st [((x1.nth x3.i.toNat).fld 0), (T.st [((rt r1 0).fld 0), ((rt r1 0).fld 1), ((rt r1 0).fld 2), ((rt r1 0).fld 3)])])]))
 else
 none
 else
 none
 else
 obind (C F_slices_Clip_impl_Kept [x4]) fun r2 =>
 some [(T.sl ((x4.es.take x4.es.length).drop 0))] := by kernel_rfl
theorem q_impl_copyKept_0 (H : List Item → CS → R) (C : CallsE) (x1 : T) (x2 : T) (x3 : T) (x4 : T) : headE fi_impl_copyKept env H C (hdAt fi_impl_copyKept.body 0) ([(3, .sref 29 3 []), (7, .val 29 x1), (8, .val 3 x2), (9, .val 3 x3)], [(3, ⟨29, x4, (.sl .dp), false⟩)]) = b_impl_copyKept_0 H C x1 x2 x3 x4 := by
 refine (e_impl_copyKept_0 H C x1 x2 x3 x4).trans ?_
 unfold b_impl_copyKept_0
 all_goals cases hc : ((decide (x3.i < x2.i))) with
 | true =>
  try simp only [bs]
  all_goals cases hc : ((decide (0 ≤ x3.i) && decide (x3.i.toNat < x1.es.length))) with
  | true =>
   try simp only [bs]
   all_goals refine obind_congr fun r1 => ?_
   all_goals try simp only [bs]
   all_goals cases hc : ((decide (x4.es.length + [(T.st [((x1.nth x3.i.toNat).fld 0), (T.st [((rt r1 0).fld 0), ((rt r1 0).fld 1), ((rt r1 0).fld 2), ((rt r1 0).fld 3)])])].length ≤ LIM))) with
   | true =>
    try simp only [bs]
    all_goals kernel_rfl
   | false =>
    try simp only [bs]
    all_goals kernel_rfl
  | false =>
   try simp only [bs]
   all_goals kernel_rfl
 | false =>
  try simp only [bs]
  all_goals refine obind_congr fun r1 => ?_
  all_goals try simp only [bs]
  all_goals kernel_rfl
theorem y_impl_copyKept_0 (x1 : T) (x2 : T) (x3 : T) (x4 : T) {r : List T} (h : Yields (fun k => b_impl_copyKept_0 (hl env k fi_impl_copyKept) (cl env k) x1 x2 x3 x4) r) : Yields (fun k => l_impl_copyKept_0 (hl env k fi_impl_copyKept) x1 x2 x3 x4) r := Yields.head (fun H C => q_impl_copyKept_0 H C x1 x2 x3 x4) h
/- loop.example/heirlooms/spec.l6In -/
noncomputable abbrev b_spec_l6In (H : List Item → CS → R) (C : CallsE) (a0 a1 a2 : T) : R :=
 bif (decide (a0.i ≥ a1.i)) then
 some [(T.bool (decide (a0.i ≤ a2.i)))]
 else
 some [(T.bool false)]
theorem e_spec_l6In (H : List Item → CS → R) (C : CallsE) (a0 a1 a2 : T) : enterE fi_spec_l6In env H C [a0, a1, a2] =
 bif ((!((decide (a0.i ≥ a1.i)) == true)) || true) then
 bif ((!((decide (a0.i ≥ a1.i)) == true)) || true) then
 bif ((!((decide (a0.i ≥ a1.i)) == true)) || ((((decide (a0.i ≥ a1.i)) == true) && ((decide (a0.i ≥ a1.i)) == true)) && true)) then
 bif (bif (decide (a0.i ≥ a1.i)) then ((decide (a0.i ≥ a1.i)) == true) else true) then
 some [(bif (decide (a0.i ≥ a1.i)) then (T.bool (decide (a0.i ≤ a2.i))) else (T.bool false))]
 else
 none
 else
 none
 else
 none
 else
 none := by kernel_rfl
theorem q_spec_l6In (H : List Item → CS → R) (C : CallsE) (a0 a1 a2 : T) : enterE fi_spec_l6In env H C [a0, a1, a2] = b_spec_l6In H C a0 a1 a2 := by
 refine (e_spec_l6In H C a0 a1 a2).trans ?_
 unfold b_spec_l6In
 all_goals cases hc : ((decide (a0.i ≥ a1.i))) with
 | true =>
  try simp only [bs]
  all_goals kernel_rfl
 | false =>
  try simp only [bs]
  all_goals kernel_rfl
theorem y_spec_l6In (a0 a1 a2 : T) {r : List T} (h : Yields (fun k => b_spec_l6In (hl env k fi_spec_l6In) (cl env k) a0 a1 a2) r) : Yields (fun k => cl env k F_spec_l6In [a0, a1, a2]) r := Yields.call (fi := fi_spec_l6In) rfl (fun H C => q_spec_l6In H C a0 a1 a2) h
noncomputable def l_spec_l9Put_0 (H : List Item → CS → R) (x1 : T) (x2 : T) (x3 : T) (x4 : T) (x5 : T) (x6 : T) : R := H (hdAt fi_spec_l9Put.body 0) ([(0, .val 29 x1), (1, .val 3 x2), (5, .pref 37 5 []), (7, .sref 29 7 []), (8, .val 4 x3), (9, .val 3 x4)], [(5, ⟨37, x5, .fz, true⟩), (7, ⟨29, x6, (.sl .dp), false⟩)])
noncomputable def l_spec_l9Put_1 (H : List Item → CS → R) (x1 : T) (x2 : T) (x3 : T) (x4 : T) (x5 : T) (x6 : T) : R := H (hdAt fi_spec_l9Put.body 0) ([(0, .val 29 x1), (1, .val 3 x2), (5, .pref 37 5 []), (7, .sref 29 7 []), (8, .val 4 x3), (9, .val 3 x4)], [(5, ⟨37, x5, .fz, true⟩), (7, ⟨29, x6, (.sl .fz), false⟩)])
/- loop.example/heirlooms/spec.l9Put -/
noncomputable abbrev b_spec_l9Put (H : List Item → CS → R) (C : CallsE) (a0 a1 a2 : T) : R :=
 l_spec_l9Put_0 H a0 a1 (T.bool false) (T.int (0 : Int)) a2 (T.sl [])
theorem q_spec_l9Put (H : List Item → CS → R) (C : CallsE) (a0 a1 a2 : T) : enterE fi_spec_l9Put env H C [a0, a1, a2] = b_spec_l9Put H C a0 a1 a2 := by kernel_rfl
theorem y_spec_l9Put (a0 a1 a2 : T) {r : List T} (h : Yields (fun k => b_spec_l9Put (hl env k fi_spec_l9Put) (cl env k) a0 a1 a2) r) : Yields (fun k => cl env k F_spec_l9Put [a0, a1, a2]) r := Yields.call (fi := fi_spec_l9Put) rfl (fun H C => q_spec_l9Put H C a0 a1 a2) h
noncomputable abbrev b_spec_l9Put_0 (H : List Item → CS → R) (C : CallsE) (x1 : T) (x2 : T) (x3 : T) (x4 : T) (x5 : T) (x6 : T) : R :=
 bif (decide (x4.i < (x1.es.length : Int))) then
 bif (!x3.b) then
 bif (decide (0 ≤ x4.i) && decide (x4.i.toNat < x1.es.length)) then
 bif (decide (((x1.nth x4.i.toNat).fld 0).i > x2.i)) then
 obind (C F_spec_l2Copy [x5]) fun r1 =>
 bif (decide (x6.es.length + [(T.st [x2, (T.st [((rt r1 0).fld 0), ((rt r1 0).fld 1), ((rt r1 0).fld 2), ((rt r1 0).fld 3)])])].length ≤ LIM)) then
 bif (decide ((x6.es ++ [(T.st [x2, (T.st [((rt r1 0).fld 0), ((rt r1 0).fld 1), ((rt r1 0).fld 2), ((rt r1 0).fld 3)])])]).length + [(x1.nth x4.i.toNat)].length ≤ LIM)) then
 l_spec_l9Put_1 H x1 x2 (T.bool true) (T.int (IntKind.wrap .i64 (x4.i + (1 : Int)))) x5 (T.sl ((x6.es ++ [(T.st [x2, (T.st [((rt r1 0).fld 0), ((rt r1 0).fld 1), ((rt r1 0).fld 2), ((rt r1 0).fld 3)])])]) ++ [(x1.nth x4.i.toNat)]))
 else
 none
 else
 none
 else
 bif (((x1.nth x4.i.toNat).fld 0).i == x2.i) then
 bif (!(Op.bytesLess ((((x1.nth x4.i.toNat).fld 1).fld 0).s).toList ((x5.fld 0).s).toList || ((((x1.nth x4.i.toNat).fld 1).fld 0).s).toList == ((x5.fld 0).s).toList)) then
 obind (C F_spec_l2Copy [x5]) fun r1 =>
 bif (decide (x6.es.length + [(T.st [x2, (T.st [((rt r1 0).fld 0), ((rt r1 0).fld 1), ((rt r1 0).fld 2), ((rt r1 0).fld 3)])])].length ≤ LIM)) then
 bif (decide ((x6.es ++ [(T.st [x2, (T.st [((rt r1 0).fld 0), ((rt r1 0).fld 1), ((rt r1 0).fld 2), ((rt r1 0).fld 3)])])]).length + [(x1.nth x4.i.toNat)].length ≤ LIM)) then
 l_spec_l9Put_1 H x1 x2 (T.bool true) (T.int (IntKind.wrap .i64 (x4.i + (1 : Int)))) x5 (T.sl ((x6.es ++ [(T.st [x2, (T.st [((rt r1 0).fld 0), ((rt r1 0).fld 1), ((rt r1 0).fld 2), ((rt r1 0).fld 3)])])]) ++ [(x1.nth x4.i.toNat)]))
 else
 none
 else
 none
 else
 bif (decide (x6.es.length + [(x1.nth x4.i.toNat)].length ≤ LIM)) then
 l_spec_l9Put_1 H x1 x2 x3 (T.int (IntKind.wrap .i64 (x4.i + (1 : Int)))) x5 (T.sl (x6.es ++ [(x1.nth x4.i.toNat)]))
 else
 none
 else
 bif (decide (x6.es.length + [(x1.nth x4.i.toNat)].length ≤ LIM)) then
 l_spec_l9Put_1 H x1 x2 x3 (T.int (IntKind.wrap .i64 (x4.i + (1 : Int)))) x5 (T.sl (x6.es ++ [(x1.nth x4.i.toNat)]))
 else
 none
 else
 none
 else
 bif (decide (0 ≤ x4.i) && decide (x4.i.toNat < x1.es.length)) then
 bif (decide (x6.es.length + [(x1.nth x4.i.toNat)].length ≤ LIM)) then
 l_spec_l9Put_1 H x1 x2 x3 (T.int (IntKind.wrap .i64 (x4.i + (1 : Int)))) x5 (T.sl (x6.es ++ [(x1.nth x4.i.toNat)]))
 else
 none
 else
 none
 else
 bif (!x3.b) then
 obind (C F_spec_l2Copy [x5]) fun r1 =>
 bif (decide (x6.es.length + [(T.st [x2, (T.st [((rt r1 0).fld 0), ((rt r1 0).fld 1), ((rt r1 0).fld 2), ((rt r1 0).fld 3)])])].length ≤ LIM)) then
 some [(T.sl (x6.es ++ [(T.st [x2, (T.st [((rt r1 0).fld 0), ((rt r1 0).fld 1), ((rt r1 0).fld 2), ((rt r1 0).fld 3)])])]))]
 else
 none
 else
 some [x6]
theorem e_spec_l9Put_0 (H : List Item → CS → R) (C : CallsE) (x1 : T) (x2 : T) (x3 : T) (x4 : T) (x5 : T) (x6 : T) : headE fi_spec_l9Put env H C (hdAt fi_spec_l9Put.body 0) ([(0, .val 29 x1), (1, .val 3 x2), (5, .pref 37 5 []), (7, .sref 29 7 []), (8, .val 4 x3), (9, .val 3 x4)], [(5, ⟨37, x5, .fz, true⟩), (7, ⟨29, x6, (.sl .dp), false⟩)]) =
 bif (decide (x4.i < (x1.es.length : Int))) then
 bif ((!((!x3.b) == true)) || true) then
 bif ((!((!x3.b) == true)) || true) then
 bif ((!((!x3.b) == true)) || ((((!x3.b) == true) && (((!x3.b) == true) && true)) && (decide (0 ≤ x4.i) && decide (x4.i.toNat < x1.es.length)))) then
 bif ((!((!x3.b) == true)) || ((!x3.b) == true)) then
 bif ((!((!x3.b) == true)) || ((!x3.b) == true)) then
 bif ((!((!x3.b) == true)) || true) then
 bif ((!((!x3.b) == true)) || ((((!x3.b) == true) && ((!x3.b) == true)) && true)) then
 bif ((!((!x3.b) == true)) || ((!x3.b) == true)) then
 bif ((!(((!x3.b) == true) && ((decide (((x1.nth x4.i.toNat).fld 0).i > x2.i)) == false))) || true) then
 bif ((!(((!x3.b) == true) && ((decide (((x1.nth x4.i.toNat).fld 0).i > x2.i)) == false))) || true) then
 bif ((!(((!x3.b) == true) && ((decide (((x1.nth x4.i.toNat).fld 0).i > x2.i)) == false))) || (((((!x3.b) == true) && ((decide (((x1.nth x4.i.toNat).fld 0).i > x2.i)) == false)) && ((((!x3.b) == true) && ((decide (((x1.nth x4.i.toNat).fld 0).i > x2.i)) == false)) && true)) && (decide (0 ≤ x4.i) && decide (x4.i.toNat < x1.es.length)))) then
 bif ((!(((!x3.b) == true) && ((decide (((x1.nth x4.i.toNat).fld 0).i > x2.i)) == false))) || (((!x3.b) == true) && ((decide (((x1.nth x4.i.toNat).fld 0).i > x2.i)) == false))) then
 bif ((!(((!x3.b) == true) && ((decide (((x1.nth x4.i.toNat).fld 0).i > x2.i)) == false))) || (((!x3.b) == true) && ((decide (((x1.nth x4.i.toNat).fld 0).i > x2.i)) == false))) then
 bif ((!(((!x3.b) == true) && ((decide (((x1.nth x4.i.toNat).fld 0).i > x2.i)) == false))) || true) then
 bif ((!(((!x3.b) == true) && ((decide (((x1.nth x4.i.toNat).fld 0).i > x2.i)) == false))) || (((((!x3.b) == true) && ((decide (((x1.nth x4.i.toNat).fld 0).i > x2.i)) == false)) && (((!x3.b) == true) && ((decide (((x1.nth x4.i.toNat).fld 0).i > x2.i)) == false))) && true)) then
 bif ((!(((!x3.b) == true) && ((decide (((x1.nth x4.i.toNat).fld 0).i > x2.i)) == false))) || (((!x3.b) == true) && ((decide (((x1.nth x4.i.toNat).fld 0).i > x2.i)) == false))) then
 bif ((!((((!x3.b) == true) && ((decide (((x1.nth x4.i.toNat).fld 0).i > x2.i)) == false)) && ((((x1.nth x4.i.toNat).fld 0).i == x2.i) == true))) || true) then
 bif ((!((((!x3.b) == true) && ((decide (((x1.nth x4.i.toNat).fld 0).i > x2.i)) == false)) && ((((x1.nth x4.i.toNat).fld 0).i == x2.i) == true))) || true) then
 bif ((!((((!x3.b) == true) && ((decide (((x1.nth x4.i.toNat).fld 0).i > x2.i)) == false)) && ((((x1.nth x4.i.toNat).fld 0).i == x2.i) == true))) || ((((((!x3.b) == true) && ((decide (((x1.nth x4.i.toNat).fld 0).i > x2.i)) == false)) && ((((x1.nth x4.i.toNat).fld 0).i == x2.i) == true)) && (((((!x3.b) == true) && ((decide (((x1.nth x4.i.toNat).fld 0).i > x2.i)) == false)) && ((((x1.nth x4.i.toNat).fld 0).i == x2.i) == true)) && true)) && (decide (0 ≤ x4.i) && decide (x4.i.toNat < x1.es.length)))) then
 bif ((!((((!x3.b) == true) && ((decide (((x1.nth x4.i.toNat).fld 0).i > x2.i)) == false)) && ((((x1.nth x4.i.toNat).fld 0).i == x2.i) == true))) || ((((!x3.b) == true) && ((decide (((x1.nth x4.i.toNat).fld 0).i > x2.i)) == false)) && ((((x1.nth x4.i.toNat).fld 0).i == x2.i) == true))) then
 bif ((!((((!x3.b) == true) && ((decide (((x1.nth x4.i.toNat).fld 0).i > x2.i)) == false)) && ((((x1.nth x4.i.toNat).fld 0).i == x2.i) == true))) || ((((!x3.b) == true) && ((decide (((x1.nth x4.i.toNat).fld 0).i > x2.i)) == false)) && ((((x1.nth x4.i.toNat).fld 0).i == x2.i) == true))) then
 bif ((!((((!x3.b) == true) && ((decide (((x1.nth x4.i.toNat).fld 0).i > x2.i)) == false)) && ((((x1.nth x4.i.toNat).fld 0).i == x2.i) == true))) || ((((!x3.b) == true) && ((decide (((x1.nth x4.i.toNat).fld 0).i > x2.i)) == false)) && ((((x1.nth x4.i.toNat).fld 0).i == x2.i) == true))) then
 bif ((!((((!x3.b) == true) && ((decide (((x1.nth x4.i.toNat).fld 0).i > x2.i)) == false)) && ((((x1.nth x4.i.toNat).fld 0).i == x2.i) == true))) || true) then
 bif ((!((((!x3.b) == true) && ((decide (((x1.nth x4.i.toNat).fld 0).i > x2.i)) == false)) && ((((x1.nth x4.i.toNat).fld 0).i == x2.i) == true))) || ((((!x3.b) == true) && ((decide (((x1.nth x4.i.toNat).fld 0).i > x2.i)) == false)) && ((((x1.nth x4.i.toNat).fld 0).i == x2.i) == true))) then
 bif ((!((((!x3.b) == true) && ((decide (((x1.nth x4.i.toNat).fld 0).i > x2.i)) == false)) && ((((x1.nth x4.i.toNat).fld 0).i == x2.i) == true))) || ((((((!x3.b) == true) && ((decide (((x1.nth x4.i.toNat).fld 0).i > x2.i)) == false)) && ((((x1.nth x4.i.toNat).fld 0).i == x2.i) == true)) && ((((!x3.b) == true) && ((decide (((x1.nth x4.i.toNat).fld 0).i > x2.i)) == false)) && ((((x1.nth x4.i.toNat).fld 0).i == x2.i) == true))) && true)) then
 bif ((!(((!x3.b) == true) && ((decide (((x1.nth x4.i.toNat).fld 0).i > x2.i)) == false))) || ((((!x3.b) == true) && ((decide (((x1.nth x4.i.toNat).fld 0).i > x2.i)) == false)) && (bif (((x1.nth x4.i.toNat).fld 0).i == x2.i) then ((((!x3.b) == true) && ((decide (((x1.nth x4.i.toNat).fld 0).i > x2.i)) == false)) && ((((x1.nth x4.i.toNat).fld 0).i == x2.i) == true)) else true))) then
 bif ((!((!x3.b) == true)) || (((!x3.b) == true) && (bif (decide (((x1.nth x4.i.toNat).fld 0).i > x2.i)) then true else (((!x3.b) == true) && ((decide (((x1.nth x4.i.toNat).fld 0).i > x2.i)) == false))))) then
 bif (bif (!x3.b) then ((!x3.b) == true) else true) then
 bif (bif (!x3.b) then (bif (decide (((x1.nth x4.i.toNat).fld 0).i > x2.i)) then (T.bool true) else (bif (((x1.nth x4.i.toNat).fld 0).i == x2.i) then (T.bool (!(Op.bytesLess ((((x1.nth x4.i.toNat).fld 1).fld 0).s).toList ((x5.fld 0).s).toList || ((((x1.nth x4.i.toNat).fld 1).fld 0).s).toList == ((x5.fld 0).s).toList))) else (T.bool false))) else (T.bool false)).b then
 obind (C F_spec_l2Copy [x5]) fun r1 =>
 bif (decide (x6.es.length + [(T.st [x2, (T.st [((rt r1 0).fld 0), ((rt r1 0).fld 1), ((rt r1 0).fld 2), ((rt r1 0).fld 3)])])].length ≤ LIM)) then
 bif (decide (0 ≤ x4.i) && decide (x4.i.toNat < x1.es.length)) then
 bif (decide ((x6.es ++ [(T.st [x2, (T.st [((rt r1 0).fld 0), ((rt r1 0).fld 1), ((rt r1 0).fld 2), ((rt r1 0).fld 3)])])]).length + [(x1.nth x4.i.toNat)].length ≤ LIM)) then
 l_spec_l9Put_1 H x1 x2 (T.bool true) (T.int (IntKind.wrap .i64 (x4.i + (1 : Int)))) x5 (T.sl ((x6.es ++ [(T.st [x2, (T.st [((rt r1 0).fld 0), ((rt r1 0).fld 1), ((rt r1 0).fld 2), ((rt r1 0).fld 3)])])]) ++ [(x1.nth x4.i.toNat)]))
 else
 none
 else
 none
 else
 none
 else
 bif (decide (0 ≤ x4.i) && decide (x4.i.toNat < x1.es.length)) then
 bif (decide (x6.es.length + [(x1.nth x4.i.toNat)].length ≤ LIM)) then
 l_spec_l9Put_1 H x1 x2 x3 (T.int (IntKind.wrap .i64 (x4.i + (1 : Int)))) x5 (T.sl (x6.es ++ [(x1.nth x4.i.toNat)]))
 else
 none
 else
 none
 else
 none
 else
 none
 else
 none
 else
 none
 else
 none
 else
 none
 else
 none
 else
 none
 else
 none
 else
 none
 else
 none
 else
 none
 else
 none
 else
 none
 else
 none
 else
 none
 else
 none
 else
 none
 else
 none
 else
 none
 else
 none
 else
 none
 else
 none
 else
 none
 else
 none
 else
 none
 else
 none
 else
 none
 else
 bif (!x3.b) then
 obind (C F_spec_l2Copy [x5]) fun r2 =>
 bif (decide (x6.es.length + [(T.st [x2, (T.st [((rt r2 0).fld 0), ((rt r2 0).fld 1), ((rt r2 0).fld 2), ((rt r2 0).fld 3)])])].length ≤ LIM)) then
 some [(T.sl (x6.es ++ [(T.st [x2, (T.st [((rt r2 0).fld 0), ((rt r2 0).fld 1), ((rt r2 0).fld 2), ((rt r2 0).fld 3)])])]))]
 else
 none
 else
 some [x6] := by kernel_rfl
theorem q_spec_l9Put_0 (H : List Item → CS → R) (C : CallsE) (x1 : T) (x2 : T) (x3 : T) (x4 : T) (x5 : T) (x6 : T) : headE fi_spec_l9Put env H C (hdAt fi_spec_l9Put.body 0) ([(0, .val 29 x1), (1, .val 3 x2), (5, .pref 37 5 []), (7, .sref 29 7 []), (8, .val 4 x3), (9, .val 3 x4)], [(5, ⟨37, x5, .fz, true⟩), (7, ⟨29, x6, (.sl .dp), false⟩)]) = b_spec_l9Put_0 H C x1 x2 x3 x4 x5 x6 := by
 refine (e_spec_l9Put_0 H C x1 x2 x3 x4 x5 x6).trans ?_
 unfold b_spec_l9Put_0
 all_goals cases hc : ((decide (x4.i < (x1.es.length : Int)))) with
 | true =>
  try simp only [bs]
  all_goals cases hc : ((!x3.b)) with
  | true =>
   try simp only [bs]
   all_goals cases hc : ((decide (0 ≤ x4.i) && decide (x4.i.toNat < x1.es.length))) with
   | true =>
    try simp only [bs]
    all_goals cases hc : ((decide (((x1.nth x4.i.toNat).fld 0).i > x2.i))) with
    | true =>
     try simp only [bs]
     all_goals cases hc : ((((x1.nth x4.i.toNat).fld 0).i == x2.i)) with
     | true =>
      try simp only [bs]
      all_goals refine obind_congr fun r1 => ?_
      all_goals try simp only [bs]
      all_goals cases hc : ((decide (x6.es.length + [(T.st [x2, (T.st [((rt r1 0).fld 0), ((rt r1 0).fld 1), ((rt r1 0).fld 2), ((rt r1 0).fld 3)])])].length ≤ LIM))) with
      | true =>
       try simp only [bs]
       all_goals cases hc : ((decide ((x6.es ++ [(T.st [x2, (T.st [((rt r1 0).fld 0), ((rt r1 0).fld 1), ((rt r1 0).fld 2), ((rt r1 0).fld 3)])])]).length + [(x1.nth x4.i.toNat)].length ≤ LIM))) with
       | true =>
        try simp only [bs]
        all_goals kernel_rfl
       | false =>
        try simp only [bs]
        all_goals kernel_rfl
      | false =>
       try simp only [bs]
       all_goals kernel_rfl
     | false =>
      try simp only [bs]
      all_goals refine obind_congr fun r1 => ?_
      all_goals try simp only [bs]
      all_goals cases hc : ((decide (x6.es.length + [(T.st [x2, (T.st [((rt r1 0).fld 0), ((rt r1 0).fld 1), ((rt r1 0).fld 2), ((rt r1 0).fld 3)])])].length ≤ LIM))) with
      | true =>
       try simp only [bs]
       all_goals cases hc : ((decide ((x6.es ++ [(T.st [x2, (T.st [((rt r1 0).fld 0), ((rt r1 0).fld 1), ((rt r1 0).fld 2), ((rt r1 0).fld 3)])])]).length + [(x1.nth x4.i.toNat)].length ≤ LIM))) with
       | true =>
        try simp only [bs]
        all_goals kernel_rfl
       | false =>
        try simp only [bs]
        all_goals kernel_rfl
      | false =>
       try simp only [bs]
       all_goals kernel_rfl
    | false =>
     try simp only [bs]
     all_goals cases hc : ((((x1.nth x4.i.toNat).fld 0).i == x2.i)) with
     | true =>
      try simp only [bs]
      all_goals cases hc : ((!(Op.bytesLess ((((x1.nth x4.i.toNat).fld 1).fld 0).s).toList ((x5.fld 0).s).toList || ((((x1.nth x4.i.toNat).fld 1).fld 0).s).toList == ((x5.fld 0).s).toList))) with
      | true =>
       try simp only [bs]
       all_goals refine obind_congr fun r1 => ?_
       all_goals try simp only [bs]
       all_goals cases hc : ((decide (x6.es.length + [(T.st [x2, (T.st [((rt r1 0).fld 0), ((rt r1 0).fld 1), ((rt r1 0).fld 2), ((rt r1 0).fld 3)])])].length ≤ LIM))) with
       | true =>
        try simp only [bs]
        all_goals cases hc : ((decide ((x6.es ++ [(T.st [x2, (T.st [((rt r1 0).fld 0), ((rt r1 0).fld 1), ((rt r1 0).fld 2), ((rt r1 0).fld 3)])])]).length + [(x1.nth x4.i.toNat)].length ≤ LIM))) with
        | true =>
         try simp only [bs]
         all_goals kernel_rfl
        | false =>
         try simp only [bs]
         all_goals kernel_rfl
       | false =>
        try simp only [bs]
        all_goals kernel_rfl
      | false =>
       try simp only [bs]
       all_goals cases hc : ((decide (x6.es.length + [(x1.nth x4.i.toNat)].length ≤ LIM))) with
       | true =>
        try simp only [bs]
        all_goals kernel_rfl
       | false =>
        try simp only [bs]
        all_goals kernel_rfl
     | false =>
      try simp only [bs]
      all_goals cases hc : ((decide (x6.es.length + [(x1.nth x4.i.toNat)].length ≤ LIM))) with
      | true =>
       try simp only [bs]
       all_goals kernel_rfl
      | false =>
       try simp only [bs]
       all_goals kernel_rfl
   | false =>
    try simp only [bs]
    all_goals kernel_rfl
  | false =>
   try simp only [bs]
   all_goals cases hc : ((decide (((x1.nth x4.i.toNat).fld 0).i > x2.i))) with
   | true =>
    try simp only [bs]
    all_goals cases hc : ((((x1.nth x4.i.toNat).fld 0).i == x2.i)) with
    | true =>
     try simp only [bs]
     all_goals cases hc : ((decide (0 ≤ x4.i) && decide (x4.i.toNat < x1.es.length))) with
     | true =>
      try simp only [bs]
      all_goals cases hc : ((decide (x6.es.length + [(x1.nth x4.i.toNat)].length ≤ LIM))) with
      | true =>
       try simp only [bs]
       all_goals kernel_rfl
      | false =>
       try simp only [bs]
       all_goals kernel_rfl
     | false =>
      try simp only [bs]
      all_goals kernel_rfl
    | false =>
     try simp only [bs]
     all_goals cases hc : ((decide (0 ≤ x4.i) && decide (x4.i.toNat < x1.es.length))) with
     | true =>
      try simp only [bs]
      all_goals cases hc : ((decide (x6.es.length + [(x1.nth x4.i.toNat)].length ≤ LIM))) with
      | true =>
       try simp only [bs]
       all_goals kernel_rfl
      | false =>
       try simp only [bs]
       all_goals kernel_rfl
     | false =>
      try simp only [bs]
      all_goals kernel_rfl
   | false =>
    try simp only [bs]
    all_goals cases hc : ((((x1.nth x4.i.toNat).fld 0).i == x2.i)) with
    | true =>
     try simp only [bs]
     all_goals cases hc : ((decide (0 ≤ x4.i) && decide (x4.i.toNat < x1.es.length))) with
     | true =>
      try simp only [bs]
      all_goals cases hc : ((decide (x6.es.length + [(x1.nth x4.i.toNat)].length ≤ LIM))) with
      | true =>
       try simp only [bs]
       all_goals kernel_rfl
      | false =>
       try simp only [bs]
       all_goals kernel_rfl
     | false =>
      try simp only [bs]
      all_goals kernel_rfl
    | false =>
     try simp only [bs]
     all_goals cases hc : ((decide (0 ≤ x4.i) && decide (x4.i.toNat < x1.es.length))) with
     | true =>
      try simp only [bs]
      all_goals cases hc : ((decide (x6.es.length + [(x1.nth x4.i.toNat)].length ≤ LIM))) with
      | true =>
       try simp only [bs]
       all_goals kernel_rfl
      | false =>
       try simp only [bs]
       all_goals kernel_rfl
     | false =>
      try simp only [bs]
      all_goals kernel_rfl
 | false =>
  try simp only [bs]
  all_goals cases hc : ((!x3.b)) with
  | true =>
   try simp only [bs]
   all_goals refine obind_congr fun r1 => ?_
   all_goals try simp only [bs]
   all_goals cases hc : ((decide (x6.es.length + [(T.st [x2, (T.st [((rt r1 0).fld 0), ((rt r1 0).fld 1), ((rt r1 0).fld 2), ((rt r1 0).fld 3)])])].length ≤ LIM))) with
   | true =>
    try simp only [bs]
    all_goals kernel_rfl
   | false =>
    try simp only [bs]
    all_goals kernel_rfl
  | false =>
   try simp only [bs]
   all_goals kernel_rfl
theorem y_spec_l9Put_0 (x1 : T) (x2 : T) (x3 : T) (x4 : T) (x5 : T) (x6 : T) {r : List T} (h : Yields (fun k => b_spec_l9Put_0 (hl env k fi_spec_l9Put) (cl env k) x1 x2 x3 x4 x5 x6) r) : Yields (fun k => l_spec_l9Put_0 (hl env k fi_spec_l9Put) x1 x2 x3 x4 x5 x6) r := Yields.head (fun H C => q_spec_l9Put_0 H C x1 x2 x3 x4 x5 x6) h
noncomputable abbrev b_spec_l9Put_1 (H : List Item → CS → R) (C : CallsE) (x1 : T) (x2 : T) (x3 : T) (x4 : T) (x5 : T) (x6 : T) : R :=
 bif (decide (x4.i < (x1.es.length : Int))) then
 bif (!x3.b) then
 bif (decide (0 ≤ x4.i) && decide (x4.i.toNat < x1.es.length)) then
 bif (decide (((x1.nth x4.i.toNat).fld 0).i > x2.i)) then
 obind (C F_spec_l2Copy [x5]) fun r1 =>
 bif (decide (x6.es.length + [(T.st [x2, (T.st [((rt r1 0).fld 0), ((rt r1 0).fld 1), ((rt r1 0).fld 2), ((rt r1 0).fld 3)])])].length ≤ LIM)) then
 bif (decide ((x6.es ++ [(T.st [x2, (T.st [((rt r1 0).fld 0), ((rt r1 0).fld 1), ((rt r1 0).fld 2), ((rt r1 0).fld 3)])])]).length + [(x1.nth x4.i.toNat)].length ≤ LIM)) then
 l_spec_l9Put_1 H x1 x2 (T.bool true) (T.int (IntKind.wrap .i64 (x4.i + (1 : Int)))) x5 (T.sl ((x6.es ++ [(T.st [x2, (T.st [((rt r1 0).fld 0), ((rt r1 0).fld 1), ((rt r1 0).fld 2), ((rt r1 0).fld 3)])])]) ++ [(x1.nth x4.i.toNat)]))
 else
 none
 else
 none
 else
 bif (((x1.nth x4.i.toNat).fld 0).i == x2.i) then
 bif (!(Op.bytesLess ((((x1.nth x4.i.toNat).fld 1).fld 0).s).toList ((x5.fld 0).s).toList || ((((x1.nth x4.i.toNat).fld 1).fld 0).s).toList == ((x5.fld 0).s).toList)) then
 obind (C F_spec_l2Copy [x5]) fun r1 =>
 bif (decide (x6.es.length + [(T.st [x2, (T.st [((rt r1 0).fld 0), ((rt r1 0).fld 1), ((rt r1 0).fld 2), ((rt r1 0).fld 3)])])].length ≤ LIM)) then
 bif (decide ((x6.es ++ [(T.st [x2, (T.st [((rt r1 0).fld 0), ((rt r1 0).fld 1), ((rt r1 0).fld 2), ((rt r1 0).fld 3)])])]).length + [(x1.nth x4.i.toNat)].length ≤ LIM)) then
 l_spec_l9Put_1 H x1 x2 (T.bool true) (T.int (IntKind.wrap .i64 (x4.i + (1 : Int)))) x5 (T.sl ((x6.es ++ [(T.st [x2, (T.st [((rt r1 0).fld 0), ((rt r1 0).fld 1), ((rt r1 0).fld 2), ((rt r1 0).fld 3)])])]) ++ [(x1.nth x4.i.toNat)]))
 else
 none
 else
 none
 else
 bif (decide (x6.es.length + [(x1.nth x4.i.toNat)].length ≤ LIM)) then
 l_spec_l9Put_1 H x1 x2 x3 (T.int (IntKind.wrap .i64 (x4.i + (1 : Int)))) x5 (T.sl (x6.es ++ [(x1.nth x4.i.toNat)]))
 else
 none
 else
 bif (decide (x6.es.length + [(x1.nth x4.i.toNat)].length ≤ LIM)) then
 l_spec_l9Put_1 H x1 x2 x3 (T.int (IntKind.wrap .i64 (x4.i + (1 : Int)))) x5 (T.sl (x6.es ++ [(x1.nth x4.i.toNat)]))
 else
 none
 else
 none
 else
 bif (decide (0 ≤ x4.i) && decide (x4.i.toNat < x1.es.length)) then
 bif (decide (x6.es.length + [(x1.nth x4.i.toNat)].length ≤ LIM)) then
 l_spec_l9Put_1 H x1 x2 x3 (T.int (IntKind.wrap .i64 (x4.i + (1 : Int)))) x5 (T.sl (x6.es ++ [(x1.nth x4.i.toNat)]))
 else
 none
 else
 none
 else
 bif (!x3.b) then
 obind (C F_spec_l2Copy [x5]) fun r1 =>
 bif (decide (x6.es.length + [(T.st [x2, (T.st [((rt r1 0).fld 0), ((rt r1 0).fld 1), ((rt r1 0).fld 2), ((rt r1 0).fld 3)])])].length ≤ LIM)) then
 some [(T.sl (x6.es ++ [(T.st [x2, (T.st [((rt r1 0).fld 0), ((rt r1 0).fld 1), ((rt r1 0).fld 2), ((rt r1 0).fld 3)])])]))]
 else
 none
 else
 some [x6]
theorem e_spec_l9Put_1 (H : List Item → CS → R) (C : CallsE) (x1 : T) (x2 : T) (x3 : T) (x4 : T) (x5 : T) (x6 : T) : headE fi_spec_l9Put env H C (hdAt fi_spec_l9Put.body 0) ([(0, .val 29 x1), (1, .val 3 x2), (5, .pref 37 5 []), (7, .sref 29 7 []), (8, .val 4 x3), (9, .val 3 x4)], [(5, ⟨37, x5, .fz, true⟩), (7, ⟨29, x6, (.sl .fz), false⟩)]) =
 bif (decide (x4.i < (x1.es.length : Int))) then
 bif ((!((!x3.b) == true)) || true) then
 bif ((!((!x3.b) == true)) || true) then
 bif ((!((!x3.b) == true)) || ((((!x3.b) == true) && (((!x3.b) == true) && true)) && (decide (0 ≤ x4.i) && decide (x4.i.toNat < x1.es.length)))) then
 bif ((!((!x3.b) == true)) || ((!x3.b) == true)) then
 bif ((!((!x3.b) == true)) || ((!x3.b) == true)) then
 bif ((!((!x3.b) == true)) || true) then
 bif ((!((!x3.b) == true)) || ((((!x3.b) == true) && ((!x3.b) == true)) && true)) then
 bif ((!((!x3.b) == true)) || ((!x3.b) == true)) then
 bif ((!(((!x3.b) == true) && ((decide (((x1.nth x4.i.toNat).fld 0).i > x2.i)) == false))) || true) then
 bif ((!(((!x3.b) == true) && ((decide (((x1.nth x4.i.toNat).fld 0).i > x2.i)) == false))) || true) then
 bif ((!(((!x3.b) == true) && ((decide (((x1.nth x4.i.toNat).fld 0).i > x2.i)) == false))) || (((((!x3.b) == true) && ((decide (((x1.nth x4.i.toNat).fld 0).i > x2.i)) == false)) && ((((!x3.b) == true) && ((decide (((x1.nth x4.i.toNat).fld 0).i > x2.i)) == false)) && true)) && (decide (0 ≤ x4.i) && decide (x4.i.toNat < x1.es.length)))) then
 bif ((!(((!x3.b) == true) && ((decide (((x1.nth x4.i.toNat).fld 0).i > x2.i)) == false))) || (((!x3.b) == true) && ((decide (((x1.nth x4.i.toNat).fld 0).i > x2.i)) == false))) then
 bif ((!(((!x3.b) == true) && ((decide (((x1.nth x4.i.toNat).fld 0).i > x2.i)) == false))) || (((!x3.b) == true) && ((decide (((x1.nth x4.i.toNat).fld 0).i > x2.i)) == false))) then
 bif ((!(((!x3.b) == true) && ((decide (((x1.nth x4.i.toNat).fld 0).i > x2.i)) == false))) || true) then
 bif ((!(((!x3.b) == true) && ((decide (((x1.nth x4.i.toNat).fld 0).i > x2.i)) == false))) || (((((!x3.b) == true) && ((decide (((x1.nth x4.i.toNat).fld 0).i > x2.i)) == false)) && (((!x3.b) == true) && ((decide (((x1.nth x4.i.toNat).fld 0).i > x2.i)) == false))) && true)) then
 bif ((!(((!x3.b) == true) && ((decide (((x1.nth x4.i.toNat).fld 0).i > x2.i)) == false))) || (((!x3.b) == true) && ((decide (((x1.nth x4.i.toNat).fld 0).i > x2.i)) == false))) then
 bif ((!((((!x3.b) == true) && ((decide (((x1.nth x4.i.toNat).fld 0).i > x2.i)) == false)) && ((((x1.nth x4.i.toNat).fld 0).i == x2.i) == true))) || true) then
 bif ((!((((!x3.b) == true) && ((decide (((x1.nth x4.i.toNat).fld 0).i > x2.i)) == false)) && ((((x1.nth x4.i.toNat).fld 0).i == x2.i) == true))) || true) then
 bif ((!((((!x3.b) == true) && ((decide (((x1.nth x4.i.toNat).fld 0).i > x2.i)) == false)) && ((((x1.nth x4.i.toNat).fld 0).i == x2.i) == true))) || ((((((!x3.b) == true) && ((decide (((x1.nth x4.i.toNat).fld 0).i > x2.i)) == false)) && ((((x1.nth x4.i.toNat).fld 0).i == x2.i) == true)) && (((((!x3.b) == true) && ((decide (((x1.nth x4.i.toNat).fld 0).i > x2.i)) == false)) && ((((x1.nth x4.i.toNat).fld 0).i == x2.i) == true)) && true)) && (decide (0 ≤ x4.i) && decide (x4.i.toNat < x1.es.length)))) then
 bif ((!((((!x3.b) == true) && ((decide (((x1.nth x4.i.toNat).fld 0).i > x2.i)) == false)) && ((((x1.nth x4.i.toNat).fld 0).i == x2.i) == true))) || ((((!x3.b) == true) && ((decide (((x1.nth x4.i.toNat).fld 0).i > x2.i)) == false)) && ((((x1.nth x4.i.toNat).fld 0).i == x2.i) == true))) then
 bif ((!((((!x3.b) == true) && ((decide (((x1.nth x4.i.toNat).fld 0).i > x2.i)) == false)) && ((((x1.nth x4.i.toNat).fld 0).i == x2.i) == true))) || ((((!x3.b) == true) && ((decide (((x1.nth x4.i.toNat).fld 0).i > x2.i)) == false)) && ((((x1.nth x4.i.toNat).fld 0).i == x2.i) == true))) then
 bif ((!((((!x3.b) == true) && ((decide (((x1.nth x4.i.toNat).fld 0).i > x2.i)) == false)) && ((((x1.nth x4.i.toNat).fld 0).i == x2.i) == true))) || ((((!x3.b) == true) && ((decide (((x1.nth x4.i.toNat).fld 0).i > x2.i)) == false)) && ((((x1.nth x4.i.toNat).fld 0).i == x2.i) == true))) then
 bif ((!((((!x3.b) == true) && ((decide (((x1.nth x4.i.toNat).fld 0).i > x2.i)) == false)) && ((((x1.nth x4.i.toNat).fld 0).i == x2.i) == true))) || true) then
 bif ((!((((!x3.b) == true) && ((decide (((x1.nth x4.i.toNat).fld 0).i > x2.i)) == false)) && ((((x1.nth x4.i.toNat).fld 0).i == x2.i) == true))) || ((((!x3.b) == true) && ((decide (((x1.nth x4.i.toNat).fld 0).i > x2.i)) == false)) && ((((x1.nth x4.i.toNat).fld 0).i == x2.i) == true))) then
 bif ((!((((!x3.b) == true) && ((decide (((x1.nth x4.i.toNat).fld 0).i > x2.i)) == false)) && ((((x1.nth x4.i.toNat).fld 0).i == x2.i) == true))) || ((((((!x3.b) == true) && ((decide (((x1.nth x4.i.toNat).fld 0).i > x2.i)) == false)) && ((((x1.nth x4.i.toNat).fld 0).i == x2.i) == true)) && ((((!x3.b) == true) && ((decide (((x1.nth x4.i.toNat).fld 0).i > x2.i)) == false)) && ((((x1.nth x4.i.toNat).fld 0).i == x2.i) == true))) && true)) then
 bif ((!(((!x3.b) == true) && ((decide (((x1.nth x4.i.toNat).fld 0).i > x2.i)) == false))) || ((((!x3.b) == true) && ((decide (((x1.nth x4.i.toNat).fld 0).i > x2.i)) == false)) && (bif (((x1.nth x4.i.toNat).fld 0).i == x2.i) then ((((!x3.b) == true) && ((decide (((x1.nth x4.i.toNat).fld 0).i > x2.i)) == false)) && ((((x1.nth x4.i.toNat).fld 0).i == x2.i) == true)) else true))) then
 bif ((!((!x3.b) == true)) || (((!x3.b) == true) && (bif (decide (((x1.nth x4.i.toNat).fld 0).i > x2.i)) then true else (((!x3.b) == true) && ((decide (((x1.nth x4.i.toNat).fld 0).i > x2.i)) == false))))) then
 bif (bif (!x3.b) then ((!x3.b) == true) else true) then
 bif (bif (!x3.b) then (bif (decide (((x1.nth x4.i.toNat).fld 0).i > x2.i)) then (T.bool true) else (bif (((x1.nth x4.i.toNat).fld 0).i == x2.i) then (T.bool (!(Op.bytesLess ((((x1.nth x4.i.toNat).fld 1).fld 0).s).toList ((x5.fld 0).s).toList || ((((x1.nth x4.i.toNat).fld 1).fld 0).s).toList == ((x5.fld 0).s).toList))) else (T.bool false))) else (T.bool false)).b then
 obind (C F_spec_l2Copy [x5]) fun r1 =>
 bif (decide (x6.es.length + [(T.st [x2, (T.st [((rt r1 0).fld 0), ((rt r1 0).fld 1), ((rt r1 0).fld 2), ((rt r1 0).fld 3)])])].length ≤ LIM)) then
 bif (decide (0 ≤ x4.i) && decide (x4.i.toNat < x1.es.length)) then
 bif (decide ((x6.es ++ [(T.st [x2, (T.st [((rt r1 0).fld 0), ((rt r1 0).fld 1), ((rt r1 0).fld 2), ((rt r1 0).fld 3)])])]).length + [(x1.nth x4.i.toNat)].length ≤ LIM)) then
 l_spec_l9Put_1 H x1 x2 (T.bool true) (T.int (IntKind.wrap .i64 (x4.i + (1 : Int)))) x5 (T.sl ((x6.es ++ [(T.st [x2, (T.st [((rt r1 0).fld 0), ((rt r1 0).fld 1), ((rt r1 0).fld 2), ((rt r1 0).fld 3)])])]) ++ [(x1.nth x4.i.toNat)]))
 else
 none
 else
 none
 else
 none
 else
 bif (decide (0 ≤ x4.i) && decide (x4.i.toNat < x1.es.length)) then
 bif (decide (x6.es.length + [(x1.nth x4.i.toNat)].length ≤ LIM)) then
 l_spec_l9Put_1 H x1 x2 x3 (T.int (IntKind.wrap .i64 (x4.i + (1 : Int)))) x5 (T.sl (x6.es ++ [(x1.nth x4.i.toNat)]))
 else
 none
 else
 none
 else
 none
 else
 none
 else
 none
 else
 none
 else
 none
 else
 none
 else
 none
 else
 none
 else
 none
 else
 none
 else
 none
 else
 none
 else
 none
 else
 none
 else
 none
 else
 none
 else
 none
 else
 none
 else
 none
 else
 none
 else
 none
 else
 none
 else
 none
 else
 none
 else
 none
 else
 none
 else
 none
 else
 none
 else
 bif (!x3.b) then
 obind (C F_spec_l2Copy [x5]) fun r2 =>
 bif (decide (x6.es.length + [(T.st [x2, (T.st [((rt r2 0).fld 0), ((rt r2 0).fld 1), ((rt r2 0).fld 2), ((rt r2 0).fld 3)])])].length ≤ LIM)) then
 some [(T.sl (x6.es ++ [(T.st [x2, (T.st [((rt r2 0).fld 0), ((rt r2 0).fld 1), ((rt r2 0).fld 2), ((rt r2 0).fld 3)])])]))]
 else
 none
 else
 some [x6] := by kernel_rfl
theorem q_spec_l9Put_1 (H : List Item → CS → R) (C : CallsE) (x1 : T) (x2 : T) (x3 : T) (x4 : T) (x5 : T) (x6 : T) : headE fi_spec_l9Put env H C (hdAt fi_spec_l9Put.body 0) ([(0, .val 29 x1), (1, .val 3 x2), (5, .pref 37 5 []), (7, .sref 29 7 []), (8, .val 4 x3), (9, .val 3 x4)], [(5, ⟨37, x5, .fz, true⟩), (7, ⟨29, x6, (.sl .fz), false⟩)]) = b_spec_l9Put_1 H C x1 x2 x3 x4 x5 x6 := by
 refine (e_spec_l9Put_1 H C x1 x2 x3 x4 x5 x6).trans ?_
 unfold b_spec_l9Put_1
 all_goals cases hc : ((decide (x4.i < (x1.es.length : Int)))) with
 | true =>
  try simp only [bs]
  all_goals cases hc : ((!x3.b)) with
  | true =>
   try simp only [bs]
   all_goals cases hc : ((decide (0 ≤ x4.i) && decide (x4.i.toNat < x1.es.length))) with
   | true =>
    try simp only [bs]
    all_goals cases hc : ((decide (((x1.nth x4.i.toNat).fld 0).i > x2.i))) with
    | true =>
     try simp only [bs]
     all_goals cases hc : ((((x1.nth x4.i.toNat).fld 0).i == x2.i)) with
     | true =>
      try simp only [bs]
      all_goals refine obind_congr fun r1 => ?_
      all_goals try simp only [bs]
      all_goals cases hc : ((decide (x6.es.length + [(T.st [x2, (T.st [((rt r1 0).fld 0), ((rt r1 0).fld 1), ((rt r1 0).fld 2), ((rt r1 0).fld 3)])])].length ≤ LIM))) with
      | true =>
       try simp only [bs]
       all_goals cases hc : ((decide ((x6.es ++ [(T.st [x2, (T.st [((rt r1 0).fld 0), ((rt r1 0).fld 1), ((rt r1 0).fld 2), ((rt r1 0).fld 3)])])]).length + [(x1.nth x4.i.toNat)].length ≤ LIM))) with
       | true =>
        try simp only [bs]
        all_goals kernel_rfl
       | false =>
        try simp only [bs]
        all_goals kernel_rfl
      | false =>
       try simp only [bs]
       all_goals kernel_rfl
     | false =>
      try simp only [bs]
      all_goals refine obind_congr fun r1 => ?_
      all_goals try simp only [bs]
      all_goals cases hc : ((decide (x6.es.length + [(T.st [x2, (T.st [((rt r1 0).fld 0), ((rt r1 0).fld 1), ((rt r1 0).fld 2), ((rt r1 0).fld 3)])])].length ≤ LIM))) with
      | true =>
       try simp only [bs]
       all_goals cases hc : ((decide ((x6.es ++ [(T.st [x2, (T.st [((rt r1 0).fld 0), ((rt r1 0).fld 1), ((rt r1 0).fld 2), ((rt r1 0).fld 3)])])]).length + [(x1.nth x4.i.toNat)].length ≤ LIM))) with
       | true =>
        try simp only [bs]
        all_goals kernel_rfl
       | false =>
        try simp only [bs]
        all_goals kernel_rfl
      | false =>
       try simp only [bs]
       all_goals kernel_rfl
    | false =>
     try simp only [bs]
     all_goals cases hc : ((((x1.nth x4.i.toNat).fld 0).i == x2.i)) with
     | true =>
      try simp only [bs]
      all_goals cases hc : ((!(Op.bytesLess ((((x1.nth x4.i.toNat).fld 1).fld 0).s).toList ((x5.fld 0).s).toList || ((((x1.nth x4.i.toNat).fld 1).fld 0).s).toList == ((x5.fld 0).s).toList))) with
      | true =>
       try simp only [bs]
       all_goals refine obind_congr fun r1 => ?_
       all_goals try simp only [bs]
       all_goals cases hc : ((decide (x6.es.length + [(T.st [x2, (T.st [((rt r1 0).fld 0), ((rt r1 0).fld 1), ((rt r1 0).fld 2), ((rt r1 0).fld 3)])])].length ≤ LIM))) with
       | true =>
        try simp only [bs]
        all_goals cases hc : ((decide ((x6.es ++ [(T.st [x2, (T.st [((rt r1 0).fld 0), ((rt r1 0).fld 1), ((rt r1 0).fld 2), ((rt r1 0).fld 3)])])]).length + [(x1.nth x4.i.toNat)].length ≤ LIM))) with
        | true =>
         try simp only [bs]
         all_goals kernel_rfl
        | false =>
         try simp only [bs]
         all_goals kernel_rfl
       | false =>
        try simp only [bs]
        all_goals kernel_rfl
      | false =>
       try simp only [bs]
       all_goals cases hc : ((decide (x6.es.length + [(x1.nth x4.i.toNat)].length ≤ LIM))) with
       | true =>
        try simp only [bs]
        all_goals kernel_rfl
       | false =>
        try simp only [bs]
        all_goals kernel_rfl
     | false =>
      try simp only [bs]
      all_goals cases hc : ((decide (x6.es.length + [(x1.nth x4.i.toNat)].length ≤ LIM))) with
      | true =>
       try simp only [bs]
       all_goals kernel_rfl
      | false =>
       try simp only [bs]
       all_goals kernel_rfl
   | false =>
    try simp only [bs]
    all_goals kernel_rfl
  | false =>
   try simp only [bs]
   all_goals cases hc : ((decide (((x1.nth x4.i.toNat).fld 0).i > x2.i))) with
   | true =>
    try simp only [bs]
    all_goals cases hc : ((((x1.nth x4.i.toNat).fld 0).i == x2.i)) with
    | true =>
     try simp only [bs]
     all_goals cases hc : ((decide (0 ≤ x4.i) && decide (x4.i.toNat < x1.es.length))) with
     | true =>
      try simp only [bs]
      all_goals cases hc : ((decide (x6.es.length + [(x1.nth x4.i.toNat)].length ≤ LIM))) with
      | true =>
       try simp only [bs]
       all_goals kernel_rfl
      | false =>
       try simp only [bs]
       all_goals kernel_rfl
     | false =>
      try simp only [bs]
      all_goals kernel_rfl
    | false =>
     try simp only [bs]
     all_goals cases hc : ((decide (0 ≤ x4.i) && decide (x4.i.toNat < x1.es.length))) with
     | true =>
      try simp only [bs]
      all_goals cases hc : ((decide (x6.es.length + [(x1.nth x4.i.toNat)].length ≤ LIM))) with
      | true =>
       try simp only [bs]
       all_goals kernel_rfl
      | false =>
       try simp only [bs]
       all_goals kernel_rfl
     | false =>
      try simp only [bs]
      all_goals kernel_rfl
   | false =>
    try simp only [bs]
    all_goals cases hc : ((((x1.nth x4.i.toNat).fld 0).i == x2.i)) with
    | true =>
     try simp only [bs]
     all_goals cases hc : ((decide (0 ≤ x4.i) && decide (x4.i.toNat < x1.es.length))) with
     | true =>
      try simp only [bs]
      all_goals cases hc : ((decide (x6.es.length + [(x1.nth x4.i.toNat)].length ≤ LIM))) with
      | true =>
       try simp only [bs]
       all_goals kernel_rfl
      | false =>
       try simp only [bs]
       all_goals kernel_rfl
     | false =>
      try simp only [bs]
      all_goals kernel_rfl
    | false =>
     try simp only [bs]
     all_goals cases hc : ((decide (0 ≤ x4.i) && decide (x4.i.toNat < x1.es.length))) with
     | true =>
      try simp only [bs]
      all_goals cases hc : ((decide (x6.es.length + [(x1.nth x4.i.toNat)].length ≤ LIM))) with
      | true =>
       try simp only [bs]
       all_goals kernel_rfl
      | false =>
       try simp only [bs]
       all_goals kernel_rfl
     | false =>
      try simp only [bs]
      all_goals kernel_rfl
 | false =>
  try simp only [bs]
  all_goals cases hc : ((!x3.b)) with
  | true =>
   try simp only [bs]
   all_goals refine obind_congr fun r1 => ?_
   all_goals try simp only [bs]
   all_goals cases hc : ((decide (x6.es.length + [(T.st [x2, (T.st [((rt r1 0).fld 0), ((rt r1 0).fld 1), ((rt r1 0).fld 2), ((rt r1 0).fld 3)])])].length ≤ LIM))) with
   | true =>
    try simp only [bs]
    all_goals kernel_rfl
   | false =>
    try simp only [bs]
    all_goals kernel_rfl
  | false =>
   try simp only [bs]
   all_goals kernel_rfl
theorem y_spec_l9Put_1 (x1 : T) (x2 : T) (x3 : T) (x4 : T) (x5 : T) (x6 : T) {r : List T} (h : Yields (fun k => b_spec_l9Put_1 (hl env k fi_spec_l9Put) (cl env k) x1 x2 x3 x4 x5 x6) r) : Yields (fun k => l_spec_l9Put_1 (hl env k fi_spec_l9Put) x1 x2 x3 x4 x5 x6) r := Yields.head (fun H C => q_spec_l9Put_1 H C x1 x2 x3 x4 x5 x6) h
noncomputable def l_impl_withKept_0 (H : List Item → CS → R) (x1 : T) (x2 : T) (x3 : T) : R := H (hdAt fi_impl_withKept.body 0) ([(0, .val 29 x1), (3, .pref 66 3 []), (5, .val 3 x2)], [(3, ⟨66, x3, .fz, true⟩)])
/- loop.example/heirlooms/impl.withKept -/
noncomputable abbrev b_impl_withKept (H : List Item → CS → R) (C : CallsE) (a0 a1 : T) : R :=
 l_impl_withKept_0 H a0 (T.int (0 : Int)) a1
theorem q_impl_withKept (H : List Item → CS → R) (C : CallsE) (a0 a1 : T) : enterE fi_impl_withKept env H C [a0, a1] = b_impl_withKept H C a0 a1 := by kernel_rfl
theorem y_impl_withKept (a0 a1 : T) {r : List T} (h : Yields (fun k => b_impl_withKept (hl env k fi_impl_withKept) (cl env k) a0 a1) r) : Yields (fun k => cl env k F_impl_withKept [a0, a1]) r := Yields.call (fi := fi_impl_withKept) rfl (fun H C => q_impl_withKept H C a0 a1) h
noncomputable abbrev b_impl_withKept_0 (H : List Item → CS → R) (C : CallsE) (x1 : T) (x2 : T) (x3 : T) : R :=
 bif (decide (x2.i < (x1.es.length : Int))) then
 bif (decide (0 ≤ x2.i) && decide (x2.i.toNat < x1.es.length)) then
 obind (C F_impl_vaultBefore [(x1.nth x2.i.toNat), x3]) fun r1 =>
 bif (rt r1 0).b then
 l_impl_withKept_0 H x1 (T.int (IntKind.wrap .i64 (x2.i + (1 : Int)))) x3
 else
 bif (decide (0 ≤ (0 : Int)) && (decide ((0 : Int) ≤ x2.i) && (decide (x2.i ≤ (x1.es.length : Int)) && decide ((x1.es.length : Int) ≤ (x1.es.length : Int))))) then
 bif (decide (([] : List T).length + ((x1.es.take x2.i.toNat).drop 0).length ≤ LIM)) then
 bif (decide ((([] : List T) ++ ((x1.es.take x2.i.toNat).drop 0)).length + [x3].length ≤ LIM)) then
 bif (decide (0 ≤ x2.i) && (decide (x2.i ≤ (x1.es.length : Int)) && (decide ((x1.es.length : Int) ≤ (x1.es.length : Int)) && decide ((x1.es.length : Int) ≤ (x1.es.length : Int))))) then
 bif (decide (((([] : List T) ++ ((x1.es.take x2.i.toNat).drop 0)) ++ [x3]).length + ((x1.es.take x1.es.length).drop x2.i.toNat).length ≤ LIM)) then
 obind (C F_impl_copyKept [(T.sl (((([] : List T) ++ ((x1.es.take x2.i.toNat).drop 0)) ++ [x3]) ++ ((x1.es.take x1.es.length).drop x2.i.toNat)))]) fun r2 =>
 some [(rt r2 0)]
 else
 none
 else
 none
 else
 none
 else
 none
 else
 none
 else
 none
 else
 bif (decide (0 ≤ (0 : Int)) && (decide ((0 : Int) ≤ x2.i) && (decide (x2.i ≤ (x1.es.length : Int)) && decide ((x1.es.length : Int) ≤ (x1.es.length : Int))))) then
 bif (decide (([] : List T).length + ((x1.es.take x2.i.toNat).drop 0).length ≤ LIM)) then
 bif (decide ((([] : List T) ++ ((x1.es.take x2.i.toNat).drop 0)).length + [x3].length ≤ LIM)) then
 bif (decide (0 ≤ x2.i) && (decide (x2.i ≤ (x1.es.length : Int)) && (decide ((x1.es.length : Int) ≤ (x1.es.length : Int)) && decide ((x1.es.length : Int) ≤ (x1.es.length : Int))))) then
 bif (decide (((([] : List T) ++ ((x1.es.take x2.i.toNat).drop 0)) ++ [x3]).length + ((x1.es.take x1.es.length).drop x2.i.toNat).length ≤ LIM)) then
 obind (C F_impl_copyKept [(T.sl (((([] : List T) ++ ((x1.es.take x2.i.toNat).drop 0)) ++ [x3]) ++ ((x1.es.take x1.es.length).drop x2.i.toNat)))]) fun r1 =>
 some [(rt r1 0)]
 else
 none
 else
 none
 else
 none
 else
 none
 else
 none
theorem e_impl_withKept_0 (H : List Item → CS → R) (C : CallsE) (x1 : T) (x2 : T) (x3 : T) : headE fi_impl_withKept env H C (hdAt fi_impl_withKept.body 0) ([(0, .val 29 x1), (3, .pref 66 3 []), (5, .val 3 x2)], [(3, ⟨66, x3, .fz, true⟩)]) =
 bif ((!((decide (x2.i < (x1.es.length : Int))) == true)) || true) then
 bif ((!((decide (x2.i < (x1.es.length : Int))) == true)) || true) then
 bif ((!((decide (x2.i < (x1.es.length : Int))) == true)) || ((((decide (x2.i < (x1.es.length : Int))) == true) && (((decide (x2.i < (x1.es.length : Int))) == true) && true)) && (decide (0 ≤ x2.i) && decide (x2.i.toNat < x1.es.length)))) then
 bif ((!((decide (x2.i < (x1.es.length : Int))) == true)) || ((decide (x2.i < (x1.es.length : Int))) == true)) then
 bif ((!((decide (x2.i < (x1.es.length : Int))) == true)) || true) then
 bif ((!((decide (x2.i < (x1.es.length : Int))) == true)) || (((decide (x2.i < (x1.es.length : Int))) == true) && (((decide (x2.i < (x1.es.length : Int))) == true) && true))) then
 obind ((bif ((decide (x2.i < (x1.es.length : Int))) == true) then C F_impl_vaultBefore [(x1.nth x2.i.toNat), x3] else some [])) fun r1 =>
 bif (bif (decide (x2.i < (x1.es.length : Int))) then ((decide (x2.i < (x1.es.length : Int))) == true) else true) then
 bif (bif (decide (x2.i < (x1.es.length : Int))) then (rt r1 0) else (T.bool false)).b then
 l_impl_withKept_0 H x1 (T.int (IntKind.wrap .i64 (x2.i + (1 : Int)))) x3
 else
 bif (decide (0 ≤ (0 : Int)) && (decide ((0 : Int) ≤ x2.i) && (decide (x2.i ≤ (x1.es.length : Int)) && decide ((x1.es.length : Int) ≤ (x1.es.length : Int))))) then
 bif (decide (([] : List T).length + ((x1.es.take x2.i.toNat).drop 0).length ≤ LIM)) then
 bif (decide ((([] : List T) ++ ((x1.es.take x2.i.toNat).drop 0)).length + [x3].length ≤ LIM)) then
 bif (decide (0 ≤ x2.i) && (decide (x2.i ≤ (x1.es.length : Int)) && (decide ((x1.es.length : Int) ≤ (x1.es.length : Int)) && decide ((x1.es.length : Int) ≤ (x1.es.length : Int))))) then
 bif (decide (((([] : List T) ++ ((x1.es.take x2.i.toNat).drop 0)) ++ [x3]).length + ((x1.es.take x1.es.length).drop x2.i.toNat).length ≤ LIM)) then
 obind (C F_impl_copyKept [(T.sl (((([] : List T) ++ ((x1.es.take x2.i.toNat).drop 0)) ++ [x3]) ++ ((x1.es.take x1.es.length).drop x2.i.toNat)))]) fun r2 =>
 some [(rt r2 0)]
 else
 none
 else
 none
 else
 none
 else
 none
 else
 none
 else
 none
 else
 none
 else
 none
 else
 none
 else
 none
 else
 none
 else
 none := by kernel_rfl
theorem q_impl_withKept_0 (H : List Item → CS → R) (C : CallsE) (x1 : T) (x2 : T) (x3 : T) : headE fi_impl_withKept env H C (hdAt fi_impl_withKept.body 0) ([(0, .val 29 x1), (3, .pref 66 3 []), (5, .val 3 x2)], [(3, ⟨66, x3, .fz, true⟩)]) = b_impl_withKept_0 H C x1 x2 x3 := by
 refine (e_impl_withKept_0 H C x1 x2 x3).trans ?_
 unfold b_impl_withKept_0
 all_goals cases hc : ((decide (x2.i < (x1.es.length : Int)))) with
 | true =>
  try simp only [bs]
  all_goals cases hc : ((decide (0 ≤ x2.i) && decide (x2.i.toNat < x1.es.length))) with
  | true =>
   try simp only [bs]
   all_goals refine obind_congr fun r1 => ?_
   all_goals try simp only [bs]
   all_goals cases hc : ((rt r1 0).b) with
   | true =>
    try simp only [bs]
    all_goals kernel_rfl
   | false =>
    try simp only [bs]
    all_goals cases hc : ((decide (0 ≤ (0 : Int)) && (decide ((0 : Int) ≤ x2.i) && (decide (x2.i ≤ (x1.es.length : Int)) && decide ((x1.es.length : Int) ≤ (x1.es.length : Int)))))) with
    | true =>
     try simp only [bs]
     all_goals cases hc : ((decide (([] : List T).length + ((x1.es.take x2.i.toNat).drop 0).length ≤ LIM))) with
     | true =>
      try simp only [bs]
      all_goals cases hc : ((decide ((([] : List T) ++ ((x1.es.take x2.i.toNat).drop 0)).length + [x3].length ≤ LIM))) with
      | true =>
       try simp only [bs]
       all_goals cases hc : ((decide (0 ≤ x2.i) && (decide (x2.i ≤ (x1.es.length : Int)) && (decide ((x1.es.length : Int) ≤ (x1.es.length : Int)) && decide ((x1.es.length : Int) ≤ (x1.es.length : Int)))))) with
       | true =>
        try simp only [bs]
        all_goals cases hc : ((decide (((([] : List T) ++ ((x1.es.take x2.i.toNat).drop 0)) ++ [x3]).length + ((x1.es.take x1.es.length).drop x2.i.toNat).length ≤ LIM))) with
        | true =>
         try simp only [bs]
         all_goals refine obind_congr fun r2 => ?_
         all_goals try simp only [bs]
         all_goals kernel_rfl
        | false =>
         try simp only [bs]
         all_goals kernel_rfl
       | false =>
        try simp only [bs]
        all_goals kernel_rfl
      | false =>
       try simp only [bs]
       all_goals kernel_rfl
     | false =>
      try simp only [bs]
      all_goals kernel_rfl
    | false =>
     try simp only [bs]
     all_goals kernel_rfl
  | false =>
   try simp only [bs]
   all_goals kernel_rfl
 | false =>
  try simp only [bs]
  all_goals cases hc : ((decide (0 ≤ (0 : Int)) && (decide ((0 : Int) ≤ x2.i) && (decide (x2.i ≤ (x1.es.length : Int)) && decide ((x1.es.length : Int) ≤ (x1.es.length : Int)))))) with
  | true =>
   try simp only [bs]
   all_goals cases hc : ((decide (([] : List T).length + ((x1.es.take x2.i.toNat).drop 0).length ≤ LIM))) with
   | true =>
    try simp only [bs]
    all_goals cases hc : ((decide ((([] : List T) ++ ((x1.es.take x2.i.toNat).drop 0)).length + [x3].length ≤ LIM))) with
    | true =>
     try simp only [bs]
     all_goals cases hc : ((decide (0 ≤ x2.i) && (decide (x2.i ≤ (x1.es.length : Int)) && (decide ((x1.es.length : Int) ≤ (x1.es.length : Int)) && decide ((x1.es.length : Int) ≤ (x1.es.length : Int)))))) with
     | true =>
      try simp only [bs]
      all_goals cases hc : ((decide (((([] : List T) ++ ((x1.es.take x2.i.toNat).drop 0)) ++ [x3]).length + ((x1.es.take x1.es.length).drop x2.i.toNat).length ≤ LIM))) with
      | true =>
       try simp only [bs]
       all_goals refine obind_congr fun r1 => ?_
       all_goals try simp only [bs]
       all_goals kernel_rfl
      | false =>
       try simp only [bs]
       all_goals kernel_rfl
     | false =>
      try simp only [bs]
      all_goals kernel_rfl
    | false =>
     try simp only [bs]
     all_goals kernel_rfl
   | false =>
    try simp only [bs]
    all_goals kernel_rfl
  | false =>
   try simp only [bs]
   all_goals kernel_rfl
theorem y_impl_withKept_0 (x1 : T) (x2 : T) (x3 : T) {r : List T} (h : Yields (fun k => b_impl_withKept_0 (hl env k fi_impl_withKept) (cl env k) x1 x2 x3) r) : Yields (fun k => l_impl_withKept_0 (hl env k fi_impl_withKept) x1 x2 x3) r := Yields.head (fun H C => q_impl_withKept_0 H C x1 x2 x3) h
/- loop.example/heirlooms/laws.szRecord -/
noncomputable abbrev b_laws_szRecord (H : List Item → CS → R) (C : CallsE) (a0 a1 : T) : R :=
 obind (C F_laws_szStringS [(a0.fld 1), a1]) fun r1 =>
 bif (decide ((rt r1 0).i < (0 : Int))) then
 some [(T.int (-1 : Int))]
 else
 some [(rt r1 0)]
theorem q_laws_szRecord (H : List Item → CS → R) (C : CallsE) (a0 a1 : T) : enterE fi_laws_szRecord env H C [a0, a1] = b_laws_szRecord H C a0 a1 := by kernel_rfl
theorem y_laws_szRecord (a0 a1 : T) {r : List T} (h : Yields (fun k => b_laws_szRecord (hl env k fi_laws_szRecord) (cl env k) a0 a1) r) : Yields (fun k => cl env k F_laws_szRecord [a0, a1]) r := Yields.call (fi := fi_laws_szRecord) rfl (fun H C => q_laws_szRecord H C a0 a1) h
/- loop.example/heirlooms/spec.KindsOk -/
noncomputable abbrev b_spec_KindsOk (H : List Item → CS → R) (C : CallsE) (a0 : T) : R :=
 obind (C F_spec_KindsBad [a0]) fun r1 =>
 some [(T.bool (decide ((rt r1 0).i < (0 : Int))))]
theorem q_spec_KindsOk (H : List Item → CS → R) (C : CallsE) (a0 : T) : enterE fi_spec_KindsOk env H C [a0] = b_spec_KindsOk H C a0 := by kernel_rfl
theorem y_spec_KindsOk (a0 : T) {r : List T} (h : Yields (fun k => b_spec_KindsOk (hl env k fi_spec_KindsOk) (cl env k) a0) r) : Yields (fun k => cl env k F_spec_KindsOk [a0]) r := Yields.call (fi := fi_spec_KindsOk) rfl (fun H C => q_spec_KindsOk H C a0) h
noncomputable def l_spec_l9Ok_0 (H : List Item → CS → R) (x1 : T) (x2 : T) (x3 : T) : R := H (hdAt fi_spec_l9Ok.body 0) ([(0, .val 27 x1), (1, .val 29 x2), (5, .val 3 x3)], [])
/- loop.example/heirlooms/spec.l9Ok -/
noncomputable abbrev b_spec_l9Ok (H : List Item → CS → R) (C : CallsE) (a0 a1 : T) : R :=
 l_spec_l9Ok_0 H a0 a1 (T.int (0 : Int))
theorem q_spec_l9Ok (H : List Item → CS → R) (C : CallsE) (a0 a1 : T) : enterE fi_spec_l9Ok env H C [a0, a1] = b_spec_l9Ok H C a0 a1 := by kernel_rfl
theorem y_spec_l9Ok (a0 a1 : T) {r : List T} (h : Yields (fun k => b_spec_l9Ok (hl env k fi_spec_l9Ok) (cl env k) a0 a1) r) : Yields (fun k => cl env k F_spec_l9Ok [a0, a1]) r := Yields.call (fi := fi_spec_l9Ok) rfl (fun H C => q_spec_l9Ok H C a0 a1) h
noncomputable abbrev b_spec_l9Ok_0 (H : List Item → CS → R) (C : CallsE) (x1 : T) (x2 : T) (x3 : T) : R :=
 bif (decide (x3.i < (x2.es.length : Int))) then
 bif (decide (0 ≤ x3.i) && decide (x3.i.toNat < x2.es.length)) then
 obind (C F_spec_l6In [((x2.nth x3.i.toNat).fld 0), (T.int (0 : Int)), (T.int (3 : Int))]) fun r1 =>
 bif (!(rt r1 0).b) then
 some [(T.bool false)]
 else
 obind (C F_spec_l9Kind [x1, ((x2.nth x3.i.toNat).fld 1)]) fun r2 =>
 bif (!(rt r2 0).b) then
 some [(T.bool false)]
 else
 bif (decide (x3.i > (0 : Int))) then
 bif (decide (0 ≤ (IntKind.wrap .i64 (x3.i - (1 : Int)))) && decide ((IntKind.wrap .i64 (x3.i - (1 : Int))).toNat < x2.es.length)) then
 bif (decide (((x2.nth ((IntKind.wrap .i64 (x3.i - (1 : Int))).toNat)).fld 0).i > ((x2.nth x3.i.toNat).fld 0).i)) then
 some [(T.bool false)]
 else
 bif (((x2.nth ((IntKind.wrap .i64 (x3.i - (1 : Int))).toNat)).fld 0).i == ((x2.nth x3.i.toNat).fld 0).i) then
 bif (!(Op.bytesLess ((((x2.nth ((IntKind.wrap .i64 (x3.i - (1 : Int))).toNat)).fld 1).fld 0).s).toList ((((x2.nth x3.i.toNat).fld 1).fld 0).s).toList)) then
 some [(T.bool false)]
 else
 l_spec_l9Ok_0 H x1 x2 (T.int (IntKind.wrap .i64 (x3.i + (1 : Int))))
 else
 l_spec_l9Ok_0 H x1 x2 (T.int (IntKind.wrap .i64 (x3.i + (1 : Int))))
 else
 none
 else
 l_spec_l9Ok_0 H x1 x2 (T.int (IntKind.wrap .i64 (x3.i + (1 : Int))))
 else
 none
 else
 some [(T.bool (decide ((x2.es.length : Int) ≤ (36 : Int))))]
theorem e_spec_l9Ok_0 (H : List Item → CS → R) (C : CallsE) (x1 : T) (x2 : T) (x3 : T) : headE fi_spec_l9Ok env H C (hdAt fi_spec_l9Ok.body 0) ([(0, .val 27 x1), (1, .val 29 x2), (5, .val 3 x3)], []) =
 bif (decide (x3.i < (x2.es.length : Int))) then
 bif (decide (0 ≤ x3.i) && decide (x3.i.toNat < x2.es.length)) then
 obind (C F_spec_l6In [((x2.nth x3.i.toNat).fld 0), (T.int (0 : Int)), (T.int (3 : Int))]) fun r1 =>
 bif ((!((!(rt r1 0).b) == false)) || true) then
 bif ((!((!(rt r1 0).b) == false)) || true) then
 bif ((!((!(rt r1 0).b) == false)) || true) then
 bif ((!((!(rt r1 0).b) == false)) || ((((!(rt r1 0).b) == false) && (((!(rt r1 0).b) == false) && true)) && (decide (0 ≤ x3.i) && decide (x3.i.toNat < x2.es.length)))) then
 bif ((!((!(rt r1 0).b) == false)) || ((!(rt r1 0).b) == false)) then
 bif ((!((!(rt r1 0).b) == false)) || ((!(rt r1 0).b) == false)) then
 bif ((!((!(rt r1 0).b) == false)) || (((!(rt r1 0).b) == false) && (((!(rt r1 0).b) == false) && true))) then
 obind ((bif ((!(rt r1 0).b) == false) then C F_spec_l9Kind [x1, ((x2.nth x3.i.toNat).fld 1)] else some [])) fun r2 =>
 bif ((!((!(rt r1 0).b) == false)) || ((!(rt r1 0).b) == false)) then
 bif (bif (!(rt r1 0).b) then true else ((!(rt r1 0).b) == false)) then
 bif (bif (!(rt r1 0).b) then (T.bool true) else (T.bool (!(rt r2 0).b))).b then
 some [(T.bool false)]
 else
 bif ((!((decide (x3.i > (0 : Int))) == true)) || true) then
 bif ((!((decide (x3.i > (0 : Int))) == true)) || true) then
 bif ((!((decide (x3.i > (0 : Int))) == true)) || ((((decide (x3.i > (0 : Int))) == true) && true) && true)) then
 bif ((!((decide (x3.i > (0 : Int))) == true)) || ((((decide (x3.i > (0 : Int))) == true) && (((decide (x3.i > (0 : Int))) == true) && true)) && (decide (0 ≤ (IntKind.wrap .i64 (x3.i - (1 : Int)))) && decide ((IntKind.wrap .i64 (x3.i - (1 : Int))).toNat < x2.es.length)))) then
 bif ((!((decide (x3.i > (0 : Int))) == true)) || ((decide (x3.i > (0 : Int))) == true)) then
 bif ((!((decide (x3.i > (0 : Int))) == true)) || ((decide (x3.i > (0 : Int))) == true)) then
 bif ((!((decide (x3.i > (0 : Int))) == true)) || true) then
 bif ((!((decide (x3.i > (0 : Int))) == true)) || true) then
 bif ((!((decide (x3.i > (0 : Int))) == true)) || ((((decide (x3.i > (0 : Int))) == true) && (((decide (x3.i > (0 : Int))) == true) && true)) && (decide (0 ≤ x3.i) && decide (x3.i.toNat < x2.es.length)))) then
 bif ((!((decide (x3.i > (0 : Int))) == true)) || ((decide (x3.i > (0 : Int))) == true)) then
 bif ((!((decide (x3.i > (0 : Int))) == true)) || ((decide (x3.i > (0 : Int))) == true)) then
 bif ((!((decide (x3.i > (0 : Int))) == true)) || ((((decide (x3.i > (0 : Int))) == true) && ((decide (x3.i > (0 : Int))) == true)) && true)) then
 bif ((!((decide (x3.i > (0 : Int))) == true)) || ((decide (x3.i > (0 : Int))) == true)) then
 bif ((!(((decide (x3.i > (0 : Int))) == true) && ((decide (((x2.nth ((IntKind.wrap .i64 (x3.i - (1 : Int))).toNat)).fld 0).i > ((x2.nth x3.i.toNat).fld 0).i)) == false))) || true) then
 bif ((!(((decide (x3.i > (0 : Int))) == true) && ((decide (((x2.nth ((IntKind.wrap .i64 (x3.i - (1 : Int))).toNat)).fld 0).i > ((x2.nth x3.i.toNat).fld 0).i)) == false))) || true) then
 bif ((!(((decide (x3.i > (0 : Int))) == true) && ((decide (((x2.nth ((IntKind.wrap .i64 (x3.i - (1 : Int))).toNat)).fld 0).i > ((x2.nth x3.i.toNat).fld 0).i)) == false))) || (((((decide (x3.i > (0 : Int))) == true) && ((decide (((x2.nth ((IntKind.wrap .i64 (x3.i - (1 : Int))).toNat)).fld 0).i > ((x2.nth x3.i.toNat).fld 0).i)) == false)) && true) && true)) then
 bif ((!(((decide (x3.i > (0 : Int))) == true) && ((decide (((x2.nth ((IntKind.wrap .i64 (x3.i - (1 : Int))).toNat)).fld 0).i > ((x2.nth x3.i.toNat).fld 0).i)) == false))) || (((((decide (x3.i > (0 : Int))) == true) && ((decide (((x2.nth ((IntKind.wrap .i64 (x3.i - (1 : Int))).toNat)).fld 0).i > ((x2.nth x3.i.toNat).fld 0).i)) == false)) && ((((decide (x3.i > (0 : Int))) == true) && ((decide (((x2.nth ((IntKind.wrap .i64 (x3.i - (1 : Int))).toNat)).fld 0).i > ((x2.nth x3.i.toNat).fld 0).i)) == false)) && true)) && (decide (0 ≤ (IntKind.wrap .i64 (x3.i - (1 : Int)))) && decide ((IntKind.wrap .i64 (x3.i - (1 : Int))).toNat < x2.es.length)))) then
 bif ((!(((decide (x3.i > (0 : Int))) == true) && ((decide (((x2.nth ((IntKind.wrap .i64 (x3.i - (1 : Int))).toNat)).fld 0).i > ((x2.nth x3.i.toNat).fld 0).i)) == false))) || (((decide (x3.i > (0 : Int))) == true) && ((decide (((x2.nth ((IntKind.wrap .i64 (x3.i - (1 : Int))).toNat)).fld 0).i > ((x2.nth x3.i.toNat).fld 0).i)) == false))) then
 bif ((!(((decide (x3.i > (0 : Int))) == true) && ((decide (((x2.nth ((IntKind.wrap .i64 (x3.i - (1 : Int))).toNat)).fld 0).i > ((x2.nth x3.i.toNat).fld 0).i)) == false))) || (((decide (x3.i > (0 : Int))) == true) && ((decide (((x2.nth ((IntKind.wrap .i64 (x3.i - (1 : Int))).toNat)).fld 0).i > ((x2.nth x3.i.toNat).fld 0).i)) == false))) then
 bif ((!(((decide (x3.i > (0 : Int))) == true) && ((decide (((x2.nth ((IntKind.wrap .i64 (x3.i - (1 : Int))).toNat)).fld 0).i > ((x2.nth x3.i.toNat).fld 0).i)) == false))) || true) then
 bif ((!(((decide (x3.i > (0 : Int))) == true) && ((decide (((x2.nth ((IntKind.wrap .i64 (x3.i - (1 : Int))).toNat)).fld 0).i > ((x2.nth x3.i.toNat).fld 0).i)) == false))) || true) then
 bif ((!(((decide (x3.i > (0 : Int))) == true) && ((decide (((x2.nth ((IntKind.wrap .i64 (x3.i - (1 : Int))).toNat)).fld 0).i > ((x2.nth x3.i.toNat).fld 0).i)) == false))) || (((((decide (x3.i > (0 : Int))) == true) && ((decide (((x2.nth ((IntKind.wrap .i64 (x3.i - (1 : Int))).toNat)).fld 0).i > ((x2.nth x3.i.toNat).fld 0).i)) == false)) && ((((decide (x3.i > (0 : Int))) == true) && ((decide (((x2.nth ((IntKind.wrap .i64 (x3.i - (1 : Int))).toNat)).fld 0).i > ((x2.nth x3.i.toNat).fld 0).i)) == false)) && true)) && (decide (0 ≤ x3.i) && decide (x3.i.toNat < x2.es.length)))) then
 bif ((!(((decide (x3.i > (0 : Int))) == true) && ((decide (((x2.nth ((IntKind.wrap .i64 (x3.i - (1 : Int))).toNat)).fld 0).i > ((x2.nth x3.i.toNat).fld 0).i)) == false))) || (((decide (x3.i > (0 : Int))) == true) && ((decide (((x2.nth ((IntKind.wrap .i64 (x3.i - (1 : Int))).toNat)).fld 0).i > ((x2.nth x3.i.toNat).fld 0).i)) == false))) then
 bif ((!(((decide (x3.i > (0 : Int))) == true) && ((decide (((x2.nth ((IntKind.wrap .i64 (x3.i - (1 : Int))).toNat)).fld 0).i > ((x2.nth x3.i.toNat).fld 0).i)) == false))) || (((decide (x3.i > (0 : Int))) == true) && ((decide (((x2.nth ((IntKind.wrap .i64 (x3.i - (1 : Int))).toNat)).fld 0).i > ((x2.nth x3.i.toNat).fld 0).i)) == false))) then
 bif ((!(((decide (x3.i > (0 : Int))) == true) && ((decide (((x2.nth ((IntKind.wrap .i64 (x3.i - (1 : Int))).toNat)).fld 0).i > ((x2.nth x3.i.toNat).fld 0).i)) == false))) || (((((decide (x3.i > (0 : Int))) == true) && ((decide (((x2.nth ((IntKind.wrap .i64 (x3.i - (1 : Int))).toNat)).fld 0).i > ((x2.nth x3.i.toNat).fld 0).i)) == false)) && (((decide (x3.i > (0 : Int))) == true) && ((decide (((x2.nth ((IntKind.wrap .i64 (x3.i - (1 : Int))).toNat)).fld 0).i > ((x2.nth x3.i.toNat).fld 0).i)) == false))) && true)) then
 bif ((!(((decide (x3.i > (0 : Int))) == true) && ((decide (((x2.nth ((IntKind.wrap .i64 (x3.i - (1 : Int))).toNat)).fld 0).i > ((x2.nth x3.i.toNat).fld 0).i)) == false))) || (((decide (x3.i > (0 : Int))) == true) && ((decide (((x2.nth ((IntKind.wrap .i64 (x3.i - (1 : Int))).toNat)).fld 0).i > ((x2.nth x3.i.toNat).fld 0).i)) == false))) then
 bif ((!((((decide (x3.i > (0 : Int))) == true) && ((decide (((x2.nth ((IntKind.wrap .i64 (x3.i - (1 : Int))).toNat)).fld 0).i > ((x2.nth x3.i.toNat).fld 0).i)) == false)) && ((((x2.nth ((IntKind.wrap .i64 (x3.i - (1 : Int))).toNat)).fld 0).i == ((x2.nth x3.i.toNat).fld 0).i) == true))) || true) then
 bif ((!((((decide (x3.i > (0 : Int))) == true) && ((decide (((x2.nth ((IntKind.wrap .i64 (x3.i - (1 : Int))).toNat)).fld 0).i > ((x2.nth x3.i.toNat).fld 0).i)) == false)) && ((((x2.nth ((IntKind.wrap .i64 (x3.i - (1 : Int))).toNat)).fld 0).i == ((x2.nth x3.i.toNat).fld 0).i) == true))) || true) then
 bif ((!((((decide (x3.i > (0 : Int))) == true) && ((decide (((x2.nth ((IntKind.wrap .i64 (x3.i - (1 : Int))).toNat)).fld 0).i > ((x2.nth x3.i.toNat).fld 0).i)) == false)) && ((((x2.nth ((IntKind.wrap .i64 (x3.i - (1 : Int))).toNat)).fld 0).i == ((x2.nth x3.i.toNat).fld 0).i) == true))) || ((((((decide (x3.i > (0 : Int))) == true) && ((decide (((x2.nth ((IntKind.wrap .i64 (x3.i - (1 : Int))).toNat)).fld 0).i > ((x2.nth x3.i.toNat).fld 0).i)) == false)) && ((((x2.nth ((IntKind.wrap .i64 (x3.i - (1 : Int))).toNat)).fld 0).i == ((x2.nth x3.i.toNat).fld 0).i) == true)) && true) && true)) then
 bif ((!((((decide (x3.i > (0 : Int))) == true) && ((decide (((x2.nth ((IntKind.wrap .i64 (x3.i - (1 : Int))).toNat)).fld 0).i > ((x2.nth x3.i.toNat).fld 0).i)) == false)) && ((((x2.nth ((IntKind.wrap .i64 (x3.i - (1 : Int))).toNat)).fld 0).i == ((x2.nth x3.i.toNat).fld 0).i) == true))) || ((((((decide (x3.i > (0 : Int))) == true) && ((decide (((x2.nth ((IntKind.wrap .i64 (x3.i - (1 : Int))).toNat)).fld 0).i > ((x2.nth x3.i.toNat).fld 0).i)) == false)) && ((((x2.nth ((IntKind.wrap .i64 (x3.i - (1 : Int))).toNat)).fld 0).i == ((x2.nth x3.i.toNat).fld 0).i) == true)) && (((((decide (x3.i > (0 : Int))) == true) && ((decide (((x2.nth ((IntKind.wrap .i64 (x3.i - (1 : Int))).toNat)).fld 0).i > ((x2.nth x3.i.toNat).fld 0).i)) == false)) && ((((x2.nth ((IntKind.wrap .i64 (x3.i - (1 : Int))).toNat)).fld 0).i == ((x2.nth x3.i.toNat).fld 0).i) == true)) && true)) && (decide (0 ≤ (IntKind.wrap .i64 (x3.i - (1 : Int)))) && decide ((IntKind.wrap .i64 (x3.i - (1 : Int))).toNat < x2.es.length)))) then
 bif ((!((((decide (x3.i > (0 : Int))) == true) && ((decide (((x2.nth ((IntKind.wrap .i64 (x3.i - (1 : Int))).toNat)).fld 0).i > ((x2.nth x3.i.toNat).fld 0).i)) == false)) && ((((x2.nth ((IntKind.wrap .i64 (x3.i - (1 : Int))).toNat)).fld 0).i == ((x2.nth x3.i.toNat).fld 0).i) == true))) || ((((decide (x3.i > (0 : Int))) == true) && ((decide (((x2.nth ((IntKind.wrap .i64 (x3.i - (1 : Int))).toNat)).fld 0).i > ((x2.nth x3.i.toNat).fld 0).i)) == false)) && ((((x2.nth ((IntKind.wrap .i64 (x3.i - (1 : Int))).toNat)).fld 0).i == ((x2.nth x3.i.toNat).fld 0).i) == true))) then
 bif ((!((((decide (x3.i > (0 : Int))) == true) && ((decide (((x2.nth ((IntKind.wrap .i64 (x3.i - (1 : Int))).toNat)).fld 0).i > ((x2.nth x3.i.toNat).fld 0).i)) == false)) && ((((x2.nth ((IntKind.wrap .i64 (x3.i - (1 : Int))).toNat)).fld 0).i == ((x2.nth x3.i.toNat).fld 0).i) == true))) || ((((decide (x3.i > (0 : Int))) == true) && ((decide (((x2.nth ((IntKind.wrap .i64 (x3.i - (1 : Int))).toNat)).fld 0).i > ((x2.nth x3.i.toNat).fld 0).i)) == false)) && ((((x2.nth ((IntKind.wrap .i64 (x3.i - (1 : Int))).toNat)).fld 0).i == ((x2.nth x3.i.toNat).fld 0).i) == true))) then
 bif ((!((((decide (x3.i > (0 : Int))) == true) && ((decide (((x2.nth ((IntKind.wrap .i64 (x3.i - (1 : Int))).toNat)).fld 0).i > ((x2.nth x3.i.toNat).fld 0).i)) == false)) && ((((x2.nth ((IntKind.wrap .i64 (x3.i - (1 : Int))).toNat)).fld 0).i == ((x2.nth x3.i.toNat).fld 0).i) == true))) || ((((decide (x3.i > (0 : Int))) == true) && ((decide (((x2.nth ((IntKind.wrap .i64 (x3.i - (1 : Int))).toNat)).fld 0).i > ((x2.nth x3.i.toNat).fld 0).i)) == false)) && ((((x2.nth ((IntKind.wrap .i64 (x3.i - (1 : Int))).toNat)).fld 0).i == ((x2.nth x3.i.toNat).fld 0).i) == true))) then
 bif ((!((((decide (x3.i > (0 : Int))) == true) && ((decide (((x2.nth ((IntKind.wrap .i64 (x3.i - (1 : Int))).toNat)).fld 0).i > ((x2.nth x3.i.toNat).fld 0).i)) == false)) && ((((x2.nth ((IntKind.wrap .i64 (x3.i - (1 : Int))).toNat)).fld 0).i == ((x2.nth x3.i.toNat).fld 0).i) == true))) || true) then
 bif ((!((((decide (x3.i > (0 : Int))) == true) && ((decide (((x2.nth ((IntKind.wrap .i64 (x3.i - (1 : Int))).toNat)).fld 0).i > ((x2.nth x3.i.toNat).fld 0).i)) == false)) && ((((x2.nth ((IntKind.wrap .i64 (x3.i - (1 : Int))).toNat)).fld 0).i == ((x2.nth x3.i.toNat).fld 0).i) == true))) || true) then
 bif ((!((((decide (x3.i > (0 : Int))) == true) && ((decide (((x2.nth ((IntKind.wrap .i64 (x3.i - (1 : Int))).toNat)).fld 0).i > ((x2.nth x3.i.toNat).fld 0).i)) == false)) && ((((x2.nth ((IntKind.wrap .i64 (x3.i - (1 : Int))).toNat)).fld 0).i == ((x2.nth x3.i.toNat).fld 0).i) == true))) || ((((((decide (x3.i > (0 : Int))) == true) && ((decide (((x2.nth ((IntKind.wrap .i64 (x3.i - (1 : Int))).toNat)).fld 0).i > ((x2.nth x3.i.toNat).fld 0).i)) == false)) && ((((x2.nth ((IntKind.wrap .i64 (x3.i - (1 : Int))).toNat)).fld 0).i == ((x2.nth x3.i.toNat).fld 0).i) == true)) && (((((decide (x3.i > (0 : Int))) == true) && ((decide (((x2.nth ((IntKind.wrap .i64 (x3.i - (1 : Int))).toNat)).fld 0).i > ((x2.nth x3.i.toNat).fld 0).i)) == false)) && ((((x2.nth ((IntKind.wrap .i64 (x3.i - (1 : Int))).toNat)).fld 0).i == ((x2.nth x3.i.toNat).fld 0).i) == true)) && true)) && (decide (0 ≤ x3.i) && decide (x3.i.toNat < x2.es.length)))) then
 bif ((!((((decide (x3.i > (0 : Int))) == true) && ((decide (((x2.nth ((IntKind.wrap .i64 (x3.i - (1 : Int))).toNat)).fld 0).i > ((x2.nth x3.i.toNat).fld 0).i)) == false)) && ((((x2.nth ((IntKind.wrap .i64 (x3.i - (1 : Int))).toNat)).fld 0).i == ((x2.nth x3.i.toNat).fld 0).i) == true))) || ((((decide (x3.i > (0 : Int))) == true) && ((decide (((x2.nth ((IntKind.wrap .i64 (x3.i - (1 : Int))).toNat)).fld 0).i > ((x2.nth x3.i.toNat).fld 0).i)) == false)) && ((((x2.nth ((IntKind.wrap .i64 (x3.i - (1 : Int))).toNat)).fld 0).i == ((x2.nth x3.i.toNat).fld 0).i) == true))) then
 bif ((!((((decide (x3.i > (0 : Int))) == true) && ((decide (((x2.nth ((IntKind.wrap .i64 (x3.i - (1 : Int))).toNat)).fld 0).i > ((x2.nth x3.i.toNat).fld 0).i)) == false)) && ((((x2.nth ((IntKind.wrap .i64 (x3.i - (1 : Int))).toNat)).fld 0).i == ((x2.nth x3.i.toNat).fld 0).i) == true))) || ((((decide (x3.i > (0 : Int))) == true) && ((decide (((x2.nth ((IntKind.wrap .i64 (x3.i - (1 : Int))).toNat)).fld 0).i > ((x2.nth x3.i.toNat).fld 0).i)) == false)) && ((((x2.nth ((IntKind.wrap .i64 (x3.i - (1 : Int))).toNat)).fld 0).i == ((x2.nth x3.i.toNat).fld 0).i) == true))) then
 bif ((!((((decide (x3.i > (0 : Int))) == true) && ((decide (((x2.nth ((IntKind.wrap .i64 (x3.i - (1 : Int))).toNat)).fld 0).i > ((x2.nth x3.i.toNat).fld 0).i)) == false)) && ((((x2.nth ((IntKind.wrap .i64 (x3.i - (1 : Int))).toNat)).fld 0).i == ((x2.nth x3.i.toNat).fld 0).i) == true))) || ((((decide (x3.i > (0 : Int))) == true) && ((decide (((x2.nth ((IntKind.wrap .i64 (x3.i - (1 : Int))).toNat)).fld 0).i > ((x2.nth x3.i.toNat).fld 0).i)) == false)) && ((((x2.nth ((IntKind.wrap .i64 (x3.i - (1 : Int))).toNat)).fld 0).i == ((x2.nth x3.i.toNat).fld 0).i) == true))) then
 bif ((!((((decide (x3.i > (0 : Int))) == true) && ((decide (((x2.nth ((IntKind.wrap .i64 (x3.i - (1 : Int))).toNat)).fld 0).i > ((x2.nth x3.i.toNat).fld 0).i)) == false)) && ((((x2.nth ((IntKind.wrap .i64 (x3.i - (1 : Int))).toNat)).fld 0).i == ((x2.nth x3.i.toNat).fld 0).i) == true))) || ((((((decide (x3.i > (0 : Int))) == true) && ((decide (((x2.nth ((IntKind.wrap .i64 (x3.i - (1 : Int))).toNat)).fld 0).i > ((x2.nth x3.i.toNat).fld 0).i)) == false)) && ((((x2.nth ((IntKind.wrap .i64 (x3.i - (1 : Int))).toNat)).fld 0).i == ((x2.nth x3.i.toNat).fld 0).i) == true)) && ((((decide (x3.i > (0 : Int))) == true) && ((decide (((x2.nth ((IntKind.wrap .i64 (x3.i - (1 : Int))).toNat)).fld 0).i > ((x2.nth x3.i.toNat).fld 0).i)) == false)) && ((((x2.nth ((IntKind.wrap .i64 (x3.i - (1 : Int))).toNat)).fld 0).i == ((x2.nth x3.i.toNat).fld 0).i) == true))) && true)) then
 bif ((!(((decide (x3.i > (0 : Int))) == true) && ((decide (((x2.nth ((IntKind.wrap .i64 (x3.i - (1 : Int))).toNat)).fld 0).i > ((x2.nth x3.i.toNat).fld 0).i)) == false))) || ((((decide (x3.i > (0 : Int))) == true) && ((decide (((x2.nth ((IntKind.wrap .i64 (x3.i - (1 : Int))).toNat)).fld 0).i > ((x2.nth x3.i.toNat).fld 0).i)) == false)) && (bif (((x2.nth ((IntKind.wrap .i64 (x3.i - (1 : Int))).toNat)).fld 0).i == ((x2.nth x3.i.toNat).fld 0).i) then ((((decide (x3.i > (0 : Int))) == true) && ((decide (((x2.nth ((IntKind.wrap .i64 (x3.i - (1 : Int))).toNat)).fld 0).i > ((x2.nth x3.i.toNat).fld 0).i)) == false)) && ((((x2.nth ((IntKind.wrap .i64 (x3.i - (1 : Int))).toNat)).fld 0).i == ((x2.nth x3.i.toNat).fld 0).i) == true)) else true))) then
 bif ((!((decide (x3.i > (0 : Int))) == true)) || (((decide (x3.i > (0 : Int))) == true) && (bif (decide (((x2.nth ((IntKind.wrap .i64 (x3.i - (1 : Int))).toNat)).fld 0).i > ((x2.nth x3.i.toNat).fld 0).i)) then true else (((decide (x3.i > (0 : Int))) == true) && ((decide (((x2.nth ((IntKind.wrap .i64 (x3.i - (1 : Int))).toNat)).fld 0).i > ((x2.nth x3.i.toNat).fld 0).i)) == false))))) then
 bif (bif (decide (x3.i > (0 : Int))) then ((decide (x3.i > (0 : Int))) == true) else true) then
 bif (bif (decide (x3.i > (0 : Int))) then (bif (decide (((x2.nth ((IntKind.wrap .i64 (x3.i - (1 : Int))).toNat)).fld 0).i > ((x2.nth x3.i.toNat).fld 0).i)) then (T.bool true) else (bif (((x2.nth ((IntKind.wrap .i64 (x3.i - (1 : Int))).toNat)).fld 0).i == ((x2.nth x3.i.toNat).fld 0).i) then (T.bool (!(Op.bytesLess ((((x2.nth ((IntKind.wrap .i64 (x3.i - (1 : Int))).toNat)).fld 1).fld 0).s).toList ((((x2.nth x3.i.toNat).fld 1).fld 0).s).toList))) else (T.bool false))) else (T.bool false)).b then
 some [(T.bool false)]
 else
 l_spec_l9Ok_0 H x1 x2 (T.int (IntKind.wrap .i64 (x3.i + (1 : Int))))
 else
 none
 else
 none
 else
 none
 else
 none
 else
 none
 else
 none
 else
 none
 else
 none
 else
 none
 else
 none
 else
 none
 else
 none
 else
 none
 else
 none
 else
 none
 else
 none
 else
 none
 else
 none
 else
 none
 else
 none
 else
 none
 else
 none
 else
 none
 else
 none
 else
 none
 else
 none
 else
 none
 else
 none
 else
 none
 else
 none
 else
 none
 else
 none
 else
 none
 else
 none
 else
 none
 else
 none
 else
 none
 else
 none
 else
 none
 else
 none
 else
 none
 else
 none
 else
 none
 else
 none
 else
 none
 else
 none
 else
 none
 else
 none
 else
 none
 else
 none
 else
 none
 else
 none
 else
 none
 else
 some [(T.bool (decide ((x2.es.length : Int) ≤ (36 : Int))))] := by kernel_rfl
theorem q_spec_l9Ok_0 (H : List Item → CS → R) (C : CallsE) (x1 : T) (x2 : T) (x3 : T) : headE fi_spec_l9Ok env H C (hdAt fi_spec_l9Ok.body 0) ([(0, .val 27 x1), (1, .val 29 x2), (5, .val 3 x3)], []) = b_spec_l9Ok_0 H C x1 x2 x3 := by
 refine (e_spec_l9Ok_0 H C x1 x2 x3).trans ?_
 unfold b_spec_l9Ok_0
 all_goals cases hc : ((decide (x3.i < (x2.es.length : Int)))) with
 | true =>
  try simp only [bs]
  all_goals cases hc : ((decide (0 ≤ x3.i) && decide (x3.i.toNat < x2.es.length))) with
  | true =>
   try simp only [bs]
   all_goals refine obind_congr fun r1 => ?_
   all_goals try simp only [bs]
   all_goals cases hc : ((!(rt r1 0).b)) with
   | true =>
    try simp only [bs]
    all_goals kernel_rfl
   | false =>
    try simp only [bs]
    all_goals refine obind_congr fun r2 => ?_
    all_goals try simp only [bs]
    all_goals cases hc : ((!(rt r2 0).b)) with
    | true =>
     try simp only [bs]
     all_goals kernel_rfl
    | false =>
     try simp only [bs]
     all_goals cases hc : ((decide (x3.i > (0 : Int)))) with
     | true =>
      try simp only [bs]
      all_goals cases hc : ((decide (0 ≤ (IntKind.wrap .i64 (x3.i - (1 : Int)))) && decide ((IntKind.wrap .i64 (x3.i - (1 : Int))).toNat < x2.es.length))) with
      | true =>
       try simp only [bs]
       all_goals cases hc : ((decide (((x2.nth ((IntKind.wrap .i64 (x3.i - (1 : Int))).toNat)).fld 0).i > ((x2.nth x3.i.toNat).fld 0).i))) with
       | true =>
        try simp only [bs]
        all_goals cases hc : ((((x2.nth ((IntKind.wrap .i64 (x3.i - (1 : Int))).toNat)).fld 0).i == ((x2.nth x3.i.toNat).fld 0).i)) with
        | true =>
         try simp only [bs]
         all_goals kernel_rfl
        | false =>
         try simp only [bs]
         all_goals kernel_rfl
       | false =>
        try simp only [bs]
        all_goals cases hc : ((((x2.nth ((IntKind.wrap .i64 (x3.i - (1 : Int))).toNat)).fld 0).i == ((x2.nth x3.i.toNat).fld 0).i)) with
        | true =>
         try simp only [bs]
         all_goals cases hc : ((!(Op.bytesLess ((((x2.nth ((IntKind.wrap .i64 (x3.i - (1 : Int))).toNat)).fld 1).fld 0).s).toList ((((x2.nth x3.i.toNat).fld 1).fld 0).s).toList))) with
         | true =>
          try simp only [bs]
          all_goals kernel_rfl
         | false =>
          try simp only [bs]
          all_goals kernel_rfl
        | false =>
         try simp only [bs]
         all_goals kernel_rfl
      | false =>
       try simp only [bs]
       all_goals kernel_rfl
     | false =>
      try simp only [bs]
      all_goals cases hc : ((decide (((x2.nth ((IntKind.wrap .i64 (x3.i - (1 : Int))).toNat)).fld 0).i > ((x2.nth x3.i.toNat).fld 0).i))) with
      | true =>
       try simp only [bs]
       all_goals cases hc : ((((x2.nth ((IntKind.wrap .i64 (x3.i - (1 : Int))).toNat)).fld 0).i == ((x2.nth x3.i.toNat).fld 0).i)) with
       | true =>
        try simp only [bs]
        all_goals kernel_rfl
       | false =>
        try simp only [bs]
        all_goals kernel_rfl
      | false =>
       try simp only [bs]
       all_goals cases hc : ((((x2.nth ((IntKind.wrap .i64 (x3.i - (1 : Int))).toNat)).fld 0).i == ((x2.nth x3.i.toNat).fld 0).i)) with
       | true =>
        try simp only [bs]
        all_goals kernel_rfl
       | false =>
        try simp only [bs]
        all_goals kernel_rfl
  | false =>
   try simp only [bs]
   all_goals kernel_rfl
 | false =>
  try simp only [bs]
  all_goals kernel_rfl
theorem y_spec_l9Ok_0 (x1 : T) (x2 : T) (x3 : T) {r : List T} (h : Yields (fun k => b_spec_l9Ok_0 (hl env k fi_spec_l9Ok) (cl env k) x1 x2 x3) r) : Yields (fun k => l_spec_l9Ok_0 (hl env k fi_spec_l9Ok) x1 x2 x3) r := Yields.head (fun H C => q_spec_l9Ok_0 H C x1 x2 x3) h
/- loop.example/heirlooms/spec.l1Base -/
noncomputable abbrev b_spec_l1Base (H : List Item → CS → R) (C : CallsE) (a0 : T) : R :=
 bif (a0.s.toList == (⟨#[110]⟩ : ByteArray).toList) then
 some [(T.bool true)]
 else
 bif (a0.s.toList == (⟨#[98]⟩ : ByteArray).toList) then
 some [(T.bool true)]
 else
 some [(T.bool (a0.s.toList == (⟨#[111]⟩ : ByteArray).toList))]
theorem e_spec_l1Base (H : List Item → CS → R) (C : CallsE) (a0 : T) : enterE fi_spec_l1Base env H C [a0] =
 bif ((!((a0.s.toList == (⟨#[110]⟩ : ByteArray).toList) == false)) || true) then
 bif ((!((a0.s.toList == (⟨#[110]⟩ : ByteArray).toList) == false)) || ((((a0.s.toList == (⟨#[110]⟩ : ByteArray).toList) == false) && true) && true)) then
 bif (bif (a0.s.toList == (⟨#[110]⟩ : ByteArray).toList) then true else ((a0.s.toList == (⟨#[110]⟩ : ByteArray).toList) == false)) then
 bif ((!((bif (a0.s.toList == (⟨#[110]⟩ : ByteArray).toList) then (T.bool true) else (T.bool (a0.s.toList == (⟨#[98]⟩ : ByteArray).toList))).b == false)) || true) then
 bif ((!((bif (a0.s.toList == (⟨#[110]⟩ : ByteArray).toList) then (T.bool true) else (T.bool (a0.s.toList == (⟨#[98]⟩ : ByteArray).toList))).b == false)) || ((((bif (a0.s.toList == (⟨#[110]⟩ : ByteArray).toList) then (T.bool true) else (T.bool (a0.s.toList == (⟨#[98]⟩ : ByteArray).toList))).b == false) && true) && true)) then
 bif (bif (bif (a0.s.toList == (⟨#[110]⟩ : ByteArray).toList) then (T.bool true) else (T.bool (a0.s.toList == (⟨#[98]⟩ : ByteArray).toList))).b then true else ((bif (a0.s.toList == (⟨#[110]⟩ : ByteArray).toList) then (T.bool true) else (T.bool (a0.s.toList == (⟨#[98]⟩ : ByteArray).toList))).b == false)) then
 some [(bif (bif (a0.s.toList == (⟨#[110]⟩ : ByteArray).toList) then (T.bool true) else (T.bool (a0.s.toList == (⟨#[98]⟩ : ByteArray).toList))).b then (T.bool true) else (T.bool (a0.s.toList == (⟨#[111]⟩ : ByteArray).toList)))]
 else
 none
 else
 none
 else
 none
 else
 none
 else
 none
 else
 none := by kernel_rfl
theorem q_spec_l1Base (H : List Item → CS → R) (C : CallsE) (a0 : T) : enterE fi_spec_l1Base env H C [a0] = b_spec_l1Base H C a0 := by
 refine (e_spec_l1Base H C a0).trans ?_
 unfold b_spec_l1Base
 all_goals cases hc : ((a0.s.toList == (⟨#[110]⟩ : ByteArray).toList)) with
 | true =>
  try simp only [bs]
  all_goals kernel_rfl
 | false =>
  try simp only [bs]
  all_goals cases hc : ((a0.s.toList == (⟨#[98]⟩ : ByteArray).toList)) with
  | true =>
   try simp only [bs]
   all_goals kernel_rfl
  | false =>
   try simp only [bs]
   all_goals kernel_rfl
theorem y_spec_l1Base (a0 : T) {r : List T} (h : Yields (fun k => b_spec_l1Base (hl env k fi_spec_l1Base) (cl env k) a0) r) : Yields (fun k => cl env k F_spec_l1Base [a0]) r := Yields.call (fi := fi_spec_l1Base) rfl (fun H C => q_spec_l1Base H C a0) h
/- loop.example/heirlooms/spec.l1Has -/
noncomputable abbrev b_spec_l1Has (H : List Item → CS → R) (C : CallsE) (a0 a1 a2 : T) : R :=
 bif (decide (a1.i < (a0.es.length : Int))) then
 bif (decide (0 ≤ a1.i) && decide (a1.i.toNat < a0.es.length)) then
 some [(T.bool (decide (a2.i < (((a0.nth a1.i.toNat).es).length : Int))))]
 else
 none
 else
 some [(T.bool false)]
theorem e_spec_l1Has (H : List Item → CS → R) (C : CallsE) (a0 a1 a2 : T) : enterE fi_spec_l1Has env H C [a0, a1, a2] =
 bif ((!((decide (a1.i < (a0.es.length : Int))) == true)) || true) then
 bif ((!((decide (a1.i < (a0.es.length : Int))) == true)) || true) then
 bif ((!((decide (a1.i < (a0.es.length : Int))) == true)) || true) then
 bif ((!((decide (a1.i < (a0.es.length : Int))) == true)) || ((((decide (a1.i < (a0.es.length : Int))) == true) && (((decide (a1.i < (a0.es.length : Int))) == true) && true)) && (decide (0 ≤ a1.i) && decide (a1.i.toNat < a0.es.length)))) then
 bif ((!((decide (a1.i < (a0.es.length : Int))) == true)) || ((decide (a1.i < (a0.es.length : Int))) == true)) then
 bif ((!((decide (a1.i < (a0.es.length : Int))) == true)) || ((decide (a1.i < (a0.es.length : Int))) == true)) then
 bif ((!((decide (a1.i < (a0.es.length : Int))) == true)) || ((((decide (a1.i < (a0.es.length : Int))) == true) && ((decide (a1.i < (a0.es.length : Int))) == true)) && true)) then
 bif (bif (decide (a1.i < (a0.es.length : Int))) then ((decide (a1.i < (a0.es.length : Int))) == true) else true) then
 some [(bif (decide (a1.i < (a0.es.length : Int))) then (T.bool (decide (a2.i < (((a0.nth a1.i.toNat).es).length : Int)))) else (T.bool false))]
 else
 none
 else
 none
 else
 none
 else
 none
 else
 none
 else
 none
 else
 none
 else
 none := by kernel_rfl
theorem q_spec_l1Has (H : List Item → CS → R) (C : CallsE) (a0 a1 a2 : T) : enterE fi_spec_l1Has env H C [a0, a1, a2] = b_spec_l1Has H C a0 a1 a2 := by
 refine (e_spec_l1Has H C a0 a1 a2).trans ?_
 unfold b_spec_l1Has
 all_goals cases hc : ((decide (a1.i < (a0.es.length : Int)))) with
 | true =>
  try simp only [bs]
  all_goals cases hc : ((decide (0 ≤ a1.i) && decide (a1.i.toNat < a0.es.length))) with
  | true =>
   try simp only [bs]
   all_goals kernel_rfl
  | false =>
   try simp only [bs]
   all_goals kernel_rfl
 | false =>
  try simp only [bs]
  all_goals kernel_rfl
theorem y_spec_l1Has (a0 a1 a2 : T) {r : List T} (h : Yields (fun k => b_spec_l1Has (hl env k fi_spec_l1Has) (cl env k) a0 a1 a2) r) : Yields (fun k => cl env k F_spec_l1Has [a0, a1, a2]) r := Yields.call (fi := fi_spec_l1Has) rfl (fun H C => q_spec_l1Has H C a0 a1 a2) h
/- loop.example/heirlooms/laws.toRecord -/
noncomputable abbrev b_laws_toRecord (H : List Item → CS → R) (C : CallsE) (a0 : T) : R :=
 obind (C F_laws_toStringS [(a0.fld 1)]) fun r1 =>
 some [(T.st [(a0.fld 0), (rt r1 0)])]
theorem q_laws_toRecord (H : List Item → CS → R) (C : CallsE) (a0 : T) : enterE fi_laws_toRecord env H C [a0] = b_laws_toRecord H C a0 := by kernel_rfl
theorem y_laws_toRecord (a0 : T) {r : List T} (h : Yields (fun k => b_laws_toRecord (hl env k fi_laws_toRecord) (cl env k) a0) r) : Yields (fun k => cl env k F_laws_toRecord [a0]) r := Yields.call (fi := fi_laws_toRecord) rfl (fun H C => q_laws_toRecord H C a0) h
/- loop.example/heirlooms/impl.KindsOk -/
noncomputable abbrev b_impl_KindsOk (H : List Item → CS → R) (C : CallsE) (a0 : T) : R :=
 obind (C F_impl_KindsBad [a0]) fun r1 =>
 some [(T.bool ((rt r1 0).i == (-1 : Int)))]
theorem q_impl_KindsOk (H : List Item → CS → R) (C : CallsE) (a0 : T) : enterE fi_impl_KindsOk env H C [a0] = b_impl_KindsOk H C a0 := by kernel_rfl
theorem y_impl_KindsOk (a0 : T) {r : List T} (h : Yields (fun k => b_impl_KindsOk (hl env k fi_impl_KindsOk) (cl env k) a0) r) : Yields (fun k => cl env k F_impl_KindsOk [a0]) r := Yields.call (fi := fi_impl_KindsOk) rfl (fun H C => q_impl_KindsOk H C a0) h
/- loop.example/heirlooms/impl.vaultBefore -/
noncomputable abbrev b_impl_vaultBefore (H : List Item → CS → R) (C : CallsE) (a0 a1 : T) : R :=
 bif (decide ((a0.fld 0).i < (a1.fld 0).i)) then
 some [(T.bool true)]
 else
 bif ((a0.fld 0).i == (a1.fld 0).i) then
 some [(T.bool (Op.bytesLess (((a0.fld 1).fld 0).s).toList (((a1.fld 1).fld 0).s).toList))]
 else
 some [(T.bool false)]
theorem e_impl_vaultBefore (H : List Item → CS → R) (C : CallsE) (a0 a1 : T) : enterE fi_impl_vaultBefore env H C [a0, a1] =
 bif ((!((decide ((a0.fld 0).i < (a1.fld 0).i)) == false)) || true) then
 bif ((!((decide ((a0.fld 0).i < (a1.fld 0).i)) == false)) || ((decide ((a0.fld 0).i < (a1.fld 0).i)) == false)) then
 bif ((!((decide ((a0.fld 0).i < (a1.fld 0).i)) == false)) || true) then
 bif ((!((decide ((a0.fld 0).i < (a1.fld 0).i)) == false)) || ((decide ((a0.fld 0).i < (a1.fld 0).i)) == false)) then
 bif ((!((decide ((a0.fld 0).i < (a1.fld 0).i)) == false)) || ((((decide ((a0.fld 0).i < (a1.fld 0).i)) == false) && ((decide ((a0.fld 0).i < (a1.fld 0).i)) == false)) && true)) then
 bif ((!((decide ((a0.fld 0).i < (a1.fld 0).i)) == false)) || ((decide ((a0.fld 0).i < (a1.fld 0).i)) == false)) then
 bif ((!(((decide ((a0.fld 0).i < (a1.fld 0).i)) == false) && (((a0.fld 0).i == (a1.fld 0).i) == true))) || true) then
 bif ((!(((decide ((a0.fld 0).i < (a1.fld 0).i)) == false) && (((a0.fld 0).i == (a1.fld 0).i) == true))) || (((decide ((a0.fld 0).i < (a1.fld 0).i)) == false) && (((a0.fld 0).i == (a1.fld 0).i) == true))) then
 bif ((!(((decide ((a0.fld 0).i < (a1.fld 0).i)) == false) && (((a0.fld 0).i == (a1.fld 0).i) == true))) || (((decide ((a0.fld 0).i < (a1.fld 0).i)) == false) && (((a0.fld 0).i == (a1.fld 0).i) == true))) then
 bif ((!(((decide ((a0.fld 0).i < (a1.fld 0).i)) == false) && (((a0.fld 0).i == (a1.fld 0).i) == true))) || true) then
 bif ((!(((decide ((a0.fld 0).i < (a1.fld 0).i)) == false) && (((a0.fld 0).i == (a1.fld 0).i) == true))) || (((decide ((a0.fld 0).i < (a1.fld 0).i)) == false) && (((a0.fld 0).i == (a1.fld 0).i) == true))) then
 bif ((!(((decide ((a0.fld 0).i < (a1.fld 0).i)) == false) && (((a0.fld 0).i == (a1.fld 0).i) == true))) || (((decide ((a0.fld 0).i < (a1.fld 0).i)) == false) && (((a0.fld 0).i == (a1.fld 0).i) == true))) then
 bif ((!(((decide ((a0.fld 0).i < (a1.fld 0).i)) == false) && (((a0.fld 0).i == (a1.fld 0).i) == true))) || (((((decide ((a0.fld 0).i < (a1.fld 0).i)) == false) && (((a0.fld 0).i == (a1.fld 0).i) == true)) && (((decide ((a0.fld 0).i < (a1.fld 0).i)) == false) && (((a0.fld 0).i == (a1.fld 0).i) == true))) && true)) then
 bif ((!((decide ((a0.fld 0).i < (a1.fld 0).i)) == false)) || (((decide ((a0.fld 0).i < (a1.fld 0).i)) == false) && (bif ((a0.fld 0).i == (a1.fld 0).i) then (((decide ((a0.fld 0).i < (a1.fld 0).i)) == false) && (((a0.fld 0).i == (a1.fld 0).i) == true)) else true))) then
 bif (bif (decide ((a0.fld 0).i < (a1.fld 0).i)) then true else ((decide ((a0.fld 0).i < (a1.fld 0).i)) == false)) then
 some [(bif (decide ((a0.fld 0).i < (a1.fld 0).i)) then (T.bool true) else (bif ((a0.fld 0).i == (a1.fld 0).i) then (T.bool (Op.bytesLess (((a0.fld 1).fld 0).s).toList (((a1.fld 1).fld 0).s).toList)) else (T.bool false)))]
 else
 none
 else
 none
 else
 none
 else
 none
 else
 none
 else
 none
 else
 none
 else
 none
 else
 none
 else
 none
 else
 none
 else
 none
 else
 none
 else
 none
 else
 none := by kernel_rfl
theorem q_impl_vaultBefore (H : List Item → CS → R) (C : CallsE) (a0 a1 : T) : enterE fi_impl_vaultBefore env H C [a0, a1] = b_impl_vaultBefore H C a0 a1 := by
 refine (e_impl_vaultBefore H C a0 a1).trans ?_
 unfold b_impl_vaultBefore
 all_goals cases hc : ((decide ((a0.fld 0).i < (a1.fld 0).i))) with
 | true =>
  try simp only [bs]
  all_goals cases hc : (((a0.fld 0).i == (a1.fld 0).i)) with
  | true =>
   try simp only [bs]
   all_goals kernel_rfl
  | false =>
   try simp only [bs]
   all_goals kernel_rfl
 | false =>
  try simp only [bs]
  all_goals cases hc : (((a0.fld 0).i == (a1.fld 0).i)) with
  | true =>
   try simp only [bs]
   all_goals kernel_rfl
  | false =>
   try simp only [bs]
   all_goals kernel_rfl
theorem y_impl_vaultBefore (a0 a1 : T) {r : List T} (h : Yields (fun k => b_impl_vaultBefore (hl env k fi_impl_vaultBefore) (cl env k) a0 a1) r) : Yields (fun k => cl env k F_impl_vaultBefore [a0, a1]) r := Yields.call (fi := fi_impl_vaultBefore) rfl (fun H C => q_impl_vaultBefore H C a0 a1) h
/- loop.example/heirlooms/impl.kindAt -/
noncomputable abbrev b_impl_kindAt (H : List Item → CS → R) (C : CallsE) (a0 : T) : R :=
 bif ((a0.s.size : Int) != (3 : Int)) then
 some [(T.int (0 : Int)), (T.int (0 : Int)), (T.bool false)]
 else
 bif (decide (0 ≤ (0 : Int)) && decide (0 < a0.s.size)) then
 bif ((a0.s.data.getD 0 0).toNat != (83 : Int)) then
 some [(T.int (0 : Int)), (T.int (0 : Int)), (T.bool false)]
 else
 bif (decide (0 ≤ (1 : Int)) && decide (1 < a0.s.size)) then
 bif (decide ((a0.s.data.getD 1 0).toNat < (48 : Int))) then
 some [(T.int (0 : Int)), (T.int (0 : Int)), (T.bool false)]
 else
 bif (decide ((a0.s.data.getD 1 0).toNat > (57 : Int))) then
 some [(T.int (0 : Int)), (T.int (0 : Int)), (T.bool false)]
 else
 bif (decide (0 ≤ (2 : Int)) && decide (2 < a0.s.size)) then
 bif (decide ((a0.s.data.getD 2 0).toNat < (48 : Int))) then
 some [(T.int (0 : Int)), (T.int (0 : Int)), (T.bool false)]
 else
 bif (decide ((a0.s.data.getD 2 0).toNat > (57 : Int))) then
 some [(T.int (0 : Int)), (T.int (0 : Int)), (T.bool false)]
 else
 some [(T.int (IntKind.wrap .i64 (IntKind.wrap .u8 ((a0.s.data.getD 1 0).toNat - (48 : Int))))), (T.int (IntKind.wrap .i64 (IntKind.wrap .u8 ((a0.s.data.getD 2 0).toNat - (48 : Int))))), (T.bool true)]
 else
 none
 else
 none
 else
 none
theorem e_impl_kindAt (H : List Item → CS → R) (C : CallsE) (a0 : T) : enterE fi_impl_kindAt env H C [a0] =
 bif ((!(((a0.s.size : Int) != (3 : Int)) == false)) || true) then
 bif ((!(((a0.s.size : Int) != (3 : Int)) == false)) || (((((a0.s.size : Int) != (3 : Int)) == false) && true) && (decide (0 ≤ (0 : Int)) && decide (0 < a0.s.size)))) then
 bif ((!(((a0.s.size : Int) != (3 : Int)) == false)) || (((((a0.s.size : Int) != (3 : Int)) == false) && true) && true)) then
 bif (bif ((a0.s.size : Int) != (3 : Int)) then true else (((a0.s.size : Int) != (3 : Int)) == false)) then
 bif ((!((bif ((a0.s.size : Int) != (3 : Int)) then (T.bool true) else (T.bool ((a0.s.data.getD 0 0).toNat != (83 : Int)))).b == false)) || true) then
 bif ((!((bif ((a0.s.size : Int) != (3 : Int)) then (T.bool true) else (T.bool ((a0.s.data.getD 0 0).toNat != (83 : Int)))).b == false)) || ((((bif ((a0.s.size : Int) != (3 : Int)) then (T.bool true) else (T.bool ((a0.s.data.getD 0 0).toNat != (83 : Int)))).b == false) && true) && (decide (0 ≤ (1 : Int)) && decide (1 < a0.s.size)))) then
 bif ((!((bif ((a0.s.size : Int) != (3 : Int)) then (T.bool true) else (T.bool ((a0.s.data.getD 0 0).toNat != (83 : Int)))).b == false)) || ((((bif ((a0.s.size : Int) != (3 : Int)) then (T.bool true) else (T.bool ((a0.s.data.getD 0 0).toNat != (83 : Int)))).b == false) && true) && true)) then
 bif (bif (bif ((a0.s.size : Int) != (3 : Int)) then (T.bool true) else (T.bool ((a0.s.data.getD 0 0).toNat != (83 : Int)))).b then true else ((bif ((a0.s.size : Int) != (3 : Int)) then (T.bool true) else (T.bool ((a0.s.data.getD 0 0).toNat != (83 : Int)))).b == false)) then
 bif ((!((bif (bif ((a0.s.size : Int) != (3 : Int)) then (T.bool true) else (T.bool ((a0.s.data.getD 0 0).toNat != (83 : Int)))).b then (T.bool true) else (T.bool (decide ((a0.s.data.getD 1 0).toNat < (48 : Int))))).b == false)) || true) then
 bif ((!((bif (bif ((a0.s.size : Int) != (3 : Int)) then (T.bool true) else (T.bool ((a0.s.data.getD 0 0).toNat != (83 : Int)))).b then (T.bool true) else (T.bool (decide ((a0.s.data.getD 1 0).toNat < (48 : Int))))).b == false)) || ((((bif (bif ((a0.s.size : Int) != (3 : Int)) then (T.bool true) else (T.bool ((a0.s.data.getD 0 0).toNat != (83 : Int)))).b then (T.bool true) else (T.bool (decide ((a0.s.data.getD 1 0).toNat < (48 : Int))))).b == false) && true) && (decide (0 ≤ (1 : Int)) && decide (1 < a0.s.size)))) then
 bif ((!((bif (bif ((a0.s.size : Int) != (3 : Int)) then (T.bool true) else (T.bool ((a0.s.data.getD 0 0).toNat != (83 : Int)))).b then (T.bool true) else (T.bool (decide ((a0.s.data.getD 1 0).toNat < (48 : Int))))).b == false)) || ((((bif (bif ((a0.s.size : Int) != (3 : Int)) then (T.bool true) else (T.bool ((a0.s.data.getD 0 0).toNat != (83 : Int)))).b then (T.bool true) else (T.bool (decide ((a0.s.data.getD 1 0).toNat < (48 : Int))))).b == false) && true) && true)) then
 bif (bif (bif (bif ((a0.s.size : Int) != (3 : Int)) then (T.bool true) else (T.bool ((a0.s.data.getD 0 0).toNat != (83 : Int)))).b then (T.bool true) else (T.bool (decide ((a0.s.data.getD 1 0).toNat < (48 : Int))))).b then true else ((bif (bif ((a0.s.size : Int) != (3 : Int)) then (T.bool true) else (T.bool ((a0.s.data.getD 0 0).toNat != (83 : Int)))).b then (T.bool true) else (T.bool (decide ((a0.s.data.getD 1 0).toNat < (48 : Int))))).b == false)) then
 bif ((!((bif (bif (bif ((a0.s.size : Int) != (3 : Int)) then (T.bool true) else (T.bool ((a0.s.data.getD 0 0).toNat != (83 : Int)))).b then (T.bool true) else (T.bool (decide ((a0.s.data.getD 1 0).toNat < (48 : Int))))).b then (T.bool true) else (T.bool (decide ((a0.s.data.getD 1 0).toNat > (57 : Int))))).b == false)) || true) then
 bif ((!((bif (bif (bif ((a0.s.size : Int) != (3 : Int)) then (T.bool true) else (T.bool ((a0.s.data.getD 0 0).toNat != (83 : Int)))).b then (T.bool true) else (T.bool (decide ((a0.s.data.getD 1 0).toNat < (48 : Int))))).b then (T.bool true) else (T.bool (decide ((a0.s.data.getD 1 0).toNat > (57 : Int))))).b == false)) || ((((bif (bif (bif ((a0.s.size : Int) != (3 : Int)) then (T.bool true) else (T.bool ((a0.s.data.getD 0 0).toNat != (83 : Int)))).b then (T.bool true) else (T.bool (decide ((a0.s.data.getD 1 0).toNat < (48 : Int))))).b then (T.bool true) else (T.bool (decide ((a0.s.data.getD 1 0).toNat > (57 : Int))))).b == false) && true) && (decide (0 ≤ (2 : Int)) && decide (2 < a0.s.size)))) then
 bif ((!((bif (bif (bif ((a0.s.size : Int) != (3 : Int)) then (T.bool true) else (T.bool ((a0.s.data.getD 0 0).toNat != (83 : Int)))).b then (T.bool true) else (T.bool (decide ((a0.s.data.getD 1 0).toNat < (48 : Int))))).b then (T.bool true) else (T.bool (decide ((a0.s.data.getD 1 0).toNat > (57 : Int))))).b == false)) || ((((bif (bif (bif ((a0.s.size : Int) != (3 : Int)) then (T.bool true) else (T.bool ((a0.s.data.getD 0 0).toNat != (83 : Int)))).b then (T.bool true) else (T.bool (decide ((a0.s.data.getD 1 0).toNat < (48 : Int))))).b then (T.bool true) else (T.bool (decide ((a0.s.data.getD 1 0).toNat > (57 : Int))))).b == false) && true) && true)) then
 bif (bif (bif (bif (bif ((a0.s.size : Int) != (3 : Int)) then (T.bool true) else (T.bool ((a0.s.data.getD 0 0).toNat != (83 : Int)))).b then (T.bool true) else (T.bool (decide ((a0.s.data.getD 1 0).toNat < (48 : Int))))).b then (T.bool true) else (T.bool (decide ((a0.s.data.getD 1 0).toNat > (57 : Int))))).b then true else ((bif (bif (bif ((a0.s.size : Int) != (3 : Int)) then (T.bool true) else (T.bool ((a0.s.data.getD 0 0).toNat != (83 : Int)))).b then (T.bool true) else (T.bool (decide ((a0.s.data.getD 1 0).toNat < (48 : Int))))).b then (T.bool true) else (T.bool (decide ((a0.s.data.getD 1 0).toNat > (57 : Int))))).b == false)) then
 bif ((!((bif (bif (bif (bif ((a0.s.size : Int) != (3 : Int)) then (T.bool true) else (T.bool ((a0.s.data.getD 0 0).toNat != (83 : Int)))).b then (T.bool true) else (T.bool (decide ((a0.s.data.getD 1 0).toNat < (48 : Int))))).b then (T.bool true) else (T.bool (decide ((a0.s.data.getD 1 0).toNat > (57 : Int))))).b then (T.bool true) else (T.bool (decide ((a0.s.data.getD 2 0).toNat < (48 : Int))))).b == false)) || true) then
 bif ((!((bif (bif (bif (bif ((a0.s.size : Int) != (3 : Int)) then (T.bool true) else (T.bool ((a0.s.data.getD 0 0).toNat != (83 : Int)))).b then (T.bool true) else (T.bool (decide ((a0.s.data.getD 1 0).toNat < (48 : Int))))).b then (T.bool true) else (T.bool (decide ((a0.s.data.getD 1 0).toNat > (57 : Int))))).b then (T.bool true) else (T.bool (decide ((a0.s.data.getD 2 0).toNat < (48 : Int))))).b == false)) || ((((bif (bif (bif (bif ((a0.s.size : Int) != (3 : Int)) then (T.bool true) else (T.bool ((a0.s.data.getD 0 0).toNat != (83 : Int)))).b then (T.bool true) else (T.bool (decide ((a0.s.data.getD 1 0).toNat < (48 : Int))))).b then (T.bool true) else (T.bool (decide ((a0.s.data.getD 1 0).toNat > (57 : Int))))).b then (T.bool true) else (T.bool (decide ((a0.s.data.getD 2 0).toNat < (48 : Int))))).b == false) && true) && (decide (0 ≤ (2 : Int)) && decide (2 < a0.s.size)))) then
 bif ((!((bif (bif (bif (bif ((a0.s.size : Int) != (3 : Int)) then (T.bool true) else (T.bool ((a0.s.data.getD 0 0).toNat != (83 : Int)))).b then (T.bool true) else (T.bool (decide ((a0.s.data.getD 1 0).toNat < (48 : Int))))).b then (T.bool true) else (T.bool (decide ((a0.s.data.getD 1 0).toNat > (57 : Int))))).b then (T.bool true) else (T.bool (decide ((a0.s.data.getD 2 0).toNat < (48 : Int))))).b == false)) || ((((bif (bif (bif (bif ((a0.s.size : Int) != (3 : Int)) then (T.bool true) else (T.bool ((a0.s.data.getD 0 0).toNat != (83 : Int)))).b then (T.bool true) else (T.bool (decide ((a0.s.data.getD 1 0).toNat < (48 : Int))))).b then (T.bool true) else (T.bool (decide ((a0.s.data.getD 1 0).toNat > (57 : Int))))).b then (T.bool true) else (T.bool (decide ((a0.s.data.getD 2 0).toNat < (48 : Int))))).b == false) && true) && true)) then
 bif (bif (bif (bif (bif (bif ((a0.s.size : Int) != (3 : Int)) then (T.bool true) else (T.bool ((a0.s.data.getD 0 0).toNat != (83 : Int)))).b then (T.bool true) else (T.bool (decide ((a0.s.data.getD 1 0).toNat < (48 : Int))))).b then (T.bool true) else (T.bool (decide ((a0.s.data.getD 1 0).toNat > (57 : Int))))).b then (T.bool true) else (T.bool (decide ((a0.s.data.getD 2 0).toNat < (48 : Int))))).b then true else ((bif (bif (bif (bif ((a0.s.size : Int) != (3 : Int)) then (T.bool true) else (T.bool ((a0.s.data.getD 0 0).toNat != (83 : Int)))).b then (T.bool true) else (T.bool (decide ((a0.s.data.getD 1 0).toNat < (48 : Int))))).b then (T.bool true) else (T.bool (decide ((a0.s.data.getD 1 0).toNat > (57 : Int))))).b then (T.bool true) else (T.bool (decide ((a0.s.data.getD 2 0).toNat < (48 : Int))))).b == false)) then
 bif (bif (bif (bif (bif (bif ((a0.s.size : Int) != (3 : Int)) then (T.bool true) else (T.bool ((a0.s.data.getD 0 0).toNat != (83 : Int)))).b then (T.bool true) else (T.bool (decide ((a0.s.data.getD 1 0).toNat < (48 : Int))))).b then (T.bool true) else (T.bool (decide ((a0.s.data.getD 1 0).toNat > (57 : Int))))).b then (T.bool true) else (T.bool (decide ((a0.s.data.getD 2 0).toNat < (48 : Int))))).b then (T.bool true) else (T.bool (decide ((a0.s.data.getD 2 0).toNat > (57 : Int))))).b then
 some [(T.int (0 : Int)), (T.int (0 : Int)), (T.bool false)]
 else
 bif (decide (0 ≤ (1 : Int)) && decide (1 < a0.s.size)) then
 bif (decide (0 ≤ (2 : Int)) && decide (2 < a0.s.size)) then
 some [(T.int (IntKind.wrap .i64 (IntKind.wrap .u8 ((a0.s.data.getD 1 0).toNat - (48 : Int))))), (T.int (IntKind.wrap .i64 (IntKind.wrap .u8 ((a0.s.data.getD 2 0).toNat - (48 : Int))))), (T.bool true)]
 else
 none
 else
 none
 else
 none
 else
 none
 else
 none
 else
 none
 else
 none
 else
 none
 else
 none
 else
 none
 else
 none
 else
 none
 else
 none
 else
 none
 else
 none
 else
 none
 else
 none
 else
 none
 else
 none
 else
 none
 else
 none
 else
 none := by kernel_rfl
theorem q_impl_kindAt (H : List Item → CS → R) (C : CallsE) (a0 : T) : enterE fi_impl_kindAt env H C [a0] = b_impl_kindAt H C a0 := by
 refine (e_impl_kindAt H C a0).trans ?_
 unfold b_impl_kindAt
 all_goals cases hc : (((a0.s.size : Int) != (3 : Int))) with
 | true =>
  try simp only [bs]
  all_goals kernel_rfl
 | false =>
  try simp only [bs]
  all_goals cases hc : ((decide (0 ≤ (0 : Int)) && decide (0 < a0.s.size))) with
  | true =>
   try simp only [bs]
   all_goals cases hc : (((a0.s.data.getD 0 0).toNat != (83 : Int))) with
   | true =>
    try simp only [bs]
    all_goals kernel_rfl
   | false =>
    try simp only [bs]
    all_goals cases hc : ((decide (0 ≤ (1 : Int)) && decide (1 < a0.s.size))) with
    | true =>
     try simp only [bs]
     all_goals cases hc : ((decide ((a0.s.data.getD 1 0).toNat < (48 : Int)))) with
     | true =>
      try simp only [bs]
      all_goals kernel_rfl
     | false =>
      try simp only [bs]
      all_goals cases hc : ((decide ((a0.s.data.getD 1 0).toNat > (57 : Int)))) with
      | true =>
       try simp only [bs]
       all_goals kernel_rfl
      | false =>
       try simp only [bs]
       all_goals cases hc : ((decide (0 ≤ (2 : Int)) && decide (2 < a0.s.size))) with
       | true =>
        try simp only [bs]
        all_goals cases hc : ((decide ((a0.s.data.getD 2 0).toNat < (48 : Int)))) with
        | true =>
         try simp only [bs]
         all_goals kernel_rfl
        | false =>
         try simp only [bs]
         all_goals cases hc : ((decide ((a0.s.data.getD 2 0).toNat > (57 : Int)))) with
         | true =>
          try simp only [bs]
          all_goals kernel_rfl
         | false =>
          try simp only [bs]
          all_goals kernel_rfl
       | false =>
        try simp only [bs]
        all_goals kernel_rfl
    | false =>
     try simp only [bs]
     all_goals kernel_rfl
  | false =>
   try simp only [bs]
   all_goals kernel_rfl
theorem y_impl_kindAt (a0 : T) {r : List T} (h : Yields (fun k => b_impl_kindAt (hl env k fi_impl_kindAt) (cl env k) a0) r) : Yields (fun k => cl env k F_impl_kindAt [a0]) r := Yields.call (fi := fi_impl_kindAt) rfl (fun H C => q_impl_kindAt H C a0) h
/- loop.example/heirlooms/laws.eqRecord -/
noncomputable abbrev b_laws_eqRecord (H : List Item → CS → R) (C : CallsE) (a0 a1 : T) : R :=
 bif ((a0.fld 0).i != (a1.fld 0).i) then
 some [(T.bool false)]
 else
 obind (C F_laws_eqStringS [(a0.fld 1), (a1.fld 1)]) fun r1 =>
 bif (!(rt r1 0).b) then
 some [(T.bool false)]
 else
 some [(T.bool true)]
theorem q_laws_eqRecord (H : List Item → CS → R) (C : CallsE) (a0 a1 : T) : enterE fi_laws_eqRecord env H C [a0, a1] = b_laws_eqRecord H C a0 a1 := by kernel_rfl
theorem y_laws_eqRecord (a0 a1 : T) {r : List T} (h : Yields (fun k => b_laws_eqRecord (hl env k fi_laws_eqRecord) (cl env k) a0 a1) r) : Yields (fun k => cl env k F_laws_eqRecord [a0, a1]) r := Yields.call (fi := fi_laws_eqRecord) rfl (fun H C => q_laws_eqRecord H C a0 a1) h
noncomputable def l_slices_IndexFunc_impl_Kept_0 (H : List Item → CS → R) (x1 : T) (x2 : T) (x3 : T) (x4 : T) : R := H (hdAt fi_slices_IndexFunc_impl_Kept.body 0) ([(0, .val 29 x1), (1, .val 100 x2), (7, .val 3 x3), (8, .val 3 x4)], [])
/- slices.IndexFunc[[]loop.example/heirlooms/impl.Kept,loop.example/heirlooms/impl.Kept] -/
noncomputable abbrev b_slices_IndexFunc_impl_Kept (H : List Item → CS → R) (C : CallsE) (a0 a1 : T) : R :=
 l_slices_IndexFunc_impl_Kept_0 H a0 a1 (T.int (a0.es.length : Int)) (T.int (0 : Int))
theorem q_slices_IndexFunc_impl_Kept (H : List Item → CS → R) (C : CallsE) (a0 a1 : T) : enterE fi_slices_IndexFunc_impl_Kept env H C [a0, a1] = b_slices_IndexFunc_impl_Kept H C a0 a1 := by kernel_rfl
theorem y_slices_IndexFunc_impl_Kept (a0 a1 : T) {r : List T} (h : Yields (fun k => b_slices_IndexFunc_impl_Kept (hl env k fi_slices_IndexFunc_impl_Kept) (cl env k) a0 a1) r) : Yields (fun k => cl env k F_slices_IndexFunc_impl_Kept [a0, a1]) r := Yields.call (fi := fi_slices_IndexFunc_impl_Kept) rfl (fun H C => q_slices_IndexFunc_impl_Kept H C a0 a1) h
noncomputable abbrev b_slices_IndexFunc_impl_Kept_0 (H : List Item → CS → R) (C : CallsE) (x1 : T) (x2 : T) (x3 : T) (x4 : T) : R :=
 bif (decide (x4.i < x3.i)) then
 bif (decide (0 ≤ x4.i) && decide (x4.i.toNat < x1.es.length)) then
 obind (C x2.fid ([(x1.nth x4.i.toNat)] ++ x2.caps)) fun r1 =>
 bif (rt r1 0).b then
 some [x4]
 else
 l_slices_IndexFunc_impl_Kept_0 H x1 x2 x3 (T.int (IntKind.wrap .i64 (x4.i + (1 : Int))))
 else
 none
 else
 some [(T.int (-1 : Int))]
theorem q_slices_IndexFunc_impl_Kept_0 (H : List Item → CS → R) (C : CallsE) (x1 : T) (x2 : T) (x3 : T) (x4 : T) : headE fi_slices_IndexFunc_impl_Kept env H C (hdAt fi_slices_IndexFunc_impl_Kept.body 0) ([(0, .val 29 x1), (1, .val 100 x2), (7, .val 3 x3), (8, .val 3 x4)], []) = b_slices_IndexFunc_impl_Kept_0 H C x1 x2 x3 x4 := by kernel_rfl
end Go.Proofs.Ytmhjjanaackknaa.Ra
