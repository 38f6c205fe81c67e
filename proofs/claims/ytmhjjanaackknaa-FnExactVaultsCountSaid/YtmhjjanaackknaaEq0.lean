/- Each function as a readable term. Written by gen.py. -/
import Derived.Test.YtmhjjanaackknaaTab
set_option linter.unusedSimpArgs false
set_option linter.unusedVariables false
namespace Go.Proofs.Ytmhjjanaackknaa.Ra
open Go
abbrev F_laws_FnExactVaultsCount : Nat := 3
abbrev F_laws_szRecordSS : Nat := 8
abbrev F_laws_szKeptS : Nat := 9
abbrev F_spec_VaultsCount : Nat := 10
abbrev F_laws_toRecordSS : Nat := 11
abbrev F_laws_toKeptS : Nat := 12
abbrev F_impl_VaultsCount : Nat := 13
abbrev F_laws_eqRecordSS : Nat := 14
abbrev F_laws_eqKeptS : Nat := 15
abbrev F_laws_eqValue : Nat := 18
abbrev F_laws_szValue : Nat := 23
abbrev F_laws_toValue : Nat := 25
abbrev F_laws_szRecordS : Nat := 32
abbrev F_laws_szKept : Nat := 33
abbrev F_spec_l1Kind : Nat := 34
abbrev F_spec_VaultsOk : Nat := 35
abbrev F_spec_l1Plain : Nat := 36
abbrev F_spec_l2Count : Nat := 37
abbrev F_laws_toRecordS : Nat := 38
abbrev F_laws_toKept : Nat := 39
abbrev F_impl_VaultsOk : Nat := 40
abbrev F_impl_kindIn : Nat := 41
abbrev F_impl_countIn : Nat := 42
abbrev F_laws_eqRecordS : Nat := 43
abbrev F_laws_eqKept : Nat := 44
abbrev F_laws_eqValueS : Nat := 49
abbrev F_laws_eqIntS : Nat := 50
abbrev F_laws_szValueS : Nat := 57
abbrev F_laws_szIntS : Nat := 58
abbrev F_spec_l9Kind : Nat := 59
abbrev F_laws_toValueS : Nat := 61
abbrev F_laws_toIntS : Nat := 62
abbrev F_impl_keepable : Nat := 63
abbrev F_spec_l6In : Nat := 66
abbrev F_laws_szRecord : Nat := 69
abbrev F_spec_KindsOk : Nat := 70
abbrev F_spec_l9Ok : Nat := 71
abbrev F_spec_l1Base : Nat := 72
abbrev F_spec_l1Has : Nat := 73
abbrev F_laws_toRecord : Nat := 74
abbrev F_impl_KindsOk : Nat := 75
abbrev F_impl_vaultBefore : Nat := 76
abbrev F_impl_kindAt : Nat := 77
abbrev F_laws_eqRecord : Nat := 78
abbrev F_spec_l2Ok : Nat := 84
abbrev F_spec_l1Can : Nat := 85
abbrev F_spec_l1Able : Nat := 86
abbrev F_impl_recordOf : Nat := 87
abbrev F_impl_valueFits : Nat := 88
abbrev F_laws_szStringS : Nat := 90
abbrev F_spec_KindsBad : Nat := 91
abbrev F_laws_toStringS : Nat := 92
abbrev F_impl_KindsBad : Nat := 93
abbrev F_laws_eqStringS : Nat := 94
abbrev F_spec_l2Plain : Nat := 96
abbrev F_spec_l1Ref : Nat := 97
abbrev F_impl_plainOk : Nat := 98
abbrev F_spec_l1Record : Nat := 99
abbrev F_impl_recordOk : Nat := 100
abbrev F_spec_l1Field : Nat := 101
abbrev F_impl_ableOf : Nat := 102
abbrev F_impl_signOf : Nat := 103
/- loop.example/heirlooms/laws.FnExactVaultsCount -/
theorem q_laws_FnExactVaultsCount (H : List Item → CS → R) (C : CallsE) (a0 a1 a2 : T) : enterE fi_laws_FnExactVaultsCount env H C [a0, a1, a2] =
  bif (decide ((a2.s.size : Int) > (1048576 : Int))) then
    some [(T.bool true)]
  else
    obind (C F_laws_szRecordSS [a0, (T.int (1048576 : Int))]) fun r1 =>
    bif (decide ((rt r1 0).i < (0 : Int))) then
      some [(T.bool true)]
    else
      obind (C F_laws_szKeptS [a1, (rt r1 0)]) fun r2 =>
      bif (decide ((rt r2 0).i < (0 : Int))) then
        some [(T.bool true)]
      else
        obind (C F_laws_toRecordSS [a0]) fun r3 =>
        obind (C F_laws_toKeptS [a1]) fun r4 =>
        obind (C F_spec_VaultsCount [(rt r3 0), (rt r4 0), a2]) fun r5 =>
        obind (C F_laws_toRecordSS [a0]) fun r6 =>
        obind (C F_laws_toKeptS [a1]) fun r7 =>
        obind (C F_impl_VaultsCount [(rt r6 0), (rt r7 0), a2]) fun r8 =>
        bif ((rt r8 0).i != (rt r5 0).i) then
          some [(T.bool false)]
        else
          obind (C F_laws_toRecordSS [a0]) fun r9 =>
          obind (C F_laws_eqRecordSS [(rt r6 0), (rt r9 0)]) fun r10 =>
          bif (!(rt r10 0).b) then
            some [(T.bool false)]
          else
            obind (C F_laws_toKeptS [a1]) fun r11 =>
            obind (C F_laws_eqKeptS [(rt r7 0), (rt r11 0)]) fun r12 =>
            bif (!(rt r12 0).b) then
              some [(T.bool false)]
            else
              some [(T.bool true)] := by kernel_rfl
theorem y_laws_FnExactVaultsCount (a0 a1 a2 : T) {r : List T} (h : Yields (fun k =>
  bif (decide ((a2.s.size : Int) > (1048576 : Int))) then
    some [(T.bool true)]
  else
    obind (cl env k F_laws_szRecordSS [a0, (T.int (1048576 : Int))]) fun r1 =>
    bif (decide ((rt r1 0).i < (0 : Int))) then
      some [(T.bool true)]
    else
      obind (cl env k F_laws_szKeptS [a1, (rt r1 0)]) fun r2 =>
      bif (decide ((rt r2 0).i < (0 : Int))) then
        some [(T.bool true)]
      else
        obind (cl env k F_laws_toRecordSS [a0]) fun r3 =>
        obind (cl env k F_laws_toKeptS [a1]) fun r4 =>
        obind (cl env k F_spec_VaultsCount [(rt r3 0), (rt r4 0), a2]) fun r5 =>
        obind (cl env k F_laws_toRecordSS [a0]) fun r6 =>
        obind (cl env k F_laws_toKeptS [a1]) fun r7 =>
        obind (cl env k F_impl_VaultsCount [(rt r6 0), (rt r7 0), a2]) fun r8 =>
        bif ((rt r8 0).i != (rt r5 0).i) then
          some [(T.bool false)]
        else
          obind (cl env k F_laws_toRecordSS [a0]) fun r9 =>
          obind (cl env k F_laws_eqRecordSS [(rt r6 0), (rt r9 0)]) fun r10 =>
          bif (!(rt r10 0).b) then
            some [(T.bool false)]
          else
            obind (cl env k F_laws_toKeptS [a1]) fun r11 =>
            obind (cl env k F_laws_eqKeptS [(rt r7 0), (rt r11 0)]) fun r12 =>
            bif (!(rt r12 0).b) then
              some [(T.bool false)]
            else
              some [(T.bool true)]) r) : Yields (fun k => cl env k F_laws_FnExactVaultsCount [a0, a1, a2]) r := Yields.call (fi := fi_laws_FnExactVaultsCount) rfl (fun H C => q_laws_FnExactVaultsCount H C a0 a1 a2) h
noncomputable def l_laws_szRecordSS_0 (H : List Item → CS → R) (x1 : T) (x2 : T) (x3 : T) : R := H (hdAt fi_laws_szRecordSS.body 0) ([(0, .val 22 x1), (1, .val 3 x2), (5, .val 3 x3)], [])
/- loop.example/heirlooms/laws.szRecordSS -/
theorem q_laws_szRecordSS (H : List Item → CS → R) (C : CallsE) (a0 a1 : T) : enterE fi_laws_szRecordSS env H C [a0, a1] =
  bif (decide ((IntKind.wrap .i64 (a1.i - (a0.es.length : Int))) < (0 : Int))) then
    some [(T.int (-1 : Int))]
  else
    l_laws_szRecordSS_0 H a0 (T.int (IntKind.wrap .i64 (a1.i - (a0.es.length : Int)))) (T.int (0 : Int)) := by kernel_rfl
theorem y_laws_szRecordSS (a0 a1 : T) {r : List T} (h : Yields (fun k =>
  bif (decide ((IntKind.wrap .i64 (a1.i - (a0.es.length : Int))) < (0 : Int))) then
    some [(T.int (-1 : Int))]
  else
    l_laws_szRecordSS_0 (hl env k fi_laws_szRecordSS) a0 (T.int (IntKind.wrap .i64 (a1.i - (a0.es.length : Int)))) (T.int (0 : Int))) r) : Yields (fun k => cl env k F_laws_szRecordSS [a0, a1]) r := Yields.call (fi := fi_laws_szRecordSS) rfl (fun H C => q_laws_szRecordSS H C a0 a1) h
theorem q_laws_szRecordSS_0 (H : List Item → CS → R) (C : CallsE) (x1 : T) (x2 : T) (x3 : T) : headE fi_laws_szRecordSS env H C (hdAt fi_laws_szRecordSS.body 0) ([(0, .val 22 x1), (1, .val 3 x2), (5, .val 3 x3)], []) =
  bif (decide (x3.i < (x1.es.length : Int))) then
    bif (decide (0 ≤ x3.i) && decide (x3.i.toNat < x1.es.length)) then
      obind (C F_laws_szRecordS [(x1.nth x3.i.toNat), x2]) fun r1 =>
      bif (decide ((rt r1 0).i < (0 : Int))) then
        some [(T.int (-1 : Int))]
      else
        l_laws_szRecordSS_0 H x1 (rt r1 0) (T.int (IntKind.wrap .i64 (x3.i + (1 : Int))))
    else
      none
  else
    some [x2] := by kernel_rfl
theorem y_laws_szRecordSS_0 (x1 : T) (x2 : T) (x3 : T) {r : List T} (h : Yields (fun k =>
  bif (decide (x3.i < (x1.es.length : Int))) then
    bif (decide (0 ≤ x3.i) && decide (x3.i.toNat < x1.es.length)) then
      obind (cl env k F_laws_szRecordS [(x1.nth x3.i.toNat), x2]) fun r1 =>
      bif (decide ((rt r1 0).i < (0 : Int))) then
        some [(T.int (-1 : Int))]
      else
        l_laws_szRecordSS_0 (hl env k fi_laws_szRecordSS) x1 (rt r1 0) (T.int (IntKind.wrap .i64 (x3.i + (1 : Int))))
    else
      none
  else
    some [x2]) r) : Yields (fun k => l_laws_szRecordSS_0 (hl env k fi_laws_szRecordSS) x1 x2 x3) r := Yields.head (fun H C => q_laws_szRecordSS_0 H C x1 x2 x3) h
noncomputable def l_laws_szKeptS_0 (H : List Item → CS → R) (x1 : T) (x2 : T) (x3 : T) : R := H (hdAt fi_laws_szKeptS.body 0) ([(0, .val 23 x1), (1, .val 3 x2), (5, .val 3 x3)], [])
/- loop.example/heirlooms/laws.szKeptS -/
theorem q_laws_szKeptS (H : List Item → CS → R) (C : CallsE) (a0 a1 : T) : enterE fi_laws_szKeptS env H C [a0, a1] =
  bif (decide ((IntKind.wrap .i64 (a1.i - (a0.es.length : Int))) < (0 : Int))) then
    some [(T.int (-1 : Int))]
  else
    l_laws_szKeptS_0 H a0 (T.int (IntKind.wrap .i64 (a1.i - (a0.es.length : Int)))) (T.int (0 : Int)) := by kernel_rfl
theorem y_laws_szKeptS (a0 a1 : T) {r : List T} (h : Yields (fun k =>
  bif (decide ((IntKind.wrap .i64 (a1.i - (a0.es.length : Int))) < (0 : Int))) then
    some [(T.int (-1 : Int))]
  else
    l_laws_szKeptS_0 (hl env k fi_laws_szKeptS) a0 (T.int (IntKind.wrap .i64 (a1.i - (a0.es.length : Int)))) (T.int (0 : Int))) r) : Yields (fun k => cl env k F_laws_szKeptS [a0, a1]) r := Yields.call (fi := fi_laws_szKeptS) rfl (fun H C => q_laws_szKeptS H C a0 a1) h
theorem q_laws_szKeptS_0 (H : List Item → CS → R) (C : CallsE) (x1 : T) (x2 : T) (x3 : T) : headE fi_laws_szKeptS env H C (hdAt fi_laws_szKeptS.body 0) ([(0, .val 23 x1), (1, .val 3 x2), (5, .val 3 x3)], []) =
  bif (decide (x3.i < (x1.es.length : Int))) then
    bif (decide (0 ≤ x3.i) && decide (x3.i.toNat < x1.es.length)) then
      obind (C F_laws_szKept [(x1.nth x3.i.toNat), x2]) fun r1 =>
      bif (decide ((rt r1 0).i < (0 : Int))) then
        some [(T.int (-1 : Int))]
      else
        l_laws_szKeptS_0 H x1 (rt r1 0) (T.int (IntKind.wrap .i64 (x3.i + (1 : Int))))
    else
      none
  else
    some [x2] := by kernel_rfl
theorem y_laws_szKeptS_0 (x1 : T) (x2 : T) (x3 : T) {r : List T} (h : Yields (fun k =>
  bif (decide (x3.i < (x1.es.length : Int))) then
    bif (decide (0 ≤ x3.i) && decide (x3.i.toNat < x1.es.length)) then
      obind (cl env k F_laws_szKept [(x1.nth x3.i.toNat), x2]) fun r1 =>
      bif (decide ((rt r1 0).i < (0 : Int))) then
        some [(T.int (-1 : Int))]
      else
        l_laws_szKeptS_0 (hl env k fi_laws_szKeptS) x1 (rt r1 0) (T.int (IntKind.wrap .i64 (x3.i + (1 : Int))))
    else
      none
  else
    some [x2]) r) : Yields (fun k => l_laws_szKeptS_0 (hl env k fi_laws_szKeptS) x1 x2 x3) r := Yields.head (fun H C => q_laws_szKeptS_0 H C x1 x2 x3) h
noncomputable def l_spec_VaultsCount_0 (H : List Item → CS → R) (x1 : T) (x2 : T) (x3 : T) (x4 : T) : R := H (hdAt fi_spec_VaultsCount.body 0) ([(1, .val 29 x1), (2, .val 9 x2), (10, .val 3 x3), (11, .val 3 x4)], [])
/- loop.example/heirlooms/spec.VaultsCount -/
theorem e_spec_VaultsCount (H : List Item → CS → R) (C : CallsE) (a0 a1 a2 : T) : enterE fi_spec_VaultsCount env H C [a0, a1, a2] =
  obind (C F_spec_l1Kind [a2]) fun r1 =>
  obind (C F_spec_VaultsOk [a0, a1]) fun r2 =>
  bif ((!((!(rt r2 0).b) == false)) || true) then
    bif ((!((!(rt r2 0).b) == false)) || ((!(rt r2 0).b) == false)) then
      bif (bif (!(rt r2 0).b) then true else ((!(rt r2 0).b) == false)) then
        bif ((!((bif (!(rt r2 0).b) then (T.bool true) else (T.bool (!(rt r1 2).b))).b == false)) || true) then
          bif ((!((bif (!(rt r2 0).b) then (T.bool true) else (T.bool (!(rt r1 2).b))).b == false)) || true) then
            bif ((!((bif (!(rt r2 0).b) then (T.bool true) else (T.bool (!(rt r1 2).b))).b == false)) || (((bif (!(rt r2 0).b) then (T.bool true) else (T.bool (!(rt r1 2).b))).b == false) && (((bif (!(rt r2 0).b) then (T.bool true) else (T.bool (!(rt r1 2).b))).b == false) && true))) then
              obind ((bif ((bif (!(rt r2 0).b) then (T.bool true) else (T.bool (!(rt r1 2).b))).b == false) then C F_spec_l1Plain [a0, a2] else some [])) fun r3 =>
              bif ((!((bif (!(rt r2 0).b) then (T.bool true) else (T.bool (!(rt r1 2).b))).b == false)) || ((bif (!(rt r2 0).b) then (T.bool true) else (T.bool (!(rt r1 2).b))).b == false)) then
                bif (bif (bif (!(rt r2 0).b) then (T.bool true) else (T.bool (!(rt r1 2).b))).b then true else ((bif (!(rt r2 0).b) then (T.bool true) else (T.bool (!(rt r1 2).b))).b == false)) then
                  bif (bif (bif (!(rt r2 0).b) then (T.bool true) else (T.bool (!(rt r1 2).b))).b then (T.bool true) else (T.bool (!(rt r3 0).b))).b then
                    some [(T.int (-1 : Int))]
                  else
                    l_spec_VaultsCount_0 H a1 a2 (T.int (0 : Int)) (T.int (0 : Int))
                else
                  none
              else
                none
            else
              none
          else
            none
        else
          none
      else
        none
    else
      none
  else
    none := by kernel_rfl
theorem q_spec_VaultsCount (H : List Item → CS → R) (C : CallsE) (a0 a1 a2 : T) : enterE fi_spec_VaultsCount env H C [a0, a1, a2] =
  obind (C F_spec_l1Kind [a2]) fun r1 =>
  obind (C F_spec_VaultsOk [a0, a1]) fun r2 =>
  bif (!(rt r2 0).b) then
    some [(T.int (-1 : Int))]
  else
    bif (!(rt r1 2).b) then
      some [(T.int (-1 : Int))]
    else
      obind (C F_spec_l1Plain [a0, a2]) fun r3 =>
      bif (!(rt r3 0).b) then
        some [(T.int (-1 : Int))]
      else
        l_spec_VaultsCount_0 H a1 a2 (T.int (0 : Int)) (T.int (0 : Int)) := by
  rw [e_spec_VaultsCount H C a0 a1 a2]
  all_goals refine obind_congr fun r1 => ?_
  all_goals try simp only [obind_some, cond_true, cond_false, tb_bool, beq_tt, beq_ft, beq_tf, beq_ff, Bool.not_true, Bool.not_false, Bool.true_and, Bool.false_and, Bool.true_or, Bool.false_or]
  all_goals refine obind_congr fun r2 => ?_
  all_goals try simp only [obind_some, cond_true, cond_false, tb_bool, beq_tt, beq_ft, beq_tf, beq_ff, Bool.not_true, Bool.not_false, Bool.true_and, Bool.false_and, Bool.true_or, Bool.false_or]
  all_goals cases hc : ((!(rt r2 0).b)) with
  | true =>
    try simp only [obind_some, cond_true, cond_false, tb_bool, beq_tt, beq_ft, beq_tf, beq_ff, Bool.not_true, Bool.not_false, Bool.true_and, Bool.false_and, Bool.true_or, Bool.false_or]
    all_goals kernel_rfl
  | false =>
    try simp only [obind_some, cond_true, cond_false, tb_bool, beq_tt, beq_ft, beq_tf, beq_ff, Bool.not_true, Bool.not_false, Bool.true_and, Bool.false_and, Bool.true_or, Bool.false_or]
    all_goals cases hc : ((!(rt r1 2).b)) with
    | true =>
      try simp only [obind_some, cond_true, cond_false, tb_bool, beq_tt, beq_ft, beq_tf, beq_ff, Bool.not_true, Bool.not_false, Bool.true_and, Bool.false_and, Bool.true_or, Bool.false_or]
      all_goals kernel_rfl
    | false =>
      try simp only [obind_some, cond_true, cond_false, tb_bool, beq_tt, beq_ft, beq_tf, beq_ff, Bool.not_true, Bool.not_false, Bool.true_and, Bool.false_and, Bool.true_or, Bool.false_or]
      all_goals refine obind_congr fun r3 => ?_
      all_goals try simp only [obind_some, cond_true, cond_false, tb_bool, beq_tt, beq_ft, beq_tf, beq_ff, Bool.not_true, Bool.not_false, Bool.true_and, Bool.false_and, Bool.true_or, Bool.false_or]
      all_goals cases hc : ((!(rt r3 0).b)) with
      | true =>
        try simp only [obind_some, cond_true, cond_false, tb_bool, beq_tt, beq_ft, beq_tf, beq_ff, Bool.not_true, Bool.not_false, Bool.true_and, Bool.false_and, Bool.true_or, Bool.false_or]
        all_goals kernel_rfl
      | false =>
        try simp only [obind_some, cond_true, cond_false, tb_bool, beq_tt, beq_ft, beq_tf, beq_ff, Bool.not_true, Bool.not_false, Bool.true_and, Bool.false_and, Bool.true_or, Bool.false_or]
        all_goals kernel_rfl
theorem y_spec_VaultsCount (a0 a1 a2 : T) {r : List T} (h : Yields (fun k =>
  obind (cl env k F_spec_l1Kind [a2]) fun r1 =>
  obind (cl env k F_spec_VaultsOk [a0, a1]) fun r2 =>
  bif (!(rt r2 0).b) then
    some [(T.int (-1 : Int))]
  else
    bif (!(rt r1 2).b) then
      some [(T.int (-1 : Int))]
    else
      obind (cl env k F_spec_l1Plain [a0, a2]) fun r3 =>
      bif (!(rt r3 0).b) then
        some [(T.int (-1 : Int))]
      else
        l_spec_VaultsCount_0 (hl env k fi_spec_VaultsCount) a1 a2 (T.int (0 : Int)) (T.int (0 : Int))) r) : Yields (fun k => cl env k F_spec_VaultsCount [a0, a1, a2]) r := Yields.call (fi := fi_spec_VaultsCount) rfl (fun H C => q_spec_VaultsCount H C a0 a1 a2) h
theorem q_spec_VaultsCount_0 (H : List Item → CS → R) (C : CallsE) (x1 : T) (x2 : T) (x3 : T) (x4 : T) : headE fi_spec_VaultsCount env H C (hdAt fi_spec_VaultsCount.body 0) ([(1, .val 29 x1), (2, .val 9 x2), (10, .val 3 x3), (11, .val 3 x4)], []) =
  bif (decide (x4.i < (x1.es.length : Int))) then
    bif (decide (0 ≤ x4.i) && decide (x4.i.toNat < x1.es.length)) then
      obind (C F_spec_l2Count [((x1.nth x4.i.toNat).fld 1), x2]) fun r1 =>
      l_spec_VaultsCount_0 H x1 x2 (T.int (IntKind.wrap .i64 (x3.i + (rt r1 0).i))) (T.int (IntKind.wrap .i64 (x4.i + (1 : Int))))
    else
      none
  else
    some [x3] := by kernel_rfl
theorem y_spec_VaultsCount_0 (x1 : T) (x2 : T) (x3 : T) (x4 : T) {r : List T} (h : Yields (fun k =>
  bif (decide (x4.i < (x1.es.length : Int))) then
    bif (decide (0 ≤ x4.i) && decide (x4.i.toNat < x1.es.length)) then
      obind (cl env k F_spec_l2Count [((x1.nth x4.i.toNat).fld 1), x2]) fun r1 =>
      l_spec_VaultsCount_0 (hl env k fi_spec_VaultsCount) x1 x2 (T.int (IntKind.wrap .i64 (x3.i + (rt r1 0).i))) (T.int (IntKind.wrap .i64 (x4.i + (1 : Int))))
    else
      none
  else
    some [x3]) r) : Yields (fun k => l_spec_VaultsCount_0 (hl env k fi_spec_VaultsCount) x1 x2 x3 x4) r := Yields.head (fun H C => q_spec_VaultsCount_0 H C x1 x2 x3 x4) h
noncomputable def l_laws_toRecordSS_0 (H : List Item → CS → R) (x1 : T) (x2 : T) (x3 : T) : R := H (hdAt fi_laws_toRecordSS.body 0) ([(0, .val 22 x1), (3, .sref 27 3 []), (4, .val 3 x2)], [(3, ⟨27, x3, .dp, false⟩)])
/- loop.example/heirlooms/laws.toRecordSS -/
theorem q_laws_toRecordSS (H : List Item → CS → R) (C : CallsE) (a0 : T) : enterE fi_laws_toRecordSS env H C [a0] =
  bif (decide (0 ≤ (a0.es.length : Int)) && (decide ((a0.es.length : Int) ≤ (a0.es.length : Int)) && decide (a0.es.length ≤ LIM))) then
    l_laws_toRecordSS_0 H a0 (T.int (0 : Int)) (T.sl (List.replicate a0.es.length (T.sl [])))
  else
    none := by kernel_rfl
theorem y_laws_toRecordSS (a0 : T) {r : List T} (h : Yields (fun k =>
  bif (decide (0 ≤ (a0.es.length : Int)) && (decide ((a0.es.length : Int) ≤ (a0.es.length : Int)) && decide (a0.es.length ≤ LIM))) then
    l_laws_toRecordSS_0 (hl env k fi_laws_toRecordSS) a0 (T.int (0 : Int)) (T.sl (List.replicate a0.es.length (T.sl [])))
  else
    none) r) : Yields (fun k => cl env k F_laws_toRecordSS [a0]) r := Yields.call (fi := fi_laws_toRecordSS) rfl (fun H C => q_laws_toRecordSS H C a0) h
theorem q_laws_toRecordSS_0 (H : List Item → CS → R) (C : CallsE) (x1 : T) (x2 : T) (x3 : T) : headE fi_laws_toRecordSS env H C (hdAt fi_laws_toRecordSS.body 0) ([(0, .val 22 x1), (3, .sref 27 3 []), (4, .val 3 x2)], [(3, ⟨27, x3, .dp, false⟩)]) =
  bif (decide (x2.i < (x1.es.length : Int))) then
    bif (decide (0 ≤ x2.i) && decide (x2.i.toNat < x1.es.length)) then
      obind (C F_laws_toRecordS [(x1.nth x2.i.toNat)]) fun r1 =>
      bif (decide (0 ≤ x2.i) && decide (x2.i.toNat < x3.es.length)) then
        l_laws_toRecordSS_0 H x1 (T.int (IntKind.wrap .i64 (x2.i + (1 : Int)))) (T.sl (x3.es.set x2.i.toNat (rt r1 0)))
      else
        none
    else
      none
  else
    some [x3] := by kernel_rfl
theorem y_laws_toRecordSS_0 (x1 : T) (x2 : T) (x3 : T) {r : List T} (h : Yields (fun k =>
  bif (decide (x2.i < (x1.es.length : Int))) then
    bif (decide (0 ≤ x2.i) && decide (x2.i.toNat < x1.es.length)) then
      obind (cl env k F_laws_toRecordS [(x1.nth x2.i.toNat)]) fun r1 =>
      bif (decide (0 ≤ x2.i) && decide (x2.i.toNat < x3.es.length)) then
        l_laws_toRecordSS_0 (hl env k fi_laws_toRecordSS) x1 (T.int (IntKind.wrap .i64 (x2.i + (1 : Int)))) (T.sl (x3.es.set x2.i.toNat (rt r1 0)))
      else
        none
    else
      none
  else
    some [x3]) r) : Yields (fun k => l_laws_toRecordSS_0 (hl env k fi_laws_toRecordSS) x1 x2 x3) r := Yields.head (fun H C => q_laws_toRecordSS_0 H C x1 x2 x3) h
noncomputable def l_laws_toKeptS_0 (H : List Item → CS → R) (x1 : T) (x2 : T) (x3 : T) : R := H (hdAt fi_laws_toKeptS.body 0) ([(0, .val 23 x1), (3, .sref 29 3 []), (4, .val 3 x2)], [(3, ⟨29, x3, .dp, false⟩)])
/- loop.example/heirlooms/laws.toKeptS -/
theorem q_laws_toKeptS (H : List Item → CS → R) (C : CallsE) (a0 : T) : enterE fi_laws_toKeptS env H C [a0] =
  bif (decide (0 ≤ (a0.es.length : Int)) && (decide ((a0.es.length : Int) ≤ (a0.es.length : Int)) && decide (a0.es.length ≤ LIM))) then
    l_laws_toKeptS_0 H a0 (T.int (0 : Int)) (T.sl (List.replicate a0.es.length (T.st [(T.int (0 : Int)), (T.st [(T.str (⟨#[]⟩ : ByteArray)), (T.int (0 : Int)), (T.sl []), (T.sl [])])])))
  else
    none := by kernel_rfl
theorem y_laws_toKeptS (a0 : T) {r : List T} (h : Yields (fun k =>
  bif (decide (0 ≤ (a0.es.length : Int)) && (decide ((a0.es.length : Int) ≤ (a0.es.length : Int)) && decide (a0.es.length ≤ LIM))) then
    l_laws_toKeptS_0 (hl env k fi_laws_toKeptS) a0 (T.int (0 : Int)) (T.sl (List.replicate a0.es.length (T.st [(T.int (0 : Int)), (T.st [(T.str (⟨#[]⟩ : ByteArray)), (T.int (0 : Int)), (T.sl []), (T.sl [])])])))
  else
    none) r) : Yields (fun k => cl env k F_laws_toKeptS [a0]) r := Yields.call (fi := fi_laws_toKeptS) rfl (fun H C => q_laws_toKeptS H C a0) h
theorem q_laws_toKeptS_0 (H : List Item → CS → R) (C : CallsE) (x1 : T) (x2 : T) (x3 : T) : headE fi_laws_toKeptS env H C (hdAt fi_laws_toKeptS.body 0) ([(0, .val 23 x1), (3, .sref 29 3 []), (4, .val 3 x2)], [(3, ⟨29, x3, .dp, false⟩)]) =
  bif (decide (x2.i < (x1.es.length : Int))) then
    bif (decide (0 ≤ x2.i) && decide (x2.i.toNat < x1.es.length)) then
      obind (C F_laws_toKept [(x1.nth x2.i.toNat)]) fun r1 =>
      bif (decide (0 ≤ x2.i) && decide (x2.i.toNat < x3.es.length)) then
        l_laws_toKeptS_0 H x1 (T.int (IntKind.wrap .i64 (x2.i + (1 : Int)))) (T.sl (x3.es.set x2.i.toNat (T.st [((rt r1 0).fld 0), (T.st [(((rt r1 0).fld 1).fld 0), (((rt r1 0).fld 1).fld 1), (((rt r1 0).fld 1).fld 2), (((rt r1 0).fld 1).fld 3)])])))
      else
        none
    else
      none
  else
    some [x3] := by kernel_rfl
theorem y_laws_toKeptS_0 (x1 : T) (x2 : T) (x3 : T) {r : List T} (h : Yields (fun k =>
  bif (decide (x2.i < (x1.es.length : Int))) then
    bif (decide (0 ≤ x2.i) && decide (x2.i.toNat < x1.es.length)) then
      obind (cl env k F_laws_toKept [(x1.nth x2.i.toNat)]) fun r1 =>
      bif (decide (0 ≤ x2.i) && decide (x2.i.toNat < x3.es.length)) then
        l_laws_toKeptS_0 (hl env k fi_laws_toKeptS) x1 (T.int (IntKind.wrap .i64 (x2.i + (1 : Int)))) (T.sl (x3.es.set x2.i.toNat (T.st [((rt r1 0).fld 0), (T.st [(((rt r1 0).fld 1).fld 0), (((rt r1 0).fld 1).fld 1), (((rt r1 0).fld 1).fld 2), (((rt r1 0).fld 1).fld 3)])])))
      else
        none
    else
      none
  else
    some [x3]) r) : Yields (fun k => l_laws_toKeptS_0 (hl env k fi_laws_toKeptS) x1 x2 x3) r := Yields.head (fun H C => q_laws_toKeptS_0 H C x1 x2 x3) h
noncomputable def l_impl_VaultsCount_0 (H : List Item → CS → R) (x1 : T) (x2 : T) (x3 : T) (x4 : T) (x5 : T) : R := H (hdAt fi_impl_VaultsCount.body 0) ([(2, .val 9 x1), (7, .val 3 x2), (20, .val 29 x3), (21, .val 3 x4), (22, .val 3 x5)], [])
/- loop.example/heirlooms/impl.VaultsCount -/
theorem e_impl_VaultsCount (H : List Item → CS → R) (C : CallsE) (a0 a1 a2 : T) : enterE fi_impl_VaultsCount env H C [a0, a1, a2] =
  obind (C F_impl_VaultsOk [a0, a1]) fun r1 =>
  bif ((!((!(rt r1 0).b) == false)) || true) then
    bif ((!((!(rt r1 0).b) == false)) || true) then
      bif ((!((!(rt r1 0).b) == false)) || (((!(rt r1 0).b) == false) && (((!(rt r1 0).b) == false) && true))) then
        obind ((bif ((!(rt r1 0).b) == false) then C F_impl_kindIn [a0, a2] else some [])) fun r2 =>
        bif ((!((!(rt r1 0).b) == false)) || ((!(rt r1 0).b) == false)) then
          bif (bif (!(rt r1 0).b) then true else ((!(rt r1 0).b) == false)) then
            bif (bif (!(rt r1 0).b) then (T.bool true) else (T.bool (!(rt r2 0).b))).b then
              some [(T.int (-1 : Int))]
            else
              l_impl_VaultsCount_0 H a2 (T.int (0 : Int)) a1 (T.int (a1.es.length : Int)) (T.int (0 : Int))
          else
            none
        else
          none
      else
        none
    else
      none
  else
    none := by kernel_rfl
theorem q_impl_VaultsCount (H : List Item → CS → R) (C : CallsE) (a0 a1 a2 : T) : enterE fi_impl_VaultsCount env H C [a0, a1, a2] =
  obind (C F_impl_VaultsOk [a0, a1]) fun r1 =>
  bif (!(rt r1 0).b) then
    some [(T.int (-1 : Int))]
  else
    obind (C F_impl_kindIn [a0, a2]) fun r2 =>
    bif (!(rt r2 0).b) then
      some [(T.int (-1 : Int))]
    else
      l_impl_VaultsCount_0 H a2 (T.int (0 : Int)) a1 (T.int (a1.es.length : Int)) (T.int (0 : Int)) := by
  rw [e_impl_VaultsCount H C a0 a1 a2]
  all_goals refine obind_congr fun r1 => ?_
  all_goals try simp only [obind_some, cond_true, cond_false, tb_bool, beq_tt, beq_ft, beq_tf, beq_ff, Bool.not_true, Bool.not_false, Bool.true_and, Bool.false_and, Bool.true_or, Bool.false_or]
  all_goals cases hc : ((!(rt r1 0).b)) with
  | true =>
    try simp only [obind_some, cond_true, cond_false, tb_bool, beq_tt, beq_ft, beq_tf, beq_ff, Bool.not_true, Bool.not_false, Bool.true_and, Bool.false_and, Bool.true_or, Bool.false_or]
    all_goals kernel_rfl
  | false =>
    try simp only [obind_some, cond_true, cond_false, tb_bool, beq_tt, beq_ft, beq_tf, beq_ff, Bool.not_true, Bool.not_false, Bool.true_and, Bool.false_and, Bool.true_or, Bool.false_or]
    all_goals refine obind_congr fun r2 => ?_
    all_goals try simp only [obind_some, cond_true, cond_false, tb_bool, beq_tt, beq_ft, beq_tf, beq_ff, Bool.not_true, Bool.not_false, Bool.true_and, Bool.false_and, Bool.true_or, Bool.false_or]
    all_goals cases hc : ((!(rt r2 0).b)) with
    | true =>
      try simp only [obind_some, cond_true, cond_false, tb_bool, beq_tt, beq_ft, beq_tf, beq_ff, Bool.not_true, Bool.not_false, Bool.true_and, Bool.false_and, Bool.true_or, Bool.false_or]
      all_goals kernel_rfl
    | false =>
      try simp only [obind_some, cond_true, cond_false, tb_bool, beq_tt, beq_ft, beq_tf, beq_ff, Bool.not_true, Bool.not_false, Bool.true_and, Bool.false_and, Bool.true_or, Bool.false_or]
      all_goals kernel_rfl
theorem y_impl_VaultsCount (a0 a1 a2 : T) {r : List T} (h : Yields (fun k =>
  obind (cl env k F_impl_VaultsOk [a0, a1]) fun r1 =>
  bif (!(rt r1 0).b) then
    some [(T.int (-1 : Int))]
  else
    obind (cl env k F_impl_kindIn [a0, a2]) fun r2 =>
    bif (!(rt r2 0).b) then
      some [(T.int (-1 : Int))]
    else
      l_impl_VaultsCount_0 (hl env k fi_impl_VaultsCount) a2 (T.int (0 : Int)) a1 (T.int (a1.es.length : Int)) (T.int (0 : Int))) r) : Yields (fun k => cl env k F_impl_VaultsCount [a0, a1, a2]) r := Yields.call (fi := fi_impl_VaultsCount) rfl (fun H C => q_impl_VaultsCount H C a0 a1 a2) h
theorem q_impl_VaultsCount_0 (H : List Item → CS → R) (C : CallsE) (x1 : T) (x2 : T) (x3 : T) (x4 : T) (x5 : T) : headE fi_impl_VaultsCount env H C (hdAt fi_impl_VaultsCount.body 0) ([(2, .val 9 x1), (7, .val 3 x2), (20, .val 29 x3), (21, .val 3 x4), (22, .val 3 x5)], []) =
  bif (decide (x5.i < x4.i)) then
    bif (decide (0 ≤ x5.i) && decide (x5.i.toNat < x3.es.length)) then
      obind (C F_impl_countIn [((x3.nth x5.i.toNat).fld 1), x1]) fun r1 =>
      l_impl_VaultsCount_0 H x1 (T.int (IntKind.wrap .i64 (x2.i + (rt r1 0).i))) x3 x4 (T.int (IntKind.wrap .i64 (x5.i + (1 : Int))))
    else
      none
  else
    some [x2] := by kernel_rfl
theorem y_impl_VaultsCount_0 (x1 : T) (x2 : T) (x3 : T) (x4 : T) (x5 : T) {r : List T} (h : Yields (fun k =>
  bif (decide (x5.i < x4.i)) then
    bif (decide (0 ≤ x5.i) && decide (x5.i.toNat < x3.es.length)) then
      obind (cl env k F_impl_countIn [((x3.nth x5.i.toNat).fld 1), x1]) fun r1 =>
      l_impl_VaultsCount_0 (hl env k fi_impl_VaultsCount) x1 (T.int (IntKind.wrap .i64 (x2.i + (rt r1 0).i))) x3 x4 (T.int (IntKind.wrap .i64 (x5.i + (1 : Int))))
    else
      none
  else
    some [x2]) r) : Yields (fun k => l_impl_VaultsCount_0 (hl env k fi_impl_VaultsCount) x1 x2 x3 x4 x5) r := Yields.head (fun H C => q_impl_VaultsCount_0 H C x1 x2 x3 x4 x5) h
noncomputable def l_laws_eqRecordSS_0 (H : List Item → CS → R) (x1 : T) (x2 : T) (x3 : T) : R := H (hdAt fi_laws_eqRecordSS.body 0) ([(0, .val 27 x1), (1, .val 27 x2), (5, .val 3 x3)], [])
/- loop.example/heirlooms/laws.eqRecordSS -/
theorem q_laws_eqRecordSS (H : List Item → CS → R) (C : CallsE) (a0 a1 : T) : enterE fi_laws_eqRecordSS env H C [a0, a1] =
  bif ((a0.es.length : Int) != (a1.es.length : Int)) then
    some [(T.bool false)]
  else
    l_laws_eqRecordSS_0 H a0 a1 (T.int (0 : Int)) := by kernel_rfl
theorem y_laws_eqRecordSS (a0 a1 : T) {r : List T} (h : Yields (fun k =>
  bif ((a0.es.length : Int) != (a1.es.length : Int)) then
    some [(T.bool false)]
  else
    l_laws_eqRecordSS_0 (hl env k fi_laws_eqRecordSS) a0 a1 (T.int (0 : Int))) r) : Yields (fun k => cl env k F_laws_eqRecordSS [a0, a1]) r := Yields.call (fi := fi_laws_eqRecordSS) rfl (fun H C => q_laws_eqRecordSS H C a0 a1) h
theorem q_laws_eqRecordSS_0 (H : List Item → CS → R) (C : CallsE) (x1 : T) (x2 : T) (x3 : T) : headE fi_laws_eqRecordSS env H C (hdAt fi_laws_eqRecordSS.body 0) ([(0, .val 27 x1), (1, .val 27 x2), (5, .val 3 x3)], []) =
  bif (decide (x3.i < (x1.es.length : Int))) then
    bif (decide (0 ≤ x3.i) && decide (x3.i.toNat < x1.es.length)) then
      bif (decide (0 ≤ x3.i) && decide (x3.i.toNat < x2.es.length)) then
        obind (C F_laws_eqRecordS [(x1.nth x3.i.toNat), (x2.nth x3.i.toNat)]) fun r1 =>
        bif (!(rt r1 0).b) then
          some [(T.bool false)]
        else
          l_laws_eqRecordSS_0 H x1 x2 (T.int (IntKind.wrap .i64 (x3.i + (1 : Int))))
      else
        none
    else
      none
  else
    some [(T.bool true)] := by kernel_rfl
theorem y_laws_eqRecordSS_0 (x1 : T) (x2 : T) (x3 : T) {r : List T} (h : Yields (fun k =>
  bif (decide (x3.i < (x1.es.length : Int))) then
    bif (decide (0 ≤ x3.i) && decide (x3.i.toNat < x1.es.length)) then
      bif (decide (0 ≤ x3.i) && decide (x3.i.toNat < x2.es.length)) then
        obind (cl env k F_laws_eqRecordS [(x1.nth x3.i.toNat), (x2.nth x3.i.toNat)]) fun r1 =>
        bif (!(rt r1 0).b) then
          some [(T.bool false)]
        else
          l_laws_eqRecordSS_0 (hl env k fi_laws_eqRecordSS) x1 x2 (T.int (IntKind.wrap .i64 (x3.i + (1 : Int))))
      else
        none
    else
      none
  else
    some [(T.bool true)]) r) : Yields (fun k => l_laws_eqRecordSS_0 (hl env k fi_laws_eqRecordSS) x1 x2 x3) r := Yields.head (fun H C => q_laws_eqRecordSS_0 H C x1 x2 x3) h
noncomputable def l_laws_eqKeptS_0 (H : List Item → CS → R) (x1 : T) (x2 : T) (x3 : T) : R := H (hdAt fi_laws_eqKeptS.body 0) ([(0, .val 29 x1), (1, .val 29 x2), (5, .val 3 x3)], [])
/- loop.example/heirlooms/laws.eqKeptS -/
theorem q_laws_eqKeptS (H : List Item → CS → R) (C : CallsE) (a0 a1 : T) : enterE fi_laws_eqKeptS env H C [a0, a1] =
  bif ((a0.es.length : Int) != (a1.es.length : Int)) then
    some [(T.bool false)]
  else
    l_laws_eqKeptS_0 H a0 a1 (T.int (0 : Int)) := by kernel_rfl
theorem y_laws_eqKeptS (a0 a1 : T) {r : List T} (h : Yields (fun k =>
  bif ((a0.es.length : Int) != (a1.es.length : Int)) then
    some [(T.bool false)]
  else
    l_laws_eqKeptS_0 (hl env k fi_laws_eqKeptS) a0 a1 (T.int (0 : Int))) r) : Yields (fun k => cl env k F_laws_eqKeptS [a0, a1]) r := Yields.call (fi := fi_laws_eqKeptS) rfl (fun H C => q_laws_eqKeptS H C a0 a1) h
theorem q_laws_eqKeptS_0 (H : List Item → CS → R) (C : CallsE) (x1 : T) (x2 : T) (x3 : T) : headE fi_laws_eqKeptS env H C (hdAt fi_laws_eqKeptS.body 0) ([(0, .val 29 x1), (1, .val 29 x2), (5, .val 3 x3)], []) =
  bif (decide (x3.i < (x1.es.length : Int))) then
    bif (decide (0 ≤ x3.i) && decide (x3.i.toNat < x1.es.length)) then
      bif (decide (0 ≤ x3.i) && decide (x3.i.toNat < x2.es.length)) then
        obind (C F_laws_eqKept [(x1.nth x3.i.toNat), (x2.nth x3.i.toNat)]) fun r1 =>
        bif (!(rt r1 0).b) then
          some [(T.bool false)]
        else
          l_laws_eqKeptS_0 H x1 x2 (T.int (IntKind.wrap .i64 (x3.i + (1 : Int))))
      else
        none
    else
      none
  else
    some [(T.bool true)] := by kernel_rfl
theorem y_laws_eqKeptS_0 (x1 : T) (x2 : T) (x3 : T) {r : List T} (h : Yields (fun k =>
  bif (decide (x3.i < (x1.es.length : Int))) then
    bif (decide (0 ≤ x3.i) && decide (x3.i.toNat < x1.es.length)) then
      bif (decide (0 ≤ x3.i) && decide (x3.i.toNat < x2.es.length)) then
        obind (cl env k F_laws_eqKept [(x1.nth x3.i.toNat), (x2.nth x3.i.toNat)]) fun r1 =>
        bif (!(rt r1 0).b) then
          some [(T.bool false)]
        else
          l_laws_eqKeptS_0 (hl env k fi_laws_eqKeptS) x1 x2 (T.int (IntKind.wrap .i64 (x3.i + (1 : Int))))
      else
        none
    else
      none
  else
    some [(T.bool true)]) r) : Yields (fun k => l_laws_eqKeptS_0 (hl env k fi_laws_eqKeptS) x1 x2 x3) r := Yields.head (fun H C => q_laws_eqKeptS_0 H C x1 x2 x3) h
/- loop.example/heirlooms/laws.eqValue -/
theorem q_laws_eqValue (H : List Item → CS → R) (C : CallsE) (a0 a1 : T) : enterE fi_laws_eqValue env H C [a0, a1] =
  bif (!(((a0.fld 0).s).toList == ((a1.fld 0).s).toList)) then
    some [(T.bool false)]
  else
    bif ((a0.fld 1).i != (a1.fld 1).i) then
      some [(T.bool false)]
    else
      obind (C F_laws_eqValueS [(a0.fld 2), (a1.fld 2)]) fun r1 =>
      bif (!(rt r1 0).b) then
        some [(T.bool false)]
      else
        obind (C F_laws_eqIntS [(a0.fld 3), (a1.fld 3)]) fun r2 =>
        bif (!(rt r2 0).b) then
          some [(T.bool false)]
        else
          some [(T.bool true)] := by kernel_rfl
theorem y_laws_eqValue (a0 a1 : T) {r : List T} (h : Yields (fun k =>
  bif (!(((a0.fld 0).s).toList == ((a1.fld 0).s).toList)) then
    some [(T.bool false)]
  else
    bif ((a0.fld 1).i != (a1.fld 1).i) then
      some [(T.bool false)]
    else
      obind (cl env k F_laws_eqValueS [(a0.fld 2), (a1.fld 2)]) fun r1 =>
      bif (!(rt r1 0).b) then
        some [(T.bool false)]
      else
        obind (cl env k F_laws_eqIntS [(a0.fld 3), (a1.fld 3)]) fun r2 =>
        bif (!(rt r2 0).b) then
          some [(T.bool false)]
        else
          some [(T.bool true)]) r) : Yields (fun k => cl env k F_laws_eqValue [a0, a1]) r := Yields.call (fi := fi_laws_eqValue) rfl (fun H C => q_laws_eqValue H C a0 a1) h
/- loop.example/heirlooms/laws.szValue -/
theorem q_laws_szValue (H : List Item → CS → R) (C : CallsE) (a0 a1 : T) : enterE fi_laws_szValue env H C [a0, a1] =
  bif (decide ((IntKind.wrap .i64 (a1.i - (((a0.fld 0).s).size : Int))) < (0 : Int))) then
    some [(T.int (-1 : Int))]
  else
    obind (C F_laws_szValueS [(a0.fld 2), (T.int (IntKind.wrap .i64 (a1.i - (((a0.fld 0).s).size : Int))))]) fun r1 =>
    bif (decide ((rt r1 0).i < (0 : Int))) then
      some [(T.int (-1 : Int))]
    else
      obind (C F_laws_szIntS [(a0.fld 3), (rt r1 0)]) fun r2 =>
      bif (decide ((rt r2 0).i < (0 : Int))) then
        some [(T.int (-1 : Int))]
      else
        some [(rt r2 0)] := by kernel_rfl
theorem y_laws_szValue (a0 a1 : T) {r : List T} (h : Yields (fun k =>
  bif (decide ((IntKind.wrap .i64 (a1.i - (((a0.fld 0).s).size : Int))) < (0 : Int))) then
    some [(T.int (-1 : Int))]
  else
    obind (cl env k F_laws_szValueS [(a0.fld 2), (T.int (IntKind.wrap .i64 (a1.i - (((a0.fld 0).s).size : Int))))]) fun r1 =>
    bif (decide ((rt r1 0).i < (0 : Int))) then
      some [(T.int (-1 : Int))]
    else
      obind (cl env k F_laws_szIntS [(a0.fld 3), (rt r1 0)]) fun r2 =>
      bif (decide ((rt r2 0).i < (0 : Int))) then
        some [(T.int (-1 : Int))]
      else
        some [(rt r2 0)]) r) : Yields (fun k => cl env k F_laws_szValue [a0, a1]) r := Yields.call (fi := fi_laws_szValue) rfl (fun H C => q_laws_szValue H C a0 a1) h
/- loop.example/heirlooms/laws.toValue -/
theorem q_laws_toValue (H : List Item → CS → R) (C : CallsE) (a0 : T) : enterE fi_laws_toValue env H C [a0] =
  obind (C F_laws_toValueS [(a0.fld 2)]) fun r1 =>
  obind (C F_laws_toIntS [(a0.fld 3)]) fun r2 =>
  some [(T.st [(a0.fld 0), (a0.fld 1), (rt r1 0), (rt r2 0)])] := by kernel_rfl
theorem y_laws_toValue (a0 : T) {r : List T} (h : Yields (fun k =>
  obind (cl env k F_laws_toValueS [(a0.fld 2)]) fun r1 =>
  obind (cl env k F_laws_toIntS [(a0.fld 3)]) fun r2 =>
  some [(T.st [(a0.fld 0), (a0.fld 1), (rt r1 0), (rt r2 0)])]) r) : Yields (fun k => cl env k F_laws_toValue [a0]) r := Yields.call (fi := fi_laws_toValue) rfl (fun H C => q_laws_toValue H C a0) h
noncomputable def l_laws_szRecordS_0 (H : List Item → CS → R) (x1 : T) (x2 : T) (x3 : T) : R := H (hdAt fi_laws_szRecordS.body 0) ([(0, .val 56 x1), (1, .val 3 x2), (5, .val 3 x3)], [])
/- loop.example/heirlooms/laws.szRecordS -/
theorem q_laws_szRecordS (H : List Item → CS → R) (C : CallsE) (a0 a1 : T) : enterE fi_laws_szRecordS env H C [a0, a1] =
  bif (decide ((IntKind.wrap .i64 (a1.i - (a0.es.length : Int))) < (0 : Int))) then
    some [(T.int (-1 : Int))]
  else
    l_laws_szRecordS_0 H a0 (T.int (IntKind.wrap .i64 (a1.i - (a0.es.length : Int)))) (T.int (0 : Int)) := by kernel_rfl
theorem y_laws_szRecordS (a0 a1 : T) {r : List T} (h : Yields (fun k =>
  bif (decide ((IntKind.wrap .i64 (a1.i - (a0.es.length : Int))) < (0 : Int))) then
    some [(T.int (-1 : Int))]
  else
    l_laws_szRecordS_0 (hl env k fi_laws_szRecordS) a0 (T.int (IntKind.wrap .i64 (a1.i - (a0.es.length : Int)))) (T.int (0 : Int))) r) : Yields (fun k => cl env k F_laws_szRecordS [a0, a1]) r := Yields.call (fi := fi_laws_szRecordS) rfl (fun H C => q_laws_szRecordS H C a0 a1) h
theorem q_laws_szRecordS_0 (H : List Item → CS → R) (C : CallsE) (x1 : T) (x2 : T) (x3 : T) : headE fi_laws_szRecordS env H C (hdAt fi_laws_szRecordS.body 0) ([(0, .val 56 x1), (1, .val 3 x2), (5, .val 3 x3)], []) =
  bif (decide (x3.i < (x1.es.length : Int))) then
    bif (decide (0 ≤ x3.i) && decide (x3.i.toNat < x1.es.length)) then
      obind (C F_laws_szRecord [(x1.nth x3.i.toNat), x2]) fun r1 =>
      bif (decide ((rt r1 0).i < (0 : Int))) then
        some [(T.int (-1 : Int))]
      else
        l_laws_szRecordS_0 H x1 (rt r1 0) (T.int (IntKind.wrap .i64 (x3.i + (1 : Int))))
    else
      none
  else
    some [x2] := by kernel_rfl
theorem y_laws_szRecordS_0 (x1 : T) (x2 : T) (x3 : T) {r : List T} (h : Yields (fun k =>
  bif (decide (x3.i < (x1.es.length : Int))) then
    bif (decide (0 ≤ x3.i) && decide (x3.i.toNat < x1.es.length)) then
      obind (cl env k F_laws_szRecord [(x1.nth x3.i.toNat), x2]) fun r1 =>
      bif (decide ((rt r1 0).i < (0 : Int))) then
        some [(T.int (-1 : Int))]
      else
        l_laws_szRecordS_0 (hl env k fi_laws_szRecordS) x1 (rt r1 0) (T.int (IntKind.wrap .i64 (x3.i + (1 : Int))))
    else
      none
  else
    some [x2]) r) : Yields (fun k => l_laws_szRecordS_0 (hl env k fi_laws_szRecordS) x1 x2 x3) r := Yields.head (fun H C => q_laws_szRecordS_0 H C x1 x2 x3) h
/- loop.example/heirlooms/laws.szKept -/
theorem q_laws_szKept (H : List Item → CS → R) (C : CallsE) (a0 a1 : T) : enterE fi_laws_szKept env H C [a0, a1] =
  obind (C F_laws_szValue [(a0.fld 1), a1]) fun r1 =>
  bif (decide ((rt r1 0).i < (0 : Int))) then
    some [(T.int (-1 : Int))]
  else
    some [(rt r1 0)] := by kernel_rfl
theorem y_laws_szKept (a0 a1 : T) {r : List T} (h : Yields (fun k =>
  obind (cl env k F_laws_szValue [(a0.fld 1), a1]) fun r1 =>
  bif (decide ((rt r1 0).i < (0 : Int))) then
    some [(T.int (-1 : Int))]
  else
    some [(rt r1 0)]) r) : Yields (fun k => cl env k F_laws_szKept [a0, a1]) r := Yields.call (fi := fi_laws_szKept) rfl (fun H C => q_laws_szKept H C a0 a1) h
/- loop.example/heirlooms/spec.l1Kind -/
theorem e_spec_l1Kind (H : List Item → CS → R) (C : CallsE) (a0 : T) : enterE fi_spec_l1Kind env H C [a0] =
  bif ((!(((a0.s.size : Int) != (3 : Int)) == false)) || true) then
    bif ((!(((a0.s.size : Int) != (3 : Int)) == false)) || (((((a0.s.size : Int) != (3 : Int)) == false) && true) && (decide (0 ≤ (0 : Int)) && decide (0 < a0.s.size)))) then
      bif ((!(((a0.s.size : Int) != (3 : Int)) == false)) || (((((a0.s.size : Int) != (3 : Int)) == false) && true) && true)) then
        bif (bif ((a0.s.size : Int) != (3 : Int)) then true else (((a0.s.size : Int) != (3 : Int)) == false)) then
          bif ((!((bif ((a0.s.size : Int) != (3 : Int)) then (T.bool true) else (T.bool ((a0.s.data.getD 0 0).toNat != (83 : Int)))).b == false)) || true) then
            bif ((!((bif ((a0.s.size : Int) != (3 : Int)) then (T.bool true) else (T.bool ((a0.s.data.getD 0 0).toNat != (83 : Int)))).b == false)) || ((((bif ((a0.s.size : Int) != (3 : Int)) then (T.bool true) else (T.bool ((a0.s.data.getD 0 0).toNat != (83 : Int)))).b == false) && true) && (decide (0 ≤ (1 : Int)) && decide (1 < a0.s.size)))) then
              bif ((!((bif ((a0.s.size : Int) != (3 : Int)) then (T.bool true) else (T.bool ((a0.s.data.getD 0 0).toNat != (83 : Int)))).b == false)) || ((((bif ((a0.s.size : Int) != (3 : Int)) then (T.bool true) else (T.bool ((a0.s.data.getD 0 0).toNat != (83 : Int)))).b == false) && true) && true)) then
                bif (bif (bif ((a0.s.size : Int) != (3 : Int)) then (T.bool true) else (T.bool ((a0.s.data.getD 0 0).toNat != (83 : Int)))).b then true else ((bif ((a0.s.size : Int) != (3 : Int)) then (T.bool true) else (T.bool ((a0.s.data.getD 0 0).toNat != (83 : Int)))).b == false)) then
                  bif ((!((bif (bif ((a0.s.size : Int) != (3 : Int)) then (T.bool true) else (T.bool ((a0.s.data.getD 0 0).toNat != (83 : Int)))).b then (T.bool true) else (T.bool (decide ((a0.s.data.getD 1 0).toNat < (48 : Int))))).b == false)) || true) then
                    bif ((!((bif (bif ((a0.s.size : Int) != (3 : Int)) then (T.bool true) else (T.bool ((a0.s.data.getD 0 0).toNat != (83 : Int)))).b then (T.bool true) else (T.bool (decide ((a0.s.data.getD 1 0).toNat < (48 : Int))))).b == false)) || ((((bif (bif ((a0.s.size : Int) != (3 : Int)) then (T.bool true) else (T.bool ((a0.s.data.getD 0 0).toNat != (83 : Int)))).b then (T.bool true) else (T.bool (decide ((a0.s.data.getD 1 0).toNat < (48 : Int))))).b == false) && true) && (decide (0 ≤ (1 : Int)) && decide (1 < a0.s.size)))) then
                      bif ((!((bif (bif ((a0.s.size : Int) != (3 : Int)) then (T.bool true) else (T.bool ((a0.s.data.getD 0 0).toNat != (83 : Int)))).b then (T.bool true) else (T.bool (decide ((a0.s.data.getD 1 0).toNat < (48 : Int))))).b == false)) || ((((bif (bif ((a0.s.size : Int) != (3 : Int)) then (T.bool true) else (T.bool ((a0.s.data.getD 0 0).toNat != (83 : Int)))).b then (T.bool true) else (T.bool (decide ((a0.s.data.getD 1 0).toNat < (48 : Int))))).b == false) && true) && true)) then
                        bif (bif (bif (bif ((a0.s.size : Int) != (3 : Int)) then (T.bool true) else (T.bool ((a0.s.data.getD 0 0).toNat != (83 : Int)))).b then (T.bool true) else (T.bool (decide ((a0.s.data.getD 1 0).toNat < (48 : Int))))).b then true else ((bif (bif ((a0.s.size : Int) != (3 : Int)) then (T.bool true) else (T.bool ((a0.s.data.getD 0 0).toNat != (83 : Int)))).b then (T.bool true) else (T.bool (decide ((a0.s.data.getD 1 0).toNat < (48 : Int))))).b == false)) then
                          bif ((!((bif (bif (bif ((a0.s.size : Int) != (3 : Int)) then (T.bool true) else (T.bool ((a0.s.data.getD 0 0).toNat != (83 : Int)))).b then (T.bool true) else (T.bool (decide ((a0.s.data.getD 1 0).toNat < (48 : Int))))).b then (T.bool true) else (T.bool (decide ((a0.s.data.getD 1 0).toNat > (57 : Int))))).b == false)) || true) then
                            bif ((!((bif (bif (bif ((a0.s.size : Int) != (3 : Int)) then (T.bool true) else (T.bool ((a0.s.data.getD 0 0).toNat != (83 : Int)))).b then (T.bool true) else (T.bool (decide ((a0.s.data.getD 1 0).toNat < (48 : Int))))).b then (T.bool true) else (T.bool (decide ((a0.s.data.getD 1 0).toNat > (57 : Int))))).b == false)) || ((((bif (bif (bif ((a0.s.size : Int) != (3 : Int)) then (T.bool true) else (T.bool ((a0.s.data.getD 0 0).toNat != (83 : Int)))).b then (T.bool true) else (T.bool (decide ((a0.s.data.getD 1 0).toNat < (48 : Int))))).b then (T.bool true) else (T.bool (decide ((a0.s.data.getD 1 0).toNat > (57 : Int))))).b == false) && true) && (decide (0 ≤ (2 : Int)) && decide (2 < a0.s.size)))) then
                              bif ((!((bif (bif (bif ((a0.s.size : Int) != (3 : Int)) then (T.bool true) else (T.bool ((a0.s.data.getD 0 0).toNat != (83 : Int)))).b then (T.bool true) else (T.bool (decide ((a0.s.data.getD 1 0).toNat < (48 : Int))))).b then (T.bool true) else (T.bool (decide ((a0.s.data.getD 1 0).toNat > (57 : Int))))).b == false)) || ((((bif (bif (bif ((a0.s.size : Int) != (3 : Int)) then (T.bool true) else (T.bool ((a0.s.data.getD 0 0).toNat != (83 : Int)))).b then (T.bool true) else (T.bool (decide ((a0.s.data.getD 1 0).toNat < (48 : Int))))).b then (T.bool true) else (T.bool (decide ((a0.s.data.getD 1 0).toNat > (57 : Int))))).b == false) && true) && true)) then
                                bif (bif (bif (bif (bif ((a0.s.size : Int) != (3 : Int)) then (T.bool true) else (T.bool ((a0.s.data.getD 0 0).toNat != (83 : Int)))).b then (T.bool true) else (T.bool (decide ((a0.s.data.getD 1 0).toNat < (48 : Int))))).b then (T.bool true) else (T.bool (decide ((a0.s.data.getD 1 0).toNat > (57 : Int))))).b then true else ((bif (bif (bif ((a0.s.size : Int) != (3 : Int)) then (T.bool true) else (T.bool ((a0.s.data.getD 0 0).toNat != (83 : Int)))).b then (T.bool true) else (T.bool (decide ((a0.s.data.getD 1 0).toNat < (48 : Int))))).b then (T.bool true) else (T.bool (decide ((a0.s.data.getD 1 0).toNat > (57 : Int))))).b == false)) then
                                  bif ((!((bif (bif (bif (bif ((a0.s.size : Int) != (3 : Int)) then (T.bool true) else (T.bool ((a0.s.data.getD 0 0).toNat != (83 : Int)))).b then (T.bool true) else (T.bool (decide ((a0.s.data.getD 1 0).toNat < (48 : Int))))).b then (T.bool true) else (T.bool (decide ((a0.s.data.getD 1 0).toNat > (57 : Int))))).b then (T.bool true) else (T.bool (decide ((a0.s.data.getD 2 0).toNat < (48 : Int))))).b == false)) || true) then
                                    bif ((!((bif (bif (bif (bif ((a0.s.size : Int) != (3 : Int)) then (T.bool true) else (T.bool ((a0.s.data.getD 0 0).toNat != (83 : Int)))).b then (T.bool true) else (T.bool (decide ((a0.s.data.getD 1 0).toNat < (48 : Int))))).b then (T.bool true) else (T.bool (decide ((a0.s.data.getD 1 0).toNat > (57 : Int))))).b then (T.bool true) else (T.bool (decide ((a0.s.data.getD 2 0).toNat < (48 : Int))))).b == false)) || ((((bif (bif (bif (bif ((a0.s.size : Int) != (3 : Int)) then (T.bool true) else (T.bool ((a0.s.data.getD 0 0).toNat != (83 : Int)))).b then (T.bool true) else (T.bool (decide ((a0.s.data.getD 1 0).toNat < (48 : Int))))).b then (T.bool true) else (T.bool (decide ((a0.s.data.getD 1 0).toNat > (57 : Int))))).b then (T.bool true) else (T.bool (decide ((a0.s.data.getD 2 0).toNat < (48 : Int))))).b == false) && true) && (decide (0 ≤ (2 : Int)) && decide (2 < a0.s.size)))) then
                                      bif ((!((bif (bif (bif (bif ((a0.s.size : Int) != (3 : Int)) then (T.bool true) else (T.bool ((a0.s.data.getD 0 0).toNat != (83 : Int)))).b then (T.bool true) else (T.bool (decide ((a0.s.data.getD 1 0).toNat < (48 : Int))))).b then (T.bool true) else (T.bool (decide ((a0.s.data.getD 1 0).toNat > (57 : Int))))).b then (T.bool true) else (T.bool (decide ((a0.s.data.getD 2 0).toNat < (48 : Int))))).b == false)) || ((((bif (bif (bif (bif ((a0.s.size : Int) != (3 : Int)) then (T.bool true) else (T.bool ((a0.s.data.getD 0 0).toNat != (83 : Int)))).b then (T.bool true) else (T.bool (decide ((a0.s.data.getD 1 0).toNat < (48 : Int))))).b then (T.bool true) else (T.bool (decide ((a0.s.data.getD 1 0).toNat > (57 : Int))))).b then (T.bool true) else (T.bool (decide ((a0.s.data.getD 2 0).toNat < (48 : Int))))).b == false) && true) && true)) then
                                        bif (bif (bif (bif (bif (bif ((a0.s.size : Int) != (3 : Int)) then (T.bool true) else (T.bool ((a0.s.data.getD 0 0).toNat != (83 : Int)))).b then (T.bool true) else (T.bool (decide ((a0.s.data.getD 1 0).toNat < (48 : Int))))).b then (T.bool true) else (T.bool (decide ((a0.s.data.getD 1 0).toNat > (57 : Int))))).b then (T.bool true) else (T.bool (decide ((a0.s.data.getD 2 0).toNat < (48 : Int))))).b then true else ((bif (bif (bif (bif ((a0.s.size : Int) != (3 : Int)) then (T.bool true) else (T.bool ((a0.s.data.getD 0 0).toNat != (83 : Int)))).b then (T.bool true) else (T.bool (decide ((a0.s.data.getD 1 0).toNat < (48 : Int))))).b then (T.bool true) else (T.bool (decide ((a0.s.data.getD 1 0).toNat > (57 : Int))))).b then (T.bool true) else (T.bool (decide ((a0.s.data.getD 2 0).toNat < (48 : Int))))).b == false)) then
                                          bif (bif (bif (bif (bif (bif ((a0.s.size : Int) != (3 : Int)) then (T.bool true) else (T.bool ((a0.s.data.getD 0 0).toNat != (83 : Int)))).b then (T.bool true) else (T.bool (decide ((a0.s.data.getD 1 0).toNat < (48 : Int))))).b then (T.bool true) else (T.bool (decide ((a0.s.data.getD 1 0).toNat > (57 : Int))))).b then (T.bool true) else (T.bool (decide ((a0.s.data.getD 2 0).toNat < (48 : Int))))).b then (T.bool true) else (T.bool (decide ((a0.s.data.getD 2 0).toNat > (57 : Int))))).b then
                                            some [(T.int (0 : Int)), (T.int (0 : Int)), (T.bool false)]
                                          else
                                            bif (decide (0 ≤ (1 : Int)) && decide (1 < a0.s.size)) then
                                              bif (decide (0 ≤ (2 : Int)) && decide (2 < a0.s.size)) then
                                                some [(T.int (IntKind.wrap .i64 (IntKind.wrap .u8 ((a0.s.data.getD 1 0).toNat - (48 : Int))))), (T.int (IntKind.wrap .i64 (IntKind.wrap .u8 ((a0.s.data.getD 2 0).toNat - (48 : Int))))), (T.bool true)]
                                              else
                                                none
                                            else
                                              none
                                        else
                                          none
                                      else
                                        none
                                    else
                                      none
                                  else
                                    none
                                else
                                  none
                              else
                                none
                            else
                              none
                          else
                            none
                        else
                          none
                      else
                        none
                    else
                      none
                  else
                    none
                else
                  none
              else
                none
            else
              none
          else
            none
        else
          none
      else
        none
    else
      none
  else
    none := by kernel_rfl
theorem q_spec_l1Kind (H : List Item → CS → R) (C : CallsE) (a0 : T) : enterE fi_spec_l1Kind env H C [a0] =
  bif ((a0.s.size : Int) != (3 : Int)) then
    some [(T.int (0 : Int)), (T.int (0 : Int)), (T.bool false)]
  else
    bif (decide (0 ≤ (0 : Int)) && decide (0 < a0.s.size)) then
      bif ((a0.s.data.getD 0 0).toNat != (83 : Int)) then
        some [(T.int (0 : Int)), (T.int (0 : Int)), (T.bool false)]
      else
        bif (decide (0 ≤ (1 : Int)) && decide (1 < a0.s.size)) then
          bif (decide ((a0.s.data.getD 1 0).toNat < (48 : Int))) then
            some [(T.int (0 : Int)), (T.int (0 : Int)), (T.bool false)]
          else
            bif (decide ((a0.s.data.getD 1 0).toNat > (57 : Int))) then
              some [(T.int (0 : Int)), (T.int (0 : Int)), (T.bool false)]
            else
              bif (decide (0 ≤ (2 : Int)) && decide (2 < a0.s.size)) then
                bif (decide ((a0.s.data.getD 2 0).toNat < (48 : Int))) then
                  some [(T.int (0 : Int)), (T.int (0 : Int)), (T.bool false)]
                else
                  bif (decide ((a0.s.data.getD 2 0).toNat > (57 : Int))) then
                    some [(T.int (0 : Int)), (T.int (0 : Int)), (T.bool false)]
                  else
                    some [(T.int (IntKind.wrap .i64 (IntKind.wrap .u8 ((a0.s.data.getD 1 0).toNat - (48 : Int))))), (T.int (IntKind.wrap .i64 (IntKind.wrap .u8 ((a0.s.data.getD 2 0).toNat - (48 : Int))))), (T.bool true)]
              else
                none
        else
          none
    else
      none := by
  rw [e_spec_l1Kind H C a0]
  all_goals cases hc : (((a0.s.size : Int) != (3 : Int))) with
  | true =>
    try simp only [obind_some, cond_true, cond_false, tb_bool, beq_tt, beq_ft, beq_tf, beq_ff, Bool.not_true, Bool.not_false, Bool.true_and, Bool.false_and, Bool.true_or, Bool.false_or]
    all_goals kernel_rfl
  | false =>
    try simp only [obind_some, cond_true, cond_false, tb_bool, beq_tt, beq_ft, beq_tf, beq_ff, Bool.not_true, Bool.not_false, Bool.true_and, Bool.false_and, Bool.true_or, Bool.false_or]
    all_goals cases hc : ((decide (0 ≤ (0 : Int)) && decide (0 < a0.s.size))) with
    | true =>
      try simp only [obind_some, cond_true, cond_false, tb_bool, beq_tt, beq_ft, beq_tf, beq_ff, Bool.not_true, Bool.not_false, Bool.true_and, Bool.false_and, Bool.true_or, Bool.false_or]
      all_goals cases hc : (((a0.s.data.getD 0 0).toNat != (83 : Int))) with
      | true =>
        try simp only [obind_some, cond_true, cond_false, tb_bool, beq_tt, beq_ft, beq_tf, beq_ff, Bool.not_true, Bool.not_false, Bool.true_and, Bool.false_and, Bool.true_or, Bool.false_or]
        all_goals kernel_rfl
      | false =>
        try simp only [obind_some, cond_true, cond_false, tb_bool, beq_tt, beq_ft, beq_tf, beq_ff, Bool.not_true, Bool.not_false, Bool.true_and, Bool.false_and, Bool.true_or, Bool.false_or]
        all_goals cases hc : ((decide (0 ≤ (1 : Int)) && decide (1 < a0.s.size))) with
        | true =>
          try simp only [obind_some, cond_true, cond_false, tb_bool, beq_tt, beq_ft, beq_tf, beq_ff, Bool.not_true, Bool.not_false, Bool.true_and, Bool.false_and, Bool.true_or, Bool.false_or]
          all_goals cases hc : ((decide ((a0.s.data.getD 1 0).toNat < (48 : Int)))) with
          | true =>
            try simp only [obind_some, cond_true, cond_false, tb_bool, beq_tt, beq_ft, beq_tf, beq_ff, Bool.not_true, Bool.not_false, Bool.true_and, Bool.false_and, Bool.true_or, Bool.false_or]
            all_goals kernel_rfl
          | false =>
            try simp only [obind_some, cond_true, cond_false, tb_bool, beq_tt, beq_ft, beq_tf, beq_ff, Bool.not_true, Bool.not_false, Bool.true_and, Bool.false_and, Bool.true_or, Bool.false_or]
            all_goals cases hc : ((decide ((a0.s.data.getD 1 0).toNat > (57 : Int)))) with
            | true =>
              try simp only [obind_some, cond_true, cond_false, tb_bool, beq_tt, beq_ft, beq_tf, beq_ff, Bool.not_true, Bool.not_false, Bool.true_and, Bool.false_and, Bool.true_or, Bool.false_or]
              all_goals kernel_rfl
            | false =>
              try simp only [obind_some, cond_true, cond_false, tb_bool, beq_tt, beq_ft, beq_tf, beq_ff, Bool.not_true, Bool.not_false, Bool.true_and, Bool.false_and, Bool.true_or, Bool.false_or]
              all_goals cases hc : ((decide (0 ≤ (2 : Int)) && decide (2 < a0.s.size))) with
              | true =>
                try simp only [obind_some, cond_true, cond_false, tb_bool, beq_tt, beq_ft, beq_tf, beq_ff, Bool.not_true, Bool.not_false, Bool.true_and, Bool.false_and, Bool.true_or, Bool.false_or]
                all_goals cases hc : ((decide ((a0.s.data.getD 2 0).toNat < (48 : Int)))) with
                | true =>
                  try simp only [obind_some, cond_true, cond_false, tb_bool, beq_tt, beq_ft, beq_tf, beq_ff, Bool.not_true, Bool.not_false, Bool.true_and, Bool.false_and, Bool.true_or, Bool.false_or]
                  all_goals kernel_rfl
                | false =>
                  try simp only [obind_some, cond_true, cond_false, tb_bool, beq_tt, beq_ft, beq_tf, beq_ff, Bool.not_true, Bool.not_false, Bool.true_and, Bool.false_and, Bool.true_or, Bool.false_or]
                  all_goals cases hc : ((decide ((a0.s.data.getD 2 0).toNat > (57 : Int)))) with
                  | true =>
                    try simp only [obind_some, cond_true, cond_false, tb_bool, beq_tt, beq_ft, beq_tf, beq_ff, Bool.not_true, Bool.not_false, Bool.true_and, Bool.false_and, Bool.true_or, Bool.false_or]
                    all_goals kernel_rfl
                  | false =>
                    try simp only [obind_some, cond_true, cond_false, tb_bool, beq_tt, beq_ft, beq_tf, beq_ff, Bool.not_true, Bool.not_false, Bool.true_and, Bool.false_and, Bool.true_or, Bool.false_or]
                    all_goals kernel_rfl
              | false =>
                try simp only [obind_some, cond_true, cond_false, tb_bool, beq_tt, beq_ft, beq_tf, beq_ff, Bool.not_true, Bool.not_false, Bool.true_and, Bool.false_and, Bool.true_or, Bool.false_or]
                all_goals kernel_rfl
        | false =>
          try simp only [obind_some, cond_true, cond_false, tb_bool, beq_tt, beq_ft, beq_tf, beq_ff, Bool.not_true, Bool.not_false, Bool.true_and, Bool.false_and, Bool.true_or, Bool.false_or]
          all_goals kernel_rfl
    | false =>
      try simp only [obind_some, cond_true, cond_false, tb_bool, beq_tt, beq_ft, beq_tf, beq_ff, Bool.not_true, Bool.not_false, Bool.true_and, Bool.false_and, Bool.true_or, Bool.false_or]
      all_goals kernel_rfl
theorem y_spec_l1Kind (a0 : T) {r : List T} (h : Yields (fun k =>
  bif ((a0.s.size : Int) != (3 : Int)) then
    some [(T.int (0 : Int)), (T.int (0 : Int)), (T.bool false)]
  else
    bif (decide (0 ≤ (0 : Int)) && decide (0 < a0.s.size)) then
      bif ((a0.s.data.getD 0 0).toNat != (83 : Int)) then
        some [(T.int (0 : Int)), (T.int (0 : Int)), (T.bool false)]
      else
        bif (decide (0 ≤ (1 : Int)) && decide (1 < a0.s.size)) then
          bif (decide ((a0.s.data.getD 1 0).toNat < (48 : Int))) then
            some [(T.int (0 : Int)), (T.int (0 : Int)), (T.bool false)]
          else
            bif (decide ((a0.s.data.getD 1 0).toNat > (57 : Int))) then
              some [(T.int (0 : Int)), (T.int (0 : Int)), (T.bool false)]
            else
              bif (decide (0 ≤ (2 : Int)) && decide (2 < a0.s.size)) then
                bif (decide ((a0.s.data.getD 2 0).toNat < (48 : Int))) then
                  some [(T.int (0 : Int)), (T.int (0 : Int)), (T.bool false)]
                else
                  bif (decide ((a0.s.data.getD 2 0).toNat > (57 : Int))) then
                    some [(T.int (0 : Int)), (T.int (0 : Int)), (T.bool false)]
                  else
                    some [(T.int (IntKind.wrap .i64 (IntKind.wrap .u8 ((a0.s.data.getD 1 0).toNat - (48 : Int))))), (T.int (IntKind.wrap .i64 (IntKind.wrap .u8 ((a0.s.data.getD 2 0).toNat - (48 : Int))))), (T.bool true)]
              else
                none
        else
          none
    else
      none) r) : Yields (fun k => cl env k F_spec_l1Kind [a0]) r := Yields.call (fi := fi_spec_l1Kind) rfl (fun H C => q_spec_l1Kind H C a0) h
/- loop.example/heirlooms/spec.VaultsOk -/
theorem e_spec_VaultsOk (H : List Item → CS → R) (C : CallsE) (a0 a1 : T) : enterE fi_spec_VaultsOk env H C [a0, a1] =
  obind (C F_spec_KindsOk [a0]) fun r1 =>
  bif ((!((rt r1 0).b == true)) || true) then
    bif ((!((rt r1 0).b == true)) || true) then
      bif ((!((rt r1 0).b == true)) || (((rt r1 0).b == true) && (((rt r1 0).b == true) && true))) then
        obind ((bif ((rt r1 0).b == true) then C F_spec_l9Ok [a0, a1] else some [])) fun r2 =>
        bif (bif (rt r1 0).b then ((rt r1 0).b == true) else true) then
          some [(bif (rt r1 0).b then (rt r2 0) else (T.bool false))]
        else
          none
      else
        none
    else
      none
  else
    none := by kernel_rfl
theorem q_spec_VaultsOk (H : List Item → CS → R) (C : CallsE) (a0 a1 : T) : enterE fi_spec_VaultsOk env H C [a0, a1] =
  obind (C F_spec_KindsOk [a0]) fun r1 =>
  bif (rt r1 0).b then
    obind (C F_spec_l9Ok [a0, a1]) fun r2 =>
    some [(rt r2 0)]
  else
    some [(T.bool false)] := by
  rw [e_spec_VaultsOk H C a0 a1]
  all_goals refine obind_congr fun r1 => ?_
  all_goals try simp only [obind_some, cond_true, cond_false, tb_bool, beq_tt, beq_ft, beq_tf, beq_ff, Bool.not_true, Bool.not_false, Bool.true_and, Bool.false_and, Bool.true_or, Bool.false_or]
  all_goals cases hc : ((rt r1 0).b) with
  | true =>
    try simp only [obind_some, cond_true, cond_false, tb_bool, beq_tt, beq_ft, beq_tf, beq_ff, Bool.not_true, Bool.not_false, Bool.true_and, Bool.false_and, Bool.true_or, Bool.false_or]
    all_goals refine obind_congr fun r2 => ?_
    all_goals try simp only [obind_some, cond_true, cond_false, tb_bool, beq_tt, beq_ft, beq_tf, beq_ff, Bool.not_true, Bool.not_false, Bool.true_and, Bool.false_and, Bool.true_or, Bool.false_or]
    all_goals kernel_rfl
  | false =>
    try simp only [obind_some, cond_true, cond_false, tb_bool, beq_tt, beq_ft, beq_tf, beq_ff, Bool.not_true, Bool.not_false, Bool.true_and, Bool.false_and, Bool.true_or, Bool.false_or]
    all_goals kernel_rfl
theorem y_spec_VaultsOk (a0 a1 : T) {r : List T} (h : Yields (fun k =>
  obind (cl env k F_spec_KindsOk [a0]) fun r1 =>
  bif (rt r1 0).b then
    obind (cl env k F_spec_l9Ok [a0, a1]) fun r2 =>
    some [(rt r2 0)]
  else
    some [(T.bool false)]) r) : Yields (fun k => cl env k F_spec_VaultsOk [a0, a1]) r := Yields.call (fi := fi_spec_VaultsOk) rfl (fun H C => q_spec_VaultsOk H C a0 a1) h
/- loop.example/heirlooms/spec.l1Plain -/
theorem e_spec_l1Plain (H : List Item → CS → R) (C : CallsE) (a0 a1 : T) : enterE fi_spec_l1Plain env H C [a0, a1] =
  obind (C F_spec_l1Kind [a1]) fun r1 =>
  obind (C F_spec_l1Base [a1]) fun r2 =>
  bif ((!((rt r2 0).b == false)) || true) then
    bif ((!((rt r2 0).b == false)) || ((rt r2 0).b == false)) then
      bif ((!(((rt r2 0).b == false) && ((rt r1 2).b == true))) || true) then
        bif ((!(((rt r2 0).b == false) && ((rt r1 2).b == true))) || true) then
          bif ((!(((rt r2 0).b == false) && ((rt r1 2).b == true))) || true) then
            bif ((!(((rt r2 0).b == false) && ((rt r1 2).b == true))) || ((((rt r2 0).b == false) && ((rt r1 2).b == true)) && ((((rt r2 0).b == false) && ((rt r1 2).b == true)) && ((((rt r2 0).b == false) && ((rt r1 2).b == true)) && true)))) then
              obind ((bif (((rt r2 0).b == false) && ((rt r1 2).b == true)) then C F_spec_l1Has [a0, (rt r1 0), (rt r1 1)] else some [])) fun r3 =>
              bif ((!((rt r2 0).b == false)) || (((rt r2 0).b == false) && (bif (rt r1 2).b then (((rt r2 0).b == false) && ((rt r1 2).b == true)) else true))) then
                bif (bif (rt r2 0).b then true else ((rt r2 0).b == false)) then
                  some [(bif (rt r2 0).b then (T.bool true) else (bif (rt r1 2).b then (rt r3 0) else (T.bool false)))]
                else
                  none
              else
                none
            else
              none
          else
            none
        else
          none
      else
        none
    else
      none
  else
    none := by kernel_rfl
theorem q_spec_l1Plain (H : List Item → CS → R) (C : CallsE) (a0 a1 : T) : enterE fi_spec_l1Plain env H C [a0, a1] =
  obind (C F_spec_l1Kind [a1]) fun r1 =>
  obind (C F_spec_l1Base [a1]) fun r2 =>
  bif (rt r2 0).b then
    some [(T.bool true)]
  else
    bif (rt r1 2).b then
      obind (C F_spec_l1Has [a0, (rt r1 0), (rt r1 1)]) fun r3 =>
      some [(rt r3 0)]
    else
      some [(T.bool false)] := by
  rw [e_spec_l1Plain H C a0 a1]
  all_goals refine obind_congr fun r1 => ?_
  all_goals try simp only [obind_some, cond_true, cond_false, tb_bool, beq_tt, beq_ft, beq_tf, beq_ff, Bool.not_true, Bool.not_false, Bool.true_and, Bool.false_and, Bool.true_or, Bool.false_or]
  all_goals refine obind_congr fun r2 => ?_
  all_goals try simp only [obind_some, cond_true, cond_false, tb_bool, beq_tt, beq_ft, beq_tf, beq_ff, Bool.not_true, Bool.not_false, Bool.true_and, Bool.false_and, Bool.true_or, Bool.false_or]
  all_goals cases hc : ((rt r2 0).b) with
  | true =>
    try simp only [obind_some, cond_true, cond_false, tb_bool, beq_tt, beq_ft, beq_tf, beq_ff, Bool.not_true, Bool.not_false, Bool.true_and, Bool.false_and, Bool.true_or, Bool.false_or]
    all_goals cases hc : ((rt r1 2).b) with
    | true =>
      try simp only [obind_some, cond_true, cond_false, tb_bool, beq_tt, beq_ft, beq_tf, beq_ff, Bool.not_true, Bool.not_false, Bool.true_and, Bool.false_and, Bool.true_or, Bool.false_or]
      all_goals kernel_rfl
    | false =>
      try simp only [obind_some, cond_true, cond_false, tb_bool, beq_tt, beq_ft, beq_tf, beq_ff, Bool.not_true, Bool.not_false, Bool.true_and, Bool.false_and, Bool.true_or, Bool.false_or]
      all_goals kernel_rfl
  | false =>
    try simp only [obind_some, cond_true, cond_false, tb_bool, beq_tt, beq_ft, beq_tf, beq_ff, Bool.not_true, Bool.not_false, Bool.true_and, Bool.false_and, Bool.true_or, Bool.false_or]
    all_goals cases hc : ((rt r1 2).b) with
    | true =>
      try simp only [obind_some, cond_true, cond_false, tb_bool, beq_tt, beq_ft, beq_tf, beq_ff, Bool.not_true, Bool.not_false, Bool.true_and, Bool.false_and, Bool.true_or, Bool.false_or]
      all_goals refine obind_congr fun r3 => ?_
      all_goals try simp only [obind_some, cond_true, cond_false, tb_bool, beq_tt, beq_ft, beq_tf, beq_ff, Bool.not_true, Bool.not_false, Bool.true_and, Bool.false_and, Bool.true_or, Bool.false_or]
      all_goals kernel_rfl
    | false =>
      try simp only [obind_some, cond_true, cond_false, tb_bool, beq_tt, beq_ft, beq_tf, beq_ff, Bool.not_true, Bool.not_false, Bool.true_and, Bool.false_and, Bool.true_or, Bool.false_or]
      all_goals kernel_rfl
theorem y_spec_l1Plain (a0 a1 : T) {r : List T} (h : Yields (fun k =>
  obind (cl env k F_spec_l1Kind [a1]) fun r1 =>
  obind (cl env k F_spec_l1Base [a1]) fun r2 =>
  bif (rt r2 0).b then
    some [(T.bool true)]
  else
    bif (rt r1 2).b then
      obind (cl env k F_spec_l1Has [a0, (rt r1 0), (rt r1 1)]) fun r3 =>
      some [(rt r3 0)]
    else
      some [(T.bool false)]) r) : Yields (fun k => cl env k F_spec_l1Plain [a0, a1]) r := Yields.call (fi := fi_spec_l1Plain) rfl (fun H C => q_spec_l1Plain H C a0 a1) h
noncomputable def l_spec_l2Count_0 (H : List Item → CS → R) (x1 : T) (x2 : T) (x3 : T) (x4 : T) : R := H (hdAt fi_spec_l2Count.body 0) ([(1, .val 9 x1), (2, .pref 37 2 []), (5, .val 3 x2), (6, .val 3 x3)], [(2, ⟨37, x4, .fz, true⟩)])
/- loop.example/heirlooms/spec.l2Count -/
theorem q_spec_l2Count (H : List Item → CS → R) (C : CallsE) (a0 a1 : T) : enterE fi_spec_l2Count env H C [a0, a1] =
  bif (((a0.fld 0).s).toList == a1.s.toList) then
    l_spec_l2Count_0 H a1 (T.int (1 : Int)) (T.int (0 : Int)) a0
  else
    l_spec_l2Count_0 H a1 (T.int (0 : Int)) (T.int (0 : Int)) a0 := by kernel_rfl
theorem y_spec_l2Count (a0 a1 : T) {r : List T} (h : Yields (fun k =>
  bif (((a0.fld 0).s).toList == a1.s.toList) then
    l_spec_l2Count_0 (hl env k fi_spec_l2Count) a1 (T.int (1 : Int)) (T.int (0 : Int)) a0
  else
    l_spec_l2Count_0 (hl env k fi_spec_l2Count) a1 (T.int (0 : Int)) (T.int (0 : Int)) a0) r) : Yields (fun k => cl env k F_spec_l2Count [a0, a1]) r := Yields.call (fi := fi_spec_l2Count) rfl (fun H C => q_spec_l2Count H C a0 a1) h
theorem q_spec_l2Count_0 (H : List Item → CS → R) (C : CallsE) (x1 : T) (x2 : T) (x3 : T) (x4 : T) : headE fi_spec_l2Count env H C (hdAt fi_spec_l2Count.body 0) ([(1, .val 9 x1), (2, .pref 37 2 []), (5, .val 3 x2), (6, .val 3 x3)], [(2, ⟨37, x4, .fz, true⟩)]) =
  bif (decide (x3.i < (((x4.fld 2).es).length : Int))) then
    bif (decide (0 ≤ x3.i) && decide (x3.i.toNat < ((x4.fld 2).es).length)) then
      obind (C F_spec_l2Count [((x4.fld 2).nth x3.i.toNat), x1]) fun r1 =>
      l_spec_l2Count_0 H x1 (T.int (IntKind.wrap .i64 (x2.i + (rt r1 0).i))) (T.int (IntKind.wrap .i64 (x3.i + (1 : Int)))) x4
    else
      none
  else
    some [x2] := by kernel_rfl
theorem y_spec_l2Count_0 (x1 : T) (x2 : T) (x3 : T) (x4 : T) {r : List T} (h : Yields (fun k =>
  bif (decide (x3.i < (((x4.fld 2).es).length : Int))) then
    bif (decide (0 ≤ x3.i) && decide (x3.i.toNat < ((x4.fld 2).es).length)) then
      obind (cl env k F_spec_l2Count [((x4.fld 2).nth x3.i.toNat), x1]) fun r1 =>
      l_spec_l2Count_0 (hl env k fi_spec_l2Count) x1 (T.int (IntKind.wrap .i64 (x2.i + (rt r1 0).i))) (T.int (IntKind.wrap .i64 (x3.i + (1 : Int)))) x4
    else
      none
  else
    some [x2]) r) : Yields (fun k => l_spec_l2Count_0 (hl env k fi_spec_l2Count) x1 x2 x3 x4) r := Yields.head (fun H C => q_spec_l2Count_0 H C x1 x2 x3 x4) h
noncomputable def l_laws_toRecordS_0 (H : List Item → CS → R) (x1 : T) (x2 : T) (x3 : T) : R := H (hdAt fi_laws_toRecordS.body 0) ([(0, .val 56 x1), (3, .sref 67 3 []), (4, .val 3 x2)], [(3, ⟨67, x3, .dp, false⟩)])
/- loop.example/heirlooms/laws.toRecordS -/
theorem q_laws_toRecordS (H : List Item → CS → R) (C : CallsE) (a0 : T) : enterE fi_laws_toRecordS env H C [a0] =
  bif (decide (0 ≤ (a0.es.length : Int)) && (decide ((a0.es.length : Int) ≤ (a0.es.length : Int)) && decide (a0.es.length ≤ LIM))) then
    l_laws_toRecordS_0 H a0 (T.int (0 : Int)) (T.sl (List.replicate a0.es.length (T.st [(T.int (0 : Int)), (T.sl [])])))
  else
    none := by kernel_rfl
theorem y_laws_toRecordS (a0 : T) {r : List T} (h : Yields (fun k =>
  bif (decide (0 ≤ (a0.es.length : Int)) && (decide ((a0.es.length : Int) ≤ (a0.es.length : Int)) && decide (a0.es.length ≤ LIM))) then
    l_laws_toRecordS_0 (hl env k fi_laws_toRecordS) a0 (T.int (0 : Int)) (T.sl (List.replicate a0.es.length (T.st [(T.int (0 : Int)), (T.sl [])])))
  else
    none) r) : Yields (fun k => cl env k F_laws_toRecordS [a0]) r := Yields.call (fi := fi_laws_toRecordS) rfl (fun H C => q_laws_toRecordS H C a0) h
theorem q_laws_toRecordS_0 (H : List Item → CS → R) (C : CallsE) (x1 : T) (x2 : T) (x3 : T) : headE fi_laws_toRecordS env H C (hdAt fi_laws_toRecordS.body 0) ([(0, .val 56 x1), (3, .sref 67 3 []), (4, .val 3 x2)], [(3, ⟨67, x3, .dp, false⟩)]) =
  bif (decide (x2.i < (x1.es.length : Int))) then
    bif (decide (0 ≤ x2.i) && decide (x2.i.toNat < x1.es.length)) then
      obind (C F_laws_toRecord [(x1.nth x2.i.toNat)]) fun r1 =>
      bif (decide (0 ≤ x2.i) && decide (x2.i.toNat < x3.es.length)) then
        l_laws_toRecordS_0 H x1 (T.int (IntKind.wrap .i64 (x2.i + (1 : Int)))) (T.sl (x3.es.set x2.i.toNat (T.st [((rt r1 0).fld 0), ((rt r1 0).fld 1)])))
      else
        none
    else
      none
  else
    some [x3] := by kernel_rfl
theorem y_laws_toRecordS_0 (x1 : T) (x2 : T) (x3 : T) {r : List T} (h : Yields (fun k =>
  bif (decide (x2.i < (x1.es.length : Int))) then
    bif (decide (0 ≤ x2.i) && decide (x2.i.toNat < x1.es.length)) then
      obind (cl env k F_laws_toRecord [(x1.nth x2.i.toNat)]) fun r1 =>
      bif (decide (0 ≤ x2.i) && decide (x2.i.toNat < x3.es.length)) then
        l_laws_toRecordS_0 (hl env k fi_laws_toRecordS) x1 (T.int (IntKind.wrap .i64 (x2.i + (1 : Int)))) (T.sl (x3.es.set x2.i.toNat (T.st [((rt r1 0).fld 0), ((rt r1 0).fld 1)])))
      else
        none
    else
      none
  else
    some [x3]) r) : Yields (fun k => l_laws_toRecordS_0 (hl env k fi_laws_toRecordS) x1 x2 x3) r := Yields.head (fun H C => q_laws_toRecordS_0 H C x1 x2 x3) h
/- loop.example/heirlooms/laws.toKept -/
theorem q_laws_toKept (H : List Item → CS → R) (C : CallsE) (a0 : T) : enterE fi_laws_toKept env H C [a0] =
  obind (C F_laws_toValue [(a0.fld 1)]) fun r1 =>
  some [(T.st [(a0.fld 0), (T.st [((rt r1 0).fld 0), ((rt r1 0).fld 1), ((rt r1 0).fld 2), ((rt r1 0).fld 3)])])] := by kernel_rfl
theorem y_laws_toKept (a0 : T) {r : List T} (h : Yields (fun k =>
  obind (cl env k F_laws_toValue [(a0.fld 1)]) fun r1 =>
  some [(T.st [(a0.fld 0), (T.st [((rt r1 0).fld 0), ((rt r1 0).fld 1), ((rt r1 0).fld 2), ((rt r1 0).fld 3)])])]) r) : Yields (fun k => cl env k F_laws_toKept [a0]) r := Yields.call (fi := fi_laws_toKept) rfl (fun H C => q_laws_toKept H C a0) h
noncomputable def l_impl_VaultsOk_0 (H : List Item → CS → R) (x1 : T) (x2 : T) (x3 : T) (x4 : T) (x5 : T) : R := H (hdAt fi_impl_VaultsOk.body 0) ([(0, .val 27 x1), (1, .val 29 x2), (15, .val 29 x3), (16, .val 3 x4), (17, .val 3 x5)], [])
/- loop.example/heirlooms/impl.VaultsOk -/
theorem e_impl_VaultsOk (H : List Item → CS → R) (C : CallsE) (a0 a1 : T) : enterE fi_impl_VaultsOk env H C [a0, a1] =
  obind (C F_impl_KindsOk [a0]) fun r1 =>
  bif ((!((!(rt r1 0).b) == false)) || true) then
    bif ((!((!(rt r1 0).b) == false)) || ((!(rt r1 0).b) == false)) then
      bif ((!((!(rt r1 0).b) == false)) || ((((!(rt r1 0).b) == false) && true) && true)) then
        bif (bif (!(rt r1 0).b) then true else ((!(rt r1 0).b) == false)) then
          bif (bif (!(rt r1 0).b) then (T.bool true) else (T.bool (decide ((a1.es.length : Int) > (36 : Int))))).b then
            some [(T.bool false)]
          else
            l_impl_VaultsOk_0 H a0 a1 a1 (T.int (a1.es.length : Int)) (T.int (0 : Int))
        else
          none
      else
        none
    else
      none
  else
    none := by kernel_rfl
theorem q_impl_VaultsOk (H : List Item → CS → R) (C : CallsE) (a0 a1 : T) : enterE fi_impl_VaultsOk env H C [a0, a1] =
  obind (C F_impl_KindsOk [a0]) fun r1 =>
  bif (!(rt r1 0).b) then
    some [(T.bool false)]
  else
    bif (decide ((a1.es.length : Int) > (36 : Int))) then
      some [(T.bool false)]
    else
      l_impl_VaultsOk_0 H a0 a1 a1 (T.int (a1.es.length : Int)) (T.int (0 : Int)) := by
  rw [e_impl_VaultsOk H C a0 a1]
  all_goals refine obind_congr fun r1 => ?_
  all_goals try simp only [obind_some, cond_true, cond_false, tb_bool, beq_tt, beq_ft, beq_tf, beq_ff, Bool.not_true, Bool.not_false, Bool.true_and, Bool.false_and, Bool.true_or, Bool.false_or]
  all_goals cases hc : ((!(rt r1 0).b)) with
  | true =>
    try simp only [obind_some, cond_true, cond_false, tb_bool, beq_tt, beq_ft, beq_tf, beq_ff, Bool.not_true, Bool.not_false, Bool.true_and, Bool.false_and, Bool.true_or, Bool.false_or]
    all_goals kernel_rfl
  | false =>
    try simp only [obind_some, cond_true, cond_false, tb_bool, beq_tt, beq_ft, beq_tf, beq_ff, Bool.not_true, Bool.not_false, Bool.true_and, Bool.false_and, Bool.true_or, Bool.false_or]
    all_goals cases hc : ((decide ((a1.es.length : Int) > (36 : Int)))) with
    | true =>
      try simp only [obind_some, cond_true, cond_false, tb_bool, beq_tt, beq_ft, beq_tf, beq_ff, Bool.not_true, Bool.not_false, Bool.true_and, Bool.false_and, Bool.true_or, Bool.false_or]
      all_goals kernel_rfl
    | false =>
      try simp only [obind_some, cond_true, cond_false, tb_bool, beq_tt, beq_ft, beq_tf, beq_ff, Bool.not_true, Bool.not_false, Bool.true_and, Bool.false_and, Bool.true_or, Bool.false_or]
      all_goals kernel_rfl
theorem y_impl_VaultsOk (a0 a1 : T) {r : List T} (h : Yields (fun k =>
  obind (cl env k F_impl_KindsOk [a0]) fun r1 =>
  bif (!(rt r1 0).b) then
    some [(T.bool false)]
  else
    bif (decide ((a1.es.length : Int) > (36 : Int))) then
      some [(T.bool false)]
    else
      l_impl_VaultsOk_0 (hl env k fi_impl_VaultsOk) a0 a1 a1 (T.int (a1.es.length : Int)) (T.int (0 : Int))) r) : Yields (fun k => cl env k F_impl_VaultsOk [a0, a1]) r := Yields.call (fi := fi_impl_VaultsOk) rfl (fun H C => q_impl_VaultsOk H C a0 a1) h
theorem e_impl_VaultsOk_0 (H : List Item → CS → R) (C : CallsE) (x1 : T) (x2 : T) (x3 : T) (x4 : T) (x5 : T) : headE fi_impl_VaultsOk env H C (hdAt fi_impl_VaultsOk.body 0) ([(0, .val 27 x1), (1, .val 29 x2), (15, .val 29 x3), (16, .val 3 x4), (17, .val 3 x5)], []) =
  bif (decide (x5.i < x4.i)) then
    bif (decide (0 ≤ x5.i) && decide (x5.i.toNat < x3.es.length)) then
      bif ((!((decide (((x3.nth x5.i.toNat).fld 0).i < (0 : Int))) == false)) || true) then
        bif ((!((decide (((x3.nth x5.i.toNat).fld 0).i < (0 : Int))) == false)) || ((decide (((x3.nth x5.i.toNat).fld 0).i < (0 : Int))) == false)) then
          bif ((!((decide (((x3.nth x5.i.toNat).fld 0).i < (0 : Int))) == false)) || ((((decide (((x3.nth x5.i.toNat).fld 0).i < (0 : Int))) == false) && true) && true)) then
            bif (bif (decide (((x3.nth x5.i.toNat).fld 0).i < (0 : Int))) then true else ((decide (((x3.nth x5.i.toNat).fld 0).i < (0 : Int))) == false)) then
              bif ((!((bif (decide (((x3.nth x5.i.toNat).fld 0).i < (0 : Int))) then (T.bool true) else (T.bool (decide (((x3.nth x5.i.toNat).fld 0).i ≥ (4 : Int))))).b == false)) || true) then
                bif ((!((bif (decide (((x3.nth x5.i.toNat).fld 0).i < (0 : Int))) then (T.bool true) else (T.bool (decide (((x3.nth x5.i.toNat).fld 0).i ≥ (4 : Int))))).b == false)) || true) then
                  bif ((!((bif (decide (((x3.nth x5.i.toNat).fld 0).i < (0 : Int))) then (T.bool true) else (T.bool (decide (((x3.nth x5.i.toNat).fld 0).i ≥ (4 : Int))))).b == false)) || ((bif (decide (((x3.nth x5.i.toNat).fld 0).i < (0 : Int))) then (T.bool true) else (T.bool (decide (((x3.nth x5.i.toNat).fld 0).i ≥ (4 : Int))))).b == false)) then
                    bif ((!((bif (decide (((x3.nth x5.i.toNat).fld 0).i < (0 : Int))) then (T.bool true) else (T.bool (decide (((x3.nth x5.i.toNat).fld 0).i ≥ (4 : Int))))).b == false)) || (((bif (decide (((x3.nth x5.i.toNat).fld 0).i < (0 : Int))) then (T.bool true) else (T.bool (decide (((x3.nth x5.i.toNat).fld 0).i ≥ (4 : Int))))).b == false) && (((bif (decide (((x3.nth x5.i.toNat).fld 0).i < (0 : Int))) then (T.bool true) else (T.bool (decide (((x3.nth x5.i.toNat).fld 0).i ≥ (4 : Int))))).b == false) && true))) then
                      obind ((bif ((bif (decide (((x3.nth x5.i.toNat).fld 0).i < (0 : Int))) then (T.bool true) else (T.bool (decide (((x3.nth x5.i.toNat).fld 0).i ≥ (4 : Int))))).b == false) then C F_impl_keepable [x1, ((x3.nth x5.i.toNat).fld 1)] else some [])) fun r1 =>
                      bif ((!((bif (decide (((x3.nth x5.i.toNat).fld 0).i < (0 : Int))) then (T.bool true) else (T.bool (decide (((x3.nth x5.i.toNat).fld 0).i ≥ (4 : Int))))).b == false)) || ((bif (decide (((x3.nth x5.i.toNat).fld 0).i < (0 : Int))) then (T.bool true) else (T.bool (decide (((x3.nth x5.i.toNat).fld 0).i ≥ (4 : Int))))).b == false)) then
                        bif (bif (bif (decide (((x3.nth x5.i.toNat).fld 0).i < (0 : Int))) then (T.bool true) else (T.bool (decide (((x3.nth x5.i.toNat).fld 0).i ≥ (4 : Int))))).b then true else ((bif (decide (((x3.nth x5.i.toNat).fld 0).i < (0 : Int))) then (T.bool true) else (T.bool (decide (((x3.nth x5.i.toNat).fld 0).i ≥ (4 : Int))))).b == false)) then
                          bif (bif (bif (decide (((x3.nth x5.i.toNat).fld 0).i < (0 : Int))) then (T.bool true) else (T.bool (decide (((x3.nth x5.i.toNat).fld 0).i ≥ (4 : Int))))).b then (T.bool true) else (T.bool (!(rt r1 0).b))).b then
                            some [(T.bool false)]
                          else
                            bif ((!((decide (x5.i > (0 : Int))) == true)) || true) then
                              bif ((!((decide (x5.i > (0 : Int))) == true)) || true) then
                                bif ((!((decide (x5.i > (0 : Int))) == true)) || ((((decide (x5.i > (0 : Int))) == true) && true) && true)) then
                                  bif ((!((decide (x5.i > (0 : Int))) == true)) || ((((decide (x5.i > (0 : Int))) == true) && (((decide (x5.i > (0 : Int))) == true) && true)) && (decide (0 ≤ (IntKind.wrap .i64 (x5.i - (1 : Int)))) && decide ((IntKind.wrap .i64 (x5.i - (1 : Int))).toNat < x2.es.length)))) then
                                    bif ((!((decide (x5.i > (0 : Int))) == true)) || ((decide (x5.i > (0 : Int))) == true)) then
                                      bif ((!((decide (x5.i > (0 : Int))) == true)) || true) then
                                        bif ((!((decide (x5.i > (0 : Int))) == true)) || (((decide (x5.i > (0 : Int))) == true) && (((decide (x5.i > (0 : Int))) == true) && true))) then
                                          obind ((bif ((decide (x5.i > (0 : Int))) == true) then C F_impl_vaultBefore [(x2.nth ((IntKind.wrap .i64 (x5.i - (1 : Int))).toNat)), (x3.nth x5.i.toNat)] else some [])) fun r2 =>
                                          bif ((!((decide (x5.i > (0 : Int))) == true)) || ((decide (x5.i > (0 : Int))) == true)) then
                                            bif (bif (decide (x5.i > (0 : Int))) then ((decide (x5.i > (0 : Int))) == true) else true) then
                                              bif (bif (decide (x5.i > (0 : Int))) then (T.bool (!(rt r2 0).b)) else (T.bool false)).b then
                                                some [(T.bool false)]
                                              else
                                                l_impl_VaultsOk_0 H x1 x2 x3 x4 (T.int (IntKind.wrap .i64 (x5.i + (1 : Int))))
                                            else
                                              none
                                          else
                                            none
                                        else
                                          none
                                      else
                                        none
                                    else
                                      none
                                  else
                                    none
                                else
                                  none
                              else
                                none
                            else
                              none
                        else
                          none
                      else
                        none
                    else
                      none
                  else
                    none
                else
                  none
              else
                none
            else
              none
          else
            none
        else
          none
      else
        none
    else
      none
  else
    some [(T.bool true)] := by kernel_rfl
theorem q_impl_VaultsOk_0 (H : List Item → CS → R) (C : CallsE) (x1 : T) (x2 : T) (x3 : T) (x4 : T) (x5 : T) : headE fi_impl_VaultsOk env H C (hdAt fi_impl_VaultsOk.body 0) ([(0, .val 27 x1), (1, .val 29 x2), (15, .val 29 x3), (16, .val 3 x4), (17, .val 3 x5)], []) =
  bif (decide (x5.i < x4.i)) then
    bif (decide (0 ≤ x5.i) && decide (x5.i.toNat < x3.es.length)) then
      bif (decide (((x3.nth x5.i.toNat).fld 0).i < (0 : Int))) then
        some [(T.bool false)]
      else
        bif (decide (((x3.nth x5.i.toNat).fld 0).i ≥ (4 : Int))) then
          some [(T.bool false)]
        else
          obind (C F_impl_keepable [x1, ((x3.nth x5.i.toNat).fld 1)]) fun r1 =>
          bif (!(rt r1 0).b) then
            some [(T.bool false)]
          else
            bif (decide (x5.i > (0 : Int))) then
              bif (decide (0 ≤ (IntKind.wrap .i64 (x5.i - (1 : Int)))) && decide ((IntKind.wrap .i64 (x5.i - (1 : Int))).toNat < x2.es.length)) then
                obind (C F_impl_vaultBefore [(x2.nth ((IntKind.wrap .i64 (x5.i - (1 : Int))).toNat)), (x3.nth x5.i.toNat)]) fun r2 =>
                bif (!(rt r2 0).b) then
                  some [(T.bool false)]
                else
                  l_impl_VaultsOk_0 H x1 x2 x3 x4 (T.int (IntKind.wrap .i64 (x5.i + (1 : Int))))
              else
                none
            else
              l_impl_VaultsOk_0 H x1 x2 x3 x4 (T.int (IntKind.wrap .i64 (x5.i + (1 : Int))))
    else
      none
  else
    some [(T.bool true)] := by
  rw [e_impl_VaultsOk_0 H C x1 x2 x3 x4 x5]
  all_goals cases hc : ((decide (x5.i < x4.i))) with
  | true =>
    try simp only [obind_some, cond_true, cond_false, tb_bool, beq_tt, beq_ft, beq_tf, beq_ff, Bool.not_true, Bool.not_false, Bool.true_and, Bool.false_and, Bool.true_or, Bool.false_or]
    all_goals cases hc : ((decide (0 ≤ x5.i) && decide (x5.i.toNat < x3.es.length))) with
    | true =>
      try simp only [obind_some, cond_true, cond_false, tb_bool, beq_tt, beq_ft, beq_tf, beq_ff, Bool.not_true, Bool.not_false, Bool.true_and, Bool.false_and, Bool.true_or, Bool.false_or]
      all_goals cases hc : ((decide (((x3.nth x5.i.toNat).fld 0).i < (0 : Int)))) with
      | true =>
        try simp only [obind_some, cond_true, cond_false, tb_bool, beq_tt, beq_ft, beq_tf, beq_ff, Bool.not_true, Bool.not_false, Bool.true_and, Bool.false_and, Bool.true_or, Bool.false_or]
        all_goals kernel_rfl
      | false =>
        try simp only [obind_some, cond_true, cond_false, tb_bool, beq_tt, beq_ft, beq_tf, beq_ff, Bool.not_true, Bool.not_false, Bool.true_and, Bool.false_and, Bool.true_or, Bool.false_or]
        all_goals cases hc : ((decide (((x3.nth x5.i.toNat).fld 0).i ≥ (4 : Int)))) with
        | true =>
          try simp only [obind_some, cond_true, cond_false, tb_bool, beq_tt, beq_ft, beq_tf, beq_ff, Bool.not_true, Bool.not_false, Bool.true_and, Bool.false_and, Bool.true_or, Bool.false_or]
          all_goals kernel_rfl
        | false =>
          try simp only [obind_some, cond_true, cond_false, tb_bool, beq_tt, beq_ft, beq_tf, beq_ff, Bool.not_true, Bool.not_false, Bool.true_and, Bool.false_and, Bool.true_or, Bool.false_or]
          all_goals refine obind_congr fun r1 => ?_
          all_goals try simp only [obind_some, cond_true, cond_false, tb_bool, beq_tt, beq_ft, beq_tf, beq_ff, Bool.not_true, Bool.not_false, Bool.true_and, Bool.false_and, Bool.true_or, Bool.false_or]
          all_goals cases hc : ((!(rt r1 0).b)) with
          | true =>
            try simp only [obind_some, cond_true, cond_false, tb_bool, beq_tt, beq_ft, beq_tf, beq_ff, Bool.not_true, Bool.not_false, Bool.true_and, Bool.false_and, Bool.true_or, Bool.false_or]
            all_goals kernel_rfl
          | false =>
            try simp only [obind_some, cond_true, cond_false, tb_bool, beq_tt, beq_ft, beq_tf, beq_ff, Bool.not_true, Bool.not_false, Bool.true_and, Bool.false_and, Bool.true_or, Bool.false_or]
            all_goals cases hc : ((decide (x5.i > (0 : Int)))) with
            | true =>
              try simp only [obind_some, cond_true, cond_false, tb_bool, beq_tt, beq_ft, beq_tf, beq_ff, Bool.not_true, Bool.not_false, Bool.true_and, Bool.false_and, Bool.true_or, Bool.false_or]
              all_goals cases hc : ((decide (0 ≤ (IntKind.wrap .i64 (x5.i - (1 : Int)))) && decide ((IntKind.wrap .i64 (x5.i - (1 : Int))).toNat < x2.es.length))) with
              | true =>
                try simp only [obind_some, cond_true, cond_false, tb_bool, beq_tt, beq_ft, beq_tf, beq_ff, Bool.not_true, Bool.not_false, Bool.true_and, Bool.false_and, Bool.true_or, Bool.false_or]
                all_goals refine obind_congr fun r2 => ?_
                all_goals try simp only [obind_some, cond_true, cond_false, tb_bool, beq_tt, beq_ft, beq_tf, beq_ff, Bool.not_true, Bool.not_false, Bool.true_and, Bool.false_and, Bool.true_or, Bool.false_or]
                all_goals cases hc : ((!(rt r2 0).b)) with
                | true =>
                  try simp only [obind_some, cond_true, cond_false, tb_bool, beq_tt, beq_ft, beq_tf, beq_ff, Bool.not_true, Bool.not_false, Bool.true_and, Bool.false_and, Bool.true_or, Bool.false_or]
                  all_goals kernel_rfl
                | false =>
                  try simp only [obind_some, cond_true, cond_false, tb_bool, beq_tt, beq_ft, beq_tf, beq_ff, Bool.not_true, Bool.not_false, Bool.true_and, Bool.false_and, Bool.true_or, Bool.false_or]
                  all_goals kernel_rfl
              | false =>
                try simp only [obind_some, cond_true, cond_false, tb_bool, beq_tt, beq_ft, beq_tf, beq_ff, Bool.not_true, Bool.not_false, Bool.true_and, Bool.false_and, Bool.true_or, Bool.false_or]
                all_goals kernel_rfl
            | false =>
              try simp only [obind_some, cond_true, cond_false, tb_bool, beq_tt, beq_ft, beq_tf, beq_ff, Bool.not_true, Bool.not_false, Bool.true_and, Bool.false_and, Bool.true_or, Bool.false_or]
              all_goals kernel_rfl
    | false =>
      try simp only [obind_some, cond_true, cond_false, tb_bool, beq_tt, beq_ft, beq_tf, beq_ff, Bool.not_true, Bool.not_false, Bool.true_and, Bool.false_and, Bool.true_or, Bool.false_or]
      all_goals kernel_rfl
  | false =>
    try simp only [obind_some, cond_true, cond_false, tb_bool, beq_tt, beq_ft, beq_tf, beq_ff, Bool.not_true, Bool.not_false, Bool.true_and, Bool.false_and, Bool.true_or, Bool.false_or]
    all_goals kernel_rfl
theorem y_impl_VaultsOk_0 (x1 : T) (x2 : T) (x3 : T) (x4 : T) (x5 : T) {r : List T} (h : Yields (fun k =>
  bif (decide (x5.i < x4.i)) then
    bif (decide (0 ≤ x5.i) && decide (x5.i.toNat < x3.es.length)) then
      bif (decide (((x3.nth x5.i.toNat).fld 0).i < (0 : Int))) then
        some [(T.bool false)]
      else
        bif (decide (((x3.nth x5.i.toNat).fld 0).i ≥ (4 : Int))) then
          some [(T.bool false)]
        else
          obind (cl env k F_impl_keepable [x1, ((x3.nth x5.i.toNat).fld 1)]) fun r1 =>
          bif (!(rt r1 0).b) then
            some [(T.bool false)]
          else
            bif (decide (x5.i > (0 : Int))) then
              bif (decide (0 ≤ (IntKind.wrap .i64 (x5.i - (1 : Int)))) && decide ((IntKind.wrap .i64 (x5.i - (1 : Int))).toNat < x2.es.length)) then
                obind (cl env k F_impl_vaultBefore [(x2.nth ((IntKind.wrap .i64 (x5.i - (1 : Int))).toNat)), (x3.nth x5.i.toNat)]) fun r2 =>
                bif (!(rt r2 0).b) then
                  some [(T.bool false)]
                else
                  l_impl_VaultsOk_0 (hl env k fi_impl_VaultsOk) x1 x2 x3 x4 (T.int (IntKind.wrap .i64 (x5.i + (1 : Int))))
              else
                none
            else
              l_impl_VaultsOk_0 (hl env k fi_impl_VaultsOk) x1 x2 x3 x4 (T.int (IntKind.wrap .i64 (x5.i + (1 : Int))))
    else
      none
  else
    some [(T.bool true)]) r) : Yields (fun k => l_impl_VaultsOk_0 (hl env k fi_impl_VaultsOk) x1 x2 x3 x4 x5) r := Yields.head (fun H C => q_impl_VaultsOk_0 H C x1 x2 x3 x4 x5) h
/- loop.example/heirlooms/impl.kindIn -/
theorem e_impl_kindIn (H : List Item → CS → R) (C : CallsE) (a0 a1 : T) : enterE fi_impl_kindIn env H C [a0, a1] =
  obind (C F_impl_kindAt [a1]) fun r1 =>
  bif ((!((rt r1 2).b == true)) || true) then
    bif ((!((rt r1 2).b == true)) || true) then
      bif ((!((rt r1 2).b == true)) || ((rt r1 2).b == true)) then
        bif ((!((rt r1 2).b == true)) || ((((rt r1 2).b == true) && ((rt r1 2).b == true)) && true)) then
          bif (bif (rt r1 2).b then ((rt r1 2).b == true) else true) then
            bif ((!((bif (rt r1 2).b then (T.bool (decide ((rt r1 0).i < (a0.es.length : Int)))) else (T.bool false)).b == true)) || true) then
              bif ((!((bif (rt r1 2).b then (T.bool (decide ((rt r1 0).i < (a0.es.length : Int)))) else (T.bool false)).b == true)) || true) then
                bif ((!((bif (rt r1 2).b then (T.bool (decide ((rt r1 0).i < (a0.es.length : Int)))) else (T.bool false)).b == true)) || true) then
                  bif ((!((bif (rt r1 2).b then (T.bool (decide ((rt r1 0).i < (a0.es.length : Int)))) else (T.bool false)).b == true)) || ((((bif (rt r1 2).b then (T.bool (decide ((rt r1 0).i < (a0.es.length : Int)))) else (T.bool false)).b == true) && (((bif (rt r1 2).b then (T.bool (decide ((rt r1 0).i < (a0.es.length : Int)))) else (T.bool false)).b == true) && true)) && (decide (0 ≤ (rt r1 0).i) && decide (((rt r1 0).i).toNat < a0.es.length)))) then
                    bif ((!((bif (rt r1 2).b then (T.bool (decide ((rt r1 0).i < (a0.es.length : Int)))) else (T.bool false)).b == true)) || ((bif (rt r1 2).b then (T.bool (decide ((rt r1 0).i < (a0.es.length : Int)))) else (T.bool false)).b == true)) then
                      bif ((!((bif (rt r1 2).b then (T.bool (decide ((rt r1 0).i < (a0.es.length : Int)))) else (T.bool false)).b == true)) || ((bif (rt r1 2).b then (T.bool (decide ((rt r1 0).i < (a0.es.length : Int)))) else (T.bool false)).b == true)) then
                        bif ((!((bif (rt r1 2).b then (T.bool (decide ((rt r1 0).i < (a0.es.length : Int)))) else (T.bool false)).b == true)) || ((((bif (rt r1 2).b then (T.bool (decide ((rt r1 0).i < (a0.es.length : Int)))) else (T.bool false)).b == true) && ((bif (rt r1 2).b then (T.bool (decide ((rt r1 0).i < (a0.es.length : Int)))) else (T.bool false)).b == true)) && true)) then
                          bif (bif (bif (rt r1 2).b then (T.bool (decide ((rt r1 0).i < (a0.es.length : Int)))) else (T.bool false)).b then ((bif (rt r1 2).b then (T.bool (decide ((rt r1 0).i < (a0.es.length : Int)))) else (T.bool false)).b == true) else true) then
                            some [(bif (bif (rt r1 2).b then (T.bool (decide ((rt r1 0).i < (a0.es.length : Int)))) else (T.bool false)).b then (T.bool (decide ((rt r1 1).i < (((a0.nth (((rt r1 0).i).toNat)).es).length : Int)))) else (T.bool false))]
                          else
                            none
                        else
                          none
                      else
                        none
                    else
                      none
                  else
                    none
                else
                  none
              else
                none
            else
              none
          else
            none
        else
          none
      else
        none
    else
      none
  else
    none := by kernel_rfl
theorem q_impl_kindIn (H : List Item → CS → R) (C : CallsE) (a0 a1 : T) : enterE fi_impl_kindIn env H C [a0, a1] =
  obind (C F_impl_kindAt [a1]) fun r1 =>
  bif (rt r1 2).b then
    bif (decide ((rt r1 0).i < (a0.es.length : Int))) then
      bif (decide (0 ≤ (rt r1 0).i) && decide (((rt r1 0).i).toNat < a0.es.length)) then
        some [(T.bool (decide ((rt r1 1).i < (((a0.nth (((rt r1 0).i).toNat)).es).length : Int))))]
      else
        none
    else
      some [(T.bool false)]
  else
    some [(T.bool false)] := by
  rw [e_impl_kindIn H C a0 a1]
  all_goals refine obind_congr fun r1 => ?_
  all_goals try simp only [obind_some, cond_true, cond_false, tb_bool, beq_tt, beq_ft, beq_tf, beq_ff, Bool.not_true, Bool.not_false, Bool.true_and, Bool.false_and, Bool.true_or, Bool.false_or]
  all_goals cases hc : ((rt r1 2).b) with
  | true =>
    try simp only [obind_some, cond_true, cond_false, tb_bool, beq_tt, beq_ft, beq_tf, beq_ff, Bool.not_true, Bool.not_false, Bool.true_and, Bool.false_and, Bool.true_or, Bool.false_or]
    all_goals cases hc : ((decide ((rt r1 0).i < (a0.es.length : Int)))) with
    | true =>
      try simp only [obind_some, cond_true, cond_false, tb_bool, beq_tt, beq_ft, beq_tf, beq_ff, Bool.not_true, Bool.not_false, Bool.true_and, Bool.false_and, Bool.true_or, Bool.false_or]
      all_goals cases hc : ((decide (0 ≤ (rt r1 0).i) && decide (((rt r1 0).i).toNat < a0.es.length))) with
      | true =>
        try simp only [obind_some, cond_true, cond_false, tb_bool, beq_tt, beq_ft, beq_tf, beq_ff, Bool.not_true, Bool.not_false, Bool.true_and, Bool.false_and, Bool.true_or, Bool.false_or]
        all_goals kernel_rfl
      | false =>
        try simp only [obind_some, cond_true, cond_false, tb_bool, beq_tt, beq_ft, beq_tf, beq_ff, Bool.not_true, Bool.not_false, Bool.true_and, Bool.false_and, Bool.true_or, Bool.false_or]
        all_goals kernel_rfl
    | false =>
      try simp only [obind_some, cond_true, cond_false, tb_bool, beq_tt, beq_ft, beq_tf, beq_ff, Bool.not_true, Bool.not_false, Bool.true_and, Bool.false_and, Bool.true_or, Bool.false_or]
      all_goals kernel_rfl
  | false =>
    try simp only [obind_some, cond_true, cond_false, tb_bool, beq_tt, beq_ft, beq_tf, beq_ff, Bool.not_true, Bool.not_false, Bool.true_and, Bool.false_and, Bool.true_or, Bool.false_or]
    all_goals kernel_rfl
theorem y_impl_kindIn (a0 a1 : T) {r : List T} (h : Yields (fun k =>
  obind (cl env k F_impl_kindAt [a1]) fun r1 =>
  bif (rt r1 2).b then
    bif (decide ((rt r1 0).i < (a0.es.length : Int))) then
      bif (decide (0 ≤ (rt r1 0).i) && decide (((rt r1 0).i).toNat < a0.es.length)) then
        some [(T.bool (decide ((rt r1 1).i < (((a0.nth (((rt r1 0).i).toNat)).es).length : Int))))]
      else
        none
    else
      some [(T.bool false)]
  else
    some [(T.bool false)]) r) : Yields (fun k => cl env k F_impl_kindIn [a0, a1]) r := Yields.call (fi := fi_impl_kindIn) rfl (fun H C => q_impl_kindIn H C a0 a1) h
noncomputable def l_impl_countIn_0 (H : List Item → CS → R) (x1 : T) (x2 : T) (x3 : T) (x4 : T) (x5 : T) : R := H (hdAt fi_impl_countIn.body 0) ([(1, .val 9 x1), (5, .val 3 x2), (13, .val 34 x3), (14, .val 3 x4), (15, .val 3 x5)], [])
/- loop.example/heirlooms/impl.countIn -/
theorem q_impl_countIn (H : List Item → CS → R) (C : CallsE) (a0 a1 : T) : enterE fi_impl_countIn env H C [a0, a1] =
  bif (((a0.fld 0).s).toList == a1.s.toList) then
    l_impl_countIn_0 H a1 (T.int (1 : Int)) (a0.fld 2) (T.int (((a0.fld 2).es).length : Int)) (T.int (0 : Int))
  else
    l_impl_countIn_0 H a1 (T.int (0 : Int)) (a0.fld 2) (T.int (((a0.fld 2).es).length : Int)) (T.int (0 : Int)) := by kernel_rfl
theorem y_impl_countIn (a0 a1 : T) {r : List T} (h : Yields (fun k =>
  bif (((a0.fld 0).s).toList == a1.s.toList) then
    l_impl_countIn_0 (hl env k fi_impl_countIn) a1 (T.int (1 : Int)) (a0.fld 2) (T.int (((a0.fld 2).es).length : Int)) (T.int (0 : Int))
  else
    l_impl_countIn_0 (hl env k fi_impl_countIn) a1 (T.int (0 : Int)) (a0.fld 2) (T.int (((a0.fld 2).es).length : Int)) (T.int (0 : Int))) r) : Yields (fun k => cl env k F_impl_countIn [a0, a1]) r := Yields.call (fi := fi_impl_countIn) rfl (fun H C => q_impl_countIn H C a0 a1) h
theorem q_impl_countIn_0 (H : List Item → CS → R) (C : CallsE) (x1 : T) (x2 : T) (x3 : T) (x4 : T) (x5 : T) : headE fi_impl_countIn env H C (hdAt fi_impl_countIn.body 0) ([(1, .val 9 x1), (5, .val 3 x2), (13, .val 34 x3), (14, .val 3 x4), (15, .val 3 x5)], []) =
  bif (decide (x5.i < x4.i)) then
    bif (decide (0 ≤ x5.i) && decide (x5.i.toNat < x3.es.length)) then
      obind (C F_impl_countIn [(x3.nth x5.i.toNat), x1]) fun r1 =>
      l_impl_countIn_0 H x1 (T.int (IntKind.wrap .i64 (x2.i + (rt r1 0).i))) x3 x4 (T.int (IntKind.wrap .i64 (x5.i + (1 : Int))))
    else
      none
  else
    some [x2] := by kernel_rfl
theorem y_impl_countIn_0 (x1 : T) (x2 : T) (x3 : T) (x4 : T) (x5 : T) {r : List T} (h : Yields (fun k =>
  bif (decide (x5.i < x4.i)) then
    bif (decide (0 ≤ x5.i) && decide (x5.i.toNat < x3.es.length)) then
      obind (cl env k F_impl_countIn [(x3.nth x5.i.toNat), x1]) fun r1 =>
      l_impl_countIn_0 (hl env k fi_impl_countIn) x1 (T.int (IntKind.wrap .i64 (x2.i + (rt r1 0).i))) x3 x4 (T.int (IntKind.wrap .i64 (x5.i + (1 : Int))))
    else
      none
  else
    some [x2]) r) : Yields (fun k => l_impl_countIn_0 (hl env k fi_impl_countIn) x1 x2 x3 x4 x5) r := Yields.head (fun H C => q_impl_countIn_0 H C x1 x2 x3 x4 x5) h
noncomputable def l_laws_eqRecordS_0 (H : List Item → CS → R) (x1 : T) (x2 : T) (x3 : T) : R := H (hdAt fi_laws_eqRecordS.body 0) ([(0, .val 67 x1), (1, .val 67 x2), (5, .val 3 x3)], [])
/- loop.example/heirlooms/laws.eqRecordS -/
theorem q_laws_eqRecordS (H : List Item → CS → R) (C : CallsE) (a0 a1 : T) : enterE fi_laws_eqRecordS env H C [a0, a1] =
  bif ((a0.es.length : Int) != (a1.es.length : Int)) then
    some [(T.bool false)]
  else
    l_laws_eqRecordS_0 H a0 a1 (T.int (0 : Int)) := by kernel_rfl
theorem y_laws_eqRecordS (a0 a1 : T) {r : List T} (h : Yields (fun k =>
  bif ((a0.es.length : Int) != (a1.es.length : Int)) then
    some [(T.bool false)]
  else
    l_laws_eqRecordS_0 (hl env k fi_laws_eqRecordS) a0 a1 (T.int (0 : Int))) r) : Yields (fun k => cl env k F_laws_eqRecordS [a0, a1]) r := Yields.call (fi := fi_laws_eqRecordS) rfl (fun H C => q_laws_eqRecordS H C a0 a1) h
theorem q_laws_eqRecordS_0 (H : List Item → CS → R) (C : CallsE) (x1 : T) (x2 : T) (x3 : T) : headE fi_laws_eqRecordS env H C (hdAt fi_laws_eqRecordS.body 0) ([(0, .val 67 x1), (1, .val 67 x2), (5, .val 3 x3)], []) =
  bif (decide (x3.i < (x1.es.length : Int))) then
    bif (decide (0 ≤ x3.i) && decide (x3.i.toNat < x1.es.length)) then
      bif (decide (0 ≤ x3.i) && decide (x3.i.toNat < x2.es.length)) then
        obind (C F_laws_eqRecord [(x1.nth x3.i.toNat), (x2.nth x3.i.toNat)]) fun r1 =>
        bif (!(rt r1 0).b) then
          some [(T.bool false)]
        else
          l_laws_eqRecordS_0 H x1 x2 (T.int (IntKind.wrap .i64 (x3.i + (1 : Int))))
      else
        none
    else
      none
  else
    some [(T.bool true)] := by kernel_rfl
theorem y_laws_eqRecordS_0 (x1 : T) (x2 : T) (x3 : T) {r : List T} (h : Yields (fun k =>
  bif (decide (x3.i < (x1.es.length : Int))) then
    bif (decide (0 ≤ x3.i) && decide (x3.i.toNat < x1.es.length)) then
      bif (decide (0 ≤ x3.i) && decide (x3.i.toNat < x2.es.length)) then
        obind (cl env k F_laws_eqRecord [(x1.nth x3.i.toNat), (x2.nth x3.i.toNat)]) fun r1 =>
        bif (!(rt r1 0).b) then
          some [(T.bool false)]
        else
          l_laws_eqRecordS_0 (hl env k fi_laws_eqRecordS) x1 x2 (T.int (IntKind.wrap .i64 (x3.i + (1 : Int))))
      else
        none
    else
      none
  else
    some [(T.bool true)]) r) : Yields (fun k => l_laws_eqRecordS_0 (hl env k fi_laws_eqRecordS) x1 x2 x3) r := Yields.head (fun H C => q_laws_eqRecordS_0 H C x1 x2 x3) h
/- loop.example/heirlooms/laws.eqKept -/
theorem q_laws_eqKept (H : List Item → CS → R) (C : CallsE) (a0 a1 : T) : enterE fi_laws_eqKept env H C [a0, a1] =
  bif ((a0.fld 0).i != (a1.fld 0).i) then
    some [(T.bool false)]
  else
    obind (C F_laws_eqValue [(a0.fld 1), (a1.fld 1)]) fun r1 =>
    bif (!(rt r1 0).b) then
      some [(T.bool false)]
    else
      some [(T.bool true)] := by kernel_rfl
theorem y_laws_eqKept (a0 a1 : T) {r : List T} (h : Yields (fun k =>
  bif ((a0.fld 0).i != (a1.fld 0).i) then
    some [(T.bool false)]
  else
    obind (cl env k F_laws_eqValue [(a0.fld 1), (a1.fld 1)]) fun r1 =>
    bif (!(rt r1 0).b) then
      some [(T.bool false)]
    else
      some [(T.bool true)]) r) : Yields (fun k => cl env k F_laws_eqKept [a0, a1]) r := Yields.call (fi := fi_laws_eqKept) rfl (fun H C => q_laws_eqKept H C a0 a1) h
noncomputable def l_laws_eqValueS_0 (H : List Item → CS → R) (x1 : T) (x2 : T) (x3 : T) : R := H (hdAt fi_laws_eqValueS.body 0) ([(0, .val 34 x1), (1, .val 34 x2), (5, .val 3 x3)], [])
/- loop.example/heirlooms/laws.eqValueS -/
theorem q_laws_eqValueS (H : List Item → CS → R) (C : CallsE) (a0 a1 : T) : enterE fi_laws_eqValueS env H C [a0, a1] =
  bif ((a0.es.length : Int) != (a1.es.length : Int)) then
    some [(T.bool false)]
  else
    l_laws_eqValueS_0 H a0 a1 (T.int (0 : Int)) := by kernel_rfl
theorem y_laws_eqValueS (a0 a1 : T) {r : List T} (h : Yields (fun k =>
  bif ((a0.es.length : Int) != (a1.es.length : Int)) then
    some [(T.bool false)]
  else
    l_laws_eqValueS_0 (hl env k fi_laws_eqValueS) a0 a1 (T.int (0 : Int))) r) : Yields (fun k => cl env k F_laws_eqValueS [a0, a1]) r := Yields.call (fi := fi_laws_eqValueS) rfl (fun H C => q_laws_eqValueS H C a0 a1) h
theorem q_laws_eqValueS_0 (H : List Item → CS → R) (C : CallsE) (x1 : T) (x2 : T) (x3 : T) : headE fi_laws_eqValueS env H C (hdAt fi_laws_eqValueS.body 0) ([(0, .val 34 x1), (1, .val 34 x2), (5, .val 3 x3)], []) =
  bif (decide (x3.i < (x1.es.length : Int))) then
    bif (decide (0 ≤ x3.i) && decide (x3.i.toNat < x1.es.length)) then
      bif (decide (0 ≤ x3.i) && decide (x3.i.toNat < x2.es.length)) then
        obind (C F_laws_eqValue [(x1.nth x3.i.toNat), (x2.nth x3.i.toNat)]) fun r1 =>
        bif (!(rt r1 0).b) then
          some [(T.bool false)]
        else
          l_laws_eqValueS_0 H x1 x2 (T.int (IntKind.wrap .i64 (x3.i + (1 : Int))))
      else
        none
    else
      none
  else
    some [(T.bool true)] := by kernel_rfl
theorem y_laws_eqValueS_0 (x1 : T) (x2 : T) (x3 : T) {r : List T} (h : Yields (fun k =>
  bif (decide (x3.i < (x1.es.length : Int))) then
    bif (decide (0 ≤ x3.i) && decide (x3.i.toNat < x1.es.length)) then
      bif (decide (0 ≤ x3.i) && decide (x3.i.toNat < x2.es.length)) then
        obind (cl env k F_laws_eqValue [(x1.nth x3.i.toNat), (x2.nth x3.i.toNat)]) fun r1 =>
        bif (!(rt r1 0).b) then
          some [(T.bool false)]
        else
          l_laws_eqValueS_0 (hl env k fi_laws_eqValueS) x1 x2 (T.int (IntKind.wrap .i64 (x3.i + (1 : Int))))
      else
        none
    else
      none
  else
    some [(T.bool true)]) r) : Yields (fun k => l_laws_eqValueS_0 (hl env k fi_laws_eqValueS) x1 x2 x3) r := Yields.head (fun H C => q_laws_eqValueS_0 H C x1 x2 x3) h
noncomputable def l_laws_eqIntS_0 (H : List Item → CS → R) (x1 : T) (x2 : T) (x3 : T) : R := H (hdAt fi_laws_eqIntS.body 0) ([(0, .val 35 x1), (1, .val 35 x2), (5, .val 3 x3)], [])
/- loop.example/heirlooms/laws.eqIntS -/
theorem q_laws_eqIntS (H : List Item → CS → R) (C : CallsE) (a0 a1 : T) : enterE fi_laws_eqIntS env H C [a0, a1] =
  bif ((a0.es.length : Int) != (a1.es.length : Int)) then
    some [(T.bool false)]
  else
    l_laws_eqIntS_0 H a0 a1 (T.int (0 : Int)) := by kernel_rfl
theorem y_laws_eqIntS (a0 a1 : T) {r : List T} (h : Yields (fun k =>
  bif ((a0.es.length : Int) != (a1.es.length : Int)) then
    some [(T.bool false)]
  else
    l_laws_eqIntS_0 (hl env k fi_laws_eqIntS) a0 a1 (T.int (0 : Int))) r) : Yields (fun k => cl env k F_laws_eqIntS [a0, a1]) r := Yields.call (fi := fi_laws_eqIntS) rfl (fun H C => q_laws_eqIntS H C a0 a1) h
theorem q_laws_eqIntS_0 (H : List Item → CS → R) (C : CallsE) (x1 : T) (x2 : T) (x3 : T) : headE fi_laws_eqIntS env H C (hdAt fi_laws_eqIntS.body 0) ([(0, .val 35 x1), (1, .val 35 x2), (5, .val 3 x3)], []) =
  bif (decide (x3.i < (x1.es.length : Int))) then
    bif (decide (0 ≤ x3.i) && decide (x3.i.toNat < x1.es.length)) then
      bif (decide (0 ≤ x3.i) && decide (x3.i.toNat < x2.es.length)) then
        bif ((x1.nth x3.i.toNat).i != (x2.nth x3.i.toNat).i) then
          some [(T.bool false)]
        else
          l_laws_eqIntS_0 H x1 x2 (T.int (IntKind.wrap .i64 (x3.i + (1 : Int))))
      else
        none
    else
      none
  else
    some [(T.bool true)] := by kernel_rfl
theorem y_laws_eqIntS_0 (x1 : T) (x2 : T) (x3 : T) {r : List T} (h : Yields (fun k =>
  bif (decide (x3.i < (x1.es.length : Int))) then
    bif (decide (0 ≤ x3.i) && decide (x3.i.toNat < x1.es.length)) then
      bif (decide (0 ≤ x3.i) && decide (x3.i.toNat < x2.es.length)) then
        bif ((x1.nth x3.i.toNat).i != (x2.nth x3.i.toNat).i) then
          some [(T.bool false)]
        else
          l_laws_eqIntS_0 (hl env k fi_laws_eqIntS) x1 x2 (T.int (IntKind.wrap .i64 (x3.i + (1 : Int))))
      else
        none
    else
      none
  else
    some [(T.bool true)]) r) : Yields (fun k => l_laws_eqIntS_0 (hl env k fi_laws_eqIntS) x1 x2 x3) r := Yields.head (fun H C => q_laws_eqIntS_0 H C x1 x2 x3) h
noncomputable def l_laws_szValueS_0 (H : List Item → CS → R) (x1 : T) (x2 : T) (x3 : T) : R := H (hdAt fi_laws_szValueS.body 0) ([(0, .val 45 x1), (1, .val 3 x2), (5, .val 3 x3)], [])
/- loop.example/heirlooms/laws.szValueS -/
theorem q_laws_szValueS (H : List Item → CS → R) (C : CallsE) (a0 a1 : T) : enterE fi_laws_szValueS env H C [a0, a1] =
  bif (decide ((IntKind.wrap .i64 (a1.i - (a0.es.length : Int))) < (0 : Int))) then
    some [(T.int (-1 : Int))]
  else
    l_laws_szValueS_0 H a0 (T.int (IntKind.wrap .i64 (a1.i - (a0.es.length : Int)))) (T.int (0 : Int)) := by kernel_rfl
theorem y_laws_szValueS (a0 a1 : T) {r : List T} (h : Yields (fun k =>
  bif (decide ((IntKind.wrap .i64 (a1.i - (a0.es.length : Int))) < (0 : Int))) then
    some [(T.int (-1 : Int))]
  else
    l_laws_szValueS_0 (hl env k fi_laws_szValueS) a0 (T.int (IntKind.wrap .i64 (a1.i - (a0.es.length : Int)))) (T.int (0 : Int))) r) : Yields (fun k => cl env k F_laws_szValueS [a0, a1]) r := Yields.call (fi := fi_laws_szValueS) rfl (fun H C => q_laws_szValueS H C a0 a1) h
theorem q_laws_szValueS_0 (H : List Item → CS → R) (C : CallsE) (x1 : T) (x2 : T) (x3 : T) : headE fi_laws_szValueS env H C (hdAt fi_laws_szValueS.body 0) ([(0, .val 45 x1), (1, .val 3 x2), (5, .val 3 x3)], []) =
  bif (decide (x3.i < (x1.es.length : Int))) then
    bif (decide (0 ≤ x3.i) && decide (x3.i.toNat < x1.es.length)) then
      obind (C F_laws_szValue [(x1.nth x3.i.toNat), x2]) fun r1 =>
      bif (decide ((rt r1 0).i < (0 : Int))) then
        some [(T.int (-1 : Int))]
      else
        l_laws_szValueS_0 H x1 (rt r1 0) (T.int (IntKind.wrap .i64 (x3.i + (1 : Int))))
    else
      none
  else
    some [x2] := by kernel_rfl
theorem y_laws_szValueS_0 (x1 : T) (x2 : T) (x3 : T) {r : List T} (h : Yields (fun k =>
  bif (decide (x3.i < (x1.es.length : Int))) then
    bif (decide (0 ≤ x3.i) && decide (x3.i.toNat < x1.es.length)) then
      obind (cl env k F_laws_szValue [(x1.nth x3.i.toNat), x2]) fun r1 =>
      bif (decide ((rt r1 0).i < (0 : Int))) then
        some [(T.int (-1 : Int))]
      else
        l_laws_szValueS_0 (hl env k fi_laws_szValueS) x1 (rt r1 0) (T.int (IntKind.wrap .i64 (x3.i + (1 : Int))))
    else
      none
  else
    some [x2]) r) : Yields (fun k => l_laws_szValueS_0 (hl env k fi_laws_szValueS) x1 x2 x3) r := Yields.head (fun H C => q_laws_szValueS_0 H C x1 x2 x3) h
/- loop.example/heirlooms/laws.szIntS -/
theorem q_laws_szIntS (H : List Item → CS → R) (C : CallsE) (a0 a1 : T) : enterE fi_laws_szIntS env H C [a0, a1] =
  bif (decide ((IntKind.wrap .i64 (a1.i - (a0.es.length : Int))) < (0 : Int))) then
    some [(T.int (-1 : Int))]
  else
    some [(T.int (IntKind.wrap .i64 (a1.i - (a0.es.length : Int))))] := by kernel_rfl
theorem y_laws_szIntS (a0 a1 : T) {r : List T} (h : Yields (fun k =>
  bif (decide ((IntKind.wrap .i64 (a1.i - (a0.es.length : Int))) < (0 : Int))) then
    some [(T.int (-1 : Int))]
  else
    some [(T.int (IntKind.wrap .i64 (a1.i - (a0.es.length : Int))))]) r) : Yields (fun k => cl env k F_laws_szIntS [a0, a1]) r := Yields.call (fi := fi_laws_szIntS) rfl (fun H C => q_laws_szIntS H C a0 a1) h
/- loop.example/heirlooms/spec.l9Kind -/
theorem e_spec_l9Kind (H : List Item → CS → R) (C : CallsE) (a0 a1 : T) : enterE fi_spec_l9Kind env H C [a0, a1] =
  obind (C F_spec_l1Kind [(a1.fld 0)]) fun r1 =>
  bif ((!((rt r1 2).b == true)) || true) then
    bif ((!((rt r1 2).b == true)) || true) then
      bif ((!((rt r1 2).b == true)) || (((rt r1 2).b == true) && (((rt r1 2).b == true) && true))) then
        obind ((bif ((rt r1 2).b == true) then C F_spec_l2Ok [a0, a1] else some [])) fun r2 =>
        bif (bif (rt r1 2).b then ((rt r1 2).b == true) else true) then
          bif ((!((bif (rt r1 2).b then (rt r2 0) else (T.bool false)).b == true)) || true) then
            bif ((!((bif (rt r1 2).b then (rt r2 0) else (T.bool false)).b == true)) || true) then
              bif ((!((bif (rt r1 2).b then (rt r2 0) else (T.bool false)).b == true)) || ((bif (rt r1 2).b then (rt r2 0) else (T.bool false)).b == true)) then
                bif ((!((bif (rt r1 2).b then (rt r2 0) else (T.bool false)).b == true)) || (((bif (rt r1 2).b then (rt r2 0) else (T.bool false)).b == true) && (((bif (rt r1 2).b then (rt r2 0) else (T.bool false)).b == true) && true))) then
                  obind ((bif ((bif (rt r1 2).b then (rt r2 0) else (T.bool false)).b == true) then C F_spec_l1Able [a0, (a1.fld 0)] else some [])) fun r3 =>
                  bif ((!((bif (rt r1 2).b then (rt r2 0) else (T.bool false)).b == true)) || (((bif (rt r1 2).b then (rt r2 0) else (T.bool false)).b == true) && true)) then
                    obind ((bif ((bif (rt r1 2).b then (rt r2 0) else (T.bool false)).b == true) then C F_spec_l1Can [(rt r3 0), (T.int (8 : Int))] else some [])) fun r4 =>
                    bif (bif (bif (rt r1 2).b then (rt r2 0) else (T.bool false)).b then ((bif (rt r1 2).b then (rt r2 0) else (T.bool false)).b == true) else true) then
                      some [(bif (bif (rt r1 2).b then (rt r2 0) else (T.bool false)).b then (rt r4 0) else (T.bool false))]
                    else
                      none
                  else
                    none
                else
                  none
              else
                none
            else
              none
          else
            none
        else
          none
      else
        none
    else
      none
  else
    none := by kernel_rfl
theorem q_spec_l9Kind (H : List Item → CS → R) (C : CallsE) (a0 a1 : T) : enterE fi_spec_l9Kind env H C [a0, a1] =
  obind (C F_spec_l1Kind [(a1.fld 0)]) fun r1 =>
  bif (rt r1 2).b then
    obind (C F_spec_l2Ok [a0, a1]) fun r2 =>
    bif (rt r2 0).b then
      obind (C F_spec_l1Able [a0, (a1.fld 0)]) fun r3 =>
      obind (C F_spec_l1Can [(rt r3 0), (T.int (8 : Int))]) fun r4 =>
      some [(rt r4 0)]
    else
      some [(T.bool false)]
  else
    some [(T.bool false)] := by
  rw [e_spec_l9Kind H C a0 a1]
  all_goals refine obind_congr fun r1 => ?_
  all_goals try simp only [obind_some, cond_true, cond_false, tb_bool, beq_tt, beq_ft, beq_tf, beq_ff, Bool.not_true, Bool.not_false, Bool.true_and, Bool.false_and, Bool.true_or, Bool.false_or]
  all_goals cases hc : ((rt r1 2).b) with
  | true =>
    try simp only [obind_some, cond_true, cond_false, tb_bool, beq_tt, beq_ft, beq_tf, beq_ff, Bool.not_true, Bool.not_false, Bool.true_and, Bool.false_and, Bool.true_or, Bool.false_or]
    all_goals refine obind_congr fun r2 => ?_
    all_goals try simp only [obind_some, cond_true, cond_false, tb_bool, beq_tt, beq_ft, beq_tf, beq_ff, Bool.not_true, Bool.not_false, Bool.true_and, Bool.false_and, Bool.true_or, Bool.false_or]
    all_goals cases hc : ((rt r2 0).b) with
    | true =>
      try simp only [obind_some, cond_true, cond_false, tb_bool, beq_tt, beq_ft, beq_tf, beq_ff, Bool.not_true, Bool.not_false, Bool.true_and, Bool.false_and, Bool.true_or, Bool.false_or]
      all_goals refine obind_congr fun r3 => ?_
      all_goals try simp only [obind_some, cond_true, cond_false, tb_bool, beq_tt, beq_ft, beq_tf, beq_ff, Bool.not_true, Bool.not_false, Bool.true_and, Bool.false_and, Bool.true_or, Bool.false_or]
      all_goals refine obind_congr fun r4 => ?_
      all_goals try simp only [obind_some, cond_true, cond_false, tb_bool, beq_tt, beq_ft, beq_tf, beq_ff, Bool.not_true, Bool.not_false, Bool.true_and, Bool.false_and, Bool.true_or, Bool.false_or]
      all_goals kernel_rfl
    | false =>
      try simp only [obind_some, cond_true, cond_false, tb_bool, beq_tt, beq_ft, beq_tf, beq_ff, Bool.not_true, Bool.not_false, Bool.true_and, Bool.false_and, Bool.true_or, Bool.false_or]
      all_goals kernel_rfl
  | false =>
    try simp only [obind_some, cond_true, cond_false, tb_bool, beq_tt, beq_ft, beq_tf, beq_ff, Bool.not_true, Bool.not_false, Bool.true_and, Bool.false_and, Bool.true_or, Bool.false_or]
    all_goals kernel_rfl
theorem y_spec_l9Kind (a0 a1 : T) {r : List T} (h : Yields (fun k =>
  obind (cl env k F_spec_l1Kind [(a1.fld 0)]) fun r1 =>
  bif (rt r1 2).b then
    obind (cl env k F_spec_l2Ok [a0, a1]) fun r2 =>
    bif (rt r2 0).b then
      obind (cl env k F_spec_l1Able [a0, (a1.fld 0)]) fun r3 =>
      obind (cl env k F_spec_l1Can [(rt r3 0), (T.int (8 : Int))]) fun r4 =>
      some [(rt r4 0)]
    else
      some [(T.bool false)]
  else
    some [(T.bool false)]) r) : Yields (fun k => cl env k F_spec_l9Kind [a0, a1]) r := Yields.call (fi := fi_spec_l9Kind) rfl (fun H C => q_spec_l9Kind H C a0 a1) h
noncomputable def l_laws_toValueS_0 (H : List Item → CS → R) (x1 : T) (x2 : T) (x3 : T) : R := H (hdAt fi_laws_toValueS.body 0) ([(0, .val 45 x1), (3, .sref 34 3 []), (4, .val 3 x2)], [(3, ⟨34, x3, .dp, false⟩)])
/- loop.example/heirlooms/laws.toValueS -/
theorem q_laws_toValueS (H : List Item → CS → R) (C : CallsE) (a0 : T) : enterE fi_laws_toValueS env H C [a0] =
  bif (decide (0 ≤ (a0.es.length : Int)) && (decide ((a0.es.length : Int) ≤ (a0.es.length : Int)) && decide (a0.es.length ≤ LIM))) then
    l_laws_toValueS_0 H a0 (T.int (0 : Int)) (T.sl (List.replicate a0.es.length (T.st [(T.str (⟨#[]⟩ : ByteArray)), (T.int (0 : Int)), (T.sl []), (T.sl [])])))
  else
    none := by kernel_rfl
theorem y_laws_toValueS (a0 : T) {r : List T} (h : Yields (fun k =>
  bif (decide (0 ≤ (a0.es.length : Int)) && (decide ((a0.es.length : Int) ≤ (a0.es.length : Int)) && decide (a0.es.length ≤ LIM))) then
    l_laws_toValueS_0 (hl env k fi_laws_toValueS) a0 (T.int (0 : Int)) (T.sl (List.replicate a0.es.length (T.st [(T.str (⟨#[]⟩ : ByteArray)), (T.int (0 : Int)), (T.sl []), (T.sl [])])))
  else
    none) r) : Yields (fun k => cl env k F_laws_toValueS [a0]) r := Yields.call (fi := fi_laws_toValueS) rfl (fun H C => q_laws_toValueS H C a0) h
theorem q_laws_toValueS_0 (H : List Item → CS → R) (C : CallsE) (x1 : T) (x2 : T) (x3 : T) : headE fi_laws_toValueS env H C (hdAt fi_laws_toValueS.body 0) ([(0, .val 45 x1), (3, .sref 34 3 []), (4, .val 3 x2)], [(3, ⟨34, x3, .dp, false⟩)]) =
  bif (decide (x2.i < (x1.es.length : Int))) then
    bif (decide (0 ≤ x2.i) && decide (x2.i.toNat < x1.es.length)) then
      obind (C F_laws_toValue [(x1.nth x2.i.toNat)]) fun r1 =>
      bif (decide (0 ≤ x2.i) && decide (x2.i.toNat < x3.es.length)) then
        l_laws_toValueS_0 H x1 (T.int (IntKind.wrap .i64 (x2.i + (1 : Int)))) (T.sl (x3.es.set x2.i.toNat (T.st [((rt r1 0).fld 0), ((rt r1 0).fld 1), ((rt r1 0).fld 2), ((rt r1 0).fld 3)])))
      else
        none
    else
      none
  else
    some [x3] := by kernel_rfl
theorem y_laws_toValueS_0 (x1 : T) (x2 : T) (x3 : T) {r : List T} (h : Yields (fun k =>
  bif (decide (x2.i < (x1.es.length : Int))) then
    bif (decide (0 ≤ x2.i) && decide (x2.i.toNat < x1.es.length)) then
      obind (cl env k F_laws_toValue [(x1.nth x2.i.toNat)]) fun r1 =>
      bif (decide (0 ≤ x2.i) && decide (x2.i.toNat < x3.es.length)) then
        l_laws_toValueS_0 (hl env k fi_laws_toValueS) x1 (T.int (IntKind.wrap .i64 (x2.i + (1 : Int)))) (T.sl (x3.es.set x2.i.toNat (T.st [((rt r1 0).fld 0), ((rt r1 0).fld 1), ((rt r1 0).fld 2), ((rt r1 0).fld 3)])))
      else
        none
    else
      none
  else
    some [x3]) r) : Yields (fun k => l_laws_toValueS_0 (hl env k fi_laws_toValueS) x1 x2 x3) r := Yields.head (fun H C => q_laws_toValueS_0 H C x1 x2 x3) h
noncomputable def l_laws_toIntS_0 (H : List Item → CS → R) (x1 : T) (x2 : T) (x3 : T) : R := H (hdAt fi_laws_toIntS.body 0) ([(0, .val 35 x1), (3, .sref 35 3 []), (4, .val 3 x2)], [(3, ⟨35, x3, .dp, false⟩)])
/- loop.example/heirlooms/laws.toIntS -/
theorem q_laws_toIntS (H : List Item → CS → R) (C : CallsE) (a0 : T) : enterE fi_laws_toIntS env H C [a0] =
  bif (decide (0 ≤ (a0.es.length : Int)) && (decide ((a0.es.length : Int) ≤ (a0.es.length : Int)) && decide (a0.es.length ≤ LIM))) then
    l_laws_toIntS_0 H a0 (T.int (0 : Int)) (T.sl (List.replicate a0.es.length (T.int (0 : Int))))
  else
    none := by kernel_rfl
theorem y_laws_toIntS (a0 : T) {r : List T} (h : Yields (fun k =>
  bif (decide (0 ≤ (a0.es.length : Int)) && (decide ((a0.es.length : Int) ≤ (a0.es.length : Int)) && decide (a0.es.length ≤ LIM))) then
    l_laws_toIntS_0 (hl env k fi_laws_toIntS) a0 (T.int (0 : Int)) (T.sl (List.replicate a0.es.length (T.int (0 : Int))))
  else
    none) r) : Yields (fun k => cl env k F_laws_toIntS [a0]) r := Yields.call (fi := fi_laws_toIntS) rfl (fun H C => q_laws_toIntS H C a0) h
theorem q_laws_toIntS_0 (H : List Item → CS → R) (C : CallsE) (x1 : T) (x2 : T) (x3 : T) : headE fi_laws_toIntS env H C (hdAt fi_laws_toIntS.body 0) ([(0, .val 35 x1), (3, .sref 35 3 []), (4, .val 3 x2)], [(3, ⟨35, x3, .dp, false⟩)]) =
  bif (decide (x2.i < (x1.es.length : Int))) then
    bif (decide (0 ≤ x2.i) && decide (x2.i.toNat < x1.es.length)) then
      bif (decide (0 ≤ x2.i) && decide (x2.i.toNat < x3.es.length)) then
        l_laws_toIntS_0 H x1 (T.int (IntKind.wrap .i64 (x2.i + (1 : Int)))) (T.sl (x3.es.set x2.i.toNat (x1.nth x2.i.toNat)))
      else
        none
    else
      none
  else
    some [x3] := by kernel_rfl
theorem y_laws_toIntS_0 (x1 : T) (x2 : T) (x3 : T) {r : List T} (h : Yields (fun k =>
  bif (decide (x2.i < (x1.es.length : Int))) then
    bif (decide (0 ≤ x2.i) && decide (x2.i.toNat < x1.es.length)) then
      bif (decide (0 ≤ x2.i) && decide (x2.i.toNat < x3.es.length)) then
        l_laws_toIntS_0 (hl env k fi_laws_toIntS) x1 (T.int (IntKind.wrap .i64 (x2.i + (1 : Int)))) (T.sl (x3.es.set x2.i.toNat (x1.nth x2.i.toNat)))
      else
        none
    else
      none
  else
    some [x3]) r) : Yields (fun k => l_laws_toIntS_0 (hl env k fi_laws_toIntS) x1 x2 x3) r := Yields.head (fun H C => q_laws_toIntS_0 H C x1 x2 x3) h
/- loop.example/heirlooms/impl.keepable -/
theorem e_impl_keepable (H : List Item → CS → R) (C : CallsE) (a0 a1 : T) : enterE fi_impl_keepable env H C [a0, a1] =
  obind (C F_impl_kindIn [a0, (a1.fld 0)]) fun r1 =>
  bif ((!((rt r1 0).b == true)) || true) then
    bif ((!((rt r1 0).b == true)) || true) then
      bif ((!((rt r1 0).b == true)) || ((rt r1 0).b == true)) then
        bif ((!((rt r1 0).b == true)) || (((rt r1 0).b == true) && (((rt r1 0).b == true) && true))) then
          obind ((bif ((rt r1 0).b == true) then C F_impl_recordOf [a0, (a1.fld 0)] else some [])) fun r2 =>
          bif ((!((rt r1 0).b == true)) || ((rt r1 0).b == true)) then
            bif ((!((rt r1 0).b == true)) || ((((rt r1 0).b == true) && true) && true)) then
              bif ((!((rt r1 0).b == true)) || ((((rt r1 0).b == true) && true) && true)) then
                bif (bif (rt r1 0).b then ((rt r1 0).b == true) else true) then
                  bif ((!((bif (rt r1 0).b then (T.bool ((IntKind.wrap .i64 ((BitVec.ofInt (IntKind.i64).bits (((rt r2 0).fld 0).i) &&& BitVec.ofInt (IntKind.i64).bits (8 : Int)).toNat : Nat)) != (0 : Int))) else (T.bool false)).b == true)) || true) then
                    bif ((!((bif (rt r1 0).b then (T.bool ((IntKind.wrap .i64 ((BitVec.ofInt (IntKind.i64).bits (((rt r2 0).fld 0).i) &&& BitVec.ofInt (IntKind.i64).bits (8 : Int)).toNat : Nat)) != (0 : Int))) else (T.bool false)).b == true)) || true) then
                      bif ((!((bif (rt r1 0).b then (T.bool ((IntKind.wrap .i64 ((BitVec.ofInt (IntKind.i64).bits (((rt r2 0).fld 0).i) &&& BitVec.ofInt (IntKind.i64).bits (8 : Int)).toNat : Nat)) != (0 : Int))) else (T.bool false)).b == true)) || (((bif (rt r1 0).b then (T.bool ((IntKind.wrap .i64 ((BitVec.ofInt (IntKind.i64).bits (((rt r2 0).fld 0).i) &&& BitVec.ofInt (IntKind.i64).bits (8 : Int)).toNat : Nat)) != (0 : Int))) else (T.bool false)).b == true) && (((bif (rt r1 0).b then (T.bool ((IntKind.wrap .i64 ((BitVec.ofInt (IntKind.i64).bits (((rt r2 0).fld 0).i) &&& BitVec.ofInt (IntKind.i64).bits (8 : Int)).toNat : Nat)) != (0 : Int))) else (T.bool false)).b == true) && true))) then
                        obind ((bif ((bif (rt r1 0).b then (T.bool ((IntKind.wrap .i64 ((BitVec.ofInt (IntKind.i64).bits (((rt r2 0).fld 0).i) &&& BitVec.ofInt (IntKind.i64).bits (8 : Int)).toNat : Nat)) != (0 : Int))) else (T.bool false)).b == true) then C F_impl_valueFits [a0, a1] else some [])) fun r3 =>
                        bif (bif (bif (rt r1 0).b then (T.bool ((IntKind.wrap .i64 ((BitVec.ofInt (IntKind.i64).bits (((rt r2 0).fld 0).i) &&& BitVec.ofInt (IntKind.i64).bits (8 : Int)).toNat : Nat)) != (0 : Int))) else (T.bool false)).b then ((bif (rt r1 0).b then (T.bool ((IntKind.wrap .i64 ((BitVec.ofInt (IntKind.i64).bits (((rt r2 0).fld 0).i) &&& BitVec.ofInt (IntKind.i64).bits (8 : Int)).toNat : Nat)) != (0 : Int))) else (T.bool false)).b == true) else true) then
                          some [(bif (bif (rt r1 0).b then (T.bool ((IntKind.wrap .i64 ((BitVec.ofInt (IntKind.i64).bits (((rt r2 0).fld 0).i) &&& BitVec.ofInt (IntKind.i64).bits (8 : Int)).toNat : Nat)) != (0 : Int))) else (T.bool false)).b then (rt r3 0) else (T.bool false))]
                        else
                          none
                      else
                        none
                    else
                      none
                  else
                    none
                else
                  none
              else
                none
            else
              none
          else
            none
        else
          none
      else
        none
    else
      none
  else
    none := by kernel_rfl
theorem q_impl_keepable (H : List Item → CS → R) (C : CallsE) (a0 a1 : T) : enterE fi_impl_keepable env H C [a0, a1] =
  obind (C F_impl_kindIn [a0, (a1.fld 0)]) fun r1 =>
  bif (rt r1 0).b then
    obind (C F_impl_recordOf [a0, (a1.fld 0)]) fun r2 =>
    bif ((IntKind.wrap .i64 ((BitVec.ofInt (IntKind.i64).bits (((rt r2 0).fld 0).i) &&& BitVec.ofInt (IntKind.i64).bits (8 : Int)).toNat : Nat)) != (0 : Int)) then
      obind (C F_impl_valueFits [a0, a1]) fun r3 =>
      some [(rt r3 0)]
    else
      some [(T.bool false)]
  else
    some [(T.bool false)] := by
  rw [e_impl_keepable H C a0 a1]
  all_goals refine obind_congr fun r1 => ?_
  all_goals try simp only [obind_some, cond_true, cond_false, tb_bool, beq_tt, beq_ft, beq_tf, beq_ff, Bool.not_true, Bool.not_false, Bool.true_and, Bool.false_and, Bool.true_or, Bool.false_or]
  all_goals cases hc : ((rt r1 0).b) with
  | true =>
    try simp only [obind_some, cond_true, cond_false, tb_bool, beq_tt, beq_ft, beq_tf, beq_ff, Bool.not_true, Bool.not_false, Bool.true_and, Bool.false_and, Bool.true_or, Bool.false_or]
    all_goals refine obind_congr fun r2 => ?_
    all_goals try simp only [obind_some, cond_true, cond_false, tb_bool, beq_tt, beq_ft, beq_tf, beq_ff, Bool.not_true, Bool.not_false, Bool.true_and, Bool.false_and, Bool.true_or, Bool.false_or]
    all_goals cases hc : (((IntKind.wrap .i64 ((BitVec.ofInt (IntKind.i64).bits (((rt r2 0).fld 0).i) &&& BitVec.ofInt (IntKind.i64).bits (8 : Int)).toNat : Nat)) != (0 : Int))) with
    | true =>
      try simp only [obind_some, cond_true, cond_false, tb_bool, beq_tt, beq_ft, beq_tf, beq_ff, Bool.not_true, Bool.not_false, Bool.true_and, Bool.false_and, Bool.true_or, Bool.false_or]
      all_goals refine obind_congr fun r3 => ?_
      all_goals try simp only [obind_some, cond_true, cond_false, tb_bool, beq_tt, beq_ft, beq_tf, beq_ff, Bool.not_true, Bool.not_false, Bool.true_and, Bool.false_and, Bool.true_or, Bool.false_or]
      all_goals kernel_rfl
    | false =>
      try simp only [obind_some, cond_true, cond_false, tb_bool, beq_tt, beq_ft, beq_tf, beq_ff, Bool.not_true, Bool.not_false, Bool.true_and, Bool.false_and, Bool.true_or, Bool.false_or]
      all_goals kernel_rfl
  | false =>
    try simp only [obind_some, cond_true, cond_false, tb_bool, beq_tt, beq_ft, beq_tf, beq_ff, Bool.not_true, Bool.not_false, Bool.true_and, Bool.false_and, Bool.true_or, Bool.false_or]
    all_goals kernel_rfl
theorem y_impl_keepable (a0 a1 : T) {r : List T} (h : Yields (fun k =>
  obind (cl env k F_impl_kindIn [a0, (a1.fld 0)]) fun r1 =>
  bif (rt r1 0).b then
    obind (cl env k F_impl_recordOf [a0, (a1.fld 0)]) fun r2 =>
    bif ((IntKind.wrap .i64 ((BitVec.ofInt (IntKind.i64).bits (((rt r2 0).fld 0).i) &&& BitVec.ofInt (IntKind.i64).bits (8 : Int)).toNat : Nat)) != (0 : Int)) then
      obind (cl env k F_impl_valueFits [a0, a1]) fun r3 =>
      some [(rt r3 0)]
    else
      some [(T.bool false)]
  else
    some [(T.bool false)]) r) : Yields (fun k => cl env k F_impl_keepable [a0, a1]) r := Yields.call (fi := fi_impl_keepable) rfl (fun H C => q_impl_keepable H C a0 a1) h
/- loop.example/heirlooms/spec.l6In -/
theorem e_spec_l6In (H : List Item → CS → R) (C : CallsE) (a0 a1 a2 : T) : enterE fi_spec_l6In env H C [a0, a1, a2] =
  bif ((!((decide (a0.i ≥ a1.i)) == true)) || true) then
    bif ((!((decide (a0.i ≥ a1.i)) == true)) || true) then
      bif ((!((decide (a0.i ≥ a1.i)) == true)) || ((((decide (a0.i ≥ a1.i)) == true) && ((decide (a0.i ≥ a1.i)) == true)) && true)) then
        bif (bif (decide (a0.i ≥ a1.i)) then ((decide (a0.i ≥ a1.i)) == true) else true) then
          some [(bif (decide (a0.i ≥ a1.i)) then (T.bool (decide (a0.i ≤ a2.i))) else (T.bool false))]
        else
          none
      else
        none
    else
      none
  else
    none := by kernel_rfl
theorem q_spec_l6In (H : List Item → CS → R) (C : CallsE) (a0 a1 a2 : T) : enterE fi_spec_l6In env H C [a0, a1, a2] =
  bif (decide (a0.i ≥ a1.i)) then
    some [(T.bool (decide (a0.i ≤ a2.i)))]
  else
    some [(T.bool false)] := by
  rw [e_spec_l6In H C a0 a1 a2]
  all_goals cases hc : ((decide (a0.i ≥ a1.i))) with
  | true =>
    try simp only [obind_some, cond_true, cond_false, tb_bool, beq_tt, beq_ft, beq_tf, beq_ff, Bool.not_true, Bool.not_false, Bool.true_and, Bool.false_and, Bool.true_or, Bool.false_or]
    all_goals kernel_rfl
  | false =>
    try simp only [obind_some, cond_true, cond_false, tb_bool, beq_tt, beq_ft, beq_tf, beq_ff, Bool.not_true, Bool.not_false, Bool.true_and, Bool.false_and, Bool.true_or, Bool.false_or]
    all_goals kernel_rfl
theorem y_spec_l6In (a0 a1 a2 : T) {r : List T} (h : Yields (fun k =>
  bif (decide (a0.i ≥ a1.i)) then
    some [(T.bool (decide (a0.i ≤ a2.i)))]
  else
    some [(T.bool false)]) r) : Yields (fun k => cl env k F_spec_l6In [a0, a1, a2]) r := Yields.call (fi := fi_spec_l6In) rfl (fun H C => q_spec_l6In H C a0 a1 a2) h
/- loop.example/heirlooms/laws.szRecord -/
theorem q_laws_szRecord (H : List Item → CS → R) (C : CallsE) (a0 a1 : T) : enterE fi_laws_szRecord env H C [a0, a1] =
  obind (C F_laws_szStringS [(a0.fld 1), a1]) fun r1 =>
  bif (decide ((rt r1 0).i < (0 : Int))) then
    some [(T.int (-1 : Int))]
  else
    some [(rt r1 0)] := by kernel_rfl
theorem y_laws_szRecord (a0 a1 : T) {r : List T} (h : Yields (fun k =>
  obind (cl env k F_laws_szStringS [(a0.fld 1), a1]) fun r1 =>
  bif (decide ((rt r1 0).i < (0 : Int))) then
    some [(T.int (-1 : Int))]
  else
    some [(rt r1 0)]) r) : Yields (fun k => cl env k F_laws_szRecord [a0, a1]) r := Yields.call (fi := fi_laws_szRecord) rfl (fun H C => q_laws_szRecord H C a0 a1) h
/- loop.example/heirlooms/spec.KindsOk -/
theorem q_spec_KindsOk (H : List Item → CS → R) (C : CallsE) (a0 : T) : enterE fi_spec_KindsOk env H C [a0] =
  obind (C F_spec_KindsBad [a0]) fun r1 =>
  some [(T.bool (decide ((rt r1 0).i < (0 : Int))))] := by kernel_rfl
theorem y_spec_KindsOk (a0 : T) {r : List T} (h : Yields (fun k =>
  obind (cl env k F_spec_KindsBad [a0]) fun r1 =>
  some [(T.bool (decide ((rt r1 0).i < (0 : Int))))]) r) : Yields (fun k => cl env k F_spec_KindsOk [a0]) r := Yields.call (fi := fi_spec_KindsOk) rfl (fun H C => q_spec_KindsOk H C a0) h
noncomputable def l_spec_l9Ok_0 (H : List Item → CS → R) (x1 : T) (x2 : T) (x3 : T) : R := H (hdAt fi_spec_l9Ok.body 0) ([(0, .val 27 x1), (1, .val 29 x2), (5, .val 3 x3)], [])
/- loop.example/heirlooms/spec.l9Ok -/
theorem q_spec_l9Ok (H : List Item → CS → R) (C : CallsE) (a0 a1 : T) : enterE fi_spec_l9Ok env H C [a0, a1] =
  l_spec_l9Ok_0 H a0 a1 (T.int (0 : Int)) := by kernel_rfl
theorem y_spec_l9Ok (a0 a1 : T) {r : List T} (h : Yields (fun k =>
  l_spec_l9Ok_0 (hl env k fi_spec_l9Ok) a0 a1 (T.int (0 : Int))) r) : Yields (fun k => cl env k F_spec_l9Ok [a0, a1]) r := Yields.call (fi := fi_spec_l9Ok) rfl (fun H C => q_spec_l9Ok H C a0 a1) h
theorem e_spec_l9Ok_0 (H : List Item → CS → R) (C : CallsE) (x1 : T) (x2 : T) (x3 : T) : headE fi_spec_l9Ok env H C (hdAt fi_spec_l9Ok.body 0) ([(0, .val 27 x1), (1, .val 29 x2), (5, .val 3 x3)], []) =
  bif (decide (x3.i < (x2.es.length : Int))) then
    bif (decide (0 ≤ x3.i) && decide (x3.i.toNat < x2.es.length)) then
      obind (C F_spec_l6In [((x2.nth x3.i.toNat).fld 0), (T.int (0 : Int)), (T.int (3 : Int))]) fun r1 =>
      bif ((!((!(rt r1 0).b) == false)) || true) then
        bif ((!((!(rt r1 0).b) == false)) || true) then
          bif ((!((!(rt r1 0).b) == false)) || true) then
            bif ((!((!(rt r1 0).b) == false)) || ((((!(rt r1 0).b) == false) && (((!(rt r1 0).b) == false) && true)) && (decide (0 ≤ x3.i) && decide (x3.i.toNat < x2.es.length)))) then
              bif ((!((!(rt r1 0).b) == false)) || ((!(rt r1 0).b) == false)) then
                bif ((!((!(rt r1 0).b) == false)) || ((!(rt r1 0).b) == false)) then
                  bif ((!((!(rt r1 0).b) == false)) || (((!(rt r1 0).b) == false) && (((!(rt r1 0).b) == false) && true))) then
                    obind ((bif ((!(rt r1 0).b) == false) then C F_spec_l9Kind [x1, ((x2.nth x3.i.toNat).fld 1)] else some [])) fun r2 =>
                    bif ((!((!(rt r1 0).b) == false)) || ((!(rt r1 0).b) == false)) then
                      bif (bif (!(rt r1 0).b) then true else ((!(rt r1 0).b) == false)) then
                        bif (bif (!(rt r1 0).b) then (T.bool true) else (T.bool (!(rt r2 0).b))).b then
                          some [(T.bool false)]
                        else
                          bif ((!((decide (x3.i > (0 : Int))) == true)) || true) then
                            bif ((!((decide (x3.i > (0 : Int))) == true)) || true) then
                              bif ((!((decide (x3.i > (0 : Int))) == true)) || ((((decide (x3.i > (0 : Int))) == true) && true) && true)) then
                                bif ((!((decide (x3.i > (0 : Int))) == true)) || ((((decide (x3.i > (0 : Int))) == true) && (((decide (x3.i > (0 : Int))) == true) && true)) && (decide (0 ≤ (IntKind.wrap .i64 (x3.i - (1 : Int)))) && decide ((IntKind.wrap .i64 (x3.i - (1 : Int))).toNat < x2.es.length)))) then
                                  bif ((!((decide (x3.i > (0 : Int))) == true)) || ((decide (x3.i > (0 : Int))) == true)) then
                                    bif ((!((decide (x3.i > (0 : Int))) == true)) || ((decide (x3.i > (0 : Int))) == true)) then
                                      bif ((!((decide (x3.i > (0 : Int))) == true)) || true) then
                                        bif ((!((decide (x3.i > (0 : Int))) == true)) || true) then
                                          bif ((!((decide (x3.i > (0 : Int))) == true)) || ((((decide (x3.i > (0 : Int))) == true) && (((decide (x3.i > (0 : Int))) == true) && true)) && (decide (0 ≤ x3.i) && decide (x3.i.toNat < x2.es.length)))) then
                                            bif ((!((decide (x3.i > (0 : Int))) == true)) || ((decide (x3.i > (0 : Int))) == true)) then
                                              bif ((!((decide (x3.i > (0 : Int))) == true)) || ((decide (x3.i > (0 : Int))) == true)) then
                                                bif ((!((decide (x3.i > (0 : Int))) == true)) || ((((decide (x3.i > (0 : Int))) == true) && ((decide (x3.i > (0 : Int))) == true)) && true)) then
                                                  bif ((!((decide (x3.i > (0 : Int))) == true)) || ((decide (x3.i > (0 : Int))) == true)) then
                                                    bif ((!(((decide (x3.i > (0 : Int))) == true) && ((decide (((x2.nth ((IntKind.wrap .i64 (x3.i - (1 : Int))).toNat)).fld 0).i > ((x2.nth x3.i.toNat).fld 0).i)) == false))) || true) then
                                                      bif ((!(((decide (x3.i > (0 : Int))) == true) && ((decide (((x2.nth ((IntKind.wrap .i64 (x3.i - (1 : Int))).toNat)).fld 0).i > ((x2.nth x3.i.toNat).fld 0).i)) == false))) || true) then
                                                        bif ((!(((decide (x3.i > (0 : Int))) == true) && ((decide (((x2.nth ((IntKind.wrap .i64 (x3.i - (1 : Int))).toNat)).fld 0).i > ((x2.nth x3.i.toNat).fld 0).i)) == false))) || (((((decide (x3.i > (0 : Int))) == true) && ((decide (((x2.nth ((IntKind.wrap .i64 (x3.i - (1 : Int))).toNat)).fld 0).i > ((x2.nth x3.i.toNat).fld 0).i)) == false)) && true) && true)) then
                                                          bif ((!(((decide (x3.i > (0 : Int))) == true) && ((decide (((x2.nth ((IntKind.wrap .i64 (x3.i - (1 : Int))).toNat)).fld 0).i > ((x2.nth x3.i.toNat).fld 0).i)) == false))) || (((((decide (x3.i > (0 : Int))) == true) && ((decide (((x2.nth ((IntKind.wrap .i64 (x3.i - (1 : Int))).toNat)).fld 0).i > ((x2.nth x3.i.toNat).fld 0).i)) == false)) && ((((decide (x3.i > (0 : Int))) == true) && ((decide (((x2.nth ((IntKind.wrap .i64 (x3.i - (1 : Int))).toNat)).fld 0).i > ((x2.nth x3.i.toNat).fld 0).i)) == false)) && true)) && (decide (0 ≤ (IntKind.wrap .i64 (x3.i - (1 : Int)))) && decide ((IntKind.wrap .i64 (x3.i - (1 : Int))).toNat < x2.es.length)))) then
                                                            bif ((!(((decide (x3.i > (0 : Int))) == true) && ((decide (((x2.nth ((IntKind.wrap .i64 (x3.i - (1 : Int))).toNat)).fld 0).i > ((x2.nth x3.i.toNat).fld 0).i)) == false))) || (((decide (x3.i > (0 : Int))) == true) && ((decide (((x2.nth ((IntKind.wrap .i64 (x3.i - (1 : Int))).toNat)).fld 0).i > ((x2.nth x3.i.toNat).fld 0).i)) == false))) then
                                                              bif ((!(((decide (x3.i > (0 : Int))) == true) && ((decide (((x2.nth ((IntKind.wrap .i64 (x3.i - (1 : Int))).toNat)).fld 0).i > ((x2.nth x3.i.toNat).fld 0).i)) == false))) || (((decide (x3.i > (0 : Int))) == true) && ((decide (((x2.nth ((IntKind.wrap .i64 (x3.i - (1 : Int))).toNat)).fld 0).i > ((x2.nth x3.i.toNat).fld 0).i)) == false))) then
                                                                bif ((!(((decide (x3.i > (0 : Int))) == true) && ((decide (((x2.nth ((IntKind.wrap .i64 (x3.i - (1 : Int))).toNat)).fld 0).i > ((x2.nth x3.i.toNat).fld 0).i)) == false))) || true) then
                                                                  bif ((!(((decide (x3.i > (0 : Int))) == true) && ((decide (((x2.nth ((IntKind.wrap .i64 (x3.i - (1 : Int))).toNat)).fld 0).i > ((x2.nth x3.i.toNat).fld 0).i)) == false))) || true) then
                                                                    bif ((!(((decide (x3.i > (0 : Int))) == true) && ((decide (((x2.nth ((IntKind.wrap .i64 (x3.i - (1 : Int))).toNat)).fld 0).i > ((x2.nth x3.i.toNat).fld 0).i)) == false))) || (((((decide (x3.i > (0 : Int))) == true) && ((decide (((x2.nth ((IntKind.wrap .i64 (x3.i - (1 : Int))).toNat)).fld 0).i > ((x2.nth x3.i.toNat).fld 0).i)) == false)) && ((((decide (x3.i > (0 : Int))) == true) && ((decide (((x2.nth ((IntKind.wrap .i64 (x3.i - (1 : Int))).toNat)).fld 0).i > ((x2.nth x3.i.toNat).fld 0).i)) == false)) && true)) && (decide (0 ≤ x3.i) && decide (x3.i.toNat < x2.es.length)))) then
                                                                      bif ((!(((decide (x3.i > (0 : Int))) == true) && ((decide (((x2.nth ((IntKind.wrap .i64 (x3.i - (1 : Int))).toNat)).fld 0).i > ((x2.nth x3.i.toNat).fld 0).i)) == false))) || (((decide (x3.i > (0 : Int))) == true) && ((decide (((x2.nth ((IntKind.wrap .i64 (x3.i - (1 : Int))).toNat)).fld 0).i > ((x2.nth x3.i.toNat).fld 0).i)) == false))) then
                                                                        bif ((!(((decide (x3.i > (0 : Int))) == true) && ((decide (((x2.nth ((IntKind.wrap .i64 (x3.i - (1 : Int))).toNat)).fld 0).i > ((x2.nth x3.i.toNat).fld 0).i)) == false))) || (((decide (x3.i > (0 : Int))) == true) && ((decide (((x2.nth ((IntKind.wrap .i64 (x3.i - (1 : Int))).toNat)).fld 0).i > ((x2.nth x3.i.toNat).fld 0).i)) == false))) then
                                                                          bif ((!(((decide (x3.i > (0 : Int))) == true) && ((decide (((x2.nth ((IntKind.wrap .i64 (x3.i - (1 : Int))).toNat)).fld 0).i > ((x2.nth x3.i.toNat).fld 0).i)) == false))) || (((((decide (x3.i > (0 : Int))) == true) && ((decide (((x2.nth ((IntKind.wrap .i64 (x3.i - (1 : Int))).toNat)).fld 0).i > ((x2.nth x3.i.toNat).fld 0).i)) == false)) && (((decide (x3.i > (0 : Int))) == true) && ((decide (((x2.nth ((IntKind.wrap .i64 (x3.i - (1 : Int))).toNat)).fld 0).i > ((x2.nth x3.i.toNat).fld 0).i)) == false))) && true)) then
                                                                            bif ((!(((decide (x3.i > (0 : Int))) == true) && ((decide (((x2.nth ((IntKind.wrap .i64 (x3.i - (1 : Int))).toNat)).fld 0).i > ((x2.nth x3.i.toNat).fld 0).i)) == false))) || (((decide (x3.i > (0 : Int))) == true) && ((decide (((x2.nth ((IntKind.wrap .i64 (x3.i - (1 : Int))).toNat)).fld 0).i > ((x2.nth x3.i.toNat).fld 0).i)) == false))) then
                                                                              bif ((!((((decide (x3.i > (0 : Int))) == true) && ((decide (((x2.nth ((IntKind.wrap .i64 (x3.i - (1 : Int))).toNat)).fld 0).i > ((x2.nth x3.i.toNat).fld 0).i)) == false)) && ((((x2.nth ((IntKind.wrap .i64 (x3.i - (1 : Int))).toNat)).fld 0).i == ((x2.nth x3.i.toNat).fld 0).i) == true))) || true) then
                                                                                bif ((!((((decide (x3.i > (0 : Int))) == true) && ((decide (((x2.nth ((IntKind.wrap .i64 (x3.i - (1 : Int))).toNat)).fld 0).i > ((x2.nth x3.i.toNat).fld 0).i)) == false)) && ((((x2.nth ((IntKind.wrap .i64 (x3.i - (1 : Int))).toNat)).fld 0).i == ((x2.nth x3.i.toNat).fld 0).i) == true))) || true) then
                                                                                  bif ((!((((decide (x3.i > (0 : Int))) == true) && ((decide (((x2.nth ((IntKind.wrap .i64 (x3.i - (1 : Int))).toNat)).fld 0).i > ((x2.nth x3.i.toNat).fld 0).i)) == false)) && ((((x2.nth ((IntKind.wrap .i64 (x3.i - (1 : Int))).toNat)).fld 0).i == ((x2.nth x3.i.toNat).fld 0).i) == true))) || ((((((decide (x3.i > (0 : Int))) == true) && ((decide (((x2.nth ((IntKind.wrap .i64 (x3.i - (1 : Int))).toNat)).fld 0).i > ((x2.nth x3.i.toNat).fld 0).i)) == false)) && ((((x2.nth ((IntKind.wrap .i64 (x3.i - (1 : Int))).toNat)).fld 0).i == ((x2.nth x3.i.toNat).fld 0).i) == true)) && true) && true)) then
                                                                                    bif ((!((((decide (x3.i > (0 : Int))) == true) && ((decide (((x2.nth ((IntKind.wrap .i64 (x3.i - (1 : Int))).toNat)).fld 0).i > ((x2.nth x3.i.toNat).fld 0).i)) == false)) && ((((x2.nth ((IntKind.wrap .i64 (x3.i - (1 : Int))).toNat)).fld 0).i == ((x2.nth x3.i.toNat).fld 0).i) == true))) || ((((((decide (x3.i > (0 : Int))) == true) && ((decide (((x2.nth ((IntKind.wrap .i64 (x3.i - (1 : Int))).toNat)).fld 0).i > ((x2.nth x3.i.toNat).fld 0).i)) == false)) && ((((x2.nth ((IntKind.wrap .i64 (x3.i - (1 : Int))).toNat)).fld 0).i == ((x2.nth x3.i.toNat).fld 0).i) == true)) && (((((decide (x3.i > (0 : Int))) == true) && ((decide (((x2.nth ((IntKind.wrap .i64 (x3.i - (1 : Int))).toNat)).fld 0).i > ((x2.nth x3.i.toNat).fld 0).i)) == false)) && ((((x2.nth ((IntKind.wrap .i64 (x3.i - (1 : Int))).toNat)).fld 0).i == ((x2.nth x3.i.toNat).fld 0).i) == true)) && true)) && (decide (0 ≤ (IntKind.wrap .i64 (x3.i - (1 : Int)))) && decide ((IntKind.wrap .i64 (x3.i - (1 : Int))).toNat < x2.es.length)))) then
                                                                                      bif ((!((((decide (x3.i > (0 : Int))) == true) && ((decide (((x2.nth ((IntKind.wrap .i64 (x3.i - (1 : Int))).toNat)).fld 0).i > ((x2.nth x3.i.toNat).fld 0).i)) == false)) && ((((x2.nth ((IntKind.wrap .i64 (x3.i - (1 : Int))).toNat)).fld 0).i == ((x2.nth x3.i.toNat).fld 0).i) == true))) || ((((decide (x3.i > (0 : Int))) == true) && ((decide (((x2.nth ((IntKind.wrap .i64 (x3.i - (1 : Int))).toNat)).fld 0).i > ((x2.nth x3.i.toNat).fld 0).i)) == false)) && ((((x2.nth ((IntKind.wrap .i64 (x3.i - (1 : Int))).toNat)).fld 0).i == ((x2.nth x3.i.toNat).fld 0).i) == true))) then
                                                                                        bif ((!((((decide (x3.i > (0 : Int))) == true) && ((decide (((x2.nth ((IntKind.wrap .i64 (x3.i - (1 : Int))).toNat)).fld 0).i > ((x2.nth x3.i.toNat).fld 0).i)) == false)) && ((((x2.nth ((IntKind.wrap .i64 (x3.i - (1 : Int))).toNat)).fld 0).i == ((x2.nth x3.i.toNat).fld 0).i) == true))) || ((((decide (x3.i > (0 : Int))) == true) && ((decide (((x2.nth ((IntKind.wrap .i64 (x3.i - (1 : Int))).toNat)).fld 0).i > ((x2.nth x3.i.toNat).fld 0).i)) == false)) && ((((x2.nth ((IntKind.wrap .i64 (x3.i - (1 : Int))).toNat)).fld 0).i == ((x2.nth x3.i.toNat).fld 0).i) == true))) then
                                                                                          bif ((!((((decide (x3.i > (0 : Int))) == true) && ((decide (((x2.nth ((IntKind.wrap .i64 (x3.i - (1 : Int))).toNat)).fld 0).i > ((x2.nth x3.i.toNat).fld 0).i)) == false)) && ((((x2.nth ((IntKind.wrap .i64 (x3.i - (1 : Int))).toNat)).fld 0).i == ((x2.nth x3.i.toNat).fld 0).i) == true))) || ((((decide (x3.i > (0 : Int))) == true) && ((decide (((x2.nth ((IntKind.wrap .i64 (x3.i - (1 : Int))).toNat)).fld 0).i > ((x2.nth x3.i.toNat).fld 0).i)) == false)) && ((((x2.nth ((IntKind.wrap .i64 (x3.i - (1 : Int))).toNat)).fld 0).i == ((x2.nth x3.i.toNat).fld 0).i) == true))) then
                                                                                            bif ((!((((decide (x3.i > (0 : Int))) == true) && ((decide (((x2.nth ((IntKind.wrap .i64 (x3.i - (1 : Int))).toNat)).fld 0).i > ((x2.nth x3.i.toNat).fld 0).i)) == false)) && ((((x2.nth ((IntKind.wrap .i64 (x3.i - (1 : Int))).toNat)).fld 0).i == ((x2.nth x3.i.toNat).fld 0).i) == true))) || true) then
                                                                                              bif ((!((((decide (x3.i > (0 : Int))) == true) && ((decide (((x2.nth ((IntKind.wrap .i64 (x3.i - (1 : Int))).toNat)).fld 0).i > ((x2.nth x3.i.toNat).fld 0).i)) == false)) && ((((x2.nth ((IntKind.wrap .i64 (x3.i - (1 : Int))).toNat)).fld 0).i == ((x2.nth x3.i.toNat).fld 0).i) == true))) || true) then
                                                                                                bif ((!((((decide (x3.i > (0 : Int))) == true) && ((decide (((x2.nth ((IntKind.wrap .i64 (x3.i - (1 : Int))).toNat)).fld 0).i > ((x2.nth x3.i.toNat).fld 0).i)) == false)) && ((((x2.nth ((IntKind.wrap .i64 (x3.i - (1 : Int))).toNat)).fld 0).i == ((x2.nth x3.i.toNat).fld 0).i) == true))) || ((((((decide (x3.i > (0 : Int))) == true) && ((decide (((x2.nth ((IntKind.wrap .i64 (x3.i - (1 : Int))).toNat)).fld 0).i > ((x2.nth x3.i.toNat).fld 0).i)) == false)) && ((((x2.nth ((IntKind.wrap .i64 (x3.i - (1 : Int))).toNat)).fld 0).i == ((x2.nth x3.i.toNat).fld 0).i) == true)) && (((((decide (x3.i > (0 : Int))) == true) && ((decide (((x2.nth ((IntKind.wrap .i64 (x3.i - (1 : Int))).toNat)).fld 0).i > ((x2.nth x3.i.toNat).fld 0).i)) == false)) && ((((x2.nth ((IntKind.wrap .i64 (x3.i - (1 : Int))).toNat)).fld 0).i == ((x2.nth x3.i.toNat).fld 0).i) == true)) && true)) && (decide (0 ≤ x3.i) && decide (x3.i.toNat < x2.es.length)))) then
                                                                                                  bif ((!((((decide (x3.i > (0 : Int))) == true) && ((decide (((x2.nth ((IntKind.wrap .i64 (x3.i - (1 : Int))).toNat)).fld 0).i > ((x2.nth x3.i.toNat).fld 0).i)) == false)) && ((((x2.nth ((IntKind.wrap .i64 (x3.i - (1 : Int))).toNat)).fld 0).i == ((x2.nth x3.i.toNat).fld 0).i) == true))) || ((((decide (x3.i > (0 : Int))) == true) && ((decide (((x2.nth ((IntKind.wrap .i64 (x3.i - (1 : Int))).toNat)).fld 0).i > ((x2.nth x3.i.toNat).fld 0).i)) == false)) && ((((x2.nth ((IntKind.wrap .i64 (x3.i - (1 : Int))).toNat)).fld 0).i == ((x2.nth x3.i.toNat).fld 0).i) == true))) then
                                                                                                    bif ((!((((decide (x3.i > (0 : Int))) == true) && ((decide (((x2.nth ((IntKind.wrap .i64 (x3.i - (1 : Int))).toNat)).fld 0).i > ((x2.nth x3.i.toNat).fld 0).i)) == false)) && ((((x2.nth ((IntKind.wrap .i64 (x3.i - (1 : Int))).toNat)).fld 0).i == ((x2.nth x3.i.toNat).fld 0).i) == true))) || ((((decide (x3.i > (0 : Int))) == true) && ((decide (((x2.nth ((IntKind.wrap .i64 (x3.i - (1 : Int))).toNat)).fld 0).i > ((x2.nth x3.i.toNat).fld 0).i)) == false)) && ((((x2.nth ((IntKind.wrap .i64 (x3.i - (1 : Int))).toNat)).fld 0).i == ((x2.nth x3.i.toNat).fld 0).i) == true))) then
                                                                                                      bif ((!((((decide (x3.i > (0 : Int))) == true) && ((decide (((x2.nth ((IntKind.wrap .i64 (x3.i - (1 : Int))).toNat)).fld 0).i > ((x2.nth x3.i.toNat).fld 0).i)) == false)) && ((((x2.nth ((IntKind.wrap .i64 (x3.i - (1 : Int))).toNat)).fld 0).i == ((x2.nth x3.i.toNat).fld 0).i) == true))) || ((((decide (x3.i > (0 : Int))) == true) && ((decide (((x2.nth ((IntKind.wrap .i64 (x3.i - (1 : Int))).toNat)).fld 0).i > ((x2.nth x3.i.toNat).fld 0).i)) == false)) && ((((x2.nth ((IntKind.wrap .i64 (x3.i - (1 : Int))).toNat)).fld 0).i == ((x2.nth x3.i.toNat).fld 0).i) == true))) then
                                                                                                        bif ((!((((decide (x3.i > (0 : Int))) == true) && ((decide (((x2.nth ((IntKind.wrap .i64 (x3.i - (1 : Int))).toNat)).fld 0).i > ((x2.nth x3.i.toNat).fld 0).i)) == false)) && ((((x2.nth ((IntKind.wrap .i64 (x3.i - (1 : Int))).toNat)).fld 0).i == ((x2.nth x3.i.toNat).fld 0).i) == true))) || ((((((decide (x3.i > (0 : Int))) == true) && ((decide (((x2.nth ((IntKind.wrap .i64 (x3.i - (1 : Int))).toNat)).fld 0).i > ((x2.nth x3.i.toNat).fld 0).i)) == false)) && ((((x2.nth ((IntKind.wrap .i64 (x3.i - (1 : Int))).toNat)).fld 0).i == ((x2.nth x3.i.toNat).fld 0).i) == true)) && ((((decide (x3.i > (0 : Int))) == true) && ((decide (((x2.nth ((IntKind.wrap .i64 (x3.i - (1 : Int))).toNat)).fld 0).i > ((x2.nth x3.i.toNat).fld 0).i)) == false)) && ((((x2.nth ((IntKind.wrap .i64 (x3.i - (1 : Int))).toNat)).fld 0).i == ((x2.nth x3.i.toNat).fld 0).i) == true))) && true)) then
                                                                                                          bif ((!(((decide (x3.i > (0 : Int))) == true) && ((decide (((x2.nth ((IntKind.wrap .i64 (x3.i - (1 : Int))).toNat)).fld 0).i > ((x2.nth x3.i.toNat).fld 0).i)) == false))) || ((((decide (x3.i > (0 : Int))) == true) && ((decide (((x2.nth ((IntKind.wrap .i64 (x3.i - (1 : Int))).toNat)).fld 0).i > ((x2.nth x3.i.toNat).fld 0).i)) == false)) && (bif (((x2.nth ((IntKind.wrap .i64 (x3.i - (1 : Int))).toNat)).fld 0).i == ((x2.nth x3.i.toNat).fld 0).i) then ((((decide (x3.i > (0 : Int))) == true) && ((decide (((x2.nth ((IntKind.wrap .i64 (x3.i - (1 : Int))).toNat)).fld 0).i > ((x2.nth x3.i.toNat).fld 0).i)) == false)) && ((((x2.nth ((IntKind.wrap .i64 (x3.i - (1 : Int))).toNat)).fld 0).i == ((x2.nth x3.i.toNat).fld 0).i) == true)) else true))) then
                                                                                                            bif ((!((decide (x3.i > (0 : Int))) == true)) || (((decide (x3.i > (0 : Int))) == true) && (bif (decide (((x2.nth ((IntKind.wrap .i64 (x3.i - (1 : Int))).toNat)).fld 0).i > ((x2.nth x3.i.toNat).fld 0).i)) then true else (((decide (x3.i > (0 : Int))) == true) && ((decide (((x2.nth ((IntKind.wrap .i64 (x3.i - (1 : Int))).toNat)).fld 0).i > ((x2.nth x3.i.toNat).fld 0).i)) == false))))) then
                                                                                                              bif (bif (decide (x3.i > (0 : Int))) then ((decide (x3.i > (0 : Int))) == true) else true) then
                                                                                                                bif (bif (decide (x3.i > (0 : Int))) then (bif (decide (((x2.nth ((IntKind.wrap .i64 (x3.i - (1 : Int))).toNat)).fld 0).i > ((x2.nth x3.i.toNat).fld 0).i)) then (T.bool true) else (bif (((x2.nth ((IntKind.wrap .i64 (x3.i - (1 : Int))).toNat)).fld 0).i == ((x2.nth x3.i.toNat).fld 0).i) then (T.bool (!(Op.bytesLess ((((x2.nth ((IntKind.wrap .i64 (x3.i - (1 : Int))).toNat)).fld 1).fld 0).s).toList ((((x2.nth x3.i.toNat).fld 1).fld 0).s).toList))) else (T.bool false))) else (T.bool false)).b then
                                                                                                                  some [(T.bool false)]
                                                                                                                else
                                                                                                                  l_spec_l9Ok_0 H x1 x2 (T.int (IntKind.wrap .i64 (x3.i + (1 : Int))))
                                                                                                              else
                                                                                                                none
                                                                                                            else
                                                                                                              none
                                                                                                          else
                                                                                                            none
                                                                                                        else
                                                                                                          none
                                                                                                      else
                                                                                                        none
                                                                                                    else
                                                                                                      none
                                                                                                  else
                                                                                                    none
                                                                                                else
                                                                                                  none
                                                                                              else
                                                                                                none
                                                                                            else
                                                                                              none
                                                                                          else
                                                                                            none
                                                                                        else
                                                                                          none
                                                                                      else
                                                                                        none
                                                                                    else
                                                                                      none
                                                                                  else
                                                                                    none
                                                                                else
                                                                                  none
                                                                              else
                                                                                none
                                                                            else
                                                                              none
                                                                          else
                                                                            none
                                                                        else
                                                                          none
                                                                      else
                                                                        none
                                                                    else
                                                                      none
                                                                  else
                                                                    none
                                                                else
                                                                  none
                                                              else
                                                                none
                                                            else
                                                              none
                                                          else
                                                            none
                                                        else
                                                          none
                                                      else
                                                        none
                                                    else
                                                      none
                                                  else
                                                    none
                                                else
                                                  none
                                              else
                                                none
                                            else
                                              none
                                          else
                                            none
                                        else
                                          none
                                      else
                                        none
                                    else
                                      none
                                  else
                                    none
                                else
                                  none
                              else
                                none
                            else
                              none
                          else
                            none
                      else
                        none
                    else
                      none
                  else
                    none
                else
                  none
              else
                none
            else
              none
          else
            none
        else
          none
      else
        none
    else
      none
  else
    some [(T.bool (decide ((x2.es.length : Int) ≤ (36 : Int))))] := by kernel_rfl
theorem q_spec_l9Ok_0 (H : List Item → CS → R) (C : CallsE) (x1 : T) (x2 : T) (x3 : T) : headE fi_spec_l9Ok env H C (hdAt fi_spec_l9Ok.body 0) ([(0, .val 27 x1), (1, .val 29 x2), (5, .val 3 x3)], []) =
  bif (decide (x3.i < (x2.es.length : Int))) then
    bif (decide (0 ≤ x3.i) && decide (x3.i.toNat < x2.es.length)) then
      obind (C F_spec_l6In [((x2.nth x3.i.toNat).fld 0), (T.int (0 : Int)), (T.int (3 : Int))]) fun r1 =>
      bif (!(rt r1 0).b) then
        some [(T.bool false)]
      else
        obind (C F_spec_l9Kind [x1, ((x2.nth x3.i.toNat).fld 1)]) fun r2 =>
        bif (!(rt r2 0).b) then
          some [(T.bool false)]
        else
          bif (decide (x3.i > (0 : Int))) then
            bif (decide (0 ≤ (IntKind.wrap .i64 (x3.i - (1 : Int)))) && decide ((IntKind.wrap .i64 (x3.i - (1 : Int))).toNat < x2.es.length)) then
              bif (decide (((x2.nth ((IntKind.wrap .i64 (x3.i - (1 : Int))).toNat)).fld 0).i > ((x2.nth x3.i.toNat).fld 0).i)) then
                some [(T.bool false)]
              else
                bif (((x2.nth ((IntKind.wrap .i64 (x3.i - (1 : Int))).toNat)).fld 0).i == ((x2.nth x3.i.toNat).fld 0).i) then
                  bif (!(Op.bytesLess ((((x2.nth ((IntKind.wrap .i64 (x3.i - (1 : Int))).toNat)).fld 1).fld 0).s).toList ((((x2.nth x3.i.toNat).fld 1).fld 0).s).toList)) then
                    some [(T.bool false)]
                  else
                    l_spec_l9Ok_0 H x1 x2 (T.int (IntKind.wrap .i64 (x3.i + (1 : Int))))
                else
                  l_spec_l9Ok_0 H x1 x2 (T.int (IntKind.wrap .i64 (x3.i + (1 : Int))))
            else
              none
          else
            l_spec_l9Ok_0 H x1 x2 (T.int (IntKind.wrap .i64 (x3.i + (1 : Int))))
    else
      none
  else
    some [(T.bool (decide ((x2.es.length : Int) ≤ (36 : Int))))] := by
  rw [e_spec_l9Ok_0 H C x1 x2 x3]
  all_goals cases hc : ((decide (x3.i < (x2.es.length : Int)))) with
  | true =>
    try simp only [obind_some, cond_true, cond_false, tb_bool, beq_tt, beq_ft, beq_tf, beq_ff, Bool.not_true, Bool.not_false, Bool.true_and, Bool.false_and, Bool.true_or, Bool.false_or]
    all_goals cases hc : ((decide (0 ≤ x3.i) && decide (x3.i.toNat < x2.es.length))) with
    | true =>
      try simp only [obind_some, cond_true, cond_false, tb_bool, beq_tt, beq_ft, beq_tf, beq_ff, Bool.not_true, Bool.not_false, Bool.true_and, Bool.false_and, Bool.true_or, Bool.false_or]
      all_goals refine obind_congr fun r1 => ?_
      all_goals try simp only [obind_some, cond_true, cond_false, tb_bool, beq_tt, beq_ft, beq_tf, beq_ff, Bool.not_true, Bool.not_false, Bool.true_and, Bool.false_and, Bool.true_or, Bool.false_or]
      all_goals cases hc : ((!(rt r1 0).b)) with
      | true =>
        try simp only [obind_some, cond_true, cond_false, tb_bool, beq_tt, beq_ft, beq_tf, beq_ff, Bool.not_true, Bool.not_false, Bool.true_and, Bool.false_and, Bool.true_or, Bool.false_or]
        all_goals kernel_rfl
      | false =>
        try simp only [obind_some, cond_true, cond_false, tb_bool, beq_tt, beq_ft, beq_tf, beq_ff, Bool.not_true, Bool.not_false, Bool.true_and, Bool.false_and, Bool.true_or, Bool.false_or]
        all_goals refine obind_congr fun r2 => ?_
        all_goals try simp only [obind_some, cond_true, cond_false, tb_bool, beq_tt, beq_ft, beq_tf, beq_ff, Bool.not_true, Bool.not_false, Bool.true_and, Bool.false_and, Bool.true_or, Bool.false_or]
        all_goals cases hc : ((!(rt r2 0).b)) with
        | true =>
          try simp only [obind_some, cond_true, cond_false, tb_bool, beq_tt, beq_ft, beq_tf, beq_ff, Bool.not_true, Bool.not_false, Bool.true_and, Bool.false_and, Bool.true_or, Bool.false_or]
          all_goals kernel_rfl
        | false =>
          try simp only [obind_some, cond_true, cond_false, tb_bool, beq_tt, beq_ft, beq_tf, beq_ff, Bool.not_true, Bool.not_false, Bool.true_and, Bool.false_and, Bool.true_or, Bool.false_or]
          all_goals cases hc : ((decide (x3.i > (0 : Int)))) with
          | true =>
            try simp only [obind_some, cond_true, cond_false, tb_bool, beq_tt, beq_ft, beq_tf, beq_ff, Bool.not_true, Bool.not_false, Bool.true_and, Bool.false_and, Bool.true_or, Bool.false_or]
            all_goals cases hc : ((decide (0 ≤ (IntKind.wrap .i64 (x3.i - (1 : Int)))) && decide ((IntKind.wrap .i64 (x3.i - (1 : Int))).toNat < x2.es.length))) with
            | true =>
              try simp only [obind_some, cond_true, cond_false, tb_bool, beq_tt, beq_ft, beq_tf, beq_ff, Bool.not_true, Bool.not_false, Bool.true_and, Bool.false_and, Bool.true_or, Bool.false_or]
              all_goals cases hc : ((decide (((x2.nth ((IntKind.wrap .i64 (x3.i - (1 : Int))).toNat)).fld 0).i > ((x2.nth x3.i.toNat).fld 0).i))) with
              | true =>
                try simp only [obind_some, cond_true, cond_false, tb_bool, beq_tt, beq_ft, beq_tf, beq_ff, Bool.not_true, Bool.not_false, Bool.true_and, Bool.false_and, Bool.true_or, Bool.false_or]
                all_goals cases hc : ((((x2.nth ((IntKind.wrap .i64 (x3.i - (1 : Int))).toNat)).fld 0).i == ((x2.nth x3.i.toNat).fld 0).i)) with
                | true =>
                  try simp only [obind_some, cond_true, cond_false, tb_bool, beq_tt, beq_ft, beq_tf, beq_ff, Bool.not_true, Bool.not_false, Bool.true_and, Bool.false_and, Bool.true_or, Bool.false_or]
                  all_goals kernel_rfl
                | false =>
                  try simp only [obind_some, cond_true, cond_false, tb_bool, beq_tt, beq_ft, beq_tf, beq_ff, Bool.not_true, Bool.not_false, Bool.true_and, Bool.false_and, Bool.true_or, Bool.false_or]
                  all_goals kernel_rfl
              | false =>
                try simp only [obind_some, cond_true, cond_false, tb_bool, beq_tt, beq_ft, beq_tf, beq_ff, Bool.not_true, Bool.not_false, Bool.true_and, Bool.false_and, Bool.true_or, Bool.false_or]
                all_goals cases hc : ((((x2.nth ((IntKind.wrap .i64 (x3.i - (1 : Int))).toNat)).fld 0).i == ((x2.nth x3.i.toNat).fld 0).i)) with
                | true =>
                  try simp only [obind_some, cond_true, cond_false, tb_bool, beq_tt, beq_ft, beq_tf, beq_ff, Bool.not_true, Bool.not_false, Bool.true_and, Bool.false_and, Bool.true_or, Bool.false_or]
                  all_goals cases hc : ((!(Op.bytesLess ((((x2.nth ((IntKind.wrap .i64 (x3.i - (1 : Int))).toNat)).fld 1).fld 0).s).toList ((((x2.nth x3.i.toNat).fld 1).fld 0).s).toList))) with
                  | true =>
                    try simp only [obind_some, cond_true, cond_false, tb_bool, beq_tt, beq_ft, beq_tf, beq_ff, Bool.not_true, Bool.not_false, Bool.true_and, Bool.false_and, Bool.true_or, Bool.false_or]
                    all_goals kernel_rfl
                  | false =>
                    try simp only [obind_some, cond_true, cond_false, tb_bool, beq_tt, beq_ft, beq_tf, beq_ff, Bool.not_true, Bool.not_false, Bool.true_and, Bool.false_and, Bool.true_or, Bool.false_or]
                    all_goals kernel_rfl
                | false =>
                  try simp only [obind_some, cond_true, cond_false, tb_bool, beq_tt, beq_ft, beq_tf, beq_ff, Bool.not_true, Bool.not_false, Bool.true_and, Bool.false_and, Bool.true_or, Bool.false_or]
                  all_goals kernel_rfl
            | false =>
              try simp only [obind_some, cond_true, cond_false, tb_bool, beq_tt, beq_ft, beq_tf, beq_ff, Bool.not_true, Bool.not_false, Bool.true_and, Bool.false_and, Bool.true_or, Bool.false_or]
              all_goals kernel_rfl
          | false =>
            try simp only [obind_some, cond_true, cond_false, tb_bool, beq_tt, beq_ft, beq_tf, beq_ff, Bool.not_true, Bool.not_false, Bool.true_and, Bool.false_and, Bool.true_or, Bool.false_or]
            all_goals cases hc : ((decide (((x2.nth ((IntKind.wrap .i64 (x3.i - (1 : Int))).toNat)).fld 0).i > ((x2.nth x3.i.toNat).fld 0).i))) with
            | true =>
              try simp only [obind_some, cond_true, cond_false, tb_bool, beq_tt, beq_ft, beq_tf, beq_ff, Bool.not_true, Bool.not_false, Bool.true_and, Bool.false_and, Bool.true_or, Bool.false_or]
              all_goals cases hc : ((((x2.nth ((IntKind.wrap .i64 (x3.i - (1 : Int))).toNat)).fld 0).i == ((x2.nth x3.i.toNat).fld 0).i)) with
              | true =>
                try simp only [obind_some, cond_true, cond_false, tb_bool, beq_tt, beq_ft, beq_tf, beq_ff, Bool.not_true, Bool.not_false, Bool.true_and, Bool.false_and, Bool.true_or, Bool.false_or]
                all_goals kernel_rfl
              | false =>
                try simp only [obind_some, cond_true, cond_false, tb_bool, beq_tt, beq_ft, beq_tf, beq_ff, Bool.not_true, Bool.not_false, Bool.true_and, Bool.false_and, Bool.true_or, Bool.false_or]
                all_goals kernel_rfl
            | false =>
              try simp only [obind_some, cond_true, cond_false, tb_bool, beq_tt, beq_ft, beq_tf, beq_ff, Bool.not_true, Bool.not_false, Bool.true_and, Bool.false_and, Bool.true_or, Bool.false_or]
              all_goals cases hc : ((((x2.nth ((IntKind.wrap .i64 (x3.i - (1 : Int))).toNat)).fld 0).i == ((x2.nth x3.i.toNat).fld 0).i)) with
              | true =>
                try simp only [obind_some, cond_true, cond_false, tb_bool, beq_tt, beq_ft, beq_tf, beq_ff, Bool.not_true, Bool.not_false, Bool.true_and, Bool.false_and, Bool.true_or, Bool.false_or]
                all_goals kernel_rfl
              | false =>
                try simp only [obind_some, cond_true, cond_false, tb_bool, beq_tt, beq_ft, beq_tf, beq_ff, Bool.not_true, Bool.not_false, Bool.true_and, Bool.false_and, Bool.true_or, Bool.false_or]
                all_goals kernel_rfl
    | false =>
      try simp only [obind_some, cond_true, cond_false, tb_bool, beq_tt, beq_ft, beq_tf, beq_ff, Bool.not_true, Bool.not_false, Bool.true_and, Bool.false_and, Bool.true_or, Bool.false_or]
      all_goals kernel_rfl
  | false =>
    try simp only [obind_some, cond_true, cond_false, tb_bool, beq_tt, beq_ft, beq_tf, beq_ff, Bool.not_true, Bool.not_false, Bool.true_and, Bool.false_and, Bool.true_or, Bool.false_or]
    all_goals kernel_rfl
theorem y_spec_l9Ok_0 (x1 : T) (x2 : T) (x3 : T) {r : List T} (h : Yields (fun k =>
  bif (decide (x3.i < (x2.es.length : Int))) then
    bif (decide (0 ≤ x3.i) && decide (x3.i.toNat < x2.es.length)) then
      obind (cl env k F_spec_l6In [((x2.nth x3.i.toNat).fld 0), (T.int (0 : Int)), (T.int (3 : Int))]) fun r1 =>
      bif (!(rt r1 0).b) then
        some [(T.bool false)]
      else
        obind (cl env k F_spec_l9Kind [x1, ((x2.nth x3.i.toNat).fld 1)]) fun r2 =>
        bif (!(rt r2 0).b) then
          some [(T.bool false)]
        else
          bif (decide (x3.i > (0 : Int))) then
            bif (decide (0 ≤ (IntKind.wrap .i64 (x3.i - (1 : Int)))) && decide ((IntKind.wrap .i64 (x3.i - (1 : Int))).toNat < x2.es.length)) then
              bif (decide (((x2.nth ((IntKind.wrap .i64 (x3.i - (1 : Int))).toNat)).fld 0).i > ((x2.nth x3.i.toNat).fld 0).i)) then
                some [(T.bool false)]
              else
                bif (((x2.nth ((IntKind.wrap .i64 (x3.i - (1 : Int))).toNat)).fld 0).i == ((x2.nth x3.i.toNat).fld 0).i) then
                  bif (!(Op.bytesLess ((((x2.nth ((IntKind.wrap .i64 (x3.i - (1 : Int))).toNat)).fld 1).fld 0).s).toList ((((x2.nth x3.i.toNat).fld 1).fld 0).s).toList)) then
                    some [(T.bool false)]
                  else
                    l_spec_l9Ok_0 (hl env k fi_spec_l9Ok) x1 x2 (T.int (IntKind.wrap .i64 (x3.i + (1 : Int))))
                else
                  l_spec_l9Ok_0 (hl env k fi_spec_l9Ok) x1 x2 (T.int (IntKind.wrap .i64 (x3.i + (1 : Int))))
            else
              none
          else
            l_spec_l9Ok_0 (hl env k fi_spec_l9Ok) x1 x2 (T.int (IntKind.wrap .i64 (x3.i + (1 : Int))))
    else
      none
  else
    some [(T.bool (decide ((x2.es.length : Int) ≤ (36 : Int))))]) r) : Yields (fun k => l_spec_l9Ok_0 (hl env k fi_spec_l9Ok) x1 x2 x3) r := Yields.head (fun H C => q_spec_l9Ok_0 H C x1 x2 x3) h
/- loop.example/heirlooms/spec.l1Base -/
theorem e_spec_l1Base (H : List Item → CS → R) (C : CallsE) (a0 : T) : enterE fi_spec_l1Base env H C [a0] =
  bif ((!((a0.s.toList == (⟨#[110]⟩ : ByteArray).toList) == false)) || true) then
    bif ((!((a0.s.toList == (⟨#[110]⟩ : ByteArray).toList) == false)) || ((((a0.s.toList == (⟨#[110]⟩ : ByteArray).toList) == false) && true) && true)) then
      bif (bif (a0.s.toList == (⟨#[110]⟩ : ByteArray).toList) then true else ((a0.s.toList == (⟨#[110]⟩ : ByteArray).toList) == false)) then
        bif ((!((bif (a0.s.toList == (⟨#[110]⟩ : ByteArray).toList) then (T.bool true) else (T.bool (a0.s.toList == (⟨#[98]⟩ : ByteArray).toList))).b == false)) || true) then
          bif ((!((bif (a0.s.toList == (⟨#[110]⟩ : ByteArray).toList) then (T.bool true) else (T.bool (a0.s.toList == (⟨#[98]⟩ : ByteArray).toList))).b == false)) || ((((bif (a0.s.toList == (⟨#[110]⟩ : ByteArray).toList) then (T.bool true) else (T.bool (a0.s.toList == (⟨#[98]⟩ : ByteArray).toList))).b == false) && true) && true)) then
            bif (bif (bif (a0.s.toList == (⟨#[110]⟩ : ByteArray).toList) then (T.bool true) else (T.bool (a0.s.toList == (⟨#[98]⟩ : ByteArray).toList))).b then true else ((bif (a0.s.toList == (⟨#[110]⟩ : ByteArray).toList) then (T.bool true) else (T.bool (a0.s.toList == (⟨#[98]⟩ : ByteArray).toList))).b == false)) then
              some [(bif (bif (a0.s.toList == (⟨#[110]⟩ : ByteArray).toList) then (T.bool true) else (T.bool (a0.s.toList == (⟨#[98]⟩ : ByteArray).toList))).b then (T.bool true) else (T.bool (a0.s.toList == (⟨#[111]⟩ : ByteArray).toList)))]
            else
              none
          else
            none
        else
          none
      else
        none
    else
      none
  else
    none := by kernel_rfl
theorem q_spec_l1Base (H : List Item → CS → R) (C : CallsE) (a0 : T) : enterE fi_spec_l1Base env H C [a0] =
  bif (a0.s.toList == (⟨#[110]⟩ : ByteArray).toList) then
    some [(T.bool true)]
  else
    bif (a0.s.toList == (⟨#[98]⟩ : ByteArray).toList) then
      some [(T.bool true)]
    else
      some [(T.bool (a0.s.toList == (⟨#[111]⟩ : ByteArray).toList))] := by
  rw [e_spec_l1Base H C a0]
  all_goals cases hc : ((a0.s.toList == (⟨#[110]⟩ : ByteArray).toList)) with
  | true =>
    try simp only [obind_some, cond_true, cond_false, tb_bool, beq_tt, beq_ft, beq_tf, beq_ff, Bool.not_true, Bool.not_false, Bool.true_and, Bool.false_and, Bool.true_or, Bool.false_or]
    all_goals kernel_rfl
  | false =>
    try simp only [obind_some, cond_true, cond_false, tb_bool, beq_tt, beq_ft, beq_tf, beq_ff, Bool.not_true, Bool.not_false, Bool.true_and, Bool.false_and, Bool.true_or, Bool.false_or]
    all_goals cases hc : ((a0.s.toList == (⟨#[98]⟩ : ByteArray).toList)) with
    | true =>
      try simp only [obind_some, cond_true, cond_false, tb_bool, beq_tt, beq_ft, beq_tf, beq_ff, Bool.not_true, Bool.not_false, Bool.true_and, Bool.false_and, Bool.true_or, Bool.false_or]
      all_goals kernel_rfl
    | false =>
      try simp only [obind_some, cond_true, cond_false, tb_bool, beq_tt, beq_ft, beq_tf, beq_ff, Bool.not_true, Bool.not_false, Bool.true_and, Bool.false_and, Bool.true_or, Bool.false_or]
      all_goals kernel_rfl
theorem y_spec_l1Base (a0 : T) {r : List T} (h : Yields (fun k =>
  bif (a0.s.toList == (⟨#[110]⟩ : ByteArray).toList) then
    some [(T.bool true)]
  else
    bif (a0.s.toList == (⟨#[98]⟩ : ByteArray).toList) then
      some [(T.bool true)]
    else
      some [(T.bool (a0.s.toList == (⟨#[111]⟩ : ByteArray).toList))]) r) : Yields (fun k => cl env k F_spec_l1Base [a0]) r := Yields.call (fi := fi_spec_l1Base) rfl (fun H C => q_spec_l1Base H C a0) h
/- loop.example/heirlooms/spec.l1Has -/
theorem e_spec_l1Has (H : List Item → CS → R) (C : CallsE) (a0 a1 a2 : T) : enterE fi_spec_l1Has env H C [a0, a1, a2] =
  bif ((!((decide (a1.i < (a0.es.length : Int))) == true)) || true) then
    bif ((!((decide (a1.i < (a0.es.length : Int))) == true)) || true) then
      bif ((!((decide (a1.i < (a0.es.length : Int))) == true)) || true) then
        bif ((!((decide (a1.i < (a0.es.length : Int))) == true)) || ((((decide (a1.i < (a0.es.length : Int))) == true) && (((decide (a1.i < (a0.es.length : Int))) == true) && true)) && (decide (0 ≤ a1.i) && decide (a1.i.toNat < a0.es.length)))) then
          bif ((!((decide (a1.i < (a0.es.length : Int))) == true)) || ((decide (a1.i < (a0.es.length : Int))) == true)) then
            bif ((!((decide (a1.i < (a0.es.length : Int))) == true)) || ((decide (a1.i < (a0.es.length : Int))) == true)) then
              bif ((!((decide (a1.i < (a0.es.length : Int))) == true)) || ((((decide (a1.i < (a0.es.length : Int))) == true) && ((decide (a1.i < (a0.es.length : Int))) == true)) && true)) then
                bif (bif (decide (a1.i < (a0.es.length : Int))) then ((decide (a1.i < (a0.es.length : Int))) == true) else true) then
                  some [(bif (decide (a1.i < (a0.es.length : Int))) then (T.bool (decide (a2.i < (((a0.nth a1.i.toNat).es).length : Int)))) else (T.bool false))]
                else
                  none
              else
                none
            else
              none
          else
            none
        else
          none
      else
        none
    else
      none
  else
    none := by kernel_rfl
theorem q_spec_l1Has (H : List Item → CS → R) (C : CallsE) (a0 a1 a2 : T) : enterE fi_spec_l1Has env H C [a0, a1, a2] =
  bif (decide (a1.i < (a0.es.length : Int))) then
    bif (decide (0 ≤ a1.i) && decide (a1.i.toNat < a0.es.length)) then
      some [(T.bool (decide (a2.i < (((a0.nth a1.i.toNat).es).length : Int))))]
    else
      none
  else
    some [(T.bool false)] := by
  rw [e_spec_l1Has H C a0 a1 a2]
  all_goals cases hc : ((decide (a1.i < (a0.es.length : Int)))) with
  | true =>
    try simp only [obind_some, cond_true, cond_false, tb_bool, beq_tt, beq_ft, beq_tf, beq_ff, Bool.not_true, Bool.not_false, Bool.true_and, Bool.false_and, Bool.true_or, Bool.false_or]
    all_goals cases hc : ((decide (0 ≤ a1.i) && decide (a1.i.toNat < a0.es.length))) with
    | true =>
      try simp only [obind_some, cond_true, cond_false, tb_bool, beq_tt, beq_ft, beq_tf, beq_ff, Bool.not_true, Bool.not_false, Bool.true_and, Bool.false_and, Bool.true_or, Bool.false_or]
      all_goals kernel_rfl
    | false =>
      try simp only [obind_some, cond_true, cond_false, tb_bool, beq_tt, beq_ft, beq_tf, beq_ff, Bool.not_true, Bool.not_false, Bool.true_and, Bool.false_and, Bool.true_or, Bool.false_or]
      all_goals kernel_rfl
  | false =>
    try simp only [obind_some, cond_true, cond_false, tb_bool, beq_tt, beq_ft, beq_tf, beq_ff, Bool.not_true, Bool.not_false, Bool.true_and, Bool.false_and, Bool.true_or, Bool.false_or]
    all_goals kernel_rfl
theorem y_spec_l1Has (a0 a1 a2 : T) {r : List T} (h : Yields (fun k =>
  bif (decide (a1.i < (a0.es.length : Int))) then
    bif (decide (0 ≤ a1.i) && decide (a1.i.toNat < a0.es.length)) then
      some [(T.bool (decide (a2.i < (((a0.nth a1.i.toNat).es).length : Int))))]
    else
      none
  else
    some [(T.bool false)]) r) : Yields (fun k => cl env k F_spec_l1Has [a0, a1, a2]) r := Yields.call (fi := fi_spec_l1Has) rfl (fun H C => q_spec_l1Has H C a0 a1 a2) h
/- loop.example/heirlooms/laws.toRecord -/
theorem q_laws_toRecord (H : List Item → CS → R) (C : CallsE) (a0 : T) : enterE fi_laws_toRecord env H C [a0] =
  obind (C F_laws_toStringS [(a0.fld 1)]) fun r1 =>
  some [(T.st [(a0.fld 0), (rt r1 0)])] := by kernel_rfl
theorem y_laws_toRecord (a0 : T) {r : List T} (h : Yields (fun k =>
  obind (cl env k F_laws_toStringS [(a0.fld 1)]) fun r1 =>
  some [(T.st [(a0.fld 0), (rt r1 0)])]) r) : Yields (fun k => cl env k F_laws_toRecord [a0]) r := Yields.call (fi := fi_laws_toRecord) rfl (fun H C => q_laws_toRecord H C a0) h
/- loop.example/heirlooms/impl.KindsOk -/
theorem q_impl_KindsOk (H : List Item → CS → R) (C : CallsE) (a0 : T) : enterE fi_impl_KindsOk env H C [a0] =
  obind (C F_impl_KindsBad [a0]) fun r1 =>
  some [(T.bool ((rt r1 0).i == (-1 : Int)))] := by kernel_rfl
theorem y_impl_KindsOk (a0 : T) {r : List T} (h : Yields (fun k =>
  obind (cl env k F_impl_KindsBad [a0]) fun r1 =>
  some [(T.bool ((rt r1 0).i == (-1 : Int)))]) r) : Yields (fun k => cl env k F_impl_KindsOk [a0]) r := Yields.call (fi := fi_impl_KindsOk) rfl (fun H C => q_impl_KindsOk H C a0) h
/- loop.example/heirlooms/impl.vaultBefore -/
theorem e_impl_vaultBefore (H : List Item → CS → R) (C : CallsE) (a0 a1 : T) : enterE fi_impl_vaultBefore env H C [a0, a1] =
  bif ((!((decide ((a0.fld 0).i < (a1.fld 0).i)) == false)) || true) then
    bif ((!((decide ((a0.fld 0).i < (a1.fld 0).i)) == false)) || ((decide ((a0.fld 0).i < (a1.fld 0).i)) == false)) then
      bif ((!((decide ((a0.fld 0).i < (a1.fld 0).i)) == false)) || true) then
        bif ((!((decide ((a0.fld 0).i < (a1.fld 0).i)) == false)) || ((decide ((a0.fld 0).i < (a1.fld 0).i)) == false)) then
          bif ((!((decide ((a0.fld 0).i < (a1.fld 0).i)) == false)) || ((((decide ((a0.fld 0).i < (a1.fld 0).i)) == false) && ((decide ((a0.fld 0).i < (a1.fld 0).i)) == false)) && true)) then
            bif ((!((decide ((a0.fld 0).i < (a1.fld 0).i)) == false)) || ((decide ((a0.fld 0).i < (a1.fld 0).i)) == false)) then
              bif ((!(((decide ((a0.fld 0).i < (a1.fld 0).i)) == false) && (((a0.fld 0).i == (a1.fld 0).i) == true))) || true) then
                bif ((!(((decide ((a0.fld 0).i < (a1.fld 0).i)) == false) && (((a0.fld 0).i == (a1.fld 0).i) == true))) || (((decide ((a0.fld 0).i < (a1.fld 0).i)) == false) && (((a0.fld 0).i == (a1.fld 0).i) == true))) then
                  bif ((!(((decide ((a0.fld 0).i < (a1.fld 0).i)) == false) && (((a0.fld 0).i == (a1.fld 0).i) == true))) || (((decide ((a0.fld 0).i < (a1.fld 0).i)) == false) && (((a0.fld 0).i == (a1.fld 0).i) == true))) then
                    bif ((!(((decide ((a0.fld 0).i < (a1.fld 0).i)) == false) && (((a0.fld 0).i == (a1.fld 0).i) == true))) || true) then
                      bif ((!(((decide ((a0.fld 0).i < (a1.fld 0).i)) == false) && (((a0.fld 0).i == (a1.fld 0).i) == true))) || (((decide ((a0.fld 0).i < (a1.fld 0).i)) == false) && (((a0.fld 0).i == (a1.fld 0).i) == true))) then
                        bif ((!(((decide ((a0.fld 0).i < (a1.fld 0).i)) == false) && (((a0.fld 0).i == (a1.fld 0).i) == true))) || (((decide ((a0.fld 0).i < (a1.fld 0).i)) == false) && (((a0.fld 0).i == (a1.fld 0).i) == true))) then
                          bif ((!(((decide ((a0.fld 0).i < (a1.fld 0).i)) == false) && (((a0.fld 0).i == (a1.fld 0).i) == true))) || (((((decide ((a0.fld 0).i < (a1.fld 0).i)) == false) && (((a0.fld 0).i == (a1.fld 0).i) == true)) && (((decide ((a0.fld 0).i < (a1.fld 0).i)) == false) && (((a0.fld 0).i == (a1.fld 0).i) == true))) && true)) then
                            bif ((!((decide ((a0.fld 0).i < (a1.fld 0).i)) == false)) || (((decide ((a0.fld 0).i < (a1.fld 0).i)) == false) && (bif ((a0.fld 0).i == (a1.fld 0).i) then (((decide ((a0.fld 0).i < (a1.fld 0).i)) == false) && (((a0.fld 0).i == (a1.fld 0).i) == true)) else true))) then
                              bif (bif (decide ((a0.fld 0).i < (a1.fld 0).i)) then true else ((decide ((a0.fld 0).i < (a1.fld 0).i)) == false)) then
                                some [(bif (decide ((a0.fld 0).i < (a1.fld 0).i)) then (T.bool true) else (bif ((a0.fld 0).i == (a1.fld 0).i) then (T.bool (Op.bytesLess (((a0.fld 1).fld 0).s).toList (((a1.fld 1).fld 0).s).toList)) else (T.bool false)))]
                              else
                                none
                            else
                              none
                          else
                            none
                        else
                          none
                      else
                        none
                    else
                      none
                  else
                    none
                else
                  none
              else
                none
            else
              none
          else
            none
        else
          none
      else
        none
    else
      none
  else
    none := by kernel_rfl
theorem q_impl_vaultBefore (H : List Item → CS → R) (C : CallsE) (a0 a1 : T) : enterE fi_impl_vaultBefore env H C [a0, a1] =
  bif (decide ((a0.fld 0).i < (a1.fld 0).i)) then
    some [(T.bool true)]
  else
    bif ((a0.fld 0).i == (a1.fld 0).i) then
      some [(T.bool (Op.bytesLess (((a0.fld 1).fld 0).s).toList (((a1.fld 1).fld 0).s).toList))]
    else
      some [(T.bool false)] := by
  rw [e_impl_vaultBefore H C a0 a1]
  all_goals cases hc : ((decide ((a0.fld 0).i < (a1.fld 0).i))) with
  | true =>
    try simp only [obind_some, cond_true, cond_false, tb_bool, beq_tt, beq_ft, beq_tf, beq_ff, Bool.not_true, Bool.not_false, Bool.true_and, Bool.false_and, Bool.true_or, Bool.false_or]
    all_goals cases hc : (((a0.fld 0).i == (a1.fld 0).i)) with
    | true =>
      try simp only [obind_some, cond_true, cond_false, tb_bool, beq_tt, beq_ft, beq_tf, beq_ff, Bool.not_true, Bool.not_false, Bool.true_and, Bool.false_and, Bool.true_or, Bool.false_or]
      all_goals kernel_rfl
    | false =>
      try simp only [obind_some, cond_true, cond_false, tb_bool, beq_tt, beq_ft, beq_tf, beq_ff, Bool.not_true, Bool.not_false, Bool.true_and, Bool.false_and, Bool.true_or, Bool.false_or]
      all_goals kernel_rfl
  | false =>
    try simp only [obind_some, cond_true, cond_false, tb_bool, beq_tt, beq_ft, beq_tf, beq_ff, Bool.not_true, Bool.not_false, Bool.true_and, Bool.false_and, Bool.true_or, Bool.false_or]
    all_goals cases hc : (((a0.fld 0).i == (a1.fld 0).i)) with
    | true =>
      try simp only [obind_some, cond_true, cond_false, tb_bool, beq_tt, beq_ft, beq_tf, beq_ff, Bool.not_true, Bool.not_false, Bool.true_and, Bool.false_and, Bool.true_or, Bool.false_or]
      all_goals kernel_rfl
    | false =>
      try simp only [obind_some, cond_true, cond_false, tb_bool, beq_tt, beq_ft, beq_tf, beq_ff, Bool.not_true, Bool.not_false, Bool.true_and, Bool.false_and, Bool.true_or, Bool.false_or]
      all_goals kernel_rfl
theorem y_impl_vaultBefore (a0 a1 : T) {r : List T} (h : Yields (fun k =>
  bif (decide ((a0.fld 0).i < (a1.fld 0).i)) then
    some [(T.bool true)]
  else
    bif ((a0.fld 0).i == (a1.fld 0).i) then
      some [(T.bool (Op.bytesLess (((a0.fld 1).fld 0).s).toList (((a1.fld 1).fld 0).s).toList))]
    else
      some [(T.bool false)]) r) : Yields (fun k => cl env k F_impl_vaultBefore [a0, a1]) r := Yields.call (fi := fi_impl_vaultBefore) rfl (fun H C => q_impl_vaultBefore H C a0 a1) h
/- loop.example/heirlooms/impl.kindAt -/
theorem e_impl_kindAt (H : List Item → CS → R) (C : CallsE) (a0 : T) : enterE fi_impl_kindAt env H C [a0] =
  bif ((!(((a0.s.size : Int) != (3 : Int)) == false)) || true) then
    bif ((!(((a0.s.size : Int) != (3 : Int)) == false)) || (((((a0.s.size : Int) != (3 : Int)) == false) && true) && (decide (0 ≤ (0 : Int)) && decide (0 < a0.s.size)))) then
      bif ((!(((a0.s.size : Int) != (3 : Int)) == false)) || (((((a0.s.size : Int) != (3 : Int)) == false) && true) && true)) then
        bif (bif ((a0.s.size : Int) != (3 : Int)) then true else (((a0.s.size : Int) != (3 : Int)) == false)) then
          bif ((!((bif ((a0.s.size : Int) != (3 : Int)) then (T.bool true) else (T.bool ((a0.s.data.getD 0 0).toNat != (83 : Int)))).b == false)) || true) then
            bif ((!((bif ((a0.s.size : Int) != (3 : Int)) then (T.bool true) else (T.bool ((a0.s.data.getD 0 0).toNat != (83 : Int)))).b == false)) || ((((bif ((a0.s.size : Int) != (3 : Int)) then (T.bool true) else (T.bool ((a0.s.data.getD 0 0).toNat != (83 : Int)))).b == false) && true) && (decide (0 ≤ (1 : Int)) && decide (1 < a0.s.size)))) then
              bif ((!((bif ((a0.s.size : Int) != (3 : Int)) then (T.bool true) else (T.bool ((a0.s.data.getD 0 0).toNat != (83 : Int)))).b == false)) || ((((bif ((a0.s.size : Int) != (3 : Int)) then (T.bool true) else (T.bool ((a0.s.data.getD 0 0).toNat != (83 : Int)))).b == false) && true) && true)) then
                bif (bif (bif ((a0.s.size : Int) != (3 : Int)) then (T.bool true) else (T.bool ((a0.s.data.getD 0 0).toNat != (83 : Int)))).b then true else ((bif ((a0.s.size : Int) != (3 : Int)) then (T.bool true) else (T.bool ((a0.s.data.getD 0 0).toNat != (83 : Int)))).b == false)) then
                  bif ((!((bif (bif ((a0.s.size : Int) != (3 : Int)) then (T.bool true) else (T.bool ((a0.s.data.getD 0 0).toNat != (83 : Int)))).b then (T.bool true) else (T.bool (decide ((a0.s.data.getD 1 0).toNat < (48 : Int))))).b == false)) || true) then
                    bif ((!((bif (bif ((a0.s.size : Int) != (3 : Int)) then (T.bool true) else (T.bool ((a0.s.data.getD 0 0).toNat != (83 : Int)))).b then (T.bool true) else (T.bool (decide ((a0.s.data.getD 1 0).toNat < (48 : Int))))).b == false)) || ((((bif (bif ((a0.s.size : Int) != (3 : Int)) then (T.bool true) else (T.bool ((a0.s.data.getD 0 0).toNat != (83 : Int)))).b then (T.bool true) else (T.bool (decide ((a0.s.data.getD 1 0).toNat < (48 : Int))))).b == false) && true) && (decide (0 ≤ (1 : Int)) && decide (1 < a0.s.size)))) then
                      bif ((!((bif (bif ((a0.s.size : Int) != (3 : Int)) then (T.bool true) else (T.bool ((a0.s.data.getD 0 0).toNat != (83 : Int)))).b then (T.bool true) else (T.bool (decide ((a0.s.data.getD 1 0).toNat < (48 : Int))))).b == false)) || ((((bif (bif ((a0.s.size : Int) != (3 : Int)) then (T.bool true) else (T.bool ((a0.s.data.getD 0 0).toNat != (83 : Int)))).b then (T.bool true) else (T.bool (decide ((a0.s.data.getD 1 0).toNat < (48 : Int))))).b == false) && true) && true)) then
                        bif (bif (bif (bif ((a0.s.size : Int) != (3 : Int)) then (T.bool true) else (T.bool ((a0.s.data.getD 0 0).toNat != (83 : Int)))).b then (T.bool true) else (T.bool (decide ((a0.s.data.getD 1 0).toNat < (48 : Int))))).b then true else ((bif (bif ((a0.s.size : Int) != (3 : Int)) then (T.bool true) else (T.bool ((a0.s.data.getD 0 0).toNat != (83 : Int)))).b then (T.bool true) else (T.bool (decide ((a0.s.data.getD 1 0).toNat < (48 : Int))))).b == false)) then
                          bif ((!((bif (bif (bif ((a0.s.size : Int) != (3 : Int)) then (T.bool true) else (T.bool ((a0.s.data.getD 0 0).toNat != (83 : Int)))).b then (T.bool true) else (T.bool (decide ((a0.s.data.getD 1 0).toNat < (48 : Int))))).b then (T.bool true) else (T.bool (decide ((a0.s.data.getD 1 0).toNat > (57 : Int))))).b == false)) || true) then
                            bif ((!((bif (bif (bif ((a0.s.size : Int) != (3 : Int)) then (T.bool true) else (T.bool ((a0.s.data.getD 0 0).toNat != (83 : Int)))).b then (T.bool true) else (T.bool (decide ((a0.s.data.getD 1 0).toNat < (48 : Int))))).b then (T.bool true) else (T.bool (decide ((a0.s.data.getD 1 0).toNat > (57 : Int))))).b == false)) || ((((bif (bif (bif ((a0.s.size : Int) != (3 : Int)) then (T.bool true) else (T.bool ((a0.s.data.getD 0 0).toNat != (83 : Int)))).b then (T.bool true) else (T.bool (decide ((a0.s.data.getD 1 0).toNat < (48 : Int))))).b then (T.bool true) else (T.bool (decide ((a0.s.data.getD 1 0).toNat > (57 : Int))))).b == false) && true) && (decide (0 ≤ (2 : Int)) && decide (2 < a0.s.size)))) then
                              bif ((!((bif (bif (bif ((a0.s.size : Int) != (3 : Int)) then (T.bool true) else (T.bool ((a0.s.data.getD 0 0).toNat != (83 : Int)))).b then (T.bool true) else (T.bool (decide ((a0.s.data.getD 1 0).toNat < (48 : Int))))).b then (T.bool true) else (T.bool (decide ((a0.s.data.getD 1 0).toNat > (57 : Int))))).b == false)) || ((((bif (bif (bif ((a0.s.size : Int) != (3 : Int)) then (T.bool true) else (T.bool ((a0.s.data.getD 0 0).toNat != (83 : Int)))).b then (T.bool true) else (T.bool (decide ((a0.s.data.getD 1 0).toNat < (48 : Int))))).b then (T.bool true) else (T.bool (decide ((a0.s.data.getD 1 0).toNat > (57 : Int))))).b == false) && true) && true)) then
                                bif (bif (bif (bif (bif ((a0.s.size : Int) != (3 : Int)) then (T.bool true) else (T.bool ((a0.s.data.getD 0 0).toNat != (83 : Int)))).b then (T.bool true) else (T.bool (decide ((a0.s.data.getD 1 0).toNat < (48 : Int))))).b then (T.bool true) else (T.bool (decide ((a0.s.data.getD 1 0).toNat > (57 : Int))))).b then true else ((bif (bif (bif ((a0.s.size : Int) != (3 : Int)) then (T.bool true) else (T.bool ((a0.s.data.getD 0 0).toNat != (83 : Int)))).b then (T.bool true) else (T.bool (decide ((a0.s.data.getD 1 0).toNat < (48 : Int))))).b then (T.bool true) else (T.bool (decide ((a0.s.data.getD 1 0).toNat > (57 : Int))))).b == false)) then
                                  bif ((!((bif (bif (bif (bif ((a0.s.size : Int) != (3 : Int)) then (T.bool true) else (T.bool ((a0.s.data.getD 0 0).toNat != (83 : Int)))).b then (T.bool true) else (T.bool (decide ((a0.s.data.getD 1 0).toNat < (48 : Int))))).b then (T.bool true) else (T.bool (decide ((a0.s.data.getD 1 0).toNat > (57 : Int))))).b then (T.bool true) else (T.bool (decide ((a0.s.data.getD 2 0).toNat < (48 : Int))))).b == false)) || true) then
                                    bif ((!((bif (bif (bif (bif ((a0.s.size : Int) != (3 : Int)) then (T.bool true) else (T.bool ((a0.s.data.getD 0 0).toNat != (83 : Int)))).b then (T.bool true) else (T.bool (decide ((a0.s.data.getD 1 0).toNat < (48 : Int))))).b then (T.bool true) else (T.bool (decide ((a0.s.data.getD 1 0).toNat > (57 : Int))))).b then (T.bool true) else (T.bool (decide ((a0.s.data.getD 2 0).toNat < (48 : Int))))).b == false)) || ((((bif (bif (bif (bif ((a0.s.size : Int) != (3 : Int)) then (T.bool true) else (T.bool ((a0.s.data.getD 0 0).toNat != (83 : Int)))).b then (T.bool true) else (T.bool (decide ((a0.s.data.getD 1 0).toNat < (48 : Int))))).b then (T.bool true) else (T.bool (decide ((a0.s.data.getD 1 0).toNat > (57 : Int))))).b then (T.bool true) else (T.bool (decide ((a0.s.data.getD 2 0).toNat < (48 : Int))))).b == false) && true) && (decide (0 ≤ (2 : Int)) && decide (2 < a0.s.size)))) then
                                      bif ((!((bif (bif (bif (bif ((a0.s.size : Int) != (3 : Int)) then (T.bool true) else (T.bool ((a0.s.data.getD 0 0).toNat != (83 : Int)))).b then (T.bool true) else (T.bool (decide ((a0.s.data.getD 1 0).toNat < (48 : Int))))).b then (T.bool true) else (T.bool (decide ((a0.s.data.getD 1 0).toNat > (57 : Int))))).b then (T.bool true) else (T.bool (decide ((a0.s.data.getD 2 0).toNat < (48 : Int))))).b == false)) || ((((bif (bif (bif (bif ((a0.s.size : Int) != (3 : Int)) then (T.bool true) else (T.bool ((a0.s.data.getD 0 0).toNat != (83 : Int)))).b then (T.bool true) else (T.bool (decide ((a0.s.data.getD 1 0).toNat < (48 : Int))))).b then (T.bool true) else (T.bool (decide ((a0.s.data.getD 1 0).toNat > (57 : Int))))).b then (T.bool true) else (T.bool (decide ((a0.s.data.getD 2 0).toNat < (48 : Int))))).b == false) && true) && true)) then
                                        bif (bif (bif (bif (bif (bif ((a0.s.size : Int) != (3 : Int)) then (T.bool true) else (T.bool ((a0.s.data.getD 0 0).toNat != (83 : Int)))).b then (T.bool true) else (T.bool (decide ((a0.s.data.getD 1 0).toNat < (48 : Int))))).b then (T.bool true) else (T.bool (decide ((a0.s.data.getD 1 0).toNat > (57 : Int))))).b then (T.bool true) else (T.bool (decide ((a0.s.data.getD 2 0).toNat < (48 : Int))))).b then true else ((bif (bif (bif (bif ((a0.s.size : Int) != (3 : Int)) then (T.bool true) else (T.bool ((a0.s.data.getD 0 0).toNat != (83 : Int)))).b then (T.bool true) else (T.bool (decide ((a0.s.data.getD 1 0).toNat < (48 : Int))))).b then (T.bool true) else (T.bool (decide ((a0.s.data.getD 1 0).toNat > (57 : Int))))).b then (T.bool true) else (T.bool (decide ((a0.s.data.getD 2 0).toNat < (48 : Int))))).b == false)) then
                                          bif (bif (bif (bif (bif (bif ((a0.s.size : Int) != (3 : Int)) then (T.bool true) else (T.bool ((a0.s.data.getD 0 0).toNat != (83 : Int)))).b then (T.bool true) else (T.bool (decide ((a0.s.data.getD 1 0).toNat < (48 : Int))))).b then (T.bool true) else (T.bool (decide ((a0.s.data.getD 1 0).toNat > (57 : Int))))).b then (T.bool true) else (T.bool (decide ((a0.s.data.getD 2 0).toNat < (48 : Int))))).b then (T.bool true) else (T.bool (decide ((a0.s.data.getD 2 0).toNat > (57 : Int))))).b then
                                            some [(T.int (0 : Int)), (T.int (0 : Int)), (T.bool false)]
                                          else
                                            bif (decide (0 ≤ (1 : Int)) && decide (1 < a0.s.size)) then
                                              bif (decide (0 ≤ (2 : Int)) && decide (2 < a0.s.size)) then
                                                some [(T.int (IntKind.wrap .i64 (IntKind.wrap .u8 ((a0.s.data.getD 1 0).toNat - (48 : Int))))), (T.int (IntKind.wrap .i64 (IntKind.wrap .u8 ((a0.s.data.getD 2 0).toNat - (48 : Int))))), (T.bool true)]
                                              else
                                                none
                                            else
                                              none
                                        else
                                          none
                                      else
                                        none
                                    else
                                      none
                                  else
                                    none
                                else
                                  none
                              else
                                none
                            else
                              none
                          else
                            none
                        else
                          none
                      else
                        none
                    else
                      none
                  else
                    none
                else
                  none
              else
                none
            else
              none
          else
            none
        else
          none
      else
        none
    else
      none
  else
    none := by kernel_rfl
theorem q_impl_kindAt (H : List Item → CS → R) (C : CallsE) (a0 : T) : enterE fi_impl_kindAt env H C [a0] =
  bif ((a0.s.size : Int) != (3 : Int)) then
    some [(T.int (0 : Int)), (T.int (0 : Int)), (T.bool false)]
  else
    bif (decide (0 ≤ (0 : Int)) && decide (0 < a0.s.size)) then
      bif ((a0.s.data.getD 0 0).toNat != (83 : Int)) then
        some [(T.int (0 : Int)), (T.int (0 : Int)), (T.bool false)]
      else
        bif (decide (0 ≤ (1 : Int)) && decide (1 < a0.s.size)) then
          bif (decide ((a0.s.data.getD 1 0).toNat < (48 : Int))) then
            some [(T.int (0 : Int)), (T.int (0 : Int)), (T.bool false)]
          else
            bif (decide ((a0.s.data.getD 1 0).toNat > (57 : Int))) then
              some [(T.int (0 : Int)), (T.int (0 : Int)), (T.bool false)]
            else
              bif (decide (0 ≤ (2 : Int)) && decide (2 < a0.s.size)) then
                bif (decide ((a0.s.data.getD 2 0).toNat < (48 : Int))) then
                  some [(T.int (0 : Int)), (T.int (0 : Int)), (T.bool false)]
                else
                  bif (decide ((a0.s.data.getD 2 0).toNat > (57 : Int))) then
                    some [(T.int (0 : Int)), (T.int (0 : Int)), (T.bool false)]
                  else
                    some [(T.int (IntKind.wrap .i64 (IntKind.wrap .u8 ((a0.s.data.getD 1 0).toNat - (48 : Int))))), (T.int (IntKind.wrap .i64 (IntKind.wrap .u8 ((a0.s.data.getD 2 0).toNat - (48 : Int))))), (T.bool true)]
              else
                none
        else
          none
    else
      none := by
  rw [e_impl_kindAt H C a0]
  all_goals cases hc : (((a0.s.size : Int) != (3 : Int))) with
  | true =>
    try simp only [obind_some, cond_true, cond_false, tb_bool, beq_tt, beq_ft, beq_tf, beq_ff, Bool.not_true, Bool.not_false, Bool.true_and, Bool.false_and, Bool.true_or, Bool.false_or]
    all_goals kernel_rfl
  | false =>
    try simp only [obind_some, cond_true, cond_false, tb_bool, beq_tt, beq_ft, beq_tf, beq_ff, Bool.not_true, Bool.not_false, Bool.true_and, Bool.false_and, Bool.true_or, Bool.false_or]
    all_goals cases hc : ((decide (0 ≤ (0 : Int)) && decide (0 < a0.s.size))) with
    | true =>
      try simp only [obind_some, cond_true, cond_false, tb_bool, beq_tt, beq_ft, beq_tf, beq_ff, Bool.not_true, Bool.not_false, Bool.true_and, Bool.false_and, Bool.true_or, Bool.false_or]
      all_goals cases hc : (((a0.s.data.getD 0 0).toNat != (83 : Int))) with
      | true =>
        try simp only [obind_some, cond_true, cond_false, tb_bool, beq_tt, beq_ft, beq_tf, beq_ff, Bool.not_true, Bool.not_false, Bool.true_and, Bool.false_and, Bool.true_or, Bool.false_or]
        all_goals kernel_rfl
      | false =>
        try simp only [obind_some, cond_true, cond_false, tb_bool, beq_tt, beq_ft, beq_tf, beq_ff, Bool.not_true, Bool.not_false, Bool.true_and, Bool.false_and, Bool.true_or, Bool.false_or]
        all_goals cases hc : ((decide (0 ≤ (1 : Int)) && decide (1 < a0.s.size))) with
        | true =>
          try simp only [obind_some, cond_true, cond_false, tb_bool, beq_tt, beq_ft, beq_tf, beq_ff, Bool.not_true, Bool.not_false, Bool.true_and, Bool.false_and, Bool.true_or, Bool.false_or]
          all_goals cases hc : ((decide ((a0.s.data.getD 1 0).toNat < (48 : Int)))) with
          | true =>
            try simp only [obind_some, cond_true, cond_false, tb_bool, beq_tt, beq_ft, beq_tf, beq_ff, Bool.not_true, Bool.not_false, Bool.true_and, Bool.false_and, Bool.true_or, Bool.false_or]
            all_goals kernel_rfl
          | false =>
            try simp only [obind_some, cond_true, cond_false, tb_bool, beq_tt, beq_ft, beq_tf, beq_ff, Bool.not_true, Bool.not_false, Bool.true_and, Bool.false_and, Bool.true_or, Bool.false_or]
            all_goals cases hc : ((decide ((a0.s.data.getD 1 0).toNat > (57 : Int)))) with
            | true =>
              try simp only [obind_some, cond_true, cond_false, tb_bool, beq_tt, beq_ft, beq_tf, beq_ff, Bool.not_true, Bool.not_false, Bool.true_and, Bool.false_and, Bool.true_or, Bool.false_or]
              all_goals kernel_rfl
            | false =>
              try simp only [obind_some, cond_true, cond_false, tb_bool, beq_tt, beq_ft, beq_tf, beq_ff, Bool.not_true, Bool.not_false, Bool.true_and, Bool.false_and, Bool.true_or, Bool.false_or]
              all_goals cases hc : ((decide (0 ≤ (2 : Int)) && decide (2 < a0.s.size))) with
              | true =>
                try simp only [obind_some, cond_true, cond_false, tb_bool, beq_tt, beq_ft, beq_tf, beq_ff, Bool.not_true, Bool.not_false, Bool.true_and, Bool.false_and, Bool.true_or, Bool.false_or]
                all_goals cases hc : ((decide ((a0.s.data.getD 2 0).toNat < (48 : Int)))) with
                | true =>
                  try simp only [obind_some, cond_true, cond_false, tb_bool, beq_tt, beq_ft, beq_tf, beq_ff, Bool.not_true, Bool.not_false, Bool.true_and, Bool.false_and, Bool.true_or, Bool.false_or]
                  all_goals kernel_rfl
                | false =>
                  try simp only [obind_some, cond_true, cond_false, tb_bool, beq_tt, beq_ft, beq_tf, beq_ff, Bool.not_true, Bool.not_false, Bool.true_and, Bool.false_and, Bool.true_or, Bool.false_or]
                  all_goals cases hc : ((decide ((a0.s.data.getD 2 0).toNat > (57 : Int)))) with
                  | true =>
                    try simp only [obind_some, cond_true, cond_false, tb_bool, beq_tt, beq_ft, beq_tf, beq_ff, Bool.not_true, Bool.not_false, Bool.true_and, Bool.false_and, Bool.true_or, Bool.false_or]
                    all_goals kernel_rfl
                  | false =>
                    try simp only [obind_some, cond_true, cond_false, tb_bool, beq_tt, beq_ft, beq_tf, beq_ff, Bool.not_true, Bool.not_false, Bool.true_and, Bool.false_and, Bool.true_or, Bool.false_or]
                    all_goals kernel_rfl
              | false =>
                try simp only [obind_some, cond_true, cond_false, tb_bool, beq_tt, beq_ft, beq_tf, beq_ff, Bool.not_true, Bool.not_false, Bool.true_and, Bool.false_and, Bool.true_or, Bool.false_or]
                all_goals kernel_rfl
        | false =>
          try simp only [obind_some, cond_true, cond_false, tb_bool, beq_tt, beq_ft, beq_tf, beq_ff, Bool.not_true, Bool.not_false, Bool.true_and, Bool.false_and, Bool.true_or, Bool.false_or]
          all_goals kernel_rfl
    | false =>
      try simp only [obind_some, cond_true, cond_false, tb_bool, beq_tt, beq_ft, beq_tf, beq_ff, Bool.not_true, Bool.not_false, Bool.true_and, Bool.false_and, Bool.true_or, Bool.false_or]
      all_goals kernel_rfl
theorem y_impl_kindAt (a0 : T) {r : List T} (h : Yields (fun k =>
  bif ((a0.s.size : Int) != (3 : Int)) then
    some [(T.int (0 : Int)), (T.int (0 : Int)), (T.bool false)]
  else
    bif (decide (0 ≤ (0 : Int)) && decide (0 < a0.s.size)) then
      bif ((a0.s.data.getD 0 0).toNat != (83 : Int)) then
        some [(T.int (0 : Int)), (T.int (0 : Int)), (T.bool false)]
      else
        bif (decide (0 ≤ (1 : Int)) && decide (1 < a0.s.size)) then
          bif (decide ((a0.s.data.getD 1 0).toNat < (48 : Int))) then
            some [(T.int (0 : Int)), (T.int (0 : Int)), (T.bool false)]
          else
            bif (decide ((a0.s.data.getD 1 0).toNat > (57 : Int))) then
              some [(T.int (0 : Int)), (T.int (0 : Int)), (T.bool false)]
            else
              bif (decide (0 ≤ (2 : Int)) && decide (2 < a0.s.size)) then
                bif (decide ((a0.s.data.getD 2 0).toNat < (48 : Int))) then
                  some [(T.int (0 : Int)), (T.int (0 : Int)), (T.bool false)]
                else
                  bif (decide ((a0.s.data.getD 2 0).toNat > (57 : Int))) then
                    some [(T.int (0 : Int)), (T.int (0 : Int)), (T.bool false)]
                  else
                    some [(T.int (IntKind.wrap .i64 (IntKind.wrap .u8 ((a0.s.data.getD 1 0).toNat - (48 : Int))))), (T.int (IntKind.wrap .i64 (IntKind.wrap .u8 ((a0.s.data.getD 2 0).toNat - (48 : Int))))), (T.bool true)]
              else
                none
        else
          none
    else
      none) r) : Yields (fun k => cl env k F_impl_kindAt [a0]) r := Yields.call (fi := fi_impl_kindAt) rfl (fun H C => q_impl_kindAt H C a0) h
/- loop.example/heirlooms/laws.eqRecord -/
theorem q_laws_eqRecord (H : List Item → CS → R) (C : CallsE) (a0 a1 : T) : enterE fi_laws_eqRecord env H C [a0, a1] =
  bif ((a0.fld 0).i != (a1.fld 0).i) then
    some [(T.bool false)]
  else
    obind (C F_laws_eqStringS [(a0.fld 1), (a1.fld 1)]) fun r1 =>
    bif (!(rt r1 0).b) then
      some [(T.bool false)]
    else
      some [(T.bool true)] := by kernel_rfl
theorem y_laws_eqRecord (a0 a1 : T) {r : List T} (h : Yields (fun k =>
  bif ((a0.fld 0).i != (a1.fld 0).i) then
    some [(T.bool false)]
  else
    obind (cl env k F_laws_eqStringS [(a0.fld 1), (a1.fld 1)]) fun r1 =>
    bif (!(rt r1 0).b) then
      some [(T.bool false)]
    else
      some [(T.bool true)]) r) : Yields (fun k => cl env k F_laws_eqRecord [a0, a1]) r := Yields.call (fi := fi_laws_eqRecord) rfl (fun H C => q_laws_eqRecord H C a0 a1) h
noncomputable def l_spec_l2Ok_0 (H : List Item → CS → R) (x1 : T) (x2 : T) (x3 : T) (x4 : T) (x5 : T) : R := H (hdAt fi_spec_l2Ok.body 0) ([(0, .val 27 x1), (3, .pref 37 3 []), (5, .val 3 x2), (6, .val 3 x3), (8, .val 3 x4)], [(3, ⟨37, x5, .fz, true⟩)])
/- loop.example/heirlooms/spec.l2Ok -/
theorem e_spec_l2Ok (H : List Item → CS → R) (C : CallsE) (a0 a1 : T) : enterE fi_spec_l2Ok env H C [a0, a1] =
  bif (((a1.fld 0).s).toList == (⟨#[110]⟩ : ByteArray).toList) then
    obind (C F_spec_l2Plain [a1]) fun r1 =>
    bif ((!((rt r1 0).b == true)) || true) then
      bif ((!((rt r1 0).b == true)) || ((rt r1 0).b == true)) then
        bif ((!((rt r1 0).b == true)) || (((rt r1 0).b == true) && true)) then
          obind ((bif ((rt r1 0).b == true) then C F_spec_l6In [(a1.fld 1), (T.int (0 : Int)), (T.int (1000000 : Int))] else some [])) fun r2 =>
          bif (bif (rt r1 0).b then ((rt r1 0).b == true) else true) then
            some [(bif (rt r1 0).b then (rt r2 0) else (T.bool false))]
          else
            none
        else
          none
      else
        none
    else
      none
  else
    bif (((a1.fld 0).s).toList == (⟨#[98]⟩ : ByteArray).toList) then
      obind (C F_spec_l2Plain [a1]) fun r3 =>
      bif ((!((rt r3 0).b == true)) || true) then
        bif ((!((rt r3 0).b == true)) || ((rt r3 0).b == true)) then
          bif ((!((rt r3 0).b == true)) || (((rt r3 0).b == true) && true)) then
            obind ((bif ((rt r3 0).b == true) then C F_spec_l6In [(a1.fld 1), (T.int (0 : Int)), (T.int (1 : Int))] else some [])) fun r4 =>
            bif (bif (rt r3 0).b then ((rt r3 0).b == true) else true) then
              some [(bif (rt r3 0).b then (rt r4 0) else (T.bool false))]
            else
              none
          else
            none
        else
          none
      else
        none
    else
      bif (((a1.fld 0).s).toList == (⟨#[111]⟩ : ByteArray).toList) then
        obind (C F_spec_l2Plain [a1]) fun r5 =>
        bif ((!((rt r5 0).b == true)) || true) then
          bif ((!((rt r5 0).b == true)) || ((rt r5 0).b == true)) then
            bif ((!((rt r5 0).b == true)) || (((rt r5 0).b == true) && true)) then
              obind ((bif ((rt r5 0).b == true) then C F_spec_l6In [(a1.fld 1), (T.int (0 : Int)), (T.int (3 : Int))] else some [])) fun r6 =>
              bif (bif (rt r5 0).b then ((rt r5 0).b == true) else true) then
                some [(bif (rt r5 0).b then (rt r6 0) else (T.bool false))]
              else
                none
            else
              none
          else
            none
        else
          none
      else
        obind (C F_spec_l1Kind [(a1.fld 0)]) fun r7 =>
        bif ((!((!(rt r7 2).b) == false)) || true) then
          bif ((!((!(rt r7 2).b) == false)) || true) then
            bif ((!((!(rt r7 2).b) == false)) || true) then
              bif ((!((!(rt r7 2).b) == false)) || (((!(rt r7 2).b) == false) && (((!(rt r7 2).b) == false) && (((!(rt r7 2).b) == false) && true)))) then
                obind ((bif ((!(rt r7 2).b) == false) then C F_spec_l1Has [a0, (rt r7 0), (rt r7 1)] else some [])) fun r8 =>
                bif ((!((!(rt r7 2).b) == false)) || ((!(rt r7 2).b) == false)) then
                  bif (bif (!(rt r7 2).b) then true else ((!(rt r7 2).b) == false)) then
                    bif ((!((bif (!(rt r7 2).b) then (T.bool true) else (T.bool (!(rt r8 0).b))).b == false)) || true) then
                      bif ((!((bif (!(rt r7 2).b) then (T.bool true) else (T.bool (!(rt r8 0).b))).b == false)) || ((bif (!(rt r7 2).b) then (T.bool true) else (T.bool (!(rt r8 0).b))).b == false)) then
                        bif ((!((bif (!(rt r7 2).b) then (T.bool true) else (T.bool (!(rt r8 0).b))).b == false)) || ((((bif (!(rt r7 2).b) then (T.bool true) else (T.bool (!(rt r8 0).b))).b == false) && true) && true)) then
                          bif (bif (bif (!(rt r7 2).b) then (T.bool true) else (T.bool (!(rt r8 0).b))).b then true else ((bif (!(rt r7 2).b) then (T.bool true) else (T.bool (!(rt r8 0).b))).b == false)) then
                            bif ((!((bif (bif (!(rt r7 2).b) then (T.bool true) else (T.bool (!(rt r8 0).b))).b then (T.bool true) else (T.bool ((a1.fld 1).i != (0 : Int)))).b == false)) || true) then
                              bif ((!((bif (bif (!(rt r7 2).b) then (T.bool true) else (T.bool (!(rt r8 0).b))).b then (T.bool true) else (T.bool ((a1.fld 1).i != (0 : Int)))).b == false)) || ((bif (bif (!(rt r7 2).b) then (T.bool true) else (T.bool (!(rt r8 0).b))).b then (T.bool true) else (T.bool ((a1.fld 1).i != (0 : Int)))).b == false)) then
                                bif ((!((bif (bif (!(rt r7 2).b) then (T.bool true) else (T.bool (!(rt r8 0).b))).b then (T.bool true) else (T.bool ((a1.fld 1).i != (0 : Int)))).b == false)) || ((bif (bif (!(rt r7 2).b) then (T.bool true) else (T.bool (!(rt r8 0).b))).b then (T.bool true) else (T.bool ((a1.fld 1).i != (0 : Int)))).b == false)) then
                                  bif ((!((bif (bif (!(rt r7 2).b) then (T.bool true) else (T.bool (!(rt r8 0).b))).b then (T.bool true) else (T.bool ((a1.fld 1).i != (0 : Int)))).b == false)) || ((((bif (bif (!(rt r7 2).b) then (T.bool true) else (T.bool (!(rt r8 0).b))).b then (T.bool true) else (T.bool ((a1.fld 1).i != (0 : Int)))).b == false) && true) && true)) then
                                    bif (bif (bif (bif (!(rt r7 2).b) then (T.bool true) else (T.bool (!(rt r8 0).b))).b then (T.bool true) else (T.bool ((a1.fld 1).i != (0 : Int)))).b then true else ((bif (bif (!(rt r7 2).b) then (T.bool true) else (T.bool (!(rt r8 0).b))).b then (T.bool true) else (T.bool ((a1.fld 1).i != (0 : Int)))).b == false)) then
                                      bif ((!((bif (bif (bif (!(rt r7 2).b) then (T.bool true) else (T.bool (!(rt r8 0).b))).b then (T.bool true) else (T.bool ((a1.fld 1).i != (0 : Int)))).b then (T.bool true) else (T.bool (decide ((((a1.fld 3).es).length : Int) > (0 : Int))))).b == false)) || true) then
                                        bif ((!((bif (bif (bif (!(rt r7 2).b) then (T.bool true) else (T.bool (!(rt r8 0).b))).b then (T.bool true) else (T.bool ((a1.fld 1).i != (0 : Int)))).b then (T.bool true) else (T.bool (decide ((((a1.fld 3).es).length : Int) > (0 : Int))))).b == false)) || ((bif (bif (bif (!(rt r7 2).b) then (T.bool true) else (T.bool (!(rt r8 0).b))).b then (T.bool true) else (T.bool ((a1.fld 1).i != (0 : Int)))).b then (T.bool true) else (T.bool (decide ((((a1.fld 3).es).length : Int) > (0 : Int))))).b == false)) then
                                          bif ((!((bif (bif (bif (!(rt r7 2).b) then (T.bool true) else (T.bool (!(rt r8 0).b))).b then (T.bool true) else (T.bool ((a1.fld 1).i != (0 : Int)))).b then (T.bool true) else (T.bool (decide ((((a1.fld 3).es).length : Int) > (0 : Int))))).b == false)) || ((bif (bif (bif (!(rt r7 2).b) then (T.bool true) else (T.bool (!(rt r8 0).b))).b then (T.bool true) else (T.bool ((a1.fld 1).i != (0 : Int)))).b then (T.bool true) else (T.bool (decide ((((a1.fld 3).es).length : Int) > (0 : Int))))).b == false)) then
                                            bif ((!((bif (bif (bif (!(rt r7 2).b) then (T.bool true) else (T.bool (!(rt r8 0).b))).b then (T.bool true) else (T.bool ((a1.fld 1).i != (0 : Int)))).b then (T.bool true) else (T.bool (decide ((((a1.fld 3).es).length : Int) > (0 : Int))))).b == false)) || true) then
                                              bif ((!((bif (bif (bif (!(rt r7 2).b) then (T.bool true) else (T.bool (!(rt r8 0).b))).b then (T.bool true) else (T.bool ((a1.fld 1).i != (0 : Int)))).b then (T.bool true) else (T.bool (decide ((((a1.fld 3).es).length : Int) > (0 : Int))))).b == false)) || true) then
                                                bif ((!((bif (bif (bif (!(rt r7 2).b) then (T.bool true) else (T.bool (!(rt r8 0).b))).b then (T.bool true) else (T.bool ((a1.fld 1).i != (0 : Int)))).b then (T.bool true) else (T.bool (decide ((((a1.fld 3).es).length : Int) > (0 : Int))))).b == false)) || ((((bif (bif (bif (!(rt r7 2).b) then (T.bool true) else (T.bool (!(rt r8 0).b))).b then (T.bool true) else (T.bool ((a1.fld 1).i != (0 : Int)))).b then (T.bool true) else (T.bool (decide ((((a1.fld 3).es).length : Int) > (0 : Int))))).b == false) && (((bif (bif (bif (!(rt r7 2).b) then (T.bool true) else (T.bool (!(rt r8 0).b))).b then (T.bool true) else (T.bool ((a1.fld 1).i != (0 : Int)))).b then (T.bool true) else (T.bool (decide ((((a1.fld 3).es).length : Int) > (0 : Int))))).b == false) && true)) && (decide (0 ≤ (rt r7 0).i) && decide (((rt r7 0).i).toNat < a0.es.length)))) then
                                                  bif ((!((bif (bif (bif (!(rt r7 2).b) then (T.bool true) else (T.bool (!(rt r8 0).b))).b then (T.bool true) else (T.bool ((a1.fld 1).i != (0 : Int)))).b then (T.bool true) else (T.bool (decide ((((a1.fld 3).es).length : Int) > (0 : Int))))).b == false)) || ((bif (bif (bif (!(rt r7 2).b) then (T.bool true) else (T.bool (!(rt r8 0).b))).b then (T.bool true) else (T.bool ((a1.fld 1).i != (0 : Int)))).b then (T.bool true) else (T.bool (decide ((((a1.fld 3).es).length : Int) > (0 : Int))))).b == false)) then
                                                    bif ((!((bif (bif (bif (!(rt r7 2).b) then (T.bool true) else (T.bool (!(rt r8 0).b))).b then (T.bool true) else (T.bool ((a1.fld 1).i != (0 : Int)))).b then (T.bool true) else (T.bool (decide ((((a1.fld 3).es).length : Int) > (0 : Int))))).b == false)) || true) then
                                                      bif ((!((bif (bif (bif (!(rt r7 2).b) then (T.bool true) else (T.bool (!(rt r8 0).b))).b then (T.bool true) else (T.bool ((a1.fld 1).i != (0 : Int)))).b then (T.bool true) else (T.bool (decide ((((a1.fld 3).es).length : Int) > (0 : Int))))).b == false)) || ((((bif (bif (bif (!(rt r7 2).b) then (T.bool true) else (T.bool (!(rt r8 0).b))).b then (T.bool true) else (T.bool ((a1.fld 1).i != (0 : Int)))).b then (T.bool true) else (T.bool (decide ((((a1.fld 3).es).length : Int) > (0 : Int))))).b == false) && (((bif (bif (bif (!(rt r7 2).b) then (T.bool true) else (T.bool (!(rt r8 0).b))).b then (T.bool true) else (T.bool ((a1.fld 1).i != (0 : Int)))).b then (T.bool true) else (T.bool (decide ((((a1.fld 3).es).length : Int) > (0 : Int))))).b == false) && true)) && (decide (0 ≤ (rt r7 1).i) && decide (((rt r7 1).i).toNat < ((a0.nth (((rt r7 0).i).toNat)).es).length)))) then
                                                        bif ((!((bif (bif (bif (!(rt r7 2).b) then (T.bool true) else (T.bool (!(rt r8 0).b))).b then (T.bool true) else (T.bool ((a1.fld 1).i != (0 : Int)))).b then (T.bool true) else (T.bool (decide ((((a1.fld 3).es).length : Int) > (0 : Int))))).b == false)) || ((bif (bif (bif (!(rt r7 2).b) then (T.bool true) else (T.bool (!(rt r8 0).b))).b then (T.bool true) else (T.bool ((a1.fld 1).i != (0 : Int)))).b then (T.bool true) else (T.bool (decide ((((a1.fld 3).es).length : Int) > (0 : Int))))).b == false)) then
                                                          bif ((!((bif (bif (bif (!(rt r7 2).b) then (T.bool true) else (T.bool (!(rt r8 0).b))).b then (T.bool true) else (T.bool ((a1.fld 1).i != (0 : Int)))).b then (T.bool true) else (T.bool (decide ((((a1.fld 3).es).length : Int) > (0 : Int))))).b == false)) || ((bif (bif (bif (!(rt r7 2).b) then (T.bool true) else (T.bool (!(rt r8 0).b))).b then (T.bool true) else (T.bool ((a1.fld 1).i != (0 : Int)))).b then (T.bool true) else (T.bool (decide ((((a1.fld 3).es).length : Int) > (0 : Int))))).b == false)) then
                                                            bif ((!((bif (bif (bif (!(rt r7 2).b) then (T.bool true) else (T.bool (!(rt r8 0).b))).b then (T.bool true) else (T.bool ((a1.fld 1).i != (0 : Int)))).b then (T.bool true) else (T.bool (decide ((((a1.fld 3).es).length : Int) > (0 : Int))))).b == false)) || ((bif (bif (bif (!(rt r7 2).b) then (T.bool true) else (T.bool (!(rt r8 0).b))).b then (T.bool true) else (T.bool ((a1.fld 1).i != (0 : Int)))).b then (T.bool true) else (T.bool (decide ((((a1.fld 3).es).length : Int) > (0 : Int))))).b == false)) then
                                                              bif ((!((bif (bif (bif (!(rt r7 2).b) then (T.bool true) else (T.bool (!(rt r8 0).b))).b then (T.bool true) else (T.bool ((a1.fld 1).i != (0 : Int)))).b then (T.bool true) else (T.bool (decide ((((a1.fld 3).es).length : Int) > (0 : Int))))).b == false)) || ((((bif (bif (bif (!(rt r7 2).b) then (T.bool true) else (T.bool (!(rt r8 0).b))).b then (T.bool true) else (T.bool ((a1.fld 1).i != (0 : Int)))).b then (T.bool true) else (T.bool (decide ((((a1.fld 3).es).length : Int) > (0 : Int))))).b == false) && ((bif (bif (bif (!(rt r7 2).b) then (T.bool true) else (T.bool (!(rt r8 0).b))).b then (T.bool true) else (T.bool ((a1.fld 1).i != (0 : Int)))).b then (T.bool true) else (T.bool (decide ((((a1.fld 3).es).length : Int) > (0 : Int))))).b == false)) && true)) then
                                                                bif (bif (bif (bif (bif (!(rt r7 2).b) then (T.bool true) else (T.bool (!(rt r8 0).b))).b then (T.bool true) else (T.bool ((a1.fld 1).i != (0 : Int)))).b then (T.bool true) else (T.bool (decide ((((a1.fld 3).es).length : Int) > (0 : Int))))).b then true else ((bif (bif (bif (!(rt r7 2).b) then (T.bool true) else (T.bool (!(rt r8 0).b))).b then (T.bool true) else (T.bool ((a1.fld 1).i != (0 : Int)))).b then (T.bool true) else (T.bool (decide ((((a1.fld 3).es).length : Int) > (0 : Int))))).b == false)) then
                                                                  bif (bif (bif (bif (bif (!(rt r7 2).b) then (T.bool true) else (T.bool (!(rt r8 0).b))).b then (T.bool true) else (T.bool ((a1.fld 1).i != (0 : Int)))).b then (T.bool true) else (T.bool (decide ((((a1.fld 3).es).length : Int) > (0 : Int))))).b then (T.bool true) else (T.bool ((((a1.fld 2).es).length : Int) != (((((a0.nth (((rt r7 0).i).toNat)).nth (((rt r7 1).i).toNat)).fld 1).es).length : Int)))).b then
                                                                    some [(T.bool false)]
                                                                  else
                                                                    l_spec_l2Ok_0 H a0 (rt r7 0) (rt r7 1) (T.int (0 : Int)) a1
                                                                else
                                                                  none
                                                              else
                                                                none
                                                            else
                                                              none
                                                          else
                                                            none
                                                        else
                                                          none
                                                      else
                                                        none
                                                    else
                                                      none
                                                  else
                                                    none
                                                else
                                                  none
                                              else
                                                none
                                            else
                                              none
                                          else
                                            none
                                        else
                                          none
                                      else
                                        none
                                    else
                                      none
                                  else
                                    none
                                else
                                  none
                              else
                                none
                            else
                              none
                          else
                            none
                        else
                          none
                      else
                        none
                    else
                      none
                  else
                    none
                else
                  none
              else
                none
            else
              none
          else
            none
        else
          none := by kernel_rfl
theorem q_spec_l2Ok (H : List Item → CS → R) (C : CallsE) (a0 a1 : T) : enterE fi_spec_l2Ok env H C [a0, a1] =
  bif (((a1.fld 0).s).toList == (⟨#[110]⟩ : ByteArray).toList) then
    obind (C F_spec_l2Plain [a1]) fun r1 =>
    bif (rt r1 0).b then
      obind (C F_spec_l6In [(a1.fld 1), (T.int (0 : Int)), (T.int (1000000 : Int))]) fun r2 =>
      some [(rt r2 0)]
    else
      some [(T.bool false)]
  else
    bif (((a1.fld 0).s).toList == (⟨#[98]⟩ : ByteArray).toList) then
      obind (C F_spec_l2Plain [a1]) fun r1 =>
      bif (rt r1 0).b then
        obind (C F_spec_l6In [(a1.fld 1), (T.int (0 : Int)), (T.int (1 : Int))]) fun r2 =>
        some [(rt r2 0)]
      else
        some [(T.bool false)]
    else
      bif (((a1.fld 0).s).toList == (⟨#[111]⟩ : ByteArray).toList) then
        obind (C F_spec_l2Plain [a1]) fun r1 =>
        bif (rt r1 0).b then
          obind (C F_spec_l6In [(a1.fld 1), (T.int (0 : Int)), (T.int (3 : Int))]) fun r2 =>
          some [(rt r2 0)]
        else
          some [(T.bool false)]
      else
        obind (C F_spec_l1Kind [(a1.fld 0)]) fun r1 =>
        bif (!(rt r1 2).b) then
          some [(T.bool false)]
        else
          obind (C F_spec_l1Has [a0, (rt r1 0), (rt r1 1)]) fun r2 =>
          bif (!(rt r2 0).b) then
            some [(T.bool false)]
          else
            bif ((a1.fld 1).i != (0 : Int)) then
              some [(T.bool false)]
            else
              bif (decide ((((a1.fld 3).es).length : Int) > (0 : Int))) then
                some [(T.bool false)]
              else
                bif (decide (0 ≤ (rt r1 0).i) && decide (((rt r1 0).i).toNat < a0.es.length)) then
                  bif (decide (0 ≤ (rt r1 1).i) && decide (((rt r1 1).i).toNat < ((a0.nth (((rt r1 0).i).toNat)).es).length)) then
                    bif ((((a1.fld 2).es).length : Int) != (((((a0.nth (((rt r1 0).i).toNat)).nth (((rt r1 1).i).toNat)).fld 1).es).length : Int)) then
                      some [(T.bool false)]
                    else
                      l_spec_l2Ok_0 H a0 (rt r1 0) (rt r1 1) (T.int (0 : Int)) a1
                  else
                    none
                else
                  none := by
  rw [e_spec_l2Ok H C a0 a1]
  all_goals cases hc : ((((a1.fld 0).s).toList == (⟨#[110]⟩ : ByteArray).toList)) with
  | true =>
    try simp only [obind_some, cond_true, cond_false, tb_bool, beq_tt, beq_ft, beq_tf, beq_ff, Bool.not_true, Bool.not_false, Bool.true_and, Bool.false_and, Bool.true_or, Bool.false_or]
    all_goals refine obind_congr fun r1 => ?_
    all_goals try simp only [obind_some, cond_true, cond_false, tb_bool, beq_tt, beq_ft, beq_tf, beq_ff, Bool.not_true, Bool.not_false, Bool.true_and, Bool.false_and, Bool.true_or, Bool.false_or]
    all_goals cases hc : ((rt r1 0).b) with
    | true =>
      try simp only [obind_some, cond_true, cond_false, tb_bool, beq_tt, beq_ft, beq_tf, beq_ff, Bool.not_true, Bool.not_false, Bool.true_and, Bool.false_and, Bool.true_or, Bool.false_or]
      all_goals refine obind_congr fun r2 => ?_
      all_goals try simp only [obind_some, cond_true, cond_false, tb_bool, beq_tt, beq_ft, beq_tf, beq_ff, Bool.not_true, Bool.not_false, Bool.true_and, Bool.false_and, Bool.true_or, Bool.false_or]
      all_goals kernel_rfl
    | false =>
      try simp only [obind_some, cond_true, cond_false, tb_bool, beq_tt, beq_ft, beq_tf, beq_ff, Bool.not_true, Bool.not_false, Bool.true_and, Bool.false_and, Bool.true_or, Bool.false_or]
      all_goals kernel_rfl
  | false =>
    try simp only [obind_some, cond_true, cond_false, tb_bool, beq_tt, beq_ft, beq_tf, beq_ff, Bool.not_true, Bool.not_false, Bool.true_and, Bool.false_and, Bool.true_or, Bool.false_or]
    all_goals cases hc : ((((a1.fld 0).s).toList == (⟨#[98]⟩ : ByteArray).toList)) with
    | true =>
      try simp only [obind_some, cond_true, cond_false, tb_bool, beq_tt, beq_ft, beq_tf, beq_ff, Bool.not_true, Bool.not_false, Bool.true_and, Bool.false_and, Bool.true_or, Bool.false_or]
      all_goals refine obind_congr fun r1 => ?_
      all_goals try simp only [obind_some, cond_true, cond_false, tb_bool, beq_tt, beq_ft, beq_tf, beq_ff, Bool.not_true, Bool.not_false, Bool.true_and, Bool.false_and, Bool.true_or, Bool.false_or]
      all_goals cases hc : ((rt r1 0).b) with
      | true =>
        try simp only [obind_some, cond_true, cond_false, tb_bool, beq_tt, beq_ft, beq_tf, beq_ff, Bool.not_true, Bool.not_false, Bool.true_and, Bool.false_and, Bool.true_or, Bool.false_or]
        all_goals refine obind_congr fun r2 => ?_
        all_goals try simp only [obind_some, cond_true, cond_false, tb_bool, beq_tt, beq_ft, beq_tf, beq_ff, Bool.not_true, Bool.not_false, Bool.true_and, Bool.false_and, Bool.true_or, Bool.false_or]
        all_goals kernel_rfl
      | false =>
        try simp only [obind_some, cond_true, cond_false, tb_bool, beq_tt, beq_ft, beq_tf, beq_ff, Bool.not_true, Bool.not_false, Bool.true_and, Bool.false_and, Bool.true_or, Bool.false_or]
        all_goals kernel_rfl
    | false =>
      try simp only [obind_some, cond_true, cond_false, tb_bool, beq_tt, beq_ft, beq_tf, beq_ff, Bool.not_true, Bool.not_false, Bool.true_and, Bool.false_and, Bool.true_or, Bool.false_or]
      all_goals cases hc : ((((a1.fld 0).s).toList == (⟨#[111]⟩ : ByteArray).toList)) with
      | true =>
        try simp only [obind_some, cond_true, cond_false, tb_bool, beq_tt, beq_ft, beq_tf, beq_ff, Bool.not_true, Bool.not_false, Bool.true_and, Bool.false_and, Bool.true_or, Bool.false_or]
        all_goals refine obind_congr fun r1 => ?_
        all_goals try simp only [obind_some, cond_true, cond_false, tb_bool, beq_tt, beq_ft, beq_tf, beq_ff, Bool.not_true, Bool.not_false, Bool.true_and, Bool.false_and, Bool.true_or, Bool.false_or]
        all_goals cases hc : ((rt r1 0).b) with
        | true =>
          try simp only [obind_some, cond_true, cond_false, tb_bool, beq_tt, beq_ft, beq_tf, beq_ff, Bool.not_true, Bool.not_false, Bool.true_and, Bool.false_and, Bool.true_or, Bool.false_or]
          all_goals refine obind_congr fun r2 => ?_
          all_goals try simp only [obind_some, cond_true, cond_false, tb_bool, beq_tt, beq_ft, beq_tf, beq_ff, Bool.not_true, Bool.not_false, Bool.true_and, Bool.false_and, Bool.true_or, Bool.false_or]
          all_goals kernel_rfl
        | false =>
          try simp only [obind_some, cond_true, cond_false, tb_bool, beq_tt, beq_ft, beq_tf, beq_ff, Bool.not_true, Bool.not_false, Bool.true_and, Bool.false_and, Bool.true_or, Bool.false_or]
          all_goals kernel_rfl
      | false =>
        try simp only [obind_some, cond_true, cond_false, tb_bool, beq_tt, beq_ft, beq_tf, beq_ff, Bool.not_true, Bool.not_false, Bool.true_and, Bool.false_and, Bool.true_or, Bool.false_or]
        all_goals refine obind_congr fun r1 => ?_
        all_goals try simp only [obind_some, cond_true, cond_false, tb_bool, beq_tt, beq_ft, beq_tf, beq_ff, Bool.not_true, Bool.not_false, Bool.true_and, Bool.false_and, Bool.true_or, Bool.false_or]
        all_goals cases hc : ((!(rt r1 2).b)) with
        | true =>
          try simp only [obind_some, cond_true, cond_false, tb_bool, beq_tt, beq_ft, beq_tf, beq_ff, Bool.not_true, Bool.not_false, Bool.true_and, Bool.false_and, Bool.true_or, Bool.false_or]
          all_goals kernel_rfl
        | false =>
          try simp only [obind_some, cond_true, cond_false, tb_bool, beq_tt, beq_ft, beq_tf, beq_ff, Bool.not_true, Bool.not_false, Bool.true_and, Bool.false_and, Bool.true_or, Bool.false_or]
          all_goals refine obind_congr fun r2 => ?_
          all_goals try simp only [obind_some, cond_true, cond_false, tb_bool, beq_tt, beq_ft, beq_tf, beq_ff, Bool.not_true, Bool.not_false, Bool.true_and, Bool.false_and, Bool.true_or, Bool.false_or]
          all_goals cases hc : ((!(rt r2 0).b)) with
          | true =>
            try simp only [obind_some, cond_true, cond_false, tb_bool, beq_tt, beq_ft, beq_tf, beq_ff, Bool.not_true, Bool.not_false, Bool.true_and, Bool.false_and, Bool.true_or, Bool.false_or]
            all_goals kernel_rfl
          | false =>
            try simp only [obind_some, cond_true, cond_false, tb_bool, beq_tt, beq_ft, beq_tf, beq_ff, Bool.not_true, Bool.not_false, Bool.true_and, Bool.false_and, Bool.true_or, Bool.false_or]
            all_goals cases hc : (((a1.fld 1).i != (0 : Int))) with
            | true =>
              try simp only [obind_some, cond_true, cond_false, tb_bool, beq_tt, beq_ft, beq_tf, beq_ff, Bool.not_true, Bool.not_false, Bool.true_and, Bool.false_and, Bool.true_or, Bool.false_or]
              all_goals kernel_rfl
            | false =>
              try simp only [obind_some, cond_true, cond_false, tb_bool, beq_tt, beq_ft, beq_tf, beq_ff, Bool.not_true, Bool.not_false, Bool.true_and, Bool.false_and, Bool.true_or, Bool.false_or]
              all_goals cases hc : ((decide ((((a1.fld 3).es).length : Int) > (0 : Int)))) with
              | true =>
                try simp only [obind_some, cond_true, cond_false, tb_bool, beq_tt, beq_ft, beq_tf, beq_ff, Bool.not_true, Bool.not_false, Bool.true_and, Bool.false_and, Bool.true_or, Bool.false_or]
                all_goals kernel_rfl
              | false =>
                try simp only [obind_some, cond_true, cond_false, tb_bool, beq_tt, beq_ft, beq_tf, beq_ff, Bool.not_true, Bool.not_false, Bool.true_and, Bool.false_and, Bool.true_or, Bool.false_or]
                all_goals cases hc : ((decide (0 ≤ (rt r1 0).i) && decide (((rt r1 0).i).toNat < a0.es.length))) with
                | true =>
                  try simp only [obind_some, cond_true, cond_false, tb_bool, beq_tt, beq_ft, beq_tf, beq_ff, Bool.not_true, Bool.not_false, Bool.true_and, Bool.false_and, Bool.true_or, Bool.false_or]
                  all_goals cases hc : ((decide (0 ≤ (rt r1 1).i) && decide (((rt r1 1).i).toNat < ((a0.nth (((rt r1 0).i).toNat)).es).length))) with
                  | true =>
                    try simp only [obind_some, cond_true, cond_false, tb_bool, beq_tt, beq_ft, beq_tf, beq_ff, Bool.not_true, Bool.not_false, Bool.true_and, Bool.false_and, Bool.true_or, Bool.false_or]
                    all_goals cases hc : (((((a1.fld 2).es).length : Int) != (((((a0.nth (((rt r1 0).i).toNat)).nth (((rt r1 1).i).toNat)).fld 1).es).length : Int))) with
                    | true =>
                      try simp only [obind_some, cond_true, cond_false, tb_bool, beq_tt, beq_ft, beq_tf, beq_ff, Bool.not_true, Bool.not_false, Bool.true_and, Bool.false_and, Bool.true_or, Bool.false_or]
                      all_goals kernel_rfl
                    | false =>
                      try simp only [obind_some, cond_true, cond_false, tb_bool, beq_tt, beq_ft, beq_tf, beq_ff, Bool.not_true, Bool.not_false, Bool.true_and, Bool.false_and, Bool.true_or, Bool.false_or]
                      all_goals kernel_rfl
                  | false =>
                    try simp only [obind_some, cond_true, cond_false, tb_bool, beq_tt, beq_ft, beq_tf, beq_ff, Bool.not_true, Bool.not_false, Bool.true_and, Bool.false_and, Bool.true_or, Bool.false_or]
                    all_goals kernel_rfl
                | false =>
                  try simp only [obind_some, cond_true, cond_false, tb_bool, beq_tt, beq_ft, beq_tf, beq_ff, Bool.not_true, Bool.not_false, Bool.true_and, Bool.false_and, Bool.true_or, Bool.false_or]
                  all_goals kernel_rfl
theorem y_spec_l2Ok (a0 a1 : T) {r : List T} (h : Yields (fun k =>
  bif (((a1.fld 0).s).toList == (⟨#[110]⟩ : ByteArray).toList) then
    obind (cl env k F_spec_l2Plain [a1]) fun r1 =>
    bif (rt r1 0).b then
      obind (cl env k F_spec_l6In [(a1.fld 1), (T.int (0 : Int)), (T.int (1000000 : Int))]) fun r2 =>
      some [(rt r2 0)]
    else
      some [(T.bool false)]
  else
    bif (((a1.fld 0).s).toList == (⟨#[98]⟩ : ByteArray).toList) then
      obind (cl env k F_spec_l2Plain [a1]) fun r1 =>
      bif (rt r1 0).b then
        obind (cl env k F_spec_l6In [(a1.fld 1), (T.int (0 : Int)), (T.int (1 : Int))]) fun r2 =>
        some [(rt r2 0)]
      else
        some [(T.bool false)]
    else
      bif (((a1.fld 0).s).toList == (⟨#[111]⟩ : ByteArray).toList) then
        obind (cl env k F_spec_l2Plain [a1]) fun r1 =>
        bif (rt r1 0).b then
          obind (cl env k F_spec_l6In [(a1.fld 1), (T.int (0 : Int)), (T.int (3 : Int))]) fun r2 =>
          some [(rt r2 0)]
        else
          some [(T.bool false)]
      else
        obind (cl env k F_spec_l1Kind [(a1.fld 0)]) fun r1 =>
        bif (!(rt r1 2).b) then
          some [(T.bool false)]
        else
          obind (cl env k F_spec_l1Has [a0, (rt r1 0), (rt r1 1)]) fun r2 =>
          bif (!(rt r2 0).b) then
            some [(T.bool false)]
          else
            bif ((a1.fld 1).i != (0 : Int)) then
              some [(T.bool false)]
            else
              bif (decide ((((a1.fld 3).es).length : Int) > (0 : Int))) then
                some [(T.bool false)]
              else
                bif (decide (0 ≤ (rt r1 0).i) && decide (((rt r1 0).i).toNat < a0.es.length)) then
                  bif (decide (0 ≤ (rt r1 1).i) && decide (((rt r1 1).i).toNat < ((a0.nth (((rt r1 0).i).toNat)).es).length)) then
                    bif ((((a1.fld 2).es).length : Int) != (((((a0.nth (((rt r1 0).i).toNat)).nth (((rt r1 1).i).toNat)).fld 1).es).length : Int)) then
                      some [(T.bool false)]
                    else
                      l_spec_l2Ok_0 (hl env k fi_spec_l2Ok) a0 (rt r1 0) (rt r1 1) (T.int (0 : Int)) a1
                  else
                    none
                else
                  none) r) : Yields (fun k => cl env k F_spec_l2Ok [a0, a1]) r := Yields.call (fi := fi_spec_l2Ok) rfl (fun H C => q_spec_l2Ok H C a0 a1) h
theorem e_spec_l2Ok_0 (H : List Item → CS → R) (C : CallsE) (x1 : T) (x2 : T) (x3 : T) (x4 : T) (x5 : T) : headE fi_spec_l2Ok env H C (hdAt fi_spec_l2Ok.body 0) ([(0, .val 27 x1), (3, .pref 37 3 []), (5, .val 3 x2), (6, .val 3 x3), (8, .val 3 x4)], [(3, ⟨37, x5, .fz, true⟩)]) =
  bif (decide (x4.i < (((x5.fld 2).es).length : Int))) then
    bif (decide (0 ≤ x4.i) && decide (x4.i.toNat < ((x5.fld 2).es).length)) then
      bif (decide (0 ≤ x2.i) && decide (x2.i.toNat < x1.es.length)) then
        bif (decide (0 ≤ x3.i) && decide (x3.i.toNat < ((x1.nth x2.i.toNat).es).length)) then
          bif (decide (0 ≤ x4.i) && decide (x4.i.toNat < ((((x1.nth x2.i.toNat).nth x3.i.toNat).fld 1).es).length)) then
            bif ((!((!(((((x5.fld 2).nth x4.i.toNat).fld 0).s).toList == (((((x1.nth x2.i.toNat).nth x3.i.toNat).fld 1).nth x4.i.toNat).s).toList)) == false)) || true) then
              bif ((!((!(((((x5.fld 2).nth x4.i.toNat).fld 0).s).toList == (((((x1.nth x2.i.toNat).nth x3.i.toNat).fld 1).nth x4.i.toNat).s).toList)) == false)) || true) then
                bif ((!((!(((((x5.fld 2).nth x4.i.toNat).fld 0).s).toList == (((((x1.nth x2.i.toNat).nth x3.i.toNat).fld 1).nth x4.i.toNat).s).toList)) == false)) || ((!(((((x5.fld 2).nth x4.i.toNat).fld 0).s).toList == (((((x1.nth x2.i.toNat).nth x3.i.toNat).fld 1).nth x4.i.toNat).s).toList)) == false)) then
                  bif ((!((!(((((x5.fld 2).nth x4.i.toNat).fld 0).s).toList == (((((x1.nth x2.i.toNat).nth x3.i.toNat).fld 1).nth x4.i.toNat).s).toList)) == false)) || true) then
                    bif ((!((!(((((x5.fld 2).nth x4.i.toNat).fld 0).s).toList == (((((x1.nth x2.i.toNat).nth x3.i.toNat).fld 1).nth x4.i.toNat).s).toList)) == false)) || ((((!(((((x5.fld 2).nth x4.i.toNat).fld 0).s).toList == (((((x1.nth x2.i.toNat).nth x3.i.toNat).fld 1).nth x4.i.toNat).s).toList)) == false) && (((!(((((x5.fld 2).nth x4.i.toNat).fld 0).s).toList == (((((x1.nth x2.i.toNat).nth x3.i.toNat).fld 1).nth x4.i.toNat).s).toList)) == false) && true)) && (decide (0 ≤ x4.i) && decide (x4.i.toNat < ((x5.fld 2).es).length)))) then
                      bif ((!((!(((((x5.fld 2).nth x4.i.toNat).fld 0).s).toList == (((((x1.nth x2.i.toNat).nth x3.i.toNat).fld 1).nth x4.i.toNat).s).toList)) == false)) || ((!(((((x5.fld 2).nth x4.i.toNat).fld 0).s).toList == (((((x1.nth x2.i.toNat).nth x3.i.toNat).fld 1).nth x4.i.toNat).s).toList)) == false)) then
                        bif ((!((!(((((x5.fld 2).nth x4.i.toNat).fld 0).s).toList == (((((x1.nth x2.i.toNat).nth x3.i.toNat).fld 1).nth x4.i.toNat).s).toList)) == false)) || (((!(((((x5.fld 2).nth x4.i.toNat).fld 0).s).toList == (((((x1.nth x2.i.toNat).nth x3.i.toNat).fld 1).nth x4.i.toNat).s).toList)) == false) && (((!(((((x5.fld 2).nth x4.i.toNat).fld 0).s).toList == (((((x1.nth x2.i.toNat).nth x3.i.toNat).fld 1).nth x4.i.toNat).s).toList)) == false) && true))) then
                          obind ((bif ((!(((((x5.fld 2).nth x4.i.toNat).fld 0).s).toList == (((((x1.nth x2.i.toNat).nth x3.i.toNat).fld 1).nth x4.i.toNat).s).toList)) == false) then C F_spec_l2Ok [x1, ((x5.fld 2).nth x4.i.toNat)] else some [])) fun r1 =>
                          bif ((!((!(((((x5.fld 2).nth x4.i.toNat).fld 0).s).toList == (((((x1.nth x2.i.toNat).nth x3.i.toNat).fld 1).nth x4.i.toNat).s).toList)) == false)) || ((!(((((x5.fld 2).nth x4.i.toNat).fld 0).s).toList == (((((x1.nth x2.i.toNat).nth x3.i.toNat).fld 1).nth x4.i.toNat).s).toList)) == false)) then
                            bif (bif (!(((((x5.fld 2).nth x4.i.toNat).fld 0).s).toList == (((((x1.nth x2.i.toNat).nth x3.i.toNat).fld 1).nth x4.i.toNat).s).toList)) then true else ((!(((((x5.fld 2).nth x4.i.toNat).fld 0).s).toList == (((((x1.nth x2.i.toNat).nth x3.i.toNat).fld 1).nth x4.i.toNat).s).toList)) == false)) then
                              bif (bif (!(((((x5.fld 2).nth x4.i.toNat).fld 0).s).toList == (((((x1.nth x2.i.toNat).nth x3.i.toNat).fld 1).nth x4.i.toNat).s).toList)) then (T.bool true) else (T.bool (!(rt r1 0).b))).b then
                                some [(T.bool false)]
                              else
                                l_spec_l2Ok_0 H x1 x2 x3 (T.int (IntKind.wrap .i64 (x4.i + (1 : Int)))) x5
                            else
                              none
                          else
                            none
                        else
                          none
                      else
                        none
                    else
                      none
                  else
                    none
                else
                  none
              else
                none
            else
              none
          else
            none
        else
          none
      else
        none
    else
      none
  else
    some [(T.bool true)] := by kernel_rfl
theorem q_spec_l2Ok_0 (H : List Item → CS → R) (C : CallsE) (x1 : T) (x2 : T) (x3 : T) (x4 : T) (x5 : T) : headE fi_spec_l2Ok env H C (hdAt fi_spec_l2Ok.body 0) ([(0, .val 27 x1), (3, .pref 37 3 []), (5, .val 3 x2), (6, .val 3 x3), (8, .val 3 x4)], [(3, ⟨37, x5, .fz, true⟩)]) =
  bif (decide (x4.i < (((x5.fld 2).es).length : Int))) then
    bif (decide (0 ≤ x4.i) && decide (x4.i.toNat < ((x5.fld 2).es).length)) then
      bif (decide (0 ≤ x2.i) && decide (x2.i.toNat < x1.es.length)) then
        bif (decide (0 ≤ x3.i) && decide (x3.i.toNat < ((x1.nth x2.i.toNat).es).length)) then
          bif (decide (0 ≤ x4.i) && decide (x4.i.toNat < ((((x1.nth x2.i.toNat).nth x3.i.toNat).fld 1).es).length)) then
            bif (!(((((x5.fld 2).nth x4.i.toNat).fld 0).s).toList == (((((x1.nth x2.i.toNat).nth x3.i.toNat).fld 1).nth x4.i.toNat).s).toList)) then
              some [(T.bool false)]
            else
              obind (C F_spec_l2Ok [x1, ((x5.fld 2).nth x4.i.toNat)]) fun r1 =>
              bif (!(rt r1 0).b) then
                some [(T.bool false)]
              else
                l_spec_l2Ok_0 H x1 x2 x3 (T.int (IntKind.wrap .i64 (x4.i + (1 : Int)))) x5
          else
            none
        else
          none
      else
        none
    else
      none
  else
    some [(T.bool true)] := by
  rw [e_spec_l2Ok_0 H C x1 x2 x3 x4 x5]
  all_goals cases hc : ((decide (x4.i < (((x5.fld 2).es).length : Int)))) with
  | true =>
    try simp only [obind_some, cond_true, cond_false, tb_bool, beq_tt, beq_ft, beq_tf, beq_ff, Bool.not_true, Bool.not_false, Bool.true_and, Bool.false_and, Bool.true_or, Bool.false_or]
    all_goals cases hc : ((decide (0 ≤ x4.i) && decide (x4.i.toNat < ((x5.fld 2).es).length))) with
    | true =>
      try simp only [obind_some, cond_true, cond_false, tb_bool, beq_tt, beq_ft, beq_tf, beq_ff, Bool.not_true, Bool.not_false, Bool.true_and, Bool.false_and, Bool.true_or, Bool.false_or]
      all_goals cases hc : ((decide (0 ≤ x2.i) && decide (x2.i.toNat < x1.es.length))) with
      | true =>
        try simp only [obind_some, cond_true, cond_false, tb_bool, beq_tt, beq_ft, beq_tf, beq_ff, Bool.not_true, Bool.not_false, Bool.true_and, Bool.false_and, Bool.true_or, Bool.false_or]
        all_goals cases hc : ((decide (0 ≤ x3.i) && decide (x3.i.toNat < ((x1.nth x2.i.toNat).es).length))) with
        | true =>
          try simp only [obind_some, cond_true, cond_false, tb_bool, beq_tt, beq_ft, beq_tf, beq_ff, Bool.not_true, Bool.not_false, Bool.true_and, Bool.false_and, Bool.true_or, Bool.false_or]
          all_goals cases hc : ((decide (0 ≤ x4.i) && decide (x4.i.toNat < ((((x1.nth x2.i.toNat).nth x3.i.toNat).fld 1).es).length))) with
          | true =>
            try simp only [obind_some, cond_true, cond_false, tb_bool, beq_tt, beq_ft, beq_tf, beq_ff, Bool.not_true, Bool.not_false, Bool.true_and, Bool.false_and, Bool.true_or, Bool.false_or]
            all_goals cases hc : ((!(((((x5.fld 2).nth x4.i.toNat).fld 0).s).toList == (((((x1.nth x2.i.toNat).nth x3.i.toNat).fld 1).nth x4.i.toNat).s).toList))) with
            | true =>
              try simp only [obind_some, cond_true, cond_false, tb_bool, beq_tt, beq_ft, beq_tf, beq_ff, Bool.not_true, Bool.not_false, Bool.true_and, Bool.false_and, Bool.true_or, Bool.false_or]
              all_goals kernel_rfl
            | false =>
              try simp only [obind_some, cond_true, cond_false, tb_bool, beq_tt, beq_ft, beq_tf, beq_ff, Bool.not_true, Bool.not_false, Bool.true_and, Bool.false_and, Bool.true_or, Bool.false_or]
              all_goals refine obind_congr fun r1 => ?_
              all_goals try simp only [obind_some, cond_true, cond_false, tb_bool, beq_tt, beq_ft, beq_tf, beq_ff, Bool.not_true, Bool.not_false, Bool.true_and, Bool.false_and, Bool.true_or, Bool.false_or]
              all_goals cases hc : ((!(rt r1 0).b)) with
              | true =>
                try simp only [obind_some, cond_true, cond_false, tb_bool, beq_tt, beq_ft, beq_tf, beq_ff, Bool.not_true, Bool.not_false, Bool.true_and, Bool.false_and, Bool.true_or, Bool.false_or]
                all_goals kernel_rfl
              | false =>
                try simp only [obind_some, cond_true, cond_false, tb_bool, beq_tt, beq_ft, beq_tf, beq_ff, Bool.not_true, Bool.not_false, Bool.true_and, Bool.false_and, Bool.true_or, Bool.false_or]
                all_goals kernel_rfl
          | false =>
            try simp only [obind_some, cond_true, cond_false, tb_bool, beq_tt, beq_ft, beq_tf, beq_ff, Bool.not_true, Bool.not_false, Bool.true_and, Bool.false_and, Bool.true_or, Bool.false_or]
            all_goals kernel_rfl
        | false =>
          try simp only [obind_some, cond_true, cond_false, tb_bool, beq_tt, beq_ft, beq_tf, beq_ff, Bool.not_true, Bool.not_false, Bool.true_and, Bool.false_and, Bool.true_or, Bool.false_or]
          all_goals kernel_rfl
      | false =>
        try simp only [obind_some, cond_true, cond_false, tb_bool, beq_tt, beq_ft, beq_tf, beq_ff, Bool.not_true, Bool.not_false, Bool.true_and, Bool.false_and, Bool.true_or, Bool.false_or]
        all_goals kernel_rfl
    | false =>
      try simp only [obind_some, cond_true, cond_false, tb_bool, beq_tt, beq_ft, beq_tf, beq_ff, Bool.not_true, Bool.not_false, Bool.true_and, Bool.false_and, Bool.true_or, Bool.false_or]
      all_goals kernel_rfl
  | false =>
    try simp only [obind_some, cond_true, cond_false, tb_bool, beq_tt, beq_ft, beq_tf, beq_ff, Bool.not_true, Bool.not_false, Bool.true_and, Bool.false_and, Bool.true_or, Bool.false_or]
    all_goals kernel_rfl
theorem y_spec_l2Ok_0 (x1 : T) (x2 : T) (x3 : T) (x4 : T) (x5 : T) {r : List T} (h : Yields (fun k =>
  bif (decide (x4.i < (((x5.fld 2).es).length : Int))) then
    bif (decide (0 ≤ x4.i) && decide (x4.i.toNat < ((x5.fld 2).es).length)) then
      bif (decide (0 ≤ x2.i) && decide (x2.i.toNat < x1.es.length)) then
        bif (decide (0 ≤ x3.i) && decide (x3.i.toNat < ((x1.nth x2.i.toNat).es).length)) then
          bif (decide (0 ≤ x4.i) && decide (x4.i.toNat < ((((x1.nth x2.i.toNat).nth x3.i.toNat).fld 1).es).length)) then
            bif (!(((((x5.fld 2).nth x4.i.toNat).fld 0).s).toList == (((((x1.nth x2.i.toNat).nth x3.i.toNat).fld 1).nth x4.i.toNat).s).toList)) then
              some [(T.bool false)]
            else
              obind (cl env k F_spec_l2Ok [x1, ((x5.fld 2).nth x4.i.toNat)]) fun r1 =>
              bif (!(rt r1 0).b) then
                some [(T.bool false)]
              else
                l_spec_l2Ok_0 (hl env k fi_spec_l2Ok) x1 x2 x3 (T.int (IntKind.wrap .i64 (x4.i + (1 : Int)))) x5
          else
            none
        else
          none
      else
        none
    else
      none
  else
    some [(T.bool true)]) r) : Yields (fun k => l_spec_l2Ok_0 (hl env k fi_spec_l2Ok) x1 x2 x3 x4 x5) r := Yields.head (fun H C => q_spec_l2Ok_0 H C x1 x2 x3 x4 x5) h
/- loop.example/heirlooms/spec.l1Can -/
theorem q_spec_l1Can (H : List Item → CS → R) (C : CallsE) (a0 a1 : T) : enterE fi_spec_l1Can env H C [a0, a1] =
  bif (!(a1.i == 0)) then
    bif (!((2 : Int) == 0)) then
      some [(T.bool ((((IntKind.wrap .i64 ((a0.i).tdiv a1.i)) : Int).tmod (2 : Int)) == (1 : Int)))]
    else
      none
  else
    none := by kernel_rfl
theorem y_spec_l1Can (a0 a1 : T) {r : List T} (h : Yields (fun k =>
  bif (!(a1.i == 0)) then
    bif (!((2 : Int) == 0)) then
      some [(T.bool ((((IntKind.wrap .i64 ((a0.i).tdiv a1.i)) : Int).tmod (2 : Int)) == (1 : Int)))]
    else
      none
  else
    none) r) : Yields (fun k => cl env k F_spec_l1Can [a0, a1]) r := Yields.call (fi := fi_spec_l1Can) rfl (fun H C => q_spec_l1Can H C a0 a1) h
/- loop.example/heirlooms/spec.l1Able -/
theorem e_spec_l1Able (H : List Item → CS → R) (C : CallsE) (a0 a1 : T) : enterE fi_spec_l1Able env H C [a0, a1] =
  obind (C F_spec_l1Ref [a1]) fun r1 =>
  bif ((!((rt r1 0).b == true)) || true) then
    bif ((!((rt r1 0).b == true)) || ((((rt r1 0).b == true) && true) && (decide (0 ≤ (0 : Int)) && decide (0 < a1.s.size)))) then
      bif ((!((rt r1 0).b == true)) || ((((rt r1 0).b == true) && true) && true)) then
        bif (bif (rt r1 0).b then ((rt r1 0).b == true) else true) then
          bif (bif (rt r1 0).b then (T.bool ((a1.s.data.getD 0 0).toNat == (38 : Int))) else (T.bool false)).b then
            some [(T.int (3 : Int))]
          else
            obind (C F_spec_l1Ref [a1]) fun r2 =>
            bif (rt r2 0).b then
              some [(T.int (2 : Int))]
            else
              obind (C F_spec_l1Kind [a1]) fun r3 =>
              bif (rt r3 2).b then
                bif (decide (0 ≤ (rt r3 0).i) && decide (((rt r3 0).i).toNat < a0.es.length)) then
                  bif (decide (0 ≤ (rt r3 1).i) && decide (((rt r3 1).i).toNat < ((a0.nth (((rt r3 0).i).toNat)).es).length)) then
                    some [(((a0.nth (((rt r3 0).i).toNat)).nth (((rt r3 1).i).toNat)).fld 0)]
                  else
                    none
                else
                  none
              else
                some [(T.int (7 : Int))]
        else
          none
      else
        none
    else
      none
  else
    none := by kernel_rfl
theorem q_spec_l1Able (H : List Item → CS → R) (C : CallsE) (a0 a1 : T) : enterE fi_spec_l1Able env H C [a0, a1] =
  obind (C F_spec_l1Ref [a1]) fun r1 =>
  bif (rt r1 0).b then
    bif (decide (0 ≤ (0 : Int)) && decide (0 < a1.s.size)) then
      bif ((a1.s.data.getD 0 0).toNat == (38 : Int)) then
        some [(T.int (3 : Int))]
      else
        obind (C F_spec_l1Ref [a1]) fun r2 =>
        bif (rt r2 0).b then
          some [(T.int (2 : Int))]
        else
          obind (C F_spec_l1Kind [a1]) fun r3 =>
          bif (rt r3 2).b then
            bif (decide (0 ≤ (rt r3 0).i) && decide (((rt r3 0).i).toNat < a0.es.length)) then
              bif (decide (0 ≤ (rt r3 1).i) && decide (((rt r3 1).i).toNat < ((a0.nth (((rt r3 0).i).toNat)).es).length)) then
                some [(((a0.nth (((rt r3 0).i).toNat)).nth (((rt r3 1).i).toNat)).fld 0)]
              else
                none
            else
              none
          else
            some [(T.int (7 : Int))]
    else
      none
  else
    obind (C F_spec_l1Ref [a1]) fun r2 =>
    bif (rt r2 0).b then
      some [(T.int (2 : Int))]
    else
      obind (C F_spec_l1Kind [a1]) fun r3 =>
      bif (rt r3 2).b then
        bif (decide (0 ≤ (rt r3 0).i) && decide (((rt r3 0).i).toNat < a0.es.length)) then
          bif (decide (0 ≤ (rt r3 1).i) && decide (((rt r3 1).i).toNat < ((a0.nth (((rt r3 0).i).toNat)).es).length)) then
            some [(((a0.nth (((rt r3 0).i).toNat)).nth (((rt r3 1).i).toNat)).fld 0)]
          else
            none
        else
          none
      else
        some [(T.int (7 : Int))] := by
  rw [e_spec_l1Able H C a0 a1]
  all_goals refine obind_congr fun r1 => ?_
  all_goals try simp only [obind_some, cond_true, cond_false, tb_bool, beq_tt, beq_ft, beq_tf, beq_ff, Bool.not_true, Bool.not_false, Bool.true_and, Bool.false_and, Bool.true_or, Bool.false_or]
  all_goals cases hc : ((rt r1 0).b) with
  | true =>
    try simp only [obind_some, cond_true, cond_false, tb_bool, beq_tt, beq_ft, beq_tf, beq_ff, Bool.not_true, Bool.not_false, Bool.true_and, Bool.false_and, Bool.true_or, Bool.false_or]
    all_goals cases hc : ((decide (0 ≤ (0 : Int)) && decide (0 < a1.s.size))) with
    | true =>
      try simp only [obind_some, cond_true, cond_false, tb_bool, beq_tt, beq_ft, beq_tf, beq_ff, Bool.not_true, Bool.not_false, Bool.true_and, Bool.false_and, Bool.true_or, Bool.false_or]
      all_goals cases hc : (((a1.s.data.getD 0 0).toNat == (38 : Int))) with
      | true =>
        try simp only [obind_some, cond_true, cond_false, tb_bool, beq_tt, beq_ft, beq_tf, beq_ff, Bool.not_true, Bool.not_false, Bool.true_and, Bool.false_and, Bool.true_or, Bool.false_or]
        all_goals kernel_rfl
      | false =>
        try simp only [obind_some, cond_true, cond_false, tb_bool, beq_tt, beq_ft, beq_tf, beq_ff, Bool.not_true, Bool.not_false, Bool.true_and, Bool.false_and, Bool.true_or, Bool.false_or]
        all_goals refine obind_congr fun r2 => ?_
        all_goals try simp only [obind_some, cond_true, cond_false, tb_bool, beq_tt, beq_ft, beq_tf, beq_ff, Bool.not_true, Bool.not_false, Bool.true_and, Bool.false_and, Bool.true_or, Bool.false_or]
        all_goals cases hc : ((rt r2 0).b) with
        | true =>
          try simp only [obind_some, cond_true, cond_false, tb_bool, beq_tt, beq_ft, beq_tf, beq_ff, Bool.not_true, Bool.not_false, Bool.true_and, Bool.false_and, Bool.true_or, Bool.false_or]
          all_goals kernel_rfl
        | false =>
          try simp only [obind_some, cond_true, cond_false, tb_bool, beq_tt, beq_ft, beq_tf, beq_ff, Bool.not_true, Bool.not_false, Bool.true_and, Bool.false_and, Bool.true_or, Bool.false_or]
          all_goals refine obind_congr fun r3 => ?_
          all_goals try simp only [obind_some, cond_true, cond_false, tb_bool, beq_tt, beq_ft, beq_tf, beq_ff, Bool.not_true, Bool.not_false, Bool.true_and, Bool.false_and, Bool.true_or, Bool.false_or]
          all_goals cases hc : ((rt r3 2).b) with
          | true =>
            try simp only [obind_some, cond_true, cond_false, tb_bool, beq_tt, beq_ft, beq_tf, beq_ff, Bool.not_true, Bool.not_false, Bool.true_and, Bool.false_and, Bool.true_or, Bool.false_or]
            all_goals cases hc : ((decide (0 ≤ (rt r3 0).i) && decide (((rt r3 0).i).toNat < a0.es.length))) with
            | true =>
              try simp only [obind_some, cond_true, cond_false, tb_bool, beq_tt, beq_ft, beq_tf, beq_ff, Bool.not_true, Bool.not_false, Bool.true_and, Bool.false_and, Bool.true_or, Bool.false_or]
              all_goals cases hc : ((decide (0 ≤ (rt r3 1).i) && decide (((rt r3 1).i).toNat < ((a0.nth (((rt r3 0).i).toNat)).es).length))) with
              | true =>
                try simp only [obind_some, cond_true, cond_false, tb_bool, beq_tt, beq_ft, beq_tf, beq_ff, Bool.not_true, Bool.not_false, Bool.true_and, Bool.false_and, Bool.true_or, Bool.false_or]
                all_goals kernel_rfl
              | false =>
                try simp only [obind_some, cond_true, cond_false, tb_bool, beq_tt, beq_ft, beq_tf, beq_ff, Bool.not_true, Bool.not_false, Bool.true_and, Bool.false_and, Bool.true_or, Bool.false_or]
                all_goals kernel_rfl
            | false =>
              try simp only [obind_some, cond_true, cond_false, tb_bool, beq_tt, beq_ft, beq_tf, beq_ff, Bool.not_true, Bool.not_false, Bool.true_and, Bool.false_and, Bool.true_or, Bool.false_or]
              all_goals kernel_rfl
          | false =>
            try simp only [obind_some, cond_true, cond_false, tb_bool, beq_tt, beq_ft, beq_tf, beq_ff, Bool.not_true, Bool.not_false, Bool.true_and, Bool.false_and, Bool.true_or, Bool.false_or]
            all_goals kernel_rfl
    | false =>
      try simp only [obind_some, cond_true, cond_false, tb_bool, beq_tt, beq_ft, beq_tf, beq_ff, Bool.not_true, Bool.not_false, Bool.true_and, Bool.false_and, Bool.true_or, Bool.false_or]
      all_goals kernel_rfl
  | false =>
    try simp only [obind_some, cond_true, cond_false, tb_bool, beq_tt, beq_ft, beq_tf, beq_ff, Bool.not_true, Bool.not_false, Bool.true_and, Bool.false_and, Bool.true_or, Bool.false_or]
    all_goals refine obind_congr fun r2 => ?_
    all_goals try simp only [obind_some, cond_true, cond_false, tb_bool, beq_tt, beq_ft, beq_tf, beq_ff, Bool.not_true, Bool.not_false, Bool.true_and, Bool.false_and, Bool.true_or, Bool.false_or]
    all_goals cases hc : ((rt r2 0).b) with
    | true =>
      try simp only [obind_some, cond_true, cond_false, tb_bool, beq_tt, beq_ft, beq_tf, beq_ff, Bool.not_true, Bool.not_false, Bool.true_and, Bool.false_and, Bool.true_or, Bool.false_or]
      all_goals kernel_rfl
    | false =>
      try simp only [obind_some, cond_true, cond_false, tb_bool, beq_tt, beq_ft, beq_tf, beq_ff, Bool.not_true, Bool.not_false, Bool.true_and, Bool.false_and, Bool.true_or, Bool.false_or]
      all_goals refine obind_congr fun r3 => ?_
      all_goals try simp only [obind_some, cond_true, cond_false, tb_bool, beq_tt, beq_ft, beq_tf, beq_ff, Bool.not_true, Bool.not_false, Bool.true_and, Bool.false_and, Bool.true_or, Bool.false_or]
      all_goals cases hc : ((rt r3 2).b) with
      | true =>
        try simp only [obind_some, cond_true, cond_false, tb_bool, beq_tt, beq_ft, beq_tf, beq_ff, Bool.not_true, Bool.not_false, Bool.true_and, Bool.false_and, Bool.true_or, Bool.false_or]
        all_goals cases hc : ((decide (0 ≤ (rt r3 0).i) && decide (((rt r3 0).i).toNat < a0.es.length))) with
        | true =>
          try simp only [obind_some, cond_true, cond_false, tb_bool, beq_tt, beq_ft, beq_tf, beq_ff, Bool.not_true, Bool.not_false, Bool.true_and, Bool.false_and, Bool.true_or, Bool.false_or]
          all_goals cases hc : ((decide (0 ≤ (rt r3 1).i) && decide (((rt r3 1).i).toNat < ((a0.nth (((rt r3 0).i).toNat)).es).length))) with
          | true =>
            try simp only [obind_some, cond_true, cond_false, tb_bool, beq_tt, beq_ft, beq_tf, beq_ff, Bool.not_true, Bool.not_false, Bool.true_and, Bool.false_and, Bool.true_or, Bool.false_or]
            all_goals kernel_rfl
          | false =>
            try simp only [obind_some, cond_true, cond_false, tb_bool, beq_tt, beq_ft, beq_tf, beq_ff, Bool.not_true, Bool.not_false, Bool.true_and, Bool.false_and, Bool.true_or, Bool.false_or]
            all_goals kernel_rfl
        | false =>
          try simp only [obind_some, cond_true, cond_false, tb_bool, beq_tt, beq_ft, beq_tf, beq_ff, Bool.not_true, Bool.not_false, Bool.true_and, Bool.false_and, Bool.true_or, Bool.false_or]
          all_goals kernel_rfl
      | false =>
        try simp only [obind_some, cond_true, cond_false, tb_bool, beq_tt, beq_ft, beq_tf, beq_ff, Bool.not_true, Bool.not_false, Bool.true_and, Bool.false_and, Bool.true_or, Bool.false_or]
        all_goals kernel_rfl
theorem y_spec_l1Able (a0 a1 : T) {r : List T} (h : Yields (fun k =>
  obind (cl env k F_spec_l1Ref [a1]) fun r1 =>
  bif (rt r1 0).b then
    bif (decide (0 ≤ (0 : Int)) && decide (0 < a1.s.size)) then
      bif ((a1.s.data.getD 0 0).toNat == (38 : Int)) then
        some [(T.int (3 : Int))]
      else
        obind (cl env k F_spec_l1Ref [a1]) fun r2 =>
        bif (rt r2 0).b then
          some [(T.int (2 : Int))]
        else
          obind (cl env k F_spec_l1Kind [a1]) fun r3 =>
          bif (rt r3 2).b then
            bif (decide (0 ≤ (rt r3 0).i) && decide (((rt r3 0).i).toNat < a0.es.length)) then
              bif (decide (0 ≤ (rt r3 1).i) && decide (((rt r3 1).i).toNat < ((a0.nth (((rt r3 0).i).toNat)).es).length)) then
                some [(((a0.nth (((rt r3 0).i).toNat)).nth (((rt r3 1).i).toNat)).fld 0)]
              else
                none
            else
              none
          else
            some [(T.int (7 : Int))]
    else
      none
  else
    obind (cl env k F_spec_l1Ref [a1]) fun r2 =>
    bif (rt r2 0).b then
      some [(T.int (2 : Int))]
    else
      obind (cl env k F_spec_l1Kind [a1]) fun r3 =>
      bif (rt r3 2).b then
        bif (decide (0 ≤ (rt r3 0).i) && decide (((rt r3 0).i).toNat < a0.es.length)) then
          bif (decide (0 ≤ (rt r3 1).i) && decide (((rt r3 1).i).toNat < ((a0.nth (((rt r3 0).i).toNat)).es).length)) then
            some [(((a0.nth (((rt r3 0).i).toNat)).nth (((rt r3 1).i).toNat)).fld 0)]
          else
            none
        else
          none
      else
        some [(T.int (7 : Int))]) r) : Yields (fun k => cl env k F_spec_l1Able [a0, a1]) r := Yields.call (fi := fi_spec_l1Able) rfl (fun H C => q_spec_l1Able H C a0 a1) h
/- loop.example/heirlooms/impl.recordOf -/
theorem q_impl_recordOf (H : List Item → CS → R) (C : CallsE) (a0 a1 : T) : enterE fi_impl_recordOf env H C [a0, a1] =
  obind (C F_impl_kindAt [a1]) fun r1 =>
  bif (decide (0 ≤ (rt r1 0).i) && decide (((rt r1 0).i).toNat < a0.es.length)) then
    bif (decide (0 ≤ (rt r1 1).i) && decide (((rt r1 1).i).toNat < ((a0.nth (((rt r1 0).i).toNat)).es).length)) then
      some [((a0.nth (((rt r1 0).i).toNat)).nth (((rt r1 1).i).toNat))]
    else
      none
  else
    none := by kernel_rfl
theorem y_impl_recordOf (a0 a1 : T) {r : List T} (h : Yields (fun k =>
  obind (cl env k F_impl_kindAt [a1]) fun r1 =>
  bif (decide (0 ≤ (rt r1 0).i) && decide (((rt r1 0).i).toNat < a0.es.length)) then
    bif (decide (0 ≤ (rt r1 1).i) && decide (((rt r1 1).i).toNat < ((a0.nth (((rt r1 0).i).toNat)).es).length)) then
      some [((a0.nth (((rt r1 0).i).toNat)).nth (((rt r1 1).i).toNat))]
    else
      none
  else
    none) r) : Yields (fun k => cl env k F_impl_recordOf [a0, a1]) r := Yields.call (fi := fi_impl_recordOf) rfl (fun H C => q_impl_recordOf H C a0 a1) h
noncomputable def l_impl_valueFits_0 (H : List Item → CS → R) (x1 : T) (x2 : T) (x3 : T) (x4 : T) (x5 : T) : R := H (hdAt fi_impl_valueFits.body 0) ([(0, .val 27 x1), (5, .val 90 x2), (86, .val 34 x3), (87, .val 3 x4), (88, .val 3 x5)], [])
/- loop.example/heirlooms/impl.valueFits -/
end Go.Proofs.Ytmhjjanaackknaa.Ra
