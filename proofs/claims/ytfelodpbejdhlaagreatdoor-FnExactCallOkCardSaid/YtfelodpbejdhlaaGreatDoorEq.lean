/- Each function as a readable term. Written by gen.py. -/
import Derived.Test.YtfelodpbejdhlaaGreatDoorEq0
set_option linter.unusedSimpArgs false
set_option linter.unusedVariables false
namespace Go.Proofs.YtfelodpbejdhlaaGreatDoor.Ra
open Go
theorem e_impl_rising_0 (H : List Item → CS → R) (C : CallsE) (x1 : T) (x2 : T) (x3 : T) (x4 : T) (x5 : T) (x6 : T) : headE fi_impl_rising env H C (hdAt fi_impl_rising.body 0) ([(0, .val 42 x1), (1, .val 3 x2), (2, .val 3 x3), (9, .val 42 x4), (10, .val 3 x5), (11, .val 3 x6)], []) =
 bif (decide (x6.i < x5.i)) then
 bif (decide (0 ≤ x6.i) && decide (x6.i.toNat < x4.es.length)) then
 bif ((!((decide ((x4.nth x6.i.toNat).i < x2.i)) == false)) || true) then
 bif ((!((decide ((x4.nth x6.i.toNat).i < x2.i)) == false)) || true) then
 bif ((!((decide ((x4.nth x6.i.toNat).i < x2.i)) == false)) || ((((decide ((x4.nth x6.i.toNat).i < x2.i)) == false) && ((decide ((x4.nth x6.i.toNat).i < x2.i)) == false)) && true)) then
 bif (bif (decide ((x4.nth x6.i.toNat).i < x2.i)) then true else ((decide ((x4.nth x6.i.toNat).i < x2.i)) == false)) then
 bif ((!((bif (decide ((x4.nth x6.i.toNat).i < x2.i)) then (T.bool true) else (T.bool (decide ((x4.nth x6.i.toNat).i > x3.i)))).b == false)) || true) then
 bif ((!((bif (decide ((x4.nth x6.i.toNat).i < x2.i)) then (T.bool true) else (T.bool (decide ((x4.nth x6.i.toNat).i > x3.i)))).b == false)) || ((((bif (decide ((x4.nth x6.i.toNat).i < x2.i)) then (T.bool true) else (T.bool (decide ((x4.nth x6.i.toNat).i > x3.i)))).b == false) && true) && true)) then
 bif ((!((bif (decide ((x4.nth x6.i.toNat).i < x2.i)) then (T.bool true) else (T.bool (decide ((x4.nth x6.i.toNat).i > x3.i)))).b == false)) || ((bif (decide ((x4.nth x6.i.toNat).i < x2.i)) then (T.bool true) else (T.bool (decide ((x4.nth x6.i.toNat).i > x3.i)))).b == false)) then
 bif ((!(((bif (decide ((x4.nth x6.i.toNat).i < x2.i)) then (T.bool true) else (T.bool (decide ((x4.nth x6.i.toNat).i > x3.i)))).b == false) && ((decide (x6.i > (0 : Int))) == true))) || true) then
 bif ((!(((bif (decide ((x4.nth x6.i.toNat).i < x2.i)) then (T.bool true) else (T.bool (decide ((x4.nth x6.i.toNat).i > x3.i)))).b == false) && ((decide (x6.i > (0 : Int))) == true))) || true) then
 bif ((!(((bif (decide ((x4.nth x6.i.toNat).i < x2.i)) then (T.bool true) else (T.bool (decide ((x4.nth x6.i.toNat).i > x3.i)))).b == false) && ((decide (x6.i > (0 : Int))) == true))) || true) then
 bif ((!(((bif (decide ((x4.nth x6.i.toNat).i < x2.i)) then (T.bool true) else (T.bool (decide ((x4.nth x6.i.toNat).i > x3.i)))).b == false) && ((decide (x6.i > (0 : Int))) == true))) || (((((bif (decide ((x4.nth x6.i.toNat).i < x2.i)) then (T.bool true) else (T.bool (decide ((x4.nth x6.i.toNat).i > x3.i)))).b == false) && ((decide (x6.i > (0 : Int))) == true)) && true) && true)) then
 bif ((!(((bif (decide ((x4.nth x6.i.toNat).i < x2.i)) then (T.bool true) else (T.bool (decide ((x4.nth x6.i.toNat).i > x3.i)))).b == false) && ((decide (x6.i > (0 : Int))) == true))) || (((((bif (decide ((x4.nth x6.i.toNat).i < x2.i)) then (T.bool true) else (T.bool (decide ((x4.nth x6.i.toNat).i > x3.i)))).b == false) && ((decide (x6.i > (0 : Int))) == true)) && ((((bif (decide ((x4.nth x6.i.toNat).i < x2.i)) then (T.bool true) else (T.bool (decide ((x4.nth x6.i.toNat).i > x3.i)))).b == false) && ((decide (x6.i > (0 : Int))) == true)) && true)) && (decide (0 ≤ (IntKind.wrap .i64 (x6.i - (1 : Int)))) && decide ((IntKind.wrap .i64 (x6.i - (1 : Int))).toNat < x1.es.length)))) then
 bif ((!(((bif (decide ((x4.nth x6.i.toNat).i < x2.i)) then (T.bool true) else (T.bool (decide ((x4.nth x6.i.toNat).i > x3.i)))).b == false) && ((decide (x6.i > (0 : Int))) == true))) || (((bif (decide ((x4.nth x6.i.toNat).i < x2.i)) then (T.bool true) else (T.bool (decide ((x4.nth x6.i.toNat).i > x3.i)))).b == false) && ((decide (x6.i > (0 : Int))) == true))) then
 bif ((!(((bif (decide ((x4.nth x6.i.toNat).i < x2.i)) then (T.bool true) else (T.bool (decide ((x4.nth x6.i.toNat).i > x3.i)))).b == false) && ((decide (x6.i > (0 : Int))) == true))) || (((((bif (decide ((x4.nth x6.i.toNat).i < x2.i)) then (T.bool true) else (T.bool (decide ((x4.nth x6.i.toNat).i > x3.i)))).b == false) && ((decide (x6.i > (0 : Int))) == true)) && (((bif (decide ((x4.nth x6.i.toNat).i < x2.i)) then (T.bool true) else (T.bool (decide ((x4.nth x6.i.toNat).i > x3.i)))).b == false) && ((decide (x6.i > (0 : Int))) == true))) && true)) then
 bif ((!((bif (decide ((x4.nth x6.i.toNat).i < x2.i)) then (T.bool true) else (T.bool (decide ((x4.nth x6.i.toNat).i > x3.i)))).b == false)) || (((bif (decide ((x4.nth x6.i.toNat).i < x2.i)) then (T.bool true) else (T.bool (decide ((x4.nth x6.i.toNat).i > x3.i)))).b == false) && (bif (decide (x6.i > (0 : Int))) then (((bif (decide ((x4.nth x6.i.toNat).i < x2.i)) then (T.bool true) else (T.bool (decide ((x4.nth x6.i.toNat).i > x3.i)))).b == false) && ((decide (x6.i > (0 : Int))) == true)) else true))) then
 bif (bif (bif (decide ((x4.nth x6.i.toNat).i < x2.i)) then (T.bool true) else (T.bool (decide ((x4.nth x6.i.toNat).i > x3.i)))).b then true else ((bif (decide ((x4.nth x6.i.toNat).i < x2.i)) then (T.bool true) else (T.bool (decide ((x4.nth x6.i.toNat).i > x3.i)))).b == false)) then
 bif (bif (bif (decide ((x4.nth x6.i.toNat).i < x2.i)) then (T.bool true) else (T.bool (decide ((x4.nth x6.i.toNat).i > x3.i)))).b then (T.bool true) else (bif (decide (x6.i > (0 : Int))) then (T.bool (decide ((x4.nth x6.i.toNat).i ≤ (x1.nth ((IntKind.wrap .i64 (x6.i - (1 : Int))).toNat)).i))) else (T.bool false))).b then
 some [(T.bool false)]
 else
 l_impl_rising_0 H x1 x2 x3 x4 x5 (T.int (IntKind.wrap .i64 (x6.i + (1 : Int))))
 else
 none
 else
 none
 else
 none
 else
 none
 else
 none
 else
 none
 else
 none
 else
 none
 else
 none
 else
 none
 else
 none
 else
 none
 else
 none
 else
 none
 else
 none
 else
 none
 else
 none
 else
 some [(T.bool true)] := by kernel_rfl
theorem q_impl_rising_0 (H : List Item → CS → R) (C : CallsE) (x1 : T) (x2 : T) (x3 : T) (x4 : T) (x5 : T) (x6 : T) : headE fi_impl_rising env H C (hdAt fi_impl_rising.body 0) ([(0, .val 42 x1), (1, .val 3 x2), (2, .val 3 x3), (9, .val 42 x4), (10, .val 3 x5), (11, .val 3 x6)], []) = b_impl_rising_0 H C x1 x2 x3 x4 x5 x6 := by
 refine (e_impl_rising_0 H C x1 x2 x3 x4 x5 x6).trans ?_
 unfold b_impl_rising_0
 all_goals cases hc : ((decide (x6.i < x5.i))) with
 | true =>
  try simp only [bs]
  all_goals cases hc : ((decide (0 ≤ x6.i) && decide (x6.i.toNat < x4.es.length))) with
  | true =>
   try simp only [bs]
   all_goals cases hc : ((decide ((x4.nth x6.i.toNat).i < x2.i))) with
   | true =>
    try simp only [bs]
    all_goals cases hc : ((decide (x6.i > (0 : Int)))) with
    | true =>
     try simp only [bs]
     all_goals kernel_rfl
    | false =>
     try simp only [bs]
     all_goals kernel_rfl
   | false =>
    try simp only [bs]
    all_goals cases hc : ((decide ((x4.nth x6.i.toNat).i > x3.i))) with
    | true =>
     try simp only [bs]
     all_goals cases hc : ((decide (x6.i > (0 : Int)))) with
     | true =>
      try simp only [bs]
      all_goals kernel_rfl
     | false =>
      try simp only [bs]
      all_goals kernel_rfl
    | false =>
     try simp only [bs]
     all_goals cases hc : ((decide (x6.i > (0 : Int)))) with
     | true =>
      try simp only [bs]
      all_goals cases hc : ((decide (0 ≤ (IntKind.wrap .i64 (x6.i - (1 : Int)))) && decide ((IntKind.wrap .i64 (x6.i - (1 : Int))).toNat < x1.es.length))) with
      | true =>
       try simp only [bs]
       all_goals cases hc : ((decide ((x4.nth x6.i.toNat).i ≤ (x1.nth ((IntKind.wrap .i64 (x6.i - (1 : Int))).toNat)).i))) with
       | true =>
        try simp only [bs]
        all_goals kernel_rfl
       | false =>
        try simp only [bs]
        all_goals kernel_rfl
      | false =>
       try simp only [bs]
       all_goals kernel_rfl
     | false =>
      try simp only [bs]
      all_goals kernel_rfl
  | false =>
   try simp only [bs]
   all_goals kernel_rfl
 | false =>
  try simp only [bs]
  all_goals kernel_rfl
theorem y_impl_rising_0 (x1 : T) (x2 : T) (x3 : T) (x4 : T) (x5 : T) (x6 : T) {r : List T} (h : Yields (fun k => b_impl_rising_0 (hl env k fi_impl_rising) (cl env k) x1 x2 x3 x4 x5 x6) r) : Yields (fun k => l_impl_rising_0 (hl env k fi_impl_rising) x1 x2 x3 x4 x5 x6) r := Yields.head (fun H C => q_impl_rising_0 H C x1 x2 x3 x4 x5 x6) h
noncomputable def l_impl_funcShape_0 (H : List Item → CS → R) (x1 : T) (x2 : T) (x3 : T) (x4 : T) (x5 : T) : R := H (hdAt fi_impl_funcShape.body 0) ([(1, .val 3 x1), (5, .pref 59 5 []), (71, .val 57 x2), (72, .val 3 x3), (73, .val 3 x4)], [(5, ⟨59, x5, .fz, true⟩)])
/- loop.example/heirlooms/impl.funcShape -/
noncomputable abbrev b_impl_funcShape (H : List Item → CS → R) (C : CallsE) (a0 a1 a2 : T) : R :=
 bif (decide ((a2.fld 0).i < (0 : Int))) then
 some [(T.bool false)]
 else
 bif (decide ((a2.fld 0).i > (2 : Int))) then
 some [(T.bool false)]
 else
 bif (decide ((((a2.fld 1).es).length : Int) > (3 : Int))) then
 some [(T.bool false)]
 else
 bif (decide ((((a2.fld 2).es).length : Int) > (3 : Int))) then
 some [(T.bool false)]
 else
 bif (decide ((IntKind.wrap .i64 ((((a2.fld 1).es).length : Int) + (((a2.fld 3).es).length : Int))) > (6 : Int))) then
 some [(T.bool false)]
 else
 obind (C F_impl_typesFit [a0, (a2.fld 1)]) fun r1 =>
 bif (!(rt r1 0).b) then
 some [(T.bool false)]
 else
 obind (C F_impl_typesFit [a0, (a2.fld 2)]) fun r2 =>
 bif (!(rt r2 0).b) then
 some [(T.bool false)]
 else
 obind (C F_impl_typesFit [a0, (a2.fld 3)]) fun r3 =>
 bif (!(rt r3 0).b) then
 some [(T.bool false)]
 else
 bif (decide (0 ≤ a1.i) && decide (a1.i.toNat < a0.es.length)) then
 obind (C F_impl_rising [(a2.fld 4), (T.int (0 : Int)), (T.int (IntKind.wrap .i64 ((((a0.nth a1.i.toNat).es).length : Int) - (1 : Int))))]) fun r4 =>
 bif (!(rt r4 0).b) then
 some [(T.bool false)]
 else
 l_impl_funcShape_0 H a1 (a2.fld 5) (T.int (((a2.fld 5).es).length : Int)) (T.int (0 : Int)) a2
 else
 none
theorem e_impl_funcShape (H : List Item → CS → R) (C : CallsE) (a0 a1 a2 : T) : enterE fi_impl_funcShape env H C [a0, a1, a2] =
 bif ((!((decide ((a2.fld 0).i < (0 : Int))) == false)) || true) then
 bif ((!((decide ((a2.fld 0).i < (0 : Int))) == false)) || ((decide ((a2.fld 0).i < (0 : Int))) == false)) then
 bif ((!((decide ((a2.fld 0).i < (0 : Int))) == false)) || ((((decide ((a2.fld 0).i < (0 : Int))) == false) && true) && true)) then
 bif (bif (decide ((a2.fld 0).i < (0 : Int))) then true else ((decide ((a2.fld 0).i < (0 : Int))) == false)) then
 bif ((!((bif (decide ((a2.fld 0).i < (0 : Int))) then (T.bool true) else (T.bool (decide ((a2.fld 0).i > (2 : Int))))).b == false)) || true) then
 bif ((!((bif (decide ((a2.fld 0).i < (0 : Int))) then (T.bool true) else (T.bool (decide ((a2.fld 0).i > (2 : Int))))).b == false)) || ((bif (decide ((a2.fld 0).i < (0 : Int))) then (T.bool true) else (T.bool (decide ((a2.fld 0).i > (2 : Int))))).b == false)) then
 bif ((!((bif (decide ((a2.fld 0).i < (0 : Int))) then (T.bool true) else (T.bool (decide ((a2.fld 0).i > (2 : Int))))).b == false)) || ((bif (decide ((a2.fld 0).i < (0 : Int))) then (T.bool true) else (T.bool (decide ((a2.fld 0).i > (2 : Int))))).b == false)) then
 bif ((!((bif (decide ((a2.fld 0).i < (0 : Int))) then (T.bool true) else (T.bool (decide ((a2.fld 0).i > (2 : Int))))).b == false)) || ((((bif (decide ((a2.fld 0).i < (0 : Int))) then (T.bool true) else (T.bool (decide ((a2.fld 0).i > (2 : Int))))).b == false) && true) && true)) then
 bif (bif (bif (decide ((a2.fld 0).i < (0 : Int))) then (T.bool true) else (T.bool (decide ((a2.fld 0).i > (2 : Int))))).b then true else ((bif (decide ((a2.fld 0).i < (0 : Int))) then (T.bool true) else (T.bool (decide ((a2.fld 0).i > (2 : Int))))).b == false)) then
 bif ((!((bif (bif (decide ((a2.fld 0).i < (0 : Int))) then (T.bool true) else (T.bool (decide ((a2.fld 0).i > (2 : Int))))).b then (T.bool true) else (T.bool (decide ((((a2.fld 1).es).length : Int) > (3 : Int))))).b == false)) || true) then
 bif ((!((bif (bif (decide ((a2.fld 0).i < (0 : Int))) then (T.bool true) else (T.bool (decide ((a2.fld 0).i > (2 : Int))))).b then (T.bool true) else (T.bool (decide ((((a2.fld 1).es).length : Int) > (3 : Int))))).b == false)) || ((bif (bif (decide ((a2.fld 0).i < (0 : Int))) then (T.bool true) else (T.bool (decide ((a2.fld 0).i > (2 : Int))))).b then (T.bool true) else (T.bool (decide ((((a2.fld 1).es).length : Int) > (3 : Int))))).b == false)) then
 bif ((!((bif (bif (decide ((a2.fld 0).i < (0 : Int))) then (T.bool true) else (T.bool (decide ((a2.fld 0).i > (2 : Int))))).b then (T.bool true) else (T.bool (decide ((((a2.fld 1).es).length : Int) > (3 : Int))))).b == false)) || ((bif (bif (decide ((a2.fld 0).i < (0 : Int))) then (T.bool true) else (T.bool (decide ((a2.fld 0).i > (2 : Int))))).b then (T.bool true) else (T.bool (decide ((((a2.fld 1).es).length : Int) > (3 : Int))))).b == false)) then
 bif ((!((bif (bif (decide ((a2.fld 0).i < (0 : Int))) then (T.bool true) else (T.bool (decide ((a2.fld 0).i > (2 : Int))))).b then (T.bool true) else (T.bool (decide ((((a2.fld 1).es).length : Int) > (3 : Int))))).b == false)) || ((((bif (bif (decide ((a2.fld 0).i < (0 : Int))) then (T.bool true) else (T.bool (decide ((a2.fld 0).i > (2 : Int))))).b then (T.bool true) else (T.bool (decide ((((a2.fld 1).es).length : Int) > (3 : Int))))).b == false) && true) && true)) then
 bif (bif (bif (bif (decide ((a2.fld 0).i < (0 : Int))) then (T.bool true) else (T.bool (decide ((a2.fld 0).i > (2 : Int))))).b then (T.bool true) else (T.bool (decide ((((a2.fld 1).es).length : Int) > (3 : Int))))).b then true else ((bif (bif (decide ((a2.fld 0).i < (0 : Int))) then (T.bool true) else (T.bool (decide ((a2.fld 0).i > (2 : Int))))).b then (T.bool true) else (T.bool (decide ((((a2.fld 1).es).length : Int) > (3 : Int))))).b == false)) then
 bif ((!((bif (bif (bif (decide ((a2.fld 0).i < (0 : Int))) then (T.bool true) else (T.bool (decide ((a2.fld 0).i > (2 : Int))))).b then (T.bool true) else (T.bool (decide ((((a2.fld 1).es).length : Int) > (3 : Int))))).b then (T.bool true) else (T.bool (decide ((((a2.fld 2).es).length : Int) > (3 : Int))))).b == false)) || true) then
 bif ((!((bif (bif (bif (decide ((a2.fld 0).i < (0 : Int))) then (T.bool true) else (T.bool (decide ((a2.fld 0).i > (2 : Int))))).b then (T.bool true) else (T.bool (decide ((((a2.fld 1).es).length : Int) > (3 : Int))))).b then (T.bool true) else (T.bool (decide ((((a2.fld 2).es).length : Int) > (3 : Int))))).b == false)) || ((bif (bif (bif (decide ((a2.fld 0).i < (0 : Int))) then (T.bool true) else (T.bool (decide ((a2.fld 0).i > (2 : Int))))).b then (T.bool true) else (T.bool (decide ((((a2.fld 1).es).length : Int) > (3 : Int))))).b then (T.bool true) else (T.bool (decide ((((a2.fld 2).es).length : Int) > (3 : Int))))).b == false)) then
 bif ((!((bif (bif (bif (decide ((a2.fld 0).i < (0 : Int))) then (T.bool true) else (T.bool (decide ((a2.fld 0).i > (2 : Int))))).b then (T.bool true) else (T.bool (decide ((((a2.fld 1).es).length : Int) > (3 : Int))))).b then (T.bool true) else (T.bool (decide ((((a2.fld 2).es).length : Int) > (3 : Int))))).b == false)) || ((bif (bif (bif (decide ((a2.fld 0).i < (0 : Int))) then (T.bool true) else (T.bool (decide ((a2.fld 0).i > (2 : Int))))).b then (T.bool true) else (T.bool (decide ((((a2.fld 1).es).length : Int) > (3 : Int))))).b then (T.bool true) else (T.bool (decide ((((a2.fld 2).es).length : Int) > (3 : Int))))).b == false)) then
 bif ((!((bif (bif (bif (decide ((a2.fld 0).i < (0 : Int))) then (T.bool true) else (T.bool (decide ((a2.fld 0).i > (2 : Int))))).b then (T.bool true) else (T.bool (decide ((((a2.fld 1).es).length : Int) > (3 : Int))))).b then (T.bool true) else (T.bool (decide ((((a2.fld 2).es).length : Int) > (3 : Int))))).b == false)) || true) then
 bif ((!((bif (bif (bif (decide ((a2.fld 0).i < (0 : Int))) then (T.bool true) else (T.bool (decide ((a2.fld 0).i > (2 : Int))))).b then (T.bool true) else (T.bool (decide ((((a2.fld 1).es).length : Int) > (3 : Int))))).b then (T.bool true) else (T.bool (decide ((((a2.fld 2).es).length : Int) > (3 : Int))))).b == false)) || ((bif (bif (bif (decide ((a2.fld 0).i < (0 : Int))) then (T.bool true) else (T.bool (decide ((a2.fld 0).i > (2 : Int))))).b then (T.bool true) else (T.bool (decide ((((a2.fld 1).es).length : Int) > (3 : Int))))).b then (T.bool true) else (T.bool (decide ((((a2.fld 2).es).length : Int) > (3 : Int))))).b == false)) then
 bif ((!((bif (bif (bif (decide ((a2.fld 0).i < (0 : Int))) then (T.bool true) else (T.bool (decide ((a2.fld 0).i > (2 : Int))))).b then (T.bool true) else (T.bool (decide ((((a2.fld 1).es).length : Int) > (3 : Int))))).b then (T.bool true) else (T.bool (decide ((((a2.fld 2).es).length : Int) > (3 : Int))))).b == false)) || ((bif (bif (bif (decide ((a2.fld 0).i < (0 : Int))) then (T.bool true) else (T.bool (decide ((a2.fld 0).i > (2 : Int))))).b then (T.bool true) else (T.bool (decide ((((a2.fld 1).es).length : Int) > (3 : Int))))).b then (T.bool true) else (T.bool (decide ((((a2.fld 2).es).length : Int) > (3 : Int))))).b == false)) then
 bif ((!((bif (bif (bif (decide ((a2.fld 0).i < (0 : Int))) then (T.bool true) else (T.bool (decide ((a2.fld 0).i > (2 : Int))))).b then (T.bool true) else (T.bool (decide ((((a2.fld 1).es).length : Int) > (3 : Int))))).b then (T.bool true) else (T.bool (decide ((((a2.fld 2).es).length : Int) > (3 : Int))))).b == false)) || ((((bif (bif (bif (decide ((a2.fld 0).i < (0 : Int))) then (T.bool true) else (T.bool (decide ((a2.fld 0).i > (2 : Int))))).b then (T.bool true) else (T.bool (decide ((((a2.fld 1).es).length : Int) > (3 : Int))))).b then (T.bool true) else (T.bool (decide ((((a2.fld 2).es).length : Int) > (3 : Int))))).b == false) && ((bif (bif (bif (decide ((a2.fld 0).i < (0 : Int))) then (T.bool true) else (T.bool (decide ((a2.fld 0).i > (2 : Int))))).b then (T.bool true) else (T.bool (decide ((((a2.fld 1).es).length : Int) > (3 : Int))))).b then (T.bool true) else (T.bool (decide ((((a2.fld 2).es).length : Int) > (3 : Int))))).b == false)) && true)) then
 bif ((!((bif (bif (bif (decide ((a2.fld 0).i < (0 : Int))) then (T.bool true) else (T.bool (decide ((a2.fld 0).i > (2 : Int))))).b then (T.bool true) else (T.bool (decide ((((a2.fld 1).es).length : Int) > (3 : Int))))).b then (T.bool true) else (T.bool (decide ((((a2.fld 2).es).length : Int) > (3 : Int))))).b == false)) || ((((bif (bif (bif (decide ((a2.fld 0).i < (0 : Int))) then (T.bool true) else (T.bool (decide ((a2.fld 0).i > (2 : Int))))).b then (T.bool true) else (T.bool (decide ((((a2.fld 1).es).length : Int) > (3 : Int))))).b then (T.bool true) else (T.bool (decide ((((a2.fld 2).es).length : Int) > (3 : Int))))).b == false) && true) && true)) then
 bif (bif (bif (bif (bif (decide ((a2.fld 0).i < (0 : Int))) then (T.bool true) else (T.bool (decide ((a2.fld 0).i > (2 : Int))))).b then (T.bool true) else (T.bool (decide ((((a2.fld 1).es).length : Int) > (3 : Int))))).b then (T.bool true) else (T.bool (decide ((((a2.fld 2).es).length : Int) > (3 : Int))))).b then true else ((bif (bif (bif (decide ((a2.fld 0).i < (0 : Int))) then (T.bool true) else (T.bool (decide ((a2.fld 0).i > (2 : Int))))).b then (T.bool true) else (T.bool (decide ((((a2.fld 1).es).length : Int) > (3 : Int))))).b then (T.bool true) else (T.bool (decide ((((a2.fld 2).es).length : Int) > (3 : Int))))).b == false)) then
 bif (bif (bif (bif (bif (decide ((a2.fld 0).i < (0 : Int))) then (T.bool true) else (T.bool (decide ((a2.fld 0).i > (2 : Int))))).b then (T.bool true) else (T.bool (decide ((((a2.fld 1).es).length : Int) > (3 : Int))))).b then (T.bool true) else (T.bool (decide ((((a2.fld 2).es).length : Int) > (3 : Int))))).b then (T.bool true) else (T.bool (decide ((IntKind.wrap .i64 ((((a2.fld 1).es).length : Int) + (((a2.fld 3).es).length : Int))) > (6 : Int))))).b then
 some [(T.bool false)]
 else
 obind (C F_impl_typesFit [a0, (a2.fld 1)]) fun r1 =>
 bif ((!((!(rt r1 0).b) == false)) || true) then
 bif ((!((!(rt r1 0).b) == false)) || true) then
 bif ((!((!(rt r1 0).b) == false)) || ((!(rt r1 0).b) == false)) then
 bif ((!((!(rt r1 0).b) == false)) || (((!(rt r1 0).b) == false) && (((!(rt r1 0).b) == false) && true))) then
 obind ((bif ((!(rt r1 0).b) == false) then C F_impl_typesFit [a0, (a2.fld 2)] else some [])) fun r2 =>
 bif ((!((!(rt r1 0).b) == false)) || ((!(rt r1 0).b) == false)) then
 bif (bif (!(rt r1 0).b) then true else ((!(rt r1 0).b) == false)) then
 bif ((!((bif (!(rt r1 0).b) then (T.bool true) else (T.bool (!(rt r2 0).b))).b == false)) || true) then
 bif ((!((bif (!(rt r1 0).b) then (T.bool true) else (T.bool (!(rt r2 0).b))).b == false)) || true) then
 bif ((!((bif (!(rt r1 0).b) then (T.bool true) else (T.bool (!(rt r2 0).b))).b == false)) || ((bif (!(rt r1 0).b) then (T.bool true) else (T.bool (!(rt r2 0).b))).b == false)) then
 bif ((!((bif (!(rt r1 0).b) then (T.bool true) else (T.bool (!(rt r2 0).b))).b == false)) || (((bif (!(rt r1 0).b) then (T.bool true) else (T.bool (!(rt r2 0).b))).b == false) && (((bif (!(rt r1 0).b) then (T.bool true) else (T.bool (!(rt r2 0).b))).b == false) && true))) then
 obind ((bif ((bif (!(rt r1 0).b) then (T.bool true) else (T.bool (!(rt r2 0).b))).b == false) then C F_impl_typesFit [a0, (a2.fld 3)] else some [])) fun r3 =>
 bif ((!((bif (!(rt r1 0).b) then (T.bool true) else (T.bool (!(rt r2 0).b))).b == false)) || ((bif (!(rt r1 0).b) then (T.bool true) else (T.bool (!(rt r2 0).b))).b == false)) then
 bif (bif (bif (!(rt r1 0).b) then (T.bool true) else (T.bool (!(rt r2 0).b))).b then true else ((bif (!(rt r1 0).b) then (T.bool true) else (T.bool (!(rt r2 0).b))).b == false)) then
 bif ((!((bif (bif (!(rt r1 0).b) then (T.bool true) else (T.bool (!(rt r2 0).b))).b then (T.bool true) else (T.bool (!(rt r3 0).b))).b == false)) || true) then
 bif ((!((bif (bif (!(rt r1 0).b) then (T.bool true) else (T.bool (!(rt r2 0).b))).b then (T.bool true) else (T.bool (!(rt r3 0).b))).b == false)) || ((bif (bif (!(rt r1 0).b) then (T.bool true) else (T.bool (!(rt r2 0).b))).b then (T.bool true) else (T.bool (!(rt r3 0).b))).b == false)) then
 bif ((!((bif (bif (!(rt r1 0).b) then (T.bool true) else (T.bool (!(rt r2 0).b))).b then (T.bool true) else (T.bool (!(rt r3 0).b))).b == false)) || true) then
 bif ((!((bif (bif (!(rt r1 0).b) then (T.bool true) else (T.bool (!(rt r2 0).b))).b then (T.bool true) else (T.bool (!(rt r3 0).b))).b == false)) || true) then
 bif ((!((bif (bif (!(rt r1 0).b) then (T.bool true) else (T.bool (!(rt r2 0).b))).b then (T.bool true) else (T.bool (!(rt r3 0).b))).b == false)) || ((((bif (bif (!(rt r1 0).b) then (T.bool true) else (T.bool (!(rt r2 0).b))).b then (T.bool true) else (T.bool (!(rt r3 0).b))).b == false) && (((bif (bif (!(rt r1 0).b) then (T.bool true) else (T.bool (!(rt r2 0).b))).b then (T.bool true) else (T.bool (!(rt r3 0).b))).b == false) && true)) && (decide (0 ≤ a1.i) && decide (a1.i.toNat < a0.es.length)))) then
 bif ((!((bif (bif (!(rt r1 0).b) then (T.bool true) else (T.bool (!(rt r2 0).b))).b then (T.bool true) else (T.bool (!(rt r3 0).b))).b == false)) || ((bif (bif (!(rt r1 0).b) then (T.bool true) else (T.bool (!(rt r2 0).b))).b then (T.bool true) else (T.bool (!(rt r3 0).b))).b == false)) then
 bif ((!((bif (bif (!(rt r1 0).b) then (T.bool true) else (T.bool (!(rt r2 0).b))).b then (T.bool true) else (T.bool (!(rt r3 0).b))).b == false)) || ((bif (bif (!(rt r1 0).b) then (T.bool true) else (T.bool (!(rt r2 0).b))).b then (T.bool true) else (T.bool (!(rt r3 0).b))).b == false)) then
 bif ((!((bif (bif (!(rt r1 0).b) then (T.bool true) else (T.bool (!(rt r2 0).b))).b then (T.bool true) else (T.bool (!(rt r3 0).b))).b == false)) || ((((bif (bif (!(rt r1 0).b) then (T.bool true) else (T.bool (!(rt r2 0).b))).b then (T.bool true) else (T.bool (!(rt r3 0).b))).b == false) && true) && true)) then
 bif ((!((bif (bif (!(rt r1 0).b) then (T.bool true) else (T.bool (!(rt r2 0).b))).b then (T.bool true) else (T.bool (!(rt r3 0).b))).b == false)) || (((bif (bif (!(rt r1 0).b) then (T.bool true) else (T.bool (!(rt r2 0).b))).b then (T.bool true) else (T.bool (!(rt r3 0).b))).b == false) && (((bif (bif (!(rt r1 0).b) then (T.bool true) else (T.bool (!(rt r2 0).b))).b then (T.bool true) else (T.bool (!(rt r3 0).b))).b == false) && true))) then
 obind ((bif ((bif (bif (!(rt r1 0).b) then (T.bool true) else (T.bool (!(rt r2 0).b))).b then (T.bool true) else (T.bool (!(rt r3 0).b))).b == false) then C F_impl_rising [(a2.fld 4), (T.int (0 : Int)), (T.int (IntKind.wrap .i64 ((((a0.nth a1.i.toNat).es).length : Int) - (1 : Int))))] else some [])) fun r4 =>
 bif ((!((bif (bif (!(rt r1 0).b) then (T.bool true) else (T.bool (!(rt r2 0).b))).b then (T.bool true) else (T.bool (!(rt r3 0).b))).b == false)) || ((bif (bif (!(rt r1 0).b) then (T.bool true) else (T.bool (!(rt r2 0).b))).b then (T.bool true) else (T.bool (!(rt r3 0).b))).b == false)) then
 bif (bif (bif (bif (!(rt r1 0).b) then (T.bool true) else (T.bool (!(rt r2 0).b))).b then (T.bool true) else (T.bool (!(rt r3 0).b))).b then true else ((bif (bif (!(rt r1 0).b) then (T.bool true) else (T.bool (!(rt r2 0).b))).b then (T.bool true) else (T.bool (!(rt r3 0).b))).b == false)) then
 bif (bif (bif (bif (!(rt r1 0).b) then (T.bool true) else (T.bool (!(rt r2 0).b))).b then (T.bool true) else (T.bool (!(rt r3 0).b))).b then (T.bool true) else (T.bool (!(rt r4 0).b))).b then
 some [(T.bool false)]
 else
 l_impl_funcShape_0 H a1 (a2.fld 5) (T.int (((a2.fld 5).es).length : Int)) (T.int (0 : Int)) a2
 else
 none
 else
 none
 else
 none
 else
 none
 else
 none
 else
 none
 else
 none
 else
 none
 else
 none
 else
 none
 else
 none
 else
 none
 else
 none
 else
 none
 else
 none
 else
 none
 else
 none
 else
 none
 else
 none
 else
 none
 else
 none
 else
 none
 else
 none
 else
 none
 else
 none
 else
 none
 else
 none
 else
 none
 else
 none
 else
 none
 else
 none
 else
 none
 else
 none
 else
 none
 else
 none
 else
 none
 else
 none
 else
 none
 else
 none
 else
 none
 else
 none
 else
 none
 else
 none
 else
 none
 else
 none
 else
 none := by kernel_rfl
theorem q_impl_funcShape (H : List Item → CS → R) (C : CallsE) (a0 a1 a2 : T) : enterE fi_impl_funcShape env H C [a0, a1, a2] = b_impl_funcShape H C a0 a1 a2 := by
 refine (e_impl_funcShape H C a0 a1 a2).trans ?_
 unfold b_impl_funcShape
 all_goals cases hc : ((decide ((a2.fld 0).i < (0 : Int)))) with
 | true =>
  try simp only [bs]
  all_goals kernel_rfl
 | false =>
  try simp only [bs]
  all_goals cases hc : ((decide ((a2.fld 0).i > (2 : Int)))) with
  | true =>
   try simp only [bs]
   all_goals kernel_rfl
  | false =>
   try simp only [bs]
   all_goals cases hc : ((decide ((((a2.fld 1).es).length : Int) > (3 : Int)))) with
   | true =>
    try simp only [bs]
    all_goals kernel_rfl
   | false =>
    try simp only [bs]
    all_goals cases hc : ((decide ((((a2.fld 2).es).length : Int) > (3 : Int)))) with
    | true =>
     try simp only [bs]
     all_goals kernel_rfl
    | false =>
     try simp only [bs]
     all_goals cases hc : ((decide ((IntKind.wrap .i64 ((((a2.fld 1).es).length : Int) + (((a2.fld 3).es).length : Int))) > (6 : Int)))) with
     | true =>
      try simp only [bs]
      all_goals kernel_rfl
     | false =>
      try simp only [bs]
      all_goals refine obind_congr fun r1 => ?_
      all_goals try simp only [bs]
      all_goals cases hc : ((!(rt r1 0).b)) with
      | true =>
       try simp only [bs]
       all_goals kernel_rfl
      | false =>
       try simp only [bs]
       all_goals refine obind_congr fun r2 => ?_
       all_goals try simp only [bs]
       all_goals cases hc : ((!(rt r2 0).b)) with
       | true =>
        try simp only [bs]
        all_goals kernel_rfl
       | false =>
        try simp only [bs]
        all_goals refine obind_congr fun r3 => ?_
        all_goals try simp only [bs]
        all_goals cases hc : ((!(rt r3 0).b)) with
        | true =>
         try simp only [bs]
         all_goals kernel_rfl
        | false =>
         try simp only [bs]
         all_goals cases hc : ((decide (0 ≤ a1.i) && decide (a1.i.toNat < a0.es.length))) with
         | true =>
          try simp only [bs]
          all_goals refine obind_congr fun r4 => ?_
          all_goals try simp only [bs]
          all_goals cases hc : ((!(rt r4 0).b)) with
          | true =>
           try simp only [bs]
           all_goals kernel_rfl
          | false =>
           try simp only [bs]
           all_goals kernel_rfl
         | false =>
          try simp only [bs]
          all_goals kernel_rfl
theorem y_impl_funcShape (a0 a1 a2 : T) {r : List T} (h : Yields (fun k => b_impl_funcShape (hl env k fi_impl_funcShape) (cl env k) a0 a1 a2) r) : Yields (fun k => cl env k F_impl_funcShape [a0, a1, a2]) r := Yields.call (fi := fi_impl_funcShape) rfl rfl (fun H C => q_impl_funcShape H C a0 a1 a2) h
noncomputable abbrev b_impl_funcShape_0 (H : List Item → CS → R) (C : CallsE) (x1 : T) (x2 : T) (x3 : T) (x4 : T) (x5 : T) : R :=
 bif (decide (x4.i < x3.i)) then
 bif (decide (0 ≤ x4.i) && decide (x4.i.toNat < x2.es.length)) then
 obind (C F_impl_InsOk [(x2.nth x4.i.toNat)]) fun r1 =>
 bif (!(rt r1 0).b) then
 some [(T.bool false)]
 else
 bif ((((x2.nth x4.i.toNat).fld 0).s).toList == (⟨#[99, 97, 108, 108]⟩ : ByteArray).toList) then
 bif (decide (((x2.nth x4.i.toNat).fld 1).i > x1.i)) then
 some [(T.bool false)]
 else
 l_impl_funcShape_0 H x1 x2 x3 (T.int (IntKind.wrap .i64 (x4.i + (1 : Int)))) x5
 else
 l_impl_funcShape_0 H x1 x2 x3 (T.int (IntKind.wrap .i64 (x4.i + (1 : Int)))) x5
 else
 none
 else
 bif (decide ((((x5.fld 5).es).length : Int) ≥ (1 : Int))) then
 some [(T.bool (decide ((((x5.fld 5).es).length : Int) ≤ (40 : Int))))]
 else
 some [(T.bool false)]
theorem e_impl_funcShape_0 (H : List Item → CS → R) (C : CallsE) (x1 : T) (x2 : T) (x3 : T) (x4 : T) (x5 : T) : headE fi_impl_funcShape env H C (hdAt fi_impl_funcShape.body 0) ([(1, .val 3 x1), (5, .pref 59 5 []), (71, .val 57 x2), (72, .val 3 x3), (73, .val 3 x4)], [(5, ⟨59, x5, .fz, true⟩)]) =
 bif (decide (x4.i < x3.i)) then
 bif (decide (0 ≤ x4.i) && decide (x4.i.toNat < x2.es.length)) then
 obind (C F_impl_InsOk [(x2.nth x4.i.toNat)]) fun r1 =>
 bif ((!((!(rt r1 0).b) == false)) || true) then
 bif ((!((!(rt r1 0).b) == false)) || ((!(rt r1 0).b) == false)) then
 bif ((!((!(rt r1 0).b) == false)) || ((((!(rt r1 0).b) == false) && true) && true)) then
 bif ((!((!(rt r1 0).b) == false)) || ((!(rt r1 0).b) == false)) then
 bif ((!(((!(rt r1 0).b) == false) && (((((x2.nth x4.i.toNat).fld 0).s).toList == (⟨#[99, 97, 108, 108]⟩ : ByteArray).toList) == true))) || true) then
 bif ((!(((!(rt r1 0).b) == false) && (((((x2.nth x4.i.toNat).fld 0).s).toList == (⟨#[99, 97, 108, 108]⟩ : ByteArray).toList) == true))) || (((!(rt r1 0).b) == false) && (((((x2.nth x4.i.toNat).fld 0).s).toList == (⟨#[99, 97, 108, 108]⟩ : ByteArray).toList) == true))) then
 bif ((!(((!(rt r1 0).b) == false) && (((((x2.nth x4.i.toNat).fld 0).s).toList == (⟨#[99, 97, 108, 108]⟩ : ByteArray).toList) == true))) || true) then
 bif ((!(((!(rt r1 0).b) == false) && (((((x2.nth x4.i.toNat).fld 0).s).toList == (⟨#[99, 97, 108, 108]⟩ : ByteArray).toList) == true))) || (((((!(rt r1 0).b) == false) && (((((x2.nth x4.i.toNat).fld 0).s).toList == (⟨#[99, 97, 108, 108]⟩ : ByteArray).toList) == true)) && (((!(rt r1 0).b) == false) && (((((x2.nth x4.i.toNat).fld 0).s).toList == (⟨#[99, 97, 108, 108]⟩ : ByteArray).toList) == true))) && true)) then
 bif ((!((!(rt r1 0).b) == false)) || (((!(rt r1 0).b) == false) && (bif ((((x2.nth x4.i.toNat).fld 0).s).toList == (⟨#[99, 97, 108, 108]⟩ : ByteArray).toList) then (((!(rt r1 0).b) == false) && (((((x2.nth x4.i.toNat).fld 0).s).toList == (⟨#[99, 97, 108, 108]⟩ : ByteArray).toList) == true)) else true))) then
 bif (bif (!(rt r1 0).b) then true else ((!(rt r1 0).b) == false)) then
 bif (bif (!(rt r1 0).b) then (T.bool true) else (bif ((((x2.nth x4.i.toNat).fld 0).s).toList == (⟨#[99, 97, 108, 108]⟩ : ByteArray).toList) then (T.bool (decide (((x2.nth x4.i.toNat).fld 1).i > x1.i))) else (T.bool false))).b then
 some [(T.bool false)]
 else
 l_impl_funcShape_0 H x1 x2 x3 (T.int (IntKind.wrap .i64 (x4.i + (1 : Int)))) x5
 else
 none
 else
 none
 else
 none
 else
 none
 else
 none
 else
 none
 else
 none
 else
 none
 else
 none
 else
 none
 else
 none
 else
 bif ((!((decide ((((x5.fld 5).es).length : Int) ≥ (1 : Int))) == true)) || true) then
 bif ((!((decide ((((x5.fld 5).es).length : Int) ≥ (1 : Int))) == true)) || ((decide ((((x5.fld 5).es).length : Int) ≥ (1 : Int))) == true)) then
 bif ((!((decide ((((x5.fld 5).es).length : Int) ≥ (1 : Int))) == true)) || ((decide ((((x5.fld 5).es).length : Int) ≥ (1 : Int))) == true)) then
 bif ((!((decide ((((x5.fld 5).es).length : Int) ≥ (1 : Int))) == true)) || ((((decide ((((x5.fld 5).es).length : Int) ≥ (1 : Int))) == true) && true) && true)) then
 bif (bif (decide ((((x5.fld 5).es).length : Int) ≥ (1 : Int))) then ((decide ((((x5.fld 5).es).length : Int) ≥ (1 : Int))) == true) else true) then
 some [(bif (decide ((((x5.fld 5).es).length : Int) ≥ (1 : Int))) then (T.bool (decide ((((x5.fld 5).es).length : Int) ≤ (40 : Int)))) else (T.bool false))]
 else
 none
 else
 none
 else
 none
 else
 none
 else
 none := by kernel_rfl
theorem q_impl_funcShape_0 (H : List Item → CS → R) (C : CallsE) (x1 : T) (x2 : T) (x3 : T) (x4 : T) (x5 : T) : headE fi_impl_funcShape env H C (hdAt fi_impl_funcShape.body 0) ([(1, .val 3 x1), (5, .pref 59 5 []), (71, .val 57 x2), (72, .val 3 x3), (73, .val 3 x4)], [(5, ⟨59, x5, .fz, true⟩)]) = b_impl_funcShape_0 H C x1 x2 x3 x4 x5 := by
 refine (e_impl_funcShape_0 H C x1 x2 x3 x4 x5).trans ?_
 unfold b_impl_funcShape_0
 all_goals cases hc : ((decide (x4.i < x3.i))) with
 | true =>
  try simp only [bs]
  all_goals cases hc : ((decide (0 ≤ x4.i) && decide (x4.i.toNat < x2.es.length))) with
  | true =>
   try simp only [bs]
   all_goals refine obind_congr fun r1 => ?_
   all_goals try simp only [bs]
   all_goals cases hc : ((!(rt r1 0).b)) with
   | true =>
    try simp only [bs]
    all_goals cases hc : (((((x2.nth x4.i.toNat).fld 0).s).toList == (⟨#[99, 97, 108, 108]⟩ : ByteArray).toList)) with
    | true =>
     try simp only [bs]
     all_goals kernel_rfl
    | false =>
     try simp only [bs]
     all_goals kernel_rfl
   | false =>
    try simp only [bs]
    all_goals cases hc : (((((x2.nth x4.i.toNat).fld 0).s).toList == (⟨#[99, 97, 108, 108]⟩ : ByteArray).toList)) with
    | true =>
     try simp only [bs]
     all_goals cases hc : ((decide (((x2.nth x4.i.toNat).fld 1).i > x1.i))) with
     | true =>
      try simp only [bs]
      all_goals kernel_rfl
     | false =>
      try simp only [bs]
      all_goals kernel_rfl
    | false =>
     try simp only [bs]
     all_goals kernel_rfl
  | false =>
   try simp only [bs]
   all_goals kernel_rfl
 | false =>
  try simp only [bs]
  all_goals cases hc : ((decide ((((x5.fld 5).es).length : Int) ≥ (1 : Int)))) with
  | true =>
   try simp only [bs]
   all_goals kernel_rfl
  | false =>
   try simp only [bs]
   all_goals kernel_rfl
theorem y_impl_funcShape_0 (x1 : T) (x2 : T) (x3 : T) (x4 : T) (x5 : T) {r : List T} (h : Yields (fun k => b_impl_funcShape_0 (hl env k fi_impl_funcShape) (cl env k) x1 x2 x3 x4 x5) r) : Yields (fun k => l_impl_funcShape_0 (hl env k fi_impl_funcShape) x1 x2 x3 x4 x5) r := Yields.head (fun H C => q_impl_funcShape_0 H C x1 x2 x3 x4 x5) h
noncomputable def l_impl_copyRecords_0 (H : List Item → CS → R) (x1 : T) (x2 : T) (x3 : T) (x4 : T) : R := H (hdAt fi_impl_copyRecords.body 0) ([(3, .sref 60 3 []), (7, .val 60 x1), (8, .val 3 x2), (9, .val 3 x3)], [(3, ⟨60, x4, (.sl .dp), false⟩)])
/- loop.example/heirlooms/impl.copyRecords -/
noncomputable abbrev b_impl_copyRecords (H : List Item → CS → R) (C : CallsE) (a0 : T) : R :=
 l_impl_copyRecords_0 H a0 (T.int (a0.es.length : Int)) (T.int (0 : Int)) (T.sl [])
theorem q_impl_copyRecords (H : List Item → CS → R) (C : CallsE) (a0 : T) : enterE fi_impl_copyRecords env H C [a0] = b_impl_copyRecords H C a0 := by kernel_rfl
theorem y_impl_copyRecords (a0 : T) {r : List T} (h : Yields (fun k => b_impl_copyRecords (hl env k fi_impl_copyRecords) (cl env k) a0) r) : Yields (fun k => cl env k F_impl_copyRecords [a0]) r := Yields.call (fi := fi_impl_copyRecords) rfl rfl (fun H C => q_impl_copyRecords H C a0) h
noncomputable abbrev b_impl_copyRecords_0 (H : List Item → CS → R) (C : CallsE) (x1 : T) (x2 : T) (x3 : T) (x4 : T) : R :=
 bif (decide (x3.i < x2.i)) then
 bif (decide (0 ≤ x3.i) && decide (x3.i.toNat < x1.es.length)) then
 obind (C F_impl_copyTexts [((x1.nth x3.i.toNat).fld 1)]) fun r1 =>
 bif (decide (x4.es.length + [(T.st [((x1.nth x3.i.toNat).fld 0), (rt r1 0)])].length ≤ LIM)) then
 l_impl_copyRecords_0 H x1 x2 (T.int (IntKind.wrap .i64 (x3.i + (1 : Int)))) (T.sl (x4.es ++ [(T.st [((x1.nth x3.i.toNat).fld 0), (rt r1 0)])]))
 else
 none
 else
 none
 else
 obind (C F_slices_Clip_impl_Record [x4]) fun r1 =>
 some [(T.sl ((x4.es.take x4.es.length).drop 0))]
theorem e_impl_copyRecords_0 (H : List Item → CS → R) (C : CallsE) (x1 : T) (x2 : T) (x3 : T) (x4 : T) : headE fi_impl_copyRecords env H C (hdAt fi_impl_copyRecords.body 0) ([(3, .sref 60 3 []), (7, .val 60 x1), (8, .val 3 x2), (9, .val 3 x3)], [(3, ⟨60, x4, (.sl .dp), false⟩)]) =
 bif (decide (x3.i < x2.i)) then
 bif (decide (0 ≤ x3.i) && decide (x3.i.toNat < x1.es.length)) then
 obind (C F_impl_copyTexts [((x1.nth x3.i.toNat).fld 1)]) fun r1 =>
 bif (decide (x4.es.length + [(T.st [((x1.nth x3.i.toNat).fld 0), (rt r1 0)])].length ≤ LIM)) then
 l_impl_copyRecords_0 H x1 x2 (T.int (IntKind.wrap .i64 (x3.i + (1 : Int)))) (T.sl (x4.es ++ [(T.st [((x1.nth x3.i.toNat).fld 0), (rt r1 0)])]))
 else
 none
 else
 none
 else
 obind (C F_slices_Clip_impl_Record [x4]) fun r2 =>
 some [(T.sl ((x4.es.take x4.es.length).drop 0))] := by kernel_rfl
theorem q_impl_copyRecords_0 (H : List Item → CS → R) (C : CallsE) (x1 : T) (x2 : T) (x3 : T) (x4 : T) : headE fi_impl_copyRecords env H C (hdAt fi_impl_copyRecords.body 0) ([(3, .sref 60 3 []), (7, .val 60 x1), (8, .val 3 x2), (9, .val 3 x3)], [(3, ⟨60, x4, (.sl .dp), false⟩)]) = b_impl_copyRecords_0 H C x1 x2 x3 x4 := by
 refine (e_impl_copyRecords_0 H C x1 x2 x3 x4).trans ?_
 unfold b_impl_copyRecords_0
 all_goals cases hc : ((decide (x3.i < x2.i))) with
 | true =>
  try simp only [bs]
  all_goals cases hc : ((decide (0 ≤ x3.i) && decide (x3.i.toNat < x1.es.length))) with
  | true =>
   try simp only [bs]
   all_goals refine obind_congr fun r1 => ?_
   all_goals try simp only [bs]
   all_goals cases hc : ((decide (x4.es.length + [(T.st [((x1.nth x3.i.toNat).fld 0), (rt r1 0)])].length ≤ LIM))) with
   | true =>
    try simp only [bs]
    all_goals kernel_rfl
   | false =>
    try simp only [bs]
    all_goals kernel_rfl
  | false =>
   try simp only [bs]
   all_goals kernel_rfl
 | false =>
  try simp only [bs]
  all_goals refine obind_congr fun r1 => ?_
  all_goals try simp only [bs]
  all_goals kernel_rfl
theorem y_impl_copyRecords_0 (x1 : T) (x2 : T) (x3 : T) (x4 : T) {r : List T} (h : Yields (fun k => b_impl_copyRecords_0 (hl env k fi_impl_copyRecords) (cl env k) x1 x2 x3 x4) r) : Yields (fun k => l_impl_copyRecords_0 (hl env k fi_impl_copyRecords) x1 x2 x3 x4) r := Yields.head (fun H C => q_impl_copyRecords_0 H C x1 x2 x3 x4) h
/- slices.Clip[[][]loop.example/heirlooms/impl.Record,[]loop.example/heirlooms/impl.Record] -/
noncomputable abbrev b_slices_Clip_s_impl_Record (H : List Item → CS → R) (C : CallsE) (a0 : T) : R :=
 bif (decide (0 ≤ (0 : Int)) && (decide ((0 : Int) ≤ (a0.es.length : Int)) && (decide ((a0.es.length : Int) ≤ (a0.es.length : Int)) && decide ((a0.es.length : Int) ≤ (a0.es.length : Int))))) then
 some [(T.sl ((a0.es.take a0.es.length).drop 0))]
 else
 none
theorem q_slices_Clip_s_impl_Record (H : List Item → CS → R) (C : CallsE) (a0 : T) : enterE fi_slices_Clip_s_impl_Record env H C [a0] = b_slices_Clip_s_impl_Record H C a0 := by kernel_rfl
theorem y_slices_Clip_s_impl_Record (a0 : T) {r : List T} (h : Yields (fun k => b_slices_Clip_s_impl_Record (hl env k fi_slices_Clip_s_impl_Record) (cl env k) a0) r) : Yields (fun k => cl env k F_slices_Clip_s_impl_Record [a0]) r := Yields.call (fi := fi_slices_Clip_s_impl_Record) rfl rfl (fun H C => q_slices_Clip_s_impl_Record H C a0) h
/- loop.example/heirlooms/impl.copyFunc -/
noncomputable abbrev b_impl_copyFunc (H : List Item → CS → R) (C : CallsE) (a0 : T) : R :=
 bif (decide (([] : List T).length + ((a0.fld 5).es).length ≤ LIM)) then
 obind (C F_slices_Clip_impl_Ins [(T.sl (([] : List T) ++ (a0.fld 5).es))]) fun r1 =>
 obind (C F_impl_copyTexts [(a0.fld 1)]) fun r2 =>
 obind (C F_impl_copyTexts [(a0.fld 2)]) fun r3 =>
 obind (C F_impl_copyTexts [(a0.fld 3)]) fun r4 =>
 obind (C F_impl_copyInts [(a0.fld 4)]) fun r5 =>
 some [(T.st [(a0.fld 0), (rt r2 0), (rt r3 0), (rt r4 0), (rt r5 0), (T.sl (((([] : List T) ++ (a0.fld 5).es).take ((([] : List T) ++ (a0.fld 5).es).length)).drop 0))])]
 else
 none
theorem q_impl_copyFunc (H : List Item → CS → R) (C : CallsE) (a0 : T) : enterE fi_impl_copyFunc env H C [a0] = b_impl_copyFunc H C a0 := by kernel_rfl
theorem y_impl_copyFunc (a0 : T) {r : List T} (h : Yields (fun k => b_impl_copyFunc (hl env k fi_impl_copyFunc) (cl env k) a0) r) : Yields (fun k => cl env k F_impl_copyFunc [a0]) r := Yields.call (fi := fi_impl_copyFunc) rfl rfl (fun H C => q_impl_copyFunc H C a0) h
/- loop.example/heirlooms/impl.keepable -/
noncomputable abbrev b_impl_keepable (H : List Item → CS → R) (C : CallsE) (a0 a1 : T) : R :=
 obind (C F_impl_kindIn [a0, (a1.fld 0)]) fun r1 =>
 bif (rt r1 0).b then
 obind (C F_impl_recordOf [a0, (a1.fld 0)]) fun r2 =>
 bif ((IntKind.wrap .i64 ((BitVec.ofInt (IntKind.i64).bits (((rt r2 0).fld 0).i) &&& BitVec.ofInt (IntKind.i64).bits (8 : Int)).toNat : Nat)) != (0 : Int)) then
 obind (C F_impl_valueFits [a0, a1]) fun r3 =>
 some [(rt r3 0)]
 else
 some [(T.bool false)]
 else
 some [(T.bool false)]
theorem e_impl_keepable (H : List Item → CS → R) (C : CallsE) (a0 a1 : T) : enterE fi_impl_keepable env H C [a0, a1] =
 obind (C F_impl_kindIn [a0, (a1.fld 0)]) fun r1 =>
 bif ((!((rt r1 0).b == true)) || true) then
 bif ((!((rt r1 0).b == true)) || true) then
 bif ((!((rt r1 0).b == true)) || ((rt r1 0).b == true)) then
 bif ((!((rt r1 0).b == true)) || (((rt r1 0).b == true) && (((rt r1 0).b == true) && true))) then
 obind ((bif ((rt r1 0).b == true) then C F_impl_recordOf [a0, (a1.fld 0)] else some [])) fun r2 =>
 bif ((!((rt r1 0).b == true)) || ((rt r1 0).b == true)) then
 bif ((!((rt r1 0).b == true)) || ((((rt r1 0).b == true) && true) && true)) then
 bif ((!((rt r1 0).b == true)) || ((((rt r1 0).b == true) && true) && true)) then
 bif (bif (rt r1 0).b then ((rt r1 0).b == true) else true) then
 bif ((!((bif (rt r1 0).b then (T.bool ((IntKind.wrap .i64 ((BitVec.ofInt (IntKind.i64).bits (((rt r2 0).fld 0).i) &&& BitVec.ofInt (IntKind.i64).bits (8 : Int)).toNat : Nat)) != (0 : Int))) else (T.bool false)).b == true)) || true) then
 bif ((!((bif (rt r1 0).b then (T.bool ((IntKind.wrap .i64 ((BitVec.ofInt (IntKind.i64).bits (((rt r2 0).fld 0).i) &&& BitVec.ofInt (IntKind.i64).bits (8 : Int)).toNat : Nat)) != (0 : Int))) else (T.bool false)).b == true)) || true) then
 bif ((!((bif (rt r1 0).b then (T.bool ((IntKind.wrap .i64 ((BitVec.ofInt (IntKind.i64).bits (((rt r2 0).fld 0).i) &&& BitVec.ofInt (IntKind.i64).bits (8 : Int)).toNat : Nat)) != (0 : Int))) else (T.bool false)).b == true)) || (((bif (rt r1 0).b then (T.bool ((IntKind.wrap .i64 ((BitVec.ofInt (IntKind.i64).bits (((rt r2 0).fld 0).i) &&& BitVec.ofInt (IntKind.i64).bits (8 : Int)).toNat : Nat)) != (0 : Int))) else (T.bool false)).b == true) && (((bif (rt r1 0).b then (T.bool ((IntKind.wrap .i64 ((BitVec.ofInt (IntKind.i64).bits (((rt r2 0).fld 0).i) &&& BitVec.ofInt (IntKind.i64).bits (8 : Int)).toNat : Nat)) != (0 : Int))) else (T.bool false)).b == true) && true))) then
 obind ((bif ((bif (rt r1 0).b then (T.bool ((IntKind.wrap .i64 ((BitVec.ofInt (IntKind.i64).bits (((rt r2 0).fld 0).i) &&& BitVec.ofInt (IntKind.i64).bits (8 : Int)).toNat : Nat)) != (0 : Int))) else (T.bool false)).b == true) then C F_impl_valueFits [a0, a1] else some [])) fun r3 =>
 bif (bif (bif (rt r1 0).b then (T.bool ((IntKind.wrap .i64 ((BitVec.ofInt (IntKind.i64).bits (((rt r2 0).fld 0).i) &&& BitVec.ofInt (IntKind.i64).bits (8 : Int)).toNat : Nat)) != (0 : Int))) else (T.bool false)).b then ((bif (rt r1 0).b then (T.bool ((IntKind.wrap .i64 ((BitVec.ofInt (IntKind.i64).bits (((rt r2 0).fld 0).i) &&& BitVec.ofInt (IntKind.i64).bits (8 : Int)).toNat : Nat)) != (0 : Int))) else (T.bool false)).b == true) else true) then
 some [(bif (bif (rt r1 0).b then (T.bool ((IntKind.wrap .i64 ((BitVec.ofInt (IntKind.i64).bits (((rt r2 0).fld 0).i) &&& BitVec.ofInt (IntKind.i64).bits (8 : Int)).toNat : Nat)) != (0 : Int))) else (T.bool false)).b then (rt r3 0) else (T.bool false))]
 else
 none
 else
 none
 else
 none
 else
 none
 else
 none
 else
 none
 else
 none
 else
 none
 else
 none
 else
 none
 else
 none
 else
 none := by kernel_rfl
theorem q_impl_keepable (H : List Item → CS → R) (C : CallsE) (a0 a1 : T) : enterE fi_impl_keepable env H C [a0, a1] = b_impl_keepable H C a0 a1 := by
 refine (e_impl_keepable H C a0 a1).trans ?_
 unfold b_impl_keepable
 all_goals refine obind_congr fun r1 => ?_
 all_goals try simp only [bs]
 all_goals cases hc : ((rt r1 0).b) with
 | true =>
  try simp only [bs]
  all_goals refine obind_congr fun r2 => ?_
  all_goals try simp only [bs]
  all_goals cases hc : (((IntKind.wrap .i64 ((BitVec.ofInt (IntKind.i64).bits (((rt r2 0).fld 0).i) &&& BitVec.ofInt (IntKind.i64).bits (8 : Int)).toNat : Nat)) != (0 : Int))) with
  | true =>
   try simp only [bs]
   all_goals refine obind_congr fun r3 => ?_
   all_goals try simp only [bs]
   all_goals kernel_rfl
  | false =>
   try simp only [bs]
   all_goals kernel_rfl
 | false =>
  try simp only [bs]
  all_goals kernel_rfl
theorem y_impl_keepable (a0 a1 : T) {r : List T} (h : Yields (fun k => b_impl_keepable (hl env k fi_impl_keepable) (cl env k) a0 a1) r) : Yields (fun k => cl env k F_impl_keepable [a0, a1]) r := Yields.call (fi := fi_impl_keepable) rfl rfl (fun H C => q_impl_keepable H C a0 a1) h
/- loop.example/heirlooms/impl.vaultBefore -/
noncomputable abbrev b_impl_vaultBefore (H : List Item → CS → R) (C : CallsE) (a0 a1 : T) : R :=
 bif (decide ((a0.fld 0).i < (a1.fld 0).i)) then
 some [(T.bool true)]
 else
 bif ((a0.fld 0).i == (a1.fld 0).i) then
 some [(T.bool (Op.bytesLess (((a0.fld 1).fld 0).s).toList (((a1.fld 1).fld 0).s).toList))]
 else
 some [(T.bool false)]
theorem e_impl_vaultBefore (H : List Item → CS → R) (C : CallsE) (a0 a1 : T) : enterE fi_impl_vaultBefore env H C [a0, a1] =
 bif ((!((decide ((a0.fld 0).i < (a1.fld 0).i)) == false)) || true) then
 bif ((!((decide ((a0.fld 0).i < (a1.fld 0).i)) == false)) || ((decide ((a0.fld 0).i < (a1.fld 0).i)) == false)) then
 bif ((!((decide ((a0.fld 0).i < (a1.fld 0).i)) == false)) || true) then
 bif ((!((decide ((a0.fld 0).i < (a1.fld 0).i)) == false)) || ((decide ((a0.fld 0).i < (a1.fld 0).i)) == false)) then
 bif ((!((decide ((a0.fld 0).i < (a1.fld 0).i)) == false)) || ((((decide ((a0.fld 0).i < (a1.fld 0).i)) == false) && ((decide ((a0.fld 0).i < (a1.fld 0).i)) == false)) && true)) then
 bif ((!((decide ((a0.fld 0).i < (a1.fld 0).i)) == false)) || ((decide ((a0.fld 0).i < (a1.fld 0).i)) == false)) then
 bif ((!(((decide ((a0.fld 0).i < (a1.fld 0).i)) == false) && (((a0.fld 0).i == (a1.fld 0).i) == true))) || true) then
 bif ((!(((decide ((a0.fld 0).i < (a1.fld 0).i)) == false) && (((a0.fld 0).i == (a1.fld 0).i) == true))) || (((decide ((a0.fld 0).i < (a1.fld 0).i)) == false) && (((a0.fld 0).i == (a1.fld 0).i) == true))) then
 bif ((!(((decide ((a0.fld 0).i < (a1.fld 0).i)) == false) && (((a0.fld 0).i == (a1.fld 0).i) == true))) || (((decide ((a0.fld 0).i < (a1.fld 0).i)) == false) && (((a0.fld 0).i == (a1.fld 0).i) == true))) then
 bif ((!(((decide ((a0.fld 0).i < (a1.fld 0).i)) == false) && (((a0.fld 0).i == (a1.fld 0).i) == true))) || true) then
 bif ((!(((decide ((a0.fld 0).i < (a1.fld 0).i)) == false) && (((a0.fld 0).i == (a1.fld 0).i) == true))) || (((decide ((a0.fld 0).i < (a1.fld 0).i)) == false) && (((a0.fld 0).i == (a1.fld 0).i) == true))) then
 bif ((!(((decide ((a0.fld 0).i < (a1.fld 0).i)) == false) && (((a0.fld 0).i == (a1.fld 0).i) == true))) || (((decide ((a0.fld 0).i < (a1.fld 0).i)) == false) && (((a0.fld 0).i == (a1.fld 0).i) == true))) then
 bif ((!(((decide ((a0.fld 0).i < (a1.fld 0).i)) == false) && (((a0.fld 0).i == (a1.fld 0).i) == true))) || (((((decide ((a0.fld 0).i < (a1.fld 0).i)) == false) && (((a0.fld 0).i == (a1.fld 0).i) == true)) && (((decide ((a0.fld 0).i < (a1.fld 0).i)) == false) && (((a0.fld 0).i == (a1.fld 0).i) == true))) && true)) then
 bif ((!((decide ((a0.fld 0).i < (a1.fld 0).i)) == false)) || (((decide ((a0.fld 0).i < (a1.fld 0).i)) == false) && (bif ((a0.fld 0).i == (a1.fld 0).i) then (((decide ((a0.fld 0).i < (a1.fld 0).i)) == false) && (((a0.fld 0).i == (a1.fld 0).i) == true)) else true))) then
 bif (bif (decide ((a0.fld 0).i < (a1.fld 0).i)) then true else ((decide ((a0.fld 0).i < (a1.fld 0).i)) == false)) then
 some [(bif (decide ((a0.fld 0).i < (a1.fld 0).i)) then (T.bool true) else (bif ((a0.fld 0).i == (a1.fld 0).i) then (T.bool (Op.bytesLess (((a0.fld 1).fld 0).s).toList (((a1.fld 1).fld 0).s).toList)) else (T.bool false)))]
 else
 none
 else
 none
 else
 none
 else
 none
 else
 none
 else
 none
 else
 none
 else
 none
 else
 none
 else
 none
 else
 none
 else
 none
 else
 none
 else
 none
 else
 none := by kernel_rfl
theorem q_impl_vaultBefore (H : List Item → CS → R) (C : CallsE) (a0 a1 : T) : enterE fi_impl_vaultBefore env H C [a0, a1] = b_impl_vaultBefore H C a0 a1 := by
 refine (e_impl_vaultBefore H C a0 a1).trans ?_
 unfold b_impl_vaultBefore
 all_goals cases hc : ((decide ((a0.fld 0).i < (a1.fld 0).i))) with
 | true =>
  try simp only [bs]
  all_goals cases hc : (((a0.fld 0).i == (a1.fld 0).i)) with
  | true =>
   try simp only [bs]
   all_goals kernel_rfl
  | false =>
   try simp only [bs]
   all_goals kernel_rfl
 | false =>
  try simp only [bs]
  all_goals cases hc : (((a0.fld 0).i == (a1.fld 0).i)) with
  | true =>
   try simp only [bs]
   all_goals kernel_rfl
  | false =>
   try simp only [bs]
   all_goals kernel_rfl
theorem y_impl_vaultBefore (a0 a1 : T) {r : List T} (h : Yields (fun k => b_impl_vaultBefore (hl env k fi_impl_vaultBefore) (cl env k) a0 a1) r) : Yields (fun k => cl env k F_impl_vaultBefore [a0, a1]) r := Yields.call (fi := fi_impl_vaultBefore) rfl rfl (fun H C => q_impl_vaultBefore H C a0 a1) h
noncomputable def l_slices_IndexFunc_string_0 (H : List Item → CS → R) (x1 : T) (x2 : T) (x3 : T) (x4 : T) : R := H (hdAt fi_slices_IndexFunc_string.body 0) ([(0, .val 56 x1), (1, .val 77 x2), (7, .val 3 x3), (8, .val 3 x4)], [])
/- slices.IndexFunc[[]string,string] -/
noncomputable abbrev b_slices_IndexFunc_string (H : List Item → CS → R) (C : CallsE) (a0 a1 : T) : R :=
 l_slices_IndexFunc_string_0 H a0 a1 (T.int (a0.es.length : Int)) (T.int (0 : Int))
theorem q_slices_IndexFunc_string (H : List Item → CS → R) (C : CallsE) (a0 a1 : T) : enterE fi_slices_IndexFunc_string env H C [a0, a1] = b_slices_IndexFunc_string H C a0 a1 := by kernel_rfl
theorem y_slices_IndexFunc_string (a0 a1 : T) {r : List T} (h : Yields (fun k => b_slices_IndexFunc_string (hl env k fi_slices_IndexFunc_string) (cl env k) a0 a1) r) : Yields (fun k => cl env k F_slices_IndexFunc_string [a0, a1]) r := Yields.call (fi := fi_slices_IndexFunc_string) rfl rfl (fun H C => q_slices_IndexFunc_string H C a0 a1) h
noncomputable abbrev b_slices_IndexFunc_string_0 (H : List Item → CS → R) (C : CallsE) (x1 : T) (x2 : T) (x3 : T) (x4 : T) : R :=
 bif (decide (x4.i < x3.i)) then
 bif (decide (0 ≤ x4.i) && decide (x4.i.toNat < x1.es.length)) then
 obind (C x2.fid ([(x1.nth x4.i.toNat)] ++ x2.caps)) fun r1 =>
 bif (rt r1 0).b then
 some [x4]
 else
 l_slices_IndexFunc_string_0 H x1 x2 x3 (T.int (IntKind.wrap .i64 (x4.i + (1 : Int))))
 else
 none
 else
 some [(T.int (-1 : Int))]
theorem q_slices_IndexFunc_string_0 (H : List Item → CS → R) (C : CallsE) (x1 : T) (x2 : T) (x3 : T) (x4 : T) : headE fi_slices_IndexFunc_string env H C (hdAt fi_slices_IndexFunc_string.body 0) ([(0, .val 56 x1), (1, .val 77 x2), (7, .val 3 x3), (8, .val 3 x4)], []) = b_slices_IndexFunc_string_0 H C x1 x2 x3 x4 := by kernel_rfl
theorem y_slices_IndexFunc_string_0 (x1 : T) (x2 : T) (x3 : T) (x4 : T) {r : List T} (h : Yields (fun k => b_slices_IndexFunc_string_0 (hl env k fi_slices_IndexFunc_string) (cl env k) x1 x2 x3 x4) r) : Yields (fun k => l_slices_IndexFunc_string_0 (hl env k fi_slices_IndexFunc_string) x1 x2 x3 x4) r := Yields.head (fun H C => q_slices_IndexFunc_string_0 H C x1 x2 x3 x4) h
/- loop.example/heirlooms/impl.signOf -/
noncomputable abbrev b_impl_signOf (H : List Item → CS → R) (C : CallsE) (a0 : T) : R :=
 bif (!(a0.s.toList == (⟨#[]⟩ : ByteArray).toList)) then
 bif (decide (0 ≤ (0 : Int)) && decide (0 < a0.s.size)) then
 bif ((a0.s.data.getD 0 0).toNat == (38 : Int)) then
 bif (decide (0 ≤ (0 : Int)) && (decide ((0 : Int) ≤ (1 : Int)) && (decide ((1 : Int) ≤ (a0.s.size : Int)) && decide ((a0.s.size : Int) ≤ (a0.s.size : Int))))) then
 bif (decide (0 ≤ (1 : Int)) && (decide ((1 : Int) ≤ (a0.s.size : Int)) && (decide ((a0.s.size : Int) ≤ (a0.s.size : Int)) && decide ((a0.s.size : Int) ≤ (a0.s.size : Int))))) then
 some [(T.str (a0.s.extract 0 1)), (T.str (a0.s.extract 1 a0.s.size))]
 else
 none
 else
 none
 else
 bif ((a0.s.data.getD 0 0).toNat == (33 : Int)) then
 bif (decide (0 ≤ (0 : Int)) && (decide ((0 : Int) ≤ (1 : Int)) && (decide ((1 : Int) ≤ (a0.s.size : Int)) && decide ((a0.s.size : Int) ≤ (a0.s.size : Int))))) then
 bif (decide (0 ≤ (1 : Int)) && (decide ((1 : Int) ≤ (a0.s.size : Int)) && (decide ((a0.s.size : Int) ≤ (a0.s.size : Int)) && decide ((a0.s.size : Int) ≤ (a0.s.size : Int))))) then
 some [(T.str (a0.s.extract 0 1)), (T.str (a0.s.extract 1 a0.s.size))]
 else
 none
 else
 none
 else
 some [(T.str (⟨#[]⟩ : ByteArray)), a0]
 else
 none
 else
 some [(T.str (⟨#[]⟩ : ByteArray)), a0]
theorem e_impl_signOf (H : List Item → CS → R) (C : CallsE) (a0 : T) : enterE fi_impl_signOf env H C [a0] =
 bif ((!((!(a0.s.toList == (⟨#[]⟩ : ByteArray).toList)) == true)) || true) then
 bif ((!((!(a0.s.toList == (⟨#[]⟩ : ByteArray).toList)) == true)) || ((((!(a0.s.toList == (⟨#[]⟩ : ByteArray).toList)) == true) && true) && (decide (0 ≤ (0 : Int)) && decide (0 < a0.s.size)))) then
 bif ((!((!(a0.s.toList == (⟨#[]⟩ : ByteArray).toList)) == true)) || ((((!(a0.s.toList == (⟨#[]⟩ : ByteArray).toList)) == true) && true) && true)) then
 bif ((!((!(a0.s.toList == (⟨#[]⟩ : ByteArray).toList)) == true)) || ((!(a0.s.toList == (⟨#[]⟩ : ByteArray).toList)) == true)) then
 bif ((!(((!(a0.s.toList == (⟨#[]⟩ : ByteArray).toList)) == true) && (((a0.s.data.getD 0 0).toNat == (38 : Int)) == false))) || true) then
 bif ((!(((!(a0.s.toList == (⟨#[]⟩ : ByteArray).toList)) == true) && (((a0.s.data.getD 0 0).toNat == (38 : Int)) == false))) || (((((!(a0.s.toList == (⟨#[]⟩ : ByteArray).toList)) == true) && (((a0.s.data.getD 0 0).toNat == (38 : Int)) == false)) && true) && (decide (0 ≤ (0 : Int)) && decide (0 < a0.s.size)))) then
 bif ((!(((!(a0.s.toList == (⟨#[]⟩ : ByteArray).toList)) == true) && (((a0.s.data.getD 0 0).toNat == (38 : Int)) == false))) || (((((!(a0.s.toList == (⟨#[]⟩ : ByteArray).toList)) == true) && (((a0.s.data.getD 0 0).toNat == (38 : Int)) == false)) && true) && true)) then
 bif ((!((!(a0.s.toList == (⟨#[]⟩ : ByteArray).toList)) == true)) || (((!(a0.s.toList == (⟨#[]⟩ : ByteArray).toList)) == true) && (bif ((a0.s.data.getD 0 0).toNat == (38 : Int)) then true else (((!(a0.s.toList == (⟨#[]⟩ : ByteArray).toList)) == true) && (((a0.s.data.getD 0 0).toNat == (38 : Int)) == false))))) then
 bif (bif (!(a0.s.toList == (⟨#[]⟩ : ByteArray).toList)) then ((!(a0.s.toList == (⟨#[]⟩ : ByteArray).toList)) == true) else true) then
 bif (bif (!(a0.s.toList == (⟨#[]⟩ : ByteArray).toList)) then (bif ((a0.s.data.getD 0 0).toNat == (38 : Int)) then (T.bool true) else (T.bool ((a0.s.data.getD 0 0).toNat == (33 : Int)))) else (T.bool false)).b then
 bif (decide (0 ≤ (0 : Int)) && (decide ((0 : Int) ≤ (1 : Int)) && (decide ((1 : Int) ≤ (a0.s.size : Int)) && decide ((a0.s.size : Int) ≤ (a0.s.size : Int))))) then
 bif (decide (0 ≤ (1 : Int)) && (decide ((1 : Int) ≤ (a0.s.size : Int)) && (decide ((a0.s.size : Int) ≤ (a0.s.size : Int)) && decide ((a0.s.size : Int) ≤ (a0.s.size : Int))))) then
 some [(T.str (a0.s.extract 0 1)), (T.str (a0.s.extract 1 a0.s.size))]
 else
 none
 else
 none
 else
 some [(T.str (⟨#[]⟩ : ByteArray)), a0]
 else
 none
 else
 none
 else
 none
 else
 none
 else
 none
 else
 none
 else
 none
 else
 none
 else
 none := by kernel_rfl
theorem q_impl_signOf (H : List Item → CS → R) (C : CallsE) (a0 : T) : enterE fi_impl_signOf env H C [a0] = b_impl_signOf H C a0 := by
 refine (e_impl_signOf H C a0).trans ?_
 unfold b_impl_signOf
 all_goals cases hc : ((!(a0.s.toList == (⟨#[]⟩ : ByteArray).toList))) with
 | true =>
  try simp only [bs]
  all_goals cases hc : ((decide (0 ≤ (0 : Int)) && decide (0 < a0.s.size))) with
  | true =>
   try simp only [bs]
   all_goals cases hc : (((a0.s.data.getD 0 0).toNat == (38 : Int))) with
   | true =>
    try simp only [bs]
    all_goals cases hc : ((decide (0 ≤ (0 : Int)) && (decide ((0 : Int) ≤ (1 : Int)) && (decide ((1 : Int) ≤ (a0.s.size : Int)) && decide ((a0.s.size : Int) ≤ (a0.s.size : Int)))))) with
    | true =>
     try simp only [bs]
     all_goals cases hc : ((decide (0 ≤ (1 : Int)) && (decide ((1 : Int) ≤ (a0.s.size : Int)) && (decide ((a0.s.size : Int) ≤ (a0.s.size : Int)) && decide ((a0.s.size : Int) ≤ (a0.s.size : Int)))))) with
     | true =>
      try simp only [bs]
      all_goals kernel_rfl
     | false =>
      try simp only [bs]
      all_goals kernel_rfl
    | false =>
     try simp only [bs]
     all_goals kernel_rfl
   | false =>
    try simp only [bs]
    all_goals cases hc : (((a0.s.data.getD 0 0).toNat == (33 : Int))) with
    | true =>
     try simp only [bs]
     all_goals cases hc : ((decide (0 ≤ (0 : Int)) && (decide ((0 : Int) ≤ (1 : Int)) && (decide ((1 : Int) ≤ (a0.s.size : Int)) && decide ((a0.s.size : Int) ≤ (a0.s.size : Int)))))) with
     | true =>
      try simp only [bs]
      all_goals cases hc : ((decide (0 ≤ (1 : Int)) && (decide ((1 : Int) ≤ (a0.s.size : Int)) && (decide ((a0.s.size : Int) ≤ (a0.s.size : Int)) && decide ((a0.s.size : Int) ≤ (a0.s.size : Int)))))) with
      | true =>
       try simp only [bs]
       all_goals kernel_rfl
      | false =>
       try simp only [bs]
       all_goals kernel_rfl
     | false =>
      try simp only [bs]
      all_goals kernel_rfl
    | false =>
     try simp only [bs]
     all_goals kernel_rfl
  | false =>
   try simp only [bs]
   all_goals kernel_rfl
 | false =>
  try simp only [bs]
  all_goals cases hc : (((a0.s.data.getD 0 0).toNat == (38 : Int))) with
  | true =>
   try simp only [bs]
   all_goals kernel_rfl
  | false =>
   try simp only [bs]
   all_goals kernel_rfl
theorem y_impl_signOf (a0 : T) {r : List T} (h : Yields (fun k => b_impl_signOf (hl env k fi_impl_signOf) (cl env k) a0) r) : Yields (fun k => cl env k F_impl_signOf [a0]) r := Yields.call (fi := fi_impl_signOf) rfl rfl (fun H C => q_impl_signOf H C a0) h
/- loop.example/heirlooms/impl.plainOk -/
noncomputable abbrev b_impl_plainOk (H : List Item → CS → R) (C : CallsE) (a0 a1 : T) : R :=
 bif (a1.s.toList == (⟨#[110]⟩ : ByteArray).toList) then
 some [(T.bool true)]
 else
 bif (a1.s.toList == (⟨#[98]⟩ : ByteArray).toList) then
 some [(T.bool true)]
 else
 bif (a1.s.toList == (⟨#[111]⟩ : ByteArray).toList) then
 some [(T.bool true)]
 else
 obind (C F_impl_kindIn [a0, a1]) fun r1 =>
 some [(rt r1 0)]
theorem e_impl_plainOk (H : List Item → CS → R) (C : CallsE) (a0 a1 : T) : enterE fi_impl_plainOk env H C [a0, a1] =
 bif ((!((a1.s.toList == (⟨#[110]⟩ : ByteArray).toList) == false)) || true) then
 bif ((!((a1.s.toList == (⟨#[110]⟩ : ByteArray).toList) == false)) || ((((a1.s.toList == (⟨#[110]⟩ : ByteArray).toList) == false) && true) && true)) then
 bif (bif (a1.s.toList == (⟨#[110]⟩ : ByteArray).toList) then true else ((a1.s.toList == (⟨#[110]⟩ : ByteArray).toList) == false)) then
 bif ((!((bif (a1.s.toList == (⟨#[110]⟩ : ByteArray).toList) then (T.bool true) else (T.bool (a1.s.toList == (⟨#[98]⟩ : ByteArray).toList))).b == false)) || true) then
 bif ((!((bif (a1.s.toList == (⟨#[110]⟩ : ByteArray).toList) then (T.bool true) else (T.bool (a1.s.toList == (⟨#[98]⟩ : ByteArray).toList))).b == false)) || ((((bif (a1.s.toList == (⟨#[110]⟩ : ByteArray).toList) then (T.bool true) else (T.bool (a1.s.toList == (⟨#[98]⟩ : ByteArray).toList))).b == false) && true) && true)) then
 bif (bif (bif (a1.s.toList == (⟨#[110]⟩ : ByteArray).toList) then (T.bool true) else (T.bool (a1.s.toList == (⟨#[98]⟩ : ByteArray).toList))).b then true else ((bif (a1.s.toList == (⟨#[110]⟩ : ByteArray).toList) then (T.bool true) else (T.bool (a1.s.toList == (⟨#[98]⟩ : ByteArray).toList))).b == false)) then
 bif ((!((bif (bif (a1.s.toList == (⟨#[110]⟩ : ByteArray).toList) then (T.bool true) else (T.bool (a1.s.toList == (⟨#[98]⟩ : ByteArray).toList))).b then (T.bool true) else (T.bool (a1.s.toList == (⟨#[111]⟩ : ByteArray).toList))).b == false)) || true) then
 bif ((!((bif (bif (a1.s.toList == (⟨#[110]⟩ : ByteArray).toList) then (T.bool true) else (T.bool (a1.s.toList == (⟨#[98]⟩ : ByteArray).toList))).b then (T.bool true) else (T.bool (a1.s.toList == (⟨#[111]⟩ : ByteArray).toList))).b == false)) || true) then
 bif ((!((bif (bif (a1.s.toList == (⟨#[110]⟩ : ByteArray).toList) then (T.bool true) else (T.bool (a1.s.toList == (⟨#[98]⟩ : ByteArray).toList))).b then (T.bool true) else (T.bool (a1.s.toList == (⟨#[111]⟩ : ByteArray).toList))).b == false)) || (((bif (bif (a1.s.toList == (⟨#[110]⟩ : ByteArray).toList) then (T.bool true) else (T.bool (a1.s.toList == (⟨#[98]⟩ : ByteArray).toList))).b then (T.bool true) else (T.bool (a1.s.toList == (⟨#[111]⟩ : ByteArray).toList))).b == false) && (((bif (bif (a1.s.toList == (⟨#[110]⟩ : ByteArray).toList) then (T.bool true) else (T.bool (a1.s.toList == (⟨#[98]⟩ : ByteArray).toList))).b then (T.bool true) else (T.bool (a1.s.toList == (⟨#[111]⟩ : ByteArray).toList))).b == false) && true))) then
 obind ((bif ((bif (bif (a1.s.toList == (⟨#[110]⟩ : ByteArray).toList) then (T.bool true) else (T.bool (a1.s.toList == (⟨#[98]⟩ : ByteArray).toList))).b then (T.bool true) else (T.bool (a1.s.toList == (⟨#[111]⟩ : ByteArray).toList))).b == false) then C F_impl_kindIn [a0, a1] else some [])) fun r1 =>
 bif (bif (bif (bif (a1.s.toList == (⟨#[110]⟩ : ByteArray).toList) then (T.bool true) else (T.bool (a1.s.toList == (⟨#[98]⟩ : ByteArray).toList))).b then (T.bool true) else (T.bool (a1.s.toList == (⟨#[111]⟩ : ByteArray).toList))).b then true else ((bif (bif (a1.s.toList == (⟨#[110]⟩ : ByteArray).toList) then (T.bool true) else (T.bool (a1.s.toList == (⟨#[98]⟩ : ByteArray).toList))).b then (T.bool true) else (T.bool (a1.s.toList == (⟨#[111]⟩ : ByteArray).toList))).b == false)) then
 some [(bif (bif (bif (a1.s.toList == (⟨#[110]⟩ : ByteArray).toList) then (T.bool true) else (T.bool (a1.s.toList == (⟨#[98]⟩ : ByteArray).toList))).b then (T.bool true) else (T.bool (a1.s.toList == (⟨#[111]⟩ : ByteArray).toList))).b then (T.bool true) else (rt r1 0))]
 else
 none
 else
 none
 else
 none
 else
 none
 else
 none
 else
 none
 else
 none
 else
 none
 else
 none
 else
 none := by kernel_rfl
theorem q_impl_plainOk (H : List Item → CS → R) (C : CallsE) (a0 a1 : T) : enterE fi_impl_plainOk env H C [a0, a1] = b_impl_plainOk H C a0 a1 := by
 refine (e_impl_plainOk H C a0 a1).trans ?_
 unfold b_impl_plainOk
 all_goals cases hc : ((a1.s.toList == (⟨#[110]⟩ : ByteArray).toList)) with
 | true =>
  try simp only [bs]
  all_goals kernel_rfl
 | false =>
  try simp only [bs]
  all_goals cases hc : ((a1.s.toList == (⟨#[98]⟩ : ByteArray).toList)) with
  | true =>
   try simp only [bs]
   all_goals kernel_rfl
  | false =>
   try simp only [bs]
   all_goals cases hc : ((a1.s.toList == (⟨#[111]⟩ : ByteArray).toList)) with
   | true =>
    try simp only [bs]
    all_goals kernel_rfl
   | false =>
    try simp only [bs]
    all_goals refine obind_congr fun r1 => ?_
    all_goals try simp only [bs]
    all_goals kernel_rfl
theorem y_impl_plainOk (a0 a1 : T) {r : List T} (h : Yields (fun k => b_impl_plainOk (hl env k fi_impl_plainOk) (cl env k) a0 a1) r) : Yields (fun k => cl env k F_impl_plainOk [a0, a1]) r := Yields.call (fi := fi_impl_plainOk) rfl rfl (fun H C => q_impl_plainOk H C a0 a1) h
/- loop.example/heirlooms/impl.recordOf -/
noncomputable abbrev b_impl_recordOf (H : List Item → CS → R) (C : CallsE) (a0 a1 : T) : R :=
 obind (C F_impl_kindAt [a1]) fun r1 =>
 bif (decide (0 ≤ (rt r1 0).i) && decide (((rt r1 0).i).toNat < a0.es.length)) then
 bif (decide (0 ≤ (rt r1 1).i) && decide (((rt r1 1).i).toNat < ((a0.nth (((rt r1 0).i).toNat)).es).length)) then
 some [((a0.nth (((rt r1 0).i).toNat)).nth (((rt r1 1).i).toNat))]
 else
 none
 else
 none
theorem q_impl_recordOf (H : List Item → CS → R) (C : CallsE) (a0 a1 : T) : enterE fi_impl_recordOf env H C [a0, a1] = b_impl_recordOf H C a0 a1 := by kernel_rfl
theorem y_impl_recordOf (a0 a1 : T) {r : List T} (h : Yields (fun k => b_impl_recordOf (hl env k fi_impl_recordOf) (cl env k) a0 a1) r) : Yields (fun k => cl env k F_impl_recordOf [a0, a1]) r := Yields.call (fi := fi_impl_recordOf) rfl rfl (fun H C => q_impl_recordOf H C a0 a1) h
noncomputable def l_laws_eqRecordS_0 (H : List Item → CS → R) (x1 : T) (x2 : T) (x3 : T) : R := H (hdAt fi_laws_eqRecordS.body 0) ([(0, .val 60 x1), (1, .val 60 x2), (5, .val 3 x3)], [])
/- loop.example/heirlooms/laws.eqRecordS -/
noncomputable abbrev b_laws_eqRecordS (H : List Item → CS → R) (C : CallsE) (a0 a1 : T) : R :=
 bif ((a0.es.length : Int) != (a1.es.length : Int)) then
 some [(T.bool false)]
 else
 l_laws_eqRecordS_0 H a0 a1 (T.int (0 : Int))
theorem q_laws_eqRecordS (H : List Item → CS → R) (C : CallsE) (a0 a1 : T) : enterE fi_laws_eqRecordS env H C [a0, a1] = b_laws_eqRecordS H C a0 a1 := by kernel_rfl
theorem y_laws_eqRecordS (a0 a1 : T) {r : List T} (h : Yields (fun k => b_laws_eqRecordS (hl env k fi_laws_eqRecordS) (cl env k) a0 a1) r) : Yields (fun k => cl env k F_laws_eqRecordS [a0, a1]) r := Yields.call (fi := fi_laws_eqRecordS) rfl rfl (fun H C => q_laws_eqRecordS H C a0 a1) h
noncomputable abbrev b_laws_eqRecordS_0 (H : List Item → CS → R) (C : CallsE) (x1 : T) (x2 : T) (x3 : T) : R :=
 bif (decide (x3.i < (x1.es.length : Int))) then
 bif (decide (0 ≤ x3.i) && decide (x3.i.toNat < x1.es.length)) then
 bif (decide (0 ≤ x3.i) && decide (x3.i.toNat < x2.es.length)) then
 obind (C F_laws_eqRecord [(x1.nth x3.i.toNat), (x2.nth x3.i.toNat)]) fun r1 =>
 bif (!(rt r1 0).b) then
 some [(T.bool false)]
 else
 l_laws_eqRecordS_0 H x1 x2 (T.int (IntKind.wrap .i64 (x3.i + (1 : Int))))
 else
 none
 else
 none
 else
 some [(T.bool true)]
theorem q_laws_eqRecordS_0 (H : List Item → CS → R) (C : CallsE) (x1 : T) (x2 : T) (x3 : T) : headE fi_laws_eqRecordS env H C (hdAt fi_laws_eqRecordS.body 0) ([(0, .val 60 x1), (1, .val 60 x2), (5, .val 3 x3)], []) = b_laws_eqRecordS_0 H C x1 x2 x3 := by kernel_rfl
theorem y_laws_eqRecordS_0 (x1 : T) (x2 : T) (x3 : T) {r : List T} (h : Yields (fun k => b_laws_eqRecordS_0 (hl env k fi_laws_eqRecordS) (cl env k) x1 x2 x3) r) : Yields (fun k => l_laws_eqRecordS_0 (hl env k fi_laws_eqRecordS) x1 x2 x3) r := Yields.head (fun H C => q_laws_eqRecordS_0 H C x1 x2 x3) h
noncomputable def l_laws_eqFuncS_0 (H : List Item → CS → R) (x1 : T) (x2 : T) (x3 : T) : R := H (hdAt fi_laws_eqFuncS.body 0) ([(0, .val 61 x1), (1, .val 61 x2), (5, .val 3 x3)], [])
/- loop.example/heirlooms/laws.eqFuncS -/
noncomputable abbrev b_laws_eqFuncS (H : List Item → CS → R) (C : CallsE) (a0 a1 : T) : R :=
 bif ((a0.es.length : Int) != (a1.es.length : Int)) then
 some [(T.bool false)]
 else
 l_laws_eqFuncS_0 H a0 a1 (T.int (0 : Int))
theorem q_laws_eqFuncS (H : List Item → CS → R) (C : CallsE) (a0 a1 : T) : enterE fi_laws_eqFuncS env H C [a0, a1] = b_laws_eqFuncS H C a0 a1 := by kernel_rfl
theorem y_laws_eqFuncS (a0 a1 : T) {r : List T} (h : Yields (fun k => b_laws_eqFuncS (hl env k fi_laws_eqFuncS) (cl env k) a0 a1) r) : Yields (fun k => cl env k F_laws_eqFuncS [a0, a1]) r := Yields.call (fi := fi_laws_eqFuncS) rfl rfl (fun H C => q_laws_eqFuncS H C a0 a1) h
noncomputable abbrev b_laws_eqFuncS_0 (H : List Item → CS → R) (C : CallsE) (x1 : T) (x2 : T) (x3 : T) : R :=
 bif (decide (x3.i < (x1.es.length : Int))) then
 bif (decide (0 ≤ x3.i) && decide (x3.i.toNat < x1.es.length)) then
 bif (decide (0 ≤ x3.i) && decide (x3.i.toNat < x2.es.length)) then
 obind (C F_laws_eqFunc [(x1.nth x3.i.toNat), (x2.nth x3.i.toNat)]) fun r1 =>
 bif (!(rt r1 0).b) then
 some [(T.bool false)]
 else
 l_laws_eqFuncS_0 H x1 x2 (T.int (IntKind.wrap .i64 (x3.i + (1 : Int))))
 else
 none
 else
 none
 else
 some [(T.bool true)]
theorem q_laws_eqFuncS_0 (H : List Item → CS → R) (C : CallsE) (x1 : T) (x2 : T) (x3 : T) : headE fi_laws_eqFuncS env H C (hdAt fi_laws_eqFuncS.body 0) ([(0, .val 61 x1), (1, .val 61 x2), (5, .val 3 x3)], []) = b_laws_eqFuncS_0 H C x1 x2 x3 := by kernel_rfl
theorem y_laws_eqFuncS_0 (x1 : T) (x2 : T) (x3 : T) {r : List T} (h : Yields (fun k => b_laws_eqFuncS_0 (hl env k fi_laws_eqFuncS) (cl env k) x1 x2 x3) r) : Yields (fun k => l_laws_eqFuncS_0 (hl env k fi_laws_eqFuncS) x1 x2 x3) r := Yields.head (fun H C => q_laws_eqFuncS_0 H C x1 x2 x3) h
noncomputable def l_laws_eqIntS_0 (H : List Item → CS → R) (x1 : T) (x2 : T) (x3 : T) : R := H (hdAt fi_laws_eqIntS.body 0) ([(0, .val 42 x1), (1, .val 42 x2), (5, .val 3 x3)], [])
/- loop.example/heirlooms/laws.eqIntS -/
noncomputable abbrev b_laws_eqIntS (H : List Item → CS → R) (C : CallsE) (a0 a1 : T) : R :=
 bif ((a0.es.length : Int) != (a1.es.length : Int)) then
 some [(T.bool false)]
 else
 l_laws_eqIntS_0 H a0 a1 (T.int (0 : Int))
theorem q_laws_eqIntS (H : List Item → CS → R) (C : CallsE) (a0 a1 : T) : enterE fi_laws_eqIntS env H C [a0, a1] = b_laws_eqIntS H C a0 a1 := by kernel_rfl
theorem y_laws_eqIntS (a0 a1 : T) {r : List T} (h : Yields (fun k => b_laws_eqIntS (hl env k fi_laws_eqIntS) (cl env k) a0 a1) r) : Yields (fun k => cl env k F_laws_eqIntS [a0, a1]) r := Yields.call (fi := fi_laws_eqIntS) rfl rfl (fun H C => q_laws_eqIntS H C a0 a1) h
noncomputable abbrev b_laws_eqIntS_0 (H : List Item → CS → R) (C : CallsE) (x1 : T) (x2 : T) (x3 : T) : R :=
 bif (decide (x3.i < (x1.es.length : Int))) then
 bif (decide (0 ≤ x3.i) && decide (x3.i.toNat < x1.es.length)) then
 bif (decide (0 ≤ x3.i) && decide (x3.i.toNat < x2.es.length)) then
 bif ((x1.nth x3.i.toNat).i != (x2.nth x3.i.toNat).i) then
 some [(T.bool false)]
 else
 l_laws_eqIntS_0 H x1 x2 (T.int (IntKind.wrap .i64 (x3.i + (1 : Int))))
 else
 none
 else
 none
 else
 some [(T.bool true)]
theorem q_laws_eqIntS_0 (H : List Item → CS → R) (C : CallsE) (x1 : T) (x2 : T) (x3 : T) : headE fi_laws_eqIntS env H C (hdAt fi_laws_eqIntS.body 0) ([(0, .val 42 x1), (1, .val 42 x2), (5, .val 3 x3)], []) = b_laws_eqIntS_0 H C x1 x2 x3 := by kernel_rfl
theorem y_laws_eqIntS_0 (x1 : T) (x2 : T) (x3 : T) {r : List T} (h : Yields (fun k => b_laws_eqIntS_0 (hl env k fi_laws_eqIntS) (cl env k) x1 x2 x3) r) : Yields (fun k => l_laws_eqIntS_0 (hl env k fi_laws_eqIntS) x1 x2 x3) r := Yields.head (fun H C => q_laws_eqIntS_0 H C x1 x2 x3) h
/- loop.example/heirlooms/laws.szRecord -/
noncomputable abbrev b_laws_szRecord (H : List Item → CS → R) (C : CallsE) (a0 a1 : T) : R :=
 obind (C F_laws_szStringS [(a0.fld 1), a1]) fun r1 =>
 bif (decide ((rt r1 0).i < (0 : Int))) then
 some [(T.int (-1 : Int))]
 else
 some [(rt r1 0)]
theorem q_laws_szRecord (H : List Item → CS → R) (C : CallsE) (a0 a1 : T) : enterE fi_laws_szRecord env H C [a0, a1] = b_laws_szRecord H C a0 a1 := by kernel_rfl
theorem y_laws_szRecord (a0 a1 : T) {r : List T} (h : Yields (fun k => b_laws_szRecord (hl env k fi_laws_szRecord) (cl env k) a0 a1) r) : Yields (fun k => cl env k F_laws_szRecord [a0, a1]) r := Yields.call (fi := fi_laws_szRecord) rfl rfl (fun H C => q_laws_szRecord H C a0 a1) h
/- loop.example/heirlooms/laws.szFunc -/
noncomputable abbrev b_laws_szFunc (H : List Item → CS → R) (C : CallsE) (a0 a1 : T) : R :=
 obind (C F_laws_szStringS [(a0.fld 1), a1]) fun r1 =>
 bif (decide ((rt r1 0).i < (0 : Int))) then
 some [(T.int (-1 : Int))]
 else
 obind (C F_laws_szStringS [(a0.fld 2), (rt r1 0)]) fun r2 =>
 bif (decide ((rt r2 0).i < (0 : Int))) then
 some [(T.int (-1 : Int))]
 else
 obind (C F_laws_szStringS [(a0.fld 3), (rt r2 0)]) fun r3 =>
 bif (decide ((rt r3 0).i < (0 : Int))) then
 some [(T.int (-1 : Int))]
 else
 obind (C F_laws_szIntS [(a0.fld 4), (rt r3 0)]) fun r4 =>
 bif (decide ((rt r4 0).i < (0 : Int))) then
 some [(T.int (-1 : Int))]
 else
 obind (C F_laws_szInsS [(a0.fld 5), (rt r4 0)]) fun r5 =>
 bif (decide ((rt r5 0).i < (0 : Int))) then
 some [(T.int (-1 : Int))]
 else
 some [(rt r5 0)]
theorem q_laws_szFunc (H : List Item → CS → R) (C : CallsE) (a0 a1 : T) : enterE fi_laws_szFunc env H C [a0, a1] = b_laws_szFunc H C a0 a1 := by kernel_rfl
theorem y_laws_szFunc (a0 a1 : T) {r : List T} (h : Yields (fun k => b_laws_szFunc (hl env k fi_laws_szFunc) (cl env k) a0 a1) r) : Yields (fun k => cl env k F_laws_szFunc [a0, a1]) r := Yields.call (fi := fi_laws_szFunc) rfl rfl (fun H C => q_laws_szFunc H C a0 a1) h
noncomputable def l_spec_KindsBad_0 (H : List Item → CS → R) (x1 : T) (x2 : T) : R := H (hdAt fi_spec_KindsBad.body 0) ([(0, .val 54 x1), (4, .val 3 x2)], [])
noncomputable def l_spec_KindsBad_1 (H : List Item → CS → R) (x1 : T) (x2 : T) (x3 : T) : R := H (hdAt fi_spec_KindsBad.body 1) ([(0, .val 54 x1), (4, .val 3 x2), (5, .val 3 x3)], [])
/- loop.example/heirlooms/spec.KindsBad -/
noncomputable abbrev b_spec_KindsBad (H : List Item → CS → R) (C : CallsE) (a0 : T) : R :=
 bif (decide ((a0.es.length : Int) > (3 : Int))) then
 some [(T.int (3 : Int)), (T.int (0 : Int))]
 else
 l_spec_KindsBad_0 H a0 (T.int (0 : Int))
theorem q_spec_KindsBad (H : List Item → CS → R) (C : CallsE) (a0 : T) : enterE fi_spec_KindsBad env H C [a0] = b_spec_KindsBad H C a0 := by kernel_rfl
theorem y_spec_KindsBad (a0 : T) {r : List T} (h : Yields (fun k => b_spec_KindsBad (hl env k fi_spec_KindsBad) (cl env k) a0) r) : Yields (fun k => cl env k F_spec_KindsBad [a0]) r := Yields.call (fi := fi_spec_KindsBad) rfl rfl (fun H C => q_spec_KindsBad H C a0) h
noncomputable abbrev b_spec_KindsBad_0 (H : List Item → CS → R) (C : CallsE) (x1 : T) (x2 : T) : R :=
 bif (decide (x2.i < (x1.es.length : Int))) then
 bif (decide (0 ≤ x2.i) && decide (x2.i.toNat < x1.es.length)) then
 bif (decide ((((x1.nth x2.i.toNat).es).length : Int) > (3 : Int))) then
 some [x2, (T.int (3 : Int))]
 else
 l_spec_KindsBad_1 H x1 x2 (T.int (0 : Int))
 else
 none
 else
 some [(T.int (-1 : Int)), (T.int (-1 : Int))]
theorem q_spec_KindsBad_0 (H : List Item → CS → R) (C : CallsE) (x1 : T) (x2 : T) : headE fi_spec_KindsBad env H C (hdAt fi_spec_KindsBad.body 0) ([(0, .val 54 x1), (4, .val 3 x2)], []) = b_spec_KindsBad_0 H C x1 x2 := by kernel_rfl
theorem y_spec_KindsBad_0 (x1 : T) (x2 : T) {r : List T} (h : Yields (fun k => b_spec_KindsBad_0 (hl env k fi_spec_KindsBad) (cl env k) x1 x2) r) : Yields (fun k => l_spec_KindsBad_0 (hl env k fi_spec_KindsBad) x1 x2) r := Yields.head (fun H C => q_spec_KindsBad_0 H C x1 x2) h
noncomputable abbrev b_spec_KindsBad_1 (H : List Item → CS → R) (C : CallsE) (x1 : T) (x2 : T) (x3 : T) : R :=
 bif (decide (0 ≤ x2.i) && decide (x2.i.toNat < x1.es.length)) then
 bif (decide (x3.i < (((x1.nth x2.i.toNat).es).length : Int))) then
 obind (C F_spec_l1Record [x1, x2, x3]) fun r1 =>
 bif (!(rt r1 0).b) then
 some [x2, x3]
 else
 l_spec_KindsBad_1 H x1 x2 (T.int (IntKind.wrap .i64 (x3.i + (1 : Int))))
 else
 l_spec_KindsBad_0 H x1 (T.int (IntKind.wrap .i64 (x2.i + (1 : Int))))
 else
 none
theorem q_spec_KindsBad_1 (H : List Item → CS → R) (C : CallsE) (x1 : T) (x2 : T) (x3 : T) : headE fi_spec_KindsBad env H C (hdAt fi_spec_KindsBad.body 1) ([(0, .val 54 x1), (4, .val 3 x2), (5, .val 3 x3)], []) = b_spec_KindsBad_1 H C x1 x2 x3 := by kernel_rfl
theorem y_spec_KindsBad_1 (x1 : T) (x2 : T) (x3 : T) {r : List T} (h : Yields (fun k => b_spec_KindsBad_1 (hl env k fi_spec_KindsBad) (cl env k) x1 x2 x3) r) : Yields (fun k => l_spec_KindsBad_1 (hl env k fi_spec_KindsBad) x1 x2 x3) r := Yields.head (fun H C => q_spec_KindsBad_1 H C x1 x2 x3) h
noncomputable def l_spec_l4Types_0 (H : List Item → CS → R) (x1 : T) (x2 : T) (x3 : T) : R := H (hdAt fi_spec_l4Types.body 0) ([(0, .val 54 x1), (1, .val 56 x2), (5, .val 3 x3)], [])
/- loop.example/heirlooms/spec.l4Types -/
noncomputable abbrev b_spec_l4Types (H : List Item → CS → R) (C : CallsE) (a0 a1 : T) : R :=
 l_spec_l4Types_0 H a0 a1 (T.int (0 : Int))
theorem q_spec_l4Types (H : List Item → CS → R) (C : CallsE) (a0 a1 : T) : enterE fi_spec_l4Types env H C [a0, a1] = b_spec_l4Types H C a0 a1 := by kernel_rfl
theorem y_spec_l4Types (a0 a1 : T) {r : List T} (h : Yields (fun k => b_spec_l4Types (hl env k fi_spec_l4Types) (cl env k) a0 a1) r) : Yields (fun k => cl env k F_spec_l4Types [a0, a1]) r := Yields.call (fi := fi_spec_l4Types) rfl rfl (fun H C => q_spec_l4Types H C a0 a1) h
noncomputable abbrev b_spec_l4Types_0 (H : List Item → CS → R) (C : CallsE) (x1 : T) (x2 : T) (x3 : T) : R :=
 bif (decide (x3.i < (x2.es.length : Int))) then
 bif (decide (0 ≤ x3.i) && decide (x3.i.toNat < x2.es.length)) then
 obind (C F_spec_l1Of [(x2.nth x3.i.toNat)]) fun r1 =>
 obind (C F_spec_l1Plain [x1, (rt r1 0)]) fun r2 =>
 bif (!(rt r2 0).b) then
 some [(T.bool false)]
 else
 l_spec_l4Types_0 H x1 x2 (T.int (IntKind.wrap .i64 (x3.i + (1 : Int))))
 else
 none
 else
 some [(T.bool true)]
theorem q_spec_l4Types_0 (H : List Item → CS → R) (C : CallsE) (x1 : T) (x2 : T) (x3 : T) : headE fi_spec_l4Types env H C (hdAt fi_spec_l4Types.body 0) ([(0, .val 54 x1), (1, .val 56 x2), (5, .val 3 x3)], []) = b_spec_l4Types_0 H C x1 x2 x3 := by kernel_rfl
theorem y_spec_l4Types_0 (x1 : T) (x2 : T) (x3 : T) {r : List T} (h : Yields (fun k => b_spec_l4Types_0 (hl env k fi_spec_l4Types) (cl env k) x1 x2 x3) r) : Yields (fun k => l_spec_l4Types_0 (hl env k fi_spec_l4Types) x1 x2 x3) r := Yields.head (fun H C => q_spec_l4Types_0 H C x1 x2 x3) h
noncomputable def l_spec_l4Code_0 (H : List Item → CS → R) (x1 : T) (x2 : T) (x3 : T) : R := H (hdAt fi_spec_l4Code.body 0) ([(0, .val 3 x1), (1, .val 57 x2), (5, .val 3 x3)], [])
/- loop.example/heirlooms/spec.l4Code -/
noncomputable abbrev b_spec_l4Code (H : List Item → CS → R) (C : CallsE) (a0 a1 : T) : R :=
 l_spec_l4Code_0 H a0 a1 (T.int (0 : Int))
theorem q_spec_l4Code (H : List Item → CS → R) (C : CallsE) (a0 a1 : T) : enterE fi_spec_l4Code env H C [a0, a1] = b_spec_l4Code H C a0 a1 := by kernel_rfl
theorem y_spec_l4Code (a0 a1 : T) {r : List T} (h : Yields (fun k => b_spec_l4Code (hl env k fi_spec_l4Code) (cl env k) a0 a1) r) : Yields (fun k => cl env k F_spec_l4Code [a0, a1]) r := Yields.call (fi := fi_spec_l4Code) rfl rfl (fun H C => q_spec_l4Code H C a0 a1) h
noncomputable abbrev b_spec_l4Code_0 (H : List Item → CS → R) (C : CallsE) (x1 : T) (x2 : T) (x3 : T) : R :=
 bif (decide (x3.i < (x2.es.length : Int))) then
 bif (decide (0 ≤ x3.i) && decide (x3.i.toNat < x2.es.length)) then
 obind (C F_spec_InsOk [(x2.nth x3.i.toNat)]) fun r1 =>
 bif (!(rt r1 0).b) then
 some [(T.bool false)]
 else
 bif ((((x2.nth x3.i.toNat).fld 0).s).toList == (⟨#[99, 97, 108, 108]⟩ : ByteArray).toList) then
 bif (decide (((x2.nth x3.i.toNat).fld 1).i > x1.i)) then
 some [(T.bool false)]
 else
 l_spec_l4Code_0 H x1 x2 (T.int (IntKind.wrap .i64 (x3.i + (1 : Int))))
 else
 l_spec_l4Code_0 H x1 x2 (T.int (IntKind.wrap .i64 (x3.i + (1 : Int))))
 else
 none
 else
 obind (C F_spec_l6In [(T.int (x2.es.length : Int)), (T.int (1 : Int)), (T.int (40 : Int))]) fun r1 =>
 some [(rt r1 0)]
theorem e_spec_l4Code_0 (H : List Item → CS → R) (C : CallsE) (x1 : T) (x2 : T) (x3 : T) : headE fi_spec_l4Code env H C (hdAt fi_spec_l4Code.body 0) ([(0, .val 3 x1), (1, .val 57 x2), (5, .val 3 x3)], []) =
 bif (decide (x3.i < (x2.es.length : Int))) then
 bif (decide (0 ≤ x3.i) && decide (x3.i.toNat < x2.es.length)) then
 obind (C F_spec_InsOk [(x2.nth x3.i.toNat)]) fun r1 =>
 bif ((!((!(rt r1 0).b) == false)) || true) then
 bif ((!((!(rt r1 0).b) == false)) || true) then
 bif ((!((!(rt r1 0).b) == false)) || ((((!(rt r1 0).b) == false) && (((!(rt r1 0).b) == false) && true)) && (decide (0 ≤ x3.i) && decide (x3.i.toNat < x2.es.length)))) then
 bif ((!((!(rt r1 0).b) == false)) || ((!(rt r1 0).b) == false)) then
 bif ((!((!(rt r1 0).b) == false)) || ((!(rt r1 0).b) == false)) then
 bif ((!((!(rt r1 0).b) == false)) || ((((!(rt r1 0).b) == false) && true) && true)) then
 bif ((!((!(rt r1 0).b) == false)) || ((!(rt r1 0).b) == false)) then
 bif ((!(((!(rt r1 0).b) == false) && (((((x2.nth x3.i.toNat).fld 0).s).toList == (⟨#[99, 97, 108, 108]⟩ : ByteArray).toList) == true))) || true) then
 bif ((!(((!(rt r1 0).b) == false) && (((((x2.nth x3.i.toNat).fld 0).s).toList == (⟨#[99, 97, 108, 108]⟩ : ByteArray).toList) == true))) || true) then
 bif ((!(((!(rt r1 0).b) == false) && (((((x2.nth x3.i.toNat).fld 0).s).toList == (⟨#[99, 97, 108, 108]⟩ : ByteArray).toList) == true))) || (((((!(rt r1 0).b) == false) && (((((x2.nth x3.i.toNat).fld 0).s).toList == (⟨#[99, 97, 108, 108]⟩ : ByteArray).toList) == true)) && ((((!(rt r1 0).b) == false) && (((((x2.nth x3.i.toNat).fld 0).s).toList == (⟨#[99, 97, 108, 108]⟩ : ByteArray).toList) == true)) && true)) && (decide (0 ≤ x3.i) && decide (x3.i.toNat < x2.es.length)))) then
 bif ((!(((!(rt r1 0).b) == false) && (((((x2.nth x3.i.toNat).fld 0).s).toList == (⟨#[99, 97, 108, 108]⟩ : ByteArray).toList) == true))) || (((!(rt r1 0).b) == false) && (((((x2.nth x3.i.toNat).fld 0).s).toList == (⟨#[99, 97, 108, 108]⟩ : ByteArray).toList) == true))) then
 bif ((!(((!(rt r1 0).b) == false) && (((((x2.nth x3.i.toNat).fld 0).s).toList == (⟨#[99, 97, 108, 108]⟩ : ByteArray).toList) == true))) || (((!(rt r1 0).b) == false) && (((((x2.nth x3.i.toNat).fld 0).s).toList == (⟨#[99, 97, 108, 108]⟩ : ByteArray).toList) == true))) then
 bif ((!(((!(rt r1 0).b) == false) && (((((x2.nth x3.i.toNat).fld 0).s).toList == (⟨#[99, 97, 108, 108]⟩ : ByteArray).toList) == true))) || true) then
 bif ((!(((!(rt r1 0).b) == false) && (((((x2.nth x3.i.toNat).fld 0).s).toList == (⟨#[99, 97, 108, 108]⟩ : ByteArray).toList) == true))) || (((((!(rt r1 0).b) == false) && (((((x2.nth x3.i.toNat).fld 0).s).toList == (⟨#[99, 97, 108, 108]⟩ : ByteArray).toList) == true)) && (((!(rt r1 0).b) == false) && (((((x2.nth x3.i.toNat).fld 0).s).toList == (⟨#[99, 97, 108, 108]⟩ : ByteArray).toList) == true))) && true)) then
 bif ((!((!(rt r1 0).b) == false)) || (((!(rt r1 0).b) == false) && (bif ((((x2.nth x3.i.toNat).fld 0).s).toList == (⟨#[99, 97, 108, 108]⟩ : ByteArray).toList) then (((!(rt r1 0).b) == false) && (((((x2.nth x3.i.toNat).fld 0).s).toList == (⟨#[99, 97, 108, 108]⟩ : ByteArray).toList) == true)) else true))) then
 bif (bif (!(rt r1 0).b) then true else ((!(rt r1 0).b) == false)) then
 bif (bif (!(rt r1 0).b) then (T.bool true) else (bif ((((x2.nth x3.i.toNat).fld 0).s).toList == (⟨#[99, 97, 108, 108]⟩ : ByteArray).toList) then (T.bool (decide (((x2.nth x3.i.toNat).fld 1).i > x1.i))) else (T.bool false))).b then
 some [(T.bool false)]
 else
 l_spec_l4Code_0 H x1 x2 (T.int (IntKind.wrap .i64 (x3.i + (1 : Int))))
 else
 none
 else
 none
 else
 none
 else
 none
 else
 none
 else
 none
 else
 none
 else
 none
 else
 none
 else
 none
 else
 none
 else
 none
 else
 none
 else
 none
 else
 none
 else
 none
 else
 none
 else
 obind (C F_spec_l6In [(T.int (x2.es.length : Int)), (T.int (1 : Int)), (T.int (40 : Int))]) fun r2 =>
 some [(rt r2 0)] := by kernel_rfl
theorem q_spec_l4Code_0 (H : List Item → CS → R) (C : CallsE) (x1 : T) (x2 : T) (x3 : T) : headE fi_spec_l4Code env H C (hdAt fi_spec_l4Code.body 0) ([(0, .val 3 x1), (1, .val 57 x2), (5, .val 3 x3)], []) = b_spec_l4Code_0 H C x1 x2 x3 := by
 refine (e_spec_l4Code_0 H C x1 x2 x3).trans ?_
 unfold b_spec_l4Code_0
 all_goals cases hc : ((decide (x3.i < (x2.es.length : Int)))) with
 | true =>
  try simp only [bs]
  all_goals cases hc : ((decide (0 ≤ x3.i) && decide (x3.i.toNat < x2.es.length))) with
  | true =>
   try simp only [bs]
   all_goals refine obind_congr fun r1 => ?_
   all_goals try simp only [bs]
   all_goals cases hc : ((!(rt r1 0).b)) with
   | true =>
    try simp only [bs]
    all_goals cases hc : (((((x2.nth x3.i.toNat).fld 0).s).toList == (⟨#[99, 97, 108, 108]⟩ : ByteArray).toList)) with
    | true =>
     try simp only [bs]
     all_goals kernel_rfl
    | false =>
     try simp only [bs]
     all_goals kernel_rfl
   | false =>
    try simp only [bs]
    all_goals cases hc : (((((x2.nth x3.i.toNat).fld 0).s).toList == (⟨#[99, 97, 108, 108]⟩ : ByteArray).toList)) with
    | true =>
     try simp only [bs]
     all_goals cases hc : ((decide (((x2.nth x3.i.toNat).fld 1).i > x1.i))) with
     | true =>
      try simp only [bs]
      all_goals kernel_rfl
     | false =>
      try simp only [bs]
      all_goals kernel_rfl
    | false =>
     try simp only [bs]
     all_goals kernel_rfl
  | false =>
   try simp only [bs]
   all_goals kernel_rfl
 | false =>
  try simp only [bs]
  all_goals refine obind_congr fun r1 => ?_
  all_goals try simp only [bs]
  all_goals kernel_rfl
theorem y_spec_l4Code_0 (x1 : T) (x2 : T) (x3 : T) {r : List T} (h : Yields (fun k => b_spec_l4Code_0 (hl env k fi_spec_l4Code) (cl env k) x1 x2 x3) r) : Yields (fun k => l_spec_l4Code_0 (hl env k fi_spec_l4Code) x1 x2 x3) r := Yields.head (fun H C => q_spec_l4Code_0 H C x1 x2 x3) h
/- loop.example/heirlooms/spec.l1Can -/
noncomputable abbrev b_spec_l1Can (H : List Item → CS → R) (C : CallsE) (a0 a1 : T) : R :=
 bif (!(a1.i == 0)) then
 bif (!((2 : Int) == 0)) then
 some [(T.bool ((((IntKind.wrap .i64 ((a0.i).tdiv a1.i)) : Int).tmod (2 : Int)) == (1 : Int)))]
 else
 none
 else
 none
theorem q_spec_l1Can (H : List Item → CS → R) (C : CallsE) (a0 a1 : T) : enterE fi_spec_l1Can env H C [a0, a1] = b_spec_l1Can H C a0 a1 := by kernel_rfl
theorem y_spec_l1Can (a0 a1 : T) {r : List T} (h : Yields (fun k => b_spec_l1Can (hl env k fi_spec_l1Can) (cl env k) a0 a1) r) : Yields (fun k => cl env k F_spec_l1Can [a0, a1]) r := Yields.call (fi := fi_spec_l1Can) rfl rfl (fun H C => q_spec_l1Can H C a0 a1) h
/- loop.example/heirlooms/spec.l1Able -/
noncomputable abbrev b_spec_l1Able (H : List Item → CS → R) (C : CallsE) (a0 a1 : T) : R :=
 obind (C F_spec_l1Ref [a1]) fun r1 =>
 bif (rt r1 0).b then
 bif (decide (0 ≤ (0 : Int)) && decide (0 < a1.s.size)) then
 bif ((a1.s.data.getD 0 0).toNat == (38 : Int)) then
 some [(T.int (3 : Int))]
 else
 obind (C F_spec_l1Ref [a1]) fun r2 =>
 bif (rt r2 0).b then
 some [(T.int (2 : Int))]
 else
 obind (C F_spec_l1Kind [a1]) fun r3 =>
 bif (rt r3 2).b then
 bif (decide (0 ≤ (rt r3 0).i) && decide (((rt r3 0).i).toNat < a0.es.length)) then
 bif (decide (0 ≤ (rt r3 1).i) && decide (((rt r3 1).i).toNat < ((a0.nth (((rt r3 0).i).toNat)).es).length)) then
 some [(((a0.nth (((rt r3 0).i).toNat)).nth (((rt r3 1).i).toNat)).fld 0)]
 else
 none
 else
 none
 else
 some [(T.int (7 : Int))]
 else
 none
 else
 obind (C F_spec_l1Ref [a1]) fun r2 =>
 bif (rt r2 0).b then
 some [(T.int (2 : Int))]
 else
 obind (C F_spec_l1Kind [a1]) fun r3 =>
 bif (rt r3 2).b then
 bif (decide (0 ≤ (rt r3 0).i) && decide (((rt r3 0).i).toNat < a0.es.length)) then
 bif (decide (0 ≤ (rt r3 1).i) && decide (((rt r3 1).i).toNat < ((a0.nth (((rt r3 0).i).toNat)).es).length)) then
 some [(((a0.nth (((rt r3 0).i).toNat)).nth (((rt r3 1).i).toNat)).fld 0)]
 else
 none
 else
 none
 else
 some [(T.int (7 : Int))]
theorem e_spec_l1Able (H : List Item → CS → R) (C : CallsE) (a0 a1 : T) : enterE fi_spec_l1Able env H C [a0, a1] =
 obind (C F_spec_l1Ref [a1]) fun r1 =>
 bif ((!((rt r1 0).b == true)) || true) then
 bif ((!((rt r1 0).b == true)) || ((((rt r1 0).b == true) && true) && (decide (0 ≤ (0 : Int)) && decide (0 < a1.s.size)))) then
 bif ((!((rt r1 0).b == true)) || ((((rt r1 0).b == true) && true) && true)) then
 bif (bif (rt r1 0).b then ((rt r1 0).b == true) else true) then
 bif (bif (rt r1 0).b then (T.bool ((a1.s.data.getD 0 0).toNat == (38 : Int))) else (T.bool false)).b then
 some [(T.int (3 : Int))]
 else
 obind (C F_spec_l1Ref [a1]) fun r2 =>
 bif (rt r2 0).b then
 some [(T.int (2 : Int))]
 else
 obind (C F_spec_l1Kind [a1]) fun r3 =>
 bif (rt r3 2).b then
 bif (decide (0 ≤ (rt r3 0).i) && decide (((rt r3 0).i).toNat < a0.es.length)) then
 bif (decide (0 ≤ (rt r3 1).i) && decide (((rt r3 1).i).toNat < ((a0.nth (((rt r3 0).i).toNat)).es).length)) then
 some [(((a0.nth (((rt r3 0).i).toNat)).nth (((rt r3 1).i).toNat)).fld 0)]
 else
 none
 else
 none
 else
 some [(T.int (7 : Int))]
 else
 none
 else
 none
 else
 none
 else
 none := by kernel_rfl
theorem q_spec_l1Able (H : List Item → CS → R) (C : CallsE) (a0 a1 : T) : enterE fi_spec_l1Able env H C [a0, a1] = b_spec_l1Able H C a0 a1 := by
 refine (e_spec_l1Able H C a0 a1).trans ?_
 unfold b_spec_l1Able
 all_goals refine obind_congr fun r1 => ?_
 all_goals try simp only [bs]
 all_goals cases hc : ((rt r1 0).b) with
 | true =>
  try simp only [bs]
  all_goals cases hc : ((decide (0 ≤ (0 : Int)) && decide (0 < a1.s.size))) with
  | true =>
   try simp only [bs]
   all_goals cases hc : (((a1.s.data.getD 0 0).toNat == (38 : Int))) with
   | true =>
    try simp only [bs]
    all_goals kernel_rfl
   | false =>
    try simp only [bs]
    all_goals refine obind_congr fun r2 => ?_
    all_goals try simp only [bs]
    all_goals cases hc : ((rt r2 0).b) with
    | true =>
     try simp only [bs]
     all_goals kernel_rfl
    | false =>
     try simp only [bs]
     all_goals refine obind_congr fun r3 => ?_
     all_goals try simp only [bs]
     all_goals cases hc : ((rt r3 2).b) with
     | true =>
      try simp only [bs]
      all_goals cases hc : ((decide (0 ≤ (rt r3 0).i) && decide (((rt r3 0).i).toNat < a0.es.length))) with
      | true =>
       try simp only [bs]
       all_goals cases hc : ((decide (0 ≤ (rt r3 1).i) && decide (((rt r3 1).i).toNat < ((a0.nth (((rt r3 0).i).toNat)).es).length))) with
       | true =>
        try simp only [bs]
        all_goals kernel_rfl
       | false =>
        try simp only [bs]
        all_goals kernel_rfl
      | false =>
       try simp only [bs]
       all_goals kernel_rfl
     | false =>
      try simp only [bs]
      all_goals kernel_rfl
  | false =>
   try simp only [bs]
   all_goals kernel_rfl
 | false =>
  try simp only [bs]
  all_goals refine obind_congr fun r2 => ?_
  all_goals try simp only [bs]
  all_goals cases hc : ((rt r2 0).b) with
  | true =>
   try simp only [bs]
   all_goals kernel_rfl
  | false =>
   try simp only [bs]
   all_goals refine obind_congr fun r3 => ?_
   all_goals try simp only [bs]
   all_goals cases hc : ((rt r3 2).b) with
   | true =>
    try simp only [bs]
    all_goals cases hc : ((decide (0 ≤ (rt r3 0).i) && decide (((rt r3 0).i).toNat < a0.es.length))) with
    | true =>
     try simp only [bs]
     all_goals cases hc : ((decide (0 ≤ (rt r3 1).i) && decide (((rt r3 1).i).toNat < ((a0.nth (((rt r3 0).i).toNat)).es).length))) with
     | true =>
      try simp only [bs]
      all_goals kernel_rfl
     | false =>
      try simp only [bs]
      all_goals kernel_rfl
    | false =>
     try simp only [bs]
     all_goals kernel_rfl
   | false =>
    try simp only [bs]
    all_goals kernel_rfl
theorem y_spec_l1Able (a0 a1 : T) {r : List T} (h : Yields (fun k => b_spec_l1Able (hl env k fi_spec_l1Able) (cl env k) a0 a1) r) : Yields (fun k => cl env k F_spec_l1Able [a0, a1]) r := Yields.call (fi := fi_spec_l1Able) rfl rfl (fun H C => q_spec_l1Able H C a0 a1) h
/- loop.example/heirlooms/laws.toRecord -/
noncomputable abbrev b_laws_toRecord (H : List Item → CS → R) (C : CallsE) (a0 : T) : R :=
 obind (C F_laws_toStringS [(a0.fld 1)]) fun r1 =>
 some [(T.st [(a0.fld 0), (rt r1 0)])]
theorem q_laws_toRecord (H : List Item → CS → R) (C : CallsE) (a0 : T) : enterE fi_laws_toRecord env H C [a0] = b_laws_toRecord H C a0 := by kernel_rfl
theorem y_laws_toRecord (a0 : T) {r : List T} (h : Yields (fun k => b_laws_toRecord (hl env k fi_laws_toRecord) (cl env k) a0) r) : Yields (fun k => cl env k F_laws_toRecord [a0]) r := Yields.call (fi := fi_laws_toRecord) rfl rfl (fun H C => q_laws_toRecord H C a0) h
/- loop.example/heirlooms/laws.toFunc -/
noncomputable abbrev b_laws_toFunc (H : List Item → CS → R) (C : CallsE) (a0 : T) : R :=
 obind (C F_laws_toStringS [(a0.fld 1)]) fun r1 =>
 obind (C F_laws_toStringS [(a0.fld 2)]) fun r2 =>
 obind (C F_laws_toStringS [(a0.fld 3)]) fun r3 =>
 obind (C F_laws_toIntS [(a0.fld 4)]) fun r4 =>
 obind (C F_laws_toInsS [(a0.fld 5)]) fun r5 =>
 some [(T.st [(a0.fld 0), (rt r1 0), (rt r2 0), (rt r3 0), (rt r4 0), (rt r5 0)])]
theorem q_laws_toFunc (H : List Item → CS → R) (C : CallsE) (a0 : T) : enterE fi_laws_toFunc env H C [a0] = b_laws_toFunc H C a0 := by kernel_rfl
theorem y_laws_toFunc (a0 : T) {r : List T} (h : Yields (fun k => b_laws_toFunc (hl env k fi_laws_toFunc) (cl env k) a0) r) : Yields (fun k => cl env k F_laws_toFunc [a0]) r := Yields.call (fi := fi_laws_toFunc) rfl rfl (fun H C => q_laws_toFunc H C a0) h
noncomputable def l_impl_KindsBad_0 (H : List Item → CS → R) (x1 : T) (x2 : T) (x3 : T) (x4 : T) : R := H (hdAt fi_impl_KindsBad.body 0) ([(0, .val 54 x1), (10, .val 54 x2), (11, .val 3 x3), (12, .val 3 x4)], [])
noncomputable def l_impl_KindsBad_1 (H : List Item → CS → R) (x1 : T) (x2 : T) (x3 : T) (x4 : T) (x5 : T) (x6 : T) (x7 : T) : R := H (hdAt fi_impl_KindsBad.body 1) ([(0, .val 54 x1), (4, .val 3 x2), (10, .val 54 x3), (11, .val 3 x4), (12, .val 3 x5), (22, .val 3 x6), (23, .val 3 x7)], [])
/- loop.example/heirlooms/impl.KindsBad -/
noncomputable abbrev b_impl_KindsBad (H : List Item → CS → R) (C : CallsE) (a0 : T) : R :=
 bif (decide ((a0.es.length : Int) > (3 : Int))) then
 some [(T.int (3 : Int)), (T.int (0 : Int))]
 else
 l_impl_KindsBad_0 H a0 a0 (T.int (a0.es.length : Int)) (T.int (0 : Int))
theorem q_impl_KindsBad (H : List Item → CS → R) (C : CallsE) (a0 : T) : enterE fi_impl_KindsBad env H C [a0] = b_impl_KindsBad H C a0 := by kernel_rfl
theorem y_impl_KindsBad (a0 : T) {r : List T} (h : Yields (fun k => b_impl_KindsBad (hl env k fi_impl_KindsBad) (cl env k) a0) r) : Yields (fun k => cl env k F_impl_KindsBad [a0]) r := Yields.call (fi := fi_impl_KindsBad) rfl rfl (fun H C => q_impl_KindsBad H C a0) h
noncomputable abbrev b_impl_KindsBad_0 (H : List Item → CS → R) (C : CallsE) (x1 : T) (x2 : T) (x3 : T) (x4 : T) : R :=
 bif (decide (x4.i < x3.i)) then
 bif (decide (0 ≤ x4.i) && decide (x4.i.toNat < x2.es.length)) then
 bif (decide ((((x2.nth x4.i.toNat).es).length : Int) > (3 : Int))) then
 some [x4, (T.int (3 : Int))]
 else
 l_impl_KindsBad_1 H x1 x4 x2 x3 x4 (T.int (((x2.nth x4.i.toNat).es).length : Int)) (T.int (0 : Int))
 else
 none
 else
 some [(T.int (-1 : Int)), (T.int (-1 : Int))]
theorem q_impl_KindsBad_0 (H : List Item → CS → R) (C : CallsE) (x1 : T) (x2 : T) (x3 : T) (x4 : T) : headE fi_impl_KindsBad env H C (hdAt fi_impl_KindsBad.body 0) ([(0, .val 54 x1), (10, .val 54 x2), (11, .val 3 x3), (12, .val 3 x4)], []) = b_impl_KindsBad_0 H C x1 x2 x3 x4 := by kernel_rfl
theorem y_impl_KindsBad_0 (x1 : T) (x2 : T) (x3 : T) (x4 : T) {r : List T} (h : Yields (fun k => b_impl_KindsBad_0 (hl env k fi_impl_KindsBad) (cl env k) x1 x2 x3 x4) r) : Yields (fun k => l_impl_KindsBad_0 (hl env k fi_impl_KindsBad) x1 x2 x3 x4) r := Yields.head (fun H C => q_impl_KindsBad_0 H C x1 x2 x3 x4) h
noncomputable abbrev b_impl_KindsBad_1 (H : List Item → CS → R) (C : CallsE) (x1 : T) (x2 : T) (x3 : T) (x4 : T) (x5 : T) (x6 : T) (x7 : T) : R :=
 bif (decide (x7.i < x6.i)) then
 obind (C F_impl_recordOk [x1, x2, x7]) fun r1 =>
 bif (!(rt r1 0).b) then
 some [x2, x7]
 else
 l_impl_KindsBad_1 H x1 x2 x3 x4 x5 x6 (T.int (IntKind.wrap .i64 (x7.i + (1 : Int))))
 else
 l_impl_KindsBad_0 H x1 x3 x4 (T.int (IntKind.wrap .i64 (x5.i + (1 : Int))))
theorem q_impl_KindsBad_1 (H : List Item → CS → R) (C : CallsE) (x1 : T) (x2 : T) (x3 : T) (x4 : T) (x5 : T) (x6 : T) (x7 : T) : headE fi_impl_KindsBad env H C (hdAt fi_impl_KindsBad.body 1) ([(0, .val 54 x1), (4, .val 3 x2), (10, .val 54 x3), (11, .val 3 x4), (12, .val 3 x5), (22, .val 3 x6), (23, .val 3 x7)], []) = b_impl_KindsBad_1 H C x1 x2 x3 x4 x5 x6 x7 := by kernel_rfl
theorem y_impl_KindsBad_1 (x1 : T) (x2 : T) (x3 : T) (x4 : T) (x5 : T) (x6 : T) (x7 : T) {r : List T} (h : Yields (fun k => b_impl_KindsBad_1 (hl env k fi_impl_KindsBad) (cl env k) x1 x2 x3 x4 x5 x6 x7) r) : Yields (fun k => l_impl_KindsBad_1 (hl env k fi_impl_KindsBad) x1 x2 x3 x4 x5 x6 x7) r := Yields.head (fun H C => q_impl_KindsBad_1 H C x1 x2 x3 x4 x5 x6 x7) h
noncomputable def l_impl_typesFit_0 (H : List Item → CS → R) (x1 : T) (x2 : T) (x3 : T) (x4 : T) : R := H (hdAt fi_impl_typesFit.body 0) ([(0, .val 54 x1), (9, .val 56 x2), (10, .val 3 x3), (11, .val 3 x4)], [])
/- loop.example/heirlooms/impl.typesFit -/
noncomputable abbrev b_impl_typesFit (H : List Item → CS → R) (C : CallsE) (a0 a1 : T) : R :=
 l_impl_typesFit_0 H a0 a1 (T.int (a1.es.length : Int)) (T.int (0 : Int))
theorem q_impl_typesFit (H : List Item → CS → R) (C : CallsE) (a0 a1 : T) : enterE fi_impl_typesFit env H C [a0, a1] = b_impl_typesFit H C a0 a1 := by kernel_rfl
theorem y_impl_typesFit (a0 a1 : T) {r : List T} (h : Yields (fun k => b_impl_typesFit (hl env k fi_impl_typesFit) (cl env k) a0 a1) r) : Yields (fun k => cl env k F_impl_typesFit [a0, a1]) r := Yields.call (fi := fi_impl_typesFit) rfl rfl (fun H C => q_impl_typesFit H C a0 a1) h
noncomputable abbrev b_impl_typesFit_0 (H : List Item → CS → R) (C : CallsE) (x1 : T) (x2 : T) (x3 : T) (x4 : T) : R :=
 bif (decide (x4.i < x3.i)) then
 bif (decide (0 ≤ x4.i) && decide (x4.i.toNat < x2.es.length)) then
 obind (C F_impl_signOf [(x2.nth x4.i.toNat)]) fun r1 =>
 obind (C F_impl_plainOk [x1, (rt r1 1)]) fun r2 =>
 bif (!(rt r2 0).b) then
 some [(T.bool false)]
 else
 l_impl_typesFit_0 H x1 x2 x3 (T.int (IntKind.wrap .i64 (x4.i + (1 : Int))))
 else
 none
 else
 some [(T.bool true)]
theorem q_impl_typesFit_0 (H : List Item → CS → R) (C : CallsE) (x1 : T) (x2 : T) (x3 : T) (x4 : T) : headE fi_impl_typesFit env H C (hdAt fi_impl_typesFit.body 0) ([(0, .val 54 x1), (9, .val 56 x2), (10, .val 3 x3), (11, .val 3 x4)], []) = b_impl_typesFit_0 H C x1 x2 x3 x4 := by kernel_rfl
theorem y_impl_typesFit_0 (x1 : T) (x2 : T) (x3 : T) (x4 : T) {r : List T} (h : Yields (fun k => b_impl_typesFit_0 (hl env k fi_impl_typesFit) (cl env k) x1 x2 x3 x4) r) : Yields (fun k => l_impl_typesFit_0 (hl env k fi_impl_typesFit) x1 x2 x3 x4) r := Yields.head (fun H C => q_impl_typesFit_0 H C x1 x2 x3 x4) h
/- loop.example/heirlooms/impl.InsOk -/
noncomputable abbrev b_impl_InsOk (H : List Item → CS → R) (C : CallsE) (a0 : T) : R :=
 obind (C F_impl_formOf [(a0.fld 0)]) fun r1 =>
 bif (rt r1 1).b then
 obind (C F_impl_limitOk [((rt r1 0).fld 1), (a0.fld 1)]) fun r2 =>
 bif (rt r2 0).b then
 obind (C F_impl_limitOk [((rt r1 0).fld 2), (a0.fld 2)]) fun r3 =>
 some [(rt r3 0)]
 else
 some [(T.bool false)]
 else
 some [(T.bool false)]
theorem e_impl_InsOk (H : List Item → CS → R) (C : CallsE) (a0 : T) : enterE fi_impl_InsOk env H C [a0] =
 obind (C F_impl_formOf [(a0.fld 0)]) fun r1 =>
 bif ((!((rt r1 1).b == true)) || true) then
 bif ((!((rt r1 1).b == true)) || ((rt r1 1).b == true)) then
 bif ((!((rt r1 1).b == true)) || true) then
 bif ((!((rt r1 1).b == true)) || ((rt r1 1).b == true)) then
 bif ((!((rt r1 1).b == true)) || (((rt r1 1).b == true) && (((rt r1 1).b == true) && true))) then
 obind ((bif ((rt r1 1).b == true) then C F_impl_limitOk [((rt r1 0).fld 1), (a0.fld 1)] else some [])) fun r2 =>
 bif (bif (rt r1 1).b then ((rt r1 1).b == true) else true) then
 bif ((!((bif (rt r1 1).b then (rt r2 0) else (T.bool false)).b == true)) || true) then
 bif ((!((bif (rt r1 1).b then (rt r2 0) else (T.bool false)).b == true)) || ((bif (rt r1 1).b then (rt r2 0) else (T.bool false)).b == true)) then
 bif ((!((bif (rt r1 1).b then (rt r2 0) else (T.bool false)).b == true)) || true) then
 bif ((!((bif (rt r1 1).b then (rt r2 0) else (T.bool false)).b == true)) || ((bif (rt r1 1).b then (rt r2 0) else (T.bool false)).b == true)) then
 bif ((!((bif (rt r1 1).b then (rt r2 0) else (T.bool false)).b == true)) || (((bif (rt r1 1).b then (rt r2 0) else (T.bool false)).b == true) && (((bif (rt r1 1).b then (rt r2 0) else (T.bool false)).b == true) && true))) then
 obind ((bif ((bif (rt r1 1).b then (rt r2 0) else (T.bool false)).b == true) then C F_impl_limitOk [((rt r1 0).fld 2), (a0.fld 2)] else some [])) fun r3 =>
 bif (bif (bif (rt r1 1).b then (rt r2 0) else (T.bool false)).b then ((bif (rt r1 1).b then (rt r2 0) else (T.bool false)).b == true) else true) then
 some [(bif (bif (rt r1 1).b then (rt r2 0) else (T.bool false)).b then (rt r3 0) else (T.bool false))]
 else
 none
 else
 none
 else
 none
 else
 none
 else
 none
 else
 none
 else
 none
 else
 none
 else
 none
 else
 none
 else
 none
 else
 none := by kernel_rfl
theorem q_impl_InsOk (H : List Item → CS → R) (C : CallsE) (a0 : T) : enterE fi_impl_InsOk env H C [a0] = b_impl_InsOk H C a0 := by
 refine (e_impl_InsOk H C a0).trans ?_
 unfold b_impl_InsOk
 all_goals refine obind_congr fun r1 => ?_
 all_goals try simp only [bs]
 all_goals cases hc : ((rt r1 1).b) with
 | true =>
  try simp only [bs]
  all_goals refine obind_congr fun r2 => ?_
  all_goals try simp only [bs]
  all_goals cases hc : ((rt r2 0).b) with
  | true =>
   try simp only [bs]
   all_goals refine obind_congr fun r3 => ?_
   all_goals try simp only [bs]
   all_goals kernel_rfl
  | false =>
   try simp only [bs]
   all_goals kernel_rfl
 | false =>
  try simp only [bs]
  all_goals kernel_rfl
theorem y_impl_InsOk (a0 : T) {r : List T} (h : Yields (fun k => b_impl_InsOk (hl env k fi_impl_InsOk) (cl env k) a0) r) : Yields (fun k => cl env k F_impl_InsOk [a0]) r := Yields.call (fi := fi_impl_InsOk) rfl rfl (fun H C => q_impl_InsOk H C a0) h
/- loop.example/heirlooms/impl.copyTexts -/
noncomputable abbrev b_impl_copyTexts (H : List Item → CS → R) (C : CallsE) (a0 : T) : R :=
 bif (decide (([] : List T).length + a0.es.length ≤ LIM)) then
 obind (C F_slices_Clip_string [(T.sl (([] : List T) ++ a0.es))]) fun r1 =>
 some [(T.sl (((([] : List T) ++ a0.es).take ((([] : List T) ++ a0.es).length)).drop 0))]
 else
 none
theorem q_impl_copyTexts (H : List Item → CS → R) (C : CallsE) (a0 : T) : enterE fi_impl_copyTexts env H C [a0] = b_impl_copyTexts H C a0 := by kernel_rfl
theorem y_impl_copyTexts (a0 : T) {r : List T} (h : Yields (fun k => b_impl_copyTexts (hl env k fi_impl_copyTexts) (cl env k) a0) r) : Yields (fun k => cl env k F_impl_copyTexts [a0]) r := Yields.call (fi := fi_impl_copyTexts) rfl rfl (fun H C => q_impl_copyTexts H C a0) h
/- slices.Clip[[]loop.example/heirlooms/impl.Record,loop.example/heirlooms/impl.Record] -/
noncomputable abbrev b_slices_Clip_impl_Record (H : List Item → CS → R) (C : CallsE) (a0 : T) : R :=
 bif (decide (0 ≤ (0 : Int)) && (decide ((0 : Int) ≤ (a0.es.length : Int)) && (decide ((a0.es.length : Int) ≤ (a0.es.length : Int)) && decide ((a0.es.length : Int) ≤ (a0.es.length : Int))))) then
 some [(T.sl ((a0.es.take a0.es.length).drop 0))]
 else
 none
theorem q_slices_Clip_impl_Record (H : List Item → CS → R) (C : CallsE) (a0 : T) : enterE fi_slices_Clip_impl_Record env H C [a0] = b_slices_Clip_impl_Record H C a0 := by kernel_rfl
theorem y_slices_Clip_impl_Record (a0 : T) {r : List T} (h : Yields (fun k => b_slices_Clip_impl_Record (hl env k fi_slices_Clip_impl_Record) (cl env k) a0) r) : Yields (fun k => cl env k F_slices_Clip_impl_Record [a0]) r := Yields.call (fi := fi_slices_Clip_impl_Record) rfl rfl (fun H C => q_slices_Clip_impl_Record H C a0) h
/- slices.Clip[[]loop.example/heirlooms/impl.Ins,loop.example/heirlooms/impl.Ins] -/
noncomputable abbrev b_slices_Clip_impl_Ins (H : List Item → CS → R) (C : CallsE) (a0 : T) : R :=
 bif (decide (0 ≤ (0 : Int)) && (decide ((0 : Int) ≤ (a0.es.length : Int)) && (decide ((a0.es.length : Int) ≤ (a0.es.length : Int)) && decide ((a0.es.length : Int) ≤ (a0.es.length : Int))))) then
 some [(T.sl ((a0.es.take a0.es.length).drop 0))]
 else
 none
theorem q_slices_Clip_impl_Ins (H : List Item → CS → R) (C : CallsE) (a0 : T) : enterE fi_slices_Clip_impl_Ins env H C [a0] = b_slices_Clip_impl_Ins H C a0 := by kernel_rfl
theorem y_slices_Clip_impl_Ins (a0 : T) {r : List T} (h : Yields (fun k => b_slices_Clip_impl_Ins (hl env k fi_slices_Clip_impl_Ins) (cl env k) a0) r) : Yields (fun k => cl env k F_slices_Clip_impl_Ins [a0]) r := Yields.call (fi := fi_slices_Clip_impl_Ins) rfl rfl (fun H C => q_slices_Clip_impl_Ins H C a0) h
/- loop.example/heirlooms/impl.copyInts -/
noncomputable abbrev b_impl_copyInts (H : List Item → CS → R) (C : CallsE) (a0 : T) : R :=
 bif (decide (([] : List T).length + a0.es.length ≤ LIM)) then
 obind (C F_slices_Clip_int [(T.sl (([] : List T) ++ a0.es))]) fun r1 =>
 some [(T.sl (((([] : List T) ++ a0.es).take ((([] : List T) ++ a0.es).length)).drop 0))]
 else
 none
theorem q_impl_copyInts (H : List Item → CS → R) (C : CallsE) (a0 : T) : enterE fi_impl_copyInts env H C [a0] = b_impl_copyInts H C a0 := by kernel_rfl
theorem y_impl_copyInts (a0 : T) {r : List T} (h : Yields (fun k => b_impl_copyInts (hl env k fi_impl_copyInts) (cl env k) a0) r) : Yields (fun k => cl env k F_impl_copyInts [a0]) r := Yields.call (fi := fi_impl_copyInts) rfl rfl (fun H C => q_impl_copyInts H C a0) h
/- loop.example/heirlooms/impl.kindIn -/
noncomputable abbrev b_impl_kindIn (H : List Item → CS → R) (C : CallsE) (a0 a1 : T) : R :=
 obind (C F_impl_kindAt [a1]) fun r1 =>
 bif (rt r1 2).b then
 bif (decide ((rt r1 0).i < (a0.es.length : Int))) then
 bif (decide (0 ≤ (rt r1 0).i) && decide (((rt r1 0).i).toNat < a0.es.length)) then
 some [(T.bool (decide ((rt r1 1).i < (((a0.nth (((rt r1 0).i).toNat)).es).length : Int))))]
 else
 none
 else
 some [(T.bool false)]
 else
 some [(T.bool false)]
theorem e_impl_kindIn (H : List Item → CS → R) (C : CallsE) (a0 a1 : T) : enterE fi_impl_kindIn env H C [a0, a1] =
 obind (C F_impl_kindAt [a1]) fun r1 =>
 bif ((!((rt r1 2).b == true)) || true) then
 bif ((!((rt r1 2).b == true)) || true) then
 bif ((!((rt r1 2).b == true)) || ((rt r1 2).b == true)) then
 bif ((!((rt r1 2).b == true)) || ((((rt r1 2).b == true) && ((rt r1 2).b == true)) && true)) then
 bif (bif (rt r1 2).b then ((rt r1 2).b == true) else true) then
 bif ((!((bif (rt r1 2).b then (T.bool (decide ((rt r1 0).i < (a0.es.length : Int)))) else (T.bool false)).b == true)) || true) then
 bif ((!((bif (rt r1 2).b then (T.bool (decide ((rt r1 0).i < (a0.es.length : Int)))) else (T.bool false)).b == true)) || true) then
 bif ((!((bif (rt r1 2).b then (T.bool (decide ((rt r1 0).i < (a0.es.length : Int)))) else (T.bool false)).b == true)) || true) then
 bif ((!((bif (rt r1 2).b then (T.bool (decide ((rt r1 0).i < (a0.es.length : Int)))) else (T.bool false)).b == true)) || ((((bif (rt r1 2).b then (T.bool (decide ((rt r1 0).i < (a0.es.length : Int)))) else (T.bool false)).b == true) && (((bif (rt r1 2).b then (T.bool (decide ((rt r1 0).i < (a0.es.length : Int)))) else (T.bool false)).b == true) && true)) && (decide (0 ≤ (rt r1 0).i) && decide (((rt r1 0).i).toNat < a0.es.length)))) then
 bif ((!((bif (rt r1 2).b then (T.bool (decide ((rt r1 0).i < (a0.es.length : Int)))) else (T.bool false)).b == true)) || ((bif (rt r1 2).b then (T.bool (decide ((rt r1 0).i < (a0.es.length : Int)))) else (T.bool false)).b == true)) then
 bif ((!((bif (rt r1 2).b then (T.bool (decide ((rt r1 0).i < (a0.es.length : Int)))) else (T.bool false)).b == true)) || ((bif (rt r1 2).b then (T.bool (decide ((rt r1 0).i < (a0.es.length : Int)))) else (T.bool false)).b == true)) then
 bif ((!((bif (rt r1 2).b then (T.bool (decide ((rt r1 0).i < (a0.es.length : Int)))) else (T.bool false)).b == true)) || ((((bif (rt r1 2).b then (T.bool (decide ((rt r1 0).i < (a0.es.length : Int)))) else (T.bool false)).b == true) && ((bif (rt r1 2).b then (T.bool (decide ((rt r1 0).i < (a0.es.length : Int)))) else (T.bool false)).b == true)) && true)) then
 bif (bif (bif (rt r1 2).b then (T.bool (decide ((rt r1 0).i < (a0.es.length : Int)))) else (T.bool false)).b then ((bif (rt r1 2).b then (T.bool (decide ((rt r1 0).i < (a0.es.length : Int)))) else (T.bool false)).b == true) else true) then
 some [(bif (bif (rt r1 2).b then (T.bool (decide ((rt r1 0).i < (a0.es.length : Int)))) else (T.bool false)).b then (T.bool (decide ((rt r1 1).i < (((a0.nth (((rt r1 0).i).toNat)).es).length : Int)))) else (T.bool false))]
 else
 none
 else
 none
 else
 none
 else
 none
 else
 none
 else
 none
 else
 none
 else
 none
 else
 none
 else
 none
 else
 none
 else
 none
 else
 none := by kernel_rfl
theorem q_impl_kindIn (H : List Item → CS → R) (C : CallsE) (a0 a1 : T) : enterE fi_impl_kindIn env H C [a0, a1] = b_impl_kindIn H C a0 a1 := by
 refine (e_impl_kindIn H C a0 a1).trans ?_
 unfold b_impl_kindIn
 all_goals refine obind_congr fun r1 => ?_
 all_goals try simp only [bs]
 all_goals cases hc : ((rt r1 2).b) with
 | true =>
  try simp only [bs]
  all_goals cases hc : ((decide ((rt r1 0).i < (a0.es.length : Int)))) with
  | true =>
   try simp only [bs]
   all_goals cases hc : ((decide (0 ≤ (rt r1 0).i) && decide (((rt r1 0).i).toNat < a0.es.length))) with
   | true =>
    try simp only [bs]
    all_goals kernel_rfl
   | false =>
    try simp only [bs]
    all_goals kernel_rfl
  | false =>
   try simp only [bs]
   all_goals kernel_rfl
 | false =>
  try simp only [bs]
  all_goals kernel_rfl
theorem y_impl_kindIn (a0 a1 : T) {r : List T} (h : Yields (fun k => b_impl_kindIn (hl env k fi_impl_kindIn) (cl env k) a0 a1) r) : Yields (fun k => cl env k F_impl_kindIn [a0, a1]) r := Yields.call (fi := fi_impl_kindIn) rfl rfl (fun H C => q_impl_kindIn H C a0 a1) h
/- loop.example/heirlooms/impl.kindAt -/
noncomputable abbrev b_impl_kindAt (H : List Item → CS → R) (C : CallsE) (a0 : T) : R :=
 bif ((a0.s.size : Int) != (3 : Int)) then
 some [(T.int (0 : Int)), (T.int (0 : Int)), (T.bool false)]
 else
 bif (decide (0 ≤ (0 : Int)) && decide (0 < a0.s.size)) then
 bif ((a0.s.data.getD 0 0).toNat != (83 : Int)) then
 some [(T.int (0 : Int)), (T.int (0 : Int)), (T.bool false)]
 else
 bif (decide (0 ≤ (1 : Int)) && decide (1 < a0.s.size)) then
 bif (decide ((a0.s.data.getD 1 0).toNat < (48 : Int))) then
 some [(T.int (0 : Int)), (T.int (0 : Int)), (T.bool false)]
 else
 bif (decide ((a0.s.data.getD 1 0).toNat > (57 : Int))) then
 some [(T.int (0 : Int)), (T.int (0 : Int)), (T.bool false)]
 else
 bif (decide (0 ≤ (2 : Int)) && decide (2 < a0.s.size)) then
 bif (decide ((a0.s.data.getD 2 0).toNat < (48 : Int))) then
 some [(T.int (0 : Int)), (T.int (0 : Int)), (T.bool false)]
 else
 bif (decide ((a0.s.data.getD 2 0).toNat > (57 : Int))) then
 some [(T.int (0 : Int)), (T.int (0 : Int)), (T.bool false)]
 else
 some [(T.int (IntKind.wrap .i64 (IntKind.wrap .u8 ((a0.s.data.getD 1 0).toNat - (48 : Int))))), (T.int (IntKind.wrap .i64 (IntKind.wrap .u8 ((a0.s.data.getD 2 0).toNat - (48 : Int))))), (T.bool true)]
 else
 none
 else
 none
 else
 none
theorem e_impl_kindAt (H : List Item → CS → R) (C : CallsE) (a0 : T) : enterE fi_impl_kindAt env H C [a0] =
 bif ((!(((a0.s.size : Int) != (3 : Int)) == false)) || true) then
 bif ((!(((a0.s.size : Int) != (3 : Int)) == false)) || (((((a0.s.size : Int) != (3 : Int)) == false) && true) && (decide (0 ≤ (0 : Int)) && decide (0 < a0.s.size)))) then
 bif ((!(((a0.s.size : Int) != (3 : Int)) == false)) || (((((a0.s.size : Int) != (3 : Int)) == false) && true) && true)) then
 bif (bif ((a0.s.size : Int) != (3 : Int)) then true else (((a0.s.size : Int) != (3 : Int)) == false)) then
 bif ((!((bif ((a0.s.size : Int) != (3 : Int)) then (T.bool true) else (T.bool ((a0.s.data.getD 0 0).toNat != (83 : Int)))).b == false)) || true) then
 bif ((!((bif ((a0.s.size : Int) != (3 : Int)) then (T.bool true) else (T.bool ((a0.s.data.getD 0 0).toNat != (83 : Int)))).b == false)) || ((((bif ((a0.s.size : Int) != (3 : Int)) then (T.bool true) else (T.bool ((a0.s.data.getD 0 0).toNat != (83 : Int)))).b == false) && true) && (decide (0 ≤ (1 : Int)) && decide (1 < a0.s.size)))) then
 bif ((!((bif ((a0.s.size : Int) != (3 : Int)) then (T.bool true) else (T.bool ((a0.s.data.getD 0 0).toNat != (83 : Int)))).b == false)) || ((((bif ((a0.s.size : Int) != (3 : Int)) then (T.bool true) else (T.bool ((a0.s.data.getD 0 0).toNat != (83 : Int)))).b == false) && true) && true)) then
 bif (bif (bif ((a0.s.size : Int) != (3 : Int)) then (T.bool true) else (T.bool ((a0.s.data.getD 0 0).toNat != (83 : Int)))).b then true else ((bif ((a0.s.size : Int) != (3 : Int)) then (T.bool true) else (T.bool ((a0.s.data.getD 0 0).toNat != (83 : Int)))).b == false)) then
 bif ((!((bif (bif ((a0.s.size : Int) != (3 : Int)) then (T.bool true) else (T.bool ((a0.s.data.getD 0 0).toNat != (83 : Int)))).b then (T.bool true) else (T.bool (decide ((a0.s.data.getD 1 0).toNat < (48 : Int))))).b == false)) || true) then
 bif ((!((bif (bif ((a0.s.size : Int) != (3 : Int)) then (T.bool true) else (T.bool ((a0.s.data.getD 0 0).toNat != (83 : Int)))).b then (T.bool true) else (T.bool (decide ((a0.s.data.getD 1 0).toNat < (48 : Int))))).b == false)) || ((((bif (bif ((a0.s.size : Int) != (3 : Int)) then (T.bool true) else (T.bool ((a0.s.data.getD 0 0).toNat != (83 : Int)))).b then (T.bool true) else (T.bool (decide ((a0.s.data.getD 1 0).toNat < (48 : Int))))).b == false) && true) && (decide (0 ≤ (1 : Int)) && decide (1 < a0.s.size)))) then
 bif ((!((bif (bif ((a0.s.size : Int) != (3 : Int)) then (T.bool true) else (T.bool ((a0.s.data.getD 0 0).toNat != (83 : Int)))).b then (T.bool true) else (T.bool (decide ((a0.s.data.getD 1 0).toNat < (48 : Int))))).b == false)) || ((((bif (bif ((a0.s.size : Int) != (3 : Int)) then (T.bool true) else (T.bool ((a0.s.data.getD 0 0).toNat != (83 : Int)))).b then (T.bool true) else (T.bool (decide ((a0.s.data.getD 1 0).toNat < (48 : Int))))).b == false) && true) && true)) then
 bif (bif (bif (bif ((a0.s.size : Int) != (3 : Int)) then (T.bool true) else (T.bool ((a0.s.data.getD 0 0).toNat != (83 : Int)))).b then (T.bool true) else (T.bool (decide ((a0.s.data.getD 1 0).toNat < (48 : Int))))).b then true else ((bif (bif ((a0.s.size : Int) != (3 : Int)) then (T.bool true) else (T.bool ((a0.s.data.getD 0 0).toNat != (83 : Int)))).b then (T.bool true) else (T.bool (decide ((a0.s.data.getD 1 0).toNat < (48 : Int))))).b == false)) then
 bif ((!((bif (bif (bif ((a0.s.size : Int) != (3 : Int)) then (T.bool true) else (T.bool ((a0.s.data.getD 0 0).toNat != (83 : Int)))).b then (T.bool true) else (T.bool (decide ((a0.s.data.getD 1 0).toNat < (48 : Int))))).b then (T.bool true) else (T.bool (decide ((a0.s.data.getD 1 0).toNat > (57 : Int))))).b == false)) || true) then
 bif ((!((bif (bif (bif ((a0.s.size : Int) != (3 : Int)) then (T.bool true) else (T.bool ((a0.s.data.getD 0 0).toNat != (83 : Int)))).b then (T.bool true) else (T.bool (decide ((a0.s.data.getD 1 0).toNat < (48 : Int))))).b then (T.bool true) else (T.bool (decide ((a0.s.data.getD 1 0).toNat > (57 : Int))))).b == false)) || ((((bif (bif (bif ((a0.s.size : Int) != (3 : Int)) then (T.bool true) else (T.bool ((a0.s.data.getD 0 0).toNat != (83 : Int)))).b then (T.bool true) else (T.bool (decide ((a0.s.data.getD 1 0).toNat < (48 : Int))))).b then (T.bool true) else (T.bool (decide ((a0.s.data.getD 1 0).toNat > (57 : Int))))).b == false) && true) && (decide (0 ≤ (2 : Int)) && decide (2 < a0.s.size)))) then
 bif ((!((bif (bif (bif ((a0.s.size : Int) != (3 : Int)) then (T.bool true) else (T.bool ((a0.s.data.getD 0 0).toNat != (83 : Int)))).b then (T.bool true) else (T.bool (decide ((a0.s.data.getD 1 0).toNat < (48 : Int))))).b then (T.bool true) else (T.bool (decide ((a0.s.data.getD 1 0).toNat > (57 : Int))))).b == false)) || ((((bif (bif (bif ((a0.s.size : Int) != (3 : Int)) then (T.bool true) else (T.bool ((a0.s.data.getD 0 0).toNat != (83 : Int)))).b then (T.bool true) else (T.bool (decide ((a0.s.data.getD 1 0).toNat < (48 : Int))))).b then (T.bool true) else (T.bool (decide ((a0.s.data.getD 1 0).toNat > (57 : Int))))).b == false) && true) && true)) then
 bif (bif (bif (bif (bif ((a0.s.size : Int) != (3 : Int)) then (T.bool true) else (T.bool ((a0.s.data.getD 0 0).toNat != (83 : Int)))).b then (T.bool true) else (T.bool (decide ((a0.s.data.getD 1 0).toNat < (48 : Int))))).b then (T.bool true) else (T.bool (decide ((a0.s.data.getD 1 0).toNat > (57 : Int))))).b then true else ((bif (bif (bif ((a0.s.size : Int) != (3 : Int)) then (T.bool true) else (T.bool ((a0.s.data.getD 0 0).toNat != (83 : Int)))).b then (T.bool true) else (T.bool (decide ((a0.s.data.getD 1 0).toNat < (48 : Int))))).b then (T.bool true) else (T.bool (decide ((a0.s.data.getD 1 0).toNat > (57 : Int))))).b == false)) then
 bif ((!((bif (bif (bif (bif ((a0.s.size : Int) != (3 : Int)) then (T.bool true) else (T.bool ((a0.s.data.getD 0 0).toNat != (83 : Int)))).b then (T.bool true) else (T.bool (decide ((a0.s.data.getD 1 0).toNat < (48 : Int))))).b then (T.bool true) else (T.bool (decide ((a0.s.data.getD 1 0).toNat > (57 : Int))))).b then (T.bool true) else (T.bool (decide ((a0.s.data.getD 2 0).toNat < (48 : Int))))).b == false)) || true) then
 bif ((!((bif (bif (bif (bif ((a0.s.size : Int) != (3 : Int)) then (T.bool true) else (T.bool ((a0.s.data.getD 0 0).toNat != (83 : Int)))).b then (T.bool true) else (T.bool (decide ((a0.s.data.getD 1 0).toNat < (48 : Int))))).b then (T.bool true) else (T.bool (decide ((a0.s.data.getD 1 0).toNat > (57 : Int))))).b then (T.bool true) else (T.bool (decide ((a0.s.data.getD 2 0).toNat < (48 : Int))))).b == false)) || ((((bif (bif (bif (bif ((a0.s.size : Int) != (3 : Int)) then (T.bool true) else (T.bool ((a0.s.data.getD 0 0).toNat != (83 : Int)))).b then (T.bool true) else (T.bool (decide ((a0.s.data.getD 1 0).toNat < (48 : Int))))).b then (T.bool true) else (T.bool (decide ((a0.s.data.getD 1 0).toNat > (57 : Int))))).b then (T.bool true) else (T.bool (decide ((a0.s.data.getD 2 0).toNat < (48 : Int))))).b == false) && true) && (decide (0 ≤ (2 : Int)) && decide (2 < a0.s.size)))) then
 bif ((!((bif (bif (bif (bif ((a0.s.size : Int) != (3 : Int)) then (T.bool true) else (T.bool ((a0.s.data.getD 0 0).toNat != (83 : Int)))).b then (T.bool true) else (T.bool (decide ((a0.s.data.getD 1 0).toNat < (48 : Int))))).b then (T.bool true) else (T.bool (decide ((a0.s.data.getD 1 0).toNat > (57 : Int))))).b then (T.bool true) else (T.bool (decide ((a0.s.data.getD 2 0).toNat < (48 : Int))))).b == false)) || ((((bif (bif (bif (bif ((a0.s.size : Int) != (3 : Int)) then (T.bool true) else (T.bool ((a0.s.data.getD 0 0).toNat != (83 : Int)))).b then (T.bool true) else (T.bool (decide ((a0.s.data.getD 1 0).toNat < (48 : Int))))).b then (T.bool true) else (T.bool (decide ((a0.s.data.getD 1 0).toNat > (57 : Int))))).b then (T.bool true) else (T.bool (decide ((a0.s.data.getD 2 0).toNat < (48 : Int))))).b == false) && true) && true)) then
 bif (bif (bif (bif (bif (bif ((a0.s.size : Int) != (3 : Int)) then (T.bool true) else (T.bool ((a0.s.data.getD 0 0).toNat != (83 : Int)))).b then (T.bool true) else (T.bool (decide ((a0.s.data.getD 1 0).toNat < (48 : Int))))).b then (T.bool true) else (T.bool (decide ((a0.s.data.getD 1 0).toNat > (57 : Int))))).b then (T.bool true) else (T.bool (decide ((a0.s.data.getD 2 0).toNat < (48 : Int))))).b then true else ((bif (bif (bif (bif ((a0.s.size : Int) != (3 : Int)) then (T.bool true) else (T.bool ((a0.s.data.getD 0 0).toNat != (83 : Int)))).b then (T.bool true) else (T.bool (decide ((a0.s.data.getD 1 0).toNat < (48 : Int))))).b then (T.bool true) else (T.bool (decide ((a0.s.data.getD 1 0).toNat > (57 : Int))))).b then (T.bool true) else (T.bool (decide ((a0.s.data.getD 2 0).toNat < (48 : Int))))).b == false)) then
 bif (bif (bif (bif (bif (bif ((a0.s.size : Int) != (3 : Int)) then (T.bool true) else (T.bool ((a0.s.data.getD 0 0).toNat != (83 : Int)))).b then (T.bool true) else (T.bool (decide ((a0.s.data.getD 1 0).toNat < (48 : Int))))).b then (T.bool true) else (T.bool (decide ((a0.s.data.getD 1 0).toNat > (57 : Int))))).b then (T.bool true) else (T.bool (decide ((a0.s.data.getD 2 0).toNat < (48 : Int))))).b then (T.bool true) else (T.bool (decide ((a0.s.data.getD 2 0).toNat > (57 : Int))))).b then
 some [(T.int (0 : Int)), (T.int (0 : Int)), (T.bool false)]
 else
 bif (decide (0 ≤ (1 : Int)) && decide (1 < a0.s.size)) then
 bif (decide (0 ≤ (2 : Int)) && decide (2 < a0.s.size)) then
 some [(T.int (IntKind.wrap .i64 (IntKind.wrap .u8 ((a0.s.data.getD 1 0).toNat - (48 : Int))))), (T.int (IntKind.wrap .i64 (IntKind.wrap .u8 ((a0.s.data.getD 2 0).toNat - (48 : Int))))), (T.bool true)]
 else
 none
 else
 none
 else
 none
 else
 none
 else
 none
 else
 none
 else
 none
 else
 none
 else
 none
 else
 none
 else
 none
 else
 none
 else
 none
 else
 none
 else
 none
 else
 none
 else
 none
 else
 none
 else
 none
 else
 none
 else
 none
 else
 none := by kernel_rfl
theorem q_impl_kindAt (H : List Item → CS → R) (C : CallsE) (a0 : T) : enterE fi_impl_kindAt env H C [a0] = b_impl_kindAt H C a0 := by
 refine (e_impl_kindAt H C a0).trans ?_
 unfold b_impl_kindAt
 all_goals cases hc : (((a0.s.size : Int) != (3 : Int))) with
 | true =>
  try simp only [bs]
  all_goals kernel_rfl
 | false =>
  try simp only [bs]
  all_goals cases hc : ((decide (0 ≤ (0 : Int)) && decide (0 < a0.s.size))) with
  | true =>
   try simp only [bs]
   all_goals cases hc : (((a0.s.data.getD 0 0).toNat != (83 : Int))) with
   | true =>
    try simp only [bs]
    all_goals kernel_rfl
   | false =>
    try simp only [bs]
    all_goals cases hc : ((decide (0 ≤ (1 : Int)) && decide (1 < a0.s.size))) with
    | true =>
     try simp only [bs]
     all_goals cases hc : ((decide ((a0.s.data.getD 1 0).toNat < (48 : Int)))) with
     | true =>
      try simp only [bs]
      all_goals kernel_rfl
     | false =>
      try simp only [bs]
      all_goals cases hc : ((decide ((a0.s.data.getD 1 0).toNat > (57 : Int)))) with
      | true =>
       try simp only [bs]
       all_goals kernel_rfl
      | false =>
       try simp only [bs]
       all_goals cases hc : ((decide (0 ≤ (2 : Int)) && decide (2 < a0.s.size))) with
       | true =>
        try simp only [bs]
        all_goals cases hc : ((decide ((a0.s.data.getD 2 0).toNat < (48 : Int)))) with
        | true =>
         try simp only [bs]
         all_goals kernel_rfl
        | false =>
         try simp only [bs]
         all_goals cases hc : ((decide ((a0.s.data.getD 2 0).toNat > (57 : Int)))) with
         | true =>
          try simp only [bs]
          all_goals kernel_rfl
         | false =>
          try simp only [bs]
          all_goals kernel_rfl
       | false =>
        try simp only [bs]
        all_goals kernel_rfl
    | false =>
     try simp only [bs]
     all_goals kernel_rfl
  | false =>
   try simp only [bs]
   all_goals kernel_rfl
theorem y_impl_kindAt (a0 : T) {r : List T} (h : Yields (fun k => b_impl_kindAt (hl env k fi_impl_kindAt) (cl env k) a0) r) : Yields (fun k => cl env k F_impl_kindAt [a0]) r := Yields.call (fi := fi_impl_kindAt) rfl rfl (fun H C => q_impl_kindAt H C a0) h
/- loop.example/heirlooms/laws.eqRecord -/
noncomputable abbrev b_laws_eqRecord (H : List Item → CS → R) (C : CallsE) (a0 a1 : T) : R :=
 bif ((a0.fld 0).i != (a1.fld 0).i) then
 some [(T.bool false)]
 else
 obind (C F_laws_eqStringS [(a0.fld 1), (a1.fld 1)]) fun r1 =>
 bif (!(rt r1 0).b) then
 some [(T.bool false)]
 else
 some [(T.bool true)]
theorem q_laws_eqRecord (H : List Item → CS → R) (C : CallsE) (a0 a1 : T) : enterE fi_laws_eqRecord env H C [a0, a1] = b_laws_eqRecord H C a0 a1 := by kernel_rfl
theorem y_laws_eqRecord (a0 a1 : T) {r : List T} (h : Yields (fun k => b_laws_eqRecord (hl env k fi_laws_eqRecord) (cl env k) a0 a1) r) : Yields (fun k => cl env k F_laws_eqRecord [a0, a1]) r := Yields.call (fi := fi_laws_eqRecord) rfl rfl (fun H C => q_laws_eqRecord H C a0 a1) h
/- loop.example/heirlooms/laws.eqFunc -/
noncomputable abbrev b_laws_eqFunc (H : List Item → CS → R) (C : CallsE) (a0 a1 : T) : R :=
 bif ((a0.fld 0).i != (a1.fld 0).i) then
 some [(T.bool false)]
 else
 obind (C F_laws_eqStringS [(a0.fld 1), (a1.fld 1)]) fun r1 =>
 bif (!(rt r1 0).b) then
 some [(T.bool false)]
 else
 obind (C F_laws_eqStringS [(a0.fld 2), (a1.fld 2)]) fun r2 =>
 bif (!(rt r2 0).b) then
 some [(T.bool false)]
 else
 obind (C F_laws_eqStringS [(a0.fld 3), (a1.fld 3)]) fun r3 =>
 bif (!(rt r3 0).b) then
 some [(T.bool false)]
 else
 obind (C F_laws_eqIntS [(a0.fld 4), (a1.fld 4)]) fun r4 =>
 bif (!(rt r4 0).b) then
 some [(T.bool false)]
 else
 obind (C F_laws_eqInsS [(a0.fld 5), (a1.fld 5)]) fun r5 =>
 bif (!(rt r5 0).b) then
 some [(T.bool false)]
 else
 some [(T.bool true)]
theorem q_laws_eqFunc (H : List Item → CS → R) (C : CallsE) (a0 a1 : T) : enterE fi_laws_eqFunc env H C [a0, a1] = b_laws_eqFunc H C a0 a1 := by kernel_rfl
theorem y_laws_eqFunc (a0 a1 : T) {r : List T} (h : Yields (fun k => b_laws_eqFunc (hl env k fi_laws_eqFunc) (cl env k) a0 a1) r) : Yields (fun k => cl env k F_laws_eqFunc [a0, a1]) r := Yields.call (fi := fi_laws_eqFunc) rfl rfl (fun H C => q_laws_eqFunc H C a0 a1) h
noncomputable def l_laws_szStringS_0 (H : List Item → CS → R) (x1 : T) (x2 : T) (x3 : T) : R := H (hdAt fi_laws_szStringS.body 0) ([(0, .val 56 x1), (1, .val 3 x2), (5, .val 3 x3)], [])
/- loop.example/heirlooms/laws.szStringS -/
noncomputable abbrev b_laws_szStringS (H : List Item → CS → R) (C : CallsE) (a0 a1 : T) : R :=
 bif (decide ((IntKind.wrap .i64 (a1.i - (a0.es.length : Int))) < (0 : Int))) then
 some [(T.int (-1 : Int))]
 else
 l_laws_szStringS_0 H a0 (T.int (IntKind.wrap .i64 (a1.i - (a0.es.length : Int)))) (T.int (0 : Int))
theorem q_laws_szStringS (H : List Item → CS → R) (C : CallsE) (a0 a1 : T) : enterE fi_laws_szStringS env H C [a0, a1] = b_laws_szStringS H C a0 a1 := by kernel_rfl
theorem y_laws_szStringS (a0 a1 : T) {r : List T} (h : Yields (fun k => b_laws_szStringS (hl env k fi_laws_szStringS) (cl env k) a0 a1) r) : Yields (fun k => cl env k F_laws_szStringS [a0, a1]) r := Yields.call (fi := fi_laws_szStringS) rfl rfl (fun H C => q_laws_szStringS H C a0 a1) h
noncomputable abbrev b_laws_szStringS_0 (H : List Item → CS → R) (C : CallsE) (x1 : T) (x2 : T) (x3 : T) : R :=
 bif (decide (x3.i < (x1.es.length : Int))) then
 bif (decide (0 ≤ x3.i) && decide (x3.i.toNat < x1.es.length)) then
 bif (decide ((IntKind.wrap .i64 (x2.i - (((x1.nth x3.i.toNat).s).size : Int))) < (0 : Int))) then
 some [(T.int (-1 : Int))]
 else
 l_laws_szStringS_0 H x1 (T.int (IntKind.wrap .i64 (x2.i - (((x1.nth x3.i.toNat).s).size : Int)))) (T.int (IntKind.wrap .i64 (x3.i + (1 : Int))))
 else
 none
 else
 some [x2]
theorem q_laws_szStringS_0 (H : List Item → CS → R) (C : CallsE) (x1 : T) (x2 : T) (x3 : T) : headE fi_laws_szStringS env H C (hdAt fi_laws_szStringS.body 0) ([(0, .val 56 x1), (1, .val 3 x2), (5, .val 3 x3)], []) = b_laws_szStringS_0 H C x1 x2 x3 := by kernel_rfl
theorem y_laws_szStringS_0 (x1 : T) (x2 : T) (x3 : T) {r : List T} (h : Yields (fun k => b_laws_szStringS_0 (hl env k fi_laws_szStringS) (cl env k) x1 x2 x3) r) : Yields (fun k => l_laws_szStringS_0 (hl env k fi_laws_szStringS) x1 x2 x3) r := Yields.head (fun H C => q_laws_szStringS_0 H C x1 x2 x3) h
noncomputable def l_laws_szInsS_0 (H : List Item → CS → R) (x1 : T) (x2 : T) (x3 : T) : R := H (hdAt fi_laws_szInsS.body 0) ([(0, .val 110 x1), (1, .val 3 x2), (5, .val 3 x3)], [])
/- loop.example/heirlooms/laws.szInsS -/
noncomputable abbrev b_laws_szInsS (H : List Item → CS → R) (C : CallsE) (a0 a1 : T) : R :=
 bif (decide ((IntKind.wrap .i64 (a1.i - (a0.es.length : Int))) < (0 : Int))) then
 some [(T.int (-1 : Int))]
 else
 l_laws_szInsS_0 H a0 (T.int (IntKind.wrap .i64 (a1.i - (a0.es.length : Int)))) (T.int (0 : Int))
theorem q_laws_szInsS (H : List Item → CS → R) (C : CallsE) (a0 a1 : T) : enterE fi_laws_szInsS env H C [a0, a1] = b_laws_szInsS H C a0 a1 := by kernel_rfl
theorem y_laws_szInsS (a0 a1 : T) {r : List T} (h : Yields (fun k => b_laws_szInsS (hl env k fi_laws_szInsS) (cl env k) a0 a1) r) : Yields (fun k => cl env k F_laws_szInsS [a0, a1]) r := Yields.call (fi := fi_laws_szInsS) rfl rfl (fun H C => q_laws_szInsS H C a0 a1) h
noncomputable abbrev b_laws_szInsS_0 (H : List Item → CS → R) (C : CallsE) (x1 : T) (x2 : T) (x3 : T) : R :=
 bif (decide (x3.i < (x1.es.length : Int))) then
 bif (decide (0 ≤ x3.i) && decide (x3.i.toNat < x1.es.length)) then
 obind (C F_laws_szIns [(x1.nth x3.i.toNat), x2]) fun r1 =>
 bif (decide ((rt r1 0).i < (0 : Int))) then
 some [(T.int (-1 : Int))]
 else
 l_laws_szInsS_0 H x1 (rt r1 0) (T.int (IntKind.wrap .i64 (x3.i + (1 : Int))))
 else
 none
 else
 some [x2]
theorem q_laws_szInsS_0 (H : List Item → CS → R) (C : CallsE) (x1 : T) (x2 : T) (x3 : T) : headE fi_laws_szInsS env H C (hdAt fi_laws_szInsS.body 0) ([(0, .val 110 x1), (1, .val 3 x2), (5, .val 3 x3)], []) = b_laws_szInsS_0 H C x1 x2 x3 := by kernel_rfl
theorem y_laws_szInsS_0 (x1 : T) (x2 : T) (x3 : T) {r : List T} (h : Yields (fun k => b_laws_szInsS_0 (hl env k fi_laws_szInsS) (cl env k) x1 x2 x3) r) : Yields (fun k => l_laws_szInsS_0 (hl env k fi_laws_szInsS) x1 x2 x3) r := Yields.head (fun H C => q_laws_szInsS_0 H C x1 x2 x3) h
noncomputable def l_spec_l1Record_0 (H : List Item → CS → R) (x1 : T) (x2 : T) (x3 : T) (x4 : T) (x5 : T) : R := H (hdAt fi_spec_l1Record.body 0) ([(0, .val 54 x1), (1, .val 3 x2), (2, .val 3 x3), (7, .pref 88 7 []), (8, .val 3 x4)], [(7, ⟨88, x5, .fz, true⟩)])
/- loop.example/heirlooms/spec.l1Record -/
noncomputable abbrev b_spec_l1Record (H : List Item → CS → R) (C : CallsE) (a0 a1 a2 : T) : R :=
 bif (decide (0 ≤ a1.i) && decide (a1.i.toNat < a0.es.length)) then
 bif (decide (0 ≤ a2.i) && decide (a2.i.toNat < ((a0.nth a1.i.toNat).es).length)) then
 obind (C F_spec_l6In [(((a0.nth a1.i.toNat).nth a2.i.toNat).fld 0), (T.int (0 : Int)), (T.int (15 : Int))]) fun r1 =>
 bif (!(rt r1 0).b) then
 some [(T.bool false)]
 else
 bif (decide ((((((a0.nth a1.i.toNat).nth a2.i.toNat).fld 1).es).length : Int) > (3 : Int))) then
 some [(T.bool false)]
 else
 l_spec_l1Record_0 H a0 a1 a2 (T.int (0 : Int)) ((a0.nth a1.i.toNat).nth a2.i.toNat)
 else
 none
 else
 none
theorem e_spec_l1Record (H : List Item → CS → R) (C : CallsE) (a0 a1 a2 : T) : enterE fi_spec_l1Record env H C [a0, a1, a2] =
 bif (decide (0 ≤ a1.i) && decide (a1.i.toNat < a0.es.length)) then
 bif (decide (0 ≤ a2.i) && decide (a2.i.toNat < ((a0.nth a1.i.toNat).es).length)) then
 obind (C F_spec_l6In [(((a0.nth a1.i.toNat).nth a2.i.toNat).fld 0), (T.int (0 : Int)), (T.int (15 : Int))]) fun r1 =>
 bif ((!((!(rt r1 0).b) == false)) || true) then
 bif ((!((!(rt r1 0).b) == false)) || ((!(rt r1 0).b) == false)) then
 bif ((!((!(rt r1 0).b) == false)) || ((!(rt r1 0).b) == false)) then
 bif ((!((!(rt r1 0).b) == false)) || ((((!(rt r1 0).b) == false) && true) && true)) then
 bif (bif (!(rt r1 0).b) then true else ((!(rt r1 0).b) == false)) then
 bif (bif (!(rt r1 0).b) then (T.bool true) else (T.bool (decide ((((((a0.nth a1.i.toNat).nth a2.i.toNat).fld 1).es).length : Int) > (3 : Int))))).b then
 some [(T.bool false)]
 else
 l_spec_l1Record_0 H a0 a1 a2 (T.int (0 : Int)) ((a0.nth a1.i.toNat).nth a2.i.toNat)
 else
 none
 else
 none
 else
 none
 else
 none
 else
 none
 else
 none
 else
 none := by kernel_rfl
theorem q_spec_l1Record (H : List Item → CS → R) (C : CallsE) (a0 a1 a2 : T) : enterE fi_spec_l1Record env H C [a0, a1, a2] = b_spec_l1Record H C a0 a1 a2 := by
 refine (e_spec_l1Record H C a0 a1 a2).trans ?_
 unfold b_spec_l1Record
 all_goals cases hc : ((decide (0 ≤ a1.i) && decide (a1.i.toNat < a0.es.length))) with
 | true =>
  try simp only [bs]
  all_goals cases hc : ((decide (0 ≤ a2.i) && decide (a2.i.toNat < ((a0.nth a1.i.toNat).es).length))) with
  | true =>
   try simp only [bs]
   all_goals refine obind_congr fun r1 => ?_
   all_goals try simp only [bs]
   all_goals cases hc : ((!(rt r1 0).b)) with
   | true =>
    try simp only [bs]
    all_goals kernel_rfl
   | false =>
    try simp only [bs]
    all_goals cases hc : ((decide ((((((a0.nth a1.i.toNat).nth a2.i.toNat).fld 1).es).length : Int) > (3 : Int)))) with
    | true =>
     try simp only [bs]
     all_goals kernel_rfl
    | false =>
     try simp only [bs]
     all_goals kernel_rfl
  | false =>
   try simp only [bs]
   all_goals kernel_rfl
 | false =>
  try simp only [bs]
  all_goals kernel_rfl
theorem y_spec_l1Record (a0 a1 a2 : T) {r : List T} (h : Yields (fun k => b_spec_l1Record (hl env k fi_spec_l1Record) (cl env k) a0 a1 a2) r) : Yields (fun k => cl env k F_spec_l1Record [a0, a1, a2]) r := Yields.call (fi := fi_spec_l1Record) rfl rfl (fun H C => q_spec_l1Record H C a0 a1 a2) h
noncomputable abbrev b_spec_l1Record_0 (H : List Item → CS → R) (C : CallsE) (x1 : T) (x2 : T) (x3 : T) (x4 : T) (x5 : T) : R :=
 bif (decide (x4.i < (((x5.fld 1).es).length : Int))) then
 bif (decide (0 ≤ x4.i) && decide (x4.i.toNat < ((x5.fld 1).es).length)) then
 obind (C F_spec_l1Field [x1, x2, x3, ((x5.fld 1).nth x4.i.toNat)]) fun r1 =>
 bif (!(rt r1 0).b) then
 some [(T.bool false)]
 else
 obind (C F_spec_l1Able [x1, ((x5.fld 1).nth x4.i.toNat)]) fun r2 =>
 obind (C F_spec_l1Can [(x5.fld 0), (T.int (1 : Int))]) fun r3 =>
 bif (rt r3 0).b then
 obind (C F_spec_l1Can [(rt r2 0), (T.int (1 : Int))]) fun r4 =>
 bif (!(rt r4 0).b) then
 some [(T.bool false)]
 else
 obind (C F_spec_l1Can [(x5.fld 0), (T.int (2 : Int))]) fun r5 =>
 bif (rt r5 0).b then
 obind (C F_spec_l1Can [(rt r2 0), (T.int (2 : Int))]) fun r6 =>
 bif (!(rt r6 0).b) then
 some [(T.bool false)]
 else
 bif (decide ((x5.fld 0).i ≥ (4 : Int))) then
 obind (C F_spec_l1Can [(rt r2 0), (T.int (4 : Int))]) fun r7 =>
 bif (!(rt r7 0).b) then
 some [(T.bool false)]
 else
 l_spec_l1Record_0 H x1 x2 x3 (T.int (IntKind.wrap .i64 (x4.i + (1 : Int)))) x5
 else
 l_spec_l1Record_0 H x1 x2 x3 (T.int (IntKind.wrap .i64 (x4.i + (1 : Int)))) x5
 else
 bif (decide ((x5.fld 0).i ≥ (4 : Int))) then
 obind (C F_spec_l1Can [(rt r2 0), (T.int (4 : Int))]) fun r6 =>
 bif (!(rt r6 0).b) then
 some [(T.bool false)]
 else
 l_spec_l1Record_0 H x1 x2 x3 (T.int (IntKind.wrap .i64 (x4.i + (1 : Int)))) x5
 else
 l_spec_l1Record_0 H x1 x2 x3 (T.int (IntKind.wrap .i64 (x4.i + (1 : Int)))) x5
 else
 obind (C F_spec_l1Can [(x5.fld 0), (T.int (2 : Int))]) fun r4 =>
 bif (rt r4 0).b then
 obind (C F_spec_l1Can [(rt r2 0), (T.int (2 : Int))]) fun r5 =>
 bif (!(rt r5 0).b) then
 some [(T.bool false)]
 else
 bif (decide ((x5.fld 0).i ≥ (4 : Int))) then
 obind (C F_spec_l1Can [(rt r2 0), (T.int (4 : Int))]) fun r6 =>
 bif (!(rt r6 0).b) then
 some [(T.bool false)]
 else
 l_spec_l1Record_0 H x1 x2 x3 (T.int (IntKind.wrap .i64 (x4.i + (1 : Int)))) x5
 else
 l_spec_l1Record_0 H x1 x2 x3 (T.int (IntKind.wrap .i64 (x4.i + (1 : Int)))) x5
 else
 bif (decide ((x5.fld 0).i ≥ (4 : Int))) then
 obind (C F_spec_l1Can [(rt r2 0), (T.int (4 : Int))]) fun r5 =>
 bif (!(rt r5 0).b) then
 some [(T.bool false)]
 else
 l_spec_l1Record_0 H x1 x2 x3 (T.int (IntKind.wrap .i64 (x4.i + (1 : Int)))) x5
 else
 l_spec_l1Record_0 H x1 x2 x3 (T.int (IntKind.wrap .i64 (x4.i + (1 : Int)))) x5
 else
 none
 else
 some [(T.bool true)]
theorem e_spec_l1Record_0 (H : List Item → CS → R) (C : CallsE) (x1 : T) (x2 : T) (x3 : T) (x4 : T) (x5 : T) : headE fi_spec_l1Record env H C (hdAt fi_spec_l1Record.body 0) ([(0, .val 54 x1), (1, .val 3 x2), (2, .val 3 x3), (7, .pref 88 7 []), (8, .val 3 x4)], [(7, ⟨88, x5, .fz, true⟩)]) =
 bif (decide (x4.i < (((x5.fld 1).es).length : Int))) then
 bif (decide (0 ≤ x4.i) && decide (x4.i.toNat < ((x5.fld 1).es).length)) then
 obind (C F_spec_l1Field [x1, x2, x3, ((x5.fld 1).nth x4.i.toNat)]) fun r1 =>
 bif (!(rt r1 0).b) then
 some [(T.bool false)]
 else
 bif (decide (0 ≤ x4.i) && decide (x4.i.toNat < ((x5.fld 1).es).length)) then
 obind (C F_spec_l1Able [x1, ((x5.fld 1).nth x4.i.toNat)]) fun r2 =>
 obind (C F_spec_l1Can [(x5.fld 0), (T.int (1 : Int))]) fun r3 =>
 bif ((!((rt r3 0).b == true)) || true) then
 bif ((!((rt r3 0).b == true)) || (((rt r3 0).b == true) && true)) then
 obind ((bif ((rt r3 0).b == true) then C F_spec_l1Can [(rt r2 0), (T.int (1 : Int))] else some [])) fun r4 =>
 bif ((!((rt r3 0).b == true)) || ((rt r3 0).b == true)) then
 bif (bif (rt r3 0).b then ((rt r3 0).b == true) else true) then
 bif ((!((bif (rt r3 0).b then (T.bool (!(rt r4 0).b)) else (T.bool false)).b == false)) || true) then
 bif ((!((bif (rt r3 0).b then (T.bool (!(rt r4 0).b)) else (T.bool false)).b == false)) || ((bif (rt r3 0).b then (T.bool (!(rt r4 0).b)) else (T.bool false)).b == false)) then
 bif ((!((bif (rt r3 0).b then (T.bool (!(rt r4 0).b)) else (T.bool false)).b == false)) || (((bif (rt r3 0).b then (T.bool (!(rt r4 0).b)) else (T.bool false)).b == false) && true)) then
 obind ((bif ((bif (rt r3 0).b then (T.bool (!(rt r4 0).b)) else (T.bool false)).b == false) then C F_spec_l1Can [(x5.fld 0), (T.int (2 : Int))] else some [])) fun r5 =>
 bif ((!((bif (rt r3 0).b then (T.bool (!(rt r4 0).b)) else (T.bool false)).b == false)) || ((bif (rt r3 0).b then (T.bool (!(rt r4 0).b)) else (T.bool false)).b == false)) then
 bif ((!(((bif (rt r3 0).b then (T.bool (!(rt r4 0).b)) else (T.bool false)).b == false) && ((rt r5 0).b == true))) || true) then
 bif ((!(((bif (rt r3 0).b then (T.bool (!(rt r4 0).b)) else (T.bool false)).b == false) && ((rt r5 0).b == true))) || ((((bif (rt r3 0).b then (T.bool (!(rt r4 0).b)) else (T.bool false)).b == false) && ((rt r5 0).b == true)) && true)) then
 obind ((bif (((bif (rt r3 0).b then (T.bool (!(rt r4 0).b)) else (T.bool false)).b == false) && ((rt r5 0).b == true)) then C F_spec_l1Can [(rt r2 0), (T.int (2 : Int))] else some [])) fun r6 =>
 bif ((!(((bif (rt r3 0).b then (T.bool (!(rt r4 0).b)) else (T.bool false)).b == false) && ((rt r5 0).b == true))) || (((bif (rt r3 0).b then (T.bool (!(rt r4 0).b)) else (T.bool false)).b == false) && ((rt r5 0).b == true))) then
 bif ((!((bif (rt r3 0).b then (T.bool (!(rt r4 0).b)) else (T.bool false)).b == false)) || (((bif (rt r3 0).b then (T.bool (!(rt r4 0).b)) else (T.bool false)).b == false) && (bif (rt r5 0).b then (((bif (rt r3 0).b then (T.bool (!(rt r4 0).b)) else (T.bool false)).b == false) && ((rt r5 0).b == true)) else true))) then
 bif (bif (bif (rt r3 0).b then (T.bool (!(rt r4 0).b)) else (T.bool false)).b then true else ((bif (rt r3 0).b then (T.bool (!(rt r4 0).b)) else (T.bool false)).b == false)) then
 bif (bif (bif (rt r3 0).b then (T.bool (!(rt r4 0).b)) else (T.bool false)).b then (T.bool true) else (bif (rt r5 0).b then (T.bool (!(rt r6 0).b)) else (T.bool false))).b then
 some [(T.bool false)]
 else
 bif ((!((decide ((x5.fld 0).i ≥ (4 : Int))) == true)) || true) then
 bif ((!((decide ((x5.fld 0).i ≥ (4 : Int))) == true)) || (((decide ((x5.fld 0).i ≥ (4 : Int))) == true) && true)) then
 obind ((bif ((decide ((x5.fld 0).i ≥ (4 : Int))) == true) then C F_spec_l1Can [(rt r2 0), (T.int (4 : Int))] else some [])) fun r7 =>
 bif ((!((decide ((x5.fld 0).i ≥ (4 : Int))) == true)) || ((decide ((x5.fld 0).i ≥ (4 : Int))) == true)) then
 bif (bif (decide ((x5.fld 0).i ≥ (4 : Int))) then ((decide ((x5.fld 0).i ≥ (4 : Int))) == true) else true) then
 bif (bif (decide ((x5.fld 0).i ≥ (4 : Int))) then (T.bool (!(rt r7 0).b)) else (T.bool false)).b then
 some [(T.bool false)]
 else
 l_spec_l1Record_0 H x1 x2 x3 (T.int (IntKind.wrap .i64 (x4.i + (1 : Int)))) x5
 else
 none
 else
 none
 else
 none
 else
 none
 else
 none
 else
 none
 else
 none
 else
 none
 else
 none
 else
 none
 else
 none
 else
 none
 else
 none
 else
 none
 else
 none
 else
 none
 else
 none
 else
 none
 else
 none
 else
 some [(T.bool true)] := by kernel_rfl
theorem q_spec_l1Record_0 (H : List Item → CS → R) (C : CallsE) (x1 : T) (x2 : T) (x3 : T) (x4 : T) (x5 : T) : headE fi_spec_l1Record env H C (hdAt fi_spec_l1Record.body 0) ([(0, .val 54 x1), (1, .val 3 x2), (2, .val 3 x3), (7, .pref 88 7 []), (8, .val 3 x4)], [(7, ⟨88, x5, .fz, true⟩)]) = b_spec_l1Record_0 H C x1 x2 x3 x4 x5 := by
 refine (e_spec_l1Record_0 H C x1 x2 x3 x4 x5).trans ?_
 unfold b_spec_l1Record_0
 all_goals cases hc : ((decide (x4.i < (((x5.fld 1).es).length : Int)))) with
 | true =>
  try simp only [bs]
  all_goals cases hc : ((decide (0 ≤ x4.i) && decide (x4.i.toNat < ((x5.fld 1).es).length))) with
  | true =>
   try simp only [bs]
   all_goals refine obind_congr fun r1 => ?_
   all_goals try simp only [bs]
   all_goals cases hc : ((!(rt r1 0).b)) with
   | true =>
    try simp only [bs]
    all_goals kernel_rfl
   | false =>
    try simp only [bs]
    all_goals refine obind_congr fun r2 => ?_
    all_goals try simp only [bs]
    all_goals refine obind_congr fun r3 => ?_
    all_goals try simp only [bs]
    all_goals cases hc : ((rt r3 0).b) with
    | true =>
     try simp only [bs]
     all_goals refine obind_congr fun r4 => ?_
     all_goals try simp only [bs]
     all_goals cases hc : ((!(rt r4 0).b)) with
     | true =>
      try simp only [bs]
      all_goals cases hc : ((T.int (0 : Int)).b) with
      | true =>
       try simp only [bs]
       all_goals kernel_rfl
      | false =>
       try simp only [bs]
       all_goals kernel_rfl
     | false =>
      try simp only [bs]
      all_goals refine obind_congr fun r5 => ?_
      all_goals try simp only [bs]
      all_goals cases hc : ((rt r5 0).b) with
      | true =>
       try simp only [bs]
       all_goals refine obind_congr fun r6 => ?_
       all_goals try simp only [bs]
       all_goals cases hc : ((!(rt r6 0).b)) with
       | true =>
        try simp only [bs]
        all_goals kernel_rfl
       | false =>
        try simp only [bs]
        all_goals cases hc : ((decide ((x5.fld 0).i ≥ (4 : Int)))) with
        | true =>
         try simp only [bs]
         all_goals refine obind_congr fun r7 => ?_
         all_goals try simp only [bs]
         all_goals cases hc : ((!(rt r7 0).b)) with
         | true =>
          try simp only [bs]
          all_goals kernel_rfl
         | false =>
          try simp only [bs]
          all_goals kernel_rfl
        | false =>
         try simp only [bs]
         all_goals kernel_rfl
      | false =>
       try simp only [bs]
       all_goals cases hc : ((decide ((x5.fld 0).i ≥ (4 : Int)))) with
       | true =>
        try simp only [bs]
        all_goals refine obind_congr fun r6 => ?_
        all_goals try simp only [bs]
        all_goals cases hc : ((!(rt r6 0).b)) with
        | true =>
         try simp only [bs]
         all_goals kernel_rfl
        | false =>
         try simp only [bs]
         all_goals kernel_rfl
       | false =>
        try simp only [bs]
        all_goals kernel_rfl
    | false =>
     try simp only [bs]
     all_goals refine obind_congr fun r4 => ?_
     all_goals try simp only [bs]
     all_goals cases hc : ((rt r4 0).b) with
     | true =>
      try simp only [bs]
      all_goals refine obind_congr fun r5 => ?_
      all_goals try simp only [bs]
      all_goals cases hc : ((!(rt r5 0).b)) with
      | true =>
       try simp only [bs]
       all_goals kernel_rfl
      | false =>
       try simp only [bs]
       all_goals cases hc : ((decide ((x5.fld 0).i ≥ (4 : Int)))) with
       | true =>
        try simp only [bs]
        all_goals refine obind_congr fun r6 => ?_
        all_goals try simp only [bs]
        all_goals cases hc : ((!(rt r6 0).b)) with
        | true =>
         try simp only [bs]
         all_goals kernel_rfl
        | false =>
         try simp only [bs]
         all_goals kernel_rfl
       | false =>
        try simp only [bs]
        all_goals kernel_rfl
     | false =>
      try simp only [bs]
      all_goals cases hc : ((decide ((x5.fld 0).i ≥ (4 : Int)))) with
      | true =>
       try simp only [bs]
       all_goals refine obind_congr fun r5 => ?_
       all_goals try simp only [bs]
       all_goals cases hc : ((!(rt r5 0).b)) with
       | true =>
        try simp only [bs]
        all_goals kernel_rfl
       | false =>
        try simp only [bs]
        all_goals kernel_rfl
      | false =>
       try simp only [bs]
       all_goals kernel_rfl
  | false =>
   try simp only [bs]
   all_goals kernel_rfl
 | false =>
  try simp only [bs]
  all_goals kernel_rfl
theorem y_spec_l1Record_0 (x1 : T) (x2 : T) (x3 : T) (x4 : T) (x5 : T) {r : List T} (h : Yields (fun k => b_spec_l1Record_0 (hl env k fi_spec_l1Record) (cl env k) x1 x2 x3 x4 x5) r) : Yields (fun k => l_spec_l1Record_0 (hl env k fi_spec_l1Record) x1 x2 x3 x4 x5) r := Yields.head (fun H C => q_spec_l1Record_0 H C x1 x2 x3 x4 x5) h
/- loop.example/heirlooms/spec.l1Plain -/
noncomputable abbrev b_spec_l1Plain (H : List Item → CS → R) (C : CallsE) (a0 a1 : T) : R :=
 obind (C F_spec_l1Kind [a1]) fun r1 =>
 obind (C F_spec_l1Base [a1]) fun r2 =>
 bif (rt r2 0).b then
 some [(T.bool true)]
 else
 bif (rt r1 2).b then
 obind (C F_spec_l1Has [a0, (rt r1 0), (rt r1 1)]) fun r3 =>
 some [(rt r3 0)]
 else
 some [(T.bool false)]
theorem e_spec_l1Plain (H : List Item → CS → R) (C : CallsE) (a0 a1 : T) : enterE fi_spec_l1Plain env H C [a0, a1] =
 obind (C F_spec_l1Kind [a1]) fun r1 =>
 obind (C F_spec_l1Base [a1]) fun r2 =>
 bif ((!((rt r2 0).b == false)) || true) then
 bif ((!((rt r2 0).b == false)) || ((rt r2 0).b == false)) then
 bif ((!(((rt r2 0).b == false) && ((rt r1 2).b == true))) || true) then
 bif ((!(((rt r2 0).b == false) && ((rt r1 2).b == true))) || true) then
 bif ((!(((rt r2 0).b == false) && ((rt r1 2).b == true))) || true) then
 bif ((!(((rt r2 0).b == false) && ((rt r1 2).b == true))) || ((((rt r2 0).b == false) && ((rt r1 2).b == true)) && ((((rt r2 0).b == false) && ((rt r1 2).b == true)) && ((((rt r2 0).b == false) && ((rt r1 2).b == true)) && true)))) then
 obind ((bif (((rt r2 0).b == false) && ((rt r1 2).b == true)) then C F_spec_l1Has [a0, (rt r1 0), (rt r1 1)] else some [])) fun r3 =>
 bif ((!((rt r2 0).b == false)) || (((rt r2 0).b == false) && (bif (rt r1 2).b then (((rt r2 0).b == false) && ((rt r1 2).b == true)) else true))) then
 bif (bif (rt r2 0).b then true else ((rt r2 0).b == false)) then
 some [(bif (rt r2 0).b then (T.bool true) else (bif (rt r1 2).b then (rt r3 0) else (T.bool false)))]
 else
 none
 else
 none
 else
 none
 else
 none
 else
 none
 else
 none
 else
 none
 else
 none := by kernel_rfl
theorem q_spec_l1Plain (H : List Item → CS → R) (C : CallsE) (a0 a1 : T) : enterE fi_spec_l1Plain env H C [a0, a1] = b_spec_l1Plain H C a0 a1 := by
 refine (e_spec_l1Plain H C a0 a1).trans ?_
 unfold b_spec_l1Plain
 all_goals refine obind_congr fun r1 => ?_
 all_goals try simp only [bs]
 all_goals refine obind_congr fun r2 => ?_
 all_goals try simp only [bs]
 all_goals cases hc : ((rt r2 0).b) with
 | true =>
  try simp only [bs]
  all_goals cases hc : ((rt r1 2).b) with
  | true =>
   try simp only [bs]
   all_goals kernel_rfl
  | false =>
   try simp only [bs]
   all_goals kernel_rfl
 | false =>
  try simp only [bs]
  all_goals cases hc : ((rt r1 2).b) with
  | true =>
   try simp only [bs]
   all_goals refine obind_congr fun r3 => ?_
   all_goals try simp only [bs]
   all_goals kernel_rfl
  | false =>
   try simp only [bs]
   all_goals kernel_rfl
theorem y_spec_l1Plain (a0 a1 : T) {r : List T} (h : Yields (fun k => b_spec_l1Plain (hl env k fi_spec_l1Plain) (cl env k) a0 a1) r) : Yields (fun k => cl env k F_spec_l1Plain [a0, a1]) r := Yields.call (fi := fi_spec_l1Plain) rfl rfl (fun H C => q_spec_l1Plain H C a0 a1) h
/- loop.example/heirlooms/spec.l1Of -/
noncomputable abbrev b_spec_l1Of (H : List Item → CS → R) (C : CallsE) (a0 : T) : R :=
 obind (C F_spec_l1Ref [a0]) fun r1 =>
 bif (rt r1 0).b then
 bif (decide (0 ≤ (1 : Int)) && (decide ((1 : Int) ≤ (a0.s.size : Int)) && (decide ((a0.s.size : Int) ≤ (a0.s.size : Int)) && decide ((a0.s.size : Int) ≤ (a0.s.size : Int))))) then
 some [(T.str (a0.s.extract 1 a0.s.size))]
 else
 none
 else
 some [a0]
theorem q_spec_l1Of (H : List Item → CS → R) (C : CallsE) (a0 : T) : enterE fi_spec_l1Of env H C [a0] = b_spec_l1Of H C a0 := by kernel_rfl
theorem y_spec_l1Of (a0 : T) {r : List T} (h : Yields (fun k => b_spec_l1Of (hl env k fi_spec_l1Of) (cl env k) a0) r) : Yields (fun k => cl env k F_spec_l1Of [a0]) r := Yields.call (fi := fi_spec_l1Of) rfl rfl (fun H C => q_spec_l1Of H C a0) h
/- loop.example/heirlooms/spec.InsOk -/
noncomputable abbrev b_spec_InsOk (H : List Item → CS → R) (C : CallsE) (a0 : T) : R :=
 obind (C F_spec_l3Needs [(a0.fld 0)]) fun r1 =>
 bif (rt r1 1).b then
 obind (C F_spec_l3Fits [(a0.fld 1), ((rt r1 0).fld 1)]) fun r2 =>
 bif (rt r2 0).b then
 obind (C F_spec_l3Fits [(a0.fld 2), ((rt r1 0).fld 2)]) fun r3 =>
 some [(rt r3 0)]
 else
 some [(T.bool false)]
 else
 some [(T.bool false)]
theorem e_spec_InsOk (H : List Item → CS → R) (C : CallsE) (a0 : T) : enterE fi_spec_InsOk env H C [a0] =
 obind (C F_spec_l3Needs [(a0.fld 0)]) fun r1 =>
 bif ((!((rt r1 1).b == true)) || true) then
 bif ((!((rt r1 1).b == true)) || ((rt r1 1).b == true)) then
 bif ((!((rt r1 1).b == true)) || true) then
 bif ((!((rt r1 1).b == true)) || ((rt r1 1).b == true)) then
 bif ((!((rt r1 1).b == true)) || (((rt r1 1).b == true) && (((rt r1 1).b == true) && true))) then
 obind ((bif ((rt r1 1).b == true) then C F_spec_l3Fits [(a0.fld 1), ((rt r1 0).fld 1)] else some [])) fun r2 =>
 bif (bif (rt r1 1).b then ((rt r1 1).b == true) else true) then
 bif ((!((bif (rt r1 1).b then (rt r2 0) else (T.bool false)).b == true)) || true) then
 bif ((!((bif (rt r1 1).b then (rt r2 0) else (T.bool false)).b == true)) || ((bif (rt r1 1).b then (rt r2 0) else (T.bool false)).b == true)) then
 bif ((!((bif (rt r1 1).b then (rt r2 0) else (T.bool false)).b == true)) || true) then
 bif ((!((bif (rt r1 1).b then (rt r2 0) else (T.bool false)).b == true)) || ((bif (rt r1 1).b then (rt r2 0) else (T.bool false)).b == true)) then
 bif ((!((bif (rt r1 1).b then (rt r2 0) else (T.bool false)).b == true)) || (((bif (rt r1 1).b then (rt r2 0) else (T.bool false)).b == true) && (((bif (rt r1 1).b then (rt r2 0) else (T.bool false)).b == true) && true))) then
 obind ((bif ((bif (rt r1 1).b then (rt r2 0) else (T.bool false)).b == true) then C F_spec_l3Fits [(a0.fld 2), ((rt r1 0).fld 2)] else some [])) fun r3 =>
 bif (bif (bif (rt r1 1).b then (rt r2 0) else (T.bool false)).b then ((bif (rt r1 1).b then (rt r2 0) else (T.bool false)).b == true) else true) then
 some [(bif (bif (rt r1 1).b then (rt r2 0) else (T.bool false)).b then (rt r3 0) else (T.bool false))]
 else
 none
 else
 none
 else
 none
 else
 none
 else
 none
 else
 none
 else
 none
 else
 none
 else
 none
 else
 none
 else
 none
 else
 none := by kernel_rfl
theorem q_spec_InsOk (H : List Item → CS → R) (C : CallsE) (a0 : T) : enterE fi_spec_InsOk env H C [a0] = b_spec_InsOk H C a0 := by
 refine (e_spec_InsOk H C a0).trans ?_
 unfold b_spec_InsOk
 all_goals refine obind_congr fun r1 => ?_
 all_goals try simp only [bs]
 all_goals cases hc : ((rt r1 1).b) with
 | true =>
  try simp only [bs]
  all_goals refine obind_congr fun r2 => ?_
  all_goals try simp only [bs]
  all_goals cases hc : ((rt r2 0).b) with
  | true =>
   try simp only [bs]
   all_goals refine obind_congr fun r3 => ?_
   all_goals try simp only [bs]
   all_goals kernel_rfl
  | false =>
   try simp only [bs]
   all_goals kernel_rfl
 | false =>
  try simp only [bs]
  all_goals kernel_rfl
theorem y_spec_InsOk (a0 : T) {r : List T} (h : Yields (fun k => b_spec_InsOk (hl env k fi_spec_InsOk) (cl env k) a0) r) : Yields (fun k => cl env k F_spec_InsOk [a0]) r := Yields.call (fi := fi_spec_InsOk) rfl rfl (fun H C => q_spec_InsOk H C a0) h
noncomputable def l_laws_toStringS_0 (H : List Item → CS → R) (x1 : T) (x2 : T) (x3 : T) : R := H (hdAt fi_laws_toStringS.body 0) ([(0, .val 56 x1), (3, .sref 56 3 []), (4, .val 3 x2)], [(3, ⟨56, x3, .dp, false⟩)])
/- loop.example/heirlooms/laws.toStringS -/
noncomputable abbrev b_laws_toStringS (H : List Item → CS → R) (C : CallsE) (a0 : T) : R :=
 bif (decide (0 ≤ (a0.es.length : Int)) && (decide ((a0.es.length : Int) ≤ (a0.es.length : Int)) && decide (a0.es.length ≤ LIM))) then
 l_laws_toStringS_0 H a0 (T.int (0 : Int)) (T.sl (List.replicate a0.es.length (T.str (⟨#[]⟩ : ByteArray))))
 else
 none
theorem q_laws_toStringS (H : List Item → CS → R) (C : CallsE) (a0 : T) : enterE fi_laws_toStringS env H C [a0] = b_laws_toStringS H C a0 := by kernel_rfl
theorem y_laws_toStringS (a0 : T) {r : List T} (h : Yields (fun k => b_laws_toStringS (hl env k fi_laws_toStringS) (cl env k) a0) r) : Yields (fun k => cl env k F_laws_toStringS [a0]) r := Yields.call (fi := fi_laws_toStringS) rfl rfl (fun H C => q_laws_toStringS H C a0) h
noncomputable abbrev b_laws_toStringS_0 (H : List Item → CS → R) (C : CallsE) (x1 : T) (x2 : T) (x3 : T) : R :=
 bif (decide (x2.i < (x1.es.length : Int))) then
 bif (decide (0 ≤ x2.i) && decide (x2.i.toNat < x1.es.length)) then
 bif (decide (0 ≤ x2.i) && decide (x2.i.toNat < x3.es.length)) then
 l_laws_toStringS_0 H x1 (T.int (IntKind.wrap .i64 (x2.i + (1 : Int)))) (T.sl (x3.es.set x2.i.toNat (x1.nth x2.i.toNat)))
 else
 none
 else
 none
 else
 some [x3]
theorem q_laws_toStringS_0 (H : List Item → CS → R) (C : CallsE) (x1 : T) (x2 : T) (x3 : T) : headE fi_laws_toStringS env H C (hdAt fi_laws_toStringS.body 0) ([(0, .val 56 x1), (3, .sref 56 3 []), (4, .val 3 x2)], [(3, ⟨56, x3, .dp, false⟩)]) = b_laws_toStringS_0 H C x1 x2 x3 := by kernel_rfl
theorem y_laws_toStringS_0 (x1 : T) (x2 : T) (x3 : T) {r : List T} (h : Yields (fun k => b_laws_toStringS_0 (hl env k fi_laws_toStringS) (cl env k) x1 x2 x3) r) : Yields (fun k => l_laws_toStringS_0 (hl env k fi_laws_toStringS) x1 x2 x3) r := Yields.head (fun H C => q_laws_toStringS_0 H C x1 x2 x3) h
noncomputable def l_laws_toInsS_0 (H : List Item → CS → R) (x1 : T) (x2 : T) (x3 : T) : R := H (hdAt fi_laws_toInsS.body 0) ([(0, .val 110 x1), (3, .sref 57 3 []), (4, .val 3 x2)], [(3, ⟨57, x3, .dp, false⟩)])
/- loop.example/heirlooms/laws.toInsS -/
noncomputable abbrev b_laws_toInsS (H : List Item → CS → R) (C : CallsE) (a0 : T) : R :=
 bif (decide (0 ≤ (a0.es.length : Int)) && (decide ((a0.es.length : Int) ≤ (a0.es.length : Int)) && decide (a0.es.length ≤ LIM))) then
 l_laws_toInsS_0 H a0 (T.int (0 : Int)) (T.sl (List.replicate a0.es.length (T.st [(T.str (⟨#[]⟩ : ByteArray)), (T.int (0 : Int)), (T.int (0 : Int))])))
 else
 none
theorem q_laws_toInsS (H : List Item → CS → R) (C : CallsE) (a0 : T) : enterE fi_laws_toInsS env H C [a0] = b_laws_toInsS H C a0 := by kernel_rfl
theorem y_laws_toInsS (a0 : T) {r : List T} (h : Yields (fun k => b_laws_toInsS (hl env k fi_laws_toInsS) (cl env k) a0) r) : Yields (fun k => cl env k F_laws_toInsS [a0]) r := Yields.call (fi := fi_laws_toInsS) rfl rfl (fun H C => q_laws_toInsS H C a0) h
noncomputable abbrev b_laws_toInsS_0 (H : List Item → CS → R) (C : CallsE) (x1 : T) (x2 : T) (x3 : T) : R :=
 bif (decide (x2.i < (x1.es.length : Int))) then
 bif (decide (0 ≤ x2.i) && decide (x2.i.toNat < x1.es.length)) then
 obind (C F_laws_toIns [(x1.nth x2.i.toNat)]) fun r1 =>
 bif (decide (0 ≤ x2.i) && decide (x2.i.toNat < x3.es.length)) then
 l_laws_toInsS_0 H x1 (T.int (IntKind.wrap .i64 (x2.i + (1 : Int)))) (T.sl (x3.es.set x2.i.toNat (rt r1 0)))
 else
 none
 else
 none
 else
 some [x3]
theorem q_laws_toInsS_0 (H : List Item → CS → R) (C : CallsE) (x1 : T) (x2 : T) (x3 : T) : headE fi_laws_toInsS env H C (hdAt fi_laws_toInsS.body 0) ([(0, .val 110 x1), (3, .sref 57 3 []), (4, .val 3 x2)], [(3, ⟨57, x3, .dp, false⟩)]) = b_laws_toInsS_0 H C x1 x2 x3 := by kernel_rfl
theorem y_laws_toInsS_0 (x1 : T) (x2 : T) (x3 : T) {r : List T} (h : Yields (fun k => b_laws_toInsS_0 (hl env k fi_laws_toInsS) (cl env k) x1 x2 x3) r) : Yields (fun k => l_laws_toInsS_0 (hl env k fi_laws_toInsS) x1 x2 x3) r := Yields.head (fun H C => q_laws_toInsS_0 H C x1 x2 x3) h
noncomputable def l_impl_recordOk_0 (H : List Item → CS → R) (x1 : T) (x2 : T) (x3 : T) (x4 : T) (x5 : T) (x6 : T) (x7 : T) : R := H (hdAt fi_impl_recordOk.body 0) ([(0, .val 54 x1), (1, .val 3 x2), (2, .val 3 x3), (7, .pref 88 7 []), (36, .val 56 x4), (37, .val 3 x5), (38, .val 3 x6)], [(7, ⟨88, x7, .fz, true⟩)])
/- loop.example/heirlooms/impl.recordOk -/
noncomputable abbrev b_impl_recordOk (H : List Item → CS → R) (C : CallsE) (a0 a1 a2 : T) : R :=
 bif (decide (0 ≤ a1.i) && decide (a1.i.toNat < a0.es.length)) then
 bif (decide (0 ≤ a2.i) && decide (a2.i.toNat < ((a0.nth a1.i.toNat).es).length)) then
 bif (decide ((((a0.nth a1.i.toNat).nth a2.i.toNat).fld 0).i < (0 : Int))) then
 some [(T.bool false)]
 else
 bif (decide ((((a0.nth a1.i.toNat).nth a2.i.toNat).fld 0).i > (15 : Int))) then
 some [(T.bool false)]
 else
 bif (decide ((((((a0.nth a1.i.toNat).nth a2.i.toNat).fld 1).es).length : Int) > (3 : Int))) then
 some [(T.bool false)]
 else
 l_impl_recordOk_0 H a0 a1 a2 (((a0.nth a1.i.toNat).nth a2.i.toNat).fld 1) (T.int (((((a0.nth a1.i.toNat).nth a2.i.toNat).fld 1).es).length : Int)) (T.int (0 : Int)) ((a0.nth a1.i.toNat).nth a2.i.toNat)
 else
 none
 else
 none
theorem e_impl_recordOk (H : List Item → CS → R) (C : CallsE) (a0 a1 a2 : T) : enterE fi_impl_recordOk env H C [a0, a1, a2] =
 bif (decide (0 ≤ a1.i) && decide (a1.i.toNat < a0.es.length)) then
 bif (decide (0 ≤ a2.i) && decide (a2.i.toNat < ((a0.nth a1.i.toNat).es).length)) then
 bif ((!((decide ((((a0.nth a1.i.toNat).nth a2.i.toNat).fld 0).i < (0 : Int))) == false)) || true) then
 bif ((!((decide ((((a0.nth a1.i.toNat).nth a2.i.toNat).fld 0).i < (0 : Int))) == false)) || ((decide ((((a0.nth a1.i.toNat).nth a2.i.toNat).fld 0).i < (0 : Int))) == false)) then
 bif ((!((decide ((((a0.nth a1.i.toNat).nth a2.i.toNat).fld 0).i < (0 : Int))) == false)) || ((((decide ((((a0.nth a1.i.toNat).nth a2.i.toNat).fld 0).i < (0 : Int))) == false) && true) && true)) then
 bif (bif (decide ((((a0.nth a1.i.toNat).nth a2.i.toNat).fld 0).i < (0 : Int))) then true else ((decide ((((a0.nth a1.i.toNat).nth a2.i.toNat).fld 0).i < (0 : Int))) == false)) then
 bif ((!((bif (decide ((((a0.nth a1.i.toNat).nth a2.i.toNat).fld 0).i < (0 : Int))) then (T.bool true) else (T.bool (decide ((((a0.nth a1.i.toNat).nth a2.i.toNat).fld 0).i > (15 : Int))))).b == false)) || true) then
 bif ((!((bif (decide ((((a0.nth a1.i.toNat).nth a2.i.toNat).fld 0).i < (0 : Int))) then (T.bool true) else (T.bool (decide ((((a0.nth a1.i.toNat).nth a2.i.toNat).fld 0).i > (15 : Int))))).b == false)) || ((bif (decide ((((a0.nth a1.i.toNat).nth a2.i.toNat).fld 0).i < (0 : Int))) then (T.bool true) else (T.bool (decide ((((a0.nth a1.i.toNat).nth a2.i.toNat).fld 0).i > (15 : Int))))).b == false)) then
 bif ((!((bif (decide ((((a0.nth a1.i.toNat).nth a2.i.toNat).fld 0).i < (0 : Int))) then (T.bool true) else (T.bool (decide ((((a0.nth a1.i.toNat).nth a2.i.toNat).fld 0).i > (15 : Int))))).b == false)) || ((bif (decide ((((a0.nth a1.i.toNat).nth a2.i.toNat).fld 0).i < (0 : Int))) then (T.bool true) else (T.bool (decide ((((a0.nth a1.i.toNat).nth a2.i.toNat).fld 0).i > (15 : Int))))).b == false)) then
 bif ((!((bif (decide ((((a0.nth a1.i.toNat).nth a2.i.toNat).fld 0).i < (0 : Int))) then (T.bool true) else (T.bool (decide ((((a0.nth a1.i.toNat).nth a2.i.toNat).fld 0).i > (15 : Int))))).b == false)) || ((((bif (decide ((((a0.nth a1.i.toNat).nth a2.i.toNat).fld 0).i < (0 : Int))) then (T.bool true) else (T.bool (decide ((((a0.nth a1.i.toNat).nth a2.i.toNat).fld 0).i > (15 : Int))))).b == false) && true) && true)) then
 bif (bif (bif (decide ((((a0.nth a1.i.toNat).nth a2.i.toNat).fld 0).i < (0 : Int))) then (T.bool true) else (T.bool (decide ((((a0.nth a1.i.toNat).nth a2.i.toNat).fld 0).i > (15 : Int))))).b then true else ((bif (decide ((((a0.nth a1.i.toNat).nth a2.i.toNat).fld 0).i < (0 : Int))) then (T.bool true) else (T.bool (decide ((((a0.nth a1.i.toNat).nth a2.i.toNat).fld 0).i > (15 : Int))))).b == false)) then
 bif (bif (bif (decide ((((a0.nth a1.i.toNat).nth a2.i.toNat).fld 0).i < (0 : Int))) then (T.bool true) else (T.bool (decide ((((a0.nth a1.i.toNat).nth a2.i.toNat).fld 0).i > (15 : Int))))).b then (T.bool true) else (T.bool (decide ((((((a0.nth a1.i.toNat).nth a2.i.toNat).fld 1).es).length : Int) > (3 : Int))))).b then
 some [(T.bool false)]
 else
 l_impl_recordOk_0 H a0 a1 a2 (((a0.nth a1.i.toNat).nth a2.i.toNat).fld 1) (T.int (((((a0.nth a1.i.toNat).nth a2.i.toNat).fld 1).es).length : Int)) (T.int (0 : Int)) ((a0.nth a1.i.toNat).nth a2.i.toNat)
 else
 none
 else
 none
 else
 none
 else
 none
 else
 none
 else
 none
 else
 none
 else
 none
 else
 none
 else
 none
 else
 none := by kernel_rfl
theorem q_impl_recordOk (H : List Item → CS → R) (C : CallsE) (a0 a1 a2 : T) : enterE fi_impl_recordOk env H C [a0, a1, a2] = b_impl_recordOk H C a0 a1 a2 := by
 refine (e_impl_recordOk H C a0 a1 a2).trans ?_
 unfold b_impl_recordOk
 all_goals cases hc : ((decide (0 ≤ a1.i) && decide (a1.i.toNat < a0.es.length))) with
 | true =>
  try simp only [bs]
  all_goals cases hc : ((decide (0 ≤ a2.i) && decide (a2.i.toNat < ((a0.nth a1.i.toNat).es).length))) with
  | true =>
   try simp only [bs]
   all_goals cases hc : ((decide ((((a0.nth a1.i.toNat).nth a2.i.toNat).fld 0).i < (0 : Int)))) with
   | true =>
    try simp only [bs]
    all_goals kernel_rfl
   | false =>
    try simp only [bs]
    all_goals cases hc : ((decide ((((a0.nth a1.i.toNat).nth a2.i.toNat).fld 0).i > (15 : Int)))) with
    | true =>
     try simp only [bs]
     all_goals kernel_rfl
    | false =>
     try simp only [bs]
     all_goals cases hc : ((decide ((((((a0.nth a1.i.toNat).nth a2.i.toNat).fld 1).es).length : Int) > (3 : Int)))) with
     | true =>
      try simp only [bs]
      all_goals kernel_rfl
     | false =>
      try simp only [bs]
      all_goals kernel_rfl
  | false =>
   try simp only [bs]
   all_goals kernel_rfl
 | false =>
  try simp only [bs]
  all_goals kernel_rfl
theorem y_impl_recordOk (a0 a1 a2 : T) {r : List T} (h : Yields (fun k => b_impl_recordOk (hl env k fi_impl_recordOk) (cl env k) a0 a1 a2) r) : Yields (fun k => cl env k F_impl_recordOk [a0, a1, a2]) r := Yields.call (fi := fi_impl_recordOk) rfl rfl (fun H C => q_impl_recordOk H C a0 a1 a2) h
noncomputable abbrev b_impl_recordOk_0 (H : List Item → CS → R) (C : CallsE) (x1 : T) (x2 : T) (x3 : T) (x4 : T) (x5 : T) (x6 : T) (x7 : T) : R :=
 bif (decide (x6.i < x5.i)) then
 bif (decide (0 ≤ x6.i) && decide (x6.i.toNat < x4.es.length)) then
 obind (C F_impl_kindAt [(x4.nth x6.i.toNat)]) fun r1 =>
 bif (rt r1 2).b then
 bif (decide ((rt r1 0).i > x2.i)) then
 some [(T.bool false)]
 else
 bif ((rt r1 0).i == x2.i) then
 bif (decide ((rt r1 1).i ≥ x3.i)) then
 some [(T.bool false)]
 else
 obind (C F_impl_plainOk [x1, (x4.nth x6.i.toNat)]) fun r2 =>
 bif (!(rt r2 0).b) then
 some [(T.bool false)]
 else
 obind (C F_impl_ableOf [x1, (x4.nth x6.i.toNat)]) fun r3 =>
 bif ((IntKind.wrap .i64 ((BitVec.ofInt (IntKind.i64).bits (IntKind.wrap .i64 ((BitVec.ofInt (IntKind.i64).bits ((x7.fld 0).i) &&& BitVec.ofInt (IntKind.i64).bits (7 : Int)).toNat : Nat)) &&& ~~~ BitVec.ofInt (IntKind.i64).bits ((rt r3 0).i)).toNat : Nat)) != (0 : Int)) then
 some [(T.bool false)]
 else
 bif ((IntKind.wrap .i64 ((BitVec.ofInt (IntKind.i64).bits ((x7.fld 0).i) &&& BitVec.ofInt (IntKind.i64).bits (8 : Int)).toNat : Nat)) != (0 : Int)) then
 bif ((IntKind.wrap .i64 ((BitVec.ofInt (IntKind.i64).bits ((rt r3 0).i) &&& BitVec.ofInt (IntKind.i64).bits (4 : Int)).toNat : Nat)) == (0 : Int)) then
 some [(T.bool false)]
 else
 l_impl_recordOk_0 H x1 x2 x3 x4 x5 (T.int (IntKind.wrap .i64 (x6.i + (1 : Int)))) x7
 else
 l_impl_recordOk_0 H x1 x2 x3 x4 x5 (T.int (IntKind.wrap .i64 (x6.i + (1 : Int)))) x7
 else
 obind (C F_impl_plainOk [x1, (x4.nth x6.i.toNat)]) fun r2 =>
 bif (!(rt r2 0).b) then
 some [(T.bool false)]
 else
 obind (C F_impl_ableOf [x1, (x4.nth x6.i.toNat)]) fun r3 =>
 bif ((IntKind.wrap .i64 ((BitVec.ofInt (IntKind.i64).bits (IntKind.wrap .i64 ((BitVec.ofInt (IntKind.i64).bits ((x7.fld 0).i) &&& BitVec.ofInt (IntKind.i64).bits (7 : Int)).toNat : Nat)) &&& ~~~ BitVec.ofInt (IntKind.i64).bits ((rt r3 0).i)).toNat : Nat)) != (0 : Int)) then
 some [(T.bool false)]
 else
 bif ((IntKind.wrap .i64 ((BitVec.ofInt (IntKind.i64).bits ((x7.fld 0).i) &&& BitVec.ofInt (IntKind.i64).bits (8 : Int)).toNat : Nat)) != (0 : Int)) then
 bif ((IntKind.wrap .i64 ((BitVec.ofInt (IntKind.i64).bits ((rt r3 0).i) &&& BitVec.ofInt (IntKind.i64).bits (4 : Int)).toNat : Nat)) == (0 : Int)) then
 some [(T.bool false)]
 else
 l_impl_recordOk_0 H x1 x2 x3 x4 x5 (T.int (IntKind.wrap .i64 (x6.i + (1 : Int)))) x7
 else
 l_impl_recordOk_0 H x1 x2 x3 x4 x5 (T.int (IntKind.wrap .i64 (x6.i + (1 : Int)))) x7
 else
 obind (C F_impl_plainOk [x1, (x4.nth x6.i.toNat)]) fun r2 =>
 bif (!(rt r2 0).b) then
 some [(T.bool false)]
 else
 obind (C F_impl_ableOf [x1, (x4.nth x6.i.toNat)]) fun r3 =>
 bif ((IntKind.wrap .i64 ((BitVec.ofInt (IntKind.i64).bits (IntKind.wrap .i64 ((BitVec.ofInt (IntKind.i64).bits ((x7.fld 0).i) &&& BitVec.ofInt (IntKind.i64).bits (7 : Int)).toNat : Nat)) &&& ~~~ BitVec.ofInt (IntKind.i64).bits ((rt r3 0).i)).toNat : Nat)) != (0 : Int)) then
 some [(T.bool false)]
 else
 bif ((IntKind.wrap .i64 ((BitVec.ofInt (IntKind.i64).bits ((x7.fld 0).i) &&& BitVec.ofInt (IntKind.i64).bits (8 : Int)).toNat : Nat)) != (0 : Int)) then
 bif ((IntKind.wrap .i64 ((BitVec.ofInt (IntKind.i64).bits ((rt r3 0).i) &&& BitVec.ofInt (IntKind.i64).bits (4 : Int)).toNat : Nat)) == (0 : Int)) then
 some [(T.bool false)]
 else
 l_impl_recordOk_0 H x1 x2 x3 x4 x5 (T.int (IntKind.wrap .i64 (x6.i + (1 : Int)))) x7
 else
 l_impl_recordOk_0 H x1 x2 x3 x4 x5 (T.int (IntKind.wrap .i64 (x6.i + (1 : Int)))) x7
 else
 none
 else
 some [(T.bool true)]
theorem e_impl_recordOk_0 (H : List Item → CS → R) (C : CallsE) (x1 : T) (x2 : T) (x3 : T) (x4 : T) (x5 : T) (x6 : T) (x7 : T) : headE fi_impl_recordOk env H C (hdAt fi_impl_recordOk.body 0) ([(0, .val 54 x1), (1, .val 3 x2), (2, .val 3 x3), (7, .pref 88 7 []), (36, .val 56 x4), (37, .val 3 x5), (38, .val 3 x6)], [(7, ⟨88, x7, .fz, true⟩)]) =
 bif (decide (x6.i < x5.i)) then
 bif (decide (0 ≤ x6.i) && decide (x6.i.toNat < x4.es.length)) then
 obind (C F_impl_kindAt [(x4.nth x6.i.toNat)]) fun r1 =>
 bif ((!((rt r1 2).b == true)) || true) then
 bif ((!((rt r1 2).b == true)) || true) then
 bif ((!((rt r1 2).b == true)) || ((((rt r1 2).b == true) && ((rt r1 2).b == true)) && true)) then
 bif ((!((rt r1 2).b == true)) || ((rt r1 2).b == true)) then
 bif ((!(((rt r1 2).b == true) && ((decide ((rt r1 0).i > x2.i)) == false))) || true) then
 bif ((!(((rt r1 2).b == true) && ((decide ((rt r1 0).i > x2.i)) == false))) || true) then
 bif ((!(((rt r1 2).b == true) && ((decide ((rt r1 0).i > x2.i)) == false))) || (((((rt r1 2).b == true) && ((decide ((rt r1 0).i > x2.i)) == false)) && (((rt r1 2).b == true) && ((decide ((rt r1 0).i > x2.i)) == false))) && true)) then
 bif ((!(((rt r1 2).b == true) && ((decide ((rt r1 0).i > x2.i)) == false))) || (((rt r1 2).b == true) && ((decide ((rt r1 0).i > x2.i)) == false))) then
 bif ((!((((rt r1 2).b == true) && ((decide ((rt r1 0).i > x2.i)) == false)) && (((rt r1 0).i == x2.i) == true))) || true) then
 bif ((!((((rt r1 2).b == true) && ((decide ((rt r1 0).i > x2.i)) == false)) && (((rt r1 0).i == x2.i) == true))) || true) then
 bif ((!((((rt r1 2).b == true) && ((decide ((rt r1 0).i > x2.i)) == false)) && (((rt r1 0).i == x2.i) == true))) || ((((((rt r1 2).b == true) && ((decide ((rt r1 0).i > x2.i)) == false)) && (((rt r1 0).i == x2.i) == true)) && ((((rt r1 2).b == true) && ((decide ((rt r1 0).i > x2.i)) == false)) && (((rt r1 0).i == x2.i) == true))) && true)) then
 bif ((!(((rt r1 2).b == true) && ((decide ((rt r1 0).i > x2.i)) == false))) || ((((rt r1 2).b == true) && ((decide ((rt r1 0).i > x2.i)) == false)) && (bif ((rt r1 0).i == x2.i) then ((((rt r1 2).b == true) && ((decide ((rt r1 0).i > x2.i)) == false)) && (((rt r1 0).i == x2.i) == true)) else true))) then
 bif ((!((rt r1 2).b == true)) || (((rt r1 2).b == true) && (bif (decide ((rt r1 0).i > x2.i)) then true else (((rt r1 2).b == true) && ((decide ((rt r1 0).i > x2.i)) == false))))) then
 bif (bif (rt r1 2).b then ((rt r1 2).b == true) else true) then
 bif ((!((bif (rt r1 2).b then (bif (decide ((rt r1 0).i > x2.i)) then (T.bool true) else (bif ((rt r1 0).i == x2.i) then (T.bool (decide ((rt r1 1).i ≥ x3.i))) else (T.bool false))) else (T.bool false)).b == false)) || true) then
 bif ((!((bif (rt r1 2).b then (bif (decide ((rt r1 0).i > x2.i)) then (T.bool true) else (bif ((rt r1 0).i == x2.i) then (T.bool (decide ((rt r1 1).i ≥ x3.i))) else (T.bool false))) else (T.bool false)).b == false)) || true) then
 bif ((!((bif (rt r1 2).b then (bif (decide ((rt r1 0).i > x2.i)) then (T.bool true) else (bif ((rt r1 0).i == x2.i) then (T.bool (decide ((rt r1 1).i ≥ x3.i))) else (T.bool false))) else (T.bool false)).b == false)) || (((bif (rt r1 2).b then (bif (decide ((rt r1 0).i > x2.i)) then (T.bool true) else (bif ((rt r1 0).i == x2.i) then (T.bool (decide ((rt r1 1).i ≥ x3.i))) else (T.bool false))) else (T.bool false)).b == false) && (((bif (rt r1 2).b then (bif (decide ((rt r1 0).i > x2.i)) then (T.bool true) else (bif ((rt r1 0).i == x2.i) then (T.bool (decide ((rt r1 1).i ≥ x3.i))) else (T.bool false))) else (T.bool false)).b == false) && true))) then
 obind ((bif ((bif (rt r1 2).b then (bif (decide ((rt r1 0).i > x2.i)) then (T.bool true) else (bif ((rt r1 0).i == x2.i) then (T.bool (decide ((rt r1 1).i ≥ x3.i))) else (T.bool false))) else (T.bool false)).b == false) then C F_impl_plainOk [x1, (x4.nth x6.i.toNat)] else some [])) fun r2 =>
 bif ((!((bif (rt r1 2).b then (bif (decide ((rt r1 0).i > x2.i)) then (T.bool true) else (bif ((rt r1 0).i == x2.i) then (T.bool (decide ((rt r1 1).i ≥ x3.i))) else (T.bool false))) else (T.bool false)).b == false)) || ((bif (rt r1 2).b then (bif (decide ((rt r1 0).i > x2.i)) then (T.bool true) else (bif ((rt r1 0).i == x2.i) then (T.bool (decide ((rt r1 1).i ≥ x3.i))) else (T.bool false))) else (T.bool false)).b == false)) then
 bif (bif (bif (rt r1 2).b then (bif (decide ((rt r1 0).i > x2.i)) then (T.bool true) else (bif ((rt r1 0).i == x2.i) then (T.bool (decide ((rt r1 1).i ≥ x3.i))) else (T.bool false))) else (T.bool false)).b then true else ((bif (rt r1 2).b then (bif (decide ((rt r1 0).i > x2.i)) then (T.bool true) else (bif ((rt r1 0).i == x2.i) then (T.bool (decide ((rt r1 1).i ≥ x3.i))) else (T.bool false))) else (T.bool false)).b == false)) then
 bif (bif (bif (rt r1 2).b then (bif (decide ((rt r1 0).i > x2.i)) then (T.bool true) else (bif ((rt r1 0).i == x2.i) then (T.bool (decide ((rt r1 1).i ≥ x3.i))) else (T.bool false))) else (T.bool false)).b then (T.bool true) else (T.bool (!(rt r2 0).b))).b then
 some [(T.bool false)]
 else
 obind (C F_impl_ableOf [x1, (x4.nth x6.i.toNat)]) fun r3 =>
 bif ((!(((IntKind.wrap .i64 ((BitVec.ofInt (IntKind.i64).bits (IntKind.wrap .i64 ((BitVec.ofInt (IntKind.i64).bits ((x7.fld 0).i) &&& BitVec.ofInt (IntKind.i64).bits (7 : Int)).toNat : Nat)) &&& ~~~ BitVec.ofInt (IntKind.i64).bits ((rt r3 0).i)).toNat : Nat)) != (0 : Int)) == false)) || true) then
 bif ((!(((IntKind.wrap .i64 ((BitVec.ofInt (IntKind.i64).bits (IntKind.wrap .i64 ((BitVec.ofInt (IntKind.i64).bits ((x7.fld 0).i) &&& BitVec.ofInt (IntKind.i64).bits (7 : Int)).toNat : Nat)) &&& ~~~ BitVec.ofInt (IntKind.i64).bits ((rt r3 0).i)).toNat : Nat)) != (0 : Int)) == false)) || (((IntKind.wrap .i64 ((BitVec.ofInt (IntKind.i64).bits (IntKind.wrap .i64 ((BitVec.ofInt (IntKind.i64).bits ((x7.fld 0).i) &&& BitVec.ofInt (IntKind.i64).bits (7 : Int)).toNat : Nat)) &&& ~~~ BitVec.ofInt (IntKind.i64).bits ((rt r3 0).i)).toNat : Nat)) != (0 : Int)) == false)) then
 bif ((!(((IntKind.wrap .i64 ((BitVec.ofInt (IntKind.i64).bits (IntKind.wrap .i64 ((BitVec.ofInt (IntKind.i64).bits ((x7.fld 0).i) &&& BitVec.ofInt (IntKind.i64).bits (7 : Int)).toNat : Nat)) &&& ~~~ BitVec.ofInt (IntKind.i64).bits ((rt r3 0).i)).toNat : Nat)) != (0 : Int)) == false)) || (((((IntKind.wrap .i64 ((BitVec.ofInt (IntKind.i64).bits (IntKind.wrap .i64 ((BitVec.ofInt (IntKind.i64).bits ((x7.fld 0).i) &&& BitVec.ofInt (IntKind.i64).bits (7 : Int)).toNat : Nat)) &&& ~~~ BitVec.ofInt (IntKind.i64).bits ((rt r3 0).i)).toNat : Nat)) != (0 : Int)) == false) && true) && true)) then
 bif ((!(((IntKind.wrap .i64 ((BitVec.ofInt (IntKind.i64).bits (IntKind.wrap .i64 ((BitVec.ofInt (IntKind.i64).bits ((x7.fld 0).i) &&& BitVec.ofInt (IntKind.i64).bits (7 : Int)).toNat : Nat)) &&& ~~~ BitVec.ofInt (IntKind.i64).bits ((rt r3 0).i)).toNat : Nat)) != (0 : Int)) == false)) || (((((IntKind.wrap .i64 ((BitVec.ofInt (IntKind.i64).bits (IntKind.wrap .i64 ((BitVec.ofInt (IntKind.i64).bits ((x7.fld 0).i) &&& BitVec.ofInt (IntKind.i64).bits (7 : Int)).toNat : Nat)) &&& ~~~ BitVec.ofInt (IntKind.i64).bits ((rt r3 0).i)).toNat : Nat)) != (0 : Int)) == false) && true) && true)) then
 bif ((!(((IntKind.wrap .i64 ((BitVec.ofInt (IntKind.i64).bits (IntKind.wrap .i64 ((BitVec.ofInt (IntKind.i64).bits ((x7.fld 0).i) &&& BitVec.ofInt (IntKind.i64).bits (7 : Int)).toNat : Nat)) &&& ~~~ BitVec.ofInt (IntKind.i64).bits ((rt r3 0).i)).toNat : Nat)) != (0 : Int)) == false)) || (((IntKind.wrap .i64 ((BitVec.ofInt (IntKind.i64).bits (IntKind.wrap .i64 ((BitVec.ofInt (IntKind.i64).bits ((x7.fld 0).i) &&& BitVec.ofInt (IntKind.i64).bits (7 : Int)).toNat : Nat)) &&& ~~~ BitVec.ofInt (IntKind.i64).bits ((rt r3 0).i)).toNat : Nat)) != (0 : Int)) == false)) then
 bif ((!((((IntKind.wrap .i64 ((BitVec.ofInt (IntKind.i64).bits (IntKind.wrap .i64 ((BitVec.ofInt (IntKind.i64).bits ((x7.fld 0).i) &&& BitVec.ofInt (IntKind.i64).bits (7 : Int)).toNat : Nat)) &&& ~~~ BitVec.ofInt (IntKind.i64).bits ((rt r3 0).i)).toNat : Nat)) != (0 : Int)) == false) && (((IntKind.wrap .i64 ((BitVec.ofInt (IntKind.i64).bits ((x7.fld 0).i) &&& BitVec.ofInt (IntKind.i64).bits (8 : Int)).toNat : Nat)) != (0 : Int)) == true))) || true) then
 bif ((!((((IntKind.wrap .i64 ((BitVec.ofInt (IntKind.i64).bits (IntKind.wrap .i64 ((BitVec.ofInt (IntKind.i64).bits ((x7.fld 0).i) &&& BitVec.ofInt (IntKind.i64).bits (7 : Int)).toNat : Nat)) &&& ~~~ BitVec.ofInt (IntKind.i64).bits ((rt r3 0).i)).toNat : Nat)) != (0 : Int)) == false) && (((IntKind.wrap .i64 ((BitVec.ofInt (IntKind.i64).bits ((x7.fld 0).i) &&& BitVec.ofInt (IntKind.i64).bits (8 : Int)).toNat : Nat)) != (0 : Int)) == true))) || ((((((IntKind.wrap .i64 ((BitVec.ofInt (IntKind.i64).bits (IntKind.wrap .i64 ((BitVec.ofInt (IntKind.i64).bits ((x7.fld 0).i) &&& BitVec.ofInt (IntKind.i64).bits (7 : Int)).toNat : Nat)) &&& ~~~ BitVec.ofInt (IntKind.i64).bits ((rt r3 0).i)).toNat : Nat)) != (0 : Int)) == false) && (((IntKind.wrap .i64 ((BitVec.ofInt (IntKind.i64).bits ((x7.fld 0).i) &&& BitVec.ofInt (IntKind.i64).bits (8 : Int)).toNat : Nat)) != (0 : Int)) == true)) && true) && true)) then
 bif ((!((((IntKind.wrap .i64 ((BitVec.ofInt (IntKind.i64).bits (IntKind.wrap .i64 ((BitVec.ofInt (IntKind.i64).bits ((x7.fld 0).i) &&& BitVec.ofInt (IntKind.i64).bits (7 : Int)).toNat : Nat)) &&& ~~~ BitVec.ofInt (IntKind.i64).bits ((rt r3 0).i)).toNat : Nat)) != (0 : Int)) == false) && (((IntKind.wrap .i64 ((BitVec.ofInt (IntKind.i64).bits ((x7.fld 0).i) &&& BitVec.ofInt (IntKind.i64).bits (8 : Int)).toNat : Nat)) != (0 : Int)) == true))) || ((((((IntKind.wrap .i64 ((BitVec.ofInt (IntKind.i64).bits (IntKind.wrap .i64 ((BitVec.ofInt (IntKind.i64).bits ((x7.fld 0).i) &&& BitVec.ofInt (IntKind.i64).bits (7 : Int)).toNat : Nat)) &&& ~~~ BitVec.ofInt (IntKind.i64).bits ((rt r3 0).i)).toNat : Nat)) != (0 : Int)) == false) && (((IntKind.wrap .i64 ((BitVec.ofInt (IntKind.i64).bits ((x7.fld 0).i) &&& BitVec.ofInt (IntKind.i64).bits (8 : Int)).toNat : Nat)) != (0 : Int)) == true)) && true) && true)) then
 bif ((!(((IntKind.wrap .i64 ((BitVec.ofInt (IntKind.i64).bits (IntKind.wrap .i64 ((BitVec.ofInt (IntKind.i64).bits ((x7.fld 0).i) &&& BitVec.ofInt (IntKind.i64).bits (7 : Int)).toNat : Nat)) &&& ~~~ BitVec.ofInt (IntKind.i64).bits ((rt r3 0).i)).toNat : Nat)) != (0 : Int)) == false)) || ((((IntKind.wrap .i64 ((BitVec.ofInt (IntKind.i64).bits (IntKind.wrap .i64 ((BitVec.ofInt (IntKind.i64).bits ((x7.fld 0).i) &&& BitVec.ofInt (IntKind.i64).bits (7 : Int)).toNat : Nat)) &&& ~~~ BitVec.ofInt (IntKind.i64).bits ((rt r3 0).i)).toNat : Nat)) != (0 : Int)) == false) && (bif ((IntKind.wrap .i64 ((BitVec.ofInt (IntKind.i64).bits ((x7.fld 0).i) &&& BitVec.ofInt (IntKind.i64).bits (8 : Int)).toNat : Nat)) != (0 : Int)) then ((((IntKind.wrap .i64 ((BitVec.ofInt (IntKind.i64).bits (IntKind.wrap .i64 ((BitVec.ofInt (IntKind.i64).bits ((x7.fld 0).i) &&& BitVec.ofInt (IntKind.i64).bits (7 : Int)).toNat : Nat)) &&& ~~~ BitVec.ofInt (IntKind.i64).bits ((rt r3 0).i)).toNat : Nat)) != (0 : Int)) == false) && (((IntKind.wrap .i64 ((BitVec.ofInt (IntKind.i64).bits ((x7.fld 0).i) &&& BitVec.ofInt (IntKind.i64).bits (8 : Int)).toNat : Nat)) != (0 : Int)) == true)) else true))) then
 bif (bif ((IntKind.wrap .i64 ((BitVec.ofInt (IntKind.i64).bits (IntKind.wrap .i64 ((BitVec.ofInt (IntKind.i64).bits ((x7.fld 0).i) &&& BitVec.ofInt (IntKind.i64).bits (7 : Int)).toNat : Nat)) &&& ~~~ BitVec.ofInt (IntKind.i64).bits ((rt r3 0).i)).toNat : Nat)) != (0 : Int)) then true else (((IntKind.wrap .i64 ((BitVec.ofInt (IntKind.i64).bits (IntKind.wrap .i64 ((BitVec.ofInt (IntKind.i64).bits ((x7.fld 0).i) &&& BitVec.ofInt (IntKind.i64).bits (7 : Int)).toNat : Nat)) &&& ~~~ BitVec.ofInt (IntKind.i64).bits ((rt r3 0).i)).toNat : Nat)) != (0 : Int)) == false)) then
 bif (bif ((IntKind.wrap .i64 ((BitVec.ofInt (IntKind.i64).bits (IntKind.wrap .i64 ((BitVec.ofInt (IntKind.i64).bits ((x7.fld 0).i) &&& BitVec.ofInt (IntKind.i64).bits (7 : Int)).toNat : Nat)) &&& ~~~ BitVec.ofInt (IntKind.i64).bits ((rt r3 0).i)).toNat : Nat)) != (0 : Int)) then (T.bool true) else (bif ((IntKind.wrap .i64 ((BitVec.ofInt (IntKind.i64).bits ((x7.fld 0).i) &&& BitVec.ofInt (IntKind.i64).bits (8 : Int)).toNat : Nat)) != (0 : Int)) then (T.bool ((IntKind.wrap .i64 ((BitVec.ofInt (IntKind.i64).bits ((rt r3 0).i) &&& BitVec.ofInt (IntKind.i64).bits (4 : Int)).toNat : Nat)) == (0 : Int))) else (T.bool false))).b then
 some [(T.bool false)]
 else
 l_impl_recordOk_0 H x1 x2 x3 x4 x5 (T.int (IntKind.wrap .i64 (x6.i + (1 : Int)))) x7
 else
 none
 else
 none
 else
 none
 else
 none
 else
 none
 else
 none
 else
 none
 else
 none
 else
 none
 else
 none
 else
 none
 else
 none
 else
 none
 else
 none
 else
 none
 else
 none
 else
 none
 else
 none
 else
 none
 else
 none
 else
 none
 else
 none
 else
 none
 else
 none
 else
 none
 else
 none
 else
 none
 else
 none
 else
 none
 else
 none
 else
 some [(T.bool true)] := by kernel_rfl
theorem q_impl_recordOk_0 (H : List Item → CS → R) (C : CallsE) (x1 : T) (x2 : T) (x3 : T) (x4 : T) (x5 : T) (x6 : T) (x7 : T) : headE fi_impl_recordOk env H C (hdAt fi_impl_recordOk.body 0) ([(0, .val 54 x1), (1, .val 3 x2), (2, .val 3 x3), (7, .pref 88 7 []), (36, .val 56 x4), (37, .val 3 x5), (38, .val 3 x6)], [(7, ⟨88, x7, .fz, true⟩)]) = b_impl_recordOk_0 H C x1 x2 x3 x4 x5 x6 x7 := by
 refine (e_impl_recordOk_0 H C x1 x2 x3 x4 x5 x6 x7).trans ?_
 unfold b_impl_recordOk_0
 all_goals cases hc : ((decide (x6.i < x5.i))) with
 | true =>
  try simp only [bs]
  all_goals cases hc : ((decide (0 ≤ x6.i) && decide (x6.i.toNat < x4.es.length))) with
  | true =>
   try simp only [bs]
   all_goals refine obind_congr fun r1 => ?_
   all_goals try simp only [bs]
   all_goals cases hc : ((rt r1 2).b) with
   | true =>
    try simp only [bs]
    all_goals cases hc : ((decide ((rt r1 0).i > x2.i))) with
    | true =>
     try simp only [bs]
     all_goals cases hc : (((rt r1 0).i == x2.i)) with
     | true =>
      try simp only [bs]
      all_goals kernel_rfl
     | false =>
      try simp only [bs]
      all_goals kernel_rfl
    | false =>
     try simp only [bs]
     all_goals cases hc : (((rt r1 0).i == x2.i)) with
     | true =>
      try simp only [bs]
      all_goals cases hc : ((decide ((rt r1 1).i ≥ x3.i))) with
      | true =>
       try simp only [bs]
       all_goals kernel_rfl
      | false =>
       try simp only [bs]
       all_goals refine obind_congr fun r2 => ?_
       all_goals try simp only [bs]
       all_goals cases hc : ((!(rt r2 0).b)) with
       | true =>
        try simp only [bs]
        all_goals kernel_rfl
       | false =>
        try simp only [bs]
        all_goals refine obind_congr fun r3 => ?_
        all_goals try simp only [bs]
        all_goals cases hc : (((IntKind.wrap .i64 ((BitVec.ofInt (IntKind.i64).bits (IntKind.wrap .i64 ((BitVec.ofInt (IntKind.i64).bits ((x7.fld 0).i) &&& BitVec.ofInt (IntKind.i64).bits (7 : Int)).toNat : Nat)) &&& ~~~ BitVec.ofInt (IntKind.i64).bits ((rt r3 0).i)).toNat : Nat)) != (0 : Int))) with
        | true =>
         try simp only [bs]
         all_goals cases hc : (((IntKind.wrap .i64 ((BitVec.ofInt (IntKind.i64).bits ((x7.fld 0).i) &&& BitVec.ofInt (IntKind.i64).bits (8 : Int)).toNat : Nat)) != (0 : Int))) with
         | true =>
          try simp only [bs]
          all_goals kernel_rfl
         | false =>
          try simp only [bs]
          all_goals kernel_rfl
        | false =>
         try simp only [bs]
         all_goals cases hc : (((IntKind.wrap .i64 ((BitVec.ofInt (IntKind.i64).bits ((x7.fld 0).i) &&& BitVec.ofInt (IntKind.i64).bits (8 : Int)).toNat : Nat)) != (0 : Int))) with
         | true =>
          try simp only [bs]
          all_goals cases hc : (((IntKind.wrap .i64 ((BitVec.ofInt (IntKind.i64).bits ((rt r3 0).i) &&& BitVec.ofInt (IntKind.i64).bits (4 : Int)).toNat : Nat)) == (0 : Int))) with
          | true =>
           try simp only [bs]
           all_goals kernel_rfl
          | false =>
           try simp only [bs]
           all_goals kernel_rfl
         | false =>
          try simp only [bs]
          all_goals kernel_rfl
     | false =>
      try simp only [bs]
      all_goals refine obind_congr fun r2 => ?_
      all_goals try simp only [bs]
      all_goals cases hc : ((!(rt r2 0).b)) with
      | true =>
       try simp only [bs]
       all_goals kernel_rfl
      | false =>
       try simp only [bs]
       all_goals refine obind_congr fun r3 => ?_
       all_goals try simp only [bs]
       all_goals cases hc : (((IntKind.wrap .i64 ((BitVec.ofInt (IntKind.i64).bits (IntKind.wrap .i64 ((BitVec.ofInt (IntKind.i64).bits ((x7.fld 0).i) &&& BitVec.ofInt (IntKind.i64).bits (7 : Int)).toNat : Nat)) &&& ~~~ BitVec.ofInt (IntKind.i64).bits ((rt r3 0).i)).toNat : Nat)) != (0 : Int))) with
       | true =>
        try simp only [bs]
        all_goals cases hc : (((IntKind.wrap .i64 ((BitVec.ofInt (IntKind.i64).bits ((x7.fld 0).i) &&& BitVec.ofInt (IntKind.i64).bits (8 : Int)).toNat : Nat)) != (0 : Int))) with
        | true =>
         try simp only [bs]
         all_goals kernel_rfl
        | false =>
         try simp only [bs]
         all_goals kernel_rfl
       | false =>
        try simp only [bs]
        all_goals cases hc : (((IntKind.wrap .i64 ((BitVec.ofInt (IntKind.i64).bits ((x7.fld 0).i) &&& BitVec.ofInt (IntKind.i64).bits (8 : Int)).toNat : Nat)) != (0 : Int))) with
        | true =>
         try simp only [bs]
         all_goals cases hc : (((IntKind.wrap .i64 ((BitVec.ofInt (IntKind.i64).bits ((rt r3 0).i) &&& BitVec.ofInt (IntKind.i64).bits (4 : Int)).toNat : Nat)) == (0 : Int))) with
         | true =>
          try simp only [bs]
          all_goals kernel_rfl
         | false =>
          try simp only [bs]
          all_goals kernel_rfl
        | false =>
         try simp only [bs]
         all_goals kernel_rfl
   | false =>
    try simp only [bs]
    all_goals cases hc : ((decide ((rt r1 0).i > x2.i))) with
    | true =>
     try simp only [bs]
     all_goals cases hc : (((rt r1 0).i == x2.i)) with
     | true =>
      try simp only [bs]
      all_goals refine obind_congr fun r2 => ?_
      all_goals try simp only [bs]
      all_goals cases hc : ((!(rt r2 0).b)) with
      | true =>
       try simp only [bs]
       all_goals kernel_rfl
      | false =>
       try simp only [bs]
       all_goals refine obind_congr fun r3 => ?_
       all_goals try simp only [bs]
       all_goals cases hc : (((IntKind.wrap .i64 ((BitVec.ofInt (IntKind.i64).bits (IntKind.wrap .i64 ((BitVec.ofInt (IntKind.i64).bits ((x7.fld 0).i) &&& BitVec.ofInt (IntKind.i64).bits (7 : Int)).toNat : Nat)) &&& ~~~ BitVec.ofInt (IntKind.i64).bits ((rt r3 0).i)).toNat : Nat)) != (0 : Int))) with
       | true =>
        try simp only [bs]
        all_goals cases hc : (((IntKind.wrap .i64 ((BitVec.ofInt (IntKind.i64).bits ((x7.fld 0).i) &&& BitVec.ofInt (IntKind.i64).bits (8 : Int)).toNat : Nat)) != (0 : Int))) with
        | true =>
         try simp only [bs]
         all_goals kernel_rfl
        | false =>
         try simp only [bs]
         all_goals kernel_rfl
       | false =>
        try simp only [bs]
        all_goals cases hc : (((IntKind.wrap .i64 ((BitVec.ofInt (IntKind.i64).bits ((x7.fld 0).i) &&& BitVec.ofInt (IntKind.i64).bits (8 : Int)).toNat : Nat)) != (0 : Int))) with
        | true =>
         try simp only [bs]
         all_goals cases hc : (((IntKind.wrap .i64 ((BitVec.ofInt (IntKind.i64).bits ((rt r3 0).i) &&& BitVec.ofInt (IntKind.i64).bits (4 : Int)).toNat : Nat)) == (0 : Int))) with
         | true =>
          try simp only [bs]
          all_goals kernel_rfl
         | false =>
          try simp only [bs]
          all_goals kernel_rfl
        | false =>
         try simp only [bs]
         all_goals kernel_rfl
     | false =>
      try simp only [bs]
      all_goals refine obind_congr fun r2 => ?_
      all_goals try simp only [bs]
      all_goals cases hc : ((!(rt r2 0).b)) with
      | true =>
       try simp only [bs]
       all_goals kernel_rfl
      | false =>
       try simp only [bs]
       all_goals refine obind_congr fun r3 => ?_
       all_goals try simp only [bs]
       all_goals cases hc : (((IntKind.wrap .i64 ((BitVec.ofInt (IntKind.i64).bits (IntKind.wrap .i64 ((BitVec.ofInt (IntKind.i64).bits ((x7.fld 0).i) &&& BitVec.ofInt (IntKind.i64).bits (7 : Int)).toNat : Nat)) &&& ~~~ BitVec.ofInt (IntKind.i64).bits ((rt r3 0).i)).toNat : Nat)) != (0 : Int))) with
       | true =>
        try simp only [bs]
        all_goals cases hc : (((IntKind.wrap .i64 ((BitVec.ofInt (IntKind.i64).bits ((x7.fld 0).i) &&& BitVec.ofInt (IntKind.i64).bits (8 : Int)).toNat : Nat)) != (0 : Int))) with
        | true =>
         try simp only [bs]
         all_goals kernel_rfl
        | false =>
         try simp only [bs]
         all_goals kernel_rfl
       | false =>
        try simp only [bs]
        all_goals cases hc : (((IntKind.wrap .i64 ((BitVec.ofInt (IntKind.i64).bits ((x7.fld 0).i) &&& BitVec.ofInt (IntKind.i64).bits (8 : Int)).toNat : Nat)) != (0 : Int))) with
        | true =>
         try simp only [bs]
         all_goals cases hc : (((IntKind.wrap .i64 ((BitVec.ofInt (IntKind.i64).bits ((rt r3 0).i) &&& BitVec.ofInt (IntKind.i64).bits (4 : Int)).toNat : Nat)) == (0 : Int))) with
         | true =>
          try simp only [bs]
          all_goals kernel_rfl
         | false =>
          try simp only [bs]
          all_goals kernel_rfl
        | false =>
         try simp only [bs]
         all_goals kernel_rfl
    | false =>
     try simp only [bs]
     all_goals cases hc : (((rt r1 0).i == x2.i)) with
     | true =>
      try simp only [bs]
      all_goals refine obind_congr fun r2 => ?_
      all_goals try simp only [bs]
      all_goals cases hc : ((!(rt r2 0).b)) with
      | true =>
       try simp only [bs]
       all_goals kernel_rfl
      | false =>
       try simp only [bs]
       all_goals refine obind_congr fun r3 => ?_
       all_goals try simp only [bs]
       all_goals cases hc : (((IntKind.wrap .i64 ((BitVec.ofInt (IntKind.i64).bits (IntKind.wrap .i64 ((BitVec.ofInt (IntKind.i64).bits ((x7.fld 0).i) &&& BitVec.ofInt (IntKind.i64).bits (7 : Int)).toNat : Nat)) &&& ~~~ BitVec.ofInt (IntKind.i64).bits ((rt r3 0).i)).toNat : Nat)) != (0 : Int))) with
       | true =>
        try simp only [bs]
        all_goals cases hc : (((IntKind.wrap .i64 ((BitVec.ofInt (IntKind.i64).bits ((x7.fld 0).i) &&& BitVec.ofInt (IntKind.i64).bits (8 : Int)).toNat : Nat)) != (0 : Int))) with
        | true =>
         try simp only [bs]
         all_goals kernel_rfl
        | false =>
         try simp only [bs]
         all_goals kernel_rfl
       | false =>
        try simp only [bs]
        all_goals cases hc : (((IntKind.wrap .i64 ((BitVec.ofInt (IntKind.i64).bits ((x7.fld 0).i) &&& BitVec.ofInt (IntKind.i64).bits (8 : Int)).toNat : Nat)) != (0 : Int))) with
        | true =>
         try simp only [bs]
         all_goals cases hc : (((IntKind.wrap .i64 ((BitVec.ofInt (IntKind.i64).bits ((rt r3 0).i) &&& BitVec.ofInt (IntKind.i64).bits (4 : Int)).toNat : Nat)) == (0 : Int))) with
         | true =>
          try simp only [bs]
          all_goals kernel_rfl
         | false =>
          try simp only [bs]
          all_goals kernel_rfl
        | false =>
         try simp only [bs]
         all_goals kernel_rfl
     | false =>
      try simp only [bs]
      all_goals refine obind_congr fun r2 => ?_
      all_goals try simp only [bs]
      all_goals cases hc : ((!(rt r2 0).b)) with
      | true =>
       try simp only [bs]
       all_goals kernel_rfl
      | false =>
       try simp only [bs]
       all_goals refine obind_congr fun r3 => ?_
       all_goals try simp only [bs]
       all_goals cases hc : (((IntKind.wrap .i64 ((BitVec.ofInt (IntKind.i64).bits (IntKind.wrap .i64 ((BitVec.ofInt (IntKind.i64).bits ((x7.fld 0).i) &&& BitVec.ofInt (IntKind.i64).bits (7 : Int)).toNat : Nat)) &&& ~~~ BitVec.ofInt (IntKind.i64).bits ((rt r3 0).i)).toNat : Nat)) != (0 : Int))) with
       | true =>
        try simp only [bs]
        all_goals cases hc : (((IntKind.wrap .i64 ((BitVec.ofInt (IntKind.i64).bits ((x7.fld 0).i) &&& BitVec.ofInt (IntKind.i64).bits (8 : Int)).toNat : Nat)) != (0 : Int))) with
        | true =>
         try simp only [bs]
         all_goals kernel_rfl
        | false =>
         try simp only [bs]
         all_goals kernel_rfl
       | false =>
        try simp only [bs]
        all_goals cases hc : (((IntKind.wrap .i64 ((BitVec.ofInt (IntKind.i64).bits ((x7.fld 0).i) &&& BitVec.ofInt (IntKind.i64).bits (8 : Int)).toNat : Nat)) != (0 : Int))) with
        | true =>
         try simp only [bs]
         all_goals cases hc : (((IntKind.wrap .i64 ((BitVec.ofInt (IntKind.i64).bits ((rt r3 0).i) &&& BitVec.ofInt (IntKind.i64).bits (4 : Int)).toNat : Nat)) == (0 : Int))) with
         | true =>
          try simp only [bs]
          all_goals kernel_rfl
         | false =>
          try simp only [bs]
          all_goals kernel_rfl
        | false =>
         try simp only [bs]
         all_goals kernel_rfl
  | false =>
   try simp only [bs]
   all_goals kernel_rfl
 | false =>
  try simp only [bs]
  all_goals kernel_rfl
theorem y_impl_recordOk_0 (x1 : T) (x2 : T) (x3 : T) (x4 : T) (x5 : T) (x6 : T) (x7 : T) {r : List T} (h : Yields (fun k => b_impl_recordOk_0 (hl env k fi_impl_recordOk) (cl env k) x1 x2 x3 x4 x5 x6 x7) r) : Yields (fun k => l_impl_recordOk_0 (hl env k fi_impl_recordOk) x1 x2 x3 x4 x5 x6 x7) r := Yields.head (fun H C => q_impl_recordOk_0 H C x1 x2 x3 x4 x5 x6 x7) h
noncomputable def l_impl_formOf_0 (H : List Item → CS → R) (x1 : T) (x2 : T) (x3 : T) (x4 : T) (x5 : T) : R := H (hdAt fi_impl_formOf.body 0) ([(0, .val 9 x1), (2, .pref 133 2 []), (6, .sref 144 6 []), (7, .val 3 x2), (8, .val 3 x3)], [(2, ⟨133, x4, .dp, true⟩), (6, ⟨144, x5, .dp, false⟩)])
/- loop.example/heirlooms/impl.formOf -/
noncomputable abbrev b_impl_formOf (H : List Item → CS → R) (C : CallsE) (a0 : T) : R :=
 obind (C F_impl_insForms []) fun r1 =>
 l_impl_formOf_0 H a0 (T.int (((rt r1 0).es).length : Int)) (T.int (0 : Int)) (T.st [(T.str (⟨#[]⟩ : ByteArray)), (T.int (0 : Int)), (T.int (0 : Int))]) (rt r1 0)
theorem q_impl_formOf (H : List Item → CS → R) (C : CallsE) (a0 : T) : enterE fi_impl_formOf env H C [a0] = b_impl_formOf H C a0 := by kernel_rfl
theorem y_impl_formOf (a0 : T) {r : List T} (h : Yields (fun k => b_impl_formOf (hl env k fi_impl_formOf) (cl env k) a0) r) : Yields (fun k => cl env k F_impl_formOf [a0]) r := Yields.call (fi := fi_impl_formOf) rfl rfl (fun H C => q_impl_formOf H C a0) h
noncomputable abbrev b_impl_formOf_0 (H : List Item → CS → R) (C : CallsE) (x1 : T) (x2 : T) (x3 : T) (x4 : T) (x5 : T) : R :=
 bif (decide (x3.i < x2.i)) then
 bif (decide (0 ≤ x3.i) && decide (x3.i.toNat < x5.es.length)) then
 bif ((((x5.nth x3.i.toNat).fld 0).s).toList == x1.s.toList) then
 some [(x5.nth x3.i.toNat), (T.bool true)]
 else
 l_impl_formOf_0 H x1 x2 (T.int (IntKind.wrap .i64 (x3.i + (1 : Int)))) x4 x5
 else
 none
 else
 some [(T.st [(T.str (⟨#[]⟩ : ByteArray)), (T.int (0 : Int)), (T.int (0 : Int))]), (T.bool false)]
theorem q_impl_formOf_0 (H : List Item → CS → R) (C : CallsE) (x1 : T) (x2 : T) (x3 : T) (x4 : T) (x5 : T) : headE fi_impl_formOf env H C (hdAt fi_impl_formOf.body 0) ([(0, .val 9 x1), (2, .pref 133 2 []), (6, .sref 144 6 []), (7, .val 3 x2), (8, .val 3 x3)], [(2, ⟨133, x4, .dp, true⟩), (6, ⟨144, x5, .dp, false⟩)]) = b_impl_formOf_0 H C x1 x2 x3 x4 x5 := by kernel_rfl
theorem y_impl_formOf_0 (x1 : T) (x2 : T) (x3 : T) (x4 : T) (x5 : T) {r : List T} (h : Yields (fun k => b_impl_formOf_0 (hl env k fi_impl_formOf) (cl env k) x1 x2 x3 x4 x5) r) : Yields (fun k => l_impl_formOf_0 (hl env k fi_impl_formOf) x1 x2 x3 x4 x5) r := Yields.head (fun H C => q_impl_formOf_0 H C x1 x2 x3 x4 x5) h
/- loop.example/heirlooms/impl.limitOk -/
noncomputable abbrev b_impl_limitOk (H : List Item → CS → R) (C : CallsE) (a0 a1 : T) : R :=
 bif (a1.i == (0 : Int)) then
 some [(T.bool true)]
 else
 bif (decide (a1.i > (0 : Int))) then
 some [(T.bool (decide (a1.i < a0.i)))]
 else
 some [(T.bool false)]
theorem e_impl_limitOk (H : List Item → CS → R) (C : CallsE) (a0 a1 : T) : enterE fi_impl_limitOk env H C [a0, a1] =
 bif ((!((a1.i == (0 : Int)) == false)) || true) then
 bif ((!((a1.i == (0 : Int)) == false)) || ((((a1.i == (0 : Int)) == false) && true) && true)) then
 bif ((!((a1.i == (0 : Int)) == false)) || ((a1.i == (0 : Int)) == false)) then
 bif ((!(((a1.i == (0 : Int)) == false) && ((decide (a1.i > (0 : Int))) == true))) || true) then
 bif ((!(((a1.i == (0 : Int)) == false) && ((decide (a1.i > (0 : Int))) == true))) || true) then
 bif ((!(((a1.i == (0 : Int)) == false) && ((decide (a1.i > (0 : Int))) == true))) || (((((a1.i == (0 : Int)) == false) && ((decide (a1.i > (0 : Int))) == true)) && (((a1.i == (0 : Int)) == false) && ((decide (a1.i > (0 : Int))) == true))) && true)) then
 bif ((!((a1.i == (0 : Int)) == false)) || (((a1.i == (0 : Int)) == false) && (bif (decide (a1.i > (0 : Int))) then (((a1.i == (0 : Int)) == false) && ((decide (a1.i > (0 : Int))) == true)) else true))) then
 bif (bif (a1.i == (0 : Int)) then true else ((a1.i == (0 : Int)) == false)) then
 some [(bif (a1.i == (0 : Int)) then (T.bool true) else (bif (decide (a1.i > (0 : Int))) then (T.bool (decide (a1.i < a0.i))) else (T.bool false)))]
 else
 none
 else
 none
 else
 none
 else
 none
 else
 none
 else
 none
 else
 none
 else
 none := by kernel_rfl
theorem q_impl_limitOk (H : List Item → CS → R) (C : CallsE) (a0 a1 : T) : enterE fi_impl_limitOk env H C [a0, a1] = b_impl_limitOk H C a0 a1 := by
 refine (e_impl_limitOk H C a0 a1).trans ?_
 unfold b_impl_limitOk
 all_goals cases hc : ((a1.i == (0 : Int))) with
 | true =>
  try simp only [bs]
  all_goals cases hc : ((decide (a1.i > (0 : Int)))) with
  | true =>
   try simp only [bs]
   all_goals kernel_rfl
  | false =>
   try simp only [bs]
   all_goals kernel_rfl
 | false =>
  try simp only [bs]
  all_goals cases hc : ((decide (a1.i > (0 : Int)))) with
  | true =>
   try simp only [bs]
   all_goals kernel_rfl
  | false =>
   try simp only [bs]
   all_goals kernel_rfl
theorem y_impl_limitOk (a0 a1 : T) {r : List T} (h : Yields (fun k => b_impl_limitOk (hl env k fi_impl_limitOk) (cl env k) a0 a1) r) : Yields (fun k => cl env k F_impl_limitOk [a0, a1]) r := Yields.call (fi := fi_impl_limitOk) rfl rfl (fun H C => q_impl_limitOk H C a0 a1) h
/- slices.Clip[[]string,string] -/
noncomputable abbrev b_slices_Clip_string (H : List Item → CS → R) (C : CallsE) (a0 : T) : R :=
 bif (decide (0 ≤ (0 : Int)) && (decide ((0 : Int) ≤ (a0.es.length : Int)) && (decide ((a0.es.length : Int) ≤ (a0.es.length : Int)) && decide ((a0.es.length : Int) ≤ (a0.es.length : Int))))) then
 some [(T.sl ((a0.es.take a0.es.length).drop 0))]
 else
 none
theorem q_slices_Clip_string (H : List Item → CS → R) (C : CallsE) (a0 : T) : enterE fi_slices_Clip_string env H C [a0] = b_slices_Clip_string H C a0 := by kernel_rfl
theorem y_slices_Clip_string (a0 : T) {r : List T} (h : Yields (fun k => b_slices_Clip_string (hl env k fi_slices_Clip_string) (cl env k) a0) r) : Yields (fun k => cl env k F_slices_Clip_string [a0]) r := Yields.call (fi := fi_slices_Clip_string) rfl rfl (fun H C => q_slices_Clip_string H C a0) h
/- slices.Clip[[]int,int] -/
noncomputable abbrev b_slices_Clip_int (H : List Item → CS → R) (C : CallsE) (a0 : T) : R :=
 bif (decide (0 ≤ (0 : Int)) && (decide ((0 : Int) ≤ (a0.es.length : Int)) && (decide ((a0.es.length : Int) ≤ (a0.es.length : Int)) && decide ((a0.es.length : Int) ≤ (a0.es.length : Int))))) then
 some [(T.sl ((a0.es.take a0.es.length).drop 0))]
 else
 none
theorem q_slices_Clip_int (H : List Item → CS → R) (C : CallsE) (a0 : T) : enterE fi_slices_Clip_int env H C [a0] = b_slices_Clip_int H C a0 := by kernel_rfl
theorem y_slices_Clip_int (a0 : T) {r : List T} (h : Yields (fun k => b_slices_Clip_int (hl env k fi_slices_Clip_int) (cl env k) a0) r) : Yields (fun k => cl env k F_slices_Clip_int [a0]) r := Yields.call (fi := fi_slices_Clip_int) rfl rfl (fun H C => q_slices_Clip_int H C a0) h
noncomputable def l_laws_eqStringS_0 (H : List Item → CS → R) (x1 : T) (x2 : T) (x3 : T) : R := H (hdAt fi_laws_eqStringS.body 0) ([(0, .val 56 x1), (1, .val 56 x2), (5, .val 3 x3)], [])
/- loop.example/heirlooms/laws.eqStringS -/
noncomputable abbrev b_laws_eqStringS (H : List Item → CS → R) (C : CallsE) (a0 a1 : T) : R :=
 bif ((a0.es.length : Int) != (a1.es.length : Int)) then
 some [(T.bool false)]
 else
 l_laws_eqStringS_0 H a0 a1 (T.int (0 : Int))
theorem q_laws_eqStringS (H : List Item → CS → R) (C : CallsE) (a0 a1 : T) : enterE fi_laws_eqStringS env H C [a0, a1] = b_laws_eqStringS H C a0 a1 := by kernel_rfl
theorem y_laws_eqStringS (a0 a1 : T) {r : List T} (h : Yields (fun k => b_laws_eqStringS (hl env k fi_laws_eqStringS) (cl env k) a0 a1) r) : Yields (fun k => cl env k F_laws_eqStringS [a0, a1]) r := Yields.call (fi := fi_laws_eqStringS) rfl rfl (fun H C => q_laws_eqStringS H C a0 a1) h
noncomputable abbrev b_laws_eqStringS_0 (H : List Item → CS → R) (C : CallsE) (x1 : T) (x2 : T) (x3 : T) : R :=
 bif (decide (x3.i < (x1.es.length : Int))) then
 bif (decide (0 ≤ x3.i) && decide (x3.i.toNat < x1.es.length)) then
 bif (decide (0 ≤ x3.i) && decide (x3.i.toNat < x2.es.length)) then
 bif (!(((x1.nth x3.i.toNat).s).toList == ((x2.nth x3.i.toNat).s).toList)) then
 some [(T.bool false)]
 else
 l_laws_eqStringS_0 H x1 x2 (T.int (IntKind.wrap .i64 (x3.i + (1 : Int))))
 else
 none
 else
 none
 else
 some [(T.bool true)]
theorem q_laws_eqStringS_0 (H : List Item → CS → R) (C : CallsE) (x1 : T) (x2 : T) (x3 : T) : headE fi_laws_eqStringS env H C (hdAt fi_laws_eqStringS.body 0) ([(0, .val 56 x1), (1, .val 56 x2), (5, .val 3 x3)], []) = b_laws_eqStringS_0 H C x1 x2 x3 := by kernel_rfl
theorem y_laws_eqStringS_0 (x1 : T) (x2 : T) (x3 : T) {r : List T} (h : Yields (fun k => b_laws_eqStringS_0 (hl env k fi_laws_eqStringS) (cl env k) x1 x2 x3) r) : Yields (fun k => l_laws_eqStringS_0 (hl env k fi_laws_eqStringS) x1 x2 x3) r := Yields.head (fun H C => q_laws_eqStringS_0 H C x1 x2 x3) h
noncomputable def l_laws_eqInsS_0 (H : List Item → CS → R) (x1 : T) (x2 : T) (x3 : T) : R := H (hdAt fi_laws_eqInsS.body 0) ([(0, .val 57 x1), (1, .val 57 x2), (5, .val 3 x3)], [])
/- loop.example/heirlooms/laws.eqInsS -/
noncomputable abbrev b_laws_eqInsS (H : List Item → CS → R) (C : CallsE) (a0 a1 : T) : R :=
 bif ((a0.es.length : Int) != (a1.es.length : Int)) then
 some [(T.bool false)]
 else
 l_laws_eqInsS_0 H a0 a1 (T.int (0 : Int))
theorem q_laws_eqInsS (H : List Item → CS → R) (C : CallsE) (a0 a1 : T) : enterE fi_laws_eqInsS env H C [a0, a1] = b_laws_eqInsS H C a0 a1 := by kernel_rfl
theorem y_laws_eqInsS (a0 a1 : T) {r : List T} (h : Yields (fun k => b_laws_eqInsS (hl env k fi_laws_eqInsS) (cl env k) a0 a1) r) : Yields (fun k => cl env k F_laws_eqInsS [a0, a1]) r := Yields.call (fi := fi_laws_eqInsS) rfl rfl (fun H C => q_laws_eqInsS H C a0 a1) h
noncomputable abbrev b_laws_eqInsS_0 (H : List Item → CS → R) (C : CallsE) (x1 : T) (x2 : T) (x3 : T) : R :=
 bif (decide (x3.i < (x1.es.length : Int))) then
 bif (decide (0 ≤ x3.i) && decide (x3.i.toNat < x1.es.length)) then
 bif (decide (0 ≤ x3.i) && decide (x3.i.toNat < x2.es.length)) then
 obind (C F_laws_eqIns [(x1.nth x3.i.toNat), (x2.nth x3.i.toNat)]) fun r1 =>
 bif (!(rt r1 0).b) then
 some [(T.bool false)]
 else
 l_laws_eqInsS_0 H x1 x2 (T.int (IntKind.wrap .i64 (x3.i + (1 : Int))))
 else
 none
 else
 none
 else
 some [(T.bool true)]
theorem q_laws_eqInsS_0 (H : List Item → CS → R) (C : CallsE) (x1 : T) (x2 : T) (x3 : T) : headE fi_laws_eqInsS env H C (hdAt fi_laws_eqInsS.body 0) ([(0, .val 57 x1), (1, .val 57 x2), (5, .val 3 x3)], []) = b_laws_eqInsS_0 H C x1 x2 x3 := by kernel_rfl
theorem y_laws_eqInsS_0 (x1 : T) (x2 : T) (x3 : T) {r : List T} (h : Yields (fun k => b_laws_eqInsS_0 (hl env k fi_laws_eqInsS) (cl env k) x1 x2 x3) r) : Yields (fun k => l_laws_eqInsS_0 (hl env k fi_laws_eqInsS) x1 x2 x3) r := Yields.head (fun H C => q_laws_eqInsS_0 H C x1 x2 x3) h
/- loop.example/heirlooms/laws.szIns -/
noncomputable abbrev b_laws_szIns (H : List Item → CS → R) (C : CallsE) (a0 a1 : T) : R :=
 bif (decide ((IntKind.wrap .i64 (a1.i - (((a0.fld 0).s).size : Int))) < (0 : Int))) then
 some [(T.int (-1 : Int))]
 else
 some [(T.int (IntKind.wrap .i64 (a1.i - (((a0.fld 0).s).size : Int))))]
theorem q_laws_szIns (H : List Item → CS → R) (C : CallsE) (a0 a1 : T) : enterE fi_laws_szIns env H C [a0, a1] = b_laws_szIns H C a0 a1 := by kernel_rfl
theorem y_laws_szIns (a0 a1 : T) {r : List T} (h : Yields (fun k => b_laws_szIns (hl env k fi_laws_szIns) (cl env k) a0 a1) r) : Yields (fun k => cl env k F_laws_szIns [a0, a1]) r := Yields.call (fi := fi_laws_szIns) rfl rfl (fun H C => q_laws_szIns H C a0 a1) h
/- loop.example/heirlooms/spec.l1Field -/
noncomputable abbrev b_spec_l1Field (H : List Item → CS → R) (C : CallsE) (a0 a1 a2 a3 : T) : R :=
 obind (C F_spec_l1Kind [a3]) fun r1 =>
 bif (!(rt r1 2).b) then
 obind (C F_spec_l1Base [a3]) fun r2 =>
 some [(rt r2 0)]
 else
 obind (C F_spec_l1Has [a0, (rt r1 0), (rt r1 1)]) fun r2 =>
 bif (rt r2 0).b then
 bif (decide ((rt r1 0).i < a1.i)) then
 some [(T.bool true)]
 else
 bif ((rt r1 0).i == a1.i) then
 some [(T.bool (decide ((rt r1 1).i < a2.i)))]
 else
 some [(T.bool false)]
 else
 some [(T.bool false)]
theorem e_spec_l1Field (H : List Item → CS → R) (C : CallsE) (a0 a1 a2 a3 : T) : enterE fi_spec_l1Field env H C [a0, a1, a2, a3] =
 obind (C F_spec_l1Kind [a3]) fun r1 =>
 bif (!(rt r1 2).b) then
 obind (C F_spec_l1Base [a3]) fun r2 =>
 some [(rt r2 0)]
 else
 obind (C F_spec_l1Has [a0, (rt r1 0), (rt r1 1)]) fun r3 =>
 bif ((!((rt r3 0).b == true)) || true) then
 bif ((!((rt r3 0).b == true)) || true) then
 bif ((!((rt r3 0).b == true)) || ((((rt r3 0).b == true) && ((rt r3 0).b == true)) && true)) then
 bif ((!((rt r3 0).b == true)) || ((rt r3 0).b == true)) then
 bif ((!(((rt r3 0).b == true) && ((decide ((rt r1 0).i < a1.i)) == false))) || true) then
 bif ((!(((rt r3 0).b == true) && ((decide ((rt r1 0).i < a1.i)) == false))) || true) then
 bif ((!(((rt r3 0).b == true) && ((decide ((rt r1 0).i < a1.i)) == false))) || (((((rt r3 0).b == true) && ((decide ((rt r1 0).i < a1.i)) == false)) && (((rt r3 0).b == true) && ((decide ((rt r1 0).i < a1.i)) == false))) && true)) then
 bif ((!(((rt r3 0).b == true) && ((decide ((rt r1 0).i < a1.i)) == false))) || (((rt r3 0).b == true) && ((decide ((rt r1 0).i < a1.i)) == false))) then
 bif ((!((((rt r3 0).b == true) && ((decide ((rt r1 0).i < a1.i)) == false)) && (((rt r1 0).i == a1.i) == true))) || true) then
 bif ((!((((rt r3 0).b == true) && ((decide ((rt r1 0).i < a1.i)) == false)) && (((rt r1 0).i == a1.i) == true))) || true) then
 bif ((!((((rt r3 0).b == true) && ((decide ((rt r1 0).i < a1.i)) == false)) && (((rt r1 0).i == a1.i) == true))) || ((((((rt r3 0).b == true) && ((decide ((rt r1 0).i < a1.i)) == false)) && (((rt r1 0).i == a1.i) == true)) && ((((rt r3 0).b == true) && ((decide ((rt r1 0).i < a1.i)) == false)) && (((rt r1 0).i == a1.i) == true))) && true)) then
 bif ((!(((rt r3 0).b == true) && ((decide ((rt r1 0).i < a1.i)) == false))) || ((((rt r3 0).b == true) && ((decide ((rt r1 0).i < a1.i)) == false)) && (bif ((rt r1 0).i == a1.i) then ((((rt r3 0).b == true) && ((decide ((rt r1 0).i < a1.i)) == false)) && (((rt r1 0).i == a1.i) == true)) else true))) then
 bif ((!((rt r3 0).b == true)) || (((rt r3 0).b == true) && (bif (decide ((rt r1 0).i < a1.i)) then true else (((rt r3 0).b == true) && ((decide ((rt r1 0).i < a1.i)) == false))))) then
 bif (bif (rt r3 0).b then ((rt r3 0).b == true) else true) then
 some [(bif (rt r3 0).b then (bif (decide ((rt r1 0).i < a1.i)) then (T.bool true) else (bif ((rt r1 0).i == a1.i) then (T.bool (decide ((rt r1 1).i < a2.i))) else (T.bool false))) else (T.bool false))]
 else
 none
 else
 none
 else
 none
 else
 none
 else
 none
 else
 none
 else
 none
 else
 none
 else
 none
 else
 none
 else
 none
 else
 none
 else
 none
 else
 none := by kernel_rfl
theorem q_spec_l1Field (H : List Item → CS → R) (C : CallsE) (a0 a1 a2 a3 : T) : enterE fi_spec_l1Field env H C [a0, a1, a2, a3] = b_spec_l1Field H C a0 a1 a2 a3 := by
 refine (e_spec_l1Field H C a0 a1 a2 a3).trans ?_
 unfold b_spec_l1Field
 all_goals refine obind_congr fun r1 => ?_
 all_goals try simp only [bs]
 all_goals cases hc : ((!(rt r1 2).b)) with
 | true =>
  try simp only [bs]
  all_goals refine obind_congr fun r2 => ?_
  all_goals try simp only [bs]
  all_goals kernel_rfl
 | false =>
  try simp only [bs]
  all_goals refine obind_congr fun r2 => ?_
  all_goals try simp only [bs]
  all_goals cases hc : ((rt r2 0).b) with
  | true =>
   try simp only [bs]
   all_goals cases hc : ((decide ((rt r1 0).i < a1.i))) with
   | true =>
    try simp only [bs]
    all_goals cases hc : (((rt r1 0).i == a1.i)) with
    | true =>
     try simp only [bs]
     all_goals kernel_rfl
    | false =>
     try simp only [bs]
     all_goals kernel_rfl
   | false =>
    try simp only [bs]
    all_goals cases hc : (((rt r1 0).i == a1.i)) with
    | true =>
     try simp only [bs]
     all_goals kernel_rfl
    | false =>
     try simp only [bs]
     all_goals kernel_rfl
  | false =>
   try simp only [bs]
   all_goals cases hc : ((decide ((rt r1 0).i < a1.i))) with
   | true =>
    try simp only [bs]
    all_goals cases hc : (((rt r1 0).i == a1.i)) with
    | true =>
     try simp only [bs]
     all_goals kernel_rfl
    | false =>
     try simp only [bs]
     all_goals kernel_rfl
   | false =>
    try simp only [bs]
    all_goals cases hc : (((rt r1 0).i == a1.i)) with
    | true =>
     try simp only [bs]
     all_goals kernel_rfl
    | false =>
     try simp only [bs]
     all_goals kernel_rfl
theorem y_spec_l1Field (a0 a1 a2 a3 : T) {r : List T} (h : Yields (fun k => b_spec_l1Field (hl env k fi_spec_l1Field) (cl env k) a0 a1 a2 a3) r) : Yields (fun k => cl env k F_spec_l1Field [a0, a1, a2, a3]) r := Yields.call (fi := fi_spec_l1Field) rfl rfl (fun H C => q_spec_l1Field H C a0 a1 a2 a3) h
/- loop.example/heirlooms/spec.l1Base -/
noncomputable abbrev b_spec_l1Base (H : List Item → CS → R) (C : CallsE) (a0 : T) : R :=
 bif (a0.s.toList == (⟨#[110]⟩ : ByteArray).toList) then
 some [(T.bool true)]
 else
 bif (a0.s.toList == (⟨#[98]⟩ : ByteArray).toList) then
 some [(T.bool true)]
 else
 some [(T.bool (a0.s.toList == (⟨#[111]⟩ : ByteArray).toList))]
theorem e_spec_l1Base (H : List Item → CS → R) (C : CallsE) (a0 : T) : enterE fi_spec_l1Base env H C [a0] =
 bif ((!((a0.s.toList == (⟨#[110]⟩ : ByteArray).toList) == false)) || true) then
 bif ((!((a0.s.toList == (⟨#[110]⟩ : ByteArray).toList) == false)) || ((((a0.s.toList == (⟨#[110]⟩ : ByteArray).toList) == false) && true) && true)) then
 bif (bif (a0.s.toList == (⟨#[110]⟩ : ByteArray).toList) then true else ((a0.s.toList == (⟨#[110]⟩ : ByteArray).toList) == false)) then
 bif ((!((bif (a0.s.toList == (⟨#[110]⟩ : ByteArray).toList) then (T.bool true) else (T.bool (a0.s.toList == (⟨#[98]⟩ : ByteArray).toList))).b == false)) || true) then
 bif ((!((bif (a0.s.toList == (⟨#[110]⟩ : ByteArray).toList) then (T.bool true) else (T.bool (a0.s.toList == (⟨#[98]⟩ : ByteArray).toList))).b == false)) || ((((bif (a0.s.toList == (⟨#[110]⟩ : ByteArray).toList) then (T.bool true) else (T.bool (a0.s.toList == (⟨#[98]⟩ : ByteArray).toList))).b == false) && true) && true)) then
 bif (bif (bif (a0.s.toList == (⟨#[110]⟩ : ByteArray).toList) then (T.bool true) else (T.bool (a0.s.toList == (⟨#[98]⟩ : ByteArray).toList))).b then true else ((bif (a0.s.toList == (⟨#[110]⟩ : ByteArray).toList) then (T.bool true) else (T.bool (a0.s.toList == (⟨#[98]⟩ : ByteArray).toList))).b == false)) then
 some [(bif (bif (a0.s.toList == (⟨#[110]⟩ : ByteArray).toList) then (T.bool true) else (T.bool (a0.s.toList == (⟨#[98]⟩ : ByteArray).toList))).b then (T.bool true) else (T.bool (a0.s.toList == (⟨#[111]⟩ : ByteArray).toList)))]
 else
 none
 else
 none
 else
 none
 else
 none
 else
 none
 else
 none := by kernel_rfl
theorem q_spec_l1Base (H : List Item → CS → R) (C : CallsE) (a0 : T) : enterE fi_spec_l1Base env H C [a0] = b_spec_l1Base H C a0 := by
 refine (e_spec_l1Base H C a0).trans ?_
 unfold b_spec_l1Base
 all_goals cases hc : ((a0.s.toList == (⟨#[110]⟩ : ByteArray).toList)) with
 | true =>
  try simp only [bs]
  all_goals kernel_rfl
 | false =>
  try simp only [bs]
  all_goals cases hc : ((a0.s.toList == (⟨#[98]⟩ : ByteArray).toList)) with
  | true =>
   try simp only [bs]
   all_goals kernel_rfl
  | false =>
   try simp only [bs]
   all_goals kernel_rfl
theorem y_spec_l1Base (a0 : T) {r : List T} (h : Yields (fun k => b_spec_l1Base (hl env k fi_spec_l1Base) (cl env k) a0) r) : Yields (fun k => cl env k F_spec_l1Base [a0]) r := Yields.call (fi := fi_spec_l1Base) rfl rfl (fun H C => q_spec_l1Base H C a0) h
noncomputable def l_spec_l3Needs_0 (H : List Item → CS → R) (x1 : T) (x2 : T) (x3 : T) (x4 : T) : R := H (hdAt fi_spec_l3Needs.body 0) ([(0, .val 9 x1), (2, .pref 122 2 []), (4, .sref 57 4 []), (5, .val 3 x2)], [(2, ⟨122, x3, .dp, true⟩), (4, ⟨57, x4, .dp, false⟩)])
/- loop.example/heirlooms/spec.l3Needs -/
noncomputable abbrev b_spec_l3Needs (H : List Item → CS → R) (C : CallsE) (a0 : T) : R :=
 obind (C F_spec_l3Table []) fun r1 =>
 l_spec_l3Needs_0 H a0 (T.int (0 : Int)) (T.st [(T.str (⟨#[]⟩ : ByteArray)), (T.int (0 : Int)), (T.int (0 : Int))]) (rt r1 0)
theorem q_spec_l3Needs (H : List Item → CS → R) (C : CallsE) (a0 : T) : enterE fi_spec_l3Needs env H C [a0] = b_spec_l3Needs H C a0 := by kernel_rfl
theorem y_spec_l3Needs (a0 : T) {r : List T} (h : Yields (fun k => b_spec_l3Needs (hl env k fi_spec_l3Needs) (cl env k) a0) r) : Yields (fun k => cl env k F_spec_l3Needs [a0]) r := Yields.call (fi := fi_spec_l3Needs) rfl rfl (fun H C => q_spec_l3Needs H C a0) h
noncomputable abbrev b_spec_l3Needs_0 (H : List Item → CS → R) (C : CallsE) (x1 : T) (x2 : T) (x3 : T) (x4 : T) : R :=
 bif (decide (x2.i < (x4.es.length : Int))) then
 bif (decide (0 ≤ x2.i) && decide (x2.i.toNat < x4.es.length)) then
 bif ((((x4.nth x2.i.toNat).fld 0).s).toList == x1.s.toList) then
 some [(x4.nth x2.i.toNat), (T.bool true)]
 else
 l_spec_l3Needs_0 H x1 (T.int (IntKind.wrap .i64 (x2.i + (1 : Int)))) x3 x4
 else
 none
 else
 some [(T.st [(T.str (⟨#[]⟩ : ByteArray)), (T.int (0 : Int)), (T.int (0 : Int))]), (T.bool false)]
theorem e_spec_l3Needs_0 (H : List Item → CS → R) (C : CallsE) (x1 : T) (x2 : T) (x3 : T) (x4 : T) : headE fi_spec_l3Needs env H C (hdAt fi_spec_l3Needs.body 0) ([(0, .val 9 x1), (2, .pref 122 2 []), (4, .sref 57 4 []), (5, .val 3 x2)], [(2, ⟨122, x3, .dp, true⟩), (4, ⟨57, x4, .dp, false⟩)]) =
 bif (decide (x2.i < (x4.es.length : Int))) then
 bif (decide (0 ≤ x2.i) && decide (x2.i.toNat < x4.es.length)) then
 bif ((((x4.nth x2.i.toNat).fld 0).s).toList == x1.s.toList) then
 bif (decide (0 ≤ x2.i) && decide (x2.i.toNat < x4.es.length)) then
 some [(x4.nth x2.i.toNat), (T.bool true)]
 else
 none
 else
 l_spec_l3Needs_0 H x1 (T.int (IntKind.wrap .i64 (x2.i + (1 : Int)))) x3 x4
 else
 none
 else
 some [(T.st [(T.str (⟨#[]⟩ : ByteArray)), (T.int (0 : Int)), (T.int (0 : Int))]), (T.bool false)] := by kernel_rfl
theorem q_spec_l3Needs_0 (H : List Item → CS → R) (C : CallsE) (x1 : T) (x2 : T) (x3 : T) (x4 : T) : headE fi_spec_l3Needs env H C (hdAt fi_spec_l3Needs.body 0) ([(0, .val 9 x1), (2, .pref 122 2 []), (4, .sref 57 4 []), (5, .val 3 x2)], [(2, ⟨122, x3, .dp, true⟩), (4, ⟨57, x4, .dp, false⟩)]) = b_spec_l3Needs_0 H C x1 x2 x3 x4 := by
 refine (e_spec_l3Needs_0 H C x1 x2 x3 x4).trans ?_
 unfold b_spec_l3Needs_0
 all_goals cases hc : ((decide (x2.i < (x4.es.length : Int)))) with
 | true =>
  try simp only [bs]
  all_goals cases hc : ((decide (0 ≤ x2.i) && decide (x2.i.toNat < x4.es.length))) with
  | true =>
   try simp only [bs]
   all_goals cases hc : (((((x4.nth x2.i.toNat).fld 0).s).toList == x1.s.toList)) with
   | true =>
    try simp only [bs]
    all_goals kernel_rfl
   | false =>
    try simp only [bs]
    all_goals kernel_rfl
  | false =>
   try simp only [bs]
   all_goals kernel_rfl
 | false =>
  try simp only [bs]
  all_goals kernel_rfl
theorem y_spec_l3Needs_0 (x1 : T) (x2 : T) (x3 : T) (x4 : T) {r : List T} (h : Yields (fun k => b_spec_l3Needs_0 (hl env k fi_spec_l3Needs) (cl env k) x1 x2 x3 x4) r) : Yields (fun k => l_spec_l3Needs_0 (hl env k fi_spec_l3Needs) x1 x2 x3 x4) r := Yields.head (fun H C => q_spec_l3Needs_0 H C x1 x2 x3 x4) h
/- loop.example/heirlooms/spec.l3Fits -/
noncomputable abbrev b_spec_l3Fits (H : List Item → CS → R) (C : CallsE) (a0 a1 : T) : R :=
 bif (a1.i == (0 : Int)) then
 some [(T.bool (a0.i == (0 : Int)))]
 else
 obind (C F_spec_l6In [a0, (T.int (0 : Int)), (T.int (IntKind.wrap .i64 (a1.i - (1 : Int))))]) fun r1 =>
 some [(rt r1 0)]
theorem q_spec_l3Fits (H : List Item → CS → R) (C : CallsE) (a0 a1 : T) : enterE fi_spec_l3Fits env H C [a0, a1] = b_spec_l3Fits H C a0 a1 := by kernel_rfl
theorem y_spec_l3Fits (a0 a1 : T) {r : List T} (h : Yields (fun k => b_spec_l3Fits (hl env k fi_spec_l3Fits) (cl env k) a0 a1) r) : Yields (fun k => cl env k F_spec_l3Fits [a0, a1]) r := Yields.call (fi := fi_spec_l3Fits) rfl rfl (fun H C => q_spec_l3Fits H C a0 a1) h
/- loop.example/heirlooms/laws.toIns -/
noncomputable abbrev b_laws_toIns (H : List Item → CS → R) (C : CallsE) (a0 : T) : R :=
 some [(T.st [(a0.fld 0), (a0.fld 1), (a0.fld 2)])]
theorem q_laws_toIns (H : List Item → CS → R) (C : CallsE) (a0 : T) : enterE fi_laws_toIns env H C [a0] = b_laws_toIns H C a0 := by kernel_rfl
theorem y_laws_toIns (a0 : T) {r : List T} (h : Yields (fun k => b_laws_toIns (hl env k fi_laws_toIns) (cl env k) a0) r) : Yields (fun k => cl env k F_laws_toIns [a0]) r := Yields.call (fi := fi_laws_toIns) rfl rfl (fun H C => q_laws_toIns H C a0) h
/- loop.example/heirlooms/impl.ableOf -/
noncomputable abbrev b_impl_ableOf (H : List Item → CS → R) (C : CallsE) (a0 a1 : T) : R :=
 obind (C F_impl_signOf [a1]) fun r1 =>
 bif (((rt r1 0).s).toList == (⟨#[38]⟩ : ByteArray).toList) then
 some [(T.int (3 : Int))]
 else
 bif (((rt r1 0).s).toList == (⟨#[33]⟩ : ByteArray).toList) then
 some [(T.int (2 : Int))]
 else
 obind (C F_impl_kindIn [a0, (rt r1 1)]) fun r2 =>
 bif (rt r2 0).b then
 obind (C F_impl_recordOf [a0, (rt r1 1)]) fun r3 =>
 some [((rt r3 0).fld 0)]
 else
 some [(T.int (7 : Int))]
theorem q_impl_ableOf (H : List Item → CS → R) (C : CallsE) (a0 a1 : T) : enterE fi_impl_ableOf env H C [a0, a1] = b_impl_ableOf H C a0 a1 := by kernel_rfl
theorem y_impl_ableOf (a0 a1 : T) {r : List T} (h : Yields (fun k => b_impl_ableOf (hl env k fi_impl_ableOf) (cl env k) a0 a1) r) : Yields (fun k => cl env k F_impl_ableOf [a0, a1]) r := Yields.call (fi := fi_impl_ableOf) rfl rfl (fun H C => q_impl_ableOf H C a0 a1) h
noncomputable def l_impl_insForms_0 (H : List Item → CS → R) (x1 : T) (x2 : T) (x3 : T) (x4 : T) : R := H (hdAt fi_impl_insForms.body 0) ([(1, .sref 144 1 []), (8, .sref 56 8 []), (9, .val 3 x1), (10, .val 3 x2)], [(1, ⟨144, x3, (.sl .dp), false⟩), (8, ⟨56, x4, .dp, false⟩)])
noncomputable def l_impl_insForms_1 (H : List Item → CS → R) (x1 : T) (x2 : T) (x3 : T) (x4 : T) : R := H (hdAt fi_impl_insForms.body 1) ([(1, .sref 144 1 []), (42, .sref 56 42 []), (43, .val 3 x1), (44, .val 3 x2)], [(1, ⟨144, x3, (.sl .dp), false⟩), (42, ⟨56, x4, .dp, false⟩)])
/- loop.example/heirlooms/impl.insForms -/
noncomputable abbrev b_impl_insForms (H : List Item → CS → R) (C : CallsE)  : R :=
 obind (C F_strings_Fields [(T.str (⟨#[116, 114, 117, 101, 32, 102, 97, 108, 115, 101, 32, 109, 101, 32, 97, 100, 100, 32, 115, 117, 98, 32, 109, 117, 108, 32, 100, 105, 118, 32, 109, 111, 100, 32, 108, 101, 115, 115, 32, 115, 97, 109, 101, 32, 97, 110, 100, 32, 111, 114, 32, 110, 111, 116]⟩ : ByteArray))]) fun r1 =>
 l_impl_insForms_0 H (T.int (((rt r1 0).es).length : Int)) (T.int (0 : Int)) (T.sl [(T.st [(T.str (⟨#[110, 117, 109]⟩ : ByteArray)), (T.int (1000001 : Int)), (T.int (0 : Int))])]) (rt r1 0)
theorem q_impl_insForms (H : List Item → CS → R) (C : CallsE)  : enterE fi_impl_insForms env H C [] = b_impl_insForms H C  := by kernel_rfl
theorem y_impl_insForms  {r : List T} (h : Yields (fun k => b_impl_insForms (hl env k fi_impl_insForms) (cl env k) ) r) : Yields (fun k => cl env k F_impl_insForms []) r := Yields.call (fi := fi_impl_insForms) rfl rfl (fun H C => q_impl_insForms H C ) h
noncomputable abbrev b_impl_insForms_0 (H : List Item → CS → R) (C : CallsE) (x1 : T) (x2 : T) (x3 : T) (x4 : T) : R :=
 bif (decide (x2.i < x1.i)) then
 bif (decide (0 ≤ x2.i) && decide (x2.i.toNat < x4.es.length)) then
 bif (decide (x3.es.length + [(T.st [(x4.nth x2.i.toNat), (T.int (0 : Int)), (T.int (0 : Int))])].length ≤ LIM)) then
 l_impl_insForms_0 H x1 (T.int (IntKind.wrap .i64 (x2.i + (1 : Int)))) (T.sl (x3.es ++ [(T.st [(x4.nth x2.i.toNat), (T.int (0 : Int)), (T.int (0 : Int))])])) x4
 else
 none
 else
 none
 else
 bif (decide (x3.es.length + [(T.st [(T.str (⟨#[99, 111, 112, 121]⟩ : ByteArray)), (T.int (6 : Int)), (T.int (0 : Int))]), (T.st [(T.str (⟨#[109, 111, 118, 101]⟩ : ByteArray)), (T.int (6 : Int)), (T.int (0 : Int))]), (T.st [(T.str (⟨#[112, 117, 116]⟩ : ByteArray)), (T.int (6 : Int)), (T.int (0 : Int))]), (T.st [(T.str (⟨#[100, 114, 111, 112]⟩ : ByteArray)), (T.int (0 : Int)), (T.int (0 : Int))])].length ≤ LIM)) then
 bif (decide ((x3.es ++ [(T.st [(T.str (⟨#[99, 111, 112, 121]⟩ : ByteArray)), (T.int (6 : Int)), (T.int (0 : Int))]), (T.st [(T.str (⟨#[109, 111, 118, 101]⟩ : ByteArray)), (T.int (6 : Int)), (T.int (0 : Int))]), (T.st [(T.str (⟨#[112, 117, 116]⟩ : ByteArray)), (T.int (6 : Int)), (T.int (0 : Int))]), (T.st [(T.str (⟨#[100, 114, 111, 112]⟩ : ByteArray)), (T.int (0 : Int)), (T.int (0 : Int))])]).length + [(T.st [(T.str (⟨#[112, 97, 99, 107]⟩ : ByteArray)), (T.int (3 : Int)), (T.int (0 : Int))]), (T.st [(T.str (⟨#[117, 110, 112, 97, 99, 107]⟩ : ByteArray)), (T.int (3 : Int)), (T.int (0 : Int))]), (T.st [(T.str (⟨#[108, 101, 110, 100]⟩ : ByteArray)), (T.int (6 : Int)), (T.int (0 : Int))]), (T.st [(T.str (⟨#[108, 101, 110, 100, 119]⟩ : ByteArray)), (T.int (6 : Int)), (T.int (0 : Int))]), (T.st [(T.str (⟨#[102, 105, 101, 108, 100]⟩ : ByteArray)), (T.int (3 : Int)), (T.int (3 : Int))])].length ≤ LIM)) then
 bif (decide (((x3.es ++ [(T.st [(T.str (⟨#[99, 111, 112, 121]⟩ : ByteArray)), (T.int (6 : Int)), (T.int (0 : Int))]), (T.st [(T.str (⟨#[109, 111, 118, 101]⟩ : ByteArray)), (T.int (6 : Int)), (T.int (0 : Int))]), (T.st [(T.str (⟨#[112, 117, 116]⟩ : ByteArray)), (T.int (6 : Int)), (T.int (0 : Int))]), (T.st [(T.str (⟨#[100, 114, 111, 112]⟩ : ByteArray)), (T.int (0 : Int)), (T.int (0 : Int))])]) ++ [(T.st [(T.str (⟨#[112, 97, 99, 107]⟩ : ByteArray)), (T.int (3 : Int)), (T.int (0 : Int))]), (T.st [(T.str (⟨#[117, 110, 112, 97, 99, 107]⟩ : ByteArray)), (T.int (3 : Int)), (T.int (0 : Int))]), (T.st [(T.str (⟨#[108, 101, 110, 100]⟩ : ByteArray)), (T.int (6 : Int)), (T.int (0 : Int))]), (T.st [(T.str (⟨#[108, 101, 110, 100, 119]⟩ : ByteArray)), (T.int (6 : Int)), (T.int (0 : Int))]), (T.st [(T.str (⟨#[102, 105, 101, 108, 100]⟩ : ByteArray)), (T.int (3 : Int)), (T.int (3 : Int))])]).length + [(T.st [(T.str (⟨#[114, 101, 97, 100]⟩ : ByteArray)), (T.int (0 : Int)), (T.int (0 : Int))]), (T.st [(T.str (⟨#[112, 101, 101, 107]⟩ : ByteArray)), (T.int (0 : Int)), (T.int (0 : Int))]), (T.st [(T.str (⟨#[119, 114, 105, 116, 101]⟩ : ByteArray)), (T.int (0 : Int)), (T.int (0 : Int))]), (T.st [(T.str (⟨#[102, 114, 101, 101, 122, 101]⟩ : ByteArray)), (T.int (0 : Int)), (T.int (0 : Int))])].length ≤ LIM)) then
 obind (C F_strings_Fields [(T.str (⟨#[107, 101, 101, 112, 32, 116, 97, 107, 101, 32, 104, 97, 115, 32, 115, 101, 101, 32, 115, 101, 101, 119]⟩ : ByteArray))]) fun r1 =>
 l_impl_insForms_1 H (T.int (((rt r1 0).es).length : Int)) (T.int (0 : Int)) (T.sl (((x3.es ++ [(T.st [(T.str (⟨#[99, 111, 112, 121]⟩ : ByteArray)), (T.int (6 : Int)), (T.int (0 : Int))]), (T.st [(T.str (⟨#[109, 111, 118, 101]⟩ : ByteArray)), (T.int (6 : Int)), (T.int (0 : Int))]), (T.st [(T.str (⟨#[112, 117, 116]⟩ : ByteArray)), (T.int (6 : Int)), (T.int (0 : Int))]), (T.st [(T.str (⟨#[100, 114, 111, 112]⟩ : ByteArray)), (T.int (0 : Int)), (T.int (0 : Int))])]) ++ [(T.st [(T.str (⟨#[112, 97, 99, 107]⟩ : ByteArray)), (T.int (3 : Int)), (T.int (0 : Int))]), (T.st [(T.str (⟨#[117, 110, 112, 97, 99, 107]⟩ : ByteArray)), (T.int (3 : Int)), (T.int (0 : Int))]), (T.st [(T.str (⟨#[108, 101, 110, 100]⟩ : ByteArray)), (T.int (6 : Int)), (T.int (0 : Int))]), (T.st [(T.str (⟨#[108, 101, 110, 100, 119]⟩ : ByteArray)), (T.int (6 : Int)), (T.int (0 : Int))]), (T.st [(T.str (⟨#[102, 105, 101, 108, 100]⟩ : ByteArray)), (T.int (3 : Int)), (T.int (3 : Int))])]) ++ [(T.st [(T.str (⟨#[114, 101, 97, 100]⟩ : ByteArray)), (T.int (0 : Int)), (T.int (0 : Int))]), (T.st [(T.str (⟨#[112, 101, 101, 107]⟩ : ByteArray)), (T.int (0 : Int)), (T.int (0 : Int))]), (T.st [(T.str (⟨#[119, 114, 105, 116, 101]⟩ : ByteArray)), (T.int (0 : Int)), (T.int (0 : Int))]), (T.st [(T.str (⟨#[102, 114, 101, 101, 122, 101]⟩ : ByteArray)), (T.int (0 : Int)), (T.int (0 : Int))])])) (rt r1 0)
 else
 none
 else
 none
 else
 none
theorem q_impl_insForms_0 (H : List Item → CS → R) (C : CallsE) (x1 : T) (x2 : T) (x3 : T) (x4 : T) : headE fi_impl_insForms env H C (hdAt fi_impl_insForms.body 0) ([(1, .sref 144 1 []), (8, .sref 56 8 []), (9, .val 3 x1), (10, .val 3 x2)], [(1, ⟨144, x3, (.sl .dp), false⟩), (8, ⟨56, x4, .dp, false⟩)]) = b_impl_insForms_0 H C x1 x2 x3 x4 := by kernel_rfl
theorem y_impl_insForms_0 (x1 : T) (x2 : T) (x3 : T) (x4 : T) {r : List T} (h : Yields (fun k => b_impl_insForms_0 (hl env k fi_impl_insForms) (cl env k) x1 x2 x3 x4) r) : Yields (fun k => l_impl_insForms_0 (hl env k fi_impl_insForms) x1 x2 x3 x4) r := Yields.head (fun H C => q_impl_insForms_0 H C x1 x2 x3 x4) h
noncomputable abbrev b_impl_insForms_1 (H : List Item → CS → R) (C : CallsE) (x1 : T) (x2 : T) (x3 : T) (x4 : T) : R :=
 bif (decide (x2.i < x1.i)) then
 bif (decide (0 ≤ x2.i) && decide (x2.i.toNat < x4.es.length)) then
 bif (decide (x3.es.length + [(T.st [(x4.nth x2.i.toNat), (T.int (3 : Int)), (T.int (0 : Int))])].length ≤ LIM)) then
 l_impl_insForms_1 H x1 (T.int (IntKind.wrap .i64 (x2.i + (1 : Int)))) (T.sl (x3.es ++ [(T.st [(x4.nth x2.i.toNat), (T.int (3 : Int)), (T.int (0 : Int))])])) x4
 else
 none
 else
 none
 else
 bif (decide (x3.es.length + [(T.st [(T.str (⟨#[106, 117, 109, 112]⟩ : ByteArray)), (T.int (40 : Int)), (T.int (0 : Int))]), (T.st [(T.str (⟨#[122, 101, 114, 111]⟩ : ByteArray)), (T.int (40 : Int)), (T.int (0 : Int))]), (T.st [(T.str (⟨#[99, 97, 108, 108]⟩ : ByteArray)), (T.int (3 : Int)), (T.int (4 : Int))]), (T.st [(T.str (⟨#[114, 101, 116]⟩ : ByteArray)), (T.int (0 : Int)), (T.int (0 : Int))]), (T.st [(T.str (⟨#[102, 97, 105, 108]⟩ : ByteArray)), (T.int (0 : Int)), (T.int (0 : Int))])].length ≤ LIM)) then
 some [(T.sl (x3.es ++ [(T.st [(T.str (⟨#[106, 117, 109, 112]⟩ : ByteArray)), (T.int (40 : Int)), (T.int (0 : Int))]), (T.st [(T.str (⟨#[122, 101, 114, 111]⟩ : ByteArray)), (T.int (40 : Int)), (T.int (0 : Int))]), (T.st [(T.str (⟨#[99, 97, 108, 108]⟩ : ByteArray)), (T.int (3 : Int)), (T.int (4 : Int))]), (T.st [(T.str (⟨#[114, 101, 116]⟩ : ByteArray)), (T.int (0 : Int)), (T.int (0 : Int))]), (T.st [(T.str (⟨#[102, 97, 105, 108]⟩ : ByteArray)), (T.int (0 : Int)), (T.int (0 : Int))])]))]
 else
 none
theorem q_impl_insForms_1 (H : List Item → CS → R) (C : CallsE) (x1 : T) (x2 : T) (x3 : T) (x4 : T) : headE fi_impl_insForms env H C (hdAt fi_impl_insForms.body 1) ([(1, .sref 144 1 []), (42, .sref 56 42 []), (43, .val 3 x1), (44, .val 3 x2)], [(1, ⟨144, x3, (.sl .dp), false⟩), (42, ⟨56, x4, .dp, false⟩)]) = b_impl_insForms_1 H C x1 x2 x3 x4 := by kernel_rfl
theorem y_impl_insForms_1 (x1 : T) (x2 : T) (x3 : T) (x4 : T) {r : List T} (h : Yields (fun k => b_impl_insForms_1 (hl env k fi_impl_insForms) (cl env k) x1 x2 x3 x4) r) : Yields (fun k => l_impl_insForms_1 (hl env k fi_impl_insForms) x1 x2 x3 x4) r := Yields.head (fun H C => q_impl_insForms_1 H C x1 x2 x3 x4) h
/- loop.example/heirlooms/laws.eqIns -/
noncomputable abbrev b_laws_eqIns (H : List Item → CS → R) (C : CallsE) (a0 a1 : T) : R :=
 bif (!(((a0.fld 0).s).toList == ((a1.fld 0).s).toList)) then
 some [(T.bool false)]
 else
 bif ((a0.fld 1).i != (a1.fld 1).i) then
 some [(T.bool false)]
 else
 bif ((a0.fld 2).i != (a1.fld 2).i) then
 some [(T.bool false)]
 else
 some [(T.bool true)]
theorem q_laws_eqIns (H : List Item → CS → R) (C : CallsE) (a0 a1 : T) : enterE fi_laws_eqIns env H C [a0, a1] = b_laws_eqIns H C a0 a1 := by kernel_rfl
theorem y_laws_eqIns (a0 a1 : T) {r : List T} (h : Yields (fun k => b_laws_eqIns (hl env k fi_laws_eqIns) (cl env k) a0 a1) r) : Yields (fun k => cl env k F_laws_eqIns [a0, a1]) r := Yields.call (fi := fi_laws_eqIns) rfl rfl (fun H C => q_laws_eqIns H C a0 a1) h
/- loop.example/heirlooms/spec.l3Table -/
noncomputable abbrev b_spec_l3Table (H : List Item → CS → R) (C : CallsE)  : R :=
 some [(T.sl [(T.st [(T.str (⟨#[110, 117, 109]⟩ : ByteArray)), (T.int (1000001 : Int)), (T.int (0 : Int))]), (T.st [(T.str (⟨#[116, 114, 117, 101]⟩ : ByteArray)), (T.int (0 : Int)), (T.int (0 : Int))]), (T.st [(T.str (⟨#[102, 97, 108, 115, 101]⟩ : ByteArray)), (T.int (0 : Int)), (T.int (0 : Int))]), (T.st [(T.str (⟨#[109, 101]⟩ : ByteArray)), (T.int (0 : Int)), (T.int (0 : Int))]), (T.st [(T.str (⟨#[97, 100, 100]⟩ : ByteArray)), (T.int (0 : Int)), (T.int (0 : Int))]), (T.st [(T.str (⟨#[115, 117, 98]⟩ : ByteArray)), (T.int (0 : Int)), (T.int (0 : Int))]), (T.st [(T.str (⟨#[109, 117, 108]⟩ : ByteArray)), (T.int (0 : Int)), (T.int (0 : Int))]), (T.st [(T.str (⟨#[100, 105, 118]⟩ : ByteArray)), (T.int (0 : Int)), (T.int (0 : Int))]), (T.st [(T.str (⟨#[109, 111, 100]⟩ : ByteArray)), (T.int (0 : Int)), (T.int (0 : Int))]), (T.st [(T.str (⟨#[108, 101, 115, 115]⟩ : ByteArray)), (T.int (0 : Int)), (T.int (0 : Int))]), (T.st [(T.str (⟨#[115, 97, 109, 101]⟩ : ByteArray)), (T.int (0 : Int)), (T.int (0 : Int))]), (T.st [(T.str (⟨#[97, 110, 100]⟩ : ByteArray)), (T.int (0 : Int)), (T.int (0 : Int))]), (T.st [(T.str (⟨#[111, 114]⟩ : ByteArray)), (T.int (0 : Int)), (T.int (0 : Int))]), (T.st [(T.str (⟨#[110, 111, 116]⟩ : ByteArray)), (T.int (0 : Int)), (T.int (0 : Int))]), (T.st [(T.str (⟨#[99, 111, 112, 121]⟩ : ByteArray)), (T.int (6 : Int)), (T.int (0 : Int))]), (T.st [(T.str (⟨#[109, 111, 118, 101]⟩ : ByteArray)), (T.int (6 : Int)), (T.int (0 : Int))]), (T.st [(T.str (⟨#[112, 117, 116]⟩ : ByteArray)), (T.int (6 : Int)), (T.int (0 : Int))]), (T.st [(T.str (⟨#[100, 114, 111, 112]⟩ : ByteArray)), (T.int (0 : Int)), (T.int (0 : Int))]), (T.st [(T.str (⟨#[112, 97, 99, 107]⟩ : ByteArray)), (T.int (3 : Int)), (T.int (0 : Int))]), (T.st [(T.str (⟨#[117, 110, 112, 97, 99, 107]⟩ : ByteArray)), (T.int (3 : Int)), (T.int (0 : Int))]), (T.st [(T.str (⟨#[108, 101, 110, 100]⟩ : ByteArray)), (T.int (6 : Int)), (T.int (0 : Int))]), (T.st [(T.str (⟨#[108, 101, 110, 100, 119]⟩ : ByteArray)), (T.int (6 : Int)), (T.int (0 : Int))]), (T.st [(T.str (⟨#[102, 105, 101, 108, 100]⟩ : ByteArray)), (T.int (3 : Int)), (T.int (3 : Int))]), (T.st [(T.str (⟨#[114, 101, 97, 100]⟩ : ByteArray)), (T.int (0 : Int)), (T.int (0 : Int))]), (T.st [(T.str (⟨#[112, 101, 101, 107]⟩ : ByteArray)), (T.int (0 : Int)), (T.int (0 : Int))]), (T.st [(T.str (⟨#[119, 114, 105, 116, 101]⟩ : ByteArray)), (T.int (0 : Int)), (T.int (0 : Int))]), (T.st [(T.str (⟨#[102, 114, 101, 101, 122, 101]⟩ : ByteArray)), (T.int (0 : Int)), (T.int (0 : Int))]), (T.st [(T.str (⟨#[107, 101, 101, 112]⟩ : ByteArray)), (T.int (3 : Int)), (T.int (0 : Int))]), (T.st [(T.str (⟨#[116, 97, 107, 101]⟩ : ByteArray)), (T.int (3 : Int)), (T.int (0 : Int))]), (T.st [(T.str (⟨#[104, 97, 115]⟩ : ByteArray)), (T.int (3 : Int)), (T.int (0 : Int))]), (T.st [(T.str (⟨#[115, 101, 101]⟩ : ByteArray)), (T.int (3 : Int)), (T.int (0 : Int))]), (T.st [(T.str (⟨#[115, 101, 101, 119]⟩ : ByteArray)), (T.int (3 : Int)), (T.int (0 : Int))]), (T.st [(T.str (⟨#[106, 117, 109, 112]⟩ : ByteArray)), (T.int (40 : Int)), (T.int (0 : Int))]), (T.st [(T.str (⟨#[122, 101, 114, 111]⟩ : ByteArray)), (T.int (40 : Int)), (T.int (0 : Int))]), (T.st [(T.str (⟨#[99, 97, 108, 108]⟩ : ByteArray)), (T.int (3 : Int)), (T.int (4 : Int))]), (T.st [(T.str (⟨#[114, 101, 116]⟩ : ByteArray)), (T.int (0 : Int)), (T.int (0 : Int))]), (T.st [(T.str (⟨#[102, 97, 105, 108]⟩ : ByteArray)), (T.int (0 : Int)), (T.int (0 : Int))])])]
theorem q_spec_l3Table (H : List Item → CS → R) (C : CallsE)  : enterE fi_spec_l3Table env H C [] = b_spec_l3Table H C  := by kernel_rfl
theorem y_spec_l3Table  {r : List T} (h : Yields (fun k => b_spec_l3Table (hl env k fi_spec_l3Table) (cl env k) ) r) : Yields (fun k => cl env k F_spec_l3Table []) r := Yields.call (fi := fi_spec_l3Table) rfl rfl (fun H C => q_spec_l3Table H C ) h
end Go.Proofs.YtfelodpbejdhlaaGreatDoor.Ra
