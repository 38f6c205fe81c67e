/- Each function as a readable term. Written by gen.py. -/
import Derived.Test.YtfelodpbejdhlaaDoorEq0
set_option linter.unusedSimpArgs false
set_option linter.unusedVariables false
namespace Go.Proofs.YtfelodpbejdhlaaDoor.Ra
open Go
theorem q_impl_kindAt (H : List Item → CS → R) (C : CallsE) (a0 : T) : enterE fi_impl_kindAt env H C [a0] = b_impl_kindAt H C a0 := by
 refine (e_impl_kindAt H C a0).trans ?_
 unfold b_impl_kindAt
 all_goals cases hc : (((a0.s.size : Int) != (3 : Int))) with
 | true =>
  try simp only [bs]
  all_goals kernel_rfl
 | false =>
  try simp only [bs]
  all_goals cases hc : ((decide (0 ≤ (0 : Int)) && decide (0 < a0.s.size))) with
  | true =>
   try simp only [bs]
   all_goals cases hc : (((a0.s.data.getD 0 0).toNat != (83 : Int))) with
   | true =>
    try simp only [bs]
    all_goals kernel_rfl
   | false =>
    try simp only [bs]
    all_goals cases hc : ((decide (0 ≤ (1 : Int)) && decide (1 < a0.s.size))) with
    | true =>
     try simp only [bs]
     all_goals cases hc : ((decide ((a0.s.data.getD 1 0).toNat < (48 : Int)))) with
     | true =>
      try simp only [bs]
      all_goals kernel_rfl
     | false =>
      try simp only [bs]
      all_goals cases hc : ((decide ((a0.s.data.getD 1 0).toNat > (57 : Int)))) with
      | true =>
       try simp only [bs]
       all_goals kernel_rfl
      | false =>
       try simp only [bs]
       all_goals cases hc : ((decide (0 ≤ (2 : Int)) && decide (2 < a0.s.size))) with
       | true =>
        try simp only [bs]
        all_goals cases hc : ((decide ((a0.s.data.getD 2 0).toNat < (48 : Int)))) with
        | true =>
         try simp only [bs]
         all_goals kernel_rfl
        | false =>
         try simp only [bs]
         all_goals cases hc : ((decide ((a0.s.data.getD 2 0).toNat > (57 : Int)))) with
         | true =>
          try simp only [bs]
          all_goals kernel_rfl
         | false =>
          try simp only [bs]
          all_goals kernel_rfl
       | false =>
        try simp only [bs]
        all_goals kernel_rfl
    | false =>
     try simp only [bs]
     all_goals kernel_rfl
  | false =>
   try simp only [bs]
   all_goals kernel_rfl
theorem y_impl_kindAt (a0 : T) {r : List T} (h : Yields (fun k => b_impl_kindAt (hl env k fi_impl_kindAt) (cl env k) a0) r) : Yields (fun k => cl env k F_impl_kindAt [a0]) r := Yields.call (fi := fi_impl_kindAt) rfl rfl (fun H C => q_impl_kindAt H C a0) h
/- loop.example/heirlooms/impl.plainOk -/
noncomputable abbrev b_impl_plainOk (H : List Item → CS → R) (C : CallsE) (a0 a1 : T) : R :=
 bif (a1.s.toList == (⟨#[110]⟩ : ByteArray).toList) then
 some [(T.bool true)]
 else
 bif (a1.s.toList == (⟨#[98]⟩ : ByteArray).toList) then
 some [(T.bool true)]
 else
 bif (a1.s.toList == (⟨#[111]⟩ : ByteArray).toList) then
 some [(T.bool true)]
 else
 obind (C F_impl_kindIn [a0, a1]) fun r1 =>
 some [(rt r1 0)]
theorem e_impl_plainOk (H : List Item → CS → R) (C : CallsE) (a0 a1 : T) : enterE fi_impl_plainOk env H C [a0, a1] =
 bif ((!((a1.s.toList == (⟨#[110]⟩ : ByteArray).toList) == false)) || true) then
 bif ((!((a1.s.toList == (⟨#[110]⟩ : ByteArray).toList) == false)) || ((((a1.s.toList == (⟨#[110]⟩ : ByteArray).toList) == false) && true) && true)) then
 bif (bif (a1.s.toList == (⟨#[110]⟩ : ByteArray).toList) then true else ((a1.s.toList == (⟨#[110]⟩ : ByteArray).toList) == false)) then
 bif ((!((bif (a1.s.toList == (⟨#[110]⟩ : ByteArray).toList) then (T.bool true) else (T.bool (a1.s.toList == (⟨#[98]⟩ : ByteArray).toList))).b == false)) || true) then
 bif ((!((bif (a1.s.toList == (⟨#[110]⟩ : ByteArray).toList) then (T.bool true) else (T.bool (a1.s.toList == (⟨#[98]⟩ : ByteArray).toList))).b == false)) || ((((bif (a1.s.toList == (⟨#[110]⟩ : ByteArray).toList) then (T.bool true) else (T.bool (a1.s.toList == (⟨#[98]⟩ : ByteArray).toList))).b == false) && true) && true)) then
 bif (bif (bif (a1.s.toList == (⟨#[110]⟩ : ByteArray).toList) then (T.bool true) else (T.bool (a1.s.toList == (⟨#[98]⟩ : ByteArray).toList))).b then true else ((bif (a1.s.toList == (⟨#[110]⟩ : ByteArray).toList) then (T.bool true) else (T.bool (a1.s.toList == (⟨#[98]⟩ : ByteArray).toList))).b == false)) then
 bif ((!((bif (bif (a1.s.toList == (⟨#[110]⟩ : ByteArray).toList) then (T.bool true) else (T.bool (a1.s.toList == (⟨#[98]⟩ : ByteArray).toList))).b then (T.bool true) else (T.bool (a1.s.toList == (⟨#[111]⟩ : ByteArray).toList))).b == false)) || true) then
 bif ((!((bif (bif (a1.s.toList == (⟨#[110]⟩ : ByteArray).toList) then (T.bool true) else (T.bool (a1.s.toList == (⟨#[98]⟩ : ByteArray).toList))).b then (T.bool true) else (T.bool (a1.s.toList == (⟨#[111]⟩ : ByteArray).toList))).b == false)) || true) then
 bif ((!((bif (bif (a1.s.toList == (⟨#[110]⟩ : ByteArray).toList) then (T.bool true) else (T.bool (a1.s.toList == (⟨#[98]⟩ : ByteArray).toList))).b then (T.bool true) else (T.bool (a1.s.toList == (⟨#[111]⟩ : ByteArray).toList))).b == false)) || (((bif (bif (a1.s.toList == (⟨#[110]⟩ : ByteArray).toList) then (T.bool true) else (T.bool (a1.s.toList == (⟨#[98]⟩ : ByteArray).toList))).b then (T.bool true) else (T.bool (a1.s.toList == (⟨#[111]⟩ : ByteArray).toList))).b == false) && (((bif (bif (a1.s.toList == (⟨#[110]⟩ : ByteArray).toList) then (T.bool true) else (T.bool (a1.s.toList == (⟨#[98]⟩ : ByteArray).toList))).b then (T.bool true) else (T.bool (a1.s.toList == (⟨#[111]⟩ : ByteArray).toList))).b == false) && true))) then
 obind ((bif ((bif (bif (a1.s.toList == (⟨#[110]⟩ : ByteArray).toList) then (T.bool true) else (T.bool (a1.s.toList == (⟨#[98]⟩ : ByteArray).toList))).b then (T.bool true) else (T.bool (a1.s.toList == (⟨#[111]⟩ : ByteArray).toList))).b == false) then C F_impl_kindIn [a0, a1] else some [])) fun r1 =>
 bif (bif (bif (bif (a1.s.toList == (⟨#[110]⟩ : ByteArray).toList) then (T.bool true) else (T.bool (a1.s.toList == (⟨#[98]⟩ : ByteArray).toList))).b then (T.bool true) else (T.bool (a1.s.toList == (⟨#[111]⟩ : ByteArray).toList))).b then true else ((bif (bif (a1.s.toList == (⟨#[110]⟩ : ByteArray).toList) then (T.bool true) else (T.bool (a1.s.toList == (⟨#[98]⟩ : ByteArray).toList))).b then (T.bool true) else (T.bool (a1.s.toList == (⟨#[111]⟩ : ByteArray).toList))).b == false)) then
 some [(bif (bif (bif (a1.s.toList == (⟨#[110]⟩ : ByteArray).toList) then (T.bool true) else (T.bool (a1.s.toList == (⟨#[98]⟩ : ByteArray).toList))).b then (T.bool true) else (T.bool (a1.s.toList == (⟨#[111]⟩ : ByteArray).toList))).b then (T.bool true) else (rt r1 0))]
 else
 none
 else
 none
 else
 none
 else
 none
 else
 none
 else
 none
 else
 none
 else
 none
 else
 none
 else
 none := by kernel_rfl
theorem q_impl_plainOk (H : List Item → CS → R) (C : CallsE) (a0 a1 : T) : enterE fi_impl_plainOk env H C [a0, a1] = b_impl_plainOk H C a0 a1 := by
 refine (e_impl_plainOk H C a0 a1).trans ?_
 unfold b_impl_plainOk
 all_goals cases hc : ((a1.s.toList == (⟨#[110]⟩ : ByteArray).toList)) with
 | true =>
  try simp only [bs]
  all_goals kernel_rfl
 | false =>
  try simp only [bs]
  all_goals cases hc : ((a1.s.toList == (⟨#[98]⟩ : ByteArray).toList)) with
  | true =>
   try simp only [bs]
   all_goals kernel_rfl
  | false =>
   try simp only [bs]
   all_goals cases hc : ((a1.s.toList == (⟨#[111]⟩ : ByteArray).toList)) with
   | true =>
    try simp only [bs]
    all_goals kernel_rfl
   | false =>
    try simp only [bs]
    all_goals refine obind_congr fun r1 => ?_
    all_goals try simp only [bs]
    all_goals kernel_rfl
theorem y_impl_plainOk (a0 a1 : T) {r : List T} (h : Yields (fun k => b_impl_plainOk (hl env k fi_impl_plainOk) (cl env k) a0 a1) r) : Yields (fun k => cl env k F_impl_plainOk [a0, a1]) r := Yields.call (fi := fi_impl_plainOk) rfl rfl (fun H C => q_impl_plainOk H C a0 a1) h
/- loop.example/heirlooms/spec.l1Field -/
noncomputable abbrev b_spec_l1Field (H : List Item → CS → R) (C : CallsE) (a0 a1 a2 a3 : T) : R :=
 obind (C F_spec_l1Kind [a3]) fun r1 =>
 bif (!(rt r1 2).b) then
 obind (C F_spec_l1Base [a3]) fun r2 =>
 some [(rt r2 0)]
 else
 obind (C F_spec_l1Has [a0, (rt r1 0), (rt r1 1)]) fun r2 =>
 bif (rt r2 0).b then
 bif (decide ((rt r1 0).i < a1.i)) then
 some [(T.bool true)]
 else
 bif ((rt r1 0).i == a1.i) then
 some [(T.bool (decide ((rt r1 1).i < a2.i)))]
 else
 some [(T.bool false)]
 else
 some [(T.bool false)]
theorem e_spec_l1Field (H : List Item → CS → R) (C : CallsE) (a0 a1 a2 a3 : T) : enterE fi_spec_l1Field env H C [a0, a1, a2, a3] =
 obind (C F_spec_l1Kind [a3]) fun r1 =>
 bif (!(rt r1 2).b) then
 obind (C F_spec_l1Base [a3]) fun r2 =>
 some [(rt r2 0)]
 else
 obind (C F_spec_l1Has [a0, (rt r1 0), (rt r1 1)]) fun r3 =>
 bif ((!((rt r3 0).b == true)) || true) then
 bif ((!((rt r3 0).b == true)) || true) then
 bif ((!((rt r3 0).b == true)) || ((((rt r3 0).b == true) && ((rt r3 0).b == true)) && true)) then
 bif ((!((rt r3 0).b == true)) || ((rt r3 0).b == true)) then
 bif ((!(((rt r3 0).b == true) && ((decide ((rt r1 0).i < a1.i)) == false))) || true) then
 bif ((!(((rt r3 0).b == true) && ((decide ((rt r1 0).i < a1.i)) == false))) || true) then
 bif ((!(((rt r3 0).b == true) && ((decide ((rt r1 0).i < a1.i)) == false))) || (((((rt r3 0).b == true) && ((decide ((rt r1 0).i < a1.i)) == false)) && (((rt r3 0).b == true) && ((decide ((rt r1 0).i < a1.i)) == false))) && true)) then
 bif ((!(((rt r3 0).b == true) && ((decide ((rt r1 0).i < a1.i)) == false))) || (((rt r3 0).b == true) && ((decide ((rt r1 0).i < a1.i)) == false))) then
 bif ((!((((rt r3 0).b == true) && ((decide ((rt r1 0).i < a1.i)) == false)) && (((rt r1 0).i == a1.i) == true))) || true) then
 bif ((!((((rt r3 0).b == true) && ((decide ((rt r1 0).i < a1.i)) == false)) && (((rt r1 0).i == a1.i) == true))) || true) then
 bif ((!((((rt r3 0).b == true) && ((decide ((rt r1 0).i < a1.i)) == false)) && (((rt r1 0).i == a1.i) == true))) || ((((((rt r3 0).b == true) && ((decide ((rt r1 0).i < a1.i)) == false)) && (((rt r1 0).i == a1.i) == true)) && ((((rt r3 0).b == true) && ((decide ((rt r1 0).i < a1.i)) == false)) && (((rt r1 0).i == a1.i) == true))) && true)) then
 bif ((!(((rt r3 0).b == true) && ((decide ((rt r1 0).i < a1.i)) == false))) || ((((rt r3 0).b == true) && ((decide ((rt r1 0).i < a1.i)) == false)) && (bif ((rt r1 0).i == a1.i) then ((((rt r3 0).b == true) && ((decide ((rt r1 0).i < a1.i)) == false)) && (((rt r1 0).i == a1.i) == true)) else true))) then
 bif ((!((rt r3 0).b == true)) || (((rt r3 0).b == true) && (bif (decide ((rt r1 0).i < a1.i)) then true else (((rt r3 0).b == true) && ((decide ((rt r1 0).i < a1.i)) == false))))) then
 bif (bif (rt r3 0).b then ((rt r3 0).b == true) else true) then
 some [(bif (rt r3 0).b then (bif (decide ((rt r1 0).i < a1.i)) then (T.bool true) else (bif ((rt r1 0).i == a1.i) then (T.bool (decide ((rt r1 1).i < a2.i))) else (T.bool false))) else (T.bool false))]
 else
 none
 else
 none
 else
 none
 else
 none
 else
 none
 else
 none
 else
 none
 else
 none
 else
 none
 else
 none
 else
 none
 else
 none
 else
 none
 else
 none := by kernel_rfl
theorem q_spec_l1Field (H : List Item → CS → R) (C : CallsE) (a0 a1 a2 a3 : T) : enterE fi_spec_l1Field env H C [a0, a1, a2, a3] = b_spec_l1Field H C a0 a1 a2 a3 := by
 refine (e_spec_l1Field H C a0 a1 a2 a3).trans ?_
 unfold b_spec_l1Field
 all_goals refine obind_congr fun r1 => ?_
 all_goals try simp only [bs]
 all_goals cases hc : ((!(rt r1 2).b)) with
 | true =>
  try simp only [bs]
  all_goals refine obind_congr fun r2 => ?_
  all_goals try simp only [bs]
  all_goals kernel_rfl
 | false =>
  try simp only [bs]
  all_goals refine obind_congr fun r2 => ?_
  all_goals try simp only [bs]
  all_goals cases hc : ((rt r2 0).b) with
  | true =>
   try simp only [bs]
   all_goals cases hc : ((decide ((rt r1 0).i < a1.i))) with
   | true =>
    try simp only [bs]
    all_goals cases hc : (((rt r1 0).i == a1.i)) with
    | true =>
     try simp only [bs]
     all_goals kernel_rfl
    | false =>
     try simp only [bs]
     all_goals kernel_rfl
   | false =>
    try simp only [bs]
    all_goals cases hc : (((rt r1 0).i == a1.i)) with
    | true =>
     try simp only [bs]
     all_goals kernel_rfl
    | false =>
     try simp only [bs]
     all_goals kernel_rfl
  | false =>
   try simp only [bs]
   all_goals cases hc : ((decide ((rt r1 0).i < a1.i))) with
   | true =>
    try simp only [bs]
    all_goals cases hc : (((rt r1 0).i == a1.i)) with
    | true =>
     try simp only [bs]
     all_goals kernel_rfl
    | false =>
     try simp only [bs]
     all_goals kernel_rfl
   | false =>
    try simp only [bs]
    all_goals cases hc : (((rt r1 0).i == a1.i)) with
    | true =>
     try simp only [bs]
     all_goals kernel_rfl
    | false =>
     try simp only [bs]
     all_goals kernel_rfl
theorem y_spec_l1Field (a0 a1 a2 a3 : T) {r : List T} (h : Yields (fun k => b_spec_l1Field (hl env k fi_spec_l1Field) (cl env k) a0 a1 a2 a3) r) : Yields (fun k => cl env k F_spec_l1Field [a0, a1, a2, a3]) r := Yields.call (fi := fi_spec_l1Field) rfl rfl (fun H C => q_spec_l1Field H C a0 a1 a2 a3) h
/- loop.example/heirlooms/spec.l2Plain -/
noncomputable abbrev b_spec_l2Plain (H : List Item → CS → R) (C : CallsE) (a0 : T) : R :=
 bif ((((a0.fld 2).es).length : Int) == (0 : Int)) then
 some [(T.bool ((((a0.fld 3).es).length : Int) == (0 : Int)))]
 else
 some [(T.bool false)]
theorem e_spec_l2Plain (H : List Item → CS → R) (C : CallsE) (a0 : T) : enterE fi_spec_l2Plain env H C [a0] =
 bif ((!(((((a0.fld 2).es).length : Int) == (0 : Int)) == true)) || true) then
 bif ((!(((((a0.fld 2).es).length : Int) == (0 : Int)) == true)) || (((((a0.fld 2).es).length : Int) == (0 : Int)) == true)) then
 bif ((!(((((a0.fld 2).es).length : Int) == (0 : Int)) == true)) || (((((a0.fld 2).es).length : Int) == (0 : Int)) == true)) then
 bif ((!(((((a0.fld 2).es).length : Int) == (0 : Int)) == true)) || (((((((a0.fld 2).es).length : Int) == (0 : Int)) == true) && true) && true)) then
 bif (bif ((((a0.fld 2).es).length : Int) == (0 : Int)) then (((((a0.fld 2).es).length : Int) == (0 : Int)) == true) else true) then
 some [(bif ((((a0.fld 2).es).length : Int) == (0 : Int)) then (T.bool ((((a0.fld 3).es).length : Int) == (0 : Int))) else (T.bool false))]
 else
 none
 else
 none
 else
 none
 else
 none
 else
 none := by kernel_rfl
theorem q_spec_l2Plain (H : List Item → CS → R) (C : CallsE) (a0 : T) : enterE fi_spec_l2Plain env H C [a0] = b_spec_l2Plain H C a0 := by
 refine (e_spec_l2Plain H C a0).trans ?_
 unfold b_spec_l2Plain
 all_goals cases hc : (((((a0.fld 2).es).length : Int) == (0 : Int))) with
 | true =>
  try simp only [bs]
  all_goals kernel_rfl
 | false =>
  try simp only [bs]
  all_goals kernel_rfl
theorem y_spec_l2Plain (a0 : T) {r : List T} (h : Yields (fun k => b_spec_l2Plain (hl env k fi_spec_l2Plain) (cl env k) a0) r) : Yields (fun k => cl env k F_spec_l2Plain [a0]) r := Yields.call (fi := fi_spec_l2Plain) rfl rfl (fun H C => q_spec_l2Plain H C a0) h
/- loop.example/heirlooms/spec.l1Has -/
noncomputable abbrev b_spec_l1Has (H : List Item → CS → R) (C : CallsE) (a0 a1 a2 : T) : R :=
 bif (decide (a1.i < (a0.es.length : Int))) then
 bif (decide (0 ≤ a1.i) && decide (a1.i.toNat < a0.es.length)) then
 some [(T.bool (decide (a2.i < (((a0.nth a1.i.toNat).es).length : Int))))]
 else
 none
 else
 some [(T.bool false)]
theorem e_spec_l1Has (H : List Item → CS → R) (C : CallsE) (a0 a1 a2 : T) : enterE fi_spec_l1Has env H C [a0, a1, a2] =
 bif ((!((decide (a1.i < (a0.es.length : Int))) == true)) || true) then
 bif ((!((decide (a1.i < (a0.es.length : Int))) == true)) || true) then
 bif ((!((decide (a1.i < (a0.es.length : Int))) == true)) || true) then
 bif ((!((decide (a1.i < (a0.es.length : Int))) == true)) || ((((decide (a1.i < (a0.es.length : Int))) == true) && (((decide (a1.i < (a0.es.length : Int))) == true) && true)) && (decide (0 ≤ a1.i) && decide (a1.i.toNat < a0.es.length)))) then
 bif ((!((decide (a1.i < (a0.es.length : Int))) == true)) || ((decide (a1.i < (a0.es.length : Int))) == true)) then
 bif ((!((decide (a1.i < (a0.es.length : Int))) == true)) || ((decide (a1.i < (a0.es.length : Int))) == true)) then
 bif ((!((decide (a1.i < (a0.es.length : Int))) == true)) || ((((decide (a1.i < (a0.es.length : Int))) == true) && ((decide (a1.i < (a0.es.length : Int))) == true)) && true)) then
 bif (bif (decide (a1.i < (a0.es.length : Int))) then ((decide (a1.i < (a0.es.length : Int))) == true) else true) then
 some [(bif (decide (a1.i < (a0.es.length : Int))) then (T.bool (decide (a2.i < (((a0.nth a1.i.toNat).es).length : Int)))) else (T.bool false))]
 else
 none
 else
 none
 else
 none
 else
 none
 else
 none
 else
 none
 else
 none
 else
 none := by kernel_rfl
theorem q_spec_l1Has (H : List Item → CS → R) (C : CallsE) (a0 a1 a2 : T) : enterE fi_spec_l1Has env H C [a0, a1, a2] = b_spec_l1Has H C a0 a1 a2 := by
 refine (e_spec_l1Has H C a0 a1 a2).trans ?_
 unfold b_spec_l1Has
 all_goals cases hc : ((decide (a1.i < (a0.es.length : Int)))) with
 | true =>
  try simp only [bs]
  all_goals cases hc : ((decide (0 ≤ a1.i) && decide (a1.i.toNat < a0.es.length))) with
  | true =>
   try simp only [bs]
   all_goals kernel_rfl
  | false =>
   try simp only [bs]
   all_goals kernel_rfl
 | false =>
  try simp only [bs]
  all_goals kernel_rfl
theorem y_spec_l1Has (a0 a1 a2 : T) {r : List T} (h : Yields (fun k => b_spec_l1Has (hl env k fi_spec_l1Has) (cl env k) a0 a1 a2) r) : Yields (fun k => cl env k F_spec_l1Has [a0, a1, a2]) r := Yields.call (fi := fi_spec_l1Has) rfl rfl (fun H C => q_spec_l1Has H C a0 a1 a2) h
/- loop.example/heirlooms/spec.l1Ref -/
noncomputable abbrev b_spec_l1Ref (H : List Item → CS → R) (C : CallsE) (a0 : T) : R :=
 bif (decide ((a0.s.size : Int) > (0 : Int))) then
 bif (decide (0 ≤ (0 : Int)) && decide (0 < a0.s.size)) then
 bif ((a0.s.data.getD 0 0).toNat == (38 : Int)) then
 some [(T.bool true)]
 else
 some [(T.bool ((a0.s.data.getD 0 0).toNat == (33 : Int)))]
 else
 none
 else
 some [(T.bool false)]
theorem e_spec_l1Ref (H : List Item → CS → R) (C : CallsE) (a0 : T) : enterE fi_spec_l1Ref env H C [a0] =
 bif ((!((decide ((a0.s.size : Int) > (0 : Int))) == true)) || true) then
 bif ((!((decide ((a0.s.size : Int) > (0 : Int))) == true)) || ((((decide ((a0.s.size : Int) > (0 : Int))) == true) && true) && (decide (0 ≤ (0 : Int)) && decide (0 < a0.s.size)))) then
 bif ((!((decide ((a0.s.size : Int) > (0 : Int))) == true)) || ((((decide ((a0.s.size : Int) > (0 : Int))) == true) && true) && true)) then
 bif ((!((decide ((a0.s.size : Int) > (0 : Int))) == true)) || ((decide ((a0.s.size : Int) > (0 : Int))) == true)) then
 bif ((!(((decide ((a0.s.size : Int) > (0 : Int))) == true) && (((a0.s.data.getD 0 0).toNat == (38 : Int)) == false))) || true) then
 bif ((!(((decide ((a0.s.size : Int) > (0 : Int))) == true) && (((a0.s.data.getD 0 0).toNat == (38 : Int)) == false))) || (((((decide ((a0.s.size : Int) > (0 : Int))) == true) && (((a0.s.data.getD 0 0).toNat == (38 : Int)) == false)) && true) && (decide (0 ≤ (0 : Int)) && decide (0 < a0.s.size)))) then
 bif ((!(((decide ((a0.s.size : Int) > (0 : Int))) == true) && (((a0.s.data.getD 0 0).toNat == (38 : Int)) == false))) || (((((decide ((a0.s.size : Int) > (0 : Int))) == true) && (((a0.s.data.getD 0 0).toNat == (38 : Int)) == false)) && true) && true)) then
 bif ((!((decide ((a0.s.size : Int) > (0 : Int))) == true)) || (((decide ((a0.s.size : Int) > (0 : Int))) == true) && (bif ((a0.s.data.getD 0 0).toNat == (38 : Int)) then true else (((decide ((a0.s.size : Int) > (0 : Int))) == true) && (((a0.s.data.getD 0 0).toNat == (38 : Int)) == false))))) then
 bif (bif (decide ((a0.s.size : Int) > (0 : Int))) then ((decide ((a0.s.size : Int) > (0 : Int))) == true) else true) then
 some [(bif (decide ((a0.s.size : Int) > (0 : Int))) then (bif ((a0.s.data.getD 0 0).toNat == (38 : Int)) then (T.bool true) else (T.bool ((a0.s.data.getD 0 0).toNat == (33 : Int)))) else (T.bool false))]
 else
 none
 else
 none
 else
 none
 else
 none
 else
 none
 else
 none
 else
 none
 else
 none
 else
 none := by kernel_rfl
theorem q_spec_l1Ref (H : List Item → CS → R) (C : CallsE) (a0 : T) : enterE fi_spec_l1Ref env H C [a0] = b_spec_l1Ref H C a0 := by
 refine (e_spec_l1Ref H C a0).trans ?_
 unfold b_spec_l1Ref
 all_goals cases hc : ((decide ((a0.s.size : Int) > (0 : Int)))) with
 | true =>
  try simp only [bs]
  all_goals cases hc : ((decide (0 ≤ (0 : Int)) && decide (0 < a0.s.size))) with
  | true =>
   try simp only [bs]
   all_goals cases hc : (((a0.s.data.getD 0 0).toNat == (38 : Int))) with
   | true =>
    try simp only [bs]
    all_goals kernel_rfl
   | false =>
    try simp only [bs]
    all_goals kernel_rfl
  | false =>
   try simp only [bs]
   all_goals kernel_rfl
 | false =>
  try simp only [bs]
  all_goals cases hc : (((a0.s.data.getD 0 0).toNat == (38 : Int))) with
  | true =>
   try simp only [bs]
   all_goals kernel_rfl
  | false =>
   try simp only [bs]
   all_goals kernel_rfl
theorem y_spec_l1Ref (a0 : T) {r : List T} (h : Yields (fun k => b_spec_l1Ref (hl env k fi_spec_l1Ref) (cl env k) a0) r) : Yields (fun k => cl env k F_spec_l1Ref [a0]) r := Yields.call (fi := fi_spec_l1Ref) rfl rfl (fun H C => q_spec_l1Ref H C a0) h
/- loop.example/heirlooms/impl.ableOf -/
noncomputable abbrev b_impl_ableOf (H : List Item → CS → R) (C : CallsE) (a0 a1 : T) : R :=
 obind (C F_impl_signOf [a1]) fun r1 =>
 bif (((rt r1 0).s).toList == (⟨#[38]⟩ : ByteArray).toList) then
 some [(T.int (3 : Int))]
 else
 bif (((rt r1 0).s).toList == (⟨#[33]⟩ : ByteArray).toList) then
 some [(T.int (2 : Int))]
 else
 obind (C F_impl_kindIn [a0, (rt r1 1)]) fun r2 =>
 bif (rt r2 0).b then
 obind (C F_impl_recordOf [a0, (rt r1 1)]) fun r3 =>
 some [((rt r3 0).fld 0)]
 else
 some [(T.int (7 : Int))]
theorem q_impl_ableOf (H : List Item → CS → R) (C : CallsE) (a0 a1 : T) : enterE fi_impl_ableOf env H C [a0, a1] = b_impl_ableOf H C a0 a1 := by kernel_rfl
theorem y_impl_ableOf (a0 a1 : T) {r : List T} (h : Yields (fun k => b_impl_ableOf (hl env k fi_impl_ableOf) (cl env k) a0 a1) r) : Yields (fun k => cl env k F_impl_ableOf [a0, a1]) r := Yields.call (fi := fi_impl_ableOf) rfl rfl (fun H C => q_impl_ableOf H C a0 a1) h
/- loop.example/heirlooms/spec.l1Base -/
noncomputable abbrev b_spec_l1Base (H : List Item → CS → R) (C : CallsE) (a0 : T) : R :=
 bif (a0.s.toList == (⟨#[110]⟩ : ByteArray).toList) then
 some [(T.bool true)]
 else
 bif (a0.s.toList == (⟨#[98]⟩ : ByteArray).toList) then
 some [(T.bool true)]
 else
 some [(T.bool (a0.s.toList == (⟨#[111]⟩ : ByteArray).toList))]
theorem e_spec_l1Base (H : List Item → CS → R) (C : CallsE) (a0 : T) : enterE fi_spec_l1Base env H C [a0] =
 bif ((!((a0.s.toList == (⟨#[110]⟩ : ByteArray).toList) == false)) || true) then
 bif ((!((a0.s.toList == (⟨#[110]⟩ : ByteArray).toList) == false)) || ((((a0.s.toList == (⟨#[110]⟩ : ByteArray).toList) == false) && true) && true)) then
 bif (bif (a0.s.toList == (⟨#[110]⟩ : ByteArray).toList) then true else ((a0.s.toList == (⟨#[110]⟩ : ByteArray).toList) == false)) then
 bif ((!((bif (a0.s.toList == (⟨#[110]⟩ : ByteArray).toList) then (T.bool true) else (T.bool (a0.s.toList == (⟨#[98]⟩ : ByteArray).toList))).b == false)) || true) then
 bif ((!((bif (a0.s.toList == (⟨#[110]⟩ : ByteArray).toList) then (T.bool true) else (T.bool (a0.s.toList == (⟨#[98]⟩ : ByteArray).toList))).b == false)) || ((((bif (a0.s.toList == (⟨#[110]⟩ : ByteArray).toList) then (T.bool true) else (T.bool (a0.s.toList == (⟨#[98]⟩ : ByteArray).toList))).b == false) && true) && true)) then
 bif (bif (bif (a0.s.toList == (⟨#[110]⟩ : ByteArray).toList) then (T.bool true) else (T.bool (a0.s.toList == (⟨#[98]⟩ : ByteArray).toList))).b then true else ((bif (a0.s.toList == (⟨#[110]⟩ : ByteArray).toList) then (T.bool true) else (T.bool (a0.s.toList == (⟨#[98]⟩ : ByteArray).toList))).b == false)) then
 some [(bif (bif (a0.s.toList == (⟨#[110]⟩ : ByteArray).toList) then (T.bool true) else (T.bool (a0.s.toList == (⟨#[98]⟩ : ByteArray).toList))).b then (T.bool true) else (T.bool (a0.s.toList == (⟨#[111]⟩ : ByteArray).toList)))]
 else
 none
 else
 none
 else
 none
 else
 none
 else
 none
 else
 none := by kernel_rfl
theorem q_spec_l1Base (H : List Item → CS → R) (C : CallsE) (a0 : T) : enterE fi_spec_l1Base env H C [a0] = b_spec_l1Base H C a0 := by
 refine (e_spec_l1Base H C a0).trans ?_
 unfold b_spec_l1Base
 all_goals cases hc : ((a0.s.toList == (⟨#[110]⟩ : ByteArray).toList)) with
 | true =>
  try simp only [bs]
  all_goals kernel_rfl
 | false =>
  try simp only [bs]
  all_goals cases hc : ((a0.s.toList == (⟨#[98]⟩ : ByteArray).toList)) with
  | true =>
   try simp only [bs]
   all_goals kernel_rfl
  | false =>
   try simp only [bs]
   all_goals kernel_rfl
theorem y_spec_l1Base (a0 : T) {r : List T} (h : Yields (fun k => b_spec_l1Base (hl env k fi_spec_l1Base) (cl env k) a0) r) : Yields (fun k => cl env k F_spec_l1Base [a0]) r := Yields.call (fi := fi_spec_l1Base) rfl rfl (fun H C => q_spec_l1Base H C a0) h
/- loop.example/heirlooms/impl.signOf -/
noncomputable abbrev b_impl_signOf (H : List Item → CS → R) (C : CallsE) (a0 : T) : R :=
 bif (!(a0.s.toList == (⟨#[]⟩ : ByteArray).toList)) then
 bif (decide (0 ≤ (0 : Int)) && decide (0 < a0.s.size)) then
 bif ((a0.s.data.getD 0 0).toNat == (38 : Int)) then
 bif (decide (0 ≤ (0 : Int)) && (decide ((0 : Int) ≤ (1 : Int)) && (decide ((1 : Int) ≤ (a0.s.size : Int)) && decide ((a0.s.size : Int) ≤ (a0.s.size : Int))))) then
 bif (decide (0 ≤ (1 : Int)) && (decide ((1 : Int) ≤ (a0.s.size : Int)) && (decide ((a0.s.size : Int) ≤ (a0.s.size : Int)) && decide ((a0.s.size : Int) ≤ (a0.s.size : Int))))) then
 some [(T.str (a0.s.extract 0 1)), (T.str (a0.s.extract 1 a0.s.size))]
 else
 none
 else
 none
 else
 bif ((a0.s.data.getD 0 0).toNat == (33 : Int)) then
 bif (decide (0 ≤ (0 : Int)) && (decide ((0 : Int) ≤ (1 : Int)) && (decide ((1 : Int) ≤ (a0.s.size : Int)) && decide ((a0.s.size : Int) ≤ (a0.s.size : Int))))) then
 bif (decide (0 ≤ (1 : Int)) && (decide ((1 : Int) ≤ (a0.s.size : Int)) && (decide ((a0.s.size : Int) ≤ (a0.s.size : Int)) && decide ((a0.s.size : Int) ≤ (a0.s.size : Int))))) then
 some [(T.str (a0.s.extract 0 1)), (T.str (a0.s.extract 1 a0.s.size))]
 else
 none
 else
 none
 else
 some [(T.str (⟨#[]⟩ : ByteArray)), a0]
 else
 none
 else
 some [(T.str (⟨#[]⟩ : ByteArray)), a0]
theorem e_impl_signOf (H : List Item → CS → R) (C : CallsE) (a0 : T) : enterE fi_impl_signOf env H C [a0] =
 bif ((!((!(a0.s.toList == (⟨#[]⟩ : ByteArray).toList)) == true)) || true) then
 bif ((!((!(a0.s.toList == (⟨#[]⟩ : ByteArray).toList)) == true)) || ((((!(a0.s.toList == (⟨#[]⟩ : ByteArray).toList)) == true) && true) && (decide (0 ≤ (0 : Int)) && decide (0 < a0.s.size)))) then
 bif ((!((!(a0.s.toList == (⟨#[]⟩ : ByteArray).toList)) == true)) || ((((!(a0.s.toList == (⟨#[]⟩ : ByteArray).toList)) == true) && true) && true)) then
 bif ((!((!(a0.s.toList == (⟨#[]⟩ : ByteArray).toList)) == true)) || ((!(a0.s.toList == (⟨#[]⟩ : ByteArray).toList)) == true)) then
 bif ((!(((!(a0.s.toList == (⟨#[]⟩ : ByteArray).toList)) == true) && (((a0.s.data.getD 0 0).toNat == (38 : Int)) == false))) || true) then
 bif ((!(((!(a0.s.toList == (⟨#[]⟩ : ByteArray).toList)) == true) && (((a0.s.data.getD 0 0).toNat == (38 : Int)) == false))) || (((((!(a0.s.toList == (⟨#[]⟩ : ByteArray).toList)) == true) && (((a0.s.data.getD 0 0).toNat == (38 : Int)) == false)) && true) && (decide (0 ≤ (0 : Int)) && decide (0 < a0.s.size)))) then
 bif ((!(((!(a0.s.toList == (⟨#[]⟩ : ByteArray).toList)) == true) && (((a0.s.data.getD 0 0).toNat == (38 : Int)) == false))) || (((((!(a0.s.toList == (⟨#[]⟩ : ByteArray).toList)) == true) && (((a0.s.data.getD 0 0).toNat == (38 : Int)) == false)) && true) && true)) then
 bif ((!((!(a0.s.toList == (⟨#[]⟩ : ByteArray).toList)) == true)) || (((!(a0.s.toList == (⟨#[]⟩ : ByteArray).toList)) == true) && (bif ((a0.s.data.getD 0 0).toNat == (38 : Int)) then true else (((!(a0.s.toList == (⟨#[]⟩ : ByteArray).toList)) == true) && (((a0.s.data.getD 0 0).toNat == (38 : Int)) == false))))) then
 bif (bif (!(a0.s.toList == (⟨#[]⟩ : ByteArray).toList)) then ((!(a0.s.toList == (⟨#[]⟩ : ByteArray).toList)) == true) else true) then
 bif (bif (!(a0.s.toList == (⟨#[]⟩ : ByteArray).toList)) then (bif ((a0.s.data.getD 0 0).toNat == (38 : Int)) then (T.bool true) else (T.bool ((a0.s.data.getD 0 0).toNat == (33 : Int)))) else (T.bool false)).b then
 bif (decide (0 ≤ (0 : Int)) && (decide ((0 : Int) ≤ (1 : Int)) && (decide ((1 : Int) ≤ (a0.s.size : Int)) && decide ((a0.s.size : Int) ≤ (a0.s.size : Int))))) then
 bif (decide (0 ≤ (1 : Int)) && (decide ((1 : Int) ≤ (a0.s.size : Int)) && (decide ((a0.s.size : Int) ≤ (a0.s.size : Int)) && decide ((a0.s.size : Int) ≤ (a0.s.size : Int))))) then
 some [(T.str (a0.s.extract 0 1)), (T.str (a0.s.extract 1 a0.s.size))]
 else
 none
 else
 none
 else
 some [(T.str (⟨#[]⟩ : ByteArray)), a0]
 else
 none
 else
 none
 else
 none
 else
 none
 else
 none
 else
 none
 else
 none
 else
 none
 else
 none := by kernel_rfl
theorem q_impl_signOf (H : List Item → CS → R) (C : CallsE) (a0 : T) : enterE fi_impl_signOf env H C [a0] = b_impl_signOf H C a0 := by
 refine (e_impl_signOf H C a0).trans ?_
 unfold b_impl_signOf
 all_goals cases hc : ((!(a0.s.toList == (⟨#[]⟩ : ByteArray).toList))) with
 | true =>
  try simp only [bs]
  all_goals cases hc : ((decide (0 ≤ (0 : Int)) && decide (0 < a0.s.size))) with
  | true =>
   try simp only [bs]
   all_goals cases hc : (((a0.s.data.getD 0 0).toNat == (38 : Int))) with
   | true =>
    try simp only [bs]
    all_goals cases hc : ((decide (0 ≤ (0 : Int)) && (decide ((0 : Int) ≤ (1 : Int)) && (decide ((1 : Int) ≤ (a0.s.size : Int)) && decide ((a0.s.size : Int) ≤ (a0.s.size : Int)))))) with
    | true =>
     try simp only [bs]
     all_goals cases hc : ((decide (0 ≤ (1 : Int)) && (decide ((1 : Int) ≤ (a0.s.size : Int)) && (decide ((a0.s.size : Int) ≤ (a0.s.size : Int)) && decide ((a0.s.size : Int) ≤ (a0.s.size : Int)))))) with
     | true =>
      try simp only [bs]
      all_goals kernel_rfl
     | false =>
      try simp only [bs]
      all_goals kernel_rfl
    | false =>
     try simp only [bs]
     all_goals kernel_rfl
   | false =>
    try simp only [bs]
    all_goals cases hc : (((a0.s.data.getD 0 0).toNat == (33 : Int))) with
    | true =>
     try simp only [bs]
     all_goals cases hc : ((decide (0 ≤ (0 : Int)) && (decide ((0 : Int) ≤ (1 : Int)) && (decide ((1 : Int) ≤ (a0.s.size : Int)) && decide ((a0.s.size : Int) ≤ (a0.s.size : Int)))))) with
     | true =>
      try simp only [bs]
      all_goals cases hc : ((decide (0 ≤ (1 : Int)) && (decide ((1 : Int) ≤ (a0.s.size : Int)) && (decide ((a0.s.size : Int) ≤ (a0.s.size : Int)) && decide ((a0.s.size : Int) ≤ (a0.s.size : Int)))))) with
      | true =>
       try simp only [bs]
       all_goals kernel_rfl
      | false =>
       try simp only [bs]
       all_goals kernel_rfl
     | false =>
      try simp only [bs]
      all_goals kernel_rfl
    | false =>
     try simp only [bs]
     all_goals kernel_rfl
  | false =>
   try simp only [bs]
   all_goals kernel_rfl
 | false =>
  try simp only [bs]
  all_goals cases hc : (((a0.s.data.getD 0 0).toNat == (38 : Int))) with
  | true =>
   try simp only [bs]
   all_goals kernel_rfl
  | false =>
   try simp only [bs]
   all_goals kernel_rfl
theorem y_impl_signOf (a0 : T) {r : List T} (h : Yields (fun k => b_impl_signOf (hl env k fi_impl_signOf) (cl env k) a0) r) : Yields (fun k => cl env k F_impl_signOf [a0]) r := Yields.call (fi := fi_impl_signOf) rfl rfl (fun H C => q_impl_signOf H C a0) h
end Go.Proofs.YtfelodpbejdhlaaDoor.Ra
