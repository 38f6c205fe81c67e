/- The tables of this seat. Written by gen.py. -/
import Derived.Test.YtfelodpbejdhlaaDoorRbX
import Derived.Test.YtfelodpbejdhlaaDoorProg
import Derived.KernelRfl
import Derived.Test.YtfelodpbejdhlaaDoorShelf
import Derived.Test.YtfelodpbejdhlaaDoorTold
namespace Go.Proofs.YtfelodpbejdhlaaDoor.Ra
open Go Go.Proofs.Tryd
noncomputable def ty3 : TyRow := ⟨(.int .i64), 1, true, true, true, (T.int (0 : Int)), [.int .i64 0]⟩
noncomputable def ty4 : TyRow := ⟨.bool, 1, true, true, true, (T.bool false), [.bool false]⟩
noncomputable def ty5 : TyRow := ⟨(.int .u8), 1, true, true, true, (T.int (0 : Int)), [.int .u8 0]⟩
noncomputable def ty9 : TyRow := ⟨.str, 1, true, true, true, (T.str (⟨#[]⟩ : ByteArray)), [.string ⟨#[]⟩]⟩
noncomputable def ty22 : TyRow := ⟨(.sl 35), 1, false, true, true, (T.sl []), [.slice none 0 0]⟩
noncomputable def ty23 : TyRow := ⟨(.sl 42), 1, false, true, true, (T.sl []), [.slice none 0 0]⟩
noncomputable def ty27 : TyRow := ⟨(.sl 51), 1, false, true, true, (T.sl []), [.slice none 0 0]⟩
noncomputable def ty29 : TyRow := ⟨(.sl 49), 1, false, true, true, (T.sl []), [.slice none 0 0]⟩
noncomputable def ty35 : TyRow := ⟨(.sl 59), 1, false, true, true, (T.sl []), [.slice none 0 0]⟩
noncomputable def ty37 : TyRow := ⟨(.sl 40), 1, false, true, true, (T.sl []), [.slice none 0 0]⟩
noncomputable def ty38 : TyRow := ⟨(.sl 3), 1, false, true, true, (T.sl []), [.slice none 0 0]⟩
noncomputable def ty40 : TyRow := ⟨(.st [9, 3, 37, 38]), 4, false, true, true, (T.st [(T.str (⟨#[]⟩ : ByteArray)), (T.int (0 : Int)), (T.sl []), (T.sl [])]), [.string ⟨#[]⟩, .int .i64 0, .slice none 0 0, .slice none 0 0]⟩
noncomputable def ty42 : TyRow := ⟨(.st [3, 40]), 5, false, true, true, (T.st [(T.int (0 : Int)), (T.st [(T.str (⟨#[]⟩ : ByteArray)), (T.int (0 : Int)), (T.sl []), (T.sl [])])]), [.int .i64 0, .string ⟨#[]⟩, .int .i64 0, .slice none 0 0, .slice none 0 0]⟩
noncomputable def ty45 : TyRow := ⟨(.sl 47), 1, false, true, true, (T.sl []), [.slice none 0 0]⟩
noncomputable def ty47 : TyRow := ⟨(.st [9, 3, 45, 38]), 4, false, true, true, (T.st [(T.str (⟨#[]⟩ : ByteArray)), (T.int (0 : Int)), (T.sl []), (T.sl [])]), [.string ⟨#[]⟩, .int .i64 0, .slice none 0 0, .slice none 0 0]⟩
noncomputable def ty49 : TyRow := ⟨(.st [3, 47]), 5, false, true, true, (T.st [(T.int (0 : Int)), (T.st [(T.str (⟨#[]⟩ : ByteArray)), (T.int (0 : Int)), (T.sl []), (T.sl [])])]), [.int .i64 0, .string ⟨#[]⟩, .int .i64 0, .slice none 0 0, .slice none 0 0]⟩
noncomputable def ty51 : TyRow := ⟨(.sl 63), 1, false, true, true, (T.sl []), [.slice none 0 0]⟩
noncomputable def ty57 : TyRow := ⟨(.sl 9), 1, false, true, true, (T.sl []), [.slice none 0 0]⟩
noncomputable def ty59 : TyRow := ⟨(.st [3, 57]), 2, false, true, true, (T.st [(T.int (0 : Int)), (T.sl [])]), [.int .i64 0, .slice none 0 0]⟩
noncomputable def ty62 : TyRow := ⟨(.sl 5), 1, false, true, true, (T.sl []), [.slice none 0 0]⟩
noncomputable def ty63 : TyRow := ⟨(.st [3, 57]), 2, false, true, true, (T.st [(T.int (0 : Int)), (T.sl [])]), [.int .i64 0, .slice none 0 0]⟩
noncomputable def tys : BT TyRow := .node 39 (.node 24 (.node 6 (.node 4 (.node 3 (.leaf noTy) (.leaf ty3)) (.node 5 (.leaf ty4) (.leaf ty5))) (.node 10 (.node 9 (.leaf noTy) (.leaf ty9)) (.node 22 (.leaf noTy) (.node 23 (.leaf ty22) (.leaf ty23))))) (.node 30 (.node 28 (.node 27 (.leaf noTy) (.leaf ty27)) (.node 29 (.leaf noTy) (.leaf ty29))) (.node 36 (.node 35 (.leaf noTy) (.leaf ty35)) (.node 37 (.leaf noTy) (.node 38 (.leaf ty37) (.leaf ty38)))))) (.node 49 (.node 43 (.node 41 (.node 40 (.leaf noTy) (.leaf ty40)) (.node 42 (.leaf noTy) (.leaf ty42))) (.node 46 (.node 45 (.leaf noTy) (.leaf ty45)) (.node 47 (.leaf noTy) (.node 48 (.leaf ty47) (.leaf noTy))))) (.node 58 (.node 51 (.node 50 (.leaf ty49) (.leaf noTy)) (.node 52 (.leaf ty51) (.node 57 (.leaf noTy) (.leaf ty57)))) (.node 60 (.node 59 (.leaf noTy) (.leaf ty59)) (.node 62 (.leaf noTy) (.node 63 (.leaf ty62) (.leaf ty63))))))
noncomputable def fi_laws_FnExactVaultsText : Fi := ⟨45, [(22, .ro), (23, .ro)], [(4, .vl .dp)], (Tryd.f3.body).getD .skip, Tryd.f3.results.toList, [], [], [], [], false, []⟩
noncomputable def fi_laws_szRecordSS : Fi := ⟨27, [(22, .ro), (3, .ro)], [(3, .vl .dp)], (Tryd.f4.body).getD .skip, Tryd.f4.results.toList, [(0, [0, 1, 5])], [], [], [], false, []⟩
noncomputable def fi_laws_szKeptS : Fi := ⟨27, [(23, .ro), (3, .ro)], [(3, .vl .dp)], (Tryd.f5.body).getD .skip, Tryd.f5.results.toList, [(0, [0, 1, 5])], [], [], [], false, []⟩
noncomputable def fi_spec_VaultsText : Fi := ⟨37, [(27, .ro), (29, .ro)], [(9, .vl .dp)], (Tryd.f6.body).getD .skip, Tryd.f6.results.toList, [(0, [0, 1, 5, 6])], [], [(5, [([], []), ([], []), ([], []), ([], []), ([], []), ([], []), ([], []), ([], [25]), ([], []), ([], []), ([], []), ([], []), ([], []), ([], []), ([], []), ([], [33]), ([], []), ([], []), ([], [])])], [], false, []⟩
noncomputable def fi_laws_toRecordSS : Fi := ⟨23, [(22, .ro)], [(27, .vl .dp)], (Tryd.f7.body).getD .skip, Tryd.f7.results.toList, [(0, [0, 3, 4])], [], [], [], false, []⟩
noncomputable def fi_laws_toKeptS : Fi := ⟨23, [(23, .ro)], [(29, .vl .dp)], (Tryd.f8.body).getD .skip, Tryd.f8.results.toList, [(0, [0, 3, 4])], [], [], [], false, []⟩
noncomputable def fi_impl_VaultsText : Fi := ⟨32, [(27, .ro), (29, .ro)], [(9, .vl .dp)], (Tryd.f9.body).getD .skip, Tryd.f9.results.toList, [(0, [5, 12, 13, 14])], [], [(7, [([], []), ([7], []), ([7], []), ([], [21]), ([], []), ([], []), ([7], []), ([7], []), ([], [26]), ([], []), ([], []), ([], []), ([], [])])], [], false, []⟩
noncomputable def fi_laws_eqRecordSS : Fi := ⟨27, [(27, .ro), (27, .ro)], [(4, .vl .dp)], (Tryd.f10.body).getD .skip, Tryd.f10.results.toList, [(0, [0, 1, 5])], [], [(6, [([], []), ([], []), ([], []), ([], []), ([], []), ([], []), ([], []), ([], []), ([], [25]), ([], [])])], [], false, []⟩
noncomputable def fi_laws_eqKeptS : Fi := ⟨27, [(29, .ro), (29, .ro)], [(4, .vl .dp)], (Tryd.f11.body).getD .skip, Tryd.f11.results.toList, [(0, [0, 1, 5])], [], [(6, [([], []), ([], []), ([], []), ([], []), ([], []), ([], []), ([], []), ([], []), ([], [25]), ([], [])])], [], false, []⟩
noncomputable def fi_laws_szRecordS : Fi := ⟨27, [(35, .ro), (3, .ro)], [(3, .vl .dp)], (Tryd.f12.body).getD .skip, Tryd.f12.results.toList, [(0, [0, 1, 5])], [], [], [], false, []⟩
noncomputable def fi_laws_szKept : Fi := ⟨12, [(42, .ro), (3, .ro)], [(3, .vl .dp)], (Tryd.f13.body).getD .skip, Tryd.f13.results.toList, [], [], [], [], false, []⟩
noncomputable def fi_spec_VaultsOk : Fi := ⟨12, [(27, .ro), (29, .ro)], [(4, .vl .dp)], (Tryd.f14.body).getD .skip, Tryd.f14.results.toList, [], [], [], [], false, []⟩
noncomputable def fi_spec_l6Dec : Fi := ⟨28, [(3, .ro)], [(9, .vl .dp)], (Tryd.f15.body).getD .skip, Tryd.f15.results.toList, [], [], [(7, [([], []), ([], []), ([], [20]), ([], []), ([], []), ([], []), ([], []), ([], [25]), ([25], []), ([], []), ([], [])])], [], false, []⟩
noncomputable def fi_spec_l2Text : Fi := ⟨50, [(47, .ro)], [(9, .vl .dp)], (Tryd.f16.body).getD .skip, Tryd.f16.results.toList, [(0, [1, 3, 4])], [], [], [], false, []⟩
noncomputable def fi_laws_toRecordS : Fi := ⟨23, [(35, .ro)], [(51, .vl .dp)], (Tryd.f17.body).getD .skip, Tryd.f17.results.toList, [(0, [0, 3, 4])], [], [], [], false, []⟩
noncomputable def fi_laws_toKept : Fi := ⟨12, [(42, .ro)], [(49, .vl .dp)], (Tryd.f18.body).getD .skip, Tryd.f18.results.toList, [], [], [], [], false, []⟩
noncomputable def fi_impl_VaultsOk : Fi := ⟨50, [(27, .ro), (29, .ro)], [(4, .vl .dp)], (Tryd.f19.body).getD .skip, Tryd.f19.results.toList, [(0, [0, 1, 15, 16, 17])], [], [(8, [([], []), ([], []), ([], []), ([], []), ([], []), ([], []), ([], []), ([], []), ([6], []), ([], [46]), ([], []), ([], [])])], [], false, []⟩
noncomputable def fi_strconv_Itoa : Fi := ⟨5, [(3, .ro)], [(9, .vl .dp)], (Tryd.f20.body).getD .skip, Tryd.f20.results.toList, [], [], [], [], false, []⟩
noncomputable def fi_impl_valueText : Fi := ⟨47, [(47, .ro)], [(9, .vl .dp)], (Tryd.f21.body).getD .skip, Tryd.f21.results.toList, [(1, [1, 3, 28, 29, 30])], [], [(14, [([1], []), ([1], []), ([], []), ([3], []), ([3], [44]), ([], []), ([], []), ([], [])])], [], false, []⟩
noncomputable def fi_laws_eqRecordS : Fi := ⟨27, [(51, .ro), (51, .ro)], [(4, .vl .dp)], (Tryd.f22.body).getD .skip, Tryd.f22.results.toList, [(0, [0, 1, 5])], [], [(6, [([], []), ([], []), ([], []), ([], []), ([], []), ([], []), ([], []), ([], []), ([], [25]), ([], [])])], [], false, []⟩
noncomputable def fi_laws_eqKept : Fi := ⟨16, [(49, .ro), (49, .ro)], [(4, .vl .dp)], (Tryd.f23.body).getD .skip, Tryd.f23.results.toList, [], [], [], [], false, []⟩
noncomputable def fi_laws_szRecord : Fi := ⟨12, [(59, .ro), (3, .ro)], [(3, .vl .dp)], (Tryd.f24.body).getD .skip, Tryd.f24.results.toList, [], [], [], [], false, []⟩
noncomputable def fi_laws_szValue : Fi := ⟨25, [(40, .ro), (3, .ro)], [(3, .vl .dp)], (Tryd.f25.body).getD .skip, Tryd.f25.results.toList, [], [], [], [], false, []⟩
noncomputable def fi_spec_KindsOk : Fi := ⟨12, [(27, .ro)], [(4, .vl .dp)], (Tryd.f26.body).getD .skip, Tryd.f26.results.toList, [], [], [], [], false, []⟩
noncomputable def fi_spec_l9Ok : Fi := ⟨78, [(27, .ro), (29, .ro)], [(4, .vl .dp)], (Tryd.f27.body).getD .skip, Tryd.f27.results.toList, [(0, [0, 1, 5])], [], [(6, [([], []), ([], []), ([], []), ([], []), ([], []), ([], []), ([], []), ([], []), ([], []), ([], []), ([], []), ([], []), ([], []), ([], []), ([], []), ([], []), ([], []), ([], []), ([], []), ([], []), ([], []), ([], []), ([], []), ([], []), ([], []), ([], []), ([], []), ([], []), ([], []), ([], []), ([], []), ([], []), ([], []), ([], []), ([], []), ([], []), ([], []), ([], []), ([], []), ([], []), ([], []), ([], []), ([], []), ([], []), ([], []), ([], [])])], [], false, []⟩
noncomputable def fi_laws_toRecord : Fi := ⟨12, [(59, .ro)], [(63, .vl .dp)], (Tryd.f28.body).getD .skip, Tryd.f28.results.toList, [], [], [], [], false, []⟩
noncomputable def fi_laws_toValue : Fi := ⟨19, [(40, .ro)], [(47, .vl .dp)], (Tryd.f29.body).getD .skip, Tryd.f29.results.toList, [], [], [], [], false, []⟩
noncomputable def fi_impl_KindsOk : Fi := ⟨12, [(27, .ro)], [(4, .vl .dp)], (Tryd.f30.body).getD .skip, Tryd.f30.results.toList, [], [], [], [], false, []⟩
noncomputable def fi_impl_keepable : Fi := ⟨23, [(27, .ro), (47, .ro)], [(4, .vl .dp)], (Tryd.f31.body).getD .skip, Tryd.f31.results.toList, [], [], [], [], false, []⟩
noncomputable def fi_impl_vaultBefore : Fi := ⟨26, [(49, .ro), (49, .ro)], [(4, .vl .dp)], (Tryd.f32.body).getD .skip, Tryd.f32.results.toList, [], [], [], [], false, []⟩
noncomputable def fi_strings_Join : Fi := ⟨75, [(57, .ro), (9, .ro)], [(9, .vl .dp)], (Tryd.f34.body).getD .skip, Tryd.f34.results.toList, [], [], [], [], false, []⟩
noncomputable def fi_laws_eqRecord : Fi := ⟨16, [(63, .ro), (63, .ro)], [(4, .vl .dp)], (Tryd.f35.body).getD .skip, Tryd.f35.results.toList, [], [], [], [], false, []⟩
noncomputable def fi_laws_eqValue : Fi := ⟨27, [(47, .ro), (47, .ro)], [(4, .vl .dp)], (Tryd.f36.body).getD .skip, Tryd.f36.results.toList, [], [], [], [], false, []⟩
noncomputable def fi_laws_szStringS : Fi := ⟨28, [(57, .ro), (3, .ro)], [(3, .vl .dp)], (Tryd.f37.body).getD .skip, Tryd.f37.results.toList, [(0, [0, 1, 5])], [], [], [], false, []⟩
noncomputable def fi_laws_szValueS : Fi := ⟨27, [(37, .ro), (3, .ro)], [(3, .vl .dp)], (Tryd.f38.body).getD .skip, Tryd.f38.results.toList, [(0, [0, 1, 5])], [], [], [], false, []⟩
noncomputable def fi_laws_szIntS : Fi := ⟨12, [(38, .ro), (3, .ro)], [(3, .vl .dp)], (Tryd.f39.body).getD .skip, Tryd.f39.results.toList, [], [], [], [], false, []⟩
noncomputable def fi_spec_KindsBad : Fi := ⟨38, [(27, .ro)], [(3, .vl .dp), (3, .vl .dp)], (Tryd.f40.body).getD .skip, Tryd.f40.results.toList, [(0, [0, 4]), (2, [0, 4, 5])], [], [], [], false, []⟩
noncomputable def fi_spec_l6In : Fi := ⟨15, [(3, .ro), (3, .ro), (3, .ro)], [(4, .vl .dp)], (Tryd.f41.body).getD .skip, Tryd.f41.results.toList, [], [], [], [], false, []⟩
noncomputable def fi_spec_l9Kind : Fi := ⟨28, [(27, .ro), (47, .ro)], [(4, .vl .dp)], (Tryd.f42.body).getD .skip, Tryd.f42.results.toList, [], [], [], [], false, []⟩
noncomputable def fi_laws_toStringS : Fi := ⟨22, [(57, .ro)], [(57, .vl .dp)], (Tryd.f43.body).getD .skip, Tryd.f43.results.toList, [(0, [0, 3, 4])], [], [], [], false, []⟩
noncomputable def fi_laws_toValueS : Fi := ⟨23, [(37, .ro)], [(45, .vl .dp)], (Tryd.f44.body).getD .skip, Tryd.f44.results.toList, [(0, [0, 3, 4])], [], [], [], false, []⟩
noncomputable def fi_laws_toIntS : Fi := ⟨22, [(38, .ro)], [(38, .vl .dp)], (Tryd.f45.body).getD .skip, Tryd.f45.results.toList, [(0, [0, 3, 4])], [], [], [], false, []⟩
noncomputable def fi_impl_KindsBad : Fi := ⟨35, [(27, .ro)], [(3, .vl .dp), (3, .vl .dp)], (Tryd.f46.body).getD .skip, Tryd.f46.results.toList, [(0, [0, 10, 11, 12]), (2, [0, 4, 10, 11, 12, 22, 23])], [], [], [], false, []⟩
noncomputable def fi_impl_kindIn : Fi := ⟨30, [(27, .ro), (9, .ro)], [(4, .vl .dp)], (Tryd.f47.body).getD .skip, Tryd.f47.results.toList, [], [], [], [], false, []⟩
noncomputable def fi_impl_recordOf : Fi := ⟨21, [(27, .ro), (9, .ro)], [(63, .vl .fz)], (Tryd.f48.body).getD .skip, Tryd.f48.results.toList, [], [], [], [], false, []⟩
noncomputable def fi_impl_valueFits : Fi := ⟨107, [(27, .ro), (47, .ro)], [(4, .vl .dp)], (Tryd.f49.body).getD .skip, Tryd.f49.results.toList, [(1, [0, 5, 86, 87, 88])], [], [(16, [([7], []), ([7], []), ([], []), ([], []), ([], []), ([], []), ([], []), ([], []), ([], []), ([7], []), ([], [103]), ([], []), ([], [])])], [], false, []⟩
noncomputable def fi_laws_eqStringS : Fi := ⟨26, [(57, .ro), (57, .ro)], [(4, .vl .dp)], (Tryd.f54.body).getD .skip, Tryd.f54.results.toList, [(0, [0, 1, 5])], [], [(6, [([], []), ([], []), ([], []), ([], []), ([], []), ([], []), ([], []), ([], []), ([], [])])], [], false, []⟩
noncomputable def fi_laws_eqValueS : Fi := ⟨27, [(45, .ro), (45, .ro)], [(4, .vl .dp)], (Tryd.f55.body).getD .skip, Tryd.f55.results.toList, [(0, [0, 1, 5])], [], [(6, [([], []), ([], []), ([], []), ([], []), ([], []), ([], []), ([], []), ([], []), ([], [25]), ([], [])])], [], false, []⟩
noncomputable def fi_laws_eqIntS : Fi := ⟨26, [(38, .ro), (38, .ro)], [(4, .vl .dp)], (Tryd.f56.body).getD .skip, Tryd.f56.results.toList, [(0, [0, 1, 5])], [], [(6, [([], []), ([], []), ([], []), ([], []), ([], []), ([], []), ([], []), ([], []), ([], [])])], [], false, []⟩
noncomputable def fi_spec_l1Record : Fi := ⟨77, [(27, .ro), (3, .ro), (3, .ro)], [(4, .vl .dp)], (Tryd.f57.body).getD .skip, Tryd.f57.results.toList, [(0, [0, 1, 2, 7, 8])], [], [], [], false, []⟩
noncomputable def fi_spec_l1Kind : Fi := ⟨41, [(9, .ro)], [(3, .vl .dp), (3, .vl .dp), (4, .vl .dp)], (Tryd.f58.body).getD .skip, Tryd.f58.results.toList, [], [], [(3, [([], []), ([], []), ([], []), ([], []), ([], []), ([], []), ([], []), ([], []), ([], []), ([], []), ([], [])])], [], false, []⟩
noncomputable def fi_spec_l2Ok : Fi := ⟨116, [(27, .ro), (47, .ro)], [(4, .vl .dp)], (Tryd.f59.body).getD .skip, Tryd.f59.results.toList, [(0, [0, 3, 5, 6, 8])], [], [(8, [([], []), ([], []), ([], []), ([], []), ([], []), ([], []), ([], [52]), ([], []), ([], []), ([], []), ([3], []), ([3], []), ([], []), ([], []), ([], []), ([3], []), ([3], []), ([], []), ([], []), ([], []), ([], []), ([3], []), ([3], []), ([], []), ([], []), ([], []), ([], []), ([], []), ([], []), ([], []), ([], []), ([], []), ([], []), ([], []), ([], [])]), (13, [([3], []), ([3], []), ([], []), ([], []), ([], []), ([], []), ([], []), ([], []), ([], []), ([], []), ([], []), ([], []), ([], []), ([], []), ([], []), ([], []), ([], []), ([], []), ([], []), ([], []), ([3], []), ([3], []), ([], []), ([], []), ([], []), ([], [113]), ([], []), ([], [])])], [], false, []⟩
noncomputable def fi_spec_l1Can : Fi := ⟨10, [(3, .ro), (3, .ro)], [(4, .vl .dp)], (Tryd.f60.body).getD .skip, Tryd.f60.results.toList, [], [], [], [], false, []⟩
noncomputable def fi_spec_l1Able : Fi := ⟨32, [(27, .ro), (9, .ro)], [(3, .vl .dp)], (Tryd.f61.body).getD .skip, Tryd.f61.results.toList, [], [], [], [], false, []⟩
noncomputable def fi_impl_recordOk : Fi := ⟨91, [(27, .ro), (3, .ro), (3, .ro)], [(4, .vl .dp)], (Tryd.f62.body).getD .skip, Tryd.f62.results.toList, [(0, [0, 1, 2, 7, 36, 37, 38])], [], [], [], false, []⟩
noncomputable def fi_impl_kindAt : Fi := ⟨41, [(9, .ro)], [(3, .vl .dp), (3, .vl .dp), (4, .vl .dp)], (Tryd.f63.body).getD .skip, Tryd.f63.results.toList, [], [], [(3, [([], []), ([], []), ([], []), ([], []), ([], []), ([], []), ([], []), ([], []), ([], []), ([], []), ([], [])])], [], false, []⟩
noncomputable def fi_impl_plainOk : Fi := ⟨20, [(27, .ro), (9, .ro)], [(4, .vl .dp)], (Tryd.f64.body).getD .skip, Tryd.f64.results.toList, [], [], [], [], false, []⟩
noncomputable def fi_spec_l1Field : Fi := ⟨41, [(27, .ro), (3, .ro), (3, .ro), (9, .ro)], [(4, .vl .dp)], (Tryd.f71.body).getD .skip, Tryd.f71.results.toList, [], [], [], [], false, []⟩
noncomputable def fi_spec_l2Plain : Fi := ⟨13, [(47, .ro)], [(4, .vl .dp)], (Tryd.f72.body).getD .skip, Tryd.f72.results.toList, [], [], [], [], false, []⟩
noncomputable def fi_spec_l1Has : Fi := ⟨20, [(27, .ro), (3, .ro), (3, .ro)], [(4, .vl .dp)], (Tryd.f73.body).getD .skip, Tryd.f73.results.toList, [], [], [], [], false, []⟩
noncomputable def fi_spec_l1Ref : Fi := ⟨16, [(9, .ro)], [(4, .vl .dp)], (Tryd.f74.body).getD .skip, Tryd.f74.results.toList, [], [], [], [], false, []⟩
noncomputable def fi_impl_ableOf : Fi := ⟨26, [(27, .ro), (9, .ro)], [(3, .vl .dp)], (Tryd.f75.body).getD .skip, Tryd.f75.results.toList, [], [], [], [], false, []⟩
noncomputable def fi_spec_l1Base : Fi := ⟨13, [(9, .ro)], [(4, .vl .dp)], (Tryd.f83.body).getD .skip, Tryd.f83.results.toList, [], [], [], [], false, []⟩
noncomputable def fi_impl_signOf : Fi := ⟨21, [(9, .ro)], [(9, .vl .dp), (9, .vl .dp)], (Tryd.f84.body).getD .skip, Tryd.f84.results.toList, [], [], [(2, [([], []), ([], []), ([], []), ([], []), ([], []), ([], [])])], [], false, []⟩
abbrev Y_int : Nat := 3
abbrev Y_bool : Nat := 4
abbrev Y_uint8 : Nat := 5
abbrev Y_string : Nat := 9
abbrev Y_ss_laws_Record : Nat := 22
abbrev Y_s_laws_Kept : Nat := 23
abbrev Y_ss_impl_Record : Nat := 27
abbrev Y_s_impl_Kept : Nat := 29
abbrev Y_s_laws_Record : Nat := 35
abbrev Y_s_laws_Value : Nat := 37
abbrev Y_s_int : Nat := 38
abbrev Y_laws_Value : Nat := 40
abbrev Y_laws_Kept : Nat := 42
abbrev Y_s_impl_Value : Nat := 45
abbrev Y_impl_Value : Nat := 47
abbrev Y_impl_Kept : Nat := 49
abbrev Y_s_impl_Record : Nat := 51
abbrev Y_s_string : Nat := 57
abbrev Y_laws_Record : Nat := 59
abbrev Y_s_uint8 : Nat := 62
abbrev Y_impl_Record : Nat := 63
noncomputable def fns : List (Nat × Fi) := [(3, fi_laws_FnExactVaultsText), (4, fi_laws_szRecordSS), (5, fi_laws_szKeptS), (6, fi_spec_VaultsText), (7, fi_laws_toRecordSS), (8, fi_laws_toKeptS), (9, fi_impl_VaultsText), (10, fi_laws_eqRecordSS), (11, fi_laws_eqKeptS), (12, fi_laws_szRecordS), (13, fi_laws_szKept), (14, fi_spec_VaultsOk), (15, fi_spec_l6Dec), (16, fi_spec_l2Text), (17, fi_laws_toRecordS), (18, fi_laws_toKept), (19, fi_impl_VaultsOk), (20, fi_strconv_Itoa), (21, fi_impl_valueText), (22, fi_laws_eqRecordS), (23, fi_laws_eqKept), (24, fi_laws_szRecord), (25, fi_laws_szValue), (26, fi_spec_KindsOk), (27, fi_spec_l9Ok), (28, fi_laws_toRecord), (29, fi_laws_toValue), (30, fi_impl_KindsOk), (31, fi_impl_keepable), (32, fi_impl_vaultBefore), (34, fi_strings_Join), (35, fi_laws_eqRecord), (36, fi_laws_eqValue), (37, fi_laws_szStringS), (38, fi_laws_szValueS), (39, fi_laws_szIntS), (40, fi_spec_KindsBad), (41, fi_spec_l6In), (42, fi_spec_l9Kind), (43, fi_laws_toStringS), (44, fi_laws_toValueS), (45, fi_laws_toIntS), (46, fi_impl_KindsBad), (47, fi_impl_kindIn), (48, fi_impl_recordOf), (49, fi_impl_valueFits), (54, fi_laws_eqStringS), (55, fi_laws_eqValueS), (56, fi_laws_eqIntS), (57, fi_spec_l1Record), (58, fi_spec_l1Kind), (59, fi_spec_l2Ok), (60, fi_spec_l1Can), (61, fi_spec_l1Able), (62, fi_impl_recordOk), (63, fi_impl_kindAt), (64, fi_impl_plainOk), (71, fi_spec_l1Field), (72, fi_spec_l2Plain), (73, fi_spec_l1Has), (74, fi_spec_l1Ref), (75, fi_impl_ableOf), (83, fi_spec_l1Base), (84, fi_impl_signOf)]
noncomputable def told : Nat → Option (List T → R) := fun f => bif Nat.beq f 20 then some itoaT else bif Nat.beq f 34 then some joinT else none
noncomputable def env : Env := mkEnv 64 tys 4 fns [(0, pow10Cells)] told
theorem prOk : PrOk Tryd.prog env := prOk_of bad_of (by kernel_rfl)
theorem fnsOk : FnsOk Tryd.prog env := fnsOk_of ⟨fe ⟨_, Tryd.func3, rfl, by decide, rfl, rfl⟩ rfl rfl, fe ⟨_, Tryd.func4, rfl, by decide, rfl, rfl⟩ rfl rfl, fe ⟨_, Tryd.func5, rfl, by decide, rfl, rfl⟩ rfl rfl, fe ⟨_, Tryd.func6, rfl, by decide, rfl, rfl⟩ rfl rfl, fe ⟨_, Tryd.func7, rfl, by decide, rfl, rfl⟩ rfl rfl, fe ⟨_, Tryd.func8, rfl, by decide, rfl, rfl⟩ rfl rfl, fe ⟨_, Tryd.func9, rfl, by decide, rfl, rfl⟩ rfl rfl, fe ⟨_, Tryd.func10, rfl, by decide, rfl, rfl⟩ rfl rfl, fe ⟨_, Tryd.func11, rfl, by decide, rfl, rfl⟩ rfl rfl, fe ⟨_, Tryd.func12, rfl, by decide, rfl, rfl⟩ rfl rfl, fe ⟨_, Tryd.func13, rfl, by decide, rfl, rfl⟩ rfl rfl, fe ⟨_, Tryd.func14, rfl, by decide, rfl, rfl⟩ rfl rfl, fe ⟨_, Tryd.func15, rfl, by decide, rfl, rfl⟩ rfl rfl, fe ⟨_, Tryd.func16, rfl, by decide, rfl, rfl⟩ rfl rfl, fe ⟨_, Tryd.func17, rfl, by decide, rfl, rfl⟩ rfl rfl, fe ⟨_, Tryd.func18, rfl, by decide, rfl, rfl⟩ rfl rfl, fe ⟨_, Tryd.func19, rfl, by decide, rfl, rfl⟩ rfl rfl, fe ⟨_, Tryd.func20, rfl, by decide, rfl, rfl⟩ rfl rfl, fe ⟨_, Tryd.func21, rfl, by decide, rfl, rfl⟩ rfl rfl, fe ⟨_, Tryd.func22, rfl, by decide, rfl, rfl⟩ rfl rfl, fe ⟨_, Tryd.func23, rfl, by decide, rfl, rfl⟩ rfl rfl, fe ⟨_, Tryd.func24, rfl, by decide, rfl, rfl⟩ rfl rfl, fe ⟨_, Tryd.func25, rfl, by decide, rfl, rfl⟩ rfl rfl, fe ⟨_, Tryd.func26, rfl, by decide, rfl, rfl⟩ rfl rfl, fe ⟨_, Tryd.func27, rfl, by decide, rfl, rfl⟩ rfl rfl, fe ⟨_, Tryd.func28, rfl, by decide, rfl, rfl⟩ rfl rfl, fe ⟨_, Tryd.func29, rfl, by decide, rfl, rfl⟩ rfl rfl, fe ⟨_, Tryd.func30, rfl, by decide, rfl, rfl⟩ rfl rfl, fe ⟨_, Tryd.func31, rfl, by decide, rfl, rfl⟩ rfl rfl, fe ⟨_, Tryd.func32, rfl, by decide, rfl, rfl⟩ rfl rfl, fe ⟨_, Tryd.func34, rfl, by decide, rfl, rfl⟩ rfl rfl, fe ⟨_, Tryd.func35, rfl, by decide, rfl, rfl⟩ rfl rfl, fe ⟨_, Tryd.func36, rfl, by decide, rfl, rfl⟩ rfl rfl, fe ⟨_, Tryd.func37, rfl, by decide, rfl, rfl⟩ rfl rfl, fe ⟨_, Tryd.func38, rfl, by decide, rfl, rfl⟩ rfl rfl, fe ⟨_, Tryd.func39, rfl, by decide, rfl, rfl⟩ rfl rfl, fe ⟨_, Tryd.func40, rfl, by decide, rfl, rfl⟩ rfl rfl, fe ⟨_, Tryd.func41, rfl, by decide, rfl, rfl⟩ rfl rfl, fe ⟨_, Tryd.func42, rfl, by decide, rfl, rfl⟩ rfl rfl, fe ⟨_, Tryd.func43, rfl, by decide, rfl, rfl⟩ rfl rfl, fe ⟨_, Tryd.func44, rfl, by decide, rfl, rfl⟩ rfl rfl, fe ⟨_, Tryd.func45, rfl, by decide, rfl, rfl⟩ rfl rfl, fe ⟨_, Tryd.func46, rfl, by decide, rfl, rfl⟩ rfl rfl, fe ⟨_, Tryd.func47, rfl, by decide, rfl, rfl⟩ rfl rfl, fe ⟨_, Tryd.func48, rfl, by decide, rfl, rfl⟩ rfl rfl, fe ⟨_, Tryd.func49, rfl, by decide, rfl, rfl⟩ rfl rfl, fe ⟨_, Tryd.func54, rfl, by decide, rfl, rfl⟩ rfl rfl, fe ⟨_, Tryd.func55, rfl, by decide, rfl, rfl⟩ rfl rfl, fe ⟨_, Tryd.func56, rfl, by decide, rfl, rfl⟩ rfl rfl, fe ⟨_, Tryd.func57, rfl, by decide, rfl, rfl⟩ rfl rfl, fe ⟨_, Tryd.func58, rfl, by decide, rfl, rfl⟩ rfl rfl, fe ⟨_, Tryd.func59, rfl, by decide, rfl, rfl⟩ rfl rfl, fe ⟨_, Tryd.func60, rfl, by decide, rfl, rfl⟩ rfl rfl, fe ⟨_, Tryd.func61, rfl, by decide, rfl, rfl⟩ rfl rfl, fe ⟨_, Tryd.func62, rfl, by decide, rfl, rfl⟩ rfl rfl, fe ⟨_, Tryd.func63, rfl, by decide, rfl, rfl⟩ rfl rfl, fe ⟨_, Tryd.func64, rfl, by decide, rfl, rfl⟩ rfl rfl, fe ⟨_, Tryd.func71, rfl, by decide, rfl, rfl⟩ rfl rfl, fe ⟨_, Tryd.func72, rfl, by decide, rfl, rfl⟩ rfl rfl, fe ⟨_, Tryd.func73, rfl, by decide, rfl, rfl⟩ rfl rfl, fe ⟨_, Tryd.func74, rfl, by decide, rfl, rfl⟩ rfl rfl, fe ⟨_, Tryd.func75, rfl, by decide, rfl, rfl⟩ rfl rfl, fe ⟨_, Tryd.func83, rfl, by decide, rfl, rfl⟩ rfl rfl, fe ⟨_, Tryd.func84, rfl, by decide, rfl, rfl⟩ rfl rfl, trivial⟩
theorem fisOk : FisOk env := fisOk_of (by kernel_rfl)
theorem toldOk : ∀ f k, env.told f = some k → ∀ fi, env.fn f = some fi → FnOk Tryd.prog env f fi k := by
 intro f k h fi hf
 have h : told f = some k := h
 unfold told at h
 by_cases e : f = 20
 · subst e
   have e1 : some itoaT = some k := h
   have e2 : some fi_strconv_Itoa = some fi := hf
   cases e1; cases e2
   exact itoa_ok (ρ:=laysM171_ren) laysM171 prOk.wf rfl rfl rfl rfl (g0:=0) (by kernel_rfl) (List.Mem.head _)
 rw [show Nat.beq f 20 = false from Bool.eq_false_iff.2 fun h => e (Nat.eq_of_beq_eq_true h), cond_false] at h
 by_cases e : f = 34
 · subst e
   have e1 : some joinT = some k := h
   have e2 : some fi_strings_Join = some fi := hf
   cases e1; cases e2
   exact join_ok (ρ:=lays156_ren) lays156 Builder_Extra_156 prOk.wf rfl rfl rfl rfl
 rw [show Nat.beq f 34 = false from Bool.eq_false_iff.2 fun h => e (Nat.eq_of_beq_eq_true h), cond_false] at h
 cases h
theorem mixed : Tryd.prog.follows .mixedOrders = true := by kernel_rfl
end Go.Proofs.YtfelodpbejdhlaaDoor.Ra
