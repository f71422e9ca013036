/- This text proves a part of what the claim needs: contracts of functions of the program. No condition. -/
import Derived.Test.YtehmaafnbgpkcaaProg
import Derived.Test.YtehmaafnbgpkcaaVsC
set_option linter.unusedSimpArgs false
set_option linter.unusedVariables false

namespace Go.Proofs.Ytehmaafnbgpkcaa
open Go Go.Vs Go.Proofs

def TryTv : Tv := [
  (3, ⟨1, false, [.int .i64 0], false, .int .i64⟩),
  (4, ⟨1, false, [.bool false], false, .bool⟩),
  (5, ⟨1, false, [.int .u8 0], false, .int .u8⟩),
  (9, ⟨1, false, [.str ⟨#[]⟩], false, .str⟩),
  (22, ⟨1, false, [.nilSl], false, .slc 1 16 [.str ⟨#[]⟩]⟩),
  (23, ⟨4, true, [.int .i64 0, .int .i64 0, .nilSl, .bool false], false, .strct [(0, 1, false), (1, 1, false), (2, 1, false), (3, 1, false)]⟩),
  (24, ⟨4, true, [.int .i64 0, .int .i64 0, .nilSl, .bool false], false, .strct [(0, 1, false), (1, 1, false), (2, 1, false), (3, 1, false)]⟩),
  (25, ⟨12, true, [.int .i64 0, .int .i64 0, .nilSl, .bool false, .int .i64 0, .int .i64 0, .nilSl, .bool false, .int .i64 0, .int .i64 0, .nilSl, .bool false], false, .arr 3 4 true⟩),
  (26, ⟨1, false, [.int .u8 0], false, .int .u8⟩),
  (27, ⟨3, true, [.int .u8 0, .int .u8 0, .int .u8 0], false, .arr 3 1 false⟩),
  (29, ⟨1, false, [.int .i64 0], false, .int .i64⟩),
  (42, ⟨1, false, [.nilSl], false, .slc 4 24 [.int .u8 0, .int .u8 0, .int .u8 0, .str ⟨#[]⟩]⟩),
  (43, ⟨1, false, [.nilSl], false, .slc 2 32 [.int .i64 0, .nilSl]⟩),
  (44, ⟨1, false, [.nilSl], false, .slc 1 24 [.nilSl]⟩),
  (45, ⟨15, true, [.int .i64 0, .int .i64 0, .nilSl, .bool false, .int .i64 0, .int .i64 0, .nilSl, .bool false, .int .i64 0, .int .i64 0, .nilSl, .bool false, .nilSl, .int .i64 0, .nilSl], false, .strct [(0, 12, true), (12, 1, false), (13, 1, false), (14, 1, false)]⟩),
  (46, ⟨15, true, [.int .i64 0, .int .i64 0, .nilSl, .bool false, .int .i64 0, .int .i64 0, .nilSl, .bool false, .int .i64 0, .int .i64 0, .nilSl, .bool false, .nilSl, .int .i64 0, .nilSl], false, .strct [(0, 12, true), (12, 1, false), (13, 1, false), (14, 1, false)]⟩),
  (48, ⟨4, true, [.int .u8 0, .int .u8 0, .int .u8 0, .str ⟨#[]⟩], false, .strct [(0, 1, false), (1, 1, false), (2, 1, false), (3, 1, false)]⟩),
  (49, ⟨4, true, [.int .u8 0, .int .u8 0, .int .u8 0, .str ⟨#[]⟩], false, .strct [(0, 1, false), (1, 1, false), (2, 1, false), (3, 1, false)]⟩),
  (56, ⟨1, false, [.nilSl], false, .slc 1 8 [.int .i64 0]⟩),
  (58, ⟨1, false, [.nilPtr], false, .other⟩),
  (65, ⟨1, false, [.nilSl], false, .slc 4 48 [.int .i64 0, .int .i64 0, .nilSl, .bool false]⟩),
  (67, ⟨1, false, [.nilPtr], false, .other⟩),
  (68, ⟨2, true, [.int .i64 0, .nilSl], false, .strct [(0, 1, false), (1, 1, false)]⟩),
  (69, ⟨2, true, [.int .i64 0, .nilSl], false, .strct [(0, 1, false), (1, 1, false)]⟩)]
@[go_sem] theorem TryTv_3 : tyOf TryTv 3 = ⟨1, false, [.int .i64 0], false, .int .i64⟩ := rfl
@[go_sem] theorem TryTw_3 : Go.Vs.look TryTv 3 = some ⟨1, false, [.int .i64 0], false, .int .i64⟩ := rfl
@[go_sem] theorem TryTv_4 : tyOf TryTv 4 = ⟨1, false, [.bool false], false, .bool⟩ := rfl
@[go_sem] theorem TryTw_4 : Go.Vs.look TryTv 4 = some ⟨1, false, [.bool false], false, .bool⟩ := rfl
@[go_sem] theorem TryTv_5 : tyOf TryTv 5 = ⟨1, false, [.int .u8 0], false, .int .u8⟩ := rfl
@[go_sem] theorem TryTw_5 : Go.Vs.look TryTv 5 = some ⟨1, false, [.int .u8 0], false, .int .u8⟩ := rfl
@[go_sem] theorem TryTv_9 : tyOf TryTv 9 = ⟨1, false, [.str ⟨#[]⟩], false, .str⟩ := rfl
@[go_sem] theorem TryTw_9 : Go.Vs.look TryTv 9 = some ⟨1, false, [.str ⟨#[]⟩], false, .str⟩ := rfl
@[go_sem] theorem TryTv_22 : tyOf TryTv 22 = ⟨1, false, [.nilSl], false, .slc 1 16 [.str ⟨#[]⟩]⟩ := rfl
@[go_sem] theorem TryTw_22 : Go.Vs.look TryTv 22 = some ⟨1, false, [.nilSl], false, .slc 1 16 [.str ⟨#[]⟩]⟩ := rfl
@[go_sem] theorem TryTv_23 : tyOf TryTv 23 = ⟨4, true, [.int .i64 0, .int .i64 0, .nilSl, .bool false], false, .strct [(0, 1, false), (1, 1, false), (2, 1, false), (3, 1, false)]⟩ := rfl
@[go_sem] theorem TryTw_23 : Go.Vs.look TryTv 23 = some ⟨4, true, [.int .i64 0, .int .i64 0, .nilSl, .bool false], false, .strct [(0, 1, false), (1, 1, false), (2, 1, false), (3, 1, false)]⟩ := rfl
@[go_sem] theorem TryTv_24 : tyOf TryTv 24 = ⟨4, true, [.int .i64 0, .int .i64 0, .nilSl, .bool false], false, .strct [(0, 1, false), (1, 1, false), (2, 1, false), (3, 1, false)]⟩ := rfl
@[go_sem] theorem TryTw_24 : Go.Vs.look TryTv 24 = some ⟨4, true, [.int .i64 0, .int .i64 0, .nilSl, .bool false], false, .strct [(0, 1, false), (1, 1, false), (2, 1, false), (3, 1, false)]⟩ := rfl
@[go_sem] theorem TryTv_25 : tyOf TryTv 25 = ⟨12, true, [.int .i64 0, .int .i64 0, .nilSl, .bool false, .int .i64 0, .int .i64 0, .nilSl, .bool false, .int .i64 0, .int .i64 0, .nilSl, .bool false], false, .arr 3 4 true⟩ := rfl
@[go_sem] theorem TryTw_25 : Go.Vs.look TryTv 25 = some ⟨12, true, [.int .i64 0, .int .i64 0, .nilSl, .bool false, .int .i64 0, .int .i64 0, .nilSl, .bool false, .int .i64 0, .int .i64 0, .nilSl, .bool false], false, .arr 3 4 true⟩ := rfl
@[go_sem] theorem TryTv_26 : tyOf TryTv 26 = ⟨1, false, [.int .u8 0], false, .int .u8⟩ := rfl
@[go_sem] theorem TryTw_26 : Go.Vs.look TryTv 26 = some ⟨1, false, [.int .u8 0], false, .int .u8⟩ := rfl
@[go_sem] theorem TryTv_27 : tyOf TryTv 27 = ⟨3, true, [.int .u8 0, .int .u8 0, .int .u8 0], false, .arr 3 1 false⟩ := rfl
@[go_sem] theorem TryTw_27 : Go.Vs.look TryTv 27 = some ⟨3, true, [.int .u8 0, .int .u8 0, .int .u8 0], false, .arr 3 1 false⟩ := rfl
@[go_sem] theorem TryTv_29 : tyOf TryTv 29 = ⟨1, false, [.int .i64 0], false, .int .i64⟩ := rfl
@[go_sem] theorem TryTw_29 : Go.Vs.look TryTv 29 = some ⟨1, false, [.int .i64 0], false, .int .i64⟩ := rfl
@[go_sem] theorem TryTv_42 : tyOf TryTv 42 = ⟨1, false, [.nilSl], false, .slc 4 24 [.int .u8 0, .int .u8 0, .int .u8 0, .str ⟨#[]⟩]⟩ := rfl
@[go_sem] theorem TryTw_42 : Go.Vs.look TryTv 42 = some ⟨1, false, [.nilSl], false, .slc 4 24 [.int .u8 0, .int .u8 0, .int .u8 0, .str ⟨#[]⟩]⟩ := rfl
@[go_sem] theorem TryTv_43 : tyOf TryTv 43 = ⟨1, false, [.nilSl], false, .slc 2 32 [.int .i64 0, .nilSl]⟩ := rfl
@[go_sem] theorem TryTw_43 : Go.Vs.look TryTv 43 = some ⟨1, false, [.nilSl], false, .slc 2 32 [.int .i64 0, .nilSl]⟩ := rfl
@[go_sem] theorem TryTv_44 : tyOf TryTv 44 = ⟨1, false, [.nilSl], false, .slc 1 24 [.nilSl]⟩ := rfl
@[go_sem] theorem TryTw_44 : Go.Vs.look TryTv 44 = some ⟨1, false, [.nilSl], false, .slc 1 24 [.nilSl]⟩ := rfl
@[go_sem] theorem TryTv_45 : tyOf TryTv 45 = ⟨15, true, [.int .i64 0, .int .i64 0, .nilSl, .bool false, .int .i64 0, .int .i64 0, .nilSl, .bool false, .int .i64 0, .int .i64 0, .nilSl, .bool false, .nilSl, .int .i64 0, .nilSl], false, .strct [(0, 12, true), (12, 1, false), (13, 1, false), (14, 1, false)]⟩ := rfl
@[go_sem] theorem TryTw_45 : Go.Vs.look TryTv 45 = some ⟨15, true, [.int .i64 0, .int .i64 0, .nilSl, .bool false, .int .i64 0, .int .i64 0, .nilSl, .bool false, .int .i64 0, .int .i64 0, .nilSl, .bool false, .nilSl, .int .i64 0, .nilSl], false, .strct [(0, 12, true), (12, 1, false), (13, 1, false), (14, 1, false)]⟩ := rfl
@[go_sem] theorem TryTv_46 : tyOf TryTv 46 = ⟨15, true, [.int .i64 0, .int .i64 0, .nilSl, .bool false, .int .i64 0, .int .i64 0, .nilSl, .bool false, .int .i64 0, .int .i64 0, .nilSl, .bool false, .nilSl, .int .i64 0, .nilSl], false, .strct [(0, 12, true), (12, 1, false), (13, 1, false), (14, 1, false)]⟩ := rfl
@[go_sem] theorem TryTw_46 : Go.Vs.look TryTv 46 = some ⟨15, true, [.int .i64 0, .int .i64 0, .nilSl, .bool false, .int .i64 0, .int .i64 0, .nilSl, .bool false, .int .i64 0, .int .i64 0, .nilSl, .bool false, .nilSl, .int .i64 0, .nilSl], false, .strct [(0, 12, true), (12, 1, false), (13, 1, false), (14, 1, false)]⟩ := rfl
@[go_sem] theorem TryTv_48 : tyOf TryTv 48 = ⟨4, true, [.int .u8 0, .int .u8 0, .int .u8 0, .str ⟨#[]⟩], false, .strct [(0, 1, false), (1, 1, false), (2, 1, false), (3, 1, false)]⟩ := rfl
@[go_sem] theorem TryTw_48 : Go.Vs.look TryTv 48 = some ⟨4, true, [.int .u8 0, .int .u8 0, .int .u8 0, .str ⟨#[]⟩], false, .strct [(0, 1, false), (1, 1, false), (2, 1, false), (3, 1, false)]⟩ := rfl
@[go_sem] theorem TryTv_49 : tyOf TryTv 49 = ⟨4, true, [.int .u8 0, .int .u8 0, .int .u8 0, .str ⟨#[]⟩], false, .strct [(0, 1, false), (1, 1, false), (2, 1, false), (3, 1, false)]⟩ := rfl
@[go_sem] theorem TryTw_49 : Go.Vs.look TryTv 49 = some ⟨4, true, [.int .u8 0, .int .u8 0, .int .u8 0, .str ⟨#[]⟩], false, .strct [(0, 1, false), (1, 1, false), (2, 1, false), (3, 1, false)]⟩ := rfl
@[go_sem] theorem TryTv_56 : tyOf TryTv 56 = ⟨1, false, [.nilSl], false, .slc 1 8 [.int .i64 0]⟩ := rfl
@[go_sem] theorem TryTw_56 : Go.Vs.look TryTv 56 = some ⟨1, false, [.nilSl], false, .slc 1 8 [.int .i64 0]⟩ := rfl
@[go_sem] theorem TryTv_58 : tyOf TryTv 58 = ⟨1, false, [.nilPtr], false, .other⟩ := rfl
@[go_sem] theorem TryTw_58 : Go.Vs.look TryTv 58 = some ⟨1, false, [.nilPtr], false, .other⟩ := rfl
@[go_sem] theorem TryTv_65 : tyOf TryTv 65 = ⟨1, false, [.nilSl], false, .slc 4 48 [.int .i64 0, .int .i64 0, .nilSl, .bool false]⟩ := rfl
@[go_sem] theorem TryTw_65 : Go.Vs.look TryTv 65 = some ⟨1, false, [.nilSl], false, .slc 4 48 [.int .i64 0, .int .i64 0, .nilSl, .bool false]⟩ := rfl
@[go_sem] theorem TryTv_67 : tyOf TryTv 67 = ⟨1, false, [.nilPtr], false, .other⟩ := rfl
@[go_sem] theorem TryTw_67 : Go.Vs.look TryTv 67 = some ⟨1, false, [.nilPtr], false, .other⟩ := rfl
@[go_sem] theorem TryTv_68 : tyOf TryTv 68 = ⟨2, true, [.int .i64 0, .nilSl], false, .strct [(0, 1, false), (1, 1, false)]⟩ := rfl
@[go_sem] theorem TryTw_68 : Go.Vs.look TryTv 68 = some ⟨2, true, [.int .i64 0, .nilSl], false, .strct [(0, 1, false), (1, 1, false)]⟩ := rfl
@[go_sem] theorem TryTv_69 : tyOf TryTv 69 = ⟨2, true, [.int .i64 0, .nilSl], false, .strct [(0, 1, false), (1, 1, false)]⟩ := rfl
@[go_sem] theorem TryTw_69 : Go.Vs.look TryTv 69 = some ⟨2, true, [.int .i64 0, .nilSl], false, .strct [(0, 1, false), (1, 1, false)]⟩ := rfl

theorem TryTok_3 : TyOk Try.prog 3 ⟨1, false, [.int .i64 0], false, .int .i64⟩ where
  info := ⟨Try.t3, Try.type3, rfl, rfl⟩
  und := ⟨_, Try.underlying3, rfl, rfl⟩
  flat := rfl
  one := by decide
  len := rfl
  eqf := by simp
theorem TryTok_4 : TyOk Try.prog 4 ⟨1, false, [.bool false], false, .bool⟩ where
  info := ⟨Try.t4, Try.type4, rfl, rfl⟩
  und := ⟨_, Try.underlying4, rfl, rfl⟩
  flat := rfl
  one := by decide
  len := rfl
  eqf := by simp
theorem TryTok_5 : TyOk Try.prog 5 ⟨1, false, [.int .u8 0], false, .int .u8⟩ where
  info := ⟨Try.t5, Try.type5, rfl, rfl⟩
  und := ⟨_, Try.underlying5, rfl, rfl⟩
  flat := rfl
  one := by decide
  len := rfl
  eqf := by simp
theorem TryTok_9 : TyOk Try.prog 9 ⟨1, false, [.str ⟨#[]⟩], false, .str⟩ where
  info := ⟨Try.t9, Try.type9, rfl, rfl⟩
  und := ⟨_, Try.underlying9, rfl, rfl⟩
  flat := rfl
  one := by decide
  len := rfl
  eqf := by simp
theorem TryTok_22 : TyOk Try.prog 22 ⟨1, false, [.nilSl], false, .slc 1 16 [.str ⟨#[]⟩]⟩ where
  info := ⟨Try.t22, Try.type22, rfl, rfl⟩
  und := ⟨_, Try.underlying22, rfl, ⟨9, Try.t9, _, rfl, Try.type9, rfl, rfl, rfl, rfl, by decide, rfl, rfl, by decide⟩⟩
  flat := rfl
  one := by decide
  len := rfl
  eqf := by simp
theorem TryTok_23 : TyOk Try.prog 23 ⟨4, true, [.int .i64 0, .int .i64 0, .nilSl, .bool false], false, .strct [(0, 1, false), (1, 1, false), (2, 1, false), (3, 1, false)]⟩ where
  info := ⟨Try.t23, Try.type23, rfl, rfl⟩
  und := ⟨_, Try.underlying23, rfl, ⟨_, rfl, rfl⟩⟩
  flat := rfl
  one := by decide
  len := rfl
  eqf := by simp
theorem TryTok_24 : TyOk Try.prog 24 ⟨4, true, [.int .i64 0, .int .i64 0, .nilSl, .bool false], false, .strct [(0, 1, false), (1, 1, false), (2, 1, false), (3, 1, false)]⟩ where
  info := ⟨Try.t24, Try.type24, rfl, rfl⟩
  und := ⟨_, Try.underlying24, rfl, ⟨_, rfl, rfl⟩⟩
  flat := rfl
  one := by decide
  len := rfl
  eqf := by simp
theorem TryTok_25 : TyOk Try.prog 25 ⟨12, true, [.int .i64 0, .int .i64 0, .nilSl, .bool false, .int .i64 0, .int .i64 0, .nilSl, .bool false, .int .i64 0, .int .i64 0, .nilSl, .bool false], false, .arr 3 4 true⟩ where
  info := ⟨Try.t25, Try.type25, rfl, rfl⟩
  und := ⟨_, Try.underlying25, rfl, ⟨24, Try.t24, rfl, Try.type24, rfl, rfl⟩⟩
  flat := rfl
  one := by decide
  len := rfl
  eqf := by simp
theorem TryTok_26 : TyOk Try.prog 26 ⟨1, false, [.int .u8 0], false, .int .u8⟩ where
  info := ⟨Try.t26, Try.type26, rfl, rfl⟩
  und := ⟨_, Try.underlying26, rfl, rfl⟩
  flat := rfl
  one := by decide
  len := rfl
  eqf := by simp
theorem TryTok_27 : TyOk Try.prog 27 ⟨3, true, [.int .u8 0, .int .u8 0, .int .u8 0], false, .arr 3 1 false⟩ where
  info := ⟨Try.t27, Try.type27, rfl, rfl⟩
  und := ⟨_, Try.underlying27, rfl, ⟨26, Try.t26, rfl, Try.type26, rfl, rfl⟩⟩
  flat := rfl
  one := by decide
  len := rfl
  eqf := by simp
theorem TryTok_29 : TyOk Try.prog 29 ⟨1, false, [.int .i64 0], false, .int .i64⟩ where
  info := ⟨Try.t29, Try.type29, rfl, rfl⟩
  und := ⟨_, Try.underlying29, rfl, rfl⟩
  flat := rfl
  one := by decide
  len := rfl
  eqf := by simp
theorem TryTok_42 : TyOk Try.prog 42 ⟨1, false, [.nilSl], false, .slc 4 24 [.int .u8 0, .int .u8 0, .int .u8 0, .str ⟨#[]⟩]⟩ where
  info := ⟨Try.t42, Try.type42, rfl, rfl⟩
  und := ⟨_, Try.underlying42, rfl, ⟨49, Try.t49, _, rfl, Try.type49, rfl, rfl, rfl, rfl, by decide, rfl, rfl, by decide⟩⟩
  flat := rfl
  one := by decide
  len := rfl
  eqf := by simp
theorem TryTok_43 : TyOk Try.prog 43 ⟨1, false, [.nilSl], false, .slc 2 32 [.int .i64 0, .nilSl]⟩ where
  info := ⟨Try.t43, Try.type43, rfl, rfl⟩
  und := ⟨_, Try.underlying43, rfl, ⟨69, Try.t69, _, rfl, Try.type69, rfl, rfl, rfl, rfl, by decide, rfl, rfl, by decide⟩⟩
  flat := rfl
  one := by decide
  len := rfl
  eqf := by simp
theorem TryTok_44 : TyOk Try.prog 44 ⟨1, false, [.nilSl], false, .slc 1 24 [.nilSl]⟩ where
  info := ⟨Try.t44, Try.type44, rfl, rfl⟩
  und := ⟨_, Try.underlying44, rfl, ⟨22, Try.t22, _, rfl, Try.type22, rfl, rfl, rfl, rfl, by decide, rfl, rfl, by decide⟩⟩
  flat := rfl
  one := by decide
  len := rfl
  eqf := by simp
theorem TryTok_45 : TyOk Try.prog 45 ⟨15, true, [.int .i64 0, .int .i64 0, .nilSl, .bool false, .int .i64 0, .int .i64 0, .nilSl, .bool false, .int .i64 0, .int .i64 0, .nilSl, .bool false, .nilSl, .int .i64 0, .nilSl], false, .strct [(0, 12, true), (12, 1, false), (13, 1, false), (14, 1, false)]⟩ where
  info := ⟨Try.t45, Try.type45, rfl, rfl⟩
  und := ⟨_, Try.underlying45, rfl, ⟨_, rfl, rfl⟩⟩
  flat := rfl
  one := by decide
  len := rfl
  eqf := by simp
theorem TryTok_46 : TyOk Try.prog 46 ⟨15, true, [.int .i64 0, .int .i64 0, .nilSl, .bool false, .int .i64 0, .int .i64 0, .nilSl, .bool false, .int .i64 0, .int .i64 0, .nilSl, .bool false, .nilSl, .int .i64 0, .nilSl], false, .strct [(0, 12, true), (12, 1, false), (13, 1, false), (14, 1, false)]⟩ where
  info := ⟨Try.t46, Try.type46, rfl, rfl⟩
  und := ⟨_, Try.underlying46, rfl, ⟨_, rfl, rfl⟩⟩
  flat := rfl
  one := by decide
  len := rfl
  eqf := by simp
theorem TryTok_48 : TyOk Try.prog 48 ⟨4, true, [.int .u8 0, .int .u8 0, .int .u8 0, .str ⟨#[]⟩], false, .strct [(0, 1, false), (1, 1, false), (2, 1, false), (3, 1, false)]⟩ where
  info := ⟨Try.t48, Try.type48, rfl, rfl⟩
  und := ⟨_, Try.underlying48, rfl, ⟨_, rfl, rfl⟩⟩
  flat := rfl
  one := by decide
  len := rfl
  eqf := by simp
theorem TryTok_49 : TyOk Try.prog 49 ⟨4, true, [.int .u8 0, .int .u8 0, .int .u8 0, .str ⟨#[]⟩], false, .strct [(0, 1, false), (1, 1, false), (2, 1, false), (3, 1, false)]⟩ where
  info := ⟨Try.t49, Try.type49, rfl, rfl⟩
  und := ⟨_, Try.underlying49, rfl, ⟨_, rfl, rfl⟩⟩
  flat := rfl
  one := by decide
  len := rfl
  eqf := by simp
theorem TryTok_56 : TyOk Try.prog 56 ⟨1, false, [.nilSl], false, .slc 1 8 [.int .i64 0]⟩ where
  info := ⟨Try.t56, Try.type56, rfl, rfl⟩
  und := ⟨_, Try.underlying56, rfl, ⟨3, Try.t3, _, rfl, Try.type3, rfl, rfl, rfl, rfl, by decide, rfl, rfl, by decide⟩⟩
  flat := rfl
  one := by decide
  len := rfl
  eqf := by simp
theorem TryTok_58 : TyOk Try.prog 58 ⟨1, false, [.nilPtr], false, .other⟩ where
  info := ⟨Try.t58, Try.type58, rfl, rfl⟩
  und := ⟨_, Try.underlying58, rfl, trivial⟩
  flat := rfl
  one := by decide
  len := rfl
  eqf := by simp
theorem TryTok_65 : TyOk Try.prog 65 ⟨1, false, [.nilSl], false, .slc 4 48 [.int .i64 0, .int .i64 0, .nilSl, .bool false]⟩ where
  info := ⟨Try.t65, Try.type65, rfl, rfl⟩
  und := ⟨_, Try.underlying65, rfl, ⟨24, Try.t24, _, rfl, Try.type24, rfl, rfl, rfl, rfl, by decide, rfl, rfl, by decide⟩⟩
  flat := rfl
  one := by decide
  len := rfl
  eqf := by simp
theorem TryTok_67 : TyOk Try.prog 67 ⟨1, false, [.nilPtr], false, .other⟩ where
  info := ⟨Try.t67, Try.type67, rfl, rfl⟩
  und := ⟨_, Try.underlying67, rfl, trivial⟩
  flat := rfl
  one := by decide
  len := rfl
  eqf := by simp
theorem TryTok_68 : TyOk Try.prog 68 ⟨2, true, [.int .i64 0, .nilSl], false, .strct [(0, 1, false), (1, 1, false)]⟩ where
  info := ⟨Try.t68, Try.type68, rfl, rfl⟩
  und := ⟨_, Try.underlying68, rfl, ⟨_, rfl, rfl⟩⟩
  flat := rfl
  one := by decide
  len := rfl
  eqf := by simp
theorem TryTok_69 : TyOk Try.prog 69 ⟨2, true, [.int .i64 0, .nilSl], false, .strct [(0, 1, false), (1, 1, false)]⟩ where
  info := ⟨Try.t69, Try.type69, rfl, rfl⟩
  und := ⟨_, Try.underlying69, rfl, ⟨_, rfl, rfl⟩⟩
  flat := rfl
  one := by decide
  len := rfl
  eqf := by simp
theorem TryEnv : Env Try.prog TryTv where
  tv := TvOk.cons TryTok_3 <| TvOk.cons TryTok_4 <| TvOk.cons TryTok_5 <| TvOk.cons TryTok_9 <| TvOk.cons TryTok_22 <| TvOk.cons TryTok_23 <| TvOk.cons TryTok_24 <| TvOk.cons TryTok_25 <| TvOk.cons TryTok_26 <| TvOk.cons TryTok_27 <| TvOk.cons TryTok_29 <| TvOk.cons TryTok_42 <| TvOk.cons TryTok_43 <| TvOk.cons TryTok_44 <| TvOk.cons TryTok_45 <| TvOk.cons TryTok_46 <| TvOk.cons TryTok_48 <| TvOk.cons TryTok_49 <| TvOk.cons TryTok_56 <| TvOk.cons TryTok_58 <| TvOk.cons TryTok_65 <| TvOk.cons TryTok_67 <| TvOk.cons TryTok_68 <| TvOk.cons TryTok_69 <| TvOk.nil
  mix := rfl
end Go.Proofs.Ytehmaafnbgpkcaa
