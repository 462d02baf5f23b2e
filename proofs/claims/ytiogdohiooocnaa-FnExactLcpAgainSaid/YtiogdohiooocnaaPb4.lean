/- What functions of the program come to. -/
import Derived.Test.YtiogdohiooocnaaPbT
import Derived.Test.YtiogdohiooocnaaPb3
import Derived.Test.YtiogdohiooocnaaPb6
namespace Go.Ev.W
open Go.Ev Go.Proofs
set_option maxRecDepth 100000
set_option linter.unusedVariables false

/-! ### spec_l01Bit: loop.example/g00688/spec.l01Bit -/
def spec_l01Bit.ms : List Mode := [.lend]
def spec_l01Bit.as : List VSh := [.one (.b (.b (.b (.b (.int .i64)))))]
def spec_l01Bit.rs : RSh := ⟨[.one (.b (.b (.b (.b (.bool)))))], [none]⟩
noncomputable def spec_l01Bit.gs (δ : Type) : List (Nat × Callee (GT tab) δ) := []
theorem spec_l01Bit.gok (δ : Type) : AllCon Try.prog tab (spec_l01Bit.gs δ) := .nil
noncomputable def spec_l01Bit.c : Ctx (GT tab) (KT tab) (ResT tab spec_l01Bit.rs) := { X := XT tab, ty := tyOf tys, inner := fun _ => true, keep := keepOf 0 spec_l01Bit.ms, cuts := [], live := liveOf [], G := getG (spec_l01Bit.gs _) }
noncomputable def spec_l01Bit.b : Code := bodyOf Try.f128
noncomputable def spec_l01Bit (x0 : Int) : Option (Bool) := callW spec_l01Bit.c (fiOf (GT tab) Try.f128 spec_l01Bit.ms) spec_l01Bit.b (decRes tab spec_l01Bit.rs) (encArgs tab spec_l01Bit.as x0)
theorem spec_l01Bit.fok : FnOk Try.prog 128 Try.f128 spec_l01Bit.ms spec_l01Bit.b := ⟨Try.func128, by kernel_rfl, by kernel_rfl⟩
noncomputable def spec_l01Bit.fn : Args tab spec_l01Bit.as → Option (ResT tab spec_l01Bit.rs) := fun x => spec_l01Bit x
theorem spec_l01Bit.con {δ : Type} : Con Try.prog (KT tab) 128 (calleeS (β := δ) tab spec_l01Bit.ms spec_l01Bit.as spec_l01Bit.rs spec_l01Bit.fn) := con_shape (c := spec_l01Bit.c) mixed tysOk (getG_con (spec_l01Bit.gok _)) spec_l01Bit.fok rfl rfl (fun _ => rfl)
theorem spec_l01Bit.eq (x0 : Int) : spec_l01Bit x0 =
    bif x0 == (0 : Int) then
      some true
    else
      some (x0 == (1 : Int)) := by kernel_rfl

/-! ### spec_Rank: loop.example/g00688/spec.Rank -/
def spec_Rank.ms : List Mode := [.lend, .lend, .lend]
def spec_Rank.as : List VSh := [.agg [.int .i64, .sl false false 117], .one (.b (.b (.b (.b (.int .i64))))), .one (.b (.b (.b (.b (.int .i64)))))]
def spec_Rank.rs : RSh := ⟨[.one (.b (.b (.b (.b (.int .i64)))))], [none, none, none]⟩
noncomputable def spec_Rank.gs (δ : Type) : List (Nat × Callee (GT tab) δ) := [(37, calleeS tab spec_BitsOk.ms spec_BitsOk.as spec_BitsOk.rs spec_BitsOk.fn), (92, calleeS tab spec_l01List.ms spec_l01List.as spec_l01List.rs spec_l01List.fn), (128, calleeS tab spec_l01Bit.ms spec_l01Bit.as spec_l01Bit.rs spec_l01Bit.fn)]
theorem spec_Rank.gok (δ : Type) : AllCon Try.prog tab (spec_Rank.gs δ) := .cons spec_BitsOk.con (.cons spec_l01List.con (.cons spec_l01Bit.con (.nil)))
noncomputable def spec_Rank.c : Ctx (GT tab) (KT tab) (ResT tab spec_Rank.rs) := { X := XT tab, ty := tyOf tys, inner := fun _ => true, keep := keepOf 0 spec_Rank.ms, cuts := [3], live := liveOf [(3, [1, 2, 3]), (6, [1, 2, 7, 8, 9])], G := getG (spec_Rank.gs _) }
noncomputable def spec_Rank.b : Code := bodyOf Try.f72
noncomputable def spec_Rank (x0 : Int × (List Int)) (x1 : Int) (x2 : Int) : Option (Int) := callW spec_Rank.c (fiOf (GT tab) Try.f72 spec_Rank.ms) spec_Rank.b (decRes tab spec_Rank.rs) (encArgs tab spec_Rank.as (x0, x1, x2))
theorem spec_Rank.fok : FnOk Try.prog 72 Try.f72 spec_Rank.ms spec_Rank.b := ⟨Try.func72, by kernel_rfl, by kernel_rfl⟩
noncomputable def spec_Rank.fn : Args tab spec_Rank.as → Option (ResT tab spec_Rank.rs) := fun x => spec_Rank x.1 x.2.1 x.2.2
theorem spec_Rank.con {δ : Type} : Con Try.prog (KT tab) 72 (calleeS (β := δ) tab spec_Rank.ms spec_Rank.as spec_Rank.rs spec_Rank.fn) := con_shape (c := spec_Rank.c) mixed tysOk (getG_con (spec_Rank.gok _)) spec_Rank.fok rfl rfl (fun _ => rfl)
noncomputable def spec_Rank_l0 (v0 : Int) (v1 : Int) (v2 : Int) (v3 : List Int) : Option (Int) := Lw spec_Rank.c (finish spec_Rank.c (fiOf (GT tab) Try.f72 spec_Rank.ms) (decRes tab spec_Rank.rs)) ((loops spec_Rank.c.cuts 1000 spec_Rank.b []).getD 0 []) { slots := [.undef, .int .i64 v0, .int .i64 v1, .ptr 0 0, .undef, .undef, .undef, .undef, .undef, .undef, .undef, .undef, .undef, .undef, .undef, .undef, .undef, .undef, .undef, .undef, .undef, .undef, .undef, .undef, .undef, .undef, .undef, .undef, .undef, .undef, .undef, .undef, .undef, .undef, .undef, .undef, .undef, .undef, .undef, .undef, .undef, .undef, .undef, .undef], loc := locOf [.box 51 [.int .i64 v2, .vs false 117 v3]], nx := 1 }
noncomputable def spec_Rank_l1 (v0 : Int) (v1 : Int) (v2 : Int) (v3 : Int) (v4 : List Int) : Option (Int) := Lw spec_Rank.c (finish spec_Rank.c (fiOf (GT tab) Try.f72 spec_Rank.ms) (decRes tab spec_Rank.rs)) ((loops spec_Rank.c.cuts 1000 spec_Rank.b []).getD 1 []) { slots := [.undef, .int .i64 v0, .int .i64 v1, .undef, .undef, .undef, .undef, .sl 0 0, .int .i64 v2, .int .i64 v3, .undef, .undef, .undef, .undef, .undef, .undef, .undef, .undef, .undef, .undef, .undef, .undef, .undef, .undef, .undef, .undef, .undef, .undef, .undef, .undef, .undef, .undef, .undef, .undef, .undef, .undef, .undef, .undef, .undef, .undef, .undef, .undef, .undef, .undef], loc := locOf [.row 0 true 3 v4], nx := 1 }
theorem spec_Rank.eq (x0 : Int × (List Int)) (x1 : Int) (x2 : Int) : spec_Rank x0 x1 x2 =
    (spec_BitsOk (x0.1, x0.2)).bind fun y1 =>
    bif !y1 then
      some (-1 : Int)
    else
      (spec_l01Bit x1).bind fun y2 =>
      bif !y2 then
        some (-1 : Int)
      else
        bif decide (x2 < (0 : Int)) then
          some (-1 : Int)
        else
          bif decide (x2 > x0.1) then
            some (-1 : Int)
          else
            spec_Rank_l0 x1 x2 x0.1 x0.2 := by kernel_rfl
theorem spec_Rank_l0.eq (v0 : Int) (v1 : Int) (v2 : Int) (v3 : List Int) : spec_Rank_l0 v0 v1 v2 v3 =
    (spec_l01List (v2, v3)).bind fun y1 =>
    spec_Rank_l1 v0 v1 (0 : Int) (0 : Int) y1 := (Lw_eq tysOk (getG_con (spec_Rank.gok _)) _ _).trans (by kernel_rfl)
theorem spec_Rank_l1.eq (v0 : Int) (v1 : Int) (v2 : Int) (v3 : Int) (v4 : List Int) : spec_Rank_l1 v0 v1 v2 v3 v4 =
    bif decide (v3 < v1) then
      (at? v4 v3).bind fun y1 =>
      v4[v3.toNat]?.bind fun y2 =>
      bif y2 == v0 then
        spec_Rank_l1 v0 v1 (IntKind.i64.wrap (v2 + (1 : Int))) (IntKind.i64.wrap (v3 + (1 : Int))) v4
      else
        spec_Rank_l1 v0 v1 v2 (IntKind.i64.wrap (v3 + (1 : Int))) v4
    else
      some v2 := (Lw_eq tysOk (getG_con (spec_Rank.gok _)) _ _).trans (by kernel_rfl)

/-! ### spec_WaveOk: loop.example/g00688/spec.WaveOk -/
def spec_WaveOk.ms : List Mode := [.lend]
def spec_WaveOk.as : List VSh := [.agg [.int .i64, .sl false false 3, .sl false false 51]]
def spec_WaveOk.rs : RSh := ⟨[.one (.b (.b (.b (.b (.bool)))))], [none]⟩
noncomputable def spec_WaveOk.gs (δ : Type) : List (Nat × Callee (GT tab) δ) := [(37, calleeS tab spec_BitsOk.ms spec_BitsOk.as spec_BitsOk.rs spec_BitsOk.fn), (72, calleeS tab spec_Rank.ms spec_Rank.as spec_Rank.rs spec_Rank.fn)]
theorem spec_WaveOk.gok (δ : Type) : AllCon Try.prog tab (spec_WaveOk.gs δ) := .cons spec_BitsOk.con (.cons spec_Rank.con (.nil))
noncomputable def spec_WaveOk.c : Ctx (GT tab) (KT tab) (ResT tab spec_WaveOk.rs) := { X := XT tab, ty := tyOf tys, inner := fun _ => true, keep := keepOf 0 spec_WaveOk.ms, cuts := [3], live := liveOf [(3, [1]), (4, [1, 3])], G := getG (spec_WaveOk.gs _) }
noncomputable def spec_WaveOk.b : Code := bodyOf Try.f39
noncomputable def spec_WaveOk (x0 : Int × (List Int) × (List (Int × (List Int)))) : Option (Bool) := callW spec_WaveOk.c (fiOf (GT tab) Try.f39 spec_WaveOk.ms) spec_WaveOk.b (decRes tab spec_WaveOk.rs) (encArgs tab spec_WaveOk.as x0)
theorem spec_WaveOk.fok : FnOk Try.prog 39 Try.f39 spec_WaveOk.ms spec_WaveOk.b := ⟨Try.func39, by kernel_rfl, by kernel_rfl⟩
noncomputable def spec_WaveOk.fn : Args tab spec_WaveOk.as → Option (ResT tab spec_WaveOk.rs) := fun x => spec_WaveOk x
theorem spec_WaveOk.con {δ : Type} : Con Try.prog (KT tab) 39 (calleeS (β := δ) tab spec_WaveOk.ms spec_WaveOk.as spec_WaveOk.rs spec_WaveOk.fn) := con_shape (c := spec_WaveOk.c) mixed tysOk (getG_con (spec_WaveOk.gok _)) spec_WaveOk.fok rfl rfl (fun _ => rfl)
noncomputable def spec_WaveOk_l0 (v0 : Int) (v1 : List Int) (v2 : List (Int × (List Int))) : Option (Bool) := Lw spec_WaveOk.c (finish spec_WaveOk.c (fiOf (GT tab) Try.f39 spec_WaveOk.ms) (decRes tab spec_WaveOk.rs)) ((loops spec_WaveOk.c.cuts 1000 spec_WaveOk.b []).getD 0 []) { slots := [.undef, .ptr 0 0, .undef, .undef, .undef, .undef, .undef, .undef, .undef, .undef, .undef, .undef, .undef, .undef, .undef, .undef, .undef, .undef, .undef, .undef, .undef, .undef, .undef, .undef, .undef, .undef, .undef, .undef, .undef, .undef, .undef, .undef, .undef, .undef, .undef, .undef, .undef, .undef, .undef, .undef, .undef, .undef, .undef, .undef, .undef, .undef, .undef, .undef, .undef, .undef, .undef, .undef, .undef, .undef, .undef, .undef, .undef, .undef, .undef, .undef, .undef, .undef], loc := locOf [.box 31 [.int .i64 v0, .vs false 3 v1, .vs false 51 v2]], nx := 1 }
noncomputable def spec_WaveOk_l1 (v0 : Int) (v1 : Int) (v2 : List Int) (v3 : List (Int × (List Int))) : Option (Bool) := Lw spec_WaveOk.c (finish spec_WaveOk.c (fiOf (GT tab) Try.f39 spec_WaveOk.ms) (decRes tab spec_WaveOk.rs)) ((loops spec_WaveOk.c.cuts 1000 spec_WaveOk.b []).getD 1 []) { slots := [.undef, .ptr 0 0, .undef, .int .i64 v0, .undef, .undef, .undef, .undef, .undef, .undef, .undef, .undef, .undef, .undef, .undef, .undef, .undef, .undef, .undef, .undef, .undef, .undef, .undef, .undef, .undef, .undef, .undef, .undef, .undef, .undef, .undef, .undef, .undef, .undef, .undef, .undef, .undef, .undef, .undef, .undef, .undef, .undef, .undef, .undef, .undef, .undef, .undef, .undef, .undef, .undef, .undef, .undef, .undef, .undef, .undef, .undef, .undef, .undef, .undef, .undef, .undef, .undef], loc := locOf [.box 31 [.int .i64 v1, .vs false 3 v2, .vs false 51 v3]], nx := 1 }
theorem spec_WaveOk.eq (x0 : Int × (List Int) × (List (Int × (List Int)))) : spec_WaveOk x0 =
    bif decide (x0.1 < (0 : Int)) then
      some false
    else
      bif decide (x0.1 > (1000 : Int)) then
        some false
      else
        bif (x0.2.2.length : Int) != (9 : Int) then
          some false
        else
          bif (x0.2.1.length : Int) != (9 : Int) then
            some false
          else
            spec_WaveOk_l0 x0.1 x0.2.1 x0.2.2 := by kernel_rfl
theorem spec_WaveOk_l0.eq (v0 : Int) (v1 : List Int) (v2 : List (Int × (List Int))) : spec_WaveOk_l0 v0 v1 v2 =
    spec_WaveOk_l1 (0 : Int) v0 v1 v2 := (Lw_eq tysOk (getG_con (spec_WaveOk.gok _)) _ _).trans (by kernel_rfl)
theorem spec_WaveOk_l1.eq (v0 : Int) (v1 : Int) (v2 : List Int) (v3 : List (Int × (List Int))) : spec_WaveOk_l1 v0 v1 v2 v3 =
    bif decide (v0 < (9 : Int)) then
      (at? v3 v0).bind fun y1 =>
      bif y1.1 != v1 then
        some false
      else
        (at? v3 v0).bind fun y2 =>
        (spec_BitsOk (y2.1, y2.2)).bind fun y3 =>
        bif !y3 then
          some false
        else
          (at? v3 v0).bind fun y4 =>
          (spec_Rank (y4.1, y4.2) (0 : Int) v1).bind fun y5 =>
          (at? v2 v0).bind fun y6 =>
          bif y5 != y6 then
            some false
          else
            spec_WaveOk_l1 (IntKind.i64.wrap (v0 + (1 : Int))) v1 v2 v3
    else
      some true := (Lw_eq tysOk (getG_con (spec_WaveOk.gok _)) _ _).trans (by kernel_rfl)

/-! ### impl_count: loop.example/g00688/impl.count -/
def impl_count.ms : List Mode := [.lend, .lend]
def impl_count.as : List VSh := [.one (.b (.b (.b (.b (.sl false false 3))))), .one (.b (.b (.b (.b (.int .i64)))))]
def impl_count.rs : RSh := ⟨[.one (.b (.b (.b (.b (.int .i64)))))], [none, none]⟩
noncomputable def impl_count.gs (δ : Type) : List (Nat × Callee (GT tab) δ) := []
theorem impl_count.gok (δ : Type) : AllCon Try.prog tab (impl_count.gs δ) := .nil
noncomputable def impl_count.c : Ctx (GT tab) (KT tab) (ResT tab impl_count.rs) := { X := XT tab, ty := tyOf tys, inner := fun _ => true, keep := keepOf 0 impl_count.ms, cuts := [], live := liveOf [(3, [1, 5, 8, 9, 10])], G := getG (impl_count.gs _) }
noncomputable def impl_count.b : Code := bodyOf Try.f73
noncomputable def impl_count (x0 : List Int) (x1 : Int) : Option (Int) := callW impl_count.c (fiOf (GT tab) Try.f73 impl_count.ms) impl_count.b (decRes tab impl_count.rs) (encArgs tab impl_count.as (x0, x1))
theorem impl_count.fok : FnOk Try.prog 73 Try.f73 impl_count.ms impl_count.b := ⟨Try.func73, by kernel_rfl, by kernel_rfl⟩
noncomputable def impl_count.fn : Args tab impl_count.as → Option (ResT tab impl_count.rs) := fun x => impl_count x.1 x.2
theorem impl_count.con {δ : Type} : Con Try.prog (KT tab) 73 (calleeS (β := δ) tab impl_count.ms impl_count.as impl_count.rs impl_count.fn) := con_shape (c := impl_count.c) mixed tysOk (getG_con (impl_count.gok _)) impl_count.fok rfl rfl (fun _ => rfl)
noncomputable def impl_count_l0 (v0 : Int) (v1 : Int) (v2 : List Int) (v3 : Int) (v4 : Int) : Option (Int) := Lw impl_count.c (finish impl_count.c (fiOf (GT tab) Try.f73 impl_count.ms) (decRes tab impl_count.rs)) ((loops impl_count.c.cuts 1000 impl_count.b []).getD 0 []) { slots := [.undef, .int .i64 v0, .undef, .undef, .undef, .int .i64 v1, .undef, .undef, .vs false 3 v2, .int .i64 v3, .int .i64 v4, .undef, .undef, .undef, .undef, .undef, .undef, .undef, .undef, .undef, .undef], loc := locOf [], nx := 0 }
theorem impl_count.eq (x0 : List Int) (x1 : Int) : impl_count x0 x1 =
    impl_count_l0 x1 (0 : Int) x0 (x0.length : Int) (0 : Int) := by kernel_rfl
theorem impl_count_l0.eq (v0 : Int) (v1 : Int) (v2 : List Int) (v3 : Int) (v4 : Int) : impl_count_l0 v0 v1 v2 v3 v4 =
    bif decide (v4 < v3) then
      (at? v2 v4).bind fun y1 =>
      bif y1 == v0 then
        impl_count_l0 v0 (IntKind.i64.wrap (v1 + (1 : Int))) v2 v3 (IntKind.i64.wrap (v4 + (1 : Int)))
      else
        impl_count_l0 v0 v1 v2 v3 (IntKind.i64.wrap (v4 + (1 : Int)))
    else
      some v1 := (Lw_eq tysOk (getG_con (impl_count.gok _)) _ _).trans (by kernel_rfl)

/-! ### impl_Wave_read: (loop.example/g00688/impl.Wave).read -/
def impl_Wave_read.ms : List Mode := [.lend]
def impl_Wave_read.as : List VSh := [.agg [.int .i64, .sl false false 3, .sl false false 51]]
def impl_Wave_read.rs : RSh := ⟨[.one (.b (.b (.b (.b (.sl true true 3))))), .one (.b (.b (.b (.b (.bool)))))], [none]⟩
noncomputable def impl_Wave_read.gs (δ : Type) : List (Nat × Callee (GT tab) δ) := [(73, calleeS tab impl_count.ms impl_count.as impl_count.rs impl_count.fn), (93, calleeS tab impl_BitsOk.ms impl_BitsOk.as impl_BitsOk.rs impl_BitsOk.fn), (117, calleeS tab impl_within.ms impl_within.as impl_within.rs impl_within.fn), (137, calleeS tab impl_BitsList.ms impl_BitsList.as impl_BitsList.rs impl_BitsList.fn)]
theorem impl_Wave_read.gok (δ : Type) : AllCon Try.prog tab (impl_Wave_read.gs δ) := .cons impl_count.con (.cons impl_BitsOk.con (.cons impl_within.con (.cons impl_BitsList.con (.nil))))
noncomputable def impl_Wave_read.c : Ctx (GT tab) (KT tab) (ResT tab impl_Wave_read.rs) := { X := XT tab, ty := tyOf tys, inner := fun _ => true, keep := keepOf 0 impl_Wave_read.ms, cuts := [3, 15], live := liveOf [(3, [1]), (5, [1, 4, 5, 40, 41]), (10, [1, 4, 5, 50, 51, 52]), (15, [1, 4, 5, 7, 9, 50, 51, 52]), (17, [1, 4, 5, 9, 10, 11, 12, 50, 51, 52, 87, 88, 89]), (24, [1, 4, 5, 9, 10, 50, 51, 52, 109, 110, 111])], G := getG (impl_Wave_read.gs _) }
noncomputable def impl_Wave_read.b : Code := bodyOf Try.f115
noncomputable def impl_Wave_read (x0 : Int × (List Int) × (List (Int × (List Int)))) : Option ((List Int) × Bool) := callW impl_Wave_read.c (fiOf (GT tab) Try.f115 impl_Wave_read.ms) impl_Wave_read.b (decRes tab impl_Wave_read.rs) (encArgs tab impl_Wave_read.as x0)
theorem impl_Wave_read.fok : FnOk Try.prog 115 Try.f115 impl_Wave_read.ms impl_Wave_read.b := ⟨Try.func115, by kernel_rfl, by kernel_rfl⟩
noncomputable def impl_Wave_read.fn : Args tab impl_Wave_read.as → Option (ResT tab impl_Wave_read.rs) := fun x => impl_Wave_read x
theorem impl_Wave_read.con {δ : Type} : Con Try.prog (KT tab) 115 (calleeS (β := δ) tab impl_Wave_read.ms impl_Wave_read.as impl_Wave_read.rs impl_Wave_read.fn) := con_shape (c := impl_Wave_read.c) mixed tysOk (getG_con (impl_Wave_read.gok _)) impl_Wave_read.fok rfl rfl (fun _ => rfl)
noncomputable def impl_Wave_read_l0 (v0 : Int) (v1 : List Int) (v2 : List (Int × (List Int))) : Option ((List Int) × Bool) := Lw impl_Wave_read.c (finish impl_Wave_read.c (fiOf (GT tab) Try.f115 impl_Wave_read.ms) (decRes tab impl_Wave_read.rs)) ((loops impl_Wave_read.c.cuts 1000 impl_Wave_read.b []).getD 0 []) { slots := [.undef, .ptr 0 0, .undef, .undef, .undef, .undef, .undef, .undef, .undef, .undef, .undef, .undef, .undef, .undef, .undef, .undef, .undef, .undef, .undef, .undef, .undef, .undef, .undef, .undef, .undef, .undef, .undef, .undef, .undef, .undef, .undef, .undef, .undef, .undef, .undef, .undef, .undef, .undef, .undef, .undef, .undef, .undef, .undef, .undef, .undef, .undef, .undef, .undef, .undef, .undef, .undef, .undef, .undef, .undef, .undef, .undef, .undef, .undef, .undef, .undef, .undef, .undef, .undef, .undef, .undef, .undef, .undef, .undef, .undef, .undef, .undef, .undef, .undef, .undef, .undef, .undef, .undef, .undef, .undef, .undef, .undef, .undef, .undef, .undef, .undef, .undef, .undef, .undef, .undef, .undef, .undef, .undef, .undef, .undef, .undef, .undef, .undef, .undef, .undef, .undef, .undef, .undef, .undef, .undef, .undef, .undef, .undef, .undef, .undef, .undef, .undef, .undef, .undef, .undef, .undef, .undef, .undef, .undef, .undef, .undef, .undef, .undef, .undef, .undef, .undef, .undef, .undef, .undef, .undef, .undef, .undef, .undef, .undef, .undef, .undef, .undef, .undef, .undef, .undef], loc := locOf [.box 31 [.int .i64 v0, .vs false 3 v1, .vs false 51 v2]], nx := 1 }
noncomputable def impl_Wave_read_l1 (v0 : Int) (v1 : Int) (v2 : Int) (v3 : List Int) (v4 : List (Int × (List Int))) (v5 : List Int) (v6 : List Int) : Option ((List Int) × Bool) := Lw impl_Wave_read.c (finish impl_Wave_read.c (fiOf (GT tab) Try.f115 impl_Wave_read.ms) (decRes tab impl_Wave_read.rs)) ((loops impl_Wave_read.c.cuts 1000 impl_Wave_read.b []).getD 1 []) { slots := [.undef, .ptr 0 0, .undef, .undef, .sl 1 0, .sl 2 0, .undef, .undef, .undef, .undef, .undef, .undef, .undef, .undef, .undef, .undef, .undef, .undef, .undef, .undef, .undef, .undef, .undef, .undef, .undef, .undef, .undef, .undef, .undef, .undef, .undef, .undef, .undef, .undef, .undef, .undef, .undef, .undef, .undef, .undef, .int .i64 v0, .int .i64 v1, .undef, .undef, .undef, .undef, .undef, .undef, .undef, .undef, .undef, .undef, .undef, .undef, .undef, .undef, .undef, .undef, .undef, .undef, .undef, .undef, .undef, .undef, .undef, .undef, .undef, .undef, .undef, .undef, .undef, .undef, .undef, .undef, .undef, .undef, .undef, .undef, .undef, .undef, .undef, .undef, .undef, .undef, .undef, .undef, .undef, .undef, .undef, .undef, .undef, .undef, .undef, .undef, .undef, .undef, .undef, .undef, .undef, .undef, .undef, .undef, .undef, .undef, .undef, .undef, .undef, .undef, .undef, .undef, .undef, .undef, .undef, .undef, .undef, .undef, .undef, .undef, .undef, .undef, .undef, .undef, .undef, .undef, .undef, .undef, .undef, .undef, .undef, .undef, .undef, .undef, .undef, .undef, .undef, .undef, .undef, .undef, .undef], loc := locOf [.box 31 [.int .i64 v2, .vs false 3 v3, .vs false 51 v4], .row 0 true 3 v5, .row 0 true 3 v6], nx := 3 }
noncomputable def impl_Wave_read_l2 (v0 : List (Int × (List Int))) (v1 : Int) (v2 : Int) (v3 : Int) (v4 : List Int) (v5 : List (Int × (List Int))) (v6 : List Int) (v7 : List Int) : Option ((List Int) × Bool) := Lw impl_Wave_read.c (finish impl_Wave_read.c (fiOf (GT tab) Try.f115 impl_Wave_read.ms) (decRes tab impl_Wave_read.rs)) ((loops impl_Wave_read.c.cuts 1000 impl_Wave_read.b []).getD 2 []) { slots := [.undef, .ptr 0 0, .undef, .undef, .sl 1 0, .sl 2 0, .undef, .undef, .undef, .undef, .undef, .undef, .undef, .undef, .undef, .undef, .undef, .undef, .undef, .undef, .undef, .undef, .undef, .undef, .undef, .undef, .undef, .undef, .undef, .undef, .undef, .undef, .undef, .undef, .undef, .undef, .undef, .undef, .undef, .undef, .undef, .undef, .undef, .undef, .undef, .undef, .undef, .undef, .undef, .undef, .vs false 51 v0, .int .i64 v1, .int .i64 v2, .undef, .undef, .undef, .undef, .undef, .undef, .undef, .undef, .undef, .undef, .undef, .undef, .undef, .undef, .undef, .undef, .undef, .undef, .undef, .undef, .undef, .undef, .undef, .undef, .undef, .undef, .undef, .undef, .undef, .undef, .undef, .undef, .undef, .undef, .undef, .undef, .undef, .undef, .undef, .undef, .undef, .undef, .undef, .undef, .undef, .undef, .undef, .undef, .undef, .undef, .undef, .undef, .undef, .undef, .undef, .undef, .undef, .undef, .undef, .undef, .undef, .undef, .undef, .undef, .undef, .undef, .undef, .undef, .undef, .undef, .undef, .undef, .undef, .undef, .undef, .undef, .undef, .undef, .undef, .undef, .undef, .undef, .undef, .undef, .undef, .undef], loc := locOf [.box 31 [.int .i64 v3, .vs false 3 v4, .vs false 51 v5], .row 0 true 3 v6, .row 0 true 3 v7], nx := 3 }
noncomputable def impl_Wave_read_l3 (v0 : Int) (v1 : List (Int × (List Int))) (v2 : Int) (v3 : Int) (v4 : Int) (v5 : List Int) (v6 : List (Int × (List Int))) (v7 : List Int) (v8 : List Int) (v9 : List Int) : Option ((List Int) × Bool) := Lw impl_Wave_read.c (finish impl_Wave_read.c (fiOf (GT tab) Try.f115 impl_Wave_read.ms) (decRes tab impl_Wave_read.rs)) ((loops impl_Wave_read.c.cuts 1000 impl_Wave_read.b []).getD 3 []) { slots := [.undef, .ptr 0 0, .undef, .undef, .sl 1 0, .sl 2 0, .undef, .int .i64 v0, .undef, .sl 3 0, .undef, .undef, .undef, .undef, .undef, .undef, .undef, .undef, .undef, .undef, .undef, .undef, .undef, .undef, .undef, .undef, .undef, .undef, .undef, .undef, .undef, .undef, .undef, .undef, .undef, .undef, .undef, .undef, .undef, .undef, .undef, .undef, .undef, .undef, .undef, .undef, .undef, .undef, .undef, .undef, .vs false 51 v1, .int .i64 v2, .int .i64 v3, .undef, .undef, .undef, .undef, .undef, .undef, .undef, .undef, .undef, .undef, .undef, .undef, .undef, .undef, .undef, .undef, .undef, .undef, .undef, .undef, .undef, .undef, .undef, .undef, .undef, .undef, .undef, .undef, .undef, .undef, .undef, .undef, .undef, .undef, .undef, .undef, .undef, .undef, .undef, .undef, .undef, .undef, .undef, .undef, .undef, .undef, .undef, .undef, .undef, .undef, .undef, .undef, .undef, .undef, .undef, .undef, .undef, .undef, .undef, .undef, .undef, .undef, .undef, .undef, .undef, .undef, .undef, .undef, .undef, .undef, .undef, .undef, .undef, .undef, .undef, .undef, .undef, .undef, .undef, .undef, .undef, .undef, .undef, .undef, .undef, .undef], loc := locOf [.box 31 [.int .i64 v4, .vs false 3 v5, .vs false 51 v6], .row 0 true 3 v7, .row 0 true 3 v8, .row 0 true 3 v9], nx := 4 }
noncomputable def impl_Wave_read_l4 (v0 : Int) (v1 : Int) (v2 : List (Int × (List Int))) (v3 : Int) (v4 : Int) (v5 : Int) (v6 : Int) (v7 : Int) (v8 : List Int) (v9 : List (Int × (List Int))) (v10 : List Int) (v11 : List Int) (v12 : List Int) (v13 : List Int) : Option ((List Int) × Bool) := Lw impl_Wave_read.c (finish impl_Wave_read.c (fiOf (GT tab) Try.f115 impl_Wave_read.ms) (decRes tab impl_Wave_read.rs)) ((loops impl_Wave_read.c.cuts 1000 impl_Wave_read.b []).getD 4 []) { slots := [.undef, .ptr 0 0, .undef, .undef, .sl 1 0, .sl 2 0, .undef, .undef, .undef, .sl 3 0, .sl 4 0, .int .i64 v0, .int .i64 v1, .undef, .undef, .undef, .undef, .undef, .undef, .undef, .undef, .undef, .undef, .undef, .undef, .undef, .undef, .undef, .undef, .undef, .undef, .undef, .undef, .undef, .undef, .undef, .undef, .undef, .undef, .undef, .undef, .undef, .undef, .undef, .undef, .undef, .undef, .undef, .undef, .undef, .vs false 51 v2, .int .i64 v3, .int .i64 v4, .undef, .undef, .undef, .undef, .undef, .undef, .undef, .undef, .undef, .undef, .undef, .undef, .undef, .undef, .undef, .undef, .undef, .undef, .undef, .undef, .undef, .undef, .undef, .undef, .undef, .undef, .undef, .undef, .undef, .undef, .undef, .undef, .undef, .undef, .sl 3 0, .int .i64 v5, .int .i64 v6, .undef, .undef, .undef, .undef, .undef, .undef, .undef, .undef, .undef, .undef, .undef, .undef, .undef, .undef, .undef, .undef, .undef, .undef, .undef, .undef, .undef, .undef, .undef, .undef, .undef, .undef, .undef, .undef, .undef, .undef, .undef, .undef, .undef, .undef, .undef, .undef, .undef, .undef, .undef, .undef, .undef, .undef, .undef, .undef, .undef, .undef, .undef, .undef, .undef], loc := locOf [.box 31 [.int .i64 v7, .vs false 3 v8, .vs false 51 v9], .row 0 true 3 v10, .row 0 true 3 v11, .row 0 true 3 v12, .row 0 true 3 v13], nx := 5 }
noncomputable def impl_Wave_read_l5 (v0 : List (Int × (List Int))) (v1 : Int) (v2 : Int) (v3 : Int) (v4 : Int) (v5 : Int) (v6 : List Int) (v7 : List (Int × (List Int))) (v8 : List Int) (v9 : List Int) (v10 : List Int) (v11 : List Int) : Option ((List Int) × Bool) := Lw impl_Wave_read.c (finish impl_Wave_read.c (fiOf (GT tab) Try.f115 impl_Wave_read.ms) (decRes tab impl_Wave_read.rs)) ((loops impl_Wave_read.c.cuts 1000 impl_Wave_read.b []).getD 5 []) { slots := [.undef, .ptr 0 0, .undef, .undef, .sl 1 0, .sl 2 0, .undef, .undef, .undef, .sl 3 0, .sl 4 0, .undef, .undef, .undef, .undef, .undef, .undef, .undef, .undef, .undef, .undef, .undef, .undef, .undef, .undef, .undef, .undef, .undef, .undef, .undef, .undef, .undef, .undef, .undef, .undef, .undef, .undef, .undef, .undef, .undef, .undef, .undef, .undef, .undef, .undef, .undef, .undef, .undef, .undef, .undef, .vs false 51 v0, .int .i64 v1, .int .i64 v2, .undef, .undef, .undef, .undef, .undef, .undef, .undef, .undef, .undef, .undef, .undef, .undef, .undef, .undef, .undef, .undef, .undef, .undef, .undef, .undef, .undef, .undef, .undef, .undef, .undef, .undef, .undef, .undef, .undef, .undef, .undef, .undef, .undef, .undef, .undef, .undef, .undef, .undef, .undef, .undef, .undef, .undef, .undef, .undef, .undef, .undef, .undef, .undef, .undef, .undef, .undef, .undef, .undef, .undef, .undef, .undef, .sl 2 0, .int .i64 v3, .int .i64 v4, .undef, .undef, .undef, .undef, .undef, .undef, .undef, .undef, .undef, .undef, .undef, .undef, .undef, .undef, .undef, .undef, .undef, .undef, .undef, .undef, .undef, .undef, .undef, .undef, .undef, .undef, .undef], loc := locOf [.box 31 [.int .i64 v5, .vs false 3 v6, .vs false 51 v7], .row 0 true 3 v8, .row 0 true 3 v9, .row 0 true 3 v10, .row 0 true 3 v11], nx := 5 }
theorem impl_Wave_read.eq (x0 : Int × (List Int) × (List (Int × (List Int)))) : impl_Wave_read x0 =
    (impl_within x0.1 (0 : Int) (1000 : Int)).bind fun y1 =>
    bif !y1 then
      some (([] : List Int), false)
    else
      bif (x0.2.1.length : Int) != (9 : Int) then
        some (([] : List Int), false)
      else
        bif (x0.2.2.length : Int) != (9 : Int) then
          some (([] : List Int), false)
        else
          impl_Wave_read_l0 x0.1 x0.2.1 x0.2.2 := by kernel_rfl
theorem impl_Wave_read_l0.eq (v0 : Int) (v1 : List Int) (v2 : List (Int × (List Int))) : impl_Wave_read_l0 v0 v1 v2 =
    bif decide ((0 : Int) ≤ v0) && decide (v0.toNat * 8 ≤ 140737488355328) then
      bif decide ((0 : Int) ≤ v0) && decide (v0.toNat * 8 ≤ 140737488355328) then
        impl_Wave_read_l1 ((List.replicate v0.toNat (0 : Int)).length : Int) (0 : Int) v0 v1 v2 (List.replicate v0.toNat (0 : Int)) (List.replicate v0.toNat (0 : Int))
      else
        none
    else
      none := (Lw_eq tysOk (getG_con (impl_Wave_read.gok _)) _ _).trans (by kernel_rfl)
theorem impl_Wave_read_l1.eq (v0 : Int) (v1 : Int) (v2 : Int) (v3 : List Int) (v4 : List (Int × (List Int))) (v5 : List Int) (v6 : List Int) : impl_Wave_read_l1 v0 v1 v2 v3 v4 v5 v6 =
    bif decide (v1 < v0) then
      (at? v6 v1).bind fun y1 =>
      v6[v1.toNat]?.bind fun y2 =>
      impl_Wave_read_l1 v0 (IntKind.i64.wrap (v1 + (1 : Int))) v2 v3 v4 v5 (v6.set v1.toNat v1)
    else
      impl_Wave_read_l2 v4 (v4.length : Int) (0 : Int) v2 v3 v4 v5 v6 := (Lw_eq tysOk (getG_con (impl_Wave_read.gok _)) _ _).trans (by kernel_rfl)
theorem impl_Wave_read_l2.eq (v0 : List (Int × (List Int))) (v1 : Int) (v2 : Int) (v3 : Int) (v4 : List Int) (v5 : List (Int × (List Int))) (v6 : List Int) (v7 : List Int) : impl_Wave_read_l2 v0 v1 v2 v3 v4 v5 v6 v7 =
    bif decide (v2 < v1) then
      (at? v0 v2).bind fun y1 =>
      (impl_BitsList (y1.1, y1.2)).bind fun y2 =>
      (impl_BitsOk (y1.1, y1.2)).bind fun y3 =>
      bif !y3 then
        some (([] : List Int), false)
      else
        bif y1.1 != v3 then
          some (([] : List Int), false)
        else
          (impl_count y2 (0 : Int)).bind fun y4 =>
          (at? v4 v2).bind fun y5 =>
          bif y4 != y5 then
            some (([] : List Int), false)
          else
            impl_Wave_read_l3 v2 v0 v1 v2 v3 v4 v5 v6 v7 y2
    else
      some (v6, true) := (Lw_eq tysOk (getG_con (impl_Wave_read.gok _)) _ _).trans (by kernel_rfl)
theorem impl_Wave_read_l3.eq (v0 : Int) (v1 : List (Int × (List Int))) (v2 : Int) (v3 : Int) (v4 : Int) (v5 : List Int) (v6 : List (Int × (List Int))) (v7 : List Int) (v8 : List Int) (v9 : List Int) : impl_Wave_read_l3 v0 v1 v2 v3 v4 v5 v6 v7 v8 v9 =
    bif decide ((0 : Int) ≤ v4) && decide (v4.toNat * 8 ≤ 140737488355328) then
      (at? v5 v0).bind fun y1 =>
      impl_Wave_read_l4 (0 : Int) y1 v1 v2 v3 (v9.length : Int) (0 : Int) v4 v5 v6 v7 v8 v9 (List.replicate v4.toNat (0 : Int))
    else
      none := (Lw_eq tysOk (getG_con (impl_Wave_read.gok _)) _ _).trans (by kernel_rfl)
theorem impl_Wave_read_l4.eq (v0 : Int) (v1 : Int) (v2 : List (Int × (List Int))) (v3 : Int) (v4 : Int) (v5 : Int) (v6 : Int) (v7 : Int) (v8 : List Int) (v9 : List (Int × (List Int))) (v10 : List Int) (v11 : List Int) (v12 : List Int) (v13 : List Int) : impl_Wave_read_l4 v0 v1 v2 v3 v4 v5 v6 v7 v8 v9 v10 v11 v12 v13 =
    bif decide (v6 < v5) then
      (at? v12 v6).bind fun y1 =>
      v12[v6.toNat]?.bind fun y2 =>
      bif y2 == (0 : Int) then
        (at? v13 v6).bind fun y3 =>
        v13[v6.toNat]?.bind fun y4 =>
        impl_Wave_read_l4 (IntKind.i64.wrap (v0 + (1 : Int))) v1 v2 v3 v4 v5 (IntKind.i64.wrap (v6 + (1 : Int))) v7 v8 v9 v10 v11 v12 (v13.set v6.toNat v0)
      else
        (at? v13 v6).bind fun y5 =>
        v13[v6.toNat]?.bind fun y6 =>
        impl_Wave_read_l4 v0 (IntKind.i64.wrap (v1 + (1 : Int))) v2 v3 v4 v5 (IntKind.i64.wrap (v6 + (1 : Int))) v7 v8 v9 v10 v11 v12 (v13.set v6.toNat v1)
    else
      impl_Wave_read_l5 v2 v3 v4 (v11.length : Int) (0 : Int) v7 v8 v9 v10 v11 v12 v13 := (Lw_eq tysOk (getG_con (impl_Wave_read.gok _)) _ _).trans (by kernel_rfl)
theorem impl_Wave_read_l5.eq (v0 : List (Int × (List Int))) (v1 : Int) (v2 : Int) (v3 : Int) (v4 : Int) (v5 : Int) (v6 : List Int) (v7 : List (Int × (List Int))) (v8 : List Int) (v9 : List Int) (v10 : List Int) (v11 : List Int) : impl_Wave_read_l5 v0 v1 v2 v3 v4 v5 v6 v7 v8 v9 v10 v11 =
    bif decide (v4 < v3) then
      (at? v9 v4).bind fun y1 =>
      v9[v4.toNat]?.bind fun y2 =>
      (at? v8 v4).bind fun y3 =>
      v8[v4.toNat]?.bind fun y4 =>
      (at? v10 y2).bind fun y5 =>
      v10[y2.toNat]?.bind fun y6 =>
      (at? v8 v4).bind fun y7 =>
      v8[v4.toNat]?.bind fun y8 =>
      (at? v11 y2).bind fun y9 =>
      v11[y2.toNat]?.bind fun y10 =>
      (at? v9 v4).bind fun y11 =>
      v9[v4.toNat]?.bind fun y12 =>
      impl_Wave_read_l5 v0 v1 v2 v3 (IntKind.i64.wrap (v4 + (1 : Int))) v5 v6 v7 (v8.set v4.toNat (IntKind.i64.wrap (((BitVec.ofInt 64 (IntKind.i64.wrap (y4 * 2 ^ 1))) ||| (BitVec.ofInt 64 y6)).toNat : Int))) (v9.set v4.toNat y10) v10 v11
    else
      impl_Wave_read_l2 v0 v1 (IntKind.i64.wrap (v2 + (1 : Int))) v5 v6 v7 v8 v9 := (Lw_eq tysOk (getG_con (impl_Wave_read.gok _)) _ _).trans (by kernel_rfl)

/-! ### impl_WaveOk: loop.example/g00688/impl.WaveOk -/
def impl_WaveOk.ms : List Mode := [.lend]
def impl_WaveOk.as : List VSh := [.agg [.int .i64, .sl false false 3, .sl false false 51]]
def impl_WaveOk.rs : RSh := ⟨[.one (.b (.b (.b (.b (.bool)))))], [none]⟩
noncomputable def impl_WaveOk.gs (δ : Type) : List (Nat × Callee (GT tab) δ) := [(115, calleeS tab impl_Wave_read.ms impl_Wave_read.as impl_Wave_read.rs impl_Wave_read.fn)]
theorem impl_WaveOk.gok (δ : Type) : AllCon Try.prog tab (impl_WaveOk.gs δ) := .cons impl_Wave_read.con (.nil)
noncomputable def impl_WaveOk.c : Ctx (GT tab) (KT tab) (ResT tab impl_WaveOk.rs) := { X := XT tab, ty := tyOf tys, inner := fun _ => true, keep := keepOf 0 impl_WaveOk.ms, cuts := [], live := liveOf [], G := getG (impl_WaveOk.gs _) }
noncomputable def impl_WaveOk.b : Code := bodyOf Try.f67
noncomputable def impl_WaveOk (x0 : Int × (List Int) × (List (Int × (List Int)))) : Option (Bool) := callW impl_WaveOk.c (fiOf (GT tab) Try.f67 impl_WaveOk.ms) impl_WaveOk.b (decRes tab impl_WaveOk.rs) (encArgs tab impl_WaveOk.as x0)
theorem impl_WaveOk.fok : FnOk Try.prog 67 Try.f67 impl_WaveOk.ms impl_WaveOk.b := ⟨Try.func67, by kernel_rfl, by kernel_rfl⟩
noncomputable def impl_WaveOk.fn : Args tab impl_WaveOk.as → Option (ResT tab impl_WaveOk.rs) := fun x => impl_WaveOk x
theorem impl_WaveOk.con {δ : Type} : Con Try.prog (KT tab) 67 (calleeS (β := δ) tab impl_WaveOk.ms impl_WaveOk.as impl_WaveOk.rs impl_WaveOk.fn) := con_shape (c := impl_WaveOk.c) mixed tysOk (getG_con (impl_WaveOk.gok _)) impl_WaveOk.fok rfl rfl (fun _ => rfl)
theorem impl_WaveOk.eq (x0 : Int × (List Int) × (List (Int × (List Int)))) : impl_WaveOk x0 =
    (impl_Wave_read (x0.1, x0.2.1, x0.2.2)).bind fun y1 =>
    some y1.2 := by kernel_rfl

/-! ### impl_VarOf: loop.example/g00688/impl.VarOf -/
def impl_VarOf.ms : List Mode := [.lend]
def impl_VarOf.as : List VSh := [.one (.b (.b (.b (.b (.int .i64)))))]
def impl_VarOf.rs : RSh := ⟨[.one (.b (.b (.b (.b (.sl true true 5)))))], [none]⟩
noncomputable def impl_VarOf.gs (δ : Type) : List (Nat × Callee (GT tab) δ) := [(117, calleeS tab impl_within.ms impl_within.as impl_within.rs impl_within.fn)]
theorem impl_VarOf.gok (δ : Type) : AllCon Try.prog tab (impl_VarOf.gs δ) := .cons impl_within.con (.nil)
noncomputable def impl_VarOf.c : Ctx (GT tab) (KT tab) (ResT tab impl_VarOf.rs) := { X := XT tab, ty := tyOf tys, inner := fun _ => true, keep := keepOf 0 impl_VarOf.ms, cuts := [], live := liveOf [(4, [0, 3])], G := getG (impl_VarOf.gs _) }
noncomputable def impl_VarOf.b : Code := bodyOf Try.f97
noncomputable def impl_VarOf (x0 : Int) : Option (List Int) := callW impl_VarOf.c (fiOf (GT tab) Try.f97 impl_VarOf.ms) impl_VarOf.b (decRes tab impl_VarOf.rs) (encArgs tab impl_VarOf.as x0)
theorem impl_VarOf.fok : FnOk Try.prog 97 Try.f97 impl_VarOf.ms impl_VarOf.b := ⟨Try.func97, by kernel_rfl, by kernel_rfl⟩
noncomputable def impl_VarOf.fn : Args tab impl_VarOf.as → Option (ResT tab impl_VarOf.rs) := fun x => impl_VarOf x
theorem impl_VarOf.con {δ : Type} : Con Try.prog (KT tab) 97 (calleeS (β := δ) tab impl_VarOf.ms impl_VarOf.as impl_VarOf.rs impl_VarOf.fn) := con_shape (c := impl_VarOf.c) mixed tysOk (getG_con (impl_VarOf.gok _)) impl_VarOf.fok rfl rfl (fun _ => rfl)
noncomputable def impl_VarOf_l0 (v0 : Int) (v1 : List Int) : Option (List Int) := Lw impl_VarOf.c (finish impl_VarOf.c (fiOf (GT tab) Try.f97 impl_VarOf.ms) (decRes tab impl_VarOf.rs)) ((loops impl_VarOf.c.cuts 1000 impl_VarOf.b []).getD 0 []) { slots := [.int .i64 v0, .undef, .undef, .sl 0 0, .undef, .undef, .undef, .undef, .undef, .undef, .undef, .undef, .undef, .undef, .undef, .undef, .undef, .undef, .undef, .undef, .undef, .undef, .undef], loc := locOf [.row 0 true 5 v1], nx := 1 }
theorem impl_VarOf.eq (x0 : Int) : impl_VarOf x0 =
    (impl_within x0 (0 : Int) (4294967295 : Int)).bind fun y1 =>
    bif !y1 then
      some ([] : List Int)
    else
      impl_VarOf_l0 x0 ([] : List Int) := by kernel_rfl
theorem impl_VarOf_l0.eq (v0 : Int) (v1 : List Int) : impl_VarOf_l0 v0 v1 =
    bif decide (v0 ≥ (128 : Int)) then
      bif decide ((v1.length + ([IntKind.u8.wrap (IntKind.i64.wrap (((BitVec.ofInt 64 (IntKind.i64.wrap (((BitVec.ofInt 64 v0) &&& (BitVec.ofInt 64 (127 : Int))).toNat : Int))) ||| (BitVec.ofInt 64 (128 : Int))).toNat : Int))] : List Int).length) * 1 ≤ 140737488355328) then
        impl_VarOf_l0 (v0.fdiv (2 ^ 7)) (v1 ++ ([IntKind.u8.wrap (IntKind.i64.wrap (((BitVec.ofInt 64 (IntKind.i64.wrap (((BitVec.ofInt 64 v0) &&& (BitVec.ofInt 64 (127 : Int))).toNat : Int))) ||| (BitVec.ofInt 64 (128 : Int))).toNat : Int))] : List Int))
      else
        none
    else
      bif decide ((v1.length + ([IntKind.u8.wrap v0] : List Int).length) * 1 ≤ 140737488355328) then
        some (v1 ++ ([IntKind.u8.wrap v0] : List Int))
      else
        none := (Lw_eq tysOk (getG_con (impl_VarOf.gok _)) _ _).trans (by kernel_rfl)

end Go.Ev.W
