/- What functions of the program come to. -/
import Derived.Test.YtiogdohiooocnaaPbT
import Derived.Test.YtiogdohiooocnaaPb4
namespace Go.Ev.W
open Go.Ev Go.Proofs
set_option maxRecDepth 100000
set_option linter.unusedVariables false

/-! ### impl_bitsBytes: loop.example/g00688/impl.bitsBytes -/
def impl_bitsBytes.ms : List Mode := [.lend]
def impl_bitsBytes.as : List VSh := [.agg [.int .i64, .sl false false 117]]
def impl_bitsBytes.rs : RSh := ⟨[.one (.b (.b (.b (.b (.sl true true 5)))))], [none]⟩
noncomputable def impl_bitsBytes.gs (δ : Type) : List (Nat × Callee (GT tab) δ) := [(97, calleeS tab impl_VarOf.ms impl_VarOf.as impl_VarOf.rs impl_VarOf.fn)]
theorem impl_bitsBytes.gok (δ : Type) : AllCon Try.prog tab (impl_bitsBytes.gs δ) := .cons impl_VarOf.con (.nil)
noncomputable def impl_bitsBytes.c : Ctx (GT tab) (KT tab) (ResT tab impl_bitsBytes.rs) := { X := XT tab, ty := tyOf tys, inner := fun _ => true, keep := keepOf 0 impl_bitsBytes.ms, cuts := [], live := liveOf [(3, [1, 3, 4])], G := getG (impl_bitsBytes.gs _) }
noncomputable def impl_bitsBytes.b : Code := bodyOf Try.f94
noncomputable def impl_bitsBytes (x0 : Int × (List Int)) : Option (List Int) := callW impl_bitsBytes.c (fiOf (GT tab) Try.f94 impl_bitsBytes.ms) impl_bitsBytes.b (decRes tab impl_bitsBytes.rs) (encArgs tab impl_bitsBytes.as x0)
theorem impl_bitsBytes.fok : FnOk Try.prog 94 Try.f94 impl_bitsBytes.ms impl_bitsBytes.b := ⟨Try.func94, by kernel_rfl, by kernel_rfl⟩
noncomputable def impl_bitsBytes.fn : Args tab impl_bitsBytes.as → Option (ResT tab impl_bitsBytes.rs) := fun x => impl_bitsBytes x
theorem impl_bitsBytes.con {δ : Type} : Con Try.prog (KT tab) 94 (calleeS (β := δ) tab impl_bitsBytes.ms impl_bitsBytes.as impl_bitsBytes.rs impl_bitsBytes.fn) := con_shape (c := impl_bitsBytes.c) mixed tysOk (getG_con (impl_bitsBytes.gok _)) impl_bitsBytes.fok rfl rfl (fun _ => rfl)
noncomputable def impl_bitsBytes_l0 (v0 : Int) (v1 : Int) (v2 : List Int) (v3 : List Int) : Option (List Int) := Lw impl_bitsBytes.c (finish impl_bitsBytes.c (fiOf (GT tab) Try.f94 impl_bitsBytes.ms) (decRes tab impl_bitsBytes.rs)) ((loops impl_bitsBytes.c.cuts 1000 impl_bitsBytes.b []).getD 0 []) { slots := [.undef, .ptr 0 0, .undef, .sl 1 0, .int .i64 v0, .undef, .undef, .undef, .undef, .undef, .undef, .undef, .undef, .undef, .undef, .undef, .undef, .undef, .undef, .undef, .undef, .undef, .undef, .undef, .undef, .undef, .undef, .undef], loc := locOf [.box 51 [.int .i64 v1, .vs false 117 v2], .row 0 true 5 v3], nx := 2 }
theorem impl_bitsBytes.eq (x0 : Int × (List Int)) : impl_bitsBytes x0 =
    (impl_VarOf x0.1).bind fun y1 =>
    impl_bitsBytes_l0 (0 : Int) x0.1 x0.2 y1 := by kernel_rfl
theorem impl_bitsBytes_l0.eq (v0 : Int) (v1 : Int) (v2 : List Int) (v3 : List Int) : impl_bitsBytes_l0 v0 v1 v2 v3 =
    bif decide (v0 < v1) then
      (at? v2 (IntKind.i64.wrap (v0.tdiv (64 : Int)))).bind fun y1 =>
      bif decide (v0.tmod (64 : Int) < (0 : Int)) then
        none
      else
        bif decide ((v3.length + ([IntKind.u8.wrap (y1.fdiv (2 ^ (min (v0.tmod (64 : Int)).toNat 64)))] : List Int).length) * 1 ≤ 140737488355328) then
          impl_bitsBytes_l0 (IntKind.i64.wrap (v0 + (8 : Int))) v1 v2 (v3 ++ ([IntKind.u8.wrap (y1.fdiv (2 ^ (min (v0.tmod (64 : Int)).toNat 64)))] : List Int))
        else
          none
    else
      some v3 := (Lw_eq tysOk (getG_con (impl_bitsBytes.gok _)) _ _).trans (by kernel_rfl)

/-! ### impl_waveBytes: loop.example/g00688/impl.waveBytes -/
def impl_waveBytes.ms : List Mode := [.lend]
def impl_waveBytes.as : List VSh := [.agg [.int .i64, .sl false false 3, .sl false false 51]]
def impl_waveBytes.rs : RSh := ⟨[.one (.b (.b (.b (.b (.sl true true 5)))))], [none]⟩
noncomputable def impl_waveBytes.gs (δ : Type) : List (Nat × Callee (GT tab) δ) := [(94, calleeS tab impl_bitsBytes.ms impl_bitsBytes.as impl_bitsBytes.rs impl_bitsBytes.fn)]
theorem impl_waveBytes.gok (δ : Type) : AllCon Try.prog tab (impl_waveBytes.gs δ) := .cons impl_bitsBytes.con (.nil)
noncomputable def impl_waveBytes.c : Ctx (GT tab) (KT tab) (ResT tab impl_waveBytes.rs) := { X := XT tab, ty := tyOf tys, inner := fun _ => true, keep := keepOf 0 impl_waveBytes.ms, cuts := [], live := liveOf [(3, [3, 7, 8, 9])], G := getG (impl_waveBytes.gs _) }
noncomputable def impl_waveBytes.b : Code := bodyOf Try.f68
noncomputable def impl_waveBytes (x0 : Int × (List Int) × (List (Int × (List Int)))) : Option (List Int) := callW impl_waveBytes.c (fiOf (GT tab) Try.f68 impl_waveBytes.ms) impl_waveBytes.b (decRes tab impl_waveBytes.rs) (encArgs tab impl_waveBytes.as x0)
theorem impl_waveBytes.fok : FnOk Try.prog 68 Try.f68 impl_waveBytes.ms impl_waveBytes.b := ⟨Try.func68, by kernel_rfl, by kernel_rfl⟩
noncomputable def impl_waveBytes.fn : Args tab impl_waveBytes.as → Option (ResT tab impl_waveBytes.rs) := fun x => impl_waveBytes x
theorem impl_waveBytes.con {δ : Type} : Con Try.prog (KT tab) 68 (calleeS (β := δ) tab impl_waveBytes.ms impl_waveBytes.as impl_waveBytes.rs impl_waveBytes.fn) := con_shape (c := impl_waveBytes.c) mixed tysOk (getG_con (impl_waveBytes.gok _)) impl_waveBytes.fok rfl rfl (fun _ => rfl)
noncomputable def impl_waveBytes_l0 (v0 : List (Int × (List Int))) (v1 : Int) (v2 : Int) (v3 : List Int) : Option (List Int) := Lw impl_waveBytes.c (finish impl_waveBytes.c (fiOf (GT tab) Try.f68 impl_waveBytes.ms) (decRes tab impl_waveBytes.rs)) ((loops impl_waveBytes.c.cuts 1000 impl_waveBytes.b []).getD 0 []) { slots := [.undef, .undef, .undef, .sl 0 0, .undef, .undef, .undef, .vs false 51 v0, .int .i64 v1, .int .i64 v2, .undef, .undef, .undef, .undef, .undef, .undef, .undef, .undef, .undef], loc := locOf [.row 0 true 5 v3], nx := 1 }
theorem impl_waveBytes.eq (x0 : Int × (List Int) × (List (Int × (List Int)))) : impl_waveBytes x0 =
    impl_waveBytes_l0 x0.2.2 (x0.2.2.length : Int) (0 : Int) ([] : List Int) := by kernel_rfl
theorem impl_waveBytes_l0.eq (v0 : List (Int × (List Int))) (v1 : Int) (v2 : Int) (v3 : List Int) : impl_waveBytes_l0 v0 v1 v2 v3 =
    bif decide (v2 < v1) then
      (at? v0 v2).bind fun y1 =>
      (impl_bitsBytes (y1.1, y1.2)).bind fun y2 =>
      bif decide ((v3.length + y2.length) * 1 ≤ 140737488355328) then
        impl_waveBytes_l0 v0 v1 (IntKind.i64.wrap (v2 + (1 : Int))) (v3 ++ y2)
      else
        none
    else
      some v3 := (Lw_eq tysOk (getG_con (impl_waveBytes.gok _)) _ _).trans (by kernel_rfl)

/-! ### impl_WaveBytes: loop.example/g00688/impl.WaveBytes -/
def impl_WaveBytes.ms : List Mode := [.lend]
def impl_WaveBytes.as : List VSh := [.agg [.int .i64, .sl false false 3, .sl false false 51]]
def impl_WaveBytes.rs : RSh := ⟨[.one (.b (.b (.b (.b (.sl true true 5)))))], [none]⟩
noncomputable def impl_WaveBytes.gs (δ : Type) : List (Nat × Callee (GT tab) δ) := [(67, calleeS tab impl_WaveOk.ms impl_WaveOk.as impl_WaveOk.rs impl_WaveOk.fn), (68, calleeS tab impl_waveBytes.ms impl_waveBytes.as impl_waveBytes.rs impl_waveBytes.fn)]
theorem impl_WaveBytes.gok (δ : Type) : AllCon Try.prog tab (impl_WaveBytes.gs δ) := .cons impl_WaveOk.con (.cons impl_waveBytes.con (.nil))
noncomputable def impl_WaveBytes.c : Ctx (GT tab) (KT tab) (ResT tab impl_WaveBytes.rs) := { X := XT tab, ty := tyOf tys, inner := fun _ => true, keep := keepOf 0 impl_WaveBytes.ms, cuts := [], live := liveOf [], G := getG (impl_WaveBytes.gs _) }
noncomputable def impl_WaveBytes.b : Code := bodyOf Try.f14
noncomputable def impl_WaveBytes (x0 : Int × (List Int) × (List (Int × (List Int)))) : Option (List Int) := callW impl_WaveBytes.c (fiOf (GT tab) Try.f14 impl_WaveBytes.ms) impl_WaveBytes.b (decRes tab impl_WaveBytes.rs) (encArgs tab impl_WaveBytes.as x0)
theorem impl_WaveBytes.fok : FnOk Try.prog 14 Try.f14 impl_WaveBytes.ms impl_WaveBytes.b := ⟨Try.func14, by kernel_rfl, by kernel_rfl⟩
noncomputable def impl_WaveBytes.fn : Args tab impl_WaveBytes.as → Option (ResT tab impl_WaveBytes.rs) := fun x => impl_WaveBytes x
theorem impl_WaveBytes.con {δ : Type} : Con Try.prog (KT tab) 14 (calleeS (β := δ) tab impl_WaveBytes.ms impl_WaveBytes.as impl_WaveBytes.rs impl_WaveBytes.fn) := con_shape (c := impl_WaveBytes.c) mixed tysOk (getG_con (impl_WaveBytes.gok _)) impl_WaveBytes.fok rfl rfl (fun _ => rfl)
theorem impl_WaveBytes.eq (x0 : Int × (List Int) × (List (Int × (List Int)))) : impl_WaveBytes x0 =
    (impl_WaveOk (x0.1, x0.2.1, x0.2.2)).bind fun y1 =>
    bif !y1 then
      some ([] : List Int)
    else
      (impl_waveBytes (x0.1, x0.2.1, x0.2.2)).bind fun y2 =>
      some y2 := by kernel_rfl

end Go.Ev.W
