/- What functions of the program come to. -/
import Derived.Test.YtddhebliggkadaaGreatPcT
import Derived.Test.YtddhebliggkadaaGreatPc1
import Derived.Test.YtddhebliggkadaaGreatPc12
import Derived.Test.YtddhebliggkadaaGreatPc2
namespace Go.Ev.W
open Go.Ev Go.Proofs
set_option maxRecDepth 100000
set_option linter.unusedVariables false

/-! ### spec_FmLocate: loop.example/g00688/spec.FmLocate -/
def spec_FmLocate.ms : List Mode := [.lend, .lend]
def spec_FmLocate.as : List VSh := [.agg [.int .i64, .int .i64, .int .i64, .sl false false 3, .sl false false 30, .sl false false 3, .int .i64, .sl false false 126, .int .i64, .int .i64, .int .i64, .sl false false 126, .int .i64, .int .i64, .int .i64, .sl false false 126], .one (.b (.b (.b (.b (.sl false false 5)))))]
def spec_FmLocate.rs : RSh := ⟨[.one (.b (.b (.b (.b (.sl true true 3)))))], [none, none]⟩
noncomputable def spec_FmLocate.gs (δ : Type) : List (Nat × Callee (GT tab) δ) := [(60, calleeS tab spec_l09Text.ms spec_l09Text.as spec_l09Text.rs spec_l09Text.fn), (95, calleeS tab spec_Occurs.ms spec_Occurs.as spec_Occurs.rs spec_Occurs.fn)]
theorem spec_FmLocate.gok (δ : Type) : AllCon Tryz.prog tab (spec_FmLocate.gs δ) := .cons spec_l09Text.con (.cons spec_Occurs.con (.nil))
noncomputable def spec_FmLocate.c : Ctx (GT tab) (KT tab) (ResT tab spec_FmLocate.rs) := { X := XT tab, ty := tyOf tys, inner := fun _ => true, keep := keepOf 0 spec_FmLocate.ms, cuts := [], live := liveOf [], G := getG (spec_FmLocate.gs _) }
noncomputable def spec_FmLocate.b : Code := bodyOf Tryz.f43
noncomputable def spec_FmLocate (x0 : Int × Int × Int × (List Int) × (List (Int × (List Int))) × (List Int) × Int × (List Int) × Int × Int × Int × (List Int) × Int × Int × Int × (List Int)) (x1 : List Int) : Option (List Int) := callW spec_FmLocate.c (fiOf (GT tab) Tryz.f43 spec_FmLocate.ms) spec_FmLocate.b (decRes tab spec_FmLocate.rs) (encArgs tab spec_FmLocate.as (x0, x1))
theorem spec_FmLocate.fok : FnOk Tryz.prog 43 Tryz.f43 spec_FmLocate.ms spec_FmLocate.b := ⟨Tryz.func43, by kernel_rfl, by kernel_rfl⟩
noncomputable def spec_FmLocate.fn : Args tab spec_FmLocate.as → Option (ResT tab spec_FmLocate.rs) := fun x => spec_FmLocate x.1 x.2
theorem spec_FmLocate.con {δ : Type} : Con Tryz.prog (KT tab) 43 (calleeS (β := δ) tab spec_FmLocate.ms spec_FmLocate.as spec_FmLocate.rs spec_FmLocate.fn) := con_shape (c := spec_FmLocate.c) mixed tysOk (getG_con (spec_FmLocate.gok _)) spec_FmLocate.fok rfl rfl (fun _ => rfl)
theorem spec_FmLocate.eq (x0 : Int × Int × Int × (List Int) × (List (Int × (List Int))) × (List Int) × Int × (List Int) × Int × Int × Int × (List Int) × Int × Int × Int × (List Int)) (x1 : List Int) : spec_FmLocate x0 x1 =
    (spec_l09Text (x0.1, x0.2.1, x0.2.2.1, x0.2.2.2.1, x0.2.2.2.2.1, x0.2.2.2.2.2.1, x0.2.2.2.2.2.2.1, x0.2.2.2.2.2.2.2.1, x0.2.2.2.2.2.2.2.2.1, x0.2.2.2.2.2.2.2.2.2.1, x0.2.2.2.2.2.2.2.2.2.2.1, x0.2.2.2.2.2.2.2.2.2.2.2.1, x0.2.2.2.2.2.2.2.2.2.2.2.2.1, x0.2.2.2.2.2.2.2.2.2.2.2.2.2.1, x0.2.2.2.2.2.2.2.2.2.2.2.2.2.2.1, x0.2.2.2.2.2.2.2.2.2.2.2.2.2.2.2)).bind fun y1 =>
    bif !y1.2 then
      some ([] : List Int)
    else
      (spec_Occurs y1.1 x1).bind fun y2 =>
      some y2 := by kernel_rfl

/-! ### impl_TextOk: loop.example/g00688/impl.TextOk -/
def impl_TextOk.ms : List Mode := [.lend]
def impl_TextOk.as : List VSh := [.one (.b (.b (.b (.b (.sl false false 5)))))]
def impl_TextOk.rs : RSh := ⟨[.one (.b (.b (.b (.b (.bool)))))], [none]⟩
noncomputable def impl_TextOk.gs (δ : Type) : List (Nat × Callee (GT tab) δ) := []
theorem impl_TextOk.gok (δ : Type) : AllCon Tryz.prog tab (impl_TextOk.gs δ) := .nil
noncomputable def impl_TextOk.c : Ctx (GT tab) (KT tab) (ResT tab impl_TextOk.rs) := { X := XT tab, ty := tyOf tys, inner := fun _ => true, keep := keepOf 0 impl_TextOk.ms, cuts := [], live := liveOf [], G := getG (impl_TextOk.gs _) }
noncomputable def impl_TextOk.b : Code := bodyOf Tryz.f145
noncomputable def impl_TextOk (x0 : List Int) : Option (Bool) := callW impl_TextOk.c (fiOf (GT tab) Tryz.f145 impl_TextOk.ms) impl_TextOk.b (decRes tab impl_TextOk.rs) (encArgs tab impl_TextOk.as x0)
theorem impl_TextOk.fok : FnOk Tryz.prog 145 Tryz.f145 impl_TextOk.ms impl_TextOk.b := ⟨Tryz.func145, by kernel_rfl, by kernel_rfl⟩
noncomputable def impl_TextOk.fn : Args tab impl_TextOk.as → Option (ResT tab impl_TextOk.rs) := fun x => impl_TextOk x
theorem impl_TextOk.con {δ : Type} : Con Tryz.prog (KT tab) 145 (calleeS (β := δ) tab impl_TextOk.ms impl_TextOk.as impl_TextOk.rs impl_TextOk.fn) := con_shape (c := impl_TextOk.c) mixed tysOk (getG_con (impl_TextOk.gok _)) impl_TextOk.fok rfl rfl (fun _ => rfl)
theorem impl_TextOk.eq (x0 : List Int) : impl_TextOk x0 =
    some (decide ((x0.length : Int) ≤ (300 : Int))) := by kernel_rfl

/-! ### impl_Occurs: loop.example/g00688/impl.Occurs -/
def impl_Occurs.ms : List Mode := [.lend, .lend]
def impl_Occurs.as : List VSh := [.one (.b (.b (.b (.b (.sl false false 5))))), .one (.b (.b (.b (.b (.sl false false 5)))))]
def impl_Occurs.rs : RSh := ⟨[.one (.b (.b (.b (.b (.sl true true 3)))))], [none, none]⟩
noncomputable def impl_Occurs.gs (δ : Type) : List (Nat × Callee (GT tab) δ) := [(122, calleeS tab bytes_HasPrefix.ms bytes_HasPrefix.as bytes_HasPrefix.rs bytes_HasPrefix.fn), (145, calleeS tab impl_TextOk.ms impl_TextOk.as impl_TextOk.rs impl_TextOk.fn)]
theorem impl_Occurs.gok (δ : Type) : AllCon Tryz.prog tab (impl_Occurs.gs δ) := .cons bytes_HasPrefix.con (.cons impl_TextOk.con (.nil))
noncomputable def impl_Occurs.c : Ctx (GT tab) (KT tab) (ResT tab impl_Occurs.rs) := { X := XT tab, ty := tyOf tys, inner := fun _ => true, keep := keepOf 0 impl_Occurs.ms, cuts := [], live := liveOf [(5, [0, 1, 5, 12, 13])], G := getG (impl_Occurs.gs _) }
noncomputable def impl_Occurs.b : Code := bodyOf Tryz.f96
noncomputable def impl_Occurs (x0 : List Int) (x1 : List Int) : Option (List Int) := callW impl_Occurs.c (fiOf (GT tab) Tryz.f96 impl_Occurs.ms) impl_Occurs.b (decRes tab impl_Occurs.rs) (encArgs tab impl_Occurs.as (x0, x1))
theorem impl_Occurs.fok : FnOk Tryz.prog 96 Tryz.f96 impl_Occurs.ms impl_Occurs.b := ⟨Tryz.func96, by kernel_rfl, by kernel_rfl⟩
noncomputable def impl_Occurs.fn : Args tab impl_Occurs.as → Option (ResT tab impl_Occurs.rs) := fun x => impl_Occurs x.1 x.2
theorem impl_Occurs.con {δ : Type} : Con Tryz.prog (KT tab) 96 (calleeS (β := δ) tab impl_Occurs.ms impl_Occurs.as impl_Occurs.rs impl_Occurs.fn) := con_shape (c := impl_Occurs.c) mixed tysOk (getG_con (impl_Occurs.gok _)) impl_Occurs.fok rfl rfl (fun _ => rfl)
noncomputable def impl_Occurs_l0 (v0 : List Int) (v1 : List Int) (v2 : Int) (v3 : Int) (v4 : List Int) : Option (List Int) := Lw impl_Occurs.c (finish impl_Occurs.c (fiOf (GT tab) Tryz.f96 impl_Occurs.ms) (decRes tab impl_Occurs.rs)) ((loops impl_Occurs.c.cuts 1000 impl_Occurs.b []).getD 0 []) { slots := [.vs false 5 v0, .vs false 5 v1, .undef, .undef, .undef, .sl 0 0, .undef, .undef, .undef, .undef, .undef, .undef, .int .i64 v2, .int .i64 v3, .undef, .undef, .undef, .undef, .undef, .undef, .undef, .undef, .undef, .undef, .undef, .undef, .undef], loc := locOf [.row 0 true 3 v4], nx := 1 }
theorem impl_Occurs.eq (x0 : List Int) (x1 : List Int) : impl_Occurs x0 x1 =
    (impl_TextOk x0).bind fun y1 =>
    bif !y1 then
      some ([] : List Int)
    else
      impl_Occurs_l0 x0 x1 (IntKind.i64.wrap ((x0.length : Int) + (1 : Int))) (0 : Int) ([] : List Int) := by kernel_rfl
theorem impl_Occurs_l0.eq (v0 : List Int) (v1 : List Int) (v2 : Int) (v3 : Int) (v4 : List Int) : impl_Occurs_l0 v0 v1 v2 v3 v4 =
    bif decide (v3 < v2) then
      bif decide (0 ≤ v3 ∧ v3 ≤ ((v0.length : Nat) : Int)) then
        (bytes_HasPrefix ((v0.take v0.length).drop v3.toNat) v1).bind fun y1 =>
        bif y1 then
          bif decide ((v4.length + ([v3] : List Int).length) * 8 ≤ 140737488355328) then
            impl_Occurs_l0 v0 v1 v2 (IntKind.i64.wrap (v3 + (1 : Int))) (v4 ++ ([v3] : List Int))
          else
            none
        else
          impl_Occurs_l0 v0 v1 v2 (IntKind.i64.wrap (v3 + (1 : Int))) v4
      else
        none
    else
      some v4 := (Lw_eq tysOk (getG_con (impl_Occurs.gok _)) _ _).trans (by kernel_rfl)

/-! ### impl_FmLocate: loop.example/g00688/impl.FmLocate -/
def impl_FmLocate.ms : List Mode := [.lend, .lend]
def impl_FmLocate.as : List VSh := [.agg [.int .i64, .int .i64, .int .i64, .sl false false 3, .sl false false 30, .sl false false 3, .int .i64, .sl false false 126, .int .i64, .int .i64, .int .i64, .sl false false 126, .int .i64, .int .i64, .int .i64, .sl false false 126], .one (.b (.b (.b (.b (.sl false false 5)))))]
def impl_FmLocate.rs : RSh := ⟨[.one (.b (.b (.b (.b (.sl true true 3)))))], [none, none]⟩
noncomputable def impl_FmLocate.gs (δ : Type) : List (Nat × Callee (GT tab) δ) := [(58, calleeS tab impl_Fm_read.ms impl_Fm_read.as impl_Fm_read.rs impl_Fm_read.fn), (96, calleeS tab impl_Occurs.ms impl_Occurs.as impl_Occurs.rs impl_Occurs.fn)]
theorem impl_FmLocate.gok (δ : Type) : AllCon Tryz.prog tab (impl_FmLocate.gs δ) := .cons impl_Fm_read.con (.cons impl_Occurs.con (.nil))
noncomputable def impl_FmLocate.c : Ctx (GT tab) (KT tab) (ResT tab impl_FmLocate.rs) := { X := XT tab, ty := tyOf tys, inner := fun _ => true, keep := keepOf 0 impl_FmLocate.ms, cuts := [], live := liveOf [], G := getG (impl_FmLocate.gs _) }
noncomputable def impl_FmLocate.b : Code := bodyOf Tryz.f44
noncomputable def impl_FmLocate (x0 : Int × Int × Int × (List Int) × (List (Int × (List Int))) × (List Int) × Int × (List Int) × Int × Int × Int × (List Int) × Int × Int × Int × (List Int)) (x1 : List Int) : Option (List Int) := callW impl_FmLocate.c (fiOf (GT tab) Tryz.f44 impl_FmLocate.ms) impl_FmLocate.b (decRes tab impl_FmLocate.rs) (encArgs tab impl_FmLocate.as (x0, x1))
theorem impl_FmLocate.fok : FnOk Tryz.prog 44 Tryz.f44 impl_FmLocate.ms impl_FmLocate.b := ⟨Tryz.func44, by kernel_rfl, by kernel_rfl⟩
noncomputable def impl_FmLocate.fn : Args tab impl_FmLocate.as → Option (ResT tab impl_FmLocate.rs) := fun x => impl_FmLocate x.1 x.2
theorem impl_FmLocate.con {δ : Type} : Con Tryz.prog (KT tab) 44 (calleeS (β := δ) tab impl_FmLocate.ms impl_FmLocate.as impl_FmLocate.rs impl_FmLocate.fn) := con_shape (c := impl_FmLocate.c) mixed tysOk (getG_con (impl_FmLocate.gok _)) impl_FmLocate.fok rfl rfl (fun _ => rfl)
theorem impl_FmLocate.eq (x0 : Int × Int × Int × (List Int) × (List (Int × (List Int))) × (List Int) × Int × (List Int) × Int × Int × Int × (List Int) × Int × Int × Int × (List Int)) (x1 : List Int) : impl_FmLocate x0 x1 =
    (impl_Fm_read (x0.1, x0.2.1, x0.2.2.1, x0.2.2.2.1, x0.2.2.2.2.1, x0.2.2.2.2.2.1, x0.2.2.2.2.2.2.1, x0.2.2.2.2.2.2.2.1, x0.2.2.2.2.2.2.2.2.1, x0.2.2.2.2.2.2.2.2.2.1, x0.2.2.2.2.2.2.2.2.2.2.1, x0.2.2.2.2.2.2.2.2.2.2.2.1, x0.2.2.2.2.2.2.2.2.2.2.2.2.1, x0.2.2.2.2.2.2.2.2.2.2.2.2.2.1, x0.2.2.2.2.2.2.2.2.2.2.2.2.2.2.1, x0.2.2.2.2.2.2.2.2.2.2.2.2.2.2.2)).bind fun y1 =>
    bif !y1.2 then
      some ([] : List Int)
    else
      (impl_Occurs y1.1 x1).bind fun y2 =>
      some y2 := by kernel_rfl

/-! ### laws_heldIntS: loop.example/g00688/laws.heldIntS -/
def laws_heldIntS.ms : List Mode := [.lend, .lend]
def laws_heldIntS.as : List VSh := [.one (.b (.b (.b (.b (.sl false false 3))))), .one (.b (.b (.b (.b (.int .i64)))))]
def laws_heldIntS.rs : RSh := ⟨[.one (.b (.b (.b (.b (.int .i64)))))], [none, none]⟩
noncomputable def laws_heldIntS.gs (δ : Type) : List (Nat × Callee (GT tab) δ) := []
theorem laws_heldIntS.gok (δ : Type) : AllCon Tryz.prog tab (laws_heldIntS.gs δ) := .nil
noncomputable def laws_heldIntS.c : Ctx (GT tab) (KT tab) (ResT tab laws_heldIntS.rs) := { X := XT tab, ty := tyOf tys, inner := fun _ => true, keep := keepOf 0 laws_heldIntS.ms, cuts := [], live := liveOf [(2, [0, 1, 5])], G := getG (laws_heldIntS.gs _) }
noncomputable def laws_heldIntS.b : Code := bodyOf Tryz.f47
noncomputable def laws_heldIntS (x0 : List Int) (x1 : Int) : Option (Int) := callW laws_heldIntS.c (fiOf (GT tab) Tryz.f47 laws_heldIntS.ms) laws_heldIntS.b (decRes tab laws_heldIntS.rs) (encArgs tab laws_heldIntS.as (x0, x1))
theorem laws_heldIntS.fok : FnOk Tryz.prog 47 Tryz.f47 laws_heldIntS.ms laws_heldIntS.b := ⟨Tryz.func47, by kernel_rfl, by kernel_rfl⟩
noncomputable def laws_heldIntS.fn : Args tab laws_heldIntS.as → Option (ResT tab laws_heldIntS.rs) := fun x => laws_heldIntS x.1 x.2
theorem laws_heldIntS.con {δ : Type} : Con Tryz.prog (KT tab) 47 (calleeS (β := δ) tab laws_heldIntS.ms laws_heldIntS.as laws_heldIntS.rs laws_heldIntS.fn) := con_shape (c := laws_heldIntS.c) mixed tysOk (getG_con (laws_heldIntS.gok _)) laws_heldIntS.fok rfl rfl (fun _ => rfl)
noncomputable def laws_heldIntS_l0 (v0 : List Int) (v1 : Int) (v2 : Int) : Option (Int) := Lw laws_heldIntS.c (finish laws_heldIntS.c (fiOf (GT tab) Tryz.f47 laws_heldIntS.ms) (decRes tab laws_heldIntS.rs)) ((loops laws_heldIntS.c.cuts 1000 laws_heldIntS.b []).getD 0 []) { slots := [.vs false 3 v0, .int .i64 v1, .undef, .undef, .undef, .int .i64 v2, .undef, .undef, .undef, .undef, .undef, .undef, .undef, .undef, .undef, .undef, .undef, .undef, .undef, .undef, .undef], loc := locOf [], nx := 0 }
theorem laws_heldIntS.eq (x0 : List Int) (x1 : Int) : laws_heldIntS x0 x1 =
    laws_heldIntS_l0 x0 x1 (0 : Int) := by kernel_rfl
theorem laws_heldIntS_l0.eq (v0 : List Int) (v1 : Int) (v2 : Int) : laws_heldIntS_l0 v0 v1 v2 =
    bif decide (v2 < (v0.length : Int)) then
      (at? v0 v2).bind fun y1 =>
      bif y1 != v1 then
        some (-1 : Int)
      else
        laws_heldIntS_l0 v0 (IntKind.i64.wrap (v1 + (1 : Int))) (IntKind.i64.wrap (v2 + (1 : Int)))
    else
      some v1 := (Lw_eq tysOk (getG_con (laws_heldIntS.gok _)) _ _).trans (by kernel_rfl)

end Go.Ev.W
