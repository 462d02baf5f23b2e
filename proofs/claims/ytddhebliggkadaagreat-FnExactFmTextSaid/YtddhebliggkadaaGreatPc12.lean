/- What functions of the program come to. -/
import Derived.Test.YtddhebliggkadaaGreatPcT
import Derived.Test.YtddhebliggkadaaGreatPc1
namespace Go.Ev.W
open Go.Ev Go.Proofs
set_option maxRecDepth 100000
set_option linter.unusedVariables false

/-! ### laws_toByteS: loop.example/g00688/laws.toByteS -/
def laws_toByteS.ms : List Mode := [.lend]
def laws_toByteS.as : List VSh := [.one (.b (.b (.b (.b (.sl false false 5)))))]
def laws_toByteS.rs : RSh := ⟨[.one (.b (.b (.b (.b (.sl true true 5)))))], [none]⟩
noncomputable def laws_toByteS.gs (δ : Type) : List (Nat × Callee (GT tab) δ) := []
theorem laws_toByteS.gok (δ : Type) : AllCon Tryz.prog tab (laws_toByteS.gs δ) := .nil
noncomputable def laws_toByteS.c : Ctx (GT tab) (KT tab) (ResT tab laws_toByteS.rs) := { X := XT tab, ty := tyOf tys, inner := fun _ => true, keep := keepOf 0 laws_toByteS.ms, cuts := [], live := liveOf [(3, [0, 3, 4])], G := getG (laws_toByteS.gs _) }
noncomputable def laws_toByteS.b : Code := bodyOf Tryz.f35
noncomputable def laws_toByteS (x0 : List Int) : Option (List Int) := callW laws_toByteS.c (fiOf (GT tab) Tryz.f35 laws_toByteS.ms) laws_toByteS.b (decRes tab laws_toByteS.rs) (encArgs tab laws_toByteS.as x0)
theorem laws_toByteS.fok : FnOk Tryz.prog 35 Tryz.f35 laws_toByteS.ms laws_toByteS.b := ⟨Tryz.func35, by kernel_rfl, by kernel_rfl⟩
noncomputable def laws_toByteS.fn : Args tab laws_toByteS.as → Option (ResT tab laws_toByteS.rs) := fun x => laws_toByteS x
theorem laws_toByteS.con {δ : Type} : Con Tryz.prog (KT tab) 35 (calleeS (β := δ) tab laws_toByteS.ms laws_toByteS.as laws_toByteS.rs laws_toByteS.fn) := con_shape (c := laws_toByteS.c) mixed tysOk (getG_con (laws_toByteS.gok _)) laws_toByteS.fok rfl rfl (fun _ => rfl)
noncomputable def laws_toByteS_l0 (v0 : List Int) (v1 : Int) (v2 : List Int) : Option (List Int) := Lw laws_toByteS.c (finish laws_toByteS.c (fiOf (GT tab) Tryz.f35 laws_toByteS.ms) (decRes tab laws_toByteS.rs)) ((loops laws_toByteS.c.cuts 1000 laws_toByteS.b []).getD 0 []) { slots := [.vs false 5 v0, .undef, .undef, .sl 0 0, .int .i64 v1, .undef, .undef, .undef, .undef, .undef, .undef, .undef, .undef, .undef, .undef, .undef, .undef, .undef, .undef, .undef, .undef, .undef], loc := locOf [.row 0 true 5 v2], nx := 1 }
theorem laws_toByteS.eq (x0 : List Int) : laws_toByteS x0 =
    bif decide ((0 : Int) ≤ (x0.length : Int)) && decide (((x0.length : Int).toNat) * 1 ≤ 140737488355328) then
      laws_toByteS_l0 x0 (0 : Int) (List.replicate ((x0.length : Int).toNat) (0 : Int))
    else
      none := by kernel_rfl
theorem laws_toByteS_l0.eq (v0 : List Int) (v1 : Int) (v2 : List Int) : laws_toByteS_l0 v0 v1 v2 =
    bif decide (v1 < (v0.length : Int)) then
      (at? v0 v1).bind fun y1 =>
      (at? v2 v1).bind fun y2 =>
      v2[v1.toNat]?.bind fun y3 =>
      laws_toByteS_l0 v0 (IntKind.i64.wrap (v1 + (1 : Int))) (v2.set v1.toNat y1)
    else
      some v2 := (Lw_eq tysOk (getG_con (laws_toByteS.gok _)) _ _).trans (by kernel_rfl)

/-! ### spec_l05Begins: loop.example/g00688/spec.l05Begins -/
def spec_l05Begins.ms : List Mode := [.lend, .lend]
def spec_l05Begins.as : List VSh := [.one (.b (.b (.b (.b (.sl false false 5))))), .one (.b (.b (.b (.b (.sl false false 5)))))]
def spec_l05Begins.rs : RSh := ⟨[.one (.b (.b (.b (.b (.bool)))))], [none, none]⟩
noncomputable def spec_l05Begins.gs (δ : Type) : List (Nat × Callee (GT tab) δ) := []
theorem spec_l05Begins.gok (δ : Type) : AllCon Tryz.prog tab (spec_l05Begins.gs δ) := .nil
noncomputable def spec_l05Begins.c : Ctx (GT tab) (KT tab) (ResT tab spec_l05Begins.rs) := { X := XT tab, ty := tyOf tys, inner := fun _ => true, keep := keepOf 0 spec_l05Begins.ms, cuts := [], live := liveOf [], G := getG (spec_l05Begins.gs _) }
noncomputable def spec_l05Begins.b : Code := bodyOf Tryz.f144
noncomputable def spec_l05Begins (x0 : List Int) (x1 : List Int) : Option (Bool) := callW spec_l05Begins.c (fiOf (GT tab) Tryz.f144 spec_l05Begins.ms) spec_l05Begins.b (decRes tab spec_l05Begins.rs) (encArgs tab spec_l05Begins.as (x0, x1))
theorem spec_l05Begins.fok : FnOk Tryz.prog 144 Tryz.f144 spec_l05Begins.ms spec_l05Begins.b := ⟨Tryz.func144, by kernel_rfl, by kernel_rfl⟩
noncomputable def spec_l05Begins.fn : Args tab spec_l05Begins.as → Option (ResT tab spec_l05Begins.rs) := fun x => spec_l05Begins x.1 x.2
theorem spec_l05Begins.con {δ : Type} : Con Tryz.prog (KT tab) 144 (calleeS (β := δ) tab spec_l05Begins.ms spec_l05Begins.as spec_l05Begins.rs spec_l05Begins.fn) := con_shape (c := spec_l05Begins.c) mixed tysOk (getG_con (spec_l05Begins.gok _)) spec_l05Begins.fok rfl rfl (fun _ => rfl)
theorem spec_l05Begins.eq (x0 : List Int) (x1 : List Int) : spec_l05Begins x0 x1 =
    bif decide ((x1.length : Int) ≤ (x0.length : Int)) then
      bif decide (0 ≤ (x1.length : Int) ∧ (x1.length : Int) ≤ ((x0.length : Nat) : Int)) then
        some ((strOf (((x0.take ((x1.length : Int).toNat)).drop 0).map fun x => x)).toList == (strOf (x1.map fun x => x)).toList)
      else
        none
    else
      some false := by kernel_rfl

/-! ### spec_Occurs: loop.example/g00688/spec.Occurs -/
def spec_Occurs.ms : List Mode := [.lend, .lend]
def spec_Occurs.as : List VSh := [.one (.b (.b (.b (.b (.sl false false 5))))), .one (.b (.b (.b (.b (.sl false false 5)))))]
def spec_Occurs.rs : RSh := ⟨[.one (.b (.b (.b (.b (.sl true true 3)))))], [none, none]⟩
noncomputable def spec_Occurs.gs (δ : Type) : List (Nat × Callee (GT tab) δ) := [(130, calleeS tab spec_TextOk.ms spec_TextOk.as spec_TextOk.rs spec_TextOk.fn), (144, calleeS tab spec_l05Begins.ms spec_l05Begins.as spec_l05Begins.rs spec_l05Begins.fn)]
theorem spec_Occurs.gok (δ : Type) : AllCon Tryz.prog tab (spec_Occurs.gs δ) := .cons spec_TextOk.con (.cons spec_l05Begins.con (.nil))
noncomputable def spec_Occurs.c : Ctx (GT tab) (KT tab) (ResT tab spec_Occurs.rs) := { X := XT tab, ty := tyOf tys, inner := fun _ => true, keep := keepOf 0 spec_Occurs.ms, cuts := [5], live := liveOf [(3, [0, 1, 5, 6]), (5, [0, 1, 5, 6])], G := getG (spec_Occurs.gs _) }
noncomputable def spec_Occurs.b : Code := bodyOf Tryz.f95
noncomputable def spec_Occurs (x0 : List Int) (x1 : List Int) : Option (List Int) := callW spec_Occurs.c (fiOf (GT tab) Tryz.f95 spec_Occurs.ms) spec_Occurs.b (decRes tab spec_Occurs.rs) (encArgs tab spec_Occurs.as (x0, x1))
theorem spec_Occurs.fok : FnOk Tryz.prog 95 Tryz.f95 spec_Occurs.ms spec_Occurs.b := ⟨Tryz.func95, by kernel_rfl, by kernel_rfl⟩
noncomputable def spec_Occurs.fn : Args tab spec_Occurs.as → Option (ResT tab spec_Occurs.rs) := fun x => spec_Occurs x.1 x.2
theorem spec_Occurs.con {δ : Type} : Con Tryz.prog (KT tab) 95 (calleeS (β := δ) tab spec_Occurs.ms spec_Occurs.as spec_Occurs.rs spec_Occurs.fn) := con_shape (c := spec_Occurs.c) mixed tysOk (getG_con (spec_Occurs.gok _)) spec_Occurs.fok rfl rfl (fun _ => rfl)
noncomputable def spec_Occurs_l0 (v0 : List Int) (v1 : List Int) (v2 : Int) (v3 : List Int) : Option (List Int) := Lw spec_Occurs.c (finish spec_Occurs.c (fiOf (GT tab) Tryz.f95 spec_Occurs.ms) (decRes tab spec_Occurs.rs)) ((loops spec_Occurs.c.cuts 1000 spec_Occurs.b []).getD 0 []) { slots := [.vs false 5 v0, .vs false 5 v1, .undef, .undef, .undef, .sl 0 0, .int .i64 v2, .undef, .undef, .undef, .undef, .undef, .undef, .undef, .undef, .undef, .undef, .undef, .undef, .undef, .undef, .undef, .undef, .undef, .undef, .undef, .undef, .undef], loc := locOf [.row 0 true 3 v3], nx := 1 }
noncomputable def spec_Occurs_l1 (v0 : List Int) (v1 : List Int) (v2 : Int) (v3 : List Int) : Option (List Int) := Lw spec_Occurs.c (finish spec_Occurs.c (fiOf (GT tab) Tryz.f95 spec_Occurs.ms) (decRes tab spec_Occurs.rs)) ((loops spec_Occurs.c.cuts 1000 spec_Occurs.b []).getD 1 []) { slots := [.vs false 5 v0, .vs false 5 v1, .undef, .undef, .undef, .sl 0 0, .int .i64 v2, .undef, .undef, .undef, .undef, .undef, .undef, .undef, .undef, .undef, .undef, .undef, .undef, .undef, .undef, .undef, .undef, .undef, .undef, .undef, .undef, .undef], loc := locOf [.row 0 true 3 v3], nx := 1 }
theorem spec_Occurs.eq (x0 : List Int) (x1 : List Int) : spec_Occurs x0 x1 =
    spec_Occurs_l0 x0 x1 (0 : Int) ([] : List Int) := by kernel_rfl
theorem spec_Occurs_l0.eq (v0 : List Int) (v1 : List Int) (v2 : Int) (v3 : List Int) : spec_Occurs_l0 v0 v1 v2 v3 =
    (spec_TextOk v0).bind fun y1 =>
    bif y1 then
      bif decide (v2 ≤ (v0.length : Int)) then
        spec_Occurs_l1 v0 v1 v2 v3
      else
        some v3
    else
      some v3 := (Lw_eq tysOk (getG_con (spec_Occurs.gok _)) _ _).trans (by kernel_rfl)
theorem spec_Occurs_l1.eq (v0 : List Int) (v1 : List Int) (v2 : Int) (v3 : List Int) : spec_Occurs_l1 v0 v1 v2 v3 =
    bif decide (0 ≤ v2 ∧ v2 ≤ ((v0.length : Nat) : Int)) then
      (spec_l05Begins ((v0.take v0.length).drop v2.toNat) v1).bind fun y1 =>
      bif y1 then
        bif decide ((v3.length + ([v2] : List Int).length) * 8 ≤ 140737488355328) then
          spec_Occurs_l0 v0 v1 (IntKind.i64.wrap (v2 + (1 : Int))) (v3 ++ ([v2] : List Int))
        else
          none
      else
        spec_Occurs_l0 v0 v1 (IntKind.i64.wrap (v2 + (1 : Int))) v3
    else
      none := (Lw_eq tysOk (getG_con (spec_Occurs.gok _)) _ _).trans (by kernel_rfl)

/-! ### bytes_Equal: bytes.Equal -/
def bytes_Equal.ms : List Mode := [.lend, .lend]
def bytes_Equal.as : List VSh := [.one (.b (.b (.b (.b (.sl false false 5))))), .one (.b (.b (.b (.b (.sl false false 5)))))]
def bytes_Equal.rs : RSh := ⟨[.one (.b (.b (.b (.b (.bool)))))], [none, none]⟩
noncomputable def bytes_Equal.gs (δ : Type) : List (Nat × Callee (GT tab) δ) := []
theorem bytes_Equal.gok (δ : Type) : AllCon Tryz.prog tab (bytes_Equal.gs δ) := .nil
noncomputable def bytes_Equal.c : Ctx (GT tab) (KT tab) (ResT tab bytes_Equal.rs) := { X := XT tab, ty := tyOf tys, inner := fun _ => true, keep := keepOf 0 bytes_Equal.ms, cuts := [], live := liveOf [], G := getG (bytes_Equal.gs _) }
noncomputable def bytes_Equal.b : Code := bodyOf Tryz.f106
noncomputable def bytes_Equal (x0 : List Int) (x1 : List Int) : Option (Bool) := callW bytes_Equal.c (fiOf (GT tab) Tryz.f106 bytes_Equal.ms) bytes_Equal.b (decRes tab bytes_Equal.rs) (encArgs tab bytes_Equal.as (x0, x1))
theorem bytes_Equal.fok : FnOk Tryz.prog 106 Tryz.f106 bytes_Equal.ms bytes_Equal.b := ⟨Tryz.func106, by kernel_rfl, by kernel_rfl⟩
noncomputable def bytes_Equal.fn : Args tab bytes_Equal.as → Option (ResT tab bytes_Equal.rs) := fun x => bytes_Equal x.1 x.2
theorem bytes_Equal.con {δ : Type} : Con Tryz.prog (KT tab) 106 (calleeS (β := δ) tab bytes_Equal.ms bytes_Equal.as bytes_Equal.rs bytes_Equal.fn) := con_shape (c := bytes_Equal.c) mixed tysOk (getG_con (bytes_Equal.gok _)) bytes_Equal.fok rfl rfl (fun _ => rfl)
theorem bytes_Equal.eq (x0 : List Int) (x1 : List Int) : bytes_Equal x0 x1 =
    some ((strOf (x0.map fun x => x)).toList == (strOf (x1.map fun x => x)).toList) := by kernel_rfl

/-! ### bytes_HasPrefix: bytes.HasPrefix -/
def bytes_HasPrefix.ms : List Mode := [.lend, .lend]
def bytes_HasPrefix.as : List VSh := [.one (.b (.b (.b (.b (.sl false false 5))))), .one (.b (.b (.b (.b (.sl false false 5)))))]
def bytes_HasPrefix.rs : RSh := ⟨[.one (.b (.b (.b (.b (.bool)))))], [none, none]⟩
noncomputable def bytes_HasPrefix.gs (δ : Type) : List (Nat × Callee (GT tab) δ) := [(106, calleeS tab bytes_Equal.ms bytes_Equal.as bytes_Equal.rs bytes_Equal.fn)]
theorem bytes_HasPrefix.gok (δ : Type) : AllCon Tryz.prog tab (bytes_HasPrefix.gs δ) := .cons bytes_Equal.con (.nil)
noncomputable def bytes_HasPrefix.c : Ctx (GT tab) (KT tab) (ResT tab bytes_HasPrefix.rs) := { X := XT tab, ty := tyOf tys, inner := fun _ => true, keep := keepOf 0 bytes_HasPrefix.ms, cuts := [], live := liveOf [], G := getG (bytes_HasPrefix.gs _) }
noncomputable def bytes_HasPrefix.b : Code := bodyOf Tryz.f122
noncomputable def bytes_HasPrefix (x0 : List Int) (x1 : List Int) : Option (Bool) := callW bytes_HasPrefix.c (fiOf (GT tab) Tryz.f122 bytes_HasPrefix.ms) bytes_HasPrefix.b (decRes tab bytes_HasPrefix.rs) (encArgs tab bytes_HasPrefix.as (x0, x1))
theorem bytes_HasPrefix.fok : FnOk Tryz.prog 122 Tryz.f122 bytes_HasPrefix.ms bytes_HasPrefix.b := ⟨Tryz.func122, by kernel_rfl, by kernel_rfl⟩
noncomputable def bytes_HasPrefix.fn : Args tab bytes_HasPrefix.as → Option (ResT tab bytes_HasPrefix.rs) := fun x => bytes_HasPrefix x.1 x.2
theorem bytes_HasPrefix.con {δ : Type} : Con Tryz.prog (KT tab) 122 (calleeS (β := δ) tab bytes_HasPrefix.ms bytes_HasPrefix.as bytes_HasPrefix.rs bytes_HasPrefix.fn) := con_shape (c := bytes_HasPrefix.c) mixed tysOk (getG_con (bytes_HasPrefix.gok _)) bytes_HasPrefix.fok rfl rfl (fun _ => rfl)
theorem bytes_HasPrefix.eq (x0 : List Int) (x1 : List Int) : bytes_HasPrefix x0 x1 =
    bif decide ((x0.length : Int) ≥ (x1.length : Int)) then
      bif decide (0 ≤ (x1.length : Int) ∧ (x1.length : Int) ≤ ((x0.length : Nat) : Int)) then
        (bytes_Equal ((x0.take ((x1.length : Int).toNat)).drop 0) x1).bind fun y1 =>
        some y1
      else
        none
    else
      some false := by kernel_rfl

end Go.Ev.W
