/- What functions of the program come to. -/
import Derived.Test.YthbijcdnjgfndaaPaT
import Derived.Test.YthbijcdnjgfndaaPa25
namespace Go.Ev.W
open Go.Ev Go.Proofs
set_option maxRecDepth 100000
set_option linter.unusedVariables false

/-! ### laws_szUint64S: loop.example/g00688/laws.szUint64S -/
def laws_szUint64S.ms : List Mode := [.lend, .lend]
def laws_szUint64S.as : List VSh := [.one (.b (.b (.b (.b (.sl false false 103))))), .one (.b (.b (.b (.b (.int .i64)))))]
def laws_szUint64S.rs : RSh := ⟨[.one (.b (.b (.b (.b (.int .i64)))))], [none, none]⟩
noncomputable def laws_szUint64S.gs (δ : Type) : List (Nat × Callee (GT tab) δ) := []
theorem laws_szUint64S.gok (δ : Type) : AllCon Try.prog tab (laws_szUint64S.gs δ) := .nil
noncomputable def laws_szUint64S.c : Ctx (GT tab) (KT tab) (ResT tab laws_szUint64S.rs) := { X := XT tab, ty := tyOf tys, inner := fun _ => true, keep := keepOf 0 laws_szUint64S.ms, cuts := [], live := liveOf [], G := getG (laws_szUint64S.gs _) }
noncomputable def laws_szUint64S.b : Code := bodyOf Try.f72
noncomputable def laws_szUint64S (x0 : List Int) (x1 : Int) : Option (Int) := callW laws_szUint64S.c (fiOf (GT tab) Try.f72 laws_szUint64S.ms) laws_szUint64S.b (decRes tab laws_szUint64S.rs) (encArgs tab laws_szUint64S.as (x0, x1))
theorem laws_szUint64S.fok : FnOk Try.prog 72 Try.f72 laws_szUint64S.ms laws_szUint64S.b := ⟨Try.func72, by kernel_rfl, by kernel_rfl⟩
noncomputable def laws_szUint64S.fn : Args tab laws_szUint64S.as → Option (ResT tab laws_szUint64S.rs) := fun x => laws_szUint64S x.1 x.2
theorem laws_szUint64S.con {δ : Type} : Con Try.prog (KT tab) 72 (calleeS (β := δ) tab laws_szUint64S.ms laws_szUint64S.as laws_szUint64S.rs laws_szUint64S.fn) := con_shape (c := laws_szUint64S.c) mixed tysOk (getG_con (laws_szUint64S.gok _)) laws_szUint64S.fok rfl rfl (fun _ => rfl)
theorem laws_szUint64S.eq (x0 : List Int) (x1 : Int) : laws_szUint64S x0 x1 =
    bif decide (IntKind.i64.wrap (x1 - (x0.length : Int)) < (0 : Int)) then
      some (-1 : Int)
    else
      some (IntKind.i64.wrap (x1 - (x0.length : Int))) := by kernel_rfl

/-! ### laws_szBits: loop.example/g00688/laws.szBits -/
def laws_szBits.ms : List Mode := [.lend, .lend]
def laws_szBits.as : List VSh := [.agg [.int .i64, .sl false false 103], .one (.b (.b (.b (.b (.int .i64)))))]
def laws_szBits.rs : RSh := ⟨[.one (.b (.b (.b (.b (.int .i64)))))], [none, none]⟩
noncomputable def laws_szBits.gs (δ : Type) : List (Nat × Callee (GT tab) δ) := [(72, calleeS tab laws_szUint64S.ms laws_szUint64S.as laws_szUint64S.rs laws_szUint64S.fn)]
theorem laws_szBits.gok (δ : Type) : AllCon Try.prog tab (laws_szBits.gs δ) := .cons laws_szUint64S.con (.nil)
noncomputable def laws_szBits.c : Ctx (GT tab) (KT tab) (ResT tab laws_szBits.rs) := { X := XT tab, ty := tyOf tys, inner := fun _ => true, keep := keepOf 0 laws_szBits.ms, cuts := [], live := liveOf [], G := getG (laws_szBits.gs _) }
noncomputable def laws_szBits.b : Code := bodyOf Try.f37
noncomputable def laws_szBits (x0 : Int × (List Int)) (x1 : Int) : Option (Int) := callW laws_szBits.c (fiOf (GT tab) Try.f37 laws_szBits.ms) laws_szBits.b (decRes tab laws_szBits.rs) (encArgs tab laws_szBits.as (x0, x1))
theorem laws_szBits.fok : FnOk Try.prog 37 Try.f37 laws_szBits.ms laws_szBits.b := ⟨Try.func37, by kernel_rfl, by kernel_rfl⟩
noncomputable def laws_szBits.fn : Args tab laws_szBits.as → Option (ResT tab laws_szBits.rs) := fun x => laws_szBits x.1 x.2
theorem laws_szBits.con {δ : Type} : Con Try.prog (KT tab) 37 (calleeS (β := δ) tab laws_szBits.ms laws_szBits.as laws_szBits.rs laws_szBits.fn) := con_shape (c := laws_szBits.c) mixed tysOk (getG_con (laws_szBits.gok _)) laws_szBits.fok rfl rfl (fun _ => rfl)
theorem laws_szBits.eq (x0 : Int × (List Int)) (x1 : Int) : laws_szBits x0 x1 =
    (laws_szUint64S x0.2 x1).bind fun y1 =>
    bif decide (y1 < (0 : Int)) then
      some (-1 : Int)
    else
      some y1 := by kernel_rfl

/-! ### laws_toUint64S: loop.example/g00688/laws.toUint64S -/
def laws_toUint64S.ms : List Mode := [.lend]
def laws_toUint64S.as : List VSh := [.one (.b (.b (.b (.b (.sl false false 103)))))]
def laws_toUint64S.rs : RSh := ⟨[.one (.b (.b (.b (.b (.sl true true 103)))))], [none]⟩
noncomputable def laws_toUint64S.gs (δ : Type) : List (Nat × Callee (GT tab) δ) := []
theorem laws_toUint64S.gok (δ : Type) : AllCon Try.prog tab (laws_toUint64S.gs δ) := .nil
noncomputable def laws_toUint64S.c : Ctx (GT tab) (KT tab) (ResT tab laws_toUint64S.rs) := { X := XT tab, ty := tyOf tys, inner := fun _ => true, keep := keepOf 0 laws_toUint64S.ms, cuts := [], live := liveOf [(3, [0, 3, 4])], G := getG (laws_toUint64S.gs _) }
noncomputable def laws_toUint64S.b : Code := bodyOf Try.f76
noncomputable def laws_toUint64S (x0 : List Int) : Option (List Int) := callW laws_toUint64S.c (fiOf (GT tab) Try.f76 laws_toUint64S.ms) laws_toUint64S.b (decRes tab laws_toUint64S.rs) (encArgs tab laws_toUint64S.as x0)
theorem laws_toUint64S.fok : FnOk Try.prog 76 Try.f76 laws_toUint64S.ms laws_toUint64S.b := ⟨Try.func76, by kernel_rfl, by kernel_rfl⟩
noncomputable def laws_toUint64S.fn : Args tab laws_toUint64S.as → Option (ResT tab laws_toUint64S.rs) := fun x => laws_toUint64S x
theorem laws_toUint64S.con {δ : Type} : Con Try.prog (KT tab) 76 (calleeS (β := δ) tab laws_toUint64S.ms laws_toUint64S.as laws_toUint64S.rs laws_toUint64S.fn) := con_shape (c := laws_toUint64S.c) mixed tysOk (getG_con (laws_toUint64S.gok _)) laws_toUint64S.fok rfl rfl (fun _ => rfl)
noncomputable def laws_toUint64S_l0 (v0 : List Int) (v1 : Int) (v2 : List Int) : Option (List Int) := Lw laws_toUint64S.c (finish laws_toUint64S.c (fiOf (GT tab) Try.f76 laws_toUint64S.ms) (decRes tab laws_toUint64S.rs)) ((loops laws_toUint64S.c.cuts 1000 laws_toUint64S.b []).getD 0 []) { slots := [.vs false 103 v0, .undef, .undef, .sl 0 0, .int .i64 v1, .undef, .undef, .undef, .undef, .undef, .undef, .undef, .undef, .undef, .undef, .undef, .undef, .undef, .undef, .undef, .undef, .undef], loc := locOf [.row 0 true 103 v2], nx := 1 }
theorem laws_toUint64S.eq (x0 : List Int) : laws_toUint64S x0 =
    bif decide ((0 : Int) ≤ (x0.length : Int)) && decide (((x0.length : Int).toNat) * 8 ≤ 140737488355328) then
      laws_toUint64S_l0 x0 (0 : Int) (List.replicate ((x0.length : Int).toNat) (0 : Int))
    else
      none := by kernel_rfl
theorem laws_toUint64S_l0.eq (v0 : List Int) (v1 : Int) (v2 : List Int) : laws_toUint64S_l0 v0 v1 v2 =
    bif decide (v1 < (v0.length : Int)) then
      (at? v0 v1).bind fun y1 =>
      (at? v2 v1).bind fun y2 =>
      v2[v1.toNat]?.bind fun y3 =>
      laws_toUint64S_l0 v0 (IntKind.i64.wrap (v1 + (1 : Int))) (v2.set v1.toNat y1)
    else
      some v2 := (Lw_eq tysOk (getG_con (laws_toUint64S.gok _)) _ _).trans (by kernel_rfl)

/-! ### laws_toBits: loop.example/g00688/laws.toBits -/
def laws_toBits.ms : List Mode := [.lend]
def laws_toBits.as : List VSh := [.agg [.int .i64, .sl false false 103]]
def laws_toBits.rs : RSh := ⟨[.agg [.int .i64, .sl true true 103]], [none]⟩
noncomputable def laws_toBits.gs (δ : Type) : List (Nat × Callee (GT tab) δ) := [(76, calleeS tab laws_toUint64S.ms laws_toUint64S.as laws_toUint64S.rs laws_toUint64S.fn)]
theorem laws_toBits.gok (δ : Type) : AllCon Try.prog tab (laws_toBits.gs δ) := .cons laws_toUint64S.con (.nil)
noncomputable def laws_toBits.c : Ctx (GT tab) (KT tab) (ResT tab laws_toBits.rs) := { X := XT tab, ty := tyOf tys, inner := fun _ => true, keep := keepOf 0 laws_toBits.ms, cuts := [], live := liveOf [], G := getG (laws_toBits.gs _) }
noncomputable def laws_toBits.b : Code := bodyOf Try.f39
noncomputable def laws_toBits (x0 : Int × (List Int)) : Option (Int × (List Int)) := callW laws_toBits.c (fiOf (GT tab) Try.f39 laws_toBits.ms) laws_toBits.b (decRes tab laws_toBits.rs) (encArgs tab laws_toBits.as x0)
theorem laws_toBits.fok : FnOk Try.prog 39 Try.f39 laws_toBits.ms laws_toBits.b := ⟨Try.func39, by kernel_rfl, by kernel_rfl⟩
noncomputable def laws_toBits.fn : Args tab laws_toBits.as → Option (ResT tab laws_toBits.rs) := fun x => laws_toBits x
theorem laws_toBits.con {δ : Type} : Con Try.prog (KT tab) 39 (calleeS (β := δ) tab laws_toBits.ms laws_toBits.as laws_toBits.rs laws_toBits.fn) := con_shape (c := laws_toBits.c) mixed tysOk (getG_con (laws_toBits.gok _)) laws_toBits.fok rfl rfl (fun _ => rfl)
theorem laws_toBits.eq (x0 : Int × (List Int)) : laws_toBits x0 =
    (laws_toUint64S x0.2).bind fun y1 =>
    some (x0.1, y1) := by kernel_rfl

/-! ### impl_bitsBytes: loop.example/g00688/impl.bitsBytes -/
def impl_bitsBytes.ms : List Mode := [.lend]
def impl_bitsBytes.as : List VSh := [.agg [.int .i64, .sl false false 103]]
def impl_bitsBytes.rs : RSh := ⟨[.one (.b (.b (.b (.b (.sl true true 5)))))], [none]⟩
noncomputable def impl_bitsBytes.gs (δ : Type) : List (Nat × Callee (GT tab) δ) := [(93, calleeS tab impl_VarOf.ms impl_VarOf.as impl_VarOf.rs impl_VarOf.fn)]
theorem impl_bitsBytes.gok (δ : Type) : AllCon Try.prog tab (impl_bitsBytes.gs δ) := .cons impl_VarOf.con (.nil)
noncomputable def impl_bitsBytes.c : Ctx (GT tab) (KT tab) (ResT tab impl_bitsBytes.rs) := { X := XT tab, ty := tyOf tys, inner := fun _ => true, keep := keepOf 0 impl_bitsBytes.ms, cuts := [], live := liveOf [(3, [1, 3, 4])], G := getG (impl_bitsBytes.gs _) }
noncomputable def impl_bitsBytes.b : Code := bodyOf Try.f78
noncomputable def impl_bitsBytes (x0 : Int × (List Int)) : Option (List Int) := callW impl_bitsBytes.c (fiOf (GT tab) Try.f78 impl_bitsBytes.ms) impl_bitsBytes.b (decRes tab impl_bitsBytes.rs) (encArgs tab impl_bitsBytes.as x0)
theorem impl_bitsBytes.fok : FnOk Try.prog 78 Try.f78 impl_bitsBytes.ms impl_bitsBytes.b := ⟨Try.func78, by kernel_rfl, by kernel_rfl⟩
noncomputable def impl_bitsBytes.fn : Args tab impl_bitsBytes.as → Option (ResT tab impl_bitsBytes.rs) := fun x => impl_bitsBytes x
theorem impl_bitsBytes.con {δ : Type} : Con Try.prog (KT tab) 78 (calleeS (β := δ) tab impl_bitsBytes.ms impl_bitsBytes.as impl_bitsBytes.rs impl_bitsBytes.fn) := con_shape (c := impl_bitsBytes.c) mixed tysOk (getG_con (impl_bitsBytes.gok _)) impl_bitsBytes.fok rfl rfl (fun _ => rfl)
noncomputable def impl_bitsBytes_l0 (v0 : Int) (v1 : Int) (v2 : List Int) (v3 : List Int) : Option (List Int) := Lw impl_bitsBytes.c (finish impl_bitsBytes.c (fiOf (GT tab) Try.f78 impl_bitsBytes.ms) (decRes tab impl_bitsBytes.rs)) ((loops impl_bitsBytes.c.cuts 1000 impl_bitsBytes.b []).getD 0 []) { slots := [.undef, .ptr 0 0, .undef, .sl 1 0, .int .i64 v0, .undef, .undef, .undef, .undef, .undef, .undef, .undef, .undef, .undef, .undef, .undef, .undef, .undef, .undef, .undef, .undef, .undef, .undef, .undef, .undef, .undef, .undef, .undef], loc := locOf [.box 50 [.int .i64 v1, .vs false 103 v2], .row 0 true 5 v3], nx := 2 }
theorem impl_bitsBytes.eq (x0 : Int × (List Int)) : impl_bitsBytes x0 =
    (impl_VarOf x0.1).bind fun y1 =>
    impl_bitsBytes_l0 (0 : Int) x0.1 x0.2 y1 := by kernel_rfl
theorem impl_bitsBytes_l0.eq (v0 : Int) (v1 : Int) (v2 : List Int) (v3 : List Int) : impl_bitsBytes_l0 v0 v1 v2 v3 =
    bif decide (v0 < v1) then
      (at? v2 (IntKind.i64.wrap (v0.tdiv (64 : Int)))).bind fun y1 =>
      bif decide (v0.tmod (64 : Int) < (0 : Int)) then
        none
      else
        bif decide ((v3.length + ([IntKind.u8.wrap (y1.fdiv (2 ^ (min (v0.tmod (64 : Int)).toNat 64)))] : List Int).length) * 1 ≤ 140737488355328) then
          impl_bitsBytes_l0 (IntKind.i64.wrap (v0 + (8 : Int))) v1 v2 (v3 ++ ([IntKind.u8.wrap (y1.fdiv (2 ^ (min (v0.tmod (64 : Int)).toNat 64)))] : List Int))
        else
          none
    else
      some v3 := (Lw_eq tysOk (getG_con (impl_bitsBytes.gok _)) _ _).trans (by kernel_rfl)

/-! ### laws_heldByteS: loop.example/g00688/laws.heldByteS -/
def laws_heldByteS.ms : List Mode := [.lend, .lend]
def laws_heldByteS.as : List VSh := [.one (.b (.b (.b (.b (.sl false false 5))))), .one (.b (.b (.b (.b (.int .i64)))))]
def laws_heldByteS.rs : RSh := ⟨[.one (.b (.b (.b (.b (.int .i64)))))], [none, none]⟩
noncomputable def laws_heldByteS.gs (δ : Type) : List (Nat × Callee (GT tab) δ) := []
theorem laws_heldByteS.gok (δ : Type) : AllCon Try.prog tab (laws_heldByteS.gs δ) := .nil
noncomputable def laws_heldByteS.c : Ctx (GT tab) (KT tab) (ResT tab laws_heldByteS.rs) := { X := XT tab, ty := tyOf tys, inner := fun _ => true, keep := keepOf 0 laws_heldByteS.ms, cuts := [], live := liveOf [(2, [0, 1, 5])], G := getG (laws_heldByteS.gs _) }
noncomputable def laws_heldByteS.b : Code := bodyOf Try.f45
noncomputable def laws_heldByteS (x0 : List Int) (x1 : Int) : Option (Int) := callW laws_heldByteS.c (fiOf (GT tab) Try.f45 laws_heldByteS.ms) laws_heldByteS.b (decRes tab laws_heldByteS.rs) (encArgs tab laws_heldByteS.as (x0, x1))
theorem laws_heldByteS.fok : FnOk Try.prog 45 Try.f45 laws_heldByteS.ms laws_heldByteS.b := ⟨Try.func45, by kernel_rfl, by kernel_rfl⟩
noncomputable def laws_heldByteS.fn : Args tab laws_heldByteS.as → Option (ResT tab laws_heldByteS.rs) := fun x => laws_heldByteS x.1 x.2
theorem laws_heldByteS.con {δ : Type} : Con Try.prog (KT tab) 45 (calleeS (β := δ) tab laws_heldByteS.ms laws_heldByteS.as laws_heldByteS.rs laws_heldByteS.fn) := con_shape (c := laws_heldByteS.c) mixed tysOk (getG_con (laws_heldByteS.gok _)) laws_heldByteS.fok rfl rfl (fun _ => rfl)
noncomputable def laws_heldByteS_l0 (v0 : List Int) (v1 : Int) (v2 : Int) : Option (Int) := Lw laws_heldByteS.c (finish laws_heldByteS.c (fiOf (GT tab) Try.f45 laws_heldByteS.ms) (decRes tab laws_heldByteS.rs)) ((loops laws_heldByteS.c.cuts 1000 laws_heldByteS.b []).getD 0 []) { slots := [.vs false 5 v0, .int .i64 v1, .undef, .undef, .undef, .int .i64 v2, .undef, .undef, .undef, .undef, .undef, .undef, .undef, .undef, .undef, .undef, .undef, .undef, .undef, .undef, .undef, .undef], loc := locOf [], nx := 0 }
theorem laws_heldByteS.eq (x0 : List Int) (x1 : Int) : laws_heldByteS x0 x1 =
    laws_heldByteS_l0 x0 x1 (0 : Int) := by kernel_rfl
theorem laws_heldByteS_l0.eq (v0 : List Int) (v1 : Int) (v2 : Int) : laws_heldByteS_l0 v0 v1 v2 =
    bif decide (v2 < (v0.length : Int)) then
      (at? v0 v2).bind fun y1 =>
      bif y1 != IntKind.u8.wrap v1 then
        some (-1 : Int)
      else
        laws_heldByteS_l0 v0 (IntKind.i64.wrap (v1 + (1 : Int))) (IntKind.i64.wrap (v2 + (1 : Int)))
    else
      some v1 := (Lw_eq tysOk (getG_con (laws_heldByteS.gok _)) _ _).trans (by kernel_rfl)

end Go.Ev.W
