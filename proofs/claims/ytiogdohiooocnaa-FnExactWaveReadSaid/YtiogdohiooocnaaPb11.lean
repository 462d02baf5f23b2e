/- What functions of the program come to. -/
import Derived.Test.YtiogdohiooocnaaPbT
import Derived.Test.YtiogdohiooocnaaPb3
import Derived.Test.YtiogdohiooocnaaPb4
namespace Go.Ev.W
open Go.Ev Go.Proofs
set_option maxRecDepth 100000
set_option linter.unusedVariables false

/-! ### bytes_Equal: bytes.Equal -/
def bytes_Equal.ms : List Mode := [.lend, .lend]
def bytes_Equal.as : List VSh := [.one (.b (.b (.b (.b (.sl false false 5))))), .one (.b (.b (.b (.b (.sl false false 5)))))]
def bytes_Equal.rs : RSh := ⟨[.one (.b (.b (.b (.b (.bool)))))], [none, none]⟩
noncomputable def bytes_Equal.gs (δ : Type) : List (Nat × Callee (GT tab) δ) := []
theorem bytes_Equal.gok (δ : Type) : AllCon Try.prog tab (bytes_Equal.gs δ) := .nil
noncomputable def bytes_Equal.c : Ctx (GT tab) (KT tab) (ResT tab bytes_Equal.rs) := { X := XT tab, ty := tyOf tys, inner := fun _ => true, keep := keepOf 0 bytes_Equal.ms, cuts := [], live := liveOf [], G := getG (bytes_Equal.gs _) }
noncomputable def bytes_Equal.b : Code := bodyOf Try.f151
noncomputable def bytes_Equal (x0 : List Int) (x1 : List Int) : Option (Bool) := callW bytes_Equal.c (fiOf (GT tab) Try.f151 bytes_Equal.ms) bytes_Equal.b (decRes tab bytes_Equal.rs) (encArgs tab bytes_Equal.as (x0, x1))
theorem bytes_Equal.fok : FnOk Try.prog 151 Try.f151 bytes_Equal.ms bytes_Equal.b := ⟨Try.func151, by kernel_rfl, by kernel_rfl⟩
noncomputable def bytes_Equal.fn : Args tab bytes_Equal.as → Option (ResT tab bytes_Equal.rs) := fun x => bytes_Equal x.1 x.2
theorem bytes_Equal.con {δ : Type} : Con Try.prog (KT tab) 151 (calleeS (β := δ) tab bytes_Equal.ms bytes_Equal.as bytes_Equal.rs bytes_Equal.fn) := con_shape (c := bytes_Equal.c) mixed tysOk (getG_con (bytes_Equal.gok _)) bytes_Equal.fok rfl rfl (fun _ => rfl)
theorem bytes_Equal.eq (x0 : List Int) (x1 : List Int) : bytes_Equal x0 x1 =
    some ((strOf (x0.map fun x => x)).toList == (strOf (x1.map fun x => x)).toList) := by kernel_rfl

/-! ### impl_VarRead: loop.example/g00688/impl.VarRead -/
def impl_VarRead.ms : List Mode := [.lend, .lend]
def impl_VarRead.as : List VSh := [.one (.b (.b (.b (.b (.sl false false 5))))), .one (.b (.b (.b (.b (.int .i64)))))]
def impl_VarRead.rs : RSh := ⟨[.one (.b (.b (.b (.b (.int .i64))))), .one (.b (.b (.b (.b (.int .i64))))), .one (.b (.b (.b (.b (.bool)))))], [none, none]⟩
noncomputable def impl_VarRead.gs (δ : Type) : List (Nat × Callee (GT tab) δ) := [(97, calleeS tab impl_VarOf.ms impl_VarOf.as impl_VarOf.rs impl_VarOf.fn), (117, calleeS tab impl_within.ms impl_within.as impl_within.rs impl_within.fn), (151, calleeS tab bytes_Equal.ms bytes_Equal.as bytes_Equal.rs bytes_Equal.fn)]
theorem impl_VarRead.gok (δ : Type) : AllCon Try.prog tab (impl_VarRead.gs δ) := .cons impl_VarOf.con (.cons impl_within.con (.cons bytes_Equal.con (.nil)))
noncomputable def impl_VarRead.c : Ctx (GT tab) (KT tab) (ResT tab impl_VarRead.rs) := { X := XT tab, ty := tyOf tys, inner := fun _ => true, keep := keepOf 0 impl_VarRead.ms, cuts := [], live := liveOf [(5, [0, 1, 7, 18, 19, 20])], G := getG (impl_VarRead.gs _) }
noncomputable def impl_VarRead.b : Code := bodyOf Try.f98
noncomputable def impl_VarRead (x0 : List Int) (x1 : Int) : Option (Int × Int × Bool) := callW impl_VarRead.c (fiOf (GT tab) Try.f98 impl_VarRead.ms) impl_VarRead.b (decRes tab impl_VarRead.rs) (encArgs tab impl_VarRead.as (x0, x1))
theorem impl_VarRead.fok : FnOk Try.prog 98 Try.f98 impl_VarRead.ms impl_VarRead.b := ⟨Try.func98, by kernel_rfl, by kernel_rfl⟩
noncomputable def impl_VarRead.fn : Args tab impl_VarRead.as → Option (ResT tab impl_VarRead.rs) := fun x => impl_VarRead x.1 x.2
theorem impl_VarRead.con {δ : Type} : Con Try.prog (KT tab) 98 (calleeS (β := δ) tab impl_VarRead.ms impl_VarRead.as impl_VarRead.rs impl_VarRead.fn) := con_shape (c := impl_VarRead.c) mixed tysOk (getG_con (impl_VarRead.gok _)) impl_VarRead.fok rfl rfl (fun _ => rfl)
noncomputable def impl_VarRead_l0 (v0 : List Int) (v1 : Int) (v2 : Int) (v3 : List Int) (v4 : Int) (v5 : Int) : Option (Int × Int × Bool) := Lw impl_VarRead.c (finish impl_VarRead.c (fiOf (GT tab) Try.f98 impl_VarRead.ms) (decRes tab impl_VarRead.rs)) ((loops impl_VarRead.c.cuts 1000 impl_VarRead.b []).getD 0 []) { slots := [.vs false 5 v0, .int .i64 v1, .undef, .undef, .undef, .undef, .undef, .int .i64 v2, .undef, .undef, .undef, .undef, .undef, .undef, .undef, .undef, .undef, .undef, .vs false 5 v3, .int .i64 v4, .int .i64 v5, .undef, .undef, .undef, .undef, .undef, .undef, .undef, .undef, .undef, .undef, .undef, .undef, .undef, .undef, .undef, .undef, .undef, .undef, .undef, .undef, .undef, .undef, .undef, .undef, .undef, .undef, .undef, .undef, .undef, .undef, .undef], loc := locOf [], nx := 0 }
theorem impl_VarRead.eq (x0 : List Int) (x1 : Int) : impl_VarRead x0 x1 =
    (impl_within x1 (0 : Int) (x0.length : Int)).bind fun y1 =>
    bif !y1 then
      some ((0 : Int), (0 : Int), false)
    else
      bif decide (0 ≤ x1 ∧ x1 ≤ ((x0.length : Nat) : Int)) then
        impl_VarRead_l0 x0 x1 (0 : Int) ((x0.take x0.length).drop x1.toNat) (((x0.take x0.length).drop x1.toNat).length : Int) (0 : Int)
      else
        none := by kernel_rfl
theorem impl_VarRead_l0.eq (v0 : List Int) (v1 : Int) (v2 : Int) (v3 : List Int) (v4 : Int) (v5 : Int) : impl_VarRead_l0 v0 v1 v2 v3 v4 v5 =
    bif decide (v5 < v4) then
      (at? v3 v5).bind fun y1 =>
      bif v5 == (5 : Int) then
        some ((0 : Int), (0 : Int), false)
      else
        bif decide (IntKind.i64.wrap ((7 : Int) * v5) < (0 : Int)) then
          none
        else
          bif decide (y1 ≥ (128 : Int)) then
            impl_VarRead_l0 v0 v1 (IntKind.i64.wrap (((BitVec.ofInt 64 v2) ||| (BitVec.ofInt 64 (IntKind.i64.wrap ((IntKind.i64.wrap (IntKind.u8.wrap (((BitVec.ofInt 8 y1) &&& (BitVec.ofInt 8 (127 : Int))).toNat : Int))) * 2 ^ (min (IntKind.i64.wrap ((7 : Int) * v5)).toNat 64))))).toNat : Int)) v3 v4 (IntKind.i64.wrap (v5 + (1 : Int)))
          else
            (impl_VarOf (IntKind.i64.wrap (((BitVec.ofInt 64 v2) ||| (BitVec.ofInt 64 (IntKind.i64.wrap ((IntKind.i64.wrap (IntKind.u8.wrap (((BitVec.ofInt 8 y1) &&& (BitVec.ofInt 8 (127 : Int))).toNat : Int))) * 2 ^ (min (IntKind.i64.wrap ((7 : Int) * v5)).toNat 64))))).toNat : Int))).bind fun y2 =>
            bif decide (0 ≤ IntKind.i64.wrap ((IntKind.i64.wrap (v1 + v5)) + (1 : Int)) ∧ IntKind.i64.wrap ((IntKind.i64.wrap (v1 + v5)) + (1 : Int)) ≤ ((v0.length : Nat) : Int)) then
              bif decide (0 ≤ v1 ∧ v1 ≤ (((IntKind.i64.wrap ((IntKind.i64.wrap (v1 + v5)) + (1 : Int))).toNat : Nat) : Int)) then
                (bytes_Equal y2 ((v0.take ((IntKind.i64.wrap ((IntKind.i64.wrap (v1 + v5)) + (1 : Int))).toNat)).drop v1.toNat)).bind fun y3 =>
                bif !y3 then
                  some ((0 : Int), (0 : Int), false)
                else
                  some (IntKind.i64.wrap (((BitVec.ofInt 64 v2) ||| (BitVec.ofInt 64 (IntKind.i64.wrap ((IntKind.i64.wrap (IntKind.u8.wrap (((BitVec.ofInt 8 y1) &&& (BitVec.ofInt 8 (127 : Int))).toNat : Int))) * 2 ^ (min (IntKind.i64.wrap ((7 : Int) * v5)).toNat 64))))).toNat : Int), IntKind.i64.wrap ((IntKind.i64.wrap (v1 + v5)) + (1 : Int)), true)
              else
                none
            else
              none
    else
      some ((0 : Int), (0 : Int), false) := (Lw_eq tysOk (getG_con (impl_VarRead.gok _)) _ _).trans (by kernel_rfl)

/-! ### impl_BitsRead: loop.example/g00688/impl.BitsRead -/
def impl_BitsRead.ms : List Mode := [.lend, .lend]
def impl_BitsRead.as : List VSh := [.one (.b (.b (.b (.b (.sl false false 5))))), .one (.b (.b (.b (.b (.int .i64)))))]
def impl_BitsRead.rs : RSh := ⟨[.agg [.int .i64, .sl true true 117], .one (.b (.b (.b (.b (.int .i64))))), .one (.b (.b (.b (.b (.bool)))))], [none, none]⟩
noncomputable def impl_BitsRead.gs (δ : Type) : List (Nat × Callee (GT tab) δ) := [(93, calleeS tab impl_BitsOk.ms impl_BitsOk.as impl_BitsOk.rs impl_BitsOk.fn), (98, calleeS tab impl_VarRead.ms impl_VarRead.as impl_VarRead.rs impl_VarRead.fn)]
theorem impl_BitsRead.gok (δ : Type) : AllCon Try.prog tab (impl_BitsRead.gs δ) := .cons impl_BitsOk.con (.cons impl_VarRead.con (.nil))
noncomputable def impl_BitsRead.c : Ctx (GT tab) (KT tab) (ResT tab impl_BitsRead.rs) := { X := XT tab, ty := tyOf tys, inner := fun _ => true, keep := keepOf 0 impl_BitsRead.ms, cuts := [5], live := liveOf [(5, [0, 1, 4, 7, 9]), (7, [1, 4, 9, 10, 51, 52, 53])], G := getG (impl_BitsRead.gs _) }
noncomputable def impl_BitsRead.b : Code := bodyOf Try.f42
noncomputable def impl_BitsRead (x0 : List Int) (x1 : Int) : Option ((Int × (List Int)) × Int × Bool) := callW impl_BitsRead.c (fiOf (GT tab) Try.f42 impl_BitsRead.ms) impl_BitsRead.b (decRes tab impl_BitsRead.rs) (encArgs tab impl_BitsRead.as (x0, x1))
theorem impl_BitsRead.fok : FnOk Try.prog 42 Try.f42 impl_BitsRead.ms impl_BitsRead.b := ⟨Try.func42, by kernel_rfl, by kernel_rfl⟩
noncomputable def impl_BitsRead.fn : Args tab impl_BitsRead.as → Option (ResT tab impl_BitsRead.rs) := fun x => impl_BitsRead x.1 x.2
theorem impl_BitsRead.con {δ : Type} : Con Try.prog (KT tab) 42 (calleeS (β := δ) tab impl_BitsRead.ms impl_BitsRead.as impl_BitsRead.rs impl_BitsRead.fn) := con_shape (c := impl_BitsRead.c) mixed tysOk (getG_con (impl_BitsRead.gok _)) impl_BitsRead.fok rfl rfl (fun _ => rfl)
noncomputable def impl_BitsRead_l0 (v0 : List Int) (v1 : Int) (v2 : Int) (v3 : Int) (v4 : Int) (v5 : List Int) : Option ((Int × (List Int)) × Int × Bool) := Lw impl_BitsRead.c (finish impl_BitsRead.c (fiOf (GT tab) Try.f42 impl_BitsRead.ms) (decRes tab impl_BitsRead.rs)) ((loops impl_BitsRead.c.cuts 1000 impl_BitsRead.b []).getD 0 []) { slots := [.vs false 5 v0, .int .i64 v1, .undef, .undef, .ptr 0 0, .undef, .undef, .int .i64 v2, .undef, .int .i64 v3, .undef, .undef, .undef, .undef, .undef, .undef, .undef, .undef, .undef, .undef, .undef, .undef, .undef, .undef, .undef, .undef, .undef, .undef, .undef, .undef, .undef, .undef, .undef, .undef, .undef, .undef, .undef, .undef, .undef, .undef, .undef, .undef, .undef, .undef, .undef, .undef, .undef, .undef, .undef, .undef, .undef, .undef, .undef, .undef, .undef, .undef, .undef, .undef, .undef, .undef, .undef, .undef, .undef, .undef, .undef, .undef, .undef, .undef, .undef, .undef, .undef, .undef, .undef, .undef, .undef, .undef, .undef, .undef, .undef, .undef, .undef, .undef], loc := locOf [.box 51 [.int .i64 v4, .sl 1 0], .row 0 true 117 v5], nx := 2 }
noncomputable def impl_BitsRead_l1 (v0 : Int) (v1 : Int) (v2 : List Int) (v3 : Int) (v4 : Int) (v5 : Int) (v6 : List Int) (v7 : Int) (v8 : List Int) : Option ((Int × (List Int)) × Int × Bool) := Lw impl_BitsRead.c (finish impl_BitsRead.c (fiOf (GT tab) Try.f42 impl_BitsRead.ms) (decRes tab impl_BitsRead.rs)) ((loops impl_BitsRead.c.cuts 1000 impl_BitsRead.b []).getD 1 []) { slots := [.undef, .int .i64 v0, .undef, .undef, .ptr 0 0, .undef, .undef, .undef, .undef, .int .i64 v1, .ptr 2 0, .undef, .undef, .undef, .undef, .undef, .undef, .undef, .undef, .undef, .undef, .undef, .undef, .undef, .undef, .undef, .undef, .undef, .undef, .undef, .undef, .undef, .undef, .undef, .undef, .undef, .undef, .undef, .undef, .undef, .undef, .undef, .undef, .undef, .undef, .undef, .undef, .undef, .undef, .undef, .undef, .vs false 5 v2, .int .i64 v3, .int .i64 v4, .undef, .undef, .undef, .undef, .undef, .undef, .undef, .undef, .undef, .undef, .undef, .undef, .undef, .undef, .undef, .undef, .undef, .undef, .undef, .undef, .undef, .undef, .undef, .undef, .undef, .undef, .undef, .undef], loc := locOf [.box 51 [.int .i64 v5, .sl 1 0], .row 0 true 117 v6, .box 51 [.int .i64 v7, .sl 3 0], .row 0 true 117 v8], nx := 4 }
theorem impl_BitsRead.eq (x0 : List Int) (x1 : Int) : impl_BitsRead x0 x1 =
    (impl_VarRead x0 x1).bind fun y1 =>
    bif !y1.2.2 then
      some (((0 : Int), ([] : List Int)), (0 : Int), false)
    else
      bif decide (y1.1 > (5000 : Int)) then
        some (((0 : Int), ([] : List Int)), (0 : Int), false)
      else
        bif decide (IntKind.i64.wrap ((IntKind.i64.wrap ((IntKind.i64.wrap (y1.1 + (8 : Int))) - (1 : Int))).tdiv (8 : Int)) > IntKind.i64.wrap ((x0.length : Int) - y1.2.1)) then
          some (((0 : Int), ([] : List Int)), (0 : Int), false)
        else
          impl_BitsRead_l0 x0 y1.2.1 y1.1 (IntKind.i64.wrap ((IntKind.i64.wrap ((IntKind.i64.wrap (y1.1 + (8 : Int))) - (1 : Int))).tdiv (8 : Int))) (0 : Int) ([] : List Int) := by kernel_rfl
theorem impl_BitsRead_l0.eq (v0 : List Int) (v1 : Int) (v2 : Int) (v3 : Int) (v4 : Int) (v5 : List Int) : impl_BitsRead_l0 v0 v1 v2 v3 v4 v5 =
    bif decide ((0 : Int) ≤ IntKind.i64.wrap ((IntKind.i64.wrap ((IntKind.i64.wrap (v2 + (64 : Int))) - (1 : Int))).tdiv (64 : Int))) && decide (((IntKind.i64.wrap ((IntKind.i64.wrap ((IntKind.i64.wrap (v2 + (64 : Int))) - (1 : Int))).tdiv (64 : Int))).toNat) * 8 ≤ 140737488355328) then
      bif decide (0 ≤ IntKind.i64.wrap (v1 + v3) ∧ IntKind.i64.wrap (v1 + v3) ≤ ((v0.length : Nat) : Int)) then
        bif decide (0 ≤ v1 ∧ v1 ≤ (((IntKind.i64.wrap (v1 + v3)).toNat : Nat) : Int)) then
          impl_BitsRead_l1 v1 v3 ((v0.take ((IntKind.i64.wrap (v1 + v3)).toNat)).drop v1.toNat) (((v0.take ((IntKind.i64.wrap (v1 + v3)).toNat)).drop v1.toNat).length : Int) (0 : Int) v4 v5 v2 (List.replicate ((IntKind.i64.wrap ((IntKind.i64.wrap ((IntKind.i64.wrap (v2 + (64 : Int))) - (1 : Int))).tdiv (64 : Int))).toNat) (0 : Int))
        else
          none
      else
        none
    else
      none := (Lw_eq tysOk (getG_con (impl_BitsRead.gok _)) _ _).trans (by kernel_rfl)
theorem impl_BitsRead_l1.eq (v0 : Int) (v1 : Int) (v2 : List Int) (v3 : Int) (v4 : Int) (v5 : Int) (v6 : List Int) (v7 : Int) (v8 : List Int) : impl_BitsRead_l1 v0 v1 v2 v3 v4 v5 v6 v7 v8 =
    bif decide (v4 < v3) then
      (at? v2 v4).bind fun y1 =>
      (at? v8 (IntKind.i64.wrap ((IntKind.i64.wrap (v4 * (8 : Int))).tdiv (64 : Int)))).bind fun y2 =>
      v8[(IntKind.i64.wrap ((IntKind.i64.wrap (v4 * (8 : Int))).tdiv (64 : Int))).toNat]?.bind fun y3 =>
      bif decide ((IntKind.i64.wrap (v4 * (8 : Int))).tmod (64 : Int) < (0 : Int)) then
        none
      else
        (at? v8 (IntKind.i64.wrap ((IntKind.i64.wrap (v4 * (8 : Int))).tdiv (64 : Int)))).bind fun y4 =>
        v8[(IntKind.i64.wrap ((IntKind.i64.wrap (v4 * (8 : Int))).tdiv (64 : Int))).toNat]?.bind fun y5 =>
        impl_BitsRead_l1 v0 v1 v2 v3 (IntKind.i64.wrap (v4 + (1 : Int))) v5 v6 v7 (v8.set ((IntKind.i64.wrap ((IntKind.i64.wrap (v4 * (8 : Int))).tdiv (64 : Int))).toNat) (IntKind.u64.wrap (((BitVec.ofInt 64 y3) ||| (BitVec.ofInt 64 (IntKind.u64.wrap ((IntKind.u64.wrap y1) * 2 ^ (min ((IntKind.i64.wrap (v4 * (8 : Int))).tmod (64 : Int)).toNat 64))))).toNat : Int)))
    else
      (impl_BitsOk (v7, v8)).bind fun y6 =>
      bif !y6 then
        some (((0 : Int), ([] : List Int)), (0 : Int), false)
      else
        some ((v7, v8), IntKind.i64.wrap (v0 + v1), true) := (Lw_eq tysOk (getG_con (impl_BitsRead.gok _)) _ _).trans (by kernel_rfl)

/-! ### impl_WaveRead: loop.example/g00688/impl.WaveRead -/
def impl_WaveRead.ms : List Mode := [.lend, .lend]
def impl_WaveRead.as : List VSh := [.one (.b (.b (.b (.b (.sl false false 5))))), .one (.b (.b (.b (.b (.int .i64)))))]
def impl_WaveRead.rs : RSh := ⟨[.agg [.int .i64, .sl true true 3, .sl true true 51], .one (.b (.b (.b (.b (.int .i64))))), .one (.b (.b (.b (.b (.bool)))))], [none, none]⟩
noncomputable def impl_WaveRead.gs (δ : Type) : List (Nat × Callee (GT tab) δ) := [(42, calleeS tab impl_BitsRead.ms impl_BitsRead.as impl_BitsRead.rs impl_BitsRead.fn), (67, calleeS tab impl_WaveOk.ms impl_WaveOk.as impl_WaveOk.rs impl_WaveOk.fn), (73, calleeS tab impl_count.ms impl_count.as impl_count.rs impl_count.fn), (74, calleeS tab impl_Bits_list.ms impl_Bits_list.as impl_Bits_list.rs impl_Bits_list.fn)]
theorem impl_WaveRead.gok (δ : Type) : AllCon Try.prog tab (impl_WaveRead.gs δ) := .cons impl_BitsRead.con (.cons impl_WaveOk.con (.cons impl_count.con (.cons impl_Bits_list.con (.nil))))
noncomputable def impl_WaveRead.c : Ctx (GT tab) (KT tab) (ResT tab impl_WaveRead.rs) := { X := XT tab, ty := tyOf tys, inner := fun _ => true, keep := keepOf 0 impl_WaveRead.ms, cuts := [], live := liveOf [(3, [0, 1, 4, 7, 11])], lits := true, G := getG (impl_WaveRead.gs _) }
noncomputable def impl_WaveRead.b : Code := bodyOf Try.f22
noncomputable def impl_WaveRead (x0 : List Int) (x1 : Int) : Option ((Int × (List Int) × (List (Int × (List Int)))) × Int × Bool) := callW impl_WaveRead.c (fiOf (GT tab) Try.f22 impl_WaveRead.ms) impl_WaveRead.b (decRes tab impl_WaveRead.rs) (encArgs tab impl_WaveRead.as (x0, x1))
theorem impl_WaveRead.fok : FnOk Try.prog 22 Try.f22 impl_WaveRead.ms impl_WaveRead.b := ⟨Try.func22, by kernel_rfl, by kernel_rfl⟩
noncomputable def impl_WaveRead.fn : Args tab impl_WaveRead.as → Option (ResT tab impl_WaveRead.rs) := fun x => impl_WaveRead x.1 x.2
theorem impl_WaveRead.con {δ : Type} : Con Try.prog (KT tab) 22 (calleeS (β := δ) tab impl_WaveRead.ms impl_WaveRead.as impl_WaveRead.rs impl_WaveRead.fn) := con_shape (c := impl_WaveRead.c) mixed tysOk (getG_con (impl_WaveRead.gok _)) impl_WaveRead.fok rfl rfl (fun _ => rfl)
noncomputable def impl_WaveRead_l0 (v0 : List Int) (v1 : Int) (v2 : Int) (v3 : Int) (v4 : List Int) (v5 : List (Int × (List Int))) (v6 : Int) (v7 : List Int) (v8 : List (Int × (List Int))) : Option ((Int × (List Int) × (List (Int × (List Int)))) × Int × Bool) := Lw impl_WaveRead.c (finish impl_WaveRead.c (fiOf (GT tab) Try.f22 impl_WaveRead.ms) (decRes tab impl_WaveRead.rs)) ((loops impl_WaveRead.c.cuts 1000 impl_WaveRead.b []).getD 0 []) { slots := [.vs false 5 v0, .int .i64 v1, .undef, .undef, .ptr 0 0, .undef, .undef, .ptr 3 0, .undef, .undef, .undef, .int .i64 v2, .undef, .undef, .undef, .undef, .undef, .undef, .undef, .undef, .undef, .undef, .undef, .undef, .undef, .undef, .undef, .undef, .undef, .undef, .undef, .undef, .undef, .undef, .undef, .undef, .undef, .undef, .undef, .undef, .undef, .undef, .undef, .undef, .undef, .undef, .undef, .undef], loc := locOf [.box 31 [.int .i64 v3, .sl 1 0, .sl 2 0], .row 0 true 3 v4, .row 0 true 51 v5, .box 31 [.int .i64 v6, .sl 4 0, .sl 5 0], .row 0 true 3 v7, .row 0 true 51 v8], nx := 6 }
theorem impl_WaveRead.eq (x0 : List Int) (x1 : Int) : impl_WaveRead x0 x1 =
    impl_WaveRead_l0 x0 x1 (0 : Int) (0 : Int) ([] : List Int) ([] : List (Int × (List Int))) (0 : Int) ([] : List Int) ([] : List (Int × (List Int))) := by kernel_rfl
theorem impl_WaveRead_l0.eq (v0 : List Int) (v1 : Int) (v2 : Int) (v3 : Int) (v4 : List Int) (v5 : List (Int × (List Int))) (v6 : Int) (v7 : List Int) (v8 : List (Int × (List Int))) : impl_WaveRead_l0 v0 v1 v2 v3 v4 v5 v6 v7 v8 =
    bif decide (v2 < (9 : Int)) then
      (impl_BitsRead v0 v1).bind fun y1 =>
      bif !y1.2.2 then
        some (((0 : Int), ([] : List Int), ([] : List (Int × (List Int)))), (0 : Int), false)
      else
        (impl_Bits_list (y1.1.1, y1.1.2)).bind fun y2 =>
        (impl_count y2 (0 : Int)).bind fun y3 =>
        bif decide ((v7.length + ([y3] : List Int).length) * 8 ≤ 140737488355328) then
          bif decide ((v8.length + ([(y1.1.1, y1.1.2)] : List (Int × (List Int))).length) * 32 ≤ 140737488355328) then
            impl_WaveRead_l0 v0 y1.2.1 (IntKind.i64.wrap (v2 + (1 : Int))) v3 v4 v5 y1.1.1 (v7 ++ ([y3] : List Int)) (v8 ++ ([(y1.1.1, y1.1.2)] : List (Int × (List Int))))
          else
            none
        else
          none
    else
      (impl_WaveOk (v6, v7, v8)).bind fun y4 =>
      bif !y4 then
        some (((0 : Int), ([] : List Int), ([] : List (Int × (List Int)))), (0 : Int), false)
      else
        some ((v6, v7, v8), v1, true) := (Lw_eq tysOk (getG_con (impl_WaveRead.gok _)) _ _).trans (by kernel_rfl)

end Go.Ev.W
