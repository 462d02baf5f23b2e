/- What functions of the program come to. -/
import Derived.Test.YtiogdohiooocnaaPbT
import Derived.Test.YtiogdohiooocnaaEvCmp
import Derived.Test.YtiogdohiooocnaaEvSort
import Derived.Test.YtiogdohiooocnaaPb22
import Derived.Test.YtiogdohiooocnaaPb6
import Derived.Test.YtiogdohiooocnaaPbL
namespace Go.Ev.W
open Go.Ev Go.Proofs
set_option maxRecDepth 100000
set_option linter.unusedVariables false

/-! ### spec_l05Common: loop.example/g00688/spec.l05Common -/
def spec_l05Common.ms : List Mode := [.lend, .lend]
def spec_l05Common.as : List VSh := [.one (.b (.b (.b (.b (.sl false false 5))))), .one (.b (.b (.b (.b (.sl false false 5)))))]
def spec_l05Common.rs : RSh := ⟨[.one (.b (.b (.b (.b (.int .i64)))))], [none, none]⟩
noncomputable def spec_l05Common.gs (δ : Type) : List (Nat × Callee (GT tab) δ) := []
theorem spec_l05Common.gok (δ : Type) : AllCon Try.prog tab (spec_l05Common.gs δ) := .nil
noncomputable def spec_l05Common.c : Ctx (GT tab) (KT tab) (ResT tab spec_l05Common.rs) := { X := XT tab, ty := tyOf tys, inner := fun _ => true, keep := keepOf 0 spec_l05Common.ms, cuts := [], live := liveOf [(2, [0, 1, 5])], G := getG (spec_l05Common.gs _) }
noncomputable def spec_l05Common.b : Code := bodyOf Try.f154
noncomputable def spec_l05Common (x0 : List Int) (x1 : List Int) : Option (Int) := callW spec_l05Common.c (fiOf (GT tab) Try.f154 spec_l05Common.ms) spec_l05Common.b (decRes tab spec_l05Common.rs) (encArgs tab spec_l05Common.as (x0, x1))
theorem spec_l05Common.fok : FnOk Try.prog 154 Try.f154 spec_l05Common.ms spec_l05Common.b := ⟨Try.func154, by kernel_rfl, by kernel_rfl⟩
noncomputable def spec_l05Common.fn : Args tab spec_l05Common.as → Option (ResT tab spec_l05Common.rs) := fun x => spec_l05Common x.1 x.2
theorem spec_l05Common.con {δ : Type} : Con Try.prog (KT tab) 154 (calleeS (β := δ) tab spec_l05Common.ms spec_l05Common.as spec_l05Common.rs spec_l05Common.fn) := con_shape (c := spec_l05Common.c) mixed tysOk (getG_con (spec_l05Common.gok _)) spec_l05Common.fok rfl rfl (fun _ => rfl)
noncomputable def spec_l05Common_l0 (v0 : List Int) (v1 : List Int) (v2 : Int) : Option (Int) := Lw spec_l05Common.c (finish spec_l05Common.c (fiOf (GT tab) Try.f154 spec_l05Common.ms) (decRes tab spec_l05Common.rs)) ((loops spec_l05Common.c.cuts 1000 spec_l05Common.b []).getD 0 []) { slots := [.vs false 5 v0, .vs false 5 v1, .undef, .undef, .undef, .int .i64 v2, .undef, .undef, .undef, .undef, .undef, .undef, .undef, .undef, .undef, .undef, .undef, .undef, .undef, .undef, .undef, .undef, .undef, .undef, .undef, .undef, .undef, .undef, .undef, .undef], loc := locOf [], nx := 0 }
theorem spec_l05Common.eq (x0 : List Int) (x1 : List Int) : spec_l05Common x0 x1 =
    spec_l05Common_l0 x0 x1 (0 : Int) := by kernel_rfl
theorem spec_l05Common_l0.eq (v0 : List Int) (v1 : List Int) (v2 : Int) : spec_l05Common_l0 v0 v1 v2 =
    bif decide (v2 < (v0.length : Int)) then
      bif decide (v2 < (v1.length : Int)) then
        (at? v0 v2).bind fun y1 =>
        (at? v1 v2).bind fun y2 =>
        bif y1 == y2 then
          spec_l05Common_l0 v0 v1 (IntKind.i64.wrap (v2 + (1 : Int)))
        else
          some v2
      else
        some v2
    else
      some v2 := (Lw_eq tysOk (getG_con (spec_l05Common.gok _)) _ _).trans (by kernel_rfl)

/-! ### spec_LcpRows: loop.example/g00688/spec.LcpRows -/
def spec_LcpRows.ms : List Mode := [.lend]
def spec_LcpRows.as : List VSh := [.one (.b (.b (.b (.b (.sl false false 5)))))]
def spec_LcpRows.rs : RSh := ⟨[.one (.b (.b (.b (.b (.sl true true 3)))))], [none]⟩
noncomputable def spec_LcpRows.gs (δ : Type) : List (Nat × Callee (GT tab) δ) := [(153, calleeS tab spec_SuffixRows.ms spec_SuffixRows.as spec_SuffixRows.rs spec_SuffixRows.fn), (154, calleeS tab spec_l05Common.ms spec_l05Common.as spec_l05Common.rs spec_l05Common.fn)]
theorem spec_LcpRows.gok (δ : Type) : AllCon Try.prog tab (spec_LcpRows.gs δ) := .cons spec_SuffixRows.con (.cons spec_l05Common.con (.nil))
noncomputable def spec_LcpRows.c : Ctx (GT tab) (KT tab) (ResT tab spec_LcpRows.rs) := { X := XT tab, ty := tyOf tys, inner := fun _ => true, keep := keepOf 0 spec_LcpRows.ms, cuts := [], live := liveOf [(4, [0, 3, 4, 5])], G := getG (spec_LcpRows.gs _) }
noncomputable def spec_LcpRows.b : Code := bodyOf Try.f102
noncomputable def spec_LcpRows (x0 : List Int) : Option (List Int) := callW spec_LcpRows.c (fiOf (GT tab) Try.f102 spec_LcpRows.ms) spec_LcpRows.b (decRes tab spec_LcpRows.rs) (encArgs tab spec_LcpRows.as x0)
theorem spec_LcpRows.fok : FnOk Try.prog 102 Try.f102 spec_LcpRows.ms spec_LcpRows.b := ⟨Try.func102, by kernel_rfl, by kernel_rfl⟩
noncomputable def spec_LcpRows.fn : Args tab spec_LcpRows.as → Option (ResT tab spec_LcpRows.rs) := fun x => spec_LcpRows x
theorem spec_LcpRows.con {δ : Type} : Con Try.prog (KT tab) 102 (calleeS (β := δ) tab spec_LcpRows.ms spec_LcpRows.as spec_LcpRows.rs spec_LcpRows.fn) := con_shape (c := spec_LcpRows.c) mixed tysOk (getG_con (spec_LcpRows.gok _)) spec_LcpRows.fok rfl rfl (fun _ => rfl)
noncomputable def spec_LcpRows_l0 (v0 : List Int) (v1 : Int) (v2 : List Int) (v3 : List Int) : Option (List Int) := Lw spec_LcpRows.c (finish spec_LcpRows.c (fiOf (GT tab) Try.f102 spec_LcpRows.ms) (decRes tab spec_LcpRows.rs)) ((loops spec_LcpRows.c.cuts 1000 spec_LcpRows.b []).getD 0 []) { slots := [.vs false 5 v0, .undef, .undef, .sl 0 0, .sl 1 0, .int .i64 v1, .undef, .undef, .undef, .undef, .undef, .undef, .undef, .undef, .undef, .undef, .undef, .undef, .undef, .undef, .undef, .undef, .undef, .undef, .undef, .undef, .undef, .undef, .undef, .undef, .undef, .undef, .undef, .undef, .undef, .undef, .undef, .undef], loc := locOf [.row 0 true 3 v2, .row 0 true 3 v3], nx := 2 }
theorem spec_LcpRows.eq (x0 : List Int) : spec_LcpRows x0 =
    (spec_SuffixRows x0).bind fun y1 =>
    spec_LcpRows_l0 x0 (0 : Int) y1 ([] : List Int) := by kernel_rfl
theorem spec_LcpRows_l0.eq (v0 : List Int) (v1 : Int) (v2 : List Int) (v3 : List Int) : spec_LcpRows_l0 v0 v1 v2 v3 =
    bif decide (v1 < (v2.length : Int)) then
      bif v1 == (0 : Int) then
        bif decide ((v3.length + ([(0 : Int)] : List Int).length) * 8 ≤ 140737488355328) then
          spec_LcpRows_l0 v0 (IntKind.i64.wrap (v1 + (1 : Int))) v2 (v3 ++ ([(0 : Int)] : List Int))
        else
          none
      else
        (at? v2 (IntKind.i64.wrap (v1 - (1 : Int)))).bind fun y1 =>
        v2[(IntKind.i64.wrap (v1 - (1 : Int))).toNat]?.bind fun y2 =>
        bif decide (0 ≤ y2 ∧ y2 ≤ ((v0.length : Nat) : Int)) then
          (at? v2 v1).bind fun y3 =>
          v2[v1.toNat]?.bind fun y4 =>
          bif decide (0 ≤ y4 ∧ y4 ≤ ((v0.length : Nat) : Int)) then
            (spec_l05Common ((v0.take v0.length).drop y2.toNat) ((v0.take v0.length).drop y4.toNat)).bind fun y5 =>
            bif decide ((v3.length + ([y5] : List Int).length) * 8 ≤ 140737488355328) then
              spec_LcpRows_l0 v0 (IntKind.i64.wrap (v1 + (1 : Int))) v2 (v3 ++ ([y5] : List Int))
            else
              none
          else
            none
        else
          none
    else
      some v3 := (Lw_eq tysOk (getG_con (spec_LcpRows.gok _)) _ _).trans (by kernel_rfl)

/-! ### spec_l15Right: loop.example/g00688/spec.l15Right -/
def spec_l15Right.ms : List Mode := [.lend]
def spec_l15Right.as : List VSh := [.one (.b (.b (.b (.b (.sl false false 3)))))]
def spec_l15Right.rs : RSh := ⟨[.one (.b (.b (.b (.b (.bool)))))], [none]⟩
noncomputable def spec_l15Right.gs (δ : Type) : List (Nat × Callee (GT tab) δ) := []
theorem spec_l15Right.gok (δ : Type) : AllCon Try.prog tab (spec_l15Right.gs δ) := .nil
noncomputable def spec_l15Right.c : Ctx (GT tab) (KT tab) (ResT tab spec_l15Right.rs) := { X := XT tab, ty := tyOf tys, inner := fun _ => true, keep := keepOf 0 spec_l15Right.ms, cuts := [], live := liveOf [(4, [0, 3])], G := getG (spec_l15Right.gs _) }
noncomputable def spec_l15Right.b : Code := bodyOf Try.f152
noncomputable def spec_l15Right (x0 : List Int) : Option (Bool) := callW spec_l15Right.c (fiOf (GT tab) Try.f152 spec_l15Right.ms) spec_l15Right.b (decRes tab spec_l15Right.rs) (encArgs tab spec_l15Right.as x0)
theorem spec_l15Right.fok : FnOk Try.prog 152 Try.f152 spec_l15Right.ms spec_l15Right.b := ⟨Try.func152, by kernel_rfl, by kernel_rfl⟩
noncomputable def spec_l15Right.fn : Args tab spec_l15Right.as → Option (ResT tab spec_l15Right.rs) := fun x => spec_l15Right x
theorem spec_l15Right.con {δ : Type} : Con Try.prog (KT tab) 152 (calleeS (β := δ) tab spec_l15Right.ms spec_l15Right.as spec_l15Right.rs spec_l15Right.fn) := con_shape (c := spec_l15Right.c) mixed tysOk (getG_con (spec_l15Right.gok _)) spec_l15Right.fok rfl rfl (fun _ => rfl)
noncomputable def spec_l15Right_l0 (v0 : List Int) (v1 : Int) : Option (Bool) := Lw spec_l15Right.c (finish spec_l15Right.c (fiOf (GT tab) Try.f152 spec_l15Right.ms) (decRes tab spec_l15Right.rs)) ((loops spec_l15Right.c.cuts 1000 spec_l15Right.b []).getD 0 []) { slots := [.vs false 3 v0, .undef, .undef, .int .i64 v1, .undef, .undef, .undef, .undef, .undef, .undef, .undef, .undef, .undef, .undef, .undef, .undef, .undef, .undef, .undef, .undef, .undef, .undef, .undef, .undef, .undef], loc := locOf [], nx := 0 }
theorem spec_l15Right.eq (x0 : List Int) : spec_l15Right x0 =
    bif decide ((x0.length : Int) > (301 : Int)) then
      some false
    else
      spec_l15Right_l0 x0 (0 : Int) := by kernel_rfl
theorem spec_l15Right_l0.eq (v0 : List Int) (v1 : Int) : spec_l15Right_l0 v0 v1 =
    bif decide (v1 < (v0.length : Int)) then
      (at? v0 v1).bind fun y1 =>
      bif decide (y1 < (-1000000 : Int)) then
        some false
      else
        (at? v0 v1).bind fun y2 =>
        bif decide (y2 > (1000000 : Int)) then
          some false
        else
          spec_l15Right_l0 v0 (IntKind.i64.wrap (v1 + (1 : Int)))
    else
      some true := (Lw_eq tysOk (getG_con (spec_l15Right.gok _)) _ _).trans (by kernel_rfl)

/-! ### spec_Deltas: loop.example/g00688/spec.Deltas -/
def spec_Deltas.ms : List Mode := [.lend]
def spec_Deltas.as : List VSh := [.one (.b (.b (.b (.b (.sl false false 3)))))]
def spec_Deltas.rs : RSh := ⟨[.one (.b (.b (.b (.b (.sl true true 3))))), .one (.b (.b (.b (.b (.bool)))))], [none]⟩
noncomputable def spec_Deltas.gs (δ : Type) : List (Nat × Callee (GT tab) δ) := [(152, calleeS tab spec_l15Right.ms spec_l15Right.as spec_l15Right.rs spec_l15Right.fn)]
theorem spec_Deltas.gok (δ : Type) : AllCon Try.prog tab (spec_Deltas.gs δ) := .cons spec_l15Right.con (.nil)
noncomputable def spec_Deltas.c : Ctx (GT tab) (KT tab) (ResT tab spec_Deltas.rs) := { X := XT tab, ty := tyOf tys, inner := fun _ => true, keep := keepOf 0 spec_Deltas.ms, cuts := [], live := liveOf [(5, [0, 4, 5])], G := getG (spec_Deltas.gs _) }
noncomputable def spec_Deltas.b : Code := bodyOf Try.f101
noncomputable def spec_Deltas (x0 : List Int) : Option ((List Int) × Bool) := callW spec_Deltas.c (fiOf (GT tab) Try.f101 spec_Deltas.ms) spec_Deltas.b (decRes tab spec_Deltas.rs) (encArgs tab spec_Deltas.as x0)
theorem spec_Deltas.fok : FnOk Try.prog 101 Try.f101 spec_Deltas.ms spec_Deltas.b := ⟨Try.func101, by kernel_rfl, by kernel_rfl⟩
noncomputable def spec_Deltas.fn : Args tab spec_Deltas.as → Option (ResT tab spec_Deltas.rs) := fun x => spec_Deltas x
theorem spec_Deltas.con {δ : Type} : Con Try.prog (KT tab) 101 (calleeS (β := δ) tab spec_Deltas.ms spec_Deltas.as spec_Deltas.rs spec_Deltas.fn) := con_shape (c := spec_Deltas.c) mixed tysOk (getG_con (spec_Deltas.gok _)) spec_Deltas.fok rfl rfl (fun _ => rfl)
noncomputable def spec_Deltas_l0 (v0 : List Int) (v1 : Int) (v2 : List Int) : Option ((List Int) × Bool) := Lw spec_Deltas.c (finish spec_Deltas.c (fiOf (GT tab) Try.f101 spec_Deltas.ms) (decRes tab spec_Deltas.rs)) ((loops spec_Deltas.c.cuts 1000 spec_Deltas.b []).getD 0 []) { slots := [.vs false 3 v0, .undef, .undef, .undef, .sl 0 0, .int .i64 v1, .undef, .undef, .undef, .undef, .undef, .undef, .undef, .undef, .undef, .undef, .undef, .undef, .undef, .undef, .undef, .undef, .undef, .undef, .undef, .undef, .undef, .undef, .undef, .undef, .undef, .undef, .undef, .undef, .undef, .undef, .undef, .undef, .undef, .undef, .undef], loc := locOf [.row 0 true 3 v2], nx := 1 }
theorem spec_Deltas.eq (x0 : List Int) : spec_Deltas x0 =
    (spec_l15Right x0).bind fun y1 =>
    bif !y1 then
      some (([] : List Int), false)
    else
      spec_Deltas_l0 x0 (0 : Int) ([] : List Int) := by kernel_rfl
theorem spec_Deltas_l0.eq (v0 : List Int) (v1 : Int) (v2 : List Int) : spec_Deltas_l0 v0 v1 v2 =
    bif decide (v1 < (v0.length : Int)) then
      bif v1 == (0 : Int) then
        (at? v0 (0 : Int)).bind fun y1 =>
        bif decide ((v2.length + ([y1] : List Int).length) * 8 ≤ 140737488355328) then
          spec_Deltas_l0 v0 (IntKind.i64.wrap (v1 + (1 : Int))) (v2 ++ ([y1] : List Int))
        else
          none
      else
        (at? v0 v1).bind fun y2 =>
        (at? v0 (IntKind.i64.wrap (v1 - (1 : Int)))).bind fun y3 =>
        bif decide ((v2.length + ([IntKind.i64.wrap (y2 - y3)] : List Int).length) * 8 ≤ 140737488355328) then
          spec_Deltas_l0 v0 (IntKind.i64.wrap (v1 + (1 : Int))) (v2 ++ ([IntKind.i64.wrap (y2 - y3)] : List Int))
        else
          none
    else
      (spec_l15Right v2).bind fun y4 =>
      bif !y4 then
        some (([] : List Int), false)
      else
        some (v2, true) := (Lw_eq tysOk (getG_con (spec_Deltas.gok _)) _ _).trans (by kernel_rfl)

/-! ### impl_TextOk: loop.example/g00688/impl.TextOk -/
def impl_TextOk.ms : List Mode := [.lend]
def impl_TextOk.as : List VSh := [.one (.b (.b (.b (.b (.sl false false 5)))))]
def impl_TextOk.rs : RSh := ⟨[.one (.b (.b (.b (.b (.bool)))))], [none]⟩
noncomputable def impl_TextOk.gs (δ : Type) : List (Nat × Callee (GT tab) δ) := []
theorem impl_TextOk.gok (δ : Type) : AllCon Try.prog tab (impl_TextOk.gs δ) := .nil
noncomputable def impl_TextOk.c : Ctx (GT tab) (KT tab) (ResT tab impl_TextOk.rs) := { X := XT tab, ty := tyOf tys, inner := fun _ => true, keep := keepOf 0 impl_TextOk.ms, cuts := [], live := liveOf [], G := getG (impl_TextOk.gs _) }
noncomputable def impl_TextOk.b : Code := bodyOf Try.f104
noncomputable def impl_TextOk (x0 : List Int) : Option (Bool) := callW impl_TextOk.c (fiOf (GT tab) Try.f104 impl_TextOk.ms) impl_TextOk.b (decRes tab impl_TextOk.rs) (encArgs tab impl_TextOk.as x0)
theorem impl_TextOk.fok : FnOk Try.prog 104 Try.f104 impl_TextOk.ms impl_TextOk.b := ⟨Try.func104, by kernel_rfl, by kernel_rfl⟩
noncomputable def impl_TextOk.fn : Args tab impl_TextOk.as → Option (ResT tab impl_TextOk.rs) := fun x => impl_TextOk x
theorem impl_TextOk.con {δ : Type} : Con Try.prog (KT tab) 104 (calleeS (β := δ) tab impl_TextOk.ms impl_TextOk.as impl_TextOk.rs impl_TextOk.fn) := con_shape (c := impl_TextOk.c) mixed tysOk (getG_con (impl_TextOk.gok _)) impl_TextOk.fok rfl rfl (fun _ => rfl)
theorem impl_TextOk.eq (x0 : List Int) : impl_TextOk x0 =
    some (decide ((x0.length : Int) ≤ (300 : Int))) := by kernel_rfl

/-! ### bytealg_Compare: internal/bytealg.Compare (by hand) -/
def bytealg_Compare.ms : List Mode := [.lend, .lend]
def bytealg_Compare.as : List VSh := [.one (.b (.b (.b (.b (.sl false false 5))))), .one (.b (.b (.b (.b (.sl false false 5)))))]
def bytealg_Compare.rs : RSh := ⟨[.one (.b (.b (.b (.b (.int .i64)))))], [none, none]⟩
noncomputable def bytealg_Compare (x0 : List Int) (x1 : List Int) : Option (Int) := some (cmpB (x0.map fun x => x) (x1.map fun x => x))
noncomputable def bytealg_Compare.fn : Args tab bytealg_Compare.as → Option (ResT tab bytealg_Compare.rs) := fun x => bytealg_Compare x.1 x.2
theorem bytealg_Compare.con {δ : Type} : Con Try.prog (KT tab) 191 (calleeS (β := δ) tab bytealg_Compare.ms bytealg_Compare.as bytealg_Compare.rs bytealg_Compare.fn) := con_compare Try.func191 (by kernel_rfl) (by kernel_rfl) (by kernel_rfl) (by kernel_rfl) (l := tab) (e := 5) (g := fun x => x) rfl

/-! ### bytes_Compare: bytes.Compare -/
def bytes_Compare.ms : List Mode := [.lend, .lend]
def bytes_Compare.as : List VSh := [.one (.b (.b (.b (.b (.sl false false 5))))), .one (.b (.b (.b (.b (.sl false false 5)))))]
def bytes_Compare.rs : RSh := ⟨[.one (.b (.b (.b (.b (.int .i64)))))], [none, none]⟩
noncomputable def bytes_Compare.gs (δ : Type) : List (Nat × Callee (GT tab) δ) := [(191, calleeS tab bytealg_Compare.ms bytealg_Compare.as bytealg_Compare.rs bytealg_Compare.fn)]
theorem bytes_Compare.gok (δ : Type) : AllCon Try.prog tab (bytes_Compare.gs δ) := .cons bytealg_Compare.con (.nil)
noncomputable def bytes_Compare.c : Ctx (GT tab) (KT tab) (ResT tab bytes_Compare.rs) := { X := XT tab, ty := tyOf tys, inner := fun _ => true, keep := keepOf 0 bytes_Compare.ms, cuts := [], live := liveOf [], G := getG (bytes_Compare.gs _) }
noncomputable def bytes_Compare.b : Code := bodyOf Try.f179
noncomputable def bytes_Compare (x0 : List Int) (x1 : List Int) : Option (Int) := callW bytes_Compare.c (fiOf (GT tab) Try.f179 bytes_Compare.ms) bytes_Compare.b (decRes tab bytes_Compare.rs) (encArgs tab bytes_Compare.as (x0, x1))
theorem bytes_Compare.fok : FnOk Try.prog 179 Try.f179 bytes_Compare.ms bytes_Compare.b := ⟨Try.func179, by kernel_rfl, by kernel_rfl⟩
noncomputable def bytes_Compare.fn : Args tab bytes_Compare.as → Option (ResT tab bytes_Compare.rs) := fun x => bytes_Compare x.1 x.2
theorem bytes_Compare.con {δ : Type} : Con Try.prog (KT tab) 179 (calleeS (β := δ) tab bytes_Compare.ms bytes_Compare.as bytes_Compare.rs bytes_Compare.fn) := con_shape (c := bytes_Compare.c) mixed tysOk (getG_con (bytes_Compare.gok _)) bytes_Compare.fok rfl rfl (fun _ => rfl)
theorem bytes_Compare.eq (x0 : List Int) (x1 : List Int) : bytes_Compare x0 x1 =
    (bytealg_Compare x0 x1).bind fun y1 =>
    some y1 := by kernel_rfl

/-! ### impl_suffixRows_1: loop.example/g00688/impl.suffixRows$1 -/
def impl_suffixRows_1.ms : List Mode := [.lend, .lend, .lend]
def impl_suffixRows_1.as : List VSh := [.one (.b (.b (.b (.b (.int .i64))))), .one (.b (.b (.b (.b (.int .i64))))), .one (.ptr false 27 [.b (.b (.b (.sl false false 5)))])]
def impl_suffixRows_1.rs : RSh := ⟨[.one (.b (.b (.b (.b (.int .i64)))))], [none, none, none]⟩
noncomputable def impl_suffixRows_1.gs (δ : Type) : List (Nat × Callee (GT tab) δ) := [(179, calleeS tab bytes_Compare.ms bytes_Compare.as bytes_Compare.rs bytes_Compare.fn)]
theorem impl_suffixRows_1.gok (δ : Type) : AllCon Try.prog tab (impl_suffixRows_1.gs δ) := .cons bytes_Compare.con (.nil)
noncomputable def impl_suffixRows_1.c : Ctx (GT tab) (KT tab) (ResT tab impl_suffixRows_1.rs) := { X := XT tab, ty := tyOf tys, inner := fun _ => true, keep := keepOf 0 impl_suffixRows_1.ms, cuts := [], live := liveOf [], G := getG (impl_suffixRows_1.gs _) }
noncomputable def impl_suffixRows_1.b : Code := bodyOf Try.f178
noncomputable def impl_suffixRows_1 (x0 : Int) (x1 : Int) (x2 : List Int) : Option (Int) := callW impl_suffixRows_1.c (fiOf (GT tab) Try.f178 impl_suffixRows_1.ms) impl_suffixRows_1.b (decRes tab impl_suffixRows_1.rs) (encArgs tab impl_suffixRows_1.as (x0, x1, x2))
theorem impl_suffixRows_1.fok : FnOk Try.prog 178 Try.f178 impl_suffixRows_1.ms impl_suffixRows_1.b := ⟨Try.func178, by kernel_rfl, by kernel_rfl⟩
noncomputable def impl_suffixRows_1.fn : Args tab impl_suffixRows_1.as → Option (ResT tab impl_suffixRows_1.rs) := fun x => impl_suffixRows_1 x.1 x.2.1 x.2.2
theorem impl_suffixRows_1.con {δ : Type} : Con Try.prog (KT tab) 178 (calleeS (β := δ) tab impl_suffixRows_1.ms impl_suffixRows_1.as impl_suffixRows_1.rs impl_suffixRows_1.fn) := con_shape (c := impl_suffixRows_1.c) mixed tysOk (getG_con (impl_suffixRows_1.gok _)) impl_suffixRows_1.fok rfl rfl (fun _ => rfl)
theorem impl_suffixRows_1.eq (x0 : Int) (x1 : Int) (x2 : List Int) : impl_suffixRows_1 x0 x1 x2 =
    bif decide (0 ≤ x0 ∧ x0 ≤ ((x2.length : Nat) : Int)) then
      bif decide (0 ≤ x1 ∧ x1 ≤ ((x2.length : Nat) : Int)) then
        (bytes_Compare ((x2.take x2.length).drop x0.toNat) ((x2.take x2.length).drop x1.toNat)).bind fun y1 =>
        some y1
      else
        none
    else
      none := by kernel_rfl

/-! ### slices_SortFunc_int_int_suffixRows_1: slices.SortFunc[[]int,int] (by hand) -/
def slices_SortFunc_int_int_suffixRows_1.ms : List Mode := [.keep, .lend]
def slices_SortFunc_int_int_suffixRows_1.as : List VSh := [.one (.b (.b (.b (.b (.sl true true 3))))), .one (.fn 178 [.ptr false 27 [.b (.b (.sl false false 5))]])]
def slices_SortFunc_int_int_suffixRows_1.rs : RSh := ⟨[], [some (.one (.b (.b (.b (.b (.sl true true 3)))))), none]⟩
noncomputable def slices_SortFunc_int_int_suffixRows_1 (x0 : List Int) (x1 : List Int) : Option (List Int) := sortC (fun a b => impl_suffixRows_1 a b x1) x0
noncomputable def slices_SortFunc_int_int_suffixRows_1.fn : Args tab slices_SortFunc_int_int_suffixRows_1.as → Option (ResT tab slices_SortFunc_int_int_suffixRows_1.rs) := fun x => slices_SortFunc_int_int_suffixRows_1 x.1 x.2
theorem slices_SortFunc_int_int_suffixRows_1.con {δ : Type} : Con Try.prog (KT tab) 177 (calleeS (β := δ) tab slices_SortFunc_int_int_suffixRows_1.ms slices_SortFunc_int_int_suffixRows_1.as slices_SortFunc_int_int_suffixRows_1.rs slices_SortFunc_int_int_suffixRows_1.fn) := con_sort (l := tab) Try.laysSort177 rfl (e := 3) (g := fun x => x) rfl (gf := 178) (fun a w => FnOk.enters impl_suffixRows_1.fok a w) (cv := .one (.fn 178 [.ptr false 27 [.b (.b (.sl false false 5))]])) (capsT := fun y => [.ptr false 27 [.sl false false 5 y]]) (fun _ => by kernel_rfl) (fun y => List.all_eq_true.1 (by kernel_rfl)) (cal := calleeS tab impl_suffixRows_1.ms impl_suffixRows_1.as impl_suffixRows_1.rs impl_suffixRows_1.fn) impl_suffixRows_1.con (ks := [none, none, none]) (F := fun a b y => impl_suffixRows_1 a b y) (fun a b y => sem_map (by kernel_rfl))

/-! ### impl_suffixRows: loop.example/g00688/impl.suffixRows -/
def impl_suffixRows.ms : List Mode := [.lend]
def impl_suffixRows.as : List VSh := [.one (.b (.b (.b (.b (.sl false false 5)))))]
def impl_suffixRows.rs : RSh := ⟨[.one (.b (.b (.b (.b (.sl true true 3)))))], [none]⟩
noncomputable def impl_suffixRows.gs (δ : Type) : List (Nat × Callee (GT tab) δ) := [(177, calleeS tab slices_SortFunc_int_int_suffixRows_1.ms slices_SortFunc_int_int_suffixRows_1.as slices_SortFunc_int_int_suffixRows_1.rs slices_SortFunc_int_int_suffixRows_1.fn)]
theorem impl_suffixRows.gok (δ : Type) : AllCon Try.prog tab (impl_suffixRows.gs δ) := .cons slices_SortFunc_int_int_suffixRows_1.con (.nil)
noncomputable def impl_suffixRows.c : Ctx (GT tab) (KT tab) (ResT tab impl_suffixRows.rs) := { X := XT tab, ty := tyOf tys, inner := fun _ => true, keep := keepOf 0 impl_suffixRows.ms, cuts := [], live := liveOf [(3, [1, 3, 7, 8])], G := getG (impl_suffixRows.gs _) }
noncomputable def impl_suffixRows.b : Code := bodyOf Try.f158
noncomputable def impl_suffixRows (x0 : List Int) : Option (List Int) := callW impl_suffixRows.c (fiOf (GT tab) Try.f158 impl_suffixRows.ms) impl_suffixRows.b (decRes tab impl_suffixRows.rs) (encArgs tab impl_suffixRows.as x0)
theorem impl_suffixRows.fok : FnOk Try.prog 158 Try.f158 impl_suffixRows.ms impl_suffixRows.b := ⟨Try.func158, by kernel_rfl, by kernel_rfl⟩
noncomputable def impl_suffixRows.fn : Args tab impl_suffixRows.as → Option (ResT tab impl_suffixRows.rs) := fun x => impl_suffixRows x
theorem impl_suffixRows.con {δ : Type} : Con Try.prog (KT tab) 158 (calleeS (β := δ) tab impl_suffixRows.ms impl_suffixRows.as impl_suffixRows.rs impl_suffixRows.fn) := con_shape (c := impl_suffixRows.c) mixed tysOk (getG_con (impl_suffixRows.gok _)) impl_suffixRows.fok rfl rfl (fun _ => rfl)
noncomputable def impl_suffixRows_l0 (v0 : Int) (v1 : Int) (v2 : List Int) (v3 : List Int) : Option (List Int) := Lw impl_suffixRows.c (finish impl_suffixRows.c (fiOf (GT tab) Try.f158 impl_suffixRows.ms) (decRes tab impl_suffixRows.rs)) ((loops impl_suffixRows.c.cuts 1000 impl_suffixRows.b []).getD 0 []) { slots := [.undef, .ptr 0 0, .undef, .sl 1 0, .undef, .undef, .undef, .int .i64 v0, .int .i64 v1, .undef, .undef, .undef, .undef, .undef, .undef, .undef, .undef, .undef, .undef, .undef], loc := locOf [.box 27 [.vs false 5 v2], .row 0 true 3 v3], nx := 2 }
theorem impl_suffixRows.eq (x0 : List Int) : impl_suffixRows x0 =
    impl_suffixRows_l0 (IntKind.i64.wrap ((x0.length : Int) + (1 : Int))) (0 : Int) x0 ([] : List Int) := by kernel_rfl
theorem impl_suffixRows_l0.eq (v0 : Int) (v1 : Int) (v2 : List Int) (v3 : List Int) : impl_suffixRows_l0 v0 v1 v2 v3 =
    bif decide (v1 < v0) then
      bif decide ((v3.length + ([v1] : List Int).length) * 8 ≤ 140737488355328) then
        impl_suffixRows_l0 v0 (IntKind.i64.wrap (v1 + (1 : Int))) v2 (v3 ++ ([v1] : List Int))
      else
        none
    else
      (slices_SortFunc_int_int_suffixRows_1 v3 v2).bind fun y1 =>
      some y1 := (Lw_eq tysOk (getG_con (impl_suffixRows.gok _)) _ _).trans (by kernel_rfl)

/-! ### impl_common: loop.example/g00688/impl.common -/
def impl_common.ms : List Mode := [.lend, .lend]
def impl_common.as : List VSh := [.one (.b (.b (.b (.b (.sl false false 5))))), .one (.b (.b (.b (.b (.sl false false 5)))))]
def impl_common.rs : RSh := ⟨[.one (.b (.b (.b (.b (.int .i64)))))], [none, none]⟩
noncomputable def impl_common.gs (δ : Type) : List (Nat × Callee (GT tab) δ) := []
theorem impl_common.gok (δ : Type) : AllCon Try.prog tab (impl_common.gs δ) := .nil
noncomputable def impl_common.c : Ctx (GT tab) (KT tab) (ResT tab impl_common.rs) := { X := XT tab, ty := tyOf tys, inner := fun _ => true, keep := keepOf 0 impl_common.ms, cuts := [], live := liveOf [(2, [0, 1, 5])], G := getG (impl_common.gs _) }
noncomputable def impl_common.b : Code := bodyOf Try.f159
noncomputable def impl_common (x0 : List Int) (x1 : List Int) : Option (Int) := callW impl_common.c (fiOf (GT tab) Try.f159 impl_common.ms) impl_common.b (decRes tab impl_common.rs) (encArgs tab impl_common.as (x0, x1))
theorem impl_common.fok : FnOk Try.prog 159 Try.f159 impl_common.ms impl_common.b := ⟨Try.func159, by kernel_rfl, by kernel_rfl⟩
noncomputable def impl_common.fn : Args tab impl_common.as → Option (ResT tab impl_common.rs) := fun x => impl_common x.1 x.2
theorem impl_common.con {δ : Type} : Con Try.prog (KT tab) 159 (calleeS (β := δ) tab impl_common.ms impl_common.as impl_common.rs impl_common.fn) := con_shape (c := impl_common.c) mixed tysOk (getG_con (impl_common.gok _)) impl_common.fok rfl rfl (fun _ => rfl)
noncomputable def impl_common_l0 (v0 : List Int) (v1 : List Int) (v2 : Int) : Option (Int) := Lw impl_common.c (finish impl_common.c (fiOf (GT tab) Try.f159 impl_common.ms) (decRes tab impl_common.rs)) ((loops impl_common.c.cuts 1000 impl_common.b []).getD 0 []) { slots := [.vs false 5 v0, .vs false 5 v1, .undef, .undef, .undef, .int .i64 v2, .undef, .undef, .undef, .undef, .undef, .undef, .undef, .undef, .undef, .undef, .undef, .undef, .undef, .undef, .undef, .undef, .undef, .undef, .undef, .undef, .undef], loc := locOf [], nx := 0 }
theorem impl_common.eq (x0 : List Int) (x1 : List Int) : impl_common x0 x1 =
    impl_common_l0 x0 x1 (0 : Int) := by kernel_rfl
theorem impl_common_l0.eq (v0 : List Int) (v1 : List Int) (v2 : Int) : impl_common_l0 v0 v1 v2 =
    bif decide (v2 < (if (v1.length : Int) < (v0.length : Int) then (v1.length : Int) else (v0.length : Int))) then
      (at? v0 v2).bind fun y1 =>
      (at? v1 v2).bind fun y2 =>
      bif y1 == y2 then
        impl_common_l0 v0 v1 (IntKind.i64.wrap (v2 + (1 : Int)))
      else
        some v2
    else
      some v2 := (Lw_eq tysOk (getG_con (impl_common.gok _)) _ _).trans (by kernel_rfl)

/-! ### impl_lcpRows: loop.example/g00688/impl.lcpRows -/
def impl_lcpRows.ms : List Mode := [.lend]
def impl_lcpRows.as : List VSh := [.one (.b (.b (.b (.b (.sl false false 5)))))]
def impl_lcpRows.rs : RSh := ⟨[.one (.b (.b (.b (.b (.sl true true 3)))))], [none]⟩
noncomputable def impl_lcpRows.gs (δ : Type) : List (Nat × Callee (GT tab) δ) := [(158, calleeS tab impl_suffixRows.ms impl_suffixRows.as impl_suffixRows.rs impl_suffixRows.fn), (159, calleeS tab impl_common.ms impl_common.as impl_common.rs impl_common.fn)]
theorem impl_lcpRows.gok (δ : Type) : AllCon Try.prog tab (impl_lcpRows.gs δ) := .cons impl_suffixRows.con (.cons impl_common.con (.nil))
noncomputable def impl_lcpRows.c : Ctx (GT tab) (KT tab) (ResT tab impl_lcpRows.rs) := { X := XT tab, ty := tyOf tys, inner := fun _ => true, keep := keepOf 0 impl_lcpRows.ms, cuts := [], live := liveOf [(4, [0, 3, 4, 5])], G := getG (impl_lcpRows.gs _) }
noncomputable def impl_lcpRows.b : Code := bodyOf Try.f107
noncomputable def impl_lcpRows (x0 : List Int) : Option (List Int) := callW impl_lcpRows.c (fiOf (GT tab) Try.f107 impl_lcpRows.ms) impl_lcpRows.b (decRes tab impl_lcpRows.rs) (encArgs tab impl_lcpRows.as x0)
theorem impl_lcpRows.fok : FnOk Try.prog 107 Try.f107 impl_lcpRows.ms impl_lcpRows.b := ⟨Try.func107, by kernel_rfl, by kernel_rfl⟩
noncomputable def impl_lcpRows.fn : Args tab impl_lcpRows.as → Option (ResT tab impl_lcpRows.rs) := fun x => impl_lcpRows x
theorem impl_lcpRows.con {δ : Type} : Con Try.prog (KT tab) 107 (calleeS (β := δ) tab impl_lcpRows.ms impl_lcpRows.as impl_lcpRows.rs impl_lcpRows.fn) := con_shape (c := impl_lcpRows.c) mixed tysOk (getG_con (impl_lcpRows.gok _)) impl_lcpRows.fok rfl rfl (fun _ => rfl)
noncomputable def impl_lcpRows_l0 (v0 : List Int) (v1 : Int) (v2 : List Int) (v3 : List Int) : Option (List Int) := Lw impl_lcpRows.c (finish impl_lcpRows.c (fiOf (GT tab) Try.f107 impl_lcpRows.ms) (decRes tab impl_lcpRows.rs)) ((loops impl_lcpRows.c.cuts 1000 impl_lcpRows.b []).getD 0 []) { slots := [.vs false 5 v0, .undef, .undef, .sl 0 0, .sl 1 0, .int .i64 v1, .undef, .undef, .undef, .undef, .undef, .undef, .undef, .undef, .undef, .undef, .undef, .undef, .undef, .undef, .undef, .undef, .undef, .undef, .undef, .undef, .undef, .undef, .undef, .undef, .undef, .undef, .undef, .undef, .undef], loc := locOf [.row 0 true 3 v2, .row 0 true 3 v3], nx := 2 }
theorem impl_lcpRows.eq (x0 : List Int) : impl_lcpRows x0 =
    (impl_suffixRows x0).bind fun y1 =>
    bif decide ((0 : Int) ≤ (y1.length : Int)) && decide (((y1.length : Int).toNat) * 8 ≤ 140737488355328) then
      impl_lcpRows_l0 x0 (1 : Int) y1 (List.replicate ((y1.length : Int).toNat) (0 : Int))
    else
      none := by kernel_rfl
theorem impl_lcpRows_l0.eq (v0 : List Int) (v1 : Int) (v2 : List Int) (v3 : List Int) : impl_lcpRows_l0 v0 v1 v2 v3 =
    bif decide (v1 < (v2.length : Int)) then
      (at? v2 (IntKind.i64.wrap (v1 - (1 : Int)))).bind fun y1 =>
      v2[(IntKind.i64.wrap (v1 - (1 : Int))).toNat]?.bind fun y2 =>
      bif decide (0 ≤ y2 ∧ y2 ≤ ((v0.length : Nat) : Int)) then
        (at? v2 v1).bind fun y3 =>
        v2[v1.toNat]?.bind fun y4 =>
        bif decide (0 ≤ y4 ∧ y4 ≤ ((v0.length : Nat) : Int)) then
          (impl_common ((v0.take v0.length).drop y2.toNat) ((v0.take v0.length).drop y4.toNat)).bind fun y5 =>
          (at? v3 v1).bind fun y6 =>
          v3[v1.toNat]?.bind fun y7 =>
          impl_lcpRows_l0 v0 (IntKind.i64.wrap (v1 + (1 : Int))) v2 (v3.set v1.toNat y5)
        else
          none
      else
        none
    else
      some v3 := (Lw_eq tysOk (getG_con (impl_lcpRows.gok _)) _ _).trans (by kernel_rfl)

/-! ### slices_Clone_int_int: slices.Clone[[]int,int] -/
def slices_Clone_int_int.ms : List Mode := [.lend]
def slices_Clone_int_int.as : List VSh := [.one (.b (.b (.b (.b (.sl false false 3)))))]
def slices_Clone_int_int.rs : RSh := ⟨[.one (.b (.b (.b (.b (.sl true true 3)))))], [none]⟩
noncomputable def slices_Clone_int_int.gs (δ : Type) : List (Nat × Callee (GT tab) δ) := []
theorem slices_Clone_int_int.gok (δ : Type) : AllCon Try.prog tab (slices_Clone_int_int.gs δ) := .nil
noncomputable def slices_Clone_int_int.c : Ctx (GT tab) (KT tab) (ResT tab slices_Clone_int_int.rs) := { X := XT tab, ty := tyOf tys, inner := fun _ => true, keep := keepOf 0 slices_Clone_int_int.ms, cuts := [], live := liveOf [], G := getG (slices_Clone_int_int.gs _) }
noncomputable def slices_Clone_int_int.b : Code := bodyOf Try.f157
noncomputable def slices_Clone_int_int (x0 : List Int) : Option (List Int) := callW slices_Clone_int_int.c (fiOf (GT tab) Try.f157 slices_Clone_int_int.ms) slices_Clone_int_int.b (decRes tab slices_Clone_int_int.rs) (encArgs tab slices_Clone_int_int.as x0)
theorem slices_Clone_int_int.fok : FnOk Try.prog 157 Try.f157 slices_Clone_int_int.ms slices_Clone_int_int.b := ⟨Try.func157, by kernel_rfl, by kernel_rfl⟩
noncomputable def slices_Clone_int_int.fn : Args tab slices_Clone_int_int.as → Option (ResT tab slices_Clone_int_int.rs) := fun x => slices_Clone_int_int x
theorem slices_Clone_int_int.con {δ : Type} : Con Try.prog (KT tab) 157 (calleeS (β := δ) tab slices_Clone_int_int.ms slices_Clone_int_int.as slices_Clone_int_int.rs slices_Clone_int_int.fn) := con_shape (c := slices_Clone_int_int.c) mixed tysOk (getG_con (slices_Clone_int_int.gok _)) slices_Clone_int_int.fok rfl rfl (fun _ => rfl)
theorem slices_Clone_int_int.eq (x0 : List Int) : slices_Clone_int_int x0 =
    bif x0.length.beq 0 then
      both (some ([] : List Int)) (bif decide ((([] : List Int).length + x0.length) * 8 ≤ 140737488355328) then
        some (([] : List Int) ++ x0)
      else
        none)
    else
      bif decide ((([] : List Int).length + x0.length) * 8 ≤ 140737488355328) then
        some (([] : List Int) ++ x0)
      else
        none := by kernel_rfl

/-! ### impl_deltas: loop.example/g00688/impl.deltas -/
def impl_deltas.ms : List Mode := [.lend]
def impl_deltas.as : List VSh := [.one (.b (.b (.b (.b (.sl false false 3)))))]
def impl_deltas.rs : RSh := ⟨[.one (.b (.b (.b (.b (.sl true true 3)))))], [none]⟩
noncomputable def impl_deltas.gs (δ : Type) : List (Nat × Callee (GT tab) δ) := [(157, calleeS tab slices_Clone_int_int.ms slices_Clone_int_int.as slices_Clone_int_int.rs slices_Clone_int_int.fn)]
theorem impl_deltas.gok (δ : Type) : AllCon Try.prog tab (impl_deltas.gs δ) := .cons slices_Clone_int_int.con (.nil)
noncomputable def impl_deltas.c : Ctx (GT tab) (KT tab) (ResT tab impl_deltas.rs) := { X := XT tab, ty := tyOf tys, inner := fun _ => true, keep := keepOf 0 impl_deltas.ms, cuts := [], live := liveOf [(3, [0, 3, 4])], G := getG (impl_deltas.gs _) }
noncomputable def impl_deltas.b : Code := bodyOf Try.f106
noncomputable def impl_deltas (x0 : List Int) : Option (List Int) := callW impl_deltas.c (fiOf (GT tab) Try.f106 impl_deltas.ms) impl_deltas.b (decRes tab impl_deltas.rs) (encArgs tab impl_deltas.as x0)
theorem impl_deltas.fok : FnOk Try.prog 106 Try.f106 impl_deltas.ms impl_deltas.b := ⟨Try.func106, by kernel_rfl, by kernel_rfl⟩
noncomputable def impl_deltas.fn : Args tab impl_deltas.as → Option (ResT tab impl_deltas.rs) := fun x => impl_deltas x
theorem impl_deltas.con {δ : Type} : Con Try.prog (KT tab) 106 (calleeS (β := δ) tab impl_deltas.ms impl_deltas.as impl_deltas.rs impl_deltas.fn) := con_shape (c := impl_deltas.c) mixed tysOk (getG_con (impl_deltas.gok _)) impl_deltas.fok rfl rfl (fun _ => rfl)
noncomputable def impl_deltas_l0 (v0 : List Int) (v1 : Int) (v2 : List Int) : Option (List Int) := Lw impl_deltas.c (finish impl_deltas.c (fiOf (GT tab) Try.f106 impl_deltas.ms) (decRes tab impl_deltas.rs)) ((loops impl_deltas.c.cuts 1000 impl_deltas.b []).getD 0 []) { slots := [.vs false 3 v0, .undef, .undef, .sl 0 0, .int .i64 v1, .undef, .undef, .undef, .undef, .undef, .undef, .undef, .undef, .undef, .undef, .undef, .undef, .undef, .undef, .undef, .undef, .undef, .undef, .undef, .undef], loc := locOf [.row 0 true 3 v2], nx := 1 }
theorem impl_deltas.eq (x0 : List Int) : impl_deltas x0 =
    (slices_Clone_int_int x0).bind fun y1 =>
    impl_deltas_l0 x0 (1 : Int) y1 := by kernel_rfl
theorem impl_deltas_l0.eq (v0 : List Int) (v1 : Int) (v2 : List Int) : impl_deltas_l0 v0 v1 v2 =
    bif decide (v1 < (v0.length : Int)) then
      (at? v2 v1).bind fun y1 =>
      v2[v1.toNat]?.bind fun y2 =>
      (at? v0 (IntKind.i64.wrap (v1 - (1 : Int)))).bind fun y3 =>
      (at? v2 v1).bind fun y4 =>
      v2[v1.toNat]?.bind fun y5 =>
      impl_deltas_l0 v0 (IntKind.i64.wrap (v1 + (1 : Int))) (v2.set v1.toNat (IntKind.i64.wrap (y2 - y3)))
    else
      some v2 := (Lw_eq tysOk (getG_con (impl_deltas.gok _)) _ _).trans (by kernel_rfl)

/-! ### impl_areCopied_1: loop.example/g00688/impl.areCopied$1 -/
def impl_areCopied_1.ms : List Mode := [.lend]
def impl_areCopied_1.as : List VSh := [.one (.b (.b (.b (.b (.int .i64)))))]
def impl_areCopied_1.rs : RSh := ⟨[.one (.b (.b (.b (.b (.bool)))))], [none]⟩
noncomputable def impl_areCopied_1.gs (δ : Type) : List (Nat × Callee (GT tab) δ) := [(117, calleeS tab impl_within.ms impl_within.as impl_within.rs impl_within.fn)]
theorem impl_areCopied_1.gok (δ : Type) : AllCon Try.prog tab (impl_areCopied_1.gs δ) := .cons impl_within.con (.nil)
noncomputable def impl_areCopied_1.c : Ctx (GT tab) (KT tab) (ResT tab impl_areCopied_1.rs) := { X := XT tab, ty := tyOf tys, inner := fun _ => true, keep := keepOf 0 impl_areCopied_1.ms, cuts := [], live := liveOf [], G := getG (impl_areCopied_1.gs _) }
noncomputable def impl_areCopied_1.b : Code := bodyOf Try.f176
noncomputable def impl_areCopied_1 (x0 : Int) : Option (Bool) := callW impl_areCopied_1.c (fiOf (GT tab) Try.f176 impl_areCopied_1.ms) impl_areCopied_1.b (decRes tab impl_areCopied_1.rs) (encArgs tab impl_areCopied_1.as x0)
theorem impl_areCopied_1.fok : FnOk Try.prog 176 Try.f176 impl_areCopied_1.ms impl_areCopied_1.b := ⟨Try.func176, by kernel_rfl, by kernel_rfl⟩
noncomputable def impl_areCopied_1.fn : Args tab impl_areCopied_1.as → Option (ResT tab impl_areCopied_1.rs) := fun x => impl_areCopied_1 x
theorem impl_areCopied_1.con {δ : Type} : Con Try.prog (KT tab) 176 (calleeS (β := δ) tab impl_areCopied_1.ms impl_areCopied_1.as impl_areCopied_1.rs impl_areCopied_1.fn) := con_shape (c := impl_areCopied_1.c) mixed tysOk (getG_con (impl_areCopied_1.gok _)) impl_areCopied_1.fok rfl rfl (fun _ => rfl)
theorem impl_areCopied_1.eq (x0 : Int) : impl_areCopied_1 x0 =
    (impl_within x0 (-1000000 : Int) (1000000 : Int)).bind fun y1 =>
    some y1 := by kernel_rfl

/-! ### impl_areAll_int_1_areCopied_1: loop.example/g00688/impl.areAll[int]$1 -/
def impl_areAll_int_1_areCopied_1.ms : List Mode := [.lend, .lend]
def impl_areAll_int_1_areCopied_1.as : List VSh := [.one (.b (.b (.b (.b (.int .i64))))), .one (.ptr false 0 [.fn 176 []])]
def impl_areAll_int_1_areCopied_1.rs : RSh := ⟨[.one (.b (.b (.b (.b (.bool)))))], [none, none]⟩
noncomputable def impl_areAll_int_1_areCopied_1.gs (δ : Type) : List (Nat × Callee (GT tab) δ) := [(176, calleeS tab impl_areCopied_1.ms impl_areCopied_1.as impl_areCopied_1.rs impl_areCopied_1.fn)]
theorem impl_areAll_int_1_areCopied_1.gok (δ : Type) : AllCon Try.prog tab (impl_areAll_int_1_areCopied_1.gs δ) := .cons impl_areCopied_1.con (.nil)
noncomputable def impl_areAll_int_1_areCopied_1.c : Ctx (GT tab) (KT tab) (ResT tab impl_areAll_int_1_areCopied_1.rs) := { X := XT tab, ty := tyOf tys, inner := fun _ => true, keep := keepOf 0 impl_areAll_int_1_areCopied_1.ms, cuts := [], live := liveOf [], G := getG (impl_areAll_int_1_areCopied_1.gs _) }
noncomputable def impl_areAll_int_1_areCopied_1.b : Code := bodyOf Try.f186
noncomputable def impl_areAll_int_1_areCopied_1 (x0 : Int) (x1 : Unit) : Option (Bool) := callW impl_areAll_int_1_areCopied_1.c (fiOf (GT tab) Try.f186 impl_areAll_int_1_areCopied_1.ms) impl_areAll_int_1_areCopied_1.b (decRes tab impl_areAll_int_1_areCopied_1.rs) (encArgs tab impl_areAll_int_1_areCopied_1.as (x0, x1))
theorem impl_areAll_int_1_areCopied_1.fok : FnOk Try.prog 186 Try.f186 impl_areAll_int_1_areCopied_1.ms impl_areAll_int_1_areCopied_1.b := ⟨Try.func186, by kernel_rfl, by kernel_rfl⟩
noncomputable def impl_areAll_int_1_areCopied_1.fn : Args tab impl_areAll_int_1_areCopied_1.as → Option (ResT tab impl_areAll_int_1_areCopied_1.rs) := fun x => impl_areAll_int_1_areCopied_1 x.1 x.2
theorem impl_areAll_int_1_areCopied_1.con {δ : Type} : Con Try.prog (KT tab) 186 (calleeS (β := δ) tab impl_areAll_int_1_areCopied_1.ms impl_areAll_int_1_areCopied_1.as impl_areAll_int_1_areCopied_1.rs impl_areAll_int_1_areCopied_1.fn) := con_shape (c := impl_areAll_int_1_areCopied_1.c) mixed tysOk (getG_con (impl_areAll_int_1_areCopied_1.gok _)) impl_areAll_int_1_areCopied_1.fok rfl rfl (fun _ => rfl)
theorem impl_areAll_int_1_areCopied_1.eq (x0 : Int) (x1 : Unit) : impl_areAll_int_1_areCopied_1 x0 x1 =
    (impl_areCopied_1 x0).bind fun y1 =>
    some (!y1) := by kernel_rfl

/-! ### slices_IndexFunc_int_int_areAll_int_1_areCopied_1: slices.IndexFunc[[]int,int] -/
def slices_IndexFunc_int_int_areAll_int_1_areCopied_1.ms : List Mode := [.lend, .lend]
def slices_IndexFunc_int_int_areAll_int_1_areCopied_1.as : List VSh := [.one (.b (.b (.b (.b (.sl false false 3))))), .one (.fn 186 [.ptr false 0 [.fn 176 []]])]
def slices_IndexFunc_int_int_areAll_int_1_areCopied_1.rs : RSh := ⟨[.one (.b (.b (.b (.b (.int .i64)))))], [none, none]⟩
noncomputable def slices_IndexFunc_int_int_areAll_int_1_areCopied_1.gs (δ : Type) : List (Nat × Callee (GT tab) δ) := [(186, calleeS tab impl_areAll_int_1_areCopied_1.ms impl_areAll_int_1_areCopied_1.as impl_areAll_int_1_areCopied_1.rs impl_areAll_int_1_areCopied_1.fn)]
theorem slices_IndexFunc_int_int_areAll_int_1_areCopied_1.gok (δ : Type) : AllCon Try.prog tab (slices_IndexFunc_int_int_areAll_int_1_areCopied_1.gs δ) := .cons impl_areAll_int_1_areCopied_1.con (.nil)
noncomputable def slices_IndexFunc_int_int_areAll_int_1_areCopied_1.c : Ctx (GT tab) (KT tab) (ResT tab slices_IndexFunc_int_int_areAll_int_1_areCopied_1.rs) := { X := XT tab, ty := tyOf tys, inner := fun _ => true, keep := keepOf 0 slices_IndexFunc_int_int_areAll_int_1_areCopied_1.ms, cuts := [], live := liveOf [(2, [0, 1, 7, 8])], G := getG (slices_IndexFunc_int_int_areAll_int_1_areCopied_1.gs _) }
noncomputable def slices_IndexFunc_int_int_areAll_int_1_areCopied_1.b : Code := bodyOf Try.f203
noncomputable def slices_IndexFunc_int_int_areAll_int_1_areCopied_1 (x0 : List Int) (x1 : Unit) : Option (Int) := callW slices_IndexFunc_int_int_areAll_int_1_areCopied_1.c (fiOf (GT tab) Try.f203 slices_IndexFunc_int_int_areAll_int_1_areCopied_1.ms) slices_IndexFunc_int_int_areAll_int_1_areCopied_1.b (decRes tab slices_IndexFunc_int_int_areAll_int_1_areCopied_1.rs) (encArgs tab slices_IndexFunc_int_int_areAll_int_1_areCopied_1.as (x0, x1))
theorem slices_IndexFunc_int_int_areAll_int_1_areCopied_1.fok : FnOk Try.prog 203 Try.f203 slices_IndexFunc_int_int_areAll_int_1_areCopied_1.ms slices_IndexFunc_int_int_areAll_int_1_areCopied_1.b := ⟨Try.func203, by kernel_rfl, by kernel_rfl⟩
noncomputable def slices_IndexFunc_int_int_areAll_int_1_areCopied_1.fn : Args tab slices_IndexFunc_int_int_areAll_int_1_areCopied_1.as → Option (ResT tab slices_IndexFunc_int_int_areAll_int_1_areCopied_1.rs) := fun x => slices_IndexFunc_int_int_areAll_int_1_areCopied_1 x.1 x.2
theorem slices_IndexFunc_int_int_areAll_int_1_areCopied_1.con {δ : Type} : Con Try.prog (KT tab) 203 (calleeS (β := δ) tab slices_IndexFunc_int_int_areAll_int_1_areCopied_1.ms slices_IndexFunc_int_int_areAll_int_1_areCopied_1.as slices_IndexFunc_int_int_areAll_int_1_areCopied_1.rs slices_IndexFunc_int_int_areAll_int_1_areCopied_1.fn) := con_shape (c := slices_IndexFunc_int_int_areAll_int_1_areCopied_1.c) mixed tysOk (getG_con (slices_IndexFunc_int_int_areAll_int_1_areCopied_1.gok _)) slices_IndexFunc_int_int_areAll_int_1_areCopied_1.fok rfl rfl (fun _ => rfl)
noncomputable def slices_IndexFunc_int_int_areAll_int_1_areCopied_1_l0 (v0 : List Int) (v1 : Int) (v2 : Int) : Option (Int) := Lw slices_IndexFunc_int_int_areAll_int_1_areCopied_1.c (finish slices_IndexFunc_int_int_areAll_int_1_areCopied_1.c (fiOf (GT tab) Try.f203 slices_IndexFunc_int_int_areAll_int_1_areCopied_1.ms) (decRes tab slices_IndexFunc_int_int_areAll_int_1_areCopied_1.rs)) ((loops slices_IndexFunc_int_int_areAll_int_1_areCopied_1.c.cuts 1000 slices_IndexFunc_int_int_areAll_int_1_areCopied_1.b []).getD 0 []) { slots := [.vs false 3 v0, .fn 186 [.vp [.fn 176 []]], .undef, .undef, .undef, .undef, .undef, .int .i64 v1, .int .i64 v2, .undef, .undef, .undef, .undef, .undef, .undef, .undef, .undef, .undef, .undef], loc := locOf [], nx := 0 }
theorem slices_IndexFunc_int_int_areAll_int_1_areCopied_1.eq (x0 : List Int) (x1 : Unit) : slices_IndexFunc_int_int_areAll_int_1_areCopied_1 x0 x1 =
    slices_IndexFunc_int_int_areAll_int_1_areCopied_1_l0 x0 (x0.length : Int) (0 : Int) := by kernel_rfl
theorem slices_IndexFunc_int_int_areAll_int_1_areCopied_1_l0.eq (v0 : List Int) (v1 : Int) (v2 : Int) : slices_IndexFunc_int_int_areAll_int_1_areCopied_1_l0 v0 v1 v2 =
    bif decide (v2 < v1) then
      (at? v0 v2).bind fun y1 =>
      (impl_areAll_int_1_areCopied_1 y1 ()).bind fun y2 =>
      bif y2 then
        some v2
      else
        slices_IndexFunc_int_int_areAll_int_1_areCopied_1_l0 v0 v1 (IntKind.i64.wrap (v2 + (1 : Int)))
    else
      some (-1 : Int) := (Lw_eq tysOk (getG_con (slices_IndexFunc_int_int_areAll_int_1_areCopied_1.gok _)) _ _).trans (by kernel_rfl)

/-! ### slices_ContainsFunc_int_int_areAll_int_1_areCopied_1: slices.ContainsFunc[[]int,int] -/
def slices_ContainsFunc_int_int_areAll_int_1_areCopied_1.ms : List Mode := [.lend, .lend]
def slices_ContainsFunc_int_int_areAll_int_1_areCopied_1.as : List VSh := [.one (.b (.b (.b (.b (.sl false false 3))))), .one (.fn 186 [.ptr false 143 [.fn 176 []]])]
def slices_ContainsFunc_int_int_areAll_int_1_areCopied_1.rs : RSh := ⟨[.one (.b (.b (.b (.b (.bool)))))], [none, none]⟩
noncomputable def slices_ContainsFunc_int_int_areAll_int_1_areCopied_1.gs (δ : Type) : List (Nat × Callee (GT tab) δ) := [(203, calleeS tab slices_IndexFunc_int_int_areAll_int_1_areCopied_1.ms slices_IndexFunc_int_int_areAll_int_1_areCopied_1.as slices_IndexFunc_int_int_areAll_int_1_areCopied_1.rs slices_IndexFunc_int_int_areAll_int_1_areCopied_1.fn)]
theorem slices_ContainsFunc_int_int_areAll_int_1_areCopied_1.gok (δ : Type) : AllCon Try.prog tab (slices_ContainsFunc_int_int_areAll_int_1_areCopied_1.gs δ) := .cons slices_IndexFunc_int_int_areAll_int_1_areCopied_1.con (.nil)
noncomputable def slices_ContainsFunc_int_int_areAll_int_1_areCopied_1.c : Ctx (GT tab) (KT tab) (ResT tab slices_ContainsFunc_int_int_areAll_int_1_areCopied_1.rs) := { X := XT tab, ty := tyOf tys, inner := fun _ => true, keep := keepOf 0 slices_ContainsFunc_int_int_areAll_int_1_areCopied_1.ms, cuts := [], live := liveOf [], G := getG (slices_ContainsFunc_int_int_areAll_int_1_areCopied_1.gs _) }
noncomputable def slices_ContainsFunc_int_int_areAll_int_1_areCopied_1.b : Code := bodyOf Try.f185
noncomputable def slices_ContainsFunc_int_int_areAll_int_1_areCopied_1 (x0 : List Int) (x1 : Unit) : Option (Bool) := callW slices_ContainsFunc_int_int_areAll_int_1_areCopied_1.c (fiOf (GT tab) Try.f185 slices_ContainsFunc_int_int_areAll_int_1_areCopied_1.ms) slices_ContainsFunc_int_int_areAll_int_1_areCopied_1.b (decRes tab slices_ContainsFunc_int_int_areAll_int_1_areCopied_1.rs) (encArgs tab slices_ContainsFunc_int_int_areAll_int_1_areCopied_1.as (x0, x1))
theorem slices_ContainsFunc_int_int_areAll_int_1_areCopied_1.fok : FnOk Try.prog 185 Try.f185 slices_ContainsFunc_int_int_areAll_int_1_areCopied_1.ms slices_ContainsFunc_int_int_areAll_int_1_areCopied_1.b := ⟨Try.func185, by kernel_rfl, by kernel_rfl⟩
noncomputable def slices_ContainsFunc_int_int_areAll_int_1_areCopied_1.fn : Args tab slices_ContainsFunc_int_int_areAll_int_1_areCopied_1.as → Option (ResT tab slices_ContainsFunc_int_int_areAll_int_1_areCopied_1.rs) := fun x => slices_ContainsFunc_int_int_areAll_int_1_areCopied_1 x.1 x.2
theorem slices_ContainsFunc_int_int_areAll_int_1_areCopied_1.con {δ : Type} : Con Try.prog (KT tab) 185 (calleeS (β := δ) tab slices_ContainsFunc_int_int_areAll_int_1_areCopied_1.ms slices_ContainsFunc_int_int_areAll_int_1_areCopied_1.as slices_ContainsFunc_int_int_areAll_int_1_areCopied_1.rs slices_ContainsFunc_int_int_areAll_int_1_areCopied_1.fn) := con_shape (c := slices_ContainsFunc_int_int_areAll_int_1_areCopied_1.c) mixed tysOk (getG_con (slices_ContainsFunc_int_int_areAll_int_1_areCopied_1.gok _)) slices_ContainsFunc_int_int_areAll_int_1_areCopied_1.fok rfl rfl (fun _ => rfl)
theorem slices_ContainsFunc_int_int_areAll_int_1_areCopied_1.eq (x0 : List Int) (x1 : Unit) : slices_ContainsFunc_int_int_areAll_int_1_areCopied_1 x0 x1 =
    (slices_IndexFunc_int_int_areAll_int_1_areCopied_1 x0 ()).bind fun y1 =>
    some (decide (y1 ≥ (0 : Int))) := by kernel_rfl

/-! ### impl_areAll_int_areCopied_1: loop.example/g00688/impl.areAll[int] -/
def impl_areAll_int_areCopied_1.ms : List Mode := [.lend, .lend]
def impl_areAll_int_areCopied_1.as : List VSh := [.one (.b (.b (.b (.b (.sl false false 3))))), .one (.fn 176 [])]
def impl_areAll_int_areCopied_1.rs : RSh := ⟨[.one (.b (.b (.b (.b (.bool)))))], [none, none]⟩
noncomputable def impl_areAll_int_areCopied_1.gs (δ : Type) : List (Nat × Callee (GT tab) δ) := [(185, calleeS tab slices_ContainsFunc_int_int_areAll_int_1_areCopied_1.ms slices_ContainsFunc_int_int_areAll_int_1_areCopied_1.as slices_ContainsFunc_int_int_areAll_int_1_areCopied_1.rs slices_ContainsFunc_int_int_areAll_int_1_areCopied_1.fn)]
theorem impl_areAll_int_areCopied_1.gok (δ : Type) : AllCon Try.prog tab (impl_areAll_int_areCopied_1.gs δ) := .cons slices_ContainsFunc_int_int_areAll_int_1_areCopied_1.con (.nil)
noncomputable def impl_areAll_int_areCopied_1.c : Ctx (GT tab) (KT tab) (ResT tab impl_areAll_int_areCopied_1.rs) := { X := XT tab, ty := tyOf tys, inner := fun _ => true, keep := keepOf 0 impl_areAll_int_areCopied_1.ms, cuts := [], live := liveOf [], G := getG (impl_areAll_int_areCopied_1.gs _) }
noncomputable def impl_areAll_int_areCopied_1.b : Code := bodyOf Try.f166
noncomputable def impl_areAll_int_areCopied_1 (x0 : List Int) (x1 : Unit) : Option (Bool) := callW impl_areAll_int_areCopied_1.c (fiOf (GT tab) Try.f166 impl_areAll_int_areCopied_1.ms) impl_areAll_int_areCopied_1.b (decRes tab impl_areAll_int_areCopied_1.rs) (encArgs tab impl_areAll_int_areCopied_1.as (x0, x1))
theorem impl_areAll_int_areCopied_1.fok : FnOk Try.prog 166 Try.f166 impl_areAll_int_areCopied_1.ms impl_areAll_int_areCopied_1.b := ⟨Try.func166, by kernel_rfl, by kernel_rfl⟩
noncomputable def impl_areAll_int_areCopied_1.fn : Args tab impl_areAll_int_areCopied_1.as → Option (ResT tab impl_areAll_int_areCopied_1.rs) := fun x => impl_areAll_int_areCopied_1 x.1 x.2
theorem impl_areAll_int_areCopied_1.con {δ : Type} : Con Try.prog (KT tab) 166 (calleeS (β := δ) tab impl_areAll_int_areCopied_1.ms impl_areAll_int_areCopied_1.as impl_areAll_int_areCopied_1.rs impl_areAll_int_areCopied_1.fn) := con_shape (c := impl_areAll_int_areCopied_1.c) mixed tysOk (getG_con (impl_areAll_int_areCopied_1.gok _)) impl_areAll_int_areCopied_1.fok rfl rfl (fun _ => rfl)
theorem impl_areAll_int_areCopied_1.eq (x0 : List Int) (x1 : Unit) : impl_areAll_int_areCopied_1 x0 x1 =
    (slices_ContainsFunc_int_int_areAll_int_1_areCopied_1 x0 ()).bind fun y1 =>
    some (!y1) := by kernel_rfl

/-! ### impl_areCopied: loop.example/g00688/impl.areCopied -/
def impl_areCopied.ms : List Mode := [.lend]
def impl_areCopied.as : List VSh := [.one (.b (.b (.b (.b (.sl false false 3)))))]
def impl_areCopied.rs : RSh := ⟨[.one (.b (.b (.b (.b (.bool)))))], [none]⟩
noncomputable def impl_areCopied.gs (δ : Type) : List (Nat × Callee (GT tab) δ) := [(166, calleeS tab impl_areAll_int_areCopied_1.ms impl_areAll_int_areCopied_1.as impl_areAll_int_areCopied_1.rs impl_areAll_int_areCopied_1.fn)]
theorem impl_areCopied.gok (δ : Type) : AllCon Try.prog tab (impl_areCopied.gs δ) := .cons impl_areAll_int_areCopied_1.con (.nil)
noncomputable def impl_areCopied.c : Ctx (GT tab) (KT tab) (ResT tab impl_areCopied.rs) := { X := XT tab, ty := tyOf tys, inner := fun _ => true, keep := keepOf 0 impl_areCopied.ms, cuts := [], live := liveOf [], G := getG (impl_areCopied.gs _) }
noncomputable def impl_areCopied.b : Code := bodyOf Try.f155
noncomputable def impl_areCopied (x0 : List Int) : Option (Bool) := callW impl_areCopied.c (fiOf (GT tab) Try.f155 impl_areCopied.ms) impl_areCopied.b (decRes tab impl_areCopied.rs) (encArgs tab impl_areCopied.as x0)
theorem impl_areCopied.fok : FnOk Try.prog 155 Try.f155 impl_areCopied.ms impl_areCopied.b := ⟨Try.func155, by kernel_rfl, by kernel_rfl⟩
noncomputable def impl_areCopied.fn : Args tab impl_areCopied.as → Option (ResT tab impl_areCopied.rs) := fun x => impl_areCopied x
theorem impl_areCopied.con {δ : Type} : Con Try.prog (KT tab) 155 (calleeS (β := δ) tab impl_areCopied.ms impl_areCopied.as impl_areCopied.rs impl_areCopied.fn) := con_shape (c := impl_areCopied.c) mixed tysOk (getG_con (impl_areCopied.gok _)) impl_areCopied.fok rfl rfl (fun _ => rfl)
theorem impl_areCopied.eq (x0 : List Int) : impl_areCopied x0 =
    bif decide ((x0.length : Int) ≤ (301 : Int)) then
      (impl_areAll_int_areCopied_1 x0 ()).bind fun y1 =>
      some y1
    else
      some false := by kernel_rfl

/-! ### laws_eqCopy: loop.example/g00688/laws.eqCopy -/
def laws_eqCopy.ms : List Mode := [.lend, .lend]
def laws_eqCopy.as : List VSh := [.agg [.int .i64, .int .i64, .int .i64], .agg [.int .i64, .int .i64, .int .i64]]
def laws_eqCopy.rs : RSh := ⟨[.one (.b (.b (.b (.b (.bool)))))], [none, none]⟩
noncomputable def laws_eqCopy.gs (δ : Type) : List (Nat × Callee (GT tab) δ) := []
theorem laws_eqCopy.gok (δ : Type) : AllCon Try.prog tab (laws_eqCopy.gs δ) := .nil
noncomputable def laws_eqCopy.c : Ctx (GT tab) (KT tab) (ResT tab laws_eqCopy.rs) := { X := XT tab, ty := tyOf tys, inner := fun _ => true, keep := keepOf 0 laws_eqCopy.ms, cuts := [], live := liveOf [], G := getG (laws_eqCopy.gs _) }
noncomputable def laws_eqCopy.b : Code := bodyOf Try.f108
noncomputable def laws_eqCopy (x0 : Int × Int × Int) (x1 : Int × Int × Int) : Option (Bool) := callW laws_eqCopy.c (fiOf (GT tab) Try.f108 laws_eqCopy.ms) laws_eqCopy.b (decRes tab laws_eqCopy.rs) (encArgs tab laws_eqCopy.as (x0, x1))
theorem laws_eqCopy.fok : FnOk Try.prog 108 Try.f108 laws_eqCopy.ms laws_eqCopy.b := ⟨Try.func108, by kernel_rfl, by kernel_rfl⟩
noncomputable def laws_eqCopy.fn : Args tab laws_eqCopy.as → Option (ResT tab laws_eqCopy.rs) := fun x => laws_eqCopy x.1 x.2
theorem laws_eqCopy.con {δ : Type} : Con Try.prog (KT tab) 108 (calleeS (β := δ) tab laws_eqCopy.ms laws_eqCopy.as laws_eqCopy.rs laws_eqCopy.fn) := con_shape (c := laws_eqCopy.c) mixed tysOk (getG_con (laws_eqCopy.gok _)) laws_eqCopy.fok rfl rfl (fun _ => rfl)
theorem laws_eqCopy.eq (x0 : Int × Int × Int) (x1 : Int × Int × Int) : laws_eqCopy x0 x1 =
    bif x0.1 != x1.1 then
      some false
    else
      bif x0.2.1 != x1.2.1 then
        some false
      else
        bif x0.2.2 != x1.2.2 then
          some false
        else
          some true := by kernel_rfl

/-! ### laws_eqCopyS: loop.example/g00688/laws.eqCopyS -/
def laws_eqCopyS.ms : List Mode := [.lend, .lend]
def laws_eqCopyS.as : List VSh := [.one (.b (.b (.b (.b (.sl false false 127))))), .one (.b (.b (.b (.b (.sl false false 127)))))]
def laws_eqCopyS.rs : RSh := ⟨[.one (.b (.b (.b (.b (.bool)))))], [none, none]⟩
noncomputable def laws_eqCopyS.gs (δ : Type) : List (Nat × Callee (GT tab) δ) := [(108, calleeS tab laws_eqCopy.ms laws_eqCopy.as laws_eqCopy.rs laws_eqCopy.fn)]
theorem laws_eqCopyS.gok (δ : Type) : AllCon Try.prog tab (laws_eqCopyS.gs δ) := .cons laws_eqCopy.con (.nil)
noncomputable def laws_eqCopyS.c : Ctx (GT tab) (KT tab) (ResT tab laws_eqCopyS.rs) := { X := XT tab, ty := tyOf tys, inner := fun _ => true, keep := keepOf 0 laws_eqCopyS.ms, cuts := [], live := liveOf [(4, [0, 1, 5])], G := getG (laws_eqCopyS.gs _) }
noncomputable def laws_eqCopyS.b : Code := bodyOf Try.f50
noncomputable def laws_eqCopyS (x0 : List (Int × Int × Int)) (x1 : List (Int × Int × Int)) : Option (Bool) := callW laws_eqCopyS.c (fiOf (GT tab) Try.f50 laws_eqCopyS.ms) laws_eqCopyS.b (decRes tab laws_eqCopyS.rs) (encArgs tab laws_eqCopyS.as (x0, x1))
theorem laws_eqCopyS.fok : FnOk Try.prog 50 Try.f50 laws_eqCopyS.ms laws_eqCopyS.b := ⟨Try.func50, by kernel_rfl, by kernel_rfl⟩
noncomputable def laws_eqCopyS.fn : Args tab laws_eqCopyS.as → Option (ResT tab laws_eqCopyS.rs) := fun x => laws_eqCopyS x.1 x.2
theorem laws_eqCopyS.con {δ : Type} : Con Try.prog (KT tab) 50 (calleeS (β := δ) tab laws_eqCopyS.ms laws_eqCopyS.as laws_eqCopyS.rs laws_eqCopyS.fn) := con_shape (c := laws_eqCopyS.c) mixed tysOk (getG_con (laws_eqCopyS.gok _)) laws_eqCopyS.fok rfl rfl (fun _ => rfl)
noncomputable def laws_eqCopyS_l0 (v0 : List (Int × Int × Int)) (v1 : List (Int × Int × Int)) (v2 : Int) : Option (Bool) := Lw laws_eqCopyS.c (finish laws_eqCopyS.c (fiOf (GT tab) Try.f50 laws_eqCopyS.ms) (decRes tab laws_eqCopyS.rs)) ((loops laws_eqCopyS.c.cuts 1000 laws_eqCopyS.b []).getD 0 []) { slots := [.vs false 127 v0, .vs false 127 v1, .undef, .undef, .undef, .int .i64 v2, .undef, .undef, .undef, .undef, .undef, .undef, .undef, .undef, .undef, .undef, .undef, .undef, .undef, .undef, .undef, .undef, .undef, .undef, .undef, .undef, .undef], loc := locOf [], nx := 0 }
theorem laws_eqCopyS.eq (x0 : List (Int × Int × Int)) (x1 : List (Int × Int × Int)) : laws_eqCopyS x0 x1 =
    bif (x0.length : Int) != (x1.length : Int) then
      some false
    else
      laws_eqCopyS_l0 x0 x1 (0 : Int) := by kernel_rfl
theorem laws_eqCopyS_l0.eq (v0 : List (Int × Int × Int)) (v1 : List (Int × Int × Int)) (v2 : Int) : laws_eqCopyS_l0 v0 v1 v2 =
    bif decide (v2 < (v0.length : Int)) then
      (at? v0 v2).bind fun y1 =>
      (at? v1 v2).bind fun y2 =>
      (laws_eqCopy (y1.1, y1.2.1, y1.2.2) (y2.1, y2.2.1, y2.2.2)).bind fun y3 =>
      bif !y3 then
        some false
      else
        laws_eqCopyS_l0 v0 v1 (IntKind.i64.wrap (v2 + (1 : Int)))
    else
      some true := (Lw_eq tysOk (getG_con (laws_eqCopyS.gok _)) _ _).trans (by kernel_rfl)

/-! ### laws_markCopyS: loop.example/g00688/laws.markCopyS -/
def laws_markCopyS.ms : List Mode := [.keep, .lend]
def laws_markCopyS.as : List VSh := [.one (.b (.b (.b (.b (.sl true true 127))))), .one (.b (.b (.b (.b (.int .i64)))))]
def laws_markCopyS.rs : RSh := ⟨[.one (.b (.b (.b (.b (.int .i64)))))], [some (.one (.b (.b (.b (.b (.sl true true 127)))))), none]⟩
noncomputable def laws_markCopyS.gs (δ : Type) : List (Nat × Callee (GT tab) δ) := []
theorem laws_markCopyS.gok (δ : Type) : AllCon Try.prog tab (laws_markCopyS.gs δ) := .nil
noncomputable def laws_markCopyS.c : Ctx (GT tab) (KT tab) (ResT tab laws_markCopyS.rs) := { X := XT tab, ty := tyOf tys, inner := fun _ => true, keep := keepOf 0 laws_markCopyS.ms, cuts := [], live := liveOf [(2, [0, 1, 5])], G := getG (laws_markCopyS.gs _) }
noncomputable def laws_markCopyS.b : Code := bodyOf Try.f51
noncomputable def laws_markCopyS (x0 : List (Int × Int × Int)) (x1 : Int) : Option (Int × (List (Int × Int × Int))) := callW laws_markCopyS.c (fiOf (GT tab) Try.f51 laws_markCopyS.ms) laws_markCopyS.b (decRes tab laws_markCopyS.rs) (encArgs tab laws_markCopyS.as (x0, x1))
theorem laws_markCopyS.fok : FnOk Try.prog 51 Try.f51 laws_markCopyS.ms laws_markCopyS.b := ⟨Try.func51, by kernel_rfl, by kernel_rfl⟩
noncomputable def laws_markCopyS.fn : Args tab laws_markCopyS.as → Option (ResT tab laws_markCopyS.rs) := fun x => laws_markCopyS x.1 x.2
theorem laws_markCopyS.con {δ : Type} : Con Try.prog (KT tab) 51 (calleeS (β := δ) tab laws_markCopyS.ms laws_markCopyS.as laws_markCopyS.rs laws_markCopyS.fn) := con_shape (c := laws_markCopyS.c) mixed tysOk (getG_con (laws_markCopyS.gok _)) laws_markCopyS.fok rfl rfl (fun _ => rfl)
noncomputable def laws_markCopyS_l0 (v0 : Int) (v1 : Int) (v2 : List (Int × Int × Int)) : Option (Int × (List (Int × Int × Int))) := Lw laws_markCopyS.c (finish laws_markCopyS.c (fiOf (GT tab) Try.f51 laws_markCopyS.ms) (decRes tab laws_markCopyS.rs)) ((loops laws_markCopyS.c.cuts 1000 laws_markCopyS.b []).getD 0 []) { slots := [.sl 0 0, .int .i64 v0, .undef, .undef, .undef, .int .i64 v1, .undef, .undef, .undef, .undef, .undef, .undef, .undef, .undef, .undef, .undef, .undef, .undef, .undef, .undef, .undef, .undef, .undef, .undef, .undef, .undef, .undef, .undef, .undef, .undef, .undef, .undef, .undef, .undef], loc := locOf [.row 0 true 127 v2], nx := 1 }
theorem laws_markCopyS.eq (x0 : List (Int × Int × Int)) (x1 : Int) : laws_markCopyS x0 x1 =
    laws_markCopyS_l0 x1 (0 : Int) x0 := by kernel_rfl
theorem laws_markCopyS_l0.eq (v0 : Int) (v1 : Int) (v2 : List (Int × Int × Int)) : laws_markCopyS_l0 v0 v1 v2 =
    bif decide (v1 < (v2.length : Int)) then
      (at? v2 v1).bind fun y1 =>
      v2[v1.toNat]?.bind fun y2 =>
      (at? (v2.set v1.toNat (v0, y2.2.1, y2.2.2)) v1).bind fun y3 =>
      (v2.set v1.toNat (v0, y2.2.1, y2.2.2))[v1.toNat]?.bind fun y4 =>
      (at? ((v2.set v1.toNat (v0, y2.2.1, y2.2.2)).set v1.toNat (y4.1, IntKind.i64.wrap (v0 + (1 : Int)), y4.2.2)) v1).bind fun y5 =>
      ((v2.set v1.toNat (v0, y2.2.1, y2.2.2)).set v1.toNat (y4.1, IntKind.i64.wrap (v0 + (1 : Int)), y4.2.2))[v1.toNat]?.bind fun y6 =>
      laws_markCopyS_l0 (IntKind.i64.wrap ((IntKind.i64.wrap ((IntKind.i64.wrap (v0 + (1 : Int))) + (1 : Int))) + (1 : Int))) (IntKind.i64.wrap (v1 + (1 : Int))) (((v2.set v1.toNat (v0, y2.2.1, y2.2.2)).set v1.toNat (y4.1, IntKind.i64.wrap (v0 + (1 : Int)), y4.2.2)).set v1.toNat (y6.1, y6.2.1, IntKind.i64.wrap ((IntKind.i64.wrap (v0 + (1 : Int))) + (1 : Int))))
    else
      some (v0, v2) := (Lw_eq tysOk (getG_con (laws_markCopyS.gok _)) _ _).trans (by kernel_rfl)

end Go.Ev.W
