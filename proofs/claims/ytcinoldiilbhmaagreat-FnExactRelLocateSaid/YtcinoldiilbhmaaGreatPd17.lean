/- What functions of the program come to. -/
import Derived.Test.YtcinoldiilbhmaaGreatPdT
import Derived.Test.YtcinoldiilbhmaaGreatPd1
namespace Go.Ev.W
open Go.Ev Go.Proofs
set_option maxRecDepth 100000
set_option linter.unusedVariables false

noncomputable abbrev laws_toByteS.s : Sg := ⟨[.lend], [vl 5], ⟨[vo 5], [none]⟩, Tryz.f34⟩
noncomputable def laws_toByteS.gs (δ : Type) : List (Nat × Callee (GT tab) δ) := []
theorem laws_toByteS.gok (δ : Type) : AllCon Tryz.prog tab (laws_toByteS.gs δ) := .nil
noncomputable def laws_toByteS.c := cx laws_toByteS.s [] [(3, [0, 3, 4])] false (laws_toByteS.gs _)
noncomputable def laws_toByteS (x0 : List Int) : Option (List Int) := fnW laws_toByteS.s laws_toByteS.c x0
theorem laws_toByteS.fok : FkS laws_toByteS.s 34 := ⟨Tryz.func34, by kernel_rfl, by kernel_rfl⟩
noncomputable def laws_toByteS.fn (x : Args tab laws_toByteS.s.ar) : Option (ResT tab laws_toByteS.s.rs) := laws_toByteS x
noncomputable abbrev laws_toByteS.k {δ : Type} : Callee (GT tab) δ := kS laws_toByteS.s laws_toByteS.fn
theorem laws_toByteS.con {δ : Type} : Con Tryz.prog (KT tab) 34 (laws_toByteS.k (δ := δ)) := con_shape (c := laws_toByteS.c) mixed tysOk (getG_con (laws_toByteS.gok _)) laws_toByteS.fok rfl rfl fun _ => rfl
noncomputable def laws_toByteS_l0 (v0 : List Int) (v1 : Int) (v2 : List Int) : Option (List Int) := lpW laws_toByteS.s laws_toByteS.c 0 (ud 17 [.vs false 5 v0, .undef, .undef, .sl 0 0, .int .i64 v1]) [.row 0 true 5 v2] 1
theorem laws_toByteS.eq (x0 : List Int) : laws_toByteS x0 =
    bif decide ((0 : Int) ≤ (x0.length : Int)) && decide (((x0.length : Int).toNat) * 1 ≤ 140737488355328) then
      laws_toByteS_l0 x0 (0 : Int) (List.replicate ((x0.length : Int).toNat) (0 : Int))
    else
      none := by kernel_rfl
theorem laws_toByteS_l0.eq (v0 : List Int) (v1 : Int) (v2 : List Int) : laws_toByteS_l0 v0 v1 v2 =
    bif decide (v1 < (v0.length : Int)) then
      (at? v0 v1).bind fun y1 =>
      (at? v2 v1).bind fun y2 =>
      v2[v1.toNat]?.bind fun y3 =>
      laws_toByteS_l0 v0 (IntKind.i64.wrap (v1 + (1 : Int))) (v2.set v1.toNat y1)
    else
      some v2 := (Lw_eq tysOk (getG_con (laws_toByteS.gok _)) _ _).trans (by kernel_rfl)

noncomputable abbrev spec_l05Begins.s : Sg := ⟨[.lend, .lend], [vl 5, vl 5], ⟨[vb], [none, none]⟩, Tryz.f210⟩
noncomputable def spec_l05Begins.gs (δ : Type) : List (Nat × Callee (GT tab) δ) := []
theorem spec_l05Begins.gok (δ : Type) : AllCon Tryz.prog tab (spec_l05Begins.gs δ) := .nil
noncomputable def spec_l05Begins.c := cx spec_l05Begins.s [] [] false (spec_l05Begins.gs _)
noncomputable def spec_l05Begins (x0 x1 : List Int) : Option (Bool) := fnW spec_l05Begins.s spec_l05Begins.c (x0, x1)
theorem spec_l05Begins.fok : FkS spec_l05Begins.s 210 := ⟨Tryz.func210, by kernel_rfl, by kernel_rfl⟩
noncomputable def spec_l05Begins.fn (x : Args tab spec_l05Begins.s.ar) : Option (ResT tab spec_l05Begins.s.rs) := spec_l05Begins x.1 x.2
noncomputable abbrev spec_l05Begins.k {δ : Type} : Callee (GT tab) δ := kS spec_l05Begins.s spec_l05Begins.fn
theorem spec_l05Begins.con {δ : Type} : Con Tryz.prog (KT tab) 210 (spec_l05Begins.k (δ := δ)) := con_shape (c := spec_l05Begins.c) mixed tysOk (getG_con (spec_l05Begins.gok _)) spec_l05Begins.fok rfl rfl fun _ => rfl
theorem spec_l05Begins.eq (x0 x1 : List Int) : spec_l05Begins x0 x1 =
    bif decide ((x1.length : Int) ≤ (x0.length : Int)) then
      bif decide (0 ≤ (x1.length : Int) ∧ (x1.length : Int) ≤ ((x0.length : Nat) : Int)) then
        some ((strOf (((x0.take ((x1.length : Int).toNat)).drop 0).map fun x => x)).toList == (strOf (x1.map fun x => x)).toList)
      else
        none
    else
      some false := by kernel_rfl

noncomputable abbrev spec_Occurs.s : Sg := ⟨[.lend, .lend], [vl 5, vl 5], ⟨[vo 3], [none, none]⟩, Tryz.f161⟩
noncomputable def spec_Occurs.gs (δ : Type) : List (Nat × Callee (GT tab) δ) := [(178, spec_TextOk.k), (210, spec_l05Begins.k)]
theorem spec_Occurs.gok (δ : Type) : AllCon Tryz.prog tab (spec_Occurs.gs δ) := .cons spec_TextOk.con (.cons spec_l05Begins.con .nil)
noncomputable def spec_Occurs.c := cx spec_Occurs.s [5] [(3, [0, 1, 5, 6]), (5, [0, 1, 5, 6])] false (spec_Occurs.gs _)
noncomputable def spec_Occurs (x0 x1 : List Int) : Option (List Int) := fnW spec_Occurs.s spec_Occurs.c (x0, x1)
theorem spec_Occurs.fok : FkS spec_Occurs.s 161 := ⟨Tryz.func161, by kernel_rfl, by kernel_rfl⟩
noncomputable def spec_Occurs.fn (x : Args tab spec_Occurs.s.ar) : Option (ResT tab spec_Occurs.s.rs) := spec_Occurs x.1 x.2
noncomputable abbrev spec_Occurs.k {δ : Type} : Callee (GT tab) δ := kS spec_Occurs.s spec_Occurs.fn
theorem spec_Occurs.con {δ : Type} : Con Tryz.prog (KT tab) 161 (spec_Occurs.k (δ := δ)) := con_shape (c := spec_Occurs.c) mixed tysOk (getG_con (spec_Occurs.gok _)) spec_Occurs.fok rfl rfl fun _ => rfl
noncomputable def spec_Occurs_l0 (v0 v1 : List Int) (v2 : Int) (v3 : List Int) : Option (List Int) := lpW spec_Occurs.s spec_Occurs.c 0 (ud 21 [.vs false 5 v0, .vs false 5 v1, .undef, .undef, .undef, .sl 0 0, .int .i64 v2]) [.row 0 true 3 v3] 1
noncomputable def spec_Occurs_l1 (v0 v1 : List Int) (v2 : Int) (v3 : List Int) : Option (List Int) := lpW spec_Occurs.s spec_Occurs.c 1 (ud 21 [.vs false 5 v0, .vs false 5 v1, .undef, .undef, .undef, .sl 0 0, .int .i64 v2]) [.row 0 true 3 v3] 1
theorem spec_Occurs.eq (x0 x1 : List Int) : spec_Occurs x0 x1 =
    spec_Occurs_l0 x0 x1 (0 : Int) ([] : List Int) := by kernel_rfl
theorem spec_Occurs_l0.eq (v0 v1 : List Int) (v2 : Int) (v3 : List Int) : spec_Occurs_l0 v0 v1 v2 v3 =
    (spec_TextOk v0).bind fun y1 =>
    bif y1 then
      bif decide (v2 ≤ (v0.length : Int)) then
        spec_Occurs_l1 v0 v1 v2 v3
      else
        some v3
    else
      some v3 := (Lw_eq tysOk (getG_con (spec_Occurs.gok _)) _ _).trans (by kernel_rfl)
theorem spec_Occurs_l1.eq (v0 v1 : List Int) (v2 : Int) (v3 : List Int) : spec_Occurs_l1 v0 v1 v2 v3 =
    bif decide (0 ≤ v2 ∧ v2 ≤ ((v0.length : Nat) : Int)) then
      (spec_l05Begins ((v0.take v0.length).drop v2.toNat) v1).bind fun y1 =>
      bif y1 then
        bif decide ((v3.length + ([v2] : List Int).length) * 8 ≤ 140737488355328) then
          spec_Occurs_l0 v0 v1 (IntKind.i64.wrap (v2 + (1 : Int))) (v3 ++ ([v2] : List Int))
        else
          none
      else
        spec_Occurs_l0 v0 v1 (IntKind.i64.wrap (v2 + (1 : Int))) v3
    else
      none := (Lw_eq tysOk (getG_con (spec_Occurs.gok _)) _ _).trans (by kernel_rfl)

noncomputable abbrev bytes_Equal.s : Sg := ⟨[.lend, .lend], [vl 5, vl 5], ⟨[vb], [none, none]⟩, Tryz.f230⟩
noncomputable def bytes_Equal.gs (δ : Type) : List (Nat × Callee (GT tab) δ) := []
theorem bytes_Equal.gok (δ : Type) : AllCon Tryz.prog tab (bytes_Equal.gs δ) := .nil
noncomputable def bytes_Equal.c := cx bytes_Equal.s [] [] false (bytes_Equal.gs _)
noncomputable def bytes_Equal (x0 x1 : List Int) : Option (Bool) := fnW bytes_Equal.s bytes_Equal.c (x0, x1)
theorem bytes_Equal.fok : FkS bytes_Equal.s 230 := ⟨Tryz.func230, by kernel_rfl, by kernel_rfl⟩
noncomputable def bytes_Equal.fn (x : Args tab bytes_Equal.s.ar) : Option (ResT tab bytes_Equal.s.rs) := bytes_Equal x.1 x.2
noncomputable abbrev bytes_Equal.k {δ : Type} : Callee (GT tab) δ := kS bytes_Equal.s bytes_Equal.fn
theorem bytes_Equal.con {δ : Type} : Con Tryz.prog (KT tab) 230 (bytes_Equal.k (δ := δ)) := con_shape (c := bytes_Equal.c) mixed tysOk (getG_con (bytes_Equal.gok _)) bytes_Equal.fok rfl rfl fun _ => rfl
theorem bytes_Equal.eq (x0 x1 : List Int) : bytes_Equal x0 x1 =
    some ((strOf (x0.map fun x => x)).toList == (strOf (x1.map fun x => x)).toList) := by kernel_rfl

noncomputable abbrev bytes_HasPrefix.s : Sg := ⟨[.lend, .lend], [vl 5, vl 5], ⟨[vb], [none, none]⟩, Tryz.f201⟩
noncomputable def bytes_HasPrefix.gs (δ : Type) : List (Nat × Callee (GT tab) δ) := [(230, bytes_Equal.k)]
theorem bytes_HasPrefix.gok (δ : Type) : AllCon Tryz.prog tab (bytes_HasPrefix.gs δ) := .cons bytes_Equal.con .nil
noncomputable def bytes_HasPrefix.c := cx bytes_HasPrefix.s [] [] false (bytes_HasPrefix.gs _)
noncomputable def bytes_HasPrefix (x0 x1 : List Int) : Option (Bool) := fnW bytes_HasPrefix.s bytes_HasPrefix.c (x0, x1)
theorem bytes_HasPrefix.fok : FkS bytes_HasPrefix.s 201 := ⟨Tryz.func201, by kernel_rfl, by kernel_rfl⟩
noncomputable def bytes_HasPrefix.fn (x : Args tab bytes_HasPrefix.s.ar) : Option (ResT tab bytes_HasPrefix.s.rs) := bytes_HasPrefix x.1 x.2
noncomputable abbrev bytes_HasPrefix.k {δ : Type} : Callee (GT tab) δ := kS bytes_HasPrefix.s bytes_HasPrefix.fn
theorem bytes_HasPrefix.con {δ : Type} : Con Tryz.prog (KT tab) 201 (bytes_HasPrefix.k (δ := δ)) := con_shape (c := bytes_HasPrefix.c) mixed tysOk (getG_con (bytes_HasPrefix.gok _)) bytes_HasPrefix.fok rfl rfl fun _ => rfl
theorem bytes_HasPrefix.eq (x0 x1 : List Int) : bytes_HasPrefix x0 x1 =
    bif decide ((x0.length : Int) ≥ (x1.length : Int)) then
      bif decide (0 ≤ (x1.length : Int) ∧ (x1.length : Int) ≤ ((x0.length : Nat) : Int)) then
        (bytes_Equal ((x0.take ((x1.length : Int).toNat)).drop 0) x1).bind fun y1 =>
        some y1
      else
        none
    else
      some false := by kernel_rfl

end Go.Ev.W
