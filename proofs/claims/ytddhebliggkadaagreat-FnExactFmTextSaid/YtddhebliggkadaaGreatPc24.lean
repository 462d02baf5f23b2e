/- What functions of the program come to. -/
import Derived.Test.YtddhebliggkadaaGreatPcT
import Derived.Test.YtddhebliggkadaaGreatEvGrow
import Derived.Test.YtddhebliggkadaaGreatPc1
import Derived.Test.YtddhebliggkadaaGreatPc2
import Derived.Test.YtddhebliggkadaaGreatPcL
namespace Go.Ev.W
open Go.Ev Go.Proofs
set_option maxRecDepth 100000
set_option linter.unusedVariables false

/-! ### spec_FmOk: loop.example/g00688/spec.FmOk -/
def spec_FmOk.ms : List Mode := [.lend]
def spec_FmOk.as : List VSh := [.agg [.int .i64, .int .i64, .int .i64, .sl false false 3, .sl false false 30, .sl false false 3, .int .i64, .sl false false 126, .int .i64, .int .i64, .int .i64, .sl false false 126, .int .i64, .int .i64, .int .i64, .sl false false 126]]
def spec_FmOk.rs : RSh := ⟨[.one (.b (.b (.b (.b (.bool)))))], [none]⟩
noncomputable def spec_FmOk.gs (δ : Type) : List (Nat × Callee (GT tab) δ) := [(60, calleeS tab spec_l09Text.ms spec_l09Text.as spec_l09Text.rs spec_l09Text.fn)]
noncomputable def spec_FmOk.c : Ctx (GT tab) (KT tab) (ResT tab spec_FmOk.rs) := { X := XT tab, ty := tyOf tys, inner := fun _ => true, keep := keepOf 0 spec_FmOk.ms, cuts := [], live := liveOf [], G := getG (spec_FmOk.gs _) }
noncomputable def spec_FmOk.b : Code := bodyOf Tryz.f50
noncomputable def spec_FmOk (x0 : Int × Int × Int × (List Int) × (List (Int × (List Int))) × (List Int) × Int × (List Int) × Int × Int × Int × (List Int) × Int × Int × Int × (List Int)) : Option (Bool) := callW spec_FmOk.c (fiOf (GT tab) Tryz.f50 spec_FmOk.ms) spec_FmOk.b (decRes tab spec_FmOk.rs) (encArgs tab spec_FmOk.as x0)
noncomputable def spec_FmOk.fn : Args tab spec_FmOk.as → Option (ResT tab spec_FmOk.rs) := fun x => spec_FmOk x
/-! ### spec_VarOf: loop.example/g00688/spec.VarOf -/
def spec_VarOf.ms : List Mode := [.lend]
def spec_VarOf.as : List VSh := [.one (.b (.b (.b (.b (.int .i64)))))]
def spec_VarOf.rs : RSh := ⟨[.one (.b (.b (.b (.b (.sl true true 5)))))], [none]⟩
noncomputable def spec_VarOf.gs (δ : Type) : List (Nat × Callee (GT tab) δ) := []
noncomputable def spec_VarOf.c : Ctx (GT tab) (KT tab) (ResT tab spec_VarOf.rs) := { X := XT tab, ty := tyOf tys, inner := fun _ => true, keep := keepOf 0 spec_VarOf.ms, cuts := [3], live := liveOf [(3, [0]), (4, [0, 3])], G := getG (spec_VarOf.gs _) }
noncomputable def spec_VarOf.b : Code := bodyOf Tryz.f107
noncomputable def spec_VarOf (x0 : Int) : Option (List Int) := callW spec_VarOf.c (fiOf (GT tab) Tryz.f107 spec_VarOf.ms) spec_VarOf.b (decRes tab spec_VarOf.rs) (encArgs tab spec_VarOf.as x0)
noncomputable def spec_VarOf.fn : Args tab spec_VarOf.as → Option (ResT tab spec_VarOf.rs) := fun x => spec_VarOf x
/-! ### spec_BitsBytes: loop.example/g00688/spec.BitsBytes -/
def spec_BitsBytes.ms : List Mode := [.lend]
def spec_BitsBytes.as : List VSh := [.agg [.int .i64, .sl false false 126]]
def spec_BitsBytes.rs : RSh := ⟨[.one (.b (.b (.b (.b (.sl true true 5)))))], [none]⟩
noncomputable def spec_BitsBytes.gs (δ : Type) : List (Nat × Callee (GT tab) δ) := [(107, calleeS tab spec_VarOf.ms spec_VarOf.as spec_VarOf.rs spec_VarOf.fn), (194, calleeS tab spec_BitsOk.ms spec_BitsOk.as spec_BitsOk.rs spec_BitsOk.fn), (196, calleeS tab spec_l01List.ms spec_l01List.as spec_l01List.rs spec_l01List.fn)]
noncomputable def spec_BitsBytes.c : Ctx (GT tab) (KT tab) (ResT tab spec_BitsBytes.rs) := { X := XT tab, ty := tyOf tys, inner := fun _ => true, keep := keepOf 0 spec_BitsBytes.ms, cuts := [], live := liveOf [(6, [3, 4, 5]), (10, [3, 4, 5, 6, 7])], G := getG (spec_BitsBytes.gs _) }
noncomputable def spec_BitsBytes.b : Code := bodyOf Tryz.f162
noncomputable def spec_BitsBytes (x0 : Int × (List Int)) : Option (List Int) := callW spec_BitsBytes.c (fiOf (GT tab) Tryz.f162 spec_BitsBytes.ms) spec_BitsBytes.b (decRes tab spec_BitsBytes.rs) (encArgs tab spec_BitsBytes.as x0)
noncomputable def spec_BitsBytes.fn : Args tab spec_BitsBytes.as → Option (ResT tab spec_BitsBytes.rs) := fun x => spec_BitsBytes x
/-! ### spec_WaveBytes: loop.example/g00688/spec.WaveBytes -/
def spec_WaveBytes.ms : List Mode := [.lend]
def spec_WaveBytes.as : List VSh := [.agg [.int .i64, .sl false false 3, .sl false false 30]]
def spec_WaveBytes.rs : RSh := ⟨[.one (.b (.b (.b (.b (.sl true true 5)))))], [none]⟩
noncomputable def spec_WaveBytes.gs (δ : Type) : List (Nat × Callee (GT tab) δ) := [(161, calleeS tab spec_WaveOk.ms spec_WaveOk.as spec_WaveOk.rs spec_WaveOk.fn), (162, calleeS tab spec_BitsBytes.ms spec_BitsBytes.as spec_BitsBytes.rs spec_BitsBytes.fn)]
noncomputable def spec_WaveBytes.c : Ctx (GT tab) (KT tab) (ResT tab spec_WaveBytes.rs) := { X := XT tab, ty := tyOf tys, inner := fun _ => true, keep := keepOf 0 spec_WaveBytes.ms, cuts := [], live := liveOf [(5, [1, 3, 4])], G := getG (spec_WaveBytes.gs _) }
noncomputable def spec_WaveBytes.b : Code := bodyOf Tryz.f108
noncomputable def spec_WaveBytes (x0 : Int × (List Int) × (List (Int × (List Int)))) : Option (List Int) := callW spec_WaveBytes.c (fiOf (GT tab) Tryz.f108 spec_WaveBytes.ms) spec_WaveBytes.b (decRes tab spec_WaveBytes.rs) (encArgs tab spec_WaveBytes.as x0)
noncomputable def spec_WaveBytes.fn : Args tab spec_WaveBytes.as → Option (ResT tab spec_WaveBytes.rs) := fun x => spec_WaveBytes x
/-! ### spec_PackOk: loop.example/g00688/spec.PackOk -/
def spec_PackOk.ms : List Mode := [.lend]
def spec_PackOk.as : List VSh := [.agg [.int .i64, .int .i64, .int .i64, .sl false false 126]]
def spec_PackOk.rs : RSh := ⟨[.one (.b (.b (.b (.b (.bool)))))], [none]⟩
noncomputable def spec_PackOk.gs (δ : Type) : List (Nat × Callee (GT tab) δ) := [(194, calleeS tab spec_BitsOk.ms spec_BitsOk.as spec_BitsOk.rs spec_BitsOk.fn)]
noncomputable def spec_PackOk.c : Ctx (GT tab) (KT tab) (ResT tab spec_PackOk.rs) := { X := XT tab, ty := tyOf tys, inner := fun _ => true, keep := keepOf 0 spec_PackOk.ms, cuts := [], live := liveOf [], G := getG (spec_PackOk.gs _) }
noncomputable def spec_PackOk.b : Code := bodyOf Tryz.f197
noncomputable def spec_PackOk (x0 : Int × Int × Int × (List Int)) : Option (Bool) := callW spec_PackOk.c (fiOf (GT tab) Tryz.f197 spec_PackOk.ms) spec_PackOk.b (decRes tab spec_PackOk.rs) (encArgs tab spec_PackOk.as x0)
noncomputable def spec_PackOk.fn : Args tab spec_PackOk.as → Option (ResT tab spec_PackOk.rs) := fun x => spec_PackOk x
/-! ### spec_PackBytes: loop.example/g00688/spec.PackBytes -/
def spec_PackBytes.ms : List Mode := [.lend]
def spec_PackBytes.as : List VSh := [.agg [.int .i64, .int .i64, .int .i64, .sl false false 126]]
def spec_PackBytes.rs : RSh := ⟨[.one (.b (.b (.b (.b (.sl true true 5)))))], [none]⟩
noncomputable def spec_PackBytes.gs (δ : Type) : List (Nat × Callee (GT tab) δ) := [(107, calleeS tab spec_VarOf.ms spec_VarOf.as spec_VarOf.rs spec_VarOf.fn), (162, calleeS tab spec_BitsBytes.ms spec_BitsBytes.as spec_BitsBytes.rs spec_BitsBytes.fn), (197, calleeS tab spec_PackOk.ms spec_PackOk.as spec_PackOk.rs spec_PackOk.fn)]
noncomputable def spec_PackBytes.c : Ctx (GT tab) (KT tab) (ResT tab spec_PackBytes.rs) := { X := XT tab, ty := tyOf tys, inner := fun _ => true, keep := keepOf 0 spec_PackBytes.ms, cuts := [], live := liveOf [], G := getG (spec_PackBytes.gs _) }
noncomputable def spec_PackBytes.b : Code := bodyOf Tryz.f166
noncomputable def spec_PackBytes (x0 : Int × Int × Int × (List Int)) : Option (List Int) := callW spec_PackBytes.c (fiOf (GT tab) Tryz.f166 spec_PackBytes.ms) spec_PackBytes.b (decRes tab spec_PackBytes.rs) (encArgs tab spec_PackBytes.as x0)
noncomputable def spec_PackBytes.fn : Args tab spec_PackBytes.as → Option (ResT tab spec_PackBytes.rs) := fun x => spec_PackBytes x
/-! ### spec_l16Ends: loop.example/g00688/spec.l16Ends -/
def spec_l16Ends.ms : List Mode := [.lend, .lend, .lend]
def spec_l16Ends.as : List VSh := [.agg [.int .i64, .sl false false 126], .agg [.int .i64, .int .i64, .int .i64, .sl false false 126], .agg [.int .i64, .int .i64, .int .i64, .sl false false 126]]
def spec_l16Ends.rs : RSh := ⟨[.one (.b (.b (.b (.b (.sl true true 5)))))], [none, none, none]⟩
noncomputable def spec_l16Ends.gs (δ : Type) : List (Nat × Callee (GT tab) δ) := [(162, calleeS tab spec_BitsBytes.ms spec_BitsBytes.as spec_BitsBytes.rs spec_BitsBytes.fn), (166, calleeS tab spec_PackBytes.ms spec_PackBytes.as spec_PackBytes.rs spec_PackBytes.fn)]
noncomputable def spec_l16Ends.c : Ctx (GT tab) (KT tab) (ResT tab spec_l16Ends.rs) := { X := XT tab, ty := tyOf tys, inner := fun _ => true, keep := keepOf 0 spec_l16Ends.ms, cuts := [], live := liveOf [], G := getG (spec_l16Ends.gs _) }
noncomputable def spec_l16Ends.b : Code := bodyOf Tryz.f110
noncomputable def spec_l16Ends (x0 : Int × (List Int)) (x1 : Int × Int × Int × (List Int)) (x2 : Int × Int × Int × (List Int)) : Option (List Int) := callW spec_l16Ends.c (fiOf (GT tab) Tryz.f110 spec_l16Ends.ms) spec_l16Ends.b (decRes tab spec_l16Ends.rs) (encArgs tab spec_l16Ends.as (x0, x1, x2))
noncomputable def spec_l16Ends.fn : Args tab spec_l16Ends.as → Option (ResT tab spec_l16Ends.rs) := fun x => spec_l16Ends x.1 x.2.1 x.2.2
/-! ### spec_FrameOk: loop.example/g00688/spec.FrameOk -/
def spec_FrameOk.ms : List Mode := [.lend]
def spec_FrameOk.as : List VSh := [.agg [.int .i64, .sl false false 5]]
def spec_FrameOk.rs : RSh := ⟨[.one (.b (.b (.b (.b (.bool)))))], [none]⟩
noncomputable def spec_FrameOk.gs (δ : Type) : List (Nat × Callee (GT tab) δ) := []
noncomputable def spec_FrameOk.c : Ctx (GT tab) (KT tab) (ResT tab spec_FrameOk.rs) := { X := XT tab, ty := tyOf tys, inner := fun _ => true, keep := keepOf 0 spec_FrameOk.ms, cuts := [], live := liveOf [], G := getG (spec_FrameOk.gs _) }
noncomputable def spec_FrameOk.b : Code := bodyOf Tryz.f163
noncomputable def spec_FrameOk (x0 : Int × (List Int)) : Option (Bool) := callW spec_FrameOk.c (fiOf (GT tab) Tryz.f163 spec_FrameOk.ms) spec_FrameOk.b (decRes tab spec_FrameOk.rs) (encArgs tab spec_FrameOk.as x0)
noncomputable def spec_FrameOk.fn : Args tab spec_FrameOk.as → Option (ResT tab spec_FrameOk.rs) := fun x => spec_FrameOk x
/-! ### spec_Crc: loop.example/g00688/spec.Crc -/
def spec_Crc.ms : List Mode := [.lend]
def spec_Crc.as : List VSh := [.one (.b (.b (.b (.b (.sl false false 5)))))]
def spec_Crc.rs : RSh := ⟨[.one (.b (.b (.b (.b (.int .i64)))))], [none]⟩
noncomputable def spec_Crc.gs (δ : Type) : List (Nat × Callee (GT tab) δ) := []
noncomputable def spec_Crc.c : Ctx (GT tab) (KT tab) (ResT tab spec_Crc.rs) := { X := XT tab, ty := tyOf tys, inner := fun _ => true, keep := keepOf 0 spec_Crc.ms, cuts := [], live := liveOf [(5, [0, 3, 4]), (9, [0, 3, 4, 5])], G := getG (spec_Crc.gs _) }
noncomputable def spec_Crc.b : Code := bodyOf Tryz.f165
noncomputable def spec_Crc (x0 : List Int) : Option (Int) := callW spec_Crc.c (fiOf (GT tab) Tryz.f165 spec_Crc.ms) spec_Crc.b (decRes tab spec_Crc.rs) (encArgs tab spec_Crc.as x0)
noncomputable def spec_Crc.fn : Args tab spec_Crc.as → Option (ResT tab spec_Crc.rs) := fun x => spec_Crc x
/-! ### spec_l04Four: loop.example/g00688/spec.l04Four -/
def spec_l04Four.ms : List Mode := [.lend]
def spec_l04Four.as : List VSh := [.one (.b (.b (.b (.b (.int .i64)))))]
def spec_l04Four.rs : RSh := ⟨[.one (.b (.b (.b (.b (.sl true true 5)))))], [none]⟩
noncomputable def spec_l04Four.gs (δ : Type) : List (Nat × Callee (GT tab) δ) := []
noncomputable def spec_l04Four.c : Ctx (GT tab) (KT tab) (ResT tab spec_l04Four.rs) := { X := XT tab, ty := tyOf tys, inner := fun _ => true, keep := keepOf 0 spec_l04Four.ms, cuts := [], live := liveOf [], G := getG (spec_l04Four.gs _) }
noncomputable def spec_l04Four.b : Code := bodyOf Tryz.f164
noncomputable def spec_l04Four (x0 : Int) : Option (List Int) := callW spec_l04Four.c (fiOf (GT tab) Tryz.f164 spec_l04Four.ms) spec_l04Four.b (decRes tab spec_l04Four.rs) (encArgs tab spec_l04Four.as x0)
noncomputable def spec_l04Four.fn : Args tab spec_l04Four.as → Option (ResT tab spec_l04Four.rs) := fun x => spec_l04Four x
/-! ### spec_FrameOf: loop.example/g00688/spec.FrameOf -/
def spec_FrameOf.ms : List Mode := [.lend]
def spec_FrameOf.as : List VSh := [.agg [.int .i64, .sl false false 5]]
def spec_FrameOf.rs : RSh := ⟨[.one (.b (.b (.b (.b (.sl true true 5)))))], [none]⟩
noncomputable def spec_FrameOf.gs (δ : Type) : List (Nat × Callee (GT tab) δ) := [(107, calleeS tab spec_VarOf.ms spec_VarOf.as spec_VarOf.rs spec_VarOf.fn), (163, calleeS tab spec_FrameOk.ms spec_FrameOk.as spec_FrameOk.rs spec_FrameOk.fn), (164, calleeS tab spec_l04Four.ms spec_l04Four.as spec_l04Four.rs spec_l04Four.fn), (165, calleeS tab spec_Crc.ms spec_Crc.as spec_Crc.rs spec_Crc.fn)]
noncomputable def spec_FrameOf.c : Ctx (GT tab) (KT tab) (ResT tab spec_FrameOf.rs) := { X := XT tab, ty := tyOf tys, inner := fun _ => true, keep := keepOf 0 spec_FrameOf.ms, cuts := [], live := liveOf [], G := getG (spec_FrameOf.gs _) }
noncomputable def spec_FrameOf.b : Code := bodyOf Tryz.f109
noncomputable def spec_FrameOf (x0 : Int × (List Int)) : Option (List Int) := callW spec_FrameOf.c (fiOf (GT tab) Tryz.f109 spec_FrameOf.ms) spec_FrameOf.b (decRes tab spec_FrameOf.rs) (encArgs tab spec_FrameOf.as x0)
noncomputable def spec_FrameOf.fn : Args tab spec_FrameOf.as → Option (ResT tab spec_FrameOf.rs) := fun x => spec_FrameOf x
/-! ### spec_FmBytes: loop.example/g00688/spec.FmBytes -/
def spec_FmBytes.ms : List Mode := [.lend]
def spec_FmBytes.as : List VSh := [.agg [.int .i64, .int .i64, .int .i64, .sl false false 3, .sl false false 30, .sl false false 3, .int .i64, .sl false false 126, .int .i64, .int .i64, .int .i64, .sl false false 126, .int .i64, .int .i64, .int .i64, .sl false false 126]]
def spec_FmBytes.rs : RSh := ⟨[.one (.b (.b (.b (.b (.sl true true 5)))))], [none]⟩
noncomputable def spec_FmBytes.gs (δ : Type) : List (Nat × Callee (GT tab) δ) := [(50, calleeS tab spec_FmOk.ms spec_FmOk.as spec_FmOk.rs spec_FmOk.fn), (107, calleeS tab spec_VarOf.ms spec_VarOf.as spec_VarOf.rs spec_VarOf.fn), (108, calleeS tab spec_WaveBytes.ms spec_WaveBytes.as spec_WaveBytes.rs spec_WaveBytes.fn), (109, calleeS tab spec_FrameOf.ms spec_FrameOf.as spec_FrameOf.rs spec_FrameOf.fn), (110, calleeS tab spec_l16Ends.ms spec_l16Ends.as spec_l16Ends.rs spec_l16Ends.fn)]
noncomputable def spec_FmBytes.c : Ctx (GT tab) (KT tab) (ResT tab spec_FmBytes.rs) := { X := XT tab, ty := tyOf tys, inner := fun _ => true, keep := keepOf 0 spec_FmBytes.ms, cuts := [], live := liveOf [], G := getG (spec_FmBytes.gs _) }
noncomputable def spec_FmBytes.b : Code := bodyOf Tryz.f54
noncomputable def spec_FmBytes (x0 : Int × Int × Int × (List Int) × (List (Int × (List Int))) × (List Int) × Int × (List Int) × Int × Int × Int × (List Int) × Int × Int × Int × (List Int)) : Option (List Int) := callW spec_FmBytes.c (fiOf (GT tab) Tryz.f54 spec_FmBytes.ms) spec_FmBytes.b (decRes tab spec_FmBytes.rs) (encArgs tab spec_FmBytes.as x0)
/-! ### impl_FmOk: loop.example/g00688/impl.FmOk -/
def impl_FmOk.ms : List Mode := [.lend]
def impl_FmOk.as : List VSh := [.agg [.int .i64, .int .i64, .int .i64, .sl false false 3, .sl false false 30, .sl false false 3, .int .i64, .sl false false 126, .int .i64, .int .i64, .int .i64, .sl false false 126, .int .i64, .int .i64, .int .i64, .sl false false 126]]
def impl_FmOk.rs : RSh := ⟨[.one (.b (.b (.b (.b (.bool)))))], [none]⟩
noncomputable def impl_FmOk.gs (δ : Type) : List (Nat × Callee (GT tab) δ) := [(58, calleeS tab impl_Fm_read.ms impl_Fm_read.as impl_Fm_read.rs impl_Fm_read.fn)]
noncomputable def impl_FmOk.c : Ctx (GT tab) (KT tab) (ResT tab impl_FmOk.rs) := { X := XT tab, ty := tyOf tys, inner := fun _ => true, keep := keepOf 0 impl_FmOk.ms, cuts := [], live := liveOf [], G := getG (impl_FmOk.gs _) }
noncomputable def impl_FmOk.b : Code := bodyOf Tryz.f97
noncomputable def impl_FmOk (x0 : Int × Int × Int × (List Int) × (List (Int × (List Int))) × (List Int) × Int × (List Int) × Int × Int × Int × (List Int) × Int × Int × Int × (List Int)) : Option (Bool) := callW impl_FmOk.c (fiOf (GT tab) Tryz.f97 impl_FmOk.ms) impl_FmOk.b (decRes tab impl_FmOk.rs) (encArgs tab impl_FmOk.as x0)
noncomputable def impl_FmOk.fn : Args tab impl_FmOk.as → Option (ResT tab impl_FmOk.rs) := fun x => impl_FmOk x
/-! ### impl_VarOf: loop.example/g00688/impl.VarOf -/
def impl_VarOf.ms : List Mode := [.lend]
def impl_VarOf.as : List VSh := [.one (.b (.b (.b (.b (.int .i64)))))]
def impl_VarOf.rs : RSh := ⟨[.one (.b (.b (.b (.b (.sl true true 5)))))], [none]⟩
noncomputable def impl_VarOf.gs (δ : Type) : List (Nat × Callee (GT tab) δ) := [(63, calleeS tab impl_within.ms impl_within.as impl_within.rs impl_within.fn)]
noncomputable def impl_VarOf.c : Ctx (GT tab) (KT tab) (ResT tab impl_VarOf.rs) := { X := XT tab, ty := tyOf tys, inner := fun _ => true, keep := keepOf 0 impl_VarOf.ms, cuts := [], live := liveOf [(4, [0, 3])], G := getG (impl_VarOf.gs _) }
noncomputable def impl_VarOf.b : Code := bodyOf Tryz.f147
noncomputable def impl_VarOf (x0 : Int) : Option (List Int) := callW impl_VarOf.c (fiOf (GT tab) Tryz.f147 impl_VarOf.ms) impl_VarOf.b (decRes tab impl_VarOf.rs) (encArgs tab impl_VarOf.as x0)
noncomputable def impl_VarOf.fn : Args tab impl_VarOf.as → Option (ResT tab impl_VarOf.rs) := fun x => impl_VarOf x
/-! ### impl_bitsBytes: loop.example/g00688/impl.bitsBytes -/
def impl_bitsBytes.ms : List Mode := [.lend]
def impl_bitsBytes.as : List VSh := [.agg [.int .i64, .sl false false 126]]
def impl_bitsBytes.rs : RSh := ⟨[.one (.b (.b (.b (.b (.sl true true 5)))))], [none]⟩
noncomputable def impl_bitsBytes.gs (δ : Type) : List (Nat × Callee (GT tab) δ) := [(147, calleeS tab impl_VarOf.ms impl_VarOf.as impl_VarOf.rs impl_VarOf.fn)]
noncomputable def impl_bitsBytes.c : Ctx (GT tab) (KT tab) (ResT tab impl_bitsBytes.rs) := { X := XT tab, ty := tyOf tys, inner := fun _ => true, keep := keepOf 0 impl_bitsBytes.ms, cuts := [], live := liveOf [(3, [1, 3, 4])], G := getG (impl_bitsBytes.gs _) }
noncomputable def impl_bitsBytes.b : Code := bodyOf Tryz.f149
noncomputable def impl_bitsBytes (x0 : Int × (List Int)) : Option (List Int) := callW impl_bitsBytes.c (fiOf (GT tab) Tryz.f149 impl_bitsBytes.ms) impl_bitsBytes.b (decRes tab impl_bitsBytes.rs) (encArgs tab impl_bitsBytes.as x0)
noncomputable def impl_bitsBytes.fn : Args tab impl_bitsBytes.as → Option (ResT tab impl_bitsBytes.rs) := fun x => impl_bitsBytes x
/-! ### impl_waveBytes: loop.example/g00688/impl.waveBytes -/
def impl_waveBytes.ms : List Mode := [.lend]
def impl_waveBytes.as : List VSh := [.agg [.int .i64, .sl false false 3, .sl false false 30]]
def impl_waveBytes.rs : RSh := ⟨[.one (.b (.b (.b (.b (.sl true true 5)))))], [none]⟩
noncomputable def impl_waveBytes.gs (δ : Type) : List (Nat × Callee (GT tab) δ) := [(149, calleeS tab impl_bitsBytes.ms impl_bitsBytes.as impl_bitsBytes.rs impl_bitsBytes.fn)]
noncomputable def impl_waveBytes.c : Ctx (GT tab) (KT tab) (ResT tab impl_waveBytes.rs) := { X := XT tab, ty := tyOf tys, inner := fun _ => true, keep := keepOf 0 impl_waveBytes.ms, cuts := [], live := liveOf [(3, [3, 7, 8, 9])], G := getG (impl_waveBytes.gs _) }
noncomputable def impl_waveBytes.b : Code := bodyOf Tryz.f148
noncomputable def impl_waveBytes (x0 : Int × (List Int) × (List (Int × (List Int)))) : Option (List Int) := callW impl_waveBytes.c (fiOf (GT tab) Tryz.f148 impl_waveBytes.ms) impl_waveBytes.b (decRes tab impl_waveBytes.rs) (encArgs tab impl_waveBytes.as x0)
noncomputable def impl_waveBytes.fn : Args tab impl_waveBytes.as → Option (ResT tab impl_waveBytes.rs) := fun x => impl_waveBytes x
/-! ### impl_PackOk: loop.example/g00688/impl.PackOk -/
def impl_PackOk.ms : List Mode := [.lend]
def impl_PackOk.as : List VSh := [.agg [.int .i64, .int .i64, .int .i64, .sl false false 126]]
def impl_PackOk.rs : RSh := ⟨[.one (.b (.b (.b (.b (.bool)))))], [none]⟩
noncomputable def impl_PackOk.gs (δ : Type) : List (Nat × Callee (GT tab) δ) := [(63, calleeS tab impl_within.ms impl_within.as impl_within.rs impl_within.fn), (66, calleeS tab impl_BitsOk.ms impl_BitsOk.as impl_BitsOk.rs impl_BitsOk.fn)]
noncomputable def impl_PackOk.c : Ctx (GT tab) (KT tab) (ResT tab impl_PackOk.rs) := { X := XT tab, ty := tyOf tys, inner := fun _ => true, keep := keepOf 0 impl_PackOk.ms, cuts := [], live := liveOf [], G := getG (impl_PackOk.gs _) }
noncomputable def impl_PackOk.b : Code := bodyOf Tryz.f70
noncomputable def impl_PackOk (x0 : Int × Int × Int × (List Int)) : Option (Bool) := callW impl_PackOk.c (fiOf (GT tab) Tryz.f70 impl_PackOk.ms) impl_PackOk.b (decRes tab impl_PackOk.rs) (encArgs tab impl_PackOk.as x0)
noncomputable def impl_PackOk.fn : Args tab impl_PackOk.as → Option (ResT tab impl_PackOk.rs) := fun x => impl_PackOk x
/-! ### slices_Grow_byte_byte: slices.Grow[[]byte,byte] (by hand) -/
def slices_Grow_byte_byte.ms : List Mode := [.give, .lend]
def slices_Grow_byte_byte.as : List VSh := [.one (.b (.b (.b (.b (.sl true true 5))))), .one (.b (.b (.b (.b (.int .i64)))))]
def slices_Grow_byte_byte.rs : RSh := ⟨[.one (.b (.b (.b (.b (.sl true true 5)))))], [none, none]⟩
noncomputable def slices_Grow_byte_byte (x0 : List Int) (x1 : Int) : Option (List Int) := growF 1 (x0, x1)
noncomputable def slices_Grow_byte_byte.fn : Args tab slices_Grow_byte_byte.as → Option (ResT tab slices_Grow_byte_byte.rs) := fun x => slices_Grow_byte_byte x.1 x.2
/-! ### slices_Concat_byte_byte: slices.Concat[[]byte,byte] -/
def slices_Concat_byte_byte.ms : List Mode := [.lend]
def slices_Concat_byte_byte.as : List VSh := [.one (.b (.b (.b (.b (.sl false false 22)))))]
def slices_Concat_byte_byte.rs : RSh := ⟨[.one (.b (.b (.b (.b (.sl true true 5)))))], [none]⟩
noncomputable def slices_Concat_byte_byte.gs (δ : Type) : List (Nat × Callee (GT tab) δ) := [(185, calleeS tab slices_Grow_byte_byte.ms slices_Grow_byte_byte.as slices_Grow_byte_byte.rs slices_Grow_byte_byte.fn)]
noncomputable def slices_Concat_byte_byte.c : Ctx (GT tab) (KT tab) (ResT tab slices_Concat_byte_byte.rs) := { X := XT tab, ty := tyOf tys, inner := fun _ => true, keep := keepOf 0 slices_Concat_byte_byte.ms, cuts := [], live := liveOf [(3, [0, 3, 9, 10, 11]), (11, [6, 25, 26, 27])], G := getG (slices_Concat_byte_byte.gs _) }
noncomputable def slices_Concat_byte_byte.b : Code := bodyOf Tryz.f146
noncomputable def slices_Concat_byte_byte (x0 : List (List Int)) : Option (List Int) := callW slices_Concat_byte_byte.c (fiOf (GT tab) Tryz.f146 slices_Concat_byte_byte.ms) slices_Concat_byte_byte.b (decRes tab slices_Concat_byte_byte.rs) (encArgs tab slices_Concat_byte_byte.as x0)
noncomputable def slices_Concat_byte_byte.fn : Args tab slices_Concat_byte_byte.as → Option (ResT tab slices_Concat_byte_byte.rs) := fun x => slices_Concat_byte_byte x
/-! ### impl_PackBytes: loop.example/g00688/impl.PackBytes -/
def impl_PackBytes.ms : List Mode := [.lend]
def impl_PackBytes.as : List VSh := [.agg [.int .i64, .int .i64, .int .i64, .sl false false 126]]
def impl_PackBytes.rs : RSh := ⟨[.one (.b (.b (.b (.b (.sl true true 5)))))], [none]⟩
noncomputable def impl_PackBytes.gs (δ : Type) : List (Nat × Callee (GT tab) δ) := [(70, calleeS tab impl_PackOk.ms impl_PackOk.as impl_PackOk.rs impl_PackOk.fn), (146, calleeS tab slices_Concat_byte_byte.ms slices_Concat_byte_byte.as slices_Concat_byte_byte.rs slices_Concat_byte_byte.fn), (147, calleeS tab impl_VarOf.ms impl_VarOf.as impl_VarOf.rs impl_VarOf.fn), (149, calleeS tab impl_bitsBytes.ms impl_bitsBytes.as impl_bitsBytes.rs impl_bitsBytes.fn)]
noncomputable def impl_PackBytes.c : Ctx (GT tab) (KT tab) (ResT tab impl_PackBytes.rs) := { X := XT tab, ty := tyOf tys, inner := fun _ => true, keep := keepOf 0 impl_PackBytes.ms, cuts := [], live := liveOf [], G := getG (impl_PackBytes.gs _) }
noncomputable def impl_PackBytes.b : Code := bodyOf Tryz.f150
noncomputable def impl_PackBytes (x0 : Int × Int × Int × (List Int)) : Option (List Int) := callW impl_PackBytes.c (fiOf (GT tab) Tryz.f150 impl_PackBytes.ms) impl_PackBytes.b (decRes tab impl_PackBytes.rs) (encArgs tab impl_PackBytes.as x0)
noncomputable def impl_PackBytes.fn : Args tab impl_PackBytes.as → Option (ResT tab impl_PackBytes.rs) := fun x => impl_PackBytes x
/-! ### impl_FrameOk: loop.example/g00688/impl.FrameOk -/
def impl_FrameOk.ms : List Mode := [.lend]
def impl_FrameOk.as : List VSh := [.agg [.int .i64, .sl false false 5]]
def impl_FrameOk.rs : RSh := ⟨[.one (.b (.b (.b (.b (.bool)))))], [none]⟩
noncomputable def impl_FrameOk.gs (δ : Type) : List (Nat × Callee (GT tab) δ) := [(63, calleeS tab impl_within.ms impl_within.as impl_within.rs impl_within.fn)]
noncomputable def impl_FrameOk.c : Ctx (GT tab) (KT tab) (ResT tab impl_FrameOk.rs) := { X := XT tab, ty := tyOf tys, inner := fun _ => true, keep := keepOf 0 impl_FrameOk.ms, cuts := [], live := liveOf [], G := getG (impl_FrameOk.gs _) }
noncomputable def impl_FrameOk.b : Code := bodyOf Tryz.f186
noncomputable def impl_FrameOk (x0 : Int × (List Int)) : Option (Bool) := callW impl_FrameOk.c (fiOf (GT tab) Tryz.f186 impl_FrameOk.ms) impl_FrameOk.b (decRes tab impl_FrameOk.rs) (encArgs tab impl_FrameOk.as x0)
noncomputable def impl_FrameOk.fn : Args tab impl_FrameOk.as → Option (ResT tab impl_FrameOk.rs) := fun x => impl_FrameOk x
/-! ### impl_crc: loop.example/g00688/impl.crc -/
def impl_crc.ms : List Mode := [.lend]
def impl_crc.as : List VSh := [.one (.b (.b (.b (.b (.sl false false 5)))))]
def impl_crc.rs : RSh := ⟨[.one (.b (.b (.b (.b (.int .i64)))))], [none]⟩
noncomputable def impl_crc.gs (δ : Type) : List (Nat × Callee (GT tab) δ) := []
noncomputable def impl_crc.c : Ctx (GT tab) (KT tab) (ResT tab impl_crc.rs) := { X := XT tab, ty := tyOf tys, inner := fun _ => true, keep := keepOf 0 impl_crc.ms, cuts := [], live := liveOf [(3, [3, 6, 7, 8]), (7, [3, 6, 7, 8, 16])], G := getG (impl_crc.gs _) }
noncomputable def impl_crc.b : Code := bodyOf Tryz.f187
noncomputable def impl_crc (x0 : List Int) : Option (Int) := callW impl_crc.c (fiOf (GT tab) Tryz.f187 impl_crc.ms) impl_crc.b (decRes tab impl_crc.rs) (encArgs tab impl_crc.as x0)
noncomputable def impl_crc.fn : Args tab impl_crc.as → Option (ResT tab impl_crc.rs) := fun x => impl_crc x
/-! ### impl_FrameOf: loop.example/g00688/impl.FrameOf -/
def impl_FrameOf.ms : List Mode := [.lend]
def impl_FrameOf.as : List VSh := [.agg [.int .i64, .sl false false 5]]
def impl_FrameOf.rs : RSh := ⟨[.one (.b (.b (.b (.b (.sl true true 5)))))], [none]⟩
noncomputable def impl_FrameOf.gs (δ : Type) : List (Nat × Callee (GT tab) δ) := [(147, calleeS tab impl_VarOf.ms impl_VarOf.as impl_VarOf.rs impl_VarOf.fn), (186, calleeS tab impl_FrameOk.ms impl_FrameOk.as impl_FrameOk.rs impl_FrameOk.fn), (187, calleeS tab impl_crc.ms impl_crc.as impl_crc.rs impl_crc.fn)]
noncomputable def impl_FrameOf.c : Ctx (GT tab) (KT tab) (ResT tab impl_FrameOf.rs) := { X := XT tab, ty := tyOf tys, inner := fun _ => true, keep := keepOf 0 impl_FrameOf.ms, cuts := [], live := liveOf [(7, [3, 4, 24])], G := getG (impl_FrameOf.gs _) }
noncomputable def impl_FrameOf.b : Code := bodyOf Tryz.f151
noncomputable def impl_FrameOf (x0 : Int × (List Int)) : Option (List Int) := callW impl_FrameOf.c (fiOf (GT tab) Tryz.f151 impl_FrameOf.ms) impl_FrameOf.b (decRes tab impl_FrameOf.rs) (encArgs tab impl_FrameOf.as x0)
noncomputable def impl_FrameOf.fn : Args tab impl_FrameOf.as → Option (ResT tab impl_FrameOf.rs) := fun x => impl_FrameOf x
/-! ### impl_fmBytes: loop.example/g00688/impl.fmBytes -/
def impl_fmBytes.ms : List Mode := [.lend]
def impl_fmBytes.as : List VSh := [.agg [.int .i64, .int .i64, .int .i64, .sl false false 3, .sl false false 30, .sl false false 3, .int .i64, .sl false false 126, .int .i64, .int .i64, .int .i64, .sl false false 126, .int .i64, .int .i64, .int .i64, .sl false false 126]]
def impl_fmBytes.rs : RSh := ⟨[.one (.b (.b (.b (.b (.sl true true 5)))))], [none]⟩
noncomputable def impl_fmBytes.gs (δ : Type) : List (Nat × Callee (GT tab) δ) := [(146, calleeS tab slices_Concat_byte_byte.ms slices_Concat_byte_byte.as slices_Concat_byte_byte.rs slices_Concat_byte_byte.fn), (147, calleeS tab impl_VarOf.ms impl_VarOf.as impl_VarOf.rs impl_VarOf.fn), (148, calleeS tab impl_waveBytes.ms impl_waveBytes.as impl_waveBytes.rs impl_waveBytes.fn), (149, calleeS tab impl_bitsBytes.ms impl_bitsBytes.as impl_bitsBytes.rs impl_bitsBytes.fn), (150, calleeS tab impl_PackBytes.ms impl_PackBytes.as impl_PackBytes.rs impl_PackBytes.fn), (151, calleeS tab impl_FrameOf.ms impl_FrameOf.as impl_FrameOf.rs impl_FrameOf.fn)]
noncomputable def impl_fmBytes.c : Ctx (GT tab) (KT tab) (ResT tab impl_fmBytes.rs) := { X := XT tab, ty := tyOf tys, inner := fun _ => true, keep := keepOf 0 impl_fmBytes.ms, cuts := [], live := liveOf [], G := getG (impl_fmBytes.gs _) }
noncomputable def impl_fmBytes.b : Code := bodyOf Tryz.f98
noncomputable def impl_fmBytes (x0 : Int × Int × Int × (List Int) × (List (Int × (List Int))) × (List Int) × Int × (List Int) × Int × Int × Int × (List Int) × Int × Int × Int × (List Int)) : Option (List Int) := callW impl_fmBytes.c (fiOf (GT tab) Tryz.f98 impl_fmBytes.ms) impl_fmBytes.b (decRes tab impl_fmBytes.rs) (encArgs tab impl_fmBytes.as x0)
noncomputable def impl_fmBytes.fn : Args tab impl_fmBytes.as → Option (ResT tab impl_fmBytes.rs) := fun x => impl_fmBytes x
/-! ### impl_FmBytes: loop.example/g00688/impl.FmBytes -/
def impl_FmBytes.ms : List Mode := [.lend]
def impl_FmBytes.as : List VSh := [.agg [.int .i64, .int .i64, .int .i64, .sl false false 3, .sl false false 30, .sl false false 3, .int .i64, .sl false false 126, .int .i64, .int .i64, .int .i64, .sl false false 126, .int .i64, .int .i64, .int .i64, .sl false false 126]]
def impl_FmBytes.rs : RSh := ⟨[.one (.b (.b (.b (.b (.sl true true 5)))))], [none]⟩
noncomputable def impl_FmBytes.gs (δ : Type) : List (Nat × Callee (GT tab) δ) := [(97, calleeS tab impl_FmOk.ms impl_FmOk.as impl_FmOk.rs impl_FmOk.fn), (98, calleeS tab impl_fmBytes.ms impl_fmBytes.as impl_fmBytes.rs impl_fmBytes.fn)]
noncomputable def impl_FmBytes.c : Ctx (GT tab) (KT tab) (ResT tab impl_FmBytes.rs) := { X := XT tab, ty := tyOf tys, inner := fun _ => true, keep := keepOf 0 impl_FmBytes.ms, cuts := [], live := liveOf [], G := getG (impl_FmBytes.gs _) }
noncomputable def impl_FmBytes.b : Code := bodyOf Tryz.f49
noncomputable def impl_FmBytes (x0 : Int × Int × Int × (List Int) × (List (Int × (List Int))) × (List Int) × Int × (List Int) × Int × Int × Int × (List Int) × Int × Int × Int × (List Int)) : Option (List Int) := callW impl_FmBytes.c (fiOf (GT tab) Tryz.f49 impl_FmBytes.ms) impl_FmBytes.b (decRes tab impl_FmBytes.rs) (encArgs tab impl_FmBytes.as x0)
end Go.Ev.W
