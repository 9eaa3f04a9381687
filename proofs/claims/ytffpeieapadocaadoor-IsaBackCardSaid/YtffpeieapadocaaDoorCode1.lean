/- What is proved here: the compact code of each function is what the compiler makes of the function of the translated program. No conditions. -/
import Derived.Test.YtffpeieapadocaaDoorEv7
import Derived.Test.YtffpeieapadocaaDoorProg
import Derived.KernelRfl
set_option maxRecDepth 100000
namespace Go.Proofs.YtffpeieapadocaaDoor
open Go Ev
noncomputable def c95 : CF := (.mk 4 [.t a2] (.seq (.reg [(qq a2 (.mv (x6 0)))]) (.seq (.seq (.reg [(qq a3 (.mv z0)), (qq a4 (.bi .eql z3 (.c (.i .u32 (.ofNat 0)))))]) (.cond z4 (.seq (.reg [(qq a2 (.mv (x6 32)))]) .ret) .skip)) (.seq (.reg [(qq a5 (.mv z0)), (qq a6 (.mv z0)), (qq a7 (.un .neg z6)), (qq a8 (.bi .and z5 z7)), (qq a9 (.bi .mul z8 (.c (.i .u32 (.ofNat 125613361))))), (qq a10 (.bi .shr z9 (.c (.i .u64 (.ofNat 27))))), (qq a11 (.iaA 32 1 (.c (.p 4 0)) z10)), (qq a12 (.ld1 z11)), (qq a13 (.ci .i64 z12)), (qq a2 (.mv z13))]) .ret))))
theorem ok95 : OkF Tryd.prog 95 c95 := ⟨Tryd.f95, Tryd.func95, by kernel_rfl⟩
noncomputable def c96 : CF := (.mk 4 [.t a2] (.seq (.reg [(qq a2 (.mv (x6 0)))]) (.seq (.seq (.reg [(qq a3 (.mv z0)), (qq a4 (.bi .eql z3 (.c (.i .u64 (.ofNat 0)))))]) (.cond z4 (.seq (.reg [(qq a2 (.mv (x6 64)))]) .ret) .skip)) (.seq (.reg [(qq a5 (.mv z0)), (qq a6 (.mv z0)), (qq a7 (.un .neg z6)), (qq a8 (.bi .and z5 z7)), (qq a9 (.bi .mul z8 (.c (.i .u64 (.ofNat 285870213051353865))))), (qq a10 (.bi .shr z9 (.c (.i .u64 (.ofNat 58))))), (qq a11 (.iaA 64 1 (.c (.p 5 0)) z10)), (qq a12 (.ld1 z11)), (qq a13 (.ci .i64 z12)), (qq a2 (.mv z13))]) .ret))))
theorem ok96 : OkF Tryd.prog 96 c96 := ⟨Tryd.f96, Tryd.func96, by kernel_rfl⟩
end Go.Proofs.YtffpeieapadocaaDoor
