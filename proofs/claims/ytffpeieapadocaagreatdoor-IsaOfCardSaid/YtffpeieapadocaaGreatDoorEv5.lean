/- What is proved here: pieces of the evaluator's soundness: if the evaluator comes to a value, the model's run comes to it, for every world and tape; no conditions beyond the hypotheses of each theorem. -/
import Derived.Test.YtffpeieapadocaaGreatDoorEv4
set_option linter.unusedSimpArgs false
set_option linter.unusedVariables false
set_option maxRecDepth 10000
set_option maxHeartbeats 16000000
namespace Go.Proofs.YtffpeieapadocaaGreatDoor.Ev
open Go
noncomputable def b31_1 : CC := (.reg [⟨(some (.r .h)), .a (.al 26 [(.i .i64 0), (.i .i64 0), (.i .i64 0), (.i .i64 0), (.i .i64 0)]), none⟩, ⟨(some (.l (.l .h))), .q (.mv (.c (.i .i64 0))), none⟩])
theorem w31_1 (k : Kn) (s : St) (R : Ex → St → Prop) : Wp b31_1 k s R = Wp (.reg [⟨(some (.r .h)), .a (.al 26 [(.i .i64 0), (.i .i64 0), (.i .i64 0), (.i .i64 0), (.i .i64 0)]), none⟩, ⟨(some (.l (.l .h))), .q (.mv (.c (.i .i64 0))), none⟩]) k s R := rfl
noncomputable def b31_2 : CC := (.reg [⟨(some (.r (.l (.l .h)))), .q (.mv (.t .h)), none⟩, ⟨(some (.l (.r (.l .h)))), .q (.bi .and (.t (.r (.l (.l .h)))) (.c (.i .u32 255))), none⟩, ⟨(some (.r (.r (.l .h)))), .q (.ci .i64 (.t (.l (.r (.l .h))))), none⟩, ⟨(some (.l (.l (.r .h)))), .q (.bld [(.i .i64 0), (.i .i64 0), (.i .i64 0), (.i .i64 0), (.i .i64 0)] [(0, 1, (.t (.r (.r (.l .h)))))]), none⟩, ⟨(some (.r (.l .h))), .a (.al 26 [(.i .i64 0), (.i .i64 0), (.i .i64 0), (.i .i64 0), (.i .i64 0)]), none⟩, ⟨none, .e (.st 5 (.t (.r (.l .h))) (.t (.l (.l (.r .h))))), none⟩])
theorem w31_2 (k : Kn) (s : St) (R : Ex → St → Prop) : Wp b31_2 k s R = Wp (.reg [⟨(some (.r (.l (.l .h)))), .q (.mv (.t .h)), none⟩, ⟨(some (.l (.r (.l .h)))), .q (.bi .and (.t (.r (.l (.l .h)))) (.c (.i .u32 255))), none⟩, ⟨(some (.r (.r (.l .h)))), .q (.ci .i64 (.t (.l (.r (.l .h))))), none⟩, ⟨(some (.l (.l (.r .h)))), .q (.bld [(.i .i64 0), (.i .i64 0), (.i .i64 0), (.i .i64 0), (.i .i64 0)] [(0, 1, (.t (.r (.r (.l .h)))))]), none⟩, ⟨(some (.r (.l .h))), .a (.al 26 [(.i .i64 0), (.i .i64 0), (.i .i64 0), (.i .i64 0), (.i .i64 0)]), none⟩, ⟨none, .e (.st 5 (.t (.r (.l .h))) (.t (.l (.l (.r .h))))), none⟩]) k s R := rfl
noncomputable def b31_3 : CC := (.reg [⟨(some (.r (.l (.r .h)))), .q (.fa 0 (.t (.r (.l .h)))), none⟩, ⟨(some (.l (.r (.r .h)))), .q (.ld1 (.t (.r (.l (.r .h))))), none⟩, ⟨(some (.r (.r (.r .h)))), .e (.call 25 [(.t (.l (.r (.r .h))))]), none⟩, ⟨(some (.l (.l (.l (.l .h))))), .e (.call 40 [(.t (.r (.r (.r .h))))]), none⟩, ⟨(some (.l (.r .h))), .a (.al 80 [(.b false), (.b false), (.b false), (.b false)]), none⟩, ⟨none, .e (.st 4 (.t (.l (.r .h))) (.t (.l (.l (.l (.l .h)))))), none⟩])
theorem w31_3 (k : Kn) (s : St) (R : Ex → St → Prop) : Wp b31_3 k s R = Wp (.reg [⟨(some (.r (.l (.r .h)))), .q (.fa 0 (.t (.r (.l .h)))), none⟩, ⟨(some (.l (.r (.r .h)))), .q (.ld1 (.t (.r (.l (.r .h))))), none⟩, ⟨(some (.r (.r (.r .h)))), .e (.call 25 [(.t (.l (.r (.r .h))))]), none⟩, ⟨(some (.l (.l (.l (.l .h))))), .e (.call 40 [(.t (.r (.r (.r .h))))]), none⟩, ⟨(some (.l (.r .h))), .a (.al 80 [(.b false), (.b false), (.b false), (.b false)]), none⟩, ⟨none, .e (.st 4 (.t (.l (.r .h))) (.t (.l (.l (.l (.l .h)))))), none⟩]) k s R := rfl
noncomputable def b31_4 : CC := (.reg [⟨(some (.r (.l (.l (.l .h))))), .q (.fa 0 (.t (.l (.r .h)))), none⟩, ⟨(some (.l (.r (.l (.l .h))))), .q (.ld1 (.t (.r (.l (.l (.l .h)))))), none⟩])
theorem w31_4 (k : Kn) (s : St) (R : Ex → St → Prop) : Wp b31_4 k s R = Wp (.reg [⟨(some (.r (.l (.l (.l .h))))), .q (.fa 0 (.t (.l (.r .h)))), none⟩, ⟨(some (.l (.r (.l (.l .h))))), .q (.ld1 (.t (.r (.l (.l (.l .h)))))), none⟩]) k s R := rfl
noncomputable def b31_5 : CC := (.reg [⟨(some (.r (.r (.l (.l .h))))), .q (.mv (.t .h)), none⟩, ⟨(some (.l (.l (.r (.l .h))))), .q (.bi .shr (.t (.r (.r (.l (.l .h))))) (.c (.i .u64 12))), none⟩, ⟨(some (.r (.l (.r (.l .h))))), .q (.bi .and (.t (.l (.l (.r (.l .h))))) (.c (.i .u32 15))), none⟩, ⟨(some (.l (.r (.r (.l .h))))), .q (.ci .i64 (.t (.r (.l (.r (.l .h)))))), none⟩, ⟨(some (.r (.r (.r (.l .h))))), .q (.fa 1 (.t (.r (.l .h)))), none⟩, ⟨none, .e (.st 1 (.t (.r (.r (.r (.l .h))))) (.t (.l (.r (.r (.l .h)))))), none⟩])
theorem w31_5 (k : Kn) (s : St) (R : Ex → St → Prop) : Wp b31_5 k s R = Wp (.reg [⟨(some (.r (.r (.l (.l .h))))), .q (.mv (.t .h)), none⟩, ⟨(some (.l (.l (.r (.l .h))))), .q (.bi .shr (.t (.r (.r (.l (.l .h))))) (.c (.i .u64 12))), none⟩, ⟨(some (.r (.l (.r (.l .h))))), .q (.bi .and (.t (.l (.l (.r (.l .h))))) (.c (.i .u32 15))), none⟩, ⟨(some (.l (.r (.r (.l .h))))), .q (.ci .i64 (.t (.r (.l (.r (.l .h)))))), none⟩, ⟨(some (.r (.r (.r (.l .h))))), .q (.fa 1 (.t (.r (.l .h)))), none⟩, ⟨none, .e (.st 1 (.t (.r (.r (.r (.l .h))))) (.t (.l (.r (.r (.l .h)))))), none⟩]) k s R := rfl
noncomputable def b31_6 : CC := (.seq b31_4 (.cond (.t (.l (.r (.l (.l .h))))) b31_5 .skip))
theorem w31_6 (k : Kn) (s : St) (R : Ex → St → Prop) : Wp b31_6 k s R = Wp (.seq b31_4 (.cond (.t (.l (.r (.l (.l .h))))) b31_5 .skip)) k s R := rfl
noncomputable def b31_7 : CC := (.reg [⟨(some (.l (.l (.l (.r .h))))), .q (.fa 1 (.t (.l (.r .h)))), none⟩, ⟨(some (.r (.l (.l (.r .h))))), .q (.ld1 (.t (.l (.l (.l (.r .h)))))), none⟩])
theorem w31_7 (k : Kn) (s : St) (R : Ex → St → Prop) : Wp b31_7 k s R = Wp (.reg [⟨(some (.l (.l (.l (.r .h))))), .q (.fa 1 (.t (.l (.r .h)))), none⟩, ⟨(some (.r (.l (.l (.r .h))))), .q (.ld1 (.t (.l (.l (.l (.r .h)))))), none⟩]) k s R := rfl
noncomputable def b31_8 : CC := (.reg [⟨(some (.l (.r (.l (.r .h))))), .q (.mv (.t .h)), none⟩, ⟨(some (.r (.r (.l (.r .h))))), .q (.bi .shr (.t (.l (.r (.l (.r .h))))) (.c (.i .u64 8))), none⟩, ⟨(some (.l (.l (.r (.r .h))))), .q (.bi .and (.t (.r (.r (.l (.r .h))))) (.c (.i .u32 15))), none⟩, ⟨(some (.r (.l (.r (.r .h))))), .q (.ci .i64 (.t (.l (.l (.r (.r .h)))))), none⟩, ⟨(some (.l (.r (.r (.r .h))))), .q (.fa 2 (.t (.r (.l .h)))), none⟩, ⟨none, .e (.st 1 (.t (.l (.r (.r (.r .h))))) (.t (.r (.l (.r (.r .h)))))), none⟩])
theorem w31_8 (k : Kn) (s : St) (R : Ex → St → Prop) : Wp b31_8 k s R = Wp (.reg [⟨(some (.l (.r (.l (.r .h))))), .q (.mv (.t .h)), none⟩, ⟨(some (.r (.r (.l (.r .h))))), .q (.bi .shr (.t (.l (.r (.l (.r .h))))) (.c (.i .u64 8))), none⟩, ⟨(some (.l (.l (.r (.r .h))))), .q (.bi .and (.t (.r (.r (.l (.r .h))))) (.c (.i .u32 15))), none⟩, ⟨(some (.r (.l (.r (.r .h))))), .q (.ci .i64 (.t (.l (.l (.r (.r .h)))))), none⟩, ⟨(some (.l (.r (.r (.r .h))))), .q (.fa 2 (.t (.r (.l .h)))), none⟩, ⟨none, .e (.st 1 (.t (.l (.r (.r (.r .h))))) (.t (.r (.l (.r (.r .h)))))), none⟩]) k s R := rfl
noncomputable def b31_9 : CC := (.seq b31_7 (.cond (.t (.r (.l (.l (.r .h))))) b31_8 .skip))
theorem w31_9 (k : Kn) (s : St) (R : Ex → St → Prop) : Wp b31_9 k s R = Wp (.seq b31_7 (.cond (.t (.r (.l (.l (.r .h))))) b31_8 .skip)) k s R := rfl
noncomputable def b31_10 : CC := (.reg [⟨(some (.r (.r (.r (.r .h))))), .q (.fa 2 (.t (.l (.r .h)))), none⟩, ⟨(some (.l (.l (.l (.l (.l .h)))))), .q (.ld1 (.t (.r (.r (.r (.r .h)))))), none⟩])
theorem w31_10 (k : Kn) (s : St) (R : Ex → St → Prop) : Wp b31_10 k s R = Wp (.reg [⟨(some (.r (.r (.r (.r .h))))), .q (.fa 2 (.t (.l (.r .h)))), none⟩, ⟨(some (.l (.l (.l (.l (.l .h)))))), .q (.ld1 (.t (.r (.r (.r (.r .h)))))), none⟩]) k s R := rfl
noncomputable def b31_11 : CC := (.reg [⟨(some (.r (.l (.l (.l (.l .h)))))), .q (.mv (.t .h)), none⟩, ⟨(some (.l (.r (.l (.l (.l .h)))))), .q (.bi .shr (.t (.r (.l (.l (.l (.l .h)))))) (.c (.i .u64 16))), none⟩, ⟨(some (.r (.r (.l (.l (.l .h)))))), .q (.ci .i64 (.t (.l (.r (.l (.l (.l .h))))))), none⟩, ⟨(some (.l (.l (.r (.l (.l .h)))))), .q (.fa 3 (.t (.r (.l .h)))), none⟩, ⟨none, .e (.st 1 (.t (.l (.l (.r (.l (.l .h)))))) (.t (.r (.r (.l (.l (.l .h))))))), none⟩])
theorem w31_11 (k : Kn) (s : St) (R : Ex → St → Prop) : Wp b31_11 k s R = Wp (.reg [⟨(some (.r (.l (.l (.l (.l .h)))))), .q (.mv (.t .h)), none⟩, ⟨(some (.l (.r (.l (.l (.l .h)))))), .q (.bi .shr (.t (.r (.l (.l (.l (.l .h)))))) (.c (.i .u64 16))), none⟩, ⟨(some (.r (.r (.l (.l (.l .h)))))), .q (.ci .i64 (.t (.l (.r (.l (.l (.l .h))))))), none⟩, ⟨(some (.l (.l (.r (.l (.l .h)))))), .q (.fa 3 (.t (.r (.l .h)))), none⟩, ⟨none, .e (.st 1 (.t (.l (.l (.r (.l (.l .h)))))) (.t (.r (.r (.l (.l (.l .h))))))), none⟩]) k s R := rfl
noncomputable def b31_12 : CC := (.seq b31_10 (.cond (.t (.l (.l (.l (.l (.l .h)))))) b31_11 .skip))
theorem w31_12 (k : Kn) (s : St) (R : Ex → St → Prop) : Wp b31_12 k s R = Wp (.seq b31_10 (.cond (.t (.l (.l (.l (.l (.l .h)))))) b31_11 .skip)) k s R := rfl
noncomputable def b31_13 : CC := (.reg [⟨(some (.r (.l (.r (.l (.l .h)))))), .q (.fa 3 (.t (.l (.r .h)))), none⟩, ⟨(some (.l (.r (.r (.l (.l .h)))))), .q (.ld1 (.t (.r (.l (.r (.l (.l .h))))))), none⟩])
theorem w31_13 (k : Kn) (s : St) (R : Ex → St → Prop) : Wp b31_13 k s R = Wp (.reg [⟨(some (.r (.l (.r (.l (.l .h)))))), .q (.fa 3 (.t (.l (.r .h)))), none⟩, ⟨(some (.l (.r (.r (.l (.l .h)))))), .q (.ld1 (.t (.r (.l (.r (.l (.l .h))))))), none⟩]) k s R := rfl
noncomputable def b31_14 : CC := (.reg [⟨(some (.r (.r (.r (.l (.l .h)))))), .q (.mv (.t .h)), none⟩, ⟨(some (.l (.l (.l (.r (.l .h)))))), .q (.bi .shr (.t (.r (.r (.r (.l (.l .h)))))) (.c (.i .u64 16))), none⟩, ⟨(some (.r (.l (.l (.r (.l .h)))))), .q (.ci .i16 (.t (.l (.l (.l (.r (.l .h))))))), none⟩, ⟨(some (.l (.r (.l (.r (.l .h)))))), .q (.ci .i64 (.t (.r (.l (.l (.r (.l .h))))))), none⟩, ⟨(some (.r (.r (.l (.r (.l .h)))))), .q (.fa 4 (.t (.r (.l .h)))), none⟩, ⟨none, .e (.st 1 (.t (.r (.r (.l (.r (.l .h)))))) (.t (.l (.r (.l (.r (.l .h))))))), none⟩])
theorem w31_14 (k : Kn) (s : St) (R : Ex → St → Prop) : Wp b31_14 k s R = Wp (.reg [⟨(some (.r (.r (.r (.l (.l .h)))))), .q (.mv (.t .h)), none⟩, ⟨(some (.l (.l (.l (.r (.l .h)))))), .q (.bi .shr (.t (.r (.r (.r (.l (.l .h)))))) (.c (.i .u64 16))), none⟩, ⟨(some (.r (.l (.l (.r (.l .h)))))), .q (.ci .i16 (.t (.l (.l (.l (.r (.l .h))))))), none⟩, ⟨(some (.l (.r (.l (.r (.l .h)))))), .q (.ci .i64 (.t (.r (.l (.l (.r (.l .h))))))), none⟩, ⟨(some (.r (.r (.l (.r (.l .h)))))), .q (.fa 4 (.t (.r (.l .h)))), none⟩, ⟨none, .e (.st 1 (.t (.r (.r (.l (.r (.l .h)))))) (.t (.l (.r (.l (.r (.l .h))))))), none⟩]) k s R := rfl
noncomputable def b31_15 : CC := (.reg [⟨(some (.l (.l (.r (.r (.l .h)))))), .q (.fa 0 (.t (.r (.l .h)))), none⟩, ⟨(some (.r (.l (.r (.r (.l .h)))))), .q (.ld1 (.t (.l (.l (.r (.r (.l .h))))))), none⟩, ⟨(some (.l (.r (.r (.r (.l .h)))))), .e (.call 54 [(.t (.r (.l (.r (.r (.l .h))))))]), none⟩])
theorem w31_15 (k : Kn) (s : St) (R : Ex → St → Prop) : Wp b31_15 k s R = Wp (.reg [⟨(some (.l (.l (.r (.r (.l .h)))))), .q (.fa 0 (.t (.r (.l .h)))), none⟩, ⟨(some (.r (.l (.r (.r (.l .h)))))), .q (.ld1 (.t (.l (.l (.r (.r (.l .h))))))), none⟩, ⟨(some (.l (.r (.r (.r (.l .h)))))), .e (.call 54 [(.t (.r (.l (.r (.r (.l .h))))))]), none⟩]) k s R := rfl
noncomputable def b31_16 : CC := (.reg [⟨(some (.r (.r (.r (.r (.l .h)))))), .q (.mv (.t .h)), none⟩, ⟨(some (.l (.l (.l (.l (.r .h)))))), .q (.bi .shr (.t (.r (.r (.r (.r (.l .h)))))) (.c (.i .u64 16))), none⟩, ⟨(some (.r (.l (.l (.l (.r .h)))))), .q (.ci .i64 (.t (.l (.l (.l (.l (.r .h))))))), none⟩, ⟨(some (.l (.r (.l (.l (.r .h)))))), .q (.fa 4 (.t (.r (.l .h)))), none⟩, ⟨none, .e (.st 1 (.t (.l (.r (.l (.l (.r .h)))))) (.t (.r (.l (.l (.l (.r .h))))))), none⟩])
theorem w31_16 (k : Kn) (s : St) (R : Ex → St → Prop) : Wp b31_16 k s R = Wp (.reg [⟨(some (.r (.r (.r (.r (.l .h)))))), .q (.mv (.t .h)), none⟩, ⟨(some (.l (.l (.l (.l (.r .h)))))), .q (.bi .shr (.t (.r (.r (.r (.r (.l .h)))))) (.c (.i .u64 16))), none⟩, ⟨(some (.r (.l (.l (.l (.r .h)))))), .q (.ci .i64 (.t (.l (.l (.l (.l (.r .h))))))), none⟩, ⟨(some (.l (.r (.l (.l (.r .h)))))), .q (.fa 4 (.t (.r (.l .h)))), none⟩, ⟨none, .e (.st 1 (.t (.l (.r (.l (.l (.r .h)))))) (.t (.r (.l (.l (.l (.r .h))))))), none⟩]) k s R := rfl
noncomputable def b31_17 : CC := (.seq b31_15 (.cond (.t (.l (.r (.r (.r (.l .h)))))) b31_16 .skip))
theorem w31_17 (k : Kn) (s : St) (R : Ex → St → Prop) : Wp b31_17 k s R = Wp (.seq b31_15 (.cond (.t (.l (.r (.r (.r (.l .h)))))) b31_16 .skip)) k s R := rfl
noncomputable def b31_18 : CC := (.cond (.t (.l (.r (.r (.l (.l .h)))))) (.seq b31_14 b31_17) .skip)
theorem w31_18 (k : Kn) (s : St) (R : Ex → St → Prop) : Wp b31_18 k s R = Wp (.cond (.t (.l (.r (.r (.l (.l .h)))))) (.seq b31_14 b31_17) .skip) k s R := rfl
noncomputable def b31_19 : CC := (.reg [⟨(some (.l (.l (.r (.l (.r .h)))))), .q (.ldn 5 (.t (.r (.l .h)))), none⟩, ⟨(some (.r (.l (.r (.l (.r .h)))))), .e (.call 10 [(.t (.l (.l (.r (.l (.r .h))))))]), none⟩, ⟨(some (.r (.r (.l (.l (.r .h)))))), .q (.mv (.t (.r (.l (.r (.l (.r .h))))))), none⟩, ⟨(some (.l (.r (.r (.l (.r .h)))))), .q (.ex 0 (.t (.r (.r (.l (.l (.r .h))))))), none⟩, ⟨(some (.r (.r (.r (.l (.r .h)))))), .q (.ex 1 (.t (.r (.r (.l (.l (.r .h))))))), none⟩, ⟨(some (.r (.r .h))), .q (.mv (.t (.l (.r (.r (.l (.r .h))))))), none⟩, ⟨(some (.l (.l (.l .h)))), .q (.mv (.t (.r (.r (.r (.l (.r .h))))))), none⟩])
theorem w31_19 (k : Kn) (s : St) (R : Ex → St → Prop) : Wp b31_19 k s R = Wp (.reg [⟨(some (.l (.l (.r (.l (.r .h)))))), .q (.ldn 5 (.t (.r (.l .h)))), none⟩, ⟨(some (.r (.l (.r (.l (.r .h)))))), .e (.call 10 [(.t (.l (.l (.r (.l (.r .h))))))]), none⟩, ⟨(some (.r (.r (.l (.l (.r .h)))))), .q (.mv (.t (.r (.l (.r (.l (.r .h))))))), none⟩, ⟨(some (.l (.r (.r (.l (.r .h)))))), .q (.ex 0 (.t (.r (.r (.l (.l (.r .h))))))), none⟩, ⟨(some (.r (.r (.r (.l (.r .h)))))), .q (.ex 1 (.t (.r (.r (.l (.l (.r .h))))))), none⟩, ⟨(some (.r (.r .h))), .q (.mv (.t (.l (.r (.r (.l (.r .h))))))), none⟩, ⟨(some (.l (.l (.l .h)))), .q (.mv (.t (.r (.r (.r (.l (.r .h))))))), none⟩]) k s R := rfl
noncomputable def b31_20 : CC := (.reg [⟨(some (.l (.l (.l (.r (.r .h)))))), .q (.mv (.t (.l (.l (.l .h))))), none⟩, ⟨(some (.r (.l (.l (.r (.r .h)))))), .q (.bi .neq (.t (.l (.l (.l (.r (.r .h)))))) (.c (.i .i64 0))), none⟩, ⟨(some (.l (.r (.l (.r (.r .h)))))), .q (.mv (.t (.r (.l (.l (.r (.r .h))))))), none⟩, ⟨(some (.r (.r (.l (.r (.r .h)))))), .q (.mv (.t (.r (.r .h)))), (some ((.l (.r (.l (.r (.r .h))))), false))⟩, ⟨(some (.l (.l (.r (.r (.r .h)))))), .q (.mv (.t .h)), (some ((.l (.r (.l (.r (.r .h))))), false))⟩, ⟨(some (.r (.l (.r (.r (.r .h)))))), .q (.bi .neq (.t (.r (.r (.l (.r (.r .h)))))) (.t (.l (.l (.r (.r (.r .h))))))), (some ((.l (.r (.l (.r (.r .h))))), false))⟩, ⟨(some (.l (.r (.r (.r (.r .h)))))), .q (.pk (.t (.l (.r (.l (.r (.r .h)))))) (.c (.b true)) (.t (.r (.l (.r (.r (.r .h))))))), none⟩])
theorem w31_20 (k : Kn) (s : St) (R : Ex → St → Prop) : Wp b31_20 k s R = Wp (.reg [⟨(some (.l (.l (.l (.r (.r .h)))))), .q (.mv (.t (.l (.l (.l .h))))), none⟩, ⟨(some (.r (.l (.l (.r (.r .h)))))), .q (.bi .neq (.t (.l (.l (.l (.r (.r .h)))))) (.c (.i .i64 0))), none⟩, ⟨(some (.l (.r (.l (.r (.r .h)))))), .q (.mv (.t (.r (.l (.l (.r (.r .h))))))), none⟩, ⟨(some (.r (.r (.l (.r (.r .h)))))), .q (.mv (.t (.r (.r .h)))), (some ((.l (.r (.l (.r (.r .h))))), false))⟩, ⟨(some (.l (.l (.r (.r (.r .h)))))), .q (.mv (.t .h)), (some ((.l (.r (.l (.r (.r .h))))), false))⟩, ⟨(some (.r (.l (.r (.r (.r .h)))))), .q (.bi .neq (.t (.r (.r (.l (.r (.r .h)))))) (.t (.l (.l (.r (.r (.r .h))))))), (some ((.l (.r (.l (.r (.r .h))))), false))⟩, ⟨(some (.l (.r (.r (.r (.r .h)))))), .q (.pk (.t (.l (.r (.l (.r (.r .h)))))) (.c (.b true)) (.t (.r (.l (.r (.r (.r .h))))))), none⟩]) k s R := rfl
noncomputable def b31_21 : CC := (.reg [⟨(some (.r (.r (.r (.r (.r .h)))))), .q (.bld [(.i .i64 0), (.i .i64 0), (.i .i64 0), (.i .i64 0), (.i .i64 0)] []), none⟩, ⟨none, .e (.st 5 (.t (.r .h)) (.t (.r (.r (.r (.r (.r .h))))))), none⟩, ⟨(some (.l (.l .h))), .q (.mv (.c (.i .i64 4))), none⟩])
theorem w31_21 (k : Kn) (s : St) (R : Ex → St → Prop) : Wp b31_21 k s R = Wp (.reg [⟨(some (.r (.r (.r (.r (.r .h)))))), .q (.bld [(.i .i64 0), (.i .i64 0), (.i .i64 0), (.i .i64 0), (.i .i64 0)] []), none⟩, ⟨none, .e (.st 5 (.t (.r .h)) (.t (.r (.r (.r (.r (.r .h))))))), none⟩, ⟨(some (.l (.l .h))), .q (.mv (.c (.i .i64 4))), none⟩]) k s R := rfl
noncomputable def b31_22 : CC := (.cond (.t (.l (.r (.r (.r (.r .h)))))) (.seq b31_21 .ret) .skip)
theorem w31_22 (k : Kn) (s : St) (R : Ex → St → Prop) : Wp b31_22 k s R = Wp (.cond (.t (.l (.r (.r (.r (.r .h)))))) (.seq b31_21 .ret) .skip) k s R := rfl
noncomputable def b31_23 : CC := (.reg [⟨(some (.l (.l (.l (.l (.l (.l .h))))))), .q (.ldn 5 (.t (.r (.l .h)))), none⟩, ⟨none, .e (.st 5 (.t (.r .h)) (.t (.l (.l (.l (.l (.l (.l .h)))))))), none⟩, ⟨(some (.l (.l .h))), .q (.mv (.c (.i .i64 0))), none⟩])
theorem w31_23 (k : Kn) (s : St) (R : Ex → St → Prop) : Wp b31_23 k s R = Wp (.reg [⟨(some (.l (.l (.l (.l (.l (.l .h))))))), .q (.ldn 5 (.t (.r (.l .h)))), none⟩, ⟨none, .e (.st 5 (.t (.r .h)) (.t (.l (.l (.l (.l (.l (.l .h)))))))), none⟩, ⟨(some (.l (.l .h))), .q (.mv (.c (.i .i64 0))), none⟩]) k s R := rfl
noncomputable def b31_24 : CC := (.seq (.seq b31_19 (.seq b31_20 b31_22)) (.seq b31_23 .ret))
theorem w31_24 (k : Kn) (s : St) (R : Ex → St → Prop) : Wp b31_24 k s R = Wp (.seq (.seq b31_19 (.seq b31_20 b31_22)) (.seq b31_23 .ret)) k s R := rfl
noncomputable def b31_25 : CC := (.seq b31_9 (.seq b31_12 (.seq (.seq b31_13 b31_18) b31_24)))
theorem w31_25 (k : Kn) (s : St) (R : Ex → St → Prop) : Wp b31_25 k s R = Wp (.seq b31_9 (.seq b31_12 (.seq (.seq b31_13 b31_18) b31_24))) k s R := rfl
noncomputable def c31 : CF := .mk 7 [.cn (.r .h) 5, .t (.l (.l .h))] (.seq b31_1 (.seq b31_2 (.seq b31_3 (.seq b31_6 b31_25))))
theorem e31 (v0 : V) : argTr 7 [v0] = (.n (.n (.n (.n (.n (.n (.n .e none .e) none (.n .e none .e)) none (.n (.n .e none .e) none (.n .e none .e))) none (.n (.n (.n .e none .e) none (.n .e none .e)) none (.n (.n .e none .e) none (.n .e none .e)))) none (.n (.n (.n (.n .e none .e) none (.n .e none .e)) none (.n (.n .e none .e) none (.n .e none .e))) none (.n (.n (.n .e none .e) none (.n .e none .e)) none (.n (.n .e none .e) none (.n .e none .e))))) none (.n (.n (.n (.n (.n .e none .e) none (.n .e none .e)) none (.n (.n .e none .e) none (.n .e none .e))) none (.n (.n (.n .e none .e) none (.n .e none .e)) none (.n (.n .e none .e) none (.n .e none .e)))) none (.n (.n (.n (.n .e none .e) none (.n .e none .e)) none (.n (.n .e none .e) none (.n .e none .e))) none (.n (.n (.n .e none .e) none (.n .e none .e)) none (.n (.n .e none .e) none (.n .e none .e)))))) (some v0) (.n (.n (.n (.n (.n (.n .e none .e) none (.n .e none .e)) none (.n (.n .e none .e) none (.n .e none .e))) none (.n (.n (.n .e none .e) none (.n .e none .e)) none (.n (.n .e none .e) none (.n .e none .e)))) none (.n (.n (.n (.n .e none .e) none (.n .e none .e)) none (.n (.n .e none .e) none (.n .e none .e))) none (.n (.n (.n .e none .e) none (.n .e none .e)) none (.n (.n .e none .e) none (.n .e none .e))))) none (.n (.n (.n (.n (.n .e none .e) none (.n .e none .e)) none (.n (.n .e none .e) none (.n .e none .e))) none (.n (.n (.n .e none .e) none (.n .e none .e)) none (.n (.n .e none .e) none (.n .e none .e)))) none (.n (.n (.n (.n .e none .e) none (.n .e none .e)) none (.n (.n .e none .e) none (.n .e none .e))) none (.n (.n (.n .e none .e) none (.n .e none .e)) none (.n (.n .e none .e) none (.n .e none .e))))))) := rfl

def w10 (op d a b i : Int) : Int := if mayI op d a b i = true then (wordI op d a b i : Nat) else 0
def er10 (op d a b i : Int) : Int := if mayI op d a b i = true then 0 else 2
def h10 : List V → Option V
  | [.g [.i .i64 op, .i .i64 d, .i .i64 a, .i .i64 b, .i .i64 i]] => some (.t [.i .u32 (w10 op d a b i), .i .i64 (er10 op d a b i)])
  | _ => none
theorem h10_eq (op d a b i : Int) : h10 [.g [.i .i64 op, .i .i64 d, .i .i64 a, .i .i64 b, .i .i64 i]] = some (.t [.i .u32 (w10 op d a b i), .i .i64 (er10 op d a b i)]) := rfl
/-- the fields of a word -/
def opW (w : Nat) : Int := ((w % 256 : Nat) : Int)
def dW (w : Nat) : Int := if dI (formI (opW w)) = true then ((w / 4096 % 16 : Nat) : Int) else 0
def aW (w : Nat) : Int := if aI (formI (opW w)) = true then ((w / 256 % 16 : Nat) : Int) else 0
def bW (w : Nat) : Int := if bI (formI (opW w)) = true then ((w / 65536 : Nat) : Int) else 0
def s16 (w : Nat) : Int := if 32768 ≤ w / 65536 then ((w / 65536 : Nat) : Int) - 65536 else ((w / 65536 : Nat) : Int)
def iW (w : Nat) : Int := if iI (formI (opW w)) = true then (if opW w = 3 ∨ opW w = 6 then ((w / 65536 : Nat) : Int) else s16 w) else 0
/-- the instruction of a word, and the error -/
noncomputable def ofV (w : Nat) : V :=
  if mayI (opW w) (dW w) (aW w) (bW w) (iW w) = true ∧ wordI (opW w) (dW w) (aW w) (bW w) (iW w) = w then .t [.g [.i .i64 (opW w), .i .i64 (dW w), .i .i64 (aW w), .i .i64 (bW w), .i .i64 (iW w)], .i .i64 0]
  else .t [.g [.i .i64 0, .i .i64 0, .i .i64 0, .i .i64 0, .i .i64 0], .i .i64 4]
theorem i64_nat (n : Nat) (h : n < 9223372036854775808) : IntKind.i64.wrap (n : Int) = (n : Int) := wrap_i64 (by omega) (by omega)
theorem u32_and255 (w : Nat) (hw : w < 4294967296) : biV .and (.i .u32 (w : Int)) (.i .u32 255) = some (.i .u32 ((w % 256 : Nat) : Int)) := by
  have := u32_and w 255 hw (by decide)
  rw [show (255 : Nat) = 2 ^ 8 - 1 from rfl, Nat.and_two_pow_sub_one_eq_mod] at this
  exact this
theorem u32_and15 (w : Nat) (hw : w < 4294967296) : biV .and (.i .u32 (w : Int)) (.i .u32 15) = some (.i .u32 ((w % 16 : Nat) : Int)) := by
  have := u32_and w 15 hw (by decide)
  rw [show (15 : Nat) = 2 ^ 4 - 1 from rfl, Nat.and_two_pow_sub_one_eq_mod] at this
  exact this
theorem u32_shr12 (w : Nat) : biV .shr (.i .u32 (w : Int)) (.i .u64 12) = some (.i .u32 ((w / 4096 : Nat) : Int)) := u32_shr w 12 (by decide)
theorem u32_shr8 (w : Nat) : biV .shr (.i .u32 (w : Int)) (.i .u64 8) = some (.i .u32 ((w / 256 : Nat) : Int)) := u32_shr w 8 (by decide)
theorem u32_shr16 (w : Nat) : biV .shr (.i .u32 (w : Int)) (.i .u64 16) = some (.i .u32 ((w / 65536 : Nat) : Int)) := u32_shr w 16 (by decide)
theorem s16_eq (w : Nat) (hw : w < 4294967296) : IntKind.i16.wrap ((w / 65536 : Nat) : Int) = s16 w := by
  rw [wrap_i16]
  unfold s16
  split <;> split <;> omega
theorem s16_i64 (w : Nat) (hw : w < 4294967296) : IntKind.i64.wrap (s16 w) = s16 w := by
  unfold s16
  split <;> exact wrap_i64 (by omega) (by omega)
theorem ofN1 {op d a b i : Int} {w : Nat} (h : decide (er10 op d a b i ≠ 0) = (!false)) : ¬ (mayI op d a b i = true ∧ wordI op d a b i = w) := by
  have h' := of_decide_eq_true (show decide (er10 op d a b i ≠ 0) = true from h)
  unfold er10 at h'
  intro hh
  rw [if_pos hh.1] at h'
  exact h' rfl
theorem ofN2 {op d a b i : Int} {w : Nat} (h : decide (w10 op d a b i ≠ (w : Int)) = true) : ¬ (mayI op d a b i = true ∧ wordI op d a b i = w) := by
  have h' := of_decide_eq_true h
  unfold w10 at h'
  intro hh
  rw [if_pos hh.1, hh.2] at h'
  exact h' rfl
theorem ofY {op d a b i : Int} {w : Nat} (h : decide (er10 op d a b i ≠ 0) = false) (h2 : decide (w10 op d a b i ≠ (w : Int)) = false) : mayI op d a b i = true ∧ wordI op d a b i = w := by
  have h' := of_decide_eq_false h
  have h2' := of_decide_eq_false h2
  unfold er10 at h'
  unfold w10 at h2'
  by_cases hm : mayI op d a b i = true
  · rw [if_pos hm] at h2'
    refine ⟨hm, ?_⟩
    have := Classical.not_not.1 h2'
    omega
  · rw [if_neg hm] at h'
    exact absurd (by decide) h'
theorem t31 (Φ : Nat → Option CF) (h : Φ 31 = some c31) (h25 : Φ 25 = some (.orc (pureO h25))) (h40 : Φ 40 = some (.orc (pureO h40))) (h54 : Φ 54 = some (.orc (pureO h54))) (h10 : Φ 10 = some (.orc (pureO h10))) (w : Nat) (hw : w < 4294967296) (ct : Nat) :
    To Φ 31 [.i .u32 (w : Int)] ct (ofV w) := by
  refine to_walk h ?_
  have q1 := u32_and255 w hw
  have q2 := i64_nat (w % 256) (by omega)
  have q3 := u32_shr12 w
  have q4 := u32_and15 (w / 4096) (by omega)
  have q5 := i64_nat (w / 4096 % 16) (by omega)
  have q6 := u32_shr8 w
  have q7 := u32_and15 (w / 256) (by omega)
  have q8 := i64_nat (w / 256 % 16) (by omega)
  have q9 := u32_shr16 w
  have q10 := i64_nat (w / 65536) (by omega)
  have q11 := s16_eq w hw
  have q12 := s16_i64 w hw
  unfold ofV dW aW bW iW
  have hop : opW w = ((w % 256 : Nat) : Int) := rfl
  rw [hop]
  generalize ((w % 256 : Nat) : Int) = op at *
  rcases formI_cases op with hf | hf | hf | hf | hf | hf | hf
  all_goals
    simp only [wp_seq, seqQ_nrm, wp_reg, wp_skip, wo_nil, xo_q, xo_a, xo_e, xo_e0, wp_condT, wp_condF, putO, putA, putE, putE0, v_mv, v_bi, bi_neq, v_ld1, v_ldn, ld1_p, ldn_p, load1_same, v_fa, e_st_eq, er_some, xo_call, callC_orc, ev_t, ev_c, evs_nil, evs_cons, Tr.setP_h, Tr.setP_l, Tr.setP_r, getT_h, getT_l, getT_r, Nat.reduceBEq, Int.reduceEq, List.getElem?_cons_zero, List.getElem?_cons_succ, Bool.false_eq_true, decide_true, decide_false, if_true, if_false, pureO_of, ofO_some, flatten_i, flatten_g, allOne_nil, allOne_cons, isOne_b, isOne_i, Bool.and_true, evP_nil, evP_cons, fillV_nil, fillV_cons, over_nil, over_cons, List.set_cons_zero, List.set_cons_succ, List.length_cons, List.length_nil, Nat.reduceAdd, Nat.reduceLeDiff, Nat.zero_add, v_bld, replL_over, v_ex, v_ci, load1_ne, loadN_ne, loadN_same, storeN_same, storeN_ne', mapS_some, a_al_eq, List.drop_zero, List.take_succ_cons, List.take_nil, Option.map_some, ne_add, Nat.add_assoc, or_self, or_true, or_false, e31, w31_1, w31_2, w31_3, w31_4, w31_5, w31_6, w31_7, w31_8, w31_9, w31_10, w31_11, w31_12, w31_13, w31_14, w31_15, w31_17, w31_18, w31_19, w31_20, w31_24, w31_25, h25, h25_eq, h40, h40_eq, h54, h54_eq, hf, dI, aI, bI, iI, q1, q2, q3, q4, q5, q6, q7, q8, q9, q10, q11, q12, h10, h10_eq]
    repeat' first | (refine wp_cond (by simp only [ev_t, getT_h, getT_l, getT_r]; rfl) (fun h => ?_) (fun h => ?_) <;> simp only [wp_seq, seqQ_nrm, seqQ_ret, wp_reg, wp_ret, wp_skip, wo_nil, xo_q, xo_e, xo_e0, putO, putE, putE0, v_mv, v_bi, bi_neq, v_ldn, ldn_p, v_fa, e_st_eq, er_some, xo_call, callC_orc, ev_t, ev_c, evs_nil, evs_cons, Tr.setP_h, Tr.setP_l, Tr.setP_r, getT_h, getT_l, getT_r, Nat.reduceBEq, List.getElem?_cons_zero, List.getElem?_cons_succ, endQ_ret, endO, resV_nil', resV_t, consO_some, oneV_two, if_true, pureO_of, ofO_some, flatten_i, flatten_g, allOne_nil, allOne_cons, isOne_i, Bool.and_true, evP_nil, fillV_nil, over_nil, over_cons, List.set_cons_zero, List.set_cons_succ, List.length_cons, List.length_nil, Nat.reduceAdd, Nat.reduceLeDiff, Nat.zero_add, v_bld, v_ex, v_ci, resV_cn, loadN_ne, loadN_same, storeN_same, storeN_ne', mapS_some, List.drop_zero, List.take_succ_cons, List.take_nil, Option.map_some, ne_add0, ne_add, w31_16, w31_19, w31_20, w31_21, w31_23, w31_24, h, h10, h10_eq, q9, q10]) | (refine wo_g (by simp only [getT_h, getT_l, getT_r]; rfl) (fun h => ?_) (fun h => ?_) <;> simp only [wp_seq, seqQ_nrm, seqQ_ret, wp_reg, wp_ret, wo_nil, xo_q, xo_e0, wo_gT, wo_gF, wp_condT, putO, putE0, setT_some, v_mv, v_pk, pkV_T, pkV_F, v_bi, bi_neq, e_st_eq, er_some, ev_t, ev_c, Tr.setP_h, Tr.setP_l, Tr.setP_r, getT_h, getT_l, getT_r, endQ_ret, endO, resV_nil', resV_t, consO_some, oneV_two, Bool.not_false, if_true, flatten_g, allOne_nil, allOne_cons, isOne_i, Bool.and_true, evP_nil, fillV_nil, over_nil, over_cons, List.set_cons_zero, List.set_cons_succ, List.length_cons, List.length_nil, Nat.reduceAdd, Nat.reduceLeDiff, Nat.zero_add, v_bld, resV_cn, loadN_ne, loadN_same, storeN_same, storeN_ne', mapS_some, List.drop_zero, List.take_succ_cons, List.take_nil, Option.map_some, ne_add0, w31_21, w31_22, h])

  all_goals first
    | rw [if_pos (show op = 3 ∨ op = 6 from of_decide_eq_true (by assumption))]
    | rw [if_neg (show ¬ (op = 3 ∨ op = 6) from of_decide_eq_false (by assumption))]
    | skip
  all_goals first
    | rw [if_pos (ofY (by assumption) (by assumption))]
    | rw [if_neg (ofN2 (by assumption))]
    | rw [if_neg (ofN1 (by assumption))]
end Go.Proofs.YtffpeieapadocaaGreatDoor.Ev

set_option maxRecDepth 10000
set_option maxHeartbeats 16000000
namespace Go.Proofs.YtffpeieapadocaaGreatDoor.Ev
open Go
noncomputable def b32_1 : CC := (.reg [⟨(some (.r .h)), .a (.al 26 [(.i .i64 0), (.i .i64 0), (.i .i64 0), (.i .i64 0), (.i .i64 0)]), none⟩, ⟨(some (.l (.l .h))), .q (.mv (.c (.i .i64 0))), none⟩])
theorem w32_1 (k : Kn) (s : St) (R : Ex → St → Prop) : Wp b32_1 k s R = Wp (.reg [⟨(some (.r .h)), .a (.al 26 [(.i .i64 0), (.i .i64 0), (.i .i64 0), (.i .i64 0), (.i .i64 0)]), none⟩, ⟨(some (.l (.l .h))), .q (.mv (.c (.i .i64 0))), none⟩]) k s R := rfl
noncomputable def b32_2 : CC := (.reg [⟨(some (.l (.r (.l .h)))), .q (.mv (.t .h)), none⟩, ⟨(some (.r (.r (.l .h)))), .q (.bi .and (.t (.l (.r (.l .h)))) (.c (.i .u32 255))), none⟩, ⟨(some (.l (.l (.r .h)))), .q (.ci .i64 (.t (.r (.r (.l .h))))), none⟩, ⟨(some (.r (.l (.r .h)))), .q (.bld [(.i .i64 0), (.i .i64 0), (.i .i64 0), (.i .i64 0), (.i .i64 0)] [(0, 1, (.t (.l (.l (.r .h)))))]), none⟩, ⟨(some (.r (.l .h))), .a (.al 26 [(.i .i64 0), (.i .i64 0), (.i .i64 0), (.i .i64 0), (.i .i64 0)]), none⟩, ⟨none, .e (.st 5 (.t (.r (.l .h))) (.t (.r (.l (.r .h))))), none⟩])
theorem w32_2 (k : Kn) (s : St) (R : Ex → St → Prop) : Wp b32_2 k s R = Wp (.reg [⟨(some (.l (.r (.l .h)))), .q (.mv (.t .h)), none⟩, ⟨(some (.r (.r (.l .h)))), .q (.bi .and (.t (.l (.r (.l .h)))) (.c (.i .u32 255))), none⟩, ⟨(some (.l (.l (.r .h)))), .q (.ci .i64 (.t (.r (.r (.l .h))))), none⟩, ⟨(some (.r (.l (.r .h)))), .q (.bld [(.i .i64 0), (.i .i64 0), (.i .i64 0), (.i .i64 0), (.i .i64 0)] [(0, 1, (.t (.l (.l (.r .h)))))]), none⟩, ⟨(some (.r (.l .h))), .a (.al 26 [(.i .i64 0), (.i .i64 0), (.i .i64 0), (.i .i64 0), (.i .i64 0)]), none⟩, ⟨none, .e (.st 5 (.t (.r (.l .h))) (.t (.r (.l (.r .h))))), none⟩]) k s R := rfl
noncomputable def b32_3 : CC := (.reg [⟨(some (.r (.r (.r .h)))), .q (.fa 0 (.t (.r (.l .h)))), none⟩, ⟨(some (.l (.l (.l (.l .h))))), .q (.ld1 (.t (.r (.r (.r .h))))), none⟩, ⟨(some (.r (.l (.l (.l .h))))), .e (.call 26 [(.t (.l (.l (.l (.l .h)))))]), none⟩, ⟨(some (.l (.r (.l (.l .h))))), .e (.call 38 [(.t (.r (.l (.l (.l .h)))))]), none⟩, ⟨(some (.l (.r (.r .h)))), .q (.mv (.t (.l (.r (.l (.l .h)))))), none⟩, ⟨(some (.r (.r (.l (.l .h))))), .q (.ex 0 (.t (.l (.r (.r .h))))), none⟩, ⟨(some (.l (.l (.r (.l .h))))), .q (.ex 1 (.t (.l (.r (.r .h))))), none⟩, ⟨(some (.r (.l (.r (.l .h))))), .q (.ex 2 (.t (.l (.r (.r .h))))), none⟩, ⟨(some (.l (.r (.r (.l .h))))), .q (.ex 3 (.t (.l (.r (.r .h))))), none⟩, ⟨(some (.l (.r .h))), .q (.mv (.t (.r (.r (.l (.l .h)))))), none⟩, ⟨(some (.r (.r .h))), .q (.mv (.t (.l (.l (.r (.l .h)))))), none⟩, ⟨(some (.l (.l (.l .h)))), .q (.mv (.t (.r (.l (.r (.l .h)))))), none⟩, ⟨(some (.r (.l (.l .h)))), .q (.mv (.t (.l (.r (.r (.l .h)))))), none⟩])
theorem w32_3 (k : Kn) (s : St) (R : Ex → St → Prop) : Wp b32_3 k s R = Wp (.reg [⟨(some (.r (.r (.r .h)))), .q (.fa 0 (.t (.r (.l .h)))), none⟩, ⟨(some (.l (.l (.l (.l .h))))), .q (.ld1 (.t (.r (.r (.r .h))))), none⟩, ⟨(some (.r (.l (.l (.l .h))))), .e (.call 26 [(.t (.l (.l (.l (.l .h)))))]), none⟩, ⟨(some (.l (.r (.l (.l .h))))), .e (.call 38 [(.t (.r (.l (.l (.l .h)))))]), none⟩, ⟨(some (.l (.r (.r .h)))), .q (.mv (.t (.l (.r (.l (.l .h)))))), none⟩, ⟨(some (.r (.r (.l (.l .h))))), .q (.ex 0 (.t (.l (.r (.r .h))))), none⟩, ⟨(some (.l (.l (.r (.l .h))))), .q (.ex 1 (.t (.l (.r (.r .h))))), none⟩, ⟨(some (.r (.l (.r (.l .h))))), .q (.ex 2 (.t (.l (.r (.r .h))))), none⟩, ⟨(some (.l (.r (.r (.l .h))))), .q (.ex 3 (.t (.l (.r (.r .h))))), none⟩, ⟨(some (.l (.r .h))), .q (.mv (.t (.r (.r (.l (.l .h)))))), none⟩, ⟨(some (.r (.r .h))), .q (.mv (.t (.l (.l (.r (.l .h)))))), none⟩, ⟨(some (.l (.l (.l .h)))), .q (.mv (.t (.r (.l (.r (.l .h)))))), none⟩, ⟨(some (.r (.l (.l .h)))), .q (.mv (.t (.l (.r (.r (.l .h)))))), none⟩]) k s R := rfl
noncomputable def b32_4 : CC := (.reg [⟨(some (.r (.r (.r (.l .h))))), .q (.mv (.t (.l (.r .h)))), none⟩])
theorem w32_4 (k : Kn) (s : St) (R : Ex → St → Prop) : Wp b32_4 k s R = Wp (.reg [⟨(some (.r (.r (.r (.l .h))))), .q (.mv (.t (.l (.r .h)))), none⟩]) k s R := rfl
noncomputable def b32_5 : CC := (.reg [⟨(some (.l (.l (.l (.r .h))))), .q (.mv (.t .h)), none⟩, ⟨(some (.r (.l (.l (.r .h))))), .q (.bi .shr (.t (.l (.l (.l (.r .h))))) (.c (.i .u64 12))), none⟩, ⟨(some (.l (.r (.l (.r .h))))), .q (.bi .and (.t (.r (.l (.l (.r .h))))) (.c (.i .u32 15))), none⟩, ⟨(some (.r (.r (.l (.r .h))))), .q (.ci .i64 (.t (.l (.r (.l (.r .h)))))), none⟩, ⟨(some (.l (.l (.r (.r .h))))), .q (.fa 1 (.t (.r (.l .h)))), none⟩, ⟨none, .e (.st 1 (.t (.l (.l (.r (.r .h))))) (.t (.r (.r (.l (.r .h)))))), none⟩])
theorem w32_5 (k : Kn) (s : St) (R : Ex → St → Prop) : Wp b32_5 k s R = Wp (.reg [⟨(some (.l (.l (.l (.r .h))))), .q (.mv (.t .h)), none⟩, ⟨(some (.r (.l (.l (.r .h))))), .q (.bi .shr (.t (.l (.l (.l (.r .h))))) (.c (.i .u64 12))), none⟩, ⟨(some (.l (.r (.l (.r .h))))), .q (.bi .and (.t (.r (.l (.l (.r .h))))) (.c (.i .u32 15))), none⟩, ⟨(some (.r (.r (.l (.r .h))))), .q (.ci .i64 (.t (.l (.r (.l (.r .h)))))), none⟩, ⟨(some (.l (.l (.r (.r .h))))), .q (.fa 1 (.t (.r (.l .h)))), none⟩, ⟨none, .e (.st 1 (.t (.l (.l (.r (.r .h))))) (.t (.r (.r (.l (.r .h)))))), none⟩]) k s R := rfl
noncomputable def b32_6 : CC := (.seq b32_4 (.cond (.t (.r (.r (.r (.l .h))))) b32_5 .skip))
theorem w32_6 (k : Kn) (s : St) (R : Ex → St → Prop) : Wp b32_6 k s R = Wp (.seq b32_4 (.cond (.t (.r (.r (.r (.l .h))))) b32_5 .skip)) k s R := rfl
noncomputable def b32_7 : CC := (.reg [⟨(some (.r (.l (.r (.r .h))))), .q (.mv (.t (.r (.r .h)))), none⟩])
theorem w32_7 (k : Kn) (s : St) (R : Ex → St → Prop) : Wp b32_7 k s R = Wp (.reg [⟨(some (.r (.l (.r (.r .h))))), .q (.mv (.t (.r (.r .h)))), none⟩]) k s R := rfl
noncomputable def b32_8 : CC := (.reg [⟨(some (.l (.r (.r (.r .h))))), .q (.mv (.t .h)), none⟩, ⟨(some (.r (.r (.r (.r .h))))), .q (.bi .shr (.t (.l (.r (.r (.r .h))))) (.c (.i .u64 8))), none⟩, ⟨(some (.l (.l (.l (.l (.l .h)))))), .q (.bi .and (.t (.r (.r (.r (.r .h))))) (.c (.i .u32 15))), none⟩, ⟨(some (.r (.l (.l (.l (.l .h)))))), .q (.ci .i64 (.t (.l (.l (.l (.l (.l .h))))))), none⟩, ⟨(some (.l (.r (.l (.l (.l .h)))))), .q (.fa 2 (.t (.r (.l .h)))), none⟩, ⟨none, .e (.st 1 (.t (.l (.r (.l (.l (.l .h)))))) (.t (.r (.l (.l (.l (.l .h))))))), none⟩])
theorem w32_8 (k : Kn) (s : St) (R : Ex → St → Prop) : Wp b32_8 k s R = Wp (.reg [⟨(some (.l (.r (.r (.r .h))))), .q (.mv (.t .h)), none⟩, ⟨(some (.r (.r (.r (.r .h))))), .q (.bi .shr (.t (.l (.r (.r (.r .h))))) (.c (.i .u64 8))), none⟩, ⟨(some (.l (.l (.l (.l (.l .h)))))), .q (.bi .and (.t (.r (.r (.r (.r .h))))) (.c (.i .u32 15))), none⟩, ⟨(some (.r (.l (.l (.l (.l .h)))))), .q (.ci .i64 (.t (.l (.l (.l (.l (.l .h))))))), none⟩, ⟨(some (.l (.r (.l (.l (.l .h)))))), .q (.fa 2 (.t (.r (.l .h)))), none⟩, ⟨none, .e (.st 1 (.t (.l (.r (.l (.l (.l .h)))))) (.t (.r (.l (.l (.l (.l .h))))))), none⟩]) k s R := rfl
noncomputable def b32_9 : CC := (.seq b32_7 (.cond (.t (.r (.l (.r (.r .h))))) b32_8 .skip))
theorem w32_9 (k : Kn) (s : St) (R : Ex → St → Prop) : Wp b32_9 k s R = Wp (.seq b32_7 (.cond (.t (.r (.l (.r (.r .h))))) b32_8 .skip)) k s R := rfl
noncomputable def b32_10 : CC := (.reg [⟨(some (.r (.r (.l (.l (.l .h)))))), .q (.mv (.t (.l (.l (.l .h))))), none⟩])
theorem w32_10 (k : Kn) (s : St) (R : Ex → St → Prop) : Wp b32_10 k s R = Wp (.reg [⟨(some (.r (.r (.l (.l (.l .h)))))), .q (.mv (.t (.l (.l (.l .h))))), none⟩]) k s R := rfl
noncomputable def b32_11 : CC := (.reg [⟨(some (.l (.l (.r (.l (.l .h)))))), .q (.mv (.t .h)), none⟩, ⟨(some (.r (.l (.r (.l (.l .h)))))), .q (.bi .shr (.t (.l (.l (.r (.l (.l .h)))))) (.c (.i .u64 16))), none⟩, ⟨(some (.l (.r (.r (.l (.l .h)))))), .q (.bi .and (.t (.r (.l (.r (.l (.l .h)))))) (.c (.i .u32 255))), none⟩, ⟨(some (.r (.r (.r (.l (.l .h)))))), .q (.ci .i64 (.t (.l (.r (.r (.l (.l .h))))))), none⟩, ⟨(some (.l (.l (.l (.r (.l .h)))))), .q (.fa 3 (.t (.r (.l .h)))), none⟩, ⟨none, .e (.st 1 (.t (.l (.l (.l (.r (.l .h)))))) (.t (.r (.r (.r (.l (.l .h))))))), none⟩])
theorem w32_11 (k : Kn) (s : St) (R : Ex → St → Prop) : Wp b32_11 k s R = Wp (.reg [⟨(some (.l (.l (.r (.l (.l .h)))))), .q (.mv (.t .h)), none⟩, ⟨(some (.r (.l (.r (.l (.l .h)))))), .q (.bi .shr (.t (.l (.l (.r (.l (.l .h)))))) (.c (.i .u64 16))), none⟩, ⟨(some (.l (.r (.r (.l (.l .h)))))), .q (.bi .and (.t (.r (.l (.r (.l (.l .h)))))) (.c (.i .u32 255))), none⟩, ⟨(some (.r (.r (.r (.l (.l .h)))))), .q (.ci .i64 (.t (.l (.r (.r (.l (.l .h))))))), none⟩, ⟨(some (.l (.l (.l (.r (.l .h)))))), .q (.fa 3 (.t (.r (.l .h)))), none⟩, ⟨none, .e (.st 1 (.t (.l (.l (.l (.r (.l .h)))))) (.t (.r (.r (.r (.l (.l .h))))))), none⟩]) k s R := rfl
noncomputable def b32_12 : CC := (.seq b32_10 (.cond (.t (.r (.r (.l (.l (.l .h)))))) b32_11 .skip))
theorem w32_12 (k : Kn) (s : St) (R : Ex → St → Prop) : Wp b32_12 k s R = Wp (.seq b32_10 (.cond (.t (.r (.r (.l (.l (.l .h)))))) b32_11 .skip)) k s R := rfl
noncomputable def b32_13 : CC := (.reg [⟨(some (.r (.l (.l (.r (.l .h)))))), .q (.mv (.t (.r (.l (.l .h))))), none⟩])
theorem w32_13 (k : Kn) (s : St) (R : Ex → St → Prop) : Wp b32_13 k s R = Wp (.reg [⟨(some (.r (.l (.l (.r (.l .h)))))), .q (.mv (.t (.r (.l (.l .h))))), none⟩]) k s R := rfl
noncomputable def b32_14 : CC := (.reg [⟨(some (.l (.r (.l (.r (.l .h)))))), .q (.mv (.t .h)), none⟩, ⟨(some (.r (.r (.l (.r (.l .h)))))), .q (.bi .shr (.t (.l (.r (.l (.r (.l .h)))))) (.c (.i .u64 16))), none⟩, ⟨(some (.l (.l (.r (.r (.l .h)))))), .q (.ci .i64 (.t (.r (.r (.l (.r (.l .h))))))), none⟩, ⟨(some (.r (.l (.r (.r (.l .h)))))), .q (.fa 4 (.t (.r (.l .h)))), none⟩, ⟨none, .e (.st 1 (.t (.r (.l (.r (.r (.l .h)))))) (.t (.l (.l (.r (.r (.l .h))))))), none⟩])
theorem w32_14 (k : Kn) (s : St) (R : Ex → St → Prop) : Wp b32_14 k s R = Wp (.reg [⟨(some (.l (.r (.l (.r (.l .h)))))), .q (.mv (.t .h)), none⟩, ⟨(some (.r (.r (.l (.r (.l .h)))))), .q (.bi .shr (.t (.l (.r (.l (.r (.l .h)))))) (.c (.i .u64 16))), none⟩, ⟨(some (.l (.l (.r (.r (.l .h)))))), .q (.ci .i64 (.t (.r (.r (.l (.r (.l .h))))))), none⟩, ⟨(some (.r (.l (.r (.r (.l .h)))))), .q (.fa 4 (.t (.r (.l .h)))), none⟩, ⟨none, .e (.st 1 (.t (.r (.l (.r (.r (.l .h)))))) (.t (.l (.l (.r (.r (.l .h))))))), none⟩]) k s R := rfl
noncomputable def b32_15 : CC := (.reg [⟨(some (.l (.r (.r (.r (.l .h)))))), .q (.fa 0 (.t (.r (.l .h)))), none⟩, ⟨(some (.r (.r (.r (.r (.l .h)))))), .q (.ld1 (.t (.l (.r (.r (.r (.l .h))))))), none⟩, ⟨(some (.l (.l (.l (.l (.r .h)))))), .q (.bi .neq (.t (.r (.r (.r (.r (.l .h)))))) (.c (.i .i64 3))), none⟩, ⟨(some (.r (.l (.l (.l (.r .h)))))), .q (.mv (.t (.l (.l (.l (.l (.r .h))))))), none⟩, ⟨(some (.l (.r (.l (.l (.r .h)))))), .q (.fa 0 (.t (.r (.l .h)))), (some ((.r (.l (.l (.l (.r .h))))), true))⟩, ⟨(some (.r (.r (.l (.l (.r .h)))))), .q (.ld1 (.t (.l (.r (.l (.l (.r .h))))))), (some ((.r (.l (.l (.l (.r .h))))), true))⟩, ⟨(some (.l (.l (.r (.l (.r .h)))))), .q (.bi .neq (.t (.r (.r (.l (.l (.r .h)))))) (.c (.i .i64 6))), (some ((.r (.l (.l (.l (.r .h))))), true))⟩, ⟨(some (.r (.l (.r (.l (.r .h)))))), .q (.pk (.t (.r (.l (.l (.l (.r .h)))))) (.t (.l (.l (.r (.l (.r .h)))))) (.c (.b false))), none⟩, ⟨(some (.l (.r (.r (.l (.r .h)))))), .q (.mv (.t (.r (.l (.r (.l (.r .h))))))), none⟩, ⟨(some (.r (.r (.r (.l (.r .h)))))), .q (.fa 4 (.t (.r (.l .h)))), (some ((.l (.r (.r (.l (.r .h))))), true))⟩, ⟨(some (.l (.l (.l (.r (.r .h)))))), .q (.ld1 (.t (.r (.r (.r (.l (.r .h))))))), (some ((.l (.r (.r (.l (.r .h))))), true))⟩, ⟨(some (.r (.l (.l (.r (.r .h)))))), .q (.bi .gtr (.t (.l (.l (.l (.r (.r .h)))))) (.c (.i .i64 32767))), (some ((.l (.r (.r (.l (.r .h))))), true))⟩, ⟨(some (.l (.r (.l (.r (.r .h)))))), .q (.pk (.t (.l (.r (.r (.l (.r .h)))))) (.t (.r (.l (.l (.r (.r .h)))))) (.c (.b false))), none⟩])
theorem w32_15 (k : Kn) (s : St) (R : Ex → St → Prop) : Wp b32_15 k s R = Wp (.reg [⟨(some (.l (.r (.r (.r (.l .h)))))), .q (.fa 0 (.t (.r (.l .h)))), none⟩, ⟨(some (.r (.r (.r (.r (.l .h)))))), .q (.ld1 (.t (.l (.r (.r (.r (.l .h))))))), none⟩, ⟨(some (.l (.l (.l (.l (.r .h)))))), .q (.bi .neq (.t (.r (.r (.r (.r (.l .h)))))) (.c (.i .i64 3))), none⟩, ⟨(some (.r (.l (.l (.l (.r .h)))))), .q (.mv (.t (.l (.l (.l (.l (.r .h))))))), none⟩, ⟨(some (.l (.r (.l (.l (.r .h)))))), .q (.fa 0 (.t (.r (.l .h)))), (some ((.r (.l (.l (.l (.r .h))))), true))⟩, ⟨(some (.r (.r (.l (.l (.r .h)))))), .q (.ld1 (.t (.l (.r (.l (.l (.r .h))))))), (some ((.r (.l (.l (.l (.r .h))))), true))⟩, ⟨(some (.l (.l (.r (.l (.r .h)))))), .q (.bi .neq (.t (.r (.r (.l (.l (.r .h)))))) (.c (.i .i64 6))), (some ((.r (.l (.l (.l (.r .h))))), true))⟩, ⟨(some (.r (.l (.r (.l (.r .h)))))), .q (.pk (.t (.r (.l (.l (.l (.r .h)))))) (.t (.l (.l (.r (.l (.r .h)))))) (.c (.b false))), none⟩, ⟨(some (.l (.r (.r (.l (.r .h)))))), .q (.mv (.t (.r (.l (.r (.l (.r .h))))))), none⟩, ⟨(some (.r (.r (.r (.l (.r .h)))))), .q (.fa 4 (.t (.r (.l .h)))), (some ((.l (.r (.r (.l (.r .h))))), true))⟩, ⟨(some (.l (.l (.l (.r (.r .h)))))), .q (.ld1 (.t (.r (.r (.r (.l (.r .h))))))), (some ((.l (.r (.r (.l (.r .h))))), true))⟩, ⟨(some (.r (.l (.l (.r (.r .h)))))), .q (.bi .gtr (.t (.l (.l (.l (.r (.r .h)))))) (.c (.i .i64 32767))), (some ((.l (.r (.r (.l (.r .h))))), true))⟩, ⟨(some (.l (.r (.l (.r (.r .h)))))), .q (.pk (.t (.l (.r (.r (.l (.r .h)))))) (.t (.r (.l (.l (.r (.r .h)))))) (.c (.b false))), none⟩]) k s R := rfl
noncomputable def b32_16 : CC := (.reg [⟨(some (.r (.r (.l (.r (.r .h)))))), .q (.fa 4 (.t (.r (.l .h)))), none⟩, ⟨(some (.l (.l (.r (.r (.r .h)))))), .q (.ld1 (.t (.r (.r (.l (.r (.r .h))))))), none⟩, ⟨(some (.r (.l (.r (.r (.r .h)))))), .q (.bi .sub (.t (.l (.l (.r (.r (.r .h)))))) (.c (.i .i64 65536))), none⟩, ⟨(some (.l (.r (.r (.r (.r .h)))))), .q (.fa 4 (.t (.r (.l .h)))), none⟩, ⟨none, .e (.st 1 (.t (.l (.r (.r (.r (.r .h)))))) (.t (.r (.l (.r (.r (.r .h))))))), none⟩])
theorem w32_16 (k : Kn) (s : St) (R : Ex → St → Prop) : Wp b32_16 k s R = Wp (.reg [⟨(some (.r (.r (.l (.r (.r .h)))))), .q (.fa 4 (.t (.r (.l .h)))), none⟩, ⟨(some (.l (.l (.r (.r (.r .h)))))), .q (.ld1 (.t (.r (.r (.l (.r (.r .h))))))), none⟩, ⟨(some (.r (.l (.r (.r (.r .h)))))), .q (.bi .sub (.t (.l (.l (.r (.r (.r .h)))))) (.c (.i .i64 65536))), none⟩, ⟨(some (.l (.r (.r (.r (.r .h)))))), .q (.fa 4 (.t (.r (.l .h)))), none⟩, ⟨none, .e (.st 1 (.t (.l (.r (.r (.r (.r .h)))))) (.t (.r (.l (.r (.r (.r .h))))))), none⟩]) k s R := rfl
noncomputable def b32_17 : CC := (.seq b32_15 (.cond (.t (.l (.r (.l (.r (.r .h)))))) b32_16 .skip))
theorem w32_17 (k : Kn) (s : St) (R : Ex → St → Prop) : Wp b32_17 k s R = Wp (.seq b32_15 (.cond (.t (.l (.r (.l (.r (.r .h)))))) b32_16 .skip)) k s R := rfl
noncomputable def b32_18 : CC := (.cond (.t (.r (.l (.l (.r (.l .h)))))) (.seq b32_14 b32_17) .skip)
theorem w32_18 (k : Kn) (s : St) (R : Ex → St → Prop) : Wp b32_18 k s R = Wp (.cond (.t (.r (.l (.l (.r (.l .h)))))) (.seq b32_14 b32_17) .skip) k s R := rfl
noncomputable def b32_19 : CC := (.reg [⟨(some (.r (.r (.r (.r (.r .h)))))), .q (.ldn 5 (.t (.r (.l .h)))), none⟩, ⟨(some (.l (.l (.l (.l (.l (.l .h))))))), .e (.call 12 [(.t (.r (.r (.r (.r (.r .h))))))]), none⟩, ⟨(some (.r (.l (.l (.l (.l (.l .h))))))), .q (.un .not (.t (.l (.l (.l (.l (.l (.l .h)))))))), none⟩, ⟨(some (.l (.r (.l (.l (.l (.l .h))))))), .q (.mv (.t (.r (.l (.l (.l (.l (.l .h)))))))), none⟩, ⟨(some (.r (.r (.l (.l (.l (.l .h))))))), .q (.ldn 5 (.t (.r (.l .h)))), (some ((.l (.r (.l (.l (.l (.l .h)))))), false))⟩, ⟨(some (.l (.l (.r (.l (.l (.l .h))))))), .e (.call 13 [(.t (.r (.r (.l (.l (.l (.l .h)))))))]), (some ((.l (.r (.l (.l (.l (.l .h)))))), false))⟩, ⟨(some (.r (.l (.r (.l (.l (.l .h))))))), .q (.mv (.t .h)), (some ((.l (.r (.l (.l (.l (.l .h)))))), false))⟩, ⟨(some (.l (.r (.r (.l (.l (.l .h))))))), .q (.bi .neq (.t (.l (.l (.r (.l (.l (.l .h))))))) (.t (.r (.l (.r (.l (.l (.l .h)))))))), (some ((.l (.r (.l (.l (.l (.l .h)))))), false))⟩, ⟨(some (.r (.r (.r (.l (.l (.l .h))))))), .q (.pk (.t (.l (.r (.l (.l (.l (.l .h))))))) (.c (.b true)) (.t (.l (.r (.r (.l (.l (.l .h)))))))), none⟩])
theorem w32_19 (k : Kn) (s : St) (R : Ex → St → Prop) : Wp b32_19 k s R = Wp (.reg [⟨(some (.r (.r (.r (.r (.r .h)))))), .q (.ldn 5 (.t (.r (.l .h)))), none⟩, ⟨(some (.l (.l (.l (.l (.l (.l .h))))))), .e (.call 12 [(.t (.r (.r (.r (.r (.r .h))))))]), none⟩, ⟨(some (.r (.l (.l (.l (.l (.l .h))))))), .q (.un .not (.t (.l (.l (.l (.l (.l (.l .h)))))))), none⟩, ⟨(some (.l (.r (.l (.l (.l (.l .h))))))), .q (.mv (.t (.r (.l (.l (.l (.l (.l .h)))))))), none⟩, ⟨(some (.r (.r (.l (.l (.l (.l .h))))))), .q (.ldn 5 (.t (.r (.l .h)))), (some ((.l (.r (.l (.l (.l (.l .h)))))), false))⟩, ⟨(some (.l (.l (.r (.l (.l (.l .h))))))), .e (.call 13 [(.t (.r (.r (.l (.l (.l (.l .h)))))))]), (some ((.l (.r (.l (.l (.l (.l .h)))))), false))⟩, ⟨(some (.r (.l (.r (.l (.l (.l .h))))))), .q (.mv (.t .h)), (some ((.l (.r (.l (.l (.l (.l .h)))))), false))⟩, ⟨(some (.l (.r (.r (.l (.l (.l .h))))))), .q (.bi .neq (.t (.l (.l (.r (.l (.l (.l .h))))))) (.t (.r (.l (.r (.l (.l (.l .h)))))))), (some ((.l (.r (.l (.l (.l (.l .h)))))), false))⟩, ⟨(some (.r (.r (.r (.l (.l (.l .h))))))), .q (.pk (.t (.l (.r (.l (.l (.l (.l .h))))))) (.c (.b true)) (.t (.l (.r (.r (.l (.l (.l .h)))))))), none⟩]) k s R := rfl
noncomputable def b32_20 : CC := (.reg [⟨(some (.l (.l (.l (.r (.l (.l .h))))))), .q (.bld [(.i .i64 0), (.i .i64 0), (.i .i64 0), (.i .i64 0), (.i .i64 0)] []), none⟩, ⟨none, .e (.st 5 (.t (.r .h)) (.t (.l (.l (.l (.r (.l (.l .h)))))))), none⟩, ⟨(some (.l (.l .h))), .q (.mv (.c (.i .i64 4))), none⟩])
theorem w32_20 (k : Kn) (s : St) (R : Ex → St → Prop) : Wp b32_20 k s R = Wp (.reg [⟨(some (.l (.l (.l (.r (.l (.l .h))))))), .q (.bld [(.i .i64 0), (.i .i64 0), (.i .i64 0), (.i .i64 0), (.i .i64 0)] []), none⟩, ⟨none, .e (.st 5 (.t (.r .h)) (.t (.l (.l (.l (.r (.l (.l .h)))))))), none⟩, ⟨(some (.l (.l .h))), .q (.mv (.c (.i .i64 4))), none⟩]) k s R := rfl
noncomputable def b32_21 : CC := (.cond (.t (.r (.r (.r (.l (.l (.l .h))))))) (.seq b32_20 .ret) .skip)
theorem w32_21 (k : Kn) (s : St) (R : Ex → St → Prop) : Wp b32_21 k s R = Wp (.cond (.t (.r (.r (.r (.l (.l (.l .h))))))) (.seq b32_20 .ret) .skip) k s R := rfl
noncomputable def b32_22 : CC := (.reg [⟨(some (.r (.l (.l (.r (.l (.l .h))))))), .q (.ldn 5 (.t (.r (.l .h)))), none⟩, ⟨none, .e (.st 5 (.t (.r .h)) (.t (.r (.l (.l (.r (.l (.l .h)))))))), none⟩, ⟨(some (.l (.l .h))), .q (.mv (.c (.i .i64 0))), none⟩])
theorem w32_22 (k : Kn) (s : St) (R : Ex → St → Prop) : Wp b32_22 k s R = Wp (.reg [⟨(some (.r (.l (.l (.r (.l (.l .h))))))), .q (.ldn 5 (.t (.r (.l .h)))), none⟩, ⟨none, .e (.st 5 (.t (.r .h)) (.t (.r (.l (.l (.r (.l (.l .h)))))))), none⟩, ⟨(some (.l (.l .h))), .q (.mv (.c (.i .i64 0))), none⟩]) k s R := rfl
noncomputable def b32_23 : CC := (.seq (.seq b32_13 b32_18) (.seq (.seq b32_19 b32_21) (.seq b32_22 .ret)))
theorem w32_23 (k : Kn) (s : St) (R : Ex → St → Prop) : Wp b32_23 k s R = Wp (.seq (.seq b32_13 b32_18) (.seq (.seq b32_19 b32_21) (.seq b32_22 .ret))) k s R := rfl
noncomputable def b32_24 : CC := (.seq b32_2 (.seq b32_3 (.seq b32_6 (.seq b32_9 (.seq b32_12 b32_23)))))
theorem w32_24 (k : Kn) (s : St) (R : Ex → St → Prop) : Wp b32_24 k s R = Wp (.seq b32_2 (.seq b32_3 (.seq b32_6 (.seq b32_9 (.seq b32_12 b32_23))))) k s R := rfl
noncomputable def c32 : CF := .mk 7 [.cn (.r .h) 5, .t (.l (.l .h))] (.seq b32_1 b32_24)
theorem e32 (v0 : V) : argTr 7 [v0] = (.n (.n (.n (.n (.n (.n (.n .e none .e) none (.n .e none .e)) none (.n (.n .e none .e) none (.n .e none .e))) none (.n (.n (.n .e none .e) none (.n .e none .e)) none (.n (.n .e none .e) none (.n .e none .e)))) none (.n (.n (.n (.n .e none .e) none (.n .e none .e)) none (.n (.n .e none .e) none (.n .e none .e))) none (.n (.n (.n .e none .e) none (.n .e none .e)) none (.n (.n .e none .e) none (.n .e none .e))))) none (.n (.n (.n (.n (.n .e none .e) none (.n .e none .e)) none (.n (.n .e none .e) none (.n .e none .e))) none (.n (.n (.n .e none .e) none (.n .e none .e)) none (.n (.n .e none .e) none (.n .e none .e)))) none (.n (.n (.n (.n .e none .e) none (.n .e none .e)) none (.n (.n .e none .e) none (.n .e none .e))) none (.n (.n (.n .e none .e) none (.n .e none .e)) none (.n (.n .e none .e) none (.n .e none .e)))))) (some v0) (.n (.n (.n (.n (.n (.n .e none .e) none (.n .e none .e)) none (.n (.n .e none .e) none (.n .e none .e))) none (.n (.n (.n .e none .e) none (.n .e none .e)) none (.n (.n .e none .e) none (.n .e none .e)))) none (.n (.n (.n (.n .e none .e) none (.n .e none .e)) none (.n (.n .e none .e) none (.n .e none .e))) none (.n (.n (.n .e none .e) none (.n .e none .e)) none (.n (.n .e none .e) none (.n .e none .e))))) none (.n (.n (.n (.n (.n .e none .e) none (.n .e none .e)) none (.n (.n .e none .e) none (.n .e none .e))) none (.n (.n (.n .e none .e) none (.n .e none .e)) none (.n (.n .e none .e) none (.n .e none .e)))) none (.n (.n (.n (.n .e none .e) none (.n .e none .e)) none (.n (.n .e none .e) none (.n .e none .e))) none (.n (.n (.n .e none .e) none (.n .e none .e)) none (.n (.n .e none .e) none (.n .e none .e))))))) := rfl

def h12 : List V → Option V
  | [.g [.i .i64 op, .i .i64 d, .i .i64 a, .i .i64 b, .i .i64 i]] => some (.b (mayI op d a b i))
  | _ => none
theorem h12_eq (op d a b i : Int) : h12 [.g [.i .i64 op, .i .i64 d, .i .i64 a, .i .i64 b, .i .i64 i]] = some (.b (mayI op d a b i)) := rfl
def h13 : List V → Option V
  | [.g [.i .i64 op, .i .i64 d, .i .i64 a, .i .i64 b, .i .i64 i]] => if mayI op d a b i = true then some (.i .u32 (wordI op d a b i : Nat)) else none
  | _ => none
theorem h13_eq {op d a b i : Int} (h : (!mayI op d a b i) = false) : h13 [.g [.i .i64 op, .i .i64 d, .i .i64 a, .i .i64 b, .i .i64 i]] = some (.i .u32 (wordI op d a b i : Nat)) := by
  show (if mayI op d a b i = true then some (V.i .u32 (wordI op d a b i : Nat)) else none) = _
  rw [if_pos (by simpa using h)]
def bR (w : Nat) : Int := if bI (formI (opW w)) = true then ((w / 65536 % 256 : Nat) : Int) else 0
noncomputable def refV (w : Nat) : V :=
  if mayI (opW w) (dW w) (aW w) (bR w) (iW w) = true ∧ wordI (opW w) (dW w) (aW w) (bR w) (iW w) = w then .t [.g [.i .i64 (opW w), .i .i64 (dW w), .i .i64 (aW w), .i .i64 (bR w), .i .i64 (iW w)], .i .i64 0]
  else .t [.g [.i .i64 0, .i .i64 0, .i .i64 0, .i .i64 0, .i .i64 0], .i .i64 4]
theorem rfN1 {op d a b i : Int} {w : Nat} (h : (!mayI op d a b i) = (!false)) : ¬ (mayI op d a b i = true ∧ wordI op d a b i = w) := by
  intro hh
  rw [hh.1] at h; cases h
theorem rfN2 {op d a b i : Int} {w : Nat} (h : decide (((wordI op d a b i : Nat) : Int) ≠ (w : Int)) = true) : ¬ (mayI op d a b i = true ∧ wordI op d a b i = w) := by
  have h' := of_decide_eq_true h
  intro hh
  exact h' (by rw [hh.2])
theorem rfY {op d a b i : Int} {w : Nat} (h : (!mayI op d a b i) = false) (h2 : decide (((wordI op d a b i : Nat) : Int) ≠ (w : Int)) = false) : mayI op d a b i = true ∧ wordI op d a b i = w := by
  have h' := of_decide_eq_false h2
  exact ⟨by simpa using h, by have := Classical.not_not.1 h'; omega⟩
theorem t32 (Φ : Nat → Option CF) (h : Φ 32 = some c32) (h26 : Φ 26 = some (.orc (pureO h25))) (h38 : Φ 38 = some (.orc (pureO h38))) (h12 : Φ 12 = some (.orc (pureO h12))) (h13 : Φ 13 = some (.orc (pureO h13))) (w : Nat) (hw : w < 4294967296) (ct : Nat) :
    To Φ 32 [.i .u32 (w : Int)] ct (refV w) := by
  refine to_walk h ?_
  have q1 := u32_and255 w hw
  have q2 := i64_nat (w % 256) (by omega)
  have q3 := u32_shr12 w
  have q4 := u32_and15 (w / 4096) (by omega)
  have q5 := i64_nat (w / 4096 % 16) (by omega)
  have q6 := u32_shr8 w
  have q7 := u32_and15 (w / 256) (by omega)
  have q8 := i64_nat (w / 256 % 16) (by omega)
  have q9 := u32_shr16 w
  have q10 := i64_nat (w / 65536) (by omega)
  have q11 := u32_and255 (w / 65536) (by omega)
  have q12 := i64_nat (w / 65536 % 256) (by omega)
  have q13 : IntKind.i64.wrap (((w / 65536 : Nat) : Int) - 65536) = ((w / 65536 : Nat) : Int) - 65536 := wrap_i64 (by omega) (by omega)
  unfold refV dW aW bR iW
  have hop : opW w = ((w % 256 : Nat) : Int) := rfl
  rw [hop]
  generalize ((w % 256 : Nat) : Int) = op at *
  rcases formI_cases op with hf | hf | hf | hf | hf | hf | hf
  all_goals
    simp only [wp_seq, seqQ_nrm, wp_reg, wp_skip, wo_nil, xo_q, xo_a, xo_e, xo_e0, wp_condT, wp_condF, putO, putA, putE, putE0, v_mv, v_bi, bi_neq, v_un, un_not, v_ld1, v_ldn, ld1_p, ldn_p, load1_same, v_fa, e_st_eq, er_some, xo_call, callC_orc, ev_t, ev_c, evs_nil, evs_cons, Tr.setP_h, Tr.setP_l, Tr.setP_r, getT_h, getT_l, getT_r, Int.reduceEq, List.getElem?_cons_zero, List.getElem?_cons_succ, Bool.false_eq_true, decide_true, decide_false, if_true, if_false, pureO_of, ofO_some, flatten_i, flatten_g, allOne_nil, allOne_cons, isOne_i, Bool.and_true, evP_nil, evP_cons, fillV_nil, fillV_cons, over_nil, over_cons, List.set_cons_zero, List.set_cons_succ, List.length_cons, List.length_nil, Nat.reduceAdd, Nat.reduceLeDiff, Nat.zero_add, v_bld, replL_over, v_ex, v_ci, loadN_same, storeN_same, a_al_eq, List.drop_zero, List.take_succ_cons, List.take_nil, Option.map_some, Nat.add_assoc, or_self, or_true, or_false, e32, w32_1, w32_2, w32_3, w32_4, w32_5, w32_6, w32_7, w32_8, w32_9, w32_10, w32_11, w32_12, w32_13, w32_14, w32_15, w32_17, w32_18, w32_19, w32_23, w32_24, h26, h25_eq, h38, h38_eq, hf, dI, aI, bI, iI, q1, q2, q3, q4, q5, q6, q7, q8, q9, q10, q11, q12, h12, h12_eq]
    repeat' first | (refine wp_cond (by simp only [ev_t, getT_h, getT_l, getT_r]; rfl) (fun h => ?_) (fun h => ?_) <;> simp only [wp_seq, seqQ_nrm, seqQ_ret, wp_reg, wp_ret, wp_skip, wo_nil, xo_q, xo_e, xo_e0, putO, putE, putE0, v_mv, v_bi, bi_sub, v_un, un_not, v_ld1, v_ldn, ld1_p, ldn_p, load1_same, v_fa, e_st_eq, er_some, xo_call, callC_orc, ev_t, ev_c, evs_nil, evs_cons, Tr.setP_h, Tr.setP_l, Tr.setP_r, getT_h, getT_l, getT_r, List.getElem?_cons_zero, List.getElem?_cons_succ, endQ_ret, endO, resV_nil', resV_t, consO_some, oneV_two, if_true, pureO_of, ofO_some, flatten_i, flatten_g, allOne_nil, allOne_cons, isOne_i, Bool.and_true, evP_nil, fillV_nil, over_nil, over_cons, List.set_cons_zero, List.set_cons_succ, List.length_cons, List.length_nil, Nat.reduceAdd, Nat.reduceLeDiff, Nat.zero_add, v_bld, resV_cn, loadN_ne, loadN_same, storeN_same, storeN_ne', mapS_some, List.drop_zero, List.take_succ_cons, List.take_nil, Option.map_some, ne_add0, w32_16, w32_19, w32_20, w32_22, h, h12, h12_eq, q13]) | (refine wo_g (by simp only [getT_h, getT_l, getT_r]; rfl) (fun h => ?_) (fun h => ?_) <;> simp only [wp_seq, seqQ_nrm, seqQ_ret, wp_reg, wp_ret, wp_skip, wo_nil, xo_q, xo_e, xo_e0, wo_gT, wo_gF, wp_condT, wp_condF, putO, putE, putE0, setT_some, v_mv, v_pk, pkV_T, pkV_F, v_bi, bi_gtr, bi_neq, v_un, un_not, v_ld1, v_ldn, ld1_p, ldn_p, load1_same, v_fa, e_st_eq, er_some, xo_call, callC_orc, ev_t, ev_c, evs_nil, evs_cons, Tr.setP_h, Tr.setP_l, Tr.setP_r, getT_h, getT_l, getT_r, List.getElem?_cons_zero, List.getElem?_cons_succ, endQ_ret, endO, resV_nil', resV_t, consO_some, oneV_two, Bool.not_true, Bool.not_false, if_true, pureO_of, ofO_some, flatten_g, allOne_nil, allOne_cons, isOne_i, Bool.and_true, evP_nil, fillV_nil, over_nil, over_cons, List.set_cons_zero, List.set_cons_succ, List.length_cons, List.length_nil, Nat.reduceAdd, Nat.reduceLeDiff, Nat.zero_add, v_bld, resV_cn, loadN_ne, loadN_same, storeN_same, storeN_ne', mapS_some, List.drop_zero, List.take_succ_cons, List.take_nil, Option.map_some, ne_add0, w32_19, w32_20, w32_21, h, h12, h12_eq, h13, h13_eq])
  all_goals first
    | (have e : (if op = 3 ∨ op = 6 then ((w / 65536 : Nat) : Int) else s16 w) = ((w / 65536 : Nat) : Int) := by (simp only [decide_eq_true_eq, decide_eq_false_iff_not, Bool.not_true, Bool.not_false, ne_eq, Classical.not_not] at *; unfold s16; (repeat' split) <;> omega)
       rw [e])
    | (have e : (if op = 3 ∨ op = 6 then ((w / 65536 : Nat) : Int) else s16 w) = ((w / 65536 : Nat) : Int) - 65536 := by (simp only [decide_eq_true_eq, decide_eq_false_iff_not, Bool.not_false, ne_eq, Classical.not_not] at *; unfold s16; (repeat' split) <;> omega)
       rw [e])
    | skip
  all_goals first
    | rw [if_pos (rfY (by assumption) (by assumption))]
    | rw [if_neg (rfN2 (by assumption))]
    | rw [if_neg (rfN1 (by assumption))]
end Go.Proofs.YtffpeieapadocaaGreatDoor.Ev

set_option maxRecDepth 10000
set_option maxHeartbeats 16000000
namespace Go.Proofs.YtffpeieapadocaaGreatDoor.Ev
open Go
theorem refV_eq (w : Nat) (hw : w < 4294967296) : refV w = ofV w := by
  unfold refV ofV
  by_cases hb : bI (formI (opW w)) = true
  · have e1 : bW w = ((w / 65536 : Nat) : Int) := if_pos hb
    have e2 : bR w = ((w / 65536 % 256 : Nat) : Int) := if_pos hb
    by_cases h : w / 65536 < 256
    · have : bR w = bW w := by rw [e1, e2, Nat.mod_eq_of_lt h]
      rw [this]
    · have hf : formI (opW w) = 5 := of_decide_eq_true hb
      have hi : iW w = 0 := if_neg (by rw [hf]; decide)
      rw [if_neg, if_neg]
      · rintro ⟨hm, _⟩
        have := mayI_bounds hm
        rw [e1] at this
        omega
      · rintro ⟨hm, hw2⟩
        have hbd := mayI_bounds hm
        unfold wordI at hw2
        rw [hi] at hw2
        have : bR w < 256 := by rw [e2]; omega
        omega
  · have e1 : bW w = 0 := if_neg hb
    have e2 : bR w = 0 := if_neg hb
    rw [e1, e2]
/-- is a word an instruction's? -/
def okW (w : Nat) : Bool := decide (mayI (opW w) (dW w) (aW w) (bW w) (iW w) = true ∧ wordI (opW w) (dW w) (aW w) (bW w) (iW w) = w)
def okI (w : Nat) (x : Int) : Int := if okW w = true then x else 0
def erW (w : Nat) : Int := if okW w = true then 0 else 4
def insW (w : Nat) : List V := [.i .i64 (okI w (opW w)), .i .i64 (okI w (dW w)), .i .i64 (okI w (aW w)), .i .i64 (okI w (bW w)), .i .i64 (okI w (iW w))]
theorem ofV_eq (w : Nat) : ofV w = .t [.g [.i .i64 (okI w (opW w)), .i .i64 (okI w (dW w)), .i .i64 (okI w (aW w)), .i .i64 (okI w (bW w)), .i .i64 (okI w (iW w))], .i .i64 (erW w)] := by
  unfold ofV okI erW okW
  by_cases h : mayI (opW w) (dW w) (aW w) (bW w) (iW w) = true ∧ wordI (opW w) (dW w) (aW w) (bW w) (iW w) = w
  · rw [if_pos h]; simp only [decide_eq_true h, if_true]
  · rw [if_neg h]; simp only [decide_eq_false h, Bool.false_eq_true, if_false]
noncomputable def b33_1 : CC := (.reg [⟨(some (.r .h)), .a (.al 26 [(.i .i64 0), (.i .i64 0), (.i .i64 0), (.i .i64 0), (.i .i64 0)]), none⟩, ⟨(some (.l (.l .h))), .q (.mv (.c (.i .i64 0))), none⟩])
theorem w33_1 (k : Kn) (s : St) (R : Ex → St → Prop) : Wp b33_1 k s R = Wp (.reg [⟨(some (.r .h)), .a (.al 26 [(.i .i64 0), (.i .i64 0), (.i .i64 0), (.i .i64 0), (.i .i64 0)]), none⟩, ⟨(some (.l (.l .h))), .q (.mv (.c (.i .i64 0))), none⟩]) k s R := rfl
noncomputable def b33_2 : CC := (.reg [⟨(some (.r (.l .h))), .q (.mv (.t .h)), none⟩, ⟨(some (.l (.r .h))), .q (.ln .slice (.t (.r (.l .h)))), none⟩, ⟨(some (.r (.r .h))), .q (.bi .neq (.t (.l (.r .h))) (.c (.i .i64 4))), none⟩])
theorem w33_2 (k : Kn) (s : St) (R : Ex → St → Prop) : Wp b33_2 k s R = Wp (.reg [⟨(some (.r (.l .h))), .q (.mv (.t .h)), none⟩, ⟨(some (.l (.r .h))), .q (.ln .slice (.t (.r (.l .h)))), none⟩, ⟨(some (.r (.r .h))), .q (.bi .neq (.t (.l (.r .h))) (.c (.i .i64 4))), none⟩]) k s R := rfl
noncomputable def b33_3 : CC := (.reg [⟨(some (.l (.l (.l .h)))), .q (.bld [(.i .i64 0), (.i .i64 0), (.i .i64 0), (.i .i64 0), (.i .i64 0)] []), none⟩, ⟨none, .e (.st 5 (.t (.r .h)) (.t (.l (.l (.l .h))))), none⟩, ⟨(some (.l (.l .h))), .q (.mv (.c (.i .i64 4))), none⟩])
theorem w33_3 (k : Kn) (s : St) (R : Ex → St → Prop) : Wp b33_3 k s R = Wp (.reg [⟨(some (.l (.l (.l .h)))), .q (.bld [(.i .i64 0), (.i .i64 0), (.i .i64 0), (.i .i64 0), (.i .i64 0)] []), none⟩, ⟨none, .e (.st 5 (.t (.r .h)) (.t (.l (.l (.l .h))))), none⟩, ⟨(some (.l (.l .h))), .q (.mv (.c (.i .i64 4))), none⟩]) k s R := rfl
noncomputable def b33_4 : CC := (.seq b33_2 (.cond (.t (.r (.r .h))) (.seq b33_3 .ret) .skip))
theorem w33_4 (k : Kn) (s : St) (R : Ex → St → Prop) : Wp b33_4 k s R = Wp (.seq b33_2 (.cond (.t (.r (.r .h))) (.seq b33_3 .ret) .skip)) k s R := rfl
noncomputable def b33_5 : CC := (.dreg 27 [(0, 0, ⟨(some (.r (.l (.l .h)))), .q (.mv (.t .h)), none⟩), (1, 1, ⟨(some (.l (.r (.l .h)))), .q (.iaS 1 (.t (.r (.l (.l .h)))) (.c (.i .i64 0))), none⟩), (2, 3, ⟨(some (.r (.r (.l .h)))), .q (.ld1 (.t (.l (.r (.l .h))))), none⟩), (3, 7, ⟨(some (.l (.l (.r .h)))), .q (.ci .u32 (.t (.r (.r (.l .h))))), none⟩), (4, 0, ⟨(some (.r (.l (.r .h)))), .q (.mv (.t .h)), none⟩), (5, 16, ⟨(some (.l (.r (.r .h)))), .q (.iaS 1 (.t (.r (.l (.r .h)))) (.c (.i .i64 1))), none⟩), (6, 48, ⟨(some (.r (.r (.r .h)))), .q (.ld1 (.t (.l (.r (.r .h))))), none⟩), (7, 112, ⟨(some (.l (.l (.l (.l .h))))), .q (.ci .u32 (.t (.r (.r (.r .h))))), none⟩), (8, 240, ⟨(some (.r (.l (.l (.l .h))))), .q (.bi .shl (.t (.l (.l (.l (.l .h))))) (.c (.i .u64 8))), none⟩), (9, 511, ⟨(some (.l (.r (.l (.l .h))))), .q (.bi .or (.t (.l (.l (.r .h)))) (.t (.r (.l (.l (.l .h)))))), none⟩), (10, 0, ⟨(some (.r (.r (.l (.l .h))))), .q (.mv (.t .h)), none⟩), (11, 1024, ⟨(some (.l (.l (.r (.l .h))))), .q (.iaS 1 (.t (.r (.r (.l (.l .h))))) (.c (.i .i64 2))), none⟩), (12, 3072, ⟨(some (.r (.l (.r (.l .h))))), .q (.ld1 (.t (.l (.l (.r (.l .h)))))), none⟩), (13, 7168, ⟨(some (.l (.r (.r (.l .h))))), .q (.ci .u32 (.t (.r (.l (.r (.l .h)))))), none⟩), (14, 15360, ⟨(some (.r (.r (.r (.l .h))))), .q (.bi .shl (.t (.l (.r (.r (.l .h))))) (.c (.i .u64 16))), none⟩), (15, 32767, ⟨(some (.l (.l (.l (.r .h))))), .q (.bi .or (.t (.l (.r (.l (.l .h))))) (.t (.r (.r (.r (.l .h)))))), none⟩), (16, 0, ⟨(some (.r (.l (.l (.r .h))))), .q (.mv (.t .h)), none⟩), (17, 65536, ⟨(some (.l (.r (.l (.r .h))))), .q (.iaS 1 (.t (.r (.l (.l (.r .h))))) (.c (.i .i64 3))), none⟩), (18, 196608, ⟨(some (.r (.r (.l (.r .h))))), .q (.ld1 (.t (.l (.r (.l (.r .h)))))), none⟩), (19, 458752, ⟨(some (.l (.l (.r (.r .h))))), .q (.ci .u32 (.t (.r (.r (.l (.r .h)))))), none⟩), (20, 983040, ⟨(some (.r (.l (.r (.r .h))))), .q (.bi .shl (.t (.l (.l (.r (.r .h))))) (.c (.i .u64 24))), none⟩), (21, 2097151, ⟨(some (.l (.r (.r (.r .h))))), .q (.bi .or (.t (.l (.l (.l (.r .h))))) (.t (.r (.l (.r (.r .h)))))), none⟩), (22, 4194303, ⟨(some (.r (.r (.r (.r .h))))), .e (.call 31 [(.t (.l (.r (.r (.r .h)))))]), none⟩), (23, 8388607, ⟨(some (.l (.l (.l (.l (.l .h)))))), .q (.ex 0 (.t (.r (.r (.r (.r .h)))))), none⟩), (24, 8388607, ⟨(some (.r (.l (.l (.l (.l .h)))))), .q (.ex 1 (.t (.r (.r (.r (.r .h)))))), none⟩), (25, 33554431, ⟨none, .e (.st 5 (.t (.r .h)) (.t (.l (.l (.l (.l (.l .h))))))), none⟩), (26, 67108863, ⟨(some (.l (.l .h))), .q (.mv (.t (.r (.l (.l (.l (.l .h))))))), none⟩)])
theorem w33_5 (k : Kn) (s : St) (R : Ex → St → Prop) : Wp b33_5 k s R = Wp (.dreg 27 [(0, 0, ⟨(some (.r (.l (.l .h)))), .q (.mv (.t .h)), none⟩), (1, 1, ⟨(some (.l (.r (.l .h)))), .q (.iaS 1 (.t (.r (.l (.l .h)))) (.c (.i .i64 0))), none⟩), (2, 3, ⟨(some (.r (.r (.l .h)))), .q (.ld1 (.t (.l (.r (.l .h))))), none⟩), (3, 7, ⟨(some (.l (.l (.r .h)))), .q (.ci .u32 (.t (.r (.r (.l .h))))), none⟩), (4, 0, ⟨(some (.r (.l (.r .h)))), .q (.mv (.t .h)), none⟩), (5, 16, ⟨(some (.l (.r (.r .h)))), .q (.iaS 1 (.t (.r (.l (.r .h)))) (.c (.i .i64 1))), none⟩), (6, 48, ⟨(some (.r (.r (.r .h)))), .q (.ld1 (.t (.l (.r (.r .h))))), none⟩), (7, 112, ⟨(some (.l (.l (.l (.l .h))))), .q (.ci .u32 (.t (.r (.r (.r .h))))), none⟩), (8, 240, ⟨(some (.r (.l (.l (.l .h))))), .q (.bi .shl (.t (.l (.l (.l (.l .h))))) (.c (.i .u64 8))), none⟩), (9, 511, ⟨(some (.l (.r (.l (.l .h))))), .q (.bi .or (.t (.l (.l (.r .h)))) (.t (.r (.l (.l (.l .h)))))), none⟩), (10, 0, ⟨(some (.r (.r (.l (.l .h))))), .q (.mv (.t .h)), none⟩), (11, 1024, ⟨(some (.l (.l (.r (.l .h))))), .q (.iaS 1 (.t (.r (.r (.l (.l .h))))) (.c (.i .i64 2))), none⟩), (12, 3072, ⟨(some (.r (.l (.r (.l .h))))), .q (.ld1 (.t (.l (.l (.r (.l .h)))))), none⟩), (13, 7168, ⟨(some (.l (.r (.r (.l .h))))), .q (.ci .u32 (.t (.r (.l (.r (.l .h)))))), none⟩), (14, 15360, ⟨(some (.r (.r (.r (.l .h))))), .q (.bi .shl (.t (.l (.r (.r (.l .h))))) (.c (.i .u64 16))), none⟩), (15, 32767, ⟨(some (.l (.l (.l (.r .h))))), .q (.bi .or (.t (.l (.r (.l (.l .h))))) (.t (.r (.r (.r (.l .h)))))), none⟩), (16, 0, ⟨(some (.r (.l (.l (.r .h))))), .q (.mv (.t .h)), none⟩), (17, 65536, ⟨(some (.l (.r (.l (.r .h))))), .q (.iaS 1 (.t (.r (.l (.l (.r .h))))) (.c (.i .i64 3))), none⟩), (18, 196608, ⟨(some (.r (.r (.l (.r .h))))), .q (.ld1 (.t (.l (.r (.l (.r .h)))))), none⟩), (19, 458752, ⟨(some (.l (.l (.r (.r .h))))), .q (.ci .u32 (.t (.r (.r (.l (.r .h)))))), none⟩), (20, 983040, ⟨(some (.r (.l (.r (.r .h))))), .q (.bi .shl (.t (.l (.l (.r (.r .h))))) (.c (.i .u64 24))), none⟩), (21, 2097151, ⟨(some (.l (.r (.r (.r .h))))), .q (.bi .or (.t (.l (.l (.l (.r .h))))) (.t (.r (.l (.r (.r .h)))))), none⟩), (22, 4194303, ⟨(some (.r (.r (.r (.r .h))))), .e (.call 31 [(.t (.l (.r (.r (.r .h)))))]), none⟩), (23, 8388607, ⟨(some (.l (.l (.l (.l (.l .h)))))), .q (.ex 0 (.t (.r (.r (.r (.r .h)))))), none⟩), (24, 8388607, ⟨(some (.r (.l (.l (.l (.l .h)))))), .q (.ex 1 (.t (.r (.r (.r (.r .h)))))), none⟩), (25, 33554431, ⟨none, .e (.st 5 (.t (.r .h)) (.t (.l (.l (.l (.l (.l .h))))))), none⟩), (26, 67108863, ⟨(some (.l (.l .h))), .q (.mv (.t (.r (.l (.l (.l (.l .h))))))), none⟩)]) k s R := rfl
noncomputable def c33 : CF := .mk 6 [.cn (.r .h) 5, .t (.l (.l .h))] (.seq b33_1 (.seq b33_4 (.seq b33_5 .ret)))
theorem e33 (v0 : V) : argTr 6 [v0] = (.n (.n (.n (.n (.n (.n .e none .e) none (.n .e none .e)) none (.n (.n .e none .e) none (.n .e none .e))) none (.n (.n (.n .e none .e) none (.n .e none .e)) none (.n (.n .e none .e) none (.n .e none .e)))) none (.n (.n (.n (.n .e none .e) none (.n .e none .e)) none (.n (.n .e none .e) none (.n .e none .e))) none (.n (.n (.n .e none .e) none (.n .e none .e)) none (.n (.n .e none .e) none (.n .e none .e))))) (some v0) (.n (.n (.n (.n (.n .e none .e) none (.n .e none .e)) none (.n (.n .e none .e) none (.n .e none .e))) none (.n (.n (.n .e none .e) none (.n .e none .e)) none (.n (.n .e none .e) none (.n .e none .e)))) none (.n (.n (.n (.n .e none .e) none (.n .e none .e)) none (.n (.n .e none .e) none (.n .e none .e))) none (.n (.n (.n .e none .e) none (.n .e none .e)) none (.n (.n .e none .e) none (.n .e none .e)))))) := rfl

noncomputable def h31 : List V → Option V
  | [.i .u32 (.ofNat w)] => if w < 4294967296 then some (ofV w) else none
  | _ => none
theorem h31_eq (w : Nat) (h : w < 4294967296) : h31 [.i .u32 (w : Int)] = some (ofV w) := if_pos h
theorem t33 (Φ : Nat → Option CF) (h : Φ 33 = some c33) (h31 : Φ 31 = some (.orc (pureO h31))) (v : V) (b o : Nat) (blk : Blk) (ct c0 c1 c2 c3 : Nat) (hb : b ≠ ct) (hl : lnL v = some (.i .i64 4))
    (i0 : iaSV 1 v (.i .i64 0) = some (.p b o)) (i1 : iaSV 1 v (.i .i64 1) = some (.p b (o + 1))) (i2 : iaSV 1 v (.i .i64 2) = some (.p b (o + 2))) (i3 : iaSV 1 v (.i .i64 3) = some (.p b (o + 3)))
    (r0 : load1 [(b, blk)] .e b o = some (.i .u8 (c0 : Int))) (r1 : load1 [(b, blk)] .e b (o + 1) = some (.i .u8 (c1 : Int))) (r2 : load1 [(b, blk)] .e b (o + 2) = some (.i .u8 (c2 : Int))) (r3 : load1 [(b, blk)] .e b (o + 3) = some (.i .u8 (c3 : Int)))
    (k0 : c0 < 256) (k1 : c1 < 256) (k2 : c2 < 256) (k3 : c3 < 256) :
    ∃ M1 ct1, callC (den Φ) [(b, blk)] 33 [v] .e ct (Φ 33) = .k (ofV (c0 + 256 * c1 + 65536 * c2 + 16777216 * c3)) M1 ct1 := by
  have key := call_walk (F := [(b, blk)]) (args := [v]) (M := .e) (c := ct) (Post := fun v' _ _ => v' = ofV (c0 + 256 * c1 + 65536 * c2 + 16777216 * c3)) h ?_
  · obtain ⟨v', M', c', e, rfl⟩ := key
    exact ⟨M', c', e⟩
  · have e0 := u32_nat c0 (by omega)
    have e1 := u32_nat c1 (by omega)
    have e2 := u32_nat c2 (by omega)
    have e3 := u32_nat c3 (by omega)
    have s1 := u32_shl8 c1 (by omega)
    have s2 := u32_shl16 c2 (by omega)
    have s3 := u32_shl24 c3 (by omega)
    have n1 : (c0 ||| 256 * c1) = c0 + 256 * c1 := or_add8 c0 c1 k0
    have n2 : (c0 + 256 * c1 ||| 65536 * c2) = c0 + 256 * c1 + 65536 * c2 := or_add16 _ c2 (by omega)
    have n3 : (c0 + 256 * c1 + 65536 * c2 ||| 16777216 * c3) = c0 + 256 * c1 + 65536 * c2 + 16777216 * c3 := by
      rw [Nat.or_comm, ← Nat.two_pow_add_eq_or_of_lt (show c0 + 256 * c1 + 65536 * c2 < 2 ^ 24 by omega) c3]; omega
    have o1 := u32_or c0 (256 * c1) (by omega) (by omega)
    have o2 := u32_or (c0 + 256 * c1) (65536 * c2) (by omega) (by omega)
    have o3 := u32_or (c0 + 256 * c1 + 65536 * c2) (16777216 * c3) (by omega) (by omega)
    rw [n1] at o1
    rw [n2] at o2
    rw [n3] at o3
    have hq := h31_eq (c0 + 256 * c1 + 65536 * c2 + 16777216 * c3) (by omega)
    rw [ofV_eq] at hq
    rw [ofV_eq]
    clear n1 n2 n3
    generalize c0 + 256 * c1 + 65536 * c2 + 16777216 * c3 = a3 at *
    generalize c0 + 256 * c1 + 65536 * c2 = a2 at *
    generalize c0 + 256 * c1 = a1 at *
    simp only [wp_dreg, wd_e1, befB_nil, befB_cons, Nat.reducePow, Nat.reduceDiv, Nat.reduceMod, putDE, roFree_nil, roFree_cons, get_ne, Tr.get_e, isNone_none', dregQ_eq, mergeAll_nil, wd_nil, wd_q, putD_v, putD_r, oV_some, dq_mv, dq_ci, dq_bi0, biQ_i, dq_ex, dq_ld0, ldQ_p, ldR_some, dq_iaS, v_iaS, lnSl, wp_seq, seqQ_nrm, wp_reg, wp_ret, wp_skip, wo_nil, xo_q, xo_a, wp_condF, putO, putA, setT_some, setT_none, v_mv, v_bi, bi_neq, v_ln, e_st_eq, er_some, xo_call, callC_orc, ev_t, ev_c, evs_nil, evs_cons, Tr.setP_h, Tr.setP_l, Tr.setP_r, getT_h, getT_l, getT_r, Nat.reduceBEq, List.getElem?_cons_zero, List.getElem?_cons_succ, endQ_ret, endO, resV_nil', resV_t, consO_some, oneV_two, decide_false, if_true, pureO_of, ofO_some, flatten_g, allOne_nil, allOne_cons, isOne_i, Bool.and_true, over_nil, over_cons, List.set_cons_zero, List.set_cons_succ, List.length_cons, List.length_nil, Nat.reduceAdd, Nat.reduceLeDiff, Nat.zero_add, and_self, resV_cn, load1_ne, loadN_same, storeN_same, a_al_eq, List.drop_zero, List.take_succ_cons, List.take_nil, Nat.add_assoc, e33, w33_1, w33_2, w33_4, w33_5, not_true_eq_false, hl, i0, i1, i2, i3, r0, r1, r2, r3, e0, e1, e2, e3, s1, s2, s3, o1, o2, o3, h31, hq, hb, ne_eq, not_false_eq_true]
/-- what Read says of bytes that are not four -/
def lenRV : V := .t [.g [.i .i64 0, .i .i64 0, .i .i64 0, .i .i64 0, .i .i64 0], .i .i64 4]
theorem t33n (Φ : Nat → Option CF) (h : Φ 33 = some c33) (F : List (Nat × Blk)) (M : Mem) (v : V) (ct n : Nat) (hl : lnL v = some (.i .i64 (n : Int))) (hn : n ≠ 4) :
    ∃ M1 ct1, callC (den Φ) F 33 [v] M ct (Φ 33) = .k lenRV M1 ct1 := by
  have key := call_walk (F := F) (args := [v]) (M := M) (c := ct) (Post := fun v' _ _ => v' = lenRV) h ?_
  · obtain ⟨v', M', c', e, rfl⟩ := key
    exact ⟨M', c', e⟩
  · have hd : decide ((n : Int) ≠ 4) = true := decide_eq_true (by omega)
    simp only [lnSl, wp_seq, seqQ_nrm, seqQ_ret, wp_reg, wp_ret, wo_nil, xo_q, xo_a, xo_e0, wp_condT, putO, putA, putE0, v_mv, v_bi, bi_neq, v_ln, e_st_eq, er_some, ev_t, ev_c, Tr.setP_h, Tr.setP_l, Tr.setP_r, getT_h, getT_l, getT_r, endQ_ret, endO, resV_nil', resV_t, consO_some, oneV_two, if_true, flatten_g, allOne_nil, allOne_cons, isOne_i, Bool.and_true, evP_nil, fillV_nil, over_nil, over_cons, List.set_cons_zero, List.set_cons_succ, List.length_cons, List.length_nil, Nat.reduceAdd, Nat.reduceLeDiff, Nat.zero_add, v_bld, resV_cn, loadN_same, storeN_same, a_al_eq, List.drop_zero, List.take_succ_cons, List.take_nil, Option.map_some, e33, w33_1, w33_2, w33_3, w33_4, hl, hd, lenRV]
end Go.Proofs.YtffpeieapadocaaGreatDoor.Ev

set_option maxRecDepth 10000
set_option maxHeartbeats 16000000
namespace Go.Proofs.YtffpeieapadocaaGreatDoor.Ev
open Go
noncomputable def b34_1 : CC := (.reg [⟨(some (.r .h)), .a (.al 26 [(.i .i64 0), (.i .i64 0), (.i .i64 0), (.i .i64 0), (.i .i64 0)]), none⟩, ⟨(some (.l (.l .h))), .q (.mv (.c (.i .i64 0))), none⟩])
theorem w34_1 (k : Kn) (s : St) (R : Ex → St → Prop) : Wp b34_1 k s R = Wp (.reg [⟨(some (.r .h)), .a (.al 26 [(.i .i64 0), (.i .i64 0), (.i .i64 0), (.i .i64 0), (.i .i64 0)]), none⟩, ⟨(some (.l (.l .h))), .q (.mv (.c (.i .i64 0))), none⟩]) k s R := rfl
noncomputable def b34_2 : CC := (.reg [⟨(some (.r (.l .h))), .q (.mv (.t .h)), none⟩, ⟨(some (.l (.r .h))), .q (.ln .slice (.t (.r (.l .h)))), none⟩, ⟨(some (.r (.r .h))), .q (.bi .neq (.t (.l (.r .h))) (.c (.i .i64 4))), none⟩])
theorem w34_2 (k : Kn) (s : St) (R : Ex → St → Prop) : Wp b34_2 k s R = Wp (.reg [⟨(some (.r (.l .h))), .q (.mv (.t .h)), none⟩, ⟨(some (.l (.r .h))), .q (.ln .slice (.t (.r (.l .h)))), none⟩, ⟨(some (.r (.r .h))), .q (.bi .neq (.t (.l (.r .h))) (.c (.i .i64 4))), none⟩]) k s R := rfl
noncomputable def b34_3 : CC := (.reg [⟨(some (.l (.l (.l .h)))), .q (.bld [(.i .i64 0), (.i .i64 0), (.i .i64 0), (.i .i64 0), (.i .i64 0)] []), none⟩, ⟨none, .e (.st 5 (.t (.r .h)) (.t (.l (.l (.l .h))))), none⟩, ⟨(some (.l (.l .h))), .q (.mv (.c (.i .i64 4))), none⟩])
theorem w34_3 (k : Kn) (s : St) (R : Ex → St → Prop) : Wp b34_3 k s R = Wp (.reg [⟨(some (.l (.l (.l .h)))), .q (.bld [(.i .i64 0), (.i .i64 0), (.i .i64 0), (.i .i64 0), (.i .i64 0)] []), none⟩, ⟨none, .e (.st 5 (.t (.r .h)) (.t (.l (.l (.l .h))))), none⟩, ⟨(some (.l (.l .h))), .q (.mv (.c (.i .i64 4))), none⟩]) k s R := rfl
noncomputable def b34_4 : CC := (.seq b34_2 (.cond (.t (.r (.r .h))) (.seq b34_3 .ret) .skip))
theorem w34_4 (k : Kn) (s : St) (R : Ex → St → Prop) : Wp b34_4 k s R = Wp (.seq b34_2 (.cond (.t (.r (.r .h))) (.seq b34_3 .ret) .skip)) k s R := rfl
noncomputable def b34_5 : CC := (.dreg 27 [(0, 0, ⟨(some (.r (.l (.l .h)))), .q (.mv (.t .h)), none⟩), (1, 1, ⟨(some (.l (.r (.l .h)))), .q (.iaS 1 (.t (.r (.l (.l .h)))) (.c (.i .i64 0))), none⟩), (2, 3, ⟨(some (.r (.r (.l .h)))), .q (.ld1 (.t (.l (.r (.l .h))))), none⟩), (3, 7, ⟨(some (.l (.l (.r .h)))), .q (.ci .u32 (.t (.r (.r (.l .h))))), none⟩), (4, 0, ⟨(some (.r (.l (.r .h)))), .q (.mv (.t .h)), none⟩), (5, 16, ⟨(some (.l (.r (.r .h)))), .q (.iaS 1 (.t (.r (.l (.r .h)))) (.c (.i .i64 1))), none⟩), (6, 48, ⟨(some (.r (.r (.r .h)))), .q (.ld1 (.t (.l (.r (.r .h))))), none⟩), (7, 112, ⟨(some (.l (.l (.l (.l .h))))), .q (.ci .u32 (.t (.r (.r (.r .h))))), none⟩), (8, 240, ⟨(some (.r (.l (.l (.l .h))))), .q (.bi .shl (.t (.l (.l (.l (.l .h))))) (.c (.i .u64 8))), none⟩), (9, 511, ⟨(some (.l (.r (.l (.l .h))))), .q (.bi .add (.t (.l (.l (.r .h)))) (.t (.r (.l (.l (.l .h)))))), none⟩), (10, 0, ⟨(some (.r (.r (.l (.l .h))))), .q (.mv (.t .h)), none⟩), (11, 1024, ⟨(some (.l (.l (.r (.l .h))))), .q (.iaS 1 (.t (.r (.r (.l (.l .h))))) (.c (.i .i64 2))), none⟩), (12, 3072, ⟨(some (.r (.l (.r (.l .h))))), .q (.ld1 (.t (.l (.l (.r (.l .h)))))), none⟩), (13, 7168, ⟨(some (.l (.r (.r (.l .h))))), .q (.ci .u32 (.t (.r (.l (.r (.l .h)))))), none⟩), (14, 15360, ⟨(some (.r (.r (.r (.l .h))))), .q (.bi .shl (.t (.l (.r (.r (.l .h))))) (.c (.i .u64 16))), none⟩), (15, 32767, ⟨(some (.l (.l (.l (.r .h))))), .q (.bi .add (.t (.l (.r (.l (.l .h))))) (.t (.r (.r (.r (.l .h)))))), none⟩), (16, 0, ⟨(some (.r (.l (.l (.r .h))))), .q (.mv (.t .h)), none⟩), (17, 65536, ⟨(some (.l (.r (.l (.r .h))))), .q (.iaS 1 (.t (.r (.l (.l (.r .h))))) (.c (.i .i64 3))), none⟩), (18, 196608, ⟨(some (.r (.r (.l (.r .h))))), .q (.ld1 (.t (.l (.r (.l (.r .h)))))), none⟩), (19, 458752, ⟨(some (.l (.l (.r (.r .h))))), .q (.ci .u32 (.t (.r (.r (.l (.r .h)))))), none⟩), (20, 983040, ⟨(some (.r (.l (.r (.r .h))))), .q (.bi .shl (.t (.l (.l (.r (.r .h))))) (.c (.i .u64 24))), none⟩), (21, 2097151, ⟨(some (.l (.r (.r (.r .h))))), .q (.bi .add (.t (.l (.l (.l (.r .h))))) (.t (.r (.l (.r (.r .h)))))), none⟩), (22, 4194303, ⟨(some (.r (.r (.r (.r .h))))), .e (.call 32 [(.t (.l (.r (.r (.r .h)))))]), none⟩), (23, 8388607, ⟨(some (.l (.l (.l (.l (.l .h)))))), .q (.ex 0 (.t (.r (.r (.r (.r .h)))))), none⟩), (24, 8388607, ⟨(some (.r (.l (.l (.l (.l .h)))))), .q (.ex 1 (.t (.r (.r (.r (.r .h)))))), none⟩), (25, 33554431, ⟨none, .e (.st 5 (.t (.r .h)) (.t (.l (.l (.l (.l (.l .h))))))), none⟩), (26, 67108863, ⟨(some (.l (.l .h))), .q (.mv (.t (.r (.l (.l (.l (.l .h))))))), none⟩)])
theorem w34_5 (k : Kn) (s : St) (R : Ex → St → Prop) : Wp b34_5 k s R = Wp (.dreg 27 [(0, 0, ⟨(some (.r (.l (.l .h)))), .q (.mv (.t .h)), none⟩), (1, 1, ⟨(some (.l (.r (.l .h)))), .q (.iaS 1 (.t (.r (.l (.l .h)))) (.c (.i .i64 0))), none⟩), (2, 3, ⟨(some (.r (.r (.l .h)))), .q (.ld1 (.t (.l (.r (.l .h))))), none⟩), (3, 7, ⟨(some (.l (.l (.r .h)))), .q (.ci .u32 (.t (.r (.r (.l .h))))), none⟩), (4, 0, ⟨(some (.r (.l (.r .h)))), .q (.mv (.t .h)), none⟩), (5, 16, ⟨(some (.l (.r (.r .h)))), .q (.iaS 1 (.t (.r (.l (.r .h)))) (.c (.i .i64 1))), none⟩), (6, 48, ⟨(some (.r (.r (.r .h)))), .q (.ld1 (.t (.l (.r (.r .h))))), none⟩), (7, 112, ⟨(some (.l (.l (.l (.l .h))))), .q (.ci .u32 (.t (.r (.r (.r .h))))), none⟩), (8, 240, ⟨(some (.r (.l (.l (.l .h))))), .q (.bi .shl (.t (.l (.l (.l (.l .h))))) (.c (.i .u64 8))), none⟩), (9, 511, ⟨(some (.l (.r (.l (.l .h))))), .q (.bi .add (.t (.l (.l (.r .h)))) (.t (.r (.l (.l (.l .h)))))), none⟩), (10, 0, ⟨(some (.r (.r (.l (.l .h))))), .q (.mv (.t .h)), none⟩), (11, 1024, ⟨(some (.l (.l (.r (.l .h))))), .q (.iaS 1 (.t (.r (.r (.l (.l .h))))) (.c (.i .i64 2))), none⟩), (12, 3072, ⟨(some (.r (.l (.r (.l .h))))), .q (.ld1 (.t (.l (.l (.r (.l .h)))))), none⟩), (13, 7168, ⟨(some (.l (.r (.r (.l .h))))), .q (.ci .u32 (.t (.r (.l (.r (.l .h)))))), none⟩), (14, 15360, ⟨(some (.r (.r (.r (.l .h))))), .q (.bi .shl (.t (.l (.r (.r (.l .h))))) (.c (.i .u64 16))), none⟩), (15, 32767, ⟨(some (.l (.l (.l (.r .h))))), .q (.bi .add (.t (.l (.r (.l (.l .h))))) (.t (.r (.r (.r (.l .h)))))), none⟩), (16, 0, ⟨(some (.r (.l (.l (.r .h))))), .q (.mv (.t .h)), none⟩), (17, 65536, ⟨(some (.l (.r (.l (.r .h))))), .q (.iaS 1 (.t (.r (.l (.l (.r .h))))) (.c (.i .i64 3))), none⟩), (18, 196608, ⟨(some (.r (.r (.l (.r .h))))), .q (.ld1 (.t (.l (.r (.l (.r .h)))))), none⟩), (19, 458752, ⟨(some (.l (.l (.r (.r .h))))), .q (.ci .u32 (.t (.r (.r (.l (.r .h)))))), none⟩), (20, 983040, ⟨(some (.r (.l (.r (.r .h))))), .q (.bi .shl (.t (.l (.l (.r (.r .h))))) (.c (.i .u64 24))), none⟩), (21, 2097151, ⟨(some (.l (.r (.r (.r .h))))), .q (.bi .add (.t (.l (.l (.l (.r .h))))) (.t (.r (.l (.r (.r .h)))))), none⟩), (22, 4194303, ⟨(some (.r (.r (.r (.r .h))))), .e (.call 32 [(.t (.l (.r (.r (.r .h)))))]), none⟩), (23, 8388607, ⟨(some (.l (.l (.l (.l (.l .h)))))), .q (.ex 0 (.t (.r (.r (.r (.r .h)))))), none⟩), (24, 8388607, ⟨(some (.r (.l (.l (.l (.l .h)))))), .q (.ex 1 (.t (.r (.r (.r (.r .h)))))), none⟩), (25, 33554431, ⟨none, .e (.st 5 (.t (.r .h)) (.t (.l (.l (.l (.l (.l .h))))))), none⟩), (26, 67108863, ⟨(some (.l (.l .h))), .q (.mv (.t (.r (.l (.l (.l (.l .h))))))), none⟩)]) k s R := rfl
noncomputable def c34 : CF := .mk 6 [.cn (.r .h) 5, .t (.l (.l .h))] (.seq b34_1 (.seq b34_4 (.seq b34_5 .ret)))
theorem e34 (v0 : V) : argTr 6 [v0] = (.n (.n (.n (.n (.n (.n .e none .e) none (.n .e none .e)) none (.n (.n .e none .e) none (.n .e none .e))) none (.n (.n (.n .e none .e) none (.n .e none .e)) none (.n (.n .e none .e) none (.n .e none .e)))) none (.n (.n (.n (.n .e none .e) none (.n .e none .e)) none (.n (.n .e none .e) none (.n .e none .e))) none (.n (.n (.n .e none .e) none (.n .e none .e)) none (.n (.n .e none .e) none (.n .e none .e))))) (some v0) (.n (.n (.n (.n (.n .e none .e) none (.n .e none .e)) none (.n (.n .e none .e) none (.n .e none .e))) none (.n (.n (.n .e none .e) none (.n .e none .e)) none (.n (.n .e none .e) none (.n .e none .e)))) none (.n (.n (.n (.n .e none .e) none (.n .e none .e)) none (.n (.n .e none .e) none (.n .e none .e))) none (.n (.n (.n .e none .e) none (.n .e none .e)) none (.n (.n .e none .e) none (.n .e none .e)))))) := rfl

noncomputable def b11_1 : CC := (.reg [⟨(some (.l (.l .h))), .q (.mv (.t .h)), none⟩, ⟨(some (.r .h)), .q (.mv (.t (.l (.l .h)))), none⟩])
theorem w11_1 (k : Kn) (s : St) (R : Ex → St → Prop) : Wp b11_1 k s R = Wp (.reg [⟨(some (.l (.l .h))), .q (.mv (.t .h)), none⟩, ⟨(some (.r .h)), .q (.mv (.t (.l (.l .h)))), none⟩]) k s R := rfl
noncomputable def b11_2 : CC := (.seq (.reg [⟨(some (.r .h)), .q (.mv (.c (.i .i64 0))), none⟩]) (.seq b11_1 .ret))
theorem w11_2 (k : Kn) (s : St) (R : Ex → St → Prop) : Wp b11_2 k s R = Wp (.seq (.reg [⟨(some (.r .h)), .q (.mv (.c (.i .i64 0))), none⟩]) (.seq b11_1 .ret)) k s R := rfl
noncomputable def c11 : CF := .mk 3 [.t (.r .h)] b11_2
theorem e11 (v0 : V) : argTr 3 [v0] = (.n (.n (.n .e none .e) none (.n .e none .e)) (some v0) (.n (.n .e none .e) none (.n .e none .e))) := rfl

noncomputable def h32 : List V → Option V
  | [.i .u32 (.ofNat w)] => if w < 4294967296 then some (refV w) else none
  | _ => none
theorem h32_eq (w : Nat) (h : w < 4294967296) : h32 [.i .u32 (w : Int)] = some (refV w) := if_pos h
theorem t34 (Φ : Nat → Option CF) (h : Φ 34 = some c34) (h32 : Φ 32 = some (.orc (pureO h32))) (v : V) (b o : Nat) (blk : Blk) (ct c0 c1 c2 c3 : Nat) (hb : b ≠ ct) (hl : lnL v = some (.i .i64 4))
    (i0 : iaSV 1 v (.i .i64 0) = some (.p b o)) (i1 : iaSV 1 v (.i .i64 1) = some (.p b (o + 1))) (i2 : iaSV 1 v (.i .i64 2) = some (.p b (o + 2))) (i3 : iaSV 1 v (.i .i64 3) = some (.p b (o + 3)))
    (r0 : load1 [(b, blk)] .e b o = some (.i .u8 (c0 : Int))) (r1 : load1 [(b, blk)] .e b (o + 1) = some (.i .u8 (c1 : Int))) (r2 : load1 [(b, blk)] .e b (o + 2) = some (.i .u8 (c2 : Int))) (r3 : load1 [(b, blk)] .e b (o + 3) = some (.i .u8 (c3 : Int)))
    (k0 : c0 < 256) (k1 : c1 < 256) (k2 : c2 < 256) (k3 : c3 < 256) :
    ∃ M1 ct1, callC (den Φ) [(b, blk)] 34 [v] .e ct (Φ 34) = .k (ofV (c0 + 256 * c1 + 65536 * c2 + 16777216 * c3)) M1 ct1 := by
  have key := call_walk (F := [(b, blk)]) (args := [v]) (M := .e) (c := ct) (Post := fun v' _ _ => v' = ofV (c0 + 256 * c1 + 65536 * c2 + 16777216 * c3)) h ?_
  · obtain ⟨v', M', c', e, rfl⟩ := key
    exact ⟨M', c', e⟩
  · have e0 := u32_nat c0 (by omega)
    have e1 := u32_nat c1 (by omega)
    have e2 := u32_nat c2 (by omega)
    have e3 := u32_nat c3 (by omega)
    have s1 := u32_shl8 c1 (by omega)
    have s2 := u32_shl16 c2 (by omega)
    have s3 := u32_shl24 c3 (by omega)
    have o1 := u32_add c0 (256 * c1) (by omega)
    have o2 := u32_add (c0 + 256 * c1) (65536 * c2) (by omega)
    have o3 := u32_add (c0 + 256 * c1 + 65536 * c2) (16777216 * c3) (by omega)
    have hq := h32_eq (c0 + 256 * c1 + 65536 * c2 + 16777216 * c3) (by omega)
    rw [refV_eq _ (by omega), ofV_eq] at hq
    rw [ofV_eq]
    generalize c0 + 256 * c1 + 65536 * c2 + 16777216 * c3 = a3 at *
    generalize c0 + 256 * c1 + 65536 * c2 = a2 at *
    generalize c0 + 256 * c1 = a1 at *
    simp only [wp_dreg, wd_e1, befB_nil, befB_cons, Nat.reducePow, Nat.reduceDiv, Nat.reduceMod, putDE, roFree_nil, roFree_cons, get_ne, Tr.get_e, isNone_none', dregQ_eq, mergeAll_nil, wd_nil, wd_q, putD_v, putD_r, oV_some, dq_mv, dq_ci, dq_bi0, biQ_i, dq_ex, dq_ld0, ldQ_p, ldR_some, dq_iaS, v_iaS, lnSl, wp_seq, seqQ_nrm, wp_reg, wp_ret, wp_skip, wo_nil, xo_q, xo_a, wp_condF, putO, putA, setT_some, setT_none, v_mv, v_bi, bi_neq, v_ln, e_st_eq, er_some, xo_call, callC_orc, ev_t, ev_c, evs_nil, evs_cons, Tr.setP_h, Tr.setP_l, Tr.setP_r, getT_h, getT_l, getT_r, Nat.reduceBEq, List.getElem?_cons_zero, List.getElem?_cons_succ, endQ_ret, endO, resV_nil', resV_t, consO_some, oneV_two, decide_false, if_true, pureO_of, ofO_some, flatten_g, allOne_nil, allOne_cons, isOne_i, Bool.and_true, over_nil, over_cons, List.set_cons_zero, List.set_cons_succ, List.length_cons, List.length_nil, Nat.reduceAdd, Nat.reduceLeDiff, Nat.zero_add, and_self, resV_cn, load1_ne, loadN_same, storeN_same, a_al_eq, List.drop_zero, List.take_succ_cons, List.take_nil, Nat.add_assoc, e34, w34_1, w34_2, w34_4, w34_5, not_true_eq_false, hl, i0, i1, i2, i3, r0, r1, r2, r3, e0, e1, e2, e3, s1, s2, s3, o1, o2, o3, h32, hq, hb, ne_eq, not_false_eq_true]
theorem t34n (Φ : Nat → Option CF) (h : Φ 34 = some c34) (F : List (Nat × Blk)) (M : Mem) (v : V) (ct n : Nat) (hl : lnL v = some (.i .i64 (n : Int))) (hn : n ≠ 4) :
    ∃ M1 ct1, callC (den Φ) F 34 [v] M ct (Φ 34) = .k lenRV M1 ct1 := by
  have key := call_walk (F := F) (args := [v]) (M := M) (c := ct) (Post := fun v' _ _ => v' = lenRV) h ?_
  · obtain ⟨v', M', c', e, rfl⟩ := key
    exact ⟨M', c', e⟩
  · have hd : decide ((n : Int) ≠ 4) = true := decide_eq_true (by omega)
    simp only [lnSl, wp_seq, seqQ_nrm, seqQ_ret, wp_reg, wp_ret, wo_nil, xo_q, xo_a, xo_e0, wp_condT, putO, putA, putE0, v_mv, v_bi, bi_neq, v_ln, e_st_eq, er_some, ev_t, ev_c, Tr.setP_h, Tr.setP_l, Tr.setP_r, getT_h, getT_l, getT_r, endQ_ret, endO, resV_nil', resV_t, consO_some, oneV_two, if_true, flatten_g, allOne_nil, allOne_cons, isOne_i, Bool.and_true, evP_nil, fillV_nil, over_nil, over_cons, List.set_cons_zero, List.set_cons_succ, List.length_cons, List.length_nil, Nat.reduceAdd, Nat.reduceLeDiff, Nat.zero_add, v_bld, resV_cn, loadN_same, storeN_same, a_al_eq, List.drop_zero, List.take_succ_cons, List.take_nil, Option.map_some, e34, w34_1, w34_2, w34_3, w34_4, hl, hd, lenRV]
theorem t11 (Φ : Nat → Option CF) (h : Φ 11 = some c11) (x : Int) (ct : Nat) : To Φ 11 [.i .i64 x] ct (.i .i64 x) := by
  refine to_walk h ?_
  simp only [wp_seq, seqQ_nrm, wp_reg, wp_ret, wo_nil, xo_q, putO, v_mv, ev_t, ev_c, Tr.setP_h, Tr.setP_l, Tr.setP_r, getT_h, getT_l, getT_r, endQ_ret, endO, resV_nil', resV_t, consO_some, oneV_one, e11, w11_1, w11_2]
end Go.Proofs.YtffpeieapadocaaGreatDoor.Ev

set_option maxRecDepth 10000
set_option maxHeartbeats 16000000
namespace Go.Proofs.YtffpeieapadocaaGreatDoor.Ev
open Go
noncomputable def readV : List UInt8 → V
  | [a, b, c, d] => ofV (a.toNat + 256 * b.toNat + 65536 * c.toNat + 16777216 * d.toNat)
  | _ => lenRV
theorem readV_ne {l : List UInt8} (h : l.length ≠ 4) : readV l = lenRV := by
  match l with
  | [] => rfl
  | [_] => rfl
  | [_, _] => rfl
  | [_, _, _] => rfl
  | [_, _, _, _] => exact absurd rfl h
  | _ :: _ :: _ :: _ :: _ :: _ => rfl
theorem list4 {l : List UInt8} (h : l.length = 4) : ∃ a b c d, l = [a, b, c, d] := by
  match l with
  | [a, b, c, d] => exact ⟨a, b, c, d, rfl⟩
theorem r33 (Φ : Nat → Option CF) (h : Φ 33 = some c33) (h31 : Φ 31 = some (.orc (pureO h31))) {F : RO} {M : Mem} {c : Nat} {v : V} {l : List UInt8} (ok : Okm F M c) (hs : SlB F M c v l) :
    Calls Φ F 33 [v] M c fun r M' c' => r = readV l ∧ Gr c M c' M' := by
  have hl := hs.len
  refine calls_walk h ?_
  by_cases h4 : l.length = 4
  · obtain ⟨x0, x1, x2, x3, rfl⟩ := list4 h4
    obtain ⟨b0, o0, hb0, i0, r0⟩ := hs.get 0 (by simp)
    obtain ⟨b1, o1, hb1, i1, r1⟩ := hs.get 1 (by simp)
    obtain ⟨b2, o2, hb2, i2, r2⟩ := hs.get 2 (by simp)
    obtain ⟨b3, o3, hb3, i3, r3⟩ := hs.get 3 (by simp)
    have i0 : iaSV 1 v (.i .i64 0) = some (.p b0 o0) := i0 _
    have i1 : iaSV 1 v (.i .i64 1) = some (.p b1 o1) := i1 _
    have i2 : iaSV 1 v (.i .i64 2) = some (.p b2 o2) := i2 _
    have i3 : iaSV 1 v (.i .i64 3) = some (.p b3 o3) := i3 _
    have n0 : b0 ≠ c := by omega
    have n1 : b1 ≠ c := by omega
    have n2 : b2 ≠ c := by omega
    have n3 : b3 ≠ c := by omega
    have hl : lnL v = some (.i .i64 4) := hl
    have r0 : load1 F M b0 o0 = some (.i .u8 (x0.toNat : Int)) := r0
    have r1 : load1 F M b1 o1 = some (.i .u8 (x1.toNat : Int)) := r1
    have r2 : load1 F M b2 o2 = some (.i .u8 (x2.toNat : Int)) := r2
    have r3 : load1 F M b3 o3 = some (.i .u8 (x3.toNat : Int)) := r3
    have k0 := UInt8.toNat_lt x0
    have k1 := UInt8.toNat_lt x1
    have k2 := UInt8.toNat_lt x2
    have k3 := UInt8.toNat_lt x3
    have hfree := ok.free_set
    show Wp _ _ _ (endQ F _ fun r M' c' => r = ofV (x0.toNat + 256 * x1.toNat + 65536 * x2.toNat + 16777216 * x3.toNat) ∧ Gr c M c' M')
    generalize x0.toNat = c0 at *
    generalize x1.toNat = c1 at *
    generalize x2.toNat = c2 at *
    generalize x3.toNat = c3 at *
    have e0 := u32_nat c0 (by omega)
    have e1 := u32_nat c1 (by omega)
    have e2 := u32_nat c2 (by omega)
    have e3 := u32_nat c3 (by omega)
    have s1 := u32_shl8 c1 (by omega)
    have s2 := u32_shl16 c2 (by omega)
    have s3 := u32_shl24 c3 (by omega)
    have n1' : (c0 ||| 256 * c1) = c0 + 256 * c1 := or_add8 c0 c1 k0
    have n2' : (c0 + 256 * c1 ||| 65536 * c2) = c0 + 256 * c1 + 65536 * c2 := or_add16 _ c2 (by omega)
    have n3' : (c0 + 256 * c1 + 65536 * c2 ||| 16777216 * c3) = c0 + 256 * c1 + 65536 * c2 + 16777216 * c3 := by
      rw [Nat.or_comm, ← Nat.two_pow_add_eq_or_of_lt (show c0 + 256 * c1 + 65536 * c2 < 2 ^ 24 by omega) c3]; omega
    have p1 := u32_or c0 (256 * c1) (by omega) (by omega)
    have p2 := u32_or (c0 + 256 * c1) (65536 * c2) (by omega) (by omega)
    have p3 := u32_or (c0 + 256 * c1 + 65536 * c2) (16777216 * c3) (by omega) (by omega)
    rw [n1'] at p1
    rw [n2'] at p2
    rw [n3'] at p3
    have hq := h31_eq (c0 + 256 * c1 + 65536 * c2 + 16777216 * c3) (by omega)
    rw [ofV_eq] at hq
    rw [ofV_eq]
    clear n1' n2' n3'
    generalize c0 + 256 * c1 + 65536 * c2 + 16777216 * c3 = a3 at *
    generalize c0 + 256 * c1 + 65536 * c2 = a2 at *
    generalize c0 + 256 * c1 = a1 at *
    clear h4 hs
    simp only [wp_dreg, wd_e1, befB_nil, befB_cons, Nat.reducePow, Nat.reduceDiv, Nat.reduceMod, putDE, dregQ_eq, mergeAll_nil, wd_nil, wd_q, putD_v, putD_r, oV_some, dq_mv, dq_ci, dq_bi0, biQ_i, dq_ex, dq_ld0, ldQ_p, ldR_some, dq_iaS, v_iaS, lnSl, wp_seq, seqQ_nrm, wp_reg, wp_ret, wp_skip, wo_nil, xo_q, xo_a, wp_condF, putO, putA, setT_some, setT_none, v_mv, v_bi, bi_neq, v_ln, e_st_eq, er_some, xo_call, callC_orc, ev_t, ev_c, evs_nil, evs_cons, Tr.setP_h, Tr.setP_l, Tr.setP_r, getT_h, getT_l, getT_r, Nat.reduceBEq, List.getElem?_cons_zero, List.getElem?_cons_succ, endQ_ret, endO, resV_nil', resV_t, consO_some, oneV_two, decide_false, if_true, pureO_of, ofO_some, flatten_g, allOne_nil, allOne_cons, isOne_i, Bool.and_true, over_nil, over_cons, List.set_cons_zero, List.set_cons_succ, List.length_cons, List.length_nil, Nat.reduceAdd, Nat.reduceLeDiff, Nat.zero_add, true_and, resV_cn, load1_ne, loadN_same, storeN_same, a_al_eq, List.drop_zero, List.take_succ_cons, List.take_nil, Nat.add_assoc, e33, w33_1, w33_2, w33_4, w33_5, not_true_eq_false, hl, i0, i1, i2, i3, r0, r1, r2, r3, e0, e1, e2, e3, s1, s2, s3, p1, p2, p3, h31, hq, hfree, n0, n1, n2, n3, ne_eq, not_false_eq_true]
    exact (Gr.refl ok).set c _ (Nat.le_refl _) (by omega) (by omega)
  · have hd : decide ((l.length : Int) ≠ 4) = true := decide_eq_true (by omega)
    rw [readV_ne h4]
    simp only [lnSl, wp_seq, seqQ_nrm, seqQ_ret, wp_reg, wp_ret, wo_nil, xo_q, xo_a, xo_e0, wp_condT, putO, putA, putE0, v_mv, v_bi, bi_neq, v_ln, e_st_eq, er_some, ev_t, ev_c, Tr.setP_h, Tr.setP_l, Tr.setP_r, getT_h, getT_l, getT_r, endQ_ret, endO, resV_nil', resV_t, consO_some, oneV_two, if_true, flatten_g, allOne_nil, allOne_cons, isOne_i, Bool.and_true, evP_nil, fillV_nil, over_nil, over_cons, List.set_cons_zero, List.set_cons_succ, List.length_cons, List.length_nil, Nat.reduceAdd, Nat.reduceLeDiff, Nat.zero_add, true_and, v_bld, resV_cn, loadN_same, storeN_same, a_al_eq, List.drop_zero, List.take_succ_cons, List.take_nil, Option.map_some, e33, w33_1, w33_2, w33_3, w33_4, hl, hd, lenRV]
    exact (Gr.refl ok).set c _ (Nat.le_refl _) (by omega) (by omega)
theorem r34 (Φ : Nat → Option CF) (h : Φ 34 = some c34) (h32 : Φ 32 = some (.orc (pureO h32))) {F : RO} {M : Mem} {c : Nat} {v : V} {l : List UInt8} (ok : Okm F M c) (hs : SlB F M c v l) :
    Calls Φ F 34 [v] M c fun r M' c' => r = readV l ∧ Gr c M c' M' := by
  have hl := hs.len
  refine calls_walk h ?_
  by_cases h4 : l.length = 4
  · obtain ⟨x0, x1, x2, x3, rfl⟩ := list4 h4
    obtain ⟨b0, o0, hb0, i0, r0⟩ := hs.get 0 (by simp)
    obtain ⟨b1, o1, hb1, i1, r1⟩ := hs.get 1 (by simp)
    obtain ⟨b2, o2, hb2, i2, r2⟩ := hs.get 2 (by simp)
    obtain ⟨b3, o3, hb3, i3, r3⟩ := hs.get 3 (by simp)
    have i0 : iaSV 1 v (.i .i64 0) = some (.p b0 o0) := i0 _
    have i1 : iaSV 1 v (.i .i64 1) = some (.p b1 o1) := i1 _
    have i2 : iaSV 1 v (.i .i64 2) = some (.p b2 o2) := i2 _
    have i3 : iaSV 1 v (.i .i64 3) = some (.p b3 o3) := i3 _
    have n0 : b0 ≠ c := by omega
    have n1 : b1 ≠ c := by omega
    have n2 : b2 ≠ c := by omega
    have n3 : b3 ≠ c := by omega
    have hl : lnL v = some (.i .i64 4) := hl
    have r0 : load1 F M b0 o0 = some (.i .u8 (x0.toNat : Int)) := r0
    have r1 : load1 F M b1 o1 = some (.i .u8 (x1.toNat : Int)) := r1
    have r2 : load1 F M b2 o2 = some (.i .u8 (x2.toNat : Int)) := r2
    have r3 : load1 F M b3 o3 = some (.i .u8 (x3.toNat : Int)) := r3
    have k0 := UInt8.toNat_lt x0
    have k1 := UInt8.toNat_lt x1
    have k2 := UInt8.toNat_lt x2
    have k3 := UInt8.toNat_lt x3
    have hfree := ok.free_set
    show Wp _ _ _ (endQ F _ fun r M' c' => r = ofV (x0.toNat + 256 * x1.toNat + 65536 * x2.toNat + 16777216 * x3.toNat) ∧ Gr c M c' M')
    generalize x0.toNat = c0 at *
    generalize x1.toNat = c1 at *
    generalize x2.toNat = c2 at *
    generalize x3.toNat = c3 at *
    have e0 := u32_nat c0 (by omega)
    have e1 := u32_nat c1 (by omega)
    have e2 := u32_nat c2 (by omega)
    have e3 := u32_nat c3 (by omega)
    have s1 := u32_shl8 c1 (by omega)
    have s2 := u32_shl16 c2 (by omega)
    have s3 := u32_shl24 c3 (by omega)
    have p1 := u32_add c0 (256 * c1) (by omega)
    have p2 := u32_add (c0 + 256 * c1) (65536 * c2) (by omega)
    have p3 := u32_add (c0 + 256 * c1 + 65536 * c2) (16777216 * c3) (by omega)
    have hq := h32_eq (c0 + 256 * c1 + 65536 * c2 + 16777216 * c3) (by omega)
    rw [refV_eq _ (by omega), ofV_eq] at hq
    rw [ofV_eq]
    generalize c0 + 256 * c1 + 65536 * c2 + 16777216 * c3 = a3 at *
    generalize c0 + 256 * c1 + 65536 * c2 = a2 at *
    generalize c0 + 256 * c1 = a1 at *
    clear h4 hs
    simp only [wp_dreg, wd_e1, befB_nil, befB_cons, Nat.reducePow, Nat.reduceDiv, Nat.reduceMod, putDE, dregQ_eq, mergeAll_nil, wd_nil, wd_q, putD_v, putD_r, oV_some, dq_mv, dq_ci, dq_bi0, biQ_i, dq_ex, dq_ld0, ldQ_p, ldR_some, dq_iaS, v_iaS, lnSl, wp_seq, seqQ_nrm, wp_reg, wp_ret, wp_skip, wo_nil, xo_q, xo_a, wp_condF, putO, putA, setT_some, setT_none, v_mv, v_bi, bi_neq, v_ln, e_st_eq, er_some, xo_call, callC_orc, ev_t, ev_c, evs_nil, evs_cons, Tr.setP_h, Tr.setP_l, Tr.setP_r, getT_h, getT_l, getT_r, Nat.reduceBEq, List.getElem?_cons_zero, List.getElem?_cons_succ, endQ_ret, endO, resV_nil', resV_t, consO_some, oneV_two, decide_false, if_true, pureO_of, ofO_some, flatten_g, allOne_nil, allOne_cons, isOne_i, Bool.and_true, over_nil, over_cons, List.set_cons_zero, List.set_cons_succ, List.length_cons, List.length_nil, Nat.reduceAdd, Nat.reduceLeDiff, Nat.zero_add, true_and, resV_cn, load1_ne, loadN_same, storeN_same, a_al_eq, List.drop_zero, List.take_succ_cons, List.take_nil, Nat.add_assoc, e34, w34_1, w34_2, w34_4, w34_5, not_true_eq_false, hl, i0, i1, i2, i3, r0, r1, r2, r3, e0, e1, e2, e3, s1, s2, s3, p1, p2, p3, h32, hq, hfree, n0, n1, n2, n3, ne_eq, not_false_eq_true]
    exact (Gr.refl ok).set c _ (Nat.le_refl _) (by omega) (by omega)
  · have hd : decide ((l.length : Int) ≠ 4) = true := decide_eq_true (by omega)
    rw [readV_ne h4]
    simp only [lnSl, wp_seq, seqQ_nrm, seqQ_ret, wp_reg, wp_ret, wo_nil, xo_q, xo_a, xo_e0, wp_condT, putO, putA, putE0, v_mv, v_bi, bi_neq, v_ln, e_st_eq, er_some, ev_t, ev_c, Tr.setP_h, Tr.setP_l, Tr.setP_r, getT_h, getT_l, getT_r, endQ_ret, endO, resV_nil', resV_t, consO_some, oneV_two, if_true, flatten_g, allOne_nil, allOne_cons, isOne_i, Bool.and_true, evP_nil, fillV_nil, over_nil, over_cons, List.set_cons_zero, List.set_cons_succ, List.length_cons, List.length_nil, Nat.reduceAdd, Nat.reduceLeDiff, Nat.zero_add, true_and, v_bld, resV_cn, loadN_same, storeN_same, a_al_eq, List.drop_zero, List.take_succ_cons, List.take_nil, Option.map_some, e34, w34_1, w34_2, w34_3, w34_4, hl, hd, lenRV]
    exact (Gr.refl ok).set c _ (Nat.le_refl _) (by omega) (by omega)
end Go.Proofs.YtffpeieapadocaaGreatDoor.Ev

set_option maxRecDepth 10000
set_option maxHeartbeats 16000000
namespace Go.Proofs.YtffpeieapadocaaGreatDoor.Ev
open Go
noncomputable def b6_1 : CC := (.reg [⟨(some (.r (.l .h))), .q (.mv (.c (.b false))), none⟩])
theorem w6_1 (k : Kn) (s : St) (R : Ex → St → Prop) : Wp b6_1 k s R = Wp (.reg [⟨(some (.r (.l .h))), .q (.mv (.c (.b false))), none⟩]) k s R := rfl
noncomputable def b6_2 : CC := (.reg [⟨(some (.r (.l (.l (.l .h))))), .q (.mv (.t (.l .h))), none⟩, ⟨(some (.l (.r (.l (.l .h))))), .q (.ln .slice (.t (.r (.l (.l (.l .h)))))), none⟩, ⟨(some (.r (.r (.l (.l .h))))), .q (.bi .gtr (.t (.l (.r (.l (.l .h))))) (.c (.i .i64 4000))), none⟩])
theorem w6_2 (k : Kn) (s : St) (R : Ex → St → Prop) : Wp b6_2 k s R = Wp (.reg [⟨(some (.r (.l (.l (.l .h))))), .q (.mv (.t (.l .h))), none⟩, ⟨(some (.l (.r (.l (.l .h))))), .q (.ln .slice (.t (.r (.l (.l (.l .h)))))), none⟩, ⟨(some (.r (.r (.l (.l .h))))), .q (.bi .gtr (.t (.l (.r (.l (.l .h))))) (.c (.i .i64 4000))), none⟩]) k s R := rfl
noncomputable def b6_3 : CC := (.reg [⟨(some (.l (.l (.r (.l .h))))), .e (.call 8 []), none⟩, ⟨(some (.r (.l .h))), .q (.mv (.t (.l (.l (.r (.l .h)))))), none⟩])
theorem w6_3 (k : Kn) (s : St) (R : Ex → St → Prop) : Wp b6_3 k s R = Wp (.reg [⟨(some (.l (.l (.r (.l .h))))), .e (.call 8 []), none⟩, ⟨(some (.r (.l .h))), .q (.mv (.t (.l (.l (.r (.l .h)))))), none⟩]) k s R := rfl
noncomputable def b6_4 : CC := (.seq b6_2 (.cond (.t (.r (.r (.l (.l .h))))) (.seq b6_3 .ret) .skip))
theorem w6_4 (k : Kn) (s : St) (R : Ex → St → Prop) : Wp b6_4 k s R = Wp (.seq b6_2 (.cond (.t (.r (.r (.l (.l .h))))) (.seq b6_3 .ret) .skip)) k s R := rfl
noncomputable def b6_5 : CC := (.reg [⟨(some (.l (.r (.r (.l .h))))), .q (.mv (.t .h)), none⟩, ⟨(some (.r (.r (.r (.l .h))))), .e (.call 31 [(.t (.l (.r (.r (.l .h)))))]), none⟩, ⟨(some (.r (.l (.r (.l .h))))), .q (.mv (.t (.r (.r (.r (.l .h)))))), none⟩, ⟨(some (.l (.l (.l (.r .h))))), .q (.ex 0 (.t (.r (.l (.r (.l .h)))))), none⟩, ⟨(some (.r (.l (.l (.r .h))))), .q (.ex 1 (.t (.r (.l (.r (.l .h)))))), none⟩, ⟨(some (.l (.r .h))), .a (.al 26 [(.i .i64 0), (.i .i64 0), (.i .i64 0), (.i .i64 0), (.i .i64 0)]), none⟩, ⟨none, .e (.st 5 (.t (.l (.r .h))) (.t (.l (.l (.l (.r .h)))))), none⟩, ⟨(some (.r (.r .h))), .q (.mv (.t (.r (.l (.l (.r .h)))))), none⟩])
theorem w6_5 (k : Kn) (s : St) (R : Ex → St → Prop) : Wp b6_5 k s R = Wp (.reg [⟨(some (.l (.r (.r (.l .h))))), .q (.mv (.t .h)), none⟩, ⟨(some (.r (.r (.r (.l .h))))), .e (.call 31 [(.t (.l (.r (.r (.l .h)))))]), none⟩, ⟨(some (.r (.l (.r (.l .h))))), .q (.mv (.t (.r (.r (.r (.l .h)))))), none⟩, ⟨(some (.l (.l (.l (.r .h))))), .q (.ex 0 (.t (.r (.l (.r (.l .h)))))), none⟩, ⟨(some (.r (.l (.l (.r .h))))), .q (.ex 1 (.t (.r (.l (.r (.l .h)))))), none⟩, ⟨(some (.l (.r .h))), .a (.al 26 [(.i .i64 0), (.i .i64 0), (.i .i64 0), (.i .i64 0), (.i .i64 0)]), none⟩, ⟨none, .e (.st 5 (.t (.l (.r .h))) (.t (.l (.l (.l (.r .h)))))), none⟩, ⟨(some (.r (.r .h))), .q (.mv (.t (.r (.l (.l (.r .h)))))), none⟩]) k s R := rfl
noncomputable def b6_6 : CC := (.reg [⟨(some (.r (.r (.l (.r .h))))), .q (.mv (.t .h)), none⟩, ⟨(some (.l (.l (.r (.r .h))))), .e (.call 32 [(.t (.r (.r (.l (.r .h)))))]), none⟩, ⟨(some (.l (.r (.l (.r .h))))), .q (.mv (.t (.l (.l (.r (.r .h)))))), none⟩, ⟨(some (.r (.l (.r (.r .h))))), .q (.ex 0 (.t (.l (.r (.l (.r .h)))))), none⟩, ⟨(some (.l (.r (.r (.r .h))))), .q (.ex 1 (.t (.l (.r (.l (.r .h)))))), none⟩, ⟨(some (.l (.l (.l .h)))), .a (.al 26 [(.i .i64 0), (.i .i64 0), (.i .i64 0), (.i .i64 0), (.i .i64 0)]), none⟩, ⟨none, .e (.st 5 (.t (.l (.l (.l .h)))) (.t (.r (.l (.r (.r .h)))))), none⟩, ⟨(some (.r (.l (.l .h)))), .q (.mv (.t (.l (.r (.r (.r .h)))))), none⟩])
theorem w6_6 (k : Kn) (s : St) (R : Ex → St → Prop) : Wp b6_6 k s R = Wp (.reg [⟨(some (.r (.r (.l (.r .h))))), .q (.mv (.t .h)), none⟩, ⟨(some (.l (.l (.r (.r .h))))), .e (.call 32 [(.t (.r (.r (.l (.r .h)))))]), none⟩, ⟨(some (.l (.r (.l (.r .h))))), .q (.mv (.t (.l (.l (.r (.r .h)))))), none⟩, ⟨(some (.r (.l (.r (.r .h))))), .q (.ex 0 (.t (.l (.r (.l (.r .h)))))), none⟩, ⟨(some (.l (.r (.r (.r .h))))), .q (.ex 1 (.t (.l (.r (.l (.r .h)))))), none⟩, ⟨(some (.l (.l (.l .h)))), .a (.al 26 [(.i .i64 0), (.i .i64 0), (.i .i64 0), (.i .i64 0), (.i .i64 0)]), none⟩, ⟨none, .e (.st 5 (.t (.l (.l (.l .h)))) (.t (.r (.l (.r (.r .h)))))), none⟩, ⟨(some (.r (.l (.l .h)))), .q (.mv (.t (.l (.r (.r (.r .h)))))), none⟩]) k s R := rfl
noncomputable def b6_7 : CC := (.reg [⟨(some (.r (.r (.r (.r .h))))), .q (.mv (.t (.l .h))), none⟩, ⟨(some (.l (.l (.l (.l (.l .h)))))), .e (.app 5 1 1 (.c .l0) (.t (.r (.r (.r (.r .h)))))), none⟩, ⟨(some (.r (.l (.l (.l (.l .h)))))), .a (.bsl 5 1 1 [(.i .u8 0)] [(0, (.c (.i .u8 119)))]), none⟩, ⟨(some (.l (.r (.l (.l (.l .h)))))), .e (.app 5 1 1 (.t (.l (.l (.l (.l (.l .h)))))) (.t (.r (.l (.l (.l (.l .h))))))), none⟩, ⟨(some (.l (.r (.l .h)))), .q (.mv (.t (.l (.r (.l (.l (.l .h))))))), none⟩])
theorem w6_7 (k : Kn) (s : St) (R : Ex → St → Prop) : Wp b6_7 k s R = Wp (.reg [⟨(some (.r (.r (.r (.r .h))))), .q (.mv (.t (.l .h))), none⟩, ⟨(some (.l (.l (.l (.l (.l .h)))))), .e (.app 5 1 1 (.c .l0) (.t (.r (.r (.r (.r .h)))))), none⟩, ⟨(some (.r (.l (.l (.l (.l .h)))))), .a (.bsl 5 1 1 [(.i .u8 0)] [(0, (.c (.i .u8 119)))]), none⟩, ⟨(some (.l (.r (.l (.l (.l .h)))))), .e (.app 5 1 1 (.t (.l (.l (.l (.l (.l .h)))))) (.t (.r (.l (.l (.l (.l .h))))))), none⟩, ⟨(some (.l (.r (.l .h)))), .q (.mv (.t (.l (.r (.l (.l (.l .h))))))), none⟩]) k s R := rfl
noncomputable def b6_8 : CC := (.reg [⟨(some (.l (.l (.r (.l (.l .h)))))), .q (.mv (.t (.l (.r (.l .h))))), none⟩, ⟨(some (.r (.l (.r (.l (.l .h)))))), .q (.mv (.t (.l .h))), none⟩, ⟨(some (.l (.r (.r (.l (.l .h)))))), .q (.ln .slice (.t (.r (.l (.r (.l (.l .h))))))), none⟩, ⟨(some (.r (.r (.r (.l (.l .h)))))), .q (.slL 1 (.t (.l (.l (.r (.l (.l .h)))))) none (some (.t (.l (.r (.r (.l (.l .h))))))) none), none⟩, ⟨(some (.l (.l (.l (.r (.l .h)))))), .e (.call 33 [(.t (.r (.r (.r (.l (.l .h))))))]), none⟩, ⟨(some (.r (.r (.l (.l (.l .h)))))), .q (.mv (.t (.l (.l (.l (.r (.l .h))))))), none⟩, ⟨(some (.r (.l (.l (.r (.l .h)))))), .q (.ex 0 (.t (.r (.r (.l (.l (.l .h))))))), none⟩, ⟨(some (.l (.r (.l (.r (.l .h)))))), .q (.ex 1 (.t (.r (.r (.l (.l (.l .h))))))), none⟩, ⟨(some (.r (.r (.l .h)))), .a (.al 26 [(.i .i64 0), (.i .i64 0), (.i .i64 0), (.i .i64 0), (.i .i64 0)]), none⟩, ⟨none, .e (.st 5 (.t (.r (.r (.l .h)))) (.t (.r (.l (.l (.r (.l .h))))))), none⟩, ⟨(some (.l (.l (.r .h)))), .q (.mv (.t (.l (.r (.l (.r (.l .h))))))), none⟩])
theorem w6_8 (k : Kn) (s : St) (R : Ex → St → Prop) : Wp b6_8 k s R = Wp (.reg [⟨(some (.l (.l (.r (.l (.l .h)))))), .q (.mv (.t (.l (.r (.l .h))))), none⟩, ⟨(some (.r (.l (.r (.l (.l .h)))))), .q (.mv (.t (.l .h))), none⟩, ⟨(some (.l (.r (.r (.l (.l .h)))))), .q (.ln .slice (.t (.r (.l (.r (.l (.l .h))))))), none⟩, ⟨(some (.r (.r (.r (.l (.l .h)))))), .q (.slL 1 (.t (.l (.l (.r (.l (.l .h)))))) none (some (.t (.l (.r (.r (.l (.l .h))))))) none), none⟩, ⟨(some (.l (.l (.l (.r (.l .h)))))), .e (.call 33 [(.t (.r (.r (.r (.l (.l .h))))))]), none⟩, ⟨(some (.r (.r (.l (.l (.l .h)))))), .q (.mv (.t (.l (.l (.l (.r (.l .h))))))), none⟩, ⟨(some (.r (.l (.l (.r (.l .h)))))), .q (.ex 0 (.t (.r (.r (.l (.l (.l .h))))))), none⟩, ⟨(some (.l (.r (.l (.r (.l .h)))))), .q (.ex 1 (.t (.r (.r (.l (.l (.l .h))))))), none⟩, ⟨(some (.r (.r (.l .h)))), .a (.al 26 [(.i .i64 0), (.i .i64 0), (.i .i64 0), (.i .i64 0), (.i .i64 0)]), none⟩, ⟨none, .e (.st 5 (.t (.r (.r (.l .h)))) (.t (.r (.l (.l (.r (.l .h))))))), none⟩, ⟨(some (.l (.l (.r .h)))), .q (.mv (.t (.l (.r (.l (.r (.l .h))))))), none⟩]) k s R := rfl
noncomputable def b6_9 : CC := (.reg [⟨(some (.l (.l (.r (.r (.l .h)))))), .q (.mv (.t (.l .h))), none⟩, ⟨(some (.r (.l (.r (.r (.l .h)))))), .e (.call 34 [(.t (.l (.l (.r (.r (.l .h))))))]), none⟩, ⟨(some (.r (.r (.l (.r (.l .h)))))), .q (.mv (.t (.r (.l (.r (.r (.l .h))))))), none⟩, ⟨(some (.l (.r (.r (.r (.l .h)))))), .q (.ex 0 (.t (.r (.r (.l (.r (.l .h))))))), none⟩, ⟨(some (.r (.r (.r (.r (.l .h)))))), .q (.ex 1 (.t (.r (.r (.l (.r (.l .h))))))), none⟩, ⟨(some (.r (.l (.r .h)))), .a (.al 26 [(.i .i64 0), (.i .i64 0), (.i .i64 0), (.i .i64 0), (.i .i64 0)]), none⟩, ⟨none, .e (.st 5 (.t (.r (.l (.r .h)))) (.t (.l (.r (.r (.r (.l .h))))))), none⟩, ⟨(some (.l (.r (.r .h)))), .q (.mv (.t (.r (.r (.r (.r (.l .h))))))), none⟩])
theorem w6_9 (k : Kn) (s : St) (R : Ex → St → Prop) : Wp b6_9 k s R = Wp (.reg [⟨(some (.l (.l (.r (.r (.l .h)))))), .q (.mv (.t (.l .h))), none⟩, ⟨(some (.r (.l (.r (.r (.l .h)))))), .e (.call 34 [(.t (.l (.l (.r (.r (.l .h))))))]), none⟩, ⟨(some (.r (.r (.l (.r (.l .h)))))), .q (.mv (.t (.r (.l (.r (.r (.l .h))))))), none⟩, ⟨(some (.l (.r (.r (.r (.l .h)))))), .q (.ex 0 (.t (.r (.r (.l (.r (.l .h))))))), none⟩, ⟨(some (.r (.r (.r (.r (.l .h)))))), .q (.ex 1 (.t (.r (.r (.l (.r (.l .h))))))), none⟩, ⟨(some (.r (.l (.r .h)))), .a (.al 26 [(.i .i64 0), (.i .i64 0), (.i .i64 0), (.i .i64 0), (.i .i64 0)]), none⟩, ⟨none, .e (.st 5 (.t (.r (.l (.r .h)))) (.t (.l (.r (.r (.r (.l .h))))))), none⟩, ⟨(some (.l (.r (.r .h)))), .q (.mv (.t (.r (.r (.r (.r (.l .h))))))), none⟩]) k s R := rfl
noncomputable def b6_10 : CC := (.reg [⟨(some (.l (.l (.l (.l (.r .h)))))), .q (.ldn 5 (.t (.l (.r .h)))), none⟩, ⟨(some (.r (.l (.l (.l (.r .h)))))), .q (.ldn 5 (.t (.l (.l (.l .h))))), none⟩, ⟨(some (.l (.r (.l (.l (.r .h)))))), .q (.eq true (.agg [(0, .int), (1, .int), (2, .int), (3, .int), (4, .int)]) false (.t (.l (.l (.l (.l (.r .h)))))) (.t (.r (.l (.l (.l (.r .h))))))), none⟩, ⟨(some (.r (.r (.l (.l (.r .h)))))), .q (.mv (.t (.l (.r (.l (.l (.r .h))))))), none⟩, ⟨(some (.l (.l (.r (.l (.r .h)))))), .q (.mv (.t (.r (.r .h)))), (some ((.r (.r (.l (.l (.r .h))))), false))⟩, ⟨(some (.r (.l (.r (.l (.r .h)))))), .e (.call 11 [(.t (.l (.l (.r (.l (.r .h))))))]), (some ((.r (.r (.l (.l (.r .h))))), false))⟩, ⟨(some (.l (.r (.r (.l (.r .h)))))), .q (.mv (.t (.r (.l (.l .h))))), (some ((.r (.r (.l (.l (.r .h))))), false))⟩, ⟨(some (.r (.r (.r (.l (.r .h)))))), .q (.bi .neq (.t (.r (.l (.r (.l (.r .h)))))) (.t (.l (.r (.r (.l (.r .h))))))), (some ((.r (.r (.l (.l (.r .h))))), false))⟩, ⟨(some (.l (.l (.l (.r (.r .h)))))), .q (.pk (.t (.r (.r (.l (.l (.r .h)))))) (.c (.b true)) (.t (.r (.r (.r (.l (.r .h))))))), none⟩, ⟨(some (.r (.l (.l (.r (.r .h)))))), .q (.mv (.t (.l (.l (.l (.r (.r .h))))))), none⟩, ⟨(some (.l (.r (.l (.r (.r .h)))))), .q (.ldn 5 (.t (.r (.r (.l .h))))), (some ((.r (.l (.l (.r (.r .h))))), false))⟩, ⟨(some (.r (.r (.l (.r (.r .h)))))), .q (.ldn 5 (.t (.r (.l (.r .h))))), (some ((.r (.l (.l (.r (.r .h))))), false))⟩, ⟨(some (.l (.l (.r (.r (.r .h)))))), .q (.eq true (.agg [(0, .int), (1, .int), (2, .int), (3, .int), (4, .int)]) false (.t (.l (.r (.l (.r (.r .h)))))) (.t (.r (.r (.l (.r (.r .h))))))), (some ((.r (.l (.l (.r (.r .h))))), false))⟩, ⟨(some (.r (.l (.r (.r (.r .h)))))), .q (.pk (.t (.r (.l (.l (.r (.r .h)))))) (.c (.b true)) (.t (.l (.l (.r (.r (.r .h))))))), none⟩, ⟨(some (.l (.r (.r (.r (.r .h)))))), .q (.mv (.t (.r (.l (.r (.r (.r .h))))))), none⟩, ⟨(some (.r (.r (.r (.r (.r .h)))))), .q (.mv (.t (.l (.l (.r .h))))), (some ((.l (.r (.r (.r (.r .h))))), false))⟩, ⟨(some (.l (.l (.l (.l (.l (.l .h))))))), .e (.call 11 [(.t (.r (.r (.r (.r (.r .h))))))]), (some ((.l (.r (.r (.r (.r .h))))), false))⟩, ⟨(some (.r (.l (.l (.l (.l (.l .h))))))), .q (.mv (.t (.l (.r (.r .h))))), (some ((.l (.r (.r (.r (.r .h))))), false))⟩, ⟨(some (.l (.r (.l (.l (.l (.l .h))))))), .q (.bi .neq (.t (.l (.l (.l (.l (.l (.l .h))))))) (.t (.r (.l (.l (.l (.l (.l .h)))))))), (some ((.l (.r (.r (.r (.r .h))))), false))⟩, ⟨(some (.r (.r (.l (.l (.l (.l .h))))))), .q (.pk (.t (.l (.r (.r (.r (.r .h)))))) (.c (.b true)) (.t (.l (.r (.l (.l (.l (.l .h)))))))), none⟩, ⟨(some (.l (.l (.r (.l (.l (.l .h))))))), .q (.mv (.t (.r (.r (.l (.l (.l (.l .h)))))))), none⟩, ⟨(some (.r (.l (.r (.l (.l (.l .h))))))), .q (.mv (.t (.l (.r (.l .h))))), (some ((.l (.l (.r (.l (.l (.l .h)))))), false))⟩, ⟨(some (.l (.r (.r (.l (.l (.l .h))))))), .q (.bs (.t (.r (.l (.r (.l (.l (.l .h)))))))), (some ((.l (.l (.r (.l (.l (.l .h)))))), false))⟩, ⟨(some (.r (.r (.r (.l (.l (.l .h))))))), .q (.mv (.t (.l .h))), (some ((.l (.l (.r (.l (.l (.l .h)))))), false))⟩, ⟨(some (.l (.l (.l (.r (.l (.l .h))))))), .q (.bs (.t (.r (.r (.r (.l (.l (.l .h)))))))), (some ((.l (.l (.r (.l (.l (.l .h)))))), false))⟩, ⟨(some (.r (.l (.l (.r (.l (.l .h))))))), .q (.bi .add (.t (.l (.l (.l (.r (.l (.l .h))))))) (.c (.s 1 119))), (some ((.l (.l (.r (.l (.l (.l .h)))))), false))⟩, ⟨(some (.l (.r (.l (.r (.l (.l .h))))))), .q (.bi .neq (.t (.l (.r (.r (.l (.l (.l .h))))))) (.t (.r (.l (.l (.r (.l (.l .h)))))))), (some ((.l (.l (.r (.l (.l (.l .h)))))), false))⟩, ⟨(some (.r (.r (.l (.r (.l (.l .h))))))), .q (.pk (.t (.l (.l (.r (.l (.l (.l .h))))))) (.c (.b true)) (.t (.l (.r (.l (.r (.l (.l .h)))))))), none⟩])
theorem w6_10 (k : Kn) (s : St) (R : Ex → St → Prop) : Wp b6_10 k s R = Wp (.reg [⟨(some (.l (.l (.l (.l (.r .h)))))), .q (.ldn 5 (.t (.l (.r .h)))), none⟩, ⟨(some (.r (.l (.l (.l (.r .h)))))), .q (.ldn 5 (.t (.l (.l (.l .h))))), none⟩, ⟨(some (.l (.r (.l (.l (.r .h)))))), .q (.eq true (.agg [(0, .int), (1, .int), (2, .int), (3, .int), (4, .int)]) false (.t (.l (.l (.l (.l (.r .h)))))) (.t (.r (.l (.l (.l (.r .h))))))), none⟩, ⟨(some (.r (.r (.l (.l (.r .h)))))), .q (.mv (.t (.l (.r (.l (.l (.r .h))))))), none⟩, ⟨(some (.l (.l (.r (.l (.r .h)))))), .q (.mv (.t (.r (.r .h)))), (some ((.r (.r (.l (.l (.r .h))))), false))⟩, ⟨(some (.r (.l (.r (.l (.r .h)))))), .e (.call 11 [(.t (.l (.l (.r (.l (.r .h))))))]), (some ((.r (.r (.l (.l (.r .h))))), false))⟩, ⟨(some (.l (.r (.r (.l (.r .h)))))), .q (.mv (.t (.r (.l (.l .h))))), (some ((.r (.r (.l (.l (.r .h))))), false))⟩, ⟨(some (.r (.r (.r (.l (.r .h)))))), .q (.bi .neq (.t (.r (.l (.r (.l (.r .h)))))) (.t (.l (.r (.r (.l (.r .h))))))), (some ((.r (.r (.l (.l (.r .h))))), false))⟩, ⟨(some (.l (.l (.l (.r (.r .h)))))), .q (.pk (.t (.r (.r (.l (.l (.r .h)))))) (.c (.b true)) (.t (.r (.r (.r (.l (.r .h))))))), none⟩, ⟨(some (.r (.l (.l (.r (.r .h)))))), .q (.mv (.t (.l (.l (.l (.r (.r .h))))))), none⟩, ⟨(some (.l (.r (.l (.r (.r .h)))))), .q (.ldn 5 (.t (.r (.r (.l .h))))), (some ((.r (.l (.l (.r (.r .h))))), false))⟩, ⟨(some (.r (.r (.l (.r (.r .h)))))), .q (.ldn 5 (.t (.r (.l (.r .h))))), (some ((.r (.l (.l (.r (.r .h))))), false))⟩, ⟨(some (.l (.l (.r (.r (.r .h)))))), .q (.eq true (.agg [(0, .int), (1, .int), (2, .int), (3, .int), (4, .int)]) false (.t (.l (.r (.l (.r (.r .h)))))) (.t (.r (.r (.l (.r (.r .h))))))), (some ((.r (.l (.l (.r (.r .h))))), false))⟩, ⟨(some (.r (.l (.r (.r (.r .h)))))), .q (.pk (.t (.r (.l (.l (.r (.r .h)))))) (.c (.b true)) (.t (.l (.l (.r (.r (.r .h))))))), none⟩, ⟨(some (.l (.r (.r (.r (.r .h)))))), .q (.mv (.t (.r (.l (.r (.r (.r .h))))))), none⟩, ⟨(some (.r (.r (.r (.r (.r .h)))))), .q (.mv (.t (.l (.l (.r .h))))), (some ((.l (.r (.r (.r (.r .h))))), false))⟩, ⟨(some (.l (.l (.l (.l (.l (.l .h))))))), .e (.call 11 [(.t (.r (.r (.r (.r (.r .h))))))]), (some ((.l (.r (.r (.r (.r .h))))), false))⟩, ⟨(some (.r (.l (.l (.l (.l (.l .h))))))), .q (.mv (.t (.l (.r (.r .h))))), (some ((.l (.r (.r (.r (.r .h))))), false))⟩, ⟨(some (.l (.r (.l (.l (.l (.l .h))))))), .q (.bi .neq (.t (.l (.l (.l (.l (.l (.l .h))))))) (.t (.r (.l (.l (.l (.l (.l .h)))))))), (some ((.l (.r (.r (.r (.r .h))))), false))⟩, ⟨(some (.r (.r (.l (.l (.l (.l .h))))))), .q (.pk (.t (.l (.r (.r (.r (.r .h)))))) (.c (.b true)) (.t (.l (.r (.l (.l (.l (.l .h)))))))), none⟩, ⟨(some (.l (.l (.r (.l (.l (.l .h))))))), .q (.mv (.t (.r (.r (.l (.l (.l (.l .h)))))))), none⟩, ⟨(some (.r (.l (.r (.l (.l (.l .h))))))), .q (.mv (.t (.l (.r (.l .h))))), (some ((.l (.l (.r (.l (.l (.l .h)))))), false))⟩, ⟨(some (.l (.r (.r (.l (.l (.l .h))))))), .q (.bs (.t (.r (.l (.r (.l (.l (.l .h)))))))), (some ((.l (.l (.r (.l (.l (.l .h)))))), false))⟩, ⟨(some (.r (.r (.r (.l (.l (.l .h))))))), .q (.mv (.t (.l .h))), (some ((.l (.l (.r (.l (.l (.l .h)))))), false))⟩, ⟨(some (.l (.l (.l (.r (.l (.l .h))))))), .q (.bs (.t (.r (.r (.r (.l (.l (.l .h)))))))), (some ((.l (.l (.r (.l (.l (.l .h)))))), false))⟩, ⟨(some (.r (.l (.l (.r (.l (.l .h))))))), .q (.bi .add (.t (.l (.l (.l (.r (.l (.l .h))))))) (.c (.s 1 119))), (some ((.l (.l (.r (.l (.l (.l .h)))))), false))⟩, ⟨(some (.l (.r (.l (.r (.l (.l .h))))))), .q (.bi .neq (.t (.l (.r (.r (.l (.l (.l .h))))))) (.t (.r (.l (.l (.r (.l (.l .h)))))))), (some ((.l (.l (.r (.l (.l (.l .h)))))), false))⟩, ⟨(some (.r (.r (.l (.r (.l (.l .h))))))), .q (.pk (.t (.l (.l (.r (.l (.l (.l .h))))))) (.c (.b true)) (.t (.l (.r (.l (.r (.l (.l .h)))))))), none⟩]) k s R := rfl
noncomputable def b6_11 : CC := (.reg [⟨(some (.r (.l .h))), .q (.mv (.c (.b false))), none⟩])
theorem w6_11 (k : Kn) (s : St) (R : Ex → St → Prop) : Wp b6_11 k s R = Wp (.reg [⟨(some (.r (.l .h))), .q (.mv (.c (.b false))), none⟩]) k s R := rfl
noncomputable def b6_12 : CC := (.cond (.t (.r (.r (.l (.r (.l (.l .h))))))) (.seq b6_11 .ret) .skip)
theorem w6_12 (k : Kn) (s : St) (R : Ex → St → Prop) : Wp b6_12 k s R = Wp (.cond (.t (.r (.r (.l (.r (.l (.l .h))))))) (.seq b6_11 .ret) .skip) k s R := rfl
noncomputable def b6_13 : CC := (.reg [⟨(some (.l (.l (.r (.r (.l (.l .h))))))), .q (.mv (.t (.r (.l (.l .h))))), none⟩, ⟨(some (.r (.l (.r (.r (.l (.l .h))))))), .q (.bi .eql (.t (.l (.l (.r (.r (.l (.l .h))))))) (.c (.i .i64 0))), none⟩])
theorem w6_13 (k : Kn) (s : St) (R : Ex → St → Prop) : Wp b6_13 k s R = Wp (.reg [⟨(some (.l (.l (.r (.r (.l (.l .h))))))), .q (.mv (.t (.r (.l (.l .h))))), none⟩, ⟨(some (.r (.l (.r (.r (.l (.l .h))))))), .q (.bi .eql (.t (.l (.l (.r (.r (.l (.l .h))))))) (.c (.i .i64 0))), none⟩]) k s R := rfl
noncomputable def b6_14 : CC := (.reg [⟨(some (.r (.r (.r (.r (.l (.l .h))))))), .q (.ldn 5 (.t (.l (.r .h)))), none⟩, ⟨(some (.l (.l (.l (.l (.r (.l .h))))))), .e (.call 10 [(.t (.r (.r (.r (.r (.l (.l .h)))))))]), none⟩, ⟨(some (.l (.r (.r (.r (.l (.l .h))))))), .q (.mv (.t (.l (.l (.l (.l (.r (.l .h)))))))), none⟩, ⟨(some (.r (.l (.l (.l (.r (.l .h))))))), .q (.ex 0 (.t (.l (.r (.r (.r (.l (.l .h)))))))), none⟩, ⟨(some (.l (.r (.l (.l (.r (.l .h))))))), .q (.ex 1 (.t (.l (.r (.r (.r (.l (.l .h)))))))), none⟩, ⟨(some (.r (.r (.r .h)))), .q (.mv (.t (.r (.l (.l (.l (.r (.l .h)))))))), none⟩, ⟨(some (.l (.l (.l (.l .h))))), .q (.mv (.t (.l (.r (.l (.l (.r (.l .h)))))))), none⟩])
theorem w6_14 (k : Kn) (s : St) (R : Ex → St → Prop) : Wp b6_14 k s R = Wp (.reg [⟨(some (.r (.r (.r (.r (.l (.l .h))))))), .q (.ldn 5 (.t (.l (.r .h)))), none⟩, ⟨(some (.l (.l (.l (.l (.r (.l .h))))))), .e (.call 10 [(.t (.r (.r (.r (.r (.l (.l .h)))))))]), none⟩, ⟨(some (.l (.r (.r (.r (.l (.l .h))))))), .q (.mv (.t (.l (.l (.l (.l (.r (.l .h)))))))), none⟩, ⟨(some (.r (.l (.l (.l (.r (.l .h))))))), .q (.ex 0 (.t (.l (.r (.r (.r (.l (.l .h)))))))), none⟩, ⟨(some (.l (.r (.l (.l (.r (.l .h))))))), .q (.ex 1 (.t (.l (.r (.r (.r (.l (.l .h)))))))), none⟩, ⟨(some (.r (.r (.r .h)))), .q (.mv (.t (.r (.l (.l (.l (.r (.l .h)))))))), none⟩, ⟨(some (.l (.l (.l (.l .h))))), .q (.mv (.t (.l (.r (.l (.l (.r (.l .h)))))))), none⟩]) k s R := rfl
noncomputable def b6_15 : CC := (.reg [⟨(some (.r (.r (.l (.l (.r (.l .h))))))), .q (.mv (.t (.r (.r (.r .h))))), none⟩, ⟨(some (.l (.l (.r (.l (.r (.l .h))))))), .q (.mv (.t .h)), none⟩, ⟨(some (.r (.l (.r (.l (.r (.l .h))))))), .q (.bi .eql (.t (.r (.r (.l (.l (.r (.l .h))))))) (.t (.l (.l (.r (.l (.r (.l .h)))))))), none⟩, ⟨(some (.l (.r (.r (.l (.r (.l .h))))))), .q (.mv (.t (.r (.l (.r (.l (.r (.l .h)))))))), none⟩, ⟨(some (.r (.r (.r (.l (.r (.l .h))))))), .q (.mv (.t (.l (.l (.l (.l .h)))))), (some ((.l (.r (.r (.l (.r (.l .h)))))), true))⟩, ⟨(some (.l (.l (.l (.r (.r (.l .h))))))), .e (.call 11 [(.t (.r (.r (.r (.l (.r (.l .h)))))))]), (some ((.l (.r (.r (.l (.r (.l .h)))))), true))⟩, ⟨(some (.r (.l (.l (.r (.r (.l .h))))))), .q (.bi .eql (.t (.l (.l (.l (.r (.r (.l .h))))))) (.c (.i .i64 0))), (some ((.l (.r (.r (.l (.r (.l .h)))))), true))⟩, ⟨(some (.l (.r (.l (.r (.r (.l .h))))))), .q (.pk (.t (.l (.r (.r (.l (.r (.l .h))))))) (.t (.r (.l (.l (.r (.r (.l .h))))))) (.c (.b false))), none⟩, ⟨(some (.r (.r (.l (.r (.r (.l .h))))))), .q (.mv (.t (.l (.r (.l (.r (.r (.l .h)))))))), none⟩, ⟨(some (.l (.l (.r (.r (.r (.l .h))))))), .e (.call 8 []), (some ((.r (.r (.l (.r (.r (.l .h)))))), true))⟩, ⟨(some (.r (.l (.r (.r (.r (.l .h))))))), .q (.pk (.t (.r (.r (.l (.r (.r (.l .h))))))) (.t (.l (.l (.r (.r (.r (.l .h))))))) (.c (.b false))), none⟩, ⟨(some (.r (.l .h))), .q (.mv (.t (.r (.l (.r (.r (.r (.l .h)))))))), none⟩])
theorem w6_15 (k : Kn) (s : St) (R : Ex → St → Prop) : Wp b6_15 k s R = Wp (.reg [⟨(some (.r (.r (.l (.l (.r (.l .h))))))), .q (.mv (.t (.r (.r (.r .h))))), none⟩, ⟨(some (.l (.l (.r (.l (.r (.l .h))))))), .q (.mv (.t .h)), none⟩, ⟨(some (.r (.l (.r (.l (.r (.l .h))))))), .q (.bi .eql (.t (.r (.r (.l (.l (.r (.l .h))))))) (.t (.l (.l (.r (.l (.r (.l .h)))))))), none⟩, ⟨(some (.l (.r (.r (.l (.r (.l .h))))))), .q (.mv (.t (.r (.l (.r (.l (.r (.l .h)))))))), none⟩, ⟨(some (.r (.r (.r (.l (.r (.l .h))))))), .q (.mv (.t (.l (.l (.l (.l .h)))))), (some ((.l (.r (.r (.l (.r (.l .h)))))), true))⟩, ⟨(some (.l (.l (.l (.r (.r (.l .h))))))), .e (.call 11 [(.t (.r (.r (.r (.l (.r (.l .h)))))))]), (some ((.l (.r (.r (.l (.r (.l .h)))))), true))⟩, ⟨(some (.r (.l (.l (.r (.r (.l .h))))))), .q (.bi .eql (.t (.l (.l (.l (.r (.r (.l .h))))))) (.c (.i .i64 0))), (some ((.l (.r (.r (.l (.r (.l .h)))))), true))⟩, ⟨(some (.l (.r (.l (.r (.r (.l .h))))))), .q (.pk (.t (.l (.r (.r (.l (.r (.l .h))))))) (.t (.r (.l (.l (.r (.r (.l .h))))))) (.c (.b false))), none⟩, ⟨(some (.r (.r (.l (.r (.r (.l .h))))))), .q (.mv (.t (.l (.r (.l (.r (.r (.l .h)))))))), none⟩, ⟨(some (.l (.l (.r (.r (.r (.l .h))))))), .e (.call 8 []), (some ((.r (.r (.l (.r (.r (.l .h)))))), true))⟩, ⟨(some (.r (.l (.r (.r (.r (.l .h))))))), .q (.pk (.t (.r (.r (.l (.r (.r (.l .h))))))) (.t (.l (.l (.r (.r (.r (.l .h))))))) (.c (.b false))), none⟩, ⟨(some (.r (.l .h))), .q (.mv (.t (.r (.l (.r (.r (.r (.l .h)))))))), none⟩]) k s R := rfl
noncomputable def b6_16 : CC := (.cond (.t (.r (.l (.r (.r (.l (.l .h))))))) (.seq b6_14 (.seq b6_15 .ret)) .skip)
theorem w6_16 (k : Kn) (s : St) (R : Ex → St → Prop) : Wp b6_16 k s R = Wp (.cond (.t (.r (.l (.r (.r (.l (.l .h))))))) (.seq b6_14 (.seq b6_15 .ret)) .skip) k s R := rfl
noncomputable def b6_17 : CC := (.reg [⟨(some (.l (.r (.r (.r (.r (.l .h))))))), .e (.call 8 []), none⟩, ⟨(some (.r (.l .h))), .q (.mv (.t (.l (.r (.r (.r (.r (.l .h)))))))), none⟩])
theorem w6_17 (k : Kn) (s : St) (R : Ex → St → Prop) : Wp b6_17 k s R = Wp (.reg [⟨(some (.l (.r (.r (.r (.r (.l .h))))))), .e (.call 8 []), none⟩, ⟨(some (.r (.l .h))), .q (.mv (.t (.l (.r (.r (.r (.r (.l .h)))))))), none⟩]) k s R := rfl
noncomputable def b6_18 : CC := (.seq (.seq b6_10 b6_12) (.seq (.seq b6_13 b6_16) (.seq b6_17 .ret)))
theorem w6_18 (k : Kn) (s : St) (R : Ex → St → Prop) : Wp b6_18 k s R = Wp (.seq (.seq b6_10 b6_12) (.seq (.seq b6_13 b6_16) (.seq b6_17 .ret))) k s R := rfl
noncomputable def b6_19 : CC := (.seq b6_5 (.seq b6_6 (.seq b6_7 (.seq b6_8 (.seq b6_9 b6_18)))))
theorem w6_19 (k : Kn) (s : St) (R : Ex → St → Prop) : Wp b6_19 k s R = Wp (.seq b6_5 (.seq b6_6 (.seq b6_7 (.seq b6_8 (.seq b6_9 b6_18))))) k s R := rfl
noncomputable def c6 : CF := .mk 7 [.t (.r (.l .h))] (.seq b6_1 (.seq b6_4 b6_19))
theorem e6 (v0 v1 : V) : argTr 7 [v0, v1] = (.n (.n (.n (.n (.n (.n (.n .e none .e) none (.n .e none .e)) none (.n (.n .e none .e) none (.n .e none .e))) none (.n (.n (.n .e none .e) none (.n .e none .e)) none (.n (.n .e none .e) none (.n .e none .e)))) none (.n (.n (.n (.n .e none .e) none (.n .e none .e)) none (.n (.n .e none .e) none (.n .e none .e))) none (.n (.n (.n .e none .e) none (.n .e none .e)) none (.n (.n .e none .e) none (.n .e none .e))))) (some v1) (.n (.n (.n (.n (.n .e none .e) none (.n .e none .e)) none (.n (.n .e none .e) none (.n .e none .e))) none (.n (.n (.n .e none .e) none (.n .e none .e)) none (.n (.n .e none .e) none (.n .e none .e)))) none (.n (.n (.n (.n .e none .e) none (.n .e none .e)) none (.n (.n .e none .e) none (.n .e none .e))) none (.n (.n (.n .e none .e) none (.n .e none .e)) none (.n (.n .e none .e) none (.n .e none .e)))))) (some v0) (.n (.n (.n (.n (.n (.n .e none .e) none (.n .e none .e)) none (.n (.n .e none .e) none (.n .e none .e))) none (.n (.n (.n .e none .e) none (.n .e none .e)) none (.n (.n .e none .e) none (.n .e none .e)))) none (.n (.n (.n (.n .e none .e) none (.n .e none .e)) none (.n (.n .e none .e) none (.n .e none .e))) none (.n (.n (.n .e none .e) none (.n .e none .e)) none (.n (.n .e none .e) none (.n .e none .e))))) none (.n (.n (.n (.n (.n .e none .e) none (.n .e none .e)) none (.n (.n .e none .e) none (.n .e none .e))) none (.n (.n (.n .e none .e) none (.n .e none .e)) none (.n (.n .e none .e) none (.n .e none .e)))) none (.n (.n (.n (.n .e none .e) none (.n .e none .e)) none (.n (.n .e none .e) none (.n .e none .e))) none (.n (.n (.n .e none .e) none (.n .e none .e)) none (.n (.n .e none .e) none (.n .e none .e))))))) := rfl

def h11 : List V → Option V
  | [.i .i64 n] => some (.i .i64 n)
  | _ => none
theorem h11_eq (n : Int) : h11 [.i .i64 n] = some (.i .i64 n) := rfl
theorem readV_eq (l : List UInt8) : ∃ j0 j1 j2 j3 j4 er, readV l = .t [.g [.i .i64 j0, .i .i64 j1, .i .i64 j2, .i .i64 j3, .i .i64 j4], .i .i64 er] := by
  by_cases h : l.length = 4
  · obtain ⟨a, b, c, d, rfl⟩ := list4 h
    exact ⟨_, _, _, _, _, _, ofV_eq _⟩
  · rw [readV_ne h]; exact ⟨_, _, _, _, _, _, rfl⟩
theorem l6 (Φ : Nat → Option CF) (h : Φ 6 = some c6) {L : List Tab} (h8 : Φ 8 = some (.orc (knownO L))) (h31 : Φ 31 = some (.orc (pureO h31))) (h32 : Φ 32 = some (.orc (pureO h32))) (h33 : Φ 33 = some c33) (h34 : Φ 34 = some c34) (h10 : Φ 10 = some (.orc (pureO h10))) (h11 : Φ 11 = some (.orc (pureO h11)))
    {F : RO} {M : Mem} {c : Nat} {v : V} {l : List UInt8} (w : Nat) (hw : w < 4294967296) (ok : Okm F M c) (hs : SlB F M c v l) (ht : tabsIn F L = true) (hl0 : l.length ≤ 9223372036854775807) :
    Calls Φ F 6 [.i .u32 (w : Int), v] M c fun r _ _ => r = .b true := by
  have hl := hs.len
  have hkn := fun M c => knownO_nil ht M c
  refine calls_walk h ?_
  by_cases hlen : 4000 < l.length
  · have hd : decide ((4000 : Int) < (l.length : Int)) = true := decide_eq_true (by omega)
    simp only [lnSl, wp_seq, seqQ_nrm, seqQ_ret, wp_reg, wp_ret, wo_nil, xo_q, xo_e, wp_condT, putO, putE, v_mv, v_bi, bi_gtr, v_ln, xo_call, callC_orc, ev_t, ev_c, evs_nil, Tr.setP_h, Tr.setP_l, Tr.setP_r, getT_h, getT_l, getT_r, endQ_ret, endO, resV_nil', resV_t, consO_some, oneV_one, e6, w6_1, w6_2, w6_3, w6_4, hl, hd, h8, hkn]
  · have hd : decide ((4000 : Int) < (l.length : Int)) = false := decide_eq_false (by omega)
    have hq := h31_eq w hw
    have hq2 := h32_eq w hw
    rw [refV_eq w hw] at hq2
    rw [ofV_eq] at hq hq2
    simp only [lnSl, wp_seq, seqQ_nrm, wp_reg, wp_skip, wo_nil, xo_q, xo_a, xo_e, xo_e0, wp_condF, putO, putA, putE, putE0, v_mv, v_bi, bi_gtr, v_ln, e_st_eq, er_some, xo_call, callC_orc, ev_t, ev_c, evs_nil, evs_cons, Tr.setP_h, Tr.setP_l, Tr.setP_r, getT_h, getT_l, getT_r, List.getElem?_cons_zero, List.getElem?_cons_succ, if_true, pureO_of, ofO_some, flatten_g, allOne_nil, allOne_cons, isOne_i, Bool.and_true, over_nil, over_cons, List.set_cons_zero, List.set_cons_succ, List.length_cons, List.length_nil, Nat.reduceAdd, Nat.reduceLeDiff, Nat.zero_add, v_ex, storeN_same, a_al_eq, Nat.add_assoc, x_app_eq, e6, w6_1, w6_2, w6_4, w6_5, w6_6, w6_7, w6_19, hl, hd, h31, hq, h32, hq2]
    generalize hI : [V.i IntKind.i64 (okI w (opW w)), V.i IntKind.i64 (okI w (dW w)), V.i IntKind.i64 (okI w (aW w)), V.i IntKind.i64 (okI w (bW w)), V.i IntKind.i64 (okI w (iW w))] = I
    have hIl : I.length = 5 := by rw [← hI]; rfl
    have hgX : Gr c M (c + 2) ((M.set c (rowB 26 I)).set (c + 1) (rowB 26 I)) := ((Gr.refl ok).set c _ (Nat.le_refl _) (Nat.lt_succ_self _) (Nat.le_succ _)).set (c + 1) _ (by omega) (by omega) (by omega)
    have h5 : loadN F ((M.set c (rowB 26 I)).set (c + 1) (rowB 26 I)) c 0 5 = some I := by
      rw [loadN_ne _ _ _ _ (by omega), loadN_same _ _ _ _ _ _ (by omega), List.drop_zero, ← hIl, List.take_length]
    have h7 : loadN F ((M.set c (rowB 26 I)).set (c + 1) (rowB 26 I)) (c + 1) 0 5 = some I := by
      rw [loadN_same _ _ _ _ _ _ (by omega), List.drop_zero, ← hIl, List.take_length]
    generalize (M.set c (rowB 26 I)).set (c + 1) (rowB 26 I) = X at hgX h5 h7 ⊢
    have okX := hgX.ok ok
    have hsX := hs.grow hgX
    have hlt : c + 1 < c + 2 := by omega
    generalize c + 2 = d at hgX okX hsX hlt ⊢
    refine putE_to ((appV_to (b := d) AccAt.nil (Gr.refl okX) Nat.one_pos hsX (allOne_sl l) (room_of (by simp; omega) (by simp; omega))).mono ?_)
    rintro v1 M1 c1 ⟨b1, ha1, hg1, hle1, -, -⟩
    rw [List.nil_append] at ha1
    simp only [xo_a, xo_e, putA, ev_t, ev_c, Tr.setP_h, Tr.setP_l, Tr.setP_r, getT_h, getT_l, getT_r, if_true, flatten_i, allOne_nil, allOne_cons, isOne_i, Bool.and_true, List.length_cons, List.length_nil, Nat.zero_add, and_self, List.append_nil, Option.map_some, x_app_eq, a_bsl_w, evPs_nil, evPs_cons, partsR_nil, partsR_cons, bslO_some, Option.isSome_some]
    have hgs : ∀ x, Gr c1 M1 (c1 + 1) (M1.set c1 x) := fun x => (Gr.refl (hg1.ok okX)).set c1 x (Nat.le_refl _) (Nat.lt_succ_self _) (Nat.le_succ _)
    refine putE_to ((appV_to (ns := [[V.i .u8 119]]) (ha1.gr (hgs _)) (hg1.set c1 _ (by omega) (by omega) (by omega)) Nat.one_pos (slD (get_same _ _ _) (by omega) (by simp) rfl) rfl (room_of (by simp; omega) (by simp; omega))).mono ?_)
    rintro v2 M2 c2 ⟨b2, ha2, hg2, hle2, -, -⟩
    have hs2 : SlB F M2 c2 v2 (l ++ [119]) := by
      have := ha2.sl (F := F)
      unfold SlB
      rw [List.map_append]; exact this
    obtain ⟨v3, -, e3, -, -, hs3⟩ := slLV_of (lo := 0) (hi := l.length) hs2 (Nat.zero_le _) (by simp)
    have e3 := e3 rfl
    have hs3 : SlB F M2 c2 v3 l := by
      rw [List.drop_zero, ← List.map_take, List.take_left] at hs3
      exact hs3
    simp only [lnSl, wp_seq, seqQ_nrm, wp_reg, wo_nil, xo_q, xo_e, putO, v_mv, v_ln, xo_call, ev_t, evs_nil, evs_cons, Tr.setP_h, Tr.setP_l, Tr.setP_r, getT_h, getT_l, getT_r, Option.map_some, v_slL, Option.map_none, w6_8, hl, e3]
    have ok2 := hg2.ok okX
    refine putE_to ((r33 Φ h33 h31 ok2 hs3).mono ?_)
    rintro v4 M3 c3 ⟨rfl, hg3⟩
    have ok3 := hg3.ok ok2
    have hgd := hg2.trans hg3
    have h5 : loadN F M3 c 0 5 = some I := by rw [hgd.loadN (by omega)]; exact h5
    have h7 : loadN F M3 (c + 1) 0 5 = some I := by rw [hgd.loadN (by omega)]; exact h7
    have hs4 : SlB F M3 c3 v l := hsX.grow hgd
    have hs5 : SlB F M3 c3 v2 (l ++ [119]) := hs2.grow hg3
    have hdc := hgd.le
    clear hs2 hs3 hgd hg2 hg3 ok2
    obtain ⟨j0, j1, j2, j3, j4, er, hrd⟩ := readV_eq l
    rw [hrd]
    simp only [wp_seq, seqQ_nrm, wp_reg, wo_nil, xo_q, xo_a, xo_e, xo_e0, putO, putA, putE0, v_mv, e_st_eq, er_some, xo_call, ev_t, evs_nil, evs_cons, Tr.setP_h, Tr.setP_l, Tr.setP_r, getT_h, getT_l, getT_r, List.getElem?_cons_zero, List.getElem?_cons_succ, if_true, flatten_g, allOne_nil, allOne_cons, isOne_i, Bool.and_true, over_nil, over_cons, List.set_cons_zero, List.set_cons_succ, List.length_cons, List.length_nil, Nat.reduceAdd, Nat.reduceLeDiff, Nat.zero_add, v_ex, storeN_same, a_al_eq, w6_9]
    generalize hJ : [V.i IntKind.i64 j0, V.i IntKind.i64 j1, V.i IntKind.i64 j2, V.i IntKind.i64 j3, V.i IntKind.i64 j4] = J
    have hJl : J.length = 5 := by rw [← hJ]; rfl
    have hgY : Gr c3 M3 (c3 + 1) (M3.set c3 (rowB 26 J)) := (Gr.refl ok3).set c3 _ (Nat.le_refl _) (Nat.lt_succ_self _) (Nat.le_succ _)
    have k5 : loadN F (M3.set c3 (rowB 26 J)) c 0 5 = some I := by rw [hgY.loadN (by omega)]; exact h5
    have k7 : loadN F (M3.set c3 (rowB 26 J)) (c + 1) 0 5 = some I := by rw [hgY.loadN (by omega)]; exact h7
    have k9 : loadN F (M3.set c3 (rowB 26 J)) c3 0 5 = some J := by rw [loadN_same _ _ _ _ _ _ (by omega), List.drop_zero, ← hJl, List.take_length]
    generalize M3.set c3 (rowB 26 J) = Y at hgY k5 k7 k9 ⊢
    have okY := hgY.ok ok3
    have hsY : SlB F Y (c3 + 1) v l := hs4.grow hgY
    have hsY2 : SlB F Y (c3 + 1) v2 (l ++ [119]) := hs5.grow hgY
    refine putE_to ((r34 Φ h34 h32 okY hsY).mono ?_)
    rintro v5 M4 c4 ⟨rfl, hg4⟩
    have hle4 := hg4.le
    have h5 : loadN F M4 c 0 5 = some I := by rw [hg4.loadN (by omega)]; exact k5
    have h7 : loadN F M4 (c + 1) 0 5 = some I := by rw [hg4.loadN (by omega)]; exact k7
    have h9 : loadN F M4 c3 0 5 = some J := by rw [hg4.loadN (by omega)]; exact k9
    have hgZ : ∀ x, Gr (c3 + 1) Y (c4 + 1) (M4.set c4 x) := fun x => hg4.set c4 x (by omega) (by omega) (by omega)
    have hbM : ∀ x, bsV F (M4.set c4 x) v = some (sV l) := fun x => bs_of (hsY.grow (hgZ x))
    have hbM2 : ∀ x, bsV F (M4.set c4 x) v2 = some (sV (l ++ [119])) := fun x => bs_of (hsY2.grow (hgZ x))
    clear k5 k7 k9 hs4 hs5 hsY hsY2 okY hgY hgZ
    rw [hrd]
    have n1 : c ≠ c4 := by omega
    have n2 : c + 1 ≠ c4 := by omega
    have n3 : c3 ≠ c4 := by omega
    have hcat := bi_scat l [119] (by simp; omega)
    have hw119 : V.s 1 119 = sV [119] := rfl
    subst hI hJ
    simp only [wp_seq, seqQ_nrm, wp_reg, wp_skip, wo_nil, xo_q, xo_a, xo_e, xo_e0, wo_gT, wp_condF, putO, putA, putE, putE0, v_mv, v_pk, pkV_F, v_bi, bi_eql, bi_neq, v_ldn, ldn_p, e_st_eq, er_some, xo_call, callC_orc, ev_t, ev_c, evs_nil, evs_cons, Tr.setP_h, Tr.setP_l, Tr.setP_r, getT_h, getT_l, getT_r, List.getElem?_cons_zero, List.getElem?_cons_succ, Bool.not_true, decide_true, decide_false, if_true, pureO_of, ofO_some, flatten_g, allOne_nil, allOne_cons, isOne_i, Bool.and_true, over_nil, over_cons, List.set_cons_zero, List.set_cons_succ, List.length_cons, List.length_nil, Nat.reduceAdd, Nat.reduceLeDiff, Nat.zero_add, v_ex, andO_some, eqAt_some, eqAll_nil, eqAll_cons, negO_T, v_eq, eqV_agg, eq1_int, loadN_ne, loadN_same, storeN_same, a_al_eq, List.drop_zero, List.take_succ_cons, List.take_nil, Option.map_some, v_bs, bi_sne, w6_10, w6_12, w6_13, w6_16, w6_18, h5, h7, h9, n1, n2, n3, hbM, hbM2, h11, h11_eq, eq_self, hcat, hw119, ne_eq, not_false_eq_true, not_true_eq_false]
    by_cases hok : okW w = true
    · have he : erW w = 0 := if_pos hok
      have hi : ∀ x, okI w x = x := fun x => if_pos hok
      obtain ⟨hm, hwd⟩ := of_decide_eq_true hok
      have hw10 : w10 (opW w) (dW w) (aW w) (bW w) (iW w) = (w : Int) := by
        unfold w10; rw [if_pos hm, hwd]
      have he10 : er10 (opW w) (dW w) (aW w) (bW w) (iW w) = 0 := if_pos hm
      simp only [hi] at h5
      simp only [he, hi]
      simp only [wp_seq, seqQ_nrm, seqQ_ret, wp_reg, wp_ret, wo_nil, xo_q, xo_e, wo_gT, wp_condT, putO, putE, v_mv, v_pk, pkV_T, v_bi, bi_eql, v_ldn, ldn_p, xo_call, callC_orc, ev_t, ev_c, evs_nil, evs_cons, Tr.setP_h, Tr.setP_l, Tr.setP_r, getT_h, getT_l, getT_r, List.getElem?_cons_zero, List.getElem?_cons_succ, endQ_ret, endO, resV_nil', resV_t, consO_some, oneV_one, decide_true, pureO_of, ofO_some, v_ex, loadN_ne, Option.map_some, w6_14, w6_15, h5, n1, h10, h10_eq, hw10, he10, eq_self, h11, h11_eq, h8, hkn, ne_eq, not_false_eq_true]
    · have he : erW w = 4 := if_neg hok
      simp only [he]
      simp only [wp_seq, seqQ_nrm, wp_reg, wp_ret, wp_skip, wo_nil, xo_q, xo_e, wp_condF, putO, putE, v_mv, xo_call, callC_orc, ev_t, evs_nil, Tr.setP_h, Tr.setP_l, Tr.setP_r, getT_h, getT_l, getT_r, Int.reduceEq, endQ_ret, endO, resV_nil', resV_t, consO_some, oneV_one, decide_false, w6_17, h8, hkn]
end Go.Proofs.YtffpeieapadocaaGreatDoor.Ev

set_option maxRecDepth 10000
set_option maxHeartbeats 16000000
namespace Go.Proofs.YtffpeieapadocaaGreatDoor.Ev
open Go
noncomputable def b25_1 : CC := (.reg [⟨(some (.l (.r .h))), .q (.bi .eql (.t (.l (.l .h))) (.c (.i .i64 3))), none⟩, ⟨(some (.r (.l .h))), .q (.mv (.t (.l (.r .h)))), none⟩])
theorem w25_1 (k : Kn) (s : St) (R : Ex → St → Prop) : Wp b25_1 k s R = Wp (.reg [⟨(some (.l (.r .h))), .q (.bi .eql (.t (.l (.l .h))) (.c (.i .i64 3))), none⟩, ⟨(some (.r (.l .h))), .q (.mv (.t (.l (.r .h)))), none⟩]) k s R := rfl
noncomputable def b25_2 : CC := (.reg [⟨(some (.l (.l (.l .h)))), .q (.bi .eql (.t (.l (.l .h))) (.c (.i .i64 23))), none⟩, ⟨(some (.r (.r .h))), .q (.mv (.t (.l (.l (.l .h))))), none⟩])
theorem w25_2 (k : Kn) (s : St) (R : Ex → St → Prop) : Wp b25_2 k s R = Wp (.reg [⟨(some (.l (.l (.l .h)))), .q (.bi .eql (.t (.l (.l .h))) (.c (.i .i64 23))), none⟩, ⟨(some (.r (.r .h))), .q (.mv (.t (.l (.l (.l .h))))), none⟩]) k s R := rfl
noncomputable def b25_3 : CC := (.reg [⟨(some (.l (.r (.l .h)))), .q (.bi .eql (.t (.l (.l .h))) (.c (.i .i64 24))), none⟩, ⟨(some (.r (.l (.l .h)))), .q (.mv (.t (.l (.r (.l .h))))), none⟩])
theorem w25_3 (k : Kn) (s : St) (R : Ex → St → Prop) : Wp b25_3 k s R = Wp (.reg [⟨(some (.l (.r (.l .h)))), .q (.bi .eql (.t (.l (.l .h))) (.c (.i .i64 24))), none⟩, ⟨(some (.r (.l (.l .h)))), .q (.mv (.t (.l (.r (.l .h))))), none⟩]) k s R := rfl
noncomputable def b25_4 : CC := (.reg [⟨(some (.l (.l (.r .h)))), .q (.bi .eql (.t (.l (.l .h))) (.c (.i .i64 5))), none⟩, ⟨(some (.r (.r (.l .h)))), .q (.mv (.t (.l (.l (.r .h))))), none⟩])
theorem w25_4 (k : Kn) (s : St) (R : Ex → St → Prop) : Wp b25_4 k s R = Wp (.reg [⟨(some (.l (.l (.r .h)))), .q (.bi .eql (.t (.l (.l .h))) (.c (.i .i64 5))), none⟩, ⟨(some (.r (.r (.l .h)))), .q (.mv (.t (.l (.l (.r .h))))), none⟩]) k s R := rfl
noncomputable def b25_5 : CC := (.reg [⟨(some (.r (.l (.r .h)))), .q (.bi .eql (.t (.l (.l .h))) (.c (.i .i64 6))), none⟩, ⟨(some (.r (.r (.l .h)))), .q (.mv (.t (.r (.l (.r .h))))), none⟩])
theorem w25_5 (k : Kn) (s : St) (R : Ex → St → Prop) : Wp b25_5 k s R = Wp (.reg [⟨(some (.r (.l (.r .h)))), .q (.bi .eql (.t (.l (.l .h))) (.c (.i .i64 6))), none⟩, ⟨(some (.r (.r (.l .h)))), .q (.mv (.t (.r (.l (.r .h))))), none⟩]) k s R := rfl
noncomputable def b25_6 : CC := (.reg [⟨(some (.l (.r (.r .h)))), .q (.bi .eql (.t (.l (.l .h))) (.c (.i .i64 25))), none⟩, ⟨(some (.r (.r (.l .h)))), .q (.mv (.t (.l (.r (.r .h))))), none⟩])
theorem w25_6 (k : Kn) (s : St) (R : Ex → St → Prop) : Wp b25_6 k s R = Wp (.reg [⟨(some (.l (.r (.r .h)))), .q (.bi .eql (.t (.l (.l .h))) (.c (.i .i64 25))), none⟩, ⟨(some (.r (.r (.l .h)))), .q (.mv (.t (.l (.r (.r .h))))), none⟩]) k s R := rfl
noncomputable def b25_7 : CC := (.cond (.t (.r (.r (.l .h)))) .skip (.seq b25_5 (.cond (.t (.r (.r (.l .h)))) .skip b25_6)))
theorem w25_7 (k : Kn) (s : St) (R : Ex → St → Prop) : Wp b25_7 k s R = Wp (.cond (.t (.r (.r (.l .h)))) .skip (.seq b25_5 (.cond (.t (.r (.r (.l .h)))) .skip b25_6))) k s R := rfl
noncomputable def b25_8 : CC := (.seq (.seq b25_4 b25_7) (.cond (.t (.r (.r (.l .h)))) (.exit 4) .skip))
theorem w25_8 (k : Kn) (s : St) (R : Ex → St → Prop) : Wp b25_8 k s R = Wp (.seq (.seq b25_4 b25_7) (.cond (.t (.r (.r (.l .h)))) (.exit 4) .skip)) k s R := rfl
noncomputable def b25_9 : CC := (.reg [⟨(some (.l (.l (.l (.l .h))))), .q (.bi .eql (.t (.l (.l .h))) (.c (.i .i64 7))), none⟩, ⟨(some (.r (.r (.r .h)))), .q (.mv (.t (.l (.l (.l (.l .h)))))), none⟩])
theorem w25_9 (k : Kn) (s : St) (R : Ex → St → Prop) : Wp b25_9 k s R = Wp (.reg [⟨(some (.l (.l (.l (.l .h))))), .q (.bi .eql (.t (.l (.l .h))) (.c (.i .i64 7))), none⟩, ⟨(some (.r (.r (.r .h)))), .q (.mv (.t (.l (.l (.l (.l .h)))))), none⟩]) k s R := rfl
noncomputable def b25_10 : CC := (.seq b25_8 (.seq b25_9 (.cond (.t (.r (.r (.r .h)))) (.exit 5) .skip)))
theorem w25_10 (k : Kn) (s : St) (R : Ex → St → Prop) : Wp b25_10 k s R = Wp (.seq b25_8 (.seq b25_9 (.cond (.t (.r (.r (.r .h)))) (.exit 5) .skip))) k s R := rfl
noncomputable def b25_11 : CC := (.seq (.seq b25_3 (.cond (.t (.r (.l (.l .h)))) (.exit 3) .skip)) b25_10)
theorem w25_11 (k : Kn) (s : St) (R : Ex → St → Prop) : Wp b25_11 k s R = Wp (.seq (.seq b25_3 (.cond (.t (.r (.l (.l .h)))) (.exit 3) .skip)) b25_10) k s R := rfl
noncomputable def b25_12 : CC := (.seq (.seq b25_2 (.cond (.t (.r (.r .h))) (.exit 2) .skip)) b25_11)
theorem w25_12 (k : Kn) (s : St) (R : Ex → St → Prop) : Wp b25_12 k s R = Wp (.seq (.seq b25_2 (.cond (.t (.r (.r .h))) (.exit 2) .skip)) b25_11) k s R := rfl
noncomputable def b25_13 : CC := (.seq (.seq b25_1 (.cond (.t (.r (.l .h))) (.exit 1) .skip)) b25_12)
theorem w25_13 (k : Kn) (s : St) (R : Ex → St → Prop) : Wp b25_13 k s R = Wp (.seq (.seq b25_1 (.cond (.t (.r (.l .h))) (.exit 1) .skip)) b25_12) k s R := rfl
noncomputable def b25_14 : CC := (.seq (.reg [⟨(some (.r .h)), .q (.mv (.c (.i .i64 1))), none⟩]) .ret)
theorem w25_14 (k : Kn) (s : St) (R : Ex → St → Prop) : Wp b25_14 k s R = Wp (.seq (.reg [⟨(some (.r .h)), .q (.mv (.c (.i .i64 1))), none⟩]) .ret) k s R := rfl
noncomputable def b25_15 : CC := (.seq (.block 2 (.block 1 (.seq b25_13 (.exit 0)))) (.seq b25_14 (.exit 0)))
theorem w25_15 (k : Kn) (s : St) (R : Ex → St → Prop) : Wp b25_15 k s R = Wp (.seq (.block 2 (.block 1 (.seq b25_13 (.exit 0)))) (.seq b25_14 (.exit 0))) k s R := rfl
noncomputable def b25_16 : CC := (.seq (.reg [⟨(some (.r .h)), .q (.mv (.c (.i .i64 2))), none⟩]) .ret)
theorem w25_16 (k : Kn) (s : St) (R : Ex → St → Prop) : Wp b25_16 k s R = Wp (.seq (.reg [⟨(some (.r .h)), .q (.mv (.c (.i .i64 2))), none⟩]) .ret) k s R := rfl
noncomputable def b25_17 : CC := (.seq (.reg [⟨(some (.r .h)), .q (.mv (.c (.i .i64 3))), none⟩]) .ret)
theorem w25_17 (k : Kn) (s : St) (R : Ex → St → Prop) : Wp b25_17 k s R = Wp (.seq (.reg [⟨(some (.r .h)), .q (.mv (.c (.i .i64 3))), none⟩]) .ret) k s R := rfl
noncomputable def b25_18 : CC := (.seq (.block 4 (.seq (.block 3 b25_15) (.seq b25_16 (.exit 0)))) (.seq b25_17 (.exit 0)))
theorem w25_18 (k : Kn) (s : St) (R : Ex → St → Prop) : Wp b25_18 k s R = Wp (.seq (.block 4 (.seq (.block 3 b25_15) (.seq b25_16 (.exit 0)))) (.seq b25_17 (.exit 0))) k s R := rfl
noncomputable def b25_19 : CC := (.seq (.reg [⟨(some (.r .h)), .q (.mv (.c (.i .i64 4))), none⟩]) .ret)
theorem w25_19 (k : Kn) (s : St) (R : Ex → St → Prop) : Wp b25_19 k s R = Wp (.seq (.reg [⟨(some (.r .h)), .q (.mv (.c (.i .i64 4))), none⟩]) .ret) k s R := rfl
noncomputable def b25_20 : CC := (.seq (.reg [⟨(some (.l (.l .h))), .q (.mv (.t .h)), none⟩]) (.block 0 (.seq (.block 5 b25_18) (.seq b25_19 (.exit 0)))))
theorem w25_20 (k : Kn) (s : St) (R : Ex → St → Prop) : Wp b25_20 k s R = Wp (.seq (.reg [⟨(some (.l (.l .h))), .q (.mv (.t .h)), none⟩]) (.block 0 (.seq (.block 5 b25_18) (.seq b25_19 (.exit 0))))) k s R := rfl
noncomputable def b25_21 : CC := (.reg [⟨(some (.l (.r (.l (.l .h))))), .q (.mv (.t .h)), none⟩, ⟨(some (.r (.r (.l (.l .h))))), .q (.bi .geq (.t (.l (.r (.l (.l .h))))) (.c (.i .i64 8))), none⟩, ⟨(some (.l (.l (.r (.l .h))))), .q (.mv (.t (.r (.r (.l (.l .h)))))), none⟩, ⟨(some (.r (.l (.r (.l .h))))), .q (.mv (.t .h)), (some ((.l (.l (.r (.l .h)))), true))⟩, ⟨(some (.l (.r (.r (.l .h))))), .q (.bi .leq (.t (.r (.l (.r (.l .h))))) (.c (.i .i64 17))), (some ((.l (.l (.r (.l .h)))), true))⟩, ⟨(some (.r (.r (.r (.l .h))))), .q (.pk (.t (.l (.l (.r (.l .h))))) (.t (.l (.r (.r (.l .h))))) (.c (.b false))), none⟩, ⟨(some (.r (.l (.l (.l .h))))), .q (.mv (.t (.r (.r (.r (.l .h)))))), none⟩])
theorem w25_21 (k : Kn) (s : St) (R : Ex → St → Prop) : Wp b25_21 k s R = Wp (.reg [⟨(some (.l (.r (.l (.l .h))))), .q (.mv (.t .h)), none⟩, ⟨(some (.r (.r (.l (.l .h))))), .q (.bi .geq (.t (.l (.r (.l (.l .h))))) (.c (.i .i64 8))), none⟩, ⟨(some (.l (.l (.r (.l .h))))), .q (.mv (.t (.r (.r (.l (.l .h)))))), none⟩, ⟨(some (.r (.l (.r (.l .h))))), .q (.mv (.t .h)), (some ((.l (.l (.r (.l .h)))), true))⟩, ⟨(some (.l (.r (.r (.l .h))))), .q (.bi .leq (.t (.r (.l (.r (.l .h))))) (.c (.i .i64 17))), (some ((.l (.l (.r (.l .h)))), true))⟩, ⟨(some (.r (.r (.r (.l .h))))), .q (.pk (.t (.l (.l (.r (.l .h))))) (.t (.l (.r (.r (.l .h))))) (.c (.b false))), none⟩, ⟨(some (.r (.l (.l (.l .h))))), .q (.mv (.t (.r (.r (.r (.l .h)))))), none⟩]) k s R := rfl
noncomputable def b25_22 : CC := (.seq (.reg [⟨(some (.r .h)), .q (.mv (.c (.i .i64 5))), none⟩]) .ret)
theorem w25_22 (k : Kn) (s : St) (R : Ex → St → Prop) : Wp b25_22 k s R = Wp (.seq (.reg [⟨(some (.r .h)), .q (.mv (.c (.i .i64 5))), none⟩]) .ret) k s R := rfl
noncomputable def b25_23 : CC := (.reg [⟨(some (.r (.l (.l (.r .h))))), .q (.mv (.t .h)), none⟩, ⟨(some (.l (.r (.l (.r .h))))), .q (.bi .geq (.t (.r (.l (.l (.r .h))))) (.c (.i .i64 18))), none⟩, ⟨(some (.r (.r (.l (.r .h))))), .q (.mv (.t (.l (.r (.l (.r .h)))))), none⟩, ⟨(some (.l (.l (.r (.r .h))))), .q (.mv (.t .h)), (some ((.r (.r (.l (.r .h)))), true))⟩, ⟨(some (.r (.l (.r (.r .h))))), .q (.bi .leq (.t (.l (.l (.r (.r .h))))) (.c (.i .i64 22))), (some ((.r (.r (.l (.r .h)))), true))⟩, ⟨(some (.l (.r (.r (.r .h))))), .q (.pk (.t (.r (.r (.l (.r .h))))) (.t (.r (.l (.r (.r .h))))) (.c (.b false))), none⟩, ⟨(some (.r (.r (.r (.r .h))))), .q (.mv (.t (.l (.r (.r (.r .h)))))), none⟩, ⟨(some (.l (.l (.l (.l (.l .h)))))), .q (.mv (.t .h)), (some ((.r (.r (.r (.r .h)))), false))⟩, ⟨(some (.r (.l (.l (.l (.l .h)))))), .q (.bi .geq (.t (.l (.l (.l (.l (.l .h)))))) (.c (.i .i64 26))), (some ((.r (.r (.r (.r .h)))), false))⟩, ⟨(some (.l (.r (.l (.l (.l .h)))))), .q (.mv (.t (.r (.l (.l (.l (.l .h))))))), (some ((.r (.r (.r (.r .h)))), false))⟩, ⟨(some (.r (.r (.l (.l (.l .h)))))), .q (.mv (.t .h)), (some ((.l (.r (.l (.l (.l .h))))), true))⟩, ⟨(some (.l (.l (.r (.l (.l .h)))))), .q (.bi .leq (.t (.r (.r (.l (.l (.l .h)))))) (.c (.i .i64 28))), (some ((.l (.r (.l (.l (.l .h))))), true))⟩, ⟨(some (.r (.l (.r (.l (.l .h)))))), .q (.pk (.t (.l (.r (.l (.l (.l .h)))))) (.t (.l (.l (.r (.l (.l .h)))))) (.c (.b false))), (some ((.r (.r (.r (.r .h)))), false))⟩, ⟨(some (.l (.r (.r (.l (.l .h)))))), .q (.pk (.t (.r (.r (.r (.r .h))))) (.c (.b true)) (.t (.r (.l (.r (.l (.l .h))))))), none⟩, ⟨(some (.l (.l (.l (.r .h))))), .q (.mv (.t (.l (.r (.r (.l (.l .h))))))), none⟩])
theorem w25_23 (k : Kn) (s : St) (R : Ex → St → Prop) : Wp b25_23 k s R = Wp (.reg [⟨(some (.r (.l (.l (.r .h))))), .q (.mv (.t .h)), none⟩, ⟨(some (.l (.r (.l (.r .h))))), .q (.bi .geq (.t (.r (.l (.l (.r .h))))) (.c (.i .i64 18))), none⟩, ⟨(some (.r (.r (.l (.r .h))))), .q (.mv (.t (.l (.r (.l (.r .h)))))), none⟩, ⟨(some (.l (.l (.r (.r .h))))), .q (.mv (.t .h)), (some ((.r (.r (.l (.r .h)))), true))⟩, ⟨(some (.r (.l (.r (.r .h))))), .q (.bi .leq (.t (.l (.l (.r (.r .h))))) (.c (.i .i64 22))), (some ((.r (.r (.l (.r .h)))), true))⟩, ⟨(some (.l (.r (.r (.r .h))))), .q (.pk (.t (.r (.r (.l (.r .h))))) (.t (.r (.l (.r (.r .h))))) (.c (.b false))), none⟩, ⟨(some (.r (.r (.r (.r .h))))), .q (.mv (.t (.l (.r (.r (.r .h)))))), none⟩, ⟨(some (.l (.l (.l (.l (.l .h)))))), .q (.mv (.t .h)), (some ((.r (.r (.r (.r .h)))), false))⟩, ⟨(some (.r (.l (.l (.l (.l .h)))))), .q (.bi .geq (.t (.l (.l (.l (.l (.l .h)))))) (.c (.i .i64 26))), (some ((.r (.r (.r (.r .h)))), false))⟩, ⟨(some (.l (.r (.l (.l (.l .h)))))), .q (.mv (.t (.r (.l (.l (.l (.l .h))))))), (some ((.r (.r (.r (.r .h)))), false))⟩, ⟨(some (.r (.r (.l (.l (.l .h)))))), .q (.mv (.t .h)), (some ((.l (.r (.l (.l (.l .h))))), true))⟩, ⟨(some (.l (.l (.r (.l (.l .h)))))), .q (.bi .leq (.t (.r (.r (.l (.l (.l .h)))))) (.c (.i .i64 28))), (some ((.l (.r (.l (.l (.l .h))))), true))⟩, ⟨(some (.r (.l (.r (.l (.l .h)))))), .q (.pk (.t (.l (.r (.l (.l (.l .h)))))) (.t (.l (.l (.r (.l (.l .h)))))) (.c (.b false))), (some ((.r (.r (.r (.r .h)))), false))⟩, ⟨(some (.l (.r (.r (.l (.l .h)))))), .q (.pk (.t (.r (.r (.r (.r .h))))) (.c (.b true)) (.t (.r (.l (.r (.l (.l .h))))))), none⟩, ⟨(some (.l (.l (.l (.r .h))))), .q (.mv (.t (.l (.r (.r (.l (.l .h))))))), none⟩]) k s R := rfl
noncomputable def b25_24 : CC := (.seq (.reg [⟨(some (.r .h)), .q (.mv (.c (.i .i64 6))), none⟩]) .ret)
theorem w25_24 (k : Kn) (s : St) (R : Ex → St → Prop) : Wp b25_24 k s R = Wp (.seq (.reg [⟨(some (.r .h)), .q (.mv (.c (.i .i64 6))), none⟩]) .ret) k s R := rfl
noncomputable def b25_25 : CC := (.seq b25_23 (.cond (.t (.l (.l (.l (.r .h))))) b25_24 .skip))
theorem w25_25 (k : Kn) (s : St) (R : Ex → St → Prop) : Wp b25_25 k s R = Wp (.seq b25_23 (.cond (.t (.l (.l (.l (.r .h))))) b25_24 .skip)) k s R := rfl
noncomputable def b25_26 : CC := (.seq b25_21 (.cond (.t (.r (.l (.l (.l .h))))) b25_22 b25_25))
theorem w25_26 (k : Kn) (s : St) (R : Ex → St → Prop) : Wp b25_26 k s R = Wp (.seq b25_21 (.cond (.t (.r (.l (.l (.l .h))))) b25_22 b25_25)) k s R := rfl
noncomputable def b25_27 : CC := (.seq (.reg [⟨(some (.r .h)), .q (.mv (.c (.i .i64 0))), none⟩]) .ret)
theorem w25_27 (k : Kn) (s : St) (R : Ex → St → Prop) : Wp b25_27 k s R = Wp (.seq (.reg [⟨(some (.r .h)), .q (.mv (.c (.i .i64 0))), none⟩]) .ret) k s R := rfl
noncomputable def b25_28 : CC := (.seq (.reg [⟨(some (.r .h)), .q (.mv (.c (.i .i64 0))), none⟩]) (.seq b25_20 (.seq (.block 6 b25_26) b25_27)))
theorem w25_28 (k : Kn) (s : St) (R : Ex → St → Prop) : Wp b25_28 k s R = Wp (.seq (.reg [⟨(some (.r .h)), .q (.mv (.c (.i .i64 0))), none⟩]) (.seq b25_20 (.seq (.block 6 b25_26) b25_27))) k s R := rfl
noncomputable def c25 : CF := .mk 6 [.t (.r .h)] b25_28
theorem e25 (v0 : V) : argTr 6 [v0] = (.n (.n (.n (.n (.n (.n .e none .e) none (.n .e none .e)) none (.n (.n .e none .e) none (.n .e none .e))) none (.n (.n (.n .e none .e) none (.n .e none .e)) none (.n (.n .e none .e) none (.n .e none .e)))) none (.n (.n (.n (.n .e none .e) none (.n .e none .e)) none (.n (.n .e none .e) none (.n .e none .e))) none (.n (.n (.n .e none .e) none (.n .e none .e)) none (.n (.n .e none .e) none (.n .e none .e))))) (some v0) (.n (.n (.n (.n (.n .e none .e) none (.n .e none .e)) none (.n (.n .e none .e) none (.n .e none .e))) none (.n (.n (.n .e none .e) none (.n .e none .e)) none (.n (.n .e none .e) none (.n .e none .e)))) none (.n (.n (.n (.n .e none .e) none (.n .e none .e)) none (.n (.n .e none .e) none (.n .e none .e))) none (.n (.n (.n .e none .e) none (.n .e none .e)) none (.n (.n .e none .e) none (.n .e none .e)))))) := rfl

noncomputable def b26_1 : CC := (.reg [⟨(some (.l (.r .h))), .q (.bi .eql (.t (.l (.l .h))) (.c (.i .i64 3))), none⟩, ⟨(some (.r (.l .h))), .q (.mv (.t (.l (.r .h)))), none⟩])
theorem w26_1 (k : Kn) (s : St) (R : Ex → St → Prop) : Wp b26_1 k s R = Wp (.reg [⟨(some (.l (.r .h))), .q (.bi .eql (.t (.l (.l .h))) (.c (.i .i64 3))), none⟩, ⟨(some (.r (.l .h))), .q (.mv (.t (.l (.r .h)))), none⟩]) k s R := rfl
noncomputable def b26_2 : CC := (.reg [⟨(some (.r (.r .h))), .q (.bi .eql (.t (.l (.l .h))) (.c (.i .i64 23))), none⟩, ⟨(some (.r (.l .h))), .q (.mv (.t (.r (.r .h)))), none⟩])
theorem w26_2 (k : Kn) (s : St) (R : Ex → St → Prop) : Wp b26_2 k s R = Wp (.reg [⟨(some (.r (.r .h))), .q (.bi .eql (.t (.l (.l .h))) (.c (.i .i64 23))), none⟩, ⟨(some (.r (.l .h))), .q (.mv (.t (.r (.r .h)))), none⟩]) k s R := rfl
noncomputable def b26_3 : CC := (.seq (.reg [⟨(some (.r .h)), .q (.mv (.c (.i .i64 1))), none⟩]) .ret)
theorem w26_3 (k : Kn) (s : St) (R : Ex → St → Prop) : Wp b26_3 k s R = Wp (.seq (.reg [⟨(some (.r .h)), .q (.mv (.c (.i .i64 1))), none⟩]) .ret) k s R := rfl
noncomputable def b26_4 : CC := (.reg [⟨(some (.r (.l (.l .h)))), .q (.bi .eql (.t (.l (.l .h))) (.c (.i .i64 24))), none⟩, ⟨(some (.l (.l (.l .h)))), .q (.mv (.t (.r (.l (.l .h))))), none⟩])
theorem w26_4 (k : Kn) (s : St) (R : Ex → St → Prop) : Wp b26_4 k s R = Wp (.reg [⟨(some (.r (.l (.l .h)))), .q (.bi .eql (.t (.l (.l .h))) (.c (.i .i64 24))), none⟩, ⟨(some (.l (.l (.l .h)))), .q (.mv (.t (.r (.l (.l .h))))), none⟩]) k s R := rfl
noncomputable def b26_5 : CC := (.seq (.reg [⟨(some (.r .h)), .q (.mv (.c (.i .i64 2))), none⟩]) .ret)
theorem w26_5 (k : Kn) (s : St) (R : Ex → St → Prop) : Wp b26_5 k s R = Wp (.seq (.reg [⟨(some (.r .h)), .q (.mv (.c (.i .i64 2))), none⟩]) .ret) k s R := rfl
noncomputable def b26_6 : CC := (.reg [⟨(some (.r (.r (.l .h)))), .q (.bi .eql (.t (.l (.l .h))) (.c (.i .i64 5))), none⟩, ⟨(some (.l (.r (.l .h)))), .q (.mv (.t (.r (.r (.l .h))))), none⟩])
theorem w26_6 (k : Kn) (s : St) (R : Ex → St → Prop) : Wp b26_6 k s R = Wp (.reg [⟨(some (.r (.r (.l .h)))), .q (.bi .eql (.t (.l (.l .h))) (.c (.i .i64 5))), none⟩, ⟨(some (.l (.r (.l .h)))), .q (.mv (.t (.r (.r (.l .h))))), none⟩]) k s R := rfl
noncomputable def b26_7 : CC := (.reg [⟨(some (.l (.l (.r .h)))), .q (.bi .eql (.t (.l (.l .h))) (.c (.i .i64 6))), none⟩, ⟨(some (.l (.r (.l .h)))), .q (.mv (.t (.l (.l (.r .h))))), none⟩])
theorem w26_7 (k : Kn) (s : St) (R : Ex → St → Prop) : Wp b26_7 k s R = Wp (.reg [⟨(some (.l (.l (.r .h)))), .q (.bi .eql (.t (.l (.l .h))) (.c (.i .i64 6))), none⟩, ⟨(some (.l (.r (.l .h)))), .q (.mv (.t (.l (.l (.r .h))))), none⟩]) k s R := rfl
noncomputable def b26_8 : CC := (.reg [⟨(some (.r (.l (.r .h)))), .q (.bi .eql (.t (.l (.l .h))) (.c (.i .i64 25))), none⟩, ⟨(some (.l (.r (.l .h)))), .q (.mv (.t (.r (.l (.r .h))))), none⟩])
theorem w26_8 (k : Kn) (s : St) (R : Ex → St → Prop) : Wp b26_8 k s R = Wp (.reg [⟨(some (.r (.l (.r .h)))), .q (.bi .eql (.t (.l (.l .h))) (.c (.i .i64 25))), none⟩, ⟨(some (.l (.r (.l .h)))), .q (.mv (.t (.r (.l (.r .h))))), none⟩]) k s R := rfl
noncomputable def b26_9 : CC := (.cond (.t (.l (.r (.l .h)))) .skip (.seq b26_7 (.cond (.t (.l (.r (.l .h)))) .skip b26_8)))
theorem w26_9 (k : Kn) (s : St) (R : Ex → St → Prop) : Wp b26_9 k s R = Wp (.cond (.t (.l (.r (.l .h)))) .skip (.seq b26_7 (.cond (.t (.l (.r (.l .h)))) .skip b26_8))) k s R := rfl
noncomputable def b26_10 : CC := (.seq (.reg [⟨(some (.r .h)), .q (.mv (.c (.i .i64 3))), none⟩]) .ret)
theorem w26_10 (k : Kn) (s : St) (R : Ex → St → Prop) : Wp b26_10 k s R = Wp (.seq (.reg [⟨(some (.r .h)), .q (.mv (.c (.i .i64 3))), none⟩]) .ret) k s R := rfl
noncomputable def b26_11 : CC := (.reg [⟨(some (.r (.r (.r .h)))), .q (.bi .eql (.t (.l (.l .h))) (.c (.i .i64 7))), none⟩, ⟨(some (.l (.r (.r .h)))), .q (.mv (.t (.r (.r (.r .h))))), none⟩])
theorem w26_11 (k : Kn) (s : St) (R : Ex → St → Prop) : Wp b26_11 k s R = Wp (.reg [⟨(some (.r (.r (.r .h)))), .q (.bi .eql (.t (.l (.l .h))) (.c (.i .i64 7))), none⟩, ⟨(some (.l (.r (.r .h)))), .q (.mv (.t (.r (.r (.r .h))))), none⟩]) k s R := rfl
noncomputable def b26_12 : CC := (.seq (.reg [⟨(some (.r .h)), .q (.mv (.c (.i .i64 4))), none⟩]) .ret)
theorem w26_12 (k : Kn) (s : St) (R : Ex → St → Prop) : Wp b26_12 k s R = Wp (.seq (.reg [⟨(some (.r .h)), .q (.mv (.c (.i .i64 4))), none⟩]) .ret) k s R := rfl
noncomputable def b26_13 : CC := (.reg [⟨(some (.r (.l (.l (.l .h))))), .q (.bi .eql (.t (.l (.l .h))) (.c (.i .i64 8))), none⟩, ⟨(some (.l (.l (.l (.l .h))))), .q (.mv (.t (.r (.l (.l (.l .h)))))), none⟩])
theorem w26_13 (k : Kn) (s : St) (R : Ex → St → Prop) : Wp b26_13 k s R = Wp (.reg [⟨(some (.r (.l (.l (.l .h))))), .q (.bi .eql (.t (.l (.l .h))) (.c (.i .i64 8))), none⟩, ⟨(some (.l (.l (.l (.l .h))))), .q (.mv (.t (.r (.l (.l (.l .h)))))), none⟩]) k s R := rfl
noncomputable def b26_14 : CC := (.reg [⟨(some (.l (.r (.l (.l .h))))), .q (.bi .eql (.t (.l (.l .h))) (.c (.i .i64 9))), none⟩, ⟨(some (.l (.l (.l (.l .h))))), .q (.mv (.t (.l (.r (.l (.l .h)))))), none⟩])
theorem w26_14 (k : Kn) (s : St) (R : Ex → St → Prop) : Wp b26_14 k s R = Wp (.reg [⟨(some (.l (.r (.l (.l .h))))), .q (.bi .eql (.t (.l (.l .h))) (.c (.i .i64 9))), none⟩, ⟨(some (.l (.l (.l (.l .h))))), .q (.mv (.t (.l (.r (.l (.l .h)))))), none⟩]) k s R := rfl
noncomputable def b26_15 : CC := (.reg [⟨(some (.r (.r (.l (.l .h))))), .q (.bi .eql (.t (.l (.l .h))) (.c (.i .i64 10))), none⟩, ⟨(some (.l (.l (.l (.l .h))))), .q (.mv (.t (.r (.r (.l (.l .h)))))), none⟩])
theorem w26_15 (k : Kn) (s : St) (R : Ex → St → Prop) : Wp b26_15 k s R = Wp (.reg [⟨(some (.r (.r (.l (.l .h))))), .q (.bi .eql (.t (.l (.l .h))) (.c (.i .i64 10))), none⟩, ⟨(some (.l (.l (.l (.l .h))))), .q (.mv (.t (.r (.r (.l (.l .h)))))), none⟩]) k s R := rfl
noncomputable def b26_16 : CC := (.reg [⟨(some (.l (.l (.r (.l .h))))), .q (.bi .eql (.t (.l (.l .h))) (.c (.i .i64 11))), none⟩, ⟨(some (.l (.l (.l (.l .h))))), .q (.mv (.t (.l (.l (.r (.l .h)))))), none⟩])
theorem w26_16 (k : Kn) (s : St) (R : Ex → St → Prop) : Wp b26_16 k s R = Wp (.reg [⟨(some (.l (.l (.r (.l .h))))), .q (.bi .eql (.t (.l (.l .h))) (.c (.i .i64 11))), none⟩, ⟨(some (.l (.l (.l (.l .h))))), .q (.mv (.t (.l (.l (.r (.l .h)))))), none⟩]) k s R := rfl
noncomputable def b26_17 : CC := (.reg [⟨(some (.r (.l (.r (.l .h))))), .q (.bi .eql (.t (.l (.l .h))) (.c (.i .i64 12))), none⟩, ⟨(some (.l (.l (.l (.l .h))))), .q (.mv (.t (.r (.l (.r (.l .h)))))), none⟩])
theorem w26_17 (k : Kn) (s : St) (R : Ex → St → Prop) : Wp b26_17 k s R = Wp (.reg [⟨(some (.r (.l (.r (.l .h))))), .q (.bi .eql (.t (.l (.l .h))) (.c (.i .i64 12))), none⟩, ⟨(some (.l (.l (.l (.l .h))))), .q (.mv (.t (.r (.l (.r (.l .h)))))), none⟩]) k s R := rfl
noncomputable def b26_18 : CC := (.reg [⟨(some (.l (.r (.r (.l .h))))), .q (.bi .eql (.t (.l (.l .h))) (.c (.i .i64 13))), none⟩, ⟨(some (.l (.l (.l (.l .h))))), .q (.mv (.t (.l (.r (.r (.l .h)))))), none⟩])
theorem w26_18 (k : Kn) (s : St) (R : Ex → St → Prop) : Wp b26_18 k s R = Wp (.reg [⟨(some (.l (.r (.r (.l .h))))), .q (.bi .eql (.t (.l (.l .h))) (.c (.i .i64 13))), none⟩, ⟨(some (.l (.l (.l (.l .h))))), .q (.mv (.t (.l (.r (.r (.l .h)))))), none⟩]) k s R := rfl
noncomputable def b26_19 : CC := (.reg [⟨(some (.r (.r (.r (.l .h))))), .q (.bi .eql (.t (.l (.l .h))) (.c (.i .i64 14))), none⟩, ⟨(some (.l (.l (.l (.l .h))))), .q (.mv (.t (.r (.r (.r (.l .h)))))), none⟩])
theorem w26_19 (k : Kn) (s : St) (R : Ex → St → Prop) : Wp b26_19 k s R = Wp (.reg [⟨(some (.r (.r (.r (.l .h))))), .q (.bi .eql (.t (.l (.l .h))) (.c (.i .i64 14))), none⟩, ⟨(some (.l (.l (.l (.l .h))))), .q (.mv (.t (.r (.r (.r (.l .h)))))), none⟩]) k s R := rfl
noncomputable def b26_20 : CC := (.reg [⟨(some (.l (.l (.l (.r .h))))), .q (.bi .eql (.t (.l (.l .h))) (.c (.i .i64 15))), none⟩, ⟨(some (.l (.l (.l (.l .h))))), .q (.mv (.t (.l (.l (.l (.r .h)))))), none⟩])
theorem w26_20 (k : Kn) (s : St) (R : Ex → St → Prop) : Wp b26_20 k s R = Wp (.reg [⟨(some (.l (.l (.l (.r .h))))), .q (.bi .eql (.t (.l (.l .h))) (.c (.i .i64 15))), none⟩, ⟨(some (.l (.l (.l (.l .h))))), .q (.mv (.t (.l (.l (.l (.r .h)))))), none⟩]) k s R := rfl
noncomputable def b26_21 : CC := (.reg [⟨(some (.r (.l (.l (.r .h))))), .q (.bi .eql (.t (.l (.l .h))) (.c (.i .i64 16))), none⟩, ⟨(some (.l (.l (.l (.l .h))))), .q (.mv (.t (.r (.l (.l (.r .h)))))), none⟩])
theorem w26_21 (k : Kn) (s : St) (R : Ex → St → Prop) : Wp b26_21 k s R = Wp (.reg [⟨(some (.r (.l (.l (.r .h))))), .q (.bi .eql (.t (.l (.l .h))) (.c (.i .i64 16))), none⟩, ⟨(some (.l (.l (.l (.l .h))))), .q (.mv (.t (.r (.l (.l (.r .h)))))), none⟩]) k s R := rfl
noncomputable def b26_22 : CC := (.reg [⟨(some (.l (.r (.l (.r .h))))), .q (.bi .eql (.t (.l (.l .h))) (.c (.i .i64 17))), none⟩, ⟨(some (.l (.l (.l (.l .h))))), .q (.mv (.t (.l (.r (.l (.r .h)))))), none⟩])
theorem w26_22 (k : Kn) (s : St) (R : Ex → St → Prop) : Wp b26_22 k s R = Wp (.reg [⟨(some (.l (.r (.l (.r .h))))), .q (.bi .eql (.t (.l (.l .h))) (.c (.i .i64 17))), none⟩, ⟨(some (.l (.l (.l (.l .h))))), .q (.mv (.t (.l (.r (.l (.r .h)))))), none⟩]) k s R := rfl
noncomputable def b26_23 : CC := (.seq b26_21 (.cond (.t (.l (.l (.l (.l .h))))) .skip b26_22))
theorem w26_23 (k : Kn) (s : St) (R : Ex → St → Prop) : Wp b26_23 k s R = Wp (.seq b26_21 (.cond (.t (.l (.l (.l (.l .h))))) .skip b26_22)) k s R := rfl
noncomputable def b26_24 : CC := (.seq b26_20 (.cond (.t (.l (.l (.l (.l .h))))) .skip b26_23))
theorem w26_24 (k : Kn) (s : St) (R : Ex → St → Prop) : Wp b26_24 k s R = Wp (.seq b26_20 (.cond (.t (.l (.l (.l (.l .h))))) .skip b26_23)) k s R := rfl
noncomputable def b26_25 : CC := (.seq b26_19 (.cond (.t (.l (.l (.l (.l .h))))) .skip b26_24))
theorem w26_25 (k : Kn) (s : St) (R : Ex → St → Prop) : Wp b26_25 k s R = Wp (.seq b26_19 (.cond (.t (.l (.l (.l (.l .h))))) .skip b26_24)) k s R := rfl
noncomputable def b26_26 : CC := (.seq b26_18 (.cond (.t (.l (.l (.l (.l .h))))) .skip b26_25))
theorem w26_26 (k : Kn) (s : St) (R : Ex → St → Prop) : Wp b26_26 k s R = Wp (.seq b26_18 (.cond (.t (.l (.l (.l (.l .h))))) .skip b26_25)) k s R := rfl
noncomputable def b26_27 : CC := (.seq b26_17 (.cond (.t (.l (.l (.l (.l .h))))) .skip b26_26))
theorem w26_27 (k : Kn) (s : St) (R : Ex → St → Prop) : Wp b26_27 k s R = Wp (.seq b26_17 (.cond (.t (.l (.l (.l (.l .h))))) .skip b26_26)) k s R := rfl
noncomputable def b26_28 : CC := (.seq b26_16 (.cond (.t (.l (.l (.l (.l .h))))) .skip b26_27))
theorem w26_28 (k : Kn) (s : St) (R : Ex → St → Prop) : Wp b26_28 k s R = Wp (.seq b26_16 (.cond (.t (.l (.l (.l (.l .h))))) .skip b26_27)) k s R := rfl
noncomputable def b26_29 : CC := (.seq b26_15 (.cond (.t (.l (.l (.l (.l .h))))) .skip b26_28))
theorem w26_29 (k : Kn) (s : St) (R : Ex → St → Prop) : Wp b26_29 k s R = Wp (.seq b26_15 (.cond (.t (.l (.l (.l (.l .h))))) .skip b26_28)) k s R := rfl
noncomputable def b26_30 : CC := (.seq b26_14 (.cond (.t (.l (.l (.l (.l .h))))) .skip b26_29))
theorem w26_30 (k : Kn) (s : St) (R : Ex → St → Prop) : Wp b26_30 k s R = Wp (.seq b26_14 (.cond (.t (.l (.l (.l (.l .h))))) .skip b26_29)) k s R := rfl
noncomputable def b26_31 : CC := (.seq b26_13 (.cond (.t (.l (.l (.l (.l .h))))) .skip b26_30))
theorem w26_31 (k : Kn) (s : St) (R : Ex → St → Prop) : Wp b26_31 k s R = Wp (.seq b26_13 (.cond (.t (.l (.l (.l (.l .h))))) .skip b26_30)) k s R := rfl
noncomputable def b26_32 : CC := (.seq (.reg [⟨(some (.r .h)), .q (.mv (.c (.i .i64 5))), none⟩]) .ret)
theorem w26_32 (k : Kn) (s : St) (R : Ex → St → Prop) : Wp b26_32 k s R = Wp (.seq (.reg [⟨(some (.r .h)), .q (.mv (.c (.i .i64 5))), none⟩]) .ret) k s R := rfl
noncomputable def b26_33 : CC := (.reg [⟨(some (.l (.l (.r (.r .h))))), .q (.bi .eql (.t (.l (.l .h))) (.c (.i .i64 18))), none⟩, ⟨(some (.r (.r (.l (.r .h))))), .q (.mv (.t (.l (.l (.r (.r .h)))))), none⟩])
theorem w26_33 (k : Kn) (s : St) (R : Ex → St → Prop) : Wp b26_33 k s R = Wp (.reg [⟨(some (.l (.l (.r (.r .h))))), .q (.bi .eql (.t (.l (.l .h))) (.c (.i .i64 18))), none⟩, ⟨(some (.r (.r (.l (.r .h))))), .q (.mv (.t (.l (.l (.r (.r .h)))))), none⟩]) k s R := rfl
noncomputable def b26_34 : CC := (.reg [⟨(some (.r (.l (.r (.r .h))))), .q (.bi .eql (.t (.l (.l .h))) (.c (.i .i64 19))), none⟩, ⟨(some (.r (.r (.l (.r .h))))), .q (.mv (.t (.r (.l (.r (.r .h)))))), none⟩])
theorem w26_34 (k : Kn) (s : St) (R : Ex → St → Prop) : Wp b26_34 k s R = Wp (.reg [⟨(some (.r (.l (.r (.r .h))))), .q (.bi .eql (.t (.l (.l .h))) (.c (.i .i64 19))), none⟩, ⟨(some (.r (.r (.l (.r .h))))), .q (.mv (.t (.r (.l (.r (.r .h)))))), none⟩]) k s R := rfl
noncomputable def b26_35 : CC := (.reg [⟨(some (.l (.r (.r (.r .h))))), .q (.bi .eql (.t (.l (.l .h))) (.c (.i .i64 20))), none⟩, ⟨(some (.r (.r (.l (.r .h))))), .q (.mv (.t (.l (.r (.r (.r .h)))))), none⟩])
theorem w26_35 (k : Kn) (s : St) (R : Ex → St → Prop) : Wp b26_35 k s R = Wp (.reg [⟨(some (.l (.r (.r (.r .h))))), .q (.bi .eql (.t (.l (.l .h))) (.c (.i .i64 20))), none⟩, ⟨(some (.r (.r (.l (.r .h))))), .q (.mv (.t (.l (.r (.r (.r .h)))))), none⟩]) k s R := rfl
noncomputable def b26_36 : CC := (.reg [⟨(some (.r (.r (.r (.r .h))))), .q (.bi .eql (.t (.l (.l .h))) (.c (.i .i64 21))), none⟩, ⟨(some (.r (.r (.l (.r .h))))), .q (.mv (.t (.r (.r (.r (.r .h)))))), none⟩])
theorem w26_36 (k : Kn) (s : St) (R : Ex → St → Prop) : Wp b26_36 k s R = Wp (.reg [⟨(some (.r (.r (.r (.r .h))))), .q (.bi .eql (.t (.l (.l .h))) (.c (.i .i64 21))), none⟩, ⟨(some (.r (.r (.l (.r .h))))), .q (.mv (.t (.r (.r (.r (.r .h)))))), none⟩]) k s R := rfl
noncomputable def b26_37 : CC := (.reg [⟨(some (.l (.l (.l (.l (.l .h)))))), .q (.bi .eql (.t (.l (.l .h))) (.c (.i .i64 22))), none⟩, ⟨(some (.r (.r (.l (.r .h))))), .q (.mv (.t (.l (.l (.l (.l (.l .h))))))), none⟩])
theorem w26_37 (k : Kn) (s : St) (R : Ex → St → Prop) : Wp b26_37 k s R = Wp (.reg [⟨(some (.l (.l (.l (.l (.l .h)))))), .q (.bi .eql (.t (.l (.l .h))) (.c (.i .i64 22))), none⟩, ⟨(some (.r (.r (.l (.r .h))))), .q (.mv (.t (.l (.l (.l (.l (.l .h))))))), none⟩]) k s R := rfl
noncomputable def b26_38 : CC := (.reg [⟨(some (.r (.l (.l (.l (.l .h)))))), .q (.bi .eql (.t (.l (.l .h))) (.c (.i .i64 26))), none⟩, ⟨(some (.r (.r (.l (.r .h))))), .q (.mv (.t (.r (.l (.l (.l (.l .h))))))), none⟩])
theorem w26_38 (k : Kn) (s : St) (R : Ex → St → Prop) : Wp b26_38 k s R = Wp (.reg [⟨(some (.r (.l (.l (.l (.l .h)))))), .q (.bi .eql (.t (.l (.l .h))) (.c (.i .i64 26))), none⟩, ⟨(some (.r (.r (.l (.r .h))))), .q (.mv (.t (.r (.l (.l (.l (.l .h))))))), none⟩]) k s R := rfl
noncomputable def b26_39 : CC := (.reg [⟨(some (.l (.r (.l (.l (.l .h)))))), .q (.bi .eql (.t (.l (.l .h))) (.c (.i .i64 27))), none⟩, ⟨(some (.r (.r (.l (.r .h))))), .q (.mv (.t (.l (.r (.l (.l (.l .h))))))), none⟩])
theorem w26_39 (k : Kn) (s : St) (R : Ex → St → Prop) : Wp b26_39 k s R = Wp (.reg [⟨(some (.l (.r (.l (.l (.l .h)))))), .q (.bi .eql (.t (.l (.l .h))) (.c (.i .i64 27))), none⟩, ⟨(some (.r (.r (.l (.r .h))))), .q (.mv (.t (.l (.r (.l (.l (.l .h))))))), none⟩]) k s R := rfl
noncomputable def b26_40 : CC := (.reg [⟨(some (.r (.r (.l (.l (.l .h)))))), .q (.bi .eql (.t (.l (.l .h))) (.c (.i .i64 28))), none⟩, ⟨(some (.r (.r (.l (.r .h))))), .q (.mv (.t (.r (.r (.l (.l (.l .h))))))), none⟩])
theorem w26_40 (k : Kn) (s : St) (R : Ex → St → Prop) : Wp b26_40 k s R = Wp (.reg [⟨(some (.r (.r (.l (.l (.l .h)))))), .q (.bi .eql (.t (.l (.l .h))) (.c (.i .i64 28))), none⟩, ⟨(some (.r (.r (.l (.r .h))))), .q (.mv (.t (.r (.r (.l (.l (.l .h))))))), none⟩]) k s R := rfl
noncomputable def b26_41 : CC := (.seq b26_39 (.cond (.t (.r (.r (.l (.r .h))))) .skip b26_40))
theorem w26_41 (k : Kn) (s : St) (R : Ex → St → Prop) : Wp b26_41 k s R = Wp (.seq b26_39 (.cond (.t (.r (.r (.l (.r .h))))) .skip b26_40)) k s R := rfl
noncomputable def b26_42 : CC := (.seq b26_38 (.cond (.t (.r (.r (.l (.r .h))))) .skip b26_41))
theorem w26_42 (k : Kn) (s : St) (R : Ex → St → Prop) : Wp b26_42 k s R = Wp (.seq b26_38 (.cond (.t (.r (.r (.l (.r .h))))) .skip b26_41)) k s R := rfl
noncomputable def b26_43 : CC := (.seq b26_37 (.cond (.t (.r (.r (.l (.r .h))))) .skip b26_42))
theorem w26_43 (k : Kn) (s : St) (R : Ex → St → Prop) : Wp b26_43 k s R = Wp (.seq b26_37 (.cond (.t (.r (.r (.l (.r .h))))) .skip b26_42)) k s R := rfl
noncomputable def b26_44 : CC := (.seq b26_36 (.cond (.t (.r (.r (.l (.r .h))))) .skip b26_43))
theorem w26_44 (k : Kn) (s : St) (R : Ex → St → Prop) : Wp b26_44 k s R = Wp (.seq b26_36 (.cond (.t (.r (.r (.l (.r .h))))) .skip b26_43)) k s R := rfl
noncomputable def b26_45 : CC := (.seq b26_35 (.cond (.t (.r (.r (.l (.r .h))))) .skip b26_44))
theorem w26_45 (k : Kn) (s : St) (R : Ex → St → Prop) : Wp b26_45 k s R = Wp (.seq b26_35 (.cond (.t (.r (.r (.l (.r .h))))) .skip b26_44)) k s R := rfl
noncomputable def b26_46 : CC := (.seq b26_34 (.cond (.t (.r (.r (.l (.r .h))))) .skip b26_45))
theorem w26_46 (k : Kn) (s : St) (R : Ex → St → Prop) : Wp b26_46 k s R = Wp (.seq b26_34 (.cond (.t (.r (.r (.l (.r .h))))) .skip b26_45)) k s R := rfl
noncomputable def b26_47 : CC := (.seq b26_33 (.cond (.t (.r (.r (.l (.r .h))))) .skip b26_46))
theorem w26_47 (k : Kn) (s : St) (R : Ex → St → Prop) : Wp b26_47 k s R = Wp (.seq b26_33 (.cond (.t (.r (.r (.l (.r .h))))) .skip b26_46)) k s R := rfl
noncomputable def b26_48 : CC := (.seq (.reg [⟨(some (.r .h)), .q (.mv (.c (.i .i64 6))), none⟩]) .ret)
theorem w26_48 (k : Kn) (s : St) (R : Ex → St → Prop) : Wp b26_48 k s R = Wp (.seq (.reg [⟨(some (.r .h)), .q (.mv (.c (.i .i64 6))), none⟩]) .ret) k s R := rfl
noncomputable def b26_49 : CC := (.seq b26_47 (.cond (.t (.r (.r (.l (.r .h))))) b26_48 .skip))
theorem w26_49 (k : Kn) (s : St) (R : Ex → St → Prop) : Wp b26_49 k s R = Wp (.seq b26_47 (.cond (.t (.r (.r (.l (.r .h))))) b26_48 .skip)) k s R := rfl
noncomputable def b26_50 : CC := (.seq b26_31 (.cond (.t (.l (.l (.l (.l .h))))) b26_32 b26_49))
theorem w26_50 (k : Kn) (s : St) (R : Ex → St → Prop) : Wp b26_50 k s R = Wp (.seq b26_31 (.cond (.t (.l (.l (.l (.l .h))))) b26_32 b26_49)) k s R := rfl
noncomputable def b26_51 : CC := (.cond (.t (.l (.r (.l .h)))) b26_10 (.seq b26_11 (.cond (.t (.l (.r (.r .h)))) b26_12 b26_50)))
theorem w26_51 (k : Kn) (s : St) (R : Ex → St → Prop) : Wp b26_51 k s R = Wp (.cond (.t (.l (.r (.l .h)))) b26_10 (.seq b26_11 (.cond (.t (.l (.r (.r .h)))) b26_12 b26_50))) k s R := rfl
noncomputable def b26_52 : CC := (.cond (.t (.l (.l (.l .h)))) b26_5 (.seq (.seq b26_6 b26_9) b26_51))
theorem w26_52 (k : Kn) (s : St) (R : Ex → St → Prop) : Wp b26_52 k s R = Wp (.cond (.t (.l (.l (.l .h)))) b26_5 (.seq (.seq b26_6 b26_9) b26_51)) k s R := rfl
noncomputable def b26_53 : CC := (.seq (.seq b26_1 (.cond (.t (.r (.l .h))) .skip b26_2)) (.cond (.t (.r (.l .h))) b26_3 (.seq b26_4 b26_52)))
theorem w26_53 (k : Kn) (s : St) (R : Ex → St → Prop) : Wp b26_53 k s R = Wp (.seq (.seq b26_1 (.cond (.t (.r (.l .h))) .skip b26_2)) (.cond (.t (.r (.l .h))) b26_3 (.seq b26_4 b26_52))) k s R := rfl
noncomputable def b26_54 : CC := (.seq (.reg [⟨(some (.l (.l .h))), .q (.mv (.t .h)), none⟩]) (.block 0 b26_53))
theorem w26_54 (k : Kn) (s : St) (R : Ex → St → Prop) : Wp b26_54 k s R = Wp (.seq (.reg [⟨(some (.l (.l .h))), .q (.mv (.t .h)), none⟩]) (.block 0 b26_53)) k s R := rfl
noncomputable def b26_55 : CC := (.seq (.reg [⟨(some (.r .h)), .q (.mv (.c (.i .i64 0))), none⟩]) .ret)
theorem w26_55 (k : Kn) (s : St) (R : Ex → St → Prop) : Wp b26_55 k s R = Wp (.seq (.reg [⟨(some (.r .h)), .q (.mv (.c (.i .i64 0))), none⟩]) .ret) k s R := rfl
noncomputable def b26_56 : CC := (.seq (.reg [⟨(some (.r .h)), .q (.mv (.c (.i .i64 0))), none⟩]) (.seq b26_54 b26_55))
theorem w26_56 (k : Kn) (s : St) (R : Ex → St → Prop) : Wp b26_56 k s R = Wp (.seq (.reg [⟨(some (.r .h)), .q (.mv (.c (.i .i64 0))), none⟩]) (.seq b26_54 b26_55)) k s R := rfl
noncomputable def c26 : CF := .mk 6 [.t (.r .h)] b26_56
theorem e26 (v0 : V) : argTr 6 [v0] = (.n (.n (.n (.n (.n (.n .e none .e) none (.n .e none .e)) none (.n (.n .e none .e) none (.n .e none .e))) none (.n (.n (.n .e none .e) none (.n .e none .e)) none (.n (.n .e none .e) none (.n .e none .e)))) none (.n (.n (.n (.n .e none .e) none (.n .e none .e)) none (.n (.n .e none .e) none (.n .e none .e))) none (.n (.n (.n .e none .e) none (.n .e none .e)) none (.n (.n .e none .e) none (.n .e none .e))))) (some v0) (.n (.n (.n (.n (.n .e none .e) none (.n .e none .e)) none (.n (.n .e none .e) none (.n .e none .e))) none (.n (.n (.n .e none .e) none (.n .e none .e)) none (.n (.n .e none .e) none (.n .e none .e)))) none (.n (.n (.n (.n .e none .e) none (.n .e none .e)) none (.n (.n .e none .e) none (.n .e none .e))) none (.n (.n (.n .e none .e) none (.n .e none .e)) none (.n (.n .e none .e) none (.n .e none .e)))))) := rfl

theorem t25 (Φ : Nat → Option CF) (h : Φ 25 = some c25) (op : Int) (ct : Nat) : To Φ 25 [.i .i64 op] ct (.i .i64 (formI op)) := by
  refine to_walk h ?_
  simp only [wp_seq, seqQ_nrm, wp_reg, wp_block, wo_nil, xo_q, putO, v_mv, v_bi, bi_eql, ev_t, ev_c, Tr.setP_h, Tr.setP_l, Tr.setP_r, getT_h, getT_l, getT_r, e25, w25_1, w25_13, w25_15, w25_18, w25_20, w25_28]
  repeat' first | (refine wp_cond (by simp only [ev_t, getT_h, getT_l, getT_r]; rfl) (fun h => ?_) (fun h => ?_) <;> simp only [wp_seq, seqQ_nrm, seqQ_ret, seqQ_ext, wp_reg, wp_ret, wp_skip, wp_exit, wp_block, blockQ_nrm, blockQ_ret, blockQ_ext, wo_nil, xo_q, wp_condT, putO, v_mv, v_bi, bi_geq, bi_eql, ev_t, ev_c, Tr.setP_h, Tr.setP_l, Tr.setP_r, getT_h, getT_l, getT_r, Nat.reduceEqDiff, endQ_ret, endO, resV_nil', resV_t, consO_some, oneV_one, if_true, if_false, reduceCtorEq, w25_2, w25_3, w25_4, w25_5, w25_6, w25_7, w25_8, w25_9, w25_10, w25_11, w25_12, w25_14, w25_16, w25_17, w25_19, w25_21, w25_22, w25_23, w25_24, w25_25, w25_26, w25_27, h]) | (refine wo_g (by simp only [getT_h, getT_l, getT_r]; rfl) (fun h => ?_) (fun h => ?_) <;> simp only [wp_seq, seqQ_nrm, seqQ_ret, wp_reg, wp_ret, wp_skip, blockQ_nrm, blockQ_ret, wo_nil, xo_q, wo_gT, wo_gF, wo_gU, wp_condT, wp_condF, putO, setT_some, v_mv, v_pk, pkV_T, pkV_F, v_bi, bi_leq, bi_geq, ev_t, ev_c, Tr.setP_h, Tr.setP_l, Tr.setP_r, getT_h, getT_l, getT_r, endQ_ret, endO, resV_nil', resV_t, consO_some, oneV_one, Bool.not_true, Bool.not_false, w25_23, w25_24, w25_25, w25_27, h])
  all_goals (simp only [decide_eq_true_eq, decide_eq_false_iff_not, Bool.not_true, Bool.not_false] at *; congr 1; unfold formI; repeat' split)
  all_goals first | rfl | omega
theorem t26 (Φ : Nat → Option CF) (h : Φ 26 = some c26) (op : Int) (ct : Nat) : To Φ 26 [.i .i64 op] ct (.i .i64 (formI op)) := by
  refine to_walk h ?_
  simp only [wp_seq, seqQ_nrm, wp_reg, wp_block, wo_nil, xo_q, putO, v_mv, v_bi, bi_eql, ev_t, ev_c, Tr.setP_h, Tr.setP_l, Tr.setP_r, getT_h, getT_l, getT_r, e26, w26_1, w26_53, w26_54, w26_56]
  repeat' first | (refine wp_cond (by simp only [ev_t, getT_h, getT_l, getT_r]; rfl) (fun h => ?_) (fun h => ?_) <;> simp only [wp_seq, seqQ_nrm, seqQ_ret, wp_reg, wp_ret, wp_skip, blockQ_nrm, blockQ_ret, wo_nil, xo_q, wp_condT, putO, v_mv, v_bi, bi_eql, ev_t, ev_c, Tr.setP_h, Tr.setP_l, Tr.setP_r, getT_h, getT_l, getT_r, endQ_ret, endO, resV_nil', resV_t, consO_some, oneV_one, w26_2, w26_3, w26_4, w26_5, w26_6, w26_7, w26_8, w26_9, w26_10, w26_11, w26_12, w26_13, w26_14, w26_15, w26_16, w26_17, w26_18, w26_19, w26_20, w26_21, w26_22, w26_23, w26_24, w26_25, w26_26, w26_27, w26_28, w26_29, w26_30, w26_31, w26_32, w26_33, w26_34, w26_35, w26_36, w26_37, w26_38, w26_39, w26_40, w26_41, w26_42, w26_43, w26_44, w26_45, w26_46, w26_47, w26_48, w26_49, w26_50, w26_51, w26_52, w26_55, h]) | (refine wo_g (by simp only [wp_dreg, wd_e1, befB_nil, befB_cons, Nat.reducePow, Nat.reduceDiv, Nat.reduceMod, putDE, roFree_nil, roFree_cons, get_ne, Tr.get_e, isNone_none', dregQ_eq, mergeAll_nil, wd_nil, wd_q, putD_v, putD_r, oV_some, dq_mv, dq_ci, dq_bi0, biQ_i, dq_ex, dq_ld0, ldQ_p, ldR_some, dq_iaS, v_iaS, lnSl, lnL_l, lnL_u, lnL_l0, lnL_ue, wp_seq, seqQ_nrm, seqQ_ret, seqQ_ext, wp_reg, wp_ret, wp_skip, wp_exit, wp_block, blockQ_nrm, blockQ_ret, blockQ_ext, loopQ_nrm, loopQ_ret, loopQ_ext, wo_nil, xo_q, xo_a, xo_e, xo_e0, wo_gT, wo_gF, wo_gU, wp_condT, wp_condF, putO, putA, putE, putE0, setT_some, setT_none, v_mv, v_pk, pkV_T, pkV_F, v_bi, bi_sub, bi_lss, bi_gtr, bi_leq, bi_geq, bi_eql, bi_neq, v_un, un_not, v_ln, lnS, v_ixS, v_ld1, v_ldn, ld1_p, ldn_p, load1_same, v_fa, e_st_eq, er_some, xo_call, callC_orc, ev_t, ev_c, evs_nil, evs_cons, Tr.setP_h, Tr.setP_l, Tr.setP_r, getT_h, getT_n, getT_l, getT_r, Nat.reduceBEq, Nat.reduceEqDiff, Int.reduceEq, Int.reduceLT, Int.reduceLE, cond_true, cond_false, List.getElem?_cons_zero, List.getElem?_cons_succ, Option.getD_some, endQ_nrm, endQ_ret, endO, resV_nil', resV_t, consO_some, oneV_one, oneV_two, Bool.not_true, Bool.not_false, Bool.false_eq_true, Bool.true_eq_false, decide_true, decide_false, if_true, if_false, ite_true, ite_false, reduceIte, reduceCtorEq, pureO_of, ofO_some, flatten_b, flatten_i, flatten_s, flatten_p, flatten_p0, flatten_l, flatten_u, flatten_l0, flatten_m, flatten_m0, flatten_f, flatten_f0, flatten_g, allOne_nil, allOne_cons, isOne_b, isOne_i, isOne_s, isOne_p, isOne_p0, isOne_l, isOne_u, isOne_l0, isOne_m, isOne_f, isOne_f0, Bool.and_true, Bool.true_and, evP_nil, evP_cons, fillV_nil, fillV_cons, over_nil, over_cons, List.set_cons_zero, List.set_cons_succ, List.length_cons, List.length_nil, Nat.reduceAdd, Nat.reduceLeDiff, Nat.zero_add, and_self, and_true, true_and, v_bld, replL_over, v_fl1, v_fln, v_ex, v_ci, andO_some, eqAt_some, eqAll_nil, eqAll_cons, negO_F, negO_T, v_eq, eqV_agg, eqV_int, eq1_int, eq1_bool, xo_cv, callV_f, v_mkf, resV_cn, resV_c1, List.nil_append, List.append_nil, load1_ne, loadN_ne, loadN_same, storeN_same, storeN_ne', mapS_some, a_al_eq, a_bx_eq, List.drop_zero, List.take_succ_cons, List.take_zero, List.take_nil, List.drop_succ_cons, Option.map_some, v_ixA1, ixA1_g, ne_add0, ne_add1, ne_add, Nat.add_assoc, x_app_eq, v_slL, v_bs, a_bsl_w, evPs_nil, evPs_cons, partsR_nil, partsR_cons, bslO_some, Option.isSome_some, Option.map_none, v_slS, lnSs, bi_seq, bi_sne, eq1_str, eqV_str, decide_eq_true_eq, or_self, or_true, or_false, true_or, false_or, and_false, false_and]; rfl) (fun h => ?_) (fun h => ?_) <;> simp only [wp_dreg, wd_e1, befB_nil, befB_cons, Nat.reducePow, Nat.reduceDiv, Nat.reduceMod, putDE, roFree_nil, roFree_cons, get_ne, Tr.get_e, isNone_none', dregQ_eq, mergeAll_nil, wd_nil, wd_q, putD_v, putD_r, oV_some, dq_mv, dq_ci, dq_bi0, biQ_i, dq_ex, dq_ld0, ldQ_p, ldR_some, dq_iaS, v_iaS, lnSl, lnL_l, lnL_u, lnL_l0, lnL_ue, wp_seq, seqQ_nrm, seqQ_ret, seqQ_ext, wp_reg, wp_ret, wp_skip, wp_exit, wp_block, blockQ_nrm, blockQ_ret, blockQ_ext, loopQ_nrm, loopQ_ret, loopQ_ext, wo_nil, xo_q, xo_a, xo_e, xo_e0, wo_gT, wo_gF, wo_gU, wp_condT, wp_condF, putO, putA, putE, putE0, setT_some, setT_none, v_mv, v_pk, pkV_T, pkV_F, v_bi, bi_sub, bi_lss, bi_gtr, bi_leq, bi_geq, bi_eql, bi_neq, v_un, un_not, v_ln, lnS, v_ixS, v_ld1, v_ldn, ld1_p, ldn_p, load1_same, v_fa, e_st_eq, er_some, xo_call, callC_orc, ev_t, ev_c, evs_nil, evs_cons, Tr.setP_h, Tr.setP_l, Tr.setP_r, getT_h, getT_n, getT_l, getT_r, Nat.reduceBEq, Nat.reduceEqDiff, Int.reduceEq, Int.reduceLT, Int.reduceLE, cond_true, cond_false, List.getElem?_cons_zero, List.getElem?_cons_succ, Option.getD_some, endQ_nrm, endQ_ret, endO, resV_nil', resV_t, consO_some, oneV_one, oneV_two, Bool.not_true, Bool.not_false, Bool.false_eq_true, Bool.true_eq_false, decide_true, decide_false, if_true, if_false, ite_true, ite_false, reduceIte, reduceCtorEq, pureO_of, ofO_some, flatten_b, flatten_i, flatten_s, flatten_p, flatten_p0, flatten_l, flatten_u, flatten_l0, flatten_m, flatten_m0, flatten_f, flatten_f0, flatten_g, allOne_nil, allOne_cons, isOne_b, isOne_i, isOne_s, isOne_p, isOne_p0, isOne_l, isOne_u, isOne_l0, isOne_m, isOne_f, isOne_f0, Bool.and_true, Bool.true_and, evP_nil, evP_cons, fillV_nil, fillV_cons, over_nil, over_cons, List.set_cons_zero, List.set_cons_succ, List.length_cons, List.length_nil, Nat.reduceAdd, Nat.reduceLeDiff, Nat.zero_add, and_self, and_true, true_and, v_bld, replL_over, v_fl1, v_fln, v_ex, v_ci, andO_some, eqAt_some, eqAll_nil, eqAll_cons, negO_F, negO_T, v_eq, eqV_agg, eqV_int, eq1_int, eq1_bool, xo_cv, callV_f, v_mkf, resV_cn, resV_c1, List.nil_append, List.append_nil, load1_ne, loadN_ne, loadN_same, storeN_same, storeN_ne', mapS_some, a_al_eq, a_bx_eq, List.drop_zero, List.take_succ_cons, List.take_zero, List.take_nil, List.drop_succ_cons, Option.map_some, v_ixA1, ixA1_g, ne_add0, ne_add1, ne_add, Nat.add_assoc, x_app_eq, v_slL, v_bs, a_bsl_w, evPs_nil, evPs_cons, partsR_nil, partsR_cons, bslO_some, Option.isSome_some, Option.map_none, v_slS, lnSs, bi_seq, bi_sne, eq1_str, eqV_str, decide_eq_true_eq, or_self, or_true, or_false, true_or, false_or, and_false, false_and, e26, w26_1, w26_2, w26_3, w26_4, w26_5, w26_6, w26_7, w26_8, w26_9, w26_10, w26_11, w26_12, w26_13, w26_14, w26_15, w26_16, w26_17, w26_18, w26_19, w26_20, w26_21, w26_22, w26_23, w26_24, w26_25, w26_26, w26_27, w26_28, w26_29, w26_30, w26_31, w26_32, w26_33, w26_34, w26_35, w26_36, w26_37, w26_38, w26_39, w26_40, w26_41, w26_42, w26_43, w26_44, w26_45, w26_46, w26_47, w26_48, w26_49, w26_50, w26_51, w26_52, w26_53, w26_54, w26_55, w26_56, h])
  all_goals (simp only [decide_eq_true_eq, decide_eq_false_iff_not] at *; congr 1; unfold formI; repeat' split)
  all_goals first | rfl | omega
theorem names53_bd : bds (fun _ => False) names53 := by unfold names53; simp [bds, bd]
theorem nameV_bd (op : Int) : bd (fun _ => False) (nameV op) := by
  unfold nameV
  split
  · cases hn : names53[op.toNat]? with
    | none => trivial
    | some x => exact (bds_iff _ _).1 names53_bd x (List.mem_of_getElem? hn)
  · trivial
theorem t10' (Φ : Nat → Option CF) (h : Φ 10 = some c10) (h37 : Φ 37 = some (.orc (pureO h37))) (op d a b i : Int) (ct : Nat) :
    To Φ 10 [.g [.i .i64 op, .i .i64 d, .i .i64 a, .i .i64 b, .i .i64 i]] ct (.t [.i .u32 (w10 op d a b i), .i .i64 (er10 op d a b i)]) := by
  have := t10 Φ h h37 op d a b i ct
  unfold w10 er10
  by_cases hm : mayI op d a b i = true
  · simp only [hm, if_true] at this ⊢; exact this
  · simp only [hm] at this ⊢; exact this
section
variable {P : Program} (hm : P.follows .mixedOrders = true) {Φ : Nat → Option CF} (hΦ : PhiOk P Φ)
include hm hΦ
theorem o25 (h : Φ 25 = some c25) : OrcOk P 25 (pureO h25) := pure_of hm hΦ (by
  intro args v ct hv hct; unfold h25 at hv; split at hv
  · obtain rfl := Option.some.inj hv; exact ⟨trivial, t25 Φ h _ _⟩
  · cases hv)
theorem o26 (h : Φ 26 = some c26) : OrcOk P 26 (pureO h25) := pure_of hm hΦ (by
  intro args v ct hv hct; unfold h25 at hv; split at hv
  · obtain rfl := Option.some.inj hv; exact ⟨trivial, t26 Φ h _ _⟩
  · cases hv)
theorem o40 (h : Φ 40 = some c40) : OrcOk P 40 (pureO h40) := pure_of hm hΦ (by
  intro args v ct hv hct; unfold h40 at hv; split at hv
  · obtain rfl := Option.some.inj hv; exact ⟨⟨trivial, trivial, trivial, trivial, trivial⟩, t40 Φ h _ _⟩
  · cases hv)
theorem o38 (h : Φ 38 = some c38) : OrcOk P 38 (pureO h38) := pure_of hm hΦ (by
  intro args v ct hv hct; unfold h38 at hv; split at hv
  · obtain rfl := Option.some.inj hv; exact ⟨⟨trivial, trivial, trivial, trivial, trivial⟩, t38 Φ h _ _⟩
  · cases hv)
theorem o57 (h : Φ 57 = some c57) : OrcOk P 57 (pureO h57) := pure_of hm hΦ (by
  intro args v ct hv hct; unfold h57 at hv; split at hv
  · obtain rfl := Option.some.inj hv; exact ⟨trivial, t57 Φ h _ _⟩
  · cases hv)
theorem o54 (h : Φ 54 = some c54) : OrcOk P 54 (pureO h54) := pure_of hm hΦ (by
  intro args v ct hv hct; unfold h54 at hv; split at hv
  · obtain rfl := Option.some.inj hv; exact ⟨trivial, t54 Φ h _ _⟩
  · cases hv)
theorem o39 (h : Φ 39 = some c39) : OrcOk P 39 (pureO h39) := pure_of hm hΦ (by
  intro args v ct hv hct; unfold h39 at hv; split at hv
  · obtain rfl := Option.some.inj hv; exact ⟨trivial, t39 Φ h _ _ _⟩
  · cases hv)
theorem o53 (h : Φ 53 = some c53) : OrcOk P 53 (pureO h53) := pure_of hm hΦ (by
  intro args v ct hv hct; unfold h53 at hv; split at hv
  · obtain rfl := Option.some.inj hv; exact ⟨names53_bd, t53 Φ h _⟩
  · cases hv)
theorem o24 (h : Φ 24 = some c24) (h53 : Φ 53 = some (.orc (pureO h53))) : OrcOk P 24 (pureO h24) := pure_of hm hΦ (by
  intro args v ct hv hct; unfold h24 at hv; split at hv
  · obtain rfl := Option.some.inj hv; exact ⟨nameV_bd _, t24 Φ h h53 _ _⟩
  · cases hv)
theorem o12 (h : Φ 12 = some c12) (h26 : Φ 26 = some (.orc (pureO h25))) (h38 : Φ 38 = some (.orc (pureO h38))) (h39 : Φ 39 = some (.orc (pureO h39))) : OrcOk P 12 (pureO h12) := pure_of hm hΦ (by
  intro args v ct hv hct; unfold h12 at hv; split at hv
  · obtain rfl := Option.some.inj hv; exact ⟨trivial, t12 Φ h h26 h38 h39 _ _ _ _ _ _⟩
  · cases hv)
theorem o37 (h : Φ 37 = some c37) (h25 : Φ 25 = some (.orc (pureO h25))) (h40 : Φ 40 = some (.orc (pureO h40))) (h54 : Φ 54 = some (.orc (pureO h54))) (h57 : Φ 57 = some (.orc (pureO h57))) (h24 : Φ 24 = some (.orc (pureO h24))) : OrcOk P 37 (pureO h37) := pure_of hm hΦ (by
  intro args v ct hv hct; unfold h37 at hv; split at hv
  · obtain rfl := Option.some.inj hv; exact ⟨trivial, t37 Φ h h25 h40 h54 h57 h24 _ _ _ _ _ _⟩
  · cases hv)
theorem o10 (h : Φ 10 = some c10) (h37 : Φ 37 = some (.orc (pureO h37))) : OrcOk P 10 (pureO h10) := pure_of hm hΦ (by
  intro args v ct hv hct; unfold h10 at hv; split at hv
  · obtain rfl := Option.some.inj hv; exact ⟨⟨trivial, trivial, trivial⟩, t10' Φ h h37 _ _ _ _ _ _⟩
  · cases hv)
theorem o13 (h : Φ 13 = some c13) (h26 : Φ 26 = some (.orc (pureO h25))) : OrcOk P 13 (pureO h13) := pure_of hm hΦ (by
  intro args v ct hv hct; unfold h13 at hv; split at hv
  · split at hv
    · obtain rfl := Option.some.inj hv; exact ⟨trivial, t13 Φ h h26 _ _ _ _ _ (by assumption) _⟩
    · cases hv
  · cases hv)
theorem o31 (h : Φ 31 = some c31) (h25 : Φ 25 = some (.orc (pureO h25))) (h40 : Φ 40 = some (.orc (pureO h40))) (h54 : Φ 54 = some (.orc (pureO h54))) (h10 : Φ 10 = some (.orc (pureO h10))) : OrcOk P 31 (pureO h31) := pure_of hm hΦ (by
  intro args v ct hv hct; unfold h31 at hv; split at hv
  · split at hv
    · obtain rfl := Option.some.inj hv
      refine ⟨?_, t31 Φ h h25 h40 h54 h10 _ (by assumption) _⟩
      rw [ofV_eq]
      exact ⟨⟨trivial, trivial, trivial, trivial, trivial, trivial⟩, trivial, trivial⟩
    · cases hv
  · cases hv)
theorem o32 (h : Φ 32 = some c32) (h26 : Φ 26 = some (.orc (pureO h25))) (h38 : Φ 38 = some (.orc (pureO h38))) (h12 : Φ 12 = some (.orc (pureO h12))) (h13 : Φ 13 = some (.orc (pureO h13))) : OrcOk P 32 (pureO h32) := pure_of hm hΦ (by
  intro args v ct hv hct; unfold h32 at hv; split at hv
  · split at hv
    · obtain rfl := Option.some.inj hv
      refine ⟨?_, t32 Φ h h26 h38 h12 h13 _ (by assumption) _⟩
      rw [refV_eq _ (by assumption), ofV_eq]
      exact ⟨⟨trivial, trivial, trivial, trivial, trivial, trivial⟩, trivial, trivial⟩
    · cases hv
  · cases hv)
theorem o11 (h : Φ 11 = some c11) : OrcOk P 11 (pureO h11) := pure_of hm hΦ (by
  intro args v ct hv hct; unfold h11 at hv; split at hv
  · obtain rfl := Option.some.inj hv; exact ⟨trivial, t11 Φ h _ _⟩
  · cases hv)
end
end Go.Proofs.YtffpeieapadocaaGreatDoor.Ev

