/- What is proved here: pieces of the evaluator's soundness: if the evaluator comes to a value, the model's run comes to it, for every world and tape; no conditions beyond the hypotheses of each theorem. -/
import Derived.Test.YtffpeieapadocaaGreatDoorEv4
set_option linter.unusedSimpArgs false
set_option linter.unusedVariables false
set_option maxRecDepth 10000
set_option maxHeartbeats 8000000
namespace Go.Proofs.YtffpeieapadocaaGreatDoor.Ev
open Go
noncomputable def b37_1 : CC := (.reg [⟨(some (.l .h)), .a (.bx 26 5 (.t .h)), none⟩, ⟨(some (.r .h)), .q (.mv (.c (.b false))), none⟩])
theorem w37_1 (k : Kn) (s : St) (R : Ex → St → Prop) : Wp b37_1 k s R = Wp (.reg [⟨(some (.l .h)), .a (.bx 26 5 (.t .h)), none⟩, ⟨(some (.r .h)), .q (.mv (.c (.b false))), none⟩]) k s R := rfl
noncomputable def b37_2 : CC := (.reg [⟨(some (.r (.l (.l .h)))), .q (.fa 0 (.t (.l .h))), none⟩, ⟨(some (.l (.r (.l .h)))), .q (.ld1 (.t (.r (.l (.l .h))))), none⟩, ⟨(some (.r (.r (.l .h)))), .e (.call 25 [(.t (.l (.r (.l .h))))]), none⟩, ⟨(some (.l (.l (.r .h)))), .e (.call 40 [(.t (.r (.r (.l .h))))]), none⟩, ⟨(some (.l (.l .h))), .a (.al 80 [(.b false), (.b false), (.b false), (.b false)]), none⟩, ⟨none, .e (.st 4 (.t (.l (.l .h))) (.t (.l (.l (.r .h))))), none⟩])
theorem w37_2 (k : Kn) (s : St) (R : Ex → St → Prop) : Wp b37_2 k s R = Wp (.reg [⟨(some (.r (.l (.l .h)))), .q (.fa 0 (.t (.l .h))), none⟩, ⟨(some (.l (.r (.l .h)))), .q (.ld1 (.t (.r (.l (.l .h))))), none⟩, ⟨(some (.r (.r (.l .h)))), .e (.call 25 [(.t (.l (.r (.l .h))))]), none⟩, ⟨(some (.l (.l (.r .h)))), .e (.call 40 [(.t (.r (.r (.l .h))))]), none⟩, ⟨(some (.l (.l .h))), .a (.al 80 [(.b false), (.b false), (.b false), (.b false)]), none⟩, ⟨none, .e (.st 4 (.t (.l (.l .h))) (.t (.l (.l (.r .h))))), none⟩]) k s R := rfl
noncomputable def b37_3 : CC := (.reg [⟨(some (.r (.l (.r .h)))), .q (.ldn 5 (.t (.l .h))), none⟩, ⟨(some (.r (.l .h))), .a (.al 26 [(.i .i64 0), (.i .i64 0), (.i .i64 0), (.i .i64 0), (.i .i64 0)]), none⟩, ⟨none, .e (.st 5 (.t (.r (.l .h))) (.t (.r (.l (.r .h))))), none⟩])
theorem w37_3 (k : Kn) (s : St) (R : Ex → St → Prop) : Wp b37_3 k s R = Wp (.reg [⟨(some (.r (.l (.r .h)))), .q (.ldn 5 (.t (.l .h))), none⟩, ⟨(some (.r (.l .h))), .a (.al 26 [(.i .i64 0), (.i .i64 0), (.i .i64 0), (.i .i64 0), (.i .i64 0)]), none⟩, ⟨none, .e (.st 5 (.t (.r (.l .h))) (.t (.r (.l (.r .h))))), none⟩]) k s R := rfl
noncomputable def b37_4 : CC := (.reg [⟨(some (.l (.r (.r .h)))), .q (.fa 0 (.t (.l (.l .h)))), none⟩, ⟨(some (.r (.r (.r .h)))), .q (.ld1 (.t (.l (.r (.r .h))))), none⟩])
theorem w37_4 (k : Kn) (s : St) (R : Ex → St → Prop) : Wp b37_4 k s R = Wp (.reg [⟨(some (.l (.r (.r .h)))), .q (.fa 0 (.t (.l (.l .h)))), none⟩, ⟨(some (.r (.r (.r .h)))), .q (.ld1 (.t (.l (.r (.r .h))))), none⟩]) k s R := rfl
noncomputable def b37_5 : CC := (.reg [⟨(some (.l (.l (.l (.l .h))))), .q (.fa 1 (.t (.r (.l .h)))), none⟩, ⟨none, .e (.st 1 (.t (.l (.l (.l (.l .h))))) (.c (.i .i64 0))), none⟩])
theorem w37_5 (k : Kn) (s : St) (R : Ex → St → Prop) : Wp b37_5 k s R = Wp (.reg [⟨(some (.l (.l (.l (.l .h))))), .q (.fa 1 (.t (.r (.l .h)))), none⟩, ⟨none, .e (.st 1 (.t (.l (.l (.l (.l .h))))) (.c (.i .i64 0))), none⟩]) k s R := rfl
noncomputable def b37_6 : CC := (.reg [⟨(some (.r (.l (.l (.l .h))))), .q (.fa 1 (.t (.l (.l .h)))), none⟩, ⟨(some (.l (.r (.l (.l .h))))), .q (.ld1 (.t (.r (.l (.l (.l .h)))))), none⟩])
theorem w37_6 (k : Kn) (s : St) (R : Ex → St → Prop) : Wp b37_6 k s R = Wp (.reg [⟨(some (.r (.l (.l (.l .h))))), .q (.fa 1 (.t (.l (.l .h)))), none⟩, ⟨(some (.l (.r (.l (.l .h))))), .q (.ld1 (.t (.r (.l (.l (.l .h)))))), none⟩]) k s R := rfl
noncomputable def b37_7 : CC := (.reg [⟨(some (.r (.r (.l (.l .h))))), .q (.fa 2 (.t (.r (.l .h)))), none⟩, ⟨none, .e (.st 1 (.t (.r (.r (.l (.l .h))))) (.c (.i .i64 0))), none⟩])
theorem w37_7 (k : Kn) (s : St) (R : Ex → St → Prop) : Wp b37_7 k s R = Wp (.reg [⟨(some (.r (.r (.l (.l .h))))), .q (.fa 2 (.t (.r (.l .h)))), none⟩, ⟨none, .e (.st 1 (.t (.r (.r (.l (.l .h))))) (.c (.i .i64 0))), none⟩]) k s R := rfl
noncomputable def b37_8 : CC := (.seq b37_6 (.cond (.t (.l (.r (.l (.l .h))))) b37_7 .skip))
theorem w37_8 (k : Kn) (s : St) (R : Ex → St → Prop) : Wp b37_8 k s R = Wp (.seq b37_6 (.cond (.t (.l (.r (.l (.l .h))))) b37_7 .skip)) k s R := rfl
noncomputable def b37_9 : CC := (.reg [⟨(some (.l (.l (.r (.l .h))))), .q (.fa 2 (.t (.l (.l .h)))), none⟩, ⟨(some (.r (.l (.r (.l .h))))), .q (.ld1 (.t (.l (.l (.r (.l .h)))))), none⟩])
theorem w37_9 (k : Kn) (s : St) (R : Ex → St → Prop) : Wp b37_9 k s R = Wp (.reg [⟨(some (.l (.l (.r (.l .h))))), .q (.fa 2 (.t (.l (.l .h)))), none⟩, ⟨(some (.r (.l (.r (.l .h))))), .q (.ld1 (.t (.l (.l (.r (.l .h)))))), none⟩]) k s R := rfl
noncomputable def b37_10 : CC := (.reg [⟨(some (.l (.r (.r (.l .h))))), .q (.fa 3 (.t (.r (.l .h)))), none⟩, ⟨none, .e (.st 1 (.t (.l (.r (.r (.l .h))))) (.c (.i .i64 0))), none⟩])
theorem w37_10 (k : Kn) (s : St) (R : Ex → St → Prop) : Wp b37_10 k s R = Wp (.reg [⟨(some (.l (.r (.r (.l .h))))), .q (.fa 3 (.t (.r (.l .h)))), none⟩, ⟨none, .e (.st 1 (.t (.l (.r (.r (.l .h))))) (.c (.i .i64 0))), none⟩]) k s R := rfl
noncomputable def b37_11 : CC := (.seq b37_9 (.cond (.t (.r (.l (.r (.l .h))))) b37_10 .skip))
theorem w37_11 (k : Kn) (s : St) (R : Ex → St → Prop) : Wp b37_11 k s R = Wp (.seq b37_9 (.cond (.t (.r (.l (.r (.l .h))))) b37_10 .skip)) k s R := rfl
noncomputable def b37_12 : CC := (.reg [⟨(some (.r (.r (.r (.l .h))))), .q (.fa 3 (.t (.l (.l .h)))), none⟩, ⟨(some (.l (.l (.l (.r .h))))), .q (.ld1 (.t (.r (.r (.r (.l .h)))))), none⟩])
theorem w37_12 (k : Kn) (s : St) (R : Ex → St → Prop) : Wp b37_12 k s R = Wp (.reg [⟨(some (.r (.r (.r (.l .h))))), .q (.fa 3 (.t (.l (.l .h)))), none⟩, ⟨(some (.l (.l (.l (.r .h))))), .q (.ld1 (.t (.r (.r (.r (.l .h)))))), none⟩]) k s R := rfl
noncomputable def b37_13 : CC := (.reg [⟨(some (.r (.l (.l (.r .h))))), .q (.fa 4 (.t (.r (.l .h)))), none⟩, ⟨none, .e (.st 1 (.t (.r (.l (.l (.r .h))))) (.c (.i .i64 0))), none⟩])
theorem w37_13 (k : Kn) (s : St) (R : Ex → St → Prop) : Wp b37_13 k s R = Wp (.reg [⟨(some (.r (.l (.l (.r .h))))), .q (.fa 4 (.t (.r (.l .h)))), none⟩, ⟨none, .e (.st 1 (.t (.r (.l (.l (.r .h))))) (.c (.i .i64 0))), none⟩]) k s R := rfl
noncomputable def b37_14 : CC := (.seq b37_12 (.cond (.t (.l (.l (.l (.r .h))))) b37_13 .skip))
theorem w37_14 (k : Kn) (s : St) (R : Ex → St → Prop) : Wp b37_14 k s R = Wp (.seq b37_12 (.cond (.t (.l (.l (.l (.r .h))))) b37_13 .skip)) k s R := rfl
noncomputable def b37_15 : CC := (.reg [⟨(some (.l (.r .h))), .q (.mv (.c (.i .i64 (-32768)))), none⟩, ⟨(some (.r (.r .h))), .q (.mv (.c (.i .i64 32767))), none⟩])
theorem w37_15 (k : Kn) (s : St) (R : Ex → St → Prop) : Wp b37_15 k s R = Wp (.reg [⟨(some (.l (.r .h))), .q (.mv (.c (.i .i64 (-32768)))), none⟩, ⟨(some (.r (.r .h))), .q (.mv (.c (.i .i64 32767))), none⟩]) k s R := rfl
noncomputable def b37_16 : CC := (.reg [⟨(some (.l (.r (.l (.r .h))))), .q (.fa 0 (.t (.l .h))), none⟩, ⟨(some (.r (.r (.l (.r .h))))), .q (.ld1 (.t (.l (.r (.l (.r .h)))))), none⟩, ⟨(some (.l (.l (.r (.r .h))))), .e (.call 54 [(.t (.r (.r (.l (.r .h)))))]), none⟩])
theorem w37_16 (k : Kn) (s : St) (R : Ex → St → Prop) : Wp b37_16 k s R = Wp (.reg [⟨(some (.l (.r (.l (.r .h))))), .q (.fa 0 (.t (.l .h))), none⟩, ⟨(some (.r (.r (.l (.r .h))))), .q (.ld1 (.t (.l (.r (.l (.r .h)))))), none⟩, ⟨(some (.l (.l (.r (.r .h))))), .e (.call 54 [(.t (.r (.r (.l (.r .h)))))]), none⟩]) k s R := rfl
noncomputable def b37_17 : CC := (.reg [⟨(some (.l (.r .h))), .q (.mv (.c (.i .i64 0))), none⟩, ⟨(some (.r (.r .h))), .q (.mv (.c (.i .i64 65535))), none⟩])
theorem w37_17 (k : Kn) (s : St) (R : Ex → St → Prop) : Wp b37_17 k s R = Wp (.reg [⟨(some (.l (.r .h))), .q (.mv (.c (.i .i64 0))), none⟩, ⟨(some (.r (.r .h))), .q (.mv (.c (.i .i64 65535))), none⟩]) k s R := rfl
noncomputable def b37_18 : CC := (.seq b37_16 (.cond (.t (.l (.l (.r (.r .h))))) b37_17 .skip))
theorem w37_18 (k : Kn) (s : St) (R : Ex → St → Prop) : Wp b37_18 k s R = Wp (.seq b37_16 (.cond (.t (.l (.l (.r (.r .h))))) b37_17 .skip)) k s R := rfl
noncomputable def b37_19 : CC := (.reg [⟨(some (.l (.l (.l .h)))), .q (.mv (.c (.f 57 [] []))), none⟩])
theorem w37_19 (k : Kn) (s : St) (R : Ex → St → Prop) : Wp b37_19 k s R = Wp (.reg [⟨(some (.l (.l (.l .h)))), .q (.mv (.c (.f 57 [] []))), none⟩]) k s R := rfl
noncomputable def b37_20 : CC := (.reg [⟨(some (.r (.l (.r (.r .h))))), .q (.fa 0 (.t (.l .h))), none⟩, ⟨(some (.l (.r (.r (.r .h))))), .q (.ld1 (.t (.r (.l (.r (.r .h)))))), none⟩, ⟨(some (.r (.r (.r (.r .h))))), .e (.call 24 [(.t (.l (.r (.r (.r .h)))))]), none⟩, ⟨(some (.l (.l (.l (.l (.l .h)))))), .q (.bi .neq (.t (.r (.r (.r (.r .h))))) (.c (.s 0 0))), none⟩, ⟨(some (.r (.l (.l (.l (.l .h)))))), .q (.mv (.t (.l (.l (.l (.l (.l .h))))))), none⟩, ⟨(some (.l (.r (.l (.l (.l .h)))))), .q (.ldn 5 (.t (.r (.l .h)))), (some ((.r (.l (.l (.l (.l .h))))), true))⟩, ⟨(some (.r (.r (.l (.l (.l .h)))))), .q (.fa 0 (.t (.l .h))), (some ((.r (.l (.l (.l (.l .h))))), true))⟩, ⟨(some (.l (.l (.r (.l (.l .h)))))), .q (.ld1 (.t (.r (.r (.l (.l (.l .h))))))), (some ((.r (.l (.l (.l (.l .h))))), true))⟩, ⟨(some (.r (.l (.r (.l (.l .h)))))), .q (.bld [(.i .i64 0), (.i .i64 0), (.i .i64 0), (.i .i64 0), (.i .i64 0)] [(0, 1, (.t (.l (.l (.r (.l (.l .h)))))))]), (some ((.r (.l (.l (.l (.l .h))))), true))⟩, ⟨(some (.l (.r (.r (.l (.l .h)))))), .q (.eq false (.agg [(0, .int), (1, .int), (2, .int), (3, .int), (4, .int)]) false (.t (.l (.r (.l (.l (.l .h)))))) (.t (.r (.l (.r (.l (.l .h))))))), (some ((.r (.l (.l (.l (.l .h))))), true))⟩, ⟨(some (.r (.r (.r (.l (.l .h)))))), .q (.pk (.t (.r (.l (.l (.l (.l .h)))))) (.t (.l (.r (.r (.l (.l .h)))))) (.c (.b false))), none⟩, ⟨(some (.l (.l (.l (.r (.l .h)))))), .q (.mv (.t (.r (.r (.r (.l (.l .h))))))), none⟩, ⟨(some (.r (.l (.l (.r (.l .h)))))), .q (.mv (.t (.l (.l (.l .h))))), (some ((.l (.l (.l (.r (.l .h))))), true))⟩, ⟨(some (.l (.r (.l (.r (.l .h)))))), .q (.fa 1 (.t (.l .h))), (some ((.l (.l (.l (.r (.l .h))))), true))⟩, ⟨(some (.r (.r (.l (.r (.l .h)))))), .q (.ld1 (.t (.l (.r (.l (.r (.l .h))))))), (some ((.l (.l (.l (.r (.l .h))))), true))⟩, ⟨(some (.l (.l (.r (.r (.l .h)))))), .e (.cv (.t (.r (.l (.l (.r (.l .h)))))) [(.t (.r (.r (.l (.r (.l .h))))))]), (some ((.l (.l (.l (.r (.l .h))))), true))⟩, ⟨(some (.r (.l (.r (.r (.l .h)))))), .q (.pk (.t (.l (.l (.l (.r (.l .h)))))) (.t (.l (.l (.r (.r (.l .h)))))) (.c (.b false))), none⟩, ⟨(some (.l (.r (.r (.r (.l .h)))))), .q (.mv (.t (.r (.l (.r (.r (.l .h))))))), none⟩, ⟨(some (.r (.r (.r (.r (.l .h)))))), .q (.mv (.t (.l (.l (.l .h))))), (some ((.l (.r (.r (.r (.l .h))))), true))⟩, ⟨(some (.l (.l (.l (.l (.r .h)))))), .q (.fa 2 (.t (.l .h))), (some ((.l (.r (.r (.r (.l .h))))), true))⟩, ⟨(some (.r (.l (.l (.l (.r .h)))))), .q (.ld1 (.t (.l (.l (.l (.l (.r .h))))))), (some ((.l (.r (.r (.r (.l .h))))), true))⟩, ⟨(some (.l (.r (.l (.l (.r .h)))))), .e (.cv (.t (.r (.r (.r (.r (.l .h)))))) [(.t (.r (.l (.l (.l (.r .h))))))]), (some ((.l (.r (.r (.r (.l .h))))), true))⟩, ⟨(some (.r (.r (.l (.l (.r .h)))))), .q (.pk (.t (.l (.r (.r (.r (.l .h)))))) (.t (.l (.r (.l (.l (.r .h)))))) (.c (.b false))), none⟩, ⟨(some (.l (.l (.r (.l (.r .h)))))), .q (.mv (.t (.r (.r (.l (.l (.r .h))))))), none⟩, ⟨(some (.r (.l (.r (.l (.r .h)))))), .q (.mv (.t (.l (.l (.l .h))))), (some ((.l (.l (.r (.l (.r .h))))), true))⟩, ⟨(some (.l (.r (.r (.l (.r .h)))))), .q (.fa 3 (.t (.l .h))), (some ((.l (.l (.r (.l (.r .h))))), true))⟩, ⟨(some (.r (.r (.r (.l (.r .h)))))), .q (.ld1 (.t (.l (.r (.r (.l (.r .h))))))), (some ((.l (.l (.r (.l (.r .h))))), true))⟩, ⟨(some (.l (.l (.l (.r (.r .h)))))), .e (.cv (.t (.r (.l (.r (.l (.r .h)))))) [(.t (.r (.r (.r (.l (.r .h))))))]), (some ((.l (.l (.r (.l (.r .h))))), true))⟩, ⟨(some (.r (.l (.l (.r (.r .h)))))), .q (.pk (.t (.l (.l (.r (.l (.r .h)))))) (.t (.l (.l (.l (.r (.r .h)))))) (.c (.b false))), none⟩, ⟨(some (.l (.r (.l (.r (.r .h)))))), .q (.mv (.t (.r (.l (.l (.r (.r .h))))))), none⟩, ⟨(some (.r (.r (.l (.r (.r .h)))))), .q (.fa 4 (.t (.l .h))), (some ((.l (.r (.l (.r (.r .h))))), true))⟩, ⟨(some (.l (.l (.r (.r (.r .h)))))), .q (.ld1 (.t (.r (.r (.l (.r (.r .h))))))), (some ((.l (.r (.l (.r (.r .h))))), true))⟩, ⟨(some (.r (.l (.r (.r (.r .h)))))), .q (.mv (.t (.l (.r .h)))), (some ((.l (.r (.l (.r (.r .h))))), true))⟩, ⟨(some (.l (.r (.r (.r (.r .h)))))), .q (.bi .geq (.t (.l (.l (.r (.r (.r .h)))))) (.t (.r (.l (.r (.r (.r .h))))))), (some ((.l (.r (.l (.r (.r .h))))), true))⟩, ⟨(some (.r (.r (.r (.r (.r .h)))))), .q (.pk (.t (.l (.r (.l (.r (.r .h)))))) (.t (.l (.r (.r (.r (.r .h)))))) (.c (.b false))), none⟩, ⟨(some (.l (.l (.l (.l (.l (.l .h))))))), .q (.mv (.t (.r (.r (.r (.r (.r .h))))))), none⟩, ⟨(some (.r (.l (.l (.l (.l (.l .h))))))), .q (.fa 4 (.t (.l .h))), (some ((.l (.l (.l (.l (.l (.l .h)))))), true))⟩, ⟨(some (.l (.r (.l (.l (.l (.l .h))))))), .q (.ld1 (.t (.r (.l (.l (.l (.l (.l .h)))))))), (some ((.l (.l (.l (.l (.l (.l .h)))))), true))⟩, ⟨(some (.r (.r (.l (.l (.l (.l .h))))))), .q (.mv (.t (.r (.r .h)))), (some ((.l (.l (.l (.l (.l (.l .h)))))), true))⟩, ⟨(some (.l (.l (.r (.l (.l (.l .h))))))), .q (.bi .leq (.t (.l (.r (.l (.l (.l (.l .h))))))) (.t (.r (.r (.l (.l (.l (.l .h)))))))), (some ((.l (.l (.l (.l (.l (.l .h)))))), true))⟩, ⟨(some (.r (.l (.r (.l (.l (.l .h))))))), .q (.pk (.t (.l (.l (.l (.l (.l (.l .h))))))) (.t (.l (.l (.r (.l (.l (.l .h))))))) (.c (.b false))), none⟩, ⟨(some (.r .h)), .q (.mv (.t (.r (.l (.r (.l (.l (.l .h)))))))), none⟩])
theorem w37_20 (k : Kn) (s : St) (R : Ex → St → Prop) : Wp b37_20 k s R = Wp (.reg [⟨(some (.r (.l (.r (.r .h))))), .q (.fa 0 (.t (.l .h))), none⟩, ⟨(some (.l (.r (.r (.r .h))))), .q (.ld1 (.t (.r (.l (.r (.r .h)))))), none⟩, ⟨(some (.r (.r (.r (.r .h))))), .e (.call 24 [(.t (.l (.r (.r (.r .h)))))]), none⟩, ⟨(some (.l (.l (.l (.l (.l .h)))))), .q (.bi .neq (.t (.r (.r (.r (.r .h))))) (.c (.s 0 0))), none⟩, ⟨(some (.r (.l (.l (.l (.l .h)))))), .q (.mv (.t (.l (.l (.l (.l (.l .h))))))), none⟩, ⟨(some (.l (.r (.l (.l (.l .h)))))), .q (.ldn 5 (.t (.r (.l .h)))), (some ((.r (.l (.l (.l (.l .h))))), true))⟩, ⟨(some (.r (.r (.l (.l (.l .h)))))), .q (.fa 0 (.t (.l .h))), (some ((.r (.l (.l (.l (.l .h))))), true))⟩, ⟨(some (.l (.l (.r (.l (.l .h)))))), .q (.ld1 (.t (.r (.r (.l (.l (.l .h))))))), (some ((.r (.l (.l (.l (.l .h))))), true))⟩, ⟨(some (.r (.l (.r (.l (.l .h)))))), .q (.bld [(.i .i64 0), (.i .i64 0), (.i .i64 0), (.i .i64 0), (.i .i64 0)] [(0, 1, (.t (.l (.l (.r (.l (.l .h)))))))]), (some ((.r (.l (.l (.l (.l .h))))), true))⟩, ⟨(some (.l (.r (.r (.l (.l .h)))))), .q (.eq false (.agg [(0, .int), (1, .int), (2, .int), (3, .int), (4, .int)]) false (.t (.l (.r (.l (.l (.l .h)))))) (.t (.r (.l (.r (.l (.l .h))))))), (some ((.r (.l (.l (.l (.l .h))))), true))⟩, ⟨(some (.r (.r (.r (.l (.l .h)))))), .q (.pk (.t (.r (.l (.l (.l (.l .h)))))) (.t (.l (.r (.r (.l (.l .h)))))) (.c (.b false))), none⟩, ⟨(some (.l (.l (.l (.r (.l .h)))))), .q (.mv (.t (.r (.r (.r (.l (.l .h))))))), none⟩, ⟨(some (.r (.l (.l (.r (.l .h)))))), .q (.mv (.t (.l (.l (.l .h))))), (some ((.l (.l (.l (.r (.l .h))))), true))⟩, ⟨(some (.l (.r (.l (.r (.l .h)))))), .q (.fa 1 (.t (.l .h))), (some ((.l (.l (.l (.r (.l .h))))), true))⟩, ⟨(some (.r (.r (.l (.r (.l .h)))))), .q (.ld1 (.t (.l (.r (.l (.r (.l .h))))))), (some ((.l (.l (.l (.r (.l .h))))), true))⟩, ⟨(some (.l (.l (.r (.r (.l .h)))))), .e (.cv (.t (.r (.l (.l (.r (.l .h)))))) [(.t (.r (.r (.l (.r (.l .h))))))]), (some ((.l (.l (.l (.r (.l .h))))), true))⟩, ⟨(some (.r (.l (.r (.r (.l .h)))))), .q (.pk (.t (.l (.l (.l (.r (.l .h)))))) (.t (.l (.l (.r (.r (.l .h)))))) (.c (.b false))), none⟩, ⟨(some (.l (.r (.r (.r (.l .h)))))), .q (.mv (.t (.r (.l (.r (.r (.l .h))))))), none⟩, ⟨(some (.r (.r (.r (.r (.l .h)))))), .q (.mv (.t (.l (.l (.l .h))))), (some ((.l (.r (.r (.r (.l .h))))), true))⟩, ⟨(some (.l (.l (.l (.l (.r .h)))))), .q (.fa 2 (.t (.l .h))), (some ((.l (.r (.r (.r (.l .h))))), true))⟩, ⟨(some (.r (.l (.l (.l (.r .h)))))), .q (.ld1 (.t (.l (.l (.l (.l (.r .h))))))), (some ((.l (.r (.r (.r (.l .h))))), true))⟩, ⟨(some (.l (.r (.l (.l (.r .h)))))), .e (.cv (.t (.r (.r (.r (.r (.l .h)))))) [(.t (.r (.l (.l (.l (.r .h))))))]), (some ((.l (.r (.r (.r (.l .h))))), true))⟩, ⟨(some (.r (.r (.l (.l (.r .h)))))), .q (.pk (.t (.l (.r (.r (.r (.l .h)))))) (.t (.l (.r (.l (.l (.r .h)))))) (.c (.b false))), none⟩, ⟨(some (.l (.l (.r (.l (.r .h)))))), .q (.mv (.t (.r (.r (.l (.l (.r .h))))))), none⟩, ⟨(some (.r (.l (.r (.l (.r .h)))))), .q (.mv (.t (.l (.l (.l .h))))), (some ((.l (.l (.r (.l (.r .h))))), true))⟩, ⟨(some (.l (.r (.r (.l (.r .h)))))), .q (.fa 3 (.t (.l .h))), (some ((.l (.l (.r (.l (.r .h))))), true))⟩, ⟨(some (.r (.r (.r (.l (.r .h)))))), .q (.ld1 (.t (.l (.r (.r (.l (.r .h))))))), (some ((.l (.l (.r (.l (.r .h))))), true))⟩, ⟨(some (.l (.l (.l (.r (.r .h)))))), .e (.cv (.t (.r (.l (.r (.l (.r .h)))))) [(.t (.r (.r (.r (.l (.r .h))))))]), (some ((.l (.l (.r (.l (.r .h))))), true))⟩, ⟨(some (.r (.l (.l (.r (.r .h)))))), .q (.pk (.t (.l (.l (.r (.l (.r .h)))))) (.t (.l (.l (.l (.r (.r .h)))))) (.c (.b false))), none⟩, ⟨(some (.l (.r (.l (.r (.r .h)))))), .q (.mv (.t (.r (.l (.l (.r (.r .h))))))), none⟩, ⟨(some (.r (.r (.l (.r (.r .h)))))), .q (.fa 4 (.t (.l .h))), (some ((.l (.r (.l (.r (.r .h))))), true))⟩, ⟨(some (.l (.l (.r (.r (.r .h)))))), .q (.ld1 (.t (.r (.r (.l (.r (.r .h))))))), (some ((.l (.r (.l (.r (.r .h))))), true))⟩, ⟨(some (.r (.l (.r (.r (.r .h)))))), .q (.mv (.t (.l (.r .h)))), (some ((.l (.r (.l (.r (.r .h))))), true))⟩, ⟨(some (.l (.r (.r (.r (.r .h)))))), .q (.bi .geq (.t (.l (.l (.r (.r (.r .h)))))) (.t (.r (.l (.r (.r (.r .h))))))), (some ((.l (.r (.l (.r (.r .h))))), true))⟩, ⟨(some (.r (.r (.r (.r (.r .h)))))), .q (.pk (.t (.l (.r (.l (.r (.r .h)))))) (.t (.l (.r (.r (.r (.r .h)))))) (.c (.b false))), none⟩, ⟨(some (.l (.l (.l (.l (.l (.l .h))))))), .q (.mv (.t (.r (.r (.r (.r (.r .h))))))), none⟩, ⟨(some (.r (.l (.l (.l (.l (.l .h))))))), .q (.fa 4 (.t (.l .h))), (some ((.l (.l (.l (.l (.l (.l .h)))))), true))⟩, ⟨(some (.l (.r (.l (.l (.l (.l .h))))))), .q (.ld1 (.t (.r (.l (.l (.l (.l (.l .h)))))))), (some ((.l (.l (.l (.l (.l (.l .h)))))), true))⟩, ⟨(some (.r (.r (.l (.l (.l (.l .h))))))), .q (.mv (.t (.r (.r .h)))), (some ((.l (.l (.l (.l (.l (.l .h)))))), true))⟩, ⟨(some (.l (.l (.r (.l (.l (.l .h))))))), .q (.bi .leq (.t (.l (.r (.l (.l (.l (.l .h))))))) (.t (.r (.r (.l (.l (.l (.l .h)))))))), (some ((.l (.l (.l (.l (.l (.l .h)))))), true))⟩, ⟨(some (.r (.l (.r (.l (.l (.l .h))))))), .q (.pk (.t (.l (.l (.l (.l (.l (.l .h))))))) (.t (.l (.l (.r (.l (.l (.l .h))))))) (.c (.b false))), none⟩, ⟨(some (.r .h)), .q (.mv (.t (.r (.l (.r (.l (.l (.l .h)))))))), none⟩]) k s R := rfl
noncomputable def b37_21 : CC := (.seq b37_15 (.seq b37_18 (.seq b37_19 (.seq b37_20 .ret))))
theorem w37_21 (k : Kn) (s : St) (R : Ex → St → Prop) : Wp b37_21 k s R = Wp (.seq b37_15 (.seq b37_18 (.seq b37_19 (.seq b37_20 .ret)))) k s R := rfl
noncomputable def b37_22 : CC := (.seq (.seq b37_4 (.cond (.t (.r (.r (.r .h)))) b37_5 .skip)) (.seq b37_8 (.seq b37_11 (.seq b37_14 b37_21))))
theorem w37_22 (k : Kn) (s : St) (R : Ex → St → Prop) : Wp b37_22 k s R = Wp (.seq (.seq b37_4 (.cond (.t (.r (.r (.r .h)))) b37_5 .skip)) (.seq b37_8 (.seq b37_11 (.seq b37_14 b37_21)))) k s R := rfl
noncomputable def c37 : CF := .mk 7 [.t (.r .h)] (.seq b37_1 (.seq b37_2 (.seq b37_3 b37_22)))
theorem e37 (v0 : V) : argTr 7 [v0] = (.n (.n (.n (.n (.n (.n (.n .e none .e) none (.n .e none .e)) none (.n (.n .e none .e) none (.n .e none .e))) none (.n (.n (.n .e none .e) none (.n .e none .e)) none (.n (.n .e none .e) none (.n .e none .e)))) none (.n (.n (.n (.n .e none .e) none (.n .e none .e)) none (.n (.n .e none .e) none (.n .e none .e))) none (.n (.n (.n .e none .e) none (.n .e none .e)) none (.n (.n .e none .e) none (.n .e none .e))))) none (.n (.n (.n (.n (.n .e none .e) none (.n .e none .e)) none (.n (.n .e none .e) none (.n .e none .e))) none (.n (.n (.n .e none .e) none (.n .e none .e)) none (.n (.n .e none .e) none (.n .e none .e)))) none (.n (.n (.n (.n .e none .e) none (.n .e none .e)) none (.n (.n .e none .e) none (.n .e none .e))) none (.n (.n (.n .e none .e) none (.n .e none .e)) none (.n (.n .e none .e) none (.n .e none .e)))))) (some v0) (.n (.n (.n (.n (.n (.n .e none .e) none (.n .e none .e)) none (.n (.n .e none .e) none (.n .e none .e))) none (.n (.n (.n .e none .e) none (.n .e none .e)) none (.n (.n .e none .e) none (.n .e none .e)))) none (.n (.n (.n (.n .e none .e) none (.n .e none .e)) none (.n (.n .e none .e) none (.n .e none .e))) none (.n (.n (.n .e none .e) none (.n .e none .e)) none (.n (.n .e none .e) none (.n .e none .e))))) none (.n (.n (.n (.n (.n .e none .e) none (.n .e none .e)) none (.n (.n .e none .e) none (.n .e none .e))) none (.n (.n (.n .e none .e) none (.n .e none .e)) none (.n (.n .e none .e) none (.n .e none .e)))) none (.n (.n (.n (.n .e none .e) none (.n .e none .e)) none (.n (.n .e none .e) none (.n .e none .e))) none (.n (.n (.n .e none .e) none (.n .e none .e)) none (.n (.n .e none .e) none (.n .e none .e))))))) := rfl
theorem nameV_ne (op : Int) : biV .neq (nameV op) (.s 0 0) = some (.b (decide (1 ≤ op ∧ op ≤ 28))) := by
  unfold nameV
  by_cases h : 1 ≤ op ∧ op ≤ 28
  · rw [if_pos h, decide_eq_true h]
    have key : ∀ n, n < 29 → 1 ≤ n → biV .neq ((names53[n]?).getD (.s 0 0)) (.s 0 0) = some (.b true) := by
      intro n hn h1
      have : n = 1 ∨ n = 2 ∨ n = 3 ∨ n = 4 ∨ n = 5 ∨ n = 6 ∨ n = 7 ∨ n = 8 ∨ n = 9 ∨ n = 10 ∨ n = 11 ∨ n = 12 ∨ n = 13 ∨ n = 14 ∨ n = 15 ∨ n = 16 ∨ n = 17 ∨ n = 18 ∨ n = 19 ∨ n = 20 ∨ n = 21 ∨ n = 22 ∨ n = 23 ∨ n = 24 ∨ n = 25 ∨ n = 26 ∨ n = 27 ∨ n = 28 := by omega
      rcases this with rfl | rfl | rfl | rfl | rfl | rfl | rfl | rfl | rfl | rfl | rfl | rfl | rfl | rfl | rfl | rfl | rfl | rfl | rfl | rfl | rfl | rfl | rfl | rfl | rfl | rfl | rfl | rfl <;> rfl
    exact key op.toNat (by omega) (by omega)
  · rw [if_neg h, decide_eq_false h]; rfl
theorem t37 (Φ : Nat → Option CF) (h : Φ 37 = some c37) (h25 : Φ 25 = some (.orc (pureO h25))) (h40 : Φ 40 = some (.orc (pureO h40))) (h54 : Φ 54 = some (.orc (pureO h54))) (h57 : Φ 57 = some (.orc (pureO h57))) (h24 : Φ 24 = some (.orc (pureO h24))) (op d a b i : Int) (ct : Nat) :
    To Φ 37 [.g [.i .i64 op, .i .i64 d, .i .i64 a, .i .i64 b, .i .i64 i]] ct (.b (mayI op d a b i)) := by
  refine to_walk h ?_
  rcases formI_cases op with hf | hf | hf | hf | hf | hf | hf
  all_goals
    simp only [wp_seq, seqQ_nrm, wp_reg, wp_skip, wo_nil, xo_q, xo_a, xo_e, xo_e0, wp_condT, wp_condF, putO, putA, putE, putE0, v_mv, v_ld1, v_ldn, ld1_p, ldn_p, load1_same, v_fa, e_st_eq, er_some, xo_call, callC_orc, ev_t, ev_c, evs_nil, evs_cons, Tr.setP_h, Tr.setP_l, Tr.setP_r, getT_h, getT_l, getT_r, Nat.reduceBEq, Int.reduceEq, List.getElem?_cons_zero, List.getElem?_cons_succ, decide_true, decide_false, if_true, pureO_of, ofO_some, flatten_i, flatten_g, allOne_nil, allOne_cons, isOne_b, isOne_i, Bool.and_true, over_nil, over_cons, List.set_cons_zero, List.set_cons_succ, List.length_cons, List.length_nil, Nat.reduceAdd, Nat.reduceLeDiff, Nat.zero_add, and_self, load1_ne, loadN_ne, loadN_same, storeN_same, a_al_eq, a_bx_eq, List.drop_zero, List.take_succ_cons, List.take_nil, Option.map_some, ne_add0, ne_add, Nat.add_assoc, or_self, or_true, or_false, e37, w37_1, w37_2, w37_3, w37_4, w37_5, w37_6, w37_7, w37_8, w37_9, w37_10, w37_11, w37_12, w37_13, w37_14, w37_15, w37_16, w37_18, w37_21, w37_22, h25, h25_eq, h40, h40_eq, h54, h54_eq, hf, dI, aI, bI, iI]
    repeat' first | (refine wp_cond (by simp only [ev_t, getT_h, getT_l, getT_r]; rfl) (fun h => ?_) (fun h => ?_) <;> simp only [wp_seq, seqQ_nrm, wp_reg, wp_skip, wo_nil, xo_q, xo_e, putO, putE, v_mv, v_bi, v_ld1, ld1_p, load1_same, v_fa, xo_call, callC_orc, ev_t, ev_c, evs_nil, evs_cons, Tr.setP_h, Tr.setP_l, Tr.setP_r, getT_h, getT_l, getT_r, List.getElem?_cons_zero, pureO_of, ofO_some, Nat.zero_add, load1_ne, ne_add0, w37_17, w37_19, w37_20, h, h24, h24_eq, nameV_ne]) | (refine wo_g (by simp only [getT_h, getT_l, getT_r]; rfl) (fun h => ?_) (fun h => ?_) <;> simp only [seqQ_nrm, wp_ret, wo_nil, xo_q, xo_e, wo_gT, wo_gF, putO, putE, setT_some, v_mv, v_pk, pkV_T, pkV_F, v_bi, bi_leq, bi_geq, v_ld1, v_ldn, ld1_p, ldn_p, load1_same, v_fa, callC_orc, ev_t, ev_c, evs_nil, evs_cons, Tr.setP_h, Tr.setP_l, Tr.setP_r, getT_h, getT_l, getT_r, List.getElem?_cons_zero, List.getElem?_cons_succ, endQ_ret, endO, resV_nil', resV_t, consO_some, oneV_one, Bool.not_true, decide_true, if_true, pureO_of, ofO_some, flatten_i, Bool.and_true, Bool.true_and, evP_nil, evP_cons, fillV_nil, fillV_cons, over_nil, over_cons, List.set_cons_zero, List.length_cons, List.length_nil, Nat.reduceAdd, Nat.reduceLeDiff, Nat.zero_add, v_bld, replL_over, andO_some, eqAt_some, eqAll_nil, eqAll_cons, negO_F, v_eq, eqV_agg, eq1_int, xo_cv, callV_f, List.nil_append, List.append_nil, load1_ne, loadN_same, List.drop_zero, List.take_succ_cons, List.take_nil, Option.map_some, ne_add0, h, h57, h57_eq])
  all_goals (rw [V.b.injEq, Bool.eq_iff_iff]; simp only [decide_eq_true_eq, decide_eq_false_iff_not, Bool.not_true, Bool.and_eq_true, Bool.and_eq_false_iff, Bool.false_eq_true, false_iff] at *; simp only [mayI, regI, hf, dI, aI, bI, iI, Bool.and_eq_true, Bool.or_eq_true, decide_eq_true_eq, Int.reduceEq, or_true, or_false, true_and, or_self, false_and])
  all_goals omega
end Go.Proofs.YtffpeieapadocaaGreatDoor.Ev
set_option maxRecDepth 10000
set_option maxHeartbeats 8000000
namespace Go.Proofs.YtffpeieapadocaaGreatDoor.Ev
open Go
noncomputable def b10_1 : CC := (.reg [⟨(some (.l .h)), .a (.bx 26 5 (.t .h)), none⟩, ⟨(some (.r .h)), .q (.mv (.c (.i .u32 0))), none⟩, ⟨(some (.l (.l .h))), .q (.mv (.c (.i .i64 0))), none⟩])
theorem w10_1 (k : Kn) (s : St) (R : Ex → St → Prop) : Wp b10_1 k s R = Wp (.reg [⟨(some (.l .h)), .a (.bx 26 5 (.t .h)), none⟩, ⟨(some (.r .h)), .q (.mv (.c (.i .u32 0))), none⟩, ⟨(some (.l (.l .h))), .q (.mv (.c (.i .i64 0))), none⟩]) k s R := rfl
noncomputable def b10_2 : CC := (.reg [⟨(some (.r (.l .h))), .q (.ldn 5 (.t (.l .h))), none⟩, ⟨(some (.l (.r .h))), .e (.call 37 [(.t (.r (.l .h)))]), none⟩, ⟨(some (.r (.r .h))), .q (.un .not (.t (.l (.r .h)))), none⟩])
theorem w10_2 (k : Kn) (s : St) (R : Ex → St → Prop) : Wp b10_2 k s R = Wp (.reg [⟨(some (.r (.l .h))), .q (.ldn 5 (.t (.l .h))), none⟩, ⟨(some (.l (.r .h))), .e (.call 37 [(.t (.r (.l .h)))]), none⟩, ⟨(some (.r (.r .h))), .q (.un .not (.t (.l (.r .h)))), none⟩]) k s R := rfl
noncomputable def b10_3 : CC := (.reg [⟨(some (.r .h)), .q (.mv (.c (.i .u32 0))), none⟩, ⟨(some (.l (.l .h))), .q (.mv (.c (.i .i64 2))), none⟩])
theorem w10_3 (k : Kn) (s : St) (R : Ex → St → Prop) : Wp b10_3 k s R = Wp (.reg [⟨(some (.r .h)), .q (.mv (.c (.i .u32 0))), none⟩, ⟨(some (.l (.l .h))), .q (.mv (.c (.i .i64 2))), none⟩]) k s R := rfl
noncomputable def b10_4 : CC := (.seq b10_2 (.cond (.t (.r (.r .h))) (.seq b10_3 .ret) .skip))
theorem w10_4 (k : Kn) (s : St) (R : Ex → St → Prop) : Wp b10_4 k s R = Wp (.seq b10_2 (.cond (.t (.r (.r .h))) (.seq b10_3 .ret) .skip)) k s R := rfl
noncomputable def b10_5 : CC := (.reg [⟨(some (.l (.l (.l .h)))), .q (.fa 0 (.t (.l .h))), none⟩, ⟨(some (.r (.l (.l .h)))), .q (.ld1 (.t (.l (.l (.l .h))))), none⟩, ⟨(some (.l (.r (.l .h)))), .q (.ci .u32 (.t (.r (.l (.l .h))))), none⟩, ⟨(some (.r (.r (.l .h)))), .q (.fa 1 (.t (.l .h))), none⟩, ⟨(some (.l (.l (.r .h)))), .q (.ld1 (.t (.r (.r (.l .h))))), none⟩, ⟨(some (.r (.l (.r .h)))), .q (.ci .u32 (.t (.l (.l (.r .h))))), none⟩, ⟨(some (.l (.r (.r .h)))), .q (.bi .shl (.t (.r (.l (.r .h)))) (.c (.i .u64 12))), none⟩, ⟨(some (.r (.r (.r .h)))), .q (.bi .or (.t (.l (.r (.l .h)))) (.t (.l (.r (.r .h))))), none⟩, ⟨(some (.l (.l (.l (.l .h))))), .q (.fa 2 (.t (.l .h))), none⟩, ⟨(some (.r (.l (.l (.l .h))))), .q (.ld1 (.t (.l (.l (.l (.l .h)))))), none⟩, ⟨(some (.l (.r (.l (.l .h))))), .q (.ci .u32 (.t (.r (.l (.l (.l .h)))))), none⟩, ⟨(some (.r (.r (.l (.l .h))))), .q (.bi .shl (.t (.l (.r (.l (.l .h))))) (.c (.i .u64 8))), none⟩, ⟨(some (.l (.l (.r (.l .h))))), .q (.bi .or (.t (.r (.r (.r .h)))) (.t (.r (.r (.l (.l .h)))))), none⟩, ⟨(some (.r (.l (.r (.l .h))))), .q (.fa 3 (.t (.l .h))), none⟩, ⟨(some (.l (.r (.r (.l .h))))), .q (.ld1 (.t (.r (.l (.r (.l .h)))))), none⟩, ⟨(some (.r (.r (.r (.l .h))))), .q (.ci .u32 (.t (.l (.r (.r (.l .h)))))), none⟩, ⟨(some (.l (.l (.l (.r .h))))), .q (.bi .shl (.t (.r (.r (.r (.l .h))))) (.c (.i .u64 16))), none⟩, ⟨(some (.r (.l (.l (.r .h))))), .q (.bi .or (.t (.l (.l (.r (.l .h))))) (.t (.l (.l (.l (.r .h)))))), none⟩, ⟨(some (.l (.r (.l (.r .h))))), .q (.fa 4 (.t (.l .h))), none⟩, ⟨(some (.r (.r (.l (.r .h))))), .q (.ld1 (.t (.l (.r (.l (.r .h)))))), none⟩, ⟨(some (.l (.l (.r (.r .h))))), .q (.ci .u16 (.t (.r (.r (.l (.r .h)))))), none⟩, ⟨(some (.r (.l (.r (.r .h))))), .q (.ci .u32 (.t (.l (.l (.r (.r .h)))))), none⟩, ⟨(some (.l (.r (.r (.r .h))))), .q (.bi .shl (.t (.r (.l (.r (.r .h))))) (.c (.i .u64 16))), none⟩, ⟨(some (.r (.r (.r (.r .h))))), .q (.bi .or (.t (.r (.l (.l (.r .h))))) (.t (.l (.r (.r (.r .h)))))), none⟩, ⟨(some (.r .h)), .q (.mv (.t (.r (.r (.r (.r .h)))))), none⟩, ⟨(some (.l (.l .h))), .q (.mv (.c (.i .i64 0))), none⟩])
theorem w10_5 (k : Kn) (s : St) (R : Ex → St → Prop) : Wp b10_5 k s R = Wp (.reg [⟨(some (.l (.l (.l .h)))), .q (.fa 0 (.t (.l .h))), none⟩, ⟨(some (.r (.l (.l .h)))), .q (.ld1 (.t (.l (.l (.l .h))))), none⟩, ⟨(some (.l (.r (.l .h)))), .q (.ci .u32 (.t (.r (.l (.l .h))))), none⟩, ⟨(some (.r (.r (.l .h)))), .q (.fa 1 (.t (.l .h))), none⟩, ⟨(some (.l (.l (.r .h)))), .q (.ld1 (.t (.r (.r (.l .h))))), none⟩, ⟨(some (.r (.l (.r .h)))), .q (.ci .u32 (.t (.l (.l (.r .h))))), none⟩, ⟨(some (.l (.r (.r .h)))), .q (.bi .shl (.t (.r (.l (.r .h)))) (.c (.i .u64 12))), none⟩, ⟨(some (.r (.r (.r .h)))), .q (.bi .or (.t (.l (.r (.l .h)))) (.t (.l (.r (.r .h))))), none⟩, ⟨(some (.l (.l (.l (.l .h))))), .q (.fa 2 (.t (.l .h))), none⟩, ⟨(some (.r (.l (.l (.l .h))))), .q (.ld1 (.t (.l (.l (.l (.l .h)))))), none⟩, ⟨(some (.l (.r (.l (.l .h))))), .q (.ci .u32 (.t (.r (.l (.l (.l .h)))))), none⟩, ⟨(some (.r (.r (.l (.l .h))))), .q (.bi .shl (.t (.l (.r (.l (.l .h))))) (.c (.i .u64 8))), none⟩, ⟨(some (.l (.l (.r (.l .h))))), .q (.bi .or (.t (.r (.r (.r .h)))) (.t (.r (.r (.l (.l .h)))))), none⟩, ⟨(some (.r (.l (.r (.l .h))))), .q (.fa 3 (.t (.l .h))), none⟩, ⟨(some (.l (.r (.r (.l .h))))), .q (.ld1 (.t (.r (.l (.r (.l .h)))))), none⟩, ⟨(some (.r (.r (.r (.l .h))))), .q (.ci .u32 (.t (.l (.r (.r (.l .h)))))), none⟩, ⟨(some (.l (.l (.l (.r .h))))), .q (.bi .shl (.t (.r (.r (.r (.l .h))))) (.c (.i .u64 16))), none⟩, ⟨(some (.r (.l (.l (.r .h))))), .q (.bi .or (.t (.l (.l (.r (.l .h))))) (.t (.l (.l (.l (.r .h)))))), none⟩, ⟨(some (.l (.r (.l (.r .h))))), .q (.fa 4 (.t (.l .h))), none⟩, ⟨(some (.r (.r (.l (.r .h))))), .q (.ld1 (.t (.l (.r (.l (.r .h)))))), none⟩, ⟨(some (.l (.l (.r (.r .h))))), .q (.ci .u16 (.t (.r (.r (.l (.r .h)))))), none⟩, ⟨(some (.r (.l (.r (.r .h))))), .q (.ci .u32 (.t (.l (.l (.r (.r .h)))))), none⟩, ⟨(some (.l (.r (.r (.r .h))))), .q (.bi .shl (.t (.r (.l (.r (.r .h))))) (.c (.i .u64 16))), none⟩, ⟨(some (.r (.r (.r (.r .h))))), .q (.bi .or (.t (.r (.l (.l (.r .h))))) (.t (.l (.r (.r (.r .h)))))), none⟩, ⟨(some (.r .h)), .q (.mv (.t (.r (.r (.r (.r .h)))))), none⟩, ⟨(some (.l (.l .h))), .q (.mv (.c (.i .i64 0))), none⟩]) k s R := rfl
noncomputable def c10 : CF := .mk 5 [.t (.r .h), .t (.l (.l .h))] (.seq b10_1 (.seq b10_4 (.seq b10_5 .ret)))
theorem e10 (v0 : V) : argTr 5 [v0] = (.n (.n (.n (.n (.n .e none .e) none (.n .e none .e)) none (.n (.n .e none .e) none (.n .e none .e))) none (.n (.n (.n .e none .e) none (.n .e none .e)) none (.n (.n .e none .e) none (.n .e none .e)))) (some v0) (.n (.n (.n (.n .e none .e) none (.n .e none .e)) none (.n (.n .e none .e) none (.n .e none .e))) none (.n (.n (.n .e none .e) none (.n .e none .e)) none (.n (.n .e none .e) none (.n .e none .e))))) := rfl
def h37 : List V → Option V
  | [.g [.i .i64 op, .i .i64 d, .i .i64 a, .i .i64 b, .i .i64 i]] => some (.b (mayI op d a b i))
  | _ => none
theorem h37_eq (op d a b i : Int) : h37 [.g [.i .i64 op, .i .i64 d, .i .i64 a, .i .i64 b, .i .i64 i]] = some (.b (mayI op d a b i)) := rfl
def wordI (op d a b i : Int) : Nat := op.toNat + 4096 * d.toNat + 256 * a.toNat + 65536 * b.toNat + 65536 * (i % 65536).toNat
theorem may_regI {n : Bool} {x : Int} (h : regI n x = true) : 0 ≤ x ∧ x < 16 ∧ (x ≠ 0 → n = true) := by
  unfold regI at h
  simp only [decide_eq_true_eq] at h
  rcases h with h | ⟨h1, h2, h3⟩
  · subst h; exact ⟨by decide, by decide, fun h => absurd rfl h⟩
  · exact ⟨by omega, h3, fun _ => h1⟩
theorem mayI_bounds {op d a b i : Int} (h : mayI op d a b i = true) : 1 ≤ op ∧ op ≤ 28 ∧ 0 ≤ d ∧ d < 16 ∧ 0 ≤ a ∧ a < 16 ∧ 0 ≤ b ∧ b < 16 ∧ -32768 ≤ i ∧ i ≤ 65535 ∧ (b = 0 ∨ i = 0) := by
  unfold mayI at h
  simp only [Bool.and_eq_true, Bool.or_eq_true, decide_eq_true_eq] at h
  obtain ⟨h1, h2, h3, h4, h5, h6⟩ := h
  have r3 := may_regI h3
  have r4 := may_regI h4
  have r5 := may_regI h5
  have hbi : b = 0 ∨ i = 0 := by
    by_cases hb : b = 0
    · exact .inl hb
    · right
      have := r5.2.2 hb
      unfold bI at this
      simp only [decide_eq_true_eq] at this
      rcases h6 with h6 | ⟨h6, _⟩
      · exact h6
      · unfold iI at h6
        simp only [decide_eq_true_eq] at h6
        omega
  have hi : -32768 ≤ i ∧ i ≤ 65535 := by
    rcases h6 with h6 | ⟨_, h6⟩
    · omega
    · omega
  exact ⟨h1, h2, r3.1, r3.2.1, r4.1, r4.2.1, r5.1, r5.2.1, hi.1, hi.2, hbi⟩
theorem or_add12 (x y : Nat) (h : x < 4096) : x ||| 4096 * y = x + 4096 * y := by
  rw [Nat.or_comm, ← Nat.two_pow_add_eq_or_of_lt (show x < 2 ^ 12 from h) y, Nat.add_comm]
theorem or_add16 (x y : Nat) (h : x < 65536) : x ||| 65536 * y = x + 65536 * y := by
  rw [Nat.or_comm, ← Nat.two_pow_add_eq_or_of_lt (show x < 2 ^ 16 from h) y, Nat.add_comm]
theorem or_add8 (x y : Nat) (h : x < 256) : x ||| 256 * y = x + 256 * y := by
  rw [Nat.or_comm, ← Nat.two_pow_add_eq_or_of_lt (show x < 2 ^ 8 from h) y, Nat.add_comm]
theorem t10 (Φ : Nat → Option CF) (h : Φ 10 = some c10) (h37 : Φ 37 = some (.orc (pureO h37))) (op d a b i : Int) (ct : Nat) :
    To Φ 10 [.g [.i .i64 op, .i .i64 d, .i .i64 a, .i .i64 b, .i .i64 i]] ct (if mayI op d a b i = true then .t [.i .u32 (wordI op d a b i : Nat), .i .i64 0] else .t [.i .u32 0, .i .i64 2]) := by
  refine to_walk h ?_
  cases hm : mayI op d a b i with
  | false => simp only [wp_seq, seqQ_nrm, seqQ_ret, wp_reg, wp_ret, wo_nil, xo_q, xo_a, xo_e, wp_condT, putO, putA, putE, v_mv, v_un, un_not, v_ldn, ldn_p, xo_call, callC_orc, ev_t, ev_c, evs_nil, evs_cons, Tr.setP_h, Tr.setP_l, Tr.setP_r, getT_h, getT_l, getT_r, endQ_ret, endO, resV_nil', resV_t, consO_some, oneV_two, Bool.not_false, Bool.false_eq_true, if_true, if_false, pureO_of, ofO_some, flatten_g, allOne_nil, allOne_cons, isOne_i, Bool.and_true, List.length_cons, List.length_nil, Nat.reduceAdd, Nat.reduceLeDiff, Nat.zero_add, and_self, loadN_same, a_bx_eq, List.drop_zero, List.take_succ_cons, List.take_nil, Option.map_some, e10, w10_1, w10_2, w10_3, w10_4, h37, h37_eq, hm]
  | true =>
    obtain ⟨b1, b2, b3, b4, b5, b6, b7, b8, b9, b10, b11⟩ := mayI_bounds hm
    obtain ⟨o, rfl⟩ := Int.eq_ofNat_of_zero_le (show 0 ≤ op by omega)
    obtain ⟨d, rfl⟩ := Int.eq_ofNat_of_zero_le b3
    obtain ⟨a, rfl⟩ := Int.eq_ofNat_of_zero_le b5
    obtain ⟨b, rfl⟩ := Int.eq_ofNat_of_zero_le b7
    obtain ⟨j, hj⟩ := Int.eq_ofNat_of_zero_le (show 0 ≤ i % 65536 by omega)
    have w16 : IntKind.u16.wrap i = (j : Int) := by rw [wrap_u16]; exact hj
    have e1 := u32_nat o (by omega)
    have e2 := u32_nat d (by omega)
    have e3 := u32_nat a (by omega)
    have e4 := u32_nat b (by omega)
    have e5 := u32_nat j (by omega)
    have s1 := u32_shl12 d (by omega)
    have s2 := u32_shl8 a (by omega)
    have s3 := u32_shl16 b (by omega)
    have s4 := u32_shl16 j (by omega)
    have n1 : (o ||| 4096 * d) < 2 ^ 32 := Nat.or_lt_two_pow (by omega) (by omega)
    have n2 : (o ||| 4096 * d ||| 256 * a) < 2 ^ 32 := Nat.or_lt_two_pow n1 (by omega)
    have n3 : (o ||| 4096 * d ||| 256 * a ||| 65536 * b) < 2 ^ 32 := Nat.or_lt_two_pow n2 (by omega)
    have o1 := u32_or o (4096 * d) (by omega) (by omega)
    have o2 := u32_or (o ||| 4096 * d) (256 * a) n1 (by omega)
    have o3 := u32_or (o ||| 4096 * d ||| 256 * a) (65536 * b) n2 (by omega)
    have o4 := u32_or (o ||| 4096 * d ||| 256 * a ||| 65536 * b) (65536 * j) n3 (by omega)
    simp only [wp_seq, seqQ_nrm, wp_reg, wp_ret, wp_skip, wo_nil, xo_q, xo_a, xo_e, wp_condF, putO, putA, putE, v_mv, v_bi, v_un, un_not, v_ld1, v_ldn, ld1_p, ldn_p, load1_same, v_fa, xo_call, callC_orc, ev_t, ev_c, evs_nil, evs_cons, Tr.setP_h, Tr.setP_l, Tr.setP_r, getT_h, getT_l, getT_r, List.getElem?_cons_zero, List.getElem?_cons_succ, endQ_ret, endO, resV_nil', resV_t, consO_some, oneV_two, Bool.not_true, if_true, pureO_of, ofO_some, flatten_g, allOne_nil, allOne_cons, isOne_i, Bool.and_true, List.length_cons, List.length_nil, Nat.reduceAdd, Nat.reduceLeDiff, Nat.zero_add, and_self, v_ci, loadN_same, a_bx_eq, List.drop_zero, List.take_succ_cons, List.take_nil, Option.map_some, e10, w10_1, w10_2, w10_4, w10_5, h37, h37_eq, hm, w16, e1, e2, e3, e4, e5, s1, s2, s3, s4, o1, o2, o3, o4]
    have key : (o ||| 4096 * d ||| 256 * a ||| 65536 * b ||| 65536 * j) = wordI o d a b i := by
      unfold wordI
      rw [Nat.or_assoc o, Nat.or_comm (4096 * d), ← Nat.or_assoc o, or_add8 o a (by omega), or_add12 _ d (by omega)]
      rcases b11 with h0 | h0
      · have : b = 0 := by omega
        subst this
        rw [Nat.mul_zero, Nat.or_zero, or_add16 _ j (by omega)]
        omega
      · have : j = 0 := by omega
        subst this
        rw [Nat.mul_zero, Nat.or_zero, or_add16 _ b (by omega)]
        omega
    rw [key]
end Go.Proofs.YtffpeieapadocaaGreatDoor.Ev
set_option maxRecDepth 10000
set_option maxHeartbeats 8000000
namespace Go.Proofs.YtffpeieapadocaaGreatDoor.Ev
open Go
noncomputable def b13_1 : CC := (.reg [⟨(some (.l .h)), .a (.bx 26 5 (.t .h)), none⟩, ⟨(some (.r .h)), .q (.mv (.c (.i .u32 0))), none⟩])
theorem w13_1 (k : Kn) (s : St) (R : Ex → St → Prop) : Wp b13_1 k s R = Wp (.reg [⟨(some (.l .h)), .a (.bx 26 5 (.t .h)), none⟩, ⟨(some (.r .h)), .q (.mv (.c (.i .u32 0))), none⟩]) k s R := rfl
noncomputable def b13_2 : CC := (.reg [⟨(some (.r (.l .h))), .q (.fa 0 (.t (.l .h))), none⟩, ⟨(some (.l (.r .h))), .q (.ld1 (.t (.r (.l .h)))), none⟩, ⟨(some (.r (.r .h))), .q (.ci .u32 (.t (.l (.r .h)))), none⟩, ⟨(some (.l (.l (.l .h)))), .q (.fa 1 (.t (.l .h))), none⟩, ⟨(some (.r (.l (.l .h)))), .q (.ld1 (.t (.l (.l (.l .h))))), none⟩, ⟨(some (.l (.r (.l .h)))), .q (.bi .mul (.c (.i .i64 16)) (.t (.r (.l (.l .h))))), none⟩, ⟨(some (.r (.r (.l .h)))), .q (.fa 2 (.t (.l .h))), none⟩, ⟨(some (.l (.l (.r .h)))), .q (.ld1 (.t (.r (.r (.l .h))))), none⟩, ⟨(some (.r (.l (.r .h)))), .q (.bi .add (.t (.l (.r (.l .h)))) (.t (.l (.l (.r .h))))), none⟩, ⟨(some (.l (.r (.r .h)))), .q (.ci .u32 (.t (.r (.l (.r .h))))), none⟩, ⟨(some (.r (.r (.r .h)))), .q (.bi .mul (.t (.l (.r (.r .h)))) (.c (.i .u32 256))), none⟩, ⟨(some (.l (.l (.l (.l .h))))), .q (.bi .add (.t (.r (.r .h))) (.t (.r (.r (.r .h))))), none⟩, ⟨(some (.l (.l .h))), .q (.mv (.t (.l (.l (.l (.l .h)))))), none⟩])
theorem w13_2 (k : Kn) (s : St) (R : Ex → St → Prop) : Wp b13_2 k s R = Wp (.reg [⟨(some (.r (.l .h))), .q (.fa 0 (.t (.l .h))), none⟩, ⟨(some (.l (.r .h))), .q (.ld1 (.t (.r (.l .h)))), none⟩, ⟨(some (.r (.r .h))), .q (.ci .u32 (.t (.l (.r .h)))), none⟩, ⟨(some (.l (.l (.l .h)))), .q (.fa 1 (.t (.l .h))), none⟩, ⟨(some (.r (.l (.l .h)))), .q (.ld1 (.t (.l (.l (.l .h))))), none⟩, ⟨(some (.l (.r (.l .h)))), .q (.bi .mul (.c (.i .i64 16)) (.t (.r (.l (.l .h))))), none⟩, ⟨(some (.r (.r (.l .h)))), .q (.fa 2 (.t (.l .h))), none⟩, ⟨(some (.l (.l (.r .h)))), .q (.ld1 (.t (.r (.r (.l .h))))), none⟩, ⟨(some (.r (.l (.r .h)))), .q (.bi .add (.t (.l (.r (.l .h)))) (.t (.l (.l (.r .h))))), none⟩, ⟨(some (.l (.r (.r .h)))), .q (.ci .u32 (.t (.r (.l (.r .h))))), none⟩, ⟨(some (.r (.r (.r .h)))), .q (.bi .mul (.t (.l (.r (.r .h)))) (.c (.i .u32 256))), none⟩, ⟨(some (.l (.l (.l (.l .h))))), .q (.bi .add (.t (.r (.r .h))) (.t (.r (.r (.r .h))))), none⟩, ⟨(some (.l (.l .h))), .q (.mv (.t (.l (.l (.l (.l .h)))))), none⟩]) k s R := rfl
noncomputable def b13_3 : CC := (.reg [⟨(some (.r (.l (.l (.l .h))))), .q (.fa 0 (.t (.l .h))), none⟩, ⟨(some (.l (.r (.l (.l .h))))), .q (.ld1 (.t (.r (.l (.l (.l .h)))))), none⟩, ⟨(some (.r (.r (.l (.l .h))))), .e (.call 26 [(.t (.l (.r (.l (.l .h)))))]), none⟩, ⟨(some (.l (.l (.r (.l .h))))), .q (.bi .eql (.t (.r (.r (.l (.l .h))))) (.c (.i .i64 5))), none⟩])
theorem w13_3 (k : Kn) (s : St) (R : Ex → St → Prop) : Wp b13_3 k s R = Wp (.reg [⟨(some (.r (.l (.l (.l .h))))), .q (.fa 0 (.t (.l .h))), none⟩, ⟨(some (.l (.r (.l (.l .h))))), .q (.ld1 (.t (.r (.l (.l (.l .h)))))), none⟩, ⟨(some (.r (.r (.l (.l .h))))), .e (.call 26 [(.t (.l (.r (.l (.l .h)))))]), none⟩, ⟨(some (.l (.l (.r (.l .h))))), .q (.bi .eql (.t (.r (.r (.l (.l .h))))) (.c (.i .i64 5))), none⟩]) k s R := rfl
noncomputable def b13_4 : CC := (.reg [⟨(some (.r (.l (.r (.l .h))))), .q (.mv (.t (.l (.l .h)))), none⟩, ⟨(some (.l (.r (.r (.l .h))))), .q (.fa 3 (.t (.l .h))), none⟩, ⟨(some (.r (.r (.r (.l .h))))), .q (.ld1 (.t (.l (.r (.r (.l .h)))))), none⟩, ⟨(some (.l (.l (.l (.r .h))))), .q (.ci .u32 (.t (.r (.r (.r (.l .h)))))), none⟩, ⟨(some (.r (.l (.l (.r .h))))), .q (.bi .mul (.t (.l (.l (.l (.r .h))))) (.c (.i .u32 65536))), none⟩, ⟨(some (.l (.r (.l (.r .h))))), .q (.bi .add (.t (.r (.l (.r (.l .h))))) (.t (.r (.l (.l (.r .h)))))), none⟩, ⟨(some (.r .h)), .q (.mv (.t (.l (.r (.l (.r .h)))))), none⟩])
theorem w13_4 (k : Kn) (s : St) (R : Ex → St → Prop) : Wp b13_4 k s R = Wp (.reg [⟨(some (.r (.l (.r (.l .h))))), .q (.mv (.t (.l (.l .h)))), none⟩, ⟨(some (.l (.r (.r (.l .h))))), .q (.fa 3 (.t (.l .h))), none⟩, ⟨(some (.r (.r (.r (.l .h))))), .q (.ld1 (.t (.l (.r (.r (.l .h)))))), none⟩, ⟨(some (.l (.l (.l (.r .h))))), .q (.ci .u32 (.t (.r (.r (.r (.l .h)))))), none⟩, ⟨(some (.r (.l (.l (.r .h))))), .q (.bi .mul (.t (.l (.l (.l (.r .h))))) (.c (.i .u32 65536))), none⟩, ⟨(some (.l (.r (.l (.r .h))))), .q (.bi .add (.t (.r (.l (.r (.l .h))))) (.t (.r (.l (.l (.r .h)))))), none⟩, ⟨(some (.r .h)), .q (.mv (.t (.l (.r (.l (.r .h)))))), none⟩]) k s R := rfl
noncomputable def b13_5 : CC := (.seq b13_3 (.cond (.t (.l (.l (.r (.l .h))))) (.seq b13_4 .ret) .skip))
theorem w13_5 (k : Kn) (s : St) (R : Ex → St → Prop) : Wp b13_5 k s R = Wp (.seq b13_3 (.cond (.t (.l (.l (.r (.l .h))))) (.seq b13_4 .ret) .skip)) k s R := rfl
noncomputable def b13_6 : CC := (.reg [⟨(some (.r (.r (.l (.r .h))))), .q (.mv (.t (.l (.l .h)))), none⟩, ⟨(some (.l (.l (.r (.r .h))))), .q (.fa 4 (.t (.l .h))), none⟩, ⟨(some (.r (.l (.r (.r .h))))), .q (.ld1 (.t (.l (.l (.r (.r .h)))))), none⟩, ⟨(some (.l (.r (.r (.r .h))))), .q (.bi .and (.t (.r (.l (.r (.r .h))))) (.c (.i .i64 65535))), none⟩, ⟨(some (.r (.r (.r (.r .h))))), .q (.ci .u32 (.t (.l (.r (.r (.r .h)))))), none⟩, ⟨(some (.l (.l (.l (.l (.l .h)))))), .q (.bi .mul (.t (.r (.r (.r (.r .h))))) (.c (.i .u32 65536))), none⟩, ⟨(some (.r (.l (.l (.l (.l .h)))))), .q (.bi .add (.t (.r (.r (.l (.r .h))))) (.t (.l (.l (.l (.l (.l .h))))))), none⟩, ⟨(some (.r .h)), .q (.mv (.t (.r (.l (.l (.l (.l .h))))))), none⟩])
theorem w13_6 (k : Kn) (s : St) (R : Ex → St → Prop) : Wp b13_6 k s R = Wp (.reg [⟨(some (.r (.r (.l (.r .h))))), .q (.mv (.t (.l (.l .h)))), none⟩, ⟨(some (.l (.l (.r (.r .h))))), .q (.fa 4 (.t (.l .h))), none⟩, ⟨(some (.r (.l (.r (.r .h))))), .q (.ld1 (.t (.l (.l (.r (.r .h)))))), none⟩, ⟨(some (.l (.r (.r (.r .h))))), .q (.bi .and (.t (.r (.l (.r (.r .h))))) (.c (.i .i64 65535))), none⟩, ⟨(some (.r (.r (.r (.r .h))))), .q (.ci .u32 (.t (.l (.r (.r (.r .h)))))), none⟩, ⟨(some (.l (.l (.l (.l (.l .h)))))), .q (.bi .mul (.t (.r (.r (.r (.r .h))))) (.c (.i .u32 65536))), none⟩, ⟨(some (.r (.l (.l (.l (.l .h)))))), .q (.bi .add (.t (.r (.r (.l (.r .h))))) (.t (.l (.l (.l (.l (.l .h))))))), none⟩, ⟨(some (.r .h)), .q (.mv (.t (.r (.l (.l (.l (.l .h))))))), none⟩]) k s R := rfl
noncomputable def c13 : CF := .mk 6 [.t (.r .h)] (.seq b13_1 (.seq b13_2 (.seq b13_5 (.seq b13_6 .ret))))
theorem e13 (v0 : V) : argTr 6 [v0] = (.n (.n (.n (.n (.n (.n .e none .e) none (.n .e none .e)) none (.n (.n .e none .e) none (.n .e none .e))) none (.n (.n (.n .e none .e) none (.n .e none .e)) none (.n (.n .e none .e) none (.n .e none .e)))) none (.n (.n (.n (.n .e none .e) none (.n .e none .e)) none (.n (.n .e none .e) none (.n .e none .e))) none (.n (.n (.n .e none .e) none (.n .e none .e)) none (.n (.n .e none .e) none (.n .e none .e))))) (some v0) (.n (.n (.n (.n (.n .e none .e) none (.n .e none .e)) none (.n (.n .e none .e) none (.n .e none .e))) none (.n (.n (.n .e none .e) none (.n .e none .e)) none (.n (.n .e none .e) none (.n .e none .e)))) none (.n (.n (.n (.n .e none .e) none (.n .e none .e)) none (.n (.n .e none .e) none (.n .e none .e))) none (.n (.n (.n .e none .e) none (.n .e none .e)) none (.n (.n .e none .e) none (.n .e none .e)))))) := rfl
theorem mayI_form {op d a b i : Int} (h : mayI op d a b i = true) : (formI op = 5 → i = 0) ∧ (formI op ≠ 5 → b = 0) := by
  unfold mayI at h
  simp only [Bool.and_eq_true, Bool.or_eq_true, decide_eq_true_eq] at h
  obtain ⟨h1, h2, h3, h4, h5, h6⟩ := h
  constructor
  · intro hf
    rcases h6 with h6 | ⟨h6, _⟩
    · exact h6
    · rw [hf] at h6; cases h6
  · intro hf
    have r5 := may_regI h5
    by_cases hb : b = 0
    · exact hb
    · have := r5.2.2 hb
      unfold bI at this
      simp only [decide_eq_true_eq] at this
      exact absurd this hf
theorem t13 (Φ : Nat → Option CF) (h : Φ 13 = some c13) (h26 : Φ 26 = some (.orc (pureO h25))) (op d a b i : Int) (hm : mayI op d a b i = true) (ct : Nat) :
    To Φ 13 [.g [.i .i64 op, .i .i64 d, .i .i64 a, .i .i64 b, .i .i64 i]] ct (.i .u32 (wordI op d a b i : Nat)) := by
  refine to_walk h ?_
  obtain ⟨b1, b2, b3, b4, b5, b6, b7, b8, b9, b10, b11⟩ := mayI_bounds hm
  obtain ⟨f1, f2⟩ := mayI_form hm
  obtain ⟨o, rfl⟩ := Int.eq_ofNat_of_zero_le (show 0 ≤ op by omega)
  obtain ⟨d, rfl⟩ := Int.eq_ofNat_of_zero_le b3
  obtain ⟨a, rfl⟩ := Int.eq_ofNat_of_zero_le b5
  obtain ⟨b, rfl⟩ := Int.eq_ofNat_of_zero_le b7
  obtain ⟨j, hj⟩ := Int.eq_ofNat_of_zero_le (show 0 ≤ i % 65536 by omega)
  have a1 := i64_and65535 i
  rw [hj] at a1
  have e1 := u32_nat o (by omega)
  have e4 := u32_nat b (by omega)
  have e5 := u32_nat j (by omega)
  have m1 : biV .mul (.i .i64 16) (.i .i64 (d : Int)) = some (.i .i64 (16 * (d : Int))) := i64_mul 16 d (by omega) (by omega)
  have m2 : biV .add (.i .i64 (16 * (d : Int))) (.i .i64 (a : Int)) = some (.i .i64 ((16 * d + a : Nat) : Int)) := by rw [i64_add _ _ (by omega) (by omega)]; congr 2
  have e6 := u32_nat (16 * d + a) (by omega)
  have m3 : biV .mul (.i .u32 ((16 * d + a : Nat) : Int)) (.i .u32 256) = some (.i .u32 (((16 * d + a) * 256 : Nat) : Int)) := u32_mul (16 * d + a) 256 (by omega)
  have m4 : biV .add (.i .u32 (o : Int)) (.i .u32 (((16 * d + a) * 256 : Nat) : Int)) = some (.i .u32 ((o + (16 * d + a) * 256 : Nat) : Int)) := u32_add _ _ (by omega)
  have m5 : biV .mul (.i .u32 (b : Int)) (.i .u32 65536) = some (.i .u32 ((b * 65536 : Nat) : Int)) := u32_mul b 65536 (by omega)
  have m6 : biV .mul (.i .u32 (j : Int)) (.i .u32 65536) = some (.i .u32 ((j * 65536 : Nat) : Int)) := u32_mul j 65536 (by omega)
  have m7 : biV .add (.i .u32 ((o + (16 * d + a) * 256 : Nat) : Int)) (.i .u32 ((b * 65536 : Nat) : Int)) = some (.i .u32 ((o + (16 * d + a) * 256 + b * 65536 : Nat) : Int)) := u32_add _ _ (by omega)
  have m8 : biV .add (.i .u32 ((o + (16 * d + a) * 256 : Nat) : Int)) (.i .u32 ((j * 65536 : Nat) : Int)) = some (.i .u32 ((o + (16 * d + a) * 256 + j * 65536 : Nat) : Int)) := u32_add _ _ (by omega)
  simp only [wp_seq, seqQ_nrm, wp_reg, wo_nil, xo_q, xo_a, xo_e, putO, putA, putE, v_mv, v_bi, bi_eql, v_ld1, ld1_p, load1_same, v_fa, xo_call, callC_orc, ev_t, ev_c, evs_nil, evs_cons, Tr.setP_h, Tr.setP_l, Tr.setP_r, getT_h, getT_l, getT_r, List.getElem?_cons_zero, List.getElem?_cons_succ, if_true, pureO_of, ofO_some, flatten_g, allOne_nil, allOne_cons, isOne_i, Bool.and_true, List.length_cons, List.length_nil, Nat.reduceAdd, Nat.zero_add, and_self, v_ci, a_bx_eq, e13, w13_1, w13_2, w13_3, w13_5, h26, h25_eq, e1, m1, m2, e6, m3, m4]
  refine wp_cond (by simp only [ev_t, getT_h, getT_l, getT_r]; rfl) (fun h => ?_) (fun h => ?_) <;> simp only [wp_seq, seqQ_nrm, seqQ_ret, wp_reg, wp_ret, wp_skip, wo_nil, xo_q, putO, v_mv, v_bi, v_ld1, ld1_p, load1_same, v_fa, ev_t, ev_c, Tr.setP_h, Tr.setP_l, Tr.setP_r, getT_h, getT_l, getT_r, List.getElem?_cons_zero, List.getElem?_cons_succ, endQ_ret, endO, resV_nil', resV_t, consO_some, oneV_one, Nat.zero_add, v_ci, Nat.add_assoc, w13_4, w13_6, h, e4, e5, m5, m6, m7, m8, a1]
  · have hf : formI o = 5 := of_decide_eq_true h
    have := f1 hf
    subst this
    congr 2
    unfold wordI
    omega
  · have hf : formI o ≠ 5 := of_decide_eq_false h
    have := f2 hf
    congr 2
    unfold wordI
    omega
end Go.Proofs.YtffpeieapadocaaGreatDoor.Ev
set_option maxRecDepth 10000
set_option maxHeartbeats 16000000
namespace Go.Proofs.YtffpeieapadocaaGreatDoor.Ev
open Go
noncomputable def b31_1 : CC := (.reg [⟨(some (.r .h)), .a (.al 26 [(.i .i64 0), (.i .i64 0), (.i .i64 0), (.i .i64 0), (.i .i64 0)]), none⟩, ⟨(some (.l (.l .h))), .q (.mv (.c (.i .i64 0))), none⟩])
theorem w31_1 (k : Kn) (s : St) (R : Ex → St → Prop) : Wp b31_1 k s R = Wp (.reg [⟨(some (.r .h)), .a (.al 26 [(.i .i64 0), (.i .i64 0), (.i .i64 0), (.i .i64 0), (.i .i64 0)]), none⟩, ⟨(some (.l (.l .h))), .q (.mv (.c (.i .i64 0))), none⟩]) k s R := rfl
noncomputable def b31_2 : CC := (.reg [⟨(some (.r (.l (.l .h)))), .q (.mv (.t .h)), none⟩, ⟨(some (.l (.r (.l .h)))), .q (.bi .and (.t (.r (.l (.l .h)))) (.c (.i .u32 255))), none⟩, ⟨(some (.r (.r (.l .h)))), .q (.ci .i64 (.t (.l (.r (.l .h))))), none⟩, ⟨(some (.l (.l (.r .h)))), .q (.bld [(.i .i64 0), (.i .i64 0), (.i .i64 0), (.i .i64 0), (.i .i64 0)] [(0, 1, (.t (.r (.r (.l .h)))))]), none⟩, ⟨(some (.r (.l .h))), .a (.al 26 [(.i .i64 0), (.i .i64 0), (.i .i64 0), (.i .i64 0), (.i .i64 0)]), none⟩, ⟨none, .e (.st 5 (.t (.r (.l .h))) (.t (.l (.l (.r .h))))), none⟩])
theorem w31_2 (k : Kn) (s : St) (R : Ex → St → Prop) : Wp b31_2 k s R = Wp (.reg [⟨(some (.r (.l (.l .h)))), .q (.mv (.t .h)), none⟩, ⟨(some (.l (.r (.l .h)))), .q (.bi .and (.t (.r (.l (.l .h)))) (.c (.i .u32 255))), none⟩, ⟨(some (.r (.r (.l .h)))), .q (.ci .i64 (.t (.l (.r (.l .h))))), none⟩, ⟨(some (.l (.l (.r .h)))), .q (.bld [(.i .i64 0), (.i .i64 0), (.i .i64 0), (.i .i64 0), (.i .i64 0)] [(0, 1, (.t (.r (.r (.l .h)))))]), none⟩, ⟨(some (.r (.l .h))), .a (.al 26 [(.i .i64 0), (.i .i64 0), (.i .i64 0), (.i .i64 0), (.i .i64 0)]), none⟩, ⟨none, .e (.st 5 (.t (.r (.l .h))) (.t (.l (.l (.r .h))))), none⟩]) k s R := rfl
noncomputable def b31_3 : CC := (.reg [⟨(some (.r (.l (.r .h)))), .q (.fa 0 (.t (.r (.l .h)))), none⟩, ⟨(some (.l (.r (.r .h)))), .q (.ld1 (.t (.r (.l (.r .h))))), none⟩, ⟨(some (.r (.r (.r .h)))), .e (.call 25 [(.t (.l (.r (.r .h))))]), none⟩, ⟨(some (.l (.l (.l (.l .h))))), .e (.call 40 [(.t (.r (.r (.r .h))))]), none⟩, ⟨(some (.l (.r .h))), .a (.al 80 [(.b false), (.b false), (.b false), (.b false)]), none⟩, ⟨none, .e (.st 4 (.t (.l (.r .h))) (.t (.l (.l (.l (.l .h)))))), none⟩])
theorem w31_3 (k : Kn) (s : St) (R : Ex → St → Prop) : Wp b31_3 k s R = Wp (.reg [⟨(some (.r (.l (.r .h)))), .q (.fa 0 (.t (.r (.l .h)))), none⟩, ⟨(some (.l (.r (.r .h)))), .q (.ld1 (.t (.r (.l (.r .h))))), none⟩, ⟨(some (.r (.r (.r .h)))), .e (.call 25 [(.t (.l (.r (.r .h))))]), none⟩, ⟨(some (.l (.l (.l (.l .h))))), .e (.call 40 [(.t (.r (.r (.r .h))))]), none⟩, ⟨(some (.l (.r .h))), .a (.al 80 [(.b false), (.b false), (.b false), (.b false)]), none⟩, ⟨none, .e (.st 4 (.t (.l (.r .h))) (.t (.l (.l (.l (.l .h)))))), none⟩]) k s R := rfl
noncomputable def b31_4 : CC := (.reg [⟨(some (.r (.l (.l (.l .h))))), .q (.fa 0 (.t (.l (.r .h)))), none⟩, ⟨(some (.l (.r (.l (.l .h))))), .q (.ld1 (.t (.r (.l (.l (.l .h)))))), none⟩])
theorem w31_4 (k : Kn) (s : St) (R : Ex → St → Prop) : Wp b31_4 k s R = Wp (.reg [⟨(some (.r (.l (.l (.l .h))))), .q (.fa 0 (.t (.l (.r .h)))), none⟩, ⟨(some (.l (.r (.l (.l .h))))), .q (.ld1 (.t (.r (.l (.l (.l .h)))))), none⟩]) k s R := rfl
noncomputable def b31_5 : CC := (.reg [⟨(some (.r (.r (.l (.l .h))))), .q (.mv (.t .h)), none⟩, ⟨(some (.l (.l (.r (.l .h))))), .q (.bi .shr (.t (.r (.r (.l (.l .h))))) (.c (.i .u64 12))), none⟩, ⟨(some (.r (.l (.r (.l .h))))), .q (.bi .and (.t (.l (.l (.r (.l .h))))) (.c (.i .u32 15))), none⟩, ⟨(some (.l (.r (.r (.l .h))))), .q (.ci .i64 (.t (.r (.l (.r (.l .h)))))), none⟩, ⟨(some (.r (.r (.r (.l .h))))), .q (.fa 1 (.t (.r (.l .h)))), none⟩, ⟨none, .e (.st 1 (.t (.r (.r (.r (.l .h))))) (.t (.l (.r (.r (.l .h)))))), none⟩])
theorem w31_5 (k : Kn) (s : St) (R : Ex → St → Prop) : Wp b31_5 k s R = Wp (.reg [⟨(some (.r (.r (.l (.l .h))))), .q (.mv (.t .h)), none⟩, ⟨(some (.l (.l (.r (.l .h))))), .q (.bi .shr (.t (.r (.r (.l (.l .h))))) (.c (.i .u64 12))), none⟩, ⟨(some (.r (.l (.r (.l .h))))), .q (.bi .and (.t (.l (.l (.r (.l .h))))) (.c (.i .u32 15))), none⟩, ⟨(some (.l (.r (.r (.l .h))))), .q (.ci .i64 (.t (.r (.l (.r (.l .h)))))), none⟩, ⟨(some (.r (.r (.r (.l .h))))), .q (.fa 1 (.t (.r (.l .h)))), none⟩, ⟨none, .e (.st 1 (.t (.r (.r (.r (.l .h))))) (.t (.l (.r (.r (.l .h)))))), none⟩]) k s R := rfl
noncomputable def b31_6 : CC := (.seq b31_4 (.cond (.t (.l (.r (.l (.l .h))))) b31_5 .skip))
theorem w31_6 (k : Kn) (s : St) (R : Ex → St → Prop) : Wp b31_6 k s R = Wp (.seq b31_4 (.cond (.t (.l (.r (.l (.l .h))))) b31_5 .skip)) k s R := rfl
noncomputable def b31_7 : CC := (.reg [⟨(some (.l (.l (.l (.r .h))))), .q (.fa 1 (.t (.l (.r .h)))), none⟩, ⟨(some (.r (.l (.l (.r .h))))), .q (.ld1 (.t (.l (.l (.l (.r .h)))))), none⟩])
theorem w31_7 (k : Kn) (s : St) (R : Ex → St → Prop) : Wp b31_7 k s R = Wp (.reg [⟨(some (.l (.l (.l (.r .h))))), .q (.fa 1 (.t (.l (.r .h)))), none⟩, ⟨(some (.r (.l (.l (.r .h))))), .q (.ld1 (.t (.l (.l (.l (.r .h)))))), none⟩]) k s R := rfl
noncomputable def b31_8 : CC := (.reg [⟨(some (.l (.r (.l (.r .h))))), .q (.mv (.t .h)), none⟩, ⟨(some (.r (.r (.l (.r .h))))), .q (.bi .shr (.t (.l (.r (.l (.r .h))))) (.c (.i .u64 8))), none⟩, ⟨(some (.l (.l (.r (.r .h))))), .q (.bi .and (.t (.r (.r (.l (.r .h))))) (.c (.i .u32 15))), none⟩, ⟨(some (.r (.l (.r (.r .h))))), .q (.ci .i64 (.t (.l (.l (.r (.r .h)))))), none⟩, ⟨(some (.l (.r (.r (.r .h))))), .q (.fa 2 (.t (.r (.l .h)))), none⟩, ⟨none, .e (.st 1 (.t (.l (.r (.r (.r .h))))) (.t (.r (.l (.r (.r .h)))))), none⟩])
theorem w31_8 (k : Kn) (s : St) (R : Ex → St → Prop) : Wp b31_8 k s R = Wp (.reg [⟨(some (.l (.r (.l (.r .h))))), .q (.mv (.t .h)), none⟩, ⟨(some (.r (.r (.l (.r .h))))), .q (.bi .shr (.t (.l (.r (.l (.r .h))))) (.c (.i .u64 8))), none⟩, ⟨(some (.l (.l (.r (.r .h))))), .q (.bi .and (.t (.r (.r (.l (.r .h))))) (.c (.i .u32 15))), none⟩, ⟨(some (.r (.l (.r (.r .h))))), .q (.ci .i64 (.t (.l (.l (.r (.r .h)))))), none⟩, ⟨(some (.l (.r (.r (.r .h))))), .q (.fa 2 (.t (.r (.l .h)))), none⟩, ⟨none, .e (.st 1 (.t (.l (.r (.r (.r .h))))) (.t (.r (.l (.r (.r .h)))))), none⟩]) k s R := rfl
noncomputable def b31_9 : CC := (.seq b31_7 (.cond (.t (.r (.l (.l (.r .h))))) b31_8 .skip))
theorem w31_9 (k : Kn) (s : St) (R : Ex → St → Prop) : Wp b31_9 k s R = Wp (.seq b31_7 (.cond (.t (.r (.l (.l (.r .h))))) b31_8 .skip)) k s R := rfl
noncomputable def b31_10 : CC := (.reg [⟨(some (.r (.r (.r (.r .h))))), .q (.fa 2 (.t (.l (.r .h)))), none⟩, ⟨(some (.l (.l (.l (.l (.l .h)))))), .q (.ld1 (.t (.r (.r (.r (.r .h)))))), none⟩])
theorem w31_10 (k : Kn) (s : St) (R : Ex → St → Prop) : Wp b31_10 k s R = Wp (.reg [⟨(some (.r (.r (.r (.r .h))))), .q (.fa 2 (.t (.l (.r .h)))), none⟩, ⟨(some (.l (.l (.l (.l (.l .h)))))), .q (.ld1 (.t (.r (.r (.r (.r .h)))))), none⟩]) k s R := rfl
noncomputable def b31_11 : CC := (.reg [⟨(some (.r (.l (.l (.l (.l .h)))))), .q (.mv (.t .h)), none⟩, ⟨(some (.l (.r (.l (.l (.l .h)))))), .q (.bi .shr (.t (.r (.l (.l (.l (.l .h)))))) (.c (.i .u64 16))), none⟩, ⟨(some (.r (.r (.l (.l (.l .h)))))), .q (.ci .i64 (.t (.l (.r (.l (.l (.l .h))))))), none⟩, ⟨(some (.l (.l (.r (.l (.l .h)))))), .q (.fa 3 (.t (.r (.l .h)))), none⟩, ⟨none, .e (.st 1 (.t (.l (.l (.r (.l (.l .h)))))) (.t (.r (.r (.l (.l (.l .h))))))), none⟩])
theorem w31_11 (k : Kn) (s : St) (R : Ex → St → Prop) : Wp b31_11 k s R = Wp (.reg [⟨(some (.r (.l (.l (.l (.l .h)))))), .q (.mv (.t .h)), none⟩, ⟨(some (.l (.r (.l (.l (.l .h)))))), .q (.bi .shr (.t (.r (.l (.l (.l (.l .h)))))) (.c (.i .u64 16))), none⟩, ⟨(some (.r (.r (.l (.l (.l .h)))))), .q (.ci .i64 (.t (.l (.r (.l (.l (.l .h))))))), none⟩, ⟨(some (.l (.l (.r (.l (.l .h)))))), .q (.fa 3 (.t (.r (.l .h)))), none⟩, ⟨none, .e (.st 1 (.t (.l (.l (.r (.l (.l .h)))))) (.t (.r (.r (.l (.l (.l .h))))))), none⟩]) k s R := rfl
noncomputable def b31_12 : CC := (.seq b31_10 (.cond (.t (.l (.l (.l (.l (.l .h)))))) b31_11 .skip))
theorem w31_12 (k : Kn) (s : St) (R : Ex → St → Prop) : Wp b31_12 k s R = Wp (.seq b31_10 (.cond (.t (.l (.l (.l (.l (.l .h)))))) b31_11 .skip)) k s R := rfl
noncomputable def b31_13 : CC := (.reg [⟨(some (.r (.l (.r (.l (.l .h)))))), .q (.fa 3 (.t (.l (.r .h)))), none⟩, ⟨(some (.l (.r (.r (.l (.l .h)))))), .q (.ld1 (.t (.r (.l (.r (.l (.l .h))))))), none⟩])
theorem w31_13 (k : Kn) (s : St) (R : Ex → St → Prop) : Wp b31_13 k s R = Wp (.reg [⟨(some (.r (.l (.r (.l (.l .h)))))), .q (.fa 3 (.t (.l (.r .h)))), none⟩, ⟨(some (.l (.r (.r (.l (.l .h)))))), .q (.ld1 (.t (.r (.l (.r (.l (.l .h))))))), none⟩]) k s R := rfl
noncomputable def b31_14 : CC := (.reg [⟨(some (.r (.r (.r (.l (.l .h)))))), .q (.mv (.t .h)), none⟩, ⟨(some (.l (.l (.l (.r (.l .h)))))), .q (.bi .shr (.t (.r (.r (.r (.l (.l .h)))))) (.c (.i .u64 16))), none⟩, ⟨(some (.r (.l (.l (.r (.l .h)))))), .q (.ci .i16 (.t (.l (.l (.l (.r (.l .h))))))), none⟩, ⟨(some (.l (.r (.l (.r (.l .h)))))), .q (.ci .i64 (.t (.r (.l (.l (.r (.l .h))))))), none⟩, ⟨(some (.r (.r (.l (.r (.l .h)))))), .q (.fa 4 (.t (.r (.l .h)))), none⟩, ⟨none, .e (.st 1 (.t (.r (.r (.l (.r (.l .h)))))) (.t (.l (.r (.l (.r (.l .h))))))), none⟩])
theorem w31_14 (k : Kn) (s : St) (R : Ex → St → Prop) : Wp b31_14 k s R = Wp (.reg [⟨(some (.r (.r (.r (.l (.l .h)))))), .q (.mv (.t .h)), none⟩, ⟨(some (.l (.l (.l (.r (.l .h)))))), .q (.bi .shr (.t (.r (.r (.r (.l (.l .h)))))) (.c (.i .u64 16))), none⟩, ⟨(some (.r (.l (.l (.r (.l .h)))))), .q (.ci .i16 (.t (.l (.l (.l (.r (.l .h))))))), none⟩, ⟨(some (.l (.r (.l (.r (.l .h)))))), .q (.ci .i64 (.t (.r (.l (.l (.r (.l .h))))))), none⟩, ⟨(some (.r (.r (.l (.r (.l .h)))))), .q (.fa 4 (.t (.r (.l .h)))), none⟩, ⟨none, .e (.st 1 (.t (.r (.r (.l (.r (.l .h)))))) (.t (.l (.r (.l (.r (.l .h))))))), none⟩]) k s R := rfl
noncomputable def b31_15 : CC := (.reg [⟨(some (.l (.l (.r (.r (.l .h)))))), .q (.fa 0 (.t (.r (.l .h)))), none⟩, ⟨(some (.r (.l (.r (.r (.l .h)))))), .q (.ld1 (.t (.l (.l (.r (.r (.l .h))))))), none⟩, ⟨(some (.l (.r (.r (.r (.l .h)))))), .e (.call 54 [(.t (.r (.l (.r (.r (.l .h))))))]), none⟩])
theorem w31_15 (k : Kn) (s : St) (R : Ex → St → Prop) : Wp b31_15 k s R = Wp (.reg [⟨(some (.l (.l (.r (.r (.l .h)))))), .q (.fa 0 (.t (.r (.l .h)))), none⟩, ⟨(some (.r (.l (.r (.r (.l .h)))))), .q (.ld1 (.t (.l (.l (.r (.r (.l .h))))))), none⟩, ⟨(some (.l (.r (.r (.r (.l .h)))))), .e (.call 54 [(.t (.r (.l (.r (.r (.l .h))))))]), none⟩]) k s R := rfl
noncomputable def b31_16 : CC := (.reg [⟨(some (.r (.r (.r (.r (.l .h)))))), .q (.mv (.t .h)), none⟩, ⟨(some (.l (.l (.l (.l (.r .h)))))), .q (.bi .shr (.t (.r (.r (.r (.r (.l .h)))))) (.c (.i .u64 16))), none⟩, ⟨(some (.r (.l (.l (.l (.r .h)))))), .q (.ci .i64 (.t (.l (.l (.l (.l (.r .h))))))), none⟩, ⟨(some (.l (.r (.l (.l (.r .h)))))), .q (.fa 4 (.t (.r (.l .h)))), none⟩, ⟨none, .e (.st 1 (.t (.l (.r (.l (.l (.r .h)))))) (.t (.r (.l (.l (.l (.r .h))))))), none⟩])
theorem w31_16 (k : Kn) (s : St) (R : Ex → St → Prop) : Wp b31_16 k s R = Wp (.reg [⟨(some (.r (.r (.r (.r (.l .h)))))), .q (.mv (.t .h)), none⟩, ⟨(some (.l (.l (.l (.l (.r .h)))))), .q (.bi .shr (.t (.r (.r (.r (.r (.l .h)))))) (.c (.i .u64 16))), none⟩, ⟨(some (.r (.l (.l (.l (.r .h)))))), .q (.ci .i64 (.t (.l (.l (.l (.l (.r .h))))))), none⟩, ⟨(some (.l (.r (.l (.l (.r .h)))))), .q (.fa 4 (.t (.r (.l .h)))), none⟩, ⟨none, .e (.st 1 (.t (.l (.r (.l (.l (.r .h)))))) (.t (.r (.l (.l (.l (.r .h))))))), none⟩]) k s R := rfl
noncomputable def b31_17 : CC := (.seq b31_15 (.cond (.t (.l (.r (.r (.r (.l .h)))))) b31_16 .skip))
theorem w31_17 (k : Kn) (s : St) (R : Ex → St → Prop) : Wp b31_17 k s R = Wp (.seq b31_15 (.cond (.t (.l (.r (.r (.r (.l .h)))))) b31_16 .skip)) k s R := rfl
noncomputable def b31_18 : CC := (.cond (.t (.l (.r (.r (.l (.l .h)))))) (.seq b31_14 b31_17) .skip)
theorem w31_18 (k : Kn) (s : St) (R : Ex → St → Prop) : Wp b31_18 k s R = Wp (.cond (.t (.l (.r (.r (.l (.l .h)))))) (.seq b31_14 b31_17) .skip) k s R := rfl
noncomputable def b31_19 : CC := (.reg [⟨(some (.l (.l (.r (.l (.r .h)))))), .q (.ldn 5 (.t (.r (.l .h)))), none⟩, ⟨(some (.r (.l (.r (.l (.r .h)))))), .e (.call 10 [(.t (.l (.l (.r (.l (.r .h))))))]), none⟩, ⟨(some (.r (.r (.l (.l (.r .h)))))), .q (.mv (.t (.r (.l (.r (.l (.r .h))))))), none⟩, ⟨(some (.l (.r (.r (.l (.r .h)))))), .q (.ex 0 (.t (.r (.r (.l (.l (.r .h))))))), none⟩, ⟨(some (.r (.r (.r (.l (.r .h)))))), .q (.ex 1 (.t (.r (.r (.l (.l (.r .h))))))), none⟩, ⟨(some (.r (.r .h))), .q (.mv (.t (.l (.r (.r (.l (.r .h))))))), none⟩, ⟨(some (.l (.l (.l .h)))), .q (.mv (.t (.r (.r (.r (.l (.r .h))))))), none⟩])
theorem w31_19 (k : Kn) (s : St) (R : Ex → St → Prop) : Wp b31_19 k s R = Wp (.reg [⟨(some (.l (.l (.r (.l (.r .h)))))), .q (.ldn 5 (.t (.r (.l .h)))), none⟩, ⟨(some (.r (.l (.r (.l (.r .h)))))), .e (.call 10 [(.t (.l (.l (.r (.l (.r .h))))))]), none⟩, ⟨(some (.r (.r (.l (.l (.r .h)))))), .q (.mv (.t (.r (.l (.r (.l (.r .h))))))), none⟩, ⟨(some (.l (.r (.r (.l (.r .h)))))), .q (.ex 0 (.t (.r (.r (.l (.l (.r .h))))))), none⟩, ⟨(some (.r (.r (.r (.l (.r .h)))))), .q (.ex 1 (.t (.r (.r (.l (.l (.r .h))))))), none⟩, ⟨(some (.r (.r .h))), .q (.mv (.t (.l (.r (.r (.l (.r .h))))))), none⟩, ⟨(some (.l (.l (.l .h)))), .q (.mv (.t (.r (.r (.r (.l (.r .h))))))), none⟩]) k s R := rfl
noncomputable def b31_20 : CC := (.reg [⟨(some (.l (.l (.l (.r (.r .h)))))), .q (.mv (.t (.l (.l (.l .h))))), none⟩, ⟨(some (.r (.l (.l (.r (.r .h)))))), .q (.bi .neq (.t (.l (.l (.l (.r (.r .h)))))) (.c (.i .i64 0))), none⟩, ⟨(some (.l (.r (.l (.r (.r .h)))))), .q (.mv (.t (.r (.l (.l (.r (.r .h))))))), none⟩, ⟨(some (.r (.r (.l (.r (.r .h)))))), .q (.mv (.t (.r (.r .h)))), (some ((.l (.r (.l (.r (.r .h))))), false))⟩, ⟨(some (.l (.l (.r (.r (.r .h)))))), .q (.mv (.t .h)), (some ((.l (.r (.l (.r (.r .h))))), false))⟩, ⟨(some (.r (.l (.r (.r (.r .h)))))), .q (.bi .neq (.t (.r (.r (.l (.r (.r .h)))))) (.t (.l (.l (.r (.r (.r .h))))))), (some ((.l (.r (.l (.r (.r .h))))), false))⟩, ⟨(some (.l (.r (.r (.r (.r .h)))))), .q (.pk (.t (.l (.r (.l (.r (.r .h)))))) (.c (.b true)) (.t (.r (.l (.r (.r (.r .h))))))), none⟩])
theorem w31_20 (k : Kn) (s : St) (R : Ex → St → Prop) : Wp b31_20 k s R = Wp (.reg [⟨(some (.l (.l (.l (.r (.r .h)))))), .q (.mv (.t (.l (.l (.l .h))))), none⟩, ⟨(some (.r (.l (.l (.r (.r .h)))))), .q (.bi .neq (.t (.l (.l (.l (.r (.r .h)))))) (.c (.i .i64 0))), none⟩, ⟨(some (.l (.r (.l (.r (.r .h)))))), .q (.mv (.t (.r (.l (.l (.r (.r .h))))))), none⟩, ⟨(some (.r (.r (.l (.r (.r .h)))))), .q (.mv (.t (.r (.r .h)))), (some ((.l (.r (.l (.r (.r .h))))), false))⟩, ⟨(some (.l (.l (.r (.r (.r .h)))))), .q (.mv (.t .h)), (some ((.l (.r (.l (.r (.r .h))))), false))⟩, ⟨(some (.r (.l (.r (.r (.r .h)))))), .q (.bi .neq (.t (.r (.r (.l (.r (.r .h)))))) (.t (.l (.l (.r (.r (.r .h))))))), (some ((.l (.r (.l (.r (.r .h))))), false))⟩, ⟨(some (.l (.r (.r (.r (.r .h)))))), .q (.pk (.t (.l (.r (.l (.r (.r .h)))))) (.c (.b true)) (.t (.r (.l (.r (.r (.r .h))))))), none⟩]) k s R := rfl
noncomputable def b31_21 : CC := (.reg [⟨(some (.r (.r (.r (.r (.r .h)))))), .q (.bld [(.i .i64 0), (.i .i64 0), (.i .i64 0), (.i .i64 0), (.i .i64 0)] []), none⟩, ⟨none, .e (.st 5 (.t (.r .h)) (.t (.r (.r (.r (.r (.r .h))))))), none⟩, ⟨(some (.l (.l .h))), .q (.mv (.c (.i .i64 4))), none⟩])
theorem w31_21 (k : Kn) (s : St) (R : Ex → St → Prop) : Wp b31_21 k s R = Wp (.reg [⟨(some (.r (.r (.r (.r (.r .h)))))), .q (.bld [(.i .i64 0), (.i .i64 0), (.i .i64 0), (.i .i64 0), (.i .i64 0)] []), none⟩, ⟨none, .e (.st 5 (.t (.r .h)) (.t (.r (.r (.r (.r (.r .h))))))), none⟩, ⟨(some (.l (.l .h))), .q (.mv (.c (.i .i64 4))), none⟩]) k s R := rfl
noncomputable def b31_22 : CC := (.cond (.t (.l (.r (.r (.r (.r .h)))))) (.seq b31_21 .ret) .skip)
theorem w31_22 (k : Kn) (s : St) (R : Ex → St → Prop) : Wp b31_22 k s R = Wp (.cond (.t (.l (.r (.r (.r (.r .h)))))) (.seq b31_21 .ret) .skip) k s R := rfl
noncomputable def b31_23 : CC := (.reg [⟨(some (.l (.l (.l (.l (.l (.l .h))))))), .q (.ldn 5 (.t (.r (.l .h)))), none⟩, ⟨none, .e (.st 5 (.t (.r .h)) (.t (.l (.l (.l (.l (.l (.l .h)))))))), none⟩, ⟨(some (.l (.l .h))), .q (.mv (.c (.i .i64 0))), none⟩])
theorem w31_23 (k : Kn) (s : St) (R : Ex → St → Prop) : Wp b31_23 k s R = Wp (.reg [⟨(some (.l (.l (.l (.l (.l (.l .h))))))), .q (.ldn 5 (.t (.r (.l .h)))), none⟩, ⟨none, .e (.st 5 (.t (.r .h)) (.t (.l (.l (.l (.l (.l (.l .h)))))))), none⟩, ⟨(some (.l (.l .h))), .q (.mv (.c (.i .i64 0))), none⟩]) k s R := rfl
noncomputable def b31_24 : CC := (.seq (.seq b31_19 (.seq b31_20 b31_22)) (.seq b31_23 .ret))
theorem w31_24 (k : Kn) (s : St) (R : Ex → St → Prop) : Wp b31_24 k s R = Wp (.seq (.seq b31_19 (.seq b31_20 b31_22)) (.seq b31_23 .ret)) k s R := rfl
noncomputable def b31_25 : CC := (.seq b31_9 (.seq b31_12 (.seq (.seq b31_13 b31_18) b31_24)))
theorem w31_25 (k : Kn) (s : St) (R : Ex → St → Prop) : Wp b31_25 k s R = Wp (.seq b31_9 (.seq b31_12 (.seq (.seq b31_13 b31_18) b31_24))) k s R := rfl
noncomputable def c31 : CF := .mk 7 [.cn (.r .h) 5, .t (.l (.l .h))] (.seq b31_1 (.seq b31_2 (.seq b31_3 (.seq b31_6 b31_25))))
theorem e31 (v0 : V) : argTr 7 [v0] = (.n (.n (.n (.n (.n (.n (.n .e none .e) none (.n .e none .e)) none (.n (.n .e none .e) none (.n .e none .e))) none (.n (.n (.n .e none .e) none (.n .e none .e)) none (.n (.n .e none .e) none (.n .e none .e)))) none (.n (.n (.n (.n .e none .e) none (.n .e none .e)) none (.n (.n .e none .e) none (.n .e none .e))) none (.n (.n (.n .e none .e) none (.n .e none .e)) none (.n (.n .e none .e) none (.n .e none .e))))) none (.n (.n (.n (.n (.n .e none .e) none (.n .e none .e)) none (.n (.n .e none .e) none (.n .e none .e))) none (.n (.n (.n .e none .e) none (.n .e none .e)) none (.n (.n .e none .e) none (.n .e none .e)))) none (.n (.n (.n (.n .e none .e) none (.n .e none .e)) none (.n (.n .e none .e) none (.n .e none .e))) none (.n (.n (.n .e none .e) none (.n .e none .e)) none (.n (.n .e none .e) none (.n .e none .e)))))) (some v0) (.n (.n (.n (.n (.n (.n .e none .e) none (.n .e none .e)) none (.n (.n .e none .e) none (.n .e none .e))) none (.n (.n (.n .e none .e) none (.n .e none .e)) none (.n (.n .e none .e) none (.n .e none .e)))) none (.n (.n (.n (.n .e none .e) none (.n .e none .e)) none (.n (.n .e none .e) none (.n .e none .e))) none (.n (.n (.n .e none .e) none (.n .e none .e)) none (.n (.n .e none .e) none (.n .e none .e))))) none (.n (.n (.n (.n (.n .e none .e) none (.n .e none .e)) none (.n (.n .e none .e) none (.n .e none .e))) none (.n (.n (.n .e none .e) none (.n .e none .e)) none (.n (.n .e none .e) none (.n .e none .e)))) none (.n (.n (.n (.n .e none .e) none (.n .e none .e)) none (.n (.n .e none .e) none (.n .e none .e))) none (.n (.n (.n .e none .e) none (.n .e none .e)) none (.n (.n .e none .e) none (.n .e none .e))))))) := rfl
def w10 (op d a b i : Int) : Int := if mayI op d a b i = true then (wordI op d a b i : Nat) else 0
def er10 (op d a b i : Int) : Int := if mayI op d a b i = true then 0 else 2
def h10 : List V → Option V
  | [.g [.i .i64 op, .i .i64 d, .i .i64 a, .i .i64 b, .i .i64 i]] => some (.t [.i .u32 (w10 op d a b i), .i .i64 (er10 op d a b i)])
  | _ => none
theorem h10_eq (op d a b i : Int) : h10 [.g [.i .i64 op, .i .i64 d, .i .i64 a, .i .i64 b, .i .i64 i]] = some (.t [.i .u32 (w10 op d a b i), .i .i64 (er10 op d a b i)]) := rfl
def opW (w : Nat) : Int := ((w % 256 : Nat) : Int)
def dW (w : Nat) : Int := if dI (formI (opW w)) = true then ((w / 4096 % 16 : Nat) : Int) else 0
def aW (w : Nat) : Int := if aI (formI (opW w)) = true then ((w / 256 % 16 : Nat) : Int) else 0
def bW (w : Nat) : Int := if bI (formI (opW w)) = true then ((w / 65536 : Nat) : Int) else 0
def s16 (w : Nat) : Int := if 32768 ≤ w / 65536 then ((w / 65536 : Nat) : Int) - 65536 else ((w / 65536 : Nat) : Int)
def iW (w : Nat) : Int := if iI (formI (opW w)) = true then (if opW w = 3 ∨ opW w = 6 then ((w / 65536 : Nat) : Int) else s16 w) else 0
noncomputable def ofV (w : Nat) : V :=
  if mayI (opW w) (dW w) (aW w) (bW w) (iW w) = true ∧ wordI (opW w) (dW w) (aW w) (bW w) (iW w) = w then .t [.g [.i .i64 (opW w), .i .i64 (dW w), .i .i64 (aW w), .i .i64 (bW w), .i .i64 (iW w)], .i .i64 0]
  else .t [.g [.i .i64 0, .i .i64 0, .i .i64 0, .i .i64 0, .i .i64 0], .i .i64 4]
theorem i64_nat (n : Nat) (h : n < 9223372036854775808) : IntKind.i64.wrap (n : Int) = (n : Int) := wrap_i64 (by omega) (by omega)
theorem u32_and255 (w : Nat) (hw : w < 4294967296) : biV .and (.i .u32 (w : Int)) (.i .u32 255) = some (.i .u32 ((w % 256 : Nat) : Int)) := by
  have := u32_and w 255 hw (by decide)
  rw [show (255 : Nat) = 2 ^ 8 - 1 from rfl, Nat.and_two_pow_sub_one_eq_mod] at this
  exact this
theorem u32_and15 (w : Nat) (hw : w < 4294967296) : biV .and (.i .u32 (w : Int)) (.i .u32 15) = some (.i .u32 ((w % 16 : Nat) : Int)) := by
  have := u32_and w 15 hw (by decide)
  rw [show (15 : Nat) = 2 ^ 4 - 1 from rfl, Nat.and_two_pow_sub_one_eq_mod] at this
  exact this
theorem u32_shr12 (w : Nat) : biV .shr (.i .u32 (w : Int)) (.i .u64 12) = some (.i .u32 ((w / 4096 : Nat) : Int)) := u32_shr w 12 (by decide)
theorem u32_shr8 (w : Nat) : biV .shr (.i .u32 (w : Int)) (.i .u64 8) = some (.i .u32 ((w / 256 : Nat) : Int)) := u32_shr w 8 (by decide)
theorem u32_shr16 (w : Nat) : biV .shr (.i .u32 (w : Int)) (.i .u64 16) = some (.i .u32 ((w / 65536 : Nat) : Int)) := u32_shr w 16 (by decide)
theorem s16_eq (w : Nat) (hw : w < 4294967296) : IntKind.i16.wrap ((w / 65536 : Nat) : Int) = s16 w := by
  rw [wrap_i16]
  unfold s16
  split <;> split <;> omega
theorem s16_i64 (w : Nat) (hw : w < 4294967296) : IntKind.i64.wrap (s16 w) = s16 w := by
  unfold s16
  split <;> exact wrap_i64 (by omega) (by omega)
theorem ofN1 {op d a b i : Int} {w : Nat} (h : decide (er10 op d a b i ≠ 0) = (!false)) : ¬ (mayI op d a b i = true ∧ wordI op d a b i = w) := by
  have h' := of_decide_eq_true (show decide (er10 op d a b i ≠ 0) = true from h)
  unfold er10 at h'
  intro hh
  rw [if_pos hh.1] at h'
  exact h' rfl
theorem ofN2 {op d a b i : Int} {w : Nat} (h : decide (w10 op d a b i ≠ (w : Int)) = true) : ¬ (mayI op d a b i = true ∧ wordI op d a b i = w) := by
  have h' := of_decide_eq_true h
  unfold w10 at h'
  intro hh
  rw [if_pos hh.1, hh.2] at h'
  exact h' rfl
theorem ofY {op d a b i : Int} {w : Nat} (h : decide (er10 op d a b i ≠ 0) = false) (h2 : decide (w10 op d a b i ≠ (w : Int)) = false) : mayI op d a b i = true ∧ wordI op d a b i = w := by
  have h' := of_decide_eq_false h
  have h2' := of_decide_eq_false h2
  unfold er10 at h'
  unfold w10 at h2'
  by_cases hm : mayI op d a b i = true
  · rw [if_pos hm] at h2'
    refine ⟨hm, ?_⟩
    have := Classical.not_not.1 h2'
    omega
  · rw [if_neg hm] at h'
    exact absurd (by decide) h'
theorem t31 (Φ : Nat → Option CF) (h : Φ 31 = some c31) (h25 : Φ 25 = some (.orc (pureO h25))) (h40 : Φ 40 = some (.orc (pureO h40))) (h54 : Φ 54 = some (.orc (pureO h54))) (h10 : Φ 10 = some (.orc (pureO h10))) (w : Nat) (hw : w < 4294967296) (ct : Nat) :
    To Φ 31 [.i .u32 (w : Int)] ct (ofV w) := by
  refine to_walk h ?_
  have q1 := u32_and255 w hw
  have q2 := i64_nat (w % 256) (by omega)
  have q3 := u32_shr12 w
  have q4 := u32_and15 (w / 4096) (by omega)
  have q5 := i64_nat (w / 4096 % 16) (by omega)
  have q6 := u32_shr8 w
  have q7 := u32_and15 (w / 256) (by omega)
  have q8 := i64_nat (w / 256 % 16) (by omega)
  have q9 := u32_shr16 w
  have q10 := i64_nat (w / 65536) (by omega)
  have q11 := s16_eq w hw
  have q12 := s16_i64 w hw
  unfold ofV dW aW bW iW
  have hop : opW w = ((w % 256 : Nat) : Int) := rfl
  rw [hop]
  generalize ((w % 256 : Nat) : Int) = op at *
  rcases formI_cases op with hf | hf | hf | hf | hf | hf | hf
  all_goals
    simp only [wp_seq, seqQ_nrm, wp_reg, wp_skip, wo_nil, xo_q, xo_a, xo_e, xo_e0, wp_condT, wp_condF, putO, putA, putE, putE0, v_mv, v_bi, bi_neq, v_ld1, v_ldn, ld1_p, ldn_p, load1_same, v_fa, e_st_eq, er_some, xo_call, callC_orc, ev_t, ev_c, evs_nil, evs_cons, Tr.setP_h, Tr.setP_l, Tr.setP_r, getT_h, getT_l, getT_r, Nat.reduceBEq, Int.reduceEq, List.getElem?_cons_zero, List.getElem?_cons_succ, Bool.false_eq_true, decide_true, decide_false, if_true, if_false, pureO_of, ofO_some, flatten_i, flatten_g, allOne_nil, allOne_cons, isOne_b, isOne_i, Bool.and_true, evP_nil, evP_cons, fillV_nil, fillV_cons, over_nil, over_cons, List.set_cons_zero, List.set_cons_succ, List.length_cons, List.length_nil, Nat.reduceAdd, Nat.reduceLeDiff, Nat.zero_add, v_bld, replL_over, v_ex, v_ci, load1_ne, loadN_ne, loadN_same, storeN_same, storeN_ne', mapS_some, a_al_eq, List.drop_zero, List.take_succ_cons, List.take_nil, Option.map_some, ne_add, Nat.add_assoc, or_self, or_true, or_false, e31, w31_1, w31_2, w31_3, w31_4, w31_5, w31_6, w31_7, w31_8, w31_9, w31_10, w31_11, w31_12, w31_13, w31_14, w31_15, w31_17, w31_18, w31_19, w31_20, w31_24, w31_25, h25, h25_eq, h40, h40_eq, h54, h54_eq, hf, dI, aI, bI, iI, q1, q2, q3, q4, q5, q6, q7, q8, q9, q10, q11, q12, h10, h10_eq]
    repeat' first | (refine wp_cond (by simp only [ev_t, getT_h, getT_l, getT_r]; rfl) (fun h => ?_) (fun h => ?_) <;> simp only [wp_seq, seqQ_nrm, seqQ_ret, wp_reg, wp_ret, wp_skip, wo_nil, xo_q, xo_e, xo_e0, putO, putE, putE0, v_mv, v_bi, bi_neq, v_ldn, ldn_p, v_fa, e_st_eq, er_some, xo_call, callC_orc, ev_t, ev_c, evs_nil, evs_cons, Tr.setP_h, Tr.setP_l, Tr.setP_r, getT_h, getT_l, getT_r, Nat.reduceBEq, List.getElem?_cons_zero, List.getElem?_cons_succ, endQ_ret, endO, resV_nil', resV_t, consO_some, oneV_two, if_true, pureO_of, ofO_some, flatten_i, flatten_g, allOne_nil, allOne_cons, isOne_i, Bool.and_true, evP_nil, fillV_nil, over_nil, over_cons, List.set_cons_zero, List.set_cons_succ, List.length_cons, List.length_nil, Nat.reduceAdd, Nat.reduceLeDiff, Nat.zero_add, v_bld, v_ex, v_ci, resV_cn, loadN_ne, loadN_same, storeN_same, storeN_ne', mapS_some, List.drop_zero, List.take_succ_cons, List.take_nil, Option.map_some, ne_add0, ne_add, w31_16, w31_19, w31_20, w31_21, w31_23, w31_24, h, h10, h10_eq, q9, q10]) | (refine wo_g (by simp only [getT_h, getT_l, getT_r]; rfl) (fun h => ?_) (fun h => ?_) <;> simp only [wp_seq, seqQ_nrm, seqQ_ret, wp_reg, wp_ret, wo_nil, xo_q, xo_e0, wo_gT, wo_gF, wp_condT, putO, putE0, setT_some, v_mv, v_pk, pkV_T, pkV_F, v_bi, bi_neq, e_st_eq, er_some, ev_t, ev_c, Tr.setP_h, Tr.setP_l, Tr.setP_r, getT_h, getT_l, getT_r, endQ_ret, endO, resV_nil', resV_t, consO_some, oneV_two, Bool.not_false, if_true, flatten_g, allOne_nil, allOne_cons, isOne_i, Bool.and_true, evP_nil, fillV_nil, over_nil, over_cons, List.set_cons_zero, List.set_cons_succ, List.length_cons, List.length_nil, Nat.reduceAdd, Nat.reduceLeDiff, Nat.zero_add, v_bld, resV_cn, loadN_ne, loadN_same, storeN_same, storeN_ne', mapS_some, List.drop_zero, List.take_succ_cons, List.take_nil, Option.map_some, ne_add0, w31_21, w31_22, h])
  all_goals first
    | rw [if_pos (show op = 3 ∨ op = 6 from of_decide_eq_true (by assumption))]
    | rw [if_neg (show ¬ (op = 3 ∨ op = 6) from of_decide_eq_false (by assumption))]
    | skip
  all_goals first
    | rw [if_pos (ofY (by assumption) (by assumption))]
    | rw [if_neg (ofN2 (by assumption))]
    | rw [if_neg (ofN1 (by assumption))]
end Go.Proofs.YtffpeieapadocaaGreatDoor.Ev
set_option maxRecDepth 10000
set_option maxHeartbeats 16000000
namespace Go.Proofs.YtffpeieapadocaaGreatDoor.Ev
open Go
noncomputable def b32_1 : CC := (.reg [⟨(some (.r .h)), .a (.al 26 [(.i .i64 0), (.i .i64 0), (.i .i64 0), (.i .i64 0), (.i .i64 0)]), none⟩, ⟨(some (.l (.l .h))), .q (.mv (.c (.i .i64 0))), none⟩])
theorem w32_1 (k : Kn) (s : St) (R : Ex → St → Prop) : Wp b32_1 k s R = Wp (.reg [⟨(some (.r .h)), .a (.al 26 [(.i .i64 0), (.i .i64 0), (.i .i64 0), (.i .i64 0), (.i .i64 0)]), none⟩, ⟨(some (.l (.l .h))), .q (.mv (.c (.i .i64 0))), none⟩]) k s R := rfl
noncomputable def b32_2 : CC := (.reg [⟨(some (.l (.r (.l .h)))), .q (.mv (.t .h)), none⟩, ⟨(some (.r (.r (.l .h)))), .q (.bi .and (.t (.l (.r (.l .h)))) (.c (.i .u32 255))), none⟩, ⟨(some (.l (.l (.r .h)))), .q (.ci .i64 (.t (.r (.r (.l .h))))), none⟩, ⟨(some (.r (.l (.r .h)))), .q (.bld [(.i .i64 0), (.i .i64 0), (.i .i64 0), (.i .i64 0), (.i .i64 0)] [(0, 1, (.t (.l (.l (.r .h)))))]), none⟩, ⟨(some (.r (.l .h))), .a (.al 26 [(.i .i64 0), (.i .i64 0), (.i .i64 0), (.i .i64 0), (.i .i64 0)]), none⟩, ⟨none, .e (.st 5 (.t (.r (.l .h))) (.t (.r (.l (.r .h))))), none⟩])
theorem w32_2 (k : Kn) (s : St) (R : Ex → St → Prop) : Wp b32_2 k s R = Wp (.reg [⟨(some (.l (.r (.l .h)))), .q (.mv (.t .h)), none⟩, ⟨(some (.r (.r (.l .h)))), .q (.bi .and (.t (.l (.r (.l .h)))) (.c (.i .u32 255))), none⟩, ⟨(some (.l (.l (.r .h)))), .q (.ci .i64 (.t (.r (.r (.l .h))))), none⟩, ⟨(some (.r (.l (.r .h)))), .q (.bld [(.i .i64 0), (.i .i64 0), (.i .i64 0), (.i .i64 0), (.i .i64 0)] [(0, 1, (.t (.l (.l (.r .h)))))]), none⟩, ⟨(some (.r (.l .h))), .a (.al 26 [(.i .i64 0), (.i .i64 0), (.i .i64 0), (.i .i64 0), (.i .i64 0)]), none⟩, ⟨none, .e (.st 5 (.t (.r (.l .h))) (.t (.r (.l (.r .h))))), none⟩]) k s R := rfl
noncomputable def b32_3 : CC := (.reg [⟨(some (.r (.r (.r .h)))), .q (.fa 0 (.t (.r (.l .h)))), none⟩, ⟨(some (.l (.l (.l (.l .h))))), .q (.ld1 (.t (.r (.r (.r .h))))), none⟩, ⟨(some (.r (.l (.l (.l .h))))), .e (.call 26 [(.t (.l (.l (.l (.l .h)))))]), none⟩, ⟨(some (.l (.r (.l (.l .h))))), .e (.call 38 [(.t (.r (.l (.l (.l .h)))))]), none⟩, ⟨(some (.l (.r (.r .h)))), .q (.mv (.t (.l (.r (.l (.l .h)))))), none⟩, ⟨(some (.r (.r (.l (.l .h))))), .q (.ex 0 (.t (.l (.r (.r .h))))), none⟩, ⟨(some (.l (.l (.r (.l .h))))), .q (.ex 1 (.t (.l (.r (.r .h))))), none⟩, ⟨(some (.r (.l (.r (.l .h))))), .q (.ex 2 (.t (.l (.r (.r .h))))), none⟩, ⟨(some (.l (.r (.r (.l .h))))), .q (.ex 3 (.t (.l (.r (.r .h))))), none⟩, ⟨(some (.l (.r .h))), .q (.mv (.t (.r (.r (.l (.l .h)))))), none⟩, ⟨(some (.r (.r .h))), .q (.mv (.t (.l (.l (.r (.l .h)))))), none⟩, ⟨(some (.l (.l (.l .h)))), .q (.mv (.t (.r (.l (.r (.l .h)))))), none⟩, ⟨(some (.r (.l (.l .h)))), .q (.mv (.t (.l (.r (.r (.l .h)))))), none⟩])
theorem w32_3 (k : Kn) (s : St) (R : Ex → St → Prop) : Wp b32_3 k s R = Wp (.reg [⟨(some (.r (.r (.r .h)))), .q (.fa 0 (.t (.r (.l .h)))), none⟩, ⟨(some (.l (.l (.l (.l .h))))), .q (.ld1 (.t (.r (.r (.r .h))))), none⟩, ⟨(some (.r (.l (.l (.l .h))))), .e (.call 26 [(.t (.l (.l (.l (.l .h)))))]), none⟩, ⟨(some (.l (.r (.l (.l .h))))), .e (.call 38 [(.t (.r (.l (.l (.l .h)))))]), none⟩, ⟨(some (.l (.r (.r .h)))), .q (.mv (.t (.l (.r (.l (.l .h)))))), none⟩, ⟨(some (.r (.r (.l (.l .h))))), .q (.ex 0 (.t (.l (.r (.r .h))))), none⟩, ⟨(some (.l (.l (.r (.l .h))))), .q (.ex 1 (.t (.l (.r (.r .h))))), none⟩, ⟨(some (.r (.l (.r (.l .h))))), .q (.ex 2 (.t (.l (.r (.r .h))))), none⟩, ⟨(some (.l (.r (.r (.l .h))))), .q (.ex 3 (.t (.l (.r (.r .h))))), none⟩, ⟨(some (.l (.r .h))), .q (.mv (.t (.r (.r (.l (.l .h)))))), none⟩, ⟨(some (.r (.r .h))), .q (.mv (.t (.l (.l (.r (.l .h)))))), none⟩, ⟨(some (.l (.l (.l .h)))), .q (.mv (.t (.r (.l (.r (.l .h)))))), none⟩, ⟨(some (.r (.l (.l .h)))), .q (.mv (.t (.l (.r (.r (.l .h)))))), none⟩]) k s R := rfl
noncomputable def b32_4 : CC := (.reg [⟨(some (.r (.r (.r (.l .h))))), .q (.mv (.t (.l (.r .h)))), none⟩])
theorem w32_4 (k : Kn) (s : St) (R : Ex → St → Prop) : Wp b32_4 k s R = Wp (.reg [⟨(some (.r (.r (.r (.l .h))))), .q (.mv (.t (.l (.r .h)))), none⟩]) k s R := rfl
noncomputable def b32_5 : CC := (.reg [⟨(some (.l (.l (.l (.r .h))))), .q (.mv (.t .h)), none⟩, ⟨(some (.r (.l (.l (.r .h))))), .q (.bi .shr (.t (.l (.l (.l (.r .h))))) (.c (.i .u64 12))), none⟩, ⟨(some (.l (.r (.l (.r .h))))), .q (.bi .and (.t (.r (.l (.l (.r .h))))) (.c (.i .u32 15))), none⟩, ⟨(some (.r (.r (.l (.r .h))))), .q (.ci .i64 (.t (.l (.r (.l (.r .h)))))), none⟩, ⟨(some (.l (.l (.r (.r .h))))), .q (.fa 1 (.t (.r (.l .h)))), none⟩, ⟨none, .e (.st 1 (.t (.l (.l (.r (.r .h))))) (.t (.r (.r (.l (.r .h)))))), none⟩])
theorem w32_5 (k : Kn) (s : St) (R : Ex → St → Prop) : Wp b32_5 k s R = Wp (.reg [⟨(some (.l (.l (.l (.r .h))))), .q (.mv (.t .h)), none⟩, ⟨(some (.r (.l (.l (.r .h))))), .q (.bi .shr (.t (.l (.l (.l (.r .h))))) (.c (.i .u64 12))), none⟩, ⟨(some (.l (.r (.l (.r .h))))), .q (.bi .and (.t (.r (.l (.l (.r .h))))) (.c (.i .u32 15))), none⟩, ⟨(some (.r (.r (.l (.r .h))))), .q (.ci .i64 (.t (.l (.r (.l (.r .h)))))), none⟩, ⟨(some (.l (.l (.r (.r .h))))), .q (.fa 1 (.t (.r (.l .h)))), none⟩, ⟨none, .e (.st 1 (.t (.l (.l (.r (.r .h))))) (.t (.r (.r (.l (.r .h)))))), none⟩]) k s R := rfl
noncomputable def b32_6 : CC := (.seq b32_4 (.cond (.t (.r (.r (.r (.l .h))))) b32_5 .skip))
theorem w32_6 (k : Kn) (s : St) (R : Ex → St → Prop) : Wp b32_6 k s R = Wp (.seq b32_4 (.cond (.t (.r (.r (.r (.l .h))))) b32_5 .skip)) k s R := rfl
noncomputable def b32_7 : CC := (.reg [⟨(some (.r (.l (.r (.r .h))))), .q (.mv (.t (.r (.r .h)))), none⟩])
theorem w32_7 (k : Kn) (s : St) (R : Ex → St → Prop) : Wp b32_7 k s R = Wp (.reg [⟨(some (.r (.l (.r (.r .h))))), .q (.mv (.t (.r (.r .h)))), none⟩]) k s R := rfl
noncomputable def b32_8 : CC := (.reg [⟨(some (.l (.r (.r (.r .h))))), .q (.mv (.t .h)), none⟩, ⟨(some (.r (.r (.r (.r .h))))), .q (.bi .shr (.t (.l (.r (.r (.r .h))))) (.c (.i .u64 8))), none⟩, ⟨(some (.l (.l (.l (.l (.l .h)))))), .q (.bi .and (.t (.r (.r (.r (.r .h))))) (.c (.i .u32 15))), none⟩, ⟨(some (.r (.l (.l (.l (.l .h)))))), .q (.ci .i64 (.t (.l (.l (.l (.l (.l .h))))))), none⟩, ⟨(some (.l (.r (.l (.l (.l .h)))))), .q (.fa 2 (.t (.r (.l .h)))), none⟩, ⟨none, .e (.st 1 (.t (.l (.r (.l (.l (.l .h)))))) (.t (.r (.l (.l (.l (.l .h))))))), none⟩])
theorem w32_8 (k : Kn) (s : St) (R : Ex → St → Prop) : Wp b32_8 k s R = Wp (.reg [⟨(some (.l (.r (.r (.r .h))))), .q (.mv (.t .h)), none⟩, ⟨(some (.r (.r (.r (.r .h))))), .q (.bi .shr (.t (.l (.r (.r (.r .h))))) (.c (.i .u64 8))), none⟩, ⟨(some (.l (.l (.l (.l (.l .h)))))), .q (.bi .and (.t (.r (.r (.r (.r .h))))) (.c (.i .u32 15))), none⟩, ⟨(some (.r (.l (.l (.l (.l .h)))))), .q (.ci .i64 (.t (.l (.l (.l (.l (.l .h))))))), none⟩, ⟨(some (.l (.r (.l (.l (.l .h)))))), .q (.fa 2 (.t (.r (.l .h)))), none⟩, ⟨none, .e (.st 1 (.t (.l (.r (.l (.l (.l .h)))))) (.t (.r (.l (.l (.l (.l .h))))))), none⟩]) k s R := rfl
noncomputable def b32_9 : CC := (.seq b32_7 (.cond (.t (.r (.l (.r (.r .h))))) b32_8 .skip))
theorem w32_9 (k : Kn) (s : St) (R : Ex → St → Prop) : Wp b32_9 k s R = Wp (.seq b32_7 (.cond (.t (.r (.l (.r (.r .h))))) b32_8 .skip)) k s R := rfl
noncomputable def b32_10 : CC := (.reg [⟨(some (.r (.r (.l (.l (.l .h)))))), .q (.mv (.t (.l (.l (.l .h))))), none⟩])
theorem w32_10 (k : Kn) (s : St) (R : Ex → St → Prop) : Wp b32_10 k s R = Wp (.reg [⟨(some (.r (.r (.l (.l (.l .h)))))), .q (.mv (.t (.l (.l (.l .h))))), none⟩]) k s R := rfl
noncomputable def b32_11 : CC := (.reg [⟨(some (.l (.l (.r (.l (.l .h)))))), .q (.mv (.t .h)), none⟩, ⟨(some (.r (.l (.r (.l (.l .h)))))), .q (.bi .shr (.t (.l (.l (.r (.l (.l .h)))))) (.c (.i .u64 16))), none⟩, ⟨(some (.l (.r (.r (.l (.l .h)))))), .q (.bi .and (.t (.r (.l (.r (.l (.l .h)))))) (.c (.i .u32 255))), none⟩, ⟨(some (.r (.r (.r (.l (.l .h)))))), .q (.ci .i64 (.t (.l (.r (.r (.l (.l .h))))))), none⟩, ⟨(some (.l (.l (.l (.r (.l .h)))))), .q (.fa 3 (.t (.r (.l .h)))), none⟩, ⟨none, .e (.st 1 (.t (.l (.l (.l (.r (.l .h)))))) (.t (.r (.r (.r (.l (.l .h))))))), none⟩])
theorem w32_11 (k : Kn) (s : St) (R : Ex → St → Prop) : Wp b32_11 k s R = Wp (.reg [⟨(some (.l (.l (.r (.l (.l .h)))))), .q (.mv (.t .h)), none⟩, ⟨(some (.r (.l (.r (.l (.l .h)))))), .q (.bi .shr (.t (.l (.l (.r (.l (.l .h)))))) (.c (.i .u64 16))), none⟩, ⟨(some (.l (.r (.r (.l (.l .h)))))), .q (.bi .and (.t (.r (.l (.r (.l (.l .h)))))) (.c (.i .u32 255))), none⟩, ⟨(some (.r (.r (.r (.l (.l .h)))))), .q (.ci .i64 (.t (.l (.r (.r (.l (.l .h))))))), none⟩, ⟨(some (.l (.l (.l (.r (.l .h)))))), .q (.fa 3 (.t (.r (.l .h)))), none⟩, ⟨none, .e (.st 1 (.t (.l (.l (.l (.r (.l .h)))))) (.t (.r (.r (.r (.l (.l .h))))))), none⟩]) k s R := rfl
noncomputable def b32_12 : CC := (.seq b32_10 (.cond (.t (.r (.r (.l (.l (.l .h)))))) b32_11 .skip))
theorem w32_12 (k : Kn) (s : St) (R : Ex → St → Prop) : Wp b32_12 k s R = Wp (.seq b32_10 (.cond (.t (.r (.r (.l (.l (.l .h)))))) b32_11 .skip)) k s R := rfl
noncomputable def b32_13 : CC := (.reg [⟨(some (.r (.l (.l (.r (.l .h)))))), .q (.mv (.t (.r (.l (.l .h))))), none⟩])
theorem w32_13 (k : Kn) (s : St) (R : Ex → St → Prop) : Wp b32_13 k s R = Wp (.reg [⟨(some (.r (.l (.l (.r (.l .h)))))), .q (.mv (.t (.r (.l (.l .h))))), none⟩]) k s R := rfl
noncomputable def b32_14 : CC := (.reg [⟨(some (.l (.r (.l (.r (.l .h)))))), .q (.mv (.t .h)), none⟩, ⟨(some (.r (.r (.l (.r (.l .h)))))), .q (.bi .shr (.t (.l (.r (.l (.r (.l .h)))))) (.c (.i .u64 16))), none⟩, ⟨(some (.l (.l (.r (.r (.l .h)))))), .q (.ci .i64 (.t (.r (.r (.l (.r (.l .h))))))), none⟩, ⟨(some (.r (.l (.r (.r (.l .h)))))), .q (.fa 4 (.t (.r (.l .h)))), none⟩, ⟨none, .e (.st 1 (.t (.r (.l (.r (.r (.l .h)))))) (.t (.l (.l (.r (.r (.l .h))))))), none⟩])
theorem w32_14 (k : Kn) (s : St) (R : Ex → St → Prop) : Wp b32_14 k s R = Wp (.reg [⟨(some (.l (.r (.l (.r (.l .h)))))), .q (.mv (.t .h)), none⟩, ⟨(some (.r (.r (.l (.r (.l .h)))))), .q (.bi .shr (.t (.l (.r (.l (.r (.l .h)))))) (.c (.i .u64 16))), none⟩, ⟨(some (.l (.l (.r (.r (.l .h)))))), .q (.ci .i64 (.t (.r (.r (.l (.r (.l .h))))))), none⟩, ⟨(some (.r (.l (.r (.r (.l .h)))))), .q (.fa 4 (.t (.r (.l .h)))), none⟩, ⟨none, .e (.st 1 (.t (.r (.l (.r (.r (.l .h)))))) (.t (.l (.l (.r (.r (.l .h))))))), none⟩]) k s R := rfl
noncomputable def b32_15 : CC := (.reg [⟨(some (.l (.r (.r (.r (.l .h)))))), .q (.fa 0 (.t (.r (.l .h)))), none⟩, ⟨(some (.r (.r (.r (.r (.l .h)))))), .q (.ld1 (.t (.l (.r (.r (.r (.l .h))))))), none⟩, ⟨(some (.l (.l (.l (.l (.r .h)))))), .q (.bi .neq (.t (.r (.r (.r (.r (.l .h)))))) (.c (.i .i64 3))), none⟩, ⟨(some (.r (.l (.l (.l (.r .h)))))), .q (.mv (.t (.l (.l (.l (.l (.r .h))))))), none⟩, ⟨(some (.l (.r (.l (.l (.r .h)))))), .q (.fa 0 (.t (.r (.l .h)))), (some ((.r (.l (.l (.l (.r .h))))), true))⟩, ⟨(some (.r (.r (.l (.l (.r .h)))))), .q (.ld1 (.t (.l (.r (.l (.l (.r .h))))))), (some ((.r (.l (.l (.l (.r .h))))), true))⟩, ⟨(some (.l (.l (.r (.l (.r .h)))))), .q (.bi .neq (.t (.r (.r (.l (.l (.r .h)))))) (.c (.i .i64 6))), (some ((.r (.l (.l (.l (.r .h))))), true))⟩, ⟨(some (.r (.l (.r (.l (.r .h)))))), .q (.pk (.t (.r (.l (.l (.l (.r .h)))))) (.t (.l (.l (.r (.l (.r .h)))))) (.c (.b false))), none⟩, ⟨(some (.l (.r (.r (.l (.r .h)))))), .q (.mv (.t (.r (.l (.r (.l (.r .h))))))), none⟩, ⟨(some (.r (.r (.r (.l (.r .h)))))), .q (.fa 4 (.t (.r (.l .h)))), (some ((.l (.r (.r (.l (.r .h))))), true))⟩, ⟨(some (.l (.l (.l (.r (.r .h)))))), .q (.ld1 (.t (.r (.r (.r (.l (.r .h))))))), (some ((.l (.r (.r (.l (.r .h))))), true))⟩, ⟨(some (.r (.l (.l (.r (.r .h)))))), .q (.bi .gtr (.t (.l (.l (.l (.r (.r .h)))))) (.c (.i .i64 32767))), (some ((.l (.r (.r (.l (.r .h))))), true))⟩, ⟨(some (.l (.r (.l (.r (.r .h)))))), .q (.pk (.t (.l (.r (.r (.l (.r .h)))))) (.t (.r (.l (.l (.r (.r .h)))))) (.c (.b false))), none⟩])
theorem w32_15 (k : Kn) (s : St) (R : Ex → St → Prop) : Wp b32_15 k s R = Wp (.reg [⟨(some (.l (.r (.r (.r (.l .h)))))), .q (.fa 0 (.t (.r (.l .h)))), none⟩, ⟨(some (.r (.r (.r (.r (.l .h)))))), .q (.ld1 (.t (.l (.r (.r (.r (.l .h))))))), none⟩, ⟨(some (.l (.l (.l (.l (.r .h)))))), .q (.bi .neq (.t (.r (.r (.r (.r (.l .h)))))) (.c (.i .i64 3))), none⟩, ⟨(some (.r (.l (.l (.l (.r .h)))))), .q (.mv (.t (.l (.l (.l (.l (.r .h))))))), none⟩, ⟨(some (.l (.r (.l (.l (.r .h)))))), .q (.fa 0 (.t (.r (.l .h)))), (some ((.r (.l (.l (.l (.r .h))))), true))⟩, ⟨(some (.r (.r (.l (.l (.r .h)))))), .q (.ld1 (.t (.l (.r (.l (.l (.r .h))))))), (some ((.r (.l (.l (.l (.r .h))))), true))⟩, ⟨(some (.l (.l (.r (.l (.r .h)))))), .q (.bi .neq (.t (.r (.r (.l (.l (.r .h)))))) (.c (.i .i64 6))), (some ((.r (.l (.l (.l (.r .h))))), true))⟩, ⟨(some (.r (.l (.r (.l (.r .h)))))), .q (.pk (.t (.r (.l (.l (.l (.r .h)))))) (.t (.l (.l (.r (.l (.r .h)))))) (.c (.b false))), none⟩, ⟨(some (.l (.r (.r (.l (.r .h)))))), .q (.mv (.t (.r (.l (.r (.l (.r .h))))))), none⟩, ⟨(some (.r (.r (.r (.l (.r .h)))))), .q (.fa 4 (.t (.r (.l .h)))), (some ((.l (.r (.r (.l (.r .h))))), true))⟩, ⟨(some (.l (.l (.l (.r (.r .h)))))), .q (.ld1 (.t (.r (.r (.r (.l (.r .h))))))), (some ((.l (.r (.r (.l (.r .h))))), true))⟩, ⟨(some (.r (.l (.l (.r (.r .h)))))), .q (.bi .gtr (.t (.l (.l (.l (.r (.r .h)))))) (.c (.i .i64 32767))), (some ((.l (.r (.r (.l (.r .h))))), true))⟩, ⟨(some (.l (.r (.l (.r (.r .h)))))), .q (.pk (.t (.l (.r (.r (.l (.r .h)))))) (.t (.r (.l (.l (.r (.r .h)))))) (.c (.b false))), none⟩]) k s R := rfl
noncomputable def b32_16 : CC := (.reg [⟨(some (.r (.r (.l (.r (.r .h)))))), .q (.fa 4 (.t (.r (.l .h)))), none⟩, ⟨(some (.l (.l (.r (.r (.r .h)))))), .q (.ld1 (.t (.r (.r (.l (.r (.r .h))))))), none⟩, ⟨(some (.r (.l (.r (.r (.r .h)))))), .q (.bi .sub (.t (.l (.l (.r (.r (.r .h)))))) (.c (.i .i64 65536))), none⟩, ⟨(some (.l (.r (.r (.r (.r .h)))))), .q (.fa 4 (.t (.r (.l .h)))), none⟩, ⟨none, .e (.st 1 (.t (.l (.r (.r (.r (.r .h)))))) (.t (.r (.l (.r (.r (.r .h))))))), none⟩])
theorem w32_16 (k : Kn) (s : St) (R : Ex → St → Prop) : Wp b32_16 k s R = Wp (.reg [⟨(some (.r (.r (.l (.r (.r .h)))))), .q (.fa 4 (.t (.r (.l .h)))), none⟩, ⟨(some (.l (.l (.r (.r (.r .h)))))), .q (.ld1 (.t (.r (.r (.l (.r (.r .h))))))), none⟩, ⟨(some (.r (.l (.r (.r (.r .h)))))), .q (.bi .sub (.t (.l (.l (.r (.r (.r .h)))))) (.c (.i .i64 65536))), none⟩, ⟨(some (.l (.r (.r (.r (.r .h)))))), .q (.fa 4 (.t (.r (.l .h)))), none⟩, ⟨none, .e (.st 1 (.t (.l (.r (.r (.r (.r .h)))))) (.t (.r (.l (.r (.r (.r .h))))))), none⟩]) k s R := rfl
noncomputable def b32_17 : CC := (.seq b32_15 (.cond (.t (.l (.r (.l (.r (.r .h)))))) b32_16 .skip))
theorem w32_17 (k : Kn) (s : St) (R : Ex → St → Prop) : Wp b32_17 k s R = Wp (.seq b32_15 (.cond (.t (.l (.r (.l (.r (.r .h)))))) b32_16 .skip)) k s R := rfl
noncomputable def b32_18 : CC := (.cond (.t (.r (.l (.l (.r (.l .h)))))) (.seq b32_14 b32_17) .skip)
theorem w32_18 (k : Kn) (s : St) (R : Ex → St → Prop) : Wp b32_18 k s R = Wp (.cond (.t (.r (.l (.l (.r (.l .h)))))) (.seq b32_14 b32_17) .skip) k s R := rfl
noncomputable def b32_19 : CC := (.reg [⟨(some (.r (.r (.r (.r (.r .h)))))), .q (.ldn 5 (.t (.r (.l .h)))), none⟩, ⟨(some (.l (.l (.l (.l (.l (.l .h))))))), .e (.call 12 [(.t (.r (.r (.r (.r (.r .h))))))]), none⟩, ⟨(some (.r (.l (.l (.l (.l (.l .h))))))), .q (.un .not (.t (.l (.l (.l (.l (.l (.l .h)))))))), none⟩, ⟨(some (.l (.r (.l (.l (.l (.l .h))))))), .q (.mv (.t (.r (.l (.l (.l (.l (.l .h)))))))), none⟩, ⟨(some (.r (.r (.l (.l (.l (.l .h))))))), .q (.ldn 5 (.t (.r (.l .h)))), (some ((.l (.r (.l (.l (.l (.l .h)))))), false))⟩, ⟨(some (.l (.l (.r (.l (.l (.l .h))))))), .e (.call 13 [(.t (.r (.r (.l (.l (.l (.l .h)))))))]), (some ((.l (.r (.l (.l (.l (.l .h)))))), false))⟩, ⟨(some (.r (.l (.r (.l (.l (.l .h))))))), .q (.mv (.t .h)), (some ((.l (.r (.l (.l (.l (.l .h)))))), false))⟩, ⟨(some (.l (.r (.r (.l (.l (.l .h))))))), .q (.bi .neq (.t (.l (.l (.r (.l (.l (.l .h))))))) (.t (.r (.l (.r (.l (.l (.l .h)))))))), (some ((.l (.r (.l (.l (.l (.l .h)))))), false))⟩, ⟨(some (.r (.r (.r (.l (.l (.l .h))))))), .q (.pk (.t (.l (.r (.l (.l (.l (.l .h))))))) (.c (.b true)) (.t (.l (.r (.r (.l (.l (.l .h)))))))), none⟩])
theorem w32_19 (k : Kn) (s : St) (R : Ex → St → Prop) : Wp b32_19 k s R = Wp (.reg [⟨(some (.r (.r (.r (.r (.r .h)))))), .q (.ldn 5 (.t (.r (.l .h)))), none⟩, ⟨(some (.l (.l (.l (.l (.l (.l .h))))))), .e (.call 12 [(.t (.r (.r (.r (.r (.r .h))))))]), none⟩, ⟨(some (.r (.l (.l (.l (.l (.l .h))))))), .q (.un .not (.t (.l (.l (.l (.l (.l (.l .h)))))))), none⟩, ⟨(some (.l (.r (.l (.l (.l (.l .h))))))), .q (.mv (.t (.r (.l (.l (.l (.l (.l .h)))))))), none⟩, ⟨(some (.r (.r (.l (.l (.l (.l .h))))))), .q (.ldn 5 (.t (.r (.l .h)))), (some ((.l (.r (.l (.l (.l (.l .h)))))), false))⟩, ⟨(some (.l (.l (.r (.l (.l (.l .h))))))), .e (.call 13 [(.t (.r (.r (.l (.l (.l (.l .h)))))))]), (some ((.l (.r (.l (.l (.l (.l .h)))))), false))⟩, ⟨(some (.r (.l (.r (.l (.l (.l .h))))))), .q (.mv (.t .h)), (some ((.l (.r (.l (.l (.l (.l .h)))))), false))⟩, ⟨(some (.l (.r (.r (.l (.l (.l .h))))))), .q (.bi .neq (.t (.l (.l (.r (.l (.l (.l .h))))))) (.t (.r (.l (.r (.l (.l (.l .h)))))))), (some ((.l (.r (.l (.l (.l (.l .h)))))), false))⟩, ⟨(some (.r (.r (.r (.l (.l (.l .h))))))), .q (.pk (.t (.l (.r (.l (.l (.l (.l .h))))))) (.c (.b true)) (.t (.l (.r (.r (.l (.l (.l .h)))))))), none⟩]) k s R := rfl
noncomputable def b32_20 : CC := (.reg [⟨(some (.l (.l (.l (.r (.l (.l .h))))))), .q (.bld [(.i .i64 0), (.i .i64 0), (.i .i64 0), (.i .i64 0), (.i .i64 0)] []), none⟩, ⟨none, .e (.st 5 (.t (.r .h)) (.t (.l (.l (.l (.r (.l (.l .h)))))))), none⟩, ⟨(some (.l (.l .h))), .q (.mv (.c (.i .i64 4))), none⟩])
theorem w32_20 (k : Kn) (s : St) (R : Ex → St → Prop) : Wp b32_20 k s R = Wp (.reg [⟨(some (.l (.l (.l (.r (.l (.l .h))))))), .q (.bld [(.i .i64 0), (.i .i64 0), (.i .i64 0), (.i .i64 0), (.i .i64 0)] []), none⟩, ⟨none, .e (.st 5 (.t (.r .h)) (.t (.l (.l (.l (.r (.l (.l .h)))))))), none⟩, ⟨(some (.l (.l .h))), .q (.mv (.c (.i .i64 4))), none⟩]) k s R := rfl
noncomputable def b32_21 : CC := (.cond (.t (.r (.r (.r (.l (.l (.l .h))))))) (.seq b32_20 .ret) .skip)
theorem w32_21 (k : Kn) (s : St) (R : Ex → St → Prop) : Wp b32_21 k s R = Wp (.cond (.t (.r (.r (.r (.l (.l (.l .h))))))) (.seq b32_20 .ret) .skip) k s R := rfl
noncomputable def b32_22 : CC := (.reg [⟨(some (.r (.l (.l (.r (.l (.l .h))))))), .q (.ldn 5 (.t (.r (.l .h)))), none⟩, ⟨none, .e (.st 5 (.t (.r .h)) (.t (.r (.l (.l (.r (.l (.l .h)))))))), none⟩, ⟨(some (.l (.l .h))), .q (.mv (.c (.i .i64 0))), none⟩])
theorem w32_22 (k : Kn) (s : St) (R : Ex → St → Prop) : Wp b32_22 k s R = Wp (.reg [⟨(some (.r (.l (.l (.r (.l (.l .h))))))), .q (.ldn 5 (.t (.r (.l .h)))), none⟩, ⟨none, .e (.st 5 (.t (.r .h)) (.t (.r (.l (.l (.r (.l (.l .h)))))))), none⟩, ⟨(some (.l (.l .h))), .q (.mv (.c (.i .i64 0))), none⟩]) k s R := rfl
noncomputable def b32_23 : CC := (.seq (.seq b32_13 b32_18) (.seq (.seq b32_19 b32_21) (.seq b32_22 .ret)))
theorem w32_23 (k : Kn) (s : St) (R : Ex → St → Prop) : Wp b32_23 k s R = Wp (.seq (.seq b32_13 b32_18) (.seq (.seq b32_19 b32_21) (.seq b32_22 .ret))) k s R := rfl
noncomputable def b32_24 : CC := (.seq b32_2 (.seq b32_3 (.seq b32_6 (.seq b32_9 (.seq b32_12 b32_23)))))
theorem w32_24 (k : Kn) (s : St) (R : Ex → St → Prop) : Wp b32_24 k s R = Wp (.seq b32_2 (.seq b32_3 (.seq b32_6 (.seq b32_9 (.seq b32_12 b32_23))))) k s R := rfl
noncomputable def c32 : CF := .mk 7 [.cn (.r .h) 5, .t (.l (.l .h))] (.seq b32_1 b32_24)
theorem e32 (v0 : V) : argTr 7 [v0] = (.n (.n (.n (.n (.n (.n (.n .e none .e) none (.n .e none .e)) none (.n (.n .e none .e) none (.n .e none .e))) none (.n (.n (.n .e none .e) none (.n .e none .e)) none (.n (.n .e none .e) none (.n .e none .e)))) none (.n (.n (.n (.n .e none .e) none (.n .e none .e)) none (.n (.n .e none .e) none (.n .e none .e))) none (.n (.n (.n .e none .e) none (.n .e none .e)) none (.n (.n .e none .e) none (.n .e none .e))))) none (.n (.n (.n (.n (.n .e none .e) none (.n .e none .e)) none (.n (.n .e none .e) none (.n .e none .e))) none (.n (.n (.n .e none .e) none (.n .e none .e)) none (.n (.n .e none .e) none (.n .e none .e)))) none (.n (.n (.n (.n .e none .e) none (.n .e none .e)) none (.n (.n .e none .e) none (.n .e none .e))) none (.n (.n (.n .e none .e) none (.n .e none .e)) none (.n (.n .e none .e) none (.n .e none .e)))))) (some v0) (.n (.n (.n (.n (.n (.n .e none .e) none (.n .e none .e)) none (.n (.n .e none .e) none (.n .e none .e))) none (.n (.n (.n .e none .e) none (.n .e none .e)) none (.n (.n .e none .e) none (.n .e none .e)))) none (.n (.n (.n (.n .e none .e) none (.n .e none .e)) none (.n (.n .e none .e) none (.n .e none .e))) none (.n (.n (.n .e none .e) none (.n .e none .e)) none (.n (.n .e none .e) none (.n .e none .e))))) none (.n (.n (.n (.n (.n .e none .e) none (.n .e none .e)) none (.n (.n .e none .e) none (.n .e none .e))) none (.n (.n (.n .e none .e) none (.n .e none .e)) none (.n (.n .e none .e) none (.n .e none .e)))) none (.n (.n (.n (.n .e none .e) none (.n .e none .e)) none (.n (.n .e none .e) none (.n .e none .e))) none (.n (.n (.n .e none .e) none (.n .e none .e)) none (.n (.n .e none .e) none (.n .e none .e))))))) := rfl
def h12 : List V → Option V
  | [.g [.i .i64 op, .i .i64 d, .i .i64 a, .i .i64 b, .i .i64 i]] => some (.b (mayI op d a b i))
  | _ => none
theorem h12_eq (op d a b i : Int) : h12 [.g [.i .i64 op, .i .i64 d, .i .i64 a, .i .i64 b, .i .i64 i]] = some (.b (mayI op d a b i)) := rfl
def h13 : List V → Option V
  | [.g [.i .i64 op, .i .i64 d, .i .i64 a, .i .i64 b, .i .i64 i]] => if mayI op d a b i = true then some (.i .u32 (wordI op d a b i : Nat)) else none
  | _ => none
theorem h13_eq {op d a b i : Int} (h : (!mayI op d a b i) = false) : h13 [.g [.i .i64 op, .i .i64 d, .i .i64 a, .i .i64 b, .i .i64 i]] = some (.i .u32 (wordI op d a b i : Nat)) := by
  show (if mayI op d a b i = true then some (V.i .u32 (wordI op d a b i : Nat)) else none) = _
  rw [if_pos (by simpa using h)]
def bR (w : Nat) : Int := if bI (formI (opW w)) = true then ((w / 65536 % 256 : Nat) : Int) else 0
noncomputable def refV (w : Nat) : V :=
  if mayI (opW w) (dW w) (aW w) (bR w) (iW w) = true ∧ wordI (opW w) (dW w) (aW w) (bR w) (iW w) = w then .t [.g [.i .i64 (opW w), .i .i64 (dW w), .i .i64 (aW w), .i .i64 (bR w), .i .i64 (iW w)], .i .i64 0]
  else .t [.g [.i .i64 0, .i .i64 0, .i .i64 0, .i .i64 0, .i .i64 0], .i .i64 4]
theorem rfN1 {op d a b i : Int} {w : Nat} (h : (!mayI op d a b i) = (!false)) : ¬ (mayI op d a b i = true ∧ wordI op d a b i = w) := by
  intro hh
  rw [hh.1] at h; cases h
theorem rfN2 {op d a b i : Int} {w : Nat} (h : decide (((wordI op d a b i : Nat) : Int) ≠ (w : Int)) = true) : ¬ (mayI op d a b i = true ∧ wordI op d a b i = w) := by
  have h' := of_decide_eq_true h
  intro hh
  exact h' (by rw [hh.2])
theorem rfY {op d a b i : Int} {w : Nat} (h : (!mayI op d a b i) = false) (h2 : decide (((wordI op d a b i : Nat) : Int) ≠ (w : Int)) = false) : mayI op d a b i = true ∧ wordI op d a b i = w := by
  have h' := of_decide_eq_false h2
  exact ⟨by simpa using h, by have := Classical.not_not.1 h'; omega⟩
theorem t32 (Φ : Nat → Option CF) (h : Φ 32 = some c32) (h26 : Φ 26 = some (.orc (pureO h25))) (h38 : Φ 38 = some (.orc (pureO h38))) (h12 : Φ 12 = some (.orc (pureO h12))) (h13 : Φ 13 = some (.orc (pureO h13))) (w : Nat) (hw : w < 4294967296) (ct : Nat) :
    To Φ 32 [.i .u32 (w : Int)] ct (refV w) := by
  refine to_walk h ?_
  have q1 := u32_and255 w hw
  have q2 := i64_nat (w % 256) (by omega)
  have q3 := u32_shr12 w
  have q4 := u32_and15 (w / 4096) (by omega)
  have q5 := i64_nat (w / 4096 % 16) (by omega)
  have q6 := u32_shr8 w
  have q7 := u32_and15 (w / 256) (by omega)
  have q8 := i64_nat (w / 256 % 16) (by omega)
  have q9 := u32_shr16 w
  have q10 := i64_nat (w / 65536) (by omega)
  have q11 := u32_and255 (w / 65536) (by omega)
  have q12 := i64_nat (w / 65536 % 256) (by omega)
  have q13 : IntKind.i64.wrap (((w / 65536 : Nat) : Int) - 65536) = ((w / 65536 : Nat) : Int) - 65536 := wrap_i64 (by omega) (by omega)
  unfold refV dW aW bR iW
  have hop : opW w = ((w % 256 : Nat) : Int) := rfl
  rw [hop]
  generalize ((w % 256 : Nat) : Int) = op at *
  rcases formI_cases op with hf | hf | hf | hf | hf | hf | hf
  all_goals
    simp only [wp_seq, seqQ_nrm, wp_reg, wp_skip, wo_nil, xo_q, xo_a, xo_e, xo_e0, wp_condT, wp_condF, putO, putA, putE, putE0, v_mv, v_bi, bi_neq, v_un, un_not, v_ld1, v_ldn, ld1_p, ldn_p, load1_same, v_fa, e_st_eq, er_some, xo_call, callC_orc, ev_t, ev_c, evs_nil, evs_cons, Tr.setP_h, Tr.setP_l, Tr.setP_r, getT_h, getT_l, getT_r, Int.reduceEq, List.getElem?_cons_zero, List.getElem?_cons_succ, Bool.false_eq_true, decide_true, decide_false, if_true, if_false, pureO_of, ofO_some, flatten_i, flatten_g, allOne_nil, allOne_cons, isOne_i, Bool.and_true, evP_nil, evP_cons, fillV_nil, fillV_cons, over_nil, over_cons, List.set_cons_zero, List.set_cons_succ, List.length_cons, List.length_nil, Nat.reduceAdd, Nat.reduceLeDiff, Nat.zero_add, v_bld, replL_over, v_ex, v_ci, loadN_same, storeN_same, a_al_eq, List.drop_zero, List.take_succ_cons, List.take_nil, Option.map_some, Nat.add_assoc, or_self, or_true, or_false, e32, w32_1, w32_2, w32_3, w32_4, w32_5, w32_6, w32_7, w32_8, w32_9, w32_10, w32_11, w32_12, w32_13, w32_14, w32_15, w32_17, w32_18, w32_19, w32_23, w32_24, h26, h25_eq, h38, h38_eq, hf, dI, aI, bI, iI, q1, q2, q3, q4, q5, q6, q7, q8, q9, q10, q11, q12, h12, h12_eq]
    repeat' first | (refine wp_cond (by simp only [ev_t, getT_h, getT_l, getT_r]; rfl) (fun h => ?_) (fun h => ?_) <;> simp only [wp_seq, seqQ_nrm, seqQ_ret, wp_reg, wp_ret, wp_skip, wo_nil, xo_q, xo_e, xo_e0, putO, putE, putE0, v_mv, v_bi, bi_sub, v_un, un_not, v_ld1, v_ldn, ld1_p, ldn_p, load1_same, v_fa, e_st_eq, er_some, xo_call, callC_orc, ev_t, ev_c, evs_nil, evs_cons, Tr.setP_h, Tr.setP_l, Tr.setP_r, getT_h, getT_l, getT_r, List.getElem?_cons_zero, List.getElem?_cons_succ, endQ_ret, endO, resV_nil', resV_t, consO_some, oneV_two, if_true, pureO_of, ofO_some, flatten_i, flatten_g, allOne_nil, allOne_cons, isOne_i, Bool.and_true, evP_nil, fillV_nil, over_nil, over_cons, List.set_cons_zero, List.set_cons_succ, List.length_cons, List.length_nil, Nat.reduceAdd, Nat.reduceLeDiff, Nat.zero_add, v_bld, resV_cn, loadN_ne, loadN_same, storeN_same, storeN_ne', mapS_some, List.drop_zero, List.take_succ_cons, List.take_nil, Option.map_some, ne_add0, w32_16, w32_19, w32_20, w32_22, h, h12, h12_eq, q13]) | (refine wo_g (by simp only [getT_h, getT_l, getT_r]; rfl) (fun h => ?_) (fun h => ?_) <;> simp only [wp_seq, seqQ_nrm, seqQ_ret, wp_reg, wp_ret, wp_skip, wo_nil, xo_q, xo_e, xo_e0, wo_gT, wo_gF, wp_condT, wp_condF, putO, putE, putE0, setT_some, v_mv, v_pk, pkV_T, pkV_F, v_bi, bi_gtr, bi_neq, v_un, un_not, v_ld1, v_ldn, ld1_p, ldn_p, load1_same, v_fa, e_st_eq, er_some, xo_call, callC_orc, ev_t, ev_c, evs_nil, evs_cons, Tr.setP_h, Tr.setP_l, Tr.setP_r, getT_h, getT_l, getT_r, List.getElem?_cons_zero, List.getElem?_cons_succ, endQ_ret, endO, resV_nil', resV_t, consO_some, oneV_two, Bool.not_true, Bool.not_false, if_true, pureO_of, ofO_some, flatten_g, allOne_nil, allOne_cons, isOne_i, Bool.and_true, evP_nil, fillV_nil, over_nil, over_cons, List.set_cons_zero, List.set_cons_succ, List.length_cons, List.length_nil, Nat.reduceAdd, Nat.reduceLeDiff, Nat.zero_add, v_bld, resV_cn, loadN_ne, loadN_same, storeN_same, storeN_ne', mapS_some, List.drop_zero, List.take_succ_cons, List.take_nil, Option.map_some, ne_add0, w32_19, w32_20, w32_21, h, h12, h12_eq, h13, h13_eq])
  all_goals first
    | (have e : (if op = 3 ∨ op = 6 then ((w / 65536 : Nat) : Int) else s16 w) = ((w / 65536 : Nat) : Int) := by (simp only [decide_eq_true_eq, decide_eq_false_iff_not, Bool.not_true, Bool.not_false, ne_eq, Classical.not_not] at *; unfold s16; (repeat' split) <;> omega)
       rw [e])
    | (have e : (if op = 3 ∨ op = 6 then ((w / 65536 : Nat) : Int) else s16 w) = ((w / 65536 : Nat) : Int) - 65536 := by (simp only [decide_eq_true_eq, decide_eq_false_iff_not, Bool.not_false, ne_eq, Classical.not_not] at *; unfold s16; (repeat' split) <;> omega)
       rw [e])
    | skip
  all_goals first
    | rw [if_pos (rfY (by assumption) (by assumption))]
    | rw [if_neg (rfN2 (by assumption))]
    | rw [if_neg (rfN1 (by assumption))]
end Go.Proofs.YtffpeieapadocaaGreatDoor.Ev
set_option maxRecDepth 10000
set_option maxHeartbeats 16000000
namespace Go.Proofs.YtffpeieapadocaaGreatDoor.Ev
open Go
theorem refV_eq (w : Nat) (hw : w < 4294967296) : refV w = ofV w := by
  unfold refV ofV
  by_cases hb : bI (formI (opW w)) = true
  · have e1 : bW w = ((w / 65536 : Nat) : Int) := if_pos hb
    have e2 : bR w = ((w / 65536 % 256 : Nat) : Int) := if_pos hb
    by_cases h : w / 65536 < 256
    · have : bR w = bW w := by rw [e1, e2, Nat.mod_eq_of_lt h]
      rw [this]
    · have hf : formI (opW w) = 5 := of_decide_eq_true hb
      have hi : iW w = 0 := if_neg (by rw [hf]; decide)
      rw [if_neg, if_neg]
      · rintro ⟨hm, _⟩
        have := mayI_bounds hm
        rw [e1] at this
        omega
      · rintro ⟨hm, hw2⟩
        have hbd := mayI_bounds hm
        unfold wordI at hw2
        rw [hi] at hw2
        have : bR w < 256 := by rw [e2]; omega
        omega
  · have e1 : bW w = 0 := if_neg hb
    have e2 : bR w = 0 := if_neg hb
    rw [e1, e2]
def okW (w : Nat) : Bool := decide (mayI (opW w) (dW w) (aW w) (bW w) (iW w) = true ∧ wordI (opW w) (dW w) (aW w) (bW w) (iW w) = w)
def okI (w : Nat) (x : Int) : Int := if okW w = true then x else 0
def erW (w : Nat) : Int := if okW w = true then 0 else 4
theorem ofV_eq (w : Nat) : ofV w = .t [.g [.i .i64 (okI w (opW w)), .i .i64 (okI w (dW w)), .i .i64 (okI w (aW w)), .i .i64 (okI w (bW w)), .i .i64 (okI w (iW w))], .i .i64 (erW w)] := by
  unfold ofV okI erW okW
  by_cases h : mayI (opW w) (dW w) (aW w) (bW w) (iW w) = true ∧ wordI (opW w) (dW w) (aW w) (bW w) (iW w) = w
  · rw [if_pos h]; simp only [decide_eq_true h, if_true]
  · rw [if_neg h]; simp only [decide_eq_false h, Bool.false_eq_true, if_false]
noncomputable def b33_1 : CC := (.reg [⟨(some (.r .h)), .a (.al 26 [(.i .i64 0), (.i .i64 0), (.i .i64 0), (.i .i64 0), (.i .i64 0)]), none⟩, ⟨(some (.l (.l .h))), .q (.mv (.c (.i .i64 0))), none⟩])
theorem w33_1 (k : Kn) (s : St) (R : Ex → St → Prop) : Wp b33_1 k s R = Wp (.reg [⟨(some (.r .h)), .a (.al 26 [(.i .i64 0), (.i .i64 0), (.i .i64 0), (.i .i64 0), (.i .i64 0)]), none⟩, ⟨(some (.l (.l .h))), .q (.mv (.c (.i .i64 0))), none⟩]) k s R := rfl
noncomputable def b33_2 : CC := (.reg [⟨(some (.r (.l .h))), .q (.mv (.t .h)), none⟩, ⟨(some (.l (.r .h))), .q (.ln .slice (.t (.r (.l .h)))), none⟩, ⟨(some (.r (.r .h))), .q (.bi .neq (.t (.l (.r .h))) (.c (.i .i64 4))), none⟩])
theorem w33_2 (k : Kn) (s : St) (R : Ex → St → Prop) : Wp b33_2 k s R = Wp (.reg [⟨(some (.r (.l .h))), .q (.mv (.t .h)), none⟩, ⟨(some (.l (.r .h))), .q (.ln .slice (.t (.r (.l .h)))), none⟩, ⟨(some (.r (.r .h))), .q (.bi .neq (.t (.l (.r .h))) (.c (.i .i64 4))), none⟩]) k s R := rfl
noncomputable def b33_3 : CC := (.reg [⟨(some (.l (.l (.l .h)))), .q (.bld [(.i .i64 0), (.i .i64 0), (.i .i64 0), (.i .i64 0), (.i .i64 0)] []), none⟩, ⟨none, .e (.st 5 (.t (.r .h)) (.t (.l (.l (.l .h))))), none⟩, ⟨(some (.l (.l .h))), .q (.mv (.c (.i .i64 4))), none⟩])
theorem w33_3 (k : Kn) (s : St) (R : Ex → St → Prop) : Wp b33_3 k s R = Wp (.reg [⟨(some (.l (.l (.l .h)))), .q (.bld [(.i .i64 0), (.i .i64 0), (.i .i64 0), (.i .i64 0), (.i .i64 0)] []), none⟩, ⟨none, .e (.st 5 (.t (.r .h)) (.t (.l (.l (.l .h))))), none⟩, ⟨(some (.l (.l .h))), .q (.mv (.c (.i .i64 4))), none⟩]) k s R := rfl
noncomputable def b33_4 : CC := (.seq b33_2 (.cond (.t (.r (.r .h))) (.seq b33_3 .ret) .skip))
theorem w33_4 (k : Kn) (s : St) (R : Ex → St → Prop) : Wp b33_4 k s R = Wp (.seq b33_2 (.cond (.t (.r (.r .h))) (.seq b33_3 .ret) .skip)) k s R := rfl
noncomputable def b33_5 : CC := (.dreg 27 [(0, 0, ⟨(some (.r (.l (.l .h)))), .q (.mv (.t .h)), none⟩), (1, 1, ⟨(some (.l (.r (.l .h)))), .q (.iaS 1 (.t (.r (.l (.l .h)))) (.c (.i .i64 0))), none⟩), (2, 3, ⟨(some (.r (.r (.l .h)))), .q (.ld1 (.t (.l (.r (.l .h))))), none⟩), (3, 7, ⟨(some (.l (.l (.r .h)))), .q (.ci .u32 (.t (.r (.r (.l .h))))), none⟩), (4, 0, ⟨(some (.r (.l (.r .h)))), .q (.mv (.t .h)), none⟩), (5, 16, ⟨(some (.l (.r (.r .h)))), .q (.iaS 1 (.t (.r (.l (.r .h)))) (.c (.i .i64 1))), none⟩), (6, 48, ⟨(some (.r (.r (.r .h)))), .q (.ld1 (.t (.l (.r (.r .h))))), none⟩), (7, 112, ⟨(some (.l (.l (.l (.l .h))))), .q (.ci .u32 (.t (.r (.r (.r .h))))), none⟩), (8, 240, ⟨(some (.r (.l (.l (.l .h))))), .q (.bi .shl (.t (.l (.l (.l (.l .h))))) (.c (.i .u64 8))), none⟩), (9, 511, ⟨(some (.l (.r (.l (.l .h))))), .q (.bi .or (.t (.l (.l (.r .h)))) (.t (.r (.l (.l (.l .h)))))), none⟩), (10, 0, ⟨(some (.r (.r (.l (.l .h))))), .q (.mv (.t .h)), none⟩), (11, 1024, ⟨(some (.l (.l (.r (.l .h))))), .q (.iaS 1 (.t (.r (.r (.l (.l .h))))) (.c (.i .i64 2))), none⟩), (12, 3072, ⟨(some (.r (.l (.r (.l .h))))), .q (.ld1 (.t (.l (.l (.r (.l .h)))))), none⟩), (13, 7168, ⟨(some (.l (.r (.r (.l .h))))), .q (.ci .u32 (.t (.r (.l (.r (.l .h)))))), none⟩), (14, 15360, ⟨(some (.r (.r (.r (.l .h))))), .q (.bi .shl (.t (.l (.r (.r (.l .h))))) (.c (.i .u64 16))), none⟩), (15, 32767, ⟨(some (.l (.l (.l (.r .h))))), .q (.bi .or (.t (.l (.r (.l (.l .h))))) (.t (.r (.r (.r (.l .h)))))), none⟩), (16, 0, ⟨(some (.r (.l (.l (.r .h))))), .q (.mv (.t .h)), none⟩), (17, 65536, ⟨(some (.l (.r (.l (.r .h))))), .q (.iaS 1 (.t (.r (.l (.l (.r .h))))) (.c (.i .i64 3))), none⟩), (18, 196608, ⟨(some (.r (.r (.l (.r .h))))), .q (.ld1 (.t (.l (.r (.l (.r .h)))))), none⟩), (19, 458752, ⟨(some (.l (.l (.r (.r .h))))), .q (.ci .u32 (.t (.r (.r (.l (.r .h)))))), none⟩), (20, 983040, ⟨(some (.r (.l (.r (.r .h))))), .q (.bi .shl (.t (.l (.l (.r (.r .h))))) (.c (.i .u64 24))), none⟩), (21, 2097151, ⟨(some (.l (.r (.r (.r .h))))), .q (.bi .or (.t (.l (.l (.l (.r .h))))) (.t (.r (.l (.r (.r .h)))))), none⟩), (22, 4194303, ⟨(some (.r (.r (.r (.r .h))))), .e (.call 31 [(.t (.l (.r (.r (.r .h)))))]), none⟩), (23, 8388607, ⟨(some (.l (.l (.l (.l (.l .h)))))), .q (.ex 0 (.t (.r (.r (.r (.r .h)))))), none⟩), (24, 8388607, ⟨(some (.r (.l (.l (.l (.l .h)))))), .q (.ex 1 (.t (.r (.r (.r (.r .h)))))), none⟩), (25, 33554431, ⟨none, .e (.st 5 (.t (.r .h)) (.t (.l (.l (.l (.l (.l .h))))))), none⟩), (26, 67108863, ⟨(some (.l (.l .h))), .q (.mv (.t (.r (.l (.l (.l (.l .h))))))), none⟩)])
theorem w33_5 (k : Kn) (s : St) (R : Ex → St → Prop) : Wp b33_5 k s R = Wp (.dreg 27 [(0, 0, ⟨(some (.r (.l (.l .h)))), .q (.mv (.t .h)), none⟩), (1, 1, ⟨(some (.l (.r (.l .h)))), .q (.iaS 1 (.t (.r (.l (.l .h)))) (.c (.i .i64 0))), none⟩), (2, 3, ⟨(some (.r (.r (.l .h)))), .q (.ld1 (.t (.l (.r (.l .h))))), none⟩), (3, 7, ⟨(some (.l (.l (.r .h)))), .q (.ci .u32 (.t (.r (.r (.l .h))))), none⟩), (4, 0, ⟨(some (.r (.l (.r .h)))), .q (.mv (.t .h)), none⟩), (5, 16, ⟨(some (.l (.r (.r .h)))), .q (.iaS 1 (.t (.r (.l (.r .h)))) (.c (.i .i64 1))), none⟩), (6, 48, ⟨(some (.r (.r (.r .h)))), .q (.ld1 (.t (.l (.r (.r .h))))), none⟩), (7, 112, ⟨(some (.l (.l (.l (.l .h))))), .q (.ci .u32 (.t (.r (.r (.r .h))))), none⟩), (8, 240, ⟨(some (.r (.l (.l (.l .h))))), .q (.bi .shl (.t (.l (.l (.l (.l .h))))) (.c (.i .u64 8))), none⟩), (9, 511, ⟨(some (.l (.r (.l (.l .h))))), .q (.bi .or (.t (.l (.l (.r .h)))) (.t (.r (.l (.l (.l .h)))))), none⟩), (10, 0, ⟨(some (.r (.r (.l (.l .h))))), .q (.mv (.t .h)), none⟩), (11, 1024, ⟨(some (.l (.l (.r (.l .h))))), .q (.iaS 1 (.t (.r (.r (.l (.l .h))))) (.c (.i .i64 2))), none⟩), (12, 3072, ⟨(some (.r (.l (.r (.l .h))))), .q (.ld1 (.t (.l (.l (.r (.l .h)))))), none⟩), (13, 7168, ⟨(some (.l (.r (.r (.l .h))))), .q (.ci .u32 (.t (.r (.l (.r (.l .h)))))), none⟩), (14, 15360, ⟨(some (.r (.r (.r (.l .h))))), .q (.bi .shl (.t (.l (.r (.r (.l .h))))) (.c (.i .u64 16))), none⟩), (15, 32767, ⟨(some (.l (.l (.l (.r .h))))), .q (.bi .or (.t (.l (.r (.l (.l .h))))) (.t (.r (.r (.r (.l .h)))))), none⟩), (16, 0, ⟨(some (.r (.l (.l (.r .h))))), .q (.mv (.t .h)), none⟩), (17, 65536, ⟨(some (.l (.r (.l (.r .h))))), .q (.iaS 1 (.t (.r (.l (.l (.r .h))))) (.c (.i .i64 3))), none⟩), (18, 196608, ⟨(some (.r (.r (.l (.r .h))))), .q (.ld1 (.t (.l (.r (.l (.r .h)))))), none⟩), (19, 458752, ⟨(some (.l (.l (.r (.r .h))))), .q (.ci .u32 (.t (.r (.r (.l (.r .h)))))), none⟩), (20, 983040, ⟨(some (.r (.l (.r (.r .h))))), .q (.bi .shl (.t (.l (.l (.r (.r .h))))) (.c (.i .u64 24))), none⟩), (21, 2097151, ⟨(some (.l (.r (.r (.r .h))))), .q (.bi .or (.t (.l (.l (.l (.r .h))))) (.t (.r (.l (.r (.r .h)))))), none⟩), (22, 4194303, ⟨(some (.r (.r (.r (.r .h))))), .e (.call 31 [(.t (.l (.r (.r (.r .h)))))]), none⟩), (23, 8388607, ⟨(some (.l (.l (.l (.l (.l .h)))))), .q (.ex 0 (.t (.r (.r (.r (.r .h)))))), none⟩), (24, 8388607, ⟨(some (.r (.l (.l (.l (.l .h)))))), .q (.ex 1 (.t (.r (.r (.r (.r .h)))))), none⟩), (25, 33554431, ⟨none, .e (.st 5 (.t (.r .h)) (.t (.l (.l (.l (.l (.l .h))))))), none⟩), (26, 67108863, ⟨(some (.l (.l .h))), .q (.mv (.t (.r (.l (.l (.l (.l .h))))))), none⟩)]) k s R := rfl
noncomputable def c33 : CF := .mk 6 [.cn (.r .h) 5, .t (.l (.l .h))] (.seq b33_1 (.seq b33_4 (.seq b33_5 .ret)))
theorem e33 (v0 : V) : argTr 6 [v0] = (.n (.n (.n (.n (.n (.n .e none .e) none (.n .e none .e)) none (.n (.n .e none .e) none (.n .e none .e))) none (.n (.n (.n .e none .e) none (.n .e none .e)) none (.n (.n .e none .e) none (.n .e none .e)))) none (.n (.n (.n (.n .e none .e) none (.n .e none .e)) none (.n (.n .e none .e) none (.n .e none .e))) none (.n (.n (.n .e none .e) none (.n .e none .e)) none (.n (.n .e none .e) none (.n .e none .e))))) (some v0) (.n (.n (.n (.n (.n .e none .e) none (.n .e none .e)) none (.n (.n .e none .e) none (.n .e none .e))) none (.n (.n (.n .e none .e) none (.n .e none .e)) none (.n (.n .e none .e) none (.n .e none .e)))) none (.n (.n (.n (.n .e none .e) none (.n .e none .e)) none (.n (.n .e none .e) none (.n .e none .e))) none (.n (.n (.n .e none .e) none (.n .e none .e)) none (.n (.n .e none .e) none (.n .e none .e)))))) := rfl
noncomputable def h31 : List V → Option V
  | [.i .u32 (.ofNat w)] => if w < 4294967296 then some (ofV w) else none
  | _ => none
theorem h31_eq (w : Nat) (h : w < 4294967296) : h31 [.i .u32 (w : Int)] = some (ofV w) := if_pos h
def lenRV : V := .t [.g [.i .i64 0, .i .i64 0, .i .i64 0, .i .i64 0, .i .i64 0], .i .i64 4]
end Go.Proofs.YtffpeieapadocaaGreatDoor.Ev
set_option maxRecDepth 10000
set_option maxHeartbeats 16000000
namespace Go.Proofs.YtffpeieapadocaaGreatDoor.Ev
open Go
noncomputable def b34_1 : CC := (.reg [⟨(some (.r .h)), .a (.al 26 [(.i .i64 0), (.i .i64 0), (.i .i64 0), (.i .i64 0), (.i .i64 0)]), none⟩, ⟨(some (.l (.l .h))), .q (.mv (.c (.i .i64 0))), none⟩])
theorem w34_1 (k : Kn) (s : St) (R : Ex → St → Prop) : Wp b34_1 k s R = Wp (.reg [⟨(some (.r .h)), .a (.al 26 [(.i .i64 0), (.i .i64 0), (.i .i64 0), (.i .i64 0), (.i .i64 0)]), none⟩, ⟨(some (.l (.l .h))), .q (.mv (.c (.i .i64 0))), none⟩]) k s R := rfl
noncomputable def b34_2 : CC := (.reg [⟨(some (.r (.l .h))), .q (.mv (.t .h)), none⟩, ⟨(some (.l (.r .h))), .q (.ln .slice (.t (.r (.l .h)))), none⟩, ⟨(some (.r (.r .h))), .q (.bi .neq (.t (.l (.r .h))) (.c (.i .i64 4))), none⟩])
theorem w34_2 (k : Kn) (s : St) (R : Ex → St → Prop) : Wp b34_2 k s R = Wp (.reg [⟨(some (.r (.l .h))), .q (.mv (.t .h)), none⟩, ⟨(some (.l (.r .h))), .q (.ln .slice (.t (.r (.l .h)))), none⟩, ⟨(some (.r (.r .h))), .q (.bi .neq (.t (.l (.r .h))) (.c (.i .i64 4))), none⟩]) k s R := rfl
noncomputable def b34_3 : CC := (.reg [⟨(some (.l (.l (.l .h)))), .q (.bld [(.i .i64 0), (.i .i64 0), (.i .i64 0), (.i .i64 0), (.i .i64 0)] []), none⟩, ⟨none, .e (.st 5 (.t (.r .h)) (.t (.l (.l (.l .h))))), none⟩, ⟨(some (.l (.l .h))), .q (.mv (.c (.i .i64 4))), none⟩])
theorem w34_3 (k : Kn) (s : St) (R : Ex → St → Prop) : Wp b34_3 k s R = Wp (.reg [⟨(some (.l (.l (.l .h)))), .q (.bld [(.i .i64 0), (.i .i64 0), (.i .i64 0), (.i .i64 0), (.i .i64 0)] []), none⟩, ⟨none, .e (.st 5 (.t (.r .h)) (.t (.l (.l (.l .h))))), none⟩, ⟨(some (.l (.l .h))), .q (.mv (.c (.i .i64 4))), none⟩]) k s R := rfl
noncomputable def b34_4 : CC := (.seq b34_2 (.cond (.t (.r (.r .h))) (.seq b34_3 .ret) .skip))
theorem w34_4 (k : Kn) (s : St) (R : Ex → St → Prop) : Wp b34_4 k s R = Wp (.seq b34_2 (.cond (.t (.r (.r .h))) (.seq b34_3 .ret) .skip)) k s R := rfl
noncomputable def b34_5 : CC := (.dreg 27 [(0, 0, ⟨(some (.r (.l (.l .h)))), .q (.mv (.t .h)), none⟩), (1, 1, ⟨(some (.l (.r (.l .h)))), .q (.iaS 1 (.t (.r (.l (.l .h)))) (.c (.i .i64 0))), none⟩), (2, 3, ⟨(some (.r (.r (.l .h)))), .q (.ld1 (.t (.l (.r (.l .h))))), none⟩), (3, 7, ⟨(some (.l (.l (.r .h)))), .q (.ci .u32 (.t (.r (.r (.l .h))))), none⟩), (4, 0, ⟨(some (.r (.l (.r .h)))), .q (.mv (.t .h)), none⟩), (5, 16, ⟨(some (.l (.r (.r .h)))), .q (.iaS 1 (.t (.r (.l (.r .h)))) (.c (.i .i64 1))), none⟩), (6, 48, ⟨(some (.r (.r (.r .h)))), .q (.ld1 (.t (.l (.r (.r .h))))), none⟩), (7, 112, ⟨(some (.l (.l (.l (.l .h))))), .q (.ci .u32 (.t (.r (.r (.r .h))))), none⟩), (8, 240, ⟨(some (.r (.l (.l (.l .h))))), .q (.bi .shl (.t (.l (.l (.l (.l .h))))) (.c (.i .u64 8))), none⟩), (9, 511, ⟨(some (.l (.r (.l (.l .h))))), .q (.bi .add (.t (.l (.l (.r .h)))) (.t (.r (.l (.l (.l .h)))))), none⟩), (10, 0, ⟨(some (.r (.r (.l (.l .h))))), .q (.mv (.t .h)), none⟩), (11, 1024, ⟨(some (.l (.l (.r (.l .h))))), .q (.iaS 1 (.t (.r (.r (.l (.l .h))))) (.c (.i .i64 2))), none⟩), (12, 3072, ⟨(some (.r (.l (.r (.l .h))))), .q (.ld1 (.t (.l (.l (.r (.l .h)))))), none⟩), (13, 7168, ⟨(some (.l (.r (.r (.l .h))))), .q (.ci .u32 (.t (.r (.l (.r (.l .h)))))), none⟩), (14, 15360, ⟨(some (.r (.r (.r (.l .h))))), .q (.bi .shl (.t (.l (.r (.r (.l .h))))) (.c (.i .u64 16))), none⟩), (15, 32767, ⟨(some (.l (.l (.l (.r .h))))), .q (.bi .add (.t (.l (.r (.l (.l .h))))) (.t (.r (.r (.r (.l .h)))))), none⟩), (16, 0, ⟨(some (.r (.l (.l (.r .h))))), .q (.mv (.t .h)), none⟩), (17, 65536, ⟨(some (.l (.r (.l (.r .h))))), .q (.iaS 1 (.t (.r (.l (.l (.r .h))))) (.c (.i .i64 3))), none⟩), (18, 196608, ⟨(some (.r (.r (.l (.r .h))))), .q (.ld1 (.t (.l (.r (.l (.r .h)))))), none⟩), (19, 458752, ⟨(some (.l (.l (.r (.r .h))))), .q (.ci .u32 (.t (.r (.r (.l (.r .h)))))), none⟩), (20, 983040, ⟨(some (.r (.l (.r (.r .h))))), .q (.bi .shl (.t (.l (.l (.r (.r .h))))) (.c (.i .u64 24))), none⟩), (21, 2097151, ⟨(some (.l (.r (.r (.r .h))))), .q (.bi .add (.t (.l (.l (.l (.r .h))))) (.t (.r (.l (.r (.r .h)))))), none⟩), (22, 4194303, ⟨(some (.r (.r (.r (.r .h))))), .e (.call 32 [(.t (.l (.r (.r (.r .h)))))]), none⟩), (23, 8388607, ⟨(some (.l (.l (.l (.l (.l .h)))))), .q (.ex 0 (.t (.r (.r (.r (.r .h)))))), none⟩), (24, 8388607, ⟨(some (.r (.l (.l (.l (.l .h)))))), .q (.ex 1 (.t (.r (.r (.r (.r .h)))))), none⟩), (25, 33554431, ⟨none, .e (.st 5 (.t (.r .h)) (.t (.l (.l (.l (.l (.l .h))))))), none⟩), (26, 67108863, ⟨(some (.l (.l .h))), .q (.mv (.t (.r (.l (.l (.l (.l .h))))))), none⟩)])
theorem w34_5 (k : Kn) (s : St) (R : Ex → St → Prop) : Wp b34_5 k s R = Wp (.dreg 27 [(0, 0, ⟨(some (.r (.l (.l .h)))), .q (.mv (.t .h)), none⟩), (1, 1, ⟨(some (.l (.r (.l .h)))), .q (.iaS 1 (.t (.r (.l (.l .h)))) (.c (.i .i64 0))), none⟩), (2, 3, ⟨(some (.r (.r (.l .h)))), .q (.ld1 (.t (.l (.r (.l .h))))), none⟩), (3, 7, ⟨(some (.l (.l (.r .h)))), .q (.ci .u32 (.t (.r (.r (.l .h))))), none⟩), (4, 0, ⟨(some (.r (.l (.r .h)))), .q (.mv (.t .h)), none⟩), (5, 16, ⟨(some (.l (.r (.r .h)))), .q (.iaS 1 (.t (.r (.l (.r .h)))) (.c (.i .i64 1))), none⟩), (6, 48, ⟨(some (.r (.r (.r .h)))), .q (.ld1 (.t (.l (.r (.r .h))))), none⟩), (7, 112, ⟨(some (.l (.l (.l (.l .h))))), .q (.ci .u32 (.t (.r (.r (.r .h))))), none⟩), (8, 240, ⟨(some (.r (.l (.l (.l .h))))), .q (.bi .shl (.t (.l (.l (.l (.l .h))))) (.c (.i .u64 8))), none⟩), (9, 511, ⟨(some (.l (.r (.l (.l .h))))), .q (.bi .add (.t (.l (.l (.r .h)))) (.t (.r (.l (.l (.l .h)))))), none⟩), (10, 0, ⟨(some (.r (.r (.l (.l .h))))), .q (.mv (.t .h)), none⟩), (11, 1024, ⟨(some (.l (.l (.r (.l .h))))), .q (.iaS 1 (.t (.r (.r (.l (.l .h))))) (.c (.i .i64 2))), none⟩), (12, 3072, ⟨(some (.r (.l (.r (.l .h))))), .q (.ld1 (.t (.l (.l (.r (.l .h)))))), none⟩), (13, 7168, ⟨(some (.l (.r (.r (.l .h))))), .q (.ci .u32 (.t (.r (.l (.r (.l .h)))))), none⟩), (14, 15360, ⟨(some (.r (.r (.r (.l .h))))), .q (.bi .shl (.t (.l (.r (.r (.l .h))))) (.c (.i .u64 16))), none⟩), (15, 32767, ⟨(some (.l (.l (.l (.r .h))))), .q (.bi .add (.t (.l (.r (.l (.l .h))))) (.t (.r (.r (.r (.l .h)))))), none⟩), (16, 0, ⟨(some (.r (.l (.l (.r .h))))), .q (.mv (.t .h)), none⟩), (17, 65536, ⟨(some (.l (.r (.l (.r .h))))), .q (.iaS 1 (.t (.r (.l (.l (.r .h))))) (.c (.i .i64 3))), none⟩), (18, 196608, ⟨(some (.r (.r (.l (.r .h))))), .q (.ld1 (.t (.l (.r (.l (.r .h)))))), none⟩), (19, 458752, ⟨(some (.l (.l (.r (.r .h))))), .q (.ci .u32 (.t (.r (.r (.l (.r .h)))))), none⟩), (20, 983040, ⟨(some (.r (.l (.r (.r .h))))), .q (.bi .shl (.t (.l (.l (.r (.r .h))))) (.c (.i .u64 24))), none⟩), (21, 2097151, ⟨(some (.l (.r (.r (.r .h))))), .q (.bi .add (.t (.l (.l (.l (.r .h))))) (.t (.r (.l (.r (.r .h)))))), none⟩), (22, 4194303, ⟨(some (.r (.r (.r (.r .h))))), .e (.call 32 [(.t (.l (.r (.r (.r .h)))))]), none⟩), (23, 8388607, ⟨(some (.l (.l (.l (.l (.l .h)))))), .q (.ex 0 (.t (.r (.r (.r (.r .h)))))), none⟩), (24, 8388607, ⟨(some (.r (.l (.l (.l (.l .h)))))), .q (.ex 1 (.t (.r (.r (.r (.r .h)))))), none⟩), (25, 33554431, ⟨none, .e (.st 5 (.t (.r .h)) (.t (.l (.l (.l (.l (.l .h))))))), none⟩), (26, 67108863, ⟨(some (.l (.l .h))), .q (.mv (.t (.r (.l (.l (.l (.l .h))))))), none⟩)]) k s R := rfl
noncomputable def c34 : CF := .mk 6 [.cn (.r .h) 5, .t (.l (.l .h))] (.seq b34_1 (.seq b34_4 (.seq b34_5 .ret)))
theorem e34 (v0 : V) : argTr 6 [v0] = (.n (.n (.n (.n (.n (.n .e none .e) none (.n .e none .e)) none (.n (.n .e none .e) none (.n .e none .e))) none (.n (.n (.n .e none .e) none (.n .e none .e)) none (.n (.n .e none .e) none (.n .e none .e)))) none (.n (.n (.n (.n .e none .e) none (.n .e none .e)) none (.n (.n .e none .e) none (.n .e none .e))) none (.n (.n (.n .e none .e) none (.n .e none .e)) none (.n (.n .e none .e) none (.n .e none .e))))) (some v0) (.n (.n (.n (.n (.n .e none .e) none (.n .e none .e)) none (.n (.n .e none .e) none (.n .e none .e))) none (.n (.n (.n .e none .e) none (.n .e none .e)) none (.n (.n .e none .e) none (.n .e none .e)))) none (.n (.n (.n (.n .e none .e) none (.n .e none .e)) none (.n (.n .e none .e) none (.n .e none .e))) none (.n (.n (.n .e none .e) none (.n .e none .e)) none (.n (.n .e none .e) none (.n .e none .e)))))) := rfl
noncomputable def b11_1 : CC := (.reg [⟨(some (.l (.l .h))), .q (.mv (.t .h)), none⟩, ⟨(some (.r .h)), .q (.mv (.t (.l (.l .h)))), none⟩])
theorem w11_1 (k : Kn) (s : St) (R : Ex → St → Prop) : Wp b11_1 k s R = Wp (.reg [⟨(some (.l (.l .h))), .q (.mv (.t .h)), none⟩, ⟨(some (.r .h)), .q (.mv (.t (.l (.l .h)))), none⟩]) k s R := rfl
noncomputable def b11_2 : CC := (.seq (.reg [⟨(some (.r .h)), .q (.mv (.c (.i .i64 0))), none⟩]) (.seq b11_1 .ret))
theorem w11_2 (k : Kn) (s : St) (R : Ex → St → Prop) : Wp b11_2 k s R = Wp (.seq (.reg [⟨(some (.r .h)), .q (.mv (.c (.i .i64 0))), none⟩]) (.seq b11_1 .ret)) k s R := rfl
noncomputable def c11 : CF := .mk 3 [.t (.r .h)] b11_2
theorem e11 (v0 : V) : argTr 3 [v0] = (.n (.n (.n .e none .e) none (.n .e none .e)) (some v0) (.n (.n .e none .e) none (.n .e none .e))) := rfl
noncomputable def h32 : List V → Option V
  | [.i .u32 (.ofNat w)] => if w < 4294967296 then some (refV w) else none
  | _ => none
theorem h32_eq (w : Nat) (h : w < 4294967296) : h32 [.i .u32 (w : Int)] = some (refV w) := if_pos h
theorem t11 (Φ : Nat → Option CF) (h : Φ 11 = some c11) (x : Int) (ct : Nat) : To Φ 11 [.i .i64 x] ct (.i .i64 x) := by
  refine to_walk h ?_
  simp only [wp_seq, seqQ_nrm, wp_reg, wp_ret, wo_nil, xo_q, putO, v_mv, ev_t, ev_c, Tr.setP_h, Tr.setP_l, Tr.setP_r, getT_h, getT_l, getT_r, endQ_ret, endO, resV_nil', resV_t, consO_some, oneV_one, e11, w11_1, w11_2]
end Go.Proofs.YtffpeieapadocaaGreatDoor.Ev
set_option maxRecDepth 10000
set_option maxHeartbeats 16000000
namespace Go.Proofs.YtffpeieapadocaaGreatDoor.Ev
open Go
noncomputable def readV : List UInt8 → V
  | [a, b, c, d] => ofV (a.toNat + 256 * b.toNat + 65536 * c.toNat + 16777216 * d.toNat)
  | _ => lenRV
theorem readV_ne {l : List UInt8} (h : l.length ≠ 4) : readV l = lenRV := by
  match l with
  | [] => rfl
  | [_] => rfl
  | [_, _] => rfl
  | [_, _, _] => rfl
  | [_, _, _, _] => exact absurd rfl h
  | _ :: _ :: _ :: _ :: _ :: _ => rfl
theorem list4 {l : List UInt8} (h : l.length = 4) : ∃ a b c d, l = [a, b, c, d] := by
  match l with
  | [a, b, c, d] => exact ⟨a, b, c, d, rfl⟩
theorem r33 (Φ : Nat → Option CF) (h : Φ 33 = some c33) (h31 : Φ 31 = some (.orc (pureO h31))) {F : RO} {M : Mem} {c : Nat} {v : V} {l : List UInt8} (ok : Okm F M c) (hs : SlB F M c v l) :
    Calls Φ F 33 [v] M c fun r M' c' => r = readV l ∧ Gr c M c' M' := by
  have hl := hs.len
  refine calls_walk h ?_
  by_cases h4 : l.length = 4
  · obtain ⟨x0, x1, x2, x3, rfl⟩ := list4 h4
    obtain ⟨b0, o0, hb0, i0, r0⟩ := hs.get 0 (by simp)
    obtain ⟨b1, o1, hb1, i1, r1⟩ := hs.get 1 (by simp)
    obtain ⟨b2, o2, hb2, i2, r2⟩ := hs.get 2 (by simp)
    obtain ⟨b3, o3, hb3, i3, r3⟩ := hs.get 3 (by simp)
    have i0 : iaSV 1 v (.i .i64 0) = some (.p b0 o0) := i0 _
    have i1 : iaSV 1 v (.i .i64 1) = some (.p b1 o1) := i1 _
    have i2 : iaSV 1 v (.i .i64 2) = some (.p b2 o2) := i2 _
    have i3 : iaSV 1 v (.i .i64 3) = some (.p b3 o3) := i3 _
    have n0 : b0 ≠ c := by omega
    have n1 : b1 ≠ c := by omega
    have n2 : b2 ≠ c := by omega
    have n3 : b3 ≠ c := by omega
    have hl : lnL v = some (.i .i64 4) := hl
    have r0 : load1 F M b0 o0 = some (.i .u8 (x0.toNat : Int)) := r0
    have r1 : load1 F M b1 o1 = some (.i .u8 (x1.toNat : Int)) := r1
    have r2 : load1 F M b2 o2 = some (.i .u8 (x2.toNat : Int)) := r2
    have r3 : load1 F M b3 o3 = some (.i .u8 (x3.toNat : Int)) := r3
    have k0 := UInt8.toNat_lt x0
    have k1 := UInt8.toNat_lt x1
    have k2 := UInt8.toNat_lt x2
    have k3 := UInt8.toNat_lt x3
    have hfree := ok.free_set
    show Wp _ _ _ (endQ F _ fun r M' c' => r = ofV (x0.toNat + 256 * x1.toNat + 65536 * x2.toNat + 16777216 * x3.toNat) ∧ Gr c M c' M')
    generalize x0.toNat = c0 at *
    generalize x1.toNat = c1 at *
    generalize x2.toNat = c2 at *
    generalize x3.toNat = c3 at *
    have e0 := u32_nat c0 (by omega)
    have e1 := u32_nat c1 (by omega)
    have e2 := u32_nat c2 (by omega)
    have e3 := u32_nat c3 (by omega)
    have s1 := u32_shl8 c1 (by omega)
    have s2 := u32_shl16 c2 (by omega)
    have s3 := u32_shl24 c3 (by omega)
    have n1' : (c0 ||| 256 * c1) = c0 + 256 * c1 := or_add8 c0 c1 k0
    have n2' : (c0 + 256 * c1 ||| 65536 * c2) = c0 + 256 * c1 + 65536 * c2 := or_add16 _ c2 (by omega)
    have n3' : (c0 + 256 * c1 + 65536 * c2 ||| 16777216 * c3) = c0 + 256 * c1 + 65536 * c2 + 16777216 * c3 := by
      rw [Nat.or_comm, ← Nat.two_pow_add_eq_or_of_lt (show c0 + 256 * c1 + 65536 * c2 < 2 ^ 24 by omega) c3]; omega
    have p1 := u32_or c0 (256 * c1) (by omega) (by omega)
    have p2 := u32_or (c0 + 256 * c1) (65536 * c2) (by omega) (by omega)
    have p3 := u32_or (c0 + 256 * c1 + 65536 * c2) (16777216 * c3) (by omega) (by omega)
    rw [n1'] at p1
    rw [n2'] at p2
    rw [n3'] at p3
    have hq := h31_eq (c0 + 256 * c1 + 65536 * c2 + 16777216 * c3) (by omega)
    rw [ofV_eq] at hq
    rw [ofV_eq]
    clear n1' n2' n3'
    generalize c0 + 256 * c1 + 65536 * c2 + 16777216 * c3 = a3 at *
    generalize c0 + 256 * c1 + 65536 * c2 = a2 at *
    generalize c0 + 256 * c1 = a1 at *
    clear h4 hs
    simp only [wp_dreg, wd_e1, befB_nil, befB_cons, Nat.reducePow, Nat.reduceDiv, Nat.reduceMod, putDE, dregQ_eq, mergeAll_nil, wd_nil, wd_q, putD_v, putD_r, oV_some, dq_mv, dq_ci, dq_bi0, biQ_i, dq_ex, dq_ld0, ldQ_p, ldR_some, dq_iaS, v_iaS, lnSl, wp_seq, seqQ_nrm, wp_reg, wp_ret, wp_skip, wo_nil, xo_q, xo_a, wp_condF, putO, putA, setT_some, setT_none, v_mv, v_bi, bi_neq, v_ln, e_st_eq, er_some, xo_call, callC_orc, ev_t, ev_c, evs_nil, evs_cons, Tr.setP_h, Tr.setP_l, Tr.setP_r, getT_h, getT_l, getT_r, Nat.reduceBEq, List.getElem?_cons_zero, List.getElem?_cons_succ, endQ_ret, endO, resV_nil', resV_t, consO_some, oneV_two, decide_false, if_true, pureO_of, ofO_some, flatten_g, allOne_nil, allOne_cons, isOne_i, Bool.and_true, over_nil, over_cons, List.set_cons_zero, List.set_cons_succ, List.length_cons, List.length_nil, Nat.reduceAdd, Nat.reduceLeDiff, Nat.zero_add, true_and, resV_cn, load1_ne, loadN_same, storeN_same, a_al_eq, List.drop_zero, List.take_succ_cons, List.take_nil, Nat.add_assoc, e33, w33_1, w33_2, w33_4, w33_5, not_true_eq_false, hl, i0, i1, i2, i3, r0, r1, r2, r3, e0, e1, e2, e3, s1, s2, s3, p1, p2, p3, h31, hq, hfree, n0, n1, n2, n3, ne_eq, not_false_eq_true]
    exact (Gr.refl ok).set c _ (Nat.le_refl _) (by omega) (by omega)
  · have hd : decide ((l.length : Int) ≠ 4) = true := decide_eq_true (by omega)
    rw [readV_ne h4]
    simp only [lnSl, wp_seq, seqQ_nrm, seqQ_ret, wp_reg, wp_ret, wo_nil, xo_q, xo_a, xo_e0, wp_condT, putO, putA, putE0, v_mv, v_bi, bi_neq, v_ln, e_st_eq, er_some, ev_t, ev_c, Tr.setP_h, Tr.setP_l, Tr.setP_r, getT_h, getT_l, getT_r, endQ_ret, endO, resV_nil', resV_t, consO_some, oneV_two, if_true, flatten_g, allOne_nil, allOne_cons, isOne_i, Bool.and_true, evP_nil, fillV_nil, over_nil, over_cons, List.set_cons_zero, List.set_cons_succ, List.length_cons, List.length_nil, Nat.reduceAdd, Nat.reduceLeDiff, Nat.zero_add, true_and, v_bld, resV_cn, loadN_same, storeN_same, a_al_eq, List.drop_zero, List.take_succ_cons, List.take_nil, Option.map_some, e33, w33_1, w33_2, w33_3, w33_4, hl, hd, lenRV]
    exact (Gr.refl ok).set c _ (Nat.le_refl _) (by omega) (by omega)
theorem r34 (Φ : Nat → Option CF) (h : Φ 34 = some c34) (h32 : Φ 32 = some (.orc (pureO h32))) {F : RO} {M : Mem} {c : Nat} {v : V} {l : List UInt8} (ok : Okm F M c) (hs : SlB F M c v l) :
    Calls Φ F 34 [v] M c fun r M' c' => r = readV l ∧ Gr c M c' M' := by
  have hl := hs.len
  refine calls_walk h ?_
  by_cases h4 : l.length = 4
  · obtain ⟨x0, x1, x2, x3, rfl⟩ := list4 h4
    obtain ⟨b0, o0, hb0, i0, r0⟩ := hs.get 0 (by simp)
    obtain ⟨b1, o1, hb1, i1, r1⟩ := hs.get 1 (by simp)
    obtain ⟨b2, o2, hb2, i2, r2⟩ := hs.get 2 (by simp)
    obtain ⟨b3, o3, hb3, i3, r3⟩ := hs.get 3 (by simp)
    have i0 : iaSV 1 v (.i .i64 0) = some (.p b0 o0) := i0 _
    have i1 : iaSV 1 v (.i .i64 1) = some (.p b1 o1) := i1 _
    have i2 : iaSV 1 v (.i .i64 2) = some (.p b2 o2) := i2 _
    have i3 : iaSV 1 v (.i .i64 3) = some (.p b3 o3) := i3 _
    have n0 : b0 ≠ c := by omega
    have n1 : b1 ≠ c := by omega
    have n2 : b2 ≠ c := by omega
    have n3 : b3 ≠ c := by omega
    have hl : lnL v = some (.i .i64 4) := hl
    have r0 : load1 F M b0 o0 = some (.i .u8 (x0.toNat : Int)) := r0
    have r1 : load1 F M b1 o1 = some (.i .u8 (x1.toNat : Int)) := r1
    have r2 : load1 F M b2 o2 = some (.i .u8 (x2.toNat : Int)) := r2
    have r3 : load1 F M b3 o3 = some (.i .u8 (x3.toNat : Int)) := r3
    have k0 := UInt8.toNat_lt x0
    have k1 := UInt8.toNat_lt x1
    have k2 := UInt8.toNat_lt x2
    have k3 := UInt8.toNat_lt x3
    have hfree := ok.free_set
    show Wp _ _ _ (endQ F _ fun r M' c' => r = ofV (x0.toNat + 256 * x1.toNat + 65536 * x2.toNat + 16777216 * x3.toNat) ∧ Gr c M c' M')
    generalize x0.toNat = c0 at *
    generalize x1.toNat = c1 at *
    generalize x2.toNat = c2 at *
    generalize x3.toNat = c3 at *
    have e0 := u32_nat c0 (by omega)
    have e1 := u32_nat c1 (by omega)
    have e2 := u32_nat c2 (by omega)
    have e3 := u32_nat c3 (by omega)
    have s1 := u32_shl8 c1 (by omega)
    have s2 := u32_shl16 c2 (by omega)
    have s3 := u32_shl24 c3 (by omega)
    have p1 := u32_add c0 (256 * c1) (by omega)
    have p2 := u32_add (c0 + 256 * c1) (65536 * c2) (by omega)
    have p3 := u32_add (c0 + 256 * c1 + 65536 * c2) (16777216 * c3) (by omega)
    have hq := h32_eq (c0 + 256 * c1 + 65536 * c2 + 16777216 * c3) (by omega)
    rw [refV_eq _ (by omega), ofV_eq] at hq
    rw [ofV_eq]
    generalize c0 + 256 * c1 + 65536 * c2 + 16777216 * c3 = a3 at *
    generalize c0 + 256 * c1 + 65536 * c2 = a2 at *
    generalize c0 + 256 * c1 = a1 at *
    clear h4 hs
    simp only [wp_dreg, wd_e1, befB_nil, befB_cons, Nat.reducePow, Nat.reduceDiv, Nat.reduceMod, putDE, dregQ_eq, mergeAll_nil, wd_nil, wd_q, putD_v, putD_r, oV_some, dq_mv, dq_ci, dq_bi0, biQ_i, dq_ex, dq_ld0, ldQ_p, ldR_some, dq_iaS, v_iaS, lnSl, wp_seq, seqQ_nrm, wp_reg, wp_ret, wp_skip, wo_nil, xo_q, xo_a, wp_condF, putO, putA, setT_some, setT_none, v_mv, v_bi, bi_neq, v_ln, e_st_eq, er_some, xo_call, callC_orc, ev_t, ev_c, evs_nil, evs_cons, Tr.setP_h, Tr.setP_l, Tr.setP_r, getT_h, getT_l, getT_r, Nat.reduceBEq, List.getElem?_cons_zero, List.getElem?_cons_succ, endQ_ret, endO, resV_nil', resV_t, consO_some, oneV_two, decide_false, if_true, pureO_of, ofO_some, flatten_g, allOne_nil, allOne_cons, isOne_i, Bool.and_true, over_nil, over_cons, List.set_cons_zero, List.set_cons_succ, List.length_cons, List.length_nil, Nat.reduceAdd, Nat.reduceLeDiff, Nat.zero_add, true_and, resV_cn, load1_ne, loadN_same, storeN_same, a_al_eq, List.drop_zero, List.take_succ_cons, List.take_nil, Nat.add_assoc, e34, w34_1, w34_2, w34_4, w34_5, not_true_eq_false, hl, i0, i1, i2, i3, r0, r1, r2, r3, e0, e1, e2, e3, s1, s2, s3, p1, p2, p3, h32, hq, hfree, n0, n1, n2, n3, ne_eq, not_false_eq_true]
    exact (Gr.refl ok).set c _ (Nat.le_refl _) (by omega) (by omega)
  · have hd : decide ((l.length : Int) ≠ 4) = true := decide_eq_true (by omega)
    rw [readV_ne h4]
    simp only [lnSl, wp_seq, seqQ_nrm, seqQ_ret, wp_reg, wp_ret, wo_nil, xo_q, xo_a, xo_e0, wp_condT, putO, putA, putE0, v_mv, v_bi, bi_neq, v_ln, e_st_eq, er_some, ev_t, ev_c, Tr.setP_h, Tr.setP_l, Tr.setP_r, getT_h, getT_l, getT_r, endQ_ret, endO, resV_nil', resV_t, consO_some, oneV_two, if_true, flatten_g, allOne_nil, allOne_cons, isOne_i, Bool.and_true, evP_nil, fillV_nil, over_nil, over_cons, List.set_cons_zero, List.set_cons_succ, List.length_cons, List.length_nil, Nat.reduceAdd, Nat.reduceLeDiff, Nat.zero_add, true_and, v_bld, resV_cn, loadN_same, storeN_same, a_al_eq, List.drop_zero, List.take_succ_cons, List.take_nil, Option.map_some, e34, w34_1, w34_2, w34_3, w34_4, hl, hd, lenRV]
    exact (Gr.refl ok).set c _ (Nat.le_refl _) (by omega) (by omega)
end Go.Proofs.YtffpeieapadocaaGreatDoor.Ev
set_option maxRecDepth 10000
set_option maxHeartbeats 16000000
namespace Go.Proofs.YtffpeieapadocaaGreatDoor.Ev
open Go
noncomputable def b6_1 : CC := (.reg [⟨(some (.r (.l .h))), .q (.mv (.c (.b false))), none⟩])
noncomputable def b6_2 : CC := (.reg [⟨(some (.r (.l (.l (.l .h))))), .q (.mv (.t (.l .h))), none⟩, ⟨(some (.l (.r (.l (.l .h))))), .q (.ln .slice (.t (.r (.l (.l (.l .h)))))), none⟩, ⟨(some (.r (.r (.l (.l .h))))), .q (.bi .gtr (.t (.l (.r (.l (.l .h))))) (.c (.i .i64 4000))), none⟩])
noncomputable def b6_3 : CC := (.reg [⟨(some (.l (.l (.r (.l .h))))), .e (.call 8 []), none⟩, ⟨(some (.r (.l .h))), .q (.mv (.t (.l (.l (.r (.l .h)))))), none⟩])
noncomputable def b6_4 : CC := (.seq b6_2 (.cond (.t (.r (.r (.l (.l .h))))) (.seq b6_3 .ret) .skip))
noncomputable def b6_5 : CC := (.reg [⟨(some (.l (.r (.r (.l .h))))), .q (.mv (.t .h)), none⟩, ⟨(some (.r (.r (.r (.l .h))))), .e (.call 31 [(.t (.l (.r (.r (.l .h)))))]), none⟩, ⟨(some (.r (.l (.r (.l .h))))), .q (.mv (.t (.r (.r (.r (.l .h)))))), none⟩, ⟨(some (.l (.l (.l (.r .h))))), .q (.ex 0 (.t (.r (.l (.r (.l .h)))))), none⟩, ⟨(some (.r (.l (.l (.r .h))))), .q (.ex 1 (.t (.r (.l (.r (.l .h)))))), none⟩, ⟨(some (.l (.r .h))), .a (.al 26 [(.i .i64 0), (.i .i64 0), (.i .i64 0), (.i .i64 0), (.i .i64 0)]), none⟩, ⟨none, .e (.st 5 (.t (.l (.r .h))) (.t (.l (.l (.l (.r .h)))))), none⟩, ⟨(some (.r (.r .h))), .q (.mv (.t (.r (.l (.l (.r .h)))))), none⟩])
noncomputable def b6_6 : CC := (.reg [⟨(some (.r (.r (.l (.r .h))))), .q (.mv (.t .h)), none⟩, ⟨(some (.l (.l (.r (.r .h))))), .e (.call 32 [(.t (.r (.r (.l (.r .h)))))]), none⟩, ⟨(some (.l (.r (.l (.r .h))))), .q (.mv (.t (.l (.l (.r (.r .h)))))), none⟩, ⟨(some (.r (.l (.r (.r .h))))), .q (.ex 0 (.t (.l (.r (.l (.r .h)))))), none⟩, ⟨(some (.l (.r (.r (.r .h))))), .q (.ex 1 (.t (.l (.r (.l (.r .h)))))), none⟩, ⟨(some (.l (.l (.l .h)))), .a (.al 26 [(.i .i64 0), (.i .i64 0), (.i .i64 0), (.i .i64 0), (.i .i64 0)]), none⟩, ⟨none, .e (.st 5 (.t (.l (.l (.l .h)))) (.t (.r (.l (.r (.r .h)))))), none⟩, ⟨(some (.r (.l (.l .h)))), .q (.mv (.t (.l (.r (.r (.r .h)))))), none⟩])
noncomputable def b6_7 : CC := (.reg [⟨(some (.r (.r (.r (.r .h))))), .q (.mv (.t (.l .h))), none⟩, ⟨(some (.l (.l (.l (.l (.l .h)))))), .e (.app 5 1 1 (.c .l0) (.t (.r (.r (.r (.r .h)))))), none⟩, ⟨(some (.r (.l (.l (.l (.l .h)))))), .a (.bsl 5 1 1 [(.i .u8 0)] [(0, (.c (.i .u8 119)))]), none⟩, ⟨(some (.l (.r (.l (.l (.l .h)))))), .e (.app 5 1 1 (.t (.l (.l (.l (.l (.l .h)))))) (.t (.r (.l (.l (.l (.l .h))))))), none⟩, ⟨(some (.l (.r (.l .h)))), .q (.mv (.t (.l (.r (.l (.l (.l .h))))))), none⟩])
noncomputable def b6_8 : CC := (.reg [⟨(some (.l (.l (.r (.l (.l .h)))))), .q (.mv (.t (.l (.r (.l .h))))), none⟩, ⟨(some (.r (.l (.r (.l (.l .h)))))), .q (.mv (.t (.l .h))), none⟩, ⟨(some (.l (.r (.r (.l (.l .h)))))), .q (.ln .slice (.t (.r (.l (.r (.l (.l .h))))))), none⟩, ⟨(some (.r (.r (.r (.l (.l .h)))))), .q (.slL 1 (.t (.l (.l (.r (.l (.l .h)))))) none (some (.t (.l (.r (.r (.l (.l .h))))))) none), none⟩, ⟨(some (.l (.l (.l (.r (.l .h)))))), .e (.call 33 [(.t (.r (.r (.r (.l (.l .h))))))]), none⟩, ⟨(some (.r (.r (.l (.l (.l .h)))))), .q (.mv (.t (.l (.l (.l (.r (.l .h))))))), none⟩, ⟨(some (.r (.l (.l (.r (.l .h)))))), .q (.ex 0 (.t (.r (.r (.l (.l (.l .h))))))), none⟩, ⟨(some (.l (.r (.l (.r (.l .h)))))), .q (.ex 1 (.t (.r (.r (.l (.l (.l .h))))))), none⟩, ⟨(some (.r (.r (.l .h)))), .a (.al 26 [(.i .i64 0), (.i .i64 0), (.i .i64 0), (.i .i64 0), (.i .i64 0)]), none⟩, ⟨none, .e (.st 5 (.t (.r (.r (.l .h)))) (.t (.r (.l (.l (.r (.l .h))))))), none⟩, ⟨(some (.l (.l (.r .h)))), .q (.mv (.t (.l (.r (.l (.r (.l .h))))))), none⟩])
noncomputable def b6_9 : CC := (.reg [⟨(some (.l (.l (.r (.r (.l .h)))))), .q (.mv (.t (.l .h))), none⟩, ⟨(some (.r (.l (.r (.r (.l .h)))))), .e (.call 34 [(.t (.l (.l (.r (.r (.l .h))))))]), none⟩, ⟨(some (.r (.r (.l (.r (.l .h)))))), .q (.mv (.t (.r (.l (.r (.r (.l .h))))))), none⟩, ⟨(some (.l (.r (.r (.r (.l .h)))))), .q (.ex 0 (.t (.r (.r (.l (.r (.l .h))))))), none⟩, ⟨(some (.r (.r (.r (.r (.l .h)))))), .q (.ex 1 (.t (.r (.r (.l (.r (.l .h))))))), none⟩, ⟨(some (.r (.l (.r .h)))), .a (.al 26 [(.i .i64 0), (.i .i64 0), (.i .i64 0), (.i .i64 0), (.i .i64 0)]), none⟩, ⟨none, .e (.st 5 (.t (.r (.l (.r .h)))) (.t (.l (.r (.r (.r (.l .h))))))), none⟩, ⟨(some (.l (.r (.r .h)))), .q (.mv (.t (.r (.r (.r (.r (.l .h))))))), none⟩])
noncomputable def b6_10 : CC := (.reg [⟨(some (.l (.l (.l (.l (.r .h)))))), .q (.ldn 5 (.t (.l (.r .h)))), none⟩, ⟨(some (.r (.l (.l (.l (.r .h)))))), .q (.ldn 5 (.t (.l (.l (.l .h))))), none⟩, ⟨(some (.l (.r (.l (.l (.r .h)))))), .q (.eq true (.agg [(0, .int), (1, .int), (2, .int), (3, .int), (4, .int)]) false (.t (.l (.l (.l (.l (.r .h)))))) (.t (.r (.l (.l (.l (.r .h))))))), none⟩, ⟨(some (.r (.r (.l (.l (.r .h)))))), .q (.mv (.t (.l (.r (.l (.l (.r .h))))))), none⟩, ⟨(some (.l (.l (.r (.l (.r .h)))))), .q (.mv (.t (.r (.r .h)))), (some ((.r (.r (.l (.l (.r .h))))), false))⟩, ⟨(some (.r (.l (.r (.l (.r .h)))))), .e (.call 11 [(.t (.l (.l (.r (.l (.r .h))))))]), (some ((.r (.r (.l (.l (.r .h))))), false))⟩, ⟨(some (.l (.r (.r (.l (.r .h)))))), .q (.mv (.t (.r (.l (.l .h))))), (some ((.r (.r (.l (.l (.r .h))))), false))⟩, ⟨(some (.r (.r (.r (.l (.r .h)))))), .q (.bi .neq (.t (.r (.l (.r (.l (.r .h)))))) (.t (.l (.r (.r (.l (.r .h))))))), (some ((.r (.r (.l (.l (.r .h))))), false))⟩, ⟨(some (.l (.l (.l (.r (.r .h)))))), .q (.pk (.t (.r (.r (.l (.l (.r .h)))))) (.c (.b true)) (.t (.r (.r (.r (.l (.r .h))))))), none⟩, ⟨(some (.r (.l (.l (.r (.r .h)))))), .q (.mv (.t (.l (.l (.l (.r (.r .h))))))), none⟩, ⟨(some (.l (.r (.l (.r (.r .h)))))), .q (.ldn 5 (.t (.r (.r (.l .h))))), (some ((.r (.l (.l (.r (.r .h))))), false))⟩, ⟨(some (.r (.r (.l (.r (.r .h)))))), .q (.ldn 5 (.t (.r (.l (.r .h))))), (some ((.r (.l (.l (.r (.r .h))))), false))⟩, ⟨(some (.l (.l (.r (.r (.r .h)))))), .q (.eq true (.agg [(0, .int), (1, .int), (2, .int), (3, .int), (4, .int)]) false (.t (.l (.r (.l (.r (.r .h)))))) (.t (.r (.r (.l (.r (.r .h))))))), (some ((.r (.l (.l (.r (.r .h))))), false))⟩, ⟨(some (.r (.l (.r (.r (.r .h)))))), .q (.pk (.t (.r (.l (.l (.r (.r .h)))))) (.c (.b true)) (.t (.l (.l (.r (.r (.r .h))))))), none⟩, ⟨(some (.l (.r (.r (.r (.r .h)))))), .q (.mv (.t (.r (.l (.r (.r (.r .h))))))), none⟩, ⟨(some (.r (.r (.r (.r (.r .h)))))), .q (.mv (.t (.l (.l (.r .h))))), (some ((.l (.r (.r (.r (.r .h))))), false))⟩, ⟨(some (.l (.l (.l (.l (.l (.l .h))))))), .e (.call 11 [(.t (.r (.r (.r (.r (.r .h))))))]), (some ((.l (.r (.r (.r (.r .h))))), false))⟩, ⟨(some (.r (.l (.l (.l (.l (.l .h))))))), .q (.mv (.t (.l (.r (.r .h))))), (some ((.l (.r (.r (.r (.r .h))))), false))⟩, ⟨(some (.l (.r (.l (.l (.l (.l .h))))))), .q (.bi .neq (.t (.l (.l (.l (.l (.l (.l .h))))))) (.t (.r (.l (.l (.l (.l (.l .h)))))))), (some ((.l (.r (.r (.r (.r .h))))), false))⟩, ⟨(some (.r (.r (.l (.l (.l (.l .h))))))), .q (.pk (.t (.l (.r (.r (.r (.r .h)))))) (.c (.b true)) (.t (.l (.r (.l (.l (.l (.l .h)))))))), none⟩, ⟨(some (.l (.l (.r (.l (.l (.l .h))))))), .q (.mv (.t (.r (.r (.l (.l (.l (.l .h)))))))), none⟩, ⟨(some (.r (.l (.r (.l (.l (.l .h))))))), .q (.mv (.t (.l (.r (.l .h))))), (some ((.l (.l (.r (.l (.l (.l .h)))))), false))⟩, ⟨(some (.l (.r (.r (.l (.l (.l .h))))))), .q (.bs (.t (.r (.l (.r (.l (.l (.l .h)))))))), (some ((.l (.l (.r (.l (.l (.l .h)))))), false))⟩, ⟨(some (.r (.r (.r (.l (.l (.l .h))))))), .q (.mv (.t (.l .h))), (some ((.l (.l (.r (.l (.l (.l .h)))))), false))⟩, ⟨(some (.l (.l (.l (.r (.l (.l .h))))))), .q (.bs (.t (.r (.r (.r (.l (.l (.l .h)))))))), (some ((.l (.l (.r (.l (.l (.l .h)))))), false))⟩, ⟨(some (.r (.l (.l (.r (.l (.l .h))))))), .q (.bi .add (.t (.l (.l (.l (.r (.l (.l .h))))))) (.c (.s 1 119))), (some ((.l (.l (.r (.l (.l (.l .h)))))), false))⟩, ⟨(some (.l (.r (.l (.r (.l (.l .h))))))), .q (.bi .neq (.t (.l (.r (.r (.l (.l (.l .h))))))) (.t (.r (.l (.l (.r (.l (.l .h)))))))), (some ((.l (.l (.r (.l (.l (.l .h)))))), false))⟩, ⟨(some (.r (.r (.l (.r (.l (.l .h))))))), .q (.pk (.t (.l (.l (.r (.l (.l (.l .h))))))) (.c (.b true)) (.t (.l (.r (.l (.r (.l (.l .h)))))))), none⟩])
noncomputable def b6_11 : CC := (.reg [⟨(some (.r (.l .h))), .q (.mv (.c (.b false))), none⟩])
noncomputable def b6_12 : CC := (.cond (.t (.r (.r (.l (.r (.l (.l .h))))))) (.seq b6_11 .ret) .skip)
noncomputable def b6_13 : CC := (.reg [⟨(some (.l (.l (.r (.r (.l (.l .h))))))), .q (.mv (.t (.r (.l (.l .h))))), none⟩, ⟨(some (.r (.l (.r (.r (.l (.l .h))))))), .q (.bi .eql (.t (.l (.l (.r (.r (.l (.l .h))))))) (.c (.i .i64 0))), none⟩])
noncomputable def b6_14 : CC := (.reg [⟨(some (.r (.r (.r (.r (.l (.l .h))))))), .q (.ldn 5 (.t (.l (.r .h)))), none⟩, ⟨(some (.l (.l (.l (.l (.r (.l .h))))))), .e (.call 10 [(.t (.r (.r (.r (.r (.l (.l .h)))))))]), none⟩, ⟨(some (.l (.r (.r (.r (.l (.l .h))))))), .q (.mv (.t (.l (.l (.l (.l (.r (.l .h)))))))), none⟩, ⟨(some (.r (.l (.l (.l (.r (.l .h))))))), .q (.ex 0 (.t (.l (.r (.r (.r (.l (.l .h)))))))), none⟩, ⟨(some (.l (.r (.l (.l (.r (.l .h))))))), .q (.ex 1 (.t (.l (.r (.r (.r (.l (.l .h)))))))), none⟩, ⟨(some (.r (.r (.r .h)))), .q (.mv (.t (.r (.l (.l (.l (.r (.l .h)))))))), none⟩, ⟨(some (.l (.l (.l (.l .h))))), .q (.mv (.t (.l (.r (.l (.l (.r (.l .h)))))))), none⟩])
noncomputable def b6_15 : CC := (.reg [⟨(some (.r (.r (.l (.l (.r (.l .h))))))), .q (.mv (.t (.r (.r (.r .h))))), none⟩, ⟨(some (.l (.l (.r (.l (.r (.l .h))))))), .q (.mv (.t .h)), none⟩, ⟨(some (.r (.l (.r (.l (.r (.l .h))))))), .q (.bi .eql (.t (.r (.r (.l (.l (.r (.l .h))))))) (.t (.l (.l (.r (.l (.r (.l .h)))))))), none⟩, ⟨(some (.l (.r (.r (.l (.r (.l .h))))))), .q (.mv (.t (.r (.l (.r (.l (.r (.l .h)))))))), none⟩, ⟨(some (.r (.r (.r (.l (.r (.l .h))))))), .q (.mv (.t (.l (.l (.l (.l .h)))))), (some ((.l (.r (.r (.l (.r (.l .h)))))), true))⟩, ⟨(some (.l (.l (.l (.r (.r (.l .h))))))), .e (.call 11 [(.t (.r (.r (.r (.l (.r (.l .h)))))))]), (some ((.l (.r (.r (.l (.r (.l .h)))))), true))⟩, ⟨(some (.r (.l (.l (.r (.r (.l .h))))))), .q (.bi .eql (.t (.l (.l (.l (.r (.r (.l .h))))))) (.c (.i .i64 0))), (some ((.l (.r (.r (.l (.r (.l .h)))))), true))⟩, ⟨(some (.l (.r (.l (.r (.r (.l .h))))))), .q (.pk (.t (.l (.r (.r (.l (.r (.l .h))))))) (.t (.r (.l (.l (.r (.r (.l .h))))))) (.c (.b false))), none⟩, ⟨(some (.r (.r (.l (.r (.r (.l .h))))))), .q (.mv (.t (.l (.r (.l (.r (.r (.l .h)))))))), none⟩, ⟨(some (.l (.l (.r (.r (.r (.l .h))))))), .e (.call 8 []), (some ((.r (.r (.l (.r (.r (.l .h)))))), true))⟩, ⟨(some (.r (.l (.r (.r (.r (.l .h))))))), .q (.pk (.t (.r (.r (.l (.r (.r (.l .h))))))) (.t (.l (.l (.r (.r (.r (.l .h))))))) (.c (.b false))), none⟩, ⟨(some (.r (.l .h))), .q (.mv (.t (.r (.l (.r (.r (.r (.l .h)))))))), none⟩])
noncomputable def b6_16 : CC := (.cond (.t (.r (.l (.r (.r (.l (.l .h))))))) (.seq b6_14 (.seq b6_15 .ret)) .skip)
noncomputable def b6_17 : CC := (.reg [⟨(some (.l (.r (.r (.r (.r (.l .h))))))), .e (.call 8 []), none⟩, ⟨(some (.r (.l .h))), .q (.mv (.t (.l (.r (.r (.r (.r (.l .h)))))))), none⟩])
noncomputable def b6_18 : CC := (.seq (.seq b6_10 b6_12) (.seq (.seq b6_13 b6_16) (.seq b6_17 .ret)))
noncomputable def b6_19 : CC := (.seq b6_5 (.seq b6_6 (.seq b6_7 (.seq b6_8 (.seq b6_9 b6_18)))))
noncomputable def c6 : CF := .mk 7 [.t (.r (.l .h))] (.seq b6_1 (.seq b6_4 b6_19))
theorem e6 (v0 v1 : V) : argTr 7 [v0, v1] = (.n (.n (.n (.n (.n (.n (.n .e none .e) none (.n .e none .e)) none (.n (.n .e none .e) none (.n .e none .e))) none (.n (.n (.n .e none .e) none (.n .e none .e)) none (.n (.n .e none .e) none (.n .e none .e)))) none (.n (.n (.n (.n .e none .e) none (.n .e none .e)) none (.n (.n .e none .e) none (.n .e none .e))) none (.n (.n (.n .e none .e) none (.n .e none .e)) none (.n (.n .e none .e) none (.n .e none .e))))) (some v1) (.n (.n (.n (.n (.n .e none .e) none (.n .e none .e)) none (.n (.n .e none .e) none (.n .e none .e))) none (.n (.n (.n .e none .e) none (.n .e none .e)) none (.n (.n .e none .e) none (.n .e none .e)))) none (.n (.n (.n (.n .e none .e) none (.n .e none .e)) none (.n (.n .e none .e) none (.n .e none .e))) none (.n (.n (.n .e none .e) none (.n .e none .e)) none (.n (.n .e none .e) none (.n .e none .e)))))) (some v0) (.n (.n (.n (.n (.n (.n .e none .e) none (.n .e none .e)) none (.n (.n .e none .e) none (.n .e none .e))) none (.n (.n (.n .e none .e) none (.n .e none .e)) none (.n (.n .e none .e) none (.n .e none .e)))) none (.n (.n (.n (.n .e none .e) none (.n .e none .e)) none (.n (.n .e none .e) none (.n .e none .e))) none (.n (.n (.n .e none .e) none (.n .e none .e)) none (.n (.n .e none .e) none (.n .e none .e))))) none (.n (.n (.n (.n (.n .e none .e) none (.n .e none .e)) none (.n (.n .e none .e) none (.n .e none .e))) none (.n (.n (.n .e none .e) none (.n .e none .e)) none (.n (.n .e none .e) none (.n .e none .e)))) none (.n (.n (.n (.n .e none .e) none (.n .e none .e)) none (.n (.n .e none .e) none (.n .e none .e))) none (.n (.n (.n .e none .e) none (.n .e none .e)) none (.n (.n .e none .e) none (.n .e none .e))))))) := rfl
def h11 : List V → Option V
  | [.i .i64 n] => some (.i .i64 n)
  | _ => none
end Go.Proofs.YtffpeieapadocaaGreatDoor.Ev
