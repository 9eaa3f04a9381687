/- What is proved here: pieces of the evaluator's soundness: if the evaluator comes to a value, the model's run comes to it, for every world and tape; no conditions beyond the hypotheses of each theorem. -/
import Derived.Test.YtffpeieapadocaaGreatDoorEv5
set_option linter.unusedSimpArgs false
set_option linter.unusedVariables false
set_option maxRecDepth 10000
set_option maxHeartbeats 16000000
namespace Go.Proofs.YtffpeieapadocaaGreatDoor.Ev
open Go
noncomputable def b25_1 : CC := (.reg [⟨(some (.l (.r .h))), .q (.bi .eql (.t (.l (.l .h))) (.c (.i .i64 3))), none⟩, ⟨(some (.r (.l .h))), .q (.mv (.t (.l (.r .h)))), none⟩])
theorem w25_1 (k : Kn) (s : St) (R : Ex → St → Prop) : Wp b25_1 k s R = Wp (.reg [⟨(some (.l (.r .h))), .q (.bi .eql (.t (.l (.l .h))) (.c (.i .i64 3))), none⟩, ⟨(some (.r (.l .h))), .q (.mv (.t (.l (.r .h)))), none⟩]) k s R := rfl
noncomputable def b25_2 : CC := (.reg [⟨(some (.l (.l (.l .h)))), .q (.bi .eql (.t (.l (.l .h))) (.c (.i .i64 23))), none⟩, ⟨(some (.r (.r .h))), .q (.mv (.t (.l (.l (.l .h))))), none⟩])
theorem w25_2 (k : Kn) (s : St) (R : Ex → St → Prop) : Wp b25_2 k s R = Wp (.reg [⟨(some (.l (.l (.l .h)))), .q (.bi .eql (.t (.l (.l .h))) (.c (.i .i64 23))), none⟩, ⟨(some (.r (.r .h))), .q (.mv (.t (.l (.l (.l .h))))), none⟩]) k s R := rfl
noncomputable def b25_3 : CC := (.reg [⟨(some (.l (.r (.l .h)))), .q (.bi .eql (.t (.l (.l .h))) (.c (.i .i64 24))), none⟩, ⟨(some (.r (.l (.l .h)))), .q (.mv (.t (.l (.r (.l .h))))), none⟩])
theorem w25_3 (k : Kn) (s : St) (R : Ex → St → Prop) : Wp b25_3 k s R = Wp (.reg [⟨(some (.l (.r (.l .h)))), .q (.bi .eql (.t (.l (.l .h))) (.c (.i .i64 24))), none⟩, ⟨(some (.r (.l (.l .h)))), .q (.mv (.t (.l (.r (.l .h))))), none⟩]) k s R := rfl
noncomputable def b25_4 : CC := (.reg [⟨(some (.l (.l (.r .h)))), .q (.bi .eql (.t (.l (.l .h))) (.c (.i .i64 5))), none⟩, ⟨(some (.r (.r (.l .h)))), .q (.mv (.t (.l (.l (.r .h))))), none⟩])
theorem w25_4 (k : Kn) (s : St) (R : Ex → St → Prop) : Wp b25_4 k s R = Wp (.reg [⟨(some (.l (.l (.r .h)))), .q (.bi .eql (.t (.l (.l .h))) (.c (.i .i64 5))), none⟩, ⟨(some (.r (.r (.l .h)))), .q (.mv (.t (.l (.l (.r .h))))), none⟩]) k s R := rfl
noncomputable def b25_5 : CC := (.reg [⟨(some (.r (.l (.r .h)))), .q (.bi .eql (.t (.l (.l .h))) (.c (.i .i64 6))), none⟩, ⟨(some (.r (.r (.l .h)))), .q (.mv (.t (.r (.l (.r .h))))), none⟩])
theorem w25_5 (k : Kn) (s : St) (R : Ex → St → Prop) : Wp b25_5 k s R = Wp (.reg [⟨(some (.r (.l (.r .h)))), .q (.bi .eql (.t (.l (.l .h))) (.c (.i .i64 6))), none⟩, ⟨(some (.r (.r (.l .h)))), .q (.mv (.t (.r (.l (.r .h))))), none⟩]) k s R := rfl
noncomputable def b25_6 : CC := (.reg [⟨(some (.l (.r (.r .h)))), .q (.bi .eql (.t (.l (.l .h))) (.c (.i .i64 25))), none⟩, ⟨(some (.r (.r (.l .h)))), .q (.mv (.t (.l (.r (.r .h))))), none⟩])
theorem w25_6 (k : Kn) (s : St) (R : Ex → St → Prop) : Wp b25_6 k s R = Wp (.reg [⟨(some (.l (.r (.r .h)))), .q (.bi .eql (.t (.l (.l .h))) (.c (.i .i64 25))), none⟩, ⟨(some (.r (.r (.l .h)))), .q (.mv (.t (.l (.r (.r .h))))), none⟩]) k s R := rfl
noncomputable def b25_7 : CC := (.cond (.t (.r (.r (.l .h)))) .skip (.seq b25_5 (.cond (.t (.r (.r (.l .h)))) .skip b25_6)))
theorem w25_7 (k : Kn) (s : St) (R : Ex → St → Prop) : Wp b25_7 k s R = Wp (.cond (.t (.r (.r (.l .h)))) .skip (.seq b25_5 (.cond (.t (.r (.r (.l .h)))) .skip b25_6))) k s R := rfl
noncomputable def b25_8 : CC := (.seq (.seq b25_4 b25_7) (.cond (.t (.r (.r (.l .h)))) (.exit 4) .skip))
theorem w25_8 (k : Kn) (s : St) (R : Ex → St → Prop) : Wp b25_8 k s R = Wp (.seq (.seq b25_4 b25_7) (.cond (.t (.r (.r (.l .h)))) (.exit 4) .skip)) k s R := rfl
noncomputable def b25_9 : CC := (.reg [⟨(some (.l (.l (.l (.l .h))))), .q (.bi .eql (.t (.l (.l .h))) (.c (.i .i64 7))), none⟩, ⟨(some (.r (.r (.r .h)))), .q (.mv (.t (.l (.l (.l (.l .h)))))), none⟩])
theorem w25_9 (k : Kn) (s : St) (R : Ex → St → Prop) : Wp b25_9 k s R = Wp (.reg [⟨(some (.l (.l (.l (.l .h))))), .q (.bi .eql (.t (.l (.l .h))) (.c (.i .i64 7))), none⟩, ⟨(some (.r (.r (.r .h)))), .q (.mv (.t (.l (.l (.l (.l .h)))))), none⟩]) k s R := rfl
noncomputable def b25_10 : CC := (.seq b25_8 (.seq b25_9 (.cond (.t (.r (.r (.r .h)))) (.exit 5) .skip)))
theorem w25_10 (k : Kn) (s : St) (R : Ex → St → Prop) : Wp b25_10 k s R = Wp (.seq b25_8 (.seq b25_9 (.cond (.t (.r (.r (.r .h)))) (.exit 5) .skip))) k s R := rfl
noncomputable def b25_11 : CC := (.seq (.seq b25_3 (.cond (.t (.r (.l (.l .h)))) (.exit 3) .skip)) b25_10)
theorem w25_11 (k : Kn) (s : St) (R : Ex → St → Prop) : Wp b25_11 k s R = Wp (.seq (.seq b25_3 (.cond (.t (.r (.l (.l .h)))) (.exit 3) .skip)) b25_10) k s R := rfl
noncomputable def b25_12 : CC := (.seq (.seq b25_2 (.cond (.t (.r (.r .h))) (.exit 2) .skip)) b25_11)
theorem w25_12 (k : Kn) (s : St) (R : Ex → St → Prop) : Wp b25_12 k s R = Wp (.seq (.seq b25_2 (.cond (.t (.r (.r .h))) (.exit 2) .skip)) b25_11) k s R := rfl
noncomputable def b25_13 : CC := (.seq (.seq b25_1 (.cond (.t (.r (.l .h))) (.exit 1) .skip)) b25_12)
theorem w25_13 (k : Kn) (s : St) (R : Ex → St → Prop) : Wp b25_13 k s R = Wp (.seq (.seq b25_1 (.cond (.t (.r (.l .h))) (.exit 1) .skip)) b25_12) k s R := rfl
noncomputable def b25_14 : CC := (.seq (.reg [⟨(some (.r .h)), .q (.mv (.c (.i .i64 1))), none⟩]) .ret)
theorem w25_14 (k : Kn) (s : St) (R : Ex → St → Prop) : Wp b25_14 k s R = Wp (.seq (.reg [⟨(some (.r .h)), .q (.mv (.c (.i .i64 1))), none⟩]) .ret) k s R := rfl
noncomputable def b25_15 : CC := (.seq (.block 2 (.block 1 (.seq b25_13 (.exit 0)))) (.seq b25_14 (.exit 0)))
theorem w25_15 (k : Kn) (s : St) (R : Ex → St → Prop) : Wp b25_15 k s R = Wp (.seq (.block 2 (.block 1 (.seq b25_13 (.exit 0)))) (.seq b25_14 (.exit 0))) k s R := rfl
noncomputable def b25_16 : CC := (.seq (.reg [⟨(some (.r .h)), .q (.mv (.c (.i .i64 2))), none⟩]) .ret)
theorem w25_16 (k : Kn) (s : St) (R : Ex → St → Prop) : Wp b25_16 k s R = Wp (.seq (.reg [⟨(some (.r .h)), .q (.mv (.c (.i .i64 2))), none⟩]) .ret) k s R := rfl
noncomputable def b25_17 : CC := (.seq (.reg [⟨(some (.r .h)), .q (.mv (.c (.i .i64 3))), none⟩]) .ret)
theorem w25_17 (k : Kn) (s : St) (R : Ex → St → Prop) : Wp b25_17 k s R = Wp (.seq (.reg [⟨(some (.r .h)), .q (.mv (.c (.i .i64 3))), none⟩]) .ret) k s R := rfl
noncomputable def b25_18 : CC := (.seq (.block 4 (.seq (.block 3 b25_15) (.seq b25_16 (.exit 0)))) (.seq b25_17 (.exit 0)))
theorem w25_18 (k : Kn) (s : St) (R : Ex → St → Prop) : Wp b25_18 k s R = Wp (.seq (.block 4 (.seq (.block 3 b25_15) (.seq b25_16 (.exit 0)))) (.seq b25_17 (.exit 0))) k s R := rfl
noncomputable def b25_19 : CC := (.seq (.reg [⟨(some (.r .h)), .q (.mv (.c (.i .i64 4))), none⟩]) .ret)
theorem w25_19 (k : Kn) (s : St) (R : Ex → St → Prop) : Wp b25_19 k s R = Wp (.seq (.reg [⟨(some (.r .h)), .q (.mv (.c (.i .i64 4))), none⟩]) .ret) k s R := rfl
noncomputable def b25_20 : CC := (.seq (.reg [⟨(some (.l (.l .h))), .q (.mv (.t .h)), none⟩]) (.block 0 (.seq (.block 5 b25_18) (.seq b25_19 (.exit 0)))))
theorem w25_20 (k : Kn) (s : St) (R : Ex → St → Prop) : Wp b25_20 k s R = Wp (.seq (.reg [⟨(some (.l (.l .h))), .q (.mv (.t .h)), none⟩]) (.block 0 (.seq (.block 5 b25_18) (.seq b25_19 (.exit 0))))) k s R := rfl
noncomputable def b25_21 : CC := (.reg [⟨(some (.l (.r (.l (.l .h))))), .q (.mv (.t .h)), none⟩, ⟨(some (.r (.r (.l (.l .h))))), .q (.bi .geq (.t (.l (.r (.l (.l .h))))) (.c (.i .i64 8))), none⟩, ⟨(some (.l (.l (.r (.l .h))))), .q (.mv (.t (.r (.r (.l (.l .h)))))), none⟩, ⟨(some (.r (.l (.r (.l .h))))), .q (.mv (.t .h)), (some ((.l (.l (.r (.l .h)))), true))⟩, ⟨(some (.l (.r (.r (.l .h))))), .q (.bi .leq (.t (.r (.l (.r (.l .h))))) (.c (.i .i64 17))), (some ((.l (.l (.r (.l .h)))), true))⟩, ⟨(some (.r (.r (.r (.l .h))))), .q (.pk (.t (.l (.l (.r (.l .h))))) (.t (.l (.r (.r (.l .h))))) (.c (.b false))), none⟩, ⟨(some (.r (.l (.l (.l .h))))), .q (.mv (.t (.r (.r (.r (.l .h)))))), none⟩])
theorem w25_21 (k : Kn) (s : St) (R : Ex → St → Prop) : Wp b25_21 k s R = Wp (.reg [⟨(some (.l (.r (.l (.l .h))))), .q (.mv (.t .h)), none⟩, ⟨(some (.r (.r (.l (.l .h))))), .q (.bi .geq (.t (.l (.r (.l (.l .h))))) (.c (.i .i64 8))), none⟩, ⟨(some (.l (.l (.r (.l .h))))), .q (.mv (.t (.r (.r (.l (.l .h)))))), none⟩, ⟨(some (.r (.l (.r (.l .h))))), .q (.mv (.t .h)), (some ((.l (.l (.r (.l .h)))), true))⟩, ⟨(some (.l (.r (.r (.l .h))))), .q (.bi .leq (.t (.r (.l (.r (.l .h))))) (.c (.i .i64 17))), (some ((.l (.l (.r (.l .h)))), true))⟩, ⟨(some (.r (.r (.r (.l .h))))), .q (.pk (.t (.l (.l (.r (.l .h))))) (.t (.l (.r (.r (.l .h))))) (.c (.b false))), none⟩, ⟨(some (.r (.l (.l (.l .h))))), .q (.mv (.t (.r (.r (.r (.l .h)))))), none⟩]) k s R := rfl
noncomputable def b25_22 : CC := (.seq (.reg [⟨(some (.r .h)), .q (.mv (.c (.i .i64 5))), none⟩]) .ret)
theorem w25_22 (k : Kn) (s : St) (R : Ex → St → Prop) : Wp b25_22 k s R = Wp (.seq (.reg [⟨(some (.r .h)), .q (.mv (.c (.i .i64 5))), none⟩]) .ret) k s R := rfl
noncomputable def b25_23 : CC := (.reg [⟨(some (.r (.l (.l (.r .h))))), .q (.mv (.t .h)), none⟩, ⟨(some (.l (.r (.l (.r .h))))), .q (.bi .geq (.t (.r (.l (.l (.r .h))))) (.c (.i .i64 18))), none⟩, ⟨(some (.r (.r (.l (.r .h))))), .q (.mv (.t (.l (.r (.l (.r .h)))))), none⟩, ⟨(some (.l (.l (.r (.r .h))))), .q (.mv (.t .h)), (some ((.r (.r (.l (.r .h)))), true))⟩, ⟨(some (.r (.l (.r (.r .h))))), .q (.bi .leq (.t (.l (.l (.r (.r .h))))) (.c (.i .i64 22))), (some ((.r (.r (.l (.r .h)))), true))⟩, ⟨(some (.l (.r (.r (.r .h))))), .q (.pk (.t (.r (.r (.l (.r .h))))) (.t (.r (.l (.r (.r .h))))) (.c (.b false))), none⟩, ⟨(some (.r (.r (.r (.r .h))))), .q (.mv (.t (.l (.r (.r (.r .h)))))), none⟩, ⟨(some (.l (.l (.l (.l (.l .h)))))), .q (.mv (.t .h)), (some ((.r (.r (.r (.r .h)))), false))⟩, ⟨(some (.r (.l (.l (.l (.l .h)))))), .q (.bi .geq (.t (.l (.l (.l (.l (.l .h)))))) (.c (.i .i64 26))), (some ((.r (.r (.r (.r .h)))), false))⟩, ⟨(some (.l (.r (.l (.l (.l .h)))))), .q (.mv (.t (.r (.l (.l (.l (.l .h))))))), (some ((.r (.r (.r (.r .h)))), false))⟩, ⟨(some (.r (.r (.l (.l (.l .h)))))), .q (.mv (.t .h)), (some ((.l (.r (.l (.l (.l .h))))), true))⟩, ⟨(some (.l (.l (.r (.l (.l .h)))))), .q (.bi .leq (.t (.r (.r (.l (.l (.l .h)))))) (.c (.i .i64 28))), (some ((.l (.r (.l (.l (.l .h))))), true))⟩, ⟨(some (.r (.l (.r (.l (.l .h)))))), .q (.pk (.t (.l (.r (.l (.l (.l .h)))))) (.t (.l (.l (.r (.l (.l .h)))))) (.c (.b false))), (some ((.r (.r (.r (.r .h)))), false))⟩, ⟨(some (.l (.r (.r (.l (.l .h)))))), .q (.pk (.t (.r (.r (.r (.r .h))))) (.c (.b true)) (.t (.r (.l (.r (.l (.l .h))))))), none⟩, ⟨(some (.l (.l (.l (.r .h))))), .q (.mv (.t (.l (.r (.r (.l (.l .h))))))), none⟩])
theorem w25_23 (k : Kn) (s : St) (R : Ex → St → Prop) : Wp b25_23 k s R = Wp (.reg [⟨(some (.r (.l (.l (.r .h))))), .q (.mv (.t .h)), none⟩, ⟨(some (.l (.r (.l (.r .h))))), .q (.bi .geq (.t (.r (.l (.l (.r .h))))) (.c (.i .i64 18))), none⟩, ⟨(some (.r (.r (.l (.r .h))))), .q (.mv (.t (.l (.r (.l (.r .h)))))), none⟩, ⟨(some (.l (.l (.r (.r .h))))), .q (.mv (.t .h)), (some ((.r (.r (.l (.r .h)))), true))⟩, ⟨(some (.r (.l (.r (.r .h))))), .q (.bi .leq (.t (.l (.l (.r (.r .h))))) (.c (.i .i64 22))), (some ((.r (.r (.l (.r .h)))), true))⟩, ⟨(some (.l (.r (.r (.r .h))))), .q (.pk (.t (.r (.r (.l (.r .h))))) (.t (.r (.l (.r (.r .h))))) (.c (.b false))), none⟩, ⟨(some (.r (.r (.r (.r .h))))), .q (.mv (.t (.l (.r (.r (.r .h)))))), none⟩, ⟨(some (.l (.l (.l (.l (.l .h)))))), .q (.mv (.t .h)), (some ((.r (.r (.r (.r .h)))), false))⟩, ⟨(some (.r (.l (.l (.l (.l .h)))))), .q (.bi .geq (.t (.l (.l (.l (.l (.l .h)))))) (.c (.i .i64 26))), (some ((.r (.r (.r (.r .h)))), false))⟩, ⟨(some (.l (.r (.l (.l (.l .h)))))), .q (.mv (.t (.r (.l (.l (.l (.l .h))))))), (some ((.r (.r (.r (.r .h)))), false))⟩, ⟨(some (.r (.r (.l (.l (.l .h)))))), .q (.mv (.t .h)), (some ((.l (.r (.l (.l (.l .h))))), true))⟩, ⟨(some (.l (.l (.r (.l (.l .h)))))), .q (.bi .leq (.t (.r (.r (.l (.l (.l .h)))))) (.c (.i .i64 28))), (some ((.l (.r (.l (.l (.l .h))))), true))⟩, ⟨(some (.r (.l (.r (.l (.l .h)))))), .q (.pk (.t (.l (.r (.l (.l (.l .h)))))) (.t (.l (.l (.r (.l (.l .h)))))) (.c (.b false))), (some ((.r (.r (.r (.r .h)))), false))⟩, ⟨(some (.l (.r (.r (.l (.l .h)))))), .q (.pk (.t (.r (.r (.r (.r .h))))) (.c (.b true)) (.t (.r (.l (.r (.l (.l .h))))))), none⟩, ⟨(some (.l (.l (.l (.r .h))))), .q (.mv (.t (.l (.r (.r (.l (.l .h))))))), none⟩]) k s R := rfl
noncomputable def b25_24 : CC := (.seq (.reg [⟨(some (.r .h)), .q (.mv (.c (.i .i64 6))), none⟩]) .ret)
theorem w25_24 (k : Kn) (s : St) (R : Ex → St → Prop) : Wp b25_24 k s R = Wp (.seq (.reg [⟨(some (.r .h)), .q (.mv (.c (.i .i64 6))), none⟩]) .ret) k s R := rfl
noncomputable def b25_25 : CC := (.seq b25_23 (.cond (.t (.l (.l (.l (.r .h))))) b25_24 .skip))
theorem w25_25 (k : Kn) (s : St) (R : Ex → St → Prop) : Wp b25_25 k s R = Wp (.seq b25_23 (.cond (.t (.l (.l (.l (.r .h))))) b25_24 .skip)) k s R := rfl
noncomputable def b25_26 : CC := (.seq b25_21 (.cond (.t (.r (.l (.l (.l .h))))) b25_22 b25_25))
theorem w25_26 (k : Kn) (s : St) (R : Ex → St → Prop) : Wp b25_26 k s R = Wp (.seq b25_21 (.cond (.t (.r (.l (.l (.l .h))))) b25_22 b25_25)) k s R := rfl
noncomputable def b25_27 : CC := (.seq (.reg [⟨(some (.r .h)), .q (.mv (.c (.i .i64 0))), none⟩]) .ret)
theorem w25_27 (k : Kn) (s : St) (R : Ex → St → Prop) : Wp b25_27 k s R = Wp (.seq (.reg [⟨(some (.r .h)), .q (.mv (.c (.i .i64 0))), none⟩]) .ret) k s R := rfl
noncomputable def b25_28 : CC := (.seq (.reg [⟨(some (.r .h)), .q (.mv (.c (.i .i64 0))), none⟩]) (.seq b25_20 (.seq (.block 6 b25_26) b25_27)))
theorem w25_28 (k : Kn) (s : St) (R : Ex → St → Prop) : Wp b25_28 k s R = Wp (.seq (.reg [⟨(some (.r .h)), .q (.mv (.c (.i .i64 0))), none⟩]) (.seq b25_20 (.seq (.block 6 b25_26) b25_27))) k s R := rfl
noncomputable def c25 : CF := .mk 6 [.t (.r .h)] b25_28
theorem e25 (v0 : V) : argTr 6 [v0] = (.n (.n (.n (.n (.n (.n .e none .e) none (.n .e none .e)) none (.n (.n .e none .e) none (.n .e none .e))) none (.n (.n (.n .e none .e) none (.n .e none .e)) none (.n (.n .e none .e) none (.n .e none .e)))) none (.n (.n (.n (.n .e none .e) none (.n .e none .e)) none (.n (.n .e none .e) none (.n .e none .e))) none (.n (.n (.n .e none .e) none (.n .e none .e)) none (.n (.n .e none .e) none (.n .e none .e))))) (some v0) (.n (.n (.n (.n (.n .e none .e) none (.n .e none .e)) none (.n (.n .e none .e) none (.n .e none .e))) none (.n (.n (.n .e none .e) none (.n .e none .e)) none (.n (.n .e none .e) none (.n .e none .e)))) none (.n (.n (.n (.n .e none .e) none (.n .e none .e)) none (.n (.n .e none .e) none (.n .e none .e))) none (.n (.n (.n .e none .e) none (.n .e none .e)) none (.n (.n .e none .e) none (.n .e none .e)))))) := rfl
noncomputable def b26_1 : CC := (.reg [⟨(some (.l (.r .h))), .q (.bi .eql (.t (.l (.l .h))) (.c (.i .i64 3))), none⟩, ⟨(some (.r (.l .h))), .q (.mv (.t (.l (.r .h)))), none⟩])
theorem w26_1 (k : Kn) (s : St) (R : Ex → St → Prop) : Wp b26_1 k s R = Wp (.reg [⟨(some (.l (.r .h))), .q (.bi .eql (.t (.l (.l .h))) (.c (.i .i64 3))), none⟩, ⟨(some (.r (.l .h))), .q (.mv (.t (.l (.r .h)))), none⟩]) k s R := rfl
noncomputable def b26_2 : CC := (.reg [⟨(some (.r (.r .h))), .q (.bi .eql (.t (.l (.l .h))) (.c (.i .i64 23))), none⟩, ⟨(some (.r (.l .h))), .q (.mv (.t (.r (.r .h)))), none⟩])
theorem w26_2 (k : Kn) (s : St) (R : Ex → St → Prop) : Wp b26_2 k s R = Wp (.reg [⟨(some (.r (.r .h))), .q (.bi .eql (.t (.l (.l .h))) (.c (.i .i64 23))), none⟩, ⟨(some (.r (.l .h))), .q (.mv (.t (.r (.r .h)))), none⟩]) k s R := rfl
noncomputable def b26_3 : CC := (.seq (.reg [⟨(some (.r .h)), .q (.mv (.c (.i .i64 1))), none⟩]) .ret)
theorem w26_3 (k : Kn) (s : St) (R : Ex → St → Prop) : Wp b26_3 k s R = Wp (.seq (.reg [⟨(some (.r .h)), .q (.mv (.c (.i .i64 1))), none⟩]) .ret) k s R := rfl
noncomputable def b26_4 : CC := (.reg [⟨(some (.r (.l (.l .h)))), .q (.bi .eql (.t (.l (.l .h))) (.c (.i .i64 24))), none⟩, ⟨(some (.l (.l (.l .h)))), .q (.mv (.t (.r (.l (.l .h))))), none⟩])
theorem w26_4 (k : Kn) (s : St) (R : Ex → St → Prop) : Wp b26_4 k s R = Wp (.reg [⟨(some (.r (.l (.l .h)))), .q (.bi .eql (.t (.l (.l .h))) (.c (.i .i64 24))), none⟩, ⟨(some (.l (.l (.l .h)))), .q (.mv (.t (.r (.l (.l .h))))), none⟩]) k s R := rfl
noncomputable def b26_5 : CC := (.seq (.reg [⟨(some (.r .h)), .q (.mv (.c (.i .i64 2))), none⟩]) .ret)
theorem w26_5 (k : Kn) (s : St) (R : Ex → St → Prop) : Wp b26_5 k s R = Wp (.seq (.reg [⟨(some (.r .h)), .q (.mv (.c (.i .i64 2))), none⟩]) .ret) k s R := rfl
noncomputable def b26_6 : CC := (.reg [⟨(some (.r (.r (.l .h)))), .q (.bi .eql (.t (.l (.l .h))) (.c (.i .i64 5))), none⟩, ⟨(some (.l (.r (.l .h)))), .q (.mv (.t (.r (.r (.l .h))))), none⟩])
theorem w26_6 (k : Kn) (s : St) (R : Ex → St → Prop) : Wp b26_6 k s R = Wp (.reg [⟨(some (.r (.r (.l .h)))), .q (.bi .eql (.t (.l (.l .h))) (.c (.i .i64 5))), none⟩, ⟨(some (.l (.r (.l .h)))), .q (.mv (.t (.r (.r (.l .h))))), none⟩]) k s R := rfl
noncomputable def b26_7 : CC := (.reg [⟨(some (.l (.l (.r .h)))), .q (.bi .eql (.t (.l (.l .h))) (.c (.i .i64 6))), none⟩, ⟨(some (.l (.r (.l .h)))), .q (.mv (.t (.l (.l (.r .h))))), none⟩])
theorem w26_7 (k : Kn) (s : St) (R : Ex → St → Prop) : Wp b26_7 k s R = Wp (.reg [⟨(some (.l (.l (.r .h)))), .q (.bi .eql (.t (.l (.l .h))) (.c (.i .i64 6))), none⟩, ⟨(some (.l (.r (.l .h)))), .q (.mv (.t (.l (.l (.r .h))))), none⟩]) k s R := rfl
noncomputable def b26_8 : CC := (.reg [⟨(some (.r (.l (.r .h)))), .q (.bi .eql (.t (.l (.l .h))) (.c (.i .i64 25))), none⟩, ⟨(some (.l (.r (.l .h)))), .q (.mv (.t (.r (.l (.r .h))))), none⟩])
theorem w26_8 (k : Kn) (s : St) (R : Ex → St → Prop) : Wp b26_8 k s R = Wp (.reg [⟨(some (.r (.l (.r .h)))), .q (.bi .eql (.t (.l (.l .h))) (.c (.i .i64 25))), none⟩, ⟨(some (.l (.r (.l .h)))), .q (.mv (.t (.r (.l (.r .h))))), none⟩]) k s R := rfl
noncomputable def b26_9 : CC := (.cond (.t (.l (.r (.l .h)))) .skip (.seq b26_7 (.cond (.t (.l (.r (.l .h)))) .skip b26_8)))
theorem w26_9 (k : Kn) (s : St) (R : Ex → St → Prop) : Wp b26_9 k s R = Wp (.cond (.t (.l (.r (.l .h)))) .skip (.seq b26_7 (.cond (.t (.l (.r (.l .h)))) .skip b26_8))) k s R := rfl
noncomputable def b26_10 : CC := (.seq (.reg [⟨(some (.r .h)), .q (.mv (.c (.i .i64 3))), none⟩]) .ret)
theorem w26_10 (k : Kn) (s : St) (R : Ex → St → Prop) : Wp b26_10 k s R = Wp (.seq (.reg [⟨(some (.r .h)), .q (.mv (.c (.i .i64 3))), none⟩]) .ret) k s R := rfl
noncomputable def b26_11 : CC := (.reg [⟨(some (.r (.r (.r .h)))), .q (.bi .eql (.t (.l (.l .h))) (.c (.i .i64 7))), none⟩, ⟨(some (.l (.r (.r .h)))), .q (.mv (.t (.r (.r (.r .h))))), none⟩])
theorem w26_11 (k : Kn) (s : St) (R : Ex → St → Prop) : Wp b26_11 k s R = Wp (.reg [⟨(some (.r (.r (.r .h)))), .q (.bi .eql (.t (.l (.l .h))) (.c (.i .i64 7))), none⟩, ⟨(some (.l (.r (.r .h)))), .q (.mv (.t (.r (.r (.r .h))))), none⟩]) k s R := rfl
noncomputable def b26_12 : CC := (.seq (.reg [⟨(some (.r .h)), .q (.mv (.c (.i .i64 4))), none⟩]) .ret)
theorem w26_12 (k : Kn) (s : St) (R : Ex → St → Prop) : Wp b26_12 k s R = Wp (.seq (.reg [⟨(some (.r .h)), .q (.mv (.c (.i .i64 4))), none⟩]) .ret) k s R := rfl
noncomputable def b26_13 : CC := (.reg [⟨(some (.r (.l (.l (.l .h))))), .q (.bi .eql (.t (.l (.l .h))) (.c (.i .i64 8))), none⟩, ⟨(some (.l (.l (.l (.l .h))))), .q (.mv (.t (.r (.l (.l (.l .h)))))), none⟩])
theorem w26_13 (k : Kn) (s : St) (R : Ex → St → Prop) : Wp b26_13 k s R = Wp (.reg [⟨(some (.r (.l (.l (.l .h))))), .q (.bi .eql (.t (.l (.l .h))) (.c (.i .i64 8))), none⟩, ⟨(some (.l (.l (.l (.l .h))))), .q (.mv (.t (.r (.l (.l (.l .h)))))), none⟩]) k s R := rfl
noncomputable def b26_14 : CC := (.reg [⟨(some (.l (.r (.l (.l .h))))), .q (.bi .eql (.t (.l (.l .h))) (.c (.i .i64 9))), none⟩, ⟨(some (.l (.l (.l (.l .h))))), .q (.mv (.t (.l (.r (.l (.l .h)))))), none⟩])
theorem w26_14 (k : Kn) (s : St) (R : Ex → St → Prop) : Wp b26_14 k s R = Wp (.reg [⟨(some (.l (.r (.l (.l .h))))), .q (.bi .eql (.t (.l (.l .h))) (.c (.i .i64 9))), none⟩, ⟨(some (.l (.l (.l (.l .h))))), .q (.mv (.t (.l (.r (.l (.l .h)))))), none⟩]) k s R := rfl
noncomputable def b26_15 : CC := (.reg [⟨(some (.r (.r (.l (.l .h))))), .q (.bi .eql (.t (.l (.l .h))) (.c (.i .i64 10))), none⟩, ⟨(some (.l (.l (.l (.l .h))))), .q (.mv (.t (.r (.r (.l (.l .h)))))), none⟩])
theorem w26_15 (k : Kn) (s : St) (R : Ex → St → Prop) : Wp b26_15 k s R = Wp (.reg [⟨(some (.r (.r (.l (.l .h))))), .q (.bi .eql (.t (.l (.l .h))) (.c (.i .i64 10))), none⟩, ⟨(some (.l (.l (.l (.l .h))))), .q (.mv (.t (.r (.r (.l (.l .h)))))), none⟩]) k s R := rfl
noncomputable def b26_16 : CC := (.reg [⟨(some (.l (.l (.r (.l .h))))), .q (.bi .eql (.t (.l (.l .h))) (.c (.i .i64 11))), none⟩, ⟨(some (.l (.l (.l (.l .h))))), .q (.mv (.t (.l (.l (.r (.l .h)))))), none⟩])
theorem w26_16 (k : Kn) (s : St) (R : Ex → St → Prop) : Wp b26_16 k s R = Wp (.reg [⟨(some (.l (.l (.r (.l .h))))), .q (.bi .eql (.t (.l (.l .h))) (.c (.i .i64 11))), none⟩, ⟨(some (.l (.l (.l (.l .h))))), .q (.mv (.t (.l (.l (.r (.l .h)))))), none⟩]) k s R := rfl
noncomputable def b26_17 : CC := (.reg [⟨(some (.r (.l (.r (.l .h))))), .q (.bi .eql (.t (.l (.l .h))) (.c (.i .i64 12))), none⟩, ⟨(some (.l (.l (.l (.l .h))))), .q (.mv (.t (.r (.l (.r (.l .h)))))), none⟩])
theorem w26_17 (k : Kn) (s : St) (R : Ex → St → Prop) : Wp b26_17 k s R = Wp (.reg [⟨(some (.r (.l (.r (.l .h))))), .q (.bi .eql (.t (.l (.l .h))) (.c (.i .i64 12))), none⟩, ⟨(some (.l (.l (.l (.l .h))))), .q (.mv (.t (.r (.l (.r (.l .h)))))), none⟩]) k s R := rfl
noncomputable def b26_18 : CC := (.reg [⟨(some (.l (.r (.r (.l .h))))), .q (.bi .eql (.t (.l (.l .h))) (.c (.i .i64 13))), none⟩, ⟨(some (.l (.l (.l (.l .h))))), .q (.mv (.t (.l (.r (.r (.l .h)))))), none⟩])
theorem w26_18 (k : Kn) (s : St) (R : Ex → St → Prop) : Wp b26_18 k s R = Wp (.reg [⟨(some (.l (.r (.r (.l .h))))), .q (.bi .eql (.t (.l (.l .h))) (.c (.i .i64 13))), none⟩, ⟨(some (.l (.l (.l (.l .h))))), .q (.mv (.t (.l (.r (.r (.l .h)))))), none⟩]) k s R := rfl
noncomputable def b26_19 : CC := (.reg [⟨(some (.r (.r (.r (.l .h))))), .q (.bi .eql (.t (.l (.l .h))) (.c (.i .i64 14))), none⟩, ⟨(some (.l (.l (.l (.l .h))))), .q (.mv (.t (.r (.r (.r (.l .h)))))), none⟩])
theorem w26_19 (k : Kn) (s : St) (R : Ex → St → Prop) : Wp b26_19 k s R = Wp (.reg [⟨(some (.r (.r (.r (.l .h))))), .q (.bi .eql (.t (.l (.l .h))) (.c (.i .i64 14))), none⟩, ⟨(some (.l (.l (.l (.l .h))))), .q (.mv (.t (.r (.r (.r (.l .h)))))), none⟩]) k s R := rfl
noncomputable def b26_20 : CC := (.reg [⟨(some (.l (.l (.l (.r .h))))), .q (.bi .eql (.t (.l (.l .h))) (.c (.i .i64 15))), none⟩, ⟨(some (.l (.l (.l (.l .h))))), .q (.mv (.t (.l (.l (.l (.r .h)))))), none⟩])
theorem w26_20 (k : Kn) (s : St) (R : Ex → St → Prop) : Wp b26_20 k s R = Wp (.reg [⟨(some (.l (.l (.l (.r .h))))), .q (.bi .eql (.t (.l (.l .h))) (.c (.i .i64 15))), none⟩, ⟨(some (.l (.l (.l (.l .h))))), .q (.mv (.t (.l (.l (.l (.r .h)))))), none⟩]) k s R := rfl
noncomputable def b26_21 : CC := (.reg [⟨(some (.r (.l (.l (.r .h))))), .q (.bi .eql (.t (.l (.l .h))) (.c (.i .i64 16))), none⟩, ⟨(some (.l (.l (.l (.l .h))))), .q (.mv (.t (.r (.l (.l (.r .h)))))), none⟩])
theorem w26_21 (k : Kn) (s : St) (R : Ex → St → Prop) : Wp b26_21 k s R = Wp (.reg [⟨(some (.r (.l (.l (.r .h))))), .q (.bi .eql (.t (.l (.l .h))) (.c (.i .i64 16))), none⟩, ⟨(some (.l (.l (.l (.l .h))))), .q (.mv (.t (.r (.l (.l (.r .h)))))), none⟩]) k s R := rfl
noncomputable def b26_22 : CC := (.reg [⟨(some (.l (.r (.l (.r .h))))), .q (.bi .eql (.t (.l (.l .h))) (.c (.i .i64 17))), none⟩, ⟨(some (.l (.l (.l (.l .h))))), .q (.mv (.t (.l (.r (.l (.r .h)))))), none⟩])
theorem w26_22 (k : Kn) (s : St) (R : Ex → St → Prop) : Wp b26_22 k s R = Wp (.reg [⟨(some (.l (.r (.l (.r .h))))), .q (.bi .eql (.t (.l (.l .h))) (.c (.i .i64 17))), none⟩, ⟨(some (.l (.l (.l (.l .h))))), .q (.mv (.t (.l (.r (.l (.r .h)))))), none⟩]) k s R := rfl
noncomputable def b26_23 : CC := (.seq b26_21 (.cond (.t (.l (.l (.l (.l .h))))) .skip b26_22))
theorem w26_23 (k : Kn) (s : St) (R : Ex → St → Prop) : Wp b26_23 k s R = Wp (.seq b26_21 (.cond (.t (.l (.l (.l (.l .h))))) .skip b26_22)) k s R := rfl
noncomputable def b26_24 : CC := (.seq b26_20 (.cond (.t (.l (.l (.l (.l .h))))) .skip b26_23))
theorem w26_24 (k : Kn) (s : St) (R : Ex → St → Prop) : Wp b26_24 k s R = Wp (.seq b26_20 (.cond (.t (.l (.l (.l (.l .h))))) .skip b26_23)) k s R := rfl
noncomputable def b26_25 : CC := (.seq b26_19 (.cond (.t (.l (.l (.l (.l .h))))) .skip b26_24))
theorem w26_25 (k : Kn) (s : St) (R : Ex → St → Prop) : Wp b26_25 k s R = Wp (.seq b26_19 (.cond (.t (.l (.l (.l (.l .h))))) .skip b26_24)) k s R := rfl
noncomputable def b26_26 : CC := (.seq b26_18 (.cond (.t (.l (.l (.l (.l .h))))) .skip b26_25))
theorem w26_26 (k : Kn) (s : St) (R : Ex → St → Prop) : Wp b26_26 k s R = Wp (.seq b26_18 (.cond (.t (.l (.l (.l (.l .h))))) .skip b26_25)) k s R := rfl
noncomputable def b26_27 : CC := (.seq b26_17 (.cond (.t (.l (.l (.l (.l .h))))) .skip b26_26))
theorem w26_27 (k : Kn) (s : St) (R : Ex → St → Prop) : Wp b26_27 k s R = Wp (.seq b26_17 (.cond (.t (.l (.l (.l (.l .h))))) .skip b26_26)) k s R := rfl
noncomputable def b26_28 : CC := (.seq b26_16 (.cond (.t (.l (.l (.l (.l .h))))) .skip b26_27))
theorem w26_28 (k : Kn) (s : St) (R : Ex → St → Prop) : Wp b26_28 k s R = Wp (.seq b26_16 (.cond (.t (.l (.l (.l (.l .h))))) .skip b26_27)) k s R := rfl
noncomputable def b26_29 : CC := (.seq b26_15 (.cond (.t (.l (.l (.l (.l .h))))) .skip b26_28))
theorem w26_29 (k : Kn) (s : St) (R : Ex → St → Prop) : Wp b26_29 k s R = Wp (.seq b26_15 (.cond (.t (.l (.l (.l (.l .h))))) .skip b26_28)) k s R := rfl
noncomputable def b26_30 : CC := (.seq b26_14 (.cond (.t (.l (.l (.l (.l .h))))) .skip b26_29))
theorem w26_30 (k : Kn) (s : St) (R : Ex → St → Prop) : Wp b26_30 k s R = Wp (.seq b26_14 (.cond (.t (.l (.l (.l (.l .h))))) .skip b26_29)) k s R := rfl
noncomputable def b26_31 : CC := (.seq b26_13 (.cond (.t (.l (.l (.l (.l .h))))) .skip b26_30))
theorem w26_31 (k : Kn) (s : St) (R : Ex → St → Prop) : Wp b26_31 k s R = Wp (.seq b26_13 (.cond (.t (.l (.l (.l (.l .h))))) .skip b26_30)) k s R := rfl
noncomputable def b26_32 : CC := (.seq (.reg [⟨(some (.r .h)), .q (.mv (.c (.i .i64 5))), none⟩]) .ret)
theorem w26_32 (k : Kn) (s : St) (R : Ex → St → Prop) : Wp b26_32 k s R = Wp (.seq (.reg [⟨(some (.r .h)), .q (.mv (.c (.i .i64 5))), none⟩]) .ret) k s R := rfl
noncomputable def b26_33 : CC := (.reg [⟨(some (.l (.l (.r (.r .h))))), .q (.bi .eql (.t (.l (.l .h))) (.c (.i .i64 18))), none⟩, ⟨(some (.r (.r (.l (.r .h))))), .q (.mv (.t (.l (.l (.r (.r .h)))))), none⟩])
theorem w26_33 (k : Kn) (s : St) (R : Ex → St → Prop) : Wp b26_33 k s R = Wp (.reg [⟨(some (.l (.l (.r (.r .h))))), .q (.bi .eql (.t (.l (.l .h))) (.c (.i .i64 18))), none⟩, ⟨(some (.r (.r (.l (.r .h))))), .q (.mv (.t (.l (.l (.r (.r .h)))))), none⟩]) k s R := rfl
noncomputable def b26_34 : CC := (.reg [⟨(some (.r (.l (.r (.r .h))))), .q (.bi .eql (.t (.l (.l .h))) (.c (.i .i64 19))), none⟩, ⟨(some (.r (.r (.l (.r .h))))), .q (.mv (.t (.r (.l (.r (.r .h)))))), none⟩])
theorem w26_34 (k : Kn) (s : St) (R : Ex → St → Prop) : Wp b26_34 k s R = Wp (.reg [⟨(some (.r (.l (.r (.r .h))))), .q (.bi .eql (.t (.l (.l .h))) (.c (.i .i64 19))), none⟩, ⟨(some (.r (.r (.l (.r .h))))), .q (.mv (.t (.r (.l (.r (.r .h)))))), none⟩]) k s R := rfl
noncomputable def b26_35 : CC := (.reg [⟨(some (.l (.r (.r (.r .h))))), .q (.bi .eql (.t (.l (.l .h))) (.c (.i .i64 20))), none⟩, ⟨(some (.r (.r (.l (.r .h))))), .q (.mv (.t (.l (.r (.r (.r .h)))))), none⟩])
theorem w26_35 (k : Kn) (s : St) (R : Ex → St → Prop) : Wp b26_35 k s R = Wp (.reg [⟨(some (.l (.r (.r (.r .h))))), .q (.bi .eql (.t (.l (.l .h))) (.c (.i .i64 20))), none⟩, ⟨(some (.r (.r (.l (.r .h))))), .q (.mv (.t (.l (.r (.r (.r .h)))))), none⟩]) k s R := rfl
noncomputable def b26_36 : CC := (.reg [⟨(some (.r (.r (.r (.r .h))))), .q (.bi .eql (.t (.l (.l .h))) (.c (.i .i64 21))), none⟩, ⟨(some (.r (.r (.l (.r .h))))), .q (.mv (.t (.r (.r (.r (.r .h)))))), none⟩])
theorem w26_36 (k : Kn) (s : St) (R : Ex → St → Prop) : Wp b26_36 k s R = Wp (.reg [⟨(some (.r (.r (.r (.r .h))))), .q (.bi .eql (.t (.l (.l .h))) (.c (.i .i64 21))), none⟩, ⟨(some (.r (.r (.l (.r .h))))), .q (.mv (.t (.r (.r (.r (.r .h)))))), none⟩]) k s R := rfl
noncomputable def b26_37 : CC := (.reg [⟨(some (.l (.l (.l (.l (.l .h)))))), .q (.bi .eql (.t (.l (.l .h))) (.c (.i .i64 22))), none⟩, ⟨(some (.r (.r (.l (.r .h))))), .q (.mv (.t (.l (.l (.l (.l (.l .h))))))), none⟩])
theorem w26_37 (k : Kn) (s : St) (R : Ex → St → Prop) : Wp b26_37 k s R = Wp (.reg [⟨(some (.l (.l (.l (.l (.l .h)))))), .q (.bi .eql (.t (.l (.l .h))) (.c (.i .i64 22))), none⟩, ⟨(some (.r (.r (.l (.r .h))))), .q (.mv (.t (.l (.l (.l (.l (.l .h))))))), none⟩]) k s R := rfl
noncomputable def b26_38 : CC := (.reg [⟨(some (.r (.l (.l (.l (.l .h)))))), .q (.bi .eql (.t (.l (.l .h))) (.c (.i .i64 26))), none⟩, ⟨(some (.r (.r (.l (.r .h))))), .q (.mv (.t (.r (.l (.l (.l (.l .h))))))), none⟩])
theorem w26_38 (k : Kn) (s : St) (R : Ex → St → Prop) : Wp b26_38 k s R = Wp (.reg [⟨(some (.r (.l (.l (.l (.l .h)))))), .q (.bi .eql (.t (.l (.l .h))) (.c (.i .i64 26))), none⟩, ⟨(some (.r (.r (.l (.r .h))))), .q (.mv (.t (.r (.l (.l (.l (.l .h))))))), none⟩]) k s R := rfl
noncomputable def b26_39 : CC := (.reg [⟨(some (.l (.r (.l (.l (.l .h)))))), .q (.bi .eql (.t (.l (.l .h))) (.c (.i .i64 27))), none⟩, ⟨(some (.r (.r (.l (.r .h))))), .q (.mv (.t (.l (.r (.l (.l (.l .h))))))), none⟩])
theorem w26_39 (k : Kn) (s : St) (R : Ex → St → Prop) : Wp b26_39 k s R = Wp (.reg [⟨(some (.l (.r (.l (.l (.l .h)))))), .q (.bi .eql (.t (.l (.l .h))) (.c (.i .i64 27))), none⟩, ⟨(some (.r (.r (.l (.r .h))))), .q (.mv (.t (.l (.r (.l (.l (.l .h))))))), none⟩]) k s R := rfl
noncomputable def b26_40 : CC := (.reg [⟨(some (.r (.r (.l (.l (.l .h)))))), .q (.bi .eql (.t (.l (.l .h))) (.c (.i .i64 28))), none⟩, ⟨(some (.r (.r (.l (.r .h))))), .q (.mv (.t (.r (.r (.l (.l (.l .h))))))), none⟩])
theorem w26_40 (k : Kn) (s : St) (R : Ex → St → Prop) : Wp b26_40 k s R = Wp (.reg [⟨(some (.r (.r (.l (.l (.l .h)))))), .q (.bi .eql (.t (.l (.l .h))) (.c (.i .i64 28))), none⟩, ⟨(some (.r (.r (.l (.r .h))))), .q (.mv (.t (.r (.r (.l (.l (.l .h))))))), none⟩]) k s R := rfl
noncomputable def b26_41 : CC := (.seq b26_39 (.cond (.t (.r (.r (.l (.r .h))))) .skip b26_40))
theorem w26_41 (k : Kn) (s : St) (R : Ex → St → Prop) : Wp b26_41 k s R = Wp (.seq b26_39 (.cond (.t (.r (.r (.l (.r .h))))) .skip b26_40)) k s R := rfl
noncomputable def b26_42 : CC := (.seq b26_38 (.cond (.t (.r (.r (.l (.r .h))))) .skip b26_41))
theorem w26_42 (k : Kn) (s : St) (R : Ex → St → Prop) : Wp b26_42 k s R = Wp (.seq b26_38 (.cond (.t (.r (.r (.l (.r .h))))) .skip b26_41)) k s R := rfl
noncomputable def b26_43 : CC := (.seq b26_37 (.cond (.t (.r (.r (.l (.r .h))))) .skip b26_42))
theorem w26_43 (k : Kn) (s : St) (R : Ex → St → Prop) : Wp b26_43 k s R = Wp (.seq b26_37 (.cond (.t (.r (.r (.l (.r .h))))) .skip b26_42)) k s R := rfl
noncomputable def b26_44 : CC := (.seq b26_36 (.cond (.t (.r (.r (.l (.r .h))))) .skip b26_43))
theorem w26_44 (k : Kn) (s : St) (R : Ex → St → Prop) : Wp b26_44 k s R = Wp (.seq b26_36 (.cond (.t (.r (.r (.l (.r .h))))) .skip b26_43)) k s R := rfl
noncomputable def b26_45 : CC := (.seq b26_35 (.cond (.t (.r (.r (.l (.r .h))))) .skip b26_44))
theorem w26_45 (k : Kn) (s : St) (R : Ex → St → Prop) : Wp b26_45 k s R = Wp (.seq b26_35 (.cond (.t (.r (.r (.l (.r .h))))) .skip b26_44)) k s R := rfl
noncomputable def b26_46 : CC := (.seq b26_34 (.cond (.t (.r (.r (.l (.r .h))))) .skip b26_45))
theorem w26_46 (k : Kn) (s : St) (R : Ex → St → Prop) : Wp b26_46 k s R = Wp (.seq b26_34 (.cond (.t (.r (.r (.l (.r .h))))) .skip b26_45)) k s R := rfl
noncomputable def b26_47 : CC := (.seq b26_33 (.cond (.t (.r (.r (.l (.r .h))))) .skip b26_46))
theorem w26_47 (k : Kn) (s : St) (R : Ex → St → Prop) : Wp b26_47 k s R = Wp (.seq b26_33 (.cond (.t (.r (.r (.l (.r .h))))) .skip b26_46)) k s R := rfl
noncomputable def b26_48 : CC := (.seq (.reg [⟨(some (.r .h)), .q (.mv (.c (.i .i64 6))), none⟩]) .ret)
theorem w26_48 (k : Kn) (s : St) (R : Ex → St → Prop) : Wp b26_48 k s R = Wp (.seq (.reg [⟨(some (.r .h)), .q (.mv (.c (.i .i64 6))), none⟩]) .ret) k s R := rfl
noncomputable def b26_49 : CC := (.seq b26_47 (.cond (.t (.r (.r (.l (.r .h))))) b26_48 .skip))
theorem w26_49 (k : Kn) (s : St) (R : Ex → St → Prop) : Wp b26_49 k s R = Wp (.seq b26_47 (.cond (.t (.r (.r (.l (.r .h))))) b26_48 .skip)) k s R := rfl
noncomputable def b26_50 : CC := (.seq b26_31 (.cond (.t (.l (.l (.l (.l .h))))) b26_32 b26_49))
theorem w26_50 (k : Kn) (s : St) (R : Ex → St → Prop) : Wp b26_50 k s R = Wp (.seq b26_31 (.cond (.t (.l (.l (.l (.l .h))))) b26_32 b26_49)) k s R := rfl
noncomputable def b26_51 : CC := (.cond (.t (.l (.r (.l .h)))) b26_10 (.seq b26_11 (.cond (.t (.l (.r (.r .h)))) b26_12 b26_50)))
theorem w26_51 (k : Kn) (s : St) (R : Ex → St → Prop) : Wp b26_51 k s R = Wp (.cond (.t (.l (.r (.l .h)))) b26_10 (.seq b26_11 (.cond (.t (.l (.r (.r .h)))) b26_12 b26_50))) k s R := rfl
noncomputable def b26_52 : CC := (.cond (.t (.l (.l (.l .h)))) b26_5 (.seq (.seq b26_6 b26_9) b26_51))
theorem w26_52 (k : Kn) (s : St) (R : Ex → St → Prop) : Wp b26_52 k s R = Wp (.cond (.t (.l (.l (.l .h)))) b26_5 (.seq (.seq b26_6 b26_9) b26_51)) k s R := rfl
noncomputable def b26_53 : CC := (.seq (.seq b26_1 (.cond (.t (.r (.l .h))) .skip b26_2)) (.cond (.t (.r (.l .h))) b26_3 (.seq b26_4 b26_52)))
theorem w26_53 (k : Kn) (s : St) (R : Ex → St → Prop) : Wp b26_53 k s R = Wp (.seq (.seq b26_1 (.cond (.t (.r (.l .h))) .skip b26_2)) (.cond (.t (.r (.l .h))) b26_3 (.seq b26_4 b26_52))) k s R := rfl
noncomputable def b26_54 : CC := (.seq (.reg [⟨(some (.l (.l .h))), .q (.mv (.t .h)), none⟩]) (.block 0 b26_53))
theorem w26_54 (k : Kn) (s : St) (R : Ex → St → Prop) : Wp b26_54 k s R = Wp (.seq (.reg [⟨(some (.l (.l .h))), .q (.mv (.t .h)), none⟩]) (.block 0 b26_53)) k s R := rfl
noncomputable def b26_55 : CC := (.seq (.reg [⟨(some (.r .h)), .q (.mv (.c (.i .i64 0))), none⟩]) .ret)
theorem w26_55 (k : Kn) (s : St) (R : Ex → St → Prop) : Wp b26_55 k s R = Wp (.seq (.reg [⟨(some (.r .h)), .q (.mv (.c (.i .i64 0))), none⟩]) .ret) k s R := rfl
noncomputable def b26_56 : CC := (.seq (.reg [⟨(some (.r .h)), .q (.mv (.c (.i .i64 0))), none⟩]) (.seq b26_54 b26_55))
theorem w26_56 (k : Kn) (s : St) (R : Ex → St → Prop) : Wp b26_56 k s R = Wp (.seq (.reg [⟨(some (.r .h)), .q (.mv (.c (.i .i64 0))), none⟩]) (.seq b26_54 b26_55)) k s R := rfl
noncomputable def c26 : CF := .mk 6 [.t (.r .h)] b26_56
theorem e26 (v0 : V) : argTr 6 [v0] = (.n (.n (.n (.n (.n (.n .e none .e) none (.n .e none .e)) none (.n (.n .e none .e) none (.n .e none .e))) none (.n (.n (.n .e none .e) none (.n .e none .e)) none (.n (.n .e none .e) none (.n .e none .e)))) none (.n (.n (.n (.n .e none .e) none (.n .e none .e)) none (.n (.n .e none .e) none (.n .e none .e))) none (.n (.n (.n .e none .e) none (.n .e none .e)) none (.n (.n .e none .e) none (.n .e none .e))))) (some v0) (.n (.n (.n (.n (.n .e none .e) none (.n .e none .e)) none (.n (.n .e none .e) none (.n .e none .e))) none (.n (.n (.n .e none .e) none (.n .e none .e)) none (.n (.n .e none .e) none (.n .e none .e)))) none (.n (.n (.n (.n .e none .e) none (.n .e none .e)) none (.n (.n .e none .e) none (.n .e none .e))) none (.n (.n (.n .e none .e) none (.n .e none .e)) none (.n (.n .e none .e) none (.n .e none .e)))))) := rfl
theorem t25 (Φ : Nat → Option CF) (h : Φ 25 = some c25) (op : Int) (ct : Nat) : To Φ 25 [.i .i64 op] ct (.i .i64 (formI op)) := by
  refine to_walk h ?_
  simp only [wp_seq, seqQ_nrm, wp_reg, wp_block, wo_nil, xo_q, putO, v_mv, v_bi, bi_eql, ev_t, ev_c, Tr.setP_h, Tr.setP_l, Tr.setP_r, getT_h, getT_l, getT_r, e25, w25_1, w25_13, w25_15, w25_18, w25_20, w25_28]
  repeat' first | (refine wp_cond (by simp only [ev_t, getT_h, getT_l, getT_r]; rfl) (fun h => ?_) (fun h => ?_) <;> simp only [wp_seq, seqQ_nrm, seqQ_ret, seqQ_ext, wp_reg, wp_ret, wp_skip, wp_exit, wp_block, blockQ_nrm, blockQ_ret, blockQ_ext, wo_nil, xo_q, wp_condT, putO, v_mv, v_bi, bi_geq, bi_eql, ev_t, ev_c, Tr.setP_h, Tr.setP_l, Tr.setP_r, getT_h, getT_l, getT_r, Nat.reduceEqDiff, endQ_ret, endO, resV_nil', resV_t, consO_some, oneV_one, if_true, if_false, reduceCtorEq, w25_2, w25_3, w25_4, w25_5, w25_6, w25_7, w25_8, w25_9, w25_10, w25_11, w25_12, w25_14, w25_16, w25_17, w25_19, w25_21, w25_22, w25_23, w25_24, w25_25, w25_26, w25_27, h]) | (refine wo_g (by simp only [getT_h, getT_l, getT_r]; rfl) (fun h => ?_) (fun h => ?_) <;> simp only [wp_seq, seqQ_nrm, seqQ_ret, wp_reg, wp_ret, wp_skip, blockQ_nrm, blockQ_ret, wo_nil, xo_q, wo_gT, wo_gF, wo_gU, wp_condT, wp_condF, putO, setT_some, v_mv, v_pk, pkV_T, pkV_F, v_bi, bi_leq, bi_geq, ev_t, ev_c, Tr.setP_h, Tr.setP_l, Tr.setP_r, getT_h, getT_l, getT_r, endQ_ret, endO, resV_nil', resV_t, consO_some, oneV_one, Bool.not_true, Bool.not_false, w25_23, w25_24, w25_25, w25_27, h])
  all_goals (simp only [decide_eq_true_eq, decide_eq_false_iff_not, Bool.not_true, Bool.not_false] at *; congr 1; unfold formI; repeat' split)
  all_goals first | rfl | omega
theorem t26 (Φ : Nat → Option CF) (h : Φ 26 = some c26) (op : Int) (ct : Nat) : To Φ 26 [.i .i64 op] ct (.i .i64 (formI op)) := by
  refine to_walk h ?_
  simp only [wp_seq, seqQ_nrm, wp_reg, wp_block, wo_nil, xo_q, putO, v_mv, v_bi, bi_eql, ev_t, ev_c, Tr.setP_h, Tr.setP_l, Tr.setP_r, getT_h, getT_l, getT_r, e26, w26_1, w26_53, w26_54, w26_56]
  repeat' first | (refine wp_cond (by simp only [ev_t, getT_h, getT_l, getT_r]; rfl) (fun h => ?_) (fun h => ?_) <;> simp only [wp_seq, seqQ_nrm, seqQ_ret, wp_reg, wp_ret, wp_skip, blockQ_nrm, blockQ_ret, wo_nil, xo_q, wp_condT, putO, v_mv, v_bi, bi_eql, ev_t, ev_c, Tr.setP_h, Tr.setP_l, Tr.setP_r, getT_h, getT_l, getT_r, endQ_ret, endO, resV_nil', resV_t, consO_some, oneV_one, w26_2, w26_3, w26_4, w26_5, w26_6, w26_7, w26_8, w26_9, w26_10, w26_11, w26_12, w26_13, w26_14, w26_15, w26_16, w26_17, w26_18, w26_19, w26_20, w26_21, w26_22, w26_23, w26_24, w26_25, w26_26, w26_27, w26_28, w26_29, w26_30, w26_31, w26_32, w26_33, w26_34, w26_35, w26_36, w26_37, w26_38, w26_39, w26_40, w26_41, w26_42, w26_43, w26_44, w26_45, w26_46, w26_47, w26_48, w26_49, w26_50, w26_51, w26_52, w26_55, h]) | (refine wo_g (by simp only [wp_dreg, wd_e1, befB_nil, befB_cons, Nat.reducePow, Nat.reduceDiv, Nat.reduceMod, putDE, roFree_nil, roFree_cons, get_ne, Tr.get_e, isNone_none', dregQ_eq, mergeAll_nil, wd_nil, wd_q, putD_v, putD_r, oV_some, dq_mv, dq_ci, dq_bi0, biQ_i, dq_ex, dq_ld0, ldQ_p, ldR_some, dq_iaS, v_iaS, lnSl, lnL_l, lnL_u, lnL_l0, lnL_ue, wp_seq, seqQ_nrm, seqQ_ret, seqQ_ext, wp_reg, wp_ret, wp_skip, wp_exit, wp_block, blockQ_nrm, blockQ_ret, blockQ_ext, loopQ_nrm, loopQ_ret, loopQ_ext, wo_nil, xo_q, xo_a, xo_e, xo_e0, wo_gT, wo_gF, wo_gU, wp_condT, wp_condF, putO, putA, putE, putE0, setT_some, setT_none, v_mv, v_pk, pkV_T, pkV_F, v_bi, bi_sub, bi_lss, bi_gtr, bi_leq, bi_geq, bi_eql, bi_neq, v_un, un_not, v_ln, lnS, v_ixS, v_ld1, v_ldn, ld1_p, ldn_p, load1_same, v_fa, e_st_eq, er_some, xo_call, callC_orc, ev_t, ev_c, evs_nil, evs_cons, Tr.setP_h, Tr.setP_l, Tr.setP_r, getT_h, getT_n, getT_l, getT_r, Nat.reduceBEq, Nat.reduceEqDiff, Int.reduceEq, Int.reduceLT, Int.reduceLE, cond_true, cond_false, List.getElem?_cons_zero, List.getElem?_cons_succ, Option.getD_some, endQ_nrm, endQ_ret, endO, resV_nil', resV_t, consO_some, oneV_one, oneV_two, Bool.not_true, Bool.not_false, Bool.false_eq_true, Bool.true_eq_false, decide_true, decide_false, if_true, if_false, ite_true, ite_false, reduceIte, reduceCtorEq, pureO_of, ofO_some, flatten_b, flatten_i, flatten_s, flatten_p, flatten_p0, flatten_l, flatten_u, flatten_l0, flatten_m, flatten_m0, flatten_f, flatten_f0, flatten_g, allOne_nil, allOne_cons, isOne_b, isOne_i, isOne_s, isOne_p, isOne_p0, isOne_l, isOne_u, isOne_l0, isOne_m, isOne_f, isOne_f0, Bool.and_true, Bool.true_and, evP_nil, evP_cons, fillV_nil, fillV_cons, over_nil, over_cons, List.set_cons_zero, List.set_cons_succ, List.length_cons, List.length_nil, Nat.reduceAdd, Nat.reduceLeDiff, Nat.zero_add, and_self, and_true, true_and, v_bld, replL_over, v_fl1, v_fln, v_ex, v_ci, andO_some, eqAt_some, eqAll_nil, eqAll_cons, negO_F, negO_T, v_eq, eqV_agg, eqV_int, eq1_int, eq1_bool, xo_cv, callV_f, v_mkf, resV_cn, resV_c1, List.nil_append, List.append_nil, List.cons_append, load1_ne, loadN_ne, loadN_same, storeN_same, storeN_ne', mapS_some, a_al_eq, a_bx_eq, List.drop_zero, List.take_succ_cons, List.take_zero, List.take_nil, List.drop_succ_cons, Option.map_some, v_ixA1, ixA1_g, ne_add0, ne_add1, ne_add, Nat.add_assoc, x_app_eq, v_slL, v_bs, a_bsl_w, evPs_nil, evPs_cons, partsR_nil, partsR_cons, bslO_some, Option.isSome_some, Option.map_none, v_slS, lnSs, bi_seq, bi_sne, eq1_str, eqV_str, wd_gT, wd_gF, wd_gU, dq_ldn0, ldnQ_p, ldnR_some, dq_pk, dq_lnL, dq_lnS, dq_ixS, dq_un, dq_eq, shOk_agg, shOks_nil, shOks_cons, shOk1_int, shOk1_bool, shOk1_str, eqV_bool, shOk_int, shOk_bool, shOk_str, dq_fa, putDP, a_mks_w, roundQ_nrm, roundQ_ret, roundQ_ext, decide_eq_true_eq, or_self, or_true, or_false, true_or, false_or, and_false, false_and]; rfl) (fun h => ?_) (fun h => ?_) <;> simp only [wp_dreg, wd_e1, befB_nil, befB_cons, Nat.reducePow, Nat.reduceDiv, Nat.reduceMod, putDE, roFree_nil, roFree_cons, get_ne, Tr.get_e, isNone_none', dregQ_eq, mergeAll_nil, wd_nil, wd_q, putD_v, putD_r, oV_some, dq_mv, dq_ci, dq_bi0, biQ_i, dq_ex, dq_ld0, ldQ_p, ldR_some, dq_iaS, v_iaS, lnSl, lnL_l, lnL_u, lnL_l0, lnL_ue, wp_seq, seqQ_nrm, seqQ_ret, seqQ_ext, wp_reg, wp_ret, wp_skip, wp_exit, wp_block, blockQ_nrm, blockQ_ret, blockQ_ext, loopQ_nrm, loopQ_ret, loopQ_ext, wo_nil, xo_q, xo_a, xo_e, xo_e0, wo_gT, wo_gF, wo_gU, wp_condT, wp_condF, putO, putA, putE, putE0, setT_some, setT_none, v_mv, v_pk, pkV_T, pkV_F, v_bi, bi_sub, bi_lss, bi_gtr, bi_leq, bi_geq, bi_eql, bi_neq, v_un, un_not, v_ln, lnS, v_ixS, v_ld1, v_ldn, ld1_p, ldn_p, load1_same, v_fa, e_st_eq, er_some, xo_call, callC_orc, ev_t, ev_c, evs_nil, evs_cons, Tr.setP_h, Tr.setP_l, Tr.setP_r, getT_h, getT_n, getT_l, getT_r, Nat.reduceBEq, Nat.reduceEqDiff, Int.reduceEq, Int.reduceLT, Int.reduceLE, cond_true, cond_false, List.getElem?_cons_zero, List.getElem?_cons_succ, Option.getD_some, endQ_nrm, endQ_ret, endO, resV_nil', resV_t, consO_some, oneV_one, oneV_two, Bool.not_true, Bool.not_false, Bool.false_eq_true, Bool.true_eq_false, decide_true, decide_false, if_true, if_false, ite_true, ite_false, reduceIte, reduceCtorEq, pureO_of, ofO_some, flatten_b, flatten_i, flatten_s, flatten_p, flatten_p0, flatten_l, flatten_u, flatten_l0, flatten_m, flatten_m0, flatten_f, flatten_f0, flatten_g, allOne_nil, allOne_cons, isOne_b, isOne_i, isOne_s, isOne_p, isOne_p0, isOne_l, isOne_u, isOne_l0, isOne_m, isOne_f, isOne_f0, Bool.and_true, Bool.true_and, evP_nil, evP_cons, fillV_nil, fillV_cons, over_nil, over_cons, List.set_cons_zero, List.set_cons_succ, List.length_cons, List.length_nil, Nat.reduceAdd, Nat.reduceLeDiff, Nat.zero_add, and_self, and_true, true_and, v_bld, replL_over, v_fl1, v_fln, v_ex, v_ci, andO_some, eqAt_some, eqAll_nil, eqAll_cons, negO_F, negO_T, v_eq, eqV_agg, eqV_int, eq1_int, eq1_bool, xo_cv, callV_f, v_mkf, resV_cn, resV_c1, List.nil_append, List.append_nil, List.cons_append, load1_ne, loadN_ne, loadN_same, storeN_same, storeN_ne', mapS_some, a_al_eq, a_bx_eq, List.drop_zero, List.take_succ_cons, List.take_zero, List.take_nil, List.drop_succ_cons, Option.map_some, v_ixA1, ixA1_g, ne_add0, ne_add1, ne_add, Nat.add_assoc, x_app_eq, v_slL, v_bs, a_bsl_w, evPs_nil, evPs_cons, partsR_nil, partsR_cons, bslO_some, Option.isSome_some, Option.map_none, v_slS, lnSs, bi_seq, bi_sne, eq1_str, eqV_str, wd_gT, wd_gF, wd_gU, dq_ldn0, ldnQ_p, ldnR_some, dq_pk, dq_lnL, dq_lnS, dq_ixS, dq_un, dq_eq, shOk_agg, shOks_nil, shOks_cons, shOk1_int, shOk1_bool, shOk1_str, eqV_bool, shOk_int, shOk_bool, shOk_str, dq_fa, putDP, a_mks_w, roundQ_nrm, roundQ_ret, roundQ_ext, decide_eq_true_eq, or_self, or_true, or_false, true_or, false_or, and_false, false_and, e26, w26_1, w26_2, w26_3, w26_4, w26_5, w26_6, w26_7, w26_8, w26_9, w26_10, w26_11, w26_12, w26_13, w26_14, w26_15, w26_16, w26_17, w26_18, w26_19, w26_20, w26_21, w26_22, w26_23, w26_24, w26_25, w26_26, w26_27, w26_28, w26_29, w26_30, w26_31, w26_32, w26_33, w26_34, w26_35, w26_36, w26_37, w26_38, w26_39, w26_40, w26_41, w26_42, w26_43, w26_44, w26_45, w26_46, w26_47, w26_48, w26_49, w26_50, w26_51, w26_52, w26_53, w26_54, w26_55, w26_56, h])
  all_goals (simp only [decide_eq_true_eq, decide_eq_false_iff_not] at *; congr 1; unfold formI; repeat' split)
  all_goals first | rfl | omega
theorem names53_bd : bds (fun _ => False) names53 := by unfold names53; simp [bds, bd]
theorem nameV_bd (op : Int) : bd (fun _ => False) (nameV op) := by
  unfold nameV
  split
  · cases hn : names53[op.toNat]? with
    | none => trivial
    | some x => exact (bds_iff _ _).1 names53_bd x (List.mem_of_getElem? hn)
  · trivial
theorem t10' (Φ : Nat → Option CF) (h : Φ 10 = some c10) (h37 : Φ 37 = some (.orc (pureO h37))) (op d a b i : Int) (ct : Nat) :
    To Φ 10 [.g [.i .i64 op, .i .i64 d, .i .i64 a, .i .i64 b, .i .i64 i]] ct (.t [.i .u32 (w10 op d a b i), .i .i64 (er10 op d a b i)]) := by
  have := t10 Φ h h37 op d a b i ct
  unfold w10 er10
  by_cases hm : mayI op d a b i = true
  · simp only [hm, if_true] at this ⊢; exact this
  · simp only [hm] at this ⊢; exact this
section
variable {P : Program} (hm : P.follows .mixedOrders = true) {Φ : Nat → Option CF} (hΦ : PhiOk P Φ)
include hm hΦ
theorem o25 (h : Φ 25 = some c25) : OrcOk P 25 (pureO h25) := pure_of hm hΦ (by
  intro args v ct hv hct; unfold h25 at hv; split at hv
  · obtain rfl := Option.some.inj hv; exact ⟨trivial, t25 Φ h _ _⟩
  · cases hv)
theorem o26 (h : Φ 26 = some c26) : OrcOk P 26 (pureO h25) := pure_of hm hΦ (by
  intro args v ct hv hct; unfold h25 at hv; split at hv
  · obtain rfl := Option.some.inj hv; exact ⟨trivial, t26 Φ h _ _⟩
  · cases hv)
theorem o40 (h : Φ 40 = some c40) : OrcOk P 40 (pureO h40) := pure_of hm hΦ (by
  intro args v ct hv hct; unfold h40 at hv; split at hv
  · obtain rfl := Option.some.inj hv; exact ⟨⟨trivial, trivial, trivial, trivial, trivial⟩, t40 Φ h _ _⟩
  · cases hv)
theorem o38 (h : Φ 38 = some c38) : OrcOk P 38 (pureO h38) := pure_of hm hΦ (by
  intro args v ct hv hct; unfold h38 at hv; split at hv
  · obtain rfl := Option.some.inj hv; exact ⟨⟨trivial, trivial, trivial, trivial, trivial⟩, t38 Φ h _ _⟩
  · cases hv)
theorem o57 (h : Φ 57 = some c57) : OrcOk P 57 (pureO h57) := pure_of hm hΦ (by
  intro args v ct hv hct; unfold h57 at hv; split at hv
  · obtain rfl := Option.some.inj hv; exact ⟨trivial, t57 Φ h _ _⟩
  · cases hv)
theorem o54 (h : Φ 54 = some c54) : OrcOk P 54 (pureO h54) := pure_of hm hΦ (by
  intro args v ct hv hct; unfold h54 at hv; split at hv
  · obtain rfl := Option.some.inj hv; exact ⟨trivial, t54 Φ h _ _⟩
  · cases hv)
theorem o39 (h : Φ 39 = some c39) : OrcOk P 39 (pureO h39) := pure_of hm hΦ (by
  intro args v ct hv hct; unfold h39 at hv; split at hv
  · obtain rfl := Option.some.inj hv; exact ⟨trivial, t39 Φ h _ _ _⟩
  · cases hv)
theorem o53 (h : Φ 53 = some c53) : OrcOk P 53 (pureO h53) := pure_of hm hΦ (by
  intro args v ct hv hct; unfold h53 at hv; split at hv
  · obtain rfl := Option.some.inj hv; exact ⟨names53_bd, t53 Φ h _⟩
  · cases hv)
theorem o24 (h : Φ 24 = some c24) (h53 : Φ 53 = some (.orc (pureO h53))) : OrcOk P 24 (pureO h24) := pure_of hm hΦ (by
  intro args v ct hv hct; unfold h24 at hv; split at hv
  · obtain rfl := Option.some.inj hv; exact ⟨nameV_bd _, t24 Φ h h53 _ _⟩
  · cases hv)
theorem o12 (h : Φ 12 = some c12) (h26 : Φ 26 = some (.orc (pureO h25))) (h38 : Φ 38 = some (.orc (pureO h38))) (h39 : Φ 39 = some (.orc (pureO h39))) : OrcOk P 12 (pureO h12) := pure_of hm hΦ (by
  intro args v ct hv hct; unfold h12 at hv; split at hv
  · obtain rfl := Option.some.inj hv; exact ⟨trivial, t12 Φ h h26 h38 h39 _ _ _ _ _ _⟩
  · cases hv)
theorem o37 (h : Φ 37 = some c37) (h25 : Φ 25 = some (.orc (pureO h25))) (h40 : Φ 40 = some (.orc (pureO h40))) (h54 : Φ 54 = some (.orc (pureO h54))) (h57 : Φ 57 = some (.orc (pureO h57))) (h24 : Φ 24 = some (.orc (pureO h24))) : OrcOk P 37 (pureO h37) := pure_of hm hΦ (by
  intro args v ct hv hct; unfold h37 at hv; split at hv
  · obtain rfl := Option.some.inj hv; exact ⟨trivial, t37 Φ h h25 h40 h54 h57 h24 _ _ _ _ _ _⟩
  · cases hv)
theorem o10 (h : Φ 10 = some c10) (h37 : Φ 37 = some (.orc (pureO h37))) : OrcOk P 10 (pureO h10) := pure_of hm hΦ (by
  intro args v ct hv hct; unfold h10 at hv; split at hv
  · obtain rfl := Option.some.inj hv; exact ⟨⟨trivial, trivial, trivial⟩, t10' Φ h h37 _ _ _ _ _ _⟩
  · cases hv)
theorem o13 (h : Φ 13 = some c13) (h26 : Φ 26 = some (.orc (pureO h25))) : OrcOk P 13 (pureO h13) := pure_of hm hΦ (by
  intro args v ct hv hct; unfold h13 at hv; split at hv
  · split at hv
    · obtain rfl := Option.some.inj hv; exact ⟨trivial, t13 Φ h h26 _ _ _ _ _ (by assumption) _⟩
    · cases hv
  · cases hv)
theorem o31 (h : Φ 31 = some c31) (h25 : Φ 25 = some (.orc (pureO h25))) (h40 : Φ 40 = some (.orc (pureO h40))) (h54 : Φ 54 = some (.orc (pureO h54))) (h10 : Φ 10 = some (.orc (pureO h10))) : OrcOk P 31 (pureO h31) := pure_of hm hΦ (by
  intro args v ct hv hct; unfold h31 at hv; split at hv
  · split at hv
    · obtain rfl := Option.some.inj hv
      refine ⟨?_, t31 Φ h h25 h40 h54 h10 _ (by assumption) _⟩
      rw [ofV_eq]
      exact ⟨⟨trivial, trivial, trivial, trivial, trivial, trivial⟩, trivial, trivial⟩
    · cases hv
  · cases hv)
theorem o32 (h : Φ 32 = some c32) (h26 : Φ 26 = some (.orc (pureO h25))) (h38 : Φ 38 = some (.orc (pureO h38))) (h12 : Φ 12 = some (.orc (pureO h12))) (h13 : Φ 13 = some (.orc (pureO h13))) : OrcOk P 32 (pureO h32) := pure_of hm hΦ (by
  intro args v ct hv hct; unfold h32 at hv; split at hv
  · split at hv
    · obtain rfl := Option.some.inj hv
      refine ⟨?_, t32 Φ h h26 h38 h12 h13 _ (by assumption) _⟩
      rw [refV_eq _ (by assumption), ofV_eq]
      exact ⟨⟨trivial, trivial, trivial, trivial, trivial, trivial⟩, trivial, trivial⟩
    · cases hv
  · cases hv)
theorem o11 (h : Φ 11 = some c11) : OrcOk P 11 (pureO h11) := pure_of hm hΦ (by
  intro args v ct hv hct; unfold h11 at hv; split at hv
  · obtain rfl := Option.some.inj hv; exact ⟨trivial, t11 Φ h _ _⟩
  · cases hv)
end
end Go.Proofs.YtffpeieapadocaaGreatDoor.Ev
set_option maxRecDepth 10000
set_option maxHeartbeats 16000000
namespace Go.Proofs.YtffpeieapadocaaGreatDoor.Ev
open Go
noncomputable def b9_1 : CC := (.reg [⟨(some (.r .h)), .q (.mv (.c .l0)), none⟩, ⟨(some (.l (.l .h))), .q (.mv (.c (.i .i64 0))), none⟩])
noncomputable def b9_2 : CC := (.reg [⟨(some (.l (.r (.l .h)))), .q (.mv (.t .h)), none⟩, ⟨(some (.r (.r (.l .h)))), .q (.ln .slice (.t (.l (.r (.l .h))))), none⟩, ⟨(some (.l (.l (.r .h)))), .q (.bi .mul (.c (.i .i64 4)) (.t (.r (.r (.l .h))))), none⟩, ⟨(some (.r (.l (.r .h)))), .a (.mks 5 1 1 [(.i .u8 0)] (.c (.i .i64 0)) (.t (.l (.l (.r .h))))), none⟩, ⟨(some (.r (.l .h))), .q (.mv (.t (.r (.l (.r .h))))), none⟩])
noncomputable def b9_3 : CC := (.reg [⟨(some (.l (.r (.r .h)))), .q (.mv (.t .h)), none⟩, ⟨(some (.r (.r (.r .h)))), .q (.ln .slice (.t (.l (.r (.r .h))))), none⟩, ⟨(some (.l (.l (.l (.l .h))))), .q (.mv (.c (.i .i64 0))), none⟩])
noncomputable def b9_4 : CC := (.reg [⟨(some (.r (.l (.l (.l .h))))), .q (.bi .lss (.t (.l (.l (.l (.l .h))))) (.t (.r (.r (.r .h))))), none⟩])
noncomputable def b9_5 : CC := (.reg [⟨(some (.l (.r (.l (.l .h))))), .q (.iaS 5 (.t (.l (.r (.r .h)))) (.t (.l (.l (.l (.l .h)))))), none⟩, ⟨(some (.r (.r (.l (.l .h))))), .q (.ldn 5 (.t (.l (.r (.l (.l .h)))))), none⟩, ⟨(some (.r (.r .h))), .a (.al 26 [(.i .i64 0), (.i .i64 0), (.i .i64 0), (.i .i64 0), (.i .i64 0)]), none⟩, ⟨none, .e (.st 5 (.t (.r (.r .h))) (.t (.r (.r (.l (.l .h)))))), none⟩])
noncomputable def b9_6 : CC := (.reg [⟨(some (.r (.l (.r (.l .h))))), .q (.ldn 5 (.t (.r (.r .h)))), none⟩, ⟨(some (.l (.r (.r (.l .h))))), .e (.call 10 [(.t (.r (.l (.r (.l .h)))))]), none⟩, ⟨(some (.l (.l (.r (.l .h))))), .q (.mv (.t (.l (.r (.r (.l .h)))))), none⟩, ⟨(some (.r (.r (.r (.l .h))))), .q (.ex 0 (.t (.l (.l (.r (.l .h)))))), none⟩, ⟨(some (.l (.l (.l (.r .h))))), .q (.ex 1 (.t (.l (.l (.r (.l .h)))))), none⟩, ⟨(some (.l (.l (.l .h)))), .q (.mv (.t (.r (.r (.r (.l .h)))))), none⟩, ⟨(some (.r (.l (.l .h)))), .q (.mv (.t (.l (.l (.l (.r .h)))))), none⟩])
noncomputable def b9_7 : CC := (.reg [⟨(some (.r (.l (.l (.r .h))))), .q (.mv (.t (.r (.l (.l .h))))), none⟩, ⟨(some (.l (.r (.l (.r .h))))), .q (.bi .neq (.t (.r (.l (.l (.r .h))))) (.c (.i .i64 0))), none⟩])
noncomputable def b9_8 : CC := (.reg [⟨(some (.r (.r (.l (.r .h))))), .q (.mv (.t (.r (.l (.l .h))))), none⟩, ⟨(some (.r .h)), .q (.mv (.c .l0)), none⟩, ⟨(some (.l (.l .h))), .q (.mv (.t (.r (.r (.l (.r .h)))))), none⟩])
noncomputable def b9_9 : CC := (.seq b9_7 (.cond (.t (.l (.r (.l (.r .h))))) (.seq b9_8 .ret) .skip))
noncomputable def b9_10 : CC := (.reg [⟨(some (.l (.l (.r (.r .h))))), .q (.mv (.t (.r (.l .h)))), none⟩, ⟨(some (.r (.l (.r (.r .h))))), .q (.mv (.t (.l (.l (.l .h))))), none⟩, ⟨(some (.l (.r (.r (.r .h))))), .q (.ci .u8 (.t (.r (.l (.r (.r .h)))))), none⟩, ⟨(some (.r (.r (.r (.r .h))))), .q (.mv (.t (.l (.l (.l .h))))), none⟩, ⟨(some (.l (.l (.l (.l (.l .h)))))), .q (.bi .shr (.t (.r (.r (.r (.r .h))))) (.c (.i .u64 8))), none⟩, ⟨(some (.r (.l (.l (.l (.l .h)))))), .q (.ci .u8 (.t (.l (.l (.l (.l (.l .h))))))), none⟩, ⟨(some (.l (.r (.l (.l (.l .h)))))), .q (.mv (.t (.l (.l (.l .h))))), none⟩, ⟨(some (.r (.r (.l (.l (.l .h)))))), .q (.bi .shr (.t (.l (.r (.l (.l (.l .h)))))) (.c (.i .u64 16))), none⟩, ⟨(some (.l (.l (.r (.l (.l .h)))))), .q (.ci .u8 (.t (.r (.r (.l (.l (.l .h))))))), none⟩, ⟨(some (.r (.l (.r (.l (.l .h)))))), .q (.mv (.t (.l (.l (.l .h))))), none⟩, ⟨(some (.l (.r (.r (.l (.l .h)))))), .q (.bi .shr (.t (.r (.l (.r (.l (.l .h)))))) (.c (.i .u64 24))), none⟩, ⟨(some (.r (.r (.r (.l (.l .h)))))), .q (.ci .u8 (.t (.l (.r (.r (.l (.l .h))))))), none⟩, ⟨(some (.l (.l (.l (.r (.l .h)))))), .a (.bsl 5 4 1 [(.i .u8 0)] [(0, (.t (.l (.r (.r (.r .h)))))), (1, (.t (.r (.l (.l (.l (.l .h))))))), (2, (.t (.l (.l (.r (.l (.l .h))))))), (3, (.t (.r (.r (.r (.l (.l .h)))))))]), none⟩, ⟨(some (.r (.l (.l (.r (.l .h)))))), .e (.app 5 1 1 (.t (.l (.l (.r (.r .h))))) (.t (.l (.l (.l (.r (.l .h))))))), none⟩, ⟨(some (.r (.l .h))), .q (.mv (.t (.r (.l (.l (.r (.l .h))))))), none⟩])
noncomputable def b9_11 : CC := (.reg [⟨(some (.l (.r (.l (.r (.l .h)))))), .q (.bi .add (.t (.l (.l (.l (.l .h))))) (.c (.i .i64 1))), none⟩, ⟨(some (.l (.l (.l (.l .h))))), .q (.mv (.t (.l (.r (.l (.r (.l .h))))))), none⟩])
noncomputable def b9_12 : CC := (.seq (.block 1 (.seq b9_5 (.seq b9_6 (.seq b9_9 b9_10)))) b9_11)
noncomputable def b9_13 : CC := (.seq (.cond (.t (.r (.l (.l (.l .h))))) .skip (.exit 0)) b9_12)
noncomputable def b9_14 : CC := (.reg [⟨(some (.r (.r (.l (.r (.l .h)))))), .q (.mv (.t (.r (.l .h)))), none⟩, ⟨(some (.r .h)), .q (.mv (.t (.r (.r (.l (.r (.l .h))))))), none⟩, ⟨(some (.l (.l .h))), .q (.mv (.c (.i .i64 0))), none⟩])
noncomputable def b9_15 : CC := (.seq (.seq b9_3 (.block 0 (.loop (.seq b9_4 b9_13)))) (.seq b9_14 .ret))
noncomputable def c9 : CF := .mk 6 [.t (.r .h), .t (.l (.l .h))] (.seq b9_1 (.seq b9_2 b9_15))
structure Ins where
  op : Int
  d : Int
  a : Int
  b : Int
  i : Int
def insV (x : Ins) : List V := [.i .i64 x.op, .i .i64 x.d, .i .i64 x.a, .i .i64 x.b, .i .i64 x.i]
theorem ins_at {F : RO} {M : Mem} {c : Nat} {v : V} {l : List Ins} (hs : SlAt F M c 5 v (l.map insV)) (i : Nat) (hi : i < l.length) :
    ∃ b o, b < c ∧ (∀ k, iaSV 5 v (.i k (i : Int)) = some (.p b o)) ∧ loadN F M b o 5 = some [.i .i64 l[i].op, .i .i64 l[i].d, .i .i64 l[i].a, .i .i64 l[i].b, .i .i64 l[i].i] := by
  obtain ⟨b, o, h1, h2, h3⟩ := hs.at i (by simpa using hi)
  refine ⟨b, o, h1, h2, ?_⟩
  rw [List.getElem_map] at h3
  exact h3.load (by unfold insV; simp)
end Go.Proofs.YtffpeieapadocaaGreatDoor.Ev
set_option maxRecDepth 10000
set_option maxHeartbeats 16000000
namespace Go.Proofs.YtffpeieapadocaaGreatDoor.Ev
open Go
noncomputable def b3_1 : CC := (.reg [⟨(some (.l (.l (.r .h)))), .q (.mv (.t .h)), none⟩, ⟨(some (.r (.l (.r .h)))), .q (.ln .slice (.t (.l (.l (.r .h))))), none⟩, ⟨(some (.l (.r (.r .h)))), .q (.bi .gtr (.t (.r (.l (.r .h)))) (.c (.i .i64 200))), none⟩])
noncomputable def b3_2 : CC := (.reg [⟨(some (.r (.r (.r .h)))), .e (.call 8 []), none⟩, ⟨(some (.r .h)), .q (.mv (.t (.r (.r (.r .h))))), none⟩])
noncomputable def b3_3 : CC := (.seq b3_1 (.cond (.t (.l (.r (.r .h)))) (.seq b3_2 .ret) .skip))
noncomputable def b3_4 : CC := (.reg [⟨(some (.l (.l (.l (.l .h))))), .q (.mv (.t .h)), none⟩, ⟨(some (.r (.l (.l (.l .h))))), .e (.app 26 5 40 (.c .l0) (.t (.l (.l (.l (.l .h)))))), none⟩, ⟨(some (.l (.r (.l (.l .h))))), .q (.bld [(.i .i64 0), (.i .i64 0), (.i .i64 0), (.i .i64 0), (.i .i64 0)] [(0, 1, (.c (.i .i64 77)))]), none⟩, ⟨(some (.r (.r (.l (.l .h))))), .a (.bsl 26 1 5 [(.i .i64 0), (.i .i64 0), (.i .i64 0), (.i .i64 0), (.i .i64 0)] [(0, (.t (.l (.r (.l (.l .h))))))]), none⟩, ⟨(some (.l (.l (.r (.l .h))))), .e (.app 26 5 40 (.t (.r (.l (.l (.l .h))))) (.t (.r (.r (.l (.l .h)))))), none⟩, ⟨(some (.l (.l .h))), .q (.mv (.t (.l (.l (.r (.l .h)))))), none⟩])
noncomputable def b3_5 : CC := (.reg [⟨(some (.l (.r (.r (.l .h))))), .q (.mv (.t (.l (.l .h)))), none⟩, ⟨(some (.r (.r (.r (.l .h))))), .q (.mv (.t .h)), none⟩, ⟨(some (.l (.l (.l (.r .h))))), .q (.ln .slice (.t (.r (.r (.r (.l .h)))))), none⟩, ⟨(some (.r (.l (.l (.r .h))))), .q (.slL 5 (.t (.l (.r (.r (.l .h))))) none (some (.t (.l (.l (.l (.r .h)))))) none), none⟩, ⟨(some (.l (.r (.l (.r .h))))), .e (.call 9 [(.t (.r (.l (.l (.r .h)))))]), none⟩, ⟨(some (.r (.l (.r (.l .h))))), .q (.mv (.t (.l (.r (.l (.r .h)))))), none⟩, ⟨(some (.r (.r (.l (.r .h))))), .q (.ex 0 (.t (.r (.l (.r (.l .h)))))), none⟩, ⟨(some (.l (.l (.r (.r .h))))), .q (.ex 1 (.t (.r (.l (.r (.l .h)))))), none⟩, ⟨(some (.r (.l .h))), .q (.mv (.t (.r (.r (.l (.r .h)))))), none⟩, ⟨(some (.l (.r .h))), .q (.mv (.t (.l (.l (.r (.r .h)))))), none⟩])
noncomputable def b3_6 : CC := (.reg [⟨(some (.l (.l (.l .h)))), .q (.mv (.c (.b true))), none⟩])
noncomputable def b3_7 : CC := (.reg [⟨(some (.r (.l (.l .h)))), .q (.mv (.c (.i .i64 0))), none⟩])
noncomputable def b3_8 : CC := (.reg [⟨(some (.r (.l (.r (.r .h))))), .q (.mv (.t (.r (.l (.l .h))))), none⟩, ⟨(some (.l (.r (.r (.r .h))))), .q (.mv (.t .h)), none⟩, ⟨(some (.r (.r (.r (.r .h))))), .q (.ln .slice (.t (.l (.r (.r (.r .h)))))), none⟩, ⟨(some (.l (.l (.l (.l (.l .h)))))), .q (.bi .lss (.t (.r (.l (.r (.r .h))))) (.t (.r (.r (.r (.r .h)))))), none⟩])
noncomputable def b3_9 : CC := (.seq b3_8 (.cond (.t (.l (.l (.l (.l (.l .h)))))) .skip (.exit 0)))
noncomputable def b3_10 : CC := (.reg [⟨(some (.l (.l (.r (.l (.l .h)))))), .q (.mv (.t .h)), none⟩, ⟨(some (.r (.l (.r (.l (.l .h)))))), .q (.mv (.t (.r (.l (.l .h))))), none⟩, ⟨(some (.l (.r (.r (.l (.l .h)))))), .q (.iaS 5 (.t (.l (.l (.r (.l (.l .h)))))) (.t (.r (.l (.r (.l (.l .h))))))), none⟩, ⟨(some (.r (.r (.r (.l (.l .h)))))), .q (.ldn 5 (.t (.l (.r (.r (.l (.l .h))))))), none⟩, ⟨(some (.l (.l (.l (.r (.l .h)))))), .e (.call 10 [(.t (.r (.r (.r (.l (.l .h))))))]), none⟩, ⟨(some (.r (.r (.l (.l (.l .h)))))), .q (.mv (.t (.l (.l (.l (.r (.l .h))))))), none⟩, ⟨(some (.r (.l (.l (.r (.l .h)))))), .q (.ex 0 (.t (.r (.r (.l (.l (.l .h))))))), none⟩, ⟨(some (.l (.r (.l (.r (.l .h)))))), .q (.ex 1 (.t (.r (.r (.l (.l (.l .h))))))), none⟩, ⟨(some (.l (.r (.l .h)))), .q (.mv (.t (.r (.l (.l (.r (.l .h))))))), none⟩, ⟨(some (.r (.r (.l .h)))), .q (.mv (.t (.l (.r (.l (.r (.l .h))))))), none⟩])
noncomputable def b3_11 : CC := (.dreg 20 [(0, 0, ⟨(some (.r (.r (.l (.r (.l .h)))))), .q (.mv (.t (.l (.l .h)))), none⟩), (1, 0, ⟨(some (.l (.l (.r (.r (.l .h)))))), .q (.mv (.t (.r (.l (.l .h))))), none⟩), (2, 3, ⟨(some (.r (.l (.r (.r (.l .h)))))), .q (.iaS 5 (.t (.r (.r (.l (.r (.l .h)))))) (.t (.l (.l (.r (.r (.l .h))))))), none⟩), (3, 7, ⟨(some (.l (.r (.r (.r (.l .h)))))), .q (.ldn 5 (.t (.r (.l (.r (.r (.l .h))))))), none⟩), (4, 0, ⟨(some (.r (.r (.r (.r (.l .h)))))), .q (.mv (.t .h)), none⟩), (5, 0, ⟨(some (.l (.l (.l (.l (.r .h)))))), .q (.mv (.t (.r (.l (.l .h))))), none⟩), (6, 48, ⟨(some (.r (.l (.l (.l (.r .h)))))), .q (.iaS 5 (.t (.r (.r (.r (.r (.l .h)))))) (.t (.l (.l (.l (.l (.r .h))))))), none⟩), (7, 112, ⟨(some (.l (.r (.l (.l (.r .h)))))), .q (.ldn 5 (.t (.r (.l (.l (.l (.r .h))))))), none⟩), (8, 255, ⟨(some (.r (.r (.l (.l (.r .h)))))), .q (.eq true (.agg [(0, .int), (1, .int), (2, .int), (3, .int), (4, .int)]) false (.t (.l (.r (.r (.r (.l .h)))))) (.t (.l (.r (.l (.l (.r .h))))))), none⟩), (9, 511, ⟨(some (.l (.l (.r (.l (.r .h)))))), .q (.mv (.t (.r (.r (.l (.l (.r .h))))))), none⟩), (10, 1023, ⟨(some (.r (.l (.r (.l (.r .h)))))), .q (.mv (.t (.r (.r (.l .h))))), (some ((.l (.l (.r (.l (.r .h))))), false))⟩), (13, 1023, ⟨(some (.l (.l (.l (.r (.r .h)))))), .q (.mv (.t .h)), (some ((.l (.l (.r (.l (.r .h))))), false))⟩), (14, 1023, ⟨(some (.r (.l (.l (.r (.r .h)))))), .q (.mv (.t (.r (.l (.l .h))))), (some ((.l (.l (.r (.l (.r .h))))), false))⟩), (15, 25599, ⟨(some (.l (.r (.l (.r (.r .h)))))), .q (.iaS 5 (.t (.l (.l (.l (.r (.r .h)))))) (.t (.r (.l (.l (.r (.r .h))))))), (some ((.l (.l (.r (.l (.r .h))))), false))⟩), (16, 58367, ⟨(some (.r (.r (.l (.r (.r .h)))))), .q (.ldn 5 (.t (.l (.r (.l (.r (.r .h))))))), (some ((.l (.l (.r (.l (.r .h))))), false))⟩), (11, 2047, ⟨(some (.l (.r (.r (.l (.r .h)))))), .e (.call 11 [(.t (.r (.l (.r (.l (.r .h))))))]), (some ((.l (.l (.r (.l (.r .h))))), false))⟩), (12, 4095, ⟨(some (.r (.r (.r (.l (.r .h)))))), .q (.bi .eql (.t (.l (.r (.r (.l (.r .h)))))) (.c (.i .i64 0))), (some ((.l (.l (.r (.l (.r .h))))), false))⟩), (17, 126975, ⟨(some (.l (.l (.r (.r (.r .h)))))), .e (.call 12 [(.t (.r (.r (.l (.r (.r .h))))))]), (some ((.l (.l (.r (.l (.r .h))))), false))⟩), (18, 262143, ⟨(some (.r (.l (.r (.r (.r .h)))))), .q (.eq true .bool false (.t (.r (.r (.r (.l (.r .h)))))) (.t (.l (.l (.r (.r (.r .h))))))), (some ((.l (.l (.r (.l (.r .h))))), false))⟩), (19, 524287, ⟨(some (.l (.r (.r (.r (.r .h)))))), .q (.pk (.t (.l (.l (.r (.l (.r .h)))))) (.c (.b true)) (.t (.r (.l (.r (.r (.r .h))))))), none⟩)])
noncomputable def b3_12 : CC := (.seq (.reg [⟨(some (.r .h)), .q (.mv (.c (.b false))), none⟩]) .ret)
noncomputable def b3_13 : CC := (.seq b3_11 (.cond (.t (.l (.r (.r (.r (.r .h)))))) b3_12 .skip))
noncomputable def b3_14 : CC := (.reg [⟨(some (.r (.r (.r (.r (.r .h)))))), .q (.mv (.t .h)), none⟩, ⟨(some (.l (.l (.l (.l (.l (.l .h))))))), .q (.mv (.t (.r (.l (.l .h))))), none⟩, ⟨(some (.r (.l (.l (.l (.l (.l .h))))))), .q (.iaS 5 (.t (.r (.r (.r (.r (.r .h)))))) (.t (.l (.l (.l (.l (.l (.l .h)))))))), none⟩, ⟨(some (.l (.r (.l (.l (.l (.l .h))))))), .q (.ldn 5 (.t (.r (.l (.l (.l (.l (.l .h)))))))), none⟩, ⟨(some (.r (.r (.l (.l (.l (.l .h))))))), .e (.call 12 [(.t (.l (.r (.l (.l (.l (.l .h)))))))]), none⟩, ⟨(some (.l (.l (.r (.l (.l (.l .h))))))), .q (.un .not (.t (.r (.r (.l (.l (.l (.l .h)))))))), none⟩])
noncomputable def b3_15 : CC := (.reg [⟨(some (.r (.l (.r (.l (.l (.l .h))))))), .q (.mv (.t (.l (.r (.l .h))))), none⟩, ⟨(some (.l (.r (.r (.l (.l (.l .h))))))), .q (.bi .neq (.t (.r (.l (.r (.l (.l (.l .h))))))) (.c (.i .u32 0))), none⟩, ⟨(some (.r (.r (.r (.l (.l (.l .h))))))), .q (.mv (.t (.l (.r (.r (.l (.l (.l .h)))))))), none⟩, ⟨(some (.l (.l (.l (.r (.l (.l .h))))))), .q (.mv (.t (.r (.r (.l .h))))), (some ((.r (.r (.r (.l (.l (.l .h)))))), false))⟩, ⟨(some (.r (.l (.l (.r (.l (.l .h))))))), .e (.call 11 [(.t (.l (.l (.l (.r (.l (.l .h)))))))]), (some ((.r (.r (.r (.l (.l (.l .h)))))), false))⟩, ⟨(some (.l (.r (.l (.r (.l (.l .h))))))), .q (.bi .neq (.t (.r (.l (.l (.r (.l (.l .h))))))) (.c (.i .i64 2))), (some ((.r (.r (.r (.l (.l (.l .h)))))), false))⟩, ⟨(some (.r (.r (.l (.r (.l (.l .h))))))), .q (.pk (.t (.r (.r (.r (.l (.l (.l .h))))))) (.c (.b true)) (.t (.l (.r (.l (.r (.l (.l .h)))))))), none⟩])
noncomputable def b3_16 : CC := (.seq (.reg [⟨(some (.r .h)), .q (.mv (.c (.b false))), none⟩]) .ret)
noncomputable def b3_17 : CC := (.seq b3_15 (.cond (.t (.r (.r (.l (.r (.l (.l .h))))))) b3_16 .skip))
noncomputable def b3_18 : CC := (.reg [⟨(some (.l (.l (.l .h)))), .q (.mv (.c (.b false))), none⟩])
noncomputable def b3_19 : CC := (.cond (.t (.l (.l (.r (.l (.l (.l .h))))))) (.seq b3_17 (.seq b3_18 (.exit 1))) .skip)
noncomputable def b3_20 : CC := (.reg [⟨(some (.l (.l (.r (.r (.l (.l .h))))))), .q (.mv (.t (.l (.r (.l .h))))), none⟩, ⟨(some (.r (.l (.r (.r (.l (.l .h))))))), .q (.mv (.t .h)), none⟩, ⟨(some (.l (.r (.r (.r (.l (.l .h))))))), .q (.mv (.t (.r (.l (.l .h))))), none⟩, ⟨(some (.r (.r (.r (.r (.l (.l .h))))))), .q (.iaS 5 (.t (.r (.l (.r (.r (.l (.l .h))))))) (.t (.l (.r (.r (.r (.l (.l .h)))))))), none⟩, ⟨(some (.l (.l (.l (.l (.r (.l .h))))))), .q (.ldn 5 (.t (.r (.r (.r (.r (.l (.l .h)))))))), none⟩, ⟨(some (.r (.l (.l (.l (.r (.l .h))))))), .e (.call 13 [(.t (.l (.l (.l (.l (.r (.l .h)))))))]), none⟩, ⟨(some (.l (.r (.l (.l (.r (.l .h))))))), .q (.bi .neq (.t (.l (.l (.r (.r (.l (.l .h))))))) (.t (.r (.l (.l (.l (.r (.l .h)))))))), none⟩])
noncomputable def b3_21 : CC := (.seq (.reg [⟨(some (.r .h)), .q (.mv (.c (.b false))), none⟩]) .ret)
noncomputable def b3_22 : CC := (.seq b3_20 (.cond (.t (.l (.r (.l (.l (.r (.l .h))))))) b3_21 .skip))
noncomputable def b3_23 : CC := (.reg [⟨(some (.r (.r (.l (.l (.r (.l .h))))))), .q (.mv (.t (.r (.r .h)))), none⟩, ⟨(some (.l (.l (.r (.l (.r (.l .h))))))), .q (.mv (.t (.l (.r (.l .h))))), none⟩, ⟨(some (.r (.l (.r (.l (.r (.l .h))))))), .e (.call 14 [(.t (.l (.l (.r (.l (.r (.l .h)))))))]), none⟩, ⟨(some (.l (.r (.r (.l (.r (.l .h))))))), .e (.app 5 1 1 (.t (.r (.r (.l (.l (.r (.l .h))))))) (.t (.r (.l (.r (.l (.r (.l .h)))))))), none⟩, ⟨(some (.r (.r .h))), .q (.mv (.t (.l (.r (.r (.l (.r (.l .h)))))))), none⟩])
noncomputable def b3_24 : CC := (.seq b3_10 (.seq b3_13 (.seq (.seq b3_14 b3_19) (.seq b3_22 b3_23))))
noncomputable def b3_25 : CC := (.reg [⟨(some (.r (.l (.l (.l (.l .h)))))), .q (.mv (.t (.r (.l (.l .h))))), none⟩, ⟨(some (.l (.r (.l (.l (.l .h)))))), .q (.bi .add (.t (.r (.l (.l (.l (.l .h)))))) (.c (.i .i64 1))), none⟩, ⟨(some (.r (.l (.l .h)))), .q (.mv (.t (.l (.r (.l (.l (.l .h))))))), none⟩])
noncomputable def b3_26 : CC := (.block 0 (.loop (.seq b3_9 (.seq (.block 1 b3_24) b3_25))))
noncomputable def b3_27 : CC := (.reg [⟨(some (.r (.r (.r (.l (.r (.l .h))))))), .q (.mv (.t (.l (.l .h)))), none⟩, ⟨(some (.l (.l (.l (.r (.r (.l .h))))))), .q (.mv (.t .h)), none⟩, ⟨(some (.r (.l (.l (.r (.r (.l .h))))))), .q (.ln .slice (.t (.l (.l (.l (.r (.r (.l .h)))))))), none⟩, ⟨(some (.l (.r (.l (.r (.r (.l .h))))))), .q (.iaS 5 (.t (.r (.r (.r (.l (.r (.l .h))))))) (.t (.r (.l (.l (.r (.r (.l .h)))))))), none⟩, ⟨(some (.r (.r (.l (.r (.r (.l .h))))))), .q (.fa 0 (.t (.l (.r (.l (.r (.r (.l .h)))))))), none⟩, ⟨(some (.l (.l (.r (.r (.r (.l .h))))))), .q (.ld1 (.t (.r (.r (.l (.r (.r (.l .h)))))))), none⟩, ⟨(some (.r (.l (.r (.r (.r (.l .h))))))), .q (.bi .neq (.t (.l (.l (.r (.r (.r (.l .h))))))) (.c (.i .i64 77))), none⟩])
noncomputable def b3_28 : CC := (.seq (.reg [⟨(some (.r .h)), .q (.mv (.c (.b false))), none⟩]) .ret)
noncomputable def b3_29 : CC := (.seq b3_27 (.cond (.t (.r (.l (.r (.r (.r (.l .h))))))) b3_28 .skip))
noncomputable def b3_30 : CC := (.reg [⟨(some (.l (.r (.r (.r (.r (.l .h))))))), .q (.mv (.t (.l (.l (.l .h))))), none⟩, ⟨(some (.r (.r (.r (.r (.r (.l .h))))))), .q (.un .not (.t (.l (.r (.r (.r (.r (.l .h)))))))), none⟩])
noncomputable def b3_31 : CC := (.reg [⟨(some (.l (.l (.l (.l (.l (.r .h))))))), .q (.mv (.t (.r (.l .h)))), none⟩, ⟨(some (.r (.l (.l (.l (.l (.r .h))))))), .q (.ln .slice (.t (.l (.l (.l (.l (.l (.r .h)))))))), none⟩, ⟨(some (.l (.r (.l (.l (.l (.r .h))))))), .q (.bi .eql (.t (.r (.l (.l (.l (.l (.r .h))))))) (.c (.i .i64 0))), none⟩, ⟨(some (.r (.r (.l (.l (.l (.r .h))))))), .q (.mv (.t (.l (.r (.l (.l (.l (.r .h)))))))), none⟩, ⟨(some (.l (.l (.r (.l (.l (.r .h))))))), .q (.mv (.t (.l (.r .h)))), (some ((.r (.r (.l (.l (.l (.r .h)))))), true))⟩, ⟨(some (.r (.l (.r (.l (.l (.r .h))))))), .e (.call 11 [(.t (.l (.l (.r (.l (.l (.r .h)))))))]), (some ((.r (.r (.l (.l (.l (.r .h)))))), true))⟩, ⟨(some (.l (.r (.r (.l (.l (.r .h))))))), .q (.bi .eql (.t (.r (.l (.r (.l (.l (.r .h))))))) (.c (.i .i64 2))), (some ((.r (.r (.l (.l (.l (.r .h)))))), true))⟩, ⟨(some (.r (.r (.r (.l (.l (.r .h))))))), .q (.pk (.t (.r (.r (.l (.l (.l (.r .h))))))) (.t (.l (.r (.r (.l (.l (.r .h))))))) (.c (.b false))), none⟩, ⟨(some (.l (.l (.l (.r (.l (.r .h))))))), .q (.mv (.t (.r (.r (.r (.l (.l (.r .h)))))))), none⟩, ⟨(some (.r (.l (.l (.r (.l (.r .h))))))), .e (.call 8 []), (some ((.l (.l (.l (.r (.l (.r .h)))))), true))⟩, ⟨(some (.l (.r (.l (.r (.l (.r .h))))))), .q (.pk (.t (.l (.l (.l (.r (.l (.r .h))))))) (.t (.r (.l (.l (.r (.l (.r .h))))))) (.c (.b false))), none⟩, ⟨(some (.r .h)), .q (.mv (.t (.l (.r (.l (.r (.l (.r .h)))))))), none⟩])
noncomputable def b3_32 : CC := (.cond (.t (.r (.r (.r (.r (.r (.l .h))))))) (.seq b3_31 .ret) .skip)
noncomputable def b3_33 : CC := (.reg [⟨(some (.r (.r (.l (.r (.l (.r .h))))))), .q (.mv (.t (.r (.l .h)))), none⟩, ⟨(some (.l (.l (.r (.r (.l (.r .h))))))), .q (.bs (.t (.r (.r (.l (.r (.l (.r .h)))))))), none⟩, ⟨(some (.r (.l (.r (.r (.l (.r .h))))))), .q (.mv (.t (.r (.r .h)))), none⟩, ⟨(some (.l (.r (.r (.r (.l (.r .h))))))), .q (.bs (.t (.r (.l (.r (.r (.l (.r .h)))))))), none⟩, ⟨(some (.r (.r (.r (.r (.l (.r .h))))))), .q (.bi .eql (.t (.l (.l (.r (.r (.l (.r .h))))))) (.t (.l (.r (.r (.r (.l (.r .h)))))))), none⟩, ⟨(some (.l (.l (.l (.l (.r (.r .h))))))), .q (.mv (.t (.r (.r (.r (.r (.l (.r .h)))))))), none⟩, ⟨(some (.r (.l (.l (.l (.r (.r .h))))))), .q (.mv (.t (.l (.r .h)))), (some ((.l (.l (.l (.l (.r (.r .h)))))), true))⟩, ⟨(some (.l (.r (.l (.l (.r (.r .h))))))), .e (.call 11 [(.t (.r (.l (.l (.l (.r (.r .h)))))))]), (some ((.l (.l (.l (.l (.r (.r .h)))))), true))⟩, ⟨(some (.r (.r (.l (.l (.r (.r .h))))))), .q (.bi .eql (.t (.l (.r (.l (.l (.r (.r .h))))))) (.c (.i .i64 0))), (some ((.l (.l (.l (.l (.r (.r .h)))))), true))⟩, ⟨(some (.l (.l (.r (.l (.r (.r .h))))))), .q (.pk (.t (.l (.l (.l (.l (.r (.r .h))))))) (.t (.r (.r (.l (.l (.r (.r .h))))))) (.c (.b false))), none⟩, ⟨(some (.r (.l (.r (.l (.r (.r .h))))))), .q (.mv (.t (.l (.l (.r (.l (.r (.r .h)))))))), none⟩, ⟨(some (.l (.r (.r (.l (.r (.r .h))))))), .e (.call 8 []), (some ((.r (.l (.r (.l (.r (.r .h)))))), true))⟩, ⟨(some (.r (.r (.r (.l (.r (.r .h))))))), .q (.pk (.t (.r (.l (.r (.l (.r (.r .h))))))) (.t (.l (.r (.r (.l (.r (.r .h))))))) (.c (.b false))), none⟩, ⟨(some (.r .h)), .q (.mv (.t (.r (.r (.r (.l (.r (.r .h)))))))), none⟩])
noncomputable def b3_34 : CC := (.seq (.seq b3_7 b3_26) (.seq b3_29 (.seq (.seq b3_30 b3_32) (.seq b3_33 .ret))))
noncomputable def b3_35 : CC := (.seq (.reg [⟨(some (.r (.r .h))), .q (.mv (.c .l0)), none⟩]) (.seq b3_6 b3_34))
noncomputable def b3_36 : CC := (.seq (.reg [⟨(some (.r .h)), .q (.mv (.c (.b false))), none⟩]) (.seq b3_3 (.seq b3_4 (.seq b3_5 b3_35))))
noncomputable def c3 : CF := .mk 7 [.t (.r .h)] b3_36
theorem e3 (v0 : V) : argTr 7 [v0] = (.n (.n (.n (.n (.n (.n (.n .e none .e) none (.n .e none .e)) none (.n (.n .e none .e) none (.n .e none .e))) none (.n (.n (.n .e none .e) none (.n .e none .e)) none (.n (.n .e none .e) none (.n .e none .e)))) none (.n (.n (.n (.n .e none .e) none (.n .e none .e)) none (.n (.n .e none .e) none (.n .e none .e))) none (.n (.n (.n .e none .e) none (.n .e none .e)) none (.n (.n .e none .e) none (.n .e none .e))))) none (.n (.n (.n (.n (.n .e none .e) none (.n .e none .e)) none (.n (.n .e none .e) none (.n .e none .e))) none (.n (.n (.n .e none .e) none (.n .e none .e)) none (.n (.n .e none .e) none (.n .e none .e)))) none (.n (.n (.n (.n .e none .e) none (.n .e none .e)) none (.n (.n .e none .e) none (.n .e none .e))) none (.n (.n (.n .e none .e) none (.n .e none .e)) none (.n (.n .e none .e) none (.n .e none .e)))))) (some v0) (.n (.n (.n (.n (.n (.n .e none .e) none (.n .e none .e)) none (.n (.n .e none .e) none (.n .e none .e))) none (.n (.n (.n .e none .e) none (.n .e none .e)) none (.n (.n .e none .e) none (.n .e none .e)))) none (.n (.n (.n (.n .e none .e) none (.n .e none .e)) none (.n (.n .e none .e) none (.n .e none .e))) none (.n (.n (.n .e none .e) none (.n .e none .e)) none (.n (.n .e none .e) none (.n .e none .e))))) none (.n (.n (.n (.n (.n .e none .e) none (.n .e none .e)) none (.n (.n .e none .e) none (.n .e none .e))) none (.n (.n (.n .e none .e) none (.n .e none .e)) none (.n (.n .e none .e) none (.n .e none .e)))) none (.n (.n (.n (.n .e none .e) none (.n .e none .e)) none (.n (.n .e none .e) none (.n .e none .e))) none (.n (.n (.n .e none .e) none (.n .e none .e)) none (.n (.n .e none .e) none (.n .e none .e))))))) := rfl
end Go.Proofs.YtffpeieapadocaaGreatDoor.Ev
namespace Go.Proofs.YtffpeieapadocaaGreatDoor.Ev
open Go
theorem i64_of {F : RO} {M : Mem} {c : Nat} {vs : List V} {x : (Ty.int .i64).D} (h : Rp F M c (.int .i64) vs x) : ∃ z : Int, vs = [.i .i64 z] ∧ -9223372036854775808 ≤ z ∧ z ≤ 9223372036854775807 := by
  have key : ∀ z : Int, vs = [.i .i64 z] ∧ IntKind.i64.min ≤ z ∧ z ≤ IntKind.i64.max → ∃ z : Int, vs = [.i .i64 z] ∧ -9223372036854775808 ≤ z ∧ z ≤ 9223372036854775807 := fun z h => ⟨z, h⟩
  exact key x h
end Go.Proofs.YtffpeieapadocaaGreatDoor.Ev
set_option maxRecDepth 10000
set_option maxHeartbeats 16000000
namespace Go.Proofs.YtffpeieapadocaaGreatDoor.Ev
open Go
noncomputable def b55_1 : CC := (.reg [⟨(some (.l (.l .h))), .q (.mv (.t .h)), none⟩, ⟨(some (.r (.l .h))), .q (.eq false .slice true (.t (.l (.l .h))) (.c .l0)), none⟩])
theorem w55_1 (k : Kn) (s : St) (R : Ex → St → Prop) : Wp b55_1 k s R = Wp (.reg [⟨(some (.l (.l .h))), .q (.mv (.t .h)), none⟩, ⟨(some (.r (.l .h))), .q (.eq false .slice true (.t (.l (.l .h))) (.c .l0)), none⟩]) k s R := rfl
noncomputable def b55_2 : CC := (.seq (.reg [⟨(some (.r .h)), .q (.mv (.c .l0)), none⟩]) .ret)
theorem w55_2 (k : Kn) (s : St) (R : Ex → St → Prop) : Wp b55_2 k s R = Wp (.seq (.reg [⟨(some (.r .h)), .q (.mv (.c .l0)), none⟩]) .ret) k s R := rfl
noncomputable def b55_3 : CC := (.reg [⟨(some (.l (.r .h))), .a (.bsl 5 0 1 [(.i .u8 0)] []), none⟩, ⟨(some (.r (.r .h))), .q (.mv (.t .h)), none⟩, ⟨(some (.l (.l (.l .h)))), .e (.app 5 1 1 (.t (.l (.r .h))) (.t (.r (.r .h)))), none⟩, ⟨(some (.r .h)), .q (.mv (.t (.l (.l (.l .h))))), none⟩])
theorem w55_3 (k : Kn) (s : St) (R : Ex → St → Prop) : Wp b55_3 k s R = Wp (.reg [⟨(some (.l (.r .h))), .a (.bsl 5 0 1 [(.i .u8 0)] []), none⟩, ⟨(some (.r (.r .h))), .q (.mv (.t .h)), none⟩, ⟨(some (.l (.l (.l .h)))), .e (.app 5 1 1 (.t (.l (.r .h))) (.t (.r (.r .h)))), none⟩, ⟨(some (.r .h)), .q (.mv (.t (.l (.l (.l .h))))), none⟩]) k s R := rfl
noncomputable def b55_4 : CC := (.seq (.seq b55_1 (.cond (.t (.r (.l .h))) b55_2 .skip)) (.seq b55_3 .ret))
theorem w55_4 (k : Kn) (s : St) (R : Ex → St → Prop) : Wp b55_4 k s R = Wp (.seq (.seq b55_1 (.cond (.t (.r (.l .h))) b55_2 .skip)) (.seq b55_3 .ret)) k s R := rfl
noncomputable def b55_5 : CC := (.seq (.reg [⟨(some (.r .h)), .q (.mv (.c .l0)), none⟩]) b55_4)
theorem w55_5 (k : Kn) (s : St) (R : Ex → St → Prop) : Wp b55_5 k s R = Wp (.seq (.reg [⟨(some (.r .h)), .q (.mv (.c .l0)), none⟩]) b55_4) k s R := rfl
noncomputable def c55 : CF := .mk 4 [.t (.r .h)] b55_5
theorem e55 (v0 : V) : argTr 4 [v0] = (.n (.n (.n (.n .e none .e) none (.n .e none .e)) none (.n (.n .e none .e) none (.n .e none .e))) (some v0) (.n (.n (.n .e none .e) none (.n .e none .e)) none (.n (.n .e none .e) none (.n .e none .e)))) := rfl
noncomputable def b35_1 : CC := (.reg [⟨(some (.r (.l .h))), .q (.mv (.t .h)), none⟩, ⟨(some (.l (.r .h))), .e (.call 55 [(.t (.r (.l .h)))]), none⟩, ⟨(some (.l (.l .h))), .a (.al 27 [.l0]), none⟩, ⟨none, .e (.st 1 (.t (.l (.l .h))) (.t (.l (.r .h)))), none⟩])
theorem w35_1 (k : Kn) (s : St) (R : Ex → St → Prop) : Wp b35_1 k s R = Wp (.reg [⟨(some (.r (.l .h))), .q (.mv (.t .h)), none⟩, ⟨(some (.l (.r .h))), .e (.call 55 [(.t (.r (.l .h)))]), none⟩, ⟨(some (.l (.l .h))), .a (.al 27 [.l0]), none⟩, ⟨none, .e (.st 1 (.t (.l (.l .h))) (.t (.l (.r .h)))), none⟩]) k s R := rfl
noncomputable def b35_2 : CC := (.reg [⟨(some (.r (.r .h))), .q (.mkf 56 [] [(.t (.l (.l .h)))]), none⟩, ⟨(some (.r .h)), .q (.mv (.t (.r (.r .h)))), none⟩])
theorem w35_2 (k : Kn) (s : St) (R : Ex → St → Prop) : Wp b35_2 k s R = Wp (.reg [⟨(some (.r (.r .h))), .q (.mkf 56 [] [(.t (.l (.l .h)))]), none⟩, ⟨(some (.r .h)), .q (.mv (.t (.r (.r .h)))), none⟩]) k s R := rfl
noncomputable def b35_3 : CC := (.seq (.reg [⟨(some (.r .h)), .q (.mv (.c .f0)), none⟩]) (.seq b35_1 (.seq b35_2 .ret)))
theorem w35_3 (k : Kn) (s : St) (R : Ex → St → Prop) : Wp b35_3 k s R = Wp (.seq (.reg [⟨(some (.r .h)), .q (.mv (.c .f0)), none⟩]) (.seq b35_1 (.seq b35_2 .ret))) k s R := rfl
noncomputable def c35 : CF := .mk 3 [.t (.r .h)] b35_3
theorem e35 (v0 : V) : argTr 3 [v0] = (.n (.n (.n .e none .e) none (.n .e none .e)) (some v0) (.n (.n .e none .e) none (.n .e none .e))) := rfl
noncomputable def b36_1 : CC := (.reg [⟨(some (.r (.l .h))), .q (.mv (.c (.i .i64 0))), none⟩])
theorem w36_1 (k : Kn) (s : St) (R : Ex → St → Prop) : Wp b36_1 k s R = Wp (.reg [⟨(some (.r (.l .h))), .q (.mv (.c (.i .i64 0))), none⟩]) k s R := rfl
noncomputable def b36_2 : CC := (.reg [⟨(some (.l (.l (.l .h)))), .q (.mv (.t (.r (.l .h)))), none⟩, ⟨(some (.r (.l (.l .h)))), .q (.bi .add (.t (.l (.l (.l .h)))) (.c (.i .i64 4))), none⟩, ⟨(some (.l (.r (.l .h)))), .q (.mv (.t .h)), none⟩, ⟨(some (.r (.r (.l .h)))), .q (.ln .slice (.t (.l (.r (.l .h))))), none⟩, ⟨(some (.l (.l (.r .h)))), .q (.bi .leq (.t (.r (.l (.l .h)))) (.t (.r (.r (.l .h))))), none⟩])
theorem w36_2 (k : Kn) (s : St) (R : Ex → St → Prop) : Wp b36_2 k s R = Wp (.reg [⟨(some (.l (.l (.l .h)))), .q (.mv (.t (.r (.l .h)))), none⟩, ⟨(some (.r (.l (.l .h)))), .q (.bi .add (.t (.l (.l (.l .h)))) (.c (.i .i64 4))), none⟩, ⟨(some (.l (.r (.l .h)))), .q (.mv (.t .h)), none⟩, ⟨(some (.r (.r (.l .h)))), .q (.ln .slice (.t (.l (.r (.l .h))))), none⟩, ⟨(some (.l (.l (.r .h)))), .q (.bi .leq (.t (.r (.l (.l .h)))) (.t (.r (.r (.l .h))))), none⟩]) k s R := rfl
noncomputable def b36_3 : CC := (.reg [⟨(some (.l (.l (.l (.l .h))))), .q (.mv (.t .h)), none⟩, ⟨(some (.r (.l (.l (.l .h))))), .q (.mv (.t (.r (.l .h)))), none⟩, ⟨(some (.l (.r (.l (.l .h))))), .q (.mv (.t (.r (.l .h)))), none⟩, ⟨(some (.r (.r (.l (.l .h))))), .q (.bi .add (.t (.l (.r (.l (.l .h))))) (.c (.i .i64 4))), none⟩, ⟨(some (.l (.l (.r (.l .h))))), .q (.slL 1 (.t (.l (.l (.l (.l .h))))) (some (.t (.r (.l (.l (.l .h)))))) (some (.t (.r (.r (.l (.l .h)))))) none), none⟩, ⟨(some (.r (.l (.r (.l .h))))), .e (.call 34 [(.t (.l (.l (.r (.l .h)))))]), none⟩, ⟨(some (.r (.r (.r .h)))), .q (.mv (.t (.r (.l (.r (.l .h)))))), none⟩, ⟨(some (.l (.r (.r (.l .h))))), .q (.ex 0 (.t (.r (.r (.r .h))))), none⟩, ⟨(some (.r (.r (.r (.l .h))))), .q (.ex 1 (.t (.r (.r (.r .h))))), none⟩, ⟨(some (.l (.r .h))), .a (.al 26 [(.i .i64 0), (.i .i64 0), (.i .i64 0), (.i .i64 0), (.i .i64 0)]), none⟩, ⟨none, .e (.st 5 (.t (.l (.r .h))) (.t (.l (.r (.r (.l .h)))))), none⟩, ⟨(some (.r (.r .h))), .q (.mv (.t (.r (.r (.r (.l .h)))))), none⟩])
theorem w36_3 (k : Kn) (s : St) (R : Ex → St → Prop) : Wp b36_3 k s R = Wp (.reg [⟨(some (.l (.l (.l (.l .h))))), .q (.mv (.t .h)), none⟩, ⟨(some (.r (.l (.l (.l .h))))), .q (.mv (.t (.r (.l .h)))), none⟩, ⟨(some (.l (.r (.l (.l .h))))), .q (.mv (.t (.r (.l .h)))), none⟩, ⟨(some (.r (.r (.l (.l .h))))), .q (.bi .add (.t (.l (.r (.l (.l .h))))) (.c (.i .i64 4))), none⟩, ⟨(some (.l (.l (.r (.l .h))))), .q (.slL 1 (.t (.l (.l (.l (.l .h))))) (some (.t (.r (.l (.l (.l .h)))))) (some (.t (.r (.r (.l (.l .h)))))) none), none⟩, ⟨(some (.r (.l (.r (.l .h))))), .e (.call 34 [(.t (.l (.l (.r (.l .h)))))]), none⟩, ⟨(some (.r (.r (.r .h)))), .q (.mv (.t (.r (.l (.r (.l .h)))))), none⟩, ⟨(some (.l (.r (.r (.l .h))))), .q (.ex 0 (.t (.r (.r (.r .h))))), none⟩, ⟨(some (.r (.r (.r (.l .h))))), .q (.ex 1 (.t (.r (.r (.r .h))))), none⟩, ⟨(some (.l (.r .h))), .a (.al 26 [(.i .i64 0), (.i .i64 0), (.i .i64 0), (.i .i64 0), (.i .i64 0)]), none⟩, ⟨none, .e (.st 5 (.t (.l (.r .h))) (.t (.l (.r (.r (.l .h)))))), none⟩, ⟨(some (.r (.r .h))), .q (.mv (.t (.r (.r (.r (.l .h)))))), none⟩]) k s R := rfl
noncomputable def b36_4 : CC := (.reg [⟨(some (.l (.l (.l (.r .h))))), .q (.mv (.t (.r (.r .h)))), none⟩, ⟨(some (.r (.l (.l (.r .h))))), .q (.bi .neq (.t (.l (.l (.l (.r .h))))) (.c (.i .i64 0))), none⟩])
theorem w36_4 (k : Kn) (s : St) (R : Ex → St → Prop) : Wp b36_4 k s R = Wp (.reg [⟨(some (.l (.l (.l (.r .h))))), .q (.mv (.t (.r (.r .h)))), none⟩, ⟨(some (.r (.l (.l (.r .h))))), .q (.bi .neq (.t (.l (.l (.l (.r .h))))) (.c (.i .i64 0))), none⟩]) k s R := rfl
noncomputable def b36_5 : CC := (.reg [⟨(some (.l (.r (.l (.r .h))))), .q (.mv (.t (.l (.l .h)))), none⟩, ⟨(some (.r .h)), .q (.mv (.t (.l (.r (.l (.r .h)))))), none⟩])
theorem w36_5 (k : Kn) (s : St) (R : Ex → St → Prop) : Wp b36_5 k s R = Wp (.reg [⟨(some (.l (.r (.l (.r .h))))), .q (.mv (.t (.l (.l .h)))), none⟩, ⟨(some (.r .h)), .q (.mv (.t (.l (.r (.l (.r .h)))))), none⟩]) k s R := rfl
noncomputable def b36_6 : CC := (.seq b36_4 (.cond (.t (.r (.l (.l (.r .h))))) (.seq b36_5 .ret) .skip))
theorem w36_6 (k : Kn) (s : St) (R : Ex → St → Prop) : Wp b36_6 k s R = Wp (.seq b36_4 (.cond (.t (.r (.l (.l (.r .h))))) (.seq b36_5 .ret) .skip)) k s R := rfl
noncomputable def b36_7 : CC := (.reg [⟨(some (.r (.r (.l (.r .h))))), .q (.mv (.t (.l (.l .h)))), none⟩, ⟨(some (.l (.l (.r (.r .h))))), .q (.ldn 5 (.t (.l (.r .h)))), none⟩, ⟨(some (.r (.l (.r (.r .h))))), .a (.bsl 26 1 5 [(.i .i64 0), (.i .i64 0), (.i .i64 0), (.i .i64 0), (.i .i64 0)] [(0, (.t (.l (.l (.r (.r .h))))))]), none⟩, ⟨(some (.l (.r (.r (.r .h))))), .e (.app 26 5 40 (.t (.r (.r (.l (.r .h))))) (.t (.r (.l (.r (.r .h)))))), none⟩, ⟨(some (.l (.l .h))), .q (.mv (.t (.l (.r (.r (.r .h)))))), none⟩])
theorem w36_7 (k : Kn) (s : St) (R : Ex → St → Prop) : Wp b36_7 k s R = Wp (.reg [⟨(some (.r (.r (.l (.r .h))))), .q (.mv (.t (.l (.l .h)))), none⟩, ⟨(some (.l (.l (.r (.r .h))))), .q (.ldn 5 (.t (.l (.r .h)))), none⟩, ⟨(some (.r (.l (.r (.r .h))))), .a (.bsl 26 1 5 [(.i .i64 0), (.i .i64 0), (.i .i64 0), (.i .i64 0), (.i .i64 0)] [(0, (.t (.l (.l (.r (.r .h))))))]), none⟩, ⟨(some (.l (.r (.r (.r .h))))), .e (.app 26 5 40 (.t (.r (.r (.l (.r .h))))) (.t (.r (.l (.r (.r .h)))))), none⟩, ⟨(some (.l (.l .h))), .q (.mv (.t (.l (.r (.r (.r .h)))))), none⟩]) k s R := rfl
noncomputable def b36_8 : CC := (.reg [⟨(some (.r (.l (.r .h)))), .q (.mv (.t (.r (.l .h)))), none⟩, ⟨(some (.l (.r (.r .h)))), .q (.bi .add (.t (.r (.l (.r .h)))) (.c (.i .i64 4))), none⟩, ⟨(some (.r (.l .h))), .q (.mv (.t (.l (.r (.r .h))))), none⟩])
theorem w36_8 (k : Kn) (s : St) (R : Ex → St → Prop) : Wp b36_8 k s R = Wp (.reg [⟨(some (.r (.l (.r .h)))), .q (.mv (.t (.r (.l .h)))), none⟩, ⟨(some (.l (.r (.r .h)))), .q (.bi .add (.t (.r (.l (.r .h)))) (.c (.i .i64 4))), none⟩, ⟨(some (.r (.l .h))), .q (.mv (.t (.l (.r (.r .h))))), none⟩]) k s R := rfl
noncomputable def b36_9 : CC := (.seq (.seq b36_2 (.cond (.t (.l (.l (.r .h)))) .skip (.exit 0))) (.seq (.block 1 (.seq b36_3 (.seq b36_6 b36_7))) b36_8))
theorem w36_9 (k : Kn) (s : St) (R : Ex → St → Prop) : Wp b36_9 k s R = Wp (.seq (.seq b36_2 (.cond (.t (.l (.l (.r .h)))) .skip (.exit 0))) (.seq (.block 1 (.seq b36_3 (.seq b36_6 b36_7))) b36_8)) k s R := rfl
noncomputable def b36_10 : CC := (.reg [⟨(some (.r (.r (.r (.r .h))))), .q (.mv (.t (.l (.l .h)))), none⟩, ⟨(some (.r .h)), .q (.mv (.t (.r (.r (.r (.r .h)))))), none⟩])
theorem w36_10 (k : Kn) (s : St) (R : Ex → St → Prop) : Wp b36_10 k s R = Wp (.reg [⟨(some (.r (.r (.r (.r .h))))), .q (.mv (.t (.l (.l .h)))), none⟩, ⟨(some (.r .h)), .q (.mv (.t (.r (.r (.r (.r .h)))))), none⟩]) k s R := rfl
noncomputable def b36_11 : CC := (.seq (.seq b36_1 (.block 0 (.loop b36_9))) (.seq b36_10 .ret))
theorem w36_11 (k : Kn) (s : St) (R : Ex → St → Prop) : Wp b36_11 k s R = Wp (.seq (.seq b36_1 (.block 0 (.loop b36_9))) (.seq b36_10 .ret)) k s R := rfl
noncomputable def b36_12 : CC := (.seq (.reg [⟨(some (.l (.l .h))), .q (.mv (.c .l0)), none⟩]) b36_11)
theorem w36_12 (k : Kn) (s : St) (R : Ex → St → Prop) : Wp b36_12 k s R = Wp (.seq (.reg [⟨(some (.l (.l .h))), .q (.mv (.c .l0)), none⟩]) b36_11) k s R := rfl
noncomputable def b36_13 : CC := (.seq (.reg [⟨(some (.r .h)), .q (.mv (.c .l0)), none⟩]) b36_12)
theorem w36_13 (k : Kn) (s : St) (R : Ex → St → Prop) : Wp b36_13 k s R = Wp (.seq (.reg [⟨(some (.r .h)), .q (.mv (.c .l0)), none⟩]) b36_12) k s R := rfl
noncomputable def c36 : CF := .mk 5 [.t (.r .h)] b36_13
theorem e36 (v0 : V) : argTr 5 [v0] = (.n (.n (.n (.n (.n .e none .e) none (.n .e none .e)) none (.n (.n .e none .e) none (.n .e none .e))) none (.n (.n (.n .e none .e) none (.n .e none .e)) none (.n (.n .e none .e) none (.n .e none .e)))) (some v0) (.n (.n (.n (.n .e none .e) none (.n .e none .e)) none (.n (.n .e none .e) none (.n .e none .e))) none (.n (.n (.n .e none .e) none (.n .e none .e)) none (.n (.n .e none .e) none (.n .e none .e))))) := rfl
theorem nil_sl {F : RO} {M : Mem} {c sz : Nat} {v : V} {es : List (List V)} (h : SlAt F M c sz v es) : (v = .l0 ∧ es = []) ∨ (v ≠ .l0 ∧ nilL v = some false) := by
  rcases h with ⟨_, ⟨rfl, rfl | ⟨b, o0, o, rfl⟩⟩ | ⟨b, o, ⟨cap, _, rfl⟩ | ⟨el, kn, _, rfl⟩, _⟩⟩
  · exact .inl ⟨rfl, rfl⟩
  · exact .inr ⟨(by intro h; cases h), rfl⟩
  · exact .inr ⟨(by intro h; cases h), rfl⟩
  · exact .inr ⟨(by intro h; cases h), rfl⟩
theorem eqV_nilT {F : RO} (lit : Bool) (M : Mem) : eqV F M .slice lit .l0 .l0 = some true := rfl
theorem eqV_nilF {F : RO} {v : V} (h : nilL v = some false) (lit : Bool) (M : Mem) : eqV F M .slice lit v .l0 = some false := by
  show nilEq true (nilL v) (nilL .l0) = _
  rw [h]; rfl
theorem appV_00 {F : RO} {M0 M : Mem} {c0 c b ty sz bytes : Nat} {y : V} {ns : List (List V)} (hg : Gr c0 M0 c M) (hsz : 0 < sz) (hy : SlAt F M c sz y ns) (h1 : allOne ns.flatten = true) (hr : room ns.length bytes = true) (hb : b < c) :
    RTo (appV F M c ty sz bytes (.l b 0 0 0) y) fun v' M' c' => SlOwn F M' b c' sz v' ns ∧ Gr c0 M0 c' M' ∧ c ≤ c' ∧ v' ≠ .l0 := by
  unfold appV
  rw [split_sl hsz hy]
  have hnl := flat_len hy.1
  have e1 : e_app1 F M c ty sz bytes (.l b 0 0 0) (some (ns.length, ns.flatten)) = app F M c ty sz bytes (.l b 0 0 0) ns.length ns.flatten := by
    show (bif allOne ns.flatten && Nat.beq ns.flatten.length (Nat.mul ns.length sz) then _ else _) = _
    rw [h1, beqN, decide_eq_true (show ns.flatten.length = Nat.mul ns.length sz from hnl)]; rfl
  rw [e1]
  by_cases hz : ns = []
  · subst hz
    refine ⟨.l b 0 0 0, M, c, rfl, fun M' _ => ⟨fun e he => (by cases he), .inr ⟨b, 0, .inl ⟨0, Nat.le_refl _, rfl⟩, hb, fun k hk => (by cases hk)⟩⟩, hg, Nat.le_refl _, (by intro h; cases h)⟩
  · have hn0 : ns.length ≠ 0 := fun e => hz (List.length_eq_zero_iff.1 e)
    have e2 : app F M c ty sz bytes (.l b 0 0 0) ns.length ns.flatten = grown M c ty bytes ns.length 0 false ns.flatten := by
      unfold app
      rw [beqN, decide_eq_false hn0, cond_false]
      show app_l F M c ty sz bytes b 0 0 0 ns.length ns.flatten = _
      unfold app_l
      rw [bleN, decide_eq_false (show ¬ Nat.add 0 ns.length ≤ 0 by show ¬ 0 + ns.length ≤ 0; omega), cond_false]
      show grownL M c ty bytes (0 + ns.length) 0 false ns.flatten (some ([], none)) = _
      rw [Nat.zero_add]; rfl
    refine ⟨_, _, _, e2.trans (grown_eq M c ty bytes ns.length ns.flatten hr), fun M' hM' => ⟨hy.1, .inr ⟨c, 0, .inr ⟨0, ns.length, by omega, rfl⟩, by omega, (rowAt_U (by rw [hM' c (by omega) (by omega)]; exact get_same _ _ _)).cells⟩⟩, hg.set c _ hg.le (by omega) (by omega), by omega, (by intro h; cases h)⟩
theorem r55 (Φ : Nat → Option CF) (h : Φ 55 = some c55) {F : RO} {M : Mem} {c : Nat} {v : V} {l : List UInt8} (ok : Okm F M c) (hs : SlB F M c v l) (hl : l.length ≤ 4000) :
    Calls Φ F 55 [v] M c fun r M' c' => SlOwn F M' c c' 1 r (l.map fun x => [bV x]) ∧ Gr c M c' M' := by
  refine calls_walk h ?_
  rcases nil_sl hs with ⟨rfl, hn⟩ | ⟨hv, hn⟩
  · simp only [wp_seq, seqQ_nrm, seqQ_ret, wp_reg, wp_ret, wo_nil, xo_q, wp_condT, putO, v_mv, ev_t, ev_c, Tr.setP_h, Tr.setP_l, Tr.setP_r, getT_h, getT_l, getT_r, endQ_ret, endO, resV_nil', resV_t, consO_some, oneV_one, negO_F, v_eq, e55, w55_1, w55_2, w55_4, w55_5, eqV_nilT]
    exact ⟨fun M' _ => ⟨hs.1, .inl ⟨hn, .inl rfl⟩⟩, Gr.refl ok⟩
  · have q := fun lit M => eqV_nilF (F := F) hn lit M
    simp only [wp_seq, seqQ_nrm, wp_reg, wp_skip, wo_nil, xo_q, xo_a, xo_e, wp_condF, putO, putA, v_mv, ev_t, ev_c, Tr.setP_h, Tr.setP_l, Tr.setP_r, getT_h, getT_l, getT_r, if_true, List.length_nil, and_self, negO_F, v_eq, x_app_eq, a_bsl_w, evPs_nil, partsR_nil, bslO_some, Option.isSome_some, e55, w55_1, w55_3, w55_4, w55_5, q]
    have hg := fun x => (Gr.refl ok).set c x (Nat.le_refl _) (Nat.lt_succ_self _) (Nat.le_succ _)
    refine putE_to ((appV_00 (M0 := M) (c0 := c) (hg _) Nat.one_pos (hs.grow (hg _)) (allOne_sl l) (room_of (by simp; omega) (by simp; omega)) (Nat.lt_succ_self _)).mono ?_)
    rintro v1 M1 c1 ⟨h1, h2, _, _⟩
    simp only [seqQ_nrm, wp_ret, wo_nil, xo_q, putO, v_mv, ev_t, Tr.setP_h, Tr.setP_l, Tr.setP_r, getT_h, getT_l, getT_r, endQ_ret, endO, resV_nil', resV_t, consO_some, oneV_one]
    exact ⟨h1, h2⟩
theorem r35 (Φ : Nat → Option CF) (h : Φ 35 = some c35) (h55 : Φ 55 = some c55) {F : RO} {M : Mem} {c : Nat} {v : V} {l : List UInt8} (ok : Okm F M c) (hs : SlB F M c v l) (hl : l.length ≤ 4000) :
    Calls Φ F 35 [v] M c fun r M' c' => ∃ pb w, r = .f 56 [] [.p pb 0] ∧ c ≤ pb ∧ pb < c' ∧ M'.get pb = some (rowB 27 [w]) ∧ SlOwn F M' c c' 1 w (l.map fun x => [bV x]) ∧ Gr c M c' M' := by
  refine calls_walk h ?_
  simp only [wp_seq, seqQ_nrm, wp_reg, wo_nil, xo_q, xo_e, putO, v_mv, xo_call, ev_t, ev_c, evs_nil, evs_cons, Tr.setP_h, Tr.setP_l, Tr.setP_r, getT_h, getT_l, getT_r, e35, w35_1, w35_3]
  refine putE_to ((r55 Φ h55 ok hs hl).mono ?_)
  rintro v1 M1 c1 ⟨hs1, hg1⟩
  have h1 : isOne v1 = true := by
    rcases hs1.sl with ⟨_, ⟨_, rfl | ⟨b, o0, o, rfl⟩⟩ | ⟨b, o, ⟨cap, _, rfl⟩ | ⟨el, kn, _, rfl⟩, _⟩⟩ <;> rfl
  have h2 : flatten v1 = [v1] := by
    rcases hs1.sl with ⟨_, ⟨_, rfl | ⟨b, o0, o, rfl⟩⟩ | ⟨b, o, ⟨cap, _, rfl⟩ | ⟨el, kn, _, rfl⟩, _⟩⟩ <;> rfl
  simp only [wp_seq, seqQ_nrm, wp_reg, wp_ret, wo_nil, xo_q, xo_a, xo_e0, putO, putA, putE0, v_mv, e_st_eq, er_some, ev_t, evs_nil, evs_cons, Tr.setP_h, Tr.setP_l, Tr.setP_r, getT_h, getT_l, getT_r, endQ_ret, endO, resV_nil', resV_t, consO_some, oneV_one, if_true, allOne_nil, allOne_cons, isOne_l0, Bool.and_true, over_nil, over_cons, List.set_cons_zero, List.length_cons, List.length_nil, Nat.reduceLeDiff, Nat.zero_add, v_mkf, storeN_same, a_al_eq, w35_2, h1, h2]
  have hg2 := hg1.set c1 (rowB 27 [v1]) hg1.le (Nat.lt_succ_self _) (Nat.le_succ _)
  exact ⟨c1, v1, rfl, hg1.le, Nat.lt_succ_self _, get_same _ _ _, hs1.gr ((Gr.refl (hg1.ok ok)).set c1 _ (Nat.le_refl _) (Nat.lt_succ_self _) (Nat.le_succ _)), hg2⟩
def w4 (a b c d : UInt8) : Nat := a.toNat + 256 * b.toNat + 65536 * c.toNat + 16777216 * d.toNat
def insX (w : Nat) : Ins := ⟨opW w, dW w, aW w, bW w, iW w⟩
def parseL : List UInt8 → List Ins
  | a :: b :: c :: d :: r => if okW (w4 a b c d) = true then insX (w4 a b c d) :: parseL r else []
  | _ => []
theorem parseL_4 (a b c d : UInt8) (r : List UInt8) : parseL (a :: b :: c :: d :: r) = if okW (w4 a b c d) = true then insX (w4 a b c d) :: parseL r else [] := by rw [parseL]
theorem parseL_short {l : List UInt8} (h : l.length < 4) : parseL l = [] := by
  match l, h with
  | [], _ => rfl
  | [_], _ => rfl
  | [_, _], _ => rfl
  | [_, _, _], _ => rfl
theorem readV_ok {a b c d : UInt8} (h : okW (w4 a b c d) = true) : readV [a, b, c, d] = .t [.g (insV (insX (w4 a b c d))), .i .i64 0] := by
  show ofV (w4 a b c d) = _
  rw [ofV_eq]
  simp only [okI, erW, h, if_true]
  rfl
theorem readV_no {a b c d : UInt8} (h : ¬ okW (w4 a b c d) = true) : readV [a, b, c, d] = lenRV := by
  show ofV (w4 a b c d) = _
  rw [ofV_eq]
  simp only [okI, erW, h]
  rfl
theorem four_of {l : List UInt8} {k : Nat} (h : 4 * k + 4 ≤ l.length) : ∃ a b c d, (l.take (4 * k + 4)).drop (4 * k) = [a, b, c, d] ∧ l.drop (4 * k) = a :: b :: c :: d :: l.drop (4 * (k + 1)) := by
  have h1 : ((l.take (4 * k + 4)).drop (4 * k)).length = 4 := by simp; omega
  obtain ⟨a, b, c, d, e⟩ := list4 h1
  refine ⟨a, b, c, d, e, ?_⟩
  have e2 : l.drop (4 * k) = (l.drop (4 * k)).take 4 ++ (l.drop (4 * k)).drop 4 := (List.take_append_drop _ _).symm
  rw [List.drop_take, show 4 * k + 4 - 4 * k = 4 by omega] at e
  rw [e, List.drop_drop] at e2
  rw [e2, show 4 * (k + 1) = 4 * k + 4 by omega]; rfl
theorem parseL_len : ∀ (n : Nat) (l : List UInt8), l.length ≤ n → 4 * (parseL l).length ≤ l.length
  | 0, l, h => by
    rw [parseL_short (by omega)]; simp
  | n + 1, l, h => by
    by_cases h4 : l.length < 4
    · rw [parseL_short h4]; simp
    · obtain ⟨a, b, c, d, r, rfl⟩ : ∃ a b c d r, l = a :: b :: c :: d :: r := by
        match l, h4 with
        | a :: b :: c :: d :: r, _ => exact ⟨a, b, c, d, r, rfl⟩
        | [], h4 => exact absurd (by decide) h4
        | [_], h4 => exact absurd (by simp) h4
        | [_, _], h4 => exact absurd (by simp) h4
        | [_, _, _], h4 => exact absurd (by simp) h4
      rw [parseL_4]
      split
      · have := parseL_len n r (by simp at h; omega)
        simp only [List.length_cons]; omega
      · simp
theorem r36 (Φ : Nat → Option CF) (h : Φ 36 = some c36) (h32 : Φ 32 = some (.orc (pureO h32))) (h34 : Φ 34 = some c34) {F : RO} {M : Mem} {c : Nat} {v : V} {l : List UInt8} (ok : Okm F M c) (hs : SlB F M c v l) (hl : l.length ≤ 4000) :
    Calls Φ F 36 [v] M c fun r M' c' => SlOwn F M' c c' 5 r ((parseL l).map insV) ∧ Gr c M c' M' := by
  refine calls_walk h ?_
  have hln := hs.len
  simp only [wp_seq, seqQ_nrm, wp_reg, wp_block, wo_nil, xo_q, putO, v_mv, ev_c, Tr.setP_h, Tr.setP_l, Tr.setP_r, e36, w36_1, w36_11, w36_12, w36_13]
  obtain ⟨I, hI⟩ : ∃ I : Nat → St → Prop, ∀ n s, I n s ↔ (∃ (k : Nat) (M1 : Mem) (c1 bw : Nat) (acc : V) (pre : List Ins) (u : List (Option V)), n = l.length - 4 * k ∧ 4 * k ≤ l.length ∧ s = .mk ((.n (.n (.n (.n (.n .e (uO u 15) .e) (uO u 7) (.n .e (uO u 23) .e)) (some (acc)) (.n (.n .e (uO u 19) .e) (uO u 11) (.n .e (uO u 27) .e))) (uO u 1) (.n (.n (.n .e (uO u 17) .e) (uO u 9) (.n .e (uO u 25) .e)) (uO u 5) (.n (.n .e (uO u 21) .e) (uO u 13) (.n .e (uO u 29) .e)))) (some (v)) (.n (.n (.n (.n .e (uO u 16) .e) (uO u 8) (.n .e (uO u 24) .e)) (some (.i .i64 ((4 * k : Nat) : Int))) (.n (.n .e (uO u 20) .e) (uO u 12) (.n .e (uO u 28) .e))) (uO u 2) (.n (.n (.n .e (uO u 18) .e) (uO u 10) (.n .e (uO u 26) .e)) (uO u 6) (.n (.n .e (uO u 22) .e) (uO u 14) (.n .e (uO u 30) .e)))))) [] M1 c1 ∧ pre.length = k ∧ pre ++ parseL (l.drop (4 * k)) = parseL l ∧ Gr c M c1 M1 ∧ AccAt M1 c c1 bw 26 5 acc (pre.map insV)) := ⟨fun n s => _, fun _ _ => Iff.rfl⟩
  refine wp_while I ?_ l.length _ ((hI _ _).2 ⟨0, _, _, c, _, [], [none, _, _, none, none, _, _, _, _, _, _, _, _, _, _, _, _, _, _, _, _, _, _, _, _, _, _, _, _, _, _], rfl, Nat.zero_le _, rfl, rfl, rfl, Gr.refl ok, AccAt.nil⟩)
  intro n s hIs
  obtain ⟨k, M1, c1, bw, acc, pre, u, rfl, hk, rfl, hpl, hpre, hg, hacc⟩ := (hI _ _).1 hIs
  clear hIs
  have q8 : biV .add (.i .i64 ((4 * k : Nat) : Int)) (.i .i64 4) = some (.i .i64 ((4 * k + 4 : Nat) : Int)) := by rw [i64_add _ _ (by omega) (by omega)]; simp
  by_cases hlt : 4 * k + 4 ≤ l.length
  · have hd : decide (((4 * k + 4 : Nat) : Int) ≤ (l.length : Int)) = true := decide_eq_true (by omega)
    obtain ⟨a0, a1, a2, a3, hfour, hdrop⟩ := four_of hlt
    obtain ⟨v', e1, -, -, -, hs'⟩ := slLV_of (hs.grow hg) (show 4 * k ≤ 4 * k + 4 by omega) (by rw [List.length_map]; exact hlt)
    have hs' : SlB F M1 c1 v' [a0, a1, a2, a3] := by
      rw [← hfour]
      unfold SlB
      rw [List.map_drop, List.map_take]; exact hs'
    simp only [lnSl, wp_seq, seqQ_nrm, wp_reg, wp_skip, wp_block, wo_nil, xo_q, xo_e, wp_condT, putO, v_mv, v_bi, bi_leq, v_ln, xo_call, ev_t, ev_c, evs_nil, evs_cons, Tr.setP_h, Tr.setP_l, Tr.setP_r, getT_h, getT_l, getT_r, Option.map_some, v_slL, Option.map_none, w36_2, w36_3, w36_9, hln, hd, q8, e1]
    refine putE_to ((r34 Φ h34 h32 (hg.ok ok) hs').mono ?_)
    rintro v2 M2 c2 ⟨rfl, hg2⟩
    rw [hdrop, parseL_4] at hpre
    have hgg := hg.trans hg2
    have hacc2 := hacc.gr hg2
    have hgx := fun x => hgg.set c2 x hgg.le (Nat.lt_succ_self _) (Nat.le_succ _)
    by_cases hok : okW (w4 a0 a1 a2 a3) = true
    · rw [readV_ok hok]
      rw [if_pos hok] at hpre
      have hins : insV (insX (w4 a0 a1 a2 a3)) = [.i .i64 (insX (w4 a0 a1 a2 a3)).op, .i .i64 (insX (w4 a0 a1 a2 a3)).d, .i .i64 (insX (w4 a0 a1 a2 a3)).a, .i .i64 (insX (w4 a0 a1 a2 a3)).b, .i .i64 (insX (w4 a0 a1 a2 a3)).i] := rfl
      have hlen2 : 4 * pre.length ≤ l.length := by omega
      generalize insX (w4 a0 a1 a2 a3) = x at hpre hins
      simp only [wp_seq, seqQ_nrm, wp_reg, wp_skip, wo_nil, xo_q, xo_a, xo_e, xo_e0, wp_condF, putO, putA, putE0, v_mv, v_bi, bi_neq, v_ldn, ldn_p, e_st_eq, er_some, ev_t, ev_c, Tr.setP_h, Tr.setP_l, Tr.setP_r, getT_h, getT_l, getT_r, List.getElem?_cons_zero, List.getElem?_cons_succ, decide_false, if_true, flatten_g, allOne_nil, allOne_cons, isOne_i, Bool.and_true, over_nil, over_cons, List.set_cons_zero, List.set_cons_succ, List.length_cons, List.length_nil, Nat.reduceAdd, Nat.reduceLeDiff, Nat.zero_add, and_self, v_ex, List.nil_append, List.cons_append, loadN_same, storeN_same, a_al_eq, List.drop_zero, List.take_succ_cons, List.take_nil, Option.map_some, Nat.add_assoc, x_app_eq, a_bsl_w, evPs_nil, evPs_cons, partsR_nil, partsR_cons, bslO_some, Option.isSome_some, w36_4, w36_6, w36_7, hins, ne_eq, not_true_eq_false]
      have hacc3 := fun y z => hacc2.up (M' := (M2.set c2 y).set (c2 + 1) z) (c' := c2 + 2) (by omega) (fun hb => by rw [get_ne _ _ (by omega), get_ne _ _ (by omega)])
      have hgy := fun y z => (hgx y).set (c2 + 1) z (by have := hgg.le; omega) (Nat.lt_succ_self _) (Nat.le_succ _)
      refine putE_to ((appV_to (ns := [insV x]) (hacc3 _ _) (hgy _ _) (by decide) (slD (get_same _ _ _) (by omega) (by simp [insV]) rfl) rfl (room_of (by simp; omega) (by simp; omega))).mono ?_)
      rintro v6 M6 c6 ⟨bw', hacc6, hg6, -, -, -⟩
      simp only [seqQ_nrm, wp_reg, blockQ_nrm, wo_nil, xo_q, putO, v_mv, v_bi, ev_t, ev_c, Tr.setP_h, Tr.setP_l, Tr.setP_r, getT_h, getT_l, getT_r, roundQ_nrm, w36_8, q8]
      refine ⟨l.length - 4 * (k + 1), by omega, (hI _ _).2 ⟨k + 1, M6, c6, bw', v6, pre ++ [x], [none, _, _, none, none, _, _, _, _, _, _, _, _, _, _, _, _, _, _, _, _, _, _, _, _, _, _, _, _, _, _], rfl, by omega, rfl, by simp [hpl], ?_, hg6, by rw [List.map_append]; exact hacc6⟩⟩
      rw [List.append_assoc]; exact hpre
    · rw [readV_no hok]
      rw [if_neg hok, List.append_nil] at hpre
      simp only [wp_seq, seqQ_nrm, seqQ_ret, wp_reg, wp_ret, blockQ_ret, wo_nil, xo_q, xo_a, xo_e0, wp_condT, putO, putA, putE0, v_mv, v_bi, bi_neq, e_st_eq, er_some, ev_t, ev_c, Tr.setP_h, Tr.setP_l, Tr.setP_r, getT_h, getT_l, getT_r, Int.reduceEq, List.getElem?_cons_zero, List.getElem?_cons_succ, endQ_ret, endO, resV_nil', resV_t, consO_some, oneV_one, decide_true, if_true, flatten_g, allOne_nil, allOne_cons, isOne_i, Bool.and_true, over_nil, over_cons, List.set_cons_zero, List.set_cons_succ, List.length_cons, List.length_nil, Nat.reduceAdd, Nat.reduceLeDiff, Nat.zero_add, v_ex, storeN_same, a_al_eq, roundQ_ret, w36_4, w36_5, w36_6, lenRV, ne_eq, not_false_eq_true]
      subst hpre
      exact ⟨(hacc2.up (c' := c2 + 1) (by omega) (fun hb => get_ne _ _ (by omega))).own, hgx _⟩
  · have hd : decide (((4 * k + 4 : Nat) : Int) ≤ (l.length : Int)) = false := decide_eq_false (by omega)
    simp only [lnSl, wp_seq, seqQ_nrm, seqQ_ext, wp_reg, wp_ret, wp_exit, blockQ_ext, wo_nil, xo_q, wp_condF, putO, v_mv, v_bi, bi_leq, v_ln, ev_t, ev_c, Tr.setP_h, Tr.setP_l, Tr.setP_r, getT_h, getT_l, getT_r, endQ_ret, endO, resV_nil', resV_t, consO_some, oneV_one, if_true, roundQ_ext, w36_2, w36_9, w36_10, hln, hd, q8]
    rw [parseL_short (by rw [List.length_drop]; omega), List.append_nil] at hpre
    subst hpre
    exact ⟨hacc.own, hg⟩
end Go.Proofs.YtffpeieapadocaaGreatDoor.Ev
set_option maxRecDepth 10000
set_option maxHeartbeats 16000000
namespace Go.Proofs.YtffpeieapadocaaGreatDoor.Ev
open Go
noncomputable def b56_1 : CC := (.reg [⟨(some (.l (.l .h))), .q (.mv (.c (.i .i64 0))), none⟩])
theorem w56_1 (k : Kn) (s : St) (R : Ex → St → Prop) : Wp b56_1 k s R = Wp (.reg [⟨(some (.l (.l .h))), .q (.mv (.c (.i .i64 0))), none⟩]) k s R := rfl
noncomputable def b56_2 : CC := (.reg [⟨(some (.r (.r .h))), .q (.mv (.t (.l (.l .h)))), none⟩, ⟨(some (.l (.l (.l .h)))), .q (.bi .add (.t (.r (.r .h))) (.c (.i .i64 4))), none⟩, ⟨(some (.r (.l (.l .h)))), .q (.ld1 (.t (.l .h))), none⟩, ⟨(some (.l (.r (.l .h)))), .q (.ln .slice (.t (.r (.l (.l .h))))), none⟩, ⟨(some (.r (.r (.l .h)))), .q (.bi .leq (.t (.l (.l (.l .h)))) (.t (.l (.r (.l .h))))), none⟩])
theorem w56_2 (k : Kn) (s : St) (R : Ex → St → Prop) : Wp b56_2 k s R = Wp (.reg [⟨(some (.r (.r .h))), .q (.mv (.t (.l (.l .h)))), none⟩, ⟨(some (.l (.l (.l .h)))), .q (.bi .add (.t (.r (.r .h))) (.c (.i .i64 4))), none⟩, ⟨(some (.r (.l (.l .h)))), .q (.ld1 (.t (.l .h))), none⟩, ⟨(some (.l (.r (.l .h)))), .q (.ln .slice (.t (.r (.l (.l .h))))), none⟩, ⟨(some (.r (.r (.l .h)))), .q (.bi .leq (.t (.l (.l (.l .h)))) (.t (.l (.r (.l .h))))), none⟩]) k s R := rfl
noncomputable def b56_3 : CC := (.reg [⟨(some (.r (.r (.r .h)))), .q (.ld1 (.t (.l .h))), none⟩, ⟨(some (.l (.l (.l (.l .h))))), .q (.mv (.t (.l (.l .h)))), none⟩, ⟨(some (.r (.l (.l (.l .h))))), .q (.mv (.t (.l (.l .h)))), none⟩, ⟨(some (.l (.r (.l (.l .h))))), .q (.bi .add (.t (.r (.l (.l (.l .h))))) (.c (.i .i64 4))), none⟩, ⟨(some (.r (.r (.l (.l .h))))), .q (.slL 1 (.t (.r (.r (.r .h)))) (some (.t (.l (.l (.l (.l .h)))))) (some (.t (.l (.r (.l (.l .h)))))) none), none⟩, ⟨(some (.l (.l (.r (.l .h))))), .e (.call 33 [(.t (.r (.r (.l (.l .h)))))]), none⟩, ⟨(some (.l (.r (.r .h)))), .q (.mv (.t (.l (.l (.r (.l .h)))))), none⟩, ⟨(some (.r (.l (.r (.l .h))))), .q (.ex 0 (.t (.l (.r (.r .h))))), none⟩, ⟨(some (.l (.r (.r (.l .h))))), .q (.ex 1 (.t (.l (.r (.r .h))))), none⟩, ⟨(some (.r (.l .h))), .a (.al 26 [(.i .i64 0), (.i .i64 0), (.i .i64 0), (.i .i64 0), (.i .i64 0)]), none⟩, ⟨none, .e (.st 5 (.t (.r (.l .h))) (.t (.r (.l (.r (.l .h)))))), none⟩, ⟨(some (.l (.r .h))), .q (.mv (.t (.l (.r (.r (.l .h)))))), none⟩])
theorem w56_3 (k : Kn) (s : St) (R : Ex → St → Prop) : Wp b56_3 k s R = Wp (.reg [⟨(some (.r (.r (.r .h)))), .q (.ld1 (.t (.l .h))), none⟩, ⟨(some (.l (.l (.l (.l .h))))), .q (.mv (.t (.l (.l .h)))), none⟩, ⟨(some (.r (.l (.l (.l .h))))), .q (.mv (.t (.l (.l .h)))), none⟩, ⟨(some (.l (.r (.l (.l .h))))), .q (.bi .add (.t (.r (.l (.l (.l .h))))) (.c (.i .i64 4))), none⟩, ⟨(some (.r (.r (.l (.l .h))))), .q (.slL 1 (.t (.r (.r (.r .h)))) (some (.t (.l (.l (.l (.l .h)))))) (some (.t (.l (.r (.l (.l .h)))))) none), none⟩, ⟨(some (.l (.l (.r (.l .h))))), .e (.call 33 [(.t (.r (.r (.l (.l .h)))))]), none⟩, ⟨(some (.l (.r (.r .h)))), .q (.mv (.t (.l (.l (.r (.l .h)))))), none⟩, ⟨(some (.r (.l (.r (.l .h))))), .q (.ex 0 (.t (.l (.r (.r .h))))), none⟩, ⟨(some (.l (.r (.r (.l .h))))), .q (.ex 1 (.t (.l (.r (.r .h))))), none⟩, ⟨(some (.r (.l .h))), .a (.al 26 [(.i .i64 0), (.i .i64 0), (.i .i64 0), (.i .i64 0), (.i .i64 0)]), none⟩, ⟨none, .e (.st 5 (.t (.r (.l .h))) (.t (.r (.l (.r (.l .h)))))), none⟩, ⟨(some (.l (.r .h))), .q (.mv (.t (.l (.r (.r (.l .h)))))), none⟩]) k s R := rfl
noncomputable def b56_4 : CC := (.reg [⟨(some (.r (.r (.r (.l .h))))), .q (.mv (.t (.l (.r .h)))), none⟩, ⟨(some (.l (.l (.l (.r .h))))), .q (.bi .neq (.t (.r (.r (.r (.l .h))))) (.c (.i .i64 0))), none⟩, ⟨(some (.r (.l (.l (.r .h))))), .q (.mv (.t (.l (.l (.l (.r .h)))))), none⟩, ⟨(some (.l (.r (.l (.r .h))))), .q (.mv (.t .h)), (some ((.r (.l (.l (.r .h)))), false))⟩, ⟨(some (.r (.r (.l (.r .h))))), .q (.mv (.t (.l (.l .h)))), (some ((.r (.l (.l (.r .h)))), false))⟩, ⟨(some (.l (.l (.r (.r .h))))), .q (.ldn 5 (.t (.r (.l .h)))), (some ((.r (.l (.l (.r .h)))), false))⟩, ⟨(some (.r (.l (.r (.r .h))))), .e (.cv (.t (.l (.r (.l (.r .h))))) [(.t (.r (.r (.l (.r .h))))), (.t (.l (.l (.r (.r .h)))))]), (some ((.r (.l (.l (.r .h)))), false))⟩, ⟨(some (.l (.r (.r (.r .h))))), .q (.un .not (.t (.r (.l (.r (.r .h)))))), (some ((.r (.l (.l (.r .h)))), false))⟩, ⟨(some (.r (.r (.r (.r .h))))), .q (.pk (.t (.r (.l (.l (.r .h))))) (.c (.b true)) (.t (.l (.r (.r (.r .h)))))), none⟩])
theorem w56_4 (k : Kn) (s : St) (R : Ex → St → Prop) : Wp b56_4 k s R = Wp (.reg [⟨(some (.r (.r (.r (.l .h))))), .q (.mv (.t (.l (.r .h)))), none⟩, ⟨(some (.l (.l (.l (.r .h))))), .q (.bi .neq (.t (.r (.r (.r (.l .h))))) (.c (.i .i64 0))), none⟩, ⟨(some (.r (.l (.l (.r .h))))), .q (.mv (.t (.l (.l (.l (.r .h)))))), none⟩, ⟨(some (.l (.r (.l (.r .h))))), .q (.mv (.t .h)), (some ((.r (.l (.l (.r .h)))), false))⟩, ⟨(some (.r (.r (.l (.r .h))))), .q (.mv (.t (.l (.l .h)))), (some ((.r (.l (.l (.r .h)))), false))⟩, ⟨(some (.l (.l (.r (.r .h))))), .q (.ldn 5 (.t (.r (.l .h)))), (some ((.r (.l (.l (.r .h)))), false))⟩, ⟨(some (.r (.l (.r (.r .h))))), .e (.cv (.t (.l (.r (.l (.r .h))))) [(.t (.r (.r (.l (.r .h))))), (.t (.l (.l (.r (.r .h)))))]), (some ((.r (.l (.l (.r .h)))), false))⟩, ⟨(some (.l (.r (.r (.r .h))))), .q (.un .not (.t (.r (.l (.r (.r .h)))))), (some ((.r (.l (.l (.r .h)))), false))⟩, ⟨(some (.r (.r (.r (.r .h))))), .q (.pk (.t (.r (.l (.l (.r .h))))) (.c (.b true)) (.t (.l (.r (.r (.r .h)))))), none⟩]) k s R := rfl
noncomputable def b56_5 : CC := (.seq b56_3 (.seq b56_4 (.cond (.t (.r (.r (.r (.r .h))))) .ret .skip)))
theorem w56_5 (k : Kn) (s : St) (R : Ex → St → Prop) : Wp b56_5 k s R = Wp (.seq b56_3 (.seq b56_4 (.cond (.t (.r (.r (.r (.r .h))))) .ret .skip))) k s R := rfl
noncomputable def b56_6 : CC := (.reg [⟨(some (.l (.l (.r .h)))), .q (.mv (.t (.l (.l .h)))), none⟩, ⟨(some (.r (.l (.r .h)))), .q (.bi .add (.t (.l (.l (.r .h)))) (.c (.i .i64 4))), none⟩, ⟨(some (.l (.l .h))), .q (.mv (.t (.r (.l (.r .h))))), none⟩])
theorem w56_6 (k : Kn) (s : St) (R : Ex → St → Prop) : Wp b56_6 k s R = Wp (.reg [⟨(some (.l (.l (.r .h)))), .q (.mv (.t (.l (.l .h)))), none⟩, ⟨(some (.r (.l (.r .h)))), .q (.bi .add (.t (.l (.l (.r .h)))) (.c (.i .i64 4))), none⟩, ⟨(some (.l (.l .h))), .q (.mv (.t (.r (.l (.r .h))))), none⟩]) k s R := rfl
noncomputable def b56_7 : CC := (.seq (.seq b56_2 (.cond (.t (.r (.r (.l .h)))) .skip (.exit 0))) (.seq (.block 1 b56_5) b56_6))
theorem w56_7 (k : Kn) (s : St) (R : Ex → St → Prop) : Wp b56_7 k s R = Wp (.seq (.seq b56_2 (.cond (.t (.r (.r (.l .h)))) .skip (.exit 0))) (.seq (.block 1 b56_5) b56_6)) k s R := rfl
noncomputable def c56 : CF := .mk 5 [] (.seq b56_1 (.block 0 (.loop b56_7)))
theorem r56 (Φ : Nat → Option CF) (h : Φ 56 = some c56) (h31 : Φ 31 = some (.orc (pureO h31))) (h33 : Φ 33 = some c33) {F : RO} {M : Mem} {c : Nat} {y w : Nat} {pb : Nat} {v : V} {l : List UInt8} (hl : l.length ≤ 4000) {I : Nat → Mem → Nat → Prop} {J : Mem → Nat → Prop} (h0 : I 0 M c)
    (hI : ∀ k M c, I k M c → Okm F M c ∧ pb < c ∧ M.get pb = some (rowB 27 [v]) ∧ SlB F M c v l)
    (hG : ∀ k M c M' c', I k M c → Gr c M c' M' → I k M' c')
    (hY : ∀ k M c, (hk : k < (parseL l).length) → I k M c → RTo (callV (K Φ none 56 F) (.y y) [.i .i64 ((4 * k : Nat) : Int), .g (insV (parseL l)[k])] M c) fun r M' c' => (r = .b true ∧ I (k + 1) M' c') ∨ (r = .b false ∧ J M' c')) :
    Calls Φ F 56 [.y y, .p pb 0] M c fun _ M' c' => I (parseL l).length M' c' ∨ J M' c' := by
  refine calls_walk h ?_
  simp only [wp_seq, seqQ_nrm, wp_reg, wp_block, wo_nil, xo_q, putO, v_mv, ev_c, w56_1]
  obtain ⟨Iv, hIv⟩ : ∃ Iv : Nat → St → Prop, ∀ n s, Iv n s ↔ (∃ (k : Nat) (M1 : Mem) (c1 : Nat) (u : List (Option V)), n = l.length - 4 * k ∧ 4 * k ≤ l.length ∧ s = .mk ((.n (.n (.n (.n (.n .e (uO u 15) .e) (uO u 7) (.n .e (uO u 23) .e)) (some (.i .i64 ((4 * k : Nat) : Int))) (.n (.n .e (uO u 19) .e) (uO u 11) (.n .e (uO u 27) .e))) (some (.p pb 0)) (.n (.n (.n .e (uO u 17) .e) (uO u 9) (.n .e (uO u 25) .e)) (uO u 5) (.n (.n .e (uO u 21) .e) (uO u 13) (.n .e (uO u 29) .e)))) (some (.y y)) (.n (.n (.n (.n .e (uO u 16) .e) (uO u 8) (.n .e (uO u 24) .e)) (uO u 4) (.n (.n .e (uO u 20) .e) (uO u 12) (.n .e (uO u 28) .e))) (uO u 2) (.n (.n (.n .e (uO u 18) .e) (uO u 10) (.n .e (uO u 26) .e)) (uO u 6) (.n (.n .e (uO u 22) .e) (uO u 14) (.n .e (uO u 30) .e)))))) [] M1 c1 ∧ k ≤ (parseL l).length ∧ parseL (l.drop (4 * k)) = (parseL l).drop k ∧ I k M1 c1) := ⟨fun n s => _, fun _ _ => Iff.rfl⟩
  refine wp_while Iv ?_ l.length _ ((hIv _ _).2 ⟨0, _, _, [none, none, _, none, _, _, _, _, _, _, _, _, _, _, _, _, _, _, _, _, _, _, _, _, _, _, _, _, _, _, _], rfl, Nat.zero_le _, rfl, Nat.zero_le _, rfl, h0⟩)
  intro n s hIs
  obtain ⟨k, M1, c1, u, rfl, hk, rfl, hkp, hpre, hi⟩ := (hIv _ _).1 hIs
  clear hIs
  obtain ⟨ok1, hpb, hbox, hs1⟩ := hI k M1 c1 hi
  have hld : load1 F M1 pb 0 = some v := by rw [set_same hbox, load1_same]; rfl
  have hln := hs1.len
  have q8 : biV .add (.i .i64 ((4 * k : Nat) : Int)) (.i .i64 4) = some (.i .i64 ((4 * k + 4 : Nat) : Int)) := by rw [i64_add _ _ (by omega) (by omega)]; simp
  by_cases hlt : 4 * k + 4 ≤ l.length
  · have hd : decide (((4 * k + 4 : Nat) : Int) ≤ (l.length : Int)) = true := decide_eq_true (by omega)
    obtain ⟨a0, a1, a2, a3, hfour, hdrop⟩ := four_of hlt
    obtain ⟨v', e1, -, -, -, hs'⟩ := slLV_of hs1 (show 4 * k ≤ 4 * k + 4 by omega) (by rw [List.length_map]; exact hlt)
    have hs' : SlB F M1 c1 v' [a0, a1, a2, a3] := by
      rw [← hfour]
      unfold SlB
      rw [List.map_drop, List.map_take]; exact hs'
    simp only [lnSl, wp_seq, seqQ_nrm, wp_reg, wp_skip, wp_block, wo_nil, xo_q, xo_e, wp_condT, putO, v_mv, v_bi, bi_leq, v_ln, v_ld1, ld1_p, xo_call, ev_t, ev_c, evs_nil, evs_cons, Tr.setP_h, Tr.setP_l, Tr.setP_r, getT_h, getT_l, getT_r, Option.map_some, v_slL, Option.map_none, w56_2, w56_3, w56_5, w56_7, hld, hln, hd, q8, e1]
    refine putE_to ((r33 Φ h33 h31 ok1 hs').mono ?_)
    rintro v2 M2 c2 ⟨rfl, hg2⟩
    rw [hdrop, parseL_4] at hpre
    have hgx := fun x => hg2.set c2 x hg2.le (Nat.lt_succ_self _) (Nat.le_succ _)
    by_cases hok : okW (w4 a0 a1 a2 a3) = true
    · rw [readV_ok hok]
      rw [if_pos hok] at hpre
      have hklt : k < (parseL l).length := by
        by_cases hh : k < (parseL l).length
        · exact hh
        · rw [List.drop_eq_nil_of_le (show (parseL l).length ≤ k by omega)] at hpre; cases hpre
      rw [List.drop_eq_getElem_cons hklt] at hpre
      injection hpre with hx hrest
      rw [hx]
      have hins : insV (parseL l)[k] = [.i .i64 (parseL l)[k].op, .i .i64 (parseL l)[k].d, .i .i64 (parseL l)[k].a, .i .i64 (parseL l)[k].b, .i .i64 (parseL l)[k].i] := rfl
      have hy := fun x => hY k (M2.set c2 x) (c2 + 1) hklt (hG k M1 c1 _ _ hi (hgx x))
      rw [hins] at hy ⊢
      simp only [wp_seq, seqQ_nrm, wp_reg, wo_nil, xo_q, xo_a, xo_e, xo_e0, wo_gT, putO, putA, putE0, v_mv, v_bi, bi_neq, v_ldn, ldn_p, e_st_eq, er_some, ev_t, ev_c, evs_nil, evs_cons, Tr.setP_h, Tr.setP_l, Tr.setP_r, getT_h, getT_l, getT_r, List.getElem?_cons_zero, List.getElem?_cons_succ, decide_false, if_true, flatten_g, allOne_nil, allOne_cons, isOne_i, Bool.and_true, over_nil, over_cons, List.set_cons_zero, List.set_cons_succ, List.length_cons, List.length_nil, Nat.reduceAdd, Nat.reduceLeDiff, Nat.zero_add, v_ex, xo_cv, loadN_same, storeN_same, a_al_eq, List.drop_zero, List.take_succ_cons, List.take_nil, Option.map_some, w56_4, ne_eq, not_true_eq_false]
      refine putE_to ((hy _).mono ?_)
      rintro r M3 c3 (⟨rfl, hi3⟩ | ⟨rfl, hj⟩)
      · simp only [seqQ_nrm, wp_reg, wp_skip, blockQ_nrm, wo_nil, xo_q, wo_gT, wp_condF, putO, v_mv, v_pk, pkV_F, v_bi, v_un, un_not, ev_t, ev_c, Tr.setP_h, Tr.setP_l, Tr.setP_r, getT_h, getT_l, getT_r, Bool.not_true, roundQ_nrm, w56_6, q8]
        exact ⟨l.length - 4 * (k + 1), by omega, (hIv _ _).2 ⟨k + 1, M3, c3, [none, none, _, none, _, _, _, _, _, _, _, _, _, _, _, _, _, _, _, _, _, _, _, _, _, _, _, _, _, _, _], rfl, by omega, rfl, hklt, hrest, hi3⟩⟩
      · simp only [seqQ_nrm, seqQ_ret, wp_ret, blockQ_ret, wo_nil, xo_q, wo_gT, wp_condT, putO, v_pk, pkV_F, v_un, un_not, ev_t, ev_c, Tr.setP_h, Tr.setP_l, Tr.setP_r, getT_h, getT_l, getT_r, endQ_ret, endO, resV_nil', Bool.not_false, roundQ_ret]
        exact .inr hj
    · rw [readV_no hok]
      rw [if_neg hok] at hpre
      have hke : k = (parseL l).length := by
        by_cases hh : k < (parseL l).length
        · rw [List.drop_eq_getElem_cons hh] at hpre; cases hpre
        · omega
      simp only [wp_seq, seqQ_nrm, seqQ_ret, wp_reg, wp_ret, blockQ_ret, wo_nil, xo_q, xo_a, xo_e0, wo_gF, wp_condT, putO, putA, putE0, setT_some, v_mv, v_pk, pkV_T, v_bi, bi_neq, e_st_eq, er_some, ev_t, ev_c, Tr.setP_h, Tr.setP_l, Tr.setP_r, getT_h, getT_l, getT_r, Int.reduceEq, List.getElem?_cons_zero, List.getElem?_cons_succ, endQ_ret, endO, resV_nil', Bool.not_false, decide_true, if_true, flatten_g, allOne_nil, allOne_cons, isOne_i, Bool.and_true, over_nil, over_cons, List.set_cons_zero, List.set_cons_succ, List.length_cons, List.length_nil, Nat.reduceAdd, Nat.reduceLeDiff, Nat.zero_add, v_ex, storeN_same, a_al_eq, roundQ_ret, w56_4, lenRV, ne_eq, not_false_eq_true]
      exact .inl (hke ▸ hG k M1 c1 _ _ hi (hgx _))
  · have hd : decide (((4 * k + 4 : Nat) : Int) ≤ (l.length : Int)) = false := decide_eq_false (by omega)
    simp only [lnSl, wp_seq, seqQ_nrm, seqQ_ext, wp_reg, wp_exit, blockQ_ext, wo_nil, xo_q, wp_condF, putO, v_mv, v_bi, bi_leq, v_ln, v_ld1, ld1_p, ev_t, ev_c, Tr.setP_h, Tr.setP_l, Tr.setP_r, getT_h, getT_l, getT_r, endQ_nrm, endO, resV_nil', if_true, roundQ_ext, w56_2, w56_7, hld, hln, hd, q8]
    rw [parseL_short (by rw [List.length_drop]; omega)] at hpre
    have hke : k = (parseL l).length := by
      by_cases hh : k < (parseL l).length
      · rw [List.drop_eq_getElem_cons hh] at hpre; cases hpre
      · omega
    exact .inl (hke ▸ hi)
end Go.Proofs.YtffpeieapadocaaGreatDoor.Ev
