/- What is proved here: pieces of the evaluator's soundness: if the evaluator comes to a value, the model's run comes to it, for every world and tape; no conditions beyond the hypotheses of each theorem. -/
import Derived.Test.YtffpeieapadocaaGreatDoorEv5
set_option linter.unusedSimpArgs false
set_option linter.unusedVariables false
set_option maxRecDepth 10000
set_option maxHeartbeats 16000000
namespace Go.Proofs.YtffpeieapadocaaGreatDoor.Ev
open Go
noncomputable def b25_1 : CC := (.reg [⟨(some (.l (.r .h))), .q (.bi .eql (.t (.l (.l .h))) (.c (.i .i64 3))), none⟩, ⟨(some (.r (.l .h))), .q (.mv (.t (.l (.r .h)))), none⟩])
theorem w25_1 (k : Kn) (s : St) (R : Ex → St → Prop) : Wp b25_1 k s R = Wp (.reg [⟨(some (.l (.r .h))), .q (.bi .eql (.t (.l (.l .h))) (.c (.i .i64 3))), none⟩, ⟨(some (.r (.l .h))), .q (.mv (.t (.l (.r .h)))), none⟩]) k s R := rfl
noncomputable def b25_2 : CC := (.reg [⟨(some (.l (.l (.l .h)))), .q (.bi .eql (.t (.l (.l .h))) (.c (.i .i64 23))), none⟩, ⟨(some (.r (.r .h))), .q (.mv (.t (.l (.l (.l .h))))), none⟩])
theorem w25_2 (k : Kn) (s : St) (R : Ex → St → Prop) : Wp b25_2 k s R = Wp (.reg [⟨(some (.l (.l (.l .h)))), .q (.bi .eql (.t (.l (.l .h))) (.c (.i .i64 23))), none⟩, ⟨(some (.r (.r .h))), .q (.mv (.t (.l (.l (.l .h))))), none⟩]) k s R := rfl
noncomputable def b25_3 : CC := (.reg [⟨(some (.l (.r (.l .h)))), .q (.bi .eql (.t (.l (.l .h))) (.c (.i .i64 24))), none⟩, ⟨(some (.r (.l (.l .h)))), .q (.mv (.t (.l (.r (.l .h))))), none⟩])
theorem w25_3 (k : Kn) (s : St) (R : Ex → St → Prop) : Wp b25_3 k s R = Wp (.reg [⟨(some (.l (.r (.l .h)))), .q (.bi .eql (.t (.l (.l .h))) (.c (.i .i64 24))), none⟩, ⟨(some (.r (.l (.l .h)))), .q (.mv (.t (.l (.r (.l .h))))), none⟩]) k s R := rfl
noncomputable def b25_4 : CC := (.reg [⟨(some (.l (.l (.r .h)))), .q (.bi .eql (.t (.l (.l .h))) (.c (.i .i64 5))), none⟩, ⟨(some (.r (.r (.l .h)))), .q (.mv (.t (.l (.l (.r .h))))), none⟩])
theorem w25_4 (k : Kn) (s : St) (R : Ex → St → Prop) : Wp b25_4 k s R = Wp (.reg [⟨(some (.l (.l (.r .h)))), .q (.bi .eql (.t (.l (.l .h))) (.c (.i .i64 5))), none⟩, ⟨(some (.r (.r (.l .h)))), .q (.mv (.t (.l (.l (.r .h))))), none⟩]) k s R := rfl
noncomputable def b25_5 : CC := (.reg [⟨(some (.r (.l (.r .h)))), .q (.bi .eql (.t (.l (.l .h))) (.c (.i .i64 6))), none⟩, ⟨(some (.r (.r (.l .h)))), .q (.mv (.t (.r (.l (.r .h))))), none⟩])
theorem w25_5 (k : Kn) (s : St) (R : Ex → St → Prop) : Wp b25_5 k s R = Wp (.reg [⟨(some (.r (.l (.r .h)))), .q (.bi .eql (.t (.l (.l .h))) (.c (.i .i64 6))), none⟩, ⟨(some (.r (.r (.l .h)))), .q (.mv (.t (.r (.l (.r .h))))), none⟩]) k s R := rfl
noncomputable def b25_6 : CC := (.reg [⟨(some (.l (.r (.r .h)))), .q (.bi .eql (.t (.l (.l .h))) (.c (.i .i64 25))), none⟩, ⟨(some (.r (.r (.l .h)))), .q (.mv (.t (.l (.r (.r .h))))), none⟩])
theorem w25_6 (k : Kn) (s : St) (R : Ex → St → Prop) : Wp b25_6 k s R = Wp (.reg [⟨(some (.l (.r (.r .h)))), .q (.bi .eql (.t (.l (.l .h))) (.c (.i .i64 25))), none⟩, ⟨(some (.r (.r (.l .h)))), .q (.mv (.t (.l (.r (.r .h))))), none⟩]) k s R := rfl
noncomputable def b25_7 : CC := (.cond (.t (.r (.r (.l .h)))) .skip (.seq b25_5 (.cond (.t (.r (.r (.l .h)))) .skip b25_6)))
theorem w25_7 (k : Kn) (s : St) (R : Ex → St → Prop) : Wp b25_7 k s R = Wp (.cond (.t (.r (.r (.l .h)))) .skip (.seq b25_5 (.cond (.t (.r (.r (.l .h)))) .skip b25_6))) k s R := rfl
noncomputable def b25_8 : CC := (.seq (.seq b25_4 b25_7) (.cond (.t (.r (.r (.l .h)))) (.exit 4) .skip))
theorem w25_8 (k : Kn) (s : St) (R : Ex → St → Prop) : Wp b25_8 k s R = Wp (.seq (.seq b25_4 b25_7) (.cond (.t (.r (.r (.l .h)))) (.exit 4) .skip)) k s R := rfl
noncomputable def b25_9 : CC := (.reg [⟨(some (.l (.l (.l (.l .h))))), .q (.bi .eql (.t (.l (.l .h))) (.c (.i .i64 7))), none⟩, ⟨(some (.r (.r (.r .h)))), .q (.mv (.t (.l (.l (.l (.l .h)))))), none⟩])
theorem w25_9 (k : Kn) (s : St) (R : Ex → St → Prop) : Wp b25_9 k s R = Wp (.reg [⟨(some (.l (.l (.l (.l .h))))), .q (.bi .eql (.t (.l (.l .h))) (.c (.i .i64 7))), none⟩, ⟨(some (.r (.r (.r .h)))), .q (.mv (.t (.l (.l (.l (.l .h)))))), none⟩]) k s R := rfl
noncomputable def b25_10 : CC := (.seq b25_8 (.seq b25_9 (.cond (.t (.r (.r (.r .h)))) (.exit 5) .skip)))
theorem w25_10 (k : Kn) (s : St) (R : Ex → St → Prop) : Wp b25_10 k s R = Wp (.seq b25_8 (.seq b25_9 (.cond (.t (.r (.r (.r .h)))) (.exit 5) .skip))) k s R := rfl
noncomputable def b25_11 : CC := (.seq (.seq b25_3 (.cond (.t (.r (.l (.l .h)))) (.exit 3) .skip)) b25_10)
theorem w25_11 (k : Kn) (s : St) (R : Ex → St → Prop) : Wp b25_11 k s R = Wp (.seq (.seq b25_3 (.cond (.t (.r (.l (.l .h)))) (.exit 3) .skip)) b25_10) k s R := rfl
noncomputable def b25_12 : CC := (.seq (.seq b25_2 (.cond (.t (.r (.r .h))) (.exit 2) .skip)) b25_11)
theorem w25_12 (k : Kn) (s : St) (R : Ex → St → Prop) : Wp b25_12 k s R = Wp (.seq (.seq b25_2 (.cond (.t (.r (.r .h))) (.exit 2) .skip)) b25_11) k s R := rfl
noncomputable def b25_13 : CC := (.seq (.seq b25_1 (.cond (.t (.r (.l .h))) (.exit 1) .skip)) b25_12)
theorem w25_13 (k : Kn) (s : St) (R : Ex → St → Prop) : Wp b25_13 k s R = Wp (.seq (.seq b25_1 (.cond (.t (.r (.l .h))) (.exit 1) .skip)) b25_12) k s R := rfl
noncomputable def b25_14 : CC := (.seq (.reg [⟨(some (.r .h)), .q (.mv (.c (.i .i64 1))), none⟩]) .ret)
theorem w25_14 (k : Kn) (s : St) (R : Ex → St → Prop) : Wp b25_14 k s R = Wp (.seq (.reg [⟨(some (.r .h)), .q (.mv (.c (.i .i64 1))), none⟩]) .ret) k s R := rfl
noncomputable def b25_15 : CC := (.seq (.block 2 (.block 1 (.seq b25_13 (.exit 0)))) (.seq b25_14 (.exit 0)))
theorem w25_15 (k : Kn) (s : St) (R : Ex → St → Prop) : Wp b25_15 k s R = Wp (.seq (.block 2 (.block 1 (.seq b25_13 (.exit 0)))) (.seq b25_14 (.exit 0))) k s R := rfl
noncomputable def b25_16 : CC := (.seq (.reg [⟨(some (.r .h)), .q (.mv (.c (.i .i64 2))), none⟩]) .ret)
theorem w25_16 (k : Kn) (s : St) (R : Ex → St → Prop) : Wp b25_16 k s R = Wp (.seq (.reg [⟨(some (.r .h)), .q (.mv (.c (.i .i64 2))), none⟩]) .ret) k s R := rfl
noncomputable def b25_17 : CC := (.seq (.reg [⟨(some (.r .h)), .q (.mv (.c (.i .i64 3))), none⟩]) .ret)
theorem w25_17 (k : Kn) (s : St) (R : Ex → St → Prop) : Wp b25_17 k s R = Wp (.seq (.reg [⟨(some (.r .h)), .q (.mv (.c (.i .i64 3))), none⟩]) .ret) k s R := rfl
noncomputable def b25_18 : CC := (.seq (.block 4 (.seq (.block 3 b25_15) (.seq b25_16 (.exit 0)))) (.seq b25_17 (.exit 0)))
theorem w25_18 (k : Kn) (s : St) (R : Ex → St → Prop) : Wp b25_18 k s R = Wp (.seq (.block 4 (.seq (.block 3 b25_15) (.seq b25_16 (.exit 0)))) (.seq b25_17 (.exit 0))) k s R := rfl
noncomputable def b25_19 : CC := (.seq (.reg [⟨(some (.r .h)), .q (.mv (.c (.i .i64 4))), none⟩]) .ret)
theorem w25_19 (k : Kn) (s : St) (R : Ex → St → Prop) : Wp b25_19 k s R = Wp (.seq (.reg [⟨(some (.r .h)), .q (.mv (.c (.i .i64 4))), none⟩]) .ret) k s R := rfl
noncomputable def b25_20 : CC := (.seq (.reg [⟨(some (.l (.l .h))), .q (.mv (.t .h)), none⟩]) (.block 0 (.seq (.block 5 b25_18) (.seq b25_19 (.exit 0)))))
theorem w25_20 (k : Kn) (s : St) (R : Ex → St → Prop) : Wp b25_20 k s R = Wp (.seq (.reg [⟨(some (.l (.l .h))), .q (.mv (.t .h)), none⟩]) (.block 0 (.seq (.block 5 b25_18) (.seq b25_19 (.exit 0))))) k s R := rfl
noncomputable def b25_21 : CC := (.reg [⟨(some (.l (.r (.l (.l .h))))), .q (.mv (.t .h)), none⟩, ⟨(some (.r (.r (.l (.l .h))))), .q (.bi .geq (.t (.l (.r (.l (.l .h))))) (.c (.i .i64 8))), none⟩, ⟨(some (.l (.l (.r (.l .h))))), .q (.mv (.t (.r (.r (.l (.l .h)))))), none⟩, ⟨(some (.r (.l (.r (.l .h))))), .q (.mv (.t .h)), (some ((.l (.l (.r (.l .h)))), true))⟩, ⟨(some (.l (.r (.r (.l .h))))), .q (.bi .leq (.t (.r (.l (.r (.l .h))))) (.c (.i .i64 17))), (some ((.l (.l (.r (.l .h)))), true))⟩, ⟨(some (.r (.r (.r (.l .h))))), .q (.pk (.t (.l (.l (.r (.l .h))))) (.t (.l (.r (.r (.l .h))))) (.c (.b false))), none⟩, ⟨(some (.r (.l (.l (.l .h))))), .q (.mv (.t (.r (.r (.r (.l .h)))))), none⟩])
theorem w25_21 (k : Kn) (s : St) (R : Ex → St → Prop) : Wp b25_21 k s R = Wp (.reg [⟨(some (.l (.r (.l (.l .h))))), .q (.mv (.t .h)), none⟩, ⟨(some (.r (.r (.l (.l .h))))), .q (.bi .geq (.t (.l (.r (.l (.l .h))))) (.c (.i .i64 8))), none⟩, ⟨(some (.l (.l (.r (.l .h))))), .q (.mv (.t (.r (.r (.l (.l .h)))))), none⟩, ⟨(some (.r (.l (.r (.l .h))))), .q (.mv (.t .h)), (some ((.l (.l (.r (.l .h)))), true))⟩, ⟨(some (.l (.r (.r (.l .h))))), .q (.bi .leq (.t (.r (.l (.r (.l .h))))) (.c (.i .i64 17))), (some ((.l (.l (.r (.l .h)))), true))⟩, ⟨(some (.r (.r (.r (.l .h))))), .q (.pk (.t (.l (.l (.r (.l .h))))) (.t (.l (.r (.r (.l .h))))) (.c (.b false))), none⟩, ⟨(some (.r (.l (.l (.l .h))))), .q (.mv (.t (.r (.r (.r (.l .h)))))), none⟩]) k s R := rfl
noncomputable def b25_22 : CC := (.seq (.reg [⟨(some (.r .h)), .q (.mv (.c (.i .i64 5))), none⟩]) .ret)
theorem w25_22 (k : Kn) (s : St) (R : Ex → St → Prop) : Wp b25_22 k s R = Wp (.seq (.reg [⟨(some (.r .h)), .q (.mv (.c (.i .i64 5))), none⟩]) .ret) k s R := rfl
noncomputable def b25_23 : CC := (.reg [⟨(some (.r (.l (.l (.r .h))))), .q (.mv (.t .h)), none⟩, ⟨(some (.l (.r (.l (.r .h))))), .q (.bi .geq (.t (.r (.l (.l (.r .h))))) (.c (.i .i64 18))), none⟩, ⟨(some (.r (.r (.l (.r .h))))), .q (.mv (.t (.l (.r (.l (.r .h)))))), none⟩, ⟨(some (.l (.l (.r (.r .h))))), .q (.mv (.t .h)), (some ((.r (.r (.l (.r .h)))), true))⟩, ⟨(some (.r (.l (.r (.r .h))))), .q (.bi .leq (.t (.l (.l (.r (.r .h))))) (.c (.i .i64 22))), (some ((.r (.r (.l (.r .h)))), true))⟩, ⟨(some (.l (.r (.r (.r .h))))), .q (.pk (.t (.r (.r (.l (.r .h))))) (.t (.r (.l (.r (.r .h))))) (.c (.b false))), none⟩, ⟨(some (.r (.r (.r (.r .h))))), .q (.mv (.t (.l (.r (.r (.r .h)))))), none⟩, ⟨(some (.l (.l (.l (.l (.l .h)))))), .q (.mv (.t .h)), (some ((.r (.r (.r (.r .h)))), false))⟩, ⟨(some (.r (.l (.l (.l (.l .h)))))), .q (.bi .geq (.t (.l (.l (.l (.l (.l .h)))))) (.c (.i .i64 26))), (some ((.r (.r (.r (.r .h)))), false))⟩, ⟨(some (.l (.r (.l (.l (.l .h)))))), .q (.mv (.t (.r (.l (.l (.l (.l .h))))))), (some ((.r (.r (.r (.r .h)))), false))⟩, ⟨(some (.r (.r (.l (.l (.l .h)))))), .q (.mv (.t .h)), (some ((.l (.r (.l (.l (.l .h))))), true))⟩, ⟨(some (.l (.l (.r (.l (.l .h)))))), .q (.bi .leq (.t (.r (.r (.l (.l (.l .h)))))) (.c (.i .i64 28))), (some ((.l (.r (.l (.l (.l .h))))), true))⟩, ⟨(some (.r (.l (.r (.l (.l .h)))))), .q (.pk (.t (.l (.r (.l (.l (.l .h)))))) (.t (.l (.l (.r (.l (.l .h)))))) (.c (.b false))), (some ((.r (.r (.r (.r .h)))), false))⟩, ⟨(some (.l (.r (.r (.l (.l .h)))))), .q (.pk (.t (.r (.r (.r (.r .h))))) (.c (.b true)) (.t (.r (.l (.r (.l (.l .h))))))), none⟩, ⟨(some (.l (.l (.l (.r .h))))), .q (.mv (.t (.l (.r (.r (.l (.l .h))))))), none⟩])
theorem w25_23 (k : Kn) (s : St) (R : Ex → St → Prop) : Wp b25_23 k s R = Wp (.reg [⟨(some (.r (.l (.l (.r .h))))), .q (.mv (.t .h)), none⟩, ⟨(some (.l (.r (.l (.r .h))))), .q (.bi .geq (.t (.r (.l (.l (.r .h))))) (.c (.i .i64 18))), none⟩, ⟨(some (.r (.r (.l (.r .h))))), .q (.mv (.t (.l (.r (.l (.r .h)))))), none⟩, ⟨(some (.l (.l (.r (.r .h))))), .q (.mv (.t .h)), (some ((.r (.r (.l (.r .h)))), true))⟩, ⟨(some (.r (.l (.r (.r .h))))), .q (.bi .leq (.t (.l (.l (.r (.r .h))))) (.c (.i .i64 22))), (some ((.r (.r (.l (.r .h)))), true))⟩, ⟨(some (.l (.r (.r (.r .h))))), .q (.pk (.t (.r (.r (.l (.r .h))))) (.t (.r (.l (.r (.r .h))))) (.c (.b false))), none⟩, ⟨(some (.r (.r (.r (.r .h))))), .q (.mv (.t (.l (.r (.r (.r .h)))))), none⟩, ⟨(some (.l (.l (.l (.l (.l .h)))))), .q (.mv (.t .h)), (some ((.r (.r (.r (.r .h)))), false))⟩, ⟨(some (.r (.l (.l (.l (.l .h)))))), .q (.bi .geq (.t (.l (.l (.l (.l (.l .h)))))) (.c (.i .i64 26))), (some ((.r (.r (.r (.r .h)))), false))⟩, ⟨(some (.l (.r (.l (.l (.l .h)))))), .q (.mv (.t (.r (.l (.l (.l (.l .h))))))), (some ((.r (.r (.r (.r .h)))), false))⟩, ⟨(some (.r (.r (.l (.l (.l .h)))))), .q (.mv (.t .h)), (some ((.l (.r (.l (.l (.l .h))))), true))⟩, ⟨(some (.l (.l (.r (.l (.l .h)))))), .q (.bi .leq (.t (.r (.r (.l (.l (.l .h)))))) (.c (.i .i64 28))), (some ((.l (.r (.l (.l (.l .h))))), true))⟩, ⟨(some (.r (.l (.r (.l (.l .h)))))), .q (.pk (.t (.l (.r (.l (.l (.l .h)))))) (.t (.l (.l (.r (.l (.l .h)))))) (.c (.b false))), (some ((.r (.r (.r (.r .h)))), false))⟩, ⟨(some (.l (.r (.r (.l (.l .h)))))), .q (.pk (.t (.r (.r (.r (.r .h))))) (.c (.b true)) (.t (.r (.l (.r (.l (.l .h))))))), none⟩, ⟨(some (.l (.l (.l (.r .h))))), .q (.mv (.t (.l (.r (.r (.l (.l .h))))))), none⟩]) k s R := rfl
noncomputable def b25_24 : CC := (.seq (.reg [⟨(some (.r .h)), .q (.mv (.c (.i .i64 6))), none⟩]) .ret)
theorem w25_24 (k : Kn) (s : St) (R : Ex → St → Prop) : Wp b25_24 k s R = Wp (.seq (.reg [⟨(some (.r .h)), .q (.mv (.c (.i .i64 6))), none⟩]) .ret) k s R := rfl
noncomputable def b25_25 : CC := (.seq b25_23 (.cond (.t (.l (.l (.l (.r .h))))) b25_24 .skip))
theorem w25_25 (k : Kn) (s : St) (R : Ex → St → Prop) : Wp b25_25 k s R = Wp (.seq b25_23 (.cond (.t (.l (.l (.l (.r .h))))) b25_24 .skip)) k s R := rfl
noncomputable def b25_26 : CC := (.seq b25_21 (.cond (.t (.r (.l (.l (.l .h))))) b25_22 b25_25))
theorem w25_26 (k : Kn) (s : St) (R : Ex → St → Prop) : Wp b25_26 k s R = Wp (.seq b25_21 (.cond (.t (.r (.l (.l (.l .h))))) b25_22 b25_25)) k s R := rfl
noncomputable def b25_27 : CC := (.seq (.reg [⟨(some (.r .h)), .q (.mv (.c (.i .i64 0))), none⟩]) .ret)
theorem w25_27 (k : Kn) (s : St) (R : Ex → St → Prop) : Wp b25_27 k s R = Wp (.seq (.reg [⟨(some (.r .h)), .q (.mv (.c (.i .i64 0))), none⟩]) .ret) k s R := rfl
noncomputable def b25_28 : CC := (.seq (.reg [⟨(some (.r .h)), .q (.mv (.c (.i .i64 0))), none⟩]) (.seq b25_20 (.seq (.block 6 b25_26) b25_27)))
theorem w25_28 (k : Kn) (s : St) (R : Ex → St → Prop) : Wp b25_28 k s R = Wp (.seq (.reg [⟨(some (.r .h)), .q (.mv (.c (.i .i64 0))), none⟩]) (.seq b25_20 (.seq (.block 6 b25_26) b25_27))) k s R := rfl
noncomputable def c25 : CF := .mk 6 [.t (.r .h)] b25_28
theorem e25 (v0 : V) : argTr 6 [v0] = (.n (.n (.n (.n (.n (.n .e none .e) none (.n .e none .e)) none (.n (.n .e none .e) none (.n .e none .e))) none (.n (.n (.n .e none .e) none (.n .e none .e)) none (.n (.n .e none .e) none (.n .e none .e)))) none (.n (.n (.n (.n .e none .e) none (.n .e none .e)) none (.n (.n .e none .e) none (.n .e none .e))) none (.n (.n (.n .e none .e) none (.n .e none .e)) none (.n (.n .e none .e) none (.n .e none .e))))) (some v0) (.n (.n (.n (.n (.n .e none .e) none (.n .e none .e)) none (.n (.n .e none .e) none (.n .e none .e))) none (.n (.n (.n .e none .e) none (.n .e none .e)) none (.n (.n .e none .e) none (.n .e none .e)))) none (.n (.n (.n (.n .e none .e) none (.n .e none .e)) none (.n (.n .e none .e) none (.n .e none .e))) none (.n (.n (.n .e none .e) none (.n .e none .e)) none (.n (.n .e none .e) none (.n .e none .e)))))) := rfl
noncomputable def b26_1 : CC := (.reg [⟨(some (.l (.r .h))), .q (.bi .eql (.t (.l (.l .h))) (.c (.i .i64 3))), none⟩, ⟨(some (.r (.l .h))), .q (.mv (.t (.l (.r .h)))), none⟩])
theorem w26_1 (k : Kn) (s : St) (R : Ex → St → Prop) : Wp b26_1 k s R = Wp (.reg [⟨(some (.l (.r .h))), .q (.bi .eql (.t (.l (.l .h))) (.c (.i .i64 3))), none⟩, ⟨(some (.r (.l .h))), .q (.mv (.t (.l (.r .h)))), none⟩]) k s R := rfl
noncomputable def b26_2 : CC := (.reg [⟨(some (.r (.r .h))), .q (.bi .eql (.t (.l (.l .h))) (.c (.i .i64 23))), none⟩, ⟨(some (.r (.l .h))), .q (.mv (.t (.r (.r .h)))), none⟩])
theorem w26_2 (k : Kn) (s : St) (R : Ex → St → Prop) : Wp b26_2 k s R = Wp (.reg [⟨(some (.r (.r .h))), .q (.bi .eql (.t (.l (.l .h))) (.c (.i .i64 23))), none⟩, ⟨(some (.r (.l .h))), .q (.mv (.t (.r (.r .h)))), none⟩]) k s R := rfl
noncomputable def b26_3 : CC := (.seq (.reg [⟨(some (.r .h)), .q (.mv (.c (.i .i64 1))), none⟩]) .ret)
theorem w26_3 (k : Kn) (s : St) (R : Ex → St → Prop) : Wp b26_3 k s R = Wp (.seq (.reg [⟨(some (.r .h)), .q (.mv (.c (.i .i64 1))), none⟩]) .ret) k s R := rfl
noncomputable def b26_4 : CC := (.reg [⟨(some (.r (.l (.l .h)))), .q (.bi .eql (.t (.l (.l .h))) (.c (.i .i64 24))), none⟩, ⟨(some (.l (.l (.l .h)))), .q (.mv (.t (.r (.l (.l .h))))), none⟩])
theorem w26_4 (k : Kn) (s : St) (R : Ex → St → Prop) : Wp b26_4 k s R = Wp (.reg [⟨(some (.r (.l (.l .h)))), .q (.bi .eql (.t (.l (.l .h))) (.c (.i .i64 24))), none⟩, ⟨(some (.l (.l (.l .h)))), .q (.mv (.t (.r (.l (.l .h))))), none⟩]) k s R := rfl
noncomputable def b26_5 : CC := (.seq (.reg [⟨(some (.r .h)), .q (.mv (.c (.i .i64 2))), none⟩]) .ret)
theorem w26_5 (k : Kn) (s : St) (R : Ex → St → Prop) : Wp b26_5 k s R = Wp (.seq (.reg [⟨(some (.r .h)), .q (.mv (.c (.i .i64 2))), none⟩]) .ret) k s R := rfl
noncomputable def b26_6 : CC := (.reg [⟨(some (.r (.r (.l .h)))), .q (.bi .eql (.t (.l (.l .h))) (.c (.i .i64 5))), none⟩, ⟨(some (.l (.r (.l .h)))), .q (.mv (.t (.r (.r (.l .h))))), none⟩])
theorem w26_6 (k : Kn) (s : St) (R : Ex → St → Prop) : Wp b26_6 k s R = Wp (.reg [⟨(some (.r (.r (.l .h)))), .q (.bi .eql (.t (.l (.l .h))) (.c (.i .i64 5))), none⟩, ⟨(some (.l (.r (.l .h)))), .q (.mv (.t (.r (.r (.l .h))))), none⟩]) k s R := rfl
noncomputable def b26_7 : CC := (.reg [⟨(some (.l (.l (.r .h)))), .q (.bi .eql (.t (.l (.l .h))) (.c (.i .i64 6))), none⟩, ⟨(some (.l (.r (.l .h)))), .q (.mv (.t (.l (.l (.r .h))))), none⟩])
theorem w26_7 (k : Kn) (s : St) (R : Ex → St → Prop) : Wp b26_7 k s R = Wp (.reg [⟨(some (.l (.l (.r .h)))), .q (.bi .eql (.t (.l (.l .h))) (.c (.i .i64 6))), none⟩, ⟨(some (.l (.r (.l .h)))), .q (.mv (.t (.l (.l (.r .h))))), none⟩]) k s R := rfl
noncomputable def b26_8 : CC := (.reg [⟨(some (.r (.l (.r .h)))), .q (.bi .eql (.t (.l (.l .h))) (.c (.i .i64 25))), none⟩, ⟨(some (.l (.r (.l .h)))), .q (.mv (.t (.r (.l (.r .h))))), none⟩])
theorem w26_8 (k : Kn) (s : St) (R : Ex → St → Prop) : Wp b26_8 k s R = Wp (.reg [⟨(some (.r (.l (.r .h)))), .q (.bi .eql (.t (.l (.l .h))) (.c (.i .i64 25))), none⟩, ⟨(some (.l (.r (.l .h)))), .q (.mv (.t (.r (.l (.r .h))))), none⟩]) k s R := rfl
noncomputable def b26_9 : CC := (.cond (.t (.l (.r (.l .h)))) .skip (.seq b26_7 (.cond (.t (.l (.r (.l .h)))) .skip b26_8)))
theorem w26_9 (k : Kn) (s : St) (R : Ex → St → Prop) : Wp b26_9 k s R = Wp (.cond (.t (.l (.r (.l .h)))) .skip (.seq b26_7 (.cond (.t (.l (.r (.l .h)))) .skip b26_8))) k s R := rfl
noncomputable def b26_10 : CC := (.seq (.reg [⟨(some (.r .h)), .q (.mv (.c (.i .i64 3))), none⟩]) .ret)
theorem w26_10 (k : Kn) (s : St) (R : Ex → St → Prop) : Wp b26_10 k s R = Wp (.seq (.reg [⟨(some (.r .h)), .q (.mv (.c (.i .i64 3))), none⟩]) .ret) k s R := rfl
noncomputable def b26_11 : CC := (.reg [⟨(some (.r (.r (.r .h)))), .q (.bi .eql (.t (.l (.l .h))) (.c (.i .i64 7))), none⟩, ⟨(some (.l (.r (.r .h)))), .q (.mv (.t (.r (.r (.r .h))))), none⟩])
theorem w26_11 (k : Kn) (s : St) (R : Ex → St → Prop) : Wp b26_11 k s R = Wp (.reg [⟨(some (.r (.r (.r .h)))), .q (.bi .eql (.t (.l (.l .h))) (.c (.i .i64 7))), none⟩, ⟨(some (.l (.r (.r .h)))), .q (.mv (.t (.r (.r (.r .h))))), none⟩]) k s R := rfl
noncomputable def b26_12 : CC := (.seq (.reg [⟨(some (.r .h)), .q (.mv (.c (.i .i64 4))), none⟩]) .ret)
theorem w26_12 (k : Kn) (s : St) (R : Ex → St → Prop) : Wp b26_12 k s R = Wp (.seq (.reg [⟨(some (.r .h)), .q (.mv (.c (.i .i64 4))), none⟩]) .ret) k s R := rfl
noncomputable def b26_13 : CC := (.reg [⟨(some (.r (.l (.l (.l .h))))), .q (.bi .eql (.t (.l (.l .h))) (.c (.i .i64 8))), none⟩, ⟨(some (.l (.l (.l (.l .h))))), .q (.mv (.t (.r (.l (.l (.l .h)))))), none⟩])
theorem w26_13 (k : Kn) (s : St) (R : Ex → St → Prop) : Wp b26_13 k s R = Wp (.reg [⟨(some (.r (.l (.l (.l .h))))), .q (.bi .eql (.t (.l (.l .h))) (.c (.i .i64 8))), none⟩, ⟨(some (.l (.l (.l (.l .h))))), .q (.mv (.t (.r (.l (.l (.l .h)))))), none⟩]) k s R := rfl
noncomputable def b26_14 : CC := (.reg [⟨(some (.l (.r (.l (.l .h))))), .q (.bi .eql (.t (.l (.l .h))) (.c (.i .i64 9))), none⟩, ⟨(some (.l (.l (.l (.l .h))))), .q (.mv (.t (.l (.r (.l (.l .h)))))), none⟩])
theorem w26_14 (k : Kn) (s : St) (R : Ex → St → Prop) : Wp b26_14 k s R = Wp (.reg [⟨(some (.l (.r (.l (.l .h))))), .q (.bi .eql (.t (.l (.l .h))) (.c (.i .i64 9))), none⟩, ⟨(some (.l (.l (.l (.l .h))))), .q (.mv (.t (.l (.r (.l (.l .h)))))), none⟩]) k s R := rfl
noncomputable def b26_15 : CC := (.reg [⟨(some (.r (.r (.l (.l .h))))), .q (.bi .eql (.t (.l (.l .h))) (.c (.i .i64 10))), none⟩, ⟨(some (.l (.l (.l (.l .h))))), .q (.mv (.t (.r (.r (.l (.l .h)))))), none⟩])
theorem w26_15 (k : Kn) (s : St) (R : Ex → St → Prop) : Wp b26_15 k s R = Wp (.reg [⟨(some (.r (.r (.l (.l .h))))), .q (.bi .eql (.t (.l (.l .h))) (.c (.i .i64 10))), none⟩, ⟨(some (.l (.l (.l (.l .h))))), .q (.mv (.t (.r (.r (.l (.l .h)))))), none⟩]) k s R := rfl
noncomputable def b26_16 : CC := (.reg [⟨(some (.l (.l (.r (.l .h))))), .q (.bi .eql (.t (.l (.l .h))) (.c (.i .i64 11))), none⟩, ⟨(some (.l (.l (.l (.l .h))))), .q (.mv (.t (.l (.l (.r (.l .h)))))), none⟩])
theorem w26_16 (k : Kn) (s : St) (R : Ex → St → Prop) : Wp b26_16 k s R = Wp (.reg [⟨(some (.l (.l (.r (.l .h))))), .q (.bi .eql (.t (.l (.l .h))) (.c (.i .i64 11))), none⟩, ⟨(some (.l (.l (.l (.l .h))))), .q (.mv (.t (.l (.l (.r (.l .h)))))), none⟩]) k s R := rfl
noncomputable def b26_17 : CC := (.reg [⟨(some (.r (.l (.r (.l .h))))), .q (.bi .eql (.t (.l (.l .h))) (.c (.i .i64 12))), none⟩, ⟨(some (.l (.l (.l (.l .h))))), .q (.mv (.t (.r (.l (.r (.l .h)))))), none⟩])
theorem w26_17 (k : Kn) (s : St) (R : Ex → St → Prop) : Wp b26_17 k s R = Wp (.reg [⟨(some (.r (.l (.r (.l .h))))), .q (.bi .eql (.t (.l (.l .h))) (.c (.i .i64 12))), none⟩, ⟨(some (.l (.l (.l (.l .h))))), .q (.mv (.t (.r (.l (.r (.l .h)))))), none⟩]) k s R := rfl
noncomputable def b26_18 : CC := (.reg [⟨(some (.l (.r (.r (.l .h))))), .q (.bi .eql (.t (.l (.l .h))) (.c (.i .i64 13))), none⟩, ⟨(some (.l (.l (.l (.l .h))))), .q (.mv (.t (.l (.r (.r (.l .h)))))), none⟩])
theorem w26_18 (k : Kn) (s : St) (R : Ex → St → Prop) : Wp b26_18 k s R = Wp (.reg [⟨(some (.l (.r (.r (.l .h))))), .q (.bi .eql (.t (.l (.l .h))) (.c (.i .i64 13))), none⟩, ⟨(some (.l (.l (.l (.l .h))))), .q (.mv (.t (.l (.r (.r (.l .h)))))), none⟩]) k s R := rfl
noncomputable def b26_19 : CC := (.reg [⟨(some (.r (.r (.r (.l .h))))), .q (.bi .eql (.t (.l (.l .h))) (.c (.i .i64 14))), none⟩, ⟨(some (.l (.l (.l (.l .h))))), .q (.mv (.t (.r (.r (.r (.l .h)))))), none⟩])
theorem w26_19 (k : Kn) (s : St) (R : Ex → St → Prop) : Wp b26_19 k s R = Wp (.reg [⟨(some (.r (.r (.r (.l .h))))), .q (.bi .eql (.t (.l (.l .h))) (.c (.i .i64 14))), none⟩, ⟨(some (.l (.l (.l (.l .h))))), .q (.mv (.t (.r (.r (.r (.l .h)))))), none⟩]) k s R := rfl
noncomputable def b26_20 : CC := (.reg [⟨(some (.l (.l (.l (.r .h))))), .q (.bi .eql (.t (.l (.l .h))) (.c (.i .i64 15))), none⟩, ⟨(some (.l (.l (.l (.l .h))))), .q (.mv (.t (.l (.l (.l (.r .h)))))), none⟩])
theorem w26_20 (k : Kn) (s : St) (R : Ex → St → Prop) : Wp b26_20 k s R = Wp (.reg [⟨(some (.l (.l (.l (.r .h))))), .q (.bi .eql (.t (.l (.l .h))) (.c (.i .i64 15))), none⟩, ⟨(some (.l (.l (.l (.l .h))))), .q (.mv (.t (.l (.l (.l (.r .h)))))), none⟩]) k s R := rfl
noncomputable def b26_21 : CC := (.reg [⟨(some (.r (.l (.l (.r .h))))), .q (.bi .eql (.t (.l (.l .h))) (.c (.i .i64 16))), none⟩, ⟨(some (.l (.l (.l (.l .h))))), .q (.mv (.t (.r (.l (.l (.r .h)))))), none⟩])
theorem w26_21 (k : Kn) (s : St) (R : Ex → St → Prop) : Wp b26_21 k s R = Wp (.reg [⟨(some (.r (.l (.l (.r .h))))), .q (.bi .eql (.t (.l (.l .h))) (.c (.i .i64 16))), none⟩, ⟨(some (.l (.l (.l (.l .h))))), .q (.mv (.t (.r (.l (.l (.r .h)))))), none⟩]) k s R := rfl
noncomputable def b26_22 : CC := (.reg [⟨(some (.l (.r (.l (.r .h))))), .q (.bi .eql (.t (.l (.l .h))) (.c (.i .i64 17))), none⟩, ⟨(some (.l (.l (.l (.l .h))))), .q (.mv (.t (.l (.r (.l (.r .h)))))), none⟩])
theorem w26_22 (k : Kn) (s : St) (R : Ex → St → Prop) : Wp b26_22 k s R = Wp (.reg [⟨(some (.l (.r (.l (.r .h))))), .q (.bi .eql (.t (.l (.l .h))) (.c (.i .i64 17))), none⟩, ⟨(some (.l (.l (.l (.l .h))))), .q (.mv (.t (.l (.r (.l (.r .h)))))), none⟩]) k s R := rfl
noncomputable def b26_23 : CC := (.seq b26_21 (.cond (.t (.l (.l (.l (.l .h))))) .skip b26_22))
theorem w26_23 (k : Kn) (s : St) (R : Ex → St → Prop) : Wp b26_23 k s R = Wp (.seq b26_21 (.cond (.t (.l (.l (.l (.l .h))))) .skip b26_22)) k s R := rfl
noncomputable def b26_24 : CC := (.seq b26_20 (.cond (.t (.l (.l (.l (.l .h))))) .skip b26_23))
theorem w26_24 (k : Kn) (s : St) (R : Ex → St → Prop) : Wp b26_24 k s R = Wp (.seq b26_20 (.cond (.t (.l (.l (.l (.l .h))))) .skip b26_23)) k s R := rfl
noncomputable def b26_25 : CC := (.seq b26_19 (.cond (.t (.l (.l (.l (.l .h))))) .skip b26_24))
theorem w26_25 (k : Kn) (s : St) (R : Ex → St → Prop) : Wp b26_25 k s R = Wp (.seq b26_19 (.cond (.t (.l (.l (.l (.l .h))))) .skip b26_24)) k s R := rfl
noncomputable def b26_26 : CC := (.seq b26_18 (.cond (.t (.l (.l (.l (.l .h))))) .skip b26_25))
theorem w26_26 (k : Kn) (s : St) (R : Ex → St → Prop) : Wp b26_26 k s R = Wp (.seq b26_18 (.cond (.t (.l (.l (.l (.l .h))))) .skip b26_25)) k s R := rfl
noncomputable def b26_27 : CC := (.seq b26_17 (.cond (.t (.l (.l (.l (.l .h))))) .skip b26_26))
theorem w26_27 (k : Kn) (s : St) (R : Ex → St → Prop) : Wp b26_27 k s R = Wp (.seq b26_17 (.cond (.t (.l (.l (.l (.l .h))))) .skip b26_26)) k s R := rfl
noncomputable def b26_28 : CC := (.seq b26_16 (.cond (.t (.l (.l (.l (.l .h))))) .skip b26_27))
theorem w26_28 (k : Kn) (s : St) (R : Ex → St → Prop) : Wp b26_28 k s R = Wp (.seq b26_16 (.cond (.t (.l (.l (.l (.l .h))))) .skip b26_27)) k s R := rfl
noncomputable def b26_29 : CC := (.seq b26_15 (.cond (.t (.l (.l (.l (.l .h))))) .skip b26_28))
theorem w26_29 (k : Kn) (s : St) (R : Ex → St → Prop) : Wp b26_29 k s R = Wp (.seq b26_15 (.cond (.t (.l (.l (.l (.l .h))))) .skip b26_28)) k s R := rfl
noncomputable def b26_30 : CC := (.seq b26_14 (.cond (.t (.l (.l (.l (.l .h))))) .skip b26_29))
theorem w26_30 (k : Kn) (s : St) (R : Ex → St → Prop) : Wp b26_30 k s R = Wp (.seq b26_14 (.cond (.t (.l (.l (.l (.l .h))))) .skip b26_29)) k s R := rfl
noncomputable def b26_31 : CC := (.seq b26_13 (.cond (.t (.l (.l (.l (.l .h))))) .skip b26_30))
theorem w26_31 (k : Kn) (s : St) (R : Ex → St → Prop) : Wp b26_31 k s R = Wp (.seq b26_13 (.cond (.t (.l (.l (.l (.l .h))))) .skip b26_30)) k s R := rfl
noncomputable def b26_32 : CC := (.seq (.reg [⟨(some (.r .h)), .q (.mv (.c (.i .i64 5))), none⟩]) .ret)
theorem w26_32 (k : Kn) (s : St) (R : Ex → St → Prop) : Wp b26_32 k s R = Wp (.seq (.reg [⟨(some (.r .h)), .q (.mv (.c (.i .i64 5))), none⟩]) .ret) k s R := rfl
noncomputable def b26_33 : CC := (.reg [⟨(some (.l (.l (.r (.r .h))))), .q (.bi .eql (.t (.l (.l .h))) (.c (.i .i64 18))), none⟩, ⟨(some (.r (.r (.l (.r .h))))), .q (.mv (.t (.l (.l (.r (.r .h)))))), none⟩])
theorem w26_33 (k : Kn) (s : St) (R : Ex → St → Prop) : Wp b26_33 k s R = Wp (.reg [⟨(some (.l (.l (.r (.r .h))))), .q (.bi .eql (.t (.l (.l .h))) (.c (.i .i64 18))), none⟩, ⟨(some (.r (.r (.l (.r .h))))), .q (.mv (.t (.l (.l (.r (.r .h)))))), none⟩]) k s R := rfl
noncomputable def b26_34 : CC := (.reg [⟨(some (.r (.l (.r (.r .h))))), .q (.bi .eql (.t (.l (.l .h))) (.c (.i .i64 19))), none⟩, ⟨(some (.r (.r (.l (.r .h))))), .q (.mv (.t (.r (.l (.r (.r .h)))))), none⟩])
theorem w26_34 (k : Kn) (s : St) (R : Ex → St → Prop) : Wp b26_34 k s R = Wp (.reg [⟨(some (.r (.l (.r (.r .h))))), .q (.bi .eql (.t (.l (.l .h))) (.c (.i .i64 19))), none⟩, ⟨(some (.r (.r (.l (.r .h))))), .q (.mv (.t (.r (.l (.r (.r .h)))))), none⟩]) k s R := rfl
noncomputable def b26_35 : CC := (.reg [⟨(some (.l (.r (.r (.r .h))))), .q (.bi .eql (.t (.l (.l .h))) (.c (.i .i64 20))), none⟩, ⟨(some (.r (.r (.l (.r .h))))), .q (.mv (.t (.l (.r (.r (.r .h)))))), none⟩])
theorem w26_35 (k : Kn) (s : St) (R : Ex → St → Prop) : Wp b26_35 k s R = Wp (.reg [⟨(some (.l (.r (.r (.r .h))))), .q (.bi .eql (.t (.l (.l .h))) (.c (.i .i64 20))), none⟩, ⟨(some (.r (.r (.l (.r .h))))), .q (.mv (.t (.l (.r (.r (.r .h)))))), none⟩]) k s R := rfl
noncomputable def b26_36 : CC := (.reg [⟨(some (.r (.r (.r (.r .h))))), .q (.bi .eql (.t (.l (.l .h))) (.c (.i .i64 21))), none⟩, ⟨(some (.r (.r (.l (.r .h))))), .q (.mv (.t (.r (.r (.r (.r .h)))))), none⟩])
theorem w26_36 (k : Kn) (s : St) (R : Ex → St → Prop) : Wp b26_36 k s R = Wp (.reg [⟨(some (.r (.r (.r (.r .h))))), .q (.bi .eql (.t (.l (.l .h))) (.c (.i .i64 21))), none⟩, ⟨(some (.r (.r (.l (.r .h))))), .q (.mv (.t (.r (.r (.r (.r .h)))))), none⟩]) k s R := rfl
noncomputable def b26_37 : CC := (.reg [⟨(some (.l (.l (.l (.l (.l .h)))))), .q (.bi .eql (.t (.l (.l .h))) (.c (.i .i64 22))), none⟩, ⟨(some (.r (.r (.l (.r .h))))), .q (.mv (.t (.l (.l (.l (.l (.l .h))))))), none⟩])
theorem w26_37 (k : Kn) (s : St) (R : Ex → St → Prop) : Wp b26_37 k s R = Wp (.reg [⟨(some (.l (.l (.l (.l (.l .h)))))), .q (.bi .eql (.t (.l (.l .h))) (.c (.i .i64 22))), none⟩, ⟨(some (.r (.r (.l (.r .h))))), .q (.mv (.t (.l (.l (.l (.l (.l .h))))))), none⟩]) k s R := rfl
noncomputable def b26_38 : CC := (.reg [⟨(some (.r (.l (.l (.l (.l .h)))))), .q (.bi .eql (.t (.l (.l .h))) (.c (.i .i64 26))), none⟩, ⟨(some (.r (.r (.l (.r .h))))), .q (.mv (.t (.r (.l (.l (.l (.l .h))))))), none⟩])
theorem w26_38 (k : Kn) (s : St) (R : Ex → St → Prop) : Wp b26_38 k s R = Wp (.reg [⟨(some (.r (.l (.l (.l (.l .h)))))), .q (.bi .eql (.t (.l (.l .h))) (.c (.i .i64 26))), none⟩, ⟨(some (.r (.r (.l (.r .h))))), .q (.mv (.t (.r (.l (.l (.l (.l .h))))))), none⟩]) k s R := rfl
noncomputable def b26_39 : CC := (.reg [⟨(some (.l (.r (.l (.l (.l .h)))))), .q (.bi .eql (.t (.l (.l .h))) (.c (.i .i64 27))), none⟩, ⟨(some (.r (.r (.l (.r .h))))), .q (.mv (.t (.l (.r (.l (.l (.l .h))))))), none⟩])
theorem w26_39 (k : Kn) (s : St) (R : Ex → St → Prop) : Wp b26_39 k s R = Wp (.reg [⟨(some (.l (.r (.l (.l (.l .h)))))), .q (.bi .eql (.t (.l (.l .h))) (.c (.i .i64 27))), none⟩, ⟨(some (.r (.r (.l (.r .h))))), .q (.mv (.t (.l (.r (.l (.l (.l .h))))))), none⟩]) k s R := rfl
noncomputable def b26_40 : CC := (.reg [⟨(some (.r (.r (.l (.l (.l .h)))))), .q (.bi .eql (.t (.l (.l .h))) (.c (.i .i64 28))), none⟩, ⟨(some (.r (.r (.l (.r .h))))), .q (.mv (.t (.r (.r (.l (.l (.l .h))))))), none⟩])
theorem w26_40 (k : Kn) (s : St) (R : Ex → St → Prop) : Wp b26_40 k s R = Wp (.reg [⟨(some (.r (.r (.l (.l (.l .h)))))), .q (.bi .eql (.t (.l (.l .h))) (.c (.i .i64 28))), none⟩, ⟨(some (.r (.r (.l (.r .h))))), .q (.mv (.t (.r (.r (.l (.l (.l .h))))))), none⟩]) k s R := rfl
noncomputable def b26_41 : CC := (.seq b26_39 (.cond (.t (.r (.r (.l (.r .h))))) .skip b26_40))
theorem w26_41 (k : Kn) (s : St) (R : Ex → St → Prop) : Wp b26_41 k s R = Wp (.seq b26_39 (.cond (.t (.r (.r (.l (.r .h))))) .skip b26_40)) k s R := rfl
noncomputable def b26_42 : CC := (.seq b26_38 (.cond (.t (.r (.r (.l (.r .h))))) .skip b26_41))
theorem w26_42 (k : Kn) (s : St) (R : Ex → St → Prop) : Wp b26_42 k s R = Wp (.seq b26_38 (.cond (.t (.r (.r (.l (.r .h))))) .skip b26_41)) k s R := rfl
noncomputable def b26_43 : CC := (.seq b26_37 (.cond (.t (.r (.r (.l (.r .h))))) .skip b26_42))
theorem w26_43 (k : Kn) (s : St) (R : Ex → St → Prop) : Wp b26_43 k s R = Wp (.seq b26_37 (.cond (.t (.r (.r (.l (.r .h))))) .skip b26_42)) k s R := rfl
noncomputable def b26_44 : CC := (.seq b26_36 (.cond (.t (.r (.r (.l (.r .h))))) .skip b26_43))
theorem w26_44 (k : Kn) (s : St) (R : Ex → St → Prop) : Wp b26_44 k s R = Wp (.seq b26_36 (.cond (.t (.r (.r (.l (.r .h))))) .skip b26_43)) k s R := rfl
noncomputable def b26_45 : CC := (.seq b26_35 (.cond (.t (.r (.r (.l (.r .h))))) .skip b26_44))
theorem w26_45 (k : Kn) (s : St) (R : Ex → St → Prop) : Wp b26_45 k s R = Wp (.seq b26_35 (.cond (.t (.r (.r (.l (.r .h))))) .skip b26_44)) k s R := rfl
noncomputable def b26_46 : CC := (.seq b26_34 (.cond (.t (.r (.r (.l (.r .h))))) .skip b26_45))
theorem w26_46 (k : Kn) (s : St) (R : Ex → St → Prop) : Wp b26_46 k s R = Wp (.seq b26_34 (.cond (.t (.r (.r (.l (.r .h))))) .skip b26_45)) k s R := rfl
noncomputable def b26_47 : CC := (.seq b26_33 (.cond (.t (.r (.r (.l (.r .h))))) .skip b26_46))
theorem w26_47 (k : Kn) (s : St) (R : Ex → St → Prop) : Wp b26_47 k s R = Wp (.seq b26_33 (.cond (.t (.r (.r (.l (.r .h))))) .skip b26_46)) k s R := rfl
noncomputable def b26_48 : CC := (.seq (.reg [⟨(some (.r .h)), .q (.mv (.c (.i .i64 6))), none⟩]) .ret)
theorem w26_48 (k : Kn) (s : St) (R : Ex → St → Prop) : Wp b26_48 k s R = Wp (.seq (.reg [⟨(some (.r .h)), .q (.mv (.c (.i .i64 6))), none⟩]) .ret) k s R := rfl
noncomputable def b26_49 : CC := (.seq b26_47 (.cond (.t (.r (.r (.l (.r .h))))) b26_48 .skip))
theorem w26_49 (k : Kn) (s : St) (R : Ex → St → Prop) : Wp b26_49 k s R = Wp (.seq b26_47 (.cond (.t (.r (.r (.l (.r .h))))) b26_48 .skip)) k s R := rfl
noncomputable def b26_50 : CC := (.seq b26_31 (.cond (.t (.l (.l (.l (.l .h))))) b26_32 b26_49))
theorem w26_50 (k : Kn) (s : St) (R : Ex → St → Prop) : Wp b26_50 k s R = Wp (.seq b26_31 (.cond (.t (.l (.l (.l (.l .h))))) b26_32 b26_49)) k s R := rfl
noncomputable def b26_51 : CC := (.cond (.t (.l (.r (.l .h)))) b26_10 (.seq b26_11 (.cond (.t (.l (.r (.r .h)))) b26_12 b26_50)))
theorem w26_51 (k : Kn) (s : St) (R : Ex → St → Prop) : Wp b26_51 k s R = Wp (.cond (.t (.l (.r (.l .h)))) b26_10 (.seq b26_11 (.cond (.t (.l (.r (.r .h)))) b26_12 b26_50))) k s R := rfl
noncomputable def b26_52 : CC := (.cond (.t (.l (.l (.l .h)))) b26_5 (.seq (.seq b26_6 b26_9) b26_51))
theorem w26_52 (k : Kn) (s : St) (R : Ex → St → Prop) : Wp b26_52 k s R = Wp (.cond (.t (.l (.l (.l .h)))) b26_5 (.seq (.seq b26_6 b26_9) b26_51)) k s R := rfl
noncomputable def b26_53 : CC := (.seq (.seq b26_1 (.cond (.t (.r (.l .h))) .skip b26_2)) (.cond (.t (.r (.l .h))) b26_3 (.seq b26_4 b26_52)))
theorem w26_53 (k : Kn) (s : St) (R : Ex → St → Prop) : Wp b26_53 k s R = Wp (.seq (.seq b26_1 (.cond (.t (.r (.l .h))) .skip b26_2)) (.cond (.t (.r (.l .h))) b26_3 (.seq b26_4 b26_52))) k s R := rfl
noncomputable def b26_54 : CC := (.seq (.reg [⟨(some (.l (.l .h))), .q (.mv (.t .h)), none⟩]) (.block 0 b26_53))
theorem w26_54 (k : Kn) (s : St) (R : Ex → St → Prop) : Wp b26_54 k s R = Wp (.seq (.reg [⟨(some (.l (.l .h))), .q (.mv (.t .h)), none⟩]) (.block 0 b26_53)) k s R := rfl
noncomputable def b26_55 : CC := (.seq (.reg [⟨(some (.r .h)), .q (.mv (.c (.i .i64 0))), none⟩]) .ret)
theorem w26_55 (k : Kn) (s : St) (R : Ex → St → Prop) : Wp b26_55 k s R = Wp (.seq (.reg [⟨(some (.r .h)), .q (.mv (.c (.i .i64 0))), none⟩]) .ret) k s R := rfl
noncomputable def b26_56 : CC := (.seq (.reg [⟨(some (.r .h)), .q (.mv (.c (.i .i64 0))), none⟩]) (.seq b26_54 b26_55))
theorem w26_56 (k : Kn) (s : St) (R : Ex → St → Prop) : Wp b26_56 k s R = Wp (.seq (.reg [⟨(some (.r .h)), .q (.mv (.c (.i .i64 0))), none⟩]) (.seq b26_54 b26_55)) k s R := rfl
noncomputable def c26 : CF := .mk 6 [.t (.r .h)] b26_56
theorem e26 (v0 : V) : argTr 6 [v0] = (.n (.n (.n (.n (.n (.n .e none .e) none (.n .e none .e)) none (.n (.n .e none .e) none (.n .e none .e))) none (.n (.n (.n .e none .e) none (.n .e none .e)) none (.n (.n .e none .e) none (.n .e none .e)))) none (.n (.n (.n (.n .e none .e) none (.n .e none .e)) none (.n (.n .e none .e) none (.n .e none .e))) none (.n (.n (.n .e none .e) none (.n .e none .e)) none (.n (.n .e none .e) none (.n .e none .e))))) (some v0) (.n (.n (.n (.n (.n .e none .e) none (.n .e none .e)) none (.n (.n .e none .e) none (.n .e none .e))) none (.n (.n (.n .e none .e) none (.n .e none .e)) none (.n (.n .e none .e) none (.n .e none .e)))) none (.n (.n (.n (.n .e none .e) none (.n .e none .e)) none (.n (.n .e none .e) none (.n .e none .e))) none (.n (.n (.n .e none .e) none (.n .e none .e)) none (.n (.n .e none .e) none (.n .e none .e)))))) := rfl
theorem t25 (Φ : Nat → Option CF) (h : Φ 25 = some c25) (op : Int) (ct : Nat) : To Φ 25 [.i .i64 op] ct (.i .i64 (formI op)) := by
  refine to_walk h ?_
  simp only [wp_seq, seqQ_nrm, wp_reg, wp_block, wo_nil, xo_q, putO, v_mv, v_bi, bi_eql, ev_t, ev_c, Tr.setP_h, Tr.setP_l, Tr.setP_r, getT_h, getT_l, getT_r, e25, w25_1, w25_13, w25_15, w25_18, w25_20, w25_28]
  repeat' first | (refine wp_cond (by simp only [ev_t, getT_h, getT_l, getT_r]; rfl) (fun h => ?_) (fun h => ?_) <;> simp only [wp_seq, seqQ_nrm, seqQ_ret, seqQ_ext, wp_reg, wp_ret, wp_skip, wp_exit, wp_block, blockQ_nrm, blockQ_ret, blockQ_ext, wo_nil, xo_q, wp_condT, putO, v_mv, v_bi, bi_geq, bi_eql, ev_t, ev_c, Tr.setP_h, Tr.setP_l, Tr.setP_r, getT_h, getT_l, getT_r, Nat.reduceEqDiff, endQ_ret, endO, resV_nil', resV_t, consO_some, oneV_one, if_true, if_false, reduceCtorEq, w25_2, w25_3, w25_4, w25_5, w25_6, w25_7, w25_8, w25_9, w25_10, w25_11, w25_12, w25_14, w25_16, w25_17, w25_19, w25_21, w25_22, w25_23, w25_24, w25_25, w25_26, w25_27, h]) | (refine wo_g (by simp only [getT_h, getT_l, getT_r]; rfl) (fun h => ?_) (fun h => ?_) <;> simp only [wp_seq, seqQ_nrm, seqQ_ret, wp_reg, wp_ret, wp_skip, blockQ_nrm, blockQ_ret, wo_nil, xo_q, wo_gT, wo_gF, wo_gU, wp_condT, wp_condF, putO, setT_some, v_mv, v_pk, pkV_T, pkV_F, v_bi, bi_leq, bi_geq, ev_t, ev_c, Tr.setP_h, Tr.setP_l, Tr.setP_r, getT_h, getT_l, getT_r, endQ_ret, endO, resV_nil', resV_t, consO_some, oneV_one, Bool.not_true, Bool.not_false, w25_23, w25_24, w25_25, w25_27, h])
  all_goals (simp only [decide_eq_true_eq, decide_eq_false_iff_not, Bool.not_true, Bool.not_false] at *; congr 1; unfold formI; repeat' split)
  all_goals first | rfl | omega
theorem t26 (Φ : Nat → Option CF) (h : Φ 26 = some c26) (op : Int) (ct : Nat) : To Φ 26 [.i .i64 op] ct (.i .i64 (formI op)) := by
  refine to_walk h ?_
  simp only [wp_seq, seqQ_nrm, wp_reg, wp_block, wo_nil, xo_q, putO, v_mv, v_bi, bi_eql, ev_t, ev_c, Tr.setP_h, Tr.setP_l, Tr.setP_r, getT_h, getT_l, getT_r, e26, w26_1, w26_53, w26_54, w26_56]
  repeat' first | (refine wp_cond (by simp only [ev_t, getT_h, getT_l, getT_r]; rfl) (fun h => ?_) (fun h => ?_) <;> simp only [wp_seq, seqQ_nrm, seqQ_ret, wp_reg, wp_ret, wp_skip, blockQ_nrm, blockQ_ret, wo_nil, xo_q, wp_condT, putO, v_mv, v_bi, bi_eql, ev_t, ev_c, Tr.setP_h, Tr.setP_l, Tr.setP_r, getT_h, getT_l, getT_r, endQ_ret, endO, resV_nil', resV_t, consO_some, oneV_one, w26_2, w26_3, w26_4, w26_5, w26_6, w26_7, w26_8, w26_9, w26_10, w26_11, w26_12, w26_13, w26_14, w26_15, w26_16, w26_17, w26_18, w26_19, w26_20, w26_21, w26_22, w26_23, w26_24, w26_25, w26_26, w26_27, w26_28, w26_29, w26_30, w26_31, w26_32, w26_33, w26_34, w26_35, w26_36, w26_37, w26_38, w26_39, w26_40, w26_41, w26_42, w26_43, w26_44, w26_45, w26_46, w26_47, w26_48, w26_49, w26_50, w26_51, w26_52, w26_55, h]) | (refine wo_g (by simp only [wp_dreg, wd_e1, befB_nil, befB_cons, Nat.reducePow, Nat.reduceDiv, Nat.reduceMod, putDE, roFree_nil, roFree_cons, get_ne, Tr.get_e, isNone_none', dregQ_eq, mergeAll_nil, wd_nil, wd_q, putD_v, putD_r, oV_some, dq_mv, dq_ci, dq_bi0, biQ_i, dq_ex, dq_ld0, ldQ_p, ldR_some, dq_iaS, v_iaS, lnSl, lnL_l, lnL_u, lnL_l0, lnL_ue, wp_seq, seqQ_nrm, seqQ_ret, seqQ_ext, wp_reg, wp_ret, wp_skip, wp_exit, wp_block, blockQ_nrm, blockQ_ret, blockQ_ext, loopQ_nrm, loopQ_ret, loopQ_ext, wo_nil, xo_q, xo_a, xo_e, xo_e0, wo_gT, wo_gF, wo_gU, wp_condT, wp_condF, putO, putA, putE, putE0, setT_some, setT_none, v_mv, v_pk, pkV_T, pkV_F, v_bi, bi_sub, bi_lss, bi_gtr, bi_leq, bi_geq, bi_eql, bi_neq, v_un, un_not, v_ln, lnS, v_ixS, v_ld1, v_ldn, ld1_p, ldn_p, load1_same, v_fa, e_st_eq, er_some, xo_call, callC_orc, ev_t, ev_c, evs_nil, evs_cons, Tr.setP_h, Tr.setP_l, Tr.setP_r, getT_h, getT_n, getT_l, getT_r, Nat.reduceBEq, Nat.reduceEqDiff, Int.reduceEq, Int.reduceLT, Int.reduceLE, cond_true, cond_false, List.getElem?_cons_zero, List.getElem?_cons_succ, Option.getD_some, endQ_nrm, endQ_ret, endO, resV_nil', resV_t, consO_some, oneV_one, oneV_two, Bool.not_true, Bool.not_false, Bool.false_eq_true, Bool.true_eq_false, decide_true, decide_false, if_true, if_false, ite_true, ite_false, reduceIte, reduceCtorEq, pureO_of, ofO_some, flatten_b, flatten_i, flatten_s, flatten_p, flatten_p0, flatten_l, flatten_u, flatten_l0, flatten_m, flatten_m0, flatten_f, flatten_f0, flatten_g, allOne_nil, allOne_cons, isOne_b, isOne_i, isOne_s, isOne_p, isOne_p0, isOne_l, isOne_u, isOne_l0, isOne_m, isOne_f, isOne_f0, Bool.and_true, Bool.true_and, evP_nil, evP_cons, fillV_nil, fillV_cons, over_nil, over_cons, List.set_cons_zero, List.set_cons_succ, List.length_cons, List.length_nil, Nat.reduceAdd, Nat.reduceLeDiff, Nat.zero_add, and_self, and_true, true_and, v_bld, replL_over, v_fl1, v_fln, v_ex, v_ci, andO_some, eqAt_some, eqAll_nil, eqAll_cons, negO_F, negO_T, v_eq, eqV_agg, eqV_int, eq1_int, eq1_bool, xo_cv, callV_f, v_mkf, resV_cn, resV_c1, List.nil_append, List.append_nil, List.cons_append, load1_ne, loadN_ne, loadN_same, storeN_same, storeN_ne', mapS_some, a_al_eq, a_bx_eq, List.drop_zero, List.take_succ_cons, List.take_zero, List.take_nil, List.drop_succ_cons, Option.map_some, v_ixA1, ixA1_g, ne_add0, ne_add1, ne_add, Nat.add_assoc, x_app_eq, v_slL, v_bs, a_bsl_w, evPs_nil, evPs_cons, partsR_nil, partsR_cons, bslO_some, Option.isSome_some, Option.map_none, v_slS, lnSs, bi_seq, bi_sne, eq1_str, eqV_str, wd_gT, wd_gF, wd_gU, dq_ldn0, ldnQ_p, ldnR_some, dq_pk, dq_un, dq_eq, shOk_agg, shOks_nil, shOks_cons, shOk1_int, shOk1_bool, shOk1_str, eqV_bool, shOk_int, shOk_bool, shOk_str, dq_fa, putDP, a_mks_w, roundQ_nrm, roundQ_ret, roundQ_ext, decide_eq_true_eq, or_self, or_true, or_false, true_or, false_or, and_false, false_and]; rfl) (fun h => ?_) (fun h => ?_) <;> simp only [wp_dreg, wd_e1, befB_nil, befB_cons, Nat.reducePow, Nat.reduceDiv, Nat.reduceMod, putDE, roFree_nil, roFree_cons, get_ne, Tr.get_e, isNone_none', dregQ_eq, mergeAll_nil, wd_nil, wd_q, putD_v, putD_r, oV_some, dq_mv, dq_ci, dq_bi0, biQ_i, dq_ex, dq_ld0, ldQ_p, ldR_some, dq_iaS, v_iaS, lnSl, lnL_l, lnL_u, lnL_l0, lnL_ue, wp_seq, seqQ_nrm, seqQ_ret, seqQ_ext, wp_reg, wp_ret, wp_skip, wp_exit, wp_block, blockQ_nrm, blockQ_ret, blockQ_ext, loopQ_nrm, loopQ_ret, loopQ_ext, wo_nil, xo_q, xo_a, xo_e, xo_e0, wo_gT, wo_gF, wo_gU, wp_condT, wp_condF, putO, putA, putE, putE0, setT_some, setT_none, v_mv, v_pk, pkV_T, pkV_F, v_bi, bi_sub, bi_lss, bi_gtr, bi_leq, bi_geq, bi_eql, bi_neq, v_un, un_not, v_ln, lnS, v_ixS, v_ld1, v_ldn, ld1_p, ldn_p, load1_same, v_fa, e_st_eq, er_some, xo_call, callC_orc, ev_t, ev_c, evs_nil, evs_cons, Tr.setP_h, Tr.setP_l, Tr.setP_r, getT_h, getT_n, getT_l, getT_r, Nat.reduceBEq, Nat.reduceEqDiff, Int.reduceEq, Int.reduceLT, Int.reduceLE, cond_true, cond_false, List.getElem?_cons_zero, List.getElem?_cons_succ, Option.getD_some, endQ_nrm, endQ_ret, endO, resV_nil', resV_t, consO_some, oneV_one, oneV_two, Bool.not_true, Bool.not_false, Bool.false_eq_true, Bool.true_eq_false, decide_true, decide_false, if_true, if_false, ite_true, ite_false, reduceIte, reduceCtorEq, pureO_of, ofO_some, flatten_b, flatten_i, flatten_s, flatten_p, flatten_p0, flatten_l, flatten_u, flatten_l0, flatten_m, flatten_m0, flatten_f, flatten_f0, flatten_g, allOne_nil, allOne_cons, isOne_b, isOne_i, isOne_s, isOne_p, isOne_p0, isOne_l, isOne_u, isOne_l0, isOne_m, isOne_f, isOne_f0, Bool.and_true, Bool.true_and, evP_nil, evP_cons, fillV_nil, fillV_cons, over_nil, over_cons, List.set_cons_zero, List.set_cons_succ, List.length_cons, List.length_nil, Nat.reduceAdd, Nat.reduceLeDiff, Nat.zero_add, and_self, and_true, true_and, v_bld, replL_over, v_fl1, v_fln, v_ex, v_ci, andO_some, eqAt_some, eqAll_nil, eqAll_cons, negO_F, negO_T, v_eq, eqV_agg, eqV_int, eq1_int, eq1_bool, xo_cv, callV_f, v_mkf, resV_cn, resV_c1, List.nil_append, List.append_nil, List.cons_append, load1_ne, loadN_ne, loadN_same, storeN_same, storeN_ne', mapS_some, a_al_eq, a_bx_eq, List.drop_zero, List.take_succ_cons, List.take_zero, List.take_nil, List.drop_succ_cons, Option.map_some, v_ixA1, ixA1_g, ne_add0, ne_add1, ne_add, Nat.add_assoc, x_app_eq, v_slL, v_bs, a_bsl_w, evPs_nil, evPs_cons, partsR_nil, partsR_cons, bslO_some, Option.isSome_some, Option.map_none, v_slS, lnSs, bi_seq, bi_sne, eq1_str, eqV_str, wd_gT, wd_gF, wd_gU, dq_ldn0, ldnQ_p, ldnR_some, dq_pk, dq_un, dq_eq, shOk_agg, shOks_nil, shOks_cons, shOk1_int, shOk1_bool, shOk1_str, eqV_bool, shOk_int, shOk_bool, shOk_str, dq_fa, putDP, a_mks_w, roundQ_nrm, roundQ_ret, roundQ_ext, decide_eq_true_eq, or_self, or_true, or_false, true_or, false_or, and_false, false_and, e26, w26_1, w26_2, w26_3, w26_4, w26_5, w26_6, w26_7, w26_8, w26_9, w26_10, w26_11, w26_12, w26_13, w26_14, w26_15, w26_16, w26_17, w26_18, w26_19, w26_20, w26_21, w26_22, w26_23, w26_24, w26_25, w26_26, w26_27, w26_28, w26_29, w26_30, w26_31, w26_32, w26_33, w26_34, w26_35, w26_36, w26_37, w26_38, w26_39, w26_40, w26_41, w26_42, w26_43, w26_44, w26_45, w26_46, w26_47, w26_48, w26_49, w26_50, w26_51, w26_52, w26_53, w26_54, w26_55, w26_56, h])
  all_goals (simp only [decide_eq_true_eq, decide_eq_false_iff_not] at *; congr 1; unfold formI; repeat' split)
  all_goals first | rfl | omega
theorem names53_bd : bds (fun _ => False) names53 := by unfold names53; simp [bds, bd]
theorem nameV_bd (op : Int) : bd (fun _ => False) (nameV op) := by
  unfold nameV
  split
  · cases hn : names53[op.toNat]? with
    | none => trivial
    | some x => exact (bds_iff _ _).1 names53_bd x (List.mem_of_getElem? hn)
  · trivial
theorem t10' (Φ : Nat → Option CF) (h : Φ 10 = some c10) (h37 : Φ 37 = some (.orc (pureO h37))) (op d a b i : Int) (ct : Nat) :
    To Φ 10 [.g [.i .i64 op, .i .i64 d, .i .i64 a, .i .i64 b, .i .i64 i]] ct (.t [.i .u32 (w10 op d a b i), .i .i64 (er10 op d a b i)]) := by
  have := t10 Φ h h37 op d a b i ct
  unfold w10 er10
  by_cases hm : mayI op d a b i = true
  · simp only [hm, if_true] at this ⊢; exact this
  · simp only [hm] at this ⊢; exact this
section
variable {P : Program} (hm : P.follows .mixedOrders = true) {Φ : Nat → Option CF} (hΦ : PhiOk P Φ)
include hm hΦ
theorem o25 (h : Φ 25 = some c25) : OrcOk P 25 (pureO h25) := pure_of hm hΦ (by
  intro args v ct hv hct; unfold h25 at hv; split at hv
  · obtain rfl := Option.some.inj hv; exact ⟨trivial, t25 Φ h _ _⟩
  · cases hv)
theorem o26 (h : Φ 26 = some c26) : OrcOk P 26 (pureO h25) := pure_of hm hΦ (by
  intro args v ct hv hct; unfold h25 at hv; split at hv
  · obtain rfl := Option.some.inj hv; exact ⟨trivial, t26 Φ h _ _⟩
  · cases hv)
theorem o40 (h : Φ 40 = some c40) : OrcOk P 40 (pureO h40) := pure_of hm hΦ (by
  intro args v ct hv hct; unfold h40 at hv; split at hv
  · obtain rfl := Option.some.inj hv; exact ⟨⟨trivial, trivial, trivial, trivial, trivial⟩, t40 Φ h _ _⟩
  · cases hv)
theorem o38 (h : Φ 38 = some c38) : OrcOk P 38 (pureO h38) := pure_of hm hΦ (by
  intro args v ct hv hct; unfold h38 at hv; split at hv
  · obtain rfl := Option.some.inj hv; exact ⟨⟨trivial, trivial, trivial, trivial, trivial⟩, t38 Φ h _ _⟩
  · cases hv)
theorem o57 (h : Φ 57 = some c57) : OrcOk P 57 (pureO h57) := pure_of hm hΦ (by
  intro args v ct hv hct; unfold h57 at hv; split at hv
  · obtain rfl := Option.some.inj hv; exact ⟨trivial, t57 Φ h _ _⟩
  · cases hv)
theorem o54 (h : Φ 54 = some c54) : OrcOk P 54 (pureO h54) := pure_of hm hΦ (by
  intro args v ct hv hct; unfold h54 at hv; split at hv
  · obtain rfl := Option.some.inj hv; exact ⟨trivial, t54 Φ h _ _⟩
  · cases hv)
theorem o39 (h : Φ 39 = some c39) : OrcOk P 39 (pureO h39) := pure_of hm hΦ (by
  intro args v ct hv hct; unfold h39 at hv; split at hv
  · obtain rfl := Option.some.inj hv; exact ⟨trivial, t39 Φ h _ _ _⟩
  · cases hv)
theorem o53 (h : Φ 53 = some c53) : OrcOk P 53 (pureO h53) := pure_of hm hΦ (by
  intro args v ct hv hct; unfold h53 at hv; split at hv
  · obtain rfl := Option.some.inj hv; exact ⟨names53_bd, t53 Φ h _⟩
  · cases hv)
theorem o24 (h : Φ 24 = some c24) (h53 : Φ 53 = some (.orc (pureO h53))) : OrcOk P 24 (pureO h24) := pure_of hm hΦ (by
  intro args v ct hv hct; unfold h24 at hv; split at hv
  · obtain rfl := Option.some.inj hv; exact ⟨nameV_bd _, t24 Φ h h53 _ _⟩
  · cases hv)
theorem o12 (h : Φ 12 = some c12) (h26 : Φ 26 = some (.orc (pureO h25))) (h38 : Φ 38 = some (.orc (pureO h38))) (h39 : Φ 39 = some (.orc (pureO h39))) : OrcOk P 12 (pureO h12) := pure_of hm hΦ (by
  intro args v ct hv hct; unfold h12 at hv; split at hv
  · obtain rfl := Option.some.inj hv; exact ⟨trivial, t12 Φ h h26 h38 h39 _ _ _ _ _ _⟩
  · cases hv)
theorem o37 (h : Φ 37 = some c37) (h25 : Φ 25 = some (.orc (pureO h25))) (h40 : Φ 40 = some (.orc (pureO h40))) (h54 : Φ 54 = some (.orc (pureO h54))) (h57 : Φ 57 = some (.orc (pureO h57))) (h24 : Φ 24 = some (.orc (pureO h24))) : OrcOk P 37 (pureO h37) := pure_of hm hΦ (by
  intro args v ct hv hct; unfold h37 at hv; split at hv
  · obtain rfl := Option.some.inj hv; exact ⟨trivial, t37 Φ h h25 h40 h54 h57 h24 _ _ _ _ _ _⟩
  · cases hv)
theorem o10 (h : Φ 10 = some c10) (h37 : Φ 37 = some (.orc (pureO h37))) : OrcOk P 10 (pureO h10) := pure_of hm hΦ (by
  intro args v ct hv hct; unfold h10 at hv; split at hv
  · obtain rfl := Option.some.inj hv; exact ⟨⟨trivial, trivial, trivial⟩, t10' Φ h h37 _ _ _ _ _ _⟩
  · cases hv)
theorem o13 (h : Φ 13 = some c13) (h26 : Φ 26 = some (.orc (pureO h25))) : OrcOk P 13 (pureO h13) := pure_of hm hΦ (by
  intro args v ct hv hct; unfold h13 at hv; split at hv
  · split at hv
    · obtain rfl := Option.some.inj hv; exact ⟨trivial, t13 Φ h h26 _ _ _ _ _ (by assumption) _⟩
    · cases hv
  · cases hv)
theorem o11 (h : Φ 11 = some c11) : OrcOk P 11 (pureO h11) := pure_of hm hΦ (by
  intro args v ct hv hct; unfold h11 at hv; split at hv
  · obtain rfl := Option.some.inj hv; exact ⟨trivial, t11 Φ h _ _⟩
  · cases hv)
end
end Go.Proofs.YtffpeieapadocaaGreatDoor.Ev
set_option maxRecDepth 10000
set_option maxHeartbeats 16000000
namespace Go.Proofs.YtffpeieapadocaaGreatDoor.Ev
open Go
noncomputable def b9_1 : CC := (.reg [⟨(some (.r .h)), .q (.mv (.c .l0)), none⟩, ⟨(some (.l (.l .h))), .q (.mv (.c (.i .i64 0))), none⟩])
theorem w9_1 (k : Kn) (s : St) (R : Ex → St → Prop) : Wp b9_1 k s R = Wp (.reg [⟨(some (.r .h)), .q (.mv (.c .l0)), none⟩, ⟨(some (.l (.l .h))), .q (.mv (.c (.i .i64 0))), none⟩]) k s R := rfl
noncomputable def b9_2 : CC := (.reg [⟨(some (.l (.r (.l .h)))), .q (.mv (.t .h)), none⟩, ⟨(some (.r (.r (.l .h)))), .q (.ln .slice (.t (.l (.r (.l .h))))), none⟩, ⟨(some (.l (.l (.r .h)))), .q (.bi .mul (.c (.i .i64 4)) (.t (.r (.r (.l .h))))), none⟩, ⟨(some (.r (.l (.r .h)))), .a (.mks 5 1 1 [(.i .u8 0)] (.c (.i .i64 0)) (.t (.l (.l (.r .h))))), none⟩, ⟨(some (.r (.l .h))), .q (.mv (.t (.r (.l (.r .h))))), none⟩])
theorem w9_2 (k : Kn) (s : St) (R : Ex → St → Prop) : Wp b9_2 k s R = Wp (.reg [⟨(some (.l (.r (.l .h)))), .q (.mv (.t .h)), none⟩, ⟨(some (.r (.r (.l .h)))), .q (.ln .slice (.t (.l (.r (.l .h))))), none⟩, ⟨(some (.l (.l (.r .h)))), .q (.bi .mul (.c (.i .i64 4)) (.t (.r (.r (.l .h))))), none⟩, ⟨(some (.r (.l (.r .h)))), .a (.mks 5 1 1 [(.i .u8 0)] (.c (.i .i64 0)) (.t (.l (.l (.r .h))))), none⟩, ⟨(some (.r (.l .h))), .q (.mv (.t (.r (.l (.r .h))))), none⟩]) k s R := rfl
noncomputable def b9_3 : CC := (.reg [⟨(some (.l (.r (.r .h)))), .q (.mv (.t .h)), none⟩, ⟨(some (.r (.r (.r .h)))), .q (.ln .slice (.t (.l (.r (.r .h))))), none⟩, ⟨(some (.l (.l (.l (.l .h))))), .q (.mv (.c (.i .i64 0))), none⟩])
theorem w9_3 (k : Kn) (s : St) (R : Ex → St → Prop) : Wp b9_3 k s R = Wp (.reg [⟨(some (.l (.r (.r .h)))), .q (.mv (.t .h)), none⟩, ⟨(some (.r (.r (.r .h)))), .q (.ln .slice (.t (.l (.r (.r .h))))), none⟩, ⟨(some (.l (.l (.l (.l .h))))), .q (.mv (.c (.i .i64 0))), none⟩]) k s R := rfl
noncomputable def b9_4 : CC := (.reg [⟨(some (.r (.l (.l (.l .h))))), .q (.bi .lss (.t (.l (.l (.l (.l .h))))) (.t (.r (.r (.r .h))))), none⟩])
theorem w9_4 (k : Kn) (s : St) (R : Ex → St → Prop) : Wp b9_4 k s R = Wp (.reg [⟨(some (.r (.l (.l (.l .h))))), .q (.bi .lss (.t (.l (.l (.l (.l .h))))) (.t (.r (.r (.r .h))))), none⟩]) k s R := rfl
noncomputable def b9_5 : CC := (.reg [⟨(some (.l (.r (.l (.l .h))))), .q (.iaS 5 (.t (.l (.r (.r .h)))) (.t (.l (.l (.l (.l .h)))))), none⟩, ⟨(some (.r (.r (.l (.l .h))))), .q (.ldn 5 (.t (.l (.r (.l (.l .h)))))), none⟩, ⟨(some (.r (.r .h))), .a (.al 26 [(.i .i64 0), (.i .i64 0), (.i .i64 0), (.i .i64 0), (.i .i64 0)]), none⟩, ⟨none, .e (.st 5 (.t (.r (.r .h))) (.t (.r (.r (.l (.l .h)))))), none⟩])
theorem w9_5 (k : Kn) (s : St) (R : Ex → St → Prop) : Wp b9_5 k s R = Wp (.reg [⟨(some (.l (.r (.l (.l .h))))), .q (.iaS 5 (.t (.l (.r (.r .h)))) (.t (.l (.l (.l (.l .h)))))), none⟩, ⟨(some (.r (.r (.l (.l .h))))), .q (.ldn 5 (.t (.l (.r (.l (.l .h)))))), none⟩, ⟨(some (.r (.r .h))), .a (.al 26 [(.i .i64 0), (.i .i64 0), (.i .i64 0), (.i .i64 0), (.i .i64 0)]), none⟩, ⟨none, .e (.st 5 (.t (.r (.r .h))) (.t (.r (.r (.l (.l .h)))))), none⟩]) k s R := rfl
noncomputable def b9_6 : CC := (.reg [⟨(some (.r (.l (.r (.l .h))))), .q (.ldn 5 (.t (.r (.r .h)))), none⟩, ⟨(some (.l (.r (.r (.l .h))))), .e (.call 10 [(.t (.r (.l (.r (.l .h)))))]), none⟩, ⟨(some (.l (.l (.r (.l .h))))), .q (.mv (.t (.l (.r (.r (.l .h)))))), none⟩, ⟨(some (.r (.r (.r (.l .h))))), .q (.ex 0 (.t (.l (.l (.r (.l .h)))))), none⟩, ⟨(some (.l (.l (.l (.r .h))))), .q (.ex 1 (.t (.l (.l (.r (.l .h)))))), none⟩, ⟨(some (.l (.l (.l .h)))), .q (.mv (.t (.r (.r (.r (.l .h)))))), none⟩, ⟨(some (.r (.l (.l .h)))), .q (.mv (.t (.l (.l (.l (.r .h)))))), none⟩])
theorem w9_6 (k : Kn) (s : St) (R : Ex → St → Prop) : Wp b9_6 k s R = Wp (.reg [⟨(some (.r (.l (.r (.l .h))))), .q (.ldn 5 (.t (.r (.r .h)))), none⟩, ⟨(some (.l (.r (.r (.l .h))))), .e (.call 10 [(.t (.r (.l (.r (.l .h)))))]), none⟩, ⟨(some (.l (.l (.r (.l .h))))), .q (.mv (.t (.l (.r (.r (.l .h)))))), none⟩, ⟨(some (.r (.r (.r (.l .h))))), .q (.ex 0 (.t (.l (.l (.r (.l .h)))))), none⟩, ⟨(some (.l (.l (.l (.r .h))))), .q (.ex 1 (.t (.l (.l (.r (.l .h)))))), none⟩, ⟨(some (.l (.l (.l .h)))), .q (.mv (.t (.r (.r (.r (.l .h)))))), none⟩, ⟨(some (.r (.l (.l .h)))), .q (.mv (.t (.l (.l (.l (.r .h)))))), none⟩]) k s R := rfl
noncomputable def b9_7 : CC := (.reg [⟨(some (.r (.l (.l (.r .h))))), .q (.mv (.t (.r (.l (.l .h))))), none⟩, ⟨(some (.l (.r (.l (.r .h))))), .q (.bi .neq (.t (.r (.l (.l (.r .h))))) (.c (.i .i64 0))), none⟩])
theorem w9_7 (k : Kn) (s : St) (R : Ex → St → Prop) : Wp b9_7 k s R = Wp (.reg [⟨(some (.r (.l (.l (.r .h))))), .q (.mv (.t (.r (.l (.l .h))))), none⟩, ⟨(some (.l (.r (.l (.r .h))))), .q (.bi .neq (.t (.r (.l (.l (.r .h))))) (.c (.i .i64 0))), none⟩]) k s R := rfl
noncomputable def b9_8 : CC := (.reg [⟨(some (.r (.r (.l (.r .h))))), .q (.mv (.t (.r (.l (.l .h))))), none⟩, ⟨(some (.r .h)), .q (.mv (.c .l0)), none⟩, ⟨(some (.l (.l .h))), .q (.mv (.t (.r (.r (.l (.r .h)))))), none⟩])
theorem w9_8 (k : Kn) (s : St) (R : Ex → St → Prop) : Wp b9_8 k s R = Wp (.reg [⟨(some (.r (.r (.l (.r .h))))), .q (.mv (.t (.r (.l (.l .h))))), none⟩, ⟨(some (.r .h)), .q (.mv (.c .l0)), none⟩, ⟨(some (.l (.l .h))), .q (.mv (.t (.r (.r (.l (.r .h)))))), none⟩]) k s R := rfl
noncomputable def b9_9 : CC := (.seq b9_7 (.cond (.t (.l (.r (.l (.r .h))))) (.seq b9_8 .ret) .skip))
theorem w9_9 (k : Kn) (s : St) (R : Ex → St → Prop) : Wp b9_9 k s R = Wp (.seq b9_7 (.cond (.t (.l (.r (.l (.r .h))))) (.seq b9_8 .ret) .skip)) k s R := rfl
noncomputable def b9_10 : CC := (.reg [⟨(some (.l (.l (.r (.r .h))))), .q (.mv (.t (.r (.l .h)))), none⟩, ⟨(some (.r (.l (.r (.r .h))))), .q (.mv (.t (.l (.l (.l .h))))), none⟩, ⟨(some (.l (.r (.r (.r .h))))), .q (.ci .u8 (.t (.r (.l (.r (.r .h)))))), none⟩, ⟨(some (.r (.r (.r (.r .h))))), .q (.mv (.t (.l (.l (.l .h))))), none⟩, ⟨(some (.l (.l (.l (.l (.l .h)))))), .q (.bi .shr (.t (.r (.r (.r (.r .h))))) (.c (.i .u64 8))), none⟩, ⟨(some (.r (.l (.l (.l (.l .h)))))), .q (.ci .u8 (.t (.l (.l (.l (.l (.l .h))))))), none⟩, ⟨(some (.l (.r (.l (.l (.l .h)))))), .q (.mv (.t (.l (.l (.l .h))))), none⟩, ⟨(some (.r (.r (.l (.l (.l .h)))))), .q (.bi .shr (.t (.l (.r (.l (.l (.l .h)))))) (.c (.i .u64 16))), none⟩, ⟨(some (.l (.l (.r (.l (.l .h)))))), .q (.ci .u8 (.t (.r (.r (.l (.l (.l .h))))))), none⟩, ⟨(some (.r (.l (.r (.l (.l .h)))))), .q (.mv (.t (.l (.l (.l .h))))), none⟩, ⟨(some (.l (.r (.r (.l (.l .h)))))), .q (.bi .shr (.t (.r (.l (.r (.l (.l .h)))))) (.c (.i .u64 24))), none⟩, ⟨(some (.r (.r (.r (.l (.l .h)))))), .q (.ci .u8 (.t (.l (.r (.r (.l (.l .h))))))), none⟩, ⟨(some (.l (.l (.l (.r (.l .h)))))), .a (.bsl 5 4 1 [(.i .u8 0)] [(0, (.t (.l (.r (.r (.r .h)))))), (1, (.t (.r (.l (.l (.l (.l .h))))))), (2, (.t (.l (.l (.r (.l (.l .h))))))), (3, (.t (.r (.r (.r (.l (.l .h)))))))]), none⟩, ⟨(some (.r (.l (.l (.r (.l .h)))))), .e (.app 5 1 1 (.t (.l (.l (.r (.r .h))))) (.t (.l (.l (.l (.r (.l .h))))))), none⟩, ⟨(some (.r (.l .h))), .q (.mv (.t (.r (.l (.l (.r (.l .h))))))), none⟩])
theorem w9_10 (k : Kn) (s : St) (R : Ex → St → Prop) : Wp b9_10 k s R = Wp (.reg [⟨(some (.l (.l (.r (.r .h))))), .q (.mv (.t (.r (.l .h)))), none⟩, ⟨(some (.r (.l (.r (.r .h))))), .q (.mv (.t (.l (.l (.l .h))))), none⟩, ⟨(some (.l (.r (.r (.r .h))))), .q (.ci .u8 (.t (.r (.l (.r (.r .h)))))), none⟩, ⟨(some (.r (.r (.r (.r .h))))), .q (.mv (.t (.l (.l (.l .h))))), none⟩, ⟨(some (.l (.l (.l (.l (.l .h)))))), .q (.bi .shr (.t (.r (.r (.r (.r .h))))) (.c (.i .u64 8))), none⟩, ⟨(some (.r (.l (.l (.l (.l .h)))))), .q (.ci .u8 (.t (.l (.l (.l (.l (.l .h))))))), none⟩, ⟨(some (.l (.r (.l (.l (.l .h)))))), .q (.mv (.t (.l (.l (.l .h))))), none⟩, ⟨(some (.r (.r (.l (.l (.l .h)))))), .q (.bi .shr (.t (.l (.r (.l (.l (.l .h)))))) (.c (.i .u64 16))), none⟩, ⟨(some (.l (.l (.r (.l (.l .h)))))), .q (.ci .u8 (.t (.r (.r (.l (.l (.l .h))))))), none⟩, ⟨(some (.r (.l (.r (.l (.l .h)))))), .q (.mv (.t (.l (.l (.l .h))))), none⟩, ⟨(some (.l (.r (.r (.l (.l .h)))))), .q (.bi .shr (.t (.r (.l (.r (.l (.l .h)))))) (.c (.i .u64 24))), none⟩, ⟨(some (.r (.r (.r (.l (.l .h)))))), .q (.ci .u8 (.t (.l (.r (.r (.l (.l .h))))))), none⟩, ⟨(some (.l (.l (.l (.r (.l .h)))))), .a (.bsl 5 4 1 [(.i .u8 0)] [(0, (.t (.l (.r (.r (.r .h)))))), (1, (.t (.r (.l (.l (.l (.l .h))))))), (2, (.t (.l (.l (.r (.l (.l .h))))))), (3, (.t (.r (.r (.r (.l (.l .h)))))))]), none⟩, ⟨(some (.r (.l (.l (.r (.l .h)))))), .e (.app 5 1 1 (.t (.l (.l (.r (.r .h))))) (.t (.l (.l (.l (.r (.l .h))))))), none⟩, ⟨(some (.r (.l .h))), .q (.mv (.t (.r (.l (.l (.r (.l .h))))))), none⟩]) k s R := rfl
noncomputable def b9_11 : CC := (.reg [⟨(some (.l (.r (.l (.r (.l .h)))))), .q (.bi .add (.t (.l (.l (.l (.l .h))))) (.c (.i .i64 1))), none⟩, ⟨(some (.l (.l (.l (.l .h))))), .q (.mv (.t (.l (.r (.l (.r (.l .h))))))), none⟩])
theorem w9_11 (k : Kn) (s : St) (R : Ex → St → Prop) : Wp b9_11 k s R = Wp (.reg [⟨(some (.l (.r (.l (.r (.l .h)))))), .q (.bi .add (.t (.l (.l (.l (.l .h))))) (.c (.i .i64 1))), none⟩, ⟨(some (.l (.l (.l (.l .h))))), .q (.mv (.t (.l (.r (.l (.r (.l .h))))))), none⟩]) k s R := rfl
noncomputable def b9_12 : CC := (.seq (.block 1 (.seq b9_5 (.seq b9_6 (.seq b9_9 b9_10)))) b9_11)
theorem w9_12 (k : Kn) (s : St) (R : Ex → St → Prop) : Wp b9_12 k s R = Wp (.seq (.block 1 (.seq b9_5 (.seq b9_6 (.seq b9_9 b9_10)))) b9_11) k s R := rfl
noncomputable def b9_13 : CC := (.seq (.cond (.t (.r (.l (.l (.l .h))))) .skip (.exit 0)) b9_12)
theorem w9_13 (k : Kn) (s : St) (R : Ex → St → Prop) : Wp b9_13 k s R = Wp (.seq (.cond (.t (.r (.l (.l (.l .h))))) .skip (.exit 0)) b9_12) k s R := rfl
noncomputable def b9_14 : CC := (.reg [⟨(some (.r (.r (.l (.r (.l .h)))))), .q (.mv (.t (.r (.l .h)))), none⟩, ⟨(some (.r .h)), .q (.mv (.t (.r (.r (.l (.r (.l .h))))))), none⟩, ⟨(some (.l (.l .h))), .q (.mv (.c (.i .i64 0))), none⟩])
theorem w9_14 (k : Kn) (s : St) (R : Ex → St → Prop) : Wp b9_14 k s R = Wp (.reg [⟨(some (.r (.r (.l (.r (.l .h)))))), .q (.mv (.t (.r (.l .h)))), none⟩, ⟨(some (.r .h)), .q (.mv (.t (.r (.r (.l (.r (.l .h))))))), none⟩, ⟨(some (.l (.l .h))), .q (.mv (.c (.i .i64 0))), none⟩]) k s R := rfl
noncomputable def b9_15 : CC := (.seq (.seq b9_3 (.block 0 (.loop (.seq b9_4 b9_13)))) (.seq b9_14 .ret))
theorem w9_15 (k : Kn) (s : St) (R : Ex → St → Prop) : Wp b9_15 k s R = Wp (.seq (.seq b9_3 (.block 0 (.loop (.seq b9_4 b9_13)))) (.seq b9_14 .ret)) k s R := rfl
noncomputable def c9 : CF := .mk 6 [.t (.r .h), .t (.l (.l .h))] (.seq b9_1 (.seq b9_2 b9_15))
theorem e9 (v0 : V) : argTr 6 [v0] = (.n (.n (.n (.n (.n (.n .e none .e) none (.n .e none .e)) none (.n (.n .e none .e) none (.n .e none .e))) none (.n (.n (.n .e none .e) none (.n .e none .e)) none (.n (.n .e none .e) none (.n .e none .e)))) none (.n (.n (.n (.n .e none .e) none (.n .e none .e)) none (.n (.n .e none .e) none (.n .e none .e))) none (.n (.n (.n .e none .e) none (.n .e none .e)) none (.n (.n .e none .e) none (.n .e none .e))))) (some v0) (.n (.n (.n (.n (.n .e none .e) none (.n .e none .e)) none (.n (.n .e none .e) none (.n .e none .e))) none (.n (.n (.n .e none .e) none (.n .e none .e)) none (.n (.n .e none .e) none (.n .e none .e)))) none (.n (.n (.n (.n .e none .e) none (.n .e none .e)) none (.n (.n .e none .e) none (.n .e none .e))) none (.n (.n (.n .e none .e) none (.n .e none .e)) none (.n (.n .e none .e) none (.n .e none .e)))))) := rfl
noncomputable def b14_1 : CC := (.reg [⟨(some (.l (.l .h))), .q (.mv (.t .h)), none⟩, ⟨(some (.r (.l .h))), .q (.ci .u8 (.t (.l (.l .h)))), none⟩, ⟨(some (.l (.r .h))), .q (.mv (.t .h)), none⟩, ⟨(some (.r (.r .h))), .q (.bi .shr (.t (.l (.r .h))) (.c (.i .u64 8))), none⟩, ⟨(some (.l (.l (.l .h)))), .q (.ci .u8 (.t (.r (.r .h)))), none⟩, ⟨(some (.r (.l (.l .h)))), .q (.mv (.t .h)), none⟩, ⟨(some (.l (.r (.l .h)))), .q (.bi .shr (.t (.r (.l (.l .h)))) (.c (.i .u64 16))), none⟩, ⟨(some (.r (.r (.l .h)))), .q (.ci .u8 (.t (.l (.r (.l .h))))), none⟩, ⟨(some (.l (.l (.r .h)))), .q (.mv (.t .h)), none⟩, ⟨(some (.r (.l (.r .h)))), .q (.bi .shr (.t (.l (.l (.r .h)))) (.c (.i .u64 24))), none⟩, ⟨(some (.l (.r (.r .h)))), .q (.ci .u8 (.t (.r (.l (.r .h))))), none⟩, ⟨(some (.r (.r (.r .h)))), .a (.bsl 5 4 1 [(.i .u8 0)] [(0, (.t (.r (.l .h)))), (1, (.t (.l (.l (.l .h))))), (2, (.t (.r (.r (.l .h))))), (3, (.t (.l (.r (.r .h)))))]), none⟩, ⟨(some (.r .h)), .q (.mv (.t (.r (.r (.r .h))))), none⟩])
theorem w14_1 (k : Kn) (s : St) (R : Ex → St → Prop) : Wp b14_1 k s R = Wp (.reg [⟨(some (.l (.l .h))), .q (.mv (.t .h)), none⟩, ⟨(some (.r (.l .h))), .q (.ci .u8 (.t (.l (.l .h)))), none⟩, ⟨(some (.l (.r .h))), .q (.mv (.t .h)), none⟩, ⟨(some (.r (.r .h))), .q (.bi .shr (.t (.l (.r .h))) (.c (.i .u64 8))), none⟩, ⟨(some (.l (.l (.l .h)))), .q (.ci .u8 (.t (.r (.r .h)))), none⟩, ⟨(some (.r (.l (.l .h)))), .q (.mv (.t .h)), none⟩, ⟨(some (.l (.r (.l .h)))), .q (.bi .shr (.t (.r (.l (.l .h)))) (.c (.i .u64 16))), none⟩, ⟨(some (.r (.r (.l .h)))), .q (.ci .u8 (.t (.l (.r (.l .h))))), none⟩, ⟨(some (.l (.l (.r .h)))), .q (.mv (.t .h)), none⟩, ⟨(some (.r (.l (.r .h)))), .q (.bi .shr (.t (.l (.l (.r .h)))) (.c (.i .u64 24))), none⟩, ⟨(some (.l (.r (.r .h)))), .q (.ci .u8 (.t (.r (.l (.r .h))))), none⟩, ⟨(some (.r (.r (.r .h)))), .a (.bsl 5 4 1 [(.i .u8 0)] [(0, (.t (.r (.l .h)))), (1, (.t (.l (.l (.l .h))))), (2, (.t (.r (.r (.l .h))))), (3, (.t (.l (.r (.r .h)))))]), none⟩, ⟨(some (.r .h)), .q (.mv (.t (.r (.r (.r .h))))), none⟩]) k s R := rfl
noncomputable def b14_2 : CC := (.seq (.reg [⟨(some (.r .h)), .q (.mv (.c .l0)), none⟩]) (.seq b14_1 .ret))
theorem w14_2 (k : Kn) (s : St) (R : Ex → St → Prop) : Wp b14_2 k s R = Wp (.seq (.reg [⟨(some (.r .h)), .q (.mv (.c .l0)), none⟩]) (.seq b14_1 .ret)) k s R := rfl
noncomputable def c14 : CF := .mk 4 [.t (.r .h)] b14_2
theorem e14 (v0 : V) : argTr 4 [v0] = (.n (.n (.n (.n .e none .e) none (.n .e none .e)) none (.n (.n .e none .e) none (.n .e none .e))) (some v0) (.n (.n (.n .e none .e) none (.n .e none .e)) none (.n (.n .e none .e) none (.n .e none .e)))) := rfl
structure Ins where
  op : Int
  d : Int
  a : Int
  b : Int
  i : Int
def insV (x : Ins) : List V := [.i .i64 x.op, .i .i64 x.d, .i .i64 x.a, .i .i64 x.b, .i .i64 x.i]
def mayB (x : Ins) : Bool := mayI x.op x.d x.a x.b x.i
noncomputable def wordB (x : Ins) : Nat := wordI x.op x.d x.a x.b x.i
def fourB (w : Nat) : List UInt8 := [UInt8.ofNat w, UInt8.ofNat (w / 256), UInt8.ofNat (w / 65536), UInt8.ofNat (w / 16777216)]
noncomputable def bytesL (l : List Ins) : List UInt8 := l.flatMap fun x => fourB (wordB x)
theorem bV_ofNat (n : Nat) : bV (UInt8.ofNat n) = .i .u8 ((n % 256 : Nat) : Int) := by
  unfold bV; rw [UInt8.toNat_ofNat']
theorem u8_nat (n : Nat) : IntKind.u8.wrap (n : Int) = ((n % 256 : Nat) : Int) := by rw [wrap_u8]; omega
theorem u32_shr24 (w : Nat) : biV .shr (.i .u32 (w : Int)) (.i .u64 24) = some (.i .u32 ((w / 16777216 : Nat) : Int)) := u32_shr w 24 (by decide)
theorem four_row (w : Nat) : ((fourB w).map fun x => [bV x]).flatten = [.i .u8 ((w % 256 : Nat) : Int), .i .u8 ((w / 256 % 256 : Nat) : Int), .i .u8 ((w / 65536 % 256 : Nat) : Int), .i .u8 ((w / 16777216 % 256 : Nat) : Int)] := by
  rw [flat_bytes]
  simp only [fourB, List.map_cons, List.map_nil, bV_ofNat]
theorem r14 (Φ : Nat → Option CF) (h : Φ 14 = some c14) {F : RO} {M : Mem} {c : Nat} (ok : Okm F M c) (w : Nat) (hw : w < 4294967296) :
    Calls Φ F 14 [.i .u32 (w : Int)] M c fun r M' c' => ∃ x, M' = M.set c x ∧ c' = c + 1 ∧ SlB F M' c' r (fourB w) := by
  refine calls_walk h ?_
  have q1 := u8_nat w
  have q2 := u32_shr8 w
  have q3 := u8_nat (w / 256)
  have q4 := u32_shr16 w
  have q5 := u8_nat (w / 65536)
  have q6 := u32_shr24 w
  have q7 := u8_nat (w / 16777216)
  simp only [wp_seq, seqQ_nrm, wp_reg, wp_ret, wo_nil, xo_q, xo_a, putO, putA, v_mv, v_bi, ev_t, ev_c, Tr.setP_h, Tr.setP_l, Tr.setP_r, getT_h, getT_l, getT_r, endQ_ret, endO, resV_nil', resV_t, consO_some, oneV_one, if_true, flatten_i, allOne_nil, allOne_cons, isOne_i, Bool.and_true, List.length_cons, List.length_nil, Nat.reduceAdd, Nat.zero_add, and_self, true_and, v_ci, List.nil_append, List.cons_append, Option.map_some, a_bsl_w, evPs_nil, evPs_cons, partsR_nil, partsR_cons, bslO_some, Option.isSome_some, e14, w14_1, w14_2, q1, q2, q3, q4, q5, q6, q7]
  refine ⟨_, rfl, ?_⟩
  rw [← four_row]
  exact slD (get_same _ _ _) (by omega) (by intro e he; obtain ⟨x, _, rfl⟩ := List.mem_map.1 he; rfl) (by rfl)
theorem bytesL_snoc (l : List Ins) (x : Ins) : bytesL (l ++ [x]) = bytesL l ++ fourB (wordB x) := by simp [bytesL]
theorem bytesL_len : ∀ l : List Ins, (bytesL l).length = 4 * l.length
  | [] => rfl
  | x :: l => by
    have := bytesL_len l
    simp only [bytesL, List.flatMap_cons, List.length_append, List.length_cons] at this ⊢
    rw [this]; simp [fourB]; omega
theorem wordB_lt (x : Ins) (h : mayB x = true) : wordB x < 4294967296 := by
  obtain ⟨b1, b2, b3, b4, b5, b6, b7, b8, b9, b10, b11⟩ := mayI_bounds h
  unfold wordB wordI
  omega
theorem ins_at {F : RO} {M : Mem} {c : Nat} {v : V} {l : List Ins} (hs : SlAt F M c 5 v (l.map insV)) (i : Nat) (hi : i < l.length) :
    ∃ b o, b < c ∧ (∀ k, iaSV 5 v (.i k (i : Int)) = some (.p b o)) ∧ loadN F M b o 5 = some [.i .i64 l[i].op, .i .i64 l[i].d, .i .i64 l[i].a, .i .i64 l[i].b, .i .i64 l[i].i] := by
  obtain ⟨b, o, h1, h2, h3⟩ := hs.at i (by simpa using hi)
  refine ⟨b, o, h1, h2, ?_⟩
  rw [List.getElem_map] at h3
  exact h3.load (by unfold insV; simp)
theorem r9 (Φ : Nat → Option CF) (h : Φ 9 = some c9) (h10 : Φ 10 = some (.orc (pureO h10))) {F : RO} {M : Mem} {c : Nat} {v : V} {l : List Ins} (ok : Okm F M c) (hs : SlAt F M c 5 v (l.map insV)) (hl : l.length ≤ 200) :
    Calls Φ F 9 [v] M c fun r M' c' => Gr c M c' M' ∧ ((l.all mayB = true ∧ ∃ b, r = .t [b, .i .i64 0] ∧ SlB F M' c' b (bytesL l)) ∨ (l.all mayB = false ∧ r = .t [.l0, .i .i64 2])) := by
  refine calls_walk h ?_
  have hln : lnL v = some (.i .i64 (l.length : Int)) := by have := hs.len; rwa [List.length_map] at this
  have q1 : biV .mul (.i .i64 4) (.i .i64 (l.length : Int)) = some (.i .i64 ((4 * l.length : Nat) : Int)) := by
    rw [i64_mul _ _ (by omega) (by omega)]; simp
  have q2 : ∀ b, mksA 5 1 1 [V.i .u8 0] (.i .i64 0) (.i .i64 ((4 * l.length : Nat) : Int)) b = some (.l b 0 0 (4 * l.length), .cells 5 (4 * l.length * 1) true 0 false [V.i .u8 0] .e) := fun b => mksA_i 5 1 1 _ .i64 .i64 0 (4 * l.length) b (Nat.zero_le _) (by omega)
  simp only [lnSl, wp_seq, seqQ_nrm, wp_reg, wp_block, wo_nil, xo_q, xo_a, putO, putA, v_mv, v_bi, v_ln, ev_t, ev_c, Tr.setP_h, Tr.setP_l, Tr.setP_r, getT_h, getT_l, getT_r, a_mks_w, e9, w9_1, w9_2, w9_3, w9_15, hln, q1, q2]
  have hg0 := fun x => (Gr.refl ok).set c x (Nat.le_refl _) (Nat.lt_succ_self _) (Nat.le_succ _)
  obtain ⟨I, hI⟩ : ∃ I : Nat → St → Prop, ∀ n s, I n s ↔ (∃ (i : Nat) (M1 : Mem) (c1 : Nat) (acc : V) (u : List (Option V)), n = l.length - i ∧ i ≤ l.length ∧ s = .mk ((.n (.n (.n (.n (.n (.n .e (uO u 31) .e) (some (.i .i64 (i : Int))) (.n .e (uO u 47) .e)) (uO u 7) (.n (.n .e (uO u 39) .e) (uO u 23) (.n .e (uO u 55) .e))) (uO u 3) (.n (.n (.n .e (uO u 35) .e) (uO u 19) (.n .e (uO u 51) .e)) (uO u 11) (.n (.n .e (uO u 43) .e) (uO u 27) (.n .e (uO u 59) .e)))) (uO u 1) (.n (.n (.n (.n .e (uO u 33) .e) (uO u 17) (.n .e (uO u 49) .e)) (uO u 9) (.n (.n .e (uO u 41) .e) (uO u 25) (.n .e (uO u 57) .e))) (uO u 5) (.n (.n (.n .e (uO u 37) .e) (uO u 21) (.n .e (uO u 53) .e)) (some (v)) (.n (.n .e (uO u 45) .e) (uO u 29) (.n .e (uO u 61) .e))))) (some (v)) (.n (.n (.n (.n (.n .e (uO u 32) .e) (uO u 16) (.n .e (uO u 48) .e)) (uO u 8) (.n (.n .e (uO u 40) .e) (uO u 24) (.n .e (uO u 56) .e))) (some (acc)) (.n (.n (.n .e (uO u 36) .e) (uO u 20) (.n .e (uO u 52) .e)) (uO u 12) (.n (.n .e (uO u 44) .e) (uO u 28) (.n .e (uO u 60) .e)))) (uO u 2) (.n (.n (.n (.n .e (uO u 34) .e) (uO u 18) (.n .e (uO u 50) .e)) (uO u 10) (.n (.n .e (uO u 42) .e) (uO u 26) (.n .e (uO u 58) .e))) (uO u 6) (.n (.n (.n .e (uO u 38) .e) (uO u 22) (.n .e (uO u 54) .e)) (some (.i .i64 (l.length : Int))) (.n (.n .e (uO u 46) .e) (uO u 30) (.n .e (uO u 62) .e))))))) [] M1 c1 ∧ Gr c M c1 M1 ∧ CapAt M1 c c1 c 5 1 (4 * l.length) acc ((bytesL (l.take i)).map fun x => [bV x]) ∧ ∀ j (hj : j < l.length), j < i → mayB l[j] = true) := ⟨fun n s => _, fun _ _ => Iff.rfl⟩
  refine wp_while I ?_ l.length _ ((hI _ _).2 ⟨0, _, _, _, [none, _, _, _, none, _, _, _, _, _, _, _, _, none, none, none, _, _, _, _, _, _, _, _, _, _, _, _, _, _, _, _, _, _, _, _, _, _, _, _, _, _, _, _, _, _, _, _, _, _, _, _, _, _, _, _, _, _, _, _, _, _, _], rfl, Nat.zero_le _, rfl, hg0 _, capNil (get_same _ _ _) (Nat.le_refl _) (Nat.lt_succ_self _), fun j _ hj => absurd hj (Nat.not_lt_zero _)⟩)
  intro n s hIs
  obtain ⟨i, M1, c1, acc, u, rfl, hi, rfl, hg, hacc, hmay⟩ := (hI _ _).1 hIs
  clear hIs
  by_cases hlt : i < l.length
  · have hd : decide ((i : Int) < (l.length : Int)) = true := decide_eq_true (by omega)
    obtain ⟨pb, po, hpb, hia, hld⟩ := ins_at (hs.grow hg) i hlt
    simp only [v_iaS, wp_seq, seqQ_nrm, wp_reg, wp_skip, wp_block, wo_nil, xo_q, xo_a, xo_e, xo_e0, wp_condT, putO, putA, putE0, v_bi, bi_lss, v_ldn, ldn_p, e_st_eq, er_some, xo_call, ev_t, evs_nil, evs_cons, Tr.setP_h, Tr.setP_l, Tr.setP_r, getT_h, getT_l, getT_r, if_true, flatten_g, allOne_nil, allOne_cons, isOne_i, Bool.and_true, over_nil, over_cons, List.set_cons_zero, List.set_cons_succ, List.length_cons, List.length_nil, Nat.reduceAdd, Nat.reduceLeDiff, Nat.zero_add, loadN_same, storeN_same, a_al_eq, List.drop_zero, List.take_succ_cons, List.take_nil, Option.map_some, w9_4, w9_5, w9_6, w9_12, w9_13, hd, hia, hld]
    refine putE_to (calls_pure h10 (h10_eq _ _ _ _ _) ?_)
    have hgx := fun x => hg.set c1 x hg.le (Nat.lt_succ_self _) (Nat.le_succ _)
    by_cases hm : mayB l[i] = true
    · have hw := wordB_lt l[i] hm
      have e1 : w10 l[i].op l[i].d l[i].a l[i].b l[i].i = (wordB l[i] : Int) := if_pos hm
      have e2 : er10 l[i].op l[i].d l[i].a l[i].b l[i].i = 0 := if_pos hm
      have hsn : bytesL (l.take (i + 1)) = bytesL (l.take i) ++ fourB (wordB l[i]) := by
        rw [List.take_succ_eq_append_getElem hlt, bytesL_snoc]
      rw [e1, e2]
      generalize wordB l[i] = w at hw hsn ⊢
      have q1 := u8_nat w
      have q2 := u32_shr8 w
      have q3 := u8_nat (w / 256)
      have q4 := u32_shr16 w
      have q5 := u8_nat (w / 65536)
      have q6 := u32_shr24 w
      have q7 := u8_nat (w / 16777216)
      simp only [wp_seq, seqQ_nrm, wp_reg, wp_skip, wo_nil, xo_q, xo_a, xo_e, wp_condF, putO, putA, v_mv, v_bi, bi_neq, ev_t, ev_c, Tr.setP_h, Tr.setP_l, Tr.setP_r, getT_h, getT_l, getT_r, List.getElem?_cons_zero, List.getElem?_cons_succ, decide_false, if_true, flatten_i, allOne_nil, allOne_cons, isOne_i, Bool.and_true, List.length_cons, List.length_nil, Nat.reduceAdd, Nat.zero_add, and_self, v_ex, v_ci, List.nil_append, List.cons_append, Option.map_some, Nat.add_assoc, x_app_eq, a_bsl_w, evPs_nil, evPs_cons, partsR_nil, partsR_cons, bslO_some, Option.isSome_some, w9_7, w9_9, w9_10, q1, q2, q3, q4, q5, q6, q7, ne_eq, not_true_eq_false]
      rw [← four_row]
      have hgy := fun x y => (hgx x).set (c1 + 1) y (by have := hg.le; omega) (Nat.lt_succ_self _) (Nat.le_succ _)
      have hacc' := fun x y => hacc.up (M' := (M1.set c1 x).set (c1 + 1) y) (c' := c1 + 2) (by omega) (fun hb => by rw [get_ne _ _ (by omega), get_ne _ _ (by omega)])
      refine putE_to ((cappV_to (hacc' _ _) (hgy _ _) Nat.one_pos (slD (get_same _ _ _) (by omega) (by intro e he; obtain ⟨x, _, rfl⟩ := List.mem_map.1 he; rfl) (by rfl)) (allOne_sl _) (by
        rw [List.length_map, List.length_map, bytesL_len, List.length_take, Nat.min_eq_left hi]; simp [fourB]; omega) (by simp [fourB])).mono ?_)
      rintro v2 M2 c2 ⟨rfl, hacc2, hg2, -⟩
      rw [← List.map_append, ← hsn] at hacc2
      have q8 : biV .add (.i .i64 (i : Int)) (.i .i64 1) = some (.i .i64 ((i + 1 : Nat) : Int)) := by rw [i64_add _ _ (by omega) (by omega)]; simp
      simp only [seqQ_nrm, wp_reg, blockQ_nrm, wo_nil, xo_q, putO, v_mv, v_bi, ev_t, ev_c, Tr.setP_h, Tr.setP_l, Tr.setP_r, getT_h, getT_l, getT_r, roundQ_nrm, w9_11, q8]
      refine ⟨l.length - (i + 1), by omega, (hI _ _).2 ⟨i + 1, M2, _, v2, [none, _, _, _, none, _, _, _, _, _, _, _, _, none, none, none, _, _, _, _, _, _, _, _, _, _, _, _, _, _, _, _, _, _, _, _, _, _, _, _, _, _, _, _, _, _, _, _, _, _, _, _, _, _, _, _, _, _, _, _, _, _, _], rfl, by omega, rfl, hg2, hacc2, fun j hj hj2 => ?_⟩⟩
      by_cases hji : j = i
      · subst hji; exact hm
      · exact hmay j hj (by omega)
    · have e2 : er10 l[i].op l[i].d l[i].a l[i].b l[i].i = 2 := if_neg hm
      rw [e2]
      simp only [wp_seq, seqQ_nrm, seqQ_ret, wp_reg, wp_ret, blockQ_ret, wo_nil, xo_q, wp_condT, putO, v_mv, v_bi, bi_neq, ev_t, ev_c, Tr.setP_h, Tr.setP_l, Tr.setP_r, getT_h, getT_l, getT_r, Int.reduceEq, List.getElem?_cons_zero, List.getElem?_cons_succ, endQ_ret, endO, resV_nil', resV_t, consO_some, oneV_two, decide_true, and_true, v_ex, roundQ_ret, w9_7, w9_8, w9_9, ne_eq, not_false_eq_true]
      refine ⟨hgx _, .inr ?_⟩
      rw [Bool.eq_false_iff]
      intro ha
      exact hm (List.all_eq_true.1 ha _ (List.getElem_mem hlt))
  · have hd : decide ((i : Int) < (l.length : Int)) = false := decide_eq_false (by omega)
    simp only [wp_seq, seqQ_nrm, seqQ_ext, wp_reg, wp_ret, wp_exit, blockQ_ext, wo_nil, xo_q, wp_condF, putO, v_mv, v_bi, bi_lss, ev_t, ev_c, Tr.setP_h, Tr.setP_l, Tr.setP_r, getT_h, getT_l, getT_r, endQ_ret, endO, resV_nil', resV_t, consO_some, oneV_two, if_true, roundQ_ext, w9_4, w9_13, w9_14, hd]
    obtain rfl : i = l.length := by omega
    rw [List.take_length] at hacc
    refine ⟨hg, .inl ⟨?_, acc, rfl, hacc.sl⟩⟩
    rw [List.all_eq_true]
    intro x hx
    obtain ⟨j, hj, rfl⟩ := List.getElem_of_mem hx
    exact hmay j hj hj
end Go.Proofs.YtffpeieapadocaaGreatDoor.Ev
set_option maxRecDepth 10000
set_option maxHeartbeats 16000000
namespace Go.Proofs.YtffpeieapadocaaGreatDoor.Ev
open Go
noncomputable def b3_1 : CC := (.reg [⟨(some (.l (.l (.r .h)))), .q (.mv (.t .h)), none⟩, ⟨(some (.r (.l (.r .h)))), .q (.ln .slice (.t (.l (.l (.r .h))))), none⟩, ⟨(some (.l (.r (.r .h)))), .q (.bi .gtr (.t (.r (.l (.r .h)))) (.c (.i .i64 200))), none⟩])
theorem w3_1 (k : Kn) (s : St) (R : Ex → St → Prop) : Wp b3_1 k s R = Wp (.reg [⟨(some (.l (.l (.r .h)))), .q (.mv (.t .h)), none⟩, ⟨(some (.r (.l (.r .h)))), .q (.ln .slice (.t (.l (.l (.r .h))))), none⟩, ⟨(some (.l (.r (.r .h)))), .q (.bi .gtr (.t (.r (.l (.r .h)))) (.c (.i .i64 200))), none⟩]) k s R := rfl
noncomputable def b3_2 : CC := (.reg [⟨(some (.r (.r (.r .h)))), .e (.call 8 []), none⟩, ⟨(some (.r .h)), .q (.mv (.t (.r (.r (.r .h))))), none⟩])
theorem w3_2 (k : Kn) (s : St) (R : Ex → St → Prop) : Wp b3_2 k s R = Wp (.reg [⟨(some (.r (.r (.r .h)))), .e (.call 8 []), none⟩, ⟨(some (.r .h)), .q (.mv (.t (.r (.r (.r .h))))), none⟩]) k s R := rfl
noncomputable def b3_3 : CC := (.seq b3_1 (.cond (.t (.l (.r (.r .h)))) (.seq b3_2 .ret) .skip))
theorem w3_3 (k : Kn) (s : St) (R : Ex → St → Prop) : Wp b3_3 k s R = Wp (.seq b3_1 (.cond (.t (.l (.r (.r .h)))) (.seq b3_2 .ret) .skip)) k s R := rfl
noncomputable def b3_4 : CC := (.reg [⟨(some (.l (.l (.l (.l .h))))), .q (.mv (.t .h)), none⟩, ⟨(some (.r (.l (.l (.l .h))))), .e (.app 26 5 40 (.c .l0) (.t (.l (.l (.l (.l .h)))))), none⟩, ⟨(some (.l (.r (.l (.l .h))))), .q (.bld [(.i .i64 0), (.i .i64 0), (.i .i64 0), (.i .i64 0), (.i .i64 0)] [(0, 1, (.c (.i .i64 77)))]), none⟩, ⟨(some (.r (.r (.l (.l .h))))), .a (.bsl 26 1 5 [(.i .i64 0), (.i .i64 0), (.i .i64 0), (.i .i64 0), (.i .i64 0)] [(0, (.t (.l (.r (.l (.l .h))))))]), none⟩, ⟨(some (.l (.l (.r (.l .h))))), .e (.app 26 5 40 (.t (.r (.l (.l (.l .h))))) (.t (.r (.r (.l (.l .h)))))), none⟩, ⟨(some (.l (.l .h))), .q (.mv (.t (.l (.l (.r (.l .h)))))), none⟩])
theorem w3_4 (k : Kn) (s : St) (R : Ex → St → Prop) : Wp b3_4 k s R = Wp (.reg [⟨(some (.l (.l (.l (.l .h))))), .q (.mv (.t .h)), none⟩, ⟨(some (.r (.l (.l (.l .h))))), .e (.app 26 5 40 (.c .l0) (.t (.l (.l (.l (.l .h)))))), none⟩, ⟨(some (.l (.r (.l (.l .h))))), .q (.bld [(.i .i64 0), (.i .i64 0), (.i .i64 0), (.i .i64 0), (.i .i64 0)] [(0, 1, (.c (.i .i64 77)))]), none⟩, ⟨(some (.r (.r (.l (.l .h))))), .a (.bsl 26 1 5 [(.i .i64 0), (.i .i64 0), (.i .i64 0), (.i .i64 0), (.i .i64 0)] [(0, (.t (.l (.r (.l (.l .h))))))]), none⟩, ⟨(some (.l (.l (.r (.l .h))))), .e (.app 26 5 40 (.t (.r (.l (.l (.l .h))))) (.t (.r (.r (.l (.l .h)))))), none⟩, ⟨(some (.l (.l .h))), .q (.mv (.t (.l (.l (.r (.l .h)))))), none⟩]) k s R := rfl
noncomputable def b3_5 : CC := (.reg [⟨(some (.l (.r (.r (.l .h))))), .q (.mv (.t (.l (.l .h)))), none⟩, ⟨(some (.r (.r (.r (.l .h))))), .q (.mv (.t .h)), none⟩, ⟨(some (.l (.l (.l (.r .h))))), .q (.ln .slice (.t (.r (.r (.r (.l .h)))))), none⟩, ⟨(some (.r (.l (.l (.r .h))))), .q (.slL 5 (.t (.l (.r (.r (.l .h))))) none (some (.t (.l (.l (.l (.r .h)))))) none), none⟩, ⟨(some (.l (.r (.l (.r .h))))), .e (.call 9 [(.t (.r (.l (.l (.r .h)))))]), none⟩, ⟨(some (.r (.l (.r (.l .h))))), .q (.mv (.t (.l (.r (.l (.r .h)))))), none⟩, ⟨(some (.r (.r (.l (.r .h))))), .q (.ex 0 (.t (.r (.l (.r (.l .h)))))), none⟩, ⟨(some (.l (.l (.r (.r .h))))), .q (.ex 1 (.t (.r (.l (.r (.l .h)))))), none⟩, ⟨(some (.r (.l .h))), .q (.mv (.t (.r (.r (.l (.r .h)))))), none⟩, ⟨(some (.l (.r .h))), .q (.mv (.t (.l (.l (.r (.r .h)))))), none⟩])
theorem w3_5 (k : Kn) (s : St) (R : Ex → St → Prop) : Wp b3_5 k s R = Wp (.reg [⟨(some (.l (.r (.r (.l .h))))), .q (.mv (.t (.l (.l .h)))), none⟩, ⟨(some (.r (.r (.r (.l .h))))), .q (.mv (.t .h)), none⟩, ⟨(some (.l (.l (.l (.r .h))))), .q (.ln .slice (.t (.r (.r (.r (.l .h)))))), none⟩, ⟨(some (.r (.l (.l (.r .h))))), .q (.slL 5 (.t (.l (.r (.r (.l .h))))) none (some (.t (.l (.l (.l (.r .h)))))) none), none⟩, ⟨(some (.l (.r (.l (.r .h))))), .e (.call 9 [(.t (.r (.l (.l (.r .h)))))]), none⟩, ⟨(some (.r (.l (.r (.l .h))))), .q (.mv (.t (.l (.r (.l (.r .h)))))), none⟩, ⟨(some (.r (.r (.l (.r .h))))), .q (.ex 0 (.t (.r (.l (.r (.l .h)))))), none⟩, ⟨(some (.l (.l (.r (.r .h))))), .q (.ex 1 (.t (.r (.l (.r (.l .h)))))), none⟩, ⟨(some (.r (.l .h))), .q (.mv (.t (.r (.r (.l (.r .h)))))), none⟩, ⟨(some (.l (.r .h))), .q (.mv (.t (.l (.l (.r (.r .h)))))), none⟩]) k s R := rfl
noncomputable def b3_6 : CC := (.reg [⟨(some (.l (.l (.l .h)))), .q (.mv (.c (.b true))), none⟩])
theorem w3_6 (k : Kn) (s : St) (R : Ex → St → Prop) : Wp b3_6 k s R = Wp (.reg [⟨(some (.l (.l (.l .h)))), .q (.mv (.c (.b true))), none⟩]) k s R := rfl
noncomputable def b3_7 : CC := (.reg [⟨(some (.r (.l (.l .h)))), .q (.mv (.c (.i .i64 0))), none⟩])
theorem w3_7 (k : Kn) (s : St) (R : Ex → St → Prop) : Wp b3_7 k s R = Wp (.reg [⟨(some (.r (.l (.l .h)))), .q (.mv (.c (.i .i64 0))), none⟩]) k s R := rfl
noncomputable def b3_8 : CC := (.reg [⟨(some (.r (.l (.r (.r .h))))), .q (.mv (.t (.r (.l (.l .h))))), none⟩, ⟨(some (.l (.r (.r (.r .h))))), .q (.mv (.t .h)), none⟩, ⟨(some (.r (.r (.r (.r .h))))), .q (.ln .slice (.t (.l (.r (.r (.r .h)))))), none⟩, ⟨(some (.l (.l (.l (.l (.l .h)))))), .q (.bi .lss (.t (.r (.l (.r (.r .h))))) (.t (.r (.r (.r (.r .h)))))), none⟩])
theorem w3_8 (k : Kn) (s : St) (R : Ex → St → Prop) : Wp b3_8 k s R = Wp (.reg [⟨(some (.r (.l (.r (.r .h))))), .q (.mv (.t (.r (.l (.l .h))))), none⟩, ⟨(some (.l (.r (.r (.r .h))))), .q (.mv (.t .h)), none⟩, ⟨(some (.r (.r (.r (.r .h))))), .q (.ln .slice (.t (.l (.r (.r (.r .h)))))), none⟩, ⟨(some (.l (.l (.l (.l (.l .h)))))), .q (.bi .lss (.t (.r (.l (.r (.r .h))))) (.t (.r (.r (.r (.r .h)))))), none⟩]) k s R := rfl
noncomputable def b3_9 : CC := (.seq b3_8 (.cond (.t (.l (.l (.l (.l (.l .h)))))) .skip (.exit 0)))
theorem w3_9 (k : Kn) (s : St) (R : Ex → St → Prop) : Wp b3_9 k s R = Wp (.seq b3_8 (.cond (.t (.l (.l (.l (.l (.l .h)))))) .skip (.exit 0))) k s R := rfl
noncomputable def b3_10 : CC := (.reg [⟨(some (.l (.l (.r (.l (.l .h)))))), .q (.mv (.t .h)), none⟩, ⟨(some (.r (.l (.r (.l (.l .h)))))), .q (.mv (.t (.r (.l (.l .h))))), none⟩, ⟨(some (.l (.r (.r (.l (.l .h)))))), .q (.iaS 5 (.t (.l (.l (.r (.l (.l .h)))))) (.t (.r (.l (.r (.l (.l .h))))))), none⟩, ⟨(some (.r (.r (.r (.l (.l .h)))))), .q (.ldn 5 (.t (.l (.r (.r (.l (.l .h))))))), none⟩, ⟨(some (.l (.l (.l (.r (.l .h)))))), .e (.call 10 [(.t (.r (.r (.r (.l (.l .h))))))]), none⟩, ⟨(some (.r (.r (.l (.l (.l .h)))))), .q (.mv (.t (.l (.l (.l (.r (.l .h))))))), none⟩, ⟨(some (.r (.l (.l (.r (.l .h)))))), .q (.ex 0 (.t (.r (.r (.l (.l (.l .h))))))), none⟩, ⟨(some (.l (.r (.l (.r (.l .h)))))), .q (.ex 1 (.t (.r (.r (.l (.l (.l .h))))))), none⟩, ⟨(some (.l (.r (.l .h)))), .q (.mv (.t (.r (.l (.l (.r (.l .h))))))), none⟩, ⟨(some (.r (.r (.l .h)))), .q (.mv (.t (.l (.r (.l (.r (.l .h))))))), none⟩])
theorem w3_10 (k : Kn) (s : St) (R : Ex → St → Prop) : Wp b3_10 k s R = Wp (.reg [⟨(some (.l (.l (.r (.l (.l .h)))))), .q (.mv (.t .h)), none⟩, ⟨(some (.r (.l (.r (.l (.l .h)))))), .q (.mv (.t (.r (.l (.l .h))))), none⟩, ⟨(some (.l (.r (.r (.l (.l .h)))))), .q (.iaS 5 (.t (.l (.l (.r (.l (.l .h)))))) (.t (.r (.l (.r (.l (.l .h))))))), none⟩, ⟨(some (.r (.r (.r (.l (.l .h)))))), .q (.ldn 5 (.t (.l (.r (.r (.l (.l .h))))))), none⟩, ⟨(some (.l (.l (.l (.r (.l .h)))))), .e (.call 10 [(.t (.r (.r (.r (.l (.l .h))))))]), none⟩, ⟨(some (.r (.r (.l (.l (.l .h)))))), .q (.mv (.t (.l (.l (.l (.r (.l .h))))))), none⟩, ⟨(some (.r (.l (.l (.r (.l .h)))))), .q (.ex 0 (.t (.r (.r (.l (.l (.l .h))))))), none⟩, ⟨(some (.l (.r (.l (.r (.l .h)))))), .q (.ex 1 (.t (.r (.r (.l (.l (.l .h))))))), none⟩, ⟨(some (.l (.r (.l .h)))), .q (.mv (.t (.r (.l (.l (.r (.l .h))))))), none⟩, ⟨(some (.r (.r (.l .h)))), .q (.mv (.t (.l (.r (.l (.r (.l .h))))))), none⟩]) k s R := rfl
noncomputable def b3_11 : CC := (.dreg 20 [(0, 0, ⟨(some (.r (.r (.l (.r (.l .h)))))), .q (.mv (.t (.l (.l .h)))), none⟩), (1, 0, ⟨(some (.l (.l (.r (.r (.l .h)))))), .q (.mv (.t (.r (.l (.l .h))))), none⟩), (2, 3, ⟨(some (.r (.l (.r (.r (.l .h)))))), .q (.iaS 5 (.t (.r (.r (.l (.r (.l .h)))))) (.t (.l (.l (.r (.r (.l .h))))))), none⟩), (3, 7, ⟨(some (.l (.r (.r (.r (.l .h)))))), .q (.ldn 5 (.t (.r (.l (.r (.r (.l .h))))))), none⟩), (4, 0, ⟨(some (.r (.r (.r (.r (.l .h)))))), .q (.mv (.t .h)), none⟩), (5, 0, ⟨(some (.l (.l (.l (.l (.r .h)))))), .q (.mv (.t (.r (.l (.l .h))))), none⟩), (6, 48, ⟨(some (.r (.l (.l (.l (.r .h)))))), .q (.iaS 5 (.t (.r (.r (.r (.r (.l .h)))))) (.t (.l (.l (.l (.l (.r .h))))))), none⟩), (7, 112, ⟨(some (.l (.r (.l (.l (.r .h)))))), .q (.ldn 5 (.t (.r (.l (.l (.l (.r .h))))))), none⟩), (8, 255, ⟨(some (.r (.r (.l (.l (.r .h)))))), .q (.eq true (.agg [(0, .int), (1, .int), (2, .int), (3, .int), (4, .int)]) false (.t (.l (.r (.r (.r (.l .h)))))) (.t (.l (.r (.l (.l (.r .h))))))), none⟩), (9, 511, ⟨(some (.l (.l (.r (.l (.r .h)))))), .q (.mv (.t (.r (.r (.l (.l (.r .h))))))), none⟩), (10, 1023, ⟨(some (.r (.l (.r (.l (.r .h)))))), .q (.mv (.t (.r (.r (.l .h))))), (some ((.l (.l (.r (.l (.r .h))))), false))⟩), (13, 1023, ⟨(some (.l (.l (.l (.r (.r .h)))))), .q (.mv (.t .h)), (some ((.l (.l (.r (.l (.r .h))))), false))⟩), (14, 1023, ⟨(some (.r (.l (.l (.r (.r .h)))))), .q (.mv (.t (.r (.l (.l .h))))), (some ((.l (.l (.r (.l (.r .h))))), false))⟩), (15, 25599, ⟨(some (.l (.r (.l (.r (.r .h)))))), .q (.iaS 5 (.t (.l (.l (.l (.r (.r .h)))))) (.t (.r (.l (.l (.r (.r .h))))))), (some ((.l (.l (.r (.l (.r .h))))), false))⟩), (16, 58367, ⟨(some (.r (.r (.l (.r (.r .h)))))), .q (.ldn 5 (.t (.l (.r (.l (.r (.r .h))))))), (some ((.l (.l (.r (.l (.r .h))))), false))⟩), (11, 2047, ⟨(some (.l (.r (.r (.l (.r .h)))))), .e (.call 11 [(.t (.r (.l (.r (.l (.r .h))))))]), (some ((.l (.l (.r (.l (.r .h))))), false))⟩), (12, 4095, ⟨(some (.r (.r (.r (.l (.r .h)))))), .q (.bi .eql (.t (.l (.r (.r (.l (.r .h)))))) (.c (.i .i64 0))), (some ((.l (.l (.r (.l (.r .h))))), false))⟩), (17, 126975, ⟨(some (.l (.l (.r (.r (.r .h)))))), .e (.call 12 [(.t (.r (.r (.l (.r (.r .h))))))]), (some ((.l (.l (.r (.l (.r .h))))), false))⟩), (18, 262143, ⟨(some (.r (.l (.r (.r (.r .h)))))), .q (.eq true .bool false (.t (.r (.r (.r (.l (.r .h)))))) (.t (.l (.l (.r (.r (.r .h))))))), (some ((.l (.l (.r (.l (.r .h))))), false))⟩), (19, 524287, ⟨(some (.l (.r (.r (.r (.r .h)))))), .q (.pk (.t (.l (.l (.r (.l (.r .h)))))) (.c (.b true)) (.t (.r (.l (.r (.r (.r .h))))))), none⟩)])
theorem w3_11 (k : Kn) (s : St) (R : Ex → St → Prop) : Wp b3_11 k s R = Wp (.dreg 20 [(0, 0, ⟨(some (.r (.r (.l (.r (.l .h)))))), .q (.mv (.t (.l (.l .h)))), none⟩), (1, 0, ⟨(some (.l (.l (.r (.r (.l .h)))))), .q (.mv (.t (.r (.l (.l .h))))), none⟩), (2, 3, ⟨(some (.r (.l (.r (.r (.l .h)))))), .q (.iaS 5 (.t (.r (.r (.l (.r (.l .h)))))) (.t (.l (.l (.r (.r (.l .h))))))), none⟩), (3, 7, ⟨(some (.l (.r (.r (.r (.l .h)))))), .q (.ldn 5 (.t (.r (.l (.r (.r (.l .h))))))), none⟩), (4, 0, ⟨(some (.r (.r (.r (.r (.l .h)))))), .q (.mv (.t .h)), none⟩), (5, 0, ⟨(some (.l (.l (.l (.l (.r .h)))))), .q (.mv (.t (.r (.l (.l .h))))), none⟩), (6, 48, ⟨(some (.r (.l (.l (.l (.r .h)))))), .q (.iaS 5 (.t (.r (.r (.r (.r (.l .h)))))) (.t (.l (.l (.l (.l (.r .h))))))), none⟩), (7, 112, ⟨(some (.l (.r (.l (.l (.r .h)))))), .q (.ldn 5 (.t (.r (.l (.l (.l (.r .h))))))), none⟩), (8, 255, ⟨(some (.r (.r (.l (.l (.r .h)))))), .q (.eq true (.agg [(0, .int), (1, .int), (2, .int), (3, .int), (4, .int)]) false (.t (.l (.r (.r (.r (.l .h)))))) (.t (.l (.r (.l (.l (.r .h))))))), none⟩), (9, 511, ⟨(some (.l (.l (.r (.l (.r .h)))))), .q (.mv (.t (.r (.r (.l (.l (.r .h))))))), none⟩), (10, 1023, ⟨(some (.r (.l (.r (.l (.r .h)))))), .q (.mv (.t (.r (.r (.l .h))))), (some ((.l (.l (.r (.l (.r .h))))), false))⟩), (13, 1023, ⟨(some (.l (.l (.l (.r (.r .h)))))), .q (.mv (.t .h)), (some ((.l (.l (.r (.l (.r .h))))), false))⟩), (14, 1023, ⟨(some (.r (.l (.l (.r (.r .h)))))), .q (.mv (.t (.r (.l (.l .h))))), (some ((.l (.l (.r (.l (.r .h))))), false))⟩), (15, 25599, ⟨(some (.l (.r (.l (.r (.r .h)))))), .q (.iaS 5 (.t (.l (.l (.l (.r (.r .h)))))) (.t (.r (.l (.l (.r (.r .h))))))), (some ((.l (.l (.r (.l (.r .h))))), false))⟩), (16, 58367, ⟨(some (.r (.r (.l (.r (.r .h)))))), .q (.ldn 5 (.t (.l (.r (.l (.r (.r .h))))))), (some ((.l (.l (.r (.l (.r .h))))), false))⟩), (11, 2047, ⟨(some (.l (.r (.r (.l (.r .h)))))), .e (.call 11 [(.t (.r (.l (.r (.l (.r .h))))))]), (some ((.l (.l (.r (.l (.r .h))))), false))⟩), (12, 4095, ⟨(some (.r (.r (.r (.l (.r .h)))))), .q (.bi .eql (.t (.l (.r (.r (.l (.r .h)))))) (.c (.i .i64 0))), (some ((.l (.l (.r (.l (.r .h))))), false))⟩), (17, 126975, ⟨(some (.l (.l (.r (.r (.r .h)))))), .e (.call 12 [(.t (.r (.r (.l (.r (.r .h))))))]), (some ((.l (.l (.r (.l (.r .h))))), false))⟩), (18, 262143, ⟨(some (.r (.l (.r (.r (.r .h)))))), .q (.eq true .bool false (.t (.r (.r (.r (.l (.r .h)))))) (.t (.l (.l (.r (.r (.r .h))))))), (some ((.l (.l (.r (.l (.r .h))))), false))⟩), (19, 524287, ⟨(some (.l (.r (.r (.r (.r .h)))))), .q (.pk (.t (.l (.l (.r (.l (.r .h)))))) (.c (.b true)) (.t (.r (.l (.r (.r (.r .h))))))), none⟩)]) k s R := rfl
noncomputable def b3_12 : CC := (.seq (.reg [⟨(some (.r .h)), .q (.mv (.c (.b false))), none⟩]) .ret)
noncomputable def b3_13 : CC := (.seq b3_11 (.cond (.t (.l (.r (.r (.r (.r .h)))))) b3_12 .skip))
theorem w3_13 (k : Kn) (s : St) (R : Ex → St → Prop) : Wp b3_13 k s R = Wp (.seq b3_11 (.cond (.t (.l (.r (.r (.r (.r .h)))))) b3_12 .skip)) k s R := rfl
noncomputable def b3_14 : CC := (.reg [⟨(some (.r (.r (.r (.r (.r .h)))))), .q (.mv (.t .h)), none⟩, ⟨(some (.l (.l (.l (.l (.l (.l .h))))))), .q (.mv (.t (.r (.l (.l .h))))), none⟩, ⟨(some (.r (.l (.l (.l (.l (.l .h))))))), .q (.iaS 5 (.t (.r (.r (.r (.r (.r .h)))))) (.t (.l (.l (.l (.l (.l (.l .h)))))))), none⟩, ⟨(some (.l (.r (.l (.l (.l (.l .h))))))), .q (.ldn 5 (.t (.r (.l (.l (.l (.l (.l .h)))))))), none⟩, ⟨(some (.r (.r (.l (.l (.l (.l .h))))))), .e (.call 12 [(.t (.l (.r (.l (.l (.l (.l .h)))))))]), none⟩, ⟨(some (.l (.l (.r (.l (.l (.l .h))))))), .q (.un .not (.t (.r (.r (.l (.l (.l (.l .h)))))))), none⟩])
theorem w3_14 (k : Kn) (s : St) (R : Ex → St → Prop) : Wp b3_14 k s R = Wp (.reg [⟨(some (.r (.r (.r (.r (.r .h)))))), .q (.mv (.t .h)), none⟩, ⟨(some (.l (.l (.l (.l (.l (.l .h))))))), .q (.mv (.t (.r (.l (.l .h))))), none⟩, ⟨(some (.r (.l (.l (.l (.l (.l .h))))))), .q (.iaS 5 (.t (.r (.r (.r (.r (.r .h)))))) (.t (.l (.l (.l (.l (.l (.l .h)))))))), none⟩, ⟨(some (.l (.r (.l (.l (.l (.l .h))))))), .q (.ldn 5 (.t (.r (.l (.l (.l (.l (.l .h)))))))), none⟩, ⟨(some (.r (.r (.l (.l (.l (.l .h))))))), .e (.call 12 [(.t (.l (.r (.l (.l (.l (.l .h)))))))]), none⟩, ⟨(some (.l (.l (.r (.l (.l (.l .h))))))), .q (.un .not (.t (.r (.r (.l (.l (.l (.l .h)))))))), none⟩]) k s R := rfl
noncomputable def b3_15 : CC := (.reg [⟨(some (.r (.l (.r (.l (.l (.l .h))))))), .q (.mv (.t (.l (.r (.l .h))))), none⟩, ⟨(some (.l (.r (.r (.l (.l (.l .h))))))), .q (.bi .neq (.t (.r (.l (.r (.l (.l (.l .h))))))) (.c (.i .u32 0))), none⟩, ⟨(some (.r (.r (.r (.l (.l (.l .h))))))), .q (.mv (.t (.l (.r (.r (.l (.l (.l .h)))))))), none⟩, ⟨(some (.l (.l (.l (.r (.l (.l .h))))))), .q (.mv (.t (.r (.r (.l .h))))), (some ((.r (.r (.r (.l (.l (.l .h)))))), false))⟩, ⟨(some (.r (.l (.l (.r (.l (.l .h))))))), .e (.call 11 [(.t (.l (.l (.l (.r (.l (.l .h)))))))]), (some ((.r (.r (.r (.l (.l (.l .h)))))), false))⟩, ⟨(some (.l (.r (.l (.r (.l (.l .h))))))), .q (.bi .neq (.t (.r (.l (.l (.r (.l (.l .h))))))) (.c (.i .i64 2))), (some ((.r (.r (.r (.l (.l (.l .h)))))), false))⟩, ⟨(some (.r (.r (.l (.r (.l (.l .h))))))), .q (.pk (.t (.r (.r (.r (.l (.l (.l .h))))))) (.c (.b true)) (.t (.l (.r (.l (.r (.l (.l .h)))))))), none⟩])
theorem w3_15 (k : Kn) (s : St) (R : Ex → St → Prop) : Wp b3_15 k s R = Wp (.reg [⟨(some (.r (.l (.r (.l (.l (.l .h))))))), .q (.mv (.t (.l (.r (.l .h))))), none⟩, ⟨(some (.l (.r (.r (.l (.l (.l .h))))))), .q (.bi .neq (.t (.r (.l (.r (.l (.l (.l .h))))))) (.c (.i .u32 0))), none⟩, ⟨(some (.r (.r (.r (.l (.l (.l .h))))))), .q (.mv (.t (.l (.r (.r (.l (.l (.l .h)))))))), none⟩, ⟨(some (.l (.l (.l (.r (.l (.l .h))))))), .q (.mv (.t (.r (.r (.l .h))))), (some ((.r (.r (.r (.l (.l (.l .h)))))), false))⟩, ⟨(some (.r (.l (.l (.r (.l (.l .h))))))), .e (.call 11 [(.t (.l (.l (.l (.r (.l (.l .h)))))))]), (some ((.r (.r (.r (.l (.l (.l .h)))))), false))⟩, ⟨(some (.l (.r (.l (.r (.l (.l .h))))))), .q (.bi .neq (.t (.r (.l (.l (.r (.l (.l .h))))))) (.c (.i .i64 2))), (some ((.r (.r (.r (.l (.l (.l .h)))))), false))⟩, ⟨(some (.r (.r (.l (.r (.l (.l .h))))))), .q (.pk (.t (.r (.r (.r (.l (.l (.l .h))))))) (.c (.b true)) (.t (.l (.r (.l (.r (.l (.l .h)))))))), none⟩]) k s R := rfl
noncomputable def b3_16 : CC := (.seq (.reg [⟨(some (.r .h)), .q (.mv (.c (.b false))), none⟩]) .ret)
noncomputable def b3_17 : CC := (.seq b3_15 (.cond (.t (.r (.r (.l (.r (.l (.l .h))))))) b3_16 .skip))
theorem w3_17 (k : Kn) (s : St) (R : Ex → St → Prop) : Wp b3_17 k s R = Wp (.seq b3_15 (.cond (.t (.r (.r (.l (.r (.l (.l .h))))))) b3_16 .skip)) k s R := rfl
noncomputable def b3_18 : CC := (.reg [⟨(some (.l (.l (.l .h)))), .q (.mv (.c (.b false))), none⟩])
theorem w3_18 (k : Kn) (s : St) (R : Ex → St → Prop) : Wp b3_18 k s R = Wp (.reg [⟨(some (.l (.l (.l .h)))), .q (.mv (.c (.b false))), none⟩]) k s R := rfl
noncomputable def b3_19 : CC := (.cond (.t (.l (.l (.r (.l (.l (.l .h))))))) (.seq b3_17 (.seq b3_18 (.exit 1))) .skip)
theorem w3_19 (k : Kn) (s : St) (R : Ex → St → Prop) : Wp b3_19 k s R = Wp (.cond (.t (.l (.l (.r (.l (.l (.l .h))))))) (.seq b3_17 (.seq b3_18 (.exit 1))) .skip) k s R := rfl
noncomputable def b3_20 : CC := (.reg [⟨(some (.l (.l (.r (.r (.l (.l .h))))))), .q (.mv (.t (.l (.r (.l .h))))), none⟩, ⟨(some (.r (.l (.r (.r (.l (.l .h))))))), .q (.mv (.t .h)), none⟩, ⟨(some (.l (.r (.r (.r (.l (.l .h))))))), .q (.mv (.t (.r (.l (.l .h))))), none⟩, ⟨(some (.r (.r (.r (.r (.l (.l .h))))))), .q (.iaS 5 (.t (.r (.l (.r (.r (.l (.l .h))))))) (.t (.l (.r (.r (.r (.l (.l .h)))))))), none⟩, ⟨(some (.l (.l (.l (.l (.r (.l .h))))))), .q (.ldn 5 (.t (.r (.r (.r (.r (.l (.l .h)))))))), none⟩, ⟨(some (.r (.l (.l (.l (.r (.l .h))))))), .e (.call 13 [(.t (.l (.l (.l (.l (.r (.l .h)))))))]), none⟩, ⟨(some (.l (.r (.l (.l (.r (.l .h))))))), .q (.bi .neq (.t (.l (.l (.r (.r (.l (.l .h))))))) (.t (.r (.l (.l (.l (.r (.l .h)))))))), none⟩])
theorem w3_20 (k : Kn) (s : St) (R : Ex → St → Prop) : Wp b3_20 k s R = Wp (.reg [⟨(some (.l (.l (.r (.r (.l (.l .h))))))), .q (.mv (.t (.l (.r (.l .h))))), none⟩, ⟨(some (.r (.l (.r (.r (.l (.l .h))))))), .q (.mv (.t .h)), none⟩, ⟨(some (.l (.r (.r (.r (.l (.l .h))))))), .q (.mv (.t (.r (.l (.l .h))))), none⟩, ⟨(some (.r (.r (.r (.r (.l (.l .h))))))), .q (.iaS 5 (.t (.r (.l (.r (.r (.l (.l .h))))))) (.t (.l (.r (.r (.r (.l (.l .h)))))))), none⟩, ⟨(some (.l (.l (.l (.l (.r (.l .h))))))), .q (.ldn 5 (.t (.r (.r (.r (.r (.l (.l .h)))))))), none⟩, ⟨(some (.r (.l (.l (.l (.r (.l .h))))))), .e (.call 13 [(.t (.l (.l (.l (.l (.r (.l .h)))))))]), none⟩, ⟨(some (.l (.r (.l (.l (.r (.l .h))))))), .q (.bi .neq (.t (.l (.l (.r (.r (.l (.l .h))))))) (.t (.r (.l (.l (.l (.r (.l .h)))))))), none⟩]) k s R := rfl
noncomputable def b3_21 : CC := (.seq (.reg [⟨(some (.r .h)), .q (.mv (.c (.b false))), none⟩]) .ret)
noncomputable def b3_22 : CC := (.seq b3_20 (.cond (.t (.l (.r (.l (.l (.r (.l .h))))))) b3_21 .skip))
theorem w3_22 (k : Kn) (s : St) (R : Ex → St → Prop) : Wp b3_22 k s R = Wp (.seq b3_20 (.cond (.t (.l (.r (.l (.l (.r (.l .h))))))) b3_21 .skip)) k s R := rfl
noncomputable def b3_23 : CC := (.reg [⟨(some (.r (.r (.l (.l (.r (.l .h))))))), .q (.mv (.t (.r (.r .h)))), none⟩, ⟨(some (.l (.l (.r (.l (.r (.l .h))))))), .q (.mv (.t (.l (.r (.l .h))))), none⟩, ⟨(some (.r (.l (.r (.l (.r (.l .h))))))), .e (.call 14 [(.t (.l (.l (.r (.l (.r (.l .h)))))))]), none⟩, ⟨(some (.l (.r (.r (.l (.r (.l .h))))))), .e (.app 5 1 1 (.t (.r (.r (.l (.l (.r (.l .h))))))) (.t (.r (.l (.r (.l (.r (.l .h)))))))), none⟩, ⟨(some (.r (.r .h))), .q (.mv (.t (.l (.r (.r (.l (.r (.l .h)))))))), none⟩])
theorem w3_23 (k : Kn) (s : St) (R : Ex → St → Prop) : Wp b3_23 k s R = Wp (.reg [⟨(some (.r (.r (.l (.l (.r (.l .h))))))), .q (.mv (.t (.r (.r .h)))), none⟩, ⟨(some (.l (.l (.r (.l (.r (.l .h))))))), .q (.mv (.t (.l (.r (.l .h))))), none⟩, ⟨(some (.r (.l (.r (.l (.r (.l .h))))))), .e (.call 14 [(.t (.l (.l (.r (.l (.r (.l .h)))))))]), none⟩, ⟨(some (.l (.r (.r (.l (.r (.l .h))))))), .e (.app 5 1 1 (.t (.r (.r (.l (.l (.r (.l .h))))))) (.t (.r (.l (.r (.l (.r (.l .h)))))))), none⟩, ⟨(some (.r (.r .h))), .q (.mv (.t (.l (.r (.r (.l (.r (.l .h)))))))), none⟩]) k s R := rfl
noncomputable def b3_24 : CC := (.seq b3_10 (.seq b3_13 (.seq (.seq b3_14 b3_19) (.seq b3_22 b3_23))))
theorem w3_24 (k : Kn) (s : St) (R : Ex → St → Prop) : Wp b3_24 k s R = Wp (.seq b3_10 (.seq b3_13 (.seq (.seq b3_14 b3_19) (.seq b3_22 b3_23)))) k s R := rfl
noncomputable def b3_25 : CC := (.reg [⟨(some (.r (.l (.l (.l (.l .h)))))), .q (.mv (.t (.r (.l (.l .h))))), none⟩, ⟨(some (.l (.r (.l (.l (.l .h)))))), .q (.bi .add (.t (.r (.l (.l (.l (.l .h)))))) (.c (.i .i64 1))), none⟩, ⟨(some (.r (.l (.l .h)))), .q (.mv (.t (.l (.r (.l (.l (.l .h))))))), none⟩])
theorem w3_25 (k : Kn) (s : St) (R : Ex → St → Prop) : Wp b3_25 k s R = Wp (.reg [⟨(some (.r (.l (.l (.l (.l .h)))))), .q (.mv (.t (.r (.l (.l .h))))), none⟩, ⟨(some (.l (.r (.l (.l (.l .h)))))), .q (.bi .add (.t (.r (.l (.l (.l (.l .h)))))) (.c (.i .i64 1))), none⟩, ⟨(some (.r (.l (.l .h)))), .q (.mv (.t (.l (.r (.l (.l (.l .h))))))), none⟩]) k s R := rfl
noncomputable def b3_26 : CC := (.block 0 (.loop (.seq b3_9 (.seq (.block 1 b3_24) b3_25))))
theorem w3_26 (k : Kn) (s : St) (R : Ex → St → Prop) : Wp b3_26 k s R = Wp (.block 0 (.loop (.seq b3_9 (.seq (.block 1 b3_24) b3_25)))) k s R := rfl
noncomputable def b3_27 : CC := (.reg [⟨(some (.r (.r (.r (.l (.r (.l .h))))))), .q (.mv (.t (.l (.l .h)))), none⟩, ⟨(some (.l (.l (.l (.r (.r (.l .h))))))), .q (.mv (.t .h)), none⟩, ⟨(some (.r (.l (.l (.r (.r (.l .h))))))), .q (.ln .slice (.t (.l (.l (.l (.r (.r (.l .h)))))))), none⟩, ⟨(some (.l (.r (.l (.r (.r (.l .h))))))), .q (.iaS 5 (.t (.r (.r (.r (.l (.r (.l .h))))))) (.t (.r (.l (.l (.r (.r (.l .h)))))))), none⟩, ⟨(some (.r (.r (.l (.r (.r (.l .h))))))), .q (.fa 0 (.t (.l (.r (.l (.r (.r (.l .h)))))))), none⟩, ⟨(some (.l (.l (.r (.r (.r (.l .h))))))), .q (.ld1 (.t (.r (.r (.l (.r (.r (.l .h)))))))), none⟩, ⟨(some (.r (.l (.r (.r (.r (.l .h))))))), .q (.bi .neq (.t (.l (.l (.r (.r (.r (.l .h))))))) (.c (.i .i64 77))), none⟩])
theorem w3_27 (k : Kn) (s : St) (R : Ex → St → Prop) : Wp b3_27 k s R = Wp (.reg [⟨(some (.r (.r (.r (.l (.r (.l .h))))))), .q (.mv (.t (.l (.l .h)))), none⟩, ⟨(some (.l (.l (.l (.r (.r (.l .h))))))), .q (.mv (.t .h)), none⟩, ⟨(some (.r (.l (.l (.r (.r (.l .h))))))), .q (.ln .slice (.t (.l (.l (.l (.r (.r (.l .h)))))))), none⟩, ⟨(some (.l (.r (.l (.r (.r (.l .h))))))), .q (.iaS 5 (.t (.r (.r (.r (.l (.r (.l .h))))))) (.t (.r (.l (.l (.r (.r (.l .h)))))))), none⟩, ⟨(some (.r (.r (.l (.r (.r (.l .h))))))), .q (.fa 0 (.t (.l (.r (.l (.r (.r (.l .h)))))))), none⟩, ⟨(some (.l (.l (.r (.r (.r (.l .h))))))), .q (.ld1 (.t (.r (.r (.l (.r (.r (.l .h)))))))), none⟩, ⟨(some (.r (.l (.r (.r (.r (.l .h))))))), .q (.bi .neq (.t (.l (.l (.r (.r (.r (.l .h))))))) (.c (.i .i64 77))), none⟩]) k s R := rfl
noncomputable def b3_28 : CC := (.seq (.reg [⟨(some (.r .h)), .q (.mv (.c (.b false))), none⟩]) .ret)
noncomputable def b3_29 : CC := (.seq b3_27 (.cond (.t (.r (.l (.r (.r (.r (.l .h))))))) b3_28 .skip))
theorem w3_29 (k : Kn) (s : St) (R : Ex → St → Prop) : Wp b3_29 k s R = Wp (.seq b3_27 (.cond (.t (.r (.l (.r (.r (.r (.l .h))))))) b3_28 .skip)) k s R := rfl
noncomputable def b3_30 : CC := (.reg [⟨(some (.l (.r (.r (.r (.r (.l .h))))))), .q (.mv (.t (.l (.l (.l .h))))), none⟩, ⟨(some (.r (.r (.r (.r (.r (.l .h))))))), .q (.un .not (.t (.l (.r (.r (.r (.r (.l .h)))))))), none⟩])
theorem w3_30 (k : Kn) (s : St) (R : Ex → St → Prop) : Wp b3_30 k s R = Wp (.reg [⟨(some (.l (.r (.r (.r (.r (.l .h))))))), .q (.mv (.t (.l (.l (.l .h))))), none⟩, ⟨(some (.r (.r (.r (.r (.r (.l .h))))))), .q (.un .not (.t (.l (.r (.r (.r (.r (.l .h)))))))), none⟩]) k s R := rfl
noncomputable def b3_31 : CC := (.reg [⟨(some (.l (.l (.l (.l (.l (.r .h))))))), .q (.mv (.t (.r (.l .h)))), none⟩, ⟨(some (.r (.l (.l (.l (.l (.r .h))))))), .q (.ln .slice (.t (.l (.l (.l (.l (.l (.r .h)))))))), none⟩, ⟨(some (.l (.r (.l (.l (.l (.r .h))))))), .q (.bi .eql (.t (.r (.l (.l (.l (.l (.r .h))))))) (.c (.i .i64 0))), none⟩, ⟨(some (.r (.r (.l (.l (.l (.r .h))))))), .q (.mv (.t (.l (.r (.l (.l (.l (.r .h)))))))), none⟩, ⟨(some (.l (.l (.r (.l (.l (.r .h))))))), .q (.mv (.t (.l (.r .h)))), (some ((.r (.r (.l (.l (.l (.r .h)))))), true))⟩, ⟨(some (.r (.l (.r (.l (.l (.r .h))))))), .e (.call 11 [(.t (.l (.l (.r (.l (.l (.r .h)))))))]), (some ((.r (.r (.l (.l (.l (.r .h)))))), true))⟩, ⟨(some (.l (.r (.r (.l (.l (.r .h))))))), .q (.bi .eql (.t (.r (.l (.r (.l (.l (.r .h))))))) (.c (.i .i64 2))), (some ((.r (.r (.l (.l (.l (.r .h)))))), true))⟩, ⟨(some (.r (.r (.r (.l (.l (.r .h))))))), .q (.pk (.t (.r (.r (.l (.l (.l (.r .h))))))) (.t (.l (.r (.r (.l (.l (.r .h))))))) (.c (.b false))), none⟩, ⟨(some (.l (.l (.l (.r (.l (.r .h))))))), .q (.mv (.t (.r (.r (.r (.l (.l (.r .h)))))))), none⟩, ⟨(some (.r (.l (.l (.r (.l (.r .h))))))), .e (.call 8 []), (some ((.l (.l (.l (.r (.l (.r .h)))))), true))⟩, ⟨(some (.l (.r (.l (.r (.l (.r .h))))))), .q (.pk (.t (.l (.l (.l (.r (.l (.r .h))))))) (.t (.r (.l (.l (.r (.l (.r .h))))))) (.c (.b false))), none⟩, ⟨(some (.r .h)), .q (.mv (.t (.l (.r (.l (.r (.l (.r .h)))))))), none⟩])
theorem w3_31 (k : Kn) (s : St) (R : Ex → St → Prop) : Wp b3_31 k s R = Wp (.reg [⟨(some (.l (.l (.l (.l (.l (.r .h))))))), .q (.mv (.t (.r (.l .h)))), none⟩, ⟨(some (.r (.l (.l (.l (.l (.r .h))))))), .q (.ln .slice (.t (.l (.l (.l (.l (.l (.r .h)))))))), none⟩, ⟨(some (.l (.r (.l (.l (.l (.r .h))))))), .q (.bi .eql (.t (.r (.l (.l (.l (.l (.r .h))))))) (.c (.i .i64 0))), none⟩, ⟨(some (.r (.r (.l (.l (.l (.r .h))))))), .q (.mv (.t (.l (.r (.l (.l (.l (.r .h)))))))), none⟩, ⟨(some (.l (.l (.r (.l (.l (.r .h))))))), .q (.mv (.t (.l (.r .h)))), (some ((.r (.r (.l (.l (.l (.r .h)))))), true))⟩, ⟨(some (.r (.l (.r (.l (.l (.r .h))))))), .e (.call 11 [(.t (.l (.l (.r (.l (.l (.r .h)))))))]), (some ((.r (.r (.l (.l (.l (.r .h)))))), true))⟩, ⟨(some (.l (.r (.r (.l (.l (.r .h))))))), .q (.bi .eql (.t (.r (.l (.r (.l (.l (.r .h))))))) (.c (.i .i64 2))), (some ((.r (.r (.l (.l (.l (.r .h)))))), true))⟩, ⟨(some (.r (.r (.r (.l (.l (.r .h))))))), .q (.pk (.t (.r (.r (.l (.l (.l (.r .h))))))) (.t (.l (.r (.r (.l (.l (.r .h))))))) (.c (.b false))), none⟩, ⟨(some (.l (.l (.l (.r (.l (.r .h))))))), .q (.mv (.t (.r (.r (.r (.l (.l (.r .h)))))))), none⟩, ⟨(some (.r (.l (.l (.r (.l (.r .h))))))), .e (.call 8 []), (some ((.l (.l (.l (.r (.l (.r .h)))))), true))⟩, ⟨(some (.l (.r (.l (.r (.l (.r .h))))))), .q (.pk (.t (.l (.l (.l (.r (.l (.r .h))))))) (.t (.r (.l (.l (.r (.l (.r .h))))))) (.c (.b false))), none⟩, ⟨(some (.r .h)), .q (.mv (.t (.l (.r (.l (.r (.l (.r .h)))))))), none⟩]) k s R := rfl
noncomputable def b3_32 : CC := (.cond (.t (.r (.r (.r (.r (.r (.l .h))))))) (.seq b3_31 .ret) .skip)
theorem w3_32 (k : Kn) (s : St) (R : Ex → St → Prop) : Wp b3_32 k s R = Wp (.cond (.t (.r (.r (.r (.r (.r (.l .h))))))) (.seq b3_31 .ret) .skip) k s R := rfl
noncomputable def b3_33 : CC := (.reg [⟨(some (.r (.r (.l (.r (.l (.r .h))))))), .q (.mv (.t (.r (.l .h)))), none⟩, ⟨(some (.l (.l (.r (.r (.l (.r .h))))))), .q (.bs (.t (.r (.r (.l (.r (.l (.r .h)))))))), none⟩, ⟨(some (.r (.l (.r (.r (.l (.r .h))))))), .q (.mv (.t (.r (.r .h)))), none⟩, ⟨(some (.l (.r (.r (.r (.l (.r .h))))))), .q (.bs (.t (.r (.l (.r (.r (.l (.r .h)))))))), none⟩, ⟨(some (.r (.r (.r (.r (.l (.r .h))))))), .q (.bi .eql (.t (.l (.l (.r (.r (.l (.r .h))))))) (.t (.l (.r (.r (.r (.l (.r .h)))))))), none⟩, ⟨(some (.l (.l (.l (.l (.r (.r .h))))))), .q (.mv (.t (.r (.r (.r (.r (.l (.r .h)))))))), none⟩, ⟨(some (.r (.l (.l (.l (.r (.r .h))))))), .q (.mv (.t (.l (.r .h)))), (some ((.l (.l (.l (.l (.r (.r .h)))))), true))⟩, ⟨(some (.l (.r (.l (.l (.r (.r .h))))))), .e (.call 11 [(.t (.r (.l (.l (.l (.r (.r .h)))))))]), (some ((.l (.l (.l (.l (.r (.r .h)))))), true))⟩, ⟨(some (.r (.r (.l (.l (.r (.r .h))))))), .q (.bi .eql (.t (.l (.r (.l (.l (.r (.r .h))))))) (.c (.i .i64 0))), (some ((.l (.l (.l (.l (.r (.r .h)))))), true))⟩, ⟨(some (.l (.l (.r (.l (.r (.r .h))))))), .q (.pk (.t (.l (.l (.l (.l (.r (.r .h))))))) (.t (.r (.r (.l (.l (.r (.r .h))))))) (.c (.b false))), none⟩, ⟨(some (.r (.l (.r (.l (.r (.r .h))))))), .q (.mv (.t (.l (.l (.r (.l (.r (.r .h)))))))), none⟩, ⟨(some (.l (.r (.r (.l (.r (.r .h))))))), .e (.call 8 []), (some ((.r (.l (.r (.l (.r (.r .h)))))), true))⟩, ⟨(some (.r (.r (.r (.l (.r (.r .h))))))), .q (.pk (.t (.r (.l (.r (.l (.r (.r .h))))))) (.t (.l (.r (.r (.l (.r (.r .h))))))) (.c (.b false))), none⟩, ⟨(some (.r .h)), .q (.mv (.t (.r (.r (.r (.l (.r (.r .h)))))))), none⟩])
theorem w3_33 (k : Kn) (s : St) (R : Ex → St → Prop) : Wp b3_33 k s R = Wp (.reg [⟨(some (.r (.r (.l (.r (.l (.r .h))))))), .q (.mv (.t (.r (.l .h)))), none⟩, ⟨(some (.l (.l (.r (.r (.l (.r .h))))))), .q (.bs (.t (.r (.r (.l (.r (.l (.r .h)))))))), none⟩, ⟨(some (.r (.l (.r (.r (.l (.r .h))))))), .q (.mv (.t (.r (.r .h)))), none⟩, ⟨(some (.l (.r (.r (.r (.l (.r .h))))))), .q (.bs (.t (.r (.l (.r (.r (.l (.r .h)))))))), none⟩, ⟨(some (.r (.r (.r (.r (.l (.r .h))))))), .q (.bi .eql (.t (.l (.l (.r (.r (.l (.r .h))))))) (.t (.l (.r (.r (.r (.l (.r .h)))))))), none⟩, ⟨(some (.l (.l (.l (.l (.r (.r .h))))))), .q (.mv (.t (.r (.r (.r (.r (.l (.r .h)))))))), none⟩, ⟨(some (.r (.l (.l (.l (.r (.r .h))))))), .q (.mv (.t (.l (.r .h)))), (some ((.l (.l (.l (.l (.r (.r .h)))))), true))⟩, ⟨(some (.l (.r (.l (.l (.r (.r .h))))))), .e (.call 11 [(.t (.r (.l (.l (.l (.r (.r .h)))))))]), (some ((.l (.l (.l (.l (.r (.r .h)))))), true))⟩, ⟨(some (.r (.r (.l (.l (.r (.r .h))))))), .q (.bi .eql (.t (.l (.r (.l (.l (.r (.r .h))))))) (.c (.i .i64 0))), (some ((.l (.l (.l (.l (.r (.r .h)))))), true))⟩, ⟨(some (.l (.l (.r (.l (.r (.r .h))))))), .q (.pk (.t (.l (.l (.l (.l (.r (.r .h))))))) (.t (.r (.r (.l (.l (.r (.r .h))))))) (.c (.b false))), none⟩, ⟨(some (.r (.l (.r (.l (.r (.r .h))))))), .q (.mv (.t (.l (.l (.r (.l (.r (.r .h)))))))), none⟩, ⟨(some (.l (.r (.r (.l (.r (.r .h))))))), .e (.call 8 []), (some ((.r (.l (.r (.l (.r (.r .h)))))), true))⟩, ⟨(some (.r (.r (.r (.l (.r (.r .h))))))), .q (.pk (.t (.r (.l (.r (.l (.r (.r .h))))))) (.t (.l (.r (.r (.l (.r (.r .h))))))) (.c (.b false))), none⟩, ⟨(some (.r .h)), .q (.mv (.t (.r (.r (.r (.l (.r (.r .h)))))))), none⟩]) k s R := rfl
noncomputable def b3_34 : CC := (.seq (.seq b3_7 b3_26) (.seq b3_29 (.seq (.seq b3_30 b3_32) (.seq b3_33 .ret))))
theorem w3_34 (k : Kn) (s : St) (R : Ex → St → Prop) : Wp b3_34 k s R = Wp (.seq (.seq b3_7 b3_26) (.seq b3_29 (.seq (.seq b3_30 b3_32) (.seq b3_33 .ret)))) k s R := rfl
noncomputable def b3_35 : CC := (.seq (.reg [⟨(some (.r (.r .h))), .q (.mv (.c .l0)), none⟩]) (.seq b3_6 b3_34))
theorem w3_35 (k : Kn) (s : St) (R : Ex → St → Prop) : Wp b3_35 k s R = Wp (.seq (.reg [⟨(some (.r (.r .h))), .q (.mv (.c .l0)), none⟩]) (.seq b3_6 b3_34)) k s R := rfl
noncomputable def b3_36 : CC := (.seq (.reg [⟨(some (.r .h)), .q (.mv (.c (.b false))), none⟩]) (.seq b3_3 (.seq b3_4 (.seq b3_5 b3_35))))
theorem w3_36 (k : Kn) (s : St) (R : Ex → St → Prop) : Wp b3_36 k s R = Wp (.seq (.reg [⟨(some (.r .h)), .q (.mv (.c (.b false))), none⟩]) (.seq b3_3 (.seq b3_4 (.seq b3_5 b3_35)))) k s R := rfl
noncomputable def c3 : CF := .mk 7 [.t (.r .h)] b3_36
theorem e3 (v0 : V) : argTr 7 [v0] = (.n (.n (.n (.n (.n (.n (.n .e none .e) none (.n .e none .e)) none (.n (.n .e none .e) none (.n .e none .e))) none (.n (.n (.n .e none .e) none (.n .e none .e)) none (.n (.n .e none .e) none (.n .e none .e)))) none (.n (.n (.n (.n .e none .e) none (.n .e none .e)) none (.n (.n .e none .e) none (.n .e none .e))) none (.n (.n (.n .e none .e) none (.n .e none .e)) none (.n (.n .e none .e) none (.n .e none .e))))) none (.n (.n (.n (.n (.n .e none .e) none (.n .e none .e)) none (.n (.n .e none .e) none (.n .e none .e))) none (.n (.n (.n .e none .e) none (.n .e none .e)) none (.n (.n .e none .e) none (.n .e none .e)))) none (.n (.n (.n (.n .e none .e) none (.n .e none .e)) none (.n (.n .e none .e) none (.n .e none .e))) none (.n (.n (.n .e none .e) none (.n .e none .e)) none (.n (.n .e none .e) none (.n .e none .e)))))) (some v0) (.n (.n (.n (.n (.n (.n .e none .e) none (.n .e none .e)) none (.n (.n .e none .e) none (.n .e none .e))) none (.n (.n (.n .e none .e) none (.n .e none .e)) none (.n (.n .e none .e) none (.n .e none .e)))) none (.n (.n (.n (.n .e none .e) none (.n .e none .e)) none (.n (.n .e none .e) none (.n .e none .e))) none (.n (.n (.n .e none .e) none (.n .e none .e)) none (.n (.n .e none .e) none (.n .e none .e))))) none (.n (.n (.n (.n (.n .e none .e) none (.n .e none .e)) none (.n (.n .e none .e) none (.n .e none .e))) none (.n (.n (.n .e none .e) none (.n .e none .e)) none (.n (.n .e none .e) none (.n .e none .e)))) none (.n (.n (.n (.n .e none .e) none (.n .e none .e)) none (.n (.n .e none .e) none (.n .e none .e))) none (.n (.n (.n .e none .e) none (.n .e none .e)) none (.n (.n .e none .e) none (.n .e none .e))))))) := rfl
def last77 : List V := [.i .i64 77, .i .i64 0, .i .i64 0, .i .i64 0, .i .i64 0]
theorem allOne_append : ∀ (a b : List V), allOne a = true → allOne b = true → allOne (a ++ b) = true
  | [], b, _, h => h
  | x :: a, b, ha, hb => by
    rw [allOne_cons, Bool.and_eq_true] at ha
    rw [List.cons_append, allOne_cons, ha.1, allOne_append a b ha.2 hb]; rfl
theorem allOne_ins : ∀ l : List Ins, allOne (l.map insV).flatten = true
  | [] => rfl
  | x :: l => by rw [List.map_cons, List.flatten_cons]; exact allOne_append _ _ rfl (allOne_ins l)
theorem l3 (Φ : Nat → Option CF) (h : Φ 3 = some c3) {L : List Tab} (h8 : Φ 8 = some (.orc (knownO L))) (h9 : Φ 9 = some c9) (h10 : Φ 10 = some (.orc (pureO h10))) (h11 : Φ 11 = some (.orc (pureO h11))) (h12 : Φ 12 = some (.orc (pureO h12))) (h13 : Φ 13 = some (.orc (pureO h13))) (h14 : Φ 14 = some c14)
    {F : RO} {M : Mem} {c : Nat} {v : V} {l : List Ins} (ok : Okm F M c) (hs : SlAt F M c 5 v (l.map insV)) (ht : tabsIn F L = true) (hl0 : l.length ≤ 9223372036854775807) :
    Calls Φ F 3 [v] M c fun r _ _ => r = .b true := by
  have hln : lnL v = some (.i .i64 (l.length : Int)) := by have := hs.len; rwa [List.length_map] at this
  have hkn := fun M c => knownO_nil ht M c
  refine calls_walk h ?_
  by_cases hlen : 200 < l.length
  · have hd : decide ((200 : Int) < (l.length : Int)) = true := decide_eq_true (by omega)
    simp only [lnSl, wp_seq, seqQ_nrm, seqQ_ret, wp_reg, wp_ret, wo_nil, xo_q, xo_e, wp_condT, putO, putE, v_mv, v_bi, bi_gtr, v_ln, xo_call, callC_orc, ev_t, ev_c, evs_nil, Tr.setP_h, Tr.setP_l, Tr.setP_r, getT_h, getT_l, getT_r, endQ_ret, endO, resV_nil', resV_t, consO_some, oneV_one, e3, w3_1, w3_2, w3_3, w3_36, hln, hd, h8, hkn]
  · have hd : decide ((200 : Int) < (l.length : Int)) = false := decide_eq_false (by omega)
    simp only [lnSl, wp_seq, seqQ_nrm, wp_reg, wp_skip, wo_nil, xo_q, xo_e, wp_condF, putO, v_mv, v_bi, bi_gtr, v_ln, ev_t, ev_c, Tr.setP_h, Tr.setP_l, Tr.setP_r, getT_h, getT_l, getT_r, x_app_eq, e3, w3_1, w3_3, w3_4, w3_36, hln, hd]
    refine putE_to ((appV_to (b := c) AccAt.nil (Gr.refl ok) (by decide) hs (allOne_ins l) (room_of (by simp; omega) (by simp; omega))).mono ?_)
    rintro v1 M1 c1 ⟨b1, ha1, hg1, hle1, -, -⟩
    rw [List.nil_append] at ha1
    simp only [xo_q, xo_a, xo_e, putO, putA, ev_t, ev_c, Tr.setP_h, Tr.setP_l, Tr.setP_r, getT_h, getT_l, getT_r, if_true, flatten_i, flatten_g, allOne_nil, allOne_cons, isOne_i, Bool.and_true, evP_nil, evP_cons, fillV_nil, fillV_cons, over_nil, over_cons, List.set_cons_zero, List.length_cons, List.length_nil, Nat.reduceAdd, Nat.reduceLeDiff, Nat.zero_add, and_self, v_bld, replL_over, List.nil_append, List.cons_append, Option.map_some, x_app_eq, a_bsl_w, evPs_nil, evPs_cons, partsR_nil, partsR_cons, bslO_some, Option.isSome_some]
    have hgs : ∀ x, Gr c1 M1 (c1 + 1) (M1.set c1 x) := fun x => (Gr.refl (hg1.ok ok)).set c1 x (Nat.le_refl _) (Nat.lt_succ_self _) (Nat.le_succ _)
    refine putE_to ((appV_to (ns := [last77]) (ha1.gr (hgs _)) (hg1.set c1 _ (by omega) (by omega) (by omega)) (by decide) (slD (get_same _ _ _) (by omega) (by simp [last77]) rfl) rfl (room_of (by simp; omega) (by simp; omega))).mono ?_)
    rintro v2 M2 c2 ⟨b2, ha2, hg2, hle2, -, -⟩
    have hs2 : SlAt F M2 c2 5 v2 (l.map insV ++ [last77]) := ha2.sl
    obtain ⟨v3, -, e3, -, -, hs3⟩ := slLV_of (lo := 0) (hi := l.length) hs2 (Nat.zero_le _) (by simp)
    have e3 := e3 rfl
    have hs3 : SlAt F M2 c2 5 v3 (l.map insV) := by
      rw [List.drop_zero, ← List.length_map (as := l) (f := insV), List.take_left] at hs3
      exact hs3
    have ok2 := hg2.ok ok
    simp only [lnSl, wp_seq, seqQ_nrm, wp_reg, wo_nil, xo_q, xo_e, putO, v_mv, v_ln, xo_call, ev_t, evs_nil, evs_cons, Tr.setP_h, Tr.setP_l, Tr.setP_r, getT_h, getT_l, getT_r, Option.map_some, v_slL, Option.map_none, w3_5, hln, e3]
    refine putE_to ((r9 Φ h9 h10 ok2 hs3 (by omega)).mono ?_)
    rintro v4 M3 c3 ⟨hg3, hv4⟩
    obtain ⟨rb, re, rfl⟩ : ∃ rb re, v4 = .t [rb, .i .i64 re] := by
      rcases hv4 with ⟨_, b, rfl, _⟩ | ⟨_, rfl⟩
      · exact ⟨_, _, rfl⟩
      · exact ⟨_, _, rfl⟩
    have ok3 := hg3.ok ok2
    have hs4 := (hs.grow hg2).grow hg3
    have hs5 := hs2.grow hg3
    simp only [wp_seq, seqQ_nrm, wp_reg, wp_block, wo_nil, xo_q, putO, v_mv, ev_t, ev_c, Tr.setP_h, Tr.setP_l, Tr.setP_r, getT_h, getT_l, getT_r, List.getElem?_cons_zero, List.getElem?_cons_succ, v_ex, w3_6, w3_7, w3_26, w3_34, w3_35]
    obtain ⟨I, hI⟩ : ∃ I : Nat → St → Prop, ∀ n s, I n s ↔ (∃ (i : Nat) (M1 : Mem) (c1 bw : Nat) (want : V) (mb : Bool) (u : List (Option V)), n = l.length - i ∧ i ≤ l.length ∧ s = .mk ((.n (.n (.n (.n (.n (.n (.n .e (uO u 63) .e) (uO u 31) (.n .e (uO u 95) .e)) (uO u 15) (.n (.n .e (uO u 79) .e) (uO u 47) (.n .e (uO u 111) .e))) (some (.b mb)) (.n (.n (.n .e (uO u 71) .e) (uO u 39) (.n .e (uO u 103) .e)) (uO u 23) (.n (.n .e (uO u 87) .e) (uO u 55) (.n .e (uO u 119) .e)))) (some (v2)) (.n (.n (.n (.n .e (uO u 67) .e) (uO u 35) (.n .e (uO u 99) .e)) (uO u 19) (.n (.n .e (uO u 83) .e) (uO u 51) (.n .e (uO u 115) .e))) (uO u 11) (.n (.n (.n .e (uO u 75) .e) (uO u 43) (.n .e (uO u 107) .e)) (uO u 27) (.n (.n .e (uO u 91) .e) (uO u 59) (.n .e (uO u 123) .e))))) (uO u 1) (.n (.n (.n (.n (.n .e (uO u 65) .e) (uO u 33) (.n .e (uO u 97) .e)) (uO u 17) (.n (.n .e (uO u 81) .e) (uO u 49) (.n .e (uO u 113) .e))) (uO u 9) (.n (.n (.n .e (uO u 73) .e) (uO u 41) (.n .e (uO u 105) .e)) (uO u 25) (.n (.n .e (uO u 89) .e) (uO u 57) (.n .e (uO u 121) .e)))) (some (.i .i64 re)) (.n (.n (.n (.n .e (uO u 69) .e) (uO u 37) (.n .e (uO u 101) .e)) (uO u 21) (.n (.n .e (uO u 85) .e) (uO u 53) (.n .e (uO u 117) .e))) (uO u 13) (.n (.n (.n .e (uO u 77) .e) (uO u 45) (.n .e (uO u 109) .e)) (uO u 29) (.n (.n .e (uO u 93) .e) (uO u 61) (.n .e (uO u 125) .e)))))) (some (v)) (.n (.n (.n (.n (.n (.n .e (uO u 64) .e) (uO u 32) (.n .e (uO u 96) .e)) (uO u 16) (.n (.n .e (uO u 80) .e) (uO u 48) (.n .e (uO u 112) .e))) (some (.i .i64 (i : Int))) (.n (.n (.n .e (uO u 72) .e) (uO u 40) (.n .e (uO u 104) .e)) (uO u 24) (.n (.n .e (uO u 88) .e) (uO u 56) (.n .e (uO u 120) .e)))) (some (rb)) (.n (.n (.n (.n .e (uO u 68) .e) (uO u 36) (.n .e (uO u 100) .e)) (uO u 20) (.n (.n .e (uO u 84) .e) (uO u 52) (.n .e (uO u 116) .e))) (uO u 12) (.n (.n (.n .e (uO u 76) .e) (uO u 44) (.n .e (uO u 108) .e)) (uO u 28) (.n (.n .e (uO u 92) .e) (uO u 60) (.n .e (uO u 124) .e))))) (uO u 2) (.n (.n (.n (.n (.n .e (uO u 66) .e) (uO u 34) (.n .e (uO u 98) .e)) (uO u 18) (.n (.n .e (uO u 82) .e) (uO u 50) (.n .e (uO u 114) .e))) (uO u 10) (.n (.n (.n .e (uO u 74) .e) (uO u 42) (.n .e (uO u 106) .e)) (uO u 26) (.n (.n .e (uO u 90) .e) (uO u 58) (.n .e (uO u 122) .e)))) (some (want)) (.n (.n (.n (.n .e (uO u 70) .e) (uO u 38) (.n .e (uO u 102) .e)) (uO u 22) (.n (.n .e (uO u 86) .e) (uO u 54) (.n .e (uO u 118) .e))) (uO u 14) (.n (.n (.n .e (uO u 78) .e) (uO u 46) (.n .e (uO u 110) .e)) (uO u 30) (.n (.n .e (uO u 94) .e) (uO u 62) (.n .e (uO u 126) .e)))))))) [] M1 c1 ∧ mb = (l.take i).all mayB ∧ Gr c3 M3 c1 M1 ∧ AccAt M1 c3 c1 bw 5 1 want ((bytesL ((l.take i).filter mayB)).map fun x => [bV x])) := ⟨fun n s => _, fun _ _ => Iff.rfl⟩
    refine wp_while I ?_ l.length _ ((hI _ _).2 ⟨0, _, _, c3, _, _, [none, _, _, none, none, none, none, none, none, _, _, _, _, _, _, _, _, _, _, _, _, _, _, _, _, _, _, _, _, _, _, _, _, _, _, _, _, _, _, _, _, _, _, _, _, _, _, _, _, _, _, _, _, _, _, _, _, _, _, _, _, _, _, _, _, _, _, _, _, _, _, _, _, _, _, _, _, _, _, _, _, _, _, _, _, _, _, _, _, _, _, _, _, _, _, _, _, _, _, _, _, _, _, _, _, _, _, _, _, _, _, _, _, _, _, _, _, _, _, _, _, _, _, _, _, _, _], rfl, Nat.zero_le _, rfl, rfl, Gr.refl ok3, AccAt.nil⟩)
    intro n s hIs
    obtain ⟨i, M4, c4, bw, want, mb, u, rfl, hi, rfl, hmb, hg, hacc⟩ := (hI _ _).1 hIs
    clear hIs
    have okg := hg.ok ok3
    by_cases hlt : i < l.length
    · have hd : decide ((i : Int) < (l.length : Int)) = true := decide_eq_true (by omega)
      obtain ⟨pb, po, hpb, hia, hld⟩ := ins_at (hs4.grow hg) i hlt
      have hld2 : ∃ b o, b < c4 ∧ (∀ k, iaSV 5 v2 (.i k (i : Int)) = some (.p b o)) ∧ loadN F M4 b o 5 = some [.i .i64 l[i].op, .i .i64 l[i].d, .i .i64 l[i].a, .i .i64 l[i].b, .i .i64 l[i].i] := by
        obtain ⟨b, o, h1, h2, h3⟩ := (hs5.grow hg).at i (by simp; omega)
        refine ⟨b, o, h1, h2, ?_⟩
        rw [List.getElem_append_left (by simpa using hlt), List.getElem_map] at h3
        exact h3.load (by unfold insV; simp)
      obtain ⟨qb, qo, hqb, hia2, hld2⟩ := hld2
      have hfree := okg.free
      have q8 : biV .add (.i .i64 (i : Int)) (.i .i64 1) = some (.i .i64 ((i + 1 : Nat) : Int)) := by rw [i64_add _ _ (by omega) (by omega)]; simp
      simp only [v_iaS, lnSl, wp_seq, seqQ_nrm, wp_reg, wp_skip, wp_block, wo_nil, xo_q, xo_e, wp_condT, putO, v_mv, v_bi, bi_lss, v_ln, v_ldn, ldn_p, xo_call, ev_t, evs_nil, evs_cons, Tr.setP_h, Tr.setP_l, Tr.setP_r, getT_h, getT_l, getT_r, Option.map_some, w3_8, w3_9, w3_10, w3_24, hln, hd, hia, hld]
      refine putE_to (calls_pure h10 (h10_eq _ _ _ _ _) ?_)
      by_cases hm : mayB l[i] = true
      · have hm' : mayI l[i].op l[i].d l[i].a l[i].b l[i].i = true := hm
        have hm2 : (!mayI l[i].op l[i].d l[i].a l[i].b l[i].i) = false := by rw [hm']; rfl
        have e1 : w10 l[i].op l[i].d l[i].a l[i].b l[i].i = (wordI l[i].op l[i].d l[i].a l[i].b l[i].i : Int) := if_pos hm
        have e2 : er10 l[i].op l[i].d l[i].a l[i].b l[i].i = 0 := if_pos hm
        have hq := h13_eq hm2
        rw [e1, e2]
        simp only [wp_dreg, wd_q, putD_v, putD_r, oV_some, dq_mv, dq_iaS, v_iaS, wp_seq, seqQ_nrm, wo_nil, xo_q, putO, v_mv, ev_t, Tr.setP_h, Tr.setP_l, Tr.setP_r, getT_h, getT_l, getT_r, List.getElem?_cons_zero, List.getElem?_cons_succ, Bool.not_true, decide_true, Bool.and_true, v_ex, andO_some, eqAt_some, eqAll_nil, eqAll_cons, negO_T, eqV_agg, eq1_int, wd_gT, dq_ldn0, ldnQ_p, ldnR_some, dq_eq, shOk_agg, shOks_nil, shOks_cons, shOk1_int, w3_11, w3_13, hia, hld, hia2, hld2, eq_self]
        refine wd_pure _ _ _ _ _ _ _ _ _ _ _ h11 hfree ?_
        simp only [wd_e1, befB_nil, befB_cons, Nat.reducePow, Nat.reduceDiv, Nat.reduceMod, putDE, dregQ_eq, mergeAll_nil, wd_nil, wd_q, putD_v, oV_some, dq_bi0, biQ_i, v_iaS, wp_seq, seqQ_nrm, wp_reg, wp_skip, wo_nil, xo_q, xo_e, wp_condF, putO, putE, setT_some, v_mv, pkV_F, v_bi, bi_eql, bi_neq, v_un, un_not, v_ldn, ldn_p, xo_call, callC_orc, ev_t, ev_c, evs_nil, evs_cons, Tr.setP_h, Tr.setP_l, Tr.setP_r, getT_h, getT_l, getT_r, Nat.reduceBEq, Bool.not_true, decide_true, decide_false, pureO_of, ofO_some, Bool.and_true, true_and, negO_T, Option.map_some, wd_gT, dq_pk, dq_eq, eqV_bool, shOk_bool, putDP, w3_14, w3_19, w3_20, w3_22, w3_23, h11_eq, hfree, h12, h12_eq, hm', hia, hld, eq_self, h13, hq, ne_eq, not_true_eq_false]
        have hw := wordB_lt l[i] hm
        have hgu := hg.up (show c4 ≤ c4 + 20 by omega)
        refine putE_to ((r14 Φ h14 (hgu.ok ok3) _ hw).mono ?_)
        rintro v5 M5 c5 ⟨x, rfl, rfl, hs6⟩
        simp only [xo_e, ev_t, Tr.setP_h, Tr.setP_l, Tr.setP_r, getT_h, getT_l, getT_r, Nat.reduceAdd, Nat.add_assoc, x_app_eq]
        refine putE_to ((appV_to (hacc.up (c' := c4 + 20 + 1) (by omega) (fun hb => get_ne _ _ (by omega))) (hgu.set (c4 + 20) x (by have := hg.le; omega) (by omega) (by omega)) Nat.one_pos hs6 (allOne_sl _) (room_of (by rw [List.length_map, List.length_map, bytesL_len]; have := List.length_filter_le mayB (l.take i); simp [fourB] at this ⊢; omega) (by rw [List.length_map, List.length_map, bytesL_len]; have := List.length_filter_le mayB (l.take i); simp [fourB] at this ⊢; omega))).mono ?_)
        rintro v6 M6 c6 ⟨bw', hacc6, hg6, -, -, -⟩
        simp only [seqQ_nrm, wp_reg, blockQ_nrm, wo_nil, xo_q, putO, v_mv, v_bi, ev_t, ev_c, Tr.setP_h, Tr.setP_l, Tr.setP_r, getT_h, getT_l, getT_r, roundQ_nrm, w3_25, q8]
        refine ⟨l.length - (i + 1), by omega, (hI _ _).2 ⟨i + 1, M6, c6, bw', v6, _, [none, _, _, none, none, none, none, none, none, _, _, _, _, _, _, _, _, _, _, _, _, _, _, _, _, _, _, _, _, _, _, _, _, _, _, _, _, _, _, _, _, _, _, _, _, _, _, _, _, _, _, _, _, _, _, _, _, _, _, _, _, _, _, _, _, _, _, _, _, _, _, _, _, _, _, _, _, _, _, _, _, _, _, _, _, _, _, _, _, _, _, _, _, _, _, _, _, _, _, _, _, _, _, _, _, _, _, _, _, _, _, _, _, _, _, _, _, _, _, _, _, _, _, _, _, _, _], rfl, by omega, rfl, ?_, hg6, ?_⟩⟩
        · rw [hmb, List.take_succ_eq_append_getElem hlt, List.all_append]; simp [hm]
        · rw [List.take_succ_eq_append_getElem hlt, List.filter_append, List.filter_cons_of_pos hm, List.filter_nil, bytesL_snoc, List.map_append]
          exact hacc6
      · have hm' : mayI l[i].op l[i].d l[i].a l[i].b l[i].i = false := by
          show mayB l[i] = false
          simpa using hm
        have e1 : w10 l[i].op l[i].d l[i].a l[i].b l[i].i = 0 := if_neg hm
        have e2 : er10 l[i].op l[i].d l[i].a l[i].b l[i].i = 2 := if_neg hm
        rw [e1, e2]
        simp only [wp_dreg, wd_q, putD_v, putD_r, oV_some, dq_mv, dq_iaS, v_iaS, wp_seq, seqQ_nrm, wo_nil, xo_q, putO, v_mv, ev_t, Tr.setP_h, Tr.setP_l, Tr.setP_r, getT_h, getT_l, getT_r, List.getElem?_cons_zero, List.getElem?_cons_succ, Bool.not_true, decide_true, Bool.and_true, v_ex, andO_some, eqAt_some, eqAll_nil, eqAll_cons, negO_T, eqV_agg, eq1_int, wd_gT, dq_ldn0, ldnQ_p, ldnR_some, dq_eq, shOk_agg, shOks_nil, shOks_cons, shOk1_int, w3_11, w3_13, hia, hld, hia2, hld2, eq_self]
        refine wd_pure _ _ _ _ _ _ _ _ _ _ _ h11 hfree ?_
        simp only [wd_e1, befB_nil, befB_cons, Nat.reducePow, Nat.reduceDiv, Nat.reduceMod, putDE, dregQ_eq, mergeAll_nil, wd_nil, wd_q, putD_v, oV_some, dq_bi0, biQ_i, v_iaS, lnSl, wp_seq, seqQ_nrm, seqQ_ext, wp_reg, wp_skip, wp_exit, blockQ_ext, wo_nil, xo_q, xo_e, wo_gT, wp_condT, wp_condF, putO, putE, setT_some, v_mv, v_pk, pkV_F, v_bi, bi_eql, bi_neq, v_un, un_not, v_ln, v_ldn, ldn_p, xo_call, callC_orc, ev_t, ev_c, evs_nil, evs_cons, Tr.setP_h, Tr.setP_l, Tr.setP_r, getT_h, getT_l, getT_r, Nat.reduceBEq, Int.reduceEq, Bool.not_true, Bool.not_false, decide_true, decide_false, if_true, if_false, reduceCtorEq, pureO_of, ofO_some, Bool.and_true, true_and, negO_T, Option.map_some, wd_gT, dq_pk, dq_eq, eqV_bool, shOk_bool, putDP, roundQ_nrm, roundQ_ext, w3_14, w3_15, w3_17, w3_18, w3_19, w3_25, w3_27, w3_29, hfree, h11, h11_eq, h12, h12_eq, hm', hln, hia, hld, eq_self, ne_eq, not_true_eq_false, q8]
        refine ⟨l.length - (i + 1), by omega, (hI _ _).2 ⟨i + 1, M4, _, bw, want, _, [none, _, _, none, none, none, none, none, none, _, _, _, _, _, _, _, _, _, _, _, _, _, _, _, _, _, _, _, _, _, _, _, _, _, _, _, _, _, _, _, _, _, _, _, _, _, _, _, _, _, _, _, _, _, _, _, _, _, _, _, _, _, _, _, _, _, _, _, _, _, _, _, _, _, _, _, _, _, _, _, _, _, _, _, _, _, _, _, _, _, _, _, _, _, _, _, _, _, _, _, _, _, _, _, _, _, _, _, _, _, _, _, _, _, _, _, _, _, _, _, _, _, _, _, _, _, _], rfl, by omega, rfl, ?_, hg.up (show c4 ≤ c4 + 20 by omega), ?_⟩⟩
        · rw [List.take_succ_eq_append_getElem hlt, List.all_append]; simp [hm]
        · rw [List.take_succ_eq_append_getElem hlt, List.filter_append, List.filter_cons_of_neg hm, List.filter_nil, List.append_nil]
          exact hacc.up (by omega) (fun _ => rfl)
    · have hd : decide ((i : Int) < (l.length : Int)) = false := decide_eq_false (by omega)
      obtain rfl : i = l.length := by omega
      rw [List.take_length] at hacc
      obtain ⟨qb, qo, hqb, hia2, hld2⟩ := (hs5.grow hg).at l.length (by simp)
      have hia2 := hia2 .i64
      rw [List.getElem_append_right (by simp)] at hld2
      simp only [List.length_map, Nat.sub_self, List.getElem_cons_zero] at hld2
      have hld3 : load1 F M4 qb (qo + 0) = some (.i .i64 77) := hld2 0 (by simp [last77])
      rw [List.take_length] at hmb
      rcases hv4 with ⟨hall, b, hb, hsb⟩ | ⟨hall, hb⟩
      · injection hb with hb
        injection hb with hb1 hb2
        injection hb2 with hb2
        injection hb2 with _ hb2
        subst hb1 hb2
        rw [hall] at hmb
        subst hmb
        have hf : l.filter mayB = l := by rw [List.filter_eq_self]; exact List.all_eq_true.1 hall
        rw [hf] at hacc
        have k1 := bs_of (hsb.grow hg)
        have k2 := bs_of (F := F) hacc.sl
        simp only [v_iaS, lnSl, wp_seq, seqQ_nrm, seqQ_ext, wp_reg, wp_ret, wp_skip, wp_exit, blockQ_ext, wo_nil, xo_q, xo_e, wo_gT, wp_condF, putO, putE, v_mv, v_pk, pkV_T, v_bi, bi_lss, bi_eql, bi_neq, v_un, un_not, v_ln, v_ld1, ld1_p, v_fa, xo_call, callC_orc, ev_t, ev_c, evs_nil, evs_cons, Tr.setP_h, Tr.setP_l, Tr.setP_r, getT_h, getT_l, getT_r, endQ_ret, endO, resV_nil', resV_t, consO_some, oneV_one, Bool.not_true, decide_true, decide_false, if_true, pureO_of, ofO_some, v_bs, bi_seq, roundQ_ext, w3_8, w3_9, w3_27, w3_29, w3_30, w3_32, w3_33, hln, hd, hia2, hld3, k1, k2, h11, h11_eq, h8, hkn, eq_self, ne_eq, not_true_eq_false]
      · injection hb with hb
        injection hb with hb1 hb2
        injection hb2 with hb2
        injection hb2 with _ hb2
        subst hb1 hb2
        rw [hall] at hmb
        subst hmb
        simp only [v_iaS, lnSl, lnL_l0, wp_seq, seqQ_nrm, seqQ_ret, seqQ_ext, wp_reg, wp_ret, wp_skip, wp_exit, blockQ_ext, wo_nil, xo_q, xo_e, wo_gT, wp_condT, wp_condF, putO, putE, v_mv, v_pk, pkV_T, v_bi, bi_lss, bi_eql, bi_neq, v_un, un_not, v_ln, v_ld1, ld1_p, v_fa, xo_call, callC_orc, ev_t, ev_c, evs_nil, evs_cons, Tr.setP_h, Tr.setP_l, Tr.setP_r, getT_h, getT_l, getT_r, endQ_ret, endO, resV_nil', resV_t, consO_some, oneV_one, Bool.not_false, decide_true, decide_false, if_true, pureO_of, ofO_some, roundQ_ext, w3_8, w3_9, w3_27, w3_29, w3_30, w3_31, w3_32, hln, hd, hia2, hld3, h11, h11_eq, h8, hkn, eq_self, ne_eq, not_true_eq_false]
end Go.Proofs.YtffpeieapadocaaGreatDoor.Ev
namespace Go.Proofs.YtffpeieapadocaaGreatDoor.Ev
open Go
def insTy : Ty := .cons (.int .i64) (.cons (.int .i64) (.cons (.int .i64) (.cons (.int .i64) (.cons (.int .i64) .nil))))
theorem i64_of {F : RO} {M : Mem} {c : Nat} {vs : List V} {x : (Ty.int .i64).D} (h : Rp F M c (.int .i64) vs x) : ∃ z : Int, vs = [.i .i64 z] ∧ -9223372036854775808 ≤ z ∧ z ≤ 9223372036854775807 := by
  have key : ∀ z : Int, vs = [.i .i64 z] ∧ IntKind.i64.min ≤ z ∧ z ≤ IntKind.i64.max → ∃ z : Int, vs = [.i .i64 z] ∧ -9223372036854775808 ≤ z ∧ z ≤ 9223372036854775807 := fun z h => ⟨z, h⟩
  exact key x h
theorem ins_of {F : RO} {M : Mem} {c : Nat} {vs : List V} {x : insTy.D} (h : Rp F M c insTy vs x) : ∃ y : Ins, vs = insV y := by
  obtain ⟨a1, r1, rfl, h1, a2, r2, rfl, h2, a3, r3, rfl, h3, a4, r4, rfl, h4, a5, r5, rfl, h5, rfl⟩ := h
  obtain ⟨z1, rfl, _⟩ := i64_of h1
  obtain ⟨z2, rfl, _⟩ := i64_of h2
  obtain ⟨z3, rfl, _⟩ := i64_of h3
  obtain ⟨z4, rfl, _⟩ := i64_of h4
  obtain ⟨z5, rfl, _⟩ := i64_of h5
  exact ⟨⟨z1, z2, z3, z4, z5⟩, rfl⟩
theorem inss_of {F : RO} {M : Mem} {c : Nat} {vs : List V} {x : (Ty.sl insTy).D} (h : Rp F M c (.sl insTy) vs x) : ∃ v, ∃ l : List Ins, vs = [v] ∧ SlAt F M c 5 v (l.map insV) ∧ l.length ≤ 9223372036854775807 := by
  obtain ⟨v, es, rfl, hs, hl, he, hr⟩ := h
  obtain ⟨l, hll, hl2⟩ := list_of (n := es.length) (Q := fun i (y : Ins) => ∀ h : i < es.length, es[i] = insV y) (fun i hi => by
    obtain ⟨y, hy⟩ := ins_of (hr i hi (by rw [← he]; exact hi))
    exact ⟨y, fun _ => hy⟩)
  obtain rfl : es = l.map insV := by
    refine List.ext_getElem (by rw [List.length_map, hll]) fun i h1 h2 => ?_
    rw [List.getElem_map]
    exact hl2 i (by rw [hll]; exact h1) h1
  refine ⟨v, l, rfl, hs, ?_⟩
  have hl' : List.length x ≤ 2 ^ 63 - 1 := hl
  rw [List.length_map] at he
  have : List.length x = l.length := he.symm
  omega
end Go.Proofs.YtffpeieapadocaaGreatDoor.Ev
