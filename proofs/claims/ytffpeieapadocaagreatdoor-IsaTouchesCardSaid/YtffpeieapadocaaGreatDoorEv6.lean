/- What is proved here: pieces of the evaluator's soundness: if the evaluator comes to a value, the model's run comes to it, for every world and tape; no conditions beyond the hypotheses of each theorem. -/
import Derived.Test.YtffpeieapadocaaGreatDoorEv5
import Derived.KernelRfl
set_option linter.unusedSimpArgs false
set_option linter.unusedVariables false
set_option maxRecDepth 10000
set_option maxHeartbeats 16000000
set_option linter.defProp false
namespace Go.Proofs.YtffpeieapadocaaGreatDoor.Ev
open Go
noncomputable def b25_1 : CC := (.reg [⟨(some (.l (.r .h))), .q (.bi .eql (.t (.l (.l .h))) (.c (.i .i64 3))), none⟩, ⟨(some (.r (.l .h))), .q (.mv (.t (.l (.r .h)))), none⟩])
def w25_1 := @wp_unf _ _ b25_1.eq_1
noncomputable def b25_2 : CC := (.reg [⟨(some (.l (.l (.l .h)))), .q (.bi .eql (.t (.l (.l .h))) (.c (.i .i64 23))), none⟩, ⟨(some (.r (.r .h))), .q (.mv (.t (.l (.l (.l .h))))), none⟩])
def w25_2 := @wp_unf _ _ b25_2.eq_1
noncomputable def b25_3 : CC := (.reg [⟨(some (.l (.r (.l .h)))), .q (.bi .eql (.t (.l (.l .h))) (.c (.i .i64 24))), none⟩, ⟨(some (.r (.l (.l .h)))), .q (.mv (.t (.l (.r (.l .h))))), none⟩])
def w25_3 := @wp_unf _ _ b25_3.eq_1
noncomputable def b25_4 : CC := (.reg [⟨(some (.l (.l (.r .h)))), .q (.bi .eql (.t (.l (.l .h))) (.c (.i .i64 5))), none⟩, ⟨(some (.r (.r (.l .h)))), .q (.mv (.t (.l (.l (.r .h))))), none⟩])
def w25_4 := @wp_unf _ _ b25_4.eq_1
noncomputable def b25_5 : CC := (.reg [⟨(some (.r (.l (.r .h)))), .q (.bi .eql (.t (.l (.l .h))) (.c (.i .i64 6))), none⟩, ⟨(some (.r (.r (.l .h)))), .q (.mv (.t (.r (.l (.r .h))))), none⟩])
def w25_5 := @wp_unf _ _ b25_5.eq_1
noncomputable def b25_6 : CC := (.reg [⟨(some (.l (.r (.r .h)))), .q (.bi .eql (.t (.l (.l .h))) (.c (.i .i64 25))), none⟩, ⟨(some (.r (.r (.l .h)))), .q (.mv (.t (.l (.r (.r .h))))), none⟩])
def w25_6 := @wp_unf _ _ b25_6.eq_1
noncomputable def b25_7 : CC := (.cond (.t (.r (.r (.l .h)))) .skip (.seq b25_5 (.cond (.t (.r (.r (.l .h)))) .skip b25_6)))
def w25_7 := @wp_unf _ _ b25_7.eq_1
noncomputable def b25_8 : CC := (.seq (.seq b25_4 b25_7) (.cond (.t (.r (.r (.l .h)))) (.exit 4) .skip))
def w25_8 := @wp_unf _ _ b25_8.eq_1
noncomputable def b25_9 : CC := (.reg [⟨(some (.l (.l (.l (.l .h))))), .q (.bi .eql (.t (.l (.l .h))) (.c (.i .i64 7))), none⟩, ⟨(some (.r (.r (.r .h)))), .q (.mv (.t (.l (.l (.l (.l .h)))))), none⟩])
def w25_9 := @wp_unf _ _ b25_9.eq_1
noncomputable def b25_10 : CC := (.seq b25_8 (.seq b25_9 (.cond (.t (.r (.r (.r .h)))) (.exit 5) .skip)))
def w25_10 := @wp_unf _ _ b25_10.eq_1
noncomputable def b25_11 : CC := (.seq (.seq b25_3 (.cond (.t (.r (.l (.l .h)))) (.exit 3) .skip)) b25_10)
def w25_11 := @wp_unf _ _ b25_11.eq_1
noncomputable def b25_12 : CC := (.seq (.seq b25_2 (.cond (.t (.r (.r .h))) (.exit 2) .skip)) b25_11)
def w25_12 := @wp_unf _ _ b25_12.eq_1
noncomputable def b25_13 : CC := (.seq (.seq b25_1 (.cond (.t (.r (.l .h))) (.exit 1) .skip)) b25_12)
def w25_13 := @wp_unf _ _ b25_13.eq_1
noncomputable def b25_14 : CC := (.seq (.reg [⟨(some (.r .h)), .q (.mv (.c (.i .i64 1))), none⟩]) .ret)
def w25_14 := @wp_unf _ _ b25_14.eq_1
noncomputable def b25_15 : CC := (.seq (.block 2 (.block 1 (.seq b25_13 (.exit 0)))) (.seq b25_14 (.exit 0)))
def w25_15 := @wp_unf _ _ b25_15.eq_1
noncomputable def b25_16 : CC := (.seq (.reg [⟨(some (.r .h)), .q (.mv (.c (.i .i64 2))), none⟩]) .ret)
def w25_16 := @wp_unf _ _ b25_16.eq_1
noncomputable def b25_17 : CC := (.seq (.reg [⟨(some (.r .h)), .q (.mv (.c (.i .i64 3))), none⟩]) .ret)
def w25_17 := @wp_unf _ _ b25_17.eq_1
noncomputable def b25_18 : CC := (.seq (.block 4 (.seq (.block 3 b25_15) (.seq b25_16 (.exit 0)))) (.seq b25_17 (.exit 0)))
def w25_18 := @wp_unf _ _ b25_18.eq_1
noncomputable def b25_19 : CC := (.seq (.reg [⟨(some (.r .h)), .q (.mv (.c (.i .i64 4))), none⟩]) .ret)
def w25_19 := @wp_unf _ _ b25_19.eq_1
noncomputable def b25_20 : CC := (.seq (.reg [⟨(some (.l (.l .h))), .q (.mv (.t .h)), none⟩]) (.block 0 (.seq (.block 5 b25_18) (.seq b25_19 (.exit 0)))))
def w25_20 := @wp_unf _ _ b25_20.eq_1
noncomputable def b25_21 : CC := (.reg [⟨(some (.l (.r (.l (.l .h))))), .q (.mv (.t .h)), none⟩, ⟨(some (.r (.r (.l (.l .h))))), .q (.bi .geq (.t (.l (.r (.l (.l .h))))) (.c (.i .i64 8))), none⟩, ⟨(some (.l (.l (.r (.l .h))))), .q (.mv (.t (.r (.r (.l (.l .h)))))), none⟩, ⟨(some (.r (.l (.r (.l .h))))), .q (.mv (.t .h)), (some ((.l (.l (.r (.l .h)))), true))⟩, ⟨(some (.l (.r (.r (.l .h))))), .q (.bi .leq (.t (.r (.l (.r (.l .h))))) (.c (.i .i64 17))), (some ((.l (.l (.r (.l .h)))), true))⟩, ⟨(some (.r (.r (.r (.l .h))))), .q (.pk (.t (.l (.l (.r (.l .h))))) (.t (.l (.r (.r (.l .h))))) (.c (.b false))), none⟩, ⟨(some (.r (.l (.l (.l .h))))), .q (.mv (.t (.r (.r (.r (.l .h)))))), none⟩])
def w25_21 := @wp_unf _ _ b25_21.eq_1
noncomputable def b25_22 : CC := (.seq (.reg [⟨(some (.r .h)), .q (.mv (.c (.i .i64 5))), none⟩]) .ret)
def w25_22 := @wp_unf _ _ b25_22.eq_1
noncomputable def b25_23 : CC := (.reg [⟨(some (.r (.l (.l (.r .h))))), .q (.mv (.t .h)), none⟩, ⟨(some (.l (.r (.l (.r .h))))), .q (.bi .geq (.t (.r (.l (.l (.r .h))))) (.c (.i .i64 18))), none⟩, ⟨(some (.r (.r (.l (.r .h))))), .q (.mv (.t (.l (.r (.l (.r .h)))))), none⟩, ⟨(some (.l (.l (.r (.r .h))))), .q (.mv (.t .h)), (some ((.r (.r (.l (.r .h)))), true))⟩, ⟨(some (.r (.l (.r (.r .h))))), .q (.bi .leq (.t (.l (.l (.r (.r .h))))) (.c (.i .i64 22))), (some ((.r (.r (.l (.r .h)))), true))⟩, ⟨(some (.l (.r (.r (.r .h))))), .q (.pk (.t (.r (.r (.l (.r .h))))) (.t (.r (.l (.r (.r .h))))) (.c (.b false))), none⟩, ⟨(some (.r (.r (.r (.r .h))))), .q (.mv (.t (.l (.r (.r (.r .h)))))), none⟩, ⟨(some (.l (.l (.l (.l (.l .h)))))), .q (.mv (.t .h)), (some ((.r (.r (.r (.r .h)))), false))⟩, ⟨(some (.r (.l (.l (.l (.l .h)))))), .q (.bi .geq (.t (.l (.l (.l (.l (.l .h)))))) (.c (.i .i64 26))), (some ((.r (.r (.r (.r .h)))), false))⟩, ⟨(some (.l (.r (.l (.l (.l .h)))))), .q (.mv (.t (.r (.l (.l (.l (.l .h))))))), (some ((.r (.r (.r (.r .h)))), false))⟩, ⟨(some (.r (.r (.l (.l (.l .h)))))), .q (.mv (.t .h)), (some ((.l (.r (.l (.l (.l .h))))), true))⟩, ⟨(some (.l (.l (.r (.l (.l .h)))))), .q (.bi .leq (.t (.r (.r (.l (.l (.l .h)))))) (.c (.i .i64 28))), (some ((.l (.r (.l (.l (.l .h))))), true))⟩, ⟨(some (.r (.l (.r (.l (.l .h)))))), .q (.pk (.t (.l (.r (.l (.l (.l .h)))))) (.t (.l (.l (.r (.l (.l .h)))))) (.c (.b false))), (some ((.r (.r (.r (.r .h)))), false))⟩, ⟨(some (.l (.r (.r (.l (.l .h)))))), .q (.pk (.t (.r (.r (.r (.r .h))))) (.c (.b true)) (.t (.r (.l (.r (.l (.l .h))))))), none⟩, ⟨(some (.l (.l (.l (.r .h))))), .q (.mv (.t (.l (.r (.r (.l (.l .h))))))), none⟩])
def w25_23 := @wp_unf _ _ b25_23.eq_1
noncomputable def b25_24 : CC := (.seq (.reg [⟨(some (.r .h)), .q (.mv (.c (.i .i64 6))), none⟩]) .ret)
def w25_24 := @wp_unf _ _ b25_24.eq_1
noncomputable def b25_25 : CC := (.seq b25_23 (.cond (.t (.l (.l (.l (.r .h))))) b25_24 .skip))
def w25_25 := @wp_unf _ _ b25_25.eq_1
noncomputable def b25_26 : CC := (.seq b25_21 (.cond (.t (.r (.l (.l (.l .h))))) b25_22 b25_25))
def w25_26 := @wp_unf _ _ b25_26.eq_1
noncomputable def b25_27 : CC := (.seq (.reg [⟨(some (.r .h)), .q (.mv (.c (.i .i64 0))), none⟩]) .ret)
def w25_27 := @wp_unf _ _ b25_27.eq_1
noncomputable def b25_28 : CC := (.seq (.reg [⟨(some (.r .h)), .q (.mv (.c (.i .i64 0))), none⟩]) (.seq b25_20 (.seq (.block 6 b25_26) b25_27)))
def w25_28 := @wp_unf _ _ b25_28.eq_1
noncomputable def c25 : CF := .mk 6 [.t (.r .h)] b25_28
theorem e25 (v0 : V) : argTr 6 [v0] = (.n (.n (.n (.n (.n (.n .e none .e) none (.n .e none .e)) none (.n (.n .e none .e) none (.n .e none .e))) none (.n (.n (.n .e none .e) none (.n .e none .e)) none (.n (.n .e none .e) none (.n .e none .e)))) none (.n (.n (.n (.n .e none .e) none (.n .e none .e)) none (.n (.n .e none .e) none (.n .e none .e))) none (.n (.n (.n .e none .e) none (.n .e none .e)) none (.n (.n .e none .e) none (.n .e none .e))))) (some v0) (.n (.n (.n (.n (.n .e none .e) none (.n .e none .e)) none (.n (.n .e none .e) none (.n .e none .e))) none (.n (.n (.n .e none .e) none (.n .e none .e)) none (.n (.n .e none .e) none (.n .e none .e)))) none (.n (.n (.n (.n .e none .e) none (.n .e none .e)) none (.n (.n .e none .e) none (.n .e none .e))) none (.n (.n (.n .e none .e) none (.n .e none .e)) none (.n (.n .e none .e) none (.n .e none .e)))))) := rfl
noncomputable def b26_1 : CC := (.reg [⟨(some (.l (.r .h))), .q (.bi .eql (.t (.l (.l .h))) (.c (.i .i64 3))), none⟩, ⟨(some (.r (.l .h))), .q (.mv (.t (.l (.r .h)))), none⟩])
def w26_1 := @wp_unf _ _ b26_1.eq_1
noncomputable def b26_2 : CC := (.reg [⟨(some (.r (.r .h))), .q (.bi .eql (.t (.l (.l .h))) (.c (.i .i64 23))), none⟩, ⟨(some (.r (.l .h))), .q (.mv (.t (.r (.r .h)))), none⟩])
def w26_2 := @wp_unf _ _ b26_2.eq_1
noncomputable def b26_3 : CC := (.seq (.reg [⟨(some (.r .h)), .q (.mv (.c (.i .i64 1))), none⟩]) .ret)
def w26_3 := @wp_unf _ _ b26_3.eq_1
noncomputable def b26_4 : CC := (.reg [⟨(some (.r (.l (.l .h)))), .q (.bi .eql (.t (.l (.l .h))) (.c (.i .i64 24))), none⟩, ⟨(some (.l (.l (.l .h)))), .q (.mv (.t (.r (.l (.l .h))))), none⟩])
def w26_4 := @wp_unf _ _ b26_4.eq_1
noncomputable def b26_5 : CC := (.seq (.reg [⟨(some (.r .h)), .q (.mv (.c (.i .i64 2))), none⟩]) .ret)
def w26_5 := @wp_unf _ _ b26_5.eq_1
noncomputable def b26_6 : CC := (.reg [⟨(some (.r (.r (.l .h)))), .q (.bi .eql (.t (.l (.l .h))) (.c (.i .i64 5))), none⟩, ⟨(some (.l (.r (.l .h)))), .q (.mv (.t (.r (.r (.l .h))))), none⟩])
def w26_6 := @wp_unf _ _ b26_6.eq_1
noncomputable def b26_7 : CC := (.reg [⟨(some (.l (.l (.r .h)))), .q (.bi .eql (.t (.l (.l .h))) (.c (.i .i64 6))), none⟩, ⟨(some (.l (.r (.l .h)))), .q (.mv (.t (.l (.l (.r .h))))), none⟩])
def w26_7 := @wp_unf _ _ b26_7.eq_1
noncomputable def b26_8 : CC := (.reg [⟨(some (.r (.l (.r .h)))), .q (.bi .eql (.t (.l (.l .h))) (.c (.i .i64 25))), none⟩, ⟨(some (.l (.r (.l .h)))), .q (.mv (.t (.r (.l (.r .h))))), none⟩])
def w26_8 := @wp_unf _ _ b26_8.eq_1
noncomputable def b26_9 : CC := (.cond (.t (.l (.r (.l .h)))) .skip (.seq b26_7 (.cond (.t (.l (.r (.l .h)))) .skip b26_8)))
def w26_9 := @wp_unf _ _ b26_9.eq_1
noncomputable def b26_10 : CC := (.seq (.reg [⟨(some (.r .h)), .q (.mv (.c (.i .i64 3))), none⟩]) .ret)
def w26_10 := @wp_unf _ _ b26_10.eq_1
noncomputable def b26_11 : CC := (.reg [⟨(some (.r (.r (.r .h)))), .q (.bi .eql (.t (.l (.l .h))) (.c (.i .i64 7))), none⟩, ⟨(some (.l (.r (.r .h)))), .q (.mv (.t (.r (.r (.r .h))))), none⟩])
def w26_11 := @wp_unf _ _ b26_11.eq_1
noncomputable def b26_12 : CC := (.seq (.reg [⟨(some (.r .h)), .q (.mv (.c (.i .i64 4))), none⟩]) .ret)
def w26_12 := @wp_unf _ _ b26_12.eq_1
noncomputable def b26_13 : CC := (.reg [⟨(some (.r (.l (.l (.l .h))))), .q (.bi .eql (.t (.l (.l .h))) (.c (.i .i64 8))), none⟩, ⟨(some (.l (.l (.l (.l .h))))), .q (.mv (.t (.r (.l (.l (.l .h)))))), none⟩])
def w26_13 := @wp_unf _ _ b26_13.eq_1
noncomputable def b26_14 : CC := (.reg [⟨(some (.l (.r (.l (.l .h))))), .q (.bi .eql (.t (.l (.l .h))) (.c (.i .i64 9))), none⟩, ⟨(some (.l (.l (.l (.l .h))))), .q (.mv (.t (.l (.r (.l (.l .h)))))), none⟩])
def w26_14 := @wp_unf _ _ b26_14.eq_1
noncomputable def b26_15 : CC := (.reg [⟨(some (.r (.r (.l (.l .h))))), .q (.bi .eql (.t (.l (.l .h))) (.c (.i .i64 10))), none⟩, ⟨(some (.l (.l (.l (.l .h))))), .q (.mv (.t (.r (.r (.l (.l .h)))))), none⟩])
def w26_15 := @wp_unf _ _ b26_15.eq_1
noncomputable def b26_16 : CC := (.reg [⟨(some (.l (.l (.r (.l .h))))), .q (.bi .eql (.t (.l (.l .h))) (.c (.i .i64 11))), none⟩, ⟨(some (.l (.l (.l (.l .h))))), .q (.mv (.t (.l (.l (.r (.l .h)))))), none⟩])
def w26_16 := @wp_unf _ _ b26_16.eq_1
noncomputable def b26_17 : CC := (.reg [⟨(some (.r (.l (.r (.l .h))))), .q (.bi .eql (.t (.l (.l .h))) (.c (.i .i64 12))), none⟩, ⟨(some (.l (.l (.l (.l .h))))), .q (.mv (.t (.r (.l (.r (.l .h)))))), none⟩])
def w26_17 := @wp_unf _ _ b26_17.eq_1
noncomputable def b26_18 : CC := (.reg [⟨(some (.l (.r (.r (.l .h))))), .q (.bi .eql (.t (.l (.l .h))) (.c (.i .i64 13))), none⟩, ⟨(some (.l (.l (.l (.l .h))))), .q (.mv (.t (.l (.r (.r (.l .h)))))), none⟩])
def w26_18 := @wp_unf _ _ b26_18.eq_1
noncomputable def b26_19 : CC := (.reg [⟨(some (.r (.r (.r (.l .h))))), .q (.bi .eql (.t (.l (.l .h))) (.c (.i .i64 14))), none⟩, ⟨(some (.l (.l (.l (.l .h))))), .q (.mv (.t (.r (.r (.r (.l .h)))))), none⟩])
def w26_19 := @wp_unf _ _ b26_19.eq_1
noncomputable def b26_20 : CC := (.reg [⟨(some (.l (.l (.l (.r .h))))), .q (.bi .eql (.t (.l (.l .h))) (.c (.i .i64 15))), none⟩, ⟨(some (.l (.l (.l (.l .h))))), .q (.mv (.t (.l (.l (.l (.r .h)))))), none⟩])
def w26_20 := @wp_unf _ _ b26_20.eq_1
noncomputable def b26_21 : CC := (.reg [⟨(some (.r (.l (.l (.r .h))))), .q (.bi .eql (.t (.l (.l .h))) (.c (.i .i64 16))), none⟩, ⟨(some (.l (.l (.l (.l .h))))), .q (.mv (.t (.r (.l (.l (.r .h)))))), none⟩])
def w26_21 := @wp_unf _ _ b26_21.eq_1
noncomputable def b26_22 : CC := (.reg [⟨(some (.l (.r (.l (.r .h))))), .q (.bi .eql (.t (.l (.l .h))) (.c (.i .i64 17))), none⟩, ⟨(some (.l (.l (.l (.l .h))))), .q (.mv (.t (.l (.r (.l (.r .h)))))), none⟩])
def w26_22 := @wp_unf _ _ b26_22.eq_1
noncomputable def b26_23 : CC := (.seq b26_21 (.cond (.t (.l (.l (.l (.l .h))))) .skip b26_22))
def w26_23 := @wp_unf _ _ b26_23.eq_1
noncomputable def b26_24 : CC := (.seq b26_20 (.cond (.t (.l (.l (.l (.l .h))))) .skip b26_23))
def w26_24 := @wp_unf _ _ b26_24.eq_1
noncomputable def b26_25 : CC := (.seq b26_19 (.cond (.t (.l (.l (.l (.l .h))))) .skip b26_24))
def w26_25 := @wp_unf _ _ b26_25.eq_1
noncomputable def b26_26 : CC := (.seq b26_18 (.cond (.t (.l (.l (.l (.l .h))))) .skip b26_25))
def w26_26 := @wp_unf _ _ b26_26.eq_1
noncomputable def b26_27 : CC := (.seq b26_17 (.cond (.t (.l (.l (.l (.l .h))))) .skip b26_26))
def w26_27 := @wp_unf _ _ b26_27.eq_1
noncomputable def b26_28 : CC := (.seq b26_16 (.cond (.t (.l (.l (.l (.l .h))))) .skip b26_27))
def w26_28 := @wp_unf _ _ b26_28.eq_1
noncomputable def b26_29 : CC := (.seq b26_15 (.cond (.t (.l (.l (.l (.l .h))))) .skip b26_28))
def w26_29 := @wp_unf _ _ b26_29.eq_1
noncomputable def b26_30 : CC := (.seq b26_14 (.cond (.t (.l (.l (.l (.l .h))))) .skip b26_29))
def w26_30 := @wp_unf _ _ b26_30.eq_1
noncomputable def b26_31 : CC := (.seq b26_13 (.cond (.t (.l (.l (.l (.l .h))))) .skip b26_30))
def w26_31 := @wp_unf _ _ b26_31.eq_1
noncomputable def b26_32 : CC := (.seq (.reg [⟨(some (.r .h)), .q (.mv (.c (.i .i64 5))), none⟩]) .ret)
def w26_32 := @wp_unf _ _ b26_32.eq_1
noncomputable def b26_33 : CC := (.reg [⟨(some (.l (.l (.r (.r .h))))), .q (.bi .eql (.t (.l (.l .h))) (.c (.i .i64 18))), none⟩, ⟨(some (.r (.r (.l (.r .h))))), .q (.mv (.t (.l (.l (.r (.r .h)))))), none⟩])
def w26_33 := @wp_unf _ _ b26_33.eq_1
noncomputable def b26_34 : CC := (.reg [⟨(some (.r (.l (.r (.r .h))))), .q (.bi .eql (.t (.l (.l .h))) (.c (.i .i64 19))), none⟩, ⟨(some (.r (.r (.l (.r .h))))), .q (.mv (.t (.r (.l (.r (.r .h)))))), none⟩])
def w26_34 := @wp_unf _ _ b26_34.eq_1
noncomputable def b26_35 : CC := (.reg [⟨(some (.l (.r (.r (.r .h))))), .q (.bi .eql (.t (.l (.l .h))) (.c (.i .i64 20))), none⟩, ⟨(some (.r (.r (.l (.r .h))))), .q (.mv (.t (.l (.r (.r (.r .h)))))), none⟩])
def w26_35 := @wp_unf _ _ b26_35.eq_1
noncomputable def b26_36 : CC := (.reg [⟨(some (.r (.r (.r (.r .h))))), .q (.bi .eql (.t (.l (.l .h))) (.c (.i .i64 21))), none⟩, ⟨(some (.r (.r (.l (.r .h))))), .q (.mv (.t (.r (.r (.r (.r .h)))))), none⟩])
def w26_36 := @wp_unf _ _ b26_36.eq_1
noncomputable def b26_37 : CC := (.reg [⟨(some (.l (.l (.l (.l (.l .h)))))), .q (.bi .eql (.t (.l (.l .h))) (.c (.i .i64 22))), none⟩, ⟨(some (.r (.r (.l (.r .h))))), .q (.mv (.t (.l (.l (.l (.l (.l .h))))))), none⟩])
def w26_37 := @wp_unf _ _ b26_37.eq_1
noncomputable def b26_38 : CC := (.reg [⟨(some (.r (.l (.l (.l (.l .h)))))), .q (.bi .eql (.t (.l (.l .h))) (.c (.i .i64 26))), none⟩, ⟨(some (.r (.r (.l (.r .h))))), .q (.mv (.t (.r (.l (.l (.l (.l .h))))))), none⟩])
def w26_38 := @wp_unf _ _ b26_38.eq_1
noncomputable def b26_39 : CC := (.reg [⟨(some (.l (.r (.l (.l (.l .h)))))), .q (.bi .eql (.t (.l (.l .h))) (.c (.i .i64 27))), none⟩, ⟨(some (.r (.r (.l (.r .h))))), .q (.mv (.t (.l (.r (.l (.l (.l .h))))))), none⟩])
def w26_39 := @wp_unf _ _ b26_39.eq_1
noncomputable def b26_40 : CC := (.reg [⟨(some (.r (.r (.l (.l (.l .h)))))), .q (.bi .eql (.t (.l (.l .h))) (.c (.i .i64 28))), none⟩, ⟨(some (.r (.r (.l (.r .h))))), .q (.mv (.t (.r (.r (.l (.l (.l .h))))))), none⟩])
def w26_40 := @wp_unf _ _ b26_40.eq_1
noncomputable def b26_41 : CC := (.seq b26_39 (.cond (.t (.r (.r (.l (.r .h))))) .skip b26_40))
def w26_41 := @wp_unf _ _ b26_41.eq_1
noncomputable def b26_42 : CC := (.seq b26_38 (.cond (.t (.r (.r (.l (.r .h))))) .skip b26_41))
def w26_42 := @wp_unf _ _ b26_42.eq_1
noncomputable def b26_43 : CC := (.seq b26_37 (.cond (.t (.r (.r (.l (.r .h))))) .skip b26_42))
def w26_43 := @wp_unf _ _ b26_43.eq_1
noncomputable def b26_44 : CC := (.seq b26_36 (.cond (.t (.r (.r (.l (.r .h))))) .skip b26_43))
def w26_44 := @wp_unf _ _ b26_44.eq_1
noncomputable def b26_45 : CC := (.seq b26_35 (.cond (.t (.r (.r (.l (.r .h))))) .skip b26_44))
def w26_45 := @wp_unf _ _ b26_45.eq_1
noncomputable def b26_46 : CC := (.seq b26_34 (.cond (.t (.r (.r (.l (.r .h))))) .skip b26_45))
def w26_46 := @wp_unf _ _ b26_46.eq_1
noncomputable def b26_47 : CC := (.seq b26_33 (.cond (.t (.r (.r (.l (.r .h))))) .skip b26_46))
def w26_47 := @wp_unf _ _ b26_47.eq_1
noncomputable def b26_48 : CC := (.seq (.reg [⟨(some (.r .h)), .q (.mv (.c (.i .i64 6))), none⟩]) .ret)
def w26_48 := @wp_unf _ _ b26_48.eq_1
noncomputable def b26_49 : CC := (.seq b26_47 (.cond (.t (.r (.r (.l (.r .h))))) b26_48 .skip))
def w26_49 := @wp_unf _ _ b26_49.eq_1
noncomputable def b26_50 : CC := (.seq b26_31 (.cond (.t (.l (.l (.l (.l .h))))) b26_32 b26_49))
def w26_50 := @wp_unf _ _ b26_50.eq_1
noncomputable def b26_51 : CC := (.cond (.t (.l (.r (.l .h)))) b26_10 (.seq b26_11 (.cond (.t (.l (.r (.r .h)))) b26_12 b26_50)))
def w26_51 := @wp_unf _ _ b26_51.eq_1
noncomputable def b26_52 : CC := (.cond (.t (.l (.l (.l .h)))) b26_5 (.seq (.seq b26_6 b26_9) b26_51))
def w26_52 := @wp_unf _ _ b26_52.eq_1
noncomputable def b26_53 : CC := (.seq (.seq b26_1 (.cond (.t (.r (.l .h))) .skip b26_2)) (.cond (.t (.r (.l .h))) b26_3 (.seq b26_4 b26_52)))
def w26_53 := @wp_unf _ _ b26_53.eq_1
noncomputable def b26_54 : CC := (.seq (.reg [⟨(some (.l (.l .h))), .q (.mv (.t .h)), none⟩]) (.block 0 b26_53))
def w26_54 := @wp_unf _ _ b26_54.eq_1
noncomputable def b26_55 : CC := (.seq (.reg [⟨(some (.r .h)), .q (.mv (.c (.i .i64 0))), none⟩]) .ret)
def w26_55 := @wp_unf _ _ b26_55.eq_1
noncomputable def b26_56 : CC := (.seq (.reg [⟨(some (.r .h)), .q (.mv (.c (.i .i64 0))), none⟩]) (.seq b26_54 b26_55))
def w26_56 := @wp_unf _ _ b26_56.eq_1
noncomputable def c26 : CF := .mk 6 [.t (.r .h)] b26_56
theorem e26 (v0 : V) : argTr 6 [v0] = (.n (.n (.n (.n (.n (.n .e none .e) none (.n .e none .e)) none (.n (.n .e none .e) none (.n .e none .e))) none (.n (.n (.n .e none .e) none (.n .e none .e)) none (.n (.n .e none .e) none (.n .e none .e)))) none (.n (.n (.n (.n .e none .e) none (.n .e none .e)) none (.n (.n .e none .e) none (.n .e none .e))) none (.n (.n (.n .e none .e) none (.n .e none .e)) none (.n (.n .e none .e) none (.n .e none .e))))) (some v0) (.n (.n (.n (.n (.n .e none .e) none (.n .e none .e)) none (.n (.n .e none .e) none (.n .e none .e))) none (.n (.n (.n .e none .e) none (.n .e none .e)) none (.n (.n .e none .e) none (.n .e none .e)))) none (.n (.n (.n (.n .e none .e) none (.n .e none .e)) none (.n (.n .e none .e) none (.n .e none .e))) none (.n (.n (.n .e none .e) none (.n .e none .e)) none (.n (.n .e none .e) none (.n .e none .e)))))) := rfl
theorem t25 (Φ : Nat → Option CF) (h : Φ 25 = some c25) (op : Int) (ct : Nat) : To Φ 25 [.i .i64 op] ct (.i .i64 (formI op)) := by
  refine to_walk h ?_
  simp only [wp_seq, seqQ_nrm, wp_reg, wp_block, wo_nil, xo_q, putO, v_mv, v_bi, bi_eql, ev_t, ev_c, Tr.setP_h, Tr.setP_l, Tr.setP_r, getT_h, getT_l, getT_r, e25, w25_1, w25_13, w25_15, w25_18, w25_20, w25_28]
  repeat' first | (refine wp_cond (by simp only [ev_t, getT_h, getT_l, getT_r]; rfl) (fun h => ?_) (fun h => ?_) <;> simp only [wp_seq, seqQ_nrm, seqQ_ret, seqQ_ext, wp_reg, wp_ret, wp_skip, wp_exit, wp_block, blockQ_nrm, blockQ_ret, blockQ_ext, wo_nil, xo_q, wp_condT, putO, v_mv, v_bi, bi_geq, bi_eql, ev_t, ev_c, Tr.setP_h, Tr.setP_l, Tr.setP_r, getT_h, getT_l, getT_r, Nat.reduceEqDiff, endQ_ret, endO, resV_nil', resV_t, consO_some, oneV_one, if_true, if_false, reduceCtorEq, w25_2, w25_3, w25_4, w25_5, w25_6, w25_7, w25_8, w25_9, w25_10, w25_11, w25_12, w25_14, w25_16, w25_17, w25_19, w25_21, w25_22, w25_23, w25_24, w25_25, w25_26, w25_27, h]) | (refine wo_g (by simp only [getT_h, getT_l, getT_r]; rfl) (fun h => ?_) (fun h => ?_) <;> simp only [wp_seq, seqQ_nrm, seqQ_ret, wp_reg, wp_ret, wp_skip, blockQ_nrm, blockQ_ret, wo_nil, xo_q, wo_gT, wo_gF, wo_gU, wp_condT, wp_condF, putO, setT_some, v_mv, v_pk, pkV_T, pkV_F, v_bi, bi_leq, bi_geq, ev_t, ev_c, Tr.setP_h, Tr.setP_l, Tr.setP_r, getT_h, getT_l, getT_r, endQ_ret, endO, resV_nil', resV_t, consO_some, oneV_one, Bool.not_true, Bool.not_false, w25_23, w25_24, w25_25, w25_27, h])
  all_goals (simp only [decide_eq_true_eq, decide_eq_false_iff_not, Bool.not_true, Bool.not_false] at *; congr 1; unfold formI; repeat' split)
  all_goals first | rfl | omega
theorem t26 (Φ : Nat → Option CF) (h : Φ 26 = some c26) (op : Int) (ct : Nat) : To Φ 26 [.i .i64 op] ct (.i .i64 (formI op)) := by
  refine to_walk h ?_
  simp only [wp_seq, seqQ_nrm, wp_reg, wp_block, wo_nil, xo_q, putO, v_mv, v_bi, bi_eql, ev_t, ev_c, Tr.setP_h, Tr.setP_l, Tr.setP_r, getT_h, getT_l, getT_r, e26, w26_1, w26_53, w26_54, w26_56]
  repeat' first | (refine wp_cond (by simp only [ev_t, getT_h, getT_l, getT_r]; rfl) (fun h => ?_) (fun h => ?_) <;> simp only [wp_seq, seqQ_nrm, seqQ_ret, wp_reg, wp_ret, wp_skip, blockQ_nrm, blockQ_ret, wo_nil, xo_q, wp_condT, putO, v_mv, v_bi, bi_eql, ev_t, ev_c, Tr.setP_h, Tr.setP_l, Tr.setP_r, getT_h, getT_l, getT_r, endQ_ret, endO, resV_nil', resV_t, consO_some, oneV_one, w26_2, w26_3, w26_4, w26_5, w26_6, w26_7, w26_8, w26_9, w26_10, w26_11, w26_12, w26_13, w26_14, w26_15, w26_16, w26_17, w26_18, w26_19, w26_20, w26_21, w26_22, w26_23, w26_24, w26_25, w26_26, w26_27, w26_28, w26_29, w26_30, w26_31, w26_32, w26_33, w26_34, w26_35, w26_36, w26_37, w26_38, w26_39, w26_40, w26_41, w26_42, w26_43, w26_44, w26_45, w26_46, w26_47, w26_48, w26_49, w26_50, w26_51, w26_52, w26_55, h]) | (refine wo_g (by simp only [wp_dreg, wd_e1, befB_nil, befB_cons, Nat.reducePow, Nat.reduceDiv, Nat.reduceMod, putDE, roFree_nil, roFree_cons, get_ne, Tr.get_e, isNone_none', dregQ_eq, mergeAll_nil, wd_nil, wd_q, putD_v, putD_r, oV_some, dq_mv, dq_ci, dq_bi0, biQ_i, dq_ex, dq_ld0, ldQ_p, ldR_some, dq_iaS, v_iaS, lnSl, lnL_l, lnL_u, lnL_l0, lnL_ue, wp_seq, seqQ_nrm, seqQ_ret, seqQ_ext, wp_reg, wp_ret, wp_skip, wp_exit, wp_block, blockQ_nrm, blockQ_ret, blockQ_ext, loopQ_nrm, loopQ_ret, loopQ_ext, wo_nil, xo_q, xo_a, xo_e, xo_e0, wo_gT, wo_gF, wo_gU, wp_condT, wp_condF, putO, putA, putE, putE0, setT_some, setT_none, v_mv, v_pk, pkV_T, pkV_F, v_bi, bi_sub, bi_lss, bi_gtr, bi_leq, bi_geq, bi_eql, bi_neq, v_un, un_not, v_ln, lnS, v_ixS, v_ld1, v_ldn, ld1_p, ldn_p, load1_same, v_fa, e_st_eq, er_some, xo_call, callC_orc, ev_t, ev_c, evs_nil, evs_cons, Tr.setP_h, Tr.setP_l, Tr.setP_r, getT_h, getT_n, getT_l, getT_r, Nat.reduceBEq, Nat.reduceEqDiff, Int.reduceEq, Int.reduceLT, Int.reduceLE, cond_true, cond_false, List.getElem?_cons_zero, List.getElem?_cons_succ, Option.getD_some, endQ_nrm, endQ_ret, endO, resV_nil', resV_t, consO_some, oneV_one, oneV_two, Bool.not_true, Bool.not_false, Bool.false_eq_true, Bool.true_eq_false, decide_true, decide_false, if_true, if_false, ite_true, ite_false, reduceIte, reduceCtorEq, pureO_of, ofO_some, flatten_b, flatten_i, flatten_s, flatten_p, flatten_p0, flatten_l, flatten_u, flatten_l0, flatten_m, flatten_m0, flatten_f, flatten_f0, flatten_g, allOne_nil, allOne_cons, isOne_b, isOne_i, isOne_s, isOne_p, isOne_p0, isOne_l, isOne_u, isOne_l0, isOne_m, isOne_f, isOne_f0, Bool.and_true, Bool.true_and, evP_nil, evP_cons, fillV_nil, fillV_cons, over_nil, over_cons, List.set_cons_zero, List.set_cons_succ, List.length_cons, List.length_nil, Nat.reduceAdd, Nat.reduceLeDiff, Nat.zero_add, and_self, and_true, true_and, v_bld, replL_over, v_fl1, v_fln, v_ex, v_ci, andO_some, eqAt_some, eqAll_nil, eqAll_cons, negO_F, negO_T, v_eq, eqV_agg, eqV_int, eq1_int, eq1_bool, xo_cv, callV_f, v_mkf, resV_cn, resV_c1, List.nil_append, List.append_nil, List.cons_append, load1_ne, loadN_ne, loadN_same, storeN_same, storeN_ne', mapS_some, a_al_eq, a_bx_eq, List.drop_zero, List.take_succ_cons, List.take_zero, List.take_nil, List.drop_succ_cons, Option.map_some, v_ixA1, ixA1_g, ne_add0, ne_add1, ne_add, Nat.add_assoc, x_app_eq, v_slL, v_bs, a_bsl_w, evPs_nil, evPs_cons, partsR_nil, partsR_cons, bslO_some, Option.isSome_some, Option.map_none, v_slS, lnSs, bi_seq, bi_sne, eq1_str, eqV_str, wd_gT, wd_gF, wd_gU, dq_ldn0, ldnQ_p, ldnR_some, dq_pk, dq_lnL, dq_lnS, dq_ixS, dq_un, dq_eq, shOk_agg, shOks_nil, shOks_cons, shOk1_int, shOk1_bool, shOk1_str, eqV_bool, shOk_int, shOk_bool, shOk_str, dq_fa, putDP, a_mks_w, wp_condTc, wp_condFc, roundQ_nrm, roundQ_ret, roundQ_ext, decide_eq_true_eq, or_self, or_true, or_false, true_or, false_or, and_false, false_and]; rfl) (fun h => ?_) (fun h => ?_) <;> simp only [wp_dreg, wd_e1, befB_nil, befB_cons, Nat.reducePow, Nat.reduceDiv, Nat.reduceMod, putDE, roFree_nil, roFree_cons, get_ne, Tr.get_e, isNone_none', dregQ_eq, mergeAll_nil, wd_nil, wd_q, putD_v, putD_r, oV_some, dq_mv, dq_ci, dq_bi0, biQ_i, dq_ex, dq_ld0, ldQ_p, ldR_some, dq_iaS, v_iaS, lnSl, lnL_l, lnL_u, lnL_l0, lnL_ue, wp_seq, seqQ_nrm, seqQ_ret, seqQ_ext, wp_reg, wp_ret, wp_skip, wp_exit, wp_block, blockQ_nrm, blockQ_ret, blockQ_ext, loopQ_nrm, loopQ_ret, loopQ_ext, wo_nil, xo_q, xo_a, xo_e, xo_e0, wo_gT, wo_gF, wo_gU, wp_condT, wp_condF, putO, putA, putE, putE0, setT_some, setT_none, v_mv, v_pk, pkV_T, pkV_F, v_bi, bi_sub, bi_lss, bi_gtr, bi_leq, bi_geq, bi_eql, bi_neq, v_un, un_not, v_ln, lnS, v_ixS, v_ld1, v_ldn, ld1_p, ldn_p, load1_same, v_fa, e_st_eq, er_some, xo_call, callC_orc, ev_t, ev_c, evs_nil, evs_cons, Tr.setP_h, Tr.setP_l, Tr.setP_r, getT_h, getT_n, getT_l, getT_r, Nat.reduceBEq, Nat.reduceEqDiff, Int.reduceEq, Int.reduceLT, Int.reduceLE, cond_true, cond_false, List.getElem?_cons_zero, List.getElem?_cons_succ, Option.getD_some, endQ_nrm, endQ_ret, endO, resV_nil', resV_t, consO_some, oneV_one, oneV_two, Bool.not_true, Bool.not_false, Bool.false_eq_true, Bool.true_eq_false, decide_true, decide_false, if_true, if_false, ite_true, ite_false, reduceIte, reduceCtorEq, pureO_of, ofO_some, flatten_b, flatten_i, flatten_s, flatten_p, flatten_p0, flatten_l, flatten_u, flatten_l0, flatten_m, flatten_m0, flatten_f, flatten_f0, flatten_g, allOne_nil, allOne_cons, isOne_b, isOne_i, isOne_s, isOne_p, isOne_p0, isOne_l, isOne_u, isOne_l0, isOne_m, isOne_f, isOne_f0, Bool.and_true, Bool.true_and, evP_nil, evP_cons, fillV_nil, fillV_cons, over_nil, over_cons, List.set_cons_zero, List.set_cons_succ, List.length_cons, List.length_nil, Nat.reduceAdd, Nat.reduceLeDiff, Nat.zero_add, and_self, and_true, true_and, v_bld, replL_over, v_fl1, v_fln, v_ex, v_ci, andO_some, eqAt_some, eqAll_nil, eqAll_cons, negO_F, negO_T, v_eq, eqV_agg, eqV_int, eq1_int, eq1_bool, xo_cv, callV_f, v_mkf, resV_cn, resV_c1, List.nil_append, List.append_nil, List.cons_append, load1_ne, loadN_ne, loadN_same, storeN_same, storeN_ne', mapS_some, a_al_eq, a_bx_eq, List.drop_zero, List.take_succ_cons, List.take_zero, List.take_nil, List.drop_succ_cons, Option.map_some, v_ixA1, ixA1_g, ne_add0, ne_add1, ne_add, Nat.add_assoc, x_app_eq, v_slL, v_bs, a_bsl_w, evPs_nil, evPs_cons, partsR_nil, partsR_cons, bslO_some, Option.isSome_some, Option.map_none, v_slS, lnSs, bi_seq, bi_sne, eq1_str, eqV_str, wd_gT, wd_gF, wd_gU, dq_ldn0, ldnQ_p, ldnR_some, dq_pk, dq_lnL, dq_lnS, dq_ixS, dq_un, dq_eq, shOk_agg, shOks_nil, shOks_cons, shOk1_int, shOk1_bool, shOk1_str, eqV_bool, shOk_int, shOk_bool, shOk_str, dq_fa, putDP, a_mks_w, wp_condTc, wp_condFc, roundQ_nrm, roundQ_ret, roundQ_ext, decide_eq_true_eq, or_self, or_true, or_false, true_or, false_or, and_false, false_and, e26, w26_1, w26_2, w26_3, w26_4, w26_5, w26_6, w26_7, w26_8, w26_9, w26_10, w26_11, w26_12, w26_13, w26_14, w26_15, w26_16, w26_17, w26_18, w26_19, w26_20, w26_21, w26_22, w26_23, w26_24, w26_25, w26_26, w26_27, w26_28, w26_29, w26_30, w26_31, w26_32, w26_33, w26_34, w26_35, w26_36, w26_37, w26_38, w26_39, w26_40, w26_41, w26_42, w26_43, w26_44, w26_45, w26_46, w26_47, w26_48, w26_49, w26_50, w26_51, w26_52, w26_53, w26_54, w26_55, w26_56, h])
  all_goals (simp only [decide_eq_true_eq, decide_eq_false_iff_not] at *; congr 1; unfold formI; repeat' split)
  all_goals first | rfl | omega
theorem names53_bd : bds (fun _ => False) names53 := by unfold names53; simp [bds, bd]
theorem nameV_bd (op : Int) : bd (fun _ => False) (nameV op) := by
  unfold nameV
  split
  · cases hn : names53[op.toNat]? with
    | none => trivial
    | some x => exact (bds_iff _ _).1 names53_bd x (List.mem_of_getElem? hn)
  · trivial
section
variable {P : Program} (hm : P.follows .mixedOrders = true) {Φ : Nat → Option CF} (hΦ : PhiOk P Φ)
include hm hΦ
theorem o25 (h : Φ 25 = some c25) : OrcOk P 25 (pureO h25) := pure_of hm hΦ (by
  intro args v ct hv hct; unfold h25 at hv; split at hv
  · obtain rfl := Option.some.inj hv; exact ⟨trivial, t25 Φ h _ _⟩
  · cases hv)
theorem o26 (h : Φ 26 = some c26) : OrcOk P 26 (pureO h25) := pure_of hm hΦ (by
  intro args v ct hv hct; unfold h25 at hv; split at hv
  · obtain rfl := Option.some.inj hv; exact ⟨trivial, t26 Φ h _ _⟩
  · cases hv)
theorem o40 (h : Φ 40 = some c40) : OrcOk P 40 (pureO h40) := pure_of hm hΦ (by
  intro args v ct hv hct; unfold h40 at hv; split at hv
  · obtain rfl := Option.some.inj hv; exact ⟨⟨trivial, trivial, trivial, trivial, trivial⟩, t40 Φ h _ _⟩
  · cases hv)
theorem o38 (h : Φ 38 = some c38) : OrcOk P 38 (pureO h38) := pure_of hm hΦ (by
  intro args v ct hv hct; unfold h38 at hv; split at hv
  · obtain rfl := Option.some.inj hv; exact ⟨⟨trivial, trivial, trivial, trivial, trivial⟩, t38 Φ h _ _⟩
  · cases hv)
theorem o57 (h : Φ 57 = some c57) : OrcOk P 57 (pureO h57) := pure_of hm hΦ (by
  intro args v ct hv hct; unfold h57 at hv; split at hv
  · obtain rfl := Option.some.inj hv; exact ⟨trivial, t57 Φ h _ _⟩
  · cases hv)
theorem o54 (h : Φ 54 = some c54) : OrcOk P 54 (pureO h54) := pure_of hm hΦ (by
  intro args v ct hv hct; unfold h54 at hv; split at hv
  · obtain rfl := Option.some.inj hv; exact ⟨trivial, t54 Φ h _ _⟩
  · cases hv)
theorem o39 (h : Φ 39 = some c39) : OrcOk P 39 (pureO h39) := pure_of hm hΦ (by
  intro args v ct hv hct; unfold h39 at hv; split at hv
  · obtain rfl := Option.some.inj hv; exact ⟨trivial, t39 Φ h _ _ _⟩
  · cases hv)
theorem o53 (h : Φ 53 = some c53) : OrcOk P 53 (pureO h53) := pure_of hm hΦ (by
  intro args v ct hv hct; unfold h53 at hv; split at hv
  · obtain rfl := Option.some.inj hv; exact ⟨names53_bd, t53 Φ h _⟩
  · cases hv)
theorem o24 (h : Φ 24 = some c24) (h53 : Φ 53 = some (.orc (pureO h53))) : OrcOk P 24 (pureO h24) := pure_of hm hΦ (by
  intro args v ct hv hct; unfold h24 at hv; split at hv
  · obtain rfl := Option.some.inj hv; exact ⟨nameV_bd _, t24 Φ h h53 _ _⟩
  · cases hv)
theorem o12 (h : Φ 12 = some c12) (h26 : Φ 26 = some (.orc (pureO h25))) (h38 : Φ 38 = some (.orc (pureO h38))) (h39 : Φ 39 = some (.orc (pureO h39))) : OrcOk P 12 (pureO h12) := pure_of hm hΦ (by
  intro args v ct hv hct; unfold h12 at hv; split at hv
  · obtain rfl := Option.some.inj hv; exact ⟨trivial, t12 Φ h h26 h38 h39 _ _ _ _ _ _⟩
  · cases hv)
theorem o37 (h : Φ 37 = some c37) (h25 : Φ 25 = some (.orc (pureO h25))) (h40 : Φ 40 = some (.orc (pureO h40))) (h54 : Φ 54 = some (.orc (pureO h54))) (h57 : Φ 57 = some (.orc (pureO h57))) (h24 : Φ 24 = some (.orc (pureO h24))) : OrcOk P 37 (pureO h37) := pure_of hm hΦ (by
  intro args v ct hv hct; unfold h37 at hv; split at hv
  · obtain rfl := Option.some.inj hv; exact ⟨trivial, t37 Φ h h25 h40 h54 h57 h24 _ _ _ _ _ _⟩
  · cases hv)
end
end Go.Proofs.YtffpeieapadocaaGreatDoor.Ev
namespace Go.Proofs.YtffpeieapadocaaGreatDoor.Ev
open Go
structure Ins where
  op : Int
  d : Int
  a : Int
  b : Int
  i : Int
def insV (x : Ins) : List V := [.i .i64 x.op, .i .i64 x.d, .i .i64 x.a, .i .i64 x.b, .i .i64 x.i]
def insTy : Ty := .cons (.int .i64) (.cons (.int .i64) (.cons (.int .i64) (.cons (.int .i64) (.cons (.int .i64) .nil))))
theorem i64_of {F : RO} {M : Mem} {c : Nat} {vs : List V} {x : (Ty.int .i64).D} (h : Rp F M c (.int .i64) vs x) : ∃ z : Int, vs = [.i .i64 z] ∧ -9223372036854775808 ≤ z ∧ z ≤ 9223372036854775807 := by
  have key : ∀ z : Int, vs = [.i .i64 z] ∧ IntKind.i64.min ≤ z ∧ z ≤ IntKind.i64.max → ∃ z : Int, vs = [.i .i64 z] ∧ -9223372036854775808 ≤ z ∧ z ≤ 9223372036854775807 := fun z h => ⟨z, h⟩
  exact key x h
theorem ins_of {F : RO} {M : Mem} {c : Nat} {vs : List V} {x : insTy.D} (h : Rp F M c insTy vs x) : ∃ y : Ins, vs = insV y := by
  obtain ⟨a1, r1, rfl, h1, a2, r2, rfl, h2, a3, r3, rfl, h3, a4, r4, rfl, h4, a5, r5, rfl, h5, rfl⟩ := h
  obtain ⟨z1, rfl, _⟩ := i64_of h1
  obtain ⟨z2, rfl, _⟩ := i64_of h2
  obtain ⟨z3, rfl, _⟩ := i64_of h3
  obtain ⟨z4, rfl, _⟩ := i64_of h4
  obtain ⟨z5, rfl, _⟩ := i64_of h5
  exact ⟨⟨z1, z2, z3, z4, z5⟩, rfl⟩
theorem setParams_two (p q : Pos) (x y : V) (t : T) : setParams [p, q] [x, y] t = some ((t.setP p x).setP q y) := by
  show (t.setP p x).force (fun t => (t.setP q y).force fun t => some t) = _
  rw [Tr.force_eq, Tr.force_eq]
end Go.Proofs.YtffpeieapadocaaGreatDoor.Ev
set_option maxRecDepth 10000
set_option maxHeartbeats 16000000
namespace Go.Proofs.YtffpeieapadocaaGreatDoor.Ev
open Go
noncomputable def b20_1 : CC := (.reg [⟨(some (.l .h)), .a (.bx 26 5 (.t .h)), none⟩, ⟨(some (.r .h)), .q (.mv (.c (.i .i64 0))), none⟩, ⟨(some (.l (.l .h))), .q (.mv (.c (.b false))), none⟩])
def w20_1 := @wp_unf _ _ b20_1.eq_1
noncomputable def b20_2 : CC := (.reg [⟨(some (.l (.r .h))), .q (.ldn 5 (.t (.l .h))), none⟩, ⟨(some (.r (.r .h))), .e (.call 37 [(.t (.l (.r .h)))]), none⟩, ⟨(some (.l (.l (.l .h)))), .q (.un .not (.t (.r (.r .h)))), none⟩, ⟨(some (.r (.l (.l .h)))), .q (.mv (.t (.l (.l (.l .h))))), none⟩, ⟨(some (.l (.r (.l .h)))), .q (.fa 0 (.t (.l .h))), (some ((.r (.l (.l .h))), false))⟩, ⟨(some (.r (.r (.l .h)))), .q (.ld1 (.t (.l (.r (.l .h))))), (some ((.r (.l (.l .h))), false))⟩, ⟨(some (.l (.l (.r .h)))), .e (.call 25 [(.t (.r (.r (.l .h))))]), (some ((.r (.l (.l .h))), false))⟩, ⟨(some (.r (.l (.r .h)))), .e (.call 40 [(.t (.l (.l (.r .h))))]), (some ((.r (.l (.l .h))), false))⟩, ⟨(some (.l (.r (.r .h)))), .q (.fl1 0 (.t (.r (.l (.r .h))))), (some ((.r (.l (.l .h))), false))⟩, ⟨(some (.r (.r (.r .h)))), .q (.un .not (.t (.l (.r (.r .h))))), (some ((.r (.l (.l .h))), false))⟩, ⟨(some (.l (.l (.l (.l .h))))), .q (.pk (.t (.r (.l (.l .h)))) (.c (.b true)) (.t (.r (.r (.r .h))))), none⟩, ⟨(some (.r (.l .h))), .q (.mv (.t (.l (.l (.l (.l .h)))))), none⟩])
def w20_2 := @wp_unf _ _ b20_2.eq_1
noncomputable def b20_3 : CC := (.reg [⟨(some (.r .h)), .q (.mv (.c (.i .i64 0))), none⟩, ⟨(some (.l (.l .h))), .q (.mv (.c (.b false))), none⟩])
def w20_3 := @wp_unf _ _ b20_3.eq_1
noncomputable def b20_4 : CC := (.reg [⟨(some (.l (.r (.l (.l .h))))), .q (.fa 0 (.t (.l .h))), none⟩, ⟨(some (.r (.r (.l (.l .h))))), .q (.ld1 (.t (.l (.r (.l (.l .h)))))), none⟩, ⟨(some (.l (.l (.r (.l .h))))), .e (.call 25 [(.t (.r (.r (.l (.l .h)))))]), none⟩, ⟨(some (.r (.l (.r (.l .h))))), .q (.bi .neq (.t (.l (.l (.r (.l .h))))) (.c (.i .i64 6))), none⟩, ⟨(some (.r (.l (.l (.l .h))))), .q (.mv (.t (.r (.l (.r (.l .h)))))), none⟩])
def w20_4 := @wp_unf _ _ b20_4.eq_1
noncomputable def b20_5 : CC := (.reg [⟨(some (.l (.r (.r (.l .h))))), .q (.fa 1 (.t (.l .h))), none⟩, ⟨(some (.r (.r (.r (.l .h))))), .q (.ld1 (.t (.l (.r (.r (.l .h)))))), none⟩, ⟨(some (.r .h)), .q (.mv (.t (.r (.r (.r (.l .h)))))), none⟩, ⟨(some (.l (.l .h))), .q (.mv (.c (.b true))), none⟩])
def w20_5 := @wp_unf _ _ b20_5.eq_1
noncomputable def b20_6 : CC := (.reg [⟨(some (.r (.l (.l (.r .h))))), .q (.fa 0 (.t (.l .h))), none⟩, ⟨(some (.l (.r (.l (.r .h))))), .q (.ld1 (.t (.r (.l (.l (.r .h)))))), none⟩, ⟨(some (.r (.r (.l (.r .h))))), .q (.bi .eql (.t (.l (.r (.l (.r .h))))) (.c (.i .i64 18))), none⟩, ⟨(some (.l (.l (.l (.r .h))))), .q (.mv (.t (.r (.r (.l (.r .h)))))), none⟩])
def w20_6 := @wp_unf _ _ b20_6.eq_1
noncomputable def b20_7 : CC := (.reg [⟨(some (.l (.l (.r (.r .h))))), .q (.fa 0 (.t (.l .h))), none⟩, ⟨(some (.r (.l (.r (.r .h))))), .q (.ld1 (.t (.l (.l (.r (.r .h)))))), none⟩, ⟨(some (.l (.r (.r (.r .h))))), .q (.bi .eql (.t (.r (.l (.r (.r .h))))) (.c (.i .i64 19))), none⟩, ⟨(some (.l (.l (.l (.r .h))))), .q (.mv (.t (.l (.r (.r (.r .h)))))), none⟩])
def w20_7 := @wp_unf _ _ b20_7.eq_1
noncomputable def b20_8 : CC := (.reg [⟨(some (.r (.r (.r (.r .h))))), .q (.fa 0 (.t (.l .h))), none⟩, ⟨(some (.l (.l (.l (.l (.l .h)))))), .q (.ld1 (.t (.r (.r (.r (.r .h)))))), none⟩, ⟨(some (.r (.l (.l (.l (.l .h)))))), .q (.bi .eql (.t (.l (.l (.l (.l (.l .h)))))) (.c (.i .i64 21))), none⟩, ⟨(some (.l (.l (.l (.r .h))))), .q (.mv (.t (.r (.l (.l (.l (.l .h))))))), none⟩])
def w20_8 := @wp_unf _ _ b20_8.eq_1
noncomputable def b20_9 : CC := (.seq b20_7 (.cond (.t (.l (.l (.l (.r .h))))) .skip b20_8))
def w20_9 := @wp_unf _ _ b20_9.eq_1
noncomputable def b20_10 : CC := (.seq b20_6 (.cond (.t (.l (.l (.l (.r .h))))) .skip b20_9))
def w20_10 := @wp_unf _ _ b20_10.eq_1
noncomputable def b20_11 : CC := (.reg [⟨(some (.l (.r (.l (.l (.l .h)))))), .q (.fa 1 (.t (.l .h))), none⟩, ⟨(some (.r (.r (.l (.l (.l .h)))))), .q (.ld1 (.t (.l (.r (.l (.l (.l .h))))))), none⟩, ⟨(some (.r .h)), .q (.mv (.t (.r (.r (.l (.l (.l .h))))))), none⟩, ⟨(some (.l (.l .h))), .q (.mv (.c (.b true))), none⟩])
def w20_11 := @wp_unf _ _ b20_11.eq_1
noncomputable def b20_12 : CC := (.cond (.t (.l (.l (.l (.r .h))))) (.seq b20_11 .ret) .skip)
def w20_12 := @wp_unf _ _ b20_12.eq_1
noncomputable def b20_13 : CC := (.cond (.t (.r (.l (.l (.l .h))))) (.seq b20_5 .ret) (.seq b20_10 b20_12))
def w20_13 := @wp_unf _ _ b20_13.eq_1
noncomputable def b20_14 : CC := (.cond (.t (.r (.l .h))) (.seq b20_3 .ret) (.seq b20_4 b20_13))
def w20_14 := @wp_unf _ _ b20_14.eq_1
noncomputable def b20_15 : CC := (.reg [⟨(some (.r .h)), .q (.mv (.c (.i .i64 0))), none⟩, ⟨(some (.l (.l .h))), .q (.mv (.c (.b false))), none⟩])
def w20_15 := @wp_unf _ _ b20_15.eq_1
noncomputable def b20_16 : CC := (.seq b20_1 (.seq (.block 0 (.seq b20_2 b20_14)) (.seq b20_15 .ret)))
def w20_16 := @wp_unf _ _ b20_16.eq_1
noncomputable def c20 : CF := .mk 6 [.t (.r .h), .t (.l (.l .h))] b20_16
theorem e20 (v0 : V) : argTr 6 [v0] = (.n (.n (.n (.n (.n (.n .e none .e) none (.n .e none .e)) none (.n (.n .e none .e) none (.n .e none .e))) none (.n (.n (.n .e none .e) none (.n .e none .e)) none (.n (.n .e none .e) none (.n .e none .e)))) none (.n (.n (.n (.n .e none .e) none (.n .e none .e)) none (.n (.n .e none .e) none (.n .e none .e))) none (.n (.n (.n .e none .e) none (.n .e none .e)) none (.n (.n .e none .e) none (.n .e none .e))))) (some v0) (.n (.n (.n (.n (.n .e none .e) none (.n .e none .e)) none (.n (.n .e none .e) none (.n .e none .e))) none (.n (.n (.n .e none .e) none (.n .e none .e)) none (.n (.n .e none .e) none (.n .e none .e)))) none (.n (.n (.n (.n .e none .e) none (.n .e none .e)) none (.n (.n .e none .e) none (.n .e none .e))) none (.n (.n (.n .e none .e) none (.n .e none .e)) none (.n (.n .e none .e) none (.n .e none .e)))))) := rfl
noncomputable def b21_1 : CC := (.reg [⟨(some (.r .h)), .a (.bx 26 5 (.t .h)), none⟩, ⟨(some (.r (.l .h))), .q (.mv (.c (.i .u32 0))), none⟩, ⟨(some (.l (.r .h))), .q (.mv (.c (.b false))), none⟩])
def w21_1 := @wp_unf _ _ b21_1.eq_1
noncomputable def b21_2 : CC := (.reg [⟨(some (.r (.r .h))), .q (.fa 0 (.t (.r .h))), none⟩, ⟨(some (.l (.l (.l .h)))), .q (.ld1 (.t (.r (.r .h)))), none⟩])
def w21_2 := @wp_unf _ _ b21_2.eq_1
noncomputable def b21_3 : CC := (.reg [⟨(some (.l (.r (.l .h)))), .q (.bi .eql (.t (.l (.l (.l .h)))) (.c (.i .i64 23))), none⟩, ⟨(some (.r (.l (.l .h)))), .q (.mv (.t (.l (.r (.l .h))))), none⟩])
def w21_3 := @wp_unf _ _ b21_3.eq_1
noncomputable def b21_4 : CC := (.reg [⟨(some (.r (.r (.l .h)))), .q (.bi .eql (.t (.l (.l (.l .h)))) (.c (.i .i64 25))), none⟩, ⟨(some (.r (.l (.l .h)))), .q (.mv (.t (.r (.r (.l .h))))), none⟩])
def w21_4 := @wp_unf _ _ b21_4.eq_1
noncomputable def b21_5 : CC := (.reg [⟨(some (.l (.l (.r .h)))), .q (.bi .eql (.t (.l (.l (.l .h)))) (.c (.i .i64 26))), none⟩, ⟨(some (.r (.l (.l .h)))), .q (.mv (.t (.l (.l (.r .h))))), none⟩])
def w21_5 := @wp_unf _ _ b21_5.eq_1
noncomputable def b21_6 : CC := (.reg [⟨(some (.r (.l (.r .h)))), .q (.bi .eql (.t (.l (.l (.l .h)))) (.c (.i .i64 27))), none⟩, ⟨(some (.r (.l (.l .h)))), .q (.mv (.t (.r (.l (.r .h))))), none⟩])
def w21_6 := @wp_unf _ _ b21_6.eq_1
noncomputable def b21_7 : CC := (.reg [⟨(some (.l (.r (.r .h)))), .q (.bi .eql (.t (.l (.l (.l .h)))) (.c (.i .i64 28))), none⟩, ⟨(some (.r (.l (.l .h)))), .q (.mv (.t (.l (.r (.r .h))))), none⟩])
def w21_7 := @wp_unf _ _ b21_7.eq_1
noncomputable def b21_8 : CC := (.cond (.t (.r (.l (.l .h)))) .skip (.seq b21_6 (.cond (.t (.r (.l (.l .h)))) .skip b21_7)))
def w21_8 := @wp_unf _ _ b21_8.eq_1
noncomputable def b21_9 : CC := (.seq b21_4 (.cond (.t (.r (.l (.l .h)))) .skip (.seq b21_5 b21_8)))
def w21_9 := @wp_unf _ _ b21_9.eq_1
noncomputable def b21_10 : CC := (.reg [⟨(some (.r (.r (.r .h)))), .q (.ldn 5 (.t (.r .h))), none⟩, ⟨(some (.l (.l (.l (.l .h))))), .e (.call 37 [(.t (.r (.r (.r .h))))]), none⟩])
def w21_10 := @wp_unf _ _ b21_10.eq_1
noncomputable def b21_11 : CC := (.reg [⟨(some (.r (.l (.l (.l .h))))), .q (.mv (.t (.l .h))), none⟩, ⟨(some (.l (.r (.l (.l .h))))), .q (.fa 4 (.t (.r .h))), none⟩, ⟨(some (.r (.r (.l (.l .h))))), .q (.ld1 (.t (.l (.r (.l (.l .h)))))), none⟩, ⟨(some (.l (.l (.r (.l .h))))), .q (.ci .u32 (.t (.r (.r (.l (.l .h)))))), none⟩, ⟨(some (.r (.l (.r (.l .h))))), .q (.bi .shl (.t (.l (.l (.r (.l .h))))) (.c (.i .u64 2))), none⟩, ⟨(some (.l (.r (.r (.l .h))))), .q (.bi .add (.t (.r (.l (.l (.l .h))))) (.t (.r (.l (.r (.l .h)))))), none⟩, ⟨(some (.r (.l .h))), .q (.mv (.t (.l (.r (.r (.l .h)))))), none⟩, ⟨(some (.l (.r .h))), .q (.mv (.c (.b true))), none⟩])
def w21_11 := @wp_unf _ _ b21_11.eq_1
noncomputable def b21_12 : CC := (.cond (.t (.l (.l (.l (.l .h))))) (.seq b21_11 .ret) .skip)
def w21_12 := @wp_unf _ _ b21_12.eq_1
noncomputable def b21_13 : CC := (.seq (.seq b21_3 (.cond (.t (.r (.l (.l .h)))) .skip b21_9)) (.cond (.t (.r (.l (.l .h)))) (.seq b21_10 b21_12) .skip))
def w21_13 := @wp_unf _ _ b21_13.eq_1
noncomputable def b21_14 : CC := (.reg [⟨(some (.r (.l .h))), .q (.mv (.c (.i .u32 0))), none⟩, ⟨(some (.l (.r .h))), .q (.mv (.c (.b false))), none⟩])
def w21_14 := @wp_unf _ _ b21_14.eq_1
noncomputable def b21_15 : CC := (.seq b21_1 (.seq (.seq b21_2 (.block 0 b21_13)) (.seq b21_14 .ret)))
def w21_15 := @wp_unf _ _ b21_15.eq_1
noncomputable def c21 : CF := .mk 5 [.t (.r (.l .h)), .t (.l (.r .h))] b21_15
theorem e21 (v0 v1 : V) : argTr 5 [v0, v1] = (.n (.n (.n (.n (.n .e none .e) none (.n .e none .e)) none (.n (.n .e none .e) none (.n .e none .e))) (some v1) (.n (.n (.n .e none .e) none (.n .e none .e)) none (.n (.n .e none .e) none (.n .e none .e)))) (some v0) (.n (.n (.n (.n .e none .e) none (.n .e none .e)) none (.n (.n .e none .e) none (.n .e none .e))) none (.n (.n (.n .e none .e) none (.n .e none .e)) none (.n (.n .e none .e) none (.n .e none .e))))) := rfl
noncomputable def b27_1 : CC := (.reg [⟨(some (.l .h)), .a (.bx 26 5 (.t .h)), none⟩, ⟨(some (.r .h)), .q (.mv (.c (.i .i64 0))), none⟩, ⟨(some (.l (.l .h))), .q (.mv (.c (.b false))), none⟩])
def w27_1 := @wp_unf _ _ b27_1.eq_1
noncomputable def b27_2 : CC := (.reg [⟨(some (.r (.l .h))), .q (.fa 0 (.t (.l .h))), none⟩, ⟨(some (.l (.r .h))), .q (.ld1 (.t (.r (.l .h)))), none⟩, ⟨(some (.r (.r .h))), .e (.call 26 [(.t (.l (.r .h)))]), none⟩])
def w27_2 := @wp_unf _ _ b27_2.eq_1
noncomputable def b27_3 : CC := (.reg [⟨(some (.r (.l (.l .h)))), .q (.bi .eql (.t (.r (.r .h))) (.c (.i .i64 3))), none⟩, ⟨(some (.l (.l (.l .h)))), .q (.mv (.t (.r (.l (.l .h))))), none⟩])
def w27_3 := @wp_unf _ _ b27_3.eq_1
noncomputable def b27_4 : CC := (.reg [⟨(some (.l (.r (.l .h)))), .q (.bi .eql (.t (.r (.r .h))) (.c (.i .i64 4))), none⟩, ⟨(some (.l (.l (.l .h)))), .q (.mv (.t (.l (.r (.l .h))))), none⟩])
def w27_4 := @wp_unf _ _ b27_4.eq_1
noncomputable def b27_5 : CC := (.reg [⟨(some (.r (.r (.l .h)))), .q (.bi .eql (.t (.r (.r .h))) (.c (.i .i64 5))), none⟩, ⟨(some (.l (.l (.l .h)))), .q (.mv (.t (.r (.r (.l .h))))), none⟩])
def w27_5 := @wp_unf _ _ b27_5.eq_1
noncomputable def b27_6 : CC := (.cond (.t (.l (.l (.l .h)))) .skip (.seq b27_4 (.cond (.t (.l (.l (.l .h)))) .skip b27_5)))
def w27_6 := @wp_unf _ _ b27_6.eq_1
noncomputable def b27_7 : CC := (.reg [⟨(some (.l (.l (.r .h)))), .q (.fa 1 (.t (.l .h))), none⟩, ⟨(some (.r (.l (.r .h)))), .q (.ld1 (.t (.l (.l (.r .h))))), none⟩, ⟨(some (.r .h)), .q (.mv (.t (.r (.l (.r .h))))), none⟩, ⟨(some (.l (.l .h))), .q (.mv (.c (.b true))), none⟩])
def w27_7 := @wp_unf _ _ b27_7.eq_1
noncomputable def b27_8 : CC := (.seq (.seq b27_3 b27_6) (.cond (.t (.l (.l (.l .h)))) (.seq b27_7 .ret) .skip))
def w27_8 := @wp_unf _ _ b27_8.eq_1
noncomputable def b27_9 : CC := (.reg [⟨(some (.l (.r (.r .h)))), .q (.fa 0 (.t (.l .h))), none⟩, ⟨(some (.r (.r (.r .h)))), .q (.ld1 (.t (.l (.r (.r .h))))), none⟩, ⟨(some (.l (.l (.l (.l .h))))), .q (.bi .eql (.t (.r (.r (.r .h)))) (.c (.i .i64 18))), none⟩, ⟨(some (.r (.l (.l (.l .h))))), .q (.mv (.t (.l (.l (.l (.l .h)))))), none⟩, ⟨(some (.l (.r (.l (.l .h))))), .q (.fa 0 (.t (.l .h))), (some ((.r (.l (.l (.l .h)))), false))⟩, ⟨(some (.r (.r (.l (.l .h))))), .q (.ld1 (.t (.l (.r (.l (.l .h)))))), (some ((.r (.l (.l (.l .h)))), false))⟩, ⟨(some (.l (.l (.r (.l .h))))), .q (.bi .eql (.t (.r (.r (.l (.l .h))))) (.c (.i .i64 19))), (some ((.r (.l (.l (.l .h)))), false))⟩, ⟨(some (.r (.l (.r (.l .h))))), .q (.pk (.t (.r (.l (.l (.l .h))))) (.c (.b true)) (.t (.l (.l (.r (.l .h)))))), none⟩, ⟨(some (.l (.r (.r (.l .h))))), .q (.mv (.t (.r (.l (.r (.l .h)))))), none⟩, ⟨(some (.r (.r (.r (.l .h))))), .q (.fa 0 (.t (.l .h))), (some ((.l (.r (.r (.l .h)))), false))⟩, ⟨(some (.l (.l (.l (.r .h))))), .q (.ld1 (.t (.r (.r (.r (.l .h)))))), (some ((.l (.r (.r (.l .h)))), false))⟩, ⟨(some (.r (.l (.l (.r .h))))), .q (.bi .eql (.t (.l (.l (.l (.r .h))))) (.c (.i .i64 21))), (some ((.l (.r (.r (.l .h)))), false))⟩, ⟨(some (.l (.r (.l (.r .h))))), .q (.pk (.t (.l (.r (.r (.l .h))))) (.c (.b true)) (.t (.r (.l (.l (.r .h)))))), none⟩])
def w27_9 := @wp_unf _ _ b27_9.eq_1
noncomputable def b27_10 : CC := (.reg [⟨(some (.r (.r (.l (.r .h))))), .q (.fa 1 (.t (.l .h))), none⟩, ⟨(some (.l (.l (.r (.r .h))))), .q (.ld1 (.t (.r (.r (.l (.r .h)))))), none⟩, ⟨(some (.r .h)), .q (.mv (.t (.l (.l (.r (.r .h)))))), none⟩, ⟨(some (.l (.l .h))), .q (.mv (.c (.b true))), none⟩])
def w27_10 := @wp_unf _ _ b27_10.eq_1
noncomputable def b27_11 : CC := (.cond (.t (.l (.r (.l (.r .h))))) (.seq b27_10 .ret) .skip)
def w27_11 := @wp_unf _ _ b27_11.eq_1
noncomputable def b27_12 : CC := (.reg [⟨(some (.r .h)), .q (.mv (.c (.i .i64 0))), none⟩, ⟨(some (.l (.l .h))), .q (.mv (.c (.b false))), none⟩])
def w27_12 := @wp_unf _ _ b27_12.eq_1
noncomputable def b27_13 : CC := (.seq (.seq b27_2 (.block 0 b27_8)) (.seq (.seq b27_9 b27_11) (.seq b27_12 .ret)))
def w27_13 := @wp_unf _ _ b27_13.eq_1
noncomputable def c27 : CF := .mk 5 [.t (.r .h), .t (.l (.l .h))] (.seq b27_1 b27_13)
theorem e27 (v0 : V) : argTr 5 [v0] = (.n (.n (.n (.n (.n .e none .e) none (.n .e none .e)) none (.n (.n .e none .e) none (.n .e none .e))) none (.n (.n (.n .e none .e) none (.n .e none .e)) none (.n (.n .e none .e) none (.n .e none .e)))) (some v0) (.n (.n (.n (.n .e none .e) none (.n .e none .e)) none (.n (.n .e none .e) none (.n .e none .e))) none (.n (.n (.n .e none .e) none (.n .e none .e)) none (.n (.n .e none .e) none (.n .e none .e))))) := rfl
noncomputable def b28_1 : CC := (.reg [⟨(some (.r .h)), .a (.bx 26 5 (.t .h)), none⟩, ⟨(some (.r (.l .h))), .q (.mv (.c (.i .u32 0))), none⟩, ⟨(some (.l (.r .h))), .q (.mv (.c (.b false))), none⟩])
def w28_1 := @wp_unf _ _ b28_1.eq_1
noncomputable def b28_2 : CC := (.reg [⟨(some (.r (.r .h))), .q (.fa 0 (.t (.r .h))), none⟩, ⟨(some (.l (.l (.l .h)))), .q (.ld1 (.t (.r (.r .h)))), none⟩])
def w28_2 := @wp_unf _ _ b28_2.eq_1
noncomputable def b28_3 : CC := (.reg [⟨(some (.l (.r (.l .h)))), .q (.bi .eql (.t (.l (.l (.l .h)))) (.c (.i .i64 23))), none⟩, ⟨(some (.r (.l (.l .h)))), .q (.mv (.t (.l (.r (.l .h))))), none⟩])
def w28_3 := @wp_unf _ _ b28_3.eq_1
noncomputable def b28_4 : CC := (.reg [⟨(some (.r (.r (.l .h)))), .q (.bi .eql (.t (.l (.l (.l .h)))) (.c (.i .i64 25))), none⟩, ⟨(some (.r (.l (.l .h)))), .q (.mv (.t (.r (.r (.l .h))))), none⟩])
def w28_4 := @wp_unf _ _ b28_4.eq_1
noncomputable def b28_5 : CC := (.reg [⟨(some (.l (.l (.r .h)))), .q (.bi .eql (.t (.l (.l (.l .h)))) (.c (.i .i64 26))), none⟩, ⟨(some (.r (.l (.l .h)))), .q (.mv (.t (.l (.l (.r .h))))), none⟩])
def w28_5 := @wp_unf _ _ b28_5.eq_1
noncomputable def b28_6 : CC := (.reg [⟨(some (.r (.l (.r .h)))), .q (.bi .eql (.t (.l (.l (.l .h)))) (.c (.i .i64 27))), none⟩, ⟨(some (.r (.l (.l .h)))), .q (.mv (.t (.r (.l (.r .h))))), none⟩])
def w28_6 := @wp_unf _ _ b28_6.eq_1
noncomputable def b28_7 : CC := (.reg [⟨(some (.l (.r (.r .h)))), .q (.bi .eql (.t (.l (.l (.l .h)))) (.c (.i .i64 28))), none⟩, ⟨(some (.r (.l (.l .h)))), .q (.mv (.t (.l (.r (.r .h))))), none⟩])
def w28_7 := @wp_unf _ _ b28_7.eq_1
noncomputable def b28_8 : CC := (.cond (.t (.r (.l (.l .h)))) .skip (.seq b28_6 (.cond (.t (.r (.l (.l .h)))) .skip b28_7)))
def w28_8 := @wp_unf _ _ b28_8.eq_1
noncomputable def b28_9 : CC := (.seq b28_4 (.cond (.t (.r (.l (.l .h)))) .skip (.seq b28_5 b28_8)))
def w28_9 := @wp_unf _ _ b28_9.eq_1
noncomputable def b28_10 : CC := (.reg [⟨(some (.r (.r (.r .h)))), .q (.mv (.t (.l .h))), none⟩, ⟨(some (.l (.l (.l (.l .h))))), .q (.fa 4 (.t (.r .h))), none⟩, ⟨(some (.r (.l (.l (.l .h))))), .q (.ld1 (.t (.l (.l (.l (.l .h)))))), none⟩, ⟨(some (.l (.r (.l (.l .h))))), .q (.bi .mul (.c (.i .i64 4)) (.t (.r (.l (.l (.l .h)))))), none⟩, ⟨(some (.r (.r (.l (.l .h))))), .q (.ci .u32 (.t (.l (.r (.l (.l .h)))))), none⟩, ⟨(some (.l (.l (.r (.l .h))))), .q (.bi .add (.t (.r (.r (.r .h)))) (.t (.r (.r (.l (.l .h)))))), none⟩, ⟨(some (.r (.l .h))), .q (.mv (.t (.l (.l (.r (.l .h)))))), none⟩, ⟨(some (.l (.r .h))), .q (.mv (.c (.b true))), none⟩])
def w28_10 := @wp_unf _ _ b28_10.eq_1
noncomputable def b28_11 : CC := (.seq (.seq b28_3 (.cond (.t (.r (.l (.l .h)))) .skip b28_9)) (.cond (.t (.r (.l (.l .h)))) (.seq b28_10 .ret) .skip))
def w28_11 := @wp_unf _ _ b28_11.eq_1
noncomputable def b28_12 : CC := (.reg [⟨(some (.r (.l .h))), .q (.mv (.c (.i .u32 0))), none⟩, ⟨(some (.l (.r .h))), .q (.mv (.c (.b false))), none⟩])
def w28_12 := @wp_unf _ _ b28_12.eq_1
noncomputable def b28_13 : CC := (.seq b28_1 (.seq (.seq b28_2 (.block 0 b28_11)) (.seq b28_12 .ret)))
def w28_13 := @wp_unf _ _ b28_13.eq_1
noncomputable def c28 : CF := .mk 5 [.t (.r (.l .h)), .t (.l (.r .h))] b28_13
theorem e28 (v0 v1 : V) : argTr 5 [v0, v1] = (.n (.n (.n (.n (.n .e none .e) none (.n .e none .e)) none (.n (.n .e none .e) none (.n .e none .e))) (some v1) (.n (.n (.n .e none .e) none (.n .e none .e)) none (.n (.n .e none .e) none (.n .e none .e)))) (some v0) (.n (.n (.n (.n .e none .e) none (.n .e none .e)) none (.n (.n .e none .e) none (.n .e none .e))) none (.n (.n (.n .e none .e) none (.n .e none .e)) none (.n (.n .e none .e) none (.n .e none .e))))) := rfl
def wrB (op : Int) : Bool := decide (formI op = 3 ∨ formI op = 4 ∨ formI op = 5 ∨ op = 18 ∨ op = 19 ∨ op = 21)
def ledB (op : Int) : Bool := decide (op = 23 ∨ op = 25 ∨ op = 26 ∨ op = 27 ∨ op = 28)
theorem formI_6 {op : Int} (h : op = 18 ∨ op = 19 ∨ op = 21) : formI op = 6 := by rcases h with rfl | rfl | rfl <;> rfl
theorem t27 (Φ : Nat → Option CF) (h : Φ 27 = some c27) (h26 : Φ 26 = some (.orc (pureO h25))) (op d a b i : Int) (ct : Nat) :
    To Φ 27 [.g [.i .i64 op, .i .i64 d, .i .i64 a, .i .i64 b, .i .i64 i]] ct (.t [.i .i64 (if wrB op = true then d else 0), .b (wrB op)]) := by
  refine to_walk h ?_
  rcases formI_cases op with hf | hf | hf | hf | hf | hf | hf
  all_goals
    simp only [wp_seq, seqQ_nrm, seqQ_ret, wp_reg, wp_ret, wp_skip, wp_block, blockQ_nrm, blockQ_ret, wo_nil, xo_q, xo_a, xo_e, wp_condT, wp_condF, putO, putA, putE, v_mv, v_bi, bi_eql, v_ld1, ld1_p, load1_same, v_fa, xo_call, callC_orc, ev_t, ev_c, evs_nil, evs_cons, Tr.setP_h, Tr.setP_l, Tr.setP_r, getT_h, getT_l, getT_r, Int.reduceEq, List.getElem?_cons_zero, List.getElem?_cons_succ, endQ_ret, endO, resV_nil', resV_t, consO_some, oneV_two, decide_true, decide_false, if_true, pureO_of, ofO_some, flatten_g, allOne_nil, allOne_cons, isOne_i, Bool.and_true, List.length_cons, List.length_nil, Nat.reduceAdd, Nat.zero_add, and_self, a_bx_eq, e27, w27_1, w27_2, w27_3, w27_4, w27_5, w27_6, w27_7, w27_8, w27_9, w27_13, h26, h25_eq, hf]
    repeat' first | (refine wp_cond (by simp only [ev_t, getT_h, getT_l, getT_r]; rfl) (fun h => ?_) (fun h => ?_) <;> simp only [wp_seq, seqQ_nrm, seqQ_ret, wp_reg, wp_ret, wp_skip, wo_nil, xo_q, putO, v_mv, v_ld1, ld1_p, load1_same, v_fa, ev_t, ev_c, Tr.setP_h, Tr.setP_l, Tr.setP_r, getT_h, getT_l, getT_r, List.getElem?_cons_zero, List.getElem?_cons_succ, endQ_ret, endO, resV_nil', resV_t, consO_some, oneV_two, Nat.zero_add, w27_10, w27_12, h]) | (refine wo_g (by simp only [getT_h, getT_l, getT_r]; rfl) (fun h => ?_) (fun h => ?_) <;> simp only [wp_seq, seqQ_nrm, seqQ_ret, wp_reg, wp_ret, wo_nil, xo_q, wo_gT, wo_gF, wp_condT, putO, setT_some, v_mv, v_pk, pkV_T, pkV_F, v_bi, bi_eql, v_ld1, ld1_p, load1_same, v_fa, ev_t, ev_c, Tr.setP_h, Tr.setP_l, Tr.setP_r, getT_h, getT_l, getT_r, List.getElem?_cons_zero, List.getElem?_cons_succ, endQ_ret, endO, resV_nil', resV_t, consO_some, oneV_two, Bool.not_false, Nat.zero_add, w27_10, w27_11, h])
  all_goals ((try simp only [decide_eq_true_eq, decide_eq_false_iff_not, Bool.not_false] at *); unfold wrB; try simp [*])
theorem t28 (Φ : Nat → Option CF) (h : Φ 28 = some c28) (op d a b i : Int) (at_ : Nat) (ct : Nat) (hat : at_ < 4294967296) (hi : -32768 ≤ i) (hi2 : i ≤ 65535) :
    To Φ 28 [.g [.i .i64 op, .i .i64 d, .i .i64 a, .i .i64 b, .i .i64 i], .i .u32 (at_ : Int)] ct (.t [.i .u32 (if ledB op = true then ((at_ : Int) + 4 * i) % 4294967296 else 0), .b (ledB op)]) := by
  refine to_walk h ?_
  have q1 : biV .mul (.i .i64 4) (.i .i64 i) = some (.i .i64 (4 * i)) := i64_mul _ _ (by omega) (by omega)
  have q2 : biV .add (.i .u32 (at_ : Int)) (.i .u32 (IntKind.u32.wrap (4 * i))) = some (.i .u32 (((at_ : Int) + 4 * i) % 4294967296)) := by
    rw [bi_add, wrap_u32, wrap_u32]
    congr 2
    omega
  simp only [wp_seq, seqQ_nrm, wp_reg, wp_block, wo_nil, xo_q, xo_a, putO, putA, v_mv, v_bi, bi_eql, v_ld1, ld1_p, load1_same, v_fa, ev_t, ev_c, Tr.setP_h, Tr.setP_l, Tr.setP_r, getT_h, getT_l, getT_r, List.getElem?_cons_zero, if_true, flatten_g, allOne_nil, allOne_cons, isOne_i, Bool.and_true, List.length_cons, List.length_nil, Nat.reduceAdd, Nat.zero_add, and_self, a_bx_eq, e28, w28_1, w28_2, w28_3, w28_11, w28_13]
  repeat' first | (refine wp_cond (by simp only [ev_t, getT_h, getT_l, getT_r]; rfl) (fun h => ?_) (fun h => ?_) <;> simp only [wp_seq, seqQ_nrm, seqQ_ret, wp_reg, wp_ret, wp_skip, blockQ_nrm, blockQ_ret, wo_nil, xo_q, wp_condT, putO, v_mv, v_bi, bi_eql, v_ld1, ld1_p, load1_same, v_fa, ev_t, ev_c, Tr.setP_h, Tr.setP_l, Tr.setP_r, getT_h, getT_l, getT_r, List.getElem?_cons_zero, List.getElem?_cons_succ, endQ_ret, endO, resV_nil', resV_t, consO_some, oneV_two, Nat.zero_add, v_ci, w28_4, w28_5, w28_6, w28_7, w28_8, w28_9, w28_10, w28_12, h, q1, q2]) | (refine wo_g (by simp only [wp_dreg, wd_e1, befB_nil, befB_cons, Nat.reducePow, Nat.reduceDiv, Nat.reduceMod, putDE, roFree_nil, roFree_cons, get_ne, Tr.get_e, isNone_none', dregQ_eq, mergeAll_nil, wd_nil, wd_q, putD_v, putD_r, oV_some, dq_mv, dq_ci, dq_bi0, biQ_i, dq_ex, dq_ld0, ldQ_p, ldR_some, dq_iaS, v_iaS, lnSl, lnL_l, lnL_u, lnL_l0, lnL_ue, wp_seq, seqQ_nrm, seqQ_ret, seqQ_ext, wp_reg, wp_ret, wp_skip, wp_exit, wp_block, blockQ_nrm, blockQ_ret, blockQ_ext, loopQ_nrm, loopQ_ret, loopQ_ext, wo_nil, xo_q, xo_a, xo_e, xo_e0, wo_gT, wo_gF, wo_gU, wp_condT, wp_condF, putO, putA, putE, putE0, setT_some, setT_none, v_mv, v_pk, pkV_T, pkV_F, v_bi, bi_sub, bi_lss, bi_gtr, bi_leq, bi_geq, bi_eql, bi_neq, v_un, un_not, v_ln, lnS, v_ixS, v_ld1, v_ldn, ld1_p, ldn_p, load1_same, v_fa, e_st_eq, er_some, xo_call, callC_orc, ev_t, ev_c, evs_nil, evs_cons, Tr.setP_h, Tr.setP_l, Tr.setP_r, getT_h, getT_n, getT_l, getT_r, Nat.reduceBEq, Nat.reduceEqDiff, Int.reduceEq, Int.reduceLT, Int.reduceLE, cond_true, cond_false, List.getElem?_cons_zero, List.getElem?_cons_succ, Option.getD_some, endQ_nrm, endQ_ret, endO, resV_nil', resV_t, consO_some, oneV_one, oneV_two, Bool.not_true, Bool.not_false, Bool.false_eq_true, Bool.true_eq_false, decide_true, decide_false, if_true, if_false, ite_true, ite_false, reduceIte, reduceCtorEq, pureO_of, ofO_some, flatten_b, flatten_i, flatten_s, flatten_p, flatten_p0, flatten_l, flatten_u, flatten_l0, flatten_m, flatten_m0, flatten_f, flatten_f0, flatten_g, allOne_nil, allOne_cons, isOne_b, isOne_i, isOne_s, isOne_p, isOne_p0, isOne_l, isOne_u, isOne_l0, isOne_m, isOne_f, isOne_f0, Bool.and_true, Bool.true_and, evP_nil, evP_cons, fillV_nil, fillV_cons, over_nil, over_cons, List.set_cons_zero, List.set_cons_succ, List.length_cons, List.length_nil, Nat.reduceAdd, Nat.reduceLeDiff, Nat.zero_add, and_self, and_true, true_and, v_bld, replL_over, v_fl1, v_fln, v_ex, v_ci, andO_some, eqAt_some, eqAll_nil, eqAll_cons, negO_F, negO_T, v_eq, eqV_agg, eqV_int, eq1_int, eq1_bool, xo_cv, callV_f, v_mkf, resV_cn, resV_c1, List.nil_append, List.append_nil, List.cons_append, load1_ne, loadN_ne, loadN_same, storeN_same, storeN_ne', mapS_some, a_al_eq, a_bx_eq, List.drop_zero, List.take_succ_cons, List.take_zero, List.take_nil, List.drop_succ_cons, Option.map_some, v_ixA1, ixA1_g, ne_add0, ne_add1, ne_add, Nat.add_assoc, x_app_eq, v_slL, v_bs, a_bsl_w, evPs_nil, evPs_cons, partsR_nil, partsR_cons, bslO_some, Option.isSome_some, Option.map_none, v_slS, lnSs, bi_seq, bi_sne, eq1_str, eqV_str, wd_gT, wd_gF, wd_gU, dq_ldn0, ldnQ_p, ldnR_some, dq_pk, dq_lnL, dq_lnS, dq_ixS, dq_un, dq_eq, shOk_agg, shOks_nil, shOks_cons, shOk1_int, shOk1_bool, shOk1_str, eqV_bool, shOk_int, shOk_bool, shOk_str, dq_fa, putDP, a_mks_w, wp_condTc, wp_condFc, roundQ_nrm, roundQ_ret, roundQ_ext, decide_eq_true_eq, or_self, or_true, or_false, true_or, false_or, and_false, false_and]; rfl) (fun h => ?_) (fun h => ?_) <;> simp only [wp_dreg, wd_e1, befB_nil, befB_cons, Nat.reducePow, Nat.reduceDiv, Nat.reduceMod, putDE, roFree_nil, roFree_cons, get_ne, Tr.get_e, isNone_none', dregQ_eq, mergeAll_nil, wd_nil, wd_q, putD_v, putD_r, oV_some, dq_mv, dq_ci, dq_bi0, biQ_i, dq_ex, dq_ld0, ldQ_p, ldR_some, dq_iaS, v_iaS, lnSl, lnL_l, lnL_u, lnL_l0, lnL_ue, wp_seq, seqQ_nrm, seqQ_ret, seqQ_ext, wp_reg, wp_ret, wp_skip, wp_exit, wp_block, blockQ_nrm, blockQ_ret, blockQ_ext, loopQ_nrm, loopQ_ret, loopQ_ext, wo_nil, xo_q, xo_a, xo_e, xo_e0, wo_gT, wo_gF, wo_gU, wp_condT, wp_condF, putO, putA, putE, putE0, setT_some, setT_none, v_mv, v_pk, pkV_T, pkV_F, v_bi, bi_sub, bi_lss, bi_gtr, bi_leq, bi_geq, bi_eql, bi_neq, v_un, un_not, v_ln, lnS, v_ixS, v_ld1, v_ldn, ld1_p, ldn_p, load1_same, v_fa, e_st_eq, er_some, xo_call, callC_orc, ev_t, ev_c, evs_nil, evs_cons, Tr.setP_h, Tr.setP_l, Tr.setP_r, getT_h, getT_n, getT_l, getT_r, Nat.reduceBEq, Nat.reduceEqDiff, Int.reduceEq, Int.reduceLT, Int.reduceLE, cond_true, cond_false, List.getElem?_cons_zero, List.getElem?_cons_succ, Option.getD_some, endQ_nrm, endQ_ret, endO, resV_nil', resV_t, consO_some, oneV_one, oneV_two, Bool.not_true, Bool.not_false, Bool.false_eq_true, Bool.true_eq_false, decide_true, decide_false, if_true, if_false, ite_true, ite_false, reduceIte, reduceCtorEq, pureO_of, ofO_some, flatten_b, flatten_i, flatten_s, flatten_p, flatten_p0, flatten_l, flatten_u, flatten_l0, flatten_m, flatten_m0, flatten_f, flatten_f0, flatten_g, allOne_nil, allOne_cons, isOne_b, isOne_i, isOne_s, isOne_p, isOne_p0, isOne_l, isOne_u, isOne_l0, isOne_m, isOne_f, isOne_f0, Bool.and_true, Bool.true_and, evP_nil, evP_cons, fillV_nil, fillV_cons, over_nil, over_cons, List.set_cons_zero, List.set_cons_succ, List.length_cons, List.length_nil, Nat.reduceAdd, Nat.reduceLeDiff, Nat.zero_add, and_self, and_true, true_and, v_bld, replL_over, v_fl1, v_fln, v_ex, v_ci, andO_some, eqAt_some, eqAll_nil, eqAll_cons, negO_F, negO_T, v_eq, eqV_agg, eqV_int, eq1_int, eq1_bool, xo_cv, callV_f, v_mkf, resV_cn, resV_c1, List.nil_append, List.append_nil, List.cons_append, load1_ne, loadN_ne, loadN_same, storeN_same, storeN_ne', mapS_some, a_al_eq, a_bx_eq, List.drop_zero, List.take_succ_cons, List.take_zero, List.take_nil, List.drop_succ_cons, Option.map_some, v_ixA1, ixA1_g, ne_add0, ne_add1, ne_add, Nat.add_assoc, x_app_eq, v_slL, v_bs, a_bsl_w, evPs_nil, evPs_cons, partsR_nil, partsR_cons, bslO_some, Option.isSome_some, Option.map_none, v_slS, lnSs, bi_seq, bi_sne, eq1_str, eqV_str, wd_gT, wd_gF, wd_gU, dq_ldn0, ldnQ_p, ldnR_some, dq_pk, dq_lnL, dq_lnS, dq_ixS, dq_un, dq_eq, shOk_agg, shOks_nil, shOks_cons, shOk1_int, shOk1_bool, shOk1_str, eqV_bool, shOk_int, shOk_bool, shOk_str, dq_fa, putDP, a_mks_w, wp_condTc, wp_condFc, roundQ_nrm, roundQ_ret, roundQ_ext, decide_eq_true_eq, or_self, or_true, or_false, true_or, false_or, and_false, false_and, e28, w28_1, w28_2, w28_3, w28_4, w28_5, w28_6, w28_7, w28_8, w28_9, w28_10, w28_11, w28_12, w28_13, h])
  all_goals (simp only [decide_eq_true_eq, decide_eq_false_iff_not] at *; unfold ledB; simp [*])
theorem t20 (Φ : Nat → Option CF) (h : Φ 20 = some c20) (h25 : Φ 25 = some (.orc (pureO h25))) (h37 : Φ 37 = some (.orc (pureO h37))) (h40 : Φ 40 = some (.orc (pureO h40))) (op d a b i : Int) (ct : Nat) :
    To Φ 20 [.g [.i .i64 op, .i .i64 d, .i .i64 a, .i .i64 b, .i .i64 i]] ct (.t [.i .i64 (if (mayI op d a b i && wrB op) = true then d else 0), .b (mayI op d a b i && wrB op)]) := by
  refine to_walk h ?_
  generalize hm : mayI op d a b i = m
  have hform : ∀ n, formI op = n → formI op = n := fun n h => h
  rcases formI_cases op with hf | hf | hf | hf | hf | hf | hf
  all_goals
    cases m
    all_goals
      simp only [wp_seq, seqQ_nrm, seqQ_ret, wp_reg, wp_ret, wp_block, blockQ_ret, wo_nil, xo_q, xo_a, xo_e, wo_gT, wo_gF, wp_condT, wp_condF, putO, putA, putE, setT_some, v_mv, v_pk, pkV_T, pkV_F, v_bi, bi_neq, v_un, un_not, v_ld1, v_ldn, ld1_p, ldn_p, load1_same, v_fa, xo_call, callC_orc, ev_t, ev_c, evs_nil, evs_cons, Tr.setP_h, Tr.setP_l, Tr.setP_r, getT_h, getT_l, getT_r, Int.reduceEq, List.getElem?_cons_zero, endQ_ret, endO, resV_nil', resV_t, consO_some, oneV_two, Bool.not_true, Bool.not_false, decide_true, decide_false, if_true, pureO_of, ofO_some, flatten_g, allOne_nil, allOne_cons, isOne_i, Bool.and_true, Bool.true_and, List.length_cons, List.length_nil, Nat.reduceAdd, Nat.reduceLeDiff, Nat.zero_add, and_self, v_fl1, loadN_same, a_bx_eq, List.drop_zero, List.take_succ_cons, List.take_nil, Option.map_some, or_self, or_true, or_false, e20, w20_1, w20_2, w20_3, w20_4, w20_13, w20_14, w20_16, h25, h25_eq, h37, h37_eq, hm, h40, h40_eq, hf, dI, aI, bI, iI]
      repeat' first | (refine wp_cond (by simp only [ev_t, getT_h, getT_l, getT_r]; rfl) (fun h => ?_) (fun h => ?_) <;> simp only [wp_seq, seqQ_nrm, seqQ_ret, wp_reg, wp_ret, wp_skip, blockQ_nrm, blockQ_ret, wo_nil, xo_q, wp_condT, putO, v_mv, v_bi, bi_eql, v_ld1, ld1_p, load1_same, v_fa, ev_t, ev_c, Tr.setP_h, Tr.setP_l, Tr.setP_r, getT_h, getT_l, getT_r, List.getElem?_cons_zero, List.getElem?_cons_succ, endQ_ret, endO, resV_nil', resV_t, consO_some, oneV_two, Nat.zero_add, w20_5, w20_6, w20_7, w20_8, w20_9, w20_10, w20_11, w20_12, w20_15, h]) | (refine wo_g (by simp only [wp_dreg, wd_e1, befB_nil, befB_cons, Nat.reducePow, Nat.reduceDiv, Nat.reduceMod, putDE, roFree_nil, roFree_cons, get_ne, Tr.get_e, isNone_none', dregQ_eq, mergeAll_nil, wd_nil, wd_q, putD_v, putD_r, oV_some, dq_mv, dq_ci, dq_bi0, biQ_i, dq_ex, dq_ld0, ldQ_p, ldR_some, dq_iaS, v_iaS, lnSl, lnL_l, lnL_u, lnL_l0, lnL_ue, wp_seq, seqQ_nrm, seqQ_ret, seqQ_ext, wp_reg, wp_ret, wp_skip, wp_exit, wp_block, blockQ_nrm, blockQ_ret, blockQ_ext, loopQ_nrm, loopQ_ret, loopQ_ext, wo_nil, xo_q, xo_a, xo_e, xo_e0, wo_gT, wo_gF, wo_gU, wp_condT, wp_condF, putO, putA, putE, putE0, setT_some, setT_none, v_mv, v_pk, pkV_T, pkV_F, v_bi, bi_sub, bi_lss, bi_gtr, bi_leq, bi_geq, bi_eql, bi_neq, v_un, un_not, v_ln, lnS, v_ixS, v_ld1, v_ldn, ld1_p, ldn_p, load1_same, v_fa, e_st_eq, er_some, xo_call, callC_orc, ev_t, ev_c, evs_nil, evs_cons, Tr.setP_h, Tr.setP_l, Tr.setP_r, getT_h, getT_n, getT_l, getT_r, Nat.reduceBEq, Nat.reduceEqDiff, Int.reduceEq, Int.reduceLT, Int.reduceLE, cond_true, cond_false, List.getElem?_cons_zero, List.getElem?_cons_succ, Option.getD_some, endQ_nrm, endQ_ret, endO, resV_nil', resV_t, consO_some, oneV_one, oneV_two, Bool.not_true, Bool.not_false, Bool.false_eq_true, Bool.true_eq_false, decide_true, decide_false, if_true, if_false, ite_true, ite_false, reduceIte, reduceCtorEq, pureO_of, ofO_some, flatten_b, flatten_i, flatten_s, flatten_p, flatten_p0, flatten_l, flatten_u, flatten_l0, flatten_m, flatten_m0, flatten_f, flatten_f0, flatten_g, allOne_nil, allOne_cons, isOne_b, isOne_i, isOne_s, isOne_p, isOne_p0, isOne_l, isOne_u, isOne_l0, isOne_m, isOne_f, isOne_f0, Bool.and_true, Bool.true_and, evP_nil, evP_cons, fillV_nil, fillV_cons, over_nil, over_cons, List.set_cons_zero, List.set_cons_succ, List.length_cons, List.length_nil, Nat.reduceAdd, Nat.reduceLeDiff, Nat.zero_add, and_self, and_true, true_and, v_bld, replL_over, v_fl1, v_fln, v_ex, v_ci, andO_some, eqAt_some, eqAll_nil, eqAll_cons, negO_F, negO_T, v_eq, eqV_agg, eqV_int, eq1_int, eq1_bool, xo_cv, callV_f, v_mkf, resV_cn, resV_c1, List.nil_append, List.append_nil, List.cons_append, load1_ne, loadN_ne, loadN_same, storeN_same, storeN_ne', mapS_some, a_al_eq, a_bx_eq, List.drop_zero, List.take_succ_cons, List.take_zero, List.take_nil, List.drop_succ_cons, Option.map_some, v_ixA1, ixA1_g, ne_add0, ne_add1, ne_add, Nat.add_assoc, x_app_eq, v_slL, v_bs, a_bsl_w, evPs_nil, evPs_cons, partsR_nil, partsR_cons, bslO_some, Option.isSome_some, Option.map_none, v_slS, lnSs, bi_seq, bi_sne, eq1_str, eqV_str, wd_gT, wd_gF, wd_gU, dq_ldn0, ldnQ_p, ldnR_some, dq_pk, dq_lnL, dq_lnS, dq_ixS, dq_un, dq_eq, shOk_agg, shOks_nil, shOks_cons, shOk1_int, shOk1_bool, shOk1_str, eqV_bool, shOk_int, shOk_bool, shOk_str, dq_fa, putDP, a_mks_w, wp_condTc, wp_condFc, roundQ_nrm, roundQ_ret, roundQ_ext, decide_eq_true_eq, or_self, or_true, or_false, true_or, false_or, and_false, false_and]; rfl) (fun h => ?_) (fun h => ?_) <;> simp only [wp_dreg, wd_e1, befB_nil, befB_cons, Nat.reducePow, Nat.reduceDiv, Nat.reduceMod, putDE, roFree_nil, roFree_cons, get_ne, Tr.get_e, isNone_none', dregQ_eq, mergeAll_nil, wd_nil, wd_q, putD_v, putD_r, oV_some, dq_mv, dq_ci, dq_bi0, biQ_i, dq_ex, dq_ld0, ldQ_p, ldR_some, dq_iaS, v_iaS, lnSl, lnL_l, lnL_u, lnL_l0, lnL_ue, wp_seq, seqQ_nrm, seqQ_ret, seqQ_ext, wp_reg, wp_ret, wp_skip, wp_exit, wp_block, blockQ_nrm, blockQ_ret, blockQ_ext, loopQ_nrm, loopQ_ret, loopQ_ext, wo_nil, xo_q, xo_a, xo_e, xo_e0, wo_gT, wo_gF, wo_gU, wp_condT, wp_condF, putO, putA, putE, putE0, setT_some, setT_none, v_mv, v_pk, pkV_T, pkV_F, v_bi, bi_sub, bi_lss, bi_gtr, bi_leq, bi_geq, bi_eql, bi_neq, v_un, un_not, v_ln, lnS, v_ixS, v_ld1, v_ldn, ld1_p, ldn_p, load1_same, v_fa, e_st_eq, er_some, xo_call, callC_orc, ev_t, ev_c, evs_nil, evs_cons, Tr.setP_h, Tr.setP_l, Tr.setP_r, getT_h, getT_n, getT_l, getT_r, Nat.reduceBEq, Nat.reduceEqDiff, Int.reduceEq, Int.reduceLT, Int.reduceLE, cond_true, cond_false, List.getElem?_cons_zero, List.getElem?_cons_succ, Option.getD_some, endQ_nrm, endQ_ret, endO, resV_nil', resV_t, consO_some, oneV_one, oneV_two, Bool.not_true, Bool.not_false, Bool.false_eq_true, Bool.true_eq_false, decide_true, decide_false, if_true, if_false, ite_true, ite_false, reduceIte, reduceCtorEq, pureO_of, ofO_some, flatten_b, flatten_i, flatten_s, flatten_p, flatten_p0, flatten_l, flatten_u, flatten_l0, flatten_m, flatten_m0, flatten_f, flatten_f0, flatten_g, allOne_nil, allOne_cons, isOne_b, isOne_i, isOne_s, isOne_p, isOne_p0, isOne_l, isOne_u, isOne_l0, isOne_m, isOne_f, isOne_f0, Bool.and_true, Bool.true_and, evP_nil, evP_cons, fillV_nil, fillV_cons, over_nil, over_cons, List.set_cons_zero, List.set_cons_succ, List.length_cons, List.length_nil, Nat.reduceAdd, Nat.reduceLeDiff, Nat.zero_add, and_self, and_true, true_and, v_bld, replL_over, v_fl1, v_fln, v_ex, v_ci, andO_some, eqAt_some, eqAll_nil, eqAll_cons, negO_F, negO_T, v_eq, eqV_agg, eqV_int, eq1_int, eq1_bool, xo_cv, callV_f, v_mkf, resV_cn, resV_c1, List.nil_append, List.append_nil, List.cons_append, load1_ne, loadN_ne, loadN_same, storeN_same, storeN_ne', mapS_some, a_al_eq, a_bx_eq, List.drop_zero, List.take_succ_cons, List.take_zero, List.take_nil, List.drop_succ_cons, Option.map_some, v_ixA1, ixA1_g, ne_add0, ne_add1, ne_add, Nat.add_assoc, x_app_eq, v_slL, v_bs, a_bsl_w, evPs_nil, evPs_cons, partsR_nil, partsR_cons, bslO_some, Option.isSome_some, Option.map_none, v_slS, lnSs, bi_seq, bi_sne, eq1_str, eqV_str, wd_gT, wd_gF, wd_gU, dq_ldn0, ldnQ_p, ldnR_some, dq_pk, dq_lnL, dq_lnS, dq_ixS, dq_un, dq_eq, shOk_agg, shOks_nil, shOks_cons, shOk1_int, shOk1_bool, shOk1_str, eqV_bool, shOk_int, shOk_bool, shOk_str, dq_fa, putDP, a_mks_w, wp_condTc, wp_condFc, roundQ_nrm, roundQ_ret, roundQ_ext, decide_eq_true_eq, or_self, or_true, or_false, true_or, false_or, and_false, false_and, e20, w20_1, w20_2, w20_3, w20_4, w20_5, w20_6, w20_7, w20_8, w20_9, w20_10, w20_11, w20_12, w20_13, w20_14, w20_15, w20_16, h])
  all_goals ((try simp only [decide_eq_true_eq, decide_eq_false_iff_not] at *); try simp [wrB, *])
  all_goals (have h6 := @formI_6 op; omega)
theorem t21 (Φ : Nat → Option CF) (h : Φ 21 = some c21) (h37 : Φ 37 = some (.orc (pureO h37))) (op d a b i : Int) (at_ : Nat) (ct : Nat) (hat : at_ < 4294967296) :
    To Φ 21 [.g [.i .i64 op, .i .i64 d, .i .i64 a, .i .i64 b, .i .i64 i], .i .u32 (at_ : Int)] ct (.t [.i .u32 (if (mayI op d a b i && ledB op) = true then ((at_ : Int) + 4 * i) % 4294967296 else 0), .b (mayI op d a b i && ledB op)]) := by
  refine to_walk h ?_
  have q1 : biV .shl (.i .u32 (IntKind.u32.wrap i)) (.i .u64 2) = some (.i .u32 ((4 * i) % 4294967296)) := by
    have := bi_shl .u32 .u64 (IntKind.u32.wrap i) 2
    refine this.trans ?_
    rw [wrap_u32, wrap_u32]
    congr 2
    show i % 4294967296 * ((2 ^ 2 : Nat) : Int) % 4294967296 = _
    omega
  have q2 : biV .add (.i .u32 (at_ : Int)) (.i .u32 ((4 * i) % 4294967296)) = some (.i .u32 (((at_ : Int) + 4 * i) % 4294967296)) := by
    rw [bi_add, wrap_u32]
    congr 2
    omega
  cases hm : mayI op d a b i
  all_goals
    simp only [wp_seq, seqQ_nrm, wp_reg, wp_block, wo_nil, xo_q, xo_a, putO, putA, v_mv, v_bi, bi_eql, v_ld1, ld1_p, load1_same, v_fa, ev_t, ev_c, Tr.setP_h, Tr.setP_l, Tr.setP_r, getT_h, getT_l, getT_r, List.getElem?_cons_zero, if_true, flatten_g, allOne_nil, allOne_cons, isOne_i, Bool.and_true, Bool.true_and, List.length_cons, List.length_nil, Nat.reduceAdd, Nat.zero_add, and_self, a_bx_eq, e21, w21_1, w21_2, w21_3, w21_13, w21_15]
    repeat' first | (refine wp_cond (by simp only [ev_t, getT_h, getT_l, getT_r]; rfl) (fun h => ?_) (fun h => ?_) <;> simp only [wp_seq, seqQ_nrm, seqQ_ret, wp_reg, wp_ret, wp_skip, blockQ_nrm, blockQ_ret, wo_nil, xo_q, xo_e, wp_condT, wp_condF, putO, putE, v_mv, v_bi, bi_eql, v_ld1, v_ldn, ld1_p, ldn_p, load1_same, v_fa, xo_call, callC_orc, ev_t, ev_c, evs_nil, evs_cons, Tr.setP_h, Tr.setP_l, Tr.setP_r, getT_h, getT_l, getT_r, List.getElem?_cons_zero, List.getElem?_cons_succ, endQ_ret, endO, resV_nil', resV_t, consO_some, oneV_two, pureO_of, ofO_some, List.length_cons, List.length_nil, Nat.reduceAdd, Nat.reduceLeDiff, Nat.zero_add, v_ci, loadN_same, List.drop_zero, List.take_succ_cons, List.take_nil, Option.map_some, w21_4, w21_5, w21_6, w21_7, w21_8, w21_9, w21_10, w21_11, w21_12, w21_14, h, h37, h37_eq, hm, q1, q2]) | (refine wo_g (by simp only [wp_dreg, wd_e1, befB_nil, befB_cons, Nat.reducePow, Nat.reduceDiv, Nat.reduceMod, putDE, roFree_nil, roFree_cons, get_ne, Tr.get_e, isNone_none', dregQ_eq, mergeAll_nil, wd_nil, wd_q, putD_v, putD_r, oV_some, dq_mv, dq_ci, dq_bi0, biQ_i, dq_ex, dq_ld0, ldQ_p, ldR_some, dq_iaS, v_iaS, lnSl, lnL_l, lnL_u, lnL_l0, lnL_ue, wp_seq, seqQ_nrm, seqQ_ret, seqQ_ext, wp_reg, wp_ret, wp_skip, wp_exit, wp_block, blockQ_nrm, blockQ_ret, blockQ_ext, loopQ_nrm, loopQ_ret, loopQ_ext, wo_nil, xo_q, xo_a, xo_e, xo_e0, wo_gT, wo_gF, wo_gU, wp_condT, wp_condF, putO, putA, putE, putE0, setT_some, setT_none, v_mv, v_pk, pkV_T, pkV_F, v_bi, bi_sub, bi_lss, bi_gtr, bi_leq, bi_geq, bi_eql, bi_neq, v_un, un_not, v_ln, lnS, v_ixS, v_ld1, v_ldn, ld1_p, ldn_p, load1_same, v_fa, e_st_eq, er_some, xo_call, callC_orc, ev_t, ev_c, evs_nil, evs_cons, Tr.setP_h, Tr.setP_l, Tr.setP_r, getT_h, getT_n, getT_l, getT_r, Nat.reduceBEq, Nat.reduceEqDiff, Int.reduceEq, Int.reduceLT, Int.reduceLE, cond_true, cond_false, List.getElem?_cons_zero, List.getElem?_cons_succ, Option.getD_some, endQ_nrm, endQ_ret, endO, resV_nil', resV_t, consO_some, oneV_one, oneV_two, Bool.not_true, Bool.not_false, Bool.false_eq_true, Bool.true_eq_false, decide_true, decide_false, if_true, if_false, ite_true, ite_false, reduceIte, reduceCtorEq, pureO_of, ofO_some, flatten_b, flatten_i, flatten_s, flatten_p, flatten_p0, flatten_l, flatten_u, flatten_l0, flatten_m, flatten_m0, flatten_f, flatten_f0, flatten_g, allOne_nil, allOne_cons, isOne_b, isOne_i, isOne_s, isOne_p, isOne_p0, isOne_l, isOne_u, isOne_l0, isOne_m, isOne_f, isOne_f0, Bool.and_true, Bool.true_and, evP_nil, evP_cons, fillV_nil, fillV_cons, over_nil, over_cons, List.set_cons_zero, List.set_cons_succ, List.length_cons, List.length_nil, Nat.reduceAdd, Nat.reduceLeDiff, Nat.zero_add, and_self, and_true, true_and, v_bld, replL_over, v_fl1, v_fln, v_ex, v_ci, andO_some, eqAt_some, eqAll_nil, eqAll_cons, negO_F, negO_T, v_eq, eqV_agg, eqV_int, eq1_int, eq1_bool, xo_cv, callV_f, v_mkf, resV_cn, resV_c1, List.nil_append, List.append_nil, List.cons_append, load1_ne, loadN_ne, loadN_same, storeN_same, storeN_ne', mapS_some, a_al_eq, a_bx_eq, List.drop_zero, List.take_succ_cons, List.take_zero, List.take_nil, List.drop_succ_cons, Option.map_some, v_ixA1, ixA1_g, ne_add0, ne_add1, ne_add, Nat.add_assoc, x_app_eq, v_slL, v_bs, a_bsl_w, evPs_nil, evPs_cons, partsR_nil, partsR_cons, bslO_some, Option.isSome_some, Option.map_none, v_slS, lnSs, bi_seq, bi_sne, eq1_str, eqV_str, wd_gT, wd_gF, wd_gU, dq_ldn0, ldnQ_p, ldnR_some, dq_pk, dq_lnL, dq_lnS, dq_ixS, dq_un, dq_eq, shOk_agg, shOks_nil, shOks_cons, shOk1_int, shOk1_bool, shOk1_str, eqV_bool, shOk_int, shOk_bool, shOk_str, dq_fa, putDP, a_mks_w, wp_condTc, wp_condFc, roundQ_nrm, roundQ_ret, roundQ_ext, decide_eq_true_eq, or_self, or_true, or_false, true_or, false_or, and_false, false_and]; rfl) (fun h => ?_) (fun h => ?_) <;> simp only [wp_dreg, wd_e1, befB_nil, befB_cons, Nat.reducePow, Nat.reduceDiv, Nat.reduceMod, putDE, roFree_nil, roFree_cons, get_ne, Tr.get_e, isNone_none', dregQ_eq, mergeAll_nil, wd_nil, wd_q, putD_v, putD_r, oV_some, dq_mv, dq_ci, dq_bi0, biQ_i, dq_ex, dq_ld0, ldQ_p, ldR_some, dq_iaS, v_iaS, lnSl, lnL_l, lnL_u, lnL_l0, lnL_ue, wp_seq, seqQ_nrm, seqQ_ret, seqQ_ext, wp_reg, wp_ret, wp_skip, wp_exit, wp_block, blockQ_nrm, blockQ_ret, blockQ_ext, loopQ_nrm, loopQ_ret, loopQ_ext, wo_nil, xo_q, xo_a, xo_e, xo_e0, wo_gT, wo_gF, wo_gU, wp_condT, wp_condF, putO, putA, putE, putE0, setT_some, setT_none, v_mv, v_pk, pkV_T, pkV_F, v_bi, bi_sub, bi_lss, bi_gtr, bi_leq, bi_geq, bi_eql, bi_neq, v_un, un_not, v_ln, lnS, v_ixS, v_ld1, v_ldn, ld1_p, ldn_p, load1_same, v_fa, e_st_eq, er_some, xo_call, callC_orc, ev_t, ev_c, evs_nil, evs_cons, Tr.setP_h, Tr.setP_l, Tr.setP_r, getT_h, getT_n, getT_l, getT_r, Nat.reduceBEq, Nat.reduceEqDiff, Int.reduceEq, Int.reduceLT, Int.reduceLE, cond_true, cond_false, List.getElem?_cons_zero, List.getElem?_cons_succ, Option.getD_some, endQ_nrm, endQ_ret, endO, resV_nil', resV_t, consO_some, oneV_one, oneV_two, Bool.not_true, Bool.not_false, Bool.false_eq_true, Bool.true_eq_false, decide_true, decide_false, if_true, if_false, ite_true, ite_false, reduceIte, reduceCtorEq, pureO_of, ofO_some, flatten_b, flatten_i, flatten_s, flatten_p, flatten_p0, flatten_l, flatten_u, flatten_l0, flatten_m, flatten_m0, flatten_f, flatten_f0, flatten_g, allOne_nil, allOne_cons, isOne_b, isOne_i, isOne_s, isOne_p, isOne_p0, isOne_l, isOne_u, isOne_l0, isOne_m, isOne_f, isOne_f0, Bool.and_true, Bool.true_and, evP_nil, evP_cons, fillV_nil, fillV_cons, over_nil, over_cons, List.set_cons_zero, List.set_cons_succ, List.length_cons, List.length_nil, Nat.reduceAdd, Nat.reduceLeDiff, Nat.zero_add, and_self, and_true, true_and, v_bld, replL_over, v_fl1, v_fln, v_ex, v_ci, andO_some, eqAt_some, eqAll_nil, eqAll_cons, negO_F, negO_T, v_eq, eqV_agg, eqV_int, eq1_int, eq1_bool, xo_cv, callV_f, v_mkf, resV_cn, resV_c1, List.nil_append, List.append_nil, List.cons_append, load1_ne, loadN_ne, loadN_same, storeN_same, storeN_ne', mapS_some, a_al_eq, a_bx_eq, List.drop_zero, List.take_succ_cons, List.take_zero, List.take_nil, List.drop_succ_cons, Option.map_some, v_ixA1, ixA1_g, ne_add0, ne_add1, ne_add, Nat.add_assoc, x_app_eq, v_slL, v_bs, a_bsl_w, evPs_nil, evPs_cons, partsR_nil, partsR_cons, bslO_some, Option.isSome_some, Option.map_none, v_slS, lnSs, bi_seq, bi_sne, eq1_str, eqV_str, wd_gT, wd_gF, wd_gU, dq_ldn0, ldnQ_p, ldnR_some, dq_pk, dq_lnL, dq_lnS, dq_ixS, dq_un, dq_eq, shOk_agg, shOks_nil, shOks_cons, shOk1_int, shOk1_bool, shOk1_str, eqV_bool, shOk_int, shOk_bool, shOk_str, dq_fa, putDP, a_mks_w, wp_condTc, wp_condFc, roundQ_nrm, roundQ_ret, roundQ_ext, decide_eq_true_eq, or_self, or_true, or_false, true_or, false_or, and_false, false_and, e21, w21_1, w21_2, w21_3, w21_4, w21_5, w21_6, w21_7, w21_8, w21_9, w21_10, w21_11, w21_12, w21_13, w21_14, w21_15, h])
  all_goals ((try simp only [decide_eq_true_eq, decide_eq_false_iff_not] at *); simp [ledB, *])
end Go.Proofs.YtffpeieapadocaaGreatDoor.Ev
set_option maxRecDepth 10000
set_option maxHeartbeats 16000000
namespace Go.Proofs.YtffpeieapadocaaGreatDoor.Ev
open Go
noncomputable def b23_1 : CC := (.reg [⟨(some (.l .h)), .a (.bsl 9 29 1 [(.s 0 0)] [(0, (.c (.s 0 0))), (1, (.c (.s 3 7368558))), (2, (.c (.s 4 1886352499))), (3, (.c (.s 4 1819042147))), (4, (.c (.s 4 1801675106))), (5, (.c (.s 5 500152823651))), (6, (.c (.s 4 1751607656))), (7, (.c (.s 4 2037411683))), (8, (.c (.s 3 6579297))), (9, (.c (.s 3 6452595))), (10, (.c (.s 3 7107949))), (11, (.c (.s 3 7760228))), (12, (.c (.s 3 6582125))), (13, (.c (.s 3 6581857))), (14, (.c (.s 2 29295))), (15, (.c (.s 3 7499640))), (16, (.c (.s 3 7104627))), (17, (.c (.s 3 7497843))), (18, (.c (.s 4 1768186977))), (19, (.c (.s 4 1684107116))), (20, (.c (.s 5 435711603827))), (21, (.c (.s 5 422590902124))), (22, (.c (.s 6 108187851125875))), (23, (.c (.s 4 1886221674))), (24, (.c (.s 5 491512493418))), (25, (.c (.s 4 1802398060))), (26, (.c (.s 3 7431522))), (27, (.c (.s 3 6647394))), (28, (.c (.s 3 7629922)))]), none⟩, ⟨(some .h), .q (.mv (.t (.l .h))), none⟩])
def w23_1 := @wp_unf _ _ b23_1.eq_1
noncomputable def b23_2 : CC := (.seq (.reg [⟨(some .h), .q (.mv (.c .l0)), none⟩]) (.seq b23_1 .ret))
def w23_2 := @wp_unf _ _ b23_2.eq_1
noncomputable def c23 : CF := .mk 2 [.t .h] b23_2
theorem e23 : argTr 2 [] = (.n (.n .e none .e) none (.n .e none .e)) := rfl
noncomputable def b52_1 : CC := (.seq (.reg [⟨(some .h), .q (.mv (.c (.f 68 [] []))), none⟩]) .ret)
def w52_1 := @wp_unf _ _ b52_1.eq_1
noncomputable def c52 : CF := .mk 1 [.t .h] (.seq (.reg [⟨(some .h), .q (.mv (.c .f0)), none⟩]) b52_1)
theorem e52 : argTr 1 [] = (.n .e none .e) := rfl
noncomputable def b68_1 : CC := (.reg [⟨(some (.r (.l .h))), .e (.call 53 []), none⟩, ⟨(some (.l (.r .h))), .q (.mv (.c (.i .i64 0))), none⟩])
def w68_1 := @wp_unf _ _ b68_1.eq_1
noncomputable def b68_2 : CC := (.reg [⟨(some (.r (.r .h))), .q (.bi .lss (.t (.l (.r .h))) (.c (.i .i64 29))), none⟩])
def w68_2 := @wp_unf _ _ b68_2.eq_1
noncomputable def b68_3 : CC := (.reg [⟨(some (.l (.l (.l .h)))), .q (.mv (.t (.l (.r .h)))), none⟩, ⟨(some (.r (.l (.l .h)))), .q (.ixA1 29 1 (.t (.r (.l .h))) (.t (.l (.r .h)))), none⟩, ⟨(some (.r .h)), .q (.mv (.t (.l (.l (.l .h))))), none⟩, ⟨(some (.l (.l .h))), .q (.mv (.t (.r (.l (.l .h))))), none⟩])
def w68_3 := @wp_unf _ _ b68_3.eq_1
noncomputable def b68_4 : CC := (.reg [⟨(some (.l (.r (.l .h)))), .q (.mv (.t (.r .h))), none⟩, ⟨(some (.r (.r (.l .h)))), .q (.bi .gtr (.t (.l (.r (.l .h)))) (.c (.i .i64 0))), none⟩, ⟨(some (.l (.l (.r .h)))), .q (.mv (.t (.r (.r (.l .h))))), none⟩, ⟨(some (.r (.l (.r .h)))), .q (.mv (.t .h)), (some ((.l (.l (.r .h))), true))⟩, ⟨(some (.l (.r (.r .h)))), .q (.mv (.t (.r .h))), (some ((.l (.l (.r .h))), true))⟩, ⟨(some (.r (.r (.r .h)))), .q (.mv (.t (.l (.l .h)))), (some ((.l (.l (.r .h))), true))⟩, ⟨(some (.l (.l (.l (.l .h))))), .e (.cv (.t (.r (.l (.r .h)))) [(.t (.l (.r (.r .h)))), (.t (.r (.r (.r .h))))]), (some ((.l (.l (.r .h))), true))⟩, ⟨(some (.r (.l (.l (.l .h))))), .q (.un .not (.t (.l (.l (.l (.l .h)))))), (some ((.l (.l (.r .h))), true))⟩, ⟨(some (.l (.r (.l (.l .h))))), .q (.pk (.t (.l (.l (.r .h)))) (.t (.r (.l (.l (.l .h))))) (.c (.b false))), none⟩])
def w68_4 := @wp_unf _ _ b68_4.eq_1
noncomputable def b68_5 : CC := (.seq b68_3 (.seq b68_4 (.cond (.t (.l (.r (.l (.l .h))))) .ret .skip)))
def w68_5 := @wp_unf _ _ b68_5.eq_1
noncomputable def b68_6 : CC := (.reg [⟨(some (.r (.r (.l (.l .h))))), .q (.bi .add (.t (.l (.r .h))) (.c (.i .i64 1))), none⟩, ⟨(some (.l (.r .h))), .q (.mv (.t (.r (.r (.l (.l .h)))))), none⟩])
def w68_6 := @wp_unf _ _ b68_6.eq_1
noncomputable def b68_7 : CC := (.seq (.cond (.t (.r (.r .h))) .skip (.exit 0)) (.seq (.block 1 b68_5) b68_6))
def w68_7 := @wp_unf _ _ b68_7.eq_1
noncomputable def c68 : CF := .mk 5 [] (.seq b68_1 (.block 0 (.loop (.seq b68_2 b68_7))))
theorem e68 (v0 : V) : argTr 5 [v0] = (.n (.n (.n (.n (.n .e none .e) none (.n .e none .e)) none (.n (.n .e none .e) none (.n .e none .e))) none (.n (.n (.n .e none .e) none (.n .e none .e)) none (.n (.n .e none .e) none (.n .e none .e)))) (some v0) (.n (.n (.n (.n .e none .e) none (.n .e none .e)) none (.n (.n .e none .e) none (.n .e none .e))) none (.n (.n (.n .e none .e) none (.n .e none .e)) none (.n (.n .e none .e) none (.n .e none .e))))) := rfl
def nameL : List (List UInt8) := [[], [110, 111, 112], [115, 116, 111, 112], [99, 97, 108, 108], [98, 97, 99, 107], [99, 111, 110, 115, 116], [104, 105, 103, 104], [99, 111, 112, 121], [97, 100, 100], [115, 117, 98], [109, 117, 108], [100, 105, 118], [109, 111, 100], [97, 110, 100], [111, 114], [120, 111, 114], [115, 104, 108], [115, 104, 114], [97, 100, 100, 105], [108, 111, 97, 100], [115, 116, 111, 114, 101], [108, 111, 97, 100, 98], [115, 116, 111, 114, 101, 98], [106, 117, 109, 112], [106, 117, 109, 112, 114], [108, 105, 110, 107], [98, 101, 113], [98, 110, 101], [98, 108, 116]]
theorem names_eq : names53 = nameL.map sV := rfl
theorem nameL_len : nameL.length = 29 := rfl
theorem names_get {k : Nat} (h : k < 29) : names53[k]? = some (sV (nameL[k]'h)) := by
  rw [names_eq, List.getElem?_map, List.getElem?_eq_getElem (show k < nameL.length from h)]; rfl
theorem r23 (Φ : Nat → Option CF) (h : Φ 23 = some c23) {F : RO} {M : Mem} {c : Nat} : Calls Φ F 23 [] M c fun r M' c' => ∃ x, M' = M.set c x ∧ c' = c + 1 ∧ SlAt F M' c' 1 r (nameL.map fun s => [sV s]) := by
  refine calls_walk h ?_
  simp only [wp_seq, seqQ_nrm, wp_reg, wp_ret, wo_nil, xo_q, xo_a, putO, putA, v_mv, ev_t, ev_c, Tr.setP_h, Tr.setP_l, getT_h, getT_l, endQ_ret, endO, resV_nil', resV_t, consO_some, oneV_one, if_true, flatten_s, allOne_nil, allOne_cons, isOne_s, Bool.and_true, List.length_cons, List.length_nil, Nat.reduceAdd, Nat.zero_add, and_self, true_and, List.nil_append, List.cons_append, Option.map_some, a_bsl_w, evPs_nil, evPs_cons, partsR_nil, partsR_cons, bslO_some, Option.isSome_some, e23, w23_1, w23_2]
  refine ⟨_, rfl, ?_⟩
  exact slD (es := nameL.map fun s => [sV s]) ((get_same _ _ _).trans (by rfl)) (by omega) (by intro e he; obtain ⟨x, _, rfl⟩ := List.mem_map.1 he; rfl) rfl
theorem t52 (Φ : Nat → Option CF) (h : Φ 52 = some c52) (ct : Nat) : To Φ 52 [] ct (.f 68 [] []) := by
  refine to_walk h ?_
  simp only [wp_seq, seqQ_nrm, wp_reg, wp_ret, wo_nil, xo_q, putO, v_mv, ev_c, Tr.setP_h, getT_h, endQ_ret, endO, resV_nil', resV_t, consO_some, oneV_one, e52, w52_1]
def h52 : List V → Option V
  | [] => some (.f 68 [] [])
  | _ => none
theorem h52_eq : h52 [] = some (.f 68 [] []) := rfl
theorem r68 (Φ : Nat → Option CF) (h : Φ 68 = some c68) (h53 : Φ 53 = some (.orc (pureO h53))) {F : RO} {M : Mem} {c y : Nat} {I : Nat → Mem → Nat → Prop} {J : Mem → Nat → Prop} (h0 : I 1 M c)
    (hY : ∀ k M c, (hk : k < 29) → 1 ≤ k → I k M c → RTo (callV (K Φ none 68 F) (.y y) [.i .i64 (k : Int), sV (nameL[k]'hk)] M c) fun r M' c' => (r = .b true ∧ I (k + 1) M' c') ∨ (r = .b false ∧ J M' c')) :
    Calls Φ F 68 [.y y] M c fun _ M' c' => I 29 M' c' ∨ J M' c' := by
  refine calls_walk h ?_
  simp only [wp_seq, seqQ_nrm, wp_reg, wp_block, wo_nil, xo_q, xo_e, putO, putE, v_mv, xo_call, callC_orc, ev_c, evs_nil, Tr.setP_h, Tr.setP_l, Tr.setP_r, pureO_of, ofO_some, e68, w68_1, h53, h53_eq]
  obtain ⟨Iv, hIv⟩ : ∃ Iv : Nat → St → Prop, ∀ n s, Iv n s ↔ (∃ (k : Nat) (M1 : Mem) (c1 : Nat) (u : List (Option V)), n = 29 - k ∧ k ≤ 29 ∧ s = .mk ((.n (.n (.n (.n (.n .e (uO u 15) .e) (uO u 7) (.n .e (uO u 23) .e)) (uO u 3) (.n (.n .e (uO u 19) .e) (uO u 11) (.n .e (uO u 27) .e))) (uO u 1) (.n (.n (.n .e (uO u 17) .e) (uO u 9) (.n .e (uO u 25) .e)) (some (.i .i64 (k : Int))) (.n (.n .e (uO u 21) .e) (uO u 13) (.n .e (uO u 29) .e)))) (some (.y y)) (.n (.n (.n (.n .e (uO u 16) .e) (uO u 8) (.n .e (uO u 24) .e)) (some (.g names53)) (.n (.n .e (uO u 20) .e) (uO u 12) (.n .e (uO u 28) .e))) (uO u 2) (.n (.n (.n .e (uO u 18) .e) (uO u 10) (.n .e (uO u 26) .e)) (uO u 6) (.n (.n .e (uO u 22) .e) (uO u 14) (.n .e (uO u 30) .e)))))) [] M1 c1 ∧ I (max k 1) M1 c1) := ⟨fun n s => _, fun _ _ => Iff.rfl⟩
  refine wp_while Iv ?_ 29 _ ((hIv _ _).2 ⟨0, _, _, [none, _, _, _, none, none, _, _, _, _, _, _, _, _, _, _, _, _, _, _, _, _, _, _, _, _, _, _, _, _, _], rfl, Nat.zero_le _, rfl, h0⟩)
  intro n s hIs
  obtain ⟨k, M1, c1, u, rfl, hk, rfl, hi⟩ := (hIv _ _).1 hIs
  clear hIs
  have q8 : biV .add (.i .i64 (k : Int)) (.i .i64 1) = some (.i .i64 ((k + 1 : Nat) : Int)) := by rw [i64_add _ _ (by omega) (by omega)]; simp
  by_cases hlt : k < 29
  · have hd : decide ((k : Int) < 29) = true := decide_eq_true (by omega)
    have hix : ixA1V 29 1 (.g names53) (.i .i64 (k : Int)) = some (sV (nameL[k]'hlt)) := by
      rw [ixA1_g, if_pos (by omega)]
      exact names_get hlt
    by_cases h1 : 1 ≤ k
    · have hd1 : decide (0 < (k : Int)) = true := decide_eq_true (by omega)
      rw [show max k 1 = k by omega] at hi
      simp only [wp_seq, seqQ_nrm, wp_reg, wp_skip, wp_block, wo_nil, xo_q, xo_e, wo_gT, wp_condT, putO, v_mv, v_bi, bi_lss, bi_gtr, ev_t, ev_c, evs_nil, evs_cons, Tr.setP_h, Tr.setP_l, Tr.setP_r, getT_h, getT_l, getT_r, xo_cv, v_ixA1, w68_2, w68_3, w68_4, w68_5, w68_7, hd, hix, hd1]
      refine putE_to ((hY k M1 c1 hlt h1 hi).mono ?_)
      rintro r M3 c3 (⟨rfl, hi3⟩ | ⟨rfl, hj⟩)
      · simp only [seqQ_nrm, wp_reg, wp_skip, blockQ_nrm, wo_nil, xo_q, wo_gT, wp_condF, putO, v_mv, v_pk, pkV_T, v_bi, v_un, un_not, ev_t, ev_c, Tr.setP_h, Tr.setP_l, Tr.setP_r, getT_h, getT_l, getT_r, Bool.not_true, roundQ_nrm, w68_6, q8]
        exact ⟨29 - (k + 1), by omega, (hIv _ _).2 ⟨k + 1, M3, c3, [none, _, _, _, none, none, _, _, _, _, _, _, _, _, _, _, _, _, _, _, _, _, _, _, _, _, _, _, _, _, _], rfl, by omega, rfl, by rw [show max (k + 1) 1 = k + 1 by omega]; exact hi3⟩⟩
      · simp only [seqQ_nrm, seqQ_ret, wp_ret, blockQ_ret, wo_nil, xo_q, wo_gT, wp_condT, putO, v_pk, pkV_T, v_un, un_not, ev_t, ev_c, Tr.setP_h, Tr.setP_l, Tr.setP_r, getT_h, getT_l, getT_r, endQ_ret, endO, resV_nil', Bool.not_false, roundQ_ret]
        exact .inr hj
    · obtain rfl : k = 0 := by omega
      have hd1 : decide (0 < ((0 : Nat) : Int)) = false := rfl
      simp only [wp_seq, seqQ_nrm, wp_reg, wp_skip, wp_block, blockQ_nrm, wo_nil, xo_q, wo_gF, wp_condT, wp_condF, putO, setT_some, v_mv, v_pk, pkV_F, v_bi, bi_lss, bi_gtr, ev_t, ev_c, Tr.setP_h, Tr.setP_l, Tr.setP_r, getT_h, getT_l, getT_r, Bool.not_true, Nat.zero_add, v_ixA1, roundQ_nrm, w68_2, w68_3, w68_4, w68_5, w68_6, w68_7, hd, hix, q8, hd1]
      exact ⟨28, by omega, (hIv _ _).2 ⟨1, M1, c1, [none, _, _, _, none, none, _, _, _, _, _, _, _, _, _, _, _, _, _, _, _, _, _, _, _, _, _, _, _, _, _], rfl, by omega, rfl, hi⟩⟩
  · have hd : decide ((k : Int) < 29) = false := decide_eq_false (by omega)
    obtain rfl : k = 29 := by omega
    simp only [wp_seq, seqQ_nrm, seqQ_ext, wp_reg, wp_exit, blockQ_ext, wo_nil, xo_q, wp_condF, putO, v_bi, bi_lss, ev_t, ev_c, Tr.setP_h, Tr.setP_r, getT_h, getT_l, getT_r, endQ_nrm, endO, resV_nil', if_true, roundQ_ext, w68_2, w68_7, hd]
    exact .inl hi
noncomputable def b22_1 : CC := (.reg [⟨(some (.l .h)), .a (.bx 9 1 (.t .h)), none⟩, ⟨(some (.r .h)), .a (.al 24 [(.i .i64 0)]), none⟩, ⟨(some (.l (.l .h))), .a (.al 4 [(.b false)]), none⟩])
def w22_1 := @wp_unf _ _ b22_1.eq_1
noncomputable def b22_2 : CC := (.reg [⟨(some (.r (.l .h))), .q (.mv (.t (.l (.l (.l .h))))), none⟩])
def w22_2 := @wp_unf _ _ b22_2.eq_1
noncomputable def b22_3 : CC := (.reg [⟨(some (.l (.r .h))), .q (.mv (.t (.r (.l (.l .h))))), none⟩])
def w22_3 := @wp_unf _ _ b22_3.eq_1
noncomputable def b22_4 : CC := (.reg [⟨(some (.l (.r (.l .h)))), .q (.mv (.t (.l (.r .h)))), none⟩, ⟨(some (.r (.r (.l .h)))), .q (.ld1 (.t (.l .h))), none⟩, ⟨(some (.l (.l (.r .h)))), .q (.bi .eql (.t (.l (.r (.l .h)))) (.t (.r (.r (.l .h))))), none⟩])
def w22_4 := @wp_unf _ _ b22_4.eq_1
noncomputable def b22_5 : CC := (.reg [⟨(some (.r (.l (.r .h)))), .q (.mv (.t (.r (.l .h)))), none⟩, ⟨none, .e (.st 1 (.t (.r .h)) (.t (.r (.l (.r .h))))), none⟩, ⟨none, .e (.st 1 (.t (.l (.l .h))) (.c (.b true))), none⟩])
def w22_5 := @wp_unf _ _ b22_5.eq_1
noncomputable def b22_6 : CC := (.seq b22_4 (.cond (.t (.l (.l (.r .h)))) (.seq b22_5 .ret) .skip))
def w22_6 := @wp_unf _ _ b22_6.eq_1
noncomputable def b22_7 : CC := (.rf (.t (.r (.r .h))) [(.l (.l (.l .h))), (.r (.l (.l .h)))] (.seq b22_2 b22_3) (.block 1 b22_6))
def w22_7 := @wp_unf _ _ b22_7.eq_1
noncomputable def b22_8 : CC := (.seq (.reg [⟨(some (.r (.r .h))), .e (.call 52 []), none⟩]) (.block 0 b22_7))
def w22_8 := @wp_unf _ _ b22_8.eq_1
noncomputable def b22_9 : CC := (.reg [⟨none, .e (.st 1 (.t (.r .h)) (.c (.i .i64 0))), none⟩, ⟨none, .e (.st 1 (.t (.l (.l .h))) (.c (.b false))), none⟩])
def w22_9 := @wp_unf _ _ b22_9.eq_1
noncomputable def c22 : CF := .mk 4 [.c1 (.r .h), .c1 (.l (.l .h))] (.seq b22_1 (.seq b22_8 (.seq b22_9 .ret)))
theorem e22 (v0 : V) : argTr 4 [v0] = (.n (.n (.n (.n .e none .e) none (.n .e none .e)) none (.n (.n .e none .e) none (.n .e none .e))) (some v0) (.n (.n (.n .e none .e) none (.n .e none .e)) none (.n (.n .e none .e) none (.n .e none .e)))) := rfl
def IsN (s : List UInt8) (k : Nat) : Prop := 1 ≤ k ∧ nameL[k]? = some s
theorem isN_uniq {s : List UInt8} {j k : Nat} (h : IsN s j) (h' : IsN s k) : j = k := by
  obtain ⟨_, h1⟩ := h
  obtain ⟨_, h2⟩ := h'
  obtain ⟨a1, e1⟩ := List.getElem?_eq_some_iff.1 h1
  obtain ⟨a2, e2⟩ := List.getElem?_eq_some_iff.1 h2
  have key : ∀ a b, a < 29 → b < 29 → nameL[a]? = nameL[b]? → a = b := by
    have : ∀ a, a < 29 → ∀ b, b < 29 → nameL[a]? = nameL[b]? → a = b := by decide +kernel
    exact fun a b ha hb => this a ha b hb
  exact key j k a1 a2 (h1.trans h2.symm)
def FoundN (s : List UInt8) (n : Int) (b : Bool) : Prop := (∃ k, IsN s k ∧ n = (k : Int) ∧ b = true) ∨ ((∀ k, ¬ IsN s k) ∧ n = 0 ∧ b = false)
theorem found_uniq {s : List UInt8} {n n' : Int} {b b' : Bool} (h : FoundN s n b) (h' : FoundN s n' b') : n = n' ∧ b = b' := by
  rcases h with ⟨k, h1, rfl, rfl⟩ | ⟨h1, rfl, rfl⟩
  · rcases h' with ⟨k', h2, rfl, rfl⟩ | ⟨h2, rfl, rfl⟩
    · rw [isN_uniq h1 h2]; exact ⟨rfl, rfl⟩
    · exact absurd h1 (h2 k)
  · rcases h' with ⟨k', h2, rfl, rfl⟩ | ⟨h2, rfl, rfl⟩
    · exact absurd h2 (h1 k')
    · exact ⟨rfl, rfl⟩
theorem r22 (Φ : Nat → Option CF) (h : Φ 22 = some c22) (h52 : Φ 52 = some (.orc (pureO h52))) (h53 : Φ 53 = some (.orc (pureO h53))) (h68 : Φ 68 = some c68) {F : RO} {M : Mem} {c : Nat} (s : List UInt8) (ok : Okm F M c) :
    Calls Φ F 22 [sV s] M c fun r M' c' => (∃ n b, r = .t [.i .i64 n, .b b] ∧ FoundN s n b) ∧ Gr c M c' M' := by
  refine calls_walk h ?_
  have f1 : flatten (sV s) = [sV s] := rfl
  have f2 : isOne (sV s) = true := rfl
  simp only [wp_seq, seqQ_nrm, wp_reg, wp_block, wo_nil, xo_a, xo_e, putA, putE, xo_call, callC_orc, ev_t, evs_nil, Tr.setP_h, Tr.setP_l, Tr.setP_r, getT_h, if_true, pureO_of, ofO_some, allOne_nil, allOne_cons, isOne_b, isOne_i, Bool.and_true, List.length_cons, List.length_nil, Nat.reduceAdd, Nat.zero_add, and_self, a_al_eq, a_bx_eq, Nat.add_assoc, e22, w22_1, w22_7, w22_8, f1, f2, h52, h52_eq]
  refine wp_rf0 ?_
  simp only [ev_t, getT_h, getT_r, Nat.reduceAdd, List.nil_append, List.append_nil, Nat.add_assoc, callI_f]
  obtain ⟨BL, hBL⟩ : ∃ BL : LS → Pend → Blk, BL = fun st p => Blk.loop st p 22 ((.n (.n (.n (.n .e none .e) (some (.p (c + 2) 0)) (.n .e none .e)) (some (.p c 0)) (.n (.n .e none .e) none (.n .e none .e))) (some (sV s)) (.n (.n (.n .e none .e) none (.n .e none .e)) (some (.p (c + 1) 0)) (.n (.n .e none .e) (some (.f 68 [] [])) (.n .e none .e))))) [(.l (.l (.l .h))), (.r (.l (.l .h)))] (b22_2.seq b22_3) (.block 1 b22_6) (c + 3) := ⟨_, rfl⟩
  obtain ⟨Ik, hIk⟩ : ∃ I : Nat → Mem → Nat → Prop, ∀ k M' cc, I k M' cc ↔ (Gr c M cc M' ∧ c + 5 ≤ cc ∧ M'.get c = some (rowB 9 [sV s]) ∧ M'.get (c + 1) = some (rowB 24 [.i .i64 0]) ∧ M'.get (c + 2) = some (rowB 4 [.b false]) ∧ M'.get (c + 3) = some (.defs false) ∧ M'.get (c + 4) = some (BL .ready .none) ∧ ∀ j, j < k → ¬ IsN s j) := ⟨fun k M' cc => _, fun _ _ _ => Iff.rfl⟩
  obtain ⟨J, hJ⟩ : ∃ J : Mem → Nat → Prop, ∀ M' cc, J M' cc ↔ (∃ k, IsN s k ∧ Gr c M cc M' ∧ c + 5 ≤ cc ∧ M'.get (c + 1) = some (rowB 24 [.i .i64 (k : Int)]) ∧ M'.get (c + 2) = some (rowB 4 [.b true]) ∧ M'.get (c + 3) = some (.defs false) ∧ M'.get (c + 4) = some (BL .done .ret)) := ⟨fun M' cc => _, fun _ _ => Iff.rfl⟩
  refine (r68 Φ h68 h53 (y := c + 4) (I := Ik) (J := J) ?_ ?_).mono ?_
  · refine (hIk _ _ _).2 ⟨(((((Gr.refl ok).set (c2 := c + 1) c _ (Nat.le_refl _) (by omega) (by omega)).set (c2 := c + 2) (c + 1) _ (by omega) (by omega) (by omega)).set (c2 := c + 3) (c + 2) _ (by omega) (by omega) (by omega)).set (c2 := c + 4) (c + 3) _ (by omega) (by omega) (by omega)).set (c + 4) _ (by omega) (by omega) (by omega), by omega, ?_, ?_, ?_, ?_, ?_, fun j hj hn => by have := hn.1; omega⟩
    · rw [get_ne _ _ (by omega), get_ne _ _ (by omega), get_ne _ _ (by omega), get_ne _ _ (by omega)]; exact get_same _ _ _
    · rw [get_ne _ _ (by omega), get_ne _ _ (by omega), get_ne _ _ (by omega)]; exact get_same _ _ _
    · rw [get_ne _ _ (by omega), get_ne _ _ (by omega)]; exact get_same _ _ _
    · rw [get_ne _ _ (by omega)]; exact get_same _ _ _
    · rw [hBL]; exact get_same _ _ _
  · intro k M2 cc hk hk1 hi
    obtain ⟨a1, a2, a3, a4, a5, a6, a7, a8⟩ := (hIk _ _ _).1 hi
    have hl5 := a7
    rw [hBL] at hl5
    refine yield_of hl5 (setParams_two _ _ _ _ _) ?_
    simp only [wp_seq, seqQ_nrm, wp_reg, wo_nil, xo_q, putO, v_mv, ev_t, Tr.setP_h, Tr.setP_l, Tr.setP_r, getT_h, getT_l, getT_r, w22_2, w22_3]
    refine asgQ_of hl5 ?_
    rw [show Blk.loop LS.busy _ _ _ _ _ _ _ = BL .busy .none by rw [hBL]]
    have gMB := a1.set (c2 := cc) (c + 4) (BL .busy .none) (by omega) (by omega) (Nat.le_refl _)
    have m3 : (M2.set (c + 4) (BL .busy .none)).get c = some (rowB 9 [sV s]) := (get_ne _ _ (by omega)).trans a3
    have m4 : (M2.set (c + 4) (BL .busy .none)).get (c + 1) = some (rowB 24 [.i .i64 0]) := (get_ne _ _ (by omega)).trans a4
    have m5 : (M2.set (c + 4) (BL .busy .none)).get (c + 2) = some (rowB 4 [.b false]) := (get_ne _ _ (by omega)).trans a5
    have m6 : (M2.set (c + 4) (BL .busy .none)).get (c + 3) = some (.defs false) := (get_ne _ _ (by omega)).trans a6
    have m7 : (M2.set (c + 4) (BL .busy .none)).get (c + 4) = some (BL .busy .none) := get_same _ _ _
    generalize M2.set (c + 4) (BL .busy .none) = MB at gMB m3 m4 m5 m6 m7 ⊢
    have l3 : load1 F MB c 0 = some (sV s) := load_row m3 0
    by_cases he : nameL[k]'hk = s
    · have d1 : decide (nameL[k]'hk = s) = true := decide_eq_true he
      have hs1 := store_row m4 0 [.i .i64 (k : Int)] (by simp) rfl
      have m5' : (MB.set (c + 1) (rowB 24 [.i .i64 (k : Int)])).get (c + 2) = some (rowB 4 [.b false]) := (get_ne _ _ (by omega)).trans m5
      have hs2 := store_row m5' 0 [.b true] (by simp) rfl
      simp only [wp_seq, seqQ_nrm, wp_reg, wp_ret, wp_block, blockQ_ret, wo_nil, xo_q, xo_e0, wp_condT, putO, putE0, v_mv, v_bi, v_ld1, ld1_p, e_st_eq, er_some, ev_t, ev_c, Tr.setP_h, Tr.setP_l, Tr.setP_r, getT_h, getT_l, getT_r, if_true, flatten_b, flatten_i, over_nil, over_cons, List.set_cons_zero, List.length_cons, List.length_nil, Nat.zero_add, bi_seq, w22_4, w22_5, w22_6, l3, d1, hs1, hs2]
      have hly : ((MB.set (c + 1) (rowB 24 [V.i .i64 (k : Int)])).set (c + 2) (rowB 4 [V.b true])).get (c + 4) = some (BL .busy .none) := by rw [get_ne _ _ (by omega), get_ne _ _ (by omega)]; exact m7
      rw [hBL] at hly
      refine yq_ret hly ?_
      refine Or.inr ⟨rfl, (hJ _ _).2 ⟨k, ⟨hk1, ?_⟩, ((gMB.set (c + 1) _ (by omega) (by omega) (Nat.le_refl _)).set (c + 2) _ (by omega) (by omega) (Nat.le_refl _)).set (c + 4) _ (by omega) (by omega) (Nat.le_refl _), a2, ?_, ?_, ?_, ?_⟩⟩
      · exact (List.getElem?_eq_getElem (show k < nameL.length from hk)).trans (congrArg some he)
      · rw [get_ne _ _ (by omega), get_ne _ _ (by omega)]; exact get_same _ _ _
      · rw [get_ne _ _ (by omega)]; exact get_same _ _ _
      · rw [get_ne _ _ (by omega), get_ne _ _ (by omega), get_ne _ _ (by omega)]; exact m6
      · rw [hBL]; exact get_same _ _ _
    · have d1 : decide (nameL[k]'hk = s) = false := decide_eq_false he
      simp only [wp_seq, seqQ_nrm, wp_reg, wp_skip, wp_block, blockQ_nrm, wo_nil, xo_q, wp_condF, putO, v_mv, v_bi, v_ld1, ld1_p, ev_t, Tr.setP_h, Tr.setP_l, Tr.setP_r, getT_h, getT_l, getT_r, bi_seq, w22_4, w22_6, l3, d1]
      have hly := m7
      rw [hBL] at hly
      refine yq_nrm hly ?_
      refine Or.inl ⟨rfl, (hIk _ _ _).2 ⟨gMB.set (c + 4) _ (by omega) (by omega) (Nat.le_refl _), a2, ?_, ?_, ?_, ?_, ?_, fun j hj hn => ?_⟩⟩
      · rw [get_ne _ _ (by omega)]; exact m3
      · rw [get_ne _ _ (by omega)]; exact m4
      · rw [get_ne _ _ (by omega)]; exact m5
      · rw [get_ne _ _ (by omega)]; exact m6
      · rw [hBL]; exact get_same _ _ _
      · by_cases hjk : j = k
        · subst hjk
          have := hn.2
          rw [List.getElem?_eq_getElem (show j < nameL.length from hk)] at this
          exact he (Option.some.inj this)
        · exact a8 j (by omega) hn
  · rintro v' M2 cc (hi | hj)
    · obtain ⟨a1, a2, a3, a4, a5, a6, a7, a8⟩ := (hIk _ _ _).1 hi
      have hl5 := a7
      rw [hBL] at hl5
      refine ⟨_, _, _, _, _, _, _, _, hl5, (by intro h; cases h), ?_⟩
      rw [show Blk.loop LS.exhausted _ _ _ _ _ _ _ = BL .exhausted .none by rw [hBL]]
      have gMB := a1.set (c2 := cc) (c + 4) (BL .exhausted .none) (by omega) (by omega) (Nat.le_refl _)
      have m4 : (M2.set (c + 4) (BL .exhausted .none)).get (c + 1) = some (rowB 24 [.i .i64 0]) := (get_ne _ _ (by omega)).trans a4
      have m5 : (M2.set (c + 4) (BL .exhausted .none)).get (c + 2) = some (rowB 4 [.b false]) := (get_ne _ _ (by omega)).trans a5
      have m6 : (M2.set (c + 4) (BL .exhausted .none)).get (c + 3) = some (.defs false) := (get_ne _ _ (by omega)).trans a6
      generalize M2.set (c + 4) (BL .exhausted .none) = MB at gMB m4 m5 m6 ⊢
      have hs1 := store_row m4 0 [.i .i64 0] (by simp) rfl
      have m5' : (MB.set (c + 1) (rowB 24 [.i .i64 0])).get (c + 2) = some (rowB 4 [.b false]) := (get_ne _ _ (by omega)).trans m5
      have hs2 := store_row m5' 0 [.b false] (by simp) rfl
      have ht1 : takeDefs [c + 3] ((MB.set (c + 1) (rowB 24 [V.i .i64 0])).set (c + 2) (rowB 4 [V.b false])) = some (((MB.set (c + 1) (rowB 24 [V.i .i64 0])).set (c + 2) (rowB 4 [V.b false])).set (c + 3) (.defs true)) := by
        rw [takeDefs_one (by rw [get_ne _ _ (by omega), get_ne _ _ (by omega)]; exact m6)]; rfl
      simp only [wp_seq, seqQ_nrm, wp_reg, wp_ret, blockQ_nrm, wo_nil, xo_e0, putE0, load1_same, e_st_eq, er_some, ev_t, ev_c, getT_h, getT_l, getT_r, Nat.reduceBEq, List.getElem?_cons_zero, endO, resV_nil', consO_some, oneV_two, if_true, flatten_b, flatten_i, over_nil, over_cons, List.set_cons_zero, List.length_cons, List.length_nil, Nat.zero_add, resV_c1, load1_ne, ne_add, w22_9, pendEx_none, hs1, hs2, endQ_ret1, ht1, endD_some, resV_c1]
      refine ⟨⟨0, false, rfl, .inr ⟨fun j hj => ?_, rfl, rfl⟩⟩, ((gMB.set (c + 1) _ (by omega) (by omega) (Nat.le_refl _)).set (c + 2) _ (by omega) (by omega) (Nat.le_refl _)).set (c + 3) _ (by omega) (by omega) (Nat.le_refl _)⟩
      by_cases hj29 : j < 29
      · exact a8 j hj29 hj
      · have := hj.2
        rw [List.getElem?_eq_none (show nameL.length ≤ j by rw [nameL_len]; omega)] at this
        cases this
    · obtain ⟨k, hk, a1, a2, a4, a5, a6, a7⟩ := (hJ _ _).1 hj
      have hl5 := a7
      rw [hBL] at hl5
      refine ⟨_, _, _, _, _, _, _, _, hl5, (by intro h; cases h), ?_⟩
      rw [show Blk.loop LS.exhausted _ _ _ _ _ _ _ = BL .exhausted .ret by rw [hBL]]
      have gMB := a1.set (c2 := cc) (c + 4) (BL .exhausted .ret) (by omega) (by omega) (Nat.le_refl _)
      have m4 : (M2.set (c + 4) (BL .exhausted .ret)).get (c + 1) = some (rowB 24 [.i .i64 (k : Int)]) := (get_ne _ _ (by omega)).trans a4
      have m5 : (M2.set (c + 4) (BL .exhausted .ret)).get (c + 2) = some (rowB 4 [.b true]) := (get_ne _ _ (by omega)).trans a5
      have m6 : (M2.set (c + 4) (BL .exhausted .ret)).get (c + 3) = some (.defs false) := (get_ne _ _ (by omega)).trans a6
      generalize M2.set (c + 4) (BL .exhausted .ret) = MB at gMB m4 m5 m6 ⊢
      have ht1 : takeDefs [c + 3] MB = some (MB.set (c + 3) (.defs true)) := by
        rw [takeDefs_one m6]; rfl
      have l4 : load1 F (MB.set (c + 3) (.defs true)) (c + 1) 0 = some (.i .i64 (k : Int)) := load_row ((get_ne _ _ (by omega)).trans m4) 0
      have l5 : load1 F (MB.set (c + 3) (.defs true)) (c + 2) 0 = some (.b true) := load_row ((get_ne _ _ (by omega)).trans m5) 0
      simp only [seqQ_ret, blockQ_ret, getT_h, getT_l, getT_r, endO, resV_nil', consO_some, oneV_two, resV_c1, pendEx_ret, endQ_ret1, ht1, endD_some, resV_c1, l4, l5]
      exact ⟨⟨k, true, rfl, .inl ⟨k, hk, rfl, rfl⟩⟩, gMB.set (c + 3) _ (by omega) (by omega) (Nat.le_refl _)⟩
end Go.Proofs.YtffpeieapadocaaGreatDoor.Ev
set_option maxRecDepth 10000
set_option maxHeartbeats 16000000
namespace Go.Proofs.YtffpeieapadocaaGreatDoor.Ev
open Go
noncomputable def b29_1 : CC := (.reg [⟨(some (.r (.l .h))), .q (.mv (.c (.b false))), none⟩])
def w29_1 := @wp_unf _ _ b29_1.eq_1
noncomputable def b29_2 : CC := (.reg [⟨(some (.r (.r .h))), .q (.mv (.t .h)), none⟩, ⟨(some (.l (.l (.l .h)))), .q (.ln .slice (.t (.r (.r .h)))), none⟩, ⟨(some (.r (.l (.l .h)))), .q (.mv (.t (.l .h))), none⟩, ⟨(some (.l (.r (.l .h)))), .q (.ln .slice (.t (.r (.l (.l .h))))), none⟩, ⟨(some (.r (.r (.l .h)))), .q (.bi .neq (.t (.l (.l (.l .h)))) (.t (.l (.r (.l .h))))), none⟩])
def w29_2 := @wp_unf _ _ b29_2.eq_1
noncomputable def b29_3 : CC := (.reg [⟨(some (.r (.l .h))), .q (.mv (.c (.b false))), none⟩])
def w29_3 := @wp_unf _ _ b29_3.eq_1
noncomputable def b29_4 : CC := (.seq b29_2 (.cond (.t (.r (.r (.l .h)))) (.seq b29_3 .ret) .skip))
def w29_4 := @wp_unf _ _ b29_4.eq_1
noncomputable def b29_5 : CC := (.reg [⟨(some (.l (.r .h))), .q (.mv (.c (.i .i64 0))), none⟩])
def w29_5 := @wp_unf _ _ b29_5.eq_1
noncomputable def b29_6 : CC := (.reg [⟨(some (.l (.l (.r .h)))), .q (.mv (.t (.l (.r .h)))), none⟩, ⟨(some (.r (.l (.r .h)))), .q (.mv (.t .h)), none⟩, ⟨(some (.l (.r (.r .h)))), .q (.ln .slice (.t (.r (.l (.r .h))))), none⟩, ⟨(some (.r (.r (.r .h)))), .q (.bi .lss (.t (.l (.l (.r .h)))) (.t (.l (.r (.r .h))))), none⟩])
def w29_6 := @wp_unf _ _ b29_6.eq_1
noncomputable def b29_7 : CC := (.dreg 9 [(0, 0, ⟨(some (.l (.r (.l (.l .h))))), .q (.mv (.t .h)), none⟩), (1, 0, ⟨(some (.r (.r (.l (.l .h))))), .q (.mv (.t (.l (.r .h)))), none⟩), (2, 3, ⟨(some (.l (.l (.r (.l .h))))), .q (.iaS 1 (.t (.l (.r (.l (.l .h))))) (.t (.r (.r (.l (.l .h)))))), none⟩), (3, 7, ⟨(some (.r (.l (.r (.l .h))))), .q (.ld1 (.t (.l (.l (.r (.l .h)))))), none⟩), (4, 0, ⟨(some (.l (.r (.r (.l .h))))), .q (.mv (.t (.l .h))), none⟩), (5, 0, ⟨(some (.r (.r (.r (.l .h))))), .q (.mv (.t (.l (.r .h)))), none⟩), (6, 48, ⟨(some (.l (.l (.l (.r .h))))), .q (.iaS 1 (.t (.l (.r (.r (.l .h))))) (.t (.r (.r (.r (.l .h)))))), none⟩), (7, 112, ⟨(some (.r (.l (.l (.r .h))))), .q (.ld1 (.t (.l (.l (.l (.r .h)))))), none⟩), (8, 255, ⟨(some (.l (.r (.l (.r .h))))), .q (.bi .neq (.t (.r (.l (.r (.l .h))))) (.t (.r (.l (.l (.r .h)))))), none⟩)])
def w29_7 := @wp_unf _ _ b29_7.eq_1
noncomputable def b29_8 : CC := (.reg [⟨(some (.r (.l .h))), .q (.mv (.c (.b false))), none⟩])
def w29_8 := @wp_unf _ _ b29_8.eq_1
noncomputable def b29_9 : CC := (.seq b29_7 (.cond (.t (.l (.r (.l (.r .h))))) (.seq b29_8 .ret) .skip))
def w29_9 := @wp_unf _ _ b29_9.eq_1
noncomputable def b29_10 : CC := (.reg [⟨(some (.l (.l (.l (.l .h))))), .q (.mv (.t (.l (.r .h)))), none⟩, ⟨(some (.r (.l (.l (.l .h))))), .q (.bi .add (.t (.l (.l (.l (.l .h))))) (.c (.i .i64 1))), none⟩, ⟨(some (.l (.r .h))), .q (.mv (.t (.r (.l (.l (.l .h)))))), none⟩])
def w29_10 := @wp_unf _ _ b29_10.eq_1
noncomputable def b29_11 : CC := (.seq (.seq b29_6 (.cond (.t (.r (.r (.r .h)))) .skip (.exit 0))) (.seq (.block 1 b29_9) b29_10))
def w29_11 := @wp_unf _ _ b29_11.eq_1
noncomputable def b29_12 : CC := (.reg [⟨(some (.r (.l .h))), .q (.mv (.c (.b true))), none⟩])
def w29_12 := @wp_unf _ _ b29_12.eq_1
noncomputable def b29_13 : CC := (.seq (.seq b29_5 (.block 0 (.loop b29_11))) (.seq b29_12 .ret))
def w29_13 := @wp_unf _ _ b29_13.eq_1
noncomputable def c29 : CF := .mk 5 [.t (.r (.l .h))] (.seq b29_1 (.seq b29_4 b29_13))
theorem e29 (v0 v1 : V) : argTr 5 [v0, v1] = (.n (.n (.n (.n (.n .e none .e) none (.n .e none .e)) none (.n (.n .e none .e) none (.n .e none .e))) (some v1) (.n (.n (.n .e none .e) none (.n .e none .e)) none (.n (.n .e none .e) none (.n .e none .e)))) (some v0) (.n (.n (.n (.n .e none .e) none (.n .e none .e)) none (.n (.n .e none .e) none (.n .e none .e))) none (.n (.n (.n .e none .e) none (.n .e none .e)) none (.n (.n .e none .e) none (.n .e none .e))))) := rfl
noncomputable def b108_1 : CC := (.reg [⟨(some (.l (.l .h))), .q (.mv (.t .h)), none⟩, ⟨(some (.r (.l .h))), .q (.mv (.t .h)), none⟩, ⟨(some (.l (.r .h))), .q (.bi .neq (.t (.l (.l .h))) (.t (.r (.l .h)))), none⟩, ⟨(some (.r .h)), .q (.mv (.t (.l (.r .h)))), none⟩])
def w108_1 := @wp_unf _ _ b108_1.eq_1
noncomputable def b108_2 : CC := (.seq (.reg [⟨(some (.r .h)), .q (.mv (.c (.b false))), none⟩]) (.seq b108_1 .ret))
def w108_2 := @wp_unf _ _ b108_2.eq_1
noncomputable def c108 : CF := .mk 3 [.t (.r .h)] b108_2
theorem e108 (v0 : V) : argTr 3 [v0] = (.n (.n (.n .e none .e) none (.n .e none .e)) (some v0) (.n (.n .e none .e) none (.n .e none .e))) := rfl
noncomputable def b85_1 : CC := (.reg [⟨(some (.r (.l .h))), .q (.mv (.c (.b false))), none⟩])
def w85_1 := @wp_unf _ _ b85_1.eq_1
noncomputable def b85_2 : CC := (.reg [⟨(some (.l (.r .h))), .q (.mv (.t .h)), none⟩, ⟨(some (.r (.r .h))), .e (.call 108 [(.t (.l (.r .h)))]), none⟩, ⟨(some (.l (.l (.l .h)))), .q (.mv (.t (.r (.r .h)))), none⟩, ⟨(some (.r (.l (.l .h)))), .q (.mv (.t (.l .h))), (some ((.l (.l (.l .h))), true))⟩, ⟨(some (.l (.r (.l .h)))), .e (.call 108 [(.t (.r (.l (.l .h))))]), (some ((.l (.l (.l .h))), true))⟩, ⟨(some (.r (.r (.l .h)))), .q (.un .not (.t (.l (.r (.l .h))))), (some ((.l (.l (.l .h))), true))⟩, ⟨(some (.l (.l (.r .h)))), .q (.pk (.t (.l (.l (.l .h)))) (.t (.r (.r (.l .h)))) (.c (.b false))), none⟩, ⟨(some (.r (.l (.r .h)))), .q (.mv (.t (.l (.l (.r .h))))), none⟩, ⟨(some (.l (.r (.r .h)))), .q (.mv (.t .h)), (some ((.r (.l (.r .h))), false))⟩, ⟨(some (.r (.r (.r .h)))), .q (.mv (.t (.l .h))), (some ((.r (.l (.r .h))), false))⟩, ⟨(some (.l (.l (.l (.l .h))))), .q (.bi .lss (.t (.l (.r (.r .h)))) (.t (.r (.r (.r .h))))), (some ((.r (.l (.r .h))), false))⟩, ⟨(some (.r (.l (.l (.l .h))))), .q (.pk (.t (.r (.l (.r .h)))) (.c (.b true)) (.t (.l (.l (.l (.l .h)))))), none⟩, ⟨(some (.r (.l .h))), .q (.mv (.t (.r (.l (.l (.l .h)))))), none⟩])
def w85_2 := @wp_unf _ _ b85_2.eq_1
noncomputable def c85 : CF := .mk 5 [.t (.r (.l .h))] (.seq b85_1 (.seq b85_2 .ret))
theorem e85 (v0 v1 : V) : argTr 5 [v0, v1] = (.n (.n (.n (.n (.n .e none .e) none (.n .e none .e)) none (.n (.n .e none .e) none (.n .e none .e))) (some v1) (.n (.n (.n .e none .e) none (.n .e none .e)) none (.n (.n .e none .e) none (.n .e none .e)))) (some v0) (.n (.n (.n (.n .e none .e) none (.n .e none .e)) none (.n (.n .e none .e) none (.n .e none .e))) none (.n (.n (.n .e none .e) none (.n .e none .e)) none (.n (.n .e none .e) none (.n .e none .e))))) := rfl
noncomputable def b89_1 : CC := (.reg [⟨(some (.l (.l .h))), .q (.mv (.t .h)), none⟩, ⟨(some (.r (.l .h))), .q (.bi .geq (.t (.l (.l .h))) (.c (.i .u64 4294967296))), none⟩])
def w89_1 := @wp_unf _ _ b89_1.eq_1
noncomputable def b89_2 : CC := (.reg [⟨(some (.l (.r .h))), .q (.mv (.t .h)), none⟩, ⟨(some (.r (.r .h))), .q (.bi .shr (.t (.l (.r .h))) (.c (.i .u64 32))), none⟩, ⟨(some .h), .q (.mv (.t (.r (.r .h)))), none⟩])
noncomputable def b89_3 : CC := (.seq b89_2 (.reg [⟨(some (.r .h)), .q (.mv (.c (.i .i64 32))), none⟩]))
noncomputable def b89_4 : CC := (.reg [⟨(some (.l (.l (.l .h)))), .q (.mv (.t .h)), none⟩, ⟨(some (.r (.l (.l .h)))), .q (.bi .geq (.t (.l (.l (.l .h)))) (.c (.i .u64 65536))), none⟩])
def w89_4 := @wp_unf _ _ b89_4.eq_1
noncomputable def b89_5 : CC := (.reg [⟨(some (.l (.r (.l .h)))), .q (.mv (.t .h)), none⟩, ⟨(some (.r (.r (.l .h)))), .q (.bi .shr (.t (.l (.r (.l .h)))) (.c (.i .u64 16))), none⟩, ⟨(some .h), .q (.mv (.t (.r (.r (.l .h))))), none⟩])
noncomputable def b89_6 : CC := (.reg [⟨(some (.l (.l (.r .h)))), .q (.mv (.t (.r .h))), none⟩, ⟨(some (.r (.l (.r .h)))), .q (.bi .add (.t (.l (.l (.r .h)))) (.c (.i .i64 16))), none⟩, ⟨(some (.r .h)), .q (.mv (.t (.r (.l (.r .h))))), none⟩])
noncomputable def b89_7 : CC := (.seq b89_4 (.cond (.t (.r (.l (.l .h)))) (.seq b89_5 b89_6) .skip))
def w89_7 := @wp_unf _ _ b89_7.eq_1
noncomputable def b89_8 : CC := (.reg [⟨(some (.l (.r (.r .h)))), .q (.mv (.t .h)), none⟩, ⟨(some (.r (.r (.r .h)))), .q (.bi .geq (.t (.l (.r (.r .h)))) (.c (.i .u64 256))), none⟩])
def w89_8 := @wp_unf _ _ b89_8.eq_1
noncomputable def b89_9 : CC := (.reg [⟨(some (.l (.l (.l (.l .h))))), .q (.mv (.t .h)), none⟩, ⟨(some (.r (.l (.l (.l .h))))), .q (.bi .shr (.t (.l (.l (.l (.l .h))))) (.c (.i .u64 8))), none⟩, ⟨(some .h), .q (.mv (.t (.r (.l (.l (.l .h)))))), none⟩])
noncomputable def b89_10 : CC := (.reg [⟨(some (.l (.r (.l (.l .h))))), .q (.mv (.t (.r .h))), none⟩, ⟨(some (.r (.r (.l (.l .h))))), .q (.bi .add (.t (.l (.r (.l (.l .h))))) (.c (.i .i64 8))), none⟩, ⟨(some (.r .h)), .q (.mv (.t (.r (.r (.l (.l .h)))))), none⟩])
noncomputable def b89_11 : CC := (.seq b89_8 (.cond (.t (.r (.r (.r .h)))) (.seq b89_9 b89_10) .skip))
def w89_11 := @wp_unf _ _ b89_11.eq_1
noncomputable def b89_12 : CC := (.reg [⟨(some (.l (.l (.r (.l .h))))), .q (.mv (.t (.r .h))), none⟩, ⟨(some (.r (.l (.r (.l .h))))), .q (.mv (.t .h)), none⟩, ⟨(some (.l (.r (.r (.l .h))))), .q (.ci .u8 (.t (.r (.l (.r (.l .h)))))), none⟩, ⟨(some (.r (.r (.r (.l .h))))), .q (.ixS (.c (.s 256 1013866857139168856493015739252390649739422828853819106890363778118420553376247557433637691341895324351018602695588957474325319502760499485336098898398377509666851054660423406800006203933793007272033180812049178612605246075062580585469430410618860250057463399279570354286669047577758927328864388992123306212451509403152394148136105363817402562688186708175358218852349079190158732807302672745370040257219644697201681238697346923541678507645485296520536209706771857694240900605172937619415410180424934769249448772944216470541052485265558808433676546390051204254346932932316488017972311616136051587427851453983453479168)) (.t (.l (.r (.r (.l .h)))))), none⟩, ⟨(some (.l (.l (.l (.r .h))))), .q (.ci .i64 (.t (.r (.r (.r (.l .h)))))), none⟩, ⟨(some (.r (.l (.l (.r .h))))), .q (.bi .add (.t (.l (.l (.r (.l .h))))) (.t (.l (.l (.l (.r .h)))))), none⟩, ⟨(some (.r .h)), .q (.mv (.t (.r (.l (.l (.r .h)))))), none⟩])
def w89_12 := @wp_unf _ _ b89_12.eq_1
noncomputable def b89_13 : CC := (.seq (.seq b89_1 (.cond (.t (.r (.l .h))) b89_3 .skip)) (.seq b89_7 (.seq b89_11 (.seq b89_12 .ret))))
def w89_13 := @wp_unf _ _ b89_13.eq_1
noncomputable def b89_14 : CC := (.seq (.reg [⟨(some (.r .h)), .q (.mv (.c (.i .i64 0))), none⟩]) b89_13)
def w89_14 := @wp_unf _ _ b89_14.eq_1
noncomputable def c89 : CF := .mk 5 [.t (.r .h)] b89_14
theorem e89 (v0 : V) : argTr 5 [v0] = (.n (.n (.n (.n (.n .e none .e) none (.n .e none .e)) none (.n (.n .e none .e) none (.n .e none .e))) none (.n (.n (.n .e none .e) none (.n .e none .e)) none (.n (.n .e none .e) none (.n .e none .e)))) (some v0) (.n (.n (.n (.n .e none .e) none (.n .e none .e)) none (.n (.n .e none .e) none (.n .e none .e))) none (.n (.n (.n .e none .e) none (.n .e none .e)) none (.n (.n .e none .e) none (.n .e none .e))))) := rfl
noncomputable def b67_1 : CC := (.reg [⟨(some (.l (.l .h))), .q (.mv (.t .h)), none⟩, ⟨(some (.r (.l .h))), .q (.ci .u32 (.t (.l (.l .h)))), none⟩, ⟨(some (.l (.r .h))), .e (.call 88 [(.t (.r (.l .h)))]), none⟩, ⟨(some (.r .h)), .q (.mv (.t (.l (.r .h)))), none⟩])
noncomputable def b67_2 : CC := (.reg [⟨(some (.r (.r .h))), .q (.mv (.t .h)), none⟩, ⟨(some (.l (.l (.l .h)))), .e (.call 89 [(.t (.r (.r .h)))]), none⟩, ⟨(some (.r .h)), .q (.mv (.t (.l (.l (.l .h))))), none⟩])
def w67_2 := @wp_unf _ _ b67_2.eq_1
noncomputable def b67_3 : CC := (.seq (.cond (.c (.b false)) (.seq b67_1 .ret) .skip) (.seq b67_2 .ret))
def w67_3 := @wp_unf _ _ b67_3.eq_1
noncomputable def b67_4 : CC := (.seq (.reg [⟨(some (.r .h)), .q (.mv (.c (.i .i64 0))), none⟩]) b67_3)
def w67_4 := @wp_unf _ _ b67_4.eq_1
noncomputable def c67 : CF := .mk 4 [.t (.r .h)] b67_4
theorem e67 (v0 : V) : argTr 4 [v0] = (.n (.n (.n (.n .e none .e) none (.n .e none .e)) none (.n (.n .e none .e) none (.n .e none .e))) (some v0) (.n (.n (.n .e none .e) none (.n .e none .e)) none (.n (.n .e none .e) none (.n .e none .e)))) := rfl
noncomputable def b79_1 : CC := (.reg [⟨(some (.r (.l (.l .h)))), .q (.mv (.t (.l .h))), none⟩, ⟨(some (.l (.r (.l .h)))), .q (.bi .add (.t (.r (.l (.l .h)))) (.c (.i .i64 1))), none⟩, ⟨(some (.r (.r .h))), .q (.mv (.t (.l (.r (.l .h))))), none⟩])
def w79_1 := @wp_unf _ _ b79_1.eq_1
noncomputable def b79_2 : CC := (.reg [⟨(some (.r (.r (.l .h)))), .q (.mv (.t (.r (.r .h)))), none⟩, ⟨(some (.l (.l (.r .h)))), .q (.mv (.t (.r .h))), none⟩, ⟨(some (.r (.l (.r .h)))), .q (.bi .lss (.t (.r (.r (.l .h)))) (.t (.l (.l (.r .h))))), none⟩])
def w79_2 := @wp_unf _ _ b79_2.eq_1
noncomputable def b79_3 : CC := (.reg [⟨(some (.l (.l (.l (.l .h))))), .q (.mv (.t (.r (.r .h)))), none⟩, ⟨(some (.l (.l (.l .h)))), .q (.mv (.t (.l (.l (.l (.l .h)))))), none⟩])
def w79_3 := @wp_unf _ _ b79_3.eq_1
noncomputable def b79_4 : CC := (.dreg 15 [(0, 0, ⟨(some (.r (.l (.l (.l .h))))), .q (.mv (.t (.l (.l (.l .h))))), none⟩), (1, 0, ⟨(some (.l (.r (.l (.l .h))))), .q (.mv (.t (.l .h))), none⟩), (2, 3, ⟨(some (.r (.r (.l (.l .h))))), .q (.bi .gtr (.t (.r (.l (.l (.l .h))))) (.t (.l (.r (.l (.l .h)))))), none⟩), (3, 7, ⟨(some (.l (.l (.r (.l .h))))), .q (.mv (.t (.r (.r (.l (.l .h)))))), none⟩), (4, 15, ⟨(some (.r (.l (.r (.l .h))))), .q (.mv (.t .h)), (some ((.l (.l (.r (.l .h)))), true))⟩), (5, 15, ⟨(some (.l (.r (.r (.l .h))))), .q (.mv (.t (.l (.l (.l .h))))), (some ((.l (.l (.r (.l .h)))), true))⟩), (6, 63, ⟨(some (.r (.r (.r (.l .h))))), .q (.iaS 1 (.t (.r (.l (.r (.l .h))))) (.t (.l (.r (.r (.l .h)))))), (some ((.l (.l (.r (.l .h)))), true))⟩), (7, 127, ⟨(some (.l (.l (.l (.r .h))))), .q (.ld1 (.t (.r (.r (.r (.l .h)))))), (some ((.l (.l (.r (.l .h)))), true))⟩), (8, 15, ⟨(some (.r (.l (.l (.r .h))))), .q (.mv (.t .h)), (some ((.l (.l (.r (.l .h)))), true))⟩), (9, 15, ⟨(some (.l (.r (.l (.r .h))))), .q (.mv (.t (.l (.l (.l .h))))), (some ((.l (.l (.r (.l .h)))), true))⟩), (10, 527, ⟨(some (.r (.r (.l (.r .h))))), .q (.bi .sub (.t (.l (.r (.l (.r .h))))) (.c (.i .i64 1))), (some ((.l (.l (.r (.l .h)))), true))⟩), (11, 1807, ⟨(some (.l (.l (.r (.r .h))))), .q (.iaS 1 (.t (.r (.l (.l (.r .h))))) (.t (.r (.r (.l (.r .h)))))), (some ((.l (.l (.r (.l .h)))), true))⟩), (12, 3855, ⟨(some (.r (.l (.r (.r .h))))), .q (.ld1 (.t (.l (.l (.r (.r .h)))))), (some ((.l (.l (.r (.l .h)))), true))⟩), (13, 8191, ⟨(some (.l (.r (.r (.r .h))))), .e (.call 85 [(.t (.l (.l (.l (.r .h))))), (.t (.r (.l (.r (.r .h)))))]), (some ((.l (.l (.r (.l .h)))), true))⟩), (14, 16383, ⟨(some (.r (.r (.r (.r .h))))), .q (.pk (.t (.l (.l (.r (.l .h))))) (.t (.l (.r (.r (.r .h))))) (.c (.b false))), none⟩)])
def w79_4 := @wp_unf _ _ b79_4.eq_1
noncomputable def b79_5 : CC := (.seq b79_4 (.cond (.t (.r (.r (.r (.r .h))))) .skip (.exit 2)))
def w79_5 := @wp_unf _ _ b79_5.eq_1
noncomputable def b79_6 : CC := (.dreg 18 [(0, 0, ⟨(some (.l (.r (.l (.l (.l .h)))))), .q (.mv (.t .h)), none⟩), (1, 0, ⟨(some (.r (.r (.l (.l (.l .h)))))), .q (.mv (.t (.l (.l (.l .h))))), none⟩), (2, 0, ⟨(some (.l (.l (.r (.l (.l .h)))))), .q (.mv (.t .h)), none⟩), (3, 0, ⟨(some (.r (.l (.r (.l (.l .h)))))), .q (.mv (.t (.l (.l (.l .h))))), none⟩), (4, 8, ⟨(some (.l (.r (.r (.l (.l .h)))))), .q (.bi .sub (.t (.r (.l (.r (.l (.l .h)))))) (.c (.i .i64 1))), none⟩), (5, 0, ⟨(some (.r (.r (.r (.l (.l .h)))))), .q (.mv (.t .h)), none⟩), (6, 0, ⟨(some (.l (.l (.l (.r (.l .h)))))), .q (.mv (.t (.l (.l (.l .h))))), none⟩), (7, 64, ⟨(some (.r (.l (.l (.r (.l .h)))))), .q (.bi .sub (.t (.l (.l (.l (.r (.l .h)))))) (.c (.i .i64 1))), none⟩), (8, 224, ⟨(some (.l (.r (.l (.r (.l .h)))))), .q (.iaS 1 (.t (.r (.r (.r (.l (.l .h)))))) (.t (.r (.l (.l (.r (.l .h))))))), none⟩), (9, 480, ⟨(some (.r (.r (.l (.r (.l .h)))))), .q (.ld1 (.t (.l (.r (.l (.r (.l .h))))))), none⟩), (10, 0, ⟨(some (.l (.l (.r (.r (.l .h)))))), .q (.mv (.t .h)), none⟩), (11, 0, ⟨(some (.r (.l (.r (.r (.l .h)))))), .q (.mv (.t (.l (.l (.l .h))))), none⟩), (12, 3072, ⟨(some (.l (.r (.r (.r (.l .h)))))), .q (.iaS 1 (.t (.l (.l (.r (.r (.l .h)))))) (.t (.r (.l (.r (.r (.l .h))))))), none⟩), (13, 7168, ⟨(some (.r (.r (.r (.r (.l .h)))))), .q (.ld1 (.t (.l (.r (.r (.r (.l .h))))))), none⟩), (14, 16355, ⟨(some (.l (.l (.l (.l (.r .h)))))), .q (.iaS 1 (.t (.l (.r (.l (.l (.l .h)))))) (.t (.r (.r (.l (.l (.l .h))))))), none⟩), (15, 32739, ⟨none, .e (.st 1 (.t (.l (.l (.l (.l (.r .h)))))) (.t (.r (.r (.l (.r (.l .h))))))), none⟩), (16, 65535, ⟨(some (.r (.l (.l (.l (.r .h)))))), .q (.iaS 1 (.t (.l (.l (.r (.l (.l .h)))))) (.t (.l (.r (.r (.l (.l .h))))))), none⟩), (17, 131071, ⟨none, .e (.st 1 (.t (.r (.l (.l (.l (.r .h)))))) (.t (.r (.r (.r (.r (.l .h))))))), none⟩)])
def w79_6 := @wp_unf _ _ b79_6.eq_1
noncomputable def b79_7 : CC := (.reg [⟨(some (.l (.l (.l (.l (.l .h)))))), .q (.mv (.t (.l (.l (.l .h))))), none⟩, ⟨(some (.r (.l (.l (.l (.l .h)))))), .q (.bi .sub (.t (.l (.l (.l (.l (.l .h)))))) (.c (.i .i64 1))), none⟩, ⟨(some (.l (.l (.l .h)))), .q (.mv (.t (.r (.l (.l (.l (.l .h))))))), none⟩])
def w79_7 := @wp_unf _ _ b79_7.eq_1
noncomputable def b79_8 : CC := (.block 2 (.loop (.seq b79_5 (.seq (.block 3 b79_6) b79_7))))
def w79_8 := @wp_unf _ _ b79_8.eq_1
noncomputable def b79_9 : CC := (.reg [⟨(some (.l (.r (.r .h)))), .q (.mv (.t (.r (.r .h)))), none⟩, ⟨(some (.r (.r (.r .h)))), .q (.bi .add (.t (.l (.r (.r .h)))) (.c (.i .i64 1))), none⟩, ⟨(some (.r (.r .h))), .q (.mv (.t (.r (.r (.r .h))))), none⟩])
def w79_9 := @wp_unf _ _ b79_9.eq_1
noncomputable def b79_10 : CC := (.seq (.seq b79_2 (.cond (.t (.r (.l (.r .h)))) .skip (.exit 0))) (.seq (.block 1 (.seq b79_3 b79_8)) b79_9))
def w79_10 := @wp_unf _ _ b79_10.eq_1
noncomputable def c79 : CF := .mk 6 [] (.seq b79_1 (.block 0 (.loop b79_10)))
theorem e79 (v0 v1 v2 : V) : argTr 6 [v0, v1, v2] = (.n (.n (.n (.n (.n (.n .e none .e) none (.n .e none .e)) none (.n (.n .e none .e) none (.n .e none .e))) none (.n (.n (.n .e none .e) none (.n .e none .e)) none (.n (.n .e none .e) none (.n .e none .e)))) (some v1) (.n (.n (.n (.n .e none .e) none (.n .e none .e)) none (.n (.n .e none .e) none (.n .e none .e))) none (.n (.n (.n .e none .e) none (.n .e none .e)) none (.n (.n .e none .e) none (.n .e none .e))))) (some v0) (.n (.n (.n (.n (.n .e none .e) none (.n .e none .e)) none (.n (.n .e none .e) none (.n .e none .e))) none (.n (.n (.n .e none .e) none (.n .e none .e)) none (.n (.n .e none .e) none (.n .e none .e)))) (some v2) (.n (.n (.n (.n .e none .e) none (.n .e none .e)) none (.n (.n .e none .e) none (.n .e none .e))) none (.n (.n (.n .e none .e) none (.n .e none .e)) none (.n (.n .e none .e) none (.n .e none .e)))))) := rfl
def intE (l : List Int) : List (List V) := l.map fun z => [V.i .i64 z]
theorem int_at {F : RO} {M : Mem} {c : Nat} {v : V} {l : List Int} (hs : SlAt F M c 1 v (intE l)) (i : Nat) (hi : i < l.length) :
    ∃ b o, b < c ∧ (∀ k, iaSV 1 v (.i k (i : Int)) = some (.p b o)) ∧ load1 F M b o = some (.i .i64 l[i]) :=
  SlAt.one hs i (by simpa [intE] using hi) (by simp [intE])
theorem int_len {F : RO} {M : Mem} {c : Nat} {v : V} {l : List Int} (hs : SlAt F M c 1 v (intE l)) : lnL v = some (.i .i64 (l.length : Int)) := by
  have := hs.len; rwa [intE, List.length_map] at this
theorem r29 (Φ : Nat → Option CF) (h : Φ 29 = some c29) {F : RO} {M : Mem} {c : Nat} {v v' : V} {l l' : List Int} (ok : Okm F M c) (hs : SlAt F M c 1 v (intE l)) (hs' : SlAt F M c 1 v' (intE l')) (hl : l.length ≤ 4000) (hl' : l'.length ≤ 4000) :
    Calls Φ F 29 [v, v'] M c fun r M' c' => r = .b (decide (l = l')) ∧ M' = M ∧ c ≤ c' := by
  refine calls_walk h ?_
  have hn := int_len hs
  have hn' := int_len hs'
  by_cases hlen : l.length = l'.length
  · have d1 : decide ((l.length : Int) ≠ (l'.length : Int)) = false := decide_eq_false (by omega)
    simp only [lnSl, wp_seq, seqQ_nrm, wp_reg, wp_skip, wp_block, wo_nil, xo_q, wp_condF, putO, v_mv, v_bi, bi_neq, v_ln, ev_t, ev_c, Tr.setP_h, Tr.setP_l, Tr.setP_r, getT_h, getT_l, getT_r, e29, w29_1, w29_2, w29_4, w29_5, w29_13, hn, hn', d1]
    obtain ⟨Iv, hIv⟩ : ∃ Iv : Nat → St → Prop, ∀ n s, Iv n s ↔ (∃ (k : Nat) (c1 : Nat) (u : List (Option V)), n = l.length - k ∧ k ≤ l.length ∧ s = .mk ((.n (.n (.n (.n (.n .e (uO u 15) .e) (uO u 7) (.n .e (uO u 23) .e)) (uO u 3) (.n (.n .e (uO u 19) .e) (uO u 11) (.n .e (uO u 27) .e))) (some (v')) (.n (.n (.n .e (uO u 17) .e) (uO u 9) (.n .e (uO u 25) .e)) (some (.i .i64 (k : Int))) (.n (.n .e (uO u 21) .e) (uO u 13) (.n .e (uO u 29) .e)))) (some (v)) (.n (.n (.n (.n .e (uO u 16) .e) (uO u 8) (.n .e (uO u 24) .e)) (uO u 4) (.n (.n .e (uO u 20) .e) (uO u 12) (.n .e (uO u 28) .e))) (uO u 2) (.n (.n (.n .e (uO u 18) .e) (uO u 10) (.n .e (uO u 26) .e)) (uO u 6) (.n (.n .e (uO u 22) .e) (uO u 14) (.n .e (uO u 30) .e)))))) [] M c1 ∧ c ≤ c1 ∧ l.take k = l'.take k) := ⟨fun n s => _, fun _ _ => Iff.rfl⟩
    refine wp_while Iv ?_ l.length _ ((hIv _ _).2 ⟨0, _, [none, none, _, _, _, none, _, _, _, _, _, _, _, _, _, _, _, _, _, _, _, _, _, _, _, _, _, _, _, _, _], rfl, Nat.zero_le _, rfl, Nat.le_refl _, by simp⟩)
    intro n s hIs
    obtain ⟨k, c1, u, rfl, hk, rfl, hc1, hkk⟩ := (hIv _ _).1 hIs
    clear hIs
    have q8 : biV .add (.i .i64 (k : Int)) (.i .i64 1) = some (.i .i64 ((k + 1 : Nat) : Int)) := by rw [i64_add _ _ (by omega) (by omega)]; simp
    by_cases hlt : k < l.length
    · have hd : decide ((k : Int) < (l.length : Int)) = true := decide_eq_true (by omega)
      obtain ⟨b1, o1, _, ia1, ld1⟩ := int_at hs k hlt
      obtain ⟨b2, o2, _, ia2, ld2⟩ := int_at hs' k (by omega)
      by_cases he : l[k] = l'[k]
      · have d2 : decide (l[k] ≠ l'[k]) = false := decide_eq_false (fun h => h he)
        simp only [wp_dreg, dregQ_eq, mergeAll_nil, wd_nil, wd_q, putD_v, putD_r, oV_some, dq_mv, dq_bi0, biQ_i, dq_ld0, ldQ_p, ldR_some, dq_iaS, v_iaS, lnSl, wp_seq, seqQ_nrm, wp_reg, wp_skip, wp_block, blockQ_nrm, wo_nil, xo_q, wp_condT, wp_condF, putO, v_mv, v_bi, bi_lss, bi_neq, v_ln, ev_t, ev_c, Tr.setP_h, Tr.setP_l, Tr.setP_r, getT_h, getT_l, getT_r, roundQ_nrm, w29_6, w29_7, w29_9, w29_10, w29_11, hn, hd, ia1, ld1, ia2, ld2, d2, q8]
        exact ⟨l.length - (k + 1), by omega, (hIv _ _).2 ⟨k + 1, _, [none, none, _, _, _, none, _, _, _, _, _, _, _, _, _, _, _, _, _, _, _, _, _, _, _, _, _, _, _, _, _], rfl, by omega, rfl, by omega, by rw [List.take_succ_eq_append_getElem hlt, List.take_succ_eq_append_getElem (by omega), hkk, he]⟩⟩
      · have d2 : decide (l[k] ≠ l'[k]) = true := decide_eq_true he
        have hne : decide (l = l') = false := decide_eq_false (fun h => he (by subst h; rfl))
        simp only [wp_dreg, dregQ_eq, mergeAll_nil, wd_nil, wd_q, putD_v, putD_r, oV_some, dq_mv, dq_bi0, biQ_i, dq_ld0, ldQ_p, ldR_some, dq_iaS, v_iaS, lnSl, wp_seq, seqQ_nrm, seqQ_ret, wp_reg, wp_ret, wp_skip, wp_block, blockQ_ret, wo_nil, xo_q, wp_condT, putO, v_mv, v_bi, bi_lss, bi_neq, v_ln, ev_t, ev_c, Tr.setP_h, Tr.setP_l, Tr.setP_r, getT_h, getT_l, getT_r, endQ_ret, endO, resV_nil', resV_t, consO_some, oneV_one, true_and, roundQ_ret, w29_6, w29_7, w29_8, w29_9, w29_11, hn, hd, ia1, ld1, ia2, ld2, d2, hne]
        omega
    · have hd : decide ((k : Int) < (l.length : Int)) = false := decide_eq_false (by omega)
      have hee : decide (l = l') = true := decide_eq_true (by
        rw [List.take_of_length_le (by omega), List.take_of_length_le (by omega)] at hkk; exact hkk)
      simp only [lnSl, wp_seq, seqQ_nrm, seqQ_ext, wp_reg, wp_ret, wp_exit, blockQ_ext, wo_nil, xo_q, wp_condF, putO, v_mv, v_bi, bi_lss, v_ln, ev_t, ev_c, Tr.setP_h, Tr.setP_l, Tr.setP_r, getT_h, getT_l, getT_r, endQ_ret, endO, resV_nil', resV_t, consO_some, oneV_one, if_true, true_and, roundQ_ext, w29_6, w29_11, w29_12, hn, hd, hee]
      exact hc1
  · have d1 : decide ((l.length : Int) ≠ (l'.length : Int)) = true := decide_eq_true (by omega)
    have hne : decide (l = l') = false := decide_eq_false (fun h => hlen (by rw [h]))
    simp only [lnSl, wp_seq, seqQ_nrm, seqQ_ret, wp_reg, wp_ret, wo_nil, xo_q, wp_condT, putO, v_mv, v_bi, bi_neq, v_ln, ev_t, ev_c, Tr.setP_h, Tr.setP_l, Tr.setP_r, getT_h, getT_l, getT_r, endQ_ret, endO, resV_nil', resV_t, consO_some, oneV_one, true_and, e29, w29_1, w29_2, w29_3, w29_4, hn, hn', d1, hne]
    exact Nat.le_refl _
theorem t108 (Φ : Nat → Option CF) (h : Φ 108 = some c108) (x : Int) (ct : Nat) : To Φ 108 [.i .i64 x] ct (.b false) := by
  refine to_walk h ?_
  simp only [wp_seq, seqQ_nrm, wp_reg, wp_ret, wo_nil, xo_q, putO, v_mv, v_bi, bi_neq, ev_t, ev_c, Tr.setP_h, Tr.setP_l, Tr.setP_r, getT_h, getT_l, getT_r, endQ_ret, endO, resV_nil', resV_t, consO_some, oneV_one, decide_false, e108, w108_1, w108_2, eq_self, ne_eq, not_true_eq_false]
def h108 : List V → Option V
  | [.i .i64 _] => some (.b false)
  | _ => none
theorem h108_eq (x : Int) : h108 [.i .i64 x] = some (.b false) := rfl
theorem t85 (Φ : Nat → Option CF) (h : Φ 85 = some c85) (h108 : Φ 108 = some (.orc (pureO h108))) (x y : Int) (ct : Nat) : To Φ 85 [.i .i64 x, .i .i64 y] ct (.b (decide (x < y))) := by
  refine to_walk h ?_
  simp only [wp_seq, seqQ_nrm, wp_reg, wp_ret, wo_nil, xo_q, xo_e, wo_gT, wo_gF, putO, putE, setT_some, v_mv, v_pk, pkV_F, v_bi, bi_lss, xo_call, callC_orc, ev_t, ev_c, evs_nil, evs_cons, Tr.setP_h, Tr.setP_l, Tr.setP_r, getT_h, getT_l, getT_r, endQ_ret, endO, resV_nil', resV_t, consO_some, oneV_one, Bool.not_true, pureO_of, ofO_some, e85, w85_1, w85_2, h108, h108_eq]
def h85 : List V → Option V
  | [.i .i64 x, .i .i64 y] => some (.b (decide (x < y)))
  | _ => none
theorem h85_eq (x y : Int) : h85 [.i .i64 x, .i .i64 y] = some (.b (decide (x < y))) := rfl
def lenN (n : Nat) : Int := if n = 0 then 0 else if n = 1 then 1 else 2
theorem len8_0 : ixSV (.s 256 1013866857139168856493015739252390649739422828853819106890363778118420553376247557433637691341895324351018602695588957474325319502760499485336098898398377509666851054660423406800006203933793007272033180812049178612605246075062580585469430410618860250057463399279570354286669047577758927328864388992123306212451509403152394148136105363817402562688186708175358218852349079190158732807302672745370040257219644697201681238697346923541678507645485296520536209706771857694240900605172937619415410180424934769249448772944216470541052485265558808433676546390051204254346932932316488017972311616136051587427851453983453479168) (.i .u8 0) = some (.i .u8 0) := by kernel_rfl
theorem len8_1 : ixSV (.s 256 1013866857139168856493015739252390649739422828853819106890363778118420553376247557433637691341895324351018602695588957474325319502760499485336098898398377509666851054660423406800006203933793007272033180812049178612605246075062580585469430410618860250057463399279570354286669047577758927328864388992123306212451509403152394148136105363817402562688186708175358218852349079190158732807302672745370040257219644697201681238697346923541678507645485296520536209706771857694240900605172937619415410180424934769249448772944216470541052485265558808433676546390051204254346932932316488017972311616136051587427851453983453479168) (.i .u8 1) = some (.i .u8 1) := by kernel_rfl
theorem len8_2 : ixSV (.s 256 1013866857139168856493015739252390649739422828853819106890363778118420553376247557433637691341895324351018602695588957474325319502760499485336098898398377509666851054660423406800006203933793007272033180812049178612605246075062580585469430410618860250057463399279570354286669047577758927328864388992123306212451509403152394148136105363817402562688186708175358218852349079190158732807302672745370040257219644697201681238697346923541678507645485296520536209706771857694240900605172937619415410180424934769249448772944216470541052485265558808433676546390051204254346932932316488017972311616136051587427851453983453479168) (.i .u8 2) = some (.i .u8 2) := by kernel_rfl
theorem len8_3 : ixSV (.s 256 1013866857139168856493015739252390649739422828853819106890363778118420553376247557433637691341895324351018602695588957474325319502760499485336098898398377509666851054660423406800006203933793007272033180812049178612605246075062580585469430410618860250057463399279570354286669047577758927328864388992123306212451509403152394148136105363817402562688186708175358218852349079190158732807302672745370040257219644697201681238697346923541678507645485296520536209706771857694240900605172937619415410180424934769249448772944216470541052485265558808433676546390051204254346932932316488017972311616136051587427851453983453479168) (.i .u8 3) = some (.i .u8 2) := by kernel_rfl
theorem w8_0 : IntKind.u8.wrap 0 = 0 := by kernel_rfl
theorem w8_1 : IntKind.u8.wrap 1 = 1 := by kernel_rfl
theorem w8_2 : IntKind.u8.wrap 2 = 2 := by kernel_rfl
theorem w8_3 : IntKind.u8.wrap 3 = 3 := by kernel_rfl
theorem w64_0 : IntKind.i64.wrap 0 = 0 := by kernel_rfl
theorem w64_1 : IntKind.i64.wrap 1 = 1 := by kernel_rfl
theorem w64_2 : IntKind.i64.wrap 2 = 2 := by kernel_rfl
theorem a64_0 : biV .add (.i .i64 0) (.i .i64 0) = some (.i .i64 0) := by kernel_rfl
theorem a64_1 : biV .add (.i .i64 0) (.i .i64 1) = some (.i .i64 1) := by kernel_rfl
theorem a64_2 : biV .add (.i .i64 0) (.i .i64 2) = some (.i .i64 2) := by kernel_rfl
theorem t89 (Φ : Nat → Option CF) (h : Φ 89 = some c89) (n : Nat) (hn : n < 4) (ct : Nat) : To Φ 89 [.i .u64 (n : Int)] ct (.i .i64 (lenN n)) := by
  have : n = 0 ∨ n = 1 ∨ n = 2 ∨ n = 3 := by omega
  rcases this with rfl | rfl | rfl | rfl
  all_goals refine to_walk h ?_
  all_goals
    simp only [wp_seq, seqQ_nrm, wp_reg, wp_ret, wp_skip, wo_nil, xo_q, wp_condF, putO, v_mv, v_bi, bi_geq, v_ixS, ev_t, ev_c, Tr.setP_h, Tr.setP_l, Tr.setP_r, getT_h, getT_l, getT_r, Nat.reduceEqDiff, Int.reduceLE, endQ_ret, endO, resV_nil', resV_t, consO_some, oneV_one, decide_false, if_true, if_false, reduceCtorEq, v_ci, e89, w89_1, w89_4, w89_7, w89_8, w89_11, w89_12, w89_13, w89_14, Int.reduceLE, Int.cast_ofNat_Int, len8_0, len8_1, len8_2, len8_3, w8_0, w8_1, w8_2, w8_3, w64_0, w64_1, w64_2, a64_0, a64_1, a64_2, lenN, Nat.reduceEqDiff, Nat.one_ne_zero]
    try rfl
def h89 : List V → Option V
  | [.i .u64 (.ofNat n)] => if n < 4 then some (.i .i64 (lenN n)) else none
  | _ => none
theorem h89_eq {n : Nat} (h : n < 4) : h89 [.i .u64 (n : Int)] = some (.i .i64 (lenN n)) := if_pos h
theorem t67 (Φ : Nat → Option CF) (h : Φ 67 = some c67) (h89 : Φ 89 = some (.orc (pureO h89))) (n : Nat) (hn : n < 4) (ct : Nat) : To Φ 67 [.i .u64 (n : Int)] ct (.i .i64 (lenN n)) := by
  refine to_walk h ?_
  simp only [wp_seq, seqQ_nrm, wp_reg, wp_ret, wp_skip, wo_nil, xo_q, xo_e, putO, putE, v_mv, xo_call, callC_orc, ev_t, ev_c, evs_nil, evs_cons, Tr.setP_h, Tr.setP_l, Tr.setP_r, getT_h, getT_l, getT_r, endQ_ret, endO, resV_nil', resV_t, consO_some, oneV_one, pureO_of, ofO_some, wp_condFc, e67, w67_2, w67_3, w67_4, h89, h89_eq hn]
end Go.Proofs.YtffpeieapadocaaGreatDoor.Ev
set_option maxRecDepth 10000
set_option maxHeartbeats 16000000
namespace Go.Proofs.YtffpeieapadocaaGreatDoor.Ev
open Go
def s2 (x y : Int) : Int × Int := if y < x then (y, x) else (x, y)
def isort : List Int → List Int
  | [x, y] => [(s2 x y).1, (s2 x y).2]
  | [x, y, z] => if z < (s2 x y).2 then (if z < (s2 x y).1 then [z, (s2 x y).1, (s2 x y).2] else [(s2 x y).1, z, (s2 x y).2]) else [(s2 x y).1, (s2 x y).2, z]
  | l => l
def intV (l : List Int) : List V := l.map fun z => .i .i64 z
theorem w64_3 : IntKind.i64.wrap 3 = 3 := by kernel_rfl
theorem r79 (Φ : Nat → Option CF) (h : Φ 79 = some c79) (h85 : Φ 85 = some (.orc (pureO h85))) {F : RO} {M : Mem} {c b : Nat} {v : V} (l : List Int) (ok : Okm F M c) (hl : l.length ≤ 3) (hb : b < c) (hM : M.get b = some (rowU 3 (intV l))) (hi : ∀ i, i < l.length → iaSV 1 v (.i .i64 (i : Int)) = some (.p b i)) :
    Calls Φ F 79 [v, .i .i64 0, .i .i64 (l.length : Int)] M c fun _ M' c' => M' = M.set b (rowU 3 (intV (isort l))) ∧ c ≤ c' := by
  have hfree : ∀ x, roFree (M.set b x) F = true := fun x => (ok.put hb hM).free
  refine calls_walk h ?_
  match l, hl with
  | [], _ =>
    simp only [wp_seq, seqQ_nrm, seqQ_ext, wp_reg, wp_exit, wp_block, blockQ_ext, loopQ_ext, wo_nil, xo_q, wp_condF, putO, v_mv, v_bi, bi_lss, ev_t, ev_c, Tr.setP_h, Tr.setP_l, Tr.setP_r, getT_h, getT_l, getT_r, Int.reduceLT, endQ_nrm, endO, resV_nil', decide_false, if_true, List.length_nil, e79, w79_1, w79_2, w79_10, a64_1, wp_loop, Int.reduceLT, Int.ofNat_zero]
    exact ⟨set_same hM, Nat.le_refl _⟩
  | [x], _ =>
    simp only [wp_seq, seqQ_nrm, seqQ_ext, wp_reg, wp_exit, wp_block, blockQ_ext, loopQ_ext, wo_nil, xo_q, wp_condF, putO, v_mv, v_bi, bi_lss, ev_t, ev_c, Tr.setP_h, Tr.setP_l, Tr.setP_r, getT_h, getT_l, getT_r, Int.reduceLT, endQ_nrm, endO, resV_nil', decide_false, if_true, List.length_cons, List.length_nil, Nat.zero_add, e79, w79_1, w79_2, w79_10, a64_1, wp_loop, Int.reduceLT, Int.ofNat_one]
    exact ⟨set_same hM, Nat.le_refl _⟩
  | [x, y], _ =>
    have i0 : iaSV 1 v (.i .i64 0) = some (.p b 0) := hi 0 (by simp)
    have i1 : iaSV 1 v (.i .i64 1) = some (.p b 1) := hi 1 (by simp)
    rw [set_same hM]
    clear hM
    have e0 : intV [x, y] = [.i .i64 x, .i .i64 y] := rfl
    rw [e0]
    have i2 : True := trivial
    simp only [wp_dreg, wd_e1, befB_nil, befB_cons, Nat.reducePow, Nat.reduceDiv, Nat.reduceMod, putDE, dregQ_eq, mergeAll_nil, wd_nil, wd_q, putD_v, putD_r, oV_some, dq_mv, dq_bi0, biQ_i, dq_ld0, ldQ_p, ldR_some, dq_iaS, v_iaS, wp_seq, seqQ_nrm, wp_reg, wp_skip, wp_block, wo_nil, xo_q, wp_condT, putO, setT_some, v_mv, pkV_T, v_bi, bi_sub, bi_lss, bi_gtr, xo_call, callC_orc, ev_t, ev_c, evs_nil, evs_cons, Tr.setP_h, Tr.setP_l, Tr.setP_r, getT_h, getT_l, getT_r, Nat.reduceBEq, Int.reduceLT, List.getElem?_cons_zero, List.getElem?_cons_succ, decide_true, pureO_of, ofO_some, Bool.and_true, List.length_cons, List.length_nil, Nat.reduceAdd, Nat.zero_add, true_and, wd_gT, dq_pk, e79, w79_1, w79_2, w79_3, w79_4, w79_5, w79_8, w79_10, wp_loop, Int.reduceLT, Int.cast_ofNat_Int, Int.reduceSub, Int.reduceAdd, bi_add, w64_0, w64_1, i0, i1, h85, h85_eq, load1_sameU, hfree, set_set]
    repeat' first | (refine wp_cond (by simp only [ev_t, getT_h, getT_r]; rfl) (fun h => ?_) (fun h => ?_) <;> simp only [wp_dreg, wd_e1, befB_nil, befB_cons, Nat.reducePow, Nat.reduceDiv, Nat.reduceMod, putDE, dregQ_eq, mergeAll_nil, wd_nil, wd_q, putD_v, putD_r, oV_some, dq_mv, dq_bi0, biQ_i, dq_ld0, ldQ_p, ldR_some, dq_iaS, v_iaS, wp_seq, seqQ_nrm, seqQ_ext, wp_reg, wp_skip, wp_exit, wp_block, blockQ_nrm, blockQ_ext, loopQ_nrm, loopQ_ext, wo_nil, xo_q, wp_condF, putO, setT_some, setT_none, v_mv, pkV_F, v_bi, bi_sub, bi_lss, bi_gtr, e_st_eq, er_some, ev_t, ev_c, Tr.setP_h, Tr.setP_l, Tr.setP_r, getT_h, getT_l, getT_r, Nat.reduceBEq, Nat.reduceEqDiff, Int.reduceLT, List.getElem?_cons_zero, List.getElem?_cons_succ, endQ_nrm, endO, resV_nil', Bool.not_true, decide_false, if_true, if_false, reduceCtorEq, flatten_i, allOne_nil, allOne_cons, isOne_i, Bool.and_true, over_nil, over_cons, List.set_cons_zero, List.set_cons_succ, List.length_cons, List.length_nil, Nat.reduceAdd, Nat.reduceLeDiff, Nat.zero_add, true_and, Nat.add_assoc, wd_gF, dq_pk, w79_2, w79_4, w79_5, w79_6, w79_7, w79_9, w79_10, wp_loop, Int.reduceLT, Int.reduceSub, Int.reduceAdd, bi_add, w64_0, w64_2, i0, i1, load1_sameU, storeN_sameU, hfree, h])
    all_goals
      refine ⟨?_, by omega⟩
      simp only [decide_eq_true_eq, decide_eq_false_iff_not] at *
      simp [isort, s2, intV, *]
  | [x, y, z], _ =>
    have i0 : iaSV 1 v (.i .i64 0) = some (.p b 0) := hi 0 (by simp)
    have i1 : iaSV 1 v (.i .i64 1) = some (.p b 1) := hi 1 (by simp)
    have i2 : iaSV 1 v (.i .i64 2) = some (.p b 2) := hi 2 (by simp)
    rw [set_same hM]
    clear hM
    have e0 : intV [x, y, z] = [.i .i64 x, .i .i64 y, .i .i64 z] := rfl
    rw [e0]
    simp only [wp_dreg, wd_e1, befB_nil, befB_cons, Nat.reducePow, Nat.reduceDiv, Nat.reduceMod, putDE, dregQ_eq, mergeAll_nil, wd_nil, wd_q, putD_v, putD_r, oV_some, dq_mv, dq_bi0, biQ_i, dq_ld0, ldQ_p, ldR_some, dq_iaS, v_iaS, wp_seq, seqQ_nrm, wp_reg, wp_skip, wp_block, wo_nil, xo_q, wp_condT, putO, setT_some, v_mv, pkV_T, v_bi, bi_sub, bi_lss, bi_gtr, xo_call, callC_orc, ev_t, ev_c, evs_nil, evs_cons, Tr.setP_h, Tr.setP_l, Tr.setP_r, getT_h, getT_l, getT_r, Nat.reduceBEq, Int.reduceLT, List.getElem?_cons_zero, List.getElem?_cons_succ, decide_true, pureO_of, ofO_some, Bool.and_true, List.length_cons, List.length_nil, Nat.reduceAdd, Nat.zero_add, true_and, wd_gT, dq_pk, e79, w79_1, w79_2, w79_3, w79_4, w79_5, w79_8, w79_10, wp_loop, Int.reduceLT, Int.cast_ofNat_Int, Int.reduceSub, Int.reduceAdd, bi_add, w64_0, w64_1, i0, i1, h85, h85_eq, load1_sameU, hfree, set_set]
    repeat' first | (refine wp_cond (by simp only [ev_t, getT_h, getT_r]; rfl) (fun h => ?_) (fun h => ?_) <;> simp only [wp_dreg, wd_e1, befB_nil, befB_cons, Nat.reducePow, Nat.reduceDiv, Nat.reduceMod, putDE, dregQ_eq, mergeAll_nil, wd_nil, wd_q, putD_v, putD_r, oV_some, dq_mv, dq_bi0, biQ_i, dq_ld0, ldQ_p, ldR_some, dq_iaS, v_iaS, wp_seq, seqQ_nrm, seqQ_ext, wp_reg, wp_skip, wp_exit, wp_block, blockQ_nrm, blockQ_ext, loopQ_nrm, loopQ_ext, wo_nil, xo_q, wp_condT, wp_condF, putO, setT_some, setT_none, v_mv, pkV_T, pkV_F, v_bi, bi_sub, bi_lss, bi_gtr, e_st_eq, er_some, xo_call, callC_orc, ev_t, ev_c, evs_nil, evs_cons, Tr.setP_h, Tr.setP_l, Tr.setP_r, getT_h, getT_l, getT_r, Nat.reduceBEq, Nat.reduceEqDiff, Int.reduceLT, List.getElem?_cons_zero, List.getElem?_cons_succ, endQ_nrm, endO, resV_nil', Bool.not_true, decide_true, decide_false, if_true, if_false, reduceCtorEq, pureO_of, ofO_some, flatten_i, allOne_nil, allOne_cons, isOne_i, Bool.and_true, over_nil, over_cons, List.set_cons_zero, List.set_cons_succ, List.length_cons, List.length_nil, Nat.reduceAdd, Nat.reduceLeDiff, Nat.zero_add, true_and, Nat.add_assoc, wd_gT, wd_gF, dq_pk, w79_2, w79_3, w79_4, w79_5, w79_6, w79_7, w79_8, w79_9, w79_10, wp_loop, Int.reduceLT, Int.reduceSub, Int.reduceAdd, bi_add, w64_0, w64_1, w64_2, w64_3, i0, i1, i2, h85, h85_eq, load1_sameU, storeN_sameU, hfree, h])
    all_goals trace_state
    all_goals
      refine ⟨?_, by omega⟩
      simp only [decide_eq_true_eq, decide_eq_false_iff_not] at *
      simp [isort, s2, intV, *]
  | _ :: _ :: _ :: _ :: _, hl => exact absurd hl (by simp)
end Go.Proofs.YtffpeieapadocaaGreatDoor.Ev
