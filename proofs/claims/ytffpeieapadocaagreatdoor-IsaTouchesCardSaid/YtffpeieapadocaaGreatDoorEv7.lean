/- What is proved here: pieces of the evaluator's soundness: if the evaluator comes to a value, the model's run comes to it, for every world and tape; no conditions beyond the hypotheses of each theorem. -/
import Derived.Test.YtffpeieapadocaaGreatDoorEv6
set_option linter.unusedSimpArgs false
set_option linter.unusedVariables false
set_option maxRecDepth 10000
set_option maxHeartbeats 16000000
set_option linter.defProp false
namespace Go.Proofs.YtffpeieapadocaaGreatDoor.Ev
open Go
noncomputable def b66_1 : CC := (.reg [⟨(some (.r (.l (.l .h)))), .q (.mv (.c (.b true))), none⟩])
def w66_1 := @wp_unf _ _ b66_1.eq_1
noncomputable def b66_2 : CC := (.reg [⟨(some (.l (.r (.l .h)))), .q (.mv (.c (.b true))), none⟩])
def w66_2 := @wp_unf _ _ b66_2.eq_1
noncomputable def b66_3 : CC := (.reg [⟨(some (.l (.l (.r (.l .h))))), .q (.mv (.t (.r .h))), none⟩, ⟨(some (.r (.l (.r (.l .h))))), .q (.mv (.t (.l .h))), none⟩, ⟨(some (.l (.r (.r (.l .h))))), .q (.bi .sub (.t (.l (.l (.r (.l .h))))) (.t (.r (.l (.r (.l .h)))))), none⟩, ⟨(some (.r (.r (.l .h)))), .q (.mv (.t (.l (.r (.r (.l .h)))))), none⟩])
def w66_3 := @wp_unf _ _ b66_3.eq_1
noncomputable def b66_4 : CC := (.reg [⟨(some (.r (.r (.r (.l .h))))), .q (.mv (.t (.r (.r (.l .h))))), none⟩, ⟨(some (.l (.l (.l (.r .h))))), .q (.bi .leq (.t (.r (.r (.r (.l .h))))) (.c (.i .i64 12))), none⟩])
def w66_4 := @wp_unf _ _ b66_4.eq_1
noncomputable def b66_5 : CC := (.reg [⟨(some (.r (.l (.l (.r .h))))), .q (.mv (.t .h)), none⟩, ⟨(some (.l (.r (.l (.r .h))))), .q (.mv (.t (.l .h))), none⟩, ⟨(some (.r (.r (.l (.r .h))))), .q (.mv (.t (.r .h))), none⟩, ⟨(some (.l (.l (.r (.r .h))))), .e (.call 79 [(.t (.r (.l (.l (.r .h))))), (.t (.l (.r (.l (.r .h))))), (.t (.r (.r (.l (.r .h)))))]), none⟩])
def w66_5 := @wp_unf _ _ b66_5.eq_1
noncomputable def b66_6 : CC := (.seq b66_4 (.cond (.t (.l (.l (.l (.r .h))))) (.seq b66_5 .ret) .skip))
def w66_6 := @wp_unf _ _ b66_6.eq_1
noncomputable def b66_7 : CC := (.reg [⟨(some (.r (.l (.r (.r .h))))), .q (.mv (.t (.l (.l .h)))), none⟩, ⟨(some (.l (.r (.r (.r .h))))), .q (.bi .eql (.t (.r (.l (.r (.r .h))))) (.c (.i .i64 0))), none⟩])
noncomputable def b66_8 : CC := (.reg [⟨(some (.r (.r (.r (.r .h))))), .q (.mv (.t .h)), none⟩, ⟨(some (.l (.l (.l (.l (.l .h)))))), .q (.mv (.t (.l .h))), none⟩, ⟨(some (.r (.l (.l (.l (.l .h)))))), .q (.mv (.t (.r .h))), none⟩, ⟨(some (.l (.r (.l (.l (.l .h)))))), .e (.call 80 [(.t (.r (.r (.r (.r .h))))), (.t (.l (.l (.l (.l (.l .h)))))), (.t (.r (.l (.l (.l (.l .h))))))]), none⟩])
noncomputable def b66_9 : CC := (.seq b66_7 (.cond (.t (.l (.r (.r (.r .h))))) (.seq b66_8 .ret) .skip))
noncomputable def b66_10 : CC := (.reg [⟨(some (.r (.r (.l (.l (.l .h)))))), .q (.mv (.t (.r (.l (.l .h))))), none⟩, ⟨(some (.l (.l (.r (.l (.l .h)))))), .q (.un .not (.t (.r (.r (.l (.l (.l .h))))))), none⟩])
noncomputable def b66_11 : CC := (.reg [⟨(some (.r (.l (.r (.l (.l .h)))))), .q (.mv (.t .h)), none⟩, ⟨(some (.l (.r (.r (.l (.l .h)))))), .q (.mv (.t (.l .h))), none⟩, ⟨(some (.r (.r (.r (.l (.l .h)))))), .q (.mv (.t (.r .h))), none⟩, ⟨(some (.l (.l (.l (.r (.l .h)))))), .e (.call 81 [(.t (.r (.l (.r (.l (.l .h)))))), (.t (.l (.r (.r (.l (.l .h)))))), (.t (.r (.r (.r (.l (.l .h))))))]), none⟩])
noncomputable def b66_12 : CC := (.reg [⟨(some (.r (.l (.l (.r (.l .h)))))), .q (.mv (.t (.l (.l .h)))), none⟩, ⟨(some (.l (.r (.l (.r (.l .h)))))), .q (.bi .sub (.t (.r (.l (.l (.r (.l .h)))))) (.c (.i .i64 1))), none⟩, ⟨(some (.l (.l .h))), .q (.mv (.t (.l (.r (.l (.r (.l .h))))))), none⟩])
noncomputable def b66_13 : CC := (.cond (.t (.l (.l (.r (.l (.l .h)))))) (.seq b66_11 b66_12) .skip)
noncomputable def b66_14 : CC := (.reg [⟨(some (.l (.l (.r (.r (.l .h)))))), .q (.mv (.t .h)), none⟩, ⟨(some (.r (.l (.r (.r (.l .h)))))), .q (.mv (.t (.l .h))), none⟩, ⟨(some (.l (.r (.r (.r (.l .h)))))), .q (.mv (.t (.r .h))), none⟩, ⟨(some (.r (.r (.r (.r (.l .h)))))), .e (.call 82 [(.t (.l (.l (.r (.r (.l .h)))))), (.t (.r (.l (.r (.r (.l .h)))))), (.t (.l (.r (.r (.r (.l .h))))))]), none⟩, ⟨(some (.r (.r (.l (.r (.l .h)))))), .q (.mv (.t (.r (.r (.r (.r (.l .h))))))), none⟩, ⟨(some (.l (.l (.l (.l (.r .h)))))), .q (.ex 0 (.t (.r (.r (.l (.r (.l .h))))))), none⟩, ⟨(some (.r (.l (.l (.l (.r .h)))))), .q (.ex 1 (.t (.r (.r (.l (.r (.l .h))))))), none⟩, ⟨(some (.l (.l (.r .h)))), .q (.mv (.t (.l (.l (.l (.l (.r .h))))))), none⟩, ⟨(some (.r (.l (.r .h)))), .q (.mv (.t (.r (.l (.l (.l (.r .h))))))), none⟩])
noncomputable def b66_15 : CC := (.reg [⟨(some (.l (.r (.l (.l (.r .h)))))), .q (.mv (.t (.r (.l (.r .h))))), none⟩, ⟨(some (.r (.r (.l (.l (.r .h)))))), .q (.bi .eql (.t (.l (.r (.l (.l (.r .h)))))) (.c (.i .i64 2))), none⟩])
noncomputable def b66_16 : CC := (.reg [⟨(some (.l (.l (.r (.l (.r .h)))))), .q (.mv (.t .h)), none⟩, ⟨(some (.r (.l (.r (.l (.r .h)))))), .q (.mv (.t (.l .h))), none⟩, ⟨(some (.l (.r (.r (.l (.r .h)))))), .q (.mv (.t (.r .h))), none⟩, ⟨(some (.r (.r (.r (.l (.r .h)))))), .e (.call 83 [(.t (.l (.l (.r (.l (.r .h)))))), (.t (.r (.l (.r (.l (.r .h)))))), (.t (.l (.r (.r (.l (.r .h))))))]), none⟩])
noncomputable def b66_17 : CC := (.reg [⟨(some (.l (.l (.l (.r (.r .h)))))), .q (.mv (.t (.r .h))), none⟩, ⟨(some (.r (.l (.l (.r (.r .h)))))), .q (.bi .sub (.t (.l (.l (.l (.r (.r .h)))))) (.c (.i .i64 1))), none⟩, ⟨(some (.l (.r (.l (.r (.r .h)))))), .q (.mv (.t (.l (.l (.r .h))))), none⟩, ⟨(some (.r (.r (.l (.r (.r .h)))))), .q (.mv (.t (.l .h))), none⟩, ⟨(some (.l (.l (.r (.r (.r .h)))))), .q (.bi .sub (.t (.l (.r (.l (.r (.r .h)))))) (.t (.r (.r (.l (.r (.r .h))))))), none⟩, ⟨(some (.r (.l (.r (.r (.r .h)))))), .q (.bi .sub (.t (.r (.l (.l (.r (.r .h)))))) (.t (.l (.l (.r (.r (.r .h))))))), none⟩, ⟨(some (.l (.l (.r .h)))), .q (.mv (.t (.r (.l (.r (.r (.r .h))))))), none⟩])
noncomputable def b66_18 : CC := (.reg [⟨(some (.r (.l (.r .h)))), .q (.mv (.c (.i .i64 1))), none⟩])
noncomputable def b66_19 : CC := (.cond (.t (.r (.r (.l (.l (.r .h)))))) (.seq b66_16 (.seq b66_17 b66_18)) .skip)
noncomputable def b66_20 : CC := (.reg [⟨(some (.l (.r (.r (.r (.r .h)))))), .q (.mv (.t (.r (.l (.l .h))))), none⟩, ⟨(some (.r (.r (.r (.r (.r .h)))))), .q (.mv (.t (.l (.r (.r (.r (.r .h))))))), none⟩, ⟨(some (.l (.l (.l (.l (.l (.l .h))))))), .q (.mv (.t (.l (.r (.l .h))))), (some ((.r (.r (.r (.r (.r .h))))), true))⟩, ⟨(some (.r (.l (.l (.l (.l (.l .h))))))), .q (.pk (.t (.r (.r (.r (.r (.r .h)))))) (.t (.l (.l (.l (.l (.l (.l .h))))))) (.c (.b false))), none⟩, ⟨(some (.l (.r (.l (.l (.l (.l .h))))))), .q (.mv (.t (.r (.l (.l (.l (.l (.l .h)))))))), none⟩, ⟨(some (.r (.r (.l (.l (.l (.l .h))))))), .q (.mv (.t (.r (.l (.r .h))))), (some ((.l (.r (.l (.l (.l (.l .h)))))), true))⟩, ⟨(some (.l (.l (.r (.l (.l (.l .h))))))), .q (.bi .eql (.t (.r (.r (.l (.l (.l (.l .h))))))) (.c (.i .i64 1))), (some ((.l (.r (.l (.l (.l (.l .h)))))), true))⟩, ⟨(some (.r (.l (.r (.l (.l (.l .h))))))), .q (.pk (.t (.l (.r (.l (.l (.l (.l .h))))))) (.t (.l (.l (.r (.l (.l (.l .h))))))) (.c (.b false))), none⟩])
noncomputable def b66_21 : CC := (.reg [⟨(some (.l (.r (.r (.l (.l (.l .h))))))), .q (.mv (.t .h)), none⟩, ⟨(some (.r (.r (.r (.l (.l (.l .h))))))), .q (.mv (.t (.l .h))), none⟩, ⟨(some (.l (.l (.l (.r (.l (.l .h))))))), .q (.mv (.t (.r .h))), none⟩, ⟨(some (.r (.l (.l (.r (.l (.l .h))))))), .e (.call 84 [(.t (.l (.r (.r (.l (.l (.l .h))))))), (.t (.r (.r (.r (.l (.l (.l .h))))))), (.t (.l (.l (.l (.r (.l (.l .h)))))))]), none⟩])
noncomputable def b66_22 : CC := (.seq b66_21 (.cond (.t (.r (.l (.l (.r (.l (.l .h))))))) .ret .skip))
noncomputable def b66_23 : CC := (.seq b66_20 (.cond (.t (.r (.l (.r (.l (.l (.l .h))))))) b66_22 .skip))
noncomputable def b66_24 : CC := (.dreg 15 [(0, 0, ⟨(some (.l (.r (.l (.r (.l (.l .h))))))), .q (.mv (.t (.l .h))), none⟩), (1, 1, ⟨(some (.r (.r (.l (.r (.l (.l .h))))))), .q (.bi .gtr (.t (.l (.r (.l (.r (.l (.l .h))))))) (.c (.i .i64 0))), none⟩), (2, 3, ⟨(some (.l (.l (.r (.r (.l (.l .h))))))), .q (.mv (.t (.r (.r (.l (.r (.l (.l .h)))))))), none⟩), (3, 7, ⟨(some (.r (.l (.r (.r (.l (.l .h))))))), .q (.mv (.t .h)), (some ((.l (.l (.r (.r (.l (.l .h)))))), true))⟩), (4, 7, ⟨(some (.l (.r (.r (.r (.l (.l .h))))))), .q (.mv (.t (.l .h))), (some ((.l (.l (.r (.r (.l (.l .h)))))), true))⟩), (5, 23, ⟨(some (.r (.r (.r (.r (.l (.l .h))))))), .q (.bi .sub (.t (.l (.r (.r (.r (.l (.l .h))))))) (.c (.i .i64 1))), (some ((.l (.l (.r (.r (.l (.l .h)))))), true))⟩), (6, 63, ⟨(some (.l (.l (.l (.l (.r (.l .h))))))), .q (.iaS 1 (.t (.r (.l (.r (.r (.l (.l .h))))))) (.t (.r (.r (.r (.r (.l (.l .h)))))))), (some ((.l (.l (.r (.r (.l (.l .h)))))), true))⟩), (7, 127, ⟨(some (.r (.l (.l (.l (.r (.l .h))))))), .q (.ld1 (.t (.l (.l (.l (.l (.r (.l .h)))))))), (some ((.l (.l (.r (.r (.l (.l .h)))))), true))⟩), (8, 7, ⟨(some (.l (.r (.l (.l (.r (.l .h))))))), .q (.mv (.t .h)), (some ((.l (.l (.r (.r (.l (.l .h)))))), true))⟩), (9, 7, ⟨(some (.r (.r (.l (.l (.r (.l .h))))))), .q (.mv (.t (.l (.l (.r .h))))), (some ((.l (.l (.r (.r (.l (.l .h)))))), true))⟩), (10, 775, ⟨(some (.l (.l (.r (.l (.r (.l .h))))))), .q (.iaS 1 (.t (.l (.r (.l (.l (.r (.l .h))))))) (.t (.r (.r (.l (.l (.r (.l .h)))))))), (some ((.l (.l (.r (.r (.l (.l .h)))))), true))⟩), (11, 1799, ⟨(some (.r (.l (.r (.l (.r (.l .h))))))), .q (.ld1 (.t (.l (.l (.r (.l (.r (.l .h)))))))), (some ((.l (.l (.r (.r (.l (.l .h)))))), true))⟩), (12, 4095, ⟨(some (.l (.r (.r (.l (.r (.l .h))))))), .e (.call 85 [(.t (.r (.l (.l (.l (.r (.l .h))))))), (.t (.r (.l (.r (.l (.r (.l .h)))))))]), (some ((.l (.l (.r (.r (.l (.l .h)))))), true))⟩), (13, 8191, ⟨(some (.r (.r (.r (.l (.r (.l .h))))))), .q (.un .not (.t (.l (.r (.r (.l (.r (.l .h)))))))), (some ((.l (.l (.r (.r (.l (.l .h)))))), true))⟩), (14, 16383, ⟨(some (.l (.l (.l (.r (.r (.l .h))))))), .q (.pk (.t (.l (.l (.r (.r (.l (.l .h))))))) (.t (.r (.r (.r (.l (.r (.l .h))))))) (.c (.b false))), none⟩)])
noncomputable def b66_25 : CC := (.reg [⟨(some (.r (.l (.l (.r (.r (.l .h))))))), .q (.mv (.t .h)), none⟩, ⟨(some (.l (.r (.l (.r (.r (.l .h))))))), .q (.mv (.t (.l .h))), none⟩, ⟨(some (.r (.r (.l (.r (.r (.l .h))))))), .q (.mv (.t (.r .h))), none⟩, ⟨(some (.l (.l (.r (.r (.r (.l .h))))))), .q (.mv (.t (.l (.l (.r .h))))), none⟩, ⟨(some (.r (.l (.r (.r (.r (.l .h))))))), .e (.call 86 [(.t (.r (.l (.l (.r (.r (.l .h))))))), (.t (.l (.r (.l (.r (.r (.l .h))))))), (.t (.r (.r (.l (.r (.r (.l .h))))))), (.t (.l (.l (.r (.r (.r (.l .h)))))))]), none⟩, ⟨(some (.l (.r (.r .h)))), .q (.mv (.t (.r (.l (.r (.r (.r (.l .h)))))))), none⟩])
noncomputable def b66_26 : CC := (.reg [⟨(some (.l (.r (.r (.r (.r (.l .h))))))), .q (.mv (.t (.l (.r (.r .h))))), none⟩, ⟨(some (.l .h)), .q (.mv (.t (.l (.r (.r (.r (.r (.l .h)))))))), none⟩])
noncomputable def b66_27 : CC := (.cond (.t (.l (.l (.l (.r (.r (.l .h))))))) (.seq b66_25 (.seq b66_26 (.exit 1))) .skip)
noncomputable def b66_28 : CC := (.reg [⟨(some (.l (.l (.l (.l (.l (.r .h))))))), .q (.mv (.t .h)), none⟩, ⟨(some (.r (.l (.l (.l (.l (.r .h))))))), .q (.mv (.t (.l .h))), none⟩, ⟨(some (.l (.r (.l (.l (.l (.r .h))))))), .q (.mv (.t (.r .h))), none⟩, ⟨(some (.r (.r (.l (.l (.l (.r .h))))))), .q (.mv (.t (.l (.l (.r .h))))), none⟩, ⟨(some (.l (.l (.r (.l (.l (.r .h))))))), .e (.call 87 [(.t (.l (.l (.l (.l (.l (.r .h))))))), (.t (.r (.l (.l (.l (.l (.r .h))))))), (.t (.l (.r (.l (.l (.l (.r .h))))))), (.t (.r (.r (.l (.l (.l (.r .h)))))))]), none⟩, ⟨(some (.r (.r (.r (.r (.r (.l .h))))))), .q (.mv (.t (.l (.l (.r (.l (.l (.r .h)))))))), none⟩, ⟨(some (.r (.l (.r (.l (.l (.r .h))))))), .q (.ex 0 (.t (.r (.r (.r (.r (.r (.l .h)))))))), none⟩, ⟨(some (.l (.r (.r (.l (.l (.r .h))))))), .q (.ex 1 (.t (.r (.r (.r (.r (.r (.l .h)))))))), none⟩, ⟨(some (.r (.r (.r .h)))), .q (.mv (.t (.r (.l (.r (.l (.l (.r .h)))))))), none⟩, ⟨(some (.l (.l (.l (.l .h))))), .q (.mv (.t (.l (.r (.r (.l (.l (.r .h)))))))), none⟩])
noncomputable def b66_29 : CC := (.reg [⟨(some (.r (.r (.r (.l (.l (.r .h))))))), .q (.mv (.t (.l (.l (.l (.l .h)))))), none⟩, ⟨(some (.l (.r (.l .h)))), .q (.mv (.t (.r (.r (.r (.l (.l (.r .h)))))))), none⟩])
noncomputable def b66_30 : CC := (.reg [⟨(some (.l (.l (.l (.r (.l (.r .h))))))), .q (.mv (.t (.r (.r (.r .h))))), none⟩, ⟨(some (.r (.l (.l (.r (.l (.r .h))))))), .q (.mv (.t (.l .h))), none⟩, ⟨(some (.l (.r (.l (.r (.l (.r .h))))))), .q (.bi .sub (.t (.l (.l (.l (.r (.l (.r .h))))))) (.t (.r (.l (.l (.r (.l (.r .h)))))))), none⟩, ⟨(some (.r (.r (.l (.r (.l (.r .h))))))), .q (.mv (.t (.r .h))), none⟩, ⟨(some (.l (.l (.r (.r (.l (.r .h))))))), .q (.mv (.t (.r (.r (.r .h))))), none⟩, ⟨(some (.r (.l (.r (.r (.l (.r .h))))))), .q (.bi .sub (.t (.r (.r (.l (.r (.l (.r .h))))))) (.t (.l (.l (.r (.r (.l (.r .h)))))))), none⟩, ⟨(some (.r (.l (.l (.l .h))))), .q (.mv (.t (.l (.r (.l (.r (.l (.r .h)))))))), none⟩, ⟨(some (.l (.r (.l (.l .h))))), .q (.mv (.t (.r (.l (.r (.r (.l (.r .h)))))))), none⟩])
noncomputable def b66_31 : CC := (.reg [⟨(some (.l (.r (.r (.r (.l (.r .h))))))), .q (.mv (.t (.r (.r (.l .h))))), none⟩, ⟨(some (.r (.r (.r (.r (.l (.r .h))))))), .q (.bi .quo (.t (.l (.r (.r (.r (.l (.r .h))))))) (.c (.i .i64 8))), none⟩, ⟨(some (.r (.r (.l (.l .h))))), .q (.mv (.t (.r (.r (.r (.r (.l (.r .h)))))))), none⟩])
noncomputable def b66_32 : CC := (.reg [⟨(some (.l (.l (.l (.l (.r (.r .h))))))), .q (.mv (.t (.r (.l (.l (.l .h)))))), none⟩, ⟨(some (.r (.l (.l (.l (.r (.r .h))))))), .q (.mv (.t (.l (.r (.l (.l .h)))))), none⟩, ⟨(some (.l (.r (.l (.l (.r (.r .h))))))), .q (.bi .lss (.t (.l (.l (.l (.l (.r (.r .h))))))) (.t (.r (.l (.l (.l (.r (.r .h)))))))), none⟩])
noncomputable def b66_33 : CC := (.reg [⟨(some (.r (.r (.l (.l (.r (.r .h))))))), .q (.mv (.t (.r (.l (.l (.l .h)))))), none⟩, ⟨(some (.l (.l (.r (.l (.r (.r .h))))))), .q (.mv (.t (.r (.r (.l (.l .h)))))), none⟩, ⟨(some (.r (.l (.r (.l (.r (.r .h))))))), .q (.bi .geq (.t (.r (.r (.l (.l (.r (.r .h))))))) (.t (.l (.l (.r (.l (.r (.r .h)))))))), none⟩, ⟨(some (.r (.l (.l .h)))), .q (.mv (.t (.r (.l (.r (.l (.r (.r .h)))))))), none⟩])
noncomputable def b66_34 : CC := (.reg [⟨(some (.l (.r (.r (.l (.r (.r .h))))))), .q (.mv (.t .h)), none⟩, ⟨(some (.r (.r (.r (.l (.r (.r .h))))))), .q (.mv (.t (.l .h))), none⟩, ⟨(some (.l (.l (.l (.r (.r (.r .h))))))), .q (.mv (.t (.r (.r (.r .h))))), none⟩, ⟨(some (.r (.l (.l (.r (.r (.r .h))))))), .q (.mv (.t (.l (.l .h)))), none⟩, ⟨(some (.l (.r (.l (.r (.r (.r .h))))))), .e (.call 66 [(.t (.l (.r (.r (.l (.r (.r .h))))))), (.t (.r (.r (.r (.l (.r (.r .h))))))), (.t (.l (.l (.l (.r (.r (.r .h))))))), (.t (.r (.l (.l (.r (.r (.r .h)))))))]), none⟩])
noncomputable def b66_35 : CC := (.reg [⟨(some (.r (.r (.l (.r (.r (.r .h))))))), .q (.mv (.t (.r (.r (.r .h))))), none⟩, ⟨(some (.l (.l (.r (.r (.r (.r .h))))))), .q (.bi .add (.t (.r (.r (.l (.r (.r (.r .h))))))) (.c (.i .i64 1))), none⟩, ⟨(some (.l .h)), .q (.mv (.t (.l (.l (.r (.r (.r (.r .h)))))))), none⟩])
noncomputable def b66_36 : CC := (.reg [⟨(some (.r (.l (.r (.r (.r (.r .h))))))), .q (.mv (.t (.l (.r (.l (.l .h)))))), none⟩, ⟨(some (.l (.r (.r (.r (.r (.r .h))))))), .q (.mv (.t (.r (.r (.l (.l .h)))))), none⟩, ⟨(some (.r (.r (.r (.r (.r (.r .h))))))), .q (.bi .geq (.t (.r (.l (.r (.r (.r (.r .h))))))) (.t (.l (.r (.r (.r (.r (.r .h)))))))), none⟩, ⟨(some (.r (.l (.l .h)))), .q (.mv (.t (.r (.r (.r (.r (.r (.r .h)))))))), none⟩])
noncomputable def b66_37 : CC := (.reg [⟨(some (.l (.l (.l (.l (.l (.l (.l .h)))))))), .q (.mv (.t .h)), none⟩, ⟨(some (.r (.l (.l (.l (.l (.l (.l .h)))))))), .q (.mv (.t (.r (.r (.r .h))))), none⟩, ⟨(some (.l (.r (.l (.l (.l (.l (.l .h)))))))), .q (.bi .add (.t (.r (.l (.l (.l (.l (.l (.l .h)))))))) (.c (.i .i64 1))), none⟩, ⟨(some (.r (.r (.l (.l (.l (.l (.l .h)))))))), .q (.mv (.t (.r .h))), none⟩, ⟨(some (.l (.l (.r (.l (.l (.l (.l .h)))))))), .q (.mv (.t (.l (.l .h)))), none⟩, ⟨(some (.r (.l (.r (.l (.l (.l (.l .h)))))))), .e (.call 66 [(.t (.l (.l (.l (.l (.l (.l (.l .h)))))))), (.t (.l (.r (.l (.l (.l (.l (.l .h)))))))), (.t (.r (.r (.l (.l (.l (.l (.l .h)))))))), (.t (.l (.l (.r (.l (.l (.l (.l .h))))))))]), none⟩])
noncomputable def b66_38 : CC := (.reg [⟨(some (.l (.r (.r (.l (.l (.l (.l .h)))))))), .q (.mv (.t (.r (.r (.r .h))))), none⟩, ⟨(some (.r .h)), .q (.mv (.t (.l (.r (.r (.l (.l (.l (.l .h))))))))), none⟩])
noncomputable def b66_39 : CC := (.cond (.t (.l (.r (.l (.l (.r (.r .h))))))) (.seq b66_33 (.seq b66_34 b66_35)) (.seq b66_36 (.seq b66_37 b66_38)))
noncomputable def b66_40 : CC := (.seq b66_29 (.seq b66_30 (.seq b66_31 (.seq b66_32 b66_39))))
noncomputable def b66_41 : CC := (.seq b66_23 (.seq (.seq b66_24 b66_27) (.seq b66_28 b66_40)))
noncomputable def b66_42 : CC := (.seq (.seq b66_10 b66_13) (.seq b66_14 (.seq (.seq b66_15 b66_19) b66_41)))
noncomputable def b66_43 : CC := (.loop (.block 1 (.seq b66_3 (.seq b66_6 (.seq b66_9 b66_42)))))
def w66_43 := @wp_unf _ _ b66_43.eq_1
noncomputable def c66 : CF := .mk 8 [] (.seq b66_1 (.seq b66_2 (.block 0 b66_43)))
theorem e66 (v0 v1 v2 v3 : V) : argTr 8 [v0, v1, v2, v3] = (.n (.n (.n (.n (.n (.n (.n (.n .e none .e) none (.n .e none .e)) none (.n (.n .e none .e) none (.n .e none .e))) none (.n (.n (.n .e none .e) none (.n .e none .e)) none (.n (.n .e none .e) none (.n .e none .e)))) none (.n (.n (.n (.n .e none .e) none (.n .e none .e)) none (.n (.n .e none .e) none (.n .e none .e))) none (.n (.n (.n .e none .e) none (.n .e none .e)) none (.n (.n .e none .e) none (.n .e none .e))))) (some v3) (.n (.n (.n (.n (.n .e none .e) none (.n .e none .e)) none (.n (.n .e none .e) none (.n .e none .e))) none (.n (.n (.n .e none .e) none (.n .e none .e)) none (.n (.n .e none .e) none (.n .e none .e)))) none (.n (.n (.n (.n .e none .e) none (.n .e none .e)) none (.n (.n .e none .e) none (.n .e none .e))) none (.n (.n (.n .e none .e) none (.n .e none .e)) none (.n (.n .e none .e) none (.n .e none .e)))))) (some v1) (.n (.n (.n (.n (.n (.n .e none .e) none (.n .e none .e)) none (.n (.n .e none .e) none (.n .e none .e))) none (.n (.n (.n .e none .e) none (.n .e none .e)) none (.n (.n .e none .e) none (.n .e none .e)))) none (.n (.n (.n (.n .e none .e) none (.n .e none .e)) none (.n (.n .e none .e) none (.n .e none .e))) none (.n (.n (.n .e none .e) none (.n .e none .e)) none (.n (.n .e none .e) none (.n .e none .e))))) none (.n (.n (.n (.n (.n .e none .e) none (.n .e none .e)) none (.n (.n .e none .e) none (.n .e none .e))) none (.n (.n (.n .e none .e) none (.n .e none .e)) none (.n (.n .e none .e) none (.n .e none .e)))) none (.n (.n (.n (.n .e none .e) none (.n .e none .e)) none (.n (.n .e none .e) none (.n .e none .e))) none (.n (.n (.n .e none .e) none (.n .e none .e)) none (.n (.n .e none .e) none (.n .e none .e))))))) (some v0) (.n (.n (.n (.n (.n (.n (.n .e none .e) none (.n .e none .e)) none (.n (.n .e none .e) none (.n .e none .e))) none (.n (.n (.n .e none .e) none (.n .e none .e)) none (.n (.n .e none .e) none (.n .e none .e)))) none (.n (.n (.n (.n .e none .e) none (.n .e none .e)) none (.n (.n .e none .e) none (.n .e none .e))) none (.n (.n (.n .e none .e) none (.n .e none .e)) none (.n (.n .e none .e) none (.n .e none .e))))) none (.n (.n (.n (.n (.n .e none .e) none (.n .e none .e)) none (.n (.n .e none .e) none (.n .e none .e))) none (.n (.n (.n .e none .e) none (.n .e none .e)) none (.n (.n .e none .e) none (.n .e none .e)))) none (.n (.n (.n (.n .e none .e) none (.n .e none .e)) none (.n (.n .e none .e) none (.n .e none .e))) none (.n (.n (.n .e none .e) none (.n .e none .e)) none (.n (.n .e none .e) none (.n .e none .e)))))) (some v2) (.n (.n (.n (.n (.n (.n .e none .e) none (.n .e none .e)) none (.n (.n .e none .e) none (.n .e none .e))) none (.n (.n (.n .e none .e) none (.n .e none .e)) none (.n (.n .e none .e) none (.n .e none .e)))) none (.n (.n (.n (.n .e none .e) none (.n .e none .e)) none (.n (.n .e none .e) none (.n .e none .e))) none (.n (.n (.n .e none .e) none (.n .e none .e)) none (.n (.n .e none .e) none (.n .e none .e))))) none (.n (.n (.n (.n (.n .e none .e) none (.n .e none .e)) none (.n (.n .e none .e) none (.n .e none .e))) none (.n (.n (.n .e none .e) none (.n .e none .e)) none (.n (.n .e none .e) none (.n .e none .e)))) none (.n (.n (.n (.n .e none .e) none (.n .e none .e)) none (.n (.n .e none .e) none (.n .e none .e))) none (.n (.n (.n .e none .e) none (.n .e none .e)) none (.n (.n .e none .e) none (.n .e none .e)))))))) := rfl
noncomputable def b50_1 : CC := (.reg [⟨(some (.l (.l .h))), .q (.mv (.t .h)), none⟩, ⟨(some (.r (.l .h))), .q (.ln .slice (.t (.l (.l .h)))), none⟩, ⟨(some (.r .h)), .q (.mv (.t (.r (.l .h)))), none⟩])
def w50_1 := @wp_unf _ _ b50_1.eq_1
noncomputable def b50_2 : CC := (.reg [⟨(some (.l (.r .h))), .q (.mv (.t .h)), none⟩, ⟨(some (.r (.r .h))), .q (.mv (.t (.r .h))), none⟩, ⟨(some (.l (.l (.l .h)))), .q (.mv (.t (.r .h))), none⟩, ⟨(some (.r (.l (.l .h)))), .q (.ci .u64 (.t (.l (.l (.l .h))))), none⟩, ⟨(some (.l (.r (.l .h)))), .e (.call 67 [(.t (.r (.l (.l .h))))]), none⟩, ⟨(some (.r (.r (.l .h)))), .e (.call 66 [(.t (.l (.r .h))), (.c (.i .i64 0)), (.t (.r (.r .h))), (.t (.l (.r (.l .h))))]), none⟩])
def w50_2 := @wp_unf _ _ b50_2.eq_1
noncomputable def c50 : CF := .mk 4 [] (.seq b50_1 b50_2)
theorem e50 (v0 : V) : argTr 4 [v0] = (.n (.n (.n (.n .e none .e) none (.n .e none .e)) none (.n (.n .e none .e) none (.n .e none .e))) (some v0) (.n (.n (.n .e none .e) none (.n .e none .e)) none (.n (.n .e none .e) none (.n .e none .e)))) := rfl
noncomputable def b51_1 : CC := (.reg [⟨(some (.r (.r .h))), .q (.mv (.t .h)), none⟩, ⟨(some (.l (.l (.l .h)))), .q (.ln .slice (.t (.r (.r .h)))), none⟩, ⟨(some (.r (.l (.l .h)))), .q (.bi .lss (.t (.l (.l (.l .h)))) (.c (.i .i64 2))), none⟩])
def w51_1 := @wp_unf _ _ b51_1.eq_1
noncomputable def b51_2 : CC := (.reg [⟨(some (.l (.r (.l .h)))), .q (.mv (.t .h)), none⟩, ⟨(some (.r .h)), .q (.mv (.t (.l (.r (.l .h))))), none⟩])
def w51_2 := @wp_unf _ _ b51_2.eq_1
noncomputable def b51_3 : CC := (.seq b51_1 (.cond (.t (.r (.l (.l .h)))) (.seq b51_2 .ret) .skip))
def w51_3 := @wp_unf _ _ b51_3.eq_1
noncomputable def b51_4 : CC := (.reg [⟨(some (.l (.l .h))), .q (.mv (.c (.i .i64 1))), none⟩])
def w51_4 := @wp_unf _ _ b51_4.eq_1
noncomputable def b51_5 : CC := (.reg [⟨(some (.r (.r (.l .h)))), .q (.mv (.t (.l (.l .h)))), none⟩, ⟨(some (.l (.l (.r .h)))), .q (.mv (.t .h)), none⟩, ⟨(some (.r (.l (.r .h)))), .q (.ln .slice (.t (.l (.l (.r .h))))), none⟩, ⟨(some (.l (.r (.r .h)))), .q (.bi .lss (.t (.r (.r (.l .h)))) (.t (.r (.l (.r .h))))), none⟩])
def w51_5 := @wp_unf _ _ b51_5.eq_1
noncomputable def b51_6 : CC := (.dreg 10 [(0, 0, ⟨(some (.r (.l (.l (.l .h))))), .q (.mv (.t .h)), none⟩), (1, 0, ⟨(some (.l (.r (.l (.l .h))))), .q (.mv (.t (.l (.l .h)))), none⟩), (2, 3, ⟨(some (.r (.r (.l (.l .h))))), .q (.iaS 1 (.t (.r (.l (.l (.l .h))))) (.t (.l (.r (.l (.l .h)))))), none⟩), (3, 7, ⟨(some (.l (.l (.r (.l .h))))), .q (.ld1 (.t (.r (.r (.l (.l .h)))))), none⟩), (4, 0, ⟨(some (.r (.l (.r (.l .h))))), .q (.mv (.t .h)), none⟩), (5, 0, ⟨(some (.l (.r (.r (.l .h))))), .q (.mv (.t (.l (.l .h)))), none⟩), (6, 32, ⟨(some (.r (.r (.r (.l .h))))), .q (.bi .sub (.t (.l (.r (.r (.l .h))))) (.c (.i .i64 1))), none⟩), (7, 112, ⟨(some (.l (.l (.l (.r .h))))), .q (.iaS 1 (.t (.r (.l (.r (.l .h))))) (.t (.r (.r (.r (.l .h)))))), none⟩), (8, 240, ⟨(some (.r (.l (.l (.r .h))))), .q (.ld1 (.t (.l (.l (.l (.r .h)))))), none⟩), (9, 511, ⟨(some (.l (.r (.l (.r .h))))), .q (.bi .eql (.t (.l (.l (.r (.l .h))))) (.t (.r (.l (.l (.r .h)))))), none⟩)])
def w51_6 := @wp_unf _ _ b51_6.eq_1
noncomputable def b51_7 : CC := (.reg [⟨(some (.r (.r (.l (.r .h))))), .q (.mv (.t .h)), none⟩, ⟨(some (.l (.l (.r (.r .h))))), .q (.mv (.t (.l (.l .h)))), none⟩, ⟨(some (.r (.l (.r (.r .h))))), .q (.slL 1 (.t (.r (.r (.l (.r .h))))) (some (.t (.l (.l (.r (.r .h)))))) none none), none⟩, ⟨(some (.r (.l .h))), .q (.mv (.t (.r (.l (.r (.r .h)))))), none⟩])
def w51_7 := @wp_unf _ _ b51_7.eq_1
noncomputable def b51_8 : CC := (.reg [⟨(some (.l (.r .h))), .q (.mv (.c (.i .i64 1))), none⟩])
def w51_8 := @wp_unf _ _ b51_8.eq_1
noncomputable def b51_9 : CC := (.reg [⟨(some (.l (.r (.r (.r .h))))), .q (.mv (.t (.l (.r .h)))), none⟩, ⟨(some (.r (.r (.r (.r .h))))), .q (.mv (.t (.r (.l .h)))), none⟩, ⟨(some (.l (.l (.l (.l (.l .h)))))), .q (.ln .slice (.t (.r (.r (.r (.r .h)))))), none⟩, ⟨(some (.r (.l (.l (.l (.l .h)))))), .q (.bi .lss (.t (.l (.r (.r (.r .h))))) (.t (.l (.l (.l (.l (.l .h))))))), none⟩])
def w51_9 := @wp_unf _ _ b51_9.eq_1
noncomputable def b51_10 : CC := (.seq b51_9 (.cond (.t (.r (.l (.l (.l (.l .h)))))) .skip (.exit 2)))
def w51_10 := @wp_unf _ _ b51_10.eq_1
noncomputable def b51_11 : CC := (.dreg 10 [(0, 0, ⟨(some (.l (.l (.r (.l (.l .h)))))), .q (.mv (.t (.r (.l .h)))), none⟩), (1, 0, ⟨(some (.r (.l (.r (.l (.l .h)))))), .q (.mv (.t (.l (.r .h)))), none⟩), (2, 3, ⟨(some (.l (.r (.r (.l (.l .h)))))), .q (.iaS 1 (.t (.l (.l (.r (.l (.l .h)))))) (.t (.r (.l (.r (.l (.l .h))))))), none⟩), (3, 7, ⟨(some (.r (.r (.r (.l (.l .h)))))), .q (.ld1 (.t (.l (.r (.r (.l (.l .h))))))), none⟩), (4, 0, ⟨(some (.l (.l (.l (.r (.l .h)))))), .q (.mv (.t (.r (.l .h)))), none⟩), (5, 0, ⟨(some (.r (.l (.l (.r (.l .h)))))), .q (.mv (.t (.l (.r .h)))), none⟩), (6, 32, ⟨(some (.l (.r (.l (.r (.l .h)))))), .q (.bi .sub (.t (.r (.l (.l (.r (.l .h)))))) (.c (.i .i64 1))), none⟩), (7, 112, ⟨(some (.r (.r (.l (.r (.l .h)))))), .q (.iaS 1 (.t (.l (.l (.l (.r (.l .h)))))) (.t (.l (.r (.l (.r (.l .h))))))), none⟩), (8, 240, ⟨(some (.l (.l (.r (.r (.l .h)))))), .q (.ld1 (.t (.r (.r (.l (.r (.l .h))))))), none⟩), (9, 511, ⟨(some (.r (.l (.r (.r (.l .h)))))), .q (.bi .neq (.t (.r (.r (.r (.l (.l .h)))))) (.t (.l (.l (.r (.r (.l .h))))))), none⟩)])
def w51_11 := @wp_unf _ _ b51_11.eq_1
noncomputable def b51_12 : CC := (.reg [⟨(some (.l (.r (.r (.r (.l .h)))))), .q (.mv (.t .h)), none⟩, ⟨(some (.r (.r (.r (.r (.l .h)))))), .q (.mv (.t (.l (.l .h)))), none⟩, ⟨(some (.l (.l (.l (.l (.r .h)))))), .q (.mv (.t (.r (.l .h)))), none⟩, ⟨(some (.r (.l (.l (.l (.r .h)))))), .q (.mv (.t (.l (.r .h)))), none⟩, ⟨(some (.l (.r (.l (.l (.r .h)))))), .q (.iaS 1 (.t (.l (.l (.l (.l (.r .h)))))) (.t (.r (.l (.l (.l (.r .h))))))), none⟩, ⟨(some (.r (.r (.l (.l (.r .h)))))), .q (.ld1 (.t (.l (.r (.l (.l (.r .h))))))), none⟩, ⟨(some (.l (.l (.r (.l (.r .h)))))), .q (.iaS 1 (.t (.l (.r (.r (.r (.l .h)))))) (.t (.r (.r (.r (.r (.l .h))))))), none⟩, ⟨none, .e (.st 1 (.t (.l (.l (.r (.l (.r .h)))))) (.t (.r (.r (.l (.l (.r .h))))))), none⟩])
def w51_12 := @wp_unf _ _ b51_12.eq_1
noncomputable def b51_13 : CC := (.reg [⟨(some (.r (.l (.r (.l (.r .h)))))), .q (.mv (.t (.l (.l .h)))), none⟩, ⟨(some (.l (.r (.r (.l (.r .h)))))), .q (.bi .add (.t (.r (.l (.r (.l (.r .h)))))) (.c (.i .i64 1))), none⟩, ⟨(some (.l (.l .h))), .q (.mv (.t (.l (.r (.r (.l (.r .h))))))), none⟩])
def w51_13 := @wp_unf _ _ b51_13.eq_1
noncomputable def b51_14 : CC := (.cond (.t (.r (.l (.r (.r (.l .h)))))) (.seq b51_12 b51_13) .skip)
def w51_14 := @wp_unf _ _ b51_14.eq_1
noncomputable def b51_15 : CC := (.reg [⟨(some (.l (.r (.l (.l (.l .h)))))), .q (.mv (.t (.l (.r .h)))), none⟩, ⟨(some (.r (.r (.l (.l (.l .h)))))), .q (.bi .add (.t (.l (.r (.l (.l (.l .h)))))) (.c (.i .i64 1))), none⟩, ⟨(some (.l (.r .h))), .q (.mv (.t (.r (.r (.l (.l (.l .h))))))), none⟩])
def w51_15 := @wp_unf _ _ b51_15.eq_1
noncomputable def b51_16 : CC := (.loop (.seq b51_10 (.seq (.block 3 (.seq b51_11 b51_14)) b51_15)))
def w51_16 := @wp_unf _ _ b51_16.eq_1
noncomputable def b51_17 : CC := (.reg [⟨(some (.r (.r (.r (.l (.r .h)))))), .q (.mv (.t .h)), none⟩, ⟨(some (.l (.l (.l (.r (.r .h)))))), .q (.mv (.t (.l (.l .h)))), none⟩, ⟨(some (.r (.l (.l (.r (.r .h)))))), .q (.slL 1 (.t (.r (.r (.r (.l (.r .h)))))) (some (.t (.l (.l (.l (.r (.r .h))))))) none none), none⟩, ⟨none, .e (.clr [(.i .i64 0)] (.t (.r (.l (.l (.r (.r .h))))))), none⟩])
def w51_17 := @wp_unf _ _ b51_17.eq_1
noncomputable def b51_18 : CC := (.reg [⟨(some (.l (.r (.l (.r (.r .h)))))), .q (.mv (.t .h)), none⟩, ⟨(some (.r (.r (.l (.r (.r .h)))))), .q (.mv (.t (.l (.l .h)))), none⟩, ⟨(some (.l (.l (.r (.r (.r .h)))))), .q (.slL 1 (.t (.l (.r (.l (.r (.r .h)))))) none (some (.t (.r (.r (.l (.r (.r .h))))))) none), none⟩, ⟨(some (.r .h)), .q (.mv (.t (.l (.l (.r (.r (.r .h))))))), none⟩])
def w51_18 := @wp_unf _ _ b51_18.eq_1
noncomputable def b51_19 : CC := (.seq (.seq b51_8 (.block 2 b51_16)) (.seq b51_17 (.seq b51_18 .ret)))
def w51_19 := @wp_unf _ _ b51_19.eq_1
noncomputable def b51_20 : CC := (.cond (.t (.l (.r (.l (.r .h))))) (.seq b51_7 b51_19) .skip)
def w51_20 := @wp_unf _ _ b51_20.eq_1
noncomputable def b51_21 : CC := (.reg [⟨(some (.r (.r (.r .h)))), .q (.mv (.t (.l (.l .h)))), none⟩, ⟨(some (.l (.l (.l (.l .h))))), .q (.bi .add (.t (.r (.r (.r .h)))) (.c (.i .i64 1))), none⟩, ⟨(some (.l (.l .h))), .q (.mv (.t (.l (.l (.l (.l .h)))))), none⟩])
def w51_21 := @wp_unf _ _ b51_21.eq_1
noncomputable def b51_22 : CC := (.seq (.seq b51_5 (.cond (.t (.l (.r (.r .h)))) .skip (.exit 0))) (.seq (.block 1 (.seq b51_6 b51_20)) b51_21))
def w51_22 := @wp_unf _ _ b51_22.eq_1
noncomputable def b51_23 : CC := (.reg [⟨(some (.r (.l (.r (.r (.r .h)))))), .q (.mv (.t .h)), none⟩, ⟨(some (.r .h)), .q (.mv (.t (.r (.l (.r (.r (.r .h))))))), none⟩])
def w51_23 := @wp_unf _ _ b51_23.eq_1
noncomputable def b51_24 : CC := (.seq (.seq b51_4 (.block 0 (.loop b51_22))) (.seq b51_23 .ret))
def w51_24 := @wp_unf _ _ b51_24.eq_1
noncomputable def b51_25 : CC := (.seq (.reg [⟨(some (.r .h)), .q (.mv (.c .l0)), none⟩]) (.seq b51_3 b51_24))
def w51_25 := @wp_unf _ _ b51_25.eq_1
noncomputable def c51 : CF := .mk 6 [.t (.r .h)] b51_25
theorem e51 (v0 : V) : argTr 6 [v0] = (.n (.n (.n (.n (.n (.n .e none .e) none (.n .e none .e)) none (.n (.n .e none .e) none (.n .e none .e))) none (.n (.n (.n .e none .e) none (.n .e none .e)) none (.n (.n .e none .e) none (.n .e none .e)))) none (.n (.n (.n (.n .e none .e) none (.n .e none .e)) none (.n (.n .e none .e) none (.n .e none .e))) none (.n (.n (.n .e none .e) none (.n .e none .e)) none (.n (.n .e none .e) none (.n .e none .e))))) (some v0) (.n (.n (.n (.n (.n .e none .e) none (.n .e none .e)) none (.n (.n .e none .e) none (.n .e none .e))) none (.n (.n (.n .e none .e) none (.n .e none .e)) none (.n (.n .e none .e) none (.n .e none .e)))) none (.n (.n (.n (.n .e none .e) none (.n .e none .e)) none (.n (.n .e none .e) none (.n .e none .e))) none (.n (.n (.n .e none .e) none (.n .e none .e)) none (.n (.n .e none .e) none (.n .e none .e)))))) := rfl
theorem intE_flat (l : List Int) : (intE l).flatten = intV l := by
  induction l with
  | nil => rfl
  | cons a l ih => rw [intE, List.map_cons, List.flatten_cons]; exact congrArg _ ih
theorem isort_len (l : List Int) (h : l.length ≤ 3) : (isort l).length = l.length := by
  match l, h with
  | [], _ => rfl
  | [x], _ => rfl
  | [x, y], _ => rfl
  | [x, y, z], _ =>
    show (if z < (s2 x y).2 then (if z < (s2 x y).1 then [z, (s2 x y).1, (s2 x y).2] else [(s2 x y).1, z, (s2 x y).2]) else [(s2 x y).1, (s2 x y).2, z]).length = 3
    repeat' split
    all_goals rfl
  | _ :: _ :: _ :: _ :: _, h => exact absurd h (by simp)
theorem r79n (Φ : Nat → Option CF) (h : Φ 79 = some c79) {F : RO} {M : Mem} {c : Nat} {v : V} : Calls Φ F 79 [v, .i .i64 0, .i .i64 0] M c fun _ M' c' => M' = M ∧ c' = c := by
  refine calls_walk h ?_
  simp only [wp_seq, seqQ_nrm, seqQ_ext, wp_reg, wp_exit, wp_block, blockQ_ext, loopQ_ext, wo_nil, xo_q, wp_condF, putO, v_mv, v_bi, bi_lss, ev_t, ev_c, Tr.setP_h, Tr.setP_l, Tr.setP_r, getT_h, getT_l, getT_r, Int.reduceLT, endQ_nrm, endO, resV_nil', decide_false, if_true, and_self, e79, w79_1, w79_2, w79_10, bi_add, w64_1, Int.reduceAdd, wp_loop, Int.reduceLT]
theorem r66n (Φ : Nat → Option CF) (h : Φ 66 = some c66) (h79 : Φ 79 = some c79) {F : RO} {M : Mem} {c : Nat} {v : V} (z : Int) : Calls Φ F 66 [v, .i .i64 0, .i .i64 0, .i .i64 z] M c fun _ M' c' => M' = M ∧ c' = c := by
  refine calls_walk h ?_
  simp only [wp_seq, seqQ_nrm, wp_reg, wp_block, wo_nil, xo_q, xo_e, wp_condT, putO, v_mv, v_bi, bi_sub, bi_leq, xo_call, ev_t, ev_c, evs_nil, evs_cons, Tr.setP_h, Tr.setP_l, Tr.setP_r, getT_h, getT_l, getT_r, Int.reduceLE, decide_true, e66, w66_1, w66_2, w66_3, w66_4, w66_5, w66_6, w66_43, wp_loop, Int.reduceSub, w64_0, Int.reduceLE]
  refine putE_to ((r79n Φ h79).mono ?_)
  rintro v' M' c' ⟨rfl, rfl⟩
  simp only [seqQ_nrm, seqQ_ret, wp_ret, blockQ_ret, loopQ_ret, wo_nil, Tr.setP_h, Tr.setP_l, Tr.setP_r, endQ_ret, endO, resV_nil', and_self]
theorem r66 (Φ : Nat → Option CF) (h : Φ 66 = some c66) (h79 : Φ 79 = some c79) (h85 : Φ 85 = some (.orc (pureO h85))) {F : RO} {M : Mem} {c b : Nat} {v : V} (l : List Int) (z : Int) (ok : Okm F M c) (hl : l.length ≤ 3) (hb : b < c) (hM : M.get b = some (rowU 3 (intV l))) (hi : ∀ i, i < l.length → iaSV 1 v (.i .i64 (i : Int)) = some (.p b i)) :
    Calls Φ F 66 [v, .i .i64 0, .i .i64 (l.length : Int), .i .i64 z] M c fun _ M' c' => M' = M.set b (rowU 3 (intV (isort l))) ∧ c ≤ c' := by
  refine calls_walk h ?_
  have q : IntKind.i64.wrap ((l.length : Int) - 0) = (l.length : Int) := by rw [wrap_i64 (by omega) (by omega)]; simp
  have d : decide ((l.length : Int) ≤ 12) = true := decide_eq_true (by omega)
  simp only [wp_seq, seqQ_nrm, wp_reg, wp_block, wo_nil, xo_q, xo_e, wp_condT, putO, v_mv, v_bi, bi_sub, bi_leq, xo_call, ev_t, ev_c, evs_nil, evs_cons, Tr.setP_h, Tr.setP_l, Tr.setP_r, getT_h, getT_l, getT_r, e66, w66_1, w66_2, w66_3, w66_4, w66_5, w66_6, w66_43, wp_loop, q, d]
  refine putE_to ((r79 Φ h79 h85 l ok hl hb hM hi).mono ?_)
  rintro v' M' c' ⟨rfl, hc⟩
  simp only [seqQ_nrm, seqQ_ret, wp_ret, blockQ_ret, loopQ_ret, wo_nil, Tr.setP_h, Tr.setP_l, Tr.setP_r, endQ_ret, endO, resV_nil', true_and]
  exact hc
theorem u64_nat (n : Nat) (h : n ≤ 3) : IntKind.u64.wrap (n : Int) = (n : Int) := by rw [wrap_u64]; omega
def h67 : List V → Option V
  | [.i .u64 (.ofNat n)] => if n < 4 then some (.i .i64 (lenN n)) else none
  | _ => none
theorem h67_eq {n : Nat} (h : n < 4) : h67 [.i .u64 (n : Int)] = some (.i .i64 (lenN n)) := if_pos h
theorem r50 (Φ : Nat → Option CF) (h : Φ 50 = some c50) (h66 : Φ 66 = some c66) (h67 : Φ 67 = some (.orc (pureO h67))) (h79 : Φ 79 = some c79) (h85 : Φ 85 = some (.orc (pureO h85))) {F : RO} {M M0 : Mem} {c0 c b : Nat} {v : V} (l : List Int) (ok : Okm F M c) (hl : l.length ≤ 3) (ha : AccAt M c0 c b 3 1 v (intE l)) (hg : Gr c0 M0 c M) :
    Calls Φ F 50 [v] M c fun _ M' c' => AccAt M' c0 c' b 3 1 v (intE (isort l)) ∧ Gr c0 M0 c' M' ∧ c ≤ c' ∧ ∀ x, x ≠ b → M'.get x = M.get x := by
  have hn := int_len (ha.sl (F := F))
  have q := u64_nat l.length hl
  have hq := h67_eq (show l.length < 4 by omega)
  refine calls_walk h ?_
  simp only [lnSl, wp_seq, seqQ_nrm, wp_reg, wo_nil, xo_q, xo_e, putO, putE, v_mv, v_ln, xo_call, callC_orc, ev_t, ev_c, evs_nil, evs_cons, Tr.setP_h, Tr.setP_l, Tr.setP_r, getT_h, getT_l, getT_r, pureO_of, ofO_some, v_ci, e50, w50_1, w50_2, hn, q, h67, hq]
  rcases ha with ⟨h0, ⟨h1, rfl⟩ | ⟨h1, h2, h3, h4⟩⟩
  · have hnil : l = [] := by rw [intE, List.map_eq_nil_iff] at h1; exact h1
    subst hnil
    refine putE_to ((r66n Φ h66 h79 _).mono ?_)
    rintro v' M' c' ⟨rfl, rfl⟩
    simp only [wo_nil, Tr.setP_h, Tr.setP_l, Tr.setP_r, endQ_nrm, endO, resV_nil', List.length_nil]
    exact ⟨AccAt.nil, hg, Nat.le_refl _, fun _ _ => trivial⟩
  · rw [intE_flat] at h4
    have hlen : (intE l).length = l.length := by simp [intE]
    rw [hlen] at h3
    subst h3
    refine putE_to ((r66 Φ h66 h79 h85 l _ ok hl h2 h4 (fun i hi => by
      have := iaS_u 1 b 0 l.length 0 l.length i .i64 hi
      rwa [Nat.zero_add, Nat.mul_one] at this)).mono ?_)
    rintro v' M' c' ⟨rfl, hc⟩
    simp only [wo_nil, Tr.setP_h, Tr.setP_l, Tr.setP_r, endQ_nrm, endO, resV_nil']
    refine ⟨⟨fun e he => by obtain ⟨x, _, rfl⟩ := List.mem_map.1 he; rfl, .inr ⟨h1, by omega, ?_, ?_⟩⟩, (hg.set b _ h1 h2 (Nat.le_refl _)).up hc, hc, fun x hx => get_ne _ _ hx⟩
    · simp [intE, isort_len l hl]
    · rw [intE_flat]; exact get_same _ _ _
def compact : List Int → List Int
  | [x, y] => if y = x then [x] else [x, y]
  | [x, y, z] => if y = x then (if z = y then [x] else [x, z]) else (if z = y then [x, y] else [x, y, z])
  | l => l
theorem slU (sz b n k : Nat) (q : IntKind) (h0 : 0 < k) (h1 : k < n) : slLV sz (.u b 0 n 0 n) (some (.i q (k : Int))) none none = some (.u b (k * sz) (n - k) k n) := by
  show (slc_u sz b 0 0 n k n).val = _
  unfold slc_u
  rw [bleN, bleN, beqN, bltN, decide_eq_true (show Nat.add 0 n ≤ n by show 0 + n ≤ n; omega), decide_eq_true (show k ≤ n by omega), decide_eq_false (show ¬ k = 0 by omega), decide_eq_true (show Nat.add 0 k < n by show 0 + k < n; omega)]
  show (mkU b (Nat.add 0 (Nat.mul k sz)) (n - k) (Nat.add 0 k) n).val = _
  rw [mkU_eq, show Nat.add 0 (Nat.mul k sz) = k * sz from Nat.zero_add _, show Nat.add 0 k = k from Nat.zero_add _]; rfl
theorem slUh (sz b n k : Nat) (q : IntKind) (h1 : k ≤ n) : slLV sz (.u b 0 n 0 n) none (some (.i q (k : Int))) none = some (.u b 0 k 0 n) := by
  show (slc_u sz b 0 0 n 0 k).val = _
  unfold slc_u
  rw [bleN, bleN, decide_eq_true (show Nat.add 0 k ≤ n by show 0 + k ≤ n; omega), decide_eq_true (Nat.zero_le k)]
  show (mkU b 0 k 0 n).val = _
  rw [mkU_eq]; rfl
noncomputable def clrV (zero : List V) (v : V) (F : RO) (M : Mem) (c : Nat) : RC := e_clr zero (.c v) F M c .e
theorem x_clr_eq {Φ : Nat → Option CF} {rd : Option Nat} {fn : Nat} {F : RO} (zero : List V) (x : X) (M : Mem) (c : Nat) (t : T) : doE (.clr zero x) (K Φ rd fn F) M c t = clrV zero (x.ev t) F M c := Eq.trans rfl (Eq.refl _)
theorem clrV_u {F : RO} (zero : List V) (b o n el kn : Nat) (M : Mem) (c : Nat) (h : (n == 0) = false) : clrV zero (.u b o n el kn) F M c = er c (storeN M b o (repV zero n)) := by
  have h : n ≠ 0 := by simpa using h
  show (bif Nat.beq n 0 then RC.k undef M c else er c (storeN M b o (repV zero n))) = _
  rw [beqN, decide_eq_false h]; rfl
theorem pre_sl {F : RO} {M : Mem} {c b n kn : Nat} {l : List Int} {row : List V} (h : M.get b = some (rowU 3 row)) (hb : b < c) (hn : n ≤ kn) (hl : l.length = n) (hr : row.take n = intV l) (hrl : n ≤ row.length) : SlAt F M c 1 (.u b 0 n 0 kn) (intE l) := by
  refine ⟨fun e he => by obtain ⟨x, _, rfl⟩ := List.mem_map.1 he; rfl, .inr ⟨b, 0, .inr ⟨0, kn, by simp [intE]; omega, by simp [intE, hl]⟩, hb, ?_⟩⟩
  rw [intE_flat, ← hr]
  have := (rowAt_U (F := F) h).cells.sub 0 n (by omega)
  rwa [List.drop_zero] at this
theorem r51 (Φ : Nat → Option CF) (h : Φ 51 = some c51) {F : RO} {M M0 : Mem} {c0 c b : Nat} {v : V} (l : List Int) (hl : l.length ≤ 3) (ha : AccAt M c0 c b 3 1 v (intE l)) (hg : Gr c0 M0 c M) :
    Calls Φ F 51 [v] M c fun r M' c' => SlAt F M' c' 1 r (intE (compact l)) ∧ Gr c0 M0 c' M' := by
  have hn := int_len (ha.sl (F := F))
  refine calls_walk h ?_
  by_cases h2 : l.length < 2
  · have hd : decide ((l.length : Int) < 2) = true := decide_eq_true (by omega)
    have hc : compact l = l := by
      match l, h2 with
      | [], _ => rfl
      | [x], _ => rfl
      | _ :: _ :: _, h2 => exact absurd h2 (by simp)
    simp only [lnSl, wp_seq, seqQ_nrm, seqQ_ret, wp_reg, wp_ret, wo_nil, xo_q, wp_condT, putO, v_mv, v_bi, bi_lss, v_ln, ev_t, ev_c, Tr.setP_h, Tr.setP_l, Tr.setP_r, getT_h, getT_l, getT_r, endQ_ret, endO, resV_nil', resV_t, consO_some, oneV_one, e51, w51_1, w51_2, w51_3, w51_25, hn, hd, hc]
    exact ⟨ha.sl, hg⟩
  · rcases ha with ⟨h0, ⟨h1, _⟩ | ⟨h1, h2', h3, h4⟩⟩
    · have hnil : l = [] := by rw [intE, List.map_eq_nil_iff] at h1; exact h1
      subst hnil; exact absurd (by simp) h2
    · rw [intE_flat] at h4
      have hlen : (intE l).length = l.length := by simp [intE]
      rw [hlen] at h3
      subst h3
      have ia : ∀ i, i < l.length → iaSV 1 (.u b 0 l.length 0 l.length) (.i .i64 (i : Int)) = some (.p b i) := fun i hi => by
        have := iaS_u 1 b 0 l.length 0 l.length i .i64 hi
        rwa [Nat.zero_add, Nat.mul_one] at this
      rw [set_same h4]
      have hg' := fun x => hg.set b x h1 h2' (Nat.le_refl _)
      clear h4
      match l, hl, h2 with
      | [x, y], _, _ =>
        have i0 : iaSV 1 (.u b 0 2 0 2) (.i .i64 0) = some (.p b 0) := ia 0 (by simp)
        have i1 : iaSV 1 (.u b 0 2 0 2) (.i .i64 1) = some (.p b 1) := ia 1 (by simp)
        have s1 : slLV 1 (.u b 0 2 0 2) (some (.i .i64 1)) none none = some (.u b 1 1 1 2) := slU 1 b 2 1 .i64 (by decide) (by decide)
        have s2 : slLV 1 (.u b 0 2 0 2) none (some (.i .i64 1)) none = some (.u b 0 1 0 2) := slUh 1 b 2 1 .i64 (by decide)
        have e0 : intV [x, y] = [.i .i64 x, .i .i64 y] := rfl
        have el : ([x, y] : List Int).length = 2 := rfl
        rw [e0, el]
        simp only [wp_dreg, dregQ_eq, mergeAll_nil, wd_nil, wd_q, putD_v, putD_r, oV_some, dq_mv, dq_bi0, biQ_i, dq_ld0, ldQ_p, ldR_some, dq_iaS, v_iaS, lnSl, lnL_u, wp_seq, seqQ_nrm, wp_reg, wp_skip, wp_block, wo_nil, xo_q, wp_condT, wp_condF, putO, v_mv, v_bi, bi_sub, bi_lss, bi_eql, v_ln, ev_t, ev_c, Tr.setP_h, Tr.setP_l, Tr.setP_r, getT_h, getT_l, getT_r, Int.reduceLT, List.getElem?_cons_zero, List.getElem?_cons_succ, decide_true, decide_false, e51, w51_1, w51_3, w51_4, w51_5, w51_6, w51_20, w51_22, w51_24, w51_25, wp_loop, Int.reduceLT, Int.cast_ofNat_Int, Int.reduceSub, w64_0, i0, i1, load1_sameU]
        repeat' first | (refine wp_cond (by simp only [ev_t, getT_h, getT_l, getT_r]; rfl) (fun h => ?_) (fun h => ?_) <;> simp only [lnSl, lnL_u, wp_seq, seqQ_nrm, seqQ_ret, seqQ_ext, wp_reg, wp_ret, wp_skip, wp_exit, wp_block, blockQ_nrm, blockQ_ret, blockQ_ext, loopQ_nrm, loopQ_ret, loopQ_ext, wo_nil, xo_q, xo_e0, wp_condF, putO, putE0, v_mv, v_bi, bi_lss, v_ln, er_some, ev_t, ev_c, Tr.setP_h, Tr.setP_l, Tr.setP_r, getT_h, getT_l, getT_r, Nat.reduceBEq, Nat.reduceEqDiff, Int.reduceLT, endQ_ret, endO, resV_nil', resV_t, consO_some, oneV_one, decide_false, if_true, if_false, reduceCtorEq, allOne_nil, allOne_cons, isOne_i, Bool.and_true, over_nil, over_cons, List.set_cons_zero, List.set_cons_succ, List.length_cons, List.length_nil, Nat.reduceAdd, Nat.reduceLeDiff, Nat.zero_add, List.append_nil, Option.map_some, v_slL, Option.map_none, w51_5, w51_7, w51_8, w51_9, w51_10, w51_16, w51_17, w51_18, w51_19, w51_21, w51_22, w51_23, h, wp_loop, Int.reduceLT, Int.cast_ofNat_Int, Int.reduceAdd, bi_add, w64_2, s1, s2, lnL_u, storeN_sameU, x_clr_eq, clrV_u, repV])
        all_goals simp only [decide_eq_true_eq, decide_eq_false_iff_not] at *
        all_goals
          refine ⟨?_, (hg' _).up (by omega)⟩
          simp only [compact]
          repeat first | rw [if_pos (by assumption)] | rw [if_neg (by assumption)]
          exact pre_sl (get_same _ _ _) (by omega) (by simp) (by simp) (by rfl) (by simp)
      | [x, y, z], _, _ =>
        have i0 : iaSV 1 (.u b 0 3 0 3) (.i .i64 0) = some (.p b 0) := ia 0 (by simp)
        have i1 : iaSV 1 (.u b 0 3 0 3) (.i .i64 1) = some (.p b 1) := ia 1 (by simp)
        have i2 : iaSV 1 (.u b 0 3 0 3) (.i .i64 2) = some (.p b 2) := ia 2 (by simp)
        have j0 : iaSV 1 (.u b 1 2 1 3) (.i .i64 0) = some (.p b 1) := iaS_u 1 b 1 2 1 3 0 .i64 (by decide)
        have j1 : iaSV 1 (.u b 1 2 1 3) (.i .i64 1) = some (.p b 2) := iaS_u 1 b 1 2 1 3 1 .i64 (by decide)
        have k0 : iaSV 1 (.u b 2 1 2 3) (.i .i64 0) = some (.p b 2) := iaS_u 1 b 2 1 2 3 0 .i64 (by decide)
        have s1 : slLV 1 (.u b 0 3 0 3) (some (.i .i64 1)) none none = some (.u b 1 2 1 3) := slU 1 b 3 1 .i64 (by decide) (by decide)
        have s2 : slLV 1 (.u b 0 3 0 3) (some (.i .i64 2)) none none = some (.u b 2 1 2 3) := slU 1 b 3 2 .i64 (by decide) (by decide)
        have s3 : slLV 1 (.u b 0 3 0 3) none (some (.i .i64 1)) none = some (.u b 0 1 0 3) := slUh 1 b 3 1 .i64 (by decide)
        have s4 : slLV 1 (.u b 0 3 0 3) none (some (.i .i64 2)) none = some (.u b 0 2 0 3) := slUh 1 b 3 2 .i64 (by decide)
        have e0 : intV [x, y, z] = [.i .i64 x, .i .i64 y, .i .i64 z] := rfl
        have el : ([x, y, z] : List Int).length = 3 := rfl
        rw [e0, el]
        simp only [wp_dreg, dregQ_eq, mergeAll_nil, wd_nil, wd_q, putD_v, putD_r, oV_some, dq_mv, dq_bi0, biQ_i, dq_ld0, ldQ_p, ldR_some, dq_iaS, v_iaS, lnSl, lnL_u, wp_seq, seqQ_nrm, wp_reg, wp_skip, wp_block, wo_nil, xo_q, wp_condT, wp_condF, putO, v_mv, v_bi, bi_sub, bi_lss, bi_eql, v_ln, ev_t, ev_c, Tr.setP_h, Tr.setP_l, Tr.setP_r, getT_h, getT_l, getT_r, Int.reduceLT, List.getElem?_cons_zero, List.getElem?_cons_succ, decide_true, decide_false, e51, w51_1, w51_3, w51_4, w51_5, w51_6, w51_20, w51_22, w51_24, w51_25, wp_loop, Int.reduceLT, Int.cast_ofNat_Int, Int.reduceSub, w64_0, i0, i1, load1_sameU]
        repeat' first | (refine wp_cond (by simp only [ev_t, getT_h, getT_l, getT_r]; rfl) (fun h => ?_) (fun h => ?_) <;> simp only [wp_dreg, dregQ_eq, mergeAll_nil, wd_nil, wd_q, putD_v, putD_r, oV_some, dq_mv, dq_bi0, biQ_i, dq_ld0, ldQ_p, ldR_some, dq_iaS, v_iaS, lnSl, lnL_u, wp_seq, seqQ_nrm, seqQ_ret, seqQ_ext, wp_reg, wp_ret, wp_skip, wp_exit, wp_block, blockQ_nrm, blockQ_ret, blockQ_ext, loopQ_nrm, loopQ_ret, loopQ_ext, wo_nil, xo_q, xo_e0, wp_condT, wp_condF, putO, putE0, v_mv, v_bi, bi_sub, bi_lss, bi_eql, bi_neq, v_ln, v_ld1, ld1_p, e_st_eq, er_some, ev_t, ev_c, Tr.setP_h, Tr.setP_l, Tr.setP_r, getT_h, getT_l, getT_r, Nat.reduceBEq, Nat.reduceEqDiff, Int.reduceLT, List.getElem?_cons_zero, List.getElem?_cons_succ, endQ_ret, endO, resV_nil', resV_t, consO_some, oneV_one, decide_true, decide_false, if_true, if_false, reduceCtorEq, flatten_i, allOne_nil, allOne_cons, isOne_i, Bool.and_true, over_nil, over_cons, List.set_cons_zero, List.set_cons_succ, List.length_cons, List.length_nil, Nat.reduceAdd, Nat.reduceLeDiff, Nat.zero_add, List.nil_append, List.append_nil, List.cons_append, Option.map_some, Nat.add_assoc, v_slL, Option.map_none, w51_5, w51_6, w51_7, w51_8, w51_9, w51_10, w51_11, w51_12, w51_13, w51_14, w51_15, w51_16, w51_17, w51_18, w51_19, w51_20, w51_21, w51_22, w51_23, h, wp_loop, Int.reduceLT, Int.cast_ofNat_Int, Int.reduceSub, Int.reduceAdd, bi_add, w64_0, w64_1, w64_2, w64_3, i1, i2, j0, j1, s1, s2, s3, s4, lnL_u, load1_sameU, storeN_sameU, x_clr_eq, clrV_u, repV])
        all_goals simp only [decide_eq_true_eq, decide_eq_false_iff_not, ne_eq, Classical.not_not] at *
        all_goals
          refine ⟨?_, (hg' _).up (by omega)⟩
          simp only [compact]
          repeat first | rw [if_pos (by assumption)] | rw [if_neg (by assumption)]
          exact pre_sl (get_same _ _ _) (by omega) (by simp) (by simp) (by rfl) (by simp)
      | [], _, h2 => exact absurd (by simp) h2
      | [_], _, h2 => exact absurd (by simp) h2
      | _ :: _ :: _ :: _ :: _, hl, _ => exact absurd hl (by simp)
end Go.Proofs.YtffpeieapadocaaGreatDoor.Ev
set_option maxRecDepth 10000
set_option maxHeartbeats 16000000
namespace Go.Proofs.YtffpeieapadocaaGreatDoor.Ev
open Go
noncomputable def b30_1 : CC := (.reg [⟨(some (.l .h)), .a (.bx 26 5 (.t .h)), none⟩, ⟨(some (.r .h)), .q (.mv (.c .l0)), none⟩])
def w30_1 := @wp_unf _ _ b30_1.eq_1
noncomputable def b30_2 : CC := (.reg [⟨(some (.l (.l (.r .h)))), .q (.fa 0 (.t (.l .h))), none⟩, ⟨(some (.r (.l (.r .h)))), .q (.ld1 (.t (.l (.l (.r .h))))), none⟩, ⟨(some (.l (.r (.r .h)))), .e (.call 26 [(.t (.r (.l (.r .h))))]), none⟩, ⟨(some (.r (.r (.r .h)))), .e (.call 38 [(.t (.l (.r (.r .h))))]), none⟩, ⟨(some (.r (.r (.l .h)))), .q (.mv (.t (.r (.r (.r .h))))), none⟩, ⟨(some (.l (.l (.l (.l .h))))), .q (.ex 0 (.t (.r (.r (.l .h))))), none⟩, ⟨(some (.r (.l (.l (.l .h))))), .q (.ex 1 (.t (.r (.r (.l .h))))), none⟩, ⟨(some (.l (.r (.l (.l .h))))), .q (.ex 2 (.t (.r (.r (.l .h))))), none⟩, ⟨(some (.r (.r (.l (.l .h))))), .q (.ex 3 (.t (.r (.r (.l .h))))), none⟩, ⟨(some (.l (.l .h))), .q (.mv (.t (.l (.l (.l (.l .h)))))), none⟩, ⟨(some (.r (.l .h))), .q (.mv (.t (.r (.l (.l (.l .h)))))), none⟩, ⟨(some (.l (.r .h))), .q (.mv (.t (.l (.r (.l (.l .h)))))), none⟩, ⟨(some (.r (.r .h))), .q (.mv (.t (.r (.r (.l (.l .h)))))), none⟩])
def w30_2 := @wp_unf _ _ b30_2.eq_1
noncomputable def b30_3 : CC := (.reg [⟨(some (.l (.l (.l .h)))), .a (.al 104 [(.b false), (.b false), (.b false), (.b false), (.b false), (.b false), (.b false), (.b false), (.b false), (.b false), (.b false), (.b false), (.b false), (.b false), (.b false), (.b false)]), none⟩])
def w30_3 := @wp_unf _ _ b30_3.eq_1
noncomputable def b30_4 : CC := (.reg [⟨(some (.l (.l (.r (.l .h))))), .q (.mv (.t (.r (.l .h)))), none⟩])
def w30_4 := @wp_unf _ _ b30_4.eq_1
noncomputable def b30_5 : CC := (.reg [⟨(some (.r (.l (.r (.l .h))))), .q (.fa 2 (.t (.l .h))), none⟩, ⟨(some (.l (.r (.r (.l .h))))), .q (.ld1 (.t (.r (.l (.r (.l .h)))))), none⟩, ⟨(some (.r (.r (.r (.l .h))))), .q (.iaA 16 1 (.t (.l (.l (.l .h)))) (.t (.l (.r (.r (.l .h)))))), none⟩, ⟨none, .e (.st 1 (.t (.r (.r (.r (.l .h))))) (.c (.b true))), none⟩])
def w30_5 := @wp_unf _ _ b30_5.eq_1
noncomputable def b30_6 : CC := (.seq b30_4 (.cond (.t (.l (.l (.r (.l .h))))) b30_5 .skip))
def w30_6 := @wp_unf _ _ b30_6.eq_1
noncomputable def b30_7 : CC := (.reg [⟨(some (.l (.l (.l (.r .h))))), .q (.mv (.t (.l (.r .h)))), none⟩])
def w30_7 := @wp_unf _ _ b30_7.eq_1
noncomputable def b30_8 : CC := (.reg [⟨(some (.r (.l (.l (.r .h))))), .q (.fa 3 (.t (.l .h))), none⟩, ⟨(some (.l (.r (.l (.r .h))))), .q (.ld1 (.t (.r (.l (.l (.r .h)))))), none⟩, ⟨(some (.r (.r (.l (.r .h))))), .q (.iaA 16 1 (.t (.l (.l (.l .h)))) (.t (.l (.r (.l (.r .h)))))), none⟩, ⟨none, .e (.st 1 (.t (.r (.r (.l (.r .h))))) (.c (.b true))), none⟩])
def w30_8 := @wp_unf _ _ b30_8.eq_1
noncomputable def b30_9 : CC := (.seq b30_7 (.cond (.t (.l (.l (.l (.r .h))))) b30_8 .skip))
def w30_9 := @wp_unf _ _ b30_9.eq_1
noncomputable def b30_10 : CC := (.reg [⟨(some (.l (.l (.r (.r .h))))), .q (.fa 0 (.t (.l .h))), none⟩, ⟨(some (.r (.l (.r (.r .h))))), .q (.ld1 (.t (.l (.l (.r (.r .h)))))), none⟩])
def w30_10 := @wp_unf _ _ b30_10.eq_1
noncomputable def b30_11 : CC := (.reg [⟨(some (.r (.r (.r (.r .h))))), .q (.bi .eql (.t (.r (.l (.r (.r .h))))) (.c (.i .i64 6))), none⟩, ⟨(some (.l (.r (.r (.r .h))))), .q (.mv (.t (.r (.r (.r (.r .h)))))), none⟩])
def w30_11 := @wp_unf _ _ b30_11.eq_1
noncomputable def b30_12 : CC := (.reg [⟨(some (.l (.l (.l (.l (.l .h)))))), .q (.bi .eql (.t (.r (.l (.r (.r .h))))) (.c (.i .i64 20))), none⟩, ⟨(some (.l (.r (.r (.r .h))))), .q (.mv (.t (.l (.l (.l (.l (.l .h))))))), none⟩])
def w30_12 := @wp_unf _ _ b30_12.eq_1
noncomputable def b30_13 : CC := (.reg [⟨(some (.r (.l (.l (.l (.l .h)))))), .q (.bi .eql (.t (.r (.l (.r (.r .h))))) (.c (.i .i64 22))), none⟩, ⟨(some (.l (.r (.r (.r .h))))), .q (.mv (.t (.r (.l (.l (.l (.l .h))))))), none⟩])
def w30_13 := @wp_unf _ _ b30_13.eq_1
noncomputable def b30_14 : CC := (.reg [⟨(some (.l (.r (.l (.l (.l .h)))))), .q (.bi .eql (.t (.r (.l (.r (.r .h))))) (.c (.i .i64 26))), none⟩, ⟨(some (.l (.r (.r (.r .h))))), .q (.mv (.t (.l (.r (.l (.l (.l .h))))))), none⟩])
def w30_14 := @wp_unf _ _ b30_14.eq_1
noncomputable def b30_15 : CC := (.reg [⟨(some (.r (.r (.l (.l (.l .h)))))), .q (.bi .eql (.t (.r (.l (.r (.r .h))))) (.c (.i .i64 27))), none⟩, ⟨(some (.l (.r (.r (.r .h))))), .q (.mv (.t (.r (.r (.l (.l (.l .h))))))), none⟩])
def w30_15 := @wp_unf _ _ b30_15.eq_1
noncomputable def b30_16 : CC := (.reg [⟨(some (.l (.l (.r (.l (.l .h)))))), .q (.bi .eql (.t (.r (.l (.r (.r .h))))) (.c (.i .i64 28))), none⟩, ⟨(some (.l (.r (.r (.r .h))))), .q (.mv (.t (.l (.l (.r (.l (.l .h))))))), none⟩])
def w30_16 := @wp_unf _ _ b30_16.eq_1
noncomputable def b30_17 : CC := (.seq b30_15 (.cond (.t (.l (.r (.r (.r .h))))) .skip b30_16))
def w30_17 := @wp_unf _ _ b30_17.eq_1
noncomputable def b30_18 : CC := (.seq b30_14 (.cond (.t (.l (.r (.r (.r .h))))) .skip b30_17))
def w30_18 := @wp_unf _ _ b30_18.eq_1
noncomputable def b30_19 : CC := (.seq b30_13 (.cond (.t (.l (.r (.r (.r .h))))) .skip b30_18))
def w30_19 := @wp_unf _ _ b30_19.eq_1
noncomputable def b30_20 : CC := (.seq b30_12 (.cond (.t (.l (.r (.r (.r .h))))) .skip b30_19))
def w30_20 := @wp_unf _ _ b30_20.eq_1
noncomputable def b30_21 : CC := (.seq b30_11 (.cond (.t (.l (.r (.r (.r .h))))) .skip b30_20))
def w30_21 := @wp_unf _ _ b30_21.eq_1
noncomputable def b30_22 : CC := (.reg [⟨(some (.r (.l (.r (.l (.l .h)))))), .q (.fa 1 (.t (.l .h))), none⟩, ⟨(some (.l (.r (.r (.l (.l .h)))))), .q (.ld1 (.t (.r (.l (.r (.l (.l .h))))))), none⟩, ⟨(some (.r (.r (.r (.l (.l .h)))))), .q (.iaA 16 1 (.t (.l (.l (.l .h)))) (.t (.l (.r (.r (.l (.l .h))))))), none⟩, ⟨none, .e (.st 1 (.t (.r (.r (.r (.l (.l .h)))))) (.c (.b true))), none⟩])
def w30_22 := @wp_unf _ _ b30_22.eq_1
noncomputable def b30_23 : CC := (.seq b30_21 (.cond (.t (.l (.r (.r (.r .h))))) b30_22 .skip))
def w30_23 := @wp_unf _ _ b30_23.eq_1
noncomputable def b30_24 : CC := (.reg [⟨(some (.r (.l (.l .h)))), .q (.mv (.c .l0)), none⟩])
def w30_24 := @wp_unf _ _ b30_24.eq_1
noncomputable def b30_25 : CC := (.reg [⟨(some (.l (.r (.l .h)))), .q (.mv (.c (.i .i64 0))), none⟩])
def w30_25 := @wp_unf _ _ b30_25.eq_1
noncomputable def b30_26 : CC := (.reg [⟨(some (.l (.l (.l (.r (.l .h)))))), .q (.mv (.t (.l (.r (.l .h))))), none⟩, ⟨(some (.r (.l (.l (.r (.l .h)))))), .q (.bi .lss (.t (.l (.l (.l (.r (.l .h)))))) (.c (.i .i64 16))), none⟩])
def w30_26 := @wp_unf _ _ b30_26.eq_1
noncomputable def b30_27 : CC := (.seq b30_26 (.cond (.t (.r (.l (.l (.r (.l .h)))))) .skip (.exit 1)))
def w30_27 := @wp_unf _ _ b30_27.eq_1
noncomputable def b30_28 : CC := (.reg [⟨(some (.l (.l (.r (.r (.l .h)))))), .q (.mv (.t (.l (.r (.l .h))))), none⟩, ⟨(some (.r (.l (.r (.r (.l .h)))))), .q (.iaA 16 1 (.t (.l (.l (.l .h)))) (.t (.l (.l (.r (.r (.l .h))))))), none⟩, ⟨(some (.l (.r (.r (.r (.l .h)))))), .q (.ld1 (.t (.r (.l (.r (.r (.l .h))))))), none⟩])
def w30_28 := @wp_unf _ _ b30_28.eq_1
noncomputable def b30_29 : CC := (.reg [⟨(some (.r (.r (.r (.r (.l .h)))))), .q (.mv (.t (.r (.l (.l .h))))), none⟩, ⟨(some (.l (.l (.l (.l (.r .h)))))), .q (.mv (.t (.l (.r (.l .h))))), none⟩, ⟨(some (.r (.l (.l (.l (.r .h)))))), .a (.bsl 3 1 1 [(.i .i64 0)] [(0, (.t (.l (.l (.l (.l (.r .h)))))))]), none⟩, ⟨(some (.l (.r (.l (.l (.r .h)))))), .e (.app 3 1 8 (.t (.r (.r (.r (.r (.l .h)))))) (.t (.r (.l (.l (.l (.r .h))))))), none⟩, ⟨(some (.r (.l (.l .h)))), .q (.mv (.t (.l (.r (.l (.l (.r .h))))))), none⟩])
def w30_29 := @wp_unf _ _ b30_29.eq_1
noncomputable def b30_30 : CC := (.seq b30_28 (.cond (.t (.l (.r (.r (.r (.l .h)))))) b30_29 .skip))
def w30_30 := @wp_unf _ _ b30_30.eq_1
noncomputable def b30_31 : CC := (.reg [⟨(some (.l (.r (.l (.r (.l .h)))))), .q (.mv (.t (.l (.r (.l .h))))), none⟩, ⟨(some (.r (.r (.l (.r (.l .h)))))), .q (.bi .add (.t (.l (.r (.l (.r (.l .h)))))) (.c (.i .i64 1))), none⟩, ⟨(some (.l (.r (.l .h)))), .q (.mv (.t (.r (.r (.l (.r (.l .h))))))), none⟩])
def w30_31 := @wp_unf _ _ b30_31.eq_1
noncomputable def b30_32 : CC := (.block 1 (.loop (.seq b30_27 (.seq (.block 2 b30_30) b30_31))))
def w30_32 := @wp_unf _ _ b30_32.eq_1
noncomputable def b30_33 : CC := (.reg [⟨(some (.r (.r (.l (.l (.r .h)))))), .q (.mv (.t (.r (.l (.l .h))))), none⟩, ⟨(some (.r .h)), .q (.mv (.t (.r (.r (.l (.l (.r .h))))))), none⟩])
def w30_33 := @wp_unf _ _ b30_33.eq_1
noncomputable def b30_34 : CC := (.seq b30_24 (.seq (.seq b30_25 b30_32) (.seq b30_33 .ret)))
def w30_34 := @wp_unf _ _ b30_34.eq_1
noncomputable def b30_35 : CC := (.seq b30_6 (.seq b30_9 (.seq (.seq b30_10 (.block 0 b30_23)) b30_34)))
def w30_35 := @wp_unf _ _ b30_35.eq_1
noncomputable def c30 : CF := .mk 6 [.t (.r .h)] (.seq b30_1 (.seq b30_2 (.seq b30_3 b30_35)))
theorem e30 (v0 : V) : argTr 6 [v0] = (.n (.n (.n (.n (.n (.n .e none .e) none (.n .e none .e)) none (.n (.n .e none .e) none (.n .e none .e))) none (.n (.n (.n .e none .e) none (.n .e none .e)) none (.n (.n .e none .e) none (.n .e none .e)))) none (.n (.n (.n (.n .e none .e) none (.n .e none .e)) none (.n (.n .e none .e) none (.n .e none .e))) none (.n (.n (.n .e none .e) none (.n .e none .e)) none (.n (.n .e none .e) none (.n .e none .e))))) (some v0) (.n (.n (.n (.n (.n .e none .e) none (.n .e none .e)) none (.n (.n .e none .e) none (.n .e none .e))) none (.n (.n (.n .e none .e) none (.n .e none .e)) none (.n (.n .e none .e) none (.n .e none .e)))) none (.n (.n (.n (.n .e none .e) none (.n .e none .e)) none (.n (.n .e none .e) none (.n .e none .e))) none (.n (.n (.n .e none .e) none (.n .e none .e)) none (.n (.n .e none .e) none (.n .e none .e)))))) := rfl
noncomputable def iaAV (len sz : Nat) (x i : V) : Option V := (qop (.iaA len sz (.c x) (.c i)) [] .e .e).val
theorem v_iaA {F : RO} (len sz : Nat) (x i : X) (M : Mem) (t : T) : (qop (.iaA len sz x i) F M t).val = iaAV len sz (x.ev t) (i.ev t) := Eq.trans rfl (Eq.refl _)
theorem iaA_p (len sz b o n : Nat) (k : IntKind) (h : n < len) : iaAV len sz (.p b o) (.i k (n : Int)) = some (.p b (o + n * sz)) := by
  show (q_ia sz b o len (n : Int)).val = _
  show (Bool.rec (motive := fun _ => QR) .f (mkP b (Nat.add o (Nat.mul n sz))) (Nat.blt n len)).val = _
  rw [bb, bltN, if_pos (by simpa using h)]
  unfold mkP
  rw [fN_eq]; rfl
noncomputable def arrV (f : Nat → Bool) : List V := (List.range 16).map fun n => V.b (f n)
def fU (f : Nat → Bool) (k n : Nat) : Bool := f n || decide (n = k)
theorem arrV_len (f : Nat → Bool) : (arrV f).length = 16 := by simp [arrV]
theorem arrV_get (f : Nat → Bool) {k : Nat} (h : k < 16) : (arrV f)[k]? = some (.b (f k)) := by
  unfold arrV
  rw [List.getElem?_map, List.getElem?_range h]; rfl
theorem arrV_set (f : Nat → Bool) (k : Nat) : (arrV f).set k (.b true) = arrV (fU f k) := by
  refine List.ext_getElem? fun n => ?_
  rw [List.getElem?_set]
  by_cases hn : n < 16
  · rw [arrV_get _ hn, arrV_get _ hn, arrV_len]
    by_cases h : k = n
    · subst h; rw [if_pos rfl, if_pos hn]; simp [fU]
    · rw [if_neg h]
      have : decide (n = k) = false := decide_eq_false (fun e => h e.symm)
      simp [fU, this]
  · rw [List.getElem?_eq_none (by rw [arrV_len]; omega), List.getElem?_eq_none (l := arrV (fU f k)) (by rw [arrV_len]; omega), arrV_len]
    split
    · rw [if_neg (by omega)]
    · rfl
theorem allOne_arr (f : Nat → Bool) : allOne (arrV f) = true := by
  have : ∀ l : List Nat, allOne (l.map fun n => V.b (f n)) = true := by
    intro l
    induction l with
    | nil => rfl
    | cons a l ih => rw [List.map_cons, allOne_cons, ih]; rfl
  exact this _
theorem arr0 : [V.b false, V.b false, V.b false, V.b false, V.b false, V.b false, V.b false, V.b false, V.b false, V.b false, V.b false, V.b false, V.b false, V.b false, V.b false, V.b false] = arrV fun _ => false := rfl
def selL (f : Nat → Bool) (k : Nat) : List Int := ((List.range k).filter f).map Int.ofNat
theorem selL_len (f : Nat → Bool) (k : Nat) : (selL f k).length ≤ k := by
  unfold selL
  rw [List.length_map]
  exact Nat.le_trans (List.length_filter_le _ _) (by simp)
theorem selL_t {f : Nat → Bool} {k : Nat} (h : f k = true) : selL f (k + 1) = selL f k ++ [(k : Int)] := by
  unfold selL
  rw [List.range_succ, List.filter_append, List.map_append, List.filter_cons, if_pos h]; rfl
theorem selL_f {f : Nat → Bool} {k : Nat} (h : f k = false) : selL f (k + 1) = selL f k := by
  unfold selL
  rw [List.range_succ, List.filter_append, List.map_append, List.filter_cons, if_neg (by simp [h])]; simp
theorem loop30 (Φ : Nat → Option CF) {F : RO} {M : Mem} {c ba : Nat} (f : Nat → Bool) (u : List (Option V)) (hA : M.get ba = some (rowB 104 (arrV f))) (hb : ba < c) (ok : Okm F M c) {P : V → Mem → Nat → Prop}
    (hP : ∀ r M' c', SlAt F M' c' 1 r (intE (selL f 16)) → Gr c M c' M' → P r M' c') :
    Wp (b30_27.seq ((CC.block 2 b30_30).seq b30_31)).loop (K Φ none 30 F) (.mk ((.n (.n (.n (.n (.n (.n .e (uO u 31) .e) (uO u 15) (.n .e (uO u 47) .e)) (some (.p ba 0)) (.n (.n .e (uO u 39) .e) (uO u 23) (.n .e (uO u 55) .e))) (uO u 3) (.n (.n (.n .e (uO u 35) .e) (uO u 19) (.n .e (uO u 51) .e)) (uO u 11) (.n (.n .e (uO u 43) .e) (uO u 27) (.n .e (uO u 59) .e)))) (uO u 1) (.n (.n (.n (.n .e (uO u 33) .e) (uO u 17) (.n .e (uO u 49) .e)) (some (.i .i64 0)) (.n (.n .e (uO u 41) .e) (uO u 25) (.n .e (uO u 57) .e))) (uO u 5) (.n (.n (.n .e (uO u 37) .e) (uO u 21) (.n .e (uO u 53) .e)) (uO u 13) (.n (.n .e (uO u 45) .e) (uO u 29) (.n .e (uO u 61) .e))))) (uO u 0) (.n (.n (.n (.n (.n .e (uO u 32) .e) (uO u 16) (.n .e (uO u 48) .e)) (some (.l0)) (.n (.n .e (uO u 40) .e) (uO u 24) (.n .e (uO u 56) .e))) (uO u 4) (.n (.n (.n .e (uO u 36) .e) (uO u 20) (.n .e (uO u 52) .e)) (uO u 12) (.n (.n .e (uO u 44) .e) (uO u 28) (.n .e (uO u 60) .e)))) (uO u 2) (.n (.n (.n (.n .e (uO u 34) .e) (uO u 18) (.n .e (uO u 50) .e)) (uO u 10) (.n (.n .e (uO u 42) .e) (uO u 26) (.n .e (uO u 58) .e))) (uO u 6) (.n (.n (.n .e (uO u 38) .e) (uO u 22) (.n .e (uO u 54) .e)) (uO u 14) (.n (.n .e (uO u 46) .e) (uO u 30) (.n .e (uO u 62) .e))))))) [] M c) (blockQ 1 (seqQ (b30_33.seq CC.ret) (K Φ none 30 F) (endQ F [RV.t Pos.h.r] P))) := by
  obtain ⟨I, hI⟩ : ∃ I : Nat → St → Prop, ∀ n s, I n s ↔ (∃ (k : Nat) (M1 : Mem) (c1 bw : Nat) (acc : V) (u : List (Option V)), n = 16 - k ∧ k ≤ 16 ∧ s = .mk ((.n (.n (.n (.n (.n (.n .e (uO u 31) .e) (uO u 15) (.n .e (uO u 47) .e)) (some (.p ba 0)) (.n (.n .e (uO u 39) .e) (uO u 23) (.n .e (uO u 55) .e))) (uO u 3) (.n (.n (.n .e (uO u 35) .e) (uO u 19) (.n .e (uO u 51) .e)) (uO u 11) (.n (.n .e (uO u 43) .e) (uO u 27) (.n .e (uO u 59) .e)))) (uO u 1) (.n (.n (.n (.n .e (uO u 33) .e) (uO u 17) (.n .e (uO u 49) .e)) (some (.i .i64 (k : Int))) (.n (.n .e (uO u 41) .e) (uO u 25) (.n .e (uO u 57) .e))) (uO u 5) (.n (.n (.n .e (uO u 37) .e) (uO u 21) (.n .e (uO u 53) .e)) (uO u 13) (.n (.n .e (uO u 45) .e) (uO u 29) (.n .e (uO u 61) .e))))) (uO u 0) (.n (.n (.n (.n (.n .e (uO u 32) .e) (uO u 16) (.n .e (uO u 48) .e)) (some (acc)) (.n (.n .e (uO u 40) .e) (uO u 24) (.n .e (uO u 56) .e))) (uO u 4) (.n (.n (.n .e (uO u 36) .e) (uO u 20) (.n .e (uO u 52) .e)) (uO u 12) (.n (.n .e (uO u 44) .e) (uO u 28) (.n .e (uO u 60) .e)))) (uO u 2) (.n (.n (.n (.n .e (uO u 34) .e) (uO u 18) (.n .e (uO u 50) .e)) (uO u 10) (.n (.n .e (uO u 42) .e) (uO u 26) (.n .e (uO u 58) .e))) (uO u 6) (.n (.n (.n .e (uO u 38) .e) (uO u 22) (.n .e (uO u 54) .e)) (uO u 14) (.n (.n .e (uO u 46) .e) (uO u 30) (.n .e (uO u 62) .e))))))) [] M1 c1 ∧ Gr c M c1 M1 ∧ AccAt M1 c c1 bw 3 1 acc (intE (selL f k))) := ⟨fun n s => _, fun _ _ => Iff.rfl⟩
  refine wp_while I ?_ 16 _ ((hI _ _).2 ⟨0, _, _, c, _, u, rfl, Nat.zero_le _, rfl, Gr.refl ok, AccAt.nil⟩)
  intro n s hIs
  obtain ⟨k, M1, c1, bw, acc, u, rfl, hk, rfl, hg, hacc⟩ := (hI _ _).1 hIs
  clear hIs
  have q8 : biV .add (.i .i64 (k : Int)) (.i .i64 1) = some (.i .i64 ((k + 1 : Nat) : Int)) := by rw [i64_add _ _ (by omega) (by omega)]; simp
  by_cases hlt : k < 16
  · have hd : decide ((k : Int) < 16) = true := decide_eq_true (by omega)
    have hia : iaAV 16 1 (.p ba 0) (.i .i64 (k : Int)) = some (.p ba (k * 1)) := by rw [iaA_p 16 1 ba 0 k .i64 hlt, Nat.zero_add]
    have hld : load1 F M1 ba (k * 1) = some (.b (f k)) := by
      rw [load1_fr (hg.old ba hb), set_same hA, load1_same, Nat.mul_one]; exact arrV_get f hlt
    cases hf : f k with
    | true =>
      rw [hf] at hld
      simp only [wp_seq, seqQ_nrm, wp_reg, wp_skip, wp_block, wo_nil, xo_q, xo_a, xo_e, wp_condT, putO, putA, v_mv, v_bi, bi_lss, v_ld1, ld1_p, ev_t, ev_c, Tr.setP_h, Tr.setP_l, Tr.setP_r, getT_h, getT_l, getT_r, if_true, flatten_i, allOne_nil, allOne_cons, isOne_i, Bool.and_true, List.length_cons, List.length_nil, Nat.zero_add, and_self, List.nil_append, List.cons_append, Option.map_some, x_app_eq, a_bsl_w, evPs_nil, evPs_cons, partsR_nil, partsR_cons, bslO_some, Option.isSome_some, w30_26, w30_27, w30_28, w30_29, w30_30, hd, v_iaA, hia, hld]
      have hlen : (intE (selL f k)).length ≤ 16 := by have := selL_len f k; simp [intE]; omega
      refine putE_to ((appV_to (ns := intE [(k : Int)]) (hacc.up (c' := c1 + 1) (by omega) (fun hb => get_ne _ _ (by omega))) (hg.set c1 _ hg.le (Nat.lt_succ_self _) (Nat.le_succ _)) Nat.one_pos (slD (get_same _ _ _) (by omega) (by simp [intE]) rfl) rfl (room_of (by simp [intE] at hlen ⊢; omega) (by simp [intE] at hlen ⊢; omega))).mono ?_)
      rintro v6 M6 c6 ⟨bw', hacc6, hg6, -, -, -⟩
      simp only [seqQ_nrm, wp_reg, blockQ_nrm, wo_nil, xo_q, putO, v_mv, v_bi, ev_t, ev_c, Tr.setP_h, Tr.setP_l, Tr.setP_r, getT_h, getT_l, getT_r, roundQ_nrm, w30_31, q8]
      refine ⟨16 - (k + 1), by omega, (hI _ _).2 ⟨k + 1, M6, c6, bw', v6, [_, _, _, _, _, _, _, none, none, none, _, _, _, _, _, _, _, _, _, _, _, _, _, _, _, _, _, _, _, _, _, _, _, _, _, _, _, _, _, _, _, _, _, _, _, _, _, _, _, _, _, _, _, _, _, _, _, _, _, _, _, _, _], rfl, by omega, rfl, hg6, ?_⟩⟩
      rw [selL_t hf]
      unfold intE at hacc6 ⊢
      rw [List.map_append]; exact hacc6
    | false =>
      rw [hf] at hld
      simp only [wp_seq, seqQ_nrm, wp_reg, wp_skip, wp_block, blockQ_nrm, wo_nil, xo_q, wp_condT, wp_condF, putO, v_mv, v_bi, bi_lss, v_ld1, ld1_p, ev_t, ev_c, Tr.setP_h, Tr.setP_l, Tr.setP_r, getT_h, getT_l, getT_r, roundQ_nrm, w30_26, w30_27, w30_28, w30_30, w30_31, hd, v_iaA, hia, hld, q8]
      exact ⟨16 - (k + 1), by omega, (hI _ _).2 ⟨k + 1, M1, c1, bw, acc, [_, _, _, _, _, _, _, none, none, none, _, _, _, _, _, _, _, _, _, _, _, _, _, _, _, _, _, _, _, _, _, _, _, _, _, _, _, _, _, _, _, _, _, _, _, _, _, _, _, _, _, _, _, _, _, _, _, _, _, _, _, _, _], rfl, by omega, rfl, hg, by rw [selL_f hf]; exact hacc⟩⟩
  · have hd : decide ((k : Int) < 16) = false := decide_eq_false (by omega)
    obtain rfl : k = 16 := by omega
    simp only [wp_seq, seqQ_nrm, seqQ_ext, wp_reg, wp_ret, wp_exit, blockQ_ext, wo_nil, xo_q, wp_condF, putO, v_mv, v_bi, bi_lss, ev_t, ev_c, Tr.setP_h, Tr.setP_l, Tr.setP_r, getT_h, getT_l, getT_r, endQ_ret, endO, resV_nil', resV_t, consO_some, oneV_one, if_true, roundQ_ext, w30_26, w30_27, w30_33, hd]
    exact hP _ _ _ hacc.sl hg
def rdB (op : Int) : Bool := decide (op = 6 ∨ op = 20 ∨ op = 22 ∨ op = 26 ∨ op = 27 ∨ op = 28)
def regF (op : Int) (d a b : Nat) (n : Nat) : Bool := (aI (formI op) && decide (n = a)) || (bI (formI op) && decide (n = b)) || (rdB op && decide (n = d))
def regsL (op : Int) (d a b : Nat) : List Int := selL (regF op d a b) 16
theorem selL_congr {f g : Nat → Bool} : ∀ {k : Nat}, (∀ n, n < k → f n = g n) → selL f k = selL g k
  | 0, _ => rfl
  | k + 1, h => by
    have h1 := selL_congr (fun n hn => h n (Nat.lt_succ_of_lt hn))
    have h2 := h k (Nat.lt_succ_self _)
    cases hf : f k with
    | true => rw [selL_t hf, selL_t (h2 ▸ hf), h1]
    | false => rw [selL_f hf, selL_f (h2 ▸ hf), h1]
theorem r30 (Φ : Nat → Option CF) (h : Φ 30 = some c30) (h26 : Φ 26 = some (.orc (pureO h25))) (h38 : Φ 38 = some (.orc (pureO h38))) {F : RO} {M : Mem} {c : Nat} (op i : Int) (d a b : Nat) (hd : d < 16) (ha : a < 16) (hb : b < 16) (ok : Okm F M c) :
    Calls Φ F 30 [.g [.i .i64 op, .i .i64 (d : Int), .i .i64 (a : Int), .i .i64 (b : Int), .i .i64 i]] M c fun r M' c' => SlAt F M' c' 1 r (intE (regsL op d a b)) ∧ Gr c M c' M' := by
  have ed : d + 1 ≤ 16 := hd
  have ea : a + 1 ≤ 16 := ha
  have eb : b + 1 ≤ 16 := hb
  have pd := fun bb => iaA_p 16 1 bb 0 d .i64 hd
  have pa := fun bb => iaA_p 16 1 bb 0 a .i64 ha
  have pb := fun bb => iaA_p 16 1 bb 0 b .i64 hb
  refine calls_walk h ?_
  cases hA : aI (formI op) <;> cases hB : bI (formI op) <;> cases hR : rdB op
  all_goals
    simp only [wp_seq, seqQ_nrm, wp_reg, wp_skip, wp_block, wo_nil, xo_q, xo_a, xo_e, xo_e0, wp_condT, wp_condF, putO, putA, putE, putE0, v_mv, v_bi, bi_eql, v_ld1, ld1_p, load1_same, v_fa, e_st_eq, er_some, xo_call, callC_orc, ev_t, ev_c, evs_nil, evs_cons, Tr.setP_h, Tr.setP_l, Tr.setP_r, getT_h, getT_l, getT_r, List.getElem?_cons_zero, List.getElem?_cons_succ, if_true, pureO_of, ofO_some, flatten_b, flatten_g, allOne_nil, allOne_cons, isOne_b, isOne_i, Bool.and_true, over_nil, over_cons, List.length_cons, List.length_nil, Nat.reduceAdd, Nat.zero_add, and_self, v_ex, load1_ne, storeN_same, a_al_eq, a_bx_eq, ne_add0, Nat.add_assoc, e30, w30_1, w30_2, w30_3, w30_4, w30_5, w30_6, w30_7, w30_8, w30_9, w30_10, w30_11, w30_21, w30_23, w30_35, h26, h25_eq, h38, h38_eq, hA, hB, arr0, v_iaA, pa, pb, arrV_len, ea, eb, arrV_set, Nat.mul_one, allOne_arr]
    repeat' first | (refine wp_cond (by simp only [ev_t, getT_h, getT_l, getT_r]; rfl) (fun h => ?_) (fun h => ?_) <;> simp only [wp_seq, seqQ_nrm, wp_reg, wp_skip, wp_block, blockQ_nrm, wo_nil, xo_q, xo_e0, wp_condT, putO, putE0, v_mv, v_bi, bi_eql, v_ld1, ld1_p, load1_same, v_fa, e_st_eq, er_some, ev_t, ev_c, Tr.setP_h, Tr.setP_l, Tr.setP_r, getT_h, getT_l, getT_r, List.getElem?_cons_zero, List.getElem?_cons_succ, if_true, flatten_b, allOne_nil, allOne_cons, isOne_b, Bool.and_true, over_nil, over_cons, List.length_cons, List.length_nil, Nat.zero_add, load1_ne, storeN_same, ne_add0, w30_12, w30_13, w30_14, w30_15, w30_16, w30_17, w30_18, w30_19, w30_20, w30_22, w30_24, w30_25, w30_32, w30_34, h, arrV_len, ed, arrV_set, Nat.mul_one, v_iaA, pd])
  all_goals
    first
    | (exfalso
       unfold rdB at hR
       simp only [decide_eq_true_eq, decide_eq_false_iff_not] at *
       omega)
    | (refine loop30 Φ _ [_, _, _, _, _, _, _, none, none, none, _, _, _, _, _, _, _, _, _, _, _, _, _, _, _, _, _, _, _, _, _, _, _, _, _, _, _, _, _, _, _, _, _, _, _, _, _, _, _, _, _, _, _, _, _, _, _, _, _, _, _, _, _] (get_same _ _ _) (by omega) ((((Gr.refl ok).set (c2 := c + 1) c _ (Nat.le_refl _) (by omega) (by omega)).set (c2 := c + 2) (c + 1) _ (by omega) (by omega) (by omega)).ok ok) ?_
       intro r M' c' hs hg
       refine ⟨?_, (((Gr.refl ok).set (c2 := c + 1) c _ (Nat.le_refl _) (by omega) (by omega)).set (c2 := c + 2) (c + 1) _ (by omega) (by omega) (by omega)).trans hg⟩
       unfold regsL
       rw [selL_congr (f := regF op d a b)]
       · exact hs
       · intro n hn
         unfold regF
         rw [hA, hB, hR]
         simp [fU, Bool.or_comm])
end Go.Proofs.YtffpeieapadocaaGreatDoor.Ev
set_option maxRecDepth 10000
set_option maxHeartbeats 16000000
namespace Go.Proofs.YtffpeieapadocaaGreatDoor.Ev
open Go
noncomputable def b19_1 : CC := (.reg [⟨(some (.l .h)), .a (.bx 26 5 (.t .h)), none⟩, ⟨(some (.r .h)), .q (.mv (.c .l0)), none⟩])
def w19_1 := @wp_unf _ _ b19_1.eq_1
noncomputable def b19_2 : CC := (.reg [⟨(some (.l (.l (.l .h)))), .q (.ldn 5 (.t (.l .h))), none⟩, ⟨(some (.r (.l (.l .h)))), .e (.call 37 [(.t (.l (.l (.l .h))))]), none⟩, ⟨(some (.l (.r (.l .h)))), .q (.un .not (.t (.r (.l (.l .h))))), none⟩])
def w19_2 := @wp_unf _ _ b19_2.eq_1
noncomputable def b19_3 : CC := (.seq (.reg [⟨(some (.r .h)), .q (.mv (.c .l0)), none⟩]) .ret)
def w19_3 := @wp_unf _ _ b19_3.eq_1
noncomputable def b19_4 : CC := (.reg [⟨(some (.r (.r (.l .h)))), .q (.fa 0 (.t (.l .h))), none⟩, ⟨(some (.l (.l (.r .h)))), .q (.ld1 (.t (.r (.r (.l .h))))), none⟩, ⟨(some (.r (.l (.r .h)))), .e (.call 25 [(.t (.l (.l (.r .h))))]), none⟩, ⟨(some (.l (.r (.r .h)))), .e (.call 40 [(.t (.r (.l (.r .h))))]), none⟩, ⟨(some (.l (.l .h))), .a (.al 80 [(.b false), (.b false), (.b false), (.b false)]), none⟩, ⟨none, .e (.st 4 (.t (.l (.l .h))) (.t (.l (.r (.r .h))))), none⟩])
def w19_4 := @wp_unf _ _ b19_4.eq_1
noncomputable def b19_5 : CC := (.reg [⟨(some (.r (.r (.r .h)))), .q (.fa 1 (.t (.l (.l .h)))), none⟩, ⟨(some (.l (.l (.l (.l .h))))), .q (.ld1 (.t (.r (.r (.r .h))))), none⟩])
def w19_5 := @wp_unf _ _ b19_5.eq_1
noncomputable def b19_6 : CC := (.reg [⟨(some (.r (.l (.l (.l .h))))), .q (.mv (.t (.r (.l .h)))), none⟩, ⟨(some (.l (.r (.l (.l .h))))), .q (.fa 2 (.t (.l .h))), none⟩, ⟨(some (.r (.r (.l (.l .h))))), .q (.ld1 (.t (.l (.r (.l (.l .h)))))), none⟩, ⟨(some (.l (.l (.r (.l .h))))), .a (.bsl 3 1 1 [(.i .i64 0)] [(0, (.t (.r (.r (.l (.l .h))))))]), none⟩, ⟨(some (.r (.l (.r (.l .h))))), .e (.app 3 1 8 (.t (.r (.l (.l (.l .h))))) (.t (.l (.l (.r (.l .h)))))), none⟩, ⟨(some (.r (.l .h))), .q (.mv (.t (.r (.l (.r (.l .h)))))), none⟩])
def w19_6 := @wp_unf _ _ b19_6.eq_1
noncomputable def b19_7 : CC := (.seq b19_5 (.cond (.t (.l (.l (.l (.l .h))))) b19_6 .skip))
def w19_7 := @wp_unf _ _ b19_7.eq_1
noncomputable def b19_8 : CC := (.reg [⟨(some (.l (.r (.r (.l .h))))), .q (.fa 2 (.t (.l (.l .h)))), none⟩, ⟨(some (.r (.r (.r (.l .h))))), .q (.ld1 (.t (.l (.r (.r (.l .h)))))), none⟩])
def w19_8 := @wp_unf _ _ b19_8.eq_1
noncomputable def b19_9 : CC := (.reg [⟨(some (.l (.l (.l (.r .h))))), .q (.mv (.t (.r (.l .h)))), none⟩, ⟨(some (.r (.l (.l (.r .h))))), .q (.fa 3 (.t (.l .h))), none⟩, ⟨(some (.l (.r (.l (.r .h))))), .q (.ld1 (.t (.r (.l (.l (.r .h)))))), none⟩, ⟨(some (.r (.r (.l (.r .h))))), .a (.bsl 3 1 1 [(.i .i64 0)] [(0, (.t (.l (.r (.l (.r .h))))))]), none⟩, ⟨(some (.l (.l (.r (.r .h))))), .e (.app 3 1 8 (.t (.l (.l (.l (.r .h))))) (.t (.r (.r (.l (.r .h)))))), none⟩, ⟨(some (.r (.l .h))), .q (.mv (.t (.l (.l (.r (.r .h)))))), none⟩])
def w19_9 := @wp_unf _ _ b19_9.eq_1
noncomputable def b19_10 : CC := (.seq b19_8 (.cond (.t (.r (.r (.r (.l .h))))) b19_9 .skip))
def w19_10 := @wp_unf _ _ b19_10.eq_1
noncomputable def b19_11 : CC := (.reg [⟨(some (.l (.r (.r (.r .h))))), .q (.ldn 5 (.t (.l .h))), none⟩, ⟨(some (.r (.r (.r (.r .h))))), .e (.call 20 [(.t (.l (.r (.r (.r .h)))))]), none⟩, ⟨(some (.r (.l (.r (.r .h))))), .q (.mv (.t (.r (.r (.r (.r .h)))))), none⟩, ⟨(some (.l (.l (.l (.l (.l .h)))))), .q (.ex 0 (.t (.r (.l (.r (.r .h)))))), none⟩, ⟨(some (.r (.l (.l (.l (.l .h)))))), .q (.ex 1 (.t (.r (.l (.r (.r .h)))))), none⟩, ⟨(some (.l (.r .h))), .q (.mv (.t (.l (.l (.l (.l (.l .h))))))), none⟩, ⟨(some (.r (.r .h))), .q (.mv (.t (.r (.l (.l (.l (.l .h))))))), none⟩])
def w19_11 := @wp_unf _ _ b19_11.eq_1
noncomputable def b19_12 : CC := (.reg [⟨(some (.l (.r (.l (.l (.l .h)))))), .q (.fa 0 (.t (.l (.l .h)))), none⟩, ⟨(some (.r (.r (.l (.l (.l .h)))))), .q (.ld1 (.t (.l (.r (.l (.l (.l .h))))))), none⟩, ⟨(some (.l (.l (.r (.l (.l .h)))))), .q (.mv (.t (.r (.r (.l (.l (.l .h))))))), none⟩, ⟨(some (.r (.l (.r (.l (.l .h)))))), .q (.mv (.t (.r (.r .h)))), (some ((.l (.l (.r (.l (.l .h))))), true))⟩, ⟨(some (.l (.r (.r (.l (.l .h)))))), .q (.un .not (.t (.r (.l (.r (.l (.l .h))))))), (some ((.l (.l (.r (.l (.l .h))))), true))⟩, ⟨(some (.r (.r (.r (.l (.l .h)))))), .q (.pk (.t (.l (.l (.r (.l (.l .h)))))) (.t (.l (.r (.r (.l (.l .h)))))) (.c (.b false))), none⟩, ⟨(some (.l (.l (.l (.r (.l .h)))))), .q (.mv (.t (.r (.r (.r (.l (.l .h))))))), none⟩, ⟨(some (.r (.l (.l (.r (.l .h)))))), .q (.fa 0 (.t (.l .h))), (some ((.l (.l (.l (.r (.l .h))))), false))⟩, ⟨(some (.l (.r (.l (.r (.l .h)))))), .q (.ld1 (.t (.r (.l (.l (.r (.l .h))))))), (some ((.l (.l (.l (.r (.l .h))))), false))⟩, ⟨(some (.r (.r (.l (.r (.l .h)))))), .q (.bi .eql (.t (.l (.r (.l (.r (.l .h)))))) (.c (.i .i64 6))), (some ((.l (.l (.l (.r (.l .h))))), false))⟩, ⟨(some (.l (.l (.r (.r (.l .h)))))), .q (.pk (.t (.l (.l (.l (.r (.l .h)))))) (.c (.b true)) (.t (.r (.r (.l (.r (.l .h))))))), none⟩])
def w19_12 := @wp_unf _ _ b19_12.eq_1
noncomputable def b19_13 : CC := (.reg [⟨(some (.r (.l (.r (.r (.l .h)))))), .q (.mv (.t (.r (.l .h)))), none⟩, ⟨(some (.l (.r (.r (.r (.l .h)))))), .q (.fa 1 (.t (.l .h))), none⟩, ⟨(some (.r (.r (.r (.r (.l .h)))))), .q (.ld1 (.t (.l (.r (.r (.r (.l .h))))))), none⟩, ⟨(some (.l (.l (.l (.l (.r .h)))))), .a (.bsl 3 1 1 [(.i .i64 0)] [(0, (.t (.r (.r (.r (.r (.l .h)))))))]), none⟩, ⟨(some (.r (.l (.l (.l (.r .h)))))), .e (.app 3 1 8 (.t (.r (.l (.r (.r (.l .h)))))) (.t (.l (.l (.l (.l (.r .h))))))), none⟩, ⟨(some (.r (.l .h))), .q (.mv (.t (.r (.l (.l (.l (.r .h))))))), none⟩])
def w19_13 := @wp_unf _ _ b19_13.eq_1
noncomputable def b19_14 : CC := (.seq b19_12 (.cond (.t (.l (.l (.r (.r (.l .h)))))) b19_13 .skip))
def w19_14 := @wp_unf _ _ b19_14.eq_1
noncomputable def b19_15 : CC := (.reg [⟨(some (.l (.r (.l (.l (.r .h)))))), .q (.mv (.t (.r (.l .h)))), none⟩, ⟨(some (.r (.r (.l (.l (.r .h)))))), .e (.call 50 [(.t (.l (.r (.l (.l (.r .h))))))]), none⟩])
def w19_15 := @wp_unf _ _ b19_15.eq_1
noncomputable def b19_16 : CC := (.reg [⟨(some (.l (.l (.r (.l (.r .h)))))), .q (.mv (.t (.r (.l .h)))), none⟩, ⟨(some (.r (.l (.r (.l (.r .h)))))), .e (.call 51 [(.t (.l (.l (.r (.l (.r .h))))))]), none⟩, ⟨(some (.r .h)), .q (.mv (.t (.r (.l (.r (.l (.r .h))))))), none⟩])
def w19_16 := @wp_unf _ _ b19_16.eq_1
noncomputable def b19_17 : CC := (.seq (.seq b19_11 b19_14) (.seq b19_15 (.seq b19_16 .ret)))
def w19_17 := @wp_unf _ _ b19_17.eq_1
noncomputable def b19_18 : CC := (.seq (.reg [⟨(some (.r (.l .h))), .q (.mv (.c .l0)), none⟩]) (.seq b19_7 (.seq b19_10 b19_17)))
noncomputable def b19_19 : CC := (.seq (.seq b19_2 (.cond (.t (.l (.r (.l .h)))) b19_3 .skip)) (.seq b19_4 b19_18))
noncomputable def c19 : CF := .mk 6 [.t (.r .h)] (.seq b19_1 b19_19)
theorem e19 (v0 : V) : argTr 6 [v0] = (.n (.n (.n (.n (.n (.n .e none .e) none (.n .e none .e)) none (.n (.n .e none .e) none (.n .e none .e))) none (.n (.n (.n .e none .e) none (.n .e none .e)) none (.n (.n .e none .e) none (.n .e none .e)))) none (.n (.n (.n (.n .e none .e) none (.n .e none .e)) none (.n (.n .e none .e) none (.n .e none .e))) none (.n (.n (.n .e none .e) none (.n .e none .e)) none (.n (.n .e none .e) none (.n .e none .e))))) (some v0) (.n (.n (.n (.n (.n .e none .e) none (.n .e none .e)) none (.n (.n .e none .e) none (.n .e none .e))) none (.n (.n (.n .e none .e) none (.n .e none .e)) none (.n (.n .e none .e) none (.n .e none .e)))) none (.n (.n (.n (.n .e none .e) none (.n .e none .e)) none (.n (.n .e none .e) none (.n .e none .e))) none (.n (.n (.n .e none .e) none (.n .e none .e)) none (.n (.n .e none .e) none (.n .e none .e)))))) := rfl
def h20 : List V → Option V
  | [.g [.i .i64 op, .i .i64 d, .i .i64 a, .i .i64 b, .i .i64 i]] => some (.t [.i .i64 (if (mayI op d a b i && wrB op) = true then d else 0), .b (mayI op d a b i && wrB op)])
  | _ => none
theorem h20_eq (op d a b i : Int) : h20 [.g [.i .i64 op, .i .i64 d, .i .i64 a, .i .i64 b, .i .i64 i]] = some (.t [.i .i64 (if (mayI op d a b i && wrB op) = true then d else 0), .b (mayI op d a b i && wrB op)]) := rfl
def rdsL (op d a b : Int) : List Int := (if aI (formI op) = true then [a] else []) ++ ((if bI (formI op) = true then [b] else []) ++ (if ((dI (formI op) && !wrB op) || decide (op = 6)) = true then [d] else []))
theorem tF19 (Φ : Nat → Option CF) (h50 : Φ 50 = some c50) (h51 : Φ 51 = some c51) (h66 : Φ 66 = some c66) (h67 : Φ 67 = some (.orc (pureO h67))) (h79 : Φ 79 = some c79) (h85 : Φ 85 = some (.orc (pureO h85))) {F : RO} {M0 M : Mem} {c0 c b : Nat} {acc : V} {l : List Int} (u : List (Option V)) (ok : Okm F M c) (hl : l.length ≤ 3) (ha : AccAt M c0 c b 3 1 acc (intE l)) (hg : Gr c0 M0 c M) {P : V → Mem → Nat → Prop}
    (hP : ∀ r M' c', SlAt F M' c' 1 r (intE (compact (isort l))) → Gr c0 M0 c' M' → P r M' c') :
    Wp b19_15 (K Φ none 19 F) (.mk ((.n (.n (.n (.n (.n (.n .e (uO u 31) .e) (uO u 15) (.n .e (uO u 47) .e)) (uO u 7) (.n (.n .e (uO u 39) .e) (uO u 23) (.n .e (uO u 55) .e))) (uO u 3) (.n (.n (.n .e (uO u 35) .e) (uO u 19) (.n .e (uO u 51) .e)) (uO u 11) (.n (.n .e (uO u 43) .e) (uO u 27) (.n .e (uO u 59) .e)))) (uO u 1) (.n (.n (.n (.n .e (uO u 33) .e) (uO u 17) (.n .e (uO u 49) .e)) (uO u 9) (.n (.n .e (uO u 41) .e) (uO u 25) (.n .e (uO u 57) .e))) (uO u 5) (.n (.n (.n .e (uO u 37) .e) (uO u 21) (.n .e (uO u 53) .e)) (uO u 13) (.n (.n .e (uO u 45) .e) (uO u 29) (.n .e (uO u 61) .e))))) (uO u 0) (.n (.n (.n (.n (.n .e (uO u 32) .e) (uO u 16) (.n .e (uO u 48) .e)) (uO u 8) (.n (.n .e (uO u 40) .e) (uO u 24) (.n .e (uO u 56) .e))) (some (acc)) (.n (.n (.n .e (uO u 36) .e) (uO u 20) (.n .e (uO u 52) .e)) (uO u 12) (.n (.n .e (uO u 44) .e) (uO u 28) (.n .e (uO u 60) .e)))) (uO u 2) (.n (.n (.n (.n .e (uO u 34) .e) (uO u 18) (.n .e (uO u 50) .e)) (uO u 10) (.n (.n .e (uO u 42) .e) (uO u 26) (.n .e (uO u 58) .e))) (uO u 6) (.n (.n (.n .e (uO u 38) .e) (uO u 22) (.n .e (uO u 54) .e)) (uO u 14) (.n (.n .e (uO u 46) .e) (uO u 30) (.n .e (uO u 62) .e))))))) [] M c) (seqQ (b19_16.seq CC.ret) (K Φ none 19 F) (endQ F [RV.t Pos.h.r] P)) := by
  simp only [wp_reg, xo_q, xo_e, putO, v_mv, xo_call, ev_t, evs_nil, evs_cons, Tr.setP_h, Tr.setP_l, Tr.setP_r, getT_h, getT_l, getT_r, w19_15]
  refine putE_to ((r50 Φ h50 h66 h67 h79 h85 l ok hl ha hg).mono ?_)
  rintro v7 M7 c7 ⟨ha7, hg7, -, -⟩
  simp only [wp_seq, seqQ_nrm, wp_reg, wo_nil, xo_q, xo_e, putO, v_mv, xo_call, ev_t, evs_nil, evs_cons, Tr.setP_h, Tr.setP_l, Tr.setP_r, getT_h, getT_l, getT_r, w19_16]
  refine putE_to ((r51 Φ h51 (isort l) (by rw [isort_len _ hl]; exact hl) ha7 hg7).mono ?_)
  rintro v8 M8 c8 ⟨hs8, hg8⟩
  simp only [seqQ_nrm, wp_ret, wo_nil, xo_q, putO, v_mv, ev_t, Tr.setP_h, Tr.setP_l, Tr.setP_r, getT_h, getT_l, getT_r, endQ_ret, endO, resV_nil', resV_t, consO_some, oneV_one]
  exact hP _ _ _ hs8 hg8
theorem tD19 (Φ : Nat → Option CF) (h20' : Φ 20 = some (.orc (pureO h20))) (h50 : Φ 50 = some c50) (h51 : Φ 51 = some c51) (h66 : Φ 66 = some c66) (h67 : Φ 67 = some (.orc (pureO h67))) (h79 : Φ 79 = some c79) (h85 : Φ 85 = some (.orc (pureO h85))) {F : RO} {M0 M : Mem} {c0 c k bw : Nat} {acc : V} {l : List Int} (op d a b i : Int) (y2 y3 y4 : V) (u : List (Option V)) (hm : mayI op d a b i = true) (ok0 : Okm F M0 c0) (hl : l.length ≤ 2) (hk : k + 2 ≤ c) (hgk : M.get k = some (rowB 26 [.i .i64 op, .i .i64 d, .i .i64 a, .i .i64 b, .i .i64 i])) (hgk1 : M.get (k + 1) = some (rowB 80 [.b (dI (formI op)), y2, y3, y4]))
    (ha : AccAt M c0 c bw 3 1 acc (intE l)) (hg : Gr c0 M0 c M) (hk0 : k + 2 ≤ c0) {P : V → Mem → Nat → Prop}
    (hP : ∀ r M' c', SlAt F M' c' 1 r (intE (compact (isort (l ++ (if ((dI (formI op) && !wrB op) || decide (op = 6)) = true then [d] else []))))) → Gr c0 M0 c' M' → P r M' c') :
    Wp b19_17 (K Φ none 19 F) (.mk ((.n (.n (.n (.n (.n (.n .e (uO u 31) .e) (uO u 15) (.n .e (uO u 47) .e)) (uO u 7) (.n (.n .e (uO u 39) .e) (uO u 23) (.n .e (uO u 55) .e))) (some (.p (k + 1) 0)) (.n (.n (.n .e (uO u 35) .e) (uO u 19) (.n .e (uO u 51) .e)) (uO u 11) (.n (.n .e (uO u 43) .e) (uO u 27) (.n .e (uO u 59) .e)))) (some (.p k 0)) (.n (.n (.n (.n .e (uO u 33) .e) (uO u 17) (.n .e (uO u 49) .e)) (uO u 9) (.n (.n .e (uO u 41) .e) (uO u 25) (.n .e (uO u 57) .e))) (uO u 5) (.n (.n (.n .e (uO u 37) .e) (uO u 21) (.n .e (uO u 53) .e)) (uO u 13) (.n (.n .e (uO u 45) .e) (uO u 29) (.n .e (uO u 61) .e))))) (uO u 0) (.n (.n (.n (.n (.n .e (uO u 32) .e) (uO u 16) (.n .e (uO u 48) .e)) (uO u 8) (.n (.n .e (uO u 40) .e) (uO u 24) (.n .e (uO u 56) .e))) (some (acc)) (.n (.n (.n .e (uO u 36) .e) (uO u 20) (.n .e (uO u 52) .e)) (uO u 12) (.n (.n .e (uO u 44) .e) (uO u 28) (.n .e (uO u 60) .e)))) (uO u 2) (.n (.n (.n (.n .e (uO u 34) .e) (uO u 18) (.n .e (uO u 50) .e)) (uO u 10) (.n (.n .e (uO u 42) .e) (uO u 26) (.n .e (uO u 58) .e))) (uO u 6) (.n (.n (.n .e (uO u 38) .e) (uO u 22) (.n .e (uO u 54) .e)) (uO u 14) (.n (.n .e (uO u 46) .e) (uO u 30) (.n .e (uO u 62) .e))))))) [] M c) (endQ F [RV.t Pos.h.r] P) := by
  have ld := load_row (F := F) hgk
  have le := load_row (F := F) hgk1
  have ln := loadN_row (F := F) hgk 5 rfl
  have tf := @tF19 Φ h50 h51 h66 h67 h79 h85 F
  rw [w19_17]
  generalize b19_15 = B at tf ⊢
  have hlen : (intE l).length = l.length := by simp [intE]
  cases hD : dI (formI op) <;> cases hW : wrB op <;> cases h6 : decide (op = 6)
  all_goals
    rw [hD, hW, h6] at hP
    rw [hD] at le
    simp only [wp_seq, seqQ_nrm, wp_reg, wp_skip, wo_nil, xo_q, xo_a, xo_e, wo_gT, wo_gF, wp_condT, wp_condF, putO, putA, putE, setT_some, v_mv, v_pk, pkV_T, pkV_F, v_bi, bi_eql, v_un, un_not, v_ld1, v_ldn, ld1_p, ldn_p, v_fa, xo_call, callC_orc, ev_t, ev_c, evs_nil, evs_cons, Tr.setP_h, Tr.setP_l, Tr.setP_r, getT_h, getT_l, getT_r, List.getElem?_cons_zero, List.getElem?_cons_succ, Bool.not_true, Bool.not_false, Bool.false_eq_true, if_true, if_false, pureO_of, ofO_some, flatten_i, allOne_nil, allOne_cons, isOne_i, Bool.and_true, Bool.true_and, List.length_cons, List.length_nil, Nat.zero_add, and_self, v_ex, List.nil_append, List.cons_append, Option.map_some, x_app_eq, a_bsl_w, evPs_nil, evPs_cons, partsR_nil, partsR_cons, bslO_some, Option.isSome_some, w19_11, w19_12, w19_13, w19_14, hm, h20', h20_eq, ld, le, ln, hW, h6, List.getElem?_cons_zero, List.getElem?_cons_succ]
  all_goals
    first
    | exact tf (l := l) [_, _, _, _, none, _, _, _, _, _, _, _, _, _, _, _, _, _, _, _, _, _, _, _, _, _, _, _, _, _, _, _, _, _, _, _, _, _, _, _, _, _, _, _, _, _, _, _, _, _, _, _, _, _, _, _, _, _, _, _, _, _, _] (hg.ok ok0) (by omega) ha hg (fun r M' c' hs hg' => hP r M' c' (by simpa using hs) hg')
    | (refine putE_to ((appV_to (ns := intE [d]) (ha.up (c' := c + 1) (by omega) (fun hb => get_ne _ _ (by omega))) (hg.set c _ hg.le (Nat.lt_succ_self _) (Nat.le_succ _)) Nat.one_pos (slD (get_same _ _ _) (by omega) (by simp [intE]) rfl) rfl (room_of (by rw [hlen]; simp [intE]; omega) (by rw [hlen]; simp [intE]; omega))).mono ?_)
       rintro v6 M6 c6 ⟨b6, ha6, hg6, -, -, -⟩
       simp only [wp_seq, seqQ_nrm, wo_nil, xo_q, putO, v_mv, ev_t, Tr.setP_h, Tr.setP_l, Tr.setP_r, getT_h, getT_l, getT_r]
       refine tf (l := l ++ [d]) [_, _, _, _, none, _, _, _, _, _, _, _, _, _, _, _, _, _, _, _, _, _, _, _, _, _, _, _, _, _, _, _, _, _, _, _, _, _, _, _, _, _, _, _, _, _, _, _, _, _, _, _, _, _, _, _, _, _, _, _, _, _, _] (hg6.ok ok0) (by simp; omega) (by unfold intE at ha6 ⊢; rw [List.map_append]; exact ha6) hg6 (fun r M' c' hs hg' => hP r M' c' hs hg'))
theorem r19 (Φ : Nat → Option CF) (h : Φ 19 = some c19) (h20' : Φ 20 = some (.orc (pureO h20))) (h25 : Φ 25 = some (.orc (pureO h25))) (h37 : Φ 37 = some (.orc (pureO h37))) (h40 : Φ 40 = some (.orc (pureO h40)))
    (h50 : Φ 50 = some c50) (h51 : Φ 51 = some c51) (h66 : Φ 66 = some c66) (h67 : Φ 67 = some (.orc (pureO h67))) (h79 : Φ 79 = some c79) (h85 : Φ 85 = some (.orc (pureO h85))) {F : RO} {M : Mem} {c : Nat} (op d a b i : Int) (ok : Okm F M c) :
    Calls Φ F 19 [.g [.i .i64 op, .i .i64 d, .i .i64 a, .i .i64 b, .i .i64 i]] M c fun r M' c' => SlAt F M' c' 1 r (intE (if mayI op d a b i = true then compact (isort (rdsL op d a b)) else [])) ∧ Gr c M c' M' := by
  refine calls_walk h ?_
  have g2 : ∀ y z, Gr c M (c + 2) ((M.set c y).set (c + 1) z) := fun y z => ((Gr.refl ok).set (c2 := c + 1) c _ (Nat.le_refl _) (by omega) (by omega)).set (c2 := c + 2) (c + 1) _ (by omega) (by omega) (by omega)
  have td := @tD19 Φ h20' h50 h51 h66 h67 h79 h85 F
  unfold b19_19 b19_18
  generalize b19_17 = B at td ⊢
  cases hm : mayI op d a b i with
  | false =>
    simp only [wp_seq, seqQ_nrm, seqQ_ret, wp_reg, wp_ret, wo_nil, xo_q, xo_a, xo_e, wp_condT, putO, putA, putE, v_mv, v_un, un_not, v_ldn, ldn_p, xo_call, callC_orc, ev_t, ev_c, evs_nil, evs_cons, Tr.setP_h, Tr.setP_l, Tr.setP_r, getT_h, getT_l, getT_r, endQ_ret, endO, resV_nil', resV_t, consO_some, oneV_one, Bool.not_false, Bool.false_eq_true, if_true, if_false, pureO_of, ofO_some, flatten_g, allOne_nil, allOne_cons, isOne_i, Bool.and_true, List.length_cons, List.length_nil, Nat.reduceAdd, Nat.reduceLeDiff, Nat.zero_add, and_self, loadN_same, a_bx_eq, List.drop_zero, List.take_succ_cons, List.take_nil, Option.map_some, e19, w19_1, w19_2, w19_3, h37, h37_eq, hm]
    exact ⟨(AccAt.nil (c0 := c) (b := c) (ty := 3)).sl, (Gr.refl ok).set (c2 := c + 1) c _ (Nat.le_refl _) (by omega) (by omega)⟩
  | true =>
    cases hA : aI (formI op) <;> cases hB : bI (formI op)
    all_goals
      simp only [wp_seq, seqQ_nrm, wp_reg, wp_skip, wo_nil, xo_q, xo_a, xo_e, xo_e0, wp_condT, wp_condF, putO, putA, putE, putE0, v_mv, v_un, un_not, v_ld1, v_ldn, ld1_p, ldn_p, load1_same, v_fa, e_st_eq, er_some, xo_call, callC_orc, ev_t, ev_c, evs_nil, evs_cons, Tr.setP_h, Tr.setP_l, Tr.setP_r, getT_h, getT_l, getT_r, List.getElem?_cons_zero, List.getElem?_cons_succ, Bool.not_true, if_true, pureO_of, ofO_some, flatten_i, flatten_g, allOne_nil, allOne_cons, isOne_b, isOne_i, Bool.and_true, over_nil, over_cons, List.set_cons_zero, List.set_cons_succ, List.length_cons, List.length_nil, Nat.reduceAdd, Nat.reduceLeDiff, Nat.zero_add, and_self, List.nil_append, List.cons_append, load1_ne, loadN_same, storeN_same, a_al_eq, a_bx_eq, List.drop_zero, List.take_succ_cons, List.take_nil, Option.map_some, ne_add0, Nat.add_assoc, x_app_eq, a_bsl_w, evPs_nil, evPs_cons, partsR_nil, partsR_cons, bslO_some, Option.isSome_some, e19, w19_1, w19_2, w19_4, w19_5, w19_6, w19_7, w19_8, w19_9, w19_10, h25, h25_eq, h37, h37_eq, hm, h40, h40_eq, hA, hB]
    · skip
      have e : rdsL op d a b = [] ++ (if ((dI (formI op) && !wrB op) || decide (op = 6)) = true then [d] else []) := by unfold rdsL; rw [hA, hB]; rfl
      rw [e]
      exact td op d a b i _ _ _ [_, none, _, none, none, _, _, _, _, _, _, _, _, _, _, _, _, _, _, _, _, _, _, _, _, _, _, _, _, _, _, _, _, _, _, _, _, _, _, _, _, _, _, _, _, _, _, _, _, _, _, _, _, _, _, _, _, _, _, _, _, _, _] hm ((g2 _ _).ok ok) (l := []) (by simp) (Nat.le_refl _) ((get_ne _ _ (by omega)).trans (get_same _ _ _)) (get_same _ _ _) (AccAt.nil (b := c + 2)) (Gr.refl ((g2 _ _).ok ok)) (Nat.le_refl _) (fun r M' c' hs hg' => ⟨hs, (g2 _ _).trans hg'⟩)
    · skip
      refine putE_to ((appV_to (ns := intE [b]) ((AccAt.nil (c0 := c + 2) (c := c + 2) (b := c + 2)).up (c' := (c + 2) + 1) (by omega) (fun hb => get_ne _ _ (by omega))) ((Gr.refl ((g2 _ _).ok ok)).set (c + 2) _ (Nat.le_refl _) (Nat.lt_succ_self _) (Nat.le_succ _)) Nat.one_pos (slD (get_same _ _ _) (by omega) (by simp [intE]) rfl) rfl (room_of (by simp [intE]) (by simp [intE]))).mono ?_)
      rintro v1 M1 c1 ⟨b1, ha1', hg1, -, -, -⟩
      have ha1 : AccAt M1 (c + 2) c1 b1 3 1 v1 (intE [b]) := ha1'
      have hk1 := hg1.le
      have gc1 := (hg1.old c (by omega)).trans ((get_ne _ _ (by omega)).trans (get_same _ _ _))
      have ge1 := (hg1.old (c + 1) (by omega)).trans (get_same _ _ _)
      have ld1 := load_row (F := F) gc1
      have le1 := load_row (F := F) ge1
      simp only [seqQ_nrm, wo_nil, xo_q, putO, v_mv, ev_t, Tr.setP_h, Tr.setP_l, Tr.setP_r, getT_h, getT_l, getT_r]
      have e : rdsL op d a b = [b] ++ (if ((dI (formI op) && !wrB op) || decide (op = 6)) = true then [d] else []) := by unfold rdsL; rw [hA, hB]; rfl
      rw [e]
      exact td op d a b i _ _ _ [_, none, _, none, none, _, _, _, _, _, _, _, _, _, _, _, _, _, _, _, _, _, _, _, _, _, _, _, _, _, _, _, _, _, _, _, _, _, _, _, _, _, _, _, _, _, _, _, _, _, _, _, _, _, _, _, _, _, _, _, _, _, _] hm ((g2 _ _).ok ok) (l := [b]) (by simp) hk1 gc1 ge1 ha1 hg1 (Nat.le_refl _) (fun r M' c' hs hg' => ⟨hs, (g2 _ _).trans hg'⟩)
    · skip
      refine putE_to ((appV_to (ns := intE [a]) ((AccAt.nil (c0 := c + 2) (c := c + 2) (b := c + 2)).up (c' := (c + 2) + 1) (by omega) (fun hb => get_ne _ _ (by omega))) ((Gr.refl ((g2 _ _).ok ok)).set (c + 2) _ (Nat.le_refl _) (Nat.lt_succ_self _) (Nat.le_succ _)) Nat.one_pos (slD (get_same _ _ _) (by omega) (by simp [intE]) rfl) rfl (room_of (by simp [intE]) (by simp [intE]))).mono ?_)
      rintro v1 M1 c1 ⟨b1, ha1', hg1, -, -, -⟩
      have ha1 : AccAt M1 (c + 2) c1 b1 3 1 v1 (intE [a]) := ha1'
      have hk1 := hg1.le
      have gc1 := (hg1.old c (by omega)).trans ((get_ne _ _ (by omega)).trans (get_same _ _ _))
      have ge1 := (hg1.old (c + 1) (by omega)).trans (get_same _ _ _)
      have ld1 := load_row (F := F) gc1
      have le1 := load_row (F := F) ge1
      simp only [wp_seq, seqQ_nrm, wp_reg, wp_skip, wo_nil, xo_q, wp_condF, putO, v_mv, v_ld1, ld1_p, v_fa, ev_t, Tr.setP_h, Tr.setP_l, Tr.setP_r, getT_h, getT_l, getT_r, List.getElem?_cons_zero, List.getElem?_cons_succ, Nat.zero_add, w19_8, w19_10, le1, List.getElem?_cons_zero, List.getElem?_cons_succ]
      have e : rdsL op d a b = [a] ++ (if ((dI (formI op) && !wrB op) || decide (op = 6)) = true then [d] else []) := by unfold rdsL; rw [hA, hB]; rfl
      rw [e]
      exact td op d a b i _ _ _ [_, none, _, none, none, _, _, _, _, _, _, _, _, _, _, _, _, _, _, _, _, _, _, _, _, _, _, _, _, _, _, _, _, _, _, _, _, _, _, _, _, _, _, _, _, _, _, _, _, _, _, _, _, _, _, _, _, _, _, _, _, _, _] hm ((g2 _ _).ok ok) (l := [a]) (by simp) hk1 gc1 ge1 ha1 hg1 (Nat.le_refl _) (fun r M' c' hs hg' => ⟨hs, (g2 _ _).trans hg'⟩)
    · skip
      refine putE_to ((appV_to (ns := intE [a]) ((AccAt.nil (c0 := c + 2) (c := c + 2) (b := c + 2)).up (c' := (c + 2) + 1) (by omega) (fun hb => get_ne _ _ (by omega))) ((Gr.refl ((g2 _ _).ok ok)).set (c + 2) _ (Nat.le_refl _) (Nat.lt_succ_self _) (Nat.le_succ _)) Nat.one_pos (slD (get_same _ _ _) (by omega) (by simp [intE]) rfl) rfl (room_of (by simp [intE]) (by simp [intE]))).mono ?_)
      rintro v1 M1 c1 ⟨b1, ha1', hg1, -, -, -⟩
      have ha1 : AccAt M1 (c + 2) c1 b1 3 1 v1 (intE [a]) := ha1'
      have hk1 := hg1.le
      have gc1 := (hg1.old c (by omega)).trans ((get_ne _ _ (by omega)).trans (get_same _ _ _))
      have ge1 := (hg1.old (c + 1) (by omega)).trans (get_same _ _ _)
      have ld1 := load_row (F := F) gc1
      have le1 := load_row (F := F) ge1
      simp only [wp_seq, seqQ_nrm, wp_reg, wo_nil, xo_q, xo_a, xo_e, wp_condT, putO, putA, v_mv, v_ld1, ld1_p, v_fa, ev_t, Tr.setP_h, Tr.setP_l, Tr.setP_r, getT_h, getT_l, getT_r, List.getElem?_cons_zero, List.getElem?_cons_succ, if_true, flatten_i, allOne_nil, allOne_cons, isOne_i, Bool.and_true, List.length_cons, List.length_nil, Nat.zero_add, and_self, List.nil_append, List.cons_append, Option.map_some, x_app_eq, a_bsl_w, evPs_nil, evPs_cons, partsR_nil, partsR_cons, bslO_some, Option.isSome_some, w19_8, w19_9, w19_10, ld1, le1, List.getElem?_cons_zero, List.getElem?_cons_succ]
      refine putE_to ((appV_to (ns := intE [b]) (ha1.up (c' := c1 + 1) (by omega) (fun hb => get_ne _ _ (by omega))) (hg1.set c1 _ hg1.le (Nat.lt_succ_self _) (Nat.le_succ _)) Nat.one_pos (slD (get_same _ _ _) (by omega) (by simp [intE]) rfl) rfl (room_of (by simp [intE]) (by simp [intE]))).mono ?_)
      rintro v2 M2 c2 ⟨b2, ha2', hg2, -, -, -⟩
      have ha2 : AccAt M2 (c + 2) c2 b2 3 1 v2 (intE [a, b]) := ha2'
      have hk2 := hg2.le
      have gc2 := (hg2.old c (by omega)).trans ((get_ne _ _ (by omega)).trans (get_same _ _ _))
      have ge2 := (hg2.old (c + 1) (by omega)).trans (get_same _ _ _)
      have ld2 := load_row (F := F) gc2
      have le2 := load_row (F := F) ge2
      simp only [seqQ_nrm, wo_nil, xo_q, putO, v_mv, ev_t, Tr.setP_h, Tr.setP_l, Tr.setP_r, getT_h, getT_l, getT_r]
      have e : rdsL op d a b = [a, b] ++ (if ((dI (formI op) && !wrB op) || decide (op = 6)) = true then [d] else []) := by unfold rdsL; rw [hA, hB]; rfl
      rw [e]
      exact td op d a b i _ _ _ [_, none, _, none, none, _, _, _, _, _, _, _, _, _, _, _, _, _, _, _, _, _, _, _, _, _, _, _, _, _, _, _, _, _, _, _, _, _, _, _, _, _, _, _, _, _, _, _, _, _, _, _, _, _, _, _, _, _, _, _, _, _, _] hm ((g2 _ _).ok ok) (l := [a, b]) (by simp) hk2 gc2 ge2 ha2 hg2 (Nat.le_refl _) (fun r M' c' hs hg' => ⟨hs, (g2 _ _).trans hg'⟩)
end Go.Proofs.YtffpeieapadocaaGreatDoor.Ev
set_option maxRecDepth 100000
set_option maxHeartbeats 16000000
namespace Go.Proofs.YtffpeieapadocaaGreatDoor.Ev
open Go
def pick (A B D : Bool) (a b d : Nat) : List Int := (if A = true then [(a : Int)] else []) ++ ((if B = true then [(b : Int)] else []) ++ (if D = true then [(d : Int)] else []))
def pickF (A B D : Bool) (a b d n : Nat) : Bool := (A && decide (n = a)) || (B && decide (n = b)) || (D && decide (n = d))
theorem pick3 : ∀ a : Nat, a < 16 → ∀ b : Nat, b < 16 → ∀ d : Nat, d < 16 → compact (isort (pick true true true a b d)) = selL (pickF true true true a b d) 16 := by decide +kernel
theorem pick2 : ∀ x : Nat, x < 16 → ∀ y : Nat, y < 16 → compact (isort [(x : Int), (y : Int)]) = selL (fun n => decide (n = x) || decide (n = y)) 16 := by decide +kernel
theorem pick1 : ∀ x : Nat, x < 16 → compact (isort [(x : Int)]) = selL (fun n => decide (n = x)) 16 := by decide +kernel
theorem pick_law (A B D : Bool) (a b d : Nat) (ha : a < 16) (hb : b < 16) (hd : d < 16) : compact (isort (pick A B D a b d)) = selL (pickF A B D a b d) 16 := by
  cases A <;> cases B <;> cases D
  · refine Eq.trans (b := selL (fun _ => false) 16) (show compact (isort []) = _ by decide +kernel) (selL_congr fun n _ => ?_)
    simp [pickF]
  · refine (pick1 d hd).trans (selL_congr fun n _ => ?_)
    simp [pickF]
  · refine (pick1 b hb).trans (selL_congr fun n _ => ?_)
    simp [pickF]
  · refine (pick2 b hb d hd).trans (selL_congr fun n _ => ?_)
    simp [pickF]
  · refine (pick1 a ha).trans (selL_congr fun n _ => ?_)
    simp [pickF]
  · refine (pick2 a ha d hd).trans (selL_congr fun n _ => ?_)
    simp [pickF]
  · refine (pick2 a ha b hb).trans (selL_congr fun n _ => ?_)
    simp [pickF]
  · exact pick3 a ha b hb d hd
theorem rd_flag : ∀ n : Nat, n < 29 → ((dI (formI (n : Int)) && !wrB (n : Int)) || decide ((n : Int) = 6)) = rdB (n : Int) := by decide +kernel
theorem rds_regs (n : Nat) (hn : n < 29) (a b d : Nat) (ha : a < 16) (hb : b < 16) (hd : d < 16) : compact (isort (rdsL (n : Int) (d : Int) (a : Int) (b : Int))) = regsL (n : Int) d a b := by
  unfold rdsL
  rw [rd_flag n hn]
  exact pick_law _ _ _ a b d ha hb hd
end Go.Proofs.YtffpeieapadocaaGreatDoor.Ev
set_option maxRecDepth 10000
set_option maxHeartbeats 16000000
namespace Go.Proofs.YtffpeieapadocaaGreatDoor.Ev
open Go
def h27 : List V → Option V
  | [.g [.i .i64 op, .i .i64 d, .i .i64 a, .i .i64 b, .i .i64 i]] => some (.t [.i .i64 (if wrB op = true then d else 0), .b (wrB op)])
  | _ => none
theorem h27_eq (op d a b i : Int) : h27 [.g [.i .i64 op, .i .i64 d, .i .i64 a, .i .i64 b, .i .i64 i]] = some (.t [.i .i64 (if wrB op = true then d else 0), .b (wrB op)]) := rfl
def h21 : List V → Option V
  | [.g [.i .i64 op, .i .i64 d, .i .i64 a, .i .i64 b, .i .i64 i], .i .u32 (.ofNat n)] => if n < 4294967296 then some (.t [.i .u32 (if (mayI op d a b i && ledB op) = true then ((n : Int) + 4 * i) % 4294967296 else 0), .b (mayI op d a b i && ledB op)]) else none
  | _ => none
theorem h21_eq (op d a b i : Int) {n : Nat} (h : n < 4294967296) : h21 [.g [.i .i64 op, .i .i64 d, .i .i64 a, .i .i64 b, .i .i64 i], .i .u32 (n : Int)] = some (.t [.i .u32 (if (mayI op d a b i && ledB op) = true then ((n : Int) + 4 * i) % 4294967296 else 0), .b (mayI op d a b i && ledB op)]) := if_pos h
def h28 : List V → Option V
  | [.g [.i .i64 op, .i .i64 d, .i .i64 a, .i .i64 b, .i .i64 i], .i .u32 (.ofNat n)] => if n < 4294967296 ∧ -32768 ≤ i ∧ i ≤ 65535 then some (.t [.i .u32 (if ledB op = true then ((n : Int) + 4 * i) % 4294967296 else 0), .b (ledB op)]) else none
  | _ => none
theorem h28_eq (op d a b : Int) {i : Int} {n : Nat} (h : n < 4294967296) (h1 : -32768 ≤ i) (h2 : i ≤ 65535) : h28 [.g [.i .i64 op, .i .i64 d, .i .i64 a, .i .i64 b, .i .i64 i], .i .u32 (n : Int)] = some (.t [.i .u32 (if ledB op = true then ((n : Int) + 4 * i) % 4294967296 else 0), .b (ledB op)]) := if_pos ⟨h, h1, h2⟩
def h67' : List V → Option V := h67
section
variable {P : Program} (hm : P.follows .mixedOrders = true) {Φ : Nat → Option CF} (hΦ : PhiOk P Φ)
include hm hΦ
theorem o20 (h : Φ 20 = some c20) (h25 : Φ 25 = some (.orc (pureO h25))) (h37 : Φ 37 = some (.orc (pureO h37))) (h40 : Φ 40 = some (.orc (pureO h40))) : OrcOk P 20 (pureO h20) := pure_of hm hΦ (by
  intro args v ct hv hct; unfold h20 at hv; split at hv
  · obtain rfl := Option.some.inj hv; exact ⟨⟨trivial, trivial, trivial⟩, t20 Φ h h25 h37 h40 _ _ _ _ _ _⟩
  · cases hv)
theorem o27 (h : Φ 27 = some c27) (h26 : Φ 26 = some (.orc (pureO h25))) : OrcOk P 27 (pureO h27) := pure_of hm hΦ (by
  intro args v ct hv hct; unfold h27 at hv; split at hv
  · obtain rfl := Option.some.inj hv; exact ⟨⟨trivial, trivial, trivial⟩, t27 Φ h h26 _ _ _ _ _ _⟩
  · cases hv)
theorem o21 (h : Φ 21 = some c21) (h37 : Φ 37 = some (.orc (pureO h37))) : OrcOk P 21 (pureO h21) := pure_of hm hΦ (by
  intro args v ct hv hct; unfold h21 at hv; split at hv
  · split at hv
    · obtain rfl := Option.some.inj hv; exact ⟨⟨trivial, trivial, trivial⟩, t21 Φ h h37 _ _ _ _ _ _ _ (by assumption)⟩
    · cases hv
  · cases hv)
theorem o28 (h : Φ 28 = some c28) : OrcOk P 28 (pureO h28) := pure_of hm hΦ (by
  intro args v ct hv hct; unfold h28 at hv; split at hv
  · split at hv
    · rename_i hh; obtain rfl := Option.some.inj hv; exact ⟨⟨trivial, trivial, trivial⟩, t28 Φ h _ _ _ _ _ _ _ hh.1 hh.2.1 hh.2.2⟩
    · cases hv
  · cases hv)
theorem o52 (h : Φ 52 = some c52) : OrcOk P 52 (pureO h52) := pure_of hm hΦ (by
  intro args v ct hv hct; unfold h52 at hv; split at hv
  · obtain rfl := Option.some.inj hv; exact ⟨⟨trivial, trivial⟩, t52 Φ h _⟩
  · cases hv)
theorem o108 (h : Φ 108 = some c108) : OrcOk P 108 (pureO h108) := pure_of hm hΦ (by
  intro args v ct hv hct; unfold h108 at hv; split at hv
  · obtain rfl := Option.some.inj hv; exact ⟨trivial, t108 Φ h _ _⟩
  · cases hv)
theorem o85 (h : Φ 85 = some c85) (h108 : Φ 108 = some (.orc (pureO h108))) : OrcOk P 85 (pureO h85) := pure_of hm hΦ (by
  intro args v ct hv hct; unfold h85 at hv; split at hv
  · obtain rfl := Option.some.inj hv; exact ⟨trivial, t85 Φ h h108 _ _ _⟩
  · cases hv)
theorem o89 (h : Φ 89 = some c89) : OrcOk P 89 (pureO h89) := pure_of hm hΦ (by
  intro args v ct hv hct; unfold h89 at hv; split at hv
  · split at hv
    · obtain rfl := Option.some.inj hv; exact ⟨trivial, t89 Φ h _ (by assumption) _⟩
    · cases hv
  · cases hv)
theorem o67 (h : Φ 67 = some c67) (h89 : Φ 89 = some (.orc (pureO h89))) : OrcOk P 67 (pureO h67) := pure_of hm hΦ (by
  intro args v ct hv hct; unfold h67 at hv; split at hv
  · split at hv
    · obtain rfl := Option.some.inj hv; exact ⟨trivial, t67 Φ h h89 _ (by assumption) _⟩
    · cases hv
  · cases hv)
end
end Go.Proofs.YtffpeieapadocaaGreatDoor.Ev
