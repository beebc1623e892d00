-- Written by a program for this claim.
import Derived.Test.YtkedcokhcgklpaaMFnLinesx0
import Derived.Test.YtkedcokhcgklpaaMFnLinesx2
import Derived.Test.YtkedcokhcgklpaaMFnLinesx5
import Derived.Test.YtkedcokhcgklpaaMFnLinesx6
import Derived.Test.YtkedcokhcgklpaaMFnLinesx11
import Derived.Test.YtkedcokhcgklpaaMFnLinesx12
namespace Go.Proofs.Ytkedcokhcgklpaa.MFnLines
open Go.RowKit Go.Proofs.YtkedcokhcgklpaaW.PrintWords Go.Proofs.YtkedcokhcgklpaaW.PrintLast Go.Proofs.YtkedcokhcgklpaaW.PrintMore
attribute [local go_sem] max2_int min2_int max_two min_two max_three min_three max_four min_four   -- for this text's walks alone
set_option linter.unusedVariables false
set_option linter.unusedSimpArgs false

theorem hz13_0 {p : Prop} (h : p := by exact zk6 hb (zk2 hb) hHeld) : p := h
theorem hz13_1 {p : Prop} (h : p := by exact zk6 hb (zk6 hb (zk6 hb (zk6 hb (zk2 hb)))) hHeld) : p := h
theorem hz13_2 {p : Prop} (h : p := by exact zk6 hb (zk6 hb (zk6 hb (zk6 hb (zk6 hb (zk6 hb (zk2 hb)))))) hHeld) : p := h
theorem hz13_3 {p : Prop} (h : p := by exact zk6 hb (zk6 hb (zk6 hb (zk2 hb))) hHeld) : p := h
theorem hz13_4 {p : Prop} (h : p := by exact zk6 hb (zk6 hb (zk2 hb)) hHeld) : p := h
theorem s13_0 {p : Prop} (h : p := by repeat (first | exact (Kd.R_reads' HO384.out).2.2 | (with_reducible refine Kd.C_alloc ?_ _) | (with_reducible refine Kd.C_drewN ?_ _) | (with_reducible refine Kd.C_drew ?_))) : p := h
theorem s13_1 {p : Prop} (h : p := by repeat (first | exact (Kd.R_reads' HO391.out).2.2 | (with_reducible refine Kd.C_alloc ?_ _) | (with_reducible refine Kd.C_drewN ?_ _) | (with_reducible refine Kd.C_drew ?_))) : p := h
theorem s13_2 {p : Prop} (h : p := by repeat (first | (with_reducible first | exact HB.out | apply below_alloc | apply pw_below_drewN | apply below_drew1) | exact HB.out)) : p := h
theorem y13_0 {p : Prop} (h : p := by repeat (first | exact (Kd.R_reads' HO_3.out).2.2 | (with_reducible refine Kd.C_alloc ?_ _) | (with_reducible refine Kd.C_drewN ?_ _) | (with_reducible refine Kd.C_drew ?_))) : p := h
theorem y13_1 {p : Prop} (h : p := by repeat (first | exact HR0.out | (with_reducible refine Kd.C_alloc ?_ _) | (with_reducible refine Kd.C_drewN ?_ _) | (with_reducible refine Kd.C_drew ?_))) : p := h
abbrev mk13_0 : Array Bool := #[false, false, false, false, false, false, false, false, false, false, false, false, false, false, false, false, false, false, false, false, false, false, false, false, false, false, false, false, false, false, false, false, false, false, false, false, false, false, false, false, false, false, false, false, false, false, false, false, false, false, false, false, false, false, false, false, false, false, false]
abbrev mk13_1 : Array Bool := #[false, false, false, false, false, false, false, false, false, false, false, false, false, false, false, false, false, false, false, false, false, false, false, false, false, false, false, false, false, false, false, false, false, false, false, false, false, false, false, false, false, false, false, false]
abbrev mk13_2 : Array Bool := #[false, false, false, false, false, false, false, false, false, false, false, false, false]
abbrev mk13_3 : Array Bool := #[true, false, false, false, false, false, false, false, false, false, false, false, false, false, false, false, false, false, false, false, false, false, false, false, false, false, false, false, false, false, false, false, false, false, false, false, false, false, false, false, false, false, false, false, false, false, false, false, false, false, false, false, false, false, false, false, false, false, false]
abbrev mk13_4 : Array Bool := #[true, false, false, false, false, false, false, false, false, false, false, false, false, false, false, false, false, false, false, false, false, false, false, false, false, false, false, false, false, false, false, false, false, false, false, false, false, false, false, false, false, false, false, false]
abbrev mk13_5 : Array Bool := #[true, false, false, false, false, false, false, false, false, false, false, false, false]
abbrev mk13_6 : Array Bool := #[true, true, false, false, false, false, false, false, false, false, false, false, false, false, false, false, false, false, false, false, false, false, false, false, false, false, false, false, false, false, false, false, false, false, false, false, false, false, false, false, false, false, false, false, false, false, false, false, false, false, false, false, false, false, false, false, false, false, false]
abbrev mk13_7 : Array Bool := #[true, true, false, false, false, false, false, false, false, false, false, false, false, false, false, false, false, false, false, false, false, false, false, false, false, false, false, false, false, false, false, false, false, false, false, false, false, false, false, false, false, false, false, false]
abbrev mk13_8 : Array Bool := #[true, true, false, false, false, false, false, false, false, false, false, false, false]
abbrev mk13_9 : Array Bool := #[true, true, true, false, false, false, false, false, false, false, false, false, false, false, false, false, false, false, false, false, false, false, false, false, false, false, false, false, false, false, false, false, false, false, false, false, false, false, false, false, false, false, false, false, false, false, false, false, false, false, false, false, false, false, false, false, false, false, false]
abbrev mk13_10 : Array Bool := #[true, true, true, false, false, false, false, false, false, false, false, false, false, false, false, false, false, false, false, false, false, false, false, false, false, false, false, false, false, false, false, false, false, false, false, false, false, false, false, false, false, false, false, false]
abbrev mk13_11 : Array Bool := #[true, true, true, false, false, false, false, false, false, false, false, false, false]
abbrev mk13_12 : Array Bool := #[true, true, true, true, false, false, false, false, false, false, false, false, false, false, false, false, false, false, false, false, false, false, false, false, false, false, false, false, false, false, false, false, false, false, false, false, false, false, false, false, false, false, false, false, false, false, false, false, false, false, false, false, false, false, false, false, false, false, false]
abbrev mk13_13 : Array Bool := #[true, true, true, true, false, false, false, false, false, false, false, false, false, false, false, false, false, false, false, false, false, false, false, false, false, false, false, false, false, false, false, false, false, false, false, false, false, false, false, false, false, false, false, false]
abbrev mk13_14 : Array Bool := #[true, true, true, true, false, false, false, false, false, false, false, false, false]
abbrev mk13_15 : Array Bool := #[true, true, true, true, true, false, false, false, false, false, false, false, false, false, false, false, false, false, false, false, false, false, false, false, false, false, false, false, false, false, false, false, false, false, false, false, false, false, false, false, false, false, false, false, false, false, false, false, false, false, false, false, false, false, false, false, false, false, false]
abbrev mk13_16 : Array Bool := #[true, true, true, true, true, false, false, false, false, false, false, false, false, false, false, false, false, false, false, false, false, false, false, false, false, false, false, false, false, false, false, false, false, false, false, false, false, false, false, false, false, false, false, false]
abbrev mk13_17 : Array Bool := #[true, true, true, true, true, false, false, false, false, false, false, false, false]
abbrev mk13_18 : Array Bool := #[true, true, true, true, true, false, true, false, false, false, false, false, false]
abbrev mk13_19 : Array Bool := #[true, true, true, true, true, false, true, true, false, false, false, false, false]
abbrev mk13_20 : Array Bool := #[true, true, true, true, true, false, true, true, true, false, false, false, false]
abbrev mk13_21 : Array Bool := #[true, true, true, true, true, false, true, true, true, true, false, false, false]
abbrev mk13_22 : Array Bool := #[true, true, true, true, true, true, false, false, false, false, false, false, false, false, false, false, false, false, false, false, false, false, false, false, false, false, false, false, false, false, false, false, false, false, false, false, false, false, false, false, false, false, false, false, false, false, false, false, false, false, false, false, false, false, false, false, false, false, false]
abbrev mk13_23 : Array Bool := #[true, true, true, true, true, true, false, false, false, false, false, false, false, false, false, false, false, false, false, false, false, false, false, false, false, false, false, false, false, false, false, false, false, false, false, false, false, false, false, false, false, false, false, false]
abbrev mk13_24 : Array Bool := #[true, true, true, true, true, true, false, true, false, false, false, false, false, false, false, false, false, false, false, false, false, false, false, false, false, false, false, false, false, false, false, false, false, false, false, false, false, false, false, false, false, false, false, false, false, false, false, false, false, false, false, false, false, false, false, false, false, false, false]
abbrev mk13_25 : Array Bool := #[true, true, true, true, true, true, false, true, true, false, false, false, false, false, false, false, false, false, false, false, false, false, false, false, false, false, false, false, false, false, false, false, false, false, false, false, false, false, false, false, false, false, false, false, false, false, false, false, false, false, false, false, false, false, false, false, false, false, false]
abbrev mk13_26 : Array Bool := #[true, true, true, true, true, true, false, true, true, true, false, false, false, false, false, false, false, false, false, false, false, false, false, false, false, false, false, false, false, false, false, false, false, false, false, false, false, false, false, false, false, false, false, false, false, false, false, false, false, false, false, false, false, false, false, false, false, false, false]
abbrev mk13_27 : Array Bool := #[true, true, true, true, true, true, false, true, true, true, true, false, false, false, false, false, false, false, false, false, false, false, false, false, false, false, false, false, false, false, false, false, false, false, false, false, false, false, false, false, false, false, false, false, false, false, false, false, false, false, false, false, false, false, false, false, false, false, false]
abbrev mk13_28 : Array Bool := #[true, true, true, true, true, true, true, false, false, false, false, false, false, false, false, false, false, false, false, false, false, false, false, false, false, false, false, false, false, false, false, false, false, false, false, false, false, false, false, false, false, false, false, false]
abbrev mk13_29 : Array Bool := #[true, true, true, true, true, true, true, true, false, false, false, false, false, false, false, false, false, false, false, false, false, false, false, false, false, false, false, false, false, false, false, false, false, false, false, false, false, false, false, false, false, false, false, false]
abbrev mk13_30 : Array Bool := #[true, true, true, true, true, true, true, true, true, false, false, false, false, false, false, false, false, false, false, false, false, false, false, false, false, false, false, false, false, false, false, false, false, false, false, false, false, false, false, false, false, false, false, false]
abbrev mk13_31 : Array Bool := #[true, true, true, true, true, true, true, true, true, true, false, false, false, false, false, false, false, false, false, false, false, false, false, false, false, false, false, false, false, false, false, false, false, false, false, false, false, false, false, false, false, false, false, false]
abbrev mk13_32 : Array Bool := #[true, true, true, true, true, true, true, true, true, true, false, false, false]
abbrev mk13_33 : Array Bool := #[true, true, true, true, true, true, true, true, true, true, true, false, false, false, false, false, false, false, false, false, false, false, false, false, false, false, false, false, false, false, false, false, false, false, false, false, false, false, false, false, false, false, false, false, false, false, false, false, false, false, false, false, false, false, false, false, false, false, false]
abbrev mk13_34 : Array Bool := #[true, true, true, true, true, true, true, true, true, true, true, false, false, false, false, false, false, false, false, false, false, false, false, false, false, false, false, false, false, false, false, false, false, false, false, false, false, false, false, false, false, false, false, false]
abbrev mk13_35 : Array Bool := #[true, true, true, true, true, true, true, true, true, true, true, false, false]
abbrev mk13_36 : Array Bool := #[true, true, true, true, true, true, true, true, true, true, true, true, false, false, false, false, false, false, false, false, false, false, false, false, false, false, false, false, false, false, false, false, false, false, false, false, false, false, false, false, false, false, false, false, false, false, false, false, false, false, false, false, false, false, false, false, false, false, false]
abbrev mk13_37 : Array Bool := #[true, true, true, true, true, true, true, true, true, true, true, true, false, false, false, false, false, false, false, false, false, false, false, false, false, false, false, false, false, false, false, false, false, false, false, false, false, false, false, false, false, false, false, false]
abbrev mk13_38 : Array Bool := #[true, true, true, true, true, true, true, true, true, true, true, true, false]
abbrev mk13_39 : Array Bool := #[true, true, true, true, true, true, true, true, true, true, true, true, true, false, false, false, false, false, false, false, false, false, false, false, false, false, false, false, false, false, false, false, false, false, false, false, false, false, false, false, false, false, false, false, false, false, false, false, false, false, false, false, false, false, false, false, false, false, false]
abbrev mk13_40 : Array Bool := #[true, true, true, true, true, true, true, true, true, true, true, true, true, false, false, false, false, false, false, false, false, false, false, false, false, false, false, false, false, false, false, false, false, false, false, false, false, false, false, false, false, false, false, false]
abbrev mk13_41 : Array Bool := #[true, true, true, true, true, true, true, true, true, true, true, true, true, true, false, false, false, false, false, false, false, false, false, false, false, false, false, false, false, false, false, false, false, false, false, false, false, false, false, false, false, false, false, false, false, false, false, false, false, false, false, false, false, false, false, false, false, false, false]
abbrev mk13_42 : Array Bool := #[true, true, true, true, true, true, true, true, true, true, true, true, true, true, false, false, false, false, false, false, false, false, false, false, false, false, false, false, false, false, false, false, false, false, false, false, false, false, false, false, false, false, false, false]
abbrev mk13_43 : Array Bool := #[true, true, true, true, true, true, true, true, true, true, true, true, true, true, true, false, false, false, false, false, false, false, false, false, false, false, false, false, false, false, false, false, false, false, false, false, false, false, false, false, false, false, false, false, false, false, false, false, false, false, false, false, false, false, false, false, false, false, false]
abbrev mk13_44 : Array Bool := #[true, true, true, true, true, true, true, true, true, true, true, true, true, true, true, false, false, false, false, false, false, false, false, false, false, false, false, false, false, false, false, false, false, false, false, false, false, false, false, false, false, false, false, false]
abbrev mk13_45 : Array Bool := #[true, true, true, true, true, true, true, true, true, true, true, true, true, true, true, true, false, false, false, false, false, false, false, false, false, false, false, false, false, false, false, false, false, false, false, false, false, false, false, false, false, false, false, false, false, false, false, false, false, false, false, false, false, false, false, false, false, false, false]
abbrev mk13_46 : Array Bool := #[true, true, true, true, true, true, true, true, true, true, true, true, true, true, true, true, false, false, false, false, false, false, false, false, false, false, false, false, false, false, false, false, false, false, false, false, false, false, false, false, false, false, false, false]
abbrev mk13_47 : Array Bool := #[true, true, true, true, true, true, true, true, true, true, true, true, true, true, true, true, true, false, false, false, false, false, false, false, false, false, false, false, false, false, false, false, false, false, false, false, false, false, false, false, false, false, false, false, false, false, false, false, false, false, false, false, false, false, false, false, false, false, false]
abbrev mk13_48 : Array Bool := #[true, true, true, true, true, true, true, true, true, true, true, true, true, true, true, true, true, false, false, false, false, false, false, false, false, false, false, false, false, false, false, false, false, false, false, false, false, false, false, false, false, false, false, false]
abbrev mk13_49 : Array Bool := #[true, true, true, true, true, true, true, true, true, true, true, true, true, true, true, true, true, true, false, false, false, false, false, false, false, false, false, false, false, false, false, false, false, false, false, false, false, false, false, false, false, false, false, false, false, false, false, false, false, false, false, false, false, false, false, false, false, false, false]
abbrev mk13_50 : Array Bool := #[true, true, true, true, true, true, true, true, true, true, true, true, true, true, true, true, true, true, false, false, false, false, false, false, false, false, false, false, false, false, false, false, false, false, false, false, false, false, false, false, false, false, false, false]
abbrev mk13_51 : Array Bool := #[true, true, true, true, true, true, true, true, true, true, true, true, true, true, true, true, true, true, true, false, false, false, false, false, false, false, false, false, false, false, false, false, false, false, false, false, false, false, false, false, false, false, false, false, false, false, false, false, false, false, false, false, false, false, false, false, false, false, false]
abbrev mk13_52 : Array Bool := #[true, true, true, true, true, true, true, true, true, true, true, true, true, true, true, true, true, true, true, false, false, false, false, false, false, false, false, false, false, false, false, false, false, false, false, false, false, false, false, false, false, false, false, false]
abbrev mk13_53 : Array Bool := #[true, true, true, true, true, true, true, true, true, true, true, true, true, true, true, true, true, true, true, true, false, false, false, false, false, false, false, false, false, false, false, false, false, false, false, false, false, false, false, false, false, false, false, false, false, false, false, false, false, false, false, false, false, false, false, false, false, false, false]
abbrev mk13_54 : Array Bool := #[true, true, true, true, true, true, true, true, true, true, true, true, true, true, true, true, true, true, true, true, false, false, false, false, false, false, false, false, false, false, false, false, false, false, false, false, false, false, false, false, false, false, false, false]
abbrev mk13_55 : Array Bool := #[true, true, true, true, true, true, true, true, true, true, true, true, true, true, true, true, true, true, true, true, true, false, false, false, false, false, false, false, false, false, false, false, false, false, false, false, false, false, false, false, false, false, false, false, false, false, false, false, false, false, false, false, false, false, false, false, false, false, false]
abbrev mk13_56 : Array Bool := #[true, true, true, true, true, true, true, true, true, true, true, true, true, true, true, true, true, true, true, true, true, false, false, false, false, false, false, false, false, false, false, false, false, false, false, false, false, false, false, false, false, false, false, false]
abbrev mk13_57 : Array Bool := #[true, true, true, true, true, true, true, true, true, true, true, true, true, true, true, true, true, true, true, true, true, true, false, false, false, false, false, false, false, false, false, false, false, false, false, false, false, false, false, false, false, false, false, false, false, false, false, false, false, false, false, false, false, false, false, false, false, false, false]
abbrev mk13_58 : Array Bool := #[true, true, true, true, true, true, true, true, true, true, true, true, true, true, true, true, true, true, true, true, true, true, false, false, false, false, false, false, false, false, false, false, false, false, false, false, false, false, false, false, false, false, false, false]
abbrev mk13_59 : Array Bool := #[true, true, true, true, true, true, true, true, true, true, true, true, true, true, true, true, true, true, true, true, true, true, false, false, true, false, false, false, false, false, false, false, false, false, false, false, false, false, false, false, false, false, false, false, false, false, false, false, false, false, false, false, false, false, false, false, false, false, false]
abbrev mk13_60 : Array Bool := #[true, true, true, true, true, true, true, true, true, true, true, true, true, true, true, true, true, true, true, true, true, true, false, false, true, true, false, false, false, false, false, false, false, false, false, false, false, false, false, false, false, false, false, false, false, false, false, false, false, false, false, false, false, false, false, false, false, false, false]
abbrev mk13_61 : Array Bool := #[true, true, true, true, true, true, true, true, true, true, true, true, true, true, true, true, true, true, true, true, true, true, false, false, true, true, true, false, false, false, false, false, false, false, false, false, false, false, false, false, false, false, false, false, false, false, false, false, false, false, false, false, false, false, false, false, false, false, false]
abbrev mk13_62 : Array Bool := #[true, true, true, true, true, true, true, true, true, true, true, true, true, true, true, true, true, true, true, true, true, true, false, false, true, true, true, true, false, false, false, false, false, false, false, false, false, false, false, false, false, false, false, false, false, false, false, false, false, false, false, false, false, false, false, false, false, false, false]
abbrev mk13_63 : Array Bool := #[true, true, true, true, true, true, true, true, true, true, true, true, true, true, true, true, true, true, true, true, true, true, false, false, true, true, true, true, true, false, false, false, false, false, false, false, false, false, false, false, false, false, false, false, false, false, false, false, false, false, false, false, false, false, false, false, false, false, false]
abbrev mk13_64 : Array Bool := #[true, true, true, true, true, true, true, true, true, true, true, true, true, true, true, true, true, true, true, true, true, true, true, false, false, false, false, false, false, false, false, false, false, false, false, false, false, false, false, false, false, false, false, false, false, false, false, false, false, false, false, false, false, false, false, false, false, false, false]
abbrev mk13_65 : Array Bool := #[true, true, true, true, true, true, true, true, true, true, true, true, true, true, true, true, true, true, true, true, true, true, true, false, false, false, false, false, false, false, false, false, false, false, false, false, false, false, false, false, false, false, false, false]
abbrev mk13_66 : Array Bool := #[true, true, true, true, true, true, true, true, true, true, true, true, true, true, true, true, true, true, true, true, true, true, true, false, true, true, true, true, true, false, false, false, false, false, false, false, false, false, false, false, false, false, false, false, false, false, false, false, false, false, false, false, false, false, false, false, false, false, false]
abbrev mk13_67 : Array Bool := #[true, true, true, true, true, true, true, true, true, true, true, true, true, true, true, true, true, true, true, true, true, true, true, false, true, true, true, true, true, true, false, false, false, false, false, false, false, false, false, false, false, false, false, false, false, false, false, false, false, false, false, false, false, false, false, false, false, false, false]
abbrev mk13_68 : Array Bool := #[true, true, true, true, true, true, true, true, true, true, true, true, true, true, true, true, true, true, true, true, true, true, true, true, false, false, false, false, false, false, false, false, false, false, false, false, false, false, false, false, false, false, false, false, false, false, false, false, false, false, false, false, false, false, false, false, false, false, false]
abbrev mk13_69 : Array Bool := #[true, true, true, true, true, true, true, true, true, true, true, true, true, true, true, true, true, true, true, true, true, true, true, true, false, false, false, false, false, false, false, false, false, false, false, false, false, false, false, false, false, false, false, false]
abbrev mk13_70 : Array Bool := #[true, true, true, true, true, true, true, true, true, true, true, true, true, true, true, true, true, true, true, true, true, true, true, true, true, false, false, false, false, false, false, false, false, false, false, false, false, false, false, false, false, false, false, false, false, false, false, false, false, false, false, false, false, false, false, false, false, false, false]
abbrev mk13_71 : Array Bool := #[true, true, true, true, true, true, true, true, true, true, true, true, true, true, true, true, true, true, true, true, true, true, true, true, true, false, false, false, false, false, false, false, false, false, false, false, false, false, false, false, false, false, false, false]
abbrev mk13_72 : Array Bool := #[true, true, true, true, true, true, true, true, true, true, true, true, true, true, true, true, true, true, true, true, true, true, true, true, true, true, false, false, false, false, false, false, false, false, false, false, false, false, false, false, false, false, false, false, false, false, false, false, false, false, false, false, false, false, false, false, false, false, false]
abbrev mk13_73 : Array Bool := #[true, true, true, true, true, true, true, true, true, true, true, true, true, true, true, true, true, true, true, true, true, true, true, true, true, true, false, false, false, false, false, false, false, false, false, false, false, false, false, false, false, false, false, false]
abbrev mk13_74 : Array Bool := #[true, true, true, true, true, true, true, true, true, true, true, true, true, true, true, true, true, true, true, true, true, true, true, true, true, true, true, false, false, false, false, false, false, false, false, false, false, false, false, false, false, false, false, false, false, false, false, false, false, false, false, false, false, false, false, false, false, false, false]
abbrev mk13_75 : Array Bool := #[true, true, true, true, true, true, true, true, true, true, true, true, true, true, true, true, true, true, true, true, true, true, true, true, true, true, true, false, false, false, false, false, false, false, false, false, false, false, false, false, false, false, false, false]
abbrev mk13_76 : Array Bool := #[true, true, true, true, true, true, true, true, true, true, true, true, true, true, true, true, true, true, true, true, true, true, true, true, true, true, true, true, false, false, false, false, false, false, false, false, false, false, false, false, false, false, false, false, false, false, false, false, false, false, false, false, false, false, false, false, false, false, false]
abbrev mk13_77 : Array Bool := #[true, true, true, true, true, true, true, true, true, true, true, true, true, true, true, true, true, true, true, true, true, true, true, true, true, true, true, true, false, false, false, false, false, false, false, false, false, false, false, false, false, false, false, false]
abbrev mk13_78 : Array Bool := #[true, true, true, true, true, true, true, true, true, true, true, true, true, true, true, true, true, true, true, true, true, true, true, true, true, true, true, true, true, false, false, false, false, false, false, false, false, false, false, false, false, false, false, false, false, false, false, false, false, false, false, false, false, false, false, false, false, false, false]
abbrev mk13_79 : Array Bool := #[true, true, true, true, true, true, true, true, true, true, true, true, true, true, true, true, true, true, true, true, true, true, true, true, true, true, true, true, true, false, false, false, false, false, false, false, false, false, false, false, false, false, false, false]
abbrev mk13_80 : Array Bool := #[true, true, true, true, true, true, true, true, true, true, true, true, true, true, true, true, true, true, true, true, true, true, true, true, true, true, true, true, true, true, false, false, false, false, false, false, false, false, false, false, false, false, false, false, false, false, false, false, false, false, false, false, false, false, false, false, false, false, false]
abbrev mk13_81 : Array Bool := #[true, true, true, true, true, true, true, true, true, true, true, true, true, true, true, true, true, true, true, true, true, true, true, true, true, true, true, true, true, true, false, false, false, false, false, false, false, false, false, false, false, false, false, false]
abbrev mk13_82 : Array Bool := #[true, true, true, true, true, true, true, true, true, true, true, true, true, true, true, true, true, true, true, true, true, true, true, true, true, true, true, true, true, true, true, false, false, false, false, false, false, false, false, false, false, false, false, false, false, false, false, false, false, false, false, false, false, false, false, false, false, false, false]
abbrev mk13_83 : Array Bool := #[true, true, true, true, true, true, true, true, true, true, true, true, true, true, true, true, true, true, true, true, true, true, true, true, true, true, true, true, true, true, true, false, false, false, false, false, false, false, false, false, false, false, false, false]
abbrev mk13_84 : Array Bool := #[true, true, true, true, true, true, true, true, true, true, true, true, true, true, true, true, true, true, true, true, true, true, true, true, true, true, true, true, true, true, true, true, false, false, false, false, false, false, false, false, false, false, false, false, false, false, false, false, false, false, false, false, false, false, false, false, false, false, false]
abbrev mk13_85 : Array Bool := #[true, true, true, true, true, true, true, true, true, true, true, true, true, true, true, true, true, true, true, true, true, true, true, true, true, true, true, true, true, true, true, true, false, false, false, false, false, false, false, false, false, false, false, false]
abbrev mk13_86 : Array Bool := #[true, true, true, true, true, true, true, true, true, true, true, true, true, true, true, true, true, true, true, true, true, true, true, true, true, true, true, true, true, true, true, true, true, false, false, false, false, false, false, false, false, false, false, false, false, false, false, false, false, false, false, false, false, false, false, false, false, false, false]
abbrev mk13_87 : Array Bool := #[true, true, true, true, true, true, true, true, true, true, true, true, true, true, true, true, true, true, true, true, true, true, true, true, true, true, true, true, true, true, true, true, true, false, false, false, false, false, false, false, false, false, false, false]
abbrev mk13_88 : Array Bool := #[true, true, true, true, true, true, true, true, true, true, true, true, true, true, true, true, true, true, true, true, true, true, true, true, true, true, true, true, true, true, true, true, true, true, false, false, false, false, false, false, false, false, false, false, false, false, false, false, false, false, false, false, false, false, false, false, false, false, false]
abbrev mk13_89 : Array Bool := #[true, true, true, true, true, true, true, true, true, true, true, true, true, true, true, true, true, true, true, true, true, true, true, true, true, true, true, true, true, true, true, true, true, true, false, false, false, false, false, false, false, false, false, false]
abbrev mk13_90 : Array Bool := #[true, true, true, true, true, true, true, true, true, true, true, true, true, true, true, true, true, true, true, true, true, true, true, true, true, true, true, true, true, true, true, true, true, true, true, false, false, false, false, false, false, false, false, false, false, false, false, false, false, false, false, false, false, false, false, false, false, false, false]
abbrev mk13_91 : Array Bool := #[true, true, true, true, true, true, true, true, true, true, true, true, true, true, true, true, true, true, true, true, true, true, true, true, true, true, true, true, true, true, true, true, true, true, true, false, false, false, false, false, false, false, false, false]
abbrev mk13_92 : Array Bool := #[true, true, true, true, true, true, true, true, true, true, true, true, true, true, true, true, true, true, true, true, true, true, true, true, true, true, true, true, true, true, true, true, true, true, true, false, true, false, false, false, false, false, false, false]
abbrev mk13_93 : Array Bool := #[true, true, true, true, true, true, true, true, true, true, true, true, true, true, true, true, true, true, true, true, true, true, true, true, true, true, true, true, true, true, true, true, true, true, true, false, true, true, false, false, false, false, false, false]
abbrev mk13_94 : Array Bool := #[true, true, true, true, true, true, true, true, true, true, true, true, true, true, true, true, true, true, true, true, true, true, true, true, true, true, true, true, true, true, true, true, true, true, true, false, true, true, true, false, false, false, false, false]
abbrev mk13_95 : Array Bool := #[true, true, true, true, true, true, true, true, true, true, true, true, true, true, true, true, true, true, true, true, true, true, true, true, true, true, true, true, true, true, true, true, true, true, true, false, true, true, true, true, false, false, false, false]
abbrev mk13_96 : Array Bool := #[true, true, true, true, true, true, true, true, true, true, true, true, true, true, true, true, true, true, true, true, true, true, true, true, true, true, true, true, true, true, true, true, true, true, true, true, false, false, false, false, false, false, false, false, false, false, false, false, false, false, false, false, false, false, false, false, false, false, false]
abbrev mk13_97 : Array Bool := #[true, true, true, true, true, true, true, true, true, true, true, true, true, true, true, true, true, true, true, true, true, true, true, true, true, true, true, true, true, true, true, true, true, true, true, true, false, false, false, false, false, false, false, false]
abbrev mk13_98 : Array Bool := #[true, true, true, true, true, true, true, true, true, true, true, true, true, true, true, true, true, true, true, true, true, true, true, true, true, true, true, true, true, true, true, true, true, true, true, true, true, false, false, false, false, false, false, false, false, false, false, false, false, false, false, false, false, false, false, false, false, false, false]
abbrev mk13_99 : Array Bool := #[true, true, true, true, true, true, true, true, true, true, true, true, true, true, true, true, true, true, true, true, true, true, true, true, true, true, true, true, true, true, true, true, true, true, true, true, true, false, false, false, false, false, false, false]
abbrev mk13_100 : Array Bool := #[true, true, true, true, true, true, true, true, true, true, true, true, true, true, true, true, true, true, true, true, true, true, true, true, true, true, true, true, true, true, true, true, true, true, true, true, true, true, false, false, false, false, false, false, false, false, false, false, false, false, false, false, false, false, false, false, false, false, false]
abbrev mk13_101 : Array Bool := #[true, true, true, true, true, true, true, true, true, true, true, true, true, true, true, true, true, true, true, true, true, true, true, true, true, true, true, true, true, true, true, true, true, true, true, true, true, true, false, false, false, false, false, false]
abbrev mk13_102 : Array Bool := #[true, true, true, true, true, true, true, true, true, true, true, true, true, true, true, true, true, true, true, true, true, true, true, true, true, true, true, true, true, true, true, true, true, true, true, true, true, true, true, false, false, false, false, false, false, false, false, false, false, false, false, false, false, false, false, false, false, false, false]
abbrev mk13_103 : Array Bool := #[true, true, true, true, true, true, true, true, true, true, true, true, true, true, true, true, true, true, true, true, true, true, true, true, true, true, true, true, true, true, true, true, true, true, true, true, true, true, true, false, false, false, false, false]
abbrev mk13_104 : Array Bool := #[true, true, true, true, true, true, true, true, true, true, true, true, true, true, true, true, true, true, true, true, true, true, true, true, true, true, true, true, true, true, true, true, true, true, true, true, true, true, true, true, false, false, false, false, false, false, false, false, false, false, false, false, false, false, false, false, false, false, false]
abbrev mk13_105 : Array Bool := #[true, true, true, true, true, true, true, true, true, true, true, true, true, true, true, true, true, true, true, true, true, true, true, true, true, true, true, true, true, true, true, true, true, true, true, true, true, true, true, true, false, false, false, false]
abbrev mk13_106 : Array Bool := #[true, true, true, true, true, true, true, true, true, true, true, true, true, true, true, true, true, true, true, true, true, true, true, true, true, true, true, true, true, true, true, true, true, true, true, true, true, true, true, true, true, false, false, false, false, false, false, false, false, false, false, false, false, false, false, false, false, false, false]
abbrev mk13_107 : Array Bool := #[true, true, true, true, true, true, true, true, true, true, true, true, true, true, true, true, true, true, true, true, true, true, true, true, true, true, true, true, true, true, true, true, true, true, true, true, true, true, true, true, true, false, false, false]
abbrev mk13_108 : Array Bool := #[true, true, true, true, true, true, true, true, true, true, true, true, true, true, true, true, true, true, true, true, true, true, true, true, true, true, true, true, true, true, true, true, true, true, true, true, true, true, true, true, true, true, false, false, false, false, false, false, false, false, false, false, false, false, false, false, false, false, false]
abbrev mk13_109 : Array Bool := #[true, true, true, true, true, true, true, true, true, true, true, true, true, true, true, true, true, true, true, true, true, true, true, true, true, true, true, true, true, true, true, true, true, true, true, true, true, true, true, true, true, true, false, false]
abbrev mk13_110 : Array Bool := #[true, true, true, true, true, true, true, true, true, true, true, true, true, true, true, true, true, true, true, true, true, true, true, true, true, true, true, true, true, true, true, true, true, true, true, true, true, true, true, true, true, true, true, false, false, false, false, false, false, false, false, false, false, false, false, false, false, false, false]
abbrev mk13_111 : Array Bool := #[true, true, true, true, true, true, true, true, true, true, true, true, true, true, true, true, true, true, true, true, true, true, true, true, true, true, true, true, true, true, true, true, true, true, true, true, true, true, true, true, true, true, true, false]
abbrev mk13_112 : Array Bool := #[true, true, true, true, true, true, true, true, true, true, true, true, true, true, true, true, true, true, true, true, true, true, true, true, true, true, true, true, true, true, true, true, true, true, true, true, true, true, true, true, true, true, true, true, false, false, false, false, false, false, false, false, false, false, false, false, false, false, false]
abbrev mk13_113 : Array Bool := #[true, true, true, true, true, true, true, true, true, true, true, true, true, true, true, true, true, true, true, true, true, true, true, true, true, true, true, true, true, true, true, true, true, true, true, true, true, true, true, true, true, true, true, true, true, false, false, false, false, false, false, false, false, false, false, false, false, false, false]
abbrev mk13_114 : Array Bool := #[true, true, true, true, true, true, true, true, true, true, true, true, true, true, true, true, true, true, true, true, true, true, true, true, true, true, true, true, true, true, true, true, true, true, true, true, true, true, true, true, true, true, true, true, true, true, false, false, false, false, false, false, false, false, false, false, false, false, false]
abbrev mk13_115 : Array Bool := #[true, true, true, true, true, true, true, true, true, true, true, true, true, true, true, true, true, true, true, true, true, true, true, true, true, true, true, true, true, true, true, true, true, true, true, true, true, true, true, true, true, true, true, true, true, true, true, false, false, false, false, false, false, false, false, false, false, false, false]
abbrev mk13_116 : Array Bool := #[true, true, true, true, true, true, true, true, true, true, true, true, true, true, true, true, true, true, true, true, true, true, true, true, true, true, true, true, true, true, true, true, true, true, true, true, true, true, true, true, true, true, true, true, true, true, true, true, false, false, false, false, false, false, false, false, false, false, false]
abbrev mk13_117 : Array Bool := #[true, true, true, true, true, true, true, true, true, true, true, true, true, true, true, true, true, true, true, true, true, true, true, true, true, true, true, true, true, true, true, true, true, true, true, true, true, true, true, true, true, true, true, true, true, true, true, true, false, false, true, false, false, false, false, false, false, false, false]
abbrev mk13_118 : Array Bool := #[true, true, true, true, true, true, true, true, true, true, true, true, true, true, true, true, true, true, true, true, true, true, true, true, true, true, true, true, true, true, true, true, true, true, true, true, true, true, true, true, true, true, true, true, true, true, true, true, false, false, true, true, false, false, false, false, false, false, false]
abbrev mk13_119 : Array Bool := #[true, true, true, true, true, true, true, true, true, true, true, true, true, true, true, true, true, true, true, true, true, true, true, true, true, true, true, true, true, true, true, true, true, true, true, true, true, true, true, true, true, true, true, true, true, true, true, true, false, false, true, true, true, false, false, false, false, false, false]
abbrev mk13_120 : Array Bool := #[true, true, true, true, true, true, true, true, true, true, true, true, true, true, true, true, true, true, true, true, true, true, true, true, true, true, true, true, true, true, true, true, true, true, true, true, true, true, true, true, true, true, true, true, true, true, true, true, false, false, true, true, true, true, false, false, false, false, false]
abbrev mk13_121 : Array Bool := #[true, true, true, true, true, true, true, true, true, true, true, true, true, true, true, true, true, true, true, true, true, true, true, true, true, true, true, true, true, true, true, true, true, true, true, true, true, true, true, true, true, true, true, true, true, true, true, true, true, false, false, false, false, false, false, false, false, false, false]
abbrev mk13_122 : Array Bool := #[true, true, true, true, true, true, true, true, true, true, true, true, true, true, true, true, true, true, true, true, true, true, true, true, true, true, true, true, true, true, true, true, true, true, true, true, true, true, true, true, true, true, true, true, true, true, true, true, true, false, true, true, true, true, false, false, false, false, false]
abbrev mk13_123 : Array Bool := #[true, true, true, true, true, true, true, true, true, true, true, true, true, true, true, true, true, true, true, true, true, true, true, true, true, true, true, true, true, true, true, true, true, true, true, true, true, true, true, true, true, true, true, true, true, true, true, true, true, false, true, true, true, true, true, false, false, false, false]
abbrev mk13_124 : Array Bool := #[true, true, true, true, true, true, true, true, true, true, true, true, true, true, true, true, true, true, true, true, true, true, true, true, true, true, true, true, true, true, true, true, true, true, true, true, true, true, true, true, true, true, true, true, true, true, true, true, true, true, false, false, false, false, false, false, false, false, false]
abbrev mk13_125 : Array Bool := #[true, true, true, true, true, true, true, true, true, true, true, true, true, true, true, true, true, true, true, true, true, true, true, true, true, true, true, true, true, true, true, true, true, true, true, true, true, true, true, true, true, true, true, true, true, true, true, true, true, true, true, false, false, false, false, false, false, false, false]
abbrev mk13_126 : Array Bool := #[true, true, true, true, true, true, true, true, true, true, true, true, true, true, true, true, true, true, true, true, true, true, true, true, true, true, true, true, true, true, true, true, true, true, true, true, true, true, true, true, true, true, true, true, true, true, true, true, true, true, true, true, false, false, false, false, false, false, false]
abbrev mk13_127 : Array Bool := #[true, true, true, true, true, true, true, true, true, true, true, true, true, true, true, true, true, true, true, true, true, true, true, true, true, true, true, true, true, true, true, true, true, true, true, true, true, true, true, true, true, true, true, true, true, true, true, true, true, true, true, true, true, false, false, false, false, false, false]
abbrev mk13_128 : Array Bool := #[true, true, true, true, true, true, true, true, true, true, true, true, true, true, true, true, true, true, true, true, true, true, true, true, true, true, true, true, true, true, true, true, true, true, true, true, true, true, true, true, true, true, true, true, true, true, true, true, true, true, true, true, true, true, false, false, false, false, false]
abbrev mk13_129 : Array Bool := #[true, true, true, true, true, true, true, true, true, true, true, true, true, true, true, true, true, true, true, true, true, true, true, true, true, true, true, true, true, true, true, true, true, true, true, true, true, true, true, true, true, true, true, true, true, true, true, true, true, true, true, true, true, true, true, false, false, false, false]
abbrev mk13_130 : Array Bool := #[true, true, true, true, true, true, true, true, true, true, true, true, true, true, true, true, true, true, true, true, true, true, true, true, true, true, true, true, true, true, true, true, true, true, true, true, true, true, true, true, true, true, true, true, true, true, true, true, true, true, true, true, true, true, true, true, false, false, false]
abbrev mk13_131 : Array Bool := #[true, true, true, true, true, true, true, true, true, true, true, true, true, true, true, true, true, true, true, true, true, true, true, true, true, true, true, true, true, true, true, true, true, true, true, true, true, true, true, true, true, true, true, true, true, true, true, true, true, true, true, true, true, true, true, true, true, false, false]
abbrev mk13_132 : Array Bool := #[true, true, true, true, true, true, true, true, true, true, true, true, true, true, true, true, true, true, true, true, true, true, true, true, true, true, true, true, true, true, true, true, true, true, true, true, true, true, true, true, true, true, true, true, true, true, true, true, true, true, true, true, true, true, true, true, true, true, false]
abbrev mk13_133 : Array Bool := #[true, true, true, true, true, true, true, true, true, true, true, true, true, true, true, true, true, true, true, true, true, true, true, true, true, true, true, true, true, true, true, true, true, true, true, true, true, true, true, true, true, true, true, true, true, true, true, true, true, true, true, true, true, true, true, true, true, true, true]
abbrev mk13_134 : Array Bool := #[true, true, true, true, true, true, true, true, true, true, true, true, true, true, true, true, true, true, true, true, true, true, true, true, true, true, true, true, true, true, true, true, true, true, true, true, true, true, true, true, true, true, true, true]
abbrev mk13_135 : Array Bool := #[true, true, true, true, true, true, true, true, true, true, true, true, true]
theorem u13_0 {p : Prop} (h : p := by repeat (first | (with_reducible first | exact HB.out | apply below_alloc | apply pw_below_drewN | apply below_drew1) | exact HB.out)) : p := h
theorem u13_1 {p : Prop} (h : p := by (with_reducible repeat (first | apply Kd.R_alloc | apply Kd.R_drewN | apply Kd.R_drew)); exact HO_3.out) : p := h
theorem u13_2 {p : Prop} (h : p := by (try simp only [List.map_toArray, List.map_cons, List.map_nil]); first | done | rfl) : p := h
theorem u13_3 {p : Prop} (h : p := by assumption) : p := h
theorem u13_4 {p : Prop} (h : p := by first | rfl | (simp; done) | (simp [*]; done)) : p := h
theorem u13_5 {p : Prop} (h : p := by decide) : p := h
set_option maxRecDepth 100000 in
theorem lf13_0 {p : Prop} (h : p := by
  refine start_ (n := 13) (S := fun w' => zc6 w' (ad359.add ((x4_1).toNat * 8)) (rd_T30 t356 x4_1) (zc2 w' (ad359.add ((x6_3).toNat * 8)) (rd_T30 t356 x6_3))) (ds := []) mk13_2 (by kernel_rfl) rfl rfl ⟨hx370_0, hx370_1, hx370_2, hx370_3, hx370_4, hx370_5, hx370_6, hx370_7, hx371_0, hx371_1, hx371_2, hx371_3, hx371_4, hx371_5, hx371_6, hx371_7⟩ (fun hHeld => ?_); refine with_tabW laws_FnLines.tab13 laws_FnLines.bits13 (fun HT_ HW_ => ?_)
  generalize wr.drew = w37 at HO_3 HB hx370_0 hx370_1 hx370_2 hx370_3 hx370_4 hx370_5 hx370_6 hx370_7 hx371_0 hx371_1 hx371_2 hx371_3 hx371_4 hx371_5 hx371_6 hx371_7 hHeld ⊢
  refine pz 0 77 mk13_5 (any_of HT_.out (by kernel_rfl)) ?_
  refine pz 1 78 mk13_8 (any_of HT_.out (by kernel_rfl)) ?_
  refine pz 2 79 mk13_11 (any_of HT_.out (by kernel_rfl)) ?_
  refine pz 3 80 mk13_14 (any_of HT_.out (by kernel_rfl)) ?_
  refine pz 4 81 mk13_17 (any_of HT_.out (by kernel_rfl)) ?_
  refine pz 6 83 mk13_18 (any_of HT_.out (by kernel_rfl)) ?_
  refine pz 7 84 mk13_19 (any_of HT_.out (by kernel_rfl)) ?_
  refine pz 8 85 mk13_20 (any_of HT_.out (by kernel_rfl)) ?_
  refine pz 9 86 mk13_21 (any_of HT_.out (by kernel_rfl)) ?_
  refine take_ (i := 5) (N := some 82) (v := ?_) (a' := ?_) mk13_32 rfl rfl (take_ofW HT_.out HW_.out (by kernel_rfl)) (fun _ _ _ h => h) (Or.inl ⟨by rfl, ?_⟩) hHeld ?_ ?_
  rotate_left
  ·rintro w' ⟨s0, s1, s2, s3, s4, s5, s6, s7, s8, s9, s10, s11, s12, s13, s14, s15⟩
   exact gs
  rotate_left
  ·exact ap
  refine take_ (i := 10) (N := some 87) (v := ?_) (a' := ?_) mk13_35 rfl rfl (take_ofW HT_.out HW_.out (by kernel_rfl)) (fun _ _ _ h => h) (Or.inl ⟨by rfl, ?_⟩) hHeld ?_ ?_
  rotate_left
  ·rintro w' ⟨s0, s1, s2, s3, s4, s5, s6, s7, s8, s9, s10, s11, s12, s13, s14, s15⟩
   exact gs
  rotate_left
  ·exact ap
  refine one_ (i := 11) (N := some 88) mk13_38 rfl rfl (one_of HT_.out (by kernel_rfl)) u13_5 (fun K hK => ?_)
  refine goes_ Try.func27 (by kernel_rfl) rfl #[.slice (some ad359) t356.length co11, .string ((rd_T30 t356 x4_1).f0), .string ((rd_T30 t356 x6_3).f0)] (by rfl) rfl rfl u13_2 ?_
  with_reducible refine (impl_SameLine.calls k3 _ _ t356 ((rd_T30 t356 x4_1).f0) ((rd_T30 t356 x6_3).f0) t372 _ ?side1 ?side2 A34.out).mono ?_
  (case side1 => exact y13_0)
  (case side2 => exact (Kd.R_reads' HO_3.out).2.1)
  rintro e w38 ⟨rfl, hb⟩
  refine ⟨_, rfl, ?_⟩
  have n0_ := am (Kd.R_below u13_1 hb)
  have n1_ := am (below_step u13_0 hb)
  clear HO_3 HB
  have HO_3 := n0_
  have HB := n1_
  clear n0_ n1_
  (try clear hb2)
  (try clear hk)
  (try clear hi)
  refine hK.out _ _ hz13_0 (fun hHeld => ?_)
  clear hb
  clear hK K
  refine norm_ (a' := ?_) ?_ ?_
  rotate_left
  ·show Act.put _ (some 88) _ = _
   simp only [Act.put, List.setIfInBounds_toArray, List.set_cons_zero, List.set_cons_succ, i64_w, i32_w]
   rfl
  refine pz 12 7 mk13_135 (any_of HT_.out (by kernel_rfl)) ?_
  refine done_ (done_of HT_.out (by kernel_rfl)) ?_
  try go_wp2
  have n0_ := am (Kd.R_drew HO_3.out)
  have n1_ := am (below_drew1 HB.out)
  clear HO_3 HB
  have HO_3 := n0_
  have HB := n1_
  clear n0_ n1_
  have p373 : 0 ≤ (x6_3 : Int) := od u13_3
  have q373 : x6_3 < (t356.length : Int) := od u13_3
  obtain ⟨ad373, e373, hx373_0, hx373_1, hx373_2, hx373_3, hx373_4, hx373_5, hx373_6, hx373_7⟩ := at_T30 (Kd.R_reads' HO_3.out).2.2 x6_3 p373 q373
  obtain rfl : ad359 = ad373 := (by injection e373)
  replace p373 := eq_true p373
  replace q373 := eq_true q373
  have p374 : 0 ≤ (x4_1 : Int) := od u13_3
  have q374 : x4_1 < (t356.length : Int) := od u13_3
  obtain ⟨ad374, e374, hx374_0, hx374_1, hx374_2, hx374_3, hx374_4, hx374_5, hx374_6, hx374_7⟩ := at_T30 (Kd.R_reads' HO_3.out).2.2 x4_1 p374 q374
  obtain rfl : ad359 = ad374 := (by injection e374)
  replace p374 := eq_true p374
  replace q374 := eq_true q374
  refine start_ (n := 59) (S := fun w' => zc6 w' (ad359.add ((x6_3).toNat * 8)) (rd_T30 t356 x6_3) (zc2 w' (ad359.add ((x4_1).toNat * 8)) (rd_T30 t356 x4_1))) (ds := []) mk13_0 (by kernel_rfl) rfl rfl ⟨hx373_0, hx373_1, hx373_2, hx373_3, hx373_4, hx373_5, hx373_6, hx373_7, hx374_0, hx374_1, hx374_2, hx374_3, hx374_4, hx374_5, hx374_6, hx374_7⟩ (fun hHeld => ?_); refine with_tabW laws_FnLines.tab14 laws_FnLines.bits14 (fun HT_ HW_ => ?_)
  generalize w38.drew = w39 at HO_3 HB hx373_0 hx373_1 hx373_2 hx373_3 hx373_4 hx373_5 hx373_6 hx373_7 hx374_0 hx374_1 hx374_2 hx374_3 hx374_4 hx374_5 hx374_6 hx374_7 hHeld ⊢
  refine pz 0 89 mk13_3 (any_of HT_.out (by kernel_rfl)) ?_
  refine pz 1 90 mk13_6 (any_of HT_.out (by kernel_rfl)) ?_
  refine pz 2 91 mk13_9 (any_of HT_.out (by kernel_rfl)) ?_
  refine pz 3 92 mk13_12 (any_of HT_.out (by kernel_rfl)) ?_
  refine pz 4 93 mk13_15 (any_of HT_.out (by kernel_rfl)) ?_
  refine pz 5 94 mk13_22 (any_of HT_.out (by kernel_rfl)) ?_
  refine pz 7 96 mk13_24 (any_of HT_.out (by kernel_rfl)) ?_
  refine pz 8 97 mk13_25 (any_of HT_.out (by kernel_rfl)) ?_
  refine pz 9 98 mk13_26 (any_of HT_.out (by kernel_rfl)) ?_
  refine pz 10 99 mk13_27 (any_of HT_.out (by kernel_rfl)) ?_
  refine take_ (i := 6) (N := some 95) (v := ?_) (a' := ?_) mk13_33 rfl rfl (take_ofW HT_.out HW_.out (by kernel_rfl)) (fun _ _ _ h => h) (Or.inl ⟨by rfl, ?_⟩) hHeld ?_ ?_
  rotate_left
  ·rintro w' ⟨s0, s1, s2, s3, s4, s5, s6, s7, s8, s9, s10, s11, s12, s13, s14, s15⟩
   exact gs
  rotate_left
  ·exact ap
  refine take_ (i := 11) (N := some 100) (v := ?_) (a' := ?_) mk13_36 rfl rfl (take_ofW HT_.out HW_.out (by kernel_rfl)) (fun _ _ _ h => h) (Or.inl ⟨by rfl, ?_⟩) hHeld ?_ ?_
  rotate_left
  ·rintro w' ⟨s0, s1, s2, s3, s4, s5, s6, s7, s8, s9, s10, s11, s12, s13, s14, s15⟩
   exact gs
  rotate_left
  ·exact ap
  refine one_ (i := 12) (N := some 101) mk13_39 rfl rfl (one_of HT_.out (by kernel_rfl)) u13_5 (fun K hK => ?_)
  refine goes_ Try.func27 (by kernel_rfl) rfl #[.slice (some ad359) t356.length co11, .string ((rd_T30 t356 x6_3).f0), .string ((rd_T30 t356 x4_1).f0)] (by rfl) rfl rfl u13_2 ?_
  with_reducible refine (impl_SameLine.calls k3 _ _ t356 ((rd_T30 t356 x6_3).f0) ((rd_T30 t356 x4_1).f0) t375 _ ?side1 ?side2 A35.out).mono ?_
  (case side1 => exact y13_0)
  (case side2 => exact (Kd.R_reads' HO_3.out).2.1)
  rintro e w40 ⟨rfl, hb⟩
  refine ⟨_, rfl, ?_⟩
  have n0_ := am (Kd.R_below u13_1 hb)
  have n1_ := am (below_step u13_0 hb)
  clear HO_3 HB
  have HO_3 := n0_
  have HB := n1_
  clear n0_ n1_
  (try clear hb2)
  (try clear hk)
  (try clear hi)
  refine hK.out _ _ hz13_0 (fun hHeld => ?_)
  clear hb
  clear hK K
  refine norm_ (a' := ?_) ?_ ?_
  rotate_left
  ·show Act.put _ (some 101) _ = _
   simp only [Act.put, List.setIfInBounds_toArray, List.set_cons_zero, List.set_cons_succ, i64_w, i32_w]
   rfl
  refine pz 13 102 mk13_41 (any_of HT_.out (by kernel_rfl)) ?_
  refine pz 14 103 mk13_43 (any_of HT_.out (by kernel_rfl)) ?_
  refine pure_ (i := 15) (N := some 104) (v := undef) (a' := ?_) mk13_45 rfl rfl (any_of HT_.out (by kernel_rfl)) (fun _ _ _ h => h) (Or.inr ⟨by rfl, rfl⟩) ?_ ?_
  rotate_left
  ·exact ap
  refine pure_ (i := 16) (N := some 105) (v := undef) (a' := ?_) mk13_47 rfl rfl (any_of HT_.out (by kernel_rfl)) (fun _ _ _ h => h) (Or.inr ⟨by rfl, rfl⟩) ?_ ?_
  rotate_left
  ·exact ap
  refine pure_ (i := 17) (N := some 106) (v := undef) (a' := ?_) mk13_49 rfl rfl (any_of HT_.out (by kernel_rfl)) (fun _ _ _ h => h) (Or.inr ⟨by rfl, rfl⟩) ?_ ?_
  rotate_left
  ·exact ap
  refine pure_ (i := 18) (N := some 107) (v := undef) (a' := ?_) mk13_51 rfl rfl (any_of HT_.out (by kernel_rfl)) (fun _ _ _ h => h) (Or.inr ⟨by rfl, rfl⟩) ?_ ?_
  rotate_left
  ·exact ap
  refine pure_ (i := 19) (N := some 108) (v := undef) (a' := ?_) mk13_53 rfl rfl (any_of HT_.out (by kernel_rfl)) (fun _ _ _ h => h) (Or.inr ⟨by rfl, rfl⟩) ?_ ?_
  rotate_left
  ·exact ap
  refine pure_ (i := 20) (N := some 109) (v := undef) (a' := ?_) mk13_55 rfl rfl (any_of HT_.out (by kernel_rfl)) (fun _ _ _ h => h) (Or.inr ⟨by rfl, rfl⟩) ?_ ?_
  rotate_left
  ·exact ap
  refine pure_ (i := 21) (N := some 110) (v := undef) (a' := ?_) mk13_57 rfl rfl (any_of HT_.out (by kernel_rfl)) (fun _ _ _ h => h) (Or.inr ⟨by rfl, rfl⟩) ?_ ?_
  rotate_left
  ·exact ap
  refine pure_ (i := 22) (N := some 111) (v := undef) (a' := ?_) mk13_64 rfl rfl (any_of HT_.out (by kernel_rfl)) (fun _ _ _ h => h) (Or.inr ⟨by rfl, rfl⟩) ?_ ?_
  rotate_left
  ·exact ap
  refine pure_ (i := 23) (N := some 112) (v := undef) (a' := ?_) mk13_68 rfl rfl (any_of HT_.out (by kernel_rfl)) (fun _ _ _ h => h) (Or.inr ⟨by rfl, rfl⟩) ?_ ?_
  rotate_left
  ·exact ap
  refine pure_ (i := 24) (N := some 113) (v := undef) (a' := ?_) mk13_70 rfl rfl (any_of HT_.out (by kernel_rfl)) (fun _ _ _ h => h) (Or.inr ⟨by rfl, rfl⟩) ?_ ?_
  rotate_left
  ·exact ap
  refine pure_ (i := 25) (N := some 114) (v := undef) (a' := ?_) mk13_72 rfl rfl (any_of HT_.out (by kernel_rfl)) (fun _ _ _ h => h) (Or.inr ⟨by rfl, rfl⟩) ?_ ?_
  rotate_left
  ·exact ap
  refine pure_ (i := 26) (N := some 115) (v := undef) (a' := ?_) mk13_74 rfl rfl (any_of HT_.out (by kernel_rfl)) (fun _ _ _ h => h) (Or.inr ⟨by rfl, rfl⟩) ?_ ?_
  rotate_left
  ·exact ap
  refine pure_ (i := 27) (N := some 116) (v := undef) (a' := ?_) mk13_76 rfl rfl (any_of HT_.out (by kernel_rfl)) (fun _ _ _ h => h) (Or.inr ⟨by rfl, rfl⟩) ?_ ?_
  rotate_left
  ·exact ap
  refine pure_ (i := 28) (N := some 117) (v := undef) (a' := ?_) mk13_78 rfl rfl (any_of HT_.out (by kernel_rfl)) (fun _ _ _ h => h) (Or.inr ⟨by rfl, rfl⟩) ?_ ?_
  rotate_left
  ·exact ap
  refine pure_ (i := 29) (N := some 118) (v := undef) (a' := ?_) mk13_80 rfl rfl (any_of HT_.out (by kernel_rfl)) (fun _ _ _ h => h) (Or.inr ⟨by rfl, rfl⟩) ?_ ?_
  rotate_left
  ·exact ap
  refine pure_ (i := 30) (N := some 119) (v := undef) (a' := ?_) mk13_82 rfl rfl (any_of HT_.out (by kernel_rfl)) (fun _ _ _ h => h) (Or.inr ⟨by rfl, rfl⟩) ?_ ?_
  rotate_left
  ·exact ap
  refine pure_ (i := 31) (N := some 120) (v := undef) (a' := ?_) mk13_84 rfl rfl (any_of HT_.out (by kernel_rfl)) (fun _ _ _ h => h) (Or.inr ⟨by rfl, rfl⟩) ?_ ?_
  rotate_left
  ·exact ap
  refine pure_ (i := 32) (N := some 121) (v := undef) (a' := ?_) mk13_86 rfl rfl (any_of HT_.out (by kernel_rfl)) (fun _ _ _ h => h) (Or.inr ⟨by rfl, rfl⟩) ?_ ?_
  rotate_left
  ·exact ap
  refine pz 33 122 mk13_88 (any_of HT_.out (by kernel_rfl)) ?_
  refine pz 34 123 mk13_90 (any_of HT_.out (by kernel_rfl)) ?_
  refine pure_ (i := 35) (N := some 124) (v := undef) (a' := ?_) mk13_96 rfl rfl (any_of HT_.out (by kernel_rfl)) (fun _ _ _ h => h) (Or.inr ⟨by rfl, rfl⟩) ?_ ?_
  rotate_left
  ·exact ap
  refine pure_ (i := 36) (N := some 125) (v := undef) (a' := ?_) mk13_98 rfl rfl (any_of HT_.out (by kernel_rfl)) (fun _ _ _ h => h) (Or.inr ⟨by rfl, rfl⟩) ?_ ?_
  rotate_left
  ·exact ap
  refine pure_ (i := 37) (N := some 126) (v := undef) (a' := ?_) mk13_100 rfl rfl (any_of HT_.out (by kernel_rfl)) (fun _ _ _ h => h) (Or.inr ⟨by rfl, rfl⟩) ?_ ?_
  rotate_left
  ·exact ap
  refine pure_ (i := 38) (N := some 127) (v := undef) (a' := ?_) mk13_102 rfl rfl (any_of HT_.out (by kernel_rfl)) (fun _ _ _ h => h) (Or.inr ⟨by rfl, rfl⟩) ?_ ?_
  rotate_left
  ·exact ap
  refine pure_ (i := 39) (N := some 128) (v := undef) (a' := ?_) mk13_104 rfl rfl (any_of HT_.out (by kernel_rfl)) (fun _ _ _ h => h) (Or.inr ⟨by rfl, rfl⟩) ?_ ?_
  rotate_left
  ·exact ap
  refine pure_ (i := 40) (N := some 129) (v := undef) (a' := ?_) mk13_106 rfl rfl (any_of HT_.out (by kernel_rfl)) (fun _ _ _ h => h) (Or.inr ⟨by rfl, rfl⟩) ?_ ?_
  rotate_left
  ·exact ap
  refine pure_ (i := 41) (N := some 130) (v := undef) (a' := ?_) mk13_108 rfl rfl (any_of HT_.out (by kernel_rfl)) (fun _ _ _ h => h) (Or.inr ⟨by rfl, rfl⟩) ?_ ?_
  rotate_left
  ·exact ap
  refine pure_ (i := 42) (N := some 131) (v := undef) (a' := ?_) mk13_110 rfl rfl (any_of HT_.out (by kernel_rfl)) (fun _ _ _ h => h) (Or.inr ⟨by rfl, rfl⟩) ?_ ?_
  rotate_left
  ·exact ap
  refine pure_ (i := 43) (N := some 132) (v := undef) (a' := ?_) mk13_112 rfl rfl (any_of HT_.out (by kernel_rfl)) (fun _ _ _ h => h) (Or.inr ⟨by rfl, rfl⟩) ?_ ?_
  rotate_left
  ·exact ap
  refine pure_ (i := 44) (N := some 133) (v := undef) (a' := ?_) mk13_113 rfl rfl (any_of HT_.out (by kernel_rfl)) (fun _ _ _ h => h) (Or.inr ⟨by rfl, rfl⟩) ?_ ?_
  rotate_left
  ·exact ap
  refine pure_ (i := 45) (N := some 134) (v := undef) (a' := ?_) mk13_114 rfl rfl (any_of HT_.out (by kernel_rfl)) (fun _ _ _ h => h) (Or.inr ⟨by rfl, rfl⟩) ?_ ?_
  rotate_left
  ·exact ap
  refine pure_ (i := 46) (N := some 135) (v := undef) (a' := ?_) mk13_115 rfl rfl (any_of HT_.out (by kernel_rfl)) (fun _ _ _ h => h) (Or.inr ⟨by rfl, rfl⟩) ?_ ?_
  rotate_left
  ·exact ap
  refine pure_ (i := 47) (N := some 136) (v := undef) (a' := ?_) mk13_116 rfl rfl (any_of HT_.out (by kernel_rfl)) (fun _ _ _ h => h) (Or.inr ⟨by rfl, rfl⟩) ?_ ?_
  rotate_left
  ·exact ap
  refine pure_ (i := 48) (N := some 137) (v := undef) (a' := ?_) mk13_121 rfl rfl (any_of HT_.out (by kernel_rfl)) (fun _ _ _ h => h) (Or.inr ⟨by rfl, rfl⟩) ?_ ?_
  rotate_left
  ·exact ap
  refine pure_ (i := 49) (N := some 138) (v := undef) (a' := ?_) mk13_124 rfl rfl (any_of HT_.out (by kernel_rfl)) (fun _ _ _ h => h) (Or.inr ⟨by rfl, rfl⟩) ?_ ?_
  rotate_left
  ·exact ap
  refine pure_ (i := 50) (N := some 139) (v := undef) (a' := ?_) mk13_125 rfl rfl (any_of HT_.out (by kernel_rfl)) (fun _ _ _ h => h) (Or.inr ⟨by rfl, rfl⟩) ?_ ?_
  rotate_left
  ·exact ap
  refine pure_ (i := 51) (N := some 140) (v := undef) (a' := ?_) mk13_126 rfl rfl (any_of HT_.out (by kernel_rfl)) (fun _ _ _ h => h) (Or.inr ⟨by rfl, rfl⟩) ?_ ?_
  rotate_left
  ·exact ap
  refine pure_ (i := 52) (N := some 141) (v := undef) (a' := ?_) mk13_127 rfl rfl (any_of HT_.out (by kernel_rfl)) (fun _ _ _ h => h) (Or.inr ⟨by rfl, rfl⟩) ?_ ?_
  rotate_left
  ·exact ap
  refine pure_ (i := 53) (N := some 142) (v := undef) (a' := ?_) mk13_128 rfl rfl (any_of HT_.out (by kernel_rfl)) (fun _ _ _ h => h) (Or.inr ⟨by rfl, rfl⟩) ?_ ?_
  rotate_left
  ·exact ap
  refine pure_ (i := 54) (N := some 143) (v := undef) (a' := ?_) mk13_129 rfl rfl (any_of HT_.out (by kernel_rfl)) (fun _ _ _ h => h) (Or.inr ⟨by rfl, rfl⟩) ?_ ?_
  rotate_left
  ·exact ap
  refine pure_ (i := 55) (N := some 144) (v := undef) (a' := ?_) mk13_130 rfl rfl (any_of HT_.out (by kernel_rfl)) (fun _ _ _ h => h) (Or.inr ⟨by rfl, rfl⟩) ?_ ?_
  rotate_left
  ·exact ap
  refine pure_ (i := 56) (N := some 145) (v := undef) (a' := ?_) mk13_131 rfl rfl (any_of HT_.out (by kernel_rfl)) (fun _ _ _ h => h) (Or.inr ⟨by rfl, rfl⟩) ?_ ?_
  rotate_left
  ·exact ap
  refine pure_ (i := 57) (N := some 146) (v := undef) (a' := ?_) mk13_132 rfl rfl (any_of HT_.out (by kernel_rfl)) (fun _ _ _ h => h) (Or.inr ⟨by rfl, rfl⟩) ?_ ?_
  rotate_left
  ·exact ap
  refine pz 58 147 mk13_133 (any_of HT_.out (by kernel_rfl)) ?_
  refine done_ (done_of HT_.out (by kernel_rfl)) ?_
  try go_wp2
  go_ret
  exact ⟨by first | rfl | (simp [*] <;> rfl), s13_2⟩) : p := h
set_option maxRecDepth 100000 in
theorem lf13_1 {p : Prop} (h : p := by
  refine start_ (n := 13) (S := fun w' => zc6 w' (ad359.add ((x4_1).toNat * 8)) (rd_T30 t356 x4_1) (zc2 w' (ad359.add ((x6_3).toNat * 8)) (rd_T30 t356 x6_3))) (ds := []) mk13_2 (by kernel_rfl) rfl rfl ⟨hx370_0, hx370_1, hx370_2, hx370_3, hx370_4, hx370_5, hx370_6, hx370_7, hx371_0, hx371_1, hx371_2, hx371_3, hx371_4, hx371_5, hx371_6, hx371_7⟩ (fun hHeld => ?_); refine with_tabW laws_FnLines.tab13 laws_FnLines.bits13 (fun HT_ HW_ => ?_)
  generalize wr.drew = w47 at HO_3 HB hx370_0 hx370_1 hx370_2 hx370_3 hx370_4 hx370_5 hx370_6 hx370_7 hx371_0 hx371_1 hx371_2 hx371_3 hx371_4 hx371_5 hx371_6 hx371_7 hHeld ⊢
  refine pz 0 77 mk13_5 (any_of HT_.out (by kernel_rfl)) ?_
  refine pz 1 78 mk13_8 (any_of HT_.out (by kernel_rfl)) ?_
  refine pz 2 79 mk13_11 (any_of HT_.out (by kernel_rfl)) ?_
  refine pz 3 80 mk13_14 (any_of HT_.out (by kernel_rfl)) ?_
  refine pz 4 81 mk13_17 (any_of HT_.out (by kernel_rfl)) ?_
  refine pz 6 83 mk13_18 (any_of HT_.out (by kernel_rfl)) ?_
  refine pz 7 84 mk13_19 (any_of HT_.out (by kernel_rfl)) ?_
  refine pz 8 85 mk13_20 (any_of HT_.out (by kernel_rfl)) ?_
  refine pz 9 86 mk13_21 (any_of HT_.out (by kernel_rfl)) ?_
  refine take_ (i := 5) (N := some 82) (v := ?_) (a' := ?_) mk13_32 rfl rfl (take_ofW HT_.out HW_.out (by kernel_rfl)) (fun _ _ _ h => h) (Or.inl ⟨by rfl, ?_⟩) hHeld ?_ ?_
  rotate_left
  ·rintro w' ⟨s0, s1, s2, s3, s4, s5, s6, s7, s8, s9, s10, s11, s12, s13, s14, s15⟩
   exact gs
  rotate_left
  ·exact ap
  refine take_ (i := 10) (N := some 87) (v := ?_) (a' := ?_) mk13_35 rfl rfl (take_ofW HT_.out HW_.out (by kernel_rfl)) (fun _ _ _ h => h) (Or.inl ⟨by rfl, ?_⟩) hHeld ?_ ?_
  rotate_left
  ·rintro w' ⟨s0, s1, s2, s3, s4, s5, s6, s7, s8, s9, s10, s11, s12, s13, s14, s15⟩
   exact gs
  rotate_left
  ·exact ap
  refine one_ (i := 11) (N := some 88) mk13_38 rfl rfl (one_of HT_.out (by kernel_rfl)) u13_5 (fun K hK => ?_)
  refine goes_ Try.func27 (by kernel_rfl) rfl #[.slice (some ad359) t356.length co11, .string ((rd_T30 t356 x4_1).f0), .string ((rd_T30 t356 x6_3).f0)] (by rfl) rfl rfl u13_2 ?_
  with_reducible refine (impl_SameLine.calls k3 _ _ t356 ((rd_T30 t356 x4_1).f0) ((rd_T30 t356 x6_3).f0) true _ ?side1 ?side2 A34.out).mono ?_
  (case side1 => exact y13_0)
  (case side2 => exact (Kd.R_reads' HO_3.out).2.1)
  rintro e w48 ⟨rfl, hb⟩
  refine ⟨_, rfl, ?_⟩
  have n0_ := am (Kd.R_below u13_1 hb)
  have n1_ := am (below_step u13_0 hb)
  clear HO_3 HB
  have HO_3 := n0_
  have HB := n1_
  clear n0_ n1_
  (try clear hb2)
  (try clear hk)
  (try clear hi)
  refine hK.out _ _ hz13_0 (fun hHeld => ?_)
  clear hb
  clear hK K
  refine norm_ (a' := ?_) ?_ ?_
  rotate_left
  ·show Act.put _ (some 88) _ = _
   simp only [Act.put, List.setIfInBounds_toArray, List.set_cons_zero, List.set_cons_succ, i64_w, i32_w]
   rfl
  refine pz 12 7 mk13_135 (any_of HT_.out (by kernel_rfl)) ?_
  refine done_ (done_of HT_.out (by kernel_rfl)) ?_
  try go_wp2
  have n0_ := am (Kd.R_drew HO_3.out)
  have n1_ := am (below_drew1 HB.out)
  clear HO_3 HB
  have HO_3 := n0_
  have HB := n1_
  clear n0_ n1_
  have p373 : 0 ≤ (x6_3 : Int) := od u13_3
  have q373 : x6_3 < (t356.length : Int) := od u13_3
  obtain ⟨ad373, e373, hx373_0, hx373_1, hx373_2, hx373_3, hx373_4, hx373_5, hx373_6, hx373_7⟩ := at_T30 (Kd.R_reads' HO_3.out).2.2 x6_3 p373 q373
  obtain rfl : ad359 = ad373 := (by injection e373)
  replace p373 := eq_true p373
  replace q373 := eq_true q373
  have p374 : 0 ≤ (x4_1 : Int) := od u13_3
  have q374 : x4_1 < (t356.length : Int) := od u13_3
  obtain ⟨ad374, e374, hx374_0, hx374_1, hx374_2, hx374_3, hx374_4, hx374_5, hx374_6, hx374_7⟩ := at_T30 (Kd.R_reads' HO_3.out).2.2 x4_1 p374 q374
  obtain rfl : ad359 = ad374 := (by injection e374)
  replace p374 := eq_true p374
  replace q374 := eq_true q374
  have p376 : 0 ≤ (x4_1 : Int) := od u13_3
  have q376 : x4_1 < (t356.length : Int) := od u13_3
  obtain ⟨ad376, e376, hx376_0, hx376_1, hx376_2, hx376_3, hx376_4, hx376_5, hx376_6, hx376_7⟩ := at_T30 (Kd.R_reads' HO_3.out).2.2 x4_1 p376 q376
  obtain rfl : ad359 = ad376 := (by injection e376)
  replace p376 := eq_true p376
  replace q376 := eq_true q376
  have p378 : 0 ≤ (x6_3 : Int) := od u13_3
  have q378 : x6_3 < (t356.length : Int) := od u13_3
  obtain ⟨ad378, e378, hx378_0, hx378_1, hx378_2, hx378_3, hx378_4, hx378_5, hx378_6, hx378_7⟩ := at_T30 (Kd.R_reads' HO_3.out).2.2 x6_3 p378 q378
  obtain rfl : ad359 = ad378 := (by injection e378)
  replace p378 := eq_true p378
  replace q378 := eq_true q378
  have p380 : 0 ≤ (x4_1 : Int) := od u13_3
  have q380 : x4_1 < (t356.length : Int) := od u13_3
  obtain ⟨ad380, e380, hx380_0, hx380_1, hx380_2, hx380_3, hx380_4, hx380_5, hx380_6, hx380_7⟩ := at_T30 (Kd.R_reads' HO_3.out).2.2 x4_1 p380 q380
  obtain rfl : ad359 = ad380 := (by injection e380)
  replace p380 := eq_true p380
  replace q380 := eq_true q380
  refine start_ (n := 59) (S := fun w' => zc6 w' (ad359.add ((x6_3).toNat * 8)) (rd_T30 t356 x6_3) (zc6 w' (ad359.add ((x4_1).toNat * 8)) (rd_T30 t356 x4_1) (zc6 w' (ad359.add ((x4_1).toNat * 8)) (rd_T30 t356 x4_1) (zc6 w' (ad359.add ((x6_3).toNat * 8)) (rd_T30 t356 x6_3) (zc2 w' (ad359.add ((x4_1).toNat * 8)) (rd_T30 t356 x4_1)))))) (ds := []) mk13_0 (by kernel_rfl) rfl rfl ⟨hx373_0, hx373_1, hx373_2, hx373_3, hx373_4, hx373_5, hx373_6, hx373_7, hx374_0, hx374_1, hx374_2, hx374_3, hx374_4, hx374_5, hx374_6, hx374_7, hx376_0, hx376_1, hx376_2, hx376_3, hx376_4, hx376_5, hx376_6, hx376_7, hx378_0, hx378_1, hx378_2, hx378_3, hx378_4, hx378_5, hx378_6, hx378_7, hx380_0, hx380_1, hx380_2, hx380_3, hx380_4, hx380_5, hx380_6, hx380_7⟩ (fun hHeld => ?_); refine with_tabW laws_FnLines.tab14 laws_FnLines.bits14 (fun HT_ HW_ => ?_)
  generalize w48.drew = w49 at HO_3 HB hx373_0 hx373_1 hx373_2 hx373_3 hx373_4 hx373_5 hx373_6 hx373_7 hx374_0 hx374_1 hx374_2 hx374_3 hx374_4 hx374_5 hx374_6 hx374_7 hx376_0 hx376_1 hx376_2 hx376_3 hx376_4 hx376_5 hx376_6 hx376_7 hx378_0 hx378_1 hx378_2 hx378_3 hx378_4 hx378_5 hx378_6 hx378_7 hx380_0 hx380_1 hx380_2 hx380_3 hx380_4 hx380_5 hx380_6 hx380_7 hHeld ⊢
  refine pz 0 89 mk13_3 (any_of HT_.out (by kernel_rfl)) ?_
  refine pz 1 90 mk13_6 (any_of HT_.out (by kernel_rfl)) ?_
  refine pz 2 91 mk13_9 (any_of HT_.out (by kernel_rfl)) ?_
  refine pz 3 92 mk13_12 (any_of HT_.out (by kernel_rfl)) ?_
  refine pz 4 93 mk13_15 (any_of HT_.out (by kernel_rfl)) ?_
  refine pz 5 94 mk13_22 (any_of HT_.out (by kernel_rfl)) ?_
  refine pz 7 96 mk13_24 (any_of HT_.out (by kernel_rfl)) ?_
  refine pz 8 97 mk13_25 (any_of HT_.out (by kernel_rfl)) ?_
  refine pz 9 98 mk13_26 (any_of HT_.out (by kernel_rfl)) ?_
  refine pz 10 99 mk13_27 (any_of HT_.out (by kernel_rfl)) ?_
  refine take_ (i := 6) (N := some 95) (v := ?_) (a' := ?_) mk13_33 rfl rfl (take_ofW HT_.out HW_.out (by kernel_rfl)) (fun _ _ _ h => h) (Or.inl ⟨by rfl, ?_⟩) hHeld ?_ ?_
  rotate_left
  ·rintro w' ⟨s0, s1, s2, s3, s4, s5, s6, s7, s8, s9, s10, s11, s12, s13, s14, s15, s16, s17, s18, s19, s20, s21, s22, s23, s24, s25, s26, s27, s28, s29, s30, s31, s32, s33, s34, s35, s36, s37, s38, s39⟩
   exact gs
  rotate_left
  ·exact ap
  refine take_ (i := 11) (N := some 100) (v := ?_) (a' := ?_) mk13_36 rfl rfl (take_ofW HT_.out HW_.out (by kernel_rfl)) (fun _ _ _ h => h) (Or.inl ⟨by rfl, ?_⟩) hHeld ?_ ?_
  rotate_left
  ·rintro w' ⟨s0, s1, s2, s3, s4, s5, s6, s7, s8, s9, s10, s11, s12, s13, s14, s15, s16, s17, s18, s19, s20, s21, s22, s23, s24, s25, s26, s27, s28, s29, s30, s31, s32, s33, s34, s35, s36, s37, s38, s39⟩
   exact gs
  rotate_left
  ·exact ap
  refine one_ (i := 12) (N := some 101) mk13_39 rfl rfl (one_of HT_.out (by kernel_rfl)) u13_5 (fun K hK => ?_)
  refine goes_ Try.func27 (by kernel_rfl) rfl #[.slice (some ad359) t356.length co11, .string ((rd_T30 t356 x6_3).f0), .string ((rd_T30 t356 x4_1).f0)] (by rfl) rfl rfl u13_2 ?_
  with_reducible refine (impl_SameLine.calls k3 _ _ t356 ((rd_T30 t356 x6_3).f0) ((rd_T30 t356 x4_1).f0) t375 _ ?side1 ?side2 A35.out).mono ?_
  (case side1 => exact y13_0)
  (case side2 => exact (Kd.R_reads' HO_3.out).2.1)
  rintro e w50 ⟨rfl, hb⟩
  refine ⟨_, rfl, ?_⟩
  have n0_ := am (Kd.R_below u13_1 hb)
  have n1_ := am (below_step u13_0 hb)
  clear HO_3 HB
  have HO_3 := n0_
  have HB := n1_
  clear n0_ n1_
  (try clear hb2)
  (try clear hk)
  (try clear hi)
  refine hK.out _ _ hz13_1 (fun hHeld => ?_)
  clear hb
  clear hK K
  refine norm_ (a' := ?_) ?_ ?_
  rotate_left
  ·show Act.put _ (some 101) _ = _
   simp only [Act.put, List.setIfInBounds_toArray, List.set_cons_zero, List.set_cons_succ, i64_w, i32_w]
   rfl
  refine pz 13 102 mk13_41 (any_of HT_.out (by kernel_rfl)) ?_
  refine pz 14 103 mk13_43 (any_of HT_.out (by kernel_rfl)) ?_
  refine pz 15 104 mk13_45 (any_of HT_.out (by kernel_rfl)) ?_
  refine pz 16 105 mk13_47 (any_of HT_.out (by kernel_rfl)) ?_
  refine pz 17 106 mk13_49 (any_of HT_.out (by kernel_rfl)) ?_
  refine pz 18 107 mk13_51 (any_of HT_.out (by kernel_rfl)) ?_
  refine pz 19 108 mk13_53 (any_of HT_.out (by kernel_rfl)) ?_
  refine pz 20 109 mk13_55 (any_of HT_.out (by kernel_rfl)) ?_
  refine pz 21 110 mk13_57 (any_of HT_.out (by kernel_rfl)) ?_
  refine pz 24 113 mk13_59 (any_of HT_.out (by kernel_rfl)) ?_
  refine pz 25 114 mk13_60 (any_of HT_.out (by kernel_rfl)) ?_
  refine pz 26 115 mk13_61 (any_of HT_.out (by kernel_rfl)) ?_
  refine pz 27 116 mk13_62 (any_of HT_.out (by kernel_rfl)) ?_
  refine pz 28 117 mk13_63 (any_of HT_.out (by kernel_rfl)) ?_
  refine take_ (i := 22) (N := some 111) (v := ?_) (a' := ?_) mk13_66 rfl rfl (take_ofW HT_.out HW_.out (by kernel_rfl)) (fun _ _ _ h => h) (Or.inl ⟨by rfl, ?_⟩) hHeld ?_ ?_
  rotate_left
  ·rintro w' ⟨s0, s1, s2, s3, s4, s5, s6, s7, s8, s9, s10, s11, s12, s13, s14, s15, s16, s17, s18, s19, s20, s21, s22, s23, s24, s25, s26, s27, s28, s29, s30, s31, s32, s33, s34, s35, s36, s37, s38, s39⟩
   exact gs
  rotate_left
  ·exact ap
  refine take_ (i := 29) (N := some 118) (v := ?_) (a' := ?_) mk13_67 rfl rfl (take_ofW HT_.out HW_.out (by kernel_rfl)) (fun _ _ _ h => h) (Or.inl ⟨by rfl, ?_⟩) hHeld ?_ ?_
  rotate_left
  ·rintro w' ⟨s0, s1, s2, s3, s4, s5, s6, s7, s8, s9, s10, s11, s12, s13, s14, s15, s16, s17, s18, s19, s20, s21, s22, s23, s24, s25, s26, s27, s28, s29, s30, s31, s32, s33, s34, s35, s36, s37, s38, s39⟩
   exact gs
  rotate_left
  ·exact ap
  refine one_ (i := 23) (N := some 112) mk13_80 rfl rfl (one_of HT_.out (by kernel_rfl)) u13_5 (fun K hK => ?_)
  refine goes_ Try.func30 (by kernel_rfl) rfl #[.slice (some ad359) t356.length co11, .string ((rd_T30 t356 x4_1).f0)] (by rfl) rfl rfl u13_2 ?_
  with_reducible refine (impl_PumpOf.calls k3 _ _ t356 ((rd_T30 t356 x4_1).f0) t377 _ ?side1 ?side2 A42.out).mono ?_
  (case side1 => exact y13_0)
  (case side2 => exact (Kd.R_reads' HO_3.out).2.1)
  rintro e w51 ⟨rfl, hb⟩
  refine ⟨_, rfl, ?_⟩
  have n0_ := am (Kd.R_below u13_1 hb)
  have n1_ := am (below_step u13_0 hb)
  clear HO_3 HB
  have HO_3 := n0_
  have HB := n1_
  clear n0_ n1_
  (try clear hb2)
  (try clear hk)
  (try clear hi)
  refine hK.out _ _ hz13_1 (fun hHeld => ?_)
  clear hb
  clear hK K
  refine norm_ (a' := ?_) ?_ ?_
  rotate_left
  ·show Act.put _ (some 112) _ = _
   simp only [Act.put, List.setIfInBounds_toArray, List.set_cons_zero, List.set_cons_succ, i64_w, i32_w]
   rfl
  refine one_ (i := 30) (N := some 119) mk13_82 rfl rfl (one_of HT_.out (by kernel_rfl)) u13_5 (fun K hK => ?_)
  refine goes_ Try.func30 (by kernel_rfl) rfl #[.slice (some ad359) t356.length co11, .string ((rd_T30 t356 x6_3).f0)] (by rfl) rfl rfl u13_2 ?_
  with_reducible refine (impl_PumpOf.calls k3 _ _ t356 ((rd_T30 t356 x6_3).f0) t379 _ ?side1 ?side2 A43.out).mono ?_
  (case side1 => exact y13_0)
  (case side2 => exact (Kd.R_reads' HO_3.out).2.1)
  rintro e w52 ⟨rfl, hb⟩
  refine ⟨_, rfl, ?_⟩
  have n0_ := am (Kd.R_below u13_1 hb)
  have n1_ := am (below_step u13_0 hb)
  clear HO_3 HB
  have HO_3 := n0_
  have HB := n1_
  clear n0_ n1_
  (try clear hb2)
  (try clear hk)
  (try clear hi)
  refine hK.out _ _ hz13_1 (fun hHeld => ?_)
  clear hb
  clear hK K
  refine norm_ (a' := ?_) ?_ ?_
  rotate_left
  ·show Act.put _ (some 119) _ = _
   simp only [Act.put, List.setIfInBounds_toArray, List.set_cons_zero, List.set_cons_succ, i64_w, i32_w]
   rfl
  refine pz 31 120 mk13_84 (any_of HT_.out (by kernel_rfl)) ?_
  refine pz 32 121 mk13_86 (any_of HT_.out (by kernel_rfl)) ?_
  refine pz 33 122 mk13_88 (any_of HT_.out (by kernel_rfl)) ?_
  refine pz 34 123 mk13_90 (any_of HT_.out (by kernel_rfl)) ?_
  refine pz 35 124 mk13_96 (any_of HT_.out (by kernel_rfl)) ?_
  refine pz 36 125 mk13_98 (any_of HT_.out (by kernel_rfl)) ?_
  refine pz 37 126 mk13_100 (any_of HT_.out (by kernel_rfl)) ?_
  refine pz 38 127 mk13_102 (any_of HT_.out (by kernel_rfl)) ?_
  refine pz 39 128 mk13_104 (any_of HT_.out (by kernel_rfl)) ?_
  refine take_ (i := 40) (N := some 129) (v := ?_) (a' := ?_) mk13_106 rfl rfl (take_ofW HT_.out HW_.out (by kernel_rfl)) (fun _ _ _ h => h) (Or.inl ⟨by rfl, ?_⟩) hHeld ?_ ?_
  rotate_left
  ·rintro w' ⟨s0, s1, s2, s3, s4, s5, s6, s7, s8, s9, s10, s11, s12, s13, s14, s15, s16, s17, s18, s19, s20, s21, s22, s23, s24, s25, s26, s27, s28, s29, s30, s31, s32, s33, s34, s35, s36, s37, s38, s39⟩
   exact gs
  rotate_left
  ·exact ap
  refine pz 41 130 mk13_108 (any_of HT_.out (by kernel_rfl)) ?_
  refine pz 42 131 mk13_110 (any_of HT_.out (by kernel_rfl)) ?_
  refine pure_ (i := 43) (N := some 132) (v := undef) (a' := ?_) mk13_112 rfl rfl (any_of HT_.out (by kernel_rfl)) (fun _ _ _ h => h) (Or.inr ⟨by rfl, rfl⟩) ?_ ?_
  rotate_left
  ·exact ap
  refine pure_ (i := 44) (N := some 133) (v := undef) (a' := ?_) mk13_113 rfl rfl (any_of HT_.out (by kernel_rfl)) (fun _ _ _ h => h) (Or.inr ⟨by rfl, rfl⟩) ?_ ?_
  rotate_left
  ·exact ap
  refine pure_ (i := 45) (N := some 134) (v := undef) (a' := ?_) mk13_114 rfl rfl (any_of HT_.out (by kernel_rfl)) (fun _ _ _ h => h) (Or.inr ⟨by rfl, rfl⟩) ?_ ?_
  rotate_left
  ·exact ap
  refine pure_ (i := 46) (N := some 135) (v := undef) (a' := ?_) mk13_115 rfl rfl (any_of HT_.out (by kernel_rfl)) (fun _ _ _ h => h) (Or.inr ⟨by rfl, rfl⟩) ?_ ?_
  rotate_left
  ·exact ap
  refine pure_ (i := 47) (N := some 136) (v := undef) (a' := ?_) mk13_116 rfl rfl (any_of HT_.out (by kernel_rfl)) (fun _ _ _ h => h) (Or.inr ⟨by rfl, rfl⟩) ?_ ?_
  rotate_left
  ·exact ap
  refine pure_ (i := 48) (N := some 137) (v := undef) (a' := ?_) mk13_121 rfl rfl (any_of HT_.out (by kernel_rfl)) (fun _ _ _ h => h) (Or.inr ⟨by rfl, rfl⟩) ?_ ?_
  rotate_left
  ·exact ap
  refine pure_ (i := 49) (N := some 138) (v := undef) (a' := ?_) mk13_124 rfl rfl (any_of HT_.out (by kernel_rfl)) (fun _ _ _ h => h) (Or.inr ⟨by rfl, rfl⟩) ?_ ?_
  rotate_left
  ·exact ap
  refine pure_ (i := 50) (N := some 139) (v := undef) (a' := ?_) mk13_125 rfl rfl (any_of HT_.out (by kernel_rfl)) (fun _ _ _ h => h) (Or.inr ⟨by rfl, rfl⟩) ?_ ?_
  rotate_left
  ·exact ap
  refine pure_ (i := 51) (N := some 140) (v := undef) (a' := ?_) mk13_126 rfl rfl (any_of HT_.out (by kernel_rfl)) (fun _ _ _ h => h) (Or.inr ⟨by rfl, rfl⟩) ?_ ?_
  rotate_left
  ·exact ap
  refine pure_ (i := 52) (N := some 141) (v := undef) (a' := ?_) mk13_127 rfl rfl (any_of HT_.out (by kernel_rfl)) (fun _ _ _ h => h) (Or.inr ⟨by rfl, rfl⟩) ?_ ?_
  rotate_left
  ·exact ap
  refine pure_ (i := 53) (N := some 142) (v := undef) (a' := ?_) mk13_128 rfl rfl (any_of HT_.out (by kernel_rfl)) (fun _ _ _ h => h) (Or.inr ⟨by rfl, rfl⟩) ?_ ?_
  rotate_left
  ·exact ap
  refine pure_ (i := 54) (N := some 143) (v := undef) (a' := ?_) mk13_129 rfl rfl (any_of HT_.out (by kernel_rfl)) (fun _ _ _ h => h) (Or.inr ⟨by rfl, rfl⟩) ?_ ?_
  rotate_left
  ·exact ap
  refine pure_ (i := 55) (N := some 144) (v := undef) (a' := ?_) mk13_130 rfl rfl (any_of HT_.out (by kernel_rfl)) (fun _ _ _ h => h) (Or.inr ⟨by rfl, rfl⟩) ?_ ?_
  rotate_left
  ·exact ap
  refine pz 56 145 mk13_131 (any_of HT_.out (by kernel_rfl)) ?_
  refine pz 57 146 mk13_132 (any_of HT_.out (by kernel_rfl)) ?_
  refine pz 58 147 mk13_133 (any_of HT_.out (by kernel_rfl)) ?_
  refine done_ (done_of HT_.out (by kernel_rfl)) ?_
  try go_wp2
  go_ret
  exact ⟨by first | rfl | (simp [*] <;> rfl), s13_2⟩) : p := h
set_option maxRecDepth 100000 in
theorem lf13_2 {p : Prop} (h : p := by
  refine start_ (n := 13) (S := fun w' => zc6 w' (ad359.add ((x4_1).toNat * 8)) (rd_T30 t356 x4_1) (zc2 w' (ad359.add ((x6_3).toNat * 8)) (rd_T30 t356 x6_3))) (ds := []) mk13_2 (by kernel_rfl) rfl rfl ⟨hx370_0, hx370_1, hx370_2, hx370_3, hx370_4, hx370_5, hx370_6, hx370_7, hx371_0, hx371_1, hx371_2, hx371_3, hx371_4, hx371_5, hx371_6, hx371_7⟩ (fun hHeld => ?_); refine with_tabW laws_FnLines.tab13 laws_FnLines.bits13 (fun HT_ HW_ => ?_)
  generalize wr.drew = w53 at HO_3 HB hx370_0 hx370_1 hx370_2 hx370_3 hx370_4 hx370_5 hx370_6 hx370_7 hx371_0 hx371_1 hx371_2 hx371_3 hx371_4 hx371_5 hx371_6 hx371_7 hHeld ⊢
  refine pz 0 77 mk13_5 (any_of HT_.out (by kernel_rfl)) ?_
  refine pz 1 78 mk13_8 (any_of HT_.out (by kernel_rfl)) ?_
  refine pz 2 79 mk13_11 (any_of HT_.out (by kernel_rfl)) ?_
  refine pz 3 80 mk13_14 (any_of HT_.out (by kernel_rfl)) ?_
  refine pz 4 81 mk13_17 (any_of HT_.out (by kernel_rfl)) ?_
  refine pz 6 83 mk13_18 (any_of HT_.out (by kernel_rfl)) ?_
  refine pz 7 84 mk13_19 (any_of HT_.out (by kernel_rfl)) ?_
  refine pz 8 85 mk13_20 (any_of HT_.out (by kernel_rfl)) ?_
  refine pz 9 86 mk13_21 (any_of HT_.out (by kernel_rfl)) ?_
  refine take_ (i := 5) (N := some 82) (v := ?_) (a' := ?_) mk13_32 rfl rfl (take_ofW HT_.out HW_.out (by kernel_rfl)) (fun _ _ _ h => h) (Or.inl ⟨by rfl, ?_⟩) hHeld ?_ ?_
  rotate_left
  ·rintro w' ⟨s0, s1, s2, s3, s4, s5, s6, s7, s8, s9, s10, s11, s12, s13, s14, s15⟩
   exact gs
  rotate_left
  ·exact ap
  refine take_ (i := 10) (N := some 87) (v := ?_) (a' := ?_) mk13_35 rfl rfl (take_ofW HT_.out HW_.out (by kernel_rfl)) (fun _ _ _ h => h) (Or.inl ⟨by rfl, ?_⟩) hHeld ?_ ?_
  rotate_left
  ·rintro w' ⟨s0, s1, s2, s3, s4, s5, s6, s7, s8, s9, s10, s11, s12, s13, s14, s15⟩
   exact gs
  rotate_left
  ·exact ap
  refine one_ (i := 11) (N := some 88) mk13_38 rfl rfl (one_of HT_.out (by kernel_rfl)) u13_5 (fun K hK => ?_)
  refine goes_ Try.func27 (by kernel_rfl) rfl #[.slice (some ad359) t356.length co11, .string ((rd_T30 t356 x4_1).f0), .string ((rd_T30 t356 x6_3).f0)] (by rfl) rfl rfl u13_2 ?_
  with_reducible refine (impl_SameLine.calls k3 _ _ t356 ((rd_T30 t356 x4_1).f0) ((rd_T30 t356 x6_3).f0) true _ ?side1 ?side2 A34.out).mono ?_
  (case side1 => exact y13_0)
  (case side2 => exact (Kd.R_reads' HO_3.out).2.1)
  rintro e w54 ⟨rfl, hb⟩
  refine ⟨_, rfl, ?_⟩
  have n0_ := am (Kd.R_below u13_1 hb)
  have n1_ := am (below_step u13_0 hb)
  clear HO_3 HB
  have HO_3 := n0_
  have HB := n1_
  clear n0_ n1_
  (try clear hb2)
  (try clear hk)
  (try clear hi)
  refine hK.out _ _ hz13_0 (fun hHeld => ?_)
  clear hb
  clear hK K
  refine norm_ (a' := ?_) ?_ ?_
  rotate_left
  ·show Act.put _ (some 88) _ = _
   simp only [Act.put, List.setIfInBounds_toArray, List.set_cons_zero, List.set_cons_succ, i64_w, i32_w]
   rfl
  refine pz 12 7 mk13_135 (any_of HT_.out (by kernel_rfl)) ?_
  refine done_ (done_of HT_.out (by kernel_rfl)) ?_
  try go_wp2
  have n0_ := am (Kd.R_drew HO_3.out)
  have n1_ := am (below_drew1 HB.out)
  clear HO_3 HB
  have HO_3 := n0_
  have HB := n1_
  clear n0_ n1_
  have p373 : 0 ≤ (x6_3 : Int) := od u13_3
  have q373 : x6_3 < (t356.length : Int) := od u13_3
  obtain ⟨ad373, e373, hx373_0, hx373_1, hx373_2, hx373_3, hx373_4, hx373_5, hx373_6, hx373_7⟩ := at_T30 (Kd.R_reads' HO_3.out).2.2 x6_3 p373 q373
  obtain rfl : ad359 = ad373 := (by injection e373)
  replace p373 := eq_true p373
  replace q373 := eq_true q373
  have p374 : 0 ≤ (x4_1 : Int) := od u13_3
  have q374 : x4_1 < (t356.length : Int) := od u13_3
  obtain ⟨ad374, e374, hx374_0, hx374_1, hx374_2, hx374_3, hx374_4, hx374_5, hx374_6, hx374_7⟩ := at_T30 (Kd.R_reads' HO_3.out).2.2 x4_1 p374 q374
  obtain rfl : ad359 = ad374 := (by injection e374)
  replace p374 := eq_true p374
  replace q374 := eq_true q374
  have p376 : 0 ≤ (x4_1 : Int) := od u13_3
  have q376 : x4_1 < (t356.length : Int) := od u13_3
  obtain ⟨ad376, e376, hx376_0, hx376_1, hx376_2, hx376_3, hx376_4, hx376_5, hx376_6, hx376_7⟩ := at_T30 (Kd.R_reads' HO_3.out).2.2 x4_1 p376 q376
  obtain rfl : ad359 = ad376 := (by injection e376)
  replace p376 := eq_true p376
  replace q376 := eq_true q376
  have p378 : 0 ≤ (x6_3 : Int) := od u13_3
  have q378 : x6_3 < (t356.length : Int) := od u13_3
  obtain ⟨ad378, e378, hx378_0, hx378_1, hx378_2, hx378_3, hx378_4, hx378_5, hx378_6, hx378_7⟩ := at_T30 (Kd.R_reads' HO_3.out).2.2 x6_3 p378 q378
  obtain rfl : ad359 = ad378 := (by injection e378)
  replace p378 := eq_true p378
  replace q378 := eq_true q378
  have p380 : 0 ≤ (x4_1 : Int) := od u13_3
  have q380 : x4_1 < (t356.length : Int) := od u13_3
  obtain ⟨ad380, e380, hx380_0, hx380_1, hx380_2, hx380_3, hx380_4, hx380_5, hx380_6, hx380_7⟩ := at_T30 (Kd.R_reads' HO_3.out).2.2 x4_1 p380 q380
  obtain rfl : ad359 = ad380 := (by injection e380)
  replace p380 := eq_true p380
  replace q380 := eq_true q380
  refine start_ (n := 59) (S := fun w' => zc6 w' (ad359.add ((x6_3).toNat * 8)) (rd_T30 t356 x6_3) (zc6 w' (ad359.add ((x4_1).toNat * 8)) (rd_T30 t356 x4_1) (zc6 w' (ad359.add ((x4_1).toNat * 8)) (rd_T30 t356 x4_1) (zc6 w' (ad359.add ((x6_3).toNat * 8)) (rd_T30 t356 x6_3) (zc2 w' (ad359.add ((x4_1).toNat * 8)) (rd_T30 t356 x4_1)))))) (ds := []) mk13_0 (by kernel_rfl) rfl rfl ⟨hx373_0, hx373_1, hx373_2, hx373_3, hx373_4, hx373_5, hx373_6, hx373_7, hx374_0, hx374_1, hx374_2, hx374_3, hx374_4, hx374_5, hx374_6, hx374_7, hx376_0, hx376_1, hx376_2, hx376_3, hx376_4, hx376_5, hx376_6, hx376_7, hx378_0, hx378_1, hx378_2, hx378_3, hx378_4, hx378_5, hx378_6, hx378_7, hx380_0, hx380_1, hx380_2, hx380_3, hx380_4, hx380_5, hx380_6, hx380_7⟩ (fun hHeld => ?_); refine with_tabW laws_FnLines.tab14 laws_FnLines.bits14 (fun HT_ HW_ => ?_)
  generalize w54.drew = w55 at HO_3 HB hx373_0 hx373_1 hx373_2 hx373_3 hx373_4 hx373_5 hx373_6 hx373_7 hx374_0 hx374_1 hx374_2 hx374_3 hx374_4 hx374_5 hx374_6 hx374_7 hx376_0 hx376_1 hx376_2 hx376_3 hx376_4 hx376_5 hx376_6 hx376_7 hx378_0 hx378_1 hx378_2 hx378_3 hx378_4 hx378_5 hx378_6 hx378_7 hx380_0 hx380_1 hx380_2 hx380_3 hx380_4 hx380_5 hx380_6 hx380_7 hHeld ⊢
  refine pz 0 89 mk13_3 (any_of HT_.out (by kernel_rfl)) ?_
  refine pz 1 90 mk13_6 (any_of HT_.out (by kernel_rfl)) ?_
  refine pz 2 91 mk13_9 (any_of HT_.out (by kernel_rfl)) ?_
  refine pz 3 92 mk13_12 (any_of HT_.out (by kernel_rfl)) ?_
  refine pz 4 93 mk13_15 (any_of HT_.out (by kernel_rfl)) ?_
  refine pz 5 94 mk13_22 (any_of HT_.out (by kernel_rfl)) ?_
  refine pz 7 96 mk13_24 (any_of HT_.out (by kernel_rfl)) ?_
  refine pz 8 97 mk13_25 (any_of HT_.out (by kernel_rfl)) ?_
  refine pz 9 98 mk13_26 (any_of HT_.out (by kernel_rfl)) ?_
  refine pz 10 99 mk13_27 (any_of HT_.out (by kernel_rfl)) ?_
  refine take_ (i := 6) (N := some 95) (v := ?_) (a' := ?_) mk13_33 rfl rfl (take_ofW HT_.out HW_.out (by kernel_rfl)) (fun _ _ _ h => h) (Or.inl ⟨by rfl, ?_⟩) hHeld ?_ ?_
  rotate_left
  ·rintro w' ⟨s0, s1, s2, s3, s4, s5, s6, s7, s8, s9, s10, s11, s12, s13, s14, s15, s16, s17, s18, s19, s20, s21, s22, s23, s24, s25, s26, s27, s28, s29, s30, s31, s32, s33, s34, s35, s36, s37, s38, s39⟩
   exact gs
  rotate_left
  ·exact ap
  refine take_ (i := 11) (N := some 100) (v := ?_) (a' := ?_) mk13_36 rfl rfl (take_ofW HT_.out HW_.out (by kernel_rfl)) (fun _ _ _ h => h) (Or.inl ⟨by rfl, ?_⟩) hHeld ?_ ?_
  rotate_left
  ·rintro w' ⟨s0, s1, s2, s3, s4, s5, s6, s7, s8, s9, s10, s11, s12, s13, s14, s15, s16, s17, s18, s19, s20, s21, s22, s23, s24, s25, s26, s27, s28, s29, s30, s31, s32, s33, s34, s35, s36, s37, s38, s39⟩
   exact gs
  rotate_left
  ·exact ap
  refine one_ (i := 12) (N := some 101) mk13_39 rfl rfl (one_of HT_.out (by kernel_rfl)) u13_5 (fun K hK => ?_)
  refine goes_ Try.func27 (by kernel_rfl) rfl #[.slice (some ad359) t356.length co11, .string ((rd_T30 t356 x6_3).f0), .string ((rd_T30 t356 x4_1).f0)] (by rfl) rfl rfl u13_2 ?_
  with_reducible refine (impl_SameLine.calls k3 _ _ t356 ((rd_T30 t356 x6_3).f0) ((rd_T30 t356 x4_1).f0) t375 _ ?side1 ?side2 A35.out).mono ?_
  (case side1 => exact y13_0)
  (case side2 => exact (Kd.R_reads' HO_3.out).2.1)
  rintro e w56 ⟨rfl, hb⟩
  refine ⟨_, rfl, ?_⟩
  have n0_ := am (Kd.R_below u13_1 hb)
  have n1_ := am (below_step u13_0 hb)
  clear HO_3 HB
  have HO_3 := n0_
  have HB := n1_
  clear n0_ n1_
  (try clear hb2)
  (try clear hk)
  (try clear hi)
  refine hK.out _ _ hz13_1 (fun hHeld => ?_)
  clear hb
  clear hK K
  refine norm_ (a' := ?_) ?_ ?_
  rotate_left
  ·show Act.put _ (some 101) _ = _
   simp only [Act.put, List.setIfInBounds_toArray, List.set_cons_zero, List.set_cons_succ, i64_w, i32_w]
   rfl
  refine pz 13 102 mk13_41 (any_of HT_.out (by kernel_rfl)) ?_
  refine pz 14 103 mk13_43 (any_of HT_.out (by kernel_rfl)) ?_
  refine pz 15 104 mk13_45 (any_of HT_.out (by kernel_rfl)) ?_
  refine pz 16 105 mk13_47 (any_of HT_.out (by kernel_rfl)) ?_
  refine pz 17 106 mk13_49 (any_of HT_.out (by kernel_rfl)) ?_
  refine pz 18 107 mk13_51 (any_of HT_.out (by kernel_rfl)) ?_
  refine pz 19 108 mk13_53 (any_of HT_.out (by kernel_rfl)) ?_
  refine pz 20 109 mk13_55 (any_of HT_.out (by kernel_rfl)) ?_
  refine pz 21 110 mk13_57 (any_of HT_.out (by kernel_rfl)) ?_
  refine pz 24 113 mk13_59 (any_of HT_.out (by kernel_rfl)) ?_
  refine pz 25 114 mk13_60 (any_of HT_.out (by kernel_rfl)) ?_
  refine pz 26 115 mk13_61 (any_of HT_.out (by kernel_rfl)) ?_
  refine pz 27 116 mk13_62 (any_of HT_.out (by kernel_rfl)) ?_
  refine pz 28 117 mk13_63 (any_of HT_.out (by kernel_rfl)) ?_
  refine take_ (i := 22) (N := some 111) (v := ?_) (a' := ?_) mk13_66 rfl rfl (take_ofW HT_.out HW_.out (by kernel_rfl)) (fun _ _ _ h => h) (Or.inl ⟨by rfl, ?_⟩) hHeld ?_ ?_
  rotate_left
  ·rintro w' ⟨s0, s1, s2, s3, s4, s5, s6, s7, s8, s9, s10, s11, s12, s13, s14, s15, s16, s17, s18, s19, s20, s21, s22, s23, s24, s25, s26, s27, s28, s29, s30, s31, s32, s33, s34, s35, s36, s37, s38, s39⟩
   exact gs
  rotate_left
  ·exact ap
  refine take_ (i := 29) (N := some 118) (v := ?_) (a' := ?_) mk13_67 rfl rfl (take_ofW HT_.out HW_.out (by kernel_rfl)) (fun _ _ _ h => h) (Or.inl ⟨by rfl, ?_⟩) hHeld ?_ ?_
  rotate_left
  ·rintro w' ⟨s0, s1, s2, s3, s4, s5, s6, s7, s8, s9, s10, s11, s12, s13, s14, s15, s16, s17, s18, s19, s20, s21, s22, s23, s24, s25, s26, s27, s28, s29, s30, s31, s32, s33, s34, s35, s36, s37, s38, s39⟩
   exact gs
  rotate_left
  ·exact ap
  refine one_ (i := 23) (N := some 112) mk13_80 rfl rfl (one_of HT_.out (by kernel_rfl)) u13_5 (fun K hK => ?_)
  refine goes_ Try.func30 (by kernel_rfl) rfl #[.slice (some ad359) t356.length co11, .string ((rd_T30 t356 x4_1).f0)] (by rfl) rfl rfl u13_2 ?_
  with_reducible refine (impl_PumpOf.calls k3 _ _ t356 ((rd_T30 t356 x4_1).f0) t377 _ ?side1 ?side2 A42.out).mono ?_
  (case side1 => exact y13_0)
  (case side2 => exact (Kd.R_reads' HO_3.out).2.1)
  rintro e w57 ⟨rfl, hb⟩
  refine ⟨_, rfl, ?_⟩
  have n0_ := am (Kd.R_below u13_1 hb)
  have n1_ := am (below_step u13_0 hb)
  clear HO_3 HB
  have HO_3 := n0_
  have HB := n1_
  clear n0_ n1_
  (try clear hb2)
  (try clear hk)
  (try clear hi)
  refine hK.out _ _ hz13_1 (fun hHeld => ?_)
  clear hb
  clear hK K
  refine norm_ (a' := ?_) ?_ ?_
  rotate_left
  ·show Act.put _ (some 112) _ = _
   simp only [Act.put, List.setIfInBounds_toArray, List.set_cons_zero, List.set_cons_succ, i64_w, i32_w]
   rfl
  refine one_ (i := 30) (N := some 119) mk13_82 rfl rfl (one_of HT_.out (by kernel_rfl)) u13_5 (fun K hK => ?_)
  refine goes_ Try.func30 (by kernel_rfl) rfl #[.slice (some ad359) t356.length co11, .string ((rd_T30 t356 x6_3).f0)] (by rfl) rfl rfl u13_2 ?_
  with_reducible refine (impl_PumpOf.calls k3 _ _ t356 ((rd_T30 t356 x6_3).f0) t379 _ ?side1 ?side2 A43.out).mono ?_
  (case side1 => exact y13_0)
  (case side2 => exact (Kd.R_reads' HO_3.out).2.1)
  rintro e w58 ⟨rfl, hb⟩
  refine ⟨_, rfl, ?_⟩
  have n0_ := am (Kd.R_below u13_1 hb)
  have n1_ := am (below_step u13_0 hb)
  clear HO_3 HB
  have HO_3 := n0_
  have HB := n1_
  clear n0_ n1_
  (try clear hb2)
  (try clear hk)
  (try clear hi)
  refine hK.out _ _ hz13_1 (fun hHeld => ?_)
  clear hb
  clear hK K
  refine norm_ (a' := ?_) ?_ ?_
  rotate_left
  ·show Act.put _ (some 119) _ = _
   simp only [Act.put, List.setIfInBounds_toArray, List.set_cons_zero, List.set_cons_succ, i64_w, i32_w]
   rfl
  refine pz 31 120 mk13_84 (any_of HT_.out (by kernel_rfl)) ?_
  refine pz 32 121 mk13_86 (any_of HT_.out (by kernel_rfl)) ?_
  refine pz 33 122 mk13_88 (any_of HT_.out (by kernel_rfl)) ?_
  refine pz 34 123 mk13_90 (any_of HT_.out (by kernel_rfl)) ?_
  refine pz 35 124 mk13_96 (any_of HT_.out (by kernel_rfl)) ?_
  refine pz 36 125 mk13_98 (any_of HT_.out (by kernel_rfl)) ?_
  refine pz 37 126 mk13_100 (any_of HT_.out (by kernel_rfl)) ?_
  refine pz 38 127 mk13_102 (any_of HT_.out (by kernel_rfl)) ?_
  refine pz 39 128 mk13_104 (any_of HT_.out (by kernel_rfl)) ?_
  refine take_ (i := 40) (N := some 129) (v := ?_) (a' := ?_) mk13_106 rfl rfl (take_ofW HT_.out HW_.out (by kernel_rfl)) (fun _ _ _ h => h) (Or.inl ⟨by rfl, ?_⟩) hHeld ?_ ?_
  rotate_left
  ·rintro w' ⟨s0, s1, s2, s3, s4, s5, s6, s7, s8, s9, s10, s11, s12, s13, s14, s15, s16, s17, s18, s19, s20, s21, s22, s23, s24, s25, s26, s27, s28, s29, s30, s31, s32, s33, s34, s35, s36, s37, s38, s39⟩
   exact gs
  rotate_left
  ·exact ap
  refine pz 41 130 mk13_108 (any_of HT_.out (by kernel_rfl)) ?_
  refine pz 42 131 mk13_110 (any_of HT_.out (by kernel_rfl)) ?_
  refine pure_ (i := 43) (N := some 132) (v := undef) (a' := ?_) mk13_112 rfl rfl (any_of HT_.out (by kernel_rfl)) (fun _ _ _ h => h) (Or.inr ⟨by rfl, rfl⟩) ?_ ?_
  rotate_left
  ·exact ap
  refine pure_ (i := 44) (N := some 133) (v := undef) (a' := ?_) mk13_113 rfl rfl (any_of HT_.out (by kernel_rfl)) (fun _ _ _ h => h) (Or.inr ⟨by rfl, rfl⟩) ?_ ?_
  rotate_left
  ·exact ap
  refine pure_ (i := 45) (N := some 134) (v := undef) (a' := ?_) mk13_114 rfl rfl (any_of HT_.out (by kernel_rfl)) (fun _ _ _ h => h) (Or.inr ⟨by rfl, rfl⟩) ?_ ?_
  rotate_left
  ·exact ap
  refine pure_ (i := 46) (N := some 135) (v := undef) (a' := ?_) mk13_115 rfl rfl (any_of HT_.out (by kernel_rfl)) (fun _ _ _ h => h) (Or.inr ⟨by rfl, rfl⟩) ?_ ?_
  rotate_left
  ·exact ap
  refine pure_ (i := 47) (N := some 136) (v := undef) (a' := ?_) mk13_116 rfl rfl (any_of HT_.out (by kernel_rfl)) (fun _ _ _ h => h) (Or.inr ⟨by rfl, rfl⟩) ?_ ?_
  rotate_left
  ·exact ap
  refine pure_ (i := 48) (N := some 137) (v := undef) (a' := ?_) mk13_121 rfl rfl (any_of HT_.out (by kernel_rfl)) (fun _ _ _ h => h) (Or.inr ⟨by rfl, rfl⟩) ?_ ?_
  rotate_left
  ·exact ap
  refine pure_ (i := 49) (N := some 138) (v := undef) (a' := ?_) mk13_124 rfl rfl (any_of HT_.out (by kernel_rfl)) (fun _ _ _ h => h) (Or.inr ⟨by rfl, rfl⟩) ?_ ?_
  rotate_left
  ·exact ap
  refine pure_ (i := 50) (N := some 139) (v := undef) (a' := ?_) mk13_125 rfl rfl (any_of HT_.out (by kernel_rfl)) (fun _ _ _ h => h) (Or.inr ⟨by rfl, rfl⟩) ?_ ?_
  rotate_left
  ·exact ap
  refine pure_ (i := 51) (N := some 140) (v := undef) (a' := ?_) mk13_126 rfl rfl (any_of HT_.out (by kernel_rfl)) (fun _ _ _ h => h) (Or.inr ⟨by rfl, rfl⟩) ?_ ?_
  rotate_left
  ·exact ap
  refine pure_ (i := 52) (N := some 141) (v := undef) (a' := ?_) mk13_127 rfl rfl (any_of HT_.out (by kernel_rfl)) (fun _ _ _ h => h) (Or.inr ⟨by rfl, rfl⟩) ?_ ?_
  rotate_left
  ·exact ap
  refine pure_ (i := 53) (N := some 142) (v := undef) (a' := ?_) mk13_128 rfl rfl (any_of HT_.out (by kernel_rfl)) (fun _ _ _ h => h) (Or.inr ⟨by rfl, rfl⟩) ?_ ?_
  rotate_left
  ·exact ap
  refine pure_ (i := 54) (N := some 143) (v := undef) (a' := ?_) mk13_129 rfl rfl (any_of HT_.out (by kernel_rfl)) (fun _ _ _ h => h) (Or.inr ⟨by rfl, rfl⟩) ?_ ?_
  rotate_left
  ·exact ap
  refine pure_ (i := 55) (N := some 144) (v := undef) (a' := ?_) mk13_130 rfl rfl (any_of HT_.out (by kernel_rfl)) (fun _ _ _ h => h) (Or.inr ⟨by rfl, rfl⟩) ?_ ?_
  rotate_left
  ·exact ap
  refine pz 56 145 mk13_131 (any_of HT_.out (by kernel_rfl)) ?_
  refine pz 57 146 mk13_132 (any_of HT_.out (by kernel_rfl)) ?_
  refine pz 58 147 mk13_133 (any_of HT_.out (by kernel_rfl)) ?_
  refine done_ (done_of HT_.out (by kernel_rfl)) ?_
  try go_wp2
  go_roundg k3
  case measure => have := HK1.out; have := HJ9.out; have := HK3.out; omega
  case rel => exact ⟨(wrap64 (x6_3 + 1)), u13_4, H', ⟨by have := HK1.out; have := HJ9.out; have := HK3.out; omega⟩, ⟨by (with_reducible repeat (first | apply Kd.R_alloc | apply Kd.R_drewN | apply Kd.R_drew)); exact HO_3.out⟩, ⟨s13_2⟩⟩) : p := h
set_option maxRecDepth 100000 in
theorem lf13_3 {p : Prop} (h : p := by
  refine start_ (n := 13) (S := fun w' => zc6 w' (ad359.add ((x4_1).toNat * 8)) (rd_T30 t356 x4_1) (zc2 w' (ad359.add ((x6_3).toNat * 8)) (rd_T30 t356 x6_3))) (ds := []) mk13_2 (by kernel_rfl) rfl rfl ⟨hx370_0, hx370_1, hx370_2, hx370_3, hx370_4, hx370_5, hx370_6, hx370_7, hx371_0, hx371_1, hx371_2, hx371_3, hx371_4, hx371_5, hx371_6, hx371_7⟩ (fun hHeld => ?_); refine with_tabW laws_FnLines.tab13 laws_FnLines.bits13 (fun HT_ HW_ => ?_)
  generalize wr.drew = w62 at HO_3 HB hx370_0 hx370_1 hx370_2 hx370_3 hx370_4 hx370_5 hx370_6 hx370_7 hx371_0 hx371_1 hx371_2 hx371_3 hx371_4 hx371_5 hx371_6 hx371_7 hHeld ⊢
  refine pz 0 77 mk13_5 (any_of HT_.out (by kernel_rfl)) ?_
  refine pz 1 78 mk13_8 (any_of HT_.out (by kernel_rfl)) ?_
  refine pz 2 79 mk13_11 (any_of HT_.out (by kernel_rfl)) ?_
  refine pz 3 80 mk13_14 (any_of HT_.out (by kernel_rfl)) ?_
  refine pz 4 81 mk13_17 (any_of HT_.out (by kernel_rfl)) ?_
  refine pz 6 83 mk13_18 (any_of HT_.out (by kernel_rfl)) ?_
  refine pz 7 84 mk13_19 (any_of HT_.out (by kernel_rfl)) ?_
  refine pz 8 85 mk13_20 (any_of HT_.out (by kernel_rfl)) ?_
  refine pz 9 86 mk13_21 (any_of HT_.out (by kernel_rfl)) ?_
  refine take_ (i := 5) (N := some 82) (v := ?_) (a' := ?_) mk13_32 rfl rfl (take_ofW HT_.out HW_.out (by kernel_rfl)) (fun _ _ _ h => h) (Or.inl ⟨by rfl, ?_⟩) hHeld ?_ ?_
  rotate_left
  ·rintro w' ⟨s0, s1, s2, s3, s4, s5, s6, s7, s8, s9, s10, s11, s12, s13, s14, s15⟩
   exact gs
  rotate_left
  ·exact ap
  refine take_ (i := 10) (N := some 87) (v := ?_) (a' := ?_) mk13_35 rfl rfl (take_ofW HT_.out HW_.out (by kernel_rfl)) (fun _ _ _ h => h) (Or.inl ⟨by rfl, ?_⟩) hHeld ?_ ?_
  rotate_left
  ·rintro w' ⟨s0, s1, s2, s3, s4, s5, s6, s7, s8, s9, s10, s11, s12, s13, s14, s15⟩
   exact gs
  rotate_left
  ·exact ap
  refine one_ (i := 11) (N := some 88) mk13_38 rfl rfl (one_of HT_.out (by kernel_rfl)) u13_5 (fun K hK => ?_)
  refine goes_ Try.func27 (by kernel_rfl) rfl #[.slice (some ad359) t356.length co11, .string ((rd_T30 t356 x4_1).f0), .string ((rd_T30 t356 x6_3).f0)] (by rfl) rfl rfl u13_2 ?_
  with_reducible refine (impl_SameLine.calls k3 _ _ t356 ((rd_T30 t356 x4_1).f0) ((rd_T30 t356 x6_3).f0) true _ ?side1 ?side2 A34.out).mono ?_
  (case side1 => exact y13_0)
  (case side2 => exact (Kd.R_reads' HO_3.out).2.1)
  rintro e w63 ⟨rfl, hb⟩
  refine ⟨_, rfl, ?_⟩
  have n0_ := am (Kd.R_below u13_1 hb)
  have n1_ := am (below_step u13_0 hb)
  clear HO_3 HB
  have HO_3 := n0_
  have HB := n1_
  clear n0_ n1_
  (try clear hb2)
  (try clear hk)
  (try clear hi)
  refine hK.out _ _ hz13_0 (fun hHeld => ?_)
  clear hb
  clear hK K
  refine norm_ (a' := ?_) ?_ ?_
  rotate_left
  ·show Act.put _ (some 88) _ = _
   simp only [Act.put, List.setIfInBounds_toArray, List.set_cons_zero, List.set_cons_succ, i64_w, i32_w]
   rfl
  refine pz 12 7 mk13_135 (any_of HT_.out (by kernel_rfl)) ?_
  refine done_ (done_of HT_.out (by kernel_rfl)) ?_
  try go_wp2
  have n0_ := am (Kd.R_drew HO_3.out)
  have n1_ := am (below_drew1 HB.out)
  clear HO_3 HB
  have HO_3 := n0_
  have HB := n1_
  clear n0_ n1_
  have p373 : 0 ≤ (x6_3 : Int) := od u13_3
  have q373 : x6_3 < (t356.length : Int) := od u13_3
  obtain ⟨ad373, e373, hx373_0, hx373_1, hx373_2, hx373_3, hx373_4, hx373_5, hx373_6, hx373_7⟩ := at_T30 (Kd.R_reads' HO_3.out).2.2 x6_3 p373 q373
  obtain rfl : ad359 = ad373 := (by injection e373)
  replace p373 := eq_true p373
  replace q373 := eq_true q373
  have p374 : 0 ≤ (x4_1 : Int) := od u13_3
  have q374 : x4_1 < (t356.length : Int) := od u13_3
  obtain ⟨ad374, e374, hx374_0, hx374_1, hx374_2, hx374_3, hx374_4, hx374_5, hx374_6, hx374_7⟩ := at_T30 (Kd.R_reads' HO_3.out).2.2 x4_1 p374 q374
  obtain rfl : ad359 = ad374 := (by injection e374)
  replace p374 := eq_true p374
  replace q374 := eq_true q374
  have p376 : 0 ≤ (x4_1 : Int) := od u13_3
  have q376 : x4_1 < (t356.length : Int) := od u13_3
  obtain ⟨ad376, e376, hx376_0, hx376_1, hx376_2, hx376_3, hx376_4, hx376_5, hx376_6, hx376_7⟩ := at_T30 (Kd.R_reads' HO_3.out).2.2 x4_1 p376 q376
  obtain rfl : ad359 = ad376 := (by injection e376)
  replace p376 := eq_true p376
  replace q376 := eq_true q376
  have p378 : 0 ≤ (x6_3 : Int) := od u13_3
  have q378 : x6_3 < (t356.length : Int) := od u13_3
  obtain ⟨ad378, e378, hx378_0, hx378_1, hx378_2, hx378_3, hx378_4, hx378_5, hx378_6, hx378_7⟩ := at_T30 (Kd.R_reads' HO_3.out).2.2 x6_3 p378 q378
  obtain rfl : ad359 = ad378 := (by injection e378)
  replace p378 := eq_true p378
  replace q378 := eq_true q378
  have p380 : 0 ≤ (x4_1 : Int) := od u13_3
  have q380 : x4_1 < (t356.length : Int) := od u13_3
  obtain ⟨ad380, e380, hx380_0, hx380_1, hx380_2, hx380_3, hx380_4, hx380_5, hx380_6, hx380_7⟩ := at_T30 (Kd.R_reads' HO_3.out).2.2 x4_1 p380 q380
  obtain rfl : ad359 = ad380 := (by injection e380)
  replace p380 := eq_true p380
  replace q380 := eq_true q380
  have p381 : 0 ≤ (x4_1 : Int) := od u13_3
  have q381 : x4_1 < (t356.length : Int) := od u13_3
  obtain ⟨ad381, e381, hx381_0, hx381_1, hx381_2, hx381_3, hx381_4, hx381_5, hx381_6, hx381_7⟩ := at_T30 (Kd.R_reads' HO_3.out).2.2 x4_1 p381 q381
  obtain rfl : ad359 = ad381 := (by injection e381)
  replace p381 := eq_true p381
  replace q381 := eq_true q381
  have p385 : 0 ≤ (x6_3 : Int) := od u13_3
  have q385 : x6_3 < (t356.length : Int) := od u13_3
  obtain ⟨ad385, e385, hx385_0, hx385_1, hx385_2, hx385_3, hx385_4, hx385_5, hx385_6, hx385_7⟩ := at_T30 (Kd.R_reads' HO_3.out).2.2 x6_3 p385 q385
  obtain rfl : ad359 = ad385 := (by injection e385)
  replace p385 := eq_true p385
  replace q385 := eq_true q385
  refine start_ (n := 59) (S := fun w' => zc6 w' (ad359.add ((x6_3).toNat * 8)) (rd_T30 t356 x6_3) (zc6 w' (ad359.add ((x4_1).toNat * 8)) (rd_T30 t356 x4_1) (zc6 w' (ad359.add ((x4_1).toNat * 8)) (rd_T30 t356 x4_1) (zc6 w' (ad359.add ((x6_3).toNat * 8)) (rd_T30 t356 x6_3) (zc6 w' (ad359.add ((x4_1).toNat * 8)) (rd_T30 t356 x4_1) (zc6 w' (ad359.add ((x4_1).toNat * 8)) (rd_T30 t356 x4_1) (zc2 w' (ad359.add ((x6_3).toNat * 8)) (rd_T30 t356 x6_3)))))))) (ds := []) mk13_0 (by kernel_rfl) rfl rfl ⟨hx373_0, hx373_1, hx373_2, hx373_3, hx373_4, hx373_5, hx373_6, hx373_7, hx374_0, hx374_1, hx374_2, hx374_3, hx374_4, hx374_5, hx374_6, hx374_7, hx376_0, hx376_1, hx376_2, hx376_3, hx376_4, hx376_5, hx376_6, hx376_7, hx378_0, hx378_1, hx378_2, hx378_3, hx378_4, hx378_5, hx378_6, hx378_7, hx380_0, hx380_1, hx380_2, hx380_3, hx380_4, hx380_5, hx380_6, hx380_7, hx381_0, hx381_1, hx381_2, hx381_3, hx381_4, hx381_5, hx381_6, hx381_7, hx385_0, hx385_1, hx385_2, hx385_3, hx385_4, hx385_5, hx385_6, hx385_7⟩ (fun hHeld => ?_); refine with_tabW laws_FnLines.tab14 laws_FnLines.bits14 (fun HT_ HW_ => ?_)
  generalize w63.drew = w64 at HO_3 HB hx373_0 hx373_1 hx373_2 hx373_3 hx373_4 hx373_5 hx373_6 hx373_7 hx374_0 hx374_1 hx374_2 hx374_3 hx374_4 hx374_5 hx374_6 hx374_7 hx376_0 hx376_1 hx376_2 hx376_3 hx376_4 hx376_5 hx376_6 hx376_7 hx378_0 hx378_1 hx378_2 hx378_3 hx378_4 hx378_5 hx378_6 hx378_7 hx380_0 hx380_1 hx380_2 hx380_3 hx380_4 hx380_5 hx380_6 hx380_7 hx381_0 hx381_1 hx381_2 hx381_3 hx381_4 hx381_5 hx381_6 hx381_7 hx385_0 hx385_1 hx385_2 hx385_3 hx385_4 hx385_5 hx385_6 hx385_7 hHeld ⊢
  refine pz 0 89 mk13_3 (any_of HT_.out (by kernel_rfl)) ?_
  refine pz 1 90 mk13_6 (any_of HT_.out (by kernel_rfl)) ?_
  refine pz 2 91 mk13_9 (any_of HT_.out (by kernel_rfl)) ?_
  refine pz 3 92 mk13_12 (any_of HT_.out (by kernel_rfl)) ?_
  refine pz 4 93 mk13_15 (any_of HT_.out (by kernel_rfl)) ?_
  refine pz 5 94 mk13_22 (any_of HT_.out (by kernel_rfl)) ?_
  refine pz 7 96 mk13_24 (any_of HT_.out (by kernel_rfl)) ?_
  refine pz 8 97 mk13_25 (any_of HT_.out (by kernel_rfl)) ?_
  refine pz 9 98 mk13_26 (any_of HT_.out (by kernel_rfl)) ?_
  refine pz 10 99 mk13_27 (any_of HT_.out (by kernel_rfl)) ?_
  refine take_ (i := 6) (N := some 95) (v := ?_) (a' := ?_) mk13_33 rfl rfl (take_ofW HT_.out HW_.out (by kernel_rfl)) (fun _ _ _ h => h) (Or.inl ⟨by rfl, ?_⟩) hHeld ?_ ?_
  rotate_left
  ·rintro w' ⟨s0, s1, s2, s3, s4, s5, s6, s7, s8, s9, s10, s11, s12, s13, s14, s15, s16, s17, s18, s19, s20, s21, s22, s23, s24, s25, s26, s27, s28, s29, s30, s31, s32, s33, s34, s35, s36, s37, s38, s39, s40, s41, s42, s43, s44, s45, s46, s47, s48, s49, s50, s51, s52, s53, s54, s55⟩
   exact gs
  rotate_left
  ·exact ap
  refine take_ (i := 11) (N := some 100) (v := ?_) (a' := ?_) mk13_36 rfl rfl (take_ofW HT_.out HW_.out (by kernel_rfl)) (fun _ _ _ h => h) (Or.inl ⟨by rfl, ?_⟩) hHeld ?_ ?_
  rotate_left
  ·rintro w' ⟨s0, s1, s2, s3, s4, s5, s6, s7, s8, s9, s10, s11, s12, s13, s14, s15, s16, s17, s18, s19, s20, s21, s22, s23, s24, s25, s26, s27, s28, s29, s30, s31, s32, s33, s34, s35, s36, s37, s38, s39, s40, s41, s42, s43, s44, s45, s46, s47, s48, s49, s50, s51, s52, s53, s54, s55⟩
   exact gs
  rotate_left
  ·exact ap
  refine one_ (i := 12) (N := some 101) mk13_39 rfl rfl (one_of HT_.out (by kernel_rfl)) u13_5 (fun K hK => ?_)
  refine goes_ Try.func27 (by kernel_rfl) rfl #[.slice (some ad359) t356.length co11, .string ((rd_T30 t356 x6_3).f0), .string ((rd_T30 t356 x4_1).f0)] (by rfl) rfl rfl u13_2 ?_
  with_reducible refine (impl_SameLine.calls k3 _ _ t356 ((rd_T30 t356 x6_3).f0) ((rd_T30 t356 x4_1).f0) t375 _ ?side1 ?side2 A35.out).mono ?_
  (case side1 => exact y13_0)
  (case side2 => exact (Kd.R_reads' HO_3.out).2.1)
  rintro e w65 ⟨rfl, hb⟩
  refine ⟨_, rfl, ?_⟩
  have n0_ := am (Kd.R_below u13_1 hb)
  have n1_ := am (below_step u13_0 hb)
  clear HO_3 HB
  have HO_3 := n0_
  have HB := n1_
  clear n0_ n1_
  (try clear hb2)
  (try clear hk)
  (try clear hi)
  refine hK.out _ _ hz13_2 (fun hHeld => ?_)
  clear hb
  clear hK K
  refine norm_ (a' := ?_) ?_ ?_
  rotate_left
  ·show Act.put _ (some 101) _ = _
   simp only [Act.put, List.setIfInBounds_toArray, List.set_cons_zero, List.set_cons_succ, i64_w, i32_w]
   rfl
  refine pz 13 102 mk13_41 (any_of HT_.out (by kernel_rfl)) ?_
  refine pz 14 103 mk13_43 (any_of HT_.out (by kernel_rfl)) ?_
  refine pz 15 104 mk13_45 (any_of HT_.out (by kernel_rfl)) ?_
  refine pz 16 105 mk13_47 (any_of HT_.out (by kernel_rfl)) ?_
  refine pz 17 106 mk13_49 (any_of HT_.out (by kernel_rfl)) ?_
  refine pz 18 107 mk13_51 (any_of HT_.out (by kernel_rfl)) ?_
  refine pz 19 108 mk13_53 (any_of HT_.out (by kernel_rfl)) ?_
  refine pz 20 109 mk13_55 (any_of HT_.out (by kernel_rfl)) ?_
  refine pz 21 110 mk13_57 (any_of HT_.out (by kernel_rfl)) ?_
  refine pz 24 113 mk13_59 (any_of HT_.out (by kernel_rfl)) ?_
  refine pz 25 114 mk13_60 (any_of HT_.out (by kernel_rfl)) ?_
  refine pz 26 115 mk13_61 (any_of HT_.out (by kernel_rfl)) ?_
  refine pz 27 116 mk13_62 (any_of HT_.out (by kernel_rfl)) ?_
  refine pz 28 117 mk13_63 (any_of HT_.out (by kernel_rfl)) ?_
  refine take_ (i := 22) (N := some 111) (v := ?_) (a' := ?_) mk13_66 rfl rfl (take_ofW HT_.out HW_.out (by kernel_rfl)) (fun _ _ _ h => h) (Or.inl ⟨by rfl, ?_⟩) hHeld ?_ ?_
  rotate_left
  ·rintro w' ⟨s0, s1, s2, s3, s4, s5, s6, s7, s8, s9, s10, s11, s12, s13, s14, s15, s16, s17, s18, s19, s20, s21, s22, s23, s24, s25, s26, s27, s28, s29, s30, s31, s32, s33, s34, s35, s36, s37, s38, s39, s40, s41, s42, s43, s44, s45, s46, s47, s48, s49, s50, s51, s52, s53, s54, s55⟩
   exact gs
  rotate_left
  ·exact ap
  refine take_ (i := 29) (N := some 118) (v := ?_) (a' := ?_) mk13_67 rfl rfl (take_ofW HT_.out HW_.out (by kernel_rfl)) (fun _ _ _ h => h) (Or.inl ⟨by rfl, ?_⟩) hHeld ?_ ?_
  rotate_left
  ·rintro w' ⟨s0, s1, s2, s3, s4, s5, s6, s7, s8, s9, s10, s11, s12, s13, s14, s15, s16, s17, s18, s19, s20, s21, s22, s23, s24, s25, s26, s27, s28, s29, s30, s31, s32, s33, s34, s35, s36, s37, s38, s39, s40, s41, s42, s43, s44, s45, s46, s47, s48, s49, s50, s51, s52, s53, s54, s55⟩
   exact gs
  rotate_left
  ·exact ap
  refine one_ (i := 23) (N := some 112) mk13_80 rfl rfl (one_of HT_.out (by kernel_rfl)) u13_5 (fun K hK => ?_)
  refine goes_ Try.func30 (by kernel_rfl) rfl #[.slice (some ad359) t356.length co11, .string ((rd_T30 t356 x4_1).f0)] (by rfl) rfl rfl u13_2 ?_
  with_reducible refine (impl_PumpOf.calls k3 _ _ t356 ((rd_T30 t356 x4_1).f0) t377 _ ?side1 ?side2 A42.out).mono ?_
  (case side1 => exact y13_0)
  (case side2 => exact (Kd.R_reads' HO_3.out).2.1)
  rintro e w66 ⟨rfl, hb⟩
  refine ⟨_, rfl, ?_⟩
  have n0_ := am (Kd.R_below u13_1 hb)
  have n1_ := am (below_step u13_0 hb)
  clear HO_3 HB
  have HO_3 := n0_
  have HB := n1_
  clear n0_ n1_
  (try clear hb2)
  (try clear hk)
  (try clear hi)
  refine hK.out _ _ hz13_2 (fun hHeld => ?_)
  clear hb
  clear hK K
  refine norm_ (a' := ?_) ?_ ?_
  rotate_left
  ·show Act.put _ (some 112) _ = _
   simp only [Act.put, List.setIfInBounds_toArray, List.set_cons_zero, List.set_cons_succ, i64_w, i32_w]
   rfl
  refine one_ (i := 30) (N := some 119) mk13_82 rfl rfl (one_of HT_.out (by kernel_rfl)) u13_5 (fun K hK => ?_)
  refine goes_ Try.func30 (by kernel_rfl) rfl #[.slice (some ad359) t356.length co11, .string ((rd_T30 t356 x6_3).f0)] (by rfl) rfl rfl u13_2 ?_
  with_reducible refine (impl_PumpOf.calls k3 _ _ t356 ((rd_T30 t356 x6_3).f0) t379 _ ?side1 ?side2 A43.out).mono ?_
  (case side1 => exact y13_0)
  (case side2 => exact (Kd.R_reads' HO_3.out).2.1)
  rintro e w67 ⟨rfl, hb⟩
  refine ⟨_, rfl, ?_⟩
  have n0_ := am (Kd.R_below u13_1 hb)
  have n1_ := am (below_step u13_0 hb)
  clear HO_3 HB
  have HO_3 := n0_
  have HB := n1_
  clear n0_ n1_
  (try clear hb2)
  (try clear hk)
  (try clear hi)
  refine hK.out _ _ hz13_2 (fun hHeld => ?_)
  clear hb
  clear hK K
  refine norm_ (a' := ?_) ?_ ?_
  rotate_left
  ·show Act.put _ (some 119) _ = _
   simp only [Act.put, List.setIfInBounds_toArray, List.set_cons_zero, List.set_cons_succ, i64_w, i32_w]
   rfl
  refine pz 31 120 mk13_84 (any_of HT_.out (by kernel_rfl)) ?_
  refine pz 32 121 mk13_86 (any_of HT_.out (by kernel_rfl)) ?_
  refine pz 33 122 mk13_88 (any_of HT_.out (by kernel_rfl)) ?_
  refine pz 34 123 mk13_90 (any_of HT_.out (by kernel_rfl)) ?_
  refine pz 35 124 mk13_96 (any_of HT_.out (by kernel_rfl)) ?_
  refine pz 36 125 mk13_98 (any_of HT_.out (by kernel_rfl)) ?_
  refine pz 37 126 mk13_100 (any_of HT_.out (by kernel_rfl)) ?_
  refine pz 38 127 mk13_102 (any_of HT_.out (by kernel_rfl)) ?_
  refine pz 39 128 mk13_104 (any_of HT_.out (by kernel_rfl)) ?_
  refine take_ (i := 40) (N := some 129) (v := ?_) (a' := ?_) mk13_106 rfl rfl (take_ofW HT_.out HW_.out (by kernel_rfl)) (fun _ _ _ h => h) (Or.inl ⟨by rfl, ?_⟩) hHeld ?_ ?_
  rotate_left
  ·rintro w' ⟨s0, s1, s2, s3, s4, s5, s6, s7, s8, s9, s10, s11, s12, s13, s14, s15, s16, s17, s18, s19, s20, s21, s22, s23, s24, s25, s26, s27, s28, s29, s30, s31, s32, s33, s34, s35, s36, s37, s38, s39, s40, s41, s42, s43, s44, s45, s46, s47, s48, s49, s50, s51, s52, s53, s54, s55⟩
   exact gs
  rotate_left
  ·exact ap
  refine pz 41 130 mk13_108 (any_of HT_.out (by kernel_rfl)) ?_
  refine pz 42 131 mk13_110 (any_of HT_.out (by kernel_rfl)) ?_
  refine pz 43 132 mk13_112 (any_of HT_.out (by kernel_rfl)) ?_
  refine pz 44 133 mk13_113 (any_of HT_.out (by kernel_rfl)) ?_
  refine pz 45 134 mk13_114 (any_of HT_.out (by kernel_rfl)) ?_
  refine pz 46 135 mk13_115 (any_of HT_.out (by kernel_rfl)) ?_
  refine pz 47 136 mk13_116 (any_of HT_.out (by kernel_rfl)) ?_
  refine pz 50 139 mk13_117 (any_of HT_.out (by kernel_rfl)) ?_
  refine pz 51 140 mk13_118 (any_of HT_.out (by kernel_rfl)) ?_
  refine pz 52 141 mk13_119 (any_of HT_.out (by kernel_rfl)) ?_
  refine pz 53 142 mk13_120 (any_of HT_.out (by kernel_rfl)) ?_
  refine take_ (i := 48) (N := some 137) (v := ?_) (a' := ?_) mk13_122 rfl rfl (take_ofW HT_.out HW_.out (by kernel_rfl)) (fun _ _ _ h => h) (Or.inl ⟨by rfl, ?_⟩) hHeld ?_ ?_
  rotate_left
  ·rintro w' ⟨s0, s1, s2, s3, s4, s5, s6, s7, s8, s9, s10, s11, s12, s13, s14, s15, s16, s17, s18, s19, s20, s21, s22, s23, s24, s25, s26, s27, s28, s29, s30, s31, s32, s33, s34, s35, s36, s37, s38, s39, s40, s41, s42, s43, s44, s45, s46, s47, s48, s49, s50, s51, s52, s53, s54, s55⟩
   exact gs
  rotate_left
  ·exact ap
  refine take_ (i := 54) (N := some 143) (v := ?_) (a' := ?_) mk13_123 rfl rfl (take_ofW HT_.out HW_.out (by kernel_rfl)) (fun _ _ _ h => h) (Or.inl ⟨by rfl, ?_⟩) hHeld ?_ ?_
  rotate_left
  ·rintro w' ⟨s0, s1, s2, s3, s4, s5, s6, s7, s8, s9, s10, s11, s12, s13, s14, s15, s16, s17, s18, s19, s20, s21, s22, s23, s24, s25, s26, s27, s28, s29, s30, s31, s32, s33, s34, s35, s36, s37, s38, s39, s40, s41, s42, s43, s44, s45, s46, s47, s48, s49, s50, s51, s52, s53, s54, s55⟩
   exact gs
  rotate_left
  ·exact ap
  refine one_ (i := 49) (N := some 138) mk13_129 rfl rfl (one_of HT_.out (by kernel_rfl)) u13_5 (fun K hK => ?_)
  refine goes_ Try.func32 (by kernel_rfl) rfl #[.slice (some ad359) t356.length co11, .string ((rd_T30 t356 x4_1).f2)] (by rfl) rfl rfl u13_2 ?_
  with_reducible refine (impl_OnLine.calls k3 _ _ t356 ((rd_T30 t356 x4_1).f2) t382 _ ?side1 ?side2 A59.out).mono ?_
  (case side1 => exact y13_0)
  (case side2 => exact (Kd.R_reads' HO_3.out).2.1)
  rintro e w68 ⟨v383, rfl, ho0, hb⟩
  refine ⟨_, rfl, ?_⟩
  have n0_ := am (Kd.R_below u13_1 hb)
  have n1_ := am (Kd.R_lower ho0 (below_size u13_0))
  have n2_ := am (below_step u13_0 hb)
  clear HO_3 HB
  have HO_3 := n0_
  have HO384 := n1_
  have HB := n2_
  clear n0_ n1_ n2_
  (try clear hb2)
  (try clear hk)
  (try clear hi)
  (try clear ho0)
  obtain ⟨Ao69, co69, eo69⟩ := Kd.R_slice HO384.out
  (first | subst eo69 | (injection eo69 with f1_ f2_ f3_; have f4_ := f1_.symm; have f5_ := f3_.symm; clear f1_ f2_ f3_; subst f4_; subst f5_))
  refine hK.out _ _ hz13_2 (fun hHeld => ?_)
  clear hb
  clear hK K
  refine norm_ (a' := ?_) ?_ ?_
  rotate_left
  ·show Act.put _ (some 138) _ = _
   simp only [Act.put, List.setIfInBounds_toArray, List.set_cons_zero, List.set_cons_succ, i64_w, i32_w]
   rfl
  refine one_ (i := 55) (N := some 144) mk13_130 rfl rfl (one_of HT_.out (by kernel_rfl)) u13_5 (fun K hK => ?_)
  refine goes_ Try.func31 (by kernel_rfl) rfl #[.slice Ao69 t382.length co69, .string ((rd_T30 t356 x6_3).f0)] (by rfl) rfl rfl u13_2 ?_
  with_reducible refine (laws_has.calls k3 _ _ t382 ((rd_T30 t356 x6_3).f0) t386 _ ?side1 ?side2 A60.out).mono ?_
  (case side1 => exact s13_0)
  (case side2 => exact (Kd.R_reads' HO384.out).2.1)
  rintro e w' ⟨rfl, ⟨nd, rfl⟩⟩
  refine ⟨_, rfl, ?_⟩
  refine hK.out _ _ ⟨hHeld.1, hHeld.2.1, hHeld.2.2.1, hHeld.2.2.2.1, hHeld.2.2.2.2.1, hHeld.2.2.2.2.2.1, hHeld.2.2.2.2.2.2.1, hHeld.2.2.2.2.2.2.2.1, hHeld.2.2.2.2.2.2.2.2.1, hHeld.2.2.2.2.2.2.2.2.2.1, hHeld.2.2.2.2.2.2.2.2.2.2.1, hHeld.2.2.2.2.2.2.2.2.2.2.2.1, hHeld.2.2.2.2.2.2.2.2.2.2.2.2.1, hHeld.2.2.2.2.2.2.2.2.2.2.2.2.2.1, hHeld.2.2.2.2.2.2.2.2.2.2.2.2.2.2.1, hHeld.2.2.2.2.2.2.2.2.2.2.2.2.2.2.2.1, hHeld.2.2.2.2.2.2.2.2.2.2.2.2.2.2.2.2.1, hHeld.2.2.2.2.2.2.2.2.2.2.2.2.2.2.2.2.2.1, hHeld.2.2.2.2.2.2.2.2.2.2.2.2.2.2.2.2.2.2.1, hHeld.2.2.2.2.2.2.2.2.2.2.2.2.2.2.2.2.2.2.2.1, hHeld.2.2.2.2.2.2.2.2.2.2.2.2.2.2.2.2.2.2.2.2.1, hHeld.2.2.2.2.2.2.2.2.2.2.2.2.2.2.2.2.2.2.2.2.2.1, hHeld.2.2.2.2.2.2.2.2.2.2.2.2.2.2.2.2.2.2.2.2.2.2.1, hHeld.2.2.2.2.2.2.2.2.2.2.2.2.2.2.2.2.2.2.2.2.2.2.2.1, hHeld.2.2.2.2.2.2.2.2.2.2.2.2.2.2.2.2.2.2.2.2.2.2.2.2.1, hHeld.2.2.2.2.2.2.2.2.2.2.2.2.2.2.2.2.2.2.2.2.2.2.2.2.2.1, hHeld.2.2.2.2.2.2.2.2.2.2.2.2.2.2.2.2.2.2.2.2.2.2.2.2.2.2.1, hHeld.2.2.2.2.2.2.2.2.2.2.2.2.2.2.2.2.2.2.2.2.2.2.2.2.2.2.2.1, hHeld.2.2.2.2.2.2.2.2.2.2.2.2.2.2.2.2.2.2.2.2.2.2.2.2.2.2.2.2.1, hHeld.2.2.2.2.2.2.2.2.2.2.2.2.2.2.2.2.2.2.2.2.2.2.2.2.2.2.2.2.2.1, hHeld.2.2.2.2.2.2.2.2.2.2.2.2.2.2.2.2.2.2.2.2.2.2.2.2.2.2.2.2.2.2.1, hHeld.2.2.2.2.2.2.2.2.2.2.2.2.2.2.2.2.2.2.2.2.2.2.2.2.2.2.2.2.2.2.2.1, hHeld.2.2.2.2.2.2.2.2.2.2.2.2.2.2.2.2.2.2.2.2.2.2.2.2.2.2.2.2.2.2.2.2.1, hHeld.2.2.2.2.2.2.2.2.2.2.2.2.2.2.2.2.2.2.2.2.2.2.2.2.2.2.2.2.2.2.2.2.2.1, hHeld.2.2.2.2.2.2.2.2.2.2.2.2.2.2.2.2.2.2.2.2.2.2.2.2.2.2.2.2.2.2.2.2.2.2.1, hHeld.2.2.2.2.2.2.2.2.2.2.2.2.2.2.2.2.2.2.2.2.2.2.2.2.2.2.2.2.2.2.2.2.2.2.2.1, hHeld.2.2.2.2.2.2.2.2.2.2.2.2.2.2.2.2.2.2.2.2.2.2.2.2.2.2.2.2.2.2.2.2.2.2.2.2.1, hHeld.2.2.2.2.2.2.2.2.2.2.2.2.2.2.2.2.2.2.2.2.2.2.2.2.2.2.2.2.2.2.2.2.2.2.2.2.2.1, hHeld.2.2.2.2.2.2.2.2.2.2.2.2.2.2.2.2.2.2.2.2.2.2.2.2.2.2.2.2.2.2.2.2.2.2.2.2.2.2.1, hHeld.2.2.2.2.2.2.2.2.2.2.2.2.2.2.2.2.2.2.2.2.2.2.2.2.2.2.2.2.2.2.2.2.2.2.2.2.2.2.2.1, hHeld.2.2.2.2.2.2.2.2.2.2.2.2.2.2.2.2.2.2.2.2.2.2.2.2.2.2.2.2.2.2.2.2.2.2.2.2.2.2.2.2.1, hHeld.2.2.2.2.2.2.2.2.2.2.2.2.2.2.2.2.2.2.2.2.2.2.2.2.2.2.2.2.2.2.2.2.2.2.2.2.2.2.2.2.2.1, hHeld.2.2.2.2.2.2.2.2.2.2.2.2.2.2.2.2.2.2.2.2.2.2.2.2.2.2.2.2.2.2.2.2.2.2.2.2.2.2.2.2.2.2.1, hHeld.2.2.2.2.2.2.2.2.2.2.2.2.2.2.2.2.2.2.2.2.2.2.2.2.2.2.2.2.2.2.2.2.2.2.2.2.2.2.2.2.2.2.2.1, hHeld.2.2.2.2.2.2.2.2.2.2.2.2.2.2.2.2.2.2.2.2.2.2.2.2.2.2.2.2.2.2.2.2.2.2.2.2.2.2.2.2.2.2.2.2.1, hHeld.2.2.2.2.2.2.2.2.2.2.2.2.2.2.2.2.2.2.2.2.2.2.2.2.2.2.2.2.2.2.2.2.2.2.2.2.2.2.2.2.2.2.2.2.2.1, hHeld.2.2.2.2.2.2.2.2.2.2.2.2.2.2.2.2.2.2.2.2.2.2.2.2.2.2.2.2.2.2.2.2.2.2.2.2.2.2.2.2.2.2.2.2.2.2.1, hHeld.2.2.2.2.2.2.2.2.2.2.2.2.2.2.2.2.2.2.2.2.2.2.2.2.2.2.2.2.2.2.2.2.2.2.2.2.2.2.2.2.2.2.2.2.2.2.2.1, hHeld.2.2.2.2.2.2.2.2.2.2.2.2.2.2.2.2.2.2.2.2.2.2.2.2.2.2.2.2.2.2.2.2.2.2.2.2.2.2.2.2.2.2.2.2.2.2.2.2.1, hHeld.2.2.2.2.2.2.2.2.2.2.2.2.2.2.2.2.2.2.2.2.2.2.2.2.2.2.2.2.2.2.2.2.2.2.2.2.2.2.2.2.2.2.2.2.2.2.2.2.2.1, hHeld.2.2.2.2.2.2.2.2.2.2.2.2.2.2.2.2.2.2.2.2.2.2.2.2.2.2.2.2.2.2.2.2.2.2.2.2.2.2.2.2.2.2.2.2.2.2.2.2.2.2.1, hHeld.2.2.2.2.2.2.2.2.2.2.2.2.2.2.2.2.2.2.2.2.2.2.2.2.2.2.2.2.2.2.2.2.2.2.2.2.2.2.2.2.2.2.2.2.2.2.2.2.2.2.2.1, hHeld.2.2.2.2.2.2.2.2.2.2.2.2.2.2.2.2.2.2.2.2.2.2.2.2.2.2.2.2.2.2.2.2.2.2.2.2.2.2.2.2.2.2.2.2.2.2.2.2.2.2.2.2.1, hHeld.2.2.2.2.2.2.2.2.2.2.2.2.2.2.2.2.2.2.2.2.2.2.2.2.2.2.2.2.2.2.2.2.2.2.2.2.2.2.2.2.2.2.2.2.2.2.2.2.2.2.2.2.2.1, hHeld.2.2.2.2.2.2.2.2.2.2.2.2.2.2.2.2.2.2.2.2.2.2.2.2.2.2.2.2.2.2.2.2.2.2.2.2.2.2.2.2.2.2.2.2.2.2.2.2.2.2.2.2.2.2.1, hHeld.2.2.2.2.2.2.2.2.2.2.2.2.2.2.2.2.2.2.2.2.2.2.2.2.2.2.2.2.2.2.2.2.2.2.2.2.2.2.2.2.2.2.2.2.2.2.2.2.2.2.2.2.2.2.2⟩ (fun hHeld => ?_)
  clear hK K
  refine norm_ (a' := ?_) ?_ ?_
  rotate_left
  ·show Act.put _ (some 144) _ = _
   simp only [Act.put, List.setIfInBounds_toArray, List.set_cons_zero, List.set_cons_succ, i64_w, i32_w]
   rfl
  refine pz 56 145 mk13_131 (any_of HT_.out (by kernel_rfl)) ?_
  refine pz 57 146 mk13_132 (any_of HT_.out (by kernel_rfl)) ?_
  refine pz 58 147 mk13_133 (any_of HT_.out (by kernel_rfl)) ?_
  refine done_ (done_of HT_.out (by kernel_rfl)) ?_
  try go_wp2
  go_ret
  exact ⟨by first | rfl | (simp [*] <;> rfl), s13_2⟩) : p := h
set_option maxRecDepth 100000 in
theorem lf13_4 {p : Prop} (h : p := by
  refine start_ (n := 13) (S := fun w' => zc6 w' (ad359.add ((x4_1).toNat * 8)) (rd_T30 t356 x4_1) (zc2 w' (ad359.add ((x6_3).toNat * 8)) (rd_T30 t356 x6_3))) (ds := []) mk13_2 (by kernel_rfl) rfl rfl ⟨hx370_0, hx370_1, hx370_2, hx370_3, hx370_4, hx370_5, hx370_6, hx370_7, hx371_0, hx371_1, hx371_2, hx371_3, hx371_4, hx371_5, hx371_6, hx371_7⟩ (fun hHeld => ?_); refine with_tabW laws_FnLines.tab13 laws_FnLines.bits13 (fun HT_ HW_ => ?_)
  generalize wr.drew = w70 at HO_3 HB hx370_0 hx370_1 hx370_2 hx370_3 hx370_4 hx370_5 hx370_6 hx370_7 hx371_0 hx371_1 hx371_2 hx371_3 hx371_4 hx371_5 hx371_6 hx371_7 hHeld ⊢
  refine pz 0 77 mk13_5 (any_of HT_.out (by kernel_rfl)) ?_
  refine pz 1 78 mk13_8 (any_of HT_.out (by kernel_rfl)) ?_
  refine pz 2 79 mk13_11 (any_of HT_.out (by kernel_rfl)) ?_
  refine pz 3 80 mk13_14 (any_of HT_.out (by kernel_rfl)) ?_
  refine pz 4 81 mk13_17 (any_of HT_.out (by kernel_rfl)) ?_
  refine pz 6 83 mk13_18 (any_of HT_.out (by kernel_rfl)) ?_
  refine pz 7 84 mk13_19 (any_of HT_.out (by kernel_rfl)) ?_
  refine pz 8 85 mk13_20 (any_of HT_.out (by kernel_rfl)) ?_
  refine pz 9 86 mk13_21 (any_of HT_.out (by kernel_rfl)) ?_
  refine take_ (i := 5) (N := some 82) (v := ?_) (a' := ?_) mk13_32 rfl rfl (take_ofW HT_.out HW_.out (by kernel_rfl)) (fun _ _ _ h => h) (Or.inl ⟨by rfl, ?_⟩) hHeld ?_ ?_
  rotate_left
  ·rintro w' ⟨s0, s1, s2, s3, s4, s5, s6, s7, s8, s9, s10, s11, s12, s13, s14, s15⟩
   exact gs
  rotate_left
  ·exact ap
  refine take_ (i := 10) (N := some 87) (v := ?_) (a' := ?_) mk13_35 rfl rfl (take_ofW HT_.out HW_.out (by kernel_rfl)) (fun _ _ _ h => h) (Or.inl ⟨by rfl, ?_⟩) hHeld ?_ ?_
  rotate_left
  ·rintro w' ⟨s0, s1, s2, s3, s4, s5, s6, s7, s8, s9, s10, s11, s12, s13, s14, s15⟩
   exact gs
  rotate_left
  ·exact ap
  refine one_ (i := 11) (N := some 88) mk13_38 rfl rfl (one_of HT_.out (by kernel_rfl)) u13_5 (fun K hK => ?_)
  refine goes_ Try.func27 (by kernel_rfl) rfl #[.slice (some ad359) t356.length co11, .string ((rd_T30 t356 x4_1).f0), .string ((rd_T30 t356 x6_3).f0)] (by rfl) rfl rfl u13_2 ?_
  with_reducible refine (impl_SameLine.calls k3 _ _ t356 ((rd_T30 t356 x4_1).f0) ((rd_T30 t356 x6_3).f0) true _ ?side1 ?side2 A34.out).mono ?_
  (case side1 => exact y13_0)
  (case side2 => exact (Kd.R_reads' HO_3.out).2.1)
  rintro e w71 ⟨rfl, hb⟩
  refine ⟨_, rfl, ?_⟩
  have n0_ := am (Kd.R_below u13_1 hb)
  have n1_ := am (below_step u13_0 hb)
  clear HO_3 HB
  have HO_3 := n0_
  have HB := n1_
  clear n0_ n1_
  (try clear hb2)
  (try clear hk)
  (try clear hi)
  refine hK.out _ _ hz13_0 (fun hHeld => ?_)
  clear hb
  clear hK K
  refine norm_ (a' := ?_) ?_ ?_
  rotate_left
  ·show Act.put _ (some 88) _ = _
   simp only [Act.put, List.setIfInBounds_toArray, List.set_cons_zero, List.set_cons_succ, i64_w, i32_w]
   rfl
  refine pz 12 7 mk13_135 (any_of HT_.out (by kernel_rfl)) ?_
  refine done_ (done_of HT_.out (by kernel_rfl)) ?_
  try go_wp2
  have n0_ := am (Kd.R_drew HO_3.out)
  have n1_ := am (below_drew1 HB.out)
  clear HO_3 HB
  have HO_3 := n0_
  have HB := n1_
  clear n0_ n1_
  have p373 : 0 ≤ (x6_3 : Int) := od u13_3
  have q373 : x6_3 < (t356.length : Int) := od u13_3
  obtain ⟨ad373, e373, hx373_0, hx373_1, hx373_2, hx373_3, hx373_4, hx373_5, hx373_6, hx373_7⟩ := at_T30 (Kd.R_reads' HO_3.out).2.2 x6_3 p373 q373
  obtain rfl : ad359 = ad373 := (by injection e373)
  replace p373 := eq_true p373
  replace q373 := eq_true q373
  have p374 : 0 ≤ (x4_1 : Int) := od u13_3
  have q374 : x4_1 < (t356.length : Int) := od u13_3
  obtain ⟨ad374, e374, hx374_0, hx374_1, hx374_2, hx374_3, hx374_4, hx374_5, hx374_6, hx374_7⟩ := at_T30 (Kd.R_reads' HO_3.out).2.2 x4_1 p374 q374
  obtain rfl : ad359 = ad374 := (by injection e374)
  replace p374 := eq_true p374
  replace q374 := eq_true q374
  have p376 : 0 ≤ (x4_1 : Int) := od u13_3
  have q376 : x4_1 < (t356.length : Int) := od u13_3
  obtain ⟨ad376, e376, hx376_0, hx376_1, hx376_2, hx376_3, hx376_4, hx376_5, hx376_6, hx376_7⟩ := at_T30 (Kd.R_reads' HO_3.out).2.2 x4_1 p376 q376
  obtain rfl : ad359 = ad376 := (by injection e376)
  replace p376 := eq_true p376
  replace q376 := eq_true q376
  have p378 : 0 ≤ (x6_3 : Int) := od u13_3
  have q378 : x6_3 < (t356.length : Int) := od u13_3
  obtain ⟨ad378, e378, hx378_0, hx378_1, hx378_2, hx378_3, hx378_4, hx378_5, hx378_6, hx378_7⟩ := at_T30 (Kd.R_reads' HO_3.out).2.2 x6_3 p378 q378
  obtain rfl : ad359 = ad378 := (by injection e378)
  replace p378 := eq_true p378
  replace q378 := eq_true q378
  have p380 : 0 ≤ (x4_1 : Int) := od u13_3
  have q380 : x4_1 < (t356.length : Int) := od u13_3
  obtain ⟨ad380, e380, hx380_0, hx380_1, hx380_2, hx380_3, hx380_4, hx380_5, hx380_6, hx380_7⟩ := at_T30 (Kd.R_reads' HO_3.out).2.2 x4_1 p380 q380
  obtain rfl : ad359 = ad380 := (by injection e380)
  replace p380 := eq_true p380
  replace q380 := eq_true q380
  have p381 : 0 ≤ (x4_1 : Int) := od u13_3
  have q381 : x4_1 < (t356.length : Int) := od u13_3
  obtain ⟨ad381, e381, hx381_0, hx381_1, hx381_2, hx381_3, hx381_4, hx381_5, hx381_6, hx381_7⟩ := at_T30 (Kd.R_reads' HO_3.out).2.2 x4_1 p381 q381
  obtain rfl : ad359 = ad381 := (by injection e381)
  replace p381 := eq_true p381
  replace q381 := eq_true q381
  have p385 : 0 ≤ (x6_3 : Int) := od u13_3
  have q385 : x6_3 < (t356.length : Int) := od u13_3
  obtain ⟨ad385, e385, hx385_0, hx385_1, hx385_2, hx385_3, hx385_4, hx385_5, hx385_6, hx385_7⟩ := at_T30 (Kd.R_reads' HO_3.out).2.2 x6_3 p385 q385
  obtain rfl : ad359 = ad385 := (by injection e385)
  replace p385 := eq_true p385
  replace q385 := eq_true q385
  refine start_ (n := 59) (S := fun w' => zc6 w' (ad359.add ((x6_3).toNat * 8)) (rd_T30 t356 x6_3) (zc6 w' (ad359.add ((x4_1).toNat * 8)) (rd_T30 t356 x4_1) (zc6 w' (ad359.add ((x4_1).toNat * 8)) (rd_T30 t356 x4_1) (zc6 w' (ad359.add ((x6_3).toNat * 8)) (rd_T30 t356 x6_3) (zc6 w' (ad359.add ((x4_1).toNat * 8)) (rd_T30 t356 x4_1) (zc6 w' (ad359.add ((x4_1).toNat * 8)) (rd_T30 t356 x4_1) (zc2 w' (ad359.add ((x6_3).toNat * 8)) (rd_T30 t356 x6_3)))))))) (ds := []) mk13_0 (by kernel_rfl) rfl rfl ⟨hx373_0, hx373_1, hx373_2, hx373_3, hx373_4, hx373_5, hx373_6, hx373_7, hx374_0, hx374_1, hx374_2, hx374_3, hx374_4, hx374_5, hx374_6, hx374_7, hx376_0, hx376_1, hx376_2, hx376_3, hx376_4, hx376_5, hx376_6, hx376_7, hx378_0, hx378_1, hx378_2, hx378_3, hx378_4, hx378_5, hx378_6, hx378_7, hx380_0, hx380_1, hx380_2, hx380_3, hx380_4, hx380_5, hx380_6, hx380_7, hx381_0, hx381_1, hx381_2, hx381_3, hx381_4, hx381_5, hx381_6, hx381_7, hx385_0, hx385_1, hx385_2, hx385_3, hx385_4, hx385_5, hx385_6, hx385_7⟩ (fun hHeld => ?_); refine with_tabW laws_FnLines.tab14 laws_FnLines.bits14 (fun HT_ HW_ => ?_)
  generalize w71.drew = w72 at HO_3 HB hx373_0 hx373_1 hx373_2 hx373_3 hx373_4 hx373_5 hx373_6 hx373_7 hx374_0 hx374_1 hx374_2 hx374_3 hx374_4 hx374_5 hx374_6 hx374_7 hx376_0 hx376_1 hx376_2 hx376_3 hx376_4 hx376_5 hx376_6 hx376_7 hx378_0 hx378_1 hx378_2 hx378_3 hx378_4 hx378_5 hx378_6 hx378_7 hx380_0 hx380_1 hx380_2 hx380_3 hx380_4 hx380_5 hx380_6 hx380_7 hx381_0 hx381_1 hx381_2 hx381_3 hx381_4 hx381_5 hx381_6 hx381_7 hx385_0 hx385_1 hx385_2 hx385_3 hx385_4 hx385_5 hx385_6 hx385_7 hHeld ⊢
  refine pz 0 89 mk13_3 (any_of HT_.out (by kernel_rfl)) ?_
  refine pz 1 90 mk13_6 (any_of HT_.out (by kernel_rfl)) ?_
  refine pz 2 91 mk13_9 (any_of HT_.out (by kernel_rfl)) ?_
  refine pz 3 92 mk13_12 (any_of HT_.out (by kernel_rfl)) ?_
  refine pz 4 93 mk13_15 (any_of HT_.out (by kernel_rfl)) ?_
  refine pz 5 94 mk13_22 (any_of HT_.out (by kernel_rfl)) ?_
  refine pz 7 96 mk13_24 (any_of HT_.out (by kernel_rfl)) ?_
  refine pz 8 97 mk13_25 (any_of HT_.out (by kernel_rfl)) ?_
  refine pz 9 98 mk13_26 (any_of HT_.out (by kernel_rfl)) ?_
  refine pz 10 99 mk13_27 (any_of HT_.out (by kernel_rfl)) ?_
  refine take_ (i := 6) (N := some 95) (v := ?_) (a' := ?_) mk13_33 rfl rfl (take_ofW HT_.out HW_.out (by kernel_rfl)) (fun _ _ _ h => h) (Or.inl ⟨by rfl, ?_⟩) hHeld ?_ ?_
  rotate_left
  ·rintro w' ⟨s0, s1, s2, s3, s4, s5, s6, s7, s8, s9, s10, s11, s12, s13, s14, s15, s16, s17, s18, s19, s20, s21, s22, s23, s24, s25, s26, s27, s28, s29, s30, s31, s32, s33, s34, s35, s36, s37, s38, s39, s40, s41, s42, s43, s44, s45, s46, s47, s48, s49, s50, s51, s52, s53, s54, s55⟩
   exact gs
  rotate_left
  ·exact ap
  refine take_ (i := 11) (N := some 100) (v := ?_) (a' := ?_) mk13_36 rfl rfl (take_ofW HT_.out HW_.out (by kernel_rfl)) (fun _ _ _ h => h) (Or.inl ⟨by rfl, ?_⟩) hHeld ?_ ?_
  rotate_left
  ·rintro w' ⟨s0, s1, s2, s3, s4, s5, s6, s7, s8, s9, s10, s11, s12, s13, s14, s15, s16, s17, s18, s19, s20, s21, s22, s23, s24, s25, s26, s27, s28, s29, s30, s31, s32, s33, s34, s35, s36, s37, s38, s39, s40, s41, s42, s43, s44, s45, s46, s47, s48, s49, s50, s51, s52, s53, s54, s55⟩
   exact gs
  rotate_left
  ·exact ap
  refine one_ (i := 12) (N := some 101) mk13_39 rfl rfl (one_of HT_.out (by kernel_rfl)) u13_5 (fun K hK => ?_)
  refine goes_ Try.func27 (by kernel_rfl) rfl #[.slice (some ad359) t356.length co11, .string ((rd_T30 t356 x6_3).f0), .string ((rd_T30 t356 x4_1).f0)] (by rfl) rfl rfl u13_2 ?_
  with_reducible refine (impl_SameLine.calls k3 _ _ t356 ((rd_T30 t356 x6_3).f0) ((rd_T30 t356 x4_1).f0) t375 _ ?side1 ?side2 A35.out).mono ?_
  (case side1 => exact y13_0)
  (case side2 => exact (Kd.R_reads' HO_3.out).2.1)
  rintro e w73 ⟨rfl, hb⟩
  refine ⟨_, rfl, ?_⟩
  have n0_ := am (Kd.R_below u13_1 hb)
  have n1_ := am (below_step u13_0 hb)
  clear HO_3 HB
  have HO_3 := n0_
  have HB := n1_
  clear n0_ n1_
  (try clear hb2)
  (try clear hk)
  (try clear hi)
  refine hK.out _ _ hz13_2 (fun hHeld => ?_)
  clear hb
  clear hK K
  refine norm_ (a' := ?_) ?_ ?_
  rotate_left
  ·show Act.put _ (some 101) _ = _
   simp only [Act.put, List.setIfInBounds_toArray, List.set_cons_zero, List.set_cons_succ, i64_w, i32_w]
   rfl
  refine pz 13 102 mk13_41 (any_of HT_.out (by kernel_rfl)) ?_
  refine pz 14 103 mk13_43 (any_of HT_.out (by kernel_rfl)) ?_
  refine pz 15 104 mk13_45 (any_of HT_.out (by kernel_rfl)) ?_
  refine pz 16 105 mk13_47 (any_of HT_.out (by kernel_rfl)) ?_
  refine pz 17 106 mk13_49 (any_of HT_.out (by kernel_rfl)) ?_
  refine pz 18 107 mk13_51 (any_of HT_.out (by kernel_rfl)) ?_
  refine pz 19 108 mk13_53 (any_of HT_.out (by kernel_rfl)) ?_
  refine pz 20 109 mk13_55 (any_of HT_.out (by kernel_rfl)) ?_
  refine pz 21 110 mk13_57 (any_of HT_.out (by kernel_rfl)) ?_
  refine pz 24 113 mk13_59 (any_of HT_.out (by kernel_rfl)) ?_
  refine pz 25 114 mk13_60 (any_of HT_.out (by kernel_rfl)) ?_
  refine pz 26 115 mk13_61 (any_of HT_.out (by kernel_rfl)) ?_
  refine pz 27 116 mk13_62 (any_of HT_.out (by kernel_rfl)) ?_
  refine pz 28 117 mk13_63 (any_of HT_.out (by kernel_rfl)) ?_
  refine take_ (i := 22) (N := some 111) (v := ?_) (a' := ?_) mk13_66 rfl rfl (take_ofW HT_.out HW_.out (by kernel_rfl)) (fun _ _ _ h => h) (Or.inl ⟨by rfl, ?_⟩) hHeld ?_ ?_
  rotate_left
  ·rintro w' ⟨s0, s1, s2, s3, s4, s5, s6, s7, s8, s9, s10, s11, s12, s13, s14, s15, s16, s17, s18, s19, s20, s21, s22, s23, s24, s25, s26, s27, s28, s29, s30, s31, s32, s33, s34, s35, s36, s37, s38, s39, s40, s41, s42, s43, s44, s45, s46, s47, s48, s49, s50, s51, s52, s53, s54, s55⟩
   exact gs
  rotate_left
  ·exact ap
  refine take_ (i := 29) (N := some 118) (v := ?_) (a' := ?_) mk13_67 rfl rfl (take_ofW HT_.out HW_.out (by kernel_rfl)) (fun _ _ _ h => h) (Or.inl ⟨by rfl, ?_⟩) hHeld ?_ ?_
  rotate_left
  ·rintro w' ⟨s0, s1, s2, s3, s4, s5, s6, s7, s8, s9, s10, s11, s12, s13, s14, s15, s16, s17, s18, s19, s20, s21, s22, s23, s24, s25, s26, s27, s28, s29, s30, s31, s32, s33, s34, s35, s36, s37, s38, s39, s40, s41, s42, s43, s44, s45, s46, s47, s48, s49, s50, s51, s52, s53, s54, s55⟩
   exact gs
  rotate_left
  ·exact ap
  refine one_ (i := 23) (N := some 112) mk13_80 rfl rfl (one_of HT_.out (by kernel_rfl)) u13_5 (fun K hK => ?_)
  refine goes_ Try.func30 (by kernel_rfl) rfl #[.slice (some ad359) t356.length co11, .string ((rd_T30 t356 x4_1).f0)] (by rfl) rfl rfl u13_2 ?_
  with_reducible refine (impl_PumpOf.calls k3 _ _ t356 ((rd_T30 t356 x4_1).f0) t377 _ ?side1 ?side2 A42.out).mono ?_
  (case side1 => exact y13_0)
  (case side2 => exact (Kd.R_reads' HO_3.out).2.1)
  rintro e w74 ⟨rfl, hb⟩
  refine ⟨_, rfl, ?_⟩
  have n0_ := am (Kd.R_below u13_1 hb)
  have n1_ := am (below_step u13_0 hb)
  clear HO_3 HB
  have HO_3 := n0_
  have HB := n1_
  clear n0_ n1_
  (try clear hb2)
  (try clear hk)
  (try clear hi)
  refine hK.out _ _ hz13_2 (fun hHeld => ?_)
  clear hb
  clear hK K
  refine norm_ (a' := ?_) ?_ ?_
  rotate_left
  ·show Act.put _ (some 112) _ = _
   simp only [Act.put, List.setIfInBounds_toArray, List.set_cons_zero, List.set_cons_succ, i64_w, i32_w]
   rfl
  refine one_ (i := 30) (N := some 119) mk13_82 rfl rfl (one_of HT_.out (by kernel_rfl)) u13_5 (fun K hK => ?_)
  refine goes_ Try.func30 (by kernel_rfl) rfl #[.slice (some ad359) t356.length co11, .string ((rd_T30 t356 x6_3).f0)] (by rfl) rfl rfl u13_2 ?_
  with_reducible refine (impl_PumpOf.calls k3 _ _ t356 ((rd_T30 t356 x6_3).f0) t379 _ ?side1 ?side2 A43.out).mono ?_
  (case side1 => exact y13_0)
  (case side2 => exact (Kd.R_reads' HO_3.out).2.1)
  rintro e w75 ⟨rfl, hb⟩
  refine ⟨_, rfl, ?_⟩
  have n0_ := am (Kd.R_below u13_1 hb)
  have n1_ := am (below_step u13_0 hb)
  clear HO_3 HB
  have HO_3 := n0_
  have HB := n1_
  clear n0_ n1_
  (try clear hb2)
  (try clear hk)
  (try clear hi)
  refine hK.out _ _ hz13_2 (fun hHeld => ?_)
  clear hb
  clear hK K
  refine norm_ (a' := ?_) ?_ ?_
  rotate_left
  ·show Act.put _ (some 119) _ = _
   simp only [Act.put, List.setIfInBounds_toArray, List.set_cons_zero, List.set_cons_succ, i64_w, i32_w]
   rfl
  refine pz 31 120 mk13_84 (any_of HT_.out (by kernel_rfl)) ?_
  refine pz 32 121 mk13_86 (any_of HT_.out (by kernel_rfl)) ?_
  refine pz 33 122 mk13_88 (any_of HT_.out (by kernel_rfl)) ?_
  refine pz 34 123 mk13_90 (any_of HT_.out (by kernel_rfl)) ?_
  refine pz 35 124 mk13_96 (any_of HT_.out (by kernel_rfl)) ?_
  refine pz 36 125 mk13_98 (any_of HT_.out (by kernel_rfl)) ?_
  refine pz 37 126 mk13_100 (any_of HT_.out (by kernel_rfl)) ?_
  refine pz 38 127 mk13_102 (any_of HT_.out (by kernel_rfl)) ?_
  refine pz 39 128 mk13_104 (any_of HT_.out (by kernel_rfl)) ?_
  refine take_ (i := 40) (N := some 129) (v := ?_) (a' := ?_) mk13_106 rfl rfl (take_ofW HT_.out HW_.out (by kernel_rfl)) (fun _ _ _ h => h) (Or.inl ⟨by rfl, ?_⟩) hHeld ?_ ?_
  rotate_left
  ·rintro w' ⟨s0, s1, s2, s3, s4, s5, s6, s7, s8, s9, s10, s11, s12, s13, s14, s15, s16, s17, s18, s19, s20, s21, s22, s23, s24, s25, s26, s27, s28, s29, s30, s31, s32, s33, s34, s35, s36, s37, s38, s39, s40, s41, s42, s43, s44, s45, s46, s47, s48, s49, s50, s51, s52, s53, s54, s55⟩
   exact gs
  rotate_left
  ·exact ap
  refine pz 41 130 mk13_108 (any_of HT_.out (by kernel_rfl)) ?_
  refine pz 42 131 mk13_110 (any_of HT_.out (by kernel_rfl)) ?_
  refine pz 43 132 mk13_112 (any_of HT_.out (by kernel_rfl)) ?_
  refine pz 44 133 mk13_113 (any_of HT_.out (by kernel_rfl)) ?_
  refine pz 45 134 mk13_114 (any_of HT_.out (by kernel_rfl)) ?_
  refine pz 46 135 mk13_115 (any_of HT_.out (by kernel_rfl)) ?_
  refine pz 47 136 mk13_116 (any_of HT_.out (by kernel_rfl)) ?_
  refine pz 50 139 mk13_117 (any_of HT_.out (by kernel_rfl)) ?_
  refine pz 51 140 mk13_118 (any_of HT_.out (by kernel_rfl)) ?_
  refine pz 52 141 mk13_119 (any_of HT_.out (by kernel_rfl)) ?_
  refine pz 53 142 mk13_120 (any_of HT_.out (by kernel_rfl)) ?_
  refine take_ (i := 48) (N := some 137) (v := ?_) (a' := ?_) mk13_122 rfl rfl (take_ofW HT_.out HW_.out (by kernel_rfl)) (fun _ _ _ h => h) (Or.inl ⟨by rfl, ?_⟩) hHeld ?_ ?_
  rotate_left
  ·rintro w' ⟨s0, s1, s2, s3, s4, s5, s6, s7, s8, s9, s10, s11, s12, s13, s14, s15, s16, s17, s18, s19, s20, s21, s22, s23, s24, s25, s26, s27, s28, s29, s30, s31, s32, s33, s34, s35, s36, s37, s38, s39, s40, s41, s42, s43, s44, s45, s46, s47, s48, s49, s50, s51, s52, s53, s54, s55⟩
   exact gs
  rotate_left
  ·exact ap
  refine take_ (i := 54) (N := some 143) (v := ?_) (a' := ?_) mk13_123 rfl rfl (take_ofW HT_.out HW_.out (by kernel_rfl)) (fun _ _ _ h => h) (Or.inl ⟨by rfl, ?_⟩) hHeld ?_ ?_
  rotate_left
  ·rintro w' ⟨s0, s1, s2, s3, s4, s5, s6, s7, s8, s9, s10, s11, s12, s13, s14, s15, s16, s17, s18, s19, s20, s21, s22, s23, s24, s25, s26, s27, s28, s29, s30, s31, s32, s33, s34, s35, s36, s37, s38, s39, s40, s41, s42, s43, s44, s45, s46, s47, s48, s49, s50, s51, s52, s53, s54, s55⟩
   exact gs
  rotate_left
  ·exact ap
  refine one_ (i := 49) (N := some 138) mk13_129 rfl rfl (one_of HT_.out (by kernel_rfl)) u13_5 (fun K hK => ?_)
  refine goes_ Try.func32 (by kernel_rfl) rfl #[.slice (some ad359) t356.length co11, .string ((rd_T30 t356 x4_1).f2)] (by rfl) rfl rfl u13_2 ?_
  with_reducible refine (impl_OnLine.calls k3 _ _ t356 ((rd_T30 t356 x4_1).f2) t382 _ ?side1 ?side2 A59.out).mono ?_
  (case side1 => exact y13_0)
  (case side2 => exact (Kd.R_reads' HO_3.out).2.1)
  rintro e w76 ⟨v383, rfl, ho0, hb⟩
  refine ⟨_, rfl, ?_⟩
  have n0_ := am (Kd.R_below u13_1 hb)
  have n1_ := am (Kd.R_lower ho0 (below_size u13_0))
  have n2_ := am (below_step u13_0 hb)
  clear HO_3 HB
  have HO_3 := n0_
  have HO384 := n1_
  have HB := n2_
  clear n0_ n1_ n2_
  (try clear hb2)
  (try clear hk)
  (try clear hi)
  (try clear ho0)
  obtain ⟨Ao77, co77, eo77⟩ := Kd.R_slice HO384.out
  (first | subst eo77 | (injection eo77 with f1_ f2_ f3_; have f4_ := f1_.symm; have f5_ := f3_.symm; clear f1_ f2_ f3_; subst f4_; subst f5_))
  refine hK.out _ _ hz13_2 (fun hHeld => ?_)
  clear hb
  clear hK K
  refine norm_ (a' := ?_) ?_ ?_
  rotate_left
  ·show Act.put _ (some 138) _ = _
   simp only [Act.put, List.setIfInBounds_toArray, List.set_cons_zero, List.set_cons_succ, i64_w, i32_w]
   rfl
  refine one_ (i := 55) (N := some 144) mk13_130 rfl rfl (one_of HT_.out (by kernel_rfl)) u13_5 (fun K hK => ?_)
  refine goes_ Try.func31 (by kernel_rfl) rfl #[.slice Ao77 t382.length co77, .string ((rd_T30 t356 x6_3).f0)] (by rfl) rfl rfl u13_2 ?_
  with_reducible refine (laws_has.calls k3 _ _ t382 ((rd_T30 t356 x6_3).f0) t386 _ ?side1 ?side2 A60.out).mono ?_
  (case side1 => exact s13_0)
  (case side2 => exact (Kd.R_reads' HO384.out).2.1)
  rintro e w' ⟨rfl, ⟨nd, rfl⟩⟩
  refine ⟨_, rfl, ?_⟩
  refine hK.out _ _ ⟨hHeld.1, hHeld.2.1, hHeld.2.2.1, hHeld.2.2.2.1, hHeld.2.2.2.2.1, hHeld.2.2.2.2.2.1, hHeld.2.2.2.2.2.2.1, hHeld.2.2.2.2.2.2.2.1, hHeld.2.2.2.2.2.2.2.2.1, hHeld.2.2.2.2.2.2.2.2.2.1, hHeld.2.2.2.2.2.2.2.2.2.2.1, hHeld.2.2.2.2.2.2.2.2.2.2.2.1, hHeld.2.2.2.2.2.2.2.2.2.2.2.2.1, hHeld.2.2.2.2.2.2.2.2.2.2.2.2.2.1, hHeld.2.2.2.2.2.2.2.2.2.2.2.2.2.2.1, hHeld.2.2.2.2.2.2.2.2.2.2.2.2.2.2.2.1, hHeld.2.2.2.2.2.2.2.2.2.2.2.2.2.2.2.2.1, hHeld.2.2.2.2.2.2.2.2.2.2.2.2.2.2.2.2.2.1, hHeld.2.2.2.2.2.2.2.2.2.2.2.2.2.2.2.2.2.2.1, hHeld.2.2.2.2.2.2.2.2.2.2.2.2.2.2.2.2.2.2.2.1, hHeld.2.2.2.2.2.2.2.2.2.2.2.2.2.2.2.2.2.2.2.2.1, hHeld.2.2.2.2.2.2.2.2.2.2.2.2.2.2.2.2.2.2.2.2.2.1, hHeld.2.2.2.2.2.2.2.2.2.2.2.2.2.2.2.2.2.2.2.2.2.2.1, hHeld.2.2.2.2.2.2.2.2.2.2.2.2.2.2.2.2.2.2.2.2.2.2.2.1, hHeld.2.2.2.2.2.2.2.2.2.2.2.2.2.2.2.2.2.2.2.2.2.2.2.2.1, hHeld.2.2.2.2.2.2.2.2.2.2.2.2.2.2.2.2.2.2.2.2.2.2.2.2.2.1, hHeld.2.2.2.2.2.2.2.2.2.2.2.2.2.2.2.2.2.2.2.2.2.2.2.2.2.2.1, hHeld.2.2.2.2.2.2.2.2.2.2.2.2.2.2.2.2.2.2.2.2.2.2.2.2.2.2.2.1, hHeld.2.2.2.2.2.2.2.2.2.2.2.2.2.2.2.2.2.2.2.2.2.2.2.2.2.2.2.2.1, hHeld.2.2.2.2.2.2.2.2.2.2.2.2.2.2.2.2.2.2.2.2.2.2.2.2.2.2.2.2.2.1, hHeld.2.2.2.2.2.2.2.2.2.2.2.2.2.2.2.2.2.2.2.2.2.2.2.2.2.2.2.2.2.2.1, hHeld.2.2.2.2.2.2.2.2.2.2.2.2.2.2.2.2.2.2.2.2.2.2.2.2.2.2.2.2.2.2.2.1, hHeld.2.2.2.2.2.2.2.2.2.2.2.2.2.2.2.2.2.2.2.2.2.2.2.2.2.2.2.2.2.2.2.2.1, hHeld.2.2.2.2.2.2.2.2.2.2.2.2.2.2.2.2.2.2.2.2.2.2.2.2.2.2.2.2.2.2.2.2.2.1, hHeld.2.2.2.2.2.2.2.2.2.2.2.2.2.2.2.2.2.2.2.2.2.2.2.2.2.2.2.2.2.2.2.2.2.2.1, hHeld.2.2.2.2.2.2.2.2.2.2.2.2.2.2.2.2.2.2.2.2.2.2.2.2.2.2.2.2.2.2.2.2.2.2.2.1, hHeld.2.2.2.2.2.2.2.2.2.2.2.2.2.2.2.2.2.2.2.2.2.2.2.2.2.2.2.2.2.2.2.2.2.2.2.2.1, hHeld.2.2.2.2.2.2.2.2.2.2.2.2.2.2.2.2.2.2.2.2.2.2.2.2.2.2.2.2.2.2.2.2.2.2.2.2.2.1, hHeld.2.2.2.2.2.2.2.2.2.2.2.2.2.2.2.2.2.2.2.2.2.2.2.2.2.2.2.2.2.2.2.2.2.2.2.2.2.2.1, hHeld.2.2.2.2.2.2.2.2.2.2.2.2.2.2.2.2.2.2.2.2.2.2.2.2.2.2.2.2.2.2.2.2.2.2.2.2.2.2.2.1, hHeld.2.2.2.2.2.2.2.2.2.2.2.2.2.2.2.2.2.2.2.2.2.2.2.2.2.2.2.2.2.2.2.2.2.2.2.2.2.2.2.2.1, hHeld.2.2.2.2.2.2.2.2.2.2.2.2.2.2.2.2.2.2.2.2.2.2.2.2.2.2.2.2.2.2.2.2.2.2.2.2.2.2.2.2.2.1, hHeld.2.2.2.2.2.2.2.2.2.2.2.2.2.2.2.2.2.2.2.2.2.2.2.2.2.2.2.2.2.2.2.2.2.2.2.2.2.2.2.2.2.2.1, hHeld.2.2.2.2.2.2.2.2.2.2.2.2.2.2.2.2.2.2.2.2.2.2.2.2.2.2.2.2.2.2.2.2.2.2.2.2.2.2.2.2.2.2.2.1, hHeld.2.2.2.2.2.2.2.2.2.2.2.2.2.2.2.2.2.2.2.2.2.2.2.2.2.2.2.2.2.2.2.2.2.2.2.2.2.2.2.2.2.2.2.2.1, hHeld.2.2.2.2.2.2.2.2.2.2.2.2.2.2.2.2.2.2.2.2.2.2.2.2.2.2.2.2.2.2.2.2.2.2.2.2.2.2.2.2.2.2.2.2.2.1, hHeld.2.2.2.2.2.2.2.2.2.2.2.2.2.2.2.2.2.2.2.2.2.2.2.2.2.2.2.2.2.2.2.2.2.2.2.2.2.2.2.2.2.2.2.2.2.2.1, hHeld.2.2.2.2.2.2.2.2.2.2.2.2.2.2.2.2.2.2.2.2.2.2.2.2.2.2.2.2.2.2.2.2.2.2.2.2.2.2.2.2.2.2.2.2.2.2.2.1, hHeld.2.2.2.2.2.2.2.2.2.2.2.2.2.2.2.2.2.2.2.2.2.2.2.2.2.2.2.2.2.2.2.2.2.2.2.2.2.2.2.2.2.2.2.2.2.2.2.2.1, hHeld.2.2.2.2.2.2.2.2.2.2.2.2.2.2.2.2.2.2.2.2.2.2.2.2.2.2.2.2.2.2.2.2.2.2.2.2.2.2.2.2.2.2.2.2.2.2.2.2.2.1, hHeld.2.2.2.2.2.2.2.2.2.2.2.2.2.2.2.2.2.2.2.2.2.2.2.2.2.2.2.2.2.2.2.2.2.2.2.2.2.2.2.2.2.2.2.2.2.2.2.2.2.2.1, hHeld.2.2.2.2.2.2.2.2.2.2.2.2.2.2.2.2.2.2.2.2.2.2.2.2.2.2.2.2.2.2.2.2.2.2.2.2.2.2.2.2.2.2.2.2.2.2.2.2.2.2.2.1, hHeld.2.2.2.2.2.2.2.2.2.2.2.2.2.2.2.2.2.2.2.2.2.2.2.2.2.2.2.2.2.2.2.2.2.2.2.2.2.2.2.2.2.2.2.2.2.2.2.2.2.2.2.2.1, hHeld.2.2.2.2.2.2.2.2.2.2.2.2.2.2.2.2.2.2.2.2.2.2.2.2.2.2.2.2.2.2.2.2.2.2.2.2.2.2.2.2.2.2.2.2.2.2.2.2.2.2.2.2.2.1, hHeld.2.2.2.2.2.2.2.2.2.2.2.2.2.2.2.2.2.2.2.2.2.2.2.2.2.2.2.2.2.2.2.2.2.2.2.2.2.2.2.2.2.2.2.2.2.2.2.2.2.2.2.2.2.2.1, hHeld.2.2.2.2.2.2.2.2.2.2.2.2.2.2.2.2.2.2.2.2.2.2.2.2.2.2.2.2.2.2.2.2.2.2.2.2.2.2.2.2.2.2.2.2.2.2.2.2.2.2.2.2.2.2.2⟩ (fun hHeld => ?_)
  clear hK K
  refine norm_ (a' := ?_) ?_ ?_
  rotate_left
  ·show Act.put _ (some 144) _ = _
   simp only [Act.put, List.setIfInBounds_toArray, List.set_cons_zero, List.set_cons_succ, i64_w, i32_w]
   rfl
  refine pz 56 145 mk13_131 (any_of HT_.out (by kernel_rfl)) ?_
  refine pz 57 146 mk13_132 (any_of HT_.out (by kernel_rfl)) ?_
  refine pz 58 147 mk13_133 (any_of HT_.out (by kernel_rfl)) ?_
  refine done_ (done_of HT_.out (by kernel_rfl)) ?_
  try go_wp2
  go_roundg k3
  case measure => have := HK1.out; have := HJ9.out; have := HK3.out; omega
  case rel => exact ⟨(wrap64 (x6_3 + 1)), u13_4, H', ⟨by have := HK1.out; have := HJ9.out; have := HK3.out; omega⟩, ⟨by (with_reducible repeat (first | apply Kd.R_alloc | apply Kd.R_drewN | apply Kd.R_drew)); exact HO_3.out⟩, ⟨s13_2⟩⟩) : p := h
set_option maxRecDepth 100000 in
theorem lf13_5 {p : Prop} (h : p := by
  refine start_ (n := 13) (S := fun w' => zc6 w' (ad359.add ((x4_1).toNat * 8)) (rd_T30 t356 x4_1) (zc2 w' (ad359.add ((x6_3).toNat * 8)) (rd_T30 t356 x6_3))) (ds := []) mk13_2 (by kernel_rfl) rfl rfl ⟨hx370_0, hx370_1, hx370_2, hx370_3, hx370_4, hx370_5, hx370_6, hx370_7, hx371_0, hx371_1, hx371_2, hx371_3, hx371_4, hx371_5, hx371_6, hx371_7⟩ (fun hHeld => ?_); refine with_tabW laws_FnLines.tab13 laws_FnLines.bits13 (fun HT_ HW_ => ?_)
  generalize wr.drew = w78 at HO_3 HB hx370_0 hx370_1 hx370_2 hx370_3 hx370_4 hx370_5 hx370_6 hx370_7 hx371_0 hx371_1 hx371_2 hx371_3 hx371_4 hx371_5 hx371_6 hx371_7 hHeld ⊢
  refine pz 0 77 mk13_5 (any_of HT_.out (by kernel_rfl)) ?_
  refine pz 1 78 mk13_8 (any_of HT_.out (by kernel_rfl)) ?_
  refine pz 2 79 mk13_11 (any_of HT_.out (by kernel_rfl)) ?_
  refine pz 3 80 mk13_14 (any_of HT_.out (by kernel_rfl)) ?_
  refine pz 4 81 mk13_17 (any_of HT_.out (by kernel_rfl)) ?_
  refine pz 6 83 mk13_18 (any_of HT_.out (by kernel_rfl)) ?_
  refine pz 7 84 mk13_19 (any_of HT_.out (by kernel_rfl)) ?_
  refine pz 8 85 mk13_20 (any_of HT_.out (by kernel_rfl)) ?_
  refine pz 9 86 mk13_21 (any_of HT_.out (by kernel_rfl)) ?_
  refine take_ (i := 5) (N := some 82) (v := ?_) (a' := ?_) mk13_32 rfl rfl (take_ofW HT_.out HW_.out (by kernel_rfl)) (fun _ _ _ h => h) (Or.inl ⟨by rfl, ?_⟩) hHeld ?_ ?_
  rotate_left
  ·rintro w' ⟨s0, s1, s2, s3, s4, s5, s6, s7, s8, s9, s10, s11, s12, s13, s14, s15⟩
   exact gs
  rotate_left
  ·exact ap
  refine take_ (i := 10) (N := some 87) (v := ?_) (a' := ?_) mk13_35 rfl rfl (take_ofW HT_.out HW_.out (by kernel_rfl)) (fun _ _ _ h => h) (Or.inl ⟨by rfl, ?_⟩) hHeld ?_ ?_
  rotate_left
  ·rintro w' ⟨s0, s1, s2, s3, s4, s5, s6, s7, s8, s9, s10, s11, s12, s13, s14, s15⟩
   exact gs
  rotate_left
  ·exact ap
  refine one_ (i := 11) (N := some 88) mk13_38 rfl rfl (one_of HT_.out (by kernel_rfl)) u13_5 (fun K hK => ?_)
  refine goes_ Try.func27 (by kernel_rfl) rfl #[.slice (some ad359) t356.length co11, .string ((rd_T30 t356 x4_1).f0), .string ((rd_T30 t356 x6_3).f0)] (by rfl) rfl rfl u13_2 ?_
  with_reducible refine (impl_SameLine.calls k3 _ _ t356 ((rd_T30 t356 x4_1).f0) ((rd_T30 t356 x6_3).f0) true _ ?side1 ?side2 A34.out).mono ?_
  (case side1 => exact y13_0)
  (case side2 => exact (Kd.R_reads' HO_3.out).2.1)
  rintro e w79 ⟨rfl, hb⟩
  refine ⟨_, rfl, ?_⟩
  have n0_ := am (Kd.R_below u13_1 hb)
  have n1_ := am (below_step u13_0 hb)
  clear HO_3 HB
  have HO_3 := n0_
  have HB := n1_
  clear n0_ n1_
  (try clear hb2)
  (try clear hk)
  (try clear hi)
  refine hK.out _ _ hz13_0 (fun hHeld => ?_)
  clear hb
  clear hK K
  refine norm_ (a' := ?_) ?_ ?_
  rotate_left
  ·show Act.put _ (some 88) _ = _
   simp only [Act.put, List.setIfInBounds_toArray, List.set_cons_zero, List.set_cons_succ, i64_w, i32_w]
   rfl
  refine pz 12 7 mk13_135 (any_of HT_.out (by kernel_rfl)) ?_
  refine done_ (done_of HT_.out (by kernel_rfl)) ?_
  try go_wp2
  have n0_ := am (Kd.R_drew HO_3.out)
  have n1_ := am (below_drew1 HB.out)
  clear HO_3 HB
  have HO_3 := n0_
  have HB := n1_
  clear n0_ n1_
  have p373 : 0 ≤ (x6_3 : Int) := od u13_3
  have q373 : x6_3 < (t356.length : Int) := od u13_3
  obtain ⟨ad373, e373, hx373_0, hx373_1, hx373_2, hx373_3, hx373_4, hx373_5, hx373_6, hx373_7⟩ := at_T30 (Kd.R_reads' HO_3.out).2.2 x6_3 p373 q373
  obtain rfl : ad359 = ad373 := (by injection e373)
  replace p373 := eq_true p373
  replace q373 := eq_true q373
  have p374 : 0 ≤ (x4_1 : Int) := od u13_3
  have q374 : x4_1 < (t356.length : Int) := od u13_3
  obtain ⟨ad374, e374, hx374_0, hx374_1, hx374_2, hx374_3, hx374_4, hx374_5, hx374_6, hx374_7⟩ := at_T30 (Kd.R_reads' HO_3.out).2.2 x4_1 p374 q374
  obtain rfl : ad359 = ad374 := (by injection e374)
  replace p374 := eq_true p374
  replace q374 := eq_true q374
  have p376 : 0 ≤ (x4_1 : Int) := od u13_3
  have q376 : x4_1 < (t356.length : Int) := od u13_3
  obtain ⟨ad376, e376, hx376_0, hx376_1, hx376_2, hx376_3, hx376_4, hx376_5, hx376_6, hx376_7⟩ := at_T30 (Kd.R_reads' HO_3.out).2.2 x4_1 p376 q376
  obtain rfl : ad359 = ad376 := (by injection e376)
  replace p376 := eq_true p376
  replace q376 := eq_true q376
  have p378 : 0 ≤ (x6_3 : Int) := od u13_3
  have q378 : x6_3 < (t356.length : Int) := od u13_3
  obtain ⟨ad378, e378, hx378_0, hx378_1, hx378_2, hx378_3, hx378_4, hx378_5, hx378_6, hx378_7⟩ := at_T30 (Kd.R_reads' HO_3.out).2.2 x6_3 p378 q378
  obtain rfl : ad359 = ad378 := (by injection e378)
  replace p378 := eq_true p378
  replace q378 := eq_true q378
  refine start_ (n := 59) (S := fun w' => zc6 w' (ad359.add ((x6_3).toNat * 8)) (rd_T30 t356 x6_3) (zc6 w' (ad359.add ((x4_1).toNat * 8)) (rd_T30 t356 x4_1) (zc6 w' (ad359.add ((x4_1).toNat * 8)) (rd_T30 t356 x4_1) (zc2 w' (ad359.add ((x6_3).toNat * 8)) (rd_T30 t356 x6_3))))) (ds := []) mk13_0 (by kernel_rfl) rfl rfl ⟨hx373_0, hx373_1, hx373_2, hx373_3, hx373_4, hx373_5, hx373_6, hx373_7, hx374_0, hx374_1, hx374_2, hx374_3, hx374_4, hx374_5, hx374_6, hx374_7, hx376_0, hx376_1, hx376_2, hx376_3, hx376_4, hx376_5, hx376_6, hx376_7, hx378_0, hx378_1, hx378_2, hx378_3, hx378_4, hx378_5, hx378_6, hx378_7⟩ (fun hHeld => ?_); refine with_tabW laws_FnLines.tab14 laws_FnLines.bits14 (fun HT_ HW_ => ?_)
  generalize w79.drew = w80 at HO_3 HB hx373_0 hx373_1 hx373_2 hx373_3 hx373_4 hx373_5 hx373_6 hx373_7 hx374_0 hx374_1 hx374_2 hx374_3 hx374_4 hx374_5 hx374_6 hx374_7 hx376_0 hx376_1 hx376_2 hx376_3 hx376_4 hx376_5 hx376_6 hx376_7 hx378_0 hx378_1 hx378_2 hx378_3 hx378_4 hx378_5 hx378_6 hx378_7 hHeld ⊢
  refine pz 0 89 mk13_3 (any_of HT_.out (by kernel_rfl)) ?_
  refine pz 1 90 mk13_6 (any_of HT_.out (by kernel_rfl)) ?_
  refine pz 2 91 mk13_9 (any_of HT_.out (by kernel_rfl)) ?_
  refine pz 3 92 mk13_12 (any_of HT_.out (by kernel_rfl)) ?_
  refine pz 4 93 mk13_15 (any_of HT_.out (by kernel_rfl)) ?_
  refine pz 5 94 mk13_22 (any_of HT_.out (by kernel_rfl)) ?_
  refine pz 7 96 mk13_24 (any_of HT_.out (by kernel_rfl)) ?_
  refine pz 8 97 mk13_25 (any_of HT_.out (by kernel_rfl)) ?_
  refine pz 9 98 mk13_26 (any_of HT_.out (by kernel_rfl)) ?_
  refine pz 10 99 mk13_27 (any_of HT_.out (by kernel_rfl)) ?_
  refine take_ (i := 6) (N := some 95) (v := ?_) (a' := ?_) mk13_33 rfl rfl (take_ofW HT_.out HW_.out (by kernel_rfl)) (fun _ _ _ h => h) (Or.inl ⟨by rfl, ?_⟩) hHeld ?_ ?_
  rotate_left
  ·rintro w' ⟨s0, s1, s2, s3, s4, s5, s6, s7, s8, s9, s10, s11, s12, s13, s14, s15, s16, s17, s18, s19, s20, s21, s22, s23, s24, s25, s26, s27, s28, s29, s30, s31⟩
   exact gs
  rotate_left
  ·exact ap
  refine take_ (i := 11) (N := some 100) (v := ?_) (a' := ?_) mk13_36 rfl rfl (take_ofW HT_.out HW_.out (by kernel_rfl)) (fun _ _ _ h => h) (Or.inl ⟨by rfl, ?_⟩) hHeld ?_ ?_
  rotate_left
  ·rintro w' ⟨s0, s1, s2, s3, s4, s5, s6, s7, s8, s9, s10, s11, s12, s13, s14, s15, s16, s17, s18, s19, s20, s21, s22, s23, s24, s25, s26, s27, s28, s29, s30, s31⟩
   exact gs
  rotate_left
  ·exact ap
  refine one_ (i := 12) (N := some 101) mk13_39 rfl rfl (one_of HT_.out (by kernel_rfl)) u13_5 (fun K hK => ?_)
  refine goes_ Try.func27 (by kernel_rfl) rfl #[.slice (some ad359) t356.length co11, .string ((rd_T30 t356 x6_3).f0), .string ((rd_T30 t356 x4_1).f0)] (by rfl) rfl rfl u13_2 ?_
  with_reducible refine (impl_SameLine.calls k3 _ _ t356 ((rd_T30 t356 x6_3).f0) ((rd_T30 t356 x4_1).f0) t375 _ ?side1 ?side2 A35.out).mono ?_
  (case side1 => exact y13_0)
  (case side2 => exact (Kd.R_reads' HO_3.out).2.1)
  rintro e w81 ⟨rfl, hb⟩
  refine ⟨_, rfl, ?_⟩
  have n0_ := am (Kd.R_below u13_1 hb)
  have n1_ := am (below_step u13_0 hb)
  clear HO_3 HB
  have HO_3 := n0_
  have HB := n1_
  clear n0_ n1_
  (try clear hb2)
  (try clear hk)
  (try clear hi)
  refine hK.out _ _ hz13_3 (fun hHeld => ?_)
  clear hb
  clear hK K
  refine norm_ (a' := ?_) ?_ ?_
  rotate_left
  ·show Act.put _ (some 101) _ = _
   simp only [Act.put, List.setIfInBounds_toArray, List.set_cons_zero, List.set_cons_succ, i64_w, i32_w]
   rfl
  refine pz 13 102 mk13_41 (any_of HT_.out (by kernel_rfl)) ?_
  refine pz 14 103 mk13_43 (any_of HT_.out (by kernel_rfl)) ?_
  refine pz 15 104 mk13_45 (any_of HT_.out (by kernel_rfl)) ?_
  refine pz 16 105 mk13_47 (any_of HT_.out (by kernel_rfl)) ?_
  refine pz 17 106 mk13_49 (any_of HT_.out (by kernel_rfl)) ?_
  refine pz 18 107 mk13_51 (any_of HT_.out (by kernel_rfl)) ?_
  refine pz 19 108 mk13_53 (any_of HT_.out (by kernel_rfl)) ?_
  refine pz 20 109 mk13_55 (any_of HT_.out (by kernel_rfl)) ?_
  refine pz 21 110 mk13_57 (any_of HT_.out (by kernel_rfl)) ?_
  refine pz 24 113 mk13_59 (any_of HT_.out (by kernel_rfl)) ?_
  refine pz 25 114 mk13_60 (any_of HT_.out (by kernel_rfl)) ?_
  refine pz 26 115 mk13_61 (any_of HT_.out (by kernel_rfl)) ?_
  refine pz 27 116 mk13_62 (any_of HT_.out (by kernel_rfl)) ?_
  refine pz 28 117 mk13_63 (any_of HT_.out (by kernel_rfl)) ?_
  refine take_ (i := 22) (N := some 111) (v := ?_) (a' := ?_) mk13_66 rfl rfl (take_ofW HT_.out HW_.out (by kernel_rfl)) (fun _ _ _ h => h) (Or.inl ⟨by rfl, ?_⟩) hHeld ?_ ?_
  rotate_left
  ·rintro w' ⟨s0, s1, s2, s3, s4, s5, s6, s7, s8, s9, s10, s11, s12, s13, s14, s15, s16, s17, s18, s19, s20, s21, s22, s23, s24, s25, s26, s27, s28, s29, s30, s31⟩
   exact gs
  rotate_left
  ·exact ap
  refine take_ (i := 29) (N := some 118) (v := ?_) (a' := ?_) mk13_67 rfl rfl (take_ofW HT_.out HW_.out (by kernel_rfl)) (fun _ _ _ h => h) (Or.inl ⟨by rfl, ?_⟩) hHeld ?_ ?_
  rotate_left
  ·rintro w' ⟨s0, s1, s2, s3, s4, s5, s6, s7, s8, s9, s10, s11, s12, s13, s14, s15, s16, s17, s18, s19, s20, s21, s22, s23, s24, s25, s26, s27, s28, s29, s30, s31⟩
   exact gs
  rotate_left
  ·exact ap
  refine one_ (i := 23) (N := some 112) mk13_80 rfl rfl (one_of HT_.out (by kernel_rfl)) u13_5 (fun K hK => ?_)
  refine goes_ Try.func30 (by kernel_rfl) rfl #[.slice (some ad359) t356.length co11, .string ((rd_T30 t356 x4_1).f0)] (by rfl) rfl rfl u13_2 ?_
  with_reducible refine (impl_PumpOf.calls k3 _ _ t356 ((rd_T30 t356 x4_1).f0) t377 _ ?side1 ?side2 A42.out).mono ?_
  (case side1 => exact y13_0)
  (case side2 => exact (Kd.R_reads' HO_3.out).2.1)
  rintro e w82 ⟨rfl, hb⟩
  refine ⟨_, rfl, ?_⟩
  have n0_ := am (Kd.R_below u13_1 hb)
  have n1_ := am (below_step u13_0 hb)
  clear HO_3 HB
  have HO_3 := n0_
  have HB := n1_
  clear n0_ n1_
  (try clear hb2)
  (try clear hk)
  (try clear hi)
  refine hK.out _ _ hz13_3 (fun hHeld => ?_)
  clear hb
  clear hK K
  refine norm_ (a' := ?_) ?_ ?_
  rotate_left
  ·show Act.put _ (some 112) _ = _
   simp only [Act.put, List.setIfInBounds_toArray, List.set_cons_zero, List.set_cons_succ, i64_w, i32_w]
   rfl
  refine one_ (i := 30) (N := some 119) mk13_82 rfl rfl (one_of HT_.out (by kernel_rfl)) u13_5 (fun K hK => ?_)
  refine goes_ Try.func30 (by kernel_rfl) rfl #[.slice (some ad359) t356.length co11, .string ((rd_T30 t356 x6_3).f0)] (by rfl) rfl rfl u13_2 ?_
  with_reducible refine (impl_PumpOf.calls k3 _ _ t356 ((rd_T30 t356 x6_3).f0) t379 _ ?side1 ?side2 A43.out).mono ?_
  (case side1 => exact y13_0)
  (case side2 => exact (Kd.R_reads' HO_3.out).2.1)
  rintro e w83 ⟨rfl, hb⟩
  refine ⟨_, rfl, ?_⟩
  have n0_ := am (Kd.R_below u13_1 hb)
  have n1_ := am (below_step u13_0 hb)
  clear HO_3 HB
  have HO_3 := n0_
  have HB := n1_
  clear n0_ n1_
  (try clear hb2)
  (try clear hk)
  (try clear hi)
  refine hK.out _ _ hz13_3 (fun hHeld => ?_)
  clear hb
  clear hK K
  refine norm_ (a' := ?_) ?_ ?_
  rotate_left
  ·show Act.put _ (some 119) _ = _
   simp only [Act.put, List.setIfInBounds_toArray, List.set_cons_zero, List.set_cons_succ, i64_w, i32_w]
   rfl
  refine pz 31 120 mk13_84 (any_of HT_.out (by kernel_rfl)) ?_
  refine pz 32 121 mk13_86 (any_of HT_.out (by kernel_rfl)) ?_
  refine pz 33 122 mk13_88 (any_of HT_.out (by kernel_rfl)) ?_
  refine pz 34 123 mk13_90 (any_of HT_.out (by kernel_rfl)) ?_
  refine pure_ (i := 35) (N := some 124) (v := undef) (a' := ?_) mk13_96 rfl rfl (any_of HT_.out (by kernel_rfl)) (fun _ _ _ h => h) (Or.inr ⟨by rfl, rfl⟩) ?_ ?_
  rotate_left
  ·exact ap
  refine pure_ (i := 36) (N := some 125) (v := undef) (a' := ?_) mk13_98 rfl rfl (any_of HT_.out (by kernel_rfl)) (fun _ _ _ h => h) (Or.inr ⟨by rfl, rfl⟩) ?_ ?_
  rotate_left
  ·exact ap
  refine pure_ (i := 37) (N := some 126) (v := undef) (a' := ?_) mk13_100 rfl rfl (any_of HT_.out (by kernel_rfl)) (fun _ _ _ h => h) (Or.inr ⟨by rfl, rfl⟩) ?_ ?_
  rotate_left
  ·exact ap
  refine pure_ (i := 38) (N := some 127) (v := undef) (a' := ?_) mk13_102 rfl rfl (any_of HT_.out (by kernel_rfl)) (fun _ _ _ h => h) (Or.inr ⟨by rfl, rfl⟩) ?_ ?_
  rotate_left
  ·exact ap
  refine pure_ (i := 39) (N := some 128) (v := undef) (a' := ?_) mk13_104 rfl rfl (any_of HT_.out (by kernel_rfl)) (fun _ _ _ h => h) (Or.inr ⟨by rfl, rfl⟩) ?_ ?_
  rotate_left
  ·exact ap
  refine pure_ (i := 40) (N := some 129) (v := undef) (a' := ?_) mk13_106 rfl rfl (any_of HT_.out (by kernel_rfl)) (fun _ _ _ h => h) (Or.inr ⟨by rfl, rfl⟩) ?_ ?_
  rotate_left
  ·exact ap
  refine pure_ (i := 41) (N := some 130) (v := undef) (a' := ?_) mk13_108 rfl rfl (any_of HT_.out (by kernel_rfl)) (fun _ _ _ h => h) (Or.inr ⟨by rfl, rfl⟩) ?_ ?_
  rotate_left
  ·exact ap
  refine pure_ (i := 42) (N := some 131) (v := undef) (a' := ?_) mk13_110 rfl rfl (any_of HT_.out (by kernel_rfl)) (fun _ _ _ h => h) (Or.inr ⟨by rfl, rfl⟩) ?_ ?_
  rotate_left
  ·exact ap
  refine pure_ (i := 43) (N := some 132) (v := undef) (a' := ?_) mk13_112 rfl rfl (any_of HT_.out (by kernel_rfl)) (fun _ _ _ h => h) (Or.inr ⟨by rfl, rfl⟩) ?_ ?_
  rotate_left
  ·exact ap
  refine pure_ (i := 44) (N := some 133) (v := undef) (a' := ?_) mk13_113 rfl rfl (any_of HT_.out (by kernel_rfl)) (fun _ _ _ h => h) (Or.inr ⟨by rfl, rfl⟩) ?_ ?_
  rotate_left
  ·exact ap
  refine pure_ (i := 45) (N := some 134) (v := undef) (a' := ?_) mk13_114 rfl rfl (any_of HT_.out (by kernel_rfl)) (fun _ _ _ h => h) (Or.inr ⟨by rfl, rfl⟩) ?_ ?_
  rotate_left
  ·exact ap
  refine pure_ (i := 46) (N := some 135) (v := undef) (a' := ?_) mk13_115 rfl rfl (any_of HT_.out (by kernel_rfl)) (fun _ _ _ h => h) (Or.inr ⟨by rfl, rfl⟩) ?_ ?_
  rotate_left
  ·exact ap
  refine pure_ (i := 47) (N := some 136) (v := undef) (a' := ?_) mk13_116 rfl rfl (any_of HT_.out (by kernel_rfl)) (fun _ _ _ h => h) (Or.inr ⟨by rfl, rfl⟩) ?_ ?_
  rotate_left
  ·exact ap
  refine pure_ (i := 48) (N := some 137) (v := undef) (a' := ?_) mk13_121 rfl rfl (any_of HT_.out (by kernel_rfl)) (fun _ _ _ h => h) (Or.inr ⟨by rfl, rfl⟩) ?_ ?_
  rotate_left
  ·exact ap
  refine pure_ (i := 49) (N := some 138) (v := undef) (a' := ?_) mk13_124 rfl rfl (any_of HT_.out (by kernel_rfl)) (fun _ _ _ h => h) (Or.inr ⟨by rfl, rfl⟩) ?_ ?_
  rotate_left
  ·exact ap
  refine pure_ (i := 50) (N := some 139) (v := undef) (a' := ?_) mk13_125 rfl rfl (any_of HT_.out (by kernel_rfl)) (fun _ _ _ h => h) (Or.inr ⟨by rfl, rfl⟩) ?_ ?_
  rotate_left
  ·exact ap
  refine pure_ (i := 51) (N := some 140) (v := undef) (a' := ?_) mk13_126 rfl rfl (any_of HT_.out (by kernel_rfl)) (fun _ _ _ h => h) (Or.inr ⟨by rfl, rfl⟩) ?_ ?_
  rotate_left
  ·exact ap
  refine pure_ (i := 52) (N := some 141) (v := undef) (a' := ?_) mk13_127 rfl rfl (any_of HT_.out (by kernel_rfl)) (fun _ _ _ h => h) (Or.inr ⟨by rfl, rfl⟩) ?_ ?_
  rotate_left
  ·exact ap
  refine pure_ (i := 53) (N := some 142) (v := undef) (a' := ?_) mk13_128 rfl rfl (any_of HT_.out (by kernel_rfl)) (fun _ _ _ h => h) (Or.inr ⟨by rfl, rfl⟩) ?_ ?_
  rotate_left
  ·exact ap
  refine pure_ (i := 54) (N := some 143) (v := undef) (a' := ?_) mk13_129 rfl rfl (any_of HT_.out (by kernel_rfl)) (fun _ _ _ h => h) (Or.inr ⟨by rfl, rfl⟩) ?_ ?_
  rotate_left
  ·exact ap
  refine pure_ (i := 55) (N := some 144) (v := undef) (a' := ?_) mk13_130 rfl rfl (any_of HT_.out (by kernel_rfl)) (fun _ _ _ h => h) (Or.inr ⟨by rfl, rfl⟩) ?_ ?_
  rotate_left
  ·exact ap
  refine pure_ (i := 56) (N := some 145) (v := undef) (a' := ?_) mk13_131 rfl rfl (any_of HT_.out (by kernel_rfl)) (fun _ _ _ h => h) (Or.inr ⟨by rfl, rfl⟩) ?_ ?_
  rotate_left
  ·exact ap
  refine pure_ (i := 57) (N := some 146) (v := undef) (a' := ?_) mk13_132 rfl rfl (any_of HT_.out (by kernel_rfl)) (fun _ _ _ h => h) (Or.inr ⟨by rfl, rfl⟩) ?_ ?_
  rotate_left
  ·exact ap
  refine pz 58 147 mk13_133 (any_of HT_.out (by kernel_rfl)) ?_
  refine done_ (done_of HT_.out (by kernel_rfl)) ?_
  try go_wp2
  go_ret
  exact ⟨by first | rfl | (simp [*] <;> rfl), s13_2⟩) : p := h
set_option maxRecDepth 100000 in
theorem lf13_6 {p : Prop} (h : p := by
  refine start_ (n := 13) (S := fun w' => zc6 w' (ad359.add ((x4_1).toNat * 8)) (rd_T30 t356 x4_1) (zc2 w' (ad359.add ((x6_3).toNat * 8)) (rd_T30 t356 x6_3))) (ds := []) mk13_2 (by kernel_rfl) rfl rfl ⟨hx370_0, hx370_1, hx370_2, hx370_3, hx370_4, hx370_5, hx370_6, hx370_7, hx371_0, hx371_1, hx371_2, hx371_3, hx371_4, hx371_5, hx371_6, hx371_7⟩ (fun hHeld => ?_); refine with_tabW laws_FnLines.tab13 laws_FnLines.bits13 (fun HT_ HW_ => ?_)
  generalize wr.drew = w86 at HO_3 HB hx370_0 hx370_1 hx370_2 hx370_3 hx370_4 hx370_5 hx370_6 hx370_7 hx371_0 hx371_1 hx371_2 hx371_3 hx371_4 hx371_5 hx371_6 hx371_7 hHeld ⊢
  refine pz 0 77 mk13_5 (any_of HT_.out (by kernel_rfl)) ?_
  refine pz 1 78 mk13_8 (any_of HT_.out (by kernel_rfl)) ?_
  refine pz 2 79 mk13_11 (any_of HT_.out (by kernel_rfl)) ?_
  refine pz 3 80 mk13_14 (any_of HT_.out (by kernel_rfl)) ?_
  refine pz 4 81 mk13_17 (any_of HT_.out (by kernel_rfl)) ?_
  refine pz 6 83 mk13_18 (any_of HT_.out (by kernel_rfl)) ?_
  refine pz 7 84 mk13_19 (any_of HT_.out (by kernel_rfl)) ?_
  refine pz 8 85 mk13_20 (any_of HT_.out (by kernel_rfl)) ?_
  refine pz 9 86 mk13_21 (any_of HT_.out (by kernel_rfl)) ?_
  refine take_ (i := 5) (N := some 82) (v := ?_) (a' := ?_) mk13_32 rfl rfl (take_ofW HT_.out HW_.out (by kernel_rfl)) (fun _ _ _ h => h) (Or.inl ⟨by rfl, ?_⟩) hHeld ?_ ?_
  rotate_left
  ·rintro w' ⟨s0, s1, s2, s3, s4, s5, s6, s7, s8, s9, s10, s11, s12, s13, s14, s15⟩
   exact gs
  rotate_left
  ·exact ap
  refine take_ (i := 10) (N := some 87) (v := ?_) (a' := ?_) mk13_35 rfl rfl (take_ofW HT_.out HW_.out (by kernel_rfl)) (fun _ _ _ h => h) (Or.inl ⟨by rfl, ?_⟩) hHeld ?_ ?_
  rotate_left
  ·rintro w' ⟨s0, s1, s2, s3, s4, s5, s6, s7, s8, s9, s10, s11, s12, s13, s14, s15⟩
   exact gs
  rotate_left
  ·exact ap
  refine one_ (i := 11) (N := some 88) mk13_38 rfl rfl (one_of HT_.out (by kernel_rfl)) u13_5 (fun K hK => ?_)
  refine goes_ Try.func27 (by kernel_rfl) rfl #[.slice (some ad359) t356.length co11, .string ((rd_T30 t356 x4_1).f0), .string ((rd_T30 t356 x6_3).f0)] (by rfl) rfl rfl u13_2 ?_
  with_reducible refine (impl_SameLine.calls k3 _ _ t356 ((rd_T30 t356 x4_1).f0) ((rd_T30 t356 x6_3).f0) false _ ?side1 ?side2 A34.out).mono ?_
  (case side1 => exact y13_0)
  (case side2 => exact (Kd.R_reads' HO_3.out).2.1)
  rintro e w87 ⟨rfl, hb⟩
  refine ⟨_, rfl, ?_⟩
  have n0_ := am (Kd.R_below u13_1 hb)
  have n1_ := am (below_step u13_0 hb)
  clear HO_3 HB
  have HO_3 := n0_
  have HB := n1_
  clear n0_ n1_
  (try clear hb2)
  (try clear hk)
  (try clear hi)
  refine hK.out _ _ hz13_0 (fun hHeld => ?_)
  clear hb
  clear hK K
  refine norm_ (a' := ?_) ?_ ?_
  rotate_left
  ·show Act.put _ (some 88) _ = _
   simp only [Act.put, List.setIfInBounds_toArray, List.set_cons_zero, List.set_cons_succ, i64_w, i32_w]
   rfl
  refine pz 12 7 mk13_135 (any_of HT_.out (by kernel_rfl)) ?_
  refine done_ (done_of HT_.out (by kernel_rfl)) ?_
  try go_wp2
  have n0_ := am (Kd.R_drew HO_3.out)
  have n1_ := am (below_drew1 HB.out)
  clear HO_3 HB
  have HO_3 := n0_
  have HB := n1_
  clear n0_ n1_
  have p373 : 0 ≤ (x6_3 : Int) := od u13_3
  have q373 : x6_3 < (t356.length : Int) := od u13_3
  obtain ⟨ad373, e373, hx373_0, hx373_1, hx373_2, hx373_3, hx373_4, hx373_5, hx373_6, hx373_7⟩ := at_T30 (Kd.R_reads' HO_3.out).2.2 x6_3 p373 q373
  obtain rfl : ad359 = ad373 := (by injection e373)
  replace p373 := eq_true p373
  replace q373 := eq_true q373
  have p374 : 0 ≤ (x4_1 : Int) := od u13_3
  have q374 : x4_1 < (t356.length : Int) := od u13_3
  obtain ⟨ad374, e374, hx374_0, hx374_1, hx374_2, hx374_3, hx374_4, hx374_5, hx374_6, hx374_7⟩ := at_T30 (Kd.R_reads' HO_3.out).2.2 x4_1 p374 q374
  obtain rfl : ad359 = ad374 := (by injection e374)
  replace p374 := eq_true p374
  replace q374 := eq_true q374
  have p387 : 0 ≤ (x4_1 : Int) := od u13_3
  have q387 : x4_1 < (t356.length : Int) := od u13_3
  obtain ⟨ad387, e387, hx387_0, hx387_1, hx387_2, hx387_3, hx387_4, hx387_5, hx387_6, hx387_7⟩ := at_T30 (Kd.R_reads' HO_3.out).2.2 x4_1 p387 q387
  obtain rfl : ad359 = ad387 := (by injection e387)
  replace p387 := eq_true p387
  replace q387 := eq_true q387
  refine start_ (n := 59) (S := fun w' => zc6 w' (ad359.add ((x6_3).toNat * 8)) (rd_T30 t356 x6_3) (zc6 w' (ad359.add ((x4_1).toNat * 8)) (rd_T30 t356 x4_1) (zc2 w' (ad359.add ((x4_1).toNat * 8)) (rd_T30 t356 x4_1)))) (ds := []) mk13_0 (by kernel_rfl) rfl rfl ⟨hx373_0, hx373_1, hx373_2, hx373_3, hx373_4, hx373_5, hx373_6, hx373_7, hx374_0, hx374_1, hx374_2, hx374_3, hx374_4, hx374_5, hx374_6, hx374_7, hx387_0, hx387_1, hx387_2, hx387_3, hx387_4, hx387_5, hx387_6, hx387_7⟩ (fun hHeld => ?_); refine with_tabW laws_FnLines.tab14 laws_FnLines.bits14 (fun HT_ HW_ => ?_)
  generalize w87.drew = w88 at HO_3 HB hx373_0 hx373_1 hx373_2 hx373_3 hx373_4 hx373_5 hx373_6 hx373_7 hx374_0 hx374_1 hx374_2 hx374_3 hx374_4 hx374_5 hx374_6 hx374_7 hx387_0 hx387_1 hx387_2 hx387_3 hx387_4 hx387_5 hx387_6 hx387_7 hHeld ⊢
  refine pz 0 89 mk13_3 (any_of HT_.out (by kernel_rfl)) ?_
  refine pz 1 90 mk13_6 (any_of HT_.out (by kernel_rfl)) ?_
  refine pz 2 91 mk13_9 (any_of HT_.out (by kernel_rfl)) ?_
  refine pz 3 92 mk13_12 (any_of HT_.out (by kernel_rfl)) ?_
  refine pz 4 93 mk13_15 (any_of HT_.out (by kernel_rfl)) ?_
  refine pz 5 94 mk13_22 (any_of HT_.out (by kernel_rfl)) ?_
  refine pz 7 96 mk13_24 (any_of HT_.out (by kernel_rfl)) ?_
  refine pz 8 97 mk13_25 (any_of HT_.out (by kernel_rfl)) ?_
  refine pz 9 98 mk13_26 (any_of HT_.out (by kernel_rfl)) ?_
  refine pz 10 99 mk13_27 (any_of HT_.out (by kernel_rfl)) ?_
  refine take_ (i := 6) (N := some 95) (v := ?_) (a' := ?_) mk13_33 rfl rfl (take_ofW HT_.out HW_.out (by kernel_rfl)) (fun _ _ _ h => h) (Or.inl ⟨by rfl, ?_⟩) hHeld ?_ ?_
  rotate_left
  ·rintro w' ⟨s0, s1, s2, s3, s4, s5, s6, s7, s8, s9, s10, s11, s12, s13, s14, s15, s16, s17, s18, s19, s20, s21, s22, s23⟩
   exact gs
  rotate_left
  ·exact ap
  refine take_ (i := 11) (N := some 100) (v := ?_) (a' := ?_) mk13_36 rfl rfl (take_ofW HT_.out HW_.out (by kernel_rfl)) (fun _ _ _ h => h) (Or.inl ⟨by rfl, ?_⟩) hHeld ?_ ?_
  rotate_left
  ·rintro w' ⟨s0, s1, s2, s3, s4, s5, s6, s7, s8, s9, s10, s11, s12, s13, s14, s15, s16, s17, s18, s19, s20, s21, s22, s23⟩
   exact gs
  rotate_left
  ·exact ap
  refine one_ (i := 12) (N := some 101) mk13_39 rfl rfl (one_of HT_.out (by kernel_rfl)) u13_5 (fun K hK => ?_)
  refine goes_ Try.func27 (by kernel_rfl) rfl #[.slice (some ad359) t356.length co11, .string ((rd_T30 t356 x6_3).f0), .string ((rd_T30 t356 x4_1).f0)] (by rfl) rfl rfl u13_2 ?_
  with_reducible refine (impl_SameLine.calls k3 _ _ t356 ((rd_T30 t356 x6_3).f0) ((rd_T30 t356 x4_1).f0) t375 _ ?side1 ?side2 A35.out).mono ?_
  (case side1 => exact y13_0)
  (case side2 => exact (Kd.R_reads' HO_3.out).2.1)
  rintro e w89 ⟨rfl, hb⟩
  refine ⟨_, rfl, ?_⟩
  have n0_ := am (Kd.R_below u13_1 hb)
  have n1_ := am (below_step u13_0 hb)
  clear HO_3 HB
  have HO_3 := n0_
  have HB := n1_
  clear n0_ n1_
  (try clear hb2)
  (try clear hk)
  (try clear hi)
  refine hK.out _ _ hz13_4 (fun hHeld => ?_)
  clear hb
  clear hK K
  refine norm_ (a' := ?_) ?_ ?_
  rotate_left
  ·show Act.put _ (some 101) _ = _
   simp only [Act.put, List.setIfInBounds_toArray, List.set_cons_zero, List.set_cons_succ, i64_w, i32_w]
   rfl
  refine pz 13 102 mk13_41 (any_of HT_.out (by kernel_rfl)) ?_
  refine pz 14 103 mk13_43 (any_of HT_.out (by kernel_rfl)) ?_
  refine pz 15 104 mk13_45 (any_of HT_.out (by kernel_rfl)) ?_
  refine pz 16 105 mk13_47 (any_of HT_.out (by kernel_rfl)) ?_
  refine pure_ (i := 17) (N := some 106) (v := undef) (a' := ?_) mk13_49 rfl rfl (any_of HT_.out (by kernel_rfl)) (fun _ _ _ h => h) (Or.inr ⟨by rfl, rfl⟩) ?_ ?_
  rotate_left
  ·exact ap
  refine pure_ (i := 18) (N := some 107) (v := undef) (a' := ?_) mk13_51 rfl rfl (any_of HT_.out (by kernel_rfl)) (fun _ _ _ h => h) (Or.inr ⟨by rfl, rfl⟩) ?_ ?_
  rotate_left
  ·exact ap
  refine pure_ (i := 19) (N := some 108) (v := undef) (a' := ?_) mk13_53 rfl rfl (any_of HT_.out (by kernel_rfl)) (fun _ _ _ h => h) (Or.inr ⟨by rfl, rfl⟩) ?_ ?_
  rotate_left
  ·exact ap
  refine pure_ (i := 20) (N := some 109) (v := undef) (a' := ?_) mk13_55 rfl rfl (any_of HT_.out (by kernel_rfl)) (fun _ _ _ h => h) (Or.inr ⟨by rfl, rfl⟩) ?_ ?_
  rotate_left
  ·exact ap
  refine pure_ (i := 21) (N := some 110) (v := undef) (a' := ?_) mk13_57 rfl rfl (any_of HT_.out (by kernel_rfl)) (fun _ _ _ h => h) (Or.inr ⟨by rfl, rfl⟩) ?_ ?_
  rotate_left
  ·exact ap
  refine pure_ (i := 22) (N := some 111) (v := undef) (a' := ?_) mk13_64 rfl rfl (any_of HT_.out (by kernel_rfl)) (fun _ _ _ h => h) (Or.inr ⟨by rfl, rfl⟩) ?_ ?_
  rotate_left
  ·exact ap
  refine pure_ (i := 23) (N := some 112) (v := undef) (a' := ?_) mk13_68 rfl rfl (any_of HT_.out (by kernel_rfl)) (fun _ _ _ h => h) (Or.inr ⟨by rfl, rfl⟩) ?_ ?_
  rotate_left
  ·exact ap
  refine pure_ (i := 24) (N := some 113) (v := undef) (a' := ?_) mk13_70 rfl rfl (any_of HT_.out (by kernel_rfl)) (fun _ _ _ h => h) (Or.inr ⟨by rfl, rfl⟩) ?_ ?_
  rotate_left
  ·exact ap
  refine pure_ (i := 25) (N := some 114) (v := undef) (a' := ?_) mk13_72 rfl rfl (any_of HT_.out (by kernel_rfl)) (fun _ _ _ h => h) (Or.inr ⟨by rfl, rfl⟩) ?_ ?_
  rotate_left
  ·exact ap
  refine pure_ (i := 26) (N := some 115) (v := undef) (a' := ?_) mk13_74 rfl rfl (any_of HT_.out (by kernel_rfl)) (fun _ _ _ h => h) (Or.inr ⟨by rfl, rfl⟩) ?_ ?_
  rotate_left
  ·exact ap
  refine pure_ (i := 27) (N := some 116) (v := undef) (a' := ?_) mk13_76 rfl rfl (any_of HT_.out (by kernel_rfl)) (fun _ _ _ h => h) (Or.inr ⟨by rfl, rfl⟩) ?_ ?_
  rotate_left
  ·exact ap
  refine pure_ (i := 28) (N := some 117) (v := undef) (a' := ?_) mk13_78 rfl rfl (any_of HT_.out (by kernel_rfl)) (fun _ _ _ h => h) (Or.inr ⟨by rfl, rfl⟩) ?_ ?_
  rotate_left
  ·exact ap
  refine pure_ (i := 29) (N := some 118) (v := undef) (a' := ?_) mk13_80 rfl rfl (any_of HT_.out (by kernel_rfl)) (fun _ _ _ h => h) (Or.inr ⟨by rfl, rfl⟩) ?_ ?_
  rotate_left
  ·exact ap
  refine pure_ (i := 30) (N := some 119) (v := undef) (a' := ?_) mk13_82 rfl rfl (any_of HT_.out (by kernel_rfl)) (fun _ _ _ h => h) (Or.inr ⟨by rfl, rfl⟩) ?_ ?_
  rotate_left
  ·exact ap
  refine pure_ (i := 31) (N := some 120) (v := undef) (a' := ?_) mk13_84 rfl rfl (any_of HT_.out (by kernel_rfl)) (fun _ _ _ h => h) (Or.inr ⟨by rfl, rfl⟩) ?_ ?_
  rotate_left
  ·exact ap
  refine pz 32 121 mk13_86 (any_of HT_.out (by kernel_rfl)) ?_
  refine pz 33 122 mk13_88 (any_of HT_.out (by kernel_rfl)) ?_
  refine pz 34 123 mk13_90 (any_of HT_.out (by kernel_rfl)) ?_
  refine pz 35 124 mk13_96 (any_of HT_.out (by kernel_rfl)) ?_
  refine pz 36 125 mk13_98 (any_of HT_.out (by kernel_rfl)) ?_
  refine pz 37 126 mk13_100 (any_of HT_.out (by kernel_rfl)) ?_
  refine pz 38 127 mk13_102 (any_of HT_.out (by kernel_rfl)) ?_
  refine pz 39 128 mk13_104 (any_of HT_.out (by kernel_rfl)) ?_
  refine take_ (i := 40) (N := some 129) (v := ?_) (a' := ?_) mk13_106 rfl rfl (take_ofW HT_.out HW_.out (by kernel_rfl)) (fun _ _ _ h => h) (Or.inl ⟨by rfl, ?_⟩) hHeld ?_ ?_
  rotate_left
  ·rintro w' ⟨s0, s1, s2, s3, s4, s5, s6, s7, s8, s9, s10, s11, s12, s13, s14, s15, s16, s17, s18, s19, s20, s21, s22, s23⟩
   exact gs
  rotate_left
  ·exact ap
  refine pz 41 130 mk13_108 (any_of HT_.out (by kernel_rfl)) ?_
  refine pz 42 131 mk13_110 (any_of HT_.out (by kernel_rfl)) ?_
  refine pure_ (i := 43) (N := some 132) (v := undef) (a' := ?_) mk13_112 rfl rfl (any_of HT_.out (by kernel_rfl)) (fun _ _ _ h => h) (Or.inr ⟨by rfl, rfl⟩) ?_ ?_
  rotate_left
  ·exact ap
  refine pure_ (i := 44) (N := some 133) (v := undef) (a' := ?_) mk13_113 rfl rfl (any_of HT_.out (by kernel_rfl)) (fun _ _ _ h => h) (Or.inr ⟨by rfl, rfl⟩) ?_ ?_
  rotate_left
  ·exact ap
  refine pure_ (i := 45) (N := some 134) (v := undef) (a' := ?_) mk13_114 rfl rfl (any_of HT_.out (by kernel_rfl)) (fun _ _ _ h => h) (Or.inr ⟨by rfl, rfl⟩) ?_ ?_
  rotate_left
  ·exact ap
  refine pure_ (i := 46) (N := some 135) (v := undef) (a' := ?_) mk13_115 rfl rfl (any_of HT_.out (by kernel_rfl)) (fun _ _ _ h => h) (Or.inr ⟨by rfl, rfl⟩) ?_ ?_
  rotate_left
  ·exact ap
  refine pure_ (i := 47) (N := some 136) (v := undef) (a' := ?_) mk13_116 rfl rfl (any_of HT_.out (by kernel_rfl)) (fun _ _ _ h => h) (Or.inr ⟨by rfl, rfl⟩) ?_ ?_
  rotate_left
  ·exact ap
  refine pure_ (i := 48) (N := some 137) (v := undef) (a' := ?_) mk13_121 rfl rfl (any_of HT_.out (by kernel_rfl)) (fun _ _ _ h => h) (Or.inr ⟨by rfl, rfl⟩) ?_ ?_
  rotate_left
  ·exact ap
  refine pure_ (i := 49) (N := some 138) (v := undef) (a' := ?_) mk13_124 rfl rfl (any_of HT_.out (by kernel_rfl)) (fun _ _ _ h => h) (Or.inr ⟨by rfl, rfl⟩) ?_ ?_
  rotate_left
  ·exact ap
  refine pure_ (i := 50) (N := some 139) (v := undef) (a' := ?_) mk13_125 rfl rfl (any_of HT_.out (by kernel_rfl)) (fun _ _ _ h => h) (Or.inr ⟨by rfl, rfl⟩) ?_ ?_
  rotate_left
  ·exact ap
  refine pure_ (i := 51) (N := some 140) (v := undef) (a' := ?_) mk13_126 rfl rfl (any_of HT_.out (by kernel_rfl)) (fun _ _ _ h => h) (Or.inr ⟨by rfl, rfl⟩) ?_ ?_
  rotate_left
  ·exact ap
  refine pure_ (i := 52) (N := some 141) (v := undef) (a' := ?_) mk13_127 rfl rfl (any_of HT_.out (by kernel_rfl)) (fun _ _ _ h => h) (Or.inr ⟨by rfl, rfl⟩) ?_ ?_
  rotate_left
  ·exact ap
  refine pure_ (i := 53) (N := some 142) (v := undef) (a' := ?_) mk13_128 rfl rfl (any_of HT_.out (by kernel_rfl)) (fun _ _ _ h => h) (Or.inr ⟨by rfl, rfl⟩) ?_ ?_
  rotate_left
  ·exact ap
  refine pure_ (i := 54) (N := some 143) (v := undef) (a' := ?_) mk13_129 rfl rfl (any_of HT_.out (by kernel_rfl)) (fun _ _ _ h => h) (Or.inr ⟨by rfl, rfl⟩) ?_ ?_
  rotate_left
  ·exact ap
  refine pure_ (i := 55) (N := some 144) (v := undef) (a' := ?_) mk13_130 rfl rfl (any_of HT_.out (by kernel_rfl)) (fun _ _ _ h => h) (Or.inr ⟨by rfl, rfl⟩) ?_ ?_
  rotate_left
  ·exact ap
  refine pz 56 145 mk13_131 (any_of HT_.out (by kernel_rfl)) ?_
  refine pz 57 146 mk13_132 (any_of HT_.out (by kernel_rfl)) ?_
  refine pz 58 147 mk13_133 (any_of HT_.out (by kernel_rfl)) ?_
  refine done_ (done_of HT_.out (by kernel_rfl)) ?_
  try go_wp2
  go_ret
  exact ⟨by first | rfl | (simp [*] <;> rfl), s13_2⟩) : p := h
set_option maxRecDepth 100000 in
theorem lf13_7 {p : Prop} (h : p := by
  refine start_ (n := 13) (S := fun w' => zc6 w' (ad359.add ((x4_1).toNat * 8)) (rd_T30 t356 x4_1) (zc2 w' (ad359.add ((x6_3).toNat * 8)) (rd_T30 t356 x6_3))) (ds := []) mk13_2 (by kernel_rfl) rfl rfl ⟨hx370_0, hx370_1, hx370_2, hx370_3, hx370_4, hx370_5, hx370_6, hx370_7, hx371_0, hx371_1, hx371_2, hx371_3, hx371_4, hx371_5, hx371_6, hx371_7⟩ (fun hHeld => ?_); refine with_tabW laws_FnLines.tab13 laws_FnLines.bits13 (fun HT_ HW_ => ?_)
  generalize wr.drew = w90 at HO_3 HB hx370_0 hx370_1 hx370_2 hx370_3 hx370_4 hx370_5 hx370_6 hx370_7 hx371_0 hx371_1 hx371_2 hx371_3 hx371_4 hx371_5 hx371_6 hx371_7 hHeld ⊢
  refine pz 0 77 mk13_5 (any_of HT_.out (by kernel_rfl)) ?_
  refine pz 1 78 mk13_8 (any_of HT_.out (by kernel_rfl)) ?_
  refine pz 2 79 mk13_11 (any_of HT_.out (by kernel_rfl)) ?_
  refine pz 3 80 mk13_14 (any_of HT_.out (by kernel_rfl)) ?_
  refine pz 4 81 mk13_17 (any_of HT_.out (by kernel_rfl)) ?_
  refine pz 6 83 mk13_18 (any_of HT_.out (by kernel_rfl)) ?_
  refine pz 7 84 mk13_19 (any_of HT_.out (by kernel_rfl)) ?_
  refine pz 8 85 mk13_20 (any_of HT_.out (by kernel_rfl)) ?_
  refine pz 9 86 mk13_21 (any_of HT_.out (by kernel_rfl)) ?_
  refine take_ (i := 5) (N := some 82) (v := ?_) (a' := ?_) mk13_32 rfl rfl (take_ofW HT_.out HW_.out (by kernel_rfl)) (fun _ _ _ h => h) (Or.inl ⟨by rfl, ?_⟩) hHeld ?_ ?_
  rotate_left
  ·rintro w' ⟨s0, s1, s2, s3, s4, s5, s6, s7, s8, s9, s10, s11, s12, s13, s14, s15⟩
   exact gs
  rotate_left
  ·exact ap
  refine take_ (i := 10) (N := some 87) (v := ?_) (a' := ?_) mk13_35 rfl rfl (take_ofW HT_.out HW_.out (by kernel_rfl)) (fun _ _ _ h => h) (Or.inl ⟨by rfl, ?_⟩) hHeld ?_ ?_
  rotate_left
  ·rintro w' ⟨s0, s1, s2, s3, s4, s5, s6, s7, s8, s9, s10, s11, s12, s13, s14, s15⟩
   exact gs
  rotate_left
  ·exact ap
  refine one_ (i := 11) (N := some 88) mk13_38 rfl rfl (one_of HT_.out (by kernel_rfl)) u13_5 (fun K hK => ?_)
  refine goes_ Try.func27 (by kernel_rfl) rfl #[.slice (some ad359) t356.length co11, .string ((rd_T30 t356 x4_1).f0), .string ((rd_T30 t356 x6_3).f0)] (by rfl) rfl rfl u13_2 ?_
  with_reducible refine (impl_SameLine.calls k3 _ _ t356 ((rd_T30 t356 x4_1).f0) ((rd_T30 t356 x6_3).f0) false _ ?side1 ?side2 A34.out).mono ?_
  (case side1 => exact y13_0)
  (case side2 => exact (Kd.R_reads' HO_3.out).2.1)
  rintro e w91 ⟨rfl, hb⟩
  refine ⟨_, rfl, ?_⟩
  have n0_ := am (Kd.R_below u13_1 hb)
  have n1_ := am (below_step u13_0 hb)
  clear HO_3 HB
  have HO_3 := n0_
  have HB := n1_
  clear n0_ n1_
  (try clear hb2)
  (try clear hk)
  (try clear hi)
  refine hK.out _ _ hz13_0 (fun hHeld => ?_)
  clear hb
  clear hK K
  refine norm_ (a' := ?_) ?_ ?_
  rotate_left
  ·show Act.put _ (some 88) _ = _
   simp only [Act.put, List.setIfInBounds_toArray, List.set_cons_zero, List.set_cons_succ, i64_w, i32_w]
   rfl
  refine pz 12 7 mk13_135 (any_of HT_.out (by kernel_rfl)) ?_
  refine done_ (done_of HT_.out (by kernel_rfl)) ?_
  try go_wp2
  have n0_ := am (Kd.R_drew HO_3.out)
  have n1_ := am (below_drew1 HB.out)
  clear HO_3 HB
  have HO_3 := n0_
  have HB := n1_
  clear n0_ n1_
  have p373 : 0 ≤ (x6_3 : Int) := od u13_3
  have q373 : x6_3 < (t356.length : Int) := od u13_3
  obtain ⟨ad373, e373, hx373_0, hx373_1, hx373_2, hx373_3, hx373_4, hx373_5, hx373_6, hx373_7⟩ := at_T30 (Kd.R_reads' HO_3.out).2.2 x6_3 p373 q373
  obtain rfl : ad359 = ad373 := (by injection e373)
  replace p373 := eq_true p373
  replace q373 := eq_true q373
  have p374 : 0 ≤ (x4_1 : Int) := od u13_3
  have q374 : x4_1 < (t356.length : Int) := od u13_3
  obtain ⟨ad374, e374, hx374_0, hx374_1, hx374_2, hx374_3, hx374_4, hx374_5, hx374_6, hx374_7⟩ := at_T30 (Kd.R_reads' HO_3.out).2.2 x4_1 p374 q374
  obtain rfl : ad359 = ad374 := (by injection e374)
  replace p374 := eq_true p374
  replace q374 := eq_true q374
  have p387 : 0 ≤ (x4_1 : Int) := od u13_3
  have q387 : x4_1 < (t356.length : Int) := od u13_3
  obtain ⟨ad387, e387, hx387_0, hx387_1, hx387_2, hx387_3, hx387_4, hx387_5, hx387_6, hx387_7⟩ := at_T30 (Kd.R_reads' HO_3.out).2.2 x4_1 p387 q387
  obtain rfl : ad359 = ad387 := (by injection e387)
  replace p387 := eq_true p387
  replace q387 := eq_true q387
  refine start_ (n := 59) (S := fun w' => zc6 w' (ad359.add ((x6_3).toNat * 8)) (rd_T30 t356 x6_3) (zc6 w' (ad359.add ((x4_1).toNat * 8)) (rd_T30 t356 x4_1) (zc2 w' (ad359.add ((x4_1).toNat * 8)) (rd_T30 t356 x4_1)))) (ds := []) mk13_0 (by kernel_rfl) rfl rfl ⟨hx373_0, hx373_1, hx373_2, hx373_3, hx373_4, hx373_5, hx373_6, hx373_7, hx374_0, hx374_1, hx374_2, hx374_3, hx374_4, hx374_5, hx374_6, hx374_7, hx387_0, hx387_1, hx387_2, hx387_3, hx387_4, hx387_5, hx387_6, hx387_7⟩ (fun hHeld => ?_); refine with_tabW laws_FnLines.tab14 laws_FnLines.bits14 (fun HT_ HW_ => ?_)
  generalize w91.drew = w92 at HO_3 HB hx373_0 hx373_1 hx373_2 hx373_3 hx373_4 hx373_5 hx373_6 hx373_7 hx374_0 hx374_1 hx374_2 hx374_3 hx374_4 hx374_5 hx374_6 hx374_7 hx387_0 hx387_1 hx387_2 hx387_3 hx387_4 hx387_5 hx387_6 hx387_7 hHeld ⊢
  refine pz 0 89 mk13_3 (any_of HT_.out (by kernel_rfl)) ?_
  refine pz 1 90 mk13_6 (any_of HT_.out (by kernel_rfl)) ?_
  refine pz 2 91 mk13_9 (any_of HT_.out (by kernel_rfl)) ?_
  refine pz 3 92 mk13_12 (any_of HT_.out (by kernel_rfl)) ?_
  refine pz 4 93 mk13_15 (any_of HT_.out (by kernel_rfl)) ?_
  refine pz 5 94 mk13_22 (any_of HT_.out (by kernel_rfl)) ?_
  refine pz 7 96 mk13_24 (any_of HT_.out (by kernel_rfl)) ?_
  refine pz 8 97 mk13_25 (any_of HT_.out (by kernel_rfl)) ?_
  refine pz 9 98 mk13_26 (any_of HT_.out (by kernel_rfl)) ?_
  refine pz 10 99 mk13_27 (any_of HT_.out (by kernel_rfl)) ?_
  refine take_ (i := 6) (N := some 95) (v := ?_) (a' := ?_) mk13_33 rfl rfl (take_ofW HT_.out HW_.out (by kernel_rfl)) (fun _ _ _ h => h) (Or.inl ⟨by rfl, ?_⟩) hHeld ?_ ?_
  rotate_left
  ·rintro w' ⟨s0, s1, s2, s3, s4, s5, s6, s7, s8, s9, s10, s11, s12, s13, s14, s15, s16, s17, s18, s19, s20, s21, s22, s23⟩
   exact gs
  rotate_left
  ·exact ap
  refine take_ (i := 11) (N := some 100) (v := ?_) (a' := ?_) mk13_36 rfl rfl (take_ofW HT_.out HW_.out (by kernel_rfl)) (fun _ _ _ h => h) (Or.inl ⟨by rfl, ?_⟩) hHeld ?_ ?_
  rotate_left
  ·rintro w' ⟨s0, s1, s2, s3, s4, s5, s6, s7, s8, s9, s10, s11, s12, s13, s14, s15, s16, s17, s18, s19, s20, s21, s22, s23⟩
   exact gs
  rotate_left
  ·exact ap
  refine one_ (i := 12) (N := some 101) mk13_39 rfl rfl (one_of HT_.out (by kernel_rfl)) u13_5 (fun K hK => ?_)
  refine goes_ Try.func27 (by kernel_rfl) rfl #[.slice (some ad359) t356.length co11, .string ((rd_T30 t356 x6_3).f0), .string ((rd_T30 t356 x4_1).f0)] (by rfl) rfl rfl u13_2 ?_
  with_reducible refine (impl_SameLine.calls k3 _ _ t356 ((rd_T30 t356 x6_3).f0) ((rd_T30 t356 x4_1).f0) t375 _ ?side1 ?side2 A35.out).mono ?_
  (case side1 => exact y13_0)
  (case side2 => exact (Kd.R_reads' HO_3.out).2.1)
  rintro e w93 ⟨rfl, hb⟩
  refine ⟨_, rfl, ?_⟩
  have n0_ := am (Kd.R_below u13_1 hb)
  have n1_ := am (below_step u13_0 hb)
  clear HO_3 HB
  have HO_3 := n0_
  have HB := n1_
  clear n0_ n1_
  (try clear hb2)
  (try clear hk)
  (try clear hi)
  refine hK.out _ _ hz13_4 (fun hHeld => ?_)
  clear hb
  clear hK K
  refine norm_ (a' := ?_) ?_ ?_
  rotate_left
  ·show Act.put _ (some 101) _ = _
   simp only [Act.put, List.setIfInBounds_toArray, List.set_cons_zero, List.set_cons_succ, i64_w, i32_w]
   rfl
  refine pz 13 102 mk13_41 (any_of HT_.out (by kernel_rfl)) ?_
  refine pz 14 103 mk13_43 (any_of HT_.out (by kernel_rfl)) ?_
  refine pz 15 104 mk13_45 (any_of HT_.out (by kernel_rfl)) ?_
  refine pz 16 105 mk13_47 (any_of HT_.out (by kernel_rfl)) ?_
  refine pure_ (i := 17) (N := some 106) (v := undef) (a' := ?_) mk13_49 rfl rfl (any_of HT_.out (by kernel_rfl)) (fun _ _ _ h => h) (Or.inr ⟨by rfl, rfl⟩) ?_ ?_
  rotate_left
  ·exact ap
  refine pure_ (i := 18) (N := some 107) (v := undef) (a' := ?_) mk13_51 rfl rfl (any_of HT_.out (by kernel_rfl)) (fun _ _ _ h => h) (Or.inr ⟨by rfl, rfl⟩) ?_ ?_
  rotate_left
  ·exact ap
  refine pure_ (i := 19) (N := some 108) (v := undef) (a' := ?_) mk13_53 rfl rfl (any_of HT_.out (by kernel_rfl)) (fun _ _ _ h => h) (Or.inr ⟨by rfl, rfl⟩) ?_ ?_
  rotate_left
  ·exact ap
  refine pure_ (i := 20) (N := some 109) (v := undef) (a' := ?_) mk13_55 rfl rfl (any_of HT_.out (by kernel_rfl)) (fun _ _ _ h => h) (Or.inr ⟨by rfl, rfl⟩) ?_ ?_
  rotate_left
  ·exact ap
  refine pure_ (i := 21) (N := some 110) (v := undef) (a' := ?_) mk13_57 rfl rfl (any_of HT_.out (by kernel_rfl)) (fun _ _ _ h => h) (Or.inr ⟨by rfl, rfl⟩) ?_ ?_
  rotate_left
  ·exact ap
  refine pure_ (i := 22) (N := some 111) (v := undef) (a' := ?_) mk13_64 rfl rfl (any_of HT_.out (by kernel_rfl)) (fun _ _ _ h => h) (Or.inr ⟨by rfl, rfl⟩) ?_ ?_
  rotate_left
  ·exact ap
  refine pure_ (i := 23) (N := some 112) (v := undef) (a' := ?_) mk13_68 rfl rfl (any_of HT_.out (by kernel_rfl)) (fun _ _ _ h => h) (Or.inr ⟨by rfl, rfl⟩) ?_ ?_
  rotate_left
  ·exact ap
  refine pure_ (i := 24) (N := some 113) (v := undef) (a' := ?_) mk13_70 rfl rfl (any_of HT_.out (by kernel_rfl)) (fun _ _ _ h => h) (Or.inr ⟨by rfl, rfl⟩) ?_ ?_
  rotate_left
  ·exact ap
  refine pure_ (i := 25) (N := some 114) (v := undef) (a' := ?_) mk13_72 rfl rfl (any_of HT_.out (by kernel_rfl)) (fun _ _ _ h => h) (Or.inr ⟨by rfl, rfl⟩) ?_ ?_
  rotate_left
  ·exact ap
  refine pure_ (i := 26) (N := some 115) (v := undef) (a' := ?_) mk13_74 rfl rfl (any_of HT_.out (by kernel_rfl)) (fun _ _ _ h => h) (Or.inr ⟨by rfl, rfl⟩) ?_ ?_
  rotate_left
  ·exact ap
  refine pure_ (i := 27) (N := some 116) (v := undef) (a' := ?_) mk13_76 rfl rfl (any_of HT_.out (by kernel_rfl)) (fun _ _ _ h => h) (Or.inr ⟨by rfl, rfl⟩) ?_ ?_
  rotate_left
  ·exact ap
  refine pure_ (i := 28) (N := some 117) (v := undef) (a' := ?_) mk13_78 rfl rfl (any_of HT_.out (by kernel_rfl)) (fun _ _ _ h => h) (Or.inr ⟨by rfl, rfl⟩) ?_ ?_
  rotate_left
  ·exact ap
  refine pure_ (i := 29) (N := some 118) (v := undef) (a' := ?_) mk13_80 rfl rfl (any_of HT_.out (by kernel_rfl)) (fun _ _ _ h => h) (Or.inr ⟨by rfl, rfl⟩) ?_ ?_
  rotate_left
  ·exact ap
  refine pure_ (i := 30) (N := some 119) (v := undef) (a' := ?_) mk13_82 rfl rfl (any_of HT_.out (by kernel_rfl)) (fun _ _ _ h => h) (Or.inr ⟨by rfl, rfl⟩) ?_ ?_
  rotate_left
  ·exact ap
  refine pure_ (i := 31) (N := some 120) (v := undef) (a' := ?_) mk13_84 rfl rfl (any_of HT_.out (by kernel_rfl)) (fun _ _ _ h => h) (Or.inr ⟨by rfl, rfl⟩) ?_ ?_
  rotate_left
  ·exact ap
  refine pz 32 121 mk13_86 (any_of HT_.out (by kernel_rfl)) ?_
  refine pz 33 122 mk13_88 (any_of HT_.out (by kernel_rfl)) ?_
  refine pz 34 123 mk13_90 (any_of HT_.out (by kernel_rfl)) ?_
  refine pz 35 124 mk13_96 (any_of HT_.out (by kernel_rfl)) ?_
  refine pz 36 125 mk13_98 (any_of HT_.out (by kernel_rfl)) ?_
  refine pz 37 126 mk13_100 (any_of HT_.out (by kernel_rfl)) ?_
  refine pz 38 127 mk13_102 (any_of HT_.out (by kernel_rfl)) ?_
  refine pz 39 128 mk13_104 (any_of HT_.out (by kernel_rfl)) ?_
  refine take_ (i := 40) (N := some 129) (v := ?_) (a' := ?_) mk13_106 rfl rfl (take_ofW HT_.out HW_.out (by kernel_rfl)) (fun _ _ _ h => h) (Or.inl ⟨by rfl, ?_⟩) hHeld ?_ ?_
  rotate_left
  ·rintro w' ⟨s0, s1, s2, s3, s4, s5, s6, s7, s8, s9, s10, s11, s12, s13, s14, s15, s16, s17, s18, s19, s20, s21, s22, s23⟩
   exact gs
  rotate_left
  ·exact ap
  refine pz 41 130 mk13_108 (any_of HT_.out (by kernel_rfl)) ?_
  refine pz 42 131 mk13_110 (any_of HT_.out (by kernel_rfl)) ?_
  refine pure_ (i := 43) (N := some 132) (v := undef) (a' := ?_) mk13_112 rfl rfl (any_of HT_.out (by kernel_rfl)) (fun _ _ _ h => h) (Or.inr ⟨by rfl, rfl⟩) ?_ ?_
  rotate_left
  ·exact ap
  refine pure_ (i := 44) (N := some 133) (v := undef) (a' := ?_) mk13_113 rfl rfl (any_of HT_.out (by kernel_rfl)) (fun _ _ _ h => h) (Or.inr ⟨by rfl, rfl⟩) ?_ ?_
  rotate_left
  ·exact ap
  refine pure_ (i := 45) (N := some 134) (v := undef) (a' := ?_) mk13_114 rfl rfl (any_of HT_.out (by kernel_rfl)) (fun _ _ _ h => h) (Or.inr ⟨by rfl, rfl⟩) ?_ ?_
  rotate_left
  ·exact ap
  refine pure_ (i := 46) (N := some 135) (v := undef) (a' := ?_) mk13_115 rfl rfl (any_of HT_.out (by kernel_rfl)) (fun _ _ _ h => h) (Or.inr ⟨by rfl, rfl⟩) ?_ ?_
  rotate_left
  ·exact ap
  refine pure_ (i := 47) (N := some 136) (v := undef) (a' := ?_) mk13_116 rfl rfl (any_of HT_.out (by kernel_rfl)) (fun _ _ _ h => h) (Or.inr ⟨by rfl, rfl⟩) ?_ ?_
  rotate_left
  ·exact ap
  refine pure_ (i := 48) (N := some 137) (v := undef) (a' := ?_) mk13_121 rfl rfl (any_of HT_.out (by kernel_rfl)) (fun _ _ _ h => h) (Or.inr ⟨by rfl, rfl⟩) ?_ ?_
  rotate_left
  ·exact ap
  refine pure_ (i := 49) (N := some 138) (v := undef) (a' := ?_) mk13_124 rfl rfl (any_of HT_.out (by kernel_rfl)) (fun _ _ _ h => h) (Or.inr ⟨by rfl, rfl⟩) ?_ ?_
  rotate_left
  ·exact ap
  refine pure_ (i := 50) (N := some 139) (v := undef) (a' := ?_) mk13_125 rfl rfl (any_of HT_.out (by kernel_rfl)) (fun _ _ _ h => h) (Or.inr ⟨by rfl, rfl⟩) ?_ ?_
  rotate_left
  ·exact ap
  refine pure_ (i := 51) (N := some 140) (v := undef) (a' := ?_) mk13_126 rfl rfl (any_of HT_.out (by kernel_rfl)) (fun _ _ _ h => h) (Or.inr ⟨by rfl, rfl⟩) ?_ ?_
  rotate_left
  ·exact ap
  refine pure_ (i := 52) (N := some 141) (v := undef) (a' := ?_) mk13_127 rfl rfl (any_of HT_.out (by kernel_rfl)) (fun _ _ _ h => h) (Or.inr ⟨by rfl, rfl⟩) ?_ ?_
  rotate_left
  ·exact ap
  refine pure_ (i := 53) (N := some 142) (v := undef) (a' := ?_) mk13_128 rfl rfl (any_of HT_.out (by kernel_rfl)) (fun _ _ _ h => h) (Or.inr ⟨by rfl, rfl⟩) ?_ ?_
  rotate_left
  ·exact ap
  refine pure_ (i := 54) (N := some 143) (v := undef) (a' := ?_) mk13_129 rfl rfl (any_of HT_.out (by kernel_rfl)) (fun _ _ _ h => h) (Or.inr ⟨by rfl, rfl⟩) ?_ ?_
  rotate_left
  ·exact ap
  refine pure_ (i := 55) (N := some 144) (v := undef) (a' := ?_) mk13_130 rfl rfl (any_of HT_.out (by kernel_rfl)) (fun _ _ _ h => h) (Or.inr ⟨by rfl, rfl⟩) ?_ ?_
  rotate_left
  ·exact ap
  refine pz 56 145 mk13_131 (any_of HT_.out (by kernel_rfl)) ?_
  refine pz 57 146 mk13_132 (any_of HT_.out (by kernel_rfl)) ?_
  refine pz 58 147 mk13_133 (any_of HT_.out (by kernel_rfl)) ?_
  refine done_ (done_of HT_.out (by kernel_rfl)) ?_
  try go_wp2
  go_roundg k3
  case measure => have := HK1.out; have := HJ9.out; have := HK3.out; omega
  case rel => exact ⟨(wrap64 (x6_3 + 1)), u13_4, H', ⟨by have := HK1.out; have := HJ9.out; have := HK3.out; omega⟩, ⟨by (with_reducible repeat (first | apply Kd.R_alloc | apply Kd.R_drewN | apply Kd.R_drew)); exact HO_3.out⟩, ⟨s13_2⟩⟩) : p := h
set_option maxRecDepth 100000 in
theorem lf13_8 {p : Prop} (h : p := by
  refine start_ (n := 13) (S := fun w' => zc6 w' (ad359.add ((x4_1).toNat * 8)) (rd_T30 t356 x4_1) (zc2 w' (ad359.add ((x6_3).toNat * 8)) (rd_T30 t356 x6_3))) (ds := []) mk13_2 (by kernel_rfl) rfl rfl ⟨hx370_0, hx370_1, hx370_2, hx370_3, hx370_4, hx370_5, hx370_6, hx370_7, hx371_0, hx371_1, hx371_2, hx371_3, hx371_4, hx371_5, hx371_6, hx371_7⟩ (fun hHeld => ?_); refine with_tabW laws_FnLines.tab13 laws_FnLines.bits13 (fun HT_ HW_ => ?_)
  generalize wr.drew = w97 at HO_3 HB hx370_0 hx370_1 hx370_2 hx370_3 hx370_4 hx370_5 hx370_6 hx370_7 hx371_0 hx371_1 hx371_2 hx371_3 hx371_4 hx371_5 hx371_6 hx371_7 hHeld ⊢
  refine pz 0 77 mk13_5 (any_of HT_.out (by kernel_rfl)) ?_
  refine pz 1 78 mk13_8 (any_of HT_.out (by kernel_rfl)) ?_
  refine pz 2 79 mk13_11 (any_of HT_.out (by kernel_rfl)) ?_
  refine pz 3 80 mk13_14 (any_of HT_.out (by kernel_rfl)) ?_
  refine pz 4 81 mk13_17 (any_of HT_.out (by kernel_rfl)) ?_
  refine pz 6 83 mk13_18 (any_of HT_.out (by kernel_rfl)) ?_
  refine pz 7 84 mk13_19 (any_of HT_.out (by kernel_rfl)) ?_
  refine pz 8 85 mk13_20 (any_of HT_.out (by kernel_rfl)) ?_
  refine pz 9 86 mk13_21 (any_of HT_.out (by kernel_rfl)) ?_
  refine take_ (i := 5) (N := some 82) (v := ?_) (a' := ?_) mk13_32 rfl rfl (take_ofW HT_.out HW_.out (by kernel_rfl)) (fun _ _ _ h => h) (Or.inl ⟨by rfl, ?_⟩) hHeld ?_ ?_
  rotate_left
  ·rintro w' ⟨s0, s1, s2, s3, s4, s5, s6, s7, s8, s9, s10, s11, s12, s13, s14, s15⟩
   exact gs
  rotate_left
  ·exact ap
  refine take_ (i := 10) (N := some 87) (v := ?_) (a' := ?_) mk13_35 rfl rfl (take_ofW HT_.out HW_.out (by kernel_rfl)) (fun _ _ _ h => h) (Or.inl ⟨by rfl, ?_⟩) hHeld ?_ ?_
  rotate_left
  ·rintro w' ⟨s0, s1, s2, s3, s4, s5, s6, s7, s8, s9, s10, s11, s12, s13, s14, s15⟩
   exact gs
  rotate_left
  ·exact ap
  refine one_ (i := 11) (N := some 88) mk13_38 rfl rfl (one_of HT_.out (by kernel_rfl)) u13_5 (fun K hK => ?_)
  refine goes_ Try.func27 (by kernel_rfl) rfl #[.slice (some ad359) t356.length co11, .string ((rd_T30 t356 x4_1).f0), .string ((rd_T30 t356 x6_3).f0)] (by rfl) rfl rfl u13_2 ?_
  with_reducible refine (impl_SameLine.calls k3 _ _ t356 ((rd_T30 t356 x4_1).f0) ((rd_T30 t356 x6_3).f0) false _ ?side1 ?side2 A34.out).mono ?_
  (case side1 => exact y13_0)
  (case side2 => exact (Kd.R_reads' HO_3.out).2.1)
  rintro e w98 ⟨rfl, hb⟩
  refine ⟨_, rfl, ?_⟩
  have n0_ := am (Kd.R_below u13_1 hb)
  have n1_ := am (below_step u13_0 hb)
  clear HO_3 HB
  have HO_3 := n0_
  have HB := n1_
  clear n0_ n1_
  (try clear hb2)
  (try clear hk)
  (try clear hi)
  refine hK.out _ _ hz13_0 (fun hHeld => ?_)
  clear hb
  clear hK K
  refine norm_ (a' := ?_) ?_ ?_
  rotate_left
  ·show Act.put _ (some 88) _ = _
   simp only [Act.put, List.setIfInBounds_toArray, List.set_cons_zero, List.set_cons_succ, i64_w, i32_w]
   rfl
  refine pz 12 7 mk13_135 (any_of HT_.out (by kernel_rfl)) ?_
  refine done_ (done_of HT_.out (by kernel_rfl)) ?_
  try go_wp2
  have n0_ := am (Kd.R_drew HO_3.out)
  have n1_ := am (below_drew1 HB.out)
  clear HO_3 HB
  have HO_3 := n0_
  have HB := n1_
  clear n0_ n1_
  have p373 : 0 ≤ (x6_3 : Int) := od u13_3
  have q373 : x6_3 < (t356.length : Int) := od u13_3
  obtain ⟨ad373, e373, hx373_0, hx373_1, hx373_2, hx373_3, hx373_4, hx373_5, hx373_6, hx373_7⟩ := at_T30 (Kd.R_reads' HO_3.out).2.2 x6_3 p373 q373
  obtain rfl : ad359 = ad373 := (by injection e373)
  replace p373 := eq_true p373
  replace q373 := eq_true q373
  have p374 : 0 ≤ (x4_1 : Int) := od u13_3
  have q374 : x4_1 < (t356.length : Int) := od u13_3
  obtain ⟨ad374, e374, hx374_0, hx374_1, hx374_2, hx374_3, hx374_4, hx374_5, hx374_6, hx374_7⟩ := at_T30 (Kd.R_reads' HO_3.out).2.2 x4_1 p374 q374
  obtain rfl : ad359 = ad374 := (by injection e374)
  replace p374 := eq_true p374
  replace q374 := eq_true q374
  have p387 : 0 ≤ (x4_1 : Int) := od u13_3
  have q387 : x4_1 < (t356.length : Int) := od u13_3
  obtain ⟨ad387, e387, hx387_0, hx387_1, hx387_2, hx387_3, hx387_4, hx387_5, hx387_6, hx387_7⟩ := at_T30 (Kd.R_reads' HO_3.out).2.2 x4_1 p387 q387
  obtain rfl : ad359 = ad387 := (by injection e387)
  replace p387 := eq_true p387
  replace q387 := eq_true q387
  have p388 : 0 ≤ (x4_1 : Int) := od u13_3
  have q388 : x4_1 < (t356.length : Int) := od u13_3
  obtain ⟨ad388, e388, hx388_0, hx388_1, hx388_2, hx388_3, hx388_4, hx388_5, hx388_6, hx388_7⟩ := at_T30 (Kd.R_reads' HO_3.out).2.2 x4_1 p388 q388
  obtain rfl : ad359 = ad388 := (by injection e388)
  replace p388 := eq_true p388
  replace q388 := eq_true q388
  have p392 : 0 ≤ (x6_3 : Int) := od u13_3
  have q392 : x6_3 < (t356.length : Int) := od u13_3
  obtain ⟨ad392, e392, hx392_0, hx392_1, hx392_2, hx392_3, hx392_4, hx392_5, hx392_6, hx392_7⟩ := at_T30 (Kd.R_reads' HO_3.out).2.2 x6_3 p392 q392
  obtain rfl : ad359 = ad392 := (by injection e392)
  replace p392 := eq_true p392
  replace q392 := eq_true q392
  refine start_ (n := 59) (S := fun w' => zc6 w' (ad359.add ((x6_3).toNat * 8)) (rd_T30 t356 x6_3) (zc6 w' (ad359.add ((x4_1).toNat * 8)) (rd_T30 t356 x4_1) (zc6 w' (ad359.add ((x4_1).toNat * 8)) (rd_T30 t356 x4_1) (zc6 w' (ad359.add ((x4_1).toNat * 8)) (rd_T30 t356 x4_1) (zc2 w' (ad359.add ((x6_3).toNat * 8)) (rd_T30 t356 x6_3)))))) (ds := []) mk13_0 (by kernel_rfl) rfl rfl ⟨hx373_0, hx373_1, hx373_2, hx373_3, hx373_4, hx373_5, hx373_6, hx373_7, hx374_0, hx374_1, hx374_2, hx374_3, hx374_4, hx374_5, hx374_6, hx374_7, hx387_0, hx387_1, hx387_2, hx387_3, hx387_4, hx387_5, hx387_6, hx387_7, hx388_0, hx388_1, hx388_2, hx388_3, hx388_4, hx388_5, hx388_6, hx388_7, hx392_0, hx392_1, hx392_2, hx392_3, hx392_4, hx392_5, hx392_6, hx392_7⟩ (fun hHeld => ?_); refine with_tabW laws_FnLines.tab14 laws_FnLines.bits14 (fun HT_ HW_ => ?_)
  generalize w98.drew = w99 at HO_3 HB hx373_0 hx373_1 hx373_2 hx373_3 hx373_4 hx373_5 hx373_6 hx373_7 hx374_0 hx374_1 hx374_2 hx374_3 hx374_4 hx374_5 hx374_6 hx374_7 hx387_0 hx387_1 hx387_2 hx387_3 hx387_4 hx387_5 hx387_6 hx387_7 hx388_0 hx388_1 hx388_2 hx388_3 hx388_4 hx388_5 hx388_6 hx388_7 hx392_0 hx392_1 hx392_2 hx392_3 hx392_4 hx392_5 hx392_6 hx392_7 hHeld ⊢
  refine pz 0 89 mk13_3 (any_of HT_.out (by kernel_rfl)) ?_
  refine pz 1 90 mk13_6 (any_of HT_.out (by kernel_rfl)) ?_
  refine pz 2 91 mk13_9 (any_of HT_.out (by kernel_rfl)) ?_
  refine pz 3 92 mk13_12 (any_of HT_.out (by kernel_rfl)) ?_
  refine pz 4 93 mk13_15 (any_of HT_.out (by kernel_rfl)) ?_
  refine pz 5 94 mk13_22 (any_of HT_.out (by kernel_rfl)) ?_
  refine pz 7 96 mk13_24 (any_of HT_.out (by kernel_rfl)) ?_
  refine pz 8 97 mk13_25 (any_of HT_.out (by kernel_rfl)) ?_
  refine pz 9 98 mk13_26 (any_of HT_.out (by kernel_rfl)) ?_
  refine pz 10 99 mk13_27 (any_of HT_.out (by kernel_rfl)) ?_
  refine take_ (i := 6) (N := some 95) (v := ?_) (a' := ?_) mk13_33 rfl rfl (take_ofW HT_.out HW_.out (by kernel_rfl)) (fun _ _ _ h => h) (Or.inl ⟨by rfl, ?_⟩) hHeld ?_ ?_
  rotate_left
  ·rintro w' ⟨s0, s1, s2, s3, s4, s5, s6, s7, s8, s9, s10, s11, s12, s13, s14, s15, s16, s17, s18, s19, s20, s21, s22, s23, s24, s25, s26, s27, s28, s29, s30, s31, s32, s33, s34, s35, s36, s37, s38, s39⟩
   exact gs
  rotate_left
  ·exact ap
  refine take_ (i := 11) (N := some 100) (v := ?_) (a' := ?_) mk13_36 rfl rfl (take_ofW HT_.out HW_.out (by kernel_rfl)) (fun _ _ _ h => h) (Or.inl ⟨by rfl, ?_⟩) hHeld ?_ ?_
  rotate_left
  ·rintro w' ⟨s0, s1, s2, s3, s4, s5, s6, s7, s8, s9, s10, s11, s12, s13, s14, s15, s16, s17, s18, s19, s20, s21, s22, s23, s24, s25, s26, s27, s28, s29, s30, s31, s32, s33, s34, s35, s36, s37, s38, s39⟩
   exact gs
  rotate_left
  ·exact ap
  refine one_ (i := 12) (N := some 101) mk13_39 rfl rfl (one_of HT_.out (by kernel_rfl)) u13_5 (fun K hK => ?_)
  refine goes_ Try.func27 (by kernel_rfl) rfl #[.slice (some ad359) t356.length co11, .string ((rd_T30 t356 x6_3).f0), .string ((rd_T30 t356 x4_1).f0)] (by rfl) rfl rfl u13_2 ?_
  with_reducible refine (impl_SameLine.calls k3 _ _ t356 ((rd_T30 t356 x6_3).f0) ((rd_T30 t356 x4_1).f0) t375 _ ?side1 ?side2 A35.out).mono ?_
  (case side1 => exact y13_0)
  (case side2 => exact (Kd.R_reads' HO_3.out).2.1)
  rintro e w100 ⟨rfl, hb⟩
  refine ⟨_, rfl, ?_⟩
  have n0_ := am (Kd.R_below u13_1 hb)
  have n1_ := am (below_step u13_0 hb)
  clear HO_3 HB
  have HO_3 := n0_
  have HB := n1_
  clear n0_ n1_
  (try clear hb2)
  (try clear hk)
  (try clear hi)
  refine hK.out _ _ hz13_1 (fun hHeld => ?_)
  clear hb
  clear hK K
  refine norm_ (a' := ?_) ?_ ?_
  rotate_left
  ·show Act.put _ (some 101) _ = _
   simp only [Act.put, List.setIfInBounds_toArray, List.set_cons_zero, List.set_cons_succ, i64_w, i32_w]
   rfl
  refine pz 13 102 mk13_41 (any_of HT_.out (by kernel_rfl)) ?_
  refine pz 14 103 mk13_43 (any_of HT_.out (by kernel_rfl)) ?_
  refine pz 15 104 mk13_45 (any_of HT_.out (by kernel_rfl)) ?_
  refine pz 16 105 mk13_47 (any_of HT_.out (by kernel_rfl)) ?_
  refine pure_ (i := 17) (N := some 106) (v := undef) (a' := ?_) mk13_49 rfl rfl (any_of HT_.out (by kernel_rfl)) (fun _ _ _ h => h) (Or.inr ⟨by rfl, rfl⟩) ?_ ?_
  rotate_left
  ·exact ap
  refine pure_ (i := 18) (N := some 107) (v := undef) (a' := ?_) mk13_51 rfl rfl (any_of HT_.out (by kernel_rfl)) (fun _ _ _ h => h) (Or.inr ⟨by rfl, rfl⟩) ?_ ?_
  rotate_left
  ·exact ap
  refine pure_ (i := 19) (N := some 108) (v := undef) (a' := ?_) mk13_53 rfl rfl (any_of HT_.out (by kernel_rfl)) (fun _ _ _ h => h) (Or.inr ⟨by rfl, rfl⟩) ?_ ?_
  rotate_left
  ·exact ap
  refine pure_ (i := 20) (N := some 109) (v := undef) (a' := ?_) mk13_55 rfl rfl (any_of HT_.out (by kernel_rfl)) (fun _ _ _ h => h) (Or.inr ⟨by rfl, rfl⟩) ?_ ?_
  rotate_left
  ·exact ap
  refine pure_ (i := 21) (N := some 110) (v := undef) (a' := ?_) mk13_57 rfl rfl (any_of HT_.out (by kernel_rfl)) (fun _ _ _ h => h) (Or.inr ⟨by rfl, rfl⟩) ?_ ?_
  rotate_left
  ·exact ap
  refine pure_ (i := 22) (N := some 111) (v := undef) (a' := ?_) mk13_64 rfl rfl (any_of HT_.out (by kernel_rfl)) (fun _ _ _ h => h) (Or.inr ⟨by rfl, rfl⟩) ?_ ?_
  rotate_left
  ·exact ap
  refine pure_ (i := 23) (N := some 112) (v := undef) (a' := ?_) mk13_68 rfl rfl (any_of HT_.out (by kernel_rfl)) (fun _ _ _ h => h) (Or.inr ⟨by rfl, rfl⟩) ?_ ?_
  rotate_left
  ·exact ap
  refine pure_ (i := 24) (N := some 113) (v := undef) (a' := ?_) mk13_70 rfl rfl (any_of HT_.out (by kernel_rfl)) (fun _ _ _ h => h) (Or.inr ⟨by rfl, rfl⟩) ?_ ?_
  rotate_left
  ·exact ap
  refine pure_ (i := 25) (N := some 114) (v := undef) (a' := ?_) mk13_72 rfl rfl (any_of HT_.out (by kernel_rfl)) (fun _ _ _ h => h) (Or.inr ⟨by rfl, rfl⟩) ?_ ?_
  rotate_left
  ·exact ap
  refine pure_ (i := 26) (N := some 115) (v := undef) (a' := ?_) mk13_74 rfl rfl (any_of HT_.out (by kernel_rfl)) (fun _ _ _ h => h) (Or.inr ⟨by rfl, rfl⟩) ?_ ?_
  rotate_left
  ·exact ap
  refine pure_ (i := 27) (N := some 116) (v := undef) (a' := ?_) mk13_76 rfl rfl (any_of HT_.out (by kernel_rfl)) (fun _ _ _ h => h) (Or.inr ⟨by rfl, rfl⟩) ?_ ?_
  rotate_left
  ·exact ap
  refine pure_ (i := 28) (N := some 117) (v := undef) (a' := ?_) mk13_78 rfl rfl (any_of HT_.out (by kernel_rfl)) (fun _ _ _ h => h) (Or.inr ⟨by rfl, rfl⟩) ?_ ?_
  rotate_left
  ·exact ap
  refine pure_ (i := 29) (N := some 118) (v := undef) (a' := ?_) mk13_80 rfl rfl (any_of HT_.out (by kernel_rfl)) (fun _ _ _ h => h) (Or.inr ⟨by rfl, rfl⟩) ?_ ?_
  rotate_left
  ·exact ap
  refine pure_ (i := 30) (N := some 119) (v := undef) (a' := ?_) mk13_82 rfl rfl (any_of HT_.out (by kernel_rfl)) (fun _ _ _ h => h) (Or.inr ⟨by rfl, rfl⟩) ?_ ?_
  rotate_left
  ·exact ap
  refine pure_ (i := 31) (N := some 120) (v := undef) (a' := ?_) mk13_84 rfl rfl (any_of HT_.out (by kernel_rfl)) (fun _ _ _ h => h) (Or.inr ⟨by rfl, rfl⟩) ?_ ?_
  rotate_left
  ·exact ap
  refine pz 32 121 mk13_86 (any_of HT_.out (by kernel_rfl)) ?_
  refine pz 33 122 mk13_88 (any_of HT_.out (by kernel_rfl)) ?_
  refine pz 34 123 mk13_90 (any_of HT_.out (by kernel_rfl)) ?_
  refine pz 35 124 mk13_96 (any_of HT_.out (by kernel_rfl)) ?_
  refine pz 36 125 mk13_98 (any_of HT_.out (by kernel_rfl)) ?_
  refine pz 37 126 mk13_100 (any_of HT_.out (by kernel_rfl)) ?_
  refine pz 38 127 mk13_102 (any_of HT_.out (by kernel_rfl)) ?_
  refine pz 39 128 mk13_104 (any_of HT_.out (by kernel_rfl)) ?_
  refine take_ (i := 40) (N := some 129) (v := ?_) (a' := ?_) mk13_106 rfl rfl (take_ofW HT_.out HW_.out (by kernel_rfl)) (fun _ _ _ h => h) (Or.inl ⟨by rfl, ?_⟩) hHeld ?_ ?_
  rotate_left
  ·rintro w' ⟨s0, s1, s2, s3, s4, s5, s6, s7, s8, s9, s10, s11, s12, s13, s14, s15, s16, s17, s18, s19, s20, s21, s22, s23, s24, s25, s26, s27, s28, s29, s30, s31, s32, s33, s34, s35, s36, s37, s38, s39⟩
   exact gs
  rotate_left
  ·exact ap
  refine pz 41 130 mk13_108 (any_of HT_.out (by kernel_rfl)) ?_
  refine pz 42 131 mk13_110 (any_of HT_.out (by kernel_rfl)) ?_
  refine pz 43 132 mk13_112 (any_of HT_.out (by kernel_rfl)) ?_
  refine pz 44 133 mk13_113 (any_of HT_.out (by kernel_rfl)) ?_
  refine pz 45 134 mk13_114 (any_of HT_.out (by kernel_rfl)) ?_
  refine pz 46 135 mk13_115 (any_of HT_.out (by kernel_rfl)) ?_
  refine pz 47 136 mk13_116 (any_of HT_.out (by kernel_rfl)) ?_
  refine pz 50 139 mk13_117 (any_of HT_.out (by kernel_rfl)) ?_
  refine pz 51 140 mk13_118 (any_of HT_.out (by kernel_rfl)) ?_
  refine pz 52 141 mk13_119 (any_of HT_.out (by kernel_rfl)) ?_
  refine pz 53 142 mk13_120 (any_of HT_.out (by kernel_rfl)) ?_
  refine take_ (i := 48) (N := some 137) (v := ?_) (a' := ?_) mk13_122 rfl rfl (take_ofW HT_.out HW_.out (by kernel_rfl)) (fun _ _ _ h => h) (Or.inl ⟨by rfl, ?_⟩) hHeld ?_ ?_
  rotate_left
  ·rintro w' ⟨s0, s1, s2, s3, s4, s5, s6, s7, s8, s9, s10, s11, s12, s13, s14, s15, s16, s17, s18, s19, s20, s21, s22, s23, s24, s25, s26, s27, s28, s29, s30, s31, s32, s33, s34, s35, s36, s37, s38, s39⟩
   exact gs
  rotate_left
  ·exact ap
  refine take_ (i := 54) (N := some 143) (v := ?_) (a' := ?_) mk13_123 rfl rfl (take_ofW HT_.out HW_.out (by kernel_rfl)) (fun _ _ _ h => h) (Or.inl ⟨by rfl, ?_⟩) hHeld ?_ ?_
  rotate_left
  ·rintro w' ⟨s0, s1, s2, s3, s4, s5, s6, s7, s8, s9, s10, s11, s12, s13, s14, s15, s16, s17, s18, s19, s20, s21, s22, s23, s24, s25, s26, s27, s28, s29, s30, s31, s32, s33, s34, s35, s36, s37, s38, s39⟩
   exact gs
  rotate_left
  ·exact ap
  refine one_ (i := 49) (N := some 138) mk13_129 rfl rfl (one_of HT_.out (by kernel_rfl)) u13_5 (fun K hK => ?_)
  refine goes_ Try.func32 (by kernel_rfl) rfl #[.slice (some ad359) t356.length co11, .string ((rd_T30 t356 x4_1).f2)] (by rfl) rfl rfl u13_2 ?_
  with_reducible refine (impl_OnLine.calls k3 _ _ t356 ((rd_T30 t356 x4_1).f2) t389 _ ?side1 ?side2 A94.out).mono ?_
  (case side1 => exact y13_0)
  (case side2 => exact (Kd.R_reads' HO_3.out).2.1)
  rintro e w101 ⟨v390, rfl, ho0, hb⟩
  refine ⟨_, rfl, ?_⟩
  have n0_ := am (Kd.R_below u13_1 hb)
  have n1_ := am (Kd.R_lower ho0 (below_size u13_0))
  have n2_ := am (below_step u13_0 hb)
  clear HO_3 HB
  have HO_3 := n0_
  have HO391 := n1_
  have HB := n2_
  clear n0_ n1_ n2_
  (try clear hb2)
  (try clear hk)
  (try clear hi)
  (try clear ho0)
  obtain ⟨Ao102, co102, eo102⟩ := Kd.R_slice HO391.out
  (first | subst eo102 | (injection eo102 with f1_ f2_ f3_; have f4_ := f1_.symm; have f5_ := f3_.symm; clear f1_ f2_ f3_; subst f4_; subst f5_))
  refine hK.out _ _ hz13_1 (fun hHeld => ?_)
  clear hb
  clear hK K
  refine norm_ (a' := ?_) ?_ ?_
  rotate_left
  ·show Act.put _ (some 138) _ = _
   simp only [Act.put, List.setIfInBounds_toArray, List.set_cons_zero, List.set_cons_succ, i64_w, i32_w]
   rfl
  refine one_ (i := 55) (N := some 144) mk13_130 rfl rfl (one_of HT_.out (by kernel_rfl)) u13_5 (fun K hK => ?_)
  refine goes_ Try.func31 (by kernel_rfl) rfl #[.slice Ao102 t389.length co102, .string ((rd_T30 t356 x6_3).f0)] (by rfl) rfl rfl u13_2 ?_
  with_reducible refine (laws_has.calls k3 _ _ t389 ((rd_T30 t356 x6_3).f0) t393 _ ?side1 ?side2 A95.out).mono ?_
  (case side1 => exact s13_1)
  (case side2 => exact (Kd.R_reads' HO391.out).2.1)
  rintro e w' ⟨rfl, ⟨nd, rfl⟩⟩
  refine ⟨_, rfl, ?_⟩
  refine hK.out _ _ ⟨hHeld.1, hHeld.2.1, hHeld.2.2.1, hHeld.2.2.2.1, hHeld.2.2.2.2.1, hHeld.2.2.2.2.2.1, hHeld.2.2.2.2.2.2.1, hHeld.2.2.2.2.2.2.2.1, hHeld.2.2.2.2.2.2.2.2.1, hHeld.2.2.2.2.2.2.2.2.2.1, hHeld.2.2.2.2.2.2.2.2.2.2.1, hHeld.2.2.2.2.2.2.2.2.2.2.2.1, hHeld.2.2.2.2.2.2.2.2.2.2.2.2.1, hHeld.2.2.2.2.2.2.2.2.2.2.2.2.2.1, hHeld.2.2.2.2.2.2.2.2.2.2.2.2.2.2.1, hHeld.2.2.2.2.2.2.2.2.2.2.2.2.2.2.2.1, hHeld.2.2.2.2.2.2.2.2.2.2.2.2.2.2.2.2.1, hHeld.2.2.2.2.2.2.2.2.2.2.2.2.2.2.2.2.2.1, hHeld.2.2.2.2.2.2.2.2.2.2.2.2.2.2.2.2.2.2.1, hHeld.2.2.2.2.2.2.2.2.2.2.2.2.2.2.2.2.2.2.2.1, hHeld.2.2.2.2.2.2.2.2.2.2.2.2.2.2.2.2.2.2.2.2.1, hHeld.2.2.2.2.2.2.2.2.2.2.2.2.2.2.2.2.2.2.2.2.2.1, hHeld.2.2.2.2.2.2.2.2.2.2.2.2.2.2.2.2.2.2.2.2.2.2.1, hHeld.2.2.2.2.2.2.2.2.2.2.2.2.2.2.2.2.2.2.2.2.2.2.2.1, hHeld.2.2.2.2.2.2.2.2.2.2.2.2.2.2.2.2.2.2.2.2.2.2.2.2.1, hHeld.2.2.2.2.2.2.2.2.2.2.2.2.2.2.2.2.2.2.2.2.2.2.2.2.2.1, hHeld.2.2.2.2.2.2.2.2.2.2.2.2.2.2.2.2.2.2.2.2.2.2.2.2.2.2.1, hHeld.2.2.2.2.2.2.2.2.2.2.2.2.2.2.2.2.2.2.2.2.2.2.2.2.2.2.2.1, hHeld.2.2.2.2.2.2.2.2.2.2.2.2.2.2.2.2.2.2.2.2.2.2.2.2.2.2.2.2.1, hHeld.2.2.2.2.2.2.2.2.2.2.2.2.2.2.2.2.2.2.2.2.2.2.2.2.2.2.2.2.2.1, hHeld.2.2.2.2.2.2.2.2.2.2.2.2.2.2.2.2.2.2.2.2.2.2.2.2.2.2.2.2.2.2.1, hHeld.2.2.2.2.2.2.2.2.2.2.2.2.2.2.2.2.2.2.2.2.2.2.2.2.2.2.2.2.2.2.2.1, hHeld.2.2.2.2.2.2.2.2.2.2.2.2.2.2.2.2.2.2.2.2.2.2.2.2.2.2.2.2.2.2.2.2.1, hHeld.2.2.2.2.2.2.2.2.2.2.2.2.2.2.2.2.2.2.2.2.2.2.2.2.2.2.2.2.2.2.2.2.2.1, hHeld.2.2.2.2.2.2.2.2.2.2.2.2.2.2.2.2.2.2.2.2.2.2.2.2.2.2.2.2.2.2.2.2.2.2.1, hHeld.2.2.2.2.2.2.2.2.2.2.2.2.2.2.2.2.2.2.2.2.2.2.2.2.2.2.2.2.2.2.2.2.2.2.2.1, hHeld.2.2.2.2.2.2.2.2.2.2.2.2.2.2.2.2.2.2.2.2.2.2.2.2.2.2.2.2.2.2.2.2.2.2.2.2.1, hHeld.2.2.2.2.2.2.2.2.2.2.2.2.2.2.2.2.2.2.2.2.2.2.2.2.2.2.2.2.2.2.2.2.2.2.2.2.2.1, hHeld.2.2.2.2.2.2.2.2.2.2.2.2.2.2.2.2.2.2.2.2.2.2.2.2.2.2.2.2.2.2.2.2.2.2.2.2.2.2.1, hHeld.2.2.2.2.2.2.2.2.2.2.2.2.2.2.2.2.2.2.2.2.2.2.2.2.2.2.2.2.2.2.2.2.2.2.2.2.2.2.2⟩ (fun hHeld => ?_)
  clear hK K
  refine norm_ (a' := ?_) ?_ ?_
  rotate_left
  ·show Act.put _ (some 144) _ = _
   simp only [Act.put, List.setIfInBounds_toArray, List.set_cons_zero, List.set_cons_succ, i64_w, i32_w]
   rfl
  refine pz 56 145 mk13_131 (any_of HT_.out (by kernel_rfl)) ?_
  refine pz 57 146 mk13_132 (any_of HT_.out (by kernel_rfl)) ?_
  refine pz 58 147 mk13_133 (any_of HT_.out (by kernel_rfl)) ?_
  refine done_ (done_of HT_.out (by kernel_rfl)) ?_
  try go_wp2
  go_ret
  exact ⟨by first | rfl | (simp [*] <;> rfl), s13_2⟩) : p := h
set_option maxRecDepth 100000 in
theorem lf13_9 {p : Prop} (h : p := by
  refine start_ (n := 13) (S := fun w' => zc6 w' (ad359.add ((x4_1).toNat * 8)) (rd_T30 t356 x4_1) (zc2 w' (ad359.add ((x6_3).toNat * 8)) (rd_T30 t356 x6_3))) (ds := []) mk13_2 (by kernel_rfl) rfl rfl ⟨hx370_0, hx370_1, hx370_2, hx370_3, hx370_4, hx370_5, hx370_6, hx370_7, hx371_0, hx371_1, hx371_2, hx371_3, hx371_4, hx371_5, hx371_6, hx371_7⟩ (fun hHeld => ?_); refine with_tabW laws_FnLines.tab13 laws_FnLines.bits13 (fun HT_ HW_ => ?_)
  generalize wr.drew = w103 at HO_3 HB hx370_0 hx370_1 hx370_2 hx370_3 hx370_4 hx370_5 hx370_6 hx370_7 hx371_0 hx371_1 hx371_2 hx371_3 hx371_4 hx371_5 hx371_6 hx371_7 hHeld ⊢
  refine pz 0 77 mk13_5 (any_of HT_.out (by kernel_rfl)) ?_
  refine pz 1 78 mk13_8 (any_of HT_.out (by kernel_rfl)) ?_
  refine pz 2 79 mk13_11 (any_of HT_.out (by kernel_rfl)) ?_
  refine pz 3 80 mk13_14 (any_of HT_.out (by kernel_rfl)) ?_
  refine pz 4 81 mk13_17 (any_of HT_.out (by kernel_rfl)) ?_
  refine pz 6 83 mk13_18 (any_of HT_.out (by kernel_rfl)) ?_
  refine pz 7 84 mk13_19 (any_of HT_.out (by kernel_rfl)) ?_
  refine pz 8 85 mk13_20 (any_of HT_.out (by kernel_rfl)) ?_
  refine pz 9 86 mk13_21 (any_of HT_.out (by kernel_rfl)) ?_
  refine take_ (i := 5) (N := some 82) (v := ?_) (a' := ?_) mk13_32 rfl rfl (take_ofW HT_.out HW_.out (by kernel_rfl)) (fun _ _ _ h => h) (Or.inl ⟨by rfl, ?_⟩) hHeld ?_ ?_
  rotate_left
  ·rintro w' ⟨s0, s1, s2, s3, s4, s5, s6, s7, s8, s9, s10, s11, s12, s13, s14, s15⟩
   exact gs
  rotate_left
  ·exact ap
  refine take_ (i := 10) (N := some 87) (v := ?_) (a' := ?_) mk13_35 rfl rfl (take_ofW HT_.out HW_.out (by kernel_rfl)) (fun _ _ _ h => h) (Or.inl ⟨by rfl, ?_⟩) hHeld ?_ ?_
  rotate_left
  ·rintro w' ⟨s0, s1, s2, s3, s4, s5, s6, s7, s8, s9, s10, s11, s12, s13, s14, s15⟩
   exact gs
  rotate_left
  ·exact ap
  refine one_ (i := 11) (N := some 88) mk13_38 rfl rfl (one_of HT_.out (by kernel_rfl)) u13_5 (fun K hK => ?_)
  refine goes_ Try.func27 (by kernel_rfl) rfl #[.slice (some ad359) t356.length co11, .string ((rd_T30 t356 x4_1).f0), .string ((rd_T30 t356 x6_3).f0)] (by rfl) rfl rfl u13_2 ?_
  with_reducible refine (impl_SameLine.calls k3 _ _ t356 ((rd_T30 t356 x4_1).f0) ((rd_T30 t356 x6_3).f0) false _ ?side1 ?side2 A34.out).mono ?_
  (case side1 => exact y13_0)
  (case side2 => exact (Kd.R_reads' HO_3.out).2.1)
  rintro e w104 ⟨rfl, hb⟩
  refine ⟨_, rfl, ?_⟩
  have n0_ := am (Kd.R_below u13_1 hb)
  have n1_ := am (below_step u13_0 hb)
  clear HO_3 HB
  have HO_3 := n0_
  have HB := n1_
  clear n0_ n1_
  (try clear hb2)
  (try clear hk)
  (try clear hi)
  refine hK.out _ _ hz13_0 (fun hHeld => ?_)
  clear hb
  clear hK K
  refine norm_ (a' := ?_) ?_ ?_
  rotate_left
  ·show Act.put _ (some 88) _ = _
   simp only [Act.put, List.setIfInBounds_toArray, List.set_cons_zero, List.set_cons_succ, i64_w, i32_w]
   rfl
  refine pz 12 7 mk13_135 (any_of HT_.out (by kernel_rfl)) ?_
  refine done_ (done_of HT_.out (by kernel_rfl)) ?_
  try go_wp2
  have n0_ := am (Kd.R_drew HO_3.out)
  have n1_ := am (below_drew1 HB.out)
  clear HO_3 HB
  have HO_3 := n0_
  have HB := n1_
  clear n0_ n1_
  have p373 : 0 ≤ (x6_3 : Int) := od u13_3
  have q373 : x6_3 < (t356.length : Int) := od u13_3
  obtain ⟨ad373, e373, hx373_0, hx373_1, hx373_2, hx373_3, hx373_4, hx373_5, hx373_6, hx373_7⟩ := at_T30 (Kd.R_reads' HO_3.out).2.2 x6_3 p373 q373
  obtain rfl : ad359 = ad373 := (by injection e373)
  replace p373 := eq_true p373
  replace q373 := eq_true q373
  have p374 : 0 ≤ (x4_1 : Int) := od u13_3
  have q374 : x4_1 < (t356.length : Int) := od u13_3
  obtain ⟨ad374, e374, hx374_0, hx374_1, hx374_2, hx374_3, hx374_4, hx374_5, hx374_6, hx374_7⟩ := at_T30 (Kd.R_reads' HO_3.out).2.2 x4_1 p374 q374
  obtain rfl : ad359 = ad374 := (by injection e374)
  replace p374 := eq_true p374
  replace q374 := eq_true q374
  have p387 : 0 ≤ (x4_1 : Int) := od u13_3
  have q387 : x4_1 < (t356.length : Int) := od u13_3
  obtain ⟨ad387, e387, hx387_0, hx387_1, hx387_2, hx387_3, hx387_4, hx387_5, hx387_6, hx387_7⟩ := at_T30 (Kd.R_reads' HO_3.out).2.2 x4_1 p387 q387
  obtain rfl : ad359 = ad387 := (by injection e387)
  replace p387 := eq_true p387
  replace q387 := eq_true q387
  have p388 : 0 ≤ (x4_1 : Int) := od u13_3
  have q388 : x4_1 < (t356.length : Int) := od u13_3
  obtain ⟨ad388, e388, hx388_0, hx388_1, hx388_2, hx388_3, hx388_4, hx388_5, hx388_6, hx388_7⟩ := at_T30 (Kd.R_reads' HO_3.out).2.2 x4_1 p388 q388
  obtain rfl : ad359 = ad388 := (by injection e388)
  replace p388 := eq_true p388
  replace q388 := eq_true q388
  have p392 : 0 ≤ (x6_3 : Int) := od u13_3
  have q392 : x6_3 < (t356.length : Int) := od u13_3
  obtain ⟨ad392, e392, hx392_0, hx392_1, hx392_2, hx392_3, hx392_4, hx392_5, hx392_6, hx392_7⟩ := at_T30 (Kd.R_reads' HO_3.out).2.2 x6_3 p392 q392
  obtain rfl : ad359 = ad392 := (by injection e392)
  replace p392 := eq_true p392
  replace q392 := eq_true q392
  refine start_ (n := 59) (S := fun w' => zc6 w' (ad359.add ((x6_3).toNat * 8)) (rd_T30 t356 x6_3) (zc6 w' (ad359.add ((x4_1).toNat * 8)) (rd_T30 t356 x4_1) (zc6 w' (ad359.add ((x4_1).toNat * 8)) (rd_T30 t356 x4_1) (zc6 w' (ad359.add ((x4_1).toNat * 8)) (rd_T30 t356 x4_1) (zc2 w' (ad359.add ((x6_3).toNat * 8)) (rd_T30 t356 x6_3)))))) (ds := []) mk13_0 (by kernel_rfl) rfl rfl ⟨hx373_0, hx373_1, hx373_2, hx373_3, hx373_4, hx373_5, hx373_6, hx373_7, hx374_0, hx374_1, hx374_2, hx374_3, hx374_4, hx374_5, hx374_6, hx374_7, hx387_0, hx387_1, hx387_2, hx387_3, hx387_4, hx387_5, hx387_6, hx387_7, hx388_0, hx388_1, hx388_2, hx388_3, hx388_4, hx388_5, hx388_6, hx388_7, hx392_0, hx392_1, hx392_2, hx392_3, hx392_4, hx392_5, hx392_6, hx392_7⟩ (fun hHeld => ?_); refine with_tabW laws_FnLines.tab14 laws_FnLines.bits14 (fun HT_ HW_ => ?_)
  generalize w104.drew = w105 at HO_3 HB hx373_0 hx373_1 hx373_2 hx373_3 hx373_4 hx373_5 hx373_6 hx373_7 hx374_0 hx374_1 hx374_2 hx374_3 hx374_4 hx374_5 hx374_6 hx374_7 hx387_0 hx387_1 hx387_2 hx387_3 hx387_4 hx387_5 hx387_6 hx387_7 hx388_0 hx388_1 hx388_2 hx388_3 hx388_4 hx388_5 hx388_6 hx388_7 hx392_0 hx392_1 hx392_2 hx392_3 hx392_4 hx392_5 hx392_6 hx392_7 hHeld ⊢
  refine pz 0 89 mk13_3 (any_of HT_.out (by kernel_rfl)) ?_
  refine pz 1 90 mk13_6 (any_of HT_.out (by kernel_rfl)) ?_
  refine pz 2 91 mk13_9 (any_of HT_.out (by kernel_rfl)) ?_
  refine pz 3 92 mk13_12 (any_of HT_.out (by kernel_rfl)) ?_
  refine pz 4 93 mk13_15 (any_of HT_.out (by kernel_rfl)) ?_
  refine pz 5 94 mk13_22 (any_of HT_.out (by kernel_rfl)) ?_
  refine pz 7 96 mk13_24 (any_of HT_.out (by kernel_rfl)) ?_
  refine pz 8 97 mk13_25 (any_of HT_.out (by kernel_rfl)) ?_
  refine pz 9 98 mk13_26 (any_of HT_.out (by kernel_rfl)) ?_
  refine pz 10 99 mk13_27 (any_of HT_.out (by kernel_rfl)) ?_
  refine take_ (i := 6) (N := some 95) (v := ?_) (a' := ?_) mk13_33 rfl rfl (take_ofW HT_.out HW_.out (by kernel_rfl)) (fun _ _ _ h => h) (Or.inl ⟨by rfl, ?_⟩) hHeld ?_ ?_
  rotate_left
  ·rintro w' ⟨s0, s1, s2, s3, s4, s5, s6, s7, s8, s9, s10, s11, s12, s13, s14, s15, s16, s17, s18, s19, s20, s21, s22, s23, s24, s25, s26, s27, s28, s29, s30, s31, s32, s33, s34, s35, s36, s37, s38, s39⟩
   exact gs
  rotate_left
  ·exact ap
  refine take_ (i := 11) (N := some 100) (v := ?_) (a' := ?_) mk13_36 rfl rfl (take_ofW HT_.out HW_.out (by kernel_rfl)) (fun _ _ _ h => h) (Or.inl ⟨by rfl, ?_⟩) hHeld ?_ ?_
  rotate_left
  ·rintro w' ⟨s0, s1, s2, s3, s4, s5, s6, s7, s8, s9, s10, s11, s12, s13, s14, s15, s16, s17, s18, s19, s20, s21, s22, s23, s24, s25, s26, s27, s28, s29, s30, s31, s32, s33, s34, s35, s36, s37, s38, s39⟩
   exact gs
  rotate_left
  ·exact ap
  refine one_ (i := 12) (N := some 101) mk13_39 rfl rfl (one_of HT_.out (by kernel_rfl)) u13_5 (fun K hK => ?_)
  refine goes_ Try.func27 (by kernel_rfl) rfl #[.slice (some ad359) t356.length co11, .string ((rd_T30 t356 x6_3).f0), .string ((rd_T30 t356 x4_1).f0)] (by rfl) rfl rfl u13_2 ?_
  with_reducible refine (impl_SameLine.calls k3 _ _ t356 ((rd_T30 t356 x6_3).f0) ((rd_T30 t356 x4_1).f0) t375 _ ?side1 ?side2 A35.out).mono ?_
  (case side1 => exact y13_0)
  (case side2 => exact (Kd.R_reads' HO_3.out).2.1)
  rintro e w106 ⟨rfl, hb⟩
  refine ⟨_, rfl, ?_⟩
  have n0_ := am (Kd.R_below u13_1 hb)
  have n1_ := am (below_step u13_0 hb)
  clear HO_3 HB
  have HO_3 := n0_
  have HB := n1_
  clear n0_ n1_
  (try clear hb2)
  (try clear hk)
  (try clear hi)
  refine hK.out _ _ hz13_1 (fun hHeld => ?_)
  clear hb
  clear hK K
  refine norm_ (a' := ?_) ?_ ?_
  rotate_left
  ·show Act.put _ (some 101) _ = _
   simp only [Act.put, List.setIfInBounds_toArray, List.set_cons_zero, List.set_cons_succ, i64_w, i32_w]
   rfl
  refine pz 13 102 mk13_41 (any_of HT_.out (by kernel_rfl)) ?_
  refine pz 14 103 mk13_43 (any_of HT_.out (by kernel_rfl)) ?_
  refine pz 15 104 mk13_45 (any_of HT_.out (by kernel_rfl)) ?_
  refine pz 16 105 mk13_47 (any_of HT_.out (by kernel_rfl)) ?_
  refine pure_ (i := 17) (N := some 106) (v := undef) (a' := ?_) mk13_49 rfl rfl (any_of HT_.out (by kernel_rfl)) (fun _ _ _ h => h) (Or.inr ⟨by rfl, rfl⟩) ?_ ?_
  rotate_left
  ·exact ap
  refine pure_ (i := 18) (N := some 107) (v := undef) (a' := ?_) mk13_51 rfl rfl (any_of HT_.out (by kernel_rfl)) (fun _ _ _ h => h) (Or.inr ⟨by rfl, rfl⟩) ?_ ?_
  rotate_left
  ·exact ap
  refine pure_ (i := 19) (N := some 108) (v := undef) (a' := ?_) mk13_53 rfl rfl (any_of HT_.out (by kernel_rfl)) (fun _ _ _ h => h) (Or.inr ⟨by rfl, rfl⟩) ?_ ?_
  rotate_left
  ·exact ap
  refine pure_ (i := 20) (N := some 109) (v := undef) (a' := ?_) mk13_55 rfl rfl (any_of HT_.out (by kernel_rfl)) (fun _ _ _ h => h) (Or.inr ⟨by rfl, rfl⟩) ?_ ?_
  rotate_left
  ·exact ap
  refine pure_ (i := 21) (N := some 110) (v := undef) (a' := ?_) mk13_57 rfl rfl (any_of HT_.out (by kernel_rfl)) (fun _ _ _ h => h) (Or.inr ⟨by rfl, rfl⟩) ?_ ?_
  rotate_left
  ·exact ap
  refine pure_ (i := 22) (N := some 111) (v := undef) (a' := ?_) mk13_64 rfl rfl (any_of HT_.out (by kernel_rfl)) (fun _ _ _ h => h) (Or.inr ⟨by rfl, rfl⟩) ?_ ?_
  rotate_left
  ·exact ap
  refine pure_ (i := 23) (N := some 112) (v := undef) (a' := ?_) mk13_68 rfl rfl (any_of HT_.out (by kernel_rfl)) (fun _ _ _ h => h) (Or.inr ⟨by rfl, rfl⟩) ?_ ?_
  rotate_left
  ·exact ap
  refine pure_ (i := 24) (N := some 113) (v := undef) (a' := ?_) mk13_70 rfl rfl (any_of HT_.out (by kernel_rfl)) (fun _ _ _ h => h) (Or.inr ⟨by rfl, rfl⟩) ?_ ?_
  rotate_left
  ·exact ap
  refine pure_ (i := 25) (N := some 114) (v := undef) (a' := ?_) mk13_72 rfl rfl (any_of HT_.out (by kernel_rfl)) (fun _ _ _ h => h) (Or.inr ⟨by rfl, rfl⟩) ?_ ?_
  rotate_left
  ·exact ap
  refine pure_ (i := 26) (N := some 115) (v := undef) (a' := ?_) mk13_74 rfl rfl (any_of HT_.out (by kernel_rfl)) (fun _ _ _ h => h) (Or.inr ⟨by rfl, rfl⟩) ?_ ?_
  rotate_left
  ·exact ap
  refine pure_ (i := 27) (N := some 116) (v := undef) (a' := ?_) mk13_76 rfl rfl (any_of HT_.out (by kernel_rfl)) (fun _ _ _ h => h) (Or.inr ⟨by rfl, rfl⟩) ?_ ?_
  rotate_left
  ·exact ap
  refine pure_ (i := 28) (N := some 117) (v := undef) (a' := ?_) mk13_78 rfl rfl (any_of HT_.out (by kernel_rfl)) (fun _ _ _ h => h) (Or.inr ⟨by rfl, rfl⟩) ?_ ?_
  rotate_left
  ·exact ap
  refine pure_ (i := 29) (N := some 118) (v := undef) (a' := ?_) mk13_80 rfl rfl (any_of HT_.out (by kernel_rfl)) (fun _ _ _ h => h) (Or.inr ⟨by rfl, rfl⟩) ?_ ?_
  rotate_left
  ·exact ap
  refine pure_ (i := 30) (N := some 119) (v := undef) (a' := ?_) mk13_82 rfl rfl (any_of HT_.out (by kernel_rfl)) (fun _ _ _ h => h) (Or.inr ⟨by rfl, rfl⟩) ?_ ?_
  rotate_left
  ·exact ap
  refine pure_ (i := 31) (N := some 120) (v := undef) (a' := ?_) mk13_84 rfl rfl (any_of HT_.out (by kernel_rfl)) (fun _ _ _ h => h) (Or.inr ⟨by rfl, rfl⟩) ?_ ?_
  rotate_left
  ·exact ap
  refine pz 32 121 mk13_86 (any_of HT_.out (by kernel_rfl)) ?_
  refine pz 33 122 mk13_88 (any_of HT_.out (by kernel_rfl)) ?_
  refine pz 34 123 mk13_90 (any_of HT_.out (by kernel_rfl)) ?_
  refine pz 35 124 mk13_96 (any_of HT_.out (by kernel_rfl)) ?_
  refine pz 36 125 mk13_98 (any_of HT_.out (by kernel_rfl)) ?_
  refine pz 37 126 mk13_100 (any_of HT_.out (by kernel_rfl)) ?_
  refine pz 38 127 mk13_102 (any_of HT_.out (by kernel_rfl)) ?_
  refine pz 39 128 mk13_104 (any_of HT_.out (by kernel_rfl)) ?_
  refine take_ (i := 40) (N := some 129) (v := ?_) (a' := ?_) mk13_106 rfl rfl (take_ofW HT_.out HW_.out (by kernel_rfl)) (fun _ _ _ h => h) (Or.inl ⟨by rfl, ?_⟩) hHeld ?_ ?_
  rotate_left
  ·rintro w' ⟨s0, s1, s2, s3, s4, s5, s6, s7, s8, s9, s10, s11, s12, s13, s14, s15, s16, s17, s18, s19, s20, s21, s22, s23, s24, s25, s26, s27, s28, s29, s30, s31, s32, s33, s34, s35, s36, s37, s38, s39⟩
   exact gs
  rotate_left
  ·exact ap
  refine pz 41 130 mk13_108 (any_of HT_.out (by kernel_rfl)) ?_
  refine pz 42 131 mk13_110 (any_of HT_.out (by kernel_rfl)) ?_
  refine pz 43 132 mk13_112 (any_of HT_.out (by kernel_rfl)) ?_
  refine pz 44 133 mk13_113 (any_of HT_.out (by kernel_rfl)) ?_
  refine pz 45 134 mk13_114 (any_of HT_.out (by kernel_rfl)) ?_
  refine pz 46 135 mk13_115 (any_of HT_.out (by kernel_rfl)) ?_
  refine pz 47 136 mk13_116 (any_of HT_.out (by kernel_rfl)) ?_
  refine pz 50 139 mk13_117 (any_of HT_.out (by kernel_rfl)) ?_
  refine pz 51 140 mk13_118 (any_of HT_.out (by kernel_rfl)) ?_
  refine pz 52 141 mk13_119 (any_of HT_.out (by kernel_rfl)) ?_
  refine pz 53 142 mk13_120 (any_of HT_.out (by kernel_rfl)) ?_
  refine take_ (i := 48) (N := some 137) (v := ?_) (a' := ?_) mk13_122 rfl rfl (take_ofW HT_.out HW_.out (by kernel_rfl)) (fun _ _ _ h => h) (Or.inl ⟨by rfl, ?_⟩) hHeld ?_ ?_
  rotate_left
  ·rintro w' ⟨s0, s1, s2, s3, s4, s5, s6, s7, s8, s9, s10, s11, s12, s13, s14, s15, s16, s17, s18, s19, s20, s21, s22, s23, s24, s25, s26, s27, s28, s29, s30, s31, s32, s33, s34, s35, s36, s37, s38, s39⟩
   exact gs
  rotate_left
  ·exact ap
  refine take_ (i := 54) (N := some 143) (v := ?_) (a' := ?_) mk13_123 rfl rfl (take_ofW HT_.out HW_.out (by kernel_rfl)) (fun _ _ _ h => h) (Or.inl ⟨by rfl, ?_⟩) hHeld ?_ ?_
  rotate_left
  ·rintro w' ⟨s0, s1, s2, s3, s4, s5, s6, s7, s8, s9, s10, s11, s12, s13, s14, s15, s16, s17, s18, s19, s20, s21, s22, s23, s24, s25, s26, s27, s28, s29, s30, s31, s32, s33, s34, s35, s36, s37, s38, s39⟩
   exact gs
  rotate_left
  ·exact ap
  refine one_ (i := 49) (N := some 138) mk13_129 rfl rfl (one_of HT_.out (by kernel_rfl)) u13_5 (fun K hK => ?_)
  refine goes_ Try.func32 (by kernel_rfl) rfl #[.slice (some ad359) t356.length co11, .string ((rd_T30 t356 x4_1).f2)] (by rfl) rfl rfl u13_2 ?_
  with_reducible refine (impl_OnLine.calls k3 _ _ t356 ((rd_T30 t356 x4_1).f2) t389 _ ?side1 ?side2 A94.out).mono ?_
  (case side1 => exact y13_0)
  (case side2 => exact (Kd.R_reads' HO_3.out).2.1)
  rintro e w107 ⟨v390, rfl, ho0, hb⟩
  refine ⟨_, rfl, ?_⟩
  have n0_ := am (Kd.R_below u13_1 hb)
  have n1_ := am (Kd.R_lower ho0 (below_size u13_0))
  have n2_ := am (below_step u13_0 hb)
  clear HO_3 HB
  have HO_3 := n0_
  have HO391 := n1_
  have HB := n2_
  clear n0_ n1_ n2_
  (try clear hb2)
  (try clear hk)
  (try clear hi)
  (try clear ho0)
  obtain ⟨Ao108, co108, eo108⟩ := Kd.R_slice HO391.out
  (first | subst eo108 | (injection eo108 with f1_ f2_ f3_; have f4_ := f1_.symm; have f5_ := f3_.symm; clear f1_ f2_ f3_; subst f4_; subst f5_))
  refine hK.out _ _ hz13_1 (fun hHeld => ?_)
  clear hb
  clear hK K
  refine norm_ (a' := ?_) ?_ ?_
  rotate_left
  ·show Act.put _ (some 138) _ = _
   simp only [Act.put, List.setIfInBounds_toArray, List.set_cons_zero, List.set_cons_succ, i64_w, i32_w]
   rfl
  refine one_ (i := 55) (N := some 144) mk13_130 rfl rfl (one_of HT_.out (by kernel_rfl)) u13_5 (fun K hK => ?_)
  refine goes_ Try.func31 (by kernel_rfl) rfl #[.slice Ao108 t389.length co108, .string ((rd_T30 t356 x6_3).f0)] (by rfl) rfl rfl u13_2 ?_
  with_reducible refine (laws_has.calls k3 _ _ t389 ((rd_T30 t356 x6_3).f0) t393 _ ?side1 ?side2 A95.out).mono ?_
  (case side1 => exact s13_1)
  (case side2 => exact (Kd.R_reads' HO391.out).2.1)
  rintro e w' ⟨rfl, ⟨nd, rfl⟩⟩
  refine ⟨_, rfl, ?_⟩
  refine hK.out _ _ ⟨hHeld.1, hHeld.2.1, hHeld.2.2.1, hHeld.2.2.2.1, hHeld.2.2.2.2.1, hHeld.2.2.2.2.2.1, hHeld.2.2.2.2.2.2.1, hHeld.2.2.2.2.2.2.2.1, hHeld.2.2.2.2.2.2.2.2.1, hHeld.2.2.2.2.2.2.2.2.2.1, hHeld.2.2.2.2.2.2.2.2.2.2.1, hHeld.2.2.2.2.2.2.2.2.2.2.2.1, hHeld.2.2.2.2.2.2.2.2.2.2.2.2.1, hHeld.2.2.2.2.2.2.2.2.2.2.2.2.2.1, hHeld.2.2.2.2.2.2.2.2.2.2.2.2.2.2.1, hHeld.2.2.2.2.2.2.2.2.2.2.2.2.2.2.2.1, hHeld.2.2.2.2.2.2.2.2.2.2.2.2.2.2.2.2.1, hHeld.2.2.2.2.2.2.2.2.2.2.2.2.2.2.2.2.2.1, hHeld.2.2.2.2.2.2.2.2.2.2.2.2.2.2.2.2.2.2.1, hHeld.2.2.2.2.2.2.2.2.2.2.2.2.2.2.2.2.2.2.2.1, hHeld.2.2.2.2.2.2.2.2.2.2.2.2.2.2.2.2.2.2.2.2.1, hHeld.2.2.2.2.2.2.2.2.2.2.2.2.2.2.2.2.2.2.2.2.2.1, hHeld.2.2.2.2.2.2.2.2.2.2.2.2.2.2.2.2.2.2.2.2.2.2.1, hHeld.2.2.2.2.2.2.2.2.2.2.2.2.2.2.2.2.2.2.2.2.2.2.2.1, hHeld.2.2.2.2.2.2.2.2.2.2.2.2.2.2.2.2.2.2.2.2.2.2.2.2.1, hHeld.2.2.2.2.2.2.2.2.2.2.2.2.2.2.2.2.2.2.2.2.2.2.2.2.2.1, hHeld.2.2.2.2.2.2.2.2.2.2.2.2.2.2.2.2.2.2.2.2.2.2.2.2.2.2.1, hHeld.2.2.2.2.2.2.2.2.2.2.2.2.2.2.2.2.2.2.2.2.2.2.2.2.2.2.2.1, hHeld.2.2.2.2.2.2.2.2.2.2.2.2.2.2.2.2.2.2.2.2.2.2.2.2.2.2.2.2.1, hHeld.2.2.2.2.2.2.2.2.2.2.2.2.2.2.2.2.2.2.2.2.2.2.2.2.2.2.2.2.2.1, hHeld.2.2.2.2.2.2.2.2.2.2.2.2.2.2.2.2.2.2.2.2.2.2.2.2.2.2.2.2.2.2.1, hHeld.2.2.2.2.2.2.2.2.2.2.2.2.2.2.2.2.2.2.2.2.2.2.2.2.2.2.2.2.2.2.2.1, hHeld.2.2.2.2.2.2.2.2.2.2.2.2.2.2.2.2.2.2.2.2.2.2.2.2.2.2.2.2.2.2.2.2.1, hHeld.2.2.2.2.2.2.2.2.2.2.2.2.2.2.2.2.2.2.2.2.2.2.2.2.2.2.2.2.2.2.2.2.2.1, hHeld.2.2.2.2.2.2.2.2.2.2.2.2.2.2.2.2.2.2.2.2.2.2.2.2.2.2.2.2.2.2.2.2.2.2.1, hHeld.2.2.2.2.2.2.2.2.2.2.2.2.2.2.2.2.2.2.2.2.2.2.2.2.2.2.2.2.2.2.2.2.2.2.2.1, hHeld.2.2.2.2.2.2.2.2.2.2.2.2.2.2.2.2.2.2.2.2.2.2.2.2.2.2.2.2.2.2.2.2.2.2.2.2.1, hHeld.2.2.2.2.2.2.2.2.2.2.2.2.2.2.2.2.2.2.2.2.2.2.2.2.2.2.2.2.2.2.2.2.2.2.2.2.2.1, hHeld.2.2.2.2.2.2.2.2.2.2.2.2.2.2.2.2.2.2.2.2.2.2.2.2.2.2.2.2.2.2.2.2.2.2.2.2.2.2.1, hHeld.2.2.2.2.2.2.2.2.2.2.2.2.2.2.2.2.2.2.2.2.2.2.2.2.2.2.2.2.2.2.2.2.2.2.2.2.2.2.2⟩ (fun hHeld => ?_)
  clear hK K
  refine norm_ (a' := ?_) ?_ ?_
  rotate_left
  ·show Act.put _ (some 144) _ = _
   simp only [Act.put, List.setIfInBounds_toArray, List.set_cons_zero, List.set_cons_succ, i64_w, i32_w]
   rfl
  refine pz 56 145 mk13_131 (any_of HT_.out (by kernel_rfl)) ?_
  refine pz 57 146 mk13_132 (any_of HT_.out (by kernel_rfl)) ?_
  refine pz 58 147 mk13_133 (any_of HT_.out (by kernel_rfl)) ?_
  refine done_ (done_of HT_.out (by kernel_rfl)) ?_
  try go_wp2
  go_roundg k3
  case measure => have := HK1.out; have := HJ9.out; have := HK3.out; omega
  case rel => exact ⟨(wrap64 (x6_3 + 1)), u13_4, H', ⟨by have := HK1.out; have := HJ9.out; have := HK3.out; omega⟩, ⟨by (with_reducible repeat (first | apply Kd.R_alloc | apply Kd.R_drewN | apply Kd.R_drew)); exact HO_3.out⟩, ⟨s13_2⟩⟩) : p := h
end Go.Proofs.Ytkedcokhcgklpaa.MFnLines
