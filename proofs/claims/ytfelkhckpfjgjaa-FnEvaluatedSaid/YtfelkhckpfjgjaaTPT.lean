/- Truth values: not, and, or; arities; nodes of logic variables. No condition. -/
import Derived.Test.YtfelkhckpfjgjaaTTR
set_option linter.unusedSimpArgs false
set_option linter.unusedVariables false
namespace Go.Vm
open Go.Proofs
def code_spec_NotOf : F := ⟨8,[.tmp 2],.seq (.reg [⟨some 2,.mov (.k (.int .i64 0)),none⟩]) (.seq (.seq (.reg [⟨some 3,.mov (.t 0),none⟩,⟨some 4,.call 53 [.t 3],none⟩,⟨some 5,.not (.t 4),none⟩]) (.cond (.t 5) (.seq (.reg [⟨some 2,.mov (.k (.int .i64 1)),none⟩]) (.ret)) (.skip))) (.seq (.reg [⟨some 6,.mov (.t 0),none⟩,⟨some 7,.bin .sub (.k (.int .i64 2)) (.t 6),none⟩,⟨some 2,.mov (.t 7),none⟩]) (.ret)))⟩
theorem fok_spec_NotOf : FOk Try.prog 79 code_spec_NotOf := fok Try.func79 (by kernel_rfl)
def code_impl_NotOf : F := ⟨8,[.tmp 2],.seq (.reg [⟨some 2,.mov (.k (.int .i64 0)),none⟩]) (.seq (.seq (.reg [⟨some 3,.mov (.t 0),none⟩,⟨some 4,.call 30 [.t 3],none⟩,⟨some 5,.not (.t 4),none⟩]) (.cond (.t 5) (.seq (.reg [⟨some 2,.mov (.k (.int .i64 1)),none⟩]) (.ret)) (.skip))) (.seq (.reg [⟨some 6,.mov (.t 0),none⟩,⟨some 7,.bin .sub (.k (.int .i64 2)) (.t 6),none⟩,⟨some 2,.mov (.t 7),none⟩]) (.ret)))⟩
theorem fok_impl_NotOf : FOk Try.prog 69 code_impl_NotOf := fok Try.func69 (by kernel_rfl)
def code_spec_AndOf : F := ⟨16,[.tmp 4],.seq (.reg [⟨some 4,.mov (.k (.int .i64 0)),none⟩]) (.seq (.seq (.reg [⟨some 5,.mov (.t 0),none⟩,⟨some 6,.call 53 [.t 5],none⟩,⟨some 7,.not (.t 6),none⟩,⟨some 8,.mov (.t 7),none⟩,⟨some 9,.mov (.t 1),some (8,false)⟩,⟨some 10,.call 53 [.t 9],some (8,false)⟩,⟨some 11,.not (.t 10),some (8,false)⟩,⟨some 12,.pick (.t 8) (.k (.bool true)) (.t 11),none⟩]) (.cond (.t 12) (.seq (.reg [⟨some 4,.mov (.k (.int .i64 1)),none⟩]) (.ret)) (.skip))) (.seq (.reg [⟨some 13,.mov (.t 0),none⟩,⟨some 14,.mov (.t 1),none⟩,⟨some 15,.call 113 [.t 13,.t 14],none⟩,⟨some 4,.mov (.t 15),none⟩]) (.ret)))⟩
theorem fok_spec_AndOf : FOk Try.prog 80 code_spec_AndOf := fok Try.func80 (by kernel_rfl)
def code_impl_AndOf : F := ⟨16,[.tmp 4],.seq (.reg [⟨some 4,.mov (.k (.int .i64 0)),none⟩]) (.seq (.seq (.reg [⟨some 5,.mov (.t 0),none⟩,⟨some 6,.call 30 [.t 5],none⟩,⟨some 7,.not (.t 6),none⟩,⟨some 8,.mov (.t 7),none⟩,⟨some 9,.mov (.t 1),some (8,false)⟩,⟨some 10,.call 30 [.t 9],some (8,false)⟩,⟨some 11,.not (.t 10),some (8,false)⟩,⟨some 12,.pick (.t 8) (.k (.bool true)) (.t 11),none⟩]) (.cond (.t 12) (.seq (.reg [⟨some 4,.mov (.k (.int .i64 1)),none⟩]) (.ret)) (.skip))) (.seq (.reg [⟨some 13,.mov (.t 0),none⟩,⟨some 14,.mov (.t 1),none⟩,⟨some 15,.min (.t 13) (.t 14),none⟩,⟨some 4,.mov (.t 15),none⟩]) (.ret)))⟩
theorem fok_impl_AndOf : FOk Try.prog 33 code_impl_AndOf := fok Try.func33 (by kernel_rfl)
def code_spec_OrOf : F := ⟨16,[.tmp 4],.seq (.reg [⟨some 4,.mov (.k (.int .i64 0)),none⟩]) (.seq (.seq (.reg [⟨some 5,.mov (.t 0),none⟩,⟨some 6,.call 53 [.t 5],none⟩,⟨some 7,.not (.t 6),none⟩,⟨some 8,.mov (.t 7),none⟩,⟨some 9,.mov (.t 1),some (8,false)⟩,⟨some 10,.call 53 [.t 9],some (8,false)⟩,⟨some 11,.not (.t 10),some (8,false)⟩,⟨some 12,.pick (.t 8) (.k (.bool true)) (.t 11),none⟩]) (.cond (.t 12) (.seq (.reg [⟨some 4,.mov (.k (.int .i64 1)),none⟩]) (.ret)) (.skip))) (.seq (.reg [⟨some 13,.mov (.t 0),none⟩,⟨some 14,.mov (.t 1),none⟩,⟨some 15,.call 63 [.t 13,.t 14],none⟩,⟨some 4,.mov (.t 15),none⟩]) (.ret)))⟩
theorem fok_spec_OrOf : FOk Try.prog 81 code_spec_OrOf := fok Try.func81 (by kernel_rfl)
def code_impl_OrOf : F := ⟨16,[.tmp 4],.seq (.reg [⟨some 4,.mov (.k (.int .i64 0)),none⟩]) (.seq (.seq (.reg [⟨some 5,.mov (.t 0),none⟩,⟨some 6,.call 30 [.t 5],none⟩,⟨some 7,.not (.t 6),none⟩,⟨some 8,.mov (.t 7),none⟩,⟨some 9,.mov (.t 1),some (8,false)⟩,⟨some 10,.call 30 [.t 9],some (8,false)⟩,⟨some 11,.not (.t 10),some (8,false)⟩,⟨some 12,.pick (.t 8) (.k (.bool true)) (.t 11),none⟩]) (.cond (.t 12) (.seq (.reg [⟨some 4,.mov (.k (.int .i64 1)),none⟩]) (.ret)) (.skip))) (.seq (.reg [⟨some 13,.mov (.t 0),none⟩,⟨some 14,.mov (.t 1),none⟩,⟨some 15,.max (.t 13) (.t 14),none⟩,⟨some 4,.mov (.t 15),none⟩]) (.ret)))⟩
theorem fok_impl_OrOf : FOk Try.prog 70 code_impl_OrOf := fok Try.func70 (by kernel_rfl)
def code_spec_ArityOf : F := ⟨24,[.tmp 2],.seq (.reg [⟨some 2,.mov (.k (.int .i64 0)),none⟩]) (.seq (.block 0 (.seq (.reg [⟨some 4,.mov (.t 0),none⟩,⟨some 5,.call 48 [.t 4,(.k (.int .i64 1)),(.k (.int .i64 7))],none⟩,⟨some 3,.mov (.t 5),none⟩]) (.cond (.t 3) (.seq (.reg [⟨some 2,.mov (.k (.int .i64 0)),none⟩]) (.ret)) (.seq (.reg [⟨some 7,.mov (.t 0),none⟩,⟨some 8,.bin .eql (.t 7) (.k (.int .i64 8)),none⟩,⟨some 9,.mov (.t 8),none⟩,⟨some 10,.mov (.t 0),some (9,false)⟩,⟨some 11,.bin .eql (.t 10) (.k (.int .i64 11)),some (9,false)⟩,⟨some 12,.pick (.t 9) (.k (.bool true)) (.t 11),none⟩,⟨some 13,.mov (.t 12),none⟩,⟨some 14,.mov (.t 0),some (13,false)⟩,⟨some 15,.bin .eql (.t 14) (.k (.int .i64 12)),some (13,false)⟩,⟨some 16,.pick (.t 13) (.k (.bool true)) (.t 15),none⟩,⟨some 6,.mov (.t 16),none⟩]) (.cond (.t 6) (.seq (.reg [⟨some 2,.mov (.k (.int .i64 1)),none⟩]) (.ret)) (.seq (.reg [⟨some 18,.mov (.t 0),none⟩,⟨some 19,.bin .eql (.t 18) (.k (.int .i64 9)),none⟩,⟨some 20,.mov (.t 19),none⟩,⟨some 21,.mov (.t 0),some (20,false)⟩,⟨some 22,.bin .eql (.t 21) (.k (.int .i64 10)),some (20,false)⟩,⟨some 23,.pick (.t 20) (.k (.bool true)) (.t 22),none⟩,⟨some 17,.mov (.t 23),none⟩]) (.cond (.t 17) (.seq (.reg [⟨some 2,.mov (.k (.int .i64 2)),none⟩]) (.ret)) (.skip)))))))) (.seq (.reg [⟨some 2,.mov (.k (.int .i64 (-1))),none⟩]) (.ret)))⟩
theorem fok_spec_ArityOf : FOk Try.prog 73 code_spec_ArityOf := fok Try.func73 (by kernel_rfl)
def code_impl_ArityOf : F := ⟨24,[.tmp 2],.seq (.reg [⟨some 2,.mov (.k (.int .i64 0)),none⟩]) (.seq (.block 0 (.seq (.reg [⟨some 4,.mov (.t 0),none⟩,⟨some 5,.call 68 [.t 4,(.k (.int .i64 1)),(.k (.int .i64 7))],none⟩,⟨some 3,.mov (.t 5),none⟩]) (.cond (.t 3) (.seq (.reg [⟨some 2,.mov (.k (.int .i64 0)),none⟩]) (.ret)) (.seq (.reg [⟨some 7,.mov (.t 0),none⟩,⟨some 8,.bin .eql (.t 7) (.k (.int .i64 8)),none⟩,⟨some 9,.mov (.t 8),none⟩,⟨some 10,.mov (.t 0),some (9,false)⟩,⟨some 11,.bin .eql (.t 10) (.k (.int .i64 11)),some (9,false)⟩,⟨some 12,.pick (.t 9) (.k (.bool true)) (.t 11),none⟩,⟨some 13,.mov (.t 12),none⟩,⟨some 14,.mov (.t 0),some (13,false)⟩,⟨some 15,.bin .eql (.t 14) (.k (.int .i64 12)),some (13,false)⟩,⟨some 16,.pick (.t 13) (.k (.bool true)) (.t 15),none⟩,⟨some 6,.mov (.t 16),none⟩]) (.cond (.t 6) (.seq (.reg [⟨some 2,.mov (.k (.int .i64 1)),none⟩]) (.ret)) (.seq (.reg [⟨some 18,.mov (.t 0),none⟩,⟨some 19,.bin .eql (.t 18) (.k (.int .i64 9)),none⟩,⟨some 20,.mov (.t 19),none⟩,⟨some 21,.mov (.t 0),some (20,false)⟩,⟨some 22,.bin .eql (.t 21) (.k (.int .i64 10)),some (20,false)⟩,⟨some 23,.pick (.t 20) (.k (.bool true)) (.t 22),none⟩,⟨some 17,.mov (.t 23),none⟩]) (.cond (.t 17) (.seq (.reg [⟨some 2,.mov (.k (.int .i64 2)),none⟩]) (.ret)) (.skip)))))))) (.seq (.reg [⟨some 2,.mov (.k (.int .i64 (-1))),none⟩]) (.ret)))⟩
theorem fok_impl_ArityOf : FOk Try.prog 66 code_impl_ArityOf := fok Try.func66 (by kernel_rfl)
def code_spec_l1Min : F := ⟨10,[.tmp 4],.seq (.reg [⟨some 4,.mov (.k (.int .i64 0)),none⟩]) (.seq (.seq (.reg [⟨some 5,.mov (.t 0),none⟩,⟨some 6,.mov (.t 1),none⟩,⟨some 7,.bin .lss (.t 5) (.t 6),none⟩]) (.cond (.t 7) (.seq (.reg [⟨some 8,.mov (.t 0),none⟩,⟨some 4,.mov (.t 8),none⟩]) (.ret)) (.skip))) (.seq (.reg [⟨some 9,.mov (.t 1),none⟩,⟨some 4,.mov (.t 9),none⟩]) (.ret)))⟩
theorem fok_spec_l1Min : FOk Try.prog 113 code_spec_l1Min := fok Try.func113 (by kernel_rfl)
def code_spec_l1Max : F := ⟨10,[.tmp 4],.seq (.reg [⟨some 4,.mov (.k (.int .i64 0)),none⟩]) (.seq (.seq (.reg [⟨some 5,.mov (.t 0),none⟩,⟨some 6,.mov (.t 1),none⟩,⟨some 7,.bin .gtr (.t 5) (.t 6),none⟩]) (.cond (.t 7) (.seq (.reg [⟨some 8,.mov (.t 0),none⟩,⟨some 4,.mov (.t 8),none⟩]) (.ret)) (.skip))) (.seq (.reg [⟨some 9,.mov (.t 1),none⟩,⟨some 4,.mov (.t 9),none⟩]) (.ret)))⟩
theorem fok_spec_l1Max : FOk Try.prog 63 code_spec_l1Max := fok Try.func63 (by kernel_rfl)
def code_spec_l13Truth : F := ⟨7,[.tmp 2],.seq (.reg [⟨some 2,.mov (.k (.int .i64 0)),none⟩]) (.seq (.seq (.reg [⟨some 3,.mov (.t 0),none⟩,⟨some 4,.call 53 [.t 3],none⟩,⟨some 5,.not (.t 4),none⟩]) (.cond (.t 5) (.seq (.reg [⟨some 2,.mov (.k (.int .i64 1)),none⟩]) (.ret)) (.skip))) (.seq (.reg [⟨some 6,.mov (.t 0),none⟩,⟨some 2,.mov (.t 6),none⟩]) (.ret)))⟩
theorem fok_spec_l13Truth : FOk Try.prog 74 code_spec_l13Truth := fok Try.func74 (by kernel_rfl)
def code_impl_known : F := ⟨7,[.tmp 2],.seq (.reg [⟨some 2,.mov (.k (.int .i64 0)),none⟩]) (.seq (.seq (.reg [⟨some 3,.mov (.t 0),none⟩,⟨some 4,.call 30 [.t 3],none⟩,⟨some 5,.not (.t 4),none⟩]) (.cond (.t 5) (.seq (.reg [⟨some 2,.mov (.k (.int .i64 1)),none⟩]) (.ret)) (.skip))) (.seq (.reg [⟨some 6,.mov (.t 0),none⟩,⟨some 2,.mov (.t 6),none⟩]) (.ret)))⟩
theorem fok_impl_known : FOk Try.prog 111 code_impl_known := fok Try.func111 (by kernel_rfl)
def code_impl_element : F := ⟨16,[.tmp 4],.seq (.reg [⟨some 4,.mov (.k (.int .i64 0)),none⟩]) (.seq (.seq (.reg [⟨some 5,.mov (.t 1),none⟩,⟨some 6,.mov (.t 0),none⟩,⟨some 7,.len (.t 6),none⟩,⟨some 8,.bin .sub (.t 7) (.k (.int .i64 1)),none⟩,⟨some 9,.call 68 [.t 5,(.k (.int .i64 0)),.t 8],none⟩,⟨some 10,.not (.t 9),none⟩]) (.cond (.t 10) (.seq (.reg [⟨some 4,.mov (.k (.int .i64 1)),none⟩]) (.ret)) (.skip))) (.seq (.reg [⟨some 11,.mov (.t 0),none⟩,⟨some 12,.mov (.t 1),none⟩,⟨some 13,.iaddr 1 (.t 11) (.t 12),none⟩,⟨some 14,.load 1 false (.t 13),none⟩,⟨some 15,.call 111 [.t 14],none⟩,⟨some 4,.mov (.t 15),none⟩]) (.ret)))⟩
theorem fok_impl_element : FOk Try.prog 110 code_impl_element := fok Try.func110 (by kernel_rfl)
def code_impl_usesU : F := ⟨9,[.tmp 2],.seq (.reg [⟨some 2,.mov (.k (.bool false)),none⟩]) (.seq (.reg [⟨some 3,.mov (.t 0),none⟩,⟨some 4,.call 68 [.t 3,(.k (.int .i64 2)),(.k (.int .i64 7))],none⟩,⟨some 5,.mov (.t 4),none⟩,⟨some 6,.mov (.t 0),some (5,false)⟩,⟨some 7,.call 67 [.t 6],some (5,false)⟩,⟨some 8,.pick (.t 5) (.k (.bool true)) (.t 7),none⟩,⟨some 2,.mov (.t 8),none⟩]) (.ret))⟩
theorem fok_impl_usesU : FOk Try.prog 108 code_impl_usesU := fok Try.func108 (by kernel_rfl)
def code_impl_usesV : F := ⟨5,[.tmp 2],.seq (.reg [⟨some 2,.mov (.k (.bool false)),none⟩]) (.seq (.reg [⟨some 3,.mov (.t 0),none⟩,⟨some 4,.call 68 [.t 3,(.k (.int .i64 5)),(.k (.int .i64 7))],none⟩,⟨some 2,.mov (.t 4),none⟩]) (.ret))⟩
theorem fok_impl_usesV : FOk Try.prog 109 code_impl_usesV := fok Try.func109 (by kernel_rfl)
def code_impl_isBinder : F := ⟨9,[.tmp 2],.seq (.reg [⟨some 2,.mov (.k (.bool false)),none⟩]) (.seq (.reg [⟨some 3,.mov (.t 0),none⟩,⟨some 4,.bin .eql (.t 3) (.k (.int .i64 11)),none⟩,⟨some 5,.mov (.t 4),none⟩,⟨some 6,.mov (.t 0),some (5,false)⟩,⟨some 7,.bin .eql (.t 6) (.k (.int .i64 12)),some (5,false)⟩,⟨some 8,.pick (.t 5) (.k (.bool true)) (.t 7),none⟩,⟨some 2,.mov (.t 8),none⟩]) (.ret))⟩
theorem fok_impl_isBinder : FOk Try.prog 67 code_impl_isBinder := fok Try.func67 (by kernel_rfl)
def code_impl_place : F := ⟨29,[.tmp 6],.seq (.reg [⟨some 3,.box (.t 0),none⟩,⟨some 6,.mov (.k (.int .i64 0)),none⟩]) (.seq (.seq (.dreg [true,true,true,true,false,false,false,true,true,true,false,false,false,false,false,true,true,true] [false,true,false,false,false,false,false,false,false,false,false,false,false,false,false,true,false,false] [⟨some 7,.mov (.t 2),none⟩,⟨some 8,.call 68 [.t 7,(.k (.int .i64 0)),(.k (.int .i64 3))],none⟩,⟨some 9,.not (.t 8),none⟩,⟨some 10,.mov (.t 9),none⟩,⟨some 11,.mov (.t 2),some (10,false)⟩,⟨some 12,.mov (.t 1),some (10,false)⟩,⟨some 13,.len (.t 12),some (10,false)⟩,⟨some 14,.bin .geq (.t 11) (.t 13),some (10,false)⟩,⟨some 15,.pick (.t 10) (.k (.bool true)) (.t 14),none⟩,⟨some 16,.mov (.t 15),none⟩,⟨some 17,.load 2 true (.t 3),some (16,false)⟩,⟨some 18,.mov (.t 1),some (16,false)⟩,⟨some 19,.mov (.t 2),some (16,false)⟩,⟨some 20,.iaddr 1 (.t 18) (.t 19),some (16,false)⟩,⟨some 21,.load 1 false (.t 20),some (16,false)⟩,⟨some 22,.call 82 [.t 17,.t 21],some (16,false)⟩,⟨some 23,.not (.t 22),some (16,false)⟩,⟨some 24,.pick (.t 16) (.k (.bool true)) (.t 23),none⟩]) (.cond (.t 24) (.seq (.reg [⟨some 6,.mov (.k (.int .i64 (-1))),none⟩]) (.ret)) (.skip))) (.seq (.reg [⟨some 25,.mov (.t 1),none⟩,⟨some 26,.mov (.t 2),none⟩,⟨some 27,.iaddr 1 (.t 25) (.t 26),none⟩,⟨some 28,.load 1 false (.t 27),none⟩,⟨some 6,.mov (.t 28),none⟩]) (.ret)))⟩
theorem fok_impl_place : FOk Try.prog 72 code_impl_place := fok Try.func72 (by kernel_rfl)
def code_spec_l13Node : F := ⟨33,[.tmp 6],.seq (.reg [⟨some 3,.box (.t 0),none⟩,⟨some 6,.mov (.k (.int .i64 0)),none⟩]) (.seq (.seq (.dreg [false,false,false,false,true,true,true,true,true,true,true,false,false,false,false,false,false,false,false,true,true,true] [false,false,false,false,true,false,false,false,false,false,false,false,false,false,false,false,false,false,false,true,false,false] [⟨some 7,.mov (.t 2),none⟩,⟨some 8,.mov (.t 1),none⟩,⟨some 9,.len (.t 8),none⟩,⟨some 10,.bin .sub (.t 9) (.k (.int .i64 1)),none⟩,⟨some 11,.call 48 [.t 7,(.k (.int .i64 0)),.t 10],none⟩,⟨some 12,.not (.t 11),none⟩,⟨some 13,.mov (.t 12),none⟩,⟨some 14,.mov (.t 2),some (13,false)⟩,⟨some 15,.bin .geq (.t 14) (.k (.int .i64 4)),some (13,false)⟩,⟨some 16,.pick (.t 13) (.k (.bool true)) (.t 15),none⟩,⟨some 17,.mov (.t 16),none⟩,⟨some 18,.mov (.t 1),some (17,false)⟩,⟨some 19,.mov (.t 2),some (17,false)⟩,⟨some 20,.iaddr 1 (.t 18) (.t 19),some (17,false)⟩,⟨some 21,.load 1 false (.t 20),some (17,false)⟩,⟨some 22,.faddr 0 (.t 3),some (17,false)⟩,⟨some 23,.load 1 false (.t 22),some (17,false)⟩,⟨some 24,.len (.t 23),some (17,false)⟩,⟨some 25,.bin .sub (.t 24) (.k (.int .i64 1)),some (17,false)⟩,⟨some 26,.call 48 [.t 21,(.k (.int .i64 0)),.t 25],some (17,false)⟩,⟨some 27,.not (.t 26),some (17,false)⟩,⟨some 28,.pick (.t 17) (.k (.bool true)) (.t 27),none⟩]) (.cond (.t 28) (.seq (.reg [⟨some 6,.mov (.k (.int .i64 (-1))),none⟩]) (.ret)) (.skip))) (.seq (.reg [⟨some 29,.mov (.t 1),none⟩,⟨some 30,.mov (.t 2),none⟩,⟨some 31,.iaddr 1 (.t 29) (.t 30),none⟩,⟨some 32,.load 1 false (.t 31),none⟩,⟨some 6,.mov (.t 32),none⟩]) (.ret)))⟩
theorem fok_spec_l13Node : FOk Try.prog 76 code_spec_l13Node := fok Try.func76 (by kernel_rfl)
def code_impl_sameNode : F := ⟨12,[.tmp 4],.seq (.reg [⟨some 2,.box (.t 0),none⟩,⟨some 4,.mov (.k (.int .i64 0)),none⟩]) (.seq (.seq (.reg [⟨some 5,.faddr 0 (.t 2),none⟩,⟨some 6,.load 1 false (.t 5),none⟩,⟨some 7,.mov (.t 1),none⟩,⟨some 8,.iaddr 4 (.t 6) (.t 7),none⟩,⟨some 9,.faddr 3 (.t 8),none⟩,⟨some 10,.load 1 false (.t 9),none⟩,⟨some 11,.bin .eql (.t 10) (.k (.int .i64 0)),none⟩]) (.cond (.t 11) (.seq (.reg [⟨some 4,.mov (.k (.int .i64 2)),none⟩]) (.ret)) (.skip))) (.seq (.reg [⟨some 4,.mov (.k (.int .i64 1)),none⟩]) (.ret)))⟩
theorem fok_impl_sameNode : FOk Try.prog 83 code_impl_sameNode := fok Try.func83 (by kernel_rfl)
def notT3 (a : Int) : Int := if isTruth a then 2 - a else 1
def andT (a b : Int) : Int := if isTruth a && isTruth b then (if a ≤ b then a else b) else 1
def orT (a b : Int) : Int := if isTruth a && isTruth b then (if a ≤ b then b else a) else 1
def knownT (a : Int) : Int := if isTruth a then a else 1
def arity (k : Int) : Int := if 1 ≤ k ∧ k ≤ 7 then 0 else if k = 8 ∨ k = 11 ∨ k = 12 then 1 else if k = 9 ∨ k = 10 then 2 else -1
theorem isTruth_iff (a : Int) : (isTruth a = true) = (0 ≤ a ∧ a ≤ 2) := by simp [isTruth]
theorem notT3_truth (a : Int) : isTruth (notT3 a) = true := by unfold notT3; simp only [isTruth_iff]; split <;> omega
theorem andT_truth (a b : Int) : isTruth (andT a b) = true := by unfold andT; simp only [Bool.and_eq_true, isTruth_iff]; (repeat' split) <;> omega
theorem orT_truth (a b : Int) : isTruth (orT a b) = true := by unfold orT; simp only [Bool.and_eq_true, isTruth_iff]; (repeat' split) <;> omega
theorem knownT_truth (a : Int) : isTruth (knownT a) = true := by unfold knownT; simp only [isTruth_iff]; (repeat' split) <;> omega
theorem knownT_of {a : Int} (h : isTruth a = true) : knownT a = a := by simp [knownT, h]
@[simp] def ct_sNotOf : Ct := ⟨79, Int, fun _ => True, fun x => [.int .i64 x], fun x => .int .i64 (notT3 x)⟩
theorem ok_sNotOf : ct_sNotOf.Ok Try.prog := by
  rintro a -
  change Int at a
  refine Ok.of_cw fok_spec_NotOf (go_ok (tab_cons ok_sIsTruth tab_nil) ?_)
  cases h : isTruth a
  · simp [code_spec_NotOf, List.replicate, notT3, h]
  · have h2 := h
    rw [isTruth_iff] at h2
    have hw : IntKind.i64.wrap (2 - a) = 2 - a := by rw [wrap_i64] <;> omega
    simp [code_spec_NotOf, List.replicate, notT3, h, hw]
@[simp] def ct_pNotOf : Ct := ⟨69, Int, fun _ => True, fun x => [.int .i64 x], fun x => .int .i64 (notT3 x)⟩
theorem ok_pNotOf : ct_pNotOf.Ok Try.prog := by
  rintro a -
  change Int at a
  refine Ok.of_cw fok_impl_NotOf (go_ok (tab_cons ok_pIsTruth tab_nil) ?_)
  cases h : isTruth a
  · simp [code_impl_NotOf, List.replicate, notT3, h]
  · have h2 := h
    rw [isTruth_iff] at h2
    have hw : IntKind.i64.wrap (2 - a) = 2 - a := by rw [wrap_i64] <;> omega
    simp [code_impl_NotOf, List.replicate, notT3, h, hw]
@[simp] def ct_l1Min : Ct := ⟨113, Int × Int, fun _ => True, fun x => [.int .i64 x.1, .int .i64 x.2], fun x => .int .i64 (if x.1 ≤ x.2 then x.1 else x.2)⟩
theorem ok_l1Min : ct_l1Min.Ok Try.prog := by
  rintro ⟨a, b⟩ -
  refine Ok.of_cw fok_spec_l1Min (go_ok tab_nil ?_)
  by_cases h : a ≤ b <;> by_cases h2 : a < b <;> by_cases h3 : b < a <;> simp [code_spec_l1Min, List.replicate, h, h2, h3] <;> omega
@[simp] def ct_l1Max : Ct := ⟨63, Int × Int, fun _ => True, fun x => [.int .i64 x.1, .int .i64 x.2], fun x => .int .i64 (if x.1 ≤ x.2 then x.2 else x.1)⟩
theorem ok_l1Max : ct_l1Max.Ok Try.prog := by
  rintro ⟨a, b⟩ -
  refine Ok.of_cw fok_spec_l1Max (go_ok tab_nil ?_)
  by_cases h : a ≤ b <;> by_cases h2 : a < b <;> by_cases h3 : b < a <;> simp [code_spec_l1Max, List.replicate, h, h2, h3] <;> omega
@[simp] def ct_sAndOf : Ct := ⟨80, Int × Int, fun _ => True, fun x => [.int .i64 x.1, .int .i64 x.2], fun x => .int .i64 (andT x.1 x.2)⟩
theorem ok_sAndOf : ct_sAndOf.Ok Try.prog := by
  rintro ⟨a, b⟩ -
  refine Ok.of_cw fok_spec_AndOf (go_ok (tab_cons ok_sIsTruth (tab_cons ok_l1Min tab_nil)) ?_)
  cases h : isTruth a <;> cases h2 : isTruth b <;> simp [code_spec_AndOf, List.replicate, andT, h, h2]
@[simp] def ct_pAndOf : Ct := ⟨33, Int × Int, fun _ => True, fun x => [.int .i64 x.1, .int .i64 x.2], fun x => .int .i64 (andT x.1 x.2)⟩
theorem ok_pAndOf : ct_pAndOf.Ok Try.prog := by
  rintro ⟨a, b⟩ -
  refine Ok.of_cw fok_impl_AndOf (go_ok (tab_cons ok_pIsTruth tab_nil) ?_)
  cases h : isTruth a <;> cases h2 : isTruth b <;> simp [code_impl_AndOf, List.replicate, andT, h, h2]
  grind
@[simp] def ct_sOrOf : Ct := ⟨81, Int × Int, fun _ => True, fun x => [.int .i64 x.1, .int .i64 x.2], fun x => .int .i64 (orT x.1 x.2)⟩
theorem ok_sOrOf : ct_sOrOf.Ok Try.prog := by
  rintro ⟨a, b⟩ -
  refine Ok.of_cw fok_spec_OrOf (go_ok (tab_cons ok_sIsTruth (tab_cons ok_l1Max tab_nil)) ?_)
  cases h : isTruth a <;> cases h2 : isTruth b <;> simp [code_spec_OrOf, List.replicate, orT, h, h2]
@[simp] def ct_pOrOf : Ct := ⟨70, Int × Int, fun _ => True, fun x => [.int .i64 x.1, .int .i64 x.2], fun x => .int .i64 (orT x.1 x.2)⟩
theorem ok_pOrOf : ct_pOrOf.Ok Try.prog := by
  rintro ⟨a, b⟩ -
  refine Ok.of_cw fok_impl_OrOf (go_ok (tab_cons ok_pIsTruth tab_nil) ?_)
  cases h : isTruth a <;> cases h2 : isTruth b <;> simp [code_impl_OrOf, List.replicate, orT, h, h2]
  grind
@[simp] def ct_sArityOf : Ct := ⟨73, Int, fun _ => True, fun x => [.int .i64 x], fun x => .int .i64 (arity x)⟩
theorem ok_sArityOf : ct_sArityOf.Ok Try.prog := by
  rintro a -
  change Int at a
  refine Ok.of_cw fok_spec_ArityOf (go_ok (tab_cons ok_l1In tab_nil) ?_)
  by_cases h : 1 ≤ a ∧ a ≤ 7
  · simp [code_spec_ArityOf, List.replicate, arity, h]
  · by_cases h1 : 8 ≤ a ∧ a ≤ 12
    · obtain rfl | rfl | rfl | rfl | rfl : a = 8 ∨ a = 9 ∨ a = 10 ∨ a = 11 ∨ a = 12 := by omega
      all_goals simp [code_spec_ArityOf, List.replicate, arity]
    · have n8 : a ≠ 8 := by omega
      have n9 : a ≠ 9 := by omega
      have n10 : a ≠ 10 := by omega
      have n11 : a ≠ 11 := by omega
      have n12 : a ≠ 12 := by omega
      by_cases g : 1 ≤ a
      · have g2 : ¬ a ≤ 7 := by omega
        simp [code_spec_ArityOf, List.replicate, arity, g, g2, n8, n9, n10, n11, n12]
        omega
      · simp [code_spec_ArityOf, List.replicate, arity, g, n8, n9, n10, n11, n12]
@[simp] def ct_pArityOf : Ct := ⟨66, Int, fun _ => True, fun x => [.int .i64 x], fun x => .int .i64 (arity x)⟩
theorem ok_pArityOf : ct_pArityOf.Ok Try.prog := by
  rintro a -
  change Int at a
  refine Ok.of_cw fok_impl_ArityOf (go_ok (tab_cons ok_within tab_nil) ?_)
  by_cases h : 1 ≤ a ∧ a ≤ 7
  · simp [code_impl_ArityOf, List.replicate, arity, h]
  · by_cases h1 : 8 ≤ a ∧ a ≤ 12
    · obtain rfl | rfl | rfl | rfl | rfl : a = 8 ∨ a = 9 ∨ a = 10 ∨ a = 11 ∨ a = 12 := by omega
      all_goals simp [code_impl_ArityOf, List.replicate, arity]
    · have n8 : a ≠ 8 := by omega
      have n9 : a ≠ 9 := by omega
      have n10 : a ≠ 10 := by omega
      have n11 : a ≠ 11 := by omega
      have n12 : a ≠ 12 := by omega
      by_cases g : 1 ≤ a
      · have g2 : ¬ a ≤ 7 := by omega
        simp [code_impl_ArityOf, List.replicate, arity, g, g2, n8, n9, n10, n11, n12]
        omega
      · simp [code_impl_ArityOf, List.replicate, arity, g, n8, n9, n10, n11, n12]
@[simp] def ct_l13Truth : Ct := ⟨74, Int, fun _ => True, fun x => [.int .i64 x], fun x => .int .i64 (knownT x)⟩
theorem ok_l13Truth : ct_l13Truth.Ok Try.prog := by
  rintro a -
  change Int at a
  refine Ok.of_cw fok_spec_l13Truth (go_ok (tab_cons ok_sIsTruth tab_nil) ?_)
  cases h : isTruth a <;> simp [code_spec_l13Truth, List.replicate, knownT, h]
@[simp] def ct_known : Ct := ⟨111, Int, fun _ => True, fun x => [.int .i64 x], fun x => .int .i64 (knownT x)⟩
theorem ok_known : ct_known.Ok Try.prog := by
  rintro a -
  change Int at a
  refine Ok.of_cw fok_impl_known (go_ok (tab_cons ok_pIsTruth tab_nil) ?_)
  cases h : isTruth a <;> simp [code_impl_known, List.replicate, knownT, h]
@[simp] def ct_element : Ct := ⟨110, List Int × Int, fun x => x.1.length ≤ 1048576, fun x => [encL 1 encInt x.1, .int .i64 x.2], fun x => .int .i64 (knownT (at1 x.1 x.2))⟩
theorem ok_element : ct_element.Ok Try.prog := by
  rintro ⟨l, k⟩ h
  change l.length ≤ 1048576 at h
  refine Ok.of_cw fok_impl_element (go_ok (tab_cons ok_within (tab_cons ok_known tab_nil)) ?_)
  have hw : IntKind.i64.wrap ((l.length : Int) - 1) = (l.length : Int) - 1 := by rw [wrap_i64] <;> omega
  by_cases c : 0 ≤ k ∧ k ≤ (l.length : Int) - 1
  · have c2 : k.toNat < l.length := by omega
    have c3 : k < l.length := by omega
    simp [code_impl_element, List.replicate, hw, at1, c, c2, c3]
    omega
  · have c3 : ¬ (0 ≤ k ∧ k < l.length) := by omega
    by_cases c4 : 0 ≤ k
    · have c5 : ¬ (k ≤ (l.length : Int) - 1) := by omega
      have c6 : ¬ k < (l.length : Int) := by omega
      simp [code_impl_element, List.replicate, hw, at1, c6, c4, c5, knownT, isTruth]
      omega
    · simp [code_impl_element, List.replicate, hw, at1, c3, c4, knownT, isTruth]
def useU (k : Int) : Bool := decide (2 ≤ k) && decide (k ≤ 7) || (decide (k = 11) || decide (k = 12))
def useV (k : Int) : Bool := decide (5 ≤ k) && decide (k ≤ 7)
def binder (k : Int) : Bool := decide (k = 11) || decide (k = 12)
@[simp] def ct_isBinder : Ct := ⟨67, Int, fun _ => True, fun x => [.int .i64 x], fun x => .bool (binder x)⟩
theorem ok_isBinder : ct_isBinder.Ok Try.prog := by
  rintro a -
  change Int at a
  refine Ok.of_cw fok_impl_isBinder (go_ok tab_nil ?_)
  by_cases h : a = 11 <;> by_cases h2 : a = 12 <;> simp [code_impl_isBinder, List.replicate, binder, h, h2]
@[simp] def ct_usesU : Ct := ⟨108, Int, fun _ => True, fun x => [.int .i64 x], fun x => .bool (useU x)⟩
theorem ok_usesU : ct_usesU.Ok Try.prog := by
  rintro a -
  change Int at a
  refine Ok.of_cw fok_impl_usesU (go_ok (tab_cons ok_within (tab_cons ok_isBinder tab_nil)) ?_)
  by_cases h : 2 ≤ a
  · by_cases h2 : a ≤ 7
    · simp [code_impl_usesU, List.replicate, useU, binder, h, h2]
      omega
    · simp [code_impl_usesU, List.replicate, useU, binder, h, h2]
  · simp [code_impl_usesU, List.replicate, useU, binder, h]
@[simp] def ct_usesV : Ct := ⟨109, Int, fun _ => True, fun x => [.int .i64 x], fun x => .bool (useV x)⟩
theorem ok_usesV : ct_usesV.Ok Try.prog := by
  rintro a -
  change Int at a
  refine Ok.of_cw fok_impl_usesV (go_ok (tab_cons ok_within tab_nil) ?_)
  simp [code_impl_usesV, List.replicate, useV]
def nodeOf (s : Strc) (nodes : List Int) (u : Int) : Int := if 0 ≤ u ∧ u ≤ 3 ∧ u < nodes.length ∧ inN s (nodes.getD u.toNat 0) then nodes.getD u.toNat 0 else -1
theorem nodeOf_or (s : Strc) (nodes : List Int) (u : Int) : nodeOf s nodes u = -1 ∨ inN s (nodeOf s nodes u) := by
  unfold nodeOf
  split
  · rename_i h; exact .inr h.2.2.2
  · exact .inl rfl
@[simp] def ct_place : Ct := ⟨72, Strc × List Int × Int, fun x => x.2.1.length ≤ 1048576, fun x => [encStrc x.1, encL 1 encInt x.2.1, .int .i64 x.2.2], fun x => .int .i64 (nodeOf x.1 x.2.1 x.2.2)⟩
theorem ok_place : ct_place.Ok Try.prog := by
  rintro ⟨s, l, u⟩ h
  change l.length ≤ 1048576 at h
  refine Ok.of_cw fok_impl_place (go_ok (tab_cons ok_within (tab_cons ok_isNode tab_nil)) ?_)
  by_cases c1 : 0 ≤ u
  case neg => simp [code_impl_place, List.replicate, nodeOf, c1]
  by_cases c2 : u ≤ 3
  case neg => simp [code_impl_place, List.replicate, nodeOf, c1, c2]
  by_cases c3 : u < l.length
  case neg =>
    have c3' : (l.length : Int) ≤ u := by omega
    simp [code_impl_place, List.replicate, nodeOf, c1, c2, c3, c3']
  have c3' : ¬ ((l.length : Int) ≤ u) := by omega
  have c4 : u.toNat < l.length := by omega
  have e : l.getD u.toNat 0 = l[u.toNat] := by simp [List.getD_eq_getElem?_getD, c4]
  have hR : nodeOf s l u = if 0 ≤ u ∧ u ≤ 3 ∧ u < l.length ∧ inN s l[u.toNat] then l[u.toNat] else -1 := by unfold nodeOf; rw [e]
  simp only [ct_place]
  rw [hR]
  by_cases c5 : inN s l[u.toNat]
  · have c6 := c5
    unfold inN at c6
    simp [code_impl_place, List.replicate, c1, c2, c3, c3', c4, c5, c6]
    try omega
  · have c6 := c5
    unfold inN at c6
    simp [code_impl_place, List.replicate, c1, c2, c3, c3', c4, c5]
    grind
@[simp] def ct_l13Node : Ct := ⟨76, Strc × List Int × Int, fun x => szStrc x.1 ≤ 1048576 ∧ x.2.1.length ≤ 1048576, fun x => [encStrc x.1, encL 1 encInt x.2.1, .int .i64 x.2.2], fun x => .int .i64 (nodeOf x.1 x.2.1 x.2.2)⟩
theorem ok_l13Node : ct_l13Node.Ok Try.prog := by
  rintro ⟨s, l, u⟩ ⟨hs, h⟩
  change szStrc s ≤ 1048576 at hs
  change l.length ≤ 1048576 at h
  have hs := strc_le s
  refine Ok.of_cw fok_spec_l13Node (go_ok (tab_cons ok_l1In tab_nil) ?_)
  have hw : IntKind.i64.wrap ((l.length : Int) - 1) = (l.length : Int) - 1 := by rw [wrap_i64] <;> omega
  have hw2 : IntKind.i64.wrap ((s.nodes.length : Int) - 1) = (s.nodes.length : Int) - 1 := by rw [wrap_i64] <;> omega
  by_cases c1 : 0 ≤ u
  case neg => simp [code_spec_l13Node, List.replicate, nodeOf, c1, hw, hw2]
  by_cases c3 : u < l.length
  case neg =>
    have c3' : ¬ (u ≤ (l.length : Int) - 1) := by omega
    simp [code_spec_l13Node, List.replicate, nodeOf, c1, c3, c3', hw, hw2]
  have c3' : (u ≤ (l.length : Int) - 1) := by omega
  by_cases c2 : u ≤ 3
  case neg =>
    have c2' : 4 ≤ u := by omega
    simp [code_spec_l13Node, List.replicate, nodeOf, c1, c2, c2', c3, c3', hw, hw2]
  have c2' : ¬ 4 ≤ u := by omega
  have c4 : u.toNat < l.length := by omega
  have e : l.getD u.toNat 0 = l[u.toNat] := by simp [List.getD_eq_getElem?_getD, c4]
  have hR : nodeOf s l u = if 0 ≤ u ∧ u ≤ 3 ∧ u < l.length ∧ inN s l[u.toNat] then l[u.toNat] else -1 := by unfold nodeOf; rw [e]
  simp only [ct_l13Node]
  rw [hR]
  by_cases c5 : inN s l[u.toNat]
  · have c6 := c5
    unfold inN at c6
    simp [code_spec_l13Node, List.replicate, c1, c2, c2', c3, c3', c4, c5, c6, hw, hw2]
    omega
  · have c6 := c5
    unfold inN at c6
    simp [code_spec_l13Node, List.replicate, c1, c2, c2', c3, c3', c4, c5, hw, hw2]
    grind
def sameT (s : Strc) (i : Int) : Int := if (s.nodes.getD i.toNat default).many = 0 then 2 else 1
@[simp] def ct_sameNode : Ct := ⟨83, Strc × Int, fun x => inN x.1 x.2, fun x => [encStrc x.1, .int .i64 x.2], fun x => .int .i64 (sameT x.1 x.2)⟩
theorem ok_sameNode : ct_sameNode.Ok Try.prog := by
  rintro ⟨s, i⟩ hi
  change inN s i at hi
  unfold inN at hi
  have c4 : i.toNat < s.nodes.length := by omega
  have c5 : i < s.nodes.length := by omega
  have e : s.nodes.getD i.toNat default = s.nodes[i.toNat] := by simp [List.getD_eq_getElem?_getD, c4]
  have hR : sameT s i = if s.nodes[i.toNat].many = 0 then 2 else 1 := by unfold sameT; rw [e]
  simp only [ct_sameNode]
  rw [hR]
  refine Ok.of_cw fok_impl_sameNode (go_ok tab_nil ?_)
  by_cases c : s.nodes[i.toNat].many = 0 <;> simp [code_impl_sameNode, List.replicate, hi.1, c4, c5, c]
end Go.Vm
namespace Go.Vm
open Go.Proofs
inductive Rch (e : Nat → Nat → Prop) (i : Nat) : Nat → Prop where
  | one {y : Nat} (h : e i y) : Rch e i y
  | more {x y : Nat} (h : Rch e i x) (g : e x y) : Rch e i y
def edgeG (s : Strc) (v : Int) (x y : Nat) : Prop := x < s.nodes.length ∧ y < s.nodes.length ∧ v ≤ nextOf s x y
theorem rch_lt {s : Strc} {v : Int} {i j : Nat} (h : Rch (edgeG s v) i j) : j < s.nodes.length := by
  cases h with
  | one h => exact h.2.1
  | more _ g => exact g.2.1
noncomputable def rchB (s : Strc) (v : Int) (i j : Nat) : Bool := @decide (Rch (edgeG s v) i j) (Classical.propDecidable _)
theorem rchB_iff {s : Strc} {v : Int} {i j : Nat} : (rchB s v i j = true) = Rch (edgeG s v) i j := by unfold rchB; exact propext (@decide_eq_true_iff _ (Classical.propDecidable _))
theorem rchB_not {s : Strc} {v : Int} {i j : Nat} : (rchB s v i j = false) = ¬ Rch (edgeG s v) i j := by unfold rchB; exact propext (@decide_eq_false_iff_not _ (Classical.propDecidable _))
theorem rch_mono {s : Strc} {v v' : Int} (hv : v ≤ v') {i j : Nat} (h : Rch (edgeG s v') i j) : Rch (edgeG s v) i j := by
  induction h with
  | one h => exact .one ⟨h.1, h.2.1, by have := h.2.2; omega⟩
  | more _ g ih => exact .more ih ⟨g.1, g.2.1, by have := g.2.2; omega⟩
noncomputable def pathT (s : Strc) (i j : Int) : Int :=
  if inN s i ∧ inN s j then
    if rchB s 2 i.toNat j.toNat = true then 2
    else if i = j ∧ sameT s i = 2 then 2
    else if rchB s 1 i.toNat j.toNat = true then 1
    else if i = j then 1 else 0
  else 1
theorem pathT_truth (s : Strc) (i j : Int) : isTruth (pathT s i j) = true := by
  unfold pathT
  (repeat' split) <;> simp [isTruth]
def mx (a b : Int) : Int := if a ≤ b then b else a
def mn (a b : Int) : Int := if a ≤ b then a else b
def upd1 (s : Strc) (a b : Nat) (best : List Int) : List Int := best.set b (mx (best.getD b 0) (mn (best.getD a 0) (nextOf s a b)))
def updB (s : Strc) (a : Nat) : Nat → List Int → List Int
  | 0, best => best
  | b + 1, best => upd1 s a b (updB s a b best)
def updA (s : Strc) : Nat → List Int → List Int
  | 0, best => best
  | a + 1, best => updB s a s.nodes.length (updA s a best)
def rounds (s : Strc) : Nat → List Int → List Int
  | 0, best => best
  | r + 1, best => updA s s.nodes.length (rounds s r best)
def best0 (s : Strc) (i : Nat) (n : Nat) : List Int := (List.range n).map fun b => nextOf s i (b : Nat)
def rowT0 (s : Strc) (i : Nat) : List Int := rounds s s.nodes.length (best0 s i s.nodes.length)
def rowP (s : Strc) (i : Nat) : List Int := (rowT0 s i).set i (mx ((rowT0 s i).getD i 0) (sameT s i))
@[simp] theorem upd1_len (s : Strc) (a b : Nat) (l : List Int) : (upd1 s a b l).length = l.length := by simp [upd1]
@[simp] theorem updB_len (s : Strc) (a : Nat) : ∀ (b : Nat) (l : List Int), (updB s a b l).length = l.length
  | 0, _ => rfl
  | b + 1, l => by simp [updB, updB_len s a b l]
@[simp] theorem updA_len (s : Strc) : ∀ (a : Nat) (l : List Int), (updA s a l).length = l.length
  | 0, _ => rfl
  | a + 1, l => by simp [updA, updA_len s a l]
@[simp] theorem rounds_len (s : Strc) : ∀ (r : Nat) (l : List Int), (rounds s r l).length = l.length
  | 0, _ => rfl
  | r + 1, l => by simp [rounds, rounds_len s r l]
@[simp] theorem best0_len (s : Strc) (i n : Nat) : (best0 s i n).length = n := by simp [best0]
theorem best0_succ (s : Strc) (i n : Nat) : best0 s i (n + 1) = best0 s i n ++ [nextOf s i (n : Nat)] := by simp [best0, List.range_succ]
@[simp] theorem rowT0_len (s : Strc) (i : Nat) : (rowT0 s i).length = s.nodes.length := by simp [rowT0]
@[simp] theorem rowP_len (s : Strc) (i : Nat) : (rowP s i).length = s.nodes.length := by simp [rowP]
def At (v : Int) (l : List Int) (b : Nat) : Prop := b < l.length ∧ v ≤ l.getD b 0
theorem at_upd {s : Strc} {v : Int} {a b : Nat} {l : List Int} (c : Nat) (ha : a < l.length) : At v (upd1 s a b l) c ↔ At v l c ∨ (c = b ∧ b < l.length ∧ At v l a ∧ v ≤ nextOf s a b) := by
  unfold At upd1
  simp only [List.length_set]
  by_cases hcb : b = c
  · subst hcb
    by_cases hb : b < l.length
    · simp only [List.getD_eq_getElem?_getD, List.getElem?_set_self hb, Option.getD_some, hb, ha, true_and]
      unfold mx mn
      constructor
      · intro h
        (repeat' split at h) <;> omega
      · intro h
        (repeat' split) <;> omega
    · simp [hb]
  · simp only [List.getD_eq_getElem?_getD, List.getElem?_set_ne hcb]
    constructor
    · intro h; exact .inl h
    · rintro (h | h)
      · exact h
      · exact absurd h.1.symm hcb
theorem at_sound {s : Strc} {v : Int} {i : Nat} {l : List Int} (hl : l.length = s.nodes.length) (h : ∀ c, At v l c → Rch (edgeG s v) i c) {a b : Nat} (ha : a < s.nodes.length) :
    ∀ c, At v (upd1 s a b l) c → Rch (edgeG s v) i c := by
  intro c hc
  rcases (at_upd c (by omega)).1 hc with hc | ⟨rfl, hb, h1, h2⟩
  · exact h c hc
  · exact .more (h a h1) ⟨ha, by omega, h2⟩
theorem updB_sound {s : Strc} {v : Int} {i a : Nat} (ha : a < s.nodes.length) : ∀ (b : Nat) {l : List Int}, l.length = s.nodes.length → (∀ c, At v l c → Rch (edgeG s v) i c) → ∀ c, At v (updB s a b l) c → Rch (edgeG s v) i c
  | 0, _, _, h => h
  | b + 1, l, hl, h => at_sound (by simp [hl]) (updB_sound ha b hl h) ha
theorem updA_sound {s : Strc} {v : Int} {i : Nat} : ∀ (a : Nat), a ≤ s.nodes.length → ∀ {l : List Int}, l.length = s.nodes.length → (∀ c, At v l c → Rch (edgeG s v) i c) → ∀ c, At v (updA s a l) c → Rch (edgeG s v) i c
  | 0, _, _, _, h => h
  | a + 1, ha, l, hl, h => updB_sound (by omega) _ (by simp [hl]) (updA_sound a (by omega) hl h)
theorem rounds_sound {s : Strc} {v : Int} {i : Nat} : ∀ (r : Nat) {l : List Int}, l.length = s.nodes.length → (∀ c, At v l c → Rch (edgeG s v) i c) → ∀ c, At v (rounds s r l) c → Rch (edgeG s v) i c
  | 0, _, _, h => h
  | r + 1, l, hl, h => updA_sound _ (Nat.le_refl _) (by simp [hl]) (rounds_sound r hl h)
theorem updB_mono {s : Strc} {v : Int} {a : Nat} : ∀ (b : Nat) {l : List Int}, a < l.length → ∀ c, At v l c → At v (updB s a b l) c
  | 0, _, _, _, h => h
  | b + 1, l, ha, c, h => (at_upd c (by simpa using ha)).2 (.inl (updB_mono b ha c h))
theorem updB_hit {s : Strc} {v : Int} {a : Nat} : ∀ (b : Nat) {l : List Int}, a < l.length → At v l a → ∀ c, c < b → c < l.length → v ≤ nextOf s a c → At v (updB s a b l) c
  | 0, _, _, _, c, hc, _, _ => by omega
  | b + 1, l, ha, h, c, hc, hl, hv => by
    refine (at_upd c (by simpa using ha)).2 ?_
    by_cases e : c = b
    · subst e; exact .inr ⟨rfl, by simpa using hl, updB_mono c ha a h, hv⟩
    · exact .inl (updB_hit b ha h c (by omega) hl hv)
theorem updA_mono {s : Strc} {v : Int} : ∀ (a : Nat) {l : List Int}, a ≤ l.length → ∀ c, At v l c → At v (updA s a l) c
  | 0, _, _, _, h => h
  | a + 1, l, ha, c, h => updB_mono _ (by simp; omega) c (updA_mono a (by omega) c h)
theorem updA_hit {s : Strc} {v : Int} : ∀ (n : Nat) {l : List Int}, n ≤ l.length → l.length = s.nodes.length → ∀ a, a < n → At v l a → ∀ c, c < l.length → v ≤ nextOf s a c → At v (updA s n l) c
  | 0, _, _, _, a, ha, _, _, _, _ => by omega
  | n + 1, l, hn, hl, a, ha, h, c, hc, hv => by
    by_cases e : a = n
    · subst e; exact updB_hit _ (by simp; omega) (updA_mono a (by omega) a h) c (by omega) (by simpa using hc) hv
    · exact updB_mono _ (by simp; omega) c (updA_hit n (by omega) hl a (by omega) h c hc hv)
theorem rounds_mono {s : Strc} {v : Int} : ∀ (r : Nat) {l : List Int}, l.length = s.nodes.length → ∀ c, At v l c → At v (rounds s r l) c
  | 0, _, _, _, h => h
  | r + 1, l, hl, c, h => updA_mono _ (by simp [hl]) c (rounds_mono r hl c h)
noncomputable def atB (v : Int) (l : List Int) (c : Nat) : Bool := @decide (At v l c) (Classical.propDecidable _)
theorem atB_iff {v : Int} {l : List Int} {c : Nat} : atB v l c = true ↔ At v l c := by unfold atB; exact @decide_eq_true_iff _ (Classical.propDecidable _)
noncomputable def many (v : Int) (l : List Int) : Nat := (List.range l.length).countP (atB v l)
theorem countP_lt {α : Type} {p q : α → Bool} : ∀ {l : List α}, (∀ x ∈ l, p x = true → q x = true) → (∃ x ∈ l, p x = false ∧ q x = true) → l.countP p < l.countP q
  | [], _, h => by obtain ⟨x, hx, _⟩ := h; cases hx
  | a :: l, h, g => by
    obtain ⟨x, hx, h1, h2⟩ := g
    rw [List.countP_cons, List.countP_cons]
    have hle : l.countP p ≤ l.countP q := List.countP_mono_left fun y hy k => h y (by simp [hy]) k
    rcases List.mem_cons.1 hx with rfl | hx
    · simp [h1, h2]; omega
    · have := countP_lt (l := l) (fun y hy k => h y (by simp [hy]) k) ⟨x, hx, h1, h2⟩
      have h3 := h a (by simp)
      cases hp : p a
      · simp; omega
      · simp [h3 hp]; omega
theorem many_lt {v : Int} {l l' : List Int} (hl : l.length = l'.length) (h : ∀ c, At v l c → At v l' c) {b : Nat} (h1 : ¬ At v l b) (h2 : At v l' b) : many v l < many v l' := by
  unfold many
  rw [hl]
  refine countP_lt (fun x _ k => atB_iff.2 (h x (atB_iff.1 k))) ⟨b, by simpa using h2.1, ?_, atB_iff.2 h2⟩
  cases c : atB v l b
  · rfl
  · exact absurd (atB_iff.1 c) h1
theorem many_full {v : Int} {l : List Int} (h : l.length ≤ many v l) : ∀ c, c < l.length → At v l c := by
  intro c hc
  by_cases g : At v l c
  · exact g
  · exfalso
    have : many v l < (List.range l.length).countP (fun _ => true) := by
      unfold many
      refine countP_lt (fun _ _ _ => rfl) ⟨c, by simpa using hc, ?_, rfl⟩
      cases e : atB v l c
      · rfl
      · exact absurd (atB_iff.1 e) g
    simp at this
    omega
theorem rounds_found {s : Strc} {v : Int} {i : Nat} {l : List Int} (hl : l.length = s.nodes.length) (h0 : ∀ c, edgeG s v i c → At v l c) (hs : ∀ c, At v l c → Rch (edgeG s v) i c) :
    ∀ r, (∀ c, Rch (edgeG s v) i c → At v (rounds s r l) c) ∨ r ≤ many v (rounds s r l)
  | 0 => .inr (by omega)
  | r + 1 => by
    by_cases g : ∀ c, Rch (edgeG s v) i c → At v (rounds s r l) c
    · exact .inl fun c hc => updA_mono _ (by simp [hl]) c (g c hc)
    · right
      have hr : r ≤ many v (rounds s r l) := by
        rcases rounds_found hl h0 hs r with h | h
        · exact absurd h g
        · exact h
      have hnot : ∃ a b, At v (rounds s r l) a ∧ edgeG s v a b ∧ ¬ At v (rounds s r l) b := by
        refine Classical.byContradiction fun hno => g fun c hc => ?_
        induction hc with
        | one h => exact rounds_mono r hl _ (h0 _ h)
        | @more x y _ e ih =>
          exact Classical.byContradiction fun hny => hno ⟨x, y, ih, e, hny⟩
      obtain ⟨a, b, h1, h2, h3⟩ := hnot
      have h4 : At v (rounds s (r + 1) l) b := updA_hit _ (by simp [hl]) (by simp [hl]) a h2.1 h1 b (by simp [hl]; exact h2.2.1) h2.2.2
      have := many_lt (v := v) (l := rounds s r l) (l' := rounds s (r + 1) l) (by simp) (fun c hc => updA_mono _ (by simp [hl]) c hc) h3 h4
      omega
theorem rowT0_at {s : Strc} {v : Int} {i : Nat} (hi : i < s.nodes.length) (c : Nat) : At v (rowT0 s i) c ↔ Rch (edgeG s v) i c := by
  have hl : (best0 s i s.nodes.length).length = s.nodes.length := by simp
  have hb : ∀ c, c < s.nodes.length → (best0 s i s.nodes.length).getD c 0 = nextOf s i (c : Nat) := by
    intro c hc
    simp [best0, List.getD_eq_getElem?_getD, hc]
  have h0 : ∀ c, edgeG s v i c → At v (best0 s i s.nodes.length) c := fun c h => ⟨by simpa using h.2.1, by rw [hb c h.2.1]; exact h.2.2⟩
  have hs : ∀ c, At v (best0 s i s.nodes.length) c → Rch (edgeG s v) i c := fun c h => by
    have h1 : c < s.nodes.length := by simpa using h.1
    have h2 := h.2
    rw [hb c h1] at h2
    exact .one ⟨hi, h1, h2⟩
  constructor
  · exact rounds_sound _ hl hs c
  · intro h
    rcases rounds_found hl h0 hs s.nodes.length with g | g
    · exact g c h
    · exact many_full (by rw [rowT0_len]; exact g) c (by rw [rowT0_len]; exact rch_lt h)
theorem at_val {l : List Int} {c : Nat} (hc : c < l.length) (h : isTruth (l.getD c 0) = true) : l.getD c 0 = if atB 2 l c = true then 2 else if atB 1 l c = true then 1 else 0 := by
  rw [isTruth_iff] at h
  have e : ∀ v, (atB v l c = true) = (v ≤ l.getD c 0) := fun v => propext (atB_iff.trans ⟨fun g => g.2, fun g => ⟨hc, g⟩⟩)
  simp only [e]
  (repeat' split) <;> omega
def truthS (s : Strc) : Prop := ∀ x ∈ s.next, isTruth x = true
theorem nextOf_truth {s : Strc} (h : truthS s) (i j : Int) : isTruth (nextOf s i j) = true := by
  unfold nextOf
  split
  · rename_i g
    rw [List.getD_eq_getElem?_getD]
    cases e : s.next[(i * s.nodes.length + j).toNat]? with
    | none => simp [isTruth]
    | some v => simpa using h v (List.mem_of_getElem? e)
  · simp [isTruth]
theorem mx_truth {a b : Int} (h : isTruth a = true) (g : isTruth b = true) : isTruth (mx a b) = true := by unfold mx; split <;> assumption
theorem mn_truth {a b : Int} (h : isTruth a = true) (g : isTruth b = true) : isTruth (mn a b) = true := by unfold mn; split <;> assumption
theorem getD_truth {l : List Int} (h : ∀ x ∈ l, isTruth x = true) (c : Nat) : isTruth (l.getD c 0) = true := by
  rw [List.getD_eq_getElem?_getD]
  cases e : l[c]? with
  | none => simp [isTruth]
  | some v => simpa using h v (List.mem_of_getElem? e)
theorem upd1_truth {s : Strc} (h : truthS s) {a b : Nat} {l : List Int} (hl : ∀ x ∈ l, isTruth x = true) : ∀ x ∈ upd1 s a b l, isTruth x = true := by
  intro x hx
  unfold upd1 at hx
  rcases List.mem_or_eq_of_mem_set hx with hx | rfl
  · exact hl x hx
  · exact mx_truth (getD_truth hl _) (mn_truth (getD_truth hl _) (nextOf_truth h _ _))
theorem updB_truth {s : Strc} (h : truthS s) {a : Nat} : ∀ (b : Nat) {l : List Int}, (∀ x ∈ l, isTruth x = true) → ∀ x ∈ updB s a b l, isTruth x = true
  | 0, _, hl => hl
  | b + 1, _, hl => upd1_truth h (updB_truth h b hl)
theorem updA_truth {s : Strc} (h : truthS s) : ∀ (a : Nat) {l : List Int}, (∀ x ∈ l, isTruth x = true) → ∀ x ∈ updA s a l, isTruth x = true
  | 0, _, hl => hl
  | a + 1, _, hl => updB_truth h _ (updA_truth h a hl)
theorem rounds_truth {s : Strc} (h : truthS s) : ∀ (r : Nat) {l : List Int}, (∀ x ∈ l, isTruth x = true) → ∀ x ∈ rounds s r l, isTruth x = true
  | 0, _, hl => hl
  | r + 1, _, hl => updA_truth h _ (rounds_truth h r hl)
theorem rowT0_truth {s : Strc} (h : truthS s) (i : Nat) : ∀ x ∈ rowT0 s i, isTruth x = true := by
  refine rounds_truth h _ fun x hx => ?_
  simp only [best0, List.mem_map] at hx
  obtain ⟨b, _, rfl⟩ := hx
  exact nextOf_truth h _ _
theorem rowP_path {s : Strc} (h : truthS s) {i j : Int} (hi : inN s i) (hj : inN s j) : (rowP s i.toNat).getD j.toNat 0 = pathT s i j := by
  have hi' := hi
  have hj' := hj
  unfold inN at hi' hj'
  have hin : i.toNat < s.nodes.length := by omega
  have hjn : j.toNat < s.nodes.length := by omega
  have hv : (rowT0 s i.toNat).getD j.toNat 0 = if rchB s 2 i.toNat j.toNat = true then 2 else if rchB s 1 i.toNat j.toNat = true then 1 else 0 := by
    rw [at_val (by simpa using hjn) (getD_truth (rowT0_truth h _) _)]
    have h2 : ∀ v, atB v (rowT0 s i.toNat) j.toNat = rchB s v i.toNat j.toNat := fun v => by rw [Bool.eq_iff_iff, atB_iff, rchB_iff]; exact rowT0_at hin _
    rw [h2, h2]
  have hcast : ((i.toNat : Nat) : Int) = i := by omega
  unfold pathT
  rw [if_pos ⟨hi, hj⟩]
  unfold rowP
  by_cases e : i = j
  · subst e
    rw [List.getD_eq_getElem?_getD, List.getElem?_set_self (by simpa using hin), Option.getD_some, hv, hcast]
    have hs : sameT s i = 2 ∨ sameT s i = 1 := by unfold sameT; split <;> simp
    unfold mx
    rcases hs with hs | hs <;> rw [hs] <;> (repeat' split) <;> simp_all
  · have hne : i.toNat ≠ j.toNat := by omega
    rw [List.getD_eq_getElem?_getD, List.getElem?_set_ne hne, ← List.getD_eq_getElem?_getD, hv]
    simp only [e, false_and, if_false]
end Go.Vm
