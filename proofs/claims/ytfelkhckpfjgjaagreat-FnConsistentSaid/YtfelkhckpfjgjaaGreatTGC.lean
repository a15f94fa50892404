/- Truth values: not, and, or; arities; nodes of logic variables. No condition. -/
import Derived.Test.YtfelkhckpfjgjaaGreatTNX
import Derived.Test.YtfelkhckpfjgjaaGreatTTR
import Derived.Test.YtfelkhckpfjgjaaGreatTGN
import Derived.Test.YtfelkhckpfjgjaaGreatVme
set_option linter.unusedSimpArgs false
set_option linter.unusedVariables false
namespace Go.Vm
open Go.Proofs
def code_spec_NotOf : F := ⟨8,[.tmp 2],.seq (.reg [⟨some 2,.mov (.k (.int .i64 0)),none⟩]) (.seq (.seq (.reg [⟨some 3,.mov (.t 0),none⟩,⟨some 4,.call 107 [.t 3],none⟩,⟨some 5,.not (.t 4),none⟩]) (.cond (.t 5) (.seq (.reg [⟨some 2,.mov (.k (.int .i64 1)),none⟩]) (.ret)) (.skip))) (.seq (.reg [⟨some 6,.mov (.t 0),none⟩,⟨some 7,.bin .sub (.k (.int .i64 2)) (.t 6),none⟩,⟨some 2,.mov (.t 7),none⟩]) (.ret)))⟩
theorem fok_spec_NotOf : FOk Tryz.prog 118 code_spec_NotOf := fok Tryz.func118 (by kernel_rfl)
def code_impl_NotOf : F := ⟨8,[.tmp 2],.seq (.reg [⟨some 2,.mov (.k (.int .i64 0)),none⟩]) (.seq (.seq (.reg [⟨some 3,.mov (.t 0),none⟩,⟨some 4,.call 101 [.t 3],none⟩,⟨some 5,.not (.t 4),none⟩]) (.cond (.t 5) (.seq (.reg [⟨some 2,.mov (.k (.int .i64 1)),none⟩]) (.ret)) (.skip))) (.seq (.reg [⟨some 6,.mov (.t 0),none⟩,⟨some 7,.bin .sub (.k (.int .i64 2)) (.t 6),none⟩,⟨some 2,.mov (.t 7),none⟩]) (.ret)))⟩
theorem fok_impl_NotOf : FOk Tryz.prog 125 code_impl_NotOf := fok Tryz.func125 (by kernel_rfl)
def code_spec_AndOf : F := ⟨16,[.tmp 4],.seq (.reg [⟨some 4,.mov (.k (.int .i64 0)),none⟩]) (.seq (.seq (.reg [⟨some 5,.mov (.t 0),none⟩,⟨some 6,.call 107 [.t 5],none⟩,⟨some 7,.not (.t 6),none⟩,⟨some 8,.mov (.t 7),none⟩,⟨some 9,.mov (.t 1),some (8,false)⟩,⟨some 10,.call 107 [.t 9],some (8,false)⟩,⟨some 11,.not (.t 10),some (8,false)⟩,⟨some 12,.pick (.t 8) (.k (.bool true)) (.t 11),none⟩]) (.cond (.t 12) (.seq (.reg [⟨some 4,.mov (.k (.int .i64 1)),none⟩]) (.ret)) (.skip))) (.seq (.reg [⟨some 13,.mov (.t 0),none⟩,⟨some 14,.mov (.t 1),none⟩,⟨some 15,.call 111 [.t 13,.t 14],none⟩,⟨some 4,.mov (.t 15),none⟩]) (.ret)))⟩
theorem fok_spec_AndOf : FOk Tryz.prog 76 code_spec_AndOf := fok Tryz.func76 (by kernel_rfl)
def code_impl_AndOf : F := ⟨16,[.tmp 4],.seq (.reg [⟨some 4,.mov (.k (.int .i64 0)),none⟩]) (.seq (.seq (.reg [⟨some 5,.mov (.t 0),none⟩,⟨some 6,.call 101 [.t 5],none⟩,⟨some 7,.not (.t 6),none⟩,⟨some 8,.mov (.t 7),none⟩,⟨some 9,.mov (.t 1),some (8,false)⟩,⟨some 10,.call 101 [.t 9],some (8,false)⟩,⟨some 11,.not (.t 10),some (8,false)⟩,⟨some 12,.pick (.t 8) (.k (.bool true)) (.t 11),none⟩]) (.cond (.t 12) (.seq (.reg [⟨some 4,.mov (.k (.int .i64 1)),none⟩]) (.ret)) (.skip))) (.seq (.reg [⟨some 13,.mov (.t 0),none⟩,⟨some 14,.mov (.t 1),none⟩,⟨some 15,.min (.t 13) (.t 14),none⟩,⟨some 4,.mov (.t 15),none⟩]) (.ret)))⟩
theorem fok_impl_AndOf : FOk Tryz.prog 88 code_impl_AndOf := fok Tryz.func88 (by kernel_rfl)
def code_spec_OrOf : F := ⟨16,[.tmp 4],.seq (.reg [⟨some 4,.mov (.k (.int .i64 0)),none⟩]) (.seq (.seq (.reg [⟨some 5,.mov (.t 0),none⟩,⟨some 6,.call 107 [.t 5],none⟩,⟨some 7,.not (.t 6),none⟩,⟨some 8,.mov (.t 7),none⟩,⟨some 9,.mov (.t 1),some (8,false)⟩,⟨some 10,.call 107 [.t 9],some (8,false)⟩,⟨some 11,.not (.t 10),some (8,false)⟩,⟨some 12,.pick (.t 8) (.k (.bool true)) (.t 11),none⟩]) (.cond (.t 12) (.seq (.reg [⟨some 4,.mov (.k (.int .i64 1)),none⟩]) (.ret)) (.skip))) (.seq (.reg [⟨some 13,.mov (.t 0),none⟩,⟨some 14,.mov (.t 1),none⟩,⟨some 15,.call 132 [.t 13,.t 14],none⟩,⟨some 4,.mov (.t 15),none⟩]) (.ret)))⟩
theorem fok_spec_OrOf : FOk Tryz.prog 119 code_spec_OrOf := fok Tryz.func119 (by kernel_rfl)
def code_impl_OrOf : F := ⟨16,[.tmp 4],.seq (.reg [⟨some 4,.mov (.k (.int .i64 0)),none⟩]) (.seq (.seq (.reg [⟨some 5,.mov (.t 0),none⟩,⟨some 6,.call 101 [.t 5],none⟩,⟨some 7,.not (.t 6),none⟩,⟨some 8,.mov (.t 7),none⟩,⟨some 9,.mov (.t 1),some (8,false)⟩,⟨some 10,.call 101 [.t 9],some (8,false)⟩,⟨some 11,.not (.t 10),some (8,false)⟩,⟨some 12,.pick (.t 8) (.k (.bool true)) (.t 11),none⟩]) (.cond (.t 12) (.seq (.reg [⟨some 4,.mov (.k (.int .i64 1)),none⟩]) (.ret)) (.skip))) (.seq (.reg [⟨some 13,.mov (.t 0),none⟩,⟨some 14,.mov (.t 1),none⟩,⟨some 15,.max (.t 13) (.t 14),none⟩,⟨some 4,.mov (.t 15),none⟩]) (.ret)))⟩
theorem fok_impl_OrOf : FOk Tryz.prog 80 code_impl_OrOf := fok Tryz.func80 (by kernel_rfl)
def code_spec_ArityOf : F := ⟨24,[.tmp 2],.seq (.reg [⟨some 2,.mov (.k (.int .i64 0)),none⟩]) (.seq (.block 0 (.seq (.reg [⟨some 4,.mov (.t 0),none⟩,⟨some 5,.call 59 [.t 4,(.k (.int .i64 1)),(.k (.int .i64 7))],none⟩,⟨some 3,.mov (.t 5),none⟩]) (.cond (.t 3) (.seq (.reg [⟨some 2,.mov (.k (.int .i64 0)),none⟩]) (.ret)) (.seq (.reg [⟨some 7,.mov (.t 0),none⟩,⟨some 8,.bin .eql (.t 7) (.k (.int .i64 8)),none⟩,⟨some 9,.mov (.t 8),none⟩,⟨some 10,.mov (.t 0),some (9,false)⟩,⟨some 11,.bin .eql (.t 10) (.k (.int .i64 11)),some (9,false)⟩,⟨some 12,.pick (.t 9) (.k (.bool true)) (.t 11),none⟩,⟨some 13,.mov (.t 12),none⟩,⟨some 14,.mov (.t 0),some (13,false)⟩,⟨some 15,.bin .eql (.t 14) (.k (.int .i64 12)),some (13,false)⟩,⟨some 16,.pick (.t 13) (.k (.bool true)) (.t 15),none⟩,⟨some 6,.mov (.t 16),none⟩]) (.cond (.t 6) (.seq (.reg [⟨some 2,.mov (.k (.int .i64 1)),none⟩]) (.ret)) (.seq (.reg [⟨some 18,.mov (.t 0),none⟩,⟨some 19,.bin .eql (.t 18) (.k (.int .i64 9)),none⟩,⟨some 20,.mov (.t 19),none⟩,⟨some 21,.mov (.t 0),some (20,false)⟩,⟨some 22,.bin .eql (.t 21) (.k (.int .i64 10)),some (20,false)⟩,⟨some 23,.pick (.t 20) (.k (.bool true)) (.t 22),none⟩,⟨some 17,.mov (.t 23),none⟩]) (.cond (.t 17) (.seq (.reg [⟨some 2,.mov (.k (.int .i64 2)),none⟩]) (.ret)) (.skip)))))))) (.seq (.reg [⟨some 2,.mov (.k (.int .i64 (-1))),none⟩]) (.ret)))⟩
theorem fok_spec_ArityOf : FOk Tryz.prog 112 code_spec_ArityOf := fok Tryz.func112 (by kernel_rfl)
def code_impl_ArityOf : F := ⟨24,[.tmp 2],.seq (.reg [⟨some 2,.mov (.k (.int .i64 0)),none⟩]) (.seq (.block 0 (.seq (.reg [⟨some 4,.mov (.t 0),none⟩,⟨some 5,.call 35 [.t 4,(.k (.int .i64 1)),(.k (.int .i64 7))],none⟩,⟨some 3,.mov (.t 5),none⟩]) (.cond (.t 3) (.seq (.reg [⟨some 2,.mov (.k (.int .i64 0)),none⟩]) (.ret)) (.seq (.reg [⟨some 7,.mov (.t 0),none⟩,⟨some 8,.bin .eql (.t 7) (.k (.int .i64 8)),none⟩,⟨some 9,.mov (.t 8),none⟩,⟨some 10,.mov (.t 0),some (9,false)⟩,⟨some 11,.bin .eql (.t 10) (.k (.int .i64 11)),some (9,false)⟩,⟨some 12,.pick (.t 9) (.k (.bool true)) (.t 11),none⟩,⟨some 13,.mov (.t 12),none⟩,⟨some 14,.mov (.t 0),some (13,false)⟩,⟨some 15,.bin .eql (.t 14) (.k (.int .i64 12)),some (13,false)⟩,⟨some 16,.pick (.t 13) (.k (.bool true)) (.t 15),none⟩,⟨some 6,.mov (.t 16),none⟩]) (.cond (.t 6) (.seq (.reg [⟨some 2,.mov (.k (.int .i64 1)),none⟩]) (.ret)) (.seq (.reg [⟨some 18,.mov (.t 0),none⟩,⟨some 19,.bin .eql (.t 18) (.k (.int .i64 9)),none⟩,⟨some 20,.mov (.t 19),none⟩,⟨some 21,.mov (.t 0),some (20,false)⟩,⟨some 22,.bin .eql (.t 21) (.k (.int .i64 10)),some (20,false)⟩,⟨some 23,.pick (.t 20) (.k (.bool true)) (.t 22),none⟩,⟨some 17,.mov (.t 23),none⟩]) (.cond (.t 17) (.seq (.reg [⟨some 2,.mov (.k (.int .i64 2)),none⟩]) (.ret)) (.skip)))))))) (.seq (.reg [⟨some 2,.mov (.k (.int .i64 (-1))),none⟩]) (.ret)))⟩
theorem fok_impl_ArityOf : FOk Tryz.prog 123 code_impl_ArityOf := fok Tryz.func123 (by kernel_rfl)
def code_spec_l1Min : F := ⟨10,[.tmp 4],.seq (.reg [⟨some 4,.mov (.k (.int .i64 0)),none⟩]) (.seq (.seq (.reg [⟨some 5,.mov (.t 0),none⟩,⟨some 6,.mov (.t 1),none⟩,⟨some 7,.bin .lss (.t 5) (.t 6),none⟩]) (.cond (.t 7) (.seq (.reg [⟨some 8,.mov (.t 0),none⟩,⟨some 4,.mov (.t 8),none⟩]) (.ret)) (.skip))) (.seq (.reg [⟨some 9,.mov (.t 1),none⟩,⟨some 4,.mov (.t 9),none⟩]) (.ret)))⟩
theorem fok_spec_l1Min : FOk Tryz.prog 111 code_spec_l1Min := fok Tryz.func111 (by kernel_rfl)
def code_spec_l1Max : F := ⟨10,[.tmp 4],.seq (.reg [⟨some 4,.mov (.k (.int .i64 0)),none⟩]) (.seq (.seq (.reg [⟨some 5,.mov (.t 0),none⟩,⟨some 6,.mov (.t 1),none⟩,⟨some 7,.bin .gtr (.t 5) (.t 6),none⟩]) (.cond (.t 7) (.seq (.reg [⟨some 8,.mov (.t 0),none⟩,⟨some 4,.mov (.t 8),none⟩]) (.ret)) (.skip))) (.seq (.reg [⟨some 9,.mov (.t 1),none⟩,⟨some 4,.mov (.t 9),none⟩]) (.ret)))⟩
theorem fok_spec_l1Max : FOk Tryz.prog 132 code_spec_l1Max := fok Tryz.func132 (by kernel_rfl)
def code_spec_l13Truth : F := ⟨7,[.tmp 2],.seq (.reg [⟨some 2,.mov (.k (.int .i64 0)),none⟩]) (.seq (.seq (.reg [⟨some 3,.mov (.t 0),none⟩,⟨some 4,.call 107 [.t 3],none⟩,⟨some 5,.not (.t 4),none⟩]) (.cond (.t 5) (.seq (.reg [⟨some 2,.mov (.k (.int .i64 1)),none⟩]) (.ret)) (.skip))) (.seq (.reg [⟨some 6,.mov (.t 0),none⟩,⟨some 2,.mov (.t 6),none⟩]) (.ret)))⟩
theorem fok_spec_l13Truth : FOk Tryz.prog 113 code_spec_l13Truth := fok Tryz.func113 (by kernel_rfl)
def code_impl_known : F := ⟨7,[.tmp 2],.seq (.reg [⟨some 2,.mov (.k (.int .i64 0)),none⟩]) (.seq (.seq (.reg [⟨some 3,.mov (.t 0),none⟩,⟨some 4,.call 101 [.t 3],none⟩,⟨some 5,.not (.t 4),none⟩]) (.cond (.t 5) (.seq (.reg [⟨some 2,.mov (.k (.int .i64 1)),none⟩]) (.ret)) (.skip))) (.seq (.reg [⟨some 6,.mov (.t 0),none⟩,⟨some 2,.mov (.t 6),none⟩]) (.ret)))⟩
theorem fok_impl_known : FOk Tryz.prog 137 code_impl_known := fok Tryz.func137 (by kernel_rfl)
def code_impl_element : F := ⟨16,[.tmp 4],.seq (.reg [⟨some 4,.mov (.k (.int .i64 0)),none⟩]) (.seq (.seq (.reg [⟨some 5,.mov (.t 1),none⟩,⟨some 6,.mov (.t 0),none⟩,⟨some 7,.len (.t 6),none⟩,⟨some 8,.bin .sub (.t 7) (.k (.int .i64 1)),none⟩,⟨some 9,.call 35 [.t 5,(.k (.int .i64 0)),.t 8],none⟩,⟨some 10,.not (.t 9),none⟩]) (.cond (.t 10) (.seq (.reg [⟨some 4,.mov (.k (.int .i64 1)),none⟩]) (.ret)) (.skip))) (.seq (.reg [⟨some 11,.mov (.t 0),none⟩,⟨some 12,.mov (.t 1),none⟩,⟨some 13,.iaddr 1 (.t 11) (.t 12),none⟩,⟨some 14,.load 1 false (.t 13),none⟩,⟨some 15,.call 137 [.t 14],none⟩,⟨some 4,.mov (.t 15),none⟩]) (.ret)))⟩
theorem fok_impl_element : FOk Tryz.prog 136 code_impl_element := fok Tryz.func136 (by kernel_rfl)
def code_impl_usesU : F := ⟨9,[.tmp 2],.seq (.reg [⟨some 2,.mov (.k (.bool false)),none⟩]) (.seq (.reg [⟨some 3,.mov (.t 0),none⟩,⟨some 4,.call 35 [.t 3,(.k (.int .i64 2)),(.k (.int .i64 7))],none⟩,⟨some 5,.mov (.t 4),none⟩,⟨some 6,.mov (.t 0),some (5,false)⟩,⟨some 7,.call 124 [.t 6],some (5,false)⟩,⟨some 8,.pick (.t 5) (.k (.bool true)) (.t 7),none⟩,⟨some 2,.mov (.t 8),none⟩]) (.ret))⟩
theorem fok_impl_usesU : FOk Tryz.prog 134 code_impl_usesU := fok Tryz.func134 (by kernel_rfl)
def code_impl_usesV : F := ⟨5,[.tmp 2],.seq (.reg [⟨some 2,.mov (.k (.bool false)),none⟩]) (.seq (.reg [⟨some 3,.mov (.t 0),none⟩,⟨some 4,.call 35 [.t 3,(.k (.int .i64 5)),(.k (.int .i64 7))],none⟩,⟨some 2,.mov (.t 4),none⟩]) (.ret))⟩
theorem fok_impl_usesV : FOk Tryz.prog 135 code_impl_usesV := fok Tryz.func135 (by kernel_rfl)
def code_impl_isBinder : F := ⟨9,[.tmp 2],.seq (.reg [⟨some 2,.mov (.k (.bool false)),none⟩]) (.seq (.reg [⟨some 3,.mov (.t 0),none⟩,⟨some 4,.bin .eql (.t 3) (.k (.int .i64 11)),none⟩,⟨some 5,.mov (.t 4),none⟩,⟨some 6,.mov (.t 0),some (5,false)⟩,⟨some 7,.bin .eql (.t 6) (.k (.int .i64 12)),some (5,false)⟩,⟨some 8,.pick (.t 5) (.k (.bool true)) (.t 7),none⟩,⟨some 2,.mov (.t 8),none⟩]) (.ret))⟩
theorem fok_impl_isBinder : FOk Tryz.prog 124 code_impl_isBinder := fok Tryz.func124 (by kernel_rfl)
def code_impl_place : F := ⟨29,[.tmp 6],.seq (.reg [⟨some 3,.box (.t 0),none⟩,⟨some 6,.mov (.k (.int .i64 0)),none⟩]) (.seq (.seq (.dreg [true,true,true,true,false,false,false,true,true,true,false,false,false,false,false,true,true,true] [false,true,false,false,false,false,false,false,false,false,false,false,false,false,false,true,false,false] [⟨some 7,.mov (.t 2),none⟩,⟨some 8,.call 35 [.t 7,(.k (.int .i64 0)),(.k (.int .i64 3))],none⟩,⟨some 9,.not (.t 8),none⟩,⟨some 10,.mov (.t 9),none⟩,⟨some 11,.mov (.t 2),some (10,false)⟩,⟨some 12,.mov (.t 1),some (10,false)⟩,⟨some 13,.len (.t 12),some (10,false)⟩,⟨some 14,.bin .geq (.t 11) (.t 13),some (10,false)⟩,⟨some 15,.pick (.t 10) (.k (.bool true)) (.t 14),none⟩,⟨some 16,.mov (.t 15),none⟩,⟨some 17,.load 2 true (.t 3),some (16,false)⟩,⟨some 18,.mov (.t 1),some (16,false)⟩,⟨some 19,.mov (.t 2),some (16,false)⟩,⟨some 20,.iaddr 1 (.t 18) (.t 19),some (16,false)⟩,⟨some 21,.load 1 false (.t 20),some (16,false)⟩,⟨some 22,.call 85 [.t 17,.t 21],some (16,false)⟩,⟨some 23,.not (.t 22),some (16,false)⟩,⟨some 24,.pick (.t 16) (.k (.bool true)) (.t 23),none⟩]) (.cond (.t 24) (.seq (.reg [⟨some 6,.mov (.k (.int .i64 (-1))),none⟩]) (.ret)) (.skip))) (.seq (.reg [⟨some 25,.mov (.t 1),none⟩,⟨some 26,.mov (.t 2),none⟩,⟨some 27,.iaddr 1 (.t 25) (.t 26),none⟩,⟨some 28,.load 1 false (.t 27),none⟩,⟨some 6,.mov (.t 28),none⟩]) (.ret)))⟩
theorem fok_impl_place : FOk Tryz.prog 127 code_impl_place := fok Tryz.func127 (by kernel_rfl)
def code_spec_l13Node : F := ⟨33,[.tmp 6],.seq (.reg [⟨some 3,.box (.t 0),none⟩,⟨some 6,.mov (.k (.int .i64 0)),none⟩]) (.seq (.seq (.dreg [false,false,false,false,true,true,true,true,true,true,true,false,false,false,false,false,false,false,false,true,true,true] [false,false,false,false,true,false,false,false,false,false,false,false,false,false,false,false,false,false,false,true,false,false] [⟨some 7,.mov (.t 2),none⟩,⟨some 8,.mov (.t 1),none⟩,⟨some 9,.len (.t 8),none⟩,⟨some 10,.bin .sub (.t 9) (.k (.int .i64 1)),none⟩,⟨some 11,.call 59 [.t 7,(.k (.int .i64 0)),.t 10],none⟩,⟨some 12,.not (.t 11),none⟩,⟨some 13,.mov (.t 12),none⟩,⟨some 14,.mov (.t 2),some (13,false)⟩,⟨some 15,.bin .geq (.t 14) (.k (.int .i64 4)),some (13,false)⟩,⟨some 16,.pick (.t 13) (.k (.bool true)) (.t 15),none⟩,⟨some 17,.mov (.t 16),none⟩,⟨some 18,.mov (.t 1),some (17,false)⟩,⟨some 19,.mov (.t 2),some (17,false)⟩,⟨some 20,.iaddr 1 (.t 18) (.t 19),some (17,false)⟩,⟨some 21,.load 1 false (.t 20),some (17,false)⟩,⟨some 22,.faddr 0 (.t 3),some (17,false)⟩,⟨some 23,.load 1 false (.t 22),some (17,false)⟩,⟨some 24,.len (.t 23),some (17,false)⟩,⟨some 25,.bin .sub (.t 24) (.k (.int .i64 1)),some (17,false)⟩,⟨some 26,.call 59 [.t 21,(.k (.int .i64 0)),.t 25],some (17,false)⟩,⟨some 27,.not (.t 26),some (17,false)⟩,⟨some 28,.pick (.t 17) (.k (.bool true)) (.t 27),none⟩]) (.cond (.t 28) (.seq (.reg [⟨some 6,.mov (.k (.int .i64 (-1))),none⟩]) (.ret)) (.skip))) (.seq (.reg [⟨some 29,.mov (.t 1),none⟩,⟨some 30,.mov (.t 2),none⟩,⟨some 31,.iaddr 1 (.t 29) (.t 30),none⟩,⟨some 32,.load 1 false (.t 31),none⟩,⟨some 6,.mov (.t 32),none⟩]) (.ret)))⟩
theorem fok_spec_l13Node : FOk Tryz.prog 115 code_spec_l13Node := fok Tryz.func115 (by kernel_rfl)
def code_impl_sameNode : F := ⟨12,[.tmp 4],.seq (.reg [⟨some 2,.box (.t 0),none⟩,⟨some 4,.mov (.k (.int .i64 0)),none⟩]) (.seq (.seq (.reg [⟨some 5,.faddr 0 (.t 2),none⟩,⟨some 6,.load 1 false (.t 5),none⟩,⟨some 7,.mov (.t 1),none⟩,⟨some 8,.iaddr 4 (.t 6) (.t 7),none⟩,⟨some 9,.faddr 3 (.t 8),none⟩,⟨some 10,.load 1 false (.t 9),none⟩,⟨some 11,.bin .eql (.t 10) (.k (.int .i64 0)),none⟩]) (.cond (.t 11) (.seq (.reg [⟨some 4,.mov (.k (.int .i64 2)),none⟩]) (.ret)) (.skip))) (.seq (.reg [⟨some 4,.mov (.k (.int .i64 1)),none⟩]) (.ret)))⟩
theorem fok_impl_sameNode : FOk Tryz.prog 138 code_impl_sameNode := fok Tryz.func138 (by kernel_rfl)
def notT3 (a : Int) : Int := if isTruth a then 2 - a else 1
def andT (a b : Int) : Int := if isTruth a && isTruth b then (if a ≤ b then a else b) else 1
def orT (a b : Int) : Int := if isTruth a && isTruth b then (if a ≤ b then b else a) else 1
def knownT (a : Int) : Int := if isTruth a then a else 1
def arity (k : Int) : Int := if 1 ≤ k ∧ k ≤ 7 then 0 else if k = 8 ∨ k = 11 ∨ k = 12 then 1 else if k = 9 ∨ k = 10 then 2 else -1
theorem isTruth_iff (a : Int) : (isTruth a = true) = (0 ≤ a ∧ a ≤ 2) := by simp [isTruth]
theorem notT3_truth (a : Int) : isTruth (notT3 a) = true := by unfold notT3; simp only [isTruth_iff]; split <;> omega
theorem andT_truth (a b : Int) : isTruth (andT a b) = true := by unfold andT; simp only [Bool.and_eq_true, isTruth_iff]; (repeat' split) <;> omega
theorem orT_truth (a b : Int) : isTruth (orT a b) = true := by unfold orT; simp only [Bool.and_eq_true, isTruth_iff]; (repeat' split) <;> omega
theorem knownT_truth (a : Int) : isTruth (knownT a) = true := by unfold knownT; simp only [isTruth_iff]; (repeat' split) <;> omega
theorem knownT_of {a : Int} (h : isTruth a = true) : knownT a = a := by simp [knownT, h]
@[simp] def ct_sNotOf : Ct := ⟨118, Int, fun _ => True, fun x => [.int .i64 x], fun x => .int .i64 (notT3 x)⟩
theorem ok_sNotOf : ct_sNotOf.Ok Tryz.prog := by
  rintro a -
  change Int at a
  refine Ok.of_cw fok_spec_NotOf (go_ok (tab_cons ok_sIsTruth tab_nil) ?_)
  cases h : isTruth a
  · simp [code_spec_NotOf, List.replicate, notT3, h]
  · have h2 := h
    rw [isTruth_iff] at h2
    have hw : IntKind.i64.wrap (2 - a) = 2 - a := by rw [wrap_i64] <;> omega
    simp [code_spec_NotOf, List.replicate, notT3, h, hw]
@[simp] def ct_pNotOf : Ct := ⟨125, Int, fun _ => True, fun x => [.int .i64 x], fun x => .int .i64 (notT3 x)⟩
theorem ok_pNotOf : ct_pNotOf.Ok Tryz.prog := by
  rintro a -
  change Int at a
  refine Ok.of_cw fok_impl_NotOf (go_ok (tab_cons ok_pIsTruth tab_nil) ?_)
  cases h : isTruth a
  · simp [code_impl_NotOf, List.replicate, notT3, h]
  · have h2 := h
    rw [isTruth_iff] at h2
    have hw : IntKind.i64.wrap (2 - a) = 2 - a := by rw [wrap_i64] <;> omega
    simp [code_impl_NotOf, List.replicate, notT3, h, hw]
@[simp] def ct_l1Min : Ct := ⟨111, Int × Int, fun _ => True, fun x => [.int .i64 x.1, .int .i64 x.2], fun x => .int .i64 (if x.1 ≤ x.2 then x.1 else x.2)⟩
theorem ok_l1Min : ct_l1Min.Ok Tryz.prog := by
  rintro ⟨a, b⟩ -
  refine Ok.of_cw fok_spec_l1Min (go_ok tab_nil ?_)
  by_cases h : a ≤ b <;> by_cases h2 : a < b <;> by_cases h3 : b < a <;> simp [code_spec_l1Min, List.replicate, h, h2, h3] <;> omega
@[simp] def ct_l1Max : Ct := ⟨132, Int × Int, fun _ => True, fun x => [.int .i64 x.1, .int .i64 x.2], fun x => .int .i64 (if x.1 ≤ x.2 then x.2 else x.1)⟩
theorem ok_l1Max : ct_l1Max.Ok Tryz.prog := by
  rintro ⟨a, b⟩ -
  refine Ok.of_cw fok_spec_l1Max (go_ok tab_nil ?_)
  by_cases h : a ≤ b <;> by_cases h2 : a < b <;> by_cases h3 : b < a <;> simp [code_spec_l1Max, List.replicate, h, h2, h3] <;> omega
@[simp] def ct_sAndOf : Ct := ⟨76, Int × Int, fun _ => True, fun x => [.int .i64 x.1, .int .i64 x.2], fun x => .int .i64 (andT x.1 x.2)⟩
theorem ok_sAndOf : ct_sAndOf.Ok Tryz.prog := by
  rintro ⟨a, b⟩ -
  refine Ok.of_cw fok_spec_AndOf (go_ok (tab_cons ok_sIsTruth (tab_cons ok_l1Min tab_nil)) ?_)
  cases h : isTruth a <;> cases h2 : isTruth b <;> simp [code_spec_AndOf, List.replicate, andT, h, h2]
@[simp] def ct_pAndOf : Ct := ⟨88, Int × Int, fun _ => True, fun x => [.int .i64 x.1, .int .i64 x.2], fun x => .int .i64 (andT x.1 x.2)⟩
theorem ok_pAndOf : ct_pAndOf.Ok Tryz.prog := by
  rintro ⟨a, b⟩ -
  refine Ok.of_cw fok_impl_AndOf (go_ok (tab_cons ok_pIsTruth tab_nil) ?_)
  cases h : isTruth a <;> cases h2 : isTruth b <;> simp [code_impl_AndOf, List.replicate, andT, h, h2]
  grind
@[simp] def ct_sOrOf : Ct := ⟨119, Int × Int, fun _ => True, fun x => [.int .i64 x.1, .int .i64 x.2], fun x => .int .i64 (orT x.1 x.2)⟩
theorem ok_sOrOf : ct_sOrOf.Ok Tryz.prog := by
  rintro ⟨a, b⟩ -
  refine Ok.of_cw fok_spec_OrOf (go_ok (tab_cons ok_sIsTruth (tab_cons ok_l1Max tab_nil)) ?_)
  cases h : isTruth a <;> cases h2 : isTruth b <;> simp [code_spec_OrOf, List.replicate, orT, h, h2]
@[simp] def ct_pOrOf : Ct := ⟨80, Int × Int, fun _ => True, fun x => [.int .i64 x.1, .int .i64 x.2], fun x => .int .i64 (orT x.1 x.2)⟩
theorem ok_pOrOf : ct_pOrOf.Ok Tryz.prog := by
  rintro ⟨a, b⟩ -
  refine Ok.of_cw fok_impl_OrOf (go_ok (tab_cons ok_pIsTruth tab_nil) ?_)
  cases h : isTruth a <;> cases h2 : isTruth b <;> simp [code_impl_OrOf, List.replicate, orT, h, h2]
  grind
@[simp] def ct_sArityOf : Ct := ⟨112, Int, fun _ => True, fun x => [.int .i64 x], fun x => .int .i64 (arity x)⟩
theorem ok_sArityOf : ct_sArityOf.Ok Tryz.prog := by
  rintro a -
  change Int at a
  refine Ok.of_cw fok_spec_ArityOf (go_ok (tab_cons ok_l1In tab_nil) ?_)
  by_cases h : 1 ≤ a ∧ a ≤ 7
  · simp [code_spec_ArityOf, List.replicate, arity, h]
  · by_cases h1 : 8 ≤ a ∧ a ≤ 12
    · obtain rfl | rfl | rfl | rfl | rfl : a = 8 ∨ a = 9 ∨ a = 10 ∨ a = 11 ∨ a = 12 := by omega
      all_goals simp [code_spec_ArityOf, List.replicate, arity]
    · have n8 : a ≠ 8 := by omega
      have n9 : a ≠ 9 := by omega
      have n10 : a ≠ 10 := by omega
      have n11 : a ≠ 11 := by omega
      have n12 : a ≠ 12 := by omega
      by_cases g : 1 ≤ a
      · have g2 : ¬ a ≤ 7 := by omega
        simp [code_spec_ArityOf, List.replicate, arity, g, g2, n8, n9, n10, n11, n12]
        omega
      · simp [code_spec_ArityOf, List.replicate, arity, g, n8, n9, n10, n11, n12]
@[simp] def ct_pArityOf : Ct := ⟨123, Int, fun _ => True, fun x => [.int .i64 x], fun x => .int .i64 (arity x)⟩
theorem ok_pArityOf : ct_pArityOf.Ok Tryz.prog := by
  rintro a -
  change Int at a
  refine Ok.of_cw fok_impl_ArityOf (go_ok (tab_cons ok_within tab_nil) ?_)
  by_cases h : 1 ≤ a ∧ a ≤ 7
  · simp [code_impl_ArityOf, List.replicate, arity, h]
  · by_cases h1 : 8 ≤ a ∧ a ≤ 12
    · obtain rfl | rfl | rfl | rfl | rfl : a = 8 ∨ a = 9 ∨ a = 10 ∨ a = 11 ∨ a = 12 := by omega
      all_goals simp [code_impl_ArityOf, List.replicate, arity]
    · have n8 : a ≠ 8 := by omega
      have n9 : a ≠ 9 := by omega
      have n10 : a ≠ 10 := by omega
      have n11 : a ≠ 11 := by omega
      have n12 : a ≠ 12 := by omega
      by_cases g : 1 ≤ a
      · have g2 : ¬ a ≤ 7 := by omega
        simp [code_impl_ArityOf, List.replicate, arity, g, g2, n8, n9, n10, n11, n12]
        omega
      · simp [code_impl_ArityOf, List.replicate, arity, g, n8, n9, n10, n11, n12]
@[simp] def ct_l13Truth : Ct := ⟨113, Int, fun _ => True, fun x => [.int .i64 x], fun x => .int .i64 (knownT x)⟩
theorem ok_l13Truth : ct_l13Truth.Ok Tryz.prog := by
  rintro a -
  change Int at a
  refine Ok.of_cw fok_spec_l13Truth (go_ok (tab_cons ok_sIsTruth tab_nil) ?_)
  cases h : isTruth a <;> simp [code_spec_l13Truth, List.replicate, knownT, h]
@[simp] def ct_known : Ct := ⟨137, Int, fun _ => True, fun x => [.int .i64 x], fun x => .int .i64 (knownT x)⟩
theorem ok_known : ct_known.Ok Tryz.prog := by
  rintro a -
  change Int at a
  refine Ok.of_cw fok_impl_known (go_ok (tab_cons ok_pIsTruth tab_nil) ?_)
  cases h : isTruth a <;> simp [code_impl_known, List.replicate, knownT, h]
@[simp] def ct_element : Ct := ⟨136, List Int × Int, fun x => x.1.length ≤ 1048576, fun x => [encL 1 encInt x.1, .int .i64 x.2], fun x => .int .i64 (knownT (at1 x.1 x.2))⟩
theorem ok_element : ct_element.Ok Tryz.prog := by
  rintro ⟨l, k⟩ h
  change l.length ≤ 1048576 at h
  refine Ok.of_cw fok_impl_element (go_ok (tab_cons ok_within (tab_cons ok_known tab_nil)) ?_)
  have hw : IntKind.i64.wrap ((l.length : Int) - 1) = (l.length : Int) - 1 := by rw [wrap_i64] <;> omega
  by_cases c : 0 ≤ k ∧ k ≤ (l.length : Int) - 1
  · have c2 : k.toNat < l.length := by omega
    have c3 : k < l.length := by omega
    simp [code_impl_element, List.replicate, hw, at1, c, c2, c3]
    omega
  · have c3 : ¬ (0 ≤ k ∧ k < l.length) := by omega
    by_cases c4 : 0 ≤ k
    · have c5 : ¬ (k ≤ (l.length : Int) - 1) := by omega
      have c6 : ¬ k < (l.length : Int) := by omega
      simp [code_impl_element, List.replicate, hw, at1, c6, c4, c5, knownT, isTruth]
      omega
    · simp [code_impl_element, List.replicate, hw, at1, c3, c4, knownT, isTruth]
def useU (k : Int) : Bool := decide (2 ≤ k) && decide (k ≤ 7) || (decide (k = 11) || decide (k = 12))
def useV (k : Int) : Bool := decide (5 ≤ k) && decide (k ≤ 7)
def binder (k : Int) : Bool := decide (k = 11) || decide (k = 12)
@[simp] def ct_isBinder : Ct := ⟨124, Int, fun _ => True, fun x => [.int .i64 x], fun x => .bool (binder x)⟩
theorem ok_isBinder : ct_isBinder.Ok Tryz.prog := by
  rintro a -
  change Int at a
  refine Ok.of_cw fok_impl_isBinder (go_ok tab_nil ?_)
  by_cases h : a = 11 <;> by_cases h2 : a = 12 <;> simp [code_impl_isBinder, List.replicate, binder, h, h2]
@[simp] def ct_usesU : Ct := ⟨134, Int, fun _ => True, fun x => [.int .i64 x], fun x => .bool (useU x)⟩
theorem ok_usesU : ct_usesU.Ok Tryz.prog := by
  rintro a -
  change Int at a
  refine Ok.of_cw fok_impl_usesU (go_ok (tab_cons ok_within (tab_cons ok_isBinder tab_nil)) ?_)
  by_cases h : 2 ≤ a
  · by_cases h2 : a ≤ 7
    · simp [code_impl_usesU, List.replicate, useU, binder, h, h2]
      omega
    · simp [code_impl_usesU, List.replicate, useU, binder, h, h2]
  · simp [code_impl_usesU, List.replicate, useU, binder, h]
@[simp] def ct_usesV : Ct := ⟨135, Int, fun _ => True, fun x => [.int .i64 x], fun x => .bool (useV x)⟩
theorem ok_usesV : ct_usesV.Ok Tryz.prog := by
  rintro a -
  change Int at a
  refine Ok.of_cw fok_impl_usesV (go_ok (tab_cons ok_within tab_nil) ?_)
  simp [code_impl_usesV, List.replicate, useV]
def nodeOf (s : Strc) (nodes : List Int) (u : Int) : Int := if 0 ≤ u ∧ u ≤ 3 ∧ u < nodes.length ∧ inN s (nodes.getD u.toNat 0) then nodes.getD u.toNat 0 else -1
theorem nodeOf_or (s : Strc) (nodes : List Int) (u : Int) : nodeOf s nodes u = -1 ∨ inN s (nodeOf s nodes u) := by
  unfold nodeOf
  split
  · rename_i h; exact .inr h.2.2.2
  · exact .inl rfl
@[simp] def ct_place : Ct := ⟨127, Strc × List Int × Int, fun x => x.2.1.length ≤ 1048576, fun x => [encStrc x.1, encL 1 encInt x.2.1, .int .i64 x.2.2], fun x => .int .i64 (nodeOf x.1 x.2.1 x.2.2)⟩
theorem ok_place : ct_place.Ok Tryz.prog := by
  rintro ⟨s, l, u⟩ h
  change l.length ≤ 1048576 at h
  refine Ok.of_cw fok_impl_place (go_ok (tab_cons ok_within (tab_cons ok_isNode tab_nil)) ?_)
  by_cases c1 : 0 ≤ u
  case neg => simp [code_impl_place, List.replicate, nodeOf, c1]
  by_cases c2 : u ≤ 3
  case neg => simp [code_impl_place, List.replicate, nodeOf, c1, c2]
  by_cases c3 : u < l.length
  case neg =>
    have c3' : (l.length : Int) ≤ u := by omega
    simp [code_impl_place, List.replicate, nodeOf, c1, c2, c3, c3']
  have c3' : ¬ ((l.length : Int) ≤ u) := by omega
  have c4 : u.toNat < l.length := by omega
  have e : l.getD u.toNat 0 = l[u.toNat] := by simp [List.getD_eq_getElem?_getD, c4]
  have hR : nodeOf s l u = if 0 ≤ u ∧ u ≤ 3 ∧ u < l.length ∧ inN s l[u.toNat] then l[u.toNat] else -1 := by unfold nodeOf; rw [e]
  simp only [ct_place]
  rw [hR]
  by_cases c5 : inN s l[u.toNat]
  · have c6 := c5
    unfold inN at c6
    simp [code_impl_place, List.replicate, c1, c2, c3, c3', c4, c5, c6]
    try omega
  · have c6 := c5
    unfold inN at c6
    simp [code_impl_place, List.replicate, c1, c2, c3, c3', c4, c5]
    grind
@[simp] def ct_l13Node : Ct := ⟨115, Strc × List Int × Int, fun x => szStrc x.1 ≤ 1048576 ∧ x.2.1.length ≤ 1048576, fun x => [encStrc x.1, encL 1 encInt x.2.1, .int .i64 x.2.2], fun x => .int .i64 (nodeOf x.1 x.2.1 x.2.2)⟩
theorem ok_l13Node : ct_l13Node.Ok Tryz.prog := by
  rintro ⟨s, l, u⟩ ⟨hs, h⟩
  change szStrc s ≤ 1048576 at hs
  change l.length ≤ 1048576 at h
  have hs := strc_le s
  refine Ok.of_cw fok_spec_l13Node (go_ok (tab_cons ok_l1In tab_nil) ?_)
  have hw : IntKind.i64.wrap ((l.length : Int) - 1) = (l.length : Int) - 1 := by rw [wrap_i64] <;> omega
  have hw2 : IntKind.i64.wrap ((s.nodes.length : Int) - 1) = (s.nodes.length : Int) - 1 := by rw [wrap_i64] <;> omega
  by_cases c1 : 0 ≤ u
  case neg => simp [code_spec_l13Node, List.replicate, nodeOf, c1, hw, hw2]
  by_cases c3 : u < l.length
  case neg =>
    have c3' : ¬ (u ≤ (l.length : Int) - 1) := by omega
    simp [code_spec_l13Node, List.replicate, nodeOf, c1, c3, c3', hw, hw2]
  have c3' : (u ≤ (l.length : Int) - 1) := by omega
  by_cases c2 : u ≤ 3
  case neg =>
    have c2' : 4 ≤ u := by omega
    simp [code_spec_l13Node, List.replicate, nodeOf, c1, c2, c2', c3, c3', hw, hw2]
  have c2' : ¬ 4 ≤ u := by omega
  have c4 : u.toNat < l.length := by omega
  have e : l.getD u.toNat 0 = l[u.toNat] := by simp [List.getD_eq_getElem?_getD, c4]
  have hR : nodeOf s l u = if 0 ≤ u ∧ u ≤ 3 ∧ u < l.length ∧ inN s l[u.toNat] then l[u.toNat] else -1 := by unfold nodeOf; rw [e]
  simp only [ct_l13Node]
  rw [hR]
  by_cases c5 : inN s l[u.toNat]
  · have c6 := c5
    unfold inN at c6
    simp [code_spec_l13Node, List.replicate, c1, c2, c2', c3, c3', c4, c5, c6, hw, hw2]
    omega
  · have c6 := c5
    unfold inN at c6
    simp [code_spec_l13Node, List.replicate, c1, c2, c2', c3, c3', c4, c5, hw, hw2]
    grind
def sameT (s : Strc) (i : Int) : Int := if (s.nodes.getD i.toNat default).many = 0 then 2 else 1
@[simp] def ct_sameNode : Ct := ⟨138, Strc × Int, fun x => inN x.1 x.2, fun x => [encStrc x.1, .int .i64 x.2], fun x => .int .i64 (sameT x.1 x.2)⟩
theorem ok_sameNode : ct_sameNode.Ok Tryz.prog := by
  rintro ⟨s, i⟩ hi
  change inN s i at hi
  unfold inN at hi
  have c4 : i.toNat < s.nodes.length := by omega
  have c5 : i < s.nodes.length := by omega
  have e : s.nodes.getD i.toNat default = s.nodes[i.toNat] := by simp [List.getD_eq_getElem?_getD, c4]
  have hR : sameT s i = if s.nodes[i.toNat].many = 0 then 2 else 1 := by unfold sameT; rw [e]
  simp only [ct_sameNode]
  rw [hR]
  refine Ok.of_cw fok_impl_sameNode (go_ok tab_nil ?_)
  by_cases c : s.nodes[i.toNat].many = 0 <;> simp [code_impl_sameNode, List.replicate, hi.1, c4, c5, c]
end Go.Vm
namespace Go.Vm
open Go.Proofs
def nodeD (s : Strc) (x : Int) : Node := s.nodes.getD x.toNat default
def manyG (s : Strc) (g : List Int) : Nat → Int
  | 0 => (nodeD s (g.getD 0 0)).many
  | k + 1 => if 1 < g.length ∨ (nodeD s (g.getD k 0)).many ≠ 0 then 1 else manyG s g k
def grpNode (s : Strc) (g : List Int) : Node := ⟨(nodeD s (g.getD 0 0)).vars, (nodeD s (g.getD 0 0)).reach, (nodeD s (g.getD 0 0)).shared, manyG s g g.length⟩
def code_spec_l17Node : F := ⟨38,[.cell 4 true 4],.seq (.reg [⟨some 2,.box (.t 0),none⟩,⟨some 4,.alloc [(.sl .nil 0 []),(.sl .nil 0 []),(.int .i64 0),(.int .i64 0)],none⟩]) (.seq (.dreg [false,false,false,false,false,false,false,false,false,true] [false,false,false,false,false,false,false,true,false,false] [⟨some 7,.faddr 0 (.t 2),none⟩,⟨some 8,.load 1 false (.t 7),none⟩,⟨some 9,.mov (.t 1),none⟩,⟨some 10,.iaddr 1 (.t 9) (.k (.int .i64 0)),none⟩,⟨some 11,.load 1 false (.t 10),none⟩,⟨some 12,.iaddr 4 (.t 8) (.t 11),none⟩,⟨some 13,.load 4 true (.t 12),none⟩,⟨some 14,.call 144 [.t 13],none⟩,⟨some 5,.alloc [(.sl .nil 0 []),(.sl .nil 0 []),(.int .i64 0),(.int .i64 0)],none⟩,⟨none,.store 4 (.t 5) (.t 14),none⟩]) (.seq (.seq (.reg [⟨some 6,.mov (.k (.int .i64 0)),none⟩]) (.block 0 (.loop (.seq (.seq (.reg [⟨some 15,.mov (.t 6),none⟩,⟨some 16,.mov (.t 1),none⟩,⟨some 17,.len (.t 16),none⟩,⟨some 18,.bin .lss (.t 15) (.t 17),none⟩]) (.cond (.t 18) (.skip) (.exit 0))) (.seq (.block 1 (.seq (.dreg [true,true,true,true,false,false,false,false,false,false,true,true,true,true,true] [false,false,false,false,false,false,false,false,false,false,false,false,false,false,false] [⟨some 21,.mov (.t 1),none⟩,⟨some 22,.len (.t 21),none⟩,⟨some 23,.bin .gtr (.t 22) (.k (.int .i64 1)),none⟩,⟨some 24,.mov (.t 23),none⟩,⟨some 25,.faddr 0 (.t 2),some (24,false)⟩,⟨some 26,.load 1 false (.t 25),some (24,false)⟩,⟨some 27,.mov (.t 1),some (24,false)⟩,⟨some 28,.mov (.t 6),some (24,false)⟩,⟨some 29,.iaddr 1 (.t 27) (.t 28),some (24,false)⟩,⟨some 30,.load 1 false (.t 29),some (24,false)⟩,⟨some 31,.iaddr 4 (.t 26) (.t 30),some (24,false)⟩,⟨some 32,.faddr 3 (.t 31),some (24,false)⟩,⟨some 33,.load 1 false (.t 32),some (24,false)⟩,⟨some 34,.bin .neq (.t 33) (.k (.int .i64 0)),some (24,false)⟩,⟨some 35,.pick (.t 24) (.k (.bool true)) (.t 34),none⟩]) (.cond (.t 35) (.reg [⟨some 36,.faddr 3 (.t 5),none⟩,⟨none,.store 1 (.t 36) (.k (.int .i64 1)),none⟩]) (.skip)))) (.reg [⟨some 19,.mov (.t 6),none⟩,⟨some 20,.bin .add (.t 19) (.k (.int .i64 1)),none⟩,⟨some 6,.mov (.t 20),none⟩])))))) (.seq (.reg [⟨some 37,.load 4 true (.t 5),none⟩,⟨none,.store 4 (.t 4) (.t 37),none⟩]) (.ret))))⟩
theorem fok_spec_l17Node : FOk Tryz.prog 142 code_spec_l17Node := fok Tryz.func142 (by kernel_rfl)
structure Gn where
  s : Strc
  g : List Int
def gnR (x : Node) : AV := .agg [.slref 9 0 x.vars.length x.vars.length, .slref 10 0 x.reach.length x.reach.length, .int .i64 x.shared, .int .i64 x.many]
def gnN (x : Node) : List Blk := [.dead, .dead, .dead, .cells [.slref 9 0 x.vars.length x.vars.length, .slref 10 0 x.reach.length x.reach.length, .int .i64 x.shared, .int .i64 x.many], .dead, .dead, .dead, .dead, .dead, .row true 3 1 (x.vars.map encInt), .row true 3 1 (x.reach.map encInt)]
@[simp] def ct_l17Node : CtN := ⟨142, Gn, fun x => szStrc x.s ≤ 1048576 ∧ (0 < x.g.length ∧ x.g.length ≤ 1048576) ∧ ∀ y ∈ x.g, 0 ≤ y ∧ y < x.s.nodes.length, fun x => [encStrc x.s, encL 1 encInt x.g], fun x => gnR (grpNode x.s x.g), fun x => gnN (grpNode x.s x.g)⟩
set_option maxHeartbeats 4000000 in
set_option maxRecDepth 100000 in
theorem ok_l17NodeH (x : Gn) (hx : ct_l17Node.pre x) : OkH Tryz.prog 142 [encStrc x.s, encL 1 encInt x.g] [] (gnR (grpNode x.s x.g)) (gnN (grpNode x.s x.g)) := by
  obtain ⟨⟨ns, nx⟩, g⟩ := x
  obtain ⟨hx, ⟨hg, hg2⟩, hin⟩ := hx
  have hx : szStrc ⟨ns, nx⟩ ≤ 1048576 := hx
  change 0 < g.length at hg
  change g.length ≤ 1048576 at hg2
  change ∀ y ∈ g, 0 ≤ y ∧ y < ns.length at hin
  have e0 : g.getD 0 0 = g[0] := by simp [List.getD_eq_getElem?_getD, hg]
  have hi0 := hin g[0] (List.getElem_mem hg)
  obtain ⟨n0, hn0⟩ : ∃ n : Nat, g[0] = n := ⟨g[0].toNat, by omega⟩
  have hl0 : n0 < ns.length := by omega
  have ed : nodeD ⟨ns, nx⟩ (g.getD 0 0) = ns[n0] := by
    rw [e0, hn0]; unfold nodeD
    simp [List.getD_eq_getElem?_getD, hl0]
  have hsz : szNode ns[n0] ≤ 1048576 := by
    have h1 := sum_mem szNode (List.getElem_mem hl0)
    have h2 : szStrc ⟨ns, nx⟩ = szNodes ns + nx.length := rfl
    have h3 : szNodes ns = ns.length + (ns.map szNode).sum := rfl
    omega
  have hM0 : manyG ⟨ns, nx⟩ g 0 = ns[n0].many := by unfold manyG; rw [ed]
  have hMs : ∀ k (hk : k < g.length) (n : Nat) (hn : n < ns.length), g[k] = n → manyG ⟨ns, nx⟩ g (k + 1) = if 1 < g.length ∨ ns[n].many ≠ 0 then 1 else manyG ⟨ns, nx⟩ g k := fun k hk n hn e => by
    have e1 : g.getD k 0 = n := by simp [List.getD_eq_getElem?_getD, hk, e]
    show (if 1 < g.length ∨ (nodeD ⟨ns, nx⟩ (g.getD k 0)).many ≠ 0 then 1 else manyG ⟨ns, nx⟩ g k) = _
    rw [e1]; unfold nodeD
    simp [List.getD_eq_getElem?_getD, hn]
  have hG : grpNode ⟨ns, nx⟩ g = ⟨ns[n0].vars, ns[n0].reach, ns[n0].shared, manyG ⟨ns, nx⟩ g g.length⟩ := by unfold grpNode; rw [ed]
  simp only [hG]
  clear hG ed e0
  generalize manyG ⟨ns, nx⟩ g = mg at *
  have hT : TabOk Tryz.prog _ := tab_h (CtN.hok ok_CopyNode) tab_nil
  refine OkH.of_cw fok_spec_l17Node ?_
  simp only [code_spec_l17Node, frame, List.length_cons, List.length_nil, List.replicate, Nat.reduceSub, Nat.reduceAdd, List.cons_append, List.nil_append]
  refine cw_seq (go_ok hT ?_); simp [List.replicate]
  refine cw_weak weak_void ?_
  refine cw_seq (cw_dreg9K hT [_, _, _, _] [true, false] [[.void], []] [none, none, none, none, none, none, none, some 1, some 0, some 0] [[], [], [], [], [], [], [], [false, true], [true, false], [true, false]] (by rfl) (one_cons (fun _ => rfl) (one_cons (by simp) one_nil)) (by rfl) ?_)
  simp [List.replicate, hg, hn0, hl0, hsz, cpR, cpN, AV.stored]
  refine ⟨_, _, fun x => ⟨rfl, rfl, rfl, rfl⟩, _, rfl, ?_⟩
  refine cw_seq (go_ok hT ?_); simp [List.replicate]
  refine cw_round (fun (k : Nat) => ⟨slots 38 [(1, encL 1 encInt g), (2, .pbox 0 0), (4, .pbox 3 0), (5, .pbox 4 0), (6, .int .i64 k)], [.cells [encL 4 encNode ns, encL 1 encInt nx], .nrow, .nrow, .cells [.slref 1 0 0 0, .slref 2 0 0 0, .int .i64 0, .int .i64 0], .cells [.slref 9 0 ns[n0].vars.length ns[n0].vars.length, .slref 10 0 ns[n0].reach.length ns[n0].reach.length, .int .i64 ns[n0].shared, .int .i64 (mg k)], .dead, .dead, .dead, .dead, .row true 3 1 (ns[n0].vars.map encInt), .row true 3 1 (ns[n0].reach.map encInt)]⟩)
    (fun k => k ≤ g.length) (fun k => g.length - k) 0 (by simp) ?_ ?_
  · rw [hM0]
    exact weak_less (by simp) (by simp [List.replicate])
  rintro N hN k hk
  change k ≤ g.length at hk
  have hw : IntKind.i64.wrap ((k : Int) + 1) = ((k + 1 : Nat) : Int) := by rw [wrap_i64] <;> omega
  by_cases q : k < g.length
  case neg =>
    have e : k = g.length := by omega
    subst e
    refine go_ok tab_nil ?_
    simp [List.replicate]
    refine go_ok tab_nil ?_
    simp [List.replicate]
    refine ⟨⟨slots 38 [(4, .pbox 3 0)], _⟩, weak_less (H' := gnN ⟨ns[n0].vars, ns[n0].reach, ns[n0].shared, mg g.length⟩) (by simp [gnN]) (by simp [List.replicate]), ?_⟩
    simp [retH, List.replicate, gnR, gnN]
  have q2 : ¬ g.length ≤ k := by omega
  have hik := hin g[k] (List.getElem_mem q)
  obtain ⟨n, hn⟩ : ∃ n : Nat, g[k] = n := ⟨g[k].toNat, by omega⟩
  have hl : n < ns.length := by omega
  have hs := hMs k q n hl hn
  have hN' := fun st h => hN k (k + 1) st (by show k + 1 ≤ g.length; omega) (by omega) h
  rw [hs] at hN'
  clear hN hs hMs
  generalize mg k = v at *
  by_cases q1 : 1 < g.length
  · rw [if_pos (.inl q1)] at hN'
    have q3 : ¬ g.length ≤ 1 := by omega
    have q4 : ¬ (g.length : Int) ≤ 1 := by omega
    have q6 : (1 : Int) < g.length := by omega
    refine go_ok tab_nil ?_
    simp [List.replicate, q, q2, q1, q3, q4, q6, hn, hl, hw]
    exact hN' _ (weak_less (by simp) (by simp [List.replicate]))
  · have q3 : g.length ≤ 1 := by omega
    have q4 : (g.length : Int) ≤ 1 := by omega
    have q6 : ¬ (1 : Int) < g.length := by omega
    by_cases q5 : ns[n].many = 0
    · rw [if_neg (by rintro (h | h); exact q1 h; exact h q5)] at hN'
      refine go_ok tab_nil ?_
      simp [List.replicate, q, q2, q1, q3, q4, q6, hn, hl, hw, q5]
      exact hN' _ (weak_less (by simp) (by simp [List.replicate]))
    · rw [if_pos (.inr q5)] at hN'
      refine go_ok tab_nil ?_
      simp [List.replicate, q, q2, q1, q3, q4, q6, hn, hl, hw, q5]
      exact hN' _ (weak_less (by simp) (by simp [List.replicate]))
theorem ok_l17Node : ct_l17Node.Ok Tryz.prog where
  ok := ok_l17NodeH
  res := fun x _ => rfl
  new := fun x _ => by simp [gnN, ownB, ownVL, ownV]
end Go.Vm
