/- The abstract code is that of the program (by the kernel). Conditions: none. -/
import Derived.Test.YtgnghiijbegacaaDoorCoA
import Derived.Test.YtgnghiijbegacaaDoorCoB
import Derived.Test.YtgnghiijbegacaaDoorCoC
import Derived.Test.YtgnghiijbegacaaDoorProg
import Derived.KernelRfl
namespace Go.Lg
open Go Go.Proofs
theorem law03_C_Of_chk : chkF Tryd.prog 12 law03_C_Of_ic 178 1 law03_C_Of_rv = true := by kernel_rfl
theorem scans_Balance_chk : chkF Tryd.prog 13 scans_Balance_ic 62 2 scans_Balance_rv = true := by kernel_rfl
theorem netlists_Check_chk : chkF Tryd.prog 14 netlists_Check_ic 11 1 netlists_Check_rv = true := by kernel_rfl
theorem netlists_Of_chk : chkF Tryd.prog 15 netlists_Of_ic 27 2 netlists_Of_rv = true := by kernel_rfl
theorem law34_lives_chk : chkF Tryd.prog 16 law34_lives_ic 116 0 law34_lives_rv = true := by kernel_rfl
theorem netlists_States_chk : chkF Tryd.prog 17 netlists_States_ic 6 1 netlists_States_rv = true := by kernel_rfl
theorem scans_Check_chk : chkF Tryd.prog 18 scans_Check_ic 68 2 scans_Check_rv = true := by kernel_rfl
theorem scans_Length_chk : chkF Tryd.prog 21 scans_Length_ic 36 3 scans_Length_rv = true := by kernel_rfl
theorem scans_Shorten_chk : chkF Tryd.prog 22 scans_Shorten_ic 38 3 scans_Shorten_rv = true := by kernel_rfl
theorem netlists_Comb_chk : chkF Tryd.prog 35 netlists_Comb_ic 9 1 netlists_Comb_rv = true := by kernel_rfl
theorem law03_C_gate_chk : chkF Tryd.prog 39 law03_C_gate_ic 158 3 law03_C_gate_rv = true := by kernel_rfl
theorem law03_name_chk : chkF Tryd.prog 40 law03_name_ic 13 1 law03_name_rv = true := by kernel_rfl
theorem scans_plain_chk : chkF Tryd.prog 41 scans_plain_ic 20 1 scans_plain_rv = true := by kernel_rfl
theorem slices_Clip_int_chk : chkF Tryd.prog 42 slices_Clip_int_ic 9 1 slices_Clip_int_rv = true := by kernel_rfl
theorem slices_Clone_int_chk : chkF Tryd.prog 43 slices_Clone_int_ic 8 1 slices_Clone_int_rv = true := by kernel_rfl
theorem slices_Clip_ints_chk : chkF Tryd.prog 44 slices_Clip_ints_ic 9 1 slices_Clip_ints_rv = true := by kernel_rfl
theorem netlists_Levels_chk : chkF Tryd.prog 45 netlists_Levels_ic 131 1 netlists_Levels_rv = true := by kernel_rfl
theorem slices_Contains_api_Kind_chk : chkF Tryd.prog 46 slices_Contains_api_Kind_ic 9 2 slices_Contains_api_Kind_rv = true := by kernel_rfl
theorem law34_row_chk : chkF Tryd.prog 47 law34_row_ic 35 1 law34_row_rv = true := by kernel_rfl
theorem scans_placed_chk : chkF Tryd.prog 49 scans_placed_ic 60 3 scans_placed_rv = true := by kernel_rfl
theorem scans_length_chk : chkF Tryd.prog 50 scans_length_ic 44 2 scans_length_rv = true := by kernel_rfl
theorem scans_shorter_chk : chkF Tryd.prog 51 scans_shorter_ic 49 2 scans_shorter_rv = true := by kernel_rfl
theorem netlists_shape_chk : chkF Tryd.prog 76 netlists_shape_ic 73 1 netlists_shape_rv = true := by kernel_rfl
theorem netlists_Fanout_chk : chkF Tryd.prog 77 netlists_Fanout_ic 65 1 netlists_Fanout_rv = true := by kernel_rfl
theorem slices_Index_api_Kind_chk : chkF Tryd.prog 78 slices_Index_api_Kind_ic 19 2 slices_Index_api_Kind_rv = true := by kernel_rfl
theorem scans_abs_chk : chkF Tryd.prog 79 scans_abs_ic 7 1 scans_abs_rv = true := by kernel_rfl
theorem slices_Reverse_int_chk : chkF Tryd.prog 80 slices_Reverse_int_ic 28 1 slices_Reverse_int_rv = true := by kernel_rfl
theorem logic_Fanin_chk : chkF Tryd.prog 82 logic_Fanin_ic 15 1 logic_Fanin_rv = true := by kernel_rfl
theorem strings_IndexByte_chk : chkF Tryd.prog 91 strings_IndexByte_ic 8 2 strings_IndexByte_rv = true := by kernel_rfl
theorem netlists_node_chk : chkF Tryd.prog 103 netlists_node_ic 53 2 netlists_node_rv = true := by kernel_rfl
theorem netlists_names_chk : chkF Tryd.prog 104 netlists_names_ic 25 1 netlists_names_rv = true := by kernel_rfl
theorem netlists_memory_chk : chkF Tryd.prog 105 netlists_memory_ic 37 2 netlists_memory_rv = true := by kernel_rfl
theorem slices_ContainsFunc_int_chk : chkF Tryd.prog 106 slices_ContainsFunc_int_ic 9 2 slices_ContainsFunc_int_rv = true := by kernel_rfl
theorem netlists_outside_chk : chkF Tryd.prog 107 netlists_outside_ic 4 1 netlists_outside_rv = true := by kernel_rfl
theorem slices_Clip_api_Line_chk : chkF Tryd.prog 108 slices_Clip_api_Line_ic 9 1 slices_Clip_api_Line_rv = true := by kernel_rfl
theorem i_stringslite_IndexByte_chk : chkF Tryd.prog 112 i_stringslite_IndexByte_ic 8 2 i_stringslite_IndexByte_rv = true := by kernel_rfl
theorem netlists_node_1_chk : chkF Tryd.prog 121 netlists_node_1_ic 11 2 netlists_node_1_rv = true := by kernel_rfl
theorem netlists_bit_chk : chkF Tryd.prog 122 netlists_bit_ic 45 2 netlists_bit_rv = true := by kernel_rfl
theorem netlists_IsName_chk : chkF Tryd.prog 123 netlists_IsName_ic 17 1 netlists_IsName_rv = true := by kernel_rfl
theorem netlists_memory_1_chk : chkF Tryd.prog 124 netlists_memory_1_ic 14 2 netlists_memory_1_rv = true := by kernel_rfl
theorem slices_IndexFunc_int_chk : chkF Tryd.prog 125 slices_IndexFunc_int_ic 19 2 slices_IndexFunc_int_rv = true := by kernel_rfl
theorem netlists_outside_1_chk : chkF Tryd.prog 126 netlists_outside_1_ic 13 2 netlists_outside_1_rv = true := by kernel_rfl
theorem netlists_IsName_1_chk : chkF Tryd.prog 134 netlists_IsName_1_ic 13 1 netlists_IsName_1_rv = true := by kernel_rfl
theorem strings_ContainsRune_chk : chkF Tryd.prog 135 strings_ContainsRune_ic 9 2 strings_ContainsRune_rv = true := by kernel_rfl
theorem strings_ContainsFunc_chk : chkF Tryd.prog 136 strings_ContainsFunc_ic 9 2 strings_ContainsFunc_rv = true := by kernel_rfl
theorem strings_IndexRune_chk : chkF Tryd.prog 143 strings_IndexRune_ic 187 2 strings_IndexRune_rv = true := by kernel_rfl
theorem strings_IndexFunc_chk : chkF Tryd.prog 144 strings_IndexFunc_ic 8 2 strings_IndexFunc_rv = true := by kernel_rfl
theorem utf8_ValidRune_chk : chkF Tryd.prog 147 utf8_ValidRune_ic 17 1 utf8_ValidRune_rv = true := by kernel_rfl
theorem strings_indexFunc_chk : chkF Tryd.prog 150 strings_indexFunc_ic 21 3 strings_indexFunc_rv = true := by kernel_rfl
theorem law34_ScansBalance_chk : chkF Tryd.prog 3 law34_ScansBalance_ic 147 2 law34_ScansBalance_rv = true := by kernel_rfl
theorem law34_ScansCheck_chk : chkF Tryd.prog 4 law34_ScansCheck_ic 136 2 law34_ScansCheck_rv = true := by kernel_rfl
end Go.Lg

