/- A part of the proof: general laws of a reading of the model by abstract data, or contracts of the functions that the law calls. -/
import Derived.KernelRfl
import Derived.Test.YtflbianfhogdjaaGreatDoorProg
import Derived.Test.YtflbianfhogdjaaGreatDoorVc11
set_option maxRecDepth 100000
namespace Go.Vc
open Go Go.Proofs Go.RowKit
abbrev f_main_main : FuncId := 0
abbrev f_gosem_cut : FuncId := 1
abbrev f_gosem_cut_init : FuncId := 2
abbrev f_law01_DifferSheets : FuncId := 3
abbrev f_law01_DifferAgrees : FuncId := 4
abbrev f_law01_DifferNotes : FuncId := 5
abbrev f_law01_DifferNexts : FuncId := 6
abbrev f_law01_DifferAsked : FuncId := 7
abbrev f_law01_DifferSums : FuncId := 8
abbrev f_law01_DifferTables : FuncId := 9
abbrev f_law01_DifferPrints : FuncId := 10
abbrev f_law01_DifferReads : FuncId := 11
abbrev f_law01_DifferSpoilt : FuncId := 12
abbrev f_law01_right : FuncId := 13
abbrev f_ref01_Size : FuncId := 14
abbrev f_law01_known : FuncId := 15
abbrev f_differ_Cut : FuncId := 16
abbrev f_differ_Joins : FuncId := 17
abbrev f_ref01_Same : FuncId := 18
abbrev f_law01_short : FuncId := 19
abbrev f_differ_Agree : FuncId := 20
abbrev f_differ_Known : FuncId := 21
abbrev f_ref01_Plan : FuncId := 22
abbrev f_ref01_Seen : FuncId := 23
abbrev f_ref01_All : FuncId := 24
abbrev f_ref01_SameSpans : FuncId := 25
abbrev f_ref01_Known : FuncId := 26
abbrev f_ref01_Line : FuncId := 27
abbrev f_differ_Table : FuncId := 28
abbrev f_differ_Next : FuncId := 29
abbrev f_ref01_Next : FuncId := 30
abbrev f_ref01_Fits : FuncId := 31
abbrev f_ref01_Left : FuncId := 32
abbrev f_ref01_Begin : FuncId := 33
abbrev f_law01_span : FuncId := 34
abbrev f_differ_Rows : FuncId := 35
abbrev f_ref01_With : FuncId := 36
abbrev f_differ_Check : FuncId := 37
abbrev f_differ_State : FuncId := 38
abbrev f_ref01_Truth : FuncId := 39
abbrev f_ref01_Table : FuncId := 40
abbrev f_ref01_At : FuncId := 41
abbrev f_differ_Print : FuncId := 42
abbrev f_differ_Read : FuncId := 43
abbrev f_ref01_Print : FuncId := 44
abbrev f_ref01_SamePlans : FuncId := 45
abbrev f_ref01_Read : FuncId := 46
abbrev f_ref01_in : FuncId := 47
abbrev f_law01_A : FuncId := 48
abbrev f_differ_Printed : FuncId := 49
abbrev f_law01_B : FuncId := 50
abbrev f_differ_Sure : FuncId := 51
abbrev f_differ_Doubt : FuncId := 52
abbrev f_differ_Widest : FuncId := 53
abbrev f_differ_Blame : FuncId := 54
abbrev f_differ_Climb : FuncId := 55
abbrev f_ref01_SameLists : FuncId := 56
abbrev f_differ_isPlan : FuncId := 57
abbrev f_differ_isTruth : FuncId := 58
abbrev f_differ_in : FuncId := 59
abbrev f_differ_table_state : FuncId := 60
abbrev f_differ_areFirsts : FuncId := 61
abbrev f_slices_Equal_l_int_int : FuncId := 62
abbrev f_differ_after : FuncId := 63
abbrev f_differ_areSeen : FuncId := 64
abbrev f_differ_agreeing : FuncId := 65
abbrev f_ref01_Start : FuncId := 66
abbrev f_ref01_truths : FuncId := 67
abbrev f_differ_table_values : FuncId := 68
abbrev f_differ_best_differ_asked : FuncId := 69
abbrev f_differ_Next_1 : FuncId := 70
abbrev f_ref01_value : FuncId := 71
abbrev f_differ_rows : FuncId := 72
abbrev f_differ_hasRow : FuncId := 73
abbrev f_ref01_Choose : FuncId := 74
abbrev f_differ_text : FuncId := 75
abbrev f_differ_attempt : FuncId := 76
abbrev f_differ_Read_1 : FuncId := 77
abbrev f_differ_parsed : FuncId := 78
abbrev f_ref01_Row : FuncId := 79
abbrev f_ref01_Sealed : FuncId := 80
abbrev f_ref01_Split : FuncId := 81
abbrev f_ref01_Numbers : FuncId := 82
abbrev f_differ_printed : FuncId := 83
abbrev f_differ_Doubt_1 : FuncId := 84
abbrev f_differ_mustBeSure : FuncId := 85
abbrev f_differ_hasStart : FuncId := 86
abbrev f_slices_Clone_l_api_Span_api_Span : FuncId := 87
abbrev f_differ_allSure : FuncId := 88
abbrev f_differ_shares : FuncId := 89
abbrev f_differ_sum : FuncId := 90
abbrev f_differ_best_differ_share : FuncId := 91
abbrev f_differ_Blame_1 : FuncId := 92
abbrev f_differ_isState : FuncId := 93
abbrev f_slices_Clone_l_int_int : FuncId := 94
abbrev f_slices_Reverse_l_int_int : FuncId := 95
abbrev f_slices_ContainsFunc_l_api_Span_api_Span : FuncId := 96
abbrev f_differ_isPlan_1 : FuncId := 97
abbrev f_differ_isStart : FuncId := 98
abbrev f_slices_ContainsFunc_l_l_int_l_int : FuncId := 99
abbrev f_differ_areFirsts_1 : FuncId := 100
abbrev f_slices_ContainsFunc_l_api_DifferSeen_api_DifferSeen : FuncId := 101
abbrev f_differ_areSeen_1 : FuncId := 102
abbrev f_differ_truths : FuncId := 103
abbrev f_differ_agreeing_1 : FuncId := 104
abbrev f_differ_end : FuncId := 105
abbrev f_differ_told : FuncId := 106
abbrev f_strconv_Itoa : FuncId := 107
abbrev f_strings_Join : FuncId := 108
abbrev f_differ_attempt_1 : FuncId := 109
abbrev f_strings_Split : FuncId := 110
abbrev f_differ_need : FuncId := 111
abbrev f_differ_given : FuncId := 112
abbrev f_differ_signed : FuncId := 113
abbrev f_ref01_Decimal : FuncId := 114
abbrev f_ref01_number : FuncId := 115
abbrev f_differ_figure : FuncId := 116
abbrev f_differ_allSure_1 : FuncId := 117
abbrev f_slices_ContainsFunc_l_int_int : FuncId := 118
abbrev f_differ_isState_1 : FuncId := 119
abbrev f_slices_IndexFunc_l_api_Span_api_Span : FuncId := 120
abbrev f_slices_IndexFunc_l_l_int_l_int : FuncId := 121
abbrev f_slices_IndexFunc_l_api_DifferSeen_api_DifferSeen : FuncId := 122
abbrev f_differ_truths_1 : FuncId := 123
abbrev f_differ_truths_1_1 : FuncId := 124
abbrev f_differ_start_least : FuncId := 125
abbrev f_differ_start_most : FuncId := 126
abbrev f_differ_words : FuncId := 127
abbrev f_internal_strconv_Itoa : FuncId := 128
abbrev f_p_strings_Builder_Grow : FuncId := 129
abbrev f_p_strings_Builder_WriteString : FuncId := 130
abbrev f_p_strings_Builder_String : FuncId := 131
abbrev f_strings_genSplit : FuncId := 132
abbrev f_strings_CutPrefix : FuncId := 133
abbrev f_differ_unit : FuncId := 134
abbrev f_slices_IndexFunc_l_int_int : FuncId := 135
abbrev f_internal_strconv_FormatInt : FuncId := 136
abbrev f_p_strings_Builder_copyCheck : FuncId := 137
abbrev f_p_strings_Builder_grow : FuncId := 138
abbrev f_strings_explode : FuncId := 139
abbrev f_strings_Count : FuncId := 140
abbrev f_strings_Index : FuncId := 141
abbrev f_internal_stringslite_CutPrefix : FuncId := 142
abbrev f_internal_strconv_small : FuncId := 143
abbrev f_internal_strconv_numDigits : FuncId := 144
abbrev f_internal_strconv_formatBase10 : FuncId := 145
abbrev f_internal_strconv_formatBits : FuncId := 146
abbrev f_internal_abi_NoEscape : FuncId := 147
abbrev f_internal_bytealg_MakeNoZero : FuncId := 148
abbrev f_unicode_utf8_RuneCountInString : FuncId := 149
abbrev f_unicode_utf8_DecodeRuneInString : FuncId := 150
abbrev f_internal_bytealg_CountString : FuncId := 151
abbrev f_internal_stringslite_Index : FuncId := 152
abbrev f_internal_stringslite_HasPrefix : FuncId := 153
abbrev f_internal_strconv_log10Pow2 : FuncId := 154
abbrev f_math_bits_Len64 : FuncId := 155
abbrev f_internal_strconv_bool2_int : FuncId := 156
abbrev f_internal_strconv_isPowerOfTwo : FuncId := 157
abbrev f_math_bits_TrailingZeros : FuncId := 158
abbrev f_unicode_utf8_decodeRuneInStringSlow : FuncId := 159
abbrev f_internal_stringslite_IndexByte : FuncId := 160
abbrev f_internal_bytealg_IndexString : FuncId := 161
abbrev f_internal_bytealg_Cutover : FuncId := 162
abbrev f_internal_bytealg_IndexRabinKarp_string : FuncId := 163
abbrev f_math_bits_TrailingZeros32 : FuncId := 164
abbrev f_math_bits_TrailingZeros64 : FuncId := 165
abbrev f_internal_bytealg_IndexByteString : FuncId := 166
abbrev f_internal_bytealg_hashStr_string : FuncId := 167
abbrev f_runtime_boundsError_Error : FuncId := 168
abbrev f_runtime_boundsError_RuntimeError : FuncId := 169
abbrev f_runtime_errorString_Error : FuncId := 170
abbrev f_runtime_errorString_RuntimeError : FuncId := 171
abbrev f_runtime_plainError_Error : FuncId := 172
abbrev f_runtime_plainError_RuntimeError : FuncId := 173
abbrev f_runtime_errorAddressString_Error : FuncId := 174
abbrev f_runtime_errorAddressString_RuntimeError : FuncId := 175
abbrev f_p_runtime_TypeAssertionError_Error : FuncId := 176
abbrev f_p_runtime_TypeAssertionError_RuntimeError : FuncId := 177
abbrev f_p_runtime_PanicNilError_Error : FuncId := 178
abbrev f_p_runtime_PanicNilError_RuntimeError : FuncId := 179
abbrev f_p_internal_abi_Type_Align : FuncId := 180
abbrev f_internal_runtime_maps_unhashableTypeError_Error : FuncId := 181
abbrev f_internal_runtime_maps_unhashableTypeError_RuntimeError : FuncId := 182
abbrev f_differ_head_numbers : FuncId := 183
abbrev f_differ_start_numbers : FuncId := 184
abbrev f_p_strings_Builder_Reset : FuncId := 185
abbrev f_internal_abi_Kind_String : FuncId := 186
abbrev f_var_s_door_gosem_cut_vars_holds_initialisers_alone_see_the_manifest_s_row_cutvarsword_look_11_test_files_too : FuncId := 187
abbrev f_var_s_door_internal_strconv_uint64pow10_is_laid_by_its_own_initialiser_plain_data_look_11 : FuncId := 188
abbrev f_var_s_door_math_bits_deBruijn32tab_is_laid_by_its_own_initialiser_plain_data_look_11 : FuncId := 189
abbrev f_var_s_door_math_bits_deBruijn64tab_is_laid_by_its_own_initialiser_plain_data_look_11 : FuncId := 190
abbrev f_var_s_door_the_look_of_gosem_cut_vars_went_over_the_folder_that_the_caller_named_as_the_repository_s_root_look_11 : FuncId := 191
abbrev f_var_s_door_unicode_utf8_acceptRanges_is_laid_by_its_own_initialiser_plain_data_look_11 : FuncId := 192
abbrev f_var_s_door_unicode_utf8_first_is_laid_by_its_text_alone_pinned_1 : FuncId := 193
abbrev f_gosem_cut_vars : FuncId := 194
abbrev T_ : TypeId := 0
abbrev T_func : TypeId := 1
abbrev T_int64 : TypeId := 2
abbrev T_int : TypeId := 3
abbrev T_bool : TypeId := 4
abbrev T_uint8 : TypeId := 5
abbrev T_abi_BoundsErrorCode : TypeId := 6
abbrev T_struct_x_int64_y_int_signed_bool_code_abi_BoundsErrorCode : TypeId := 7
abbrev T_runtime_boundsError : TypeId := 8
abbrev T_string : TypeId := 9
abbrev T_runtime_errorString : TypeId := 10
abbrev T_runtime_plainError : TypeId := 11
abbrev T_uintptr : TypeId := 12
abbrev T_struct_msg_string_addr_uintptr : TypeId := 13
abbrev T_runtime_errorAddressString : TypeId := 14
abbrev T_p_runtime_TypeAssertionError : TypeId := 15
abbrev T_p_runtime_PanicNilError : TypeId := 16
abbrev T_p_abi_Type : TypeId := 17
abbrev T_struct_typ_p_abi_Type : TypeId := 18
abbrev T_maps_unhashableTypeError : TypeId := 19
abbrev T_interface : TypeId := 20
abbrev T_int32 : TypeId := 21
abbrev T_l_api_Span : TypeId := 22
abbrev T_struct_Starts_l_api_Span_Rows_int_Guard_int : TypeId := 23
abbrev T_api_DifferPlan : TypeId := 24
abbrev T_l_int : TypeId := 25
abbrev T_func_api_DifferPlan_l_int_bool : TypeId := 26
abbrev T_func_api_DifferPlan_int_bool : TypeId := 27
abbrev T_func_bool : TypeId := 28
abbrev T_l_l_int : TypeId := 29
abbrev T_api_Errno : TypeId := 30
abbrev T_l_l_int_api_Errno : TypeId := 31
abbrev T_func_api_DifferPlan_l_int_int_l_l_int_api_Errno : TypeId := 32
abbrev T_l_int_api_Errno : TypeId := 33
abbrev T_func_api_DifferPlan_l_l_int_int_l_int_api_Errno : TypeId := 34
abbrev T_func_l_int_l_int_bool : TypeId := 35
abbrev T_func_api_DifferPlan_l_int_int_int_int_int_bool : TypeId := 36
abbrev T_l_api_DifferSeen : TypeId := 37
abbrev T_func_api_DifferPlan_bool : TypeId := 38
abbrev T_int_api_Errno : TypeId := 39
abbrev T_func_api_DifferPlan_l_api_DifferSeen_int_api_Errno : TypeId := 40
abbrev T_l_api_Span_api_Errno : TypeId := 41
abbrev T_func_api_DifferPlan_l_api_DifferSeen_l_api_Span_api_Errno : TypeId := 42
abbrev T_func_api_DifferPlan_l_api_DifferSeen_bool : TypeId := 43
abbrev T_func_api_DifferPlan_l_api_DifferSeen_l_l_int : TypeId := 44
abbrev T_func_l_api_Span_l_api_Span_bool : TypeId := 45
abbrev T_func_l_l_int_l_api_Span : TypeId := 46
abbrev T_func_api_DifferPlan_l_int_l_int_api_Errno : TypeId := 47
abbrev T_struct_Low_int_High_int : TypeId := 48
abbrev T_api_Span : TypeId := 49
abbrev T_struct_Row_int_Value_int : TypeId := 50
abbrev T_api_DifferSeen : TypeId := 51
abbrev T_func_api_DifferPlan_l_api_DifferSeen_l_int_int_bool : TypeId := 52
abbrev T_int_int_api_Errno : TypeId := 53
abbrev T_func_api_DifferPlan_l_api_DifferSeen_int_int_api_Errno : TypeId := 54
abbrev T_int_int : TypeId := 55
abbrev T_func_api_DifferPlan_l_l_int_int_int : TypeId := 56
abbrev T_func_l_int_l_api_DifferSeen_bool : TypeId := 57
abbrev T_func_l_l_int_int_int : TypeId := 58
abbrev T_func_int_int_api_Span : TypeId := 59
abbrev T_func_api_DifferPlan_l_api_Span_api_Errno : TypeId := 60
abbrev T_func_api_DifferPlan_int_int_api_DifferPlan : TypeId := 61
abbrev T_func_api_DifferPlan_l_int_l_int_int_api_Span_int_bool : TypeId := 62
abbrev T_func_api_DifferPlan_api_Errno : TypeId := 63
abbrev T_func_api_DifferPlan_l_int_int_l_int_api_Errno : TypeId := 64
abbrev T_func_api_DifferPlan_l_int_l_int : TypeId := 65
abbrev T_func_l_int_int_l_int : TypeId := 66
abbrev T_func_api_DifferPlan_l_int_int_bool : TypeId := 67
abbrev T_string_api_Errno : TypeId := 68
abbrev T_func_api_DifferPlan_string_api_Errno : TypeId := 69
abbrev T_api_DifferPlan_api_Errno : TypeId := 70
abbrev T_func_string_api_DifferPlan_api_Errno : TypeId := 71
abbrev T_func_api_DifferPlan_string : TypeId := 72
abbrev T_func_api_DifferPlan_api_DifferPlan_bool : TypeId := 73
abbrev T_api_DifferPlan_bool : TypeId := 74
abbrev T_func_string_api_DifferPlan_bool : TypeId := 75
abbrev T_func_string_bool : TypeId := 76
abbrev T_l_uint8 : TypeId := 77
abbrev T_func_api_DifferPlan_int_int_bool : TypeId := 78
abbrev T_func_int_int_int_bool : TypeId := 79
abbrev T_func_api_DifferPlan : TypeId := 80
abbrev T_func_api_DifferPlan_l_int_api_Errno : TypeId := 81
abbrev T_func_api_DifferPlan_int_api_Errno : TypeId := 82
abbrev T_func_api_DifferPlan_int_int_api_Errno : TypeId := 83
abbrev T_func_l_int_int_l_int_api_Errno : TypeId := 84
abbrev T_func_l_l_int_l_l_int_bool : TypeId := 85
abbrev T_struct_api_DifferPlan_truth_l_int : TypeId := 86
abbrev T_differ_table : TypeId := 87
abbrev T_func_int_l_int : TypeId := 88
abbrev T_func_api_DifferPlan_l_l_int_int_bool : TypeId := 89
abbrev T_l_differ_table : TypeId := 90
abbrev T_func_api_DifferPlan_l_api_DifferSeen_l_differ_table : TypeId := 91
abbrev T_func_api_Span_bool : TypeId := 92
abbrev T_func_api_DifferPlan_l_int_l_l_int : TypeId := 93
abbrev T_func_l_int : TypeId := 94
abbrev T_map_api_DifferSeen_int : TypeId := 95
abbrev T_l_differ_asked : TypeId := 96
abbrev T_struct_row_int_left_int : TypeId := 97
abbrev T_differ_asked : TypeId := 98
abbrev T_func_l_differ_asked_func_differ_asked_differ_asked_bool_differ_asked : TypeId := 99
abbrev T_func_differ_asked_differ_asked_bool : TypeId := 100
abbrev T_func_l_int_int_int : TypeId := 101
abbrev T_func_api_DifferPlan_l_api_Span : TypeId := 102
abbrev T_func_int_int_int : TypeId := 103
abbrev T_func_func_int_api_Errno : TypeId := 104
abbrev T_func_string_api_DifferPlan : TypeId := 105
abbrev T_func_string_l_int_string : TypeId := 106
abbrev T_l_string : TypeId := 107
abbrev T_func_l_string_int_string : TypeId := 108
abbrev T_func_string_uint8_l_string : TypeId := 109
abbrev T_l_int_bool : TypeId := 110
abbrev T_func_l_string_int_l_int_bool : TypeId := 111
abbrev T_func_api_DifferPlan_x : TypeId := 112
abbrev T_func_l_api_Span_l_api_Span : TypeId := 113
abbrev T_l_differ_share : TypeId := 114
abbrev T_func_api_DifferPlan_int_l_differ_share : TypeId := 115
abbrev T_struct_start_int_wide_int : TypeId := 116
abbrev T_differ_share : TypeId := 117
abbrev T_func_int_int : TypeId := 118
abbrev T_func_l_differ_share_func_differ_share_differ_share_bool_differ_share : TypeId := 119
abbrev T_func_differ_share_differ_share_bool : TypeId := 120
abbrev T_func_l_int_bool : TypeId := 121
abbrev T_func_l_int_l_int : TypeId := 122
abbrev T_func_l_int_x : TypeId := 123
abbrev T_func_l_api_Span_func_api_Span_bool_bool : TypeId := 124
abbrev T_func_l_l_int_func_l_int_bool_bool : TypeId := 125
abbrev T_func_l_api_DifferSeen_func_api_DifferSeen_bool_bool : TypeId := 126
abbrev T_func_api_DifferSeen_bool : TypeId := 127
abbrev T_func_func_differ_table_bool : TypeId := 128
abbrev T_iter_Seq_differ_table : TypeId := 129
abbrev T_func_api_DifferPlan_iter_Seq_differ_table : TypeId := 130
abbrev T_func_api_DifferPlan_int_l_int : TypeId := 131
abbrev T_func_differ_line_string : TypeId := 132
abbrev T_struct_api_DifferPlan : TypeId := 133
abbrev T_differ_head : TypeId := 134
abbrev T_differ_start : TypeId := 135
abbrev T_func_int_string : TypeId := 136
abbrev T_func_l_string_string_string : TypeId := 137
abbrev T_struct_row_int : TypeId := 138
abbrev T_differ_unsure : TypeId := 139
abbrev T_struct_why_string : TypeId := 140
abbrev T_differ_noText : TypeId := 141
abbrev T_func_string_string_l_string : TypeId := 142
abbrev T_func_bool_string : TypeId := 143
abbrev T_func_string_int : TypeId := 144
abbrev T_int_bool : TypeId := 145
abbrev T_func_string_int_int_bool : TypeId := 146
abbrev T_func_api_DifferPlan_int_int : TypeId := 147
abbrev T_func_l_int_func_int_bool_bool : TypeId := 148
abbrev T_func_int_bool : TypeId := 149
abbrev T_func_l_api_Span_func_api_Span_bool_int : TypeId := 150
abbrev T_func_l_l_int_func_l_int_bool_int : TypeId := 151
abbrev T_func_l_api_DifferSeen_func_api_DifferSeen_bool_int : TypeId := 152
abbrev T_func_differ_table_bool : TypeId := 153
abbrev T_func_differ_start_int : TypeId := 154
abbrev T_func_int : TypeId := 155
abbrev T_2_func_differ_start_int : TypeId := 156
abbrev T_interface_differ_numbers_l_int : TypeId := 157
abbrev T_differ_line : TypeId := 158
abbrev T_2_string : TypeId := 159
abbrev T_func_2_string : TypeId := 160
abbrev T_p_strings_Builder : TypeId := 161
abbrev T_struct_addr_p_strings_Builder_buf_l_uint8 : TypeId := 162
abbrev T_strings_Builder : TypeId := 163
abbrev T_func_int_x : TypeId := 164
abbrev T_interface_Error_string : TypeId := 165
abbrev T_error : TypeId := 166
abbrev T_int_error : TypeId := 167
abbrev T_func_string_int_error : TypeId := 168
abbrev T_func_string : TypeId := 169
abbrev T_func_string_string_int_int_l_string : TypeId := 170
abbrev T_string_bool : TypeId := 171
abbrev T_func_string_string_string_bool : TypeId := 172
abbrev T_func_api_DifferPlan_int : TypeId := 173
abbrev T_func_l_int_func_int_bool_int : TypeId := 174
abbrev T_func_int64_int_string : TypeId := 175
abbrev T_p_uint8 : TypeId := 176
abbrev T_func_string_int_l_string : TypeId := 177
abbrev T_func_string_string_int : TypeId := 178
abbrev T_24_uint8 : TypeId := 179
abbrev T_uint64 : TypeId := 180
abbrev T_func_uint64_int : TypeId := 181
abbrev T_func_l_uint8_uint64 : TypeId := 182
abbrev T_l_uint8_string : TypeId := 183
abbrev T_func_l_uint8_uint64_int_bool_bool_l_uint8_string : TypeId := 184
abbrev T_unsafe_Pointer : TypeId := 185
abbrev T_func_unsafe_Pointer_unsafe_Pointer : TypeId := 186
abbrev T_func_int_l_uint8 : TypeId := 187
abbrev T_int32_int : TypeId := 188
abbrev T_func_string_int32_int : TypeId := 189
abbrev T_func_string_uint8_int : TypeId := 190
abbrev T_func_string_string_bool : TypeId := 191
abbrev T_func_int_int_x : TypeId := 192
abbrev T_func_bool_int : TypeId := 193
abbrev T_20_uint64 : TypeId := 194
abbrev T_uint32 : TypeId := 195
abbrev T_65_uint8 : TypeId := 196
abbrev T_uint : TypeId := 197
abbrev T_func_uint_int : TypeId := 198
abbrev T_func_uint32_int : TypeId := 199
abbrev T_256_uint8 : TypeId := 200
abbrev T_struct_lo_uint8_hi_uint8 : TypeId := 201
abbrev T_utf8_acceptRange : TypeId := 202
abbrev T_16_utf8_acceptRange : TypeId := 203
abbrev T_uint32_uint32 : TypeId := 204
abbrev T_func_string_uint32_uint32 : TypeId := 205
abbrev T_32_uint8 : TypeId := 206
abbrev T_64_uint8 : TypeId := 207
abbrev T_struct__interface_p_abi_Type_concrete_p_abi_Type_asserted_p_abi_Type_missingMethod_string : TypeId := 208
abbrev T_runtime_TypeAssertionError : TypeId := 209
abbrev T_0_p_runtime_PanicNilError : TypeId := 210
abbrev T_struct___0_p_runtime_PanicNilError : TypeId := 211
abbrev T_runtime_PanicNilError : TypeId := 212
abbrev T_abi_TFlag : TypeId := 213
abbrev T_abi_Kind : TypeId := 214
abbrev T_func_unsafe_Pointer_unsafe_Pointer_bool : TypeId := 215
abbrev T_abi_NameOff : TypeId := 216
abbrev T_abi_TypeOff : TypeId := 217
abbrev T_struct_Size__uintptr_PtrBytes_uintptr_Hash_uint32_TFlag_abi_TFlag_Align__uint8_FieldAlign__uint8_Kind__abi_Kind_Equal_func_unsafe_Pointer_unsafe_Pointer_bool_GCData_p_uint8_Str_abi_NameOff_PtrToThis_abi_TypeOff : TypeId := 218
abbrev T_abi_Type : TypeId := 219
abbrev GG := {p : Nat × (World → Prop) // ∀ w w', p.2 w → Below p.1 w w' → p.2 w'}
noncomputable def Tz (g : GG) : Ctx := ⟨Tryz.prog, g.1.1, g.1.2, g.2, true⟩
end Go.Vc

namespace Go.Vc
open Go Go.Proofs Go.RowKit
def ann_differ_in : Nat → List Nat := fun n => match n with  | _ => []
def vc_differ_in (P : Ctx) (pre : List ABlk) (a0 a1 a2 : AV) (r : AV) (post : List PB) : Prop :=
  let h0 : Heap := numbered 0 pre
  BIN 0 .geq a0 a1 fun v9 =>
  CONDG v9
  (BIN 0 .leq a0 a2 fun v13 =>
  POST v13 h0 pre r post)
  (POST (.d (.bool false)) h0 pre r post)
theorem vc_differ_in_eq (g : GG) (pre : List ABlk) (a0 a1 a2 : AV) (r : AV) (post : List PB) : vcFn2 (Tz g) false ann_differ_in Tryz.f59 pre [a0, a1, a2] (.ret r) post = vc_differ_in (Tz g) pre a0 a1 a2 r post := by kernel_rfl
theorem hf_differ_in : Tryz.prog.funcs[f_differ_in]? = some Tryz.f59 := by kernel_rfl
theorem ok_differ_in : fnVcOK Tryz.prog Tryz.f59 = true := by kernel_rfl
theorem nt_differ_in : Nat.ble 3 Tryz.f59.ntmps = true := by kernel_rfl
theorem meetsH_differ_in {g : GG} {pre : List ABlk} {a0 a1 a2 : AV} {r : AV} {post : List PB} (hk : Nat.ble pre.length 24 = true) (h : vc_differ_in (Tz g) pre a0 a1 a2 r post) : MeetsH (Tz g) f_differ_in pre [a0, a1, a2] (.ret r) post :=
  meetsH_of_vc (C := Tz g) ann_differ_in hf_differ_in ok_differ_in nt_differ_in hk (pn := false) (Eq.mpr ((vcFn2_eq _ _ _ _ _ _ _ _).trans (vc_differ_in_eq g pre a0 a1 a2 r post)) h)
theorem meets_differ_in {g : GG} {a0 a1 a2 : D} {r : Res} (h : vc_differ_in (Tz g) [] (.d a0) (.d a1) (.d a2) r.val (r.bl.map .upd)) : Meets (Tz g) f_differ_in [a0, a1, a2] r := meetsH_differ_in rfl h
def ann_differ_isStart : Nat → List Nat := fun n => match n with  | _ => []
def vc_differ_isStart (P : Ctx) (pre : List ABlk) (a0 : AV) (r : AV) (post : List PB) : Prop :=
  let h0 : Heap := numbered 0 pre
  BOX T_api_Span a0 24 h0 fun v1 h1 =>
  FADDR 0 v1 h1 fun v3 =>
  LOAD false 1 v3 h1 fun v4 =>
  CALL P f_differ_in [v4, (.d (.num .i64 (-99999))), (.d (.num .i64 99999))] 56 h1 (fun _ v5 h2 =>
  CONDG v5
  (FADDR 1 v1 h2 fun v7 =>
  LOAD false 1 v7 h2 fun v8 =>
  FADDR 0 v1 h2 fun v9 =>
  LOAD false 1 v9 h2 fun v10 =>
  CALL P f_differ_in [v8, v10, (.d (.num .i64 99999))] 104 h2 (fun _ v11 h4 =>
  CONDG v11
  (FADDR 1 v1 h4 fun v14 =>
  LOAD false 1 v14 h4 fun v15 =>
  FADDR 0 v1 h4 fun v16 =>
  LOAD false 1 v16 h4 fun v17 =>
  BIN 0 .add v17 (.d (.num .i64 6)) fun v18 =>
  BIN 0 .leq v15 v18 fun v19 =>
  POST v19 h4 pre r post)
  (POST (.d (.bool false)) h4 pre r post))
  (fun _ _ _ => False))
  (POST (.d (.bool false)) h2 pre r post))
  (fun _ _ _ => False)
theorem vc_differ_isStart_eq (g : GG) (pre : List ABlk) (a0 : AV) (r : AV) (post : List PB) : vcFn2 (Tz g) false ann_differ_isStart Tryz.f98 pre [a0] (.ret r) post = vc_differ_isStart (Tz g) pre a0 r post := by kernel_rfl
theorem hf_differ_isStart : Tryz.prog.funcs[f_differ_isStart]? = some Tryz.f98 := by kernel_rfl
theorem ok_differ_isStart : fnVcOK Tryz.prog Tryz.f98 = true := by kernel_rfl
theorem nt_differ_isStart : Nat.ble 1 Tryz.f98.ntmps = true := by kernel_rfl
theorem meetsH_differ_isStart {g : GG} {pre : List ABlk} {a0 : AV} {r : AV} {post : List PB} (hk : Nat.ble pre.length 24 = true) (h : vc_differ_isStart (Tz g) pre a0 r post) : MeetsH (Tz g) f_differ_isStart pre [a0] (.ret r) post :=
  meetsH_of_vc (C := Tz g) ann_differ_isStart hf_differ_isStart ok_differ_isStart nt_differ_isStart hk (pn := false) (Eq.mpr ((vcFn2_eq _ _ _ _ _ _ _ _).trans (vc_differ_isStart_eq g pre a0 r post)) h)
theorem meets_differ_isStart {g : GG} {a0 : D} {r : Res} (h : vc_differ_isStart (Tz g) [] (.d a0) r.val (r.bl.map .upd)) : Meets (Tz g) f_differ_isStart [a0] r := meetsH_differ_isStart rfl h
def ann_differ_isPlan : Nat → List Nat := fun n => match n with  | _ => []
def vc_differ_isPlan (P : Ctx) (pre : List ABlk) (a0 : AV) (r : AV) (post : List PB) : Prop :=
  let h0 : Heap := numbered 0 pre
  BOX T_api_DifferPlan a0 24 h0 fun v1 h1 =>
  FADDR 0 v1 h1 fun v3 =>
  LOAD false 1 v3 h1 fun v4 =>
  LEN false v4 h1 fun v5 =>
  CALL P f_differ_in [v5, (.d (.num .i64 1)), (.d (.num .i64 4))] 64 h1 (fun _ v6 h2 =>
  CONDG v6
  (FADDR 1 v1 h2 fun v8 =>
  LOAD false 1 v8 h2 fun v9 =>
  CALL P f_differ_in [v9, (.d (.num .i64 1)), (.d (.num .i64 12))] 96 h2 (fun _ v10 h4 =>
  CONDG v10
  (FADDR 2 v1 h4 fun v13 =>
  LOAD false 1 v13 h4 fun v14 =>
  CALL P f_differ_in [v14, (.d (.num .i64 0)), (.d (.num .i64 3))] 136 h4 (fun _ v15 h6 =>
  CONDG v15
  (FADDR 0 v1 h6 fun v18 =>
  LOAD false 1 v18 h6 fun v19 =>
  CALL P f_slices_ContainsFunc_l_api_Span_api_Span [v19, (.d (.fn f_differ_isPlan_1 [] []))] 176 h6 (fun _ v20 h8 =>
  NOT v20 fun v21 =>
  POST v21 h8 pre r post)
  (fun _ _ _ => False))
  (POST (.d (.bool false)) h6 pre r post))
  (fun _ _ _ => False))
  (POST (.d (.bool false)) h4 pre r post))
  (fun _ _ _ => False))
  (POST (.d (.bool false)) h2 pre r post))
  (fun _ _ _ => False)
theorem vc_differ_isPlan_eq (g : GG) (pre : List ABlk) (a0 : AV) (r : AV) (post : List PB) : vcFn2 (Tz g) false ann_differ_isPlan Tryz.f57 pre [a0] (.ret r) post = vc_differ_isPlan (Tz g) pre a0 r post := by kernel_rfl
theorem hf_differ_isPlan : Tryz.prog.funcs[f_differ_isPlan]? = some Tryz.f57 := by kernel_rfl
theorem ok_differ_isPlan : fnVcOK Tryz.prog Tryz.f57 = true := by kernel_rfl
theorem nt_differ_isPlan : Nat.ble 1 Tryz.f57.ntmps = true := by kernel_rfl
theorem meetsH_differ_isPlan {g : GG} {pre : List ABlk} {a0 : AV} {r : AV} {post : List PB} (hk : Nat.ble pre.length 24 = true) (h : vc_differ_isPlan (Tz g) pre a0 r post) : MeetsH (Tz g) f_differ_isPlan pre [a0] (.ret r) post :=
  meetsH_of_vc (C := Tz g) ann_differ_isPlan hf_differ_isPlan ok_differ_isPlan nt_differ_isPlan hk (pn := false) (Eq.mpr ((vcFn2_eq _ _ _ _ _ _ _ _).trans (vc_differ_isPlan_eq g pre a0 r post)) h)
theorem meets_differ_isPlan {g : GG} {a0 : D} {r : Res} (h : vc_differ_isPlan (Tz g) [] (.d a0) r.val (r.bl.map .upd)) : Meets (Tz g) f_differ_isPlan [a0] r := meetsH_differ_isPlan rfl h
def ann_differ_isPlan_1 : Nat → List Nat := fun n => match n with  | _ => []
def vc_differ_isPlan_1 (P : Ctx) (pre : List ABlk) (a0 : AV) (r : AV) (post : List PB) : Prop :=
  let h0 : Heap := numbered 0 pre
  BOX T_api_Span a0 24 h0 fun v1 h1 =>
  LOAD true 2 v1 h1 fun v3 =>
  CALL P f_differ_isStart [v3] 48 h1 (fun _ v4 h2 =>
  NOT v4 fun v5 =>
  POST v5 h2 pre r post)
  (fun _ _ _ => False)
theorem vc_differ_isPlan_1_eq (g : GG) (pre : List ABlk) (a0 : AV) (r : AV) (post : List PB) : vcFn2 (Tz g) false ann_differ_isPlan_1 Tryz.f97 pre [a0] (.ret r) post = vc_differ_isPlan_1 (Tz g) pre a0 r post := by kernel_rfl
theorem hf_differ_isPlan_1 : Tryz.prog.funcs[f_differ_isPlan_1]? = some Tryz.f97 := by kernel_rfl
theorem ok_differ_isPlan_1 : fnVcOK Tryz.prog Tryz.f97 = true := by kernel_rfl
theorem nt_differ_isPlan_1 : Nat.ble 1 Tryz.f97.ntmps = true := by kernel_rfl
theorem meetsH_differ_isPlan_1 {g : GG} {pre : List ABlk} {a0 : AV} {r : AV} {post : List PB} (hk : Nat.ble pre.length 24 = true) (h : vc_differ_isPlan_1 (Tz g) pre a0 r post) : MeetsH (Tz g) f_differ_isPlan_1 pre [a0] (.ret r) post :=
  meetsH_of_vc (C := Tz g) ann_differ_isPlan_1 hf_differ_isPlan_1 ok_differ_isPlan_1 nt_differ_isPlan_1 hk (pn := false) (Eq.mpr ((vcFn2_eq _ _ _ _ _ _ _ _).trans (vc_differ_isPlan_1_eq g pre a0 r post)) h)
theorem meets_differ_isPlan_1 {g : GG} {a0 : D} {r : Res} (h : vc_differ_isPlan_1 (Tz g) [] (.d a0) r.val (r.bl.map .upd)) : Meets (Tz g) f_differ_isPlan_1 [a0] r := meetsH_differ_isPlan_1 rfl h
def ann_slices_IndexFunc_l_api_Span_api_Span : Nat → List Nat := fun n => match n with | 2 => [0, 1, 7, 8] | _ => []
def vc_slices_IndexFunc_l_api_Span_api_Span (P : Ctx) (pre : List ABlk) (a0 a1 : AV) (r : AV) (post : List PB) : Prop :=
  let h0 : Heap := numbered 0 pre
  LEN false a0 h0 fun v7 =>
  LOOP [a0, a1, v7, (.d (.num .i64 0))] h0 56 fun vs1 h2 next1 =>
  BIN 0 .lss (nth vs1 3) (nth vs1 2) fun v9 =>
  COND v9
  (IADDR 2 T_api_Span (nth vs1 0) (nth vs1 3) h2 fun v14 =>
  LOAD true 2 v14 h2 fun v15 =>
  CALLV P (nth vs1 1) [v15] 128 h2 (fun _ v16 h3 =>
  COND v16
  (POST (nth vs1 3) h3 pre r post)
  (BIN 0 .add (nth vs1 3) (.d (.num .i64 1)) fun v18 =>
  next1 [(nth vs1 0), (nth vs1 1), (nth vs1 2), v18] h3))
  (fun _ _ _ => False))
  (POST (.d (.num .i64 (-1))) h2 pre r post)
theorem vc_slices_IndexFunc_l_api_Span_api_Span_eq (g : GG) (pre : List ABlk) (a0 a1 : AV) (r : AV) (post : List PB) : vcFn2 (Tz g) false ann_slices_IndexFunc_l_api_Span_api_Span Tryz.f120 pre [a0, a1] (.ret r) post = vc_slices_IndexFunc_l_api_Span_api_Span (Tz g) pre a0 a1 r post := by kernel_rfl
theorem hf_slices_IndexFunc_l_api_Span_api_Span : Tryz.prog.funcs[f_slices_IndexFunc_l_api_Span_api_Span]? = some Tryz.f120 := by kernel_rfl
theorem ok_slices_IndexFunc_l_api_Span_api_Span : fnVcOK Tryz.prog Tryz.f120 = true := by kernel_rfl
theorem nt_slices_IndexFunc_l_api_Span_api_Span : Nat.ble 2 Tryz.f120.ntmps = true := by kernel_rfl
theorem meetsH_slices_IndexFunc_l_api_Span_api_Span {g : GG} {pre : List ABlk} {a0 a1 : AV} {r : AV} {post : List PB} (hk : Nat.ble pre.length 24 = true) (h : vc_slices_IndexFunc_l_api_Span_api_Span (Tz g) pre a0 a1 r post) : MeetsH (Tz g) f_slices_IndexFunc_l_api_Span_api_Span pre [a0, a1] (.ret r) post :=
  meetsH_of_vc (C := Tz g) ann_slices_IndexFunc_l_api_Span_api_Span hf_slices_IndexFunc_l_api_Span_api_Span ok_slices_IndexFunc_l_api_Span_api_Span nt_slices_IndexFunc_l_api_Span_api_Span hk (pn := false) (Eq.mpr ((vcFn2_eq _ _ _ _ _ _ _ _).trans (vc_slices_IndexFunc_l_api_Span_api_Span_eq g pre a0 a1 r post)) h)
theorem meets_slices_IndexFunc_l_api_Span_api_Span {g : GG} {a0 a1 : D} {r : Res} (h : vc_slices_IndexFunc_l_api_Span_api_Span (Tz g) [] (.d a0) (.d a1) r.val (r.bl.map .upd)) : Meets (Tz g) f_slices_IndexFunc_l_api_Span_api_Span [a0, a1] r := meetsH_slices_IndexFunc_l_api_Span_api_Span rfl h
def ann_slices_ContainsFunc_l_api_Span_api_Span : Nat → List Nat := fun n => match n with  | _ => []
def vc_slices_ContainsFunc_l_api_Span_api_Span (P : Ctx) (pre : List ABlk) (a0 a1 : AV) (r : AV) (post : List PB) : Prop :=
  let h0 : Heap := numbered 0 pre
  CALL P f_slices_IndexFunc_l_api_Span_api_Span [a0, a1] 48 h0 (fun _ v7 h1 =>
  BIN 0 .geq v7 (.d (.num .i64 0)) fun v8 =>
  POST v8 h1 pre r post)
  (fun _ _ _ => False)
theorem vc_slices_ContainsFunc_l_api_Span_api_Span_eq (g : GG) (pre : List ABlk) (a0 a1 : AV) (r : AV) (post : List PB) : vcFn2 (Tz g) false ann_slices_ContainsFunc_l_api_Span_api_Span Tryz.f96 pre [a0, a1] (.ret r) post = vc_slices_ContainsFunc_l_api_Span_api_Span (Tz g) pre a0 a1 r post := by kernel_rfl
theorem hf_slices_ContainsFunc_l_api_Span_api_Span : Tryz.prog.funcs[f_slices_ContainsFunc_l_api_Span_api_Span]? = some Tryz.f96 := by kernel_rfl
theorem ok_slices_ContainsFunc_l_api_Span_api_Span : fnVcOK Tryz.prog Tryz.f96 = true := by kernel_rfl
theorem nt_slices_ContainsFunc_l_api_Span_api_Span : Nat.ble 2 Tryz.f96.ntmps = true := by kernel_rfl
theorem meetsH_slices_ContainsFunc_l_api_Span_api_Span {g : GG} {pre : List ABlk} {a0 a1 : AV} {r : AV} {post : List PB} (hk : Nat.ble pre.length 24 = true) (h : vc_slices_ContainsFunc_l_api_Span_api_Span (Tz g) pre a0 a1 r post) : MeetsH (Tz g) f_slices_ContainsFunc_l_api_Span_api_Span pre [a0, a1] (.ret r) post :=
  meetsH_of_vc (C := Tz g) ann_slices_ContainsFunc_l_api_Span_api_Span hf_slices_ContainsFunc_l_api_Span_api_Span ok_slices_ContainsFunc_l_api_Span_api_Span nt_slices_ContainsFunc_l_api_Span_api_Span hk (pn := false) (Eq.mpr ((vcFn2_eq _ _ _ _ _ _ _ _).trans (vc_slices_ContainsFunc_l_api_Span_api_Span_eq g pre a0 a1 r post)) h)
theorem meets_slices_ContainsFunc_l_api_Span_api_Span {g : GG} {a0 a1 : D} {r : Res} (h : vc_slices_ContainsFunc_l_api_Span_api_Span (Tz g) [] (.d a0) (.d a1) r.val (r.bl.map .upd)) : Meets (Tz g) f_slices_ContainsFunc_l_api_Span_api_Span [a0, a1] r := meetsH_slices_ContainsFunc_l_api_Span_api_Span rfl h
def ann_slices_Clone_l_int_int : Nat → List Nat := fun n => match n with  | _ => []
def vc_slices_Clone_l_int_int (P : Ctx) (pre : List ABlk) (a0 : AV) (r : AV) (post : List PB) : Prop :=
  let h0 : Heap := numbered 0 pre
  BIN 998 .eql a0 .zc fun v4 =>
  COND v4
  (POST .zc h0 pre r post)
  (MKS T_int 1 [] 48 h0 fun v5 h1 =>
  APP T_int 1 v5 a0 64 h1 fun v7 h2 =>
  POST v7 h2 pre r post)
theorem vc_slices_Clone_l_int_int_eq (g : GG) (pre : List ABlk) (a0 : AV) (r : AV) (post : List PB) : vcFn2 (Tz g) false ann_slices_Clone_l_int_int Tryz.f94 pre [a0] (.ret r) post = vc_slices_Clone_l_int_int (Tz g) pre a0 r post := by kernel_rfl
theorem hf_slices_Clone_l_int_int : Tryz.prog.funcs[f_slices_Clone_l_int_int]? = some Tryz.f94 := by kernel_rfl
theorem ok_slices_Clone_l_int_int : fnVcOK Tryz.prog Tryz.f94 = true := by kernel_rfl
theorem nt_slices_Clone_l_int_int : Nat.ble 1 Tryz.f94.ntmps = true := by kernel_rfl
theorem meetsH_slices_Clone_l_int_int {g : GG} {pre : List ABlk} {a0 : AV} {r : AV} {post : List PB} (hk : Nat.ble pre.length 24 = true) (h : vc_slices_Clone_l_int_int (Tz g) pre a0 r post) : MeetsH (Tz g) f_slices_Clone_l_int_int pre [a0] (.ret r) post :=
  meetsH_of_vc (C := Tz g) ann_slices_Clone_l_int_int hf_slices_Clone_l_int_int ok_slices_Clone_l_int_int nt_slices_Clone_l_int_int hk (pn := false) (Eq.mpr ((vcFn2_eq _ _ _ _ _ _ _ _).trans (vc_slices_Clone_l_int_int_eq g pre a0 r post)) h)
theorem meets_slices_Clone_l_int_int {g : GG} {a0 : D} {r : Res} (h : vc_slices_Clone_l_int_int (Tz g) [] (.d a0) r.val (r.bl.map .upd)) : Meets (Tz g) f_slices_Clone_l_int_int [a0] r := meetsH_slices_Clone_l_int_int rfl h
def ann_differ_after : Nat → List Nat := fun n => match n with | 3 => [5, 9, 10] | 5 => [5, 9, 10, 14, 15] | _ => []
def vc_differ_after (P : Ctx) (pre : List ABlk) (a0 a1 : AV) (r : AV) (post : List PB) : Prop :=
  let h0 : Heap := numbered 0 pre
  CALL P f_slices_Clone_l_int_int [a0] 40 h0 (fun _ v8 h1 =>
  LOOP [v8, a1, (.d (.num .i64 0))] h1 72 fun vs3 h4 next3 =>
  BIN 0 .lss (nth vs3 2) (nth vs3 1) fun v11 =>
  COND v11
  (LEN false (nth vs3 0) h4 fun v13 =>
  BIN 0 .sub v13 (.d (.num .i64 1)) fun v14 =>
  LOOP [(nth vs3 0), (nth vs3 1), (nth vs3 2), v14, (.d (.num .i64 0))] h4 120 fun vs5 h6 next5 =>
  BIN 0 .lss (nth vs5 4) (nth vs5 3) fun v16 =>
  COND v16
  (IADDR 1 T_int (nth vs5 0) (nth vs5 4) h6 fun v20 =>
  LOAD false 1 v20 h6 fun v21 =>
  BIN 0 .add (nth vs5 4) (.d (.num .i64 1)) fun v24 =>
  IADDR 1 T_int (nth vs5 0) v24 h6 fun v25 =>
  LOAD false 1 v25 h6 fun v26 =>
  BIN 0 .add v21 v26 fun v27 =>
  IADDR 1 T_int (nth vs5 0) (nth vs5 4) h6 fun v28 =>
  STORE 1 v28 v27 h6 fun h7 =>
  ORDX [] [0, 0, 3, 7, 0, 0, 32, 112, 240, 511, 1023, 2047] [(2, wr h6 h6, (ids (nth vs5 0))), (3, wr h6 h6, (ids v20)), (7, wr h6 h6, (ids (nth vs5 0))), (8, wr h6 h6, (ids v25)), (10, wr h6 h6, (ids (nth vs5 0))), (11, wr h6 h7, (ids v28))] ∧
  BIN 0 .add (nth vs5 4) (.d (.num .i64 1)) fun v29 =>
  next5 [(nth vs5 0), (nth vs5 1), (nth vs5 2), (nth vs5 3), v29] h7)
  (BIN 0 .add (nth vs5 2) (.d (.num .i64 1)) fun v30 =>
  next3 [(nth vs5 0), (nth vs5 1), v30] h6))
  (POST (nth vs3 0) h4 pre r post))
  (fun _ _ _ => False)
theorem vc_differ_after_eq (g : GG) (pre : List ABlk) (a0 a1 : AV) (r : AV) (post : List PB) : vcFn2 (Tz g) false ann_differ_after Tryz.f63 pre [a0, a1] (.ret r) post = vc_differ_after (Tz g) pre a0 a1 r post := by kernel_rfl
theorem hf_differ_after : Tryz.prog.funcs[f_differ_after]? = some Tryz.f63 := by kernel_rfl
theorem ok_differ_after : fnVcOK Tryz.prog Tryz.f63 = true := by kernel_rfl
theorem nt_differ_after : Nat.ble 2 Tryz.f63.ntmps = true := by kernel_rfl
theorem meetsH_differ_after {g : GG} {pre : List ABlk} {a0 a1 : AV} {r : AV} {post : List PB} (hk : Nat.ble pre.length 24 = true) (h : vc_differ_after (Tz g) pre a0 a1 r post) : MeetsH (Tz g) f_differ_after pre [a0, a1] (.ret r) post :=
  meetsH_of_vc (C := Tz g) ann_differ_after hf_differ_after ok_differ_after nt_differ_after hk (pn := false) (Eq.mpr ((vcFn2_eq _ _ _ _ _ _ _ _).trans (vc_differ_after_eq g pre a0 a1 r post)) h)
theorem meets_differ_after {g : GG} {a0 a1 : D} {r : Res} (h : vc_differ_after (Tz g) [] (.d a0) (.d a1) r.val (r.bl.map .upd)) : Meets (Tz g) f_differ_after [a0, a1] r := meetsH_differ_after rfl h
def ann_differ_table_state : Nat → List Nat := fun n => match n with  | _ => []
def vc_differ_table_state (P : Ctx) (pre : List ABlk) (a0 a1 : AV) (r : AV) (post : List PB) : Prop :=
  let h0 : Heap := numbered 0 pre
  BOX T_differ_table a0 24 h0 fun v2 h1 =>
  FADDR 3 v2 h1 fun v5 =>
  LOAD false 1 v5 h1 fun v6 =>
  CALL P f_differ_after [v6, a1] 64 h1 (fun _ v8 h2 =>
  POST v8 h2 pre r post)
  (fun _ _ _ => False)
theorem vc_differ_table_state_eq (g : GG) (pre : List ABlk) (a0 a1 : AV) (r : AV) (post : List PB) : vcFn2 (Tz g) false ann_differ_table_state Tryz.f60 pre [a0, a1] (.ret r) post = vc_differ_table_state (Tz g) pre a0 a1 r post := by kernel_rfl
theorem hf_differ_table_state : Tryz.prog.funcs[f_differ_table_state]? = some Tryz.f60 := by kernel_rfl
theorem ok_differ_table_state : fnVcOK Tryz.prog Tryz.f60 = true := by kernel_rfl
theorem nt_differ_table_state : Nat.ble 2 Tryz.f60.ntmps = true := by kernel_rfl
theorem meetsH_differ_table_state {g : GG} {pre : List ABlk} {a0 a1 : AV} {r : AV} {post : List PB} (hk : Nat.ble pre.length 24 = true) (h : vc_differ_table_state (Tz g) pre a0 a1 r post) : MeetsH (Tz g) f_differ_table_state pre [a0, a1] (.ret r) post :=
  meetsH_of_vc (C := Tz g) ann_differ_table_state hf_differ_table_state ok_differ_table_state nt_differ_table_state hk (pn := false) (Eq.mpr ((vcFn2_eq _ _ _ _ _ _ _ _).trans (vc_differ_table_state_eq g pre a0 a1 r post)) h)
theorem meets_differ_table_state {g : GG} {a0 a1 : D} {r : Res} (h : vc_differ_table_state (Tz g) [] (.d a0) (.d a1) r.val (r.bl.map .upd)) : Meets (Tz g) f_differ_table_state [a0, a1] r := meetsH_differ_table_state rfl h
def ann_differ_table_values : Nat → List Nat := fun n => match n with | 3 => [1, 3, 8, 9] | _ => []
def vc_differ_table_values (P : Ctx) (pre : List ABlk) (a0 : AV) (r : AV) (post : List PB) : Prop :=
  let h0 : Heap := numbered 0 pre
  BOX T_differ_table a0 24 h0 fun v1 h1 =>
  FADDR 0 v1 h1 fun v6 =>
  FADDR 1 v6 h1 fun v7 =>
  LOAD false 1 v7 h1 fun v8 =>
  LOOP [v1, .zc, v8, (.d (.num .i64 0))] h1 80 fun vs2 h3 next2 =>
  BIN 0 .lss (nth vs2 3) (nth vs2 2) fun v10 =>
  COND v10
  (LOAD true 4 (nth vs2 0) h3 fun v12 =>
  CALL P f_differ_table_state [v12, (nth vs2 3)] 128 h3 (fun _ v14 h4 =>
  IADDR 1 T_int v14 (.d (.num .i64 0)) h4 fun v17 =>
  LOAD false 1 v17 h4 fun v18 =>
  MKS T_int 1 [v18] 176 h4 fun v19 h6 =>
  APP T_int 1 (nth vs2 1) v19 184 h6 fun v20 h7 =>
  BIN 0 .add (nth vs2 3) (.d (.num .i64 1)) fun v21 =>
  next2 [(nth vs2 0), v20, (nth vs2 2), v21] h7)
  (fun _ _ _ => False))
  (POST (nth vs2 1) h3 pre r post)
theorem vc_differ_table_values_eq (g : GG) (pre : List ABlk) (a0 : AV) (r : AV) (post : List PB) : vcFn2 (Tz g) false ann_differ_table_values Tryz.f68 pre [a0] (.ret r) post = vc_differ_table_values (Tz g) pre a0 r post := by kernel_rfl
theorem hf_differ_table_values : Tryz.prog.funcs[f_differ_table_values]? = some Tryz.f68 := by kernel_rfl
theorem ok_differ_table_values : fnVcOK Tryz.prog Tryz.f68 = true := by kernel_rfl
theorem nt_differ_table_values : Nat.ble 1 Tryz.f68.ntmps = true := by kernel_rfl
theorem meetsH_differ_table_values {g : GG} {pre : List ABlk} {a0 : AV} {r : AV} {post : List PB} (hk : Nat.ble pre.length 24 = true) (h : vc_differ_table_values (Tz g) pre a0 r post) : MeetsH (Tz g) f_differ_table_values pre [a0] (.ret r) post :=
  meetsH_of_vc (C := Tz g) ann_differ_table_values hf_differ_table_values ok_differ_table_values nt_differ_table_values hk (pn := false) (Eq.mpr ((vcFn2_eq _ _ _ _ _ _ _ _).trans (vc_differ_table_values_eq g pre a0 r post)) h)
theorem meets_differ_table_values {g : GG} {a0 : D} {r : Res} (h : vc_differ_table_values (Tz g) [] (.d a0) r.val (r.bl.map .upd)) : Meets (Tz g) f_differ_table_values [a0] r := meetsH_differ_table_values rfl h
def ann_differ_isTruth : Nat → List Nat := fun n => match n with | 4 => [2, 13, 14, 15] | _ => []
def vc_differ_isTruth (P : Ctx) (pre : List ABlk) (a0 a1 : AV) (r : AV) (post : List PB) : Prop :=
  let h0 : Heap := numbered 0 pre
  BOX T_api_DifferPlan a0 24 h0 fun v2 h1 =>
  LEN false a1 h1 fun v8 =>
  FADDR 0 v2 h1 fun v9 =>
  LOAD false 1 v9 h1 fun v10 =>
  LEN false v10 h1 fun v11 =>
  BIN 0 .neq v8 v11 fun v12 =>
  COND v12
  (POST (.d (.bool false)) h1 pre r post)
  (LEN false a1 h1 fun v14 =>
  LOOP [v2, a1, v14, (.d (.num .i64 0))] h1 112 fun vs2 h3 next2 =>
  BIN 0 .lss (nth vs2 3) (nth vs2 2) fun v16 =>
  COND v16
  (IADDR 1 T_int (nth vs2 1) (nth vs2 3) h3 fun v18 =>
  LOAD false 1 v18 h3 fun v19 =>
  FADDR 0 (nth vs2 0) h3 fun v21 =>
  LOAD false 1 v21 h3 fun v22 =>
  IADDR 2 T_api_Span v22 (nth vs2 3) h3 fun v24 =>
  FADDR 0 v24 h3 fun v25 =>
  LOAD false 1 v25 h3 fun v26 =>
  FADDR 0 (nth vs2 0) h3 fun v27 =>
  LOAD false 1 v27 h3 fun v28 =>
  IADDR 2 T_api_Span v28 (nth vs2 3) h3 fun v30 =>
  FADDR 1 v30 h3 fun v31 =>
  LOAD false 1 v31 h3 fun v32 =>
  CALL P f_differ_in [v19, v26, v32] 272 h3 (fun rd5 v33 h4 =>
  NOT v33 fun v34 =>
  ORDX [] [0, 0, 2, 0, 14, 30, 62, 0, 128, 0, 896, 1920, 3968, 8191, 16383] [(1, wr h3 h3, (ids (nth vs2 0))), (2, wr h3 h3, (ids v21)), (4, wr h3 h3, (ids v22)), (5, wr h3 h3, (ids v24)), (6, wr h3 h3, (ids v25)), (7, wr h3 h3, (ids (nth vs2 0))), (8, wr h3 h3, (ids v27)), (10, wr h3 h3, (ids v28)), (11, wr h3 h3, (ids v30)), (12, wr h3 h3, (ids v31)), (13, wr h3 h4, rd5)] ∧
  COND v34
  (POST (.d (.bool false)) h4 pre r post)
  (BIN 0 .add (nth vs2 3) (.d (.num .i64 1)) fun v35 =>
  next2 [(nth vs2 0), (nth vs2 1), (nth vs2 2), v35] h4))
  (fun _ _ _ => False))
  (POST (.d (.bool true)) h3 pre r post))
theorem vc_differ_isTruth_eq (g : GG) (pre : List ABlk) (a0 a1 : AV) (r : AV) (post : List PB) : vcFn2 (Tz g) false ann_differ_isTruth Tryz.f58 pre [a0, a1] (.ret r) post = vc_differ_isTruth (Tz g) pre a0 a1 r post := by kernel_rfl
theorem hf_differ_isTruth : Tryz.prog.funcs[f_differ_isTruth]? = some Tryz.f58 := by kernel_rfl
theorem ok_differ_isTruth : fnVcOK Tryz.prog Tryz.f58 = true := by kernel_rfl
theorem nt_differ_isTruth : Nat.ble 2 Tryz.f58.ntmps = true := by kernel_rfl
theorem meetsH_differ_isTruth {g : GG} {pre : List ABlk} {a0 a1 : AV} {r : AV} {post : List PB} (hk : Nat.ble pre.length 24 = true) (h : vc_differ_isTruth (Tz g) pre a0 a1 r post) : MeetsH (Tz g) f_differ_isTruth pre [a0, a1] (.ret r) post :=
  meetsH_of_vc (C := Tz g) ann_differ_isTruth hf_differ_isTruth ok_differ_isTruth nt_differ_isTruth hk (pn := false) (Eq.mpr ((vcFn2_eq _ _ _ _ _ _ _ _).trans (vc_differ_isTruth_eq g pre a0 a1 r post)) h)
theorem meets_differ_isTruth {g : GG} {a0 a1 : D} {r : Res} (h : vc_differ_isTruth (Tz g) [] (.d a0) (.d a1) r.val (r.bl.map .upd)) : Meets (Tz g) f_differ_isTruth [a0, a1] r := meetsH_differ_isTruth rfl h
def ann_differ_hasRow : Nat → List Nat := fun n => match n with  | _ => []
def vc_differ_hasRow (P : Ctx) (pre : List ABlk) (a0 a1 : AV) (r : AV) (post : List PB) : Prop :=
  let h0 : Heap := numbered 0 pre
  BOX T_api_DifferPlan a0 24 h0 fun v2 h1 =>
  FADDR 1 v2 h1 fun v6 =>
  LOAD false 1 v6 h1 fun v7 =>
  BIN 0 .sub v7 (.d (.num .i64 1)) fun v8 =>
  CALL P f_differ_in [a1, (.d (.num .i64 0)), v8] 72 h1 (fun _ v9 h2 =>
  POST v9 h2 pre r post)
  (fun _ _ _ => False)
theorem vc_differ_hasRow_eq (g : GG) (pre : List ABlk) (a0 a1 : AV) (r : AV) (post : List PB) : vcFn2 (Tz g) false ann_differ_hasRow Tryz.f73 pre [a0, a1] (.ret r) post = vc_differ_hasRow (Tz g) pre a0 a1 r post := by kernel_rfl
theorem hf_differ_hasRow : Tryz.prog.funcs[f_differ_hasRow]? = some Tryz.f73 := by kernel_rfl
theorem ok_differ_hasRow : fnVcOK Tryz.prog Tryz.f73 = true := by kernel_rfl
theorem nt_differ_hasRow : Nat.ble 2 Tryz.f73.ntmps = true := by kernel_rfl
theorem meetsH_differ_hasRow {g : GG} {pre : List ABlk} {a0 a1 : AV} {r : AV} {post : List PB} (hk : Nat.ble pre.length 24 = true) (h : vc_differ_hasRow (Tz g) pre a0 a1 r post) : MeetsH (Tz g) f_differ_hasRow pre [a0, a1] (.ret r) post :=
  meetsH_of_vc (C := Tz g) ann_differ_hasRow hf_differ_hasRow ok_differ_hasRow nt_differ_hasRow hk (pn := false) (Eq.mpr ((vcFn2_eq _ _ _ _ _ _ _ _).trans (vc_differ_hasRow_eq g pre a0 a1 r post)) h)
theorem meets_differ_hasRow {g : GG} {a0 a1 : D} {r : Res} (h : vc_differ_hasRow (Tz g) [] (.d a0) (.d a1) r.val (r.bl.map .upd)) : Meets (Tz g) f_differ_hasRow [a0, a1] r := meetsH_differ_hasRow rfl h
def ann_differ_Table : Nat → List Nat := fun n => match n with  | _ => []
def vc_differ_Table (P : Ctx) (pre : List ABlk) (a0 a1 : AV) (r : AV) (post : List PB) : Prop :=
  let h0 : Heap := numbered 0 pre
  BOX T_api_DifferPlan a0 24 h0 fun v2 h1 =>
  LOAD true 3 v2 h1 fun v6 =>
  CALL P f_differ_isPlan [v6] 56 h1 (fun _ v7 h2 =>
  NOT v7 fun v8 =>
  CONDG v8
  (POST (.tup [.zc, (.d (.num .i64 2))]) h2 pre r post)
  (LOAD true 3 v2 h2 fun v10 =>
  CALL P f_differ_isTruth [v10, a1] 96 h2 (fun _ v12 h4 =>
  NOT v12 fun v13 =>
  COND v13
  (POST (.tup [.zc, (.d (.num .i64 2))]) h4 pre r post)
  (LOAD true 3 v2 h4 fun v15 =>
  BUILD [(0, 3), (3, 1)] [.zc, .d (.num .i64 0), .d (.num .i64 0), .zc] [(0, v15), (1, a1)] fun v17 =>
  CALL P f_differ_table_values [v17] 144 h4 (fun _ v18 h6 =>
  POST (.tup [v18, (.d (.num .i64 0))]) h6 pre r post)
  (fun _ _ _ => False)))
  (fun _ _ _ => False)))
  (fun _ _ _ => False)
theorem vc_differ_Table_eq (g : GG) (pre : List ABlk) (a0 a1 : AV) (r : AV) (post : List PB) : vcFn2 (Tz g) false ann_differ_Table Tryz.f28 pre [a0, a1] (.ret r) post = vc_differ_Table (Tz g) pre a0 a1 r post := by kernel_rfl
theorem hf_differ_Table : Tryz.prog.funcs[f_differ_Table]? = some Tryz.f28 := by kernel_rfl
theorem ok_differ_Table : fnVcOK Tryz.prog Tryz.f28 = true := by kernel_rfl
theorem nt_differ_Table : Nat.ble 2 Tryz.f28.ntmps = true := by kernel_rfl
theorem meetsH_differ_Table {g : GG} {pre : List ABlk} {a0 a1 : AV} {r : AV} {post : List PB} (hk : Nat.ble pre.length 24 = true) (h : vc_differ_Table (Tz g) pre a0 a1 r post) : MeetsH (Tz g) f_differ_Table pre [a0, a1] (.ret r) post :=
  meetsH_of_vc (C := Tz g) ann_differ_Table hf_differ_Table ok_differ_Table nt_differ_Table hk (pn := false) (Eq.mpr ((vcFn2_eq _ _ _ _ _ _ _ _).trans (vc_differ_Table_eq g pre a0 a1 r post)) h)
theorem meets_differ_Table {g : GG} {a0 a1 : D} {r : Res} (h : vc_differ_Table (Tz g) [] (.d a0) (.d a1) r.val (r.bl.map .upd)) : Meets (Tz g) f_differ_Table [a0, a1] r := meetsH_differ_Table rfl h
def ann_differ_State : Nat → List Nat := fun n => match n with  | _ => []
def vc_differ_State (P : Ctx) (pre : List ABlk) (a0 a1 a2 : AV) (r : AV) (post : List PB) : Prop :=
  let h0 : Heap := numbered 0 pre
  BOX T_api_DifferPlan a0 24 h0 fun v3 h1 =>
  LOAD true 3 v3 h1 fun v8 =>
  CALL P f_differ_isPlan [v8] 56 h1 (fun _ v9 h2 =>
  NOT v9 fun v10 =>
  CONDG v10
  (POST (.tup [.zc, (.d (.num .i64 2))]) h2 pre r post)
  (LOAD true 3 v3 h2 fun v12 =>
  CALL P f_differ_isTruth [v12, a1] 96 h2 (fun _ v14 h4 =>
  NOT v14 fun v15 =>
  CONDG v15
  (POST (.tup [.zc, (.d (.num .i64 2))]) h4 pre r post)
  (LOAD true 3 v3 h4 fun v18 =>
  CALL P f_differ_hasRow [v18, a2] 144 h4 (fun _ v20 h6 =>
  NOT v20 fun v21 =>
  COND v21
  (POST (.tup [.zc, (.d (.num .i64 2))]) h6 pre r post)
  (LOAD true 3 v3 h6 fun v23 =>
  BUILD [(0, 3), (3, 1)] [.zc, .d (.num .i64 0), .d (.num .i64 0), .zc] [(0, v23), (1, a1)] fun v25 =>
  CALL P f_differ_table_state [v25, a2] 200 h6 (fun _ v27 h8 =>
  POST (.tup [v27, (.d (.num .i64 0))]) h8 pre r post)
  (fun _ _ _ => False)))
  (fun _ _ _ => False)))
  (fun _ _ _ => False)))
  (fun _ _ _ => False)
theorem vc_differ_State_eq (g : GG) (pre : List ABlk) (a0 a1 a2 : AV) (r : AV) (post : List PB) : vcFn2 (Tz g) false ann_differ_State Tryz.f38 pre [a0, a1, a2] (.ret r) post = vc_differ_State (Tz g) pre a0 a1 a2 r post := by kernel_rfl
theorem hf_differ_State : Tryz.prog.funcs[f_differ_State]? = some Tryz.f38 := by kernel_rfl
theorem ok_differ_State : fnVcOK Tryz.prog Tryz.f38 = true := by kernel_rfl
theorem nt_differ_State : Nat.ble 3 Tryz.f38.ntmps = true := by kernel_rfl
theorem meetsH_differ_State {g : GG} {pre : List ABlk} {a0 a1 a2 : AV} {r : AV} {post : List PB} (hk : Nat.ble pre.length 24 = true) (h : vc_differ_State (Tz g) pre a0 a1 a2 r post) : MeetsH (Tz g) f_differ_State pre [a0, a1, a2] (.ret r) post :=
  meetsH_of_vc (C := Tz g) ann_differ_State hf_differ_State ok_differ_State nt_differ_State hk (pn := false) (Eq.mpr ((vcFn2_eq _ _ _ _ _ _ _ _).trans (vc_differ_State_eq g pre a0 a1 a2 r post)) h)
theorem meets_differ_State {g : GG} {a0 a1 a2 : D} {r : Res} (h : vc_differ_State (Tz g) [] (.d a0) (.d a1) (.d a2) r.val (r.bl.map .upd)) : Meets (Tz g) f_differ_State [a0, a1, a2] r := meetsH_differ_State rfl h
def ann_ref01_in : Nat → List Nat := fun n => match n with  | _ => []
def vc_ref01_in (P : Ctx) (pre : List ABlk) (a0 a1 a2 : AV) (r : AV) (post : List PB) : Prop :=
  let h0 : Heap := numbered 0 pre
  BIN 0 .geq a0 a1 fun v9 =>
  CONDG v9
  (BIN 0 .leq a0 a2 fun v13 =>
  POST v13 h0 pre r post)
  (POST (.d (.bool false)) h0 pre r post)
theorem vc_ref01_in_eq (g : GG) (pre : List ABlk) (a0 a1 a2 : AV) (r : AV) (post : List PB) : vcFn2 (Tz g) false ann_ref01_in Tryz.f47 pre [a0, a1, a2] (.ret r) post = vc_ref01_in (Tz g) pre a0 a1 a2 r post := by kernel_rfl
theorem hf_ref01_in : Tryz.prog.funcs[f_ref01_in]? = some Tryz.f47 := by kernel_rfl
theorem ok_ref01_in : fnVcOK Tryz.prog Tryz.f47 = true := by kernel_rfl
theorem nt_ref01_in : Nat.ble 3 Tryz.f47.ntmps = true := by kernel_rfl
theorem meetsH_ref01_in {g : GG} {pre : List ABlk} {a0 a1 a2 : AV} {r : AV} {post : List PB} (hk : Nat.ble pre.length 24 = true) (h : vc_ref01_in (Tz g) pre a0 a1 a2 r post) : MeetsH (Tz g) f_ref01_in pre [a0, a1, a2] (.ret r) post :=
  meetsH_of_vc (C := Tz g) ann_ref01_in hf_ref01_in ok_ref01_in nt_ref01_in hk (pn := false) (Eq.mpr ((vcFn2_eq _ _ _ _ _ _ _ _).trans (vc_ref01_in_eq g pre a0 a1 a2 r post)) h)
theorem meets_ref01_in {g : GG} {a0 a1 a2 : D} {r : Res} (h : vc_ref01_in (Tz g) [] (.d a0) (.d a1) (.d a2) r.val (r.bl.map .upd)) : Meets (Tz g) f_ref01_in [a0, a1, a2] r := meetsH_ref01_in rfl h
def ann_ref01_Start : Nat → List Nat := fun n => match n with  | _ => []
def vc_ref01_Start (P : Ctx) (pre : List ABlk) (a0 : AV) (r : AV) (post : List PB) : Prop :=
  let h0 : Heap := numbered 0 pre
  BOX T_api_Span a0 24 h0 fun v1 h1 =>
  FADDR 0 v1 h1 fun v3 =>
  LOAD false 1 v3 h1 fun v4 =>
  CALL P f_ref01_in [v4, (.d (.num .i64 (-99999))), (.d (.num .i64 99999))] 56 h1 (fun _ v5 h2 =>
  CONDG v5
  (FADDR 1 v1 h2 fun v7 =>
  LOAD false 1 v7 h2 fun v8 =>
  FADDR 0 v1 h2 fun v9 =>
  LOAD false 1 v9 h2 fun v10 =>
  FADDR 0 v1 h2 fun v11 =>
  LOAD false 1 v11 h2 fun v12 =>
  BIN 0 .add v12 (.d (.num .i64 6)) fun v13 =>
  MINK (.d (.num .i64 99999)) v13 fun v14 =>
  CALL P f_ref01_in [v8, v10, v14] 136 h2 (fun _ v15 h4 =>
  POST v15 h4 pre r post)
  (fun _ _ _ => False))
  (POST (.d (.bool false)) h2 pre r post))
  (fun _ _ _ => False)
theorem vc_ref01_Start_eq (g : GG) (pre : List ABlk) (a0 : AV) (r : AV) (post : List PB) : vcFn2 (Tz g) false ann_ref01_Start Tryz.f66 pre [a0] (.ret r) post = vc_ref01_Start (Tz g) pre a0 r post := by kernel_rfl
theorem hf_ref01_Start : Tryz.prog.funcs[f_ref01_Start]? = some Tryz.f66 := by kernel_rfl
theorem ok_ref01_Start : fnVcOK Tryz.prog Tryz.f66 = true := by kernel_rfl
theorem nt_ref01_Start : Nat.ble 1 Tryz.f66.ntmps = true := by kernel_rfl
theorem meetsH_ref01_Start {g : GG} {pre : List ABlk} {a0 : AV} {r : AV} {post : List PB} (hk : Nat.ble pre.length 24 = true) (h : vc_ref01_Start (Tz g) pre a0 r post) : MeetsH (Tz g) f_ref01_Start pre [a0] (.ret r) post :=
  meetsH_of_vc (C := Tz g) ann_ref01_Start hf_ref01_Start ok_ref01_Start nt_ref01_Start hk (pn := false) (Eq.mpr ((vcFn2_eq _ _ _ _ _ _ _ _).trans (vc_ref01_Start_eq g pre a0 r post)) h)
theorem meets_ref01_Start {g : GG} {a0 : D} {r : Res} (h : vc_ref01_Start (Tz g) [] (.d a0) r.val (r.bl.map .upd)) : Meets (Tz g) f_ref01_Start [a0] r := meetsH_ref01_Start rfl h
def ann_ref01_Plan : Nat → List Nat := fun n => match n with | 4 => [1, 3] | _ => []
def vc_ref01_Plan (P : Ctx) (pre : List ABlk) (a0 : AV) (r : AV) (post : List PB) : Prop :=
  let h0 : Heap := numbered 0 pre
  BOX T_api_DifferPlan a0 24 h0 fun v1 h1 =>
  FADDR 0 v1 h1 fun v4 =>
  LOAD false 1 v4 h1 fun v5 =>
  LEN false v5 h1 fun v6 =>
  CALL P f_ref01_in [v6, (.d (.num .i64 1)), (.d (.num .i64 4))] 64 h1 (fun _ v7 h2 =>
  NOT v7 fun v8 =>
  CONDG v8
  (POST (.d (.bool false)) h2 pre r post)
  (FADDR 1 v1 h2 fun v10 =>
  LOAD false 1 v10 h2 fun v11 =>
  CALL P f_ref01_in [v11, (.d (.num .i64 1)), (.d (.num .i64 12))] 104 h2 (fun _ v12 h4 =>
  NOT v12 fun v13 =>
  CONDG v13
  (POST (.d (.bool false)) h4 pre r post)
  (FADDR 2 v1 h4 fun v16 =>
  LOAD false 1 v16 h4 fun v17 =>
  CALL P f_ref01_in [v17, (.d (.num .i64 0)), (.d (.num .i64 3))] 152 h4 (fun _ v18 h6 =>
  NOT v18 fun v19 =>
  COND v19
  (POST (.d (.bool false)) h6 pre r post)
  (LOOP [v1, (.d (.num .i64 0))] h6 184 fun vs8 h9 next8 =>
  FADDR 0 (nth vs8 0) h9 fun v22 =>
  LOAD false 1 v22 h9 fun v23 =>
  LEN false v23 h9 fun v24 =>
  BIN 0 .lss (nth vs8 1) v24 fun v25 =>
  COND v25
  (FADDR 0 (nth vs8 0) h9 fun v28 =>
  LOAD false 1 v28 h9 fun v29 =>
  IADDR 2 T_api_Span v29 (nth vs8 1) h9 fun v31 =>
  LOAD true 2 v31 h9 fun v32 =>
  CALL P f_ref01_Start [v32] 272 h9 (fun _ v33 h10 =>
  NOT v33 fun v34 =>
  COND v34
  (POST (.d (.bool false)) h10 pre r post)
  (BIN 0 .add (nth vs8 1) (.d (.num .i64 1)) fun v27 =>
  next8 [(nth vs8 0), v27] h10))
  (fun _ _ _ => False))
  (POST (.d (.bool true)) h9 pre r post)))
  (fun _ _ _ => False)))
  (fun _ _ _ => False)))
  (fun _ _ _ => False)
theorem vc_ref01_Plan_eq (g : GG) (pre : List ABlk) (a0 : AV) (r : AV) (post : List PB) : vcFn2 (Tz g) false ann_ref01_Plan Tryz.f22 pre [a0] (.ret r) post = vc_ref01_Plan (Tz g) pre a0 r post := by kernel_rfl
theorem hf_ref01_Plan : Tryz.prog.funcs[f_ref01_Plan]? = some Tryz.f22 := by kernel_rfl
theorem ok_ref01_Plan : fnVcOK Tryz.prog Tryz.f22 = true := by kernel_rfl
theorem nt_ref01_Plan : Nat.ble 1 Tryz.f22.ntmps = true := by kernel_rfl
theorem meetsH_ref01_Plan {g : GG} {pre : List ABlk} {a0 : AV} {r : AV} {post : List PB} (hk : Nat.ble pre.length 24 = true) (h : vc_ref01_Plan (Tz g) pre a0 r post) : MeetsH (Tz g) f_ref01_Plan pre [a0] (.ret r) post :=
  meetsH_of_vc (C := Tz g) ann_ref01_Plan hf_ref01_Plan ok_ref01_Plan nt_ref01_Plan hk (pn := false) (Eq.mpr ((vcFn2_eq _ _ _ _ _ _ _ _).trans (vc_ref01_Plan_eq g pre a0 r post)) h)
theorem meets_ref01_Plan {g : GG} {a0 : D} {r : Res} (h : vc_ref01_Plan (Tz g) [] (.d a0) r.val (r.bl.map .upd)) : Meets (Tz g) f_ref01_Plan [a0] r := meetsH_ref01_Plan rfl h
def ann_ref01_Line : Nat → List Nat := fun n => match n with  | _ => []
def vc_ref01_Line (P : Ctx) (pre : List ABlk) (a0 a1 : AV) (r : AV) (post : List PB) : Prop :=
  let h0 : Heap := numbered 0 pre
  BOX T_api_DifferPlan a0 24 h0 fun v2 h1 =>
  FADDR 1 v2 h1 fun v6 =>
  LOAD false 1 v6 h1 fun v7 =>
  BIN 0 .sub v7 (.d (.num .i64 1)) fun v8 =>
  CALL P f_ref01_in [a1, (.d (.num .i64 0)), v8] 72 h1 (fun _ v9 h2 =>
  POST v9 h2 pre r post)
  (fun _ _ _ => False)
theorem vc_ref01_Line_eq (g : GG) (pre : List ABlk) (a0 a1 : AV) (r : AV) (post : List PB) : vcFn2 (Tz g) false ann_ref01_Line Tryz.f27 pre [a0, a1] (.ret r) post = vc_ref01_Line (Tz g) pre a0 a1 r post := by kernel_rfl
theorem hf_ref01_Line : Tryz.prog.funcs[f_ref01_Line]? = some Tryz.f27 := by kernel_rfl
theorem ok_ref01_Line : fnVcOK Tryz.prog Tryz.f27 = true := by kernel_rfl
theorem nt_ref01_Line : Nat.ble 2 Tryz.f27.ntmps = true := by kernel_rfl
theorem meetsH_ref01_Line {g : GG} {pre : List ABlk} {a0 a1 : AV} {r : AV} {post : List PB} (hk : Nat.ble pre.length 24 = true) (h : vc_ref01_Line (Tz g) pre a0 a1 r post) : MeetsH (Tz g) f_ref01_Line pre [a0, a1] (.ret r) post :=
  meetsH_of_vc (C := Tz g) ann_ref01_Line hf_ref01_Line ok_ref01_Line nt_ref01_Line hk (pn := false) (Eq.mpr ((vcFn2_eq _ _ _ _ _ _ _ _).trans (vc_ref01_Line_eq g pre a0 a1 r post)) h)
theorem meets_ref01_Line {g : GG} {a0 a1 : D} {r : Res} (h : vc_ref01_Line (Tz g) [] (.d a0) (.d a1) r.val (r.bl.map .upd)) : Meets (Tz g) f_ref01_Line [a0, a1] r := meetsH_ref01_Line rfl h
def ann_ref01_Truth : Nat → List Nat := fun n => match n with | 4 => [1, 2, 5] | _ => []
def vc_ref01_Truth (P : Ctx) (pre : List ABlk) (a0 a1 : AV) (r : AV) (post : List PB) : Prop :=
  let h0 : Heap := numbered 0 pre
  BOX T_api_DifferPlan a0 24 h0 fun v2 h1 =>
  LEN false a1 h1 fun v7 =>
  FADDR 0 v2 h1 fun v8 =>
  LOAD false 1 v8 h1 fun v9 =>
  LEN false v9 h1 fun v10 =>
  BIN 0 .neq v7 v10 fun v11 =>
  COND v11
  (POST (.d (.bool false)) h1 pre r post)
  (LOOP [a1, v2, (.d (.num .i64 0))] h1 96 fun vs2 h3 next2 =>
  LEN false (nth vs2 0) h3 fun v14 =>
  BIN 0 .lss (nth vs2 2) v14 fun v15 =>
  COND v15
  (IADDR 1 T_int (nth vs2 0) (nth vs2 2) h3 fun v20 =>
  LOAD false 1 v20 h3 fun v21 =>
  FADDR 0 (nth vs2 1) h3 fun v22 =>
  LOAD false 1 v22 h3 fun v23 =>
  IADDR 2 T_api_Span v23 (nth vs2 2) h3 fun v25 =>
  FADDR 0 v25 h3 fun v26 =>
  LOAD false 1 v26 h3 fun v27 =>
  FADDR 0 (nth vs2 1) h3 fun v28 =>
  LOAD false 1 v28 h3 fun v29 =>
  IADDR 2 T_api_Span v29 (nth vs2 2) h3 fun v31 =>
  FADDR 1 v31 h3 fun v32 =>
  LOAD false 1 v32 h3 fun v33 =>
  CALL P f_ref01_in [v21, v27, v33] 264 h3 (fun rd5 v34 h4 =>
  NOT v34 fun v35 =>
  ORDX [] [0, 0, 3, 7, 0, 16, 0, 112, 240, 496, 0, 1024, 0, 7168, 15360, 31744, 65535, 131071] [(2, wr h3 h3, (ids (nth vs2 0))), (3, wr h3 h3, (ids v20)), (4, wr h3 h3, (ids (nth vs2 1))), (5, wr h3 h3, (ids v22)), (7, wr h3 h3, (ids v23)), (8, wr h3 h3, (ids v25)), (9, wr h3 h3, (ids v26)), (10, wr h3 h3, (ids (nth vs2 1))), (11, wr h3 h3, (ids v28)), (13, wr h3 h3, (ids v29)), (14, wr h3 h3, (ids v31)), (15, wr h3 h3, (ids v32)), (16, wr h3 h4, rd5)] ∧
  COND v35
  (POST (.d (.bool false)) h4 pre r post)
  (BIN 0 .add (nth vs2 2) (.d (.num .i64 1)) fun v17 =>
  next2 [(nth vs2 0), (nth vs2 1), v17] h4))
  (fun _ _ _ => False))
  (POST (.d (.bool true)) h3 pre r post))
theorem vc_ref01_Truth_eq (g : GG) (pre : List ABlk) (a0 a1 : AV) (r : AV) (post : List PB) : vcFn2 (Tz g) false ann_ref01_Truth Tryz.f39 pre [a0, a1] (.ret r) post = vc_ref01_Truth (Tz g) pre a0 a1 r post := by kernel_rfl
theorem hf_ref01_Truth : Tryz.prog.funcs[f_ref01_Truth]? = some Tryz.f39 := by kernel_rfl
theorem ok_ref01_Truth : fnVcOK Tryz.prog Tryz.f39 = true := by kernel_rfl
theorem nt_ref01_Truth : Nat.ble 2 Tryz.f39.ntmps = true := by kernel_rfl
theorem meetsH_ref01_Truth {g : GG} {pre : List ABlk} {a0 a1 : AV} {r : AV} {post : List PB} (hk : Nat.ble pre.length 24 = true) (h : vc_ref01_Truth (Tz g) pre a0 a1 r post) : MeetsH (Tz g) f_ref01_Truth pre [a0, a1] (.ret r) post :=
  meetsH_of_vc (C := Tz g) ann_ref01_Truth hf_ref01_Truth ok_ref01_Truth nt_ref01_Truth hk (pn := false) (Eq.mpr ((vcFn2_eq _ _ _ _ _ _ _ _).trans (vc_ref01_Truth_eq g pre a0 a1 r post)) h)
theorem meets_ref01_Truth {g : GG} {a0 a1 : D} {r : Res} (h : vc_ref01_Truth (Tz g) [] (.d a0) (.d a1) r.val (r.bl.map .upd)) : Meets (Tz g) f_ref01_Truth [a0, a1] r := meetsH_ref01_Truth rfl h
def ann_ref01_Same : Nat → List Nat := fun n => match n with | 4 => [0, 1, 5] | _ => []
def vc_ref01_Same (P : Ctx) (pre : List ABlk) (a0 a1 : AV) (r : AV) (post : List PB) : Prop :=
  let h0 : Heap := numbered 0 pre
  LEN false a0 h0 fun v7 =>
  LEN false a1 h0 fun v9 =>
  BIN 0 .neq v7 v9 fun v10 =>
  COND v10
  (POST (.d (.bool false)) h0 pre r post)
  (LOOP [a0, a1, (.d (.num .i64 0))] h0 80 fun vs1 h2 next1 =>
  LEN false (nth vs1 0) h2 fun v13 =>
  BIN 0 .lss (nth vs1 2) v13 fun v14 =>
  COND v14
  (IADDR 1 T_int (nth vs1 0) (nth vs1 2) h2 fun v19 =>
  LOAD false 1 v19 h2 fun v20 =>
  IADDR 1 T_int (nth vs1 1) (nth vs1 2) h2 fun v23 =>
  LOAD false 1 v23 h2 fun v24 =>
  BIN 0 .neq v20 v24 fun v25 =>
  ORDX [] [0, 0, 3, 7, 0, 0, 48, 112, 255] [(2, wr h2 h2, (ids (nth vs1 0))), (3, wr h2 h2, (ids v19)), (6, wr h2 h2, (ids (nth vs1 1))), (7, wr h2 h2, (ids v23))] ∧
  COND v25
  (POST (.d (.bool false)) h2 pre r post)
  (BIN 0 .add (nth vs1 2) (.d (.num .i64 1)) fun v16 =>
  next1 [(nth vs1 0), (nth vs1 1), v16] h2))
  (POST (.d (.bool true)) h2 pre r post))
theorem vc_ref01_Same_eq (g : GG) (pre : List ABlk) (a0 a1 : AV) (r : AV) (post : List PB) : vcFn2 (Tz g) false ann_ref01_Same Tryz.f18 pre [a0, a1] (.ret r) post = vc_ref01_Same (Tz g) pre a0 a1 r post := by kernel_rfl
theorem hf_ref01_Same : Tryz.prog.funcs[f_ref01_Same]? = some Tryz.f18 := by kernel_rfl
theorem ok_ref01_Same : fnVcOK Tryz.prog Tryz.f18 = true := by kernel_rfl
theorem nt_ref01_Same : Nat.ble 2 Tryz.f18.ntmps = true := by kernel_rfl
theorem meetsH_ref01_Same {g : GG} {pre : List ABlk} {a0 a1 : AV} {r : AV} {post : List PB} (hk : Nat.ble pre.length 24 = true) (h : vc_ref01_Same (Tz g) pre a0 a1 r post) : MeetsH (Tz g) f_ref01_Same pre [a0, a1] (.ret r) post :=
  meetsH_of_vc (C := Tz g) ann_ref01_Same hf_ref01_Same ok_ref01_Same nt_ref01_Same hk (pn := false) (Eq.mpr ((vcFn2_eq _ _ _ _ _ _ _ _).trans (vc_ref01_Same_eq g pre a0 a1 r post)) h)
theorem meets_ref01_Same {g : GG} {a0 a1 : D} {r : Res} (h : vc_ref01_Same (Tz g) [] (.d a0) (.d a1) r.val (r.bl.map .upd)) : Meets (Tz g) f_ref01_Same [a0, a1] r := meetsH_ref01_Same rfl h
def ann_law01_right : Nat → List Nat := fun n => match n with  | _ => []
def vc_law01_right (P : Ctx) (pre : List ABlk) (a0 a1 : AV) (r : AV) (post : List PB) : Prop :=
  let h0 : Heap := numbered 0 pre
  BOX T_api_DifferPlan a0 24 h0 fun v2 h1 =>
  LOAD true 3 v2 h1 fun v5 =>
  CALL P f_law01_short [v5] 48 h1 (fun _ v6 h2 =>
  CONDG v6
  (LEN false a1 h2 fun v9 =>
  BIN 0 .leq v9 (.d (.num .i64 6)) fun v10 =>
  CONDG v10
  (LOAD true 3 v2 h2 fun v13 =>
  CALL P f_ref01_Plan [v13] 112 h2 (fun _ v14 h4 =>
  CONDG v14
  (LOAD true 3 v2 h4 fun v17 =>
  CALL P f_ref01_Truth [v17, a1] 152 h4 (fun _ v19 h6 =>
  POST v19 h6 pre r post)
  (fun _ _ _ => False))
  (POST (.d (.bool false)) h4 pre r post))
  (fun _ _ _ => False))
  (POST (.d (.bool false)) h2 pre r post))
  (POST (.d (.bool false)) h2 pre r post))
  (fun _ _ _ => False)
theorem vc_law01_right_eq (g : GG) (pre : List ABlk) (a0 a1 : AV) (r : AV) (post : List PB) : vcFn2 (Tz g) false ann_law01_right Tryz.f13 pre [a0, a1] (.ret r) post = vc_law01_right (Tz g) pre a0 a1 r post := by kernel_rfl
theorem hf_law01_right : Tryz.prog.funcs[f_law01_right]? = some Tryz.f13 := by kernel_rfl
theorem ok_law01_right : fnVcOK Tryz.prog Tryz.f13 = true := by kernel_rfl
theorem nt_law01_right : Nat.ble 2 Tryz.f13.ntmps = true := by kernel_rfl
theorem meetsH_law01_right {g : GG} {pre : List ABlk} {a0 a1 : AV} {r : AV} {post : List PB} (hk : Nat.ble pre.length 24 = true) (h : vc_law01_right (Tz g) pre a0 a1 r post) : MeetsH (Tz g) f_law01_right pre [a0, a1] (.ret r) post :=
  meetsH_of_vc (C := Tz g) ann_law01_right hf_law01_right ok_law01_right nt_law01_right hk (pn := false) (Eq.mpr ((vcFn2_eq _ _ _ _ _ _ _ _).trans (vc_law01_right_eq g pre a0 a1 r post)) h)
theorem meets_law01_right {g : GG} {a0 a1 : D} {r : Res} (h : vc_law01_right (Tz g) [] (.d a0) (.d a1) r.val (r.bl.map .upd)) : Meets (Tz g) f_law01_right [a0, a1] r := meetsH_law01_right rfl h
def ann_law01_short : Nat → List Nat := fun n => match n with  | _ => []
def vc_law01_short (P : Ctx) (pre : List ABlk) (a0 : AV) (r : AV) (post : List PB) : Prop :=
  let h0 : Heap := numbered 0 pre
  BOX T_api_DifferPlan a0 24 h0 fun v1 h1 =>
  FADDR 0 v1 h1 fun v3 =>
  LOAD false 1 v3 h1 fun v4 =>
  LEN false v4 h1 fun v5 =>
  BIN 0 .leq v5 (.d (.num .i64 6)) fun v6 =>
  POST v6 h1 pre r post
theorem vc_law01_short_eq (g : GG) (pre : List ABlk) (a0 : AV) (r : AV) (post : List PB) : vcFn2 (Tz g) false ann_law01_short Tryz.f19 pre [a0] (.ret r) post = vc_law01_short (Tz g) pre a0 r post := by kernel_rfl
theorem hf_law01_short : Tryz.prog.funcs[f_law01_short]? = some Tryz.f19 := by kernel_rfl
theorem ok_law01_short : fnVcOK Tryz.prog Tryz.f19 = true := by kernel_rfl
theorem nt_law01_short : Nat.ble 1 Tryz.f19.ntmps = true := by kernel_rfl
theorem meetsH_law01_short {g : GG} {pre : List ABlk} {a0 : AV} {r : AV} {post : List PB} (hk : Nat.ble pre.length 24 = true) (h : vc_law01_short (Tz g) pre a0 r post) : MeetsH (Tz g) f_law01_short pre [a0] (.ret r) post :=
  meetsH_of_vc (C := Tz g) ann_law01_short hf_law01_short ok_law01_short nt_law01_short hk (pn := false) (Eq.mpr ((vcFn2_eq _ _ _ _ _ _ _ _).trans (vc_law01_short_eq g pre a0 r post)) h)
theorem meets_law01_short {g : GG} {a0 : D} {r : Res} (h : vc_law01_short (Tz g) [] (.d a0) r.val (r.bl.map .upd)) : Meets (Tz g) f_law01_short [a0] r := meetsH_law01_short rfl h
def ann_slices_Clone_l_api_Span_api_Span : Nat → List Nat := fun n => match n with  | _ => []
def vc_slices_Clone_l_api_Span_api_Span (P : Ctx) (pre : List ABlk) (a0 : AV) (r : AV) (post : List PB) : Prop :=
  let h0 : Heap := numbered 0 pre
  BIN 998 .eql a0 .zc fun v4 =>
  COND v4
  (POST .zc h0 pre r post)
  (MKS T_api_Span 2 [] 48 h0 fun v5 h1 =>
  APP T_api_Span 2 v5 a0 64 h1 fun v7 h2 =>
  POST v7 h2 pre r post)
theorem vc_slices_Clone_l_api_Span_api_Span_eq (g : GG) (pre : List ABlk) (a0 : AV) (r : AV) (post : List PB) : vcFn2 (Tz g) false ann_slices_Clone_l_api_Span_api_Span Tryz.f87 pre [a0] (.ret r) post = vc_slices_Clone_l_api_Span_api_Span (Tz g) pre a0 r post := by kernel_rfl
theorem hf_slices_Clone_l_api_Span_api_Span : Tryz.prog.funcs[f_slices_Clone_l_api_Span_api_Span]? = some Tryz.f87 := by kernel_rfl
theorem ok_slices_Clone_l_api_Span_api_Span : fnVcOK Tryz.prog Tryz.f87 = true := by kernel_rfl
theorem nt_slices_Clone_l_api_Span_api_Span : Nat.ble 1 Tryz.f87.ntmps = true := by kernel_rfl
theorem meetsH_slices_Clone_l_api_Span_api_Span {g : GG} {pre : List ABlk} {a0 : AV} {r : AV} {post : List PB} (hk : Nat.ble pre.length 24 = true) (h : vc_slices_Clone_l_api_Span_api_Span (Tz g) pre a0 r post) : MeetsH (Tz g) f_slices_Clone_l_api_Span_api_Span pre [a0] (.ret r) post :=
  meetsH_of_vc (C := Tz g) ann_slices_Clone_l_api_Span_api_Span hf_slices_Clone_l_api_Span_api_Span ok_slices_Clone_l_api_Span_api_Span nt_slices_Clone_l_api_Span_api_Span hk (pn := false) (Eq.mpr ((vcFn2_eq _ _ _ _ _ _ _ _).trans (vc_slices_Clone_l_api_Span_api_Span_eq g pre a0 r post)) h)
theorem meets_slices_Clone_l_api_Span_api_Span {g : GG} {a0 : D} {r : Res} (h : vc_slices_Clone_l_api_Span_api_Span (Tz g) [] (.d a0) r.val (r.bl.map .upd)) : Meets (Tz g) f_slices_Clone_l_api_Span_api_Span [a0] r := meetsH_slices_Clone_l_api_Span_api_Span rfl h
end Go.Vc
