/- Proves that the statement DifferBoundsCardSaid holds of the given program: for every input the law returns true and leaves its arguments as they were; under the row's own conditions, that the listed tables are laid as the program's text has them. -/
import Derived.Test.YtknbgegcnfdnkaaGreatDoorVz
import Derived.Test.YtknbgegcnfdnkaaGreatDoorDa
import Derived.Test.YtknbgegcnfdnkaaGreatDoorVc27
set_option maxRecDepth 100000
namespace Go.Vc
open Go Go.Proofs Go.RowKit
def ann_law01_DifferBounds : Nat → List Nat := fun n => match n with | 11 => [2, 5, 7, 9, 11, 13, 15] | _ => []
def vc_law01_DifferBounds_k0 (_P : Ctx) (pre : List ABlk) (r : AV) (post : List PB) (vs20 : List AV) (h26 : Heap) (v215 : AV) (h22 : Heap) (v182 : AV) (v183 : AV) (v190 : AV) (v191 : AV) (v199 : AV) (h24 : Heap) (rd25 : List Nat) (v204 : AV) (v205 : AV) (v213 : AV) (rd27 : List Nat) (next20 : List AV → Heap → Prop) : Prop :=
  IADDR 2 T_api_Span (nth vs20 2) (nth vs20 6) h26 fun v218 =>
  FADDR 1 v218 h26 fun v219 =>
  LOAD false 1 v219 h26 fun v220 =>
  BIN 0 .neq v215 v220 fun v221 =>
  ORDX [] [0, 0, 0, 6, 14, 30, 63, 127, 255, 255, 255, 1791, 3839, 7935, 16383, 32767, 65535, 131071, 131071, 131071, 917503, 1966079, 4194303, 131071, 131071, 25296895, 58851327, 125960191, 268435455, 536870911, 1073741823, 2147483647, 2147483647, 2147483647, 15032385535, 32212254719, 68719476735, 2147483647, 2147483647, 414464344063, 964220157951, 2063731785727, 4398046511103, 8796093022207] [(3, wr h22 h22, (ids (nth vs20 2))), (4, wr h22 h22, (ids v182)), (5, wr h22 h22, (ids v183)), (11, wr h22 h22, (ids (nth vs20 2))), (12, wr h22 h22, (ids v190)), (13, wr h22 h22, (ids v191)), (17, wr h22 h22, (ids (nth vs20 0))), (20, wr h22 h22, (ids (nth vs20 4))), (21, wr h22 h22, (ids v199)), (22, wr h22 h24, rd25), (25, wr h24 h24, (ids (nth vs20 2))), (26, wr h24 h24, (ids v204)), (27, wr h24 h24, (ids v205)), (31, wr h24 h24, (ids (nth vs20 0))), (34, wr h24 h24, (ids (nth vs20 5))), (35, wr h24 h24, (ids v213)), (36, wr h24 h26, rd27), (39, wr h26 h26, (ids (nth vs20 2))), (40, wr h26 h26, (ids v218)), (41, wr h26 h26, (ids v219))] ∧
  COND v221
  (POST (.d (.bool false)) h26 pre r post)
  (BIN 0 .add (nth vs20 6) (.d (.num .i64 1)) fun v110 =>
  next20 [(nth vs20 0), (nth vs20 1), (nth vs20 2), (nth vs20 3), (nth vs20 4), (nth vs20 5), v110] h26)
def vc_law01_DifferBounds_k1 (P : Ctx) (pre : List ABlk) (r : AV) (post : List PB) (vs20 : List AV) (h24 : Heap) (v201 : AV) (h22 : Heap) (v182 : AV) (v183 : AV) (v190 : AV) (v191 : AV) (v199 : AV) (rd25 : List Nat) (next20 : List AV → Heap → Prop) : Prop :=
  IADDR 2 T_api_Span (nth vs20 2) (nth vs20 6) h24 fun v204 =>
  FADDR 0 v204 h24 fun v205 =>
  LOAD false 1 v205 h24 fun v206 =>
  BIN 0 .neq v201 v206 fun v207 =>
  CONDG v207
  (ORDX [] [0, 0, 0, 6, 14, 30, 63, 127, 255, 255, 255, 1791, 3839, 7935, 16383, 32767, 65535, 131071, 131071, 131071, 917503, 1966079, 4194303, 131071, 131071, 25296895, 58851327, 125960191, 268435455, 536870911, 1073741823, 2147483647, 2147483647, 2147483647, 15032385535, 32212254719, 68719476735, 2147483647, 2147483647, 414464344063, 964220157951, 2063731785727, 4398046511103, 8796093022207] [(3, wr h22 h22, (ids (nth vs20 2))), (4, wr h22 h22, (ids v182)), (5, wr h22 h22, (ids v183)), (11, wr h22 h22, (ids (nth vs20 2))), (12, wr h22 h22, (ids v190)), (13, wr h22 h22, (ids v191)), (17, wr h22 h22, (ids (nth vs20 0))), (20, wr h22 h22, (ids (nth vs20 4))), (21, wr h22 h22, (ids v199)), (22, wr h22 h24, rd25), (25, wr h24 h24, (ids (nth vs20 2))), (26, wr h24 h24, (ids v204)), (27, wr h24 h24, (ids v205))] ∧
  POST (.d (.bool false)) h24 pre r post)
  (LOAD true 3 (nth vs20 0) h24 fun v210 =>
  IADDR 1 T_int (nth vs20 5) (nth vs20 6) h24 fun v213 =>
  LOAD false 1 v213 h24 fun v214 =>
  CALL P f_ref01_Figure [v210, v214] 1704 h24 (fun rd27 v215 h26 =>
  vc_law01_DifferBounds_k0 P pre r post vs20 h26 v215 h22 v182 v183 v190 v191 v199 h24 rd25 v204 v205 v213 rd27 next20)
  (fun _ _ _ => False))
def vc_law01_DifferBounds_k2 (P : Ctx) (pre : List ABlk) (r : AV) (post : List PB) (h21 : Heap) (vs20 : List AV) (v176 : AV) (h22 : Heap) (rd23 : List Nat) (v178 : AV) (next20 : List AV → Heap → Prop) : Prop :=
  ORDX [] [0, 0, 0, 6, 14, 31, 63] [(0, wr h21 h21, (ids (nth vs20 0))), (3, wr h21 h21, (ids (nth vs20 3))), (4, wr h21 h21, (ids v176)), (5, wr h21 h22, rd23)] ∧
  IADDR 2 T_api_Span (nth vs20 2) (nth vs20 6) h22 fun v182 =>
  FADDR 0 v182 h22 fun v183 =>
  LOAD false 1 v183 h22 fun v184 =>
  BIN 0 .lss v178 v184 fun v185 =>
  CONDG v185
  (ORDX [] [0, 0, 0, 6, 14, 30, 63, 127, 255, 255, 255, 1791, 3839, 7935, 16383, 32767, 65535, 131071, 131071, 131071, 917503, 1966079, 4194303, 131071, 131071, 25296895, 58851327, 125960191, 268435455, 536870911, 1073741823, 2147483647, 2147483647, 2147483647, 15032385535, 32212254719, 68719476735, 2147483647, 2147483647, 414464344063, 964220157951, 2063731785727, 4398046511103, 8796093022207] [(3, wr h22 h22, (ids (nth vs20 2))), (4, wr h22 h22, (ids v182)), (5, wr h22 h22, (ids v183))] ∧
  POST (.d (.bool false)) h22 pre r post)
  (IADDR 2 T_api_Span (nth vs20 2) (nth vs20 6) h22 fun v190 =>
  FADDR 1 v190 h22 fun v191 =>
  LOAD false 1 v191 h22 fun v192 =>
  BIN 0 .gtr v178 v192 fun v193 =>
  CONDG v193
  (ORDX [] [0, 0, 0, 6, 14, 30, 63, 127, 255, 255, 255, 1791, 3839, 7935, 16383, 32767, 65535, 131071, 131071, 131071, 917503, 1966079, 4194303, 131071, 131071, 25296895, 58851327, 125960191, 268435455, 536870911, 1073741823, 2147483647, 2147483647, 2147483647, 15032385535, 32212254719, 68719476735, 2147483647, 2147483647, 414464344063, 964220157951, 2063731785727, 4398046511103, 8796093022207] [(3, wr h22 h22, (ids (nth vs20 2))), (4, wr h22 h22, (ids v182)), (5, wr h22 h22, (ids v183)), (11, wr h22 h22, (ids (nth vs20 2))), (12, wr h22 h22, (ids v190)), (13, wr h22 h22, (ids v191))] ∧
  POST (.d (.bool false)) h22 pre r post)
  (LOAD true 3 (nth vs20 0) h22 fun v196 =>
  IADDR 1 T_int (nth vs20 4) (nth vs20 6) h22 fun v199 =>
  LOAD false 1 v199 h22 fun v200 =>
  CALL P f_ref01_Figure [v196, v200] 1592 h22 (fun rd25 v201 h24 =>
  vc_law01_DifferBounds_k1 P pre r post vs20 h24 v201 h22 v182 v183 v190 v191 v199 rd25 next20)
  (fun _ _ _ => False)))
def vc_law01_DifferBounds_k3 (P : Ctx) (pre : List ABlk) (r : AV) (post : List PB) (vs20 : List AV) (h21 : Heap) (next20 : List AV → Heap → Prop) : Prop :=
  FADDR 1 (nth vs20 0) h21 fun v106 =>
  LOAD false 1 v106 h21 fun v107 =>
  BIN 0 .lss (nth vs20 6) v107 fun v108 =>
  COND v108
  (IADDR 1 T_int (nth vs20 3) (nth vs20 6) h21 fun v113 =>
  LOAD false 1 v113 h21 fun v114 =>
  IADDR 2 T_api_Span (nth vs20 1) (nth vs20 6) h21 fun v117 =>
  FADDR 0 v117 h21 fun v118 =>
  LOAD false 1 v118 h21 fun v119 =>
  BIN 0 .lss v114 v119 fun v120 =>
  CONDG v120
  (ORDX [] [0, 0, 3, 7, 0, 0, 48, 112, 240, 511, 1023, 2047, 2047, 8191, 16383, 2047, 2047, 100351, 231423, 493567, 1048575, 2097151, 4194303, 8388607, 8388607, 33554431, 67108863, 8388607, 8388607, 411041791, 947912703, 2021654527, 4294967295, 8589934591, 17179869183, 34359738367, 34359738367, 137438953471, 274877906943, 34359738367, 34359738367, 1683627180031, 3882650435583, 8280696946687, 17592186044415, 35184372088831, 70368744177663, 140737488355327, 140737488355327, 562949953421311, 1125899906842623, 2251799813685247, 4503599627370495, 9007199254740991, 18014398509481983, 36028797018963967, 36028797018963967, 144115188075855871, 288230376151711743, 576460752303423487, 1152921504606846975, 2305843009213693951] [(2, wr h21 h21, (ids (nth vs20 3))), (3, wr h21 h21, (ids v113)), (6, wr h21 h21, (ids (nth vs20 1))), (7, wr h21 h21, (ids v117)), (8, wr h21 h21, (ids v118))] ∧
  POST (.d (.bool false)) h21 pre r post)
  (IADDR 1 T_int (nth vs20 3) (nth vs20 6) h21 fun v124 =>
  LOAD false 1 v124 h21 fun v125 =>
  IADDR 2 T_api_Span (nth vs20 1) (nth vs20 6) h21 fun v128 =>
  FADDR 1 v128 h21 fun v129 =>
  LOAD false 1 v129 h21 fun v130 =>
  BIN 0 .gtr v125 v130 fun v131 =>
  CONDG v131
  (ORDX [] [0, 0, 3, 7, 0, 0, 48, 112, 240, 511, 1023, 2047, 2047, 8191, 16383, 2047, 2047, 100351, 231423, 493567, 1048575, 2097151, 4194303, 8388607, 8388607, 33554431, 67108863, 8388607, 8388607, 411041791, 947912703, 2021654527, 4294967295, 8589934591, 17179869183, 34359738367, 34359738367, 137438953471, 274877906943, 34359738367, 34359738367, 1683627180031, 3882650435583, 8280696946687, 17592186044415, 35184372088831, 70368744177663, 140737488355327, 140737488355327, 562949953421311, 1125899906842623, 2251799813685247, 4503599627370495, 9007199254740991, 18014398509481983, 36028797018963967, 36028797018963967, 144115188075855871, 288230376151711743, 576460752303423487, 1152921504606846975, 2305843009213693951] [(2, wr h21 h21, (ids (nth vs20 3))), (3, wr h21 h21, (ids v113)), (6, wr h21 h21, (ids (nth vs20 1))), (7, wr h21 h21, (ids v117)), (8, wr h21 h21, (ids v118)), (13, wr h21 h21, (ids (nth vs20 3))), (14, wr h21 h21, (ids v124)), (17, wr h21 h21, (ids (nth vs20 1))), (18, wr h21 h21, (ids v128)), (19, wr h21 h21, (ids v129))] ∧
  POST (.d (.bool false)) h21 pre r post)
  (IADDR 1 T_int (nth vs20 4) (nth vs20 6) h21 fun v136 =>
  LOAD false 1 v136 h21 fun v137 =>
  IADDR 2 T_api_Span (nth vs20 1) (nth vs20 6) h21 fun v140 =>
  FADDR 0 v140 h21 fun v141 =>
  LOAD false 1 v141 h21 fun v142 =>
  BIN 0 .neq v137 v142 fun v143 =>
  CONDG v143
  (ORDX [] [0, 0, 3, 7, 0, 0, 48, 112, 240, 511, 1023, 2047, 2047, 8191, 16383, 2047, 2047, 100351, 231423, 493567, 1048575, 2097151, 4194303, 8388607, 8388607, 33554431, 67108863, 8388607, 8388607, 411041791, 947912703, 2021654527, 4294967295, 8589934591, 17179869183, 34359738367, 34359738367, 137438953471, 274877906943, 34359738367, 34359738367, 1683627180031, 3882650435583, 8280696946687, 17592186044415, 35184372088831, 70368744177663, 140737488355327, 140737488355327, 562949953421311, 1125899906842623, 2251799813685247, 4503599627370495, 9007199254740991, 18014398509481983, 36028797018963967, 36028797018963967, 144115188075855871, 288230376151711743, 576460752303423487, 1152921504606846975, 2305843009213693951] [(2, wr h21 h21, (ids (nth vs20 3))), (3, wr h21 h21, (ids v113)), (6, wr h21 h21, (ids (nth vs20 1))), (7, wr h21 h21, (ids v117)), (8, wr h21 h21, (ids v118)), (13, wr h21 h21, (ids (nth vs20 3))), (14, wr h21 h21, (ids v124)), (17, wr h21 h21, (ids (nth vs20 1))), (18, wr h21 h21, (ids v128)), (19, wr h21 h21, (ids v129)), (25, wr h21 h21, (ids (nth vs20 4))), (26, wr h21 h21, (ids v136)), (29, wr h21 h21, (ids (nth vs20 1))), (30, wr h21 h21, (ids v140)), (31, wr h21 h21, (ids v141))] ∧
  POST (.d (.bool false)) h21 pre r post)
  (IADDR 1 T_int (nth vs20 5) (nth vs20 6) h21 fun v148 =>
  LOAD false 1 v148 h21 fun v149 =>
  IADDR 2 T_api_Span (nth vs20 1) (nth vs20 6) h21 fun v152 =>
  FADDR 1 v152 h21 fun v153 =>
  LOAD false 1 v153 h21 fun v154 =>
  BIN 0 .neq v149 v154 fun v155 =>
  CONDG v155
  (ORDX [] [0, 0, 3, 7, 0, 0, 48, 112, 240, 511, 1023, 2047, 2047, 8191, 16383, 2047, 2047, 100351, 231423, 493567, 1048575, 2097151, 4194303, 8388607, 8388607, 33554431, 67108863, 8388607, 8388607, 411041791, 947912703, 2021654527, 4294967295, 8589934591, 17179869183, 34359738367, 34359738367, 137438953471, 274877906943, 34359738367, 34359738367, 1683627180031, 3882650435583, 8280696946687, 17592186044415, 35184372088831, 70368744177663, 140737488355327, 140737488355327, 562949953421311, 1125899906842623, 2251799813685247, 4503599627370495, 9007199254740991, 18014398509481983, 36028797018963967, 36028797018963967, 144115188075855871, 288230376151711743, 576460752303423487, 1152921504606846975, 2305843009213693951] [(2, wr h21 h21, (ids (nth vs20 3))), (3, wr h21 h21, (ids v113)), (6, wr h21 h21, (ids (nth vs20 1))), (7, wr h21 h21, (ids v117)), (8, wr h21 h21, (ids v118)), (13, wr h21 h21, (ids (nth vs20 3))), (14, wr h21 h21, (ids v124)), (17, wr h21 h21, (ids (nth vs20 1))), (18, wr h21 h21, (ids v128)), (19, wr h21 h21, (ids v129)), (25, wr h21 h21, (ids (nth vs20 4))), (26, wr h21 h21, (ids v136)), (29, wr h21 h21, (ids (nth vs20 1))), (30, wr h21 h21, (ids v140)), (31, wr h21 h21, (ids v141)), (37, wr h21 h21, (ids (nth vs20 5))), (38, wr h21 h21, (ids v148)), (41, wr h21 h21, (ids (nth vs20 1))), (42, wr h21 h21, (ids v152)), (43, wr h21 h21, (ids v153))] ∧
  POST (.d (.bool false)) h21 pre r post)
  (IADDR 2 T_api_Span (nth vs20 1) (nth vs20 6) h21 fun v160 =>
  FADDR 0 v160 h21 fun v161 =>
  LOAD false 1 v161 h21 fun v162 =>
  BIN 0 .lss v162 (.d (.num .i64 (-23199768))) fun v163 =>
  CONDG v163
  (ORDX [] [0, 0, 3, 7, 0, 0, 48, 112, 240, 511, 1023, 2047, 2047, 8191, 16383, 2047, 2047, 100351, 231423, 493567, 1048575, 2097151, 4194303, 8388607, 8388607, 33554431, 67108863, 8388607, 8388607, 411041791, 947912703, 2021654527, 4294967295, 8589934591, 17179869183, 34359738367, 34359738367, 137438953471, 274877906943, 34359738367, 34359738367, 1683627180031, 3882650435583, 8280696946687, 17592186044415, 35184372088831, 70368744177663, 140737488355327, 140737488355327, 562949953421311, 1125899906842623, 2251799813685247, 4503599627370495, 9007199254740991, 18014398509481983, 36028797018963967, 36028797018963967, 144115188075855871, 288230376151711743, 576460752303423487, 1152921504606846975, 2305843009213693951] [(2, wr h21 h21, (ids (nth vs20 3))), (3, wr h21 h21, (ids v113)), (6, wr h21 h21, (ids (nth vs20 1))), (7, wr h21 h21, (ids v117)), (8, wr h21 h21, (ids v118)), (13, wr h21 h21, (ids (nth vs20 3))), (14, wr h21 h21, (ids v124)), (17, wr h21 h21, (ids (nth vs20 1))), (18, wr h21 h21, (ids v128)), (19, wr h21 h21, (ids v129)), (25, wr h21 h21, (ids (nth vs20 4))), (26, wr h21 h21, (ids v136)), (29, wr h21 h21, (ids (nth vs20 1))), (30, wr h21 h21, (ids v140)), (31, wr h21 h21, (ids v141)), (37, wr h21 h21, (ids (nth vs20 5))), (38, wr h21 h21, (ids v148)), (41, wr h21 h21, (ids (nth vs20 1))), (42, wr h21 h21, (ids v152)), (43, wr h21 h21, (ids v153)), (49, wr h21 h21, (ids (nth vs20 1))), (50, wr h21 h21, (ids v160)), (51, wr h21 h21, (ids v161))] ∧
  POST (.d (.bool false)) h21 pre r post)
  (IADDR 2 T_api_Span (nth vs20 1) (nth vs20 6) h21 fun v168 =>
  FADDR 1 v168 h21 fun v169 =>
  LOAD false 1 v169 h21 fun v170 =>
  BIN 0 .gtr v170 (.d (.num .i64 23199768)) fun v171 =>
  ORDX [] [0, 0, 3, 7, 0, 0, 48, 112, 240, 511, 1023, 2047, 2047, 8191, 16383, 2047, 2047, 100351, 231423, 493567, 1048575, 2097151, 4194303, 8388607, 8388607, 33554431, 67108863, 8388607, 8388607, 411041791, 947912703, 2021654527, 4294967295, 8589934591, 17179869183, 34359738367, 34359738367, 137438953471, 274877906943, 34359738367, 34359738367, 1683627180031, 3882650435583, 8280696946687, 17592186044415, 35184372088831, 70368744177663, 140737488355327, 140737488355327, 562949953421311, 1125899906842623, 2251799813685247, 4503599627370495, 9007199254740991, 18014398509481983, 36028797018963967, 36028797018963967, 144115188075855871, 288230376151711743, 576460752303423487, 1152921504606846975, 2305843009213693951] [(2, wr h21 h21, (ids (nth vs20 3))), (3, wr h21 h21, (ids v113)), (6, wr h21 h21, (ids (nth vs20 1))), (7, wr h21 h21, (ids v117)), (8, wr h21 h21, (ids v118)), (13, wr h21 h21, (ids (nth vs20 3))), (14, wr h21 h21, (ids v124)), (17, wr h21 h21, (ids (nth vs20 1))), (18, wr h21 h21, (ids v128)), (19, wr h21 h21, (ids v129)), (25, wr h21 h21, (ids (nth vs20 4))), (26, wr h21 h21, (ids v136)), (29, wr h21 h21, (ids (nth vs20 1))), (30, wr h21 h21, (ids v140)), (31, wr h21 h21, (ids v141)), (37, wr h21 h21, (ids (nth vs20 5))), (38, wr h21 h21, (ids v148)), (41, wr h21 h21, (ids (nth vs20 1))), (42, wr h21 h21, (ids v152)), (43, wr h21 h21, (ids v153)), (49, wr h21 h21, (ids (nth vs20 1))), (50, wr h21 h21, (ids v160)), (51, wr h21 h21, (ids v161)), (57, wr h21 h21, (ids (nth vs20 1))), (58, wr h21 h21, (ids v168)), (59, wr h21 h21, (ids v169))] ∧
  COND v171
  (POST (.d (.bool false)) h21 pre r post)
  (LOAD true 3 (nth vs20 0) h21 fun v173 =>
  IADDR 1 T_int (nth vs20 3) (nth vs20 6) h21 fun v176 =>
  LOAD false 1 v176 h21 fun v177 =>
  CALL P f_ref01_Figure [v173, v177] 1400 h21 (fun rd23 v178 h22 =>
  vc_law01_DifferBounds_k2 P pre r post h21 vs20 v176 h22 rd23 v178 next20)
  (fun _ _ _ => False))))))))
  (CALL P f_law01_known [] 864 h21 (fun _rd29 v223 h28 =>
  POST v223 h28 pre r post)
  (fun _ _ _ => False))
def vc_law01_DifferBounds_k4 (P : Ctx) (pre : List ABlk) (r : AV) (post : List PB) (v49 : AV) (h14 : Heap) (v2 : AV) (h16 : Heap) (rd17 : List Nat) (h18 : Heap) (rd19 : List Nat) (v26 : AV) (v31 : AV) (v37 : AV) (v44 : AV) (v25 : AV) (v30 : AV) (v36 : AV) (v43 : AV) : Prop :=
  EXT v49 0 fun v50 =>
  EXT v49 1 fun v51 =>
  ORDX [] [0, 0, 2, 7, 15, 31, 31, 63, 255] [(0, wr h14 h14, (ids v2)), (1, wr h14 h14, (ids v2)), (2, wr h14 h16, rd17), (3, wr h16 h18, rd19)] ∧
  BIN 0 .neq v26 (.d (.num .i64 0)) fun v53 =>
  CONDG v53
  (POST (.d (.bool false)) h18 pre r post)
  (BIN 0 .neq v31 (.d (.num .i64 0)) fun v56 =>
  CONDG v56
  (POST (.d (.bool false)) h18 pre r post)
  (BIN 0 .neq v37 (.d (.num .i64 0)) fun v60 =>
  CONDG v60
  (POST (.d (.bool false)) h18 pre r post)
  (BIN 0 .neq v44 (.d (.num .i64 0)) fun v64 =>
  CONDG v64
  (POST (.d (.bool false)) h18 pre r post)
  (BIN 0 .neq v51 (.d (.num .i64 0)) fun v68 =>
  CONDG v68
  (POST (.d (.bool false)) h18 pre r post)
  (LEN false v25 h18 fun v72 =>
  FADDR 1 v2 h18 fun v73 =>
  LOAD false 1 v73 h18 fun v74 =>
  BIN 0 .neq v72 v74 fun v75 =>
  CONDG v75
  (POST (.d (.bool false)) h18 pre r post)
  (LEN false v30 h18 fun v79 =>
  FADDR 1 v2 h18 fun v80 =>
  LOAD false 1 v80 h18 fun v81 =>
  BIN 0 .neq v79 v81 fun v82 =>
  CONDG v82
  (POST (.d (.bool false)) h18 pre r post)
  (LEN false v36 h18 fun v86 =>
  FADDR 1 v2 h18 fun v87 =>
  LOAD false 1 v87 h18 fun v88 =>
  BIN 0 .neq v86 v88 fun v89 =>
  CONDG v89
  (POST (.d (.bool false)) h18 pre r post)
  (LEN false v43 h18 fun v93 =>
  FADDR 1 v2 h18 fun v94 =>
  LOAD false 1 v94 h18 fun v95 =>
  BIN 0 .neq v93 v95 fun v96 =>
  CONDG v96
  (POST (.d (.bool false)) h18 pre r post)
  (LEN false v50 h18 fun v100 =>
  FADDR 1 v2 h18 fun v101 =>
  LOAD false 1 v101 h18 fun v102 =>
  BIN 0 .neq v100 v102 fun v103 =>
  COND v103
  (POST (.d (.bool false)) h18 pre r post)
  (LOOP [v2, v25, v30, v36, v43, v50, (.d (.num .i64 0))] h18 824 fun vs20 h21 next20 =>
  vc_law01_DifferBounds_k3 P pre r post vs20 h21 next20))))))))))
def vc_law01_DifferBounds_k5 (P : Ctx) (pre : List ABlk) (r : AV) (post : List PB) (v42 : AV) (h10 : Heap) (v2 : AV) (h12 : Heap) (rd13 : List Nat) (h14 : Heap) (rd15 : List Nat) (v26 : AV) (v31 : AV) (v37 : AV) (v25 : AV) (v30 : AV) (v36 : AV) : Prop :=
  EXT v42 0 fun v43 =>
  EXT v42 1 fun v44 =>
  ORDX [] [0, 0, 2, 7, 15, 31, 31, 63, 255] [(0, wr h10 h10, (ids v2)), (1, wr h10 h10, (ids v2)), (2, wr h10 h12, rd13), (3, wr h12 h14, rd15)] ∧
  LOAD true 3 v2 h14 fun v46 =>
  LOAD true 3 v2 h14 fun v47 =>
  CALL P f_ref01_Highs [v47] 336 h14 (fun rd17 v48 h16 =>
  CALL P f_differ_Table [v46, v48] 344 h16 (fun rd19 v49 h18 =>
  vc_law01_DifferBounds_k4 P pre r post v49 h14 v2 h16 rd17 h18 rd19 v26 v31 v37 v44 v25 v30 v36 v43)
  (fun _ _ _ => False))
  (fun _ _ _ => False)
def vc_law01_DifferBounds_k6 (P : Ctx) (pre : List ABlk) (r : AV) (post : List PB) (v29 : AV) (v2 : AV) (h8 : Heap) (a1 : AV) (v26 : AV) (v25 : AV) : Prop :=
  EXT v29 0 fun v30 =>
  EXT v29 1 fun v31 =>
  LOAD true 3 v2 h8 fun v33 =>
  CALL P f_differ_Table [v33, a1] 200 h8 (fun _rd11 v35 h10 =>
  EXT v35 0 fun v36 =>
  EXT v35 1 fun v37 =>
  LOAD true 3 v2 h10 fun v39 =>
  LOAD true 3 v2 h10 fun v40 =>
  CALL P f_ref01_Lows [v40] 264 h10 (fun rd13 v41 h12 =>
  CALL P f_differ_Table [v39, v41] 272 h12 (fun rd15 v42 h14 =>
  vc_law01_DifferBounds_k5 P pre r post v42 h10 v2 h12 rd13 h14 rd15 v26 v31 v37 v25 v30 v36)
  (fun _ _ _ => False))
  (fun _ _ _ => False))
  (fun _ _ _ => False)
def vc_law01_DifferBounds (P : Ctx) (pre : List ABlk) (a0 a1 : AV) (r : AV) (post : List PB) : Prop :=
  let h0 : Heap := numbered 0 pre
  BOX T_api_DifferPlan a0 24 h0 fun v2 h1 =>
  LOAD true 3 v2 h1 fun v17 =>
  CALL P f_law01_right [v17, a1] 56 h1 (fun _rd3 v19 h2 =>
  NOT v19 fun v20 =>
  COND v20
  (CALL P f_law01_known [] 72 h2 (fun _rd5 v21 h4 =>
  POST v21 h4 pre r post)
  (fun _ _ _ => False))
  (LOAD true 3 v2 h2 fun v23 =>
  CALL P f_differ_Rows [v23] 80 h2 (fun _rd7 v24 h6 =>
  EXT v24 0 fun v25 =>
  EXT v24 1 fun v26 =>
  LOAD true 3 v2 h6 fun v28 =>
  CALL P f_differ_Printed [v28] 136 h6 (fun _rd9 v29 h8 =>
  vc_law01_DifferBounds_k6 P pre r post v29 v2 h8 a1 v26 v25)
  (fun _ _ _ => False))
  (fun _ _ _ => False)))
  (fun _ _ _ => False)
theorem vc_law01_DifferBounds_eq (g : GG) (pre : List ABlk) (a0 a1 : AV) (r : AV) (post : List PB) : vcFn2 (Tz g) false ann_law01_DifferBounds Tryz.f5 pre [a0, a1] (.ret r) post = vc_law01_DifferBounds (Tz g) pre a0 a1 r post := by kernel_rfl
theorem hf_law01_DifferBounds : Tryz.prog.funcs[f_law01_DifferBounds]? = some Tryz.f5 := by kernel_rfl
theorem ok_law01_DifferBounds : fnVcOK Tryz.prog Tryz.f5 = true := by kernel_rfl
theorem nt_law01_DifferBounds : Nat.ble 2 Tryz.f5.ntmps = true := by kernel_rfl
theorem meetsH_law01_DifferBounds {g : GG} {pre : List ABlk} {a0 a1 : AV} {r : AV} {post : List PB} (hk : Nat.ble pre.length 24 = true) (h : vc_law01_DifferBounds (Tz g) pre a0 a1 r post) : MeetsH (Tz g) f_law01_DifferBounds pre [a0, a1] (.ret r) post :=
  meetsH_of_vc (C := Tz g) ann_law01_DifferBounds hf_law01_DifferBounds ok_law01_DifferBounds nt_law01_DifferBounds hk (pn := false) (Eq.mpr ((vcFn2_eq _ _ _ _ _ _ _ _).trans (vc_law01_DifferBounds_eq g pre a0 a1 r post)) h)
theorem meets_law01_DifferBounds {g : GG} {a0 a1 : D} {r : Res} (h : vc_law01_DifferBounds (Tz g) [] (.d a0) (.d a1) r.val (r.bl.map .upd)) : Meets (Tz g) f_law01_DifferBounds [a0, a1] r := meetsH_law01_DifferBounds rfl h
end Go.Vc

namespace Go.Vc
open Go Go.Proofs
variable {g : GG}
attribute [local simp] and_assoc
set_option maxHeartbeats 2000000 in
theorem bounds_meets (hg : GOK g) (p : Plan) (t : List Int) (_ : ∀ n, n ∈ t → -9223372036854775808 ≤ n ∧ n ≤ 9223372036854775807) : Meets (Tz g) f_law01_DifferBounds [p.d, ints t] ⟨.d (.bool true), []⟩ := by
  refine meets_law01_DifferBounds ?_
  unfold vc_law01_DifferBounds
  simp [Plan.d, spans, ints]
  refine CALL.val [p.d, ints t] _ rfl (law01_right_meets p t) (.inl rfl) ?_
  simp
  constructor
  · intro h
    exact known_call hg (by simp)
  · intro h
    simp [rightB] at h
    obtain ⟨b1, b2, b3, b4⟩ := h
    obtain ⟨a1, a2, a3, a4, a5⟩ := Plan.ok_len b3
    have hlen := within_length b4
    obtain ⟨n, hn⟩ : ∃ n : Nat, p.rows = n := ⟨p.rows.toNat, by omega⟩
    obtain ⟨m, hm⟩ : ∃ m : Nat, p.guard = m := ⟨p.guard.toNat, by have := b3; simp [Plan.ok, inB] at this; omega⟩
    have hm3 : m ≤ 3 := by have := b3; simp [Plan.ok, inB] at this; omega
    have hr := rowsL_len p n hn
    have hpl : (printedL p).length = n := by simp [printedL, hr]
    have hh : ∀ t : List Int, (heads t n).length = n := fun t => by simp [heads]
    refine CALL.mk [p.d] _ rfl (differ_Rows_meets p (by omega)) (.inl rfl) (by simp [b3]) ?_
    simp [b3]
    refine CALL.mk [p.d] _ rfl (differ_Printed_meets p (by omega)) (.inl rfl) (by simp [b3]) ?_
    simp [b3, vc_law01_DifferBounds_k6]
    refine CALL.mk [p.d, ints t] _ rfl (differ_Table_ok p t b3 b4) (.inl rfl) (by simp) ?_
    simp
    refine CALL.mk [p.d] _ rfl (ref01_Lows_meets p (by omega)) (.inl rfl) (by simp) ?_
    simp
    refine CALL.mk [p.d, ints (lows p)] _ (by simp [Plan.d, spans, ints]) (differ_Table_ok p (lows p) b3 (lows_within b3)) (.inr (by simp [Res.flatP, AV.flatB, AV.flatB.flatL, blksFlat, Body.flatP, D.flatB])) (by simp) ?_
    simp [vc_law01_DifferBounds_k5]
    refine ⟨rfl, ?_⟩
    refine CALL.mk [p.d] _ rfl (ref01_Highs_meets p (by omega)) (.inl rfl) (by simp) ?_
    simp
    refine CALL.mk [p.d, ints (highs p)] _ (by simp [Plan.d, spans, ints]) (differ_Table_ok p (highs p) b3 (highs_within b3)) (.inr (by simp [Res.flatP, AV.flatB, AV.flatB.flatL, blksFlat, Body.flatP, D.flatB])) (by simp) ?_
    simp [vc_law01_DifferBounds_k4, hn, hr, hpl, hh]
    refine ⟨rfl, ?_⟩
    refine LOOP.mk Nat (fun k => [.ptr 24 0 0 0, .own 80 0, .own 136 0, .own 200 0, .own 272 0, .own 344 0, .d (int k)]) (fun k => [(344, some ⟨0, T_int, .lst ((heads (highs p) n).map int)⟩), (272, some ⟨0, T_int, .lst ((heads (lows p) n).map int)⟩), (200, some ⟨0, T_int, .lst ((heads t n).map int)⟩), (136, some ⟨0, T_api_Span, .lst ((printedL p).map Sp.d)⟩), (80, some ⟨0, T_api_Span, .lst ((rowsL p).map Sp.d)⟩), (24, some ⟨0, T_api_DifferPlan, .box [.d (spans p.starts), .d (int n), .d (int p.guard)]⟩)]) (fun k => k ≤ n) (fun k => n - k) [] (by simp) 0 (by omega) (by simp [WEAK, spans]) (fun _ _ => rfl) ?_
    intro k hk
    simp [vc_law01_DifferBounds_k3]
    constructor
    · intro hlt
      have h1 := after_head t k (by omega)
      have h2 := after_head (lows p) k (by rw [lows_len]; omega)
      have h3 := after_head (highs p) k (by rw [highs_len]; omega)
      have h4 := val_low b4 k
      have h5 := val_high b4 k
      have g0 : (heads t n)[k]? = some ((afterL k t).headD 0) := by simp [heads, hlt]
      have g1 : (heads (lows p) n)[k]? = some ((afterL k (lows p)).headD 0) := by simp [heads, hlt]
      have g2 : (heads (highs p) n)[k]? = some ((afterL k (highs p)).headD 0) := by simp [heads, hlt]
      have g3 := rowsL_get p n k hn hlt
      have hb := rows_bound b3 (List.mem_of_getElem? g3)
      have g4 : (printedL p)[k]? = some ⟨figL (unitL p) ((afterL k (lows p)).headD 0), figL (unitL p) ((afterL k (highs p)).headD 0)⟩ := by simp [printedL, g3]
      generalize (afterL k t).headD 0 = x at h1 g0
      generalize (afterL k (lows p)).headD 0 = lo at h2 g1 g3 g4 hb
      generalize (afterL k (highs p)).headD 0 = hi at h3 g2 g3 g4 hb
      have hu : 1 ≤ unitL p := by unfold unitL; rw [hm]; exact (pow10_le m hm3).1
      have f1 := figL_mono (unitL p) lo x hu (by omega)
      have f2 := figL_mono (unitL p) x hi hu (by omega)
      simp at hb
      have c1 : lo ≤ x := by omega
      have c2 : x ≤ hi := by omega
      have c3 : -23199768 ≤ lo := by omega
      have c4 : hi ≤ 23199768 := by omega
      have f3 := figL_mono (unitL p) lo hi hu (by omega)
      have hk1 : ∀ b : Prop, (k < n ∧ b) = b := fun b => propext (and_iff_right hlt)
      simp [g0, g1, g2, g3, hh, hr, Sp.d, hk1, c1, c2, c3, c4]
      refine ⟨rfl, ?_⟩
      refine CALL.val [p.d, int x] _ (by simp [Plan.d, spans, hn]) (ref01_Figure_meets p x m hm hm3 (by omega)) (.inl rfl) ?_
      simp [vc_law01_DifferBounds_k2, g1, g4, hh, hpl, Sp.d, hk1, f1, f2]
      refine ⟨rfl, ?_⟩
      refine CALL.val [p.d, int lo] _ (by simp [Plan.d, spans, hn]) (ref01_Figure_meets p lo m hm hm3 (by omega)) (.inl rfl) ?_
      simp [vc_law01_DifferBounds_k1, g2, g4, hh, hpl, Sp.d, hk1]
      refine CALL.val [p.d, int hi] _ (by simp [Plan.d, spans, hn]) (ref01_Figure_meets p hi m hm hm3 (by omega)) (.inl rfl) ?_
      simp [vc_law01_DifferBounds_k0, g4, hpl, Sp.d, hk1]
      rw [wrap_id (n := (k : Int) + 1) (by omega) (by omega)]
      refine ⟨rfl, k + 1, by omega, ?_, by omega⟩
      simp [WEAK]
    · intro hge
      exact known_call hg (by simp)
end Go.Vc

namespace Go.Vc
open Go Go.RowKit Go.ChangeShapes Go.WideShapes Go.ChangeAt Go.Proofs Go.Proofs.YtknbgegcnfdnkaaGreatDoor
theorem bounds_calls {H : Type} {enc : TypeId × Value → H} (W : World) (base : Nat) (args : Array Value) (ds : List (DataW H)) (ps : List MemPlace) (hval : ∀ (j : Nat) t v, Tryz.f5.params[j]? = some t → args[j]? = some v → Value.okWide Tryz.prog W .any base t v)
    (hA : DataW.TrodAll enc Tryz.prog W 0 (fun _ => true) true Tryz.f5.params.toList args.toList ds ps) (hL : laidMetH Tryz.prog laidL W) (hsh : W.ShapedOpen Tryz.prog) : Calls Tryz.prog 5 args W fun e W' => e = .returned (.bool true) ∧ Below W.heap.size W W' := by
  rw [Tryz.params5] at hA hval
  obtain ⟨v0, v1, d0, d1, p0, p1, rfl, rfl, rfl, h0, h1⟩ := trodAll_two hA
  obtain ⟨x0, g0⟩ := open_plan (hval 0 24 v0 rfl rfl) h0
  obtain ⟨x1, g1, b1⟩ := open_ints' (hval 1 25 v1 rfl rfl) h1
  exact law_calls (C := Tz (gW W)) (bounds_meets (gok hL hsh) x0 x1 b1) rfl (Below.refl _ _) (us := [v0, v1]) rfl (fun i d u hd hu => by
    match i, hd, hu with
    | 0, hd, hu => simp at hd hu; subst hd; subst hu; exact g0
    | 1, hd, hu => simp at hd hu; subst hd; subst hu; exact g1
    | i + 2, hd, hu => simp at hd)
theorem bounds_lifted (os : Os) (started : os.Started) (H : Type) (enc : TypeId × Value → H) :
    ReturnsInHanded {} Tryz.checked os 5 .any (fun w args => (Rows.differBoundsSpec.pre enc Tryz.prog Tryz.f5 [] false w args ∧ laidMetH Tryz.prog laidL w) ∧ sizedMet enc Tryz.prog Tryz.f5 (OpenSpec.ofChange Rows.differBoundsSpec) false w args)
      (Rows.differBoundsSpec.post enc Tryz.prog Tryz.f5 false true false false) :=
  law_lifted (C := Tryz.checked) (tb := 4) (n := 2) started own (by kernel_rfl) Tryz.func5
    (ChangeSpec.witness_shaped (enc := enc) (C := Tryz.checked) (os := os) (X := fun w _ => laidMetH Tryz.prog laidL w) false (World.laidAll Tryz.prog os laidL) #[.agg #[.slice none 0 0, .int .i64 0, .int .i64 0], .slice none 0 0] 8 (World.laidAll_os _ _ _)
      (World.shaped_of_ZipB (by kernel_rfl) (by kernel_rfl)) (by kernel_rfl) (by kernel_rfl) (by kernel_rfl)
      (by rw [MakeChecks.laidMetH_plain _ _ _ (by kernel_rfl)]; exact laidMet_laidAll _ (by kernel_rfl) (by kernel_rfl)))
    laidOut (by kernel_rfl) (by kernel_rfl) Tryz.underlying4 rfl (by kernel_rfl) (fun ds hl => by
      match ds, hl with
      | [a, b], _ => rfl) bounds_calls
theorem bounds_holds : Rows.DifferBoundsSaid :=
  OpenClaim.holds_of_wide 5 Tryz.f5 rfl rfl rfl rfl rfl rfl rfl ⟨rfl, rfl, rfl, rfl, rfl⟩ rfl rfl rfl rfl rfl (by kernel_rfl) Tryz.func5 (by kernel_rfl)
    (of_decide_eq_true (by kernel_rfl)) (by unfold Func.isWrapper; first | (rw [if_pos (by decide +kernel)]; kernel_rfl) | (rw [if_neg (by decide +kernel)]; exact ⟨rfl, rfl⟩))
    (fun os started H enc _ => bounds_lifted os started H enc)
theorem bounds_card : Rows.DifferBoundsCardSaid :=
  Claim7.holds_tied_plain_at .later [] [.data, .data, .data, .data, .pinned] true (true, "d10b68e6a0c25b14fab4c5b71042fa3c3e8e84e3c7cd95ea514fc863592e91e4") true bounds_holds (fun _ h => by cases h) (by kernel_rfl) (fun _ h => by cases h) differBounds_row_tie rfl ⟨rfl, rfl⟩ (by kernel_rfl) rfl
    (fun f fn hf hfn => by
      obtain rfl : f = 5 := Option.some.inj ((show Tryz.prog.funcNamed "ephemerist/ephemeristlaw01.DifferBounds" = some 5 by kernel_rfl).symm.trans hf) |>.symm
      obtain rfl : fn = Tryz.f5 := (Option.some.inj (Tryz.func5.symm.trans hfn)).symm
      exact ⟨by kernel_rfl, fun j t ht => by
        rw [Tryz.params5] at ht
        have hm : t ∈ [24, 25] := by simpa using Array.mem_of_getElem? ht
        have hall : ([24, 25].all fun u => !Tryz.prog.wantsStandIn u) = true := by kernel_rfl
        exact (show Tryz.prog.wantsStandIn t = false by simpa using List.all_eq_true.1 hall t hm)⟩)
    (by kernel_rfl)
end Go.Vc

namespace Go.Proofs.YtknbgegcnfdnkaaGreatDoor
theorem law_DifferBoundsCardSaid : Rows.DifferBoundsCardSaid := Go.Vc.bounds_card
end Go.Proofs.YtknbgegcnfdnkaaGreatDoor
