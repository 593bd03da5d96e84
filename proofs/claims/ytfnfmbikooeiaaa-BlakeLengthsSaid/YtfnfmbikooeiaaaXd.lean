/- Part of the proof. -/
import Derived.Test.YtfnfmbikooeiaaaXc
import Derived.Test.YtfnfmbikooeiaaaChecked
import Derived.KernelRfl
set_option linter.unusedSimpArgs false
set_option linter.unusedVariables false
namespace Go.Proofs.Ytfnfmbikooeiaaa
open Go.Ax
set_option maxRecDepth 100000
theorem tb0 : szT Try.prog 3 = some 1 := by kernel_rfl
theorem tb1 : aggT Try.prog 3 = some false := by kernel_rfl
theorem tb2 : kindT Try.prog 3 = .int .i64 := by kernel_rfl
theorem tb3 : zeroT Try.prog 3 = some [.v (.int .i64 0)] := by kernel_rfl
theorem tb4 : szT Try.prog 4 = some 1 := by kernel_rfl
theorem tb5 : aggT Try.prog 4 = some false := by kernel_rfl
theorem tb6 : kindT Try.prog 4 = .bool := by kernel_rfl
theorem tb7 : zeroT Try.prog 4 = some [.v (.bool false)] := by kernel_rfl
theorem tb8 : szT Try.prog 5 = some 1 := by kernel_rfl
theorem tb9 : aggT Try.prog 5 = some false := by kernel_rfl
theorem tb10 : kindT Try.prog 5 = .int .u8 := by kernel_rfl
theorem tb11 : zeroT Try.prog 5 = some [.v (.int .u8 0)] := by kernel_rfl
theorem tb12 : szT Try.prog 9 = some 1 := by kernel_rfl
theorem tb13 : aggT Try.prog 9 = some false := by kernel_rfl
theorem tb14 : kindT Try.prog 9 = .string := by kernel_rfl
theorem tb15 : zeroT Try.prog 9 = some [.v (.string ⟨#[]⟩)] := by kernel_rfl
theorem tb16 : elemT Try.prog 9 = .str := by kernel_rfl
theorem tb17 : szT Try.prog 22 = some 1 := by kernel_rfl
theorem tb18 : aggT Try.prog 22 = some false := by kernel_rfl
theorem tb19 : kindT Try.prog 22 = .slice true := by kernel_rfl
theorem tb20 : zeroT Try.prog 22 = some [.v (.slice none 0 0)] := by kernel_rfl
theorem tb21 : elemT Try.prog 22 = .sl 1 false false := by kernel_rfl
theorem tb22 : elemSize Try.prog 22 = some 1 := by kernel_rfl
theorem tb23 : elemBytes Try.prog 22 = some 1 := by kernel_rfl
theorem tb24 : elemZ Try.prog 22 = some (.u8, 0) := by kernel_rfl
theorem tb25 : intElem Try.prog 22 = some .u8 := by kernel_rfl
theorem tb26 : szT Try.prog 23 = some 1 := by kernel_rfl
theorem tb27 : aggT Try.prog 23 = some false := by kernel_rfl
theorem tb28 : kindT Try.prog 23 = .int .i64 := by kernel_rfl
theorem tb29 : zeroT Try.prog 23 = some [.v (.int .i64 0)] := by kernel_rfl
theorem tb30 : szT Try.prog 29 = some 1 := by kernel_rfl
theorem tb31 : aggT Try.prog 29 = some false := by kernel_rfl
theorem tb32 : kindT Try.prog 29 = .int .u64 := by kernel_rfl
theorem tb33 : zeroT Try.prog 29 = some [.v (.int .u64 0)] := by kernel_rfl
theorem tb34 : szT Try.prog 30 = some 8 := by kernel_rfl
theorem tb35 : aggT Try.prog 30 = some true := by kernel_rfl
theorem tb36 : kindT Try.prog 30 = .array := by kernel_rfl
theorem tb37 : zeroT Try.prog 30 = some [.arr 8 .u64 (List.replicate 8 0)] := by kernel_rfl
theorem tb38 : intsT Try.prog 30 = true := by kernel_rfl
theorem tb39 : elemT Try.prog 30 = .arr 8 1 false false := by kernel_rfl
theorem tb40 : eqArrT Try.prog 30 = some (8, .u64) := by kernel_rfl
theorem tb41 : sizedT Try.prog 30 = true := by kernel_rfl
theorem tb42 : ∀ i, placeA Try.prog 30 i = some (i * 1, 1, false) := by (intro i; kernel_rfl)
theorem tb43 : szT Try.prog 31 = some 128 := by kernel_rfl
theorem tb44 : aggT Try.prog 31 = some true := by kernel_rfl
theorem tb45 : kindT Try.prog 31 = .array := by kernel_rfl
theorem tb46 : zeroT Try.prog 31 = some [.arr 128 .u8 (List.replicate 128 0)] := by kernel_rfl
theorem tb47 : intsT Try.prog 31 = true := by kernel_rfl
theorem tb48 : elemT Try.prog 31 = .arr 128 1 false false := by kernel_rfl
theorem tb49 : eqArrT Try.prog 31 = some (128, .u8) := by kernel_rfl
theorem tb50 : sizedT Try.prog 31 = true := by kernel_rfl
theorem tb51 : ∀ i, placeA Try.prog 31 i = some (i * 1, 1, false) := by (intro i; kernel_rfl)
theorem tb52 : szT Try.prog 37 = some 1 := by kernel_rfl
theorem tb53 : aggT Try.prog 37 = some false := by kernel_rfl
theorem tb54 : kindT Try.prog 37 = .slice false := by kernel_rfl
theorem tb55 : zeroT Try.prog 37 = some [.v (.slice none 0 0)] := by kernel_rfl
theorem tb56 : elemT Try.prog 37 = .sl 1 false false := by kernel_rfl
theorem tb57 : elemSize Try.prog 37 = some 1 := by kernel_rfl
theorem tb58 : elemBytes Try.prog 37 = some 24 := by kernel_rfl
theorem tb59 : intElem Try.prog 37 = none := by kernel_rfl
theorem tb60 : szT Try.prog 38 = some 1 := by kernel_rfl
theorem tb61 : aggT Try.prog 38 = some false := by kernel_rfl
theorem tb62 : kindT Try.prog 38 = .pointer := by kernel_rfl
theorem tb63 : zeroT Try.prog 38 = some [.v (.pointer none)] := by kernel_rfl
theorem tb64 : szT Try.prog 49 = some 1 := by kernel_rfl
theorem tb65 : aggT Try.prog 49 = some false := by kernel_rfl
theorem tb66 : kindT Try.prog 49 = .int .u32 := by kernel_rfl
theorem tb67 : zeroT Try.prog 49 = some [.v (.int .u32 0)] := by kernel_rfl
theorem tb68 : szT Try.prog 52 = some 128 := by kernel_rfl
theorem tb69 : aggT Try.prog 52 = some true := by kernel_rfl
theorem tb70 : kindT Try.prog 52 = .array := by kernel_rfl
theorem tb71 : zeroT Try.prog 52 = some [.arr 128 .u64 (List.replicate 128 0)] := by kernel_rfl
theorem tb72 : intsT Try.prog 52 = true := by kernel_rfl
theorem tb73 : elemT Try.prog 52 = .arr 128 1 false false := by kernel_rfl
theorem tb74 : eqArrT Try.prog 52 = some (128, .u64) := by kernel_rfl
theorem tb75 : sizedT Try.prog 52 = true := by kernel_rfl
theorem tb76 : ∀ i, placeA Try.prog 52 i = some (i * 1, 1, false) := by (intro i; kernel_rfl)
theorem tb77 : szT Try.prog 53 = some 128 := by kernel_rfl
theorem tb78 : aggT Try.prog 53 = some true := by kernel_rfl
theorem tb79 : kindT Try.prog 53 = .array := by kernel_rfl
theorem tb80 : zeroT Try.prog 53 = some [.arr 128 .u64 (List.replicate 128 0)] := by kernel_rfl
theorem tb81 : intsT Try.prog 53 = true := by kernel_rfl
theorem tb82 : elemT Try.prog 53 = .arr 128 1 false false := by kernel_rfl
theorem tb83 : eqArrT Try.prog 53 = some (128, .u64) := by kernel_rfl
theorem tb84 : sizedT Try.prog 53 = true := by kernel_rfl
theorem tb85 : ∀ i, placeA Try.prog 53 i = some (i * 1, 1, false) := by (intro i; kernel_rfl)
theorem tb86 : szT Try.prog 59 = some 1 := by kernel_rfl
theorem tb87 : aggT Try.prog 59 = some false := by kernel_rfl
theorem tb88 : kindT Try.prog 59 = .int .u64 := by kernel_rfl
theorem tb89 : zeroT Try.prog 59 = some [.v (.int .u64 0)] := by kernel_rfl
theorem tb90 : szT Try.prog 60 = some 16 := by kernel_rfl
theorem tb91 : aggT Try.prog 60 = some true := by kernel_rfl
theorem tb92 : kindT Try.prog 60 = .array := by kernel_rfl
theorem tb93 : zeroT Try.prog 60 = some [.arr 16 .u64 (List.replicate 16 0)] := by kernel_rfl
theorem tb94 : intsT Try.prog 60 = true := by kernel_rfl
theorem tb95 : elemT Try.prog 60 = .arr 16 1 false false := by kernel_rfl
theorem tb96 : eqArrT Try.prog 60 = some (16, .u64) := by kernel_rfl
theorem tb97 : sizedT Try.prog 60 = true := by kernel_rfl
theorem tb98 : ∀ i, placeA Try.prog 60 i = some (i * 1, 1, false) := by (intro i; kernel_rfl)
theorem tb99 : szT Try.prog 65 = some 3 := by kernel_rfl
theorem tb100 : aggT Try.prog 65 = some true := by kernel_rfl
theorem tb101 : kindT Try.prog 65 = .struct := by kernel_rfl
theorem tb102 : zeroT Try.prog 65 = some [.v (.int .i64 0), .v (.int .i64 0), .v (.int .i64 0)] := by kernel_rfl
theorem tb103 : sizedT Try.prog 65 = true := by kernel_rfl
theorem tb104 : intsT Try.prog 65 = false := by kernel_rfl
theorem tb105 : placeA Try.prog 65 0 = some (0, 1, false) := by kernel_rfl
theorem tb106 : fieldT Try.prog 65 0 = some (0, 1, false, false) := by kernel_rfl
theorem tb107 : placeA Try.prog 65 1 = some (1, 1, false) := by kernel_rfl
theorem tb108 : fieldT Try.prog 65 1 = some (1, 1, false, false) := by kernel_rfl
theorem tb109 : placeA Try.prog 65 2 = some (2, 1, false) := by kernel_rfl
theorem tb110 : fieldT Try.prog 65 2 = some (2, 1, false, false) := by kernel_rfl
theorem tb111 : szT Try.prog 66 = some 3 := by kernel_rfl
theorem tb112 : aggT Try.prog 66 = some true := by kernel_rfl
theorem tb113 : kindT Try.prog 66 = .struct := by kernel_rfl
theorem tb114 : zeroT Try.prog 66 = some [.v (.int .i64 0), .v (.int .i64 0), .v (.int .i64 0)] := by kernel_rfl
theorem tb115 : sizedT Try.prog 66 = true := by kernel_rfl
theorem tb116 : intsT Try.prog 66 = false := by kernel_rfl
theorem tb117 : placeA Try.prog 66 0 = some (0, 1, false) := by kernel_rfl
theorem tb118 : fieldT Try.prog 66 0 = some (0, 1, false, false) := by kernel_rfl
theorem tb119 : placeA Try.prog 66 1 = some (1, 1, false) := by kernel_rfl
theorem tb120 : fieldT Try.prog 66 1 = some (1, 1, false, false) := by kernel_rfl
theorem tb121 : placeA Try.prog 66 2 = some (2, 1, false) := by kernel_rfl
theorem tb122 : fieldT Try.prog 66 2 = some (2, 1, false, false) := by kernel_rfl
theorem tb123 : szT Try.prog 67 = some 4 := by kernel_rfl
theorem tb124 : aggT Try.prog 67 = some true := by kernel_rfl
theorem tb125 : kindT Try.prog 67 = .struct := by kernel_rfl
theorem tb126 : zeroT Try.prog 67 = some [.v (.slice none 0 0), .v (.slice none 0 0), .v (.slice none 0 0), .v (.slice none 0 0)] := by kernel_rfl
theorem tb127 : sizedT Try.prog 67 = true := by kernel_rfl
theorem tb128 : intsT Try.prog 67 = false := by kernel_rfl
theorem tb129 : placeA Try.prog 67 0 = some (0, 1, false) := by kernel_rfl
theorem tb130 : fieldT Try.prog 67 0 = some (0, 1, false, false) := by kernel_rfl
theorem tb131 : placeA Try.prog 67 1 = some (1, 1, false) := by kernel_rfl
theorem tb132 : fieldT Try.prog 67 1 = some (1, 1, false, false) := by kernel_rfl
theorem tb133 : placeA Try.prog 67 2 = some (2, 1, false) := by kernel_rfl
theorem tb134 : fieldT Try.prog 67 2 = some (2, 1, false, false) := by kernel_rfl
theorem tb135 : placeA Try.prog 67 3 = some (3, 1, false) := by kernel_rfl
theorem tb136 : fieldT Try.prog 67 3 = some (3, 1, false, false) := by kernel_rfl
theorem tb137 : szT Try.prog 68 = some 4 := by kernel_rfl
theorem tb138 : aggT Try.prog 68 = some true := by kernel_rfl
theorem tb139 : kindT Try.prog 68 = .struct := by kernel_rfl
theorem tb140 : zeroT Try.prog 68 = some [.v (.slice none 0 0), .v (.slice none 0 0), .v (.slice none 0 0), .v (.slice none 0 0)] := by kernel_rfl
theorem tb141 : sizedT Try.prog 68 = true := by kernel_rfl
theorem tb142 : intsT Try.prog 68 = false := by kernel_rfl
theorem tb143 : placeA Try.prog 68 0 = some (0, 1, false) := by kernel_rfl
theorem tb144 : fieldT Try.prog 68 0 = some (0, 1, false, false) := by kernel_rfl
theorem tb145 : placeA Try.prog 68 1 = some (1, 1, false) := by kernel_rfl
theorem tb146 : fieldT Try.prog 68 1 = some (1, 1, false, false) := by kernel_rfl
theorem tb147 : placeA Try.prog 68 2 = some (2, 1, false) := by kernel_rfl
theorem tb148 : fieldT Try.prog 68 2 = some (2, 1, false, false) := by kernel_rfl
theorem tb149 : placeA Try.prog 68 3 = some (3, 1, false) := by kernel_rfl
theorem tb150 : fieldT Try.prog 68 3 = some (3, 1, false, false) := by kernel_rfl
theorem tb151 : szT Try.prog 74 = some 16 := by kernel_rfl
theorem tb152 : aggT Try.prog 74 = some true := by kernel_rfl
theorem tb153 : kindT Try.prog 74 = .array := by kernel_rfl
theorem tb154 : zeroT Try.prog 74 = some [.arr 16 .u64 (List.replicate 16 0)] := by kernel_rfl
theorem tb155 : intsT Try.prog 74 = true := by kernel_rfl
theorem tb156 : elemT Try.prog 74 = .arr 16 1 false false := by kernel_rfl
theorem tb157 : eqArrT Try.prog 74 = some (16, .u64) := by kernel_rfl
theorem tb158 : sizedT Try.prog 74 = true := by kernel_rfl
theorem tb159 : ∀ i, placeA Try.prog 74 i = some (i * 1, 1, false) := by (intro i; kernel_rfl)
theorem tb160 : szT Try.prog 75 = some 1 := by kernel_rfl
theorem tb161 : aggT Try.prog 75 = some false := by kernel_rfl
theorem tb162 : kindT Try.prog 75 = .slice false := by kernel_rfl
theorem tb163 : zeroT Try.prog 75 = some [.v (.slice none 0 0)] := by kernel_rfl
theorem tb164 : elemT Try.prog 75 = .sl 1 false false := by kernel_rfl
theorem tb165 : elemSize Try.prog 75 = some 1 := by kernel_rfl
theorem tb166 : elemBytes Try.prog 75 = some 8 := by kernel_rfl
theorem tb167 : elemZ Try.prog 75 = some (.u64, 0) := by kernel_rfl
theorem tb168 : intElem Try.prog 75 = some .u64 := by kernel_rfl
theorem tb169 : szT Try.prog 80 = some 11 := by kernel_rfl
theorem tb170 : aggT Try.prog 80 = some true := by kernel_rfl
theorem tb171 : kindT Try.prog 80 = .struct := by kernel_rfl
theorem tb172 : zeroT Try.prog 80 = some [.arr 8 .u64 (List.replicate 8 0), .v (.int .i64 0), .v (.slice none 0 0), .v (.int .u64 0)] := by kernel_rfl
theorem tb173 : sizedT Try.prog 80 = true := by kernel_rfl
theorem tb174 : intsT Try.prog 80 = false := by kernel_rfl
theorem tb175 : placeA Try.prog 80 0 = some (0, 8, true) := by kernel_rfl
theorem tb176 : fieldT Try.prog 80 0 = some (0, 8, true, true) := by kernel_rfl
theorem tb177 : placeA Try.prog 80 1 = some (8, 1, false) := by kernel_rfl
theorem tb178 : fieldT Try.prog 80 1 = some (8, 1, false, false) := by kernel_rfl
theorem tb179 : placeA Try.prog 80 2 = some (9, 1, false) := by kernel_rfl
theorem tb180 : fieldT Try.prog 80 2 = some (9, 1, false, false) := by kernel_rfl
theorem tb181 : placeA Try.prog 80 3 = some (10, 1, false) := by kernel_rfl
theorem tb182 : fieldT Try.prog 80 3 = some (10, 1, false, false) := by kernel_rfl
theorem tb183 : szT Try.prog 81 = some 11 := by kernel_rfl
theorem tb184 : aggT Try.prog 81 = some true := by kernel_rfl
theorem tb185 : kindT Try.prog 81 = .struct := by kernel_rfl
theorem tb186 : zeroT Try.prog 81 = some [.arr 8 .u64 (List.replicate 8 0), .v (.int .i64 0), .v (.slice none 0 0), .v (.int .u64 0)] := by kernel_rfl
theorem tb187 : sizedT Try.prog 81 = true := by kernel_rfl
theorem tb188 : intsT Try.prog 81 = false := by kernel_rfl
theorem tb189 : placeA Try.prog 81 0 = some (0, 8, true) := by kernel_rfl
theorem tb190 : fieldT Try.prog 81 0 = some (0, 8, true, true) := by kernel_rfl
theorem tb191 : placeA Try.prog 81 1 = some (8, 1, false) := by kernel_rfl
theorem tb192 : fieldT Try.prog 81 1 = some (8, 1, false, false) := by kernel_rfl
theorem tb193 : placeA Try.prog 81 2 = some (9, 1, false) := by kernel_rfl
theorem tb194 : fieldT Try.prog 81 2 = some (9, 1, false, false) := by kernel_rfl
theorem tb195 : placeA Try.prog 81 3 = some (10, 1, false) := by kernel_rfl
theorem tb196 : fieldT Try.prog 81 3 = some (10, 1, false, false) := by kernel_rfl
theorem tb197 : szT Try.prog 87 = some 1 := by kernel_rfl
theorem tb198 : aggT Try.prog 87 = some false := by kernel_rfl
theorem tb199 : kindT Try.prog 87 = .pointer := by kernel_rfl
theorem tb200 : zeroT Try.prog 87 = some [.v (.pointer none)] := by kernel_rfl
theorem tb201 : szT Try.prog 88 = some 16 := by kernel_rfl
theorem tb202 : aggT Try.prog 88 = some true := by kernel_rfl
theorem tb203 : kindT Try.prog 88 = .array := by kernel_rfl
theorem tb204 : zeroT Try.prog 88 = some [.v (.pointer none), .v (.pointer none), .v (.pointer none), .v (.pointer none), .v (.pointer none), .v (.pointer none), .v (.pointer none), .v (.pointer none), .v (.pointer none), .v (.pointer none), .v (.pointer none), .v (.pointer none), .v (.pointer none), .v (.pointer none), .v (.pointer none), .v (.pointer none)] := by kernel_rfl
theorem tb205 : intsT Try.prog 88 = false := by kernel_rfl
theorem tb206 : elemT Try.prog 88 = .arr 16 1 false false := by kernel_rfl
theorem tb207 : sizedT Try.prog 88 = true := by kernel_rfl
theorem tb208 : ∀ i, placeA Try.prog 88 i = some (i * 1, 1, false) := by (intro i; kernel_rfl)
theorem tb209 : szT Try.prog 90 = some 1 := by kernel_rfl
theorem tb210 : aggT Try.prog 90 = some false := by kernel_rfl
theorem tb211 : kindT Try.prog 90 = .pointer := by kernel_rfl
theorem tb212 : zeroT Try.prog 90 = some [.v (.pointer none)] := by kernel_rfl
theorem tb213 : elemT Try.prog 90 = .parr 16 1 := by kernel_rfl
theorem tb214 : szT Try.prog 92 = some 1 := by kernel_rfl
theorem tb215 : aggT Try.prog 92 = some false := by kernel_rfl
theorem tb216 : kindT Try.prog 92 = .pointer := by kernel_rfl
theorem tb217 : zeroT Try.prog 92 = some [.v (.pointer none)] := by kernel_rfl
theorem tb218 : szT Try.prog 95 = some 4 := by kernel_rfl
theorem tb219 : aggT Try.prog 95 = some true := by kernel_rfl
theorem tb220 : kindT Try.prog 95 = .struct := by kernel_rfl
theorem tb221 : zeroT Try.prog 95 = some [.v (.int .i64 0), .v (.int .i64 0), .v (.int .i64 0), .v (.int .i64 0)] := by kernel_rfl
theorem tb222 : sizedT Try.prog 95 = true := by kernel_rfl
theorem tb223 : intsT Try.prog 95 = false := by kernel_rfl
theorem tb224 : placeA Try.prog 95 0 = some (0, 1, false) := by kernel_rfl
theorem tb225 : fieldT Try.prog 95 0 = some (0, 1, false, false) := by kernel_rfl
theorem tb226 : placeA Try.prog 95 1 = some (1, 1, false) := by kernel_rfl
theorem tb227 : fieldT Try.prog 95 1 = some (1, 1, false, false) := by kernel_rfl
theorem tb228 : placeA Try.prog 95 2 = some (2, 1, false) := by kernel_rfl
theorem tb229 : fieldT Try.prog 95 2 = some (2, 1, false, false) := by kernel_rfl
theorem tb230 : placeA Try.prog 95 3 = some (3, 1, false) := by kernel_rfl
theorem tb231 : fieldT Try.prog 95 3 = some (3, 1, false, false) := by kernel_rfl
theorem tb232 : szT Try.prog 96 = some 4 := by kernel_rfl
theorem tb233 : aggT Try.prog 96 = some true := by kernel_rfl
theorem tb234 : kindT Try.prog 96 = .struct := by kernel_rfl
theorem tb235 : zeroT Try.prog 96 = some [.v (.int .i64 0), .v (.int .i64 0), .v (.int .i64 0), .v (.int .i64 0)] := by kernel_rfl
theorem tb236 : sizedT Try.prog 96 = true := by kernel_rfl
theorem tb237 : intsT Try.prog 96 = false := by kernel_rfl
theorem tb238 : placeA Try.prog 96 0 = some (0, 1, false) := by kernel_rfl
theorem tb239 : fieldT Try.prog 96 0 = some (0, 1, false, false) := by kernel_rfl
theorem tb240 : placeA Try.prog 96 1 = some (1, 1, false) := by kernel_rfl
theorem tb241 : fieldT Try.prog 96 1 = some (1, 1, false, false) := by kernel_rfl
theorem tb242 : placeA Try.prog 96 2 = some (2, 1, false) := by kernel_rfl
theorem tb243 : fieldT Try.prog 96 2 = some (2, 1, false, false) := by kernel_rfl
theorem tb244 : placeA Try.prog 96 3 = some (3, 1, false) := by kernel_rfl
theorem tb245 : fieldT Try.prog 96 3 = some (3, 1, false, false) := by kernel_rfl
theorem tb246 : szT Try.prog 97 = some 1 := by kernel_rfl
theorem tb247 : aggT Try.prog 97 = some false := by kernel_rfl
theorem tb248 : kindT Try.prog 97 = .slice false := by kernel_rfl
theorem tb249 : zeroT Try.prog 97 = some [.v (.slice none 0 0)] := by kernel_rfl
theorem tb250 : elemT Try.prog 97 = .sl 1 false false := by kernel_rfl
theorem tb251 : elemSize Try.prog 97 = some 1 := by kernel_rfl
theorem tb252 : elemBytes Try.prog 97 = some 24 := by kernel_rfl
theorem tb253 : intElem Try.prog 97 = none := by kernel_rfl
theorem tb254 : szT Try.prog 98 = some 5 := by kernel_rfl
theorem tb255 : aggT Try.prog 98 = some true := by kernel_rfl
theorem tb256 : kindT Try.prog 98 = .struct := by kernel_rfl
theorem tb257 : zeroT Try.prog 98 = some [.v (.int .i64 0), .v (.int .i64 0), .v (.int .i64 0), .v (.slice none 0 0), .v (.int .i64 0)] := by kernel_rfl
theorem tb258 : sizedT Try.prog 98 = true := by kernel_rfl
theorem tb259 : intsT Try.prog 98 = false := by kernel_rfl
theorem tb260 : placeA Try.prog 98 0 = some (0, 3, true) := by kernel_rfl
theorem tb261 : fieldT Try.prog 98 0 = some (0, 3, true, false) := by kernel_rfl
theorem tb262 : placeA Try.prog 98 1 = some (3, 1, false) := by kernel_rfl
theorem tb263 : fieldT Try.prog 98 1 = some (3, 1, false, false) := by kernel_rfl
theorem tb264 : placeA Try.prog 98 2 = some (4, 1, false) := by kernel_rfl
theorem tb265 : fieldT Try.prog 98 2 = some (4, 1, false, false) := by kernel_rfl
theorem tb266 : szT Try.prog 99 = some 5 := by kernel_rfl
theorem tb267 : aggT Try.prog 99 = some true := by kernel_rfl
theorem tb268 : kindT Try.prog 99 = .struct := by kernel_rfl
theorem tb269 : zeroT Try.prog 99 = some [.v (.int .i64 0), .v (.int .i64 0), .v (.int .i64 0), .v (.slice none 0 0), .v (.int .i64 0)] := by kernel_rfl
theorem tb270 : sizedT Try.prog 99 = true := by kernel_rfl
theorem tb271 : intsT Try.prog 99 = false := by kernel_rfl
theorem tb272 : placeA Try.prog 99 0 = some (0, 3, true) := by kernel_rfl
theorem tb273 : fieldT Try.prog 99 0 = some (0, 3, true, false) := by kernel_rfl
theorem tb274 : placeA Try.prog 99 1 = some (3, 1, false) := by kernel_rfl
theorem tb275 : fieldT Try.prog 99 1 = some (3, 1, false, false) := by kernel_rfl
theorem tb276 : placeA Try.prog 99 2 = some (4, 1, false) := by kernel_rfl
theorem tb277 : fieldT Try.prog 99 2 = some (4, 1, false, false) := by kernel_rfl
theorem tb278 : szT Try.prog 100 = some 1 := by kernel_rfl
theorem tb279 : aggT Try.prog 100 = some false := by kernel_rfl
theorem tb280 : kindT Try.prog 100 = .slice false := by kernel_rfl
theorem tb281 : zeroT Try.prog 100 = some [.v (.slice none 0 0)] := by kernel_rfl
theorem tb282 : elemT Try.prog 100 = .sl 128 true true := by kernel_rfl
theorem tb283 : elemSize Try.prog 100 = some 128 := by kernel_rfl
theorem tb284 : elemBytes Try.prog 100 = some 1024 := by kernel_rfl
theorem tb285 : intElem Try.prog 100 = none := by kernel_rfl
theorem tb286 : szT Try.prog 101 = some 1 := by kernel_rfl
theorem tb287 : aggT Try.prog 101 = some false := by kernel_rfl
theorem tb288 : kindT Try.prog 101 = .pointer := by kernel_rfl
theorem tb289 : zeroT Try.prog 101 = some [.v (.pointer none)] := by kernel_rfl
theorem tb290 : szT Try.prog 102 = some 9 := by kernel_rfl
theorem tb291 : aggT Try.prog 102 = some true := by kernel_rfl
theorem tb292 : kindT Try.prog 102 = .struct := by kernel_rfl
theorem tb293 : zeroT Try.prog 102 = some [.v (.int .i64 0), .v (.int .i64 0), .v (.int .i64 0), .v (.int .i64 0), .v (.slice none 0 0), .v (.int .i64 0), .v (.int .i64 0), .v (.int .i64 0), .v (.int .i64 0)] := by kernel_rfl
theorem tb294 : sizedT Try.prog 102 = true := by kernel_rfl
theorem tb295 : intsT Try.prog 102 = false := by kernel_rfl
theorem tb296 : placeA Try.prog 102 0 = some (0, 3, true) := by kernel_rfl
theorem tb297 : fieldT Try.prog 102 0 = some (0, 3, true, false) := by kernel_rfl
theorem tb298 : placeA Try.prog 102 1 = some (3, 1, false) := by kernel_rfl
theorem tb299 : fieldT Try.prog 102 1 = some (3, 1, false, false) := by kernel_rfl
theorem tb300 : placeA Try.prog 102 2 = some (4, 1, false) := by kernel_rfl
theorem tb301 : fieldT Try.prog 102 2 = some (4, 1, false, false) := by kernel_rfl
theorem tb302 : placeA Try.prog 102 3 = some (5, 1, false) := by kernel_rfl
theorem tb303 : fieldT Try.prog 102 3 = some (5, 1, false, false) := by kernel_rfl
theorem tb304 : placeA Try.prog 102 4 = some (6, 1, false) := by kernel_rfl
theorem tb305 : fieldT Try.prog 102 4 = some (6, 1, false, false) := by kernel_rfl
theorem tb306 : placeA Try.prog 102 5 = some (7, 1, false) := by kernel_rfl
theorem tb307 : fieldT Try.prog 102 5 = some (7, 1, false, false) := by kernel_rfl
theorem tb308 : placeA Try.prog 102 6 = some (8, 1, false) := by kernel_rfl
theorem tb309 : fieldT Try.prog 102 6 = some (8, 1, false, false) := by kernel_rfl
theorem tb310 : szT Try.prog 103 = some 9 := by kernel_rfl
theorem tb311 : aggT Try.prog 103 = some true := by kernel_rfl
theorem tb312 : kindT Try.prog 103 = .struct := by kernel_rfl
theorem tb313 : zeroT Try.prog 103 = some [.v (.int .i64 0), .v (.int .i64 0), .v (.int .i64 0), .v (.int .i64 0), .v (.slice none 0 0), .v (.int .i64 0), .v (.int .i64 0), .v (.int .i64 0), .v (.int .i64 0)] := by kernel_rfl
theorem tb314 : sizedT Try.prog 103 = true := by kernel_rfl
theorem tb315 : intsT Try.prog 103 = false := by kernel_rfl
theorem tb316 : placeA Try.prog 103 0 = some (0, 3, true) := by kernel_rfl
theorem tb317 : fieldT Try.prog 103 0 = some (0, 3, true, false) := by kernel_rfl
theorem tb318 : placeA Try.prog 103 1 = some (3, 1, false) := by kernel_rfl
theorem tb319 : fieldT Try.prog 103 1 = some (3, 1, false, false) := by kernel_rfl
theorem tb320 : placeA Try.prog 103 2 = some (4, 1, false) := by kernel_rfl
theorem tb321 : fieldT Try.prog 103 2 = some (4, 1, false, false) := by kernel_rfl
theorem tb322 : placeA Try.prog 103 3 = some (5, 1, false) := by kernel_rfl
theorem tb323 : fieldT Try.prog 103 3 = some (5, 1, false, false) := by kernel_rfl
theorem tb324 : placeA Try.prog 103 4 = some (6, 1, false) := by kernel_rfl
theorem tb325 : fieldT Try.prog 103 4 = some (6, 1, false, false) := by kernel_rfl
theorem tb326 : placeA Try.prog 103 5 = some (7, 1, false) := by kernel_rfl
theorem tb327 : fieldT Try.prog 103 5 = some (7, 1, false, false) := by kernel_rfl
theorem tb328 : placeA Try.prog 103 6 = some (8, 1, false) := by kernel_rfl
theorem tb329 : fieldT Try.prog 103 6 = some (8, 1, false, false) := by kernel_rfl
theorem tb330 : szT Try.prog 106 = some 6 := by kernel_rfl
theorem tb331 : aggT Try.prog 106 = some true := by kernel_rfl
theorem tb332 : kindT Try.prog 106 = .array := by kernel_rfl
theorem tb333 : zeroT Try.prog 106 = some [.arr 6 .i64 (List.replicate 6 0)] := by kernel_rfl
theorem tb334 : intsT Try.prog 106 = true := by kernel_rfl
theorem tb335 : elemT Try.prog 106 = .arr 6 1 false false := by kernel_rfl
theorem tb336 : eqArrT Try.prog 106 = some (6, .i64) := by kernel_rfl
theorem tb337 : sizedT Try.prog 106 = true := by kernel_rfl
theorem tb338 : ∀ i, placeA Try.prog 106 i = some (i * 1, 1, false) := by (intro i; kernel_rfl)
theorem tb339 : szT Try.prog 107 = some 4 := by kernel_rfl
theorem tb340 : aggT Try.prog 107 = some true := by kernel_rfl
theorem tb341 : kindT Try.prog 107 = .array := by kernel_rfl
theorem tb342 : zeroT Try.prog 107 = some [.v (.slice none 0 0), .v (.slice none 0 0), .v (.slice none 0 0), .v (.slice none 0 0)] := by kernel_rfl
theorem tb343 : intsT Try.prog 107 = false := by kernel_rfl
theorem tb344 : elemT Try.prog 107 = .arr 4 1 false false := by kernel_rfl
theorem tb345 : sizedT Try.prog 107 = true := by kernel_rfl
theorem tb346 : ∀ i, placeA Try.prog 107 i = some (i * 1, 1, false) := by (intro i; kernel_rfl)
theorem tb347 : szT Try.prog 108 = some 1 := by kernel_rfl
theorem tb348 : aggT Try.prog 108 = some false := by kernel_rfl
theorem tb349 : kindT Try.prog 108 = .slice false := by kernel_rfl
theorem tb350 : zeroT Try.prog 108 = some [.v (.slice none 0 0)] := by kernel_rfl
theorem tb351 : elemT Try.prog 108 = .sl 1 false false := by kernel_rfl
theorem tb352 : elemSize Try.prog 108 = some 1 := by kernel_rfl
theorem tb353 : elemBytes Try.prog 108 = some 8 := by kernel_rfl
theorem tb354 : elemZ Try.prog 108 = some (.i64, 0) := by kernel_rfl
theorem tb355 : intElem Try.prog 108 = some .i64 := by kernel_rfl
theorem tb356 : szT Try.prog 109 = some 1 := by kernel_rfl
theorem tb357 : aggT Try.prog 109 = some false := by kernel_rfl
theorem tb358 : kindT Try.prog 109 = .pointer := by kernel_rfl
theorem tb359 : zeroT Try.prog 109 = some [.v (.pointer none)] := by kernel_rfl
theorem tb360 : elemT Try.prog 109 = .parr 16 1 := by kernel_rfl
theorem tz22 (c : Nat) : elemZero Try.prog 22 c = some [.arr c .u8 (List.replicate c 0)] := by kernel_rfl
theorem tz37 (c : Nat) : elemZero Try.prog 37 c = some [.lst 1 (List.replicate c (.v (.slice none 0 0)))] := by kernel_rfl
theorem tz75 (c : Nat) : elemZero Try.prog 75 c = some [.arr c .u64 (List.replicate c 0)] := by kernel_rfl
theorem tz97 (c : Nat) : elemZero Try.prog 97 c = some [.lst 1 (List.replicate c (.v (.slice none 0 0)))] := by kernel_rfl
theorem tz100 (c : Nat) : elemZero Try.prog 100 c = some [.arr (c * 128) .u64 (List.replicate c (List.replicate 128 0)).flatten] := by kernel_rfl
theorem tz108 (c : Nat) : elemZero Try.prog 108 c = some [.arr c .i64 (List.replicate c 0)] := by kernel_rfl
theorem tabs : (szT Try.prog 3 = some 1) ∧
  (aggT Try.prog 3 = some false) ∧
  (kindT Try.prog 3 = .int .i64) ∧
  (zeroT Try.prog 3 = some [.v (.int .i64 0)]) ∧
  (szT Try.prog 4 = some 1) ∧
  (aggT Try.prog 4 = some false) ∧
  (kindT Try.prog 4 = .bool) ∧
  (zeroT Try.prog 4 = some [.v (.bool false)]) ∧
  (szT Try.prog 5 = some 1) ∧
  (aggT Try.prog 5 = some false) ∧
  (kindT Try.prog 5 = .int .u8) ∧
  (zeroT Try.prog 5 = some [.v (.int .u8 0)]) ∧
  (szT Try.prog 9 = some 1) ∧
  (aggT Try.prog 9 = some false) ∧
  (kindT Try.prog 9 = .string) ∧
  (zeroT Try.prog 9 = some [.v (.string ⟨#[]⟩)]) ∧
  (elemT Try.prog 9 = .str) ∧
  (szT Try.prog 22 = some 1) ∧
  (aggT Try.prog 22 = some false) ∧
  (kindT Try.prog 22 = .slice true) ∧
  (zeroT Try.prog 22 = some [.v (.slice none 0 0)]) ∧
  (elemT Try.prog 22 = .sl 1 false false) ∧
  (elemSize Try.prog 22 = some 1) ∧
  (elemBytes Try.prog 22 = some 1) ∧
  (elemZ Try.prog 22 = some (.u8, 0)) ∧
  (intElem Try.prog 22 = some .u8) ∧
  (szT Try.prog 23 = some 1) ∧
  (aggT Try.prog 23 = some false) ∧
  (kindT Try.prog 23 = .int .i64) ∧
  (zeroT Try.prog 23 = some [.v (.int .i64 0)]) ∧
  (szT Try.prog 29 = some 1) ∧
  (aggT Try.prog 29 = some false) ∧
  (kindT Try.prog 29 = .int .u64) ∧
  (zeroT Try.prog 29 = some [.v (.int .u64 0)]) ∧
  (szT Try.prog 30 = some 8) ∧
  (aggT Try.prog 30 = some true) ∧
  (kindT Try.prog 30 = .array) ∧
  (zeroT Try.prog 30 = some [.arr 8 .u64 (List.replicate 8 0)]) ∧
  (intsT Try.prog 30 = true) ∧
  (elemT Try.prog 30 = .arr 8 1 false false) ∧
  (eqArrT Try.prog 30 = some (8, .u64)) ∧
  (sizedT Try.prog 30 = true) ∧
  (∀ i, placeA Try.prog 30 i = some (i * 1, 1, false)) ∧
  (szT Try.prog 31 = some 128) ∧
  (aggT Try.prog 31 = some true) ∧
  (kindT Try.prog 31 = .array) ∧
  (zeroT Try.prog 31 = some [.arr 128 .u8 (List.replicate 128 0)]) ∧
  (intsT Try.prog 31 = true) ∧
  (elemT Try.prog 31 = .arr 128 1 false false) ∧
  (eqArrT Try.prog 31 = some (128, .u8)) ∧
  (sizedT Try.prog 31 = true) ∧
  (∀ i, placeA Try.prog 31 i = some (i * 1, 1, false)) ∧
  (szT Try.prog 37 = some 1) ∧
  (aggT Try.prog 37 = some false) ∧
  (kindT Try.prog 37 = .slice false) ∧
  (zeroT Try.prog 37 = some [.v (.slice none 0 0)]) ∧
  (elemT Try.prog 37 = .sl 1 false false) ∧
  (elemSize Try.prog 37 = some 1) ∧
  (elemBytes Try.prog 37 = some 24) ∧
  (intElem Try.prog 37 = none) ∧
  (szT Try.prog 38 = some 1) ∧
  (aggT Try.prog 38 = some false) ∧
  (kindT Try.prog 38 = .pointer) ∧
  (zeroT Try.prog 38 = some [.v (.pointer none)]) ∧
  (szT Try.prog 49 = some 1) ∧
  (aggT Try.prog 49 = some false) ∧
  (kindT Try.prog 49 = .int .u32) ∧
  (zeroT Try.prog 49 = some [.v (.int .u32 0)]) ∧
  (szT Try.prog 52 = some 128) ∧
  (aggT Try.prog 52 = some true) ∧
  (kindT Try.prog 52 = .array) ∧
  (zeroT Try.prog 52 = some [.arr 128 .u64 (List.replicate 128 0)]) ∧
  (intsT Try.prog 52 = true) ∧
  (elemT Try.prog 52 = .arr 128 1 false false) ∧
  (eqArrT Try.prog 52 = some (128, .u64)) ∧
  (sizedT Try.prog 52 = true) ∧
  (∀ i, placeA Try.prog 52 i = some (i * 1, 1, false)) ∧
  (szT Try.prog 53 = some 128) ∧
  (aggT Try.prog 53 = some true) ∧
  (kindT Try.prog 53 = .array) ∧
  (zeroT Try.prog 53 = some [.arr 128 .u64 (List.replicate 128 0)]) ∧
  (intsT Try.prog 53 = true) ∧
  (elemT Try.prog 53 = .arr 128 1 false false) ∧
  (eqArrT Try.prog 53 = some (128, .u64)) ∧
  (sizedT Try.prog 53 = true) ∧
  (∀ i, placeA Try.prog 53 i = some (i * 1, 1, false)) ∧
  (szT Try.prog 59 = some 1) ∧
  (aggT Try.prog 59 = some false) ∧
  (kindT Try.prog 59 = .int .u64) ∧
  (zeroT Try.prog 59 = some [.v (.int .u64 0)]) ∧
  (szT Try.prog 60 = some 16) ∧
  (aggT Try.prog 60 = some true) ∧
  (kindT Try.prog 60 = .array) ∧
  (zeroT Try.prog 60 = some [.arr 16 .u64 (List.replicate 16 0)]) ∧
  (intsT Try.prog 60 = true) ∧
  (elemT Try.prog 60 = .arr 16 1 false false) ∧
  (eqArrT Try.prog 60 = some (16, .u64)) ∧
  (sizedT Try.prog 60 = true) ∧
  (∀ i, placeA Try.prog 60 i = some (i * 1, 1, false)) ∧
  (szT Try.prog 65 = some 3) ∧
  (aggT Try.prog 65 = some true) ∧
  (kindT Try.prog 65 = .struct) ∧
  (zeroT Try.prog 65 = some [.v (.int .i64 0), .v (.int .i64 0), .v (.int .i64 0)]) ∧
  (sizedT Try.prog 65 = true) ∧
  (intsT Try.prog 65 = false) ∧
  (placeA Try.prog 65 0 = some (0, 1, false)) ∧
  (fieldT Try.prog 65 0 = some (0, 1, false, false)) ∧
  (placeA Try.prog 65 1 = some (1, 1, false)) ∧
  (fieldT Try.prog 65 1 = some (1, 1, false, false)) ∧
  (placeA Try.prog 65 2 = some (2, 1, false)) ∧
  (fieldT Try.prog 65 2 = some (2, 1, false, false)) ∧
  (szT Try.prog 66 = some 3) ∧
  (aggT Try.prog 66 = some true) ∧
  (kindT Try.prog 66 = .struct) ∧
  (zeroT Try.prog 66 = some [.v (.int .i64 0), .v (.int .i64 0), .v (.int .i64 0)]) ∧
  (sizedT Try.prog 66 = true) ∧
  (intsT Try.prog 66 = false) ∧
  (placeA Try.prog 66 0 = some (0, 1, false)) ∧
  (fieldT Try.prog 66 0 = some (0, 1, false, false)) ∧
  (placeA Try.prog 66 1 = some (1, 1, false)) ∧
  (fieldT Try.prog 66 1 = some (1, 1, false, false)) ∧
  (placeA Try.prog 66 2 = some (2, 1, false)) ∧
  (fieldT Try.prog 66 2 = some (2, 1, false, false)) ∧
  (szT Try.prog 67 = some 4) ∧
  (aggT Try.prog 67 = some true) ∧
  (kindT Try.prog 67 = .struct) ∧
  (zeroT Try.prog 67 = some [.v (.slice none 0 0), .v (.slice none 0 0), .v (.slice none 0 0), .v (.slice none 0 0)]) ∧
  (sizedT Try.prog 67 = true) ∧
  (intsT Try.prog 67 = false) ∧
  (placeA Try.prog 67 0 = some (0, 1, false)) ∧
  (fieldT Try.prog 67 0 = some (0, 1, false, false)) ∧
  (placeA Try.prog 67 1 = some (1, 1, false)) ∧
  (fieldT Try.prog 67 1 = some (1, 1, false, false)) ∧
  (placeA Try.prog 67 2 = some (2, 1, false)) ∧
  (fieldT Try.prog 67 2 = some (2, 1, false, false)) ∧
  (placeA Try.prog 67 3 = some (3, 1, false)) ∧
  (fieldT Try.prog 67 3 = some (3, 1, false, false)) ∧
  (szT Try.prog 68 = some 4) ∧
  (aggT Try.prog 68 = some true) ∧
  (kindT Try.prog 68 = .struct) ∧
  (zeroT Try.prog 68 = some [.v (.slice none 0 0), .v (.slice none 0 0), .v (.slice none 0 0), .v (.slice none 0 0)]) ∧
  (sizedT Try.prog 68 = true) ∧
  (intsT Try.prog 68 = false) ∧
  (placeA Try.prog 68 0 = some (0, 1, false)) ∧
  (fieldT Try.prog 68 0 = some (0, 1, false, false)) ∧
  (placeA Try.prog 68 1 = some (1, 1, false)) ∧
  (fieldT Try.prog 68 1 = some (1, 1, false, false)) ∧
  (placeA Try.prog 68 2 = some (2, 1, false)) ∧
  (fieldT Try.prog 68 2 = some (2, 1, false, false)) ∧
  (placeA Try.prog 68 3 = some (3, 1, false)) ∧
  (fieldT Try.prog 68 3 = some (3, 1, false, false)) ∧
  (szT Try.prog 74 = some 16) ∧
  (aggT Try.prog 74 = some true) ∧
  (kindT Try.prog 74 = .array) ∧
  (zeroT Try.prog 74 = some [.arr 16 .u64 (List.replicate 16 0)]) ∧
  (intsT Try.prog 74 = true) ∧
  (elemT Try.prog 74 = .arr 16 1 false false) ∧
  (eqArrT Try.prog 74 = some (16, .u64)) ∧
  (sizedT Try.prog 74 = true) ∧
  (∀ i, placeA Try.prog 74 i = some (i * 1, 1, false)) ∧
  (szT Try.prog 75 = some 1) ∧
  (aggT Try.prog 75 = some false) ∧
  (kindT Try.prog 75 = .slice false) ∧
  (zeroT Try.prog 75 = some [.v (.slice none 0 0)]) ∧
  (elemT Try.prog 75 = .sl 1 false false) ∧
  (elemSize Try.prog 75 = some 1) ∧
  (elemBytes Try.prog 75 = some 8) ∧
  (elemZ Try.prog 75 = some (.u64, 0)) ∧
  (intElem Try.prog 75 = some .u64) ∧
  (szT Try.prog 80 = some 11) ∧
  (aggT Try.prog 80 = some true) ∧
  (kindT Try.prog 80 = .struct) ∧
  (zeroT Try.prog 80 = some [.arr 8 .u64 (List.replicate 8 0), .v (.int .i64 0), .v (.slice none 0 0), .v (.int .u64 0)]) ∧
  (sizedT Try.prog 80 = true) ∧
  (intsT Try.prog 80 = false) ∧
  (placeA Try.prog 80 0 = some (0, 8, true)) ∧
  (fieldT Try.prog 80 0 = some (0, 8, true, true)) ∧
  (placeA Try.prog 80 1 = some (8, 1, false)) ∧
  (fieldT Try.prog 80 1 = some (8, 1, false, false)) ∧
  (placeA Try.prog 80 2 = some (9, 1, false)) ∧
  (fieldT Try.prog 80 2 = some (9, 1, false, false)) ∧
  (placeA Try.prog 80 3 = some (10, 1, false)) ∧
  (fieldT Try.prog 80 3 = some (10, 1, false, false)) ∧
  (szT Try.prog 81 = some 11) ∧
  (aggT Try.prog 81 = some true) ∧
  (kindT Try.prog 81 = .struct) ∧
  (zeroT Try.prog 81 = some [.arr 8 .u64 (List.replicate 8 0), .v (.int .i64 0), .v (.slice none 0 0), .v (.int .u64 0)]) ∧
  (sizedT Try.prog 81 = true) ∧
  (intsT Try.prog 81 = false) ∧
  (placeA Try.prog 81 0 = some (0, 8, true)) ∧
  (fieldT Try.prog 81 0 = some (0, 8, true, true)) ∧
  (placeA Try.prog 81 1 = some (8, 1, false)) ∧
  (fieldT Try.prog 81 1 = some (8, 1, false, false)) ∧
  (placeA Try.prog 81 2 = some (9, 1, false)) ∧
  (fieldT Try.prog 81 2 = some (9, 1, false, false)) ∧
  (placeA Try.prog 81 3 = some (10, 1, false)) ∧
  (fieldT Try.prog 81 3 = some (10, 1, false, false)) ∧
  (szT Try.prog 87 = some 1) ∧
  (aggT Try.prog 87 = some false) ∧
  (kindT Try.prog 87 = .pointer) ∧
  (zeroT Try.prog 87 = some [.v (.pointer none)]) ∧
  (szT Try.prog 88 = some 16) ∧
  (aggT Try.prog 88 = some true) ∧
  (kindT Try.prog 88 = .array) ∧
  (zeroT Try.prog 88 = some [.v (.pointer none), .v (.pointer none), .v (.pointer none), .v (.pointer none), .v (.pointer none), .v (.pointer none), .v (.pointer none), .v (.pointer none), .v (.pointer none), .v (.pointer none), .v (.pointer none), .v (.pointer none), .v (.pointer none), .v (.pointer none), .v (.pointer none), .v (.pointer none)]) ∧
  (intsT Try.prog 88 = false) ∧
  (elemT Try.prog 88 = .arr 16 1 false false) ∧
  (sizedT Try.prog 88 = true) ∧
  (∀ i, placeA Try.prog 88 i = some (i * 1, 1, false)) ∧
  (szT Try.prog 90 = some 1) ∧
  (aggT Try.prog 90 = some false) ∧
  (kindT Try.prog 90 = .pointer) ∧
  (zeroT Try.prog 90 = some [.v (.pointer none)]) ∧
  (elemT Try.prog 90 = .parr 16 1) ∧
  (szT Try.prog 92 = some 1) ∧
  (aggT Try.prog 92 = some false) ∧
  (kindT Try.prog 92 = .pointer) ∧
  (zeroT Try.prog 92 = some [.v (.pointer none)]) ∧
  (szT Try.prog 95 = some 4) ∧
  (aggT Try.prog 95 = some true) ∧
  (kindT Try.prog 95 = .struct) ∧
  (zeroT Try.prog 95 = some [.v (.int .i64 0), .v (.int .i64 0), .v (.int .i64 0), .v (.int .i64 0)]) ∧
  (sizedT Try.prog 95 = true) ∧
  (intsT Try.prog 95 = false) ∧
  (placeA Try.prog 95 0 = some (0, 1, false)) ∧
  (fieldT Try.prog 95 0 = some (0, 1, false, false)) ∧
  (placeA Try.prog 95 1 = some (1, 1, false)) ∧
  (fieldT Try.prog 95 1 = some (1, 1, false, false)) ∧
  (placeA Try.prog 95 2 = some (2, 1, false)) ∧
  (fieldT Try.prog 95 2 = some (2, 1, false, false)) ∧
  (placeA Try.prog 95 3 = some (3, 1, false)) ∧
  (fieldT Try.prog 95 3 = some (3, 1, false, false)) ∧
  (szT Try.prog 96 = some 4) ∧
  (aggT Try.prog 96 = some true) ∧
  (kindT Try.prog 96 = .struct) ∧
  (zeroT Try.prog 96 = some [.v (.int .i64 0), .v (.int .i64 0), .v (.int .i64 0), .v (.int .i64 0)]) ∧
  (sizedT Try.prog 96 = true) ∧
  (intsT Try.prog 96 = false) ∧
  (placeA Try.prog 96 0 = some (0, 1, false)) ∧
  (fieldT Try.prog 96 0 = some (0, 1, false, false)) ∧
  (placeA Try.prog 96 1 = some (1, 1, false)) ∧
  (fieldT Try.prog 96 1 = some (1, 1, false, false)) ∧
  (placeA Try.prog 96 2 = some (2, 1, false)) ∧
  (fieldT Try.prog 96 2 = some (2, 1, false, false)) ∧
  (placeA Try.prog 96 3 = some (3, 1, false)) ∧
  (fieldT Try.prog 96 3 = some (3, 1, false, false)) ∧
  (szT Try.prog 97 = some 1) ∧
  (aggT Try.prog 97 = some false) ∧
  (kindT Try.prog 97 = .slice false) ∧
  (zeroT Try.prog 97 = some [.v (.slice none 0 0)]) ∧
  (elemT Try.prog 97 = .sl 1 false false) ∧
  (elemSize Try.prog 97 = some 1) ∧
  (elemBytes Try.prog 97 = some 24) ∧
  (intElem Try.prog 97 = none) ∧
  (szT Try.prog 98 = some 5) ∧
  (aggT Try.prog 98 = some true) ∧
  (kindT Try.prog 98 = .struct) ∧
  (zeroT Try.prog 98 = some [.v (.int .i64 0), .v (.int .i64 0), .v (.int .i64 0), .v (.slice none 0 0), .v (.int .i64 0)]) ∧
  (sizedT Try.prog 98 = true) ∧
  (intsT Try.prog 98 = false) ∧
  (placeA Try.prog 98 0 = some (0, 3, true)) ∧
  (fieldT Try.prog 98 0 = some (0, 3, true, false)) ∧
  (placeA Try.prog 98 1 = some (3, 1, false)) ∧
  (fieldT Try.prog 98 1 = some (3, 1, false, false)) ∧
  (placeA Try.prog 98 2 = some (4, 1, false)) ∧
  (fieldT Try.prog 98 2 = some (4, 1, false, false)) ∧
  (szT Try.prog 99 = some 5) ∧
  (aggT Try.prog 99 = some true) ∧
  (kindT Try.prog 99 = .struct) ∧
  (zeroT Try.prog 99 = some [.v (.int .i64 0), .v (.int .i64 0), .v (.int .i64 0), .v (.slice none 0 0), .v (.int .i64 0)]) ∧
  (sizedT Try.prog 99 = true) ∧
  (intsT Try.prog 99 = false) ∧
  (placeA Try.prog 99 0 = some (0, 3, true)) ∧
  (fieldT Try.prog 99 0 = some (0, 3, true, false)) ∧
  (placeA Try.prog 99 1 = some (3, 1, false)) ∧
  (fieldT Try.prog 99 1 = some (3, 1, false, false)) ∧
  (placeA Try.prog 99 2 = some (4, 1, false)) ∧
  (fieldT Try.prog 99 2 = some (4, 1, false, false)) ∧
  (szT Try.prog 100 = some 1) ∧
  (aggT Try.prog 100 = some false) ∧
  (kindT Try.prog 100 = .slice false) ∧
  (zeroT Try.prog 100 = some [.v (.slice none 0 0)]) ∧
  (elemT Try.prog 100 = .sl 128 true true) ∧
  (elemSize Try.prog 100 = some 128) ∧
  (elemBytes Try.prog 100 = some 1024) ∧
  (intElem Try.prog 100 = none) ∧
  (szT Try.prog 101 = some 1) ∧
  (aggT Try.prog 101 = some false) ∧
  (kindT Try.prog 101 = .pointer) ∧
  (zeroT Try.prog 101 = some [.v (.pointer none)]) ∧
  (szT Try.prog 102 = some 9) ∧
  (aggT Try.prog 102 = some true) ∧
  (kindT Try.prog 102 = .struct) ∧
  (zeroT Try.prog 102 = some [.v (.int .i64 0), .v (.int .i64 0), .v (.int .i64 0), .v (.int .i64 0), .v (.slice none 0 0), .v (.int .i64 0), .v (.int .i64 0), .v (.int .i64 0), .v (.int .i64 0)]) ∧
  (sizedT Try.prog 102 = true) ∧
  (intsT Try.prog 102 = false) ∧
  (placeA Try.prog 102 0 = some (0, 3, true)) ∧
  (fieldT Try.prog 102 0 = some (0, 3, true, false)) ∧
  (placeA Try.prog 102 1 = some (3, 1, false)) ∧
  (fieldT Try.prog 102 1 = some (3, 1, false, false)) ∧
  (placeA Try.prog 102 2 = some (4, 1, false)) ∧
  (fieldT Try.prog 102 2 = some (4, 1, false, false)) ∧
  (placeA Try.prog 102 3 = some (5, 1, false)) ∧
  (fieldT Try.prog 102 3 = some (5, 1, false, false)) ∧
  (placeA Try.prog 102 4 = some (6, 1, false)) ∧
  (fieldT Try.prog 102 4 = some (6, 1, false, false)) ∧
  (placeA Try.prog 102 5 = some (7, 1, false)) ∧
  (fieldT Try.prog 102 5 = some (7, 1, false, false)) ∧
  (placeA Try.prog 102 6 = some (8, 1, false)) ∧
  (fieldT Try.prog 102 6 = some (8, 1, false, false)) ∧
  (szT Try.prog 103 = some 9) ∧
  (aggT Try.prog 103 = some true) ∧
  (kindT Try.prog 103 = .struct) ∧
  (zeroT Try.prog 103 = some [.v (.int .i64 0), .v (.int .i64 0), .v (.int .i64 0), .v (.int .i64 0), .v (.slice none 0 0), .v (.int .i64 0), .v (.int .i64 0), .v (.int .i64 0), .v (.int .i64 0)]) ∧
  (sizedT Try.prog 103 = true) ∧
  (intsT Try.prog 103 = false) ∧
  (placeA Try.prog 103 0 = some (0, 3, true)) ∧
  (fieldT Try.prog 103 0 = some (0, 3, true, false)) ∧
  (placeA Try.prog 103 1 = some (3, 1, false)) ∧
  (fieldT Try.prog 103 1 = some (3, 1, false, false)) ∧
  (placeA Try.prog 103 2 = some (4, 1, false)) ∧
  (fieldT Try.prog 103 2 = some (4, 1, false, false)) ∧
  (placeA Try.prog 103 3 = some (5, 1, false)) ∧
  (fieldT Try.prog 103 3 = some (5, 1, false, false)) ∧
  (placeA Try.prog 103 4 = some (6, 1, false)) ∧
  (fieldT Try.prog 103 4 = some (6, 1, false, false)) ∧
  (placeA Try.prog 103 5 = some (7, 1, false)) ∧
  (fieldT Try.prog 103 5 = some (7, 1, false, false)) ∧
  (placeA Try.prog 103 6 = some (8, 1, false)) ∧
  (fieldT Try.prog 103 6 = some (8, 1, false, false)) ∧
  (szT Try.prog 106 = some 6) ∧
  (aggT Try.prog 106 = some true) ∧
  (kindT Try.prog 106 = .array) ∧
  (zeroT Try.prog 106 = some [.arr 6 .i64 (List.replicate 6 0)]) ∧
  (intsT Try.prog 106 = true) ∧
  (elemT Try.prog 106 = .arr 6 1 false false) ∧
  (eqArrT Try.prog 106 = some (6, .i64)) ∧
  (sizedT Try.prog 106 = true) ∧
  (∀ i, placeA Try.prog 106 i = some (i * 1, 1, false)) ∧
  (szT Try.prog 107 = some 4) ∧
  (aggT Try.prog 107 = some true) ∧
  (kindT Try.prog 107 = .array) ∧
  (zeroT Try.prog 107 = some [.v (.slice none 0 0), .v (.slice none 0 0), .v (.slice none 0 0), .v (.slice none 0 0)]) ∧
  (intsT Try.prog 107 = false) ∧
  (elemT Try.prog 107 = .arr 4 1 false false) ∧
  (sizedT Try.prog 107 = true) ∧
  (∀ i, placeA Try.prog 107 i = some (i * 1, 1, false)) ∧
  (szT Try.prog 108 = some 1) ∧
  (aggT Try.prog 108 = some false) ∧
  (kindT Try.prog 108 = .slice false) ∧
  (zeroT Try.prog 108 = some [.v (.slice none 0 0)]) ∧
  (elemT Try.prog 108 = .sl 1 false false) ∧
  (elemSize Try.prog 108 = some 1) ∧
  (elemBytes Try.prog 108 = some 8) ∧
  (elemZ Try.prog 108 = some (.i64, 0)) ∧
  (intElem Try.prog 108 = some .i64) ∧
  (szT Try.prog 109 = some 1) ∧
  (aggT Try.prog 109 = some false) ∧
  (kindT Try.prog 109 = .pointer) ∧
  (zeroT Try.prog 109 = some [.v (.pointer none)]) ∧
  (elemT Try.prog 109 = .parr 16 1) ∧
  (∀ c, elemZero Try.prog 22 c = some [.arr c .u8 (List.replicate c 0)]) ∧
  (∀ c, elemZero Try.prog 37 c = some [.lst 1 (List.replicate c (.v (.slice none 0 0)))]) ∧
  (∀ c, elemZero Try.prog 75 c = some [.arr c .u64 (List.replicate c 0)]) ∧
  (∀ c, elemZero Try.prog 97 c = some [.lst 1 (List.replicate c (.v (.slice none 0 0)))]) ∧
  (∀ c, elemZero Try.prog 100 c = some [.arr (c * 128) .u64 (List.replicate c (List.replicate 128 0)).flatten]) ∧
  (∀ c, elemZero Try.prog 108 c = some [.arr c .i64 (List.replicate c 0)]) :=
  ⟨tb0, tb1, tb2, tb3, tb4, tb5, tb6, tb7, tb8, tb9, tb10, tb11, tb12, tb13, tb14, tb15, tb16, tb17, tb18, tb19, tb20, tb21, tb22, tb23, tb24, tb25, tb26, tb27, tb28, tb29, tb30, tb31, tb32, tb33, tb34, tb35, tb36, tb37, tb38, tb39, tb40, tb41, tb42, tb43, tb44, tb45, tb46, tb47, tb48, tb49, tb50, tb51, tb52, tb53, tb54, tb55, tb56, tb57, tb58, tb59, tb60, tb61, tb62, tb63, tb64, tb65, tb66, tb67, tb68, tb69, tb70, tb71, tb72, tb73, tb74, tb75, tb76, tb77, tb78, tb79, tb80, tb81, tb82, tb83, tb84, tb85, tb86, tb87, tb88, tb89, tb90, tb91, tb92, tb93, tb94, tb95, tb96, tb97, tb98, tb99, tb100, tb101, tb102, tb103, tb104, tb105, tb106, tb107, tb108, tb109, tb110, tb111, tb112, tb113, tb114, tb115, tb116, tb117, tb118, tb119, tb120, tb121, tb122, tb123, tb124, tb125, tb126, tb127, tb128, tb129, tb130, tb131, tb132, tb133, tb134, tb135, tb136, tb137, tb138, tb139, tb140, tb141, tb142, tb143, tb144, tb145, tb146, tb147, tb148, tb149, tb150, tb151, tb152, tb153, tb154, tb155, tb156, tb157, tb158, tb159, tb160, tb161, tb162, tb163, tb164, tb165, tb166, tb167, tb168, tb169, tb170, tb171, tb172, tb173, tb174, tb175, tb176, tb177, tb178, tb179, tb180, tb181, tb182, tb183, tb184, tb185, tb186, tb187, tb188, tb189, tb190, tb191, tb192, tb193, tb194, tb195, tb196, tb197, tb198, tb199, tb200, tb201, tb202, tb203, tb204, tb205, tb206, tb207, tb208, tb209, tb210, tb211, tb212, tb213, tb214, tb215, tb216, tb217, tb218, tb219, tb220, tb221, tb222, tb223, tb224, tb225, tb226, tb227, tb228, tb229, tb230, tb231, tb232, tb233, tb234, tb235, tb236, tb237, tb238, tb239, tb240, tb241, tb242, tb243, tb244, tb245, tb246, tb247, tb248, tb249, tb250, tb251, tb252, tb253, tb254, tb255, tb256, tb257, tb258, tb259, tb260, tb261, tb262, tb263, tb264, tb265, tb266, tb267, tb268, tb269, tb270, tb271, tb272, tb273, tb274, tb275, tb276, tb277, tb278, tb279, tb280, tb281, tb282, tb283, tb284, tb285, tb286, tb287, tb288, tb289, tb290, tb291, tb292, tb293, tb294, tb295, tb296, tb297, tb298, tb299, tb300, tb301, tb302, tb303, tb304, tb305, tb306, tb307, tb308, tb309, tb310, tb311, tb312, tb313, tb314, tb315, tb316, tb317, tb318, tb319, tb320, tb321, tb322, tb323, tb324, tb325, tb326, tb327, tb328, tb329, tb330, tb331, tb332, tb333, tb334, tb335, tb336, tb337, tb338, tb339, tb340, tb341, tb342, tb343, tb344, tb345, tb346, tb347, tb348, tb349, tb350, tb351, tb352, tb353, tb354, tb355, tb356, tb357, tb358, tb359, tb360, tz22, tz37, tz75, tz97, tz100, tz108⟩
end Go.Proofs.Ytfnfmbikooeiaaa

namespace Go.Proofs.Ytfnfmbikooeiaaa
open Go.Ax
set_option linter.unusedSimpArgs false
set_option linter.unusedVariables false
set_option maxHeartbeats 4000000
set_option maxRecDepth 100000
noncomputable def c0 (k : Nat) : Cfg := ⟨Try.prog, k, fun _ => none, [], fun _ => none⟩
theorem c0_odd (k : Nat) : (c0 k).odd = [] := rfl
theorem c0_P (k : Nat) : (c0 k).P = Try.prog := rfl
theorem good0 (k : Nat) : (c0 k).Good := ⟨by kernel_rfl, fun f F args v h => by simp [c0] at h, fun f N h args out hN => by simp [c0] at hN⟩

theorem rot_spec (x n : Int) : ACall Try.prog 80 [.v (.int .u64 x), .v (.int .i64 n)] [] fun v _ => v = .v (.int .u64 (rotL x n)) := by
  refine acall_run (good0 0) Try.func80 rfl ⟨by kernel_rfl, by show 2 ≤ _; decide, by kernel_rfl, by kernel_rfl⟩ rfl ?_
  have hr : Try.f80.results.toList = [.tmp 4] := rfl
  simp only [c0_P, c0_odd, v_eqR_int, v_eqR_bool, v_eqR_string, v_eqR_pointer, v_eqR_array, v_eqR_struct, v_eqR_slice, v_convR_int, v_convR_string, v_convR_bytes, v_convR_same, v_convR_slice, v_move, v_assign, v_pick, v_load, v_nilCheck, v_add, v_sub, v_mul, v_quo, v_rem, v_and, v_or, v_xor, v_andNot, v_shl, v_shr, v_lss, v_leq, v_gtr, v_geq, v_eql, v_neq, v_un, v_conv, v_arrayAt, v_makeFunc, v_slice, v_fieldAddr, v_field, v_indexAddr, v_index, v_extract, v_build, v_len, v_min, v_max, v_call, v_alloc, v_box, v_store, v_makeSlice, v_buildSlice, v_append, v_copy, nilA_ptr, nilA_rop, nilA_fn, ixAddrA_int, ixA_int, extA_tup, calA_fn, ev_tmp, ev_const, ev_func, constAV_int, constAV_bool, constAV_string, constAV_pointer, constAV_slice, optA_none, optA_some, b_add, b_sub, b_mul, b_quo, b_rem, b_and, b_or, b_xor, b_eql, b_neq, b_lss, b_leq, b_gtr, b_geq, b_shl, b_shr, b_seq, b_sne, b_beq, b_bne, b_peq, b_pne, b_qeq, b_qne, b_aeq, b_ane, u_neg, u_xor, u_not, i_xor, v_int_conv, retK_ret, retK_normal, resList_nil, resList_tmp, packA_one, packA_nil, packA_two, holds_some, holds_none, holds_guard, s_builtin_len, s_builtin_min, s_builtin_max, opsR_cons_g, resList_cell, run_skip, run_seq, run_block, run_exit, run_ret, run_loop, run_cond, run_region, regionR_true, regionR_false, planR_done, planR_stop, planR_first, planR_fork, someR_some, cont_plan, List.contains_nil, List.contains_cons, Nat.reduceBEq, Bool.or_false, Bool.false_or, List.getElem?_toArray, cont_nil, cont_code, cont_blk, cont_ret_code, cont_ret_blk, cont_exit_code, cont_exit_blk, condR_bool, opsR_nil, opsR_cons, wantR_bool, wantR_skip, valR_some, valR_none, valR_guard, valR_ite, outR_one, outR_cap, outR_none, outR_guard, nilR_some, callA_some, callB_some, callB_none, callN_some, callN_none, guard_bind, guard_map, guard_true, guard_false, get_put, get_envOf, put_none, List.getD_cons_zero, List.getD_cons_succ, Option.map_some, Option.bind_some, Option.map_none, Option.bind_none, Option.some_or, Option.or_none, Option.none_or, List.map_cons, List.map_nil, List.append_nil, List.nil_append, List.cons_append, List.toList_toArray, Option.some.injEq, reduceIte, Nat.reduceEqDiff, reduceCtorEq, ne_eq, not_false_eq_true, not_true_eq_false, and_true, true_and, and_self, if_true, if_false, Bool.true_eq_false, Bool.false_eq_true, decide_true, decide_false, decide_eq_true_eq, tabs, hr, u64_nonneg]
  rfl
/-- math/bits.RotateLeft64 -/
def F80 : List AV → Option AV
  | [.v (.int .u64 x), .v (.int .i64 n)] => some (.v (.int .u64 (rotL x n)))
  | _ => none
theorem F80_eq (x n : Int) : F80 [.v (.int .u64 x), .v (.int .i64 n)] = some (.v (.int .u64 (rotL x n))) := rfl
noncomputable def p1 : FuncId → Option (List AV → Option AV) := addPure (fun _ => none) 80 F80
noncomputable def c1 (k : Nat) : Cfg := ⟨Try.prog, k, p1, [], fun _ => none⟩
theorem c1_odd (k : Nat) : (c1 k).odd = [] := rfl
theorem c1_P (k : Nat) : (c1 k).P = Try.prog := rfl
theorem c1_80 (k : Nat) : (c1 k).pure 80 = some F80 := rfl
theorem good1 (k : Nat) : (c1 k).Good := by
  refine Cfg.Good.add (good0 k) ?_ k
  intro args v hF h κ hκ
  unfold F80 at hF
  split at hF
  · cases hF
    exact pure_call (rot_spec _ _) (fun g => rfl) (fun g => rfl) h κ hκ
  · cases hF

theorem right_spec (x n : Int) : ACall Try.prog 70 [.v (.int .u64 x), .v (.int .i64 n)] [] fun v _ => v = .v (.int .u64 (rotL x (IntKind.i64.wrap (0 - n)))) := by
  refine acall_run (good1 0) Try.func70 rfl ⟨by kernel_rfl, by show 2 ≤ _; decide, by kernel_rfl, by kernel_rfl⟩ rfl ?_
  have hr : Try.f70.results.toList = [.tmp 4] := rfl
  simp only [c1_P, c1_odd, c1_80, F80_eq, v_eqR_int, v_eqR_bool, v_eqR_string, v_eqR_pointer, v_eqR_array, v_eqR_struct, v_eqR_slice, v_convR_int, v_convR_string, v_convR_bytes, v_convR_same, v_convR_slice, v_move, v_assign, v_pick, v_load, v_nilCheck, v_add, v_sub, v_mul, v_quo, v_rem, v_and, v_or, v_xor, v_andNot, v_shl, v_shr, v_lss, v_leq, v_gtr, v_geq, v_eql, v_neq, v_un, v_conv, v_arrayAt, v_makeFunc, v_slice, v_fieldAddr, v_field, v_indexAddr, v_index, v_extract, v_build, v_len, v_min, v_max, v_call, v_alloc, v_box, v_store, v_makeSlice, v_buildSlice, v_append, v_copy, nilA_ptr, nilA_rop, nilA_fn, ixAddrA_int, ixA_int, extA_tup, calA_fn, ev_tmp, ev_const, ev_func, constAV_int, constAV_bool, constAV_string, constAV_pointer, constAV_slice, optA_none, optA_some, b_add, b_sub, b_mul, b_quo, b_rem, b_and, b_or, b_xor, b_eql, b_neq, b_lss, b_leq, b_gtr, b_geq, b_shl, b_shr, b_seq, b_sne, b_beq, b_bne, b_peq, b_pne, b_qeq, b_qne, b_aeq, b_ane, u_neg, u_xor, u_not, i_xor, v_int_conv, retK_ret, retK_normal, resList_nil, resList_tmp, packA_one, packA_nil, packA_two, holds_some, holds_none, holds_guard, s_builtin_len, s_builtin_min, s_builtin_max, opsR_cons_g, resList_cell, run_skip, run_seq, run_block, run_exit, run_ret, run_loop, run_cond, run_region, regionR_true, regionR_false, planR_done, planR_stop, planR_first, planR_fork, someR_some, cont_plan, List.contains_nil, List.contains_cons, Nat.reduceBEq, Bool.or_false, Bool.false_or, List.getElem?_toArray, cont_nil, cont_code, cont_blk, cont_ret_code, cont_ret_blk, cont_exit_code, cont_exit_blk, condR_bool, opsR_nil, opsR_cons, wantR_bool, wantR_skip, valR_some, valR_none, valR_guard, valR_ite, outR_one, outR_cap, outR_none, outR_guard, nilR_some, callA_some, callB_some, callB_none, callN_some, callN_none, guard_bind, guard_map, guard_true, guard_false, get_put, get_envOf, put_none, List.getD_cons_zero, List.getD_cons_succ, Option.map_some, Option.bind_some, Option.map_none, Option.bind_none, Option.some_or, Option.or_none, Option.none_or, List.map_cons, List.map_nil, List.append_nil, List.nil_append, List.cons_append, List.toList_toArray, Option.some.injEq, reduceIte, Nat.reduceEqDiff, reduceCtorEq, ne_eq, not_false_eq_true, not_true_eq_false, and_true, true_and, and_self, if_true, if_false, Bool.true_eq_false, Bool.false_eq_true, decide_true, decide_false, decide_eq_true_eq, tabs, hr]
theorem turn_spec (x n : Int) (h : 0 ≤ n ∧ 0 ≤ IntKind.i64.wrap (64 - n)) : ACall Try.prog 71 [.v (.int .i64 n), .v (.int .u64 x)] [] fun v _ => v = .v (.int .u64 (rotR n x)) := by
  refine acall_run (good1 0) Try.func71 rfl ⟨by kernel_rfl, by show 2 ≤ _; decide, by kernel_rfl, by kernel_rfl⟩ rfl ?_
  have hr : Try.f71.results.toList = [.tmp 4] := rfl
  simp only [c1_P, c1_odd, v_eqR_int, v_eqR_bool, v_eqR_string, v_eqR_pointer, v_eqR_array, v_eqR_struct, v_eqR_slice, v_convR_int, v_convR_string, v_convR_bytes, v_convR_same, v_convR_slice, v_move, v_assign, v_pick, v_load, v_nilCheck, v_add, v_sub, v_mul, v_quo, v_rem, v_and, v_or, v_xor, v_andNot, v_shl, v_shr, v_lss, v_leq, v_gtr, v_geq, v_eql, v_neq, v_un, v_conv, v_arrayAt, v_makeFunc, v_slice, v_fieldAddr, v_field, v_indexAddr, v_index, v_extract, v_build, v_len, v_min, v_max, v_call, v_alloc, v_box, v_store, v_makeSlice, v_buildSlice, v_append, v_copy, nilA_ptr, nilA_rop, nilA_fn, ixAddrA_int, ixA_int, extA_tup, calA_fn, ev_tmp, ev_const, ev_func, constAV_int, constAV_bool, constAV_string, constAV_pointer, constAV_slice, optA_none, optA_some, b_add, b_sub, b_mul, b_quo, b_rem, b_and, b_or, b_xor, b_eql, b_neq, b_lss, b_leq, b_gtr, b_geq, b_shl, b_shr, b_seq, b_sne, b_beq, b_bne, b_peq, b_pne, b_qeq, b_qne, b_aeq, b_ane, u_neg, u_xor, u_not, i_xor, v_int_conv, retK_ret, retK_normal, resList_nil, resList_tmp, packA_one, packA_nil, packA_two, holds_some, holds_none, holds_guard, s_builtin_len, s_builtin_min, s_builtin_max, opsR_cons_g, resList_cell, run_skip, run_seq, run_block, run_exit, run_ret, run_loop, run_cond, run_region, regionR_true, regionR_false, planR_done, planR_stop, planR_first, planR_fork, someR_some, cont_plan, List.contains_nil, List.contains_cons, Nat.reduceBEq, Bool.or_false, Bool.false_or, List.getElem?_toArray, cont_nil, cont_code, cont_blk, cont_ret_code, cont_ret_blk, cont_exit_code, cont_exit_blk, condR_bool, opsR_nil, opsR_cons, wantR_bool, wantR_skip, valR_some, valR_none, valR_guard, valR_ite, outR_one, outR_cap, outR_none, outR_guard, nilR_some, callA_some, callB_some, callB_none, callN_some, callN_none, guard_bind, guard_map, guard_true, guard_false, get_put, get_envOf, put_none, List.getD_cons_zero, List.getD_cons_succ, Option.map_some, Option.bind_some, Option.map_none, Option.bind_none, Option.some_or, Option.or_none, Option.none_or, List.map_cons, List.map_nil, List.append_nil, List.nil_append, List.cons_append, List.toList_toArray, Option.some.injEq, reduceIte, Nat.reduceEqDiff, reduceCtorEq, ne_eq, not_false_eq_true, not_true_eq_false, and_true, true_and, and_self, if_true, if_false, Bool.true_eq_false, Bool.false_eq_true, decide_true, decide_false, decide_eq_true_eq, tabs, hr, h]
  rfl
theorem digit_spec (x : Int) : ACall Try.prog 53 [.v (.int .u8 x)] [] fun v _ => v = .v (.int .i64 (digitI x)) := by
  refine acall_run (good0 0) Try.func53 rfl ⟨by kernel_rfl, by show 1 ≤ _; decide, by kernel_rfl, by kernel_rfl⟩ rfl ?_
  have hr : Try.f53.results.toList = [.tmp 2] := rfl
  simp only [c0_P, c0_odd, v_eqR_int, v_eqR_bool, v_eqR_string, v_eqR_pointer, v_eqR_array, v_eqR_struct, v_eqR_slice, v_convR_int, v_convR_string, v_convR_bytes, v_convR_same, v_convR_slice, v_move, v_assign, v_pick, v_load, v_nilCheck, v_add, v_sub, v_mul, v_quo, v_rem, v_and, v_or, v_xor, v_andNot, v_shl, v_shr, v_lss, v_leq, v_gtr, v_geq, v_eql, v_neq, v_un, v_conv, v_arrayAt, v_makeFunc, v_slice, v_fieldAddr, v_field, v_indexAddr, v_index, v_extract, v_build, v_len, v_min, v_max, v_call, v_alloc, v_box, v_store, v_makeSlice, v_buildSlice, v_append, v_copy, nilA_ptr, nilA_rop, nilA_fn, ixAddrA_int, ixA_int, extA_tup, calA_fn, ev_tmp, ev_const, ev_func, constAV_int, constAV_bool, constAV_string, constAV_pointer, constAV_slice, optA_none, optA_some, b_add, b_sub, b_mul, b_quo, b_rem, b_and, b_or, b_xor, b_eql, b_neq, b_lss, b_leq, b_gtr, b_geq, b_shl, b_shr, b_seq, b_sne, b_beq, b_bne, b_peq, b_pne, b_qeq, b_qne, b_aeq, b_ane, u_neg, u_xor, u_not, i_xor, v_int_conv, retK_ret, retK_normal, resList_nil, resList_tmp, packA_one, packA_nil, packA_two, holds_some, holds_none, holds_guard, s_builtin_len, s_builtin_min, s_builtin_max, opsR_cons_g, resList_cell, run_skip, run_seq, run_block, run_exit, run_ret, run_loop, run_cond, run_region, regionR_true, regionR_false, planR_done, planR_stop, planR_first, planR_fork, someR_some, cont_plan, List.contains_nil, List.contains_cons, Nat.reduceBEq, Bool.or_false, Bool.false_or, List.getElem?_toArray, cont_nil, cont_code, cont_blk, cont_ret_code, cont_ret_blk, cont_exit_code, cont_exit_blk, condR_bool, opsR_nil, opsR_cons, wantR_bool, wantR_skip, valR_some, valR_none, valR_guard, valR_ite, outR_one, outR_cap, outR_none, outR_guard, nilR_some, callA_some, callB_some, callB_none, callN_some, callN_none, guard_bind, guard_map, guard_true, guard_false, get_put, get_envOf, put_none, List.getD_cons_zero, List.getD_cons_succ, Option.map_some, Option.bind_some, Option.map_none, Option.bind_none, Option.some_or, Option.or_none, Option.none_or, List.map_cons, List.map_nil, List.append_nil, List.nil_append, List.cons_append, List.toList_toArray, Option.some.injEq, reduceIte, Nat.reduceEqDiff, reduceCtorEq, ne_eq, not_false_eq_true, not_true_eq_false, and_true, true_and, and_self, if_true, if_false, Bool.true_eq_false, Bool.false_eq_true, decide_true, decide_false, decide_eq_true_eq, tabs, hr]
  unfold digitI
  split <;> rfl
theorem first_spec : ACall Try.prog 25 [] [] fun v _ => v = .arr 8 .u64 firstL := by
  refine acall_run (good0 0) Try.func25 rfl ⟨by kernel_rfl, by show 0 ≤ _; decide, by kernel_rfl, by kernel_rfl⟩ rfl ?_
  have hr : Try.f25.results.toList = [.cell 0 30] := rfl
  simp only [c0_P, c0_odd, v_eqR_int, v_eqR_bool, v_eqR_string, v_eqR_pointer, v_eqR_array, v_eqR_struct, v_eqR_slice, v_convR_int, v_convR_string, v_convR_bytes, v_convR_same, v_convR_slice, v_move, v_assign, v_pick, v_load, v_nilCheck, v_add, v_sub, v_mul, v_quo, v_rem, v_and, v_or, v_xor, v_andNot, v_shl, v_shr, v_lss, v_leq, v_gtr, v_geq, v_eql, v_neq, v_un, v_conv, v_arrayAt, v_makeFunc, v_slice, v_fieldAddr, v_field, v_indexAddr, v_index, v_extract, v_build, v_len, v_min, v_max, v_call, v_alloc, v_box, v_store, v_makeSlice, v_buildSlice, v_append, v_copy, nilA_ptr, nilA_rop, nilA_fn, ixAddrA_int, ixA_int, extA_tup, calA_fn, ev_tmp, ev_const, ev_func, constAV_int, constAV_bool, constAV_string, constAV_pointer, constAV_slice, optA_none, optA_some, b_add, b_sub, b_mul, b_quo, b_rem, b_and, b_or, b_xor, b_eql, b_neq, b_lss, b_leq, b_gtr, b_geq, b_shl, b_shr, b_seq, b_sne, b_beq, b_bne, b_peq, b_pne, b_qeq, b_qne, b_aeq, b_ane, u_neg, u_xor, u_not, i_xor, v_int_conv, retK_ret, retK_normal, resList_nil, resList_tmp, packA_one, packA_nil, packA_two, holds_some, holds_none, holds_guard, s_builtin_len, s_builtin_min, s_builtin_max, opsR_cons_g, resList_cell, run_skip, run_seq, run_block, run_exit, run_ret, run_loop, run_cond, run_region, regionR_true, regionR_false, planR_done, planR_stop, planR_first, planR_fork, someR_some, cont_plan, List.contains_nil, List.contains_cons, Nat.reduceBEq, Bool.or_false, Bool.false_or, List.getElem?_toArray, cont_nil, cont_code, cont_blk, cont_ret_code, cont_ret_blk, cont_exit_code, cont_exit_blk, condR_bool, opsR_nil, opsR_cons, wantR_bool, wantR_skip, valR_some, valR_none, valR_guard, valR_ite, outR_one, outR_cap, outR_none, outR_guard, nilR_some, callA_some, callB_some, callB_none, callN_some, callN_none, guard_bind, guard_map, guard_true, guard_false, get_put, get_envOf, put_none, List.getD_cons_zero, List.getD_cons_succ, Option.map_some, Option.bind_some, Option.map_none, Option.bind_none, Option.some_or, Option.or_none, Option.none_or, List.map_cons, List.map_nil, List.append_nil, List.nil_append, List.cons_append, List.toList_toArray, Option.some.injEq, reduceIte, Nat.reduceEqDiff, reduceCtorEq, ne_eq, not_false_eq_true, not_true_eq_false, and_true, true_and, and_self, if_true, if_false, Bool.true_eq_false, Bool.false_eq_true, decide_true, decide_false, decide_eq_true_eq, tabs, hr, List.take_length, List.drop_length, Nat.min_self, List.length_replicate, List.length_append, List.length_set, List.length_map, List.length_range, List.length_take, List.length_drop, buildA, layA, rowPut, rowOr, rowSetAt, rowSet, rowTake, rowDrop, rowCell, rowAgg, mkAgg, AV.size, AV.isAggV, AV.parts, AV.one, AV.solid, headSize, psize, envAll_nil, envAll_cons, get_envL_nil, get_envL_cons, thenK_normal, thenK_exit, thenK_ret, storeA_ptr, stK_some, stC_some, stD_cell, stD_agg, stE_some, stE_guard, loadA_ptr, loadA_rop, ldK_cell, ldK_agg, ldC_some, ldD_some, laC_some, laD_some, row_def, indexAddrA, indexA, fieldAddrA, fieldA, sliceA, boundsA, bndA, lenA, arrayAtA, rowOf, makeSliceA, intsOf, copyA, List.getElem?_cons_zero, List.getElem?_cons_succ, List.length_cons, List.length_nil, List.set_cons_zero, List.set_cons_succ, Nat.reduceAdd, Nat.reduceSub, Nat.reduceMul, Nat.reduceLeDiff, Nat.reduceLT, Nat.reduceGT, Int.reduceToNat, Int.reduceLE, Int.reduceLT, Int.reduceEq, Int.reduceNe, Int.reduceAdd, Int.reduceSub, Int.reduceMul, Nat.zero_add, Nat.add_zero, Nat.mul_one, Nat.one_mul, Nat.zero_mul, Nat.mul_zero, Nat.sub_zero, Nat.le_refl, Int.reduceNeg, ge_iff_le, gt_iff_lt, Option.isSome_none, Option.isSome_some, Bool.not_true, Bool.not_false, Bool.not_not, List.take_zero, List.drop_zero, List.tail_cons, or_true, true_or, or_false, false_or, not_true, not_false_iff, Int.ofNat_eq_natCast, Int.cast_ofNat_Int, reduceIte, ite_true, ite_false, dite_true]
  rfl
theorem rfirst_spec : ACall Try.prog 26 [] [] fun v _ => v = .arr 8 .u64 firstL := by
  refine acall_run (good0 0) Try.func26 rfl ⟨by kernel_rfl, by show 0 ≤ _; decide, by kernel_rfl, by kernel_rfl⟩ rfl ?_
  have hr : Try.f26.results.toList = [.cell 0 30] := rfl
  simp only [c0_P, c0_odd, v_eqR_int, v_eqR_bool, v_eqR_string, v_eqR_pointer, v_eqR_array, v_eqR_struct, v_eqR_slice, v_convR_int, v_convR_string, v_convR_bytes, v_convR_same, v_convR_slice, v_move, v_assign, v_pick, v_load, v_nilCheck, v_add, v_sub, v_mul, v_quo, v_rem, v_and, v_or, v_xor, v_andNot, v_shl, v_shr, v_lss, v_leq, v_gtr, v_geq, v_eql, v_neq, v_un, v_conv, v_arrayAt, v_makeFunc, v_slice, v_fieldAddr, v_field, v_indexAddr, v_index, v_extract, v_build, v_len, v_min, v_max, v_call, v_alloc, v_box, v_store, v_makeSlice, v_buildSlice, v_append, v_copy, nilA_ptr, nilA_rop, nilA_fn, ixAddrA_int, ixA_int, extA_tup, calA_fn, ev_tmp, ev_const, ev_func, constAV_int, constAV_bool, constAV_string, constAV_pointer, constAV_slice, optA_none, optA_some, b_add, b_sub, b_mul, b_quo, b_rem, b_and, b_or, b_xor, b_eql, b_neq, b_lss, b_leq, b_gtr, b_geq, b_shl, b_shr, b_seq, b_sne, b_beq, b_bne, b_peq, b_pne, b_qeq, b_qne, b_aeq, b_ane, u_neg, u_xor, u_not, i_xor, v_int_conv, retK_ret, retK_normal, resList_nil, resList_tmp, packA_one, packA_nil, packA_two, holds_some, holds_none, holds_guard, s_builtin_len, s_builtin_min, s_builtin_max, opsR_cons_g, resList_cell, run_skip, run_seq, run_block, run_exit, run_ret, run_loop, run_cond, run_region, regionR_true, regionR_false, planR_done, planR_stop, planR_first, planR_fork, someR_some, cont_plan, List.contains_nil, List.contains_cons, Nat.reduceBEq, Bool.or_false, Bool.false_or, List.getElem?_toArray, cont_nil, cont_code, cont_blk, cont_ret_code, cont_ret_blk, cont_exit_code, cont_exit_blk, condR_bool, opsR_nil, opsR_cons, wantR_bool, wantR_skip, valR_some, valR_none, valR_guard, valR_ite, outR_one, outR_cap, outR_none, outR_guard, nilR_some, callA_some, callB_some, callB_none, callN_some, callN_none, guard_bind, guard_map, guard_true, guard_false, get_put, get_envOf, put_none, List.getD_cons_zero, List.getD_cons_succ, Option.map_some, Option.bind_some, Option.map_none, Option.bind_none, Option.some_or, Option.or_none, Option.none_or, List.map_cons, List.map_nil, List.append_nil, List.nil_append, List.cons_append, List.toList_toArray, Option.some.injEq, reduceIte, Nat.reduceEqDiff, reduceCtorEq, ne_eq, not_false_eq_true, not_true_eq_false, and_true, true_and, and_self, if_true, if_false, Bool.true_eq_false, Bool.false_eq_true, decide_true, decide_false, decide_eq_true_eq, tabs, hr, List.take_length, List.drop_length, Nat.min_self, List.length_replicate, List.length_append, List.length_set, List.length_map, List.length_range, List.length_take, List.length_drop, buildA, layA, rowPut, rowOr, rowSetAt, rowSet, rowTake, rowDrop, rowCell, rowAgg, mkAgg, AV.size, AV.isAggV, AV.parts, AV.one, AV.solid, headSize, psize, envAll_nil, envAll_cons, get_envL_nil, get_envL_cons, thenK_normal, thenK_exit, thenK_ret, storeA_ptr, stK_some, stC_some, stD_cell, stD_agg, stE_some, stE_guard, loadA_ptr, loadA_rop, ldK_cell, ldK_agg, ldC_some, ldD_some, laC_some, laD_some, row_def, indexAddrA, indexA, fieldAddrA, fieldA, sliceA, boundsA, bndA, lenA, arrayAtA, rowOf, makeSliceA, intsOf, copyA, List.getElem?_cons_zero, List.getElem?_cons_succ, List.length_cons, List.length_nil, List.set_cons_zero, List.set_cons_succ, Nat.reduceAdd, Nat.reduceSub, Nat.reduceMul, Nat.reduceLeDiff, Nat.reduceLT, Nat.reduceGT, Int.reduceToNat, Int.reduceLE, Int.reduceLT, Int.reduceEq, Int.reduceNe, Int.reduceAdd, Int.reduceSub, Int.reduceMul, Nat.zero_add, Nat.add_zero, Nat.mul_one, Nat.one_mul, Nat.zero_mul, Nat.mul_zero, Nat.sub_zero, Nat.le_refl, Int.reduceNeg, ge_iff_le, gt_iff_lt, Option.isSome_none, Option.isSome_some, Bool.not_true, Bool.not_false, Bool.not_not, List.take_zero, List.drop_zero, List.tail_cons, or_true, true_or, or_false, false_or, not_true, not_false_iff, Int.ofNat_eq_natCast, Int.cast_ofNat_Int, reduceIte, ite_true, ite_false, dite_true]
  rfl
theorem order_spec (r k : Nat) (h1 : r < 10) (h2 : k < 16) :
    ACall Try.prog 55 [.v (.int .i64 r), .v (.int .i64 k)] [] fun v _ => v = .v (.int .i64 (sigma.getD (16 * r + k) 0 : Nat)) := by
  refine acall_run (good0 0) Try.func55 rfl ⟨by kernel_rfl, by show 2 ≤ _; decide, by kernel_rfl, by kernel_rfl⟩ rfl ?_
  have hr : Try.f55.results.toList = [.tmp 4] := rfl
  have hw : IntKind.i64.wrap (IntKind.i64.wrap (16 * (r : Int)) + (k : Int)) = ((16 * r + k : Nat) : Int) := by
    rw [i64_id (16 * (r : Int)) (by omega), i64_id _ (by omega)]; omega
  simp only [c0_P, c0_odd, v_eqR_int, v_eqR_bool, v_eqR_string, v_eqR_pointer, v_eqR_array, v_eqR_struct, v_eqR_slice, v_convR_int, v_convR_string, v_convR_bytes, v_convR_same, v_convR_slice, v_move, v_assign, v_pick, v_load, v_nilCheck, v_add, v_sub, v_mul, v_quo, v_rem, v_and, v_or, v_xor, v_andNot, v_shl, v_shr, v_lss, v_leq, v_gtr, v_geq, v_eql, v_neq, v_un, v_conv, v_arrayAt, v_makeFunc, v_slice, v_fieldAddr, v_field, v_indexAddr, v_index, v_extract, v_build, v_len, v_min, v_max, v_call, v_alloc, v_box, v_store, v_makeSlice, v_buildSlice, v_append, v_copy, nilA_ptr, nilA_rop, nilA_fn, ixAddrA_int, ixA_int, extA_tup, calA_fn, ev_tmp, ev_const, ev_func, constAV_int, constAV_bool, constAV_string, constAV_pointer, constAV_slice, optA_none, optA_some, b_add, b_sub, b_mul, b_quo, b_rem, b_and, b_or, b_xor, b_eql, b_neq, b_lss, b_leq, b_gtr, b_geq, b_shl, b_shr, b_seq, b_sne, b_beq, b_bne, b_peq, b_pne, b_qeq, b_qne, b_aeq, b_ane, u_neg, u_xor, u_not, i_xor, v_int_conv, retK_ret, retK_normal, resList_nil, resList_tmp, packA_one, packA_nil, packA_two, holds_some, holds_none, holds_guard, s_builtin_len, s_builtin_min, s_builtin_max, opsR_cons_g, resList_cell, run_skip, run_seq, run_block, run_exit, run_ret, run_loop, run_cond, run_region, regionR_true, regionR_false, planR_done, planR_stop, planR_first, planR_fork, someR_some, cont_plan, List.contains_nil, List.contains_cons, Nat.reduceBEq, Bool.or_false, Bool.false_or, List.getElem?_toArray, cont_nil, cont_code, cont_blk, cont_ret_code, cont_ret_blk, cont_exit_code, cont_exit_blk, condR_bool, opsR_nil, opsR_cons, wantR_bool, wantR_skip, valR_some, valR_none, valR_guard, valR_ite, outR_one, outR_cap, outR_none, outR_guard, nilR_some, callA_some, callB_some, callB_none, callN_some, callN_none, guard_bind, guard_map, guard_true, guard_false, get_put, get_envOf, put_none, List.getD_cons_zero, List.getD_cons_succ, Option.map_some, Option.bind_some, Option.map_none, Option.bind_none, Option.some_or, Option.or_none, Option.none_or, List.map_cons, List.map_nil, List.append_nil, List.nil_append, List.cons_append, List.toList_toArray, Option.some.injEq, reduceIte, Nat.reduceEqDiff, reduceCtorEq, ne_eq, not_false_eq_true, not_true_eq_false, and_true, true_and, and_self, if_true, if_false, Bool.true_eq_false, Bool.false_eq_true, decide_true, decide_false, decide_eq_true_eq, tabs, hr, List.take_length, List.drop_length, Nat.min_self, List.length_replicate, List.length_append, List.length_set, List.length_map, List.length_range, List.length_take, List.length_drop, buildA, layA, rowPut, rowOr, rowSetAt, rowSet, rowTake, rowDrop, rowCell, rowAgg, mkAgg, AV.size, AV.isAggV, AV.parts, AV.one, AV.solid, headSize, psize, envAll_nil, envAll_cons, get_envL_nil, get_envL_cons, thenK_normal, thenK_exit, thenK_ret, storeA_ptr, stK_some, stC_some, stD_cell, stD_agg, stE_some, stE_guard, loadA_ptr, loadA_rop, ldK_cell, ldK_agg, ldC_some, ldD_some, laC_some, laD_some, row_def, indexAddrA, indexA, fieldAddrA, fieldA, sliceA, boundsA, bndA, lenA, arrayAtA, rowOf, makeSliceA, intsOf, copyA, List.getElem?_cons_zero, List.getElem?_cons_succ, List.length_cons, List.length_nil, List.set_cons_zero, List.set_cons_succ, Nat.reduceAdd, Nat.reduceSub, Nat.reduceMul, Nat.reduceLeDiff, Nat.reduceLT, Nat.reduceGT, Int.reduceToNat, Int.reduceLE, Int.reduceLT, Int.reduceEq, Int.reduceNe, Int.reduceAdd, Int.reduceSub, Int.reduceMul, Nat.zero_add, Nat.add_zero, Nat.mul_one, Nat.one_mul, Nat.zero_mul, Nat.mul_zero, Nat.sub_zero, Nat.le_refl, Int.reduceNeg, ge_iff_le, gt_iff_lt, Option.isSome_none, Option.isSome_some, Bool.not_true, Bool.not_false, Bool.not_not, List.take_zero, List.drop_zero, List.tail_cons, or_true, true_or, or_false, false_or, not_true, not_false_iff, Int.ofNat_eq_natCast, Int.cast_ofNat_Int, reduceIte, ite_true, ite_false, dite_true, hw, Int.toNat_natCast, AV.v.injEq, Value.int.injEq]
  obtain ⟨i, hi⟩ : ∃ i : Fin 160, i.val = 16 * r + k := ⟨⟨16 * r + k, by omega⟩, rfl⟩
  rw [← hi]
  clear hi hw h1 h2
  revert i
  decide
/-- digit, right, turn, First -/
def F70 : List AV → Option AV
  | [.v (.int .u64 x), .v (.int .i64 n)] => some (.v (.int .u64 (rotL x (IntKind.i64.wrap (0 - n)))))
  | _ => none
theorem F70_eq (x n : Int) : F70 [.v (.int .u64 x), .v (.int .i64 n)] = some (.v (.int .u64 (rotL x (IntKind.i64.wrap (0 - n))))) := rfl
def F71 : List AV → Option AV
  | [.v (.int .i64 n), .v (.int .u64 x)] => oguard (0 ≤ n ∧ 0 ≤ IntKind.i64.wrap (64 - n)) (some (.v (.int .u64 (rotR n x))))
  | _ => none
theorem F71_32 (x : Int) : F71 [.v (.int .i64 32), .v (.int .u64 x)] = some (.v (.int .u64 (rotR 32 x))) := rfl
theorem F71_24 (x : Int) : F71 [.v (.int .i64 24), .v (.int .u64 x)] = some (.v (.int .u64 (rotR 24 x))) := rfl
theorem F71_16 (x : Int) : F71 [.v (.int .i64 16), .v (.int .u64 x)] = some (.v (.int .u64 (rotR 16 x))) := rfl
theorem F71_63 (x : Int) : F71 [.v (.int .i64 63), .v (.int .u64 x)] = some (.v (.int .u64 (rotR 63 x))) := rfl
def F53 : List AV → Option AV
  | [.v (.int .u8 x)] => some (.v (.int .i64 (digitI x)))
  | _ => none
theorem F53_eq (x : Int) : F53 [.v (.int .u8 x)] = some (.v (.int .i64 (digitI x))) := rfl
def F55 : List AV → Option AV
  | [.v (.int .i64 r), .v (.int .i64 k)] => oguard (0 ≤ r ∧ r < 10 ∧ 0 ≤ k ∧ k < 16) (some (.v (.int .i64 (sigma.getD (16 * r.toNat + k.toNat) 0 : Nat))))
  | _ => none
theorem F55_eq (r k : Int) : F55 [.v (.int .i64 r), .v (.int .i64 k)] = oguard (0 ≤ r ∧ r < 10 ∧ 0 ≤ k ∧ k < 16) (some (.v (.int .i64 (sigma.getD (16 * r.toNat + k.toNat) 0 : Nat)))) := rfl
def F25 : List AV → Option AV
  | [] => some (.arr 8 .u64 firstL)
  | _ => none
theorem F25_eq : F25 [] = some (.arr 8 .u64 firstL) := rfl
noncomputable def p2 : FuncId → Option (List AV → Option AV) := addPure (addPure (addPure (addPure (addPure (addPure p1 70 F70) 71 F71) 53 F53) 55 F55) 25 F25) 26 F25
noncomputable def c2 (k : Nat) : Cfg := ⟨Try.prog, k, p2, [], fun _ => none⟩
theorem c2_odd (k : Nat) : (c2 k).odd = [] := rfl
theorem c2_P (k : Nat) : (c2 k).P = Try.prog := rfl
theorem c2_70 (k : Nat) : (c2 k).pure 70 = some F70 := rfl
theorem c2_71 (k : Nat) : (c2 k).pure 71 = some F71 := rfl
theorem c2_53 (k : Nat) : (c2 k).pure 53 = some F53 := rfl
theorem c2_55 (k : Nat) : (c2 k).pure 55 = some F55 := rfl
theorem c2_25 (k : Nat) : (c2 k).pure 25 = some F25 := rfl
theorem c2_26 (k : Nat) : (c2 k).pure 26 = some F25 := rfl
theorem c2_54 (k : Nat) : (c2 k).pure 54 = none := rfl
theorem c2_56 (k : Nat) : (c2 k).pure 56 = none := rfl
theorem good2 (k : Nat) : (c2 k).Good := by
  refine Cfg.Good.add (Cfg.Good.add (Cfg.Good.add (Cfg.Good.add (Cfg.Good.add (Cfg.Good.add (good1 k) ?_ k) ?_ k) ?_ k) ?_ k) ?_ k) ?_ k
  · intro args v hF h κ hκ
    unfold F70 at hF
    split at hF
    · cases hF; exact pure_call (right_spec _ _) (fun g => rfl) (fun g => rfl) h κ hκ
    · cases hF
  · intro args v hF h κ hκ
    unfold F71 at hF
    split at hF
    · obtain ⟨h1, h2⟩ := oguard_some hF
      cases h2; exact pure_call (turn_spec _ _ h1) (fun g => rfl) (fun g => rfl) h κ hκ
    · cases hF
  · intro args v hF h κ hκ
    unfold F53 at hF
    split at hF
    · cases hF; exact pure_call (digit_spec _) (fun g => rfl) (fun g => rfl) h κ hκ
    · cases hF
  · intro args v hF h κ hκ
    unfold F55 at hF
    split at hF
    · rename_i r k
      obtain ⟨⟨h1, h2, h3, h4⟩, h5⟩ := oguard_some hF
      cases h5
      obtain ⟨r, rfl⟩ := Int.eq_ofNat_of_zero_le h1
      obtain ⟨k, rfl⟩ := Int.eq_ofNat_of_zero_le h3
      exact pure_call (order_spec r k (by omega) (by omega)) (fun g => rfl) (fun g => rfl) h κ hκ
    · cases hF
  · intro args v hF h κ hκ
    unfold F25 at hF
    split at hF
    · cases hF; exact pure_call first_spec (fun g => rfl) (fun g => rfl) h κ hκ
    · cases hF
  · intro args v hF h κ hκ
    unfold F25 at hF
    split at hF
    · cases hF; exact pure_call rfirst_spec (fun g => rfl) (fun g => rfl) h κ hκ
    · cases hF
end Go.Proofs.Ytfnfmbikooeiaaa

namespace Go.Proofs.Ytfnfmbikooeiaaa
open Go.Ax
set_option linter.unusedSimpArgs false
set_option linter.unusedVariables false
set_option maxHeartbeats 4000000
set_option maxRecDepth 100000
theorem mix_spec (v : List Int) (a b c d : Nat) (x y : Int) (ha : a < 16) (hb : b < 16) (hc : c < 16) (hd : d < 16) :
    ACall Try.prog 54 [.ptr 0 0 0, .v (.int .i64 a), .v (.int .i64 b), .v (.int .i64 c), .v (.int .i64 d), .v (.int .u64 x), .v (.int .u64 y)] [some [.arr 16 .u64 v]]
      fun r h => r = .tup [] ∧ h = [some [.arr 16 .u64 (mixL v a b c d x y)]] := by
  refine acall_run (good2 1) Try.func54 rfl ⟨by kernel_rfl, by show 7 ≤ _; decide, by kernel_rfl, by kernel_rfl⟩ rfl ?_
  have hr : Try.f54.results.toList = [] := rfl
  have na : ∀ n : Nat, (0 : Int) ≤ n := fun n => Int.natCast_nonneg n
  have ha' : (a : Int) < 16 := by omega
  have hb' : (b : Int) < 16 := by omega
  have hc' : (c : Int) < 16 := by omega
  have hd' : (d : Int) < 16 := by omega
  simp only [c2_P, c2_odd, c2_70, F70_eq, v_eqR_int, v_eqR_bool, v_eqR_string, v_eqR_pointer, v_eqR_array, v_eqR_struct, v_eqR_slice, v_convR_int, v_convR_string, v_convR_bytes, v_convR_same, v_convR_slice, v_move, v_assign, v_pick, v_load, v_nilCheck, v_add, v_sub, v_mul, v_quo, v_rem, v_and, v_or, v_xor, v_andNot, v_shl, v_shr, v_lss, v_leq, v_gtr, v_geq, v_eql, v_neq, v_un, v_conv, v_arrayAt, v_makeFunc, v_slice, v_fieldAddr, v_field, v_indexAddr, v_index, v_extract, v_build, v_len, v_min, v_max, v_call, v_alloc, v_box, v_store, v_makeSlice, v_buildSlice, v_append, v_copy, nilA_ptr, nilA_rop, nilA_fn, ixAddrA_int, ixA_int, extA_tup, calA_fn, ev_tmp, ev_const, ev_func, constAV_int, constAV_bool, constAV_string, constAV_pointer, constAV_slice, optA_none, optA_some, b_add, b_sub, b_mul, b_quo, b_rem, b_and, b_or, b_xor, b_eql, b_neq, b_lss, b_leq, b_gtr, b_geq, b_shl, b_shr, b_seq, b_sne, b_beq, b_bne, b_peq, b_pne, b_qeq, b_qne, b_aeq, b_ane, u_neg, u_xor, u_not, i_xor, v_int_conv, retK_ret, retK_normal, resList_nil, resList_tmp, packA_one, packA_nil, packA_two, holds_some, holds_none, holds_guard, s_builtin_len, s_builtin_min, s_builtin_max, opsR_cons_g, resList_cell, run_skip, run_seq, run_block, run_exit, run_ret, run_loop, run_cond, run_region, regionR_true, regionR_false, planR_done, planR_stop, planR_first, planR_fork, someR_some, cont_plan, List.contains_nil, List.contains_cons, Nat.reduceBEq, Bool.or_false, Bool.false_or, List.getElem?_toArray, cont_nil, cont_code, cont_blk, cont_ret_code, cont_ret_blk, cont_exit_code, cont_exit_blk, condR_bool, opsR_nil, opsR_cons, wantR_bool, wantR_skip, valR_some, valR_none, valR_guard, valR_ite, outR_one, outR_cap, outR_none, outR_guard, nilR_some, callA_some, callB_some, callB_none, callN_some, callN_none, guard_bind, guard_map, guard_true, guard_false, get_put, get_envOf, put_none, List.getD_cons_zero, List.getD_cons_succ, Option.map_some, Option.bind_some, Option.map_none, Option.bind_none, Option.some_or, Option.or_none, Option.none_or, List.map_cons, List.map_nil, List.append_nil, List.nil_append, List.cons_append, List.toList_toArray, Option.some.injEq, reduceIte, Nat.reduceEqDiff, reduceCtorEq, ne_eq, not_false_eq_true, not_true_eq_false, and_true, true_and, and_self, if_true, if_false, Bool.true_eq_false, Bool.false_eq_true, decide_true, decide_false, decide_eq_true_eq, tabs, hr, List.take_length, List.drop_length, Nat.min_self, List.length_replicate, List.length_append, List.length_set, List.length_map, List.length_range, List.length_take, List.length_drop, buildA, layA, rowPut, rowOr, rowSetAt, rowSet, rowTake, rowDrop, rowCell, rowAgg, mkAgg, AV.size, AV.isAggV, AV.parts, AV.one, AV.solid, headSize, psize, envAll_nil, envAll_cons, get_envL_nil, get_envL_cons, thenK_normal, thenK_exit, thenK_ret, storeA_ptr, stK_some, stC_some, stD_cell, stD_agg, stE_some, stE_guard, loadA_ptr, loadA_rop, ldK_cell, ldK_agg, ldC_some, ldD_some, laC_some, laD_some, row_def, indexAddrA, indexA, fieldAddrA, fieldA, sliceA, boundsA, bndA, lenA, arrayAtA, rowOf, makeSliceA, intsOf, copyA, List.getElem?_cons_zero, List.getElem?_cons_succ, List.length_cons, List.length_nil, List.set_cons_zero, List.set_cons_succ, Nat.reduceAdd, Nat.reduceSub, Nat.reduceMul, Nat.reduceLeDiff, Nat.reduceLT, Nat.reduceGT, Int.reduceToNat, Int.reduceLE, Int.reduceLT, Int.reduceEq, Int.reduceNe, Int.reduceAdd, Int.reduceSub, Int.reduceMul, Nat.zero_add, Nat.add_zero, Nat.mul_one, Nat.one_mul, Nat.zero_mul, Nat.mul_zero, Nat.sub_zero, Nat.le_refl, Int.reduceNeg, ge_iff_le, gt_iff_lt, Option.isSome_none, Option.isSome_some, Bool.not_true, Bool.not_false, Bool.not_not, List.take_zero, List.drop_zero, List.tail_cons, or_true, true_or, or_false, false_or, not_true, not_false_iff, Int.ofNat_eq_natCast, Int.cast_ofNat_Int, reduceIte, ite_true, ite_false, dite_true, na, ha, hb, hc, hd, ha', hb', hc', hd', Int.toNat_natCast, rot32, rot24, rot16, rot63, xorU_eq, u64_add_r, u64_add_l, Int.add_assoc, addx_eq, addp_eq, rotp_eq, mixL]
theorem rmix_spec (v : List Int) (a b c d : Nat) (x y : Int) (hv : v.length = 16) (ha : a < 16) (hb : b < 16) (hc : c < 16) (hd : d < 16) :
    ACall Try.prog 56 [.arr 16 .u64 v, .v (.int .i64 a), .v (.int .i64 b), .v (.int .i64 c), .v (.int .i64 d), .v (.int .u64 x), .v (.int .u64 y)] []
      fun r _ => r = .arr 16 .u64 (mixL v a b c d x y) := by
  refine acall_run (good2 0) Try.func56 rfl ⟨by kernel_rfl, by show 7 ≤ _; decide, by kernel_rfl, by kernel_rfl⟩ rfl ?_
  have hr : Try.f56.results.toList = [.cell 14 60] := rfl
  have na : ∀ n : Nat, (0 : Int) ≤ n := fun n => Int.natCast_nonneg n
  have ha' : (a : Int) < 16 := by omega
  have hb' : (b : Int) < 16 := by omega
  have hc' : (c : Int) < 16 := by omega
  have hd' : (d : Int) < 16 := by omega
  simp only [c2_P, c2_odd, c2_71, F71_32, F71_24, F71_16, F71_63, v_eqR_int, v_eqR_bool, v_eqR_string, v_eqR_pointer, v_eqR_array, v_eqR_struct, v_eqR_slice, v_convR_int, v_convR_string, v_convR_bytes, v_convR_same, v_convR_slice, v_move, v_assign, v_pick, v_load, v_nilCheck, v_add, v_sub, v_mul, v_quo, v_rem, v_and, v_or, v_xor, v_andNot, v_shl, v_shr, v_lss, v_leq, v_gtr, v_geq, v_eql, v_neq, v_un, v_conv, v_arrayAt, v_makeFunc, v_slice, v_fieldAddr, v_field, v_indexAddr, v_index, v_extract, v_build, v_len, v_min, v_max, v_call, v_alloc, v_box, v_store, v_makeSlice, v_buildSlice, v_append, v_copy, nilA_ptr, nilA_rop, nilA_fn, ixAddrA_int, ixA_int, extA_tup, calA_fn, ev_tmp, ev_const, ev_func, constAV_int, constAV_bool, constAV_string, constAV_pointer, constAV_slice, optA_none, optA_some, b_add, b_sub, b_mul, b_quo, b_rem, b_and, b_or, b_xor, b_eql, b_neq, b_lss, b_leq, b_gtr, b_geq, b_shl, b_shr, b_seq, b_sne, b_beq, b_bne, b_peq, b_pne, b_qeq, b_qne, b_aeq, b_ane, u_neg, u_xor, u_not, i_xor, v_int_conv, retK_ret, retK_normal, resList_nil, resList_tmp, packA_one, packA_nil, packA_two, holds_some, holds_none, holds_guard, s_builtin_len, s_builtin_min, s_builtin_max, opsR_cons_g, resList_cell, run_skip, run_seq, run_block, run_exit, run_ret, run_loop, run_cond, run_region, regionR_true, regionR_false, planR_done, planR_stop, planR_first, planR_fork, someR_some, cont_plan, List.contains_nil, List.contains_cons, Nat.reduceBEq, Bool.or_false, Bool.false_or, List.getElem?_toArray, cont_nil, cont_code, cont_blk, cont_ret_code, cont_ret_blk, cont_exit_code, cont_exit_blk, condR_bool, opsR_nil, opsR_cons, wantR_bool, wantR_skip, valR_some, valR_none, valR_guard, valR_ite, outR_one, outR_cap, outR_none, outR_guard, nilR_some, callA_some, callB_some, callB_none, callN_some, callN_none, guard_bind, guard_map, guard_true, guard_false, get_put, get_envOf, put_none, List.getD_cons_zero, List.getD_cons_succ, Option.map_some, Option.bind_some, Option.map_none, Option.bind_none, Option.some_or, Option.or_none, Option.none_or, List.map_cons, List.map_nil, List.append_nil, List.nil_append, List.cons_append, List.toList_toArray, Option.some.injEq, reduceIte, Nat.reduceEqDiff, reduceCtorEq, ne_eq, not_false_eq_true, not_true_eq_false, and_true, true_and, and_self, if_true, if_false, Bool.true_eq_false, Bool.false_eq_true, decide_true, decide_false, decide_eq_true_eq, tabs, hr, List.take_length, List.drop_length, Nat.min_self, List.length_replicate, List.length_append, List.length_set, List.length_map, List.length_range, List.length_take, List.length_drop, buildA, layA, rowPut, rowOr, rowSetAt, rowSet, rowTake, rowDrop, rowCell, rowAgg, mkAgg, AV.size, AV.isAggV, AV.parts, AV.one, AV.solid, headSize, psize, envAll_nil, envAll_cons, get_envL_nil, get_envL_cons, thenK_normal, thenK_exit, thenK_ret, storeA_ptr, stK_some, stC_some, stD_cell, stD_agg, stE_some, stE_guard, loadA_ptr, loadA_rop, ldK_cell, ldK_agg, ldC_some, ldD_some, laC_some, laD_some, row_def, indexAddrA, indexA, fieldAddrA, fieldA, sliceA, boundsA, bndA, lenA, arrayAtA, rowOf, makeSliceA, intsOf, copyA, List.getElem?_cons_zero, List.getElem?_cons_succ, List.length_cons, List.length_nil, List.set_cons_zero, List.set_cons_succ, Nat.reduceAdd, Nat.reduceSub, Nat.reduceMul, Nat.reduceLeDiff, Nat.reduceLT, Nat.reduceGT, Int.reduceToNat, Int.reduceLE, Int.reduceLT, Int.reduceEq, Int.reduceNe, Int.reduceAdd, Int.reduceSub, Int.reduceMul, Nat.zero_add, Nat.add_zero, Nat.mul_one, Nat.one_mul, Nat.zero_mul, Nat.mul_zero, Nat.sub_zero, Nat.le_refl, Int.reduceNeg, ge_iff_le, gt_iff_lt, Option.isSome_none, Option.isSome_some, Bool.not_true, Bool.not_false, Bool.not_not, List.take_zero, List.drop_zero, List.tail_cons, or_true, true_or, or_false, false_or, not_true, not_false_iff, Int.ofNat_eq_natCast, Int.cast_ofNat_Int, reduceIte, ite_true, ite_false, dite_true, na, ha, hb, hc, hd, ha', hb', hc', hd', Int.toNat_natCast, xorU_eq, u64_add_r, u64_add_l, Int.add_assoc, addx_eq, addp_eq, rotp_eq, mixL]
  rw [List.take_of_length_le (by simp [rotp, addp, addx, hv]), List.take_of_length_le (by simp [rotp, addp, addx, hv])]
end Go.Proofs.Ytfnfmbikooeiaaa

namespace Go.Proofs.Ytfnfmbikooeiaaa
open Go.Ax
set_option linter.unusedSimpArgs false
set_option linter.unusedVariables false
set_option maxHeartbeats 4000000
set_option maxRecDepth 100000
def strOp : Op → Option ByteArray
  | .index _ (.const (.string s)) _ => some s
  | .slice _ (.const (.string s)) _ _ _ => some s
  | _ => none
def strCode : Code → Option ByteArray
  | .region _ ops _ => ops.toList.findSome? fun o => strOp o.op
  | .seq a b => (strCode a).or (strCode b)
  | _ => none
/-- the text of the orders -/
noncomputable def ordS : ByteArray := ((Try.f55.body.bind strCode).getD ⟨#[]⟩)
theorem ordS_size : ordS.size = 160 := by kernel_rfl
theorem ordS_digit : ∀ j : Fin 160, digitI ((ordS.data.toList.getD j.val 0).toNat : Int) = ((sigma.getD j.val 0 : Nat) : Int) := by decide +kernel
theorem sigma_lt : ∀ j : Nat, sigma.getD j 0 < 16 := by
  intro j
  by_cases h : j < 160
  · have : ∀ j : Fin 160, sigma.getD j.val 0 < 16 := by decide
    exact this ⟨j, h⟩
  · have : sigma.getD j 0 = 0 := by
      rw [List.getD_eq_getElem?_getD, List.getElem?_eq_none (by simp [sigma]; omega)]; rfl
    omega
theorem ext_getD (s : ByteArray) (i j n : Nat) (h : i + n ≤ s.size) (hj : j < n) : ((s.extract i s.size).extract 0 n).data.toList.getD j 0 = s.data.toList.getD (i + j) 0 := by
  simp only [ByteArray.data_extract, Array.toList_extract, List.extract_eq_take_drop, List.getD_eq_getElem?_getD]
  rw [List.drop_zero, List.getElem?_take_of_lt (by omega), List.getElem?_take_of_lt (by omega), List.getElem?_drop]
theorem ext_size (s : ByteArray) (i n : Nat) (h : i + n ≤ s.size) : ((s.extract i s.size).extract 0 n).size = n := by
  simp only [ByteArray.size_extract]; omega
end Go.Proofs.Ytfnfmbikooeiaaa

namespace Go.Proofs.Ytfnfmbikooeiaaa
open Go.Ax
set_option linter.unusedSimpArgs false
set_option linter.unusedVariables false
set_option maxHeartbeats 4000000
set_option maxRecDepth 100000
theorem piece_false (h p : List Int) (t : Int) (hh : h.length = 8) (hp : p.length = 128) :
    ACall Try.prog 23 [.arr 8 .u64 h, .arr 128 .u8 p, .v (.int .u64 t), .v (.bool false)] [] fun v _ => v = .arr 8 .u64 (pieceL h p t false) := by
  refine acall_run (good2 0) Try.func23 rfl ⟨by kernel_rfl, by show 4 ≤ _; decide, by kernel_rfl, by kernel_rfl⟩ rfl ?_
  have hr : Try.f23.results.toList = [.cell 8 30] := rfl
  have hp1 : p.take 128 = p := List.take_of_length_le (by omega)
  simp only [c2_P, c2_odd, v_eqR_int, v_eqR_bool, v_eqR_string, v_eqR_pointer, v_eqR_array, v_eqR_struct, v_eqR_slice, v_convR_int, v_convR_string, v_convR_bytes, v_convR_same, v_convR_slice, v_move, v_assign, v_pick, v_load, v_nilCheck, v_add, v_sub, v_mul, v_quo, v_rem, v_and, v_or, v_xor, v_andNot, v_shl, v_shr, v_lss, v_leq, v_gtr, v_geq, v_eql, v_neq, v_un, v_conv, v_arrayAt, v_makeFunc, v_slice, v_fieldAddr, v_field, v_indexAddr, v_index, v_extract, v_build, v_len, v_min, v_max, v_call, v_alloc, v_box, v_store, v_makeSlice, v_buildSlice, v_append, v_copy, nilA_ptr, nilA_rop, nilA_fn, ixAddrA_int, ixA_int, extA_tup, calA_fn, ev_tmp, ev_const, ev_func, constAV_int, constAV_bool, constAV_string, constAV_pointer, constAV_slice, optA_none, optA_some, b_add, b_sub, b_mul, b_quo, b_rem, b_and, b_or, b_xor, b_eql, b_neq, b_lss, b_leq, b_gtr, b_geq, b_shl, b_shr, b_seq, b_sne, b_beq, b_bne, b_peq, b_pne, b_qeq, b_qne, b_aeq, b_ane, u_neg, u_xor, u_not, i_xor, v_int_conv, retK_ret, retK_normal, resList_nil, resList_tmp, packA_one, packA_nil, packA_two, holds_some, holds_none, holds_guard, s_builtin_len, s_builtin_min, s_builtin_max, opsR_cons_g, resList_cell, run_skip, run_seq, run_block, run_exit, run_ret, run_loop, run_cond, run_region, regionR_true, regionR_false, planR_done, planR_stop, planR_first, planR_fork, someR_some, cont_plan, List.contains_nil, List.contains_cons, Nat.reduceBEq, Bool.or_false, Bool.false_or, List.getElem?_toArray, cont_nil, cont_code, cont_blk, cont_ret_code, cont_ret_blk, cont_exit_code, cont_exit_blk, condR_bool, opsR_nil, opsR_cons, wantR_bool, wantR_skip, valR_some, valR_none, valR_guard, valR_ite, outR_one, outR_cap, outR_none, outR_guard, nilR_some, callA_some, callB_some, callB_none, callN_some, callN_none, guard_bind, guard_map, guard_true, guard_false, get_put, get_envOf, put_none, List.getD_cons_zero, List.getD_cons_succ, Option.map_some, Option.bind_some, Option.map_none, Option.bind_none, Option.some_or, Option.or_none, Option.none_or, List.map_cons, List.map_nil, List.append_nil, List.nil_append, List.cons_append, List.toList_toArray, Option.some.injEq, reduceIte, Nat.reduceEqDiff, reduceCtorEq, ne_eq, not_false_eq_true, not_true_eq_false, and_true, true_and, and_self, if_true, if_false, Bool.true_eq_false, Bool.false_eq_true, decide_true, decide_false, decide_eq_true_eq, tabs, hr, List.take_length, List.drop_length, Nat.min_self, List.length_replicate, List.length_append, List.length_set, List.length_map, List.length_range, List.length_take, List.length_drop, buildA, layA, rowPut, rowOr, rowSetAt, rowSet, rowTake, rowDrop, rowCell, rowAgg, mkAgg, AV.size, AV.isAggV, AV.parts, AV.one, AV.solid, headSize, psize, envAll_nil, envAll_cons, get_envL_nil, get_envL_cons, thenK_normal, thenK_exit, thenK_ret, storeA_ptr, stK_some, stC_some, stD_cell, stD_agg, stE_some, stE_guard, loadA_ptr, loadA_rop, ldK_cell, ldK_agg, ldC_some, ldD_some, laC_some, laD_some, row_def, indexAddrA, indexA, fieldAddrA, fieldA, sliceA, boundsA, bndA, lenA, arrayAtA, rowOf, makeSliceA, intsOf, copyA, List.getElem?_cons_zero, List.getElem?_cons_succ, List.length_cons, List.length_nil, List.set_cons_zero, List.set_cons_succ, Nat.reduceAdd, Nat.reduceSub, Nat.reduceMul, Nat.reduceLeDiff, Nat.reduceLT, Nat.reduceGT, Int.reduceToNat, Int.reduceLE, Int.reduceLT, Int.reduceEq, Int.reduceNe, Int.reduceAdd, Int.reduceSub, Int.reduceMul, Nat.zero_add, Nat.add_zero, Nat.mul_one, Nat.one_mul, Nat.zero_mul, Nat.mul_zero, Nat.sub_zero, Nat.le_refl, Int.reduceNeg, ge_iff_le, gt_iff_lt, Option.isSome_none, Option.isSome_some, Bool.not_true, Bool.not_false, Bool.not_not, List.take_zero, List.drop_zero, List.tail_cons, or_true, true_or, or_false, false_or, not_true, not_false_iff, Int.ofNat_eq_natCast, Int.cast_ofNat_Int, reduceIte, ite_true, ite_false, dite_true, hp1]
  refine loopR_of (good2 0) (α := {i : Nat // i ≤ 128}) (fun i => ⟨envL [(2, .v (.int .u64 t)), (3, .v (.bool false)), (4, .ptr 0 0 0), (8, .ptr 2 0 0), (9, .ptr 3 0 0), (10, .ptr 4 0 0), (21, .arr 128 .u8 p), (22, .v (.int .i64 i.val))],
    [some [.arr 8 .u64 h], some [.arr 128 .u8 p], some [.arr 8 .u64 (List.replicate 8 0)], some [.arr 16 .u64 (wordsAt p i.val)], some [.arr 16 .u64 (List.replicate 16 0)]]⟩) (fun i => 128 - i.val) ⟨0, by omega⟩ (by kernel_rfl) ?_ ?_
  · exact weak_all (by simp only [List.take_length, List.drop_length, Nat.min_self, List.length_replicate, List.length_append, List.length_set, List.length_map, List.length_range, List.length_take, List.length_drop, buildA, layA, rowPut, rowOr, rowSetAt, rowSet, rowTake, rowDrop, rowCell, rowAgg, mkAgg, AV.size, AV.isAggV, AV.parts, AV.one, AV.solid, headSize, psize, envAll_nil, envAll_cons, get_envL_nil, get_envL_cons, thenK_normal, thenK_exit, thenK_ret, storeA_ptr, stK_some, stC_some, stD_cell, stD_agg, stE_some, stE_guard, loadA_ptr, loadA_rop, ldK_cell, ldK_agg, ldC_some, ldD_some, laC_some, laD_some, row_def, indexAddrA, indexA, fieldAddrA, fieldA, sliceA, boundsA, bndA, lenA, arrayAtA, rowOf, makeSliceA, intsOf, copyA, List.getElem?_cons_zero, List.getElem?_cons_succ, List.length_cons, List.length_nil, List.set_cons_zero, List.set_cons_succ, Nat.reduceAdd, Nat.reduceSub, Nat.reduceMul, Nat.reduceLeDiff, Nat.reduceLT, Nat.reduceGT, Int.reduceToNat, Int.reduceLE, Int.reduceLT, Int.reduceEq, Int.reduceNe, Int.reduceAdd, Int.reduceSub, Int.reduceMul, Nat.zero_add, Nat.add_zero, Nat.mul_one, Nat.one_mul, Nat.zero_mul, Nat.mul_zero, Nat.sub_zero, Nat.le_refl, Int.reduceNeg, ge_iff_le, gt_iff_lt, Option.isSome_none, Option.isSome_some, Bool.not_true, Bool.not_false, Bool.not_not, List.take_zero, List.drop_zero, List.tail_cons, or_true, true_or, or_false, false_or, not_true, not_false_iff, Int.ofNat_eq_natCast, Int.cast_ofNat_Int, reduceIte, ite_true, ite_false, dite_true, get_put, get_envOf, List.getD_cons_zero, List.getD_cons_succ, Nat.reduceEqDiff, reduceIte, and_self, Int.cast_ofNat_Int])
  · rintro ⟨i, hi⟩
    have na : ∀ n : Nat, (0 : Int) ≤ n := fun n => Int.natCast_nonneg n
    by_cases hlt : i < 128
    · have h1 : (i : Int) < 128 := by omega
      have h2 : i / 8 < 16 := by omega
      have h3 : ((i / 8 : Nat) : Int) < 16 := by omega
      have h4 : IntKind.i64.wrap (8 * ((i % 8 : Nat) : Int)) = ((8 * (i % 8) : Nat) : Int) := by rw [i64_id _ (by omega)]; omega
      have h5 : IntKind.i64.wrap ((i / 8 : Nat) : Int) = ((i / 8 : Nat) : Int) := i64_nat _ (by omega)
      have h6 : IntKind.i64.wrap ((i : Int) + 1) = ((i + 1 : Nat) : Int) := by rw [i64_id _ (by omega)]; omega
      simp only [c2_P, c2_odd, v_eqR_int, v_eqR_bool, v_eqR_string, v_eqR_pointer, v_eqR_array, v_eqR_struct, v_eqR_slice, v_convR_int, v_convR_string, v_convR_bytes, v_convR_same, v_convR_slice, v_move, v_assign, v_pick, v_load, v_nilCheck, v_add, v_sub, v_mul, v_quo, v_rem, v_and, v_or, v_xor, v_andNot, v_shl, v_shr, v_lss, v_leq, v_gtr, v_geq, v_eql, v_neq, v_un, v_conv, v_arrayAt, v_makeFunc, v_slice, v_fieldAddr, v_field, v_indexAddr, v_index, v_extract, v_build, v_len, v_min, v_max, v_call, v_alloc, v_box, v_store, v_makeSlice, v_buildSlice, v_append, v_copy, nilA_ptr, nilA_rop, nilA_fn, ixAddrA_int, ixA_int, extA_tup, calA_fn, ev_tmp, ev_const, ev_func, constAV_int, constAV_bool, constAV_string, constAV_pointer, constAV_slice, optA_none, optA_some, b_add, b_sub, b_mul, b_quo, b_rem, b_and, b_or, b_xor, b_eql, b_neq, b_lss, b_leq, b_gtr, b_geq, b_shl, b_shr, b_seq, b_sne, b_beq, b_bne, b_peq, b_pne, b_qeq, b_qne, b_aeq, b_ane, u_neg, u_xor, u_not, i_xor, v_int_conv, retK_ret, retK_normal, resList_nil, resList_tmp, packA_one, packA_nil, packA_two, holds_some, holds_none, holds_guard, s_builtin_len, s_builtin_min, s_builtin_max, opsR_cons_g, resList_cell, run_skip, run_seq, run_block, run_exit, run_ret, run_loop, run_cond, run_region, regionR_true, regionR_false, planR_done, planR_stop, planR_first, planR_fork, someR_some, cont_plan, List.contains_nil, List.contains_cons, Nat.reduceBEq, Bool.or_false, Bool.false_or, List.getElem?_toArray, cont_nil, cont_code, cont_blk, cont_ret_code, cont_ret_blk, cont_exit_code, cont_exit_blk, condR_bool, opsR_nil, opsR_cons, wantR_bool, wantR_skip, valR_some, valR_none, valR_guard, valR_ite, outR_one, outR_cap, outR_none, outR_guard, nilR_some, callA_some, callB_some, callB_none, callN_some, callN_none, guard_bind, guard_map, guard_true, guard_false, get_put, get_envOf, put_none, List.getD_cons_zero, List.getD_cons_succ, Option.map_some, Option.bind_some, Option.map_none, Option.bind_none, Option.some_or, Option.or_none, Option.none_or, List.map_cons, List.map_nil, List.append_nil, List.nil_append, List.cons_append, List.toList_toArray, Option.some.injEq, reduceIte, Nat.reduceEqDiff, reduceCtorEq, ne_eq, not_false_eq_true, not_true_eq_false, and_true, true_and, and_self, if_true, if_false, Bool.true_eq_false, Bool.false_eq_true, decide_true, decide_false, decide_eq_true_eq, tabs, hr, List.take_length, List.drop_length, Nat.min_self, List.length_replicate, List.length_append, List.length_set, List.length_map, List.length_range, List.length_take, List.length_drop, buildA, layA, rowPut, rowOr, rowSetAt, rowSet, rowTake, rowDrop, rowCell, rowAgg, mkAgg, AV.size, AV.isAggV, AV.parts, AV.one, AV.solid, headSize, psize, envAll_nil, envAll_cons, get_envL_nil, get_envL_cons, thenK_normal, thenK_exit, thenK_ret, storeA_ptr, stK_some, stC_some, stD_cell, stD_agg, stE_some, stE_guard, loadA_ptr, loadA_rop, ldK_cell, ldK_agg, ldC_some, ldD_some, laC_some, laD_some, row_def, indexAddrA, indexA, fieldAddrA, fieldA, sliceA, boundsA, bndA, lenA, arrayAtA, rowOf, makeSliceA, intsOf, copyA, List.getElem?_cons_zero, List.getElem?_cons_succ, List.length_cons, List.length_nil, List.set_cons_zero, List.set_cons_succ, Nat.reduceAdd, Nat.reduceSub, Nat.reduceMul, Nat.reduceLeDiff, Nat.reduceLT, Nat.reduceGT, Int.reduceToNat, Int.reduceLE, Int.reduceLT, Int.reduceEq, Int.reduceNe, Int.reduceAdd, Int.reduceSub, Int.reduceMul, Nat.zero_add, Nat.add_zero, Nat.mul_one, Nat.one_mul, Nat.zero_mul, Nat.mul_zero, Nat.sub_zero, Nat.le_refl, Int.reduceNeg, ge_iff_le, gt_iff_lt, Option.isSome_none, Option.isSome_some, Bool.not_true, Bool.not_false, Bool.not_not, List.take_zero, List.drop_zero, List.tail_cons, or_true, true_or, or_false, false_or, not_true, not_false_iff, Int.ofNat_eq_natCast, Int.cast_ofNat_Int, reduceIte, ite_true, ite_false, dite_true, h1, h2, h3, h4, h5, h6, na, Int.toNat_natCast, tdiv8, tmod8, orU_eq]
      refine ⟨⟨i + 1, by omega⟩, by simp only; omega, weak_all ?_⟩
      simp only [List.take_length, List.drop_length, Nat.min_self, List.length_replicate, List.length_append, List.length_set, List.length_map, List.length_range, List.length_take, List.length_drop, buildA, layA, rowPut, rowOr, rowSetAt, rowSet, rowTake, rowDrop, rowCell, rowAgg, mkAgg, AV.size, AV.isAggV, AV.parts, AV.one, AV.solid, headSize, psize, envAll_nil, envAll_cons, get_envL_nil, get_envL_cons, thenK_normal, thenK_exit, thenK_ret, storeA_ptr, stK_some, stC_some, stD_cell, stD_agg, stE_some, stE_guard, loadA_ptr, loadA_rop, ldK_cell, ldK_agg, ldC_some, ldD_some, laC_some, laD_some, row_def, indexAddrA, indexA, fieldAddrA, fieldA, sliceA, boundsA, bndA, lenA, arrayAtA, rowOf, makeSliceA, intsOf, copyA, List.getElem?_cons_zero, List.getElem?_cons_succ, List.length_cons, List.length_nil, List.set_cons_zero, List.set_cons_succ, Nat.reduceAdd, Nat.reduceSub, Nat.reduceMul, Nat.reduceLeDiff, Nat.reduceLT, Nat.reduceGT, Int.reduceToNat, Int.reduceLE, Int.reduceLT, Int.reduceEq, Int.reduceNe, Int.reduceAdd, Int.reduceSub, Int.reduceMul, Nat.zero_add, Nat.add_zero, Nat.mul_one, Nat.one_mul, Nat.zero_mul, Nat.mul_zero, Nat.sub_zero, Nat.le_refl, Int.reduceNeg, ge_iff_le, gt_iff_lt, Option.isSome_none, Option.isSome_some, Bool.not_true, Bool.not_false, Bool.not_not, List.take_zero, List.drop_zero, List.tail_cons, or_true, true_or, or_false, false_or, not_true, not_false_iff, Int.ofNat_eq_natCast, Int.cast_ofNat_Int, reduceIte, ite_true, ite_false, dite_true, get_put, get_envOf, List.getD_cons_zero, List.getD_cons_succ, Nat.reduceEqDiff, reduceIte, and_self]
    · have h1 : ¬ (i : Int) < 128 := by omega
      have hi : i = 128 := by omega
      subst hi
      have hh1 : h.take 8 = h := List.take_of_length_le (by omega)
      have hh2 : h.take 16 = h := List.take_of_length_le (by omega)
      have hA : (List.replicate 16 (0 : Int)).drop 8 = List.replicate 8 0 := rfl
      have hB : (h ++ List.replicate 8 0).take 8 = h := by rw [List.take_append_of_le_length (by omega), hh1]
      have hC : (h ++ List.replicate 8 (0 : Int)).drop 16 = [] := List.drop_eq_nil_of_le (by simp [hh])
      have hD : firstL.take 8 = firstL := rfl
      have hE : firstL.length = 8 := rfl
      have hF : min 8 16 = 8 := rfl
      have hG : IntKind.u64.signed = false := rfl
      simp only [c2_P, c2_odd, c2_25, F25_eq, v_eqR_int, v_eqR_bool, v_eqR_string, v_eqR_pointer, v_eqR_array, v_eqR_struct, v_eqR_slice, v_convR_int, v_convR_string, v_convR_bytes, v_convR_same, v_convR_slice, v_move, v_assign, v_pick, v_load, v_nilCheck, v_add, v_sub, v_mul, v_quo, v_rem, v_and, v_or, v_xor, v_andNot, v_shl, v_shr, v_lss, v_leq, v_gtr, v_geq, v_eql, v_neq, v_un, v_conv, v_arrayAt, v_makeFunc, v_slice, v_fieldAddr, v_field, v_indexAddr, v_index, v_extract, v_build, v_len, v_min, v_max, v_call, v_alloc, v_box, v_store, v_makeSlice, v_buildSlice, v_append, v_copy, nilA_ptr, nilA_rop, nilA_fn, ixAddrA_int, ixA_int, extA_tup, calA_fn, ev_tmp, ev_const, ev_func, constAV_int, constAV_bool, constAV_string, constAV_pointer, constAV_slice, optA_none, optA_some, b_add, b_sub, b_mul, b_quo, b_rem, b_and, b_or, b_xor, b_eql, b_neq, b_lss, b_leq, b_gtr, b_geq, b_shl, b_shr, b_seq, b_sne, b_beq, b_bne, b_peq, b_pne, b_qeq, b_qne, b_aeq, b_ane, u_neg, u_xor, u_not, i_xor, v_int_conv, retK_ret, retK_normal, resList_nil, resList_tmp, packA_one, packA_nil, packA_two, holds_some, holds_none, holds_guard, s_builtin_len, s_builtin_min, s_builtin_max, opsR_cons_g, resList_cell, run_skip, run_seq, run_block, run_exit, run_ret, run_loop, run_cond, run_region, regionR_true, regionR_false, planR_done, planR_stop, planR_first, planR_fork, someR_some, cont_plan, List.contains_nil, List.contains_cons, Nat.reduceBEq, Bool.or_false, Bool.false_or, List.getElem?_toArray, cont_nil, cont_code, cont_blk, cont_ret_code, cont_ret_blk, cont_exit_code, cont_exit_blk, condR_bool, opsR_nil, opsR_cons, wantR_bool, wantR_skip, valR_some, valR_none, valR_guard, valR_ite, outR_one, outR_cap, outR_none, outR_guard, nilR_some, callA_some, callB_some, callB_none, callN_some, callN_none, guard_bind, guard_map, guard_true, guard_false, get_put, get_envOf, put_none, List.getD_cons_zero, List.getD_cons_succ, Option.map_some, Option.bind_some, Option.map_none, Option.bind_none, Option.some_or, Option.or_none, Option.none_or, List.map_cons, List.map_nil, List.append_nil, List.nil_append, List.cons_append, List.toList_toArray, Option.some.injEq, reduceIte, Nat.reduceEqDiff, reduceCtorEq, ne_eq, not_false_eq_true, not_true_eq_false, and_true, true_and, and_self, if_true, if_false, Bool.true_eq_false, Bool.false_eq_true, decide_true, decide_false, decide_eq_true_eq, tabs, hr, List.take_length, List.drop_length, Nat.min_self, List.length_replicate, List.length_append, List.length_set, List.length_map, List.length_range, List.length_take, List.length_drop, buildA, layA, rowPut, rowOr, rowSetAt, rowSet, rowTake, rowDrop, rowCell, rowAgg, mkAgg, AV.size, AV.isAggV, AV.parts, AV.one, AV.solid, headSize, psize, envAll_nil, envAll_cons, get_envL_nil, get_envL_cons, thenK_normal, thenK_exit, thenK_ret, storeA_ptr, stK_some, stC_some, stD_cell, stD_agg, stE_some, stE_guard, loadA_ptr, loadA_rop, ldK_cell, ldK_agg, ldC_some, ldD_some, laC_some, laD_some, row_def, indexAddrA, indexA, fieldAddrA, fieldA, sliceA, boundsA, bndA, lenA, arrayAtA, rowOf, makeSliceA, intsOf, copyA, List.getElem?_cons_zero, List.getElem?_cons_succ, List.length_cons, List.length_nil, List.set_cons_zero, List.set_cons_succ, Nat.reduceAdd, Nat.reduceSub, Nat.reduceMul, Nat.reduceLeDiff, Nat.reduceLT, Nat.reduceGT, Int.reduceToNat, Int.reduceLE, Int.reduceLT, Int.reduceEq, Int.reduceNe, Int.reduceAdd, Int.reduceSub, Int.reduceMul, Nat.zero_add, Nat.add_zero, Nat.mul_one, Nat.one_mul, Nat.zero_mul, Nat.mul_zero, Nat.sub_zero, Nat.le_refl, Int.reduceNeg, ge_iff_le, gt_iff_lt, Option.isSome_none, Option.isSome_some, Bool.not_true, Bool.not_false, Bool.not_not, List.take_zero, List.drop_zero, List.tail_cons, or_true, true_or, or_false, false_or, not_true, not_false_iff, Int.ofNat_eq_natCast, Int.cast_ofNat_Int, reduceIte, ite_true, ite_false, dite_true, h1, na, Int.toNat_natCast, hh1, hh2, hh, hA, hB, hC, hD, hE, hF, hG, Nat.min_self, xorU_eq]
      refine loopR_of (good2 0) (α := {i : Nat // i ≤ 12}) (fun i => ⟨envL [(4, .ptr 0 0 0), (8, .ptr 2 0 0), (9, .ptr 3 0 0), (10, .ptr 4 0 0), (56, .v (.int .i64 i.val))],
        [some [.arr 8 .u64 h], some [.arr 128 .u8 p], some [.arr 8 .u64 (List.replicate 8 0)], some [.arr 16 .u64 (wordsAt p 128)], some [.arr 16 .u64 (allAt (wordsAt p 128) (vInit h t false) i.val)], some [.arr 8 .u64 firstL]]⟩) (fun i => 12 - i.val) ⟨0, by omega⟩ (by kernel_rfl) ?_ ?_
      · exact weak_all ⟨rfl, rfl, rfl, rfl, rfl, trivial⟩
      · rintro ⟨r, hi⟩
        have e := @id (ordS = ByteArray.mk (List.append (List.append _ _) (List.append _ _)).toArray) rfl
        rw [← e]
        clear e
        by_cases hlt : r < 12
        · have h1 : (r : Int) < 12 := by omega
          have h2 : IntKind.i64.wrap (16 * ((r % 10 : Nat) : Int)) = ((16 * (r % 10) : Nat) : Int) := by rw [i64_id _ (by omega)]; omega
          have h3 : ((16 * (r % 10) : Nat) : Int) ≤ 160 := by omega
          have h4 : ((ordS.extract (16 * (r % 10)) 160).extract 0 16).size = 16 := by simp only [ByteArray.size_extract, ordS_size]; omega
          have h5 : (16 : Int) ≤ (((ordS.extract (16 * (r % 10)) 160).size : Nat) : Int) := by simp only [ByteArray.size_extract, ordS_size]; omega
          have hlen : (16 * (r % 10)) + 16 ≤ ordS.size := by rw [ordS_size]; omega
          have h6 : ∀ j, j < 16 → digitI ((((ordS.extract (16 * (r % 10)) 160).extract 0 16).data.toList.getD j 0).toNat : Int) = ((sigma.getD (16 * (r % 10) + j) 0 : Nat) : Int) := by
            intro j hj
            have := ext_getD ordS (16 * (r % 10)) j 16 hlen hj
            rw [ordS_size] at this
            rw [this]
            exact ordS_digit ⟨16 * (r % 10) + j, by omega⟩
          have h7 : IntKind.i64.wrap ((r : Int) + 1) = ((r + 1 : Nat) : Int) := by rw [i64_id _ (by omega)]; omega
          simp only [c2_P, c2_odd, v_eqR_int, v_eqR_bool, v_eqR_string, v_eqR_pointer, v_eqR_array, v_eqR_struct, v_eqR_slice, v_convR_int, v_convR_string, v_convR_bytes, v_convR_same, v_convR_slice, v_move, v_assign, v_pick, v_load, v_nilCheck, v_add, v_sub, v_mul, v_quo, v_rem, v_and, v_or, v_xor, v_andNot, v_shl, v_shr, v_lss, v_leq, v_gtr, v_geq, v_eql, v_neq, v_un, v_conv, v_arrayAt, v_makeFunc, v_slice, v_fieldAddr, v_field, v_indexAddr, v_index, v_extract, v_build, v_len, v_min, v_max, v_call, v_alloc, v_box, v_store, v_makeSlice, v_buildSlice, v_append, v_copy, nilA_ptr, nilA_rop, nilA_fn, ixAddrA_int, ixA_int, extA_tup, calA_fn, ev_tmp, ev_const, ev_func, constAV_int, constAV_bool, constAV_string, constAV_pointer, constAV_slice, optA_none, optA_some, b_add, b_sub, b_mul, b_quo, b_rem, b_and, b_or, b_xor, b_eql, b_neq, b_lss, b_leq, b_gtr, b_geq, b_shl, b_shr, b_seq, b_sne, b_beq, b_bne, b_peq, b_pne, b_qeq, b_qne, b_aeq, b_ane, u_neg, u_xor, u_not, i_xor, v_int_conv, retK_ret, retK_normal, resList_nil, resList_tmp, packA_one, packA_nil, packA_two, holds_some, holds_none, holds_guard, s_builtin_len, s_builtin_min, s_builtin_max, opsR_cons_g, resList_cell, run_skip, run_seq, run_block, run_exit, run_ret, run_loop, run_cond, run_region, regionR_true, regionR_false, planR_done, planR_stop, planR_first, planR_fork, someR_some, cont_plan, List.contains_nil, List.contains_cons, Nat.reduceBEq, Bool.or_false, Bool.false_or, List.getElem?_toArray, cont_nil, cont_code, cont_blk, cont_ret_code, cont_ret_blk, cont_exit_code, cont_exit_blk, condR_bool, opsR_nil, opsR_cons, wantR_bool, wantR_skip, valR_some, valR_none, valR_guard, valR_ite, outR_one, outR_cap, outR_none, outR_guard, nilR_some, callA_some, callB_some, callB_none, callN_some, callN_none, guard_bind, guard_map, guard_true, guard_false, get_put, get_envOf, put_none, List.getD_cons_zero, List.getD_cons_succ, Option.map_some, Option.bind_some, Option.map_none, Option.bind_none, Option.some_or, Option.or_none, Option.none_or, List.map_cons, List.map_nil, List.append_nil, List.nil_append, List.cons_append, List.toList_toArray, Option.some.injEq, reduceIte, Nat.reduceEqDiff, reduceCtorEq, ne_eq, not_false_eq_true, not_true_eq_false, and_true, true_and, and_self, if_true, if_false, Bool.true_eq_false, Bool.false_eq_true, decide_true, decide_false, decide_eq_true_eq, tabs, hr, List.take_length, List.drop_length, Nat.min_self, List.length_replicate, List.length_append, List.length_set, List.length_map, List.length_range, List.length_take, List.length_drop, buildA, layA, rowPut, rowOr, rowSetAt, rowSet, rowTake, rowDrop, rowCell, rowAgg, mkAgg, AV.size, AV.isAggV, AV.parts, AV.one, AV.solid, headSize, psize, envAll_nil, envAll_cons, get_envL_nil, get_envL_cons, thenK_normal, thenK_exit, thenK_ret, storeA_ptr, stK_some, stC_some, stD_cell, stD_agg, stE_some, stE_guard, loadA_ptr, loadA_rop, ldK_cell, ldK_agg, ldC_some, ldD_some, laC_some, laD_some, row_def, indexAddrA, indexA, fieldAddrA, fieldA, sliceA, boundsA, bndA, lenA, arrayAtA, rowOf, makeSliceA, intsOf, copyA, List.getElem?_cons_zero, List.getElem?_cons_succ, List.length_cons, List.length_nil, List.set_cons_zero, List.set_cons_succ, Nat.reduceAdd, Nat.reduceSub, Nat.reduceMul, Nat.reduceLeDiff, Nat.reduceLT, Nat.reduceGT, Int.reduceToNat, Int.reduceLE, Int.reduceLT, Int.reduceEq, Int.reduceNe, Int.reduceAdd, Int.reduceSub, Int.reduceMul, Nat.zero_add, Nat.add_zero, Nat.mul_one, Nat.one_mul, Nat.zero_mul, Nat.mul_zero, Nat.sub_zero, Nat.le_refl, Int.reduceNeg, ge_iff_le, gt_iff_lt, Option.isSome_none, Option.isSome_some, Bool.not_true, Bool.not_false, Bool.not_not, List.take_zero, List.drop_zero, List.tail_cons, or_true, true_or, or_false, false_or, not_true, not_false_iff, Int.ofNat_eq_natCast, Int.cast_ofNat_Int, reduceIte, ite_true, ite_false, dite_true, h1, h2, h3, h5, na, Int.toNat_natCast, tmod10, ordS_size]
          refine loopR_of (good2 0) (α := {i : Nat // i ≤ 8}) (fun i => ⟨envL [(4, .ptr 0 0 0), (8, .ptr 2 0 0), (9, .ptr 3 0 0), (10, .ptr 4 0 0), (56, .v (.int .i64 r)), (15, .v (.string ((ordS.extract (16 * (r % 10)) 160).extract 0 16))), (64, .v (.int .i64 i.val))],
            [some [.arr 8 .u64 h], some [.arr 128 .u8 p], some [.arr 8 .u64 (List.replicate 8 0)], some [.arr 16 .u64 (wordsAt p 128)], some [.arr 16 .u64 (roundAt (wordsAt p 128) (allAt (wordsAt p 128) (vInit h t false) r) r i.val)], some [.arr 8 .u64 firstL]]⟩) (fun i => 8 - i.val) ⟨0, by omega⟩ (by kernel_rfl) ?_ ?_
          · exact weak_all ⟨rfl, rfl, rfl, rfl, rfl, rfl, rfl, trivial⟩
          · rintro ⟨k, hk⟩
            by_cases hkt : k < 8
            · have k1 : (k : Int) < 8 := by omega
              have k2 : IntKind.i64.wrap (2 * (k : Int)) = ((2 * k : Nat) : Int) := by rw [i64_id _ (by omega)]; omega
              have k3 : IntKind.i64.wrap (((2 * k : Nat) : Int) + 1) = ((2 * k + 1 : Nat) : Int) := by rw [i64_id _ (by omega)]; omega
              have k4 : ((2 * k : Nat) : Int) < 16 := by omega
              have k5 : ((2 * k + 1 : Nat) : Int) < 16 := by omega
              have k6 := h6 (2 * k) (by omega)
              have k7 := h6 (2 * k + 1) (by omega)
              have k8 : ∀ j, (((sigma.getD j 0 : Nat) : Int) < 16) = True := fun j => eq_true (by have := sigma_lt j; omega)
              have k9 : ∀ j, ((sigma.getD j 0) < 16) = True := fun j => eq_true (sigma_lt j)
              have e0 : IntKind.i64.wrap ((k / 4 : Nat) : Int) = ((k / 4 : Nat) : Int) := i64_nat _ (by omega)
              have e1 : IntKind.i64.wrap ((k : Int) + ((k / 4 : Nat) : Int)) = ((k + k / 4 : Nat) : Int) := by rw [i64_id _ (by omega)]; omega
              have e2 : IntKind.i64.wrap (4 + (((k + k / 4) % 4 : Nat) : Int)) = ((4 + (k + k / 4) % 4 : Nat) : Int) := by rw [i64_id _ (by omega)]; omega
              have e3 : IntKind.i64.wrap (2 * ((k / 4 : Nat) : Int)) = ((2 * (k / 4) : Nat) : Int) := by rw [i64_id _ (by omega)]; omega
              have e4 : IntKind.i64.wrap ((k : Int) + ((2 * (k / 4) : Nat) : Int)) = ((k + 2 * (k / 4) : Nat) : Int) := by rw [i64_id _ (by omega)]; omega
              have e5 : IntKind.i64.wrap (8 + (((k + 2 * (k / 4)) % 4 : Nat) : Int)) = ((8 + (k + 2 * (k / 4)) % 4 : Nat) : Int) := by rw [i64_id _ (by omega)]; omega
              have e6 : IntKind.i64.wrap (3 * ((k / 4 : Nat) : Int)) = ((3 * (k / 4) : Nat) : Int) := by rw [i64_id _ (by omega)]; omega
              have e7 : IntKind.i64.wrap ((k : Int) + ((3 * (k / 4) : Nat) : Int)) = ((k + 3 * (k / 4) : Nat) : Int) := by rw [i64_id _ (by omega)]; omega
              have e8 : IntKind.i64.wrap (12 + (((k + 3 * (k / 4)) % 4 : Nat) : Int)) = ((12 + (k + 3 * (k / 4)) % 4 : Nat) : Int) := by rw [i64_id _ (by omega)]; omega
              have e9 : IntKind.i64.wrap ((k : Int) + 1) = ((k + 1 : Nat) : Int) := by rw [i64_id _ (by omega)]; omega
              simp only [c2_P, c2_odd, c2_53, c2_54, F53_eq, v_eqR_int, v_eqR_bool, v_eqR_string, v_eqR_pointer, v_eqR_array, v_eqR_struct, v_eqR_slice, v_convR_int, v_convR_string, v_convR_bytes, v_convR_same, v_convR_slice, v_move, v_assign, v_pick, v_load, v_nilCheck, v_add, v_sub, v_mul, v_quo, v_rem, v_and, v_or, v_xor, v_andNot, v_shl, v_shr, v_lss, v_leq, v_gtr, v_geq, v_eql, v_neq, v_un, v_conv, v_arrayAt, v_makeFunc, v_slice, v_fieldAddr, v_field, v_indexAddr, v_index, v_extract, v_build, v_len, v_min, v_max, v_call, v_alloc, v_box, v_store, v_makeSlice, v_buildSlice, v_append, v_copy, nilA_ptr, nilA_rop, nilA_fn, ixAddrA_int, ixA_int, extA_tup, calA_fn, ev_tmp, ev_const, ev_func, constAV_int, constAV_bool, constAV_string, constAV_pointer, constAV_slice, optA_none, optA_some, b_add, b_sub, b_mul, b_quo, b_rem, b_and, b_or, b_xor, b_eql, b_neq, b_lss, b_leq, b_gtr, b_geq, b_shl, b_shr, b_seq, b_sne, b_beq, b_bne, b_peq, b_pne, b_qeq, b_qne, b_aeq, b_ane, u_neg, u_xor, u_not, i_xor, v_int_conv, retK_ret, retK_normal, resList_nil, resList_tmp, packA_one, packA_nil, packA_two, holds_some, holds_none, holds_guard, s_builtin_len, s_builtin_min, s_builtin_max, opsR_cons_g, resList_cell, run_skip, run_seq, run_block, run_exit, run_ret, run_loop, run_cond, run_region, regionR_true, regionR_false, planR_done, planR_stop, planR_first, planR_fork, someR_some, cont_plan, List.contains_nil, List.contains_cons, Nat.reduceBEq, Bool.or_false, Bool.false_or, List.getElem?_toArray, cont_nil, cont_code, cont_blk, cont_ret_code, cont_ret_blk, cont_exit_code, cont_exit_blk, condR_bool, opsR_nil, opsR_cons, wantR_bool, wantR_skip, valR_some, valR_none, valR_guard, valR_ite, outR_one, outR_cap, outR_none, outR_guard, nilR_some, callA_some, callB_some, callB_none, callN_some, callN_none, guard_bind, guard_map, guard_true, guard_false, get_put, get_envOf, put_none, List.getD_cons_zero, List.getD_cons_succ, Option.map_some, Option.bind_some, Option.map_none, Option.bind_none, Option.some_or, Option.or_none, Option.none_or, List.map_cons, List.map_nil, List.append_nil, List.nil_append, List.cons_append, List.toList_toArray, Option.some.injEq, reduceIte, Nat.reduceEqDiff, reduceCtorEq, ne_eq, not_false_eq_true, not_true_eq_false, and_true, true_and, and_self, if_true, if_false, Bool.true_eq_false, Bool.false_eq_true, decide_true, decide_false, decide_eq_true_eq, tabs, hr, List.take_length, List.drop_length, Nat.min_self, List.length_replicate, List.length_append, List.length_set, List.length_map, List.length_range, List.length_take, List.length_drop, buildA, layA, rowPut, rowOr, rowSetAt, rowSet, rowTake, rowDrop, rowCell, rowAgg, mkAgg, AV.size, AV.isAggV, AV.parts, AV.one, AV.solid, headSize, psize, envAll_nil, envAll_cons, get_envL_nil, get_envL_cons, thenK_normal, thenK_exit, thenK_ret, storeA_ptr, stK_some, stC_some, stD_cell, stD_agg, stE_some, stE_guard, loadA_ptr, loadA_rop, ldK_cell, ldK_agg, ldC_some, ldD_some, laC_some, laD_some, row_def, indexAddrA, indexA, fieldAddrA, fieldA, sliceA, boundsA, bndA, lenA, arrayAtA, rowOf, makeSliceA, intsOf, copyA, List.getElem?_cons_zero, List.getElem?_cons_succ, List.length_cons, List.length_nil, List.set_cons_zero, List.set_cons_succ, Nat.reduceAdd, Nat.reduceSub, Nat.reduceMul, Nat.reduceLeDiff, Nat.reduceLT, Nat.reduceGT, Int.reduceToNat, Int.reduceLE, Int.reduceLT, Int.reduceEq, Int.reduceNe, Int.reduceAdd, Int.reduceSub, Int.reduceMul, Nat.zero_add, Nat.add_zero, Nat.mul_one, Nat.one_mul, Nat.zero_mul, Nat.mul_zero, Nat.sub_zero, Nat.le_refl, Int.reduceNeg, ge_iff_le, gt_iff_lt, Option.isSome_none, Option.isSome_some, Bool.not_true, Bool.not_false, Bool.not_not, List.take_zero, List.drop_zero, List.tail_cons, or_true, true_or, or_false, false_or, not_true, not_false_iff, Int.ofNat_eq_natCast, Int.cast_ofNat_Int, reduceIte, ite_true, ite_false, dite_true, h4, k1, k2, k3, k4, k5, k6, k7, k8, k9, na, Int.toNat_natCast, tmod4, tdiv4, e0, e1, e2, e3, e4, e5, e6, e7, e8]
              refine callC_frame (C := c2 0) (mix_spec (roundAt (wordsAt p 128) (allAt (wordsAt p 128) (vInit h t false) r) r k) (k % 4) (4 + (k + k / 4) % 4) (8 + (k + 2 * (k / 4)) % 4) (12 + (k + 3 * (k / 4)) % 4) ((wordsAt p 128).getD (sigma.getD (16 * (r % 10) + 2 * k) 0) 0) ((wordsAt p 128).getD (sigma.getD (16 * (r % 10) + (2 * k + 1)) 0) 0) (by omega) (by omega) (by omega) (by omega)) [4] ?_ ?_ ?_ ?_ ?_ ?_
              · rfl
              · rfl
              · decide
              · intro q hq
                simp only [List.mem_cons, List.not_mem_nil, or_false] at hq
                subst hq
                simp only [List.length_cons, List.length_nil]; omega
              · intro j hj
                match j, hj with
                | 0, _ => rfl
              · rintro _ _ ⟨rfl, rfl⟩
                simp only [c2_P, c2_odd, v_eqR_int, v_eqR_bool, v_eqR_string, v_eqR_pointer, v_eqR_array, v_eqR_struct, v_eqR_slice, v_convR_int, v_convR_string, v_convR_bytes, v_convR_same, v_convR_slice, v_move, v_assign, v_pick, v_load, v_nilCheck, v_add, v_sub, v_mul, v_quo, v_rem, v_and, v_or, v_xor, v_andNot, v_shl, v_shr, v_lss, v_leq, v_gtr, v_geq, v_eql, v_neq, v_un, v_conv, v_arrayAt, v_makeFunc, v_slice, v_fieldAddr, v_field, v_indexAddr, v_index, v_extract, v_build, v_len, v_min, v_max, v_call, v_alloc, v_box, v_store, v_makeSlice, v_buildSlice, v_append, v_copy, nilA_ptr, nilA_rop, nilA_fn, ixAddrA_int, ixA_int, extA_tup, calA_fn, ev_tmp, ev_const, ev_func, constAV_int, constAV_bool, constAV_string, constAV_pointer, constAV_slice, optA_none, optA_some, b_add, b_sub, b_mul, b_quo, b_rem, b_and, b_or, b_xor, b_eql, b_neq, b_lss, b_leq, b_gtr, b_geq, b_shl, b_shr, b_seq, b_sne, b_beq, b_bne, b_peq, b_pne, b_qeq, b_qne, b_aeq, b_ane, u_neg, u_xor, u_not, i_xor, v_int_conv, retK_ret, retK_normal, resList_nil, resList_tmp, packA_one, packA_nil, packA_two, holds_some, holds_none, holds_guard, s_builtin_len, s_builtin_min, s_builtin_max, opsR_cons_g, resList_cell, run_skip, run_seq, run_block, run_exit, run_ret, run_loop, run_cond, run_region, regionR_true, regionR_false, planR_done, planR_stop, planR_first, planR_fork, someR_some, cont_plan, List.contains_nil, List.contains_cons, Nat.reduceBEq, Bool.or_false, Bool.false_or, List.getElem?_toArray, cont_nil, cont_code, cont_blk, cont_ret_code, cont_ret_blk, cont_exit_code, cont_exit_blk, condR_bool, opsR_nil, opsR_cons, wantR_bool, wantR_skip, valR_some, valR_none, valR_guard, valR_ite, outR_one, outR_cap, outR_none, outR_guard, nilR_some, callA_some, callB_some, callB_none, callN_some, callN_none, guard_bind, guard_map, guard_true, guard_false, get_put, get_envOf, put_none, List.getD_cons_zero, List.getD_cons_succ, Option.map_some, Option.bind_some, Option.map_none, Option.bind_none, Option.some_or, Option.or_none, Option.none_or, List.map_cons, List.map_nil, List.append_nil, List.nil_append, List.cons_append, List.toList_toArray, Option.some.injEq, reduceIte, Nat.reduceEqDiff, reduceCtorEq, ne_eq, not_false_eq_true, not_true_eq_false, and_true, true_and, and_self, if_true, if_false, Bool.true_eq_false, Bool.false_eq_true, decide_true, decide_false, decide_eq_true_eq, tabs, hr, List.take_length, List.drop_length, Nat.min_self, List.length_replicate, List.length_append, List.length_set, List.length_map, List.length_range, List.length_take, List.length_drop, buildA, layA, rowPut, rowOr, rowSetAt, rowSet, rowTake, rowDrop, rowCell, rowAgg, mkAgg, AV.size, AV.isAggV, AV.parts, AV.one, AV.solid, headSize, psize, envAll_nil, envAll_cons, get_envL_nil, get_envL_cons, thenK_normal, thenK_exit, thenK_ret, storeA_ptr, stK_some, stC_some, stD_cell, stD_agg, stE_some, stE_guard, loadA_ptr, loadA_rop, ldK_cell, ldK_agg, ldC_some, ldD_some, laC_some, laD_some, row_def, indexAddrA, indexA, fieldAddrA, fieldA, sliceA, boundsA, bndA, lenA, arrayAtA, rowOf, makeSliceA, intsOf, copyA, List.getElem?_cons_zero, List.getElem?_cons_succ, List.length_cons, List.length_nil, List.set_cons_zero, List.set_cons_succ, Nat.reduceAdd, Nat.reduceSub, Nat.reduceMul, Nat.reduceLeDiff, Nat.reduceLT, Nat.reduceGT, Int.reduceToNat, Int.reduceLE, Int.reduceLT, Int.reduceEq, Int.reduceNe, Int.reduceAdd, Int.reduceSub, Int.reduceMul, Nat.zero_add, Nat.add_zero, Nat.mul_one, Nat.one_mul, Nat.zero_mul, Nat.mul_zero, Nat.sub_zero, Nat.le_refl, Int.reduceNeg, ge_iff_le, gt_iff_lt, Option.isSome_none, Option.isSome_some, Bool.not_true, Bool.not_false, Bool.not_not, List.take_zero, List.drop_zero, List.tail_cons, or_true, true_or, or_false, false_or, not_true, not_false_iff, Int.ofNat_eq_natCast, Int.cast_ofNat_Int, reduceIte, ite_true, ite_false, dite_true, e9, overwrite, renB, renL, AV.ren]
                refine ⟨⟨k + 1, by omega⟩, by simp only; omega, weak_all ?_⟩
                exact ⟨rfl, rfl, rfl, rfl, rfl, rfl, rfl, trivial⟩
            · have k1 : ¬ (k : Int) < 8 := by omega
              have hk8 : k = 8 := by omega
              subst hk8
              simp only [c2_P, c2_odd, v_eqR_int, v_eqR_bool, v_eqR_string, v_eqR_pointer, v_eqR_array, v_eqR_struct, v_eqR_slice, v_convR_int, v_convR_string, v_convR_bytes, v_convR_same, v_convR_slice, v_move, v_assign, v_pick, v_load, v_nilCheck, v_add, v_sub, v_mul, v_quo, v_rem, v_and, v_or, v_xor, v_andNot, v_shl, v_shr, v_lss, v_leq, v_gtr, v_geq, v_eql, v_neq, v_un, v_conv, v_arrayAt, v_makeFunc, v_slice, v_fieldAddr, v_field, v_indexAddr, v_index, v_extract, v_build, v_len, v_min, v_max, v_call, v_alloc, v_box, v_store, v_makeSlice, v_buildSlice, v_append, v_copy, nilA_ptr, nilA_rop, nilA_fn, ixAddrA_int, ixA_int, extA_tup, calA_fn, ev_tmp, ev_const, ev_func, constAV_int, constAV_bool, constAV_string, constAV_pointer, constAV_slice, optA_none, optA_some, b_add, b_sub, b_mul, b_quo, b_rem, b_and, b_or, b_xor, b_eql, b_neq, b_lss, b_leq, b_gtr, b_geq, b_shl, b_shr, b_seq, b_sne, b_beq, b_bne, b_peq, b_pne, b_qeq, b_qne, b_aeq, b_ane, u_neg, u_xor, u_not, i_xor, v_int_conv, retK_ret, retK_normal, resList_nil, resList_tmp, packA_one, packA_nil, packA_two, holds_some, holds_none, holds_guard, s_builtin_len, s_builtin_min, s_builtin_max, opsR_cons_g, resList_cell, run_skip, run_seq, run_block, run_exit, run_ret, run_loop, run_cond, run_region, regionR_true, regionR_false, planR_done, planR_stop, planR_first, planR_fork, someR_some, cont_plan, List.contains_nil, List.contains_cons, Nat.reduceBEq, Bool.or_false, Bool.false_or, List.getElem?_toArray, cont_nil, cont_code, cont_blk, cont_ret_code, cont_ret_blk, cont_exit_code, cont_exit_blk, condR_bool, opsR_nil, opsR_cons, wantR_bool, wantR_skip, valR_some, valR_none, valR_guard, valR_ite, outR_one, outR_cap, outR_none, outR_guard, nilR_some, callA_some, callB_some, callB_none, callN_some, callN_none, guard_bind, guard_map, guard_true, guard_false, get_put, get_envOf, put_none, List.getD_cons_zero, List.getD_cons_succ, Option.map_some, Option.bind_some, Option.map_none, Option.bind_none, Option.some_or, Option.or_none, Option.none_or, List.map_cons, List.map_nil, List.append_nil, List.nil_append, List.cons_append, List.toList_toArray, Option.some.injEq, reduceIte, Nat.reduceEqDiff, reduceCtorEq, ne_eq, not_false_eq_true, not_true_eq_false, and_true, true_and, and_self, if_true, if_false, Bool.true_eq_false, Bool.false_eq_true, decide_true, decide_false, decide_eq_true_eq, tabs, hr, List.take_length, List.drop_length, Nat.min_self, List.length_replicate, List.length_append, List.length_set, List.length_map, List.length_range, List.length_take, List.length_drop, buildA, layA, rowPut, rowOr, rowSetAt, rowSet, rowTake, rowDrop, rowCell, rowAgg, mkAgg, AV.size, AV.isAggV, AV.parts, AV.one, AV.solid, headSize, psize, envAll_nil, envAll_cons, get_envL_nil, get_envL_cons, thenK_normal, thenK_exit, thenK_ret, storeA_ptr, stK_some, stC_some, stD_cell, stD_agg, stE_some, stE_guard, loadA_ptr, loadA_rop, ldK_cell, ldK_agg, ldC_some, ldD_some, laC_some, laD_some, row_def, indexAddrA, indexA, fieldAddrA, fieldA, sliceA, boundsA, bndA, lenA, arrayAtA, rowOf, makeSliceA, intsOf, copyA, List.getElem?_cons_zero, List.getElem?_cons_succ, List.length_cons, List.length_nil, List.set_cons_zero, List.set_cons_succ, Nat.reduceAdd, Nat.reduceSub, Nat.reduceMul, Nat.reduceLeDiff, Nat.reduceLT, Nat.reduceGT, Int.reduceToNat, Int.reduceLE, Int.reduceLT, Int.reduceEq, Int.reduceNe, Int.reduceAdd, Int.reduceSub, Int.reduceMul, Nat.zero_add, Nat.add_zero, Nat.mul_one, Nat.one_mul, Nat.zero_mul, Nat.mul_zero, Nat.sub_zero, Nat.le_refl, Int.reduceNeg, ge_iff_le, gt_iff_lt, Option.isSome_none, Option.isSome_some, Bool.not_true, Bool.not_false, Bool.not_not, List.take_zero, List.drop_zero, List.tail_cons, or_true, true_or, or_false, false_or, not_true, not_false_iff, Int.ofNat_eq_natCast, Int.cast_ofNat_Int, reduceIte, ite_true, ite_false, dite_true, k1, h7]
              refine ⟨⟨r + 1, by omega⟩, by simp only; omega, weak_all ?_⟩
              exact ⟨rfl, rfl, rfl, rfl, rfl, trivial⟩
        · have h1 : ¬ (r : Int) < 12 := by omega
          have hi : r = 12 := by omega
          subst hi
          simp only [c2_P, c2_odd, v_eqR_int, v_eqR_bool, v_eqR_string, v_eqR_pointer, v_eqR_array, v_eqR_struct, v_eqR_slice, v_convR_int, v_convR_string, v_convR_bytes, v_convR_same, v_convR_slice, v_move, v_assign, v_pick, v_load, v_nilCheck, v_add, v_sub, v_mul, v_quo, v_rem, v_and, v_or, v_xor, v_andNot, v_shl, v_shr, v_lss, v_leq, v_gtr, v_geq, v_eql, v_neq, v_un, v_conv, v_arrayAt, v_makeFunc, v_slice, v_fieldAddr, v_field, v_indexAddr, v_index, v_extract, v_build, v_len, v_min, v_max, v_call, v_alloc, v_box, v_store, v_makeSlice, v_buildSlice, v_append, v_copy, nilA_ptr, nilA_rop, nilA_fn, ixAddrA_int, ixA_int, extA_tup, calA_fn, ev_tmp, ev_const, ev_func, constAV_int, constAV_bool, constAV_string, constAV_pointer, constAV_slice, optA_none, optA_some, b_add, b_sub, b_mul, b_quo, b_rem, b_and, b_or, b_xor, b_eql, b_neq, b_lss, b_leq, b_gtr, b_geq, b_shl, b_shr, b_seq, b_sne, b_beq, b_bne, b_peq, b_pne, b_qeq, b_qne, b_aeq, b_ane, u_neg, u_xor, u_not, i_xor, v_int_conv, retK_ret, retK_normal, resList_nil, resList_tmp, packA_one, packA_nil, packA_two, holds_some, holds_none, holds_guard, s_builtin_len, s_builtin_min, s_builtin_max, opsR_cons_g, resList_cell, run_skip, run_seq, run_block, run_exit, run_ret, run_loop, run_cond, run_region, regionR_true, regionR_false, planR_done, planR_stop, planR_first, planR_fork, someR_some, cont_plan, List.contains_nil, List.contains_cons, Nat.reduceBEq, Bool.or_false, Bool.false_or, List.getElem?_toArray, cont_nil, cont_code, cont_blk, cont_ret_code, cont_ret_blk, cont_exit_code, cont_exit_blk, condR_bool, opsR_nil, opsR_cons, wantR_bool, wantR_skip, valR_some, valR_none, valR_guard, valR_ite, outR_one, outR_cap, outR_none, outR_guard, nilR_some, callA_some, callB_some, callB_none, callN_some, callN_none, guard_bind, guard_map, guard_true, guard_false, get_put, get_envOf, put_none, List.getD_cons_zero, List.getD_cons_succ, Option.map_some, Option.bind_some, Option.map_none, Option.bind_none, Option.some_or, Option.or_none, Option.none_or, List.map_cons, List.map_nil, List.append_nil, List.nil_append, List.cons_append, List.toList_toArray, Option.some.injEq, reduceIte, Nat.reduceEqDiff, reduceCtorEq, ne_eq, not_false_eq_true, not_true_eq_false, and_true, true_and, and_self, if_true, if_false, Bool.true_eq_false, Bool.false_eq_true, decide_true, decide_false, decide_eq_true_eq, tabs, hr, List.take_length, List.drop_length, Nat.min_self, List.length_replicate, List.length_append, List.length_set, List.length_map, List.length_range, List.length_take, List.length_drop, buildA, layA, rowPut, rowOr, rowSetAt, rowSet, rowTake, rowDrop, rowCell, rowAgg, mkAgg, AV.size, AV.isAggV, AV.parts, AV.one, AV.solid, headSize, psize, envAll_nil, envAll_cons, get_envL_nil, get_envL_cons, thenK_normal, thenK_exit, thenK_ret, storeA_ptr, stK_some, stC_some, stD_cell, stD_agg, stE_some, stE_guard, loadA_ptr, loadA_rop, ldK_cell, ldK_agg, ldC_some, ldD_some, laC_some, laD_some, row_def, indexAddrA, indexA, fieldAddrA, fieldA, sliceA, boundsA, bndA, lenA, arrayAtA, rowOf, makeSliceA, intsOf, copyA, List.getElem?_cons_zero, List.getElem?_cons_succ, List.length_cons, List.length_nil, List.set_cons_zero, List.set_cons_succ, Nat.reduceAdd, Nat.reduceSub, Nat.reduceMul, Nat.reduceLeDiff, Nat.reduceLT, Nat.reduceGT, Int.reduceToNat, Int.reduceLE, Int.reduceLT, Int.reduceEq, Int.reduceNe, Int.reduceAdd, Int.reduceSub, Int.reduceMul, Nat.zero_add, Nat.add_zero, Nat.mul_one, Nat.one_mul, Nat.zero_mul, Nat.mul_zero, Nat.sub_zero, Nat.le_refl, Int.reduceNeg, ge_iff_le, gt_iff_lt, Option.isSome_none, Option.isSome_some, Bool.not_true, Bool.not_false, Bool.not_not, List.take_zero, List.drop_zero, List.tail_cons, or_true, true_or, or_false, false_or, not_true, not_false_iff, Int.ofNat_eq_natCast, Int.cast_ofNat_Int, reduceIte, ite_true, ite_false, dite_true, h1, na, Int.toNat_natCast]
          refine loopR_of (good2 0) (α := {i : Nat // i ≤ 8}) (fun i => ⟨envL [(4, .ptr 0 0 0), (8, .ptr 2 0 0), (10, .ptr 4 0 0), (108, .v (.int .i64 i.val))],
            [some [.arr 8 .u64 (outAt h (allAt (wordsAt p 128) (vInit h t false) 12) i.val)], some [.arr 128 .u8 p], some [.arr 8 .u64 (List.replicate 8 0)], some [.arr 16 .u64 (wordsAt p 128)], some [.arr 16 .u64 (allAt (wordsAt p 128) (vInit h t false) 12)], some [.arr 8 .u64 firstL]]⟩) (fun i => 8 - i.val) ⟨0, by omega⟩ (by kernel_rfl) ?_ ?_
          · exact weak_all ⟨rfl, rfl, rfl, rfl, trivial⟩
          · rintro ⟨i, hi⟩
            by_cases hit : i < 8
            · have i1 : (i : Int) < 8 := by omega
              have i2 : IntKind.i64.wrap (8 + (i : Int)) = ((8 + i : Nat) : Int) := by rw [i64_id _ (by omega)]; omega
              have i3 : ((8 + i : Nat) : Int) < 16 := by omega
              have i4 : 8 + i < 16 := by omega
              have i5 : (i : Int) < 16 := by omega
              have i6 : i < 16 := by omega
              have i7 : IntKind.i64.wrap ((i : Int) + 1) = ((i + 1 : Nat) : Int) := by rw [i64_id _ (by omega)]; omega
              simp only [c2_P, c2_odd, v_eqR_int, v_eqR_bool, v_eqR_string, v_eqR_pointer, v_eqR_array, v_eqR_struct, v_eqR_slice, v_convR_int, v_convR_string, v_convR_bytes, v_convR_same, v_convR_slice, v_move, v_assign, v_pick, v_load, v_nilCheck, v_add, v_sub, v_mul, v_quo, v_rem, v_and, v_or, v_xor, v_andNot, v_shl, v_shr, v_lss, v_leq, v_gtr, v_geq, v_eql, v_neq, v_un, v_conv, v_arrayAt, v_makeFunc, v_slice, v_fieldAddr, v_field, v_indexAddr, v_index, v_extract, v_build, v_len, v_min, v_max, v_call, v_alloc, v_box, v_store, v_makeSlice, v_buildSlice, v_append, v_copy, nilA_ptr, nilA_rop, nilA_fn, ixAddrA_int, ixA_int, extA_tup, calA_fn, ev_tmp, ev_const, ev_func, constAV_int, constAV_bool, constAV_string, constAV_pointer, constAV_slice, optA_none, optA_some, b_add, b_sub, b_mul, b_quo, b_rem, b_and, b_or, b_xor, b_eql, b_neq, b_lss, b_leq, b_gtr, b_geq, b_shl, b_shr, b_seq, b_sne, b_beq, b_bne, b_peq, b_pne, b_qeq, b_qne, b_aeq, b_ane, u_neg, u_xor, u_not, i_xor, v_int_conv, retK_ret, retK_normal, resList_nil, resList_tmp, packA_one, packA_nil, packA_two, holds_some, holds_none, holds_guard, s_builtin_len, s_builtin_min, s_builtin_max, opsR_cons_g, resList_cell, run_skip, run_seq, run_block, run_exit, run_ret, run_loop, run_cond, run_region, regionR_true, regionR_false, planR_done, planR_stop, planR_first, planR_fork, someR_some, cont_plan, List.contains_nil, List.contains_cons, Nat.reduceBEq, Bool.or_false, Bool.false_or, List.getElem?_toArray, cont_nil, cont_code, cont_blk, cont_ret_code, cont_ret_blk, cont_exit_code, cont_exit_blk, condR_bool, opsR_nil, opsR_cons, wantR_bool, wantR_skip, valR_some, valR_none, valR_guard, valR_ite, outR_one, outR_cap, outR_none, outR_guard, nilR_some, callA_some, callB_some, callB_none, callN_some, callN_none, guard_bind, guard_map, guard_true, guard_false, get_put, get_envOf, put_none, List.getD_cons_zero, List.getD_cons_succ, Option.map_some, Option.bind_some, Option.map_none, Option.bind_none, Option.some_or, Option.or_none, Option.none_or, List.map_cons, List.map_nil, List.append_nil, List.nil_append, List.cons_append, List.toList_toArray, Option.some.injEq, reduceIte, Nat.reduceEqDiff, reduceCtorEq, ne_eq, not_false_eq_true, not_true_eq_false, and_true, true_and, and_self, if_true, if_false, Bool.true_eq_false, Bool.false_eq_true, decide_true, decide_false, decide_eq_true_eq, tabs, hr, List.take_length, List.drop_length, Nat.min_self, List.length_replicate, List.length_append, List.length_set, List.length_map, List.length_range, List.length_take, List.length_drop, buildA, layA, rowPut, rowOr, rowSetAt, rowSet, rowTake, rowDrop, rowCell, rowAgg, mkAgg, AV.size, AV.isAggV, AV.parts, AV.one, AV.solid, headSize, psize, envAll_nil, envAll_cons, get_envL_nil, get_envL_cons, thenK_normal, thenK_exit, thenK_ret, storeA_ptr, stK_some, stC_some, stD_cell, stD_agg, stE_some, stE_guard, loadA_ptr, loadA_rop, ldK_cell, ldK_agg, ldC_some, ldD_some, laC_some, laD_some, row_def, indexAddrA, indexA, fieldAddrA, fieldA, sliceA, boundsA, bndA, lenA, arrayAtA, rowOf, makeSliceA, intsOf, copyA, List.getElem?_cons_zero, List.getElem?_cons_succ, List.length_cons, List.length_nil, List.set_cons_zero, List.set_cons_succ, Nat.reduceAdd, Nat.reduceSub, Nat.reduceMul, Nat.reduceLeDiff, Nat.reduceLT, Nat.reduceGT, Int.reduceToNat, Int.reduceLE, Int.reduceLT, Int.reduceEq, Int.reduceNe, Int.reduceAdd, Int.reduceSub, Int.reduceMul, Nat.zero_add, Nat.add_zero, Nat.mul_one, Nat.one_mul, Nat.zero_mul, Nat.mul_zero, Nat.sub_zero, Nat.le_refl, Int.reduceNeg, ge_iff_le, gt_iff_lt, Option.isSome_none, Option.isSome_some, Bool.not_true, Bool.not_false, Bool.not_not, List.take_zero, List.drop_zero, List.tail_cons, or_true, true_or, or_false, false_or, not_true, not_false_iff, Int.ofNat_eq_natCast, Int.cast_ofNat_Int, reduceIte, ite_true, ite_false, dite_true, na, Int.toNat_natCast, hit, i1, i2, i3, i4, i5, i6, i7, xorU_eq]
              refine ⟨⟨i + 1, by omega⟩, by simp only; omega, weak_all ?_⟩
              exact ⟨rfl, rfl, rfl, rfl, trivial⟩
            · have i1 : ¬ (i : Int) < 8 := by omega
              have hi8 : i = 8 := by omega
              subst hi8
              have hlen : (outAt h (allAt (wordsAt p 128) (vInit h t false) 12) 8).length = 8 := by rw [outAt_length, hh]
              have hT : (outAt h (allAt (wordsAt p 128) (vInit h t false) 12) 8).take 8 = outAt h (allAt (wordsAt p 128) (vInit h t false) 12) 8 := List.take_of_length_le (by omega)
              simp only [c2_P, c2_odd, v_eqR_int, v_eqR_bool, v_eqR_string, v_eqR_pointer, v_eqR_array, v_eqR_struct, v_eqR_slice, v_convR_int, v_convR_string, v_convR_bytes, v_convR_same, v_convR_slice, v_move, v_assign, v_pick, v_load, v_nilCheck, v_add, v_sub, v_mul, v_quo, v_rem, v_and, v_or, v_xor, v_andNot, v_shl, v_shr, v_lss, v_leq, v_gtr, v_geq, v_eql, v_neq, v_un, v_conv, v_arrayAt, v_makeFunc, v_slice, v_fieldAddr, v_field, v_indexAddr, v_index, v_extract, v_build, v_len, v_min, v_max, v_call, v_alloc, v_box, v_store, v_makeSlice, v_buildSlice, v_append, v_copy, nilA_ptr, nilA_rop, nilA_fn, ixAddrA_int, ixA_int, extA_tup, calA_fn, ev_tmp, ev_const, ev_func, constAV_int, constAV_bool, constAV_string, constAV_pointer, constAV_slice, optA_none, optA_some, b_add, b_sub, b_mul, b_quo, b_rem, b_and, b_or, b_xor, b_eql, b_neq, b_lss, b_leq, b_gtr, b_geq, b_shl, b_shr, b_seq, b_sne, b_beq, b_bne, b_peq, b_pne, b_qeq, b_qne, b_aeq, b_ane, u_neg, u_xor, u_not, i_xor, v_int_conv, retK_ret, retK_normal, resList_nil, resList_tmp, packA_one, packA_nil, packA_two, holds_some, holds_none, holds_guard, s_builtin_len, s_builtin_min, s_builtin_max, opsR_cons_g, resList_cell, run_skip, run_seq, run_block, run_exit, run_ret, run_loop, run_cond, run_region, regionR_true, regionR_false, planR_done, planR_stop, planR_first, planR_fork, someR_some, cont_plan, List.contains_nil, List.contains_cons, Nat.reduceBEq, Bool.or_false, Bool.false_or, List.getElem?_toArray, cont_nil, cont_code, cont_blk, cont_ret_code, cont_ret_blk, cont_exit_code, cont_exit_blk, condR_bool, opsR_nil, opsR_cons, wantR_bool, wantR_skip, valR_some, valR_none, valR_guard, valR_ite, outR_one, outR_cap, outR_none, outR_guard, nilR_some, callA_some, callB_some, callB_none, callN_some, callN_none, guard_bind, guard_map, guard_true, guard_false, get_put, get_envOf, put_none, List.getD_cons_zero, List.getD_cons_succ, Option.map_some, Option.bind_some, Option.map_none, Option.bind_none, Option.some_or, Option.or_none, Option.none_or, List.map_cons, List.map_nil, List.append_nil, List.nil_append, List.cons_append, List.toList_toArray, Option.some.injEq, reduceIte, Nat.reduceEqDiff, reduceCtorEq, ne_eq, not_false_eq_true, not_true_eq_false, and_true, true_and, and_self, if_true, if_false, Bool.true_eq_false, Bool.false_eq_true, decide_true, decide_false, decide_eq_true_eq, tabs, hr, List.take_length, List.drop_length, Nat.min_self, List.length_replicate, List.length_append, List.length_set, List.length_map, List.length_range, List.length_take, List.length_drop, buildA, layA, rowPut, rowOr, rowSetAt, rowSet, rowTake, rowDrop, rowCell, rowAgg, mkAgg, AV.size, AV.isAggV, AV.parts, AV.one, AV.solid, headSize, psize, envAll_nil, envAll_cons, get_envL_nil, get_envL_cons, thenK_normal, thenK_exit, thenK_ret, storeA_ptr, stK_some, stC_some, stD_cell, stD_agg, stE_some, stE_guard, loadA_ptr, loadA_rop, ldK_cell, ldK_agg, ldC_some, ldD_some, laC_some, laD_some, row_def, indexAddrA, indexA, fieldAddrA, fieldA, sliceA, boundsA, bndA, lenA, arrayAtA, rowOf, makeSliceA, intsOf, copyA, List.getElem?_cons_zero, List.getElem?_cons_succ, List.length_cons, List.length_nil, List.set_cons_zero, List.set_cons_succ, Nat.reduceAdd, Nat.reduceSub, Nat.reduceMul, Nat.reduceLeDiff, Nat.reduceLT, Nat.reduceGT, Int.reduceToNat, Int.reduceLE, Int.reduceLT, Int.reduceEq, Int.reduceNe, Int.reduceAdd, Int.reduceSub, Int.reduceMul, Nat.zero_add, Nat.add_zero, Nat.mul_one, Nat.one_mul, Nat.zero_mul, Nat.mul_zero, Nat.sub_zero, Nat.le_refl, Int.reduceNeg, ge_iff_le, gt_iff_lt, Option.isSome_none, Option.isSome_some, Bool.not_true, Bool.not_false, Bool.not_not, List.take_zero, List.drop_zero, List.tail_cons, or_true, true_or, or_false, false_or, not_true, not_false_iff, Int.ofNat_eq_natCast, Int.cast_ofNat_Int, reduceIte, ite_true, ite_false, dite_true, i1, hT, pieceL]
theorem piece_true (h p : List Int) (t : Int) (hh : h.length = 8) (hp : p.length = 128) :
    ACall Try.prog 23 [.arr 8 .u64 h, .arr 128 .u8 p, .v (.int .u64 t), .v (.bool true)] [] fun v _ => v = .arr 8 .u64 (pieceL h p t true) := by
  refine acall_run (good2 0) Try.func23 rfl ⟨by kernel_rfl, by show 4 ≤ _; decide, by kernel_rfl, by kernel_rfl⟩ rfl ?_
  have hr : Try.f23.results.toList = [.cell 8 30] := rfl
  have hp1 : p.take 128 = p := List.take_of_length_le (by omega)
  simp only [c2_P, c2_odd, v_eqR_int, v_eqR_bool, v_eqR_string, v_eqR_pointer, v_eqR_array, v_eqR_struct, v_eqR_slice, v_convR_int, v_convR_string, v_convR_bytes, v_convR_same, v_convR_slice, v_move, v_assign, v_pick, v_load, v_nilCheck, v_add, v_sub, v_mul, v_quo, v_rem, v_and, v_or, v_xor, v_andNot, v_shl, v_shr, v_lss, v_leq, v_gtr, v_geq, v_eql, v_neq, v_un, v_conv, v_arrayAt, v_makeFunc, v_slice, v_fieldAddr, v_field, v_indexAddr, v_index, v_extract, v_build, v_len, v_min, v_max, v_call, v_alloc, v_box, v_store, v_makeSlice, v_buildSlice, v_append, v_copy, nilA_ptr, nilA_rop, nilA_fn, ixAddrA_int, ixA_int, extA_tup, calA_fn, ev_tmp, ev_const, ev_func, constAV_int, constAV_bool, constAV_string, constAV_pointer, constAV_slice, optA_none, optA_some, b_add, b_sub, b_mul, b_quo, b_rem, b_and, b_or, b_xor, b_eql, b_neq, b_lss, b_leq, b_gtr, b_geq, b_shl, b_shr, b_seq, b_sne, b_beq, b_bne, b_peq, b_pne, b_qeq, b_qne, b_aeq, b_ane, u_neg, u_xor, u_not, i_xor, v_int_conv, retK_ret, retK_normal, resList_nil, resList_tmp, packA_one, packA_nil, packA_two, holds_some, holds_none, holds_guard, s_builtin_len, s_builtin_min, s_builtin_max, opsR_cons_g, resList_cell, run_skip, run_seq, run_block, run_exit, run_ret, run_loop, run_cond, run_region, regionR_true, regionR_false, planR_done, planR_stop, planR_first, planR_fork, someR_some, cont_plan, List.contains_nil, List.contains_cons, Nat.reduceBEq, Bool.or_false, Bool.false_or, List.getElem?_toArray, cont_nil, cont_code, cont_blk, cont_ret_code, cont_ret_blk, cont_exit_code, cont_exit_blk, condR_bool, opsR_nil, opsR_cons, wantR_bool, wantR_skip, valR_some, valR_none, valR_guard, valR_ite, outR_one, outR_cap, outR_none, outR_guard, nilR_some, callA_some, callB_some, callB_none, callN_some, callN_none, guard_bind, guard_map, guard_true, guard_false, get_put, get_envOf, put_none, List.getD_cons_zero, List.getD_cons_succ, Option.map_some, Option.bind_some, Option.map_none, Option.bind_none, Option.some_or, Option.or_none, Option.none_or, List.map_cons, List.map_nil, List.append_nil, List.nil_append, List.cons_append, List.toList_toArray, Option.some.injEq, reduceIte, Nat.reduceEqDiff, reduceCtorEq, ne_eq, not_false_eq_true, not_true_eq_false, and_true, true_and, and_self, if_true, if_false, Bool.true_eq_false, Bool.false_eq_true, decide_true, decide_false, decide_eq_true_eq, tabs, hr, List.take_length, List.drop_length, Nat.min_self, List.length_replicate, List.length_append, List.length_set, List.length_map, List.length_range, List.length_take, List.length_drop, buildA, layA, rowPut, rowOr, rowSetAt, rowSet, rowTake, rowDrop, rowCell, rowAgg, mkAgg, AV.size, AV.isAggV, AV.parts, AV.one, AV.solid, headSize, psize, envAll_nil, envAll_cons, get_envL_nil, get_envL_cons, thenK_normal, thenK_exit, thenK_ret, storeA_ptr, stK_some, stC_some, stD_cell, stD_agg, stE_some, stE_guard, loadA_ptr, loadA_rop, ldK_cell, ldK_agg, ldC_some, ldD_some, laC_some, laD_some, row_def, indexAddrA, indexA, fieldAddrA, fieldA, sliceA, boundsA, bndA, lenA, arrayAtA, rowOf, makeSliceA, intsOf, copyA, List.getElem?_cons_zero, List.getElem?_cons_succ, List.length_cons, List.length_nil, List.set_cons_zero, List.set_cons_succ, Nat.reduceAdd, Nat.reduceSub, Nat.reduceMul, Nat.reduceLeDiff, Nat.reduceLT, Nat.reduceGT, Int.reduceToNat, Int.reduceLE, Int.reduceLT, Int.reduceEq, Int.reduceNe, Int.reduceAdd, Int.reduceSub, Int.reduceMul, Nat.zero_add, Nat.add_zero, Nat.mul_one, Nat.one_mul, Nat.zero_mul, Nat.mul_zero, Nat.sub_zero, Nat.le_refl, Int.reduceNeg, ge_iff_le, gt_iff_lt, Option.isSome_none, Option.isSome_some, Bool.not_true, Bool.not_false, Bool.not_not, List.take_zero, List.drop_zero, List.tail_cons, or_true, true_or, or_false, false_or, not_true, not_false_iff, Int.ofNat_eq_natCast, Int.cast_ofNat_Int, reduceIte, ite_true, ite_false, dite_true, hp1]
  refine loopR_of (good2 0) (α := {i : Nat // i ≤ 128}) (fun i => ⟨envL [(2, .v (.int .u64 t)), (3, .v (.bool true)), (4, .ptr 0 0 0), (8, .ptr 2 0 0), (9, .ptr 3 0 0), (10, .ptr 4 0 0), (21, .arr 128 .u8 p), (22, .v (.int .i64 i.val))],
    [some [.arr 8 .u64 h], some [.arr 128 .u8 p], some [.arr 8 .u64 (List.replicate 8 0)], some [.arr 16 .u64 (wordsAt p i.val)], some [.arr 16 .u64 (List.replicate 16 0)]]⟩) (fun i => 128 - i.val) ⟨0, by omega⟩ (by kernel_rfl) ?_ ?_
  · exact weak_all (by simp only [List.take_length, List.drop_length, Nat.min_self, List.length_replicate, List.length_append, List.length_set, List.length_map, List.length_range, List.length_take, List.length_drop, buildA, layA, rowPut, rowOr, rowSetAt, rowSet, rowTake, rowDrop, rowCell, rowAgg, mkAgg, AV.size, AV.isAggV, AV.parts, AV.one, AV.solid, headSize, psize, envAll_nil, envAll_cons, get_envL_nil, get_envL_cons, thenK_normal, thenK_exit, thenK_ret, storeA_ptr, stK_some, stC_some, stD_cell, stD_agg, stE_some, stE_guard, loadA_ptr, loadA_rop, ldK_cell, ldK_agg, ldC_some, ldD_some, laC_some, laD_some, row_def, indexAddrA, indexA, fieldAddrA, fieldA, sliceA, boundsA, bndA, lenA, arrayAtA, rowOf, makeSliceA, intsOf, copyA, List.getElem?_cons_zero, List.getElem?_cons_succ, List.length_cons, List.length_nil, List.set_cons_zero, List.set_cons_succ, Nat.reduceAdd, Nat.reduceSub, Nat.reduceMul, Nat.reduceLeDiff, Nat.reduceLT, Nat.reduceGT, Int.reduceToNat, Int.reduceLE, Int.reduceLT, Int.reduceEq, Int.reduceNe, Int.reduceAdd, Int.reduceSub, Int.reduceMul, Nat.zero_add, Nat.add_zero, Nat.mul_one, Nat.one_mul, Nat.zero_mul, Nat.mul_zero, Nat.sub_zero, Nat.le_refl, Int.reduceNeg, ge_iff_le, gt_iff_lt, Option.isSome_none, Option.isSome_some, Bool.not_true, Bool.not_false, Bool.not_not, List.take_zero, List.drop_zero, List.tail_cons, or_true, true_or, or_false, false_or, not_true, not_false_iff, Int.ofNat_eq_natCast, Int.cast_ofNat_Int, reduceIte, ite_true, ite_false, dite_true, get_put, get_envOf, List.getD_cons_zero, List.getD_cons_succ, Nat.reduceEqDiff, reduceIte, and_self, Int.cast_ofNat_Int])
  · rintro ⟨i, hi⟩
    have na : ∀ n : Nat, (0 : Int) ≤ n := fun n => Int.natCast_nonneg n
    by_cases hlt : i < 128
    · have h1 : (i : Int) < 128 := by omega
      have h2 : i / 8 < 16 := by omega
      have h3 : ((i / 8 : Nat) : Int) < 16 := by omega
      have h4 : IntKind.i64.wrap (8 * ((i % 8 : Nat) : Int)) = ((8 * (i % 8) : Nat) : Int) := by rw [i64_id _ (by omega)]; omega
      have h5 : IntKind.i64.wrap ((i / 8 : Nat) : Int) = ((i / 8 : Nat) : Int) := i64_nat _ (by omega)
      have h6 : IntKind.i64.wrap ((i : Int) + 1) = ((i + 1 : Nat) : Int) := by rw [i64_id _ (by omega)]; omega
      simp only [c2_P, c2_odd, v_eqR_int, v_eqR_bool, v_eqR_string, v_eqR_pointer, v_eqR_array, v_eqR_struct, v_eqR_slice, v_convR_int, v_convR_string, v_convR_bytes, v_convR_same, v_convR_slice, v_move, v_assign, v_pick, v_load, v_nilCheck, v_add, v_sub, v_mul, v_quo, v_rem, v_and, v_or, v_xor, v_andNot, v_shl, v_shr, v_lss, v_leq, v_gtr, v_geq, v_eql, v_neq, v_un, v_conv, v_arrayAt, v_makeFunc, v_slice, v_fieldAddr, v_field, v_indexAddr, v_index, v_extract, v_build, v_len, v_min, v_max, v_call, v_alloc, v_box, v_store, v_makeSlice, v_buildSlice, v_append, v_copy, nilA_ptr, nilA_rop, nilA_fn, ixAddrA_int, ixA_int, extA_tup, calA_fn, ev_tmp, ev_const, ev_func, constAV_int, constAV_bool, constAV_string, constAV_pointer, constAV_slice, optA_none, optA_some, b_add, b_sub, b_mul, b_quo, b_rem, b_and, b_or, b_xor, b_eql, b_neq, b_lss, b_leq, b_gtr, b_geq, b_shl, b_shr, b_seq, b_sne, b_beq, b_bne, b_peq, b_pne, b_qeq, b_qne, b_aeq, b_ane, u_neg, u_xor, u_not, i_xor, v_int_conv, retK_ret, retK_normal, resList_nil, resList_tmp, packA_one, packA_nil, packA_two, holds_some, holds_none, holds_guard, s_builtin_len, s_builtin_min, s_builtin_max, opsR_cons_g, resList_cell, run_skip, run_seq, run_block, run_exit, run_ret, run_loop, run_cond, run_region, regionR_true, regionR_false, planR_done, planR_stop, planR_first, planR_fork, someR_some, cont_plan, List.contains_nil, List.contains_cons, Nat.reduceBEq, Bool.or_false, Bool.false_or, List.getElem?_toArray, cont_nil, cont_code, cont_blk, cont_ret_code, cont_ret_blk, cont_exit_code, cont_exit_blk, condR_bool, opsR_nil, opsR_cons, wantR_bool, wantR_skip, valR_some, valR_none, valR_guard, valR_ite, outR_one, outR_cap, outR_none, outR_guard, nilR_some, callA_some, callB_some, callB_none, callN_some, callN_none, guard_bind, guard_map, guard_true, guard_false, get_put, get_envOf, put_none, List.getD_cons_zero, List.getD_cons_succ, Option.map_some, Option.bind_some, Option.map_none, Option.bind_none, Option.some_or, Option.or_none, Option.none_or, List.map_cons, List.map_nil, List.append_nil, List.nil_append, List.cons_append, List.toList_toArray, Option.some.injEq, reduceIte, Nat.reduceEqDiff, reduceCtorEq, ne_eq, not_false_eq_true, not_true_eq_false, and_true, true_and, and_self, if_true, if_false, Bool.true_eq_false, Bool.false_eq_true, decide_true, decide_false, decide_eq_true_eq, tabs, hr, List.take_length, List.drop_length, Nat.min_self, List.length_replicate, List.length_append, List.length_set, List.length_map, List.length_range, List.length_take, List.length_drop, buildA, layA, rowPut, rowOr, rowSetAt, rowSet, rowTake, rowDrop, rowCell, rowAgg, mkAgg, AV.size, AV.isAggV, AV.parts, AV.one, AV.solid, headSize, psize, envAll_nil, envAll_cons, get_envL_nil, get_envL_cons, thenK_normal, thenK_exit, thenK_ret, storeA_ptr, stK_some, stC_some, stD_cell, stD_agg, stE_some, stE_guard, loadA_ptr, loadA_rop, ldK_cell, ldK_agg, ldC_some, ldD_some, laC_some, laD_some, row_def, indexAddrA, indexA, fieldAddrA, fieldA, sliceA, boundsA, bndA, lenA, arrayAtA, rowOf, makeSliceA, intsOf, copyA, List.getElem?_cons_zero, List.getElem?_cons_succ, List.length_cons, List.length_nil, List.set_cons_zero, List.set_cons_succ, Nat.reduceAdd, Nat.reduceSub, Nat.reduceMul, Nat.reduceLeDiff, Nat.reduceLT, Nat.reduceGT, Int.reduceToNat, Int.reduceLE, Int.reduceLT, Int.reduceEq, Int.reduceNe, Int.reduceAdd, Int.reduceSub, Int.reduceMul, Nat.zero_add, Nat.add_zero, Nat.mul_one, Nat.one_mul, Nat.zero_mul, Nat.mul_zero, Nat.sub_zero, Nat.le_refl, Int.reduceNeg, ge_iff_le, gt_iff_lt, Option.isSome_none, Option.isSome_some, Bool.not_true, Bool.not_false, Bool.not_not, List.take_zero, List.drop_zero, List.tail_cons, or_true, true_or, or_false, false_or, not_true, not_false_iff, Int.ofNat_eq_natCast, Int.cast_ofNat_Int, reduceIte, ite_true, ite_false, dite_true, h1, h2, h3, h4, h5, h6, na, Int.toNat_natCast, tdiv8, tmod8, orU_eq]
      refine ⟨⟨i + 1, by omega⟩, by simp only; omega, weak_all ?_⟩
      simp only [List.take_length, List.drop_length, Nat.min_self, List.length_replicate, List.length_append, List.length_set, List.length_map, List.length_range, List.length_take, List.length_drop, buildA, layA, rowPut, rowOr, rowSetAt, rowSet, rowTake, rowDrop, rowCell, rowAgg, mkAgg, AV.size, AV.isAggV, AV.parts, AV.one, AV.solid, headSize, psize, envAll_nil, envAll_cons, get_envL_nil, get_envL_cons, thenK_normal, thenK_exit, thenK_ret, storeA_ptr, stK_some, stC_some, stD_cell, stD_agg, stE_some, stE_guard, loadA_ptr, loadA_rop, ldK_cell, ldK_agg, ldC_some, ldD_some, laC_some, laD_some, row_def, indexAddrA, indexA, fieldAddrA, fieldA, sliceA, boundsA, bndA, lenA, arrayAtA, rowOf, makeSliceA, intsOf, copyA, List.getElem?_cons_zero, List.getElem?_cons_succ, List.length_cons, List.length_nil, List.set_cons_zero, List.set_cons_succ, Nat.reduceAdd, Nat.reduceSub, Nat.reduceMul, Nat.reduceLeDiff, Nat.reduceLT, Nat.reduceGT, Int.reduceToNat, Int.reduceLE, Int.reduceLT, Int.reduceEq, Int.reduceNe, Int.reduceAdd, Int.reduceSub, Int.reduceMul, Nat.zero_add, Nat.add_zero, Nat.mul_one, Nat.one_mul, Nat.zero_mul, Nat.mul_zero, Nat.sub_zero, Nat.le_refl, Int.reduceNeg, ge_iff_le, gt_iff_lt, Option.isSome_none, Option.isSome_some, Bool.not_true, Bool.not_false, Bool.not_not, List.take_zero, List.drop_zero, List.tail_cons, or_true, true_or, or_false, false_or, not_true, not_false_iff, Int.ofNat_eq_natCast, Int.cast_ofNat_Int, reduceIte, ite_true, ite_false, dite_true, get_put, get_envOf, List.getD_cons_zero, List.getD_cons_succ, Nat.reduceEqDiff, reduceIte, and_self]
    · have h1 : ¬ (i : Int) < 128 := by omega
      have hi : i = 128 := by omega
      subst hi
      have hh1 : h.take 8 = h := List.take_of_length_le (by omega)
      have hh2 : h.take 16 = h := List.take_of_length_le (by omega)
      have hA : (List.replicate 16 (0 : Int)).drop 8 = List.replicate 8 0 := rfl
      have hB : (h ++ List.replicate 8 0).take 8 = h := by rw [List.take_append_of_le_length (by omega), hh1]
      have hC : (h ++ List.replicate 8 (0 : Int)).drop 16 = [] := List.drop_eq_nil_of_le (by simp [hh])
      have hD : firstL.take 8 = firstL := rfl
      have hE : firstL.length = 8 := rfl
      have hF : min 8 16 = 8 := rfl
      have hG : IntKind.u64.signed = false := rfl
      simp only [c2_P, c2_odd, c2_25, F25_eq, v_eqR_int, v_eqR_bool, v_eqR_string, v_eqR_pointer, v_eqR_array, v_eqR_struct, v_eqR_slice, v_convR_int, v_convR_string, v_convR_bytes, v_convR_same, v_convR_slice, v_move, v_assign, v_pick, v_load, v_nilCheck, v_add, v_sub, v_mul, v_quo, v_rem, v_and, v_or, v_xor, v_andNot, v_shl, v_shr, v_lss, v_leq, v_gtr, v_geq, v_eql, v_neq, v_un, v_conv, v_arrayAt, v_makeFunc, v_slice, v_fieldAddr, v_field, v_indexAddr, v_index, v_extract, v_build, v_len, v_min, v_max, v_call, v_alloc, v_box, v_store, v_makeSlice, v_buildSlice, v_append, v_copy, nilA_ptr, nilA_rop, nilA_fn, ixAddrA_int, ixA_int, extA_tup, calA_fn, ev_tmp, ev_const, ev_func, constAV_int, constAV_bool, constAV_string, constAV_pointer, constAV_slice, optA_none, optA_some, b_add, b_sub, b_mul, b_quo, b_rem, b_and, b_or, b_xor, b_eql, b_neq, b_lss, b_leq, b_gtr, b_geq, b_shl, b_shr, b_seq, b_sne, b_beq, b_bne, b_peq, b_pne, b_qeq, b_qne, b_aeq, b_ane, u_neg, u_xor, u_not, i_xor, v_int_conv, retK_ret, retK_normal, resList_nil, resList_tmp, packA_one, packA_nil, packA_two, holds_some, holds_none, holds_guard, s_builtin_len, s_builtin_min, s_builtin_max, opsR_cons_g, resList_cell, run_skip, run_seq, run_block, run_exit, run_ret, run_loop, run_cond, run_region, regionR_true, regionR_false, planR_done, planR_stop, planR_first, planR_fork, someR_some, cont_plan, List.contains_nil, List.contains_cons, Nat.reduceBEq, Bool.or_false, Bool.false_or, List.getElem?_toArray, cont_nil, cont_code, cont_blk, cont_ret_code, cont_ret_blk, cont_exit_code, cont_exit_blk, condR_bool, opsR_nil, opsR_cons, wantR_bool, wantR_skip, valR_some, valR_none, valR_guard, valR_ite, outR_one, outR_cap, outR_none, outR_guard, nilR_some, callA_some, callB_some, callB_none, callN_some, callN_none, guard_bind, guard_map, guard_true, guard_false, get_put, get_envOf, put_none, List.getD_cons_zero, List.getD_cons_succ, Option.map_some, Option.bind_some, Option.map_none, Option.bind_none, Option.some_or, Option.or_none, Option.none_or, List.map_cons, List.map_nil, List.append_nil, List.nil_append, List.cons_append, List.toList_toArray, Option.some.injEq, reduceIte, Nat.reduceEqDiff, reduceCtorEq, ne_eq, not_false_eq_true, not_true_eq_false, and_true, true_and, and_self, if_true, if_false, Bool.true_eq_false, Bool.false_eq_true, decide_true, decide_false, decide_eq_true_eq, tabs, hr, List.take_length, List.drop_length, Nat.min_self, List.length_replicate, List.length_append, List.length_set, List.length_map, List.length_range, List.length_take, List.length_drop, buildA, layA, rowPut, rowOr, rowSetAt, rowSet, rowTake, rowDrop, rowCell, rowAgg, mkAgg, AV.size, AV.isAggV, AV.parts, AV.one, AV.solid, headSize, psize, envAll_nil, envAll_cons, get_envL_nil, get_envL_cons, thenK_normal, thenK_exit, thenK_ret, storeA_ptr, stK_some, stC_some, stD_cell, stD_agg, stE_some, stE_guard, loadA_ptr, loadA_rop, ldK_cell, ldK_agg, ldC_some, ldD_some, laC_some, laD_some, row_def, indexAddrA, indexA, fieldAddrA, fieldA, sliceA, boundsA, bndA, lenA, arrayAtA, rowOf, makeSliceA, intsOf, copyA, List.getElem?_cons_zero, List.getElem?_cons_succ, List.length_cons, List.length_nil, List.set_cons_zero, List.set_cons_succ, Nat.reduceAdd, Nat.reduceSub, Nat.reduceMul, Nat.reduceLeDiff, Nat.reduceLT, Nat.reduceGT, Int.reduceToNat, Int.reduceLE, Int.reduceLT, Int.reduceEq, Int.reduceNe, Int.reduceAdd, Int.reduceSub, Int.reduceMul, Nat.zero_add, Nat.add_zero, Nat.mul_one, Nat.one_mul, Nat.zero_mul, Nat.mul_zero, Nat.sub_zero, Nat.le_refl, Int.reduceNeg, ge_iff_le, gt_iff_lt, Option.isSome_none, Option.isSome_some, Bool.not_true, Bool.not_false, Bool.not_not, List.take_zero, List.drop_zero, List.tail_cons, or_true, true_or, or_false, false_or, not_true, not_false_iff, Int.ofNat_eq_natCast, Int.cast_ofNat_Int, reduceIte, ite_true, ite_false, dite_true, h1, na, Int.toNat_natCast, hh1, hh2, hh, hA, hB, hC, hD, hE, hF, hG, Nat.min_self, xorU_eq]
      refine loopR_of (good2 0) (α := {i : Nat // i ≤ 12}) (fun i => ⟨envL [(4, .ptr 0 0 0), (8, .ptr 2 0 0), (9, .ptr 3 0 0), (10, .ptr 4 0 0), (56, .v (.int .i64 i.val))],
        [some [.arr 8 .u64 h], some [.arr 128 .u8 p], some [.arr 8 .u64 (List.replicate 8 0)], some [.arr 16 .u64 (wordsAt p 128)], some [.arr 16 .u64 (allAt (wordsAt p 128) (vInit h t true) i.val)], some [.arr 8 .u64 firstL]]⟩) (fun i => 12 - i.val) ⟨0, by omega⟩ (by kernel_rfl) ?_ ?_
      · exact weak_all ⟨rfl, rfl, rfl, rfl, rfl, trivial⟩
      · rintro ⟨r, hi⟩
        have e := @id (ordS = ByteArray.mk (List.append (List.append _ _) (List.append _ _)).toArray) rfl
        rw [← e]
        clear e
        by_cases hlt : r < 12
        · have h1 : (r : Int) < 12 := by omega
          have h2 : IntKind.i64.wrap (16 * ((r % 10 : Nat) : Int)) = ((16 * (r % 10) : Nat) : Int) := by rw [i64_id _ (by omega)]; omega
          have h3 : ((16 * (r % 10) : Nat) : Int) ≤ 160 := by omega
          have h4 : ((ordS.extract (16 * (r % 10)) 160).extract 0 16).size = 16 := by simp only [ByteArray.size_extract, ordS_size]; omega
          have h5 : (16 : Int) ≤ (((ordS.extract (16 * (r % 10)) 160).size : Nat) : Int) := by simp only [ByteArray.size_extract, ordS_size]; omega
          have hlen : (16 * (r % 10)) + 16 ≤ ordS.size := by rw [ordS_size]; omega
          have h6 : ∀ j, j < 16 → digitI ((((ordS.extract (16 * (r % 10)) 160).extract 0 16).data.toList.getD j 0).toNat : Int) = ((sigma.getD (16 * (r % 10) + j) 0 : Nat) : Int) := by
            intro j hj
            have := ext_getD ordS (16 * (r % 10)) j 16 hlen hj
            rw [ordS_size] at this
            rw [this]
            exact ordS_digit ⟨16 * (r % 10) + j, by omega⟩
          have h7 : IntKind.i64.wrap ((r : Int) + 1) = ((r + 1 : Nat) : Int) := by rw [i64_id _ (by omega)]; omega
          simp only [c2_P, c2_odd, v_eqR_int, v_eqR_bool, v_eqR_string, v_eqR_pointer, v_eqR_array, v_eqR_struct, v_eqR_slice, v_convR_int, v_convR_string, v_convR_bytes, v_convR_same, v_convR_slice, v_move, v_assign, v_pick, v_load, v_nilCheck, v_add, v_sub, v_mul, v_quo, v_rem, v_and, v_or, v_xor, v_andNot, v_shl, v_shr, v_lss, v_leq, v_gtr, v_geq, v_eql, v_neq, v_un, v_conv, v_arrayAt, v_makeFunc, v_slice, v_fieldAddr, v_field, v_indexAddr, v_index, v_extract, v_build, v_len, v_min, v_max, v_call, v_alloc, v_box, v_store, v_makeSlice, v_buildSlice, v_append, v_copy, nilA_ptr, nilA_rop, nilA_fn, ixAddrA_int, ixA_int, extA_tup, calA_fn, ev_tmp, ev_const, ev_func, constAV_int, constAV_bool, constAV_string, constAV_pointer, constAV_slice, optA_none, optA_some, b_add, b_sub, b_mul, b_quo, b_rem, b_and, b_or, b_xor, b_eql, b_neq, b_lss, b_leq, b_gtr, b_geq, b_shl, b_shr, b_seq, b_sne, b_beq, b_bne, b_peq, b_pne, b_qeq, b_qne, b_aeq, b_ane, u_neg, u_xor, u_not, i_xor, v_int_conv, retK_ret, retK_normal, resList_nil, resList_tmp, packA_one, packA_nil, packA_two, holds_some, holds_none, holds_guard, s_builtin_len, s_builtin_min, s_builtin_max, opsR_cons_g, resList_cell, run_skip, run_seq, run_block, run_exit, run_ret, run_loop, run_cond, run_region, regionR_true, regionR_false, planR_done, planR_stop, planR_first, planR_fork, someR_some, cont_plan, List.contains_nil, List.contains_cons, Nat.reduceBEq, Bool.or_false, Bool.false_or, List.getElem?_toArray, cont_nil, cont_code, cont_blk, cont_ret_code, cont_ret_blk, cont_exit_code, cont_exit_blk, condR_bool, opsR_nil, opsR_cons, wantR_bool, wantR_skip, valR_some, valR_none, valR_guard, valR_ite, outR_one, outR_cap, outR_none, outR_guard, nilR_some, callA_some, callB_some, callB_none, callN_some, callN_none, guard_bind, guard_map, guard_true, guard_false, get_put, get_envOf, put_none, List.getD_cons_zero, List.getD_cons_succ, Option.map_some, Option.bind_some, Option.map_none, Option.bind_none, Option.some_or, Option.or_none, Option.none_or, List.map_cons, List.map_nil, List.append_nil, List.nil_append, List.cons_append, List.toList_toArray, Option.some.injEq, reduceIte, Nat.reduceEqDiff, reduceCtorEq, ne_eq, not_false_eq_true, not_true_eq_false, and_true, true_and, and_self, if_true, if_false, Bool.true_eq_false, Bool.false_eq_true, decide_true, decide_false, decide_eq_true_eq, tabs, hr, List.take_length, List.drop_length, Nat.min_self, List.length_replicate, List.length_append, List.length_set, List.length_map, List.length_range, List.length_take, List.length_drop, buildA, layA, rowPut, rowOr, rowSetAt, rowSet, rowTake, rowDrop, rowCell, rowAgg, mkAgg, AV.size, AV.isAggV, AV.parts, AV.one, AV.solid, headSize, psize, envAll_nil, envAll_cons, get_envL_nil, get_envL_cons, thenK_normal, thenK_exit, thenK_ret, storeA_ptr, stK_some, stC_some, stD_cell, stD_agg, stE_some, stE_guard, loadA_ptr, loadA_rop, ldK_cell, ldK_agg, ldC_some, ldD_some, laC_some, laD_some, row_def, indexAddrA, indexA, fieldAddrA, fieldA, sliceA, boundsA, bndA, lenA, arrayAtA, rowOf, makeSliceA, intsOf, copyA, List.getElem?_cons_zero, List.getElem?_cons_succ, List.length_cons, List.length_nil, List.set_cons_zero, List.set_cons_succ, Nat.reduceAdd, Nat.reduceSub, Nat.reduceMul, Nat.reduceLeDiff, Nat.reduceLT, Nat.reduceGT, Int.reduceToNat, Int.reduceLE, Int.reduceLT, Int.reduceEq, Int.reduceNe, Int.reduceAdd, Int.reduceSub, Int.reduceMul, Nat.zero_add, Nat.add_zero, Nat.mul_one, Nat.one_mul, Nat.zero_mul, Nat.mul_zero, Nat.sub_zero, Nat.le_refl, Int.reduceNeg, ge_iff_le, gt_iff_lt, Option.isSome_none, Option.isSome_some, Bool.not_true, Bool.not_false, Bool.not_not, List.take_zero, List.drop_zero, List.tail_cons, or_true, true_or, or_false, false_or, not_true, not_false_iff, Int.ofNat_eq_natCast, Int.cast_ofNat_Int, reduceIte, ite_true, ite_false, dite_true, h1, h2, h3, h5, na, Int.toNat_natCast, tmod10, ordS_size]
          refine loopR_of (good2 0) (α := {i : Nat // i ≤ 8}) (fun i => ⟨envL [(4, .ptr 0 0 0), (8, .ptr 2 0 0), (9, .ptr 3 0 0), (10, .ptr 4 0 0), (56, .v (.int .i64 r)), (15, .v (.string ((ordS.extract (16 * (r % 10)) 160).extract 0 16))), (64, .v (.int .i64 i.val))],
            [some [.arr 8 .u64 h], some [.arr 128 .u8 p], some [.arr 8 .u64 (List.replicate 8 0)], some [.arr 16 .u64 (wordsAt p 128)], some [.arr 16 .u64 (roundAt (wordsAt p 128) (allAt (wordsAt p 128) (vInit h t true) r) r i.val)], some [.arr 8 .u64 firstL]]⟩) (fun i => 8 - i.val) ⟨0, by omega⟩ (by kernel_rfl) ?_ ?_
          · exact weak_all ⟨rfl, rfl, rfl, rfl, rfl, rfl, rfl, trivial⟩
          · rintro ⟨k, hk⟩
            by_cases hkt : k < 8
            · have k1 : (k : Int) < 8 := by omega
              have k2 : IntKind.i64.wrap (2 * (k : Int)) = ((2 * k : Nat) : Int) := by rw [i64_id _ (by omega)]; omega
              have k3 : IntKind.i64.wrap (((2 * k : Nat) : Int) + 1) = ((2 * k + 1 : Nat) : Int) := by rw [i64_id _ (by omega)]; omega
              have k4 : ((2 * k : Nat) : Int) < 16 := by omega
              have k5 : ((2 * k + 1 : Nat) : Int) < 16 := by omega
              have k6 := h6 (2 * k) (by omega)
              have k7 := h6 (2 * k + 1) (by omega)
              have k8 : ∀ j, (((sigma.getD j 0 : Nat) : Int) < 16) = True := fun j => eq_true (by have := sigma_lt j; omega)
              have k9 : ∀ j, ((sigma.getD j 0) < 16) = True := fun j => eq_true (sigma_lt j)
              have e0 : IntKind.i64.wrap ((k / 4 : Nat) : Int) = ((k / 4 : Nat) : Int) := i64_nat _ (by omega)
              have e1 : IntKind.i64.wrap ((k : Int) + ((k / 4 : Nat) : Int)) = ((k + k / 4 : Nat) : Int) := by rw [i64_id _ (by omega)]; omega
              have e2 : IntKind.i64.wrap (4 + (((k + k / 4) % 4 : Nat) : Int)) = ((4 + (k + k / 4) % 4 : Nat) : Int) := by rw [i64_id _ (by omega)]; omega
              have e3 : IntKind.i64.wrap (2 * ((k / 4 : Nat) : Int)) = ((2 * (k / 4) : Nat) : Int) := by rw [i64_id _ (by omega)]; omega
              have e4 : IntKind.i64.wrap ((k : Int) + ((2 * (k / 4) : Nat) : Int)) = ((k + 2 * (k / 4) : Nat) : Int) := by rw [i64_id _ (by omega)]; omega
              have e5 : IntKind.i64.wrap (8 + (((k + 2 * (k / 4)) % 4 : Nat) : Int)) = ((8 + (k + 2 * (k / 4)) % 4 : Nat) : Int) := by rw [i64_id _ (by omega)]; omega
              have e6 : IntKind.i64.wrap (3 * ((k / 4 : Nat) : Int)) = ((3 * (k / 4) : Nat) : Int) := by rw [i64_id _ (by omega)]; omega
              have e7 : IntKind.i64.wrap ((k : Int) + ((3 * (k / 4) : Nat) : Int)) = ((k + 3 * (k / 4) : Nat) : Int) := by rw [i64_id _ (by omega)]; omega
              have e8 : IntKind.i64.wrap (12 + (((k + 3 * (k / 4)) % 4 : Nat) : Int)) = ((12 + (k + 3 * (k / 4)) % 4 : Nat) : Int) := by rw [i64_id _ (by omega)]; omega
              have e9 : IntKind.i64.wrap ((k : Int) + 1) = ((k + 1 : Nat) : Int) := by rw [i64_id _ (by omega)]; omega
              simp only [c2_P, c2_odd, c2_53, c2_54, F53_eq, v_eqR_int, v_eqR_bool, v_eqR_string, v_eqR_pointer, v_eqR_array, v_eqR_struct, v_eqR_slice, v_convR_int, v_convR_string, v_convR_bytes, v_convR_same, v_convR_slice, v_move, v_assign, v_pick, v_load, v_nilCheck, v_add, v_sub, v_mul, v_quo, v_rem, v_and, v_or, v_xor, v_andNot, v_shl, v_shr, v_lss, v_leq, v_gtr, v_geq, v_eql, v_neq, v_un, v_conv, v_arrayAt, v_makeFunc, v_slice, v_fieldAddr, v_field, v_indexAddr, v_index, v_extract, v_build, v_len, v_min, v_max, v_call, v_alloc, v_box, v_store, v_makeSlice, v_buildSlice, v_append, v_copy, nilA_ptr, nilA_rop, nilA_fn, ixAddrA_int, ixA_int, extA_tup, calA_fn, ev_tmp, ev_const, ev_func, constAV_int, constAV_bool, constAV_string, constAV_pointer, constAV_slice, optA_none, optA_some, b_add, b_sub, b_mul, b_quo, b_rem, b_and, b_or, b_xor, b_eql, b_neq, b_lss, b_leq, b_gtr, b_geq, b_shl, b_shr, b_seq, b_sne, b_beq, b_bne, b_peq, b_pne, b_qeq, b_qne, b_aeq, b_ane, u_neg, u_xor, u_not, i_xor, v_int_conv, retK_ret, retK_normal, resList_nil, resList_tmp, packA_one, packA_nil, packA_two, holds_some, holds_none, holds_guard, s_builtin_len, s_builtin_min, s_builtin_max, opsR_cons_g, resList_cell, run_skip, run_seq, run_block, run_exit, run_ret, run_loop, run_cond, run_region, regionR_true, regionR_false, planR_done, planR_stop, planR_first, planR_fork, someR_some, cont_plan, List.contains_nil, List.contains_cons, Nat.reduceBEq, Bool.or_false, Bool.false_or, List.getElem?_toArray, cont_nil, cont_code, cont_blk, cont_ret_code, cont_ret_blk, cont_exit_code, cont_exit_blk, condR_bool, opsR_nil, opsR_cons, wantR_bool, wantR_skip, valR_some, valR_none, valR_guard, valR_ite, outR_one, outR_cap, outR_none, outR_guard, nilR_some, callA_some, callB_some, callB_none, callN_some, callN_none, guard_bind, guard_map, guard_true, guard_false, get_put, get_envOf, put_none, List.getD_cons_zero, List.getD_cons_succ, Option.map_some, Option.bind_some, Option.map_none, Option.bind_none, Option.some_or, Option.or_none, Option.none_or, List.map_cons, List.map_nil, List.append_nil, List.nil_append, List.cons_append, List.toList_toArray, Option.some.injEq, reduceIte, Nat.reduceEqDiff, reduceCtorEq, ne_eq, not_false_eq_true, not_true_eq_false, and_true, true_and, and_self, if_true, if_false, Bool.true_eq_false, Bool.false_eq_true, decide_true, decide_false, decide_eq_true_eq, tabs, hr, List.take_length, List.drop_length, Nat.min_self, List.length_replicate, List.length_append, List.length_set, List.length_map, List.length_range, List.length_take, List.length_drop, buildA, layA, rowPut, rowOr, rowSetAt, rowSet, rowTake, rowDrop, rowCell, rowAgg, mkAgg, AV.size, AV.isAggV, AV.parts, AV.one, AV.solid, headSize, psize, envAll_nil, envAll_cons, get_envL_nil, get_envL_cons, thenK_normal, thenK_exit, thenK_ret, storeA_ptr, stK_some, stC_some, stD_cell, stD_agg, stE_some, stE_guard, loadA_ptr, loadA_rop, ldK_cell, ldK_agg, ldC_some, ldD_some, laC_some, laD_some, row_def, indexAddrA, indexA, fieldAddrA, fieldA, sliceA, boundsA, bndA, lenA, arrayAtA, rowOf, makeSliceA, intsOf, copyA, List.getElem?_cons_zero, List.getElem?_cons_succ, List.length_cons, List.length_nil, List.set_cons_zero, List.set_cons_succ, Nat.reduceAdd, Nat.reduceSub, Nat.reduceMul, Nat.reduceLeDiff, Nat.reduceLT, Nat.reduceGT, Int.reduceToNat, Int.reduceLE, Int.reduceLT, Int.reduceEq, Int.reduceNe, Int.reduceAdd, Int.reduceSub, Int.reduceMul, Nat.zero_add, Nat.add_zero, Nat.mul_one, Nat.one_mul, Nat.zero_mul, Nat.mul_zero, Nat.sub_zero, Nat.le_refl, Int.reduceNeg, ge_iff_le, gt_iff_lt, Option.isSome_none, Option.isSome_some, Bool.not_true, Bool.not_false, Bool.not_not, List.take_zero, List.drop_zero, List.tail_cons, or_true, true_or, or_false, false_or, not_true, not_false_iff, Int.ofNat_eq_natCast, Int.cast_ofNat_Int, reduceIte, ite_true, ite_false, dite_true, h4, k1, k2, k3, k4, k5, k6, k7, k8, k9, na, Int.toNat_natCast, tmod4, tdiv4, e0, e1, e2, e3, e4, e5, e6, e7, e8]
              refine callC_frame (C := c2 0) (mix_spec (roundAt (wordsAt p 128) (allAt (wordsAt p 128) (vInit h t true) r) r k) (k % 4) (4 + (k + k / 4) % 4) (8 + (k + 2 * (k / 4)) % 4) (12 + (k + 3 * (k / 4)) % 4) ((wordsAt p 128).getD (sigma.getD (16 * (r % 10) + 2 * k) 0) 0) ((wordsAt p 128).getD (sigma.getD (16 * (r % 10) + (2 * k + 1)) 0) 0) (by omega) (by omega) (by omega) (by omega)) [4] ?_ ?_ ?_ ?_ ?_ ?_
              · rfl
              · rfl
              · decide
              · intro q hq
                simp only [List.mem_cons, List.not_mem_nil, or_false] at hq
                subst hq
                simp only [List.length_cons, List.length_nil]; omega
              · intro j hj
                match j, hj with
                | 0, _ => rfl
              · rintro _ _ ⟨rfl, rfl⟩
                simp only [c2_P, c2_odd, v_eqR_int, v_eqR_bool, v_eqR_string, v_eqR_pointer, v_eqR_array, v_eqR_struct, v_eqR_slice, v_convR_int, v_convR_string, v_convR_bytes, v_convR_same, v_convR_slice, v_move, v_assign, v_pick, v_load, v_nilCheck, v_add, v_sub, v_mul, v_quo, v_rem, v_and, v_or, v_xor, v_andNot, v_shl, v_shr, v_lss, v_leq, v_gtr, v_geq, v_eql, v_neq, v_un, v_conv, v_arrayAt, v_makeFunc, v_slice, v_fieldAddr, v_field, v_indexAddr, v_index, v_extract, v_build, v_len, v_min, v_max, v_call, v_alloc, v_box, v_store, v_makeSlice, v_buildSlice, v_append, v_copy, nilA_ptr, nilA_rop, nilA_fn, ixAddrA_int, ixA_int, extA_tup, calA_fn, ev_tmp, ev_const, ev_func, constAV_int, constAV_bool, constAV_string, constAV_pointer, constAV_slice, optA_none, optA_some, b_add, b_sub, b_mul, b_quo, b_rem, b_and, b_or, b_xor, b_eql, b_neq, b_lss, b_leq, b_gtr, b_geq, b_shl, b_shr, b_seq, b_sne, b_beq, b_bne, b_peq, b_pne, b_qeq, b_qne, b_aeq, b_ane, u_neg, u_xor, u_not, i_xor, v_int_conv, retK_ret, retK_normal, resList_nil, resList_tmp, packA_one, packA_nil, packA_two, holds_some, holds_none, holds_guard, s_builtin_len, s_builtin_min, s_builtin_max, opsR_cons_g, resList_cell, run_skip, run_seq, run_block, run_exit, run_ret, run_loop, run_cond, run_region, regionR_true, regionR_false, planR_done, planR_stop, planR_first, planR_fork, someR_some, cont_plan, List.contains_nil, List.contains_cons, Nat.reduceBEq, Bool.or_false, Bool.false_or, List.getElem?_toArray, cont_nil, cont_code, cont_blk, cont_ret_code, cont_ret_blk, cont_exit_code, cont_exit_blk, condR_bool, opsR_nil, opsR_cons, wantR_bool, wantR_skip, valR_some, valR_none, valR_guard, valR_ite, outR_one, outR_cap, outR_none, outR_guard, nilR_some, callA_some, callB_some, callB_none, callN_some, callN_none, guard_bind, guard_map, guard_true, guard_false, get_put, get_envOf, put_none, List.getD_cons_zero, List.getD_cons_succ, Option.map_some, Option.bind_some, Option.map_none, Option.bind_none, Option.some_or, Option.or_none, Option.none_or, List.map_cons, List.map_nil, List.append_nil, List.nil_append, List.cons_append, List.toList_toArray, Option.some.injEq, reduceIte, Nat.reduceEqDiff, reduceCtorEq, ne_eq, not_false_eq_true, not_true_eq_false, and_true, true_and, and_self, if_true, if_false, Bool.true_eq_false, Bool.false_eq_true, decide_true, decide_false, decide_eq_true_eq, tabs, hr, List.take_length, List.drop_length, Nat.min_self, List.length_replicate, List.length_append, List.length_set, List.length_map, List.length_range, List.length_take, List.length_drop, buildA, layA, rowPut, rowOr, rowSetAt, rowSet, rowTake, rowDrop, rowCell, rowAgg, mkAgg, AV.size, AV.isAggV, AV.parts, AV.one, AV.solid, headSize, psize, envAll_nil, envAll_cons, get_envL_nil, get_envL_cons, thenK_normal, thenK_exit, thenK_ret, storeA_ptr, stK_some, stC_some, stD_cell, stD_agg, stE_some, stE_guard, loadA_ptr, loadA_rop, ldK_cell, ldK_agg, ldC_some, ldD_some, laC_some, laD_some, row_def, indexAddrA, indexA, fieldAddrA, fieldA, sliceA, boundsA, bndA, lenA, arrayAtA, rowOf, makeSliceA, intsOf, copyA, List.getElem?_cons_zero, List.getElem?_cons_succ, List.length_cons, List.length_nil, List.set_cons_zero, List.set_cons_succ, Nat.reduceAdd, Nat.reduceSub, Nat.reduceMul, Nat.reduceLeDiff, Nat.reduceLT, Nat.reduceGT, Int.reduceToNat, Int.reduceLE, Int.reduceLT, Int.reduceEq, Int.reduceNe, Int.reduceAdd, Int.reduceSub, Int.reduceMul, Nat.zero_add, Nat.add_zero, Nat.mul_one, Nat.one_mul, Nat.zero_mul, Nat.mul_zero, Nat.sub_zero, Nat.le_refl, Int.reduceNeg, ge_iff_le, gt_iff_lt, Option.isSome_none, Option.isSome_some, Bool.not_true, Bool.not_false, Bool.not_not, List.take_zero, List.drop_zero, List.tail_cons, or_true, true_or, or_false, false_or, not_true, not_false_iff, Int.ofNat_eq_natCast, Int.cast_ofNat_Int, reduceIte, ite_true, ite_false, dite_true, e9, overwrite, renB, renL, AV.ren]
                refine ⟨⟨k + 1, by omega⟩, by simp only; omega, weak_all ?_⟩
                exact ⟨rfl, rfl, rfl, rfl, rfl, rfl, rfl, trivial⟩
            · have k1 : ¬ (k : Int) < 8 := by omega
              have hk8 : k = 8 := by omega
              subst hk8
              simp only [c2_P, c2_odd, v_eqR_int, v_eqR_bool, v_eqR_string, v_eqR_pointer, v_eqR_array, v_eqR_struct, v_eqR_slice, v_convR_int, v_convR_string, v_convR_bytes, v_convR_same, v_convR_slice, v_move, v_assign, v_pick, v_load, v_nilCheck, v_add, v_sub, v_mul, v_quo, v_rem, v_and, v_or, v_xor, v_andNot, v_shl, v_shr, v_lss, v_leq, v_gtr, v_geq, v_eql, v_neq, v_un, v_conv, v_arrayAt, v_makeFunc, v_slice, v_fieldAddr, v_field, v_indexAddr, v_index, v_extract, v_build, v_len, v_min, v_max, v_call, v_alloc, v_box, v_store, v_makeSlice, v_buildSlice, v_append, v_copy, nilA_ptr, nilA_rop, nilA_fn, ixAddrA_int, ixA_int, extA_tup, calA_fn, ev_tmp, ev_const, ev_func, constAV_int, constAV_bool, constAV_string, constAV_pointer, constAV_slice, optA_none, optA_some, b_add, b_sub, b_mul, b_quo, b_rem, b_and, b_or, b_xor, b_eql, b_neq, b_lss, b_leq, b_gtr, b_geq, b_shl, b_shr, b_seq, b_sne, b_beq, b_bne, b_peq, b_pne, b_qeq, b_qne, b_aeq, b_ane, u_neg, u_xor, u_not, i_xor, v_int_conv, retK_ret, retK_normal, resList_nil, resList_tmp, packA_one, packA_nil, packA_two, holds_some, holds_none, holds_guard, s_builtin_len, s_builtin_min, s_builtin_max, opsR_cons_g, resList_cell, run_skip, run_seq, run_block, run_exit, run_ret, run_loop, run_cond, run_region, regionR_true, regionR_false, planR_done, planR_stop, planR_first, planR_fork, someR_some, cont_plan, List.contains_nil, List.contains_cons, Nat.reduceBEq, Bool.or_false, Bool.false_or, List.getElem?_toArray, cont_nil, cont_code, cont_blk, cont_ret_code, cont_ret_blk, cont_exit_code, cont_exit_blk, condR_bool, opsR_nil, opsR_cons, wantR_bool, wantR_skip, valR_some, valR_none, valR_guard, valR_ite, outR_one, outR_cap, outR_none, outR_guard, nilR_some, callA_some, callB_some, callB_none, callN_some, callN_none, guard_bind, guard_map, guard_true, guard_false, get_put, get_envOf, put_none, List.getD_cons_zero, List.getD_cons_succ, Option.map_some, Option.bind_some, Option.map_none, Option.bind_none, Option.some_or, Option.or_none, Option.none_or, List.map_cons, List.map_nil, List.append_nil, List.nil_append, List.cons_append, List.toList_toArray, Option.some.injEq, reduceIte, Nat.reduceEqDiff, reduceCtorEq, ne_eq, not_false_eq_true, not_true_eq_false, and_true, true_and, and_self, if_true, if_false, Bool.true_eq_false, Bool.false_eq_true, decide_true, decide_false, decide_eq_true_eq, tabs, hr, List.take_length, List.drop_length, Nat.min_self, List.length_replicate, List.length_append, List.length_set, List.length_map, List.length_range, List.length_take, List.length_drop, buildA, layA, rowPut, rowOr, rowSetAt, rowSet, rowTake, rowDrop, rowCell, rowAgg, mkAgg, AV.size, AV.isAggV, AV.parts, AV.one, AV.solid, headSize, psize, envAll_nil, envAll_cons, get_envL_nil, get_envL_cons, thenK_normal, thenK_exit, thenK_ret, storeA_ptr, stK_some, stC_some, stD_cell, stD_agg, stE_some, stE_guard, loadA_ptr, loadA_rop, ldK_cell, ldK_agg, ldC_some, ldD_some, laC_some, laD_some, row_def, indexAddrA, indexA, fieldAddrA, fieldA, sliceA, boundsA, bndA, lenA, arrayAtA, rowOf, makeSliceA, intsOf, copyA, List.getElem?_cons_zero, List.getElem?_cons_succ, List.length_cons, List.length_nil, List.set_cons_zero, List.set_cons_succ, Nat.reduceAdd, Nat.reduceSub, Nat.reduceMul, Nat.reduceLeDiff, Nat.reduceLT, Nat.reduceGT, Int.reduceToNat, Int.reduceLE, Int.reduceLT, Int.reduceEq, Int.reduceNe, Int.reduceAdd, Int.reduceSub, Int.reduceMul, Nat.zero_add, Nat.add_zero, Nat.mul_one, Nat.one_mul, Nat.zero_mul, Nat.mul_zero, Nat.sub_zero, Nat.le_refl, Int.reduceNeg, ge_iff_le, gt_iff_lt, Option.isSome_none, Option.isSome_some, Bool.not_true, Bool.not_false, Bool.not_not, List.take_zero, List.drop_zero, List.tail_cons, or_true, true_or, or_false, false_or, not_true, not_false_iff, Int.ofNat_eq_natCast, Int.cast_ofNat_Int, reduceIte, ite_true, ite_false, dite_true, k1, h7]
              refine ⟨⟨r + 1, by omega⟩, by simp only; omega, weak_all ?_⟩
              exact ⟨rfl, rfl, rfl, rfl, rfl, trivial⟩
        · have h1 : ¬ (r : Int) < 12 := by omega
          have hi : r = 12 := by omega
          subst hi
          simp only [c2_P, c2_odd, v_eqR_int, v_eqR_bool, v_eqR_string, v_eqR_pointer, v_eqR_array, v_eqR_struct, v_eqR_slice, v_convR_int, v_convR_string, v_convR_bytes, v_convR_same, v_convR_slice, v_move, v_assign, v_pick, v_load, v_nilCheck, v_add, v_sub, v_mul, v_quo, v_rem, v_and, v_or, v_xor, v_andNot, v_shl, v_shr, v_lss, v_leq, v_gtr, v_geq, v_eql, v_neq, v_un, v_conv, v_arrayAt, v_makeFunc, v_slice, v_fieldAddr, v_field, v_indexAddr, v_index, v_extract, v_build, v_len, v_min, v_max, v_call, v_alloc, v_box, v_store, v_makeSlice, v_buildSlice, v_append, v_copy, nilA_ptr, nilA_rop, nilA_fn, ixAddrA_int, ixA_int, extA_tup, calA_fn, ev_tmp, ev_const, ev_func, constAV_int, constAV_bool, constAV_string, constAV_pointer, constAV_slice, optA_none, optA_some, b_add, b_sub, b_mul, b_quo, b_rem, b_and, b_or, b_xor, b_eql, b_neq, b_lss, b_leq, b_gtr, b_geq, b_shl, b_shr, b_seq, b_sne, b_beq, b_bne, b_peq, b_pne, b_qeq, b_qne, b_aeq, b_ane, u_neg, u_xor, u_not, i_xor, v_int_conv, retK_ret, retK_normal, resList_nil, resList_tmp, packA_one, packA_nil, packA_two, holds_some, holds_none, holds_guard, s_builtin_len, s_builtin_min, s_builtin_max, opsR_cons_g, resList_cell, run_skip, run_seq, run_block, run_exit, run_ret, run_loop, run_cond, run_region, regionR_true, regionR_false, planR_done, planR_stop, planR_first, planR_fork, someR_some, cont_plan, List.contains_nil, List.contains_cons, Nat.reduceBEq, Bool.or_false, Bool.false_or, List.getElem?_toArray, cont_nil, cont_code, cont_blk, cont_ret_code, cont_ret_blk, cont_exit_code, cont_exit_blk, condR_bool, opsR_nil, opsR_cons, wantR_bool, wantR_skip, valR_some, valR_none, valR_guard, valR_ite, outR_one, outR_cap, outR_none, outR_guard, nilR_some, callA_some, callB_some, callB_none, callN_some, callN_none, guard_bind, guard_map, guard_true, guard_false, get_put, get_envOf, put_none, List.getD_cons_zero, List.getD_cons_succ, Option.map_some, Option.bind_some, Option.map_none, Option.bind_none, Option.some_or, Option.or_none, Option.none_or, List.map_cons, List.map_nil, List.append_nil, List.nil_append, List.cons_append, List.toList_toArray, Option.some.injEq, reduceIte, Nat.reduceEqDiff, reduceCtorEq, ne_eq, not_false_eq_true, not_true_eq_false, and_true, true_and, and_self, if_true, if_false, Bool.true_eq_false, Bool.false_eq_true, decide_true, decide_false, decide_eq_true_eq, tabs, hr, List.take_length, List.drop_length, Nat.min_self, List.length_replicate, List.length_append, List.length_set, List.length_map, List.length_range, List.length_take, List.length_drop, buildA, layA, rowPut, rowOr, rowSetAt, rowSet, rowTake, rowDrop, rowCell, rowAgg, mkAgg, AV.size, AV.isAggV, AV.parts, AV.one, AV.solid, headSize, psize, envAll_nil, envAll_cons, get_envL_nil, get_envL_cons, thenK_normal, thenK_exit, thenK_ret, storeA_ptr, stK_some, stC_some, stD_cell, stD_agg, stE_some, stE_guard, loadA_ptr, loadA_rop, ldK_cell, ldK_agg, ldC_some, ldD_some, laC_some, laD_some, row_def, indexAddrA, indexA, fieldAddrA, fieldA, sliceA, boundsA, bndA, lenA, arrayAtA, rowOf, makeSliceA, intsOf, copyA, List.getElem?_cons_zero, List.getElem?_cons_succ, List.length_cons, List.length_nil, List.set_cons_zero, List.set_cons_succ, Nat.reduceAdd, Nat.reduceSub, Nat.reduceMul, Nat.reduceLeDiff, Nat.reduceLT, Nat.reduceGT, Int.reduceToNat, Int.reduceLE, Int.reduceLT, Int.reduceEq, Int.reduceNe, Int.reduceAdd, Int.reduceSub, Int.reduceMul, Nat.zero_add, Nat.add_zero, Nat.mul_one, Nat.one_mul, Nat.zero_mul, Nat.mul_zero, Nat.sub_zero, Nat.le_refl, Int.reduceNeg, ge_iff_le, gt_iff_lt, Option.isSome_none, Option.isSome_some, Bool.not_true, Bool.not_false, Bool.not_not, List.take_zero, List.drop_zero, List.tail_cons, or_true, true_or, or_false, false_or, not_true, not_false_iff, Int.ofNat_eq_natCast, Int.cast_ofNat_Int, reduceIte, ite_true, ite_false, dite_true, h1, na, Int.toNat_natCast]
          refine loopR_of (good2 0) (α := {i : Nat // i ≤ 8}) (fun i => ⟨envL [(4, .ptr 0 0 0), (8, .ptr 2 0 0), (10, .ptr 4 0 0), (108, .v (.int .i64 i.val))],
            [some [.arr 8 .u64 (outAt h (allAt (wordsAt p 128) (vInit h t true) 12) i.val)], some [.arr 128 .u8 p], some [.arr 8 .u64 (List.replicate 8 0)], some [.arr 16 .u64 (wordsAt p 128)], some [.arr 16 .u64 (allAt (wordsAt p 128) (vInit h t true) 12)], some [.arr 8 .u64 firstL]]⟩) (fun i => 8 - i.val) ⟨0, by omega⟩ (by kernel_rfl) ?_ ?_
          · exact weak_all ⟨rfl, rfl, rfl, rfl, trivial⟩
          · rintro ⟨i, hi⟩
            by_cases hit : i < 8
            · have i1 : (i : Int) < 8 := by omega
              have i2 : IntKind.i64.wrap (8 + (i : Int)) = ((8 + i : Nat) : Int) := by rw [i64_id _ (by omega)]; omega
              have i3 : ((8 + i : Nat) : Int) < 16 := by omega
              have i4 : 8 + i < 16 := by omega
              have i5 : (i : Int) < 16 := by omega
              have i6 : i < 16 := by omega
              have i7 : IntKind.i64.wrap ((i : Int) + 1) = ((i + 1 : Nat) : Int) := by rw [i64_id _ (by omega)]; omega
              simp only [c2_P, c2_odd, v_eqR_int, v_eqR_bool, v_eqR_string, v_eqR_pointer, v_eqR_array, v_eqR_struct, v_eqR_slice, v_convR_int, v_convR_string, v_convR_bytes, v_convR_same, v_convR_slice, v_move, v_assign, v_pick, v_load, v_nilCheck, v_add, v_sub, v_mul, v_quo, v_rem, v_and, v_or, v_xor, v_andNot, v_shl, v_shr, v_lss, v_leq, v_gtr, v_geq, v_eql, v_neq, v_un, v_conv, v_arrayAt, v_makeFunc, v_slice, v_fieldAddr, v_field, v_indexAddr, v_index, v_extract, v_build, v_len, v_min, v_max, v_call, v_alloc, v_box, v_store, v_makeSlice, v_buildSlice, v_append, v_copy, nilA_ptr, nilA_rop, nilA_fn, ixAddrA_int, ixA_int, extA_tup, calA_fn, ev_tmp, ev_const, ev_func, constAV_int, constAV_bool, constAV_string, constAV_pointer, constAV_slice, optA_none, optA_some, b_add, b_sub, b_mul, b_quo, b_rem, b_and, b_or, b_xor, b_eql, b_neq, b_lss, b_leq, b_gtr, b_geq, b_shl, b_shr, b_seq, b_sne, b_beq, b_bne, b_peq, b_pne, b_qeq, b_qne, b_aeq, b_ane, u_neg, u_xor, u_not, i_xor, v_int_conv, retK_ret, retK_normal, resList_nil, resList_tmp, packA_one, packA_nil, packA_two, holds_some, holds_none, holds_guard, s_builtin_len, s_builtin_min, s_builtin_max, opsR_cons_g, resList_cell, run_skip, run_seq, run_block, run_exit, run_ret, run_loop, run_cond, run_region, regionR_true, regionR_false, planR_done, planR_stop, planR_first, planR_fork, someR_some, cont_plan, List.contains_nil, List.contains_cons, Nat.reduceBEq, Bool.or_false, Bool.false_or, List.getElem?_toArray, cont_nil, cont_code, cont_blk, cont_ret_code, cont_ret_blk, cont_exit_code, cont_exit_blk, condR_bool, opsR_nil, opsR_cons, wantR_bool, wantR_skip, valR_some, valR_none, valR_guard, valR_ite, outR_one, outR_cap, outR_none, outR_guard, nilR_some, callA_some, callB_some, callB_none, callN_some, callN_none, guard_bind, guard_map, guard_true, guard_false, get_put, get_envOf, put_none, List.getD_cons_zero, List.getD_cons_succ, Option.map_some, Option.bind_some, Option.map_none, Option.bind_none, Option.some_or, Option.or_none, Option.none_or, List.map_cons, List.map_nil, List.append_nil, List.nil_append, List.cons_append, List.toList_toArray, Option.some.injEq, reduceIte, Nat.reduceEqDiff, reduceCtorEq, ne_eq, not_false_eq_true, not_true_eq_false, and_true, true_and, and_self, if_true, if_false, Bool.true_eq_false, Bool.false_eq_true, decide_true, decide_false, decide_eq_true_eq, tabs, hr, List.take_length, List.drop_length, Nat.min_self, List.length_replicate, List.length_append, List.length_set, List.length_map, List.length_range, List.length_take, List.length_drop, buildA, layA, rowPut, rowOr, rowSetAt, rowSet, rowTake, rowDrop, rowCell, rowAgg, mkAgg, AV.size, AV.isAggV, AV.parts, AV.one, AV.solid, headSize, psize, envAll_nil, envAll_cons, get_envL_nil, get_envL_cons, thenK_normal, thenK_exit, thenK_ret, storeA_ptr, stK_some, stC_some, stD_cell, stD_agg, stE_some, stE_guard, loadA_ptr, loadA_rop, ldK_cell, ldK_agg, ldC_some, ldD_some, laC_some, laD_some, row_def, indexAddrA, indexA, fieldAddrA, fieldA, sliceA, boundsA, bndA, lenA, arrayAtA, rowOf, makeSliceA, intsOf, copyA, List.getElem?_cons_zero, List.getElem?_cons_succ, List.length_cons, List.length_nil, List.set_cons_zero, List.set_cons_succ, Nat.reduceAdd, Nat.reduceSub, Nat.reduceMul, Nat.reduceLeDiff, Nat.reduceLT, Nat.reduceGT, Int.reduceToNat, Int.reduceLE, Int.reduceLT, Int.reduceEq, Int.reduceNe, Int.reduceAdd, Int.reduceSub, Int.reduceMul, Nat.zero_add, Nat.add_zero, Nat.mul_one, Nat.one_mul, Nat.zero_mul, Nat.mul_zero, Nat.sub_zero, Nat.le_refl, Int.reduceNeg, ge_iff_le, gt_iff_lt, Option.isSome_none, Option.isSome_some, Bool.not_true, Bool.not_false, Bool.not_not, List.take_zero, List.drop_zero, List.tail_cons, or_true, true_or, or_false, false_or, not_true, not_false_iff, Int.ofNat_eq_natCast, Int.cast_ofNat_Int, reduceIte, ite_true, ite_false, dite_true, na, Int.toNat_natCast, hit, i1, i2, i3, i4, i5, i6, i7, xorU_eq]
              refine ⟨⟨i + 1, by omega⟩, by simp only; omega, weak_all ?_⟩
              exact ⟨rfl, rfl, rfl, rfl, trivial⟩
            · have i1 : ¬ (i : Int) < 8 := by omega
              have hi8 : i = 8 := by omega
              subst hi8
              have hlen : (outAt h (allAt (wordsAt p 128) (vInit h t true) 12) 8).length = 8 := by rw [outAt_length, hh]
              have hT : (outAt h (allAt (wordsAt p 128) (vInit h t true) 12) 8).take 8 = outAt h (allAt (wordsAt p 128) (vInit h t true) 12) 8 := List.take_of_length_le (by omega)
              simp only [c2_P, c2_odd, v_eqR_int, v_eqR_bool, v_eqR_string, v_eqR_pointer, v_eqR_array, v_eqR_struct, v_eqR_slice, v_convR_int, v_convR_string, v_convR_bytes, v_convR_same, v_convR_slice, v_move, v_assign, v_pick, v_load, v_nilCheck, v_add, v_sub, v_mul, v_quo, v_rem, v_and, v_or, v_xor, v_andNot, v_shl, v_shr, v_lss, v_leq, v_gtr, v_geq, v_eql, v_neq, v_un, v_conv, v_arrayAt, v_makeFunc, v_slice, v_fieldAddr, v_field, v_indexAddr, v_index, v_extract, v_build, v_len, v_min, v_max, v_call, v_alloc, v_box, v_store, v_makeSlice, v_buildSlice, v_append, v_copy, nilA_ptr, nilA_rop, nilA_fn, ixAddrA_int, ixA_int, extA_tup, calA_fn, ev_tmp, ev_const, ev_func, constAV_int, constAV_bool, constAV_string, constAV_pointer, constAV_slice, optA_none, optA_some, b_add, b_sub, b_mul, b_quo, b_rem, b_and, b_or, b_xor, b_eql, b_neq, b_lss, b_leq, b_gtr, b_geq, b_shl, b_shr, b_seq, b_sne, b_beq, b_bne, b_peq, b_pne, b_qeq, b_qne, b_aeq, b_ane, u_neg, u_xor, u_not, i_xor, v_int_conv, retK_ret, retK_normal, resList_nil, resList_tmp, packA_one, packA_nil, packA_two, holds_some, holds_none, holds_guard, s_builtin_len, s_builtin_min, s_builtin_max, opsR_cons_g, resList_cell, run_skip, run_seq, run_block, run_exit, run_ret, run_loop, run_cond, run_region, regionR_true, regionR_false, planR_done, planR_stop, planR_first, planR_fork, someR_some, cont_plan, List.contains_nil, List.contains_cons, Nat.reduceBEq, Bool.or_false, Bool.false_or, List.getElem?_toArray, cont_nil, cont_code, cont_blk, cont_ret_code, cont_ret_blk, cont_exit_code, cont_exit_blk, condR_bool, opsR_nil, opsR_cons, wantR_bool, wantR_skip, valR_some, valR_none, valR_guard, valR_ite, outR_one, outR_cap, outR_none, outR_guard, nilR_some, callA_some, callB_some, callB_none, callN_some, callN_none, guard_bind, guard_map, guard_true, guard_false, get_put, get_envOf, put_none, List.getD_cons_zero, List.getD_cons_succ, Option.map_some, Option.bind_some, Option.map_none, Option.bind_none, Option.some_or, Option.or_none, Option.none_or, List.map_cons, List.map_nil, List.append_nil, List.nil_append, List.cons_append, List.toList_toArray, Option.some.injEq, reduceIte, Nat.reduceEqDiff, reduceCtorEq, ne_eq, not_false_eq_true, not_true_eq_false, and_true, true_and, and_self, if_true, if_false, Bool.true_eq_false, Bool.false_eq_true, decide_true, decide_false, decide_eq_true_eq, tabs, hr, List.take_length, List.drop_length, Nat.min_self, List.length_replicate, List.length_append, List.length_set, List.length_map, List.length_range, List.length_take, List.length_drop, buildA, layA, rowPut, rowOr, rowSetAt, rowSet, rowTake, rowDrop, rowCell, rowAgg, mkAgg, AV.size, AV.isAggV, AV.parts, AV.one, AV.solid, headSize, psize, envAll_nil, envAll_cons, get_envL_nil, get_envL_cons, thenK_normal, thenK_exit, thenK_ret, storeA_ptr, stK_some, stC_some, stD_cell, stD_agg, stE_some, stE_guard, loadA_ptr, loadA_rop, ldK_cell, ldK_agg, ldC_some, ldD_some, laC_some, laD_some, row_def, indexAddrA, indexA, fieldAddrA, fieldA, sliceA, boundsA, bndA, lenA, arrayAtA, rowOf, makeSliceA, intsOf, copyA, List.getElem?_cons_zero, List.getElem?_cons_succ, List.length_cons, List.length_nil, List.set_cons_zero, List.set_cons_succ, Nat.reduceAdd, Nat.reduceSub, Nat.reduceMul, Nat.reduceLeDiff, Nat.reduceLT, Nat.reduceGT, Int.reduceToNat, Int.reduceLE, Int.reduceLT, Int.reduceEq, Int.reduceNe, Int.reduceAdd, Int.reduceSub, Int.reduceMul, Nat.zero_add, Nat.add_zero, Nat.mul_one, Nat.one_mul, Nat.zero_mul, Nat.mul_zero, Nat.sub_zero, Nat.le_refl, Int.reduceNeg, ge_iff_le, gt_iff_lt, Option.isSome_none, Option.isSome_some, Bool.not_true, Bool.not_false, Bool.not_not, List.take_zero, List.drop_zero, List.tail_cons, or_true, true_or, or_false, false_or, not_true, not_false_iff, Int.ofNat_eq_natCast, Int.cast_ofNat_Int, reduceIte, ite_true, ite_false, dite_true, i1, hT, pieceL]
end Go.Proofs.Ytfnfmbikooeiaaa
