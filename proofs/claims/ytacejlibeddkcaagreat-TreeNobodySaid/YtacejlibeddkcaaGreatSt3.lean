/- A state of a run, and that the run comes to it. It proves no statement. -/
import Derived.Test.YtacejlibeddkcaaGreatSt2
set_option linter.unusedVariables false
set_option linter.unusedSimpArgs false
set_option linter.unusedSectionVars false
set_option maxRecDepth 1000000
set_option linter.unusedVariables false
namespace Go.Proofs.YtacejlibeddkcaaGreat.Ev
open Go.Proofs
noncomputable def A20 : N16 AV := ⟨(.bool false), (.ptr 75 0), (.tup []), (.ptr 75 0), (.ptr 75 0), (.bool false), (.bool false), (.ptr 75 0), (.ptr 75 0), (.ptr 75 4), (.ptr 21 0), (.i64 1), (.bool false), (.bool false), (.bool false), (.ptr 75 0)⟩
noncomputable def A21 : N16 AV := ⟨(.ptr 75 0), (.ptr 75 4), (.ptr 21 0), (.i64 18), (.bool false), (.bool false), (.tup []), (.tup []), (.tup []), (.tup []), (.tup []), (.tup []), (.tup []), (.tup []), (.tup []), (.tup [])⟩
noncomputable def A22 : Loc := ⟨A20, A21, A01, A01, A01, A01, A01, A01, A01, A01, A01, A01, A01, A01, A01, A01⟩
noncomputable def A23 : Tr Ob := .node A181 A1671
noncomputable def A24 : Tr Ob := .node A23 A196
noncomputable def A25 : Tr Ob := .node A171 A24
noncomputable def A26 : Tr Ob := .node A25 A1159
noncomputable def A27 : Tr AV := .node (.leaf A184) (.leaf (.i64 0))
noncomputable def A28 : Tr AV := .node (.leaf (.i64 27)) .nil
noncomputable def A29 : Tr AV := .node A27 A28
noncomputable def A210 : Ob := .row 194 3 3 2 A29
noncomputable def A211 : Tr Ob := .node (.leaf A210) .nil
noncomputable def A212 : Tr Ob := .node A211 .nil
noncomputable def A213 : Tr Ob := .node A212 .nil
noncomputable def A214 : Tr Ob := .node A213 .nil
noncomputable def A215 : Tr Ob := .node A214 .nil
noncomputable def A216 : Tr Ob := .node A215 .nil
noncomputable def A217 : Tr Ob := .node A216 .nil
noncomputable def A218 : Tr Ob := .node A217 .nil
noncomputable def A219 : Tr Ob := .node A1183 A218
noncomputable def A220 : Tr Ob := .node A219 A1194
noncomputable def A221 : Tr Ob := .node A1174 A220
noncomputable def A222 : Tr Ob := .node A1206 A218
noncomputable def A223 : Tr Ob := .node A222 A1218
noncomputable def A224 : Tr Ob := .node A223 A1232
noncomputable def A225 : Tr Ob := .node A221 A224
noncomputable def A226 : Tr Ob := .node A26 A225
noncomputable def A227 : Tr AV := .node (.leaf (.i64 1)) (.leaf (.i64 0))
noncomputable def A228 : Tr AV := .node A227 A1254
noncomputable def A229 : Ob := .row 59 3 3 2 A228
noncomputable def A230 : Tr Ob := .node (.leaf A229) .nil
noncomputable def A231 : Tr Ob := .node A230 .nil
noncomputable def A232 : Tr Ob := .node A231 .nil
noncomputable def A233 : Tr Ob := .node A232 .nil
noncomputable def A234 : Tr Ob := .node A233 .nil
noncomputable def A235 : Tr Ob := .node A234 .nil
noncomputable def A236 : Tr Ob := .node A235 .nil
noncomputable def A237 : Tr Ob := .node A236 .nil
noncomputable def A238 : Tr Ob := .node A1307 A237
noncomputable def A239 : Tr Ob := .node A238 A1157
noncomputable def A240 : Tr Ob := .node A1279 A239
noncomputable def A241 : Tr Ob := .node A240 A1335
noncomputable def A242 : Tr Ob := .node A1146 A1405
noncomputable def A243 : Tr Ob := .node A242 A1349
noncomputable def A244 : Tr Ob := .node A1348 A243
noncomputable def A245 : Tr Ob := .node A1360 A1405
noncomputable def A246 : Tr Ob := .node A245 A1371
noncomputable def A247 : Tr Ob := .node A246 A1448
noncomputable def A248 : Tr Ob := .node A244 A247
noncomputable def A249 : Tr Ob := .node A241 A248
noncomputable def A250 : Tr Ob := .node A226 A249
noncomputable def A251 : Tr Ob := .node A1508 A1671
noncomputable def A252 : Tr Ob := .node A251 A1361
noncomputable def A253 : Tr Ob := .node A1493 A252
noncomputable def A254 : Tr Ob := .node A253 A1528
noncomputable def A255 : Tr Ob := .node A1557 A169
noncomputable def A256 : Tr Ob := .node A255 A1570
noncomputable def A257 : Tr Ob := .node A1542 A256
noncomputable def A258 : Tr Ob := .node A1582 A169
noncomputable def A259 : Tr Ob := .node A258 A1157
noncomputable def A260 : Tr Ob := .node A259 A1585
noncomputable def A261 : Tr Ob := .node A257 A260
noncomputable def A262 : Tr Ob := .node A254 A261
noncomputable def A263 : Tr Ob := .node A1620 A237
noncomputable def A264 : Tr Ob := .node A263 A182
noncomputable def A265 : Tr Ob := .node A1605 A264
noncomputable def A266 : Tr Ob := .node A265 A1641
noncomputable def A267 : Tr Ob := .node A1156 A1671
noncomputable def A268 : Tr Ob := .node A267 A1218
noncomputable def A269 : Tr Ob := .node A268 A1673
noncomputable def A270 : Tr Ob := .node A1646 A269
noncomputable def A271 : Tr Ob := .node A266 A270
noncomputable def A272 : Tr Ob := .node A262 A271
noncomputable def A273 : Tr Ob := .node A250 A272
noncomputable def A2L : Loc := A22
noncomputable def A2H : Heap := ⟨87, A273⟩
theorem A2_is : run aC2 A1L A1H = .norm A2L A2H := by kernel_rfl
end Go.Proofs.YtacejlibeddkcaaGreat.Ev
