/- Pieces of the run of AuditKnown, by the kernel. Conditions: none. -/
import Derived.Test.YtflanpmacjdlaaaGreatDoorAuditObj
namespace Go.Ae.Audit
set_option maxRecDepth 100000
theorem p0 : trimO 22300745198530623141535719425569866649698304 7 [0, 1, 242, 243, 376, 378, 379, 380, 381, 382, 502, 503, 504, 505] (execN 2 tB tP tE d0 m0 h0) = some (.go d1 m1 h1) := by kernel_rfl
theorem p1 : trimO 22300745198530623141535719425569866649698304 7 [0, 1, 242, 243, 376, 378, 379, 380, 381, 382, 502, 503, 504, 505] (execN 1 (srN 2 tB) tP tE d1 m1 h1) = some (.go d2 m2 h2) := by kernel_rfl
theorem p2 : trimO 22300745198530623141535719425569866649698304 7 [0, 1, 242, 243, 376, 378, 379, 380, 381, 382, 502, 503, 504, 505, 1187, 1191, 1279, 1281, 1283] (execN 1 (srN 1 (srN 2 tB)) tP tE d2 m2 h2) = some (.go d3 m3 h3) := by kernel_rfl
theorem p3 : trimO 22300745198530623141535719425569866649698304 7 [0, 1, 242, 243, 376, 378, 379, 380, 381, 382, 503, 504, 505, 1187, 1191, 1279, 1283, 1361, 1365, 1453, 1457, 1651, 1655, 1754, 1756, 1858, 1876] (execN 1 (srN 1 (srN 1 (srN 2 tB))) tP tE d3 m3 h3) = some (.go d4 m4 h4) := by kernel_rfl
theorem p4 : trimO 22300745198530623141535719425569866649698304 255 [0, 1, 242, 243, 376, 378, 379, 380, 381, 382, 503, 504, 505, 1187, 1191, 1279, 1283, 1361, 1365, 1453, 1457, 1651, 1754, 1756, 1858, 1876, 1959, 2058] (execN 4 (srN 1 (srN 1 (srN 1 (srN 2 tB)))) tP tE d4 m4 h4) = some (.go d5 m5 h5) := by kernel_rfl
theorem p5 : trimO 22300745198530623141535719425569866649698304 175103 [0, 1, 242, 243, 376, 378, 379, 380, 381, 382, 503, 504, 505, 1187, 1191, 1279, 1283, 1361, 1365, 1453, 1457, 1651, 1754, 1756, 1858, 1876, 1959, 2058, 2110] (exec (srN 4 (srN 1 (srN 1 (srN 1 (srN 2 tB))))) tP tE d5 m5 h5) = some (.ret d6 m6 h6) := by kernel_rfl
end Go.Ae.Audit
