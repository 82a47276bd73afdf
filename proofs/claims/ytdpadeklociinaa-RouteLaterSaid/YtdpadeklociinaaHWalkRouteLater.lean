import Derived.Test.YtdpadeklociinaaHLaterA
import Derived.Test.YtdpadeklociinaaHLaterB
import Derived.Test.YtdpadeklociinaaHLaterC
import Derived.Test.YtdpadeklociinaaHLaterE
import Derived.Test.YtdpadeklociinaaHLeave
set_option linter.unusedVariables false
set_option linter.unusedSimpArgs false
namespace Go.Proofs.Ytdpadeklociinaa.PA
open Go.RowKit Go.Maps Go.Proofs.YtdpadeklociinaaW.PrintWords Go.Proofs.YtdpadeklociinaaW.PrintLast Go.Proofs.YtdpadeklociinaaW.PrintMore Go.Proofs.Ytdpadeklociinaa
/-- What is told of the four times at a plant. -/
theorem later_facts {N : Net.Nw} (hv : N.Valid) {p lo hi q : Int} (hp : p ∈ N.plants) (h0 : 0 ≤ lo) (hlh : lo ≤ hi) :
    (0 ≤ Net.enc (N.early p lo q) → 0 ≤ Net.enc (N.early p hi q) → Net.enc (N.early p lo q) ≤ Net.enc (N.early p hi q)) ∧
    (0 ≤ Net.encN (N.late p lo q) → 0 ≤ Net.encN (N.late p hi q) → Net.encN (N.late p lo q) ≤ Net.encN (N.late p hi q)) ∧
    (0 ≤ Net.enc (N.early p lo q) → lo ≤ Net.enc (N.early p lo q)) ∧ Net.encN (N.late p hi q) ≤ hi := by
  refine ⟨?_, ?_, ?_, ?_⟩
  · cases h1 : N.early p lo q with
    | none => intro h; simp [Net.enc] at h
    | some v =>
      cases h2 : N.early p hi q with
      | none => intro _ h; simp [Net.enc] at h
      | some v' => intro _ _; exact hv.later hp hlh h1 h2
  · cases h1 : N.late p lo q with
    | none => intro h; simp [Net.encN] at h
    | some v =>
      cases h2 : N.late p hi q with
      | none => intro _ h; simp [Net.encN] at h
      | some v' => intro _ _; exact hv.later' hp hlh h1 h2
  · cases h1 : N.early p lo q with
    | none => intro h; simp [Net.enc] at h
    | some v => intro _; obtain ⟨_, _, _, _, h⟩ := N.early_sound h1; exact h
  · cases h1 : N.late p hi q with
    | none => simp [Net.encN]; omega
    | some v => exact (N.late_sound h1).1.2
set_option maxRecDepth 100000 in
theorem later16_all (aX aY aU aV : Addr) (nX cX nY cY nU cU nV cV : Nat) (x xv yv uv vv lo hi : Int) (W : World) (Q : Exit → Act → World → Prop) (u0 u1 u4 u5 u6 u7 u8 u10 u12 u14 u16 u18 u19 u20 u21 u22 u23 u24 u25 u26 u27 u28 u29 u30 u31 u32 u33 u34 u35 u36 u37 u38 u39 u40 u41 u42 u43 u44 u45 u46 u47 u48 u49 u50 u51 u52 u53 u54 u55 u56 u57 u58 u59 u60 u61 u62 u63 u64 u65 u66 u67 u68 u69 u70 u71 u72 u73 u74 u75 u76 u77 u78 u79 u80 u81 u82 u83 u84 u85 u86 u87 u88 u89 u90 u91 u92 u93 u94 u95 u96 u97 u98 u99 u100 u101 u102 u103 u104 u105 u106 u107 u108 u109 u110 u111 u112 u113 u114 u115 u116 u117 u118 u119 u120 u121 u122 u123 u124 u125 u126 u127 u128 u129 u130 u131 u132 u133 u134 u135 u136 u137 u138 u139 u140 u141 u142 u143 u144 u145 u146 u147 u148 u149 u150 u151 u152 u153 u154 u155 u156 u157 u158 : Value) (hx0 : 0 ≤ x) (hxX : x < (nX : Int)) (hxY : x < (nY : Int)) (hxU : x < (nU : Int)) (hxV : x < (nV : Int)) (gX : W.cell? (aX.add x.toNat) = some (.int .i64 xv)) (gY : W.cell? (aY.add x.toNat) = some (.int .i64 yv)) (gU : W.cell? (aU.add x.toNat) = some (.int .i64 uv)) (gV : W.cell? (aV.add x.toNat) = some (.int .i64 vv)) (f1 : 0 ≤ xv → 0 ≤ yv → xv ≤ yv) (f2 : 0 ≤ uv → 0 ≤ vv → uv ≤ vv) (f3 : 0 ≤ xv → lo ≤ xv) (f4 : vv ≤ hi) (h : ∀ (v88 v89 v90 v91 v92 v93 v94 v95 v96 v97 v98 v99 v100 v101 v102 v103 v104 v105 v106 v107 v108 v109 v110 v111 v112 v113 v114 v115 v116 v117 v118 v119 v120 v121 v122 v123 v124 v125 v126 v127 v128 v129 v130 v131 v132 v133 v134 v135 v136 v137 v138 v139 v140 v141 v142 v143 v144 v145 v146 v147 v148 v149 v150 v151 v152 v153 v154 v155 v156 v157 : Value) (n : Nat), Q .normal ⟨#[u0, u1, .int .i64 lo, .int .i64 hi, u4, u5, u6, u7, u8, .slice (some aX) nX cX, u10, .slice (some aY) nY cY, u12, .slice (some aU) nU cU, u14, .slice (some aV) nV cV, u16, .int .i64 x, u18, u19, u20, u21, u22, u23, u24, u25, u26, u27, u28, u29, u30, u31, u32, u33, u34, u35, u36, u37, u38, u39, u40, u41, u42, u43, u44, u45, u46, u47, u48, u49, u50, u51, u52, u53, u54, u55, u56, u57, u58, u59, u60, u61, u62, u63, u64, u65, u66, u67, u68, u69, u70, u71, u72, u73, u74, u75, u76, u77, u78, u79, u80, u81, u82, u83, u84, u85, u86, u87, v88, v89, v90, v91, v92, v93, v94, v95, v96, v97, v98, v99, v100, v101, v102, v103, v104, v105, v106, v107, v108, v109, v110, v111, v112, v113, v114, v115, v116, v117, v118, v119, v120, v121, v122, v123, v124, v125, v126, v127, v128, v129, v130, v131, v132, v133, v134, v135, v136, v137, v138, v139, v140, v141, v142, v143, v144, v145, v146, v147, v148, v149, v150, v151, v152, v153, v154, v155, v156, v157, .bool false], []⟩ (W.drewN n)) : Code.wp Try.prog later16 Q ⟨#[u0, u1, .int .i64 lo, .int .i64 hi, u4, u5, u6, u7, u8, .slice (some aX) nX cX, u10, .slice (some aY) nY cY, u12, .slice (some aU) nU cU, u14, .slice (some aV) nV cV, u16, .int .i64 x, u18, u19, u20, u21, u22, u23, u24, u25, u26, u27, u28, u29, u30, u31, u32, u33, u34, u35, u36, u37, u38, u39, u40, u41, u42, u43, u44, u45, u46, u47, u48, u49, u50, u51, u52, u53, u54, u55, u56, u57, u58, u59, u60, u61, u62, u63, u64, u65, u66, u67, u68, u69, u70, u71, u72, u73, u74, u75, u76, u77, u78, u79, u80, u81, u82, u83, u84, u85, u86, u87, u88, u89, u90, u91, u92, u93, u94, u95, u96, u97, u98, u99, u100, u101, u102, u103, u104, u105, u106, u107, u108, u109, u110, u111, u112, u113, u114, u115, u116, u117, u118, u119, u120, u121, u122, u123, u124, u125, u126, u127, u128, u129, u130, u131, u132, u133, u134, u135, u136, u137, u138, u139, u140, u141, u142, u143, u144, u145, u146, u147, u148, u149, u150, u151, u152, u153, u154, u155, u156, u157, u158], []⟩ W := by
  have d9 : decide (hi < vv) = false := decide_eq_false (by omega)
  by_cases c1 : 0 ≤ xv
  · have d1 := decide_eq_true c1
    have d8 : decide (xv < lo) = false := decide_eq_false (by have := f3 c1; omega)
    by_cases c2 : 0 ≤ yv
    · have d2 := decide_eq_true c2
      have d3 : decide (yv < xv) = false := decide_eq_false (by have := f1 c1 c2; omega)
      by_cases c4 : 0 ≤ uv
      · have d4 := decide_eq_true c4
        by_cases c5 : 0 ≤ vv
        · have d5 := decide_eq_true c5
          have d6 : decide (vv < uv) = false := decide_eq_false (by have := f2 c4 c5; omega)
          exact later16_aa aX aY aU aV nX cX nY cY nU cU nV cV x xv yv uv vv lo hi W Q u0 u1 u4 u5 u6 u7 u8 u10 u12 u14 u16 u18 u19 u20 u21 u22 u23 u24 u25 u26 u27 u28 u29 u30 u31 u32 u33 u34 u35 u36 u37 u38 u39 u40 u41 u42 u43 u44 u45 u46 u47 u48 u49 u50 u51 u52 u53 u54 u55 u56 u57 u58 u59 u60 u61 u62 u63 u64 u65 u66 u67 u68 u69 u70 u71 u72 u73 u74 u75 u76 u77 u78 u79 u80 u81 u82 u83 u84 u85 u86 u87 u88 u89 u90 u91 u92 u93 u94 u95 u96 u97 u98 u99 u100 u101 u102 u103 u104 u105 u106 u107 u108 u109 u110 u111 u112 u113 u114 u115 u116 u117 u118 u119 u120 u121 u122 u123 u124 u125 u126 u127 u128 u129 u130 u131 u132 u133 u134 u135 u136 u137 u138 u139 u140 u141 u142 u143 u144 u145 u146 u147 u148 u149 u150 u151 u152 u153 u154 u155 u156 u157 u158 hx0 hxX hxY hxU hxV gX gY gU gV d1 d8 d2 d3 d4 d5 d6 d9 h
        · have d5 := decide_eq_false c5
          exact later16_ab aX aY aU aV nX cX nY cY nU cU nV cV x xv yv uv vv lo hi W Q u0 u1 u4 u5 u6 u7 u8 u10 u12 u14 u16 u18 u19 u20 u21 u22 u23 u24 u25 u26 u27 u28 u29 u30 u31 u32 u33 u34 u35 u36 u37 u38 u39 u40 u41 u42 u43 u44 u45 u46 u47 u48 u49 u50 u51 u52 u53 u54 u55 u56 u57 u58 u59 u60 u61 u62 u63 u64 u65 u66 u67 u68 u69 u70 u71 u72 u73 u74 u75 u76 u77 u78 u79 u80 u81 u82 u83 u84 u85 u86 u87 u88 u89 u90 u91 u92 u93 u94 u95 u96 u97 u98 u99 u100 u101 u102 u103 u104 u105 u106 u107 u108 u109 u110 u111 u112 u113 u114 u115 u116 u117 u118 u119 u120 u121 u122 u123 u124 u125 u126 u127 u128 u129 u130 u131 u132 u133 u134 u135 u136 u137 u138 u139 u140 u141 u142 u143 u144 u145 u146 u147 u148 u149 u150 u151 u152 u153 u154 u155 u156 u157 u158 hx0 hxX hxY hxU hxV gX gY gU gV d1 d8 d2 d3 d4 d5 d9 h
      · have d4 := decide_eq_false c4
        exact later16_ac aX aY aU aV nX cX nY cY nU cU nV cV x xv yv uv vv lo hi W Q u0 u1 u4 u5 u6 u7 u8 u10 u12 u14 u16 u18 u19 u20 u21 u22 u23 u24 u25 u26 u27 u28 u29 u30 u31 u32 u33 u34 u35 u36 u37 u38 u39 u40 u41 u42 u43 u44 u45 u46 u47 u48 u49 u50 u51 u52 u53 u54 u55 u56 u57 u58 u59 u60 u61 u62 u63 u64 u65 u66 u67 u68 u69 u70 u71 u72 u73 u74 u75 u76 u77 u78 u79 u80 u81 u82 u83 u84 u85 u86 u87 u88 u89 u90 u91 u92 u93 u94 u95 u96 u97 u98 u99 u100 u101 u102 u103 u104 u105 u106 u107 u108 u109 u110 u111 u112 u113 u114 u115 u116 u117 u118 u119 u120 u121 u122 u123 u124 u125 u126 u127 u128 u129 u130 u131 u132 u133 u134 u135 u136 u137 u138 u139 u140 u141 u142 u143 u144 u145 u146 u147 u148 u149 u150 u151 u152 u153 u154 u155 u156 u157 u158 hx0 hxX hxY hxU hxV gX gY gU gV d1 d8 d2 d3 d4 d9 h
    · have d2 := decide_eq_false c2
      by_cases c4 : 0 ≤ uv
      · have d4 := decide_eq_true c4
        by_cases c5 : 0 ≤ vv
        · have d5 := decide_eq_true c5
          have d6 : decide (vv < uv) = false := decide_eq_false (by have := f2 c4 c5; omega)
          exact later16_ba aX aY aU aV nX cX nY cY nU cU nV cV x xv yv uv vv lo hi W Q u0 u1 u4 u5 u6 u7 u8 u10 u12 u14 u16 u18 u19 u20 u21 u22 u23 u24 u25 u26 u27 u28 u29 u30 u31 u32 u33 u34 u35 u36 u37 u38 u39 u40 u41 u42 u43 u44 u45 u46 u47 u48 u49 u50 u51 u52 u53 u54 u55 u56 u57 u58 u59 u60 u61 u62 u63 u64 u65 u66 u67 u68 u69 u70 u71 u72 u73 u74 u75 u76 u77 u78 u79 u80 u81 u82 u83 u84 u85 u86 u87 u88 u89 u90 u91 u92 u93 u94 u95 u96 u97 u98 u99 u100 u101 u102 u103 u104 u105 u106 u107 u108 u109 u110 u111 u112 u113 u114 u115 u116 u117 u118 u119 u120 u121 u122 u123 u124 u125 u126 u127 u128 u129 u130 u131 u132 u133 u134 u135 u136 u137 u138 u139 u140 u141 u142 u143 u144 u145 u146 u147 u148 u149 u150 u151 u152 u153 u154 u155 u156 u157 u158 hx0 hxX hxY hxU hxV gX gY gU gV d1 d8 d2 d4 d5 d6 d9 h
        · have d5 := decide_eq_false c5
          exact later16_bb aX aY aU aV nX cX nY cY nU cU nV cV x xv yv uv vv lo hi W Q u0 u1 u4 u5 u6 u7 u8 u10 u12 u14 u16 u18 u19 u20 u21 u22 u23 u24 u25 u26 u27 u28 u29 u30 u31 u32 u33 u34 u35 u36 u37 u38 u39 u40 u41 u42 u43 u44 u45 u46 u47 u48 u49 u50 u51 u52 u53 u54 u55 u56 u57 u58 u59 u60 u61 u62 u63 u64 u65 u66 u67 u68 u69 u70 u71 u72 u73 u74 u75 u76 u77 u78 u79 u80 u81 u82 u83 u84 u85 u86 u87 u88 u89 u90 u91 u92 u93 u94 u95 u96 u97 u98 u99 u100 u101 u102 u103 u104 u105 u106 u107 u108 u109 u110 u111 u112 u113 u114 u115 u116 u117 u118 u119 u120 u121 u122 u123 u124 u125 u126 u127 u128 u129 u130 u131 u132 u133 u134 u135 u136 u137 u138 u139 u140 u141 u142 u143 u144 u145 u146 u147 u148 u149 u150 u151 u152 u153 u154 u155 u156 u157 u158 hx0 hxX hxY hxU hxV gX gY gU gV d1 d8 d2 d4 d5 d9 h
      · have d4 := decide_eq_false c4
        exact later16_bc aX aY aU aV nX cX nY cY nU cU nV cV x xv yv uv vv lo hi W Q u0 u1 u4 u5 u6 u7 u8 u10 u12 u14 u16 u18 u19 u20 u21 u22 u23 u24 u25 u26 u27 u28 u29 u30 u31 u32 u33 u34 u35 u36 u37 u38 u39 u40 u41 u42 u43 u44 u45 u46 u47 u48 u49 u50 u51 u52 u53 u54 u55 u56 u57 u58 u59 u60 u61 u62 u63 u64 u65 u66 u67 u68 u69 u70 u71 u72 u73 u74 u75 u76 u77 u78 u79 u80 u81 u82 u83 u84 u85 u86 u87 u88 u89 u90 u91 u92 u93 u94 u95 u96 u97 u98 u99 u100 u101 u102 u103 u104 u105 u106 u107 u108 u109 u110 u111 u112 u113 u114 u115 u116 u117 u118 u119 u120 u121 u122 u123 u124 u125 u126 u127 u128 u129 u130 u131 u132 u133 u134 u135 u136 u137 u138 u139 u140 u141 u142 u143 u144 u145 u146 u147 u148 u149 u150 u151 u152 u153 u154 u155 u156 u157 u158 hx0 hxX hxY hxU hxV gX gY gU gV d1 d8 d2 d4 d9 h
  · have d1 := decide_eq_false c1
    by_cases c4 : 0 ≤ uv
    · have d4 := decide_eq_true c4
      by_cases c5 : 0 ≤ vv
      · have d5 := decide_eq_true c5
        have d6 : decide (vv < uv) = false := decide_eq_false (by have := f2 c4 c5; omega)
        exact later16_ca aX aY aU aV nX cX nY cY nU cU nV cV x xv yv uv vv lo hi W Q u0 u1 u4 u5 u6 u7 u8 u10 u12 u14 u16 u18 u19 u20 u21 u22 u23 u24 u25 u26 u27 u28 u29 u30 u31 u32 u33 u34 u35 u36 u37 u38 u39 u40 u41 u42 u43 u44 u45 u46 u47 u48 u49 u50 u51 u52 u53 u54 u55 u56 u57 u58 u59 u60 u61 u62 u63 u64 u65 u66 u67 u68 u69 u70 u71 u72 u73 u74 u75 u76 u77 u78 u79 u80 u81 u82 u83 u84 u85 u86 u87 u88 u89 u90 u91 u92 u93 u94 u95 u96 u97 u98 u99 u100 u101 u102 u103 u104 u105 u106 u107 u108 u109 u110 u111 u112 u113 u114 u115 u116 u117 u118 u119 u120 u121 u122 u123 u124 u125 u126 u127 u128 u129 u130 u131 u132 u133 u134 u135 u136 u137 u138 u139 u140 u141 u142 u143 u144 u145 u146 u147 u148 u149 u150 u151 u152 u153 u154 u155 u156 u157 u158 hx0 hxX hxY hxU hxV gX gY gU gV d1 d4 d5 d6 d9 h
      · have d5 := decide_eq_false c5
        exact later16_cb aX aY aU aV nX cX nY cY nU cU nV cV x xv yv uv vv lo hi W Q u0 u1 u4 u5 u6 u7 u8 u10 u12 u14 u16 u18 u19 u20 u21 u22 u23 u24 u25 u26 u27 u28 u29 u30 u31 u32 u33 u34 u35 u36 u37 u38 u39 u40 u41 u42 u43 u44 u45 u46 u47 u48 u49 u50 u51 u52 u53 u54 u55 u56 u57 u58 u59 u60 u61 u62 u63 u64 u65 u66 u67 u68 u69 u70 u71 u72 u73 u74 u75 u76 u77 u78 u79 u80 u81 u82 u83 u84 u85 u86 u87 u88 u89 u90 u91 u92 u93 u94 u95 u96 u97 u98 u99 u100 u101 u102 u103 u104 u105 u106 u107 u108 u109 u110 u111 u112 u113 u114 u115 u116 u117 u118 u119 u120 u121 u122 u123 u124 u125 u126 u127 u128 u129 u130 u131 u132 u133 u134 u135 u136 u137 u138 u139 u140 u141 u142 u143 u144 u145 u146 u147 u148 u149 u150 u151 u152 u153 u154 u155 u156 u157 u158 hx0 hxX hxY hxU hxV gX gY gU gV d1 d4 d5 d9 h
    · have d4 := decide_eq_false c4
      exact later16_cc aX aY aU aV nX cX nY cY nU cU nV cV x xv yv uv vv lo hi W Q u0 u1 u4 u5 u6 u7 u8 u10 u12 u14 u16 u18 u19 u20 u21 u22 u23 u24 u25 u26 u27 u28 u29 u30 u31 u32 u33 u34 u35 u36 u37 u38 u39 u40 u41 u42 u43 u44 u45 u46 u47 u48 u49 u50 u51 u52 u53 u54 u55 u56 u57 u58 u59 u60 u61 u62 u63 u64 u65 u66 u67 u68 u69 u70 u71 u72 u73 u74 u75 u76 u77 u78 u79 u80 u81 u82 u83 u84 u85 u86 u87 u88 u89 u90 u91 u92 u93 u94 u95 u96 u97 u98 u99 u100 u101 u102 u103 u104 u105 u106 u107 u108 u109 u110 u111 u112 u113 u114 u115 u116 u117 u118 u119 u120 u121 u122 u123 u124 u125 u126 u127 u128 u129 u130 u131 u132 u133 u134 u135 u136 u137 u138 u139 u140 u141 u142 u143 u144 u145 u146 u147 u148 u149 u150 u151 u152 u153 u154 u155 u156 u157 u158 hx0 hxX hxY hxU hxV gX gY gU gV d1 d4 d9 h
set_option maxRecDepth 100000 in
set_option maxHeartbeats 4000000 in
theorem RouteLater.calls (k : Nat) (A0_0 : Option Addr) (c0_0 : Nat) (l0_0 : List Int) (A0_1 : Option Addr) (c0_1 : Nat) (l0_1 : List S23) (a1 : Int) (a2 : Int) (a3 : Int) (r : Bool) (w : World) (hr0_0 : Kd.C (Kd.int .i64) w A0_0 l0_0.length l0_0) (hc0_0 : l0_0.length ≤ c0_0) (hr0_1 : Kd.C k23 w A0_1 l0_1.length l0_1) (hc0_1 : l0_1.length ≤ c0_1) (h : netI l0_0 l0_1 = true ∧ r = true) :
    Calls Try.prog 4 #[.agg #[.slice A0_0 l0_0.length c0_0, .slice A0_1 l0_1.length c0_1], .int .i64 a1, .int .i64 a2, .int .i64 a3] w fun e w' => e = .returned (.bool r) ∧ Below w.heap.size w w' := by
  obtain ⟨hI, rfl⟩ := h
  have HI := Aside0.mk hI
  have HR0 := Aside0.mk hr0_0
  have HR1 := Aside0.mk hr0_1
  clear hr0_0 hr0_1 hI
  have N0 := Aside0.mk (NetW.new A0_0 c0_0 l0_0 A0_1 c0_1 l0_1 w)
  go_enter Try.func4, Try.ntmps4
  go_upto_if 22 with (first | (go_at_call 21; refine (letterbaglaw33_awake.calls 10 true _ awake_f).mono ?_; rintro e w2 ⟨rfl, hb⟩; have N1 := Aside0.mk (N0.out.next hb); clear hb))
  go_cut [2, 3] (fun v2 v3 wc => ∃ (lo hi : Int), v2 = .int .i64 lo ∧ v3 = .int .i64 hi ∧ Aside0 (lo ≤ hi) ∧ Aside0 (NetW A0_0 c0_0 l0_0 A0_1 c0_1 l0_1 w wc))
  case first =>
    by_cases c : a3 < a2
    · go_wp2
      go_meet
      case rel => exact ⟨a3, a2, rfl, rfl, ⟨by omega⟩, N1⟩
    · have c' := decide_eq_false c
      go_wp2
      go_meet
      case rel => exact ⟨a2, a3, rfl, rfl, ⟨by omega⟩, N1⟩
  case rest =>
    obtain ⟨lo, hi, rfl, rfl, HLH, NC⟩ := hcut
    clear N0 N1
    obtain ⟨n0, n1, n2⟩ := NC.out.cells
    have KC0 := Aside0.mk (Kd.C_below HR0.out NC.out.below)
    have KC1 := Aside0.mk (Kd.C_below HR1.out NC.out.below)
    rcases fits_f HI.out a1 a1 lo 0 with hf1 | ⟨hf1, F1⟩
    · have HF1 := Aside0.mk hf1
      clear hf1
      go_wp2_with (first | (go_at_call 22; refine (letterbaglaw33_fits.calls (10 + 0) A0_0 c0_0 l0_0 A0_1 c0_1 l0_1 a1 a1 lo false _ KC0.out hc0_0 KC1.out hc0_1 HF1.out).mono ?_; rintro e w3 ⟨rfl, hb⟩; have N3 := Aside0.mk (NC.out.next hb); clear hb))
      go_ret
      exact ⟨rfl, N3.out.below⟩
    · have HF1 := Aside0.mk hf1
      have HP1 := Aside0.mk F1
      clear hf1 F1
      rcases fits_f HI.out a1 a1 hi 0 with hf2 | ⟨hf2, F2⟩
      · have HF2 := Aside0.mk hf2
        clear hf2
        go_wp2_with (first | (go_at_call_of 22 lo; refine (letterbaglaw33_fits.calls (10 + 0) A0_0 c0_0 l0_0 A0_1 c0_1 l0_1 a1 a1 lo true _ KC0.out hc0_0 KC1.out hc0_1 HF1.out).mono ?_; rintro e w3 ⟨rfl, hb⟩; have N3 := Aside0.mk (NC.out.next hb); clear hb; obtain ⟨m0, m1, m2⟩ := N3.out.cells) | (go_at_call_of 22 hi; refine (letterbaglaw33_fits.calls (10 + 0) A0_0 c0_0 l0_0 A0_1 c0_1 l0_1 a1 a1 hi false _ (Kd.C_below HR0.out N3.out.below) hc0_0 (Kd.C_below HR1.out N3.out.below) hc0_1 HF2.out).mono ?_; rintro e w4 ⟨rfl, hb⟩; have N4 := Aside0.mk (N3.out.next hb); clear hb; obtain ⟨o0, o1, o2⟩ := N4.out.cells))
        go_ret
        exact ⟨rfl, N4.out.below⟩
      · have HF2 := Aside0.mk hf2
        have HP2 := Aside0.mk F2
        clear hf2 F2
        obtain ⟨X, hX⟩ : ∃ X, X = (netOf l0_0 l0_1).arriveL a1 lo := ⟨_, rfl⟩
        obtain ⟨Y, hY⟩ : ∃ Y, Y = (netOf l0_0 l0_1).arriveL a1 hi := ⟨_, rfl⟩
        obtain ⟨U, hU⟩ : ∃ U, U = (netOf l0_0 l0_1).leaveL a1 lo := ⟨_, rfl⟩
        obtain ⟨V, hV⟩ : ∃ V, V = (netOf l0_0 l0_1).leaveL a1 hi := ⟨_, rfl⟩
        have HX : Aside0 (route_Arrive.f l0_0 l0_1 a1 lo = some (X, 0)) := ⟨by rw [hX]; exact arrive_f HI.out HP1.out.valid HP1.out.inA HP1.out.t0 HP1.out.t1⟩
        have HY : Aside0 (route_Arrive.f l0_0 l0_1 a1 hi = some (Y, 0)) := ⟨by rw [hY]; exact arrive_f HI.out HP2.out.valid HP2.out.inA HP2.out.t0 HP2.out.t1⟩
        have HU : Aside0 (route_Leave.f l0_0 l0_1 a1 lo = some (U, 0)) := ⟨by rw [hU]; exact leave_f HI.out HP1.out.valid HP1.out.inA HP1.out.t0 HP1.out.t1⟩
        have HV : Aside0 (route_Leave.f l0_0 l0_1 a1 hi = some (V, 0)) := ⟨by rw [hV]; exact leave_f HI.out HP2.out.valid HP2.out.inA HP2.out.t0 HP2.out.t1⟩
        have LX : Aside0 (X.length = l0_0.length ∧ Y.length = l0_0.length ∧ U.length = l0_0.length ∧ V.length = l0_0.length) := ⟨by rw [hX, hY, hU, hV]; unfold Net.Nw.arriveL Net.Nw.leaveL; simp [netOf]⟩
        have FA : Aside0 (∀ x : Int, 0 ≤ x → x < l0_0.length → (0 ≤ rd X x → 0 ≤ rd Y x → rd X x ≤ rd Y x) ∧ (0 ≤ rd U x → 0 ≤ rd V x → rd U x ≤ rd V x) ∧ (0 ≤ rd X x → lo ≤ rd X x) ∧ rd V x ≤ hi) := ⟨by
          intro x h0 h1
          obtain ⟨n, rfl⟩ : ∃ n : Nat, x = (n : Int) := ⟨x.toNat, by omega⟩
          have hn : n < l0_0.length := by omega
          have := later_facts HP1.out.valid (p := a1) (q := l0_0[n]) HP1.out.inA HP1.out.t0 HLH.out
          have e : ∀ (f : Int → Int), rd (l0_0.map f) (n : Int) = f l0_0[n] := fun f => by rw [rd_get (by rw [List.length_map]; exact hn), List.getElem_map]
          rw [hX, hY, hU, hV]
          unfold Net.Nw.arriveL Net.Nw.leaveL
          rw [show (netOf l0_0 l0_1).plants = l0_0 from rfl, e, e, e, e]
          exact this⟩
        have h9 := HP1.out.nine
        clear hX hY hU hV
        go_wp2_with (first | (go_at_call_of 22 lo; refine (letterbaglaw33_fits.calls (10 + 0) A0_0 c0_0 l0_0 A0_1 c0_1 l0_1 a1 a1 lo true _ KC0.out hc0_0 KC1.out hc0_1 HF1.out).mono ?_; rintro e w3 ⟨rfl, hb⟩; have N3 := Aside0.mk (NC.out.next hb); clear hb; obtain ⟨m0, m1, m2⟩ := N3.out.cells) | (go_at_call_of 22 hi; refine (letterbaglaw33_fits.calls (10 + 0) A0_0 c0_0 l0_0 A0_1 c0_1 l0_1 a1 a1 hi true _ (Kd.C_below HR0.out N3.out.below) hc0_0 (Kd.C_below HR1.out N3.out.below) hc0_1 HF2.out).mono ?_; rintro e w4 ⟨rfl, hb⟩; have N4 := Aside0.mk (N3.out.next hb); clear hb; obtain ⟨o0, o1, o2⟩ := N4.out.cells) | (go_at_call_of 23 lo; refine (route_Arrive.calls A0_0 c0_0 l0_0 A0_1 c0_1 l0_1 a1 lo X 0 _ (Kd.C_below HR0.out N4.out.below) hc0_0 (Kd.C_below HR1.out N4.out.below) hc0_1 HX.out).mono ?_; rintro e w5 ⟨vX, rfl, ho, hb⟩; obtain ⟨AX, cX, rfl⟩ := Kd.R_slice ho; have N5 := Aside0.mk (N4.out.next hb); have KX := Aside0.mk (Kd.R_reads' ho).2.2; clear ho hb; obtain ⟨pX0, pX1, pX2⟩ := N5.out.cells) | (go_at_call_of 23 hi; refine (route_Arrive.calls A0_0 c0_0 l0_0 A0_1 c0_1 l0_1 a1 hi Y 0 _ (Kd.C_below HR0.out N5.out.below) hc0_0 (Kd.C_below HR1.out N5.out.below) hc0_1 HY.out).mono ?_; rintro e w6 ⟨vY, rfl, ho, hb⟩; obtain ⟨AY, cY, rfl⟩ := Kd.R_slice ho; have N6 := Aside0.mk (N5.out.next hb); have KX' := Aside0.mk (Kd.C_below KX.out hb); clear KX; have KX := KX'; clear KX'; have KY := Aside0.mk (Kd.R_reads' ho).2.2; clear ho hb; obtain ⟨pY0, pY1, pY2⟩ := N6.out.cells) | (go_at_call_of 24 lo; refine (route_Leave.calls A0_0 c0_0 l0_0 A0_1 c0_1 l0_1 a1 lo U 0 _ (Kd.C_below HR0.out N6.out.below) hc0_0 (Kd.C_below HR1.out N6.out.below) hc0_1 HU.out).mono ?_; rintro e w7 ⟨vU, rfl, ho, hb⟩; obtain ⟨AU, cU, rfl⟩ := Kd.R_slice ho; have N7 := Aside0.mk (N6.out.next hb); have KX' := Aside0.mk (Kd.C_below KX.out hb); clear KX; have KX := KX'; clear KX'; have KY' := Aside0.mk (Kd.C_below KY.out hb); clear KY; have KY := KY'; clear KY'; have KU := Aside0.mk (Kd.R_reads' ho).2.2; clear ho hb; obtain ⟨pU0, pU1, pU2⟩ := N7.out.cells) | (go_at_call_of 24 hi; refine (route_Leave.calls A0_0 c0_0 l0_0 A0_1 c0_1 l0_1 a1 hi V 0 _ (Kd.C_below HR0.out N7.out.below) hc0_0 (Kd.C_below HR1.out N7.out.below) hc0_1 HV.out).mono ?_; rintro e w8 ⟨vV, rfl, ho, hb⟩; obtain ⟨AV, cV, rfl⟩ := Kd.R_slice ho; have N8 := Aside0.mk (N7.out.next hb); have KX' := Aside0.mk (Kd.C_below KX.out hb); clear KX; have KX := KX'; clear KX'; have KY' := Aside0.mk (Kd.C_below KY.out hb); clear KY; have KY := KY'; clear KY'; have KU' := Aside0.mk (Kd.C_below KU.out hb); clear KU; have KU := KU'; clear KU'; have KV := Aside0.mk (Kd.R_reads' ho).2.2; clear ho hb; obtain ⟨pV0, pV1, pV2⟩ := N8.out.cells))
        clear N3 N4 N5 N6 N7
        go_loopw [17] (fun i wr => ∃ x : Int, i = .int .i64 x ∧ Aside0 (0 ≤ x ∧ x ≤ l0_0.length) ∧ Aside0 (NetW A0_0 c0_0 l0_0 A0_1 c0_1 l0_1 w wr) ∧ Aside0 (Kd.C (Kd.int .i64) wr AX X.length X) ∧ Aside0 (Kd.C (Kd.int .i64) wr AY Y.length Y) ∧ Aside0 (Kd.C (Kd.int .i64) wr AU U.length U) ∧ Aside0 (Kd.C (Kd.int .i64) wr AV V.length V)) (fun i _ => l0_0.length - (intOf i).toNat)
        case atStart => exact ⟨0, rfl, ⟨by omega⟩, N8, KX, KY, KU, KV⟩
        case round =>
          obtain ⟨x, rfl, HXX, NR, CX, CY, CU, CV⟩ := hrel
          clear KX KY KU KV N8
          obtain ⟨r0, r1, r2⟩ := NR.out.cells
          have hx0 : 0 ≤ x := HXX.out.1
          by_cases hx : x < (l0_0.length : Int)
          · have hxX : x < (X.length : Int) := by rw [LX.out.1]; exact hx
            have hxY : x < (Y.length : Int) := by rw [LX.out.2.1]; exact hx
            have hxU : x < (U.length : Int) := by rw [LX.out.2.2.1]; exact hx
            have hxV : x < (V.length : Int) := by rw [LX.out.2.2.2]; exact hx
            obtain ⟨aX, eX, gX⟩ := Kd.at_int CX.out x hx0 hxX
            obtain ⟨aY, eY, gY⟩ := Kd.at_int CY.out x hx0 hxY
            obtain ⟨aU, eU, gU⟩ := Kd.at_int CU.out x hx0 hxU
            obtain ⟨aV, eV, gV⟩ := Kd.at_int CV.out x hx0 hxV
            subst eX eY eU eV
            obtain ⟨f1, f2, f3, f4⟩ := FA.out x hx0 hx
            have HW : Aside0 (0 ≤ x + 1 ∧ x + 1 ≤ (l0_0.length : Int)) := ⟨by omega⟩
            have HWW : Aside0 (wrap64 (x + 1) = x + 1) := ⟨by unfold wrap64; omega⟩
            generalize rd X x = xv at gX f1 f3
            generalize rd Y x = yv at gY f1
            generalize rd U x = uv at gU f2
            generalize rd V x = vv at gV f2 f4
            go_wp2_with fail
            refine later16_all _ _ _ _ _ _ _ _ _ _ _ _ x xv yv uv vv lo hi _ _ _ _ _ _ _ _ _ _ _ _ _ _ _ _ _ _ _ _ _ _ _ _ _ _ _ _ _ _ _ _ _ _ _ _ _ _ _ _ _ _ _ _ _ _ _ _ _ _ _ _ _ _ _ _ _ _ _ _ _ _ _ _ _ _ _ _ _ _ _ _ _ _ _ _ _ _ _ _ _ _ _ _ _ _ _ _ _ _ _ _ _ _ _ _ _ _ _ _ _ _ _ _ _ _ _ _ _ _ _ _ _ _ _ _ _ _ _ _ _ _ _ _ _ _ _ _ _ _ _ _ _ _ _ _ _ _ _ _ _ _ _ _ _ _ _ _ _ _ _ _ _ _ hx0 hxX hxY hxU hxV gX gY gU gV f1 f2 f3 f4 ?_
            clear f1 f2 f3 f4
            intro v88 v89 v90 v91 v92 v93 v94 v95 v96 v97 v98 v99 v100 v101 v102 v103 v104 v105 v106 v107 v108 v109 v110 v111 v112 v113 v114 v115 v116 v117 v118 v119 v120 v121 v122 v123 v124 v125 v126 v127 v128 v129 v130 v131 v132 v133 v134 v135 v136 v137 v138 v139 v140 v141 v142 v143 v144 v145 v146 v147 v148 v149 v150 v151 v152 v153 v154 v155 v156 v157 nq
            go_wp2
            go_roundw
            case rel => exact ⟨x + 1, by first | rfl | go_num | (rw [HWW.out]) | (simp only [HWW.out]), HW, ⟨NR.out.next (pw_below_drewN (Below.refl _ _) _)⟩, ⟨Kd.C_drewN CX.out _⟩, ⟨Kd.C_drewN CY.out _⟩, ⟨Kd.C_drewN CU.out _⟩, ⟨Kd.C_drewN CV.out _⟩⟩
            case measure =>
              have := HW.out
              simp [intOf, HWW.out]
              try omega
          · obtain rfl : x = (l0_0.length : Int) := by have := HXX.out; omega
            go_wp2
            go_ret
            exact ⟨rfl, NR.out.below⟩
end Go.Proofs.Ytdpadeklociinaa.PA
