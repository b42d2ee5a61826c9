/- Functions of the given program and their contracts, written by a program of this session (gen.py) over the kit's print. -/
import Derived.Test.YtdhfbgbclibagaaROx0
import Derived.Test.YtdhfbgbclibagaaROx1
import Derived.Test.YtdhfbgbclibagaaROx2
import Derived.Test.YtdhfbgbclibagaaROx8
import Derived.Test.YtdhfbgbclibagaaROx9
import Derived.Test.YtdhfbgbclibagaaROx10
import Derived.Test.YtdhfbgbclibagaaROx14
import Derived.Test.YtdhfbgbclibagaaROx15
import Derived.Test.YtdhfbgbclibagaaROx16
import Derived.Test.YtdhfbgbclibagaaROx17
import Derived.Test.YtdhfbgbclibagaaROx20
namespace Go.Proofs.Ytdhfbgbclibagaa.P
open Go.RowKit Go.Proofs.YtdhfbgbclibagaaW.PrintWords Go.Proofs.YtdhfbgbclibagaaW.PrintLast Go.Proofs.YtdhfbgbclibagaaW.PrintMore
attribute [local go_sem] max2_int min2_int max_two min_two max_three min_three max_four min_four   -- for this text's walks alone
set_option linter.unusedVariables false
set_option linter.unusedSimpArgs false
attribute [local go_sem high] eqA27
set_option maxHeartbeats 8000000 in
set_option maxRecDepth 100000 in
theorem laws_FnPolynomials.s3 (kq : Nat) (A0 : Option Addr) (c0 : Nat) (l0 : List Int) (w wc : World) (HR0 : Aside0 (Kd.C (Kd.int .u8) w A0 l0.length l0)) (HC0 : Aside0 (l0.length ≤ c0)) (HA : Aside0 (laws_FnPolynomials.j3 kq l0 = some true)) (HB : Aside0 (Below w.heap.size w wc)) (v1 v2 v3 v4 v5 v6 v7 v8 v9 v10 v11 v12 v13 v14 v15 v16 v17 v18 v19 v20 v21 v22 v23 v24 v25 v26 v27 v28 v29 v30 v31 v32 v33 v34 v35 v36 v37 v38 v39 v40 v41 v42 v43 v44 v45 v46 v47 v48 v49 v50 v51 v52 v53 v54 v55 v56 v57 v58 v59 v60 v61 v62 v63 v64 v65 v66 v67 v68 v69 v70 v71 v72 v73 v74 v75 v76 v77 v78 v79 v80 v81 v82 v83 v84 v85 v86 v87 v88 v89 v90 v91 v92 v93 v94 v95 v96 v97 v98 v99 v100 v101 v102 v103 v104 v105 v106 v107 v108 v109 v110 v111 v112 v113 v114 v115 v116 v117 v118 v119 v120 v121 v122 v123 v124 v125 v126 v127 v128 v129 v130 v131 v132 v133 v134 v135 v136 v137 v138 v139 v140 v141 v142 v143 v144 v145 v146 v147 v148 v149 v150 v151 v152 v153 v154 v155 v156 v157 v158 v159 v160 v161 v162 v163 v164 v165 v166 v167 v168 v169 v170 v171 v172 v173 v174 v175 v176 v177 v178 v179 v180 v181 v182 v183 v184 v185 v186 v187 v188 v189 v190 v191 v192 v193 v194 v195 v196 v197 v198 v199 v200 v201 v202 v203 v204 v205 v206 v207 v208 v209 v210 v211 v212 v213 v214 v215 v216 v217 v218 v219 v220 v221 v222 v223 v224 v225 v226 v227 v228 v229 v230 v231 v232 v233 v234 v235 v236 v237 v238 v239 v240 v241 v242 v243 v244 v245 v246 v247 v248 v249 v250 v251 v252 v253 v254 v255 v256 v257 v258 v259 v260 v261 v262 v263 v264 v265 v266 v267 v268 v269 v270 v271 v272 v273 v274 v275 v276 v277 v278 v279 v280 v281 v282 v283 v284 v285 v286 v287 v288 v289 v290 v291 v292 v293 v294 v295 v296 v297 v298 v299 v300 v301 v302 v303 v304 v305 v306 v307 v308 v309 v310 v311 v312 v313 v314 v315 v316 v317 v318 v319 v320 v321 v322 v323 v324 v325 v326 v327 v328 v329 v330 v331 v332 v333 v334 v335 v336 v337 v338 v339 v340 v341 v342 v343 v344 v345 v346 v347 v348 v349 v350 v351 v352 v353 v354 v355 v356 v357 v358 v359 v360 v361 v362 v363 v364 v365 v366 v367 v368 v369 v370 v371 v372 v373 v374 v375 v376 v377 v378 v379 v380 v381 v382 v383 v384 v385 v386 v387 v388 v389 v390 v391 v392 v393 v394 v395 v396 v397 v398 v399 v400 v401 v402 v403 v404 v405 v406 v407 v408 v409 v410 v411 v412 v413 v414 v415 v416 v417 v418 v419 v420 : Value) :
    Code.wp Try.prog (dropSeq 7 ((Try.f14.body).getD .skip)) (bodyPost Try.prog Try.f14 fun e w' => e = .returned (.bool true) ∧ Below w.heap.size w w') ⟨#[.slice A0 l0.length c0, v1, v2, v3, v4, v5, v6, v7, v8, v9, v10, v11, v12, v13, v14, v15, v16, v17, v18, v19, v20, v21, v22, v23, v24, v25, v26, v27, v28, v29, v30, v31, v32, v33, v34, v35, v36, v37, v38, v39, v40, v41, v42, v43, v44, v45, v46, v47, v48, v49, v50, v51, v52, v53, v54, v55, v56, v57, v58, v59, v60, v61, v62, v63, v64, v65, v66, v67, v68, v69, v70, v71, v72, v73, v74, v75, v76, v77, v78, v79, v80, v81, v82, v83, v84, v85, v86, v87, v88, v89, v90, v91, v92, v93, v94, v95, v96, v97, v98, v99, v100, v101, v102, v103, v104, v105, v106, v107, v108, v109, v110, v111, v112, v113, v114, v115, v116, v117, v118, v119, v120, v121, v122, v123, v124, v125, v126, v127, v128, v129, v130, v131, v132, v133, v134, v135, v136, v137, v138, v139, v140, v141, v142, v143, v144, v145, v146, v147, v148, v149, v150, v151, v152, v153, v154, v155, v156, v157, v158, v159, v160, v161, v162, v163, v164, v165, v166, v167, v168, v169, v170, v171, v172, v173, v174, v175, v176, v177, v178, v179, v180, v181, v182, v183, v184, v185, v186, v187, v188, v189, v190, v191, v192, v193, v194, v195, v196, v197, v198, v199, v200, v201, v202, v203, v204, v205, v206, v207, v208, v209, v210, v211, v212, v213, v214, v215, v216, v217, v218, v219, v220, v221, v222, v223, v224, v225, v226, v227, v228, v229, v230, v231, v232, v233, v234, v235, v236, v237, v238, v239, v240, v241, v242, v243, v244, v245, v246, v247, v248, v249, v250, v251, v252, v253, v254, v255, v256, v257, v258, v259, v260, v261, v262, v263, v264, v265, v266, v267, v268, v269, v270, v271, v272, v273, v274, v275, v276, v277, v278, v279, v280, v281, v282, v283, v284, v285, v286, v287, v288, v289, v290, v291, v292, v293, v294, v295, v296, v297, v298, v299, v300, v301, v302, v303, v304, v305, v306, v307, v308, v309, v310, v311, v312, v313, v314, v315, v316, v317, v318, v319, v320, v321, v322, v323, v324, v325, v326, v327, v328, v329, v330, v331, v332, v333, v334, v335, v336, v337, v338, v339, v340, v341, v342, v343, v344, v345, v346, v347, v348, v349, v350, v351, v352, v353, v354, v355, v356, v357, v358, v359, v360, v361, v362, v363, v364, v365, v366, v367, v368, v369, v370, v371, v372, v373, v374, v375, v376, v377, v378, v379, v380, v381, v382, v383, v384, v385, v386, v387, v388, v389, v390, v391, v392, v393, v394, v395, v396, v397, v398, v399, v400, v401, v402, v403, v404, v405, v406, v407, v408, v409, v410, v411, v412, v413, v414, v415, v416, v417, v418, v419, v420], []⟩ wc := by
  have hu27 := Try.underlying27
  conv => arg 2; whnf
  cases kq with
  | zero => exact absurd HA.out (by simp [laws_FnPolynomials.j3])
  | succ kj35 =>
   have H := HA.out
   clear HA
   simp only [laws_FnPolynomials.j3] at H
   replace H := Option.bind_eq_some_iff.mp H
   obtain ⟨⟨t631, t632, t633⟩, A2640, H⟩ := H
   replace H : ((impl_DerivativeBy.f t631 t632 t633).bind fun bt635 => ((spec_DerivativeBy.f kj35 t631 t632 t633).bind fun bt639 => (if bt635.2.2 = bt639.2.2 then (laws_FnPolynomials.j4 kj35 l0 bt635.2.2 (!(bt635.1 == bt639.1) || (!(bt635.2.1 == bt639.2.1))) t631 t632 bt635.1 bt635.2.1) else (laws_FnPolynomials.j4 kj35 l0 bt635.2.2 true t631 t632 bt635.1 bt635.2.1)))) = some true := H
   have A264 := Aside0.mk A2640
   clear A2640
   replace H := Option.bind_eq_some_iff.mp H
   obtain ⟨⟨t635, t636, t637⟩, A2650, H⟩ := H
   replace H : ((spec_DerivativeBy.f kj35 t631 t632 t633).bind fun bt639 => (if t637 = bt639.2.2 then (laws_FnPolynomials.j4 kj35 l0 t637 (!(t635 == bt639.1) || (!(t636 == bt639.2.1))) t631 t632 t635 t636) else (laws_FnPolynomials.j4 kj35 l0 t637 true t631 t632 t635 t636))) = some true := H
   have A265 := Aside0.mk A2650
   clear A2650
   replace H := Option.bind_eq_some_iff.mp H
   obtain ⟨⟨t639, t640, t641⟩, A2660, H⟩ := H
   replace H : (if t637 = t641 then (laws_FnPolynomials.j4 kj35 l0 t637 (!(t635 == t639) || (!(t636 == t640))) t631 t632 t635 t636) else (laws_FnPolynomials.j4 kj35 l0 t637 true t631 t632 t635 t636)) = some true := H
   have A266 := Aside0.mk A2660
   clear A2660
   have HC267 := Aside0.mk H
   clear H
   go_upto_region 29 with (first | (go_at_call 58; (with_reducible refine (spec_DrawDerivativeBy.calls kj35 _ _ l0 t631 t632 t633 _ ?side1 ?side2 A264.out).mono ?_); (case side1 => repeat (first | exact (Kd.C_below HR0.out HB.out) | (with_reducible refine Kd.C_alloc ?_ _) | (with_reducible refine Kd.C_drewN ?_ _) | (with_reducible refine Kd.C_drew ?_))); (case side2 => exact HC0.out); rintro e w268 ⟨rfl, hb⟩; have n4_ := aa (below_step iHB hb); clear HB; have HB := n4_; clear n4_; (try clear hb)) | ((with_reducible refine gate_dst (N := 26) rfl ?_); (try (refine gate_guard (by rfl) ?_; dsimp only)); refine box_event ?hg (N := 26) ?hd (cs := #[.int .i64 0, .int .i64 0]) (t := 27) ?hr ?_; (case hd => rfl); (case hg => rfl); (case hr => first | (go_simp; done) | (go_simp; rfl)); intro gb634 hg w269 hbox hb; have n4_ := aa (below_step iHB hb); have n5_ := aa (hbox); have n6_ := gwB (w := w) hg iHB; have n7_ := gwB (w := w) hg iHB; clear HB; have HB := n4_; have BK634 := n5_; have GW634 := n6_; have GE634 := n7_; clear n4_ n5_ n6_ n7_ hb hbox hg; have hcz274_0 : w269.cell? ⟨gb634, 0, none⟩ = some (.int .i64 0) := (blk_cell BK634.out 0).trans rfl; have hcz274_1 : w269.cell? ⟨gb634, 1, none⟩ = some (.int .i64 0) := (blk_cell BK634.out 1).trans rfl; have hfz274_0 := blk_frozen BK634.out 0; have hfz274_1 := blk_frozen BK634.out 1) | (go_at_call 59; (with_reducible refine (impl_DerivativeBy.calls t631 t632 t633 t635 t636 t637 _ A265.out).mono ?_); rintro e w275 ⟨rfl, hb⟩; have n4_ := aa (blk_below (g := gb634) (o := .cells #[.int .i64 t631, .int .i64 t632] 27 (0, 0)) (by (with_reducible repeat (first | refine blk_drewN ?_ _ | refine blk_drew ?_ | refine blk_alloc ?_ _)); refine blk_put (cs := #[.int .i64 t631, .int .i64 0]) ?_ 1 _ rfl; (with_reducible repeat (first | refine blk_drewN ?_ _ | refine blk_drew ?_ | refine blk_alloc ?_ _)); refine blk_put (cs := #[.int .i64 0, .int .i64 0]) ?_ 0 _ rfl; exact iBK BK634.out) hb); have n5_ := aa (below_step iHB hb); clear BK634 HB; have BK634 := n4_; have HB := n5_; clear n4_ n5_; (try clear hb)) | ((with_reducible refine gate_dst (N := 28) rfl ?_); (try (refine gate_guard (by rfl) ?_; dsimp only)); refine box_event ?hg (N := 28) ?hd (cs := #[.int .i64 0, .int .i64 0]) (t := 27) ?hr ?_; (case hd => rfl); (case hg => rfl); (case hr => first | (go_simp; done) | (go_simp; rfl)); intro gb638 hg w276 hbox hb; have n4_ := aa (blk_below (iBK BK634.out) hb); have n5_ := aa (below_step iHB hb); have n6_ := aa (hbox); have n7_ := gwB (w := w) hg iHB; have n8_ := gwB (w := w) hg iHB; have n17_ := nbL hg (iBK BK634.out); have n18_ := nbR hg (iBK BK634.out); clear BK634 HB; have BK634 := n4_; have HB := n5_; have BK638 := n6_; have GW638 := n7_; have GE638 := n8_; have NB634_638 := n17_; have NB638_634 := n18_; clear n4_ n5_ n6_ n7_ n8_ n17_ n18_ hb hbox hg; have hnb281 := NB638_634.out; have hnc281 := NB634_638.out; have hcz282_0 : w276.cell? ⟨gb638, 0, none⟩ = some (.int .i64 0) := (blk_cell BK638.out 0).trans rfl; have hcz282_1 : w276.cell? ⟨gb638, 1, none⟩ = some (.int .i64 0) := (blk_cell BK638.out 1).trans rfl; have hfz282_0 := blk_frozen BK638.out 0; have hfz282_1 := blk_frozen BK638.out 1; have hcz283_0 : w276.cell? ⟨gb634, 0, none⟩ = some (.int .i64 t631) := (blk_cell BK634.out 0).trans rfl; have hcz283_1 : w276.cell? ⟨gb634, 1, none⟩ = some (.int .i64 t632) := (blk_cell BK634.out 1).trans rfl; have hfz283_0 := blk_frozen BK634.out 0; have hfz283_1 := blk_frozen BK634.out 1) | (go_at_call 60; (with_reducible refine (spec_DerivativeBy.calls kj35 t631 t632 t633 t639 t640 t641 _ A266.out).mono ?_); rintro e w284 ⟨rfl, hb⟩; have n4_ := aa (blk_below (g := gb634) (o := .cells #[.int .i64 t631, .int .i64 t632] 27 (0, 0)) (by (with_reducible repeat (first | refine blk_drewN ?_ _ | refine blk_drew ?_ | refine blk_alloc ?_ _)); refine blk_far ?_ NB634_638.out _; (with_reducible repeat (first | refine blk_drewN ?_ _ | refine blk_drew ?_ | refine blk_alloc ?_ _)); refine blk_far ?_ NB634_638.out _; exact iBK BK634.out) hb); have n5_ := aa (blk_below (g := gb638) (o := .cells #[.int .i64 t635, .int .i64 t636] 27 (0, 0)) (by (with_reducible repeat (first | refine blk_drewN ?_ _ | refine blk_drew ?_ | refine blk_alloc ?_ _)); refine blk_put (cs := #[.int .i64 t635, .int .i64 0]) ?_ 1 _ rfl; (with_reducible repeat (first | refine blk_drewN ?_ _ | refine blk_drew ?_ | refine blk_alloc ?_ _)); refine blk_put (cs := #[.int .i64 0, .int .i64 0]) ?_ 0 _ rfl; exact iBK BK638.out) hb); have n6_ := aa (below_step iHB hb); clear BK634 BK638 HB; have BK634 := n4_; have BK638 := n5_; have HB := n6_; clear n4_ n5_ n6_; (try clear hb)) | ((with_reducible refine gate_dst (N := 30) rfl ?_); (try (refine gate_guard (by rfl) ?_; dsimp only)); refine box_event ?hg (N := 30) ?hd (cs := #[.int .i64 0, .int .i64 0]) (t := 27) ?hr ?_; (case hd => rfl); (case hg => rfl); (case hr => first | (go_simp; done) | (go_simp; rfl)); intro gb642 hg w285 hbox hb; have n4_ := aa (blk_below (iBK BK634.out) hb); have n5_ := aa (blk_below (iBK BK638.out) hb); have n6_ := aa (below_step iHB hb); have n7_ := aa (hbox); have n8_ := gwB (w := w) hg iHB; have n9_ := gwB (w := w) hg iHB; have n18_ := nbL hg (iBK BK634.out); have n19_ := nbR hg (iBK BK634.out); have n20_ := nbL hg (iBK BK638.out); have n21_ := nbR hg (iBK BK638.out); clear BK634 BK638 HB; have BK634 := n4_; have BK638 := n5_; have HB := n6_; have BK642 := n7_; have GW642 := n8_; have GE642 := n9_; have NB634_642 := n18_; have NB642_634 := n19_; have NB638_642 := n20_; have NB642_638 := n21_; clear n4_ n5_ n6_ n7_ n8_ n9_ n18_ n19_ n20_ n21_ hb hbox hg; have hnb290 := NB642_634.out; have hnc290 := NB634_642.out; have hnb291 := NB642_638.out; have hnc291 := NB638_642.out; have hcz292_0 : w285.cell? ⟨gb642, 0, none⟩ = some (.int .i64 0) := (blk_cell BK642.out 0).trans rfl; have hcz292_1 : w285.cell? ⟨gb642, 1, none⟩ = some (.int .i64 0) := (blk_cell BK642.out 1).trans rfl; have hfz292_0 := blk_frozen BK642.out 0; have hfz292_1 := blk_frozen BK642.out 1))
   (try simp only [Act.put, List.setIfInBounds_toArray, List.set_cons_zero, List.set_cons_succ])
   go_cut [246] from 239 to 246 (fun v246 wc => ∃ (kq : Nat) (x246_266 : Bool), v246 = .bool x246_266 ∧ Aside0 (laws_FnPolynomials.j4 kq l0 t637 x246_266 t631 t632 t635 t636 = some true) ∧ Aside0 (kq ≤ kj35) ∧ Aside0 (wc.heap[gb634]? = some (.cells #[.int .i64 t631, .int .i64 t632] 27 (0, 0))) ∧ Aside0 (wc.heap[gb638]? = some (.cells #[.int .i64 t635, .int .i64 t636] 27 (0, 0))) ∧ Aside0 (wc.heap[gb642]? = some (.cells #[.int .i64 t639, .int .i64 t640] 27 (0, 0))) ∧ Aside0 (Below w.heap.size w wc))
   case first =>
    have H := HC267.out
    clear HC267
    by_cases c293 : t637 = t641
    ·rw [if_pos c293] at H
     have c293b0 : (t637 == t641) = true := beq_iff_eq.mpr c293
     have c293b1 : (t637 != t641) = false := bne_eq_false_iff_eq.mpr c293
     clear c293
     (first | rw [c293b0] | (simp only [i64_w, i32_w]; rw [c293b0]) | skip)
     have H' := Aside0.mk H
     clear H
     have hnb298 := NB638_634.out
     have hnc298 := NB634_638.out
     have hnb299 := NB638_642.out
     have hnc299 := NB642_638.out
     have hcz300_0 : w285.cell? ⟨gb638, 0, none⟩ = some (.int .i64 t635) := (blk_cell BK638.out 0).trans rfl
     have hcz300_1 : w285.cell? ⟨gb638, 1, none⟩ = some (.int .i64 t636) := (blk_cell BK638.out 1).trans rfl
     have hfz300_0 := blk_frozen BK638.out 0
     have hfz300_1 := blk_frozen BK638.out 1
     have hnb305 := NB642_634.out
     have hnc305 := NB634_642.out
     have hcz306_0 : w285.cell? ⟨gb642, 0, none⟩ = some (.int .i64 0) := (blk_cell BK642.out 0).trans rfl
     have hcz306_1 : w285.cell? ⟨gb642, 1, none⟩ = some (.int .i64 0) := (blk_cell BK642.out 1).trans rfl
     have hfz306_0 := blk_frozen BK642.out 0
     have hfz306_1 := blk_frozen BK642.out 1
     go_wp2
     repeat (go_quiet (fail); try go_wp2)
     go_meet
     case rel => exact ⟨_, ((!(t635 == t639) || (!(t636 == t640)))), (by first | rfl | (simp; done) | (simp [*]; done)), H', ⟨by first | omega | exact Nat.le_refl _⟩, ⟨by (with_reducible repeat (first | refine blk_drewN ?_ _ | refine blk_drew ?_ | refine blk_alloc ?_ _)); refine blk_far ?_ NB634_642.out _; (with_reducible repeat (first | refine blk_drewN ?_ _ | refine blk_drew ?_ | refine blk_alloc ?_ _)); refine blk_far ?_ NB634_642.out _; exact iBK BK634.out⟩, ⟨by (with_reducible repeat (first | refine blk_drewN ?_ _ | refine blk_drew ?_ | refine blk_alloc ?_ _)); refine blk_far ?_ NB638_642.out _; (with_reducible repeat (first | refine blk_drewN ?_ _ | refine blk_drew ?_ | refine blk_alloc ?_ _)); refine blk_far ?_ NB638_642.out _; exact iBK BK638.out⟩, ⟨by (with_reducible repeat (first | refine blk_drewN ?_ _ | refine blk_drew ?_ | refine blk_alloc ?_ _)); refine blk_put (cs := #[.int .i64 t639, .int .i64 0]) ?_ 1 _ rfl; (with_reducible repeat (first | refine blk_drewN ?_ _ | refine blk_drew ?_ | refine blk_alloc ?_ _)); refine blk_put (cs := #[.int .i64 0, .int .i64 0]) ?_ 0 _ rfl; exact iBK BK642.out⟩, ⟨iHB⟩⟩
    ·rw [if_neg c293] at H
     have c293b0 : (t637 == t641) = false := beq_eq_false_iff_ne.mpr c293
     have c293b1 : (t637 != t641) = true := bne_iff_ne.mpr c293
     (first | rw [c293b0] | (simp only [i64_w, i32_w]; rw [c293b0]) | skip)
     exact (laws_FnPolynomials.j4_not _ H).elim
   case rest =>
    clear HC267
    try clear hcz274_0
    try clear hcz274_1
    try clear hcz282_0
    try clear hcz282_1
    try clear hcz283_0
    try clear hcz283_1
    try clear hcz292_0
    try clear hcz292_1
    try clear hfz274_0
    try clear hfz274_1
    try clear hfz282_0
    try clear hfz282_1
    try clear hfz283_0
    try clear hfz283_1
    try clear hfz292_0
    try clear hfz292_1
    obtain ⟨kq, x246_266, rfl, HA, HJ266, BK634, BK638, BK642, HB⟩ := hcut
    cases kq with
    | zero => exact absurd HA.out (by simp [laws_FnPolynomials.j4])
    | succ kj266 =>
     have H := HA.out
     clear HA
     simp only [laws_FnPolynomials.j4] at H
     by_cases c307 : x246_266 = true
     ·subst c307
      have H1 : (some false) = some true := by first | (rw [if_pos rfl] at H; exact H) | rfl
      clear H
      have H := H1
      clear H1
      exact absurd (Option.some.inj H) (by decide)
     ·replace c307 := Bool.eq_false_iff.mpr c307
      subst c307
      have H1 : (if t637 = 0 then ((impl_DegreeOfFunc.f kj266 t631 t632).bind fun bt643 => ((impl_DegreeOfFunc.f kj266 t635 t636).bind fun bt645 => (if bt643.2 = 0 then (if bt645.2 = 0 then (if bt645.1 > 0 then (if bt645.1 ≥ bt643.1 then (some false) else (laws_FnPolynomials.j5 kj266 l0)) else (laws_FnPolynomials.j5 kj266 l0)) else (some false)) else (some false)))) else (laws_FnPolynomials.j5 kj266 l0)) = some true := by rw [if_neg (show ¬ (false = true) by decide)] at H; exact H
      clear H
      have H := H1
      clear H1
      have HC308 := Aside0.mk H
      clear H
      go_upto_if 248 with (fail)
      repeat (go_quiet (fail); go_upto_if 248 with (fail))
      go_cut [] from 32 to 273 (fun wc => ∃ (kq : Nat), Aside0 (laws_FnPolynomials.j5 kq l0 = some true) ∧ Aside0 (kq ≤ kj266) ∧ Aside0 (Below w.heap.size w wc))
      case first =>
       have H := HC308.out
       clear HC308
       by_cases c309 : t637 = 0
       ·rw [if_pos c309] at H
        have c309b0 : (t637 == 0) = true := beq_iff_eq.mpr c309
        have c309b1 : (t637 != 0) = false := bne_eq_false_iff_eq.mpr c309
        clear c309
        (first | rw [c309b0] | (simp only [i64_w, i32_w]; rw [c309b0]) | skip)
        replace H := Option.bind_eq_some_iff.mp H
        obtain ⟨⟨t643, t644⟩, A3100, H⟩ := H
        replace H : ((impl_DegreeOfFunc.f kj266 t635 t636).bind fun bt645 => (if t644 = 0 then (if bt645.2 = 0 then (if bt645.1 > 0 then (if bt645.1 ≥ t643 then (some false) else (laws_FnPolynomials.j5 kj266 l0)) else (laws_FnPolynomials.j5 kj266 l0)) else (some false)) else (some false))) = some true := H
        have A310 := Aside0.mk A3100
        clear A3100
        replace H := Option.bind_eq_some_iff.mp H
        obtain ⟨⟨t645, t646⟩, A3110, H⟩ := H
        replace H : (if t644 = 0 then (if t646 = 0 then (if t645 > 0 then (if t645 ≥ t643 then (some false) else (laws_FnPolynomials.j5 kj266 l0)) else (laws_FnPolynomials.j5 kj266 l0)) else (some false)) else (some false)) = some true := H
        have A311 := Aside0.mk A3110
        clear A3110
        by_cases c312 : t644 = 0
        ·rw [if_pos c312] at H
         have c312b0 : (t644 == 0) = true := beq_iff_eq.mpr c312
         have c312b1 : (t644 != 0) = false := bne_eq_false_iff_eq.mpr c312
         clear c312
         by_cases c313 : t646 = 0
         ·rw [if_pos c313] at H
          have c313b0 : (t646 == 0) = true := beq_iff_eq.mpr c313
          have c313b1 : (t646 != 0) = false := bne_eq_false_iff_eq.mpr c313
          clear c313
          by_cases c314 : t645 > 0
          ·rw [if_pos c314] at H
           have c314b0 : decide (0 < t645) = true := decide_eq_true c314
           clear c314
           by_cases c315 : t645 ≥ t643
           ·rw [if_pos c315] at H
            have c315b0 : decide (t643 ≤ t645) = true := decide_eq_true c315
            clear c315
            exact absurd (Option.some.inj H) (by decide)
           ·rw [if_neg c315] at H
            have c315b0 : decide (t643 ≤ t645) = false := decide_eq_false c315
            clear c315
            have H' := Aside0.mk H
            clear H
            have hnb335 := NB634_638.out
            have hnc335 := NB638_634.out
            have hnb336 := NB634_642.out
            have hnc336 := NB642_634.out
            have hcz337_0 : wc.cell? ⟨gb634, 0, none⟩ = some (.int .i64 t631) := (blk_cell BK634.out 0).trans rfl
            have hcz337_1 : wc.cell? ⟨gb634, 1, none⟩ = some (.int .i64 t632) := (blk_cell BK634.out 1).trans rfl
            have hfz337_0 := blk_frozen BK634.out 0
            have hfz337_1 := blk_frozen BK634.out 1
            go_wp2_with (first | (go_at_call 38; (with_reducible refine (impl_DegreeOfFunc.calls kj266 t631 t632 t643 t644 _ A310.out).mono ?_); rintro e w338 ⟨rfl, hb⟩; have n4_ := aa (blk_below (iBK BK634.out) hb); have n5_ := aa (blk_below (iBK BK638.out) hb); have n6_ := aa (blk_below (iBK BK642.out) hb); have n7_ := aa (below_step iHB hb); clear BK634 BK638 BK642 HB; have BK634 := n4_; have BK638 := n5_; have BK642 := n6_; have HB := n7_; clear n4_ n5_ n6_ n7_; (try clear hb); have hnb343 := NB638_642.out; have hnc343 := NB642_638.out; have hcz344_0 : w338.cell? ⟨gb638, 0, none⟩ = some (.int .i64 t635) := (blk_cell BK638.out 0).trans rfl; have hcz344_1 : w338.cell? ⟨gb638, 1, none⟩ = some (.int .i64 t636) := (blk_cell BK638.out 1).trans rfl; have hfz344_0 := blk_frozen BK638.out 0; have hfz344_1 := blk_frozen BK638.out 1) | (go_at_call 38; (with_reducible refine (impl_DegreeOfFunc.calls kj266 t635 t636 t645 t646 _ A311.out).mono ?_); rintro e w345 ⟨rfl, hb⟩; have n4_ := aa (blk_below (iBK BK634.out) hb); have n5_ := aa (blk_below (iBK BK638.out) hb); have n6_ := aa (blk_below (iBK BK642.out) hb); have n7_ := aa (below_step iHB hb); clear BK634 BK638 BK642 HB; have BK634 := n4_; have BK638 := n5_; have BK642 := n6_; have HB := n7_; clear n4_ n5_ n6_ n7_; (try clear hb)))
            go_meet
            case rel => exact ⟨_, H', ⟨by have := HJ266.out; first | omega | exact Nat.le_refl _⟩, ⟨iHB⟩⟩
          ·rw [if_neg c314] at H
           have c314b0 : decide (0 < t645) = false := decide_eq_false c314
           clear c314
           have H' := Aside0.mk H
           clear H
           have hnb350 := NB634_638.out
           have hnc350 := NB638_634.out
           have hnb351 := NB634_642.out
           have hnc351 := NB642_634.out
           have hcz352_0 : wc.cell? ⟨gb634, 0, none⟩ = some (.int .i64 t631) := (blk_cell BK634.out 0).trans rfl
           have hcz352_1 : wc.cell? ⟨gb634, 1, none⟩ = some (.int .i64 t632) := (blk_cell BK634.out 1).trans rfl
           have hfz352_0 := blk_frozen BK634.out 0
           have hfz352_1 := blk_frozen BK634.out 1
           go_wp2_with (first | (go_at_call 38; (with_reducible refine (impl_DegreeOfFunc.calls kj266 t631 t632 t643 t644 _ A310.out).mono ?_); rintro e w353 ⟨rfl, hb⟩; have n4_ := aa (blk_below (iBK BK634.out) hb); have n5_ := aa (blk_below (iBK BK638.out) hb); have n6_ := aa (blk_below (iBK BK642.out) hb); have n7_ := aa (below_step iHB hb); clear BK634 BK638 BK642 HB; have BK634 := n4_; have BK638 := n5_; have BK642 := n6_; have HB := n7_; clear n4_ n5_ n6_ n7_; (try clear hb); have hnb358 := NB638_642.out; have hnc358 := NB642_638.out; have hcz359_0 : w353.cell? ⟨gb638, 0, none⟩ = some (.int .i64 t635) := (blk_cell BK638.out 0).trans rfl; have hcz359_1 : w353.cell? ⟨gb638, 1, none⟩ = some (.int .i64 t636) := (blk_cell BK638.out 1).trans rfl; have hfz359_0 := blk_frozen BK638.out 0; have hfz359_1 := blk_frozen BK638.out 1) | (go_at_call 38; (with_reducible refine (impl_DegreeOfFunc.calls kj266 t635 t636 t645 t646 _ A311.out).mono ?_); rintro e w360 ⟨rfl, hb⟩; have n4_ := aa (blk_below (iBK BK634.out) hb); have n5_ := aa (blk_below (iBK BK638.out) hb); have n6_ := aa (blk_below (iBK BK642.out) hb); have n7_ := aa (below_step iHB hb); clear BK634 BK638 BK642 HB; have BK634 := n4_; have BK638 := n5_; have BK642 := n6_; have HB := n7_; clear n4_ n5_ n6_ n7_; (try clear hb)))
           go_meet
           case rel => exact ⟨_, H', ⟨by have := HJ266.out; first | omega | exact Nat.le_refl _⟩, ⟨iHB⟩⟩
         ·rw [if_neg c313] at H
          have c313b0 : (t646 == 0) = false := beq_eq_false_iff_ne.mpr c313
          have c313b1 : (t646 != 0) = true := bne_iff_ne.mpr c313
          exact absurd (Option.some.inj H) (by decide)
        ·rw [if_neg c312] at H
         have c312b0 : (t644 == 0) = false := beq_eq_false_iff_ne.mpr c312
         have c312b1 : (t644 != 0) = true := bne_iff_ne.mpr c312
         exact absurd (Option.some.inj H) (by decide)
       ·rw [if_neg c309] at H
        have c309b0 : (t637 == 0) = false := beq_eq_false_iff_ne.mpr c309
        have c309b1 : (t637 != 0) = true := bne_iff_ne.mpr c309
        (first | rw [c309b0] | (simp only [i64_w, i32_w]; rw [c309b0]) | skip)
        have H' := Aside0.mk H
        clear H
        go_wp2
        repeat (go_quiet (fail); try go_wp2)
        go_meet
        case rel => exact ⟨_, H', ⟨by have := HJ266.out; first | omega | exact Nat.le_refl _⟩, ⟨iHB⟩⟩
      case rest =>
       obtain ⟨kq, HA, _, HB⟩ := hcut
       go_step
       exact laws_FnPolynomials.s5 kq A0 c0 l0 w _ HR0 HC0 HA HB _ _ _ _ _ _ _ _ _ _ _ _ _ _ _ _ _ _ _ _ _ _ _ _ _ _ _ _ _ _ _ _ _ _ _ _ _ _ _ _ _ _ _ _ _ _ _ _ _ _ _ _ _ _ _ _ _ _ _ _ _ _ _ _ _ _ _ _ _ _ _ _ _ _ _ _ _ _ _ _ _ _ _ _ _ _ _ _ _ _ _ _ _ _ _ _ _ _ _ _ _ _ _ _ _ _ _ _ _ _ _ _ _ _ _ _ _ _ _ _ _ _ _ _ _ _ _ _ _ _ _ _ _ _ _ _ _ _ _ _ _ _ _ _ _ _ _ _ _ _ _ _ _ _ _ _ _ _ _ _ _ _ _ _ _ _ _ _ _ _ _ _ _ _ _ _ _ _ _ _ _ _ _ _ _ _ _ _ _ _ _ _ _ _ _ _ _ _ _ _ _ _ _ _ _ _ _ _ _ _ _ _ _ _ _ _ _ _ _ _ _ _ _ _ _ _ _ _ _ _ _ _ _ _ _ _ _ _ _ _ _ _ _ _ _ _ _ _ _ _ _ _ _ _ _ _ _ _ _ _ _ _ _ _ _ _ _ _ _ _ _ _ _ _ _ _ _ _ _ _ _ _ _ _ _ _ _ _ _ _ _ _ _ _ _ _ _ _ _ _ _ _ _ _ _ _ _ _ _ _ _ _ _ _ _ _ _ _ _ _ _ _ _ _ _ _ _ _ _ _ _ _ _ _ _ _ _ _ _ _ _ _ _ _ _ _ _ _ _ _ _ _ _ _ _ _ _ _ _ _ _ _ _ _ _ _ _ _ _ _ _ _ _ _ _ _ _ _ _ _ _ _ _ _ _ _ _ _ _ _ _ _ _ _ _ _ _ _ _ _ _ _ _ _ _ _ _ _ _ _ _ _ _ _ _ _ _ _ _ _
end Go.Proofs.Ytdhfbgbclibagaa.P
