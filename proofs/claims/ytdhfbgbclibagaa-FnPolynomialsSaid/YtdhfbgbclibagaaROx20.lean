/- Functions of the given program and their contracts, written by a program of this session (gen.py) over the kit's print. -/
import Derived.Test.YtdhfbgbclibagaaROx0
import Derived.Test.YtdhfbgbclibagaaROx1
import Derived.Test.YtdhfbgbclibagaaROx2
import Derived.Test.YtdhfbgbclibagaaROx8
import Derived.Test.YtdhfbgbclibagaaROx9
import Derived.Test.YtdhfbgbclibagaaROx10
import Derived.Test.YtdhfbgbclibagaaROx14
import Derived.Test.YtdhfbgbclibagaaROx15
import Derived.Test.YtdhfbgbclibagaaROx16
import Derived.Test.YtdhfbgbclibagaaROx17
import Derived.Test.YtdhfbgbclibagaaROx19
namespace Go.Proofs.Ytdhfbgbclibagaa.P
open Go.RowKit Go.Proofs.YtdhfbgbclibagaaW.PrintWords Go.Proofs.YtdhfbgbclibagaaW.PrintLast Go.Proofs.YtdhfbgbclibagaaW.PrintMore
attribute [local go_sem] max2_int min2_int max_two min_two max_three min_three max_four min_four   -- for this text's walks alone
set_option linter.unusedVariables false
set_option linter.unusedSimpArgs false
attribute [local go_sem high] eqA27
set_option maxHeartbeats 8000000 in
set_option maxRecDepth 100000 in
theorem laws_FnPolynomials.s5 (kq : Nat) (A0 : Option Addr) (c0 : Nat) (l0 : List Int) (w wc : World) (HR0 : Aside0 (Kd.C (Kd.int .u8) w A0 l0.length l0)) (HC0 : Aside0 (l0.length ≤ c0)) (HA : Aside0 (laws_FnPolynomials.j5 kq l0 = some true)) (HB : Aside0 (Below w.heap.size w wc)) (v1 v2 v3 v4 v5 v6 v7 v8 v9 v10 v11 v12 v13 v14 v15 v16 v17 v18 v19 v20 v21 v22 v23 v24 v25 v26 v27 v28 v29 v30 v31 v32 v33 v34 v35 v36 v37 v38 v39 v40 v41 v42 v43 v44 v45 v46 v47 v48 v49 v50 v51 v52 v53 v54 v55 v56 v57 v58 v59 v60 v61 v62 v63 v64 v65 v66 v67 v68 v69 v70 v71 v72 v73 v74 v75 v76 v77 v78 v79 v80 v81 v82 v83 v84 v85 v86 v87 v88 v89 v90 v91 v92 v93 v94 v95 v96 v97 v98 v99 v100 v101 v102 v103 v104 v105 v106 v107 v108 v109 v110 v111 v112 v113 v114 v115 v116 v117 v118 v119 v120 v121 v122 v123 v124 v125 v126 v127 v128 v129 v130 v131 v132 v133 v134 v135 v136 v137 v138 v139 v140 v141 v142 v143 v144 v145 v146 v147 v148 v149 v150 v151 v152 v153 v154 v155 v156 v157 v158 v159 v160 v161 v162 v163 v164 v165 v166 v167 v168 v169 v170 v171 v172 v173 v174 v175 v176 v177 v178 v179 v180 v181 v182 v183 v184 v185 v186 v187 v188 v189 v190 v191 v192 v193 v194 v195 v196 v197 v198 v199 v200 v201 v202 v203 v204 v205 v206 v207 v208 v209 v210 v211 v212 v213 v214 v215 v216 v217 v218 v219 v220 v221 v222 v223 v224 v225 v226 v227 v228 v229 v230 v231 v232 v233 v234 v235 v236 v237 v238 v239 v240 v241 v242 v243 v244 v245 v246 v247 v248 v249 v250 v251 v252 v253 v254 v255 v256 v257 v258 v259 v260 v261 v262 v263 v264 v265 v266 v267 v268 v269 v270 v271 v272 v273 v274 v275 v276 v277 v278 v279 v280 v281 v282 v283 v284 v285 v286 v287 v288 v289 v290 v291 v292 v293 v294 v295 v296 v297 v298 v299 v300 v301 v302 v303 v304 v305 v306 v307 v308 v309 v310 v311 v312 v313 v314 v315 v316 v317 v318 v319 v320 v321 v322 v323 v324 v325 v326 v327 v328 v329 v330 v331 v332 v333 v334 v335 v336 v337 v338 v339 v340 v341 v342 v343 v344 v345 v346 v347 v348 v349 v350 v351 v352 v353 v354 v355 v356 v357 v358 v359 v360 v361 v362 v363 v364 v365 v366 v367 v368 v369 v370 v371 v372 v373 v374 v375 v376 v377 v378 v379 v380 v381 v382 v383 v384 v385 v386 v387 v388 v389 v390 v391 v392 v393 v394 v395 v396 v397 v398 v399 v400 v401 v402 v403 v404 v405 v406 v407 v408 v409 v410 v411 v412 v413 v414 v415 v416 v417 v418 v419 v420 : Value) :
    Code.wp Try.prog (dropSeq 12 ((Try.f14.body).getD .skip)) (bodyPost Try.prog Try.f14 fun e w' => e = .returned (.bool true) ∧ Below w.heap.size w w') ⟨#[.slice A0 l0.length c0, v1, v2, v3, v4, v5, v6, v7, v8, v9, v10, v11, v12, v13, v14, v15, v16, v17, v18, v19, v20, v21, v22, v23, v24, v25, v26, v27, v28, v29, v30, v31, v32, v33, v34, v35, v36, v37, v38, v39, v40, v41, v42, v43, v44, v45, v46, v47, v48, v49, v50, v51, v52, v53, v54, v55, v56, v57, v58, v59, v60, v61, v62, v63, v64, v65, v66, v67, v68, v69, v70, v71, v72, v73, v74, v75, v76, v77, v78, v79, v80, v81, v82, v83, v84, v85, v86, v87, v88, v89, v90, v91, v92, v93, v94, v95, v96, v97, v98, v99, v100, v101, v102, v103, v104, v105, v106, v107, v108, v109, v110, v111, v112, v113, v114, v115, v116, v117, v118, v119, v120, v121, v122, v123, v124, v125, v126, v127, v128, v129, v130, v131, v132, v133, v134, v135, v136, v137, v138, v139, v140, v141, v142, v143, v144, v145, v146, v147, v148, v149, v150, v151, v152, v153, v154, v155, v156, v157, v158, v159, v160, v161, v162, v163, v164, v165, v166, v167, v168, v169, v170, v171, v172, v173, v174, v175, v176, v177, v178, v179, v180, v181, v182, v183, v184, v185, v186, v187, v188, v189, v190, v191, v192, v193, v194, v195, v196, v197, v198, v199, v200, v201, v202, v203, v204, v205, v206, v207, v208, v209, v210, v211, v212, v213, v214, v215, v216, v217, v218, v219, v220, v221, v222, v223, v224, v225, v226, v227, v228, v229, v230, v231, v232, v233, v234, v235, v236, v237, v238, v239, v240, v241, v242, v243, v244, v245, v246, v247, v248, v249, v250, v251, v252, v253, v254, v255, v256, v257, v258, v259, v260, v261, v262, v263, v264, v265, v266, v267, v268, v269, v270, v271, v272, v273, v274, v275, v276, v277, v278, v279, v280, v281, v282, v283, v284, v285, v286, v287, v288, v289, v290, v291, v292, v293, v294, v295, v296, v297, v298, v299, v300, v301, v302, v303, v304, v305, v306, v307, v308, v309, v310, v311, v312, v313, v314, v315, v316, v317, v318, v319, v320, v321, v322, v323, v324, v325, v326, v327, v328, v329, v330, v331, v332, v333, v334, v335, v336, v337, v338, v339, v340, v341, v342, v343, v344, v345, v346, v347, v348, v349, v350, v351, v352, v353, v354, v355, v356, v357, v358, v359, v360, v361, v362, v363, v364, v365, v366, v367, v368, v369, v370, v371, v372, v373, v374, v375, v376, v377, v378, v379, v380, v381, v382, v383, v384, v385, v386, v387, v388, v389, v390, v391, v392, v393, v394, v395, v396, v397, v398, v399, v400, v401, v402, v403, v404, v405, v406, v407, v408, v409, v410, v411, v412, v413, v414, v415, v416, v417, v418, v419, v420], []⟩ wc := by
  have hu27 := Try.underlying27
  conv => arg 2; whnf
  cases kq with
  | zero => exact absurd HA.out (by simp [laws_FnPolynomials.j5])
  | succ kj307 =>
   have H := HA.out
   clear HA
   simp only [laws_FnPolynomials.j5] at H
   replace H := Option.bind_eq_some_iff.mp H
   obtain ⟨⟨t647, t648⟩, A3910, H⟩ := H
   replace H : ((impl_AffinePart.f t647 t648).bind fun bt650 => ((spec_AffinePart.f kj307 t647 t648).bind fun bt654 => (if bt650.2.2 = bt654.2.2 then (laws_FnPolynomials.j6 kj307 l0 bt650.2.2 (!(bt650.1 == bt654.1) || (!(bt650.2.1 == bt654.2.1))) t647 t648 bt650.1 bt650.2.1) else (laws_FnPolynomials.j6 kj307 l0 bt650.2.2 true t647 t648 bt650.1 bt650.2.1)))) = some true := H
   have A391 := Aside0.mk A3910
   clear A3910
   replace H := Option.bind_eq_some_iff.mp H
   obtain ⟨⟨t650, t651, t652⟩, A3920, H⟩ := H
   replace H : ((spec_AffinePart.f kj307 t647 t648).bind fun bt654 => (if t652 = bt654.2.2 then (laws_FnPolynomials.j6 kj307 l0 t652 (!(t650 == bt654.1) || (!(t651 == bt654.2.1))) t647 t648 t650 t651) else (laws_FnPolynomials.j6 kj307 l0 t652 true t647 t648 t650 t651))) = some true := H
   have A392 := Aside0.mk A3920
   clear A3920
   replace H := Option.bind_eq_some_iff.mp H
   obtain ⟨⟨t654, t655, t656⟩, A3930, H⟩ := H
   replace H : (if t652 = t656 then (laws_FnPolynomials.j6 kj307 l0 t652 (!(t650 == t654) || (!(t651 == t655))) t647 t648 t650 t651) else (laws_FnPolynomials.j6 kj307 l0 t652 true t647 t648 t650 t651)) = some true := H
   have A393 := Aside0.mk A3930
   clear A3930
   have HC394 := Aside0.mk H
   clear H
   go_upto_region 39 with (first | (go_at_call 61; (with_reducible refine (spec_DrawAffinePart.calls kj307 _ _ l0 t647 t648 _ ?side1 ?side2 A391.out).mono ?_); (case side1 => repeat (first | exact (Kd.C_below HR0.out HB.out) | (with_reducible refine Kd.C_alloc ?_ _) | (with_reducible refine Kd.C_drewN ?_ _) | (with_reducible refine Kd.C_drew ?_))); (case side2 => exact HC0.out); rintro e w395 ⟨rfl, hb⟩; have n7_ := aa (below_step iHB hb); clear HB; have HB := n7_; clear n7_; (try clear hb)) | ((with_reducible refine gate_dst (N := 36) rfl ?_); (try (refine gate_guard (by rfl) ?_; dsimp only)); refine box_event ?hg (N := 36) ?hd (cs := #[.int .i64 0, .int .i64 0]) (t := 27) ?hr ?_; (case hd => rfl); (case hg => rfl); (case hr => first | (go_simp; done) | (go_simp; rfl)); intro gb649 hg w396 hbox hb; have n7_ := aa (below_step iHB hb); have n8_ := aa (hbox); have n9_ := gwB (w := w) hg iHB; have n10_ := gwB (w := w) hg iHB; clear HB; have HB := n7_; have BK649 := n8_; have GW649 := n9_; have GE649 := n10_; clear n7_ n8_ n9_ n10_ hb hbox hg; have hcz404_0 : w396.cell? ⟨gb649, 0, none⟩ = some (.int .i64 0) := (blk_cell BK649.out 0).trans rfl; have hcz404_1 : w396.cell? ⟨gb649, 1, none⟩ = some (.int .i64 0) := (blk_cell BK649.out 1).trans rfl; have hfz404_0 := blk_frozen BK649.out 0; have hfz404_1 := blk_frozen BK649.out 1) | (go_at_call 40; (with_reducible refine (impl_AffinePart.calls t647 t648 t650 t651 t652 _ A392.out).mono ?_); rintro e w405 ⟨rfl, hb⟩; have n7_ := aa (blk_below (g := gb649) (o := .cells #[.int .i64 t647, .int .i64 t648] 27 (0, 0)) (by (with_reducible repeat (first | refine blk_drewN ?_ _ | refine blk_drew ?_ | refine blk_alloc ?_ _)); refine blk_put (cs := #[.int .i64 t647, .int .i64 0]) ?_ 1 _ rfl; (with_reducible repeat (first | refine blk_drewN ?_ _ | refine blk_drew ?_ | refine blk_alloc ?_ _)); refine blk_put (cs := #[.int .i64 0, .int .i64 0]) ?_ 0 _ rfl; exact iBK BK649.out) hb); have n8_ := aa (below_step iHB hb); clear BK649 HB; have BK649 := n7_; have HB := n8_; clear n7_ n8_; (try clear hb)) | ((with_reducible refine gate_dst (N := 37) rfl ?_); (try (refine gate_guard (by rfl) ?_; dsimp only)); refine box_event ?hg (N := 37) ?hd (cs := #[.int .i64 0, .int .i64 0]) (t := 27) ?hr ?_; (case hd => rfl); (case hg => rfl); (case hr => first | (go_simp; done) | (go_simp; rfl)); intro gb653 hg w406 hbox hb; have n7_ := aa (blk_below (iBK BK649.out) hb); have n8_ := aa (below_step iHB hb); have n9_ := aa (hbox); have n10_ := gwB (w := w) hg iHB; have n11_ := gwB (w := w) hg iHB; have n26_ := nbL hg (iBK BK649.out); have n27_ := nbR hg (iBK BK649.out); clear BK649 HB; have BK649 := n7_; have HB := n8_; have BK653 := n9_; have GW653 := n10_; have GE653 := n11_; have NB649_653 := n26_; have NB653_649 := n27_; clear n7_ n8_ n9_ n10_ n11_ n26_ n27_ hb hbox hg; have hnb414 := NB653_649.out; have hnc414 := NB649_653.out; have hcz415_0 : w406.cell? ⟨gb653, 0, none⟩ = some (.int .i64 0) := (blk_cell BK653.out 0).trans rfl; have hcz415_1 : w406.cell? ⟨gb653, 1, none⟩ = some (.int .i64 0) := (blk_cell BK653.out 1).trans rfl; have hfz415_0 := blk_frozen BK653.out 0; have hfz415_1 := blk_frozen BK653.out 1; have hcz416_0 : w406.cell? ⟨gb649, 0, none⟩ = some (.int .i64 t647) := (blk_cell BK649.out 0).trans rfl; have hcz416_1 : w406.cell? ⟨gb649, 1, none⟩ = some (.int .i64 t648) := (blk_cell BK649.out 1).trans rfl; have hfz416_0 := blk_frozen BK649.out 0; have hfz416_1 := blk_frozen BK649.out 1) | (go_at_call 39; (with_reducible refine (spec_AffinePart.calls kj307 t647 t648 t654 t655 t656 _ A393.out).mono ?_); rintro e w417 ⟨rfl, hb⟩; have n7_ := aa (blk_below (g := gb649) (o := .cells #[.int .i64 t647, .int .i64 t648] 27 (0, 0)) (by (with_reducible repeat (first | refine blk_drewN ?_ _ | refine blk_drew ?_ | refine blk_alloc ?_ _)); refine blk_far ?_ NB649_653.out _; (with_reducible repeat (first | refine blk_drewN ?_ _ | refine blk_drew ?_ | refine blk_alloc ?_ _)); refine blk_far ?_ NB649_653.out _; exact iBK BK649.out) hb); have n8_ := aa (blk_below (g := gb653) (o := .cells #[.int .i64 t650, .int .i64 t651] 27 (0, 0)) (by (with_reducible repeat (first | refine blk_drewN ?_ _ | refine blk_drew ?_ | refine blk_alloc ?_ _)); refine blk_put (cs := #[.int .i64 t650, .int .i64 0]) ?_ 1 _ rfl; (with_reducible repeat (first | refine blk_drewN ?_ _ | refine blk_drew ?_ | refine blk_alloc ?_ _)); refine blk_put (cs := #[.int .i64 0, .int .i64 0]) ?_ 0 _ rfl; exact iBK BK653.out) hb); have n9_ := aa (below_step iHB hb); clear BK649 BK653 HB; have BK649 := n7_; have BK653 := n8_; have HB := n9_; clear n7_ n8_ n9_; (try clear hb)) | ((with_reducible refine gate_dst (N := 39) rfl ?_); (try (refine gate_guard (by rfl) ?_; dsimp only)); refine box_event ?hg (N := 39) ?hd (cs := #[.int .i64 0, .int .i64 0]) (t := 27) ?hr ?_; (case hd => rfl); (case hg => rfl); (case hr => first | (go_simp; done) | (go_simp; rfl)); intro gb657 hg w418 hbox hb; have n7_ := aa (blk_below (iBK BK649.out) hb); have n8_ := aa (blk_below (iBK BK653.out) hb); have n9_ := aa (below_step iHB hb); have n10_ := aa (hbox); have n11_ := gwB (w := w) hg iHB; have n12_ := gwB (w := w) hg iHB; have n27_ := nbL hg (iBK BK649.out); have n28_ := nbR hg (iBK BK649.out); have n29_ := nbL hg (iBK BK653.out); have n30_ := nbR hg (iBK BK653.out); clear BK649 BK653 HB; have BK649 := n7_; have BK653 := n8_; have HB := n9_; have BK657 := n10_; have GW657 := n11_; have GE657 := n12_; have NB649_657 := n27_; have NB657_649 := n28_; have NB653_657 := n29_; have NB657_653 := n30_; clear n7_ n8_ n9_ n10_ n11_ n12_ n27_ n28_ n29_ n30_ hb hbox hg; have hnb426 := NB657_649.out; have hnc426 := NB649_657.out; have hnb427 := NB657_653.out; have hnc427 := NB653_657.out; have hcz428_0 : w418.cell? ⟨gb657, 0, none⟩ = some (.int .i64 0) := (blk_cell BK657.out 0).trans rfl; have hcz428_1 : w418.cell? ⟨gb657, 1, none⟩ = some (.int .i64 0) := (blk_cell BK657.out 1).trans rfl; have hfz428_0 := blk_frozen BK657.out 0; have hfz428_1 := blk_frozen BK657.out 1))
   (try simp only [Act.put, List.setIfInBounds_toArray, List.set_cons_zero, List.set_cons_succ])
   go_cut [293] from 286 to 293 (fun v293 wc => ∃ (kq : Nat) (x293_393 : Bool), v293 = .bool x293_393 ∧ Aside0 (laws_FnPolynomials.j6 kq l0 t652 x293_393 t647 t648 t650 t651 = some true) ∧ Aside0 (kq ≤ kj307) ∧ Aside0 (wc.heap[gb649]? = some (.cells #[.int .i64 t647, .int .i64 t648] 27 (0, 0))) ∧ Aside0 (wc.heap[gb653]? = some (.cells #[.int .i64 t650, .int .i64 t651] 27 (0, 0))) ∧ Aside0 (wc.heap[gb657]? = some (.cells #[.int .i64 t654, .int .i64 t655] 27 (0, 0))) ∧ Aside0 (Below w.heap.size w wc))
   case first =>
    have H := HC394.out
    clear HC394
    by_cases c429 : t652 = t656
    ·rw [if_pos c429] at H
     have c429b0 : (t652 == t656) = true := beq_iff_eq.mpr c429
     have c429b1 : (t652 != t656) = false := bne_eq_false_iff_eq.mpr c429
     clear c429
     (first | rw [c429b0] | (simp only [i64_w, i32_w]; rw [c429b0]) | skip)
     have H' := Aside0.mk H
     clear H
     have hnb437 := NB653_649.out
     have hnc437 := NB649_653.out
     have hnb438 := NB653_657.out
     have hnc438 := NB657_653.out
     have hcz439_0 : w418.cell? ⟨gb653, 0, none⟩ = some (.int .i64 t650) := (blk_cell BK653.out 0).trans rfl
     have hcz439_1 : w418.cell? ⟨gb653, 1, none⟩ = some (.int .i64 t651) := (blk_cell BK653.out 1).trans rfl
     have hfz439_0 := blk_frozen BK653.out 0
     have hfz439_1 := blk_frozen BK653.out 1
     have hnb447 := NB657_649.out
     have hnc447 := NB649_657.out
     have hcz448_0 : w418.cell? ⟨gb657, 0, none⟩ = some (.int .i64 0) := (blk_cell BK657.out 0).trans rfl
     have hcz448_1 : w418.cell? ⟨gb657, 1, none⟩ = some (.int .i64 0) := (blk_cell BK657.out 1).trans rfl
     have hfz448_0 := blk_frozen BK657.out 0
     have hfz448_1 := blk_frozen BK657.out 1
     go_wp2
     repeat (go_quiet (fail); try go_wp2)
     go_meet
     case rel => exact ⟨_, ((!(t650 == t654) || (!(t651 == t655)))), (by first | rfl | (simp; done) | (simp [*]; done)), H', ⟨by first | omega | exact Nat.le_refl _⟩, ⟨by (with_reducible repeat (first | refine blk_drewN ?_ _ | refine blk_drew ?_ | refine blk_alloc ?_ _)); refine blk_far ?_ NB649_657.out _; (with_reducible repeat (first | refine blk_drewN ?_ _ | refine blk_drew ?_ | refine blk_alloc ?_ _)); refine blk_far ?_ NB649_657.out _; exact iBK BK649.out⟩, ⟨by (with_reducible repeat (first | refine blk_drewN ?_ _ | refine blk_drew ?_ | refine blk_alloc ?_ _)); refine blk_far ?_ NB653_657.out _; (with_reducible repeat (first | refine blk_drewN ?_ _ | refine blk_drew ?_ | refine blk_alloc ?_ _)); refine blk_far ?_ NB653_657.out _; exact iBK BK653.out⟩, ⟨by (with_reducible repeat (first | refine blk_drewN ?_ _ | refine blk_drew ?_ | refine blk_alloc ?_ _)); refine blk_put (cs := #[.int .i64 t654, .int .i64 0]) ?_ 1 _ rfl; (with_reducible repeat (first | refine blk_drewN ?_ _ | refine blk_drew ?_ | refine blk_alloc ?_ _)); refine blk_put (cs := #[.int .i64 0, .int .i64 0]) ?_ 0 _ rfl; exact iBK BK657.out⟩, ⟨iHB⟩⟩
    ·rw [if_neg c429] at H
     have c429b0 : (t652 == t656) = false := beq_eq_false_iff_ne.mpr c429
     have c429b1 : (t652 != t656) = true := bne_iff_ne.mpr c429
     (first | rw [c429b0] | (simp only [i64_w, i32_w]; rw [c429b0]) | skip)
     exact (laws_FnPolynomials.j6_not _ H).elim
   case rest =>
    clear HC394
    try clear hcz404_0
    try clear hcz404_1
    try clear hcz415_0
    try clear hcz415_1
    try clear hcz416_0
    try clear hcz416_1
    try clear hcz428_0
    try clear hcz428_1
    try clear hfz404_0
    try clear hfz404_1
    try clear hfz415_0
    try clear hfz415_1
    try clear hfz416_0
    try clear hfz416_1
    try clear hfz428_0
    try clear hfz428_1
    obtain ⟨kq, x293_393, rfl, HA, HJ393, BK649, BK653, BK657, HB⟩ := hcut
    cases kq with
    | zero => exact absurd HA.out (by simp [laws_FnPolynomials.j6])
    | succ kj393 =>
     have H := HA.out
     clear HA
     simp only [laws_FnPolynomials.j6] at H
     by_cases c449 : x293_393 = true
     ·subst c449
      have H1 : (some false) = some true := by first | (rw [if_pos rfl] at H; exact H) | rfl
      clear H
      have H := H1
      clear H1
      exact absurd (Option.some.inj H) (by decide)
     ·replace c449 := Bool.eq_false_iff.mpr c449
      subst c449
      have H1 : (if t652 = 0 then ((impl_DegreeOfFunc.f kj393 t650 t651).bind fun bt658 => ((impl_DegreeOfFunc.f kj393 t647 t648).bind fun bt660 => (if bt658.2 = 0 then (if bt660.2 = 0 then (if bt658.1 > 1 then (some false) else (if bt660.1 < 2 then (if (!(t650 == t647) || (!(t651 == t648))) = true then (some false) else (laws_FnPolynomials.j7 kj393 l0)) else (laws_FnPolynomials.j7 kj393 l0))) else (some false)) else (some false)))) else (laws_FnPolynomials.j7 kj393 l0)) = some true := by rw [if_neg (show ¬ (false = true) by decide)] at H; exact H
      clear H
      have H := H1
      clear H1
      have HC450 := Aside0.mk H
      clear H
      go_upto_if 295 with (fail)
      repeat (go_quiet (fail); go_upto_if 295 with (fail))
      go_cut [] from 41 to 324 (fun wc => ∃ (kq : Nat), Aside0 (laws_FnPolynomials.j7 kq l0 = some true) ∧ Aside0 (kq ≤ kj393) ∧ Aside0 (Below w.heap.size w wc))
      case first =>
       have H := HC450.out
       clear HC450
       by_cases c451 : t652 = 0
       ·rw [if_pos c451] at H
        have c451b0 : (t652 == 0) = true := beq_iff_eq.mpr c451
        have c451b1 : (t652 != 0) = false := bne_eq_false_iff_eq.mpr c451
        clear c451
        (first | rw [c451b0] | (simp only [i64_w, i32_w]; rw [c451b0]) | skip)
        replace H := Option.bind_eq_some_iff.mp H
        obtain ⟨⟨t658, t659⟩, A4520, H⟩ := H
        replace H : ((impl_DegreeOfFunc.f kj393 t647 t648).bind fun bt660 => (if t659 = 0 then (if bt660.2 = 0 then (if t658 > 1 then (some false) else (if bt660.1 < 2 then (if (!(t650 == t647) || (!(t651 == t648))) = true then (some false) else (laws_FnPolynomials.j7 kj393 l0)) else (laws_FnPolynomials.j7 kj393 l0))) else (some false)) else (some false))) = some true := H
        have A452 := Aside0.mk A4520
        clear A4520
        replace H := Option.bind_eq_some_iff.mp H
        obtain ⟨⟨t660, t661⟩, A4530, H⟩ := H
        replace H : (if t659 = 0 then (if t661 = 0 then (if t658 > 1 then (some false) else (if t660 < 2 then (if (!(t650 == t647) || (!(t651 == t648))) = true then (some false) else (laws_FnPolynomials.j7 kj393 l0)) else (laws_FnPolynomials.j7 kj393 l0))) else (some false)) else (some false)) = some true := H
        have A453 := Aside0.mk A4530
        clear A4530
        by_cases c454 : t659 = 0
        ·rw [if_pos c454] at H
         have c454b0 : (t659 == 0) = true := beq_iff_eq.mpr c454
         have c454b1 : (t659 != 0) = false := bne_eq_false_iff_eq.mpr c454
         clear c454
         by_cases c455 : t661 = 0
         ·rw [if_pos c455] at H
          have c455b0 : (t661 == 0) = true := beq_iff_eq.mpr c455
          have c455b1 : (t661 != 0) = false := bne_eq_false_iff_eq.mpr c455
          clear c455
          by_cases c456 : t658 > 1
          ·rw [if_pos c456] at H
           have c456b0 : decide (1 < t658) = true := decide_eq_true c456
           clear c456
           exact absurd (Option.some.inj H) (by decide)
          ·rw [if_neg c456] at H
           have c456b0 : decide (1 < t658) = false := decide_eq_false c456
           clear c456
           by_cases c478 : t660 < 2
           ·rw [if_pos c478] at H
            have c478b0 : decide (t660 < 2) = true := decide_eq_true c478
            clear c478
            by_cases c479 : (!(t650 == t647) || (!(t651 == t648))) = true
            ·rw [if_pos c479] at H
             have c479b0 : (!(t650 == t647) || (!(t651 == t648))) = true := c479
             clear c479
             exact absurd (Option.some.inj H) (by decide)
            ·rw [if_neg c479] at H
             have c479b0 : (!(t650 == t647) || (!(t651 == t648))) = false := by simpa using c479
             clear c479
             have H' := Aside0.mk H
             clear H
             have hnb510 := NB653_649.out
             have hnc510 := NB649_653.out
             have hnb511 := NB653_657.out
             have hnc511 := NB657_653.out
             have hcz512_0 : wc.cell? ⟨gb653, 0, none⟩ = some (.int .i64 t650) := (blk_cell BK653.out 0).trans rfl
             have hcz512_1 : wc.cell? ⟨gb653, 1, none⟩ = some (.int .i64 t651) := (blk_cell BK653.out 1).trans rfl
             have hfz512_0 := blk_frozen BK653.out 0
             have hfz512_1 := blk_frozen BK653.out 1
             go_wp2_with (first | (go_at_call 38; (with_reducible refine (impl_DegreeOfFunc.calls kj393 t650 t651 t658 t659 _ A452.out).mono ?_); rintro e w513 ⟨rfl, hb⟩; have n7_ := aa (blk_below (iBK BK649.out) hb); have n8_ := aa (blk_below (iBK BK653.out) hb); have n9_ := aa (blk_below (iBK BK657.out) hb); have n10_ := aa (below_step iHB hb); clear BK649 BK653 BK657 HB; have BK649 := n7_; have BK653 := n8_; have BK657 := n9_; have HB := n10_; clear n7_ n8_ n9_ n10_; (try clear hb); have hnb521 := NB649_657.out; have hnc521 := NB657_649.out; have hcz522_0 : w513.cell? ⟨gb649, 0, none⟩ = some (.int .i64 t647) := (blk_cell BK649.out 0).trans rfl; have hcz522_1 : w513.cell? ⟨gb649, 1, none⟩ = some (.int .i64 t648) := (blk_cell BK649.out 1).trans rfl; have hfz522_0 := blk_frozen BK649.out 0; have hfz522_1 := blk_frozen BK649.out 1) | (go_at_call 38; (with_reducible refine (impl_DegreeOfFunc.calls kj393 t647 t648 t660 t661 _ A453.out).mono ?_); rintro e w523 ⟨rfl, hb⟩; have n7_ := aa (blk_below (iBK BK649.out) hb); have n8_ := aa (blk_below (iBK BK653.out) hb); have n9_ := aa (blk_below (iBK BK657.out) hb); have n10_ := aa (below_step iHB hb); clear BK649 BK653 BK657 HB; have BK649 := n7_; have BK653 := n8_; have BK657 := n9_; have HB := n10_; clear n7_ n8_ n9_ n10_; (try clear hb); have hcz524_0 : w523.cell? ⟨gb653, 0, none⟩ = some (.int .i64 t650) := (blk_cell BK653.out 0).trans rfl; have hcz524_1 : w523.cell? ⟨gb653, 1, none⟩ = some (.int .i64 t651) := (blk_cell BK653.out 1).trans rfl; have hfz524_0 := blk_frozen BK653.out 0; have hfz524_1 := blk_frozen BK653.out 1; have hcz525_0 : w523.cell? ⟨gb649, 0, none⟩ = some (.int .i64 t647) := (blk_cell BK649.out 0).trans rfl; have hcz525_1 : w523.cell? ⟨gb649, 1, none⟩ = some (.int .i64 t648) := (blk_cell BK649.out 1).trans rfl; have hfz525_0 := blk_frozen BK649.out 0; have hfz525_1 := blk_frozen BK649.out 1))
             go_meet
             case rel => exact ⟨_, H', ⟨by have := HJ393.out; first | omega | exact Nat.le_refl _⟩, ⟨iHB⟩⟩
           ·rw [if_neg c478] at H
            have c478b0 : decide (t660 < 2) = false := decide_eq_false c478
            clear c478
            have H' := Aside0.mk H
            clear H
            have hnb533 := NB653_649.out
            have hnc533 := NB649_653.out
            have hnb534 := NB653_657.out
            have hnc534 := NB657_653.out
            have hcz535_0 : wc.cell? ⟨gb653, 0, none⟩ = some (.int .i64 t650) := (blk_cell BK653.out 0).trans rfl
            have hcz535_1 : wc.cell? ⟨gb653, 1, none⟩ = some (.int .i64 t651) := (blk_cell BK653.out 1).trans rfl
            have hfz535_0 := blk_frozen BK653.out 0
            have hfz535_1 := blk_frozen BK653.out 1
            go_wp2_with (first | (go_at_call 38; (with_reducible refine (impl_DegreeOfFunc.calls kj393 t650 t651 t658 t659 _ A452.out).mono ?_); rintro e w536 ⟨rfl, hb⟩; have n7_ := aa (blk_below (iBK BK649.out) hb); have n8_ := aa (blk_below (iBK BK653.out) hb); have n9_ := aa (blk_below (iBK BK657.out) hb); have n10_ := aa (below_step iHB hb); clear BK649 BK653 BK657 HB; have BK649 := n7_; have BK653 := n8_; have BK657 := n9_; have HB := n10_; clear n7_ n8_ n9_ n10_; (try clear hb); have hnb544 := NB649_657.out; have hnc544 := NB657_649.out; have hcz545_0 : w536.cell? ⟨gb649, 0, none⟩ = some (.int .i64 t647) := (blk_cell BK649.out 0).trans rfl; have hcz545_1 : w536.cell? ⟨gb649, 1, none⟩ = some (.int .i64 t648) := (blk_cell BK649.out 1).trans rfl; have hfz545_0 := blk_frozen BK649.out 0; have hfz545_1 := blk_frozen BK649.out 1) | (go_at_call 38; (with_reducible refine (impl_DegreeOfFunc.calls kj393 t647 t648 t660 t661 _ A453.out).mono ?_); rintro e w546 ⟨rfl, hb⟩; have n7_ := aa (blk_below (iBK BK649.out) hb); have n8_ := aa (blk_below (iBK BK653.out) hb); have n9_ := aa (blk_below (iBK BK657.out) hb); have n10_ := aa (below_step iHB hb); clear BK649 BK653 BK657 HB; have BK649 := n7_; have BK653 := n8_; have BK657 := n9_; have HB := n10_; clear n7_ n8_ n9_ n10_; (try clear hb)))
            go_meet
            case rel => exact ⟨_, H', ⟨by have := HJ393.out; first | omega | exact Nat.le_refl _⟩, ⟨iHB⟩⟩
         ·rw [if_neg c455] at H
          have c455b0 : (t661 == 0) = false := beq_eq_false_iff_ne.mpr c455
          have c455b1 : (t661 != 0) = true := bne_iff_ne.mpr c455
          exact absurd (Option.some.inj H) (by decide)
        ·rw [if_neg c454] at H
         have c454b0 : (t659 == 0) = false := beq_eq_false_iff_ne.mpr c454
         have c454b1 : (t659 != 0) = true := bne_iff_ne.mpr c454
         exact absurd (Option.some.inj H) (by decide)
       ·rw [if_neg c451] at H
        have c451b0 : (t652 == 0) = false := beq_eq_false_iff_ne.mpr c451
        have c451b1 : (t652 != 0) = true := bne_iff_ne.mpr c451
        (first | rw [c451b0] | (simp only [i64_w, i32_w]; rw [c451b0]) | skip)
        have H' := Aside0.mk H
        clear H
        go_wp2
        repeat (go_quiet (fail); try go_wp2)
        go_meet
        case rel => exact ⟨_, H', ⟨by have := HJ393.out; first | omega | exact Nat.le_refl _⟩, ⟨iHB⟩⟩
      case rest =>
       obtain ⟨kq, HA, _, HB⟩ := hcut
       go_step
       exact laws_FnPolynomials.s7 kq A0 c0 l0 w _ HR0 HC0 HA HB _ _ _ _ _ _ _ _ _ _ _ _ _ _ _ _ _ _ _ _ _ _ _ _ _ _ _ _ _ _ _ _ _ _ _ _ _ _ _ _ _ _ _ _ _ _ _ _ _ _ _ _ _ _ _ _ _ _ _ _ _ _ _ _ _ _ _ _ _ _ _ _ _ _ _ _ _ _ _ _ _ _ _ _ _ _ _ _ _ _ _ _ _ _ _ _ _ _ _ _ _ _ _ _ _ _ _ _ _ _ _ _ _ _ _ _ _ _ _ _ _ _ _ _ _ _ _ _ _ _ _ _ _ _ _ _ _ _ _ _ _ _ _ _ _ _ _ _ _ _ _ _ _ _ _ _ _ _ _ _ _ _ _ _ _ _ _ _ _ _ _ _ _ _ _ _ _ _ _ _ _ _ _ _ _ _ _ _ _ _ _ _ _ _ _ _ _ _ _ _ _ _ _ _ _ _ _ _ _ _ _ _ _ _ _ _ _ _ _ _ _ _ _ _ _ _ _ _ _ _ _ _ _ _ _ _ _ _ _ _ _ _ _ _ _ _ _ _ _ _ _ _ _ _ _ _ _ _ _ _ _ _ _ _ _ _ _ _ _ _ _ _ _ _ _ _ _ _ _ _ _ _ _ _ _ _ _ _ _ _ _ _ _ _ _ _ _ _ _ _ _ _ _ _ _ _ _ _ _ _ _ _ _ _ _ _ _ _ _ _ _ _ _ _ _ _ _ _ _ _ _ _ _ _ _ _ _ _ _ _ _ _ _ _ _ _ _ _ _ _ _ _ _ _ _ _ _ _ _ _ _ _ _ _ _ _ _ _ _ _ _ _ _ _ _ _ _ _ _ _ _ _ _ _ _ _ _ _ _ _ _ _ _ _ _ _ _ _ _ _ _ _ _ _ _ _ _ _ _ _ _ _ _ _ _ _ _ _ _ _
end Go.Proofs.Ytdhfbgbclibagaa.P
