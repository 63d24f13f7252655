import Derived.Test.YtdonnbfojcggmaaGreatTopD
namespace Go.Proofs.YtdonnbfojcggmaaGreat
open Go.RowKit
attribute [local go_sem ↓] Go.wp_at_zero Go.wp_at_succ

set_option maxRecDepth 100000 in
set_option maxHeartbeats 12800000 in
theorem tl_walk {Q : Exit → Act → World → Prop} {u0 u1 u2 u4 u5 u6 u7 u8 u16 u17 u18 u19 u20 u21 u22 u23 u24 u25 u26 u27 u28 u29 u30 u31 u32 u33 u34 u35 u36 u37 u38 u39 u40 u41 u42 u43 u44 u45 u46 u47 u48 u49 u50 u51 u52 u53 u54 u55 u56 u57 u58 u59 u60 u61 u62 u63 u64 u65 u66 u67 u68 u69 u70 u71 u72 u73 u74 u75 u76 u77 u78 u79 u80 u81 u82 u83 u84 u85 u86 u87 u88 u89 u90 u91 u92 u93 u94 u95 u96 u97 u98 u99 u100 u101 u102 u103 u104 u105 u106 u107 u108 u109 u110 u111 u112 u113 u114 u115 u116 u117 u118 u119 u120 u121 u122 u123 u124 u125 u126 u127 u128 u129 u130 u131 u132 u133 u134 u135 u136 u137 u138 u139 u140 u141 u142 u143 u144 u145 u146 u147 u148 u149 u150 u151 u152 u153 u154 u155 u156 u157 u158 u159 u160 u161 u162 u163 u164 u165 u166 u167 u168 u169 u170 u171 u172 u173 u174 u175 u176 u177 u178 u179 u180 u181 u182 u183 u184 u185 u186 u187 u188 u189 u190 u191 u192 u193 u194 u195 u196 u197 u198 u199 u200 u201 u202 u203 u204 u205 u206 u207 u208 u209 u210 u211 u212 u213 u214 u215 u216 u217 u218 u219 u220 u221 u222 u223 u224 u225 u226 u227 u228 ev lim sin hd tl nw cd : Value} {w : World} {gC gk k : Nat} {wc : World} (hcut : Hid (Rel w gC gk (k + 1) ev lim sin hd tl nw cd wc)) (hk : k < 60)
    (hQ : ∀ (v22 v23 v68 v69 v70 v71 v72 v73 v74 v75 v76 v77 v78 v79 v80 v81 v82 v83 v84 v85 v86 v87 v88 v89 v90 v91 v92 v93 v94 v95 v96 v97 v98 v99 v100 v101 v102 v103 v104 v105 v106 v107 v108 v109 v110 v111 v112 v113 v114 v115 v116 v117 v118 v119 v120 v121 v122 v123 v124 v125 v126 v127 v128 v129 v130 v131 v132 v133 v134 v135 v136 v137 v138 v139 v140 v141 v142 v143 v144 v145 v146 v147 v148 v149 v150 v151 v152 v153 v154 v155 v156 v157 v158 v159 v160 v161 v162 v163 v164 v165 v166 v167 v168 v169 v170 v171 v172 v173 v174 v175 v176 v177 v178 v179 v180 v181 v182 v183 v184 v185 v186 v187 v188 v189 v190 v191 v192 v193 v194 v195 v196 v197 v198 v199 v200 v201 v202 v203 v204 v205 v206 v207 v208 v209 v210 v211 v212 v213 v214 v215 v216 v217 v218 v219 v220 v221 v222 v223 v224 v225 v226 v227 : Value) (wy : World), Hid (Rel w gC gk (k + 1) ev lim sin hd tl nw cd wy) → Q .normal ⟨#[u0, u1, u2, .pointer (some ⟨gC, 0, none⟩), u4, u5, u6, u7, u8, ev, lim, sin, hd, tl, nw, cd, u16, u17, u18, u19, u20, u21, v22, v23, u24, u25, u26, u27, u28, u29, u30, u31, u32, u33, u34, u35, u36, u37, u38, u39, u40, u41, u42, u43, u44, u45, u46, u47, u48, u49, u50, u51, u52, u53, u54, u55, u56, u57, u58, u59, u60, u61, u62, u63, u64, u65, u66, u67, v68, v69, v70, v71, v72, v73, v74, v75, v76, v77, v78, v79, v80, v81, v82, v83, v84, v85, v86, v87, v88, v89, v90, v91, v92, v93, v94, v95, v96, v97, v98, v99, v100, v101, v102, v103, v104, v105, v106, v107, v108, v109, v110, v111, v112, v113, v114, v115, v116, v117, v118, v119, v120, v121, v122, v123, v124, v125, v126, v127, v128, v129, v130, v131, v132, v133, v134, v135, v136, v137, v138, v139, v140, v141, v142, v143, v144, v145, v146, v147, v148, v149, v150, v151, v152, v153, v154, v155, v156, v157, v158, v159, v160, v161, v162, v163, v164, v165, v166, v167, v168, v169, v170, v171, v172, v173, v174, v175, v176, v177, v178, v179, v180, v181, v182, v183, v184, v185, v186, v187, v188, v189, v190, v191, v192, v193, v194, v195, v196, v197, v198, v199, v200, v201, v202, v203, v204, v205, v206, v207, v208, v209, v210, v211, v212, v213, v214, v215, v216, v217, v218, v219, v220, v221, v222, v223, v224, v225, v226, v227, u228], []⟩ wy) : tlCode.wp Tryz.prog Q ⟨#[u0, u1, u2, .pointer (some ⟨gC, 0, none⟩), u4, u5, u6, u7, u8, ev, lim, sin, hd, tl, nw, cd, u16, u17, u18, u19, u20, u21, u22, u23, u24, u25, u26, u27, u28, u29, u30, u31, u32, u33, u34, u35, u36, u37, u38, u39, u40, u41, u42, u43, u44, u45, u46, u47, u48, u49, u50, u51, u52, u53, u54, u55, u56, u57, u58, u59, u60, u61, u62, u63, u64, u65, u66, u67, u68, u69, u70, u71, u72, u73, u74, u75, u76, u77, u78, u79, u80, u81, u82, u83, u84, u85, u86, u87, u88, u89, u90, u91, u92, u93, u94, u95, u96, u97, u98, u99, u100, u101, u102, u103, u104, u105, u106, u107, u108, u109, u110, u111, u112, u113, u114, u115, u116, u117, u118, u119, u120, u121, u122, u123, u124, u125, u126, u127, u128, u129, u130, u131, u132, u133, u134, u135, u136, u137, u138, u139, u140, u141, u142, u143, u144, u145, u146, u147, u148, u149, u150, u151, u152, u153, u154, u155, u156, u157, u158, u159, u160, u161, u162, u163, u164, u165, u166, u167, u168, u169, u170, u171, u172, u173, u174, u175, u176, u177, u178, u179, u180, u181, u182, u183, u184, u185, u186, u187, u188, u189, u190, u191, u192, u193, u194, u195, u196, u197, u198, u199, u200, u201, u202, u203, u204, u205, u206, u207, u208, u209, u210, u211, u212, u213, u214, u215, u216, u217, u218, u219, u220, u221, u222, u223, u224, u225, u226, u227, u228], []⟩ wc := by
  have HQ := Lib.hid hQ
  clear hQ
  unfold tlCode
  dsimp only [roundCode, lawCode, cR, cL, cB, cLoop, Tryz.f3]
  obtain ⟨g1, g2, l, sA, A1, A2, oA, sc, c1, c2, on, oc, ol, held, told, made, gone, code, now, dead, rfl, rfl, rfl, rfl, rfl, rfl, rfl, HI⟩ := hcut.out
  clear hcut
  have hl4 := HI.out.its.few
  go_wp2_with fail
  go_loopw [22, 23] (fun m j wx => ∃ q : Nat, q ≤ l.length ∧ m = .int .i64 (gr held (l.take q)) ∧ j = .int .i64 q ∧ wc = wx) (fun _ j _ => l.length - (intOf j).toNat)
  case atStart => exact ⟨0, Nat.zero_le _, rfl, rfl, rfl⟩
  case round =>
  obtain ⟨q, hql, rfl, rfl, rfl⟩ := hrel
  by_cases hqlt : q < l.length
  · have hqlt' : (q : Int) < (l.length : Int) := by omega
    obtain ⟨o1, rfl, hcl⟩ := HI.out.lim.get
    have hcq := hcl q l[q].v (by rw [List.getElem?_map, List.getElem?_eq_getElem hqlt]; rfl)
    have hgt := gr_take held l q hqlt
    have hg1 := HI.out.lim.lt
    obtain ⟨x, hx⟩ : ∃ x, l[q].v = x := ⟨_, rfl⟩
    obtain ⟨c, hc⟩ : ∃ c, gr held (l.take q) = c := ⟨_, rfl⟩
    rw [hx] at hcq hgt
    rw [hc] at hgt ⊢
    have HGT := Lib.hid hgt
    clear hcl hx hc hgt HI
    by_cases hxc : x ≤ c
    · go_wp2_with fail
      go_roundw
      case rel => exact ⟨q + 1, by omega, by rw [HGT.out, mx, if_pos hxc], by go_num, trivial⟩
      case measure => simp [intOf]; omega
    · go_wp2_with fail
      go_roundw
      case rel => exact ⟨q + 1, by omega, by rw [HGT.out, mx, if_neg hxc], by go_num, trivial⟩
      case measure => simp [intOf]; omega
  · have hqlt' : ¬ (q : Int) < (l.length : Int) := by omega
    obtain rfl : q = l.length := by omega
    have HAG := Lib.hid (agreed_any 24 sA l.length sc held told oA on oc made gone true dead code now l wc HI.out.its)
    rw [List.take_length]
    obtain ⟨cC, fC⟩ := HI.out.con.facts
    have c21 : wc.cell? ⟨gC, 21, none⟩ = some (.int .i64 told) := by rw [cC]; rfl
    have c33 : wc.cell? ⟨gC, 33, none⟩ = some (.bool dead) := by rw [cC]; rfl
    have c34 : wc.cell? ⟨gC, 34, none⟩ = some (.int .u32 code) := by rw [cC]; rfl
    have lC := HI.out.con.lt
    have hrg := blk_range HI.out.con [.int .i64 24, .string ⟨#[]⟩, .bool false, .int .i64 0, .string ⟨#[]⟩, .bool false, .int .i64 4096, .slice none 0 0, .int .i64 4096, .int .i64 4096, .slice none 0 0, .int .i64 4096, .int .i64 4096, .int .i64 4096, .int .i64 1, .int .i64 4294967295, .int .i64 65535, .int .i64 16384, .int .i64 4294967295, .slice sA l.length sc, .int .i64 held, .int .i64 told, .int .i64 0, .slice none 0 0, .slice none 0 0, .slice none 0 0, .int .i64 65535, .int .i64 65535, .slice oA on oc, .int .i64 made, .int .i64 gone, .bool true, .bool false, .bool dead, .int .u32 code, .int .i64 now, .int .i64 30] [] rfl
    have hcod := HI.out.cod
    clear cC fC
    rcases hcod with hcd | hcd | hcd
    · replace hcd : code = 0 ∧ dead = false := hcd
      obtain ⟨rfl, rfl⟩ := hcd
      go_wp2_with (first | ((with_reducible show wpList _ _ _ (⟨_, .load 49 _, _, _, _, _⟩ :: _) _ _); refine wpList_load_mid rfl 49 _ rfl (gC) 0 rfl [.int .i64 24, .string ⟨#[]⟩, .bool false, .int .i64 0, .string ⟨#[]⟩, .bool false, .int .i64 4096, .slice none 0 0, .int .i64 4096, .int .i64 4096, .slice none 0 0, .int .i64 4096, .int .i64 4096, .int .i64 4096, .int .i64 1, .int .i64 4294967295, .int .i64 65535, .int .i64 16384, .int .i64 4294967295, .slice sA l.length sc, .int .i64 held, .int .i64 told, .int .i64 0, .slice none 0 0, .slice none 0 0, .slice none 0 0, .int .i64 65535, .int .i64 65535, .slice oA on oc, .int .i64 made, .int .i64 gone, .bool true, .bool false, .bool false, .int .u32 0, .int .i64 now, .int .i64 30] _ hrg Tryz.underlying49 rfl size49 ?_) | ((with_reducible show wpList _ _ _ (⟨_, .load 49 _, _, _, _, _⟩ :: _) _ _); refine load_wanted (by kernel_rfl) 49 _ rfl gC 0 rfl [.int .i64 24, .string ⟨#[]⟩, .bool false, .int .i64 0, .string ⟨#[]⟩, .bool false, .int .i64 4096, .slice none 0 0, .int .i64 4096, .int .i64 4096, .slice none 0 0, .int .i64 4096, .int .i64 4096, .int .i64 4096, .int .i64 1, .int .i64 4294967295, .int .i64 65535, .int .i64 16384, .int .i64 4294967295, .slice sA l.length sc, .int .i64 held, .int .i64 told, .int .i64 0, .slice none 0 0, .slice none 0 0, .slice none 0 0, .int .i64 65535, .int .i64 65535, .slice oA on oc, .int .i64 made, .int .i64 gone, .bool true, .bool false, .bool false, .int .u32 0, .int .i64 now, .int .i64 30] _ hrg Tryz.underlying49 rfl size49 ?_))
      refine (HAG.out).mono ?_
      rintro e wy ⟨rfl, hb⟩
      have HR2 : Hid (Rel w gC gk (k + 1) (.slice none 0 0) (.slice A1 l.length c1) (.slice A2 l.length c2) (.int .i64 held) (.int .i64 told) (.int .i64 now) (.int .u32 0) wy) := Lib.hid ⟨_, _, l, _, _, _, _, _, _, _, _, _, _, _, _, _, _, _, _, _, rfl, rfl, rfl, rfl, rfl, rfl, rfl, Lib.hid (HI.out.lo hb)⟩
      clear HI HAG c21 c33 c34 hrg hb
      go_wp2_with fail
      apply HQ.out
      exact HR2
    · replace hcd : code = 1 ∧ dead = true := hcd
      obtain ⟨rfl, rfl⟩ := hcd
      go_wp2_with (first | ((with_reducible show wpList _ _ _ (⟨_, .load 49 _, _, _, _, _⟩ :: _) _ _); refine wpList_load_mid rfl 49 _ rfl (gC) 0 rfl [.int .i64 24, .string ⟨#[]⟩, .bool false, .int .i64 0, .string ⟨#[]⟩, .bool false, .int .i64 4096, .slice none 0 0, .int .i64 4096, .int .i64 4096, .slice none 0 0, .int .i64 4096, .int .i64 4096, .int .i64 4096, .int .i64 1, .int .i64 4294967295, .int .i64 65535, .int .i64 16384, .int .i64 4294967295, .slice sA l.length sc, .int .i64 held, .int .i64 told, .int .i64 0, .slice none 0 0, .slice none 0 0, .slice none 0 0, .int .i64 65535, .int .i64 65535, .slice oA on oc, .int .i64 made, .int .i64 gone, .bool true, .bool false, .bool true, .int .u32 1, .int .i64 now, .int .i64 30] _ hrg Tryz.underlying49 rfl size49 ?_) | ((with_reducible show wpList _ _ _ (⟨_, .load 49 _, _, _, _, _⟩ :: _) _ _); refine load_wanted (by kernel_rfl) 49 _ rfl gC 0 rfl [.int .i64 24, .string ⟨#[]⟩, .bool false, .int .i64 0, .string ⟨#[]⟩, .bool false, .int .i64 4096, .slice none 0 0, .int .i64 4096, .int .i64 4096, .slice none 0 0, .int .i64 4096, .int .i64 4096, .int .i64 4096, .int .i64 1, .int .i64 4294967295, .int .i64 65535, .int .i64 16384, .int .i64 4294967295, .slice sA l.length sc, .int .i64 held, .int .i64 told, .int .i64 0, .slice none 0 0, .slice none 0 0, .slice none 0 0, .int .i64 65535, .int .i64 65535, .slice oA on oc, .int .i64 made, .int .i64 gone, .bool true, .bool false, .bool true, .int .u32 1, .int .i64 now, .int .i64 30] _ hrg Tryz.underlying49 rfl size49 ?_))
      refine (HAG.out).mono ?_
      rintro e wy ⟨rfl, hb⟩
      have HR2 : Hid (Rel w gC gk (k + 1) (.slice none 0 0) (.slice A1 l.length c1) (.slice A2 l.length c2) (.int .i64 held) (.int .i64 told) (.int .i64 now) (.int .u32 1) wy) := Lib.hid ⟨_, _, l, _, _, _, _, _, _, _, _, _, _, _, _, _, _, _, _, _, rfl, rfl, rfl, rfl, rfl, rfl, rfl, Lib.hid (HI.out.lo hb)⟩
      clear HI HAG c21 c33 c34 hrg hb
      go_wp2_with fail
      apply HQ.out
      exact HR2
    · replace hcd : code = 4 ∧ dead = true := hcd
      obtain ⟨rfl, rfl⟩ := hcd
      go_wp2_with (first | ((with_reducible show wpList _ _ _ (⟨_, .load 49 _, _, _, _, _⟩ :: _) _ _); refine wpList_load_mid rfl 49 _ rfl (gC) 0 rfl [.int .i64 24, .string ⟨#[]⟩, .bool false, .int .i64 0, .string ⟨#[]⟩, .bool false, .int .i64 4096, .slice none 0 0, .int .i64 4096, .int .i64 4096, .slice none 0 0, .int .i64 4096, .int .i64 4096, .int .i64 4096, .int .i64 1, .int .i64 4294967295, .int .i64 65535, .int .i64 16384, .int .i64 4294967295, .slice sA l.length sc, .int .i64 held, .int .i64 told, .int .i64 0, .slice none 0 0, .slice none 0 0, .slice none 0 0, .int .i64 65535, .int .i64 65535, .slice oA on oc, .int .i64 made, .int .i64 gone, .bool true, .bool false, .bool true, .int .u32 4, .int .i64 now, .int .i64 30] _ hrg Tryz.underlying49 rfl size49 ?_) | ((with_reducible show wpList _ _ _ (⟨_, .load 49 _, _, _, _, _⟩ :: _) _ _); refine load_wanted (by kernel_rfl) 49 _ rfl gC 0 rfl [.int .i64 24, .string ⟨#[]⟩, .bool false, .int .i64 0, .string ⟨#[]⟩, .bool false, .int .i64 4096, .slice none 0 0, .int .i64 4096, .int .i64 4096, .slice none 0 0, .int .i64 4096, .int .i64 4096, .int .i64 4096, .int .i64 1, .int .i64 4294967295, .int .i64 65535, .int .i64 16384, .int .i64 4294967295, .slice sA l.length sc, .int .i64 held, .int .i64 told, .int .i64 0, .slice none 0 0, .slice none 0 0, .slice none 0 0, .int .i64 65535, .int .i64 65535, .slice oA on oc, .int .i64 made, .int .i64 gone, .bool true, .bool false, .bool true, .int .u32 4, .int .i64 now, .int .i64 30] _ hrg Tryz.underlying49 rfl size49 ?_))
      refine (HAG.out).mono ?_
      rintro e wy ⟨rfl, hb⟩
      have HR2 : Hid (Rel w gC gk (k + 1) (.slice none 0 0) (.slice A1 l.length c1) (.slice A2 l.length c2) (.int .i64 held) (.int .i64 told) (.int .i64 now) (.int .u32 4) wy) := Lib.hid ⟨_, _, l, _, _, _, _, _, _, _, _, _, _, _, _, _, _, _, _, _, rfl, rfl, rfl, rfl, rfl, rfl, rfl, Lib.hid (HI.out.lo hb)⟩
      clear HI HAG c21 c33 c34 hrg hb
      go_wp2_with fail
      apply HQ.out
      exact HR2
end Go.Proofs.YtdonnbfojcggmaaGreat
