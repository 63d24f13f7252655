import Derived.Test.YtdonnbfojcggmaaGreatTopD
namespace Go.Proofs.YtdonnbfojcggmaaGreat
open Go.RowKit
attribute [local go_sem ↓] Go.wp_at_zero Go.wp_at_succ

set_option maxRecDepth 100000 in
set_option maxHeartbeats 12800000 in
theorem sw_k2 {Q : Exit → Act → World → Prop} {u0 u1 u2 u4 u5 u6 u8 u16 u18 u19 u20 u21 u22 u23 u24 u25 u26 u27 u28 u29 u30 u31 u32 u33 u34 u35 u36 u37 u38 u39 u40 u41 u42 u43 u44 u45 u46 u47 u48 u49 u50 u51 u52 u53 u54 u55 u56 u57 u58 u59 u60 u61 u62 u63 u64 u65 u66 u67 u68 u69 u70 u71 u72 u73 u74 u75 u76 u77 u78 u79 u80 u81 u82 u83 u84 u86 u87 u88 u89 u90 u91 u92 u93 u94 u95 u96 u97 u98 u99 u100 u101 u102 u103 u104 u105 u106 u107 u108 u109 u110 u111 u112 u113 u114 u115 u116 u117 u118 u119 u120 u121 u122 u123 u124 u125 u126 u127 u128 u129 u130 u131 u132 u133 u134 u135 u136 u137 u138 u139 u140 u141 u142 u143 u144 u145 u146 u147 u148 u149 u150 u151 u152 u153 u154 u155 u156 u157 u158 u159 u160 u161 u162 u163 u164 u165 u166 u167 u168 u169 u170 u171 u172 u173 u174 u175 u176 u177 u178 u179 u180 u181 u182 u183 u184 u185 u186 u187 u188 u189 u190 u191 u192 u193 u194 u195 u196 u197 u198 u199 u200 u201 u202 u203 u204 u205 u206 u207 u208 u209 u210 u211 u212 u213 u214 u215 u216 u217 u218 u219 u220 u221 u222 u223 u224 u225 u226 u227 u228 : Value} {w : World} {gC gk k g1 g2 : Nat} {l : List It} {sA A1 A2 oA : Option Addr} {sc c1 c2 on oc : Nat} {ol : List ByteArray} {held told made gone code now : Int} {dead : Bool} {x2 : Int} {wr : World} (hI : Inv w gC gk g1 g2 k l sA A1 A2 oA sc c1 c2 on oc ol held told made gone code now dead wr) (hx2 : 0 ≤ x2 ∧ x2 ≤ 255) (hk : k < 60)
    (hQ : ∀ (ev lim sin hd tl nw cd v18 v19 v20 v21 v68 v69 v70 v71 v72 v73 v74 v75 v76 v77 v78 v79 v80 v81 v82 v83 v84 v85 v86 v87 v88 v89 v90 v91 v92 v93 v94 v95 v96 v97 v98 v99 v100 v101 v102 v103 v104 v105 v106 v107 v108 v109 v110 v111 v112 v113 v114 v115 v116 v117 v118 v119 v120 v121 v122 v123 v124 v125 v126 v127 v128 v129 v130 v131 v132 v133 v134 v135 v136 v137 v138 v139 v140 v141 v142 v143 v144 v145 v146 v147 v148 v149 v150 v151 v152 v153 v154 v155 v156 v157 v158 v159 v160 v161 v162 v163 v164 v165 v166 v167 v168 v169 v170 v171 v172 v173 v174 v175 v176 v177 v178 v179 v180 v181 v182 v183 v184 v185 v186 v187 v188 v189 v190 v191 v192 v193 v194 v195 v196 v197 v198 v199 v200 v201 v202 v203 v204 v205 v206 v207 v208 v209 v210 v211 v212 v213 v214 v215 v216 v217 v218 v219 v220 v221 v222 v223 v224 v225 v226 v227 : Value) (wc : World), Hid (Rel w gC gk (k + 1) ev lim sin hd tl nw cd wc) → Q .normal ⟨#[u0, u1, u2, .pointer (some ⟨gC, 0, none⟩), u4, u5, u6, .slice (some ⟨gk, 0, none⟩) 9 9, u8, ev, lim, sin, hd, tl, nw, cd, u16, .int .i64 x2, v18, v19, v20, v21, u22, u23, u24, u25, u26, u27, u28, u29, u30, u31, u32, u33, u34, u35, u36, u37, u38, u39, u40, u41, u42, u43, u44, u45, u46, u47, u48, u49, u50, u51, u52, u53, u54, u55, u56, u57, u58, u59, u60, u61, u62, u63, u64, u65, u66, u67, v68, v69, v70, v71, v72, v73, v74, v75, v76, v77, v78, v79, v80, v81, v82, v83, v84, v85, v86, v87, v88, v89, v90, v91, v92, v93, v94, v95, v96, v97, v98, v99, v100, v101, v102, v103, v104, v105, v106, v107, v108, v109, v110, v111, v112, v113, v114, v115, v116, v117, v118, v119, v120, v121, v122, v123, v124, v125, v126, v127, v128, v129, v130, v131, v132, v133, v134, v135, v136, v137, v138, v139, v140, v141, v142, v143, v144, v145, v146, v147, v148, v149, v150, v151, v152, v153, v154, v155, v156, v157, v158, v159, v160, v161, v162, v163, v164, v165, v166, v167, v168, v169, v170, v171, v172, v173, v174, v175, v176, v177, v178, v179, v180, v181, v182, v183, v184, v185, v186, v187, v188, v189, v190, v191, v192, v193, v194, v195, v196, v197, v198, v199, v200, v201, v202, v203, v204, v205, v206, v207, v208, v209, v210, v211, v212, v213, v214, v215, v216, v217, v218, v219, v220, v221, v222, v223, v224, v225, v226, v227, u228], []⟩ wc) : swCode.wp Tryz.prog Q ⟨#[u0, u1, u2, .pointer (some ⟨gC, 0, none⟩), u4, u5, u6, .slice (some ⟨gk, 0, none⟩) 9 9, u8, .slice none 0 0, .slice A1 l.length c1, .slice A2 l.length c2, .int .i64 held, .int .i64 told, .int .i64 now, .int .u32 code, u16, .int .i64 x2, u18, u19, u20, u21, u22, u23, u24, u25, u26, u27, u28, u29, u30, u31, u32, u33, u34, u35, u36, u37, u38, u39, u40, u41, u42, u43, u44, u45, u46, u47, u48, u49, u50, u51, u52, u53, u54, u55, u56, u57, u58, u59, u60, u61, u62, u63, u64, u65, u66, u67, u68, u69, u70, u71, u72, u73, u74, u75, u76, u77, u78, u79, u80, u81, u82, u83, u84, .int .u8 2, u86, u87, u88, u89, u90, u91, u92, u93, u94, u95, u96, u97, u98, u99, u100, u101, u102, u103, u104, u105, u106, u107, u108, u109, u110, u111, u112, u113, u114, u115, u116, u117, u118, u119, u120, u121, u122, u123, u124, u125, u126, u127, u128, u129, u130, u131, u132, u133, u134, u135, u136, u137, u138, u139, u140, u141, u142, u143, u144, u145, u146, u147, u148, u149, u150, u151, u152, u153, u154, u155, u156, u157, u158, u159, u160, u161, u162, u163, u164, u165, u166, u167, u168, u169, u170, u171, u172, u173, u174, u175, u176, u177, u178, u179, u180, u181, u182, u183, u184, u185, u186, u187, u188, u189, u190, u191, u192, u193, u194, u195, u196, u197, u198, u199, u200, u201, u202, u203, u204, u205, u206, u207, u208, u209, u210, u211, u212, u213, u214, u215, u216, u217, u218, u219, u220, u221, u222, u223, u224, u225, u226, u227, u228], []⟩ wr := by
  have HQ := Lib.hid hQ
  have HI := Lib.hid hI
  clear hQ hI
  have hw2 : IntKind.i64.wrap x2 = x2 := IntWalk.i64_in _ (by omega)
  have hcod : (code = 0 ∧ dead = false) ∨ (¬ code = 0 ∧ dead = true) := by
    rcases HI.out.cod with ⟨rfl, rfl⟩ | ⟨rfl, rfl⟩ | ⟨rfl, rfl⟩ <;> simp
  unfold swCode
  dsimp only [roundCode, lawCode, cR, cL, cB, cLoop, Tryz.f3]
  rcases hcod with ⟨rfl, rfl⟩ | ⟨hcn, rfl⟩
  · rcases l with _ | ⟨y, l⟩
    · obtain ⟨m, hm⟩ : ∃ m, x2.tmod 20 = m := ⟨_, rfl⟩
      have hm0 : 0 ≤ m ∧ m ≤ 19 := by
        rw [← hm, Int.tmod_eq_emod_of_nonneg hx2.1]
        omega
      have hwm : IntKind.i64.wrap m = m := IntWalk.i64_in _ (by omega)
      have hnow5 := HI.out.now5
      have hnowk := HI.out.nowk
      obtain ⟨t, ht⟩ : ∃ t, now + m = t := ⟨_, rfl⟩
      have hwt : IntKind.i64.wrap t = t := IntWalk.i64_in _ (by omega)
      have ht1 : now ≤ t := by omega
      have ht2 : t ≤ now + 19 := by omega
      have hold : ∀ x ∈ ([] : List It), x.t ≤ t := fun x hx => Int.le_trans (HI.out.old x hx) ht1
      have HOLD := Lib.hid hold
      clear hold hm0
      have HLATE : Hid (lateB ([] : List It) t = false) := Lib.hid rfl
      have hC : Blk wr gC 49 #[.int .i64 24, .string ⟨#[]⟩, .bool false, .int .i64 0, .string ⟨#[]⟩, .bool false, .int .i64 4096, .slice none 0 0, .int .i64 4096, .int .i64 4096, .slice none 0 0, .int .i64 4096, .int .i64 4096, .int .i64 4096, .int .i64 1, .int .i64 4294967295, .int .i64 65535, .int .i64 16384, .int .i64 4294967295, .slice sA 0 sc, .int .i64 held, .int .i64 told, .int .i64 0, .slice none 0 0, .slice none 0 0, .slice none 0 0, .int .i64 65535, .int .i64 65535, .slice oA on oc, .int .i64 made, .int .i64 gone, .bool true, .bool false, .bool false, .int .u32 0, .int .i64 now, .int .i64 30] := HI.out.con
      have hA := HI.out.ack
      have hS := HI.out.its
      have hO := HI.out.out
      have hV1 := HI.out.lim
      have hV2 := HI.out.sin
      have hL := HI.out.low
      have hrg := blk_range hC [.int .i64 24, .string ⟨#[]⟩, .bool false, .int .i64 0, .string ⟨#[]⟩, .bool false, .int .i64 4096, .slice none 0 0, .int .i64 4096, .int .i64 4096, .slice none 0 0, .int .i64 4096, .int .i64 4096, .int .i64 4096, .int .i64 1, .int .i64 4294967295, .int .i64 65535, .int .i64 16384, .int .i64 4294967295, .slice sA 0 sc, .int .i64 held, .int .i64 told, .int .i64 0, .slice none 0 0, .slice none 0 0, .slice none 0 0, .int .i64 65535, .int .i64 65535, .slice oA on oc, .int .i64 made, .int .i64 gone, .bool true, .bool false, .bool false, .int .u32 0, .int .i64 now, .int .i64 30] [] rfl
      have HCALL := Lib.hid (tick_on sA 0 sc held told oA on oc made gone now (([] : List It)) t wr ht1 (by omega) HI.out.its HOLD.out HLATE.out (by omega))
      go_wp2_with ((with_reducible show wpList _ _ _ (⟨_, .load _ _, _, _, _, _⟩ :: _) _ _); refine wpList_load_mid rfl 49 _ rfl (gC) 0 rfl [.int .i64 24, .string ⟨#[]⟩, .bool false, .int .i64 0, .string ⟨#[]⟩, .bool false, .int .i64 4096, .slice none 0 0, .int .i64 4096, .int .i64 4096, .slice none 0 0, .int .i64 4096, .int .i64 4096, .int .i64 4096, .int .i64 1, .int .i64 4294967295, .int .i64 65535, .int .i64 16384, .int .i64 4294967295, .slice sA 0 sc, .int .i64 held, .int .i64 told, .int .i64 0, .slice none 0 0, .slice none 0 0, .slice none 0 0, .int .i64 65535, .int .i64 65535, .slice oA on oc, .int .i64 made, .int .i64 gone, .bool true, .bool false, .bool false, .int .u32 0, .int .i64 now, .int .i64 30] _ hrg Tryz.underlying49 rfl size49 ?_)
      refine HCALL.out.mono ?_
      rintro e w3 ⟨rfl, hb⟩
      clear hrg HCALL
      replace hC := hC.lo hb
      replace hA := hA.lo hb
      replace hS := hS.lo hb
      replace hO := hO.lo hb
      replace hV1 := hV1.lo hb
      replace hV2 := hV2.lo hb
      replace hL := lo_trans hL hb
      clear hb
      have hthC := blk_there hC 37 rfl
      go_wp2_with ((with_reducible show wpList _ _ _ (⟨_, .store _ _ _, _, _, _, _⟩ :: _) _ _); refine wpList_store_mid rfl 49 _ _ rfl (gC) 0 #[.int .i64 24, .string ⟨#[]⟩, .bool false, .int .i64 0, .string ⟨#[]⟩, .bool false, .int .i64 4096, .slice none 0 0, .int .i64 4096, .int .i64 4096, .slice none 0 0, .int .i64 4096, .int .i64 4096, .int .i64 4096, .int .i64 1, .int .i64 4294967295, .int .i64 65535, .int .i64 16384, .int .i64 4294967295, .slice sA 0 sc, .int .i64 held, .int .i64 told, .int .i64 0, .slice none 0 0, .slice none 0 0, .slice none 0 0, .int .i64 65535, .int .i64 65535, .slice oA on oc, .int .i64 made, .int .i64 gone, .bool true, .bool false, .bool false, .int .u32 0, .int .i64 t, .int .i64 30] rfl rfl hthC size49 (by kernel_rfl) ?_)
      have hK := Kept.setCells ([.int .i64 24, .string ⟨#[]⟩, .bool false, .int .i64 0, .string ⟨#[]⟩, .bool false, .int .i64 4096, .slice none 0 0, .int .i64 4096, .int .i64 4096, .slice none 0 0, .int .i64 4096, .int .i64 4096, .int .i64 4096, .int .i64 1, .int .i64 4294967295, .int .i64 65535, .int .i64 16384, .int .i64 4294967295, .slice sA 0 sc, .int .i64 held, .int .i64 told, .int .i64 0, .slice none 0 0, .slice none 0 0, .slice none 0 0, .int .i64 65535, .int .i64 65535, .slice oA on oc, .int .i64 made, .int .i64 gone, .bool true, .bool false, .bool false, .int .u32 0, .int .i64 t, .int .i64 30] : List Value) 0 w3 (Kept.refl w3 gC)
      replace hA := hA.kept hK (blk_ne hA hC (by decide))
      replace hS := hS.keptT hK hC (by decide) (by decide)
      replace hO := hO.keptT hK hC (by decide)
      replace hV1 := hV1.kept hK (hV1.ne hC (by decide))
      replace hV2 := hV2.kept hK (hV2.ne hC (by decide))
      replace hL := lo_cells HI.out.geC [.int .i64 24, .string ⟨#[]⟩, .bool false, .int .i64 0, .string ⟨#[]⟩, .bool false, .int .i64 4096, .slice none 0 0, .int .i64 4096, .int .i64 4096, .slice none 0 0, .int .i64 4096, .int .i64 4096, .int .i64 4096, .int .i64 1, .int .i64 4294967295, .int .i64 65535, .int .i64 16384, .int .i64 4294967295, .slice sA 0 sc, .int .i64 held, .int .i64 told, .int .i64 0, .slice none 0 0, .slice none 0 0, .slice none 0 0, .int .i64 65535, .int .i64 65535, .slice oA on oc, .int .i64 made, .int .i64 gone, .bool true, .bool false, .bool false, .int .u32 0, .int .i64 t, .int .i64 30] 0 w3 hL
      replace hC := hC.setAll #[.int .i64 24, .string ⟨#[]⟩, .bool false, .int .i64 0, .string ⟨#[]⟩, .bool false, .int .i64 4096, .slice none 0 0, .int .i64 4096, .int .i64 4096, .slice none 0 0, .int .i64 4096, .int .i64 4096, .int .i64 4096, .int .i64 1, .int .i64 4294967295, .int .i64 65535, .int .i64 16384, .int .i64 4294967295, .slice sA 0 sc, .int .i64 held, .int .i64 told, .int .i64 0, .slice none 0 0, .slice none 0 0, .slice none 0 0, .int .i64 65535, .int .i64 65535, .slice oA on oc, .int .i64 made, .int .i64 gone, .bool true, .bool false, .bool false, .int .u32 0, .int .i64 t, .int .i64 30] rfl
      dsimp only at hA hS hO hV1 hV2 hL hC
      apply HQ.out
      exact Lib.hid ⟨g1, g2, ([] : List It), _, _, _, _, _, _, _, _, _, _, _, _, _, _, _, _, _, rfl, rfl, rfl, rfl, rfl, rfl, rfl, Lib.hid ⟨hC, hA, hS, hO, by have := HI.out.few; omega, hV1, hV2, HI.out.ne, .inl ⟨rfl, rfl⟩, by omega, by omega, HOLD.out, fun _ => HLATE.out, hL, HI.out.geC⟩⟩
    · obtain ⟨m, hm⟩ : ∃ m, x2.tmod 20 = m := ⟨_, rfl⟩
      have hm0 : 0 ≤ m ∧ m ≤ 19 := by
        rw [← hm, Int.tmod_eq_emod_of_nonneg hx2.1]
        omega
      have hwm : IntKind.i64.wrap m = m := IntWalk.i64_in _ (by omega)
      have hnow5 := HI.out.now5
      have hnowk := HI.out.nowk
      obtain ⟨t, ht⟩ : ∃ t, now + m = t := ⟨_, rfl⟩
      have hwt : IntKind.i64.wrap t = t := IntWalk.i64_in _ (by omega)
      have ht1 : now ≤ t := by omega
      have ht2 : t ≤ now + 19 := by omega
      have hold : ∀ x ∈ y :: l, x.t ≤ t := fun x hx => Int.le_trans (HI.out.old x hx) ht1
      have HOLD := Lib.hid hold
      clear hold hm0
      have hlp : (0 : Int) < (l.length : Int) + 1 := by omega
      have hyt := (HI.out.its.num y List.mem_cons_self).2
      have hwd : IntKind.i64.wrap (t - y.t) = t - y.t := IntWalk.i64_in _ (by omega)
      have hwait : ¬ 30 ≤ now - y.t := by
        have := HI.out.wait rfl
        simpa only [lateB, decide_eq_false_iff_not] using this
      by_cases h30 : 30 ≤ t - y.t
      · have htl : now < t := by omega
        have HLATE : Hid (lateB (y :: l) t = true) := Lib.hid (decide_eq_true h30)
        have hC : Blk wr gC 49 #[.int .i64 24, .string ⟨#[]⟩, .bool false, .int .i64 0, .string ⟨#[]⟩, .bool false, .int .i64 4096, .slice none 0 0, .int .i64 4096, .int .i64 4096, .slice none 0 0, .int .i64 4096, .int .i64 4096, .int .i64 4096, .int .i64 1, .int .i64 4294967295, .int .i64 65535, .int .i64 16384, .int .i64 4294967295, .slice sA (l.length + 1) sc, .int .i64 held, .int .i64 told, .int .i64 0, .slice none 0 0, .slice none 0 0, .slice none 0 0, .int .i64 65535, .int .i64 65535, .slice oA on oc, .int .i64 made, .int .i64 gone, .bool true, .bool false, .bool false, .int .u32 0, .int .i64 now, .int .i64 30] := HI.out.con
        have hA := HI.out.ack
        have hS := HI.out.its
        have hO := HI.out.out
        have hV1 := HI.out.lim
        have hV2 := HI.out.sin
        have hL := HI.out.low
        have hrg := blk_range hC [.int .i64 24, .string ⟨#[]⟩, .bool false, .int .i64 0, .string ⟨#[]⟩, .bool false, .int .i64 4096, .slice none 0 0, .int .i64 4096, .int .i64 4096, .slice none 0 0, .int .i64 4096, .int .i64 4096, .int .i64 4096, .int .i64 1, .int .i64 4294967295, .int .i64 65535, .int .i64 16384, .int .i64 4294967295, .slice sA (l.length + 1) sc, .int .i64 held, .int .i64 told, .int .i64 0, .slice none 0 0, .slice none 0 0, .slice none 0 0, .int .i64 65535, .int .i64 65535, .slice oA on oc, .int .i64 made, .int .i64 gone, .bool true, .bool false, .bool false, .int .u32 0, .int .i64 now, .int .i64 30] [] rfl
        have HCALL := Lib.hid (tick_late 24 sA (l.length + 1) sc held told oA on oc made gone true now ol (y :: l) t wr htl (by omega) HI.out.its HOLD.out HLATE.out (by omega) HI.out.out (by have := HI.out.few; omega))
        go_wp2_with ((with_reducible show wpList _ _ _ (⟨_, .load _ _, _, _, _, _⟩ :: _) _ _); refine wpList_load_mid rfl 49 _ rfl (gC) 0 rfl [.int .i64 24, .string ⟨#[]⟩, .bool false, .int .i64 0, .string ⟨#[]⟩, .bool false, .int .i64 4096, .slice none 0 0, .int .i64 4096, .int .i64 4096, .slice none 0 0, .int .i64 4096, .int .i64 4096, .int .i64 4096, .int .i64 1, .int .i64 4294967295, .int .i64 65535, .int .i64 16384, .int .i64 4294967295, .slice sA (l.length + 1) sc, .int .i64 held, .int .i64 told, .int .i64 0, .slice none 0 0, .slice none 0 0, .slice none 0 0, .int .i64 65535, .int .i64 65535, .slice oA on oc, .int .i64 made, .int .i64 gone, .bool true, .bool false, .bool false, .int .u32 0, .int .i64 now, .int .i64 30] _ hrg Tryz.underlying49 rfl size49 ?_)
        refine HCALL.out.mono ?_
        rintro e w3 ⟨A3, n3, c3, ol3, rfl, hO3, hb⟩
        clear hrg HCALL
        replace hC := hC.lo hb
        replace hA := hA.lo hb
        replace hS := hS.lo hb
        replace hV1 := hV1.lo hb
        replace hV2 := hV2.lo hb
        replace hL := lo_trans hL hb
        clear hb
        clear hO
        have hO := hO3
        clear hO3
        have hthC := blk_there hC 37 rfl
        go_upto_region 38 with ((with_reducible show wpList _ _ _ (⟨_, .store _ _ _, _, _, _, _⟩ :: _) _ _); refine wpList_store_mid rfl 49 _ _ rfl (gC) 0 #[.int .i64 24, .string ⟨#[]⟩, .bool false, .int .i64 0, .string ⟨#[]⟩, .bool false, .int .i64 4096, .slice none 0 0, .int .i64 4096, .int .i64 4096, .slice none 0 0, .int .i64 4096, .int .i64 4096, .int .i64 4096, .int .i64 1, .int .i64 4294967295, .int .i64 65535, .int .i64 16384, .int .i64 4294967295, .slice sA (l.length + 1) sc, .int .i64 held, .int .i64 told, .int .i64 0, .slice none 0 0, .slice none 0 0, .slice none 0 0, .int .i64 65535, .int .i64 65535, .slice A3 n3 c3, .int .i64 (made + 17), .int .i64 gone, .bool true, .bool false, .bool true, .int .u32 4, .int .i64 t, .int .i64 30] rfl rfl hthC size49 (by kernel_rfl) ?_)
        have hK := Kept.setCells ([.int .i64 24, .string ⟨#[]⟩, .bool false, .int .i64 0, .string ⟨#[]⟩, .bool false, .int .i64 4096, .slice none 0 0, .int .i64 4096, .int .i64 4096, .slice none 0 0, .int .i64 4096, .int .i64 4096, .int .i64 4096, .int .i64 1, .int .i64 4294967295, .int .i64 65535, .int .i64 16384, .int .i64 4294967295, .slice sA (l.length + 1) sc, .int .i64 held, .int .i64 told, .int .i64 0, .slice none 0 0, .slice none 0 0, .slice none 0 0, .int .i64 65535, .int .i64 65535, .slice A3 n3 c3, .int .i64 (made + 17), .int .i64 gone, .bool true, .bool false, .bool true, .int .u32 4, .int .i64 t, .int .i64 30] : List Value) 0 w3 (Kept.refl w3 gC)
        replace hA := hA.kept hK (blk_ne hA hC (by decide))
        replace hS := hS.keptT hK hC (by decide) (by decide)
        replace hO := hO.keptT hK hC (by decide)
        replace hV1 := hV1.kept hK (hV1.ne hC (by decide))
        replace hV2 := hV2.kept hK (hV2.ne hC (by decide))
        replace hL := lo_cells HI.out.geC [.int .i64 24, .string ⟨#[]⟩, .bool false, .int .i64 0, .string ⟨#[]⟩, .bool false, .int .i64 4096, .slice none 0 0, .int .i64 4096, .int .i64 4096, .slice none 0 0, .int .i64 4096, .int .i64 4096, .int .i64 4096, .int .i64 1, .int .i64 4294967295, .int .i64 65535, .int .i64 16384, .int .i64 4294967295, .slice sA (l.length + 1) sc, .int .i64 held, .int .i64 told, .int .i64 0, .slice none 0 0, .slice none 0 0, .slice none 0 0, .int .i64 65535, .int .i64 65535, .slice A3 n3 c3, .int .i64 (made + 17), .int .i64 gone, .bool true, .bool false, .bool true, .int .u32 4, .int .i64 t, .int .i64 30] 0 w3 hL
        replace hC := hC.setAll #[.int .i64 24, .string ⟨#[]⟩, .bool false, .int .i64 0, .string ⟨#[]⟩, .bool false, .int .i64 4096, .slice none 0 0, .int .i64 4096, .int .i64 4096, .slice none 0 0, .int .i64 4096, .int .i64 4096, .int .i64 4096, .int .i64 1, .int .i64 4294967295, .int .i64 65535, .int .i64 16384, .int .i64 4294967295, .slice sA (l.length + 1) sc, .int .i64 held, .int .i64 told, .int .i64 0, .slice none 0 0, .slice none 0 0, .slice none 0 0, .int .i64 65535, .int .i64 65535, .slice A3 n3 c3, .int .i64 (made + 17), .int .i64 gone, .bool true, .bool false, .bool true, .int .u32 4, .int .i64 t, .int .i64 30] rfl
        dsimp only at hA hS hO hV1 hV2 hL hC
        generalize w3.setCells gC 0 [.int .i64 24, .string ⟨#[]⟩, .bool false, .int .i64 0, .string ⟨#[]⟩, .bool false, .int .i64 4096, .slice none 0 0, .int .i64 4096, .int .i64 4096, .slice none 0 0, .int .i64 4096, .int .i64 4096, .int .i64 4096, .int .i64 1, .int .i64 4294967295, .int .i64 65535, .int .i64 16384, .int .i64 4294967295, .slice sA (l.length + 1) sc, .int .i64 held, .int .i64 told, .int .i64 0, .slice none 0 0, .slice none 0 0, .slice none 0 0, .int .i64 65535, .int .i64 65535, .slice A3 n3 c3, .int .i64 (made + 17), .int .i64 gone, .bool true, .bool false, .bool true, .int .u32 4, .int .i64 t, .int .i64 30] = w4 at hA hS hO hV1 hV2 hL hC ⊢
        obtain ⟨o2, rfl, hcl⟩ := hV2.get
        have hy2 := hcl 0 y.t rfl
        have hg2 := hV2.lt
        simp only [Nat.add_zero] at hy2
        clear hcl hthC
        go_wp2_with fail
        apply HQ.out
        exact Lib.hid ⟨g1, g2, y :: l, _, _, _, _, _, _, _, _, _, _, _, _, _, _, _, _, _, rfl, rfl, rfl, rfl, rfl, rfl, rfl, Lib.hid ⟨hC, hA, hS, hO, by have := HI.out.few; omega, hV1, hV2, HI.out.ne, .inr (.inr ⟨rfl, rfl⟩), by omega, by omega, HOLD.out, fun h => absurd h (by decide), hL, HI.out.geC⟩⟩
      · have HLATE : Hid (lateB (y :: l) t = false) := Lib.hid (decide_eq_false h30)
        have hC : Blk wr gC 49 #[.int .i64 24, .string ⟨#[]⟩, .bool false, .int .i64 0, .string ⟨#[]⟩, .bool false, .int .i64 4096, .slice none 0 0, .int .i64 4096, .int .i64 4096, .slice none 0 0, .int .i64 4096, .int .i64 4096, .int .i64 4096, .int .i64 1, .int .i64 4294967295, .int .i64 65535, .int .i64 16384, .int .i64 4294967295, .slice sA (l.length + 1) sc, .int .i64 held, .int .i64 told, .int .i64 0, .slice none 0 0, .slice none 0 0, .slice none 0 0, .int .i64 65535, .int .i64 65535, .slice oA on oc, .int .i64 made, .int .i64 gone, .bool true, .bool false, .bool false, .int .u32 0, .int .i64 now, .int .i64 30] := HI.out.con
        have hA := HI.out.ack
        have hS := HI.out.its
        have hO := HI.out.out
        have hV1 := HI.out.lim
        have hV2 := HI.out.sin
        have hL := HI.out.low
        have hrg := blk_range hC [.int .i64 24, .string ⟨#[]⟩, .bool false, .int .i64 0, .string ⟨#[]⟩, .bool false, .int .i64 4096, .slice none 0 0, .int .i64 4096, .int .i64 4096, .slice none 0 0, .int .i64 4096, .int .i64 4096, .int .i64 4096, .int .i64 1, .int .i64 4294967295, .int .i64 65535, .int .i64 16384, .int .i64 4294967295, .slice sA (l.length + 1) sc, .int .i64 held, .int .i64 told, .int .i64 0, .slice none 0 0, .slice none 0 0, .slice none 0 0, .int .i64 65535, .int .i64 65535, .slice oA on oc, .int .i64 made, .int .i64 gone, .bool true, .bool false, .bool false, .int .u32 0, .int .i64 now, .int .i64 30] [] rfl
        have HCALL := Lib.hid (tick_on sA (l.length + 1) sc held told oA on oc made gone now (y :: l) t wr ht1 (by omega) HI.out.its HOLD.out HLATE.out (by omega))
        go_wp2_with ((with_reducible show wpList _ _ _ (⟨_, .load _ _, _, _, _, _⟩ :: _) _ _); refine wpList_load_mid rfl 49 _ rfl (gC) 0 rfl [.int .i64 24, .string ⟨#[]⟩, .bool false, .int .i64 0, .string ⟨#[]⟩, .bool false, .int .i64 4096, .slice none 0 0, .int .i64 4096, .int .i64 4096, .slice none 0 0, .int .i64 4096, .int .i64 4096, .int .i64 4096, .int .i64 1, .int .i64 4294967295, .int .i64 65535, .int .i64 16384, .int .i64 4294967295, .slice sA (l.length + 1) sc, .int .i64 held, .int .i64 told, .int .i64 0, .slice none 0 0, .slice none 0 0, .slice none 0 0, .int .i64 65535, .int .i64 65535, .slice oA on oc, .int .i64 made, .int .i64 gone, .bool true, .bool false, .bool false, .int .u32 0, .int .i64 now, .int .i64 30] _ hrg Tryz.underlying49 rfl size49 ?_)
        refine HCALL.out.mono ?_
        rintro e w3 ⟨rfl, hb⟩
        clear hrg HCALL
        replace hC := hC.lo hb
        replace hA := hA.lo hb
        replace hS := hS.lo hb
        replace hO := hO.lo hb
        replace hV1 := hV1.lo hb
        replace hV2 := hV2.lo hb
        replace hL := lo_trans hL hb
        clear hb
        have hthC := blk_there hC 37 rfl
        go_upto_region 38 with ((with_reducible show wpList _ _ _ (⟨_, .store _ _ _, _, _, _, _⟩ :: _) _ _); refine wpList_store_mid rfl 49 _ _ rfl (gC) 0 #[.int .i64 24, .string ⟨#[]⟩, .bool false, .int .i64 0, .string ⟨#[]⟩, .bool false, .int .i64 4096, .slice none 0 0, .int .i64 4096, .int .i64 4096, .slice none 0 0, .int .i64 4096, .int .i64 4096, .int .i64 4096, .int .i64 1, .int .i64 4294967295, .int .i64 65535, .int .i64 16384, .int .i64 4294967295, .slice sA (l.length + 1) sc, .int .i64 held, .int .i64 told, .int .i64 0, .slice none 0 0, .slice none 0 0, .slice none 0 0, .int .i64 65535, .int .i64 65535, .slice oA on oc, .int .i64 made, .int .i64 gone, .bool true, .bool false, .bool false, .int .u32 0, .int .i64 t, .int .i64 30] rfl rfl hthC size49 (by kernel_rfl) ?_)
        have hK := Kept.setCells ([.int .i64 24, .string ⟨#[]⟩, .bool false, .int .i64 0, .string ⟨#[]⟩, .bool false, .int .i64 4096, .slice none 0 0, .int .i64 4096, .int .i64 4096, .slice none 0 0, .int .i64 4096, .int .i64 4096, .int .i64 4096, .int .i64 1, .int .i64 4294967295, .int .i64 65535, .int .i64 16384, .int .i64 4294967295, .slice sA (l.length + 1) sc, .int .i64 held, .int .i64 told, .int .i64 0, .slice none 0 0, .slice none 0 0, .slice none 0 0, .int .i64 65535, .int .i64 65535, .slice oA on oc, .int .i64 made, .int .i64 gone, .bool true, .bool false, .bool false, .int .u32 0, .int .i64 t, .int .i64 30] : List Value) 0 w3 (Kept.refl w3 gC)
        replace hA := hA.kept hK (blk_ne hA hC (by decide))
        replace hS := hS.keptT hK hC (by decide) (by decide)
        replace hO := hO.keptT hK hC (by decide)
        replace hV1 := hV1.kept hK (hV1.ne hC (by decide))
        replace hV2 := hV2.kept hK (hV2.ne hC (by decide))
        replace hL := lo_cells HI.out.geC [.int .i64 24, .string ⟨#[]⟩, .bool false, .int .i64 0, .string ⟨#[]⟩, .bool false, .int .i64 4096, .slice none 0 0, .int .i64 4096, .int .i64 4096, .slice none 0 0, .int .i64 4096, .int .i64 4096, .int .i64 4096, .int .i64 1, .int .i64 4294967295, .int .i64 65535, .int .i64 16384, .int .i64 4294967295, .slice sA (l.length + 1) sc, .int .i64 held, .int .i64 told, .int .i64 0, .slice none 0 0, .slice none 0 0, .slice none 0 0, .int .i64 65535, .int .i64 65535, .slice oA on oc, .int .i64 made, .int .i64 gone, .bool true, .bool false, .bool false, .int .u32 0, .int .i64 t, .int .i64 30] 0 w3 hL
        replace hC := hC.setAll #[.int .i64 24, .string ⟨#[]⟩, .bool false, .int .i64 0, .string ⟨#[]⟩, .bool false, .int .i64 4096, .slice none 0 0, .int .i64 4096, .int .i64 4096, .slice none 0 0, .int .i64 4096, .int .i64 4096, .int .i64 4096, .int .i64 1, .int .i64 4294967295, .int .i64 65535, .int .i64 16384, .int .i64 4294967295, .slice sA (l.length + 1) sc, .int .i64 held, .int .i64 told, .int .i64 0, .slice none 0 0, .slice none 0 0, .slice none 0 0, .int .i64 65535, .int .i64 65535, .slice oA on oc, .int .i64 made, .int .i64 gone, .bool true, .bool false, .bool false, .int .u32 0, .int .i64 t, .int .i64 30] rfl
        dsimp only at hA hS hO hV1 hV2 hL hC
        generalize w3.setCells gC 0 [.int .i64 24, .string ⟨#[]⟩, .bool false, .int .i64 0, .string ⟨#[]⟩, .bool false, .int .i64 4096, .slice none 0 0, .int .i64 4096, .int .i64 4096, .slice none 0 0, .int .i64 4096, .int .i64 4096, .int .i64 4096, .int .i64 1, .int .i64 4294967295, .int .i64 65535, .int .i64 16384, .int .i64 4294967295, .slice sA (l.length + 1) sc, .int .i64 held, .int .i64 told, .int .i64 0, .slice none 0 0, .slice none 0 0, .slice none 0 0, .int .i64 65535, .int .i64 65535, .slice oA on oc, .int .i64 made, .int .i64 gone, .bool true, .bool false, .bool false, .int .u32 0, .int .i64 t, .int .i64 30] = w4 at hA hS hO hV1 hV2 hL hC ⊢
        obtain ⟨o2, rfl, hcl⟩ := hV2.get
        have hy2 := hcl 0 y.t rfl
        have hg2 := hV2.lt
        simp only [Nat.add_zero] at hy2
        clear hcl hthC
        go_wp2_with fail
        apply HQ.out
        exact Lib.hid ⟨g1, g2, y :: l, _, _, _, _, _, _, _, _, _, _, _, _, _, _, _, _, _, rfl, rfl, rfl, rfl, rfl, rfl, rfl, Lib.hid ⟨hC, hA, hS, hO, by have := HI.out.few; omega, hV1, hV2, HI.out.ne, .inl ⟨rfl, rfl⟩, by omega, by omega, HOLD.out, fun _ => HLATE.out, hL, HI.out.geC⟩⟩
  · obtain ⟨m, hm⟩ : ∃ m, x2.tmod 20 = m := ⟨_, rfl⟩
    have hm0 : 0 ≤ m ∧ m ≤ 19 := by
      rw [← hm, Int.tmod_eq_emod_of_nonneg hx2.1]
      omega
    have hwm : IntKind.i64.wrap m = m := IntWalk.i64_in _ (by omega)
    have hnow5 := HI.out.now5
    have hnowk := HI.out.nowk
    obtain ⟨t, ht⟩ : ∃ t, now + m = t := ⟨_, rfl⟩
    have hwt : IntKind.i64.wrap t = t := IntWalk.i64_in _ (by omega)
    have ht1 : now ≤ t := by omega
    have ht2 : t ≤ now + 19 := by omega
    have hold : ∀ x ∈ l, x.t ≤ t := fun x hx => Int.le_trans (HI.out.old x hx) ht1
    have HOLD := Lib.hid hold
    clear hold hm0
    have hcb : (code == 0) = false := by simp [hcn]
    have hC : Blk wr gC 49 #[.int .i64 24, .string ⟨#[]⟩, .bool false, .int .i64 0, .string ⟨#[]⟩, .bool false, .int .i64 4096, .slice none 0 0, .int .i64 4096, .int .i64 4096, .slice none 0 0, .int .i64 4096, .int .i64 4096, .int .i64 4096, .int .i64 1, .int .i64 4294967295, .int .i64 65535, .int .i64 16384, .int .i64 4294967295, .slice sA l.length sc, .int .i64 held, .int .i64 told, .int .i64 0, .slice none 0 0, .slice none 0 0, .slice none 0 0, .int .i64 65535, .int .i64 65535, .slice oA on oc, .int .i64 made, .int .i64 gone, .bool true, .bool false, .bool true, .int .u32 code, .int .i64 now, .int .i64 30] := HI.out.con
    have hA := HI.out.ack
    have hS := HI.out.its
    have hO := HI.out.out
    have hV1 := HI.out.lim
    have hV2 := HI.out.sin
    have hL := HI.out.low
    have hrg := blk_range hC [.int .i64 24, .string ⟨#[]⟩, .bool false, .int .i64 0, .string ⟨#[]⟩, .bool false, .int .i64 4096, .slice none 0 0, .int .i64 4096, .int .i64 4096, .slice none 0 0, .int .i64 4096, .int .i64 4096, .int .i64 4096, .int .i64 1, .int .i64 4294967295, .int .i64 65535, .int .i64 16384, .int .i64 4294967295, .slice sA l.length sc, .int .i64 held, .int .i64 told, .int .i64 0, .slice none 0 0, .slice none 0 0, .slice none 0 0, .int .i64 65535, .int .i64 65535, .slice oA on oc, .int .i64 made, .int .i64 gone, .bool true, .bool false, .bool true, .int .u32 code, .int .i64 now, .int .i64 30] [] rfl
    have HCALL := Lib.hid (tick_dead sA l.length sc held told oA on oc made gone code now l t wr ht1 (by omega) HI.out.its HOLD.out (by omega))
    go_wp2_with ((with_reducible show wpList _ _ _ (⟨_, .load _ _, _, _, _, _⟩ :: _) _ _); refine wpList_load_mid rfl 49 _ rfl (gC) 0 rfl [.int .i64 24, .string ⟨#[]⟩, .bool false, .int .i64 0, .string ⟨#[]⟩, .bool false, .int .i64 4096, .slice none 0 0, .int .i64 4096, .int .i64 4096, .slice none 0 0, .int .i64 4096, .int .i64 4096, .int .i64 4096, .int .i64 1, .int .i64 4294967295, .int .i64 65535, .int .i64 16384, .int .i64 4294967295, .slice sA l.length sc, .int .i64 held, .int .i64 told, .int .i64 0, .slice none 0 0, .slice none 0 0, .slice none 0 0, .int .i64 65535, .int .i64 65535, .slice oA on oc, .int .i64 made, .int .i64 gone, .bool true, .bool false, .bool true, .int .u32 code, .int .i64 now, .int .i64 30] _ hrg Tryz.underlying49 rfl size49 ?_)
    refine HCALL.out.mono ?_
    rintro e w3 ⟨rfl, hb⟩
    clear hrg HCALL
    replace hC := hC.lo hb
    replace hA := hA.lo hb
    replace hS := hS.lo hb
    replace hO := hO.lo hb
    replace hV1 := hV1.lo hb
    replace hV2 := hV2.lo hb
    replace hL := lo_trans hL hb
    clear hb
    have hthC := blk_there hC 37 rfl
    go_wp2_with ((with_reducible show wpList _ _ _ (⟨_, .store _ _ _, _, _, _, _⟩ :: _) _ _); refine wpList_store_mid rfl 49 _ _ rfl (gC) 0 #[.int .i64 24, .string ⟨#[]⟩, .bool false, .int .i64 0, .string ⟨#[]⟩, .bool false, .int .i64 4096, .slice none 0 0, .int .i64 4096, .int .i64 4096, .slice none 0 0, .int .i64 4096, .int .i64 4096, .int .i64 4096, .int .i64 1, .int .i64 4294967295, .int .i64 65535, .int .i64 16384, .int .i64 4294967295, .slice sA l.length sc, .int .i64 held, .int .i64 told, .int .i64 0, .slice none 0 0, .slice none 0 0, .slice none 0 0, .int .i64 65535, .int .i64 65535, .slice oA on oc, .int .i64 made, .int .i64 gone, .bool true, .bool false, .bool true, .int .u32 code, .int .i64 t, .int .i64 30] rfl rfl hthC size49 (by kernel_rfl) ?_)
    have hK := Kept.setCells ([.int .i64 24, .string ⟨#[]⟩, .bool false, .int .i64 0, .string ⟨#[]⟩, .bool false, .int .i64 4096, .slice none 0 0, .int .i64 4096, .int .i64 4096, .slice none 0 0, .int .i64 4096, .int .i64 4096, .int .i64 4096, .int .i64 1, .int .i64 4294967295, .int .i64 65535, .int .i64 16384, .int .i64 4294967295, .slice sA l.length sc, .int .i64 held, .int .i64 told, .int .i64 0, .slice none 0 0, .slice none 0 0, .slice none 0 0, .int .i64 65535, .int .i64 65535, .slice oA on oc, .int .i64 made, .int .i64 gone, .bool true, .bool false, .bool true, .int .u32 code, .int .i64 t, .int .i64 30] : List Value) 0 w3 (Kept.refl w3 gC)
    replace hA := hA.kept hK (blk_ne hA hC (by decide))
    replace hS := hS.keptT hK hC (by decide) (by decide)
    replace hO := hO.keptT hK hC (by decide)
    replace hV1 := hV1.kept hK (hV1.ne hC (by decide))
    replace hV2 := hV2.kept hK (hV2.ne hC (by decide))
    replace hL := lo_cells HI.out.geC [.int .i64 24, .string ⟨#[]⟩, .bool false, .int .i64 0, .string ⟨#[]⟩, .bool false, .int .i64 4096, .slice none 0 0, .int .i64 4096, .int .i64 4096, .slice none 0 0, .int .i64 4096, .int .i64 4096, .int .i64 4096, .int .i64 1, .int .i64 4294967295, .int .i64 65535, .int .i64 16384, .int .i64 4294967295, .slice sA l.length sc, .int .i64 held, .int .i64 told, .int .i64 0, .slice none 0 0, .slice none 0 0, .slice none 0 0, .int .i64 65535, .int .i64 65535, .slice oA on oc, .int .i64 made, .int .i64 gone, .bool true, .bool false, .bool true, .int .u32 code, .int .i64 t, .int .i64 30] 0 w3 hL
    replace hC := hC.setAll #[.int .i64 24, .string ⟨#[]⟩, .bool false, .int .i64 0, .string ⟨#[]⟩, .bool false, .int .i64 4096, .slice none 0 0, .int .i64 4096, .int .i64 4096, .slice none 0 0, .int .i64 4096, .int .i64 4096, .int .i64 4096, .int .i64 1, .int .i64 4294967295, .int .i64 65535, .int .i64 16384, .int .i64 4294967295, .slice sA l.length sc, .int .i64 held, .int .i64 told, .int .i64 0, .slice none 0 0, .slice none 0 0, .slice none 0 0, .int .i64 65535, .int .i64 65535, .slice oA on oc, .int .i64 made, .int .i64 gone, .bool true, .bool false, .bool true, .int .u32 code, .int .i64 t, .int .i64 30] rfl
    dsimp only at hA hS hO hV1 hV2 hL hC
    apply HQ.out
    exact Lib.hid ⟨g1, g2, l, _, _, _, _, _, _, _, _, _, _, _, _, _, _, _, _, _, rfl, rfl, rfl, rfl, rfl, rfl, rfl, Lib.hid ⟨hC, hA, hS, hO, by have := HI.out.few; omega, hV1, hV2, HI.out.ne, HI.out.cod, by omega, by omega, HOLD.out, fun h => absurd h hcn, hL, HI.out.geC⟩⟩
end Go.Proofs.YtdonnbfojcggmaaGreat
