/-
  Law 48: SealLiarsAreCaught: the body of its loops (eq).
-/
import Derived.Test.YthinopepcmidmaaDoorLv48
set_option linter.unusedSimpArgs false
set_option linter.unusedVariables false
set_option maxRecDepth 100000
set_option maxHeartbeats 1600000
namespace Go.Proofs.YthinopepcmidmaaDoor
open Go.RowKit
set_option maxHeartbeats 16000000 in
theorem liEq (A : Option Addr) (c : Nat) (r : List (List UInt8)) (la lb : List Sl) (n1 n2 N b off c8 b2 off2 c10 : Nat) (w wr : World) (HR1' : ∀ X, Since w X → Sts r (.slice A r.length c) X) (HKK' : ∀ X, Since w X → KK X) (HLMA' : la.length = n1) (HLMB' : lb.length = n2) (HOKA' : ∀ s ∈ la, SlOk s) (HOKB' : ∀ s ∈ lb, SlOk s) (HCHA' : Chn mk48 nm48 r la) (HCHB' : Chn mk48 nm48 r lb) (HSE' : ∀ i j, i < la.length → j < lb.length → (sAt la i).st = (sAt lb j).st) (HLGA' : lgE mk48 nm48 r la = 0) (HLGB' : lgE mk48 nm48 r lb = 0) (HNN' : cmn la lb = N) (hNa : N ≤ n1) (hNb : N ≤ n2) (hn20 : n1 ≤ 20) (hn21 : n2 ≤ 20) (hL1 : Rd wr 37 (.slice (some ⟨b, off, none⟩) n1 c8) n1 (fl slc la)) (hL2 : Rd wr 37 (.slice (some ⟨b2, off2, none⟩) n2 c10) n2 (fl slc lb)) (hall : ∀ k, k < n1 → Cl wr b (off + k * 37) (slc (sAt la k))) (hbb : b < wr.heap.size) (hall2 : ∀ k, k < n2 → Cl wr b2 (off2 + k * 37) (slc (sAt lb k))) (hbb2 : b2 < wr.heap.size) (hB0 : Blk wr w.heap.size 24 [.slice A r.length c]) (hb : Below w.heap.size w wr) (i j : Nat) (hlt : i < n1) (hlj : j < n2) (hij : ¬ i < j) (hji : ¬ j < i) (C : Code) (Q : Exit → Act → World → Prop) (hC : blkOf 3 Tryd.f6 = some C) (z0 z1 z2 z4 z5 z6 z7 z9 z11 z13 z15 z16 z17 z18 z19 z20 z21 z22 z23 z24 z25 z26 z27 z28 z29 z30 z31 z32 z33 z34 z35 z36 z37 z38 z39 z40 z41 z42 z43 z44 z45 z46 z47 z48 z49 z50 z51 z52 z53 z54 z55 z56 z57 z58 z59 z60 z61 z62 z63 z64 z65 z66 z67 z68 z69 z70 z71 z72 z73 z74 z75 z76 z77 z78 z79 z80 z81 z82 z83 z84 z85 z86 z87 z88 z89 z90 z91 z92 z93 z94 z95 z96 z97 z98 z99 z100 z101 z102 z103 z104 z105 z106 z107 z108 z109 z110 z111 z112 z113 z114 z115 z116 z117 z118 z119 z120 z121 z122 z123 z124 z125 z126 z127 z128 z129 z130 z131 z132 z133 z134 z135 z136 z138 z139 z140 z141 z142 z143 z144 z145 z146 z147 z148 z149 z150 z151 z152 z153 z154 z155 z156 z157 z158 z159 z160 z161 z162 z163 z164 z165 z166 z167 z168 z169 z170 z171 z172 z173 z174 z175 z176 z177 z178 z179 z180 z181 z182 z183 z184 z185 z186 z187 z188 z189 z190 z191 z192 z193 z194 z195 z196 z197 z198 z199 z200 z201 z202 z203 z204 z205 z206 z207 z208 z209 z210 z211 z212 z213 z214 z215 z216 z217 z218 z219 z220 z221 z222 z223 z224 z225 z226 z227 z228 z229 z230 z231 z232 z233 z234 z235 z236 z237 z238 z239 z240 z241 z242 z243 z244 z245 z246 z247 z248 z249 z250 z251 z252 z253 z254 z255 z256 z257 z258 z259 z260 z261 z262 z263 z264 z265 z266 z267 z268 z269 z270 z271 z272 z273 z274 z275 z276 z277 z278 z279 z280 z281 z282 z283 z284 z285 z286 z287 z288 z289 z290 z291 z292 z293 z294 z295 z296 z297 z298 z299 z300 z301 z302 z303 z304 : Value) (hKt : ∀ (y15 y16 y17 y18 y139 y140 y141 y142 y143 y144 y145 y146 y147 y148 y149 y150 y151 y152 y153 y154 y155 y156 y157 y158 y159 y160 y161 y162 y163 y164 y165 y166 y167 y168 y169 y170 y171 y172 y173 y174 y175 y176 y177 y178 y179 y180 y181 y182 y183 y184 y185 y186 y187 y188 y189 y190 y191 y192 y193 y194 y195 y196 y197 y198 y199 y200 y201 y202 y203 y204 y205 y206 y207 y208 y209 y210 y211 y212 y213 y214 y215 y216 y217 y218 y219 y220 y221 y222 y223 y224 y225 y226 y227 y228 y229 y230 y231 y232 y233 y234 y235 y236 y237 y238 y239 y240 y241 y242 y243 y244 y245 y246 y247 y248 y249 y250 y251 y252 y253 y254 y255 y256 y257 y258 y259 y260 y261 y262 y263 y264 y265 y266 y267 y268 y269 y270 y271 y272 y273 y274 y275 y276 y277 y278 y279 y280 y281 y282 y283 y284 y285 y286 y287 y288 y289 y290 y291 y292 y293 y294 y295 y296 y297 y298 y299 y300 y301 : Value) (W : World), Rd W 37 (.slice (some ⟨b, off, none⟩) n1 c8) n1 (fl slc la) → Rd W 37 (.slice (some ⟨b2, off2, none⟩) n2 c10) n2 (fl slc lb) → (∀ k, k < n1 → Cl W b (off + k * 37) (slc (sAt la k))) → b < W.heap.size → Blk W w.heap.size 24 [.slice A r.length c] → Below w.heap.size w W → Q .normal ⟨#[z0, z1, z2, .pointer (some ⟨w.heap.size, 0, none⟩), z4, z5, z6, z7, .slice (some ⟨b, off, none⟩) n1 c8, z9, .slice (some ⟨b2, off2, none⟩) n2 c10, z11, .int .i64 (N : Int), z13, .int .i64 (i : Int), y15, y16, y17, y18, z19, z20, z21, z22, z23, z24, z25, z26, z27, z28, z29, z30, z31, z32, z33, z34, z35, z36, z37, z38, z39, z40, z41, z42, z43, z44, z45, z46, z47, z48, z49, z50, z51, z52, z53, z54, z55, z56, z57, z58, z59, z60, z61, z62, z63, z64, z65, z66, z67, z68, z69, z70, z71, z72, z73, z74, z75, z76, z77, z78, z79, z80, z81, z82, z83, z84, z85, z86, z87, z88, z89, z90, z91, z92, z93, z94, z95, z96, z97, z98, z99, z100, z101, z102, z103, z104, z105, z106, z107, z108, z109, z110, z111, z112, z113, z114, z115, z116, z117, z118, z119, z120, z121, z122, z123, z124, z125, z126, z127, z128, z129, z130, z131, z132, z133, z134, z135, z136, .int .i64 (j : Int), z138, y139, y140, y141, y142, y143, y144, y145, y146, y147, y148, y149, y150, y151, y152, y153, y154, y155, y156, y157, y158, y159, y160, y161, y162, y163, y164, y165, y166, y167, y168, y169, y170, y171, y172, y173, y174, y175, y176, y177, y178, y179, y180, y181, y182, y183, y184, y185, y186, y187, y188, y189, y190, y191, y192, y193, y194, y195, y196, y197, y198, y199, y200, y201, y202, y203, y204, y205, y206, y207, y208, y209, y210, y211, y212, y213, y214, y215, y216, y217, y218, y219, y220, y221, y222, y223, y224, y225, y226, y227, y228, y229, y230, y231, y232, y233, y234, y235, y236, y237, y238, y239, y240, y241, y242, y243, y244, y245, y246, y247, y248, y249, y250, y251, y252, y253, y254, y255, y256, y257, y258, y259, y260, y261, y262, y263, y264, y265, y266, y267, y268, y269, y270, y271, y272, y273, y274, y275, y276, y277, y278, y279, y280, y281, y282, y283, y284, y285, y286, y287, y288, y289, y290, y291, y292, y293, y294, y295, y296, y297, y298, y299, y300, y301, z302, z303, z304], []⟩ W) : C.wp Tryd.prog Q ⟨#[z0, z1, z2, .pointer (some ⟨w.heap.size, 0, none⟩), z4, z5, z6, z7, .slice (some ⟨b, off, none⟩) n1 c8, z9, .slice (some ⟨b2, off2, none⟩) n2 c10, z11, .int .i64 (N : Int), z13, .int .i64 (i : Int), z15, z16, z17, z18, z19, z20, z21, z22, z23, z24, z25, z26, z27, z28, z29, z30, z31, z32, z33, z34, z35, z36, z37, z38, z39, z40, z41, z42, z43, z44, z45, z46, z47, z48, z49, z50, z51, z52, z53, z54, z55, z56, z57, z58, z59, z60, z61, z62, z63, z64, z65, z66, z67, z68, z69, z70, z71, z72, z73, z74, z75, z76, z77, z78, z79, z80, z81, z82, z83, z84, z85, z86, z87, z88, z89, z90, z91, z92, z93, z94, z95, z96, z97, z98, z99, z100, z101, z102, z103, z104, z105, z106, z107, z108, z109, z110, z111, z112, z113, z114, z115, z116, z117, z118, z119, z120, z121, z122, z123, z124, z125, z126, z127, z128, z129, z130, z131, z132, z133, z134, z135, z136, .int .i64 (j : Int), z138, z139, z140, z141, z142, z143, z144, z145, z146, z147, z148, z149, z150, z151, z152, z153, z154, z155, z156, z157, z158, z159, z160, z161, z162, z163, z164, z165, z166, z167, z168, z169, z170, z171, z172, z173, z174, z175, z176, z177, z178, z179, z180, z181, z182, z183, z184, z185, z186, z187, z188, z189, z190, z191, z192, z193, z194, z195, z196, z197, z198, z199, z200, z201, z202, z203, z204, z205, z206, z207, z208, z209, z210, z211, z212, z213, z214, z215, z216, z217, z218, z219, z220, z221, z222, z223, z224, z225, z226, z227, z228, z229, z230, z231, z232, z233, z234, z235, z236, z237, z238, z239, z240, z241, z242, z243, z244, z245, z246, z247, z248, z249, z250, z251, z252, z253, z254, z255, z256, z257, z258, z259, z260, z261, z262, z263, z264, z265, z266, z267, z268, z269, z270, z271, z272, z273, z274, z275, z276, z277, z278, z279, z280, z281, z282, z283, z284, z285, z286, z287, z288, z289, z290, z291, z292, z293, z294, z295, z296, z297, z298, z299, z300, z301, z302, z303, z304], []⟩ wr := by
  have hzs := zeroSl
  have HR1 := Lib.hid HR1'
  have HKK := Lib.hid HKK'
  have HLMA := Lib.hid HLMA'
  have HLMB := Lib.hid HLMB'
  have HOKA := Lib.hid HOKA'
  have HOKB := Lib.hid HOKB'
  have HCHA := Lib.hid HCHA'
  have HCHB := Lib.hid HCHB'
  have HSE := Lib.hid HSE'
  have HLGA := Lib.hid HLGA'
  have HLGB := Lib.hid HLGB'
  have HNN := Lib.hid HNN'
  clear HR1' HKK' HLMA' HLMB' HOKA' HOKB' HCHA' HCHB' HSE' HLGA' HLGB' HNN'
  simp only [blkOf, blkAt, Tryd.f6, reduceCtorEq, if_true, if_false, Nat.reduceEqDiff, Option.some.injEq] at hC
  subst hC
  have hcx := hall i hlt
  have hcy := hall2 j hlj
  have ox := ok_at HOKA.out (k := i) (by rw [HLMA.out]; omega)
  have oy := ok_at HOKB.out (k := j) (by rw [HLMB.out]; omega)
  obtain ⟨x, hx9⟩ : ∃ x, x = sAt la i := ⟨_, rfl⟩
  obtain ⟨y, hy9⟩ : ∃ y, y = sAt lb j := ⟨_, rfl⟩
  rw [← hx9] at hcx ox
  rw [← hy9] at hcy oy
  have HX : Hid (sAt la i = x) := hx9.symm
  have HY : Hid (sAt lb j = y) := hy9.symm
  clear hx9 hy9
  have hbc := hbb
  have hbc2 := hbb2
  obtain ⟨ct, hct9⟩ : ∃ ct, ct = ctr mk48 nm48 r x y := ⟨_, rfl⟩
  have HCT : Hid (ctr mk48 nm48 r x y = ct ∧ ctr mk48 nm48 r y x = ct) := ⟨hct9.symm, by rw [ctr_comm]; exact hct9.symm⟩
  clear hct9
  have hbx := lg_bd HLGA.out (k := i) (by rw [HLMA.out]; exact hlt)
  have hby := lg_bd HLGB.out (k := j) (by rw [HLMB.out]; exact hlj)
  rw [HX.out] at hbx
  rw [HY.out] at hby
  go_upto_region 17 with (fail)
  refine jp ?_
  refine jm (.int .i64 (j : Int)) ?_
  refine jm (.int .i64 (j : Int)) ?_
  refine jz fun X1 hX1 => ?_
  have hL1 := hL1.below hX1
  have hL2 := hL2.below hX1
  have hall := fun j (hj : j < n1) => (hall j hj).below hX1 hbb
  have hbb := Nat.lt_of_lt_of_le hbb (hX1).size
  have hall2 := fun j (hj : j < n2) => (hall2 j hj).below hX1 hbb2
  have hbb2 := Nat.lt_of_lt_of_le hbb2 (hX1).size
  have hB0 := hB0.bel hX1
  have hcx := hcx.below hX1 hbc
  have hcy := hcy.below hX1 hbc2
  replace hbc := Nat.lt_of_lt_of_le hbc (hX1).size
  replace hbc2 := Nat.lt_of_lt_of_le hbc2 (hX1).size
  have hb := bel_next hb hX1
  clear hX1
  go_upto_region 18 with (fail)
  refine jd ?_
  refine ja hB0 Tryd.underlying24 (by rfl) info_rg ?_
  refine jm (.slice (some ⟨b, off, none⟩) n1 c8) ?_
  refine jm (.int .i64 (i : Int)) ?_
  refine jv (.pointer (some ⟨b, off + i * 37, none⟩)) (exec_ixv Tryd.underlying30 info_sl _ _ (by rfl) b (off) n1 c8 i (by omega) (by rfl) (by rfl) (by omega)) ?_
  refine jg (.agg (slc x).toArray) (fun X hX hF => exec_ldc 28 _ (by rfl) b (off + i * 37) (by rfl) Tryd.underlying28 rfl (slc x) X (hcx.below hX hbc) (info_slc ox)) ?_
  refine jm (.slice (some ⟨b2, off2, none⟩) n2 c10) ?_
  refine jm (.int .i64 (j : Int)) ?_
  refine jv (.pointer (some ⟨b2, off2 + j * 37, none⟩)) (exec_ixv Tryd.underlying30 info_sl _ _ (by rfl) b2 (off2) n2 c10 j (by omega) (by rfl) (by rfl) (by omega)) ?_
  refine jg (.agg (slc y).toArray) (fun X hX hF => exec_ldc 28 _ (by rfl) b2 (off2 + j * 37) (by rfl) Tryd.underlying28 rfl (slc y) X (hcy.below hX hbc2) (info_slc oy)) ?_
  refine jc (.int .i64 ct) (fun X hX hF => mo (sctV r (.slice A r.length c) x y X (HR1.out X (bel_next hb hX)) ox oy (HKK.out X (bel_next hb hX))) (by rw [HCT.out.1])) ?_
  refine jm (.int .i64 ct) ?_
  refine jz fun X2 hX2 => ?_
  have hL1 := hL1.below hX2
  have hL2 := hL2.below hX2
  have hall := fun j (hj : j < n1) => (hall j hj).below hX2 hbb
  have hbb := Nat.lt_of_lt_of_le hbb (hX2).size
  have hall2 := fun j (hj : j < n2) => (hall2 j hj).below hX2 hbb2
  have hbb2 := Nat.lt_of_lt_of_le hbb2 (hX2).size
  have hB0 := hB0.bel hX2
  have hcx := hcx.below hX2 hbc
  have hcy := hcy.below hX2 hbc2
  replace hbc := Nat.lt_of_lt_of_le hbc (hX2).size
  replace hbc2 := Nat.lt_of_lt_of_le hbc2 (hX2).size
  have hb := bel_next hb hX2
  clear hX2
  go_upto_region 19 with (fail)
  refine jd ?_
  refine jm (.int .i64 ct) ?_
  refine ja hB0 Tryd.underlying24 (by rfl) info_rg ?_
  refine jm (.slice (some ⟨b2, off2, none⟩) n2 c10) ?_
  refine jm (.int .i64 (j : Int)) ?_
  refine jv (.pointer (some ⟨b2, off2 + j * 37, none⟩)) (exec_ixv Tryd.underlying30 info_sl _ _ (by rfl) b2 (off2) n2 c10 j (by omega) (by rfl) (by rfl) (by omega)) ?_
  refine jg (.agg (slc y).toArray) (fun X hX hF => exec_ldc 28 _ (by rfl) b2 (off2 + j * 37) (by rfl) Tryd.underlying28 rfl (slc y) X (hcy.below hX hbc2) (info_slc oy)) ?_
  refine jm (.slice (some ⟨b, off, none⟩) n1 c8) ?_
  refine jm (.int .i64 (i : Int)) ?_
  refine jv (.pointer (some ⟨b, off + i * 37, none⟩)) (exec_ixv Tryd.underlying30 info_sl _ _ (by rfl) b (off) n1 c8 i (by omega) (by rfl) (by rfl) (by omega)) ?_
  refine jg (.agg (slc x).toArray) (fun X hX hF => exec_ldc 28 _ (by rfl) b (off + i * 37) (by rfl) Tryd.underlying28 rfl (slc x) X (hcx.below hX hbc) (info_slc ox)) ?_
  refine jc (.int .i64 ct) (fun X hX hF => mo (sctV r (.slice A r.length c) y x X (HR1.out X (bel_next hb hX)) oy ox (HKK.out X (bel_next hb hX))) (by rw [HCT.out.2])) ?_
  refine jv (.bool false) (exec_nei _ _ _ _ (by rfl) .i64 ct ct (by rfl) (by rfl) false (by rw [decide_eq_true rfl]; rfl)) ?_
  refine jz fun X3 hX3 => ?_
  have hL1 := hL1.below hX3
  have hL2 := hL2.below hX3
  have hall := fun j (hj : j < n1) => (hall j hj).below hX3 hbb
  have hbb := Nat.lt_of_lt_of_le hbb (hX3).size
  have hall2 := fun j (hj : j < n2) => (hall2 j hj).below hX3 hbb2
  have hbb2 := Nat.lt_of_lt_of_le hbb2 (hX3).size
  have hB0 := hB0.bel hX3
  have hcx := hcx.below hX3 hbc
  have hcy := hcy.below hX3 hbc2
  replace hbc := Nat.lt_of_lt_of_le hbc (hX3).size
  replace hbc2 := Nat.lt_of_lt_of_le hbc2 (hX3).size
  have hb := bel_next hb hX3
  clear hX3
  have hw4 := hB0.lt
  have hL1o := hL1
  have hL2o := hL2
  have hallo := hall
  have hall2o := hall2
  have hbo := hbb
  have hbo2 := hbb2
  have hcxo := hcx
  have hcyo := hcy
  go_upto_region 21 with (fail)
  refine lh_region (fun i => if i = 8 then ⟨28, (slc sl0), (slc x)⟩ else if i = 9 then ⟨28, (slc sl0), (slc y)⟩ else ⟨0, [], []⟩) [none, none, none, none, none, none, none, none, some (Gat _ _ 8), some (Gat _ _ 9), some (fun u X => Gst _ 8 undef X), some (fun u X => Gst _ 9 undef X)] (by kernel_rfl) (by kernel_rfl) (lh_none (lh_none (lh_none (lh_none (lh_none (lh_none (lh_none (lh_none (lh_some (Gat.lasts) (lh_some (Gat.lasts) (lh_some ((fun _ _ _ h hR => Gst.lasts _ _ _ h hR)) (lh_some ((fun _ _ _ h hR => Gst.lasts _ _ _ h hR)) (lh_nil))))))))))))) ?_
  simp only [iG, Nat.reduceAdd]
  refine km (.slice (some ⟨b, off, none⟩) n1 c8) ?_
  refine km (.int .i64 (i : Int)) ?_
  refine kv (.pointer (some ⟨b, off + i * 37, none⟩)) (exec_ixv Tryd.underlying30 info_sl _ _ (by rfl) b (off) n1 c8 i (by omega) (by rfl) (by rfl) (by omega)) ?_
  refine kg (.agg (slc x).toArray) (fun X hX hF => exec_ldc 28 _ (by rfl) b (off + i * 37) (by rfl) Tryd.underlying28 rfl (slc x) X (hcx.below hX hbc) (info_slc ox)) ?_
  refine km (.slice (some ⟨b2, off2, none⟩) n2 c10) ?_
  refine km (.int .i64 (j : Int)) ?_
  refine kv (.pointer (some ⟨b2, off2 + j * 37, none⟩)) (exec_ixv Tryd.underlying30 info_sl _ _ (by rfl) b2 (off2) n2 c10 j (by omega) (by rfl) (by rfl) (by omega)) ?_
  refine kg (.agg (slc y).toArray) (fun X hX hF => exec_ldc 28 _ (by rfl) b2 (off2 + j * 37) (by rfl) Tryd.underlying28 rfl (slc y) X (hcy.below hX hbc2) (info_slc oy)) ?_
  refine kl (fun X => exec_alloc_sl (by rfl) X) ?_
  intro v17
  refine kl (fun X => exec_alloc_sl (by rfl) X) ?_
  intro v18
  refine kt 8 8 v17 (List.mem_cons_of_mem _ List.mem_cons_self) (info_slc ox) ?_ (h1 := List.all_eq_true.2 slc_one) (hl := (SlOk.len ox).trans (SlOk.len ok0).symm)
  refine kt 9 9 v18 (List.mem_cons_of_mem _ List.mem_cons_self) (info_slc oy) ?_ (h1 := List.all_eq_true.2 slc_one) (hl := (SlOk.len oy).trans (SlOk.len ok0).symm)
  refine kz ?_
  intro X4 s9 hX4 hF
  obtain ⟨g17, e17, hge17, hD17, tg17⟩ := Gst.at (hF _ _ (List.mem_cons_of_mem _ (List.mem_cons_of_mem _ (List.mem_cons_of_mem _ List.mem_cons_self)))) (hF _ _ (List.mem_cons_of_mem _ List.mem_cons_self))
  subst e17
  obtain ⟨g18, e18, hge18, hD18, tg18⟩ := Gst.at (hF _ _ (List.mem_cons_of_mem _ (List.mem_cons_of_mem _ List.mem_cons_self))) (hF _ _ List.mem_cons_self)
  subst e18
  have hne17_18 := gh_ne tg17 tg18 (by decide)
  have hL1 := hL1.below hX4
  have hL2 := hL2.below hX4
  have hall := fun j (hj : j < n1) => (hall j hj).below hX4 hbb
  have hbb := Nat.lt_of_lt_of_le hbb (hX4).size
  have hall2 := fun j (hj : j < n2) => (hall2 j hj).below hX4 hbb2
  have hbb2 := Nat.lt_of_lt_of_le hbb2 (hX4).size
  have hS21 := hX4
  have hcx := hcx.below hX4 hbc
  have hcy := hcy.below hX4 hbc2
  replace hbc := Nat.lt_of_lt_of_le hbc (hX4).size
  replace hbc2 := Nat.lt_of_lt_of_le hbc2 (hX4).size
  have hB0 := hB0.bel hX4
  have hgs17 := hge17
  have hgs18 := hge18
  have hb := bel_next hb hX4
  clear hF tg17 tg18 s9 hX4
  change Blk X4 g17 28 (slc x) at hD17
  change Blk X4 g18 28 (slc y) at hD18
  go_upto_region 22 with (fail)
  refine jp ?_
  refine jm (.int .i64 (i : Int)) ?_
  refine jm (.int .i64 (j : Int)) ?_
  refine jv (.bool false) (exec_lss _ _ _ _ (by rfl) .i64 (i : Int) (j : Int) (by rfl) (by rfl) false (decide_eq_false (by omega))) ?_
  refine jz fun X5 hX5 => ?_
  have hL1 := hL1.below hX5
  have hL2 := hL2.below hX5
  have hall := fun j (hj : j < n1) => (hall j hj).below hX5 hbb
  have hbb := Nat.lt_of_lt_of_le hbb (hX5).size
  have hall2 := fun j (hj : j < n2) => (hall2 j hj).below hX5 hbb2
  have hbb2 := Nat.lt_of_lt_of_le hbb2 (hX5).size
  have hS21 := bel_next hS21 hX5
  have hB0 := hB0.bel hX5
  have hD17 := hD17.bel hX5
  have hD18 := hD18.bel hX5
  have hcx := hcx.below hX5 hbc
  have hcy := hcy.below hX5 hbc2
  replace hbc := Nat.lt_of_lt_of_le hbc (hX5).size
  replace hbc2 := Nat.lt_of_lt_of_le hbc2 (hX5).size
  have hb := bel_next hb hX5
  clear hX5
  by_cases hP : i < N
  · have hc0 := li_low HCHA.out HCHB.out HSE.out (by rw [HLMA.out]; exact hlt) (by rw [HLMB.out]; exact hlj) (.inl (by rw [HNN.out]; omega))
    rw [HX.out, HY.out, HCT.out.1] at hc0
    have HC0 := Lib.hid hc0
    clear hc0
    go_upto_region 26 with (fail)
    refine jp ?_
    refine jm (.int .i64 (i : Int)) ?_
    refine jm (.int .i64 (j : Int)) ?_
    refine jv (.bool true) (exec_eqi _ _ _ _ (by rfl) .i64 (i : Int) (j : Int) (by rfl) (by rfl) true (decide_eq_true (by omega))) ?_
    refine jm (.bool true) ?_
    refine jm (.int .i64 (i : Int)) ?_
    refine jm (.int .i64 (N : Int)) ?_
    refine jv (.bool true) (exec_lss _ _ _ _ (by rfl) .i64 (i : Int) (N : Int) (by rfl) (by rfl) true (decide_eq_true (by omega))) ?_
    refine jm (.bool true) ?_
    refine jm (.bool true) ?_
    refine js ?_
    refine js ?_
    refine js ?_
    refine js ?_
    refine js ?_
    refine js ?_
    refine js ?_
    refine js ?_
    refine jm (.bool true) ?_
    refine jm (.bool true) ?_
    refine js ?_
    refine js ?_
    refine js ?_
    refine js ?_
    refine js ?_
    refine js ?_
    refine js ?_
    refine js ?_
    refine js ?_
    refine jm (.bool true) ?_
    refine jm (.bool true) ?_
    refine js ?_
    refine js ?_
    refine js ?_
    refine js ?_
    refine js ?_
    refine js ?_
    refine js ?_
    refine js ?_
    refine js ?_
    refine js ?_
    refine js ?_
    refine js ?_
    refine js ?_
    refine js ?_
    refine jm (.bool true) ?_
    refine jm (.bool true) ?_
    refine jz fun X6 hX6 => ?_
    have hL1 := hL1.below hX6
    have hL2 := hL2.below hX6
    have hall := fun j (hj : j < n1) => (hall j hj).below hX6 hbb
    have hbb := Nat.lt_of_lt_of_le hbb (hX6).size
    have hall2 := fun j (hj : j < n2) => (hall2 j hj).below hX6 hbb2
    have hbb2 := Nat.lt_of_lt_of_le hbb2 (hX6).size
    have hS21 := bel_next hS21 hX6
    have hB0 := hB0.bel hX6
    have hD17 := hD17.bel hX6
    have hD18 := hD18.bel hX6
    have hcx := hcx.below hX6 hbc
    have hcy := hcy.below hX6 hbc2
    replace hbc := Nat.lt_of_lt_of_le hbc (hX6).size
    replace hbc2 := Nat.lt_of_lt_of_le hbc2 (hX6).size
    have hb := bel_next hb hX6
    clear hX6
    go_upto_region 27 with (fail)
    refine jp ?_
    refine jm (.int .i64 ct) ?_
    refine jv (.bool false) (exec_nei _ _ _ _ (by rfl) .i64 ct 0 (by rfl) (by rfl) false (by rw [decide_eq_true HC0.out]; rfl)) ?_
    refine jz fun X7 hX7 => ?_
    have hL1 := hL1.below hX7
    have hL2 := hL2.below hX7
    have hall := fun j (hj : j < n1) => (hall j hj).below hX7 hbb
    have hbb := Nat.lt_of_lt_of_le hbb (hX7).size
    have hall2 := fun j (hj : j < n2) => (hall2 j hj).below hX7 hbb2
    have hbb2 := Nat.lt_of_lt_of_le hbb2 (hX7).size
    have hS21 := bel_next hS21 hX7
    have hB0 := hB0.bel hX7
    have hD17 := hD17.bel hX7
    have hD18 := hD18.bel hX7
    have hcx := hcx.below hX7 hbc
    have hcy := hcy.below hX7 hbc2
    replace hbc := Nat.lt_of_lt_of_le hbc (hX7).size
    replace hbc2 := Nat.lt_of_lt_of_le hbc2 (hX7).size
    have hb := bel_next hb hX7
    clear hX7
    go_wp2
    exact hKt _ _ _ _ _ _ _ _ _ _ _ _ _ _ _ _ _ _ _ _ _ _ _ _ _ _ _ _ _ _ _ _ _ _ _ _ _ _ _ _ _ _ _ _ _ _ _ _ _ _ _ _ _ _ _ _ _ _ _ _ _ _ _ _ _ _ _ _ _ _ _ _ _ _ _ _ _ _ _ _ _ _ _ _ _ _ _ _ _ _ _ _ _ _ _ _ _ _ _ _ _ _ _ _ _ _ _ _ _ _ _ _ _ _ _ _ _ _ _ _ _ _ _ _ _ _ _ _ _ _ _ _ _ _ _ _ _ _ _ _ _ _ _ _ _ _ _ _ _ _ _ _ _ _ _ _ _ _ _ _ _ _ _ _ _ _ _ _ hL1 hL2 hall hbb hB0 hb
  · go_upto_region 26 with (fail)
    refine jp ?_
    refine jm (.int .i64 (i : Int)) ?_
    refine jm (.int .i64 (j : Int)) ?_
    refine jv (.bool true) (exec_eqi _ _ _ _ (by rfl) .i64 (i : Int) (j : Int) (by rfl) (by rfl) true (decide_eq_true (by omega))) ?_
    refine jm (.bool true) ?_
    refine jm (.int .i64 (i : Int)) ?_
    refine jm (.int .i64 (N : Int)) ?_
    refine jv (.bool false) (exec_lss _ _ _ _ (by rfl) .i64 (i : Int) (N : Int) (by rfl) (by rfl) false (decide_eq_false (by omega))) ?_
    refine jm (.bool false) ?_
    refine jm (.bool false) ?_
    refine jm (.int .i64 (i : Int)) ?_
    refine jm (.int .i64 (N : Int)) ?_
    refine jv (.bool false) (exec_lss _ _ _ _ (by rfl) .i64 (i : Int) (N : Int) (by rfl) (by rfl) false (decide_eq_false (by omega))) ?_
    refine jm (.bool false) ?_
    refine js ?_
    refine js ?_
    refine js ?_
    refine jm (.bool false) ?_
    refine jm (.bool false) ?_
    refine jm (.bool false) ?_
    refine jm (.int .i64 (i : Int)) ?_
    refine jm (.int .i64 (N : Int)) ?_
    refine jv (.bool false) (exec_lss _ _ _ _ (by rfl) .i64 (i : Int) (N : Int) (by rfl) (by rfl) false (decide_eq_false (by omega))) ?_
    refine jm (.bool false) ?_
    refine js ?_
    refine js ?_
    refine js ?_
    refine js ?_
    refine jm (.bool false) ?_
    refine jm (.bool false) ?_
    refine jm (.bool false) ?_
    refine jm (.int .i64 (j : Int)) ?_
    refine jm (.int .i64 (N : Int)) ?_
    refine jv (.bool false) (exec_lss _ _ _ _ (by rfl) .i64 (j : Int) (N : Int) (by rfl) (by rfl) false (decide_eq_false (by omega))) ?_
    refine jm (.bool false) ?_
    refine js ?_
    refine js ?_
    refine js ?_
    refine js ?_
    refine jm (.bool false) ?_
    refine jm (.bool false) ?_
    refine js ?_
    refine js ?_
    refine js ?_
    refine jm (.bool false) ?_
    refine jm (.bool false) ?_
    refine jm (.bool false) ?_
    refine jz fun X6 hX6 => ?_
    have hL1 := hL1.below hX6
    have hL2 := hL2.below hX6
    have hall := fun j (hj : j < n1) => (hall j hj).below hX6 hbb
    have hbb := Nat.lt_of_lt_of_le hbb (hX6).size
    have hall2 := fun j (hj : j < n2) => (hall2 j hj).below hX6 hbb2
    have hbb2 := Nat.lt_of_lt_of_le hbb2 (hX6).size
    have hS21 := bel_next hS21 hX6
    have hB0 := hB0.bel hX6
    have hD17 := hD17.bel hX6
    have hD18 := hD18.bel hX6
    have hcx := hcx.below hX6 hbc
    have hcy := hcy.below hX6 hbc2
    replace hbc := Nat.lt_of_lt_of_le hbc (hX6).size
    replace hbc2 := Nat.lt_of_lt_of_le hbc2 (hX6).size
    have hb := bel_next hb hX6
    clear hX6
    have hg := li_eq' HCHA.out HCHB.out HSE.out (by rw [HLMA.out]; exact hlt) (by rw [HLMB.out]; exact hlj) (by omega)
    rw [HX.out, HY.out, HCT.out.1] at hg
    have HG := Lib.hid hg
    clear hg
    by_cases hxy : x = y
    · have hnb := li_nb' HCHA.out HCHB.out HSE.out (by rw [HLMA.out]; exact hlt) (by rw [HLMB.out]; exact hlj) (by omega) (by rw [HNN.out]; omega) (by rw [HX.out, HY.out]; exact hxy)
      obtain ⟨hi0, hnb⟩ := hnb
      have HXY := Lib.hid hxy
      have hc0 : ct = 0 := by rw [HG.out, if_pos hxy]
      have HC0 := Lib.hid hc0
      clear hc0 hxy
      go_upto_region 29 with (fail)
      refine jd ?_
      refine jm (.int .i64 (i : Int)) ?_
      refine jm (.int .i64 (j : Int)) ?_
      refine jv (.bool true) (exec_eqi _ _ _ _ (by rfl) .i64 (i : Int) (j : Int) (by rfl) (by rfl) true (decide_eq_true (by omega))) ?_
      refine jm (.bool true) ?_
      refine jm (.slice (some ⟨b, off, none⟩) n1 c8) ?_
      refine jm (.int .i64 (i : Int)) ?_
      refine jv (.pointer (some ⟨b, off + i * 37, none⟩)) (exec_ixv Tryd.underlying30 info_sl _ _ (by rfl) b (off) n1 c8 i (by omega) (by rfl) (by rfl) (by omega)) ?_
      refine jg (.agg (slc x).toArray) (fun X hX hF => exec_ldc 28 _ (by rfl) b (off + i * 37) (by rfl) Tryd.underlying28 rfl (slc x) X (hcx.below hX hbc) (info_slc ox)) ?_
      refine jm (.slice (some ⟨b2, off2, none⟩) n2 c10) ?_
      refine jm (.int .i64 (j : Int)) ?_
      refine jv (.pointer (some ⟨b2, off2 + j * 37, none⟩)) (exec_ixv Tryd.underlying30 info_sl _ _ (by rfl) b2 (off2) n2 c10 j (by omega) (by rfl) (by rfl) (by omega)) ?_
      refine jg (.agg (slc y).toArray) (fun X hX hF => exec_ldc 28 _ (by rfl) b2 (off2 + j * 37) (by rfl) Tryd.underlying28 rfl (slc y) X (hcy.below hX hbc2) (info_slc oy)) ?_
      refine jv (.bool true) (exec_eqsl _ _ _ (by rfl) x y ox oy (by rfl) (by rfl) _ (decide_eq_true HXY.out)) ?_
      refine jm (.bool true) ?_
      refine jm (.bool true) ?_
      refine jz fun X7 hX7 => ?_
      have hL1 := hL1.below hX7
      have hL2 := hL2.below hX7
      have hall := fun j (hj : j < n1) => (hall j hj).below hX7 hbb
      have hbb := Nat.lt_of_lt_of_le hbb (hX7).size
      have hall2 := fun j (hj : j < n2) => (hall2 j hj).below hX7 hbb2
      have hbb2 := Nat.lt_of_lt_of_le hbb2 (hX7).size
      have hS21 := bel_next hS21 hX7
      have hB0 := hB0.bel hX7
      have hD17 := hD17.bel hX7
      have hD18 := hD18.bel hX7
      have hcx := hcx.below hX7 hbc
      have hcy := hcy.below hX7 hbc2
      replace hbc := Nat.lt_of_lt_of_le hbc (hX7).size
      replace hbc2 := Nat.lt_of_lt_of_le hbc2 (hX7).size
      have hb := bel_next hb hX7
      clear hX7
      have hcx := hall (i - 1) (by omega)
      have hcy := hall2 (j - 1) (by omega)
      have oxp := ok_at HOKA.out (k := i - 1) (by rw [HLMA.out]; omega)
      have oyp := ok_at HOKB.out (k := j - 1) (by rw [HLMB.out]; omega)
      have hbxp := lg_bd HLGA.out (k := i - 1) (by rw [HLMA.out]; omega)
      have hbyp := lg_bd HLGB.out (k := j - 1) (by rw [HLMB.out]; omega)
      obtain ⟨xp, hx9⟩ : ∃ x, x = sAt la (i - 1) := ⟨_, rfl⟩
      obtain ⟨yp, hy9⟩ : ∃ y, y = sAt lb (j - 1) := ⟨_, rfl⟩
      rw [← hx9] at hcx oxp hbxp hnb
      rw [← hy9] at hcy oyp hbyp hnb
      have HNB := Lib.hid hnb
      clear hnb hx9 hy9
      go_upto_region 30 with (fail)
      refine jd ?_
      refine jm (.slice (some ⟨b, off, none⟩) n1 c8) ?_
      refine jm (.int .i64 (i : Int)) ?_
      refine jv (.int .i64 ((i : Int) - 1)) (exec_sub _ _ _ _ (by rfl) (i : Int) 1 ((i : Int) - 1) (by rfl) (by rfl) (by omega) (by omega) (by omega)) ?_
      refine jv (.pointer (some ⟨b, off + (i - 1) * 37, none⟩)) (exec_ixv Tryd.underlying30 info_sl _ _ (by rfl) b (off) n1 c8 (i - 1) (by omega) (by rfl) (by rfl) (by omega)) ?_
      refine jg (.agg (slc xp).toArray) (fun X hX hF => exec_ldc 28 _ (by rfl) b (off + (i - 1) * 37) (by rfl) Tryd.underlying28 rfl (slc xp) X (hcx.below hX hbc) (info_slc oxp)) ?_
      refine jc (.agg ((nm48 xp).map B8).toArray) (fun X hX hF => snmC xp X oxp (by omega) (HKK.out X (bel_next hb hX))) ?_
      refine jm (.slice (some ⟨b2, off2, none⟩) n2 c10) ?_
      refine jm (.int .i64 (j : Int)) ?_
      refine jv (.int .i64 ((j : Int) - 1)) (exec_sub _ _ _ _ (by rfl) (j : Int) 1 ((j : Int) - 1) (by rfl) (by rfl) (by omega) (by omega) (by omega)) ?_
      refine jv (.pointer (some ⟨b2, off2 + (j - 1) * 37, none⟩)) (exec_ixv Tryd.underlying30 info_sl _ _ (by rfl) b2 (off2) n2 c10 (j - 1) (by omega) (by rfl) (by rfl) (by omega)) ?_
      refine jg (.agg (slc yp).toArray) (fun X hX hF => exec_ldc 28 _ (by rfl) b2 (off2 + (j - 1) * 37) (by rfl) Tryd.underlying28 rfl (slc yp) X (hcy.below hX hbc2) (info_slc oyp)) ?_
      refine jc (.agg ((nm48 yp).map B8).toArray) (fun X hX hF => snmC yp X oyp (by omega) (HKK.out X (bel_next hb hX))) ?_
      refine jv (.bool false) (exec_nedg _ _ _ (by rfl) (nm48 xp) (nm48 yp) (nm_len _) (nm_len _) (by rfl) (by rfl) _ (nes_f HNB.out)) ?_
      refine jm (.bool false) ?_
      refine jm (.int .i64 ct) ?_
      refine jv (.bool false) (exec_nei _ _ _ _ (by rfl) .i64 ct 0 (by rfl) (by rfl) false (by rw [decide_eq_true HC0.out]; rfl)) ?_
      refine jm (.bool false) ?_
      refine jz fun X8 hX8 => ?_
      have hL1 := hL1.below hX8
      have hL2 := hL2.below hX8
      have hall := fun j (hj : j < n1) => (hall j hj).below hX8 hbb
      have hbb := Nat.lt_of_lt_of_le hbb (hX8).size
      have hall2 := fun j (hj : j < n2) => (hall2 j hj).below hX8 hbb2
      have hbb2 := Nat.lt_of_lt_of_le hbb2 (hX8).size
      have hS21 := bel_next hS21 hX8
      have hB0 := hB0.bel hX8
      have hD17 := hD17.bel hX8
      have hD18 := hD18.bel hX8
      have hcx := hcx.below hX8 hbc
      have hcy := hcy.below hX8 hbc2
      replace hbc := Nat.lt_of_lt_of_le hbc (hX8).size
      replace hbc2 := Nat.lt_of_lt_of_le hbc2 (hX8).size
      have hb := bel_next hb hX8
      clear hX8
      go_wp2
      exact hKt _ _ _ _ _ _ _ _ _ _ _ _ _ _ _ _ _ _ _ _ _ _ _ _ _ _ _ _ _ _ _ _ _ _ _ _ _ _ _ _ _ _ _ _ _ _ _ _ _ _ _ _ _ _ _ _ _ _ _ _ _ _ _ _ _ _ _ _ _ _ _ _ _ _ _ _ _ _ _ _ _ _ _ _ _ _ _ _ _ _ _ _ _ _ _ _ _ _ _ _ _ _ _ _ _ _ _ _ _ _ _ _ _ _ _ _ _ _ _ _ _ _ _ _ _ _ _ _ _ _ _ _ _ _ _ _ _ _ _ _ _ _ _ _ _ _ _ _ _ _ _ _ _ _ _ _ _ _ _ _ _ _ _ _ _ _ _ _ hL1 hL2 hall hbb hB0 hb
    · have HXY : Hid (¬ x = y) := hxy
      have hc1 : ct = 1 := by rw [HG.out, if_neg hxy]
      have HC1 := Lib.hid hc1
      clear hc1 hxy
      go_upto_region 29 with (fail)
      refine jd ?_
      refine jm (.int .i64 (i : Int)) ?_
      refine jm (.int .i64 (j : Int)) ?_
      refine jv (.bool true) (exec_eqi _ _ _ _ (by rfl) .i64 (i : Int) (j : Int) (by rfl) (by rfl) true (decide_eq_true (by omega))) ?_
      refine jm (.bool true) ?_
      refine jm (.slice (some ⟨b, off, none⟩) n1 c8) ?_
      refine jm (.int .i64 (i : Int)) ?_
      refine jv (.pointer (some ⟨b, off + i * 37, none⟩)) (exec_ixv Tryd.underlying30 info_sl _ _ (by rfl) b (off) n1 c8 i (by omega) (by rfl) (by rfl) (by omega)) ?_
      refine jg (.agg (slc x).toArray) (fun X hX hF => exec_ldc 28 _ (by rfl) b (off + i * 37) (by rfl) Tryd.underlying28 rfl (slc x) X (hcx.below hX hbc) (info_slc ox)) ?_
      refine jm (.slice (some ⟨b2, off2, none⟩) n2 c10) ?_
      refine jm (.int .i64 (j : Int)) ?_
      refine jv (.pointer (some ⟨b2, off2 + j * 37, none⟩)) (exec_ixv Tryd.underlying30 info_sl _ _ (by rfl) b2 (off2) n2 c10 j (by omega) (by rfl) (by rfl) (by omega)) ?_
      refine jg (.agg (slc y).toArray) (fun X hX hF => exec_ldc 28 _ (by rfl) b2 (off2 + j * 37) (by rfl) Tryd.underlying28 rfl (slc y) X (hcy.below hX hbc2) (info_slc oy)) ?_
      refine jv (.bool false) (exec_eqsl _ _ _ (by rfl) x y ox oy (by rfl) (by rfl) _ (decide_eq_false HXY.out)) ?_
      refine jm (.bool false) ?_
      refine jm (.bool false) ?_
      refine jz fun X7 hX7 => ?_
      have hL1 := hL1.below hX7
      have hL2 := hL2.below hX7
      have hall := fun j (hj : j < n1) => (hall j hj).below hX7 hbb
      have hbb := Nat.lt_of_lt_of_le hbb (hX7).size
      have hall2 := fun j (hj : j < n2) => (hall2 j hj).below hX7 hbb2
      have hbb2 := Nat.lt_of_lt_of_le hbb2 (hX7).size
      have hS21 := bel_next hS21 hX7
      have hB0 := hB0.bel hX7
      have hD17 := hD17.bel hX7
      have hD18 := hD18.bel hX7
      have hcx := hcx.below hX7 hbc
      have hcy := hcy.below hX7 hbc2
      replace hbc := Nat.lt_of_lt_of_le hbc (hX7).size
      replace hbc2 := Nat.lt_of_lt_of_le hbc2 (hX7).size
      have hb := bel_next hb hX7
      clear hX7
      go_upto_region 32 with (fail)
      refine jp ?_
      refine jm (.int .i64 (i : Int)) ?_
      refine jm (.int .i64 (j : Int)) ?_
      refine jv (.bool true) (exec_eqi _ _ _ _ (by rfl) .i64 (i : Int) (j : Int) (by rfl) (by rfl) true (decide_eq_true (by omega))) ?_
      refine jm (.bool true) ?_
      refine jz fun X8 hX8 => ?_
      have hL1 := hL1.below hX8
      have hL2 := hL2.below hX8
      have hall := fun j (hj : j < n1) => (hall j hj).below hX8 hbb
      have hbb := Nat.lt_of_lt_of_le hbb (hX8).size
      have hall2 := fun j (hj : j < n2) => (hall2 j hj).below hX8 hbb2
      have hbb2 := Nat.lt_of_lt_of_le hbb2 (hX8).size
      have hS21 := bel_next hS21 hX8
      have hB0 := hB0.bel hX8
      have hD17 := hD17.bel hX8
      have hD18 := hD18.bel hX8
      have hcx := hcx.below hX8 hbc
      have hcy := hcy.below hX8 hbc2
      replace hbc := Nat.lt_of_lt_of_le hbc (hX8).size
      replace hbc2 := Nat.lt_of_lt_of_le hbc2 (hX8).size
      have hb := bel_next hb hX8
      clear hX8
      go_upto_region 33 with (fail)
      refine jp ?_
      refine jm (.int .i64 ct) ?_
      refine jv (.bool false) (exec_nei _ _ _ _ (by rfl) .i64 ct 1 (by rfl) (by rfl) false (by rw [decide_eq_true HC1.out]; rfl)) ?_
      refine jz fun X9 hX9 => ?_
      have hL1 := hL1.below hX9
      have hL2 := hL2.below hX9
      have hall := fun j (hj : j < n1) => (hall j hj).below hX9 hbb
      have hbb := Nat.lt_of_lt_of_le hbb (hX9).size
      have hall2 := fun j (hj : j < n2) => (hall2 j hj).below hX9 hbb2
      have hbb2 := Nat.lt_of_lt_of_le hbb2 (hX9).size
      have hS21 := bel_next hS21 hX9
      have hB0 := hB0.bel hX9
      have hD17 := hD17.bel hX9
      have hD18 := hD18.bel hX9
      have hcx := hcx.below hX9 hbc
      have hcy := hcy.below hX9 hbc2
      replace hbc := Nat.lt_of_lt_of_le hbc (hX9).size
      replace hbc2 := Nat.lt_of_lt_of_le hbc2 (hX9).size
      have hb := bel_next hb hX9
      clear hX9
      go_wp2
      exact hKt _ _ _ _ _ _ _ _ _ _ _ _ _ _ _ _ _ _ _ _ _ _ _ _ _ _ _ _ _ _ _ _ _ _ _ _ _ _ _ _ _ _ _ _ _ _ _ _ _ _ _ _ _ _ _ _ _ _ _ _ _ _ _ _ _ _ _ _ _ _ _ _ _ _ _ _ _ _ _ _ _ _ _ _ _ _ _ _ _ _ _ _ _ _ _ _ _ _ _ _ _ _ _ _ _ _ _ _ _ _ _ _ _ _ _ _ _ _ _ _ _ _ _ _ _ _ _ _ _ _ _ _ _ _ _ _ _ _ _ _ _ _ _ _ _ _ _ _ _ _ _ _ _ _ _ _ _ _ _ _ _ _ _ _ _ _ _ _ hL1 hL2 hall hbb hB0 hb
end Go.Proofs.YthinopepcmidmaaDoor
