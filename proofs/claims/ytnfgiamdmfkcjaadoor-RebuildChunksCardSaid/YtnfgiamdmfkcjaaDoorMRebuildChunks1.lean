/- Words and walks that the claim RebuildChunks leans on (what it does not use is left out). -/
import Derived.Test.YtnfgiamdmfkcjaaDoorRows
import Derived.WalkKit
import Derived.ProofKit
import Derived.Test.YtnfgiamdmfkcjaaDoorProg
import Derived.Test.YtnfgiamdmfkcjaaDoorVRebuildChunks3
import Derived.Laws.Tables
import Derived.Laws.Rows
import Derived.Laws.ResultCell
import Derived.Deep.WholeRow
import Derived.Great.BuildSlice
import Derived.Deep.RegionHeld3
import Derived.StillTactics
import Derived.IntWalk
import Derived.WalkSpells
import Derived.Shelf.Abstract
import Derived.Lib.SlBytesConst
import Derived.Below
import Derived.Deep.Draws
import Derived.Deep.AppendLies
import Derived.Maps.AppendAt
import Derived.OwnWalk
import Derived.Laws.BytesArg
import Derived.Laws.MakeOwn
import Derived.Laws.OwnMore
import Derived.Deep.OwnRows
import Derived.Tactics
import Derived.Lib.ConvBytes
import Derived.Laws.Slices
import Derived.KernelRfl
import Derived.RowKit3
import Derived.Deep.LoopGhost
import Derived.Deep.QuietTactic
import Derived.BigQuiet
import Derived.WideLaws
import Derived.Deep.DeepCutAuto
import Derived.Deep.CutBlock
import Derived.Lib.AppendStr
import Derived.ArgAppend
import Derived.Laws.IdiomCopy
import Derived.OrdersHeld
import Derived.Laws.BitsLemmas
import Derived.RowKit
import Derived.Test.YtnfgiamdmfkcjaaDoorVRebuildChunks1
import Derived.Test.YtnfgiamdmfkcjaaDoorVRebuildChunks2
import Derived.Laws.StructEq
set_option linter.unusedSimpArgs false
set_option linter.unusedVariables false
namespace Go.Proofs.YtnfgiamdmfkcjaaDoor.Facts
theorem joinedOf {P : Program} {f : FuncId} {fn : Func} {s : ChangeSpec} {c : OpenClaim}
    (k1 : c.wf (OpenSpec.ofChange s) = true) (k4 : fn.params.all (P.readableRec ·) = true)
    (k5 : namedTie P c.named s.vars = true)
    (k6 : (c.stops == []) = true) (k8 : (c.knobs == []) = true)
    (k10 : (c.inPlace == P.inPlace f) = true)
    (k11 : (c.unfollowed == P.unfollowed f) = true)
    (k12 : (c.recurses == P.recurses f) = true)
    (k13 : (c.named == P.varsNamed f) = true)
    (k14 : (c.maps == (fn.params.toList ++ s.plain.varTypes P).any (P.mapsRec ·)) = true)
    (k15 : (c.ifaces == (fn.params.toList ++ s.plain.varTypes P).any (P.ifacesRec ·)) = true)
    (k15b : (c.mapsOut == P.mapsAmong fn.resultTypes.toList) = true)
    (k16 : (c.loops == (fn.params.toList ++ s.plain.varTypes P).any (P.loopsFrom ·)) = true)
    (k17 : (c.wideKeys == (fn.params.toList ++ s.plain.varTypes P ++ fn.resultTypes.toList).any (P.wideKeysFrom ·)) = true)
    (k18 : s.vars.all (P.varReadable ·) = true)
    (k19 : fn.resultTypes.all (fun t => P.readableRec t && decide (t < P.types.size)) = true)
    (k20 : (c.ifacesOut == fn.resultTypes.toList.any (P.ifacesRec ·)) = true)
    (k21 : (c.loopsOut == fn.resultTypes.toList.any (P.loopsFrom ·)) = true)
    (k22 : (c.plainKeys == P.plainKeys) = true)
    (k23 : c.shortTexts.isNone = true)
    (k24 : (c.lifted == P.liftsFinal) = true)
    (k25 : (P.make == some c.make) = true)
    (k26 : (c.kinds == (if c.domain.isEmpty then [] else fn.params.toList.map fun t => match P.underlying t with | some (.int k) => some k | _ => none)) = true)
    (k27 : (c.pinned == c.pinnedBy) = true)
    (k28 : (c.veiled == (fn.params.toList ++ s.plain.varTypes P ++ fn.resultTypes.toList).any (P.veiledRec ·)) = true)
    (k29 : c.veiledFits P fn.params.toList (fn.params.toList ++ s.plain.varTypes P ++ fn.resultTypes.toList) = true)
    (laid : laidOutB P = true) (rowed : mapsRowed P = true) (stops : (P.stops == []) = true) (knobs : (P.stopKnobs == []) = true) (heard : P.stopsHeard = true) (enters : P.mayEnter = true) :
    joinedFacts P f fn s c = true := by
  unfold joinedFacts
  simp only [Bool.and_eq_true]
  exact ⟨⟨⟨⟨⟨⟨⟨⟨⟨⟨⟨⟨⟨⟨⟨⟨⟨⟨⟨⟨⟨⟨⟨⟨⟨⟨⟨⟨⟨⟨⟨k1, laid⟩, rowed⟩, k4⟩, k5⟩, k6⟩, stops⟩, k8⟩, knobs⟩, k10⟩, k11⟩, k12⟩, k13⟩, k14⟩, k15⟩, k15b⟩, k16⟩, k17⟩, k18⟩, k19⟩, k20⟩, k21⟩, k22⟩, k23⟩, heard⟩, enters⟩, k24⟩, k25⟩, k26⟩, k27⟩, k28⟩, k29⟩
theorem stops : (Tryd.pinned.checked.prog.stops == []) = true := by kernel_rfl
theorem knobs : (Tryd.pinned.checked.prog.stopKnobs == []) = true := by kernel_rfl
theorem laid : laidOutB Tryd.pinned.checked.prog = true := by kernel_rfl
theorem rowed : mapsRowed Tryd.pinned.checked.prog = true := by kernel_rfl
theorem heard : Tryd.pinned.checked.prog.stopsHeard = true := by kernel_rfl
theorem enters : Tryd.pinned.checked.prog.mayEnter = true := by kernel_rfl
end Go.Proofs.YtnfgiamdmfkcjaaDoor.Facts
namespace Go.Proofs.YtnfgiamdmfkcjaaDoor.Leaf
open Go.RowKit Go.Proofs.YtnfgiamdmfkcjaaDoorW.PrintWords
set_option maxRecDepth 1000000
def tabE : List Int := [1, 2, 4, 8, 16, 32, 64, 128, 29, 58, 116, 232, 205, 135, 19, 38, 76, 152, 45, 90, 180, 117, 234, 201, 143, 3, 6, 12, 24, 48, 96, 192, 157, 39, 78, 156, 37, 74, 148, 53, 106, 212, 181, 119, 238, 193, 159, 35, 70, 140, 5, 10, 20, 40, 80, 160, 93, 186, 105, 210, 185, 111, 222, 161, 95, 190, 97, 194, 153, 47, 94, 188, 101, 202, 137, 15, 30, 60, 120, 240, 253, 231, 211, 187, 107, 214, 177, 127, 254, 225, 223, 163, 91, 182, 113, 226, 217, 175, 67, 134, 17, 34, 68, 136, 13, 26, 52, 104, 208, 189, 103, 206, 129, 31, 62, 124, 248, 237, 199, 147, 59, 118, 236, 197, 151, 51, 102, 204, 133, 23, 46, 92, 184, 109, 218, 169, 79, 158, 33, 66, 132, 21, 42, 84, 168, 77, 154, 41, 82, 164, 85, 170, 73, 146, 57, 114, 228, 213, 183, 115, 230, 209, 191, 99, 198, 145, 63, 126, 252, 229, 215, 179, 123, 246, 241, 255, 227, 219, 171, 75, 150, 49, 98, 196, 149, 55, 110, 220, 165, 87, 174, 65, 130, 25, 50, 100, 200, 141, 7, 14, 28, 56, 112, 224, 221, 167, 83, 166, 81, 162, 89, 178, 121, 242, 249, 239, 195, 155, 43, 86, 172, 69, 138, 9, 18, 36, 72, 144, 61, 122, 244, 245, 247, 243, 251, 235, 203, 139, 11, 22, 44, 88, 176, 125, 250, 233, 207, 131, 27, 54, 108, 216, 173, 71, 142]
def tabL : List Int := [0, 0, 1, 25, 2, 50, 26, 198, 3, 223, 51, 238, 27, 104, 199, 75, 4, 100, 224, 14, 52, 141, 239, 129, 28, 193, 105, 248, 200, 8, 76, 113, 5, 138, 101, 47, 225, 36, 15, 33, 53, 147, 142, 218, 240, 18, 130, 69, 29, 181, 194, 125, 106, 39, 249, 185, 201, 154, 9, 120, 77, 228, 114, 166, 6, 191, 139, 98, 102, 221, 48, 253, 226, 152, 37, 179, 16, 145, 34, 136, 54, 208, 148, 206, 143, 150, 219, 189, 241, 210, 19, 92, 131, 56, 70, 64, 30, 66, 182, 163, 195, 72, 126, 110, 107, 58, 40, 84, 250, 133, 186, 61, 202, 94, 155, 159, 10, 21, 121, 43, 78, 212, 229, 172, 115, 243, 167, 87, 7, 112, 192, 247, 140, 128, 99, 13, 103, 74, 222, 237, 49, 197, 254, 24, 227, 165, 153, 119, 38, 184, 180, 124, 17, 68, 146, 217, 35, 32, 137, 46, 55, 63, 209, 91, 149, 188, 207, 205, 144, 135, 151, 178, 220, 252, 190, 97, 242, 86, 211, 171, 20, 42, 93, 158, 132, 60, 57, 83, 71, 109, 65, 162, 31, 45, 67, 216, 183, 123, 164, 118, 196, 23, 73, 236, 127, 12, 111, 246, 108, 161, 59, 82, 41, 157, 85, 170, 251, 96, 134, 177, 187, 204, 62, 90, 203, 89, 95, 176, 156, 169, 160, 81, 11, 245, 22, 235, 122, 117, 44, 215, 79, 174, 213, 233, 230, 231, 173, 232, 116, 214, 244, 234, 168, 80, 88, 175]
def tabK : List Int := [0, 4067132163, 3778769143, 324072436, 3348797215, 904991772, 648144872, 3570033899, 2329499855, 2024987596, 1809983544, 2575936315, 1296289744, 3207089363, 2893594407, 1578318884, 274646895, 3795141740, 4049975192, 51262619, 3619967088, 632279923, 922689671, 3298075524, 2592579488, 1760304291, 2075979607, 2312596564, 1562183871, 2943781820, 3156637768, 1313733451, 549293790, 3537243613, 3246849577, 871202090, 3878099393, 357341890, 102525238, 4101499445, 2858735121, 1477399826, 1264559846, 3107202533, 1845379342, 2677391885, 2361733625, 2125378298, 820201905, 3263744690, 3520608582, 598981189, 4151959214, 85089709, 373468761, 3827903834, 3124367742, 1213305469, 1526817161, 2842354314, 2107672161, 2412447074, 2627466902, 1861252501, 1098587580, 3004210879, 2688576843, 1378610760, 2262928035, 1955203488, 1742404180, 2511436119, 3416409459, 969524848, 714683780, 3639785095, 205050476, 4266873199, 3976438427, 526918040, 1361435347, 2739821008, 2954799652, 1114974503, 2529119692, 1691668175, 2005155131, 2247081528, 3690758684, 697762079, 986182379, 3366744552, 476452099, 3993867776, 4250756596, 255256311, 1640403810, 2477592673, 2164122517, 1922457750, 2791048317, 1412925310, 1197962378, 3037525897, 3944729517, 427051182, 170179418, 4165941337, 746937522, 3740196785, 3451792453, 1070968646, 1905808397, 2213795598, 2426610938, 1657317369, 3053634322, 1147748369, 1463399397, 2773627110, 4215344322, 153784257, 444234805, 3893493558, 1021025245, 3467647198, 3722505002, 797665321, 2197175160, 1889384571, 1674398607, 2443626636, 1164749927, 3070701412, 2757221520, 1446797203, 137323447, 4198817972, 3910406976, 461344835, 3484808360, 1037989803, 781091935, 3705997148, 2460548119, 1623424788, 1939049696, 2180517859, 1429367560, 2807687179, 3020495871, 1180866812, 410100952, 3927582683, 4182430767, 186734380, 3756733383, 763408580, 1053836080, 3434856499, 2722870694, 1344288421, 1131464017, 2971354706, 1708204729, 2545590714, 2229949006, 1988219213, 680717673, 3673779818, 3383336350, 1002577565, 4010310262, 493091189, 238226049, 4233660802, 2987750089, 1082061258, 1395524158, 2705686845, 1972364758, 2279892693, 2494862625, 1725896226, 952904198, 3399985413, 3656866545, 731699698, 4283874585, 222117402, 510512622, 3959836397, 3280807620, 837199303, 582374963, 3504198960, 68661723, 4135334616, 3844915500, 390545967, 1230274059, 3141532936, 2825850620, 1510247935, 2395924756, 2091215383, 1878366691, 2644384480, 3553878443, 565732008, 854102364, 3229815391, 340358836, 3861050807, 4117890627, 119113024, 1493875044, 2875275879, 3090270611, 1247431312, 2660249211, 1828433272, 2141937292, 2378227087, 3811616794, 291187481, 34330861, 4032846830, 615137029, 3603020806, 3314634738, 939183345, 1776939221, 2609017814, 2295496738, 2058945313, 2926798794, 1545135305, 1330124605, 3173225534, 4084100981, 17165430, 307568514, 3762199681, 888469610, 3332340585, 3587147933, 665062302, 2042050490, 2346497209, 2559330125, 1793573966, 3190661285, 1279665062, 1595330642, 2910671697]
set_option maxHeartbeats 4000000 in
theorem exps_calls (w : World) : Calls Tryd.prog 89 #[] w fun e w' => e = .returned (.agg (tabE.map (Value.int .u8)).toArray) ∧ Below w.heap.size w w' := by
 go_enter Tryd.func89, Tryd.ntmps89
 apply wp_seq_k; intro K0 hK0
 have HK := Aside0.mk hK0
 clear hK0
 go_wp2
 refine HK.out _ _ ?_
 clear HK K0
 apply wp_seq_k; intro K1 hK1
 apply wp_region_lit
 refine wpList_buildFlatArrTo rfl 129 5 255 _ rfl .u8 tabE (some 1) rfl (by as_aux_lemma => kernel_rfl) (by as_aux_lemma => kernel_rfl) (by as_aux_lemma => kernel_rfl) (by as_aux_lemma => kernel_rfl) ?_
 refine wpList_store_rowTo rfl 129 _ _ rfl rfl w.heap.size (tabE.map (Value.int .u8)).toArray rfl rfl 129 Tryd.zeroCells129 (heap_alloc_last w _) (by as_aux_lemma => kernel_rfl) (by as_aux_lemma => kernel_rfl) (by as_aux_lemma => kernel_rfl) ?_
 rw [World.setRow_alloc_new]
 apply wpList_nil
 refine hK1 _ _ ?_
 clear hK1 K1
 apply wp_ret
 refine bodyPost_ret (v := .agg (tabE.map (Value.int .u8)).toArray) ?_ rfl ⟨rfl, (Below.refl _ _).alloc (Nat.le_refl _) _⟩
 exact results_cell_row (p := 0) (ty := 129) rfl _ _ w.heap.size 129 _ (0, 0) (.array 255 5) rfl (heap_alloc_last w _) (by as_aux_lemma => kernel_rfl) rfl (by as_aux_lemma => kernel_rfl)
set_option maxHeartbeats 4000000 in
theorem logs_calls (w : World) : Calls Tryd.prog 90 #[] w fun e w' => e = .returned (.agg (tabL.map (Value.int .u8)).toArray) ∧ Below w.heap.size w w' := by
 go_enter Tryd.func90, Tryd.ntmps90
 apply wp_seq_k; intro K0 hK0
 have HK := Aside0.mk hK0
 clear hK0
 go_wp2
 refine HK.out _ _ ?_
 clear HK K0
 apply wp_seq_k; intro K1 hK1
 apply wp_region_lit
 refine wpList_buildFlatArrTo rfl 131 5 256 _ rfl .u8 tabL (some 1) rfl (by as_aux_lemma => kernel_rfl) (by as_aux_lemma => kernel_rfl) (by as_aux_lemma => kernel_rfl) (by as_aux_lemma => kernel_rfl) ?_
 refine wpList_store_rowTo rfl 131 _ _ rfl rfl w.heap.size (tabL.map (Value.int .u8)).toArray rfl rfl 131 Tryd.zeroCells131 (heap_alloc_last w _) (by as_aux_lemma => kernel_rfl) (by as_aux_lemma => kernel_rfl) (by as_aux_lemma => kernel_rfl) ?_
 rw [World.setRow_alloc_new]
 apply wpList_nil
 refine hK1 _ _ ?_
 clear hK1 K1
 apply wp_ret
 refine bodyPost_ret (v := .agg (tabL.map (Value.int .u8)).toArray) ?_ rfl ⟨rfl, (Below.refl _ _).alloc (Nat.le_refl _) _⟩
 exact results_cell_row (p := 0) (ty := 131) rfl _ _ w.heap.size 131 _ (0, 0) (.array 256 5) rfl (heap_alloc_last w _) (by as_aux_lemma => kernel_rfl) rfl (by as_aux_lemma => kernel_rfl)
set_option maxHeartbeats 4000000 in
theorem known_calls (w : World) : Calls Tryd.prog 94 #[] w fun e w' => e = .returned (.agg (tabK.map (Value.int .u32)).toArray) ∧ Below w.heap.size w w' := by
 go_enter Tryd.func94, Tryd.ntmps94
 apply wp_seq_k; intro K0 hK0
 have HK := Aside0.mk hK0
 clear hK0
 go_wp2
 refine HK.out _ _ ?_
 clear HK K0
 apply wp_seq_k; intro K1 hK1
 apply wp_region_lit
 refine wpList_buildFlatArrTo rfl 134 42 256 _ rfl .u32 tabK (some 1) rfl (by as_aux_lemma => kernel_rfl) (by as_aux_lemma => kernel_rfl) (by as_aux_lemma => kernel_rfl) (by as_aux_lemma => kernel_rfl) ?_
 refine wpList_store_rowTo rfl 134 _ _ rfl rfl w.heap.size (tabK.map (Value.int .u32)).toArray rfl rfl 134 Tryd.zeroCells134 (heap_alloc_last w _) (by as_aux_lemma => kernel_rfl) (by as_aux_lemma => kernel_rfl) (by as_aux_lemma => kernel_rfl) ?_
 rw [World.setRow_alloc_new]
 apply wpList_nil
 refine hK1 _ _ ?_
 clear hK1 K1
 apply wp_ret
 refine bodyPost_ret (v := .agg (tabK.map (Value.int .u32)).toArray) ?_ rfl ⟨rfl, (Below.refl _ _).alloc (Nat.le_refl _) _⟩
 exact results_cell_row (p := 0) (ty := 134) rfl _ _ w.heap.size 134 _ (0, 0) (.array 256 42) rfl (heap_alloc_last w _) (by as_aux_lemma => kernel_rfl) rfl (by as_aux_lemma => kernel_rfl)
end Go.Proofs.YtnfgiamdmfkcjaaDoor.Leaf
namespace Go.Proofs.YtnfgiamdmfkcjaaDoor.Leaf
open Go.RowKit Go.Proofs.YtnfgiamdmfkcjaaDoorW.PrintWords
theorem exps_below (B : Nat) (w0 w : World) (h : Below B w0 w ∧ B ≤ w.heap.size) : Calls Tryd.prog 89 #[] w fun e w' => e = .returned (.agg (tabE.map (Value.int .u8)).toArray) ∧ Below B w0 w' ∧ B ≤ w'.heap.size :=
 (exps_calls w).mono fun _ _ ⟨a, b⟩ => ⟨a, below_then h.1 h.2 b, Nat.le_trans h.2 b.size⟩
theorem logs_below (B : Nat) (w0 w : World) (h : Below B w0 w ∧ B ≤ w.heap.size) : Calls Tryd.prog 90 #[] w fun e w' => e = .returned (.agg (tabL.map (Value.int .u8)).toArray) ∧ Below B w0 w' ∧ B ≤ w'.heap.size :=
 (logs_calls w).mono fun _ _ ⟨a, b⟩ => ⟨a, below_then h.1 h.2 b, Nat.le_trans h.2 b.size⟩
theorem tab_range (t : List Int) (N : Int) (hN : 0 < N) (h : t.all (fun x => decide (0 ≤ x) && decide (x < N)) = true) (i : Int) : 0 ≤ rd t i ∧ rd t i < N := by
 unfold rd
 rw [List.getD_eq_getElem?_getD]
 cases e : t[i.toNat]? with
 | none => simp; exact hN
 | some x =>
  have := List.all_eq_true.1 h x (List.mem_of_getElem? e)
  simpa using this
theorem tabL_range (i : Int) : 0 ≤ rd tabL i ∧ rd tabL i < 256 := tab_range tabL 256 (by decide) (by as_aux_lemma => kernel_rfl) i
theorem run_index_tab {P : Program} {T n e : Nat} {kk k : IntKind} {tab : List Int} (hu : P.underlying T = some (.array n e)) (hl : tab.length = n)
 (hs : ∀ w, (sizeOf e).run P w = .ok 1 w) (ha : ∀ w, (isAgg e).run P w = .ok false w) (i : Int) (h0 : 0 ≤ i) (h1 : i < n) (w : World) :
 (Instr.index T (.agg (tab.map (Value.int kk)).toArray) (.int k i)).run P w = .ok (.int kk (rd tab i)) w := by
 have hj : i.toNat < tab.length := by omega
 unfold Instr.index part
 simp only [asIntOf, Sem.run_bind, Sem.run_pure, Result.andThen_ok, run_underlying hu, h0, h1, and_self, if_true, hs, ha, Nat.mul_one, Bool.false_eq_true, if_false]
 have : ((tab.map (Value.int kk)).toArray)[i.toNat]? = some (.int kk (rd tab i)) := by
  rw [List.getElem?_toArray, List.getElem?_map, List.getElem?_eq_getElem hj]
  simp [rd, List.getD_eq_getElem?_getD, List.getElem?_eq_getElem hj]
 rw [this]
 rfl
theorem lenE : tabE.length = 255 := by as_aux_lemma => kernel_rfl
theorem lenL : tabL.length = 256 := by as_aux_lemma => kernel_rfl
theorem lenK : tabK.length = 256 := by as_aux_lemma => kernel_rfl
theorem index_E (k : IntKind) (i : Int) (h0 : 0 ≤ i) (h1 : i < 255) (w : World) : (Instr.index 129 (.agg (tabE.map (Value.int .u8)).toArray) (.int k i)).run Tryd.prog w = .ok (.int .u8 (rd tabE i)) w :=
 run_index_tab Tryd.underlying129 lenE Tryd.sizeOf5 Tryd.isAgg5 i h0 h1 w
theorem index_L (k : IntKind) (i : Int) (h0 : 0 ≤ i) (h1 : i < 256) (w : World) : (Instr.index 131 (.agg (tabL.map (Value.int .u8)).toArray) (.int k i)).run Tryd.prog w = .ok (.int .u8 (rd tabL i)) w :=
 run_index_tab Tryd.underlying131 lenL Tryd.sizeOf5 Tryd.isAgg5 i h0 h1 w
theorem index_K (k : IntKind) (i : Int) (h0 : 0 ≤ i) (h1 : i < 256) (w : World) : (Instr.index 134 (.agg (tabK.map (Value.int .u32)).toArray) (.int k i)).run Tryd.prog w = .ok (.int .u32 (rd tabK i)) w :=
 run_index_tab Tryd.underlying134 lenK Tryd.sizeOf42 Tryd.isAgg42 i h0 h1 w
attribute [local irreducible] tabE tabL tabK
def gf_Mul.f (a0 : Int) (a1 : Int) : Option Int :=
 if a0 = 0 then some 0 else if a1 = 0 then some 0 else if 0 ≤ a0 then if a0 < 256 then if 0 ≤ a1 then if a1 < 256 then
  some (rd tabE ((rd tabL a0 + rd tabL a1) % 255)) else none else none else none else none
set_option maxHeartbeats 1000000 in
set_option maxRecDepth 100000 in
theorem gf_Mul.calls (a0 : Int) (a1 : Int) (r : Int) (w : World) (h : gf_Mul.f a0 a1 = some r) :
 Calls Tryd.prog 93 #[.int .u8 a0, .int .u8 a1] w fun e w' => e = .returned (.int .u8 r) ∧ Below w.heap.size w w' := by
 unfold gf_Mul.f at h
 by_cases h0 : a0 = 0
 ·rw [if_pos h0] at h
  obtain rfl := Option.some.inj h
  subst h0
  go_enter Tryd.func93, Tryd.ntmps93
  go_wp2
  go_ret
  exact ⟨rfl, Below.refl _ _⟩
 rw [if_neg h0] at h
 have e0 : (a0 == 0) = false := beq_eq_false_iff_ne.2 h0
 by_cases h1 : a1 = 0
 ·rw [if_pos h1] at h
  obtain rfl := Option.some.inj h
  subst h1
  clear h0
  go_enter Tryd.func93, Tryd.ntmps93
  go_wp2
  go_ret
  exact ⟨rfl, Below.refl _ _⟩
 rw [if_neg h1] at h
 have e1 : (a1 == 0) = false := beq_eq_false_iff_ne.2 h1
 by_cases c0 : 0 ≤ a0
 ·by_cases c1 : a0 < 256
  ·by_cases c2 : 0 ≤ a1
   ·by_cases c3 : a1 < 256
    ·rw [if_pos c0, if_pos c1, if_pos c2, if_pos c3] at h
     have x0 := index_L .u8 a0 c0 c1
     have x1 := index_L .u8 a1 c2 c3
     obtain ⟨r0, r0'⟩ := tabL_range a0
     obtain ⟨r1, r1'⟩ := tabL_range a1
     generalize rd tabL a0 = x at *
     generalize rd tabL a1 = y at *
     have x2 := index_E .i64 ((x + y) % 255) (by omega) (by omega)
     generalize rd tabE ((x + y) % 255) = z at *
     obtain rfl := Option.some.inj h
     have HB : Below w.heap.size w w ∧ w.heap.size ≤ w.heap.size := ⟨Below.refl _ _, Nat.le_refl _⟩
     have wx : IntKind.i64.wrap x = x := IntWalk.i64_in _ (by omega)
     have wy : IntKind.i64.wrap y = y := IntWalk.i64_in _ (by omega)
     have wz : IntKind.i64.wrap (x + y) = x + y := IntWalk.i64_in _ (by omega)
     have wm : (x + y).tmod 255 = (x + y) % 255 := Int.tmod_eq_emod_of_nonneg (by omega)
     clear h h0 h1 c0 c1 c2 c3
     go_enter Tryd.func93, Tryd.ntmps93
     go_wp2
     go_region_held3 (fun w' => Below w.heap.size w w' ∧ w.heap.size ≤ w'.heap.size) (first | assumption | exact ⟨(Below.refl _ _).drew, Nat.le_refl _⟩)
      (first
       | (go_at_call 89; refine (exps_below w.heap.size w _ (by assumption)).mono ?_; rintro e w' ⟨rfl, hb⟩)
       | (go_at_call 90; refine (logs_below w.heap.size w _ (by assumption)).mono ?_; rintro e w' ⟨rfl, hb⟩))
     all_goals
      go_wp2
      go_ret
      exact ⟨rfl, (by assumption : Below w.heap.size w _ ∧ w.heap.size ≤ _).1⟩
    ·rw [if_pos c0, if_pos c1, if_pos c2, if_neg c3] at h; cases h
   ·rw [if_pos c0, if_pos c1, if_neg c2] at h; cases h
  ·rw [if_pos c0, if_neg c1] at h; cases h
 ·rw [if_neg c0] at h; cases h
def gf_Inv.f (a0 : Int) : Option (Int × Bool) :=
 if a0 = 0 then some (0, false) else if 0 ≤ a0 then if a0 < 256 then some (rd tabE ((255 - rd tabL a0) % 255), true) else none else none
set_option maxHeartbeats 1000000 in
set_option maxRecDepth 100000 in
theorem gf_Inv.calls (a0 : Int) (r1 : Int) (r2 : Bool) (w : World) (h : gf_Inv.f a0 = some (r1, r2)) :
 Calls Tryd.prog 64 #[.int .u8 a0] w fun e w' => e = .returned (.tuple #[.int .u8 r1, .bool r2]) ∧ Below w.heap.size w w' := by
 unfold gf_Inv.f at h
 by_cases h0 : a0 = 0
 ·rw [if_pos h0] at h
  obtain ⟨rfl, rfl⟩ : 0 = r1 ∧ false = r2 := by simpa using h
  subst h0
  clear h
  go_enter Tryd.func64, Tryd.ntmps64
  go_wp2
  go_ret2
  exact ⟨rfl, Below.refl _ _⟩
 rw [if_neg h0] at h
 have e0 : (a0 == 0) = false := beq_eq_false_iff_ne.2 h0
 by_cases c0 : 0 ≤ a0
 ·by_cases c1 : a0 < 256
  ·rw [if_pos c0, if_pos c1] at h
   have x0 := index_L .u8 a0 c0 c1
   obtain ⟨r0, r0'⟩ := tabL_range a0
   generalize rd tabL a0 = x at *
   have x2 := index_E .i64 ((255 - x) % 255) (by omega) (by omega)
   have e3 : (255 - x) % 255 = -x % 255 := by omega
   rw [e3] at x2 h
   generalize rd tabE (-x % 255) = z at *
   obtain ⟨rfl, rfl⟩ : z = r1 ∧ true = r2 := by simpa using h
   have wx : IntKind.i64.wrap x = x := IntWalk.i64_in _ (by omega)
   have wz : IntKind.i64.wrap (255 - x) = 255 - x := IntWalk.i64_in _ (by omega)
   have wm : (255 - x).tmod 255 = (255 - x) % 255 := Int.tmod_eq_emod_of_nonneg (by omega)
   clear h h0 c0 c1 e3
   have HB : Below w.heap.size w w ∧ w.heap.size ≤ w.heap.size := ⟨Below.refl _ _, Nat.le_refl _⟩
   go_enter Tryd.func64, Tryd.ntmps64
   go_wp2_with (first
    | (go_at_call 89; refine (exps_below w.heap.size w _ (by assumption)).mono ?_; rintro e w' ⟨rfl, hb⟩)
    | (go_at_call 90; refine (logs_below w.heap.size w _ (by assumption)).mono ?_; rintro e w' ⟨rfl, hb⟩))
   go_ret2
   exact ⟨rfl, (by assumption : Below w.heap.size w _ ∧ w.heap.size ≤ _).1⟩
  ·rw [if_pos c0, if_neg c1] at h; cases h
 ·rw [if_neg c0] at h; cases h
end Go.Proofs.YtnfgiamdmfkcjaaDoor.Leaf
namespace Go.Proofs.YtnfgiamdmfkcjaaDoor.Leaf
open Go.RowKit Go.Proofs.YtnfgiamdmfkcjaaDoorW.PrintWords
attribute [local irreducible] tabE tabL tabK
def stepK (x c : Int) : Int := Go.bits .xor .u32 (rd tabK (Go.bits .xor .u8 (x % 256) c)) (x / 256)
theorem bits_u8_range (op : BinOp) (a b : Int) : 0 ≤ Go.bits op .u8 a b ∧ Go.bits op .u8 a b < 256 := by
 unfold Go.bits
 simp only [IntKind.wrap_u8]
 omega
theorem known_step (w0 w : World) (h : Below w0.heap.size w0 w) : Calls Tryd.prog 94 #[] w fun e w' => e = .returned (.agg (tabK.map (Value.int .u32)).toArray) ∧ Below w0.heap.size w0 w' :=
 (known_calls w).mono fun _ _ ⟨a, b⟩ => ⟨a, zE_ h b⟩
def sum_More.f (a0 : Int) (l1 : List Int) : Option Int := some (Go.bits .xor .u32 IntKind.u32.max (l1.foldl stepK (Go.bits .xor .u32 IntKind.u32.max a0)))
theorem fold_take (l : List Int) (x : Int) (i : Nat) (h : i < l.length) : (l.take (i + 1)).foldl stepK x = stepK ((l.take i).foldl stepK x) (rd l i) := by
 rw [List.take_succ_eq_append_getElem h, List.foldl_append]
 simp [rd, List.getD_eq_getElem?_getD, List.getElem?_eq_getElem h]
set_option maxHeartbeats 1000000 in
set_option maxRecDepth 100000 in
theorem sum_More.calls (a0 : Int) (A1 : Option Addr) (c1 : Nat) (l1 : List Int) (r : Int) (w : World) (hr1 : Kd.C (Kd.int .u8) w A1 l1.length l1) (hc1 : l1.length ≤ c1) (h : sum_More.f a0 l1 = some r) :
 Calls Tryd.prog 72 #[.int .u32 a0, .slice A1 l1.length c1] w fun e w' => e = .returned (.int .u32 r) ∧ Below w.heap.size w w' := by
 obtain rfl := Option.some.inj h
 clear h
 have hl : l1.length ≤ 9223372036854775807 := hr1.2.1
 have HR := Aside0.mk hr1
 have HX := Aside0.mk (fold_take l1)
 have HT := Aside0.mk (List.take_length (l := l1))
 have hs : IntKind.u32.signed = false := rfl
 clear hr1
 go_enter Tryd.func72, Tryd.ntmps72
 go_wp2
 go_loopw [5, 12] (fun x i wr => ∃ k : Nat, k ≤ l1.length ∧ i = .int .i64 k ∧ x = .int .u32 ((l1.take k).foldl stepK (Go.bits .xor .u32 (IntKind.u32.max) a0)) ∧ Below w.heap.size w wr) (fun _ i _ => l1.length - (intOf i).toNat)
 case atStart => exact ⟨0, Nat.zero_le _, rfl, rfl, Below.refl _ _⟩
 case round =>
  obtain ⟨k, hk, rfl, rfl, hB⟩ := hrel
  by_cases hlt : k < l1.length
  ·obtain ⟨ad, e1, hx⟩ := Kd.at_int (Kd.C_below HR.out hB) (k : Int) (by omega) (by omega)
   cases e1
   have he := HX.out (Go.bits .xor .u32 (IntKind.u32.max) a0) k hlt
   generalize rd l1 k = c at hx he
   generalize (l1.take k).foldl stepK (Go.bits .xor .u32 (IntKind.u32.max) a0) = x at he ⊢
   have hb := bits_u8_range .xor (x % 256) c
   have xi := index_K .u8 _ hb.1 hb.2
   clear hb
   have hB' := Aside0.mk hB
   have he' := Aside0.mk he
   clear hB he HR HX HT
   rw [show ((k : Int)).toNat = k from rfl] at hx
   go_wp2_with (first | (go_at_call 94; refine (known_step w _ hB'.out).mono ?_; rintro e w' ⟨rfl, hb⟩; have hB2 := Aside0.mk hb; clear hb))
   exact ⟨⟨k + 1, hlt, by rw [Int.natCast_add]; rfl, by rw [he'.out]; rfl, hB2.out⟩, by simp [intOf]; omega⟩
  ·have hk' : k = l1.length := by omega
   subst hk'
   rw [HT.out]
   go_wp2
   go_ret
   exact ⟨rfl, hB⟩
end Go.Proofs.YtnfgiamdmfkcjaaDoor.Leaf
namespace Go.Proofs.YtnfgiamdmfkcjaaDoor.Leaf
open Go.RowKit Go.Proofs.YtnfgiamdmfkcjaaDoorW.PrintWords Go.Proofs.YtnfgiamdmfkcjaaDoorW.PrintLast
def errW : Option Int → Value
 | none => .nilIface
 | some c => .iface 0 (.int .i64 c)
theorem errW_none : errW none = .nilIface := rfl
theorem errW_some (c : Int) : errW (some c) = .iface 0 (.int .i64 c) := rfl
theorem info5 : (Tryd.prog.info? 5).map (fun i => (i.zero, i.size, i.bytes)) = some (some (.int .u8 0), 1, 1) := by kernel_rfl
def cloneF (l0 : List Int) : Option (List Int) := (some (([] : List Int) : List Int)).bind fun y185 => (if y185.length + l0.length < 140737488355328 then (some (y185 ++ l0)) else (none))
set_option maxHeartbeats 8000000 in
set_option maxRecDepth 100000 in
theorem clone_some (ad0 : Addr) (c0 : Nat) (l0 : List Int) (r : List Int) (w : World) (hr0 : Kd.C (Kd.int .u8) w (some ad0) l0.length l0) (hc0 : l0.length ≤ c0) (h : cloneF l0 = some r) :
 Calls Tryd.prog 68 #[.slice (some ad0) l0.length c0] w fun e w' => ∃ v0_ : Value, e = .returned (v0_) ∧ Kd.R (Kd.int .u8) 5 w' w.heap.size (fun _ => True) v0_ r ∧ Below w.heap.size w w' := by
 have HR0 := Aside0.mk hr0
 have HC0 := Aside0.mk hc0
 clear hr0 hc0
 have HB := Aside0.mk (Below.refl w.heap.size w)
 have H : ((some (([] : List Int) : List Int)).bind fun y185 => (if y185.length + l0.length < 140737488355328 then (some (y185 ++ l0)) else (none))) = some r := h
 clear h
 obtain ⟨y185, hy185⟩ : ∃ y_ : List Int, y_ = (([] : List Int)) := ⟨_, rfl⟩
 replace H : (if y185.length + l0.length < 140737488355328 then (some (y185 ++ l0)) else (none)) = some r := by first | (rw [hy185]; with_reducible exact H) | (have H2_ := (Option.bind_some _ _).symm.trans H; rw [hy185]; with_reducible exact H2_) | (have H2_ := (Option.bind_some _ _).symm.trans H; with_reducible exact H2_) | with_reducible exact H | (rw [hy185]; exact H) | exact H
 have Ny185 := Aside0.mk hy185
 clear hy185
 by_cases c2 : y185.length + l0.length < 140737488355328
 ·rw [if_pos c2] at H
  have LMc2 := Aside0.mk c2
  clear c2
  obtain ⟨y188, hy188⟩ : ∃ y_ : List Int, y_ = (y185 ++ l0) := ⟨_, rfl⟩
  replace H : (some y188) = some r := by first | (rw [hy188]; with_reducible exact H) | (have H2_ := (Option.bind_some _ _).symm.trans H; rw [hy188]; with_reducible exact H2_) | (have H2_ := (Option.bind_some _ _).symm.trans H; with_reducible exact H2_) | with_reducible exact H | (rw [hy188]; exact H) | exact H
  have Ny188 := Aside0.mk hy188
  clear hy188
  obtain rfl := Option.some.inj H
  have hq := fun (w : World) => Lib.run_eql_slice_nil (P := Tryd.prog) w 22 5 (some ad0) l0.length c0 0 0 Tryd.underlying22
  go_enter Tryd.func68, Tryd.ntmps68
  go_wp2_with (first | ((with_reducible refine gate_dst (N := 5) rfl ?_); refine Kd.R_lit (Kd.int .u8) _ 5 ?hg (N := 5) ?hd (xs := ([] : List Int)) (inner := []) (ok := fun _ => True) (okp := fun _ => True) ?hr ?hp (fun _ hk => hk) trivial (Below.refl _ _) (Nat.le_refl _) (by simp) ?_; (case hd => rfl); (case hg => rfl); (case hr => first | (go_simp; done) | (go_simp; rfl)); (case hp => exact (Reps.none _ _)); intro v186 w3 ho4 hb hg_ hnew_; clear hg_ hnew_; (first | rw [← Ny185.out] at ho4 | (simp only [Int.reduceToNat] at ho4; rw [← Ny185.out] at ho4)); have n0_ := Aside0.mk (Kd.R_lower ho4 (zF_ (by repeat (first | (with_reducible first | exact HB.out | apply zC_ | apply zA_ | apply zB_) | exact HB.out)))); have n1_ := Aside0.mk (zE_ (by repeat (first | (with_reducible first | exact HB.out | apply zC_ | apply zA_ | apply zB_) | exact HB.out)) hb); clear HB; have HO187 := n0_; have HB := n1_; clear n0_ n1_; clear hb ho4) | ((with_reducible refine gate_builtin (b := .append) (xs := #[.tmp 5, .tmp 6]) rfl ?_); at_builtin; refine Kd.R_append_rows (Kd.int .u8) (w0 := w) w.heap.size rfl (.tmp 5) (.tmp 6) 22 5 (.int .u8 0) 1 rfl Tryd.underlying22 info5 rfl (by decide) (by omega) v186 y185 l0 _ _ _ (fun _ => True) (fun _ => False) rfl rfl ?aO ?aR (fun _ _ h => h) (fun _ h => h.elim) ?aF ?aB ?aS ?aL ?_; (case aR => repeat (first | exact (Kd.C_below HR0.out HB.out) | (with_reducible refine Kd.C_alloc ?_ _) | (with_reducible refine Kd.C_drewN ?_ _) | (with_reducible refine Kd.C_drew ?_))); (case aB => exact (by repeat (first | (with_reducible first | exact HB.out | apply zC_ | apply zA_ | apply zB_) | exact HB.out))); (case aF => exact (fun _ _ => trivial)); (case aO => exact (by (with_reducible repeat (first | apply Kd.R_alloc | apply Kd.R_drewN | apply Kd.R_drew)); exact HO187.out)); (case aS => exact (zF_ (by repeat (first | (with_reducible first | exact HB.out | apply zC_ | apply zA_ | apply zB_) | exact HB.out)))); (case aL => have := LMc2.out; omega); intro v189 w5 ho hb hg hat; rw [← Ny188.out] at ho; have n0_ := Aside0.mk (hb); have n1_ := Aside0.mk (ho); clear HB; clear HO187; have HB := n0_; have HO190 := n1_; clear n0_ n1_; clear ho hb hg hat))
  go_ret
  exact ⟨_, by first | rfl | (simp [errW_none, errW_some] <;> rfl) | (simp [*, errW_none, errW_some] <;> rfl), by (with_reducible repeat (first | apply Kd.R_alloc | apply Kd.R_drewN | apply Kd.R_drew)); exact HO190.out, by repeat (first | (with_reducible first | exact HB.out | apply zC_ | apply zA_ | apply zB_) | exact HB.out)⟩
 ·rw [if_neg c2] at H
  exact absurd H (by simp)
def slices_Clone_byte_byte.f (l0 : List Int) : Option (List Int) := if l0.length < 140737488355328 then some l0 else none
theorem cloneF_eq (l0 : List Int) : cloneF l0 = slices_Clone_byte_byte.f l0 := by simp [cloneF, slices_Clone_byte_byte.f]
set_option maxHeartbeats 8000000 in
set_option maxRecDepth 100000 in
theorem slices_Clone_byte_byte.calls (A0 : Option Addr) (c0 : Nat) (l0 : List Int) (r : List Int) (w : World) (hr0 : Kd.C (Kd.int .u8) w A0 l0.length l0) (hc0 : l0.length ≤ c0) (h : slices_Clone_byte_byte.f l0 = some r) :
 Calls Tryd.prog 68 #[.slice A0 l0.length c0] w fun e w' => ∃ v0_ : Value, e = .returned (v0_) ∧ Kd.R (Kd.int .u8) 5 w' w.heap.size (fun _ => True) v0_ r ∧ Below w.heap.size w w' := by
 cases A0 with
 | some ad0 => exact clone_some ad0 c0 l0 r w hr0 hc0 (by rw [cloneF_eq]; exact h)
 | none =>
  have hl : l0 = [] := by
   rcases Nat.eq_zero_or_pos l0.length with h0 | h0
   ·exact List.length_eq_zero_iff.1 h0
   ·obtain ⟨ad, e, _⟩ := hr0.2.2 h0
    cases e
  subst hl
  obtain rfl : [] = r := by simpa [slices_Clone_byte_byte.f] using h
  clear h hr0 hc0
  have hq := fun (w : World) => Lib.run_eql_slice_nil (P := Tryd.prog) w 22 5 none 0 c0 0 0 Tryd.underlying22
  go_enter Tryd.func68, Tryd.ntmps68
  go_wp2
  go_ret
  exact ⟨_, rfl, Kd.R_nil _ _ _ _ _, Below.refl _ _⟩
abbrev KR : Kd (List Int) := Kd.slice 5 (Kd.int .u8)
theorem rows_at {w : World} {A : Option Addr} {n : Nat} {xs : List (List Int)} (h : Kd.C KR w A n xs) (j : Nat) (hj : j < n) :
 ∃ ad A' c', A = some ad ∧ w.cell? (ad.add j) = some (.slice A' (xs.getD j []).length c') ∧ (xs.getD j []).length ≤ c' ∧ Kd.C (Kd.int .u8) w A' (xs.getD j []).length (xs.getD j []) := by
 obtain ⟨ad, e, hc⟩ := h.2.2 (by omega)
 have hl : j < xs.length := by have := h.1; omega
 obtain ⟨c, hs, ⟨A', c', rfl, h1, h2⟩, hcell⟩ := hc j _ (List.getElem?_eq_getElem hl)
 have hx : xs.getD j [] = xs[j] := by rw [List.getD_eq_getElem?_getD, List.getElem?_eq_getElem hl]; rfl
 rw [hx]
 refine ⟨ad, A', c', e, ?_, h1, h2⟩
 have := hcell 0 _ rfl
 simpa [Kd.slice] using this
/-- The first index at which p holds; -1 if none. -/
def firstP (p : Nat → Bool) (n : Nat) : Int := match (List.range n).find? p with | some j => (j : Int) | none => -1
theorem firstP_hit (p : Nat → Bool) (n k : Nat) (hk : k < n) (h : p k = true) (hb : ∀ j, j < k → p j = false) : firstP p n = k := by
 unfold firstP
 have : (List.range n).find? p = some k := by
  rw [List.find?_range_eq_some]
  exact ⟨h, List.mem_range.2 hk, fun j hj => by simp [hb j hj]⟩
 rw [this]
theorem firstP_miss (p : Nat → Bool) (n : Nat) (hb : ∀ j, j < n → p j = false) : firstP p n = -1 := by
 unfold firstP
 have : (List.range n).find? p = none := by
  rw [List.find?_eq_none]
  intro j hj
  simp [hb j (List.mem_range.1 hj)]
 rw [this]
theorem firstP_nonneg (p : Nat → Bool) (n : Nat) : decide (0 ≤ firstP p n) = (List.range n).any p := by
 unfold firstP
 cases h : (List.range n).find? p with
 | none =>
  rw [List.find?_eq_none] at h
  symm
  simp only [show ¬ (0 : Int) ≤ -1 by decide, decide_false]
  rw [List.any_eq_false]
  intro x hx
  have := h x hx
  simpa using this
 | some j =>
  simp only [Int.natCast_nonneg, decide_true]
  symm
  rw [List.any_eq_true]
  exact ⟨j, List.mem_of_find?_eq_some h, by simpa using List.find?_some h⟩
set_option maxHeartbeats 2000000 in
set_option maxRecDepth 100000 in
theorem indexFunc_calls (p : Nat → Bool) (g : Nat) (lb : Array Value) (eg : ∀ args w, (callFunc g args).run Tryd.prog w = .ok (.enter g args) w) (A : Option Addr) (n c : Nat) (vs : Nat → Value) (w : World)
 (hbig : n ≤ 9223372036854775807) (hc : 0 < n → ∃ ad, A = some ad ∧ ∀ j, j < n → w.cell? (ad.add j) = some (vs j)) (hv : ∀ j, j < n → (vs j).oneCell' = true)
 (hp : ∀ W j, j < n → Below w.heap.size w W → Calls Tryd.prog g (#[vs j] ++ lb) W fun e w' => e = .returned (.bool (p j)) ∧ Below w.heap.size w w') :
 Calls Tryd.prog 91 #[.slice A n c, .func (.func g) #[] lb] w fun e w' => e = .returned (.int .i64 (firstP p n)) ∧ Below w.heap.size w w' := by
 have HC := Aside0.mk hc
 have HP := Aside0.mk hp
 clear hc hp
 go_enter Tryd.func91, Tryd.ntmps91
 go_wp2
 go_loopg [5, 8] n (fun gg _ s8 wr => ∃ kk : Nat, kk ≤ n ∧ n - kk ≤ gg ∧ s8 = .int .i64 kk ∧ Aside0 (Below w.heap.size w wr) ∧ Aside0 (∀ j, j < kk → p j = false))
 case atStart => exact ⟨0, Nat.zero_le _, by omega, rfl, ⟨Below.refl _ w⟩, ⟨fun j hj => absurd hj (Nat.not_lt_zero _)⟩⟩
 case round =>
  obtain ⟨kk, hkk, hg, rfl, BW, A0⟩ := hrel
  by_cases hlt : kk < n
  ·have hltz : (kk : Int) < (n : Int) := by omega
   obtain ⟨ad, rfl, hcell⟩ := HC.out (by omega)
   have l2 := zD_ BW.out (hcell kk hlt)
   have hcall := HP.out wr kk hlt BW.out
   have hone := hv kk hlt
   clear hcell HC
   generalize vs kk = y at l2 hcall hone
   cases hq : p kk with
   | true =>
    rw [hq] at hcall
    go_wp2_with fail
    refine hcall.mono ?_
    rintro e w' ⟨rfl, hb'⟩
    clear hcall
    go_wp2
    go_ret
    refine ⟨?_, hb'⟩
    rw [firstP_hit p n kk hlt hq A0.out]
    rfl
   | false =>
    rw [hq] at hcall
    go_wp2_with fail
    refine hcall.mono ?_
    rintro e w' ⟨rfl, hb'⟩
    clear hcall
    go_wp2
    go_roundg (n - (kk + 1))
    case measure => omega
    case rel =>
     refine ⟨kk + 1, by omega, by omega, by go_num, ⟨hb'⟩, ⟨fun j hj => ?_⟩⟩
     by_cases e : j = kk
     ·subst e
      exact hq
     ·exact A0.out j (by omega)
  ·have hltz : ¬ (kk : Int) < (n : Int) := by omega
   have : kk = n := by omega
   subst this
   go_wp2
   go_ret
   refine ⟨?_, BW.out⟩
   rw [firstP_miss p kk A0.out]
   rfl
theorem enters_id {f : FuncId} {fn : Func} {c : Code} (hf : Tryd.prog.funcs[f]? = some fn) (hname : (fn.name == "runtime.NumGoroutine") = false) (hb : fn.body = some c) : ∀ args w, (callFunc f args).run Tryd.prog w = .ok (.enter f args) w :=
 fun args w => enters_of hf hname hb args w
set_option maxHeartbeats 2000000 in
set_option maxRecDepth 100000 in
theorem containsFunc_calls (p : Nat → Bool) (g : Nat) (lb : Array Value) (eg : ∀ args w, (callFunc g args).run Tryd.prog w = .ok (.enter g args) w) (A : Option Addr) (n c : Nat) (vs : Nat → Value) (w : World)
 (hbig : n ≤ 9223372036854775807) (hc : 0 < n → ∃ ad, A = some ad ∧ ∀ j, j < n → w.cell? (ad.add j) = some (vs j)) (hv : ∀ j, j < n → (vs j).oneCell' = true)
 (hp : ∀ W j, j < n → Below w.heap.size w W → Calls Tryd.prog g (#[vs j] ++ lb) W fun e w' => e = .returned (.bool (p j)) ∧ Below w.heap.size w w') :
 Calls Tryd.prog 65 #[.slice A n c, .func (.func g) #[] lb] w fun e w' => e = .returned (.bool ((List.range n).any p)) ∧ Below w.heap.size w w' := by
 rw [← firstP_nonneg]
 have H := Aside0.mk (indexFunc_calls p g lb eg A n c vs w hbig hc hv hp)
 clear hc hv hp eg
 go_enter Tryd.func65, Tryd.ntmps65
 go_wp2_with (go_at_call 91; refine H.out.mono ?_; rintro e w' ⟨rfl, hb⟩)
 go_ret
 exact ⟨rfl, hb⟩
set_option maxHeartbeats 2000000 in
set_option maxRecDepth 100000 in
theorem even1_calls (A A' A0' : Option Addr) (ad : Addr) (n c n' c' n0' c0' B : Nat) (W : World) (h0 : 0 < n) (hA : A = some ad) (hB : W.cell? ⟨B, 0, none⟩ = some (.slice A n c)) (hc : W.cell? ad = some (.slice A0' n0' c0')) :
 Calls Tryd.prog 66 #[.slice A' n' c', .pointer (some ⟨B, 0, none⟩)] W fun e w' => e = .returned (.bool ((n' : Int) != (n0' : Int))) ∧ w' = W := by
 subst hA
 have hn : (0 : Int) < (n : Int) := by omega
 go_enter Tryd.func66, Tryd.ntmps66
 go_wp2
 go_ret
 exact ⟨rfl, rfl⟩
/-- The row's cells, and what they are. -/
theorem rows_vals {w : World} {A : Option Addr} {n : Nat} {xs : List (List Int)} (h : Kd.C KR w A n xs) : ∃ (As : Nat → Option Addr) (cs : Nat → Nat), (0 < n → ∃ ad, A = some ad ∧ ∀ j, j < n → w.cell? (ad.add j) = some (.slice (As j) (xs.getD j []).length (cs j))) ∧
 ∀ j, j < n → (xs.getD j []).length ≤ cs j ∧ Kd.C (Kd.int .u8) w (As j) (xs.getD j []).length (xs.getD j []) := by
 have h1 : ∀ j, ∃ (p : Option Addr × Nat), j < n → ∃ ad, A = some ad ∧ w.cell? (ad.add j) = some (.slice p.1 (xs.getD j []).length p.2) ∧ (xs.getD j []).length ≤ p.2 ∧ Kd.C (Kd.int .u8) w p.1 (xs.getD j []).length (xs.getD j []) := by
  intro j
  by_cases hj : j < n
  ·obtain ⟨ad, A', c', h1, h2, h3, h4⟩ := rows_at h j hj
   exact ⟨(A', c'), fun _ => ⟨ad, h1, h2, h3, h4⟩⟩
  ·exact ⟨(none, 0), fun h => absurd h hj⟩
 refine ⟨fun j => (Classical.choose (h1 j)).1, fun j => (Classical.choose (h1 j)).2, fun h0 => ?_, fun j hj => ?_⟩
 ·obtain ⟨ad, e, _⟩ := Classical.choose_spec (h1 0) h0
  refine ⟨ad, e, fun j hj => ?_⟩
  obtain ⟨ad', e', h2, _⟩ := Classical.choose_spec (h1 j) hj
  rw [e] at e'
  cases e'
  exact h2
 ·obtain ⟨ad', e', _, h3⟩ := Classical.choose_spec (h1 j) hj
  exact h3
def unevenAt (l0 : List (List Int)) (j : Nat) : Bool := ((l0.getD j []).length : Int) != ((l0.getD 0 []).length : Int)
def code_even.f (l0 : List (List Int)) (a1 : Int) : Option Bool := some (((l0.length : Int) == a1) && decide (a1 > 0) && !((List.range l0.length).any (unevenAt l0)))
set_option maxHeartbeats 2000000 in
set_option maxRecDepth 100000 in
theorem code_even.calls (A0 : Option Addr) (c0 : Nat) (l0 : List (List Int)) (a1 : Int) (r : Bool) (w : World) (hr0 : Kd.C KR w A0 l0.length l0) (hc0 : l0.length ≤ c0) (h : code_even.f l0 a1 = some r) :
 Calls Tryd.prog 35 #[.slice A0 l0.length c0, .int .i64 a1] w fun e w' => e = .returned (.bool r) ∧ Below w.heap.size w w' := by
 obtain rfl := Option.some.inj h
 clear h
 have hl : l0.length ≤ 9223372036854775807 := hr0.2.1
 have eg := enters_id Tryd.func66 (by kernel_rfl) rfl
 by_cases h1 : (l0.length : Int) = a1
 ·have e1 : ((l0.length : Int) == a1) = true := beq_iff_eq.2 h1
  by_cases h2 : a1 > 0
  ·have e2 : decide (0 < a1) = true := decide_eq_true h2
   have H : ∀ W : World, W.heap.size = w.heap.size + 1 → Below w.heap.size w W → W.cell? ⟨w.heap.size, 0, none⟩ = some (.slice A0 l0.length c0) →
    Calls Tryd.prog 65 #[.slice A0 l0.length c0, .func (.func 66) #[] #[.pointer (some ⟨w.heap.size, 0, none⟩)]] W fun e w' => e = .returned (.bool ((List.range l0.length).any (unevenAt l0))) ∧ Below w.heap.size w w' := by
    intro W hsz hB hbox
    obtain ⟨As, cs, hcell, hrow⟩ := rows_vals hr0
    have h0 : 0 < l0.length := by omega
    obtain ⟨ad, e, hce⟩ := hcell h0
    refine (containsFunc_calls (unevenAt l0) 66 #[.pointer (some ⟨w.heap.size, 0, none⟩)] eg A0 l0.length c0 (fun j => .slice (As j) (l0.getD j []).length (cs j)) W hl (fun _ => ⟨ad, e, fun j hj => zD_ hB (hce j hj)⟩) (fun j _ => rfl) ?_).mono ?_
    ·intro W2 j hj hB2
     have hb2 : W2.cell? ⟨w.heap.size, 0, none⟩ = some (.slice A0 l0.length c0) := zD_ hB2 hbox
     have hz : W2.cell? ad = some (.slice (As 0) (l0.getD 0 []).length (cs 0)) := by
      have := zD_ hB2 (zD_ hB (hce 0 h0))
      rwa [Addr.add_zero'] at this
     exact (even1_calls A0 (As j) (As 0) ad l0.length c0 _ _ _ _ w.heap.size W2 h0 e hb2 hz).mono fun _ _ ⟨a, b⟩ => ⟨a, by rw [b]; exact hB2⟩
    ·rintro e w' ⟨rfl, hb⟩
     exact ⟨rfl, zE_ hB hb⟩
   have HC := Aside0.mk H
   clear H hr0 eg
   rw [e1, decide_eq_true h2]
   generalize (List.range l0.length).any (unevenAt l0) = b at HC ⊢
   clear h1 h2
   go_enter Tryd.func35, Tryd.ntmps35
   go_wp2_with (go_at_call 65; refine (HC.out _ ?s1 ?s2 ?s3).mono ?_; (case s1 => simp); (case s2 => exact (Below.refl _ _).alloc (Nat.le_refl _) _); (case s3 => simp); rintro e w' ⟨rfl, hb⟩)
   go_ret
   exact ⟨rfl, hb⟩
  ·have e2 : decide (0 < a1) = false := decide_eq_false h2
   have e3 : decide (a1 > 0) = false := decide_eq_false h2
   rw [e1, e3]
   clear eg hr0 h1 h2
   go_enter Tryd.func35, Tryd.ntmps35
   go_wp2
   go_ret
   exact ⟨rfl, (Below.refl _ _).alloc (Nat.le_refl _) _⟩
 ·have e1 : ((l0.length : Int) == a1) = false := beq_eq_false_iff_ne.2 h1
  rw [e1]
  clear eg hr0 h1
  go_enter Tryd.func35, Tryd.ntmps35
  go_wp2
  go_ret
  exact ⟨rfl, (Below.refl _ _).alloc (Nat.le_refl _) _⟩
def slices_Equal_byte_byte.f (l0 : List Int) (l1 : List Int) : Option Bool := some (l0 == l1)
def sum_Of.f (l0 : List Int) : Option Int := sum_More.f 0 l0
set_option maxHeartbeats 1000000 in
theorem sum_Of.calls (A0 : Option Addr) (c0 : Nat) (l0 : List Int) (r : Int) (w : World) (hr0 : Kd.C (Kd.int .u8) w A0 l0.length l0) (hc0 : l0.length ≤ c0) (h : sum_Of.f l0 = some r) :
 Calls Tryd.prog 39 #[.slice A0 l0.length c0] w fun e w' => e = .returned (.int .u32 r) ∧ Below w.heap.size w w' := by
 have H := Aside0.mk (sum_More.calls 0 A0 c0 l0 r w hr0 hc0 h)
 clear hr0 h
 go_enter Tryd.func39, Tryd.ntmps39
 go_wp2_with (go_at_call 72; refine H.out.mono ?_; rintro e w' ⟨rfl, hb⟩)
 go_ret
 exact ⟨rfl, hb⟩
end Go.Proofs.YtnfgiamdmfkcjaaDoor.Leaf
namespace Go.Proofs.YtnfgiamdmfkcjaaDoor.P
open Go.Proofs.YtnfgiamdmfkcjaaDoor.Leaf
open Go.RowKit Go.Proofs.YtnfgiamdmfkcjaaDoorW.PrintWords Go.Proofs.YtnfgiamdmfkcjaaDoorW.PrintLast Go.Proofs.YtnfgiamdmfkcjaaDoorW.PrintMore
attribute [local go_sem] max2_int min2_int max_two min_two max_three min_three max_four min_four
def errW : Option Int → Value
 | none => .nilIface
 | some c => .iface 0 (.int .i64 c)
theorem errW_none : errW none = .nilIface := rfl
theorem errW_some (c : Int) : errW (some c) = .iface 0 (.int .i64 c) := rfl
theorem info3 : (Tryd.prog.info? 3).map (fun i => (i.zero, i.size, i.bytes)) = some (some (.int .i64 0), 1, 8) := by kernel_rfl
theorem info4 : (Tryd.prog.info? 4).map (fun i => (i.zero, i.size, i.bytes)) = some (some (.bool false), 1, 1) := by kernel_rfl
theorem info5 : (Tryd.prog.info? 5).map (fun i => (i.zero, i.size, i.bytes)) = some (some (.int .u8 0), 1, 1) := by kernel_rfl
theorem info22 : (Tryd.prog.info? 22).map (fun i => (i.zero, i.size, i.bytes)) = some (some (.slice none 0 0), 1, 24) := by kernel_rfl
theorem info44 : (Tryd.prog.info? 44).map (fun i => (i.zero, i.size, i.bytes)) = some (some (.agg #[(.int .i64 0), (.slice none 0 0), (.int .u32 0)]), 3, 40) := by kernel_rfl
def rd_L1 (xs : List (List Int)) (i : Int) : (List Int) := xs.getD i.toNat ([] : List Int)
theorem at_L1 {w : World} {A : Option Addr} {n : Nat} {xs : List (List Int)} (h : Kd.C (Kd.slice 5 (Kd.int .u8)) w A n xs) (i : Int) (h0 : 0 ≤ i) (h1 : i < n) : ∃ ad A0 c0, A = some ad ∧ w.cell? (ad.add i.toNat) = some (.slice A0 (rd_L1 xs i).length c0) ∧ (rd_L1 xs i).length ≤ c0 ∧ (Kd.int .u8).C w A0 (rd_L1 xs i).length (rd_L1 xs i) := by
 obtain ⟨ad, c, e, _, hK, hc0⟩ := Kd.C_get h ([] : List Int) i h0 h1
 have hc : ∀ j u, c[j]? = some u → w.cell? (ad.add (i.toNat * 1 + j)) = some u := hc0
 obtain ⟨A0, c0, rfl, l0, g0⟩ := hK
 exact ⟨ad, A0, c0, e, by have hq := hc 0 _ rfl; rwa [Nat.mul_one, Nat.add_zero] at hq, l0, g0⟩
structure S44 where
 f0 : Int
 f1 : (List Int)
 f2 : Int
def z44 : S44 := ⟨(0 : Int), ([] : List Int), (0 : Int)⟩
def k44 : Kd S44 := Kd.iso (Kd.pair (Kd.int .i64) (Kd.pair (Kd.slice 5 (Kd.int .u8)) (Kd.int .u32))) (fun x : S44 => (x.f0, x.f1, x.f2))
theorem k44_open {w : World} {x : S44} {cs : List Value} (h : k44.K w x cs) : ∃ A1 c1, cs = [.int .i64 x.f0, .slice A1 x.f1.length c1, .int .u32 x.f2] ∧ x.f1.length ≤ c1 ∧ (Kd.int .u8).C w A1 x.f1.length x.f1 := by
 obtain ⟨_, _, rfl, rfl, ⟨_, _, rfl, ⟨A1, c1, rfl, l1, g1⟩, rfl⟩⟩ := h
 exact ⟨A1, c1, rfl, l1, g1⟩
theorem k44_mk (w : World) (x : S44) {A1 : Option Addr} {c1 : Nat} (l1 : x.f1.length ≤ c1) (g1 : (Kd.int .u8).C w A1 x.f1.length x.f1) : k44.K w x [.int .i64 x.f0, .slice A1 x.f1.length c1, .int .u32 x.f2] := ⟨[.int .i64 x.f0], [.slice A1 x.f1.length c1, .int .u32 x.f2], rfl, rfl, ⟨[.slice A1 x.f1.length c1], [.int .u32 x.f2], rfl, ⟨A1, c1, rfl, l1, g1⟩, rfl⟩⟩
theorem k44_openF {W : World} {ok : Nat → Prop} {x : S44} {cs : List Value} (h : Kd.FK k44 W ok x cs) : ∃ A1 c1, cs = [.int .i64 x.f0, .slice A1 x.f1.length c1, .int .u32 x.f2] ∧ x.f1.length ≤ c1 ∧ Kd.F (Kd.int .u8) W ok A1 x.f1.length x.f1 := by
 obtain ⟨A1, c1, rfl, l1, _⟩ := k44_open (Kd.FK_now h)
 exact ⟨A1, c1, rfl, l1, (fun W' hW => by obtain ⟨A1_, c1_, he, l1_, g1_⟩ := k44_open (h W' hW); injection (Option.some.inj (show some (Value.slice A1 x.f1.length c1) = some (Value.slice A1_ x.f1.length c1_) from congrArg (fun l => l[1]?) he)) with ha_ _ _; rw [ha_]; exact g1_)⟩
theorem k44_mkF (W : World) (ok : Nat → Prop) (x : S44) {A1 : Option Addr} {c1 : Nat} (l1 : x.f1.length ≤ c1) (g1 : Kd.F (Kd.int .u8) W ok A1 x.f1.length x.f1) : Kd.FK k44 W ok x [.int .i64 x.f0, .slice A1 x.f1.length c1, .int .u32 x.f2] := fun W2 hW => k44_mk W2 x l1 (g1 W2 hW)
def rd_T44 (xs : List S44) (i : Int) : S44 := xs.getD i.toNat z44
theorem at_T44 {w : World} {A : Option Addr} {n : Nat} {xs : List S44} (h : Kd.C k44 w A n xs) (i : Int) (h0 : 0 ≤ i) (h1 : i < n) : ∃ ad A1 c1, A = some ad ∧ w.cell? (ad.add (i.toNat * 3)) = some (.int .i64 (rd_T44 xs i).f0) ∧ w.cell? ⟨(ad.add (i.toNat * 3)).block, (ad.add (i.toNat * 3)).off + 1, none⟩ = some (.slice A1 (rd_T44 xs i).f1.length c1) ∧ w.cell? ⟨(ad.add (i.toNat * 3)).block, (ad.add (i.toNat * 3)).off + 2, none⟩ = some (.int .u32 (rd_T44 xs i).f2) ∧ (rd_T44 xs i).f1.length ≤ c1 ∧ (Kd.int .u8).C w A1 (rd_T44 xs i).f1.length (rd_T44 xs i).f1 := by
 obtain ⟨ad, c, e, _, hK, hc0⟩ := Kd.C_get h z44 i h0 h1
 have hc : ∀ j u, c[j]? = some u → w.cell? (ad.add (i.toNat * 3 + j)) = some u := hc0
 obtain ⟨A1, c1, rfl, l1, g1⟩ := k44_open hK
 exact ⟨ad, A1, c1, e, hc 0 _ rfl, by rw [← add_field _ _ 1 (by omega)]; exact hc 1 _ rfl, by rw [← add_field _ _ 2 (by omega)]; exact hc 2 _ rfl, l1, g1⟩
def mooringref03_Code.f (a0 : Int) (a1 : Int) : Option (Bool) := if a0 ≥ 1 then (if a1 ≥ 1 then (if a0 ≤ 254 then (some (decide (a1 ≤ (wrap64 (255 - a0))))) else (some false)) else (some false)) else (some false)
set_option maxHeartbeats 8000000 in
set_option maxRecDepth 100000 in
theorem mooringref03_Code.calls (a0 : Int) (a1 : Int) (r : Bool) (w : World) (h : mooringref03_Code.f a0 a1 = some r) :
 Calls Tryd.prog 13 #[.int .i64 a0, .int .i64 a1] w fun e w' => e = .returned (.bool r) ∧ Drawn0 w w' := by
 have H : (if a0 ≥ 1 then (if a1 ≥ 1 then (if a0 ≤ 254 then (some (decide (a1 ≤ (wrap64 (255 - a0))))) else (some false)) else (some false)) else (some false)) = some r := h
 clear h
 by_cases c3 : a0 ≥ 1
 ·rw [if_pos c3] at H
  have c3b0 : decide (1 ≤ a0) = true := decide_eq_true c3
  clear c3
  by_cases c4 : a1 ≥ 1
  ·rw [if_pos c4] at H
   have c4b0 : decide (1 ≤ a1) = true := decide_eq_true c4
   clear c4
   by_cases c5 : a0 ≤ 254
   ·rw [if_pos c5] at H
    have c5b0 : decide (a0 ≤ 254) = true := decide_eq_true c5
    clear c5
    obtain rfl := Option.some.inj H
    go_enter Tryd.func13, Tryd.ntmps13
    go_wp2
    go_ret
    exact ⟨by first | rfl | (simp; done) | (simp [*]; done), by repeat (first | exact Drawn0.refl _ | apply Drawn0.step)⟩
   ·rw [if_neg c5] at H
    have c5b0 : decide (a0 ≤ 254) = false := decide_eq_false c5
    clear c5
    obtain rfl := Option.some.inj H
    go_enter Tryd.func13, Tryd.ntmps13
    go_wp2
    go_ret
    exact ⟨by first | rfl | (simp; done) | (simp [*]; done), by repeat (first | exact Drawn0.refl _ | apply Drawn0.step)⟩
  ·rw [if_neg c4] at H
   have c4b0 : decide (1 ≤ a1) = false := decide_eq_false c4
   clear c4
   obtain rfl := Option.some.inj H
   go_enter Tryd.func13, Tryd.ntmps13
   go_wp2
   go_ret
   exact ⟨by first | rfl | (simp; done) | (simp [*]; done), by repeat (first | exact Drawn0.refl _ | apply Drawn0.step)⟩
 ·rw [if_neg c3] at H
  have c3b0 : decide (1 ≤ a0) = false := decide_eq_false c3
  clear c3
  obtain rfl := Option.some.inj H
  go_enter Tryd.func13, Tryd.ntmps13
  go_wp2
  go_ret
  exact ⟨by first | rfl | (simp; done) | (simp [*]; done), by repeat (first | exact Drawn0.refl _ | apply Drawn0.step)⟩
def mooringlaw23_light.f (a0 : Int) (a1 : Int) : Option (Bool) := (mooringref03_Code.f a0 a1).bind fun t101 => (if t101 = true then (some (decide ((wrap64 (a0 * (wrap64 (a0 + a1)))) ≤ 200))) else (some true))
set_option maxHeartbeats 8000000 in
set_option maxRecDepth 100000 in
theorem mooringlaw23_light.calls (a0 : Int) (a1 : Int) (r : Bool) (w : World) (h : mooringlaw23_light.f a0 a1 = some r) :
 Calls Tryd.prog 16 #[.int .i64 a0, .int .i64 a1] w fun e w' => e = .returned (.bool r) ∧ Drawn0 w w' := by
 have H : ((mooringref03_Code.f a0 a1).bind fun t101 => (if t101 = true then (some (decide ((wrap64 (a0 * (wrap64 (a0 + a1)))) ≤ 200))) else (some true))) = some r := h
 clear h
 replace H := Option.bind_eq_some_iff.mp H
 obtain ⟨t101, A30, H⟩ := H
 replace H : (if t101 = true then (some (decide ((wrap64 (a0 * (wrap64 (a0 + a1)))) ≤ 200))) else (some true)) = some r := H
 have A3 := Aside0.mk A30
 clear A30
 by_cases c4 : t101 = true
 ·subst c4
  have H1 : (some (decide ((wrap64 (a0 * (wrap64 (a0 + a1)))) ≤ 200))) = some r := by rw [if_pos rfl] at H; exact H
  clear H
  have H := H1
  clear H1
  obtain rfl := Option.some.inj H
  go_enter Tryd.func16, Tryd.ntmps16
  go_wp2_with (first | ((with_reducible refine gate_callee (f := 13) rfl ?_); refine goesL_ (some 7) rfl rfl Tryd.func13 (by kernel_rfl) rfl #[.int .i64 a0, .int .i64 a1] rfl (by (try simp only [List.map_toArray, List.map_cons, List.map_nil]); first | done | rfl | (simp only [List.length_drop, List.length_take]; rfl)) ?_; (with_reducible refine (mooringref03_Code.calls a0 a1 true _ A3.out).mono ?_); rintro e w' ⟨rfl, ⟨nd, rfl⟩⟩; refine ⟨_, rfl, ?_⟩))
  go_ret
  exact ⟨by first | rfl | (simp; done) | (simp [*]; done), by repeat (first | exact Drawn0.refl _ | apply Drawn0.step)⟩
 ·replace c4 := Bool.eq_false_iff.mpr c4
  subst c4
  have H1 : (some true) = some r := by rw [if_neg (show ¬ (false = true) by decide)] at H; exact H
  clear H
  have H := H1
  clear H1
  obtain rfl := Option.some.inj H
  go_enter Tryd.func16, Tryd.ntmps16
  go_wp2_with (first | ((with_reducible refine gate_callee (f := 13) rfl ?_); refine goesL_ (some 7) rfl rfl Tryd.func13 (by kernel_rfl) rfl #[.int .i64 a0, .int .i64 a1] rfl (by (try simp only [List.map_toArray, List.map_cons, List.map_nil]); first | done | rfl | (simp only [List.length_drop, List.length_take]; rfl)) ?_; (with_reducible refine (mooringref03_Code.calls a0 a1 false _ A3.out).mono ?_); rintro e w' ⟨rfl, ⟨nd, rfl⟩⟩; refine ⟨_, rfl, ?_⟩))
  go_ret
  exact ⟨by first | rfl | (simp; done) | (simp [*]; done), by repeat (first | exact Drawn0.refl _ | apply Drawn0.step)⟩
end Go.Proofs.YtnfgiamdmfkcjaaDoor.P
namespace Go.Proofs.YtnfgiamdmfkcjaaDoor.Gf
abbrev B := BitVec 8
def xt (x : B) : B := (x <<< 1) ^^^ (if x.msb then 0x1D#8 else 0#8)
theorem xor_swap4 (a b c d : B) : (a ^^^ b) ^^^ (c ^^^ d) = (a ^^^ c) ^^^ (b ^^^ d) := by ac_rfl
theorem xt_add (x y : B) : xt (x ^^^ y) = xt x ^^^ xt y := by
  unfold xt
  rw [xor_swap4, BitVec.shiftLeft_xor_distrib, BitVec.msb_xor]
  congr 1
  cases x.msb <;> cases y.msb <;> rfl
theorem xt_zero : xt 0#8 = 0#8 := by decide
def M : Nat → B → Nat → B
  | 0, _, _ => 0#8
  | n + 1, x, y => (if y % 2 = 1 then x else 0#8) ^^^ M n (xt x) (y / 2)
def mul (a b : B) : B := M 8 a b.toNat
theorem M_addL (n : Nat) : ∀ (x x' : B) (y : Nat), M n (x ^^^ x') y = M n x y ^^^ M n x' y := by
  induction n with
  | zero => intro x x' y; simp [M]
  | succ n ih =>
    intro x x' y
    simp only [M]
    rw [xt_add, ih, xor_swap4 _ _ _ (M n (xt x') (y / 2))]
    congr 1
    split <;> simp
theorem M_zeroL (n : Nat) : ∀ y, M n 0#8 y = 0#8 := by
  induction n with
  | zero => intro y; rfl
  | succ n ih => intro y; simp only [M, xt_zero, ih]; simp
theorem M_addR (n : Nat) : ∀ (x : B) (y y' : Nat), M n x (y ^^^ y') = M n x y ^^^ M n x y' := by
  induction n with
  | zero => intro x y y'; simp [M]
  | succ n ih =>
    intro x y y'
    simp only [M]
    rw [Nat.xor_div_two, ih, xor_swap4 _ _ _ (M n (xt x) (y' / 2))]
    congr 1
    have h := Nat.xor_mod_two_eq_one (a := y) (b := y')
    rcases Nat.mod_two_eq_zero_or_one y with h1 | h1 <;> rcases Nat.mod_two_eq_zero_or_one y' with h2 | h2 <;> simp only [h1, h2] at h ⊢ <;> simp at h ⊢ <;> simp [h]
theorem M_zeroR (n : Nat) : ∀ x, M n x 0 = 0#8 := by
  induction n with
  | zero => intro y; rfl
  | succ n ih => intro x; simp only [M, Nat.zero_div, ih]; simp
theorem M_xt (n : Nat) : ∀ (x : B) (y : Nat), M n (xt x) y = xt (M n x y) := by
  induction n with
  | zero => intro x y; exact xt_zero.symm
  | succ n ih =>
    intro x y
    simp only [M]
    rw [ih (xt x), xt_add]
    congr 1
    split
    · rfl
    · exact xt_zero.symm
theorem mul_add (a b c : B) : mul a (b ^^^ c) = mul a b ^^^ mul a c := by
  unfold mul; rw [BitVec.toNat_xor, M_addR]
theorem add_mul (a b c : B) : mul (a ^^^ b) c = mul a c ^^^ mul b c := M_addL _ _ _ _
theorem mul_zero (a : B) : mul a 0#8 = 0#8 := M_zeroR _ _
theorem zero_mul (a : B) : mul 0#8 a = 0#8 := M_zeroL _ _
theorem mul_xt (a b : B) : mul (xt a) b = xt (mul a b) := M_xt _ _ _
theorem forall_B {P : B → Prop} (h : ∀ i : Fin 256, P (BitVec.ofFin i)) : ∀ x, P x := fun x => h x.toFin
theorem one_mul : ∀ b : B, mul 1#8 b = b := forall_B (by decide +kernel)
/-- Powers of two. -/
def ex : Nat → B
  | 0 => 1#8
  | n + 1 => xt (ex n)
theorem mul_ex (i j : Nat) : mul (ex i) (ex j) = ex (i + j) := by
  induction i with
  | zero => rw [Nat.zero_add]; exact one_mul _
  | succ n ih => rw [show n + 1 + j = (n + j) + 1 by omega]; simp only [ex]; rw [mul_xt, ih]
theorem ex_255 : ex 255 = 1#8 := by decide +kernel
theorem ex_add255 (n : Nat) : ex (n + 255) = ex n := by
  rw [← mul_ex, ex_255]
  induction n with
  | zero => exact one_mul _
  | succ n ih => simp only [ex]; rw [mul_xt, ih]
theorem ex_mod (n : Nat) : ex (n % 255) = ex n := by
  induction n using Nat.strongRecOn with
  | _ n ih =>
    by_cases h : n < 255
    · rw [Nat.mod_eq_of_lt h]
    · obtain ⟨m, rfl⟩ : ∃ m, n = m + 255 := ⟨n - 255, by omega⟩
      rw [ex_add255, ← ih m (by omega), Nat.add_mod_right]
def lgGo (x : B) : Nat → Nat → B → Nat
  | 0, n, _ => n
  | f + 1, n, e => if e = x then n else lgGo x f (n + 1) (xt e)
/-- The least power of two that the element is (of 0: 255). -/
def lg (x : B) : Nat := lgGo x 255 0 1#8
theorem ex_lg : ∀ x : B, x ≠ 0#8 → ex (lg x) = x ∧ lg x < 255 := forall_B (by decide +kernel)
theorem lg_ex : ∀ n : Fin 255, lg (ex n) = n := by decide +kernel
theorem lg_ex_lt (n : Nat) (h : n < 255) : lg (ex n) = n := lg_ex ⟨n, h⟩
theorem ex_ne (n : Nat) : ex n ≠ 0#8 := by
  rw [← ex_mod]
  have h : ∀ n : Fin 255, ex n ≠ 0#8 := by decide +kernel
  exact h ⟨n % 255, Nat.mod_lt _ (by decide)⟩
theorem ex_inj (m n : Nat) (hm : m < 255) (hn : n < 255) (h : ex m = ex n) : m = n := by
  rw [← lg_ex_lt m hm, h, lg_ex_lt n hn]
theorem mul_comm (a b : B) : mul a b = mul b a := by
  by_cases ha : a = 0#8
  · rw [ha, mul_zero, zero_mul]
  by_cases hb : b = 0#8
  · rw [hb, mul_zero, zero_mul]
  rw [← (ex_lg a ha).1, ← (ex_lg b hb).1, mul_ex, mul_ex, Nat.add_comm]
theorem mul_assoc (a b c : B) : mul (mul a b) c = mul a (mul b c) := by
  by_cases ha : a = 0#8
  · rw [ha, zero_mul, zero_mul, zero_mul]
  by_cases hb : b = 0#8
  · rw [hb, zero_mul, mul_zero, zero_mul]
  by_cases hc : c = 0#8
  · rw [hc, mul_zero, mul_zero, mul_zero]
  rw [← (ex_lg a ha).1, ← (ex_lg b hb).1, ← (ex_lg c hc).1, mul_ex, mul_ex, mul_ex, mul_ex, Nat.add_assoc]
theorem mul_one (a : B) : mul a 1#8 = a := by rw [mul_comm, one_mul]
theorem mul_ne (a b : B) (ha : a ≠ 0#8) (hb : b ≠ 0#8) : mul a b ≠ 0#8 := by
  rw [← (ex_lg a ha).1, ← (ex_lg b hb).1, mul_ex]; exact ex_ne _
def inv (a : B) : B := if a = 0#8 then 0#8 else ex ((255 - lg a) % 255)
theorem mul_inv (a : B) (ha : a ≠ 0#8) : mul a (inv a) = 1#8 := by
  unfold inv
  rw [if_neg ha, ex_mod]
  have h := ex_lg a ha
  conv => lhs; arg 1; rw [← h.1]
  rw [mul_ex, show lg a + (255 - lg a) = 255 by omega]
  exact ex_255
theorem inv_mul (a : B) (ha : a ≠ 0#8) : mul (inv a) a = 1#8 := by rw [mul_comm, mul_inv a ha]
theorem inv_ne (a : B) (ha : a ≠ 0#8) : inv a ≠ 0#8 := by
  intro h
  have := mul_inv a ha
  rw [h, mul_zero] at this
  exact absurd this (by decide)
theorem mul_eq_one (a b : B) (h : mul a b = 1#8) : a ≠ 0#8 ∧ b = inv a := by
  have ha : a ≠ 0#8 := by
    intro h0
    rw [h0, zero_mul] at h
    exact absurd h (by decide)
  refine ⟨ha, ?_⟩
  have h2 : mul (inv a) (mul a b) = inv a := by rw [h, mul_one]
  rw [← mul_assoc, inv_mul a ha, one_mul] at h2
  exact h2
end Go.Proofs.YtnfgiamdmfkcjaaDoor.Gf
namespace Go.Proofs.YtnfgiamdmfkcjaaDoor.Gf
open Go.RowKit Go.Proofs.YtnfgiamdmfkcjaaDoorW.PrintWords Go.Proofs.YtnfgiamdmfkcjaaDoor.Leaf
def toB (x : Int) : B := BitVec.ofInt 8 x
def ofB (b : B) : Int := (b.toNat : Int)
theorem ofB_range (b : B) : 0 ≤ ofB b ∧ ofB b < 256 := by
  have := b.isLt
  unfold ofB
  omega
theorem toB_ofB (b : B) : toB (ofB b) = b := by
  unfold toB ofB
  rw [BitVec.ofInt_natCast]
  simp
theorem ofB_toB (x : Int) (h0 : 0 ≤ x) (h1 : x < 256) : ofB (toB x) = x := by
  unfold toB ofB
  obtain ⟨n, rfl⟩ := Int.eq_ofNat_of_zero_le h0
  rw [BitVec.ofInt_natCast, BitVec.toNat_ofNat]
  omega
theorem ofB_inj {a b : B} (h : ofB a = ofB b) : a = b := by rw [← toB_ofB a, h, toB_ofB]
theorem ofB_eq_iff (a b : B) : ofB a = ofB b ↔ a = b := ⟨ofB_inj, fun h => by rw [h]⟩
theorem ofB_zero : ofB 0#8 = 0 := rfl
theorem ofB_one : ofB 1#8 = 1 := rfl
theorem ofB_eq_zero (a : B) : ofB a = 0 ↔ a = 0#8 := by rw [← ofB_zero, ofB_eq_iff]
theorem xor_u8 (x y : Int) : Go.bits .xor .u8 x y = ofB (toB x ^^^ toB y) := by
  unfold Go.bits
  have h := (toB x ^^^ toB y).isLt
  show IntKind.u8.wrap (((toB x ^^^ toB y).toNat : Nat) : Int) = _
  rw [IntKind.wrap_u8]
  unfold ofB
  omega
theorem xor_ofB (a b : B) : Go.bits .xor .u8 (ofB a) (ofB b) = ofB (a ^^^ b) := by rw [xor_u8, toB_ofB, toB_ofB]
theorem xor_i64_nat (a b : Nat) (ha : a < 2 ^ 62) (hb : b < 2 ^ 62) : Go.bits .xor .i64 (a : Int) (b : Int) = ((a ^^^ b : Nat) : Int) := by
  have h := Nat.xor_lt_two_pow ha hb
  unfold Go.bits
  simp only [BitVec.ofInt_natCast, BitVec.toNat_xor, BitVec.toNat_ofNat]
  show IntKind.i64.wrap (((a % 2 ^ 64) ^^^ (b % 2 ^ 64) : Nat) : Int) = _
  rw [Nat.mod_eq_of_lt (Nat.lt_trans ha (by decide)), Nat.mod_eq_of_lt (Nat.lt_trans hb (by decide))]
  exact IntWalk.i64_in _ (by omega)
theorem xor_i64_ofB (a b : B) : Go.bits .xor .i64 (ofB a) (ofB b) = ofB (a ^^^ b) := by
  have h1 := a.isLt
  have h2 := b.isLt
  unfold ofB
  rw [xor_i64_nat _ _ (by omega) (by omega), BitVec.toNat_xor]
theorem tabE_ex : ∀ i : Fin 255, rd tabE (i.val : Int) = ofB (ex i.val) := by decide +kernel
theorem tabL_ex : ∀ i : Fin 256, i ≠ 0 → 0 ≤ rd tabL (i.val : Int) ∧ rd tabL (i.val : Int) < 255 ∧ ex (rd tabL (i.val : Int)).toNat = BitVec.ofFin i := by decide +kernel
theorem rdE (i : Int) (h0 : 0 ≤ i) (h1 : i < 255) : rd tabE i = ofB (ex i.toNat) := by
  have := tabE_ex ⟨i.toNat, by omega⟩
  simpa [Int.toNat_of_nonneg h0] using this
theorem rdL (b : B) (hb : b ≠ 0#8) : rd tabL (ofB b) = (lg b : Int) ∧ lg b < 255 := by
  have h := tabL_ex b.toFin (fun e => hb (by rw [BitVec.eq_of_toFin_eq (x := b) (y := 0#8) (by rw [e]; rfl)]))
  have h2 := ex_lg b hb
  refine ⟨?_, h2.2⟩
  have h3 : (rd tabL (ofB b)).toNat = lg b := by
    apply ex_inj
    · have := h.2.1
      show (rd tabL ((b.toFin.val : Nat) : Int)).toNat < 255
      omega
    · exact h2.2
    · rw [h2.1]
      exact h.2.2
  have h4 : 0 ≤ rd tabL (ofB b) := h.1
  omega
theorem gfMul_eq (a b : B) : gf_Mul.f (ofB a) (ofB b) = some (ofB (mul a b)) := by
  unfold gf_Mul.f
  have ra := ofB_range a
  have rb := ofB_range b
  by_cases ha : a = 0#8
  · subst ha
    rw [if_pos ofB_zero, zero_mul, ofB_zero]
  rw [if_neg (by rw [ofB_eq_zero]; exact ha)]
  by_cases hb : b = 0#8
  · subst hb
    rw [if_pos ofB_zero, mul_zero, ofB_zero]
  rw [if_neg (by rw [ofB_eq_zero]; exact hb), if_pos ra.1, if_pos ra.2, if_pos rb.1, if_pos rb.2]
  obtain ⟨la, ha'⟩ := rdL a ha
  obtain ⟨lb, hb'⟩ := rdL b hb
  rw [la, lb, rdE _ (by omega) (by omega)]
  congr 2
  have : (((lg a : Int) + (lg b : Int)) % 255).toNat = (lg a + lg b) % 255 := by omega
  rw [this, ex_mod, ← mul_ex, (ex_lg a ha).1, (ex_lg b hb).1]
theorem gfInv_eq (a : B) : gf_Inv.f (ofB a) = some (ofB (inv a), decide (a ≠ 0#8)) := by
  unfold gf_Inv.f
  have ra := ofB_range a
  by_cases ha : a = 0#8
  · subst ha
    rw [if_pos ofB_zero]
    rfl
  rw [if_neg (by rw [ofB_eq_zero]; exact ha), if_pos ra.1, if_pos ra.2]
  obtain ⟨la, ha'⟩ := rdL a ha
  rw [la, rdE _ (by omega) (by omega)]
  have : ((255 - (lg a : Int)) % 255).toNat = (255 - lg a) % 255 := by omega
  rw [this, decide_eq_true ha]
  unfold inv
  rw [if_neg ha]
end Go.Proofs.YtnfgiamdmfkcjaaDoor.Gf
namespace Go.Proofs.YtnfgiamdmfkcjaaDoor.P
open Go.Proofs.YtnfgiamdmfkcjaaDoor.Leaf
open Go.RowKit Go.Proofs.YtnfgiamdmfkcjaaDoorW.PrintWords Go.Proofs.YtnfgiamdmfkcjaaDoorW.PrintLast Go.Proofs.YtnfgiamdmfkcjaaDoorW.PrintMore
attribute [local go_sem] max2_int min2_int max_two min_two max_three min_three max_four min_four
def wMu_.l0 : Nat → Int → Int → Int → Int → Option (Int)
 | 0, _, _, _, _ => none
 | k + 1, x5, x6, x7, x8 => if x8 < 8 then (if (Int.tmod x6 2) = 1 then (if (wrap64 (x5 * 2)) ≥ 256 then (wMu_.l0 k (Go.bits .xor .i64 (wrap64 (x5 * 2)) 285) (wrap64 (Int.tdiv x6 2)) (Go.bits .xor .i64 x7 x5) (wrap64 (x8 + 1))) else (wMu_.l0 k (wrap64 (x5 * 2)) (wrap64 (Int.tdiv x6 2)) (Go.bits .xor .i64 x7 x5) (wrap64 (x8 + 1)))) else (if (wrap64 (x5 * 2)) ≥ 256 then (wMu_.l0 k (Go.bits .xor .i64 (wrap64 (x5 * 2)) 285) (wrap64 (Int.tdiv x6 2)) x7 (wrap64 (x8 + 1))) else (wMu_.l0 k (wrap64 (x5 * 2)) (wrap64 (Int.tdiv x6 2)) x7 (wrap64 (x8 + 1))))) else (some ((x7) % 256))
def wMu_.f (k : Nat) (a0 : Int) (a1 : Int) : Option (Int) := wMu_.l0 k (wrap64 (a0)) (wrap64 (a1)) 0 0
theorem wMu_.mono_l : ∀ k, (∀ y0 y1 y2 y3, LeO (wMu_.l0 k y0 y1 y2 y3) (wMu_.l0 (k + 1) y0 y1 y2 y3))
 | 0 => fun _ _ _ _ r h => by simp [wMu_.l0] at h
 | k + 1 => by
  have ih0 := wMu_.mono_l k
  ·intro y0 y1 y2 y3
   unfold wMu_.l0
   repeat' first
   | (with_reducible exact ih0 _ _ _ _)
   | (with_reducible exact LeO.refl _)
   | (with_reducible exact LeO.none _)
   | (with_reducible refine LeO.ite ?_ ?_)
   | (with_reducible refine LeO.bind ?_ (fun _ => ?_))
   | exact ih0 _ _ _ _
   | exact LeO.none _
   | refine LeO.ite ?_ ?_
   | refine LeO.bind ?_ (fun _ => ?_)
theorem wMu_.mono : ∀ a0 a1 k, LeO (wMu_.f k a0 a1) (wMu_.f (k + 1) a0 a1) := by
 intro a0 a1 k
 have ih0 := wMu_.mono_l k
 unfold wMu_.f
 repeat' first
  | (with_reducible exact ih0 _ _ _ _)
  | (with_reducible exact LeO.refl _)
  | (with_reducible exact LeO.none _)
  | (with_reducible refine LeO.ite ?_ ?_)
  | (with_reducible refine LeO.bind ?_ (fun _ => ?_))
  | exact ih0 _ _ _ _
  | exact LeO.none _
  | refine LeO.ite ?_ ?_
  | refine LeO.bind ?_ (fun _ => ?_)
set_option maxHeartbeats 8000000 in
set_option maxRecDepth 100000 in
theorem wMu_.calls (k : Nat) (a0 : Int) (a1 : Int) (r : Int) (w : World) (h : wMu_.f k a0 a1 = some r) :
 Calls Tryd.prog 53 #[.int .u8 a0, .int .u8 a1] w fun e w' => e = .returned (.int .u8 r) ∧ Drawn0 w w' := by
 have H : (wMu_.l0 k (wrap64 (a0)) (wrap64 (a1)) 0 0) = some r := h
 clear h
 have H' := Aside0.mk H
 clear H
 go_enter Tryd.func53, Tryd.ntmps53
 go_wp2
 go_loopg [5, 6, 7, 8] k (fun kq v5 v6 v7 v8 w' => ∃ (x5_1 : Int) (x6_1 : Int) (x7_1 : Int) (x8_1 : Int), v5 = .int .i64 x5_1 ∧ v6 = .int .i64 x6_1 ∧ v7 = .int .i64 x7_1 ∧ v8 = .int .i64 x8_1 ∧ Aside0 (wMu_.l0 kq x5_1 x6_1 x7_1 x8_1 = some r) ∧ Aside0 (kq ≤ k) ∧ Drawn0 w w')
 case atStart => exact ⟨(wrap64 (a0)), (wrap64 (a1)), (0), (0), (by first | rfl | (simp; done) | (simp [*]; done)), (by first | rfl | (simp; done) | (simp [*]; done)), (by first | rfl | (simp; done) | (simp [*]; done)), (by first | rfl | (simp; done) | (simp [*]; done)), H', ⟨Nat.le_refl _⟩, by repeat (first | exact Drawn0.refl _ | apply Drawn0.step)⟩
 case round =>
  clear H'
  try clear p2
  obtain ⟨x5_1, x6_1, x7_1, x8_1, rfl, rfl, rfl, rfl, HA, HK1, ⟨m1, rfl⟩⟩ := hrel
  cases gk with
  | zero => exact absurd HA.out (by simp [wMu_.l0])
  | succ k1 =>
   have H := HA.out
   clear HA
   simp only [wMu_.l0] at H
   by_cases c3 : x8_1 < 8
   ·rw [if_pos c3] at H
    have c3b0 : decide (x8_1 < 8) = true := decide_eq_true c3
    clear c3
    by_cases c4 : (Int.tmod x6_1 2) = 1
    ·rw [if_pos c4] at H
     have c4b0 : ((Int.tmod x6_1 2) == 1) = true := beq_iff_eq.mpr c4
     have c4b1 : ((Int.tmod x6_1 2) != 1) = false := bne_eq_false_iff_eq.mpr c4
     clear c4
     by_cases c5 : (wrap64 (x5_1 * 2)) ≥ 256
     ·rw [if_pos c5] at H
      have c5b0 : decide (256 ≤ (wrap64 (x5_1 * 2))) = true := decide_eq_true c5
      clear c5
      have H' := Aside0.mk H
      clear H
      go_wp2
      go_roundg k1
      case measure => have := HK1.out; omega
      case rel => exact ⟨(Go.bits .xor .i64 (wrap64 (x5_1 * 2)) 285), (wrap64 (Int.tdiv x6_1 2)), (Go.bits .xor .i64 x7_1 x5_1), (wrap64 (x8_1 + 1)), (by first | rfl | (simp; done) | (simp [*]; done)), (by first | rfl | (simp; done) | (simp [*]; done)), (by first | rfl | (simp; done) | (simp [*]; done)), (by first | rfl | (simp; done) | (simp [*]; done)), H', ⟨by have := HK1.out; omega⟩, by repeat (first | exact Drawn0.refl _ | apply Drawn0.step)⟩
     ·rw [if_neg c5] at H
      have c5b0 : decide (256 ≤ (wrap64 (x5_1 * 2))) = false := decide_eq_false c5
      clear c5
      have H' := Aside0.mk H
      clear H
      go_wp2
      go_roundg k1
      case measure => have := HK1.out; omega
      case rel => exact ⟨(wrap64 (x5_1 * 2)), (wrap64 (Int.tdiv x6_1 2)), (Go.bits .xor .i64 x7_1 x5_1), (wrap64 (x8_1 + 1)), (by first | rfl | (simp; done) | (simp [*]; done)), (by first | rfl | (simp; done) | (simp [*]; done)), (by first | rfl | (simp; done) | (simp [*]; done)), (by first | rfl | (simp; done) | (simp [*]; done)), H', ⟨by have := HK1.out; omega⟩, by repeat (first | exact Drawn0.refl _ | apply Drawn0.step)⟩
    ·rw [if_neg c4] at H
     have c4b0 : ((Int.tmod x6_1 2) == 1) = false := beq_eq_false_iff_ne.mpr c4
     have c4b1 : ((Int.tmod x6_1 2) != 1) = true := bne_iff_ne.mpr c4
     by_cases c6 : (wrap64 (x5_1 * 2)) ≥ 256
     ·rw [if_pos c6] at H
      have c6b0 : decide (256 ≤ (wrap64 (x5_1 * 2))) = true := decide_eq_true c6
      clear c6
      have H' := Aside0.mk H
      clear H
      go_wp2
      go_roundg k1
      case measure => have := HK1.out; omega
      case rel => exact ⟨(Go.bits .xor .i64 (wrap64 (x5_1 * 2)) 285), (wrap64 (Int.tdiv x6_1 2)), (x7_1), (wrap64 (x8_1 + 1)), (by first | rfl | (simp; done) | (simp [*]; done)), (by first | rfl | (simp; done) | (simp [*]; done)), (by first | rfl | (simp; done) | (simp [*]; done)), (by first | rfl | (simp; done) | (simp [*]; done)), H', ⟨by have := HK1.out; omega⟩, by repeat (first | exact Drawn0.refl _ | apply Drawn0.step)⟩
     ·rw [if_neg c6] at H
      have c6b0 : decide (256 ≤ (wrap64 (x5_1 * 2))) = false := decide_eq_false c6
      clear c6
      have H' := Aside0.mk H
      clear H
      go_wp2
      go_roundg k1
      case measure => have := HK1.out; omega
      case rel => exact ⟨(wrap64 (x5_1 * 2)), (wrap64 (Int.tdiv x6_1 2)), (x7_1), (wrap64 (x8_1 + 1)), (by first | rfl | (simp; done) | (simp [*]; done)), (by first | rfl | (simp; done) | (simp [*]; done)), (by first | rfl | (simp; done) | (simp [*]; done)), (by first | rfl | (simp; done) | (simp [*]; done)), H', ⟨by have := HK1.out; omega⟩, by repeat (first | exact Drawn0.refl _ | apply Drawn0.step)⟩
   ·rw [if_neg c3] at H
    have c3b0 : decide (x8_1 < 8) = false := decide_eq_false c3
    clear c3
    obtain rfl := Option.some.inj H
    go_wp2
    go_ret
    exact ⟨by first | rfl | (simp; done) | (simp [*]; done), by repeat (first | exact Drawn0.refl _ | apply Drawn0.step)⟩
def mooringref01_Inv.l0 : Nat → Int → Int → Option (Int × Bool)
 | 0, _, _ => none
 | k + 1, x0, x4 => if x4 < 256 then ((wMu_.f k x0 ((x4) % 256)).bind fun t101 => (if t101 = 1 then (some ((x4) % 256, true)) else (mooringref01_Inv.l0 k x0 (wrap64 (x4 + 1))))) else (some (0, false))
def mooringref01_Inv.f (k : Nat) (a0 : Int) : Option (Int × Bool) := mooringref01_Inv.l0 k a0 1
theorem mooringref01_Inv.mono_l : ∀ k, (∀ y0 y1, LeO (mooringref01_Inv.l0 k y0 y1) (mooringref01_Inv.l0 (k + 1) y0 y1))
 | 0 => fun _ _ r h => by simp [mooringref01_Inv.l0] at h
 | k + 1 => by
  have ih0 := mooringref01_Inv.mono_l k
  ·intro y0 y1
   unfold mooringref01_Inv.l0
   repeat' first
   | (with_reducible exact ih0 _ _)
   | (with_reducible exact wMu_.mono _ _ _)
   | (with_reducible exact LeO.refl _)
   | (with_reducible exact LeO.none _)
   | (with_reducible refine LeO.ite ?_ ?_)
   | (with_reducible refine LeO.bind ?_ (fun _ => ?_))
   | exact ih0 _ _
   | exact wMu_.mono _ _ _
   | exact LeO.none _
   | refine LeO.ite ?_ ?_
   | refine LeO.bind ?_ (fun _ => ?_)
theorem mooringref01_Inv.mono : ∀ a0 k, LeO (mooringref01_Inv.f k a0) (mooringref01_Inv.f (k + 1) a0) := by
 intro a0 k
 have ih0 := mooringref01_Inv.mono_l k
 unfold mooringref01_Inv.f
 repeat' first
  | (with_reducible exact ih0 _ _)
  | (with_reducible exact wMu_.mono _ _ _)
  | (with_reducible exact LeO.refl _)
  | (with_reducible exact LeO.none _)
  | (with_reducible refine LeO.ite ?_ ?_)
  | (with_reducible refine LeO.bind ?_ (fun _ => ?_))
  | exact ih0 _ _
  | exact wMu_.mono _ _ _
  | exact LeO.none _
  | refine LeO.ite ?_ ?_
  | refine LeO.bind ?_ (fun _ => ?_)
set_option maxHeartbeats 8000000 in
set_option maxRecDepth 100000 in
theorem mooringref01_Inv.calls (k : Nat) (a0 : Int) (r1 : Int) (r2 : Bool) (w : World) (h : mooringref01_Inv.f k a0 = some (r1, r2)) :
 Calls Tryd.prog 83 #[.int .u8 a0] w fun e w' => e = .returned (.tuple #[.int .u8 r1, .bool r2]) ∧ Drawn0 w w' := by
 have H : (mooringref01_Inv.l0 k a0 1) = some (r1, r2) := h
 clear h
 have H' := Aside0.mk H
 clear H
 go_enter Tryd.func83, Tryd.ntmps83
 go_wp2
 go_loopg [4] k (fun kq v4 w' => ∃ (x4_1 : Int), v4 = .int .i64 x4_1 ∧ Aside0 (mooringref01_Inv.l0 kq a0 x4_1 = some (r1, r2)) ∧ Aside0 (kq ≤ k) ∧ Drawn0 w w')
 case atStart => exact ⟨(1), (by first | rfl | (simp; done) | (simp [*]; done)), H', ⟨Nat.le_refl _⟩, by repeat (first | exact Drawn0.refl _ | apply Drawn0.step)⟩
 case round =>
  clear H'
  obtain ⟨x4_1, rfl, HA, HK1, ⟨m1, rfl⟩⟩ := hrel
  cases gk with
  | zero => exact absurd HA.out (by simp [mooringref01_Inv.l0])
  | succ k1 =>
   have H := HA.out
   clear HA
   simp only [mooringref01_Inv.l0] at H
   by_cases c2 : x4_1 < 256
   ·rw [if_pos c2] at H
    have c2b0 : decide (x4_1 < 256) = true := decide_eq_true c2
    clear c2
    replace H := Option.bind_eq_some_iff.mp H
    obtain ⟨t101, A30, H⟩ := H
    replace H : (if t101 = 1 then (some ((x4_1) % 256, true)) else (mooringref01_Inv.l0 k1 a0 (wrap64 (x4_1 + 1)))) = some (r1, r2) := H
    have A3 := Aside0.mk A30
    clear A30
    by_cases c4 : t101 = 1
    ·rw [if_pos c4] at H
     have c4b0 : (t101 == 1) = true := beq_iff_eq.mpr c4
     have c4b1 : (t101 != 1) = false := bne_eq_false_iff_eq.mpr c4
     clear c4
     simp only [Option.some.injEq, Prod.mk.injEq] at H
     obtain ⟨rfl, rfl⟩ := H
     go_wp2_with (first | ((with_reducible refine gate_callee (f := 53) rfl ?_); refine goesL_ (some 12) rfl rfl Tryd.func53 (by kernel_rfl) rfl #[.int .u8 a0, .int .u8 ((x4_1) % 256)] rfl (by (try simp only [List.map_toArray, List.map_cons, List.map_nil]); first | done | rfl | (simp only [List.length_drop, List.length_take]; rfl)) ?_; (with_reducible refine (wMu_.calls k1 a0 ((x4_1) % 256) t101 _ A3.out).mono ?_); rintro e w' ⟨rfl, ⟨nd, rfl⟩⟩; refine ⟨_, rfl, ?_⟩))
     go_ret2
     exact ⟨by first | rfl | (simp; done) | (simp [*]; done), by repeat (first | exact Drawn0.refl _ | apply Drawn0.step)⟩
    ·rw [if_neg c4] at H
     have c4b0 : (t101 == 1) = false := beq_eq_false_iff_ne.mpr c4
     have c4b1 : (t101 != 1) = true := bne_iff_ne.mpr c4
     have H' := Aside0.mk H
     clear H
     go_wp2_with (first | ((with_reducible refine gate_callee (f := 53) rfl ?_); refine goesL_ (some 12) rfl rfl Tryd.func53 (by kernel_rfl) rfl #[.int .u8 a0, .int .u8 ((x4_1) % 256)] rfl (by (try simp only [List.map_toArray, List.map_cons, List.map_nil]); first | done | rfl | (simp only [List.length_drop, List.length_take]; rfl)) ?_; (with_reducible refine (wMu_.calls k1 a0 ((x4_1) % 256) t101 _ A3.out).mono ?_); rintro e w' ⟨rfl, ⟨nd, rfl⟩⟩; refine ⟨_, rfl, ?_⟩))
     go_roundg k1
     case measure => have := HK1.out; omega
     case rel => exact ⟨(wrap64 (x4_1 + 1)), (by first | rfl | (simp; done) | (simp [*]; done)), H', ⟨by have := HK1.out; omega⟩, by repeat (first | exact Drawn0.refl _ | apply Drawn0.step)⟩
   ·rw [if_neg c2] at H
    have c2b0 : decide (x4_1 < 256) = false := decide_eq_false c2
    clear c2
    simp only [Option.some.injEq, Prod.mk.injEq] at H
    obtain ⟨rfl, rfl⟩ := H
    go_wp2
    go_ret2
    exact ⟨by first | rfl | (simp; done) | (simp [*]; done), by repeat (first | exact Drawn0.refl _ | apply Drawn0.step)⟩
end Go.Proofs.YtnfgiamdmfkcjaaDoor.P
