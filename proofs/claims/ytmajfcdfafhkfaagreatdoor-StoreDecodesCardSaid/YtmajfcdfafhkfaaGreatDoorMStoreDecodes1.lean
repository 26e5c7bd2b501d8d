/- Words and walks that the claim StoreDecodes leans on (what it does not use is left out). -/
import Derived.Test.YtmajfcdfafhkfaaGreatDoorRows
import Derived.WalkKit
import Derived.ProofKit
import Derived.Test.YtmajfcdfafhkfaaGreatDoorProg
import Derived.Test.YtmajfcdfafhkfaaGreatDoorVStoreDecodes1
import Derived.Laws.Tables
import Derived.Laws.Rows
import Derived.Laws.ResultCell
import Derived.Deep.WholeRow
import Derived.Great.BuildSlice
import Derived.Deep.RegionHeld3
import Derived.StillTactics
import Derived.IntWalk
import Derived.WalkSpells
import Derived.Shelf.Abstract
import Derived.Lib.SlBytesConst
import Derived.Below
import Derived.Deep.Draws
import Derived.Deep.AppendLies
import Derived.Maps.AppendAt
import Derived.OwnWalk
import Derived.Laws.BytesArg
import Derived.Laws.MakeOwn
import Derived.Laws.OwnMore
import Derived.Deep.OwnRows
import Derived.Tactics
import Derived.Lib.ConvBytes
import Derived.Laws.Slices
import Derived.KernelRfl
import Derived.RowKit3
import Derived.Deep.LoopGhost
import Derived.Deep.QuietTactic
import Derived.BigQuiet
import Derived.WideLaws
import Derived.Deep.DeepCutAuto
import Derived.Deep.CutBlock
import Derived.Lib.AppendStr
import Derived.ArgAppend
import Derived.Laws.IdiomCopy
import Derived.OrdersHeld
import Derived.Laws.BitsLemmas
import Derived.RowKit
import Derived.Laws.StructEq
import Derived.Deep.RegionLaw
namespace Go.Proofs.YtmajfcdfafhkfaaGreatDoor.Facts
theorem joinedOf {P : Program} {f : FuncId} {fn : Func} {s : ChangeSpec} {c : OpenClaim}
    (k1 : c.wf (OpenSpec.ofChange s) = true) (k4 : fn.params.all (P.readableRec ·) = true)
    (k5 : namedTie P c.named s.vars = true)
    (k6 : (c.stops == []) = true) (k8 : (c.knobs == []) = true)
    (k10 : (c.inPlace == P.inPlace f) = true)
    (k11 : (c.unfollowed == P.unfollowed f) = true)
    (k12 : (c.recurses == P.recurses f) = true)
    (k13 : (c.named == P.varsNamed f) = true)
    (k14 : (c.maps == (fn.params.toList ++ s.plain.varTypes P).any (P.mapsRec ·)) = true)
    (k15 : (c.ifaces == (fn.params.toList ++ s.plain.varTypes P).any (P.ifacesRec ·)) = true)
    (k15b : (c.mapsOut == P.mapsAmong fn.resultTypes.toList) = true)
    (k16 : (c.loops == (fn.params.toList ++ s.plain.varTypes P).any (P.loopsFrom ·)) = true)
    (k17 : (c.wideKeys == (fn.params.toList ++ s.plain.varTypes P ++ fn.resultTypes.toList).any (P.wideKeysFrom ·)) = true)
    (k18 : s.vars.all (P.varReadable ·) = true)
    (k19 : fn.resultTypes.all (fun t => P.readableRec t && decide (t < P.types.size)) = true)
    (k20 : (c.ifacesOut == fn.resultTypes.toList.any (P.ifacesRec ·)) = true)
    (k21 : (c.loopsOut == fn.resultTypes.toList.any (P.loopsFrom ·)) = true)
    (k22 : (c.plainKeys == P.plainKeys) = true)
    (k23 : c.shortTexts.isNone = true)
    (k24 : (c.lifted == P.liftsFinal) = true)
    (k25 : (P.make == some c.make) = true)
    (k26 : (c.kinds == (if c.domain.isEmpty then [] else fn.params.toList.map fun t => match P.underlying t with | some (.int k) => some k | _ => none)) = true)
    (k27 : (c.pinned == c.pinnedBy) = true)
    (k28 : (c.veiled == (fn.params.toList ++ s.plain.varTypes P ++ fn.resultTypes.toList).any (P.veiledRec ·)) = true)
    (k29 : c.veiledFits P fn.params.toList (fn.params.toList ++ s.plain.varTypes P ++ fn.resultTypes.toList) = true)
    (laid : laidOutB P = true) (rowed : mapsRowed P = true) (stops : (P.stops == []) = true) (knobs : (P.stopKnobs == []) = true) (heard : P.stopsHeard = true) (enters : P.mayEnter = true) :
    joinedFacts P f fn s c = true := by
  unfold joinedFacts
  simp only [Bool.and_eq_true]
  exact ⟨⟨⟨⟨⟨⟨⟨⟨⟨⟨⟨⟨⟨⟨⟨⟨⟨⟨⟨⟨⟨⟨⟨⟨⟨⟨⟨⟨⟨⟨⟨k1, laid⟩, rowed⟩, k4⟩, k5⟩, k6⟩, stops⟩, k8⟩, knobs⟩, k10⟩, k11⟩, k12⟩, k13⟩, k14⟩, k15⟩, k15b⟩, k16⟩, k17⟩, k18⟩, k19⟩, k20⟩, k21⟩, k22⟩, k23⟩, heard⟩, enters⟩, k24⟩, k25⟩, k26⟩, k27⟩, k28⟩, k29⟩
theorem stops : (Tryz.pinned.checked.prog.stops == []) = true := by kernel_rfl
theorem knobs : (Tryz.pinned.checked.prog.stopKnobs == []) = true := by kernel_rfl
theorem laid : laidOutB Tryz.pinned.checked.prog = true := by kernel_rfl
theorem rowed : mapsRowed Tryz.pinned.checked.prog = true := by kernel_rfl
theorem heard : Tryz.pinned.checked.prog.stopsHeard = true := by kernel_rfl
theorem enters : Tryz.pinned.checked.prog.mayEnter = true := by kernel_rfl
end Go.Proofs.YtmajfcdfafhkfaaGreatDoor.Facts
namespace Go.Proofs.YtmajfcdfafhkfaaGreatDoor.Leaf
open Go.RowKit Go.Proofs.YtmajfcdfafhkfaaGreatDoorW.PrintWords
set_option linter.unusedVariables false
set_option maxRecDepth 1000000
def tabE : List Int := [1, 2, 4, 8, 16, 32, 64, 128, 29, 58, 116, 232, 205, 135, 19, 38, 76, 152, 45, 90, 180, 117, 234, 201, 143, 3, 6, 12, 24, 48, 96, 192, 157, 39, 78, 156, 37, 74, 148, 53, 106, 212, 181, 119, 238, 193, 159, 35, 70, 140, 5, 10, 20, 40, 80, 160, 93, 186, 105, 210, 185, 111, 222, 161, 95, 190, 97, 194, 153, 47, 94, 188, 101, 202, 137, 15, 30, 60, 120, 240, 253, 231, 211, 187, 107, 214, 177, 127, 254, 225, 223, 163, 91, 182, 113, 226, 217, 175, 67, 134, 17, 34, 68, 136, 13, 26, 52, 104, 208, 189, 103, 206, 129, 31, 62, 124, 248, 237, 199, 147, 59, 118, 236, 197, 151, 51, 102, 204, 133, 23, 46, 92, 184, 109, 218, 169, 79, 158, 33, 66, 132, 21, 42, 84, 168, 77, 154, 41, 82, 164, 85, 170, 73, 146, 57, 114, 228, 213, 183, 115, 230, 209, 191, 99, 198, 145, 63, 126, 252, 229, 215, 179, 123, 246, 241, 255, 227, 219, 171, 75, 150, 49, 98, 196, 149, 55, 110, 220, 165, 87, 174, 65, 130, 25, 50, 100, 200, 141, 7, 14, 28, 56, 112, 224, 221, 167, 83, 166, 81, 162, 89, 178, 121, 242, 249, 239, 195, 155, 43, 86, 172, 69, 138, 9, 18, 36, 72, 144, 61, 122, 244, 245, 247, 243, 251, 235, 203, 139, 11, 22, 44, 88, 176, 125, 250, 233, 207, 131, 27, 54, 108, 216, 173, 71, 142]
def tabL : List Int := [0, 0, 1, 25, 2, 50, 26, 198, 3, 223, 51, 238, 27, 104, 199, 75, 4, 100, 224, 14, 52, 141, 239, 129, 28, 193, 105, 248, 200, 8, 76, 113, 5, 138, 101, 47, 225, 36, 15, 33, 53, 147, 142, 218, 240, 18, 130, 69, 29, 181, 194, 125, 106, 39, 249, 185, 201, 154, 9, 120, 77, 228, 114, 166, 6, 191, 139, 98, 102, 221, 48, 253, 226, 152, 37, 179, 16, 145, 34, 136, 54, 208, 148, 206, 143, 150, 219, 189, 241, 210, 19, 92, 131, 56, 70, 64, 30, 66, 182, 163, 195, 72, 126, 110, 107, 58, 40, 84, 250, 133, 186, 61, 202, 94, 155, 159, 10, 21, 121, 43, 78, 212, 229, 172, 115, 243, 167, 87, 7, 112, 192, 247, 140, 128, 99, 13, 103, 74, 222, 237, 49, 197, 254, 24, 227, 165, 153, 119, 38, 184, 180, 124, 17, 68, 146, 217, 35, 32, 137, 46, 55, 63, 209, 91, 149, 188, 207, 205, 144, 135, 151, 178, 220, 252, 190, 97, 242, 86, 211, 171, 20, 42, 93, 158, 132, 60, 57, 83, 71, 109, 65, 162, 31, 45, 67, 216, 183, 123, 164, 118, 196, 23, 73, 236, 127, 12, 111, 246, 108, 161, 59, 82, 41, 157, 85, 170, 251, 96, 134, 177, 187, 204, 62, 90, 203, 89, 95, 176, 156, 169, 160, 81, 11, 245, 22, 235, 122, 117, 44, 215, 79, 174, 213, 233, 230, 231, 173, 232, 116, 214, 244, 234, 168, 80, 88, 175]
def tabK : List Int := [0, 4067132163, 3778769143, 324072436, 3348797215, 904991772, 648144872, 3570033899, 2329499855, 2024987596, 1809983544, 2575936315, 1296289744, 3207089363, 2893594407, 1578318884, 274646895, 3795141740, 4049975192, 51262619, 3619967088, 632279923, 922689671, 3298075524, 2592579488, 1760304291, 2075979607, 2312596564, 1562183871, 2943781820, 3156637768, 1313733451, 549293790, 3537243613, 3246849577, 871202090, 3878099393, 357341890, 102525238, 4101499445, 2858735121, 1477399826, 1264559846, 3107202533, 1845379342, 2677391885, 2361733625, 2125378298, 820201905, 3263744690, 3520608582, 598981189, 4151959214, 85089709, 373468761, 3827903834, 3124367742, 1213305469, 1526817161, 2842354314, 2107672161, 2412447074, 2627466902, 1861252501, 1098587580, 3004210879, 2688576843, 1378610760, 2262928035, 1955203488, 1742404180, 2511436119, 3416409459, 969524848, 714683780, 3639785095, 205050476, 4266873199, 3976438427, 526918040, 1361435347, 2739821008, 2954799652, 1114974503, 2529119692, 1691668175, 2005155131, 2247081528, 3690758684, 697762079, 986182379, 3366744552, 476452099, 3993867776, 4250756596, 255256311, 1640403810, 2477592673, 2164122517, 1922457750, 2791048317, 1412925310, 1197962378, 3037525897, 3944729517, 427051182, 170179418, 4165941337, 746937522, 3740196785, 3451792453, 1070968646, 1905808397, 2213795598, 2426610938, 1657317369, 3053634322, 1147748369, 1463399397, 2773627110, 4215344322, 153784257, 444234805, 3893493558, 1021025245, 3467647198, 3722505002, 797665321, 2197175160, 1889384571, 1674398607, 2443626636, 1164749927, 3070701412, 2757221520, 1446797203, 137323447, 4198817972, 3910406976, 461344835, 3484808360, 1037989803, 781091935, 3705997148, 2460548119, 1623424788, 1939049696, 2180517859, 1429367560, 2807687179, 3020495871, 1180866812, 410100952, 3927582683, 4182430767, 186734380, 3756733383, 763408580, 1053836080, 3434856499, 2722870694, 1344288421, 1131464017, 2971354706, 1708204729, 2545590714, 2229949006, 1988219213, 680717673, 3673779818, 3383336350, 1002577565, 4010310262, 493091189, 238226049, 4233660802, 2987750089, 1082061258, 1395524158, 2705686845, 1972364758, 2279892693, 2494862625, 1725896226, 952904198, 3399985413, 3656866545, 731699698, 4283874585, 222117402, 510512622, 3959836397, 3280807620, 837199303, 582374963, 3504198960, 68661723, 4135334616, 3844915500, 390545967, 1230274059, 3141532936, 2825850620, 1510247935, 2395924756, 2091215383, 1878366691, 2644384480, 3553878443, 565732008, 854102364, 3229815391, 340358836, 3861050807, 4117890627, 119113024, 1493875044, 2875275879, 3090270611, 1247431312, 2660249211, 1828433272, 2141937292, 2378227087, 3811616794, 291187481, 34330861, 4032846830, 615137029, 3603020806, 3314634738, 939183345, 1776939221, 2609017814, 2295496738, 2058945313, 2926798794, 1545135305, 1330124605, 3173225534, 4084100981, 17165430, 307568514, 3762199681, 888469610, 3332340585, 3587147933, 665062302, 2042050490, 2346497209, 2559330125, 1793573966, 3190661285, 1279665062, 1595330642, 2910671697]
set_option maxHeartbeats 4000000 in
theorem known_calls (w : World) : Calls Tryz.prog 124 #[] w fun e w' => e = .returned (.agg (tabK.map (Value.int .u32)).toArray) ∧ Below w.heap.size w w' := by
  go_enter Tryz.func124, Tryz.ntmps124
  apply wp_seq_k; intro K0 hK0
  have HK := Aside0.mk hK0
  clear hK0
  go_wp2
  refine HK.out _ _ ?_
  clear HK K0
  apply wp_seq_k; intro K1 hK1
  apply wp_region_lit
  refine wpList_buildFlatArrTo rfl 172 120 256 _ rfl .u32 tabK (some 1) rfl (by as_aux_lemma => kernel_rfl) (by as_aux_lemma => kernel_rfl) (by as_aux_lemma => kernel_rfl) (by as_aux_lemma => kernel_rfl) ?_
  refine wpList_store_rowTo rfl 172 _ _ rfl rfl w.heap.size (tabK.map (Value.int .u32)).toArray rfl rfl 172 Tryz.zeroCells172 (heap_alloc_last w _) (by as_aux_lemma => kernel_rfl) (by as_aux_lemma => kernel_rfl) (by as_aux_lemma => kernel_rfl) ?_
  rw [World.setRow_alloc_new]
  apply wpList_nil
  refine hK1 _ _ ?_
  clear hK1 K1
  apply wp_ret
  refine bodyPost_ret (v := .agg (tabK.map (Value.int .u32)).toArray) ?_ rfl ⟨rfl, (Below.refl _ _).alloc (Nat.le_refl _) _⟩
  exact results_cell_row (p := 0) (ty := 172) rfl _ _ w.heap.size 172 _ (0, 0) (.array 256 120) rfl (heap_alloc_last w _) (by as_aux_lemma => kernel_rfl) rfl (by as_aux_lemma => kernel_rfl)
end Go.Proofs.YtmajfcdfafhkfaaGreatDoor.Leaf
namespace Go.Proofs.YtmajfcdfafhkfaaGreatDoor.Leaf
open Go.RowKit Go.Proofs.YtmajfcdfafhkfaaGreatDoorW.PrintWords
set_option linter.unusedVariables false
theorem run_index_tab {P : Program} {T n e : Nat} {kk k : IntKind} {tab : List Int} (hu : P.underlying T = some (.array n e)) (hl : tab.length = n)
    (hs : ∀ w, (sizeOf e).run P w = .ok 1 w) (ha : ∀ w, (isAgg e).run P w = .ok false w) (i : Int) (h0 : 0 ≤ i) (h1 : i < n) (w : World) :
    (Instr.index T (.agg (tab.map (Value.int kk)).toArray) (.int k i)).run P w = .ok (.int kk (rd tab i)) w := by
  have hj : i.toNat < tab.length := by omega
  unfold Instr.index part
  simp only [asIntOf, Sem.run_bind, Sem.run_pure, Result.andThen_ok, run_underlying hu, h0, h1, and_self, if_true, hs, ha, Nat.mul_one, Bool.false_eq_true, if_false]
  have : ((tab.map (Value.int kk)).toArray)[i.toNat]? = some (.int kk (rd tab i)) := by
    rw [List.getElem?_toArray, List.getElem?_map, List.getElem?_eq_getElem hj]
    simp [rd, List.getD_eq_getElem?_getD, List.getElem?_eq_getElem hj]
  rw [this]
  rfl
theorem lenK : tabK.length = 256 := by as_aux_lemma => kernel_rfl
theorem index_K (k : IntKind) (i : Int) (h0 : 0 ≤ i) (h1 : i < 256) (w : World) : (Instr.index 172 (.agg (tabK.map (Value.int .u32)).toArray) (.int k i)).run Tryz.prog w = .ok (.int .u32 (rd tabK i)) w :=
  run_index_tab Tryz.underlying172 lenK Tryz.sizeOf120 Tryz.isAgg120 i h0 h1 w
attribute [local irreducible] tabE tabL tabK
end Go.Proofs.YtmajfcdfafhkfaaGreatDoor.Leaf
namespace Go.Proofs.YtmajfcdfafhkfaaGreatDoor.Leaf
open Go.RowKit Go.Proofs.YtmajfcdfafhkfaaGreatDoorW.PrintWords
set_option linter.unusedVariables false
attribute [local irreducible] tabE tabL tabK
def stepK (x c : Int) : Int := Go.bits .xor .u32 (rd tabK (Go.bits .xor .u8 (x % 256) c)) (x / 256)
theorem bits_u8_range (op : BinOp) (a b : Int) : 0 ≤ Go.bits op .u8 a b ∧ Go.bits op .u8 a b < 256 := by
  unfold Go.bits
  simp only [IntKind.wrap_u8]
  omega
theorem known_step (w0 w : World) (h : Below w0.heap.size w0 w) : Calls Tryz.prog 124 #[] w fun e w' => e = .returned (.agg (tabK.map (Value.int .u32)).toArray) ∧ Below w0.heap.size w0 w' :=
  (known_calls w).mono fun _ _ ⟨a, b⟩ => ⟨a, below_step h b⟩
def sum_More.f (a0 : Int) (l1 : List Int) : Option Int := some (Go.bits .xor .u32 IntKind.u32.max (l1.foldl stepK (Go.bits .xor .u32 IntKind.u32.max a0)))
theorem fold_take (l : List Int) (x : Int) (i : Nat) (h : i < l.length) : (l.take (i + 1)).foldl stepK x = stepK ((l.take i).foldl stepK x) (rd l i) := by
  rw [List.take_succ_eq_append_getElem h, List.foldl_append]
  simp [rd, List.getD_eq_getElem?_getD, List.getElem?_eq_getElem h]
set_option maxHeartbeats 1000000 in
set_option maxRecDepth 100000 in
theorem sum_More.calls (a0 : Int) (A1 : Option Addr) (c1 : Nat) (l1 : List Int) (r : Int) (w : World) (hr1 : Kd.C (Kd.int .u8) w A1 l1.length l1) (hc1 : l1.length ≤ c1) (h : sum_More.f a0 l1 = some r) :
    Calls Tryz.prog 111 #[.int .u32 a0, .slice A1 l1.length c1] w fun e w' => e = .returned (.int .u32 r) ∧ Below w.heap.size w w' := by
  obtain rfl := Option.some.inj h
  clear h
  have hl : l1.length ≤ 9223372036854775807 := hr1.2.1
  have HR := Aside0.mk hr1
  have HX := Aside0.mk (fold_take l1)
  have HT := Aside0.mk (List.take_length (l := l1))
  have hs : IntKind.u32.signed = false := rfl
  clear hr1
  go_enter Tryz.func111, Tryz.ntmps111
  go_wp2
  go_loopw [5, 12] (fun x i wr => ∃ k : Nat, k ≤ l1.length ∧ i = .int .i64 k ∧ x = .int .u32 ((l1.take k).foldl stepK (Go.bits .xor .u32 (IntKind.u32.max) a0)) ∧ Below w.heap.size w wr) (fun _ i _ => l1.length - (intOf i).toNat)
  case atStart => exact ⟨0, Nat.zero_le _, rfl, rfl, Below.refl _ _⟩
  case round =>
    obtain ⟨k, hk, rfl, rfl, hB⟩ := hrel
    by_cases hlt : k < l1.length
    · obtain ⟨ad, e1, hx⟩ := Kd.at_int (Kd.C_below HR.out hB) (k : Int) (by omega) (by omega)
      cases e1
      have he := HX.out (Go.bits .xor .u32 (IntKind.u32.max) a0) k hlt
      generalize rd l1 k = c at hx he
      generalize (l1.take k).foldl stepK (Go.bits .xor .u32 (IntKind.u32.max) a0) = x at he ⊢
      have hb := bits_u8_range .xor (x % 256) c
      have xi := index_K .u8 _ hb.1 hb.2
      clear hb
      have hB' := Aside0.mk hB
      have he' := Aside0.mk he
      clear hB he HR HX HT
      rw [show ((k : Int)).toNat = k from rfl] at hx
      go_wp2_with (first | (go_at_call 124; refine (known_step w _ hB'.out).mono ?_; rintro e w' ⟨rfl, hb⟩; have hB2 := Aside0.mk hb; clear hb))
      exact ⟨⟨k + 1, hlt, by rw [Int.natCast_add]; rfl, by rw [he'.out]; rfl, hB2.out⟩, by simp [intOf]; omega⟩
    · have hk' : k = l1.length := by omega
      subst hk'
      rw [HT.out]
      go_wp2
      go_ret
      exact ⟨rfl, hB⟩
end Go.Proofs.YtmajfcdfafhkfaaGreatDoor.Leaf
namespace Go.Proofs.YtmajfcdfafhkfaaGreatDoor.Leaf
open Go.RowKit Go.Proofs.YtmajfcdfafhkfaaGreatDoorW.PrintWords Go.Proofs.YtmajfcdfafhkfaaGreatDoorW.PrintLast
set_option linter.unusedVariables false
set_option linter.unusedSimpArgs false
def errW : Option Int → Value
  | none => .nilIface
  | some c => .iface 0 (.int .i64 c)
theorem errW_none : errW none = .nilIface := rfl
theorem errW_some (c : Int) : errW (some c) = .iface 0 (.int .i64 c) := rfl
theorem info5 : (Tryz.prog.info? 5).map (fun i => (i.zero, i.size, i.bytes)) = some (some (.int .u8 0), 1, 1) := by kernel_rfl
def cloneF (l0 : List Int) : Option (List Int) := (some (([] : List Int) : List Int)).bind fun y185 => (if y185.length + l0.length < 140737488355328 then (some (y185 ++ l0)) else (none))
set_option maxHeartbeats 8000000 in
set_option maxRecDepth 100000 in
theorem clone_some (ad0 : Addr) (c0 : Nat) (l0 : List Int) (r : List Int) (w : World) (hr0 : Kd.C (Kd.int .u8) w (some ad0) l0.length l0) (hc0 : l0.length ≤ c0) (h : cloneF l0 = some r) :
    Calls Tryz.prog 46 #[.slice (some ad0) l0.length c0] w fun e w' => ∃ v0_ : Value, e = .returned (v0_) ∧ Kd.R (Kd.int .u8) 5 w' w.heap.size (fun _ => True) v0_ r ∧ Below w.heap.size w w' := by
  have HR0 := Aside0.mk hr0
  have HC0 := Aside0.mk hc0
  clear hr0 hc0
  have HB := Aside0.mk (Below.refl w.heap.size w)
  have H : ((some (([] : List Int) : List Int)).bind fun y185 => (if y185.length + l0.length < 140737488355328 then (some (y185 ++ l0)) else (none))) = some r := h
  clear h
  obtain ⟨y185, hy185⟩ : ∃ y_ : List Int, y_ = (([] : List Int)) := ⟨_, rfl⟩
  replace H : (if y185.length + l0.length < 140737488355328 then (some (y185 ++ l0)) else (none)) = some r := by first | (rw [hy185]; with_reducible exact H) | (have H2_ := (Option.bind_some _ _).symm.trans H; rw [hy185]; with_reducible exact H2_) | (have H2_ := (Option.bind_some _ _).symm.trans H; with_reducible exact H2_) | with_reducible exact H | (rw [hy185]; exact H) | exact H
  have Ny185 := Aside0.mk hy185
  clear hy185
  by_cases c2 : y185.length + l0.length < 140737488355328
  · rw [if_pos c2] at H
    have LMc2 := Aside0.mk c2
    clear c2
    obtain ⟨y188, hy188⟩ : ∃ y_ : List Int, y_ = (y185 ++ l0) := ⟨_, rfl⟩
    replace H : (some y188) = some r := by first | (rw [hy188]; with_reducible exact H) | (have H2_ := (Option.bind_some _ _).symm.trans H; rw [hy188]; with_reducible exact H2_) | (have H2_ := (Option.bind_some _ _).symm.trans H; with_reducible exact H2_) | with_reducible exact H | (rw [hy188]; exact H) | exact H
    have Ny188 := Aside0.mk hy188
    clear hy188
    obtain rfl := Option.some.inj H
    have hq := fun (w : World) => Lib.run_eql_slice_nil (P := Tryz.prog) w 23 5 (some ad0) l0.length c0 0 0 Tryz.underlying23
    go_enter Tryz.func46, Tryz.ntmps46
    go_wp2_with (first | ((with_reducible refine gate_dst (N := 5) rfl ?_); refine Kd.R_lit (Kd.int .u8) _ 5 ?hg (N := 5) ?hd (xs := ([] : List Int)) (inner := []) (ok := fun _ => True) (okp := fun _ => True) ?hr ?hp (fun _ hk => hk) trivial (Below.refl _ _) (Nat.le_refl _) (by simp) ?_; (case hd => rfl); (case hg => rfl); (case hr => first | (go_simp; done) | (go_simp; rfl)); (case hp => exact (Reps.none _ _)); intro v186 w3 ho4 hb hg_ hnew_; clear hg_ hnew_; (first | rw [← Ny185.out] at ho4 | (simp only [Int.reduceToNat] at ho4; rw [← Ny185.out] at ho4)); have n0_ := Aside0.mk (Kd.R_lower ho4 (below_size (by repeat (first | (with_reducible first | exact HB.out | apply below_alloc | apply pw_below_drewN | apply below_drew1) | exact HB.out)))); have n1_ := Aside0.mk (below_step (by repeat (first | (with_reducible first | exact HB.out | apply below_alloc | apply pw_below_drewN | apply below_drew1) | exact HB.out)) hb); clear HB; have HO187 := n0_; have HB := n1_; clear n0_ n1_; clear hb ho4) | ((with_reducible refine gate_builtin (b := .append) (xs := #[.tmp 5, .tmp 6]) rfl ?_); at_builtin; refine Kd.R_append_rows (Kd.int .u8) (w0 := w) w.heap.size rfl (.tmp 5) (.tmp 6) 23 5 (.int .u8 0) 1 rfl Tryz.underlying23 info5 rfl (by decide) (by omega) v186 y185 l0 _ _ _ (fun _ => True) (fun _ => False) rfl rfl ?aO ?aR (fun _ _ h => h) (fun _ h => h.elim) ?aF ?aB ?aS ?aL ?_; (case aR => repeat (first | exact (Kd.C_below HR0.out HB.out) | (with_reducible refine Kd.C_alloc ?_ _) | (with_reducible refine Kd.C_drewN ?_ _) | (with_reducible refine Kd.C_drew ?_))); (case aB => exact (by repeat (first | (with_reducible first | exact HB.out | apply below_alloc | apply pw_below_drewN | apply below_drew1) | exact HB.out))); (case aF => exact (fun _ _ => trivial)); (case aO => exact (by (with_reducible repeat (first | apply Kd.R_alloc | apply Kd.R_drewN | apply Kd.R_drew)); exact HO187.out)); (case aS => exact (below_size (by repeat (first | (with_reducible first | exact HB.out | apply below_alloc | apply pw_below_drewN | apply below_drew1) | exact HB.out)))); (case aL => have := LMc2.out; omega); intro v189 w5 ho hb hg hat; rw [← Ny188.out] at ho; have n0_ := Aside0.mk (hb); have n1_ := Aside0.mk (ho); clear HB; clear HO187; have HB := n0_; have HO190 := n1_; clear n0_ n1_; clear ho hb hg hat))
    go_ret
    exact ⟨_, by first | rfl | (simp [errW_none, errW_some] <;> rfl) | (simp [*, errW_none, errW_some] <;> rfl), by (with_reducible repeat (first | apply Kd.R_alloc | apply Kd.R_drewN | apply Kd.R_drew)); exact HO190.out, by repeat (first | (with_reducible first | exact HB.out | apply below_alloc | apply pw_below_drewN | apply below_drew1) | exact HB.out)⟩
  · rw [if_neg c2] at H
    exact absurd H (by simp)
def slices_Clone_byte_byte.f (l0 : List Int) : Option (List Int) := if l0.length < 140737488355328 then some l0 else none
theorem cloneF_eq (l0 : List Int) : cloneF l0 = slices_Clone_byte_byte.f l0 := by simp [cloneF, slices_Clone_byte_byte.f]
set_option maxHeartbeats 8000000 in
set_option maxRecDepth 100000 in
theorem slices_Clone_byte_byte.calls (A0 : Option Addr) (c0 : Nat) (l0 : List Int) (r : List Int) (w : World) (hr0 : Kd.C (Kd.int .u8) w A0 l0.length l0) (hc0 : l0.length ≤ c0) (h : slices_Clone_byte_byte.f l0 = some r) :
    Calls Tryz.prog 46 #[.slice A0 l0.length c0] w fun e w' => ∃ v0_ : Value, e = .returned (v0_) ∧ Kd.R (Kd.int .u8) 5 w' w.heap.size (fun _ => True) v0_ r ∧ Below w.heap.size w w' := by
  cases A0 with
  | some ad0 => exact clone_some ad0 c0 l0 r w hr0 hc0 (by rw [cloneF_eq]; exact h)
  | none =>
    have hl : l0 = [] := by
      rcases Nat.eq_zero_or_pos l0.length with h0 | h0
      · exact List.length_eq_zero_iff.1 h0
      · obtain ⟨ad, e, _⟩ := hr0.2.2 h0
        cases e
    subst hl
    obtain rfl : [] = r := by simpa [slices_Clone_byte_byte.f] using h
    clear h hr0 hc0
    have hq := fun (w : World) => Lib.run_eql_slice_nil (P := Tryz.prog) w 23 5 none 0 c0 0 0 Tryz.underlying23
    go_enter Tryz.func46, Tryz.ntmps46
    go_wp2
    go_ret
    exact ⟨_, rfl, Kd.R_nil _ _ _ _ _, Below.refl _ _⟩
end Go.Proofs.YtmajfcdfafhkfaaGreatDoor.Leaf
namespace Go.Proofs.YtmajfcdfafhkfaaGreatDoor.Leaf
open Go.RowKit Go.Proofs.YtmajfcdfafhkfaaGreatDoorW.PrintWords Go.Proofs.YtmajfcdfafhkfaaGreatDoorW.PrintLast
set_option linter.unusedVariables false
set_option linter.unusedSimpArgs false
abbrev KR : Kd (List Int) := Kd.slice 5 (Kd.int .u8)
end Go.Proofs.YtmajfcdfafhkfaaGreatDoor.Leaf
namespace Go.Proofs.YtmajfcdfafhkfaaGreatDoor.Leaf
open Go.RowKit Go.Proofs.YtmajfcdfafhkfaaGreatDoorW.PrintWords Go.Proofs.YtmajfcdfafhkfaaGreatDoorW.PrintLast
set_option linter.unusedVariables false
set_option linter.unusedSimpArgs false
def sum_Of.f (l0 : List Int) : Option Int := sum_More.f 0 l0
set_option maxHeartbeats 1000000 in
theorem sum_Of.calls (A0 : Option Addr) (c0 : Nat) (l0 : List Int) (r : Int) (w : World) (hr0 : Kd.C (Kd.int .u8) w A0 l0.length l0) (hc0 : l0.length ≤ c0) (h : sum_Of.f l0 = some r) :
    Calls Tryz.prog 91 #[.slice A0 l0.length c0] w fun e w' => e = .returned (.int .u32 r) ∧ Below w.heap.size w w' := by
  have H := Aside0.mk (sum_More.calls 0 A0 c0 l0 r w hr0 hc0 h)
  clear hr0 h
  go_enter Tryz.func91, Tryz.ntmps91
  go_wp2_with (go_at_call 111; refine H.out.mono ?_; rintro e w' ⟨rfl, hb⟩)
  go_ret
  exact ⟨rfl, hb⟩
end Go.Proofs.YtmajfcdfafhkfaaGreatDoor.Leaf
namespace Go.Proofs.YtmajfcdfafhkfaaGreatDoor.P
open Go.Proofs.YtmajfcdfafhkfaaGreatDoor.Leaf
open Go.RowKit Go.Proofs.YtmajfcdfafhkfaaGreatDoorW.PrintWords Go.Proofs.YtmajfcdfafhkfaaGreatDoorW.PrintLast Go.Proofs.YtmajfcdfafhkfaaGreatDoorW.PrintMore
attribute [local go_sem] max2_int min2_int max_two min_two max_three min_three max_four min_four   -- for this text's walks alone
set_option linter.unusedVariables false
set_option linter.unusedSimpArgs false
def errW : Option Int → Value
 | none => .nilIface
 | some c => .iface 0 (.int .i64 c)
theorem errW_none : errW none = .nilIface := rfl
theorem errW_some (c : Int) : errW (some c) = .iface 0 (.int .i64 c) := rfl
theorem info5 : (Tryz.prog.info? 5).map (fun i => (i.zero, i.size, i.bytes)) = some (some (.int .u8 0), 1, 1) := by kernel_rfl
theorem info23 : (Tryz.prog.info? 23).map (fun i => (i.zero, i.size, i.bytes)) = some (some (.slice none 0 0), 1, 24) := by kernel_rfl
theorem info62 : (Tryz.prog.info? 62).map (fun i => (i.zero, i.size, i.bytes)) = some (some (.agg #[(.string ⟨#[]⟩), (.bool false), (.slice none 0 0)]), 3, 48) := by kernel_rfl
structure S62 where
 f0 : ByteArray
 f1 : Bool
 f2 : (List Int)
def z62 : S62 := ⟨(⟨#[]⟩ : ByteArray), false, ([] : List Int)⟩
def k62 : Kd S62 := Kd.iso (Kd.pair Kd.string (Kd.pair Kd.bool (Kd.slice 5 (Kd.int .u8)))) (fun x : S62 => (x.f0, x.f1, x.f2))
theorem k62_open {w : World} {x : S62} {cs : List Value} (h : k62.K w x cs) : ∃ A2 c2, cs = [.string x.f0, .bool x.f1, .slice A2 x.f2.length c2] ∧ x.f2.length ≤ c2 ∧ (Kd.int .u8).C w A2 x.f2.length x.f2 := by
 obtain ⟨_, _, rfl, rfl, ⟨_, _, rfl, rfl, ⟨A2, c2, rfl, l2, g2⟩⟩⟩ := h
 exact ⟨A2, c2, rfl, l2, g2⟩
theorem k62_mk (w : World) (x : S62) {A2 : Option Addr} {c2 : Nat} (l2 : x.f2.length ≤ c2) (g2 : (Kd.int .u8).C w A2 x.f2.length x.f2) : k62.K w x [.string x.f0, .bool x.f1, .slice A2 x.f2.length c2] := ⟨[.string x.f0], [.bool x.f1, .slice A2 x.f2.length c2], rfl, rfl, ⟨[.bool x.f1], [.slice A2 x.f2.length c2], rfl, rfl, ⟨A2, c2, rfl, l2, g2⟩⟩⟩
theorem k62_mkM (w : World) (base : Nat) (ok : Nat → Prop) (x : S62) {v2 : Value} (g2 : (Kd.int .u8).R 5 w base ok v2 x.f2) : k62.M w base ok x [.string x.f0, .bool x.f1, v2] := ⟨[.string x.f0], [.bool x.f1, v2], rfl, rfl, ⟨[.bool x.f1], [v2], rfl, rfl, ⟨v2, rfl, g2⟩⟩⟩
def rd_T62 (xs : List S62) (i : Int) : S62 := xs.getD i.toNat z62
theorem at_T62 {w : World} {A : Option Addr} {n : Nat} {xs : List S62} (h : Kd.C k62 w A n xs) (i : Int) (h0 : 0 ≤ i) (h1 : i < n) : ∃ ad A2 c2, A = some ad ∧ w.cell? (ad.add (i.toNat * 3)) = some (.string (rd_T62 xs i).f0) ∧ w.cell? ⟨(ad.add (i.toNat * 3)).block, (ad.add (i.toNat * 3)).off + 1, none⟩ = some (.bool (rd_T62 xs i).f1) ∧ w.cell? ⟨(ad.add (i.toNat * 3)).block, (ad.add (i.toNat * 3)).off + 2, none⟩ = some (.slice A2 (rd_T62 xs i).f2.length c2) ∧ (rd_T62 xs i).f2.length ≤ c2 ∧ (Kd.int .u8).C w A2 (rd_T62 xs i).f2.length (rd_T62 xs i).f2 := by
 obtain ⟨ad, c, e, _, hK, hc0⟩ := Kd.C_get h z62 i h0 h1
 have hc : ∀ j u, c[j]? = some u → w.cell? (ad.add (i.toNat * 3 + j)) = some u := hc0
 obtain ⟨A2, c2, rfl, l2, g2⟩ := k62_open hK
 exact ⟨ad, A2, c2, e, hc 0 _ rfl, by rw [← add_field _ _ 1 (by omega)]; exact hc 1 _ rfl, by rw [← add_field _ _ 2 (by omega)]; exact hc 2 _ rfl, l2, g2⟩
end Go.Proofs.YtmajfcdfafhkfaaGreatDoor.P
namespace Go.Proofs.YtmajfcdfafhkfaaGreatDoor.P
open Go.Proofs.YtmajfcdfafhkfaaGreatDoor.Leaf
open Go.RowKit Go.Proofs.YtmajfcdfafhkfaaGreatDoorW.PrintWords Go.Proofs.YtmajfcdfafhkfaaGreatDoorW.PrintLast Go.Proofs.YtmajfcdfafhkfaaGreatDoorW.PrintMore
attribute [local go_sem] max2_int min2_int max_two min_two max_three min_three max_four min_four   -- for this text's walks alone
set_option linter.unusedVariables false
set_option linter.unusedSimpArgs false
def sum_Append.f (l0 : List Int) : Option (List Int) := (sum_Of.f l0).bind fun t101 => ((slices_Clone_byte_byte.f l0).bind fun t102 => ((some (([(t101) % 256, (t101 / 256) % 256, (t101 / 65536) % 256, (t101 / 16777216) % 256] : List Int) : List Int)).bind fun y105 => (if t102.length + y105.length < 140737488355328 then (some (t102 ++ y105)) else (none))))
set_option maxHeartbeats 8000000 in
set_option maxRecDepth 100000 in
theorem sum_Append.calls (A0 : Option Addr) (c0 : Nat) (l0 : List Int) (r : List Int) (w : World) (hr0 : Kd.C (Kd.int .u8) w A0 l0.length l0) (hc0 : l0.length ≤ c0) (h : sum_Append.f l0 = some r) :
  Calls Tryz.prog 84 #[.slice A0 l0.length c0] w fun e w' => ∃ v0_ : Value, e = .returned (v0_) ∧ Kd.R (Kd.int .u8) 5 w' w.heap.size (fun _ => True) v0_ r ∧ Below w.heap.size w w' := by
 have HR0 := Aside0.mk hr0
 have HC0 := Aside0.mk hc0
 clear hr0 hc0
 have HB := Aside0.mk (Below.refl w.heap.size w)
 have H : ((sum_Of.f l0).bind fun t101 => ((slices_Clone_byte_byte.f l0).bind fun t102 => ((some (([(t101) % 256, (t101 / 256) % 256, (t101 / 65536) % 256, (t101 / 16777216) % 256] : List Int) : List Int)).bind fun y105 => (if t102.length + y105.length < 140737488355328 then (some (t102 ++ y105)) else (none))))) = some r := h
 clear h
 replace H := Option.bind_eq_some_iff.mp H
 obtain ⟨t101, A20, H⟩ := H
 replace H : ((slices_Clone_byte_byte.f l0).bind fun t102 => ((some (([(t101) % 256, (t101 / 256) % 256, (t101 / 65536) % 256, (t101 / 16777216) % 256] : List Int) : List Int)).bind fun y105 => (if t102.length + y105.length < 140737488355328 then (some (t102 ++ y105)) else (none)))) = some r := H
 have A2 := Aside0.mk A20
 clear A20
 replace H := Option.bind_eq_some_iff.mp H
 obtain ⟨t102, A30, H⟩ := H
 replace H : ((some (([(t101) % 256, (t101 / 256) % 256, (t101 / 65536) % 256, (t101 / 16777216) % 256] : List Int) : List Int)).bind fun y105 => (if t102.length + y105.length < 140737488355328 then (some (t102 ++ y105)) else (none))) = some r := H
 have A3 := Aside0.mk A30
 clear A30
 obtain ⟨y105, hy105⟩ : ∃ y_ : List Int, y_ = (([(t101) % 256, (t101 / 256) % 256, (t101 / 65536) % 256, (t101 / 16777216) % 256] : List Int)) := ⟨_, rfl⟩
 replace H : (if t102.length + y105.length < 140737488355328 then (some (t102 ++ y105)) else (none)) = some r := by first | (rw [hy105]; with_reducible exact H) | (have H2_ := (Option.bind_some _ _).symm.trans H; rw [hy105]; with_reducible exact H2_) | (have H2_ := (Option.bind_some _ _).symm.trans H; with_reducible exact H2_) | with_reducible exact H | (rw [hy105]; exact H) | exact H
 have Ny105 := Aside0.mk hy105
 clear hy105
 by_cases c4 : t102.length + y105.length < 140737488355328
 ·rw [if_pos c4] at H
  have LMc4 := Aside0.mk c4
  clear c4
  obtain ⟨y108, hy108⟩ : ∃ y_ : List Int, y_ = (t102 ++ y105) := ⟨_, rfl⟩
  replace H : (some y108) = some r := by first | (rw [hy108]; with_reducible exact H) | (have H2_ := (Option.bind_some _ _).symm.trans H; rw [hy108]; with_reducible exact H2_) | (have H2_ := (Option.bind_some _ _).symm.trans H; with_reducible exact H2_) | with_reducible exact H | (rw [hy108]; exact H) | exact H
  have Ny108 := Aside0.mk hy108
  clear hy108
  obtain rfl := Option.some.inj H
  go_enter Tryz.func84, Tryz.ntmps84
  go_wp2_with (first | ((with_reducible refine gate_callee (f := 91) rfl ?_); refine goesL_ (some 5) rfl rfl Tryz.func91 (by kernel_rfl) rfl #[.slice A0 l0.length c0] rfl (by (try simp only [List.map_toArray, List.map_cons, List.map_nil]); first | done | rfl | (simp only [List.length_drop, List.length_take]; rfl)) ?_; (with_reducible refine (sum_Of.calls _ _ l0 t101 _ ?side1 ?side2 A2.out).mono ?_); (case side1 => repeat (first | exact HR0.out | (with_reducible refine Kd.C_alloc ?_ _) | (with_reducible refine Kd.C_drewN ?_ _) | (with_reducible refine Kd.C_drew ?_))); (case side2 => exact HC0.out); rintro e w5 ⟨rfl, hb⟩; refine ⟨_, rfl, ?_⟩; have n0_ := Aside0.mk (below_step (by repeat (first | (with_reducible first | exact HB.out | apply below_alloc | apply pw_below_drewN | apply below_drew1) | exact HB.out)) hb); clear HB; have HB := n0_; clear n0_; (try clear hb); (try clear hb2); (try clear hk); (try clear hi)) | ((with_reducible refine gate_callee (f := 46) rfl ?_); refine goesL_ (some 7) rfl rfl Tryz.func46 (by kernel_rfl) rfl #[.slice A0 l0.length c0] rfl (by (try simp only [List.map_toArray, List.map_cons, List.map_nil]); first | done | rfl | (simp only [List.length_drop, List.length_take]; rfl)) ?_; (with_reducible refine (slices_Clone_byte_byte.calls _ _ l0 t102 _ ?side1 ?side2 A3.out).mono ?_); (case side1 => repeat (first | exact (Kd.C_below HR0.out HB.out) | (with_reducible refine Kd.C_alloc ?_ _) | (with_reducible refine Kd.C_drewN ?_ _) | (with_reducible refine Kd.C_drew ?_))); (case side2 => exact HC0.out); rintro e w6 ⟨v103, rfl, ho0, hb⟩; refine ⟨_, rfl, ?_⟩; have n0_ := Aside0.mk (Kd.R_lower ho0 (below_size (by repeat (first | (with_reducible first | exact HB.out | apply below_alloc | apply pw_below_drewN | apply below_drew1) | exact HB.out)))); have n1_ := Aside0.mk (below_step (by repeat (first | (with_reducible first | exact HB.out | apply below_alloc | apply pw_below_drewN | apply below_drew1) | exact HB.out)) hb); clear HB; have HO104 := n0_; have HB := n1_; clear n0_ n1_; (try clear hb); (try clear hb2); (try clear hk); (try clear hi); (try clear ho0)) | ((with_reducible refine gate_dst (N := 19) rfl ?_); refine Kd.R_lit (Kd.int .u8) _ 5 ?hg (N := 19) ?hd (xs := ([(t101) % 256, (t101 / 256) % 256, (t101 / 65536) % 256, (t101 / 16777216) % 256] : List Int)) (inner := [.int .u8 ((t101) % 256), .int .u8 ((t101 / 256) % 256), .int .u8 ((t101 / 65536) % 256), .int .u8 ((t101 / 16777216) % 256)]) (ok := fun _ => True) (okp := fun _ => True) ?hr ?hp (fun _ hk => hk) trivial (Below.refl _ _) (Nat.le_refl _) (by simp) ?_; (case hd => rfl); (case hg => rfl); (case hr => first | (go_simp; done) | (go_simp; rfl)); (case hp => exact (Reps.one (show Kd.M (Kd.int .u8) _ _ _ ((t101) % 256) [.int .u8 ((t101) % 256)] from rfl) (Reps.one (show Kd.M (Kd.int .u8) _ _ _ ((t101 / 256) % 256) [.int .u8 ((t101 / 256) % 256)] from rfl) (Reps.one (show Kd.M (Kd.int .u8) _ _ _ ((t101 / 65536) % 256) [.int .u8 ((t101 / 65536) % 256)] from rfl) (Reps.one (show Kd.M (Kd.int .u8) _ _ _ ((t101 / 16777216) % 256) [.int .u8 ((t101 / 16777216) % 256)] from rfl) (Reps.none _ _)))))); intro v106 w7 ho8 hb hg_ hnew_; clear hg_ hnew_; (first | rw [← Ny105.out] at ho8 | (simp only [Int.reduceToNat] at ho8; rw [← Ny105.out] at ho8)); have n0_ := Aside0.mk (Kd.R_elder' (by (with_reducible repeat (first | apply Kd.R_alloc | apply Kd.R_drewN | apply Kd.R_drew)); exact HO104.out) (Kd.R_base ho8) hb); have n1_ := Aside0.mk (Kd.R_lower (Kd.R_new' ho8 (Kd.R_lt (by (with_reducible repeat (first | apply Kd.R_alloc | apply Kd.R_drewN | apply Kd.R_drew)); exact HO104.out))) (below_size (by repeat (first | (with_reducible first | exact HB.out | apply below_alloc | apply pw_below_drewN | apply below_drew1) | exact HB.out)))); have n2_ := Aside0.mk (below_step (by repeat (first | (with_reducible first | exact HB.out | apply below_alloc | apply pw_below_drewN | apply below_drew1) | exact HB.out)) hb); clear HO104; clear HB; have HO104 := n0_; have HO107 := n1_; have HB := n2_; clear n0_ n1_ n2_; clear hb ho8; obtain ⟨Ao10, co10, eo10⟩ := Kd.R_slice HO107.out; subst eo10) | ((with_reducible refine gate_builtin (b := .append) (xs := #[.tmp 7, .tmp 19]) rfl ?_); at_builtin; refine Kd.R_append_rows (Kd.int .u8) (w0 := w) w.heap.size rfl (.tmp 7) (.tmp 19) 23 5 (.int .u8 0) 1 rfl Tryz.underlying23 info5 rfl (by decide) (by omega) v103 t102 y105 _ _ _ (fun k_ => some k_ ≠ (.slice Ao10 y105.length co10 : Value).ownBlock) (fun _ => False) rfl rfl ?aO ?aR (fun _ _ h => h) (fun _ h => h.elim) ?aF ?aB ?aS ?aL ?_; (case aR => repeat (first | exact (Kd.R_reads' HO107.out).2.2 | (with_reducible refine Kd.C_alloc ?_ _) | (with_reducible refine Kd.C_drewN ?_ _) | (with_reducible refine Kd.C_drew ?_))); (case aB => exact (by repeat (first | (with_reducible first | exact HB.out | apply below_alloc | apply pw_below_drewN | apply below_drew1) | exact HB.out))); (case aF => exact (fun k_ hk => Kd.fresh' (Kd.R_lt (by (with_reducible repeat (first | apply Kd.R_alloc | apply Kd.R_drewN | apply Kd.R_drew)); exact HO107.out)) k_ hk)); (case aO => exact (by (with_reducible repeat (first | apply Kd.R_alloc | apply Kd.R_drewN | apply Kd.R_drew)); exact Kd.R_mono HO104.out (fun _ hk => hk.2))); (case aS => exact (below_size (by repeat (first | (with_reducible first | exact HB.out | apply below_alloc | apply pw_below_drewN | apply below_drew1) | exact HB.out)))); (case aL => have := LMc4.out; omega); intro v109 w9 ho hb hg hat; rw [← Ny108.out] at ho; have n0_ := Aside0.mk (Kd.R_after (ok := (fun _ => True)) (by (with_reducible repeat (first | apply Kd.R_alloc | apply Kd.R_drewN | apply Kd.R_drew)); exact HO107.out) hg hat); have n1_ := Aside0.mk (hb); have n2_ := Aside0.mk (ho); clear HO107; clear HB; clear HO104; have HO107 := n0_; have HB := n1_; have HO110 := n2_; clear n0_ n1_ n2_; clear ho hb hg hat))
  go_ret
  exact ⟨_, by first | rfl | (simp [errW_none, errW_some] <;> rfl) | (simp [*, errW_none, errW_some] <;> rfl), by (with_reducible repeat (first | apply Kd.R_alloc | apply Kd.R_drewN | apply Kd.R_drew)); exact Kd.R_mono HO110.out (fun _ hk => trivial), by repeat (first | (with_reducible first | exact HB.out | apply below_alloc | apply pw_below_drewN | apply below_drew1) | exact HB.out)⟩
 ·rw [if_neg c4] at H
  exact absurd H (by simp)
end Go.Proofs.YtmajfcdfafhkfaaGreatDoor.P
namespace Go.Proofs.YtmajfcdfafhkfaaGreatDoor.H
open Go.RowKit Go.Proofs.YtmajfcdfafhkfaaGreatDoorW.PrintWords Go.Proofs.YtmajfcdfafhkfaaGreatDoorW.PrintLast Go.Proofs.YtmajfcdfafhkfaaGreatDoor.Leaf Go.Proofs.YtmajfcdfafhkfaaGreatDoor.P
set_option linter.unusedVariables false
set_option linter.unusedSimpArgs false
theorem str_of (W : World) (A : Option Addr) (c : Nat) (l : List Int) (h : Kd.C (Kd.int .u8) W A l.length l) : (Go.convert 23 9 (.slice A l.length c)).run Tryz.prog W = .ok (.string (strOfNums l)) W :=
  Kd.C_string Tryz.underlying23 Tryz.underlying5 Tryz.underlying9 h
def sum_Strip.f (l0 : List Int) : Option (List Int × Bool) :=
  if l0.length < 4 then some ([], false) else
  (sum_Append.f (l0.take (l0.length - 4))).bind fun t => if (strOfNums t).toList = (strOfNums l0).toList then (slices_Clone_byte_byte.f (l0.take (l0.length - 4))).bind fun u => some (u, true) else some ([], false)
theorem take_facts (A : Option Addr) (c : Nat) (l : List Int) (m : Nat) (hm : m ≤ l.length) (hc : l.length ≤ c) : (∀ W : World, (Instr.slice 23 (.slice A l.length c) none (some (.int .i64 (m : Int))) none).run Tryz.prog W = .ok (.slice A (l.take m).length c) W) ∧
    (∀ w : World, Kd.C (Kd.int .u8) w A l.length l → Kd.C (Kd.int .u8) w A (l.take m).length (l.take m)) ∧ (l.take m).length ≤ c := by
  obtain ⟨i0, hi, hz⟩ := Option.map_eq_some_iff.1 P.info5
  simp only [Prod.mk.injEq] at hz
  have h := print_take_int (k := .u8) (P := Tryz.prog) 23 5 Tryz.underlying23 hi hz.2.1 A c l (m : Int) (by omega) (by omega) hc
  exact ⟨h.1, fun w hw => Kd.C_take hw hm, h.2.2⟩
set_option maxHeartbeats 4000000 in
set_option maxRecDepth 100000 in
theorem sum_Strip.calls (A0 : Option Addr) (c0 : Nat) (l0 : List Int) (r1 : List Int) (r2 : Bool) (w : World) (hr0 : Kd.C (Kd.int .u8) w A0 l0.length l0) (hc0 : l0.length ≤ c0) (h : sum_Strip.f l0 = some (r1, r2)) :
    Calls Tryz.prog 89 #[.slice A0 l0.length c0] w fun e w' => ∃ v0_ : Value, e = .returned (.tuple #[v0_, .bool r2]) ∧ Kd.R (Kd.int .u8) 5 w' w.heap.size (fun _ => True) v0_ r1 ∧ Below w.heap.size w w' := by
  unfold sum_Strip.f at h
  have hl : l0.length ≤ 9223372036854775807 := hr0.2.1
  by_cases h4 : l0.length < 4
  · rw [if_pos h4] at h
    obtain ⟨rfl, rfl⟩ : [] = r1 ∧ false = r2 := by simpa using h
    have hw : IntKind.i64.wrap ((l0.length : Int) - 4) = (l0.length : Int) - 4 := IntWalk.i64_in _ (by omega)
    have ht : decide ((l0.length : Int) - 4 < 0) = true := decide_eq_true (by omega)
    have ht2 : decide ((l0.length : Int) < 4) = true := decide_eq_true (by omega)
    clear h hr0
    go_enter Tryz.func89, Tryz.ntmps89
    go_wp2_with fail
    go_quiet (fail)
    go_wp2
    go_ret2
    exact ⟨_, rfl, Kd.R_nil _ _ _ _ _, (Drawn0.step (Drawn0.refl w) _).below⟩
  · rw [if_neg h4] at h
    obtain ⟨t, ht, h⟩ := Option.bind_eq_some_iff.1 h
    have hw : IntKind.i64.wrap ((l0.length : Int) - 4) = (l0.length : Int) - 4 := IntWalk.i64_in _ (by omega)
    have htt : decide ((l0.length : Int) - 4 < 0) = false := decide_eq_false (by omega)
    have ht2 : decide ((l0.length : Int) < 4) = false := decide_eq_false (by omega)
    obtain ⟨s1, s2, s3⟩ := take_facts A0 c0 l0 (l0.length - 4) (by omega) hc0
    rw [show ((l0.length - 4 : Nat) : Int) = (l0.length : Int) - 4 by omega] at s1
    have hT := s2 w hr0
    have hT2 := Aside0.mk s2
    clear s2
    generalize l0.take (l0.length - 4) = T at *
    have happ : Aside0 (∀ W, Below w.heap.size w W → Calls Tryz.prog 84 #[.slice A0 T.length c0] W fun e w' => ∃ A2 c2, e = .returned (.slice A2 t.length c2) ∧ (Go.convert 23 9 (.slice A2 t.length c2)).run Tryz.prog w' = .ok (.string (strOfNums t)) w' ∧ Below w.heap.size w w') :=
      ⟨fun W hB => (sum_Append.calls A0 c0 T t W (Kd.C_below hT hB) s3 ht).mono fun e w' ⟨v, he, ho, hb⟩ => by
        obtain ⟨A2, c2, rfl, _, hC⟩ := Kd.R_reads ho
        exact ⟨A2, c2, he, str_of _ _ c2 t hC, below_step hB hb⟩⟩
    have hcl : Aside0 (∀ W u, Below w.heap.size w W → slices_Clone_byte_byte.f T = some u → Calls Tryz.prog 46 #[.slice A0 T.length c0] W fun e w' => ∃ v, e = .returned v ∧ Kd.R (Kd.int .u8) 5 w' w.heap.size (fun _ => True) v u ∧ Below w.heap.size w w') :=
      ⟨fun W u hB hu => (slices_Clone_byte_byte.calls A0 c0 T u W (Kd.C_below hT hB) s3 hu).mono fun e w' ⟨v, he, ho, hb⟩ => ⟨v, he, Kd.R_lower ho (below_size hB), below_step hB hb⟩⟩
    have hcv0 : Aside0 (∀ W, Below w.heap.size w W → Below w.heap.size w W ∧ (Go.convert 23 9 (.slice A0 l0.length c0)).run Tryz.prog W = .ok (.string (strOfNums l0)) W) := ⟨fun W hB => ⟨hB, str_of W A0 c0 l0 (Kd.C_below hr0 hB)⟩⟩
    have hcd := (hcv0.out _ (Below.refl _ _).drew).2
    by_cases he : (strOfNums t).toList = (strOfNums l0).toList
    · rw [if_pos he] at h
      obtain ⟨u, hu, h⟩ := Option.bind_eq_some_iff.1 h
      obtain ⟨rfl, rfl⟩ : u = r1 ∧ true = r2 := by simpa using h
      have hcl' := Aside0.mk (fun W hB => hcl.out W u hB hu)
      have e1 : ((strOfNums t).toList == (strOfNums l0).toList) = true := by simp [he]
      clear h hr0 hT hT2 ht hu hcl he h4
      go_enter Tryz.func89, Tryz.ntmps89
      go_wp2_with fail
      go_region_with (first | (go_at_call 84; refine (happ.out _ (by first | exact Below.refl _ _ | exact (Below.refl _ _).drew | assumption)).mono ?_; rintro e w' ⟨A2, c2, rfl, hcv, hb⟩; have hcw := (hcv0.out _ hb).2))
      all_goals
        clear happ hcv0
        have hb1 := Aside0.mk hb
        clear hb hcv hcw hcd
        go_wp2_with (go_at_call 46; refine (hcl'.out _ hb1.out).mono ?_; rintro e w' ⟨v, rfl, ho, hb⟩)
        go_ret2
        exact ⟨_, rfl, ho, hb⟩
    · rw [if_neg he] at h
      obtain ⟨rfl, rfl⟩ : [] = r1 ∧ false = r2 := by simpa using h
      have e1 : ((strOfNums t).toList == (strOfNums l0).toList) = false := by simp [he]
      clear h hr0 hT hT2 ht hcl he h4
      go_enter Tryz.func89, Tryz.ntmps89
      go_wp2_with fail
      go_region_with (first | (go_at_call 84; refine (happ.out _ (by first | exact Below.refl _ _ | exact (Below.refl _ _).drew | assumption)).mono ?_; rintro e w' ⟨A2, c2, rfl, hcv, hb⟩; have hcw := (hcv0.out _ hb).2))
      all_goals
        clear happ hcv0
        have hb1 := Aside0.mk hb
        clear hb hcv hcw hcd
        go_wp2
        go_ret2
        exact ⟨_, rfl, Kd.R_nil _ _ _ _ _, hb1.out⟩
end Go.Proofs.YtmajfcdfafhkfaaGreatDoor.H
namespace Go.Proofs.YtmajfcdfafhkfaaGreatDoor.P
open Go.Proofs.YtmajfcdfafhkfaaGreatDoor.Leaf
open Go.RowKit Go.Proofs.YtmajfcdfafhkfaaGreatDoorW.PrintWords Go.Proofs.YtmajfcdfafhkfaaGreatDoorW.PrintLast Go.Proofs.YtmajfcdfafhkfaaGreatDoorW.PrintMore
attribute [local go_sem] max2_int min2_int max_two min_two max_three min_three max_four min_four   -- for this text's walks alone
set_option linter.unusedVariables false
set_option linter.unusedSimpArgs false
def bytes_trimLeftByte.l0 : Nat → List Int → Int → Option (List Int)
 | 0, _, _ => none
 | k + 1, x0, x1 => if (x0.length : Int) > 0 then (if 0 < (x0.length : Int) then (if (rd x0 0) = x1 then (if 1 ≤ (x0.length : Int) then (bytes_trimLeftByte.l0 k (x0.drop 1) x1) else (none)) else (if (x0.length : Int) = 0 then (some ([] : List Int)) else (some x0))) else (none)) else (if (x0.length : Int) = 0 then (some ([] : List Int)) else (some x0))
def bytes_trimLeftByte.f (k : Nat) (l0 : List Int) (a1 : Int) : Option (List Int) := bytes_trimLeftByte.l0 k l0 a1
theorem bytes_trimLeftByte.mono_l : ∀ k, (∀ y0 y1, LeO (bytes_trimLeftByte.l0 k y0 y1) (bytes_trimLeftByte.l0 (k + 1) y0 y1))
 | 0 => fun _ _ r h => by simp [bytes_trimLeftByte.l0] at h
 | k + 1 => by
  have ih0 := bytes_trimLeftByte.mono_l k
  ·intro y0 y1
   unfold bytes_trimLeftByte.l0
   repeat' first
   | (with_reducible exact ih0 _ _)
   | (with_reducible exact LeO.refl _)
   | (with_reducible exact LeO.none _)
   | (with_reducible refine LeO.ite ?_ ?_)
   | (with_reducible refine LeO.bind ?_ (fun _ => ?_))
   | exact ih0 _ _
   | exact LeO.none _
   | refine LeO.ite ?_ ?_
   | refine LeO.bind ?_ (fun _ => ?_)
theorem bytes_trimLeftByte.mono : ∀ a0 a1 k, LeO (bytes_trimLeftByte.f k a0 a1) (bytes_trimLeftByte.f (k + 1) a0 a1) := by
 intro a0 a1 k
 have ih0 := bytes_trimLeftByte.mono_l k
 unfold bytes_trimLeftByte.f
 repeat' first
   | (with_reducible exact ih0 _ _)
   | (with_reducible exact LeO.refl _)
   | (with_reducible exact LeO.none _)
   | (with_reducible refine LeO.ite ?_ ?_)
   | (with_reducible refine LeO.bind ?_ (fun _ => ?_))
   | exact ih0 _ _
   | exact LeO.none _
   | refine LeO.ite ?_ ?_
   | refine LeO.bind ?_ (fun _ => ?_)
set_option maxHeartbeats 8000000 in
set_option maxRecDepth 100000 in
theorem bytes_trimLeftByte.calls (k : Nat) (P0_ : Nat → Prop) (A0 : Option Addr) (c0 : Nat) (l0 : List Int) (a1 : Int) (r : List Int) (w : World) (hs0 : Kd.V (Kd.int .u8) 5 w w.heap.size (fun k_ => P0_ k_) (.slice A0 l0.length c0) l0) (h : bytes_trimLeftByte.f k l0 a1 = some r) :
  Calls Tryz.prog 104 #[.slice A0 l0.length c0, .int .u8 a1] w fun e w' => ∃ v0_ : Value, e = .returned (v0_) ∧ Kd.V (Kd.int .u8) 5 w' w.heap.size (fun k_ => (P0_ k_ ∨ w.heap.size ≤ k_)) v0_ r ∧ Below w.heap.size w w' := by
 have HO0 := Aside0.mk (show Kd.V (Kd.int .u8) 5 w w.heap.size (fun k_ => (P0_ k_ ∨ w.heap.size ≤ k_)) (.slice A0 l0.length c0) l0 from Kd.V_mono hs0 (fun k_ hk => .inl hk))
 have HB := Aside0.mk (Below.refl w.heap.size w)
 have H : (bytes_trimLeftByte.l0 k l0 a1) = some r := h
 clear h
 have H' := Aside0.mk H
 clear H
 go_enter Tryz.func104, Tryz.ntmps104
 go_wp2
 go_loopg [0] k (fun kq v0 w' => ∃ (x0_1 : List Int), Aside0 (bytes_trimLeftByte.l0 kq x0_1 a1 = some r) ∧ Aside0 (kq ≤ k) ∧ Aside0 (Kd.V (Kd.int .u8) 5 w' w.heap.size (fun k_ => (P0_ k_ ∨ w.heap.size ≤ k_)) v0 x0_1) ∧ Aside0 (Below w.heap.size w w'))
 case atStart => exact ⟨(l0), H', ⟨Nat.le_refl _⟩, ⟨by (with_reducible repeat (first | apply Kd.V_alloc | apply Kd.V_drewN | apply Kd.V_drew)); exact HO0.out⟩, ⟨by repeat (first | (with_reducible first | exact HB.out | apply below_alloc | apply pw_below_drewN | apply below_drew1) | exact HB.out)⟩⟩
 case round =>
  clear H'
  try clear c1
  try clear p2
  obtain ⟨x0_1, HA, HK1, HO_0, HB⟩ := hrel
  cases gk with
  | zero => exact absurd HA.out (by simp [bytes_trimLeftByte.l0])
  | succ k1 =>
   have H := HA.out
   clear HA
   simp only [bytes_trimLeftByte.l0] at H
   by_cases c3 : (x0_1.length : Int) > 0
   ·rw [if_pos c3] at H
    have c3b0 : decide (0 < (x0_1.length : Int)) = true := decide_eq_true c3
    have c3b1 : decide (0 < x0_1.length) = true := decide_eq_true (by omega)
    clear c3
    by_cases c4 : 0 < (x0_1.length : Int)
    ·rw [if_pos c4] at H
     have c4b0 : decide (0 < (x0_1.length : Int)) = true := decide_eq_true c4
     have c4b1 : decide (0 < x0_1.length) = true := decide_eq_true (by omega)
     clear c4
     by_cases c5 : (rd x0_1 0) = a1
     ·rw [if_pos c5] at H
      have c5b0 : ((rd x0_1 0) == a1) = true := beq_iff_eq.mpr c5
      have c5b1 : ((rd x0_1 0) != a1) = false := bne_eq_false_iff_eq.mpr c5
      clear c5
      by_cases c6 : 1 ≤ (x0_1.length : Int)
      ·rw [if_pos c6] at H
       have c6b0 := eq_true c6
       have c6b1 : decide (1 ≤ (x0_1.length : Int)) = true := decide_eq_true c6
       clear c6
       obtain ⟨y102, hy102⟩ : ∃ y_ : List Int, y_ = (x0_1.drop 1) := ⟨_, rfl⟩
       replace H : (bytes_trimLeftByte.l0 k1 y102 a1) = some r := by first | (rw [hy102]; with_reducible exact H) | (have H2_ := (Option.bind_some _ _).symm.trans H; rw [hy102]; with_reducible exact H2_) | (have H2_ := (Option.bind_some _ _).symm.trans H; with_reducible exact H2_) | with_reducible exact H | (rw [hy102]; exact H) | exact H
       have Ny102 := Aside0.mk hy102
       clear hy102
       have H' := Aside0.mk H
       clear H
       obtain ⟨Ao7, co7, eo7⟩ := Kd.V_slice HO_0.out
       subst eo7
       have p101 : 0 ≤ (0 : Int) := (by omega)
       have q101 : 0 < (x0_1.length : Int) := of_decide_eq_true (by first | (with_reducible assumption) | assumption)
       obtain ⟨ad101, e101, hx101_0⟩ := Kd.at_int (Kd.V_reads' HO_0.out).2.2 0 p101 q101
       cases e101
       have qi101 : (0 < x0_1.length) = True := eq_true (by omega)
       (try rw [show ((0 : Int)).toNat = 0 from rfl] at hx101_0)
       (try rw [Addr.add_zero'] at hx101_0)
       replace p101 := eq_true p101
       replace q101 := eq_true q101
       have q8 : (1 : Int) ≤ ((x0_1.length : Int) : Int) := of_decide_eq_true (by first | (with_reducible assumption) | assumption)
       obtain ⟨i08, hi08, _, hsz8, _⟩ := info_parts info5
       have hroom8 : x0_1.length ≤ co7 := (Kd.V_reads' HO_0.out).2.1
       have hC8 : Kd.F (Kd.int .u8) _ _ (some ad101) x0_1.length x0_1 := (Kd.V_at (base := w.heap.size) HO_0.out).2.2
       have hcut8 := cut_from (P := Tryz.prog) 23 5 .i64 Tryz.underlying23 hi08 1 hsz8 (some ad101) x0_1.length co7 1 (by omega) q8
       have hr8 := Kd.F_cut (m := (1 : Int).toNat) (c := co7) hC8 (by omega) hroom8
       obtain ⟨A8, hA8⟩ : ∃ A1, A1 = (if co7 = (1 : Int).toNat then (some ad101) else ((some ad101) : Option Addr).map (·.add ((1 : Int).toNat * 1))) := ⟨_, rfl⟩
       obtain ⟨c8, hc8⟩ : ∃ c1, c1 = co7 - (1 : Int).toNat := ⟨_, rfl⟩
       have hy8 : y102.length = x0_1.length - (1 : Int).toNat := (by rw [Ny102.out, List.length_drop] <;> omega)
       rw [show (x0_1).drop (1 : Int).toNat = y102 from Ny102.out.symm] at hr8
       replace hr8 : Kd.F (Kd.int .u8) _ _ A8 y102.length y102 := (by rw [hA8]; exact hr8)
       rw [← hy8, ← hA8, ← hc8] at hcut8
       have HO106 := Aside0.mk (show Kd.V (Kd.int .u8) 5 _ w.heap.size _ (.slice A8 y102.length c8) y102 from Kd.V_mk (by rw [hy8, hc8]; exact Nat.sub_le_sub_right hroom8 _) hr8)
       have HC106 := Aside0.mk (show y102.length ≤ c8 from by rw [hy8, hc8]; exact Nat.sub_le_sub_right hroom8 _)
       clear hr8 hC8 hroom8 hi08 hsz8 hc8
       have KY8 := Aside0.mk hy8
       have KA8 := Aside0.mk hA8
       clear hy8 hA8
       replace q8 := eq_true q8
       go_wp2
       go_roundg k1
       case measure => have := HK1.out; omega
       case rel => exact ⟨(y102), H', ⟨by have := HK1.out; omega⟩, ⟨by (with_reducible repeat (first | apply Kd.V_alloc | apply Kd.V_drewN | apply Kd.V_drew)); exact HO106.out⟩, ⟨by repeat (first | (with_reducible first | exact HB.out | apply below_alloc | apply pw_below_drewN | apply below_drew1) | exact HB.out)⟩⟩
      ·rw [if_neg c6] at H
       exact absurd H (by simp)
     ·rw [if_neg c5] at H
      have c5b0 : ((rd x0_1 0) == a1) = false := beq_eq_false_iff_ne.mpr c5
      have c5b1 : ((rd x0_1 0) != a1) = true := bne_iff_ne.mpr c5
      by_cases c9 : (x0_1.length : Int) = 0
      ·rw [if_pos c9] at H
       have c9b0 : ((x0_1.length : Int) == 0) = true := beq_iff_eq.mpr c9
       have c9b1 : ((x0_1.length : Int) != 0) = false := bne_eq_false_iff_eq.mpr c9
       clear c9
       obtain rfl := Option.some.inj H
       obtain ⟨Ao10, co10, eo10⟩ := Kd.V_slice HO_0.out
       subst eo10
       have p101 : 0 ≤ (0 : Int) := (by omega)
       have q101 : 0 < (x0_1.length : Int) := of_decide_eq_true (by first | (with_reducible assumption) | assumption)
       obtain ⟨ad101, e101, hx101_0⟩ := Kd.at_int (Kd.V_reads' HO_0.out).2.2 0 p101 q101
       cases e101
       have qi101 : (0 < x0_1.length) = True := eq_true (by omega)
       (try rw [show ((0 : Int)).toNat = 0 from rfl] at hx101_0)
       (try rw [Addr.add_zero'] at hx101_0)
       replace p101 := eq_true p101
       replace q101 := eq_true q101
       go_wp2
       go_ret
       exact ⟨_, by first | rfl | (simp [errW_none, errW_some] <;> rfl) | (simp [*, errW_none, errW_some] <;> rfl), (by first | exact Kd.V_nil _ _ _ _ _ | exact Kd.V_mono (Kd.R_V (by first | exact Kd.R_nil _ _ _ _ _ | exact Kd.N_nil _ _ _ _ _ | exact Kd.V_nil _ _ _ _ _ | exact Kd.Q_nil _ _ _ _ _ | exact Kd.S_nil _ _ _ _ _)) (fun k_ hk => by first | exact ⟨(.inr (hk.1)), hk.2⟩ | exact (.inr (hk)))), by repeat (first | (with_reducible first | exact HB.out | apply below_alloc | apply pw_below_drewN | apply below_drew1) | exact HB.out)⟩
      ·rw [if_neg c9] at H
       have c9b0 : ((x0_1.length : Int) == 0) = false := beq_eq_false_iff_ne.mpr c9
       have c9b1 : ((x0_1.length : Int) != 0) = true := bne_iff_ne.mpr c9
       have c9b2 : ¬ (x0_1 = []) := fun h_ => c9 (by rw [h_]; rfl)
       obtain rfl := Option.some.inj H
       obtain ⟨Ao11, co11, eo11⟩ := Kd.V_slice HO_0.out
       subst eo11
       have p101 : 0 ≤ (0 : Int) := (by omega)
       have q101 : 0 < (x0_1.length : Int) := of_decide_eq_true (by first | (with_reducible assumption) | assumption)
       obtain ⟨ad101, e101, hx101_0⟩ := Kd.at_int (Kd.V_reads' HO_0.out).2.2 0 p101 q101
       cases e101
       have qi101 : (0 < x0_1.length) = True := eq_true (by omega)
       (try rw [show ((0 : Int)).toNat = 0 from rfl] at hx101_0)
       (try rw [Addr.add_zero'] at hx101_0)
       replace p101 := eq_true p101
       replace q101 := eq_true q101
       go_wp2
       go_ret
       exact ⟨_, by first | rfl | (simp [errW_none, errW_some] <;> rfl) | (simp [*, errW_none, errW_some] <;> rfl), by (with_reducible repeat (first | apply Kd.V_alloc | apply Kd.V_drewN | apply Kd.V_drew)); exact HO_0.out, by repeat (first | (with_reducible first | exact HB.out | apply below_alloc | apply pw_below_drewN | apply below_drew1) | exact HB.out)⟩
    ·rw [if_neg c4] at H
     exact absurd H (by simp)
   ·rw [if_neg c3] at H
    have c3b0 : decide (0 < (x0_1.length : Int)) = false := decide_eq_false c3
    have c3b1 : decide (0 < x0_1.length) = false := decide_eq_false (by omega)
    clear c3
    by_cases c12 : (x0_1.length : Int) = 0
    ·rw [if_pos c12] at H
     have c12b0 : ((x0_1.length : Int) == 0) = true := beq_iff_eq.mpr c12
     have c12b1 : ((x0_1.length : Int) != 0) = false := bne_eq_false_iff_eq.mpr c12
     clear c12
     obtain rfl := Option.some.inj H
     obtain ⟨Ao13, co13, eo13⟩ := Kd.V_slice HO_0.out
     subst eo13
     go_wp2
     go_ret
     exact ⟨_, by first | rfl | (simp [errW_none, errW_some] <;> rfl) | (simp [*, errW_none, errW_some] <;> rfl), (by first | exact Kd.V_nil _ _ _ _ _ | exact Kd.V_mono (Kd.R_V (by first | exact Kd.R_nil _ _ _ _ _ | exact Kd.N_nil _ _ _ _ _ | exact Kd.V_nil _ _ _ _ _ | exact Kd.Q_nil _ _ _ _ _ | exact Kd.S_nil _ _ _ _ _)) (fun k_ hk => by first | exact ⟨(.inr (hk.1)), hk.2⟩ | exact (.inr (hk)))), by repeat (first | (with_reducible first | exact HB.out | apply below_alloc | apply pw_below_drewN | apply below_drew1) | exact HB.out)⟩
    ·rw [if_neg c12] at H
     have c12b0 : ((x0_1.length : Int) == 0) = false := beq_eq_false_iff_ne.mpr c12
     have c12b1 : ((x0_1.length : Int) != 0) = true := bne_iff_ne.mpr c12
     have c12b2 : ¬ (x0_1 = []) := fun h_ => c12 (by rw [h_]; rfl)
     obtain rfl := Option.some.inj H
     obtain ⟨Ao14, co14, eo14⟩ := Kd.V_slice HO_0.out
     subst eo14
     go_wp2
     go_ret
     exact ⟨_, by first | rfl | (simp [errW_none, errW_some] <;> rfl) | (simp [*, errW_none, errW_some] <;> rfl), by (with_reducible repeat (first | apply Kd.V_alloc | apply Kd.V_drewN | apply Kd.V_drew)); exact HO_0.out, by repeat (first | (with_reducible first | exact HB.out | apply below_alloc | apply pw_below_drewN | apply below_drew1) | exact HB.out)⟩
end Go.Proofs.YtmajfcdfafhkfaaGreatDoor.P
namespace Go.Proofs.YtmajfcdfafhkfaaGreatDoor.P
open Go.Proofs.YtmajfcdfafhkfaaGreatDoor.Leaf
open Go.RowKit Go.Proofs.YtmajfcdfafhkfaaGreatDoorW.PrintWords Go.Proofs.YtmajfcdfafhkfaaGreatDoorW.PrintLast Go.Proofs.YtmajfcdfafhkfaaGreatDoorW.PrintMore
attribute [local go_sem] max2_int min2_int max_two min_two max_three min_three max_four min_four   -- for this text's walks alone
set_option linter.unusedVariables false
set_option linter.unusedSimpArgs false
def bytes_trimRightByte.l0 : Nat → List Int → Int → Option (List Int)
 | 0, _, _ => none
 | k + 1, x0, x1 => if (x0.length : Int) > 0 then (if 0 ≤ (wrap64 ((x0.length : Int) - 1)) then (if (wrap64 ((x0.length : Int) - 1)) < (x0.length : Int) then (if (rd x0 (wrap64 ((x0.length : Int) - 1))) = x1 then (if (wrap64 ((x0.length : Int) - 1)) ≤ (x0.length : Int) then (bytes_trimRightByte.l0 k (x0.take ((wrap64 ((x0.length : Int) - 1)) : Int).toNat) x1) else (none)) else (some x0)) else (none)) else (none)) else (some x0)
def bytes_trimRightByte.f (k : Nat) (l0 : List Int) (a1 : Int) : Option (List Int) := bytes_trimRightByte.l0 k l0 a1
theorem bytes_trimRightByte.mono_l : ∀ k, (∀ y0 y1, LeO (bytes_trimRightByte.l0 k y0 y1) (bytes_trimRightByte.l0 (k + 1) y0 y1))
 | 0 => fun _ _ r h => by simp [bytes_trimRightByte.l0] at h
 | k + 1 => by
  have ih0 := bytes_trimRightByte.mono_l k
  ·intro y0 y1
   unfold bytes_trimRightByte.l0
   repeat' first
   | (with_reducible exact ih0 _ _)
   | (with_reducible exact LeO.refl _)
   | (with_reducible exact LeO.none _)
   | (with_reducible refine LeO.ite ?_ ?_)
   | (with_reducible refine LeO.bind ?_ (fun _ => ?_))
   | exact ih0 _ _
   | exact LeO.none _
   | refine LeO.ite ?_ ?_
   | refine LeO.bind ?_ (fun _ => ?_)
theorem bytes_trimRightByte.mono : ∀ a0 a1 k, LeO (bytes_trimRightByte.f k a0 a1) (bytes_trimRightByte.f (k + 1) a0 a1) := by
 intro a0 a1 k
 have ih0 := bytes_trimRightByte.mono_l k
 unfold bytes_trimRightByte.f
 repeat' first
   | (with_reducible exact ih0 _ _)
   | (with_reducible exact LeO.refl _)
   | (with_reducible exact LeO.none _)
   | (with_reducible refine LeO.ite ?_ ?_)
   | (with_reducible refine LeO.bind ?_ (fun _ => ?_))
   | exact ih0 _ _
   | exact LeO.none _
   | refine LeO.ite ?_ ?_
   | refine LeO.bind ?_ (fun _ => ?_)
set_option maxHeartbeats 8000000 in
set_option maxRecDepth 100000 in
theorem bytes_trimRightByte.calls (k : Nat) (P0_ : Nat → Prop) (A0 : Option Addr) (c0 : Nat) (l0 : List Int) (a1 : Int) (r : List Int) (w : World) (hs0 : Kd.V (Kd.int .u8) 5 w w.heap.size (fun k_ => P0_ k_) (.slice A0 l0.length c0) l0) (h : bytes_trimRightByte.f k l0 a1 = some r) :
  Calls Tryz.prog 105 #[.slice A0 l0.length c0, .int .u8 a1] w fun e w' => ∃ v0_ : Value, e = .returned (v0_) ∧ Kd.V (Kd.int .u8) 5 w' w.heap.size (fun k_ => (P0_ k_ ∨ w.heap.size ≤ k_)) v0_ r ∧ Below w.heap.size w w' := by
 have HO0 := Aside0.mk (show Kd.V (Kd.int .u8) 5 w w.heap.size (fun k_ => (P0_ k_ ∨ w.heap.size ≤ k_)) (.slice A0 l0.length c0) l0 from Kd.V_mono hs0 (fun k_ hk => .inl hk))
 have HB := Aside0.mk (Below.refl w.heap.size w)
 have H : (bytes_trimRightByte.l0 k l0 a1) = some r := h
 clear h
 have H' := Aside0.mk H
 clear H
 go_enter Tryz.func105, Tryz.ntmps105
 go_wp2
 go_loopg [0] k (fun kq v0 w' => ∃ (x0_1 : List Int), Aside0 (bytes_trimRightByte.l0 kq x0_1 a1 = some r) ∧ Aside0 (kq ≤ k) ∧ Aside0 (Kd.V (Kd.int .u8) 5 w' w.heap.size (fun k_ => (P0_ k_ ∨ w.heap.size ≤ k_)) v0 x0_1) ∧ Aside0 (Below w.heap.size w w'))
 case atStart => exact ⟨(l0), H', ⟨Nat.le_refl _⟩, ⟨by (with_reducible repeat (first | apply Kd.V_alloc | apply Kd.V_drewN | apply Kd.V_drew)); exact HO0.out⟩, ⟨by repeat (first | (with_reducible first | exact HB.out | apply below_alloc | apply pw_below_drewN | apply below_drew1) | exact HB.out)⟩⟩
 case round =>
  clear H'
  try clear c1
  try clear p2
  obtain ⟨x0_1, HA, HK1, HO_0, HB⟩ := hrel
  cases gk with
  | zero => exact absurd HA.out (by simp [bytes_trimRightByte.l0])
  | succ k1 =>
   have H := HA.out
   clear HA
   simp only [bytes_trimRightByte.l0] at H
   by_cases c3 : (x0_1.length : Int) > 0
   ·rw [if_pos c3] at H
    have c3b0 : decide (0 < (x0_1.length : Int)) = true := decide_eq_true c3
    have c3b1 : decide (0 < x0_1.length) = true := decide_eq_true (by omega)
    clear c3
    obtain ⟨ji4, hji4⟩ : ∃ j_ : Int, (wrap64 ((x0_1.length : Int) - 1)) = j_ := ⟨_, rfl⟩
    replace H : (if 0 ≤ (ji4) then (if (ji4) < (x0_1.length : Int) then (if (rd x0_1 (ji4)) = a1 then (if (ji4) ≤ (x0_1.length : Int) then (bytes_trimRightByte.l0 k1 (x0_1.take ((ji4) : Int).toNat) a1) else (none)) else (some x0_1)) else (none)) else (none)) = some r := by first | (rw [hji4] at H; exact H) | (simp only [hji4] at H ⊢; exact H)
    have hji4w : (IntKind.i64.wrap ((x0_1.length : Int) - 1)) = ji4 := (i64_w _).trans hji4
    by_cases c5 : 0 ≤ (ji4)
    ·rw [if_pos c5] at H
     have c5b0 : decide (0 ≤ (ji4)) = true := decide_eq_true c5
     clear c5
     by_cases c6 : (ji4) < (x0_1.length : Int)
     ·rw [if_pos c6] at H
      have c6b0 : decide ((ji4) < (x0_1.length : Int)) = true := decide_eq_true c6
      clear c6
      by_cases c7 : (rd x0_1 (ji4)) = a1
      ·rw [if_pos c7] at H
       have c7b0 : ((rd x0_1 (ji4)) == a1) = true := beq_iff_eq.mpr c7
       have c7b1 : ((rd x0_1 (ji4)) != a1) = false := bne_eq_false_iff_eq.mpr c7
       clear c7
       have c8b0 := eq_true (of_decide_eq_true (by first | (with_reducible assumption) | assumption) : 0 ≤ (ji4))
       by_cases c9 : (ji4) ≤ (x0_1.length : Int)
       ·rw [if_pos c9] at H
        have c9b0 := eq_true c9
        have c9b1 : decide ((ji4) ≤ (x0_1.length : Int)) = true := decide_eq_true c9
        clear c9
        obtain ⟨y102, hy102⟩ : ∃ y_ : List Int, y_ = (x0_1.take ((ji4) : Int).toNat) := ⟨_, rfl⟩
        replace H : (bytes_trimRightByte.l0 k1 y102 a1) = some r := by first | (rw [hy102]; with_reducible exact H) | (have H2_ := (Option.bind_some _ _).symm.trans H; rw [hy102]; with_reducible exact H2_) | (have H2_ := (Option.bind_some _ _).symm.trans H; with_reducible exact H2_) | with_reducible exact H | (rw [hy102]; exact H) | exact H
        have Ny102 := Aside0.mk hy102
        clear hy102
        have H' := Aside0.mk H
        clear H
        obtain ⟨Ao10, co10, eo10⟩ := Kd.V_slice HO_0.out
        subst eo10
        have p101 : 0 ≤ ((ji4) : Int) := of_decide_eq_true (by first | (with_reducible assumption) | assumption)
        have q101 : (ji4) < (x0_1.length : Int) := of_decide_eq_true (by first | (with_reducible assumption) | assumption)
        obtain ⟨ad101, e101, hx101_0⟩ := Kd.at_int (Kd.V_reads' HO_0.out).2.2 (ji4) p101 q101
        cases e101
        replace p101 := eq_true p101
        replace q101 := eq_true q101
        have q11 : ((ji4) : Int) ≤ ((x0_1.length : Int) : Int) := of_decide_eq_true (by first | (with_reducible assumption) | assumption)
        obtain ⟨i011, hi011, _, hsz11, _⟩ := info_parts info5
        have hroom11 : x0_1.length ≤ co10 := (Kd.V_reads' HO_0.out).2.1
        have hC11 : Kd.F (Kd.int .u8) _ _ (some ad101) x0_1.length x0_1 := (Kd.V_at (base := w.heap.size) HO_0.out).2.2
        have hcut11 := cut_to (P := Tryz.prog) 23 5 .i64 Tryz.underlying23 hi011 (some ad101) x0_1.length co10 (ji4) (of_decide_eq_true (by first | (with_reducible assumption) | assumption)) q11 hroom11
        have hr11 := Kd.F_take (m := ((ji4) : Int).toNat) hC11 (by omega)
        have hy11 : y102.length = ((ji4) : Int).toNat := (by rw [Ny102.out, List.length_take]; omega)
        rw [← Ny102.out] at hr11
        rw [← hy11] at hcut11
        have HO106 := Aside0.mk (show Kd.V (Kd.int .u8) 5 _ w.heap.size _ (.slice (some ad101) y102.length co10) y102 from Kd.V_mk (by omega) hr11)
        have HC106 := Aside0.mk (show y102.length ≤ co10 from by omega)
        clear hr11 hC11 hroom11 hi011 hsz11
        have KY11 := Aside0.mk hy11
        clear hy11
        replace q11 := eq_true q11
        go_wp2
        go_roundg k1
        case measure => have := HK1.out; omega
        case rel => exact ⟨(y102), (by first | exact H' | (simp only [hji4]; exact H')), ⟨by have := HK1.out; omega⟩, ⟨by (with_reducible repeat (first | apply Kd.V_alloc | apply Kd.V_drewN | apply Kd.V_drew)); exact HO106.out⟩, ⟨by repeat (first | (with_reducible first | exact HB.out | apply below_alloc | apply pw_below_drewN | apply below_drew1) | exact HB.out)⟩⟩
       ·rw [if_neg c9] at H
        exact absurd H (by simp)
      ·rw [if_neg c7] at H
       have c7b0 : ((rd x0_1 (ji4)) == a1) = false := beq_eq_false_iff_ne.mpr c7
       have c7b1 : ((rd x0_1 (ji4)) != a1) = true := bne_iff_ne.mpr c7
       obtain rfl := Option.some.inj H
       obtain ⟨Ao12, co12, eo12⟩ := Kd.V_slice HO_0.out
       subst eo12
       have p101 : 0 ≤ ((ji4) : Int) := of_decide_eq_true (by first | (with_reducible assumption) | assumption)
       have q101 : (ji4) < (x0_1.length : Int) := of_decide_eq_true (by first | (with_reducible assumption) | assumption)
       obtain ⟨ad101, e101, hx101_0⟩ := Kd.at_int (Kd.V_reads' HO_0.out).2.2 (ji4) p101 q101
       cases e101
       replace p101 := eq_true p101
       replace q101 := eq_true q101
       go_wp2
       go_ret
       exact ⟨_, by first | rfl | (simp [errW_none, errW_some] <;> rfl) | (simp only [← hji4]; first | rfl | (simp [errW_none, errW_some] <;> rfl)) | (simp [*, errW_none, errW_some] <;> rfl), by (with_reducible repeat (first | apply Kd.V_alloc | apply Kd.V_drewN | apply Kd.V_drew)); exact HO_0.out, by repeat (first | (with_reducible first | exact HB.out | apply below_alloc | apply pw_below_drewN | apply below_drew1) | exact HB.out)⟩
     ·rw [if_neg c6] at H
      exact absurd H (by simp)
    ·rw [if_neg c5] at H
     exact absurd H (by simp)
   ·rw [if_neg c3] at H
    have c3b0 : decide (0 < (x0_1.length : Int)) = false := decide_eq_false c3
    have c3b1 : decide (0 < x0_1.length) = false := decide_eq_false (by omega)
    clear c3
    obtain rfl := Option.some.inj H
    obtain ⟨Ao13, co13, eo13⟩ := Kd.V_slice HO_0.out
    subst eo13
    go_wp2
    go_ret
    exact ⟨_, by first | rfl | (simp [errW_none, errW_some] <;> rfl) | (simp [*, errW_none, errW_some] <;> rfl), by (with_reducible repeat (first | apply Kd.V_alloc | apply Kd.V_drewN | apply Kd.V_drew)); exact HO_0.out, by repeat (first | (with_reducible first | exact HB.out | apply below_alloc | apply pw_below_drewN | apply below_drew1) | exact HB.out)⟩
end Go.Proofs.YtmajfcdfafhkfaaGreatDoor.P
namespace Go.Proofs.YtmajfcdfafhkfaaGreatDoor.H
open Go.RowKit Go.Proofs.YtmajfcdfafhkfaaGreatDoorW.PrintWords Go.Proofs.YtmajfcdfafhkfaaGreatDoorW.PrintLast Go.Proofs.YtmajfcdfafhkfaaGreatDoorW.PrintMore Go.Proofs.YtmajfcdfafhkfaaGreatDoor.Leaf Go.Proofs.YtmajfcdfafhkfaaGreatDoor.P
set_option linter.unusedVariables false
set_option linter.unusedSimpArgs false
def bytes_Trim.f (k : Nat) (l0 : List Int) (a1 : ByteArray) : Option (List Int) :=
  if a1.data = #[0] then (if l0.length = 0 then some [] else (bytes_trimRightByte.f k l0 0).bind fun t => bytes_trimLeftByte.f k t 0) else none
theorem bytes_Trim.mono (k : Nat) (l0 : List Int) (a1 : ByteArray) : LeO (bytes_Trim.f k l0 a1) (bytes_Trim.f (k + 1) l0 a1) := by
  unfold bytes_Trim.f
  refine LeO.ite (LeO.ite (LeO.refl _) (LeO.bind (bytes_trimRightByte.mono _ _ _) (fun _ => bytes_trimLeftByte.mono _ _ _))) (LeO.none _)
def TR6 : Bool × List (List Nat × List Nat) := (true, [([], []), ([], []), ([1], [1]), ([0, 2], [0, 2]), ([], []), ([4], [4]), ([3, 5, 3], [3, 5]), ([6, 6, 0, 1, 2, 3, 4, 5, 6], [6])])
def BR6 : List Nat := [0, 0, 2, 7, 0, 16, 63, 127]
theorem TR6.tab : rtab .any (opsOf Tryz.f90 6) = TR6 := by kernel_rfl
theorem BR6.bits : waitsOk TR6.2 BR6 = true := by kernel_rfl
set_option maxHeartbeats 8000000 in
set_option maxRecDepth 100000 in
theorem bytes_Trim.calls (k : Nat) (P0_ : Nat → Prop) (A0 : Option Addr) (c0 : Nat) (l0 : List Int) (a1 : ByteArray) (r : List Int) (w : World) (hs0 : Kd.V (Kd.int .u8) 5 w w.heap.size (fun k_ => P0_ k_) (.slice A0 l0.length c0) l0) (h : bytes_Trim.f k l0 a1 = some r) :
    Calls Tryz.prog 90 #[.slice A0 l0.length c0, .string a1] w fun e w' => ∃ v0_ : Value, e = .returned (v0_) ∧ Kd.V (Kd.int .u8) 5 w' w.heap.size (fun k_ => (P0_ k_ ∨ w.heap.size ≤ k_)) v0_ r ∧ Below w.heap.size w w' := by
  unfold bytes_Trim.f at h
  by_cases hz : a1.data = #[0]
  · rw [if_pos hz] at h
    obtain rfl : a1 = ⟨#[0]⟩ := by cases a1; simpa using hz
    clear hz
    by_cases h0 : l0.length = 0
    · rw [if_pos h0] at h
      obtain rfl := Option.some.inj h
      have c3b0 : ((l0.length : Int) == 0) = true := beq_iff_eq.mpr (by omega)
      clear h h0
      go_enter Tryz.func90, Tryz.ntmps90
      go_wp2
      go_ret
      exact ⟨_, rfl, Kd.V_nil _ _ _ _ _, Below.refl _ _⟩
    · rw [if_neg h0] at h
      obtain ⟨t, h1, h2⟩ := Option.bind_eq_some_iff.mp h
      have A15 := Aside0.mk h1
      have A17 := Aside0.mk h2
      have c3b0 : ((l0.length : Int) == 0) = false := beq_eq_false_iff_ne.mpr (by omega)
      have HO_0 := Aside0.mk hs0
      have HB := Aside0.mk (Below.refl w.heap.size w)
      clear h h1 h2 h0 hs0
      go_enter Tryz.func90, Tryz.ntmps90
      go_wp2
      have n0_ := Aside0.mk (Kd.V_drew HO_0.out)
      have n1_ := Aside0.mk (below_drew1 HB.out)
      clear HO_0 HB
      have HO_0 := n0_
      have HB := n1_
      clear n0_ n1_
      refine start_ (n := 8) (S := fun w' => True) (ds := []) #[false, false, false, false, false, false, false, false] (by kernel_rfl) rfl rfl trivial (fun hHeld => ?_); refine with_tabW TR6.tab BR6.bits (fun HT_ HW_ => ?_)
      generalize w.drew = w18 at HO_0 HB hHeld ⊢
      refine pure_ (i := 0) (N := some 21) (v := ?_) (a' := ?_) #[true, false, false, false, false, false, false, false] rfl rfl (any_of HT_.out (by kernel_rfl)) (fun _ _ _ h => h) (Or.inl ⟨by rfl, ?_⟩) ?_ ?_
      rotate_left
      · intro w'
        go_simp
        with_reducible rfl
      rotate_left
      · simp only [Act.put, List.setIfInBounds_toArray, List.set_cons_zero, List.set_cons_succ, i64_w, i32_w]
        rfl
      refine pure_ (i := 1) (N := some 22) (v := ?_) (a' := ?_) #[true, true, false, false, false, false, false, false] rfl rfl (any_of HT_.out (by kernel_rfl)) (fun _ _ _ h => h) (Or.inl ⟨by rfl, ?_⟩) ?_ ?_
      rotate_left
      · intro w'
        go_simp
        with_reducible rfl
      rotate_left
      · simp only [Act.put, List.setIfInBounds_toArray, List.set_cons_zero, List.set_cons_succ, i64_w, i32_w]
        rfl
      refine pure_ (i := 4) (N := some 25) (v := ?_) (a' := ?_) #[true, true, false, false, true, false, false, false] rfl rfl (any_of HT_.out (by kernel_rfl)) (fun _ _ _ h => h) (Or.inl ⟨by rfl, ?_⟩) ?_ ?_
      rotate_left
      · intro w'
        go_simp
        with_reducible rfl
      rotate_left
      · simp only [Act.put, List.setIfInBounds_toArray, List.set_cons_zero, List.set_cons_succ, i64_w, i32_w]
        rfl
      refine take_ (i := 2) (N := some 23) (v := ?_) (a' := ?_) #[true, true, true, false, true, false, false, false] rfl rfl (take_ofW HT_.out HW_.out (by kernel_rfl)) (fun _ _ _ h => h) (Or.inl ⟨by rfl, ?_⟩) hHeld ?_ ?_
      rotate_left
      · intro w' _
        go_simp
        with_reducible rfl
      rotate_left
      · simp only [Act.put, List.setIfInBounds_toArray, List.set_cons_zero, List.set_cons_succ, i64_w, i32_w]
        rfl
      refine take_ (i := 5) (N := some 26) (v := ?_) (a' := ?_) #[true, true, true, false, true, true, false, false] rfl rfl (take_ofW HT_.out HW_.out (by kernel_rfl)) (fun _ _ _ h => h) (Or.inl ⟨by rfl, ?_⟩) hHeld ?_ ?_
      rotate_left
      · intro w' _
        go_simp
        with_reducible rfl
      rotate_left
      · simp only [Act.put, List.setIfInBounds_toArray, List.set_cons_zero, List.set_cons_succ, i64_w, i32_w]
        rfl
      refine one_ (i := 3) (N := some 24) #[true, true, true, true, true, true, false, false] rfl rfl (one_of HT_.out (by kernel_rfl)) (by decide) (fun K hK => ?_)
      refine goes_ Tryz.func105 (by kernel_rfl) rfl #[.slice A0 l0.length c0, .int .u8 0] (by rfl) rfl rfl (by (try simp only [List.map_toArray, List.map_cons, List.map_nil]); first | done | rfl) ?_
      with_reducible refine (bytes_trimRightByte.calls k P0_ _ _ l0 0 t _ ?side1 A15.out).mono ?_
      (case side1 => exact HO_0.out)
      rintro e w19 ⟨v102, rfl, ho0, hb⟩
      refine ⟨_, rfl, ?_⟩
      have HS18 := Aside0.mk HB.out.size
      have n1_ := Aside0.mk (below_step HB.out hb)
      have HO1 := Aside0.mk ho0
      have HS19 := Aside0.mk hb.size
      clear HB HO_0 hb ho0
      have HB := n1_
      clear n1_
      obtain ⟨Ao20, co20, eo20⟩ := Kd.V_slice HO1.out
      (first | subst eo20 | (injection eo20 with f1_ f2_ f3_; have f4_ := f1_.symm; have f5_ := f3_.symm; clear f1_ f2_ f3_; subst f4_; subst f5_))
      refine hK.out _ _ trivial (fun hHeld => ?_)
      clear hK K
      refine norm_ (a' := ?_) ?_ ?_
      rotate_left
      · show Act.put _ (some 24) _ = _
        simp only [Act.put, List.setIfInBounds_toArray, List.set_cons_zero, List.set_cons_succ, i64_w, i32_w]
        rfl
      refine one_ (i := 6) (N := some 27) #[true, true, true, true, true, true, true, false] rfl rfl (one_of HT_.out (by kernel_rfl)) (by decide) (fun K hK => ?_)
      refine goes_ Tryz.func104 (by kernel_rfl) rfl #[.slice Ao20 t.length co20, .int .u8 0] (by rfl) rfl rfl (by (try simp only [List.map_toArray, List.map_cons, List.map_nil]); first | done | rfl) ?_
      with_reducible refine (bytes_trimLeftByte.calls k (fun k_ => (P0_ k_ ∨ w18.heap.size ≤ k_)) _ _ t 0 r _ ?side1 A17.out).mono ?_
      (case side1 => exact HO1.out)
      rintro e w21 ⟨v105, rfl, ho0, hb⟩
      refine ⟨_, rfl, ?_⟩
      have n1_ := Aside0.mk (below_step HB.out hb)
      have HO2 := Aside0.mk ho0
      clear HB HO1 hb ho0
      have HB := n1_
      clear n1_
      refine hK.out _ _ trivial (fun hHeld => ?_)
      clear hK K
      refine norm_ (a' := ?_) ?_ ?_
      rotate_left
      · show Act.put _ (some 27) _ = _
        simp only [Act.put, List.setIfInBounds_toArray, List.set_cons_zero, List.set_cons_succ, i64_w, i32_w]
        rfl
      refine pure_ (i := 7) (N := some 4) (v := ?_) (a' := ?_) #[true, true, true, true, true, true, true, true] rfl rfl (any_of HT_.out (by kernel_rfl)) (fun _ _ _ h => h) (Or.inl ⟨by rfl, ?_⟩) ?_ ?_
      rotate_left
      · intro w'
        go_simp
        with_reducible rfl
      rotate_left
      · simp only [Act.put, List.setIfInBounds_toArray, List.set_cons_zero, List.set_cons_succ, i64_w, i32_w]
        rfl
      refine done_ (done_of HT_.out (by kernel_rfl)) ?_
      try go_wp2
      go_ret
      refine ⟨_, rfl, Kd.V_mono HO2.out (fun k_ hk => ?_), HB.out⟩
      have h1 := HS18.out
      have h2 := HS19.out
      rcases hk with (hk | hk) | hk
      · exact .inl hk
      · exact .inr (by omega)
      · exact .inr (by omega)
  · rw [if_neg hz] at h
    cases h
end Go.Proofs.YtmajfcdfafhkfaaGreatDoor.H
namespace Go.Proofs.YtmajfcdfafhkfaaGreatDoor.P
open Go.Proofs.YtmajfcdfafhkfaaGreatDoor.Leaf
open Go.RowKit Go.Proofs.YtmajfcdfafhkfaaGreatDoorW.PrintWords Go.Proofs.YtmajfcdfafhkfaaGreatDoorW.PrintLast Go.Proofs.YtmajfcdfafhkfaaGreatDoorW.PrintMore
attribute [local go_sem] max2_int min2_int max_two min_two max_three min_three max_four min_four   -- for this text's walks alone
set_option linter.unusedVariables false
set_option linter.unusedSimpArgs false
def journal_part_sector.f (a0_0 : Int) (a0_1 : Int) (a0_2 : Int) (a0_3 : Bool) (l0_4 : List Int) : Option (List Int) := if a0_3 = true then ((some (([74, (a0_0) % 256, (a0_0 / 256) % 256, (a0_1) % 256, (a0_1 / 256) % 256, (a0_1 / 65536) % 256, (a0_1 / 16777216) % 256, (a0_2) % 256, Go.bits .or .u8 (((l0_4.length : Int)) % 256) 128] : List Int) : List Int)).bind fun y102 => (if y102.length + l0_4.length < 140737488355328 then ((some (y102 ++ l0_4 : List Int)).bind fun y105 => (if 0 ≤ (wrap64 (60 - (y105.length : Int))) then (if y105.length + (wrap64 (60 - (y105.length : Int)) : Int).toNat < 140737488355328 then ((sum_Append.f (y105 ++ List.replicate (wrap64 (60 - (y105.length : Int)) : Int).toNat 0)).bind fun t111 => (some t111)) else (none)) else (none))) else (none))) else ((some (([74, (a0_0) % 256, (a0_0 / 256) % 256, (a0_1) % 256, (a0_1 / 256) % 256, (a0_1 / 65536) % 256, (a0_1 / 16777216) % 256, (a0_2) % 256, ((l0_4.length : Int)) % 256] : List Int) : List Int)).bind fun y114 => (if y114.length + l0_4.length < 140737488355328 then ((some (y114 ++ l0_4 : List Int)).bind fun y117 => (if 0 ≤ (wrap64 (60 - (y117.length : Int))) then (if y117.length + (wrap64 (60 - (y117.length : Int)) : Int).toNat < 140737488355328 then ((sum_Append.f (y117 ++ List.replicate (wrap64 (60 - (y117.length : Int)) : Int).toNat 0)).bind fun t123 => (some t123)) else (none)) else (none))) else (none)))
set_option maxHeartbeats 8000000 in
set_option maxRecDepth 100000 in
theorem journal_part_sector.calls (a0_0 : Int) (a0_1 : Int) (a0_2 : Int) (a0_3 : Bool) (A0_4 : Option Addr) (c0_4 : Nat) (l0_4 : List Int) (r : List Int) (w : World) (hr0_4 : Kd.C (Kd.int .u8) w A0_4 l0_4.length l0_4) (hc0_4 : l0_4.length ≤ c0_4) (h : journal_part_sector.f a0_0 a0_1 a0_2 a0_3 l0_4 = some r) :
  Calls Tryz.prog 71 #[.agg #[.int .i64 a0_0, .int .i64 a0_1, .int .i64 a0_2, .bool a0_3, .slice A0_4 l0_4.length c0_4]] w fun e w' => ∃ v0_ : Value, e = .returned (v0_) ∧ Kd.R (Kd.int .u8) 5 w' w.heap.size (fun _ => True) v0_ r ∧ Below w.heap.size w w' := by
 have hu117 := Tryz.underlying117
 have HR0_4 := Aside0.mk hr0_4
 have HC0_4 := Aside0.mk hc0_4
 clear hr0_4 hc0_4
 have HB := Aside0.mk (Below.refl w.heap.size w)
 have H : (if a0_3 = true then ((some (([74, (a0_0) % 256, (a0_0 / 256) % 256, (a0_1) % 256, (a0_1 / 256) % 256, (a0_1 / 65536) % 256, (a0_1 / 16777216) % 256, (a0_2) % 256, Go.bits .or .u8 (((l0_4.length : Int)) % 256) 128] : List Int) : List Int)).bind fun y102 => (if y102.length + l0_4.length < 140737488355328 then ((some (y102 ++ l0_4 : List Int)).bind fun y105 => (if 0 ≤ (wrap64 (60 - (y105.length : Int))) then (if y105.length + (wrap64 (60 - (y105.length : Int)) : Int).toNat < 140737488355328 then ((sum_Append.f (y105 ++ List.replicate (wrap64 (60 - (y105.length : Int)) : Int).toNat 0)).bind fun t111 => (some t111)) else (none)) else (none))) else (none))) else ((some (([74, (a0_0) % 256, (a0_0 / 256) % 256, (a0_1) % 256, (a0_1 / 256) % 256, (a0_1 / 65536) % 256, (a0_1 / 16777216) % 256, (a0_2) % 256, ((l0_4.length : Int)) % 256] : List Int) : List Int)).bind fun y114 => (if y114.length + l0_4.length < 140737488355328 then ((some (y114 ++ l0_4 : List Int)).bind fun y117 => (if 0 ≤ (wrap64 (60 - (y117.length : Int))) then (if y117.length + (wrap64 (60 - (y117.length : Int)) : Int).toNat < 140737488355328 then ((sum_Append.f (y117 ++ List.replicate (wrap64 (60 - (y117.length : Int)) : Int).toNat 0)).bind fun t123 => (some t123)) else (none)) else (none))) else (none)))) = some r := h
 clear h
 by_cases c2 : a0_3 = true
 ·subst c2
  have H1 : ((some (([74, (a0_0) % 256, (a0_0 / 256) % 256, (a0_1) % 256, (a0_1 / 256) % 256, (a0_1 / 65536) % 256, (a0_1 / 16777216) % 256, (a0_2) % 256, Go.bits .or .u8 (((l0_4.length : Int)) % 256) 128] : List Int) : List Int)).bind fun y102 => (if y102.length + l0_4.length < 140737488355328 then ((some (y102 ++ l0_4 : List Int)).bind fun y105 => (if 0 ≤ (wrap64 (60 - (y105.length : Int))) then (if y105.length + (wrap64 (60 - (y105.length : Int)) : Int).toNat < 140737488355328 then ((sum_Append.f (y105 ++ List.replicate (wrap64 (60 - (y105.length : Int)) : Int).toNat 0)).bind fun t111 => (some t111)) else (none)) else (none))) else (none))) = some r := by rw [if_pos rfl] at H; exact H
  clear H
  have H := H1
  clear H1
  obtain ⟨y102, hy102⟩ : ∃ y_ : List Int, y_ = (([74, (a0_0) % 256, (a0_0 / 256) % 256, (a0_1) % 256, (a0_1 / 256) % 256, (a0_1 / 65536) % 256, (a0_1 / 16777216) % 256, (a0_2) % 256, Go.bits .or .u8 (((l0_4.length : Int)) % 256) 128] : List Int)) := ⟨_, rfl⟩
  replace H : (if y102.length + l0_4.length < 140737488355328 then ((some (y102 ++ l0_4 : List Int)).bind fun y105 => (if 0 ≤ (wrap64 (60 - (y105.length : Int))) then (if y105.length + (wrap64 (60 - (y105.length : Int)) : Int).toNat < 140737488355328 then ((sum_Append.f (y105 ++ List.replicate (wrap64 (60 - (y105.length : Int)) : Int).toNat 0)).bind fun t111 => (some t111)) else (none)) else (none))) else (none)) = some r := by first | (rw [hy102]; with_reducible exact H) | (have H2_ := (Option.bind_some _ _).symm.trans H; rw [hy102]; with_reducible exact H2_) | (have H2_ := (Option.bind_some _ _).symm.trans H; with_reducible exact H2_) | with_reducible exact H | (rw [hy102]; exact H) | exact H
  have Ny102 := Aside0.mk hy102
  clear hy102
  by_cases c3 : y102.length + l0_4.length < 140737488355328
  ·rw [if_pos c3] at H
   have LMc3 := Aside0.mk c3
   clear c3
   obtain ⟨y105, hy105⟩ : ∃ y_ : List Int, y_ = (y102 ++ l0_4) := ⟨_, rfl⟩
   replace H : (if 0 ≤ (wrap64 (60 - (y105.length : Int))) then (if y105.length + (wrap64 (60 - (y105.length : Int)) : Int).toNat < 140737488355328 then ((sum_Append.f (y105 ++ List.replicate (wrap64 (60 - (y105.length : Int)) : Int).toNat 0)).bind fun t111 => (some t111)) else (none)) else (none)) = some r := by first | (rw [hy105]; with_reducible exact H) | (have H2_ := (Option.bind_some _ _).symm.trans H; rw [hy105]; with_reducible exact H2_) | (have H2_ := (Option.bind_some _ _).symm.trans H; with_reducible exact H2_) | with_reducible exact H | (rw [hy105]; exact H) | exact H
   have Ny105 := Aside0.mk hy105
   clear hy105
   obtain ⟨ji4, hji4⟩ : ∃ j_ : Int, (wrap64 (60 - (y105.length : Int))) = j_ := ⟨_, rfl⟩
   replace H : (if 0 ≤ (ji4) then (if y105.length + (ji4 : Int).toNat < 140737488355328 then ((sum_Append.f (y105 ++ List.replicate (ji4 : Int).toNat 0)).bind fun t111 => (some t111)) else (none)) else (none)) = some r := by first | (rw [hji4] at H; exact H) | (simp only [hji4] at H ⊢; exact H)
   have hji4w : (IntKind.i64.wrap (60 - (y105.length : Int))) = ji4 := (i64_w _).trans hji4
   by_cases c5 : 0 ≤ (ji4)
   ·rw [if_pos c5] at H
    have c5b0 := eq_true c5
    have c5b1 : decide (0 ≤ (ji4)) = true := decide_eq_true c5
    clear c5
    by_cases c6 : y105.length + (ji4 : Int).toNat < 140737488355328
    ·rw [if_pos c6] at H
     have LMc6 := Aside0.mk c6
     clear c6
     obtain ⟨y108, hy108⟩ : ∃ y_ : List Int, y_ = (y105 ++ List.replicate (ji4 : Int).toNat 0) := ⟨_, rfl⟩
     replace H : ((sum_Append.f y108).bind fun t111 => (some t111)) = some r := by first | (rw [hy108]; with_reducible exact H) | (have H2_ := (Option.bind_some _ _).symm.trans H; rw [hy108]; with_reducible exact H2_) | (have H2_ := (Option.bind_some _ _).symm.trans H; with_reducible exact H2_) | with_reducible exact H | (rw [hy108]; exact H) | exact H
     have Ny108 := Aside0.mk hy108
     clear hy108
     replace H := Option.bind_eq_some_iff.mp H
     obtain ⟨t111, A70, H⟩ := H
     replace H : (some t111) = some r := H
     have A7 := Aside0.mk A70
     clear A70
     obtain rfl := Option.some.inj H
     go_enter Tryz.func71, Tryz.ntmps71
     go_wp2_with (first | ((with_reducible refine gate_dst (N := 1) rfl ?_); refine box_event ?hg (N := 1) ?hd (cs := #[.int .i64 a0_0, .int .i64 a0_1, .int .i64 a0_2, .bool true, .slice A0_4 l0_4.length c0_4]) (t := 117) ?hr ?_; (case hd => rfl); (case hg => rfl); (case hr => first | (go_simp; done) | (go_simp; rfl)); intro gb101 hg w8 hbox hb; have n0_ := Aside0.mk (below_step (by repeat (first | (with_reducible first | exact HB.out | apply below_alloc | apply pw_below_drewN | apply below_drew1) | exact HB.out)) hb); have n1_ := Aside0.mk (hbox); have n2_ := Aside0.mk ((by rw [hg]; exact (below_size (by repeat (first | (with_reducible first | exact HB.out | apply below_alloc | apply pw_below_drewN | apply below_drew1) | exact HB.out))) : w.heap.size ≤ gb101)); have n3_ := Aside0.mk ((by rw [hg]; exact (below_size (by repeat (first | (with_reducible first | exact HB.out | apply below_alloc | apply pw_below_drewN | apply below_drew1) | exact HB.out))) : w.heap.size ≤ gb101)); clear HB; have HB := n0_; have BK101 := n1_; have GW101 := n2_; have GE101 := n3_; clear n0_ n1_ n2_ n3_; clear hb hbox hg; have hcz9_0 : w8.cell? ⟨gb101, 0, none⟩ = some (.int .i64 a0_0) := (blk_cell BK101.out 0).trans rfl; have hcz9_1 : w8.cell? ⟨gb101, 1, none⟩ = some (.int .i64 a0_1) := (blk_cell BK101.out 1).trans rfl; have hcz9_2 : w8.cell? ⟨gb101, 2, none⟩ = some (.int .i64 a0_2) := (blk_cell BK101.out 2).trans rfl; have hcz9_3 : w8.cell? ⟨gb101, 3, none⟩ = some (.bool true) := (blk_cell BK101.out 3).trans rfl; have hcz9_4 : w8.cell? ⟨gb101, 4, none⟩ = some (.slice A0_4 l0_4.length c0_4) := (blk_cell BK101.out 4).trans rfl; have hfz9_0 := blk_frozen BK101.out 0; have hfz9_1 := blk_frozen BK101.out 1; have hfz9_2 := blk_frozen BK101.out 2; have hfz9_3 := blk_frozen BK101.out 3; have hfz9_4 := blk_frozen BK101.out 4) | ((with_reducible refine gate_dst (N := 39) rfl ?_); refine Kd.R_lit (Kd.int .u8) _ 5 ?hg (N := 39) ?hd (xs := ([74, (a0_0) % 256, (a0_0 / 256) % 256, (a0_1) % 256, (a0_1 / 256) % 256, (a0_1 / 65536) % 256, (a0_1 / 16777216) % 256, (a0_2) % 256, Go.bits .or .u8 (((l0_4.length : Int)) % 256) 128] : List Int)) (inner := [.int .u8 74, .int .u8 ((a0_0) % 256), .int .u8 ((a0_0 / 256) % 256), .int .u8 ((a0_1) % 256), .int .u8 ((a0_1 / 256) % 256), .int .u8 ((a0_1 / 65536) % 256), .int .u8 ((a0_1 / 16777216) % 256), .int .u8 ((a0_2) % 256), .int .u8 (Go.bits .or .u8 (((l0_4.length : Int)) % 256) 128)]) (ok := fun _ => True) (okp := fun _ => True) ?hr ?hp (fun _ hk => hk) trivial (Below.refl _ _) (Nat.le_refl _) (by simp) ?_; (case hd => rfl); (case hg => rfl); (case hr => first | (go_simp; done) | (go_simp; rfl)); (case hp => exact (Reps.one (show Kd.M (Kd.int .u8) _ _ _ 74 [.int .u8 74] from rfl) (Reps.one (show Kd.M (Kd.int .u8) _ _ _ ((a0_0) % 256) [.int .u8 ((a0_0) % 256)] from rfl) (Reps.one (show Kd.M (Kd.int .u8) _ _ _ ((a0_0 / 256) % 256) [.int .u8 ((a0_0 / 256) % 256)] from rfl) (Reps.one (show Kd.M (Kd.int .u8) _ _ _ ((a0_1) % 256) [.int .u8 ((a0_1) % 256)] from rfl) (Reps.one (show Kd.M (Kd.int .u8) _ _ _ ((a0_1 / 256) % 256) [.int .u8 ((a0_1 / 256) % 256)] from rfl) (Reps.one (show Kd.M (Kd.int .u8) _ _ _ ((a0_1 / 65536) % 256) [.int .u8 ((a0_1 / 65536) % 256)] from rfl) (Reps.one (show Kd.M (Kd.int .u8) _ _ _ ((a0_1 / 16777216) % 256) [.int .u8 ((a0_1 / 16777216) % 256)] from rfl) (Reps.one (show Kd.M (Kd.int .u8) _ _ _ ((a0_2) % 256) [.int .u8 ((a0_2) % 256)] from rfl) (Reps.one (show Kd.M (Kd.int .u8) _ _ _ (Go.bits .or .u8 (((l0_4.length : Int)) % 256) 128) [.int .u8 (Go.bits .or .u8 (((l0_4.length : Int)) % 256) 128)] from rfl) (Reps.none _ _))))))))))); intro v103 w10 ho11 hb hg_ hnew_; clear hg_ hnew_; (first | rw [← Ny102.out] at ho11 | (simp only [Int.reduceToNat] at ho11; rw [← Ny102.out] at ho11)); have n0_ := Aside0.mk (Kd.R_lower ho11 (below_size (by repeat (first | (with_reducible first | exact HB.out | apply below_alloc | apply pw_below_drewN | apply below_drew1 | refine below_set ?_ GE101.out) | exact HB.out)))); have n1_ := Aside0.mk (blk_below (g := gb101) (o := .cells #[.int .i64 a0_0, .int .i64 a0_1, .int .i64 a0_2, .bool true, .slice A0_4 l0_4.length c0_4] 117 (0, 0)) (by (with_reducible repeat (first | refine blk_drewN ?_ _ | refine blk_drew ?_ | refine blk_alloc ?_ _)); exact BK101.out) hb); have n2_ := Aside0.mk (below_step (by repeat (first | (with_reducible first | exact HB.out | apply below_alloc | apply pw_below_drewN | apply below_drew1 | refine below_set ?_ GE101.out) | exact HB.out)) hb); clear BK101; clear HB; have HO104 := n0_; have BK101 := n1_; have HB := n2_; clear n0_ n1_ n2_; clear hb ho11; have hcz12_0 : w10.cell? ⟨gb101, 0, none⟩ = some (.int .i64 a0_0) := (blk_cell BK101.out 0).trans rfl; have hcz12_1 : w10.cell? ⟨gb101, 1, none⟩ = some (.int .i64 a0_1) := (blk_cell BK101.out 1).trans rfl; have hcz12_2 : w10.cell? ⟨gb101, 2, none⟩ = some (.int .i64 a0_2) := (blk_cell BK101.out 2).trans rfl; have hcz12_3 : w10.cell? ⟨gb101, 3, none⟩ = some (.bool true) := (blk_cell BK101.out 3).trans rfl; have hcz12_4 : w10.cell? ⟨gb101, 4, none⟩ = some (.slice A0_4 l0_4.length c0_4) := (blk_cell BK101.out 4).trans rfl; have hfz12_0 := blk_frozen BK101.out 0; have hfz12_1 := blk_frozen BK101.out 1; have hfz12_2 := blk_frozen BK101.out 2; have hfz12_3 := blk_frozen BK101.out 3; have hfz12_4 := blk_frozen BK101.out 4) | ((with_reducible refine gate_builtin (b := .append) (xs := #[.tmp 40, .tmp 42]) rfl ?_); at_builtin; refine Kd.R_append_rows (Kd.int .u8) (w0 := w) w.heap.size rfl (.tmp 40) (.tmp 42) 23 5 (.int .u8 0) 1 rfl Tryz.underlying23 info5 rfl (by decide) (by omega) v103 y102 l0_4 _ _ _ (fun _ => True) (fun _ => False) rfl rfl ?aO ?aR (fun _ _ h => h) (fun _ h => h.elim) ?aF ?aB ?aS ?aL ?_; (case aR => repeat (first | exact (Kd.C_below HR0_4.out HB.out) | (with_reducible refine Kd.C_alloc ?_ _) | (with_reducible refine Kd.C_drewN ?_ _) | (with_reducible refine Kd.C_drew ?_))); (case aB => exact (by repeat (first | (with_reducible first | exact HB.out | apply below_alloc | apply pw_below_drewN | apply below_drew1 | refine below_set ?_ GE101.out) | exact HB.out))); (case aF => exact (fun _ _ => trivial)); (case aO => exact (by (with_reducible repeat (first | apply Kd.R_alloc | apply Kd.R_drewN | apply Kd.R_drew)); exact HO104.out)); (case aS => exact (below_size (by repeat (first | (with_reducible first | exact HB.out | apply below_alloc | apply pw_below_drewN | apply below_drew1 | refine below_set ?_ GE101.out) | exact HB.out)))); (case aL => have := LMc3.out; omega); intro v106 w13 ho hb hg hat; rw [← Ny105.out] at ho; have n0_ := Aside0.mk (blk_grown (g := gb101) (o := .cells #[.int .i64 a0_0, .int .i64 a0_1, .int .i64 a0_2, .bool true, .slice A0_4 l0_4.length c0_4] 117 (0, 0)) (by (with_reducible repeat (first | refine blk_drewN ?_ _ | refine blk_drew ?_ | refine blk_alloc ?_ _)); exact BK101.out) hg (Kd.R_ne HO104.out BK101.out (by decide))); have n1_ := Aside0.mk (hb); have n2_ := Aside0.mk (ho); clear BK101; clear HB; clear HO104; have BK101 := n0_; have HB := n1_; have HO107 := n2_; clear n0_ n1_ n2_; clear ho hb hg hat; obtain ⟨Ao14, co14, eo14⟩ := Kd.R_slice HO107.out; subst eo14) | (at_builtin; refine Kd.R_append_zeros (Kd.int .u8) (w0 := w) w.heap.size rfl (.tmp 44) (.tmp 47) 23 3 5 (.int .u8 0) 1 rfl Tryz.underlying23 Tryz.underlying3 info5 rfl (by decide) (by omega) (.slice Ao14 y105.length co14) y105 0 (ji4 : Int) (fun _ => True) rfl rfl rfl ?aF ?aO (of_decide_eq_true (by first | (with_reducible assumption) | assumption)) ?aB ?aS ?aL ?_; (case aB => exact (by repeat (first | (with_reducible first | exact HB.out | apply below_alloc | apply pw_below_drewN | apply below_drew1 | refine below_set ?_ GE101.out) | exact HB.out))); (case aF => exact (fun _ _ => trivial)); (case aO => exact (by (with_reducible repeat (first | apply Kd.R_alloc | apply Kd.R_drewN | apply Kd.R_drew)); exact HO107.out)); (case aS => exact (below_size (by repeat (first | (with_reducible first | exact HB.out | apply below_alloc | apply pw_below_drewN | apply below_drew1 | refine below_set ?_ GE101.out) | exact HB.out)))); (case aL => have := LMc6.out; omega); intro v109 w15 ho hb hg hat; rw [← Ny108.out] at ho; have n0_ := Aside0.mk (blk_grown (g := gb101) (o := .cells #[.int .i64 a0_0, .int .i64 a0_1, .int .i64 a0_2, .bool true, .slice A0_4 l0_4.length c0_4] 117 (0, 0)) (by (with_reducible repeat (first | refine blk_drewN ?_ _ | refine blk_drew ?_ | refine blk_alloc ?_ _)); exact BK101.out) hg (Kd.R_ne HO107.out BK101.out (by decide))); have n1_ := Aside0.mk (hb); have n2_ := Aside0.mk (ho); clear BK101; clear HB; clear HO107; have BK101 := n0_; have HB := n1_; have HO110 := n2_; clear n0_ n1_ n2_; clear ho hb hg hat; obtain ⟨Ao16, co16, eo16⟩ := Kd.R_slice HO110.out; subst eo16) | ((with_reducible refine gate_callee (f := 84) rfl ?_); refine goesL_ (some 49) rfl rfl Tryz.func84 (by kernel_rfl) rfl #[.slice Ao16 y108.length co16] rfl (by (try simp only [List.map_toArray, List.map_cons, List.map_nil]); first | done | rfl | (simp only [List.length_drop, List.length_take]; rfl)) ?_; (with_reducible refine (sum_Append.calls _ _ y108 t111 _ ?side1 ?side2 A7.out).mono ?_); (case side1 => repeat (first | exact (Kd.R_reads' HO110.out).2.2 | (with_reducible refine Kd.C_alloc ?_ _) | (with_reducible refine Kd.C_drewN ?_ _) | (with_reducible refine Kd.C_drew ?_))); (case side2 => exact (Kd.R_reads' HO110.out).2.1); rintro e w17 ⟨v112, rfl, ho0, hb⟩; refine ⟨_, rfl, ?_⟩; have n0_ := Aside0.mk (Kd.R_elder' (by (with_reducible repeat (first | apply Kd.R_alloc | apply Kd.R_drewN | apply Kd.R_drew)); exact HO110.out) (Kd.R_base ho0) hb); have n1_ := Aside0.mk (Kd.R_lower (Kd.R_new' ho0 (Kd.R_lt (by (with_reducible repeat (first | apply Kd.R_alloc | apply Kd.R_drewN | apply Kd.R_drew)); exact HO110.out))) (below_size (by repeat (first | (with_reducible first | exact HB.out | apply below_alloc | apply pw_below_drewN | apply below_drew1 | refine below_set ?_ GE101.out) | exact HB.out)))); have n2_ := Aside0.mk (blk_below (g := gb101) (o := .cells #[.int .i64 a0_0, .int .i64 a0_1, .int .i64 a0_2, .bool true, .slice A0_4 l0_4.length c0_4] 117 (0, 0)) (by (with_reducible repeat (first | refine blk_drewN ?_ _ | refine blk_drew ?_ | refine blk_alloc ?_ _)); exact BK101.out) hb); have n3_ := Aside0.mk (below_step (by repeat (first | (with_reducible first | exact HB.out | apply below_alloc | apply pw_below_drewN | apply below_drew1 | refine below_set ?_ GE101.out) | exact HB.out)) hb); clear HO110; clear BK101; clear HB; have HO110 := n0_; have HO113 := n1_; have BK101 := n2_; have HB := n3_; clear n0_ n1_ n2_ n3_; (try clear hb); (try clear hb2); (try clear hk); (try clear hi); (try clear ho0)))
     go_ret
     exact ⟨_, by first | rfl | (simp [errW_none, errW_some] <;> rfl) | (simp only [← hji4]; first | rfl | (simp [errW_none, errW_some] <;> rfl)) | (simp [*, errW_none, errW_some] <;> rfl), by (with_reducible repeat (first | apply Kd.R_alloc | apply Kd.R_drewN | apply Kd.R_drew)); exact Kd.R_mono HO113.out (fun _ hk => trivial), by repeat (first | (with_reducible first | exact HB.out | apply below_alloc | apply pw_below_drewN | apply below_drew1 | refine below_set ?_ GE101.out) | exact HB.out)⟩
    ·rw [if_neg c6] at H
     exact absurd H (by simp)
   ·rw [if_neg c5] at H
    exact absurd H (by simp)
  ·rw [if_neg c3] at H
   exact absurd H (by simp)
 ·replace c2 := Bool.eq_false_iff.mpr c2
  subst c2
  have H1 : ((some (([74, (a0_0) % 256, (a0_0 / 256) % 256, (a0_1) % 256, (a0_1 / 256) % 256, (a0_1 / 65536) % 256, (a0_1 / 16777216) % 256, (a0_2) % 256, ((l0_4.length : Int)) % 256] : List Int) : List Int)).bind fun y114 => (if y114.length + l0_4.length < 140737488355328 then ((some (y114 ++ l0_4 : List Int)).bind fun y117 => (if 0 ≤ (wrap64 (60 - (y117.length : Int))) then (if y117.length + (wrap64 (60 - (y117.length : Int)) : Int).toNat < 140737488355328 then ((sum_Append.f (y117 ++ List.replicate (wrap64 (60 - (y117.length : Int)) : Int).toNat 0)).bind fun t123 => (some t123)) else (none)) else (none))) else (none))) = some r := by rw [if_neg (show ¬ (false = true) by decide)] at H; exact H
  clear H
  have H := H1
  clear H1
  obtain ⟨y114, hy114⟩ : ∃ y_ : List Int, y_ = (([74, (a0_0) % 256, (a0_0 / 256) % 256, (a0_1) % 256, (a0_1 / 256) % 256, (a0_1 / 65536) % 256, (a0_1 / 16777216) % 256, (a0_2) % 256, ((l0_4.length : Int)) % 256] : List Int)) := ⟨_, rfl⟩
  replace H : (if y114.length + l0_4.length < 140737488355328 then ((some (y114 ++ l0_4 : List Int)).bind fun y117 => (if 0 ≤ (wrap64 (60 - (y117.length : Int))) then (if y117.length + (wrap64 (60 - (y117.length : Int)) : Int).toNat < 140737488355328 then ((sum_Append.f (y117 ++ List.replicate (wrap64 (60 - (y117.length : Int)) : Int).toNat 0)).bind fun t123 => (some t123)) else (none)) else (none))) else (none)) = some r := by first | (rw [hy114]; with_reducible exact H) | (have H2_ := (Option.bind_some _ _).symm.trans H; rw [hy114]; with_reducible exact H2_) | (have H2_ := (Option.bind_some _ _).symm.trans H; with_reducible exact H2_) | with_reducible exact H | (rw [hy114]; exact H) | exact H
  have Ny114 := Aside0.mk hy114
  clear hy114
  by_cases c18 : y114.length + l0_4.length < 140737488355328
  ·rw [if_pos c18] at H
   have LMc18 := Aside0.mk c18
   clear c18
   obtain ⟨y117, hy117⟩ : ∃ y_ : List Int, y_ = (y114 ++ l0_4) := ⟨_, rfl⟩
   replace H : (if 0 ≤ (wrap64 (60 - (y117.length : Int))) then (if y117.length + (wrap64 (60 - (y117.length : Int)) : Int).toNat < 140737488355328 then ((sum_Append.f (y117 ++ List.replicate (wrap64 (60 - (y117.length : Int)) : Int).toNat 0)).bind fun t123 => (some t123)) else (none)) else (none)) = some r := by first | (rw [hy117]; with_reducible exact H) | (have H2_ := (Option.bind_some _ _).symm.trans H; rw [hy117]; with_reducible exact H2_) | (have H2_ := (Option.bind_some _ _).symm.trans H; with_reducible exact H2_) | with_reducible exact H | (rw [hy117]; exact H) | exact H
   have Ny117 := Aside0.mk hy117
   clear hy117
   obtain ⟨ji19, hji19⟩ : ∃ j_ : Int, (wrap64 (60 - (y117.length : Int))) = j_ := ⟨_, rfl⟩
   replace H : (if 0 ≤ (ji19) then (if y117.length + (ji19 : Int).toNat < 140737488355328 then ((sum_Append.f (y117 ++ List.replicate (ji19 : Int).toNat 0)).bind fun t123 => (some t123)) else (none)) else (none)) = some r := by first | (rw [hji19] at H; exact H) | (simp only [hji19] at H ⊢; exact H)
   have hji19w : (IntKind.i64.wrap (60 - (y117.length : Int))) = ji19 := (i64_w _).trans hji19
   by_cases c20 : 0 ≤ (ji19)
   ·rw [if_pos c20] at H
    have c20b0 := eq_true c20
    have c20b1 : decide (0 ≤ (ji19)) = true := decide_eq_true c20
    clear c20
    by_cases c21 : y117.length + (ji19 : Int).toNat < 140737488355328
    ·rw [if_pos c21] at H
     have LMc21 := Aside0.mk c21
     clear c21
     obtain ⟨y120, hy120⟩ : ∃ y_ : List Int, y_ = (y117 ++ List.replicate (ji19 : Int).toNat 0) := ⟨_, rfl⟩
     replace H : ((sum_Append.f y120).bind fun t123 => (some t123)) = some r := by first | (rw [hy120]; with_reducible exact H) | (have H2_ := (Option.bind_some _ _).symm.trans H; rw [hy120]; with_reducible exact H2_) | (have H2_ := (Option.bind_some _ _).symm.trans H; with_reducible exact H2_) | with_reducible exact H | (rw [hy120]; exact H) | exact H
     have Ny120 := Aside0.mk hy120
     clear hy120
     replace H := Option.bind_eq_some_iff.mp H
     obtain ⟨t123, A220, H⟩ := H
     replace H : (some t123) = some r := H
     have A22 := Aside0.mk A220
     clear A220
     obtain rfl := Option.some.inj H
     go_enter Tryz.func71, Tryz.ntmps71
     go_wp2_with (first | ((with_reducible refine gate_dst (N := 1) rfl ?_); refine box_event ?hg (N := 1) ?hd (cs := #[.int .i64 a0_0, .int .i64 a0_1, .int .i64 a0_2, .bool false, .slice A0_4 l0_4.length c0_4]) (t := 117) ?hr ?_; (case hd => rfl); (case hg => rfl); (case hr => first | (go_simp; done) | (go_simp; rfl)); intro gb101 hg w23 hbox hb; have n0_ := Aside0.mk (below_step (by repeat (first | (with_reducible first | exact HB.out | apply below_alloc | apply pw_below_drewN | apply below_drew1) | exact HB.out)) hb); have n1_ := Aside0.mk (hbox); have n2_ := Aside0.mk ((by rw [hg]; exact (below_size (by repeat (first | (with_reducible first | exact HB.out | apply below_alloc | apply pw_below_drewN | apply below_drew1) | exact HB.out))) : w.heap.size ≤ gb101)); have n3_ := Aside0.mk ((by rw [hg]; exact (below_size (by repeat (first | (with_reducible first | exact HB.out | apply below_alloc | apply pw_below_drewN | apply below_drew1) | exact HB.out))) : w.heap.size ≤ gb101)); clear HB; have HB := n0_; have BK101 := n1_; have GW101 := n2_; have GE101 := n3_; clear n0_ n1_ n2_ n3_; clear hb hbox hg; have hcz24_0 : w23.cell? ⟨gb101, 0, none⟩ = some (.int .i64 a0_0) := (blk_cell BK101.out 0).trans rfl; have hcz24_1 : w23.cell? ⟨gb101, 1, none⟩ = some (.int .i64 a0_1) := (blk_cell BK101.out 1).trans rfl; have hcz24_2 : w23.cell? ⟨gb101, 2, none⟩ = some (.int .i64 a0_2) := (blk_cell BK101.out 2).trans rfl; have hcz24_3 : w23.cell? ⟨gb101, 3, none⟩ = some (.bool false) := (blk_cell BK101.out 3).trans rfl; have hcz24_4 : w23.cell? ⟨gb101, 4, none⟩ = some (.slice A0_4 l0_4.length c0_4) := (blk_cell BK101.out 4).trans rfl; have hfz24_0 := blk_frozen BK101.out 0; have hfz24_1 := blk_frozen BK101.out 1; have hfz24_2 := blk_frozen BK101.out 2; have hfz24_3 := blk_frozen BK101.out 3; have hfz24_4 := blk_frozen BK101.out 4) | ((with_reducible refine gate_dst (N := 39) rfl ?_); refine Kd.R_lit (Kd.int .u8) _ 5 ?hg (N := 39) ?hd (xs := ([74, (a0_0) % 256, (a0_0 / 256) % 256, (a0_1) % 256, (a0_1 / 256) % 256, (a0_1 / 65536) % 256, (a0_1 / 16777216) % 256, (a0_2) % 256, ((l0_4.length : Int)) % 256] : List Int)) (inner := [.int .u8 74, .int .u8 ((a0_0) % 256), .int .u8 ((a0_0 / 256) % 256), .int .u8 ((a0_1) % 256), .int .u8 ((a0_1 / 256) % 256), .int .u8 ((a0_1 / 65536) % 256), .int .u8 ((a0_1 / 16777216) % 256), .int .u8 ((a0_2) % 256), .int .u8 (((l0_4.length : Int)) % 256)]) (ok := fun _ => True) (okp := fun _ => True) ?hr ?hp (fun _ hk => hk) trivial (Below.refl _ _) (Nat.le_refl _) (by simp) ?_; (case hd => rfl); (case hg => rfl); (case hr => first | (go_simp; done) | (go_simp; rfl)); (case hp => exact (Reps.one (show Kd.M (Kd.int .u8) _ _ _ 74 [.int .u8 74] from rfl) (Reps.one (show Kd.M (Kd.int .u8) _ _ _ ((a0_0) % 256) [.int .u8 ((a0_0) % 256)] from rfl) (Reps.one (show Kd.M (Kd.int .u8) _ _ _ ((a0_0 / 256) % 256) [.int .u8 ((a0_0 / 256) % 256)] from rfl) (Reps.one (show Kd.M (Kd.int .u8) _ _ _ ((a0_1) % 256) [.int .u8 ((a0_1) % 256)] from rfl) (Reps.one (show Kd.M (Kd.int .u8) _ _ _ ((a0_1 / 256) % 256) [.int .u8 ((a0_1 / 256) % 256)] from rfl) (Reps.one (show Kd.M (Kd.int .u8) _ _ _ ((a0_1 / 65536) % 256) [.int .u8 ((a0_1 / 65536) % 256)] from rfl) (Reps.one (show Kd.M (Kd.int .u8) _ _ _ ((a0_1 / 16777216) % 256) [.int .u8 ((a0_1 / 16777216) % 256)] from rfl) (Reps.one (show Kd.M (Kd.int .u8) _ _ _ ((a0_2) % 256) [.int .u8 ((a0_2) % 256)] from rfl) (Reps.one (show Kd.M (Kd.int .u8) _ _ _ (((l0_4.length : Int)) % 256) [.int .u8 (((l0_4.length : Int)) % 256)] from rfl) (Reps.none _ _))))))))))); intro v115 w25 ho26 hb hg_ hnew_; clear hg_ hnew_; (first | rw [← Ny114.out] at ho26 | (simp only [Int.reduceToNat] at ho26; rw [← Ny114.out] at ho26)); have n0_ := Aside0.mk (Kd.R_lower ho26 (below_size (by repeat (first | (with_reducible first | exact HB.out | apply below_alloc | apply pw_below_drewN | apply below_drew1 | refine below_set ?_ GE101.out) | exact HB.out)))); have n1_ := Aside0.mk (blk_below (g := gb101) (o := .cells #[.int .i64 a0_0, .int .i64 a0_1, .int .i64 a0_2, .bool false, .slice A0_4 l0_4.length c0_4] 117 (0, 0)) (by (with_reducible repeat (first | refine blk_drewN ?_ _ | refine blk_drew ?_ | refine blk_alloc ?_ _)); exact BK101.out) hb); have n2_ := Aside0.mk (below_step (by repeat (first | (with_reducible first | exact HB.out | apply below_alloc | apply pw_below_drewN | apply below_drew1 | refine below_set ?_ GE101.out) | exact HB.out)) hb); clear BK101; clear HB; have HO116 := n0_; have BK101 := n1_; have HB := n2_; clear n0_ n1_ n2_; clear hb ho26; have hcz27_0 : w25.cell? ⟨gb101, 0, none⟩ = some (.int .i64 a0_0) := (blk_cell BK101.out 0).trans rfl; have hcz27_1 : w25.cell? ⟨gb101, 1, none⟩ = some (.int .i64 a0_1) := (blk_cell BK101.out 1).trans rfl; have hcz27_2 : w25.cell? ⟨gb101, 2, none⟩ = some (.int .i64 a0_2) := (blk_cell BK101.out 2).trans rfl; have hcz27_3 : w25.cell? ⟨gb101, 3, none⟩ = some (.bool false) := (blk_cell BK101.out 3).trans rfl; have hcz27_4 : w25.cell? ⟨gb101, 4, none⟩ = some (.slice A0_4 l0_4.length c0_4) := (blk_cell BK101.out 4).trans rfl; have hfz27_0 := blk_frozen BK101.out 0; have hfz27_1 := blk_frozen BK101.out 1; have hfz27_2 := blk_frozen BK101.out 2; have hfz27_3 := blk_frozen BK101.out 3; have hfz27_4 := blk_frozen BK101.out 4) | ((with_reducible refine gate_builtin (b := .append) (xs := #[.tmp 40, .tmp 42]) rfl ?_); at_builtin; refine Kd.R_append_rows (Kd.int .u8) (w0 := w) w.heap.size rfl (.tmp 40) (.tmp 42) 23 5 (.int .u8 0) 1 rfl Tryz.underlying23 info5 rfl (by decide) (by omega) v115 y114 l0_4 _ _ _ (fun _ => True) (fun _ => False) rfl rfl ?aO ?aR (fun _ _ h => h) (fun _ h => h.elim) ?aF ?aB ?aS ?aL ?_; (case aR => repeat (first | exact (Kd.C_below HR0_4.out HB.out) | (with_reducible refine Kd.C_alloc ?_ _) | (with_reducible refine Kd.C_drewN ?_ _) | (with_reducible refine Kd.C_drew ?_))); (case aB => exact (by repeat (first | (with_reducible first | exact HB.out | apply below_alloc | apply pw_below_drewN | apply below_drew1 | refine below_set ?_ GE101.out) | exact HB.out))); (case aF => exact (fun _ _ => trivial)); (case aO => exact (by (with_reducible repeat (first | apply Kd.R_alloc | apply Kd.R_drewN | apply Kd.R_drew)); exact HO116.out)); (case aS => exact (below_size (by repeat (first | (with_reducible first | exact HB.out | apply below_alloc | apply pw_below_drewN | apply below_drew1 | refine below_set ?_ GE101.out) | exact HB.out)))); (case aL => have := LMc18.out; omega); intro v118 w28 ho hb hg hat; rw [← Ny117.out] at ho; have n0_ := Aside0.mk (blk_grown (g := gb101) (o := .cells #[.int .i64 a0_0, .int .i64 a0_1, .int .i64 a0_2, .bool false, .slice A0_4 l0_4.length c0_4] 117 (0, 0)) (by (with_reducible repeat (first | refine blk_drewN ?_ _ | refine blk_drew ?_ | refine blk_alloc ?_ _)); exact BK101.out) hg (Kd.R_ne HO116.out BK101.out (by decide))); have n1_ := Aside0.mk (hb); have n2_ := Aside0.mk (ho); clear BK101; clear HB; clear HO116; have BK101 := n0_; have HB := n1_; have HO119 := n2_; clear n0_ n1_ n2_; clear ho hb hg hat; obtain ⟨Ao29, co29, eo29⟩ := Kd.R_slice HO119.out; subst eo29) | (at_builtin; refine Kd.R_append_zeros (Kd.int .u8) (w0 := w) w.heap.size rfl (.tmp 44) (.tmp 47) 23 3 5 (.int .u8 0) 1 rfl Tryz.underlying23 Tryz.underlying3 info5 rfl (by decide) (by omega) (.slice Ao29 y117.length co29) y117 0 (ji19 : Int) (fun _ => True) rfl rfl rfl ?aF ?aO (of_decide_eq_true (by first | (with_reducible assumption) | assumption)) ?aB ?aS ?aL ?_; (case aB => exact (by repeat (first | (with_reducible first | exact HB.out | apply below_alloc | apply pw_below_drewN | apply below_drew1 | refine below_set ?_ GE101.out) | exact HB.out))); (case aF => exact (fun _ _ => trivial)); (case aO => exact (by (with_reducible repeat (first | apply Kd.R_alloc | apply Kd.R_drewN | apply Kd.R_drew)); exact HO119.out)); (case aS => exact (below_size (by repeat (first | (with_reducible first | exact HB.out | apply below_alloc | apply pw_below_drewN | apply below_drew1 | refine below_set ?_ GE101.out) | exact HB.out)))); (case aL => have := LMc21.out; omega); intro v121 w30 ho hb hg hat; rw [← Ny120.out] at ho; have n0_ := Aside0.mk (blk_grown (g := gb101) (o := .cells #[.int .i64 a0_0, .int .i64 a0_1, .int .i64 a0_2, .bool false, .slice A0_4 l0_4.length c0_4] 117 (0, 0)) (by (with_reducible repeat (first | refine blk_drewN ?_ _ | refine blk_drew ?_ | refine blk_alloc ?_ _)); exact BK101.out) hg (Kd.R_ne HO119.out BK101.out (by decide))); have n1_ := Aside0.mk (hb); have n2_ := Aside0.mk (ho); clear BK101; clear HB; clear HO119; have BK101 := n0_; have HB := n1_; have HO122 := n2_; clear n0_ n1_ n2_; clear ho hb hg hat; obtain ⟨Ao31, co31, eo31⟩ := Kd.R_slice HO122.out; subst eo31) | ((with_reducible refine gate_callee (f := 84) rfl ?_); refine goesL_ (some 49) rfl rfl Tryz.func84 (by kernel_rfl) rfl #[.slice Ao31 y120.length co31] rfl (by (try simp only [List.map_toArray, List.map_cons, List.map_nil]); first | done | rfl | (simp only [List.length_drop, List.length_take]; rfl)) ?_; (with_reducible refine (sum_Append.calls _ _ y120 t123 _ ?side1 ?side2 A22.out).mono ?_); (case side1 => repeat (first | exact (Kd.R_reads' HO122.out).2.2 | (with_reducible refine Kd.C_alloc ?_ _) | (with_reducible refine Kd.C_drewN ?_ _) | (with_reducible refine Kd.C_drew ?_))); (case side2 => exact (Kd.R_reads' HO122.out).2.1); rintro e w32 ⟨v124, rfl, ho0, hb⟩; refine ⟨_, rfl, ?_⟩; have n0_ := Aside0.mk (Kd.R_elder' (by (with_reducible repeat (first | apply Kd.R_alloc | apply Kd.R_drewN | apply Kd.R_drew)); exact HO122.out) (Kd.R_base ho0) hb); have n1_ := Aside0.mk (Kd.R_lower (Kd.R_new' ho0 (Kd.R_lt (by (with_reducible repeat (first | apply Kd.R_alloc | apply Kd.R_drewN | apply Kd.R_drew)); exact HO122.out))) (below_size (by repeat (first | (with_reducible first | exact HB.out | apply below_alloc | apply pw_below_drewN | apply below_drew1 | refine below_set ?_ GE101.out) | exact HB.out)))); have n2_ := Aside0.mk (blk_below (g := gb101) (o := .cells #[.int .i64 a0_0, .int .i64 a0_1, .int .i64 a0_2, .bool false, .slice A0_4 l0_4.length c0_4] 117 (0, 0)) (by (with_reducible repeat (first | refine blk_drewN ?_ _ | refine blk_drew ?_ | refine blk_alloc ?_ _)); exact BK101.out) hb); have n3_ := Aside0.mk (below_step (by repeat (first | (with_reducible first | exact HB.out | apply below_alloc | apply pw_below_drewN | apply below_drew1 | refine below_set ?_ GE101.out) | exact HB.out)) hb); clear HO122; clear BK101; clear HB; have HO122 := n0_; have HO125 := n1_; have BK101 := n2_; have HB := n3_; clear n0_ n1_ n2_ n3_; (try clear hb); (try clear hb2); (try clear hk); (try clear hi); (try clear ho0)))
     go_ret
     exact ⟨_, by first | rfl | (simp [errW_none, errW_some] <;> rfl) | (simp only [← hji19]; first | rfl | (simp [errW_none, errW_some] <;> rfl)) | (simp [*, errW_none, errW_some] <;> rfl), by (with_reducible repeat (first | apply Kd.R_alloc | apply Kd.R_drewN | apply Kd.R_drew)); exact Kd.R_mono HO125.out (fun _ hk => trivial), by repeat (first | (with_reducible first | exact HB.out | apply below_alloc | apply pw_below_drewN | apply below_drew1 | refine below_set ?_ GE101.out) | exact HB.out)⟩
    ·rw [if_neg c21] at H
     exact absurd H (by simp)
   ·rw [if_neg c20] at H
    exact absurd H (by simp)
  ·rw [if_neg c18] at H
   exact absurd H (by simp)
end Go.Proofs.YtmajfcdfafhkfaaGreatDoor.P
namespace Go.Proofs.YtmajfcdfafhkfaaGreatDoor.H
open Go.RowKit Go.Proofs.YtmajfcdfafhkfaaGreatDoorW.PrintWords Go.Proofs.YtmajfcdfafhkfaaGreatDoorW.PrintLast Go.Proofs.YtmajfcdfafhkfaaGreatDoor.Leaf Go.Proofs.YtmajfcdfafhkfaaGreatDoor.P
set_option linter.unusedVariables false
set_option linter.unusedSimpArgs false
set_option maxHeartbeats 1000000
set_option maxRecDepth 100000
theorem disk_Size (W : World) (g : Nat) (A : Option Addr) (n c : Nat) (r : Int) (hr : wrap64 ((n : Int) / 64) = r) (hB : W.cell? ⟨g, 0, none⟩ = some (.slice A n c)) : Calls Tryz.prog 63 #[.pointer (some ⟨g, 0, none⟩)] W fun e w' => e = .returned (.int .i64 r) ∧ w' = W := by
  subst hr
  go_enter Tryz.func63, Tryz.ntmps63
  go_wp2_with fail
  go_ret
  exact ⟨rfl, rfl⟩
theorem disk_has (W : World) (g : Nat) (A : Option Addr) (c : Nat) (at_ : Nat) (h8 : at_ < 8) (hB : W.cell? ⟨g, 0, none⟩ = some (.slice A 512 c)) : Calls Tryz.prog 82 #[.pointer (some ⟨g, 0, none⟩), .int .i64 (at_ : Int)] W fun e w' => e = .returned (.bool true) ∧ w' = W := by
  have hs := disk_Size W g A 512 c 8 (by decide +kernel) hB
  have ht : decide ((at_ : Int) ≥ 0) = true := decide_eq_true (by omega)
  have hu : decide ((at_ : Int) < 8) = true := decide_eq_true (by omega)
  go_enter Tryz.func82, Tryz.ntmps82
  go_wp2_with fail
  refine hs.mono ?_
  rintro e w' ⟨rfl, rfl⟩
  go_wp2_with fail
  go_ret
  exact ⟨rfl, rfl⟩
theorem disk_sector (W : World) (g s : Nat) (c : Nat) (hc : 512 ≤ c) (at_ : Nat) (h8 : at_ < 8) (hB : W.cell? ⟨g, 0, none⟩ = some (.slice (some ⟨s, 0, none⟩) 512 c)) : Calls Tryz.prog 49 #[.pointer (some ⟨g, 0, none⟩), .int .i64 (at_ : Int)] W fun e w' => e = .returned (.slice (some ⟨s, at_ * 64, none⟩) 64 (c - at_ * 64)) ∧ w' = W := by
  have hw1 : IntKind.i64.wrap ((at_ : Int) * 64) = (at_ : Int) * 64 := IntWalk.i64_in _ (by omega)
  have hw2 : IntKind.i64.wrap ((at_ : Int) + 1) = (at_ : Int) + 1 := IntWalk.i64_in _ (by omega)
  have hw3 : IntKind.i64.wrap (((at_ : Int) + 1) * 64) = ((at_ : Int) + 1) * 64 := IntWalk.i64_in _ (by omega)
  go_enter Tryz.func49, Tryz.ntmps49
  go_wp2_with fail
  go_ret
  refine ⟨?_, rfl⟩
  show Ending.returned (.slice _ ((at_ + 1) * 64 - at_ * 64) _) = _
  rw [show (at_ + 1) * 64 - at_ * 64 = 64 by omega]
theorem journal_is (W : World) (h : Nat) (d : Addr) (hB : W.cell? ⟨h, 0, none⟩ = some (.pointer (some d))) : Calls Tryz.prog 67 #[.pointer (some ⟨h, 0, none⟩)] W fun e w' => e = .returned (.bool true) ∧ w' = W := by
  go_enter Tryz.func67, Tryz.ntmps67
  go_wp2_with fail
  go_ret
  exact ⟨rfl, rfl⟩
/-- A journal that nobody made: none, or one of no disk. -/
def Nob (W : World) (z : Option Addr) : Prop := z = none ∨ ∃ h, z = some ⟨h, 0, none⟩ ∧ W.cell? ⟨h, 0, none⟩ = some (.pointer none)
theorem Nob.drewN {W : World} {z : Option Addr} (n : Nat) (h : Nob W z) : Nob (W.drewN n) z := h
theorem Nob.drew {W : World} {z : Option Addr} (h : Nob W z) : Nob W.drew z := h
/-- The safe bytes of a disk of eight sectors: a block. -/
def Sf (w : World) (s : Nat) (S : List Int) : Prop := S.length = 512 ∧ ∃ cells : Array Value, w.heap[s]? = some (.cells cells 5 (0, 0)) ∧ cells.toList = nums .u8 S
theorem Sf.below {w w' : World} {s : Nat} {S : List Int} {B : Nat} (h : Sf w s S) (hs : s < B) (hb : Below B w w') : Sf w' s S := by
  obtain ⟨h1, c, h2, h3⟩ := h
  exact ⟨h1, c, by rw [hb.block s hs]; exact h2, h3⟩
theorem heap_top (W : World) (o : Obj) : (W.alloc o).heap[W.heap.size]? = some o := by
  show (W.heap.push o)[W.heap.size]? = _
  exact Array.getElem?_push_size
theorem cell_top (W : World) (cells : Array Value) (t k : Nat) : (W.alloc (.cells cells t (0, 0))).cell? ⟨W.heap.size, k, none⟩ = cells[k]? := by
  unfold World.cell?
  rw [show (⟨W.heap.size, k, none⟩ : Addr).block = W.heap.size from rfl, heap_top]
  rfl
theorem made_nums (m : Nat) : (madeCells #[Value.int .u8 0] m).toList = nums .u8 (List.replicate m 0) := by
  apply List.ext_getElem
  · simp [nums, madeCells]
  · intro i h1 h2
    simp [nums, madeCells, Nat.mod_one]
theorem journal_Room (W : World) (h g : Nat) (A : Option Addr) (c : Nat) (hd : W.cell? ⟨h, 0, none⟩ = some (.pointer (some ⟨g, 0, none⟩))) (he : W.cell? ⟨h, 2, none⟩ = some (.int .i64 0)) (hB : W.cell? ⟨g, 0, none⟩ = some (.slice A 512 c)) : Calls Tryz.prog 69 #[.pointer (some ⟨h, 0, none⟩)] W fun e w' => e = .returned (.int .i64 408) ∧ Drawn0 W w' := by
  have HS : Aside0 (∀ n, Calls Tryz.prog 63 #[.pointer (some ⟨g, 0, none⟩)] (W.drewN n) fun e w' => e = .returned (.int .i64 8) ∧ w' = W.drewN n) := ⟨fun n => disk_Size _ g A 512 c 8 (by decide +kernel) hB⟩
  have HI : Aside0 (∀ n, Calls Tryz.prog 67 #[.pointer (some ⟨h, 0, none⟩)] (W.drewN n) fun e w' => e = .returned (.bool true) ∧ w' = W.drewN n) := ⟨fun n => journal_is _ h _ hd⟩
  go_enter Tryz.func69, Tryz.ntmps69
  go_wp2_with fail
  go_quiet (first | (go_at_call 67; exact Calls.quiet_of_same (HI.out _)) | (go_at_call 63; exact Calls.quiet_of_same (HS.out _)))
  go_wp2_with fail
  have HS2 : Aside0 (∀ n, Calls Tryz.prog 63 #[.pointer (some ⟨g, 0, none⟩)] ((W.drewN nq).drewN n) fun e w' => e = .returned (.int .i64 8) ∧ w' = (W.drewN nq).drewN n) := ⟨fun n => disk_Size _ g A 512 c 8 (by decide +kernel) hB⟩
  have hd2 : (W.drewN nq).cell? ⟨h, 0, none⟩ = some (.pointer (some ⟨g, 0, none⟩)) := hd
  have he2 : (W.drewN nq).cell? ⟨h, 2, none⟩ = some (.int .i64 0) := he
  have HD : Aside0 (Drawn0 W (W.drewN nq)) := ⟨⟨_, rfl⟩⟩
  clear HS HI hd he hB
  generalize W.drewN nq = W2 at *
  go_quiet (first | (go_at_call 63; exact Calls.quiet_of_same (HS2.out _)))
  go_wp2_with fail
  go_ret
  obtain ⟨n2, rfl⟩ := HD.out
  exact ⟨rfl, _, World.drewN_drewN _ _ _⟩
end Go.Proofs.YtmajfcdfafhkfaaGreatDoor.H
namespace Go.Proofs.YtmajfcdfafhkfaaGreatDoor.H
open Go.RowKit Go.Proofs.YtmajfcdfafhkfaaGreatDoorW.PrintWords Go.Proofs.YtmajfcdfafhkfaaGreatDoorW.PrintLast Go.Proofs.YtmajfcdfafhkfaaGreatDoor.Leaf Go.Proofs.YtmajfcdfafhkfaaGreatDoor.P
set_option linter.unusedVariables false
set_option linter.unusedSimpArgs false
set_option maxHeartbeats 1000000
set_option maxRecDepth 100000
theorem cell_of_block {w : World} {b : Nat} {c : Array Value} {t k : Nat} {v : Value} (h : w.heap[b]? = some (.cells c t (0, 0))) (hv : c[k]? = some v) : w.cell? ⟨b, k, none⟩ = some v := by
  unfold World.cell?
  rw [show (⟨b, k, none⟩ : Addr).block = b from rfl, h]
  exact hv
theorem addr_add (b o j : Nat) : (⟨b, o, none⟩ : Addr).add j = ⟨b, o + j, none⟩ := by
  unfold Addr.add
  split
  · rename_i h; simp [h]
  · rfl
theorem new_kept {w w' : World} {cs : Array Value} {t : Nat} (hb : Below (w.alloc (.cells cs t (0, 0))).heap.size (w.alloc (.cells cs t (0, 0))) w') (k : Nat) (v : Value) (hk : cs[k]? = some v) : w'.cell? ⟨w.heap.size, k, none⟩ = some v ∧ w'.frozen? ⟨w.heap.size, k, none⟩ = false := by
  have hlt : w.heap.size < (w.alloc (.cells cs t (0, 0))).heap.size := by rw [World.size_alloc]; omega
  have hh : w'.heap[w.heap.size]? = some (.cells cs t (0, 0)) := by rw [hb.block _ hlt]; exact heap_top _ _
  refine ⟨cell_of_block hh hk, ?_⟩
  unfold World.frozen?
  rw [show (⟨w.heap.size, k, none⟩ : Addr).block = w.heap.size from rfl, hh]
  simp
/-- A sector's bytes. -/
def sec (S : List Int) (i : Nat) : List Int := (S.drop (i * 64)).take 64
theorem sec_length {S : List Int} (h : S.length = 512) {i : Nat} (hi : i < 8) : (sec S i).length = 64 := by
  rw [sec, List.length_take, List.length_drop, h]; omega
theorem Sf.row {w : World} {s : Nat} {S : List Int} (h : Sf w s S) {i : Nat} (hi : i < 8) : Kd.C (Kd.int .u8) w (some ⟨s, i * 64, none⟩) (sec S i).length (sec S i) := by
  obtain ⟨h1, c, h2, h3⟩ := h
  have hl := sec_length h1 hi
  refine ⟨rfl, by rw [hl]; decide, fun _ => ⟨_, rfl, fun j p hj => ⟨[.int .u8 p], rfl, rfl, fun q u hu => ?_⟩⟩⟩
  have hlj : j < 64 := by have := (List.getElem?_eq_some_iff.1 hj).1; omega
  cases q with
  | zero =>
    cases hu
    have he : S[i * 64 + j]? = some p := by
      rw [sec, List.getElem?_take, if_pos hlj, List.getElem?_drop] at hj
      exact hj
    have hcell : c[i * 64 + j]? = some (.int .u8 p) := by
      rw [← Array.getElem?_toList, h3]
      unfold nums
      rw [List.getElem?_map, he]
      rfl
    show w.cell? ((⟨s, i * 64, none⟩ : Addr).add (j * 1 + 0)) = _
    rw [Nat.mul_one, Nat.add_zero]
    rw [addr_add]
    exact cell_of_block h2 hcell
  | succ q => simp at hu
theorem disk_Read (w : World) (g s : Nat) (S : List Int) (i : Nat) (hi : i < 8) (h0 : w.cell? ⟨g, 0, none⟩ = some (.slice (some ⟨s, 0, none⟩) 512 512)) (h1 : w.cell? ⟨g, 1, none⟩ = some (.slice none 0 0)) (hS : Sf w s S) :
    Calls Tryz.prog 66 #[.pointer (some ⟨g, 0, none⟩), .int .i64 (i : Int)] w fun e w' => ∃ v : Value, e = .returned (.tuple #[v, .int .i64 0]) ∧ Kd.R (Kd.int .u8) 5 w' w.heap.size (fun _ => True) v (sec S i) ∧ Below w.heap.size w w' := by
  have hh := disk_has w g _ _ i hi h0
  have hs := disk_sector w g s 512 (by decide) i hi h0
  have hl := sec_length hS.1 hi
  have hc := slices_Clone_byte_byte.calls (some ⟨s, i * 64, none⟩) (512 - i * 64) (sec S i) (sec S i) w (hS.row hi) (by rw [hl]; omega) (by unfold slices_Clone_byte_byte.f; rw [if_pos (by rw [hl]; decide)])
  rw [hl] at hc
  have HC := Aside0.mk hc
  clear hc hS
  go_enter Tryz.func66, Tryz.ntmps66
  go_wp2_with (first | (go_at_call 82; refine hh.mono ?_; rintro e w' ⟨rfl, hw_⟩; obtain rfl := hw_.symm) | (go_at_call 49; refine hs.mono ?_; rintro e w' ⟨rfl, hw_⟩; obtain rfl := hw_.symm))
  go_loopg [6, 21] 1 (fun gg s6 s21 wr => s6 = .slice (some ⟨s, i * 64, none⟩) 64 (512 - i * 64) ∧ s21 = .int .i64 0 ∧ w = wr)
  case atStart => exact ⟨rfl, rfl, rfl⟩
  case round =>
    obtain ⟨rfl, rfl, rfl⟩ := hrel
    go_wp2_with (first | (go_at_call 46; refine HC.out.mono ?_; rintro e w' ⟨v, rfl, hR, hb⟩))
    go_ret2
    exact ⟨_, rfl, hR, hb⟩
theorem journal_get (w : World) (x g s : Nat) (S : List Int) (i : Nat) (hi : i < 8) (hx : w.cell? ⟨x, 0, none⟩ = some (.pointer (some ⟨g, 0, none⟩))) (h0 : w.cell? ⟨g, 0, none⟩ = some (.slice (some ⟨s, 0, none⟩) 512 512)) (h1 : w.cell? ⟨g, 1, none⟩ = some (.slice none 0 0)) (hS : Sf w s S) :
    Calls Tryz.prog 65 #[.int .i64 (i : Int), .pointer (some ⟨x, 0, none⟩)] w fun e w' => ∃ v : Value, e = .returned v ∧ Kd.R (Kd.int .u8) 5 w' w.heap.size (fun _ => True) v (sec S i) ∧ Below w.heap.size w w' := by
  have HR := Aside0.mk (disk_Read w g s S i hi h0 h1 hS)
  clear hS h0 h1
  go_enter Tryz.func65, Tryz.ntmps65
  go_wp2_with (first | (go_at_call 66; refine HR.out.mono ?_; rintro e w' ⟨v, rfl, hR, hb⟩))
  go_ret
  exact ⟨_, rfl, hR, hb⟩
theorem journal_read_not (w : World) (A : Option Addr) (c : Nat) (s : List Int) (hC : Kd.C (Kd.int .u8) w A s.length s) (hc : s.length ≤ c) (h : sum_Strip.f s = some ([], false)) :
    Calls Tryz.prog 81 #[.slice A s.length c] w fun e w' => e = .returned (.tuple #[.agg #[.int .i64 0, .int .i64 0, .int .i64 0, .bool false, .slice none 0 0], .bool false]) ∧ Below w.heap.size w w' := by
  have HC := Aside0.mk hC
  clear hC
  go_enter Tryz.func81, Tryz.ntmps81
  go_wp2_with (first | (go_at_call 89; refine (sum_Strip.calls _ _ _ _ _ _ (Kd.C_alloc HC.out _) hc h).mono ?_; rintro e w' ⟨v, rfl, hR, hb⟩; have HB := Aside0.mk hb; obtain ⟨c0, f0⟩ := new_kept hb 0 (.int .i64 0) rfl; obtain ⟨c1, f1⟩ := new_kept hb 1 (.int .i64 0) rfl; obtain ⟨c2, f2⟩ := new_kept hb 2 (.int .i64 0) rfl; obtain ⟨c3, f3⟩ := new_kept hb 3 (.bool false) rfl; obtain ⟨c4, f4⟩ := new_kept hb 4 (.slice none 0 0) rfl; clear hR hb))
  refine bodyPost_ret (v := .tuple #[.agg #[.int .i64 0, .int .i64 0, .int .i64 0, .bool false, .slice none 0 0], .bool false]) (by simp [results, Tryz.results81, go_sem, c0, c1, c2, c3, c4]) rfl ⟨rfl, ?_⟩
  have hB : Below w.heap.size w w' := ((Below.refl _ _).alloc (Nat.le_refl _) _).trans (HB.out.mono (by rw [World.size_alloc]; omega))
  exact ((((hB.setCell (Nat.le_refl _) _).setCell (Nat.le_refl _) _).setCell (Nat.le_refl _) _).setCell (Nat.le_refl _) _).setCell (Nat.le_refl _) _
end Go.Proofs.YtmajfcdfafhkfaaGreatDoor.H
namespace Go.Proofs.YtmajfcdfafhkfaaGreatDoorW.PrintWords
open Go.RowKit
theorem Kd.F_came {α : Type} {d : Kd α} {w W : World} {A : Option Addr} {n : Nat} {xs : List α} {ok : Nat → Prop} (hd : Kd.Heap d) (h : d.C w A n xs) (hb : Below w.heap.size w W) (hok : ∀ k, k < w.heap.size → ok k) : Kd.F d W ok A n xs :=
  fun W' hW => hd.C (w := w) (w1 := W') (fun k hk => (hW k (hok k hk) (Nat.lt_of_lt_of_le hk hb.size)).trans (hb.block k hk)) h
end Go.Proofs.YtmajfcdfafhkfaaGreatDoorW.PrintWords
namespace Go.Proofs.YtmajfcdfafhkfaaGreatDoor.H
open Go.RowKit Go.Proofs.YtmajfcdfafhkfaaGreatDoorW.PrintWords Go.Proofs.YtmajfcdfafhkfaaGreatDoorW.PrintLast Go.Proofs.YtmajfcdfafhkfaaGreatDoor.Leaf Go.Proofs.YtmajfcdfafhkfaaGreatDoor.P
set_option linter.unusedVariables false
set_option linter.unusedSimpArgs false
set_option maxHeartbeats 1000000
set_option maxRecDepth 100000
theorem cell_at {w : World} {g n : Nat} {b : List Int} (h : Kd.C (Kd.int .u8) w (some ⟨g, 0, none⟩) n b) (k : Nat) (x : Int) (hk : b[k]? = some x) : w.cell? ⟨g, k, none⟩ = some (.int .u8 x) := by
  have hlt := (List.getElem?_eq_some_iff.1 hk).1
  have hn := h.1
  obtain ⟨ad, e, hc⟩ := h.2.2 (by omega)
  obtain ⟨c, hs, rfl, hcell⟩ := hc k x hk
  have := hcell 0 _ rfl
  cases e
  rw [addr_add, show 0 + (k * (Kd.int .u8).sz + 0) = k from by show 0 + (k * 1 + 0) = k; omega] at this
  exact this
theorem C_block {w W : World} {ad : Addr} {n : Nat} {xs : List Int} (h : Kd.C (Kd.int .u8) w (some ad) n xs) (hh : W.heap[ad.block]? = w.heap[ad.block]?) : Kd.C (Kd.int .u8) W (some ad) n xs := by
  refine ⟨h.1, h.2.1, fun hp => ?_⟩
  obtain ⟨ad', e, hc⟩ := h.2.2 hp
  cases e
  refine ⟨ad, rfl, fun j p hj => ?_⟩
  obtain ⟨c, h1, h2, h3⟩ := hc j p hj
  refine ⟨c, h1, h2, fun i u hu => ?_⟩
  have hb : (ad.add (j * (Kd.int .u8).sz + i)).block = ad.block := by unfold Addr.add; split <;> rfl
  rw [World.cell?_of_block (w := w) (by rw [hb]; exact hh)]
  exact h3 i u hu
theorem num_w0 : IntKind.i64.wrap 0 = 0 := by decide +kernel
theorem num_w1 : IntKind.i64.wrap 1 = 1 := by decide +kernel
theorem num_or : bits BinOp.or IntKind.i64 1 0 = 1 := by decide +kernel
theorem num_an6 : wrap64 (bits BinOp.andNot IntKind.u8 134 128) = 6 := by decide +kernel
theorem num_and6 : bits BinOp.and IntKind.u8 134 128 = 128 := by decide +kernel
theorem num_ne6 : ((128 : Int) != 0) = true := by decide
theorem journal_read_1 (w : World) (A : Option Addr) (c : Nat) (s b : List Int) (k : Nat) (hC : Kd.C (Kd.int .u8) w A s.length s) (hc : s.length ≤ c) (h : sum_Strip.f s = some (b, true)) (hb60 : b.length = 60)
    (h0 : b[0]? = some 74) (h1 : b[1]? = some 1) (h2 : b[2]? = some 0) (h3 : b[3]? = some 1) (h4 : b[4]? = some 0) (h5 : b[5]? = some 0) (h6 : b[6]? = some 0) (h7 : b[7]? = some 0) (h8 : b[8]? = some 134)
    (ht : bytes_Trim.f k (b.drop 15) ⟨#[0]⟩ = some []) :
    Calls Tryz.prog 81 #[.slice A s.length c] w fun e w' => ∃ A' c', e = .returned (.tuple #[.agg #[.int .i64 1, .int .i64 1, .int .i64 0, .bool true, .slice A' 6 c'], .bool true]) ∧ 6 ≤ c' ∧ Kd.C (Kd.int .u8) w' A' 6 ((b.drop 9).take 6) ∧ Below w.heap.size w w' := by
  obtain ⟨i0, hi, hz⟩ := Option.map_eq_some_iff.1 P.info5
  simp only [Prod.mk.injEq] at hz
  have HC := Aside0.mk hC
  have HI := Aside0.mk (And.intro hi hz.2.1)
  clear hC hi hz
  go_enter Tryz.func81, Tryz.ntmps81
  go_upto_region 5 with (first | (go_at_call 89; refine (sum_Strip.calls _ _ _ _ _ _ (Kd.C_alloc HC.out _) hc h).mono ?_; rintro e w' ⟨v, rfl, hR, hb⟩; obtain ⟨g, cb, rfl, hg1, hg2, _⟩ := Kd.R_form hR (by omega); have hCb := (Kd.R_reads' hR).2.2; have hcb := (Kd.R_reads' hR).2.1; have k0 := cell_at hCb 0 _ h0; have k1 := cell_at hCb 1 _ h1; have k2 := cell_at hCb 2 _ h2; have k3 := cell_at hCb 3 _ h3; have k4 := cell_at hCb 4 _ h4; have k5 := cell_at hCb 5 _ h5; have k6 := cell_at hCb 6 _ h6; have k7 := cell_at hCb 7 _ h7; have k8 := cell_at hCb 8 _ h8;  have HB := Aside0.mk hb; have HCB := Aside0.mk hCb; clear hR hb hCb; rw [hb60] at hcb ⊢))
  have HGL := Aside0.mk (And.intro hg1 hg2)
  clear h0 h1 h2 h3 h4 h5 h6 h7 h8 k0 h hc hg1 hg2
  go_region_held3 (fun w2 => w2.cell? ⟨g, 1, none⟩ = some (.int .u8 1) ∧ w2.cell? ⟨g, 2, none⟩ = some (.int .u8 0) ∧ w2.cell? ⟨g, 3, none⟩ = some (.int .u8 1) ∧ w2.cell? ⟨g, 4, none⟩ = some (.int .u8 0) ∧ w2.cell? ⟨g, 5, none⟩ = some (.int .u8 0) ∧ w2.cell? ⟨g, 6, none⟩ = some (.int .u8 0) ∧ w2.cell? ⟨g, 7, none⟩ = some (.int .u8 0) ∧ w2.cell? ⟨g, 8, none⟩ = some (.int .u8 134)) (first | assumption | exact ⟨k1, k2, k3, k4, k5, k6, k7, k8⟩ | exact ⟨pw_cell_below (below_alloc (Below.refl _ _) _) k1, pw_cell_below (below_alloc (Below.refl _ _) _) k2, pw_cell_below (below_alloc (Below.refl _ _) _) k3, pw_cell_below (below_alloc (Below.refl _ _) _) k4, pw_cell_below (below_alloc (Below.refl _ _) _) k5, pw_cell_below (below_alloc (Below.refl _ _) _) k6, pw_cell_below (below_alloc (Below.refl _ _) _) k7, pw_cell_below (below_alloc (Below.refl _ _) _) k8⟩) (first | fail)
  clear k1 k2 k3 k4 k5 k6 k7 k8
  simp only [num_w0, num_w1, Int.zero_mul, num_or, num_an6, num_and6, num_ne6]
  have HR : Aside0 (∀ W, Below w'.heap.size w' W → (W.cell? ⟨w.heap.size, 0, none⟩ = some (.int .i64 0) ∧ W.frozen? ⟨w.heap.size, 0, none⟩ = false) ∧ (W.cell? ⟨w.heap.size, 1, none⟩ = some (.int .i64 0) ∧ W.frozen? ⟨w.heap.size, 1, none⟩ = false) ∧ (W.cell? ⟨w.heap.size, 2, none⟩ = some (.int .i64 0) ∧ W.frozen? ⟨w.heap.size, 2, none⟩ = false) ∧ (W.cell? ⟨w.heap.size, 3, none⟩ = some (.bool false) ∧ W.frozen? ⟨w.heap.size, 3, none⟩ = false) ∧ (W.cell? ⟨w.heap.size, 4, none⟩ = some (.slice none 0 0) ∧ W.frozen? ⟨w.heap.size, 4, none⟩ = false)) := ⟨fun W hW => by
    have hX := below_step HB.out hW
    exact ⟨new_kept hX 0 _ rfl, new_kept hX 1 _ rfl, new_kept hX 2 _ rfl, new_kept hX 3 _ rfl, new_kept hX 4 _ rfl⟩⟩
  have HP : Aside0 (∀ W, Below (w'.heap.size + 1) (w'.alloc (.cells #[.int .i64 1, .int .i64 1, .int .i64 0, .bool true, .slice none 0 0] 117)) W → (W.cell? ⟨w'.heap.size, 0, none⟩ = some (.int .i64 1) ∧ W.frozen? ⟨w'.heap.size, 0, none⟩ = false) ∧ (W.cell? ⟨w'.heap.size, 1, none⟩ = some (.int .i64 1) ∧ W.frozen? ⟨w'.heap.size, 1, none⟩ = false) ∧ (W.cell? ⟨w'.heap.size, 2, none⟩ = some (.int .i64 0) ∧ W.frozen? ⟨w'.heap.size, 2, none⟩ = false) ∧ (W.cell? ⟨w'.heap.size, 3, none⟩ = some (.bool true) ∧ W.frozen? ⟨w'.heap.size, 3, none⟩ = false) ∧ (W.cell? ⟨w'.heap.size, 4, none⟩ = some (.slice none 0 0) ∧ W.frozen? ⟨w'.heap.size, 4, none⟩ = false)) := ⟨fun W hW => by
    have hX : Below (w'.alloc (.cells #[.int .i64 1, .int .i64 1, .int .i64 0, .bool true, .slice none 0 0] 117)).heap.size (w'.alloc (.cells #[.int .i64 1, .int .i64 1, .int .i64 0, .bool true, .slice none 0 0] 117)) W := hW.mono (by rw [World.size_alloc]; omega)
    exact ⟨new_kept hX 0 _ rfl, new_kept hX 1 _ rfl, new_kept hX 2 _ rfl, new_kept hX 3 _ rfl, new_kept hX 4 _ rfl⟩⟩
  have HB1 : Aside0 (Below w'.heap.size w' (w'.alloc (.cells #[.int .i64 1, .int .i64 1, .int .i64 0, .bool true, .slice none 0 0] 117)).drew) := ⟨below_drew (below_alloc (Below.refl _ _) _)⟩
  have HB2 : Aside0 (Below (w'.heap.size + 1) (w'.alloc (.cells #[.int .i64 1, .int .i64 1, .int .i64 0, .bool true, .slice none 0 0] 117)) (w'.alloc (.cells #[.int .i64 1, .int .i64 1, .int .i64 0, .bool true, .slice none 0 0] 117)).drew) := ⟨below_drew (Below.refl _ _)⟩
  have hcut := cut_from (P := Tryz.prog) 23 5 .i64 Tryz.underlying23 HI.out.1 1 HI.out.2 (some ⟨g, 0, none⟩) 60 cb 15 (by decide) (by decide)
  have hmid := cut_mid (P := Tryz.prog) 23 5 .i64 .i64 Tryz.underlying23 HI.out.1 1 HI.out.2 (some ⟨g, 0, none⟩) 60 cb 9 15 (by decide) (by decide) (by decide) hcb
  have HCD : Aside0 (Kd.C (Kd.int .u8) w' (if cb = ((15 : Int)).toNat then some ⟨g, 0, none⟩ else (some (⟨g, 0, none⟩ : Addr)).map (·.add ((15 : Int).toNat * 1))) 45 (b.drop 15)) := ⟨by
    have := Kd.C_drop (c := cb) (m := 15) HCB.out (by rw [hb60]; decide) (by rw [hb60]; exact hcb)
    rw [show (b.drop 15).length = 45 by rw [List.length_drop, hb60]] at this
    exact this⟩
  have HCM : Aside0 (Kd.C (Kd.int .u8) w' (if cb = ((9 : Int)).toNat then some ⟨g, 0, none⟩ else (some (⟨g, 0, none⟩ : Addr)).map (·.add ((9 : Int).toNat * 1))) 6 ((b.drop 9).take 6)) := ⟨by
    have := Kd.C_mid (c := cb) (lo := 9) (hi := 15) HCB.out (by decide) (by rw [hb60]; decide) (by rw [hb60]; exact hcb)
    rw [List.drop_take, show ((b.drop 9).take (15 - 9)).length = 6 by rw [List.length_take, List.length_drop, hb60]; rfl] at this
    exact this⟩
  generalize (if cb = ((15 : Int)).toNat then some ⟨g, 0, none⟩ else (some (⟨g, 0, none⟩ : Addr)).map (·.add ((15 : Int).toNat * 1))) = A1 at hcut HCD
  have hA2 : (if cb = ((9 : Int)).toNat then some ⟨g, 0, none⟩ else (some (⟨g, 0, none⟩ : Addr)).map (·.add ((9 : Int).toNat * 1))) = some ⟨g, 9, none⟩ := by
    rw [if_neg (by intro e; have : cb = 9 := e; omega)]
    show some ((⟨g, 0, none⟩ : Addr).add 9) = _
    rw [addr_add]
  rw [hA2] at hmid HCM
  have hcut' : ∀ W : World, (Instr.slice 23 (.slice (some ⟨g, 0, none⟩) 60 cb) (some (.int .i64 15)) none none).run Tryz.prog W = .ok (.slice A1 45 (cb - 15)) W := hcut
  have hmid' : ∀ W : World, (Instr.slice 23 (.slice (some ⟨g, 0, none⟩) 60 cb) (some (.int .i64 9)) (some (.int .i64 15)) none).run Tryz.prog W = .ok (.slice (some ⟨g, 9, none⟩) 6 (cb - 9)) W := hmid
  clear hcut hmid
  have HTR : Aside0 (∀ W, Below w'.heap.size w' W → Calls Tryz.prog 90 #[.slice A1 45 (cb - 15), .string ⟨#[0]⟩] W fun e w'' => ∃ v c, e = .returned (.slice v 0 c) ∧ Below W.heap.size W w'') := ⟨fun W hW => by
    have hCW := Kd.C_below HCD.out hW
    have hl : (b.drop 15).length = 45 := by rw [List.length_drop, hb60]
    have hV : Kd.V (Kd.int .u8) 5 W W.heap.size (fun _ => True) (.slice A1 (b.drop 15).length (cb - 15)) (b.drop 15) := Kd.V_mk (by rw [hl]; omega) (Kd.F_came (Kd.heap_int .u8) (by rw [hl]; exact hCW) (Below.refl _ _) (fun _ _ => trivial))
    have := bytes_Trim.calls k (fun _ => True) A1 (cb - 15) (b.drop 15) ⟨#[0]⟩ [] W hV ht
    rw [hl] at this
    refine this.mono ?_
    rintro e w'' ⟨v, rfl, hv, hb⟩
    obtain ⟨A3, c3, rfl⟩ := Kd.V_slice hv
    exact ⟨A3, c3, rfl, hb⟩⟩
  obtain ⟨⟨c0, f0⟩, ⟨c1, f1⟩, ⟨c2, f2⟩, ⟨c3, f3⟩, ⟨c4, f4⟩⟩ := HP.out _ HB2.out
  have HPC := Aside0.mk (And.intro c0 (And.intro c1 (And.intro c2 c4)))
  clear hA2 ht
  generalize (w'.alloc (.cells #[.int .i64 1, .int .i64 1, .int .i64 0, .bool true, .slice none 0 0] 117)).drew = W2 at *
  have hlt : w.heap.size < w'.heap.size := by have h1 := HB.out.size; rw [World.size_alloc] at h1; omega
  have hne1 : ¬ w.heap.size = w'.heap.size := by omega
  have hne2 : ¬ w'.heap.size = w.heap.size := by omega
  clear f0 f1 f2 f3 f4 c0 c1 c2 c4
  go_wp2_with fail
  refine (HTR.out _ HB1.out).mono ?_
  rintro e w3 ⟨v3, c3_, rfl, hb3⟩
  have HB3 := Aside0.mk (below_step HB1.out hb3)
  obtain ⟨⟨c0, f0⟩, ⟨c1, f1⟩, ⟨c2, f2⟩, ⟨d3, f3⟩, ⟨c4, f4⟩⟩ := HP.out _ (HB2.out.trans (hb3.mono (by have h9 := HB2.out.size; rw [World.size_alloc] at h9; exact h9)))
  obtain ⟨⟨r0, g0⟩, ⟨r1, g1⟩, ⟨r2, g2⟩, ⟨r3, g3⟩, ⟨r4, g4⟩⟩ := HR.out _ HB3.out
  clear hb3 HTR
  go_wp2_with fail
  have hg1 : w.heap.size < g := by have h1 := HGL.out.1; rw [World.size_alloc] at h1; omega
  have hg2 := HGL.out.2
  refine bodyPost_ret (v := .tuple #[.agg #[.int .i64 1, .int .i64 1, .int .i64 0, .bool true, .slice (some ⟨g, 9, none⟩) 6 (cb - 9)], .bool true]) (by simp [results, Tryz.results81, go_sem, r0, r1, r2, r3, r4, hne1, hne2]) rfl ⟨some ⟨g, 9, none⟩, cb - 9, rfl, by omega, ?_, ?_⟩
  · refine C_block HCM.out ?_
    rw [Below.heap_setCell _ _ _ _ (by show g ≠ w.heap.size; omega), Below.heap_setCell _ _ _ _ (by show g ≠ w.heap.size; omega), Below.heap_setCell _ _ _ _ (by show g ≠ w.heap.size; omega), Below.heap_setCell _ _ _ _ (by show g ≠ w.heap.size; omega), Below.heap_setCell _ _ _ _ (by show g ≠ w.heap.size; omega), Below.heap_setCell _ _ _ _ (by show g ≠ w'.heap.size; omega)]
    exact HB3.out.block g hg2
  · have hB : Below w.heap.size w w3 := (((Below.refl _ _).alloc (Nat.le_refl _) _).trans (HB.out.mono (by rw [World.size_alloc]; omega))).trans (HB3.out.mono (by omega))
    exact (((((hB.setCell (by show w.heap.size ≤ w'.heap.size; omega) _).setCell (Nat.le_refl _) _).setCell (Nat.le_refl _) _).setCell (Nat.le_refl _) _).setCell (Nat.le_refl _) _).setCell (Nat.le_refl _) _
end Go.Proofs.YtmajfcdfafhkfaaGreatDoor.H
namespace Go.Proofs.YtmajfcdfafhkfaaGreatDoor.H
open Go.RowKit Go.Proofs.YtmajfcdfafhkfaaGreatDoorW.PrintWords Go.Proofs.YtmajfcdfafhkfaaGreatDoorW.PrintLast Go.Proofs.YtmajfcdfafhkfaaGreatDoor.Leaf Go.Proofs.YtmajfcdfafhkfaaGreatDoor.P
set_option linter.unusedVariables false
set_option linter.unusedSimpArgs false
set_option maxHeartbeats 1000000
set_option maxRecDepth 100000
/-- A function value that hands out a disk's sectors, while what w holds stands. -/
def Gets (w : World) (x : Nat) (secs : Nat → List Int) : Prop := ∀ W, Below w.heap.size w W → ∀ i : Nat, i < 8 → Calls Tryz.prog 65 #[.int .i64 (i : Int), .pointer (some ⟨x, 0, none⟩)] W fun e w' => ∃ v, e = .returned v ∧ Kd.R (Kd.int .u8) 5 w' W.heap.size (fun _ => True) v (secs i) ∧ Below W.heap.size W w'
theorem records_none (w : World) (x : Nat) (secs : Nat → List Int) (hG : Gets w x secs) (hN : ∀ i, i < 8 → sum_Strip.f (secs i) = some ([], false)) :
    Calls Tryz.prog 64 #[.int .i64 8, .func (.func 65) #[] #[.pointer (some ⟨x, 0, none⟩)]] w fun e w' => e = .returned (.tuple #[.slice none 0 0, .int .i64 0, .int .i64 0]) ∧ Below w.heap.size w w' := by
  have HG := Aside0.mk hG
  have HN := Aside0.mk hN
  clear hG hN
  go_enter Tryz.func64, Tryz.ntmps64
  go_wp2_with fail
  go_loopg [4, 6, 7, 8, 9, 10, 11, 12, 17] 8 (fun gg s4 s6 s7 s8 s9 s10 s11 s12 s17 wr => ∃ (i : Nat) (bb : Bool), i ≤ 8 ∧ 8 - i ≤ gg ∧ s17 = .int .i64 (i : Int) ∧ s12 = .bool bb ∧ s4 = .slice none 0 0 ∧ s6 = .int .i64 0 ∧ s7 = .int .i64 0 ∧ s8 = .slice none 0 0 ∧ s9 = .int .i64 0 ∧ s10 = .int .i64 0 ∧ s11 = .int .i64 0 ∧ Aside0 (Below w.heap.size w wr))
  case atStart => exact ⟨0, true, by omega, by omega, rfl, rfl, rfl, rfl, rfl, rfl, rfl, rfl, rfl, ⟨Below.refl _ _⟩⟩
  case round =>
    obtain ⟨i, bb, hi, hg, rfl, rfl, rfl, rfl, rfl, rfl, rfl, rfl, rfl, HB⟩ := hrel
    by_cases hlt : i < 8
    · have hltz : (i : Int) < 8 := by omega
      have hw1 : IntKind.i64.wrap ((i : Int) + 1) = (i : Int) + 1 := IntWalk.i64_in _ (by omega)
      have HG1 := Aside0.mk (HG.out wr HB.out i hlt)
      have HN1 := Aside0.mk (HN.out i hlt)
      go_wp2_with (first | (go_at_call 65; refine HG1.out.mono ?_; rintro e w' ⟨v, rfl, hR, hb⟩; obtain ⟨A, c, rfl⟩ := Kd.R_slice hR; have HR := Aside0.mk (Kd.R_reads' hR); have HB2 := Aside0.mk (below_step HB.out hb); clear hR hb) | (go_at_call 81; refine (journal_read_not _ _ _ _ HR.out.2.2 HR.out.2.1 HN1.out).mono ?_; rintro e w3 ⟨rfl, hb⟩; have HB3 := Aside0.mk (below_step HB2.out hb); clear hb))
      go_roundg (8 - (i + 1))
      case measure => omega
      case rel => exact ⟨i + 1, false, by omega, by omega, by go_num, rfl, rfl, rfl, rfl, rfl, rfl, rfl, rfl, ⟨below_alloc HB3.out _⟩⟩
    · have hltz : ¬ (i : Int) < 8 := by omega
      go_wp2_with fail
      go_ret3
      exact ⟨rfl, HB.out⟩
/-- A list of one record, as it is read. -/
def One (w : World) (v : Value) (r : List Int) : Prop := ∃ lb c A cA, v = .slice (some ⟨lb, 0, none⟩) 1 c ∧ 1 ≤ c ∧ lb < w.heap.size ∧ w.cell? ⟨lb, 0, none⟩ = some (.slice A r.length cA) ∧ r.length ≤ cA ∧ Kd.C (Kd.int .u8) w A r.length r
theorem One.below {w w1 : World} {v : Value} {r : List Int} (h : One w v r) (hb : Below w.heap.size w w1) : One w1 v r := by
  obtain ⟨lb, c, A, cA, h1, h2, h3, h4, h5, h6⟩ := h
  exact ⟨lb, c, A, cA, h1, h2, Nat.lt_of_lt_of_le h3 hb.size, pw_cell_below hb h4, h5, Kd.C_below h6 hb⟩
theorem info23 : (Tryz.prog.info? 23).map (fun i => (i.zero, i.size, i.bytes)) = some (some (.slice none 0 0), 1, 24) := by kernel_rfl
theorem grown_nil {w4 w5 : World} (hg : w4.grownBy w5 (Value.slice none 0 0).ownBlock) : Below w4.heap.size w4 w5 :=
  Below.grown (Below.refl w4.heap.size w4) hg (Nat.le_refl _) (fun _ h => by simp [Value.ownBlock] at h)
theorem one_of {w4 w5 : World} {base : Nat} {v2 : Value} {r : List Int} (ho2 : Kd.R (Kd.fixed (Kd.slice 5 (Kd.int .u8)) w4) 23 w5 base (fun _ => True) v2 ([] ++ [r])) (hb : Below w4.heap.size w4 w5) : One w5 v2 r := by
  obtain ⟨lb, cl, rfl, _, hlb, _⟩ := Kd.R_form ho2 (Nat.zero_lt_one)
  obtain ⟨_, hcl, hC⟩ := Kd.R_reads' ho2
  obtain ⟨ad, e, hc⟩ := hC.2.2 (Nat.zero_lt_one)
  cases e
  obtain ⟨cs, hl, ⟨A, cA, rfl, hle, hCA⟩, hcell⟩ := hc 0 r rfl
  have h0 := hcell 0 _ rfl
  rw [addr_add] at h0
  exact ⟨lb, cl, A, cA, rfl, hcl, hlb, by simpa using h0, hle, Kd.C_below hCA hb⟩
theorem part_kept {w3 w4 : World} {cs : Array Value} {row : Option Nat} (hg : (w3.alloc (.cells cs 117 (0, 0))).grownBy w4 row) (hne : some w3.heap.size ≠ row) (k : Nat) (v : Value) (hk : cs[k]? = some v) : w4.cell? ⟨w3.heap.size, k, none⟩ = some v :=
  cell_grown hg ((cell_top _ _ _ _).trans hk) hne
/-- What reading a sector of a record says. -/
def Says (s : List Int) (num : Int) (last : Bool) (n : Nat) (p : List Int) : Prop := p.length = n ∧ ∀ (W : World) (A : Option Addr) (c : Nat), Kd.C (Kd.int .u8) W A s.length s → s.length ≤ c → Calls Tryz.prog 81 #[.slice A s.length c] W fun e w' => ∃ A' c', e = .returned (.tuple #[.agg #[.int .i64 1, .int .i64 1, .int .i64 num, .bool last, .slice A' n c'], .bool true]) ∧ n ≤ c' ∧ Kd.C (Kd.int .u8) w' A' n p ∧ Below W.heap.size W w'
theorem records_one (w : World) (x : Nat) (secs : Nat → List Int) (r : List Int) (h0r : r.length = 6) (hG : Gets w x secs) (h0 : Says (secs 0) 0 true 6 r) (hN : ∀ i, 1 ≤ i → i < 8 → sum_Strip.f (secs i) = some ([], false)) :
    Calls Tryz.prog 64 #[.int .i64 8, .func (.func 65) #[] #[.pointer (some ⟨x, 0, none⟩)]] w fun e w' => ∃ v, e = .returned (.tuple #[v, .int .i64 1, .int .i64 1]) ∧ One w' v r ∧ Below w.heap.size w w' := by
  have HL := Aside0.mk h0r
  have HG := Aside0.mk hG
  have HN := Aside0.mk hN
  have H0 := Aside0.mk h0
  clear hG hN h0 h0r
  go_enter Tryz.func64, Tryz.ntmps64
  go_wp2_with fail
  go_loopg [4, 6, 7, 8, 9, 10, 11, 12, 17] 8 (fun gg s4 s6 s7 s8 s9 s10 s11 s12 s17 wr => ∃ (i : Nat), i ≤ 8 ∧ 8 - i ≤ gg ∧ s17 = .int .i64 (i : Int) ∧ Aside0 (Below w.heap.size w wr) ∧
    ((i = 0 ∧ s12 = .bool true ∧ s4 = .slice none 0 0 ∧ s6 = .int .i64 0 ∧ s7 = .int .i64 0 ∧ s8 = .slice none 0 0 ∧ s9 = .int .i64 0 ∧ s10 = .int .i64 0 ∧ s11 = .int .i64 0) ∨
     (∃ bb : Bool, 1 ≤ i ∧ s12 = .bool bb ∧ Aside0 (One wr s4 r) ∧ s6 = .int .i64 1 ∧ s7 = .int .i64 1 ∧ s8 = .slice none 0 0 ∧ s9 = .int .i64 1 ∧ s10 = .int .i64 0 ∧ s11 = .int .i64 1)))
  case atStart => exact ⟨0, by omega, by omega, rfl, ⟨Below.refl _ _⟩, Or.inl ⟨rfl, rfl, rfl, rfl, rfl, rfl, rfl, rfl, rfl⟩⟩
  case round =>
    obtain ⟨i, hi, hg, rfl, HB, hst⟩ := hrel
    rcases hst with ⟨rfl, rfl, rfl, rfl, rfl, rfl, rfl, rfl, rfl⟩ | ⟨bb, h2, rfl, HO, rfl, rfl, rfl, rfl, rfl, rfl⟩
    · have HG1 := Aside0.mk (HG.out wr HB.out 0 (by decide))
      go_wp2_with (first | (go_at_call 65; refine HG1.out.mono ?_; rintro e w' ⟨v, rfl, hR, hb⟩; obtain ⟨A, c, rfl⟩ := Kd.R_slice hR; have HR := Aside0.mk (Kd.R_reads' hR); have HB2 := Aside0.mk (below_step HB.out hb); clear hR hb) | (go_at_call 81; refine (H0.out.2 _ _ _ HR.out.2.2 HR.out.2.1).mono ?_; rintro e w3 ⟨A3, c3, rfl, hc3, hC3, hb⟩; have HC3 := Aside0.mk (And.intro hc3 hC3); have HB3 := Aside0.mk (below_step HB2.out hb); clear hb hc3 hC3) | ((with_reducible refine gate_builtin (b := .append) (xs := #[.tmp 65, .tmp 67]) rfl ?_); at_builtin; refine Kd.R_append_rows (Kd.int .u8) (Rr := fun (x : Int) cs => cs = [Value.int .u8 x]) (w0 := w) w.heap.size rfl (.tmp 65) (.tmp 67) 23 5 (.int .u8 0) 1 rfl Tryz.underlying23 P.info5 rfl (by decide) (by decide) (.slice none 0 0) [] r A3 6 c3 (fun _ => True) (fun _ => False) rfl rfl ?aO ?aR (fun _ _ h => h) (fun _ h => h.elim) ?aF ?aB ?aS ?aL ?_; (case aO => exact Kd.R_nil _ _ _ _ _); (case aR => exact Kd.C_alloc HC3.out.2 _); (case aF => exact fun _ _ => trivial); (case aB => exact below_alloc HB3.out _); (case aS => exact below_size (below_alloc HB3.out _)); (case aL => decide); intro v1 w4 ho hb hgr hat; have cl := part_kept hgr (by simp [Value.ownBlock]) 3 (.bool true) rfl; rw [List.nil_append] at ho; obtain ⟨g1, c1, rfl, _, _, _⟩ := Kd.R_form ho (by rw [HL.out]; decide); have HO4 := Aside0.mk (Kd.R_reads' ho); have HB4 := Aside0.mk hb; clear ho hb hgr hat) | ((with_reducible refine gate_builtin (b := .append) (xs := #[.tmp 73, .tmp 75]) rfl ?_); at_builtin; refine Kd.R_append (Kd.fixed (Kd.slice 5 (Kd.int .u8)) w4) (w0 := w) w.heap.size rfl (.tmp 73) (.tmp 75) 57 23 (.slice none 0 0) 24 rfl Tryz.underlying57 info23 rfl Nat.zero_lt_one (by omega) (.slice none 0 0) [] r [.slice (some ⟨g1, 0, none⟩) r.length c1] (fun _ => True) (fun _ => False) rfl rfl ?aP (fun _ hk => hk.elim) ?aF ?aO ?aB ?aS ?aL ?_; (case aP => exact ⟨_, c1, rfl, HO4.out.2.1, HO4.out.2.2⟩); (case aF => exact fun _ _ => trivial); (case aO => exact Kd.R_nil _ _ _ _ _); (case aB => exact HB4.out); (case aS => exact below_size HB4.out); (case aL => decide); intro v2 w5 ho hb hgr hat; have HO5 := Aside0.mk (one_of ho (grown_nil hgr)); have HB5 := Aside0.mk hb; clear ho hb hgr hat))
      go_roundg 7
      case measure => omega
      case rel => exact ⟨1, by omega, by omega, by go_num, HB5, Or.inr ⟨true, by omega, rfl, HO5, rfl, rfl, rfl, rfl, rfl, rfl⟩⟩
    · by_cases hlt : i < 8
      · have hltz : (i : Int) < 8 := by omega
        have hw1 : IntKind.i64.wrap ((i : Int) + 1) = (i : Int) + 1 := IntWalk.i64_in _ (by omega)
        have HG1 := Aside0.mk (HG.out wr HB.out i hlt)
        have HN1 := Aside0.mk (HN.out i h2 hlt)
        obtain ⟨lb, cl, Al, cAl, rfl, _⟩ := HO.out
        go_wp2_with (first | (go_at_call 65; refine HG1.out.mono ?_; rintro e w' ⟨v, rfl, hR, hb⟩; obtain ⟨A, c, rfl⟩ := Kd.R_slice hR; have HR := Aside0.mk (Kd.R_reads' hR); have HB2 := Aside0.mk (below_step HB.out hb); have HO2 := Aside0.mk (One.below HO.out hb); clear hR hb) | (go_at_call 81; refine (journal_read_not _ _ _ _ HR.out.2.2 HR.out.2.1 HN1.out).mono ?_; rintro e w3 ⟨rfl, hb⟩; have HB3 := Aside0.mk (below_step HB2.out hb); have HO3 := Aside0.mk (One.below HO2.out hb); clear hb))
        go_roundg (8 - (i + 1))
        case measure => omega
        case rel => exact ⟨i + 1, by omega, by omega, by go_num, ⟨below_alloc HB3.out _⟩, Or.inr ⟨false, by omega, rfl, ⟨One.below HO3.out (below_alloc (Below.refl _ _) _)⟩, rfl, rfl, rfl, rfl, rfl, rfl⟩⟩
      · have hltz : ¬ (i : Int) < 8 := by omega
        go_wp2_with fail
        go_ret3
        exact ⟨_, rfl, HO.out, HB.out⟩
end Go.Proofs.YtmajfcdfafhkfaaGreatDoor.H
