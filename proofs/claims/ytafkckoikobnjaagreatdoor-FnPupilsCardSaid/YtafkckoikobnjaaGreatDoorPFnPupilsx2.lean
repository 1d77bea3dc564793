/- Written by a program (ext.py). No conditions but those that each theorem states. -/
import Derived.Test.YtafkckoikobnjaaGreatDoorPFnPupilsx0
import Derived.Test.YtafkckoikobnjaaGreatDoorPFnPupilsx1
namespace Go.Proofs.YtafkckoikobnjaaGreatDoor.PFnPupils
open Go.RowKit Go.Proofs.YtafkckoikobnjaaGreatDoorW.PrintWords Go.Proofs.YtafkckoikobnjaaGreatDoorW.PrintLast Go.Proofs.YtafkckoikobnjaaGreatDoorW.PrintMore
attribute [local go_sem] max2_int min2_int max_two min_two max_three min_three max_four min_four Go.Proofs.YtafkckoikobnjaaGreatDoor.Hl.isSome_set
set_option linter.unusedVariables false
set_option linter.unusedSimpArgs false

/-! ### spec_l25Draw: function 49 -/
mutual
def spec_l25Draw.l0 : Nat → List ByteArray → List Int → Int → List Int → Int → Int → Option (List Int × (List (S60)) × Int × Int)
 | 0, _, _, _, _, _, _ => none
 | k + 1, x4, x5, x6, x1000, x1001, x1002 => if x6 > 0 then ((spec_l00Src_pick.f x1000 x1001 x1002 9).bind fun bt132 => (if x5.length < 17592186044416 then (spec_l25Draw.l0 k x4 (x5 ++ [wrap64 (10 * (wrap64 (1 + bt132.1)))]) (wrap64 (x6 - 1)) x1000 bt132.2.1 bt132.2.2) else (none))) else ((spec_l00Src_pick.f x1000 x1001 x1002 7).bind fun bt141 => (spec_l25Draw.l1 k x4 x5 (([] : List (S60))) bt141.1 x1000 bt141.2.1 bt141.2.2))
def spec_l25Draw.l1 : Nat → List ByteArray → List Int → List (S60) → Int → List Int → Int → Int → Option (List Int × (List (S60)) × Int × Int)
 | 0, _, _, _, _, _, _, _ => none
 | k + 1, x4, x5, x7, x8, x1000, x1001, x1002 => if x8 > 0 then (if 0 ≤ (x7.length : Int) then (if (x7.length : Int) < (x4.length : Int) then ((spec_l00Src_pick.f x1000 x1001 x1002 300).bind fun bt145 => (spec_l25Draw.l2 k x4 x5 x7 x8 0 x1000 bt145.2.1 bt145.2.2 (rdOf ByteArray.empty x4 (x7.length : Int)) bt145.1 (([] : List Int)))) else (none)) else (none)) else ((spec_l00Src_pick.f x1000 x1001 x1002 28).bind fun bt161 => (if bt161.1 = 0 then ((spec_l00Src_among.f x1000 bt161.2.1 bt161.2.2 (([(-1), 0, 1, 5000, 5001, (-9223372036854775808)] : List Int))).bind fun bt167 => (if 0 < (x5.length : Int) then (some ((x5.set (0 : Int).toNat bt167.1), x7, bt167.2.1, bt167.2.2)) else (none))) else (if bt161.1 = 1 then ((spec_l00Src_among.f x1000 bt161.2.1 bt161.2.2 (([0, 10, 11] : List Int))).bind fun bt174 => (if 0 ≤ bt174.1 then (if (bt174.1 : Int).toNat ≤ 35184372088832 then (spec_l25Draw.l3 k (List.replicate (bt174.1 : Int).toNat 0) (([] : List (S60))) 0 x1000 bt174.2.1 bt174.2.2) else (none)) else (none))) else (if bt161.1 = 2 then ((spec_l00Src_text.f x1000 bt161.2.1 bt161.2.2 (([(⟨#[]⟩ : ByteArray), (⟨#[71, 117, 115]⟩ : ByteArray), (⟨#[97, 110, 110, 101]⟩ : ByteArray), (⟨#[103, 117, 115]⟩ : ByteArray)] : List ByteArray))).bind fun bt187 => ((spec_l00Own.f x5).bind fun t190 => (if x7.length < 2932031007402 then (some (x5, (x7 ++ [(⟨bt187.1, 0, t190⟩ : S60)]), bt187.2.1, bt187.2.2)) else (none)))) else (if bt161.1 = 3 then ((spec_l00Src_among.f x1000 bt161.2.1 bt161.2.2 (([(-1), 0, 5000, 5001] : List Int))).bind fun bt199 => ((spec_l00Own.f x5).bind fun t202 => (if x7.length < 2932031007402 then (some (x5, (x7 ++ [(⟨(⟨#[103, 117, 115]⟩ : ByteArray), bt199.1, t202⟩ : S60)]), bt199.2.1, bt199.2.2)) else (none)))) else (if bt161.1 = 4 then (if 1 ≤ (x5.length : Int) then ((spec_l00Own.f (x5.drop 1)).bind fun t212 => ((spec_l00Src_among.f x1000 bt161.2.1 bt161.2.2 (([(-1), 0, 5000, 5001] : List Int))).bind fun bt218 => (if t212.length < 17592186044416 then (if x7.length < 2932031007402 then (some (x5, (x7 ++ [(⟨(⟨#[103, 117, 115]⟩ : ByteArray), 0, (t212 ++ [bt218.1])⟩ : S60)]), bt218.2.1, bt218.2.2)) else (none)) else (none)))) else (none)) else (if bt161.1 = 5 then (if 1 ≤ (x5.length : Int) then ((spec_l00Own.f (x5.drop 1)).bind fun t231 => (if x7.length < 2932031007402 then (some (x5, (x7 ++ [(⟨(⟨#[103, 117, 115]⟩ : ByteArray), 0, t231⟩ : S60)]), bt161.2.1, bt161.2.2)) else (none))) else (none)) else (if bt161.1 = 6 then ((spec_l00Src_pick.f x1000 bt161.2.1 bt161.2.2 2).bind fun bt240 => (spec_l25Draw.l4 k x5 (([] : List (S60))) (wrap64 (20 + bt240.1)) x1000 bt240.2.1 bt240.2.2)) else (some (x5, x7, bt161.2.1, bt161.2.2))))))))))
def spec_l25Draw.l2 : Nat → List ByteArray → List Int → List (S60) → Int → Int → List Int → Int → Int → ByteArray → Int → List Int → Option (List Int × (List (S60)) × Int × Int)
 | 0, _, _, _, _, _, _, _, _, _, _, _ => none
 | k + 1, x4, x5, x7, x8, x10, x1000, x1001, x1002, x152000, x152001, x152002 => if x10 < (x5.length : Int) then ((spec_l00Src_pick.f x1000 x1001 x1002 10).bind fun bt152 => (if x152002.length < 17592186044416 then (spec_l25Draw.l2 k x4 x5 x7 x8 (wrap64 (x10 + 1)) x1000 bt152.2.1 bt152.2.2 x152000 x152001 (x152002 ++ [wrap64 (10 * bt152.1)])) else (none))) else (if x7.length < 2932031007402 then (spec_l25Draw.l1 k x4 x5 (x7 ++ [(⟨x152000, x152001, x152002⟩ : S60)]) (wrap64 (x8 - 1)) x1000 x1001 x1002) else (none))
def spec_l25Draw.l3 : Nat → List Int → List (S60) → Int → List Int → Int → Int → Option (List Int × (List (S60)) × Int × Int)
 | 0, _, _, _, _, _, _ => none
 | k + 1, x5, x7, x11, x1000, x1001, x1002 => if x11 < (x5.length : Int) then (if 0 ≤ x11 then (spec_l25Draw.l3 k (x5.set (x11 : Int).toNat 5) x7 (wrap64 (x11 + 1)) x1000 x1001 x1002) else (none)) else (some (x5, x7, x1001, x1002))
def spec_l25Draw.l4 : Nat → List Int → List (S60) → Int → List Int → Int → Int → Option (List Int × (List (S60)) × Int × Int)
 | 0, _, _, _, _, _, _ => none
 | k + 1, x5, x7, x12, x1000, x1001, x1002 => if x12 > 0 then ((some (([(97 + (((x7.length : Int)) % 256)) % 256] : List Int) : List Int)).bind fun y243 => (if 1 + (strOfNums y243).size ≤ 9223372036854775807 then ((spec_l00Own.f x5).bind fun t246 => (if x7.length < 2932031007402 then (spec_l25Draw.l4 k x5 (x7 ++ [(⟨(⟨#[112]⟩ : ByteArray) ++ (strOfNums y243), 0, t246⟩ : S60)]) (wrap64 (x12 - 1)) x1000 x1001 x1002) else (none))) else (none))) else (some (x5, x7, x1001, x1002))
end
def spec_l25Draw.f (k : Nat) (s0_0 : List Int) (s0_1 : Int) (s0_2 : Int) : Option (List Int × (List (S60)) × Int × Int) := (spec_l00Src_pick.f s0_0 s0_1 s0_2 5).bind fun bt129 => (spec_l25Draw.l0 k (([(⟨#[97, 110, 110, 101]⟩ : ByteArray), (⟨#[98, 101, 114, 116]⟩ : ByteArray), (⟨#[99, 97, 114, 108]⟩ : ByteArray), (⟨#[100, 111, 114, 97]⟩ : ByteArray), (⟨#[101, 109, 105, 108]⟩ : ByteArray), (⟨#[102, 114, 105, 116, 122, 45, 50]⟩ : ByteArray)] : List ByteArray)) (([] : List Int)) (wrap64 (1 + bt129.1)) s0_0 bt129.2.1 bt129.2.2)
theorem spec_l25Draw.mono_l : ∀ k, (∀ y0 y1 y2 y3 y4 y5, LeO (spec_l25Draw.l0 k y0 y1 y2 y3 y4 y5) (spec_l25Draw.l0 (k + 1) y0 y1 y2 y3 y4 y5)) ∧ (∀ y0 y1 y2 y3 y4 y5 y6, LeO (spec_l25Draw.l1 k y0 y1 y2 y3 y4 y5 y6) (spec_l25Draw.l1 (k + 1) y0 y1 y2 y3 y4 y5 y6)) ∧ (∀ y0 y1 y2 y3 y4 y5 y6 y7 y8 y9 y10, LeO (spec_l25Draw.l2 k y0 y1 y2 y3 y4 y5 y6 y7 y8 y9 y10) (spec_l25Draw.l2 (k + 1) y0 y1 y2 y3 y4 y5 y6 y7 y8 y9 y10)) ∧ (∀ y0 y1 y2 y3 y4 y5, LeO (spec_l25Draw.l3 k y0 y1 y2 y3 y4 y5) (spec_l25Draw.l3 (k + 1) y0 y1 y2 y3 y4 y5)) ∧ (∀ y0 y1 y2 y3 y4 y5, LeO (spec_l25Draw.l4 k y0 y1 y2 y3 y4 y5) (spec_l25Draw.l4 (k + 1) y0 y1 y2 y3 y4 y5))
 | 0 => ⟨fun _ _ _ _ _ _ r h => by simp [spec_l25Draw.l0] at h, fun _ _ _ _ _ _ _ r h => by simp [spec_l25Draw.l1] at h, fun _ _ _ _ _ _ _ _ _ _ _ r h => by simp [spec_l25Draw.l2] at h, fun _ _ _ _ _ _ r h => by simp [spec_l25Draw.l3] at h, fun _ _ _ _ _ _ r h => by simp [spec_l25Draw.l4] at h⟩
 | k + 1 => by
  obtain ⟨ih0, ih1, ih2, ih3, ih4⟩ := spec_l25Draw.mono_l k
  refine ⟨?_, ?_, ?_, ?_, ?_⟩
  ·
   intro y0 y1 y2 y3 y4 y5
   unfold spec_l25Draw.l0
   repeat' first | (with_reducible first | exact ih0 _ _ _ _ _ _ | exact ih1 _ _ _ _ _ _ _ | exact ih2 _ _ _ _ _ _ _ _ _ _ _ | exact ih3 _ _ _ _ _ _ | exact ih4 _ _ _ _ _ _ | exact LeO.refl _ | exact LeO.none _ | refine LeO.ite ?_ ?_ | refine LeO.bind ?_ (fun _ => ?_)) | exact ih0 _ _ _ _ _ _ | exact ih1 _ _ _ _ _ _ _ | exact ih2 _ _ _ _ _ _ _ _ _ _ _ | exact ih3 _ _ _ _ _ _ | exact ih4 _ _ _ _ _ _ | exact LeO.none _ | refine LeO.ite ?_ ?_ | refine LeO.bind ?_ (fun _ => ?_)
  ·
   intro y0 y1 y2 y3 y4 y5 y6
   unfold spec_l25Draw.l1
   repeat' first | (with_reducible first | exact ih0 _ _ _ _ _ _ | exact ih1 _ _ _ _ _ _ _ | exact ih2 _ _ _ _ _ _ _ _ _ _ _ | exact ih3 _ _ _ _ _ _ | exact ih4 _ _ _ _ _ _ | exact LeO.refl _ | exact LeO.none _ | refine LeO.ite ?_ ?_ | refine LeO.bind ?_ (fun _ => ?_)) | exact ih0 _ _ _ _ _ _ | exact ih1 _ _ _ _ _ _ _ | exact ih2 _ _ _ _ _ _ _ _ _ _ _ | exact ih3 _ _ _ _ _ _ | exact ih4 _ _ _ _ _ _ | exact LeO.none _ | refine LeO.ite ?_ ?_ | refine LeO.bind ?_ (fun _ => ?_)
  ·
   intro y0 y1 y2 y3 y4 y5 y6 y7 y8 y9 y10
   unfold spec_l25Draw.l2
   repeat' first | (with_reducible first | exact ih0 _ _ _ _ _ _ | exact ih1 _ _ _ _ _ _ _ | exact ih2 _ _ _ _ _ _ _ _ _ _ _ | exact ih3 _ _ _ _ _ _ | exact ih4 _ _ _ _ _ _ | exact LeO.refl _ | exact LeO.none _ | refine LeO.ite ?_ ?_ | refine LeO.bind ?_ (fun _ => ?_)) | exact ih0 _ _ _ _ _ _ | exact ih1 _ _ _ _ _ _ _ | exact ih2 _ _ _ _ _ _ _ _ _ _ _ | exact ih3 _ _ _ _ _ _ | exact ih4 _ _ _ _ _ _ | exact LeO.none _ | refine LeO.ite ?_ ?_ | refine LeO.bind ?_ (fun _ => ?_)
  ·
   intro y0 y1 y2 y3 y4 y5
   unfold spec_l25Draw.l3
   repeat' first | (with_reducible first | exact ih0 _ _ _ _ _ _ | exact ih1 _ _ _ _ _ _ _ | exact ih2 _ _ _ _ _ _ _ _ _ _ _ | exact ih3 _ _ _ _ _ _ | exact ih4 _ _ _ _ _ _ | exact LeO.refl _ | exact LeO.none _ | refine LeO.ite ?_ ?_ | refine LeO.bind ?_ (fun _ => ?_)) | exact ih0 _ _ _ _ _ _ | exact ih1 _ _ _ _ _ _ _ | exact ih2 _ _ _ _ _ _ _ _ _ _ _ | exact ih3 _ _ _ _ _ _ | exact ih4 _ _ _ _ _ _ | exact LeO.none _ | refine LeO.ite ?_ ?_ | refine LeO.bind ?_ (fun _ => ?_)
  ·
   intro y0 y1 y2 y3 y4 y5
   unfold spec_l25Draw.l4
   repeat' first | (with_reducible first | exact ih0 _ _ _ _ _ _ | exact ih1 _ _ _ _ _ _ _ | exact ih2 _ _ _ _ _ _ _ _ _ _ _ | exact ih3 _ _ _ _ _ _ | exact ih4 _ _ _ _ _ _ | exact LeO.refl _ | exact LeO.none _ | refine LeO.ite ?_ ?_ | refine LeO.bind ?_ (fun _ => ?_)) | exact ih0 _ _ _ _ _ _ | exact ih1 _ _ _ _ _ _ _ | exact ih2 _ _ _ _ _ _ _ _ _ _ _ | exact ih3 _ _ _ _ _ _ | exact ih4 _ _ _ _ _ _ | exact LeO.none _ | refine LeO.ite ?_ ?_ | refine LeO.bind ?_ (fun _ => ?_)
theorem spec_l25Draw.mono : ∀ a0 a1 a2 k, LeO (spec_l25Draw.f k a0 a1 a2) (spec_l25Draw.f (k + 1) a0 a1 a2) := by
 intro a0 a1 a2 k
 obtain ⟨ih0, ih1, ih2, ih3, ih4⟩ := spec_l25Draw.mono_l k
 unfold spec_l25Draw.f
 repeat' first | (with_reducible first | exact ih0 _ _ _ _ _ _ | exact ih1 _ _ _ _ _ _ _ | exact ih2 _ _ _ _ _ _ _ _ _ _ _ | exact ih3 _ _ _ _ _ _ | exact ih4 _ _ _ _ _ _ | exact LeO.refl _ | exact LeO.none _ | refine LeO.ite ?_ ?_ | refine LeO.bind ?_ (fun _ => ?_)) | exact ih0 _ _ _ _ _ _ | exact ih1 _ _ _ _ _ _ _ | exact ih2 _ _ _ _ _ _ _ _ _ _ _ | exact ih3 _ _ _ _ _ _ | exact ih4 _ _ _ _ _ _ | exact LeO.none _ | refine LeO.ite ?_ ?_ | refine LeO.bind ?_ (fun _ => ?_)
def spec_l25Draw.T11 : Bool × List (List Nat × List Nat) := (true, [([], []), ([], []), ([1], [1]), ([0, 2], [0, 2]), ([3], [3]), ([], []), ([5], [5]), ([], []), ([4, 6, 7], [4, 6, 7]), ([], []), ([9, 8, 6, 0, 1, 2, 3, 4, 5, 6, 7, 8, 9], [8, 9])])
def spec_l25Draw.B11 : List Nat := [0, 0, 2, 7, 15, 0, 32, 0, 255, 0, 1023]
theorem spec_l25Draw.tab11 : rtab .any (opsOf Tryz.f49 11) = spec_l25Draw.T11 := by kernel_rfl
theorem spec_l25Draw.bits11 : waitsOk spec_l25Draw.T11.2 spec_l25Draw.B11 = true := by kernel_rfl
def spec_l25Draw.T15 : Bool × List (List Nat × List Nat) := (true, [([], []), ([0], [0]), ([], []), ([2], [2]), ([3], [3]), ([4], [4]), ([1, 5, 3], [1, 5]), ([0, 1, 2, 3, 4, 5, 6], []), ([7, 6, 6, 0, 1, 2, 3, 4, 5, 6], [6, 7])])
def spec_l25Draw.B15 : List Nat := [0, 1, 0, 4, 12, 28, 63, 127, 255]
theorem spec_l25Draw.tab15 : rtab .any (opsOf Tryz.f49 15) = spec_l25Draw.T15 := by kernel_rfl
theorem spec_l25Draw.bits15 : waitsOk spec_l25Draw.T15.2 spec_l25Draw.B15 = true := by kernel_rfl
def spec_l25Draw.T40 : Bool × List (List Nat × List Nat) := (true, [([], []), ([], []), ([1], [1]), ([2], [2]), ([3], [3]), ([4], [4]), ([5], [5]), ([6], [6]), ([], []), ([8], [8]), ([7, 9], [7, 9]), ([10], [10]), ([0, 11, 9], [0, 11]), ([12, 12, 0, 1, 2, 3, 4, 5, 6, 7, 8, 9, 10, 11, 12], [0, 1, 12])])
def spec_l25Draw.B40 : List Nat := [0, 0, 2, 6, 14, 30, 62, 126, 0, 256, 1022, 2046, 4095, 8191]
theorem spec_l25Draw.tab40 : rtab .any (opsOf Tryz.f49 40) = spec_l25Draw.T40 := by kernel_rfl
theorem spec_l25Draw.bits40 : waitsOk spec_l25Draw.T40.2 spec_l25Draw.B40 = true := by kernel_rfl
set_option maxHeartbeats 8000000 in
set_option maxRecDepth 100000 in
theorem spec_l25Draw.calls (k : Nat) (g : Nat) (s0_0 : List Int) (s0_1 : Int) (s0_2 : Int) (r1 : List Int) (r2 : List (S60)) (r3 : Int) (r4 : Int) (w0 w : World) (hI : IsS81 w0 w g s0_0 s0_1 s0_2) (hB : Below w0.heap.size w0 w) (h : spec_l25Draw.f k s0_0 s0_1 s0_2 = some (r1, r2, r3, r4)) :
  Calls Tryz.prog 49 #[.pointer (some ⟨g, 0, none⟩)] w fun e w' => ∃ v0_ v1_ : Value, e = .returned (.tuple #[v0_, v1_]) ∧ Kd.R (Kd.int .i64) 2 w' w.heap.size (fun _ => True) v0_ r1 ∧ Kd.S k60 60 w' w.heap.size (fun k_ => some k_ ≠ (v0_ : Value).ownBlock) v1_ r2 ∧ IsS81 w0 w' g s0_0 r3 r4 ∧ Below w0.heap.size w0 w' ∧ KeepBut w w' g none := by
 have hu60 := Tryz.underlying60
 have HI0 := Hl.am hI
 have HK := Hl.am (KeepBut.refl w g none)
 have HL := Hl.am hB.size
 clear hI
 have HW0 := Hl.am hB.size
 have HB := Hl.am hB
 clear hB
 have H := h
 unfold spec_l25Draw.f at H
 clear h
 obtain ⟨y123, hy123⟩ : ∃ y_ : List ByteArray, y_ = (([(⟨#[97, 110, 110, 101]⟩ : ByteArray), (⟨#[98, 101, 114, 116]⟩ : ByteArray), (⟨#[99, 97, 114, 108]⟩ : ByteArray), (⟨#[100, 111, 114, 97]⟩ : ByteArray), (⟨#[101, 109, 105, 108]⟩ : ByteArray), (⟨#[102, 114, 105, 116, 122, 45, 50]⟩ : ByteArray)] : List ByteArray)) := ⟨_, rfl⟩
 replace H : ((spec_l00Src_pick.f s0_0 s0_1 s0_2 5).bind fun bt129 => (spec_l25Draw.l0 k y123 (([] : List Int)) (wrap64 (1 + bt129.1)) s0_0 bt129.2.1 bt129.2.2)) = some (r1, r2, r3, r4) := rH_ hy123 H
 have Ny123 := Hl.am hy123
 clear hy123
 obtain ⟨y126, hy126⟩ : ∃ y_ : List Int, y_ = (([] : List Int)) := ⟨_, rfl⟩
 replace H : ((spec_l00Src_pick.f s0_0 s0_1 s0_2 5).bind fun bt129 => (spec_l25Draw.l0 k y123 y126 (wrap64 (1 + bt129.1)) s0_0 bt129.2.1 bt129.2.2)) = some (r1, r2, r3, r4) := rH_ hy126 H
 have Ny126 := Hl.am hy126
 clear hy126
 obtain ⟨⟨t129, t130, t131⟩, A20, H⟩ := bE_ H
 replace H : (spec_l25Draw.l0 k y123 y126 (wrap64 (1 + t129)) s0_0 t130 t131) = some (r1, r2, r3, r4) := H
 have A2 := Hl.am A20
 clear A20
 have H' := Hl.am H
 clear H
 go_enter Tryz.func49, Tryz.ntmps49
 go_wp2_with (first | ((with_reducible refine gate_dst (N := 13) rfl ?_); refine Kd.R_lit Kd.string _ 9 ?hg (N := 13) ?hd (xs := ([(⟨#[97, 110, 110, 101]⟩ : ByteArray), (⟨#[98, 101, 114, 116]⟩ : ByteArray), (⟨#[99, 97, 114, 108]⟩ : ByteArray), (⟨#[100, 111, 114, 97]⟩ : ByteArray), (⟨#[101, 109, 105, 108]⟩ : ByteArray), (⟨#[102, 114, 105, 116, 122, 45, 50]⟩ : ByteArray)] : List ByteArray)) (inner := [.string (⟨#[97, 110, 110, 101]⟩ : ByteArray), .string (⟨#[98, 101, 114, 116]⟩ : ByteArray), .string (⟨#[99, 97, 114, 108]⟩ : ByteArray), .string (⟨#[100, 111, 114, 97]⟩ : ByteArray), .string (⟨#[101, 109, 105, 108]⟩ : ByteArray), .string (⟨#[102, 114, 105, 116, 122, 45, 50]⟩ : ByteArray)]) (ok := fun _ => True) (okp := fun _ => True) ?hr ?hp (fun _ hk => hk) trivial (Below.refl _ _) (Nat.le_refl _) (by simp) ?_; (case hd => rfl); (case hg => rfl); (case hr => first | (go_simp; done) | (go_simp; rfl)); (case hp => exact (Reps.one (show Kd.M Kd.string _ _ _ (⟨#[97, 110, 110, 101]⟩ : ByteArray) [.string (⟨#[97, 110, 110, 101]⟩ : ByteArray)] from rfl) (Reps.one (show Kd.M Kd.string _ _ _ (⟨#[98, 101, 114, 116]⟩ : ByteArray) [.string (⟨#[98, 101, 114, 116]⟩ : ByteArray)] from rfl) (Reps.one (show Kd.M Kd.string _ _ _ (⟨#[99, 97, 114, 108]⟩ : ByteArray) [.string (⟨#[99, 97, 114, 108]⟩ : ByteArray)] from rfl) (Reps.one (show Kd.M Kd.string _ _ _ (⟨#[100, 111, 114, 97]⟩ : ByteArray) [.string (⟨#[100, 111, 114, 97]⟩ : ByteArray)] from rfl) (Reps.one (show Kd.M Kd.string _ _ _ (⟨#[101, 109, 105, 108]⟩ : ByteArray) [.string (⟨#[101, 109, 105, 108]⟩ : ByteArray)] from rfl) (Reps.one (show Kd.M Kd.string _ _ _ (⟨#[102, 114, 105, 116, 122, 45, 50]⟩ : ByteArray) [.string (⟨#[102, 114, 105, 116, 122, 45, 50]⟩ : ByteArray)] from rfl) (Reps.none _ _)))))))); intro v124 w3 ho4 hb hg_ hnew_; clear hg_ hnew_; (first | rw [← Ny123.out] at ho4 | (simp only [Int.reduceToNat] at ho4; rw [← Ny123.out] at ho4)); have HO125 := Hl.am (Kd.R_lower ho4 (keep_size (w := w) (g := g) (row := none) (kS_ HK))); replace HK := Hl.am (KeepBut.trans (kS_ HK) (KeepBut.of_below hb g none) (.inl rfl)); replace HB := Hl.am (below_step (bI_ HB) hb); replace HI0 := Hl.am (IsS81.below (iS_ HI0) hb); clear hb ho4) | ((with_reducible refine gate_dst (N := 14) rfl ?_); refine Kd.R_lit (Kd.int .i64) _ 2 ?hg (N := 14) ?hd (xs := ([] : List Int)) (inner := []) (ok := fun _ => True) (okp := fun _ => True) ?hr ?hp (fun _ hk => hk) trivial (Below.refl _ _) (Nat.le_refl _) (by simp) ?_; (case hd => rfl); (case hg => rfl); (case hr => first | (go_simp; done) | (go_simp; rfl)); (case hp => exact (Reps.none _ _)); intro v127 w5 ho6 hb hg_ hnew_; clear hg_ hnew_; (first | rw [← Ny126.out] at ho6 | (simp only [Int.reduceToNat] at ho6; rw [← Ny126.out] at ho6)); replace HO125 := rB_ HO125 hb; have HO128 := Hl.am (Kd.R_lower ho6 (keep_size (w := w) (g := g) (row := none) (kS_ HK))); replace HK := Hl.am (KeepBut.trans (kS_ HK) (KeepBut.of_below hb g none) (.inl rfl)); replace HB := Hl.am (below_step (bI_ HB) hb); replace HI0 := Hl.am (IsS81.below (iS_ HI0) hb); clear hb ho6) | ((with_reducible refine gate_callee (f := 32) rfl ?_); refine Hl.gl (some 16) rfl rfl Tryz.func32 (by kernel_rfl) rfl #[.pointer (some ⟨g, 0, none⟩), .int .i64 5] rfl ?_; (with_reducible refine (spec_l00Src_pick.calls g s0_0 s0_1 s0_2 5 t129 t130 t131 w0 _ ?side1 ?side2 A2.out).mono ?_); (case side1 => exact iS_ HI0); (case side2 => exact bI_ HB); rintro e w7 ⟨rfl, hi, hb, hk⟩; refine ⟨_, rfl, ?_⟩; replace HO125 := Hl.am (Kd.R_mono (Kd.R_keep (IsS81.apart (show IsS81 w0 _ g s0_0 s0_1 s0_2 from iS_ HI0) (Hl.rr HO125) (by decide)) hk (fun _ h => h.2)) (fun _ h => h.1)); replace HO128 := Hl.am (Kd.R_mono (Kd.R_keep (IsS81.apart (show IsS81 w0 _ g s0_0 s0_1 s0_2 from iS_ HI0) (Hl.rr HO128) (by decide)) hk (fun _ h => h.2)) (fun _ h => h.1)); replace HK := Hl.am (KeepBut.trans (kS_ HK) hk (.inl rfl)); replace HB := Hl.am (hb); replace HI0 := Hl.am (hi); (try clear hb); (try clear hk); (try clear hi)))
 go_loopg [5, 6] k (fun kq v5 v6 w' => ∃ (x5_1 : List Int) (x6_1 : Int) (x1001_1 : Int) (x1002_1 : Int), v6 = .int .i64 x6_1 ∧ Aside0 (spec_l25Draw.l0 kq y123 x5_1 x6_1 s0_0 x1001_1 x1002_1 = some (r1, r2, r3, r4)) ∧ Aside0 (kq ≤ k) ∧ Aside0 (Kd.R Kd.string 9 w' w.heap.size (fun _ => True) v124 y123) ∧ Aside0 (Kd.R (Kd.int .i64) 2 w' w.heap.size (fun _ => True) v5 x5_1) ∧ Aside0 (IsS81 w0 w' g s0_0 x1001_1 x1002_1) ∧ Aside0 (KeepBut w w' g none) ∧ Aside0 (Below w0.heap.size w0 w'))
 case atStart => exact ⟨(y126), (wrap64 (1 + t129)), (t130), (t131), (by first | rfl | (simp; done) | (simp [*]; done)), H', ⟨Nat.le_refl _⟩, ⟨Hl.rr HO125⟩, ⟨Hl.rr HO128⟩, ⟨iS_ HI0⟩, ⟨kS_ HK⟩, ⟨bI_ HB⟩⟩
 case round =>
  clear H'
  obtain ⟨x5_1, x6_1, x1001_1, x1002_1, rfl, HA, HK1, HO_4, HO_5, HI0, HK, HB⟩ := hrel
  cases gk with
  | zero => exact absurd HA.out (by simp [spec_l25Draw.l0])
  | succ k1 =>
   have H := HA.out
   clear HA
   simp only [spec_l25Draw.l0] at H
   by_cases c8 : x6_1 > 0
   ·
    rw [if_pos c8] at H
    have c8b0 : decide (0 < x6_1) = true := decide_eq_true c8
    clear c8
    obtain ⟨⟨t132, t133, t134⟩, A90, H⟩ := bE_ H
    (try dsimp only at H)
    have A9 := Hl.am A90
    clear A90
    by_cases c10 : x5_1.length < 17592186044416
    ·
     rw [if_pos c10] at H
     have LMc10 := Hl.am c10
     clear c10
     obtain ⟨y135, hy135⟩ : ∃ y_ : List Int, y_ = (x5_1 ++ [wrap64 (10 * (wrap64 (1 + t132)))]) := ⟨_, rfl⟩
     replace H : (spec_l25Draw.l0 k1 y123 y135 (wrap64 (x6_1 - 1)) s0_0 t133 t134) = some (r1, r2, r3, r4) := rH_ hy135 H
     have Ny135 := Hl.am hy135
     clear hy135
     have H' := Hl.am H
     clear H
     go_wp2_with (first | ((with_reducible refine gate_callee (f := 32) rfl ?_); refine Hl.gl (some 24) rfl rfl Tryz.func32 (by kernel_rfl) rfl #[.pointer (some ⟨g, 0, none⟩), .int .i64 9] rfl ?_; (with_reducible refine (spec_l00Src_pick.calls g s0_0 x1001_1 x1002_1 9 t132 t133 t134 w0 _ ?side1 ?side2 A9.out).mono ?_); (case side1 => exact iS_ HI0); (case side2 => exact bI_ HB); rintro e w11 ⟨rfl, hi, hb, hk⟩; refine ⟨_, rfl, ?_⟩; replace HO_4 := Hl.am (Kd.R_mono (Kd.R_keep (IsS81.apart (show IsS81 w0 _ g s0_0 x1001_1 x1002_1 from iS_ HI0) (Hl.rr HO_4) (by decide)) hk (fun _ h => h.2)) (fun _ h => h.1)); replace HO_5 := Hl.am (Kd.R_mono (Kd.R_keep (IsS81.apart (show IsS81 w0 _ g s0_0 x1001_1 x1002_1 from iS_ HI0) (Hl.rr HO_5) (by decide)) hk (fun _ h => h.2)) (fun _ h => h.1)); replace HK := Hl.am (KeepBut.trans (kS_ HK) hk (.inl rfl)); replace HB := Hl.am (hb); replace HI0 := Hl.am (hi); (try clear hb); (try clear hk); (try clear hi)) | ((with_reducible refine gate_builtin (b := .append) (xs := #[.tmp 22, .tmp 27]) rfl ?_); at_builtin; refine Kd.R_append (Kd.int .i64) w.heap.size rfl (.tmp 22) (.tmp 27) 24 2 (.int .i64 0) 8 rfl Tryz.underlying24 info2 rfl (by decide) (by omega) u5 x5_1 (wrap64 (10 * (wrap64 (1 + t132)))) [.int .i64 (wrap64 (10 * (wrap64 (1 + t132))))] (fun _ => True) (fun _ => False) rfl rfl ?aP (fun _ hk => hk.elim) ?aF ?aO (Below.refl _ _) ?aS ?aL ?_; (case aP => exact rfl); (case aF => exact (fun _ _ => trivial)); (case aO => exact (Hl.rr HO_5)); (case aS => exact (keep_size (w := w) (g := g) (row := none) (kS_ HK))); (case aL => have := LMc10.out; omega); intro v136 w12 ho hb hg hat; rw [← Ny135.out] at ho; replace HO_4 := Hl.am (Kd.R_over' (Hl.rr HO_4) (Kd.R_typed (Hl.rr HO_5)) (by decide) hg); replace HB := Hl.am (below_weaken (bI_ HB) HL.out hb); replace HI0 := Hl.am (IsS81.grown (iS_ HI0) hg (IsS81.own_ne HI0.out HO_5.out (by decide))); replace HK := Hl.am (KeepBut.trans (kS_ HK) (KeepBut.of_grown hg g) (Kd.R_base2 HO_5.out)); have HO137 := Hl.am (ho); clear HO_5; clear ho hb hg hat))
     go_roundg k1
     case measure => have := HK1.out; omega
     case rel => exact ⟨(y135), (wrap64 (x6_1 - 1)), (t133), (t134), (by first | rfl | (simp; done) | (simp [*]; done)), H', ⟨by have := HK1.out; omega⟩, ⟨Hl.rr HO_4⟩, ⟨Hl.rr HO137⟩, ⟨iS_ HI0⟩, ⟨kS_ HK⟩, ⟨bI_ HB⟩⟩
    ·
     rw [if_neg c10] at H
     exact absurd H (by simp)
   ·
    rw [if_neg c8] at H
    have c8b0 : decide (0 < x6_1) = false := decide_eq_false c8
    clear c8
    obtain ⟨y138, hy138⟩ : ∃ y_ : List (S60), y_ = (([] : List (S60))) := ⟨_, rfl⟩
    replace H : ((spec_l00Src_pick.f s0_0 x1001_1 x1002_1 7).bind fun bt141 => (spec_l25Draw.l1 k1 y123 x5_1 y138 bt141.1 s0_0 bt141.2.1 bt141.2.2)) = some (r1, r2, r3, r4) := rH_ hy138 H
    have Ny138 := Hl.am hy138
    clear hy138
    obtain ⟨⟨t141, t142, t143⟩, A130, H⟩ := bE_ H
    replace H : (spec_l25Draw.l1 k1 y123 x5_1 y138 t141 s0_0 t142 t143) = some (r1, r2, r3, r4) := H
    have A13 := Hl.am A130
    clear A130
    have H' := Hl.am H
    clear H
    go_wp2_with (first | ((with_reducible refine gate_dst (N := 29) rfl ?_); refine Kd.S_lit k60 _ 60 ?hg (N := 29) ?hd (xs := ([] : List (S60))) (inner := []) (ok := fun _ => True) (okp := fun _ => True) ?hr ?hp (fun _ hk => hk) trivial (Below.refl _ _) (Nat.le_refl _) (by simp) ?_; (case hd => rfl); (case hg => rfl); (case hr => first | (go_simp; done) | (go_simp; rfl)); (case hp => exact (Reps.none _ _)); intro v139 w14 ho15 hb hg_ hnew_; clear hg_ hnew_; (first | rw [← Ny138.out] at ho15 | (simp only [Int.reduceToNat] at ho15; rw [← Ny138.out] at ho15)); replace HO_4 := rB_ HO_4 hb; have HO140 := Hl.am (Kd.S_lower (Kd.S_new' ho15 (Kd.R_lt (Hl.rr HO_5))) (keep_size (w := w) (g := g) (row := none) (kS_ HK))); replace HO_5 := rB_ HO_5 hb; replace HK := Hl.am (KeepBut.trans (kS_ HK) (KeepBut.of_below hb g none) (.inl rfl)); replace HB := Hl.am (below_step (bI_ HB) hb); replace HI0 := Hl.am (IsS81.below (iS_ HI0) hb); clear hb ho15) | ((with_reducible refine gate_callee (f := 32) rfl ?_); refine Hl.gl (some 31) rfl rfl Tryz.func32 (by kernel_rfl) rfl #[.pointer (some ⟨g, 0, none⟩), .int .i64 7] rfl ?_; (with_reducible refine (spec_l00Src_pick.calls g s0_0 x1001_1 x1002_1 7 t141 t142 t143 w0 _ ?side1 ?side2 A13.out).mono ?_); (case side1 => exact iS_ HI0); (case side2 => exact bI_ HB); rintro e w16 ⟨rfl, hi, hb, hk⟩; refine ⟨_, rfl, ?_⟩; replace HO_4 := Hl.am (Kd.R_mono (Kd.R_keep (IsS81.apart (show IsS81 w0 _ g s0_0 x1001_1 x1002_1 from iS_ HI0) (Hl.rr HO_4) (by decide)) hk (fun _ h => h.2)) (fun _ h => h.1)); replace HO_5 := Hl.am (Kd.R_mono (Kd.R_keep (IsS81.apart (show IsS81 w0 _ g s0_0 x1001_1 x1002_1 from iS_ HI0) (Hl.rr HO_5) (by decide)) hk (fun _ h => h.2)) (fun _ h => h.1)); replace HO140 := Hl.am (Kd.S_mono (Kd.S_keep (IsS81.apartS (show IsS81 w0 _ g s0_0 x1001_1 x1002_1 from iS_ HI0) (sr_ HO140) (by decide)) hk (fun _ h => h.2)) (fun _ h => h.1)); replace HK := Hl.am (KeepBut.trans (kS_ HK) hk (.inl rfl)); replace HB := Hl.am (hb); replace HI0 := Hl.am (hi); (try clear hb); (try clear hk); (try clear hi)))
    go_loopg [7, 8] k1 (fun kq v7 v8 w' => ∃ (x7_2 : List (S60)) (x8_2 : Int) (x1001_2 : Int) (x1002_2 : Int), v8 = .int .i64 x8_2 ∧ Aside0 (spec_l25Draw.l1 kq y123 x5_1 x7_2 x8_2 s0_0 x1001_2 x1002_2 = some (r1, r2, r3, r4)) ∧ Aside0 (kq ≤ k1) ∧ Aside0 (Kd.R Kd.string 9 w' w.heap.size (fun _ => True) v124 y123) ∧ Aside0 (Kd.R (Kd.int .i64) 2 w' w.heap.size (fun _ => True) u5 x5_1) ∧ Aside0 (Kd.S k60 60 w' w.heap.size (fun k_ => some k_ ≠ (u5 : Value).ownBlock) v7 x7_2) ∧ Aside0 (IsS81 w0 w' g s0_0 x1001_2 x1002_2) ∧ Aside0 (KeepBut w w' g none) ∧ Aside0 (Below w0.heap.size w0 w'))
    case atStart => exact ⟨(y138), (t141), (t142), (t143), (by first | rfl | (simp; done) | (simp [*]; done)), H', ⟨Nat.le_refl _⟩, ⟨Hl.rr HO_4⟩, ⟨Hl.rr HO_5⟩, ⟨sm_ HO140 (fun _ hk => hk.2)⟩, ⟨iS_ HI0⟩, ⟨kS_ HK⟩, ⟨bI_ HB⟩⟩
    case round =>
     clear H'
     try clear c8b0
     obtain ⟨x7_2, x8_2, x1001_2, x1002_2, rfl, HA, HK2, HO_4, HO_5, HO_7, HI0, HK, HB⟩ := hrel
     cases gk with
     | zero => exact absurd HA.out (by simp [spec_l25Draw.l1])
     | succ k2 =>
      have H := HA.out
      clear HA
      simp only [spec_l25Draw.l1] at H
      by_cases c17 : x8_2 > 0
      ·
       rw [if_pos c17] at H
       have c17b0 : decide (0 < x8_2) = true := decide_eq_true c17
       clear c17
       by_cases c18 : 0 ≤ (x7_2.length : Int)
       ·
        rw [if_pos c18] at H
        have c18b0 : decide (0 ≤ (x7_2.length : Int)) = true := decide_eq_true c18
        have c18b1 : decide (0 ≤ x7_2.length) = true := decide_eq_true (by omega)
        clear c18
        by_cases c19 : (x7_2.length : Int) < (y123.length : Int)
        ·
         rw [if_pos c19] at H
         have c19b0 : decide ((x7_2.length : Int) < (y123.length : Int)) = true := decide_eq_true c19
         have c19b1 : decide (x7_2.length < y123.length) = true := decide_eq_true (Int.ofNat_lt.mp c19)
         clear c19
         obtain ⟨⟨t145, t146, t147⟩, A200, H⟩ := bE_ H
         (try dsimp only at H)
         have A20 := Hl.am A200
         clear A200
         obtain ⟨y148, hy148⟩ : ∃ y_ : List Int, y_ = (([] : List Int)) := ⟨_, rfl⟩
         replace H : (spec_l25Draw.l2 k2 y123 x5_1 x7_2 x8_2 0 s0_0 t146 t147 (rdOf ByteArray.empty y123 (x7_2.length : Int)) t145 y148) = some (r1, r2, r3, r4) := rH_ hy148 H
         have Ny148 := Hl.am hy148
         clear hy148
         have H' := Hl.am H
         clear H
         try go_wp2
         have n0_ := Hl.am (Kd.R_drew HO_4.out)
         have n1_ := Hl.am (Kd.R_drew HO_5.out)
         have n2_ := Hl.am (Kd.S_drew HO_7.out)
         have n3_ := Hl.am (IsS81.drew HI0.out)
         have n4_ := Hl.am (keep_drew HK.out)
         have n5_ := Hl.am (below_drew1 HB.out)
         clear HO_4 HO_5 HO_7 HI0 HK HB
         have HO_4 := n0_
         have HO_5 := n1_
         have HO_7 := n2_
         have HI0 := n3_
         have HK := n4_
         have HB := n5_
         clear n0_ n1_ n2_ n3_ n4_ n5_
         obtain ⟨Ao22, co22, eo22⟩ := Kd.S_slice HO_7.out
         (first | subst eo22 | (injection eo22 with f1_ f2_ f3_; have f4_ := f1_.symm; have f5_ := f3_.symm; clear f1_ f2_ f3_; subst f4_; subst f5_))
         obtain ⟨Ao23, co23, eo23⟩ := Kd.R_slice HO_4.out
         (first | subst eo23 | (injection eo23 with f1_ f2_ f3_; have f4_ := f1_.symm; have f5_ := f3_.symm; clear f1_ f2_ f3_; subst f4_; subst f5_))
         have p144 : 0 ≤ ((x7_2.length : Int) : Int) := Hl.od
         have q144 : (x7_2.length : Int) < (y123.length : Int) := Hl.od
         obtain ⟨ad144, e144, hx144_0⟩ := Kd.at_string (Kd.R_reads' HO_4.out).2.2 (x7_2.length : Int) p144 q144
         cases e144
         (try simp only [Go.IntWalk.toNatUp] at hx144_0)
         (try rw [Int.toNat_natCast] at hx144_0)
         replace p144 := eq_true p144
         replace q144 := eq_true q144
         refine start_ (n := 11) (S := fun w' => w'.cell? (ad144.add x7_2.length) = some (.string (rdOf ByteArray.empty y123 (x7_2.length : Int)))) (ds := []) #[false, false, false, false, false, false, false, false, false, false, false] (by kernel_rfl) rfl rfl (hx144_0) (fun hHeld => ?_); refine with_tabW spec_l25Draw.tab11 spec_l25Draw.bits11 (fun HT_ HW_ => ?_)
         generalize wr.drew = w21 at HO_4 HO_5 HO_7 HI0 HK HB hx144_0 hHeld ⊢
         refine Hl.pI 0 36 11 1 HT_ rfl rfl ?_; refine Hl.pI 1 37 11 3 HT_ rfl rfl ?_; refine Hl.pI 2 38 11 7 HT_ rfl rfl ?_; refine Hl.pI 3 39 11 15 HT_ rfl rfl ?_; refine Hl.pI 5 41 11 47 HT_ rfl rfl ?_; refine Hl.tI 4 40 11 63 HT_ HW_ rfl rfl hHeld ?_ (hr := by intro w' hs_; have h_ : w'.cell? (ad144.add x7_2.length) = some (.string (rdOf ByteArray.empty y123 (x7_2.length : Int))) := hs_; go_simp; with_reducible rfl)
         refine join_ (σ := Value × Nat) 1 (Hl.ba 11 1023) (fun s_ => [(42, .int .i64 t145), (43, s_.1), (9, .pointer (some ⟨s_.2, 0, none⟩)), (44, .agg #[.string (rdOf ByteArray.empty y123 (x7_2.length : Int)), .int .i64 t145, s_.1])]) (fun s_ w' => (w'.cell? (ad144.add x7_2.length) = some (.string (rdOf ByteArray.empty y123 (x7_2.length : Int)))) ∧ (Kd.R (Kd.int .i64) 2 w' w.heap.size (fun k_ => some k_ ≠ (u5 : Value).ownBlock) s_.1 y148) ∧ (Kd.R Kd.string 9 w' w.heap.size (fun _ => True) (.slice (some ad144) y123.length co23) y123) ∧ (Kd.R (Kd.int .i64) 2 w' w.heap.size (fun k_ => some k_ ≠ (s_.1 : Value).ownBlock) u5 x5_1) ∧ (Kd.S k60 60 w' w.heap.size (fun k_ => some k_ ≠ (s_.1 : Value).ownBlock ∧ some k_ ≠ (u5 : Value).ownBlock ∧ k_ ≠ s_.2) (.slice Ao22 x7_2.length co22) x7_2) ∧ (w'.heap[s_.2]? = some (.cells #[.string (⟨#[]⟩ : ByteArray), .int .i64 0, .slice none 0 0] 60 (0, 0))) ∧ (w.heap.size ≤ s_.2) ∧ (w0.heap.size ≤ s_.2) ∧ (g ≠ s_.2) ∧ (s_.2 ≠ g) ∧ (IsS81 w0 w' g s0_0 t146 t147) ∧ (KeepBut w w' g none) ∧ (Below w0.heap.size w0 w')) ?_ ?_
         rotate_left
         ·
          intro hJ6_7_9
          refine join_ (σ := Value) 2 (Hl.ba 11 511) (fun s_ => [(42, .int .i64 t145), (43, s_), (44, .agg #[.string (rdOf ByteArray.empty y123 (x7_2.length : Int)), .int .i64 t145, s_])]) (fun s_ w' => (w'.cell? (ad144.add x7_2.length) = some (.string (rdOf ByteArray.empty y123 (x7_2.length : Int)))) ∧ (Kd.R (Kd.int .i64) 2 w' w.heap.size (fun k_ => some k_ ≠ (u5 : Value).ownBlock) s_ y148) ∧ (Kd.R Kd.string 9 w' w.heap.size (fun _ => True) (.slice (some ad144) y123.length co23) y123) ∧ (Kd.R (Kd.int .i64) 2 w' w.heap.size (fun k_ => some k_ ≠ (s_ : Value).ownBlock) u5 x5_1) ∧ (Kd.S k60 60 w' w.heap.size (fun k_ => some k_ ≠ (s_ : Value).ownBlock ∧ some k_ ≠ (u5 : Value).ownBlock) (.slice Ao22 x7_2.length co22) x7_2) ∧ (IsS81 w0 w' g s0_0 t146 t147) ∧ (KeepBut w w' g none) ∧ (Below w0.heap.size w0 w')) ?_ ?_
          rotate_left
          ·
           intro hJ6_7
           refine join_ (σ := Nat) 3 (Hl.ba 11 639) (fun s_ => [(42, .int .i64 t145), (9, .pointer (some ⟨s_, 0, none⟩))]) (fun s_ w' => (w'.cell? (ad144.add x7_2.length) = some (.string (rdOf ByteArray.empty y123 (x7_2.length : Int)))) ∧ (Kd.R Kd.string 9 w' w.heap.size (fun _ => True) (.slice (some ad144) y123.length co23) y123) ∧ (Kd.R (Kd.int .i64) 2 w' w.heap.size (fun _ => True) u5 x5_1) ∧ (Kd.S k60 60 w' w.heap.size (fun k_ => some k_ ≠ (u5 : Value).ownBlock ∧ k_ ≠ s_) (.slice Ao22 x7_2.length co22) x7_2) ∧ (w'.heap[s_]? = some (.cells #[.string (⟨#[]⟩ : ByteArray), .int .i64 0, .slice none 0 0] 60 (0, 0))) ∧ (w.heap.size ≤ s_) ∧ (w0.heap.size ≤ s_) ∧ (g ≠ s_) ∧ (s_ ≠ g) ∧ (IsS81 w0 w' g s0_0 t146 t147) ∧ (KeepBut w w' g none) ∧ (Below w0.heap.size w0 w')) ?_ ?_
           rotate_left
           ·
            intro hJ6_9
            refine join_ (σ := Value × Nat) 3 (Hl.ba 11 703) (fun s_ => [(43, s_.1), (9, .pointer (some ⟨s_.2, 0, none⟩))]) (fun s_ w' => (w'.cell? (ad144.add x7_2.length) = some (.string (rdOf ByteArray.empty y123 (x7_2.length : Int)))) ∧ (Kd.R (Kd.int .i64) 2 w' w.heap.size (fun k_ => some k_ ≠ (u5 : Value).ownBlock) s_.1 y148) ∧ (Kd.R Kd.string 9 w' w.heap.size (fun _ => True) (.slice (some ad144) y123.length co23) y123) ∧ (Kd.R (Kd.int .i64) 2 w' w.heap.size (fun k_ => some k_ ≠ (s_.1 : Value).ownBlock) u5 x5_1) ∧ (Kd.S k60 60 w' w.heap.size (fun k_ => some k_ ≠ (s_.1 : Value).ownBlock ∧ some k_ ≠ (u5 : Value).ownBlock ∧ k_ ≠ s_.2) (.slice Ao22 x7_2.length co22) x7_2) ∧ (w'.heap[s_.2]? = some (.cells #[.string (⟨#[]⟩ : ByteArray), .int .i64 0, .slice none 0 0] 60 (0, 0))) ∧ (w.heap.size ≤ s_.2) ∧ (w0.heap.size ≤ s_.2) ∧ (g ≠ s_.2) ∧ (s_.2 ≠ g) ∧ (IsS81 w0 w' g s0_0 x1001_2 x1002_2) ∧ (KeepBut w w' g none) ∧ (Below w0.heap.size w0 w')) ?_ ?_
            rotate_left
            ·
             intro hJ7_9
             refine join_ (σ := Unit) 4 (Hl.ba 11 127) (fun s_ => [(42, .int .i64 t145)]) (fun s_ w' => (w'.cell? (ad144.add x7_2.length) = some (.string (rdOf ByteArray.empty y123 (x7_2.length : Int)))) ∧ (Kd.R Kd.string 9 w' w.heap.size (fun _ => True) (.slice (some ad144) y123.length co23) y123) ∧ (Kd.R (Kd.int .i64) 2 w' w.heap.size (fun _ => True) u5 x5_1) ∧ (Kd.S k60 60 w' w.heap.size (fun k_ => some k_ ≠ (u5 : Value).ownBlock) (.slice Ao22 x7_2.length co22) x7_2) ∧ (IsS81 w0 w' g s0_0 t146 t147) ∧ (KeepBut w w' g none) ∧ (Below w0.heap.size w0 w')) ?_ ?_
             rotate_left
             ·
              intro hJ6
              refine join_ (σ := Value) 4 (Hl.ba 11 191) (fun s_ => [(43, s_)]) (fun s_ w' => (w'.cell? (ad144.add x7_2.length) = some (.string (rdOf ByteArray.empty y123 (x7_2.length : Int)))) ∧ (Kd.R (Kd.int .i64) 2 w' w.heap.size (fun k_ => some k_ ≠ (u5 : Value).ownBlock) s_ y148) ∧ (Kd.R Kd.string 9 w' w.heap.size (fun _ => True) (.slice (some ad144) y123.length co23) y123) ∧ (Kd.R (Kd.int .i64) 2 w' w.heap.size (fun k_ => some k_ ≠ (s_ : Value).ownBlock) u5 x5_1) ∧ (Kd.S k60 60 w' w.heap.size (fun k_ => some k_ ≠ (s_ : Value).ownBlock ∧ some k_ ≠ (u5 : Value).ownBlock) (.slice Ao22 x7_2.length co22) x7_2) ∧ (IsS81 w0 w' g s0_0 x1001_2 x1002_2) ∧ (KeepBut w w' g none) ∧ (Below w0.heap.size w0 w')) ?_ ?_
              rotate_left
              ·
               intro hJ7
               refine join_ (σ := Nat) 4 (Hl.ba 11 575) (fun s_ => [(9, .pointer (some ⟨s_, 0, none⟩))]) (fun s_ w' => (w'.cell? (ad144.add x7_2.length) = some (.string (rdOf ByteArray.empty y123 (x7_2.length : Int)))) ∧ (Kd.R Kd.string 9 w' w.heap.size (fun _ => True) (.slice (some ad144) y123.length co23) y123) ∧ (Kd.R (Kd.int .i64) 2 w' w.heap.size (fun _ => True) u5 x5_1) ∧ (Kd.S k60 60 w' w.heap.size (fun k_ => some k_ ≠ (u5 : Value).ownBlock ∧ k_ ≠ s_) (.slice Ao22 x7_2.length co22) x7_2) ∧ (w'.heap[s_]? = some (.cells #[.string (⟨#[]⟩ : ByteArray), .int .i64 0, .slice none 0 0] 60 (0, 0))) ∧ (w.heap.size ≤ s_) ∧ (w0.heap.size ≤ s_) ∧ (g ≠ s_) ∧ (s_ ≠ g) ∧ (IsS81 w0 w' g s0_0 x1001_2 x1002_2) ∧ (KeepBut w w' g none) ∧ (Below w0.heap.size w0 w')) ?_ ?_
               rotate_left
               ·
                intro hJ9
                refine three_ (i := 6) (j := 7) (k := 9) (Ni := some 42) (Nj := some 43) (Nk := some 9) (Hl.ba 11 127) (Hl.ba 11 191) (Hl.ba 11 575) rfl rfl rfl rfl rfl rfl (three_of HT_.out (by kernel_rfl)) (by decide) (by decide) (by decide) (fun K hK => ?_) (fun K hK => ?_) (fun K hK => ?_)
                ·
                 skip
                 refine Hl.gs Tryz.func32 (by kernel_rfl) rfl #[.pointer (some ⟨g, 0, none⟩), .int .i64 300] (by rfl) rfl rfl ?_
                 with_reducible refine (spec_l00Src_pick.calls g s0_0 x1001_2 x1002_2 300 t145 t146 t147 w0 _ ?side1 ?side2 A20.out).mono ?_
                 (case side1 => exact iS_ HI0)
                 (case side2 => exact bI_ HB)
                 rintro e w24 ⟨rfl, hi, hb, hk⟩
                 have HS0_ := keep_cell hk (hHeld) (by first | (have q_ := Kd.own_blk (IsS81.own_ne HI0.out HO_4.out (by decide)); first | exact q_ | (rw [add_block]; exact q_) | (show (Addr.add _ _).block ≠ _; rw [add_block]; exact q_)) | (rw [add_block]; exact Kd.own_blk (IsS81.own_ne HI0.out HO_4.out (by decide))) | (show (Addr.add _ _).block ≠ _; rw [add_block]; exact Kd.own_blk (IsS81.own_ne HI0.out HO_4.out (by decide))) | exact Kd.own_blk (IsS81.own_ne HI0.out HO_4.out (by decide)))
                 refine ⟨_, rfl, ?_⟩
                 have n0_ := Hl.am (Kd.R_mono (Kd.R_keep (IsS81.apart (show IsS81 w0 _ g s0_0 x1001_2 x1002_2 from iS_ HI0) (Hl.rr HO_4) (by decide)) hk (fun _ h => h.2)) (fun _ h => h.1))
                 have n1_ := Hl.am (Kd.R_mono (Kd.R_keep (IsS81.apart (show IsS81 w0 _ g s0_0 x1001_2 x1002_2 from iS_ HI0) (Hl.rr HO_5) (by decide)) hk (fun _ h => h.2)) (fun _ h => h.1))
                 have n2_ := Hl.am (Kd.S_mono (Kd.S_keep (IsS81.apartS (show IsS81 w0 _ g s0_0 x1001_2 x1002_2 from iS_ HI0) (sr_ HO_7) (by decide)) hk (fun _ h => h.2)) (fun _ h => h.1))
                 have n3_ := Hl.am (KeepBut.trans (kS_ HK) hk (.inl rfl))
                 have n4_ := Hl.am (hb)
                 have n5_ := Hl.am (hi)
                 clear HO_4 HO_5 HO_7 HK HB HI0
                 have HO_4 := n0_
                 have HO_5 := n1_
                 have HO_7 := n2_
                 have HK := n3_
                 have HB := n4_
                 have HI0 := n5_
                 clear n0_ n1_ n2_ n3_ n4_ n5_
                 (try clear hb)
                 (try clear hb2)
                 (try clear hk)
                 (try clear hi)
                 refine hK.out _ _ (HS0_) (fun hHeld => ?_)
                 clear hK K
                 refine norm_ (a' := ?_) ?_ ?_
                 rotate_left
                 ·
                  show Act.put _ (some 42) _ = _
                  simp only [Act.put, Hl.s1, Hl.s2, Hl.s3, i64_w, i32_w]
                  rfl
                 exact norm_ (by first | (simp only [putAll, Act.put, List.setIfInBounds_toArray, List.set_cons_zero, List.set_cons_succ]; done) | (simp only [putAll, Act.put, List.setIfInBounds_toArray, List.set_cons_zero, List.set_cons_succ]; rfl)) (hJ6 () _ ⟨hHeld, (Hl.rr HO_4), (Hl.rr HO_5), (sr_ HO_7), (iS_ HI0), (kS_ HK), (bI_ HB)⟩)
                ·
                 skip
                 refine Kd.R_lit_step (Kd.int .i64) _ 2 ?hg (N := 43) ?hd (xs := ([] : List Int)) (inner := []) (ok := fun _ => True) (okp := fun _ => True) ?hr ?hp (fun _ hk => hk) trivial (Below.refl _ _) (Nat.le_refl _) (by simp) ?_; (case hd => rfl); (case hg => rfl); (case hr => first | (go_simp; done) | (go_simp; rfl)); (case hp => exact (Reps.none _ _))
                 intro v149 w24 ho25 hb hg_ hnew_
                 have HS0_ := (hb.cell (World.block_lt_of_cell? _ _ (hHeld))).trans (hHeld)
                 clear hg_ hnew_
                 (first | rw [← Ny148.out] at ho25 | (simp only [Int.reduceToNat] at ho25; rw [← Ny148.out] at ho25))
                 have n0_ := Hl.am (Kd.R_below (Hl.rr HO_4) hb)
                 have n1_ := Hl.am (Kd.R_elder' (Hl.rr HO_5) (Kd.R_base ho25) hb)
                 have n2_ := Hl.am (Kd.S_elder' (sr_ HO_7) (Kd.R_base ho25) hb)
                 have n3_ := Hl.am (Kd.R_lower (Kd.R_new' ho25 (Kd.R_lt (Hl.rr HO_5))) (keep_size (w := w) (g := g) (row := none) (kS_ HK)))
                 have n4_ := Hl.am (IsS81.below (iS_ HI0) hb)
                 have n5_ := Hl.am (KeepBut.trans (kS_ HK) (KeepBut.of_below hb g none) (.inl rfl))
                 have n6_ := Hl.am (below_step (bI_ HB) hb)
                 clear HO_4 HO_5 HO_7 HI0 HK HB
                 have HO_4 := n0_
                 have HO_5 := n1_
                 have HO_7 := n2_
                 have HO150 := n3_
                 have HI0 := n4_
                 have HK := n5_
                 have HB := n6_
                 clear n0_ n1_ n2_ n3_ n4_ n5_ n6_
                 clear hb ho25
                 refine hK.out _ _ (HS0_) (fun hHeld => ?_)
                 clear hK K
                 refine norm_ (a' := ?_) ?_ ?_
                 rotate_left
                 ·
                  show Act.put _ (some 43) _ = _
                  simp only [Act.put, Hl.s1, Hl.s2, Hl.s3, i64_w, i32_w]
                  rfl
                 exact norm_ (by first | (simp only [putAll, Act.put, List.setIfInBounds_toArray, List.set_cons_zero, List.set_cons_succ]; done) | (simp only [putAll, Act.put, List.setIfInBounds_toArray, List.set_cons_zero, List.set_cons_succ]; rfl)) (hJ7 (v149) _ ⟨hHeld, (rm_ HO150 (fun _ hk => hk.2)), (Hl.rr HO_4), (rm_ HO_5 (fun _ hk => hk.2)), (sm_ HO_7 (fun _ hk => ⟨hk.2, hk.1⟩)), (iS_ HI0), (kS_ HK), (bI_ HB)⟩)
                ·
                 skip
                 refine box_step ?hg (N := 9) ?hd (cs := #[.string (⟨#[]⟩ : ByteArray), .int .i64 0, .slice none 0 0]) (t := 60) ?hr ?_; (case hd => rfl); (case hg => rfl); (case hr => first | (go_simp; done) | (go_simp; rfl))
                 intro gb151 hg w24 hbox hb
                 have HS0_ := (hb.cell (World.block_lt_of_cell? _ _ (hHeld))).trans (hHeld)
                 have n0_ := Hl.am (Kd.R_below (Hl.rr HO_4) hb)
                 have n1_ := Hl.am (Kd.R_below (Hl.rr HO_5) hb)
                 have n2_ := Hl.am (Kd.S_below (Kd.S_elderB (sr_ HO_7) gb151 (Nat.le_of_eq hg.symm)) hb)
                 have n3_ := Hl.am (IsS81.below (iS_ HI0) hb)
                 have n4_ := Hl.am (KeepBut.trans (kS_ HK) (KeepBut.of_below hb g none) (.inl rfl))
                 have n5_ := Hl.am (below_step (bI_ HB) hb)
                 have n6_ := Hl.am (hbox)
                 have n7_ := Hl.am ((by rw [hg]; exact (keep_size (w := w) (g := g) (row := none) (kS_ HK)) : w.heap.size ≤ gb151))
                 have n8_ := Hl.am ((Nat.le_trans HW0.out (by rw [hg]; exact (keep_size (w := w) (g := g) (row := none) (kS_ HK)) : w.heap.size ≤ gb151) : w0.heap.size ≤ gb151))
                 have n9_ := Hl.am ((by rw [hg]; exact Nat.ne_of_lt (IsS81.lt (show IsS81 w0 _ g s0_0 x1001_2 x1002_2 from iS_ HI0)) : g ≠ gb151))
                 have n10_ := Hl.am ((by rw [hg]; exact Nat.ne_of_gt (IsS81.lt (show IsS81 w0 _ g s0_0 x1001_2 x1002_2 from iS_ HI0)) : gb151 ≠ g))
                 clear HO_4 HO_5 HO_7 HI0 HK HB
                 have HO_4 := n0_
                 have HO_5 := n1_
                 have HO_7 := n2_
                 have HI0 := n3_
                 have HK := n4_
                 have HB := n5_
                 have BK151 := n6_
                 have GW151 := n7_
                 have GE151 := n8_
                 have NB0_151 := n9_
                 have NB151_0 := n10_
                 clear n0_ n1_ n2_ n3_ n4_ n5_ n6_ n7_ n8_ n9_ n10_
                 clear hb hbox hg
                 refine hK.out _ _ (HS0_) (fun hHeld => ?_)
                 clear hK K
                 refine norm_ (a' := ?_) ?_ ?_
                 rotate_left
                 ·
                  show Act.put _ (some 9) _ = _
                  simp only [Act.put, Hl.s1, Hl.s2, Hl.s3, i64_w, i32_w]
                  rfl
                 exact norm_ (by first | (simp only [putAll, Act.put, List.setIfInBounds_toArray, List.set_cons_zero, List.set_cons_succ]; done) | (simp only [putAll, Act.put, List.setIfInBounds_toArray, List.set_cons_zero, List.set_cons_succ]; rfl)) (hJ9 (gb151) _ ⟨hHeld, (Hl.rr HO_4), (Hl.rr HO_5), (sr_ HO_7), (Hl.kb BK151), GW151.out, GE151.out, NB0_151.out, NB151_0.out, (iS_ HI0), (kS_ HK), (bI_ HB)⟩)
               ·
                skip
                rintro gb151 w25 ⟨hS_, h0_, h1_, h2_, h3_, h4_, h5_, h6_, h7_, h8_, h9_, h10_⟩
                have n0_ : Aside0 (Kd.R Kd.string 9 w25 w.heap.size (fun _ => True) (.slice (some ad144) y123.length co23) y123) := ⟨h0_⟩
                have n1_ : Aside0 (Kd.R (Kd.int .i64) 2 w25 w.heap.size (fun _ => True) u5 x5_1) := ⟨h1_⟩
                have n2_ : Aside0 (Kd.S k60 60 w25 w.heap.size (fun k_ => some k_ ≠ (u5 : Value).ownBlock ∧ k_ ≠ gb151) (.slice Ao22 x7_2.length co22) x7_2) := ⟨h2_⟩
                have n3_ : Aside0 (w25.heap[gb151]? = some (.cells #[.string (⟨#[]⟩ : ByteArray), .int .i64 0, .slice none 0 0] 60 (0, 0))) := ⟨h3_⟩
                have n4_ : Aside0 (w.heap.size ≤ gb151) := ⟨h4_⟩
                have n5_ : Aside0 (w0.heap.size ≤ gb151) := ⟨h5_⟩
                have n6_ : Aside0 (g ≠ gb151) := ⟨h6_⟩
                have n7_ : Aside0 (gb151 ≠ g) := ⟨h7_⟩
                have n8_ : Aside0 (IsS81 w0 w25 g s0_0 x1001_2 x1002_2) := ⟨h8_⟩
                have n9_ : Aside0 (KeepBut w w25 g none) := ⟨h9_⟩
                have n10_ : Aside0 (Below w0.heap.size w0 w25) := ⟨h10_⟩
                clear HO_4 HO_5 HO_7 HI0 HK HB
                clear h0_ h1_ h2_ h3_ h4_ h5_ h6_ h7_ h8_ h9_ h10_
                have HO_4 := n0_
                have HO_5 := n1_
                have HO_7 := n2_
                have BK151 := n3_
                have GW151 := n4_
                have GE151 := n5_
                have NB0_151 := n6_
                have NB151_0 := n7_
                have HI0 := n8_
                have HK := n9_
                have HB := n10_
                clear n0_ n1_ n2_ n3_ n4_ n5_ n6_ n7_ n8_ n9_ n10_
                have hHeld : w25.cell? (ad144.add x7_2.length) = some (.string (rdOf ByteArray.empty y123 (x7_2.length : Int))) := hS_
                refine norm_ (a' := ?_) ?_ ?_
                rotate_left
                ·
                 simp only [putAll, Act.put, List.setIfInBounds_toArray, List.set_cons_zero, List.set_cons_succ]
                 rfl
                refine two_ (i := 6) (j := 7) (Ni := some 42) (Nj := some 43) (Hl.ba 11 639) (Hl.ba 11 703) rfl rfl rfl rfl (two_of HT_.out (by kernel_rfl)) (by decide) (by decide) (fun K hK => ?_) (fun K hK => ?_)
                ·
                 skip
                 refine Hl.gs Tryz.func32 (by kernel_rfl) rfl #[.pointer (some ⟨g, 0, none⟩), .int .i64 300] (by rfl) rfl rfl ?_
                 with_reducible refine (spec_l00Src_pick.calls g s0_0 x1001_2 x1002_2 300 t145 t146 t147 w0 _ ?side1 ?side2 A20.out).mono ?_
                 (case side1 => exact iS_ HI0)
                 (case side2 => exact bI_ HB)
                 rintro e w26 ⟨rfl, hi, hb, hk⟩
                 have HS0_ := keep_cell hk (hHeld) (by first | (have q_ := Kd.own_blk (IsS81.own_ne HI0.out HO_4.out (by decide)); first | exact q_ | (rw [add_block]; exact q_) | (show (Addr.add _ _).block ≠ _; rw [add_block]; exact q_)) | (rw [add_block]; exact Kd.own_blk (IsS81.own_ne HI0.out HO_4.out (by decide))) | (show (Addr.add _ _).block ≠ _; rw [add_block]; exact Kd.own_blk (IsS81.own_ne HI0.out HO_4.out (by decide))) | exact Kd.own_blk (IsS81.own_ne HI0.out HO_4.out (by decide)))
                 refine ⟨_, rfl, ?_⟩
                 have n0_ := Hl.am (Kd.R_mono (Kd.R_keep (IsS81.apart (show IsS81 w0 _ g s0_0 x1001_2 x1002_2 from iS_ HI0) (Hl.rr HO_4) (by decide)) hk (fun _ h => h.2)) (fun _ h => h.1))
                 have n1_ := Hl.am (Kd.R_mono (Kd.R_keep (IsS81.apart (show IsS81 w0 _ g s0_0 x1001_2 x1002_2 from iS_ HI0) (Hl.rr HO_5) (by decide)) hk (fun _ h => h.2)) (fun _ h => h.1))
                 have n2_ := Hl.am (Kd.S_mono (Kd.S_keep (IsS81.apartS (show IsS81 w0 _ g s0_0 x1001_2 x1002_2 from iS_ HI0) (sr_ HO_7) (by decide)) hk (fun _ h => h.2)) (fun _ h => h.1))
                 have n3_ := Hl.am (KeepBut.blk hk (g' := gb151) (o := .cells #[.string (⟨#[]⟩ : ByteArray), .int .i64 0, .slice none 0 0] 60 (0, 0)) (Hl.kb BK151) NB151_0.out (by simp))
                 have n4_ := Hl.am (KeepBut.trans (kS_ HK) hk (.inl rfl))
                 have n5_ := Hl.am (hb)
                 have n6_ := Hl.am (hi)
                 clear HO_4 HO_5 HO_7 BK151 HK HB HI0
                 have HO_4 := n0_
                 have HO_5 := n1_
                 have HO_7 := n2_
                 have BK151 := n3_
                 have HK := n4_
                 have HB := n5_
                 have HI0 := n6_
                 clear n0_ n1_ n2_ n3_ n4_ n5_ n6_
                 (try clear hb)
                 (try clear hb2)
                 (try clear hk)
                 (try clear hi)
                 refine hK.out _ _ (HS0_) (fun hHeld => ?_)
                 clear hK K
                 refine norm_ (a' := ?_) ?_ ?_
                 rotate_left
                 ·
                  show Act.put _ (some 42) _ = _
                  simp only [Act.put, Hl.s1, Hl.s2, Hl.s3, i64_w, i32_w]
                  rfl
                 exact norm_ (by first | (simp only [putAll, Act.put, List.setIfInBounds_toArray, List.set_cons_zero, List.set_cons_succ]; done) | (simp only [putAll, Act.put, List.setIfInBounds_toArray, List.set_cons_zero, List.set_cons_succ]; rfl)) (hJ6_9 (gb151) _ ⟨hHeld, (Hl.rr HO_4), (Hl.rr HO_5), (sr_ HO_7), (Hl.kb BK151), GW151.out, GE151.out, NB0_151.out, NB151_0.out, (iS_ HI0), (kS_ HK), (bI_ HB)⟩)
                ·
                 skip
                 refine Kd.R_lit_step (Kd.int .i64) _ 2 ?hg (N := 43) ?hd (xs := ([] : List Int)) (inner := []) (ok := fun _ => True) (okp := fun _ => True) ?hr ?hp (fun _ hk => hk) trivial (Below.refl _ _) (Nat.le_refl _) (by simp) ?_; (case hd => rfl); (case hg => rfl); (case hr => first | (go_simp; done) | (go_simp; rfl)); (case hp => exact (Reps.none _ _))
                 intro v149 w26 ho27 hb hg_ hnew_
                 have HS0_ := (hb.cell (World.block_lt_of_cell? _ _ (hHeld))).trans (hHeld)
                 clear hg_ hnew_
                 (first | rw [← Ny148.out] at ho27 | (simp only [Int.reduceToNat] at ho27; rw [← Ny148.out] at ho27))
                 have n0_ := Hl.am (Kd.R_below (Hl.rr HO_4) hb)
                 have n1_ := Hl.am (Kd.R_elder' (Hl.rr HO_5) (Kd.R_base ho27) hb)
                 have n2_ := Hl.am (Kd.S_elder' (sr_ HO_7) (Kd.R_base ho27) hb)
                 have n3_ := Hl.am (Kd.R_lower (Kd.R_new' ho27 (Kd.R_lt (Hl.rr HO_5))) (keep_size (w := w) (g := g) (row := none) (kS_ HK)))
                 have n4_ := Hl.am (IsS81.below (iS_ HI0) hb)
                 have n5_ := Hl.am (blk_below (g := gb151) (o := .cells #[.string (⟨#[]⟩ : ByteArray), .int .i64 0, .slice none 0 0] 60 (0, 0)) (Hl.kb BK151) hb)
                 have n6_ := Hl.am (KeepBut.trans (kS_ HK) (KeepBut.of_below hb g none) (.inl rfl))
                 have n7_ := Hl.am (below_step (bI_ HB) hb)
                 clear HO_4 HO_5 HO_7 HI0 BK151 HK HB
                 have HO_4 := n0_
                 have HO_5 := n1_
                 have HO_7 := n2_
                 have HO150 := n3_
                 have HI0 := n4_
                 have BK151 := n5_
                 have HK := n6_
                 have HB := n7_
                 clear n0_ n1_ n2_ n3_ n4_ n5_ n6_ n7_
                 clear hb ho27
                 refine hK.out _ _ (HS0_) (fun hHeld => ?_)
                 clear hK K
                 refine norm_ (a' := ?_) ?_ ?_
                 rotate_left
                 ·
                  show Act.put _ (some 43) _ = _
                  simp only [Act.put, Hl.s1, Hl.s2, Hl.s3, i64_w, i32_w]
                  rfl
                 exact norm_ (by first | (simp only [putAll, Act.put, List.setIfInBounds_toArray, List.set_cons_zero, List.set_cons_succ]; done) | (simp only [putAll, Act.put, List.setIfInBounds_toArray, List.set_cons_zero, List.set_cons_succ]; rfl)) (hJ7_9 (v149, gb151) _ ⟨hHeld, (rm_ HO150 (fun _ hk => hk.2)), (Hl.rr HO_4), (rm_ HO_5 (fun _ hk => hk.2)), (sm_ HO_7 (fun _ hk => ⟨hk.2, ⟨hk.1.1, hk.1.2⟩⟩)), (Hl.kb BK151), GW151.out, GE151.out, NB0_151.out, NB151_0.out, (iS_ HI0), (kS_ HK), (bI_ HB)⟩)
              ·
               skip
               rintro v149 w26 ⟨hS_, h0_, h1_, h2_, h3_, h4_, h5_, h6_⟩
               have n0_ : Aside0 (Kd.R (Kd.int .i64) 2 w26 w.heap.size (fun k_ => some k_ ≠ (u5 : Value).ownBlock) v149 y148) := ⟨h0_⟩
               have n1_ : Aside0 (Kd.R Kd.string 9 w26 w.heap.size (fun _ => True) (.slice (some ad144) y123.length co23) y123) := ⟨h1_⟩
               have n2_ : Aside0 (Kd.R (Kd.int .i64) 2 w26 w.heap.size (fun k_ => some k_ ≠ (v149 : Value).ownBlock) u5 x5_1) := ⟨h2_⟩
               have n3_ : Aside0 (Kd.S k60 60 w26 w.heap.size (fun k_ => some k_ ≠ (v149 : Value).ownBlock ∧ some k_ ≠ (u5 : Value).ownBlock) (.slice Ao22 x7_2.length co22) x7_2) := ⟨h3_⟩
               have n4_ : Aside0 (IsS81 w0 w26 g s0_0 x1001_2 x1002_2) := ⟨h4_⟩
               have n5_ : Aside0 (KeepBut w w26 g none) := ⟨h5_⟩
               have n6_ : Aside0 (Below w0.heap.size w0 w26) := ⟨h6_⟩
               clear HO_4 HO_5 HO_7 HI0 HK HB
               clear h0_ h1_ h2_ h3_ h4_ h5_ h6_
               have HO150 := n0_
               have HO_4 := n1_
               have HO_5 := n2_
               have HO_7 := n3_
               have HI0 := n4_
               have HK := n5_
               have HB := n6_
               clear n0_ n1_ n2_ n3_ n4_ n5_ n6_
               have hHeld : w26.cell? (ad144.add x7_2.length) = some (.string (rdOf ByteArray.empty y123 (x7_2.length : Int))) := hS_
               refine norm_ (a' := ?_) ?_ ?_
               rotate_left
               ·
                simp only [putAll, Act.put, List.setIfInBounds_toArray, List.set_cons_zero, List.set_cons_succ]
                rfl
               refine two_ (i := 6) (j := 9) (Ni := some 42) (Nj := some 9) (Hl.ba 11 255) (Hl.ba 11 703) rfl rfl rfl rfl (two_of HT_.out (by kernel_rfl)) (by decide) (by decide) (fun K hK => ?_) (fun K hK => ?_)
               ·
                skip
                refine Hl.gs Tryz.func32 (by kernel_rfl) rfl #[.pointer (some ⟨g, 0, none⟩), .int .i64 300] (by rfl) rfl rfl ?_
                with_reducible refine (spec_l00Src_pick.calls g s0_0 x1001_2 x1002_2 300 t145 t146 t147 w0 _ ?side1 ?side2 A20.out).mono ?_
                (case side1 => exact iS_ HI0)
                (case side2 => exact bI_ HB)
                rintro e w27 ⟨rfl, hi, hb, hk⟩
                have HS0_ := keep_cell hk (hHeld) (by first | (have q_ := Kd.own_blk (IsS81.own_ne HI0.out HO_4.out (by decide)); first | exact q_ | (rw [add_block]; exact q_) | (show (Addr.add _ _).block ≠ _; rw [add_block]; exact q_)) | (rw [add_block]; exact Kd.own_blk (IsS81.own_ne HI0.out HO_4.out (by decide))) | (show (Addr.add _ _).block ≠ _; rw [add_block]; exact Kd.own_blk (IsS81.own_ne HI0.out HO_4.out (by decide))) | exact Kd.own_blk (IsS81.own_ne HI0.out HO_4.out (by decide)))
                refine ⟨_, rfl, ?_⟩
                have n0_ := Hl.am (Kd.R_mono (Kd.R_keep (IsS81.apart (show IsS81 w0 _ g s0_0 x1001_2 x1002_2 from iS_ HI0) (Hl.rr HO_4) (by decide)) hk (fun _ h => h.2)) (fun _ h => h.1))
                have n1_ := Hl.am (Kd.R_mono (Kd.R_keep (IsS81.apart (show IsS81 w0 _ g s0_0 x1001_2 x1002_2 from iS_ HI0) (Hl.rr HO_5) (by decide)) hk (fun _ h => h.2)) (fun _ h => h.1))
                have n2_ := Hl.am (Kd.S_mono (Kd.S_keep (IsS81.apartS (show IsS81 w0 _ g s0_0 x1001_2 x1002_2 from iS_ HI0) (sr_ HO_7) (by decide)) hk (fun _ h => h.2)) (fun _ h => h.1))
                have n3_ := Hl.am (Kd.R_mono (Kd.R_keep (IsS81.apart (show IsS81 w0 _ g s0_0 x1001_2 x1002_2 from iS_ HI0) (Hl.rr HO150) (by decide)) hk (fun _ h => h.2)) (fun _ h => h.1))
                have n4_ := Hl.am (KeepBut.trans (kS_ HK) hk (.inl rfl))
                have n5_ := Hl.am (hb)
                have n6_ := Hl.am (hi)
                clear HO_4 HO_5 HO_7 HO150 HK HB HI0
                have HO_4 := n0_
                have HO_5 := n1_
                have HO_7 := n2_
                have HO150 := n3_
                have HK := n4_
                have HB := n5_
                have HI0 := n6_
                clear n0_ n1_ n2_ n3_ n4_ n5_ n6_
                (try clear hb)
                (try clear hb2)
                (try clear hk)
                (try clear hi)
                obtain ⟨Ao28, co28, eo28⟩ := Kd.R_slice HO150.out
                (first | subst eo28 | (injection eo28 with f1_ f2_ f3_; have f4_ := f1_.symm; have f5_ := f3_.symm; clear f1_ f2_ f3_; subst f4_; subst f5_))
                refine hK.out _ _ (HS0_) (fun hHeld => ?_)
                clear hK K
                refine norm_ (a' := ?_) ?_ ?_
                rotate_left
                ·
                 show Act.put _ (some 42) _ = _
                 simp only [Act.put, Hl.s1, Hl.s2, Hl.s3, i64_w, i32_w]
                 rfl
                refine Hl.pI 8 44 11 511 HT_ rfl rfl ?_
                exact norm_ (by first | (simp only [putAll, Act.put, List.setIfInBounds_toArray, List.set_cons_zero, List.set_cons_succ]; done) | (simp only [putAll, Act.put, List.setIfInBounds_toArray, List.set_cons_zero, List.set_cons_succ]; rfl)) (hJ6_7 (.slice Ao28 y148.length co28) _ ⟨hHeld, (Hl.rr HO150), (Hl.rr HO_4), (Hl.rr HO_5), (sr_ HO_7), (iS_ HI0), (kS_ HK), (bI_ HB)⟩)
               ·
                skip
                refine box_step ?hg (N := 9) ?hd (cs := #[.string (⟨#[]⟩ : ByteArray), .int .i64 0, .slice none 0 0]) (t := 60) ?hr ?_; (case hd => rfl); (case hg => rfl); (case hr => first | (go_simp; done) | (go_simp; rfl))
                intro gb151 hg w27 hbox hb
                have HS0_ := (hb.cell (World.block_lt_of_cell? _ _ (hHeld))).trans (hHeld)
                have n0_ := Hl.am (Kd.R_below (Hl.rr HO_4) hb)
                have n1_ := Hl.am (Kd.R_below (Hl.rr HO_5) hb)
                have n2_ := Hl.am (Kd.S_below (Kd.S_elderB (sr_ HO_7) gb151 (Nat.le_of_eq hg.symm)) hb)
                have n3_ := Hl.am (Kd.R_below (Hl.rr HO150) hb)
                have n4_ := Hl.am (IsS81.below (iS_ HI0) hb)
                have n5_ := Hl.am (KeepBut.trans (kS_ HK) (KeepBut.of_below hb g none) (.inl rfl))
                have n6_ := Hl.am (below_step (bI_ HB) hb)
                have n7_ := Hl.am (hbox)
                have n8_ := Hl.am ((by rw [hg]; exact (keep_size (w := w) (g := g) (row := none) (kS_ HK)) : w.heap.size ≤ gb151))
                have n9_ := Hl.am ((Nat.le_trans HW0.out (by rw [hg]; exact (keep_size (w := w) (g := g) (row := none) (kS_ HK)) : w.heap.size ≤ gb151) : w0.heap.size ≤ gb151))
                have n10_ := Hl.am ((by rw [hg]; exact Nat.ne_of_lt (IsS81.lt (show IsS81 w0 _ g s0_0 x1001_2 x1002_2 from iS_ HI0)) : g ≠ gb151))
                have n11_ := Hl.am ((by rw [hg]; exact Nat.ne_of_gt (IsS81.lt (show IsS81 w0 _ g s0_0 x1001_2 x1002_2 from iS_ HI0)) : gb151 ≠ g))
                clear HO_4 HO_5 HO_7 HO150 HI0 HK HB
                have HO_4 := n0_
                have HO_5 := n1_
                have HO_7 := n2_
                have HO150 := n3_
                have HI0 := n4_
                have HK := n5_
                have HB := n6_
                have BK151 := n7_
                have GW151 := n8_
                have GE151 := n9_
                have NB0_151 := n10_
                have NB151_0 := n11_
                clear n0_ n1_ n2_ n3_ n4_ n5_ n6_ n7_ n8_ n9_ n10_ n11_
                clear hb hbox hg
                refine hK.out _ _ (HS0_) (fun hHeld => ?_)
                clear hK K
                refine norm_ (a' := ?_) ?_ ?_
                rotate_left
                ·
                 show Act.put _ (some 9) _ = _
                 simp only [Act.put, Hl.s1, Hl.s2, Hl.s3, i64_w, i32_w]
                 rfl
                exact norm_ (by first | (simp only [putAll, Act.put, List.setIfInBounds_toArray, List.set_cons_zero, List.set_cons_succ]; done) | (simp only [putAll, Act.put, List.setIfInBounds_toArray, List.set_cons_zero, List.set_cons_succ]; rfl)) (hJ7_9 (v149, gb151) _ ⟨hHeld, (Hl.rr HO150), (Hl.rr HO_4), (Hl.rr HO_5), (sm_ HO_7 (fun _ hk => ⟨hk.1.1, ⟨hk.1.2, hk.2⟩⟩)), (Hl.kb BK151), GW151.out, GE151.out, NB0_151.out, NB151_0.out, (iS_ HI0), (kS_ HK), (bI_ HB)⟩)
             ·
              skip
              rintro _ w25 ⟨hS_, h0_, h1_, h2_, h3_, h4_, h5_⟩
              have n0_ : Aside0 (Kd.R Kd.string 9 w25 w.heap.size (fun _ => True) (.slice (some ad144) y123.length co23) y123) := ⟨h0_⟩
              have n1_ : Aside0 (Kd.R (Kd.int .i64) 2 w25 w.heap.size (fun _ => True) u5 x5_1) := ⟨h1_⟩
              have n2_ : Aside0 (Kd.S k60 60 w25 w.heap.size (fun k_ => some k_ ≠ (u5 : Value).ownBlock) (.slice Ao22 x7_2.length co22) x7_2) := ⟨h2_⟩
              have n3_ : Aside0 (IsS81 w0 w25 g s0_0 t146 t147) := ⟨h3_⟩
              have n4_ : Aside0 (KeepBut w w25 g none) := ⟨h4_⟩
              have n5_ : Aside0 (Below w0.heap.size w0 w25) := ⟨h5_⟩
              clear HO_4 HO_5 HO_7 HI0 HK HB
              clear h0_ h1_ h2_ h3_ h4_ h5_
              have HO_4 := n0_
              have HO_5 := n1_
              have HO_7 := n2_
              have HI0 := n3_
              have HK := n4_
              have HB := n5_
              clear n0_ n1_ n2_ n3_ n4_ n5_
              have hHeld : w25.cell? (ad144.add x7_2.length) = some (.string (rdOf ByteArray.empty y123 (x7_2.length : Int))) := hS_
              refine norm_ (a' := ?_) ?_ ?_
              rotate_left
              ·
               simp only [putAll, Act.put, List.setIfInBounds_toArray, List.set_cons_zero, List.set_cons_succ]
               rfl
              refine two_ (i := 7) (j := 9) (Ni := some 43) (Nj := some 9) (Hl.ba 11 255) (Hl.ba 11 639) rfl rfl rfl rfl (two_of HT_.out (by kernel_rfl)) (by decide) (by decide) (fun K hK => ?_) (fun K hK => ?_)
              ·
               skip
               refine Kd.R_lit_step (Kd.int .i64) _ 2 ?hg (N := 43) ?hd (xs := ([] : List Int)) (inner := []) (ok := fun _ => True) (okp := fun _ => True) ?hr ?hp (fun _ hk => hk) trivial (Below.refl _ _) (Nat.le_refl _) (by simp) ?_; (case hd => rfl); (case hg => rfl); (case hr => first | (go_simp; done) | (go_simp; rfl)); (case hp => exact (Reps.none _ _))
               intro v149 w26 ho27 hb hg_ hnew_
               have HS0_ := (hb.cell (World.block_lt_of_cell? _ _ (hHeld))).trans (hHeld)
               clear hg_ hnew_
               (first | rw [← Ny148.out] at ho27 | (simp only [Int.reduceToNat] at ho27; rw [← Ny148.out] at ho27))
               have n0_ := Hl.am (Kd.R_below (Hl.rr HO_4) hb)
               have n1_ := Hl.am (Kd.R_elder' (Hl.rr HO_5) (Kd.R_base ho27) hb)
               have n2_ := Hl.am (Kd.S_elder' (sr_ HO_7) (Kd.R_base ho27) hb)
               have n3_ := Hl.am (Kd.R_lower (Kd.R_new' ho27 (Kd.R_lt (Hl.rr HO_5))) (keep_size (w := w) (g := g) (row := none) (kS_ HK)))
               have n4_ := Hl.am (IsS81.below (iS_ HI0) hb)
               have n5_ := Hl.am (KeepBut.trans (kS_ HK) (KeepBut.of_below hb g none) (.inl rfl))
               have n6_ := Hl.am (below_step (bI_ HB) hb)
               clear HO_4 HO_5 HO_7 HI0 HK HB
               have HO_4 := n0_
               have HO_5 := n1_
               have HO_7 := n2_
               have HO150 := n3_
               have HI0 := n4_
               have HK := n5_
               have HB := n6_
               clear n0_ n1_ n2_ n3_ n4_ n5_ n6_
               clear hb ho27
               obtain ⟨Ao28, co28, eo28⟩ := Kd.R_slice HO150.out
               (first | subst eo28 | (injection eo28 with f1_ f2_ f3_; have f4_ := f1_.symm; have f5_ := f3_.symm; clear f1_ f2_ f3_; subst f4_; subst f5_))
               refine hK.out _ _ (HS0_) (fun hHeld => ?_)
               clear hK K
               refine norm_ (a' := ?_) ?_ ?_
               rotate_left
               ·
                show Act.put _ (some 43) _ = _
                simp only [Act.put, Hl.s1, Hl.s2, Hl.s3, i64_w, i32_w]
                rfl
               refine Hl.pI 8 44 11 511 HT_ rfl rfl ?_
               exact norm_ (by first | (simp only [putAll, Act.put, List.setIfInBounds_toArray, List.set_cons_zero, List.set_cons_succ]; done) | (simp only [putAll, Act.put, List.setIfInBounds_toArray, List.set_cons_zero, List.set_cons_succ]; rfl)) (hJ6_7 (.slice Ao28 y148.length co28) _ ⟨hHeld, (rm_ HO150 (fun _ hk => hk.2)), (Hl.rr HO_4), (rm_ HO_5 (fun _ hk => hk.2)), (sm_ HO_7 (fun _ hk => ⟨hk.2, hk.1⟩)), (iS_ HI0), (kS_ HK), (bI_ HB)⟩)
              ·
               skip
               refine box_step ?hg (N := 9) ?hd (cs := #[.string (⟨#[]⟩ : ByteArray), .int .i64 0, .slice none 0 0]) (t := 60) ?hr ?_; (case hd => rfl); (case hg => rfl); (case hr => first | (go_simp; done) | (go_simp; rfl))
               intro gb151 hg w26 hbox hb
               have HS0_ := (hb.cell (World.block_lt_of_cell? _ _ (hHeld))).trans (hHeld)
               have n0_ := Hl.am (Kd.R_below (Hl.rr HO_4) hb)
               have n1_ := Hl.am (Kd.R_below (Hl.rr HO_5) hb)
               have n2_ := Hl.am (Kd.S_below (Kd.S_elderB (sr_ HO_7) gb151 (Nat.le_of_eq hg.symm)) hb)
               have n3_ := Hl.am (IsS81.below (iS_ HI0) hb)
               have n4_ := Hl.am (KeepBut.trans (kS_ HK) (KeepBut.of_below hb g none) (.inl rfl))
               have n5_ := Hl.am (below_step (bI_ HB) hb)
               have n6_ := Hl.am (hbox)
               have n7_ := Hl.am ((by rw [hg]; exact (keep_size (w := w) (g := g) (row := none) (kS_ HK)) : w.heap.size ≤ gb151))
               have n8_ := Hl.am ((Nat.le_trans HW0.out (by rw [hg]; exact (keep_size (w := w) (g := g) (row := none) (kS_ HK)) : w.heap.size ≤ gb151) : w0.heap.size ≤ gb151))
               have n9_ := Hl.am ((by rw [hg]; exact Nat.ne_of_lt (IsS81.lt (show IsS81 w0 _ g s0_0 t146 t147 from iS_ HI0)) : g ≠ gb151))
               have n10_ := Hl.am ((by rw [hg]; exact Nat.ne_of_gt (IsS81.lt (show IsS81 w0 _ g s0_0 t146 t147 from iS_ HI0)) : gb151 ≠ g))
               clear HO_4 HO_5 HO_7 HI0 HK HB
               have HO_4 := n0_
               have HO_5 := n1_
               have HO_7 := n2_
               have HI0 := n3_
               have HK := n4_
               have HB := n5_
               have BK151 := n6_
               have GW151 := n7_
               have GE151 := n8_
               have NB0_151 := n9_
               have NB151_0 := n10_
               clear n0_ n1_ n2_ n3_ n4_ n5_ n6_ n7_ n8_ n9_ n10_
               clear hb hbox hg
               refine hK.out _ _ (HS0_) (fun hHeld => ?_)
               clear hK K
               refine norm_ (a' := ?_) ?_ ?_
               rotate_left
               ·
                show Act.put _ (some 9) _ = _
                simp only [Act.put, Hl.s1, Hl.s2, Hl.s3, i64_w, i32_w]
                rfl
               exact norm_ (by first | (simp only [putAll, Act.put, List.setIfInBounds_toArray, List.set_cons_zero, List.set_cons_succ]; done) | (simp only [putAll, Act.put, List.setIfInBounds_toArray, List.set_cons_zero, List.set_cons_succ]; rfl)) (hJ6_9 (gb151) _ ⟨hHeld, (Hl.rr HO_4), (Hl.rr HO_5), (sr_ HO_7), (Hl.kb BK151), GW151.out, GE151.out, NB0_151.out, NB151_0.out, (iS_ HI0), (kS_ HK), (bI_ HB)⟩)
            ·
             skip
             rintro ⟨v149, gb151⟩ w27 ⟨hS_, h0_, h1_, h2_, h3_, h4_, h5_, h6_, h7_, h8_, h9_, h10_, h11_⟩
             have n0_ : Aside0 (Kd.R (Kd.int .i64) 2 w27 w.heap.size (fun k_ => some k_ ≠ (u5 : Value).ownBlock) v149 y148) := ⟨h0_⟩
             have n1_ : Aside0 (Kd.R Kd.string 9 w27 w.heap.size (fun _ => True) (.slice (some ad144) y123.length co23) y123) := ⟨h1_⟩
             have n2_ : Aside0 (Kd.R (Kd.int .i64) 2 w27 w.heap.size (fun k_ => some k_ ≠ (v149 : Value).ownBlock) u5 x5_1) := ⟨h2_⟩
             have n3_ : Aside0 (Kd.S k60 60 w27 w.heap.size (fun k_ => some k_ ≠ (v149 : Value).ownBlock ∧ some k_ ≠ (u5 : Value).ownBlock ∧ k_ ≠ gb151) (.slice Ao22 x7_2.length co22) x7_2) := ⟨h3_⟩
             have n4_ : Aside0 (w27.heap[gb151]? = some (.cells #[.string (⟨#[]⟩ : ByteArray), .int .i64 0, .slice none 0 0] 60 (0, 0))) := ⟨h4_⟩
             have n5_ : Aside0 (w.heap.size ≤ gb151) := ⟨h5_⟩
             have n6_ : Aside0 (w0.heap.size ≤ gb151) := ⟨h6_⟩
             have n7_ : Aside0 (g ≠ gb151) := ⟨h7_⟩
             have n8_ : Aside0 (gb151 ≠ g) := ⟨h8_⟩
             have n9_ : Aside0 (IsS81 w0 w27 g s0_0 x1001_2 x1002_2) := ⟨h9_⟩
             have n10_ : Aside0 (KeepBut w w27 g none) := ⟨h10_⟩
             have n11_ : Aside0 (Below w0.heap.size w0 w27) := ⟨h11_⟩
             clear HO_4 HO_5 HO_7 HI0 HK HB
             clear h0_ h1_ h2_ h3_ h4_ h5_ h6_ h7_ h8_ h9_ h10_ h11_
             have HO150 := n0_
             have HO_4 := n1_
             have HO_5 := n2_
             have HO_7 := n3_
             have BK151 := n4_
             have GW151 := n5_
             have GE151 := n6_
             have NB0_151 := n7_
             have NB151_0 := n8_
             have HI0 := n9_
             have HK := n10_
             have HB := n11_
             clear n0_ n1_ n2_ n3_ n4_ n5_ n6_ n7_ n8_ n9_ n10_ n11_
             have hHeld : w27.cell? (ad144.add x7_2.length) = some (.string (rdOf ByteArray.empty y123 (x7_2.length : Int))) := hS_
             refine norm_ (a' := ?_) ?_ ?_
             rotate_left
             ·
              simp only [putAll, Act.put, List.setIfInBounds_toArray, List.set_cons_zero, List.set_cons_succ]
              rfl
             refine one_ (i := 6) (N := some 42) (Hl.ba 11 767) rfl rfl (one_of HT_.out (by kernel_rfl)) (by decide) (fun K hK => ?_)
             refine Hl.gs Tryz.func32 (by kernel_rfl) rfl #[.pointer (some ⟨g, 0, none⟩), .int .i64 300] (by rfl) rfl rfl ?_
             with_reducible refine (spec_l00Src_pick.calls g s0_0 x1001_2 x1002_2 300 t145 t146 t147 w0 _ ?side1 ?side2 A20.out).mono ?_
             (case side1 => exact iS_ HI0)
             (case side2 => exact bI_ HB)
             rintro e w28 ⟨rfl, hi, hb, hk⟩
             have HS0_ := keep_cell hk (hHeld) (by first | (have q_ := Kd.own_blk (IsS81.own_ne HI0.out HO_4.out (by decide)); first | exact q_ | (rw [add_block]; exact q_) | (show (Addr.add _ _).block ≠ _; rw [add_block]; exact q_)) | (rw [add_block]; exact Kd.own_blk (IsS81.own_ne HI0.out HO_4.out (by decide))) | (show (Addr.add _ _).block ≠ _; rw [add_block]; exact Kd.own_blk (IsS81.own_ne HI0.out HO_4.out (by decide))) | exact Kd.own_blk (IsS81.own_ne HI0.out HO_4.out (by decide)))
             refine ⟨_, rfl, ?_⟩
             have n0_ := Hl.am (Kd.R_mono (Kd.R_keep (IsS81.apart (show IsS81 w0 _ g s0_0 x1001_2 x1002_2 from iS_ HI0) (Hl.rr HO_4) (by decide)) hk (fun _ h => h.2)) (fun _ h => h.1))
             have n1_ := Hl.am (Kd.R_mono (Kd.R_keep (IsS81.apart (show IsS81 w0 _ g s0_0 x1001_2 x1002_2 from iS_ HI0) (Hl.rr HO_5) (by decide)) hk (fun _ h => h.2)) (fun _ h => h.1))
             have n2_ := Hl.am (Kd.S_mono (Kd.S_keep (IsS81.apartS (show IsS81 w0 _ g s0_0 x1001_2 x1002_2 from iS_ HI0) (sr_ HO_7) (by decide)) hk (fun _ h => h.2)) (fun _ h => h.1))
             have n3_ := Hl.am (Kd.R_mono (Kd.R_keep (IsS81.apart (show IsS81 w0 _ g s0_0 x1001_2 x1002_2 from iS_ HI0) (Hl.rr HO150) (by decide)) hk (fun _ h => h.2)) (fun _ h => h.1))
             have n4_ := Hl.am (KeepBut.blk hk (g' := gb151) (o := .cells #[.string (⟨#[]⟩ : ByteArray), .int .i64 0, .slice none 0 0] 60 (0, 0)) (Hl.kb BK151) NB151_0.out (by simp))
             have n5_ := Hl.am (KeepBut.trans (kS_ HK) hk (.inl rfl))
             have n6_ := Hl.am (hb)
             have n7_ := Hl.am (hi)
             clear HO_4 HO_5 HO_7 HO150 BK151 HK HB HI0
             have HO_4 := n0_
             have HO_5 := n1_
             have HO_7 := n2_
             have HO150 := n3_
             have BK151 := n4_
             have HK := n5_
             have HB := n6_
             have HI0 := n7_
             clear n0_ n1_ n2_ n3_ n4_ n5_ n6_ n7_
             (try clear hb)
             (try clear hb2)
             (try clear hk)
             (try clear hi)
             obtain ⟨Ao29, co29, eo29⟩ := Kd.R_slice HO150.out
             (first | subst eo29 | (injection eo29 with f1_ f2_ f3_; have f4_ := f1_.symm; have f5_ := f3_.symm; clear f1_ f2_ f3_; subst f4_; subst f5_))
             refine hK.out _ _ (HS0_) (fun hHeld => ?_)
             clear hK K
             refine norm_ (a' := ?_) ?_ ?_
             rotate_left
             ·
              show Act.put _ (some 42) _ = _
              simp only [Act.put, Hl.s1, Hl.s2, Hl.s3, i64_w, i32_w]
              rfl
             refine Hl.pI 8 44 11 1023 HT_ rfl rfl ?_
             exact norm_ (by first | (simp only [putAll, Act.put, List.setIfInBounds_toArray, List.set_cons_zero, List.set_cons_succ]; done) | (simp only [putAll, Act.put, List.setIfInBounds_toArray, List.set_cons_zero, List.set_cons_succ]; rfl)) (hJ6_7_9 (.slice Ao29 y148.length co29, gb151) _ ⟨hHeld, (Hl.rr HO150), (Hl.rr HO_4), (Hl.rr HO_5), (sr_ HO_7), (Hl.kb BK151), GW151.out, GE151.out, NB0_151.out, NB151_0.out, (iS_ HI0), (kS_ HK), (bI_ HB)⟩)
           ·
            skip
            rintro gb151 w26 ⟨hS_, h0_, h1_, h2_, h3_, h4_, h5_, h6_, h7_, h8_, h9_, h10_⟩
            have n0_ : Aside0 (Kd.R Kd.string 9 w26 w.heap.size (fun _ => True) (.slice (some ad144) y123.length co23) y123) := ⟨h0_⟩
            have n1_ : Aside0 (Kd.R (Kd.int .i64) 2 w26 w.heap.size (fun _ => True) u5 x5_1) := ⟨h1_⟩
            have n2_ : Aside0 (Kd.S k60 60 w26 w.heap.size (fun k_ => some k_ ≠ (u5 : Value).ownBlock ∧ k_ ≠ gb151) (.slice Ao22 x7_2.length co22) x7_2) := ⟨h2_⟩
            have n3_ : Aside0 (w26.heap[gb151]? = some (.cells #[.string (⟨#[]⟩ : ByteArray), .int .i64 0, .slice none 0 0] 60 (0, 0))) := ⟨h3_⟩
            have n4_ : Aside0 (w.heap.size ≤ gb151) := ⟨h4_⟩
            have n5_ : Aside0 (w0.heap.size ≤ gb151) := ⟨h5_⟩
            have n6_ : Aside0 (g ≠ gb151) := ⟨h6_⟩
            have n7_ : Aside0 (gb151 ≠ g) := ⟨h7_⟩
            have n8_ : Aside0 (IsS81 w0 w26 g s0_0 t146 t147) := ⟨h8_⟩
            have n9_ : Aside0 (KeepBut w w26 g none) := ⟨h9_⟩
            have n10_ : Aside0 (Below w0.heap.size w0 w26) := ⟨h10_⟩
            clear HO_4 HO_5 HO_7 HI0 HK HB
            clear h0_ h1_ h2_ h3_ h4_ h5_ h6_ h7_ h8_ h9_ h10_
            have HO_4 := n0_
            have HO_5 := n1_
            have HO_7 := n2_
            have BK151 := n3_
            have GW151 := n4_
            have GE151 := n5_
            have NB0_151 := n6_
            have NB151_0 := n7_
            have HI0 := n8_
            have HK := n9_
            have HB := n10_
            clear n0_ n1_ n2_ n3_ n4_ n5_ n6_ n7_ n8_ n9_ n10_
            have hHeld : w26.cell? (ad144.add x7_2.length) = some (.string (rdOf ByteArray.empty y123 (x7_2.length : Int))) := hS_
            refine norm_ (a' := ?_) ?_ ?_
            rotate_left
            ·
             simp only [putAll, Act.put, List.setIfInBounds_toArray, List.set_cons_zero, List.set_cons_succ]
             rfl
            refine one_ (i := 7) (N := some 43) (Hl.ba 11 767) rfl rfl (one_of HT_.out (by kernel_rfl)) (by decide) (fun K hK => ?_)
            refine Kd.R_lit_step (Kd.int .i64) _ 2 ?hg (N := 43) ?hd (xs := ([] : List Int)) (inner := []) (ok := fun _ => True) (okp := fun _ => True) ?hr ?hp (fun _ hk => hk) trivial (Below.refl _ _) (Nat.le_refl _) (by simp) ?_; (case hd => rfl); (case hg => rfl); (case hr => first | (go_simp; done) | (go_simp; rfl)); (case hp => exact (Reps.none _ _))
            intro v149 w27 ho28 hb hg_ hnew_
            have HS0_ := (hb.cell (World.block_lt_of_cell? _ _ (hHeld))).trans (hHeld)
            clear hg_ hnew_
            (first | rw [← Ny148.out] at ho28 | (simp only [Int.reduceToNat] at ho28; rw [← Ny148.out] at ho28))
            have n0_ := Hl.am (Kd.R_below (Hl.rr HO_4) hb)
            have n1_ := Hl.am (Kd.R_elder' (Hl.rr HO_5) (Kd.R_base ho28) hb)
            have n2_ := Hl.am (Kd.S_elder' (sr_ HO_7) (Kd.R_base ho28) hb)
            have n3_ := Hl.am (Kd.R_lower (Kd.R_new' ho28 (Kd.R_lt (Hl.rr HO_5))) (keep_size (w := w) (g := g) (row := none) (kS_ HK)))
            have n4_ := Hl.am (IsS81.below (iS_ HI0) hb)
            have n5_ := Hl.am (blk_below (g := gb151) (o := .cells #[.string (⟨#[]⟩ : ByteArray), .int .i64 0, .slice none 0 0] 60 (0, 0)) (Hl.kb BK151) hb)
            have n6_ := Hl.am (KeepBut.trans (kS_ HK) (KeepBut.of_below hb g none) (.inl rfl))
            have n7_ := Hl.am (below_step (bI_ HB) hb)
            clear HO_4 HO_5 HO_7 HI0 BK151 HK HB
            have HO_4 := n0_
            have HO_5 := n1_
            have HO_7 := n2_
            have HO150 := n3_
            have HI0 := n4_
            have BK151 := n5_
            have HK := n6_
            have HB := n7_
            clear n0_ n1_ n2_ n3_ n4_ n5_ n6_ n7_
            clear hb ho28
            obtain ⟨Ao29, co29, eo29⟩ := Kd.R_slice HO150.out
            (first | subst eo29 | (injection eo29 with f1_ f2_ f3_; have f4_ := f1_.symm; have f5_ := f3_.symm; clear f1_ f2_ f3_; subst f4_; subst f5_))
            refine hK.out _ _ (HS0_) (fun hHeld => ?_)
            clear hK K
            refine norm_ (a' := ?_) ?_ ?_
            rotate_left
            ·
             show Act.put _ (some 43) _ = _
             simp only [Act.put, Hl.s1, Hl.s2, Hl.s3, i64_w, i32_w]
             rfl
            refine Hl.pI 8 44 11 1023 HT_ rfl rfl ?_
            exact norm_ (by first | (simp only [putAll, Act.put, List.setIfInBounds_toArray, List.set_cons_zero, List.set_cons_succ]; done) | (simp only [putAll, Act.put, List.setIfInBounds_toArray, List.set_cons_zero, List.set_cons_succ]; rfl)) (hJ6_7_9 (.slice Ao29 y148.length co29, gb151) _ ⟨hHeld, (rm_ HO150 (fun _ hk => hk.2)), (Hl.rr HO_4), (rm_ HO_5 (fun _ hk => hk.2)), (sm_ HO_7 (fun _ hk => ⟨hk.2, ⟨hk.1.1, hk.1.2⟩⟩)), (Hl.kb BK151), GW151.out, GE151.out, NB0_151.out, NB151_0.out, (iS_ HI0), (kS_ HK), (bI_ HB)⟩)
          ·
           skip
           rintro v149 w28 ⟨hS_, h0_, h1_, h2_, h3_, h4_, h5_, h6_⟩
           have n0_ : Aside0 (Kd.R (Kd.int .i64) 2 w28 w.heap.size (fun k_ => some k_ ≠ (u5 : Value).ownBlock) v149 y148) := ⟨h0_⟩
           have n1_ : Aside0 (Kd.R Kd.string 9 w28 w.heap.size (fun _ => True) (.slice (some ad144) y123.length co23) y123) := ⟨h1_⟩
           have n2_ : Aside0 (Kd.R (Kd.int .i64) 2 w28 w.heap.size (fun k_ => some k_ ≠ (v149 : Value).ownBlock) u5 x5_1) := ⟨h2_⟩
           have n3_ : Aside0 (Kd.S k60 60 w28 w.heap.size (fun k_ => some k_ ≠ (v149 : Value).ownBlock ∧ some k_ ≠ (u5 : Value).ownBlock) (.slice Ao22 x7_2.length co22) x7_2) := ⟨h3_⟩
           have n4_ : Aside0 (IsS81 w0 w28 g s0_0 t146 t147) := ⟨h4_⟩
           have n5_ : Aside0 (KeepBut w w28 g none) := ⟨h5_⟩
           have n6_ : Aside0 (Below w0.heap.size w0 w28) := ⟨h6_⟩
           clear HO_4 HO_5 HO_7 HI0 HK HB
           clear h0_ h1_ h2_ h3_ h4_ h5_ h6_
           have HO150 := n0_
           have HO_4 := n1_
           have HO_5 := n2_
           have HO_7 := n3_
           have HI0 := n4_
           have HK := n5_
           have HB := n6_
           clear n0_ n1_ n2_ n3_ n4_ n5_ n6_
           have hHeld : w28.cell? (ad144.add x7_2.length) = some (.string (rdOf ByteArray.empty y123 (x7_2.length : Int))) := hS_
           obtain ⟨Ao29, co29, eo29⟩ := Kd.R_slice HO150.out
           (first | subst eo29 | (injection eo29 with f1_ f2_ f3_; have f4_ := f1_.symm; have f5_ := f3_.symm; clear f1_ f2_ f3_; subst f4_; subst f5_))
           refine norm_ (a' := ?_) ?_ ?_
           rotate_left
           ·
            simp only [putAll, Act.put, List.setIfInBounds_toArray, List.set_cons_zero, List.set_cons_succ]
            rfl
           refine one_ (i := 9) (N := some 9) (Hl.ba 11 1023) rfl rfl (one_of HT_.out (by kernel_rfl)) (by decide) (fun K hK => ?_)
           refine box_step ?hg (N := 9) ?hd (cs := #[.string (⟨#[]⟩ : ByteArray), .int .i64 0, .slice none 0 0]) (t := 60) ?hr ?_; (case hd => rfl); (case hg => rfl); (case hr => first | (go_simp; done) | (go_simp; rfl))
           intro gb151 hg w30 hbox hb
           have HS0_ := (hb.cell (World.block_lt_of_cell? _ _ (hHeld))).trans (hHeld)
           have n0_ := Hl.am (Kd.R_below (Hl.rr HO_4) hb)
           have n1_ := Hl.am (Kd.R_below (Hl.rr HO_5) hb)
           have n2_ := Hl.am (Kd.S_below (Kd.S_elderB (sr_ HO_7) gb151 (Nat.le_of_eq hg.symm)) hb)
           have n3_ := Hl.am (Kd.R_below (Hl.rr HO150) hb)
           have n4_ := Hl.am (IsS81.below (iS_ HI0) hb)
           have n5_ := Hl.am (KeepBut.trans (kS_ HK) (KeepBut.of_below hb g none) (.inl rfl))
           have n6_ := Hl.am (below_step (bI_ HB) hb)
           have n7_ := Hl.am (hbox)
           have n8_ := Hl.am ((by rw [hg]; exact (keep_size (w := w) (g := g) (row := none) (kS_ HK)) : w.heap.size ≤ gb151))
           have n9_ := Hl.am ((Nat.le_trans HW0.out (by rw [hg]; exact (keep_size (w := w) (g := g) (row := none) (kS_ HK)) : w.heap.size ≤ gb151) : w0.heap.size ≤ gb151))
           have n10_ := Hl.am ((by rw [hg]; exact Nat.ne_of_lt (IsS81.lt (show IsS81 w0 _ g s0_0 t146 t147 from iS_ HI0)) : g ≠ gb151))
           have n11_ := Hl.am ((by rw [hg]; exact Nat.ne_of_gt (IsS81.lt (show IsS81 w0 _ g s0_0 t146 t147 from iS_ HI0)) : gb151 ≠ g))
           clear HO_4 HO_5 HO_7 HO150 HI0 HK HB
           have HO_4 := n0_
           have HO_5 := n1_
           have HO_7 := n2_
           have HO150 := n3_
           have HI0 := n4_
           have HK := n5_
           have HB := n6_
           have BK151 := n7_
           have GW151 := n8_
           have GE151 := n9_
           have NB0_151 := n10_
           have NB151_0 := n11_
           clear n0_ n1_ n2_ n3_ n4_ n5_ n6_ n7_ n8_ n9_ n10_ n11_
           clear hb hbox hg
           refine hK.out _ _ (HS0_) (fun hHeld => ?_)
           clear hK K
           refine norm_ (a' := ?_) ?_ ?_
           rotate_left
           ·
            show Act.put _ (some 9) _ = _
            simp only [Act.put, Hl.s1, Hl.s2, Hl.s3, i64_w, i32_w]
            rfl
           exact norm_ (by first | (simp only [putAll, Act.put, List.setIfInBounds_toArray, List.set_cons_zero, List.set_cons_succ]; done) | (simp only [putAll, Act.put, List.setIfInBounds_toArray, List.set_cons_zero, List.set_cons_succ]; rfl)) (hJ6_7_9 (.slice Ao29 y148.length co29, gb151) _ ⟨hHeld, (Hl.rr HO150), (Hl.rr HO_4), (Hl.rr HO_5), (sm_ HO_7 (fun _ hk => ⟨hk.1.1, ⟨hk.1.2, hk.2⟩⟩)), (Hl.kb BK151), GW151.out, GE151.out, NB0_151.out, NB151_0.out, (iS_ HI0), (kS_ HK), (bI_ HB)⟩)
         rintro ⟨v149, gb151⟩ w29 ⟨hS_, h0_, h1_, h2_, h3_, h4_, h5_, h6_, h7_, h8_, h9_, h10_, h11_⟩
         have n0_ : Aside0 (Kd.R (Kd.int .i64) 2 w29 w.heap.size (fun k_ => some k_ ≠ (u5 : Value).ownBlock) v149 y148) := ⟨h0_⟩
         have n1_ : Aside0 (Kd.R Kd.string 9 w29 w.heap.size (fun _ => True) (.slice (some ad144) y123.length co23) y123) := ⟨h1_⟩
         have n2_ : Aside0 (Kd.R (Kd.int .i64) 2 w29 w.heap.size (fun k_ => some k_ ≠ (v149 : Value).ownBlock) u5 x5_1) := ⟨h2_⟩
         have n3_ : Aside0 (Kd.S k60 60 w29 w.heap.size (fun k_ => some k_ ≠ (v149 : Value).ownBlock ∧ some k_ ≠ (u5 : Value).ownBlock ∧ k_ ≠ gb151) (.slice Ao22 x7_2.length co22) x7_2) := ⟨h3_⟩
         have n4_ : Aside0 (w29.heap[gb151]? = some (.cells #[.string (⟨#[]⟩ : ByteArray), .int .i64 0, .slice none 0 0] 60 (0, 0))) := ⟨h4_⟩
         have n5_ : Aside0 (w.heap.size ≤ gb151) := ⟨h5_⟩
         have n6_ : Aside0 (w0.heap.size ≤ gb151) := ⟨h6_⟩
         have n7_ : Aside0 (g ≠ gb151) := ⟨h7_⟩
         have n8_ : Aside0 (gb151 ≠ g) := ⟨h8_⟩
         have n9_ : Aside0 (IsS81 w0 w29 g s0_0 t146 t147) := ⟨h9_⟩
         have n10_ : Aside0 (KeepBut w w29 g none) := ⟨h10_⟩
         have n11_ : Aside0 (Below w0.heap.size w0 w29) := ⟨h11_⟩
         clear HO_4 HO_5 HO_7 HI0 HK HB
         clear h0_ h1_ h2_ h3_ h4_ h5_ h6_ h7_ h8_ h9_ h10_ h11_
         have HO150 := n0_
         have HO_4 := n1_
         have HO_5 := n2_
         have HO_7 := n3_
         have BK151 := n4_
         have GW151 := n5_
         have GE151 := n6_
         have NB0_151 := n7_
         have NB151_0 := n8_
         have HI0 := n9_
         have HK := n10_
         have HB := n11_
         clear n0_ n1_ n2_ n3_ n4_ n5_ n6_ n7_ n8_ n9_ n10_ n11_
         have hHeld : w29.cell? (ad144.add x7_2.length) = some (.string (rdOf ByteArray.empty y123 (x7_2.length : Int))) := hS_
         obtain ⟨Ao30, co30, eo30⟩ := Kd.R_slice HO150.out
         (first | subst eo30 | (injection eo30 with f1_ f2_ f3_; have f4_ := f1_.symm; have f5_ := f3_.symm; clear f1_ f2_ f3_; subst f4_; subst f5_))
         refine norm_ (a' := ?_) ?_ ?_
         rotate_left
         ·
          simp only [putAll, Act.put, List.setIfInBounds_toArray, List.set_cons_zero, List.set_cons_succ]
          rfl
         refine one_ (i := 10) (N := none) (Hl.ba 11 2047) rfl rfl (one_of HT_.out (by kernel_rfl)) (by decide) (fun K hK => ?_)
         have hs31 : w29.cell? ⟨gb151, 0, none⟩ = some (.string (⟨#[]⟩ : ByteArray)) := (blk_cell BK151.out 0).trans rfl
         have hfs31 := blk_frozen BK151.out 0
         have hs32 : w29.cell? ⟨gb151, 1, none⟩ = some (.int .i64 0) := (blk_cell BK151.out 1).trans rfl
         have hfs32 := blk_frozen BK151.out 1
         have hs33 : w29.cell? ⟨gb151, 2, none⟩ = some (.slice none 0 0) := (blk_cell BK151.out 2).trans rfl
         have hfs33 := blk_frozen BK151.out 2
         refine skip_ (w1 := ?_) (by rfl) rfl ?_ ?_
         rotate_left
         ·
          go_simp
          rfl
         refine hK.out _ _ (((cell_far (p := ⟨gb151, _, none⟩) (ob_ (Kd.own_blk (Kd.R_ne HO_4.out BK151.out (by decide)))) _).trans (((cell_far (p := ⟨gb151, _, none⟩) (ob_ (Kd.own_blk (Kd.R_ne HO_4.out BK151.out (by decide)))) _).trans (((cell_far (p := ⟨gb151, _, none⟩) (ob_ (Kd.own_blk (Kd.R_ne HO_4.out BK151.out (by decide)))) _).trans (hHeld))))))) (fun hHeld => ?_)
         clear hK K
         refine done_ (done_of HT_.out (by kernel_rfl)) ?_
         try go_wp2
         go_loopg [10] k2 (fun kq v10 w' => ∃ (x10_3 : Int) (x1001_3 : Int) (x1002_3 : Int) (x152002_3 : List Int) (u152002 : Value), v10 = .int .i64 x10_3 ∧ Aside0 (spec_l25Draw.l2 kq y123 x5_1 x7_2 x8_2 x10_3 s0_0 x1001_3 x1002_3 (rdOf ByteArray.empty y123 (x7_2.length : Int)) t145 x152002_3 = some (r1, r2, r3, r4)) ∧ Aside0 (kq ≤ k2) ∧ Aside0 (Kd.R Kd.string 9 w' w.heap.size (fun _ => True) (.slice (some ad144) y123.length co23) y123) ∧ Aside0 (Kd.R (Kd.int .i64) 2 w' w.heap.size (fun k_ => some k_ ≠ (u152002 : Value).ownBlock) u5 x5_1) ∧ Aside0 (Kd.S k60 60 w' w.heap.size (fun k_ => some k_ ≠ (u5 : Value).ownBlock ∧ some k_ ≠ (u152002 : Value).ownBlock ∧ k_ ≠ gb151) (.slice Ao22 x7_2.length co22) x7_2) ∧ Aside0 (Kd.R (Kd.int .i64) 2 w' w.heap.size (fun k_ => some k_ ≠ (u5 : Value).ownBlock) u152002 x152002_3) ∧ Aside0 (w'.heap[gb151]? = some (.cells #[.string (rdOf ByteArray.empty y123 (x7_2.length : Int)), .int .i64 t145, u152002] 60 (0, 0))) ∧ Aside0 (IsS81 w0 w' g s0_0 x1001_3 x1002_3) ∧ Aside0 (KeepBut w w' g none) ∧ Aside0 (Below w0.heap.size w0 w'))
         case atStart => exact ⟨(0), (t146), (t147), (y148), (.slice Ao30 y148.length co30), (by first | rfl | (simp; done) | (simp [*]; done)), H', ⟨Nat.le_refl _⟩, ⟨by (with_reducible repeat (first | apply Kd.R_alloc | apply Kd.R_drewN | apply Kd.R_drew)); exact Kd.R_mono (Kd.R_far (p := ⟨gb151, 2, none⟩) (Kd.R_far (p := ⟨gb151, 1, none⟩) (Kd.R_far (p := ⟨gb151, 0, none⟩) (Kd.R_types HO_4.out BK151.out (by decide)) (fun _ hk => hk.2) (.string (rdOf ByteArray.empty y123 (x7_2.length : Int)))) (fun _ hk => hk.2) (.int .i64 t145)) (fun _ hk => hk.2) (.slice Ao30 y148.length co30)) (fun _ hk => trivial)⟩, ⟨by (with_reducible repeat (first | apply Kd.R_alloc | apply Kd.R_drewN | apply Kd.R_drew)); exact Kd.R_mono (Kd.R_far (p := ⟨gb151, 2, none⟩) (Kd.R_far (p := ⟨gb151, 1, none⟩) (Kd.R_far (p := ⟨gb151, 0, none⟩) (Kd.R_types HO_5.out BK151.out (by decide)) (fun _ hk => hk.2) (.string (rdOf ByteArray.empty y123 (x7_2.length : Int)))) (fun _ hk => hk.2) (.int .i64 t145)) (fun _ hk => hk.2) (.slice Ao30 y148.length co30)) (fun _ hk => hk.1)⟩, ⟨by (with_reducible repeat (first | apply Kd.S_alloc | apply Kd.S_drewN | apply Kd.S_drew)); exact Kd.S_mono (Kd.S_far (p := ⟨gb151, 2, none⟩) (Kd.S_far (p := ⟨gb151, 1, none⟩) (Kd.S_far (p := ⟨gb151, 0, none⟩) (Kd.S_mono HO_7.out (fun k_ hk => (⟨hk, hk.2.2⟩ : _ ∧ k_ ≠ gb151))) (fun _ hk => hk.2) (.string (rdOf ByteArray.empty y123 (x7_2.length : Int)))) (fun _ hk => hk.2) (.int .i64 t145)) (fun _ hk => hk.2) (.slice Ao30 y148.length co30)) (fun _ hk => ⟨hk.1.2.1, ⟨hk.1.1, hk.1.2.2⟩⟩)⟩, ⟨by (with_reducible repeat (first | apply Kd.R_alloc | apply Kd.R_drewN | apply Kd.R_drew)); exact Kd.R_mono (Kd.R_far (p := ⟨gb151, 2, none⟩) (Kd.R_far (p := ⟨gb151, 1, none⟩) (Kd.R_far (p := ⟨gb151, 0, none⟩) (Kd.R_types HO150.out BK151.out (by decide)) (fun _ hk => hk.2) (.string (rdOf ByteArray.empty y123 (x7_2.length : Int)))) (fun _ hk => hk.2) (.int .i64 t145)) (fun _ hk => hk.2) (.slice Ao30 y148.length co30)) (fun _ hk => hk.1)⟩, ⟨by refine bQ_ (cs := #[.string (rdOf ByteArray.empty y123 (x7_2.length : Int)), .int .i64 t145, .slice none 0 0]) ?_ 2; refine bQ_ (cs := #[.string (rdOf ByteArray.empty y123 (x7_2.length : Int)), .int .i64 0, .slice none 0 0]) ?_ 1; refine bQ_ (cs := #[.string (⟨#[]⟩ : ByteArray), .int .i64 0, .slice none 0 0]) ?_ 0; exact Hl.kb BK151⟩, ⟨iS_ HI0⟩, ⟨kS_ HK⟩, ⟨bI_ HB⟩⟩
         case round =>
          clear H'
          obtain ⟨x10_3, x1001_3, x1002_3, x152002_3, u152002, rfl, HA, HK3, HO_4, HO_5, HO_7, HO_152002, BK151, HI0, HK, HB⟩ := hrel
          cases gk with
          | zero => exact absurd HA.out (by simp [spec_l25Draw.l2])
          | succ k3 =>
           have H := HA.out
           clear HA
           simp only [spec_l25Draw.l2] at H
           by_cases c34 : x10_3 < (x5_1.length : Int)
           ·
            rw [if_pos c34] at H
            have c34b0 : decide (x10_3 < (x5_1.length : Int)) = true := decide_eq_true c34
            clear c34
            obtain ⟨⟨t152, t153, t154⟩, A350, H⟩ := bE_ H
            (try dsimp only at H)
            have A35 := Hl.am A350
            clear A350
            by_cases c36 : x152002_3.length < 17592186044416
            ·
             rw [if_pos c36] at H
             have LMc36 := Hl.am c36
             clear c36
             obtain ⟨y155, hy155⟩ : ∃ y_ : List Int, y_ = (x152002_3 ++ [wrap64 (10 * t152)]) := ⟨_, rfl⟩
             replace H : (spec_l25Draw.l2 k3 y123 x5_1 x7_2 x8_2 (wrap64 (x10_3 + 1)) s0_0 t153 t154 (rdOf ByteArray.empty y123 (x7_2.length : Int)) t145 y155) = some (r1, r2, r3, r4) := rH_ hy155 H
             have Ny155 := Hl.am hy155
             clear hy155
             have H' := Hl.am H
             clear H
             obtain ⟨Ao37, co37, eo37⟩ := Kd.R_slice HO_5.out
             subst eo37
             try go_wp2
             have n0_ := Hl.am (Kd.R_drew HO_4.out)
             have n1_ := Hl.am (Kd.R_drew HO_5.out)
             have n2_ := Hl.am (Kd.S_drew HO_7.out)
             have n3_ := Hl.am (Kd.R_drew HO_152002.out)
             have n4_ := Hl.am (blk_drew BK151.out)
             have n5_ := Hl.am (IsS81.drew HI0.out)
             have n6_ := Hl.am (keep_drew HK.out)
             have n7_ := Hl.am (below_drew1 HB.out)
             clear HO_4 HO_5 HO_7 HO_152002 BK151 HI0 HK HB
             have HO_4 := n0_
             have HO_5 := n1_
             have HO_7 := n2_
             have HO_152002 := n3_
             have BK151 := n4_
             have HI0 := n5_
             have HK := n6_
             have HB := n7_
             clear n0_ n1_ n2_ n3_ n4_ n5_ n6_ n7_
             refine start_ (n := 9) (S := fun w' => w'.cell? ⟨gb151, 0, none⟩ = some (.string (rdOf ByteArray.empty y123 (x7_2.length : Int))) ∧ w'.cell? ⟨gb151, 1, none⟩ = some (.int .i64 t145) ∧ w'.cell? ⟨gb151, 2, none⟩ = some (u152002)) (ds := [8]) #[false, false, false, false, false, false, false, false, false] (by kernel_rfl) rfl rfl ⟨(blk_cell BK151.out 0).trans rfl, (blk_cell BK151.out 1).trans rfl, (blk_cell BK151.out 2).trans rfl⟩ (fun hHeld => ?_); refine with_tabW spec_l25Draw.tab15 spec_l25Draw.bits15 (fun HT_ HW_ => ?_)
             generalize wr.drew = w38 at HO_4 HO_5 HO_7 HO_152002 BK151 HI0 HK HB hHeld ⊢
             refine Hl.pI 0 51 9 1 HT_ rfl rfl ?_; refine Hl.pI 2 53 9 5 HT_ rfl rfl ?_; refine Hl.tI 1 52 9 7 HT_ HW_ rfl rfl hHeld ?_
             refine one_ (i := 3) (N := some 54) (Hl.ba 9 15) rfl rfl (one_of HT_.out (by kernel_rfl)) (by decide) (fun K hK => ?_)
             refine Hl.gs Tryz.func32 (by kernel_rfl) rfl #[.pointer (some ⟨g, 0, none⟩), .int .i64 10] (by rfl) rfl rfl ?_
             with_reducible refine (spec_l00Src_pick.calls g s0_0 x1001_3 x1002_3 10 t152 t153 t154 w0 _ ?side1 ?side2 A35.out).mono ?_
             (case side1 => exact iS_ HI0)
             (case side2 => exact bI_ HB)
             rintro e w39 ⟨rfl, hi, hb, hk⟩
             refine ⟨_, rfl, ?_⟩
             have n0_ := Hl.am (Kd.R_mono (Kd.R_keep (IsS81.apart (show IsS81 w0 _ g s0_0 x1001_3 x1002_3 from iS_ HI0) (Hl.rr HO_4) (by decide)) hk (fun _ h => h.2)) (fun _ h => h.1))
             have n1_ := Hl.am (Kd.R_mono (Kd.R_keep (IsS81.apart (show IsS81 w0 _ g s0_0 x1001_3 x1002_3 from iS_ HI0) (Hl.rr HO_5) (by decide)) hk (fun _ h => h.2)) (fun _ h => h.1))
             have n2_ := Hl.am (Kd.S_mono (Kd.S_keep (IsS81.apartS (show IsS81 w0 _ g s0_0 x1001_3 x1002_3 from iS_ HI0) (sr_ HO_7) (by decide)) hk (fun _ h => h.2)) (fun _ h => h.1))
             have n3_ := Hl.am (Kd.R_mono (Kd.R_keep (IsS81.apart (show IsS81 w0 _ g s0_0 x1001_3 x1002_3 from iS_ HI0) (Hl.rr HO_152002) (by decide)) hk (fun _ h => h.2)) (fun _ h => h.1))
             have n4_ := Hl.am (KeepBut.blk hk (g' := gb151) (o := .cells #[.string (rdOf ByteArray.empty y123 (x7_2.length : Int)), .int .i64 t145, u152002] 60 (0, 0)) (Hl.kb BK151) NB151_0.out (by simp))
             have n5_ := Hl.am (KeepBut.trans (kS_ HK) hk (.inl rfl))
             have n6_ := Hl.am (hb)
             have n7_ := Hl.am (hi)
             clear HO_4 HO_5 HO_7 HO_152002 BK151 HK HB HI0
             have HO_4 := n0_
             have HO_5 := n1_
             have HO_7 := n2_
             have HO_152002 := n3_
             have BK151 := n4_
             have HK := n5_
             have HB := n6_
             have HI0 := n7_
             clear n0_ n1_ n2_ n3_ n4_ n5_ n6_ n7_
             (try clear hb)
             (try clear hb2)
             (try clear hk)
             (try clear hi)
             refine hK.out _ _ ⟨(blk_cell BK151.out 0).trans rfl, (blk_cell BK151.out 1).trans rfl, (blk_cell BK151.out 2).trans rfl⟩ (fun hHeld => ?_)
             clear hK K
             refine norm_ (a' := ?_) ?_ ?_
             rotate_left
             ·
              show Act.put _ (some 54) _ = _
              simp only [Act.put, Hl.s1, Hl.s2, Hl.s3, i64_w, i32_w]
              rfl
             refine Hl.pI 4 55 9 31 HT_ rfl rfl ?_
             refine one_ (i := 5) (N := some 56) (Hl.ba 9 63) rfl rfl (one_of HT_.out (by kernel_rfl)) (by decide) (fun K hK => ?_)
             refine value_ (w1 := ?_) (v := ?_) (by rfl) rfl ?_ ?_
             rotate_left 2
             ·
              go_simp
              constructor
              ·
               rfl
              ·
               rfl
             refine hK.out _ _ ⟨(blk_cell (blk_alloc BK151.out _) 0).trans rfl, (blk_cell (blk_alloc BK151.out _) 1).trans rfl, (blk_cell (blk_alloc BK151.out _) 2).trans rfl⟩ (fun hHeld => ?_)
             clear hK K
             refine norm_ (a' := ?_) ?_ ?_
             rotate_left
             ·
              show Act.put _ (some 56) _ = _
              simp only [Act.put, Hl.s1, Hl.s2, Hl.s3, i64_w, i32_w]
              rfl
             refine one_ (i := 6) (N := some 57) (Hl.ba 9 127) rfl rfl (one_of HT_.out (by kernel_rfl)) (by decide) (fun K hK => ?_)
             refine Kd.R_append_step (Kd.int .i64) w.heap.size (by rfl) (.tmp 52) (.tmp 56) 24 2 (.int .i64 0) 8 rfl Tryz.underlying24 info2 rfl (by decide) (by omega) u152002 x152002_3 (wrap64 (10 * t152)) [.int .i64 (wrap64 (10 * t152))] (fun k_ => some k_ ≠ (.slice Ao37 x5_1.length co37 : Value).ownBlock) (fun _ => False) rfl rfl ?aP (fun _ hk => hk.elim) ?aF ?aO (Below.refl _ _) ?aS ?aL ?_
             (case aP => exact rfl)
             (case aF => exact (fun k_ hk => Kd.fresh' (Kd.R_lt (Hl.rr HO_5)) k_ hk))
             (case aO => exact (Hl.rr HO_152002))
             (case aS => exact (keep_size (w := w) (g := g) (row := none) (kS_ HK)))
             (case aL => have := LMc36.out; omega)
             intro v156 w40 ho hb hg hat
             rw [← Ny155.out] at ho
             have n0_ := Hl.am (Kd.R_over' (Hl.rr HO_4) (Kd.R_typed (Hl.rr HO_152002)) (by decide) hg)
             have n1_ := Hl.am (Kd.R_after (ok := (fun _ => True)) (rm_ HO_5 (fun _ hk => ⟨trivial, hk⟩)) hg hat)
             have n2_ := Hl.am (Kd.S_after (ok := (fun k_ => some k_ ≠ (.slice Ao37 x5_1.length co37 : Value).ownBlock ∧ k_ ≠ gb151)) (sm_ HO_7 (fun _ hk => ⟨⟨hk.1, hk.2.2⟩, hk.2.1⟩)) hg hat)
             have n3_ := Hl.am (blk_grown (g := gb151) (o := .cells #[.string (rdOf ByteArray.empty y123 (x7_2.length : Int)), .int .i64 t145, u152002] 60 (0, 0)) (Hl.kb BK151) hg (Kd.R_ne HO_152002.out BK151.out (by decide)))
             have n4_ := Hl.am (IsS81.grown (iS_ HI0) hg (IsS81.own_ne HI0.out HO_152002.out (by decide)))
             have n5_ := Hl.am (below_weaken (bI_ HB) HL.out hb)
             have n6_ := Hl.am (KeepBut.trans (kS_ HK) (KeepBut.of_grown hg g) (Kd.R_base2 HO_152002.out))
             have n7_ := Hl.am (ho)
             clear HO_4 HO_5 HO_7 BK151 HI0 HB HK HO_152002
             have HO_4 := n0_
             have HO_5 := n1_
             have HO_7 := n2_
             have BK151 := n3_
             have HI0 := n4_
             have HB := n5_
             have HK := n6_
             have HO157 := n7_
             clear n0_ n1_ n2_ n3_ n4_ n5_ n6_ n7_
             clear ho hb hg hat
             obtain ⟨Ao41, co41, eo41⟩ := Kd.R_slice HO157.out
             (first | subst eo41 | (injection eo41 with f1_ f2_ f3_; have f4_ := f1_.symm; have f5_ := f3_.symm; clear f1_ f2_ f3_; subst f4_; subst f5_))
             refine hK.out _ _ ⟨(blk_cell BK151.out 0).trans rfl, (blk_cell BK151.out 1).trans rfl, (blk_cell BK151.out 2).trans rfl⟩ (fun hHeld => ?_)
             clear hK K
             refine norm_ (a' := ?_) ?_ ?_
             rotate_left
             ·
              show Act.put _ (some 57) _ = _
              simp only [Act.put, Hl.s1, Hl.s2, Hl.s3, i64_w, i32_w]
              rfl
             refine Hl.pI 7 58 9 255 HT_ rfl rfl ?_
             refine last_ (i := 8) (N := none) (Hl.ba 9 511) rfl rfl (one_of HT_.out (by kernel_rfl)) (by decide) (fun K hK => ?_)
             have hs42 : w40.cell? ⟨gb151, 2, none⟩ = some (u152002) := (blk_cell BK151.out 2).trans rfl
             have hfs42 := blk_frozen BK151.out 2
             refine skip_ (w1 := ?_) (by rfl) rfl ?_ ?_
             rotate_left
             ·
              go_simp
              rfl
             refine hK.out _ _ ?_
             clear hK K
             refine done_ (done_of HT_.out (by kernel_rfl)) ?_
             try go_wp2
             go_roundg k3
             case measure => have := HK1.out; have := HK2.out; have := HK3.out; omega
             case rel => exact ⟨(wrap64 (x10_3 + 1)), (t153), (t154), (y155), (.slice Ao41 y155.length co41), (by first | rfl | (simp; done) | (simp [*]; done)), H', ⟨by have := HK1.out; have := HK2.out; have := HK3.out; omega⟩, ⟨by (with_reducible repeat (first | apply Kd.R_alloc | apply Kd.R_drewN | apply Kd.R_drew)); exact Kd.R_mono (Kd.R_far (p := ⟨gb151, 2, none⟩) (Kd.R_types HO_4.out BK151.out (by decide)) (fun _ hk => hk.2) (.slice Ao41 y155.length co41)) (fun _ hk => trivial)⟩, ⟨by (with_reducible repeat (first | apply Kd.R_alloc | apply Kd.R_drewN | apply Kd.R_drew)); exact Kd.R_mono (Kd.R_far (p := ⟨gb151, 2, none⟩) (Kd.R_types HO_5.out BK151.out (by decide)) (fun _ hk => hk.2) (.slice Ao41 y155.length co41)) (fun _ hk => hk.1.2)⟩, ⟨by (with_reducible repeat (first | apply Kd.S_alloc | apply Kd.S_drewN | apply Kd.S_drew)); exact Kd.S_mono (Kd.S_far (p := ⟨gb151, 2, none⟩) (Kd.S_mono HO_7.out (fun k_ hk => (⟨hk, hk.1.2⟩ : _ ∧ k_ ≠ gb151))) (fun _ hk => hk.2) (.slice Ao41 y155.length co41)) (fun _ hk => ⟨hk.1.1.1, ⟨hk.1.2, hk.1.1.2⟩⟩)⟩, ⟨by (with_reducible repeat (first | apply Kd.R_alloc | apply Kd.R_drewN | apply Kd.R_drew)); exact Kd.R_mono (Kd.R_far (p := ⟨gb151, 2, none⟩) (Kd.R_types HO157.out BK151.out (by decide)) (fun _ hk => hk.2) (.slice Ao41 y155.length co41)) (fun _ hk => hk.1)⟩, ⟨by refine bQ_ (cs := #[.string (rdOf ByteArray.empty y123 (x7_2.length : Int)), .int .i64 t145, u152002]) ?_ 2; exact Hl.kb BK151⟩, ⟨iS_ HI0⟩, ⟨kS_ HK⟩, ⟨bI_ HB⟩⟩
            ·
             rw [if_neg c36] at H
             exact absurd H (by simp)
           ·
            rw [if_neg c34] at H
            have c34b0 : decide (x10_3 < (x5_1.length : Int)) = false := decide_eq_false c34
            clear c34
            by_cases c43 : x7_2.length < 2932031007402
            ·
             rw [if_pos c43] at H
             have LMc43 := Hl.am c43
             clear c43
             obtain ⟨y158, hy158⟩ : ∃ y_ : List (S60), y_ = (x7_2 ++ [(⟨(rdOf ByteArray.empty y123 (x7_2.length : Int)), t145, x152002_3⟩ : S60)]) := ⟨_, rfl⟩
             replace H : (spec_l25Draw.l1 k3 y123 x5_1 y158 (wrap64 (x8_2 - 1)) s0_0 x1001_3 x1002_3) = some (r1, r2, r3, r4) := rH_ hy158 H
             have Ny158 := Hl.am hy158
             clear hy158
             have H' := Hl.am H
             clear H
             obtain ⟨Ao44, co44, eo44⟩ := Kd.R_slice HO_5.out
             subst eo44
             have hnb45 := NB151_0.out
             have hnc45 := NB0_151.out
             have hcz46_0 : wr.cell? ⟨gb151, 0, none⟩ = some (.string (rdOf ByteArray.empty y123 (x7_2.length : Int))) := (blk_cell BK151.out 0).trans rfl
             have hcz46_1 : wr.cell? ⟨gb151, 1, none⟩ = some (.int .i64 t145) := (blk_cell BK151.out 1).trans rfl
             have hcz46_2 : wr.cell? ⟨gb151, 2, none⟩ = some (u152002) := (blk_cell BK151.out 2).trans rfl
             have hfz46_0 := blk_frozen BK151.out 0
             have hfz46_1 := blk_frozen BK151.out 1
             have hfz46_2 := blk_frozen BK151.out 2
             obtain ⟨Ao48, co48, eo48⟩ := Kd.R_slice HO_152002.out
             subst eo48
             go_wp2_with (first | ((with_reducible refine gate_builtin (b := .append) (xs := #[.tmp 59, .tmp 61]) rfl ?_); at_builtin; refine Kd.S_append k60 w.heap.size rfl (.tmp 59) (.tmp 61) 25 60 (.agg #[(.string ⟨#[]⟩), (.int .i64 0), (.slice none 0 0)]) 48 rfl Tryz.underlying25 info60 rfl (by decide) (by omega) (.slice Ao22 x7_2.length co22) x7_2 (⟨(rdOf ByteArray.empty y123 (x7_2.length : Int)), t145, x152002_3⟩ : S60) [.string (rdOf ByteArray.empty y123 (x7_2.length : Int)), .int .i64 t145, .slice Ao48 x152002_3.length co48] (fun k_ => some k_ ≠ (.slice Ao44 x5_1.length co44 : Value).ownBlock ∧ k_ ≠ gb151) (fun k_ => some k_ = (.slice Ao48 x152002_3.length co48 : Value).ownBlock) rfl rfl ?aP (fun k_ hk_ => ((Kd.R_mono (ok' := fun k_ => ((fun k_ => some k_ ≠ (.slice Ao44 x5_1.length co44 : Value).ownBlock ∧ k_ ≠ gb151)) k_ ∧ some k_ ≠ (.slice Ao22 x7_2.length co22 : Value).ownBlock) (Kd.R_types (Kd.R_apart' (HO_152002.out) (Kd.S_typed HO_7.out) (by decide)) BK151.out (by decide)) (fun k_ hk => ⟨⟨hk.1.1, hk.2⟩, hk.1.2⟩))).1 k_ hk_.symm) ?aF ?aO (Below.refl _ _) ?aS ?aL ?_; (case aP => exact k60_mkM _ _ _ (⟨(rdOf ByteArray.empty y123 (x7_2.length : Int)), t145, x152002_3⟩ : S60) (Kd.R_mono (Kd.R_tight rfl (Kd.R_mono (ok' := fun k_ => ((fun k_ => some k_ ≠ (.slice Ao44 x5_1.length co44 : Value).ownBlock ∧ k_ ≠ gb151)) k_ ∧ some k_ ≠ (.slice Ao22 x7_2.length co22 : Value).ownBlock) (Kd.R_types (Kd.R_apart' (HO_152002.out) (Kd.S_typed HO_7.out) (by decide)) BK151.out (by decide)) (fun k_ hk => ⟨⟨hk.1.1, hk.2⟩, hk.1.2⟩))) (fun _ h_ => h_))); (case aF => exact (fun k_ hk => ⟨Kd.fresh' (Kd.R_lt (Hl.rr HO_5)) k_ hk, Kd.freshB (g := gb151) (o := .cells #[.string (rdOf ByteArray.empty y123 (x7_2.length : Int)), .int .i64 t145, .slice Ao48 x152002_3.length co48] 60 (0, 0)) (Hl.kb BK151) k_ hk⟩)); (case aO => exact (sm_ HO_7 (fun k_ hk => ⟨⟨hk.1, hk.2.2⟩, fun e_ => hk.2.1 e_⟩))); (case aS => exact (keep_size (w := w) (g := g) (row := none) (kS_ HK))); (case aL => have := LMc43.out; omega); intro v159 w47 ho hb hg hat; rw [← Ny158.out] at ho; replace HO_4 := Hl.am (Kd.R_over' (Hl.rr HO_4) (Kd.S_typed (sr_ HO_7)) (by decide) hg); replace HO_5 := Hl.am (Kd.R_over' (Hl.rr HO_5) (Kd.S_typed (sr_ HO_7)) (by decide) hg); replace BK151 := Hl.am (blk_grown (g := gb151) (o := .cells #[.string (rdOf ByteArray.empty y123 (x7_2.length : Int)), .int .i64 t145, .slice Ao48 x152002_3.length co48] 60 (0, 0)) (Hl.kb BK151) hg (Kd.S_away HO_7.out (fun _ hk => hk.2.2))); replace HB := Hl.am (below_weaken (bI_ HB) HL.out hb); replace HI0 := Hl.am (IsS81.grown (iS_ HI0) hg (IsS81.own_neS HI0.out HO_7.out (by decide))); replace HK := Hl.am (KeepBut.trans (kS_ HK) (KeepBut.of_grown hg g) (Kd.S_base2 HO_7.out)); have HO160 := Hl.am (ho); clear HO_7 HO_152002; clear ho hb hg hat))
             go_roundg k3
             case measure => have := HK1.out; have := HK2.out; have := HK3.out; omega
             case rel => exact ⟨(y158), (wrap64 (x8_2 - 1)), (x1001_3), (x1002_3), (by first | rfl | (simp; done) | (simp [*]; done)), H', ⟨by have := HK1.out; have := HK2.out; have := HK3.out; omega⟩, ⟨Hl.rr HO_4⟩, ⟨rm_ HO_5 (fun _ hk => trivial)⟩, ⟨sm_ HO160 (fun _ hk => hk.1)⟩, ⟨iS_ HI0⟩, ⟨kS_ HK⟩, ⟨bI_ HB⟩⟩
            ·
             rw [if_neg c43] at H
             exact absurd H (by simp)
        ·
         rw [if_neg c19] at H
         exact absurd H (by simp)
       ·
        rw [if_neg c18] at H
        exact absurd H (by simp)
      ·
       rw [if_neg c17] at H
       have c17b0 : decide (0 < x8_2) = false := decide_eq_false c17
       clear c17
       obtain ⟨⟨t161, t162, t163⟩, A490, H⟩ := bE_ H
       (try dsimp only at H)
       have A49 := Hl.am A490
       clear A490
       by_cases c50 : t161 = 0
       ·
        rw [if_pos c50] at H
        have c50b0 : (t161 == 0) = true := beq_iff_eq.mpr c50
        have c50b1 : (t161 != 0) = false := bne_eq_false_iff_eq.mpr c50
        clear c50
        obtain ⟨y164, hy164⟩ : ∃ y_ : List Int, y_ = (([(-1), 0, 1, 5000, 5001, (-9223372036854775808)] : List Int)) := ⟨_, rfl⟩
        replace H : ((spec_l00Src_among.f s0_0 t162 t163 y164).bind fun bt167 => (if 0 < (x5_1.length : Int) then (some ((x5_1.set (0 : Int).toNat bt167.1), x7_2, bt167.2.1, bt167.2.2)) else (none))) = some (r1, r2, r3, r4) := rH_ hy164 H
        have Ny164 := Hl.am hy164
        clear hy164
        obtain ⟨⟨t167, t168, t169⟩, A510, H⟩ := bE_ H
        (try dsimp only at H)
        have A51 := Hl.am A510
        clear A510
        by_cases c52 : 0 < (x5_1.length : Int)
        ·
         rw [if_pos c52] at H
         have c52b0 : decide (0 < (x5_1.length : Int)) = true := decide_eq_true c52
         have c52b1 : decide (0 < x5_1.length) = true := decide_eq_true (by omega)
         clear c52
         obtain ⟨y170, hy170⟩ : ∃ y_ : List Int, y_ = (x5_1.set (0 : Int).toNat t167) := ⟨_, rfl⟩
         replace H : (some (y170, x7_2, t168, t169)) = some (r1, r2, r3, r4) := rH_ hy170 H
         have Ny170 := Hl.am hy170
         clear hy170
         simp only [Option.some.injEq, Prod.mk.injEq] at H
         obtain ⟨rfl, rfl, rfl, rfl⟩ := H
         go_wp2_with (first | ((with_reducible refine gate_callee (f := 32) rfl ?_); refine Hl.gl (some 64) rfl rfl Tryz.func32 (by kernel_rfl) rfl #[.pointer (some ⟨g, 0, none⟩), .int .i64 28] rfl ?_; (with_reducible refine (spec_l00Src_pick.calls g s0_0 x1001_2 x1002_2 28 t161 t162 t163 w0 _ ?side1 ?side2 A49.out).mono ?_); (case side1 => exact iS_ HI0); (case side2 => exact bI_ HB); rintro e w54 ⟨rfl, hi, hb, hk⟩; refine ⟨_, rfl, ?_⟩; replace HO_4 := Hl.am (Kd.R_mono (Kd.R_keep (IsS81.apart (show IsS81 w0 _ g s0_0 x1001_2 x1002_2 from iS_ HI0) (Hl.rr HO_4) (by decide)) hk (fun _ h => h.2)) (fun _ h => h.1)); replace HO_5 := Hl.am (Kd.R_mono (Kd.R_keep (IsS81.apart (show IsS81 w0 _ g s0_0 x1001_2 x1002_2 from iS_ HI0) (Hl.rr HO_5) (by decide)) hk (fun _ h => h.2)) (fun _ h => h.1)); replace HO_7 := Hl.am (Kd.S_mono (Kd.S_keep (IsS81.apartS (show IsS81 w0 _ g s0_0 x1001_2 x1002_2 from iS_ HI0) (sr_ HO_7) (by decide)) hk (fun _ h => h.2)) (fun _ h => h.1)); replace HK := Hl.am (KeepBut.trans (kS_ HK) hk (.inl rfl)); replace HB := Hl.am (hb); replace HI0 := Hl.am (hi); (try clear hb); (try clear hk); (try clear hi)) | ((with_reducible refine gate_dst (N := 69) rfl ?_); refine Kd.R_lit (Kd.int .i64) _ 2 ?hg (N := 69) ?hd (xs := ([(-1), 0, 1, 5000, 5001, (-9223372036854775808)] : List Int)) (inner := [.int .i64 (-1), .int .i64 0, .int .i64 1, .int .i64 5000, .int .i64 5001, .int .i64 (-9223372036854775808)]) (ok := fun _ => True) (okp := fun _ => True) ?hr ?hp (fun _ hk => hk) trivial (Below.refl _ _) (Nat.le_refl _) (by simp) ?_; (case hd => rfl); (case hg => rfl); (case hr => first | (go_simp; done) | (go_simp; rfl)); (case hp => exact (Reps.one (show Kd.M (Kd.int .i64) _ _ _ (-1) [.int .i64 (-1)] from rfl) (Reps.one (show Kd.M (Kd.int .i64) _ _ _ 0 [.int .i64 0] from rfl) (Reps.one (show Kd.M (Kd.int .i64) _ _ _ 1 [.int .i64 1] from rfl) (Reps.one (show Kd.M (Kd.int .i64) _ _ _ 5000 [.int .i64 5000] from rfl) (Reps.one (show Kd.M (Kd.int .i64) _ _ _ 5001 [.int .i64 5001] from rfl) (Reps.one (show Kd.M (Kd.int .i64) _ _ _ (-9223372036854775808) [.int .i64 (-9223372036854775808)] from rfl) (Reps.none _ _)))))))); intro v165 w55 ho56 hb hg_ hnew_; clear hg_ hnew_; (first | rw [← Ny164.out] at ho56 | (simp only [Int.reduceToNat] at ho56; rw [← Ny164.out] at ho56)); replace HO_4 := rB_ HO_4 hb; replace HO_7 := Hl.am (Kd.S_elder' (sr_ HO_7) (Kd.R_base ho56) hb); have HO166 := Hl.am (Kd.R_lower (Kd.R_new' ho56 (Kd.R_lt (Hl.rr HO_5))) (keep_size (w := w) (g := g) (row := none) (kS_ HK))); replace HO_5 := Hl.am (Kd.R_elder' (Hl.rr HO_5) (Kd.R_base ho56) hb); replace HK := Hl.am (KeepBut.trans (kS_ HK) (KeepBut.of_below hb g none) (.inl rfl)); replace HB := Hl.am (below_step (bI_ HB) hb); replace HI0 := Hl.am (IsS81.below (iS_ HI0) hb); clear hb ho56; obtain ⟨Ao57, co57, eo57⟩ := Kd.R_slice HO166.out; subst eo57) | ((with_reducible refine gate_callee (f := 34) rfl ?_); refine Hl.gl (some 70) rfl rfl Tryz.func34 (by kernel_rfl) rfl #[.pointer (some ⟨g, 0, none⟩), .slice Ao57 y164.length co57] rfl ?_; (with_reducible refine (spec_l00Src_among.calls g s0_0 t162 t163 _ _ y164 t167 t168 t169 w0 _ ?side1 ?side2 ?side3 ?side4 ?side5 A51.out).mono ?_); (case side1 => exact iS_ HI0); (case side2 => exact bI_ HB); (case side3 => exact Hl.cc ((Kd.R_reads' HO166.out).2.2)); (case side4 => exact (Kd.R_reads' HO166.out).2.1); (case side5 => exact far_slice (IsS81.own_ne HI0.out HO166.out (by decide))); rintro e w58 ⟨rfl, hi, hb, hk⟩; refine ⟨_, rfl, ?_⟩; replace HO_4 := Hl.am (Kd.R_mono (Kd.R_keep (IsS81.apart (show IsS81 w0 _ g s0_0 t162 t163 from iS_ HI0) (Hl.rr HO_4) (by decide)) hk (fun _ h => h.2)) (fun _ h => h.1)); replace HO_5 := Hl.am (Kd.R_mono (Kd.R_keep (IsS81.apart (show IsS81 w0 _ g s0_0 t162 t163 from iS_ HI0) (Hl.rr HO_5) (by decide)) hk (fun _ h => h.2)) (fun _ h => h.1)); replace HO_7 := Hl.am (Kd.S_mono (Kd.S_keep (IsS81.apartS (show IsS81 w0 _ g s0_0 t162 t163 from iS_ HI0) (sr_ HO_7) (by decide)) hk (fun _ h => h.2)) (fun _ h => h.1)); replace HO166 := Hl.am (Kd.R_mono (Kd.R_keep (IsS81.apart (show IsS81 w0 _ g s0_0 t162 t163 from iS_ HI0) (Hl.rr HO166) (by decide)) hk (fun _ h => h.2)) (fun _ h => h.1)); replace HK := Hl.am (KeepBut.trans (kS_ HK) hk (.inl rfl)); replace HB := Hl.am (hb); replace HI0 := Hl.am (hi); (try clear hb); (try clear hk); (try clear hi); have p53 : 0 ≤ (0 : Int) := (by omega); have q53 : (0 : Int) < ((x5_1.length : Int) : Int) := Hl.od; have qi53 : (0 < x5_1.length) = True := eq_true (by omega); obtain ⟨go53, co53, eo53, gb53, gl53, cl53, HG53⟩ := Kd.R_form HO_5.out (by omega); (first | cases eo53 | (injection eo53 with ea_ en_ ec_; (first | subst ea_ | (injection ea_ with ea_; subst ea_)); subst ec_; clear en_)); have GB53 := Hl.am gb53; have GG53 := Hl.am HG53; clear gb53 gl53 HG53; obtain ⟨hx53_0, hf53_0⟩ := Kd.R_celln 0 HO_5.out (0 : Int) p53 q53; (try rw [show ((0 : Int)).toNat = 0 from rfl] at hx53_0); (try simp only [Nat.reduceMul, Nat.zero_mul, Nat.zero_add, Nat.reduceAdd] at hx53_0); (try rw [show ((0 : Int)).toNat = 0 from rfl] at hf53_0); (try simp only [Nat.reduceMul, Nat.zero_mul, Nat.zero_add, Nat.reduceAdd] at hf53_0); replace p53 := eq_true p53; replace q53 := eq_true q53; have n_ := Hl.am (Kd.R_mono (ok' := (fun k_ => some k_ ≠ (.slice Ao57 y164.length co57 : Value).ownBlock)) HO_5.out (fun k_ hk => hk.2)); clear HO_5; have HO_5 := n_; clear n_; obtain ⟨hy59_, hz59_⟩ := Kd.R_celln 0 HO_5.out (0 : Int) (by omega) (Hl.od); (try simp only [Int.reduceToNat, Int.toNat_zero, Int.toNat_ofNat, Nat.reduceMul, Nat.zero_mul, Nat.zero_add] at hy59_ hz59_); (try rw [show ((0 : Int)).toNat = 0 from rfl] at hy59_); (try rw [show ((0 : Int)).toNat = 0 from rfl] at hz59_); have HP59 := Kd.R_putg HO_5.out (0 : Int) t167) | ((with_reducible refine gate_store (t := 2) (p := 71) rfl ?_); refine store_event (t := 2) (p := 71) (v := ?vo_w60) (w1 := (w58.setCell ⟨go53, (0 : Int).toNat, none⟩ (.int .i64 t167))) ?hg ?ho ?hn ?hr ?_; (case ho => rfl); (case hg => rfl); (case hn => rfl); (case hr => first | (go_simp; done) | (go_simp; rfl)); intro w60 hw; have hg : w58.grownBy w60 (some go53) := (by rw [hw]; exact HP59.2); have hp_ : Kd.R (Kd.int .i64) 2 w60 w.heap.size (fun k_ => some k_ ≠ (.slice Ao57 y164.length co57 : Value).ownBlock) (.slice (some ⟨go53, 0, none⟩) x5_1.length co53) y170 := (by rw [hw, Ny170.out]; exact HP59.1); clear HP59; replace HO_4 := Hl.am (Kd.R_over' (v := (.slice (some ⟨go53, 0, none⟩) x5_1.length co53)) (Hl.rr HO_4) (Kd.R_typed HO_5.out) (by decide) hg); replace HO_7 := Hl.am (Kd.S_after (v := (.slice (some ⟨go53, 0, none⟩) x5_1.length co53)) (v1 := (.slice (some ⟨go53, 0, none⟩) x5_1.length co53)) (ok := (fun k_ => some k_ ≠ (.slice Ao57 y164.length co57 : Value).ownBlock)) (sm_ HO_7 (fun _ hk => ⟨hk.2, hk.1⟩)) hg (.inl rfl)); replace HI0 := Hl.am (IsS81.grown (iS_ HI0) hg (IsS81.own_ne HI0.out HO_5.out (by decide))); replace HO166 := Hl.am (Kd.R_after (v := (.slice (some ⟨go53, 0, none⟩) x5_1.length co53)) (v1 := (.slice (some ⟨go53, 0, none⟩) x5_1.length co53)) (ok := (fun _ => True)) (Hl.rr HO166) hg (.inl rfl)); replace HB := Hl.am ((by rw [hw]; exact below_set (HB.out) (Nat.le_trans HL.out GB53.out) : Below w0.heap.size w0 w60)); replace HK := Hl.am (KeepBut.trans (kS_ HK) (KeepBut.of_grown hg g) (Kd.R_base2 HO_5.out)); replace HO_5 := Hl.am (hp_); clear hg hw hp_))
         go_ret2
         exact ⟨_, _, eW_, rm_ HO_5 (fun _ hk => trivial), sm_ HO_7 (fun _ hk => hk.2), iS_ HI0, bI_ HB, kS_ HK⟩
        ·
         rw [if_neg c52] at H
         exact absurd H (by simp)
       ·
        rw [if_neg c50] at H
        have c50b0 : (t161 == 0) = false := beq_eq_false_iff_ne.mpr c50
        have c50b1 : (t161 != 0) = true := bne_iff_ne.mpr c50
        by_cases c61 : t161 = 1
        ·
         rw [if_pos c61] at H
         have c61b0 : (t161 == 1) = true := beq_iff_eq.mpr c61
         have c61b1 : (t161 != 1) = false := bne_eq_false_iff_eq.mpr c61
         clear c61
         obtain ⟨y171, hy171⟩ : ∃ y_ : List Int, y_ = (([0, 10, 11] : List Int)) := ⟨_, rfl⟩
         replace H : ((spec_l00Src_among.f s0_0 t162 t163 y171).bind fun bt174 => (if 0 ≤ bt174.1 then (if (bt174.1 : Int).toNat ≤ 35184372088832 then (spec_l25Draw.l3 k2 (List.replicate (bt174.1 : Int).toNat 0) (([] : List (S60))) 0 s0_0 bt174.2.1 bt174.2.2) else (none)) else (none))) = some (r1, r2, r3, r4) := rH_ hy171 H
         have Ny171 := Hl.am hy171
         clear hy171
         obtain ⟨⟨t174, t175, t176⟩, A620, H⟩ := bE_ H
         (try dsimp only at H)
         have A62 := Hl.am A620
         clear A620
         by_cases c63 : 0 ≤ t174
         ·
          rw [if_pos c63] at H
          have c63b0 := eq_true c63
          have c63b1 : decide (0 ≤ t174) = true := decide_eq_true c63
          clear c63
          by_cases c64 : (t174 : Int).toNat ≤ 35184372088832
          ·
           rw [if_pos c64] at H
           have c64b0 := eq_true c64
           have c64b1 : decide ((t174 : Int).toNat ≤ 35184372088832) = true := decide_eq_true c64
           clear c64
           obtain ⟨y177, hy177⟩ : ∃ y_ : List Int, y_ = (List.replicate (t174 : Int).toNat 0) := ⟨_, rfl⟩
           replace H : (spec_l25Draw.l3 k2 y177 (([] : List (S60))) 0 s0_0 t175 t176) = some (r1, r2, r3, r4) := rH_ hy177 H
           have Ny177 := Hl.am hy177
           clear hy177
           obtain ⟨y180, hy180⟩ : ∃ y_ : List (S60), y_ = (([] : List (S60))) := ⟨_, rfl⟩
           replace H : (spec_l25Draw.l3 k2 y177 y180 0 s0_0 t175 t176) = some (r1, r2, r3, r4) := rH_ hy180 H
           have Ny180 := Hl.am hy180
           clear hy180
           have H' := Hl.am H
           clear H
           go_wp2_with (first | ((with_reducible refine gate_callee (f := 32) rfl ?_); refine Hl.gl (some 64) rfl rfl Tryz.func32 (by kernel_rfl) rfl #[.pointer (some ⟨g, 0, none⟩), .int .i64 28] rfl ?_; (with_reducible refine (spec_l00Src_pick.calls g s0_0 x1001_2 x1002_2 28 t161 t162 t163 w0 _ ?side1 ?side2 A49.out).mono ?_); (case side1 => exact iS_ HI0); (case side2 => exact bI_ HB); rintro e w65 ⟨rfl, hi, hb, hk⟩; refine ⟨_, rfl, ?_⟩; replace HO_4 := Hl.am (Kd.R_mono (Kd.R_keep (IsS81.apart (show IsS81 w0 _ g s0_0 x1001_2 x1002_2 from iS_ HI0) (Hl.rr HO_4) (by decide)) hk (fun _ h => h.2)) (fun _ h => h.1)); replace HO_5 := Hl.am (Kd.R_mono (Kd.R_keep (IsS81.apart (show IsS81 w0 _ g s0_0 x1001_2 x1002_2 from iS_ HI0) (Hl.rr HO_5) (by decide)) hk (fun _ h => h.2)) (fun _ h => h.1)); replace HO_7 := Hl.am (Kd.S_mono (Kd.S_keep (IsS81.apartS (show IsS81 w0 _ g s0_0 x1001_2 x1002_2 from iS_ HI0) (sr_ HO_7) (by decide)) hk (fun _ h => h.2)) (fun _ h => h.1)); replace HK := Hl.am (KeepBut.trans (kS_ HK) hk (.inl rfl)); replace HB := Hl.am (hb); replace HI0 := Hl.am (hi); (try clear hb); (try clear hk); (try clear hi)) | ((with_reducible refine gate_dst (N := 75) rfl ?_); refine Kd.R_lit (Kd.int .i64) _ 2 ?hg (N := 75) ?hd (xs := ([0, 10, 11] : List Int)) (inner := [.int .i64 0, .int .i64 10, .int .i64 11]) (ok := fun _ => True) (okp := fun _ => True) ?hr ?hp (fun _ hk => hk) trivial (Below.refl _ _) (Nat.le_refl _) (by simp) ?_; (case hd => rfl); (case hg => rfl); (case hr => first | (go_simp; done) | (go_simp; rfl)); (case hp => exact (Reps.one (show Kd.M (Kd.int .i64) _ _ _ 0 [.int .i64 0] from rfl) (Reps.one (show Kd.M (Kd.int .i64) _ _ _ 10 [.int .i64 10] from rfl) (Reps.one (show Kd.M (Kd.int .i64) _ _ _ 11 [.int .i64 11] from rfl) (Reps.none _ _))))); intro v172 w66 ho67 hb hg_ hnew_; clear hg_ hnew_; (first | rw [← Ny171.out] at ho67 | (simp only [Int.reduceToNat] at ho67; rw [← Ny171.out] at ho67)); replace HO_4 := rB_ HO_4 hb; replace HO_7 := Hl.am (Kd.S_elder' (sr_ HO_7) (Kd.R_base ho67) hb); have HO173 := Hl.am (Kd.R_lower (Kd.R_new' ho67 (Kd.R_lt (Hl.rr HO_5))) (keep_size (w := w) (g := g) (row := none) (kS_ HK))); replace HO_5 := Hl.am (Kd.R_elder' (Hl.rr HO_5) (Kd.R_base ho67) hb); replace HK := Hl.am (KeepBut.trans (kS_ HK) (KeepBut.of_below hb g none) (.inl rfl)); replace HB := Hl.am (below_step (bI_ HB) hb); replace HI0 := Hl.am (IsS81.below (iS_ HI0) hb); clear hb ho67; obtain ⟨Ao68, co68, eo68⟩ := Kd.R_slice HO173.out; subst eo68) | ((with_reducible refine gate_callee (f := 34) rfl ?_); refine Hl.gl (some 76) rfl rfl Tryz.func34 (by kernel_rfl) rfl #[.pointer (some ⟨g, 0, none⟩), .slice Ao68 y171.length co68] rfl ?_; (with_reducible refine (spec_l00Src_among.calls g s0_0 t162 t163 _ _ y171 t174 t175 t176 w0 _ ?side1 ?side2 ?side3 ?side4 ?side5 A62.out).mono ?_); (case side1 => exact iS_ HI0); (case side2 => exact bI_ HB); (case side3 => exact Hl.cc ((Kd.R_reads' HO173.out).2.2)); (case side4 => exact (Kd.R_reads' HO173.out).2.1); (case side5 => exact far_slice (IsS81.own_ne HI0.out HO173.out (by decide))); rintro e w69 ⟨rfl, hi, hb, hk⟩; refine ⟨_, rfl, ?_⟩; replace HO_4 := Hl.am (Kd.R_mono (Kd.R_keep (IsS81.apart (show IsS81 w0 _ g s0_0 t162 t163 from iS_ HI0) (Hl.rr HO_4) (by decide)) hk (fun _ h => h.2)) (fun _ h => h.1)); replace HO_5 := Hl.am (Kd.R_mono (Kd.R_keep (IsS81.apart (show IsS81 w0 _ g s0_0 t162 t163 from iS_ HI0) (Hl.rr HO_5) (by decide)) hk (fun _ h => h.2)) (fun _ h => h.1)); replace HO_7 := Hl.am (Kd.S_mono (Kd.S_keep (IsS81.apartS (show IsS81 w0 _ g s0_0 t162 t163 from iS_ HI0) (sr_ HO_7) (by decide)) hk (fun _ h => h.2)) (fun _ h => h.1)); replace HO173 := Hl.am (Kd.R_mono (Kd.R_keep (IsS81.apart (show IsS81 w0 _ g s0_0 t162 t163 from iS_ HI0) (Hl.rr HO173) (by decide)) hk (fun _ h => h.2)) (fun _ h => h.1)); replace HK := Hl.am (KeepBut.trans (kS_ HK) hk (.inl rfl)); replace HB := Hl.am (hb); replace HI0 := Hl.am (hi); (try clear hb); (try clear hk); (try clear hi)) | ((with_reducible refine gate_dst (N := 77) rfl ?_); refine Kd.R_make (Kd.int .i64) _ 2 rfl (N := 77) rfl 24 _ _ rfl t174 rfl rfl Tryz.underlying24 (.int .i64 0) 8 info2 rfl (by decide) (by omega) 0 (ok := fun _ => True) (okp := fun _ => True) rfl (fun _ hk => hk) trivial (Hl.od) (Nat.le_trans (Nat.mul_le_mul_right _ (Hl.od : t174.toNat ≤ 35184372088832)) (by omega)) (Below.refl _ _) (Nat.le_refl _) ?_; intro v178 w70 ho71 hb hg_ hnew_; clear hg_ hnew_; (first | rw [← Ny177.out] at ho71 | (simp only [Int.reduceToNat] at ho71; rw [← Ny177.out] at ho71)); replace HO_4 := rB_ HO_4 hb; replace HO_7 := Hl.am (Kd.S_elder' (sr_ HO_7) (Kd.R_base ho71) hb); have HO179 := Hl.am (Kd.R_lower (Kd.R_new' (Kd.R_new' ho71 (Kd.R_lt (Hl.rr HO_5))) (Kd.R_lt (Hl.rr HO173))) (keep_size (w := w) (g := g) (row := none) (kS_ HK))); replace HO_5 := Hl.am (Kd.R_elder' (Hl.rr HO_5) (Kd.R_base ho71) hb); replace HO173 := Hl.am (Kd.R_elder' (Hl.rr HO173) (Kd.R_base ho71) hb); replace HK := Hl.am (KeepBut.trans (kS_ HK) (KeepBut.of_below hb g none) (.inl rfl)); replace HB := Hl.am (below_step (bI_ HB) hb); replace HI0 := Hl.am (IsS81.below (iS_ HI0) hb); clear hb ho71) | ((with_reducible refine gate_dst (N := 78) rfl ?_); refine Kd.S_lit k60 _ 60 ?hg (N := 78) ?hd (xs := ([] : List (S60))) (inner := []) (ok := fun _ => True) (okp := fun _ => True) ?hr ?hp (fun _ hk => hk) trivial (Below.refl _ _) (Nat.le_refl _) (by simp) ?_; (case hd => rfl); (case hg => rfl); (case hr => first | (go_simp; done) | (go_simp; rfl)); (case hp => exact (Reps.none _ _)); intro v181 w72 ho73 hb hg_ hnew_; clear hg_ hnew_; (first | rw [← Ny180.out] at ho73 | (simp only [Int.reduceToNat] at ho73; rw [← Ny180.out] at ho73)); replace HO_4 := rB_ HO_4 hb; have HO182 := Hl.am (Kd.S_lower (Kd.S_new' (Kd.S_new' (Kd.S_new' (Kd.S_new' ho73 (Kd.R_lt (Hl.rr HO_5))) (Kd.S_lt (sr_ HO_7))) (Kd.R_lt (Hl.rr HO173))) (Kd.R_lt (Hl.rr HO179))) (keep_size (w := w) (g := g) (row := none) (kS_ HK))); replace HO_5 := rB_ HO_5 hb; replace HO_7 := Hl.am (Kd.S_elder' (sr_ HO_7) (Kd.S_base ho73) hb); replace HO173 := rB_ HO173 hb; replace HO179 := rB_ HO179 hb; replace HK := Hl.am (KeepBut.trans (kS_ HK) (KeepBut.of_below hb g none) (.inl rfl)); replace HB := Hl.am (below_step (bI_ HB) hb); replace HI0 := Hl.am (IsS81.below (iS_ HI0) hb); clear hb ho73))
           go_loopg [11] k2 (fun kq v11 w' => ∃ (x5_3 : List Int) (x11_3 : Int), v11 = .int .i64 x11_3 ∧ Aside0 (spec_l25Draw.l3 kq x5_3 y180 x11_3 s0_0 t175 t176 = some (r1, r2, r3, r4)) ∧ Aside0 (kq ≤ k2) ∧ Aside0 (Kd.R (Kd.int .i64) 2 w' w.heap.size (fun _ => True) v178 x5_3) ∧ Aside0 (Kd.S k60 60 w' w.heap.size (fun k_ => some k_ ≠ (v178 : Value).ownBlock) v181 y180) ∧ Aside0 (IsS81 w0 w' g s0_0 t175 t176) ∧ Aside0 (KeepBut w w' g none) ∧ Aside0 (Below w0.heap.size w0 w'))
           case atStart => exact ⟨(y177), (0), (by first | rfl | (simp; done) | (simp [*]; done)), H', ⟨Nat.le_refl _⟩, ⟨rm_ HO179 (fun _ hk => trivial)⟩, ⟨sm_ HO182 (fun _ hk => hk.2)⟩, ⟨iS_ HI0⟩, ⟨kS_ HK⟩, ⟨bI_ HB⟩⟩
           case round =>
            clear H'
            try clear c17b0
            try clear c50
            try clear c50b0
            try clear c50b1
            try clear c61b0
            try clear c61b1
            try clear c63b0
            try clear c63b1
            try clear c64b0
            try clear c64b1
            obtain ⟨x5_3, x11_3, rfl, HA, HK3, HO_5, HO_7, HI0, HK, HB⟩ := hrel
            cases gk with
            | zero => exact absurd HA.out (by simp [spec_l25Draw.l3])
            | succ k3 =>
             have H := HA.out
             clear HA
             simp only [spec_l25Draw.l3] at H
             by_cases c74 : x11_3 < (x5_3.length : Int)
             ·
              rw [if_pos c74] at H
              have c74b0 : decide (x11_3 < (x5_3.length : Int)) = true := decide_eq_true c74
              clear c74
              by_cases c75 : 0 ≤ x11_3
              ·
               rw [if_pos c75] at H
               have c75b0 : decide (0 ≤ x11_3) = true := decide_eq_true c75
               clear c75
               obtain ⟨y183, hy183⟩ : ∃ y_ : List Int, y_ = (x5_3.set (x11_3 : Int).toNat 5) := ⟨_, rfl⟩
               replace H : (spec_l25Draw.l3 k3 y183 y180 (wrap64 (x11_3 + 1)) s0_0 t175 t176) = some (r1, r2, r3, r4) := rH_ hy183 H
               have Ny183 := Hl.am hy183
               clear hy183
               have H' := Hl.am H
               clear H
               obtain ⟨Ao77, co77, eo77⟩ := Kd.R_slice HO_5.out
               subst eo77
               have p76 : 0 ≤ (x11_3 : Int) := Hl.od
               have q76 : (x11_3 : Int) < ((x5_3.length : Int) : Int) := Hl.od
               obtain ⟨go76, co76, eo76, gb76, gl76, cl76, HG76⟩ := Kd.R_form HO_5.out (by omega)
               (first | cases eo76 | (injection eo76 with ea_ en_ ec_; (first | subst ea_ | (injection ea_ with ea_; subst ea_)); subst ec_; clear en_))
               have GB76 := Hl.am gb76
               have GG76 := Hl.am HG76
               clear gb76 gl76 HG76
               obtain ⟨hx76_0, hf76_0⟩ := Kd.R_celln 0 HO_5.out (x11_3 : Int) p76 q76
               replace p76 := eq_true p76
               replace q76 := eq_true q76
               have HP78 := Kd.R_putg HO_5.out (x11_3 : Int) 5
               go_wp2_with (first | ((with_reducible refine gate_store (t := 2) (p := 87) rfl ?_); refine store_event (t := 2) (p := 87) (v := ?vo_w79) (w1 := (wr.setCell ⟨go76, (x11_3 : Int).toNat, none⟩ (.int .i64 5))) ?hg ?ho ?hn ?hr ?_; (case ho => rfl); (case hg => rfl); (case hn => rfl); (case hr => first | (go_simp; done) | (go_simp; rfl)); intro w79 hw; have hg : wr.grownBy w79 (some go76) := (by rw [hw]; exact HP78.2); have hp_ : Kd.R (Kd.int .i64) 2 w79 w.heap.size (fun _ => True) (.slice (some ⟨go76, 0, none⟩) x5_3.length co77) y183 := (by rw [hw, Ny183.out]; exact HP78.1); clear HP78; replace HO_7 := Hl.am (Kd.S_after (v := (.slice (some ⟨go76, 0, none⟩) x5_3.length co77)) (v1 := (.slice (some ⟨go76, 0, none⟩) x5_3.length co77)) (ok := (fun _ => True)) (sm_ HO_7 (fun _ hk => ⟨trivial, hk⟩)) hg (.inl rfl)); replace HI0 := Hl.am (IsS81.grown (iS_ HI0) hg (IsS81.own_ne HI0.out HO_5.out (by decide))); replace HB := Hl.am ((by rw [hw]; exact below_set (HB.out) (Nat.le_trans HL.out GB76.out) : Below w0.heap.size w0 w79)); replace HK := Hl.am (KeepBut.trans (kS_ HK) (KeepBut.of_grown hg g) (Kd.R_base2 HO_5.out)); replace HO_5 := Hl.am (hp_); clear hg hw hp_))
               go_roundg k3
               case measure => have := HK1.out; have := HK2.out; have := HK3.out; omega
               case rel => exact ⟨(y183), (wrap64 (x11_3 + 1)), (by first | rfl | (simp; done) | (simp [*]; done)), H', ⟨by have := HK1.out; have := HK2.out; have := HK3.out; omega⟩, ⟨Hl.rr HO_5⟩, ⟨sm_ HO_7 (fun _ hk => hk.2)⟩, ⟨iS_ HI0⟩, ⟨kS_ HK⟩, ⟨bI_ HB⟩⟩
              ·
               rw [if_neg c75] at H
               exact absurd H (by simp)
             ·
              rw [if_neg c74] at H
              have c74b0 : decide (x11_3 < (x5_3.length : Int)) = false := decide_eq_false c74
              clear c74
              simp only [Option.some.injEq, Prod.mk.injEq] at H
              obtain ⟨rfl, rfl, rfl, rfl⟩ := H
              obtain ⟨Ao80, co80, eo80⟩ := Kd.R_slice HO_5.out
              subst eo80
              go_wp2
              go_ret2
              exact ⟨_, _, eW_, Hl.rr HO_5, sr_ HO_7, iS_ HI0, bI_ HB, kS_ HK⟩
          ·
           rw [if_neg c64] at H
           exact absurd H (by simp)
         ·
          rw [if_neg c63] at H
          exact absurd H (by simp)
        ·
         rw [if_neg c61] at H
         have c61b0 : (t161 == 1) = false := beq_eq_false_iff_ne.mpr c61
         have c61b1 : (t161 != 1) = true := bne_iff_ne.mpr c61
         by_cases c81 : t161 = 2
         ·
          rw [if_pos c81] at H
          have c81b0 : (t161 == 2) = true := beq_iff_eq.mpr c81
          have c81b1 : (t161 != 2) = false := bne_eq_false_iff_eq.mpr c81
          clear c81
          obtain ⟨y184, hy184⟩ : ∃ y_ : List ByteArray, y_ = (([(⟨#[]⟩ : ByteArray), (⟨#[71, 117, 115]⟩ : ByteArray), (⟨#[97, 110, 110, 101]⟩ : ByteArray), (⟨#[103, 117, 115]⟩ : ByteArray)] : List ByteArray)) := ⟨_, rfl⟩
          replace H : ((spec_l00Src_text.f s0_0 t162 t163 y184).bind fun bt187 => ((spec_l00Own.f x5_1).bind fun t190 => (if x7_2.length < 2932031007402 then (some (x5_1, (x7_2 ++ [(⟨bt187.1, 0, t190⟩ : S60)]), bt187.2.1, bt187.2.2)) else (none)))) = some (r1, r2, r3, r4) := rH_ hy184 H
          have Ny184 := Hl.am hy184
          clear hy184
          obtain ⟨⟨t187, t188, t189⟩, A820, H⟩ := bE_ H
          (try dsimp only at H)
          have A82 := Hl.am A820
          clear A820
          obtain ⟨t190, A830, H⟩ := bE_ H
          (try dsimp only at H)
          have A83 := Hl.am A830
          clear A830
          by_cases c84 : x7_2.length < 2932031007402
          ·
           rw [if_pos c84] at H
           have LMc84 := Hl.am c84
           clear c84
           obtain ⟨y193, hy193⟩ : ∃ y_ : List (S60), y_ = (x7_2 ++ [(⟨t187, 0, t190⟩ : S60)]) := ⟨_, rfl⟩
           replace H : (some (x5_1, y193, t188, t189)) = some (r1, r2, r3, r4) := rH_ hy193 H
           have Ny193 := Hl.am hy193
           clear hy193
           simp only [Option.some.injEq, Prod.mk.injEq] at H
           obtain ⟨rfl, rfl, rfl, rfl⟩ := H
           go_wp2_with (first | ((with_reducible refine gate_callee (f := 32) rfl ?_); refine Hl.gl (some 64) rfl rfl Tryz.func32 (by kernel_rfl) rfl #[.pointer (some ⟨g, 0, none⟩), .int .i64 28] rfl ?_; (with_reducible refine (spec_l00Src_pick.calls g s0_0 x1001_2 x1002_2 28 t161 t162 t163 w0 _ ?side1 ?side2 A49.out).mono ?_); (case side1 => exact iS_ HI0); (case side2 => exact bI_ HB); rintro e w85 ⟨rfl, hi, hb, hk⟩; refine ⟨_, rfl, ?_⟩; replace HO_4 := Hl.am (Kd.R_mono (Kd.R_keep (IsS81.apart (show IsS81 w0 _ g s0_0 x1001_2 x1002_2 from iS_ HI0) (Hl.rr HO_4) (by decide)) hk (fun _ h => h.2)) (fun _ h => h.1)); replace HO_5 := Hl.am (Kd.R_mono (Kd.R_keep (IsS81.apart (show IsS81 w0 _ g s0_0 x1001_2 x1002_2 from iS_ HI0) (Hl.rr HO_5) (by decide)) hk (fun _ h => h.2)) (fun _ h => h.1)); replace HO_7 := Hl.am (Kd.S_mono (Kd.S_keep (IsS81.apartS (show IsS81 w0 _ g s0_0 x1001_2 x1002_2 from iS_ HI0) (sr_ HO_7) (by decide)) hk (fun _ h => h.2)) (fun _ h => h.1)); replace HK := Hl.am (KeepBut.trans (kS_ HK) hk (.inl rfl)); replace HB := Hl.am (hb); replace HI0 := Hl.am (hi); (try clear hb); (try clear hk); (try clear hi)) | ((with_reducible refine gate_dst (N := 92) rfl ?_); refine Kd.R_lit Kd.string _ 9 ?hg (N := 92) ?hd (xs := ([(⟨#[]⟩ : ByteArray), (⟨#[71, 117, 115]⟩ : ByteArray), (⟨#[97, 110, 110, 101]⟩ : ByteArray), (⟨#[103, 117, 115]⟩ : ByteArray)] : List ByteArray)) (inner := [.string (⟨#[]⟩ : ByteArray), .string (⟨#[71, 117, 115]⟩ : ByteArray), .string (⟨#[97, 110, 110, 101]⟩ : ByteArray), .string (⟨#[103, 117, 115]⟩ : ByteArray)]) (ok := fun _ => True) (okp := fun _ => True) ?hr ?hp (fun _ hk => hk) trivial (Below.refl _ _) (Nat.le_refl _) (by simp) ?_; (case hd => rfl); (case hg => rfl); (case hr => first | (go_simp; done) | (go_simp; rfl)); (case hp => exact (Reps.one (show Kd.M Kd.string _ _ _ (⟨#[]⟩ : ByteArray) [.string (⟨#[]⟩ : ByteArray)] from rfl) (Reps.one (show Kd.M Kd.string _ _ _ (⟨#[71, 117, 115]⟩ : ByteArray) [.string (⟨#[71, 117, 115]⟩ : ByteArray)] from rfl) (Reps.one (show Kd.M Kd.string _ _ _ (⟨#[97, 110, 110, 101]⟩ : ByteArray) [.string (⟨#[97, 110, 110, 101]⟩ : ByteArray)] from rfl) (Reps.one (show Kd.M Kd.string _ _ _ (⟨#[103, 117, 115]⟩ : ByteArray) [.string (⟨#[103, 117, 115]⟩ : ByteArray)] from rfl) (Reps.none _ _)))))); intro v185 w86 ho87 hb hg_ hnew_; clear hg_ hnew_; (first | rw [← Ny184.out] at ho87 | (simp only [Int.reduceToNat] at ho87; rw [← Ny184.out] at ho87)); replace HO_5 := rB_ HO_5 hb; replace HO_7 := Hl.am (Kd.S_below (sr_ HO_7) hb); have HO186 := Hl.am (Kd.R_lower (Kd.R_new' ho87 (Kd.R_lt (Hl.rr HO_4))) (keep_size (w := w) (g := g) (row := none) (kS_ HK))); replace HO_4 := Hl.am (Kd.R_elder' (Hl.rr HO_4) (Kd.R_base ho87) hb); replace HK := Hl.am (KeepBut.trans (kS_ HK) (KeepBut.of_below hb g none) (.inl rfl)); replace HB := Hl.am (below_step (bI_ HB) hb); replace HI0 := Hl.am (IsS81.below (iS_ HI0) hb); clear hb ho87; obtain ⟨Ao88, co88, eo88⟩ := Kd.R_slice HO186.out; subst eo88) | ((with_reducible refine gate_callee (f := 65) rfl ?_); refine Hl.gl (some 93) rfl rfl Tryz.func65 (by kernel_rfl) rfl #[.pointer (some ⟨g, 0, none⟩), .slice Ao88 y184.length co88] rfl ?_; (with_reducible refine (spec_l00Src_text.calls g s0_0 t162 t163 _ _ y184 t187 t188 t189 w0 _ ?side1 ?side2 ?side3 ?side4 ?side5 A82.out).mono ?_); (case side1 => exact iS_ HI0); (case side2 => exact bI_ HB); (case side3 => exact Hl.cc ((Kd.R_reads' HO186.out).2.2)); (case side4 => exact (Kd.R_reads' HO186.out).2.1); (case side5 => exact far_slice (IsS81.own_ne HI0.out HO186.out (by decide))); rintro e w89 ⟨rfl, hi, hb, hk⟩; refine ⟨_, rfl, ?_⟩; replace HO_4 := Hl.am (Kd.R_mono (Kd.R_keep (IsS81.apart (show IsS81 w0 _ g s0_0 t162 t163 from iS_ HI0) (Hl.rr HO_4) (by decide)) hk (fun _ h => h.2)) (fun _ h => h.1)); replace HO_5 := Hl.am (Kd.R_mono (Kd.R_keep (IsS81.apart (show IsS81 w0 _ g s0_0 t162 t163 from iS_ HI0) (Hl.rr HO_5) (by decide)) hk (fun _ h => h.2)) (fun _ h => h.1)); replace HO_7 := Hl.am (Kd.S_mono (Kd.S_keep (IsS81.apartS (show IsS81 w0 _ g s0_0 t162 t163 from iS_ HI0) (sr_ HO_7) (by decide)) hk (fun _ h => h.2)) (fun _ h => h.1)); replace HO186 := Hl.am (Kd.R_mono (Kd.R_keep (IsS81.apart (show IsS81 w0 _ g s0_0 t162 t163 from iS_ HI0) (Hl.rr HO186) (by decide)) hk (fun _ h => h.2)) (fun _ h => h.1)); replace HK := Hl.am (KeepBut.trans (kS_ HK) hk (.inl rfl)); replace HB := Hl.am (hb); replace HI0 := Hl.am (hi); (try clear hb); (try clear hk); (try clear hi); obtain ⟨Ao90, co90, eo90⟩ := Kd.R_slice HO_5.out; subst eo90) | ((with_reducible refine gate_callee (f := 41) rfl ?_); refine Hl.gl (some 95) rfl rfl Tryz.func41 (by kernel_rfl) rfl #[.slice Ao90 x5_1.length co90] rfl ?_; (with_reducible refine (spec_l00Own.calls _ _ x5_1 t190 _ ?side1 ?side2 A83.out).mono ?_); (case side1 => exact Hl.cc ((Kd.R_reads' HO_5.out).2.2)); (case side2 => exact (Kd.R_reads' HO_5.out).2.1); rintro e w91 ⟨v191, rfl, ho0, hb⟩; refine ⟨_, rfl, ?_⟩; replace HO_4 := rB_ HO_4 hb; replace HO_7 := Hl.am (Kd.S_elder' (sr_ HO_7) (Kd.R_base ho0) hb); replace HO186 := rB_ HO186 hb; have HO192 := Hl.am (Kd.R_lower (Kd.R_new' ho0 (Kd.R_lt (Hl.rr HO_5))) (keep_size (w := w) (g := g) (row := none) (kS_ HK))); replace HO_5 := Hl.am (Kd.R_elder' (Hl.rr HO_5) (Kd.R_base ho0) hb); replace HK := Hl.am (KeepBut.trans (kS_ HK) (KeepBut.of_below hb g none) (.inl rfl)); replace HB := Hl.am (below_step (bI_ HB) hb); replace HI0 := Hl.am (IsS81.below (iS_ HI0) hb); (try clear hb); (try clear ho0); obtain ⟨Ao92, co92, eo92⟩ := Kd.R_slice HO192.out; subst eo92) | ((with_reducible refine gate_builtin (b := .append) (xs := #[.tmp 90, .tmp 97]) rfl ?_); at_builtin; refine Kd.S_append k60 w.heap.size rfl (.tmp 90) (.tmp 97) 25 60 (.agg #[(.string ⟨#[]⟩), (.int .i64 0), (.slice none 0 0)]) 48 rfl Tryz.underlying25 info60 rfl (by decide) (by omega) u7 x7_2 (⟨t187, 0, t190⟩ : S60) [.string t187, .int .i64 0, .slice Ao92 t190.length co92] (fun k_ => some k_ ≠ (.slice Ao90 x5_1.length co90 : Value).ownBlock) (fun k_ => some k_ = (.slice Ao92 t190.length co92 : Value).ownBlock) rfl rfl ?aP (fun k_ hk_ => ((Kd.R_mono (ok' := fun k_ => ((fun k_ => some k_ ≠ (.slice Ao90 x5_1.length co90 : Value).ownBlock)) k_ ∧ some k_ ≠ (u7 : Value).ownBlock) (Kd.R_apart' (HO192.out) (Kd.S_typed HO_7.out) (by decide)) (fun k_ hk => ⟨hk.1.2, hk.2⟩))).1 k_ hk_.symm) ?aF ?aO (Below.refl _ _) ?aS ?aL ?_; (case aP => exact k60_mkM _ _ _ (⟨t187, 0, t190⟩ : S60) (Kd.R_mono (Kd.R_tight rfl (Kd.R_mono (ok' := fun k_ => ((fun k_ => some k_ ≠ (.slice Ao90 x5_1.length co90 : Value).ownBlock)) k_ ∧ some k_ ≠ (u7 : Value).ownBlock) (Kd.R_apart' (HO192.out) (Kd.S_typed HO_7.out) (by decide)) (fun k_ hk => ⟨hk.1.2, hk.2⟩))) (fun _ h_ => h_))); (case aF => exact (fun k_ hk => Kd.fresh' (Kd.R_lt (Hl.rr HO_5)) k_ hk)); (case aO => exact (sm_ HO_7 (fun k_ hk => ⟨hk.1, fun e_ => hk.2 e_⟩))); (case aS => exact (keep_size (w := w) (g := g) (row := none) (kS_ HK))); (case aL => have := LMc84.out; omega); intro v194 w93 ho hb hg hat; rw [← Ny193.out] at ho; replace HO_4 := Hl.am (Kd.R_over' (Hl.rr HO_4) (Kd.S_typed (sr_ HO_7)) (by decide) hg); replace HO_5 := Hl.am (Kd.R_over' (Hl.rr HO_5) (Kd.S_typed (sr_ HO_7)) (by decide) hg); replace HO186 := Hl.am (Kd.R_over' (Hl.rr HO186) (Kd.S_typed (sr_ HO_7)) (by decide) hg); replace HB := Hl.am (below_weaken (bI_ HB) HL.out hb); replace HI0 := Hl.am (IsS81.grown (iS_ HI0) hg (IsS81.own_neS HI0.out HO_7.out (by decide))); replace HK := Hl.am (KeepBut.trans (kS_ HK) (KeepBut.of_grown hg g) (Kd.S_base2 HO_7.out)); have HO195 := Hl.am (ho); clear HO_7 HO192; clear ho hb hg hat))
           go_ret2
           exact ⟨_, _, eW_, rm_ HO_5 (fun _ hk => trivial), sr_ HO195, iS_ HI0, bI_ HB, kS_ HK⟩
          ·
           rw [if_neg c84] at H
           exact absurd H (by simp)
         ·
          rw [if_neg c81] at H
          have c81b0 : (t161 == 2) = false := beq_eq_false_iff_ne.mpr c81
          have c81b1 : (t161 != 2) = true := bne_iff_ne.mpr c81
          by_cases c94 : t161 = 3
          ·
           rw [if_pos c94] at H
           have c94b0 : (t161 == 3) = true := beq_iff_eq.mpr c94
           have c94b1 : (t161 != 3) = false := bne_eq_false_iff_eq.mpr c94
           clear c94
           obtain ⟨y196, hy196⟩ : ∃ y_ : List Int, y_ = (([(-1), 0, 5000, 5001] : List Int)) := ⟨_, rfl⟩
           replace H : ((spec_l00Src_among.f s0_0 t162 t163 y196).bind fun bt199 => ((spec_l00Own.f x5_1).bind fun t202 => (if x7_2.length < 2932031007402 then (some (x5_1, (x7_2 ++ [(⟨(⟨#[103, 117, 115]⟩ : ByteArray), bt199.1, t202⟩ : S60)]), bt199.2.1, bt199.2.2)) else (none)))) = some (r1, r2, r3, r4) := rH_ hy196 H
           have Ny196 := Hl.am hy196
           clear hy196
           obtain ⟨⟨t199, t200, t201⟩, A950, H⟩ := bE_ H
           (try dsimp only at H)
           have A95 := Hl.am A950
           clear A950
           obtain ⟨t202, A960, H⟩ := bE_ H
           (try dsimp only at H)
           have A96 := Hl.am A960
           clear A960
           by_cases c97 : x7_2.length < 2932031007402
           ·
            rw [if_pos c97] at H
            have LMc97 := Hl.am c97
            clear c97
            obtain ⟨y205, hy205⟩ : ∃ y_ : List (S60), y_ = (x7_2 ++ [(⟨(⟨#[103, 117, 115]⟩ : ByteArray), t199, t202⟩ : S60)]) := ⟨_, rfl⟩
            replace H : (some (x5_1, y205, t200, t201)) = some (r1, r2, r3, r4) := rH_ hy205 H
            have Ny205 := Hl.am hy205
            clear hy205
            simp only [Option.some.injEq, Prod.mk.injEq] at H
            obtain ⟨rfl, rfl, rfl, rfl⟩ := H
            go_wp2_with (first | ((with_reducible refine gate_callee (f := 32) rfl ?_); refine Hl.gl (some 64) rfl rfl Tryz.func32 (by kernel_rfl) rfl #[.pointer (some ⟨g, 0, none⟩), .int .i64 28] rfl ?_; (with_reducible refine (spec_l00Src_pick.calls g s0_0 x1001_2 x1002_2 28 t161 t162 t163 w0 _ ?side1 ?side2 A49.out).mono ?_); (case side1 => exact iS_ HI0); (case side2 => exact bI_ HB); rintro e w98 ⟨rfl, hi, hb, hk⟩; refine ⟨_, rfl, ?_⟩; replace HO_4 := Hl.am (Kd.R_mono (Kd.R_keep (IsS81.apart (show IsS81 w0 _ g s0_0 x1001_2 x1002_2 from iS_ HI0) (Hl.rr HO_4) (by decide)) hk (fun _ h => h.2)) (fun _ h => h.1)); replace HO_5 := Hl.am (Kd.R_mono (Kd.R_keep (IsS81.apart (show IsS81 w0 _ g s0_0 x1001_2 x1002_2 from iS_ HI0) (Hl.rr HO_5) (by decide)) hk (fun _ h => h.2)) (fun _ h => h.1)); replace HO_7 := Hl.am (Kd.S_mono (Kd.S_keep (IsS81.apartS (show IsS81 w0 _ g s0_0 x1001_2 x1002_2 from iS_ HI0) (sr_ HO_7) (by decide)) hk (fun _ h => h.2)) (fun _ h => h.1)); replace HK := Hl.am (KeepBut.trans (kS_ HK) hk (.inl rfl)); replace HB := Hl.am (hb); replace HI0 := Hl.am (hi); (try clear hb); (try clear hk); (try clear hi)) | ((with_reducible refine gate_dst (N := 103) rfl ?_); refine Kd.R_lit (Kd.int .i64) _ 2 ?hg (N := 103) ?hd (xs := ([(-1), 0, 5000, 5001] : List Int)) (inner := [.int .i64 (-1), .int .i64 0, .int .i64 5000, .int .i64 5001]) (ok := fun _ => True) (okp := fun _ => True) ?hr ?hp (fun _ hk => hk) trivial (Below.refl _ _) (Nat.le_refl _) (by simp) ?_; (case hd => rfl); (case hg => rfl); (case hr => first | (go_simp; done) | (go_simp; rfl)); (case hp => exact (Reps.one (show Kd.M (Kd.int .i64) _ _ _ (-1) [.int .i64 (-1)] from rfl) (Reps.one (show Kd.M (Kd.int .i64) _ _ _ 0 [.int .i64 0] from rfl) (Reps.one (show Kd.M (Kd.int .i64) _ _ _ 5000 [.int .i64 5000] from rfl) (Reps.one (show Kd.M (Kd.int .i64) _ _ _ 5001 [.int .i64 5001] from rfl) (Reps.none _ _)))))); intro v197 w99 ho100 hb hg_ hnew_; clear hg_ hnew_; (first | rw [← Ny196.out] at ho100 | (simp only [Int.reduceToNat] at ho100; rw [← Ny196.out] at ho100)); replace HO_4 := rB_ HO_4 hb; replace HO_7 := Hl.am (Kd.S_elder' (sr_ HO_7) (Kd.R_base ho100) hb); have HO198 := Hl.am (Kd.R_lower (Kd.R_new' ho100 (Kd.R_lt (Hl.rr HO_5))) (keep_size (w := w) (g := g) (row := none) (kS_ HK))); replace HO_5 := Hl.am (Kd.R_elder' (Hl.rr HO_5) (Kd.R_base ho100) hb); replace HK := Hl.am (KeepBut.trans (kS_ HK) (KeepBut.of_below hb g none) (.inl rfl)); replace HB := Hl.am (below_step (bI_ HB) hb); replace HI0 := Hl.am (IsS81.below (iS_ HI0) hb); clear hb ho100; obtain ⟨Ao101, co101, eo101⟩ := Kd.R_slice HO198.out; subst eo101) | ((with_reducible refine gate_callee (f := 34) rfl ?_); refine Hl.gl (some 104) rfl rfl Tryz.func34 (by kernel_rfl) rfl #[.pointer (some ⟨g, 0, none⟩), .slice Ao101 y196.length co101] rfl ?_; (with_reducible refine (spec_l00Src_among.calls g s0_0 t162 t163 _ _ y196 t199 t200 t201 w0 _ ?side1 ?side2 ?side3 ?side4 ?side5 A95.out).mono ?_); (case side1 => exact iS_ HI0); (case side2 => exact bI_ HB); (case side3 => exact Hl.cc ((Kd.R_reads' HO198.out).2.2)); (case side4 => exact (Kd.R_reads' HO198.out).2.1); (case side5 => exact far_slice (IsS81.own_ne HI0.out HO198.out (by decide))); rintro e w102 ⟨rfl, hi, hb, hk⟩; refine ⟨_, rfl, ?_⟩; replace HO_4 := Hl.am (Kd.R_mono (Kd.R_keep (IsS81.apart (show IsS81 w0 _ g s0_0 t162 t163 from iS_ HI0) (Hl.rr HO_4) (by decide)) hk (fun _ h => h.2)) (fun _ h => h.1)); replace HO_5 := Hl.am (Kd.R_mono (Kd.R_keep (IsS81.apart (show IsS81 w0 _ g s0_0 t162 t163 from iS_ HI0) (Hl.rr HO_5) (by decide)) hk (fun _ h => h.2)) (fun _ h => h.1)); replace HO_7 := Hl.am (Kd.S_mono (Kd.S_keep (IsS81.apartS (show IsS81 w0 _ g s0_0 t162 t163 from iS_ HI0) (sr_ HO_7) (by decide)) hk (fun _ h => h.2)) (fun _ h => h.1)); replace HO198 := Hl.am (Kd.R_mono (Kd.R_keep (IsS81.apart (show IsS81 w0 _ g s0_0 t162 t163 from iS_ HI0) (Hl.rr HO198) (by decide)) hk (fun _ h => h.2)) (fun _ h => h.1)); replace HK := Hl.am (KeepBut.trans (kS_ HK) hk (.inl rfl)); replace HB := Hl.am (hb); replace HI0 := Hl.am (hi); (try clear hb); (try clear hk); (try clear hi); obtain ⟨Ao103, co103, eo103⟩ := Kd.R_slice HO_5.out; subst eo103) | ((with_reducible refine gate_callee (f := 41) rfl ?_); refine Hl.gl (some 106) rfl rfl Tryz.func41 (by kernel_rfl) rfl #[.slice Ao103 x5_1.length co103] rfl ?_; (with_reducible refine (spec_l00Own.calls _ _ x5_1 t202 _ ?side1 ?side2 A96.out).mono ?_); (case side1 => exact Hl.cc ((Kd.R_reads' HO_5.out).2.2)); (case side2 => exact (Kd.R_reads' HO_5.out).2.1); rintro e w104 ⟨v203, rfl, ho0, hb⟩; refine ⟨_, rfl, ?_⟩; replace HO_4 := rB_ HO_4 hb; replace HO_7 := Hl.am (Kd.S_elder' (sr_ HO_7) (Kd.R_base ho0) hb); have HO204 := Hl.am (Kd.R_lower (Kd.R_new' (Kd.R_new' ho0 (Kd.R_lt (Hl.rr HO_5))) (Kd.R_lt (Hl.rr HO198))) (keep_size (w := w) (g := g) (row := none) (kS_ HK))); replace HO_5 := Hl.am (Kd.R_elder' (Hl.rr HO_5) (Kd.R_base ho0) hb); replace HO198 := Hl.am (Kd.R_elder' (Hl.rr HO198) (Kd.R_base ho0) hb); replace HK := Hl.am (KeepBut.trans (kS_ HK) (KeepBut.of_below hb g none) (.inl rfl)); replace HB := Hl.am (below_step (bI_ HB) hb); replace HI0 := Hl.am (IsS81.below (iS_ HI0) hb); (try clear hb); (try clear ho0); obtain ⟨Ao105, co105, eo105⟩ := Kd.R_slice HO204.out; subst eo105) | ((with_reducible refine gate_builtin (b := .append) (xs := #[.tmp 101, .tmp 108]) rfl ?_); at_builtin; refine Kd.S_append k60 w.heap.size rfl (.tmp 101) (.tmp 108) 25 60 (.agg #[(.string ⟨#[]⟩), (.int .i64 0), (.slice none 0 0)]) 48 rfl Tryz.underlying25 info60 rfl (by decide) (by omega) u7 x7_2 (⟨(⟨#[103, 117, 115]⟩ : ByteArray), t199, t202⟩ : S60) [.string (⟨#[103, 117, 115]⟩ : ByteArray), .int .i64 t199, .slice Ao105 t202.length co105] (fun k_ => some k_ ≠ (.slice Ao103 x5_1.length co103 : Value).ownBlock ∧ some k_ ≠ (.slice Ao101 y196.length co101 : Value).ownBlock) (fun k_ => some k_ = (.slice Ao105 t202.length co105 : Value).ownBlock) rfl rfl ?aP (fun k_ hk_ => ((Kd.R_mono (ok' := fun k_ => ((fun k_ => some k_ ≠ (.slice Ao103 x5_1.length co103 : Value).ownBlock ∧ some k_ ≠ (.slice Ao101 y196.length co101 : Value).ownBlock)) k_ ∧ some k_ ≠ (u7 : Value).ownBlock) (Kd.R_apart' (HO204.out) (Kd.S_typed HO_7.out) (by decide)) (fun k_ hk => ⟨⟨hk.1.1.2, hk.1.2⟩, hk.2⟩))).1 k_ hk_.symm) ?aF ?aO (Below.refl _ _) ?aS ?aL ?_; (case aP => exact k60_mkM _ _ _ (⟨(⟨#[103, 117, 115]⟩ : ByteArray), t199, t202⟩ : S60) (Kd.R_mono (Kd.R_tight rfl (Kd.R_mono (ok' := fun k_ => ((fun k_ => some k_ ≠ (.slice Ao103 x5_1.length co103 : Value).ownBlock ∧ some k_ ≠ (.slice Ao101 y196.length co101 : Value).ownBlock)) k_ ∧ some k_ ≠ (u7 : Value).ownBlock) (Kd.R_apart' (HO204.out) (Kd.S_typed HO_7.out) (by decide)) (fun k_ hk => ⟨⟨hk.1.1.2, hk.1.2⟩, hk.2⟩))) (fun _ h_ => h_))); (case aF => exact (fun k_ hk => ⟨Kd.fresh' (Kd.R_lt (Hl.rr HO_5)) k_ hk, Kd.fresh' (Kd.R_lt (Hl.rr HO198)) k_ hk⟩)); (case aO => exact (sm_ HO_7 (fun k_ hk => ⟨⟨hk.1.1, hk.1.2⟩, fun e_ => hk.2 e_⟩))); (case aS => exact (keep_size (w := w) (g := g) (row := none) (kS_ HK))); (case aL => have := LMc97.out; omega); intro v206 w106 ho hb hg hat; rw [← Ny205.out] at ho; replace HO_4 := Hl.am (Kd.R_over' (Hl.rr HO_4) (Kd.S_typed (sr_ HO_7)) (by decide) hg); replace HO_5 := Hl.am (Kd.R_over' (Hl.rr HO_5) (Kd.S_typed (sr_ HO_7)) (by decide) hg); replace HO198 := Hl.am (Kd.R_over' (Hl.rr HO198) (Kd.S_typed (sr_ HO_7)) (by decide) hg); replace HB := Hl.am (below_weaken (bI_ HB) HL.out hb); replace HI0 := Hl.am (IsS81.grown (iS_ HI0) hg (IsS81.own_neS HI0.out HO_7.out (by decide))); replace HK := Hl.am (KeepBut.trans (kS_ HK) (KeepBut.of_grown hg g) (Kd.S_base2 HO_7.out)); have HO207 := Hl.am (ho); clear HO_7 HO204; clear ho hb hg hat))
            go_ret2
            exact ⟨_, _, eW_, rm_ HO_5 (fun _ hk => trivial), sm_ HO207 (fun _ hk => hk.1), iS_ HI0, bI_ HB, kS_ HK⟩
           ·
            rw [if_neg c97] at H
            exact absurd H (by simp)
          ·
           rw [if_neg c94] at H
           have c94b0 : (t161 == 3) = false := beq_eq_false_iff_ne.mpr c94
           have c94b1 : (t161 != 3) = true := bne_iff_ne.mpr c94
           by_cases c107 : t161 = 4
           ·
            rw [if_pos c107] at H
            have c107b0 : (t161 == 4) = true := beq_iff_eq.mpr c107
            have c107b1 : (t161 != 4) = false := bne_eq_false_iff_eq.mpr c107
            clear c107
            by_cases c108 : 1 ≤ (x5_1.length : Int)
            ·
             rw [if_pos c108] at H
             have c108b0 := eq_true c108
             have c108b1 : decide (1 ≤ (x5_1.length : Int)) = true := decide_eq_true c108
             clear c108
             obtain ⟨y208, hy208⟩ : ∃ y_ : List Int, y_ = (x5_1.drop 1) := ⟨_, rfl⟩
             replace H : ((spec_l00Own.f y208).bind fun t212 => ((spec_l00Src_among.f s0_0 t162 t163 (([(-1), 0, 5000, 5001] : List Int))).bind fun bt218 => (if t212.length < 17592186044416 then (if x7_2.length < 2932031007402 then (some (x5_1, (x7_2 ++ [(⟨(⟨#[103, 117, 115]⟩ : ByteArray), 0, (t212 ++ [bt218.1])⟩ : S60)]), bt218.2.1, bt218.2.2)) else (none)) else (none)))) = some (r1, r2, r3, r4) := rH_ hy208 H
             have Ny208 := Hl.am hy208
             clear hy208
             obtain ⟨t212, A1090, H⟩ := bE_ H
             (try dsimp only at H)
             have A109 := Hl.am A1090
             clear A1090
             obtain ⟨y215, hy215⟩ : ∃ y_ : List Int, y_ = (([(-1), 0, 5000, 5001] : List Int)) := ⟨_, rfl⟩
             replace H : ((spec_l00Src_among.f s0_0 t162 t163 y215).bind fun bt218 => (if t212.length < 17592186044416 then (if x7_2.length < 2932031007402 then (some (x5_1, (x7_2 ++ [(⟨(⟨#[103, 117, 115]⟩ : ByteArray), 0, (t212 ++ [bt218.1])⟩ : S60)]), bt218.2.1, bt218.2.2)) else (none)) else (none))) = some (r1, r2, r3, r4) := rH_ hy215 H
             have Ny215 := Hl.am hy215
             clear hy215
             obtain ⟨⟨t218, t219, t220⟩, A1100, H⟩ := bE_ H
             (try dsimp only at H)
             have A110 := Hl.am A1100
             clear A1100
             by_cases c111 : t212.length < 17592186044416
             ·
              rw [if_pos c111] at H
              have LMc111 := Hl.am c111
              clear c111
              obtain ⟨y221, hy221⟩ : ∃ y_ : List Int, y_ = (t212 ++ [t218]) := ⟨_, rfl⟩
              replace H : (if x7_2.length < 2932031007402 then (some (x5_1, (x7_2 ++ [(⟨(⟨#[103, 117, 115]⟩ : ByteArray), 0, y221⟩ : S60)]), t219, t220)) else (none)) = some (r1, r2, r3, r4) := rH_ hy221 H
              have Ny221 := Hl.am hy221
              clear hy221
              by_cases c112 : x7_2.length < 2932031007402
              ·
               rw [if_pos c112] at H
               have LMc112 := Hl.am c112
               clear c112
               obtain ⟨y224, hy224⟩ : ∃ y_ : List (S60), y_ = (x7_2 ++ [(⟨(⟨#[103, 117, 115]⟩ : ByteArray), 0, y221⟩ : S60)]) := ⟨_, rfl⟩
               replace H : (some (x5_1, y224, t219, t220)) = some (r1, r2, r3, r4) := rH_ hy224 H
               have Ny224 := Hl.am hy224
               clear hy224
               simp only [Option.some.injEq, Prod.mk.injEq] at H
               obtain ⟨rfl, rfl, rfl, rfl⟩ := H
               go_wp2_with (first | ((with_reducible refine gate_callee (f := 32) rfl ?_); refine Hl.gl (some 64) rfl rfl Tryz.func32 (by kernel_rfl) rfl #[.pointer (some ⟨g, 0, none⟩), .int .i64 28] rfl ?_; (with_reducible refine (spec_l00Src_pick.calls g s0_0 x1001_2 x1002_2 28 t161 t162 t163 w0 _ ?side1 ?side2 A49.out).mono ?_); (case side1 => exact iS_ HI0); (case side2 => exact bI_ HB); rintro e w113 ⟨rfl, hi, hb, hk⟩; refine ⟨_, rfl, ?_⟩; replace HO_4 := Hl.am (Kd.R_mono (Kd.R_keep (IsS81.apart (show IsS81 w0 _ g s0_0 x1001_2 x1002_2 from iS_ HI0) (Hl.rr HO_4) (by decide)) hk (fun _ h => h.2)) (fun _ h => h.1)); replace HO_5 := Hl.am (Kd.R_mono (Kd.R_keep (IsS81.apart (show IsS81 w0 _ g s0_0 x1001_2 x1002_2 from iS_ HI0) (Hl.rr HO_5) (by decide)) hk (fun _ h => h.2)) (fun _ h => h.1)); replace HO_7 := Hl.am (Kd.S_mono (Kd.S_keep (IsS81.apartS (show IsS81 w0 _ g s0_0 x1001_2 x1002_2 from iS_ HI0) (sr_ HO_7) (by decide)) hk (fun _ h => h.2)) (fun _ h => h.1)); replace HK := Hl.am (KeepBut.trans (kS_ HK) hk (.inl rfl)); replace HB := Hl.am (hb); replace HI0 := Hl.am (hi); (try clear hb); (try clear hk); (try clear hi); obtain ⟨Ao115, co115, eo115⟩ := Kd.R_slice HO_5.out; subst eo115; have q114 : (1 : Int) ≤ ((x5_1.length : Int) : Int) := Hl.od; obtain ⟨i0114, hi0114, _, hsz114, _⟩ := info_parts info2; have hroom114 : x5_1.length ≤ co115 := (Kd.R_reads' HO_5.out).2.1; have hC114 : Kd.C (Kd.int .i64) _ Ao115 x5_1.length x5_1 := (Kd.R_reads' HO_5.out).2.2; have hcut114 := cut_from (P := Tryz.prog) 24 2 .i64 Tryz.underlying24 hi0114 1 hsz114 Ao115 x5_1.length co115 1 (by omega) q114; have hr114 := Kd.C_drop (m := (1 : Int).toNat) (c := co115) hC114 (by omega) hroom114; obtain ⟨A114, hA114⟩ : ∃ A1, A1 = (if co115 = (1 : Int).toNat then Ao115 else (Ao115 : Option Addr).map (·.add ((1 : Int).toNat * 1))) := ⟨_, rfl⟩; obtain ⟨c114, hc114⟩ : ∃ c1, c1 = co115 - (1 : Int).toNat := ⟨_, rfl⟩; have hy114 : y208.length = x5_1.length - (1 : Int).toNat := (by rw [Ny208.out, List.length_drop] <;> omega); rw [show (x5_1).drop (1 : Int).toNat = y208 from Ny208.out.symm] at hr114; replace hr114 : Kd.C (Kd.int .i64) _ A114 y208.length y208 := (by rw [hA114]; exact hr114); rw [← hy114, ← hA114, ← hc114] at hcut114; have HR211 := Hl.am hr114; have HC211 := Hl.am (show y208.length ≤ c114 from by rw [hy114, hc114]; exact Nat.sub_le_sub_right hroom114 _); clear hr114 hC114 hroom114 hi0114 hsz114 hc114; have KY114 := Hl.am hy114; have KA114 := Hl.am hA114; clear hy114 hA114; have KL114 := Hl.am (show 1 ≤ x5_1.length from by omega); replace q114 := eq_true q114) | ((with_reducible refine gate_callee (f := 41) rfl ?_); refine Hl.gl (some 115) rfl rfl Tryz.func41 (by kernel_rfl) rfl #[.slice A114 y208.length c114] rfl ?_; (with_reducible refine (spec_l00Own.calls _ _ y208 t212 _ ?side1 ?side2 A109.out).mono ?_); (case side1 => repeat (first | exact (by repeat (first | (with_reducible exact HR211.out) | (with_reducible refine Kd.C_alloc ?_ _) | (with_reducible refine Kd.C_drewN ?_ _) | (with_reducible refine Kd.C_drew ?_) | exact HR211.out)) | (with_reducible refine Kd.C_alloc ?_ _) | (with_reducible refine Kd.C_drewN ?_ _) | (with_reducible refine Kd.C_drew ?_))); (case side2 => exact HC211.out); rintro e w116 ⟨v213, rfl, ho0, hb⟩; refine ⟨_, rfl, ?_⟩; replace HO_4 := rB_ HO_4 hb; replace HO_7 := Hl.am (Kd.S_elder' (sr_ HO_7) (Kd.R_base ho0) hb); have HO214 := Hl.am (Kd.R_lower (Kd.R_new' ho0 (Kd.R_lt (Hl.rr HO_5))) (keep_size (w := w) (g := g) (row := none) (kS_ HK))); replace HO_5 := Hl.am (Kd.R_elder' (Hl.rr HO_5) (Kd.R_base ho0) hb); replace HR211 := Hl.am (Kd.C_below (by repeat (first | (with_reducible exact HR211.out) | (with_reducible refine Kd.C_alloc ?_ _) | (with_reducible refine Kd.C_drewN ?_ _) | (with_reducible refine Kd.C_drew ?_) | exact HR211.out)) hb); replace HK := Hl.am (KeepBut.trans (kS_ HK) (KeepBut.of_below hb g none) (.inl rfl)); replace HB := Hl.am (below_step (bI_ HB) hb); replace HI0 := Hl.am (IsS81.below (iS_ HI0) hb); (try clear hb); (try clear ho0)) | ((with_reducible refine gate_dst (N := 117) rfl ?_); refine Kd.R_lit (Kd.int .i64) _ 2 ?hg (N := 117) ?hd (xs := ([(-1), 0, 5000, 5001] : List Int)) (inner := [.int .i64 (-1), .int .i64 0, .int .i64 5000, .int .i64 5001]) (ok := fun _ => True) (okp := fun _ => True) ?hr ?hp (fun _ hk => hk) trivial (Below.refl _ _) (Nat.le_refl _) (by simp) ?_; (case hd => rfl); (case hg => rfl); (case hr => first | (go_simp; done) | (go_simp; rfl)); (case hp => exact (Reps.one (show Kd.M (Kd.int .i64) _ _ _ (-1) [.int .i64 (-1)] from rfl) (Reps.one (show Kd.M (Kd.int .i64) _ _ _ 0 [.int .i64 0] from rfl) (Reps.one (show Kd.M (Kd.int .i64) _ _ _ 5000 [.int .i64 5000] from rfl) (Reps.one (show Kd.M (Kd.int .i64) _ _ _ 5001 [.int .i64 5001] from rfl) (Reps.none _ _)))))); intro v216 w117 ho118 hb hg_ hnew_; clear hg_ hnew_; (first | rw [← Ny215.out] at ho118 | (simp only [Int.reduceToNat] at ho118; rw [← Ny215.out] at ho118)); replace HO_4 := rB_ HO_4 hb; replace HO_7 := Hl.am (Kd.S_elder' (sr_ HO_7) (Kd.R_base ho118) hb); have HO217 := Hl.am (Kd.R_lower (Kd.R_new' (Kd.R_new' ho118 (Kd.R_lt (Hl.rr HO_5))) (Kd.R_lt (Hl.rr HO214))) (keep_size (w := w) (g := g) (row := none) (kS_ HK))); replace HO_5 := Hl.am (Kd.R_elder' (Hl.rr HO_5) (Kd.R_base ho118) hb); replace HO214 := Hl.am (Kd.R_elder' (Hl.rr HO214) (Kd.R_base ho118) hb); replace HR211 := Hl.am (Kd.C_below (by repeat (first | (with_reducible exact HR211.out) | (with_reducible refine Kd.C_alloc ?_ _) | (with_reducible refine Kd.C_drewN ?_ _) | (with_reducible refine Kd.C_drew ?_) | exact HR211.out)) hb); replace HK := Hl.am (KeepBut.trans (kS_ HK) (KeepBut.of_below hb g none) (.inl rfl)); replace HB := Hl.am (below_step (bI_ HB) hb); replace HI0 := Hl.am (IsS81.below (iS_ HI0) hb); clear hb ho118; obtain ⟨Ao119, co119, eo119⟩ := Kd.R_slice HO217.out; subst eo119) | ((with_reducible refine gate_callee (f := 34) rfl ?_); refine Hl.gl (some 118) rfl rfl Tryz.func34 (by kernel_rfl) rfl #[.pointer (some ⟨g, 0, none⟩), .slice Ao119 y215.length co119] rfl ?_; (with_reducible refine (spec_l00Src_among.calls g s0_0 t162 t163 _ _ y215 t218 t219 t220 w0 _ ?side1 ?side2 ?side3 ?side4 ?side5 A110.out).mono ?_); (case side1 => exact iS_ HI0); (case side2 => exact bI_ HB); (case side3 => exact Hl.cc ((Kd.R_reads' HO217.out).2.2)); (case side4 => exact (Kd.R_reads' HO217.out).2.1); (case side5 => exact far_slice (IsS81.own_ne HI0.out HO217.out (by decide))); rintro e w120 ⟨rfl, hi, hb, hk⟩; refine ⟨_, rfl, ?_⟩; replace HO_4 := Hl.am (Kd.R_mono (Kd.R_keep (IsS81.apart (show IsS81 w0 _ g s0_0 t162 t163 from iS_ HI0) (Hl.rr HO_4) (by decide)) hk (fun _ h => h.2)) (fun _ h => h.1)); replace HO_5 := Hl.am (Kd.R_mono (Kd.R_keep (IsS81.apart (show IsS81 w0 _ g s0_0 t162 t163 from iS_ HI0) (Hl.rr HO_5) (by decide)) hk (fun _ h => h.2)) (fun _ h => h.1)); replace HO_7 := Hl.am (Kd.S_mono (Kd.S_keep (IsS81.apartS (show IsS81 w0 _ g s0_0 t162 t163 from iS_ HI0) (sr_ HO_7) (by decide)) hk (fun _ h => h.2)) (fun _ h => h.1)); replace HO214 := Hl.am (Kd.R_mono (Kd.R_keep (IsS81.apart (show IsS81 w0 _ g s0_0 t162 t163 from iS_ HI0) (Hl.rr HO214) (by decide)) hk (fun _ h => h.2)) (fun _ h => h.1)); replace HO217 := Hl.am (Kd.R_mono (Kd.R_keep (IsS81.apart (show IsS81 w0 _ g s0_0 t162 t163 from iS_ HI0) (Hl.rr HO217) (by decide)) hk (fun _ h => h.2)) (fun _ h => h.1)); replace HK := Hl.am (KeepBut.trans (kS_ HK) hk (.inl rfl)); replace HB := Hl.am (hb); replace HI0 := Hl.am (hi); (try clear hb); (try clear hk); (try clear hi)) | ((with_reducible refine gate_builtin (b := .append) (xs := #[.tmp 115, .tmp 119]) rfl ?_); at_builtin; refine Kd.R_append (Kd.int .i64) w.heap.size rfl (.tmp 115) (.tmp 119) 24 2 (.int .i64 0) 8 rfl Tryz.underlying24 info2 rfl (by decide) (by omega) v213 t212 t218 [.int .i64 t218] (fun k_ => some k_ ≠ (.slice Ao115 x5_1.length co115 : Value).ownBlock ∧ some k_ ≠ (.slice Ao119 y215.length co119 : Value).ownBlock) (fun _ => False) rfl rfl ?aP (fun _ hk => hk.elim) ?aF ?aO (Below.refl _ _) ?aS ?aL ?_; (case aP => exact rfl); (case aF => exact (fun k_ hk => ⟨Kd.fresh' (Kd.R_lt (Hl.rr HO_5)) k_ hk, Kd.fresh' (Kd.R_lt (Hl.rr HO217)) k_ hk⟩)); (case aO => exact (rm_ HO214 (fun _ hk => ⟨hk.1.2, hk.2⟩))); (case aS => exact (keep_size (w := w) (g := g) (row := none) (kS_ HK))); (case aL => have := LMc111.out; omega); intro v222 w121 ho hb hg hat; rw [← Ny221.out] at ho; replace HO_4 := Hl.am (Kd.R_over' (Hl.rr HO_4) (Kd.R_typed (Hl.rr HO214)) (by decide) hg); replace HO_5 := Hl.am (Kd.R_after (ok := (fun k_ => some k_ ≠ (.slice Ao119 y215.length co119 : Value).ownBlock)) (rm_ HO_5 (fun _ hk => ⟨hk.2, hk.1.2⟩)) hg hat); replace HO_7 := Hl.am (Kd.S_after (ok := (fun k_ => some k_ ≠ (.slice Ao115 x5_1.length co115 : Value).ownBlock ∧ some k_ ≠ (.slice Ao119 y215.length co119 : Value).ownBlock)) (sm_ HO_7 (fun _ hk => ⟨⟨hk.1.1, hk.2⟩, hk.1.2⟩)) hg hat); replace HO217 := Hl.am (Kd.R_after (ok := (fun k_ => some k_ ≠ (.slice Ao115 x5_1.length co115 : Value).ownBlock)) (rm_ HO217 (fun _ hk => ⟨hk.1.2, hk.2⟩)) hg hat); replace HB := Hl.am (below_weaken (bI_ HB) HL.out hb); replace HI0 := Hl.am (IsS81.grown (iS_ HI0) hg (IsS81.own_ne HI0.out HO214.out (by decide))); replace HK := Hl.am (KeepBut.trans (kS_ HK) (KeepBut.of_grown hg g) (Kd.R_base2 HO214.out)); have HO223 := Hl.am (ho); clear HO214; clear ho hb hg hat; obtain ⟨Ao122, co122, eo122⟩ := Kd.R_slice HO223.out; subst eo122) | ((with_reducible refine gate_builtin (b := .append) (xs := #[.tmp 112, .tmp 122]) rfl ?_); at_builtin; refine Kd.S_append k60 w.heap.size rfl (.tmp 112) (.tmp 122) 25 60 (.agg #[(.string ⟨#[]⟩), (.int .i64 0), (.slice none 0 0)]) 48 rfl Tryz.underlying25 info60 rfl (by decide) (by omega) u7 x7_2 (⟨(⟨#[103, 117, 115]⟩ : ByteArray), 0, y221⟩ : S60) [.string (⟨#[103, 117, 115]⟩ : ByteArray), .int .i64 0, .slice Ao122 y221.length co122] (fun k_ => some k_ ≠ (.slice Ao115 x5_1.length co115 : Value).ownBlock ∧ some k_ ≠ (.slice Ao119 y215.length co119 : Value).ownBlock) (fun k_ => some k_ = (.slice Ao122 y221.length co122 : Value).ownBlock) rfl rfl ?aP (fun k_ hk_ => ((Kd.R_mono (ok' := fun k_ => ((fun k_ => some k_ ≠ (.slice Ao115 x5_1.length co115 : Value).ownBlock ∧ some k_ ≠ (.slice Ao119 y215.length co119 : Value).ownBlock)) k_ ∧ some k_ ≠ (u7 : Value).ownBlock) (Kd.R_apart' (HO223.out) (Kd.S_typed HO_7.out) (by decide)) (fun k_ hk => ⟨⟨hk.1.1, hk.1.2⟩, hk.2⟩))).1 k_ hk_.symm) ?aF ?aO (Below.refl _ _) ?aS ?aL ?_; (case aP => exact k60_mkM _ _ _ (⟨(⟨#[103, 117, 115]⟩ : ByteArray), 0, y221⟩ : S60) (Kd.R_mono (Kd.R_tight rfl (Kd.R_mono (ok' := fun k_ => ((fun k_ => some k_ ≠ (.slice Ao115 x5_1.length co115 : Value).ownBlock ∧ some k_ ≠ (.slice Ao119 y215.length co119 : Value).ownBlock)) k_ ∧ some k_ ≠ (u7 : Value).ownBlock) (Kd.R_apart' (HO223.out) (Kd.S_typed HO_7.out) (by decide)) (fun k_ hk => ⟨⟨hk.1.1, hk.1.2⟩, hk.2⟩))) (fun _ h_ => h_))); (case aF => exact (fun k_ hk => ⟨Kd.fresh' (Kd.R_lt (Hl.rr HO_5)) k_ hk, Kd.fresh' (Kd.R_lt (Hl.rr HO217)) k_ hk⟩)); (case aO => exact (sm_ HO_7 (fun k_ hk => ⟨⟨hk.1.1, hk.1.2⟩, fun e_ => hk.2 e_⟩))); (case aS => exact (keep_size (w := w) (g := g) (row := none) (kS_ HK))); (case aL => have := LMc112.out; omega); intro v225 w123 ho hb hg hat; rw [← Ny224.out] at ho; replace HO_4 := Hl.am (Kd.R_over' (Hl.rr HO_4) (Kd.S_typed (sr_ HO_7)) (by decide) hg); replace HO_5 := Hl.am (Kd.R_over' (Hl.rr HO_5) (Kd.S_typed (sr_ HO_7)) (by decide) hg); replace HO217 := Hl.am (Kd.R_over' (Hl.rr HO217) (Kd.S_typed (sr_ HO_7)) (by decide) hg); replace HB := Hl.am (below_weaken (bI_ HB) HL.out hb); replace HI0 := Hl.am (IsS81.grown (iS_ HI0) hg (IsS81.own_neS HI0.out HO_7.out (by decide))); replace HK := Hl.am (KeepBut.trans (kS_ HK) (KeepBut.of_grown hg g) (Kd.S_base2 HO_7.out)); have HO226 := Hl.am (ho); clear HO_7 HO223; clear ho hb hg hat))
               go_ret2
               exact ⟨_, _, eW_, rm_ HO_5 (fun _ hk => trivial), sm_ HO226 (fun _ hk => hk.1), iS_ HI0, bI_ HB, kS_ HK⟩
              ·
               rw [if_neg c112] at H
               exact absurd H (by simp)
             ·
              rw [if_neg c111] at H
              exact absurd H (by simp)
            ·
             rw [if_neg c108] at H
             exact absurd H (by simp)
           ·
            rw [if_neg c107] at H
            have c107b0 : (t161 == 4) = false := beq_eq_false_iff_ne.mpr c107
            have c107b1 : (t161 != 4) = true := bne_iff_ne.mpr c107
            by_cases c124 : t161 = 5
            ·
             rw [if_pos c124] at H
             have c124b0 : (t161 == 5) = true := beq_iff_eq.mpr c124
             have c124b1 : (t161 != 5) = false := bne_eq_false_iff_eq.mpr c124
             clear c124
             by_cases c125 : 1 ≤ (x5_1.length : Int)
             ·
              rw [if_pos c125] at H
              have c125b0 := eq_true c125
              have c125b1 : decide (1 ≤ (x5_1.length : Int)) = true := decide_eq_true c125
              clear c125
              obtain ⟨y227, hy227⟩ : ∃ y_ : List Int, y_ = (x5_1.drop 1) := ⟨_, rfl⟩
              replace H : ((spec_l00Own.f y227).bind fun t231 => (if x7_2.length < 2932031007402 then (some (x5_1, (x7_2 ++ [(⟨(⟨#[103, 117, 115]⟩ : ByteArray), 0, t231⟩ : S60)]), t162, t163)) else (none))) = some (r1, r2, r3, r4) := rH_ hy227 H
              have Ny227 := Hl.am hy227
              clear hy227
              obtain ⟨t231, A1260, H⟩ := bE_ H
              (try dsimp only at H)
              have A126 := Hl.am A1260
              clear A1260
              by_cases c127 : x7_2.length < 2932031007402
              ·
               rw [if_pos c127] at H
               have LMc127 := Hl.am c127
               clear c127
               obtain ⟨y234, hy234⟩ : ∃ y_ : List (S60), y_ = (x7_2 ++ [(⟨(⟨#[103, 117, 115]⟩ : ByteArray), 0, t231⟩ : S60)]) := ⟨_, rfl⟩
               replace H : (some (x5_1, y234, t162, t163)) = some (r1, r2, r3, r4) := rH_ hy234 H
               have Ny234 := Hl.am hy234
               clear hy234
               simp only [Option.some.injEq, Prod.mk.injEq] at H
               obtain ⟨rfl, rfl, rfl, rfl⟩ := H
               go_wp2_with (first | ((with_reducible refine gate_callee (f := 32) rfl ?_); refine Hl.gl (some 64) rfl rfl Tryz.func32 (by kernel_rfl) rfl #[.pointer (some ⟨g, 0, none⟩), .int .i64 28] rfl ?_; (with_reducible refine (spec_l00Src_pick.calls g s0_0 x1001_2 x1002_2 28 t161 t162 t163 w0 _ ?side1 ?side2 A49.out).mono ?_); (case side1 => exact iS_ HI0); (case side2 => exact bI_ HB); rintro e w128 ⟨rfl, hi, hb, hk⟩; refine ⟨_, rfl, ?_⟩; replace HO_4 := Hl.am (Kd.R_mono (Kd.R_keep (IsS81.apart (show IsS81 w0 _ g s0_0 x1001_2 x1002_2 from iS_ HI0) (Hl.rr HO_4) (by decide)) hk (fun _ h => h.2)) (fun _ h => h.1)); replace HO_5 := Hl.am (Kd.R_mono (Kd.R_keep (IsS81.apart (show IsS81 w0 _ g s0_0 x1001_2 x1002_2 from iS_ HI0) (Hl.rr HO_5) (by decide)) hk (fun _ h => h.2)) (fun _ h => h.1)); replace HO_7 := Hl.am (Kd.S_mono (Kd.S_keep (IsS81.apartS (show IsS81 w0 _ g s0_0 x1001_2 x1002_2 from iS_ HI0) (sr_ HO_7) (by decide)) hk (fun _ h => h.2)) (fun _ h => h.1)); replace HK := Hl.am (KeepBut.trans (kS_ HK) hk (.inl rfl)); replace HB := Hl.am (hb); replace HI0 := Hl.am (hi); (try clear hb); (try clear hk); (try clear hi); obtain ⟨Ao130, co130, eo130⟩ := Kd.R_slice HO_5.out; subst eo130; have q129 : (1 : Int) ≤ ((x5_1.length : Int) : Int) := Hl.od; obtain ⟨i0129, hi0129, _, hsz129, _⟩ := info_parts info2; have hroom129 : x5_1.length ≤ co130 := (Kd.R_reads' HO_5.out).2.1; have hC129 : Kd.C (Kd.int .i64) _ Ao130 x5_1.length x5_1 := (Kd.R_reads' HO_5.out).2.2; have hcut129 := cut_from (P := Tryz.prog) 24 2 .i64 Tryz.underlying24 hi0129 1 hsz129 Ao130 x5_1.length co130 1 (by omega) q129; have hr129 := Kd.C_drop (m := (1 : Int).toNat) (c := co130) hC129 (by omega) hroom129; obtain ⟨A129, hA129⟩ : ∃ A1, A1 = (if co130 = (1 : Int).toNat then Ao130 else (Ao130 : Option Addr).map (·.add ((1 : Int).toNat * 1))) := ⟨_, rfl⟩; obtain ⟨c129, hc129⟩ : ∃ c1, c1 = co130 - (1 : Int).toNat := ⟨_, rfl⟩; have hy129 : y227.length = x5_1.length - (1 : Int).toNat := (by rw [Ny227.out, List.length_drop] <;> omega); rw [show (x5_1).drop (1 : Int).toNat = y227 from Ny227.out.symm] at hr129; replace hr129 : Kd.C (Kd.int .i64) _ A129 y227.length y227 := (by rw [hA129]; exact hr129); rw [← hy129, ← hA129, ← hc129] at hcut129; have HR230 := Hl.am hr129; have HC230 := Hl.am (show y227.length ≤ c129 from by rw [hy129, hc129]; exact Nat.sub_le_sub_right hroom129 _); clear hr129 hC129 hroom129 hi0129 hsz129 hc129; have KY129 := Hl.am hy129; have KA129 := Hl.am hA129; clear hy129 hA129; have KL129 := Hl.am (show 1 ≤ x5_1.length from by omega); replace q129 := eq_true q129) | ((with_reducible refine gate_callee (f := 41) rfl ?_); refine Hl.gl (some 129) rfl rfl Tryz.func41 (by kernel_rfl) rfl #[.slice A129 y227.length c129] rfl ?_; (with_reducible refine (spec_l00Own.calls _ _ y227 t231 _ ?side1 ?side2 A126.out).mono ?_); (case side1 => repeat (first | exact (by repeat (first | (with_reducible exact HR230.out) | (with_reducible refine Kd.C_alloc ?_ _) | (with_reducible refine Kd.C_drewN ?_ _) | (with_reducible refine Kd.C_drew ?_) | exact HR230.out)) | (with_reducible refine Kd.C_alloc ?_ _) | (with_reducible refine Kd.C_drewN ?_ _) | (with_reducible refine Kd.C_drew ?_))); (case side2 => exact HC230.out); rintro e w131 ⟨v232, rfl, ho0, hb⟩; refine ⟨_, rfl, ?_⟩; replace HO_4 := rB_ HO_4 hb; replace HO_7 := Hl.am (Kd.S_elder' (sr_ HO_7) (Kd.R_base ho0) hb); have HO233 := Hl.am (Kd.R_lower (Kd.R_new' ho0 (Kd.R_lt (Hl.rr HO_5))) (keep_size (w := w) (g := g) (row := none) (kS_ HK))); replace HO_5 := Hl.am (Kd.R_elder' (Hl.rr HO_5) (Kd.R_base ho0) hb); replace HR230 := Hl.am (Kd.C_below (by repeat (first | (with_reducible exact HR230.out) | (with_reducible refine Kd.C_alloc ?_ _) | (with_reducible refine Kd.C_drewN ?_ _) | (with_reducible refine Kd.C_drew ?_) | exact HR230.out)) hb); replace HK := Hl.am (KeepBut.trans (kS_ HK) (KeepBut.of_below hb g none) (.inl rfl)); replace HB := Hl.am (below_step (bI_ HB) hb); replace HI0 := Hl.am (IsS81.below (iS_ HI0) hb); (try clear hb); (try clear ho0); obtain ⟨Ao132, co132, eo132⟩ := Kd.R_slice HO233.out; subst eo132) | ((with_reducible refine gate_builtin (b := .append) (xs := #[.tmp 126, .tmp 131]) rfl ?_); at_builtin; refine Kd.S_append k60 w.heap.size rfl (.tmp 126) (.tmp 131) 25 60 (.agg #[(.string ⟨#[]⟩), (.int .i64 0), (.slice none 0 0)]) 48 rfl Tryz.underlying25 info60 rfl (by decide) (by omega) u7 x7_2 (⟨(⟨#[103, 117, 115]⟩ : ByteArray), 0, t231⟩ : S60) [.string (⟨#[103, 117, 115]⟩ : ByteArray), .int .i64 0, .slice Ao132 t231.length co132] (fun k_ => some k_ ≠ (.slice Ao130 x5_1.length co130 : Value).ownBlock) (fun k_ => some k_ = (.slice Ao132 t231.length co132 : Value).ownBlock) rfl rfl ?aP (fun k_ hk_ => ((Kd.R_mono (ok' := fun k_ => ((fun k_ => some k_ ≠ (.slice Ao130 x5_1.length co130 : Value).ownBlock)) k_ ∧ some k_ ≠ (u7 : Value).ownBlock) (Kd.R_apart' (HO233.out) (Kd.S_typed HO_7.out) (by decide)) (fun k_ hk => ⟨hk.1.2, hk.2⟩))).1 k_ hk_.symm) ?aF ?aO (Below.refl _ _) ?aS ?aL ?_; (case aP => exact k60_mkM _ _ _ (⟨(⟨#[103, 117, 115]⟩ : ByteArray), 0, t231⟩ : S60) (Kd.R_mono (Kd.R_tight rfl (Kd.R_mono (ok' := fun k_ => ((fun k_ => some k_ ≠ (.slice Ao130 x5_1.length co130 : Value).ownBlock)) k_ ∧ some k_ ≠ (u7 : Value).ownBlock) (Kd.R_apart' (HO233.out) (Kd.S_typed HO_7.out) (by decide)) (fun k_ hk => ⟨hk.1.2, hk.2⟩))) (fun _ h_ => h_))); (case aF => exact (fun k_ hk => Kd.fresh' (Kd.R_lt (Hl.rr HO_5)) k_ hk)); (case aO => exact (sm_ HO_7 (fun k_ hk => ⟨hk.1, fun e_ => hk.2 e_⟩))); (case aS => exact (keep_size (w := w) (g := g) (row := none) (kS_ HK))); (case aL => have := LMc127.out; omega); intro v235 w133 ho hb hg hat; rw [← Ny234.out] at ho; replace HO_4 := Hl.am (Kd.R_over' (Hl.rr HO_4) (Kd.S_typed (sr_ HO_7)) (by decide) hg); replace HB := Hl.am (below_weaken (bI_ HB) HL.out hb); replace HI0 := Hl.am (IsS81.grown (iS_ HI0) hg (IsS81.own_neS HI0.out HO_7.out (by decide))); replace HK := Hl.am (KeepBut.trans (kS_ HK) (KeepBut.of_grown hg g) (Kd.S_base2 HO_7.out)); replace HR230 := Hl.am ((show Kd.C (Kd.int .i64) w133 A129 y227.length y227 from by rw [Ny227.out, KA129.out]; exact Kd.C_drop (m := 1) (c := co130) ((Kd.R_reads' (Kd.R_over' (Hl.rr HO_5) (Kd.S_typed (sr_ HO_7)) (by decide) hg)).2.2) KL129.out ((Kd.R_reads' (Kd.R_over' (Hl.rr HO_5) (Kd.S_typed (sr_ HO_7)) (by decide) hg)).2.1))); replace HO_5 := Hl.am (Kd.R_over' (Hl.rr HO_5) (Kd.S_typed (sr_ HO_7)) (by decide) hg); have HO236 := Hl.am (ho); clear HO_7 HO233; clear ho hb hg hat))
               go_ret2
               exact ⟨_, _, eW_, rm_ HO_5 (fun _ hk => trivial), sr_ HO236, iS_ HI0, bI_ HB, kS_ HK⟩
              ·
               rw [if_neg c127] at H
               exact absurd H (by simp)
             ·
              rw [if_neg c125] at H
              exact absurd H (by simp)
            ·
             rw [if_neg c124] at H
             have c124b0 : (t161 == 5) = false := beq_eq_false_iff_ne.mpr c124
             have c124b1 : (t161 != 5) = true := bne_iff_ne.mpr c124
             by_cases c134 : t161 = 6
             ·
              rw [if_pos c134] at H
              have c134b0 : (t161 == 6) = true := beq_iff_eq.mpr c134
              have c134b1 : (t161 != 6) = false := bne_eq_false_iff_eq.mpr c134
              clear c134
              obtain ⟨y237, hy237⟩ : ∃ y_ : List (S60), y_ = (([] : List (S60))) := ⟨_, rfl⟩
              replace H : ((spec_l00Src_pick.f s0_0 t162 t163 2).bind fun bt240 => (spec_l25Draw.l4 k2 x5_1 y237 (wrap64 (20 + bt240.1)) s0_0 bt240.2.1 bt240.2.2)) = some (r1, r2, r3, r4) := rH_ hy237 H
              have Ny237 := Hl.am hy237
              clear hy237
              obtain ⟨⟨t240, t241, t242⟩, A1350, H⟩ := bE_ H
              replace H : (spec_l25Draw.l4 k2 x5_1 y237 (wrap64 (20 + t240)) s0_0 t241 t242) = some (r1, r2, r3, r4) := H
              have A135 := Hl.am A1350
              clear A1350
              have H' := Hl.am H
              clear H
              go_wp2_with (first | ((with_reducible refine gate_callee (f := 32) rfl ?_); refine Hl.gl (some 64) rfl rfl Tryz.func32 (by kernel_rfl) rfl #[.pointer (some ⟨g, 0, none⟩), .int .i64 28] rfl ?_; (with_reducible refine (spec_l00Src_pick.calls g s0_0 x1001_2 x1002_2 28 t161 t162 t163 w0 _ ?side1 ?side2 A49.out).mono ?_); (case side1 => exact iS_ HI0); (case side2 => exact bI_ HB); rintro e w136 ⟨rfl, hi, hb, hk⟩; refine ⟨_, rfl, ?_⟩; replace HO_4 := Hl.am (Kd.R_mono (Kd.R_keep (IsS81.apart (show IsS81 w0 _ g s0_0 x1001_2 x1002_2 from iS_ HI0) (Hl.rr HO_4) (by decide)) hk (fun _ h => h.2)) (fun _ h => h.1)); replace HO_5 := Hl.am (Kd.R_mono (Kd.R_keep (IsS81.apart (show IsS81 w0 _ g s0_0 x1001_2 x1002_2 from iS_ HI0) (Hl.rr HO_5) (by decide)) hk (fun _ h => h.2)) (fun _ h => h.1)); replace HO_7 := Hl.am (Kd.S_mono (Kd.S_keep (IsS81.apartS (show IsS81 w0 _ g s0_0 x1001_2 x1002_2 from iS_ HI0) (sr_ HO_7) (by decide)) hk (fun _ h => h.2)) (fun _ h => h.1)); replace HK := Hl.am (KeepBut.trans (kS_ HK) hk (.inl rfl)); replace HB := Hl.am (hb); replace HI0 := Hl.am (hi); (try clear hb); (try clear hk); (try clear hi)) | ((with_reducible refine gate_dst (N := 135) rfl ?_); refine Kd.S_lit k60 _ 60 ?hg (N := 135) ?hd (xs := ([] : List (S60))) (inner := []) (ok := fun _ => True) (okp := fun _ => True) ?hr ?hp (fun _ hk => hk) trivial (Below.refl _ _) (Nat.le_refl _) (by simp) ?_; (case hd => rfl); (case hg => rfl); (case hr => first | (go_simp; done) | (go_simp; rfl)); (case hp => exact (Reps.none _ _)); intro v238 w137 ho138 hb hg_ hnew_; clear hg_ hnew_; (first | rw [← Ny237.out] at ho138 | (simp only [Int.reduceToNat] at ho138; rw [← Ny237.out] at ho138)); replace HO_4 := rB_ HO_4 hb; have HO239 := Hl.am (Kd.S_lower (Kd.S_new' (Kd.S_new' ho138 (Kd.R_lt (Hl.rr HO_5))) (Kd.S_lt (sr_ HO_7))) (keep_size (w := w) (g := g) (row := none) (kS_ HK))); replace HO_5 := rB_ HO_5 hb; replace HO_7 := Hl.am (Kd.S_elder' (sr_ HO_7) (Kd.S_base ho138) hb); replace HK := Hl.am (KeepBut.trans (kS_ HK) (KeepBut.of_below hb g none) (.inl rfl)); replace HB := Hl.am (below_step (bI_ HB) hb); replace HI0 := Hl.am (IsS81.below (iS_ HI0) hb); clear hb ho138) | ((with_reducible refine gate_callee (f := 32) rfl ?_); refine Hl.gl (some 137) rfl rfl Tryz.func32 (by kernel_rfl) rfl #[.pointer (some ⟨g, 0, none⟩), .int .i64 2] rfl ?_; (with_reducible refine (spec_l00Src_pick.calls g s0_0 t162 t163 2 t240 t241 t242 w0 _ ?side1 ?side2 A135.out).mono ?_); (case side1 => exact iS_ HI0); (case side2 => exact bI_ HB); rintro e w139 ⟨rfl, hi, hb, hk⟩; refine ⟨_, rfl, ?_⟩; replace HO_4 := Hl.am (Kd.R_mono (Kd.R_keep (IsS81.apart (show IsS81 w0 _ g s0_0 t162 t163 from iS_ HI0) (Hl.rr HO_4) (by decide)) hk (fun _ h => h.2)) (fun _ h => h.1)); replace HO_5 := Hl.am (Kd.R_mono (Kd.R_keep (IsS81.apart (show IsS81 w0 _ g s0_0 t162 t163 from iS_ HI0) (Hl.rr HO_5) (by decide)) hk (fun _ h => h.2)) (fun _ h => h.1)); replace HO_7 := Hl.am (Kd.S_mono (Kd.S_keep (IsS81.apartS (show IsS81 w0 _ g s0_0 t162 t163 from iS_ HI0) (sr_ HO_7) (by decide)) hk (fun _ h => h.2)) (fun _ h => h.1)); replace HO239 := Hl.am (Kd.S_mono (Kd.S_keep (IsS81.apartS (show IsS81 w0 _ g s0_0 t162 t163 from iS_ HI0) (sr_ HO239) (by decide)) hk (fun _ h => h.2)) (fun _ h => h.1)); replace HK := Hl.am (KeepBut.trans (kS_ HK) hk (.inl rfl)); replace HB := Hl.am (hb); replace HI0 := Hl.am (hi); (try clear hb); (try clear hk); (try clear hi)))
              go_loopg [7, 12] k2 (fun kq v7 v12 w' => ∃ (x7_3 : List (S60)) (x12_3 : Int), v12 = .int .i64 x12_3 ∧ Aside0 (spec_l25Draw.l4 kq x5_1 x7_3 x12_3 s0_0 t241 t242 = some (r1, r2, r3, r4)) ∧ Aside0 (kq ≤ k2) ∧ Aside0 (Kd.R (Kd.int .i64) 2 w' w.heap.size (fun _ => True) u5 x5_1) ∧ Aside0 (Kd.S k60 60 w' w.heap.size (fun k_ => some k_ ≠ (u5 : Value).ownBlock) v7 x7_3) ∧ Aside0 (IsS81 w0 w' g s0_0 t241 t242) ∧ Aside0 (KeepBut w w' g none) ∧ Aside0 (Below w0.heap.size w0 w'))
              case atStart => exact ⟨(y237), (wrap64 (20 + t240)), (by first | rfl | (simp; done) | (simp [*]; done)), H', ⟨Nat.le_refl _⟩, ⟨Hl.rr HO_5⟩, ⟨sm_ HO239 (fun _ hk => hk.1.2)⟩, ⟨iS_ HI0⟩, ⟨kS_ HK⟩, ⟨bI_ HB⟩⟩
              case round =>
               clear H'
               try clear c17b0
               try clear c50
               try clear c50b0
               try clear c50b1
               try clear c61
               try clear c61b0
               try clear c61b1
               try clear c81
               try clear c81b0
               try clear c81b1
               try clear c94
               try clear c94b0
               try clear c94b1
               try clear c107
               try clear c107b0
               try clear c107b1
               try clear c124
               try clear c124b0
               try clear c124b1
               try clear c134b0
               try clear c134b1
               obtain ⟨x7_3, x12_3, rfl, HA, HK3, HO_5, HO_7, HI0, HK, HB⟩ := hrel
               cases gk with
               | zero => exact absurd HA.out (by simp [spec_l25Draw.l4])
               | succ k3 =>
                have H := HA.out
                clear HA
                simp only [spec_l25Draw.l4] at H
                by_cases c140 : x12_3 > 0
                ·
                 rw [if_pos c140] at H
                 have c140b0 : decide (0 < x12_3) = true := decide_eq_true c140
                 clear c140
                 obtain ⟨y243, hy243⟩ : ∃ y_ : List Int, y_ = (([(97 + (((x7_3.length : Int)) % 256)) % 256] : List Int)) := ⟨_, rfl⟩
                 replace H : (if 1 + (strOfNums y243).size ≤ 9223372036854775807 then ((spec_l00Own.f x5_1).bind fun t246 => (if x7_3.length < 2932031007402 then (spec_l25Draw.l4 k3 x5_1 (x7_3 ++ [(⟨(⟨#[112]⟩ : ByteArray) ++ (strOfNums y243), 0, t246⟩ : S60)]) (wrap64 (x12_3 - 1)) s0_0 t241 t242) else (none))) else (none)) = some (r1, r2, r3, r4) := rH_ hy243 H
                 have Ny243 := Hl.am hy243
                 clear hy243
                 by_cases c141 : 1 + (strOfNums y243).size ≤ 9223372036854775807
                 ·
                  rw [if_pos c141] at H
                  have c141b0 := eq_true c141
                  have c141b1 : decide (1 + (strOfNums y243).size ≤ 9223372036854775807) = true := decide_eq_true c141
                  try have c141b2 : (9223372036854775807 < 1 + (strOfNums y243).size) = False := eq_false (Nat.not_lt.2 c141)
                  obtain ⟨t246, A1420, H⟩ := bE_ H
                  (try dsimp only at H)
                  have A142 := Hl.am A1420
                  clear A1420
                  by_cases c143 : x7_3.length < 2932031007402
                  ·
                   rw [if_pos c143] at H
                   have LMc143 := Hl.am c143
                   clear c143
                   obtain ⟨y249, hy249⟩ : ∃ y_ : List (S60), y_ = (x7_3 ++ [(⟨(⟨#[112]⟩ : ByteArray) ++ (strOfNums y243), 0, t246⟩ : S60)]) := ⟨_, rfl⟩
                   replace H : (spec_l25Draw.l4 k3 x5_1 y249 (wrap64 (x12_3 - 1)) s0_0 t241 t242) = some (r1, r2, r3, r4) := rH_ hy249 H
                   have Ny249 := Hl.am hy249
                   clear hy249
                   have H' := Hl.am H
                   clear H
                   obtain ⟨Ao144, co144, eo144⟩ := Kd.R_slice HO_5.out
                   subst eo144
                   obtain ⟨Ao145, co145, eo145⟩ := Kd.S_slice HO_7.out
                   subst eo145
                   try go_wp2
                   have n0_ := Hl.am (Kd.R_drew HO_5.out)
                   have n1_ := Hl.am (Kd.S_drew HO_7.out)
                   have n2_ := Hl.am (IsS81.drew HI0.out)
                   have n3_ := Hl.am (keep_drew HK.out)
                   have n4_ := Hl.am (below_drew1 HB.out)
                   clear HO_5 HO_7 HI0 HK HB
                   have HO_5 := n0_
                   have HO_7 := n1_
                   have HI0 := n2_
                   have HK := n3_
                   have HB := n4_
                   clear n0_ n1_ n2_ n3_ n4_
                   refine start_ (n := 14) (S := fun w' => True) (ds := []) #[false, false, false, false, false, false, false, false, false, false, false, false, false, false] (by kernel_rfl) rfl rfl trivial (fun hHeld => ?_); refine with_tabW spec_l25Draw.tab40 spec_l25Draw.bits40 (fun HT_ HW_ => ?_)
                   generalize wr.drew = w146 at HO_5 HO_7 HI0 HK HB hHeld ⊢
                   refine Hl.pI 0 143 14 1 HT_ rfl rfl ?_; refine Hl.pI 1 144 14 3 HT_ rfl rfl ?_; refine Hl.pI 2 145 14 7 HT_ rfl rfl ?_; refine Hl.pI 3 146 14 15 HT_ rfl rfl ?_; refine Hl.pI 4 147 14 31 HT_ rfl rfl ?_; refine Hl.pI 8 151 14 287 HT_ rfl rfl ?_
                   refine join_ (σ := Value × Value) 4 (Hl.ba 14 1023) (fun s_ => [(148, s_.1), (149, .string (strOfNums y243)), (152, s_.2), (150, .string ((⟨#[112]⟩ : ByteArray) ++ (strOfNums y243)))]) (fun s_ w' => (Kd.R (Kd.int .u8) 5 w' w.heap.size (fun _ => True) s_.1 y243) ∧ (Kd.R (Kd.int .i64) 2 w' w.heap.size (fun k_ => some k_ ≠ (.slice Ao144 x5_1.length co144 : Value).ownBlock) s_.2 t246) ∧ (Kd.R (Kd.int .i64) 2 w' w.heap.size (fun k_ => some k_ ≠ (s_.2 : Value).ownBlock) (.slice Ao144 x5_1.length co144) x5_1) ∧ (Kd.S k60 60 w' w.heap.size (fun k_ => some k_ ≠ (s_.2 : Value).ownBlock ∧ some k_ ≠ (.slice Ao144 x5_1.length co144 : Value).ownBlock) (.slice Ao145 x7_3.length co145) x7_3) ∧ (IsS81 w0 w' g s0_0 t241 t242) ∧ (KeepBut w w' g none) ∧ (Below w0.heap.size w0 w')) ?_ ?_
                   rotate_left
                   ·
                    intro hCont
                    refine two_ (i := 5) (j := 9) (Ni := some 148) (Nj := some 152) (Hl.ba 14 319) (Hl.ba 14 799) rfl rfl rfl rfl (two_of HT_.out (by kernel_rfl)) (by decide) (by decide) (fun K hK => ?_) (fun K hK => ?_)
                    ·
                     skip
                     refine Kd.R_lit_step (Kd.int .u8) _ 5 ?hg (N := 148) ?hd (xs := ([(97 + (((x7_3.length : Int)) % 256)) % 256] : List Int)) (inner := [.int .u8 ((97 + (((x7_3.length : Int)) % 256)) % 256)]) (ok := fun _ => True) (okp := fun _ => True) ?hr ?hp (fun _ hk => hk) trivial (Below.refl _ _) (Nat.le_refl _) (by simp) ?_; (case hd => rfl); (case hg => rfl); (case hr => first | (go_simp; done) | (go_simp; rfl) | (go_simp; simp [IntKind.wrap, IntKind.bits, IntKind.signed]; done)); (case hp => exact (Reps.one (show Kd.M (Kd.int .u8) _ _ _ ((97 + (((x7_3.length : Int)) % 256)) % 256) [.int .u8 ((97 + (((x7_3.length : Int)) % 256)) % 256)] from rfl) (Reps.none _ _)))
                     intro v244 w147 ho148 hb hg_ hnew_
                     clear hg_ hnew_
                     (first | rw [← Ny243.out] at ho148 | (simp only [Int.reduceToNat] at ho148; rw [← Ny243.out] at ho148))
                     have n0_ := Hl.am (Kd.R_below (Hl.rr HO_5) hb)
                     have n1_ := Hl.am (Kd.S_below (sr_ HO_7) hb)
                     have n2_ := Hl.am (Kd.R_lower ho148 (keep_size (w := w) (g := g) (row := none) (kS_ HK)))
                     have n3_ := Hl.am (IsS81.below (iS_ HI0) hb)
                     have n4_ := Hl.am (KeepBut.trans (kS_ HK) (KeepBut.of_below hb g none) (.inl rfl))
                     have n5_ := Hl.am (below_step (bI_ HB) hb)
                     clear HO_5 HO_7 HI0 HK HB
                     have HO_5 := n0_
                     have HO_7 := n1_
                     have HO245 := n2_
                     have HI0 := n3_
                     have HK := n4_
                     have HB := n5_
                     clear n0_ n1_ n2_ n3_ n4_ n5_
                     clear hb ho148
                     refine hK.out _ _ trivial (fun hHeld => ?_)
                     clear hK K
                     refine norm_ (a' := ?_) ?_ ?_
                     rotate_left
                     ·
                      show Act.put _ (some 148) _ = _
                      simp only [Act.put, Hl.s1, Hl.s2, Hl.s3, i64_w, i32_w]
                      rfl
                     refine two_ (i := 6) (j := 9) (Ni := some 149) (Nj := some 152) (Hl.ba 14 383) (Hl.ba 14 831) rfl rfl rfl rfl (two_of HT_.out (by kernel_rfl)) (by decide) (by decide) (fun K hK => ?_) (fun K hK => ?_)
                     ·
                      skip
                      have hcv149 := own_string (P := Tryz.prog) Tryz.underlying22 Tryz.underlying5 Tryz.underlying9 (Kd.own_of_R HO245.out)
                      refine value_ (w1 := ?_) (v := ?_) (by rfl) rfl ?_ ?_
                      rotate_left 2
                      ·
                       go_simp
                       constructor
                       ·
                        rfl
                       ·
                        rfl
                      clear hcv149
                      refine hK.out _ _ trivial (fun hHeld => ?_)
                      clear hK K
                      refine norm_ (a' := ?_) ?_ ?_
                      rotate_left
                      ·
                       show Act.put _ (some 149) _ = _
                       simp only [Act.put, Hl.s1, Hl.s2, Hl.s3, i64_w, i32_w]
                       rfl
                      refine Hl.pI 7 150 14 511 HT_ rfl rfl ?_
                      refine one_ (i := 9) (N := some 152) (Hl.ba 14 1023) rfl rfl (one_of HT_.out (by kernel_rfl)) (by decide) (fun K hK => ?_)
                      refine Hl.gs Tryz.func41 (by kernel_rfl) rfl #[.slice Ao144 x5_1.length co144] (by rfl) rfl rfl ?_
                      with_reducible refine (spec_l00Own.calls _ _ x5_1 t246 _ ?side1 ?side2 A142.out).mono ?_
                      (case side1 => exact Hl.cc ((Kd.R_reads' HO_5.out).2.2))
                      (case side2 => exact (Kd.R_reads' HO_5.out).2.1)
                      rintro e w150 ⟨v247, rfl, ho0, hb⟩
                      refine ⟨_, rfl, ?_⟩
                      have n0_ := Hl.am (Kd.R_elder' (Hl.rr HO_5) (Kd.R_base ho0) hb)
                      have n1_ := Hl.am (Kd.S_elder' (sr_ HO_7) (Kd.R_base ho0) hb)
                      have n2_ := Hl.am (Kd.R_below (Hl.rr HO245) hb)
                      have n3_ := Hl.am (Kd.R_lower (Kd.R_new' ho0 (Kd.R_lt (Hl.rr HO_5))) (keep_size (w := w) (g := g) (row := none) (kS_ HK)))
                      have n4_ := Hl.am (IsS81.below (iS_ HI0) hb)
                      have n5_ := Hl.am (KeepBut.trans (kS_ HK) (KeepBut.of_below hb g none) (.inl rfl))
                      have n6_ := Hl.am (below_step (bI_ HB) hb)
                      clear HO_5 HO_7 HO245 HI0 HK HB
                      have HO_5 := n0_
                      have HO_7 := n1_
                      have HO245 := n2_
                      have HO248 := n3_
                      have HI0 := n4_
                      have HK := n5_
                      have HB := n6_
                      clear n0_ n1_ n2_ n3_ n4_ n5_ n6_
                      (try clear hb)
                      (try clear hb2)
                      (try clear hk)
                      (try clear hi)
                      (try clear ho0)
                      obtain ⟨Ao151, co151, eo151⟩ := Kd.R_slice HO248.out
                      (first | subst eo151 | (injection eo151 with f1_ f2_ f3_; have f4_ := f1_.symm; have f5_ := f3_.symm; clear f1_ f2_ f3_; subst f4_; subst f5_))
                      refine hK.out _ _ trivial (fun hHeld => ?_)
                      clear hK K
                      refine norm_ (a' := ?_) ?_ ?_
                      rotate_left
                      ·
                       show Act.put _ (some 152) _ = _
                       simp only [Act.put, Hl.s1, Hl.s2, Hl.s3, i64_w, i32_w]
                       rfl
                      exact norm_ (by simp only [putAll, Act.put, List.setIfInBounds_toArray, List.set_cons_zero, List.set_cons_succ]) (hCont (v244, .slice Ao151 t246.length co151) _ ⟨(Hl.rr HO245), (rm_ HO248 (fun _ hk => hk.2)), (rm_ HO_5 (fun _ hk => hk.2)), (sm_ HO_7 (fun _ hk => ⟨hk.2, hk.1⟩)), (iS_ HI0), (kS_ HK), (bI_ HB)⟩)
                     ·
                      skip
                      refine Hl.gs Tryz.func41 (by kernel_rfl) rfl #[.slice Ao144 x5_1.length co144] (by rfl) rfl rfl ?_
                      with_reducible refine (spec_l00Own.calls _ _ x5_1 t246 _ ?side1 ?side2 A142.out).mono ?_
                      (case side1 => exact Hl.cc ((Kd.R_reads' HO_5.out).2.2))
                      (case side2 => exact (Kd.R_reads' HO_5.out).2.1)
                      rintro e w149 ⟨v247, rfl, ho0, hb⟩
                      refine ⟨_, rfl, ?_⟩
                      have n0_ := Hl.am (Kd.R_elder' (Hl.rr HO_5) (Kd.R_base ho0) hb)
                      have n1_ := Hl.am (Kd.S_elder' (sr_ HO_7) (Kd.R_base ho0) hb)
                      have n2_ := Hl.am (Kd.R_below (Hl.rr HO245) hb)
                      have n3_ := Hl.am (Kd.R_lower (Kd.R_new' ho0 (Kd.R_lt (Hl.rr HO_5))) (keep_size (w := w) (g := g) (row := none) (kS_ HK)))
                      have n4_ := Hl.am (IsS81.below (iS_ HI0) hb)
                      have n5_ := Hl.am (KeepBut.trans (kS_ HK) (KeepBut.of_below hb g none) (.inl rfl))
                      have n6_ := Hl.am (below_step (bI_ HB) hb)
                      clear HO_5 HO_7 HO245 HI0 HK HB
                      have HO_5 := n0_
                      have HO_7 := n1_
                      have HO245 := n2_
                      have HO248 := n3_
                      have HI0 := n4_
                      have HK := n5_
                      have HB := n6_
                      clear n0_ n1_ n2_ n3_ n4_ n5_ n6_
                      (try clear hb)
                      (try clear hb2)
                      (try clear hk)
                      (try clear hi)
                      (try clear ho0)
                      obtain ⟨Ao151, co151, eo151⟩ := Kd.R_slice HO248.out
                      (first | subst eo151 | (injection eo151 with f1_ f2_ f3_; have f4_ := f1_.symm; have f5_ := f3_.symm; clear f1_ f2_ f3_; subst f4_; subst f5_))
                      refine hK.out _ _ trivial (fun hHeld => ?_)
                      clear hK K
                      refine norm_ (a' := ?_) ?_ ?_
                      rotate_left
                      ·
                       show Act.put _ (some 152) _ = _
                       simp only [Act.put, Hl.s1, Hl.s2, Hl.s3, i64_w, i32_w]
                       rfl
                      refine one_ (i := 6) (N := some 149) (Hl.ba 14 895) rfl rfl (one_of HT_.out (by kernel_rfl)) (by decide) (fun K hK => ?_)
                      have hcv150 := own_string (P := Tryz.prog) Tryz.underlying22 Tryz.underlying5 Tryz.underlying9 (Kd.own_of_R HO245.out)
                      refine value_ (w1 := ?_) (v := ?_) (by rfl) rfl ?_ ?_
                      rotate_left 2
                      ·
                       go_simp
                       constructor
                       ·
                        rfl
                       ·
                        rfl
                      clear hcv150
                      refine hK.out _ _ trivial (fun hHeld => ?_)
                      clear hK K
                      refine norm_ (a' := ?_) ?_ ?_
                      rotate_left
                      ·
                       show Act.put _ (some 149) _ = _
                       simp only [Act.put, Hl.s1, Hl.s2, Hl.s3, i64_w, i32_w]
                       rfl
                      refine Hl.pI 7 150 14 1023 HT_ rfl rfl ?_
                      exact norm_ (by simp only [putAll, Act.put, List.setIfInBounds_toArray, List.set_cons_zero, List.set_cons_succ]) (hCont (v244, .slice Ao151 t246.length co151) _ ⟨(Hl.rr HO245), (rm_ HO248 (fun _ hk => hk.2)), (rm_ HO_5 (fun _ hk => hk.2)), (sm_ HO_7 (fun _ hk => ⟨hk.2, hk.1⟩)), (iS_ HI0), (kS_ HK), (bI_ HB)⟩)
                    ·
                     skip
                     refine Hl.gs Tryz.func41 (by kernel_rfl) rfl #[.slice Ao144 x5_1.length co144] (by rfl) rfl rfl ?_
                     with_reducible refine (spec_l00Own.calls _ _ x5_1 t246 _ ?side1 ?side2 A142.out).mono ?_
                     (case side1 => exact Hl.cc ((Kd.R_reads' HO_5.out).2.2))
                     (case side2 => exact (Kd.R_reads' HO_5.out).2.1)
                     rintro e w147 ⟨v247, rfl, ho0, hb⟩
                     refine ⟨_, rfl, ?_⟩
                     have n0_ := Hl.am (Kd.R_elder' (Hl.rr HO_5) (Kd.R_base ho0) hb)
                     have n1_ := Hl.am (Kd.S_elder' (sr_ HO_7) (Kd.R_base ho0) hb)
                     have n2_ := Hl.am (Kd.R_lower (Kd.R_new' ho0 (Kd.R_lt (Hl.rr HO_5))) (keep_size (w := w) (g := g) (row := none) (kS_ HK)))
                     have n3_ := Hl.am (IsS81.below (iS_ HI0) hb)
                     have n4_ := Hl.am (KeepBut.trans (kS_ HK) (KeepBut.of_below hb g none) (.inl rfl))
                     have n5_ := Hl.am (below_step (bI_ HB) hb)
                     clear HO_5 HO_7 HI0 HK HB
                     have HO_5 := n0_
                     have HO_7 := n1_
                     have HO248 := n2_
                     have HI0 := n3_
                     have HK := n4_
                     have HB := n5_
                     clear n0_ n1_ n2_ n3_ n4_ n5_
                     (try clear hb)
                     (try clear hb2)
                     (try clear hk)
                     (try clear hi)
                     (try clear ho0)
                     refine hK.out _ _ trivial (fun hHeld => ?_)
                     clear hK K
                     refine norm_ (a' := ?_) ?_ ?_
                     rotate_left
                     ·
                      show Act.put _ (some 152) _ = _
                      simp only [Act.put, Hl.s1, Hl.s2, Hl.s3, i64_w, i32_w]
                      rfl
                     refine one_ (i := 5) (N := some 148) (Hl.ba 14 831) rfl rfl (one_of HT_.out (by kernel_rfl)) (by decide) (fun K hK => ?_)
                     refine Kd.R_lit_step (Kd.int .u8) _ 5 ?hg (N := 148) ?hd (xs := ([(97 + (((x7_3.length : Int)) % 256)) % 256] : List Int)) (inner := [.int .u8 ((97 + (((x7_3.length : Int)) % 256)) % 256)]) (ok := fun _ => True) (okp := fun _ => True) ?hr ?hp (fun _ hk => hk) trivial (Below.refl _ _) (Nat.le_refl _) (by simp) ?_; (case hd => rfl); (case hg => rfl); (case hr => first | (go_simp; done) | (go_simp; rfl) | (go_simp; simp [IntKind.wrap, IntKind.bits, IntKind.signed]; done)); (case hp => exact (Reps.one (show Kd.M (Kd.int .u8) _ _ _ ((97 + (((x7_3.length : Int)) % 256)) % 256) [.int .u8 ((97 + (((x7_3.length : Int)) % 256)) % 256)] from rfl) (Reps.none _ _)))
                     intro v244 w148 ho149 hb hg_ hnew_
                     clear hg_ hnew_
                     (first | rw [← Ny243.out] at ho149 | (simp only [Int.reduceToNat] at ho149; rw [← Ny243.out] at ho149))
                     have n0_ := Hl.am (Kd.R_below (Hl.rr HO_5) hb)
                     have n1_ := Hl.am (Kd.S_below (sr_ HO_7) hb)
                     have n2_ := Hl.am (Kd.R_below (Hl.rr HO248) hb)
                     have n3_ := Hl.am (Kd.R_lower ho149 (keep_size (w := w) (g := g) (row := none) (kS_ HK)))
                     have n4_ := Hl.am (IsS81.below (iS_ HI0) hb)
                     have n5_ := Hl.am (KeepBut.trans (kS_ HK) (KeepBut.of_below hb g none) (.inl rfl))
                     have n6_ := Hl.am (below_step (bI_ HB) hb)
                     clear HO_5 HO_7 HO248 HI0 HK HB
                     have HO_5 := n0_
                     have HO_7 := n1_
                     have HO248 := n2_
                     have HO245 := n3_
                     have HI0 := n4_
                     have HK := n5_
                     have HB := n6_
                     clear n0_ n1_ n2_ n3_ n4_ n5_ n6_
                     clear hb ho149
                     obtain ⟨Ao151, co151, eo151⟩ := Kd.R_slice HO248.out
                     (first | subst eo151 | (injection eo151 with f1_ f2_ f3_; have f4_ := f1_.symm; have f5_ := f3_.symm; clear f1_ f2_ f3_; subst f4_; subst f5_))
                     refine hK.out _ _ trivial (fun hHeld => ?_)
                     clear hK K
                     refine norm_ (a' := ?_) ?_ ?_
                     rotate_left
                     ·
                      show Act.put _ (some 148) _ = _
                      simp only [Act.put, Hl.s1, Hl.s2, Hl.s3, i64_w, i32_w]
                      rfl
                     refine one_ (i := 6) (N := some 149) (Hl.ba 14 895) rfl rfl (one_of HT_.out (by kernel_rfl)) (by decide) (fun K hK => ?_)
                     have hcv150 := own_string (P := Tryz.prog) Tryz.underlying22 Tryz.underlying5 Tryz.underlying9 (Kd.own_of_R HO245.out)
                     refine value_ (w1 := ?_) (v := ?_) (by rfl) rfl ?_ ?_
                     rotate_left 2
                     ·
                      go_simp
                      constructor
                      ·
                       rfl
                      ·
                       rfl
                     clear hcv150
                     refine hK.out _ _ trivial (fun hHeld => ?_)
                     clear hK K
                     refine norm_ (a' := ?_) ?_ ?_
                     rotate_left
                     ·
                      show Act.put _ (some 149) _ = _
                      simp only [Act.put, Hl.s1, Hl.s2, Hl.s3, i64_w, i32_w]
                      rfl
                     refine Hl.pI 7 150 14 1023 HT_ rfl rfl ?_
                     exact norm_ (by simp only [putAll, Act.put, List.setIfInBounds_toArray, List.set_cons_zero, List.set_cons_succ]) (hCont (v244, .slice Ao151 t246.length co151) _ ⟨(Hl.rr HO245), (rm_ HO248 (fun _ hk => hk.2)), (rm_ HO_5 (fun _ hk => hk.2)), (sm_ HO_7 (fun _ hk => ⟨hk.2, hk.1⟩)), (iS_ HI0), (kS_ HK), (bI_ HB)⟩)
                   rintro ⟨v244, v247⟩ w152 ⟨h0_, h1_, h2_, h3_, h4_, h5_, h6_⟩
                   have n0_ : Aside0 (Kd.R (Kd.int .u8) 5 w152 w.heap.size (fun _ => True) v244 y243) := ⟨h0_⟩
                   have n1_ : Aside0 (Kd.R (Kd.int .i64) 2 w152 w.heap.size (fun k_ => some k_ ≠ (.slice Ao144 x5_1.length co144 : Value).ownBlock) v247 t246) := ⟨h1_⟩
                   have n2_ : Aside0 (Kd.R (Kd.int .i64) 2 w152 w.heap.size (fun k_ => some k_ ≠ (v247 : Value).ownBlock) (.slice Ao144 x5_1.length co144) x5_1) := ⟨h2_⟩
                   have n3_ : Aside0 (Kd.S k60 60 w152 w.heap.size (fun k_ => some k_ ≠ (v247 : Value).ownBlock ∧ some k_ ≠ (.slice Ao144 x5_1.length co144 : Value).ownBlock) (.slice Ao145 x7_3.length co145) x7_3) := ⟨h3_⟩
                   have n4_ : Aside0 (IsS81 w0 w152 g s0_0 t241 t242) := ⟨h4_⟩
                   have n5_ : Aside0 (KeepBut w w152 g none) := ⟨h5_⟩
                   have n6_ : Aside0 (Below w0.heap.size w0 w152) := ⟨h6_⟩
                   clear HO_5 HO_7 HI0 HK HB
                   clear h0_ h1_ h2_ h3_ h4_ h5_ h6_
                   have HO245 := n0_
                   have HO248 := n1_
                   have HO_5 := n2_
                   have HO_7 := n3_
                   have HI0 := n4_
                   have HK := n5_
                   have HB := n6_
                   clear n0_ n1_ n2_ n3_ n4_ n5_ n6_
                   have hHeld := trivial
                   obtain ⟨Ao153, co153, eo153⟩ := Kd.R_slice HO248.out
                   (first | subst eo153 | (injection eo153 with f1_ f2_ f3_; have f4_ := f1_.symm; have f5_ := f3_.symm; clear f1_ f2_ f3_; subst f4_; subst f5_))
                   refine norm_ (a' := ?_) ?_ ?_
                   rotate_left
                   ·
                    simp only [putAll, Act.put, List.setIfInBounds_toArray, List.set_cons_zero, List.set_cons_succ]
                    rfl
                   refine Hl.pI 10 153 14 2047 HT_ rfl rfl ?_
                   refine one_ (i := 11) (N := some 154) (Hl.ba 14 4095) rfl rfl (one_of HT_.out (by kernel_rfl)) (by decide) (fun K hK => ?_)
                   refine value_ (w1 := ?_) (v := ?_) (by rfl) rfl ?_ ?_
                   rotate_left 2
                   ·
                    go_simp
                    constructor
                    ·
                     rfl
                    ·
                     rfl
                   refine hK.out _ _ trivial (fun hHeld => ?_)
                   clear hK K
                   refine norm_ (a' := ?_) ?_ ?_
                   rotate_left
                   ·
                    show Act.put _ (some 154) _ = _
                    simp only [Act.put, Hl.s1, Hl.s2, Hl.s3, i64_w, i32_w]
                    rfl
                   refine one_ (i := 12) (N := some 155) (Hl.ba 14 8191) rfl rfl (one_of HT_.out (by kernel_rfl)) (by decide) (fun K hK => ?_)
                   refine Kd.S_append_step k60 w.heap.size (by rfl) (.tmp 143) (.tmp 154) 25 60 (.agg #[(.string ⟨#[]⟩), (.int .i64 0), (.slice none 0 0)]) 48 rfl Tryz.underlying25 info60 rfl (by decide) (by omega) (.slice Ao145 x7_3.length co145) x7_3 (⟨(⟨#[112]⟩ : ByteArray) ++ (strOfNums y243), 0, t246⟩ : S60) [.string ((⟨#[112]⟩ : ByteArray) ++ (strOfNums y243)), .int .i64 0, .slice Ao153 t246.length co153] (fun k_ => some k_ ≠ (.slice Ao144 x5_1.length co144 : Value).ownBlock) (fun k_ => some k_ = (.slice Ao153 t246.length co153 : Value).ownBlock) rfl rfl ?aP (fun k_ hk_ => ((Kd.R_mono (ok' := fun k_ => ((fun k_ => some k_ ≠ (.slice Ao144 x5_1.length co144 : Value).ownBlock)) k_ ∧ some k_ ≠ (.slice Ao145 x7_3.length co145 : Value).ownBlock) (Kd.R_apart' (HO248.out) (Kd.S_typed HO_7.out) (by decide)) (fun k_ hk => ⟨hk.1, hk.2⟩))).1 k_ hk_.symm) ?aF ?aO (Below.refl _ _) ?aS ?aL ?_
                   (case aP => exact k60_mkM _ _ _ (⟨(⟨#[112]⟩ : ByteArray) ++ (strOfNums y243), 0, t246⟩ : S60) (Kd.R_mono (Kd.R_tight rfl (Kd.R_mono (ok' := fun k_ => ((fun k_ => some k_ ≠ (.slice Ao144 x5_1.length co144 : Value).ownBlock)) k_ ∧ some k_ ≠ (.slice Ao145 x7_3.length co145 : Value).ownBlock) (Kd.R_apart' (HO248.out) (Kd.S_typed HO_7.out) (by decide)) (fun k_ hk => ⟨hk.1, hk.2⟩))) (fun _ h_ => h_)))
                   (case aF => exact (fun k_ hk => Kd.fresh' (Kd.R_lt (Hl.rr HO_5)) k_ hk))
                   (case aO => exact (sm_ HO_7 (fun k_ hk => ⟨hk.2, fun e_ => hk.1 e_⟩)))
                   (case aS => exact (keep_size (w := w) (g := g) (row := none) (kS_ HK)))
                   (case aL => have := LMc143.out; omega)
                   intro v250 w154 ho hb hg hat
                   rw [← Ny249.out] at ho
                   have n0_ := Hl.am (Kd.R_over' (Hl.rr HO_5) (Kd.S_typed (sr_ HO_7)) (by decide) hg)
                   have n1_ := Hl.am (IsS81.grown (iS_ HI0) hg (IsS81.own_neS HI0.out HO_7.out (by decide)))
                   have n2_ := Hl.am (Kd.R_over' (Hl.rr HO245) (Kd.S_typed (sr_ HO_7)) (by decide) hg)
                   have n3_ := Hl.am (below_weaken (bI_ HB) HL.out hb)
                   have n4_ := Hl.am (KeepBut.trans (kS_ HK) (KeepBut.of_grown hg g) (Kd.S_base2 HO_7.out))
                   have n5_ := Hl.am (ho)
                   clear HO_5 HI0 HO245 HB HK HO_7 HO248
                   have HO_5 := n0_
                   have HI0 := n1_
                   have HO245 := n2_
                   have HB := n3_
                   have HK := n4_
                   have HO251 := n5_
                   clear n0_ n1_ n2_ n3_ n4_ n5_
                   clear ho hb hg hat
                   refine hK.out _ _ trivial (fun hHeld => ?_)
                   clear hK K
                   refine norm_ (a' := ?_) ?_ ?_
                   rotate_left
                   ·
                    show Act.put _ (some 155) _ = _
                    simp only [Act.put, Hl.s1, Hl.s2, Hl.s3, i64_w, i32_w]
                    rfl
                   refine Hl.pI 13 7 14 16383 HT_ rfl rfl ?_
                   refine done_ (done_of HT_.out (by kernel_rfl)) ?_
                   try go_wp2
                   go_roundg k3
                   case measure => have := HK1.out; have := HK2.out; have := HK3.out; omega
                   case rel => exact ⟨(y249), (wrap64 (x12_3 - 1)), (by first | rfl | (simp; done) | (simp [*]; done)), H', ⟨by have := HK1.out; have := HK2.out; have := HK3.out; omega⟩, ⟨rm_ HO_5 (fun _ hk => trivial)⟩, ⟨sr_ HO251⟩, ⟨iS_ HI0⟩, ⟨kS_ HK⟩, ⟨bI_ HB⟩⟩
                  ·
                   rw [if_neg c143] at H
                   exact absurd H (by simp)
                 ·
                  rw [if_neg c141] at H
                  exact absurd H (by simp)
                ·
                 rw [if_neg c140] at H
                 have c140b0 : decide (0 < x12_3) = false := decide_eq_false c140
                 clear c140
                 simp only [Option.some.injEq, Prod.mk.injEq] at H
                 obtain ⟨rfl, rfl, rfl, rfl⟩ := H
                 go_wp2
                 go_ret2
                 exact ⟨_, _, eW_, Hl.rr HO_5, sr_ HO_7, iS_ HI0, bI_ HB, kS_ HK⟩
             ·
              rw [if_neg c134] at H
              have c134b0 : (t161 == 6) = false := beq_eq_false_iff_ne.mpr c134
              have c134b1 : (t161 != 6) = true := bne_iff_ne.mpr c134
              simp only [Option.some.injEq, Prod.mk.injEq] at H
              obtain ⟨rfl, rfl, rfl, rfl⟩ := H
              go_wp2_with (first | ((with_reducible refine gate_callee (f := 32) rfl ?_); refine Hl.gl (some 64) rfl rfl Tryz.func32 (by kernel_rfl) rfl #[.pointer (some ⟨g, 0, none⟩), .int .i64 28] rfl ?_; (with_reducible refine (spec_l00Src_pick.calls g s0_0 x1001_2 x1002_2 28 t161 t162 t163 w0 _ ?side1 ?side2 A49.out).mono ?_); (case side1 => exact iS_ HI0); (case side2 => exact bI_ HB); rintro e w155 ⟨rfl, hi, hb, hk⟩; refine ⟨_, rfl, ?_⟩; replace HO_4 := Hl.am (Kd.R_mono (Kd.R_keep (IsS81.apart (show IsS81 w0 _ g s0_0 x1001_2 x1002_2 from iS_ HI0) (Hl.rr HO_4) (by decide)) hk (fun _ h => h.2)) (fun _ h => h.1)); replace HO_5 := Hl.am (Kd.R_mono (Kd.R_keep (IsS81.apart (show IsS81 w0 _ g s0_0 x1001_2 x1002_2 from iS_ HI0) (Hl.rr HO_5) (by decide)) hk (fun _ h => h.2)) (fun _ h => h.1)); replace HO_7 := Hl.am (Kd.S_mono (Kd.S_keep (IsS81.apartS (show IsS81 w0 _ g s0_0 x1001_2 x1002_2 from iS_ HI0) (sr_ HO_7) (by decide)) hk (fun _ h => h.2)) (fun _ h => h.1)); replace HK := Hl.am (KeepBut.trans (kS_ HK) hk (.inl rfl)); replace HB := Hl.am (hb); replace HI0 := Hl.am (hi); (try clear hb); (try clear hk); (try clear hi)))
              go_ret2
              exact ⟨_, _, eW_, Hl.rr HO_5, sr_ HO_7, iS_ HI0, bI_ HB, kS_ HK⟩

end Go.Proofs.YtafkckoikobnjaaGreatDoor.PFnPupils
