-- Written by this session's program wip/tools/pr.py out of the translation (with the kit's print.py). Not trusted: Lean checks it.
import Derived.Test.YtafnjlgdjhegaaaPr0
import Derived.Test.YtafnjlgdjhegaaaPr3
import Derived.Test.YtafnjlgdjhegaaaPr4
import Derived.Test.YtafnjlgdjhegaaaPr5
import Derived.Test.YtafnjlgdjhegaaaPr6
import Derived.Test.YtafnjlgdjhegaaaPr7
namespace Go.Proofs.Ytafnjlgdjhegaaa.Pr
open Go.RowKit Go.Proofs.YtafnjlgdjhegaaaW.PrintWords Go.Proofs.YtafnjlgdjhegaaaW.PrintLast Go.Proofs.YtafnjlgdjhegaaaW.PrintMore
attribute [local go_sem] max2_int min2_int max_two min_two max_three min_three max_four min_four   -- for this text's walks alone
set_option linter.unusedVariables false
set_option linter.unusedSimpArgs false

/-! ### musterlaw09_SessionKeeps: function 4 -/
mutual
def musterlaw09_SessionKeeps.j0 : Nat → Int → Int → List Int → List Int → List (S44) → Bool → Option (Bool)
  | 0, _, _, _, _, _, _ => none
  | k + 1, x1, x2, x3, x4, x11, x62 => if x62 = true then ((musterlaw09_awake.f).bind fun t111 => (some t111)) else ((session_Done.f x11 x1 x2 x3).bind fun bt112 => (if bt112.2 = 0 then (musterlaw09_SessionKeeps.l0 k x1 x2 x3 x4 bt112.1 0) else (some false)))
def musterlaw09_SessionKeeps.l0 : Nat → Int → Int → List Int → List Int → List (S44) → Int → Option (Bool)
  | 0, _, _, _, _, _, _ => none
  | k + 1, x1, x2, x3, x4, x11, x16 => if x16 < (x4.length : Int) then (musterlaw09_SessionKeeps.j2 k x1 x2 x3 x4 x11 x16 (decide (x16 < 20))) else (musterlaw09_SessionKeeps.j2 k x1 x2 x3 x4 x11 x16 false)
def musterlaw09_SessionKeeps.j2 : Nat → Int → Int → List Int → List Int → List (S44) → Int → Bool → Option (Bool)
  | 0, _, _, _, _, _, _, _ => none
  | k + 1, x1, x2, x3, x4, x11, x16, x81 => if x81 = true then (if 0 ≤ x16 then (if x16 < (x4.length : Int) then ((musterlow_Pick.f (rd x4 x16) 1000003).bind fun t117 => (if (wrap64 (1 + (Int.tmod (wrap64 (Int.tdiv t117 20)) 1200))) = 0 then (none) else (if (wrap64 (1 + (Int.tmod t117 20))) = x1 then (musterlaw09_SessionKeeps.j3 k x1 x2 x3 x4 x11 x16 (wrap64 (1 + (Int.tmod t117 20))) (wrap64 (1 + (Int.tmod (wrap64 (Int.tdiv t117 20)) 1200))) (mn (Int.tmod (wrap64 (Int.tdiv t117 24000)) (wrap64 (1 + (Int.tmod (wrap64 (Int.tdiv t117 20)) 1200)))) (wrap64 (x2 - 1)))) else (musterlaw09_SessionKeeps.j3 k x1 x2 x3 x4 x11 x16 (wrap64 (1 + (Int.tmod t117 20))) (wrap64 (1 + (Int.tmod (wrap64 (Int.tdiv t117 20)) 1200))) (Int.tmod (wrap64 (Int.tdiv t117 24000)) (wrap64 (1 + (Int.tmod (wrap64 (Int.tdiv t117 20)) 1200)))))))) else (none)) else (none)) else ((session_Look.f x11 x1 x2 0).bind fun bt130 => (if bt130.2.2.2 = 0 then (if bt130.2.1 = 2 then ((musterlow_SameBytes.f bt130.2.2.1 x3).bind fun t138 => (musterlaw09_SessionKeeps.j4 k x1 x2 x11 (!t138))) else (musterlaw09_SessionKeeps.j4 k x1 x2 x11 true)) else (musterlaw09_SessionKeeps.j4 k x1 x2 x11 true)))
def musterlaw09_SessionKeeps.j3 : Nat → Int → Int → List Int → List Int → List (S44) → Int → Int → Int → Int → Option (Bool)
  | 0, _, _, _, _, _, _, _, _, _ => none
  | k + 1, x1, x2, x3, x4, x11, x16, x18, x19, x20 => (session_Look.f x11 x18 x19 x20).bind fun bt118 => (if bt118.2.2.2 = 0 then (if bt118.2.1 = 1 then ((session_Done.f bt118.1 x18 x19 ([] : List Int)).bind fun bt126 => (if bt126.2 = 0 then (musterlaw09_SessionKeeps.l0 k x1 x2 x3 x4 bt126.1 (wrap64 (x16 + 1))) else (some false))) else (musterlaw09_SessionKeeps.l0 k x1 x2 x3 x4 bt118.1 (wrap64 (x16 + 1)))) else (musterlaw09_SessionKeeps.l0 k x1 x2 x3 x4 x11 (wrap64 (x16 + 1))))
def musterlaw09_SessionKeeps.j4 : Nat → Int → Int → List (S44) → Bool → Option (Bool)
  | 0, _, _, _, _ => none
  | k + 1, x1, x2, x11, x152 => if x152 = true then (some false) else ((session_Look.f x11 x1 (wrap64 (x2 + 1)) x2).bind fun bt139 => (if bt139.2.2.2 = 0 then (musterlaw09_SessionKeeps.j5 k x1 x2 bt139.1 (bt139.2.1 == 3)) else (musterlaw09_SessionKeeps.j5 k x1 x2 bt139.1 true)))
def musterlaw09_SessionKeeps.j5 : Nat → Int → Int → List (S44) → Bool → Option (Bool)
  | 0, _, _, _, _ => none
  | k + 1, x1, x2, x30, x169 => if x169 = true then (some false) else ((session_Look.f x30 x1 x2 0).bind fun bt147 => (if bt147.2.2.2 = 0 then (if bt147.2.1 = 3 then (if (bt147.2.2.1.length : Int) = 0 then ((musterlaw09_awake.f).bind fun t155 => (some t155)) else (some false)) else (some false)) else (some false)))
end
def musterlaw09_SessionKeeps.f (k : Nat) (l0 : List (S44)) (a1 : Int) (a2 : Int) (l3 : List Int) (l4 : List Int) : Option (Bool) := (musterlow_Pick.f a1 20).bind fun t101 => ((musterlow_Pick.f a2 1000).bind fun t102 => ((session_Look.f l0 (wrap64 (1 + t101)) (wrap64 (2 + t102)) 0).bind fun bt103 => (if bt103.2.2.2 = 0 then (if bt103.2.1 = 1 then (musterlaw09_SessionKeeps.j0 k (wrap64 (1 + t101)) (wrap64 (2 + t102)) l3 l4 bt103.1 (decide ((l3.length : Int) > 65536))) else (musterlaw09_SessionKeeps.j0 k (wrap64 (1 + t101)) (wrap64 (2 + t102)) l3 l4 bt103.1 true)) else (musterlaw09_SessionKeeps.j0 k (wrap64 (1 + t101)) (wrap64 (2 + t102)) l3 l4 bt103.1 true))))
theorem musterlaw09_SessionKeeps.mono_l : ∀ k, (∀ y0 y1 y2 y3 y4 y5, LeO (musterlaw09_SessionKeeps.j0 k y0 y1 y2 y3 y4 y5) (musterlaw09_SessionKeeps.j0 (k + 1) y0 y1 y2 y3 y4 y5)) ∧ (∀ y0 y1 y2 y3 y4 y5, LeO (musterlaw09_SessionKeeps.l0 k y0 y1 y2 y3 y4 y5) (musterlaw09_SessionKeeps.l0 (k + 1) y0 y1 y2 y3 y4 y5)) ∧ (∀ y0 y1 y2 y3 y4 y5 y6, LeO (musterlaw09_SessionKeeps.j2 k y0 y1 y2 y3 y4 y5 y6) (musterlaw09_SessionKeeps.j2 (k + 1) y0 y1 y2 y3 y4 y5 y6)) ∧ (∀ y0 y1 y2 y3 y4 y5 y6 y7 y8, LeO (musterlaw09_SessionKeeps.j3 k y0 y1 y2 y3 y4 y5 y6 y7 y8) (musterlaw09_SessionKeeps.j3 (k + 1) y0 y1 y2 y3 y4 y5 y6 y7 y8)) ∧ (∀ y0 y1 y2 y3, LeO (musterlaw09_SessionKeeps.j4 k y0 y1 y2 y3) (musterlaw09_SessionKeeps.j4 (k + 1) y0 y1 y2 y3)) ∧ (∀ y0 y1 y2 y3, LeO (musterlaw09_SessionKeeps.j5 k y0 y1 y2 y3) (musterlaw09_SessionKeeps.j5 (k + 1) y0 y1 y2 y3))
  | 0 => ⟨fun _ _ _ _ _ _ r h => by simp [musterlaw09_SessionKeeps.j0] at h, fun _ _ _ _ _ _ r h => by simp [musterlaw09_SessionKeeps.l0] at h, fun _ _ _ _ _ _ _ r h => by simp [musterlaw09_SessionKeeps.j2] at h, fun _ _ _ _ _ _ _ _ _ r h => by simp [musterlaw09_SessionKeeps.j3] at h, fun _ _ _ _ r h => by simp [musterlaw09_SessionKeeps.j4] at h, fun _ _ _ _ r h => by simp [musterlaw09_SessionKeeps.j5] at h⟩
  | k + 1 => by
    obtain ⟨ih0, ih1, ih2, ih3, ih4, ih5⟩ := musterlaw09_SessionKeeps.mono_l k
    refine ⟨?_, ?_, ?_, ?_, ?_, ?_⟩
    · intro y0 y1 y2 y3 y4 y5
      unfold musterlaw09_SessionKeeps.j0
      repeat' first
      | (with_reducible exact ih0 _ _ _ _ _ _)
      | (with_reducible exact ih1 _ _ _ _ _ _)
      | (with_reducible exact ih2 _ _ _ _ _ _ _)
      | (with_reducible exact ih3 _ _ _ _ _ _ _ _ _)
      | (with_reducible exact ih4 _ _ _ _)
      | (with_reducible exact ih5 _ _ _ _)
      | (with_reducible exact LeO.refl _)
      | (with_reducible exact LeO.none _)
      | (with_reducible refine LeO.ite ?_ ?_)
      | (with_reducible refine LeO.bind ?_ (fun _ => ?_))
      | exact ih0 _ _ _ _ _ _
      | exact ih1 _ _ _ _ _ _
      | exact ih2 _ _ _ _ _ _ _
      | exact ih3 _ _ _ _ _ _ _ _ _
      | exact ih4 _ _ _ _
      | exact ih5 _ _ _ _
      | exact LeO.none _
      | refine LeO.ite ?_ ?_
      | refine LeO.bind ?_ (fun _ => ?_)
    · intro y0 y1 y2 y3 y4 y5
      unfold musterlaw09_SessionKeeps.l0
      repeat' first
      | (with_reducible exact ih0 _ _ _ _ _ _)
      | (with_reducible exact ih1 _ _ _ _ _ _)
      | (with_reducible exact ih2 _ _ _ _ _ _ _)
      | (with_reducible exact ih3 _ _ _ _ _ _ _ _ _)
      | (with_reducible exact ih4 _ _ _ _)
      | (with_reducible exact ih5 _ _ _ _)
      | (with_reducible exact LeO.refl _)
      | (with_reducible exact LeO.none _)
      | (with_reducible refine LeO.ite ?_ ?_)
      | (with_reducible refine LeO.bind ?_ (fun _ => ?_))
      | exact ih0 _ _ _ _ _ _
      | exact ih1 _ _ _ _ _ _
      | exact ih2 _ _ _ _ _ _ _
      | exact ih3 _ _ _ _ _ _ _ _ _
      | exact ih4 _ _ _ _
      | exact ih5 _ _ _ _
      | exact LeO.none _
      | refine LeO.ite ?_ ?_
      | refine LeO.bind ?_ (fun _ => ?_)
    · intro y0 y1 y2 y3 y4 y5 y6
      unfold musterlaw09_SessionKeeps.j2
      repeat' first
      | (with_reducible exact ih0 _ _ _ _ _ _)
      | (with_reducible exact ih1 _ _ _ _ _ _)
      | (with_reducible exact ih2 _ _ _ _ _ _ _)
      | (with_reducible exact ih3 _ _ _ _ _ _ _ _ _)
      | (with_reducible exact ih4 _ _ _ _)
      | (with_reducible exact ih5 _ _ _ _)
      | (with_reducible exact LeO.refl _)
      | (with_reducible exact LeO.none _)
      | (with_reducible refine LeO.ite ?_ ?_)
      | (with_reducible refine LeO.bind ?_ (fun _ => ?_))
      | exact ih0 _ _ _ _ _ _
      | exact ih1 _ _ _ _ _ _
      | exact ih2 _ _ _ _ _ _ _
      | exact ih3 _ _ _ _ _ _ _ _ _
      | exact ih4 _ _ _ _
      | exact ih5 _ _ _ _
      | exact LeO.none _
      | refine LeO.ite ?_ ?_
      | refine LeO.bind ?_ (fun _ => ?_)
    · intro y0 y1 y2 y3 y4 y5 y6 y7 y8
      unfold musterlaw09_SessionKeeps.j3
      repeat' first
      | (with_reducible exact ih0 _ _ _ _ _ _)
      | (with_reducible exact ih1 _ _ _ _ _ _)
      | (with_reducible exact ih2 _ _ _ _ _ _ _)
      | (with_reducible exact ih3 _ _ _ _ _ _ _ _ _)
      | (with_reducible exact ih4 _ _ _ _)
      | (with_reducible exact ih5 _ _ _ _)
      | (with_reducible exact LeO.refl _)
      | (with_reducible exact LeO.none _)
      | (with_reducible refine LeO.ite ?_ ?_)
      | (with_reducible refine LeO.bind ?_ (fun _ => ?_))
      | exact ih0 _ _ _ _ _ _
      | exact ih1 _ _ _ _ _ _
      | exact ih2 _ _ _ _ _ _ _
      | exact ih3 _ _ _ _ _ _ _ _ _
      | exact ih4 _ _ _ _
      | exact ih5 _ _ _ _
      | exact LeO.none _
      | refine LeO.ite ?_ ?_
      | refine LeO.bind ?_ (fun _ => ?_)
    · intro y0 y1 y2 y3
      unfold musterlaw09_SessionKeeps.j4
      repeat' first
      | (with_reducible exact ih0 _ _ _ _ _ _)
      | (with_reducible exact ih1 _ _ _ _ _ _)
      | (with_reducible exact ih2 _ _ _ _ _ _ _)
      | (with_reducible exact ih3 _ _ _ _ _ _ _ _ _)
      | (with_reducible exact ih4 _ _ _ _)
      | (with_reducible exact ih5 _ _ _ _)
      | (with_reducible exact LeO.refl _)
      | (with_reducible exact LeO.none _)
      | (with_reducible refine LeO.ite ?_ ?_)
      | (with_reducible refine LeO.bind ?_ (fun _ => ?_))
      | exact ih0 _ _ _ _ _ _
      | exact ih1 _ _ _ _ _ _
      | exact ih2 _ _ _ _ _ _ _
      | exact ih3 _ _ _ _ _ _ _ _ _
      | exact ih4 _ _ _ _
      | exact ih5 _ _ _ _
      | exact LeO.none _
      | refine LeO.ite ?_ ?_
      | refine LeO.bind ?_ (fun _ => ?_)
    · intro y0 y1 y2 y3
      unfold musterlaw09_SessionKeeps.j5
      repeat' first
      | (with_reducible exact ih0 _ _ _ _ _ _)
      | (with_reducible exact ih1 _ _ _ _ _ _)
      | (with_reducible exact ih2 _ _ _ _ _ _ _)
      | (with_reducible exact ih3 _ _ _ _ _ _ _ _ _)
      | (with_reducible exact ih4 _ _ _ _)
      | (with_reducible exact ih5 _ _ _ _)
      | (with_reducible exact LeO.refl _)
      | (with_reducible exact LeO.none _)
      | (with_reducible refine LeO.ite ?_ ?_)
      | (with_reducible refine LeO.bind ?_ (fun _ => ?_))
      | exact ih0 _ _ _ _ _ _
      | exact ih1 _ _ _ _ _ _
      | exact ih2 _ _ _ _ _ _ _
      | exact ih3 _ _ _ _ _ _ _ _ _
      | exact ih4 _ _ _ _
      | exact ih5 _ _ _ _
      | exact LeO.none _
      | refine LeO.ite ?_ ?_
      | refine LeO.bind ?_ (fun _ => ?_)
theorem musterlaw09_SessionKeeps.mono : ∀ a0 a1 a2 a3 a4 k, LeO (musterlaw09_SessionKeeps.f k a0 a1 a2 a3 a4) (musterlaw09_SessionKeeps.f (k + 1) a0 a1 a2 a3 a4) := by
  intro a0 a1 a2 a3 a4 k
  obtain ⟨ih0, ih1, ih2, ih3, ih4, ih5⟩ := musterlaw09_SessionKeeps.mono_l k
  unfold musterlaw09_SessionKeeps.f
  repeat' first
      | (with_reducible exact ih0 _ _ _ _ _ _)
      | (with_reducible exact ih1 _ _ _ _ _ _)
      | (with_reducible exact ih2 _ _ _ _ _ _ _)
      | (with_reducible exact ih3 _ _ _ _ _ _ _ _ _)
      | (with_reducible exact ih4 _ _ _ _)
      | (with_reducible exact ih5 _ _ _ _)
      | (with_reducible exact LeO.refl _)
      | (with_reducible exact LeO.none _)
      | (with_reducible refine LeO.ite ?_ ?_)
      | (with_reducible refine LeO.bind ?_ (fun _ => ?_))
      | exact ih0 _ _ _ _ _ _
      | exact ih1 _ _ _ _ _ _
      | exact ih2 _ _ _ _ _ _ _
      | exact ih3 _ _ _ _ _ _ _ _ _
      | exact ih4 _ _ _ _
      | exact ih5 _ _ _ _
      | exact LeO.none _
      | refine LeO.ite ?_ ?_
      | refine LeO.bind ?_ (fun _ => ?_)
set_option maxHeartbeats 8000000 in
set_option maxRecDepth 100000 in
theorem musterlaw09_SessionKeeps.calls (k : Nat) (A0 : Option Addr) (c0 : Nat) (l0 : List (S44)) (a1 : Int) (a2 : Int) (A3 : Option Addr) (c3 : Nat) (l3 : List Int) (A4 : Option Addr) (c4 : Nat) (l4 : List Int) (r : Bool) (w : World) (hr0 : Kd.C k44 w A0 l0.length l0) (hc0 : l0.length ≤ c0) (hr3 : Kd.C (Kd.int .u8) w A3 l3.length l3) (hc3 : l3.length ≤ c3) (hr4 : Kd.C (Kd.int .i64) w A4 l4.length l4) (hc4 : l4.length ≤ c4) (h : musterlaw09_SessionKeeps.f k l0 a1 a2 l3 l4 = some r) :
    Calls Try.prog 4 #[.slice A0 l0.length c0, .int .i64 a1, .int .i64 a2, .slice A3 l3.length c3, .slice A4 l4.length c4] w fun e w' => e = .returned (.bool r) ∧ Below w.heap.size w w' := by
  have HR0 := Aside0.mk hr0
  have HC0 := Aside0.mk hc0
  clear hr0 hc0
  have HR3 := Aside0.mk hr3
  have HC3 := Aside0.mk hc3
  clear hr3 hc3
  have HR4 := Aside0.mk hr4
  have HC4 := Aside0.mk hc4
  clear hr4 hc4
  have HB := Aside0.mk (Below.refl w.heap.size w)
  have H : ((musterlow_Pick.f a1 20).bind fun t101 => ((musterlow_Pick.f a2 1000).bind fun t102 => ((session_Look.f l0 (wrap64 (1 + t101)) (wrap64 (2 + t102)) 0).bind fun bt103 => (if bt103.2.2.2 = 0 then (if bt103.2.1 = 1 then (musterlaw09_SessionKeeps.j0 k (wrap64 (1 + t101)) (wrap64 (2 + t102)) l3 l4 bt103.1 (decide ((l3.length : Int) > 65536))) else (musterlaw09_SessionKeeps.j0 k (wrap64 (1 + t101)) (wrap64 (2 + t102)) l3 l4 bt103.1 true)) else (musterlaw09_SessionKeeps.j0 k (wrap64 (1 + t101)) (wrap64 (2 + t102)) l3 l4 bt103.1 true))))) = some r := h
  clear h
  replace H := Option.bind_eq_some_iff.mp H
  obtain ⟨t101, A60, H⟩ := H
  replace H : ((musterlow_Pick.f a2 1000).bind fun t102 => ((session_Look.f l0 (wrap64 (1 + t101)) (wrap64 (2 + t102)) 0).bind fun bt103 => (if bt103.2.2.2 = 0 then (if bt103.2.1 = 1 then (musterlaw09_SessionKeeps.j0 k (wrap64 (1 + t101)) (wrap64 (2 + t102)) l3 l4 bt103.1 (decide ((l3.length : Int) > 65536))) else (musterlaw09_SessionKeeps.j0 k (wrap64 (1 + t101)) (wrap64 (2 + t102)) l3 l4 bt103.1 true)) else (musterlaw09_SessionKeeps.j0 k (wrap64 (1 + t101)) (wrap64 (2 + t102)) l3 l4 bt103.1 true)))) = some r := H
  have A6 := Aside0.mk A60
  clear A60
  replace H := Option.bind_eq_some_iff.mp H
  obtain ⟨t102, A70, H⟩ := H
  replace H : ((session_Look.f l0 (wrap64 (1 + t101)) (wrap64 (2 + t102)) 0).bind fun bt103 => (if bt103.2.2.2 = 0 then (if bt103.2.1 = 1 then (musterlaw09_SessionKeeps.j0 k (wrap64 (1 + t101)) (wrap64 (2 + t102)) l3 l4 bt103.1 (decide ((l3.length : Int) > 65536))) else (musterlaw09_SessionKeeps.j0 k (wrap64 (1 + t101)) (wrap64 (2 + t102)) l3 l4 bt103.1 true)) else (musterlaw09_SessionKeeps.j0 k (wrap64 (1 + t101)) (wrap64 (2 + t102)) l3 l4 bt103.1 true))) = some r := H
  have A7 := Aside0.mk A70
  clear A70
  replace H := Option.bind_eq_some_iff.mp H
  obtain ⟨⟨t103, t104, t105, t106⟩, A80, H⟩ := H
  replace H : (if t106 = 0 then (if t104 = 1 then (musterlaw09_SessionKeeps.j0 k (wrap64 (1 + t101)) (wrap64 (2 + t102)) l3 l4 t103 (decide ((l3.length : Int) > 65536))) else (musterlaw09_SessionKeeps.j0 k (wrap64 (1 + t101)) (wrap64 (2 + t102)) l3 l4 t103 true)) else (musterlaw09_SessionKeeps.j0 k (wrap64 (1 + t101)) (wrap64 (2 + t102)) l3 l4 t103 true)) = some r := H
  have A8 := Aside0.mk A80
  clear A80
  have HC9 := Aside0.mk H
  clear H
  go_enter Try.func4, Try.ntmps4
  go_upto_region 4 with (first | ((with_reducible refine gate_callee (f := 20) rfl ?_); refine goesL_ (some 38) rfl rfl Try.func20 (by kernel_rfl) rfl #[.int .i64 a1, .int .i64 20] rfl (by (try simp only [List.map_toArray, List.map_cons, List.map_nil]); first | done | rfl | (simp only [List.length_drop, List.length_take]; rfl)) ?_; (with_reducible refine (musterlow_Pick.calls a1 20 t101 _ A6.out).mono ?_); rintro e w' ⟨rfl, ⟨nd, rfl⟩⟩; refine ⟨_, rfl, ?_⟩) | ((with_reducible refine gate_callee (f := 20) rfl ?_); refine goesL_ (some 41) rfl rfl Try.func20 (by kernel_rfl) rfl #[.int .i64 a2, .int .i64 1000] rfl (by (try simp only [List.map_toArray, List.map_cons, List.map_nil]); first | done | rfl | (simp only [List.length_drop, List.length_take]; rfl)) ?_; (with_reducible refine (musterlow_Pick.calls a2 1000 t102 _ A7.out).mono ?_); rintro e w' ⟨rfl, ⟨nd, rfl⟩⟩; refine ⟨_, rfl, ?_⟩) | ((with_reducible refine gate_callee (f := 10) rfl ?_); refine goesL_ (some 47) rfl rfl Try.func10 (by kernel_rfl) rfl #[.slice A0 l0.length c0, .int .i64 (wrap64 (1 + t101)), .int .i64 (wrap64 (2 + t102)), .int .i64 0] rfl (by (try simp only [List.map_toArray, List.map_cons, List.map_nil]); first | done | rfl | (simp only [List.length_drop, List.length_take]; rfl)) ?_; (with_reducible refine (session_Look.calls _ _ l0 (wrap64 (1 + t101)) (wrap64 (2 + t102)) 0 t103 t104 t105 t106 _ ?side1 ?side2 A8.out).mono ?_); (case side1 => repeat (first | exact HR0.out | (with_reducible refine Kd.C_alloc ?_ _) | (with_reducible refine Kd.C_drewN ?_ _) | (with_reducible refine Kd.C_drew ?_))); (case side2 => exact HC0.out); rintro e w10 ⟨v107, v109, rfl, ho0, ho1, hb⟩; refine ⟨_, rfl, ?_⟩; have n0_ := Aside0.mk (Kd.R_lower ho0 (below_size (by repeat (first | (with_reducible first | exact HB.out | apply below_alloc | apply pw_below_drewN | apply below_drew1) | exact HB.out)))); have n1_ := Aside0.mk (Kd.R_lower ho1 (below_size (by repeat (first | (with_reducible first | exact HB.out | apply below_alloc | apply pw_below_drewN | apply below_drew1) | exact HB.out)))); have n2_ := Aside0.mk (below_step (by repeat (first | (with_reducible first | exact HB.out | apply below_alloc | apply pw_below_drewN | apply below_drew1) | exact HB.out)) hb); clear HB; have HO108 := n0_; have HO110 := n1_; have HB := n2_; clear n0_ n1_ n2_; (try clear hb); (try clear hb2); (try clear hk); (try clear hi); (try clear ho0); (try clear ho1)))
  (try simp only [Act.put, List.setIfInBounds_toArray, List.set_cons_zero, List.set_cons_succ])
  go_cut [62] (fun v62 wc => ∃ (kq : Nat) (x62_8 : Bool), v62 = .bool x62_8 ∧ Aside0 (musterlaw09_SessionKeeps.j0 kq (wrap64 (1 + t101)) (wrap64 (2 + t102)) l3 l4 t103 x62_8 = some r) ∧ Aside0 (kq ≤ k) ∧ Aside0 (Kd.R k44 44 wc w.heap.size (fun _ => True) v107 t103) ∧ Aside0 (Below w.heap.size w wc))
  case first =>
    have H := HC9.out
    clear HC9
    by_cases c11 : t106 = 0
    · rw [if_pos c11] at H
      have c11b0 : (t106 == 0) = true := beq_iff_eq.mpr c11
      have c11b1 : (t106 != 0) = false := bne_eq_false_iff_eq.mpr c11
      clear c11
      (first | rw [c11b0] | (simp only [i64_w, i32_w]; rw [c11b0]) | skip)
      by_cases c12 : t104 = 1
      · rw [if_pos c12] at H
        have c12b0 : (t104 == 1) = true := beq_iff_eq.mpr c12
        have c12b1 : (t104 != 1) = false := bne_eq_false_iff_eq.mpr c12
        clear c12
        have H' := Aside0.mk H
        clear H
        go_wp2
        go_meet
        case rel => exact ⟨_, (decide ((l3.length : Int) > 65536)), (by first | rfl | (simp; done) | (simp [*]; done)), H', ⟨by first | omega | exact Nat.le_refl _⟩, ⟨by (with_reducible repeat (first | apply Kd.R_alloc | apply Kd.R_drewN | apply Kd.R_drew)); exact Kd.R_mono HO108.out (fun _ hk => trivial)⟩, ⟨by repeat (first | (with_reducible first | exact HB.out | apply below_alloc | apply pw_below_drewN | apply below_drew1) | exact HB.out)⟩⟩
      · rw [if_neg c12] at H
        have c12b0 : (t104 == 1) = false := beq_eq_false_iff_ne.mpr c12
        have c12b1 : (t104 != 1) = true := bne_iff_ne.mpr c12
        have H' := Aside0.mk H
        clear H
        go_wp2
        go_meet
        case rel => exact ⟨_, (true), (by first | rfl | (simp; done) | (simp [*]; done)), H', ⟨by first | omega | exact Nat.le_refl _⟩, ⟨by (with_reducible repeat (first | apply Kd.R_alloc | apply Kd.R_drewN | apply Kd.R_drew)); exact Kd.R_mono HO108.out (fun _ hk => trivial)⟩, ⟨by repeat (first | (with_reducible first | exact HB.out | apply below_alloc | apply pw_below_drewN | apply below_drew1) | exact HB.out)⟩⟩
    · rw [if_neg c11] at H
      have c11b0 : (t106 == 0) = false := beq_eq_false_iff_ne.mpr c11
      have c11b1 : (t106 != 0) = true := bne_iff_ne.mpr c11
      (first | rw [c11b0] | (simp only [i64_w, i32_w]; rw [c11b0]) | skip)
      have H' := Aside0.mk H
      clear H
      go_wp2
      go_meet
      case rel => exact ⟨_, (true), (by first | rfl | (simp; done) | (simp [*]; done)), H', ⟨by first | omega | exact Nat.le_refl _⟩, ⟨by (with_reducible repeat (first | apply Kd.R_alloc | apply Kd.R_drewN | apply Kd.R_drew)); exact Kd.R_mono HO108.out (fun _ hk => trivial)⟩, ⟨by repeat (first | (with_reducible first | exact HB.out | apply below_alloc | apply pw_below_drewN | apply below_drew1) | exact HB.out)⟩⟩
  case rest =>
    clear HC9
    try clear c1
    try clear c2
    try clear p2
    try clear c3
    try clear c4
    try clear p6
    try clear c10
    try clear c11
    try clear c11b0
    try clear c11b1
    try clear c12
    try clear c12b0
    try clear c12b1
    obtain ⟨kq, x62_8, rfl, HA, HJ8, HO_11, HB⟩ := hcut
    cases kq with
    | zero => exact absurd HA.out (by simp [musterlaw09_SessionKeeps.j0])
    | succ kj8 =>
      have H := HA.out
      clear HA
      simp only [musterlaw09_SessionKeeps.j0] at H
      by_cases c13 : x62_8 = true
      · subst c13
        have H1 : ((musterlaw09_awake.f).bind fun t111 => (some t111)) = some r := by rw [if_pos rfl] at H; exact H
        clear H
        have H := H1
        clear H1
        replace H := Option.bind_eq_some_iff.mp H
        obtain ⟨t111, A140, H⟩ := H
        replace H : (some t111) = some r := H
        have A14 := Aside0.mk A140
        clear A140
        obtain rfl := Option.some.inj H
        go_wp2_with (first | ((with_reducible refine gate_callee (f := 19) rfl ?_); refine goesL_ (some 63) rfl rfl Try.func19 (by kernel_rfl) rfl #[] rfl (by (try simp only [List.map_toArray, List.map_cons, List.map_nil]); first | done | rfl | (simp only [List.length_drop, List.length_take]; rfl)) ?_; (with_reducible refine (musterlaw09_awake.calls  t111 _ A14.out).mono ?_); rintro e w15 ⟨rfl, hb⟩; refine ⟨_, rfl, ?_⟩; have n0_ := Aside0.mk (Kd.R_below (by (with_reducible repeat (first | apply Kd.R_alloc | apply Kd.R_drewN | apply Kd.R_drew)); exact HO_11.out) hb); have n1_ := Aside0.mk (below_step (by repeat (first | (with_reducible first | exact HB.out | apply below_alloc | apply pw_below_drewN | apply below_drew1) | exact HB.out)) hb); clear HO_11; clear HB; have HO_11 := n0_; have HB := n1_; clear n0_ n1_; (try clear hb); (try clear hb2); (try clear hk); (try clear hi)))
        go_ret
        exact ⟨by first | rfl | (simp [errW_none, errW_some] <;> rfl) | (simp [*, errW_none, errW_some] <;> rfl), by repeat (first | (with_reducible first | exact HB.out | apply below_alloc | apply pw_below_drewN | apply below_drew1) | exact HB.out)⟩
      · replace c13 := Bool.eq_false_iff.mpr c13
        subst c13
        have H1 : ((session_Done.f t103 (wrap64 (1 + t101)) (wrap64 (2 + t102)) l3).bind fun bt112 => (if bt112.2 = 0 then (musterlaw09_SessionKeeps.l0 kj8 (wrap64 (1 + t101)) (wrap64 (2 + t102)) l3 l4 bt112.1 0) else (some false))) = some r := by rw [if_neg (show ¬ (false = true) by decide)] at H; exact H
        clear H
        have H := H1
        clear H1
        replace H := Option.bind_eq_some_iff.mp H
        obtain ⟨⟨t112, t113⟩, A160, H⟩ := H
        replace H : (if t113 = 0 then (musterlaw09_SessionKeeps.l0 kj8 (wrap64 (1 + t101)) (wrap64 (2 + t102)) l3 l4 t112 0) else (some false)) = some r := H
        have A16 := Aside0.mk A160
        clear A160
        by_cases c17 : t113 = 0
        · rw [if_pos c17] at H
          have c17b0 : (t113 == 0) = true := beq_iff_eq.mpr c17
          have c17b1 : (t113 != 0) = false := bne_eq_false_iff_eq.mpr c17
          clear c17
          have H' := Aside0.mk H
          clear H
          obtain ⟨Ao18, co18, eo18⟩ := Kd.R_slice HO_11.out
          subst eo18
          go_wp2_with (first | ((with_reducible refine gate_callee (f := 12) rfl ?_); refine goesL_ (some 69) rfl rfl Try.func12 (by kernel_rfl) rfl #[.slice Ao18 t103.length co18, .int .i64 (wrap64 (1 + t101)), .int .i64 (wrap64 (2 + t102)), .slice A3 l3.length c3] rfl (by (try simp only [List.map_toArray, List.map_cons, List.map_nil]); first | done | rfl | (simp only [List.length_drop, List.length_take]; rfl)) ?_; (with_reducible refine (session_Done.calls _ _ t103 (wrap64 (1 + t101)) (wrap64 (2 + t102)) _ _ l3 t112 t113 _ ?side1 ?side2 ?side3 ?side4 A16.out).mono ?_); (case side1 => repeat (first | exact (Kd.R_reads' HO_11.out).2.2 | (with_reducible refine Kd.C_alloc ?_ _) | (with_reducible refine Kd.C_drewN ?_ _) | (with_reducible refine Kd.C_drew ?_))); (case side2 => exact (Kd.R_reads' HO_11.out).2.1); (case side3 => repeat (first | exact (Kd.C_below HR3.out HB.out) | (with_reducible refine Kd.C_alloc ?_ _) | (with_reducible refine Kd.C_drewN ?_ _) | (with_reducible refine Kd.C_drew ?_))); (case side4 => exact HC3.out); rintro e w19 ⟨v114, rfl, ho0, hb⟩; refine ⟨_, rfl, ?_⟩; have n0_ := Aside0.mk (Kd.R_elder' (by (with_reducible repeat (first | apply Kd.R_alloc | apply Kd.R_drewN | apply Kd.R_drew)); exact HO_11.out) (Kd.R_base ho0) hb); have n1_ := Aside0.mk (Kd.R_lower (Kd.R_new' ho0 (Kd.R_lt (by (with_reducible repeat (first | apply Kd.R_alloc | apply Kd.R_drewN | apply Kd.R_drew)); exact HO_11.out))) (below_size (by repeat (first | (with_reducible first | exact HB.out | apply below_alloc | apply pw_below_drewN | apply below_drew1) | exact HB.out)))); have n2_ := Aside0.mk (below_step (by repeat (first | (with_reducible first | exact HB.out | apply below_alloc | apply pw_below_drewN | apply below_drew1) | exact HB.out)) hb); clear HO_11; clear HB; have HO_11 := n0_; have HO115 := n1_; have HB := n2_; clear n0_ n1_ n2_; (try clear hb); (try clear hb2); (try clear hk); (try clear hi); (try clear ho0)))
          go_loopg [11, 16] kj8 (fun kq v11 v16 w' => ∃ (x11_2 : List (S44)) (x16_2 : Int), v16 = .int .i64 x16_2 ∧ Aside0 (musterlaw09_SessionKeeps.l0 kq (wrap64 (1 + t101)) (wrap64 (2 + t102)) l3 l4 x11_2 x16_2 = some r) ∧ Aside0 (kq ≤ kj8) ∧ Aside0 (Kd.R k44 44 w' w.heap.size (fun _ => True) v11 x11_2) ∧ Aside0 (Below w.heap.size w w'))
          case atStart => exact ⟨(t112), (0), (by first | rfl | (simp; done) | (simp [*]; done)), H', ⟨Nat.le_refl _⟩, ⟨by (with_reducible repeat (first | apply Kd.R_alloc | apply Kd.R_drewN | apply Kd.R_drew)); exact Kd.R_mono HO115.out (fun _ hk => trivial)⟩, ⟨by repeat (first | (with_reducible first | exact HB.out | apply below_alloc | apply pw_below_drewN | apply below_drew1) | exact HB.out)⟩⟩
          case round =>
            clear H'
            try clear c1
            try clear c2
            try clear p2
            try clear c3
            try clear c4
            try clear p6
            try clear c10
            try clear c11
            try clear c11b0
            try clear c11b1
            try clear c12
            try clear c12b0
            try clear c12b1
            try clear c13
            try clear c17
            try clear c17b0
            try clear c17b1
            try clear c19
            try clear p2
            try clear p6
            obtain ⟨x11_2, x16_2, rfl, HA, HK2, HO_11, HB⟩ := hrel
            cases gk with
            | zero => exact absurd HA.out (by simp [musterlaw09_SessionKeeps.l0])
            | succ k2 =>
              have H := HA.out
              clear HA
              simp only [musterlaw09_SessionKeeps.l0] at H
              have HC20 := Aside0.mk H
              clear H
              go_upto_region 10 with (fail)
              go_cut [81] (fun v81 wc => ∃ (kq : Nat) (x81_19 : Bool), v81 = .bool x81_19 ∧ Aside0 (musterlaw09_SessionKeeps.j2 kq (wrap64 (1 + t101)) (wrap64 (2 + t102)) l3 l4 x11_2 x16_2 x81_19 = some r) ∧ Aside0 (kq ≤ k2) ∧ Aside0 (Kd.R k44 44 wc w.heap.size (fun _ => True) u11 x11_2) ∧ Aside0 (Below w.heap.size w wc))
              case first =>
                have H := HC20.out
                clear HC20
                by_cases c21 : x16_2 < (l4.length : Int)
                · rw [if_pos c21] at H
                  have c21b0 : decide (x16_2 < (l4.length : Int)) = true := decide_eq_true c21
                  clear c21
                  (first | rw [c21b0] | (simp only [i64_w, i32_w]; rw [c21b0]) | skip)
                  have H' := Aside0.mk H
                  clear H
                  go_wp2
                  go_meet
                  case rel => exact ⟨_, (decide (x16_2 < 20)), (by first | rfl | (simp; done) | (simp [*]; done)), H', ⟨by have := HJ8.out; have := HK2.out; first | omega | exact Nat.le_refl _⟩, ⟨by (with_reducible repeat (first | apply Kd.R_alloc | apply Kd.R_drewN | apply Kd.R_drew)); exact HO_11.out⟩, ⟨by repeat (first | (with_reducible first | exact HB.out | apply below_alloc | apply pw_below_drewN | apply below_drew1) | exact HB.out)⟩⟩
                · rw [if_neg c21] at H
                  have c21b0 : decide (x16_2 < (l4.length : Int)) = false := decide_eq_false c21
                  clear c21
                  (first | rw [c21b0] | (simp only [i64_w, i32_w]; rw [c21b0]) | skip)
                  have H' := Aside0.mk H
                  clear H
                  go_wp2
                  go_meet
                  case rel => exact ⟨_, (false), (by first | rfl | (simp; done) | (simp [*]; done)), H', ⟨by have := HJ8.out; have := HK2.out; first | omega | exact Nat.le_refl _⟩, ⟨by (with_reducible repeat (first | apply Kd.R_alloc | apply Kd.R_drewN | apply Kd.R_drew)); exact HO_11.out⟩, ⟨by repeat (first | (with_reducible first | exact HB.out | apply below_alloc | apply pw_below_drewN | apply below_drew1) | exact HB.out)⟩⟩
              case rest =>
                clear HC20
                try clear c1
                try clear c2
                try clear p2
                try clear c3
                try clear c4
                try clear p6
                try clear c10
                try clear c11
                try clear c11b0
                try clear c11b1
                try clear c12
                try clear c12b0
                try clear c12b1
                try clear c13
                try clear c17
                try clear c17b0
                try clear c17b1
                try clear c19
                try clear c20
                try clear c21
                try clear c21b0
                try clear p2
                try clear p6
                obtain ⟨kq, x81_19, rfl, HA, HJ19, HO_11, HB⟩ := hcut
                cases kq with
                | zero => exact absurd HA.out (by simp [musterlaw09_SessionKeeps.j2])
                | succ kj19 =>
                  have H := HA.out
                  clear HA
                  simp only [musterlaw09_SessionKeeps.j2] at H
                  by_cases c22 : x81_19 = true
                  · subst c22
                    have H1 : (if 0 ≤ x16_2 then (if x16_2 < (l4.length : Int) then ((musterlow_Pick.f (rd l4 x16_2) 1000003).bind fun t117 => (if (wrap64 (1 + (Int.tmod (wrap64 (Int.tdiv t117 20)) 1200))) = 0 then (none) else (if (wrap64 (1 + (Int.tmod t117 20))) = (wrap64 (1 + t101)) then (musterlaw09_SessionKeeps.j3 kj19 (wrap64 (1 + t101)) (wrap64 (2 + t102)) l3 l4 x11_2 x16_2 (wrap64 (1 + (Int.tmod t117 20))) (wrap64 (1 + (Int.tmod (wrap64 (Int.tdiv t117 20)) 1200))) (mn (Int.tmod (wrap64 (Int.tdiv t117 24000)) (wrap64 (1 + (Int.tmod (wrap64 (Int.tdiv t117 20)) 1200)))) (wrap64 ((wrap64 (2 + t102)) - 1)))) else (musterlaw09_SessionKeeps.j3 kj19 (wrap64 (1 + t101)) (wrap64 (2 + t102)) l3 l4 x11_2 x16_2 (wrap64 (1 + (Int.tmod t117 20))) (wrap64 (1 + (Int.tmod (wrap64 (Int.tdiv t117 20)) 1200))) (Int.tmod (wrap64 (Int.tdiv t117 24000)) (wrap64 (1 + (Int.tmod (wrap64 (Int.tdiv t117 20)) 1200)))))))) else (none)) else (none)) = some r := by rw [if_pos rfl] at H; exact H
                    clear H
                    have H := H1
                    clear H1
                    by_cases c23 : 0 ≤ x16_2
                    · rw [if_pos c23] at H
                      have c23b0 : decide (0 ≤ x16_2) = true := decide_eq_true c23
                      clear c23
                      by_cases c24 : x16_2 < (l4.length : Int)
                      · rw [if_pos c24] at H
                        have c24b0 : decide (x16_2 < (l4.length : Int)) = true := decide_eq_true c24
                        clear c24
                        replace H := Option.bind_eq_some_iff.mp H
                        obtain ⟨t117, A250, H⟩ := H
                        replace H : (if (wrap64 (1 + (Int.tmod (wrap64 (Int.tdiv t117 20)) 1200))) = 0 then (none) else (if (wrap64 (1 + (Int.tmod t117 20))) = (wrap64 (1 + t101)) then (musterlaw09_SessionKeeps.j3 kj19 (wrap64 (1 + t101)) (wrap64 (2 + t102)) l3 l4 x11_2 x16_2 (wrap64 (1 + (Int.tmod t117 20))) (wrap64 (1 + (Int.tmod (wrap64 (Int.tdiv t117 20)) 1200))) (mn (Int.tmod (wrap64 (Int.tdiv t117 24000)) (wrap64 (1 + (Int.tmod (wrap64 (Int.tdiv t117 20)) 1200)))) (wrap64 ((wrap64 (2 + t102)) - 1)))) else (musterlaw09_SessionKeeps.j3 kj19 (wrap64 (1 + t101)) (wrap64 (2 + t102)) l3 l4 x11_2 x16_2 (wrap64 (1 + (Int.tmod t117 20))) (wrap64 (1 + (Int.tmod (wrap64 (Int.tdiv t117 20)) 1200))) (Int.tmod (wrap64 (Int.tdiv t117 24000)) (wrap64 (1 + (Int.tmod (wrap64 (Int.tdiv t117 20)) 1200))))))) = some r := H
                        have A25 := Aside0.mk A250
                        clear A250
                        by_cases c26 : (wrap64 (1 + (Int.tmod (wrap64 (Int.tdiv t117 20)) 1200))) = 0
                        · rw [if_pos c26] at H
                          exact absurd H (by simp)
                        · rw [if_neg c26] at H
                          have c26b0 : ((wrap64 (1 + (Int.tmod (wrap64 (Int.tdiv t117 20)) 1200))) == 0) = false := beq_eq_false_iff_ne.mpr c26
                          have c26b1 : ((wrap64 (1 + (Int.tmod (wrap64 (Int.tdiv t117 20)) 1200))) != 0) = true := bne_iff_ne.mpr c26
                          have HC27 := Aside0.mk H
                          clear H
                          have p116 : 0 ≤ (x16_2 : Int) := of_decide_eq_true (by first | (with_reducible assumption) | assumption)
                          have q116 : x16_2 < (l4.length : Int) := of_decide_eq_true (by first | (with_reducible assumption) | assumption)
                          obtain ⟨ad116, e116, hx116_0⟩ := Kd.at_int HR4.out x16_2 p116 q116
                          cases e116
                          replace hx116_0 := (HB.out.cell (World.block_lt_of_cell? w _ hx116_0)).trans hx116_0
                          replace p116 := eq_true p116
                          replace q116 := eq_true q116
                          go_upto_if 102 with (first | ((with_reducible refine gate_callee (f := 20) rfl ?_); refine goesL_ (some 88) rfl rfl Try.func20 (by kernel_rfl) rfl #[.int .i64 (rd l4 x16_2), .int .i64 1000003] rfl (by (try simp only [List.map_toArray, List.map_cons, List.map_nil]); first | done | rfl | (simp only [List.length_drop, List.length_take]; rfl)) ?_; (with_reducible refine (musterlow_Pick.calls (rd l4 x16_2) 1000003 t117 _ A25.out).mono ?_); rintro e w' ⟨rfl, ⟨nd, rfl⟩⟩; refine ⟨_, rfl, ?_⟩))
                          (try simp only [Act.put, List.setIfInBounds_toArray, List.set_cons_zero, List.set_cons_succ])
                          go_cut [20] (fun v20 wc => ∃ (kq : Nat) (x20_26 : Int), v20 = .int .i64 x20_26 ∧ Aside0 (musterlaw09_SessionKeeps.j3 kq (wrap64 (1 + t101)) (wrap64 (2 + t102)) l3 l4 x11_2 x16_2 (wrap64 (1 + (Int.tmod t117 20))) (wrap64 (1 + (Int.tmod (wrap64 (Int.tdiv t117 20)) 1200))) x20_26 = some r) ∧ Aside0 (kq ≤ kj19) ∧ Aside0 (Kd.R k44 44 wc w.heap.size (fun _ => True) u11 x11_2) ∧ Aside0 (Below w.heap.size w wc))
                          case first =>
                            have H := HC27.out
                            clear HC27
                            by_cases c28 : (wrap64 (1 + (Int.tmod t117 20))) = (wrap64 (1 + t101))
                            · rw [if_pos c28] at H
                              have c28b0 : ((wrap64 (1 + (Int.tmod t117 20))) == (wrap64 (1 + t101))) = true := beq_iff_eq.mpr c28
                              have c28b1 : ((wrap64 (1 + (Int.tmod t117 20))) != (wrap64 (1 + t101))) = false := bne_eq_false_iff_eq.mpr c28
                              clear c28
                              (first | rw [c28b0] | (simp only [i64_w, i32_w]; rw [c28b0]) | skip)
                              obtain ⟨ji29, hji29⟩ : ∃ j_ : Int, (mn (Int.tmod (wrap64 (Int.tdiv t117 24000)) (wrap64 (1 + (Int.tmod (wrap64 (Int.tdiv t117 20)) 1200)))) (wrap64 ((wrap64 (2 + t102)) - 1))) = j_ := ⟨_, rfl⟩
                              replace H : (musterlaw09_SessionKeeps.j3 kj19 (wrap64 (1 + t101)) (wrap64 (2 + t102)) l3 l4 x11_2 x16_2 (wrap64 (1 + (Int.tmod t117 20))) (wrap64 (1 + (Int.tmod (wrap64 (Int.tdiv t117 20)) 1200))) ji29) = some r := by first | (rw [hji29] at H; exact H) | (simp only [hji29] at H ⊢; exact H)
                              have hji29_ : (if (wrap64 ((wrap64 (2 + t102)) - 1)) < (Int.tmod (wrap64 (Int.tdiv t117 24000)) (wrap64 (1 + (Int.tmod (wrap64 (Int.tdiv t117 20)) 1200)))) then (wrap64 ((wrap64 (2 + t102)) - 1)) else (Int.tmod (wrap64 (Int.tdiv t117 24000)) (wrap64 (1 + (Int.tmod (wrap64 (Int.tdiv t117 20)) 1200))))) = ji29 := hji29
                              have H' := Aside0.mk H
                              clear H
                              go_wp2
                              go_meet
                              case rel => exact ⟨_, (ji29), (by first | rfl | (simp; done) | (simp only [← hji29] <;> (first | rfl | simp)) | (simp [*]; done)), H', ⟨by have := HJ8.out; have := HK2.out; have := HJ19.out; first | omega | exact Nat.le_refl _⟩, ⟨by (with_reducible repeat (first | apply Kd.R_alloc | apply Kd.R_drewN | apply Kd.R_drew)); exact HO_11.out⟩, ⟨by repeat (first | (with_reducible first | exact HB.out | apply below_alloc | apply pw_below_drewN | apply below_drew1) | exact HB.out)⟩⟩
                            · rw [if_neg c28] at H
                              have c28b0 : ((wrap64 (1 + (Int.tmod t117 20))) == (wrap64 (1 + t101))) = false := beq_eq_false_iff_ne.mpr c28
                              have c28b1 : ((wrap64 (1 + (Int.tmod t117 20))) != (wrap64 (1 + t101))) = true := bne_iff_ne.mpr c28
                              (first | rw [c28b0] | (simp only [i64_w, i32_w]; rw [c28b0]) | skip)
                              have H' := Aside0.mk H
                              clear H
                              go_wp2
                              go_meet
                              case rel => exact ⟨_, (Int.tmod (wrap64 (Int.tdiv t117 24000)) (wrap64 (1 + (Int.tmod (wrap64 (Int.tdiv t117 20)) 1200)))), (by first | rfl | (simp; done) | (simp [*]; done)), H', ⟨by have := HJ8.out; have := HK2.out; have := HJ19.out; first | omega | exact Nat.le_refl _⟩, ⟨by (with_reducible repeat (first | apply Kd.R_alloc | apply Kd.R_drewN | apply Kd.R_drew)); exact HO_11.out⟩, ⟨by repeat (first | (with_reducible first | exact HB.out | apply below_alloc | apply pw_below_drewN | apply below_drew1) | exact HB.out)⟩⟩
                          case rest =>
                            clear HC27
                            try clear c1
                            try clear p1
                            try clear q1
                            try clear hx1
                            try clear c2
                            try clear p2
                            try clear c3
                            try clear c4
                            try clear p6
                            try clear c10
                            try clear c11
                            try clear c11b0
                            try clear c11b1
                            try clear p11
                            try clear q11
                            try clear hx11
                            try clear c12
                            try clear c12b0
                            try clear c12b1
                            try clear c13
                            try clear c17
                            try clear c17b0
                            try clear c17b1
                            try clear c19
                            try clear c20
                            try clear c21
                            try clear c21b0
                            try clear c22
                            try clear c23
                            try clear c23b0
                            try clear c24
                            try clear c24b0
                            try clear c26
                            try clear c26b0
                            try clear c26b1
                            try clear c28
                            try clear c28b0
                            try clear c28b1
                            try clear hx116_0
                            try clear p116
                            try clear p2
                            try clear p6
                            try clear q116
                            obtain ⟨kq, x20_26, rfl, HA, HJ26, HO_11, HB⟩ := hcut
                            cases kq with
                            | zero => exact absurd HA.out (by simp [musterlaw09_SessionKeeps.j3])
                            | succ kj26 =>
                              have H := HA.out
                              clear HA
                              simp only [musterlaw09_SessionKeeps.j3] at H
                              replace H := Option.bind_eq_some_iff.mp H
                              obtain ⟨⟨t118, t119, t120, t121⟩, A300, H⟩ := H
                              replace H : (if t121 = 0 then (if t119 = 1 then ((session_Done.f t118 (wrap64 (1 + (Int.tmod t117 20))) (wrap64 (1 + (Int.tmod (wrap64 (Int.tdiv t117 20)) 1200))) ([] : List Int)).bind fun bt126 => (if bt126.2 = 0 then (musterlaw09_SessionKeeps.l0 kj26 (wrap64 (1 + t101)) (wrap64 (2 + t102)) l3 l4 bt126.1 (wrap64 (x16_2 + 1))) else (some false))) else (musterlaw09_SessionKeeps.l0 kj26 (wrap64 (1 + t101)) (wrap64 (2 + t102)) l3 l4 t118 (wrap64 (x16_2 + 1)))) else (musterlaw09_SessionKeeps.l0 kj26 (wrap64 (1 + t101)) (wrap64 (2 + t102)) l3 l4 x11_2 (wrap64 (x16_2 + 1)))) = some r := H
                              have A30 := Aside0.mk A300
                              clear A300
                              by_cases c31 : t121 = 0
                              · rw [if_pos c31] at H
                                have c31b0 : (t121 == 0) = true := beq_iff_eq.mpr c31
                                have c31b1 : (t121 != 0) = false := bne_eq_false_iff_eq.mpr c31
                                clear c31
                                by_cases c32 : t119 = 1
                                · rw [if_pos c32] at H
                                  have c32b0 : (t119 == 1) = true := beq_iff_eq.mpr c32
                                  have c32b1 : (t119 != 1) = false := bne_eq_false_iff_eq.mpr c32
                                  clear c32
                                  replace H := Option.bind_eq_some_iff.mp H
                                  obtain ⟨⟨t126, t127⟩, A330, H⟩ := H
                                  replace H : (if t127 = 0 then (musterlaw09_SessionKeeps.l0 kj26 (wrap64 (1 + t101)) (wrap64 (2 + t102)) l3 l4 t126 (wrap64 (x16_2 + 1))) else (some false)) = some r := H
                                  have A33 := Aside0.mk A330
                                  clear A330
                                  by_cases c34 : t127 = 0
                                  · rw [if_pos c34] at H
                                    have c34b0 : (t127 == 0) = true := beq_iff_eq.mpr c34
                                    have c34b1 : (t127 != 0) = false := bne_eq_false_iff_eq.mpr c34
                                    clear c34
                                    have H' := Aside0.mk H
                                    clear H
                                    obtain ⟨Ao35, co35, eo35⟩ := Kd.R_slice HO_11.out
                                    subst eo35
                                    go_wp2_with (first | ((with_reducible refine gate_callee (f := 10) rfl ?_); refine goesL_ (some 112) rfl rfl Try.func10 (by kernel_rfl) rfl #[.slice Ao35 x11_2.length co35, .int .i64 (wrap64 (1 + (Int.tmod t117 20))), .int .i64 (wrap64 (1 + (Int.tmod (wrap64 (Int.tdiv t117 20)) 1200))), .int .i64 x20_26] rfl (by (try simp only [List.map_toArray, List.map_cons, List.map_nil]); first | done | rfl | (simp only [List.length_drop, List.length_take]; rfl)) ?_; (with_reducible refine (session_Look.calls _ _ x11_2 (wrap64 (1 + (Int.tmod t117 20))) (wrap64 (1 + (Int.tmod (wrap64 (Int.tdiv t117 20)) 1200))) x20_26 t118 t119 t120 t121 _ ?side1 ?side2 A30.out).mono ?_); (case side1 => repeat (first | exact (Kd.R_reads' HO_11.out).2.2 | (with_reducible refine Kd.C_alloc ?_ _) | (with_reducible refine Kd.C_drewN ?_ _) | (with_reducible refine Kd.C_drew ?_))); (case side2 => exact (Kd.R_reads' HO_11.out).2.1); rintro e w36 ⟨v122, v124, rfl, ho0, ho1, hb⟩; refine ⟨_, rfl, ?_⟩; have n0_ := Aside0.mk (Kd.R_mono (Kd.R_told (Kd.R_told (Kd.R_old (by (with_reducible repeat (first | apply Kd.R_alloc | apply Kd.R_drewN | apply Kd.R_drew)); exact HO_11.out) hb) (Kd.R_base ho0)) (Kd.R_base ho1)) (fun _ h_ => h_.1)); have n1_ := Aside0.mk (Kd.R_lower (Kd.R_new' ho0 (Kd.R_lt (by (with_reducible repeat (first | apply Kd.R_alloc | apply Kd.R_drewN | apply Kd.R_drew)); exact HO_11.out))) (below_size (by repeat (first | (with_reducible first | exact HB.out | apply below_alloc | apply pw_below_drewN | apply below_drew1) | exact HB.out)))); have n2_ := Aside0.mk (Kd.R_lower ho1 (below_size (by repeat (first | (with_reducible first | exact HB.out | apply below_alloc | apply pw_below_drewN | apply below_drew1) | exact HB.out)))); have n3_ := Aside0.mk (below_step (by repeat (first | (with_reducible first | exact HB.out | apply below_alloc | apply pw_below_drewN | apply below_drew1) | exact HB.out)) hb); clear HO_11; clear HB; have HO_11 := n0_; have HO123 := n1_; have HO125 := n2_; have HB := n3_; clear n0_ n1_ n2_ n3_; (try clear hb); (try clear hb2); (try clear hk); (try clear hi); (try clear ho0); (try clear ho1); obtain ⟨Ao37, co37, eo37⟩ := Kd.R_slice HO123.out; subst eo37) | ((with_reducible refine gate_callee (f := 12) rfl ?_); refine goesL_ (some 126) rfl rfl Try.func12 (by kernel_rfl) rfl #[.slice Ao37 t118.length co37, .int .i64 (wrap64 (1 + (Int.tmod t117 20))), .int .i64 (wrap64 (1 + (Int.tmod (wrap64 (Int.tdiv t117 20)) 1200))), .slice none 0 0] rfl (by (try simp only [List.map_toArray, List.map_cons, List.map_nil]); first | done | rfl | (simp only [List.length_drop, List.length_take]; rfl)) ?_; (refine (session_Done.calls _ _ t118 (wrap64 (1 + (Int.tmod t117 20))) (wrap64 (1 + (Int.tmod (wrap64 (Int.tdiv t117 20)) 1200))) _ _ ([] : List Int) t126 t127 _ ?side1 ?side2 ?side3 ?side4 A33.out).mono ?_); (case side1 => repeat (first | exact (Kd.R_reads' HO123.out).2.2 | (with_reducible refine Kd.C_alloc ?_ _) | (with_reducible refine Kd.C_drewN ?_ _) | (with_reducible refine Kd.C_drew ?_))); (case side2 => exact (Kd.R_reads' HO123.out).2.1); (case side3 => exact Kd.C_nil _ _); (case side4 => exact Nat.le_refl _); rintro e w38 ⟨v128, rfl, ho0, hb⟩; refine ⟨_, rfl, ?_⟩; have n0_ := Aside0.mk (Kd.R_elder' (by (with_reducible repeat (first | apply Kd.R_alloc | apply Kd.R_drewN | apply Kd.R_drew)); exact HO_11.out) (Kd.R_base ho0) hb); have n1_ := Aside0.mk (Kd.R_elder' (by (with_reducible repeat (first | apply Kd.R_alloc | apply Kd.R_drewN | apply Kd.R_drew)); exact HO123.out) (Kd.R_base ho0) hb); have n2_ := Aside0.mk (Kd.R_below (by (with_reducible repeat (first | apply Kd.R_alloc | apply Kd.R_drewN | apply Kd.R_drew)); exact HO125.out) hb); have n3_ := Aside0.mk (Kd.R_lower (Kd.R_new' (Kd.R_new' (Kd.R_new' ho0 (Kd.R_lt (by (with_reducible repeat (first | apply Kd.R_alloc | apply Kd.R_drewN | apply Kd.R_drew)); exact HO_11.out))) (Kd.R_lt (by (with_reducible repeat (first | apply Kd.R_alloc | apply Kd.R_drewN | apply Kd.R_drew)); exact HO123.out))) (Kd.R_lt (by (with_reducible repeat (first | apply Kd.R_alloc | apply Kd.R_drewN | apply Kd.R_drew)); exact HO125.out))) (below_size (by repeat (first | (with_reducible first | exact HB.out | apply below_alloc | apply pw_below_drewN | apply below_drew1) | exact HB.out)))); have n4_ := Aside0.mk (below_step (by repeat (first | (with_reducible first | exact HB.out | apply below_alloc | apply pw_below_drewN | apply below_drew1) | exact HB.out)) hb); clear HO_11; clear HO123; clear HO125; clear HB; have HO_11 := n0_; have HO123 := n1_; have HO125 := n2_; have HO129 := n3_; have HB := n4_; clear n0_ n1_ n2_ n3_ n4_; (try clear hb); (try clear hb2); (try clear hk); (try clear hi); (try clear ho0)))
                                    go_roundg kj26
                                    case measure => have := HJ8.out; have := HK2.out; have := HJ19.out; have := HJ26.out; omega
                                    case rel => exact ⟨(t126), (wrap64 (x16_2 + 1)), (by first | rfl | (simp; done) | (simp [*]; done)), H', ⟨by have := HJ8.out; have := HK2.out; have := HJ19.out; have := HJ26.out; omega⟩, ⟨by (with_reducible repeat (first | apply Kd.R_alloc | apply Kd.R_drewN | apply Kd.R_drew)); exact Kd.R_mono HO129.out (fun _ hk => trivial)⟩, ⟨by repeat (first | (with_reducible first | exact HB.out | apply below_alloc | apply pw_below_drewN | apply below_drew1) | exact HB.out)⟩⟩
                                  · rw [if_neg c34] at H
                                    have c34b0 : (t127 == 0) = false := beq_eq_false_iff_ne.mpr c34
                                    have c34b1 : (t127 != 0) = true := bne_iff_ne.mpr c34
                                    obtain rfl := Option.some.inj H
                                    obtain ⟨Ao39, co39, eo39⟩ := Kd.R_slice HO_11.out
                                    subst eo39
                                    go_wp2_with (first | ((with_reducible refine gate_callee (f := 10) rfl ?_); refine goesL_ (some 112) rfl rfl Try.func10 (by kernel_rfl) rfl #[.slice Ao39 x11_2.length co39, .int .i64 (wrap64 (1 + (Int.tmod t117 20))), .int .i64 (wrap64 (1 + (Int.tmod (wrap64 (Int.tdiv t117 20)) 1200))), .int .i64 x20_26] rfl (by (try simp only [List.map_toArray, List.map_cons, List.map_nil]); first | done | rfl | (simp only [List.length_drop, List.length_take]; rfl)) ?_; (with_reducible refine (session_Look.calls _ _ x11_2 (wrap64 (1 + (Int.tmod t117 20))) (wrap64 (1 + (Int.tmod (wrap64 (Int.tdiv t117 20)) 1200))) x20_26 t118 t119 t120 t121 _ ?side1 ?side2 A30.out).mono ?_); (case side1 => repeat (first | exact (Kd.R_reads' HO_11.out).2.2 | (with_reducible refine Kd.C_alloc ?_ _) | (with_reducible refine Kd.C_drewN ?_ _) | (with_reducible refine Kd.C_drew ?_))); (case side2 => exact (Kd.R_reads' HO_11.out).2.1); rintro e w40 ⟨v122, v124, rfl, ho0, ho1, hb⟩; refine ⟨_, rfl, ?_⟩; have n0_ := Aside0.mk (Kd.R_mono (Kd.R_told (Kd.R_told (Kd.R_old (by (with_reducible repeat (first | apply Kd.R_alloc | apply Kd.R_drewN | apply Kd.R_drew)); exact HO_11.out) hb) (Kd.R_base ho0)) (Kd.R_base ho1)) (fun _ h_ => h_.1)); have n1_ := Aside0.mk (Kd.R_lower (Kd.R_new' ho0 (Kd.R_lt (by (with_reducible repeat (first | apply Kd.R_alloc | apply Kd.R_drewN | apply Kd.R_drew)); exact HO_11.out))) (below_size (by repeat (first | (with_reducible first | exact HB.out | apply below_alloc | apply pw_below_drewN | apply below_drew1) | exact HB.out)))); have n2_ := Aside0.mk (Kd.R_lower ho1 (below_size (by repeat (first | (with_reducible first | exact HB.out | apply below_alloc | apply pw_below_drewN | apply below_drew1) | exact HB.out)))); have n3_ := Aside0.mk (below_step (by repeat (first | (with_reducible first | exact HB.out | apply below_alloc | apply pw_below_drewN | apply below_drew1) | exact HB.out)) hb); clear HO_11; clear HB; have HO_11 := n0_; have HO123 := n1_; have HO125 := n2_; have HB := n3_; clear n0_ n1_ n2_ n3_; (try clear hb); (try clear hb2); (try clear hk); (try clear hi); (try clear ho0); (try clear ho1); obtain ⟨Ao41, co41, eo41⟩ := Kd.R_slice HO123.out; subst eo41) | ((with_reducible refine gate_callee (f := 12) rfl ?_); refine goesL_ (some 126) rfl rfl Try.func12 (by kernel_rfl) rfl #[.slice Ao41 t118.length co41, .int .i64 (wrap64 (1 + (Int.tmod t117 20))), .int .i64 (wrap64 (1 + (Int.tmod (wrap64 (Int.tdiv t117 20)) 1200))), .slice none 0 0] rfl (by (try simp only [List.map_toArray, List.map_cons, List.map_nil]); first | done | rfl | (simp only [List.length_drop, List.length_take]; rfl)) ?_; (refine (session_Done.calls _ _ t118 (wrap64 (1 + (Int.tmod t117 20))) (wrap64 (1 + (Int.tmod (wrap64 (Int.tdiv t117 20)) 1200))) _ _ ([] : List Int) t126 t127 _ ?side1 ?side2 ?side3 ?side4 A33.out).mono ?_); (case side1 => repeat (first | exact (Kd.R_reads' HO123.out).2.2 | (with_reducible refine Kd.C_alloc ?_ _) | (with_reducible refine Kd.C_drewN ?_ _) | (with_reducible refine Kd.C_drew ?_))); (case side2 => exact (Kd.R_reads' HO123.out).2.1); (case side3 => exact Kd.C_nil _ _); (case side4 => exact Nat.le_refl _); rintro e w42 ⟨v128, rfl, ho0, hb⟩; refine ⟨_, rfl, ?_⟩; have n0_ := Aside0.mk (Kd.R_elder' (by (with_reducible repeat (first | apply Kd.R_alloc | apply Kd.R_drewN | apply Kd.R_drew)); exact HO_11.out) (Kd.R_base ho0) hb); have n1_ := Aside0.mk (Kd.R_elder' (by (with_reducible repeat (first | apply Kd.R_alloc | apply Kd.R_drewN | apply Kd.R_drew)); exact HO123.out) (Kd.R_base ho0) hb); have n2_ := Aside0.mk (Kd.R_below (by (with_reducible repeat (first | apply Kd.R_alloc | apply Kd.R_drewN | apply Kd.R_drew)); exact HO125.out) hb); have n3_ := Aside0.mk (Kd.R_lower (Kd.R_new' (Kd.R_new' (Kd.R_new' ho0 (Kd.R_lt (by (with_reducible repeat (first | apply Kd.R_alloc | apply Kd.R_drewN | apply Kd.R_drew)); exact HO_11.out))) (Kd.R_lt (by (with_reducible repeat (first | apply Kd.R_alloc | apply Kd.R_drewN | apply Kd.R_drew)); exact HO123.out))) (Kd.R_lt (by (with_reducible repeat (first | apply Kd.R_alloc | apply Kd.R_drewN | apply Kd.R_drew)); exact HO125.out))) (below_size (by repeat (first | (with_reducible first | exact HB.out | apply below_alloc | apply pw_below_drewN | apply below_drew1) | exact HB.out)))); have n4_ := Aside0.mk (below_step (by repeat (first | (with_reducible first | exact HB.out | apply below_alloc | apply pw_below_drewN | apply below_drew1) | exact HB.out)) hb); clear HO_11; clear HO123; clear HO125; clear HB; have HO_11 := n0_; have HO123 := n1_; have HO125 := n2_; have HO129 := n3_; have HB := n4_; clear n0_ n1_ n2_ n3_ n4_; (try clear hb); (try clear hb2); (try clear hk); (try clear hi); (try clear ho0)))
                                    go_ret
                                    exact ⟨by first | rfl | (simp [errW_none, errW_some] <;> rfl) | (simp [*, errW_none, errW_some] <;> rfl), by repeat (first | (with_reducible first | exact HB.out | apply below_alloc | apply pw_below_drewN | apply below_drew1) | exact HB.out)⟩
                                · rw [if_neg c32] at H
                                  have c32b0 : (t119 == 1) = false := beq_eq_false_iff_ne.mpr c32
                                  have c32b1 : (t119 != 1) = true := bne_iff_ne.mpr c32
                                  have H' := Aside0.mk H
                                  clear H
                                  obtain ⟨Ao43, co43, eo43⟩ := Kd.R_slice HO_11.out
                                  subst eo43
                                  go_wp2_with (first | ((with_reducible refine gate_callee (f := 10) rfl ?_); refine goesL_ (some 112) rfl rfl Try.func10 (by kernel_rfl) rfl #[.slice Ao43 x11_2.length co43, .int .i64 (wrap64 (1 + (Int.tmod t117 20))), .int .i64 (wrap64 (1 + (Int.tmod (wrap64 (Int.tdiv t117 20)) 1200))), .int .i64 x20_26] rfl (by (try simp only [List.map_toArray, List.map_cons, List.map_nil]); first | done | rfl | (simp only [List.length_drop, List.length_take]; rfl)) ?_; (with_reducible refine (session_Look.calls _ _ x11_2 (wrap64 (1 + (Int.tmod t117 20))) (wrap64 (1 + (Int.tmod (wrap64 (Int.tdiv t117 20)) 1200))) x20_26 t118 t119 t120 t121 _ ?side1 ?side2 A30.out).mono ?_); (case side1 => repeat (first | exact (Kd.R_reads' HO_11.out).2.2 | (with_reducible refine Kd.C_alloc ?_ _) | (with_reducible refine Kd.C_drewN ?_ _) | (with_reducible refine Kd.C_drew ?_))); (case side2 => exact (Kd.R_reads' HO_11.out).2.1); rintro e w44 ⟨v122, v124, rfl, ho0, ho1, hb⟩; refine ⟨_, rfl, ?_⟩; have n0_ := Aside0.mk (Kd.R_mono (Kd.R_told (Kd.R_told (Kd.R_old (by (with_reducible repeat (first | apply Kd.R_alloc | apply Kd.R_drewN | apply Kd.R_drew)); exact HO_11.out) hb) (Kd.R_base ho0)) (Kd.R_base ho1)) (fun _ h_ => h_.1)); have n1_ := Aside0.mk (Kd.R_lower (Kd.R_new' ho0 (Kd.R_lt (by (with_reducible repeat (first | apply Kd.R_alloc | apply Kd.R_drewN | apply Kd.R_drew)); exact HO_11.out))) (below_size (by repeat (first | (with_reducible first | exact HB.out | apply below_alloc | apply pw_below_drewN | apply below_drew1) | exact HB.out)))); have n2_ := Aside0.mk (Kd.R_lower ho1 (below_size (by repeat (first | (with_reducible first | exact HB.out | apply below_alloc | apply pw_below_drewN | apply below_drew1) | exact HB.out)))); have n3_ := Aside0.mk (below_step (by repeat (first | (with_reducible first | exact HB.out | apply below_alloc | apply pw_below_drewN | apply below_drew1) | exact HB.out)) hb); clear HO_11; clear HB; have HO_11 := n0_; have HO123 := n1_; have HO125 := n2_; have HB := n3_; clear n0_ n1_ n2_ n3_; (try clear hb); (try clear hb2); (try clear hk); (try clear hi); (try clear ho0); (try clear ho1)))
                                  go_roundg kj26
                                  case measure => have := HJ8.out; have := HK2.out; have := HJ19.out; have := HJ26.out; omega
                                  case rel => exact ⟨(t118), (wrap64 (x16_2 + 1)), (by first | rfl | (simp; done) | (simp [*]; done)), H', ⟨by have := HJ8.out; have := HK2.out; have := HJ19.out; have := HJ26.out; omega⟩, ⟨by (with_reducible repeat (first | apply Kd.R_alloc | apply Kd.R_drewN | apply Kd.R_drew)); exact Kd.R_mono HO123.out (fun _ hk => trivial)⟩, ⟨by repeat (first | (with_reducible first | exact HB.out | apply below_alloc | apply pw_below_drewN | apply below_drew1) | exact HB.out)⟩⟩
                              · rw [if_neg c31] at H
                                have c31b0 : (t121 == 0) = false := beq_eq_false_iff_ne.mpr c31
                                have c31b1 : (t121 != 0) = true := bne_iff_ne.mpr c31
                                have H' := Aside0.mk H
                                clear H
                                obtain ⟨Ao45, co45, eo45⟩ := Kd.R_slice HO_11.out
                                subst eo45
                                go_wp2_with (first | ((with_reducible refine gate_callee (f := 10) rfl ?_); refine goesL_ (some 112) rfl rfl Try.func10 (by kernel_rfl) rfl #[.slice Ao45 x11_2.length co45, .int .i64 (wrap64 (1 + (Int.tmod t117 20))), .int .i64 (wrap64 (1 + (Int.tmod (wrap64 (Int.tdiv t117 20)) 1200))), .int .i64 x20_26] rfl (by (try simp only [List.map_toArray, List.map_cons, List.map_nil]); first | done | rfl | (simp only [List.length_drop, List.length_take]; rfl)) ?_; (with_reducible refine (session_Look.calls _ _ x11_2 (wrap64 (1 + (Int.tmod t117 20))) (wrap64 (1 + (Int.tmod (wrap64 (Int.tdiv t117 20)) 1200))) x20_26 t118 t119 t120 t121 _ ?side1 ?side2 A30.out).mono ?_); (case side1 => repeat (first | exact (Kd.R_reads' HO_11.out).2.2 | (with_reducible refine Kd.C_alloc ?_ _) | (with_reducible refine Kd.C_drewN ?_ _) | (with_reducible refine Kd.C_drew ?_))); (case side2 => exact (Kd.R_reads' HO_11.out).2.1); rintro e w46 ⟨v122, v124, rfl, ho0, ho1, hb⟩; refine ⟨_, rfl, ?_⟩; have n0_ := Aside0.mk (Kd.R_mono (Kd.R_told (Kd.R_told (Kd.R_old (by (with_reducible repeat (first | apply Kd.R_alloc | apply Kd.R_drewN | apply Kd.R_drew)); exact HO_11.out) hb) (Kd.R_base ho0)) (Kd.R_base ho1)) (fun _ h_ => h_.1)); have n1_ := Aside0.mk (Kd.R_lower (Kd.R_new' ho0 (Kd.R_lt (by (with_reducible repeat (first | apply Kd.R_alloc | apply Kd.R_drewN | apply Kd.R_drew)); exact HO_11.out))) (below_size (by repeat (first | (with_reducible first | exact HB.out | apply below_alloc | apply pw_below_drewN | apply below_drew1) | exact HB.out)))); have n2_ := Aside0.mk (Kd.R_lower ho1 (below_size (by repeat (first | (with_reducible first | exact HB.out | apply below_alloc | apply pw_below_drewN | apply below_drew1) | exact HB.out)))); have n3_ := Aside0.mk (below_step (by repeat (first | (with_reducible first | exact HB.out | apply below_alloc | apply pw_below_drewN | apply below_drew1) | exact HB.out)) hb); clear HO_11; clear HB; have HO_11 := n0_; have HO123 := n1_; have HO125 := n2_; have HB := n3_; clear n0_ n1_ n2_ n3_; (try clear hb); (try clear hb2); (try clear hk); (try clear hi); (try clear ho0); (try clear ho1)))
                                go_roundg kj26
                                case measure => have := HJ8.out; have := HK2.out; have := HJ19.out; have := HJ26.out; omega
                                case rel => exact ⟨(x11_2), (wrap64 (x16_2 + 1)), (by first | rfl | (simp; done) | (simp [*]; done)), H', ⟨by have := HJ8.out; have := HK2.out; have := HJ19.out; have := HJ26.out; omega⟩, ⟨by (with_reducible repeat (first | apply Kd.R_alloc | apply Kd.R_drewN | apply Kd.R_drew)); exact Kd.R_mono HO_11.out (fun _ hk => trivial)⟩, ⟨by repeat (first | (with_reducible first | exact HB.out | apply below_alloc | apply pw_below_drewN | apply below_drew1) | exact HB.out)⟩⟩
                      · rw [if_neg c24] at H
                        exact absurd H (by simp)
                    · rw [if_neg c23] at H
                      exact absurd H (by simp)
                  · replace c22 := Bool.eq_false_iff.mpr c22
                    subst c22
                    have H1 : ((session_Look.f x11_2 (wrap64 (1 + t101)) (wrap64 (2 + t102)) 0).bind fun bt130 => (if bt130.2.2.2 = 0 then (if bt130.2.1 = 2 then ((musterlow_SameBytes.f bt130.2.2.1 l3).bind fun t138 => (musterlaw09_SessionKeeps.j4 kj19 (wrap64 (1 + t101)) (wrap64 (2 + t102)) x11_2 (!t138))) else (musterlaw09_SessionKeeps.j4 kj19 (wrap64 (1 + t101)) (wrap64 (2 + t102)) x11_2 true)) else (musterlaw09_SessionKeeps.j4 kj19 (wrap64 (1 + t101)) (wrap64 (2 + t102)) x11_2 true))) = some r := by rw [if_neg (show ¬ (false = true) by decide)] at H; exact H
                    clear H
                    have H := H1
                    clear H1
                    replace H := Option.bind_eq_some_iff.mp H
                    obtain ⟨⟨t130, t131, t132, t133⟩, A470, H⟩ := H
                    replace H : (if t133 = 0 then (if t131 = 2 then ((musterlow_SameBytes.f t132 l3).bind fun t138 => (musterlaw09_SessionKeeps.j4 kj19 (wrap64 (1 + t101)) (wrap64 (2 + t102)) x11_2 (!t138))) else (musterlaw09_SessionKeeps.j4 kj19 (wrap64 (1 + t101)) (wrap64 (2 + t102)) x11_2 true)) else (musterlaw09_SessionKeeps.j4 kj19 (wrap64 (1 + t101)) (wrap64 (2 + t102)) x11_2 true)) = some r := H
                    have A47 := Aside0.mk A470
                    clear A470
                    have HC48 := Aside0.mk H
                    clear H
                    obtain ⟨Ao49, co49, eo49⟩ := Kd.R_slice HO_11.out
                    subst eo49
                    go_upto_region 26 with (first | ((with_reducible refine gate_callee (f := 10) rfl ?_); refine goesL_ (some 136) rfl rfl Try.func10 (by kernel_rfl) rfl #[.slice Ao49 x11_2.length co49, .int .i64 (wrap64 (1 + t101)), .int .i64 (wrap64 (2 + t102)), .int .i64 0] rfl (by (try simp only [List.map_toArray, List.map_cons, List.map_nil]); first | done | rfl | (simp only [List.length_drop, List.length_take]; rfl)) ?_; (with_reducible refine (session_Look.calls _ _ x11_2 (wrap64 (1 + t101)) (wrap64 (2 + t102)) 0 t130 t131 t132 t133 _ ?side1 ?side2 A47.out).mono ?_); (case side1 => repeat (first | exact (Kd.R_reads' HO_11.out).2.2 | (with_reducible refine Kd.C_alloc ?_ _) | (with_reducible refine Kd.C_drewN ?_ _) | (with_reducible refine Kd.C_drew ?_))); (case side2 => exact (Kd.R_reads' HO_11.out).2.1); rintro e w50 ⟨v134, v136, rfl, ho0, ho1, hb⟩; refine ⟨_, rfl, ?_⟩; have n0_ := Aside0.mk (Kd.R_mono (Kd.R_told (Kd.R_told (Kd.R_old (by (with_reducible repeat (first | apply Kd.R_alloc | apply Kd.R_drewN | apply Kd.R_drew)); exact HO_11.out) hb) (Kd.R_base ho0)) (Kd.R_base ho1)) (fun _ h_ => h_.1)); have n1_ := Aside0.mk (Kd.R_lower (Kd.R_new' ho0 (Kd.R_lt (by (with_reducible repeat (first | apply Kd.R_alloc | apply Kd.R_drewN | apply Kd.R_drew)); exact HO_11.out))) (below_size (by repeat (first | (with_reducible first | exact HB.out | apply below_alloc | apply pw_below_drewN | apply below_drew1) | exact HB.out)))); have n2_ := Aside0.mk (Kd.R_lower ho1 (below_size (by repeat (first | (with_reducible first | exact HB.out | apply below_alloc | apply pw_below_drewN | apply below_drew1) | exact HB.out)))); have n3_ := Aside0.mk (below_step (by repeat (first | (with_reducible first | exact HB.out | apply below_alloc | apply pw_below_drewN | apply below_drew1) | exact HB.out)) hb); clear HO_11; clear HB; have HO_11 := n0_; have HO135 := n1_; have HO137 := n2_; have HB := n3_; clear n0_ n1_ n2_ n3_; (try clear hb); (try clear hb2); (try clear hk); (try clear hi); (try clear ho0); (try clear ho1)))
                    (try simp only [Act.put, List.setIfInBounds_toArray, List.set_cons_zero, List.set_cons_succ])
                    go_cut [152] (fun v152 wc => ∃ (kq : Nat) (x152_47 : Bool), v152 = .bool x152_47 ∧ Aside0 (musterlaw09_SessionKeeps.j4 kq (wrap64 (1 + t101)) (wrap64 (2 + t102)) x11_2 x152_47 = some r) ∧ Aside0 (kq ≤ kj19) ∧ Aside0 (Kd.R k44 44 wc w.heap.size (fun _ => True) (.slice Ao49 x11_2.length co49) x11_2) ∧ Aside0 (Below w.heap.size w wc))
                    case first =>
                      have H := HC48.out
                      clear HC48
                      by_cases c51 : t133 = 0
                      · rw [if_pos c51] at H
                        have c51b0 : (t133 == 0) = true := beq_iff_eq.mpr c51
                        have c51b1 : (t133 != 0) = false := bne_eq_false_iff_eq.mpr c51
                        clear c51
                        (first | rw [c51b0] | (simp only [i64_w, i32_w]; rw [c51b0]) | skip)
                        by_cases c52 : t131 = 2
                        · rw [if_pos c52] at H
                          have c52b0 : (t131 == 2) = true := beq_iff_eq.mpr c52
                          have c52b1 : (t131 != 2) = false := bne_eq_false_iff_eq.mpr c52
                          clear c52
                          replace H := Option.bind_eq_some_iff.mp H
                          obtain ⟨t138, A530, H⟩ := H
                          replace H : (musterlaw09_SessionKeeps.j4 kj19 (wrap64 (1 + t101)) (wrap64 (2 + t102)) x11_2 (!t138)) = some r := H
                          have A53 := Aside0.mk A530
                          clear A530
                          have H' := Aside0.mk H
                          clear H
                          obtain ⟨Ao54, co54, eo54⟩ := Kd.R_slice HO137.out
                          subst eo54
                          go_wp2_with (first | (go_at_call 16; (with_reducible refine (musterlow_SameBytes.calls _ _ t132 _ _ l3 t138 _ ?side1 ?side2 ?side3 ?side4 A53.out).mono ?_); (case side1 => repeat (first | exact (Kd.R_reads' HO137.out).2.2 | (with_reducible refine Kd.C_alloc ?_ _) | (with_reducible refine Kd.C_drewN ?_ _) | (with_reducible refine Kd.C_drew ?_))); (case side2 => exact (Kd.R_reads' HO137.out).2.1); (case side3 => repeat (first | exact (Kd.C_below HR3.out HB.out) | (with_reducible refine Kd.C_alloc ?_ _) | (with_reducible refine Kd.C_drewN ?_ _) | (with_reducible refine Kd.C_drew ?_))); (case side4 => exact HC3.out); rintro e w' ⟨rfl, ⟨nd, rfl⟩⟩))
                          go_meet
                          case rel => exact ⟨_, (!t138), (by first | rfl | (simp; done) | (simp [*]; done)), H', ⟨by have := HJ8.out; have := HK2.out; have := HJ19.out; first | omega | exact Nat.le_refl _⟩, ⟨by (with_reducible repeat (first | apply Kd.R_alloc | apply Kd.R_drewN | apply Kd.R_drew)); exact Kd.R_mono HO_11.out (fun _ hk => trivial)⟩, ⟨by repeat (first | (with_reducible first | exact HB.out | apply below_alloc | apply pw_below_drewN | apply below_drew1) | exact HB.out)⟩⟩
                        · rw [if_neg c52] at H
                          have c52b0 : (t131 == 2) = false := beq_eq_false_iff_ne.mpr c52
                          have c52b1 : (t131 != 2) = true := bne_iff_ne.mpr c52
                          have H' := Aside0.mk H
                          clear H
                          go_wp2
                          go_meet
                          case rel => exact ⟨_, (true), (by first | rfl | (simp; done) | (simp [*]; done)), H', ⟨by have := HJ8.out; have := HK2.out; have := HJ19.out; first | omega | exact Nat.le_refl _⟩, ⟨by (with_reducible repeat (first | apply Kd.R_alloc | apply Kd.R_drewN | apply Kd.R_drew)); exact Kd.R_mono HO_11.out (fun _ hk => trivial)⟩, ⟨by repeat (first | (with_reducible first | exact HB.out | apply below_alloc | apply pw_below_drewN | apply below_drew1) | exact HB.out)⟩⟩
                      · rw [if_neg c51] at H
                        have c51b0 : (t133 == 0) = false := beq_eq_false_iff_ne.mpr c51
                        have c51b1 : (t133 != 0) = true := bne_iff_ne.mpr c51
                        (first | rw [c51b0] | (simp only [i64_w, i32_w]; rw [c51b0]) | skip)
                        have H' := Aside0.mk H
                        clear H
                        go_wp2
                        go_meet
                        case rel => exact ⟨_, (true), (by first | rfl | (simp; done) | (simp [*]; done)), H', ⟨by have := HJ8.out; have := HK2.out; have := HJ19.out; first | omega | exact Nat.le_refl _⟩, ⟨by (with_reducible repeat (first | apply Kd.R_alloc | apply Kd.R_drewN | apply Kd.R_drew)); exact Kd.R_mono HO_11.out (fun _ hk => trivial)⟩, ⟨by repeat (first | (with_reducible first | exact HB.out | apply below_alloc | apply pw_below_drewN | apply below_drew1) | exact HB.out)⟩⟩
                    case rest =>
                      clear HC48
                      try clear c1
                      try clear p1
                      try clear q1
                      try clear hx1
                      try clear c2
                      try clear p2
                      try clear c3
                      try clear c4
                      try clear c5
                      try clear p6
                      try clear c10
                      try clear c11
                      try clear c11b0
                      try clear c11b1
                      try clear p11
                      try clear q11
                      try clear hx11
                      try clear c12
                      try clear c12b0
                      try clear c12b1
                      try clear c13
                      try clear c17
                      try clear c17b0
                      try clear c17b1
                      try clear c19
                      try clear c20
                      try clear c21
                      try clear c21b0
                      try clear c22
                      try clear c23
                      try clear c23b0
                      try clear c24
                      try clear c24b0
                      try clear c26
                      try clear c26b0
                      try clear c26b1
                      try clear c28
                      try clear c28b0
                      try clear c28b1
                      try clear c31
                      try clear c31b0
                      try clear c31b1
                      try clear c32
                      try clear c32b0
                      try clear c32b1
                      try clear c34
                      try clear c34b0
                      try clear c34b1
                      try clear c51
                      try clear c51b0
                      try clear c51b1
                      try clear c52
                      try clear c52b0
                      try clear c52b1
                      try clear hx116_0
                      try clear p1
                      try clear p11
                      try clear p116
                      try clear p2
                      try clear p6
                      try clear q1
                      try clear q11
                      try clear q116
                      obtain ⟨kq, x152_47, rfl, HA, HJ47, HO_11, HB⟩ := hcut
                      cases kq with
                      | zero => exact absurd HA.out (by simp [musterlaw09_SessionKeeps.j4])
                      | succ kj47 =>
                        have H := HA.out
                        clear HA
                        simp only [musterlaw09_SessionKeeps.j4] at H
                        by_cases c55 : x152_47 = true
                        · subst c55
                          have H1 : (some false) = some r := by rw [if_pos rfl] at H; exact H
                          clear H
                          have H := H1
                          clear H1
                          obtain rfl := Option.some.inj H
                          go_wp2
                          go_ret
                          exact ⟨by first | rfl | (simp [errW_none, errW_some] <;> rfl) | (simp [*, errW_none, errW_some] <;> rfl), by repeat (first | (with_reducible first | exact HB.out | apply below_alloc | apply pw_below_drewN | apply below_drew1) | exact HB.out)⟩
                        · replace c55 := Bool.eq_false_iff.mpr c55
                          subst c55
                          have H1 : ((session_Look.f x11_2 (wrap64 (1 + t101)) (wrap64 ((wrap64 (2 + t102)) + 1)) (wrap64 (2 + t102))).bind fun bt139 => (if bt139.2.2.2 = 0 then (musterlaw09_SessionKeeps.j5 kj47 (wrap64 (1 + t101)) (wrap64 (2 + t102)) bt139.1 (bt139.2.1 == 3)) else (musterlaw09_SessionKeeps.j5 kj47 (wrap64 (1 + t101)) (wrap64 (2 + t102)) bt139.1 true))) = some r := by rw [if_neg (show ¬ (false = true) by decide)] at H; exact H
                          clear H
                          have H := H1
                          clear H1
                          replace H := Option.bind_eq_some_iff.mp H
                          obtain ⟨⟨t139, t140, t141, t142⟩, A560, H⟩ := H
                          replace H : (if t142 = 0 then (musterlaw09_SessionKeeps.j5 kj47 (wrap64 (1 + t101)) (wrap64 (2 + t102)) t139 (t140 == 3)) else (musterlaw09_SessionKeeps.j5 kj47 (wrap64 (1 + t101)) (wrap64 (2 + t102)) t139 true)) = some r := H
                          have A56 := Aside0.mk A560
                          clear A560
                          have HC57 := Aside0.mk H
                          clear H
                          go_upto_region 29 with (first | ((with_reducible refine gate_callee (f := 10) rfl ?_); refine goesL_ (some 159) rfl rfl Try.func10 (by kernel_rfl) rfl #[.slice Ao49 x11_2.length co49, .int .i64 (wrap64 (1 + t101)), .int .i64 (wrap64 ((wrap64 (2 + t102)) + 1)), .int .i64 (wrap64 (2 + t102))] rfl (by (try simp only [List.map_toArray, List.map_cons, List.map_nil]); first | done | rfl | (simp only [List.length_drop, List.length_take]; rfl)) ?_; (with_reducible refine (session_Look.calls _ _ x11_2 (wrap64 (1 + t101)) (wrap64 ((wrap64 (2 + t102)) + 1)) (wrap64 (2 + t102)) t139 t140 t141 t142 _ ?side1 ?side2 A56.out).mono ?_); (case side1 => repeat (first | exact (Kd.R_reads' HO_11.out).2.2 | (with_reducible refine Kd.C_alloc ?_ _) | (with_reducible refine Kd.C_drewN ?_ _) | (with_reducible refine Kd.C_drew ?_))); (case side2 => exact (Kd.R_reads' HO_11.out).2.1); rintro e w58 ⟨v143, v145, rfl, ho0, ho1, hb⟩; refine ⟨_, rfl, ?_⟩; have n0_ := Aside0.mk (Kd.R_mono (Kd.R_told (Kd.R_told (Kd.R_old (by (with_reducible repeat (first | apply Kd.R_alloc | apply Kd.R_drewN | apply Kd.R_drew)); exact HO_11.out) hb) (Kd.R_base ho0)) (Kd.R_base ho1)) (fun _ h_ => h_.1)); have n1_ := Aside0.mk (Kd.R_lower (Kd.R_new' ho0 (Kd.R_lt (by (with_reducible repeat (first | apply Kd.R_alloc | apply Kd.R_drewN | apply Kd.R_drew)); exact HO_11.out))) (below_size (by repeat (first | (with_reducible first | exact HB.out | apply below_alloc | apply pw_below_drewN | apply below_drew1) | exact HB.out)))); have n2_ := Aside0.mk (Kd.R_lower ho1 (below_size (by repeat (first | (with_reducible first | exact HB.out | apply below_alloc | apply pw_below_drewN | apply below_drew1) | exact HB.out)))); have n3_ := Aside0.mk (below_step (by repeat (first | (with_reducible first | exact HB.out | apply below_alloc | apply pw_below_drewN | apply below_drew1) | exact HB.out)) hb); clear HO_11; clear HB; have HO_11 := n0_; have HO144 := n1_; have HO146 := n2_; have HB := n3_; clear n0_ n1_ n2_ n3_; (try clear hb); (try clear hb2); (try clear hk); (try clear hi); (try clear ho0); (try clear ho1)))
                          (try simp only [Act.put, List.setIfInBounds_toArray, List.set_cons_zero, List.set_cons_succ])
                          go_cut [169] (fun v169 wc => ∃ (kq : Nat) (x169_56 : Bool), v169 = .bool x169_56 ∧ Aside0 (musterlaw09_SessionKeeps.j5 kq (wrap64 (1 + t101)) (wrap64 (2 + t102)) t139 x169_56 = some r) ∧ Aside0 (kq ≤ kj47) ∧ Aside0 (Kd.R k44 44 wc w.heap.size (fun _ => True) v143 t139) ∧ Aside0 (Below w.heap.size w wc))
                          case first =>
                            have H := HC57.out
                            clear HC57
                            by_cases c59 : t142 = 0
                            · rw [if_pos c59] at H
                              have c59b0 : (t142 == 0) = true := beq_iff_eq.mpr c59
                              have c59b1 : (t142 != 0) = false := bne_eq_false_iff_eq.mpr c59
                              clear c59
                              (first | rw [c59b0] | (simp only [i64_w, i32_w]; rw [c59b0]) | skip)
                              have H' := Aside0.mk H
                              clear H
                              go_wp2
                              go_meet
                              case rel => exact ⟨_, ((t140 == 3)), (by first | rfl | (simp; done) | (simp [*]; done)), H', ⟨by have := HJ8.out; have := HK2.out; have := HJ19.out; have := HJ47.out; first | omega | exact Nat.le_refl _⟩, ⟨by (with_reducible repeat (first | apply Kd.R_alloc | apply Kd.R_drewN | apply Kd.R_drew)); exact Kd.R_mono HO144.out (fun _ hk => trivial)⟩, ⟨by repeat (first | (with_reducible first | exact HB.out | apply below_alloc | apply pw_below_drewN | apply below_drew1) | exact HB.out)⟩⟩
                            · rw [if_neg c59] at H
                              have c59b0 : (t142 == 0) = false := beq_eq_false_iff_ne.mpr c59
                              have c59b1 : (t142 != 0) = true := bne_iff_ne.mpr c59
                              (first | rw [c59b0] | (simp only [i64_w, i32_w]; rw [c59b0]) | skip)
                              have H' := Aside0.mk H
                              clear H
                              go_wp2
                              go_meet
                              case rel => exact ⟨_, (true), (by first | rfl | (simp; done) | (simp [*]; done)), H', ⟨by have := HJ8.out; have := HK2.out; have := HJ19.out; have := HJ47.out; first | omega | exact Nat.le_refl _⟩, ⟨by (with_reducible repeat (first | apply Kd.R_alloc | apply Kd.R_drewN | apply Kd.R_drew)); exact Kd.R_mono HO144.out (fun _ hk => trivial)⟩, ⟨by repeat (first | (with_reducible first | exact HB.out | apply below_alloc | apply pw_below_drewN | apply below_drew1) | exact HB.out)⟩⟩
                          case rest =>
                            clear HC57
                            try clear c1
                            try clear p1
                            try clear q1
                            try clear hx1
                            try clear c2
                            try clear p2
                            try clear c3
                            try clear c4
                            try clear c5
                            try clear p6
                            try clear c10
                            try clear c11
                            try clear c11b0
                            try clear c11b1
                            try clear p11
                            try clear q11
                            try clear hx11
                            try clear c12
                            try clear c12b0
                            try clear c12b1
                            try clear c13
                            try clear c17
                            try clear c17b0
                            try clear c17b1
                            try clear c19
                            try clear c20
                            try clear c21
                            try clear c21b0
                            try clear c22
                            try clear c23
                            try clear c23b0
                            try clear c24
                            try clear c24b0
                            try clear c26
                            try clear c26b0
                            try clear c26b1
                            try clear c28
                            try clear c28b0
                            try clear c28b1
                            try clear c31
                            try clear c31b0
                            try clear c31b1
                            try clear c32
                            try clear c32b0
                            try clear c32b1
                            try clear c34
                            try clear c34b0
                            try clear c34b1
                            try clear c51
                            try clear c51b0
                            try clear c51b1
                            try clear c52
                            try clear c52b0
                            try clear c52b1
                            try clear c55
                            try clear c59
                            try clear c59b0
                            try clear c59b1
                            try clear hx116_0
                            try clear p1
                            try clear p11
                            try clear p116
                            try clear p2
                            try clear p6
                            try clear q1
                            try clear q11
                            try clear q116
                            obtain ⟨kq, x169_56, rfl, HA, HJ56, HO_30, HB⟩ := hcut
                            cases kq with
                            | zero => exact absurd HA.out (by simp [musterlaw09_SessionKeeps.j5])
                            | succ kj56 =>
                              have H := HA.out
                              clear HA
                              simp only [musterlaw09_SessionKeeps.j5] at H
                              by_cases c60 : x169_56 = true
                              · subst c60
                                have H1 : (some false) = some r := by rw [if_pos rfl] at H; exact H
                                clear H
                                have H := H1
                                clear H1
                                obtain rfl := Option.some.inj H
                                go_wp2
                                go_ret
                                exact ⟨by first | rfl | (simp [errW_none, errW_some] <;> rfl) | (simp [*, errW_none, errW_some] <;> rfl), by repeat (first | (with_reducible first | exact HB.out | apply below_alloc | apply pw_below_drewN | apply below_drew1) | exact HB.out)⟩
                              · replace c60 := Bool.eq_false_iff.mpr c60
                                subst c60
                                have H1 : ((session_Look.f t139 (wrap64 (1 + t101)) (wrap64 (2 + t102)) 0).bind fun bt147 => (if bt147.2.2.2 = 0 then (if bt147.2.1 = 3 then (if (bt147.2.2.1.length : Int) = 0 then ((musterlaw09_awake.f).bind fun t155 => (some t155)) else (some false)) else (some false)) else (some false))) = some r := by rw [if_neg (show ¬ (false = true) by decide)] at H; exact H
                                clear H
                                have H := H1
                                clear H1
                                replace H := Option.bind_eq_some_iff.mp H
                                obtain ⟨⟨t147, t148, t149, t150⟩, A610, H⟩ := H
                                replace H : (if t150 = 0 then (if t148 = 3 then (if (t149.length : Int) = 0 then ((musterlaw09_awake.f).bind fun t155 => (some t155)) else (some false)) else (some false)) else (some false)) = some r := H
                                have A61 := Aside0.mk A610
                                clear A610
                                by_cases c62 : t150 = 0
                                · rw [if_pos c62] at H
                                  have c62b0 : (t150 == 0) = true := beq_iff_eq.mpr c62
                                  have c62b1 : (t150 != 0) = false := bne_eq_false_iff_eq.mpr c62
                                  clear c62
                                  by_cases c63 : t148 = 3
                                  · rw [if_pos c63] at H
                                    have c63b0 : (t148 == 3) = true := beq_iff_eq.mpr c63
                                    have c63b1 : (t148 != 3) = false := bne_eq_false_iff_eq.mpr c63
                                    clear c63
                                    by_cases c64 : (t149.length : Int) = 0
                                    · rw [if_pos c64] at H
                                      have c64b0 : ((t149.length : Int) == 0) = true := beq_iff_eq.mpr c64
                                      have c64b1 : ((t149.length : Int) != 0) = false := bne_eq_false_iff_eq.mpr c64
                                      clear c64
                                      replace H := Option.bind_eq_some_iff.mp H
                                      obtain ⟨t155, A650, H⟩ := H
                                      replace H : (some t155) = some r := H
                                      have A65 := Aside0.mk A650
                                      clear A650
                                      obtain rfl := Option.some.inj H
                                      obtain ⟨Ao66, co66, eo66⟩ := Kd.R_slice HO_30.out
                                      subst eo66
                                      go_wp2_with (first | ((with_reducible refine gate_callee (f := 10) rfl ?_); refine goesL_ (some 174) rfl rfl Try.func10 (by kernel_rfl) rfl #[.slice Ao66 t139.length co66, .int .i64 (wrap64 (1 + t101)), .int .i64 (wrap64 (2 + t102)), .int .i64 0] rfl (by (try simp only [List.map_toArray, List.map_cons, List.map_nil]); first | done | rfl | (simp only [List.length_drop, List.length_take]; rfl)) ?_; (with_reducible refine (session_Look.calls _ _ t139 (wrap64 (1 + t101)) (wrap64 (2 + t102)) 0 t147 t148 t149 t150 _ ?side1 ?side2 A61.out).mono ?_); (case side1 => repeat (first | exact (Kd.R_reads' HO_30.out).2.2 | (with_reducible refine Kd.C_alloc ?_ _) | (with_reducible refine Kd.C_drewN ?_ _) | (with_reducible refine Kd.C_drew ?_))); (case side2 => exact (Kd.R_reads' HO_30.out).2.1); rintro e w67 ⟨v151, v153, rfl, ho0, ho1, hb⟩; refine ⟨_, rfl, ?_⟩; have n0_ := Aside0.mk (Kd.R_mono (Kd.R_told (Kd.R_told (Kd.R_old (by (with_reducible repeat (first | apply Kd.R_alloc | apply Kd.R_drewN | apply Kd.R_drew)); exact HO_30.out) hb) (Kd.R_base ho0)) (Kd.R_base ho1)) (fun _ h_ => h_.1)); have n1_ := Aside0.mk (Kd.R_lower (Kd.R_new' ho0 (Kd.R_lt (by (with_reducible repeat (first | apply Kd.R_alloc | apply Kd.R_drewN | apply Kd.R_drew)); exact HO_30.out))) (below_size (by repeat (first | (with_reducible first | exact HB.out | apply below_alloc | apply pw_below_drewN | apply below_drew1) | exact HB.out)))); have n2_ := Aside0.mk (Kd.R_lower ho1 (below_size (by repeat (first | (with_reducible first | exact HB.out | apply below_alloc | apply pw_below_drewN | apply below_drew1) | exact HB.out)))); have n3_ := Aside0.mk (below_step (by repeat (first | (with_reducible first | exact HB.out | apply below_alloc | apply pw_below_drewN | apply below_drew1) | exact HB.out)) hb); clear HO_30; clear HB; have HO_30 := n0_; have HO152 := n1_; have HO154 := n2_; have HB := n3_; clear n0_ n1_ n2_ n3_; (try clear hb); (try clear hb2); (try clear hk); (try clear hi); (try clear ho0); (try clear ho1); obtain ⟨Ao68, co68, eo68⟩ := Kd.R_slice HO154.out; subst eo68) | (go_at_call 19; (with_reducible refine (musterlaw09_awake.calls  t155 _ A65.out).mono ?_); rintro e w69 ⟨rfl, hb⟩; have n0_ := Aside0.mk (Kd.R_below (by (with_reducible repeat (first | apply Kd.R_alloc | apply Kd.R_drewN | apply Kd.R_drew)); exact HO_30.out) hb); have n1_ := Aside0.mk (Kd.R_below (by (with_reducible repeat (first | apply Kd.R_alloc | apply Kd.R_drewN | apply Kd.R_drew)); exact HO152.out) hb); have n2_ := Aside0.mk (Kd.R_below (by (with_reducible repeat (first | apply Kd.R_alloc | apply Kd.R_drewN | apply Kd.R_drew)); exact HO154.out) hb); have n3_ := Aside0.mk (below_step (by repeat (first | (with_reducible first | exact HB.out | apply below_alloc | apply pw_below_drewN | apply below_drew1) | exact HB.out)) hb); clear HO_30; clear HO152; clear HO154; clear HB; have HO_30 := n0_; have HO152 := n1_; have HO154 := n2_; have HB := n3_; clear n0_ n1_ n2_ n3_; (try clear hb); (try clear hb2); (try clear hk); (try clear hi)))
                                      go_ret
                                      exact ⟨by first | rfl | (simp [errW_none, errW_some] <;> rfl) | (simp [*, errW_none, errW_some] <;> rfl), by repeat (first | (with_reducible first | exact HB.out | apply below_alloc | apply pw_below_drewN | apply below_drew1) | exact HB.out)⟩
                                    · rw [if_neg c64] at H
                                      have c64b0 : ((t149.length : Int) == 0) = false := beq_eq_false_iff_ne.mpr c64
                                      have c64b1 : ((t149.length : Int) != 0) = true := bne_iff_ne.mpr c64
                                      have c64b2 : ¬ (t149 = []) := fun h_ => c64 (by rw [h_]; rfl)
                                      obtain rfl := Option.some.inj H
                                      obtain ⟨Ao70, co70, eo70⟩ := Kd.R_slice HO_30.out
                                      subst eo70
                                      go_wp2_with (first | ((with_reducible refine gate_callee (f := 10) rfl ?_); refine goesL_ (some 174) rfl rfl Try.func10 (by kernel_rfl) rfl #[.slice Ao70 t139.length co70, .int .i64 (wrap64 (1 + t101)), .int .i64 (wrap64 (2 + t102)), .int .i64 0] rfl (by (try simp only [List.map_toArray, List.map_cons, List.map_nil]); first | done | rfl | (simp only [List.length_drop, List.length_take]; rfl)) ?_; (with_reducible refine (session_Look.calls _ _ t139 (wrap64 (1 + t101)) (wrap64 (2 + t102)) 0 t147 t148 t149 t150 _ ?side1 ?side2 A61.out).mono ?_); (case side1 => repeat (first | exact (Kd.R_reads' HO_30.out).2.2 | (with_reducible refine Kd.C_alloc ?_ _) | (with_reducible refine Kd.C_drewN ?_ _) | (with_reducible refine Kd.C_drew ?_))); (case side2 => exact (Kd.R_reads' HO_30.out).2.1); rintro e w71 ⟨v151, v153, rfl, ho0, ho1, hb⟩; refine ⟨_, rfl, ?_⟩; have n0_ := Aside0.mk (Kd.R_mono (Kd.R_told (Kd.R_told (Kd.R_old (by (with_reducible repeat (first | apply Kd.R_alloc | apply Kd.R_drewN | apply Kd.R_drew)); exact HO_30.out) hb) (Kd.R_base ho0)) (Kd.R_base ho1)) (fun _ h_ => h_.1)); have n1_ := Aside0.mk (Kd.R_lower (Kd.R_new' ho0 (Kd.R_lt (by (with_reducible repeat (first | apply Kd.R_alloc | apply Kd.R_drewN | apply Kd.R_drew)); exact HO_30.out))) (below_size (by repeat (first | (with_reducible first | exact HB.out | apply below_alloc | apply pw_below_drewN | apply below_drew1) | exact HB.out)))); have n2_ := Aside0.mk (Kd.R_lower ho1 (below_size (by repeat (first | (with_reducible first | exact HB.out | apply below_alloc | apply pw_below_drewN | apply below_drew1) | exact HB.out)))); have n3_ := Aside0.mk (below_step (by repeat (first | (with_reducible first | exact HB.out | apply below_alloc | apply pw_below_drewN | apply below_drew1) | exact HB.out)) hb); clear HO_30; clear HB; have HO_30 := n0_; have HO152 := n1_; have HO154 := n2_; have HB := n3_; clear n0_ n1_ n2_ n3_; (try clear hb); (try clear hb2); (try clear hk); (try clear hi); (try clear ho0); (try clear ho1); obtain ⟨Ao72, co72, eo72⟩ := Kd.R_slice HO154.out; subst eo72))
                                      go_ret
                                      exact ⟨by first | rfl | (simp [errW_none, errW_some] <;> rfl) | (simp [*, errW_none, errW_some] <;> rfl), by repeat (first | (with_reducible first | exact HB.out | apply below_alloc | apply pw_below_drewN | apply below_drew1) | exact HB.out)⟩
                                  · rw [if_neg c63] at H
                                    have c63b0 : (t148 == 3) = false := beq_eq_false_iff_ne.mpr c63
                                    have c63b1 : (t148 != 3) = true := bne_iff_ne.mpr c63
                                    obtain rfl := Option.some.inj H
                                    obtain ⟨Ao73, co73, eo73⟩ := Kd.R_slice HO_30.out
                                    subst eo73
                                    go_wp2_with (first | ((with_reducible refine gate_callee (f := 10) rfl ?_); refine goesL_ (some 174) rfl rfl Try.func10 (by kernel_rfl) rfl #[.slice Ao73 t139.length co73, .int .i64 (wrap64 (1 + t101)), .int .i64 (wrap64 (2 + t102)), .int .i64 0] rfl (by (try simp only [List.map_toArray, List.map_cons, List.map_nil]); first | done | rfl | (simp only [List.length_drop, List.length_take]; rfl)) ?_; (with_reducible refine (session_Look.calls _ _ t139 (wrap64 (1 + t101)) (wrap64 (2 + t102)) 0 t147 t148 t149 t150 _ ?side1 ?side2 A61.out).mono ?_); (case side1 => repeat (first | exact (Kd.R_reads' HO_30.out).2.2 | (with_reducible refine Kd.C_alloc ?_ _) | (with_reducible refine Kd.C_drewN ?_ _) | (with_reducible refine Kd.C_drew ?_))); (case side2 => exact (Kd.R_reads' HO_30.out).2.1); rintro e w74 ⟨v151, v153, rfl, ho0, ho1, hb⟩; refine ⟨_, rfl, ?_⟩; have n0_ := Aside0.mk (Kd.R_mono (Kd.R_told (Kd.R_told (Kd.R_old (by (with_reducible repeat (first | apply Kd.R_alloc | apply Kd.R_drewN | apply Kd.R_drew)); exact HO_30.out) hb) (Kd.R_base ho0)) (Kd.R_base ho1)) (fun _ h_ => h_.1)); have n1_ := Aside0.mk (Kd.R_lower (Kd.R_new' ho0 (Kd.R_lt (by (with_reducible repeat (first | apply Kd.R_alloc | apply Kd.R_drewN | apply Kd.R_drew)); exact HO_30.out))) (below_size (by repeat (first | (with_reducible first | exact HB.out | apply below_alloc | apply pw_below_drewN | apply below_drew1) | exact HB.out)))); have n2_ := Aside0.mk (Kd.R_lower ho1 (below_size (by repeat (first | (with_reducible first | exact HB.out | apply below_alloc | apply pw_below_drewN | apply below_drew1) | exact HB.out)))); have n3_ := Aside0.mk (below_step (by repeat (first | (with_reducible first | exact HB.out | apply below_alloc | apply pw_below_drewN | apply below_drew1) | exact HB.out)) hb); clear HO_30; clear HB; have HO_30 := n0_; have HO152 := n1_; have HO154 := n2_; have HB := n3_; clear n0_ n1_ n2_ n3_; (try clear hb); (try clear hb2); (try clear hk); (try clear hi); (try clear ho0); (try clear ho1)))
                                    go_ret
                                    exact ⟨by first | rfl | (simp [errW_none, errW_some] <;> rfl) | (simp [*, errW_none, errW_some] <;> rfl), by repeat (first | (with_reducible first | exact HB.out | apply below_alloc | apply pw_below_drewN | apply below_drew1) | exact HB.out)⟩
                                · rw [if_neg c62] at H
                                  have c62b0 : (t150 == 0) = false := beq_eq_false_iff_ne.mpr c62
                                  have c62b1 : (t150 != 0) = true := bne_iff_ne.mpr c62
                                  obtain rfl := Option.some.inj H
                                  obtain ⟨Ao75, co75, eo75⟩ := Kd.R_slice HO_30.out
                                  subst eo75
                                  go_wp2_with (first | ((with_reducible refine gate_callee (f := 10) rfl ?_); refine goesL_ (some 174) rfl rfl Try.func10 (by kernel_rfl) rfl #[.slice Ao75 t139.length co75, .int .i64 (wrap64 (1 + t101)), .int .i64 (wrap64 (2 + t102)), .int .i64 0] rfl (by (try simp only [List.map_toArray, List.map_cons, List.map_nil]); first | done | rfl | (simp only [List.length_drop, List.length_take]; rfl)) ?_; (with_reducible refine (session_Look.calls _ _ t139 (wrap64 (1 + t101)) (wrap64 (2 + t102)) 0 t147 t148 t149 t150 _ ?side1 ?side2 A61.out).mono ?_); (case side1 => repeat (first | exact (Kd.R_reads' HO_30.out).2.2 | (with_reducible refine Kd.C_alloc ?_ _) | (with_reducible refine Kd.C_drewN ?_ _) | (with_reducible refine Kd.C_drew ?_))); (case side2 => exact (Kd.R_reads' HO_30.out).2.1); rintro e w76 ⟨v151, v153, rfl, ho0, ho1, hb⟩; refine ⟨_, rfl, ?_⟩; have n0_ := Aside0.mk (Kd.R_mono (Kd.R_told (Kd.R_told (Kd.R_old (by (with_reducible repeat (first | apply Kd.R_alloc | apply Kd.R_drewN | apply Kd.R_drew)); exact HO_30.out) hb) (Kd.R_base ho0)) (Kd.R_base ho1)) (fun _ h_ => h_.1)); have n1_ := Aside0.mk (Kd.R_lower (Kd.R_new' ho0 (Kd.R_lt (by (with_reducible repeat (first | apply Kd.R_alloc | apply Kd.R_drewN | apply Kd.R_drew)); exact HO_30.out))) (below_size (by repeat (first | (with_reducible first | exact HB.out | apply below_alloc | apply pw_below_drewN | apply below_drew1) | exact HB.out)))); have n2_ := Aside0.mk (Kd.R_lower ho1 (below_size (by repeat (first | (with_reducible first | exact HB.out | apply below_alloc | apply pw_below_drewN | apply below_drew1) | exact HB.out)))); have n3_ := Aside0.mk (below_step (by repeat (first | (with_reducible first | exact HB.out | apply below_alloc | apply pw_below_drewN | apply below_drew1) | exact HB.out)) hb); clear HO_30; clear HB; have HO_30 := n0_; have HO152 := n1_; have HO154 := n2_; have HB := n3_; clear n0_ n1_ n2_ n3_; (try clear hb); (try clear hb2); (try clear hk); (try clear hi); (try clear ho0); (try clear ho1)))
                                  go_ret
                                  exact ⟨by first | rfl | (simp [errW_none, errW_some] <;> rfl) | (simp [*, errW_none, errW_some] <;> rfl), by repeat (first | (with_reducible first | exact HB.out | apply below_alloc | apply pw_below_drewN | apply below_drew1) | exact HB.out)⟩
        · rw [if_neg c17] at H
          have c17b0 : (t113 == 0) = false := beq_eq_false_iff_ne.mpr c17
          have c17b1 : (t113 != 0) = true := bne_iff_ne.mpr c17
          obtain rfl := Option.some.inj H
          obtain ⟨Ao77, co77, eo77⟩ := Kd.R_slice HO_11.out
          subst eo77
          go_wp2_with (first | ((with_reducible refine gate_callee (f := 12) rfl ?_); refine goesL_ (some 69) rfl rfl Try.func12 (by kernel_rfl) rfl #[.slice Ao77 t103.length co77, .int .i64 (wrap64 (1 + t101)), .int .i64 (wrap64 (2 + t102)), .slice A3 l3.length c3] rfl (by (try simp only [List.map_toArray, List.map_cons, List.map_nil]); first | done | rfl | (simp only [List.length_drop, List.length_take]; rfl)) ?_; (with_reducible refine (session_Done.calls _ _ t103 (wrap64 (1 + t101)) (wrap64 (2 + t102)) _ _ l3 t112 t113 _ ?side1 ?side2 ?side3 ?side4 A16.out).mono ?_); (case side1 => repeat (first | exact (Kd.R_reads' HO_11.out).2.2 | (with_reducible refine Kd.C_alloc ?_ _) | (with_reducible refine Kd.C_drewN ?_ _) | (with_reducible refine Kd.C_drew ?_))); (case side2 => exact (Kd.R_reads' HO_11.out).2.1); (case side3 => repeat (first | exact (Kd.C_below HR3.out HB.out) | (with_reducible refine Kd.C_alloc ?_ _) | (with_reducible refine Kd.C_drewN ?_ _) | (with_reducible refine Kd.C_drew ?_))); (case side4 => exact HC3.out); rintro e w78 ⟨v114, rfl, ho0, hb⟩; refine ⟨_, rfl, ?_⟩; have n0_ := Aside0.mk (Kd.R_elder' (by (with_reducible repeat (first | apply Kd.R_alloc | apply Kd.R_drewN | apply Kd.R_drew)); exact HO_11.out) (Kd.R_base ho0) hb); have n1_ := Aside0.mk (Kd.R_lower (Kd.R_new' ho0 (Kd.R_lt (by (with_reducible repeat (first | apply Kd.R_alloc | apply Kd.R_drewN | apply Kd.R_drew)); exact HO_11.out))) (below_size (by repeat (first | (with_reducible first | exact HB.out | apply below_alloc | apply pw_below_drewN | apply below_drew1) | exact HB.out)))); have n2_ := Aside0.mk (below_step (by repeat (first | (with_reducible first | exact HB.out | apply below_alloc | apply pw_below_drewN | apply below_drew1) | exact HB.out)) hb); clear HO_11; clear HB; have HO_11 := n0_; have HO115 := n1_; have HB := n2_; clear n0_ n1_ n2_; (try clear hb); (try clear hb2); (try clear hk); (try clear hi); (try clear ho0)))
          go_ret
          exact ⟨by first | rfl | (simp [errW_none, errW_some] <;> rfl) | (simp [*, errW_none, errW_some] <;> rfl), by repeat (first | (with_reducible first | exact HB.out | apply below_alloc | apply pw_below_drewN | apply below_drew1) | exact HB.out)⟩

end Go.Proofs.Ytafnjlgdjhegaaa.Pr
