/-
  slices.Insert of one element of type 46 into a row of the call's own, in each of its ways.
-/
import Derived.Test.YtafnjlgdjhegaaaPr0
import Derived.Test.YtafnjlgdjhegaaaG
import Derived.Outline
import Derived.Maps.AppendAt
import Derived.Laws.Externs
namespace Go.Proofs.Ytafnjlgdjhegaaa.Ins46
open Go.RowKit Go.Proofs.YtafnjlgdjhegaaaG
set_option linter.unusedVariables false
set_option linter.unusedSimpArgs false
theorem info46 : (Try.prog.info? 46).map (fun i => (i.zero, i.size, i.bytes)) = some (some (.agg #[.int .i64 0, .slice none 0 0]), 2, 32) := by kernel_rfl
theorem size46 : (Try.prog.info? 46).map (·.size) = some 2 := by kernel_rfl
theorem sizeOf46 : ∀ w, (Go.sizeOf 46).run Try.prog w = .ok 2 w := fun w => by kernel_rfl
theorem overlaps_no (w : World) (a b : Addr) (la ca lb cb : Nat) (hne : a.block ≠ b.block) (tA tB : TypeId) (kA kB : Nat)
    (hsa : w.shape? a.block = some (tA, kA)) (hsb : w.shape? b.block = some (tB, kB)) (hkB : kB ≠ 0)
    (hfa : w.frozen? a = false) (hfe : w.frozen? { block := a.block, off := kA } = false) :
    (callFunc 65 #[.slice (some a) la ca, .slice (some b) lb cb]).run Try.prog w = .ok (.value (.bool false)) w := by
  rw [run_callFunc_extern Try.func65 (by kernel_rfl) (by kernel_rfl) (by kernel_rfl) (e := Extern.SlicesOverlaps.overlaps #[42, 42] #[4]) (by kernel_rfl),
    Lib.run_overlaps_apart w 42 4 46 Try.underlying42 2 sizeOf46 a b la ca lb cb hne tA tB kA kB hsa hsb hkB hfa hfe]
  rfl
set_option maxRecDepth 100000 in
/-- At the end: an append. -/
theorem ins_end (w : World) (B n : Nat) (v : Value) (c : Nat) (A : Option Addr) (hv : v = .slice A n c) (xs vs : List Value) (hown : w.ownsRow B 46 2 v n xs) (ad : Addr) (c1 : Nat) (hvl : vs.length = 2) (hvs : ∀ j u, vs[j]? = some u → w.cell? (ad.add j) = some u)
    (h1v : ∀ u ∈ vs, u.oneCell' = true) (hB : B ≤ w.heap.size) (hbytes : (n + 1) * 32 ≤ 140737488355328) :
    Calls Try.prog 46 #[v, .int .i64 n, .slice (some ad) 1 c1] w fun e w' => ∃ v', e = .returned v' ∧ w'.ownsRow B 46 2 v' (n + 1) (xs ++ vs) ∧ w.grownBy w' v.ownBlock ∧ (v'.ownBlock = v.ownBlock ∨ ∃ b, v'.ownBlock = some b ∧ w.heap.size ≤ b) := by
  have hz1 : ((1 : Int) == 0) = false := rfl
  have hz2 : ((n : Int) == (n : Int)) = true := by simp
  obtain ⟨i0, hi0, hz0, hzs, hzb⟩ := info_parts info46
  have HO := hd hown
  clear hown
  have hm3 : n + 1 ≤ maxLen := by unfold maxLen; omega
  have hn : n ≤ 9223372036854775807 := by omega
  have HV := hd hv
  clear hv
  rw [HV.out] at HO ⊢
  go_enter Try.func46, Try.ntmps46
  go_wp2_with (at_builtin; refine wpList_append_own_at _ rfl _ _ 42 rfl B 46 i0 (.agg #[.int .i64 0, .slice none 0 0]) 2 32 Try.underlying42 hi0 hz0 hzs hzb rfl (by decide) (.slice A n c) n xs rfl HO.out ad 1 c1 vs rfl (by rw [hvl]) hvs h1v hm3 hbytes hB ?_; intro v' w1 hown1 hg1 _ hat)
  all_goals
    go_wp2
    go_ret
    exact ⟨_, rfl, hown1, by cases A <;> exact hg1, hat.elim (fun h => .inl (by cases A <;> exact h)) (fun h => .inr ⟨_, h, Nat.le_refl _⟩)⟩

/-- In the middle, with room: in place. -/
theorem ins_shift (w : World) (n i g c : Nat) (hi : i < n) (hroom : n + 1 ≤ c) (hc : c ≤ 9223372036854775807) (cur vs : List Value) (hg : w.heap[g]? = some (.cells cur.toArray 46 (0, 0))) (hcl : cur.length = c * 2) (ad : Addr) (c1 : Nat) (hne : ad.block ≠ g)
    (hvl : vs.length = 2) (hvs : ∀ j u, vs[j]? = some u → w.cell? (ad.add j) = some u) (h1c : ∀ u ∈ cur.take (n * 2), u.oneCell' = true) (h1v : ∀ u ∈ vs, u.oneCell' = true)
    (tA kA : Nat) (hsa : w.shape? ad.block = some (tA, kA)) (hfa : w.frozen? ad = false) (hfe : w.frozen? { block := ad.block, off := kA } = false) :
    Calls Try.prog 46 #[.slice (some ⟨g, 0, none⟩) n c, .int .i64 i, .slice (some ad) 1 c1] w fun e w' => e = .returned (.slice (some ⟨g, 0, none⟩) (n + 1) c) ∧
      w'.heap[g]? = some (.cells (splice (splice cur ((i + 1) * 2) ((cur.drop (i * 2)).take ((n - i) * 2))) (i * 2) vs).toArray 46 (0, 0)) ∧ w.grownBy w' (some g) := by
  have hov : ∀ lb cb, (callFunc 65 #[.slice (some ad) 1 c1, .slice (some ⟨g, (i + 1) * 2, none⟩) lb cb]).run Try.prog w = .ok (.value (.bool false)) w := fun lb cb =>
    overlaps_no w ad ⟨g, (i + 1) * 2, none⟩ 1 c1 lb cb hne tA 46 kA cur.length hsa (by simp [World.shape?, hg]) (by omega) hfa hfe
  have hz2 : ((i : Int) == (n : Int)) = false := by simp; omega
  have hz3 : decide ((c : Int) < (n : Int) + 1) = false := by simp; omega
  have hb2 : ¬ (c = i + 1) := by omega
  have hb4 : ¬ (c = i) := by omega
  have hw1 : (0 : Int) ≤ (i : Int) + 1 := by omega
  have hw2 : ((i : Int) + 1).toNat = i + 1 := by omega
  have hw3 : (i : Int) + 1 ≤ (n : Int) + 1 := by omega
  have hw5 : (i : Int) ≤ (n : Int) + 1 := by omega
  have hx1 : ((cur.drop (i * 2)).take ((n - i) * 2)).length = Nat.min (n + 1 - i) (n + 1 - (i + 1)) * 2 := by
    rw [List.length_take, List.length_drop, hcl]
    change _ = min (n + 1 - i) (n + 1 - (i + 1)) * 2
    omega
  have hx2 : ∀ j v, ((cur.drop (i * 2)).take ((n - i) * 2))[j]? = some v → w.drew.cell? ((⟨g, i * 2, none⟩ : Addr).add j) = some v := fun j v hj => by
    rw [add_off]
    show w.cell? _ = _
    rw [cell_block hg]
    rw [List.getElem?_take] at hj
    split at hj
    · rwa [List.getElem?_drop] at hj
    · cases hj
  have hx3 : (i + 1) * 2 + ((cur.drop (i * 2)).take ((n - i) * 2)).length ≤ cur.length := by
    rw [List.length_take, List.length_drop, hcl]
    omega
  have hx4 : ∀ v ∈ (cur.drop (i * 2)).take ((n - i) * 2), v.oneCell' = true := fun v hv => h1c v (List.mem_of_mem_drop (i := i * 2) (by rw [List.drop_take, ← Nat.sub_mul]; exact hv))
  have hx5 : (splice cur ((i + 1) * 2) ((cur.drop (i * 2)).take ((n - i) * 2))).length = cur.length := length_splice _ _ _ hx3
  generalize hmid : (cur.drop (i * 2)).take ((n - i) * 2) = mid at *
  clear hmid
  have X1 := hd hx1
  have X2 := hd hx2
  have X3 := hd hx3
  have X4 := hd hx4
  have X5 := hd hx5
  clear hx1 hx2 hx3 hx4 hx5
  have hy1 : vs.length = Nat.min 1 (n + 1 - i) * 2 := by
    rw [hvl]
    change _ = min 1 (n + 1 - i) * 2
    omega
  have Y1 := hd hy1
  have hy2 : ∀ w1 : World, w.drew.grownBy w1 (some g) → ∀ j v, vs[j]? = some v → w1.cell? (ad.add j) = some v := fun w1 R j v hj =>
    R.cell (show w.drew.cell? _ = _ from hvs j v hj) (by rw [add_block]; simpa using hne)
  have Y2 := hd hy2
  have hy3 : i * 2 + vs.length ≤ (splice cur ((i + 1) * 2) mid).length := by
    rw [X5.out, hvl]
    omega
  have Y3 := hd hy3
  clear hy1 hy2 hy3
  have hw4 : IntKind.i64.wrap ((i : Int) + 1) = (i : Int) + 1 := by rw [IntKind.wrap_i64]; omega
  have HG := hd hg
  clear hg
  have HL := hd hcl
  clear hcl
  have HV := hd hvl
  clear hvl
  have HS := hd hvs
  clear hvs
  have H1 := hd h1c
  clear h1c
  have H1v := hd h1v
  clear h1v
  clear hsa hfa hfe
  go_enter Try.func46, Try.ntmps46
  go_wp2_with (simp only [hov])
  go_region_law (refine step_copy_k rfl _ _ 42 42 rfl 46 2 Try.underlying42 size46 g ((i + 1) * 2) (n + 1 - (i + 1)) (c - (i + 1)) ⟨g, i * 2, none⟩ (n + 1 - i) (c - i) (by simp [Act.eval, Act.put]) (by simp [Act.eval, Act.put]) cur 46 HG.out mid X1.out X2.out X3.out X4.out ?_; intro w1 G1 R1)
  go_wp2_with (refine wpList_copy_k rfl _ _ 42 42 rfl 46 2 Try.underlying42 size46 g (i * 2) (n + 1 - i) (c - i) ad 1 c1 rfl rfl (splice cur ((i + 1) * 2) mid) 46 G1.out vs Y1.out (Y2.out w1 R1.out) Y3.out H1v.out ?_; intro w2 G2 R2)
  go_ret
  exact ⟨rfl, G2.out, grownBy_trans (grownBy_drew (grownBy_refl _ _)) (grownBy_trans R1.out R2.out)⟩
/-- In the middle, with no room: a new row. -/
theorem ins_grow (w : World) (n i g c : Nat) (hi : i < n) (hnc : n ≤ c) (hroom : c < n + 1) (hbytes : (n + 1) * 32 ≤ 140737488355328) (cur vs : List Value) (hg : w.heap[g]? = some (.cells cur.toArray 46 (0, 0))) (hcl : cur.length = c * 2) (ad : Addr) (c1 : Nat)
    (hvl : vs.length = 2) (hvs : ∀ j u, vs[j]? = some u → w.cell? (ad.add j) = some u) (h1c : ∀ u ∈ cur.take (n * 2), u.oneCell' = true) (h1v : ∀ u ∈ vs, u.oneCell' = true) :
    Calls Try.prog 46 #[.slice (some ⟨g, 0, none⟩) n c, .int .i64 i, .slice (some ad) 1 c1] w fun e w' => ∃ G new, e = .returned (.slice (some ⟨w.heap.size, 0, none⟩) (n + 1) G) ∧ n + 1 ≤ G ∧ G ≤ maxLen ∧ new.length = G * 2 ∧
      w'.heap[w.heap.size]? = some (.cells (List.toArray new) 46 (0, 0)) ∧ new.take ((n + 1) * 2) = (cur.take (n * 2)).take (i * 2) ++ vs ++ (cur.take (n * 2)).drop (i * 2) ∧ w.grownBy w' none := by
  have hz2 : ((i : Int) == (n : Int)) = false := by simp; omega
  have hz3 : decide ((c : Int) < (n : Int) + 1) = true := by simp; omega
  obtain rfl : c = n := by omega
  obtain ⟨i0, hi0, hz0, hzs, hzb⟩ := info_parts info46
  have hb4 : ¬ (c = i) := by omega
  have hw1 : (0 : Int) ≤ (i : Int) + 1 := by omega
  have hw2 : ((i : Int) + 1).toNat = i + 1 := by omega
  have hw5 : (i : Int) ≤ (c : Int) := by omega
  have hw6 : i ≤ c := by omega
  have hkk : Hd ((c : Int) + 1 - (i : Int) = ((c + 1 - i : Nat) : Int)) := hd (by omega)
  have A1 : Hd (0 < c + 1 - i) := hd (by omega)
  have A2 : Hd (c < i + (c + 1 - i)) := hd (by omega)
  have A3 : Hd ((i + (c + 1 - i)) * 32 ≤ 140737488355328) := hd (by omega)
  have A4 : Hd (i + (c + 1 - i) ≤ maxLen) := hd (by unfold maxLen; omega)
  have hsum : i + (c + 1 - i) = c + 1 := by omega
  have hbd : c + 1 ≤ 9223372036854775807 := by omega
  have hlt : g < w.heap.size := (Array.getElem?_eq_some_iff.1 hg).1
  have hlv : ad.block < w.heap.size := by
    have := World.block_lt_of_cell? w _ (hvs 0 _ (List.getElem?_eq_getElem (by omega)))
    rwa [add_block] at this
  have X1 : Hd ((cur.take (i * 2)).length = i * 2) := hd (by rw [List.length_take, hcl]; omega)
  have X2 : Hd (∀ j u, (cur.take (i * 2))[j]? = some u → w.cell? ((⟨g, 0, none⟩ : Addr).add j) = some u) := hd (fun j u hj => by
    rw [add_off, Nat.zero_add, cell_block hg]
    rw [List.getElem?_take] at hj
    split at hj
    · exact hj
    · cases hj)
  have Z1 : Hd (∀ (w1 : World), w.grownBy w1 none → ∀ j v, vs[j]? = some v → w1.cell? (ad.add j) = some v) := hd (fun w1 R j v hj => R.cell (hvs j v hj) (by simp))
  have Z2 : Hd (vs.length = Nat.min 1 (c + 1 - i) * 2) := hd (by
    rw [hvl]
    change _ = min 1 (c + 1 - i) * 2
    omega)
  have Z3 : Hd (((cur.take (c * 2)).drop (i * 2)).length = Nat.min (c - i) (c + 1 - (i + 1)) * 2) := hd (by
    change _ = min (c - i) (c + 1 - (i + 1)) * 2
    rw [List.length_drop, List.length_take, hcl]
    omega)
  have Z4 : Hd (∀ (w1 : World), w.grownBy w1 none → ∀ j v, ((cur.take (c * 2)).drop (i * 2))[j]? = some v → w1.cell? ((⟨g, i * 2, none⟩ : Addr).add j) = some v) := hd (fun w1 R j v hj => by
    rw [add_off]
    refine R.cell ?_ (by simp)
    rw [cell_block hg]
    rw [List.getElem?_drop, List.getElem?_take] at hj
    split at hj
    · exact hj
    · cases hj)
  have Z5 : Hd (∀ v ∈ (cur.take (c * 2)).drop (i * 2), v.oneCell' = true) := hd (fun v hv => h1c v (List.mem_of_mem_drop hv))
  have Z6 : Hd (∀ new : List Value, new.length = 2 → True) := hd (fun _ _ => trivial)
  have HT : Hd (∀ (G : Nat) (new : List Value), c + 1 ≤ G → new.length = G * 2 → new.take (i * 2) = cur.take (i * 2) →
      (splice (splice new (i * 2) vs) ((i + 1) * 2) ((cur.take (c * 2)).drop (i * 2))).take ((c + 1) * 2) = (cur.take (c * 2)).take (i * 2) ++ vs ++ (cur.take (c * 2)).drop (i * 2) ∧
      i * 2 + vs.length ≤ new.length ∧ (i + 1) * 2 + ((cur.take (c * 2)).drop (i * 2)).length ≤ (splice new (i * 2) vs).length ∧ (splice (splice new (i * 2) vs) ((i + 1) * 2) ((cur.take (c * 2)).drop (i * 2))).length = new.length) := hd (fun G new hG hn ht => by
    have a1 : i * 2 + vs.length ≤ new.length := by rw [hvl, hn]; omega
    have a2 : (splice new (i * 2) vs).length = new.length := length_splice _ _ _ a1
    have a3 : (i + 1) * 2 + ((cur.take (c * 2)).drop (i * 2)).length ≤ (splice new (i * 2) vs).length := by
      rw [a2, hn, List.length_drop, List.length_take, hcl]
      omega
    exact ⟨splice_grow new vs (cur.take (c * 2)) c i 2 hvl (by omega) (by rw [List.length_take, hcl]; omega) (by rw [hn]; omega) (by rw [ht, List.take_take, Nat.min_eq_left (by omega)]), a1, a3, by rw [length_splice _ _ _ a3, a2]⟩)
  have H1v := hd h1v
  have HB := hd hbytes
  generalize (cur.take (c * 2)).drop (i * 2) = tl at *
  generalize (cur.take (c * 2)).take (i * 2) = tk at *
  generalize cur.take (i * 2) = ol at *
  clear hg hcl hvl hvs h1c h1v hbytes Z6
  go_enter Try.func46, Try.ntmps46
  have HM : Hd (∀ G, G ≤ maxLen → G ≤ 9223372036854775807) := hd (fun G h => by unfold maxLen at h; omega)
  have hw4 : IntKind.i64.wrap ((i : Int) + 1) = (i : Int) + 1 := by rw [IntKind.wrap_i64]; omega
  go_wp2_with (first
    | (at_builtin; refine wpList_append_zeros rfl _ _ 42 3 rfl 46 i0 (.agg #[.int .i64 0, .slice none 0 0]) 2 32 Try.underlying42 Try.underlying3 hi0 hz0 hzs hzb rfl (by decide) ⟨g, 0, none⟩ i c rfl _ (c + 1 - i) rfl hkk.out ol X1.out X2.out A1.out A2.out A3.out A4.out ?_; intro w1 G new N1 N2 N3 hG1 hG2 R1; rw [hsum] at hG1 ⊢; obtain ⟨T1, T2, T3, T4⟩ := HT.out G new hG1 N2.out N3.out; replace T1 := hd T1; replace T2 := hd T2; replace T3 := hd T3; replace T4 := hd T4; have hG63 := HM.out G hG2; replace hG2 := hd hG2; have hGi : ¬ (G = i) := (by omega); have hGim : ¬ (G = i + 1) := (by omega))
    | (refine wpList_copy_k rfl _ _ 42 42 rfl 46 2 Try.underlying42 size46 w.heap.size (i * 2) (c + 1 - i) (G - i) ad 1 c1 rfl rfl new 46 N1.out vs Z2.out (Z1.out w1 R1.out) T2.out H1v.out ?_; intro w2 G2 R2))
  have HW2 : Hd (w.grownBy w2 none) := hd (grownBy_new R1.out (Nat.le_refl _) R2.out)
  go_region_law (refine step_copy_k rfl _ _ 42 42 rfl 46 2 Try.underlying42 size46 w.heap.size ((i + 1) * 2) (c + 1 - (i + 1)) (G - (i + 1)) ⟨g, i * 2, none⟩ (c - i) (c - i) (by simp [Act.eval, Act.put]) (by simp [Act.eval, Act.put]) (splice new (i * 2) vs) 46 G2.out tl Z3.out (Z4.out w2.drew (grownBy_drew HW2.out)) T3.out Z5.out ?_; intro w3 G3 R3)
  go_wp2
  go_ret
  exact ⟨G, _, rfl, hG1, hG2.out, T4.out.trans N2.out, G3.out, T1.out, grownBy_new (grownBy_drew HW2.out) (Nat.le_refl _) R3.out⟩
/-- slices.Insert of one element into a row of the call's own. -/
theorem ins_any (w : World) (B n i : Nat) (v : Value) (xs vs : List Value) (hown : w.ownsRow B 46 2 v n xs) (hi : i ≤ n) (ad : Addr) (c1 : Nat) (hvl : vs.length = 2) (hvs : ∀ j u, vs[j]? = some u → w.cell? (ad.add j) = some u)
    (h1c : ∀ u ∈ xs, u.oneCell' = true) (h1v : ∀ u ∈ vs, u.oneCell' = true) (hB : B ≤ w.heap.size) (hbytes : (n + 1) * 32 ≤ 140737488355328) (hne : ∀ k, v.ownBlock = some k → ad.block ≠ k)
    (tA kA : Nat) (hsa : w.shape? ad.block = some (tA, kA)) (hfa : w.frozen? ad = false) (hfe : w.frozen? { block := ad.block, off := kA } = false) :
    Calls Try.prog 46 #[v, .int .i64 i, .slice (some ad) 1 c1] w fun e w' => ∃ v', e = .returned v' ∧ w'.ownsRow B 46 2 v' (n + 1) (xs.take (i * 2) ++ vs ++ xs.drop (i * 2)) ∧ w.grownBy w' v.ownBlock ∧ (v'.ownBlock = v.ownBlock ∨ ∃ b, v'.ownBlock = some b ∧ w.heap.size ≤ b) := by
  rcases Nat.lt_or_eq_of_le hi with hlt | rfl
  · obtain ⟨g, cap, cur, rfl, hbg, hg, hnc, hcm, hcl, htk⟩ := own_open hown (by omega)
    subst htk
    by_cases hroom : n + 1 ≤ cap
    · refine (ins_shift w n i g cap hlt hroom (by unfold maxLen at hcm; omega) cur vs hg hcl ad c1 (hne g rfl) hvl hvs h1c h1v tA kA hsa hfa hfe).mono ?_
      rintro e w' ⟨rfl, hg', hr⟩
      have hx3 : (i + 1) * 2 + ((cur.drop (i * 2)).take ((n - i) * 2)).length ≤ cur.length := by
        rw [List.length_take, List.length_drop, hcl]
        omega
      refine ⟨_, rfl, own_shut hbg hg' hroom hcm ?_ (splice_insert cur vs n i 2 hvl (by omega) (by omega)), hr, .inl rfl⟩
      rw [length_splice _ _ _ (by rw [length_splice _ _ _ hx3, hvl, hcl]; omega), length_splice _ _ _ hx3, hcl]
    · refine (ins_grow w n i g cap hlt hnc (by omega) hbytes cur vs hg hcl ad c1 hvl hvs h1c h1v).mono ?_
      rintro e w' ⟨G, new, rfl, hG, hGm, hnl, hh, ht, hr⟩
      exact ⟨_, rfl, own_shut hB hh hG hGm hnl ht, ⟨hr.os, hr.tape, hr.output, hr.size, fun k hk _ => hr.block k hk (by simp)⟩, .inr ⟨_, rfl, Nat.le_refl _⟩⟩
  · obtain ⟨A, c, hv⟩ : ∃ A c, v = .slice A i c := by
      rcases hown.2 with ⟨rfl, rfl⟩ | ⟨g, cap, cur, rfl, _⟩
      · exact ⟨none, 0, rfl⟩
      · exact ⟨_, cap, rfl⟩
    refine (ins_end w B i v c A hv xs vs hown ad c1 hvl hvs h1v hB hbytes).mono ?_
    rintro e w' ⟨v', rfl, ho, hr, hat⟩
    have hl : xs.length = i * 2 := hown.1
    rw [List.take_of_length_le (by omega), List.drop_of_length_le (by omega), List.append_nil]
    exact ⟨v', rfl, ho, hr, hat⟩
end Go.Proofs.Ytafnjlgdjhegaaa.Ins46
